/- Texts joined: C43, C44, C51, C52, C54, C55, C45, C46, C48, C49, C53, C56, C57, C58, C59, C60, C61, C62, C63, C47, C64, C65, D1, D2, D3, D4, D5, D6, C66, K1, K2. -/
import Derived.Test.YtbeelfopmkbllaaGreatDoorM5
import Derived.Test.YtbeelfopmkbllaaGreatDoorRows
import Derived.WalkKit
import Derived.ProofKit
import Derived.OpenShut
import Derived.Carry
import Derived.Deep.Slices
import Derived.ChangeMaps5
import Derived.LaidMore
import Derived.Lay
set_option linter.unusedSimpArgs false
set_option linter.unusedVariables false
set_option linter.unusedSectionVars false
set_option maxRecDepth 100000
set_option synthInstance.maxHeartbeats 4000000
set_option synthInstance.maxSize 20000
set_option maxHeartbeats 2000000
namespace Go.Proofs.YtbeelfopmkbllaaGreatDoor
section
open Go Q Go.RowKit
def sayC : CodeM := ⟨[⟨#[83, 65, 89, 32, 49]⟩, ⟨#[49]⟩, ⟨#[65]⟩], [], [], [], [], [⟨1, 1, 0, 0⟩, ⟨3, 1, 0, 0⟩, ⟨13, 0, 0, 0⟩, ⟨39, 0, 0, 0⟩, ⟨2, 0, 0, 0⟩, ⟨46, 0, 0, 0⟩]⟩
def badC : CodeM := ⟨[⟨#[83, 65, 89, 32, 49]⟩, ⟨#[49]⟩, ⟨#[65]⟩], [], [], [], [], [⟨1, 1, 0, 0⟩, ⟨3, 1, 0, 0⟩, ⟨39, 0, 0, 0⟩, ⟨39, 0, 0, 0⟩, ⟨2, 0, 0, 0⟩, ⟨46, 0, 0, 0⟩]⟩
def jumpC : CodeM := ⟨[], [], [], [], [], [⟨23, 0, 0, 0⟩]⟩
theorem say_check : (checkM sayC).1 = 0 := by decide +kernel
theorem say_stack : ((depthsM sayC).getD []).map stackV = [0, 0, 1, 1, 0, 0] := by decide +kernel
theorem say_loops : ((depthsM sayC).getD []).map loopsV = [0, 0, 0, 0, 0, 0] := by decide +kernel
theorem say_text : 10 < (textB sayC).size ∧ (textB sayC).extract 0 10 = ⟨#[116, 101, 120, 116, 32, 34, 83, 65, 89, 32]⟩ := by decide +kernel
theorem say_enc : encE sayC = 0 ∧ 3 < (encB sayC).length ∧ (encB sayC)[0]? = some 81 ∧ (encB sayC)[1]? = some 6 ∧ (encB sayC)[2]? = some 10 := by decide +kernel
theorem bad_check : (checkM badC).1 = 12 := by decide +kernel
theorem jump_check : (checkM jumpC).1 = 0 := by decide +kernel
instance {a b c d : Int} : Pu 45 #[.int .i64 a, .int .i64 b, .int .i64 c, .int .i64 d] (InsM.v ⟨a, b, c, d⟩) := ⟨fun z w => Fn1.intro fun hS => en45 (by
  unfold vc45
  (repeat (first | refine V_run ?_ | (refine iV_bx ?_; intro _ _ _ _) | (refine iU_st ?_; intro _ _) | refine iHV_N ?_))
  exact ⟨_, _, ‹_›, rfl⟩)⟩
theorem sayOne_of {z : Z} {w : World} : Fn 44 #[] z [] w fun _ B' r => ∃ b1 b2, B' = [(b2, .cells (sayC.ins.flatMap InsM.cells).toArray 38 (0, 0)), (b1, .cells (sayC.consts.map Value.string).toArray 9 (0, 0))] ∧ r = .agg #[.slice (some ⟨b1, 0, none⟩) 3 3, nilS, nilS, nilS, nilS, .slice (some ⟨b2, 0, none⟩) 6 6] := Fn.intro fun hS => en44 (by
  unfold vc44
  (repeat (refine iV_bx ?_; intro _ _ _ _))
  refine V_bs rfl (by omega) ?_
  intro b1 w1 hb1 hS1
  (repeat (refine CV_pu ?_; intro _ _ _ _))
  refine V_bs rfl (by omega) ?_
  intro b2 w2 hb2 hS2
  (repeat (first | refine V_run ?_ | (refine iU_st ?_; intro _ _) | refine iHV_N ?_))
  rename_i w3 hS3
  exact ⟨_, _, hS3.keep [.at b2, .at b1], b1, b2, rfl, rfl⟩)
section
variable {w0 w : World} {z0 z : Z} {B0 L : Bl} {b : Nat}
theorem frzStrs {l : List ByteArray} {n : Nat} (hS : Res w0 z0 B0 w z ((b, .cells (l.map Value.string).toArray 9 (0, 0)) :: L)) (hn : l.length = n) (h1 : n ≤ 1000) (h2 : ∀ x ∈ l, x.size ≤ 1000) : ∃ z', Le z z' ∧ Res w0 z0 B0 w z' L ∧ SlR El.str z' (.slice (some ⟨b, 0, none⟩) n n) l := by
  have hfl : (l.map fun x => Value.string x) = l.flatMap fun x => [Value.string x] := map_flatS l
  have hlen : (l.map Value.string).length = n := by rw [List.length_map, hn]
  obtain ⟨z2, hz2, hS2, hv⟩ := Res.freezeSl (E := El.str) (e := 9) (B := [(b, _)]) (L := L) (v := .slice (some ⟨b, 0, none⟩) l.length n) (xs := l) (f := fun x => [Value.string x]) hS ⟨by rw [← hfl, hlen, hn]; exact (Nat.mul_one _).symm, .inr ⟨b, n, [], by rw [← hfl, List.append_nil], rfl, by omega, by simp only [maxLen]; omega, by rw [← hfl, List.append_nil, hlen]; exact (Nat.mul_one _).symm⟩⟩ (by simp only [big]; omega) (fun _ => rfl) (fun z x hx => ⟨rfl, by have := h2 x hx; simp only [big]; omega⟩)
  rw [hn] at hv
  exact ⟨z2, hz2, hS2, hv⟩
theorem frzIns {l : List InsM} {n : Nat} (hS : Res w0 z0 B0 w z ((b, .cells (l.flatMap InsM.cells).toArray 38 (0, 0)) :: L)) (hn : l.length = n) (h1 : n ≤ 1000) : ∃ z', Le z z' ∧ Res w0 z0 B0 w z' L ∧ SlR El.ins z' (.slice (some ⟨b, 0, none⟩) n n) l := by
  have hlen : (l.flatMap InsM.cells).length = n * 4 := by rw [insLen, hn]
  obtain ⟨z2, hz2, hS2, hv⟩ := Res.freezeSl (E := El.ins) (e := 38) (B := [(b, _)]) (L := L) (v := .slice (some ⟨b, 0, none⟩) l.length n) (xs := l) (f := InsM.cells) hS ⟨by rw [hlen, hn]; rfl, .inr ⟨b, n, [], by rw [List.append_nil], rfl, by omega, by simp only [maxLen]; omega, by rw [List.append_nil, hlen]; rfl⟩⟩ (by simp only [big]; omega) (fun _ => rfl) (fun z x hx => rfl)
  rw [hn] at hv
  exact ⟨z2, hz2, hS2, hv⟩
end
theorem frzInts {w0 w : World} {z0 z : Z} {B0 L : Bl} {b : Nat} {l : List Int} {n : Nat} (hS : Res w0 z0 B0 w z ((b, .cells (l.map fun x => Value.int .i64 x).toArray 3 (0, 0)) :: L)) (hn : l.length = n) (h1 : n ≤ 1000) : ∃ z', Le z z' ∧ Res w0 z0 B0 w z' L ∧ SlR El.int z' (.slice (some ⟨b, 0, none⟩) n n) l := by
  have hfl : (l.map fun x => Value.int .i64 x) = l.flatMap fun x => [Value.int .i64 x] := map_flat l
  have hlen : (l.map fun x => Value.int .i64 x).length = n := by rw [List.length_map, hn]
  obtain ⟨z2, hz2, hS2, hv⟩ := Res.freezeSl (E := El.int) (e := 3) (B := [(b, _)]) (L := L) (v := .slice (some ⟨b, 0, none⟩) l.length n) (xs := l) (f := fun x => [Value.int .i64 x]) hS ⟨by rw [← hfl, hlen, hn]; exact (Nat.mul_one _).symm, .inr ⟨b, n, [], by rw [← hfl, List.append_nil], rfl, by omega, by simp only [maxLen]; omega, by rw [← hfl, List.append_nil, hlen]; exact (Nat.mul_one _).symm⟩⟩ (by simp only [big]; omega) (fun _ => rfl) (fun z x hx => rfl)
  rw [hn] at hv
  exact ⟨z2, hz2, hS2, hv⟩
theorem sameInts_of {z : Z} {w : World} {v u : Value} {l m : List Int} (hv : SlR El.int z v l) (hu : SlR El.int z u m) : Fn1 30 #[v, u] z w fun _ r => r = .bool (decide (l = m)) := Fn1.intro fun hS => en30 (by
  unfold vc30
  obtain ⟨hb1, a1, c1, rfl, _, hel1⟩ := hv.form
  obtain ⟨hb2, a2, c2, rfl, _, hel2⟩ := hu.form
  refine V_run ?_
  refine V_run ?_
  refine V_run ?_
  refine Cond_nd (fun h => ?_) (fun h => ?_)
  · exact ⟨_, _, hS, by rw [decide_eq_false (fun e : l = m => by rw [e] at h; omega)]⟩
  have hlm : l.length = m.length := by omega
  refine LoopR1 (fun (k : Nat) x => x = .int .i64 k ∧ k ≤ l.length ∧ ∀ i, i < k → l[i]? = m[i]?) (fun k => l.length - k) 0 ⟨rfl, Nat.zero_le _, fun i hi => by omega⟩ ?_
  rintro I M k x w1 z1 m1 ⟨rfl, hk, hall⟩ hz1 hS1 back
  clear hS
  refine V_run ?_
  refine V_run ?_
  refine Cond_d (fun h => ?_) (fun h => ?_)
  · have hk1 : k < l.length := by omega
    have hk2 : k < m.length := by omega
    obtain ⟨b, off, cs, rfl, hr, hat⟩ := hel1 _ _ (List.getElem?_eq_getElem hk1)
    obtain ⟨b', off', cs', rfl, hr', hat'⟩ := hel2 _ _ (List.getElem?_eq_getElem hk2)
    cases hr; cases hr'
    haveI : InR (k : Int) (l.length : Nat) := ⟨by omega, by omega⟩
    haveI : InR (k : Int) (m.length : Nat) := ⟨by omega, by omega⟩
    haveI : InI ((k : Int) + 1) := ⟨by simp only [big] at hb1; omega⟩
    haveI : Fz z b (off + (k : Int).toNat * 1) [.int .i64 l[k]] := ⟨hat⟩
    haveI : Fz z b' (off' + (k : Int).toNat * 1) [.int .i64 m[k]] := ⟨hat'⟩
    (repeat (first | (refine iDr ?_; intro _ _) | refine PV_run ?_ | refine fHV_ld1 ?_))
    refine Cond_nd (fun h3 => ?_) (fun h3 => ?_)
    · exact ⟨_, _, ‹_›, by rw [decide_eq_false]; intro e; subst e; exact h3 rfl⟩
    · refine V_run ?_
      refine back (k + 1) _ _ _ ⟨by simp, by omega, fun i hi => ?_⟩ (Le.refl _) (by assumption) (by omega)
      rcases Nat.lt_or_eq_of_le (Nat.le_of_lt_succ hi) with hi | hi
      · exact hall i hi
      · subst hi; rw [List.getElem?_eq_getElem hk1, List.getElem?_eq_getElem hk2, h3]
  · have hlm2 : l = m := List.ext_getElem? fun i => by
      rcases Nat.lt_or_ge i k with hi | hi
      · exact hall i hi
      · rw [List.getElem?_eq_none (by omega), List.getElem?_eq_none (by omega)]
    exact ⟨_, _, hS1, by rw [decide_eq_true hlm2]⟩)
theorem heff (i : InsM) : Pu 17 #[i.v] (effM i).v := inferInstance
theorem say_set : SetN (sayC.ins.flatMap InsM.cells) (Int.toNat 2 * 4) (InsM.cells ⟨39, 0, 0, 0⟩) (badC.ins.flatMap InsM.cells) :=
  (inferInstance : SetN ([.int .i64 1, .int .i64 1, .int .i64 0, .int .i64 0, .int .i64 3, .int .i64 1, .int .i64 0, .int .i64 0, .int .i64 13, .int .i64 0, .int .i64 0, .int .i64 0, .int .i64 39, .int .i64 0, .int .i64 0, .int .i64 0, .int .i64 2, .int .i64 0, .int .i64 0, .int .i64 0, .int .i64 46, .int .i64 0, .int .i64 0, .int .i64 0] : List Value) 8 [.int .i64 39, .int .i64 0, .int .i64 0, .int .i64 0] [.int .i64 1, .int .i64 1, .int .i64 0, .int .i64 0, .int .i64 3, .int .i64 1, .int .i64 0, .int .i64 0, .int .i64 39, .int .i64 0, .int .i64 0, .int .i64 0, .int .i64 39, .int .i64 0, .int .i64 0, .int .i64 0, .int .i64 2, .int .i64 0, .int .i64 0, .int .i64 0, .int .i64 46, .int .i64 0, .int .i64 0, .int .i64 0])
theorem head_of {z : Z} {w : World} [ht : Tab z] : Fn1 13 #[] z w fun _ r => r = .bool true := Fn1.intro fun hS => en13 (by
  unfold vc13
  refine CV_fn (B := []) (F := []) (by simpa using hS) sayOne_of (by simp) ?_
  rintro z1 B1 w1 v1 hz1 hS1 ⟨b1, b2, rfl, rfl⟩
  rw [List.append_nil] at hS1
  obtain ⟨z2, hz2, hS2, hv2⟩ := frzIns (n := 6) hS1 rfl (by omega)
  obtain ⟨z3, hz3, hS3, hv3⟩ := frzStrs (n := 3) hS2 rfl (by omega) (by decide)
  have hc3 := CodeR.mk ⟨_, _, _, _, _, _, rfl, hv3, SlR.nil, SlR.nil, SlR.nil, SlR.nil, hv2.mono hz3⟩ (c := sayC)
  clear hS hS1 hS2
  have hz03 : Le z z3 := by (repeat (exact Res.zle (by assumption)))
  haveI : Tab z3 := ht.le hz03
  (repeat (first | refine iV_ldN ?_ | (refine iV_bx ?_; intro _ _ _ _) | (refine iU_st ?_; intro _ _)))
  rename_i bt w4 hbt hS4 w5 hS5
  clear hS3 hS4
  refine CV_1 (depthsX_of hc3) ?_
  rintro z6 w6 v6 hz6 hS6 ⟨vs, vl, rfl, hvs, hvl⟩
  rw [if_pos say_check, say_stack] at hvs
  rw [if_pos say_check, say_loops] at hvl
  clear hS5
  (repeat (first | refine V_run ?_ | refine iV_ldN ?_))
  haveI : Tab z6 := ht.le (hz03.trans hz6)
  refine CV_1 (text_of (hc3.mono hz6)) ?_
  rintro z7 w7 v7 hz7 hS7 rfl
  clear hS6
  (repeat (first | refine V_run ?_ | refine iV_ldN ?_))
  have hz37 := hz6.trans hz7
  refine CV_1 (trim_of (hc3.mono hz37)) ?_
  rintro z8 w8 v8 hz8 hS8 ⟨vc, va, rfl, hvc, hva⟩
  clear hS7
  obtain ⟨q1, q2, q3, q4, q5, q6, k1, k2, k3, k4, k5, k6, rfl, g1, _, _, _, _, _⟩ := hvc.form
  (repeat (first | refine V_run ?_ | refine iV_ldN ?_ | (refine iV_bx ?_; intro _ _ _ _) | (refine iU_st ?_; intro _ _)))
  rename_i b7 w9 hb7 hS9 w10 hS10
  have hz38 := hz37.trans hz8
  refine CV_1 (encode_of (hc3.mono hz38)) ?_
  rintro z11 w11 v11 hz11 hS11 ⟨vb, rfl, hvb⟩
  clear hS8 hS9 hS10
  (repeat (refine V_run ?_))
  have hS12 := hS11.keep [.at bt, .at b7]
  refine CV_fn (B := []) (F := _) hS12 sayOne_of (by simp) ?_
  rintro z13 B13 w13 v13 hz13 hS13 ⟨c1, c2, rfl, rfl⟩
  clear hS11 hS12
  have hS14 := hS13
  simp only [List.cons_append, List.nil_append] at hS14
  clear hS13
  (repeat (first | (refine iDr ?_; intro _ _) | refine PV_run ?_ | (refine iV_bx ?_; intro _ _ _ _) | (refine iU_st ?_; intro _ _) | refine iHV_1 ?_ | refine iRI_1 ?_ | (refine CV_pu ?_; intro _ _ _ _)))
  rename_i b12 w15 hb12 hS15 w16 hS16 w17' hS17' z17 w17 hz17 hS17
  clear hS14 hS15 hS16 hS17'
  haveI := say_set
  refine iU_st ?_
  intro w18 hS18
  clear hS17
  (repeat (refine iV_ldN ?_))
  have hS19 := hS18.keep [.at c2, .at c1, .at b12, .at bt, .at b7]
  clear hS18
  obtain ⟨z20, hz20, hS20, hv20⟩ := frzIns (n := 6) (l := badC.ins) hS19 rfl (by omega)
  obtain ⟨z21, hz21, hS21, hv21⟩ := frzStrs (n := 3) (l := badC.consts) hS20 rfl (by omega) (by decide)
  clear hS19 hS20
  have hc21 := CodeR.mk ⟨_, _, _, _, _, _, rfl, hv21, SlR.nil, SlR.nil, SlR.nil, SlR.nil, hv20.mono hz21⟩ (c := badC)
  refine CV_1 (check_of hc21) ?_
  rintro z22 w22 v22 hz22 hS22 rfl
  clear hS21
  (repeat (first | refine V_run ?_ | (refine CV_pu ?_; intro _ _ _ _)))
  rename_i z23 w23 hz23 hS23
  clear hS22
  refine V_bs (t := 26) rfl (by omega) ?_
  intro bj w24 hbj hS24
  obtain ⟨z25, hz25, hS25, hv25⟩ := frzIns (n := 1) (l := jumpC.ins) hS24 rfl (by omega)
  clear hS23 hS24
  have hc25 := CodeR.mk ⟨_, _, _, _, _, _, rfl, SlR.nil, SlR.nil, SlR.nil, SlR.nil, SlR.nil, hv25⟩ (c := jumpC)
  (repeat (refine V_run ?_))
  refine CV_1 (check_of hc25) ?_
  rintro z26 w26 v26 hz26 hS26 rfl
  clear hS25
  (repeat (first | refine V_run ?_ | (refine CV_pu ?_; intro _ _ _ _)))
  rename_i z27 w27 hz27 hS27
  clear hS26
  refine CV_pu (v := EffM.v ⟨3, 0, 0⟩) (g := heff ⟨27, 0, 13, 0⟩) ?_
  intro z28 w28 hz28 hS28
  clear hS27
  rw [say_check, bad_check, jump_check, say_enc.1]
  simp only [textE, say_check]
  have hz628 : Le z6 z28 := hz7.trans <| hz8.trans <| hz11.trans <| hz13.trans <| hz17.trans <| hz20.trans <| hz21.trans <| hz22.trans <| hz23.trans <| hz25.trans <| hz26.trans <| hz27.trans hz28
  have hz1128 : Le z11 z28 := hz13.trans <| hz17.trans <| hz20.trans <| hz21.trans <| hz22.trans <| hz23.trans <| hz25.trans <| hz26.trans <| hz27.trans hz28
  refine V_run ?_
  refine V_run ?_
  refine V_run ?_
  refine V_run ?_
  intro F1 hF1
  refine Cond_d (fun _ => ?_) (fun h => absurd (by decide) h)
  refine V_lit [0, 0, 1, 1, 0, 0] rfl rfl (by omega) ?_
  intro z30 w30 v30 hz30 hS30 hv30
  refine CV_1 (sameInts_of (hvs.mono (hz628.trans hz30)) hv30) ?_
  rintro z31 w31 v31 hz31 hS31 rfl
  clear hS30 hS28
  refine hF1 _ _ fun _ => ?_
  clear hF1
  intro F2 hF2
  refine Cond_d (fun _ => ?_) (fun h => absurd (by decide) h)
  refine iV_ms (n := 6) (by omega) (by omega) ?_
  intro b32 w32 hb32 hS32
  obtain ⟨z33, hz33, hS33, hv33⟩ := frzInts (n := 6) (l := [0, 0, 0, 0, 0, 0]) hS32 rfl (by omega)
  refine CV_1 (sameInts_of (hvl.mono (hz628.trans (hz30.trans (hz31.trans hz33)))) hv33) ?_
  rintro z34 w34 v34 hz34 hS34 rfl
  clear hS31 hS32 hS33
  refine hF2 _ _ fun _ => ?_
  clear hF2
  intro F3 hF3
  refine Cond_d (fun _ => ?_) (fun h => absurd (by decide) h)
  refine V_run ?_
  refine hF3 _ _ fun _ => ?_
  clear hF3
  have hz1134 : Le z11 z34 := hz1128.trans <| hz30.trans <| hz31.trans <| hz33.trans hz34
  obtain ⟨hlt, hpre⟩ := say_text
  obtain ⟨he0, he1, he2, he3, he4⟩ := say_enc
  obtain ⟨_, ab, kb, rfl, _, helb⟩ := hvb.form
  intro F4 hF4
  refine Cond_d (fun _ => ?_) (fun h => absurd (by decide) h)
  refine V_run ?_
  refine V_run ?_
  refine hF4 _ _ fun _ => ?_
  clear hF4
  intro F5 hF5
  refine Cond_d (fun _ => ?_) (fun h => absurd (by omega) h)
  haveI : InR 10 (((textB sayC).size : Nat) + 1) := ⟨by omega, by omega⟩
  refine V_run ?_
  rw [show (textB sayC).extract 0 (Int.toNat 10) = _ from hpre]
  refine V_run ?_
  refine hF5 _ _ fun _ => ?_
  clear hF5
  refine V_run ?_
  intro F6 hF6
  refine Cond_d (fun _ => ?_) (fun h => absurd (by decide) h)
  refine V_run ?_
  refine iV_ld1 ?_
  refine V_run ?_
  refine V_run ?_
  refine hF6 _ _ fun _ => ?_
  clear hF6
  intro F7 hF7
  refine Cond_d (fun _ => ?_) (fun h => absurd (by decide) h)
  refine V_run ?_
  refine hF7 _ _ fun _ => ?_
  clear hF7
  intro F8 hF8
  refine Cond_d (fun _ => ?_) (fun h => absurd (by decide) h)
  refine V_run ?_
  refine V_run ?_
  refine hF8 _ _ fun _ => ?_
  clear hF8
  intro F9 hF9
  refine Cond_d (fun _ => ?_) (fun h => absurd (by omega) h)
  obtain ⟨b9, o9, c9, rfl, hr9, hat9⟩ := helb _ _ he2
  cases hr9
  haveI : InR 0 ((encB sayC).length : Nat) := ⟨by omega, by omega⟩
  refine V_run ?_
  refine zV_ld1 (hat9.mono hz1134) ?_
  refine V_run ?_
  refine hF9 _ _ fun _ => ?_
  clear hF9
  intro F10 hF10
  refine Cond_d (fun _ => ?_) (fun h => absurd (by decide) h)
  obtain ⟨b10, o10, c10, e10, hr10, hat10⟩ := helb _ _ he3
  cases e10
  cases hr10
  haveI : InR 1 ((encB sayC).length : Nat) := ⟨by omega, by omega⟩
  refine V_run ?_
  refine zV_ld1 (hat10.mono hz1134) ?_
  refine V_run ?_
  refine hF10 _ _ fun _ => ?_
  clear hF10
  intro F11 hF11
  refine Cond_d (fun _ => ?_) (fun h => absurd (by decide) h)
  obtain ⟨b11, o11, c11, e11, hr11, hat11⟩ := helb _ _ he4
  cases e11
  cases hr11
  haveI : InR 2 ((encB sayC).length : Nat) := ⟨by omega, by omega⟩
  refine V_run ?_
  refine zV_ld1 (hat11.mono hz1134) ?_
  refine V_run ?_
  refine hF11 _ _ fun _ => ?_
  clear hF11
  intro F12 hF12
  refine Cond_d (fun _ => ?_) (fun h => absurd (by decide) h)
  refine hF12 _ _ fun _ => ?_
  clear hF12
  intro F13 hF13
  refine Cond_d (fun _ => ?_) (fun h => absurd (by decide) h)
  refine V_run ?_
  refine hF13 _ _ fun _ => ?_
  clear hF13
  intro F14 hF14
  refine Cond_d (fun _ => ?_) (fun h => absurd (by decide) h)
  refine V_run ?_
  refine hF14 _ _ fun _ => ?_
  clear hF14
  intro F15 hF15
  refine Cond_d (fun _ => ?_) (fun h => absurd (by decide) h)
  refine V_run ?_
  refine hF15 _ _ fun _ => ?_
  clear hF15
  intro F16 hF16
  refine Cond_d (fun _ => ?_) (fun h => absurd (by decide) h)
  refine V_run ?_
  refine hF16 _ _ fun _ => ?_
  clear hF16
  intro F17 hF17
  refine Cond_d (fun _ => ?_) (fun h => absurd (by decide) h)
  refine V_run ?_
  refine hF17 _ _ fun _ => ?_
  clear hF17
  exact ⟨_, _, hS34, rfl⟩)
instance {z : Z} [ht : Tab z] : PuZ z 13 #[] (.bool true) := ⟨fun z' w hz => by haveI := ht.le hz; exact head_of⟩
end
section
open Go Q Go.RowKit
structure RowM where
  name : ByteArray
  k0 : Int
  k1 : Int
  k2 : Int
  m0 : Int
  m1 : Int
  m2 : Int
  pops : Int
  pushes : Int
  final : Bool
abbrev RowM.cells (f : RowM) : List Value := [.string f.name, .int .i64 f.k0, .int .i64 f.k1, .int .i64 f.k2, .int .i64 f.m0, .int .i64 f.m1, .int .i64 f.m2, .int .i64 f.pops, .int .i64 f.pushes, .bool f.final]
abbrev RowM.v (f : RowM) : Value := .agg f.cells.toArray
def El.row : El RowM where
  size := 10
  rel := fun _ cs x => cs = x.cells
  mono := fun h _ => h
  len := fun h => by rw [h]; rfl
  pos := by decide
end
section
open Go Q Go.RowKit
end
section
open Go Q Go.RowKit
end
section
open Go Q Go.RowKit
end
section
open Go Q Go.RowKit
end
section
open Go Q Go.RowKit
def manyM (n s l : Int) : Bool := (decide (n > s) && decide (n ≤ l)) || decide (n > l + 20)
theorem manyI {n s l : Int} (h : InI (l + 20)) : Pu 34 #[.int .i64 n, .int .i64 s, .int .i64 l] (.bool (manyM n s l)) := ⟨fun z w => fnW en34 (fun hS R => by unfold vc34; exact inferInstance) (by
  unfold manyM; congr 1; by_cases h1 : n > s <;> by_cases h2 : n ≤ l <;> by_cases h3 : n > l + 20 <;> simp [h1, h2, h3])⟩
instance {n s : Int} : Pu 34 #[.int .i64 n, .int .i64 s, .int .i64 3000] (.bool (manyM n s 3000)) := manyI ⟨by omega⟩
instance {n s : Int} : Pu 34 #[.int .i64 n, .int .i64 s, .int .i64 100] (.bool (manyM n s 100)) := manyI ⟨by omega⟩
instance {n s : Int} : Pu 34 #[.int .i64 n, .int .i64 s, .int .i64 12000] (.bool (manyM n s 12000)) := manyI ⟨by omega⟩
instance {n s : Int} : Pu 34 #[.int .i64 n, .int .i64 s, .int .i64 10000] (.bool (manyM n s 10000)) := manyI ⟨by omega⟩
theorem few_of {z : Z} {w : World} {v : Value} {c : CodeM} (hc : CodeR z v c) : Fn1 14 #[v] z w fun _ r => ∃ b, r = .bool b := Fn1.intro fun hS => en14 (by
  unfold vc14
  obtain ⟨a1, a2, a3, a4, a5, a6, k1, k2, k3, k4, k5, k6, rfl, h1, h2, h3, h4, h5, h6⟩ := hc.form
  refine iV_bx ?_
  intro bc w1 hbc hS1
  obtain ⟨zc, hzc, hS2, hatc⟩ := hS1.frz bc
  generalize hRR : (fun (v : Value) (w' : World) => ∃ z' L', Res w z [] w' z' L' ∧ ∃ b, v = .bool b) = RR
  have hR : ∀ z' w' L' b, Res w1 zc [] w' z' L' → RR (.bool b) w' := fun z' w' L' b k => by rw [← hRR]; exact ⟨z', L', hS2.comp k, b, rfl⟩
  clear hRR
  have hS3 := hS2.self
  clear hS hS1 hS2
  haveI : Fz zc bc 0 [.slice a1 c.consts.length k1] := ⟨hatc.fld (i := 0) rfl rfl⟩
  haveI : Fz zc bc 1 [.slice a2 c.tmpls.length k2] := ⟨hatc.fld (i := 1) rfl rfl⟩
  haveI : Fz zc bc 2 [.slice a3 c.lists.length k3] := ⟨hatc.fld (i := 2) rfl rfl⟩
  haveI : Fz zc bc 3 [.slice a4 c.labels.length k4] := ⟨hatc.fld (i := 3) rfl rfl⟩
  haveI : Fz zc bc 4 [.slice a5 c.slots.length k5] := ⟨hatc.fld (i := 4) rfl rfl⟩
  haveI : Fz zc bc 5 [.slice a6 c.ins.length k6] := ⟨hatc.fld (i := 5) rfl rfl⟩
  (repeat (first | refine V_run ?_ | (refine JGB ?_; intro _ _ _ _) | (refine CV_pu ?_; intro _ _ _ _) | refine fV_ld1 ?_))
  rename_i hS5
  refine Cond_b (fun e1 => ?_) (fun e1 => ?_)
  · exact hR _ _ _ _ hS5
  refine LoopR1 (fun (k : Nat) x => x = .int .i64 k ∧ k ≤ c.consts.length) (fun k => c.consts.length - k) 0 ⟨rfl, Nat.zero_le _⟩ ?_
  rintro I M k x w6 z6 m ⟨rfl, hk⟩ hz6 hS6 back
  obtain ⟨hb1, _, _, e1, _, hel1⟩ := h1.form
  cases e1
  (repeat (first | refine V_run ?_ | refine fV_ld1 ?_))
  refine Cond_d (fun h => ?_) (fun h => ?_)
  · have hlt : k < c.consts.length := by omega
    obtain ⟨b, off, cs, rfl, ⟨rfl, _⟩, hat⟩ := hel1 _ _ (List.getElem?_eq_getElem hlt)
    haveI : InR (k : Int) (c.consts.length : Nat) := ⟨by omega, by omega⟩
    haveI : InI ((k : Int) + 1) := ⟨by simp only [big] at hb1; omega⟩
    haveI : Fz zc b (off + (k : Int).toNat * 1) [.string c.consts[k]] := ⟨hat.mono hzc⟩
    (repeat (first | refine V_run ?_ | refine fV_ld1 ?_))
    refine Cond_d (fun h => ?_) (fun h => ?_)
    · exact hR _ _ _ _ ‹Res w1 zc [] _ _ _›
    · (repeat (refine V_run ?_))
      exact back (k + 1) _ _ _ ⟨by simp, by omega⟩ (by (repeat (exact Le.refl _))) (by assumption) (by omega)
  clear back
  refine LoopR1 (fun (k : Nat) x => x = .int .i64 k ∧ k ≤ c.tmpls.length) (fun k => c.tmpls.length - k) 0 ⟨rfl, Nat.zero_le _⟩ ?_
  rintro I M k x w7 z7 m ⟨rfl, hk⟩ hz7 hS7 back
  obtain ⟨hb2, _, _, e2, _, hel2⟩ := h2.form
  cases e2
  (repeat (first | refine V_run ?_ | refine fV_ld1 ?_))
  refine Cond_d (fun h => ?_) (fun h => ?_)
  · have hlt : k < c.tmpls.length := by omega
    obtain ⟨b, off, cs, rfl, ⟨v9, rfl, hv9⟩, hat⟩ := hel2 _ _ (List.getElem?_eq_getElem hlt)
    obtain ⟨hb9, a9, c9, rfl, _, hel9⟩ := hv9.form
    haveI : InR (k : Int) (c.tmpls.length : Nat) := ⟨by omega, by omega⟩
    haveI : InI ((k : Int) + 1) := ⟨by simp only [big] at hb2; omega⟩
    haveI : Fz zc b (off + (k : Int).toNat * 1) [.slice a9 c.tmpls[k].length c9] := ⟨hat.mono hzc⟩
    (repeat (first | refine V_run ?_ | (refine CV_pu ?_; intro _ _ _ _) | refine fV_ld1 ?_))
    rename_i hS8
    refine Cond_b (fun h => ?_) (fun h => ?_)
    · exact hR _ _ _ _ hS8
    refine LoopR1 (fun (j : Nat) x => x = .int .i64 j ∧ j ≤ c.tmpls[k].length) (fun j => c.tmpls[k].length - j) 0 ⟨rfl, Nat.zero_le _⟩ ?_
    rintro I2 M2 j x w9 z9 m2 ⟨rfl, hj⟩ hz9 hS9 back2
    (repeat (first | refine V_run ?_ | refine fV_ld1 ?_))
    refine Cond_d (fun h => ?_) (fun h => ?_)
    · have hlt2 : j < c.tmpls[k].length := by omega
      obtain ⟨b2, off2, cs, rfl, ⟨rfl, _⟩, hat2⟩ := hel9 _ _ (List.getElem?_eq_getElem hlt2)
      haveI : InR (j : Int) (c.tmpls[k].length : Nat) := ⟨by omega, by omega⟩
      haveI : InI ((j : Int) + 1) := ⟨by simp only [big] at hb9; omega⟩
      haveI : Fz zc b2 (off2 + (j : Int).toNat * 3) c.tmpls[k][j].cells := ⟨hat2.mono hzc⟩
      haveI : Fz zc b2 (off2 + (j : Int).toNat * 3 + 1) [.string c.tmpls[k][j].text] := ⟨(hat2.mono hzc).fld (i := 1) rfl rfl⟩
      (repeat (first | refine V_run ?_ | refine fV_ld1 ?_))
      refine Cond_d (fun h => ?_) (fun h => ?_)
      · exact hR _ _ _ _ ‹Res w1 zc [] _ _ _›
      · (repeat (refine V_run ?_))
        exact back2 (j + 1) _ _ _ ⟨by simp, by omega⟩ (by (repeat (exact Le.refl _))) (by assumption) (by omega)
    · (repeat (refine V_run ?_))
      exact back (k + 1) _ _ z9 ⟨by simp, by omega⟩ (by (repeat (first | assumption | refine Le.trans ?_ (by assumption : Le _ _)))) hS9 (by omega)
  clear back
  refine LoopR1 (fun (k : Nat) x => x = .int .i64 k ∧ k ≤ c.lists.length) (fun k => c.lists.length - k) 0 ⟨rfl, Nat.zero_le _⟩ ?_
  rintro I M k x w10 z10 m ⟨rfl, hk⟩ hz10 hS10 back
  obtain ⟨hb3, _, _, e3, _, hel3⟩ := h3.form
  cases e3
  (repeat (first | refine V_run ?_ | refine fV_ld1 ?_))
  refine Cond_d (fun h => ?_) (fun h => ?_)
  · have hlt : k < c.lists.length := by omega
    obtain ⟨b, off, cs, rfl, ⟨v9, rfl, hv9⟩, hat⟩ := hel3 _ _ (List.getElem?_eq_getElem hlt)
    obtain ⟨hb9, a9, c9, rfl, _, hel9⟩ := hv9.form
    haveI : InR (k : Int) (c.lists.length : Nat) := ⟨by omega, by omega⟩
    haveI : InI ((k : Int) + 1) := ⟨by simp only [big] at hb3; omega⟩
    haveI : Fz zc b (off + (k : Int).toNat * 1) [.slice a9 c.lists[k].length c9] := ⟨hat.mono hzc⟩
    (repeat (first | refine V_run ?_ | (refine CV_pu ?_; intro _ _ _ _) | refine fV_ld1 ?_))
    rename_i hS8
    refine Cond_b (fun h => ?_) (fun h => ?_)
    · exact hR _ _ _ _ hS8
    refine LoopR1 (fun (j : Nat) x => x = .int .i64 j ∧ j ≤ c.lists[k].length) (fun j => c.lists[k].length - j) 0 ⟨rfl, Nat.zero_le _⟩ ?_
    rintro I2 M2 j x w9 z9 m2 ⟨rfl, hj⟩ hz9 hS9 back2
    (repeat (first | refine V_run ?_ | refine fV_ld1 ?_))
    refine Cond_d (fun h => ?_) (fun h => ?_)
    · have hlt2 : j < c.lists[k].length := by omega
      obtain ⟨b2, off2, cs, rfl, ⟨rfl, _⟩, hat2⟩ := hel9 _ _ (List.getElem?_eq_getElem hlt2)
      haveI : InR (j : Int) (c.lists[k].length : Nat) := ⟨by omega, by omega⟩
      haveI : InI ((j : Int) + 1) := ⟨by simp only [big] at hb9; omega⟩
      haveI : Fz zc b2 (off2 + (j : Int).toNat * 2 + 0) [.string c.lists[k][j].name] := ⟨(hat2.mono hzc).fld (i := 0) rfl rfl⟩
      haveI : Fz zc b2 (off2 + (j : Int).toNat * 2) [.string c.lists[k][j].name] := ⟨(hat2.mono hzc).fld (i := 0) rfl rfl⟩
      (repeat (first | refine V_run ?_ | refine fV_ld1 ?_))
      refine Cond_d (fun h => ?_) (fun h => ?_)
      · exact hR _ _ _ _ ‹Res w1 zc [] _ _ _›
      · (repeat (refine V_run ?_))
        exact back2 (j + 1) _ _ _ ⟨by simp, by omega⟩ (by (repeat (exact Le.refl _))) (by assumption) (by omega)
    · (repeat (refine V_run ?_))
      exact back (k + 1) _ _ z9 ⟨by simp, by omega⟩ (by (repeat (first | assumption | refine Le.trans ?_ (by assumption : Le _ _)))) hS9 (by omega)
  clear back
  refine LoopR1 (fun (k : Nat) x => x = .int .i64 k ∧ k ≤ c.labels.length) (fun k => c.labels.length - k) 0 ⟨rfl, Nat.zero_le _⟩ ?_
  rintro I M k x w11 z11 m ⟨rfl, hk⟩ hz11 hS11 back
  obtain ⟨hb4, _, _, e4, _, hel4⟩ := h4.form
  cases e4
  (repeat (first | refine V_run ?_ | refine fV_ld1 ?_))
  refine Cond_d (fun h => ?_) (fun h => ?_)
  · have hlt : k < c.labels.length := by omega
    obtain ⟨b, off, cs, rfl, ⟨rfl, _⟩, hat⟩ := hel4 _ _ (List.getElem?_eq_getElem hlt)
    haveI : InR (k : Int) (c.labels.length : Nat) := ⟨by omega, by omega⟩
    haveI : InI ((k : Int) + 1) := ⟨by simp only [big] at hb4; omega⟩
    haveI : Fz zc b (off + (k : Int).toNat * 2 + 0) [.string c.labels[k].name] := ⟨(hat.mono hzc).fld (i := 0) rfl rfl⟩
    haveI : Fz zc b (off + (k : Int).toNat * 2) [.string c.labels[k].name] := ⟨(hat.mono hzc).fld (i := 0) rfl rfl⟩
    (repeat (first | refine V_run ?_ | refine fV_ld1 ?_))
    refine Cond_d (fun h => ?_) (fun h => ?_)
    · exact hR _ _ _ _ ‹Res w1 zc [] _ _ _›
    · (repeat (refine V_run ?_))
      exact back (k + 1) _ _ _ ⟨by simp, by omega⟩ (by (repeat (exact Le.refl _))) (by assumption) (by omega)
  · exact hR _ _ _ _ hS11)
theorem bool_at {z : Z} {a : Option Addr} {n cap k : Nat} {l : List Bool} (h : SlR El.bool z (.slice a n cap) l) (hk : k < l.length) : ∃ b off, a = some ⟨b, off, none⟩ ∧ At z b (off + k * 1) [.bool (l.getD k false)] := by
  obtain ⟨_, a', c', e, _, hel⟩ := h.form
  cases e
  obtain ⟨b, off, cs, ha, hr, hat⟩ := hel _ _ (List.getElem?_eq_getElem hk)
  cases hr
  rw [List.getD_eq_getElem?_getD, List.getElem?_eq_getElem hk]
  exact ⟨b, off, ha, hat⟩
end
section
open Go Q Go.RowKit
theorem mem_insK {out : List Nat} {x y : Nat} : y ∈ insK out x ↔ y ∈ out ∨ y = x := by
  unfold insK
  cases h : memK out x with
  | true =>
    have hx : x ∈ out := by unfold memK at h; simpa using h
    simp only [cond_true]
    exact ⟨.inl, fun h => h.elim id fun e => e ▸ hx⟩
  | false => simp
theorem mem_foldK {l : List (Nat × Bool)} : ∀ {out : List Nat} {y : Nat}, y ∈ l.foldl (fun out p => insK out p.1) out ↔ y ∈ out ∨ y ∈ l.map fun p => p.1 := by
  induction l with
  | nil => simp
  | cons p l ih =>
    intro out y
    rw [List.foldl_cons, ih, mem_insK]
    simp only [List.map_cons, List.mem_cons]
    exact or_assoc
theorem mem_nextL {c : CodeM} {a y : Nat} : y ∈ nextL c a ↔ y ∈ toL c a := by
  unfold nextL toL
  rw [mem_foldK]; simp
theorem getD_set {l : List Bool} {a x : Nat} (ha : a < l.length) : (l.set a true).getD x false = true ↔ x = a ∨ l.getD x false = true := by
  rw [List.getD_eq_getElem?_getD, List.getD_eq_getElem?_getD, List.getElem?_set]
  by_cases h : a = x
  · subst h; simp [ha]
  · rw [if_neg h]
    exact ⟨.inr, fun e => e.elim (fun e => absurd e.symm h) id⟩
theorem runR_closed {c : CodeM} : ∀ (f : Nat) (r : RcM), InvR c.ins.length r → meaR r ≤ f → (∀ a, r.set.getD a false = true → ∀ n ∈ toL c a, r.set.getD n false = true ∨ n ∈ r.open_) →
    (runR c f r).length = c.ins.length ∧ (∀ a, (runR c f r).getD a false = true → ∀ n ∈ toL c a, (runR c f r).getD n false = true) ∧ (∀ x, r.set.getD x false = true ∨ x ∈ r.open_ → (runR c f r).getD x false = true)
  | 0, r, h, hm, hc => by
    have h0 : r.open_ = [] := List.eq_nil_of_length_eq_zero (by unfold meaR at hm; omega)
    rw [h0] at hc
    refine ⟨h.len, fun a ha n hn => (hc a ha n hn).elim id fun e => (by cases e), fun x hx => ?_⟩
    rw [h0] at hx
    exact hx.elim id fun e => (by cases e)
  | f + 1, r, h, hm, hc => by
    unfold runR
    cases hl : r.open_.getLast? with
    | none =>
      have h0 : r.open_ = [] := List.getLast?_eq_none_iff.1 hl
      rw [h0] at hc
      refine ⟨h.len, fun a ha n hn => (hc a ha n hn).elim id fun e => (by cases e), fun x hx => ?_⟩
      rw [h0] at hx
      exact hx.elim id fun e => (by cases e)
    | some a =>
      obtain ⟨l, hla⟩ := List.getLast?_eq_some_iff.1 hl
      obtain ⟨s, o⟩ := r
      simp only at hla hc hl
      subst hla
      obtain ⟨h1, h2, h3⟩ := popR h
      obtain ⟨h4, h5⟩ := stepR_inv (c := c) h1 h3
      have hd : (l ++ [a]).dropLast = l := by simp
      simp only [hd]
      have hsl : s.length = c.ins.length := h.len
      have ih := runR_closed f (stepR c ⟨s, l⟩ a) h4 (by omega) (by
        unfold stepR
        by_cases e : s.getD a false = true
        · rw [if_pos e]
          intro b hb n hn
          rcases hc b hb n hn with h | h
          · exact .inl h
          · rcases List.mem_append.1 h with h | h
            · exact .inr h
            · rw [List.mem_singleton.1 h]; exact .inl e
        · rw [if_neg e]
          intro b hb n hn
          simp only at hb ⊢
          rw [getD_set (by omega)] at hb ⊢
          rw [List.mem_append]
          rcases hb with rfl | hb
          · exact .inr (.inr hn)
          · rcases hc b hb n hn with h | h
            · exact .inl (.inr h)
            · rcases List.mem_append.1 h with h | h
              · exact .inr (.inl h)
              · exact .inl (.inl (List.mem_singleton.1 h)))
      refine ⟨ih.1, ih.2.1, fun x hx => ih.2.2 x ?_⟩
      unfold stepR
      by_cases e : s.getD a false = true
      · rw [if_pos e]
        rcases hx with h | h
        · exact .inl h
        · rcases List.mem_append.1 h with h | h
          · exact .inr h
          · rw [List.mem_singleton.1 h]; exact .inl e
      · rw [if_neg e]
        simp only
        rw [getD_set (by omega), List.mem_append]
        rcases hx with h | h
        · exact .inl (.inr h)
        · rcases List.mem_append.1 h with h | h
          · exact .inr (.inl h)
          · exact .inl (.inl (List.mem_singleton.1 h))
theorem runR_least {c : CodeM} {S : Nat → Prop} (hS : ∀ a, S a → ∀ n ∈ toL c a, S n) : ∀ (f : Nat) (r : RcM), r.set.length = c.ins.length → (∀ a ∈ r.open_, a < c.ins.length) → (∀ a, r.set.getD a false = true → S a) → (∀ a ∈ r.open_, S a) → ∀ a, (runR c f r).getD a false = true → S a
  | 0, r, _, _, h1, _, a, ha => h1 a ha
  | f + 1, r, h0, hlt, h1, h2, a, ha => by
    unfold runR at ha
    cases hl : r.open_.getLast? with
    | none => rw [hl] at ha; exact h1 a ha
    | some b =>
      rw [hl] at ha
      obtain ⟨l, hla⟩ := List.getLast?_eq_some_iff.1 hl
      obtain ⟨s, o⟩ := r
      simp only at hla h1 h2 ha hlt h0
      subst hla
      have hd : (l ++ [b]).dropLast = l := by simp
      simp only [hd] at ha
      have hb : S b := h2 b (by simp)
      have hbl : b < c.ins.length := hlt b (by simp)
      refine runR_least hS f (stepR c ⟨s, l⟩ b) ?_ ?_ ?_ ?_ a ha
      all_goals unfold stepR
      · by_cases e : s.getD b false = true
        · rw [if_pos e]; exact h0
        · rw [if_neg e]; simpa using h0
      · by_cases e : s.getD b false = true
        · rw [if_pos e]; exact fun x hx => hlt x (by simp; exact .inl hx)
        · rw [if_neg e]
          intro x hx
          rcases List.mem_append.1 hx with hx | hx
          · exact hlt x (by simp; exact .inl hx)
          · exact toL_lt x hx
      · by_cases e : s.getD b false = true
        · rw [if_pos e]; exact h1
        · rw [if_neg e]
          intro x hx
          simp only at hx
          rw [getD_set (by omega)] at hx
          rcases hx with rfl | hx
          · exact hb
          · exact h1 x hx
      · by_cases e : s.getD b false = true
        · rw [if_pos e]; exact fun x hx => h2 x (by simp; exact .inl hx)
        · rw [if_neg e]
          intro x hx
          rcases List.mem_append.1 hx with hx | hx
          · exact h2 x (by simp; exact .inl hx)
          · exact hS b hb x hx
theorem reachBad_iff {c : CodeM} : reachBad c = false ↔ c.ins.length ≤ 12000 ∧ c.labels.length ≤ 3000 ∧ c.ins.length ≠ 0 := by
  unfold reachBad
  simp only [Bool.or_eq_false_iff, decide_eq_false_iff_not]
  omega
theorem startR_inv {c : CodeM} (h : reachBad c = false) : InvR c.ins.length ⟨List.replicate c.ins.length false, rootsM c⟩ ∧ meaR ⟨List.replicate c.ins.length false, rootsM c⟩ ≤ (rootsM c).length + 3 * c.ins.length + 1 := by
  obtain ⟨h1, h2, h3⟩ := reachBad_iff.1 h
  have hr := rootsK_le (c := c) (k := c.labels.length)
  refine ⟨⟨by simp, fun a ha => ?_, ?_⟩, ?_⟩
  · unfold rootsM rootsK at ha
    rcases List.mem_cons.1 ha with rfl | ha
    · omega
    · obtain ⟨p, hp, rfl⟩ := List.mem_map.1 ha
      have := (List.mem_filter.1 hp).2
      rw [rootOk, inB_iff] at this
      omega
  · simp only [List.count_replicate_self]
    have : (rootsM c).length ≤ c.labels.length + 1 := hr
    omega
  · unfold meaR; simp only [List.count_replicate_self]; omega
theorem reach_spec {c : CodeM} (h : reachBad c = false) : (reachM c).length = c.ins.length ∧ (∀ a, (reachM c).getD a false = true → ∀ n ∈ toL c a, (reachM c).getD n false = true) ∧ (∀ x ∈ rootsM c, (reachM c).getD x false = true) := by
  obtain ⟨h1, h2⟩ := startR_inv h
  have := runR_closed _ _ h1 h2 (fun a ha => by
    simp only [List.getD_eq_getElem?_getD, List.getElem?_replicate] at ha
    split at ha <;> simp at ha)
  unfold reachM
  rw [h, if_neg (by simp)]
  exact ⟨this.1, this.2.1, fun x hx => this.2.2 x (.inr hx)⟩
end
section
open Go Q Go.RowKit
def OkD (c : CodeM) (kn : List (Option DepM)) (a : Nat) : Prop := stopsM c kn a = false ∧ ∀ p ∈ nextsM c kn a, kn.getD p.1 none = some p.2
theorem comeM_get {d : DpM} {at_ : Nat} {s : DepM} (ha : at_ < d.kn.length) (hc : (comeM d at_ s).1 = true) : (comeM d at_ s).2.kn.getD at_ none = some s := by
  unfold comeM at hc ⊢
  cases hk : d.kn.getD at_ none with
  | some was =>
    rw [hk] at hc
    simp only [decide_eq_true_eq] at hc
    simp only [hk, hc]
  | none =>
    simp only
    rw [List.getD_eq_getElem?_getD, List.getElem?_set_self ha]; rfl
theorem comeM_old {d : DpM} {at_ b : Nat} {s u : DepM} (h : d.kn.getD b none = some u) : (comeM d at_ s).2.kn.getD b none = some u := by
  unfold comeM
  cases hk : d.kn.getD at_ none with
  | some was => exact h
  | none =>
    simp only
    have hne : at_ ≠ b := fun e => by rw [e, h] at hk; cases hk
    rw [List.getD_eq_getElem?_getD, List.getElem?_set_ne hne, ← List.getD_eq_getElem?_getD]; exact h
theorem comeM_len {d : DpM} {at_ : Nat} {s : DepM} : (comeM d at_ s).2.kn.length = d.kn.length := by
  unfold comeM
  cases d.kn.getD at_ none with
  | some was => rfl
  | none => simp
theorem comeM_new {d : DpM} {at_ b : Nat} {s u : DepM} (h : (comeM d at_ s).2.kn.getD b none = some u) : d.kn.getD b none = some u ∨ b ∈ (comeM d at_ s).2.open_ := by
  unfold comeM at h ⊢
  cases hk : d.kn.getD at_ none with
  | some was => rw [hk] at h; exact .inl h
  | none =>
    rw [hk] at h
    simp only at h ⊢
    by_cases e : at_ = b
    · subst e; exact .inr (by simp)
    · rw [List.getD_eq_getElem?_getD, List.getElem?_set_ne e, ← List.getD_eq_getElem?_getD] at h; exact .inl h
theorem comeM_open {d : DpM} {at_ b : Nat} {s : DepM} (h : b ∈ d.open_) : b ∈ (comeM d at_ s).2.open_ := by
  unfold comeM
  cases d.kn.getD at_ none with
  | some was => exact h
  | none => simp [h]
theorem comesM_spec : ∀ (l : List (Nat × DepM)) (d d' : DpM), (∀ p ∈ l, p.1 < d.kn.length) → comesM l d = some d' →
    d'.kn.length = d.kn.length ∧ (∀ p ∈ l, d'.kn.getD p.1 none = some p.2) ∧ (∀ b u, d.kn.getD b none = some u → d'.kn.getD b none = some u) ∧ (∀ b u, d'.kn.getD b none = some u → d.kn.getD b none = some u ∨ b ∈ d'.open_) ∧ (∀ b ∈ d.open_, b ∈ d'.open_)
  | [], d, d', _, h => by
    cases h
    exact ⟨rfl, fun p hp => (by cases hp), fun b u hu => hu, fun b u hu => .inl hu, fun b hb => hb⟩
  | p :: l, d, d', hl, h => by
    unfold comesM at h
    by_cases hc : (comeM d p.1 p.2).1 = true
    · rw [if_pos hc] at h
      obtain ⟨i1, i2, i3, i4, i5⟩ := comesM_spec l (comeM d p.1 p.2).2 d' (fun q hq => by rw [comeM_len]; exact hl q (List.mem_cons_of_mem _ hq)) h
      refine ⟨by rw [i1, comeM_len], fun q hq => ?_, fun b u hu => i3 b u (comeM_old hu), fun b u hu => ?_, fun b hb => i5 b (comeM_open hb)⟩
      · rcases List.mem_cons.1 hq with rfl | hq
        · exact i3 _ _ (comeM_get (hl _ List.mem_cons_self) hc)
        · exact i2 q hq
      · rcases i4 b u hu with h | h
        · rcases comeM_new h with h | h
          · exact .inl h
          · exact .inr (i5 b h)
        · exact .inr h
    · rw [if_neg hc] at h; cases h
theorem OkD.mono {c : CodeM} {kn kn' : List (Option DepM)} {a : Nat} {s : DepM} (h : OkD c kn a) (hs : kn.getD a none = some s) (hk : ∀ b u, kn.getD b none = some u → kn'.getD b none = some u) : OkD c kn' a := by
  have e : depAt kn' a = depAt kn a := by unfold depAt; rw [hs, hk a s hs]
  refine ⟨?_, fun p hp => ?_⟩
  · have := h.1; unfold stopsM at this ⊢; rw [e]; exact this
  · unfold nextsM at hp; rw [e] at hp; exact hk _ _ (h.2 p hp)
theorem nexts_lt {c : CodeM} {kn : List (Option DepM)} {a : Nat} : ∀ p ∈ nextsM c kn a, p.1 < c.ins.length := fun p hp => by
  unfold nextsM at hp
  obtain ⟨q, hq, rfl⟩ := List.mem_map.1 hp
  exact leadsM_lt q hq
theorem runD_spec {c : CodeM} : ∀ (f : Nat) (d : DpM) (kn : List (Option DepM)), InvD c.ins.length d → meaD d ≤ f → (∀ a s, d.kn.getD a none = some s → a ∈ d.open_ ∨ OkD c d.kn a) → runD c f d = some kn →
    kn.length = c.ins.length ∧ (∀ a s, kn.getD a none = some s → OkD c kn a ∧ Low s) ∧ ∀ a s, d.kn.getD a none = some s → kn.getD a none = some s
  | 0, d, kn, h, hm, hc, hr => by
    have h0 : d.open_ = [] := List.eq_nil_of_length_eq_zero (by unfold meaD at hm; omega)
    cases hr
    exact ⟨h.len, fun a s hs => ⟨(hc a s hs).elim (fun e => by rw [h0] at e; cases e) id, h.low a s hs⟩, fun a s hs => hs⟩
  | f + 1, d, kn, h, hm, hc, hr => by
    unfold runD at hr
    cases hl : d.open_.getLast? with
    | none =>
      rw [hl] at hr
      have h0 : d.open_ = [] := List.getLast?_eq_none_iff.1 hl
      cases hr
      exact ⟨h.len, fun a s hs => ⟨(hc a s hs).elim (fun e => by rw [h0] at e; cases e) id, h.low a s hs⟩, fun a s hs => hs⟩
    | some a =>
      rw [hl] at hr
      obtain ⟨l, hla⟩ := List.getLast?_eq_some_iff.1 hl
      obtain ⟨k0, o⟩ := d
      simp only at hla hr hc
      subst hla
      have hd : (l ++ [a]).dropLast = l := by simp
      rw [hd] at hr
      obtain ⟨h1, h2, h3, s0, hs0, _⟩ := popInv h
      cases hst : stepD c ⟨k0, l⟩ a with
      | none => rw [hst] at hr; cases hr
      | some d' =>
        rw [hst] at hr
        simp only at hr
        unfold stepD at hst
        by_cases hsp : stopsM c k0 a = true
        · simp only at hst; rw [if_pos hsp] at hst; cases hst
        simp only at hst
        rw [if_neg hsp] at hst
        have hsp' : stopsM c k0 a = false := by simpa using hsp
        have hlt : ∀ p ∈ nextsM c k0 a, p.1 < (⟨k0, l⟩ : DpM).kn.length := fun p hp => by have := nexts_lt p hp; have := h.len; simp only at this ⊢; omega
        obtain ⟨i1, i2, i3, i4, i5⟩ := comesM_spec _ _ _ hlt hst
        obtain ⟨j1, j2⟩ := comesInv h1 (fun p hp => nexts_lt p hp) hst
        simp only at i3 i4 i5
        have hok : OkD c d'.kn a := by
          have e : depAt d'.kn a = depAt k0 a := by unfold depAt; rw [hs0, i3 a s0 hs0]
          refine ⟨by unfold stopsM at hsp' ⊢; rw [e]; exact hsp', fun p hp => ?_⟩
          unfold nextsM at hp; rw [e] at hp
          exact i2 p hp
        obtain ⟨k1, k2, k3⟩ := runD_spec f d' kn j1 (by omega) (fun b u hu => by
          rcases i4 b u hu with hb | hb
          · rcases hc b u hb with hx | hx
            · rcases List.mem_append.1 hx with hx | hx
              · exact .inl (i5 b hx)
              · rw [List.mem_singleton.1 hx]; exact .inr hok
            · exact .inr (hx.mono hb i3)
          · exact .inl hb) hr
        exact ⟨k1, k2, fun b u hu => k3 b u (i3 b u hu)⟩
theorem depths_spec {c : CodeM} {kn : List (Option DepM)} (h0 : 0 < c.ins.length) (h : depthsM c = some kn) :
    kn.length = c.ins.length ∧ (∀ a s, kn.getD a none = some s → OkD c kn a ∧ Low s) ∧ ∀ x ∈ rootsM c, kn.getD x none = some ⟨0, 0⟩ := by
  unfold depthsM at h
  cases hd : comesM (rootsD c) (initD c) with
  | none => rw [hd] at h; cases h
  | some d =>
    rw [hd] at h
    simp only at h
    have hlt : ∀ p ∈ rootsD c, p.1 < c.ins.length := fun p hp => by
      unfold rootsD at hp
      obtain ⟨x, hx, rfl⟩ := List.mem_map.1 hp
      exact rootsM_lt h0 x hx
    have hil : (initD c).kn.length = c.ins.length := by simp [initD]
    obtain ⟨i1, i2, i3, i4, i5⟩ := comesM_spec _ _ _ (fun p hp => by rw [hil]; exact hlt p hp) hd
    obtain ⟨j1, j2⟩ := comesInv initInv hlt hd
    have hm0 : meaD (initD c) ≤ 2 * c.ins.length + 1 := by
      unfold meaD initD
      simp only [List.count_replicate_self, List.length_nil]; omega
    obtain ⟨k1, k2, k3⟩ := runD_spec _ d kn j1 (by omega) (fun b u hu => by
      rcases i4 b u hu with hb | hb
      · simp only [initD, List.getD_eq_getElem?_getD, List.getElem?_replicate] at hb
        split at hb <;> simp at hb
      · exact .inl hb) h
    exact ⟨k1, k2, fun x hx => k3 _ _ (i2 (x, ⟨0, 0⟩) (by unfold rootsD; exact List.mem_map.2 ⟨x, hx, rfl⟩))⟩
end
section
open Go Q Go.RowKit
theorem valid_of {z : Z} {w : World} {v : Value} {c : CodeM} (hc : CodeR z v c) : Fn1 19 #[v] z w fun _ r => ∃ b, r = .bool b ∧ (b = true → (checkM c).1 = 0) := Fn1.intro fun hS => en19 (by
  unfold vc19
  obtain ⟨a1, a2, a3, a4, a5, a6, k1, k2, k3, k4, k5, k6, rfl, h1, h2, h3, h4, h5, h6⟩ := hc.form
  refine iV_bx ?_
  intro bc w1 hbc hS1
  obtain ⟨zc, hzc, hS2, hatc⟩ := hS1.frz bc
  clear hS hS1
  refine zV_ldN (n := 6) hatc rfl ?_
  refine CV_1 (few_of (hc.mono hzc)) ?_
  rintro z5 w5 v5 hz5 hS5 ⟨b, rfl⟩
  clear hS2
  refine V_run ?_
  refine Cond_n (fun _ => ⟨_, _, hS5, false, rfl, fun e => by cases e⟩) (fun _ => ?_)
  refine zV_ldN (n := 6) (hatc.mono hz5) rfl ?_
  refine CV_1 (check_of (hc.mono (hzc.trans hz5))) ?_
  rintro z6 w6 v6 hz6 hS6 rfl
  clear hS5
  refine V_run ?_
  refine V_run ?_
  refine V_run ?_
  exact ⟨_, _, hS6, _, rfl, fun e => of_decide_eq_true e⟩)
end
section
open Go Q Go.RowKit
end
section
open Go Q Go.RowKit
end
section
open Go Q Go.RowKit
end
section
open Go Q Go.RowKit
end
section
open Go Q Go.RowKit
end
section
open Go Q Go.RowKit
end
section
open Go Q Go.RowKit
structure RchI (c : CodeM) (r : RcM) : Prop where
  len : r.set.length = c.ins.length
  op : ∀ a ∈ r.open_, a < c.ins.length
  size : r.open_.length + 2 * r.set.count false ≤ 3001 + 2 * c.ins.length
  cl : ∀ a, r.set.getD a false = true → ∀ x ∈ toL c a, r.set.getD x false = true ∨ x ∈ r.open_
  sub : ∀ a, r.set.getD a false = true → (reachM c).getD a false = true
  subo : ∀ a ∈ r.open_, (reachM c).getD a false = true
  root : ∀ x ∈ rootsM c, r.set.getD x false = true ∨ x ∈ r.open_
theorem nextL_len {c : CodeM} {a : Nat} : (nextL c a).length ≤ 2 := by
  have := @foldT_len (leadsM c.ins.length a (insAt c a)) 2
  unfold nextL
  rw [List.take_of_length_le leadsM_len] at this
  exact this
theorem RchI.pop {c : CodeM} {s : List Bool} {l : List Nat} {a : Nat} (h : RchI c ⟨s, l ++ [a]⟩) (hs : s.getD a false = true) : RchI c ⟨s, l⟩ := by
  have hin : ∀ x, (s.getD x false = true ∨ x ∈ l ++ [a]) → (s.getD x false = true ∨ x ∈ l) := fun x hx => by
    rcases hx with hx | hx
    · exact .inl hx
    · rcases List.mem_append.1 hx with hx | hx
      · exact .inr hx
      · rw [List.mem_singleton.1 hx]; exact .inl hs
  refine ⟨h.len, fun x hx => h.op x (by simp [hx]), ?_, fun b hb x hx => hin x (h.cl b hb x hx), h.sub, fun x hx => h.subo x (by simp [hx]), fun x hx => hin x (h.root x hx)⟩
  have := h.size; simp only [List.length_append, List.length_singleton] at this; simp only; omega
theorem RchI.step {c : CodeM} {s : List Bool} {l : List Nat} {a : Nat} (hb : reachBad c = false) (h : RchI c ⟨s, l ++ [a]⟩) (hs : s.getD a false = false) : RchI c ⟨s.set a true, l ++ nextL c a⟩ ∧ meaR ⟨s.set a true, l ++ nextL c a⟩ < meaR ⟨s, l ++ [a]⟩ := by
  have hlt := h.op a (by simp)
  have hsl : s.length = c.ins.length := h.len
  have hc := countF_set (l := s) (by omega) hs
  have hn := @nextL_len c a
  have ha := h.subo a (by simp)
  have hget : ∀ x, (s.set a true).getD x false = true ↔ x = a ∨ s.getD x false = true := fun x => getD_set (by omega)
  have hin : ∀ x, (s.getD x false = true ∨ x ∈ l ++ [a]) → ((s.set a true).getD x false = true ∨ x ∈ l ++ nextL c a) := fun x hx => by
    rw [hget, List.mem_append]
    rcases hx with hx | hx
    · exact .inl (.inr hx)
    · rcases List.mem_append.1 hx with hx | hx
      · exact .inr (.inl hx)
      · exact .inl (.inl (List.mem_singleton.1 hx))
  have hsz := h.size
  simp only [List.length_append, List.length_singleton] at hsz
  refine ⟨⟨by simpa using hsl, fun x hx => ?_, ?_, fun b hb2 x hx => ?_, fun b hb2 => ?_, fun x hx => ?_, fun x hx => hin x (h.root x hx)⟩, ?_⟩
  · rcases List.mem_append.1 hx with hx | hx
    · exact h.op x (by simp [hx])
    · exact toL_lt x (mem_nextL.1 hx)
  · simp only [List.length_append]; omega
  · simp only at hb2
    rw [hget] at hb2
    rcases hb2 with rfl | hb2
    · exact .inr (List.mem_append_right _ (mem_nextL.2 hx))
    · exact hin x (h.cl b hb2 x hx)
  · simp only at hb2
    rw [hget] at hb2
    rcases hb2 with rfl | hb2
    · exact ha
    · exact h.sub b hb2
  · rcases List.mem_append.1 hx with hx | hx
    · exact h.subo x (by simp [hx])
    · exact (reach_spec hb).2.1 a ha x (mem_nextL.1 hx)
  · unfold meaR; simp only [List.length_append, List.length_singleton]; omega
theorem RchI.fin {c : CodeM} {s : List Bool} (hb : reachBad c = false) (h : RchI c ⟨s, []⟩) : s = reachM c := by
  have hl := (reach_spec hb).1
  have hsl : s.length = c.ins.length := h.len
  have key : ∀ a, (reachM c).getD a false = true → s.getD a false = true := by
    unfold reachM
    rw [hb, if_neg (by simp)]
    obtain ⟨hi, _⟩ := startR_inv hb
    refine runR_least (S := fun a => s.getD a false = true) (fun a ha n hn => (h.cl a ha n hn).elim id fun e => by cases e) _ _ hi.len hi.op (fun a ha => ?_) (fun a ha => (h.root a ha).elim id fun e => by cases e)
    simp only [List.getD_eq_getElem?_getD, List.getElem?_replicate] at ha
    split at ha <;> simp at ha
  apply List.ext_getElem?
  intro i
  by_cases hi : i < c.ins.length
  · have h1 := h.sub i
    have h2 := key i
    simp only at h1
    rw [List.getD_eq_getElem?_getD, List.getD_eq_getElem?_getD, List.getElem?_eq_getElem (by omega), List.getElem?_eq_getElem (by omega)] at h1 h2
    rw [List.getElem?_eq_getElem (by omega), List.getElem?_eq_getElem (by omega)]
    simp only [Option.getD_some] at h1 h2
    congr 1
    rw [Bool.eq_iff_iff]
    exact ⟨h1, h2⟩
  · rw [List.getElem?_eq_none (by omega), List.getElem?_eq_none (by omega)]
end
section
open Go Q Go.RowKit
end
section
open Go Q Go.RowKit
end
section
open Go Q Go.RowKit
end
section
open Go Q Go.RowKit
end
section
open Go Q Go.RowKit
theorem sameParts_of {z : Z} {w : World} {v u : Value} {l m : List PartM} (hv : SlR El.part z v l) (hu : SlR El.part z u m) : Fn1 70 #[v, u] z w fun _ r => ∃ b, r = .bool b ∧ (b = true ↔ l = m) := Fn1.intro fun hS => en70 (by
  unfold vc70
  obtain ⟨hb1, a1, c1, rfl, _, hel1⟩ := hv.form
  obtain ⟨hb2, a2, c2, rfl, _, hel2⟩ := hu.form
  refine V_run ?_
  refine V_run ?_
  refine V_run ?_
  refine Cond_nd (fun h => ?_) (fun h => ?_)
  · exact ⟨_, _, hS, false, rfl, by simp; intro e; rw [e] at h; omega⟩
  have hlm : l.length = m.length := by omega
  refine LoopR1 (fun (k : Nat) x => x = .int .i64 k ∧ k ≤ l.length ∧ ∀ i, i < k → l[i]? = m[i]?) (fun k => l.length - k) 0 ⟨rfl, Nat.zero_le _, fun i hi => by omega⟩ ?_
  rintro I M k x w1 z1 m1 ⟨rfl, hk, hall⟩ hz1 hS1 back
  clear hS
  refine V_run ?_
  refine V_run ?_
  refine Cond_d (fun h => ?_) (fun h => ?_)
  · have hk1 : k < l.length := by omega
    have hk2 : k < m.length := by omega
    obtain ⟨b, off, cs, rfl, hr, hat⟩ := hel1 _ _ (List.getElem?_eq_getElem hk1)
    obtain ⟨b', off', cs', rfl, hr', hat'⟩ := hel2 _ _ (List.getElem?_eq_getElem hk2)
    have hr := hr.1
    have hr' := hr'.1
    cases hr; cases hr'
    haveI : InR (k : Int) (l.length : Nat) := ⟨by omega, by omega⟩
    haveI : InR (k : Int) (m.length : Nat) := ⟨by omega, by omega⟩
    haveI : InI ((k : Int) + 1) := ⟨by simp only [big] at hb1; omega⟩
    haveI : Fz z b (off + (k : Int).toNat * 3) l[k].cells := ⟨hat⟩
    haveI : Fz z b' (off' + (k : Int).toNat * 3) m[k].cells := ⟨hat'⟩
    have g1 : l[k]? = some l[k] := List.getElem?_eq_getElem hk1
    have g2 : m[k]? = some m[k] := List.getElem?_eq_getElem hk2
    generalize l[k] = p at *
    generalize m[k] = q at *
    (repeat (first | (refine iDr ?_; intro _ _) | refine PV_run ?_ | refine fHV_ldN ?_))
    have hpq : (decide (p.kind = q.kind) && (decide (p.text = q.text) && (decide (p.n = q.n) && true))) = true ↔ p = q := by cases p; cases q; simp
    refine Cond_n (fun h3 => ?_) (fun h3 => ?_)
    · refine ⟨_, _, ‹_›, false, rfl, ?_⟩
      have : ¬ p = q := fun e => by rw [hpq.2 e] at h3; cases h3
      constructor
      · intro e; cases e
      · intro e; subst e; rw [g1] at g2; cases g2; exact absurd rfl this
    · refine V_run ?_
      refine back (k + 1) _ _ _ ⟨by simp, by omega, fun i hi => ?_⟩ (Le.refl _) (by assumption) (by omega)
      rcases Nat.lt_or_eq_of_le (Nat.le_of_lt_succ hi) with hi | hi
      · exact hall i hi
      · subst hi; rw [g1, g2, hpq.1 h3]
  · refine ⟨_, _, hS1, true, rfl, ?_⟩
    simp only [true_iff]
    apply List.ext_getElem?
    intro i
    by_cases hi : i < k
    · exact hall i hi
    · rw [List.getElem?_eq_none (by omega), List.getElem?_eq_none (by omega)])
theorem sameItems_of {z : Z} {w : World} {v u : Value} {l m : List ItemM} (hv : SlR El.item z v l) (hu : SlR El.item z u m) : Fn1 71 #[v, u] z w fun _ r => ∃ b, r = .bool b ∧ (b = true ↔ l = m) := Fn1.intro fun hS => en71 (by
  unfold vc71
  obtain ⟨hb1, a1, c1, rfl, _, hel1⟩ := hv.form
  obtain ⟨hb2, a2, c2, rfl, _, hel2⟩ := hu.form
  refine V_run ?_
  refine V_run ?_
  refine V_run ?_
  refine Cond_nd (fun h => ?_) (fun h => ?_)
  · exact ⟨_, _, hS, false, rfl, by simp; intro e; rw [e] at h; omega⟩
  have hlm : l.length = m.length := by omega
  refine LoopR1 (fun (k : Nat) x => x = .int .i64 k ∧ k ≤ l.length ∧ ∀ i, i < k → l[i]? = m[i]?) (fun k => l.length - k) 0 ⟨rfl, Nat.zero_le _, fun i hi => by omega⟩ ?_
  rintro I M k x w1 z1 m1 ⟨rfl, hk, hall⟩ hz1 hS1 back
  clear hS
  refine V_run ?_
  refine V_run ?_
  refine Cond_d (fun h => ?_) (fun h => ?_)
  · have hk1 : k < l.length := by omega
    have hk2 : k < m.length := by omega
    obtain ⟨b, off, cs, rfl, hr, hat⟩ := hel1 _ _ (List.getElem?_eq_getElem hk1)
    obtain ⟨b', off', cs', rfl, hr', hat'⟩ := hel2 _ _ (List.getElem?_eq_getElem hk2)
    have hr := hr.1
    have hr' := hr'.1
    cases hr; cases hr'
    haveI : InR (k : Int) (l.length : Nat) := ⟨by omega, by omega⟩
    haveI : InR (k : Int) (m.length : Nat) := ⟨by omega, by omega⟩
    haveI : InI ((k : Int) + 1) := ⟨by simp only [big] at hb1; omega⟩
    haveI : Fz z b (off + (k : Int).toNat * 2) l[k].cells := ⟨hat⟩
    haveI : Fz z b' (off' + (k : Int).toNat * 2) m[k].cells := ⟨hat'⟩
    have g1 : l[k]? = some l[k] := List.getElem?_eq_getElem hk1
    have g2 : m[k]? = some m[k] := List.getElem?_eq_getElem hk2
    generalize l[k] = p at *
    generalize m[k] = q at *
    (repeat (first | (refine iDr ?_; intro _ _) | refine PV_run ?_ | refine fHV_ldN ?_))
    have hpq : (decide (p.name = q.name) && (p.via == q.via && true)) = true ↔ p = q := by cases p; cases q; simp
    refine Cond_n (fun h3 => ?_) (fun h3 => ?_)
    · refine ⟨_, _, ‹_›, false, rfl, ?_⟩
      have : ¬ p = q := fun e => by rw [hpq.2 e] at h3; cases h3
      constructor
      · intro e; cases e
      · intro e; subst e; rw [g1] at g2; cases g2; exact absurd rfl this
    · refine V_run ?_
      refine back (k + 1) _ _ _ ⟨by simp, by omega, fun i hi => ?_⟩ (Le.refl _) (by assumption) (by omega)
      rcases Nat.lt_or_eq_of_le (Nat.le_of_lt_succ hi) with hi | hi
      · exact hall i hi
      · subst hi; rw [g1, g2, hpq.1 h3]
  · refine ⟨_, _, hS1, true, rfl, ?_⟩
    simp only [true_iff]
    apply List.ext_getElem?
    intro i
    by_cases hi : i < k
    · exact hall i hi
    · rw [List.getElem?_eq_none (by omega), List.getElem?_eq_none (by omega)])
theorem sameStrings_of {z : Z} {w : World} {v u : Value} {l m : List ByteArray} (hv : SlR El.str z v l) (hu : SlR El.str z u m) : Fn1 72 #[v, u] z w fun _ r => ∃ b, r = .bool b ∧ (b = true ↔ l = m) := Fn1.intro fun hS => en72 (by
  unfold vc72
  obtain ⟨hb1, a1, c1, rfl, _, hel1⟩ := hv.form
  obtain ⟨hb2, a2, c2, rfl, _, hel2⟩ := hu.form
  refine V_run ?_
  refine V_run ?_
  refine V_run ?_
  refine Cond_nd (fun h => ?_) (fun h => ?_)
  · exact ⟨_, _, hS, false, rfl, by simp; intro e; rw [e] at h; omega⟩
  have hlm : l.length = m.length := by omega
  refine LoopR1 (fun (k : Nat) x => x = .int .i64 k ∧ k ≤ l.length ∧ ∀ i, i < k → l[i]? = m[i]?) (fun k => l.length - k) 0 ⟨rfl, Nat.zero_le _, fun i hi => by omega⟩ ?_
  rintro I M k x w1 z1 m1 ⟨rfl, hk, hall⟩ hz1 hS1 back
  clear hS
  refine V_run ?_
  refine V_run ?_
  refine Cond_d (fun h => ?_) (fun h => ?_)
  · have hk1 : k < l.length := by omega
    have hk2 : k < m.length := by omega
    obtain ⟨b, off, cs, rfl, hr, hat⟩ := hel1 _ _ (List.getElem?_eq_getElem hk1)
    obtain ⟨b', off', cs', rfl, hr', hat'⟩ := hel2 _ _ (List.getElem?_eq_getElem hk2)
    have hr := hr.1
    have hr' := hr'.1
    cases hr; cases hr'
    haveI : InR (k : Int) (l.length : Nat) := ⟨by omega, by omega⟩
    haveI : InR (k : Int) (m.length : Nat) := ⟨by omega, by omega⟩
    haveI : InI ((k : Int) + 1) := ⟨by simp only [big] at hb1; omega⟩
    haveI : Fz z b (off + (k : Int).toNat * 1) [.string l[k]] := ⟨hat⟩
    haveI : Fz z b' (off' + (k : Int).toNat * 1) [.string m[k]] := ⟨hat'⟩
    have g1 : l[k]? = some l[k] := List.getElem?_eq_getElem hk1
    have g2 : m[k]? = some m[k] := List.getElem?_eq_getElem hk2
    generalize l[k] = p at *
    generalize m[k] = q at *
    (repeat (first | (refine iDr ?_; intro _ _) | refine PV_run ?_ | refine fHV_ld1 ?_))
    have hpq : (decide (p = q)) = true ↔ p = q := by simp
    refine Cond_n (fun h3 => ?_) (fun h3 => ?_)
    · refine ⟨_, _, ‹_›, false, rfl, ?_⟩
      have : ¬ p = q := fun e => by rw [hpq.2 e] at h3; cases h3
      constructor
      · intro e; cases e
      · intro e; subst e; rw [g1] at g2; cases g2; exact absurd rfl this
    · refine V_run ?_
      refine back (k + 1) _ _ _ ⟨by simp, by omega, fun i hi => ?_⟩ (Le.refl _) (by assumption) (by omega)
      rcases Nat.lt_or_eq_of_le (Nat.le_of_lt_succ hi) with hi | hi
      · exact hall i hi
      · subst hi; rw [g1, g2, hpq.1 h3]
  · refine ⟨_, _, hS1, true, rfl, ?_⟩
    simp only [true_iff]
    apply List.ext_getElem?
    intro i
    by_cases hi : i < k
    · exact hall i hi
    · rw [List.getElem?_eq_none (by omega), List.getElem?_eq_none (by omega)])
theorem ext_take {α : Type} {l m : List α} {k : Nat} (hk : k = l.length) (hlm : l.length = m.length) (h : ∀ i, i < k → l[i]? = m[i]?) : l = m := by
  apply List.ext_getElem?
  intro i
  by_cases hi : i < k
  · exact h i hi
  · rw [List.getElem?_eq_none (by omega), List.getElem?_eq_none (by omega)]
theorem refSame_of {z : Z} {w : World} {v u : Value} {c d : CodeM} (hc : CodeR z v c) (hd : CodeR z u d) : Fn1 21 #[v, u] z w fun _ r => ∃ b, r = .bool b ∧ (b = true ↔ c = d) := Fn1.intro fun hS => en21 (by
  unfold vc21
  obtain ⟨a1, a2, a3, a4, a5, a6, k1, k2, k3, k4, k5, k6, rfl, h1, h2, h3, h4, h5, h6⟩ := hc.form
  obtain ⟨p1, p2, p3, p4, p5, p6, q1, q2, q3, q4, q5, q6, rfl, g1, g2, g3, g4, g5, g6⟩ := hd.form
  refine iV_bx ?_
  intro bc w1 hbc hS1
  refine iV_bx ?_
  intro bd w2 hbd hS2
  clear hS1
  obtain ⟨z3, hz3, hS3, hatc⟩ := hS2.frz bc
  obtain ⟨zc, hzc', hS4, hatd⟩ := hS3.frz bd
  have hatc := hatc.mono hzc'
  have hzc := hz3.trans hzc'
  generalize hRR : (fun (v : Value) (w' : World) => ∃ z' L', Res w z [] w' z' L' ∧ ∃ b, v = .bool b ∧ (b = true ↔ c = d)) = RR
  have hR : ∀ z' w' L' b, Res w2 zc [] w' z' L' → (b = true ↔ c = d) → RR (.bool b) w' := fun z' w' L' b k e => by rw [← hRR]; exact ⟨z', L', hS4.comp k, b, rfl, e⟩
  clear hRR
  have hS5 := hS4.self
  clear hS hS2 hS3 hS4
  have hcd : c = d ↔ c.consts = d.consts ∧ c.tmpls = d.tmpls ∧ c.lists = d.lists ∧ c.labels = d.labels ∧ c.slots = d.slots ∧ c.ins = d.ins := by cases c; cases d; simp
  haveI : Fz zc bc 0 [.slice a1 c.consts.length k1] := ⟨hatc.fld (i := 0) rfl rfl⟩
  haveI : Fz zc bd 0 [.slice p1 d.consts.length q1] := ⟨hatd.fld (i := 0) rfl rfl⟩
  haveI : Fz zc bc 1 [.slice a2 c.tmpls.length k2] := ⟨hatc.fld (i := 1) rfl rfl⟩
  haveI : Fz zc bd 1 [.slice p2 d.tmpls.length q2] := ⟨hatd.fld (i := 1) rfl rfl⟩
  haveI : Fz zc bc 2 [.slice a3 c.lists.length k3] := ⟨hatc.fld (i := 2) rfl rfl⟩
  haveI : Fz zc bd 2 [.slice p3 d.lists.length q3] := ⟨hatd.fld (i := 2) rfl rfl⟩
  haveI : Fz zc bc 3 [.slice a4 c.labels.length k4] := ⟨hatc.fld (i := 3) rfl rfl⟩
  haveI : Fz zc bd 3 [.slice p4 d.labels.length q4] := ⟨hatd.fld (i := 3) rfl rfl⟩
  haveI : Fz zc bc 4 [.slice a5 c.slots.length k5] := ⟨hatc.fld (i := 4) rfl rfl⟩
  haveI : Fz zc bd 4 [.slice p5 d.slots.length q5] := ⟨hatd.fld (i := 4) rfl rfl⟩
  haveI : Fz zc bc 5 [.slice a6 c.ins.length k6] := ⟨hatc.fld (i := 5) rfl rfl⟩
  haveI : Fz zc bd 5 [.slice p6 d.ins.length q6] := ⟨hatd.fld (i := 5) rfl rfl⟩
  have hno : ∀ z' w' L', Res w2 zc [] w' z' L' → ¬ c = d → RR (.bool false) w' := fun z' w' L' k e => hR z' w' L' false k ⟨fun h => (by cases h), fun h => absurd h e⟩
  (repeat (first | refine V_run ?_ | (refine JGB ?_; intro _ _ _ _) | refine fV_ld1 ?_))
  simp only [Bool.cond_true_left, Bool.or_assoc]
  rename_i hS6
  clear hS5
  refine Cond_b (fun e => ?_) (fun e => ?_)
  · refine hno _ _ _ hS6 fun h => ?_
    subst h
    simp at e
  simp only [Bool.or_eq_false_iff, Bool.not_eq_false', decide_eq_true_eq] at e
  have l1 : c.tmpls.length = d.tmpls.length := by omega
  have l2 : c.lists.length = d.lists.length := by omega
  have l3 : c.labels.length = d.labels.length := by omega
  have l4 : c.ins.length = d.ins.length := by omega
  clear e
  refine LoopR1 (fun (k : Nat) x => x = .int .i64 k ∧ k ≤ c.tmpls.length ∧ ∀ i, i < k → c.tmpls[i]? = d.tmpls[i]?) (fun k => c.tmpls.length - k) 0 ⟨rfl, Nat.zero_le _, fun i hi => by omega⟩ ?_
  rintro I M k x w7 z7 m ⟨rfl, hk, hall⟩ hz7 hS7 back
  clear hS6
  obtain ⟨hbx, _, _, e1, _, hel1⟩ := h2.form
  cases e1
  obtain ⟨hby, _, _, e2, _, hel2⟩ := g2.form
  cases e2
  (repeat (first | refine V_run ?_ | refine fV_ld1 ?_))
  refine Cond_d (fun h => ?_) (fun h => ?_)
  · have hk1 : k < c.tmpls.length := by omega
    have hk2 : k < d.tmpls.length := by omega
    haveI : InR (k : Int) (c.tmpls.length : Nat) := ⟨by omega, by omega⟩
    haveI : InR (k : Int) (d.tmpls.length : Nat) := ⟨by omega, by omega⟩
    haveI : InI ((k : Int) + 1) := ⟨by simp only [big] at hbx; omega⟩
    have i1 : c.tmpls[k]? = some c.tmpls[k] := List.getElem?_eq_getElem hk1
    have i2 : d.tmpls[k]? = some d.tmpls[k] := List.getElem?_eq_getElem hk2
    generalize c.tmpls[k] = p at *
    generalize d.tmpls[k] = q at *
    obtain ⟨b, off, cs, rfl, hr, hat⟩ := hel1 _ _ i1
    obtain ⟨b', off', cs', rfl, hr', hat'⟩ := hel2 _ _ i2
    obtain ⟨v1, rfl, hv1⟩ := hr
    obtain ⟨v2, rfl, hv2⟩ := hr'
    obtain ⟨_, x1, y1, rfl, _, _⟩ := hv1.form
    obtain ⟨_, x2, y2, rfl, _, _⟩ := hv2.form
    haveI : Fz zc b (off + (k : Int).toNat * 1) [.slice x1 p.length y1] := ⟨hat.mono hzc⟩
    haveI : Fz zc b' (off' + (k : Int).toNat * 1) [.slice x2 q.length y2] := ⟨hat'.mono hzc⟩
    (repeat (first | (refine iDr ?_; intro _ _) | refine PV_run ?_ | refine fHV_ld1 ?_))
    rename_i hSx
    refine CV_1 (sameParts_of (hv1.mono (hzc.trans hSx.zle)) (hv2.mono (hzc.trans hSx.zle))) ?_
    rintro zy wy vy hzy hSy ⟨b5, rfl, hb5⟩
    clear hSx
    (repeat (first | refine PV_run ?_ | refine fRI_1 ?_))
    refine Cond_n (fun h3 => ?_) (fun h3 => ?_)
    · refine hno _ _ _ hSy fun h => ?_
      subst h
      rw [i1] at i2; cases i2
      rw [hb5.2 rfl] at h3; cases h3
    · (repeat (refine V_run ?_))
      refine back (k + 1) _ _ _ ⟨by simp, by omega, fun i hi => ?_⟩ (by (repeat (assumption))) (by assumption) (by omega)
      rcases Nat.lt_or_eq_of_le (Nat.le_of_lt_succ hi) with hi | hi
      · exact hall i hi
      · subst hi; rw [i1, i2, hb5.1 h3]
  have eq_tmpls : c.tmpls = d.tmpls := ext_take (k := k) (by omega) (by omega) hall
  clear back hall h
  refine LoopR1 (fun (k : Nat) x => x = .int .i64 k ∧ k ≤ c.lists.length ∧ ∀ i, i < k → c.lists[i]? = d.lists[i]?) (fun k => c.lists.length - k) 0 ⟨rfl, Nat.zero_le _, fun i hi => by omega⟩ ?_
  rintro I M k x w8 z8 m ⟨rfl, hk, hall⟩ hz8 hS8 back
  clear hS7
  obtain ⟨hbx, _, _, e1, _, hel1⟩ := h3.form
  cases e1
  obtain ⟨hby, _, _, e2, _, hel2⟩ := g3.form
  cases e2
  (repeat (first | refine V_run ?_ | refine fV_ld1 ?_))
  refine Cond_d (fun h => ?_) (fun h => ?_)
  · have hk1 : k < c.lists.length := by omega
    have hk2 : k < d.lists.length := by omega
    haveI : InR (k : Int) (c.lists.length : Nat) := ⟨by omega, by omega⟩
    haveI : InR (k : Int) (d.lists.length : Nat) := ⟨by omega, by omega⟩
    haveI : InI ((k : Int) + 1) := ⟨by simp only [big] at hbx; omega⟩
    have i1 : c.lists[k]? = some c.lists[k] := List.getElem?_eq_getElem hk1
    have i2 : d.lists[k]? = some d.lists[k] := List.getElem?_eq_getElem hk2
    generalize c.lists[k] = p at *
    generalize d.lists[k] = q at *
    obtain ⟨b, off, cs, rfl, hr, hat⟩ := hel1 _ _ i1
    obtain ⟨b', off', cs', rfl, hr', hat'⟩ := hel2 _ _ i2
    obtain ⟨v1, rfl, hv1⟩ := hr
    obtain ⟨v2, rfl, hv2⟩ := hr'
    obtain ⟨_, x1, y1, rfl, _, _⟩ := hv1.form
    obtain ⟨_, x2, y2, rfl, _, _⟩ := hv2.form
    haveI : Fz zc b (off + (k : Int).toNat * 1) [.slice x1 p.length y1] := ⟨hat.mono hzc⟩
    haveI : Fz zc b' (off' + (k : Int).toNat * 1) [.slice x2 q.length y2] := ⟨hat'.mono hzc⟩
    (repeat (first | (refine iDr ?_; intro _ _) | refine PV_run ?_ | refine fHV_ld1 ?_))
    rename_i hSx
    refine CV_1 (sameItems_of (hv1.mono (hzc.trans hSx.zle)) (hv2.mono (hzc.trans hSx.zle))) ?_
    rintro zy wy vy hzy hSy ⟨b5, rfl, hb5⟩
    clear hSx
    (repeat (first | refine PV_run ?_ | refine fRI_1 ?_))
    refine Cond_n (fun h3 => ?_) (fun h3 => ?_)
    · refine hno _ _ _ hSy fun h => ?_
      subst h
      rw [i1] at i2; cases i2
      rw [hb5.2 rfl] at h3; cases h3
    · (repeat (refine V_run ?_))
      refine back (k + 1) _ _ _ ⟨by simp, by omega, fun i hi => ?_⟩ (by (repeat (assumption))) (by assumption) (by omega)
      rcases Nat.lt_or_eq_of_le (Nat.le_of_lt_succ hi) with hi | hi
      · exact hall i hi
      · subst hi; rw [i1, i2, hb5.1 h3]
  have eq_lists : c.lists = d.lists := ext_take (k := k) (by omega) (by omega) hall
  clear back hall h
  refine LoopR1 (fun (k : Nat) x => x = .int .i64 k ∧ k ≤ c.labels.length ∧ ∀ i, i < k → c.labels[i]? = d.labels[i]?) (fun k => c.labels.length - k) 0 ⟨rfl, Nat.zero_le _, fun i hi => by omega⟩ ?_
  rintro I M k x w9 z9 m ⟨rfl, hk, hall⟩ hz9 hS9 back
  clear hS8
  obtain ⟨hbx, _, _, e1, _, hel1⟩ := h4.form
  cases e1
  obtain ⟨hby, _, _, e2, _, hel2⟩ := g4.form
  cases e2
  (repeat (first | refine V_run ?_ | refine fV_ld1 ?_))
  refine Cond_d (fun h => ?_) (fun h => ?_)
  · have hk1 : k < c.labels.length := by omega
    have hk2 : k < d.labels.length := by omega
    haveI : InR (k : Int) (c.labels.length : Nat) := ⟨by omega, by omega⟩
    haveI : InR (k : Int) (d.labels.length : Nat) := ⟨by omega, by omega⟩
    haveI : InI ((k : Int) + 1) := ⟨by simp only [big] at hbx; omega⟩
    have i1 : c.labels[k]? = some c.labels[k] := List.getElem?_eq_getElem hk1
    have i2 : d.labels[k]? = some d.labels[k] := List.getElem?_eq_getElem hk2
    generalize c.labels[k] = p at *
    generalize d.labels[k] = q at *
    obtain ⟨b, off, cs, rfl, hr, hat⟩ := hel1 _ _ i1
    obtain ⟨b', off', cs', rfl, hr', hat'⟩ := hel2 _ _ i2
    have hr := hr.1
    have hr' := hr'.1
    cases hr; cases hr'
    haveI : Fz zc b (off + (k : Int).toNat * 2) p.cells := ⟨hat.mono hzc⟩
    haveI : Fz zc b' (off' + (k : Int).toNat * 2) q.cells := ⟨hat'.mono hzc⟩
    (repeat (first | (refine iDr ?_; intro _ _) | refine PV_run ?_ | refine fHV_ldN ?_ | refine fHV_ld1 ?_))
    have hpq : (decide (p.name = q.name) && (decide (p.at_ = q.at_) && true)) = true ↔ p = q := by cases p; cases q; simp
    refine Cond_n (fun h3 => ?_) (fun h3 => ?_)
    · refine hno _ _ _ ‹Res w2 zc [] _ _ _› fun h => ?_
      subst h
      rw [i1] at i2; cases i2
      rw [hpq.2 rfl] at h3; cases h3
    · (repeat (refine V_run ?_))
      refine back (k + 1) _ _ _ ⟨by simp, by omega, fun i hi => ?_⟩ (by (repeat (exact Le.refl _))) (by assumption) (by omega)
      rcases Nat.lt_or_eq_of_le (Nat.le_of_lt_succ hi) with hi | hi
      · exact hall i hi
      · subst hi; rw [i1, i2, hpq.1 h3]
  have eq_labels : c.labels = d.labels := ext_take (k := k) (by omega) (by omega) hall
  clear back hall h
  refine LoopR1 (fun (k : Nat) x => x = .int .i64 k ∧ k ≤ c.ins.length ∧ ∀ i, i < k → c.ins[i]? = d.ins[i]?) (fun k => c.ins.length - k) 0 ⟨rfl, Nat.zero_le _, fun i hi => by omega⟩ ?_
  rintro I M k x w10 z10 m ⟨rfl, hk, hall⟩ hz10 hS10 back
  clear hS9
  obtain ⟨hbx, _, _, e1, _, hel1⟩ := h6.form
  cases e1
  obtain ⟨hby, _, _, e2, _, hel2⟩ := g6.form
  cases e2
  (repeat (first | refine V_run ?_ | refine fV_ld1 ?_))
  refine Cond_d (fun h => ?_) (fun h => ?_)
  · have hk1 : k < c.ins.length := by omega
    have hk2 : k < d.ins.length := by omega
    haveI : InR (k : Int) (c.ins.length : Nat) := ⟨by omega, by omega⟩
    haveI : InR (k : Int) (d.ins.length : Nat) := ⟨by omega, by omega⟩
    haveI : InI ((k : Int) + 1) := ⟨by simp only [big] at hbx; omega⟩
    have i1 : c.ins[k]? = some c.ins[k] := List.getElem?_eq_getElem hk1
    have i2 : d.ins[k]? = some d.ins[k] := List.getElem?_eq_getElem hk2
    generalize c.ins[k] = p at *
    generalize d.ins[k] = q at *
    obtain ⟨b, off, cs, rfl, hr, hat⟩ := hel1 _ _ i1
    obtain ⟨b', off', cs', rfl, hr', hat'⟩ := hel2 _ _ i2
    have hr := hr
    have hr' := hr'
    cases hr; cases hr'
    haveI : Fz zc b (off + (k : Int).toNat * 4) p.cells := ⟨hat.mono hzc⟩
    haveI : Fz zc b' (off' + (k : Int).toNat * 4) q.cells := ⟨hat'.mono hzc⟩
    (repeat (first | (refine iDr ?_; intro _ _) | refine PV_run ?_ | refine fHV_ldN ?_ | refine fHV_ld1 ?_))
    have hpq : (decide (p.op = q.op) && (decide (p.a = q.a) && (decide (p.b = q.b) && (decide (p.c = q.c) && true)))) = true ↔ p = q := by cases p; cases q; simp
    refine Cond_n (fun h3 => ?_) (fun h3 => ?_)
    · refine hno _ _ _ ‹Res w2 zc [] _ _ _› fun h => ?_
      subst h
      rw [i1] at i2; cases i2
      rw [hpq.2 rfl] at h3; cases h3
    · (repeat (refine V_run ?_))
      refine back (k + 1) _ _ _ ⟨by simp, by omega, fun i hi => ?_⟩ (by (repeat (exact Le.refl _))) (by assumption) (by omega)
      rcases Nat.lt_or_eq_of_le (Nat.le_of_lt_succ hi) with hi | hi
      · exact hall i hi
      · subst hi; rw [i1, i2, hpq.1 h3]
  have eq_ins : c.ins = d.ins := ext_take (k := k) (by omega) (by omega) hall
  clear back hall h
  (repeat (first | refine V_run ?_ | refine fV_ld1 ?_))
  refine CV_1 (sameStrings_of (h1.mono (hzc.trans hS10.zle)) (g1.mono (hzc.trans hS10.zle))) ?_
  rintro z11 w11 v11 hz11 hS11 ⟨b1, rfl, hb1⟩
  clear hS10
  intro Ka hKa
  have ma : ∀ z' w' L' b, Res w2 zc [] w' z' L' → (b = true ↔ c = d) → Ka [.bool b] w' := fun z' w' L' b k e => hKa _ _ fun _ => hR _ _ _ _ k e
  clear hKa
  refine Cond_b (fun e => ?_) (fun e => ?_)
  · (repeat (first | refine V_run ?_ | refine fV_ld1 ?_))
    refine CV_1 (sameStrings_of (h5.mono (hzc.trans hS11.zle)) (g5.mono (hzc.trans hS11.zle))) ?_
    rintro z12 w12 v12 hz12 hS12 ⟨b2, rfl, hb2⟩
    refine ma _ _ _ _ hS12 ?_
    rw [hb2, hcd]
    exact ⟨fun h => ⟨hb1.1 e, eq_tmpls, eq_lists, eq_labels, h, eq_ins⟩, fun h => h.2.2.2.2.1⟩
  · refine ma _ _ _ _ hS11 ⟨fun h => (by cases h), fun h => ?_⟩
    rw [hb1.2 (by rw [h])] at e; cases e)
end
section
open Go Q Go.RowKit
abbrev fK (p : Nat → Bool) (k : Nat) : List Nat := (List.range k).filter p
theorem fK_succ {p : Nat → Bool} {k : Nat} : fK p (k + 1) = fK p k ++ (if p k = true then [k] else []) := by
  rw [fK, List.range_succ, List.filter_append]
  cases h : p k <;> simp [h]
theorem fK_mem {p : Nat → Bool} {k x : Nat} : x ∈ fK p k ↔ x < k ∧ p x = true := by
  rw [List.mem_filter, List.mem_range]
theorem fK_get {p : Nat → Bool} {i : Nat} (hp : p i = true) : ∀ {n : Nat}, i < n → (fK p n)[(fK p i).length]? = some i
  | 0, h => absurd h (by omega)
  | n + 1, h => by
    rw [fK_succ]
    by_cases hi : i = n
    · subst hi
      rw [if_pos hp, List.getElem?_append_right (by omega), Nat.sub_self]; rfl
    · have ih := fK_get hp (n := n) (by omega)
      have hl : (fK p i).length < (fK p n).length := by
        rcases Nat.lt_or_ge (fK p i).length (fK p n).length with h | h
        · exact h
        · rw [List.getElem?_eq_none h] at ih; cases ih
      rw [List.getElem?_append_left hl]; exact ih
theorem fK_lt {p : Nat → Bool} {i n : Nat} (hp : p i = true) (h : i < n) : (fK p i).length < (fK p n).length := by
  have ih := fK_get hp h
  rcases Nat.lt_or_ge (fK p i).length (fK p n).length with h | h
  · exact h
  · rw [List.getElem?_eq_none h] at ih; cases ih
theorem fK_nodup {p : Nat → Bool} {n : Nat} : (fK p n).Nodup := List.nodup_range.filter _
theorem fK_idx {p : Nat → Bool} {n j i : Nat} (h : (fK p n)[j]? = some i) : i < n ∧ p i = true ∧ (fK p i).length = j := by
  have hm := fK_mem.1 (List.mem_of_getElem? h)
  refine ⟨hm.1, hm.2, ?_⟩
  have h2 := fK_get hm.2 hm.1
  have hl := fK_lt hm.2 hm.1
  exact (List.getElem?_inj hl fK_nodup).1 (by rw [h2, h])
theorem fK_next {p : Nat → Bool} {i : Nat} : (fK p (i + 1)).length = (fK p i).length + if p i = true then 1 else 0 := by
  rw [fK_succ, List.length_append]; split <;> rfl
theorem fK_mono {p : Nat → Bool} {i : Nat} : ∀ {j : Nat}, i ≤ j → (fK p i).length ≤ (fK p j).length
  | 0, h => by rw [show i = 0 by omega]; exact Nat.le_refl _
  | j + 1, h => by
    rw [fK_next]
    rcases Nat.lt_or_ge j i with h2 | h2
    · rw [show i = j + 1 by omega, fK_next]; exact Nat.le_refl _
    · have := fK_mono (p := p) h2; omega
theorem fK_le {p : Nat → Bool} {n : Nat} : (fK p n).length ≤ n := by
  have := List.length_filter_le p (List.range n)
  rw [List.length_range] at this; exact this
theorem fK_all {p : Nat → Bool} {n : Nat} (h : ∀ i, i < n → p i = true) : fK p n = List.range n := by
  unfold fK
  rw [List.filter_eq_self]
  intro a ha
  exact h a (List.mem_range.1 ha)
theorem pick_len {α : Type} {xs : List α} : ∀ {ks : List Nat}, (∀ k ∈ ks, k < xs.length) → (pickK xs ks).length = ks.length
  | [], _ => rfl
  | k :: ks, h => by
    have hk := h k List.mem_cons_self
    have := pick_len (xs := xs) (ks := ks) fun x hx => h x (List.mem_cons_of_mem _ hx)
    unfold pickK at this ⊢
    rw [List.filterMap_cons, List.getElem?_eq_getElem hk]
    simp [this]
theorem pick_get {α : Type} {xs : List α} : ∀ {ks : List Nat}, (∀ k ∈ ks, k < xs.length) → ∀ j : Nat, (pickK xs ks)[j]? = (ks[j]?).bind fun i => xs[i]?
  | [], _, j => by simp [pickK]
  | k :: ks, h, j => by
    have hk := h k List.mem_cons_self
    have ih := pick_get (xs := xs) (ks := ks) fun x hx => h x (List.mem_cons_of_mem _ hx)
    unfold pickK at ih ⊢
    rw [List.filterMap_cons, List.getElem?_eq_getElem hk]
    cases j with
    | zero => simp [List.getElem?_eq_getElem hk]
    | succ j => simpa using ih j
theorem pick_mem {α : Type} {xs : List α} {ks : List Nat} {x : α} (h : x ∈ pickK xs ks) : x ∈ xs := by
  unfold pickK at h
  obtain ⟨i, _, hi⟩ := List.mem_filterMap.1 h
  exact List.mem_of_getElem? hi
theorem pick_range {α : Type} {xs : List α} : pickK xs (List.range xs.length) = xs := by
  apply List.ext_getElem?
  intro j
  rw [pick_get fun k hk => List.mem_range.1 hk]
  by_cases h : j < xs.length
  · rw [List.getElem?_eq_getElem (l := List.range xs.length) (by simpa using h)]; simp
  · rw [List.getElem?_eq_none (by simpa using h), List.getElem?_eq_none (by omega)]; rfl
theorem pick_at {α : Type} {xs : List α} {p : Nat → Bool} {i : Nat} (hp : p i = true) (hi : i < xs.length) : (pickK xs (fK p xs.length))[(fK p i).length]? = xs[i]? := by
  rw [pick_get fun k hk => (fK_mem.1 hk).1, fK_get hp hi]; rfl
theorem kept_lt {S : List Int} {n k : Nat} (h : k ∈ keptI S n) : k < n := (fK_mem.1 h).1
end
section
open Go Q Go.RowKit
def usG (u : UsM) (q : Int) : List Int := if q = 1 then u.s1 else if q = 2 then u.s2 else u.s3
theorem mem_insK' {S : List Int} {x y : Int} : y ∈ insK S x ↔ y ∈ S ∨ y = x := by
  rw [mem_ins]; exact Or.comm
theorem mem_markU {u : UsM} {k n q x : Int} (hq : q = 1 ∨ q = 2 ∨ q = 3) : x ∈ usG (markU u k n) q ↔ x ∈ usG u q ∨ (clsM k = q ∧ x = n) := by
  unfold markU usG
  rcases hq with rfl | rfl | rfl <;> by_cases h1 : clsM k = 1 <;> by_cases h2 : clsM k = 2 <;> by_cases h3 : clsM k = 3 <;> simp [h1, h2, h3, mem_insK']
theorem mem_mark3 {u : UsM} {i : InsM} {q x : Int} (hq : q = 1 ∨ q = 2 ∨ q = 3) : x ∈ usG (markK i 3 u) q ↔ x ∈ usG u q ∨ ∃ k : Nat, k < 3 ∧ clsM (kindM i k) = q ∧ x = fldM i k := by
  rw [markK_succ, mem_markU hq, markK_succ, mem_markU hq, markK_succ, mem_markU hq, show markK i 0 u = u from rfl]
  constructor
  · rintro (((h | h) | h) | h)
    · exact .inl h
    · exact .inr ⟨0, by omega, h⟩
    · exact .inr ⟨1, by omega, h⟩
    · exact .inr ⟨2, by omega, h⟩
  · rintro (h | ⟨k, hk, h⟩)
    · exact .inl (.inl (.inl h))
    · match k, hk with
      | 0, _ => exact .inl (.inl (.inr h))
      | 1, _ => exact .inl (.inr h)
      | 2, _ => exact .inr h
theorem mem_uses {c : CodeM} {k : Nat} {q x : Int} (hq : q = 1 ∨ q = 2 ∨ q = 3) : x ∈ usG (usesK c k) q ↔ ∃ j, j < k ∧ rcAt c j = true ∧ ∃ f : Nat, f < 3 ∧ clsM (kindM (insAt c j) f) = q ∧ x = fldM (insAt c j) f := by
  induction k with
  | zero =>
    constructor
    · intro h
      have : usG (usesK c 0) q = [] := by unfold usesK rK usG; simp
      rw [this] at h; cases h
    · rintro ⟨j, hj, _⟩; omega
  | succ k ih =>
    rw [usesK_succ]
    by_cases hr : rcAt c k = true
    · rw [if_pos hr, mem_mark3 hq, ih]
      constructor
      · rintro (⟨j, h1, h2⟩ | h)
        · exact ⟨j, by omega, h2⟩
        · exact ⟨k, by omega, hr, h⟩
      · rintro ⟨j, h1, h2, h3⟩
        by_cases e : j = k
        · subst e; exact .inr h3
        · exact .inl ⟨j, by omega, h2, h3⟩
    · rw [if_neg hr, ih]
      constructor
      · rintro ⟨j, h1, h2⟩; exact ⟨j, by omega, h2⟩
      · rintro ⟨j, h1, h2, h3⟩
        by_cases e : j = k
        · subst e; exact absurd h2 hr
        · exact ⟨j, by omega, h2, h3⟩
theorem uses_of {c : CodeM} {j f : Nat} {q : Int} (hq : q = 1 ∨ q = 2 ∨ q = 3) (hj : j < c.ins.length) (hr : rcAt c j = true) (hf : f < 3) (hc : clsM (kindM (insAt c j) f) = q) : fldM (insAt c j) f ∈ usG (usesM c) q :=
  (mem_uses hq).2 ⟨j, hj, hr, f, hf, hc, rfl⟩
theorem kind0_of {i : InsM} (h : ¬ (i.op = 12 ∨ i.op = 21)) : kindM i 0 = (formAt i.op).k0 := by
  unfold kindM
  rw [if_neg (by simp [h]), if_neg (by simp), if_pos rfl]
theorem kind1_of {i : InsM} (h : ¬ i.op = 19) : kindM i 1 = (formAt i.op).k1 := by
  unfold kindM
  rw [if_neg (by simp [h]), if_neg (by simp), if_neg (by decide), if_pos rfl]
theorem kind2_of {i : InsM} (h : ¬ i.op = 22) : kindM i 2 = (formAt i.op).k2 := by
  unfold kindM
  rw [if_neg (by simp), if_neg (by simp [h]), if_neg (by decide), if_neg (by decide)]
theorem kind0_19 {i : InsM} (h : i.op = 19) : kindM i 0 = 15 := by
  rw [kind0_of (by omega), h]; decide +kernel
theorem newIns_eq {c : CodeM} {i : InsM} : newIns c i = ⟨i.op, renewM c (kindM i 0) i.a, renewM c (kindM i 1) i.b, renewM c (kindM i 2) i.c⟩ := by
  have ha : i.op = 19 → renewM c (kindM i 0) i.a = i.a := fun e => by
    rw [kind0_19 e]; rfl
  unfold newIns
  rw [renewK_succ, renewK_succ, renewK_succ]
  show setFld (setFld (setFld i 0 _) 1 _) 2 _ = _
  have e0 : renewK c i 0 = i := rfl
  rw [e0]
  have f0 : fldM i ((0 : Nat) : Int) = i.a := rfl
  rw [f0]
  generalize hA : renewM c (kindM i ((0 : Nat) : Int)) i.a = A
  have hA' : renewM c (kindM i 0) i.a = A := hA
  have s0 : setFld i ((0 : Nat) : Int) A = ⟨i.op, A, i.b, i.c⟩ := rfl
  rw [s0]
  have k1 : kindM ⟨i.op, A, i.b, i.c⟩ ((1 : Nat) : Int) = kindM i 1 := by
    unfold kindM
    by_cases e : i.op = 19
    · have : A = i.a := by rw [← hA']; exact ha e
      rw [this]; rfl
    · simp [e]
  rw [k1]
  have f1 : fldM ⟨i.op, A, i.b, i.c⟩ ((1 : Nat) : Int) = i.b := rfl
  rw [f1]
  generalize hB : renewM c (kindM i 1) i.b = B
  have s1 : setFld ⟨i.op, A, i.b, i.c⟩ ((1 : Nat) : Int) B = ⟨i.op, A, B, i.c⟩ := rfl
  rw [s1]
  have k2 : kindM ⟨i.op, A, B, i.c⟩ ((2 : Nat) : Int) = kindM i 2 := by
    unfold kindM; simp
  rw [k2]
  have f2 : fldM ⟨i.op, A, B, i.c⟩ ((2 : Nat) : Int) = i.c := rfl
  rw [f2]
  rfl
theorem kind_new {c : CodeM} {i : InsM} (k : Int) : kindM (newIns c i) k = kindM i k := by
  rw [newIns_eq]
  by_cases e : i.op = 19
  · have : renewM c (kindM i 0) i.a = i.a := by rw [kind0_19 e]; rfl
    rw [this]
    rfl
  · generalize renewM c (kindM i 0) i.a = A
    unfold kindM
    simp [e]
theorem fld_new {c : CodeM} {i : InsM} {k : Nat} (hk : k < 3) : fldM (newIns c i) k = renewM c (kindM i k) (fldM i k) := by
  rw [newIns_eq]
  match k, hk with
  | 0, _ => rfl
  | 1, _ => rfl
  | 2, _ => rfl
theorem pos_at {α : Type} {xs : List α} {S : List Int} {n : Int} (h0 : 0 ≤ n) (h1 : n < xs.length) (hm : n ∈ S) :
    0 ≤ posM S xs.length n ∧ posM S xs.length n < (pickK xs (keptI S xs.length)).length ∧ (pickK xs (keptI S xs.length))[(posM S xs.length n).toNat]? = xs[n.toNat]? ∧ posM S xs.length n = ((keptI S n.toNat).length : Int) := by
  have hm' : memK S n = true := memK_iff.2 hm
  have hp : posM S xs.length n = ((keptI S n.toNat).length : Int) := by
    unfold posM
    rw [if_neg (by omega), if_pos ⟨h0, h1, hm'⟩]
  have hp2 : (fun i : Nat => memK S (i : Int)) n.toNat = true := by
    show memK S ((n.toNat : Nat) : Int) = true
    rw [show ((n.toNat : Nat) : Int) = n by omega]; exact hm'
  have hg : (pickK xs (keptI S xs.length))[(keptI S n.toNat).length]? = xs[n.toNat]? := pick_at (p := fun i => memK S (i : Int)) hp2 (by omega)
  rw [hp]
  refine ⟨by omega, ?_, by rw [Int.toNat_natCast]; exact hg, rfl⟩
  rcases Nat.lt_or_ge (keptI S n.toNat).length (pickK xs (keptI S xs.length)).length with h | h
  · omega
  · rw [List.getElem?_eq_none h, List.getElem?_eq_getElem (show n.toNat < xs.length by omega)] at hg; cases hg
theorem named_new {c : CodeM} {n : Int} {p : ByteArray → Bool} (h : namedM c n p = true) (hm : n ∈ (usesM c).s1) : namedM (trimOk c) (posM (usesM c).s1 c.consts.length n) p = true := by
  unfold namedM at h ⊢
  rw [Bool.and_eq_true, inB_iff] at h ⊢
  obtain ⟨⟨h0, h1⟩, h2⟩ := h
  obtain ⟨p0, p1, p2, _⟩ := pos_at (xs := c.consts) h0 (by omega) hm
  have hl : (trimOk c).consts = pickK c.consts (keptI (usesM c).s1 c.consts.length) := rfl
  rw [hl]
  refine ⟨⟨p0, by omega⟩, ?_⟩
  rw [List.getD_eq_getElem?_getD, p2, ← List.getD_eq_getElem?_getD]; exact h2
theorem renew_cls1 {c : CodeM} {k n : Int} (h : clsM k = 1) : renewM c k n = posM (usesM c).s1 c.consts.length n := by
  unfold renewM
  have h' := h
  unfold clsM at h
  have : k = 2 ∨ k = 3 ∨ k = 4 ∨ k = 5 ∨ k = 6 ∨ k = 7 ∨ k = 8 := by
    apply Classical.byContradiction
    intro hh
    rw [if_neg hh] at h
    (repeat' split at h) <;> cases h
  rw [if_neg (by omega), if_neg (by omega), if_neg (by omega), if_pos h']
theorem posM_neg {S : List Int} {n : Nat} : posM S n (-1) = -1 := by unfold posM; rw [if_pos rfl]
theorem good_new {c : CodeM} {k n : Int} (h : goodM c k n = true) (hu : ∀ q, clsM k = q → (q = 1 ∨ q = 2 ∨ q = 3) → n ∈ usG (usesM c) q) (hpl : k = 13 → 0 ≤ (atM c).getD n.toNat 0 ∧ (atM c).getD n.toNat 0 < (trimOk c).ins.length) : goodM (trimOk c) k (renewM c k n) = true := by
  by_cases hc : clsM k = 1
  · have hm : n ∈ (usesM c).s1 := hu 1 hc (.inl rfl)
    rw [renew_cls1 hc]
    have hk : k = 2 ∨ k = 3 ∨ k = 4 ∨ k = 5 ∨ k = 6 ∨ k = 7 ∨ k = 8 := by
      unfold clsM at hc
      apply Classical.byContradiction
      intro hh
      rw [if_neg hh] at hc
      (repeat' split at hc) <;> cases hc
    rcases hk with rfl | rfl | rfl | rfl | rfl | rfl | rfl
    · exact named_new (p := fun _ => true) h hm
    · exact named_new (p := kindIs 2) h hm
    · exact named_new (p := kindIs 3) h hm
    · exact named_new (p := kindIs 4) h hm
    · exact named_new (p := varB) h hm
    · have h' : (namedM c n (kindIs 2) || namedM c n (kindIs 4)) = true := h
      show (namedM (trimOk c) _ (kindIs 2) || namedM (trimOk c) _ (kindIs 4)) = true
      rw [Bool.or_eq_true] at h' ⊢
      exact h'.imp (fun e => named_new e hm) (fun e => named_new e hm)
    · have h' : (decide (n = -1) || namedM c n fun _ => true) = true := h
      show (decide (_ = -1) || namedM (trimOk c) _ fun _ => true) = true
      rw [Bool.or_eq_true, decide_eq_true_eq] at h' ⊢
      exact h'.imp (fun e => by rw [e, posM_neg]) (fun e => named_new e hm)
  by_cases h13 : k = 13
  · subst h13
    have hp := hpl rfl
    have e : renewM c 13 n = (atM c).getD n.toNat 0 := rfl
    rw [e]
    show inB _ 0 _ = true
    rw [inB_iff]; omega
  by_cases h10 : k = 10
  · subst h10
    have hm : n ∈ (usesM c).s2 := hu 2 rfl (.inr (.inl rfl))
    have h' : inB n 0 ((c.tmpls.length : Int) - 1) = true := h
    rw [inB_iff] at h'
    obtain ⟨p0, p1, _, _⟩ := pos_at (xs := c.tmpls) h'.1 (by omega) hm
    show inB (posM (usesM c).s2 c.tmpls.length n) 0 (((pickK c.tmpls (keptI (usesM c).s2 c.tmpls.length)).length : Int) - 1) = true
    rw [inB_iff]; omega
  by_cases h11 : k = 11
  · subst h11
    have hm : n ∈ (usesM c).s3 := hu 3 rfl (.inr (.inr rfl))
    have h' : inB n 0 ((c.lists.length : Int) - 1) = true := h
    rw [inB_iff] at h'
    obtain ⟨p0, p1, _, _⟩ := pos_at (xs := c.lists) h'.1 (by omega) hm
    show inB (posM (usesM c).s3 c.lists.length n) 0 (((pickK c.lists (keptI (usesM c).s3 c.lists.length)).length : Int) - 1) = true
    rw [inB_iff]; omega
  by_cases h12 : k = 12
  · subst h12
    have hm : n ∈ (usesM c).s3 := hu 3 rfl (.inr (.inr rfl))
    have h' : (decide (n = -1) || inB n 0 ((c.lists.length : Int) - 1)) = true := h
    show (decide (posM (usesM c).s3 c.lists.length n = -1) || inB (posM (usesM c).s3 c.lists.length n) 0 (((pickK c.lists (keptI (usesM c).s3 c.lists.length)).length : Int) - 1)) = true
    rw [Bool.or_eq_true, decide_eq_true_eq, inB_iff] at h' ⊢
    rcases h' with h' | h'
    · exact .inl (by rw [h', posM_neg])
    · obtain ⟨p0, p1, _, _⟩ := pos_at (xs := c.lists) h'.1 (by omega) hm
      exact .inr ⟨p0, by omega⟩
  have e : renewM c k n = n := by
    unfold renewM
    rw [if_neg h13, if_neg h10, if_neg (by omega), if_neg hc]
  rw [e]
  have hk : ¬ (k = 2 ∨ k = 3 ∨ k = 4 ∨ k = 5 ∨ k = 6 ∨ k = 7 ∨ k = 8) := fun hh => hc (by unfold clsM; rw [if_pos hh])
  unfold goodM at h ⊢
  rw [if_neg (show ¬ k = 8 by omega), if_neg (show ¬ k = 2 by omega), if_neg (show ¬ k = 3 by omega), if_neg (show ¬ k = 4 by omega), if_neg (show ¬ k = 5 by omega), if_neg (show ¬ k = 6 by omega), if_neg (show ¬ k = 7 by omega), if_neg h10, if_neg h12, if_neg h11, if_neg h13] at h ⊢
  exact h
end
section
open Go Q Go.RowKit
structure Ok (c : CodeM) : Prop where
  lim : limitsM c = true
  par : partsM c = true
  rt : ∀ i ∈ c.ins, rightM c i = true
  fin : (formAt (lastI c).op).final = true
theorem Ok.pos {c : CodeM} (h : Ok c) : 0 < c.ins.length := parts_pos h.par
theorem Ok.nb {c : CodeM} (h : Ok c) : reachBad c = false := reachBad_ok h.lim h.par
theorem insAt_get {c : CodeM} {a : Nat} (h : a < c.ins.length) : c.ins[a]? = some (insAt c a) := by rw [insAt, List.getD_eq_getElem?_getD, List.getElem?_eq_getElem h]; rfl
theorem Ok.rat {c : CodeM} (h : Ok c) {a : Nat} (ha : a < c.ins.length) : rightM c (insAt c a) = true := h.rt _ (List.mem_of_getElem? (insAt_get ha))
def phi (c : CodeM) (i : Nat) : Nat := (rK c i).length
def newN (c : CodeM) : Nat := (rK c c.ins.length).length
theorem rc_lt {c : CodeM} (h : Ok c) {i : Nat} (hr : rcAt c i = true) : i < c.ins.length := by
  have hl := reachM_len h.nb
  apply Classical.byContradiction
  intro hge
  unfold rcAt at hr
  rw [List.getD_eq_getElem?_getD, List.getElem?_eq_none (by omega)] at hr
  cases hr
theorem phi_lt {c : CodeM} (h : Ok c) {i : Nat} (hr : rcAt c i = true) : phi c i < newN c := fK_lt hr (rc_lt h hr)
theorem newLen {c : CodeM} : (trimOk c).ins.length = newN c := by
  show ((rK c c.ins.length).map _).length = _
  rw [List.length_map]; rfl
theorem ins_new {c : CodeM} (h : Ok c) {i : Nat} (hr : rcAt c i = true) : insAt (trimOk c) (phi c i) = newIns c (insAt c i) := by
  unfold insAt
  rw [List.getD_eq_getElem?_getD]
  show ((((rK c c.ins.length).map fun j => newIns c (insAt c j))[phi c i]?).getD noIns) = _
  rw [List.getElem?_map, show (rK c c.ins.length)[phi c i]? = some i from fK_get hr (rc_lt h hr)]
  rfl
theorem newAt_rc {c : CodeM} {i : Nat} (hr : rcAt c i = true) : newAt c i = (phi c i : Int) := by unfold newAt; rw [if_pos hr]; rfl
theorem atM_get {c : CodeM} {i : Nat} (h : i < c.ins.length) : (atM c).getD i 0 = newAt c i := by
  unfold atM
  rw [List.getD_eq_getElem?_getD, List.getElem?_map, List.getElem?_range h]; rfl
theorem psi_ex {c : CodeM} {j : Nat} (hj : j < newN c) : ∃ i, i < c.ins.length ∧ rcAt c i = true ∧ phi c i = j := by
  have hj' : j < (rK c c.ins.length).length := hj
  obtain ⟨h1, h2, h3⟩ := fK_idx (List.getElem?_eq_getElem hj')
  exact ⟨_, h1, h2, h3⟩
theorem Ok.step {c : CodeM} (h : Ok c) {a n : Nat} (hr : rcAt c a = true) (hn : n ∈ toL c a) : rcAt c n = true := (reach_spec h.nb).2.1 a hr n hn
theorem Ok.root {c : CodeM} (h : Ok c) {x : Nat} (hx : x ∈ rootsM c) : rcAt c x = true := (reach_spec h.nb).2.2 x hx
theorem Ok.root0 {c : CodeM} (h : Ok c) : rcAt c 0 = true := h.root (by simp [rootsM, rootsK])
theorem label_root {c : CodeM} (h : Ok c) {s : SpotM} (hs : s ∈ c.labels) : s.at_.toNat ∈ rootsM c := by
  have hin := labels_in h.par s hs
  unfold rootsM rootsK
  rw [List.take_length]
  refine List.mem_cons_of_mem _ (List.mem_map.2 ⟨s, List.mem_filter.2 ⟨hs, ?_⟩, rfl⟩)
  rw [rootOk, inB_iff]; omega
theorem notlast {c : CodeM} (h : Ok c) {a : Nat} (ha : a < c.ins.length) (hf : (formAt (insAt c a).op).final = false) : a + 1 < c.ins.length := by
  apply Classical.byContradiction
  intro hge
  have := h.fin
  unfold lastI at this
  rw [show c.ins.length - 1 = a by omega, hf] at this
  cases this
theorem place_good {c : CodeM} {i : InsM} (h : rightM c i = true) (hj : jumpOp i = true) : (formAt i.op).k0 = 13 ∧ 0 ≤ i.a ∧ i.a < c.ins.length := by
  have hk : (formAt i.op).k0 = 13 := by
    unfold jumpOp at hj
    simp only [Bool.or_eq_true, decide_eq_true_eq] at hj
    rcases hj with e | e | e <;> rw [e] <;> decide +kernel
  unfold rightM at h
  simp only [Bool.and_eq_true] at h
  have h2 := h.2.1
  rw [hk] at h2
  have : goodM c 13 i.a = inB i.a 0 ((c.ins.length : Int) - 1) := rfl
  rw [this, inB_iff] at h2
  exact ⟨hk, h2.1, by omega⟩
theorem kind0_jump {i : InsM} (hj : jumpOp i = true) : kindM i 0 = 13 := by
  unfold jumpOp at hj
  simp only [Bool.or_eq_true, decide_eq_true_eq] at hj
  rw [kind0_of (by omega)]
  rcases hj with e | e | e <;> rw [e] <;> decide +kernel
theorem jump_lead {c : CodeM} {a : Nat} (hj : jumpOp (insAt c a) = true) (h0 : 0 ≤ (insAt c a).a) (h1 : (insAt c a).a < c.ins.length) : (insAt c a).a.toNat ∈ toL c a := by
  unfold toL leadsM lead2
  rw [if_pos (by rw [Bool.and_eq_true, inB_iff]; exact ⟨hj, by omega, by omega⟩)]
  simp
theorem leads_new {c : CodeM} (h : Ok c) {a : Nat} (hr : rcAt c a = true) : leadsM (newN c) (phi c a) (newIns c (insAt c a)) = (leadsM c.ins.length a (insAt c a)).map fun p => (phi c p.1, p.2) := by
  have ha := rc_lt h hr
  have hop : (newIns c (insAt c a)).op = (insAt c a).op := by rw [newIns_eq]
  unfold leadsM
  rw [List.map_append]
  congr 1
  · unfold lead1
    rw [hop]
    cases hf : (formAt (insAt c a).op).final with
    | true => simp
    | false =>
      have h1 := notlast h ha hf
      have hr1 : rcAt c (a + 1) = true := h.step hr (by
        unfold toL leadsM lead1
        rw [if_pos (by rw [hf]; simpa using h1)]; simp)
      have h2 := phi_lt h hr1
      have h3 : phi c (a + 1) = phi c a + 1 := by
        show (fK (rcAt c) (a + 1)).length = (fK (rcAt c) a).length + 1
        rw [fK_next, if_pos hr]
      rw [if_pos (by simp only [Bool.not_false, Bool.true_and, decide_eq_true_eq]; omega), if_pos (by simpa using h1)]
      simp [h3]
  · unfold lead2
    have hj : jumpOp (newIns c (insAt c a)) = jumpOp (insAt c a) := by unfold jumpOp; rw [hop]
    rw [hj]
    cases hjj : jumpOp (insAt c a) with
    | false => simp
    | true =>
      obtain ⟨hk, h0, h1⟩ := place_good (h.rat ha) hjj
      have hr1 : rcAt c (insAt c a).a.toNat = true := h.step hr (jump_lead hjj h0 h1)
      have hA : (newIns c (insAt c a)).a = (phi c (insAt c a).a.toNat : Int) := by
        rw [newIns_eq]
        show renewM c (kindM (insAt c a) 0) (insAt c a).a = _
        rw [kind0_jump hjj]
        show (atM c).getD (insAt c a).a.toNat 0 = _
        rw [atM_get (by omega), newAt_rc hr1]
      have h2 := phi_lt h hr1
      rw [if_pos (by rw [Bool.true_and, inB_iff, hA]; omega), if_pos (by rw [Bool.true_and, inB_iff]; omega)]
      rw [hA]
      simp
theorem toL_new {c : CodeM} (h : Ok c) {a : Nat} (hr : rcAt c a = true) : toL (trimOk c) (phi c a) = (toL c a).map (phi c) := by
  unfold toL
  rw [newLen, ins_new h hr, leads_new h hr, List.map_map, List.map_map]
  rfl
theorem roots_new {c : CodeM} (h : Ok c) : rootsM (trimOk c) = (rootsM c).map (phi c) := by
  unfold rootsM rootsK
  simp only [List.take_length]
  rw [List.map_cons, List.map_map]
  congr 1
  have hf1 : c.labels.filter (rootOk c) = c.labels := by
    rw [List.filter_eq_self]
    intro s hs
    have := labels_in h.par s hs
    rw [rootOk, inB_iff]; omega
  have hl : (trimOk c).labels = c.labels.map fun s => ⟨s.name, (atM c).getD s.at_.toNat 0⟩ := rfl
  have hat : ∀ s ∈ c.labels, (atM c).getD s.at_.toNat 0 = (phi c s.at_.toNat : Int) := fun s hs => by
    have := labels_in h.par s hs
    rw [atM_get (by omega), newAt_rc (h.root (label_root h hs))]
  have hf2 : (trimOk c).labels.filter (rootOk (trimOk c)) = (trimOk c).labels := by
    rw [List.filter_eq_self]
    intro s hs
    rw [hl] at hs
    obtain ⟨s0, hs0, rfl⟩ := List.mem_map.1 hs
    have := phi_lt h (h.root (label_root h hs0))
    rw [rootOk, inB_iff, newLen, hat s0 hs0]; dsimp only; omega
  rw [hf1, hf2, hl, List.map_map]
  apply List.map_congr_left
  intro s hs
  show ((atM c).getD s.at_.toNat 0).toNat = phi c s.at_.toNat
  rw [hat s hs]; omega
theorem newN_pos {c : CodeM} (h : Ok c) : 0 < newN c := by have := phi_lt h h.root0; omega
theorem phi_le {c : CodeM} {i : Nat} : phi c i ≤ i := fK_le
theorem newN_le {c : CodeM} : newN c ≤ c.ins.length := fK_le
theorem nb_new {c : CodeM} (h : Ok c) : reachBad (trimOk c) = false := by
  rw [reachBad_iff, newLen]
  obtain ⟨h1, h2, _⟩ := reachBad_iff.1 h.nb
  have := newN_pos h
  have := @newN_le c
  exact ⟨by omega, by show (c.labels.map _).length ≤ 3000; rw [List.length_map]; exact h2, by omega⟩
theorem reach_new {c : CodeM} (h : Ok c) {a : Nat} (hr : rcAt c a = true) : rcAt (trimOk c) (phi c a) = true := by
  have hnb := nb_new h
  have hspec := reach_spec hnb
  have key : ∀ b, (reachM c).getD b false = true → (rcAt c b = true ∧ rcAt (trimOk c) (phi c b) = true) := by
    unfold reachM
    rw [h.nb, if_neg (by simp)]
    obtain ⟨hi, _⟩ := startR_inv h.nb
    refine runR_least (S := fun b => rcAt c b = true ∧ rcAt (trimOk c) (phi c b) = true) (fun b hb n hn => ⟨h.step hb.1 hn, hspec.2.1 _ hb.2 _ ?_⟩) _ _ hi.len hi.op (fun b hb => ?_) (fun b hb => ⟨h.root hb, hspec.2.2 _ ?_⟩)
    · rw [toL_new h hb.1]; exact List.mem_map.2 ⟨n, hn, rfl⟩
    · simp only [List.getD_eq_getElem?_getD, List.getElem?_replicate] at hb
      split at hb <;> simp at hb
    · rw [roots_new h]; exact List.mem_map.2 ⟨b, hb, rfl⟩
  exact (key a hr).2
theorem reach_all {c : CodeM} (h : Ok c) {j : Nat} (hj : j < newN c) : rcAt (trimOk c) j = true := by
  obtain ⟨i, _, hr, rfl⟩ := psi_ex hj
  exact reach_new h hr
end
section
open Go Q Go.RowKit
theorem kind_form {i : InsM} : (kindM i 0 = (formAt i.op).k0 ∨ (formAt i.op).k0 = 23) ∧ (kindM i 1 = (formAt i.op).k1 ∨ (formAt i.op).k1 = 23) ∧ (kindM i 2 = (formAt i.op).k2 ∨ (formAt i.op).k2 = 23) := by
  have f12 : (formAt 12).k0 = 23 := by decide +kernel
  have f21 : (formAt 21).k0 = 23 := by decide +kernel
  have f19 : (formAt 19).k1 = 23 := by decide +kernel
  have f22 : (formAt 22).k2 = 23 := by decide +kernel
  refine ⟨?_, ?_, ?_⟩
  · unfold kindM
    by_cases e : i.op = 12 ∨ i.op = 21
    · right; rcases e with e | e <;> rw [e] <;> assumption
    · left
      rw [if_neg (by simp [e]), if_neg (by simp), if_pos rfl]
  · unfold kindM
    by_cases e : i.op = 19
    · right; rw [e]; exact f19
    · left
      rw [if_neg (by simp [e]), if_neg (by simp), if_neg (by decide), if_pos rfl]
  · unfold kindM
    by_cases e : i.op = 22
    · right; rw [e]; exact f22
    · left
      rw [if_neg (by simp), if_neg (by simp [e]), if_neg (by decide), if_neg (by decide)]
theorem good23 {c : CodeM} {n : Int} : goodM c 23 n = true := by
  show rangedM 23 n = true
  rfl
theorem form13 {n : Int} : (formAt n).k1 ≠ 13 ∧ (formAt n).k2 ≠ 13 ∧ ((formAt n).k0 = 13 → n = 23 ∨ n = 24 ∨ n = 30) := by
  unfold formAt
  split
  · have h : ∀ k : Fin 47, (formL.getD k.val noForm).k1 ≠ 13 ∧ (formL.getD k.val noForm).k2 ≠ 13 ∧ ((formL.getD k.val noForm).k0 = 13 → ((k.val : Nat) : Int) = 23 ∨ ((k.val : Nat) : Int) = 24 ∨ ((k.val : Nat) : Int) = 30) := by decide +kernel
    have hk : 1 ≤ n ∧ n ≤ 46 := by
      have := ‹opOk n = true›
      unfold opOk at this
      simpa using this
    have := h ⟨n.toNat, by omega⟩
    simp only at this
    rw [show ((n.toNat : Nat) : Int) = n by omega] at this
    exact this
  · exact ⟨by decide, by decide, fun h => absurd h (by decide)⟩
theorem jump_of {i : InsM} {k : Nat} (hk : k < 3) (h : kindM i k = 13) : k = 0 ∧ jumpOp i = true := by
  obtain ⟨f1, f2, f0⟩ := @form13 i.op
  unfold kindM at h
  split at h
  · cases h
  · split at h
    · cases h
    · match k, hk with
      | 0, _ =>
        rw [if_pos (by rfl)] at h
        refine ⟨rfl, ?_⟩
        have := f0 h
        unfold jumpOp
        simpa using this
      | 1, _ => rw [if_neg (by decide), if_pos (by rfl)] at h; exact absurd h f1
      | 2, _ => rw [if_neg (by decide), if_neg (by decide)] at h; exact absurd h f2
theorem good_fld {c : CodeM} (h : Ok c) {a : Nat} (hr : rcAt c a = true) {k : Nat} (hk : k < 3) (hg : goodM c (kindM (insAt c a) k) (fldM (insAt c a) k) = true) :
    goodM (trimOk c) (kindM (insAt c a) k) (renewM c (kindM (insAt c a) k) (fldM (insAt c a) k)) = true := by
  have ha := rc_lt h hr
  refine good_new hg (fun q hq hq' => uses_of hq' ha hr hk hq) (fun h13 => ?_)
  obtain ⟨rfl, hj⟩ := jump_of hk h13
  obtain ⟨_, h0, h1⟩ := place_good (h.rat ha) hj
  have hf : fldM (insAt c a) ((0 : Nat) : Int) = (insAt c a).a := rfl
  rw [hf, newLen, atM_get (by omega)]
  have hr1 := h.step hr (jump_lead hj h0 h1)
  rw [newAt_rc hr1]
  have := phi_lt h hr1
  omega
theorem special_new {c : CodeM} (h : Ok c) {a : Nat} (hr : rcAt c a = true) (hs : specialM c (insAt c a) = true) (hg0 : opOk (insAt c a).op = true) : specialM (trimOk c) (newIns c (insAt c a)) = true := by
  have ha := rc_lt h hr
  have hfld := fun k hk hg => good_fld h hr (k := k) hk hg
  have hu := fun (f : Nat) hf hc => uses_of (c := c) (j := a) (f := f) (q := 1) (.inl rfl) ha hr hf hc
  rw [newIns_eq]
  generalize hi : insAt c a = i at *
  unfold specialM at hs ⊢
  simp only
  have neg23 : ∀ n, renewM c 23 n = n := fun n => rfl
  have neg15 : ∀ n, renewM c 15 n = n := fun n => rfl
  have neg14 : ∀ n, renewM c 14 n = n := fun n => rfl
  by_cases e1 : i.op = 12 ∨ i.op = 21
  · rw [if_pos e1] at hs ⊢
    have k0 : kindM i 0 = 2 := by unfold kindM; rw [if_pos (.inl ⟨e1, rfl⟩)]
    have k2 : kindM i 2 = 14 := by
      rw [kind2_of (by omega)]
      rcases e1 with e | e <;> rw [e] <;> decide +kernel
    rw [k0, k2, neg14, renew_cls1 rfl]
    exact named_new hs (hu 0 (by omega) (by show clsM (kindM i 0) = 1; rw [k0]; rfl))
  rw [if_neg e1] at hs ⊢
  by_cases e2 : i.op = 19
  · rw [if_pos e2] at hs ⊢
    have k0 : kindM i 0 = 15 := kind0_19 e2
    rw [k0, neg15]
    by_cases ea : i.a = 1
    · have k1 : kindM i 1 = 2 := by unfold kindM; rw [if_pos (.inr ⟨e2, rfl, ea⟩)]
      rw [ea] at hs ⊢
      have hg : goodM c 2 i.b = true := by simpa using hs
      have := hfld 1 (by omega) (by show goodM c (kindM i 1) i.b = true; rw [k1]; exact hg)
      have h3 : goodM (trimOk c) 2 (renewM c 2 i.b) = true := by
        have h4 : goodM (trimOk c) (kindM i 1) (renewM c (kindM i 1) i.b) = true := this
        rw [k1] at h4; exact h4
      rw [k1, h3]; simp
    · have k1 : kindM i 1 = 23 := by
        unfold kindM; rw [if_neg (by simp [ea, e1]), if_neg (by simp [e2]), if_neg (by decide), if_pos rfl, e2]; decide +kernel
      rw [k1, neg23]
      simpa [ea] using hs
  rw [if_neg e2] at hs ⊢
  by_cases e3 : i.op = 22
  · rw [if_pos e3] at hs ⊢
    have k0 : kindM i 0 = 23 := by rw [kind0_of (by omega), e3]; decide +kernel
    have k1 : kindM i 1 = 15 := by rw [kind1_of (by omega), e3]; decide +kernel
    have k2 : kindM i 2 = 8 := by unfold kindM; rw [if_neg (by simp [e3]), if_pos ⟨e3, rfl⟩]
    rw [k0, k1, k2, neg23, neg15]
    rw [Bool.and_eq_true] at hs ⊢
    refine ⟨hs.1, ?_⟩
    have h2 := hs.2
    rw [Bool.or_eq_true, decide_eq_true_eq, Bool.and_eq_true] at h2 ⊢
    rcases h2 with h2 | ⟨h2, h3⟩
    · left; rw [h2, renew_cls1 rfl, posM_neg]
    · right
      refine ⟨h2, ?_⟩
      rw [renew_cls1 rfl]
      exact named_new (p := kindIs 2) h3 (hu 2 (by omega) (by show clsM (kindM i 2) = 1; rw [k2]; rfl))
  rw [if_neg e3]
theorem right_new {c : CodeM} (h : Ok c) {a : Nat} (hr : rcAt c a = true) : rightM (trimOk c) (newIns c (insAt c a)) = true := by
  have ha := rc_lt h hr
  have hrt := h.rat ha
  unfold rightM at hrt ⊢
  simp only [Bool.and_eq_true] at hrt ⊢
  obtain ⟨h0, h1, h2, h3, h4⟩ := hrt
  have hop : (newIns c (insAt c a)).op = (insAt c a).op := by rw [newIns_eq]
  obtain ⟨q0, q1, q2⟩ := @kind_form (insAt c a)
  rw [hop]
  refine ⟨h0, ?_, ?_, ?_, special_new h hr h4 h0⟩
  · rcases q0 with q | q
    · have := good_fld h hr (k := 0) (by omega) (by show goodM c (kindM (insAt c a) 0) (insAt c a).a = true; rw [q]; exact h1)
      have h5 : goodM (trimOk c) (kindM (insAt c a) 0) (renewM c (kindM (insAt c a) 0) (insAt c a).a) = true := this
      rw [newIns_eq, ← q]; exact h5
    · rw [q]; exact good23
  · rcases q1 with q | q
    · have := good_fld h hr (k := 1) (by omega) (by show goodM c (kindM (insAt c a) 1) (insAt c a).b = true; rw [q]; exact h2)
      have h5 : goodM (trimOk c) (kindM (insAt c a) 1) (renewM c (kindM (insAt c a) 1) (insAt c a).b) = true := this
      rw [newIns_eq, ← q]; exact h5
    · rw [q]; exact good23
  · rcases q2 with q | q
    · have := good_fld h hr (k := 2) (by omega) (by show goodM c (kindM (insAt c a) 2) (insAt c a).c = true; rw [q]; exact h3)
      have h5 : goodM (trimOk c) (kindM (insAt c a) 2) (renewM c (kindM (insAt c a) 2) (insAt c a).c) = true := this
      rw [newIns_eq, ← q]; exact h5
    · rw [q]; exact good23
theorem right_all {c : CodeM} (h : Ok c) : ∀ i ∈ (trimOk c).ins, rightM (trimOk c) i = true := by
  intro i hi
  obtain ⟨j, hj, rfl⟩ := List.mem_map.1 (show i ∈ (rK c c.ins.length).map fun j => newIns c (insAt c j) from hi)
  exact right_new h (fK_mem.1 hj).2
theorem labs_new {c : CodeM} (h : Ok c) : ∀ (l : List SpotM) (last : Nat), (∀ s ∈ l, s ∈ c.labels) → (last = 0 ∨ rcAt c last = true) → (allS (labS c.ins.length) (last : Int) l).1 = true →
    (allS (labS (newN c)) (phi c last : Int) (l.map fun s => ⟨s.name, (atM c).getD s.at_.toNat 0⟩)).1 = true
  | [], _, _, _, _ => rfl
  | s :: l, last, hm, hl, ha => by
    have hs := hm s List.mem_cons_self
    have hin := labels_in h.par s hs
    have hr := h.root (label_root h hs)
    have hat : (atM c).getD s.at_.toNat 0 = (phi c s.at_.toNat : Int) := by rw [atM_get (by omega), newAt_rc hr]
    rw [allS_cons, show labS c.ins.length last s = ((labS c.ins.length last s).1, (labS c.ins.length last s).2) from rfl] at ha
    rw [List.map_cons, allS_cons]
    cases h1 : (labS c.ins.length last s).1 with
    | false => rw [h1] at ha; cases ha
    | true =>
      rw [h1] at ha
      simp only at ha
      simp only [labS, Bool.and_eq_true, inB_iff] at h1
      have hmax : max (last : Int) s.at_ = ((s.at_.toNat : Nat) : Int) := by omega
      simp only [labS, hmax] at ha
      have hle : phi c last ≤ phi c s.at_.toNat := fK_mono (by omega)
      have hlt := phi_lt h hr
      have e : labS (newN c) (phi c last : Int) ⟨s.name, (atM c).getD s.at_.toNat 0⟩ = (true, (phi c s.at_.toNat : Int)) := by
        unfold labS
        simp only [hat]
        congr 1
        · rw [h1.1, Bool.true_and, inB_iff]; omega
        · omega
      rw [e]
      exact labs_new h l s.at_.toNat (fun x hx => hm x (List.mem_cons_of_mem _ hx)) (.inr hr) ha
theorem parts_new {c : CodeM} (h : Ok c) : partsM (trimOk c) = true := by
  have hp := h.par
  unfold partsM at hp ⊢
  simp only [Bool.and_eq_true, Bool.not_eq_true', decide_eq_false_iff_not, List.all_eq_true] at hp ⊢
  obtain ⟨h1, h2, h3, h4, h5, h6⟩ := hp
  refine ⟨by rw [newLen]; have := newN_pos h; omega, fun x hx => h2 x (pick_mem hx), fun x hx => h3 x (pick_mem hx), fun x hx => h4 x (pick_mem hx), ?_, h6⟩
  rw [newLen]
  have := labs_new h c.labels 0 (fun _ hs => hs) (.inl rfl) h5
  have e0 : phi c 0 = 0 := by have := @phi_le c 0; omega
  rw [e0] at this
  exact this
theorem limits_new {c : CodeM} (h : Ok c) : limitsM (trimOk c) = true := by
  have hl := h.lim
  have hb := limits_bd hl
  unfold limitsM at hl ⊢
  simp only [Bool.and_eq_true, List.all_eq_true] at hl ⊢
  obtain ⟨h1, h2, h3, h4, h5⟩ := hl
  refine ⟨?_, fun x hx => h2 x (pick_mem hx), fun x hx => h3 x (pick_mem hx), fun x hx => h4 x (pick_mem hx), ?_⟩
  · have pl : ∀ {α : Type} (xs : List α) (S : List Int), (pickK xs (keptI S xs.length)).length ≤ xs.length := fun xs S => by
      rw [pick_len fun k hk => kept_lt hk]; exact keptI_len
    have e1 := pl c.consts (usesM c).s1
    have e2 := pl c.tmpls (usesM c).s2
    have e3 := pl c.lists (usesM c).s3
    have e4 : (trimOk c).labels.length = c.labels.length := by show (c.labels.map _).length = _; rw [List.length_map]
    have e5 := @newN_le c
    intro p hp
    unfold sizesL at hp
    have f1 : (trimOk c).consts = pickK c.consts (keptI (usesM c).s1 c.consts.length) := rfl
    have f2 : (trimOk c).tmpls = pickK c.tmpls (keptI (usesM c).s2 c.tmpls.length) := rfl
    have f3 : (trimOk c).lists = pickK c.lists (keptI (usesM c).s3 c.lists.length) := rfl
    have f5 : (trimOk c).slots = c.slots := rfl
    rw [newLen, e4, f1, f2, f3, f5] at hp
    simp only [List.mem_cons, List.not_mem_nil, or_false] at hp
    rcases hp with rfl | rfl | rfl | rfl | rfl | rfl <;> simp only [decide_eq_true_eq] <;> omega
  · intro s hs
    obtain ⟨s0, hs0, rfl⟩ := List.mem_map.1 (show s ∈ c.labels.map fun s => (⟨s.name, (atM c).getD s.at_.toNat 0⟩ : SpotM) from hs)
    exact h5 s0 hs0
theorem final_new {c : CodeM} (h : Ok c) : (formAt (lastI (trimOk c)).op).final = true := by
  have hp := newN_pos h
  obtain ⟨i, hi, hr, he⟩ := psi_ex (c := c) (j := newN c - 1) (by omega)
  unfold lastI
  rw [newLen, ← he, ins_new h hr]
  have hop : (newIns c (insAt c i)).op = (insAt c i).op := by rw [newIns_eq]
  rw [hop]
  cases hf : (formAt (insAt c i).op).final with
  | true => rfl
  | false =>
    exfalso
    have h1 := notlast h hi hf
    have hr1 : rcAt c (i + 1) = true := h.step hr (by
      unfold toL leadsM lead1
      rw [if_pos (by rw [hf]; simpa using h1)]; simp)
    have h2 := phi_lt h hr1
    have h3 : phi c (i + 1) = phi c i + 1 := by
      show (fK (rcAt c) (i + 1)).length = (fK (rcAt c) i).length + 1
      rw [fK_next, if_pos hr]
    omega
theorem Ok.new {c : CodeM} (h : Ok c) : Ok (trimOk c) := ⟨limits_new h, parts_new h, right_all h, final_new h⟩
end
section
open Go Q Go.RowKit
structure Asg (c : CodeM) (P : Nat → Prop) (D : Nat → DepM) : Prop where
  lt : ∀ a, P a → a < c.ins.length
  root : ∀ x ∈ rootsM c, P x ∧ D x = ⟨0, 0⟩
  low : ∀ a, P a → Low (D a)
  stop : ∀ a, P a → (!calmM (insAt c a) (D a) || (decide ((D a).stack < (effM (insAt c a)).pops) || (decide ((insAt c a).op = 33) && decide ((D a).loops < (insAt c a).a)))) = false
  lead : ∀ a, P a → ∀ p ∈ leadsM c.ins.length a (insAt c a), P p.1 ∧ D p.1 = behindM (insAt c a) (D a) p.2
structure KA (c : CodeM) (P : Nat → Prop) (D : Nat → DepM) (d : DpM) : Prop where
  len : d.kn.length = c.ins.length
  kn : ∀ a s, d.kn.getD a none = some s → s = D a ∧ P a
  op : ∀ a ∈ d.open_, ∃ s, d.kn.getD a none = some s
theorem comes_asg {c : CodeM} {P : Nat → Prop} {D : Nat → DepM} (hA : Asg c P D) : ∀ (l : List (Nat × DepM)) (d : DpM), KA c P D d → (∀ p ∈ l, P p.1 ∧ D p.1 = p.2) → ∃ d', comesM l d = some d' ∧ KA c P D d'
  | [], d, hk, _ => ⟨d, rfl, hk⟩
  | p :: l, d, hk, hl => by
    obtain ⟨hp, hd⟩ := hl p List.mem_cons_self
    have hl' : ∀ q ∈ l, P q.1 ∧ D q.1 = q.2 := fun q hq => hl q (List.mem_cons_of_mem _ hq)
    have hlt := hA.lt _ hp
    have hlow := (hA.low _ hp).h
    rw [hd] at hlow
    rw [comesM_cons]
    unfold comeM
    cases hg : d.kn.getD p.1 none with
    | some was =>
      obtain ⟨e, _⟩ := hk.kn _ _ hg
      rw [hd] at e
      simp only [e, decide_true, if_true]
      exact comes_asg hA l d hk hl'
    | none =>
      simp only
      rw [if_pos (by rw [Bool.and_eq_true, inB_iff, inB_iff]; omega)]
      have hpl : p.1 < d.kn.length := by rw [hk.len]; exact hlt
      have hget : ∀ a, (d.kn.set p.1 (some p.2)).getD a none = if p.1 = a then some p.2 else d.kn.getD a none := fun a => by
        rw [List.getD_eq_getElem?_getD, List.getElem?_set]
        by_cases e : p.1 = a
        · rw [if_pos e, if_pos e, if_pos hpl]; rfl
        · rw [if_neg e, if_neg e, ← List.getD_eq_getElem?_getD]
      refine comes_asg hA l _ ⟨by simpa using hk.len, fun a s hs => ?_, fun a ha => ?_⟩ hl'
      · simp only at hs
        rw [hget] at hs
        by_cases e : p.1 = a
        · rw [if_pos e] at hs; cases hs; rw [← e]; exact ⟨hd.symm, hp⟩
        · rw [if_neg e] at hs; exact hk.kn a s hs
      · simp only
        rw [hget]
        by_cases e : p.1 = a
        · rw [if_pos e]; exact ⟨_, rfl⟩
        · rw [if_neg e]
          rcases List.mem_append.1 ha with ha | ha
          · exact hk.op a ha
          · exact absurd (List.mem_singleton.1 ha).symm e
theorem run_asg {c : CodeM} {P : Nat → Prop} {D : Nat → DepM} (hA : Asg c P D) : ∀ (f : Nat) (d : DpM), KA c P D d → ∃ kn, runD c f d = some kn ∧ ∀ a s, kn.getD a none = some s → s = D a
  | 0, d, hk => ⟨d.kn, rfl, fun a s h => (hk.kn a s h).1⟩
  | f + 1, d, hk => by
    unfold runD
    cases hl : d.open_.getLast? with
    | none => exact ⟨d.kn, rfl, fun a s h => (hk.kn a s h).1⟩
    | some a =>
      simp only
      obtain ⟨l, hla⟩ := List.getLast?_eq_some_iff.1 hl
      obtain ⟨k0, o⟩ := d
      simp only at hla
      subst hla
      have hd : (l ++ [a]).dropLast = l := by simp
      simp only [hd]
      obtain ⟨s0, hs0⟩ := hk.op a (by simp)
      simp only at hs0
      obtain ⟨e0, hP⟩ := hk.kn a s0 hs0
      have hdep : depAt k0 a = D a := by unfold depAt; rw [hs0, ← e0]; rfl
      have hk' : KA c P D ⟨k0, l⟩ := ⟨hk.len, hk.kn, fun x hx => hk.op x (by simp [hx])⟩
      obtain ⟨d', h1, h2⟩ := comes_asg hA (nextsM c k0 a) ⟨k0, l⟩ hk' (fun p hp => by
        unfold nextsM at hp
        rw [hdep] at hp
        obtain ⟨q, hq, rfl⟩ := List.mem_map.1 hp
        exact hA.lead a hP q hq)
      have hst : stepD c ⟨k0, l⟩ a = some d' := by
        unfold stepD
        rw [if_neg]
        · exact h1
        · have := hA.stop a hP
          unfold stopsM
          simp only [hdep]
          rw [this]; simp
      rw [hst]
      exact run_asg hA f d' h2
theorem depths_asg {c : CodeM} {P : Nat → Prop} {D : Nat → DepM} (hA : Asg c P D) : ∃ kn, depthsM c = some kn ∧ ∀ a s, kn.getD a none = some s → s = D a := by
  unfold depthsM
  obtain ⟨d', h1, h2⟩ := comes_asg hA (rootsD c) (initD c) ⟨by simp [initD], fun a s hs => by
    simp only [initD, List.getD_eq_getElem?_getD, List.getElem?_replicate] at hs
    split at hs <;> simp at hs, fun a ha => by cases ha⟩ (fun p hp => by
    unfold rootsD at hp
    obtain ⟨x, hx, rfl⟩ := List.mem_map.1 hp
    exact hA.root x hx)
  rw [h1]
  exact run_asg hA _ d' h2
theorem reach_known {c : CodeM} (h : Ok c) {kn : List (Option DepM)} (hd : depthsM c = some kn) {a : Nat} (hr : rcAt c a = true) : ∃ s, kn.getD a none = some s := by
  obtain ⟨hkl, hkok, hkr⟩ := depths_spec h.pos hd
  have key : ∀ b, (reachM c).getD b false = true → ∃ s, kn.getD b none = some s := by
    unfold reachM
    rw [h.nb, if_neg (by simp)]
    obtain ⟨hi, _⟩ := startR_inv h.nb
    refine runR_least (S := fun b => ∃ s, kn.getD b none = some s) (fun b hb n hn => ?_) _ _ hi.len hi.op (fun b hb => ?_) (fun b hb => ⟨_, hkr b hb⟩)
    · obtain ⟨s, hs⟩ := hb
      obtain ⟨hok, _⟩ := hkok b s hs
      unfold toL at hn
      obtain ⟨p, hp, rfl⟩ := List.mem_map.1 hn
      exact ⟨_, hok.2 (p.1, behindM (insAt c b) (depAt kn b) p.2) (by unfold nextsM; exact List.mem_map.2 ⟨p, hp, rfl⟩)⟩
    · simp only [List.getD_eq_getElem?_getD, List.getElem?_replicate] at hb
      split at hb <;> simp at hb
  exact key a hr
theorem a33 {c : CodeM} {i : InsM} (h : i.op = 33) : (newIns c i).a = i.a := by
  rw [newIns_eq]
  show renewM c (kindM i 0) i.a = i.a
  rw [kind0_of (by omega), h]; rfl
theorem eff_new {c : CodeM} {i : InsM} : effM (newIns c i) = effM i := by
  have hop : (newIns c i).op = i.op := by rw [newIns_eq]
  have hb : ∀ k, ¬ i.op = 19 → (formAt i.op).k1 = k → (k = 14 ∨ k = 16 ∨ k = 19 ∨ k = 22) → (newIns c i).b = i.b := fun k h19 hk hh => by
    rw [newIns_eq]
    show renewM c (kindM i 1) i.b = i.b
    rw [kind1_of h19, hk]
    rcases hh with rfl | rfl | rfl | rfl <;> rfl
  have ha : ∀ k, ¬ (i.op = 12 ∨ i.op = 21) → (formAt i.op).k0 = k → (k = 14 ∨ k = 15) → (newIns c i).a = i.a := fun k h19 hk hh => by
    rw [newIns_eq]
    show renewM c (kindM i 0) i.a = i.a
    rw [kind0_of h19, hk]
    rcases hh with rfl | rfl <;> rfl
  have hall : effOk (newIns c i) = effOk i ∧ effPops (newIns c i) = effPops i := by
    unfold effOk effPops
    rw [hop]
    by_cases e1 : i.op = 12 ∨ i.op = 21
    · have : (newIns c i).b = i.b := hb 16 (by omega) (by rcases e1 with e | e <;> rw [e] <;> decide +kernel) (by simp)
      simp only [if_pos e1, this, and_self]
    by_cases e2 : i.op = 19
    · have : (newIns c i).a = i.a := ha 15 e1 (by rw [e2]; decide +kernel) (by simp)
      simp only [if_neg e1, if_pos e2, this, and_self]
    by_cases e3 : i.op = 27
    · have : (newIns c i).b = i.b := hb 22 (by omega) (by rw [e3]; decide +kernel) (by simp)
      simp only [if_neg e1, if_neg e2, if_pos e3, this, and_self]
    by_cases e4 : i.op = 35
    · have h1 : (newIns c i).b = i.b := hb 14 (by omega) (by rw [e4]; decide +kernel) (by simp)
      have h2 : (newIns c i).a = i.a := ha 15 e1 (by rw [e4]; decide +kernel) (by simp)
      simp only [if_neg e1, if_neg e2, if_neg e3, if_pos e4, h1, h2, and_self]
    by_cases e5 : i.op = 36
    · have h1 : (newIns c i).b = i.b := hb 19 (by omega) (by rw [e5]; decide +kernel) (by simp)
      simp only [if_neg e1, if_neg e2, if_neg e3, if_neg e4, if_pos e5, h1, and_self]
    by_cases e6 : i.op = 40 ∨ i.op = 41
    · have h2 : (newIns c i).a = i.a := ha 14 e1 (by rcases e6 with e | e <;> rw [e] <;> decide +kernel) (by simp)
      simp only [if_neg e1, if_neg e2, if_neg e3, if_neg e4, if_neg e5, if_pos e6, h2, and_self]
    simp only [if_neg e1, if_neg e2, if_neg e3, if_neg e4, if_neg e5, if_neg e6, and_self]
  unfold effM
  rw [hop, hall.1, hall.2]
theorem behind_new {c : CodeM} {i : InsM} {s : DepM} {b : Bool} : behindM (newIns c i) s b = behindM i s b := by
  have hop : (newIns c i).op = i.op := by rw [newIns_eq]
  unfold behindM
  rw [eff_new, hop]
  by_cases h : i.op = 33
  · rw [a33 h]
  · simp [h]
def oldD (c : CodeM) (kn : List (Option DepM)) (j : Nat) : DepM := depAt kn ((rK c c.ins.length).getD j 0)
theorem oldD_phi {c : CodeM} (h : Ok c) {kn : List (Option DepM)} {a : Nat} (hr : rcAt c a = true) : oldD c kn (phi c a) = depAt kn a := by
  unfold oldD
  rw [List.getD_eq_getElem?_getD, show (rK c c.ins.length)[phi c a]? = some a from fK_get hr (rc_lt h hr)]; rfl
theorem asg_new {c : CodeM} (h : Ok c) {kn : List (Option DepM)} (hd : depthsM c = some kn) : Asg (trimOk c) (fun j => j < newN c) (oldD c kn) := by
  obtain ⟨hkl, hkok, hkr⟩ := depths_spec h.pos hd
  have hdep : ∀ a s, kn.getD a none = some s → depAt kn a = s := fun a s hs => by unfold depAt; rw [hs]; rfl
  refine ⟨fun a ha => by rw [newLen]; exact ha, fun x hx => ?_, fun j hj => ?_, fun j hj => ?_, fun j hj p hp => ?_⟩
  · rw [roots_new h] at hx
    obtain ⟨y, hy, rfl⟩ := List.mem_map.1 hx
    have hr := h.root hy
    exact ⟨phi_lt h hr, by rw [oldD_phi h hr]; exact hdep _ _ (hkr y hy)⟩
  · obtain ⟨a, ha, hr, rfl⟩ := psi_ex hj
    obtain ⟨s, hs⟩ := reach_known h hd hr
    rw [oldD_phi h hr, hdep a s hs]
    exact (hkok a s hs).2
  · obtain ⟨a, ha, hr, rfl⟩ := psi_ex hj
    obtain ⟨s, hs⟩ := reach_known h hd hr
    have hst := (hkok a s hs).1.1
    have hop : (newIns c (insAt c a)).op = (insAt c a).op := by rw [newIns_eq]
    rw [oldD_phi h hr, ins_new h hr, eff_new]
    unfold stopsM at hst
    have hcalm : calmM (newIns c (insAt c a)) (depAt kn a) = calmM (insAt c a) (depAt kn a) := by unfold calmM; rw [hop]
    rw [hcalm, hop]
    by_cases h33 : (insAt c a).op = 33
    · rw [a33 h33]; exact hst
    · simpa [h33] using hst
  · obtain ⟨a, ha, hr, rfl⟩ := psi_ex hj
    obtain ⟨s, hs⟩ := reach_known h hd hr
    have hok := (hkok a s hs).1
    rw [newLen, ins_new h hr, leads_new h hr] at hp
    obtain ⟨q, hq, rfl⟩ := List.mem_map.1 hp
    have hr1 : rcAt c q.1 = true := h.step hr (by unfold toL; exact List.mem_map.2 ⟨q, hq, rfl⟩)
    refine ⟨phi_lt h hr1, ?_⟩
    simp only
    rw [oldD_phi h hr1, oldD_phi h hr, ins_new h hr, behind_new]
    have := hok.2 (q.1, behindM (insAt c a) (depAt kn a) q.2) (by unfold nextsM; exact List.mem_map.2 ⟨q, hq, rfl⟩)
    exact hdep _ _ this
theorem depths_new {c : CodeM} (h : Ok c) {kn : List (Option DepM)} (hd : depthsM c = some kn) : ∃ kn', depthsM (trimOk c) = some kn' ∧ ∀ a, rcAt c a = true → kn'.getD (phi c a) none = kn.getD a none := by
  obtain ⟨kn', h1, h2⟩ := depths_asg (asg_new h hd)
  refine ⟨kn', h1, fun a hr => ?_⟩
  obtain ⟨s, hs⟩ := reach_known h hd hr
  obtain ⟨s', hs'⟩ := reach_known h.new h1 (reach_new h hr)
  rw [hs', hs, h2 _ _ hs', oldD_phi h hr]
  unfold depAt; rw [hs]; rfl
end
section
open Go Q Go.RowKit
theorem ok_of {c : CodeM} (h : (checkM c).1 = 0) : Ok c := by
  obtain ⟨_, h1, h2, h3, h4, _⟩ := check_ok h
  exact ⟨h1, h2, h3, h4⟩
theorem check_of_ok {c : CodeM} (h : Ok c) {kn : List (Option DepM)} (hd : depthsM c = some kn) : checkM c = (0, 0) := by
  unfold checkM
  have hb : ¬ 0 ≤ badIdx c := by
    have : badIdx c = -1 := by
      unfold badIdx
      refine fidx_none fun i y hy => ?_
      rw [h.rt y (List.mem_of_getElem? hy)]; rfl
    omega
  rw [if_neg (by rw [h.lim]; simp), if_neg (by rw [h.par]; simp), if_neg hb, if_neg (by rw [h.fin]; simp), hd]
theorem check_new {c : CodeM} (h : (checkM c).1 = 0) : checkM (trimOk c) = (0, 0) := by
  obtain ⟨_, _, _, _, _, kn, hd⟩ := check_ok h
  obtain ⟨kn', h1, _⟩ := depths_new (ok_of h) hd
  exact check_of_ok (ok_of h).new h1
theorem kind_good {c : CodeM} {i : InsM} (h : rightM c i = true) : goodM c (kindM i 0) i.a = true ∧ goodM c (kindM i 1) i.b = true ∧ goodM c (kindM i 2) i.c = true := by
  unfold rightM at h
  simp only [Bool.and_eq_true] at h
  obtain ⟨h0, h1, h2, h3, h4⟩ := h
  refine ⟨?_, ?_, ?_⟩
  · by_cases e : i.op = 12 ∨ i.op = 21
    · have k0 : kindM i 0 = 2 := by unfold kindM; rw [if_pos (.inl ⟨e, rfl⟩)]
      rw [k0]
      unfold specialM at h4
      rw [if_pos e] at h4
      show namedM c i.a (fun _ => true) = true
      unfold namedM at h4 ⊢
      rw [Bool.and_eq_true] at h4
      rw [h4.1]; rfl
    · rw [kind0_of e]; exact h1
  · by_cases e : i.op = 19
    · by_cases ea : i.a = 1
      · have k1 : kindM i 1 = 2 := by unfold kindM; rw [if_pos (.inr ⟨e, rfl, ea⟩)]
        rw [k1]
        unfold specialM at h4
        rw [if_neg (by omega), if_pos e, ea] at h4
        simpa using h4
      · have k1 : kindM i 1 = (formAt i.op).k1 := by
          unfold kindM; rw [if_neg (by simp [ea, e]), if_neg (by simp), if_neg (by decide), if_pos rfl]
        rw [k1]; exact h2
    · rw [kind1_of e]; exact h2
  · by_cases e : i.op = 22
    · have k2 : kindM i 2 = 8 := by unfold kindM; rw [if_neg (by simp [e]), if_pos ⟨e, rfl⟩]
      rw [k2]
      unfold specialM at h4
      rw [if_neg (by omega), if_neg (by omega), if_pos e, Bool.and_eq_true, Bool.or_eq_true, Bool.and_eq_true] at h4
      show (decide (i.c = -1) || namedM c i.c fun _ => true) = true
      rw [Bool.or_eq_true]
      refine h4.2.imp id fun h => ?_
      have h5 : namedM c i.c (kindIs 2) = true := h.2
      unfold namedM at h5 ⊢
      rw [Bool.and_eq_true] at h5
      rw [h5.1]; rfl
    · rw [kind2_of e]; exact h3
structure Tight (c : CodeM) : Prop where
  ok : Ok c
  all : ∀ j, j < c.ins.length → rcAt c j = true
  u1 : ∀ p : Nat, p < c.consts.length → (p : Int) ∈ (usesM c).s1
  u2 : ∀ p : Nat, p < c.tmpls.length → (p : Int) ∈ (usesM c).s2
  u3 : ∀ p : Nat, p < c.lists.length → (p : Int) ∈ (usesM c).s3
theorem kept_all {S : List Int} {n : Nat} (h : ∀ p : Nat, p < n → (p : Int) ∈ S) : keptI S n = List.range n := fK_all (p := fun i => memK S (i : Int)) fun i hi => memK_iff.2 (h i hi)
theorem pos_all {S : List Int} {n : Nat} (h : ∀ p : Nat, p < n → (p : Int) ∈ S) {i : Int} (h0 : 0 ≤ i) (h1 : i < n) : posM S n i = i := by
  have hm : memK S i = true := memK_iff.2 (by have := h i.toNat (by omega); rwa [show ((i.toNat : Nat) : Int) = i by omega] at this)
  unfold posM
  rw [if_neg (by omega), if_pos ⟨h0, h1, hm⟩, kept_all fun p hp => h p (by omega), List.length_range]
  omega
theorem named_rng {c : CodeM} {n : Int} {p : ByteArray → Bool} (h : namedM c n p = true) : 0 ≤ n ∧ n < c.consts.length := by
  unfold namedM at h
  rw [Bool.and_eq_true, inB_iff] at h
  omega
theorem Tight.at_ {c : CodeM} (h : Tight c) {j : Nat} (hj : j < c.ins.length) : (atM c).getD j 0 = j := by
  rw [atM_get hj, newAt_rc (h.all j hj)]
  unfold phi rK
  rw [show (List.range j).filter (rcAt c) = fK (rcAt c) j from rfl, fK_all fun i hi => h.all i (by omega), List.length_range]
theorem Tight.renew {c : CodeM} (h : Tight c) {k n : Int} (hg : goodM c k n = true) : renewM c k n = n := by
  by_cases hc : clsM k = 1
  · rw [renew_cls1 hc]
    have hk : k = 2 ∨ k = 3 ∨ k = 4 ∨ k = 5 ∨ k = 6 ∨ k = 7 ∨ k = 8 := by
      unfold clsM at hc
      apply Classical.byContradiction
      intro hh
      rw [if_neg hh] at hc
      (repeat' split at hc) <;> cases hc
    have hr : n = -1 ∨ (0 ≤ n ∧ n < c.consts.length) := by
      rcases hk with rfl | rfl | rfl | rfl | rfl | rfl | rfl
      · exact .inr (named_rng (p := fun _ => true) hg)
      · exact .inr (named_rng (p := kindIs 2) hg)
      · exact .inr (named_rng (p := kindIs 3) hg)
      · exact .inr (named_rng (p := kindIs 4) hg)
      · exact .inr (named_rng (p := varB) hg)
      · have h' : (namedM c n (kindIs 2) || namedM c n (kindIs 4)) = true := hg
        rw [Bool.or_eq_true] at h'
        exact .inr (h'.elim named_rng named_rng)
      · have h' : (decide (n = -1) || namedM c n fun _ => true) = true := hg
        rw [Bool.or_eq_true, decide_eq_true_eq] at h'
        exact h'.imp id named_rng
    rcases hr with rfl | hr
    · exact posM_neg
    · exact pos_all h.u1 hr.1 hr.2
  by_cases h13 : k = 13
  · subst h13
    have h' : inB n 0 ((c.ins.length : Int) - 1) = true := hg
    rw [inB_iff] at h'
    show (atM c).getD n.toNat 0 = n
    rw [h.at_ (by omega)]; omega
  by_cases h10 : k = 10
  · subst h10
    have h' : inB n 0 ((c.tmpls.length : Int) - 1) = true := hg
    rw [inB_iff] at h'
    exact pos_all h.u2 h'.1 (by omega)
  by_cases h11 : k = 11
  · subst h11
    have h' : inB n 0 ((c.lists.length : Int) - 1) = true := hg
    rw [inB_iff] at h'
    exact pos_all h.u3 h'.1 (by omega)
  by_cases h12 : k = 12
  · subst h12
    have h' : (decide (n = -1) || inB n 0 ((c.lists.length : Int) - 1)) = true := hg
    rw [Bool.or_eq_true, decide_eq_true_eq, inB_iff] at h'
    show posM (usesM c).s3 c.lists.length n = n
    rcases h' with rfl | h'
    · exact posM_neg
    · exact pos_all h.u3 h'.1 (by omega)
  unfold renewM
  rw [if_neg h13, if_neg h10, if_neg (by omega), if_neg hc]
theorem Tight.trim {c : CodeM} (h : Tight c) : trimOk c = c := by
  have hr : rK c c.ins.length = List.range c.ins.length := fK_all h.all
  unfold trimOk
  rw [kept_all h.u1, kept_all h.u2, kept_all h.u3, pick_range, pick_range, pick_range, hr]
  have hl : (c.labels.map fun s => (⟨s.name, (atM c).getD s.at_.toNat 0⟩ : SpotM)) = c.labels := by
    conv => rhs; rw [← List.map_id c.labels]
    apply List.map_congr_left
    intro s hs
    have := labels_in h.ok.par s hs
    rw [h.at_ (by omega)]
    show (⟨s.name, _⟩ : SpotM) = s
    rw [show ((s.at_.toNat : Nat) : Int) = s.at_ by omega]
  have hi : ((List.range c.ins.length).map fun j => newIns c (insAt c j)) = c.ins := by
    apply List.ext_getElem?
    intro j
    by_cases hj : j < c.ins.length
    · rw [List.getElem?_map, List.getElem?_range hj, insAt_get hj]
      show some (newIns c (insAt c j)) = _
      obtain ⟨g0, g1, g2⟩ := kind_good (h.ok.rat hj)
      rw [newIns_eq, h.renew g0, h.renew g1, h.renew g2]
    · rw [List.getElem?_eq_none (by simpa using hj), List.getElem?_eq_none (by omega)]
  rw [hl, hi]
theorem used_new {α : Type} {c : CodeM} (h : Ok c) {xs : List α} {q : Int} (hq : q = 1 ∨ q = 2 ∨ q = 3) (hren : ∀ k n, clsM k = q → renewM c k n = posM (usG (usesM c) q) xs.length n) {p : Nat} (hp : p < (pickK xs (keptI (usG (usesM c) q) xs.length)).length) : (p : Int) ∈ usG (usesM (trimOk c)) q := by
  rw [pick_len fun k hk => kept_lt hk] at hp
  obtain ⟨h1, h2, h3⟩ := fK_idx (p := fun i => memK (usG (usesM c) q) (i : Int)) (List.getElem?_eq_getElem hp)
  generalize (keptI (usG (usesM c) q) xs.length)[p] = n at h1 h2 h3
  have hm : (n : Int) ∈ usG (usesM c) q := memK_iff.1 h2
  obtain ⟨j, hj, hr, f, hf, hcl, hfl⟩ := (mem_uses hq).1 hm
  have hu := uses_of (c := trimOk c) (j := phi c j) (f := f) hq (by rw [newLen]; exact phi_lt h hr) (reach_new h hr) hf (by rw [ins_new h hr, kind_new]; exact hcl)
  rw [ins_new h hr, fld_new hf, hren _ _ hcl, ← hfl] at hu
  obtain ⟨_, _, _, e⟩ := pos_at (xs := xs) (n := (n : Int)) (by omega) (by omega) hm
  rw [e, Int.toNat_natCast] at hu
  have : (keptI (usG (usesM c) q) n).length = p := h3
  rw [this] at hu
  exact hu
theorem tight_new {c : CodeM} (h : Ok c) : Tight (trimOk c) := by
  refine ⟨h.new, fun j hj => reach_all h (by rw [newLen] at hj; exact hj), fun p hp => ?_, fun p hp => ?_, fun p hp => ?_⟩
  · exact used_new h (xs := c.consts) (q := 1) (.inl rfl) (fun k n hk => renew_cls1 hk) hp
  · refine used_new h (xs := c.tmpls) (q := 2) (.inr (.inl rfl)) (fun k n hk => ?_) hp
    have : k = 10 := by
      unfold clsM at hk
      split at hk
      · cases hk
      split at hk
      · assumption
      split at hk <;> cases hk
    subst this; rfl
  · refine used_new h (xs := c.lists) (q := 3) (.inr (.inr rfl)) (fun k n hk => ?_) hp
    have : k = 11 ∨ k = 12 := by
      unfold clsM at hk
      split at hk
      · cases hk
      split at hk
      · cases hk
      split at hk
      · assumption
      · cases hk
    rcases this with rfl | rfl <;> rfl
theorem trim_twice {c : CodeM} (h : Ok c) : trimOk (trimOk c) = trimOk c := (tight_new h).trim
end
section
open Go Q Go.RowKit
theorem int_at {z : Z} {a : Option Addr} {n cap k : Nat} {l : List Int} (h : SlR El.int z (.slice a n cap) l) (hk : k < l.length) : ∃ b off, a = some ⟨b, off, none⟩ ∧ At z b (off + (k : Int).toNat * 1) [.int .i64 (l.getD k 0)] := by
  obtain ⟨_, a', c', e, _, hel⟩ := h.form
  cases e
  obtain ⟨b, off, cs, ha, hr, hat⟩ := hel _ _ (List.getElem?_eq_getElem hk)
  cases hr
  rw [List.getD_eq_getElem?_getD, List.getElem?_eq_getElem hk, Int.toNat_natCast]
  exact ⟨b, off, ha, hat⟩
theorem bool_at' {z : Z} {a : Option Addr} {n cap k : Nat} {l : List Bool} (h : SlR El.bool z (.slice a n cap) l) (hk : k < l.length) : ∃ b off, a = some ⟨b, off, none⟩ ∧ At z b (off + (k : Int).toNat * 1) [.bool (l.getD k false)] := by
  rw [Int.toNat_natCast]; exact bool_at h hk
theorem ins_at {z : Z} {a : Option Addr} {n cap k : Nat} {l : List InsM} (h : SlR El.ins z (.slice a n cap) l) (hk : k < l.length) : ∃ b off, a = some ⟨b, off, none⟩ ∧ At z b (off + (k : Int).toNat * 4) (l.getD k noIns).cells := by
  obtain ⟨_, a', c', e, _, hel⟩ := h.form
  cases e
  obtain ⟨b, off, cs, ha, hr, hat⟩ := hel _ _ (List.getElem?_eq_getElem hk)
  cases hr
  rw [List.getD_eq_getElem?_getD, List.getElem?_eq_getElem hk, Int.toNat_natCast]
  exact ⟨b, off, ha, hat⟩
theorem spot_at {z : Z} {a : Option Addr} {n cap k : Nat} {l : List SpotM} (h : SlR El.spot z (.slice a n cap) l) (hk : k < l.length) : ∃ b off, a = some ⟨b, off, none⟩ ∧ At z b (off + (k : Int).toNat * 2) l[k].cells := by
  obtain ⟨_, a', c', e, _, hel⟩ := h.form
  cases e
  obtain ⟨b, off, cs, ha, ⟨hr, _⟩, hat⟩ := hel _ _ (List.getElem?_eq_getElem hk)
  cases hr
  rw [Int.toNat_natCast]
  exact ⟨b, off, ha, hat⟩
theorem getD_map {α : Type} {f : α → Int} {l : List α} {k : Nat} {d : α} {e : Int} (hk : k < l.length) : (l.map f).getD k e = f (l.getD k d) := by
  rw [List.getD_eq_getElem?_getD, List.getElem?_map, List.getD_eq_getElem?_getD, List.getElem?_eq_getElem hk]; rfl
theorem lawTrimmed {z : Z} {w : World} {v : Value} {c : CodeM} [ht : Tab z] (hc : CodeR z v c) : Fn1 5 #[v] z w fun _ r => r = .bool true := Fn1.intro fun hS => en5 (by
  unfold vc5
  obtain ⟨a1, a2, a3, a4, a5, a6, k1, k2, k3, k4, k5, k6, rfl, h1, h2, h3, h4, h5, h6⟩ := hc.form
  refine iV_bx ?_
  intro bc w1 hbc hS1
  obtain ⟨zc, hzc, hS2, hatc⟩ := hS1.frz bc
  generalize hRR : (fun (v : Value) (w' : World) => ∃ z' L', Res w z [] w' z' L' ∧ v = .bool true) = RR
  have hR : ∀ z' w' L' b, Res w1 zc [] w' z' L' → b = true → RR (.bool b) w' := fun z' w' L' b k e => by rw [← hRR, e]; exact ⟨z', L', hS2.comp k, rfl⟩
  clear hRR
  have hS3 := hS2.self
  clear hS hS1 hS2
  haveI : Tab zc := ht.le hzc
  have hcc := hc.mono hzc
  haveI : CodeZ zc _ c := ⟨hcc⟩
  haveI : Fz zc bc 0 (codeVs a1 a2 a3 a4 a5 a6 k1 k2 k3 k4 k5 k6 c) := ⟨hatc⟩
  refine CV_puz ?_
  intro z4 w4 hz4 hS4
  refine fV_ldN ?_
  refine CV_1 (valid_of (hcc.mono hS4.zle)) ?_
  rintro z5 w5 v5 hz5 hS5 ⟨b, rfl, hval⟩
  clear hS3 hS4
  refine V_run ?_
  refine Cond_n (fun _ => hR _ _ _ _ hS5 rfl) (fun hb => ?_)
  have hck := hval hb
  obtain ⟨hck0, hli, hpa, hri, hfi, kn, hdm⟩ := check_ok hck
  have hok : Ok c := ok_of hck
  have hbd := limits_bd hli
  obtain ⟨kn', hdm', hdn⟩ := depths_new hok hdm
  have hckT := check_new hck
  have htw := trim_twice hok
  have hokT := hok.new
  have htm : trimM c = trimOk c := by unfold trimM; rw [if_pos hck]
  have hta : trimAt c = atM c := by unfold trimAt; rw [if_pos hck]
  have htmT : trimM (trimOk c) = trimOk c := by unfold trimM; rw [if_pos (by rw [hckT]), htw]
  have hkl := (depths_spec hok.pos hdm).1
  have hkl' := (depths_spec hokT.pos hdm').1
  have hrl := (reach_spec hok.nb).1
  have hrl' := (reach_spec hokT.nb).1
  have hnl := @newLen c
  have hll : (trimOk c).labels.length = c.labels.length := by show (c.labels.map _).length = _; rw [List.length_map]
  refine fV_ldN ?_
  refine CV_1 (trim_of (hcc.mono hS5.zle)) ?_
  rintro z6 w6 v6 hz6 hS6 ⟨cv, av, rfl, hcv, hav⟩
  clear hS5
  rw [htm] at hcv
  rw [hta] at hav
  rw [hck]
  generalize hT : trimOk c = T at *
  obtain ⟨x1, x2, x3, x4, x5, x6, y1, y2, y3, y4, y5, y6, rfl, g1, g2, g3, g4, g5, g6⟩ := hcv.form
  refine V_run ?_
  refine V_run ?_
  refine V_run ?_
  refine iV_al ?_
  intro b4 w7 hb4 hS7
  refine iU_st ?_
  intro w8 hS8
  clear hS6 hS7
  obtain ⟨z9, hz9, hS9, hat4⟩ := hS8.frz b4
  clear hS8
  have hR2 : ∀ z' w' L' b, Res w8 z9 [] w' z' L' → b = true → RR (.bool b) w' := fun z' w' L' b k e => hR _ _ _ _ (hS9.comp k) e
  have hS10 := hS9.self
  have hzc9 := hS9.zle
  clear hS9 hR
  have hcc := hcc.mono hzc9
  have hcT := hcv.mono hz9
  have hav := hav.mono hz9
  have hatc := hatc.mono hzc9
  clear hcv
  haveI : CodeZ z9 (.agg (codeVs x1 x2 x3 x4 x5 x6 y1 y2 y3 y4 y5 y6 T).toArray) T := ⟨hcT⟩
  haveI : Fz z9 bc 0 (codeVs a1 a2 a3 a4 a5 a6 k1 k2 k3 k4 k5 k6 c) := ⟨hatc⟩
  haveI : Fz z9 b4 0 (codeVs x1 x2 x3 x4 x5 x6 y1 y2 y3 y4 y5 y6 T) := ⟨hat4⟩
  refine fV_ldN ?_
  refine CV_puz ?_
  intro z11 w11 hz11 hS11
  clear hS10
  refine V_run ?_
  refine V_run ?_
  refine fV_ldN ?_
  refine CV_1 (trim_of (hcT.mono hS11.zle)) ?_
  rintro z12 w12 v12 hz12 hS12 ⟨cu, au, rfl, hcu, _⟩
  clear hS11
  rw [htmT] at hcu
  obtain ⟨u1, u2, u3, u4, u5, u6, n1, n2, n3, n4, n5, n6, rfl, _, _, _, _, _, _⟩ := hcu.form
  refine V_run ?_
  refine V_run ?_
  refine V_run ?_
  refine iV_al ?_
  intro b9 w13 hb9 hS13
  refine iU_st ?_
  intro w14 hS14
  refine fV_ldN ?_
  refine iV_ldN ?_
  refine CV_1 (refSame_of (hcT.mono hS14.zle) hcu) ?_
  rintro z15 w15 v15 hz15 hS15 ⟨b, rfl, hbt⟩
  clear hS12 hS13 hS14
  rw [hbt.2 rfl]
  clear hbt
  have hS15 := hS15.drop
  rw [hckT]
  haveI : Fz z9 bc 5 [.slice a6 c.ins.length k6] := ⟨hatc.fld (i := 5) rfl rfl⟩
  haveI : Fz z9 bc 3 [.slice a4 c.labels.length k4] := ⟨hatc.fld (i := 3) rfl rfl⟩
  haveI : Fz z9 b4 3 [.slice x4 T.labels.length y4] := ⟨hat4.fld (i := 3) rfl rfl⟩
  have hatl : (atM c).length = c.ins.length := by unfold atM; simp
  obtain ⟨_, sa, sac, rfl, _, _⟩ := hav.form
  refine V_run ?_
  intro Kj1 hKj1
  refine Cond_nd (fun h => absurd (rfl) h) (fun _ => ?_)
  (repeat (refine V_run ?_))
  refine hKj1 _ _ fun _ => ?_
  clear hKj1
  intro Kj2 hKj2
  refine Cond_nd (fun h => absurd (rfl) h) (fun _ => ?_)
  (repeat (refine V_run ?_))
  refine hKj2 _ _ fun _ => ?_
  clear hKj2
  intro Kj3 hKj3
  refine Cond_nd (fun h => absurd (rfl) h) (fun _ => ?_)
  (repeat (refine V_run ?_))
  refine hKj3 _ _ fun _ => ?_
  clear hKj3
  intro Kj4 hKj4
  refine Cond_n (fun h => by cases h) (fun _ => ?_)
  (repeat (first | refine V_run ?_ | refine fV_ld1 ?_))
  refine hKj4 _ _ fun _ => ?_
  clear hKj4
  intro Kj5 hKj5
  refine Cond_nd (fun h => absurd (by rw [hatl]) h) (fun _ => ?_)
  (repeat (first | refine V_run ?_ | refine fV_ld1 ?_))
  refine hKj5 _ _ fun _ => ?_
  clear hKj5
  refine Cond_nd (fun h => absurd (by rw [hll]) h) (fun _ => ?_)
  refine fV_ldN ?_
  refine CV_1 (reach_of (hcT.mono hS15.zle)) ?_
  rintro z16 w16 v16 hz16 hS16 hrT
  refine fV_ldN ?_
  refine CV_1 (depthsX_of (hcc.mono hS16.zle)) ?_
  rintro z17 w17 v17 hz17 hS17 ⟨vs, vl, rfl, hvs, hvl⟩
  refine V_run ?_
  refine V_run ?_
  refine V_run ?_
  refine fV_ldN ?_
  refine CV_1 (depthsX_of (hcT.mono hS17.zle)) ?_
  rintro z18 w18 v18 hz18 hS18 ⟨us, ul, rfl, hus, hul⟩
  refine V_run ?_
  refine V_run ?_
  refine V_run ?_
  refine fV_ldN ?_
  refine CV_1 (reach_of (hcc.mono hS18.zle)) ?_
  rintro z19 w19 v19 hz19 hS19 hrc
  have hS19 := hS19.drop
  rw [if_pos hck, hdm] at hvs hvl
  rw [if_pos (by rw [hckT]), hdm'] at hus hul
  simp only [Option.getD_some] at hvs hvl hus hul
  have hrT := hrT.mono (hz17.trans (hz18.trans hz19))
  have hvs := hvs.mono (hz18.trans hz19)
  have hvl := hvl.mono (hz18.trans hz19)
  have hus := hus.mono hz19
  have hul := hul.mono hz19
  have hav := hav.mono (hS19.zle)
  have hzz := hS19.zle
  have hR3 : ∀ z' w' L' b, Res w19 z19 [] w' z' L' → b = true → RR (.bool b) w' := fun z' w' L' b k e => hR2 _ _ _ _ (hS19.comp k) e
  have hS20 := hS19.self
  clear hS15 hS16 hS17 hS18 hS19 hR2
  have hcc := hcc.mono hzz
  have hcT := hcT.mono hzz
  have hatc := hatc.mono hzz
  have hat4 := hat4.mono hzz
  have h6' := h6.mono (hzc.trans (hzc9.trans hzz))
  have g6' := g6.mono (hz9.trans hzz)
  have h4' := h4.mono (hzc.trans (hzc9.trans hzz))
  have g4' := g4.mono (hz9.trans hzz)
  obtain ⟨_, s1, c1, rfl, _, _⟩ := hrT.form
  obtain ⟨_, s2, c2, rfl, _, _⟩ := hvs.form
  obtain ⟨_, s3, c3, rfl, _, _⟩ := hvl.form
  obtain ⟨_, s4, c4, rfl, _, _⟩ := hus.form
  obtain ⟨_, s5, c5, rfl, _, _⟩ := hul.form
  obtain ⟨_, s6, c6, rfl, _, _⟩ := hrc.form
  rw [hck, hckT]
  haveI : Fz z19 bc 5 [.slice a6 c.ins.length k6] := ⟨hatc.fld (i := 5) rfl rfl⟩
  haveI : Fz z19 b4 5 [.slice x6 T.ins.length y6] := ⟨hat4.fld (i := 5) rfl rfl⟩
  haveI : Fz z19 bc 3 [.slice a4 c.labels.length k4] := ⟨hatc.fld (i := 3) rfl rfl⟩
  haveI : Fz z19 b4 3 [.slice x4 T.labels.length y4] := ⟨hat4.fld (i := 3) rfl rfl⟩
  have lm1 : (kn.map stackV).length = c.ins.length := by rw [List.length_map, hkl]
  refine V_run ?_
  intro Kj6 hKj6
  refine Cond_nd (fun h => absurd (rfl) h) (fun _ => ?_)
  (repeat (refine V_run ?_))
  refine hKj6 _ _ fun _ => ?_
  clear hKj6
  intro Kj7 hKj7
  refine Cond_nd (fun h => absurd (rfl) h) (fun _ => ?_)
  (repeat (first | refine V_run ?_ | refine fV_ld1 ?_))
  refine hKj7 _ _ fun _ => ?_
  clear hKj7
  intro Kj8 hKj8
  refine Cond_nd (fun h => absurd (by rw [hrl']) h) (fun _ => ?_)
  (repeat (first | refine V_run ?_ | refine fV_ld1 ?_))
  refine hKj8 _ _ fun _ => ?_
  clear hKj8
  intro Kj9 hKj9
  refine Cond_nd (fun h => absurd (by rw [lm1]) h) (fun _ => ?_)
  (repeat (first | refine V_run ?_ | refine fV_ld1 ?_))
  refine hKj9 _ _ fun _ => ?_
  clear hKj9
  refine Cond_nd (fun h => absurd (by rw [hrl]) h) (fun _ => ?_)
  have hbT : c.ins.length ≤ 12000 := hbd.2.2.2.2.2
  refine LoopR2 (fun (k : Nat) x y => x = .int .i64 (phi c k : Nat) ∧ y = .int .i64 k ∧ k ≤ c.ins.length) (fun k => c.ins.length - k) 0 ⟨rfl, rfl, Nat.zero_le _⟩ ?_
  rintro I M k x y w21 z21 m ⟨rfl, rfl, hk⟩ hz21 hS21 back
  clear hS20
  refine V_run ?_
  refine fV_ld1 ?_
  refine V_run ?_
  refine V_run ?_
  refine Cond_d (fun h => ?_) (fun h => ?_)
  · have hlt : k < c.ins.length := by omega
    have hple := @phi_le c k
    haveI : InR (k : Int) (c.ins.length : Nat) := ⟨by omega, by omega⟩
    haveI : InR (k : Int) ((atM c).length : Nat) := ⟨by omega, by omega⟩
    haveI : InR (k : Int) ((reachM c).length : Nat) := ⟨by omega, by omega⟩
    haveI : InI ((k : Int) + 1) := ⟨by omega⟩
    obtain ⟨b1, o1, e1, A1⟩ := int_at hav (k := k) (by omega)
    cases e1
    obtain ⟨b2, o2, e2, A2⟩ := bool_at' hrc (k := k) (by omega)
    cases e2
    rw [atM_get hlt] at A1
    haveI : Fz z19 b1 (o1 + (k : Int).toNat * 1) [.int .i64 (newAt c k)] := ⟨A1⟩
    haveI : Fz z19 b2 (o2 + (k : Int).toNat * 1) [.bool (rcAt c k)] := ⟨A2⟩
    have hnext : (phi c (k + 1)) = phi c k + if rcAt c k = true then 1 else 0 := fK_next
    intro Ka hKa
    have ma : ∀ w' z', Le z21 z' → Res w19 z19 [] w' z' [] → Ka [.int .i64 (phi c (k + 1) : Nat)] w' := by
      intro w' z' hz' hS'
      refine hKa _ _ fun _ => ?_
      refine V_run ?_
      exact back (k + 1) _ _ _ _ ⟨rfl, by simp, by omega⟩ hz' hS' (by omega)
    clear hKa back
    cases hr : rcAt c k with
    | false =>
      have hna : newAt c k = -1 := by unfold newAt; rw [hr]; rfl
      rw [hr] at hnext
      simp only [Bool.false_eq_true, if_false, Nat.add_zero] at hnext
      rw [hnext] at ma
      (repeat (first | (refine iDr ?_; intro _ _) | refine PV_run ?_ | refine fHV_ld1 ?_))
      rw [hna, hr]
      refine Cond_not (by decide) ?_
      (repeat (first | refine V_run ?_ | refine fV_ld1 ?_))
      rw [hna]
      refine Cond_is (by decide) ?_
      exact ma _ _ (by (repeat (exact Le.refl _))) (by assumption)
    | true =>
      have hna := newAt_rc hr
      rw [hr] at hnext
      simp only [if_true] at hnext
      have hpl := phi_lt hok hr
      rw [← hnl] at hpl
      haveI : InR (phi c k : Int) (T.ins.length : Nat) := ⟨by omega, by omega⟩
      haveI : InR (phi c k : Int) ((reachM T).length : Nat) := ⟨by omega, by omega⟩
      haveI : InR (k : Int) ((kn.map stackV).length : Nat) := ⟨by omega, by rw [List.length_map]; omega⟩
      haveI : InR (k : Int) ((kn.map loopsV).length : Nat) := ⟨by omega, by rw [List.length_map]; omega⟩
      haveI : InR (phi c k : Int) ((kn'.map stackV).length : Nat) := ⟨by omega, by rw [List.length_map]; omega⟩
      haveI : InR (phi c k : Int) ((kn'.map loopsV).length : Nat) := ⟨by omega, by rw [List.length_map]; omega⟩
      haveI : InI ((phi c k : Int) + 1) := ⟨by omega⟩
      obtain ⟨b3, o3, e3, A3⟩ := bool_at' hrT (k := phi c k) (by omega)
      cases e3
      obtain ⟨b5, o5, e5, A5⟩ := ins_at g6' (k := phi c k) hpl
      cases e5
      obtain ⟨b6, o6, e6, A6⟩ := ins_at h6' (k := k) hlt
      cases e6
      obtain ⟨b7, o7, e7, A7⟩ := int_at hvs (k := k) (by rw [List.length_map]; omega)
      cases e7
      obtain ⟨b8, o8, e8, A8⟩ := int_at hvl (k := k) (by rw [List.length_map]; omega)
      cases e8
      obtain ⟨b10, o10, e10, A10⟩ := int_at hus (k := phi c k) (by rw [List.length_map]; omega)
      cases e10
      obtain ⟨b11, o11, e11, A11⟩ := int_at hul (k := phi c k) (by rw [List.length_map]; omega)
      cases e11
      have hopT : (T.ins.getD (phi c k) noIns).op = (c.ins.getD k noIns).op := by
        have := ins_new hok hr
        rw [hT] at this
        show (insAt T (phi c k)).op = (insAt c k).op
        rw [this, newIns_eq]
      have hs1 : (kn'.map stackV).getD (phi c k) 0 = (kn.map stackV).getD k 0 := by rw [getD_map (d := none) (by omega), getD_map (d := none) (by omega), hdn k hr]
      have hs2 : (kn'.map loopsV).getD (phi c k) 0 = (kn.map loopsV).getD k 0 := by rw [getD_map (d := none) (by omega), getD_map (d := none) (by omega), hdn k hr]
      have hrTt : (reachM T).getD (phi c k) false = true := by have := reach_new hok hr; rw [hT] at this; exact this
      rw [hs1] at A10
      rw [hs2] at A11
      rw [hrTt] at A3
      haveI : Fz z19 b3 (o3 + (phi c k : Int).toNat * 1) [.bool true] := ⟨A3⟩
      haveI : Fz z19 b5 (o5 + (phi c k : Int).toNat * 4 + 0) [.int .i64 (c.ins.getD k noIns).op] := ⟨by rw [← hopT]; exact A5.fld (i := 0) rfl rfl⟩
      haveI : Fz z19 b5 (o5 + (phi c k : Int).toNat * 4) [.int .i64 (c.ins.getD k noIns).op] := ⟨by rw [← hopT]; exact A5.fld (i := 0) rfl rfl⟩
      haveI : Fz z19 b6 (o6 + (k : Int).toNat * 4 + 0) [.int .i64 (c.ins.getD k noIns).op] := ⟨A6.fld (i := 0) rfl rfl⟩
      haveI : Fz z19 b6 (o6 + (k : Int).toNat * 4) [.int .i64 (c.ins.getD k noIns).op] := ⟨A6.fld (i := 0) rfl rfl⟩
      haveI : Fz z19 b7 (o7 + (k : Int).toNat * 1) _ := ⟨A7⟩
      haveI : Fz z19 b8 (o8 + (k : Int).toNat * 1) _ := ⟨A8⟩
      haveI : Fz z19 b10 (o10 + (phi c k : Int).toNat * 1) _ := ⟨A10⟩
      haveI : Fz z19 b11 (o11 + (phi c k : Int).toNat * 1) _ := ⟨A11⟩
      (repeat (first | (refine iDr ?_; intro _ _) | refine PV_run ?_ | refine fHV_ld1 ?_))
      rw [hna, hr]
      refine Cond_not (by rw [decide_eq_true (by omega)]; rfl) ?_
      (repeat (first | refine V_run ?_ | refine fV_ld1 ?_))
      rw [hna]
      refine Cond_d (fun h => absurd h (by omega)) (fun _ => ?_)
      intro Kc hKc
      have mc : ∀ w' z', Le z21 z' → Res w19 z19 [] w' z' [] → Kc [.bool false] w' := by
        intro w' z' hz' hS'
        refine hKc _ _ fun _ => ?_
        refine Cond_f ?_
        refine V_run ?_
        have := ma w' z' hz' hS'
        rw [hnext] at this
        simpa using this
      clear hKc ma
      (repeat (first | (refine iDr ?_; intro _ _) | refine PV_run ?_ | refine fHV_ld1 ?_))
      rw [hna]
      refine Cond_nd (fun h => absurd rfl h) (fun _ => ?_)
      (repeat (first | refine PV_run ?_ | refine Cond_f ?_ | refine fHV_ld1 ?_))
      refine Cond_nd (fun h => absurd rfl h) (fun _ => ?_)
      (repeat (first | refine PV_run ?_ | refine fHV_ld1 ?_))
      refine Cond_nd (fun h => absurd rfl h) (fun _ => ?_)
      (repeat (first | refine PV_run ?_ | refine fHV_ld1 ?_))
      rw [decide_eq_true rfl]
      exact mc _ _ (by (repeat (exact Le.refl _))) (by assumption)
  have hk0 : k = c.ins.length := by omega
  subst hk0
  have hphi : phi c c.ins.length = T.ins.length := by rw [hnl]; rfl
  rw [hphi]
  clear back hk h
  have hTl : T.labels = c.labels.map fun s => ⟨s.name, (atM c).getD s.at_.toNat 0⟩ := by rw [← hT]; rfl
  refine LoopR1 (fun (k : Nat) x => x = .int .i64 k ∧ k ≤ c.labels.length) (fun k => c.labels.length - k) 0 ⟨rfl, Nat.zero_le _⟩ ?_
  rintro I M k x w22 z22 m ⟨rfl, hk⟩ hz22 hS22 back
  clear hS21
  refine V_run ?_
  refine fV_ld1 ?_
  refine V_run ?_
  refine V_run ?_
  refine Cond_d (fun h => ?_) (fun h => ?_)
  · have hlt : k < c.labels.length := by omega
    have hltT : k < T.labels.length := by omega
    have hlb := hbd.2.2.2.1
    haveI : InR (k : Int) (c.labels.length : Nat) := ⟨by omega, by omega⟩
    haveI : InR (k : Int) (T.labels.length : Nat) := ⟨by omega, by omega⟩
    haveI : InI ((k : Int) + 1) := ⟨by omega⟩
    have hin := labels_in hpa _ (List.getElem_mem hlt)
    have hTk : T.labels[k] = ⟨c.labels[k].name, (atM c).getD c.labels[k].at_.toNat 0⟩ := by simp [hTl]
    obtain ⟨b1, o1, e1, A1⟩ := spot_at h4' hlt
    cases e1
    obtain ⟨b2, o2, e2, A2⟩ := spot_at g4' hltT
    cases e2
    rw [hTk] at A2
    generalize c.labels[k] = S at *
    obtain ⟨b3, o3, e3, A3⟩ := int_at hav (k := S.at_.toNat) (by omega)
    cases e3
    haveI : InR S.at_ ((atM c).length : Nat) := ⟨by omega, by omega⟩
    rw [show ((S.at_.toNat : Nat) : Int) = S.at_ by omega] at A3
    haveI : Fz z19 b3 (o3 + S.at_.toNat * 1) _ := ⟨A3⟩
    haveI : Fz z19 b1 (o1 + (k : Int).toNat * 2 + 0) [.string S.name] := ⟨A1.fld (i := 0) rfl rfl⟩
    haveI : Fz z19 b1 (o1 + (k : Int).toNat * 2) [.string S.name] := ⟨A1.fld (i := 0) rfl rfl⟩
    haveI : Fz z19 b1 (o1 + (k : Int).toNat * 2 + 1) [.int .i64 S.at_] := ⟨A1.fld (i := 1) rfl rfl⟩
    haveI : Fz z19 b2 (o2 + (k : Int).toNat * 2 + 0) [.string S.name] := ⟨A2.fld (i := 0) rfl rfl⟩
    haveI : Fz z19 b2 (o2 + (k : Int).toNat * 2) [.string S.name] := ⟨A2.fld (i := 0) rfl rfl⟩
    haveI : Fz z19 b2 (o2 + (k : Int).toNat * 2 + 1) [.int .i64 ((atM c).getD S.at_.toNat 0)] := ⟨A2.fld (i := 1) rfl rfl⟩
    intro Kc hKc
    have mc : ∀ w' z', Le z22 z' → Res w19 z19 [] w' z' [] → Kc [.bool false] w' := by
      intro w' z' hz' hS'
      refine hKc _ _ fun _ => ?_
      refine Cond_f ?_
      refine V_run ?_
      exact back (k + 1) _ _ _ ⟨by simp, by omega⟩ hz' hS' (by omega)
    clear hKc back
    (repeat (first | (refine iDr ?_; intro _ _) | refine PV_run ?_ | refine fHV_ld1 ?_))
    refine Cond_nd (fun h => absurd rfl h) (fun _ => ?_)
    (repeat (first | refine PV_run ?_ | refine fHV_ld1 ?_))
    rw [decide_eq_true rfl]
    exact mc _ _ (by (repeat (exact Le.refl _))) (by assumption)
  · (repeat (refine JGB ?_; intro _ _ _ _))
    exact hR3 _ _ _ _ (by assumption) (by simp))
end
section
open Go Q Go.RowKit Go.ChangeShapes Go.WideShapes Go.ChangeAt
theorem at_of_cells {w : World} {base n : Nat} {a : Addr} {cs : List Value} (h : w.cells? base a n = some cs) (hn : 0 < n) : a.spot = none ∧ cs.length = n ∧ At (hp w) a.block a.off cs := by
  obtain ⟨_, hl, hc⟩ := World.cells?_some h
  have h0 := hc 0 hn
  rw [addr_add0] at h0
  have hlt : 0 < cs.length := by omega
  rw [List.getElem?_eq_getElem hlt] at h0
  unfold World.cell? at h0
  split at h0
  · rename_i c ty fr hb
    have hs : a.spot = none := by
      cases hsp : a.spot with
      | none => rfl
      | some x => rw [hsp] at h0; simp at h0
    refine ⟨hs, hl, c, ty, fr, hb, fun j v hv => ?_⟩
    have hj := (List.getElem?_eq_some_iff.1 hv).1
    have := hc j (by omega)
    obtain ⟨ab, ao, asp⟩ := a
    simp only at hs hb
    subst hs
    rw [add_addr, hv] at this
    unfold World.cell? at this
    simp only [hb, Option.isSome_none] at this
    simpa using this
  · cases h0
theorem ownK : ownKnob Tryz.prog.godebug = none := by kernel_rfl
theorem laidOutP : laidOutB Tryz.prog = true := by kernel_rfl
theorem own_start (w : World) : Own w (hp w) [] := Own.mk' (fun _ _ h => h) (fun _ h => by cases h) List.nodup_nil
theorem u4 : Tryz.prog.underlying 4 = some .bool := by kernel_rfl
theorem u5 : Tryz.prog.underlying 5 = some (.int .u8) := by kernel_rfl
theorem u3 : Tryz.prog.underlying 3 = some (.int .i64) := by kernel_rfl
theorem u9 : Tryz.prog.underlying 9 = some .string := by kernel_rfl
section
variable {H : Type} {enc : TypeId × Value → H} {P : Program}
def Stays (P : Program) (t : TypeId) : Prop := P.readableRec t = true ∧ t < P.types.size
theorem trodAll_stays (hl : laidOutB P = true) {W W' : World} {sp : Nat → Bool} (hB : Below W.heap.size W W') :
    ∀ {ts : List TypeId} {vs : List Value} {ds : List (DataW H)} {ps : List MemPlace}, (∀ t ∈ ts, Stays P t) → DataW.TrodAll enc P W 0 (fun _ => true) true ts vs ds ps → (∀ p ∈ ps, p.block < W.heap.size) → (∀ p ∈ ps, sp p.block = true) → DataW.TrodAll enc P W' 0 sp true ts vs ds ps
  | [], [], [], _, _, h, _, _ => h
  | _ :: _, _ :: _, _ :: _, _, hT, ⟨p, q, h1, h2, e⟩, hlt, hs => ⟨p, q,
      WideElems.Trod_stays hl (hT _ List.mem_cons_self).1 (hT _ List.mem_cons_self).2 h1 (fun x hx => hB.same (hlt x (by rw [e]; exact List.mem_append_left _ hx))) (fun x hx => hs x (by rw [e]; exact List.mem_append_left _ hx)),
      trodAll_stays hl hB (fun t ht => hT t (List.mem_cons_of_mem _ ht)) h2 (fun x hx => hlt x (by rw [e]; exact List.mem_append_right _ hx)) (fun x hx => hs x (by rw [e]; exact List.mem_append_right _ hx)), e⟩
theorem post_law (hl : laidOutB P = true) {f : Func} {s : ChangeSpec} {apart fresh handsOn again : Bool} {W W' : World} {args : Array Value} {ds gs : List (DataW H)} {before : List MemPlace} {tb : TypeId}
    (hW : DataW.Whole enc P f.params.toList s.vars apart W args.toList ds gs before) (hB : Below W.heap.size W W')
    (hr : f.resultTypes = #[tb]) (hu : P.underlying tb = some .bool) (hT : ∀ t ∈ f.params.toList, Stays P t) (hv : s.vars = [])
    (h1 : (s.fn H (ds ++ gs)).results = [.lit (.bool true)]) (h2 : (s.fn H (ds ++ gs)).args = ds) (h3 : (s.fn H (ds ++ gs)).vars = []) :
    s.post enc P f apart fresh handsOn again W args (.bool true) W' := by
  have hlt := hW.lt
  obtain ⟨pa, pv, hA, hV, rfl, hz, hn⟩ := id hW
  rw [hv] at hV
  obtain ⟨rfl, rfl⟩ := trodVars_none hV
  have hargs : ∀ sp : Nat → Bool, (∀ p ∈ pa, sp p.block = true) → DataW.TrodAll enc P W' 0 sp true f.params.toList args.toList (s.fn H (ds ++ [])).args pa := fun sp hsp => by
    rw [h2]; exact trodAll_stays hl hB hT hA (fun p hp => hlt p (by simpa using hp)) hsp
  have hres : ∀ (b : Nat) (sp : Nat → Bool) (hd : Bool), DataW.TrodAll enc P W' b sp hd f.resultTypes.toList ((Value.bool true).resultList f.resultTypes.size) (s.fn H (ds ++ [])).results [] := fun b sp hd => by
    rw [h1, hr]; exact trodAll_cons_mk (shut_bool hu _) trodAll_mk0
  have hvars : ∀ sp : Nat → Bool, DataW.TrodVars enc P W' sp s.vars (s.fn H (ds ++ [])).vars [] := fun sp => by rw [hv, h3]; rfl
  have hold : ∀ p ∈ pa, (fun b => decide (b < W.heap.size)) p.block = true := fun p hp => by simpa using hlt p (by simpa using hp)
  refine ⟨ds, [], pa ++ [], [], pa, [], hW, hres _ _ _, hargs _ hold, hvars _, hB.frame _, fun _ => ⟨?_, _, _, ([] ++ pa) ++ [], ⟨[] ++ pa, [], trodAll_append (hargs _ (fun _ _ => rfl)) (hres _ _ _), hvars _, rfl, ?_, ?_⟩, ?_⟩⟩
  · exact ok_one hr rfl (okWide_bool_mk hu _)
  · intro b off hp
    have hp' : MemPlace.cell b off ∈ pa ++ [] := by simpa using hp
    rw [hB.frozen (p := ⟨b, off, none⟩) (hlt _ hp')]
    exact hz b off hp'
  · intro ha
    simpa using hn ha
  · intro p hp _
    simpa using hp
end
theorem post_fn1 {H : Type} {enc : TypeId × Value → H} {k : FuncId} {f : Func} {s : ChangeSpec} {apart fresh handsOn again : Bool} {W : World} {args : Array Value} {ds gs : List (DataW H)} {before : List MemPlace}
    (hW : DataW.Whole enc Tryz.prog f.params.toList s.vars apart W args.toList ds gs before)
    (hc : Fn1 k args (hp W) W fun _ r => r = .bool true)
    (hr : f.resultTypes = #[4]) (hT : ∀ t ∈ f.params.toList, Stays Tryz.prog t) (hv : s.vars = [])
    (h1 : (s.fn H (ds ++ gs)).results = [.lit (.bool true)]) (h2 : (s.fn H (ds ++ gs)).args = ds) (h3 : (s.fn H (ds ++ gs)).vars = []) :
    Calls Tryz.prog k args W fun e W' => ∃ v, e = .returned v ∧ s.post enc Tryz.prog f apart fresh handsOn again W args v W' := by
  refine (hc (own_start W)).mono fun e W' he => ?_
  cases e with
  | returned v =>
    obtain ⟨z', hR, rfl⟩ := he
    exact ⟨_, rfl, post_law laidOutP hW hR.below hr u4 hT hv h1 h2 h3⟩
  | _ => exact he.elim
section
variable {H : Type} {enc : TypeId × Value → H} {w : World} {base : Nat} {spare : Nat → Bool} {held : Bool}
theorem fieldAt' {t : TypeId} (hu : Tryz.prog.underlying t = some (.struct (fieldsOf t))) {i ty off : Nat} (hi : ((fieldsOf t).toList.map fun f => (f.type, f.offset))[i]? = some (ty, off)) : ∃ f, (fieldsOf t)[i]? = some f ∧ f.type = ty ∧ f.offset = off := by
  rw [List.getElem?_map] at hi
  obtain ⟨f, h1, h2⟩ := Option.map_eq_some_iff.1 hi
  simp only [Prod.mk.injEq] at h2
  exact ⟨f, by simpa using h1, h2.1, h2.2⟩
theorem sl_read {α : Type} [Inhabited α] {E : El α} {t e : TypeId} (hu : Tryz.prog.underlying t = some (.slice e)) (hc : Tryz.prog.cellsOf e = E.size) (rd : ∀ n cs x, DataW.trod enc Tryz.prog w base spare held n e cs = some x → ∃ a, E.rel (hp w) cs a)
    {n : Nat} {v : Value} {x : DataW H × List MemPlace} (h : DataW.trod enc Tryz.prog w base spare held n t [v] = some x) : ∃ l : List α, SlR E (hp w) v l := by
  rcases Go.Deep.open_slice hu h with ⟨h0, _⟩ | ⟨a, len, cap, m, n', D, Pl, h0, hb, hlc, hcm, hm, _, hel⟩
  · simp at h0; subst h0; exact ⟨[], SlR.nil⟩
  · simp at h0; subst h0
    rw [hc] at hel
    have hlm : len ≤ m := by rw [hm]; split <;> omega
    have key : ∀ i, i < len → ∃ (o : α) (cs : List Value), E.rel (hp w) cs o ∧ (i = 0 → a.spot = none) ∧ At (hp w) a.block (a.off + i * E.size) cs := fun i hi => by
      obtain ⟨cs, h1, h2⟩ := hel i (by omega)
      obtain ⟨o, ho⟩ := rd _ _ _ h2
      obtain ⟨g1, g2, g3⟩ := at_of_cells h1 E.pos
      obtain ⟨ab, ao, asp⟩ := a
      unfold Addr.add at g1 g3
      by_cases hz : i * E.size = 0
      · simp only [hz, if_true] at g1 g3
        exact ⟨o, cs, ho, fun _ => g1, by rw [hz]; exact g3⟩
      · simp only [hz, if_false] at g1 g3
        exact ⟨o, cs, ho, fun h0 => absurd (by rw [h0]; simp) hz, g3⟩
    classical
    let f : Nat → α := fun i => if hi : i < len then Classical.choose (key i hi) else default
    have hf : ∀ i, i < len → ∃ cs : List Value, E.rel (hp w) cs (f i) ∧ (i = 0 → a.spot = none) ∧ At (hp w) a.block (a.off + i * E.size) cs := fun i hi => by
      simp only [f, dif_pos hi]; exact Classical.choose_spec (key i hi)
    refine ⟨(List.range len).map f, some a, cap, by simp, by simpa using hlc, by simp only [List.length_map, List.length_range, big]; simp only [maxLen] at hcm; omega, fun hn => ?_⟩
    have hpos : 0 < len := by
      rcases Nat.eq_zero_or_pos len with h0 | h0
      · subst h0; simp at hn
      · exact h0
    obtain ⟨ab, ao, asp⟩ := a
    obtain ⟨_, _, hsp, _⟩ := hf 0 hpos
    have hsp := hsp rfl
    simp only at hsp
    subst hsp
    refine ⟨ab, ao, rfl, fun i x hx => ?_⟩
    rw [List.getElem?_map] at hx
    obtain ⟨k, h1, rfl⟩ := Option.map_eq_some_iff.1 hx
    have hk := List.getElem?_eq_some_iff.1 h1
    obtain ⟨hlt, rfl⟩ := hk
    simp only [List.getElem_range, List.length_range] at hlt ⊢
    obtain ⟨cs, q1, _, q2⟩ := hf i hlt
    exact ⟨cs, q1, q2⟩
instance : Inhabited PartM := ⟨⟨0, ⟨#[]⟩, 0⟩⟩
instance : Inhabited ItemM := ⟨⟨⟨#[]⟩, false⟩⟩
instance : Inhabited SpotM := ⟨⟨⟨#[]⟩, 0⟩⟩
instance : Inhabited InsM := ⟨⟨0, 0, 0, 0⟩⟩
theorem part_read {n : Nat} {cs : List Value} {x : DataW H × List MemPlace} (h : DataW.trod enc Tryz.prog w base spare held n 95 cs = some x) : ∃ o : PartM, El.part.rel (hp w) cs o := by
  have hu : Tryz.prog.underlying 95 = some (.struct (fieldsOf 95)) := by kernel_rfl
  obtain ⟨xs, m, _, _, hl, hxl, hf⟩ := DataW.trod_struct hu h
  have hc4 : Tryz.prog.cellsOf 95 = 3 := by kernel_rfl
  rw [hc4] at hl
  obtain ⟨f0, a0, b0, c0⟩ := fieldAt' hu (i := 0) (ty := 3) (off := 0) (by kernel_rfl)
  have h0 := hf 0 f0 a0
  obtain ⟨f1, a1, b1, c1⟩ := fieldAt' hu (i := 1) (ty := 9) (off := 1) (by kernel_rfl)
  have h1 := hf 1 f1 a1
  obtain ⟨f2, a2, b2, c2⟩ := fieldAt' hu (i := 2) (ty := 3) (off := 2) (by kernel_rfl)
  have h2 := hf 2 f2 a2
  have hsz : (fieldsOf 95).size = 3 := by kernel_rfl
  rw [hsz] at hxl
  rw [b0, c0, show Tryz.prog.cellsOf 3 = 1 by kernel_rfl] at h0
  rw [b1, c1, show Tryz.prog.cellsOf 9 = 1 by kernel_rfl] at h1
  rw [b2, c2, show Tryz.prog.cellsOf 3 = 1 by kernel_rfl] at h2
  match xs, hxl, cs, hl with
  | [x0, x1, x2], _, [v0, v1, v2], _ =>
    obtain ⟨m0, g0, _⟩ := DataW.trod_int u3 (x := x0) (by simpa using h0)
    obtain ⟨m1, g1, _, hs⟩ := DataW.trod_string u9 (x := x1) (by simpa using h1)
    obtain ⟨m2, g2, _⟩ := DataW.trod_int u3 (x := x2) (by simpa using h2)
    simp at g0 g1 g2
    subst g0; subst g1; subst g2
    exact ⟨⟨m0, m1, m2⟩, rfl, hs⟩
theorem item_read {n : Nat} {cs : List Value} {x : DataW H × List MemPlace} (h : DataW.trod enc Tryz.prog w base spare held n 98 cs = some x) : ∃ o : ItemM, El.item.rel (hp w) cs o := by
  have hu : Tryz.prog.underlying 98 = some (.struct (fieldsOf 98)) := by kernel_rfl
  obtain ⟨xs, m, _, _, hl, hxl, hf⟩ := DataW.trod_struct hu h
  have hc4 : Tryz.prog.cellsOf 98 = 2 := by kernel_rfl
  rw [hc4] at hl
  obtain ⟨f0, a0, b0, c0⟩ := fieldAt' hu (i := 0) (ty := 9) (off := 0) (by kernel_rfl)
  have h0 := hf 0 f0 a0
  obtain ⟨f1, a1, b1, c1⟩ := fieldAt' hu (i := 1) (ty := 4) (off := 1) (by kernel_rfl)
  have h1 := hf 1 f1 a1
  have hsz : (fieldsOf 98).size = 2 := by kernel_rfl
  rw [hsz] at hxl
  rw [b0, c0, show Tryz.prog.cellsOf 9 = 1 by kernel_rfl] at h0
  rw [b1, c1, show Tryz.prog.cellsOf 4 = 1 by kernel_rfl] at h1
  match xs, hxl, cs, hl with
  | [x0, x1], _, [v0, v1], _ =>
    obtain ⟨m0, g0, _, hs⟩ := DataW.trod_string u9 (x := x0) (by simpa using h0)
    obtain ⟨m1, g1, _⟩ := DataW.trod_bool u4 (x := x1) (by simpa using h1)
    simp at g0 g1
    subst g0; subst g1
    exact ⟨⟨m0, m1⟩, rfl, hs⟩
theorem spot_read {n : Nat} {cs : List Value} {x : DataW H × List MemPlace} (h : DataW.trod enc Tryz.prog w base spare held n 54 cs = some x) : ∃ o : SpotM, El.spot.rel (hp w) cs o := by
  have hu : Tryz.prog.underlying 54 = some (.struct (fieldsOf 54)) := by kernel_rfl
  obtain ⟨xs, m, _, _, hl, hxl, hf⟩ := DataW.trod_struct hu h
  have hc4 : Tryz.prog.cellsOf 54 = 2 := by kernel_rfl
  rw [hc4] at hl
  obtain ⟨f0, a0, b0, c0⟩ := fieldAt' hu (i := 0) (ty := 9) (off := 0) (by kernel_rfl)
  have h0 := hf 0 f0 a0
  obtain ⟨f1, a1, b1, c1⟩ := fieldAt' hu (i := 1) (ty := 3) (off := 1) (by kernel_rfl)
  have h1 := hf 1 f1 a1
  have hsz : (fieldsOf 54).size = 2 := by kernel_rfl
  rw [hsz] at hxl
  rw [b0, c0, show Tryz.prog.cellsOf 9 = 1 by kernel_rfl] at h0
  rw [b1, c1, show Tryz.prog.cellsOf 3 = 1 by kernel_rfl] at h1
  match xs, hxl, cs, hl with
  | [x0, x1], _, [v0, v1], _ =>
    obtain ⟨m0, g0, _, hs⟩ := DataW.trod_string u9 (x := x0) (by simpa using h0)
    obtain ⟨m1, g1, _⟩ := DataW.trod_int u3 (x := x1) (by simpa using h1)
    simp at g0 g1
    subst g0; subst g1
    exact ⟨⟨m0, m1⟩, rfl, hs⟩
theorem ins_read {n : Nat} {cs : List Value} {x : DataW H × List MemPlace} (h : DataW.trod enc Tryz.prog w base spare held n 38 cs = some x) : ∃ o : InsM, El.ins.rel (hp w) cs o := by
  have hu : Tryz.prog.underlying 38 = some (.struct (fieldsOf 38)) := by kernel_rfl
  obtain ⟨xs, m, _, _, hl, hxl, hf⟩ := DataW.trod_struct hu h
  have hc4 : Tryz.prog.cellsOf 38 = 4 := by kernel_rfl
  rw [hc4] at hl
  obtain ⟨f0, a0, b0, c0⟩ := fieldAt' hu (i := 0) (ty := 3) (off := 0) (by kernel_rfl)
  have h0 := hf 0 f0 a0
  obtain ⟨f1, a1, b1, c1⟩ := fieldAt' hu (i := 1) (ty := 3) (off := 1) (by kernel_rfl)
  have h1 := hf 1 f1 a1
  obtain ⟨f2, a2, b2, c2⟩ := fieldAt' hu (i := 2) (ty := 3) (off := 2) (by kernel_rfl)
  have h2 := hf 2 f2 a2
  obtain ⟨f3, a3, b3, c3⟩ := fieldAt' hu (i := 3) (ty := 3) (off := 3) (by kernel_rfl)
  have h3 := hf 3 f3 a3
  have hsz : (fieldsOf 38).size = 4 := by kernel_rfl
  rw [hsz] at hxl
  rw [b0, c0, show Tryz.prog.cellsOf 3 = 1 by kernel_rfl] at h0
  rw [b1, c1, show Tryz.prog.cellsOf 3 = 1 by kernel_rfl] at h1
  rw [b2, c2, show Tryz.prog.cellsOf 3 = 1 by kernel_rfl] at h2
  rw [b3, c3, show Tryz.prog.cellsOf 3 = 1 by kernel_rfl] at h3
  match xs, hxl, cs, hl with
  | [x0, x1, x2, x3], _, [v0, v1, v2, v3], _ =>
    obtain ⟨m0, g0, _⟩ := DataW.trod_int u3 (x := x0) (by simpa using h0)
    obtain ⟨m1, g1, _⟩ := DataW.trod_int u3 (x := x1) (by simpa using h1)
    obtain ⟨m2, g2, _⟩ := DataW.trod_int u3 (x := x2) (by simpa using h2)
    obtain ⟨m3, g3, _⟩ := DataW.trod_int u3 (x := x3) (by simpa using h3)
    simp at g0 g1 g2 g3
    subst g0; subst g1; subst g2; subst g3
    exact ⟨⟨m0, m1, m2, m3⟩, rfl⟩
theorem str_read {n : Nat} {cs : List Value} {x : DataW H × List MemPlace} (h : DataW.trod enc Tryz.prog w base spare held n 9 cs = some x) : ∃ o : ByteArray, El.str.rel (hp w) cs o := by
  obtain ⟨s, g, _, hs⟩ := DataW.trod_string u9 h
  exact ⟨s, g, hs⟩
theorem one_of_slice {n t e : Nat} {cs : List Value} {x : DataW H × List MemPlace} (hu : Tryz.prog.underlying t = some (.slice e)) (h : DataW.trod enc Tryz.prog w base spare held n t cs = some x) : ∃ v, cs = [v] := by
  rcases Go.Deep.open_slice hu h with ⟨h0, _⟩ | ⟨a, len, cap, m, n', D, Pl, h0, _⟩ <;> exact ⟨_, h0⟩
theorem parts_read {n : Nat} {cs : List Value} {x : DataW H × List MemPlace} (h : DataW.trod enc Tryz.prog w base spare held n 93 cs = some x) : ∃ o : List PartM, (El.sl El.part).rel (hp w) cs o := by
  obtain ⟨v, rfl⟩ := one_of_slice (e := 95) (by kernel_rfl) h
  obtain ⟨l, hl⟩ := sl_read (E := El.part) (e := 95) (by kernel_rfl) (by kernel_rfl) (fun _ _ _ => part_read) h
  exact ⟨l, v, rfl, hl⟩
theorem items_read {n : Nat} {cs : List Value} {x : DataW H × List MemPlace} (h : DataW.trod enc Tryz.prog w base spare held n 96 cs = some x) : ∃ o : List ItemM, (El.sl El.item).rel (hp w) cs o := by
  obtain ⟨v, rfl⟩ := one_of_slice (e := 98) (by kernel_rfl) h
  obtain ⟨l, hl⟩ := sl_read (E := El.item) (e := 98) (by kernel_rfl) (by kernel_rfl) (fun _ _ _ => item_read) h
  exact ⟨l, v, rfl, hl⟩
theorem u28 : Tryz.prog.underlying 28 = some (.struct (fieldsOf 28)) := by kernel_rfl
theorem codeArg {r : Reach} {b0 n : Nat} {v : Value} {x : DataW H × List MemPlace} (hval : Value.okWide Tryz.prog w r b0 28 v) (h : DataW.trod enc Tryz.prog w base spare held n 28 v.cells.toList = some x) : ∃ c : CodeM, CodeR (hp w) v c := by
  obtain ⟨xs, m, _, _, hl, hxl, hf⟩ := DataW.trod_struct u28 h
  have hc4 : Tryz.prog.cellsOf 28 = 6 := by kernel_rfl
  rw [hc4] at hl
  obtain ⟨f0, a0, b0, c0⟩ := fieldAt' u28 (i := 0) (ty := 22) (off := 0) (by kernel_rfl)
  have h0 := hf 0 f0 a0
  obtain ⟨f1, a1, b1, c1⟩ := fieldAt' u28 (i := 1) (ty := 23) (off := 1) (by kernel_rfl)
  have h1 := hf 1 f1 a1
  obtain ⟨f2, a2, b2, c2⟩ := fieldAt' u28 (i := 2) (ty := 24) (off := 2) (by kernel_rfl)
  have h2 := hf 2 f2 a2
  obtain ⟨f3, a3, b3, c3⟩ := fieldAt' u28 (i := 3) (ty := 25) (off := 3) (by kernel_rfl)
  have h3 := hf 3 f3 a3
  obtain ⟨f4, a4, b4, c4⟩ := fieldAt' u28 (i := 4) (ty := 22) (off := 4) (by kernel_rfl)
  have h4 := hf 4 f4 a4
  obtain ⟨f5, a5, b5, c5⟩ := fieldAt' u28 (i := 5) (ty := 26) (off := 5) (by kernel_rfl)
  have h5 := hf 5 f5 a5
  have hsz : (fieldsOf 28).size = 6 := by kernel_rfl
  rw [hsz] at hxl
  rw [b0, c0, show Tryz.prog.cellsOf 22 = 1 by kernel_rfl] at h0
  rw [b1, c1, show Tryz.prog.cellsOf 23 = 1 by kernel_rfl] at h1
  rw [b2, c2, show Tryz.prog.cellsOf 24 = 1 by kernel_rfl] at h2
  rw [b3, c3, show Tryz.prog.cellsOf 25 = 1 by kernel_rfl] at h3
  rw [b4, c4, show Tryz.prog.cellsOf 22 = 1 by kernel_rfl] at h4
  rw [b5, c5, show Tryz.prog.cellsOf 26 = 1 by kernel_rfl] at h5
  have hv : ∃ cs, v = .agg cs := by
    simp only [Value.okWide, u28] at hval
    exact ⟨_, hval.choose_spec.1⟩
  obtain ⟨cs, rfl⟩ := hv
  obtain ⟨l, rfl⟩ : ∃ l : List Value, cs = l.toArray := ⟨cs.toList, by simp⟩
  simp only [Value.cells] at hl h0 h1 h2 h3 h4 h5
  match xs, hxl, l, hl with
  | [x0, x1, x2, x3, x4, x5], _, [v0, v1, v2, v3, v4, v5], _ =>
    obtain ⟨l0, g0⟩ := sl_read (E := El.str) (e := 9) (by kernel_rfl) (by kernel_rfl) (fun _ _ _ => str_read) (x := x0) (v := v0) (by simpa using h0)
    obtain ⟨l1, g1⟩ := sl_read (E := El.sl El.part) (e := 93) (by kernel_rfl) (by kernel_rfl) (fun _ _ _ => parts_read) (x := x1) (v := v1) (by simpa using h1)
    obtain ⟨l2, g2⟩ := sl_read (E := El.sl El.item) (e := 96) (by kernel_rfl) (by kernel_rfl) (fun _ _ _ => items_read) (x := x2) (v := v2) (by simpa using h2)
    obtain ⟨l3, g3⟩ := sl_read (E := El.spot) (e := 54) (by kernel_rfl) (by kernel_rfl) (fun _ _ _ => spot_read) (x := x3) (v := v3) (by simpa using h3)
    obtain ⟨l4, g4⟩ := sl_read (E := El.str) (e := 9) (by kernel_rfl) (by kernel_rfl) (fun _ _ _ => str_read) (x := x4) (v := v4) (by simpa using h4)
    obtain ⟨l5, g5⟩ := sl_read (E := El.ins) (e := 38) (by kernel_rfl) (by kernel_rfl) (fun _ _ _ => ins_read) (x := x5) (v := v5) (by simpa using h5)
    exact ⟨⟨l0, l1, l2, l3, l4, l5⟩, v0, v1, v2, v3, v4, v5, rfl, g0, g1, g2, g3, g4, g5⟩
end
theorem stays28 : Stays Tryz.prog 28 := ⟨by kernel_rfl, of_decide_eq_true (by kernel_rfl)⟩
theorem tab_start {W : World} (h : Lib.TabIs Tryz.prog W "internal/strconv.uint64pow10" .u64 Lib.pow10Tab) : Tab (hp W) := ⟨fun w hw => by
  unfold Lib.TabIs World.var? at *
  cases hg : Tryz.prog.globalNamed "internal/strconv.uint64pow10" with
  | none => simp [hg] at h
  | some g =>
    simp only [hg, Option.bind_some] at h ⊢
    cases ho : W.heap[g]? with
    | none => rw [ho] at h; simp at h
    | some o => rw [hw g o ho, ← ho]; exact h⟩
theorem laidVars_tab {P : Program} {W : World} {name : String} {k : IntKind} {zs : List Int} {rest : List (String × DataW Unit)} {ps : List MemPlace} {g : Nat} {t e : TypeId} {n : Nat}
    (hg : P.globalNamed name = some g) (hty : (P.globals[g]?).map (·.type) = some t) (ht : P.underlying t = some (.array n e)) (he : P.underlying e = some (.int k)) (hce : P.cellsOf e = 1) (hct : P.cellsOf t = n)
    (h : DataW.LaidVars P W ((name, Lib.tabData k zs) :: rest) ps) : Lib.TabIs P W name k zs := by
  obtain ⟨g', t', cs, fuel, p, q, hg', ht', hvar, hd, _, _⟩ := h
  obtain rfl := Option.some.inj (hg.symm.trans hg')
  obtain rfl := Option.some.inj (hty.symm.trans ht')
  unfold Lib.TabIs
  rw [hvar, ← Lib.cells_of_tab ht he hce hct hd]
theorem tab_of {W : World} {a b : String × DataW Unit} {rest : List (String × DataW Unit)} (h : laidMet Tryz.prog (a :: b :: ("internal/strconv.uint64pow10", Rows.laid_internal_strconv_uint64pow10) :: rest) W) : Lib.TabIs Tryz.prog W "internal/strconv.uint64pow10" .u64 Lib.pow10Tab := by
  obtain ⟨ps, hv, _⟩ := h
  obtain ⟨a1, b1⟩ := a
  obtain ⟨a2, b2⟩ := b
  obtain ⟨_, _, _, _, _, _, _, _, _, _, hv, _⟩ := hv
  obtain ⟨_, _, _, _, _, _, _, _, _, _, hv, _⟩ := hv
  exact laidVars_tab (g := 3) (t := 328) (n := 20) (e := 309) (by kernel_rfl) (by kernel_rfl) (by kernel_rfl) (by kernel_rfl) (by kernel_rfl) (by kernel_rfl) (show DataW.LaidVars Tryz.prog W (("internal/strconv.uint64pow10", Lib.tabData .u64 Lib.pow10Tab) :: rest) _ from hv)
end
section
open Go Q Go.RowKit Go.ChangeShapes Go.WideShapes Go.ChangeAt
section
variable {H : Type} {enc : TypeId × Value → H} {w : World} {base : Nat} {spare : Nat → Bool} {held : Bool}
end
end
end Go.Proofs.YtbeelfopmkbllaaGreatDoor
