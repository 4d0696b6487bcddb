/- Copies of states; machines. -/
import Derived.Test.YtjnckainogpenaaT9
set_option linter.unusedVariables false
set_option maxRecDepth 20000
set_option synthInstance.maxHeartbeats 400000
set_option synthInstance.maxSize 4000
namespace Go.Proofs.Ytjnckainogpenaa
open Go Q Go.RowKit

def FrsR (z : Z) : List Value → StM → Prop
  | ps, [] => ps = []
  | ps, f :: fs => ∃ cs rest, ps = cs ++ rest ∧ El.frame.rel z cs f ∧ FrsR z rest fs
theorem FrsR.mono {z z' : Z} (hz : Le z z') : ∀ {ps : List Value} {s : StM}, FrsR z ps s → FrsR z' ps s
  | _, [], h => h
  | _, f :: fs, ⟨cs, rest, h1, h2, h3⟩ => ⟨cs, rest, h1, El.frame.mono h2 hz, FrsR.mono hz h3⟩
theorem FrsR.snoc {z : Z} {cs : List Value} {f : FrM} (hr : El.frame.rel z cs f) : ∀ {ps : List Value} {s : StM}, FrsR z ps s → FrsR z (ps ++ cs) (s ++ [f])
  | _, [], h => ⟨cs, [], by rw [show _ = ([] : List Value) from h]; simp, hr, rfl⟩
  | _, g :: fs, ⟨cs', rest, h1, h2, h3⟩ => ⟨cs', rest ++ cs, by rw [h1, List.append_assoc], h2, FrsR.snoc hr h3⟩
theorem FrsR.len {z : Z} : ∀ {ps : List Value} {s : StM}, FrsR z ps s → ps.length = s.length * 5
  | _, [], h => by rw [show _ = ([] : List Value) from h]; simp
  | _, g :: fs, ⟨cs', rest, h1, h2, h3⟩ => by
    rw [h1, List.length_append, FrsR.len h3, El.frame.len h2, List.length_cons, Nat.add_mul]
    show 5 + _ = _
    omega
theorem FrsR.get {z : Z} : ∀ {ps : List Value} {s : StM} {i : Nat} {f : FrM}, FrsR z ps s → s[i]? = some f → ∃ cs, El.frame.rel z cs f ∧ ∀ j v, cs[j]? = some v → ps[i * 5 + j]? = some v
  | _, [], _, _, h, hi => by simp at hi
  | _, g :: fs, 0, f, ⟨cs', rest, h1, h2, h3⟩, hi => by
    simp at hi; subst hi
    exact ⟨cs', h2, fun j v hv => by rw [h1, Nat.zero_mul, Nat.zero_add, List.getElem?_append_left (List.getElem?_eq_some_iff.1 hv).1]; exact hv⟩
  | _, g :: fs, i + 1, f, ⟨cs', rest, h1, h2, h3⟩, hi => by
    obtain ⟨cs, h4, h5⟩ := FrsR.get h3 (by simpa using hi)
    refine ⟨cs, h4, fun j v hv => ?_⟩
    have hl : cs'.length = 5 := El.frame.len h2
    rw [h1, List.getElem?_append_right (by rw [hl]; omega), hl, show (i + 1) * 5 + j - 5 = i * 5 + j by omega]
    exact h5 j v hv
/-- The frames of a machine: the last is its own. -/
def MF (z : Z) (B : Bl) (xs : List Value) (s : StM) : Prop := (s = [] ∧ xs = [] ∧ B = []) ∨ ∃ pre f ps cs, s = pre ++ [f] ∧ xs = ps ++ cs ∧ FrsR z ps pre ∧ FrOwn B cs f ∧ FrSm f
theorem FrOwn.freeze {w0 w : World} {z0 z : Z} {B0 B L : Bl} {cs : List Value} {f : FrM} (h : Res w0 z0 B0 w z (B ++ L)) (ho : FrOwn B cs f) (hs : FrSm f) : ∃ z', Le z z' ∧ Res w0 z0 B0 w z' L ∧ El.frame.rel z' cs f := by
  obtain ⟨B1, B2, v1, v2, rfl, rfl, ho1, ho2⟩ := ho
  obtain ⟨h1, h2, h3, h4, h5⟩ := hs
  rw [List.append_assoc] at h
  obtain ⟨z1, hz1, hS1, hv1⟩ := Res.freezeSl (E := El.trap) h ho1 (by simp only [big]; omega) (fun _ => rfl) (fun z x hx => ⟨rfl, h3 x hx⟩)
  obtain ⟨z2, hz2, hS2, hv2⟩ := Res.freezeSl (E := El.raised) hS1 ho2 (by simp only [big]; omega) (fun _ => rfl) (fun z x hx => ⟨rfl, h4 x hx⟩)
  exact ⟨z2, hz1.trans hz2, hS2, v1, v2, rfl, hv1.mono hz2, hv2, h5⟩
theorem MF.freeze {w0 w : World} {z0 z : Z} {B0 B L : Bl} {xs : List Value} {s : StM} (h : Res w0 z0 B0 w z (B ++ L)) (hm : MF z B xs s) : ∃ z', Le z z' ∧ Res w0 z0 B0 w z' L ∧ FrsR z' xs s := by
  rcases hm with ⟨rfl, rfl, rfl⟩ | ⟨pre, f, ps, cs, rfl, rfl, h1, h2, h3⟩
  · exact ⟨z, Le.refl _, h, rfl⟩
  · obtain ⟨z', hz, hS, hr⟩ := FrOwn.freeze h h2 h3
    exact ⟨z', hz, hS, FrsR.snoc hr (FrsR.mono hz h1)⟩
theorem FrOwn.len {B : Bl} {cs : List Value} {f : FrM} (h : FrOwn B cs f) : cs.length = 5 := by
  obtain ⟨_, _, _, _, _, rfl, _⟩ := h; rfl
theorem FrOwn.ones {B : Bl} {cs : List Value} {f : FrM} (h : FrOwn B cs f) : ∀ u ∈ cs, isOne u = true := by
  obtain ⟨_, _, v1, v2, _, rfl, h1, h2⟩ := h
  obtain ⟨a3, cap3, rfl, hc3⟩ := h1.form
  obtain ⟨a4, cap4, rfl, hc4⟩ := h2.form
  intro u hu
  simp only [InM.cells, List.mem_cons, List.not_mem_nil, or_false] at hu
  rcases hu with rfl | rfl | rfl | rfl | rfl <;> rfl
theorem copied {v : Value} {s : StM} {z : Z} {w : World} (hs : SlR El.frame z v s) (hn : s.length ≤ 1000) (hf : ∀ f ∈ s, f.traps.length ≤ 1000000 ∧ f.pend.length ≤ 1000000) :
    Fn 98 #[v, .func (.func 99) #[] #[]] z [] w fun z' B' r => ∃ Bf Bl xs, B' = Bf ++ Bl ∧ OwnSl 63 5 Bf r s.length xs ∧ MF z' Bl xs s := Fn.intro fun hS => en98 (by
  unfold vc98
  obtain ⟨hb, a, cap, rfl, hc, hel⟩ := hs.form
  (repeat (first | (refine iDr ?_; intro _ _) | refine V_run ?_ | refine PV_run ?_ | refine HV_run ?_ | refine iV_ld1 ?_ | refine iV_ldN ?_ | (refine iV_bx ?_; intro _ _ _ _) | (refine iV_al ?_; intro _ _ _ _) | (refine iV_mm ?_; intro _ _ _ _) | (refine iU_st ?_; intro _ _) | refine iHV_1 ?_ | refine iHV_N ?_ | refine iRI_1 ?_ | refine iRI_N ?_ | refine Cond_t ?_ | refine Cond_f ?_ | refine JB ?_ | (refine JC ?_; intro _ _ _ _) | (refine J1 ?_; intro _ _) | (refine J0 ?_; intro _ _) | (refine J2 ?_; intro _ _) | (refine J3 ?_; intro _ _) | (refine J4 ?_; intro _ _) | refine K1 ?_ | refine K0 ?_ | refine K2 ?_ | refine K3 ?_ | refine K4 ?_ | (refine CV_pu ?_; intro _ _ _ _) | refine fV_ldN ?_ | refine fV_ld1 ?_ | refine fHV_ldN ?_ | refine fHV_ld1 ?_ | refine NilW_some ?_ | refine iCW_1 ?_ | refine iCW_N ?_ | refine Pk_b ?_))
  refine LoopG2 (fun (i : Nat) x y w' => y = .int .i64 i ∧ i ≤ s.length ∧ ∃ z' Bf Bl xs, Res w z [] w' z' (Bf ++ Bl) ∧ OwnSl 63 5 Bf x i xs ∧ MF z' Bl xs (s.take i)) (fun i => s.length - i) 0 ⟨rfl, by omega, z, [], [], [], hS, OwnSl.nil, .inl ⟨rfl, rfl, rfl⟩⟩ ?_
  rintro I M i x y w2 m ⟨rfl, h1, z2, Bf, Bl, xs, hS2, ho, hm⟩ back
  (repeat (first | (refine iDr ?_; intro _ _) | refine V_run ?_ | refine PV_run ?_ | refine HV_run ?_ | refine iV_ld1 ?_ | refine iV_ldN ?_ | (refine iV_bx ?_; intro _ _ _ _) | (refine iV_al ?_; intro _ _ _ _) | (refine iV_mm ?_; intro _ _ _ _) | (refine iU_st ?_; intro _ _) | refine iHV_1 ?_ | refine iHV_N ?_ | refine iRI_1 ?_ | refine iRI_N ?_ | refine Cond_t ?_ | refine Cond_f ?_ | refine JB ?_ | (refine JC ?_; intro _ _ _ _) | (refine J1 ?_; intro _ _) | (refine J0 ?_; intro _ _) | (refine J2 ?_; intro _ _) | (refine J3 ?_; intro _ _) | (refine J4 ?_; intro _ _) | refine K1 ?_ | refine K0 ?_ | refine K2 ?_ | refine K3 ?_ | refine K4 ?_ | (refine CV_pu ?_; intro _ _ _ _) | refine fV_ldN ?_ | refine fV_ld1 ?_ | refine fHV_ldN ?_ | refine fHV_ld1 ?_ | refine NilW_some ?_ | refine iCW_1 ?_ | refine iCW_N ?_ | refine Pk_b ?_))
  refine Cond_d (fun hh => ?_) (fun hh => ?_)
  · have hlt : i < s.length := by omega
    obtain ⟨b, off, cs, rfl, hr, hat⟩ := hel i _ (List.getElem?_eq_getElem hlt)
    haveI : InR (i : Int) s.length := ⟨by omega, by omega⟩
    haveI : InI ((i : Int) + 1) := ⟨by omega⟩
    obtain ⟨u1, u2, rfl, hu1, hu2, hd⟩ := hr
    haveI : One u1 := by obtain ⟨_, a1, cap1, rfl, _⟩ := hu1.form; exact inferInstance
    haveI : One u2 := by obtain ⟨_, a1, cap1, rfl, _⟩ := hu2.form; exact inferInstance
    haveI : Fz z b (off + (i : Int).toNat * 5) (u1 :: u2 :: s[i].info.cells) := ⟨by rw [Int.toNat_natCast]; exact hat⟩
    dsimp only [InM.cells] at *
    (repeat (first | (refine iDr ?_; intro _ _) | refine V_run ?_ | refine PV_run ?_ | refine HV_run ?_ | refine iV_ld1 ?_ | refine iV_ldN ?_ | (refine iV_bx ?_; intro _ _ _ _) | (refine iV_al ?_; intro _ _ _ _) | (refine iV_mm ?_; intro _ _ _ _) | (refine iU_st ?_; intro _ _) | refine iHV_1 ?_ | refine iHV_N ?_ | refine iRI_1 ?_ | refine iRI_N ?_ | refine Cond_t ?_ | refine Cond_f ?_ | refine JB ?_ | (refine JC ?_; intro _ _ _ _) | (refine J1 ?_; intro _ _) | (refine J0 ?_; intro _ _) | (refine J2 ?_; intro _ _) | (refine J3 ?_; intro _ _) | (refine J4 ?_; intro _ _) | refine K1 ?_ | refine K0 ?_ | refine K2 ?_ | refine K3 ?_ | refine K4 ?_ | (refine CV_pu ?_; intro _ _ _ _) | refine fV_ldN ?_ | refine fV_ld1 ?_ | refine fHV_ldN ?_ | refine fHV_ld1 ?_ | refine NilW_some ?_ | refine iCW_1 ?_ | refine iCW_N ?_ | refine Pk_b ?_))
    refine CV_fn0 (fun hz => frame ⟨_, rfl, u1, u2, rfl, hu1.mono hz, hu2.mono hz, hd⟩ (hf _ (List.getElem_mem hlt)).1 (hf _ (List.getElem_mem hlt)).2) ?_
    rintro z3 B3 w3 v3 hle3 hS3 ⟨cs, rfl, hco, hsm⟩
    have hcl := hco.len
    have hco1 := hco.ones
    haveI : LenIs cs 5 := ⟨hcl⟩
    refine V_bs (parts := [(0, .agg cs.toArray)]) rfl (by omega) ?_
    intro b4 w4 hb4 hS4
    have hat4 : At (hp w4) b4 0 cs := ⟨_, _, _, (hS4.mem _ List.mem_cons_self).1, fun j v hv => by simpa using hv⟩
    have hS5 := (hS4.tl.sublist (L' := B3 ++ (Bf ++ Bl)) ((List.Sublist.refl _).append (List.sublist_cons_self _ _)))
    have hS6 : Res w z [] w4 z3 (Bf ++ (B3 ++ Bl)) := hS5.perm (by
      rw [← List.append_assoc, ← List.append_assoc]
      exact List.perm_append_comm.append_right _)
    refine V_app (m := 1) (news := cs) hS6 ho hat4 (by rw [hcl]) hco1 (by omega) (by simp only [room]; omega) (by simp only [room]; omega) ?_
    intro B7 v7 w7 ho7 hS7
    have hS8 : Res w z [] w7 z3 (Bl ++ (B7 ++ B3)) := hS7.perm (by
      rw [← List.append_assoc]
      exact List.perm_append_comm)
    have hm3 : MF z3 Bl xs (s.take i) := by
      rcases hm with h | ⟨pre, f, ps, cs, q1, q2, q3, q4, q5⟩
      · exact .inl h
      · exact .inr ⟨pre, f, ps, cs, q1, q2, FrsR.mono hle3 q3, q4, q5⟩
    obtain ⟨z8, hz8, hS9, hfr⟩ := hm3.freeze hS8
    (repeat (first | (refine iDr ?_; intro _ _) | refine V_run ?_ | refine PV_run ?_ | refine HV_run ?_ | refine iV_ld1 ?_ | refine iV_ldN ?_ | (refine iV_bx ?_; intro _ _ _ _) | (refine iV_al ?_; intro _ _ _ _) | (refine iV_mm ?_; intro _ _ _ _) | (refine iU_st ?_; intro _ _) | refine iHV_1 ?_ | refine iHV_N ?_ | refine iRI_1 ?_ | refine iRI_N ?_ | refine Cond_t ?_ | refine Cond_f ?_ | refine JB ?_ | (refine JC ?_; intro _ _ _ _) | (refine J1 ?_; intro _ _) | (refine J0 ?_; intro _ _) | (refine J2 ?_; intro _ _) | (refine J3 ?_; intro _ _) | (refine J4 ?_; intro _ _) | refine K1 ?_ | refine K0 ?_ | refine K2 ?_ | refine K3 ?_ | refine K4 ?_ | (refine CV_pu ?_; intro _ _ _ _) | refine fV_ldN ?_ | refine fV_ld1 ?_ | refine fHV_ldN ?_ | refine fHV_ld1 ?_ | refine NilW_some ?_ | refine iCW_1 ?_ | refine iCW_N ?_ | refine Pk_b ?_))
    refine back (i + 1) _ _ _ ⟨by simp, by omega, z8, B7, B3, _, hS9, ho7, .inr ⟨s.take i, s[i], xs, cs, ?_, rfl, hfr, hco, hsm⟩⟩ (by omega)
    exact (List.take_append_getElem hlt).symm
  · have : i = s.length := by omega
    subst this
    rw [List.take_length] at hm
    exact ⟨_, _, hS2, Bf, Bl, xs, rfl, ho, hm⟩)
end Go.Proofs.Ytjnckainogpenaa
