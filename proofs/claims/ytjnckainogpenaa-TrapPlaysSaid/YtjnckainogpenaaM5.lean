/- Texts joined: T54. -/
import Derived.Test.YtjnckainogpenaaM4
section
/- The law TrapPlays, walked. -/
set_option linter.unusedVariables false
set_option linter.unusedSimpArgs false
set_option maxRecDepth 20000
set_option synthInstance.maxHeartbeats 400000
set_option synthInstance.maxSize 4000
namespace Go.Proofs.Ytjnckainogpenaa
open Go Q Go.RowKit

theorem playFrom_len : ∀ {l : List OpM} {s : StM}, (playFrom s l).2.1.length = (playFrom s l).2.2.length
  | [], _ => rfl
  | o :: l, s => by simp only [playFrom, List.length_cons]; rw [playFrom_len]
theorem lawPlays {v : Value} {l : List OpM} {z : Z} {w : World} (hl : SlR El.op z v l) : Fn1 3 #[v] z w fun _ r => r = .bool true := Fn1.intro fun hS => en3 (by
  unfold vc3
  obtain ⟨hb, a, cap, rfl, hcap, hel⟩ := id hl.form
  (repeat (first | refine V_run ?_ | refine JB ?_))
  refine Cond_b (fun hq => ?_) (fun hq => ?_)
  · (repeat (refine CV_pu ?_; intro _ _ _ _))
    exact ⟨_, _, ‹_›, rfl⟩
  refine LoopG1 (fun (i : Nat) x w' => x = .int .i64 i ∧ i ≤ l.length ∧ ∃ z', Le z z' ∧ Res w z [] w' z' []) (fun i => l.length - i) 0 ⟨rfl, by omega, z, Le.refl _, by assumption⟩ ?_
  rintro I M i x w2 m ⟨rfl, h1, z2, hz2, hS2⟩ back
  (repeat (refine V_run ?_))
  refine Cond_d (fun h => ?_) (fun h => ?_)
  · have hlt : i < l.length := by omega
    obtain ⟨b, off, cs, rfl, ⟨rfl, hr⟩, hat⟩ := hel i _ (List.getElem?_eq_getElem hlt)
    haveI : InR (i : Int) l.length := ⟨by omega, by omega⟩
    haveI : InI ((i : Int) + 1) := ⟨by simp only [big] at hb; omega⟩
    (repeat (refine V_run ?_))
    simp only [Int.toNat_natCast]
    refine zV_fld (i := 3) hat (by (repeat (assumption))) rfl rfl ?_
    (repeat (refine V_run ?_))
    refine Cond_d (fun hq2 => ?_) (fun hq2 => ?_)
    · (repeat (refine CV_pu ?_; intro _ _ _ _))
      exact ⟨_, _, ‹_›, rfl⟩
    · (repeat (refine V_run ?_))
      exact back (i + 1) _ _ ⟨rfl, by omega, z2, hz2, by assumption⟩ (by omega)
  clear back
  refine CV_1 (PlayP (hl.mono (by (repeat (assumption))))) ?_
  rintro z3 w3 r hle3 hS3 hpl
  have hrp : ∀ z v w, SlR El.op z v l → Fn1 14 #[v] z w fun z' r => RPlayR z' r l := fun z v w h => refPlay h
  rw [PlayR] at hpl
  by_cases hlen : 1000 < l.length
  · rw [if_pos hlen] at hpl
    obtain ⟨_, rfl, u3, rfl, hu3⟩ := hpl
    obtain ⟨_, a3, cap3, rfl, _, _⟩ := id hu3.form
    (repeat (first | refine V_run ?_ | (refine iV_bx ?_; intro _ _ _ _) | (refine iU_st ?_; intro _ _)))
    refine CV_1 (hrp _ _ _ (hl.mono (by (repeat (exact Res.zle (by assumption)))))) ?_
    rintro z4 w4 r hle4 hS4 hrl
    rw [RPlayR, if_pos hlen] at hrl
    subst hrl
    (repeat (first | refine V_run ?_ | refine iV_ld1 ?_ | refine iV_ldN ?_ | (refine iV_bx ?_; intro _ _ _ _) | (refine iU_st ?_; intro _ _) | refine Cond_f ?_ | (refine JC ?_; intro _ _ _ _) | (refine J1 ?_; intro _ _)))
    refine CV_1 (refSame ⟨_, rfl, hu3.mono (by (repeat (first | assumption | refine Le.trans ?_ (by assumption : Le _ _))))⟩ ⟨_, rfl, SlR.nil⟩) ?_
    rintro z5 w5 _ hle5 hS5 rfl
    rw [(same_iff (s := [])).2 rfl]
    (repeat (first | refine V_run ?_ | refine Cond_f ?_ | refine K1 ?_))
    refine LoopG1 (fun (i : Nat) x w' => x = .int .i64 i ∧ i = 0 ∧ ∃ z' L, Res w z [] w' z' L) (fun i => 1 - i) 0 ⟨rfl, rfl, _, _, by assumption⟩ ?_
    rintro I M i x w6 m ⟨rfl, rfl, z6, L6, hS6⟩ back
    (repeat (first | refine V_run ?_ | refine Cond_f ?_ | (refine CV_pu ?_; intro _ _ _ _)))
    exact ⟨_, _, ‹_›, rfl⟩
  · rw [if_neg hlen] at hpl
    obtain ⟨_, va, ve, rfl, ⟨u3, rfl, hu3⟩, hva, hve⟩ := hpl
    have hrp2 : ∀ z v w, SlR El.op z v l → Fn1 14 #[v] z w fun z' r => ∃ us ua ue, r = .agg #[us, ua, ue, .int .i64 0] ∧ SlR El.frame z' us (playFrom newM l).1 ∧ SlR El.act z' ua (playFrom newM l).2.1 ∧ SlR El.int z' ue (playFrom newM l).2.2 := fun z v w h => by
      have := refPlay (w := w) h
      simpa only [RPlayR, hlen, if_false] using this
    clear hrp
    have hle := playFrom_len (l := l) (s := newM)
    generalize playFrom newM l = P at *
    obtain ⟨S, A, E⟩ := P
    simp only at hu3 hva hve hle hrp2
    obtain ⟨_, a3, cap3, rfl, _, _⟩ := id hu3.form
    obtain ⟨hbA, aA, capA, rfl, _, helA⟩ := id hva.form
    obtain ⟨hbE, aE, capE, rfl, _, helE⟩ := id hve.form
    (repeat (refine V_run ?_))
    refine iV_al ?_
    intro b4 w4' hb4 hS4
    (repeat (refine iU_st ?_; intro _ _))
    refine CV_1 (hrp2 _ _ _ (hl.mono (by (repeat (exact Res.zle (by assumption)))))) ?_
    rintro z4 w4 _ hle4 hS4 ⟨us, ua, ue, rfl, hus, hua, hue⟩
    obtain ⟨_, a5, cap5, rfl, _, _⟩ := id hus.form
    obtain ⟨_, aA2, capA2, rfl, _, helA2⟩ := id hua.form
    obtain ⟨_, aE2, capE2, rfl, _, helE2⟩ := id hue.form
    refine iV_al ?_
    intro b8 w8 hb8 hS8
    (repeat (first | refine V_run ?_ | refine iV_ld1 ?_ | (refine iU_st ?_; intro _ _) | (refine JC ?_; intro _ _ _ _) | (refine J1 ?_; intro _ _)))
    refine Cond_not (by simp) ?_
    (repeat (first | refine V_run ?_ | refine iV_ldN ?_))
    refine CV_1 (refSame ⟨_, rfl, hu3.mono (by (repeat (first | assumption | refine Le.trans ?_ (by assumption : Le _ _))))⟩ ⟨_, rfl, hus.mono (by (repeat (first | assumption | refine Le.trans ?_ (by assumption : Le _ _))))⟩) ?_
    rintro z5 w5 _ hle5 hS5 rfl
    rw [(same_iff (s := S)).2 rfl]
    (repeat (first | refine V_run ?_ | refine Cond_f ?_ | refine K1 ?_))
    refine LoopG1 (fun (i : Nat) x w' => x = .int .i64 i ∧ i ≤ A.length ∧ ∃ z', Le z5 z' ∧ Res w z [] w' z' [(b8, .cells [.slice a5 S.length cap5, .slice aA2 A.length capA2, .slice aE2 E.length capE2, .int .i64 0].toArray 35 (0, 0)), (b4, .cells [.slice a3 S.length cap3].toArray 28 (0, 0))]) (fun i => A.length - i) 0 ⟨rfl, by omega, z5, Le.refl _, by assumption⟩ ?_
    rintro I M i x w6 m ⟨rfl, h2, z6, hz6, hS6⟩ back
    (repeat (refine V_run ?_))
    refine Cond_d (fun hi => ?_) (fun hi => ?_)
    · have hlt : i < A.length := by omega
      have hlt2 : i < E.length := by omega
      obtain ⟨bA, oA, _, rfl, rfl, hatA⟩ := helA i _ (List.getElem?_eq_getElem hlt)
      obtain ⟨bA2, oA2, _, rfl, rfl, hatA2⟩ := helA2 i _ (List.getElem?_eq_getElem hlt)
      obtain ⟨bE, oE, _, rfl, rfl, hatE⟩ := helE i _ (List.getElem?_eq_getElem hlt2)
      obtain ⟨bE2, oE2, _, rfl, rfl, hatE2⟩ := helE2 i _ (List.getElem?_eq_getElem hlt2)
      haveI : InR (i : Int) A.length := ⟨by omega, by omega⟩
      haveI : InR (i : Int) E.length := ⟨by omega, by omega⟩
      haveI : InI ((i : Int) + 1) := ⟨by simp only [big] at hbA; omega⟩
      generalize A[i] = x1 at *
      generalize E[i] = x2 at *
      (repeat (first | (refine iDr ?_; intro _ _) | refine PV_run ?_ | (refine J1 ?_; intro _ _)))
      simp only [Int.toNat_natCast]
      refine zHV_ldN (hatA.mono (by (repeat (first | assumption | refine Le.trans ?_ (by assumption : Le _ _))))) rfl ?_
      (repeat (first | refine PV_run ?_ | refine iHV_1 ?_))
      simp only [Int.toNat_natCast]
      refine zHV_ldN (hatA2.mono (by (repeat (first | assumption | refine Le.trans ?_ (by assumption : Le _ _))))) rfl ?_
      dsimp only [AcM.cells]
      (repeat (refine PV_run ?_))
      refine Cond_not (by simp) ?_
      (repeat (refine PV_run ?_))
      simp only [Int.toNat_natCast]
      refine zHV_ld1 (hatE.mono (by (repeat (first | assumption | refine Le.trans ?_ (by assumption : Le _ _))))) ?_
      (repeat (first | refine PV_run ?_ | refine iHV_1 ?_))
      simp only [Int.toNat_natCast]
      refine zHV_ld1 (hatE2.mono (by (repeat (first | assumption | refine Le.trans ?_ (by assumption : Le _ _))))) ?_
      (repeat (first | refine PV_run ?_ | refine K1 ?_))
      refine Cond_not (by simp) ?_
      (repeat (refine V_run ?_))
      exact back (i + 1) _ _ ⟨rfl, by omega, z6, hz6, by assumption⟩ (by omega)
    · (repeat (refine CV_pu ?_; intro _ _ _ _))
      exact ⟨_, _, ‹_›, rfl⟩)
end Go.Proofs.Ytjnckainogpenaa
end
