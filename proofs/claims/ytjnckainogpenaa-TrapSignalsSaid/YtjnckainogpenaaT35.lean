/- Plain laws of TrapDelays and TrapSignals. -/
import Derived.Test.YtjnckainogpenaaT33
set_option linter.unusedVariables false
set_option linter.unusedSimpArgs false
set_option maxRecDepth 20000
namespace Go.Proofs.Ytjnckainogpenaa
open Go Q Go.RowKit

theorem tr_set {f : FrM} {c : Int} {t : TrM} (h6 : f.traps.length = 6) (h0 : 0 ≤ c) (h1 : c < 6) {p : List RaM} {i : InM} : FrM.tr ⟨f.traps.set c.toNat t, p, i⟩ c = t := by
  simp only [FrM.tr, List.getD_eq_getElem?_getD]
  rw [List.getElem?_set_self (by omega)]; rfl
theorem tr_set_ne {f : FrM} {c k : Int} {t : TrM} (h0 : 0 ≤ c) (h1 : 0 ≤ k) (h : c ≠ k) {p : List RaM} {i : InM} : FrM.tr ⟨f.traps.set c.toNat t, p, i⟩ k = f.tr k := by
  simp only [FrM.tr, List.getD_eq_getElem?_getD]
  rw [List.getElem?_set_ne (by omega)]
theorem raiseC_on {g : FrM} {c : Int} (hm : (g.tr c).mode ≠ 0) : raiseC g c = c := by
  rw [raiseC, if_neg]
  rintro ⟨rfl, h⟩
  exact hm h
theorem raise_delayed {g : FrM} {c : Int} (d : ByteArray) (hm : (g.tr c).mode ≠ 0) (hdl : (g.tr c).delayed = true) (him : immediate c = false) : raiseA g c d = noAct ∧ raiseF g c d = g := by
  simp only [raiseA, raiseF, raiseC_on hm, if_neg hm, him, hdl, Bool.true_or, Bool.false_eq_true, if_false, if_true]
  exact ⟨trivial, trivial⟩
theorem raise_new {g : FrM} {c : Int} (d : ByteArray) (hm : (g.tr c).mode ≠ 0) (hdl : (g.tr c).delayed = false) (him : immediate c = false) (hp : hasP g c = false) : raiseA g c d = noAct ∧ raiseF g c d = { g with pend := g.pend ++ [⟨c, d⟩] } := by
  simp only [raiseA, raiseF, raiseC_on hm, if_neg hm, him, hdl, hp, Bool.or_self, Bool.false_eq_true, if_false]
  exact ⟨trivial, trivial⟩
theorem pendFrom_ne {c : Int} : ∀ {l had : List RaM}, pendFrom had l = true → (∃ x ∈ had, x.cond = c) → ∀ y ∈ l, y.cond ≠ c
  | [], _, _, _ => fun _ hy => by cases hy
  | r :: l, had, h, ⟨x, hx, hc⟩ => fun y hy => by
    simp only [pendFrom, Bool.and_eq_true] at h
    rcases List.mem_cons.1 hy with rfl | hy
    · intro e
      have := (raOk_mem h.1).2
      rw [List.any_eq_false] at this
      have := this x hx
      simp [e, hc] at this
    · exact pendFrom_ne h.2 ⟨x, List.mem_append_left _ hx, hc⟩ y hy
theorem not_off {f : FrM} {r : RaM} (h : ¬ offT f r) : (f.tr r.cond).mode ≠ 0 ∧ (f.tr r.cond).delayed = false := by
  simp only [offT, not_or, Bool.not_eq_true] at h
  exact h
section
variable {pre : StM} {f : FrM} {l1 l2 : List RaM} {r : RaM}
theorem hasP_tail (hf : framedB f = true) (hl : f.pend = l1 ++ r :: l2) : hasP (callA f l2) r.cond = false := by
  have := (framedB_parts.1 hf).2.2.1
  rw [hl] at this
  have h2 : pendFrom [] (r :: l2) = true := pendFrom_app this
  simp only [pendFrom, Bool.and_eq_true] at h2
  have h3 := pendFrom_ne h2.2 ⟨r, by simp, rfl⟩
  simp only [hasP, callA, List.any_eq_false, decide_eq_true_eq]
  exact h3
theorem delays_law {d : ByteArray} (hck : checkB (pre ++ [f]) = true) (hl : f.pend = l1 ++ r :: l2) (h2 : ¬ offT f r) (hck2 : checkB ((pre ++ [callA f l2]) ++ [callB f r]) = true) (hck3 : checkB (pre ++ [callA f l2]) = true) (hd : descB d = true) :
    doneM ((pre ++ [callA f l2]) ++ [callB f r]) (raiseO r.cond d) [r.cond] = ⟨0, noAct, (pre ++ [callA f l2]) ++ [callB f r]⟩ ∧
    condM ((pre ++ [callA f l2]) ++ [callB f r]) 83 = (wDelay, 0) ∧ condM ((pre ++ [callA f l2]) ++ [callB f r]) 68 = (r.desc, 0) ∧
    doneM (pre ++ [callA f l2]) (raiseO r.cond d) [r.cond] = ⟨0, noAct, pre ++ [{ callA f l2 with pend := l2 ++ [⟨r.cond, d⟩] }]⟩ := by
  have hfd := (checkB_parts.1 hck).2.1
  obtain ⟨c0, c1, him, hds, hpl⟩ := pend_facts hfd hl
  obtain ⟨hm, hdl⟩ := not_off h2
  have h6 := (framedB_parts.1 hfd).1
  have htr : (callB f r).tr r.cond = { f.tr r.cond with delayed := true } := tr_set h6 c0 c1
  have hr := raise_delayed (g := callB f r) d (by rw [htr]; exact hm) (by rw [htr]) him
  have hr2 := raise_new (g := callA f l2) d hm hdl him (hasP_tail hfd hl)
  have hlast : lastF ((pre ++ [callA f l2]) ++ [callB f r]) = callB f r := by simp [lastF]
  refine ⟨?_, ?_, ?_, ?_⟩
  · rw [raiseStep hck2 c0 c1, if_pos hd, hr.1, hr.2]
  · rw [condM, if_neg (by simp only [hck2]; decide), if_neg (by decide), hlast, if_neg (by simp [callB])]
    have : tellM (callB f r) 83 = wDelay := by
      simp only [tellM, show ¬ ((83 : Int) = 67) by decide, show ¬ ((83 : Int) = 68) by decide, show ¬ ((83 : Int) = 73) by decide, if_false]
      show stateM ((callB f r).tr r.cond) = wDelay
      rw [htr, stateM, if_neg hm]; rfl
    rw [this]
  · rw [condM, if_neg (by simp only [hck2]; decide), if_neg (by decide), hlast, if_neg (by simp [callB])]
    rfl
  · rw [raiseStep hck3 c0 c1, if_pos hd, hr2.1, hr2.2]; rfl
/-! ### Signals -/
/-- A condition is signalled. -/
def SigM (pre : StM) (f : FrM) (k : Int) (d : ByteArray) (m : StepM) : Prop := m = ⟨0, sigA f k d, pre ++ [sigF f k d]⟩ ∧ 0 ≤ k ∧ k < 6 ∧ descB d = true
theorem sig_raise {c : Int} {d : ByteArray} (hck : checkB (pre ++ [f]) = true) (h0 : 0 ≤ c) (h1 : c < 6) (he : (doneM (pre ++ [f]) (raiseO c d) [c]).e = 0) (hk : (doneM (pre ++ [f]) (raiseO c d) [c]).a.kind = 1) : ∃ k d', SigM pre f k d' (doneM (pre ++ [f]) (raiseO c d) [c]) := by
  rw [raiseStep hck h0 h1] at he hk ⊢
  have hrc : 0 ≤ raiseC f c ∧ raiseC f c < 6 := by unfold raiseC; split <;> omega
  by_cases hd : descB d = true
  · rw [if_pos hd] at hk ⊢
    refine ⟨raiseC f c, d, ?_, hrc.1, hrc.2, hd⟩
    simp only [raiseA, raiseF] at hk ⊢
    by_cases h3 : (f.tr (raiseC f c)).mode = 0
    · rw [if_pos h3] at hk; split at hk <;> cases hk
    · rw [if_neg h3] at hk ⊢
      rw [if_neg h3]
      by_cases h4 : immediate (raiseC f c) = true
      · rw [if_pos h4, if_pos h4]
      · rw [if_neg h4] at hk; cases hk
  · rw [if_neg hd] at hk; cases hk
theorem sig_end (hck : checkB (pre ++ [f]) = true) (he : (doneM (pre ++ [f]) endO []).e = 0) (hk : (doneM (pre ++ [f]) endO []).a.kind = 1) : ∃ k d', SigM pre f k d' (doneM (pre ++ [f]) endO []) := by
  have hec := endC hck
  generalize doneM (pre ++ [f]) endO [] = m at *
  cases hec with
  | none h1 hm => subst hm; cases hk
  | full l1 l2 r h0 h1 h2 h3 h4 hm => subst hm; cases he
  | call l1 l2 r h0 h1 h2 h3 h4 hm => subst hm; cases hk
  | sig l1 l2 r h0 h1 h2 h3 hm =>
    obtain ⟨c0, c1, him, hds, hpl⟩ := pend_facts (checkB_parts.1 hck).2.1 h0
    exact ⟨r.cond, r.desc, hm, c0, c1, hds⟩
theorem signals_law {k : Int} {d : ByteArray} (hck : checkB (pre ++ [f]) = true) (h0 : 0 ≤ k) (h1 : k < 6) (hd : descB d = true) :
    checkB (pre ++ [sigF f k d]) = true ∧ (sigF f k d).tr k = noTrap ∧ condM (pre ++ [sigF f k d]) 67 = (nameOf k, 0) ∧ condM (pre ++ [sigF f k d]) 83 = (wOff, 0) ∧
    (k ≠ 1 → doneM (pre ++ [sigF f k d]) (raiseO k d) [k] = ⟨0, if k = 5 ∨ k = 2 then ⟨3, ⟨#[]⟩, k, d⟩ else noAct, pre ++ [sigF f k d]⟩) := by
  obtain ⟨p1, p2, p3⟩ := checkB_parts.1 hck
  have h6 := (framedB_parts.1 p2).1
  have hck2 : checkB (pre ++ [sigF f k d]) = true := checkB_parts.2 ⟨p1, sigF_ok p2 h0 h1 hd, p3⟩
  have htr : (sigF f k d).tr k = noTrap := tr_set h6 h0 h1
  have hlast : lastF (pre ++ [sigF f k d]) = sigF f k d := by simp [lastF]
  refine ⟨hck2, htr, ?_, ?_, fun hk => ?_⟩
  · rw [condM, if_neg (by simp only [hck2]; decide), if_neg (by decide), hlast, if_neg (by simp [sigF])]
    rfl
  · rw [condM, if_neg (by simp only [hck2]; decide), if_neg (by decide), hlast, if_neg (by simp [sigF])]
    have : tellM (sigF f k d) 83 = wOff := by
      simp only [tellM, show ¬ ((83 : Int) = 67) by decide, show ¬ ((83 : Int) = 68) by decide, show ¬ ((83 : Int) = 73) by decide, if_false]
      show stateM ((sigF f k d).tr k) = wOff
      rw [htr]; rfl
    rw [this]
  · have hrc : raiseC (sigF f k d) k = k := by rw [raiseC, if_neg (fun h => hk h.1)]
    rw [raiseStep hck2 h0 h1, if_pos hd]
    simp only [raiseA, raiseF, hrc, htr, show noTrap.mode = 0 from rfl, if_true]
end
end Go.Proofs.Ytjnckainogpenaa
