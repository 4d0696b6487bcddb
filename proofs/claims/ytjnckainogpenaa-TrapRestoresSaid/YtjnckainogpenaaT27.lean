/- Plain laws: what operations keep. -/
import Derived.Test.YtjnckainogpenaaT26
set_option linter.unusedVariables false
set_option maxRecDepth 20000
namespace Go.Proofs.Ytjnckainogpenaa
open Go Q Go.RowKit

theorem trapsFrom_set {t : TrM} : ∀ {l : List TrM} {i : Int} {k : Nat}, trapsFrom i l = true → trapOk (i + k) t = true → trapsFrom i (l.set k t) = true
  | [], _, _, _, _ => rfl
  | x :: l, i, 0, h, ht => by
    simp only [trapsFrom, Bool.and_eq_true, List.set_cons_zero] at h ⊢
    exact ⟨by simpa using ht, h.2⟩
  | x :: l, i, k + 1, h, ht => by
    simp only [trapsFrom, Bool.and_eq_true, List.set_cons_succ] at h ⊢
    exact ⟨h.1, trapsFrom_set h.2 (by rw [show i + 1 + (k : Int) = i + ((k + 1 : Nat) : Int) by omega]; exact ht)⟩
theorem trapOk_no {i : Int} : trapOk i noTrap = true := by simp [trapOk, noTrap, TrM.eqb]
theorem pendFrom_snoc {r : RaM} : ∀ {l had : List RaM}, pendFrom had l = true → raOk (had ++ l) r = true → pendFrom had (l ++ [r]) = true
  | [], had, _, hr => by simpa [pendFrom] using hr
  | x :: l, had, h, hr => by
    simp only [pendFrom, Bool.and_eq_true, List.cons_append] at h ⊢
    exact ⟨h.1, pendFrom_snoc h.2 (by simpa using hr)⟩
theorem framedB_parts {f : FrM} : framedB f = true ↔ f.traps.length = 6 ∧ trapsFrom 0 f.traps = true ∧ pendFrom [] f.pend = true ∧ infoB f.info = true := by
  simp only [framedB, Bool.and_eq_true, decide_eq_true_eq, and_assoc]
theorem sigF_ok {f : FrM} {c : Int} {d : ByteArray} (h : framedB f = true) (h0 : 0 ≤ c) (h1 : c < 6) (hd : descB d = true) : framedB (sigF f c d) = true := by
  rw [framedB_parts] at h ⊢
  refine ⟨by simp [sigF, h.1], trapsFrom_set h.2.1 trapOk_no, rfl, ?_⟩
  simp [infoB, sigF, cond, h0, h1, hd]
theorem raiseF_ok {f : FrM} {c : Int} {d : ByteArray} (h : framedB f = true) (h0 : 0 ≤ c) (h1 : c < 6) (hd : descB d = true) : framedB (raiseF f c d) = true := by
  have hrc : 0 ≤ raiseC f c ∧ raiseC f c < 6 := by unfold raiseC; split <;> omega
  unfold raiseF
  split
  · exact h
  · split
    · exact sigF_ok h hrc.1 hrc.2 hd
    · split
      · exact h
      · rename_i h3 h4 h5
        rw [framedB_parts] at h ⊢
        refine ⟨h.1, h.2.1, pendFrom_snoc h.2.2.1 ?_, h.2.2.2⟩
        simp only [Bool.or_eq_true, not_or, Bool.not_eq_true] at h5
        have hp := h5.2
        simp only [hasP] at hp
        have e : (f.pend.any fun x => x.cond == raiseC f c) = f.pend.any fun x => decide (x.cond = raiseC f c) := by congr 1
        simp only [raOk, List.nil_append, e, hp, hd, cond]
        simp [hrc.1, hrc.2, h4]
theorem pushF_ok {f : FrM} (h : framedB f = true) : framedB (pushF f) = true := by
  rw [framedB_parts] at h ⊢
  exact ⟨h.1, h.2.1, rfl, h.2.2.2⟩
theorem trapsFrom_get : ∀ {l : List TrM} {i : Int} {k : Nat} {t : TrM}, trapsFrom i l = true → l[k]? = some t → trapOk (i + k) t = true
  | x :: l, i, 0, t, h, hk => by
    simp only [trapsFrom, Bool.and_eq_true] at h
    simp at hk; subst hk
    simpa using h.1
  | x :: l, i, k + 1, t, h, hk => by
    simp only [trapsFrom, Bool.and_eq_true] at h
    have := trapsFrom_get h.2 (by simpa using hk)
    rw [show i + ((k + 1 : Nat) : Int) = i + 1 + (k : Int) by omega]; exact this
theorem tr_ok {f : FrM} {c : Int} (h : framedB f = true) (h0 : 0 ≤ c) (h1 : c < 6) : trapOk c (f.tr c) = true := by
  rw [framedB_parts] at h
  have hlt : c.toNat < f.traps.length := by omega
  have hx : f.traps[c.toNat]? = some (f.tr c) := by rw [FrM.tr, List.getD_eq_getElem?_getD, List.getElem?_eq_getElem hlt]; rfl
  have := trapsFrom_get h.2.1 hx
  rwa [show (0 : Int) + (c.toNat : Int) = c by omega] at this
theorem setF_ok {f : FrM} {c m : Int} {t : ByteArray} (h : framedB f = true) (h0 : 0 ≤ c) (h1 : c < 6) (hok : setOk c m t = true) : framedB (f.put c (setT (f.tr c) c m t)) = true := by
  have hn : ∀ n : Nat, n < 6 → labB (nmB.getD n ⟨#[]⟩) = true := by decide +kernel
  have hname : labB (nameOf c) = true := hn c.toNat (by omega)
  simp only [setOk, Bool.and_eq_true, Bool.or_eq_true, decide_eq_true_eq] at hok
  rw [framedB_parts] at h ⊢
  refine ⟨by simp [FrM.put, h.1], trapsFrom_set h.2.1 ?_, h.2.2.1, h.2.2.2⟩
  rw [show (0 : Int) + (c.toNat : Int) = c by omega]
  unfold setT
  split
  · exact trapOk_no
  · rename_i hm
    rw [trapOk, if_neg hm]
    have hl : labB (if t = ⟨#[]⟩ then nameOf c else t) = true := by
      split
      · exact hname
      · rename_i ht; rcases hok.2 with e | e
        · exact absurd e ht
        · exact e
    simp only [hok.1, hl, Bool.true_and]
    cases decide (m = 2) <;> cases (f.tr c).delayed <;> rfl
end Go.Proofs.Ytjnckainogpenaa
