/- Plain law of TrapRestores: operations keep the activations below. -/
import Derived.Test.YtjnckainogpenaaT33
set_option linter.unusedVariables false
set_option linter.unusedSimpArgs false
set_option maxRecDepth 20000
namespace Go.Proofs.Ytjnckainogpenaa
open Go Q Go.RowKit

theorem doneM_eq {s : StM} {o : OpM} {conds : List Int} (he : (doneM s o conds).e = 0) : doneM s o conds = opM s o ∧ (opM s o).e = 0 := by
  rw [doneM] at he ⊢
  by_cases h : openE s conds = 0
  · rw [if_neg (by simp [h])] at he ⊢
    by_cases h2 : (opM s o).e = 0
    · rw [if_neg (by simp [h2])]; exact ⟨rfl, h2⟩
    · rw [if_pos h2] at he; exact absurd he h2
  · rw [if_pos h] at he; exact absurd he h
theorem opM_keeps {s rest : StM} {o : OpM} (hr : rest ≠ []) (hck : checkB (s ++ rest) = true) (hk : 1 ≤ o.kind ∧ o.kind ≤ 5) (h5 : o.kind = 5 → 1 < rest.length) (he : (opM (s ++ rest) o).e = 0) : ∃ rest', rest' ≠ [] ∧ (opM (s ++ rest) o).s = s ++ rest' := by
  obtain ⟨rp, f, rfl⟩ : ∃ rp f, rest = rp ++ [f] := ⟨rest.dropLast, rest.getLast hr, (List.dropLast_concat_getLast hr).symm⟩
  rw [← List.append_assoc] at hck he ⊢
  have hl : lastF ((s ++ rp) ++ [f]) = f := by simp [lastF]
  have hd : ((s ++ rp) ++ [f]).dropLast = s ++ rp := by simp
  have hfd := (checkB_parts.1 hck).2.1
  simp only [opM, hl, hd] at he ⊢
  by_cases k1 : o.kind = 1
  · rw [if_pos k1] at he ⊢
    split at he
    · rename_i h; rw [if_pos h]; exact ⟨rp ++ [f.put o.cond (setT (f.tr o.cond) o.cond o.mode o.text)], by simp, by simp⟩
    · cases he
  rw [if_neg k1] at he ⊢
  by_cases k2 : o.kind = 2
  · rw [if_pos k2] at he ⊢
    split at he
    · rename_i h; rw [if_pos h]; exact ⟨rp ++ [raiseF f o.cond o.text], by simp, by simp⟩
    · cases he
  rw [if_neg k2] at he ⊢
  by_cases k3 : o.kind = 3
  · rw [if_pos k3] at he ⊢
    have := (endM_ok hfd (framedB_parts.1 hfd).2.2.1 he).1
    exact ⟨rp ++ (endM ((s ++ rp) ++ [f]).length f f.pend).top, fun e => this (List.append_eq_nil_iff.1 e).2, by simp⟩
  rw [if_neg k3] at he ⊢
  by_cases k4 : o.kind = 4
  · rw [if_pos k4] at he ⊢
    split at he
    · cases he
    · rename_i h; rw [if_neg h]; exact ⟨rp ++ [f] ++ [pushF f], by simp, by simp⟩
  rw [if_neg k4] at he ⊢
  have := h5 (by omega)
  split at he
  · cases he
  · rename_i h; rw [if_neg h]
    exact ⟨rp, by intro e; subst e; simp at this, rfl⟩
theorem doneM_keeps {s rest : StM} {o : OpM} {conds : List Int} (hr : rest ≠ []) (hck : checkB (s ++ rest) = true) (hk : 1 ≤ o.kind ∧ o.kind ≤ 5) (hc : o.kind = 1 ∨ o.kind = 2 → conds = [o.cond]) (h5 : o.kind = 5 → 1 < rest.length) (he : (doneM (s ++ rest) o conds).e = 0) : ∃ rest', rest' ≠ [] ∧ (doneM (s ++ rest) o conds).s = s ++ rest' ∧ checkB (s ++ rest') = true := by
  have h := doneM_eq he
  obtain ⟨r, h1, h2⟩ := opM_keeps hr hck hk h5 h.2
  have h3 := (doneM_ok hk hc he).2
  rw [h.1] at h3 ⊢
  rw [h2] at h3
  exact ⟨r, h1, h2, h3⟩
end Go.Proofs.Ytjnckainogpenaa
