/- The plain law of TrapCatches. -/
import Derived.Test.YtjnckainogpenaaT27
set_option linter.unusedVariables false
set_option maxRecDepth 20000
namespace Go.Proofs.Ytjnckainogpenaa
open Go Q Go.RowKit

theorem checkB_snoc {pre : StM} {f g : FrM} (h : checkB (pre ++ [f]) = true) (hg : framedB g = true) : checkB (pre ++ [g]) = true := by
  simp only [checkB, Bool.and_eq_true, decide_eq_true_eq, List.all_eq_true, List.length_append, List.length_singleton] at h ⊢
  refine ⟨h.1, fun x hx => ?_⟩
  rcases List.mem_append.1 hx with hx | hx
  · exact h.2 x (List.mem_append_left _ hx)
  · simp only [List.mem_singleton] at hx; subst hx; exact hg
theorem checkB_last {pre : StM} {f : FrM} (h : checkB (pre ++ [f]) = true) : framedB f = true := by
  simp only [checkB, Bool.and_eq_true, List.all_eq_true] at h
  exact h.2 f (by simp)
def catchLaw (s : StM) (c : Int) : AcM × Int :=
  let r := doneM s (raiseO c ⟨#[]⟩) [c]
  if r.e = 0 ∧ r.a.kind = 0 then ((doneM r.s endO []).a, (doneM r.s endO []).e) else (r.a, r.e)
theorem catches_law {s : StM} {c : Int} (hck : checkB s = true) (hp : (lastF s).pend = []) (h0 : 0 ≤ c) (h1 : c < 6) : catchM s c = catchLaw s c := by
  obtain ⟨pre, f, rfl, h6, hp4, hpre, hfd, hlast, hdl⟩ := lastSplit hck
  have ho : openE (pre ++ [f]) [c] = 0 := by simp [openE, hck, cond, h0, h1]
  have hd : descB ⟨#[]⟩ = true := by decide
  rw [hlast] at hp
  have hff : ({ f with pend := [] } : FrM) = f := by rw [← hp]
  have hop : opM (pre ++ [f]) (raiseO c ⟨#[]⟩) = ⟨0, raiseA f c ⟨#[]⟩, pre ++ [raiseF f c ⟨#[]⟩]⟩ := by
    simp only [opM, raiseO, hlast, hdl, hd, if_true, show ¬ ((2 : Int) = 1) by decide, if_false]
  have hdm : doneM (pre ++ [f]) (raiseO c ⟨#[]⟩) [c] = ⟨0, raiseA f c ⟨#[]⟩, pre ++ [raiseF f c ⟨#[]⟩]⟩ := by
    rw [doneM, if_neg (by simp [ho]), hop, if_neg (by simp)]
  have hck2 : checkB (pre ++ [raiseF f c ⟨#[]⟩]) = true := checkB_snoc hck (raiseF_ok hfd h0 h1 hd)
  have ho2 : openE (pre ++ [raiseF f c ⟨#[]⟩]) [] = 0 := by simp [openE, hck2]
  have hl2 : lastF (pre ++ [raiseF f c ⟨#[]⟩]) = raiseF f c ⟨#[]⟩ := by simp [lastF]
  have hop2 : opM (pre ++ [raiseF f c ⟨#[]⟩]) endO = ⟨(endM (pre.length + 1) (raiseF f c ⟨#[]⟩) (raiseF f c ⟨#[]⟩).pend).e, (endM (pre.length + 1) (raiseF f c ⟨#[]⟩) (raiseF f c ⟨#[]⟩).pend).a, pre ++ (endM (pre.length + 1) (raiseF f c ⟨#[]⟩) (raiseF f c ⟨#[]⟩).pend).top⟩ := by
    simp only [opM, endO, hl2, show ¬ ((3 : Int) = 1) by decide, show ¬ ((3 : Int) = 2) by decide, if_true, if_false]
    simp
  have hdm2 : ((doneM (pre ++ [raiseF f c ⟨#[]⟩]) endO []).a, (doneM (pre ++ [raiseF f c ⟨#[]⟩]) endO []).e) = ((endM (pre.length + 1) (raiseF f c ⟨#[]⟩) (raiseF f c ⟨#[]⟩).pend).a, (endM (pre.length + 1) (raiseF f c ⟨#[]⟩) (raiseF f c ⟨#[]⟩).pend).e) := by
    rw [doneM, if_neg (by simp [ho2]), hop2]
    by_cases he : (endM (pre.length + 1) (raiseF f c ⟨#[]⟩) (raiseF f c ⟨#[]⟩).pend).e = 0
    · rw [if_neg (by simp [he])]
    · rw [if_pos he]
      rw [endM_err he]
  simp only [catchLaw, hdm]
  rw [catchM, if_neg (by simp [ho])]
  simp only [hlast, hff, List.length_append, List.length_singleton]
  by_cases hk : (raiseA f c ⟨#[]⟩).kind = 0
  · rw [if_neg (by simp [hk]), if_pos (by simp [hk])]
    exact hdm2.symm
  · rw [if_pos hk, if_neg (by simp [hk])]
end Go.Proofs.Ytjnckainogpenaa
