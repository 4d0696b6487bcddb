/- Plain laws: every operation keeps a state valid. -/
import Derived.Test.YtjnckainogpenaaT28
set_option linter.unusedVariables false
set_option linter.unusedSimpArgs false
set_option maxRecDepth 20000
namespace Go.Proofs.Ytjnckainogpenaa
open Go Q Go.RowKit

theorem raOk_sub {had had' : List RaM} {r : RaM} (hs : ∀ x ∈ had', x ∈ had) (h : raOk had r = true) : raOk had' r = true := by
  simp only [raOk, Bool.and_eq_true, Bool.not_eq_true'] at h ⊢
  refine ⟨⟨h.1.1, ?_⟩, h.2⟩
  rw [List.any_eq_false] at *
  exact fun x hx => h.1.2 x (hs x hx)
theorem pendFrom_sub : ∀ {l had had' : List RaM}, (∀ x ∈ had', x ∈ had) → pendFrom had l = true → pendFrom had' l = true
  | [], _, _, _, _ => rfl
  | r :: l, had, had', hs, h => by
    simp only [pendFrom, Bool.and_eq_true] at h ⊢
    refine ⟨raOk_sub hs h.1, pendFrom_sub (fun x hx => ?_) h.2⟩
    rcases List.mem_append.1 hx with hx | hx
    · exact List.mem_append_left _ (hs x hx)
    · exact List.mem_append_right _ hx
theorem pendFrom_tail {r : RaM} {l : List RaM} (h : pendFrom [] (r :: l) = true) : raOk [] r = true ∧ pendFrom [] l = true := by
  simp only [pendFrom, Bool.and_eq_true] at h
  exact ⟨h.1, pendFrom_sub (fun x hx => by cases hx) h.2⟩
theorem raOk_facts {r : RaM} (h : raOk [] r = true) : 0 ≤ r.cond ∧ r.cond < 6 ∧ immediate r.cond = false ∧ descB r.desc = true := by
  have := (raOk_mem h).1
  simp only [raOk, Bool.and_eq_true, Bool.not_eq_true'] at h
  exact ⟨by omega, by omega, h.1.1.2, h.2⟩
theorem framedB_pend {f : FrM} {l : List RaM} (h : framedB f = true) (hl : pendFrom [] l = true) : framedB { f with pend := l } = true := by
  rw [framedB_parts] at h ⊢
  exact ⟨h.1, h.2.1, hl, h.2.2.2⟩
theorem endM_ok {n : Nat} {f : FrM} (h : framedB f = true) : ∀ {l : List RaM}, pendFrom [] l = true → (endM n f l).e = 0 → (endM n f l).top ≠ [] ∧ (∀ g ∈ (endM n f l).top, framedB g = true) ∧ ((endM n f l).top.length = 1 ∨ n ≠ 30 ∧ (endM n f l).top.length = 2)
  | [], hl, _ => by
    simp only [endM]
    exact ⟨by simp, fun g hg => by simp at hg; subst hg; exact framedB_pend h rfl, .inl rfl⟩
  | r :: l, hl, he => by
    obtain ⟨hr, hl'⟩ := pendFrom_tail hl
    obtain ⟨c0, c1, him, hd⟩ := raOk_facts hr
    simp only [endM] at he ⊢
    by_cases h1 : (f.tr r.cond).mode = 0 ∨ (f.tr r.cond).delayed = true
    · rw [if_pos h1] at he ⊢; exact endM_ok h hl' he
    · rw [if_neg h1] at he ⊢
      by_cases h2 : (f.tr r.cond).mode = 1
      · rw [if_pos h2] at he ⊢
        exact ⟨by simp, fun g hg => by simp at hg; subst hg; exact sigF_ok h c0 c1 hd, .inl rfl⟩
      · rw [if_neg h2] at he ⊢
        by_cases h3 : n = 30
        · rw [if_pos h3] at he; cases he
        · rw [if_neg h3] at he ⊢
          refine ⟨by simp [callF], fun g hg => ?_, .inr ⟨h3, rfl⟩⟩
          simp only [callF, List.mem_cons, List.not_mem_nil, or_false] at hg
          rcases hg with rfl | rfl
          · exact framedB_pend h hl'
          · have hto := tr_ok h c0 c1
            rw [framedB_parts] at h ⊢
            refine ⟨by simp [h.1], trapsFrom_set h.2.1 ?_, rfl, ?_⟩
            · rw [show (0 : Int) + (r.cond.toNat : Int) = r.cond by omega]
              simp only [not_or] at h1
              rw [trapOk, if_neg h1.1] at hto
              rw [trapOk, if_neg h1.1]
              simp only [Bool.and_eq_true] at hto
              have hmo := hto.1.1
              simp only [moded, Bool.or_eq_true, decide_eq_true_eq, Bool.and_eq_true] at hmo
              have hm2 : (f.tr r.cond).mode = 2 := by
                rcases hmo with (e | e) | e
                · exact absurd e h1.1
                · exact absurd e h2
                · exact e.1
              simp [hto.1.1, hto.1.2, hm2, moded, him]
            · simp [infoB, cond, c0, c1, hd]
theorem doneM_ok {s : StM} {o : OpM} {conds : List Int} (hk : 1 ≤ o.kind ∧ o.kind ≤ 5) (hc : o.kind = 1 ∨ o.kind = 2 → conds = [o.cond]) (he : (doneM s o conds).e = 0) : checkB s = true ∧ checkB (doneM s o conds).s = true := by
  have ho : openE s conds = 0 := by
    rw [doneM] at he
    by_cases h : openE s conds = 0
    · exact h
    · rw [if_pos h] at he; exact absurd he h
  have hck : checkB s = true := by
    simp only [openE] at ho
    cases hh : checkB s with
    | true => rfl
    | false => simp [hh] at ho
  refine ⟨hck, ?_⟩
  have he2 : (opM s o).e = 0 := by
    rw [doneM, if_neg (by simp [ho])] at he
    by_cases h : (opM s o).e = 0
    · exact h
    · rw [if_pos h] at he; exact absurd he h
  rw [doneM, if_neg (by simp [ho]), if_neg (by simp [he2])]
  have hcc : o.kind = 1 ∨ o.kind = 2 → 0 ≤ o.cond ∧ o.cond < 6 := fun h => by
    rw [hc h] at ho
    simp only [openE, hck, if_true, List.all_cons, List.all_nil, Bool.and_true] at ho
    cases hcd : cond o.cond with
    | false => simp [hcd] at ho
    | true => simpa [cond] using hcd
  obtain ⟨pre, f, rfl, h6, hp4, hpre, hfd, hlast, hdl⟩ := lastSplit hck
  have hpd := (framedB_parts.1 hfd).2.2.1
  have hall : ∀ g ∈ pre, framedB g = true := by
    simp only [checkB, Bool.and_eq_true, List.all_eq_true] at hck
    exact fun g hg => hck.2 g (List.mem_append_left _ hg)
  have build : ∀ top : StM, top ≠ [] → (∀ g ∈ top, framedB g = true) → pre.length + top.length ≤ 30 → checkB (pre ++ top) = true := fun top hne hg hlen => by
    have : 0 < top.length := List.length_pos_iff.2 hne
    simp only [checkB, Bool.and_eq_true, decide_eq_true_eq, List.all_eq_true, List.length_append]
    refine ⟨⟨by omega, hlen⟩, fun x hx => ?_⟩
    rcases List.mem_append.1 hx with hx | hx
    · exact hall x hx
    · exact hg x hx
  simp only [opM, hlast, hdl, List.length_append, List.length_singleton] at he2 ⊢
  by_cases k1 : o.kind = 1
  · have hcd := hcc (.inl k1)
    rw [if_pos k1] at he2 ⊢
    by_cases hok : setOk o.cond o.mode o.text = true
    · rw [if_pos hok]
      exact build _ (by simp) (fun g hg => by simp at hg; subst hg; exact setF_ok hfd hcd.1 hcd.2 hok) (by simp; omega)
    · rw [if_neg hok] at he2; cases he2
  rw [if_neg k1] at he2 ⊢
  by_cases k2 : o.kind = 2
  · have hcd := hcc (.inr k2)
    rw [if_pos k2] at he2 ⊢
    by_cases hok : descB o.text = true
    · rw [if_pos hok]
      exact build _ (by simp) (fun g hg => by simp at hg; subst hg; exact raiseF_ok hfd hcd.1 hcd.2 hok) (by simp; omega)
    · rw [if_neg hok] at he2; cases he2
  rw [if_neg k2] at he2 ⊢
  by_cases k3 : o.kind = 3
  · rw [if_pos k3] at he2 ⊢
    obtain ⟨h1, h2, h3⟩ := endM_ok hfd hpd he2
    exact build _ h1 h2 (by rcases h3 with h3 | ⟨h3, h4⟩ <;> omega)
  rw [if_neg k3] at he2 ⊢
  by_cases k4 : o.kind = 4
  · rw [if_pos k4] at he2 ⊢
    by_cases h30 : pre.length + 1 = 30
    · rw [if_pos h30] at he2; cases he2
    · rw [if_neg h30]
      have := build [f, pushF f] (by simp) (fun g hg => by simp at hg; rcases hg with rfl | rfl; exact hfd; exact pushF_ok hfd) (by simp; omega)
      simpa using this
  rw [if_neg k4] at he2 ⊢
  by_cases h0 : pre.length = 0
  · rw [if_pos h0] at he2; cases he2
  · rw [if_neg h0]
    simp only [checkB, Bool.and_eq_true, decide_eq_true_eq, List.all_eq_true]
    exact ⟨⟨by omega, by omega⟩, hall⟩
theorem newM_ok : checkB newM = true := by decide +kernel
theorem playFrom_ok : ∀ {l : List OpM} {s : StM}, checkB s = true → checkB (playFrom s l).1 = true
  | [], _, h => h
  | o :: l, s, h => by
    simp only [playFrom]
    apply playFrom_ok
    split
    · rename_i he
      rw [playStep] at he ⊢
      by_cases hk : 1 ≤ o.kind ∧ o.kind ≤ 5
      · rw [if_pos hk] at he ⊢
        exact (doneM_ok hk (fun hh => by rw [condsOf, if_pos hh]) he).2
      · rw [if_neg hk] at he; cases he
    · exact h
end Go.Proofs.Ytjnckainogpenaa
