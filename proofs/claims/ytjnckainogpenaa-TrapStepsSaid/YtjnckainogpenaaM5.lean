/- Texts joined: T53. -/
import Derived.Test.YtjnckainogpenaaM4
section
/- The law TrapSteps, walked. -/
set_option linter.unusedVariables false
set_option linter.unusedSimpArgs false
set_option maxRecDepth 20000
set_option synthInstance.maxHeartbeats 400000
set_option synthInstance.maxSize 4000
namespace Go.Proofs.Ytjnckainogpenaa
open Go Q Go.RowKit

theorem doneM_noAct {s : StM} {o : OpM} {conds : List Int} (h : (opM s o).a = noAct) : (doneM s o conds).a = noAct := by
  rw [doneM]
  split
  · rfl
  · split
    · rfl
    · exact h
theorem set_a {s : StM} {c m : Int} {t : ByteArray} {conds : List Int} : (doneM s (setO c m t) conds).a = noAct := doneM_noAct (by
  by_cases h : setOk c m t = true <;> simp [opM, setO, h])
theorem call_a {s : StM} {conds : List Int} : (doneM s callO conds).a = noAct := doneM_noAct (by
  by_cases h : s.length = 30 <;> simp [opM, callO, h])
theorem back_a {s : StM} {conds : List Int} : (doneM s backO conds).a = noAct := doneM_noAct (by
  by_cases h : s.length - 1 = 0 <;> simp [opM, backO, h])
theorem DoneR.mono {z z' : Z} {r : Value} {m : StepM} (h : DoneR z r m) (hz : Le z z') : DoneR z' r m := let ⟨u, h1, h2⟩ := h; ⟨u, h1, h2.mono hz⟩
theorem agrees0 {v d : Value} {m : StepM} {z : Z} {w : World} (hs : StR z v m.s) (hd : DoneR z d m) (ha : m.a = noAct) : Fn1 24 #[v, .agg #[.int .i64 0, .string ⟨#[]⟩, .int .i64 0, .string ⟨#[]⟩], .int .i64 m.e, d] z w fun _ r => r = .bool true := by
  have := agreesP (w := w) hs hd
  rw [ha] at this
  exact this
set_option maxHeartbeats 4000000 in
theorem lawSteps {v : Value} {s : StM} {c mode : Int} {text : ByteArray} {z : Z} {w : World} (hs : StR z v s) (ht : text.size ≤ big) : Fn1 5 #[v, .int .i64 c, .int .i64 mode, .string text] z w fun _ r => r = .bool true := Fn1.intro fun hS => en5 (by
  unfold vc5
  obtain ⟨u0, rfl, hu0⟩ := hs
  obtain ⟨_, a0, cap0, rfl, _, hel0⟩ := id hu0.form
  refine iV_bx ?_
  intro b4 w4 hb4 hS4
  (repeat (refine iV_ldN ?_))
  refine CV_1 (smallP ⟨_, rfl, hu0.mono (by (repeat (exact Le.refl _)))⟩) ?_
  rintro z5 w5 _ hle5 hS5 ⟨b, rfl⟩
  (repeat (first | refine V_run ?_ | refine JB ?_))
  refine Cond_b (fun hq => ?_) (fun hq => ?_)
  · (repeat (refine CV_pu ?_; intro _ _ _ _))
    exact ⟨_, _, ‹_›, rfl⟩
  (repeat (first | refine iV_ldN ?_ | (refine iV_bx ?_; intro _ _ _ _)))
  have hR1 : ∀ z v w, StR z v s → Fn1 25 #[v, .int .i64 c, .int .i64 mode, .string text] z w fun z' r => DoneR z' r (doneM s (setO c mode text) [c]) := fun z v w h => refSet h ht
  have hP1 : ∀ z v w, StR z v s → Fn1 21 #[v, .int .i64 c, .int .i64 mode, .string text] z w fun z' r => StepR2 z' r (doneM s (setO c mode text) [c]) := fun z v w h => SetP h ht
  have ha1 : (doneM s (setO c mode text) [c]).a = noAct := set_a
  have hR2 : ∀ z v w, StR z v s → Fn1 26 #[v, .int .i64 c, .string text] z w fun z' r => DoneR z' r (doneM s (raiseO c text) [c]) := fun z v w h => refRaise h ht
  have hP2 : ∀ z v w, StR z v s → Fn1 22 #[v, .int .i64 c, .string text] z w fun z' r => StepR z' r (doneM s (raiseO c text) [c]) := fun z v w h => RaiseP h ht
  have hR3 : ∀ z v w, StR z v s → Fn1 27 #[v] z w fun z' r => DoneR z' r (doneM s endO []) := fun z v w h => refEnd h
  have hP3 : ∀ z v w, StR z v s → Fn1 18 #[v] z w fun z' r => StepR z' r (doneM s endO []) := fun z v w h => EndClauseP h
  have hR4 : ∀ z v w, StR z v s → Fn1 28 #[v] z w fun z' r => DoneR z' r (doneM s callO []) := fun z v w h => refCall h
  have hP4 : ∀ z v w, StR z v s → Fn1 23 #[v] z w fun z' r => StepR2 z' r (doneM s callO []) := fun z v w h => CallP h
  have ha4 : (doneM s callO []).a = noAct := call_a
  have hR5 : ∀ z v w, StR z v s → Fn1 29 #[v] z w fun z' r => DoneR z' r (doneM s backO []) := fun z v w h => refReturn h
  have hP5 : ∀ z v w, StR z v s → Fn1 19 #[v] z w fun z' r => StepR2 z' r (doneM s backO []) := fun z v w h => ReturnP h
  have ha5 : (doneM s backO []).a = noAct := back_a
  generalize doneM s (setO c mode text) [c] = m1 at *
  generalize doneM s (raiseO c text) [c] = m2 at *
  generalize doneM s endO [] = m3 at *
  generalize doneM s callO [] = m4 at *
  generalize doneM s backO [] = m5 at *
  refine CV_1 (hP1 _ _ _ ⟨_, rfl, hu0.mono (by (repeat (assumption)))⟩) ?_
  rintro z6 w6 _ hle6 hS6 ⟨_, rfl, u6, rfl, hu6⟩
  obtain ⟨_, a6, cap6, rfl, _, _⟩ := id hu6.form
  (repeat (first | refine V_run ?_ | refine iV_ldN ?_ | (refine iV_bx ?_; intro _ _ _ _) | (refine iU_st ?_; intro _ _)))
  refine CV_1 (hP2 _ _ _ ⟨_, rfl, hu0.mono (by (repeat (exact Res.zle (by assumption))))⟩) ?_
  rintro z7 w7 _ hle7 hS7 ⟨_, rfl, u7, rfl, hu7⟩
  obtain ⟨_, a7, cap7, rfl, _, _⟩ := id hu7.form
  dsimp only [AcM.v] at *
  (repeat (first | refine V_run ?_ | refine iV_ldN ?_ | (refine iV_bx ?_; intro _ _ _ _) | (refine iU_st ?_; intro _ _)))
  refine CV_1 (hP3 _ _ _ ⟨_, rfl, hu0.mono (by (repeat (exact Res.zle (by assumption))))⟩) ?_
  rintro z8 w8 _ hle8 hS8 ⟨_, rfl, u8, rfl, hu8⟩
  obtain ⟨_, a8, cap8, rfl, _, _⟩ := id hu8.form
  dsimp only [AcM.v] at *
  (repeat (first | refine V_run ?_ | refine iV_ldN ?_ | (refine iV_bx ?_; intro _ _ _ _) | (refine iU_st ?_; intro _ _)))
  refine CV_1 (hP4 _ _ _ ⟨_, rfl, hu0.mono (by (repeat (exact Res.zle (by assumption))))⟩) ?_
  rintro z9 w9 _ hle9 hS9 ⟨_, rfl, u9, rfl, hu9⟩
  obtain ⟨_, a9, cap9, rfl, _, _⟩ := id hu9.form
  (repeat (first | refine V_run ?_ | refine iV_ldN ?_ | (refine iV_bx ?_; intro _ _ _ _) | (refine iU_st ?_; intro _ _)))
  refine CV_1 (hP5 _ _ _ ⟨_, rfl, hu0.mono (by (repeat (exact Res.zle (by assumption))))⟩) ?_
  rintro z10 w10 _ hle10 hS10 ⟨_, rfl, u10, rfl, hu10⟩
  obtain ⟨_, a10, cap10, rfl, _, _⟩ := id hu10.form
  (repeat (first | (refine iDr ?_; intro _ _) | refine V_run ?_ | (refine iV_bx ?_; intro _ _ _ _) | (refine iU_st ?_; intro _ _) | refine iHV_N ?_ | (refine J1 ?_; intro _ _)))
  refine CV_1 (hR1 _ _ _ ⟨_, rfl, hu0.mono (by (repeat (exact Res.zle (by assumption))))⟩) ?_
  rintro z12 w12 d1 hle12 hS12 hd1
  refine iRI_N ?_
  refine iRI_N ?_
  refine CV_1 (agrees0 ⟨_, rfl, hu6.mono (by (repeat (first | assumption | refine Le.trans ?_ (by assumption : Le _ _))))⟩ hd1 ha1) ?_
  rintro z13 w13 _ hle13 hS13 rfl
  (repeat (first | refine iHV_N ?_ | refine Cond_t ?_))
  refine CV_1 (hR2 _ _ _ ⟨_, rfl, hu0.mono (by (repeat (exact Res.zle (by assumption))))⟩) ?_
  rintro z14 w14 d2 hle14 hS14 hd2
  refine iRI_N ?_
  refine iRI_N ?_
  refine CV_1 (agreesP ⟨_, rfl, hu7.mono (by (repeat (first | assumption | refine Le.trans ?_ (by assumption : Le _ _))))⟩ hd2) ?_
  rintro z15 w15 _ hle15 hS15 rfl
  (repeat (first | refine iHV_N ?_ | refine Cond_t ?_))
  refine CV_1 (hR3 _ _ _ ⟨_, rfl, hu0.mono (by (repeat (exact Res.zle (by assumption))))⟩) ?_
  rintro z16 w16 d3 hle16 hS16 hd3
  refine iRI_N ?_
  refine iRI_N ?_
  refine CV_1 (agreesP ⟨_, rfl, hu8.mono (by (repeat (first | assumption | refine Le.trans ?_ (by assumption : Le _ _))))⟩ hd3) ?_
  rintro z17 w17 _ hle17 hS17 rfl
  (repeat (first | (refine iDr ?_; intro _ _) | refine iHV_N ?_ | refine Cond_t ?_ | (refine J1 ?_; intro _ _) | refine K1 ?_ | (refine CV_pu ?_; intro _ _ _ _)))
  refine CV_1 (hR4 _ _ _ ⟨_, rfl, hu0.mono (by (repeat (exact Res.zle (by assumption))))⟩) ?_
  rintro z18 w18 d4 hle18 hS18 hd4
  refine iRI_N ?_
  refine iRI_N ?_
  refine CV_1 (agrees0 ⟨_, rfl, hu9.mono (by (repeat (first | assumption | refine Le.trans ?_ (by assumption : Le _ _))))⟩ hd4 ha4) ?_
  rintro z19 w19 _ hle19 hS19 rfl
  (repeat (first | refine iHV_N ?_ | refine Cond_t ?_))
  refine CV_1 (hR5 _ _ _ ⟨_, rfl, hu0.mono (by (repeat (exact Res.zle (by assumption))))⟩) ?_
  rintro z20 w20 d5 hle20 hS20 hd5
  refine iRI_N ?_
  refine iRI_N ?_
  refine CV_1 (agrees0 ⟨_, rfl, hu10.mono (by (repeat (first | assumption | refine Le.trans ?_ (by assumption : Le _ _))))⟩ hd5 ha5) ?_
  rintro z21 w21 _ hle21 hS21 rfl
  (repeat (refine K1 ?_))
  exact ⟨_, _, ‹_›, rfl⟩)
end Go.Proofs.Ytjnckainogpenaa
end
