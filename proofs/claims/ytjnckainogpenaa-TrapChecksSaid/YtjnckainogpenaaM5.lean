/- Texts joined: T53, T55. -/
import Derived.Test.YtjnckainogpenaaM4
section
/- The law TrapSteps, walked. -/
set_option linter.unusedVariables false
set_option linter.unusedSimpArgs false
set_option maxRecDepth 20000
set_option synthInstance.maxHeartbeats 400000
set_option synthInstance.maxSize 4000
namespace Go.Proofs.Ytjnckainogpenaa
open Go Q Go.RowKit

theorem doneM_noAct {s : StM} {o : OpM} {conds : List Int} (h : (opM s o).a = noAct) : (doneM s o conds).a = noAct := by
  rw [doneM]
  split
  · rfl
  · split
    · rfl
    · exact h
theorem set_a {s : StM} {c m : Int} {t : ByteArray} {conds : List Int} : (doneM s (setO c m t) conds).a = noAct := doneM_noAct (by
  by_cases h : setOk c m t = true <;> simp [opM, setO, h])
theorem call_a {s : StM} {conds : List Int} : (doneM s callO conds).a = noAct := doneM_noAct (by
  by_cases h : s.length = 30 <;> simp [opM, callO, h])
theorem back_a {s : StM} {conds : List Int} : (doneM s backO conds).a = noAct := doneM_noAct (by
  by_cases h : s.length - 1 = 0 <;> simp [opM, backO, h])
theorem DoneR.mono {z z' : Z} {r : Value} {m : StepM} (h : DoneR z r m) (hz : Le z z') : DoneR z' r m := let ⟨u, h1, h2⟩ := h; ⟨u, h1, h2.mono hz⟩
theorem agrees0 {v d : Value} {m : StepM} {z : Z} {w : World} (hs : StR z v m.s) (hd : DoneR z d m) (ha : m.a = noAct) : Fn1 24 #[v, .agg #[.int .i64 0, .string ⟨#[]⟩, .int .i64 0, .string ⟨#[]⟩], .int .i64 m.e, d] z w fun _ r => r = .bool true := by
  have := agreesP (w := w) hs hd
  rw [ha] at this
  exact this
set_option maxHeartbeats 4000000 in
theorem lawSteps {v : Value} {s : StM} {c mode : Int} {text : ByteArray} {z : Z} {w : World} (hs : StR z v s) (ht : text.size ≤ big) : Fn1 5 #[v, .int .i64 c, .int .i64 mode, .string text] z w fun _ r => r = .bool true := Fn1.intro fun hS => en5 (by
  unfold vc5
  obtain ⟨u0, rfl, hu0⟩ := hs
  obtain ⟨_, a0, cap0, rfl, _, hel0⟩ := id hu0.form
  refine iV_bx ?_
  intro b4 w4 hb4 hS4
  (repeat (refine iV_ldN ?_))
  refine CV_1 (smallP ⟨_, rfl, hu0.mono (by (repeat (exact Le.refl _)))⟩) ?_
  rintro z5 w5 _ hle5 hS5 ⟨b, rfl⟩
  (repeat (first | refine V_run ?_ | refine JB ?_))
  refine Cond_b (fun hq => ?_) (fun hq => ?_)
  · (repeat (refine CV_pu ?_; intro _ _ _ _))
    exact ⟨_, _, ‹_›, rfl⟩
  (repeat (first | refine iV_ldN ?_ | (refine iV_bx ?_; intro _ _ _ _)))
  have hR1 : ∀ z v w, StR z v s → Fn1 25 #[v, .int .i64 c, .int .i64 mode, .string text] z w fun z' r => DoneR z' r (doneM s (setO c mode text) [c]) := fun z v w h => refSet h ht
  have hP1 : ∀ z v w, StR z v s → Fn1 21 #[v, .int .i64 c, .int .i64 mode, .string text] z w fun z' r => StepR2 z' r (doneM s (setO c mode text) [c]) := fun z v w h => SetP h ht
  have ha1 : (doneM s (setO c mode text) [c]).a = noAct := set_a
  have hR2 : ∀ z v w, StR z v s → Fn1 26 #[v, .int .i64 c, .string text] z w fun z' r => DoneR z' r (doneM s (raiseO c text) [c]) := fun z v w h => refRaise h ht
  have hP2 : ∀ z v w, StR z v s → Fn1 22 #[v, .int .i64 c, .string text] z w fun z' r => StepR z' r (doneM s (raiseO c text) [c]) := fun z v w h => RaiseP h ht
  have hR3 : ∀ z v w, StR z v s → Fn1 27 #[v] z w fun z' r => DoneR z' r (doneM s endO []) := fun z v w h => refEnd h
  have hP3 : ∀ z v w, StR z v s → Fn1 18 #[v] z w fun z' r => StepR z' r (doneM s endO []) := fun z v w h => EndClauseP h
  have hR4 : ∀ z v w, StR z v s → Fn1 28 #[v] z w fun z' r => DoneR z' r (doneM s callO []) := fun z v w h => refCall h
  have hP4 : ∀ z v w, StR z v s → Fn1 23 #[v] z w fun z' r => StepR2 z' r (doneM s callO []) := fun z v w h => CallP h
  have ha4 : (doneM s callO []).a = noAct := call_a
  have hR5 : ∀ z v w, StR z v s → Fn1 29 #[v] z w fun z' r => DoneR z' r (doneM s backO []) := fun z v w h => refReturn h
  have hP5 : ∀ z v w, StR z v s → Fn1 19 #[v] z w fun z' r => StepR2 z' r (doneM s backO []) := fun z v w h => ReturnP h
  have ha5 : (doneM s backO []).a = noAct := back_a
  generalize doneM s (setO c mode text) [c] = m1 at *
  generalize doneM s (raiseO c text) [c] = m2 at *
  generalize doneM s endO [] = m3 at *
  generalize doneM s callO [] = m4 at *
  generalize doneM s backO [] = m5 at *
  refine CV_1 (hP1 _ _ _ ⟨_, rfl, hu0.mono (by (repeat (assumption)))⟩) ?_
  rintro z6 w6 _ hle6 hS6 ⟨_, rfl, u6, rfl, hu6⟩
  obtain ⟨_, a6, cap6, rfl, _, _⟩ := id hu6.form
  (repeat (first | refine V_run ?_ | refine iV_ldN ?_ | (refine iV_bx ?_; intro _ _ _ _) | (refine iU_st ?_; intro _ _)))
  refine CV_1 (hP2 _ _ _ ⟨_, rfl, hu0.mono (by (repeat (exact Res.zle (by assumption))))⟩) ?_
  rintro z7 w7 _ hle7 hS7 ⟨_, rfl, u7, rfl, hu7⟩
  obtain ⟨_, a7, cap7, rfl, _, _⟩ := id hu7.form
  dsimp only [AcM.v] at *
  (repeat (first | refine V_run ?_ | refine iV_ldN ?_ | (refine iV_bx ?_; intro _ _ _ _) | (refine iU_st ?_; intro _ _)))
  refine CV_1 (hP3 _ _ _ ⟨_, rfl, hu0.mono (by (repeat (exact Res.zle (by assumption))))⟩) ?_
  rintro z8 w8 _ hle8 hS8 ⟨_, rfl, u8, rfl, hu8⟩
  obtain ⟨_, a8, cap8, rfl, _, _⟩ := id hu8.form
  dsimp only [AcM.v] at *
  (repeat (first | refine V_run ?_ | refine iV_ldN ?_ | (refine iV_bx ?_; intro _ _ _ _) | (refine iU_st ?_; intro _ _)))
  refine CV_1 (hP4 _ _ _ ⟨_, rfl, hu0.mono (by (repeat (exact Res.zle (by assumption))))⟩) ?_
  rintro z9 w9 _ hle9 hS9 ⟨_, rfl, u9, rfl, hu9⟩
  obtain ⟨_, a9, cap9, rfl, _, _⟩ := id hu9.form
  (repeat (first | refine V_run ?_ | refine iV_ldN ?_ | (refine iV_bx ?_; intro _ _ _ _) | (refine iU_st ?_; intro _ _)))
  refine CV_1 (hP5 _ _ _ ⟨_, rfl, hu0.mono (by (repeat (exact Res.zle (by assumption))))⟩) ?_
  rintro z10 w10 _ hle10 hS10 ⟨_, rfl, u10, rfl, hu10⟩
  obtain ⟨_, a10, cap10, rfl, _, _⟩ := id hu10.form
  (repeat (first | (refine iDr ?_; intro _ _) | refine V_run ?_ | (refine iV_bx ?_; intro _ _ _ _) | (refine iU_st ?_; intro _ _) | refine iHV_N ?_ | (refine J1 ?_; intro _ _)))
  refine CV_1 (hR1 _ _ _ ⟨_, rfl, hu0.mono (by (repeat (exact Res.zle (by assumption))))⟩) ?_
  rintro z12 w12 d1 hle12 hS12 hd1
  refine iRI_N ?_
  refine iRI_N ?_
  refine CV_1 (agrees0 ⟨_, rfl, hu6.mono (by (repeat (first | assumption | refine Le.trans ?_ (by assumption : Le _ _))))⟩ hd1 ha1) ?_
  rintro z13 w13 _ hle13 hS13 rfl
  (repeat (first | refine iHV_N ?_ | refine Cond_t ?_))
  refine CV_1 (hR2 _ _ _ ⟨_, rfl, hu0.mono (by (repeat (exact Res.zle (by assumption))))⟩) ?_
  rintro z14 w14 d2 hle14 hS14 hd2
  refine iRI_N ?_
  refine iRI_N ?_
  refine CV_1 (agreesP ⟨_, rfl, hu7.mono (by (repeat (first | assumption | refine Le.trans ?_ (by assumption : Le _ _))))⟩ hd2) ?_
  rintro z15 w15 _ hle15 hS15 rfl
  (repeat (first | refine iHV_N ?_ | refine Cond_t ?_))
  refine CV_1 (hR3 _ _ _ ⟨_, rfl, hu0.mono (by (repeat (exact Res.zle (by assumption))))⟩) ?_
  rintro z16 w16 d3 hle16 hS16 hd3
  refine iRI_N ?_
  refine iRI_N ?_
  refine CV_1 (agreesP ⟨_, rfl, hu8.mono (by (repeat (first | assumption | refine Le.trans ?_ (by assumption : Le _ _))))⟩ hd3) ?_
  rintro z17 w17 _ hle17 hS17 rfl
  (repeat (first | (refine iDr ?_; intro _ _) | refine iHV_N ?_ | refine Cond_t ?_ | (refine J1 ?_; intro _ _) | refine K1 ?_ | (refine CV_pu ?_; intro _ _ _ _)))
  refine CV_1 (hR4 _ _ _ ⟨_, rfl, hu0.mono (by (repeat (exact Res.zle (by assumption))))⟩) ?_
  rintro z18 w18 d4 hle18 hS18 hd4
  refine iRI_N ?_
  refine iRI_N ?_
  refine CV_1 (agrees0 ⟨_, rfl, hu9.mono (by (repeat (first | assumption | refine Le.trans ?_ (by assumption : Le _ _))))⟩ hd4 ha4) ?_
  rintro z19 w19 _ hle19 hS19 rfl
  (repeat (first | refine iHV_N ?_ | refine Cond_t ?_))
  refine CV_1 (hR5 _ _ _ ⟨_, rfl, hu0.mono (by (repeat (exact Res.zle (by assumption))))⟩) ?_
  rintro z20 w20 d5 hle20 hS20 hd5
  refine iRI_N ?_
  refine iRI_N ?_
  refine CV_1 (agrees0 ⟨_, rfl, hu10.mono (by (repeat (first | assumption | refine Le.trans ?_ (by assumption : Le _ _))))⟩ hd5 ha5) ?_
  rintro z21 w21 _ hle21 hS21 rfl
  (repeat (refine K1 ?_))
  exact ⟨_, _, ‹_›, rfl⟩)
end Go.Proofs.Ytjnckainogpenaa
end

section
/- The law TrapChecks, walked. -/
set_option linter.unusedVariables false
set_option linter.unusedSimpArgs false
set_option maxRecDepth 20000
set_option synthInstance.maxHeartbeats 400000
set_option synthInstance.maxSize 4000
namespace Go.Proofs.Ytjnckainogpenaa
open Go Q Go.RowKit

theorem nameOf_ne {c : Int} (h : cond c = true) : nameOf c ≠ ⟨#[]⟩ := by
  have hc : 0 ≤ c ∧ c < 6 := by simpa only [cond, Bool.and_eq_true, decide_eq_true_eq] using h
  have : c = 0 ∨ c = 1 ∨ c = 2 ∨ c = 3 ∨ c = 4 ∨ c = 5 := by omega
  rcases this with rfl | rfl | rfl | rfl | rfl | rfl <;> decide
theorem name_facts (c : Int) : ∃ (nm : ByteArray) (ne : Int), Pu 36 #[.int .i64 c] (.tuple #[.string nm, .int .i64 ne]) ∧ Pu 40 #[.int .i64 c] (.string nm) ∧ decide (ne = 0) = !decide (nm = ⟨#[]⟩) ∧ (ne = 0 ∨ ne = 1) := by
  have h1 : Pu 36 #[.int .i64 c] (if cond c then .tuple #[.string (nameOf c), .int .i64 0] else .tuple #[.string ⟨#[]⟩, .int .i64 1]) := inferInstance
  have h2 : Pu 40 #[.int .i64 c] (.string (if cond c then nameOf c else ⟨#[]⟩)) := inferInstance
  by_cases hc : cond c = true
  · rw [if_pos hc] at h1 h2
    exact ⟨_, _, h1, h2, by simp [nameOf_ne hc], .inl rfl⟩
  · rw [if_neg hc] at h1 h2
    exact ⟨_, _, h1, h2, by simp, .inr rfl⟩
set_option maxHeartbeats 4000000 in
theorem lawChecks {v v' : Value} {s t : StM} {c o : Int} {name : ByteArray} {z : Z} {w : World} (hs : StR z v s) (ht : StR z v' t) (hn : name.size ≤ big) : Fn1 11 #[v, v', .int .i64 c, .string name, .int .u8 o] z w fun _ r => r = .bool true := Fn1.intro fun hS => en11 (by
  unfold vc11
  obtain ⟨u0, rfl, hu0⟩ := hs
  obtain ⟨_, a0, cap0, rfl, _, _⟩ := id hu0.form
  obtain ⟨u1, rfl, hu1⟩ := ht
  obtain ⟨_, a1, cap1, rfl, _, _⟩ := id hu1.form
  refine iV_bx ?_
  intro b5 w5 hb5 hS5
  refine iV_bx ?_
  intro b6 w6 hb6 hS6
  (repeat (refine iV_ldN ?_))
  refine CV_1 (smallP ⟨_, rfl, hu0.mono (by (repeat (exact Le.refl _)))⟩) ?_
  rintro z7 w7 _ hle7 hS7 ⟨b1, rfl⟩
  (repeat (first | refine V_run ?_ | (refine J1 ?_; intro _ _)))
  rename_i K hJ
  have main : ∀ (b : Bool) z' w', Le z7 z' → Res w z [] w' z' [(b6, .cells [.slice a1 t.length cap1].toArray 28 (0, 0)), (b5, .cells [.slice a0 s.length cap0].toArray 28 (0, 0))] → K [.bool b] w' := by
    intro b z8 w8 hz8 hS8
    refine K1 ?_
    (repeat (refine JB ?_))
    refine Cond_b (fun hq => ?_) (fun hq => ?_)
    · (repeat (refine CV_pu ?_; intro _ _ _ _))
      exact ⟨_, _, ‹_›, rfl⟩
    obtain ⟨nm, ne, P1, P2, hn1, hn2⟩ := name_facts c
    haveI := P1
    haveI := P2
    have hPC : ∀ z v w, StR z v s → Fn1 34 #[v, .int .u8 o] z w fun _ r => r = .tuple #[.string (condM s o).1, .int .i64 (condM s o).2] := fun z v w h => ConditionP h
    have hRC : ∀ z v w, StR z v s → Fn1 38 #[v, .int .u8 o] z w fun _ r => r = textV (condM s o).1 (condM s o).2 := fun z v w h => refCondition h
    have hPK : ∀ z v w, StR z v s → Fn1 30 #[v, .int .i64 c] z w fun _ r => r = .tuple #[(catchM s c).1.v, .int .i64 (catchM s c).2] := fun z v w h => CatchesP h
    have hRK : ∀ z v w, StR z v s → Fn1 39 #[v, .int .i64 c] z w fun _ r => r = doneV (.slice none 0 0) (catchM s c).1 (catchM s c).2 := fun z v w h => refCatches h
    generalize condM s o = cm at *
    generalize catchM s c = km at *
    obtain ⟨ct, ce⟩ := cm
    obtain ⟨ka, ke⟩ := km
    simp only at hPC hRC hPK hRK
    dsimp only [AcM.v] at hPK
    obtain ⟨mn, me, hPN, hRN, hm⟩ : ∃ (mn me : Int), (∀ z w, Fn1 37 #[.string name] z w fun _ r => r = .tuple #[.int .i64 mn, .int .i64 me]) ∧ (∀ z w, Fn1 41 #[.string name] z w fun _ r => r = .int .i64 (numM name)) ∧ (numM name < 0 ∧ mn = 0 ∧ me = 1 ∨ ¬ numM name < 0 ∧ mn = numM name ∧ me = 0) := by
      by_cases h : numM name < 0
      · exact ⟨0, 1, fun z w => by have := NumberP (s := name) (z := z) (w := w); simpa only [h, if_true] using this, fun z w => refNumber, .inl ⟨h, rfl, rfl⟩⟩
      · exact ⟨numM name, 0, fun z w => by have := NumberP (s := name) (z := z) (w := w); simpa only [h, if_false] using this, fun z w => refNumber, .inr ⟨h, rfl, rfl⟩⟩
    generalize numM name = nn at *
    (repeat (first | refine V_run ?_ | (refine CV_pu ?_; intro _ _ _ _)))
    refine CV_1 (hPN _ _) ?_
    rintro z9 w9 _ hle9 hS9 rfl
    (repeat (first | refine V_run ?_ | refine iV_ldN ?_))
    refine CV_1 (hPC _ _ _ ⟨_, rfl, hu0.mono (by (repeat (exact Res.zle (by assumption))))⟩) ?_
    rintro z10 w10 _ hle10 hS10 rfl
    (repeat (first | refine V_run ?_ | refine iV_ldN ?_))
    refine CV_1 (hRC _ _ _ ⟨_, rfl, hu0.mono (by (repeat (exact Res.zle (by assumption))))⟩) ?_
    rintro z11 w11 _ hle11 hS11 rfl
    skip
    refine iV_al ?_
    intro b17 w17 hb17 hS17
    (repeat (first | refine iV_ldN ?_ | (refine iU_st ?_; intro _ _)))
    refine CV_1 (hPK _ _ _ ⟨_, rfl, hu0.mono (by (repeat (exact Res.zle (by assumption))))⟩) ?_
    rintro z12 w12 _ hle12 hS12 rfl
    (repeat (refine V_run ?_))
    refine iV_al ?_
    intro b18 w18 hb18 hS18
    (repeat (first | refine iV_ldN ?_ | (refine iU_st ?_; intro _ _)))
    refine CV_1 (hRK _ _ _ ⟨_, rfl, hu0.mono (by (repeat (exact Res.zle (by assumption))))⟩) ?_
    rintro z13 w13 _ hle13 hS13 rfl
    skip
    refine iV_al ?_
    intro b20 w20 hb20 hS20
    (repeat (first | (refine iU_st ?_; intro _ _) | (refine CV_pu ?_; intro _ _ _ _)))
    refine CV_1 (hRN _ _) ?_
    rintro z14 w14 _ hle14 hS14 rfl
    (repeat (first | (refine iDr ?_; intro _ _) | (refine J1 ?_; intro _ _)))
    rename_i K2 hJ2 wd hSd
    have fin : ∀ (b : Bool) z' w', b = false → Le z14 z' → Res w z [] w' z' [(b20, .cells (doneC (.slice none 0 0) ka ke).toArray 53 (0, 0)), (b18, .cells ka.cells.toArray 39 (0, 0)), (b17, .cells [.string ct, .int .i64 ce].toArray 86 (0, 0)), (b6, .cells [.slice a1 t.length cap1].toArray 28 (0, 0)), (b5, .cells [.slice a0 s.length cap0].toArray 28 (0, 0))] → K2 [.bool b] w' := by
      rintro b z15 w15 rfl hz15 hS15
      refine K1 ?_
      (repeat (first | refine V_run ?_ | refine Cond_f ?_))
      have hsy : ∀ z v v' w, StR z v s → StR z v' t → Fn1 35 #[v, v'] z w fun _ r => r = .bool (same s t) := fun z v v' w h h' => sameP h h'
      have hsr : ∀ z v v' w, StR z v s → StR z v' t → Fn1 15 #[v, v'] z w fun _ r => r = .bool (same s t) := fun z v v' w h h' => refSame h h'
      generalize same s t = sm at *
      refine Cond_d (fun hlt => ?_) (fun hlt => ?_)
      · obtain ⟨rfl, rfl⟩ : mn = 0 ∧ me = 1 := by
          rcases hm with ⟨_, h1, h2⟩ | ⟨h, _, _⟩
          · exact ⟨h1, h2⟩
          · exact absurd hlt h
        (repeat (first | (refine iDr ?_; intro _ _) | refine PV_run ?_ | refine iHV_N ?_ | refine Cond_t ?_ | (refine J1 ?_; intro _ _) | (refine CV_pu ?_; intro _ _ _ _)))
        refine CV_1 (hsy _ _ _ _ ⟨_, rfl, hu0.mono (by (repeat (exact Res.zle (by assumption))))⟩ ⟨_, rfl, hu1.mono (by (repeat (exact Res.zle (by assumption))))⟩) ?_
        rintro z20 w20 _ hle20 hS20 rfl
        refine iRI_N ?_
        refine iRI_N ?_
        refine CV_1 (hsr _ _ _ _ ⟨_, rfl, hu0.mono (by (repeat (exact Res.zle (by assumption))))⟩ ⟨_, rfl, hu1.mono (by (repeat (exact Res.zle (by assumption))))⟩) ?_
        rintro z21 w21 _ hle21 hS21 rfl
        (repeat (first | refine PV_run ?_ | refine K1 ?_))
        exact ⟨_, _, ‹_›, by simp⟩
      · obtain ⟨rfl, rfl⟩ : mn = nn ∧ me = 0 := by
          rcases hm with ⟨h, _, _⟩ | ⟨_, h1, h2⟩
          · exact absurd h hlt
          · exact ⟨h1, h2⟩
        (repeat (first | (refine iDr ?_; intro _ _) | refine PV_run ?_ | refine Cond_t ?_ | (refine J1 ?_; intro _ _) | (refine CV_pu ?_; intro _ _ _ _)))
        refine Cond_is (by simp) ?_
        (repeat (refine iHV_N ?_))
        refine CV_1 (hsy _ _ _ _ ⟨_, rfl, hu0.mono (by (repeat (exact Res.zle (by assumption))))⟩ ⟨_, rfl, hu1.mono (by (repeat (exact Res.zle (by assumption))))⟩) ?_
        rintro z20 w20 _ hle20 hS20 rfl
        refine iRI_N ?_
        refine iRI_N ?_
        refine CV_1 (hsr _ _ _ _ ⟨_, rfl, hu0.mono (by (repeat (exact Res.zle (by assumption))))⟩ ⟨_, rfl, hu1.mono (by (repeat (exact Res.zle (by assumption))))⟩) ?_
        rintro z21 w21 _ hle21 hS21 rfl
        (repeat (refine PV_run ?_))
        refine Cond_is (by simp) ?_
        (repeat (refine iHV_N ?_))
        refine CV_1 (sameP ⟨_, rfl, hu0.mono (by (repeat (exact Res.zle (by assumption))))⟩ ⟨_, rfl, hu0.mono (by (repeat (exact Res.zle (by assumption))))⟩) ?_
        rintro z22 w22 _ hle22 hS22 rfl
        rw [(same_iff (s := s)).2 rfl]
        (repeat (refine K1 ?_))
        exact ⟨_, _, ‹_›, rfl⟩
    refine CV_1 NewP ?_
    rintro z15 w15 _ hle15 hS15 ⟨u15, rfl, hu15⟩
    refine CV_1 refNew ?_
    rintro z16 w16 _ hle16 hS16 ⟨u16, rfl, hu16⟩
    refine CV_1 (sameP ⟨_, rfl, hu15.mono (by (repeat (assumption)))⟩ ⟨_, rfl, hu16⟩) ?_
    rintro z17 w17 _ hle17 hS17 rfl
    rw [(same_iff (s := newM)).2 rfl]
    (repeat (first | refine PV_run ?_ | refine iHV_N ?_ | refine Cond_f ?_))
    refine CV_1 (check ⟨_, rfl, hu0.mono (by (repeat (exact Res.zle (by assumption))))⟩) ?_
    rintro z18 w18 _ hle18 hS18 rfl
    refine iRI_N ?_
    refine CV_1 (refCheck ⟨_, rfl, hu0.mono (by (repeat (exact Res.zle (by assumption))))⟩) ?_
    rintro z19 w19 _ hle19 hS19 rfl
    generalize errOf (checkB s) 2 = ce2
    (repeat (refine PV_run ?_))
    refine Cond_not (by simp) ?_
    (repeat (refine PV_run ?_))
    refine Cond_not (by simp) ?_
    (repeat (refine PV_run ?_))
    refine Cond_not (by rw [hn1]; simp) ?_
    (repeat (refine PV_run ?_))
    refine Cond_n (fun hne => ?_) (fun hne => ?_)
    · have h1 : ne = 1 := by
        rcases hn2 with h | h
        · simp [h] at hne
        · exact h
      (repeat (refine PV_run ?_))
      refine Cond_not (by simp [h1]) ?_
      (repeat (first | refine PV_run ?_ | refine iHV_1 ?_))
      refine Cond_not (by simp) ?_
      (repeat (first | refine PV_run ?_ | refine iHV_1 ?_))
      refine Cond_not (by simp) ?_
      (repeat (first | refine PV_run ?_ | refine iHV_1 ?_))
      refine Cond_not (by simp) ?_
      (repeat (first | refine PV_run ?_ | refine iHV_N ?_))
      exact fin _ z19 w19 (by simp) (by (repeat (first | assumption | refine Le.trans ?_ (by assumption : Le _ _)))) hS19
    · (repeat (first | refine PV_run ?_ | refine iHV_1 ?_))
      refine Cond_not (by simp) ?_
      (repeat (first | refine PV_run ?_ | refine iHV_1 ?_))
      refine Cond_not (by simp) ?_
      (repeat (first | refine PV_run ?_ | refine iHV_1 ?_))
      refine Cond_not (by simp) ?_
      (repeat (first | refine PV_run ?_ | refine iHV_N ?_))
      exact fin _ z19 w19 (by simp) (by (repeat (first | assumption | refine Le.trans ?_ (by assumption : Le _ _)))) hS19
  refine Cond_b (fun hq => ?_) (fun hq => ?_)
  · exact main _ _ _ (Le.refl _) hS7
  · (repeat (refine iV_ldN ?_))
    refine CV_1 (smallP ⟨_, rfl, hu1.mono (by (repeat (assumption)))⟩) ?_
    rintro z8 w8 _ hle8 hS8 ⟨b2, rfl⟩
    (repeat (refine V_run ?_))
    exact main _ _ _ (by (repeat (assumption))) (by assumption))
end Go.Proofs.Ytjnckainogpenaa
end
