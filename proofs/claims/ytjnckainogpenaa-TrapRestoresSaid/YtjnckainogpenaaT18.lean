/- Operations on states. -/
import Derived.Test.YtjnckainogpenaaT17
set_option linter.unusedVariables false
set_option linter.unusedSimpArgs false
set_option maxRecDepth 20000
set_option synthInstance.maxHeartbeats 400000
set_option synthInstance.maxSize 4000
namespace Go.Proofs.Ytjnckainogpenaa
open Go Q Go.RowKit

theorem Fn.post {f : FuncId} {args : Array Value} {z : Z} {B : Bl} {w : World} {R R' : Z → Bl → Value → Prop} (h : Fn f args z B w R) (hr : ∀ z' B' w' v, Res w z B w' z' B' → R z' B' v → ∃ z'' B'', Res w z B w' z'' B'' ∧ R' z'' B'' v) : Fn f args z B w R' :=
  fun ho => (h ho).mono (retK.mono fun v w' ⟨z', B', h1, h2⟩ => hr z' B' w' v h1 h2)
structure StepM where
  e : Int
  a : AcM
  s : StM
def lastF (s : StM) : FrM := s.getLastD ⟨[], [], noInfo⟩
def opM (s : StM) (o : OpM) : StepM :=
  let pre := s.dropLast
  let f := lastF s
  if o.kind = 1 then (if setOk o.cond o.mode o.text then ⟨0, noAct, pre ++ [f.put o.cond (setT (f.tr o.cond) o.cond o.mode o.text)]⟩ else ⟨1, noAct, []⟩)
  else if o.kind = 2 then (if descB o.text then ⟨0, raiseA f o.cond o.text, pre ++ [raiseF f o.cond o.text]⟩ else ⟨1, noAct, []⟩)
  else if o.kind = 3 then ⟨(endM s.length f f.pend).e, (endM s.length f f.pend).a, pre ++ (endM s.length f f.pend).top⟩
  else if o.kind = 4 then (if s.length = 30 then ⟨14, noAct, []⟩ else ⟨0, noAct, s ++ [pushF f]⟩)
  else (if pre.length = 0 then ⟨12, noAct, []⟩ else ⟨0, noAct, pre⟩)
theorem OpR.err {mb : Nat} {e : Int} {a : AcM} {s : StM} {z : Z} {B : Bl} {r : Value} (he : e ≠ 0) (h : r = .tuple #[noAct.v, .int .i64 e]) : OpR mb e a s z B r := by rw [OpR, if_neg he]; exact h
theorem OpR.ok {mb : Nat} {a : AcM} {s : StM} {z : Z} {B : Bl} {r : Value} (h : r = .tuple #[a.v, .int .i64 0]) (hm : MachR z B mb s) : OpR mb 0 a s z B r := by rw [OpR, if_pos rfl]; exact ⟨h, hm⟩
def opF (k : Int) : FuncId := if k = 1 then 85 else if k = 2 then 68 else if k = 3 then 69 else if k = 4 then 86 else 87
theorem opP {z : Z} {w : World} {B : Bl} {mb : Nat} {s : StM} {o : OpM} (hm : Mach z B mb s) (hck : checkB s = true) (hk : 1 ≤ o.kind ∧ o.kind ≤ 5) (hc : o.kind = 1 ∨ o.kind = 2 → 0 ≤ o.cond ∧ o.cond < 6) (ht : o.text.size ≤ big) :
    Fn (opF o.kind) #[.pointer (some ⟨mb, 0, none⟩), .int .i64 o.cond, .int .i64 o.mode, .string o.text] z B w (OpR mb (opM s o).e (opM s o).a (opM s o).s) := by
  obtain ⟨h30, hfr⟩ := checkB_fr hck
  have hne : s ≠ [] := by intro e; subst e; simp [checkB] at hck
  obtain ⟨pre, f, rfl⟩ : ∃ pre f, s = pre ++ [f] := ⟨s.dropLast, s.getLast hne, (List.dropLast_concat_getLast hne).symm⟩
  have h6 := (hfr f (by simp)).1
  have hp4 := (hfr f (by simp)).2
  have hpre : pre.length ≤ 100 := by simp at h30; omega
  have hfd : framedB f = true := by
    simp only [checkB, Bool.and_eq_true, List.all_eq_true] at hck
    exact hck.2 f (by simp)
  have hpc : ∀ r ∈ f.pend, 0 ≤ r.cond ∧ r.cond < 6 := by
    have : pendFrom [] f.pend = true := by
      simp only [framedB, Bool.and_eq_true] at hfd; exact hfd.1.2
    have key : ∀ (l had : List RaM), pendFrom had l = true → ∀ r ∈ l, 0 ≤ r.cond ∧ r.cond < 6 := by
      intro l
      induction l with
      | nil => intro _ _ r hr; cases hr
      | cons x l ih =>
        intro had h r hr
        simp only [pendFrom, Bool.and_eq_true] at h
        rcases List.mem_cons.1 hr with rfl | hr
        · have := (raOk_mem h.1).1; omega
        · exact ih _ h.2 r hr
    exact key _ _ this
  have hl : lastF (pre ++ [f]) = f := by simp [lastF]
  have hd : (pre ++ [f]).dropLast = pre := by simp
  have hlen : (pre ++ [f]).length = pre.length + 1 := by simp
  have hcase : o.kind = 1 ∨ o.kind = 2 ∨ o.kind = 3 ∨ o.kind = 4 ∨ o.kind = 5 := by omega
  simp only [opM, opF, hl, hd, hlen]
  rcases hcase with hk | hk | hk | hk | hk
  · have hcc := hc (.inl hk)
    simp only [hk, if_true]
    refine (setP hm h6 hcc.1 hcc.2 hpre ht).post fun z' B' w' v hR h => ?_
    by_cases hok : setOk o.cond o.mode o.text = true
    · rw [if_pos hok] at h ⊢
      obtain ⟨z2, B2, hS2, hM⟩ := Mach.toR hR h.2
      exact ⟨z2, B2, hS2, OpR.ok h.1 hM⟩
    · rw [if_neg hok] at h ⊢
      exact ⟨_, _, hR, OpR.err (by decide) h⟩
  · have hcc := hc (.inr hk)
    simp only [hk, show ¬ ((2 : Int) = 1) by decide, if_true, if_false]
    refine (raiseP hm h6 hcc.1 hcc.2 hpre ht (by omega)).post fun z' B' w' v hR h => ?_
    by_cases hok : descB o.text = true
    · rw [if_pos hok] at h ⊢
      obtain ⟨z2, B2, hS2, hM⟩ := Mach.toR hR h.2
      exact ⟨z2, B2, hS2, OpR.ok h.1 hM⟩
    · rw [if_neg hok] at h ⊢
      exact ⟨_, _, hR, OpR.err (by decide) h⟩
  · simp only [hk, show ¬ ((3 : Int) = 1) by decide, show ¬ ((3 : Int) = 2) by decide, if_true, if_false]
    exact endP hm h6 hpre hpc
  · simp only [hk, show ¬ ((4 : Int) = 1) by decide, show ¬ ((4 : Int) = 2) by decide, show ¬ ((4 : Int) = 3) by decide, if_true, if_false]
    refine (callP hm h6 hpre).post fun z' B' w' v hR h => ?_
    by_cases hok : pre.length + 1 = 30
    · rw [if_pos hok] at h ⊢
      exact ⟨_, _, hR, OpR.err (by decide) h⟩
    · rw [if_neg hok] at h ⊢
      obtain ⟨z2, B2, hS2, hM⟩ := Mach.toR hR h.2
      exact ⟨z2, B2, hS2, OpR.ok h.1 hM⟩
  · simp only [hk, show ¬ ((5 : Int) = 1) by decide, show ¬ ((5 : Int) = 2) by decide, show ¬ ((5 : Int) = 3) by decide, show ¬ ((5 : Int) = 4) by decide, if_true, if_false]
    refine (backP hm h6 hpre).post fun z' B' w' v hR h => ⟨_, _, hR, ?_⟩
    by_cases h0 : pre.length = 0
    · simp only [if_pos h0] at h ⊢
      exact OpR.err (by decide) (by rw [OpR, if_neg (by decide)] at h; exact h)
    · simp only [if_neg h0] at h ⊢
      exact h
abbrev opsL : List (Int × Value) := [(1, .func (.func 85) #[] #[]), (2, .func (.func 68) #[] #[]), (3, .func (.func 69) #[] #[]), (4, .func (.func 86) #[] #[]), (5, .func (.func 87) #[] #[])]
theorem operations {z : Z} {w : World} : Fn 50 #[] z [] w fun z' B' r => ∃ b, r = .map (some b) ∧ B' = [(b, mO .i64 opsL)] := Fn.intro fun hS => en50 (by
  unfold vc50
  refine iV_mm ?_
  intro b w1 hb hS1
  refine iU_mu (by simp) ?_
  intro w2 hS2
  refine iU_mu (by simp) ?_
  intro w3 hS3
  refine iU_mu (by simp) ?_
  intro w4 hS4
  refine iU_mu (by simp) ?_
  intro w5 hS5
  refine iU_mu (by simp) ?_
  intro w6 hS6
  exact ⟨z, _, hS6, b, rfl, rfl⟩)
theorem ops_lk {k : Int} : lkF opsL k .nilFunc = if 1 ≤ k ∧ k ≤ 5 then (.func (.func (opF k)) #[] #[], true) else (.nilFunc, false) := by
  by_cases h1 : k = 1
  · subst h1; rfl
  by_cases h2 : k = 2
  · subst h2; rfl
  by_cases h3 : k = 3
  · subst h3; rfl
  by_cases h4 : k = 4
  · subst h4; rfl
  by_cases h5 : k = 5
  · subst h5; rfl
  rw [if_neg (by omega)]
  have : ∀ a : Int, a ≠ k → (a == k) = false := fun a h => by simpa using h
  simp only [lkF, opsL, List.find?, this 1 (fun e => h1 e.symm), this 2 (fun e => h2 e.symm), this 3 (fun e => h3 e.symm), this 4 (fun e => h4 e.symm), this 5 (fun e => h5 e.symm)]
end Go.Proofs.Ytjnckainogpenaa
