/- Plain laws: the steps of a valid state, one by one; the cases of the end of a clause. -/
import Derived.Test.YtjnckainogpenaaT29
set_option linter.unusedVariables false
set_option linter.unusedSimpArgs false
set_option maxRecDepth 20000
namespace Go.Proofs.Ytjnckainogpenaa
open Go Q Go.RowKit

section
variable {w0 w : World} {z0 z z1 : Z} {B0 L : Bl} {b : Nat}
theorem At.fld {h : Nat → Option Obj} {off i o : Nat} {v : Value} {vs : List Value} (ha : At h b off vs) (hv : vs[i]? = some v) (ho : o = off + i) : At h b o [v] := by
  obtain ⟨c, ty, fr, g1, g2⟩ := ha
  refine ⟨c, ty, fr, g1, fun j u hu => ?_⟩
  cases j with
  | zero => simp at hu; subst hu; subst ho; exact g2 i v hv
  | succ j => simp at hu
/-- A field of a struct in frozen memory. -/
theorem zV_fld [hS : Res w0 z0 B0 w z L] {K : Value → World → Prop} {t : TypeId} [g : TyOne t] {off i o : Nat} {v : Value} {vs : List Value} (ha : At z1 b off vs) (hz : Le z1 z) (hv : vs[i]? = some v) (ho : o = off + i) (hk : K v w) : V (ld t (.pointer (some ⟨b, o, none⟩))) w K := zV_ld1 ((ha.mono hz).fld hv ho) hk
theorem zHV_fld [hS : Res w0 z0 B0 w z L] {K : Value → Prop} {t : TypeId} [g : TyOne t] {off i o : Nat} {v : Value} {vs : List Value} (ha : At z1 b off vs) (hz : Le z1 z) (hv : vs[i]? = some v) (ho : o = off + i) (hk : K v) : HV (ld t (.pointer (some ⟨b, o, none⟩))) w K := zHV_ld1 ((ha.mono hz).fld hv ho) hk
theorem zV_row [hS : Res w0 z0 B0 w z L] {K : Value → World → Prop} {t n : TypeId} [g : TyAgg t n] [gs : TySize t n] {off o : Nat} {vs : List Value} (ha : At z1 b off vs) (hz : Le z1 z) (hl : vs.length = n) (ho : o = off) (hk : K (.agg vs.toArray) w) : V (ld t (.pointer (some ⟨b, o, none⟩))) w K := zV_ldN (by subst ho; exact ha.mono hz) hl hk
end
/-- The trap of a pending condition is off or delayed. -/
def offT (f : FrM) (r : RaM) : Prop := (f.tr r.cond).mode = 0 ∨ (f.tr r.cond).delayed = true
theorem endM_cases (n : Nat) (f : FrM) : ∀ l : List RaM, ((∀ r ∈ l, offT f r) ∧ endM n f l = ⟨noAct, 0, [{ f with pend := [] }]⟩) ∨ ∃ l1 r l2, l = l1 ++ r :: l2 ∧ (∀ x ∈ l1, offT f x) ∧ ¬ offT f r ∧
    endM n f l = (if (f.tr r.cond).mode = 1 then ⟨sigA f r.cond r.desc, 0, [sigF f r.cond r.desc]⟩ else if n = 30 then ⟨noAct, 14, []⟩ else ⟨⟨2, (f.tr r.cond).label, r.cond, r.desc⟩, 0, callF f r l2⟩)
  | [] => .inl ⟨fun _ h => (by cases h), rfl⟩
  | r :: l => by
    simp only [endM]
    by_cases h : (f.tr r.cond).mode = 0 ∨ (f.tr r.cond).delayed = true
    · rw [if_pos h]
      rcases endM_cases n f l with ⟨h1, h2⟩ | ⟨l1, r', l2, rfl, h1, h2, h3⟩
      · exact .inl ⟨fun x hx => by rcases List.mem_cons.1 hx with rfl | hx; exact h; exact h1 x hx, h2⟩
      · exact .inr ⟨r :: l1, r', l2, rfl, fun x hx => by rcases List.mem_cons.1 hx with rfl | hx; exact h; exact h1 x hx, h2, h3⟩
    · rw [if_neg h]
      exact .inr ⟨[], r, l, rfl, fun x hx => (by cases hx), h, rfl⟩
section
variable {pre : StM} {f : FrM}
theorem open0 (hck : checkB (pre ++ [f]) = true) : openE (pre ++ [f]) [] = 0 := by simp [openE, hck]
theorem open1 (hck : checkB (pre ++ [f]) = true) {c : Int} (h0 : 0 ≤ c) (h1 : c < 6) : openE (pre ++ [f]) [c] = 0 := by simp [openE, hck, cond, h0, h1]
theorem endStep (hck : checkB (pre ++ [f]) = true) : doneM (pre ++ [f]) endO [] = if (endM (pre.length + 1) f f.pend).e ≠ 0 then ⟨(endM (pre.length + 1) f f.pend).e, noAct, []⟩ else ⟨0, (endM (pre.length + 1) f f.pend).a, pre ++ (endM (pre.length + 1) f f.pend).top⟩ := by
  have hl : lastF (pre ++ [f]) = f := by simp [lastF]
  have hop : opM (pre ++ [f]) endO = ⟨(endM (pre.length + 1) f f.pend).e, (endM (pre.length + 1) f f.pend).a, pre ++ (endM (pre.length + 1) f f.pend).top⟩ := by
    simp [opM, endO, hl]
  rw [doneM, if_neg (by simp [open0 hck]), hop]
  by_cases he : (endM (pre.length + 1) f f.pend).e = 0
  · simp only [he, ne_eq, not_true_eq_false, if_false]
  · simp only [ne_eq, he, not_false_eq_true, if_true]
theorem backStep (hck : checkB (pre ++ [f]) = true) : doneM (pre ++ [f]) backO [] = if pre = [] then ⟨12, noAct, []⟩ else ⟨0, noAct, pre⟩ := by
  have hl : lastF (pre ++ [f]) = f := by simp [lastF]
  have hop : opM (pre ++ [f]) backO = if pre.length = 0 then ⟨12, noAct, []⟩ else ⟨0, noAct, pre⟩ := by
    simp [opM, backO, hl]
  rw [doneM, if_neg (by simp [open0 hck]), hop]
  by_cases h : pre = []
  · subst h; simp
  · simp [h]
theorem callStep (hck : checkB (pre ++ [f]) = true) : doneM (pre ++ [f]) callO [] = if pre.length = 29 then ⟨14, noAct, []⟩ else ⟨0, noAct, pre ++ [f, pushF f]⟩ := by
  have hl : lastF (pre ++ [f]) = f := by simp [lastF]
  have hop : opM (pre ++ [f]) callO = if pre.length = 29 then ⟨14, noAct, []⟩ else ⟨0, noAct, pre ++ [f, pushF f]⟩ := by
    simp [opM, callO, hl]
  rw [doneM, if_neg (by simp [open0 hck]), hop]
  by_cases h : pre.length = 29 <;> simp [h]
theorem raiseStep (hck : checkB (pre ++ [f]) = true) {c : Int} {d : ByteArray} (h0 : 0 ≤ c) (h1 : c < 6) : doneM (pre ++ [f]) (raiseO c d) [c] = if descB d = true then ⟨0, raiseA f c d, pre ++ [raiseF f c d]⟩ else ⟨1, noAct, []⟩ := by
  have hl : lastF (pre ++ [f]) = f := by simp [lastF]
  have hop : opM (pre ++ [f]) (raiseO c d) = if descB d = true then ⟨0, raiseA f c d, pre ++ [raiseF f c d]⟩ else ⟨1, noAct, []⟩ := by
    simp [opM, raiseO, hl]
  rw [doneM, if_neg (by simp [open1 hck h0 h1]), hop]
  by_cases h : descB d = true <;> simp [h]
theorem setStep (hck : checkB (pre ++ [f]) = true) {c m : Int} {t : ByteArray} (h0 : 0 ≤ c) (h1 : c < 6) : doneM (pre ++ [f]) (setO c m t) [c] = if setOk c m t = true then ⟨0, noAct, pre ++ [f.put c (setT (f.tr c) c m t)]⟩ else ⟨1, noAct, []⟩ := by
  have hl : lastF (pre ++ [f]) = f := by simp [lastF]
  have hop : opM (pre ++ [f]) (setO c m t) = if setOk c m t = true then ⟨0, noAct, pre ++ [f.put c (setT (f.tr c) c m t)]⟩ else ⟨1, noAct, []⟩ := by
    simp [opM, setO, hl]
  rw [doneM, if_neg (by simp [open1 hck h0 h1]), hop]
  by_cases h : setOk c m t = true <;> simp [h]
theorem checkB_parts : checkB (pre ++ [f]) = true ↔ (∀ g ∈ pre, framedB g = true) ∧ framedB f = true ∧ pre.length ≤ 29 := by
  simp only [checkB, Bool.and_eq_true, decide_eq_true_eq, List.all_eq_true, List.length_append, List.length_singleton]
  constructor
  · intro h
    exact ⟨fun g hg => h.2 g (List.mem_append_left _ hg), h.2 f (by simp), by omega⟩
  · intro h
    refine ⟨⟨by omega, by omega⟩, fun x hx => ?_⟩
    rcases List.mem_append.1 hx with hx | hx
    · exact h.1 x hx
    · simp only [List.mem_singleton] at hx; subst hx; exact h.2.1
/-- The activation that calls a handler, and the handler's. -/
def callA (f : FrM) (l : List RaM) : FrM := { f with pend := l }
def callB (f : FrM) (r : RaM) : FrM := { traps := f.traps.set r.cond.toNat { f.tr r.cond with delayed := true }, pend := [], info := ⟨r.cond, 2, r.desc⟩ }
theorem callF_eq (f : FrM) (r : RaM) (l : List RaM) : pre ++ callF f r l = (pre ++ [callA f l]) ++ [callB f r] := by simp [callF, callA, callB]
/-- What the end of a clause does to a valid state. -/
inductive EndC (pre : StM) (f : FrM) (m : StepM) : Prop
  | none (h : ∀ r ∈ f.pend, offT f r) (hm : m = ⟨0, noAct, pre ++ [{ f with pend := [] }]⟩)
  | sig (l1 l2 : List RaM) (r : RaM) (hl : f.pend = l1 ++ r :: l2) (h1 : ∀ x ∈ l1, offT f x) (h2 : ¬ offT f r) (h3 : (f.tr r.cond).mode = 1) (hm : m = ⟨0, sigA f r.cond r.desc, pre ++ [sigF f r.cond r.desc]⟩)
  | full (l1 l2 : List RaM) (r : RaM) (hl : f.pend = l1 ++ r :: l2) (h1 : ∀ x ∈ l1, offT f x) (h2 : ¬ offT f r) (h3 : (f.tr r.cond).mode ≠ 1) (h4 : pre.length = 29) (hm : m = ⟨14, noAct, []⟩)
  | call (l1 l2 : List RaM) (r : RaM) (hl : f.pend = l1 ++ r :: l2) (h1 : ∀ x ∈ l1, offT f x) (h2 : ¬ offT f r) (h3 : (f.tr r.cond).mode ≠ 1) (h4 : pre.length < 29) (hm : m = ⟨0, ⟨2, (f.tr r.cond).label, r.cond, r.desc⟩, (pre ++ [callA f l2]) ++ [callB f r]⟩)
theorem endC (hck : checkB (pre ++ [f]) = true) : EndC pre f (doneM (pre ++ [f]) endO []) := by
  have hp := (checkB_parts.1 hck).2.2
  rw [endStep hck]
  rcases endM_cases (pre.length + 1) f f.pend with ⟨h1, h2⟩ | ⟨l1, r, l2, h0, h1, h2, h3⟩
  · exact .none h1 (by rw [h2]; simp)
  · by_cases h4 : (f.tr r.cond).mode = 1
    · rw [if_pos h4] at h3
      exact .sig l1 l2 r h0 h1 h2 h4 (by rw [h3]; simp)
    · rw [if_neg h4] at h3
      by_cases h5 : pre.length = 29
      · rw [if_pos (by omega)] at h3
        exact .full l1 l2 r h0 h1 h2 h4 h5 (by rw [h3]; simp)
      · rw [if_neg (by omega)] at h3
        exact .call l1 l2 r h0 h1 h2 h4 (by omega) (by rw [h3, ← callF_eq]; simp)
theorem pendFrom_app : ∀ {l1 l2 had : List RaM}, pendFrom had (l1 ++ l2) = true → pendFrom [] l2 = true
  | [], l2, had, h => pendFrom_sub (fun _ hx => by cases hx) h
  | x :: l1, l2, had, h => by
    simp only [List.cons_append, pendFrom, Bool.and_eq_true] at h
    exact pendFrom_app h.2
/-- The facts on a pending condition of a valid activation. -/
theorem pend_facts (hf : framedB f = true) {l1 l2 : List RaM} {r : RaM} (hl : f.pend = l1 ++ r :: l2) : 0 ≤ r.cond ∧ r.cond < 6 ∧ immediate r.cond = false ∧ descB r.desc = true ∧ pendFrom [] l2 = true := by
  have := (framedB_parts.1 hf).2.2.1
  rw [hl] at this
  have h2 := pendFrom_tail (pendFrom_app this)
  have h3 := raOk_facts h2.1
  exact ⟨h3.1, h3.2.1, h3.2.2.1, h3.2.2.2, h2.2⟩
theorem back_ok {g : FrM} (hck : checkB ((pre ++ [f]) ++ [g]) = true) : doneM ((pre ++ [f]) ++ [g]) backO [] = ⟨0, noAct, pre ++ [f]⟩ ∧ checkB (pre ++ [f]) = true := by
  have h := backStep hck
  rw [if_neg (by simp)] at h
  refine ⟨h, ?_⟩
  have := (doneM_ok (s := (pre ++ [f]) ++ [g]) (o := backO) (conds := []) (by decide) (fun h => by rcases h with h | h <;> cases h) (by rw [h])).2
  rwa [h] at this
theorem end_ok (hck : checkB (pre ++ [f]) = true) (he : (doneM (pre ++ [f]) endO []).e = 0) : checkB (doneM (pre ++ [f]) endO []).s = true :=
  (doneM_ok (o := endO) (by decide) (fun h => by rcases h with h | h <;> cases h) he).2
end
end Go.Proofs.Ytjnckainogpenaa
