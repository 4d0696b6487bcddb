/- A region that may be carried out in several orders: what only reads is taken first, and is asked again behind each operation that may change what it read; the others come in each order that their edges allow. -/
import Derived.Test.YtjnckainogpenaaQ2
set_option linter.unusedVariables false
set_option linter.unusedSimpArgs false
namespace Go.Proofs.Ytjnckainogpenaa.Q
open Go

inductive Plan where
  | done
  | take (i : Nat) (next : Plan)
  | hold (i : Nat) (next : Plan)
  | alts (p : Plan)
  | eff (i : Nat) (next rest : Plan)
  | nil
  | split (d : Nat) (p q : Plan)
abbrev Held := List (Nat × Sem Value × Value)
def dirB (l0 : List Oper) (i j : Nat) : Bool :=
  match l0[j]? with
  | some o => o.after.toList.any fun ed => Region.binds .any ed && Nat.beq ed.on i
  | none => false
def anyE (l0 : List Oper) (i : Nat) : List Nat → Bool
  | [] => false
  | j :: js => bif dirB l0 i j then true else anyE l0 i js
def HoldK (P : Program) (l0 : List Oper) (E : List Nat) : Held → World → Prop → Prop
  | [], _, r => r
  | h :: hs, w, r => bif anyE l0 h.1 E then HoldK P l0 E hs w r else h.2.1.run P w = .ok h.2.2 w ∧ HoldK P l0 E hs w r
def rdy (l0 : List Oper) (ls : List Nat) (i : Nat) : Bool :=
  bif memB i ls then false else
  match l0[i]? with
  | some o => o.after.toList.all fun ed => !Region.binds .any ed || memB ed.on ls
  | none => false
def freeAt (ops : Array Oper) (ls : List Nat) (i : Nat) (oi : Oper) : Nat → List Oper → Bool
  | _, [] => true
  | j, o :: l => (bif Nat.beq j i then true else bif memB j ls then true else bif o.after.toList.any (fun ed => Region.binds .any ed && Nat.beq ed.on i) then true else oi.apart ops o) && freeAt ops ls i oi (j + 1) l
def covers (l0 : List Oper) (ls is : List Nat) : Nat → Bool
  | 0 => true
  | k + 1 => (bif rdy l0 ls k then memB k is else true) && covers l0 ls is k
def idxs : Plan → List Nat
  | .eff i _ r => i :: idxs r
  | _ => []
mutual
def okP : Plan → Bool
  | .done => true
  | .take _ p => okP p
  | .hold _ p => okP p
  | .alts p => okC p
  | .split _ p q => okP p && okP q
  | _ => false
def okC : Plan → Bool
  | .eff _ p r => okP p && okC r
  | .nil => true
  | _ => false
end
def plainB (o : Oper) : Bool :=
  match o.op with
  | .select .. | .defer _ => false
  | _ => true
def allPlain : List Oper → Bool
  | [] => true
  | o :: l => plainB o && allPlain l
def Pv (P : Program) (s : Sem Value) (K : Value → Prop) : Prop := ∃ v, (∀ w, s.run P w = .ok v w) ∧ K v
def Hv (P : Program) (s : Sem Value) (w : World) (K : Value → Prop) : Prop := ∃ v, s.run P w = .ok v w ∧ K v
def pureA (P : Program) (n : Nat) (o : Oper) (e : Env) (K : Value → Prop) : Prop :=
  match moveA n o e K with
  | some p => p
  | none =>
    match vsem n e o with
    | some s => Pv P s K
    | none => False
def fstRdy (l0 : List Oper) (ls : List Nat) : List Nat → Bool
  | [] => false
  | i :: _ => rdy l0 ls i
def drawA (P : Program) (n : Nat) (ops : Array Oper) : Plan → Nat → Held → List Nat → List Nat → (Env → World → Prop) → Env → World → Prop
  | .done, _, _, ls, _, K, e, w => bif covers ops.toList ls [] ops.toList.length then K e w else False
  | .take i p, f + 1, H, ls, E, K, e, w =>
    match ops.toList[i]? with
    | some o => bif rdy ops.toList ls i && freeAt ops ls i o 0 ops.toList then
        (bif wantE n ops.toList o e then pureA P n o e fun v => dstA n o e v fun e' => drawA P n ops p f H (i :: ls) E K e' w
        else dstA n o e undef fun e' => drawA P n ops p f H (i :: ls) E K e' w)
      else False
    | none => False
  | .hold i p, f + 1, H, ls, E, K, e, w =>
    match ops.toList[i]? with
    | some o => bif rdy ops.toList ls i && freeAt ops ls i o 0 ops.toList && wantE n ops.toList o e then
        (match vsem n e o with
        | some s => Hv P s w fun v => dstA n o e v fun e' => drawA P n ops p f ((i, s, v) :: H) (i :: ls) E K e' w
        | none => False)
      else False
    | none => False
  | .alts p, f, H, ls, E, K, e, w => bif covers ops.toList ls (idxs p) ops.toList.length && fstRdy ops.toList ls (idxs p) then drawA P n ops p f H ls E K e w else False
  | .eff i p .nil, f + 1, H, ls, E, K, e, w =>
    match ops.toList[i]? with
    | some o => bif wantE n ops.toList o e then
        valA P n o e w (fun v w' => HoldK P ops.toList (i :: E) H w' (dstA n o e v fun e' => drawA P n ops p f H (i :: ls) (i :: E) K e' w'))
      else False
    | none => False
  | .eff i p r, f + 1, H, ls, E, K, e, w =>
    match ops.toList[i]? with
    | some o => bif wantE n ops.toList o e then
        valA P n o e w (fun v w' => HoldK P ops.toList (i :: E) H w' (dstA n o e v fun e' => drawA P n ops p f H (i :: ls) (i :: E) K e' w')) ∧ drawA P n ops r (f + 1) H ls E K e w
      else False
    | none => False
  | .split d p q, f, H, ls, E, K, e, w => CondW (ev n e (.tmp d)) (drawA P n ops p f H ls E K (upd e d (.bool true)) w) (drawA P n ops q f H ls E K (upd e d (.bool false)) w)
  | _, _, _, _, _, _, _, _ => False

/-! ### The soundness of it -/
section
variable {P : Program} {n : Nat} {ro : Option Nat} {ops : Array Oper} {Qx : Exit → Act → World → Prop}
def HoldOK (P : Program) (l0 : List Oper) (H : Held) (E : List Nat) (w : World) : Prop := ∀ h ∈ H, (∀ j ∈ E, dirB l0 h.1 j = false) → h.2.1.run P w = .ok h.2.2 w
def wpAnyD (ro : Option Nat) (P : Program) (ops : Array Oper) (Qx : Exit → Act → World → Prop) (H : Held) : Nat → Array Bool → List Nat → Act → World → Prop
  | 0, listed, _, a, w => Region.ready .any ops listed = [] ∧ Qx .normal a w
  | f + 1, listed, E, a, w =>
    (Region.ready .any ops listed = [] → Qx .normal a w) ∧
    ∀ i ∈ Region.ready .any ops listed, wpOpIn (FF ro) 0 P ops Qx i (fun a' w' => HoldOK P ops.toList H (i :: E) w' ∧ wpAnyD ro P ops Qx H f (listed.setIfInBounds i true) (i :: E) a' w') a w
theorem wpAnyD_any {H : Held} : ∀ (f : Nat) (listed : Array Bool) (E : List Nat) (a : Act) (w : World), wpAnyD ro P ops Qx H f listed E a w → wpAnyIn (FF ro) 0 P .any ops Qx f listed a w
  | 0, _, _, _, _, h => h
  | f + 1, _, _, _, _, h => ⟨h.1, fun i hi => wpOpIn_mono (fun a' w' h' => wpAnyD_any f _ _ a' w' h'.2) (h.2 i hi)⟩
theorem HoldOK.mono {H H' : Held} {E E' : List Nat} {w : World} (h : HoldOK P ops.toList H' E w) (hH : ∀ x ∈ H, x ∈ H') (hE : ∀ j ∈ E, j ∈ E') : HoldOK P ops.toList H E' w :=
  fun x hx hj => h x (hH x hx) fun j hjE => hj j (hE j hjE)
theorem wpAnyD_mono {H H' : Held} (hH : ∀ x ∈ H, x ∈ H') : ∀ (f : Nat) (listed : Array Bool) (E E' : List Nat) (a : Act) (w : World), (∀ j ∈ E, j ∈ E') →
    wpAnyD ro P ops Qx H' f listed E a w → wpAnyD ro P ops Qx H f listed E' a w
  | 0, _, _, _, _, _, _, h => h
  | f + 1, _, E, E', _, _, hE, h => ⟨h.1, fun i hi => wpOpIn_mono (fun a' w' h' =>
      have hE' : ∀ j ∈ i :: E, j ∈ i :: E' := fun j hj => by
        rcases List.mem_cons.1 hj with rfl | hj
        · exact List.mem_cons_self
        · exact List.mem_cons_of_mem _ (hE j hj)
      ⟨h'.1.mono hH hE', wpAnyD_mono hH f _ _ _ a' w' hE' h'.2⟩) (h.2 i hi)⟩
/-- In this state operation 'o' is the computation 's', or it is passed over. -/
def Yd (ops : Array Oper) (o : Oper) (s : Sem Value) (v : Value) (a : Act) : Prop :=
  (Region.wanted o (yielded ops a.tmps) = true ∧ execOp a.eval o = lift s) ∨ (Region.wanted o (yielded ops a.tmps) = false ∧ v = undef)
theorem Yd.of_same {o : Oper} {s : Sem Value} {v : Value} {a a' : Act} (h : Yd ops o s v a) (he : execOp a'.eval o = execOp a.eval o) (hw : Region.wanted o (yielded ops a'.tmps) = Region.wanted o (yielded ops a.tmps)) : Yd ops o s v a' := by
  unfold Yd at *
  rw [he, hw]
  exact h
theorem plainB_spec {o : Oper} (h : plainB o = true) : (∀ cs b, o.op ≠ .select cs b) ∧ (∀ c, o.op ≠ .defer c) := by
  unfold plainB at h
  split at h <;> first | (cases h; done) | skip
  rename_i h1 h2
  exact ⟨fun cs b hn => h1 _ _ hn, fun c hn => h2 _ hn⟩
theorem semAt_plain {o : Oper} (h : plainB o = true) (ρ : Operand → Value) : o.semAt (FF ro).round ρ = execOp ρ o := Oper.semAt_eq _ _ _ (plainB_spec h).2
theorem Yd.wpOpIn {i : Nat} {o : Oper} {s : Sem Value} {v : Value} {a : Act} {K : Act → World → Prop} {w : World} (hi : ops[i]? = some o) (hp : plainB o = true) (hy : Yd ops o s v a)
    (hs : Region.wanted o (yielded ops a.tmps) = true → s.run P w = .ok v w) (h : K (a.put o.dst v) w) : wpOpIn (FF ro) 0 P ops Qx i K a w := by
  unfold Go.wpOpIn
  simp only [hi]
  rcases hy with ⟨hw, hx⟩ | ⟨hw, rfl⟩
  · simp only [hw, if_true]
    refine ⟨fun _ _ => trivial, ?_⟩
    rw [semAt_plain hp, hx, lift_run (hs hw)]
    exact h
  · simp only [hw, Bool.false_eq_true, if_false]
    exact ⟨fun _ _ => trivial, h⟩
theorem wpOpIn_putD {j : Nat} {oi oj : Oper} {s : Sem Value} {v : Value} (hj : ops[j]? = some oj) (hap : oi.apart ops oj = true) (hpi : plainB oi = true) (hpj : plainB oj = true)
    (hQ : ∀ c a w, Qx (.panic c) a w → False) {K : Act → World → Prop} {a : Act} {w : World} (hy : Yd ops oi s v a) (h : wpOpIn (FF ro) 0 P ops Qx j K (a.put oi.dst v) w) :
    wpOpIn (FF ro) 0 P ops Qx j (fun a' w' => Yd ops oi s v a' ∧ K (a'.put oi.dst v) w') a w := by
  obtain ⟨h1, h2, h3⟩ := Oper.apart_spec hap
  have hsi := (plainB_spec hpi).1
  have hsj := (plainB_spec hpj).1
  have keep : ∀ (a : Act), Yd ops oi s v a → ∀ u, Yd ops oi s v (a.put oj.dst u) := fun a hy u =>
    hy.of_same (execOp_put oi hsi a oj.dst u h3) (wanted_put oi a oj.dst u h3)
  have keepD : ∀ d, Yd ops oi s v { a with defers := d :: a.defers } := fun d => hy.of_same rfl rfl
  unfold wpOpIn at *
  simp only [hj] at *
  rw [wanted_put oj a oi.dst v h1] at h
  split
  · rename_i hw
    simp only [hw, if_true] at h
    unfold Oper.wpIn at *
    refine ⟨fun _ _ => trivial, ?_⟩
    have h := h.2
    rw [semAt_plain hpj, execOp_put oj hsj a oi.dst v h1] at h
    rw [semAt_plain hpj]
    generalize (execOp a.eval oj).run P w = r at *
    cases r with
    | ok x w' =>
      cases x <;> simp only [Oper.uponIn] at h ⊢
      case value u => exact ⟨keep a hy u, by rw [← Act.put_comm a v u h2]; exact h⟩
      case skip => exact ⟨keep a hy _, by rw [← Act.put_comm a v undef h2]; exact h⟩
      case defer d =>
        refine ⟨keep _ (keepD d) _, ?_⟩
        rw [← Act.put_comm _ v undef h2, ← Act.put_defers]
        exact h
      case enter f args =>
        refine ⟨h.1, CallsIn.mono h.2 fun e w'' he => ?_⟩
        cases e with
        | returned u => exact ⟨keep a hy u, by rw [← Act.put_comm a v u h2]; exact he⟩
        | panicked c => exact (hQ _ _ _ he).elim
        | outgrown => exact he
      case row row args => exact ⟨h.1, RowsIn.mono h.2 fun u w'' he => ⟨keep a hy u, by rw [← Act.put_comm a v u h2]; exact he⟩⟩
      case round l f tmps assign body =>
        refine ⟨h.1, RoundIn.mono h.2 fun e w'' he => ?_⟩
        cases e with
        | returned u => exact ⟨keep a hy u, by rw [← Act.put_comm a v u h2]; exact he⟩
        | panicked c => exact (hQ _ _ _ he).elim
        | outgrown => exact he
    | halt x w' =>
      cases x <;> simp only [Oper.uponIn] at h ⊢
      case panic u => exact (hQ _ _ _ h).elim
  · rename_i hw
    simp only [hw] at h
    exact ⟨fun _ _ => trivial, keep a hy _, by rw [← Act.put_comm a v undef h2]; exact h.2⟩
/-- What has come up has let come up all that it waits for. -/
def Down (ops : Array Oper) (listed : Array Bool) : Prop := ∀ j oj, ops[j]? = some oj → listed.getD j false = true → ∀ ed ∈ oj.after, Region.binds .any ed = true → listed.getD ed.on false = true
def Seen (listed : Array Bool) (E : List Nat) : Prop := ∀ j ∈ E, listed.getD j false = true
theorem Down.set {listed : Array Bool} {i : Nat} (h : Down ops listed) (hr : i ∈ Region.ready .any ops listed) : Down ops (listed.setIfInBounds i true) := by
  intro j oj hj hl ed he hb
  obtain ⟨hun, oi, hoi, hall⟩ := mem_ready.1 hr
  refine getD_set_true ?_
  by_cases hij : i = j
  · subst hij
    rw [hoi] at hj
    cases hj
    exact hall ed he hb
  · rw [getD_set_ne false hij] at hl
    exact h j oj hj hl ed he hb
theorem Seen.set {listed : Array Bool} {i : Nat} {E : List Nat} (h : Seen listed E) : Seen (listed.setIfInBounds i true) E := fun j hj => getD_set_true (h j hj)
theorem Seen.cons {listed : Array Bool} {i : Nat} {E : List Nat} (h : Seen listed E) (hi : i < listed.size) : Seen (listed.setIfInBounds i true) (i :: E) := fun j hj => by
  rcases List.mem_cons.1 hj with rfl | hj
  · simp [hi]
  · exact getD_set_true (h j hj)
theorem dirB_false {listed : Array Bool} {i j : Nat} (hd : Down ops listed) (hj : listed.getD j false = true) (hi : listed.getD i false = false) : dirB ops.toList i j = false := by
  unfold dirB
  rw [Array.getElem?_toList]
  cases ho : ops[j]? with
  | none => rfl
  | some o =>
    simp only [List.any_eq_false]
    intro ed he hb
    simp only [Bool.and_eq_true, Nat.beq_eq] at hb
    have := hd j o ho hj ed (Array.mem_toList_iff.1 he) hb.1
    rw [hb.2, hi] at this
    cases this
theorem getD_true_false {listed : Array Bool} {i : Nat} (h : listed.getD i true = false) : listed.getD i false = false ∧ i < listed.size := by
  rcases Nat.lt_or_ge i listed.size with h' | h'
  · simp [h'] at h ⊢; exact h
  · simp [Array.getElem?_eq_none h'] at h
/-- **WHAT ONLY READS MAY BE TAKEN FIRST.** -/
theorem takeD {i : Nat} {oi : Oper} {s : Sem Value} {v : Value} {H H' : Held} (hi : ops[i]? = some oi) (hpl : ∀ (j : Nat) o, ops[j]? = some o → plainB o = true) (hQ : ∀ c a w, Qx (.panic c) a w → False) (hH : ∀ x ∈ H, x ∈ H')
    (hs : ∀ (listed : Array Bool) E w, Down ops listed → Seen listed E → listed.getD i false = false → HoldOK P ops.toList H' E w → s.run P w = .ok v w) :
    ∀ (f : Nat) (listed : Array Bool) (E : List Nat) (a : Act) (w : World),
      (∀ j oj, ops[j]? = some oj → j ≠ i → listed.getD j true = false → (∀ e ∈ oj.after, Region.binds .any e = true → e.on ≠ i) → oi.apart ops oj = true) →
      i ∈ Region.ready .any ops listed → Down ops listed → Seen listed E → Yd ops oi s v a → HoldOK P ops.toList H' E w →
      wpAnyD ro P ops Qx H' f (listed.setIfInBounds i true) E (a.put oi.dst v) w → wpAnyD ro P ops Qx H (f + 1) listed E a w := by
  intro f
  have now : ∀ (f : Nat) (listed : Array Bool) (E : List Nat) (a : Act) (w : World), i ∈ Region.ready .any ops listed → Down ops listed → Seen listed E → Yd ops oi s v a → HoldOK P ops.toList H' E w →
      wpAnyD ro P ops Qx H' f (listed.setIfInBounds i true) E (a.put oi.dst v) w →
      wpOpIn (FF ro) 0 P ops Qx i (fun a' w' => HoldOK P ops.toList H (i :: E) w' ∧ wpAnyD ro P ops Qx H f (listed.setIfInBounds i true) (i :: E) a' w') a w := fun f listed E a w hr hd hse hy hok hh =>
    hy.wpOpIn hi (hpl i oi hi) (fun _ => hs listed E w hd hse (getD_true_false (mem_ready.1 hr).1).1 hok) ⟨hok.mono hH (fun j hj => List.mem_cons_of_mem _ hj), wpAnyD_mono hH f _ _ _ _ _ (fun j hj => List.mem_cons_of_mem _ hj) hh⟩
  induction f with
  | zero =>
    intro listed E a w _ hr hd hse hy hok hh
    refine ⟨fun h => (by rw [h] at hr; cases hr), fun j hj => ?_⟩
    by_cases hji : j = i
    · subst hji; exact now 0 listed E a w hr hd hse hy hok hh
    · have := ready_mono hj hji
      rw [hh.1] at this
      cases this
  | succ f ih =>
    intro listed E a w hfree hr hd hse hy hok hh
    refine ⟨fun h => (by rw [h] at hr; cases hr), fun j hj => ?_⟩
    by_cases hji : j = i
    · subst hji; exact now (f + 1) listed E a w hr hd hse hy hok hh
    · have h1 := hh.2 j (ready_mono hj hji)
      obtain ⟨hjun, oj, hoj, hall⟩ := mem_ready.1 hj
      have hnot : ∀ e ∈ oj.after, Region.binds .any e = true → e.on ≠ i := fun e he hb heq => by
        have h1 := hall e he hb
        have h0 := (getD_true_false (mem_ready.1 hr).1).1
        rw [heq, h0] at h1
        cases h1
      have h2 := wpOpIn_putD hoj (hfree j oj hoj hji hjun hnot) (hpl i oi hi) (hpl j oj hoj) hQ hy h1
      have hfree' : ∀ k ok, ops[k]? = some ok → k ≠ i → (listed.setIfInBounds j true).getD k true = false →
          (∀ e ∈ ok.after, Region.binds .any e = true → e.on ≠ i) → oi.apart ops ok = true := fun k ok hk hki hun hno => by
        refine hfree k ok hk hki ?_ hno
        by_cases hjk : j = k
        · subst hjk; exact hjun
        · rw [getD_set_ne true hjk] at hun; exact hun
      refine wpOpIn_mono (fun a' w' h3 => ⟨h3.2.1.mono hH (fun _ h => h), ih (listed.setIfInBounds j true) (j :: E) a' w' hfree' (ready_mono hr (Ne.symm hji)) (hd.set hj) (hse.cons (getD_true_false hjun).2) h3.1 h3.2.1 ?_⟩) h2
      rw [Array.setIfInBounds_comm _ _ hji]
      exact h3.2.2
/-! ### The formula's own lists -/
def Ls (ops : Array Oper) (listed : Array Bool) (ls : List Nat) : Prop := listed.size = ops.size ∧ ∀ j, listed.getD j false = memB j ls
theorem getD_true_of {listed : Array Bool} {j : Nat} (hj : j < listed.size) : listed.getD j true = listed.getD j false := by simp [hj]
theorem Ls.set {listed : Array Bool} {ls : List Nat} {i : Nat} (h : Ls ops listed ls) (hi : i < ops.size) : Ls ops (listed.setIfInBounds i true) (i :: ls) := by
  refine ⟨by simp [h.1], fun j => ?_⟩
  unfold memB
  cases hb : Nat.beq j i with
  | true =>
    rw [Nat.beq_eq] at hb
    subst hb
    simp [h.1, hi]
  | false =>
    have hne : i ≠ j := fun e => by rw [← e, show Nat.beq i i = true from by rw [Nat.beq_eq]] at hb; cases hb
    rw [getD_set_ne false hne, h.2 j]
    rfl
theorem rdy_iff {listed : Array Bool} {ls : List Nat} {i : Nat} (h : Ls ops listed ls) : rdy ops.toList ls i = true ↔ i ∈ Region.ready .any ops listed := by
  rw [mem_ready]
  unfold rdy
  rw [Array.getElem?_toList]
  constructor
  · intro hr
    cases hm : memB i ls with
    | true => simp [hm] at hr
    | false =>
      simp only [hm, cond_false] at hr
      cases ho : ops[i]? with
      | none => simp [ho] at hr
      | some o =>
        have hi : i < ops.size := (Array.getElem?_eq_some_iff.1 ho).1
        refine ⟨by rw [getD_true_of (by rw [h.1]; exact hi), h.2, hm], o, rfl, fun ed he hb => ?_⟩
        simp only [ho, List.all_eq_true, Bool.or_eq_true, Bool.not_eq_true'] at hr
        rw [h.2]
        rcases hr ed (Array.mem_toList_iff.2 he) with h1 | h1
        · rw [hb] at h1; cases h1
        · exact h1
  · rintro ⟨hun, o, ho, hall⟩
    have := getD_true_false hun
    rw [show memB i ls = false from by rw [← h.2]; exact this.1]
    simp only [cond_false, ho, List.all_eq_true, Bool.or_eq_true, Bool.not_eq_true']
    intro ed he
    cases hb : Region.binds .any ed with
    | false => exact .inl rfl
    | true => exact .inr (by rw [← h.2]; exact hall ed (Array.mem_toList_iff.1 he) hb)
theorem covers_spec {listed : Array Bool} {ls is : List Nat} (h : Ls ops listed ls) : ∀ k, covers ops.toList ls is k = true → ∀ i, i < k → i ∈ Region.ready .any ops listed → i ∈ is
  | 0, _, i, hi, _ => by omega
  | k + 1, hc, i, hi, hr => by
    unfold covers at hc
    simp only [Bool.and_eq_true] at hc
    by_cases hik : i = k
    · subst hik
      have := hc.1
      rw [(rdy_iff h).2 hr] at this
      exact memB_iff.1 this
    · exact covers_spec h k hc.2 i (by omega) hr
theorem ready_lt {listed : Array Bool} {i : Nat} (h : i ∈ Region.ready .any ops listed) : i < ops.size := by
  obtain ⟨_, o, ho, _⟩ := mem_ready.1 h
  exact (Array.getElem?_eq_some_iff.1 ho).1
theorem freeAt_spec {listed : Array Bool} {ls : List Nat} {i : Nat} {oi : Oper} (h : Ls ops listed ls) : ∀ (j : Nat) (l : List Oper), ops.toList.drop j = l → freeAt ops ls i oi j l = true →
    ∀ k ok, j ≤ k → ops[k]? = some ok → k ≠ i → listed.getD k true = false → (∀ e ∈ ok.after, Region.binds .any e = true → e.on ≠ i) → oi.apart ops ok = true
  | j, [], hl, _, k, ok, hjk, hk, _, _, _ => by
    have hlt := (Array.getElem?_eq_some_iff.1 hk).1
    have := congrArg List.length hl
    simp at this
    omega
  | j, o :: l, hl, hf, k, ok, hjk, hk, hne, hun, hno => by
    unfold freeAt at hf
    simp only [Bool.and_eq_true] at hf
    by_cases hjk' : j = k
    · subst hjk'
      have hko : ops[j]? = some o := by rw [← Array.getElem?_toList, ← List.head?_drop, hl]; rfl
      rw [hk] at hko
      cases hko
      have h1 := hf.1
      rw [show Nat.beq j i = false from by rw [← Bool.not_eq_true, Nat.beq_eq]; exact hne] at h1
      simp only [cond_false] at h1
      rw [show memB j ls = false from by rw [← h.2]; exact (getD_true_false hun).1] at h1
      simp only [cond_false] at h1
      cases ha : o.after.toList.any (fun ed => Region.binds .any ed && Nat.beq ed.on i) with
      | false => simpa only [ha, cond_false] using h1
      | true =>
        obtain ⟨ed, he, hb⟩ := List.any_eq_true.1 ha
        simp only [Bool.and_eq_true, Nat.beq_eq] at hb
        exact absurd hb.2 (hno ed (Array.mem_toList_iff.1 he) hb.1)
    · have hl2 : ops.toList.drop (j + 1) = l := by rw [← List.drop_drop, hl]; rfl
      exact freeAt_spec h (j + 1) l hl2 hf.2 k ok (by omega) hk hne hun hno
theorem allPlain_spec : ∀ {l : List Oper}, allPlain l = true → ∀ o ∈ l, plainB o = true
  | [], _, o, h => by cases h
  | x :: l, h, o, ho => by
    unfold allPlain at h
    simp only [Bool.and_eq_true] at h
    rcases List.mem_cons.1 ho with rfl | ho
    · exact h.1
    · exact allPlain_spec h.2 o ho
theorem anyE_false {l0 : List Oper} {i : Nat} : ∀ {E : List Nat}, anyE l0 i E = false ↔ ∀ j ∈ E, dirB l0 i j = false
  | [] => by simp [anyE]
  | j :: js => by
    unfold anyE
    cases hb : dirB l0 i j with
    | true => simp [hb]
    | false => simp [hb, anyE_false (E := js)]
theorem HoldK_spec {l0 : List Oper} {E : List Nat} {w : World} {r : Prop} : ∀ {H : Held}, HoldK P l0 E H w r → HoldOK P l0 H E w ∧ r
  | [], h => ⟨fun _ hx => (by cases hx), h⟩
  | x :: H, h => by
    unfold HoldK at h
    cases ha : anyE l0 x.1 E with
    | true =>
      simp only [ha, cond_true] at h
      obtain ⟨h1, h2⟩ := HoldK_spec h
      refine ⟨fun y hy hj => ?_, h2⟩
      rcases List.mem_cons.1 hy with rfl | hy
      · rw [anyE_false.2 hj] at ha; cases ha
      · exact h1 y hy hj
    | false =>
      simp only [ha, cond_false] at h
      obtain ⟨h1, h2⟩ := HoldK_spec h.2
      refine ⟨fun y hy hj => ?_, h2⟩
      rcases List.mem_cons.1 hy with rfl | hy
      · exact h.1
      · exact h1 y hy hj
theorem HoldK_mono {l0 : List Oper} {E : List Nat} {w : World} {r r' : Prop} (hr : r → r') : ∀ {H : Held}, HoldK P l0 E H w r → HoldK P l0 E H w r'
  | [], h => hr h
  | x :: H, h => by
    unfold HoldK at h ⊢
    cases ha : anyE l0 x.1 E with
    | true => simp only [ha, cond_true] at h ⊢; exact HoldK_mono hr h
    | false => simp only [ha, cond_false] at h ⊢; exact ⟨h.1, HoldK_mono hr h.2⟩
theorem pureA_spec {o : Oper} {e : Env} {K : Value → Prop} (h : pureA P n o e K) : ∃ s v, execOp (ev n e) o = lift s ∧ (∀ w, s.run P w = .ok v w) ∧ K v := by
  unfold pureA at h
  split at h
  · rename_i p hp
    obtain ⟨v, hx, hK⟩ := moveA_lift hp h
    exact ⟨_, v, hx, fun _ => rfl, hK⟩
  · split at h
    · rename_i s hs
      obtain ⟨v, hr, hK⟩ := h
      exact ⟨s, v, vsem_exec hs, hr, hK⟩
    · exact h.elim
theorem ready_nil {listed : Array Bool} {ls : List Nat} (h : Ls ops listed ls) (hc : covers ops.toList ls [] ops.toList.length = true) : Region.ready .any ops listed = [] := by
  cases hr : Region.ready .any ops listed with
  | nil => rfl
  | cons x xs =>
    have hx : x ∈ Region.ready .any ops listed := by rw [hr]; exact List.mem_cons_self
    have := covers_spec h _ hc x (by rw [Array.length_toList]; exact ready_lt hx) hx
    cases this
theorem okP_idxs {p : Plan} (h : okP p = true) : idxs p = [] := by
  cases p <;> first | rfl | (unfold okP at h; cases h)
/-- What is asked of a formula's plan, and what it gives. -/
def Main (ro : Option Nat) (P : Program) (n : Nat) (ops : Array Oper) (Qx : Exit → Act → World → Prop) (p : Plan) : Prop :=
  ∀ (f : Nat) (H : Held) (ls E : List Nat) (K : Env → World → Prop) (e : Env) (a : Act) (w : World) (listed : Array Bool), Ls ops listed ls → Down ops listed → Seen listed E → Agree n e a → HoldOK P ops.toList H E w →
    (∀ e' w' a', K e' w' → Agree n e' a' → Qx .normal a' w') → drawA P n ops p f H ls E K e w → wpAnyD ro P ops Qx H f listed E a w
def Chain (ro : Option Nat) (P : Program) (n : Nat) (ops : Array Oper) (Qx : Exit → Act → World → Prop) (p : Plan) : Prop :=
  ∀ (f : Nat) (H : Held) (ls E : List Nat) (K : Env → World → Prop) (e : Env) (a : Act) (w : World) (listed : Array Bool), Ls ops listed ls → Down ops listed → Seen listed E → Agree n e a → HoldOK P ops.toList H E w →
    (∀ e' w' a', K e' w' → Agree n e' a' → Qx .normal a' w') → drawA P n ops p f H ls E K e w → ∀ i ∈ idxs p, i ∈ Region.ready .any ops listed →
      ∃ f', f = f' + 1 ∧ wpOpIn (FF ro) 0 P ops Qx i (fun a' w' => HoldOK P ops.toList H (i :: E) w' ∧ wpAnyD ro P ops Qx H f' (listed.setIfInBounds i true) (i :: E) a' w') a w
theorem main_take (hQ : ∀ c a w, Qx (.panic c) a w → False) (hpl : ∀ (j : Nat) o, ops[j]? = some o → plainB o = true) {H H' : Held} {ls E : List Nat} {f i : Nat} {o : Oper} {K : Env → World → Prop} {p : Plan} {e : Env} {a : Act} {w : World} {listed : Array Bool}
    (ih : Main ro P n ops Qx p) (hl : Ls ops listed ls) (hd : Down ops listed) (hse : Seen listed E) (ha : Agree n e a) (hok : HoldOK P ops.toList H' E w) (hH : ∀ x ∈ H, x ∈ H')
    (hk : ∀ e' w' a', K e' w' → Agree n e' a' → Qx .normal a' w') (ho : ops[i]? = some o) (hc : rdy ops.toList ls i = true) (hf : freeAt ops ls i o 0 ops.toList = true) (s : Sem Value) (v : Value)
    (hs : ∀ listed' E' w', Down ops listed' → Seen listed' E' → listed'.getD i false = false → HoldOK P ops.toList H' E' w' → s.run P w' = .ok v w') (hy : Yd ops o s v a)
    (h : dstA n o e v (fun e' => drawA P n ops p f H' (i :: ls) E K e' w)) : wpAnyD ro P ops Qx H (f + 1) listed E a w := by
  have hr := (rdy_iff hl).1 hc
  have hi := ready_lt hr
  obtain ⟨e', h2, _, h4⟩ := dstA_spec h
  exact takeD ho hpl hQ hH hs f listed E a w (fun j oj => freeAt_spec hl 0 ops.toList (by simp) hf j oj (Nat.zero_le _)) hr hd hse hy hok
    (ih f H' (i :: ls) E K e' _ w _ (hl.set hi) (hd.set hr) hse.set (h4 a ha) hok hk h2)
theorem main_eff {H : Held} {ls E : List Nat} {f i : Nat} {o : Oper} {K : Env → World → Prop} {p : Plan} {e : Env} {a : Act} {w : World} {listed : Array Bool}
    (ih : Main ro P n ops Qx p) (hl : Ls ops listed ls) (hd : Down ops listed) (hse : Seen listed E) (ha : Agree n e a)
    (hk : ∀ e' w' a', K e' w' → Agree n e' a' → Qx .normal a' w') (ho : ops[i]? = some o) (hr : i ∈ Region.ready .any ops listed) (hw : wantE n ops.toList o e = true)
    (h : valA P n o e w (fun v w' => HoldK P ops.toList (i :: E) H w' (dstA n o e v fun e' => drawA P n ops p f H (i :: ls) (i :: E) K e' w'))) :
    wpOpIn (FF ro) 0 P ops Qx i (fun a' w' => HoldOK P ops.toList H (i :: E) w' ∧ wpAnyD ro P ops Qx H f (listed.setIfInBounds i true) (i :: E) a' w') a w := by
  have hi := ready_lt hr
  unfold wpOpIn
  simp only [ho, wanted_E ha, hw, if_true]
  refine valA_sound ha h fun v w' h1 => ?_
  obtain ⟨h2, h3⟩ := HoldK_spec h1
  obtain ⟨e', h4, _, h5⟩ := dstA_spec h3
  exact ⟨h2, ih f H (i :: ls) (i :: E) K e' _ w' _ (hl.set hi) (hd.set hr) (hse.cons (by rw [hl.1]; exact hi)) (h5 a ha) h2 hk h4⟩
/-- **A REGION IN WHATEVER ORDER.** -/
theorem drawA_sound (hQ : ∀ c a w, Qx (.panic c) a w → False) (hpl : allPlain ops.toList = true) (p : Plan) :
    (okP p = true → Main ro P n ops Qx p) ∧ (okC p = true → Chain ro P n ops Qx p) := by
  have hpl' : ∀ (j : Nat) o, ops[j]? = some o → plainB o = true := fun j o ho => allPlain_spec hpl o (Array.mem_toList_iff.2 (Array.mem_of_getElem? ho))
  induction p with
  | done =>
    refine ⟨fun _ f H ls E K e a w listed hl hd hse ha hok hk h => ?_, fun h => (by unfold okC at h; cases h)⟩
    unfold drawA at h
    cases hc : covers ops.toList ls [] ops.toList.length with
    | false => rw [hc] at h; exact h.elim
    | true =>
      rw [hc] at h
      have hn := ready_nil hl hc
      cases f with
      | zero => exact ⟨hn, hk _ _ _ h ha⟩
      | succ f => exact ⟨fun _ => hk _ _ _ h ha, by rw [hn]; intro i hi; cases hi⟩
  | take i p ih =>
    refine ⟨fun hp f H ls E K e a w listed hl hd hse ha hok hk h => ?_, fun h => (by unfold okC at h; cases h)⟩
    cases f with
    | zero => unfold drawA at h; exact h.elim
    | succ f =>
      unfold drawA at h
      rw [Array.getElem?_toList] at h
      cases ho : ops[i]? with
      | none => simp [ho] at h
      | some o =>
        simp only [ho] at h
        cases hc : rdy ops.toList ls i && freeAt ops ls i o 0 ops.toList with
        | false => simp [hc] at h
        | true =>
          simp only [hc, cond_true] at h
          simp only [Bool.and_eq_true] at hc
          have ihp : Main ro P n ops Qx p := ih.1 (by unfold okP at hp; exact hp)
          cases hw : wantE n ops.toList o e with
          | true =>
            simp only [hw, cond_true] at h
            obtain ⟨s, v, hx, hs, h1⟩ := pureA_spec h
            exact main_take hQ hpl' ihp hl hd hse ha hok (fun _ h => h) hk ho hc.1 hc.2 s v (fun _ _ w' _ _ _ _ => hs w') (.inl ⟨by rw [wanted_E ha]; exact hw, by rw [ha.evf]; exact hx⟩) h1
          | false =>
            simp only [hw, cond_false] at h
            exact main_take hQ hpl' ihp hl hd hse ha hok (fun _ h => h) hk ho hc.1 hc.2 (.pure undef) undef (fun _ _ w' _ _ _ _ => rfl) (.inr ⟨by rw [wanted_E ha]; exact hw, rfl⟩) h
  | hold i p ih =>
    refine ⟨fun hp f H ls E K e a w listed hl hd hse ha hok hk h => ?_, fun h => (by unfold okC at h; cases h)⟩
    cases f with
    | zero => unfold drawA at h; exact h.elim
    | succ f =>
      unfold drawA at h
      rw [Array.getElem?_toList] at h
      cases ho : ops[i]? with
      | none => simp [ho] at h
      | some o =>
        simp only [ho] at h
        cases hc : rdy ops.toList ls i && freeAt ops ls i o 0 ops.toList && wantE n ops.toList o e with
        | false => simp [hc] at h
        | true =>
          simp only [hc, cond_true] at h
          simp only [Bool.and_eq_true] at hc
          have ihp : Main ro P n ops Qx p := ih.1 (by unfold okP at hp; exact hp)
          split at h
          · rename_i s hs
            obtain ⟨v, hr, h1⟩ := h
            refine main_take (H' := (i, s, v) :: H) hQ hpl' ihp hl hd hse ha ?_ (fun x hx => List.mem_cons_of_mem _ hx) hk ho hc.1.1 hc.1.2 s v ?_ (.inl ⟨by rw [wanted_E ha]; exact hc.2, by rw [ha.evf]; exact vsem_exec hs⟩) h1
            · intro x hx hj
              rcases List.mem_cons.1 hx with rfl | hx
              · exact hr
              · exact hok x hx hj
            · intro listed' E' w' hd' hse' hun hok'
              exact hok' (i, s, v) List.mem_cons_self fun j hj => dirB_false hd' (hse' j hj) hun
          · exact h.elim
  | alts p ih =>
    refine ⟨fun hp f H ls E K e a w listed hl hd hse ha hok hk h => ?_, fun h => (by unfold okC at h; cases h)⟩
    unfold okP at hp
    unfold drawA at h
    cases hc : covers ops.toList ls (idxs p) ops.toList.length && fstRdy ops.toList ls (idxs p) with
    | false => rw [hc] at h; exact h.elim
    | true =>
      rw [hc] at h
      simp only [Bool.and_eq_true] at hc
      have hch := ih.2 hp f H ls E K e a w listed hl hd hse ha hok hk h
      have hcov : ∀ i ∈ Region.ready .any ops listed, i ∈ idxs p := fun i hi => covers_spec hl _ hc.1 i (by rw [Array.length_toList]; exact ready_lt hi) hi
      have hone : ∃ i, i ∈ idxs p ∧ i ∈ Region.ready .any ops listed := by
        have h2 := hc.2
        cases hx : idxs p with
        | nil => rw [hx] at h2; cases h2
        | cons i is => rw [hx] at h2; exact ⟨i, List.mem_cons_self, (rdy_iff hl).1 h2⟩
      obtain ⟨i, hi, hr⟩ := hone
      obtain ⟨f', rfl, _⟩ := hch i hi hr
      refine ⟨fun hn => (by rw [hn] at hr; cases hr), fun j hj => ?_⟩
      obtain ⟨f'', hf, hj'⟩ := hch j (hcov j hj) hj
      cases hf
      exact hj'
  | eff i p r ihp ihr =>
    refine ⟨fun h => (by unfold okP at h; cases h), fun hp f H ls E K e a w listed hl hd hse ha hok hk h j hj hr => ?_⟩
    unfold okC at hp
    simp only [Bool.and_eq_true] at hp
    cases f with
    | zero => cases r <;> (unfold drawA at h; exact h.elim)
    | succ f =>
      have hsplit : (∃ o, ops[i]? = some o ∧ wantE n ops.toList o e = true ∧ valA P n o e w (fun v w' => HoldK P ops.toList (i :: E) H w' (dstA n o e v fun e' => drawA P n ops p f H (i :: ls) (i :: E) K e' w'))) ∧
          (r = .nil ∨ drawA P n ops r (f + 1) H ls E K e w) := by
        cases r <;> (
          unfold drawA at h
          rw [Array.getElem?_toList] at h
          cases ho : ops[i]? with
          | none => simp [ho] at h
          | some o =>
            simp only [ho] at h
            cases hw : wantE n ops.toList o e with
            | false => simp [hw] at h
            | true =>
              simp only [hw, cond_true] at h
              first
                | exact ⟨⟨o, rfl, hw, h⟩, .inl rfl⟩
                | exact ⟨⟨o, rfl, hw, h.1⟩, .inr h.2⟩)
      obtain ⟨⟨o, ho, hw, h1⟩, h2⟩ := hsplit
      rcases List.mem_cons.1 hj with rfl | hj
      · exact ⟨f, rfl, main_eff (ihp.1 hp.1) hl hd hse ha hk ho hr hw h1⟩
      · rcases h2 with rfl | h2
        · cases hj
        · exact ihr.2 hp.2 (f + 1) H ls E K e a w listed hl hd hse ha hok hk h2 j hj hr
  | nil => exact ⟨fun h => (by unfold okP at h; cases h), fun _ f H ls E K e a w listed _ _ _ _ _ _ _ i hi => by cases hi⟩
  | split d p q ihp ihq =>
    refine ⟨fun hp f H ls E K e a w listed hl hd hse ha hok hk h => ?_, fun h => (by unfold okC at h; cases h)⟩
    unfold okP at hp
    simp only [Bool.and_eq_true] at hp
    unfold drawA at h
    obtain ⟨b, hb, h1, h2⟩ := h
    have hde : e d = .bool b := by
      unfold ev at hb
      cases hlt : Nat.blt d n with
      | true => simpa only [hlt, cond_true] using hb
      | false => simp only [hlt, cond_false, undef] at hb; cases hb
    cases b with
    | true => exact ihp.1 hp.1 f H ls E K _ a w listed hl hd hse (ha.again d _ hde) hok hk (h1 rfl)
    | false => exact ihq.1 hp.2 f H ls E K _ a w listed hl hd hse (ha.again d _ hde) hok hk (h2 rfl)
end
end Go.Proofs.Ytjnckainogpenaa.Q
