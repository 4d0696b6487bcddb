/- Memory: what is frozen, what is owned; the rules of the operations. -/
import Derived.Test.YtjnckainogpenaaQ6
import Derived.Below
set_option linter.unusedVariables false
set_option linter.unusedSimpArgs false
namespace Go.Proofs.Ytjnckainogpenaa
open Go Q Go.RowKit
set_option maxRecDepth 20000

/-! ### 1. Frozen memory and owned blocks -/
/-- A part of memory that is never written any more. -/
abbrev Z := Nat → Option Obj
abbrev Bl := List (Nat × Obj)
def Sub (z : Z) (w : World) : Prop := ∀ b o, z b = some o → w.heap[b]? = some o
def Le (z z' : Z) : Prop := ∀ b o, z b = some o → z' b = some o
theorem Le.refl (z : Z) : Le z z := fun _ _ h => h
theorem Le.trans {a b c : Z} (h : Le a b) (h' : Le b c) : Le a c := fun _ _ hh => h' _ _ (h _ _ hh)
def ids (B : Bl) : List Nat := B.map (·.1)
/-- From world w0, with z0 frozen and the blocks B0 owned, to world w, with z frozen and the blocks L owned: nothing else has changed. -/
class Res (w0 : outParam World) (z0 : outParam Z) (B0 : outParam Bl) (w : World) (z : outParam Z) (L : outParam Bl) : Prop where
  os : w.os = w0.os
  tape : w.tape = w0.tape
  output : w.output = w0.output
  size : w0.heap.size ≤ w.heap.size
  base : ∀ b, b < w0.heap.size → b ∉ ids B0 → w.heap[b]? = w0.heap[b]?
  sub : Sub z w
  zle : Le z0 z
  znew : ∀ b, z b ≠ none → z0 b ≠ none ∨ w0.heap.size ≤ b ∨ b ∈ ids B0
  mem : ∀ p ∈ L, w.heap[p.1]? = some p.2 ∧ z p.1 = none ∧ (w0.heap.size ≤ p.1 ∨ p.1 ∈ ids B0)
  nodup : (ids L).Nodup
/-- What holds where a call begins. -/
abbrev Own (w : World) (z : Z) (B : Bl) : Prop := Res w z B w z B
theorem mem_ids {B : Bl} {p : Nat × Obj} (h : p ∈ B) : p.1 ∈ ids B := List.mem_map.2 ⟨p, h, rfl⟩
theorem Own.mk' {w : World} {z : Z} {B : Bl} (h1 : Sub z w) (h2 : ∀ p ∈ B, w.heap[p.1]? = some p.2 ∧ z p.1 = none) (h3 : (ids B).Nodup) : Own w z B :=
  ⟨rfl, rfl, rfl, Nat.le_refl _, fun _ _ _ => rfl, h1, Le.refl _, fun b h => .inl h, fun p hp => ⟨(h2 p hp).1, (h2 p hp).2, .inr (mem_ids hp)⟩, h3⟩
theorem lt_of_get {w : World} {b : Nat} {o : Obj} (h : w.heap[b]? = some o) : b < w.heap.size := (Array.getElem?_eq_some_iff.1 h).1
section
variable {w0 w w' : World} {z0 z z' : Z} {B0 B B' L F : Bl} {b : Nat} {o : Obj}
theorem Res.drop (h : Res w0 z0 B0 w z L) : Res w0 z0 B0 w z [] := { h with mem := fun _ hp => (by cases hp), nodup := .nil }
theorem Res.sublist (h : Res w0 z0 B0 w z L) {L' : Bl} (hs : L'.Sublist L) : Res w0 z0 B0 w z L' :=
  { h with mem := fun p hp => h.mem p (hs.subset hp), nodup := (hs.map _).nodup h.nodup }
theorem Res.perm (h : Res w0 z0 B0 w z L) {L' : Bl} (hs : L.Perm L') : Res w0 z0 B0 w z L' :=
  { h with mem := fun p hp => h.mem p (hs.mem_iff.2 hp), nodup := (hs.map _).nodup_iff.1 h.nodup }
theorem Res.own (h : Res w0 z0 B0 w z (B ++ F)) : Own w z B :=
  Own.mk' h.sub (fun p hp => ⟨(h.mem p (List.mem_append_left _ hp)).1, (h.mem p (List.mem_append_left _ hp)).2.1⟩) (by
    have := h.nodup
    simp only [ids, List.map_append] at this
    exact (List.nodup_append.1 this).1)
/-- A call on a part of the blocks: the others are as they were. -/
theorem Res.step (h : Res w0 z0 B0 w z (B ++ F)) (k : Res w z B w' z' B') : Res w0 z0 B0 w' z' (B' ++ F) where
  os := k.os.trans h.os
  tape := k.tape.trans h.tape
  output := k.output.trans h.output
  size := Nat.le_trans h.size k.size
  base := fun b hb hn => by
    have hb' : b < w.heap.size := Nat.lt_of_lt_of_le hb h.size
    rw [k.base b hb' fun hB => ?_, h.base b hb hn]
    obtain ⟨p, hp, rfl⟩ := List.mem_map.1 hB
    rcases (h.mem p (List.mem_append_left _ hp)).2.2 with hh | hh
    · omega
    · exact hn hh
  sub := k.sub
  zle := h.zle.trans k.zle
  znew := fun b hb => by
    rcases k.znew b hb with hh | hh | hh
    · exact h.znew b hh
    · exact .inr (.inl (Nat.le_trans h.size hh))
    · obtain ⟨p, hp, rfl⟩ := List.mem_map.1 hh
      exact .inr (h.mem p (List.mem_append_left _ hp)).2.2
  mem := fun p hp => by
    rcases List.mem_append.1 hp with hp | hp
    · obtain ⟨h1, h2, h3⟩ := k.mem p hp
      refine ⟨h1, h2, ?_⟩
      rcases h3 with hh | hh
      · exact .inl (Nat.le_trans h.size hh)
      · obtain ⟨q, hq, hqp⟩ := List.mem_map.1 hh
        rw [← hqp]
        exact (h.mem q (List.mem_append_left _ hq)).2.2
    · obtain ⟨h1, h2, h3⟩ := h.mem p (List.mem_append_right _ hp)
      have hlt := lt_of_get h1
      have hnB : p.1 ∉ ids B := fun hB => by
        have := h.nodup
        simp only [ids, List.map_append] at this
        exact (List.nodup_append.1 this).2.2 _ hB _ (mem_ids hp) rfl
      refine ⟨by rw [k.base _ hlt hnB]; exact h1, ?_, h3⟩
      cases hz : z' p.1 with
      | none => rfl
      | some o =>
        rcases k.znew p.1 (by rw [hz]; simp) with hh | hh | hh
        · exact absurd h2 hh
        · omega
        · exact absurd hh hnB
  nodup := by
    simp only [ids, List.map_append]
    refine List.nodup_append.2 ⟨k.nodup, ?_, fun a ha b hb hab => ?_⟩
    · have := h.nodup
      simp only [ids, List.map_append] at this
      exact (List.nodup_append.1 this).2.1
    · subst hab
      obtain ⟨p, hp, rfl⟩ := List.mem_map.1 ha
      obtain ⟨q, hq, hqp⟩ := List.mem_map.1 hb
      have hq' := h.mem q (List.mem_append_right _ hq)
      rcases (k.mem p hp).2.2 with hh | hh
      · have := lt_of_get hq'.1
        omega
      · have := h.nodup
        simp only [ids, List.map_append] at this
        exact (List.nodup_append.1 this).2.2 _ hh _ (mem_ids hq) hqp.symm
theorem Res.call1 (h : Res w0 z0 B0 w z L) (k : Res w z [] w' z' []) : Res w0 z0 B0 w' z' L := Res.step (B := []) (B' := []) h k
/-- A new block. -/
theorem Res.new (h : Res w0 z0 B0 w z L) (o : Obj) : Res w0 z0 B0 { w with heap := w.heap.push o } z ((w.heap.size, o) :: L) := by
  refine Res.step (B := []) (B' := [(w.heap.size, o)]) h ⟨rfl, rfl, rfl, by simp, fun b hb _ => ?_, fun b o' hz => ?_, Le.refl _, fun b hb => .inl hb, fun p hp => ?_, by simp [ids]⟩
  · simp [Array.getElem?_push, Nat.ne_of_lt hb]
  · have := lt_of_get (h.sub b o' hz)
    simp [Array.getElem?_push, Nat.ne_of_lt this]
    exact h.sub b o' hz
  · simp only [List.mem_singleton] at hp
    subst hp
    refine ⟨by simp, ?_, .inl (Nat.le_refl _)⟩
    cases hz : z w.heap.size with
    | none => rfl
    | some o' => have := lt_of_get (h.sub _ _ hz); omega
/-- An owned block is written. -/
theorem Res.put (h : Res w0 z0 B0 w z ((b, o) :: L)) (o' : Obj) {wn : World} (hw : wn = { w with heap := w.heap.setIfInBounds b o' }) : Res w0 z0 B0 wn z ((b, o') :: L) := by
  subst hw
  have hb := h.mem (b, o) List.mem_cons_self
  have hlt := lt_of_get hb.1
  have hk : Own w z [(b, o)] := Res.own (F := L) h
  refine Res.step (B := [(b, o)]) (B' := [(b, o')]) h ⟨rfl, rfl, rfl, by simp, fun c hc hn => ?_, fun c o'' hz => ?_, Le.refl _, fun c hc => .inl hc, fun p hp => ?_, by simp [ids]⟩
  · have : b ≠ c := fun e => hn (by simp [ids, e])
    simp [Array.getElem?_setIfInBounds_ne this]
  · have : b ≠ c := fun e => by rw [e] at hb; rw [hb.2.1] at hz; cases hz
    simp [Array.getElem?_setIfInBounds_ne this]
    exact h.sub c o'' hz
  · simp only [List.mem_singleton] at hp
    subst hp
    exact ⟨by simp [hlt], hb.2.1, .inr (by simp [ids])⟩
/-- An owned block is frozen. -/
theorem Res.freeze (h : Res w0 z0 B0 w z ((b, o) :: L)) : Res w0 z0 B0 w (fun c => if c = b then some o else z c) L := by
  have hb := h.mem (b, o) List.mem_cons_self
  refine { h with sub := fun c o' hc => ?_, zle := fun c o' hc => ?_, znew := fun c hc => ?_, mem := fun p hp => ?_, nodup := ?_ }
  · by_cases hcb : c = b
    · simp only [hcb, if_true, Option.some.injEq] at hc; subst hc; rw [hcb]; exact hb.1
    · simp only [hcb, if_false] at hc; exact h.sub c o' hc
  · by_cases hcb : c = b
    · have := h.zle c o' hc; rw [hcb, hb.2.1] at this; cases this
    · simp only [hcb, if_false]; exact h.zle c o' hc
  · by_cases hcb : c = b
    · rw [hcb]; exact .inr hb.2.2
    · simp only [hcb, if_false] at hc; exact h.znew c hc
  · have hp' := h.mem p (List.mem_cons_of_mem _ hp)
    have hne : p.1 ≠ b := fun e => by
      have := h.nodup
      simp only [ids, List.map_cons, List.nodup_cons] at this
      exact this.1 (e ▸ mem_ids hp)
    exact ⟨hp'.1, by simp only [hne, if_false]; exact hp'.2.1, hp'.2.2⟩
  · have := h.nodup
    simp only [ids, List.map_cons, List.nodup_cons] at this
    exact this.2
theorem Res.freeze_le (h : Res w0 z0 B0 w z ((b, o) :: L)) : Le z (fun c => if c = b then some o else z c) := fun c o' hc => by
  by_cases hcb : c = b
  · rw [hcb, (h.mem (b, o) List.mem_cons_self).2.1] at hc; cases hc
  · simp only [hcb, if_false]; exact hc
theorem Res.drew (h : Res w0 z0 B0 w z L) : Res w0 z0 B0 { w with drawn := w.drawn + 1 } z L := { h with }
theorem Res.below (h : Res w0 z0 [] w z L) : Below w0.heap.size w0 w := ⟨h.os, h.tape, h.output, h.size, fun b hb => h.base b hb (by simp [ids])⟩
end

/-! ### 2. What a call does -/
/-- A call that leaves all owned blocks alone: 'R' of what is frozen behind it, and of its value. -/
def Fn1 (f : FuncId) (args : Array Value) (z : Z) (w : World) (R : Z → Value → Prop) : Prop :=
  Own w z [] → Calls Try.prog f args w (retK fun v w' => ∃ z', Res w z [] w' z' [] ∧ R z' v)
/-- A call that is handed the blocks B. -/
def Fn (f : FuncId) (args : Array Value) (z : Z) (B : Bl) (w : World) (R : Z → Bl → Value → Prop) : Prop :=
  Own w z B → Calls Try.prog f args w (retK fun v w' => ∃ z' B', Res w z B w' z' B' ∧ R z' B' v)
/-- The same of a function's value. -/
def Va1 (f : Value) (args : Array Value) (z : Z) (w : World) (R : Z → Value → Prop) : Prop :=
  Own w z [] → CV f args w (fun v w' => ∃ z', Res w z [] w' z' [] ∧ R z' v)
def Va (f : Value) (args : Array Value) (z : Z) (B : Bl) (w : World) (R : Z → Bl → Value → Prop) : Prop :=
  Own w z B → CV f args w (fun v w' => ∃ z' B', Res w z B w' z' B' ∧ R z' B' v)
/-- The function's number leads to its body. -/
class Enters (f : FuncId) : Prop where
  h : ∀ args w, (callFunc f args).run Try.prog w = .ok (.enter f args) w
theorem CV_enter {f : FuncId} [he : Enters f] {first args cap args' : Array Value} {w : World} {K : Value → World → Prop} (ha : first ++ args ++ cap = args') (h : Calls Try.prog f args' w (retK K)) :
    CV (.func (.func f) first cap) args w K := by
  subst ha
  have : (callSem (.func (.func f) first cap) args).run Try.prog w = .ok (.enter f (first ++ args ++ cap)) w := by
    simp only [callSem, Deferred.ofValue, pure_bind, invoke]
    exact he.h _ _
  unfold CV CallV
  rw [this]
  exact h
section
variable {w0 w : World} {z0 z : Z} {B0 B L F : Bl} {f : FuncId} {args args' first cap : Array Value} {K : Value → World → Prop}
theorem CV_fn1 [Enters f] (hS : Res w0 z0 B0 w z L) {R : Z → Value → Prop} (h : Fn1 f args' z w R) (ha : first ++ args ++ cap = args') (hK : ∀ z' w' v, Le z z' → Res w0 z0 B0 w' z' L → R z' v → K v w') :
    CV (.func (.func f) first cap) args w K := by
  refine CV_enter ha ?_
  refine Calls.mono (h (Res.own (B := []) hS)) ?_
  refine retK.mono ?_
  rintro v w' ⟨z', h1, h2⟩
  exact hK z' w' v h1.zle (hS.call1 h1) h2
theorem CV_fn [Enters f] (hS : Res w0 z0 B0 w z (B ++ F)) {R : Z → Bl → Value → Prop} (h : Fn f args' z B w R) (ha : first ++ args ++ cap = args') (hK : ∀ z' B' w' v, Le z z' → Res w0 z0 B0 w' z' (B' ++ F) → R z' B' v → K v w') :
    CV (.func (.func f) first cap) args w K := by
  refine CV_enter ha ?_
  refine Calls.mono (h hS.own) ?_
  refine retK.mono ?_
  rintro v w' ⟨z', B', h1, h2⟩
  exact hK z' B' w' v h1.zle (hS.step h1) h2
theorem CV_va1 {g : Value} (hS : Res w0 z0 B0 w z L) {R : Z → Value → Prop} (h : Va1 g args z w R) (hK : ∀ z' w' v, Le z z' → Res w0 z0 B0 w' z' L → R z' v → K v w') : CV g args w K := by
  refine CallV.mono (h (Res.own (B := []) hS)) ?_
  rintro v w' ⟨z', h1, h2⟩
  exact hK z' w' v h1.zle (hS.call1 h1) h2
theorem CV_va {g : Value} (hS : Res w0 z0 B0 w z (B ++ F)) {R : Z → Bl → Value → Prop} (h : Va g args z B w R) (hK : ∀ z' B' w' v, Le z z' → Res w0 z0 B0 w' z' (B' ++ F) → R z' B' v → K v w') : CV g args w K := by
  refine CallV.mono (h hS.own) ?_
  rintro v w' ⟨z', B', h1, h2⟩
  exact hK z' B' w' v h1.zle (hS.step h1) h2
theorem Fn1.va [Enters f] {R : Z → Value → Prop} (h : Fn1 f args' z w R) (ha : first ++ args ++ cap = args') : Va1 (.func (.func f) first cap) args z w R :=
  fun ho => CV_enter ha (h ho)
theorem Fn.va [Enters f] {R : Z → Bl → Value → Prop} (h : Fn f args' z B w R) (ha : first ++ args ++ cap = args') : Va (.func (.func f) first cap) args z B w R :=
  fun ho => CV_enter ha (h ho)
end
end Go.Proofs.Ytjnckainogpenaa
