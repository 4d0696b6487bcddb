/- A reading of a translated function's code as one formula: regions, in the text's order and in whatever order. -/
import Derived.Test.YtjnckainogpenaaQ1
import Derived.OrdersHeld
set_option linter.unusedVariables false
set_option linter.unusedSimpArgs false
namespace Go.Proofs.Ytjnckainogpenaa.Q
open Go

/-! ### A region in the text's order -/
inductive Items where
  | done
  | op (rest : Items)
  | split (d : Nat) (p q : Items)
  | join (live ms : List Nat) (sub rest : Items)
def opn : Nat → Items → Items
  | 0, r => r
  | k + 1, r => .op (opn k r)
def cnt : Items → Nat
  | .done => 0
  | .op r => cnt r + 1
  | .split _ p _ => cnt p
  | .join _ _ s r => cnt s + cnt r
def dsts : List Oper → List Nat
  | [] => []
  | o :: l => match o.dst with
    | some d => d :: dsts l
    | none => dsts l
def isB (v : Value) (b : Bool) : Bool :=
  match v with
  | .bool c => bif b then c else !c
  | _ => false
def wantE (n : Nat) (l0 : List Oper) (o : Oper) (e : Env) : Bool :=
  match o.guard with
  | none => true
  | some (j, want) => match (l0[j]?).bind (·.dst) with
    | some d => isB (ev n e (.tmp d)) want
    | none => false
def opsA (P : Program) (n : Nat) (l0 : List Oper) : Items → List Oper → (List Oper → Env → World → Prop) → Env → World → Prop
  | .done, l, K, e, w => K l e w
  | .op r, o :: l, K, e, w => bif wantE n l0 o e then valA P n o e w (fun v w' => dstA n o e v fun e' => opsA P n l0 r l K e' w') else dstA n o e undef fun e' => opsA P n l0 r l K e' w
  | .op _, [], _, _, _ => False
  | .split d p q, l, K, e, w => bif Nat.beq (cnt p) (cnt q) then CondW (ev n e (.tmp d)) (opsA P n l0 p l K (upd e d (.bool true)) w) (opsA P n l0 q l K (upd e d (.bool false)) w) else False
  | .join live ms sub rest, l, K, e, w => bif subB (dsts (l.take (cnt sub))) ms && (subB live ms && subB ms (dsts (l.take (cnt sub)))) then
      ∀ Kj : List Value → World → Prop, AllV live.length (fun vs => ∀ w, (∀ g : Env, opsA P n l0 rest (l.drop (cnt sub)) K (mix live vs ms g e) w) → Kj vs w) →
        opsA P n l0 sub l (fun _ e' w' => Kj (live.map e') w') e w
      else False

theorem isB_iff {v : Value} {b : Bool} : isB v b = true ↔ v = .bool b := by
  unfold isB
  split
  · cases b <;> simp
  · rename_i h; constructor
    · intro hh; cases hh
    · intro hh; exact absurd hh (h _)
theorem wanted_E {n : Nat} {ops : Array Oper} {o : Oper} {e : Env} {a : Act} (ha : Agree n e a) : Region.wanted o (yielded ops a.tmps) = wantE n ops.toList o e := by
  unfold Region.wanted wantE
  cases o.guard with
  | none => rfl
  | some jw =>
    obtain ⟨j, want⟩ := jw
    simp only [Array.getElem?_toList]
    unfold yielded
    cases hd : (ops[j]?).bind (·.dst) with
    | none => cases want <;> rfl
    | some d =>
      simp only [Option.bind_some, ev]
      by_cases h : d < n
      · rw [blt_true h, cond_true, ← ha.at_ d h]
        have hs : d < a.tmps.size := by rw [ha.size]; exact h
        rw [Array.getD_eq_getD_getElem?, Array.getElem?_eq_getElem hs]
        simp only [Option.getD_some]
        cases a.tmps[d] <;> simp [isB]
        cases want <;> simp [isB] <;> rename_i b <;> cases b <;> simp
      · have hs : a.tmps.size ≤ d := by rw [ha.size]; exact Nat.le_of_not_lt h
        rw [blt_false h, cond_false, Array.getElem?_eq_none hs]
        cases want <;> rfl
theorem dstA_mono {n : Nat} {o : Oper} {e : Env} {v : Value} {K K' : Env → Prop} (h : dstA n o e v K) (hk : ∀ e', K e' → K' e') : dstA n o e v K' := by
  unfold dstA at h ⊢
  split at h
  · rename_i d hd
    cases hb : Nat.blt d n with
    | false => simp [hb] at h
    | true => simp only [hb, cond_true] at h ⊢; exact hk _ h
  · exact hk _ h
/-- What a result's writing leaves: an environment that parts in that slot alone; the frame follows. -/
theorem dstA_spec {n : Nat} {o : Oper} {e : Env} {v : Value} {K : Env → Prop} (h : dstA n o e v K) :
    ∃ e', K e' ∧ (∀ i, i ∉ dsts [o] → e' i = e i) ∧ ∀ a, Agree n e a → Agree n e' (a.put o.dst v) := by
  unfold dstA at h
  split at h
  · rename_i d hd
    cases hb : Nat.blt d n with
    | false => simp [hb] at h
    | true =>
      simp only [hb, cond_true] at h
      refine ⟨_, h, fun i hi => upd_ne _ _ _ (fun hid => hi (by simp [dsts, hd, hid])), fun a ha => ?_⟩
      rw [hd]
      exact ha.put (blt_iff.1 hb) v
  · rename_i hd
    exact ⟨e, h, fun _ _ => rfl, fun a ha => by rw [hd]; exact ha⟩
theorem dsts_cons (o : Oper) (l : List Oper) : dsts (o :: l) = dsts [o] ++ dsts l := by
  simp only [dsts]; cases o.dst <;> simp
theorem dsts_append : ∀ l m : List Oper, dsts (l ++ m) = dsts l ++ dsts m
  | [], m => by simp [dsts]
  | o :: l, m => by rw [List.cons_append, dsts_cons, dsts_append l m, dsts_cons o l, List.append_assoc]
theorem opsA_mono {P : Program} {n : Nat} {l0 : List Oper} : ∀ (it : Items) (l : List Oper) {K K' : List Oper → Env → World → Prop} (e : Env) (w : World),
    opsA P n l0 it l K e w → (∀ l e w, K l e w → K' l e w) → opsA P n l0 it l K' e w
  | .done, l, K, K', e, w, h, hk => hk _ _ _ h
  | .op r, o :: l, K, K', e, w, h, hk => by
    unfold opsA at h ⊢
    cases hw : wantE n l0 o e with
    | true => simp only [hw, cond_true] at h ⊢; exact valA_mono h fun v w' h1 => dstA_mono h1 fun e' h2 => opsA_mono r l e' w' h2 hk
    | false => simp only [hw, cond_false] at h ⊢; exact dstA_mono h fun e' h2 => opsA_mono r l e' w h2 hk
  | .op _, [], _, _, _, _, h, _ => by unfold opsA at h; exact h.elim
  | .split d p q, l, K, K', e, w, h, hk => by
    unfold opsA at h ⊢
    cases hc : Nat.beq (cnt p) (cnt q) with
    | false => simp [hc] at h
    | true =>
      simp only [hc, cond_true] at h ⊢
      obtain ⟨b, hb, h1, h2⟩ := h
      exact ⟨b, hb, fun hh => opsA_mono p l _ w (h1 hh) hk, fun hh => opsA_mono q l _ w (h2 hh) hk⟩
  | .join live ms sub rest, l, K, K', e, w, h, hk => by
    unfold opsA at h ⊢
    cases hc : subB (dsts (l.take (cnt sub))) ms && (subB live ms && subB ms (dsts (l.take (cnt sub)))) with
    | false => simp [hc] at h
    | true =>
      simp only [hc, cond_true] at h ⊢
      intro Kj hKj
      refine h Kj (AllV.intro fun vs hl w hr => hKj.elim vs hl w fun g => opsA_mono rest _ _ w (hr g) hk)
/-- The formula of a region speaks of the operations that follow, and parts from the environment in their slots alone. -/
theorem opsA_mods {P : Program} {n : Nat} {l0 : List Oper} (ms : List Nat) : ∀ (it : Items) (l : List Oper) {K : List Oper → Env → World → Prop} (e : Env) (w : World),
    opsA P n l0 it l K e w → (∀ i ∈ dsts (l.take (cnt it)), i ∈ ms) → opsA P n l0 it l (fun l' e' w' => l' = l.drop (cnt it) ∧ (∀ i, i ∉ ms → e' i = e i) ∧ K l' e' w') e w
  | .done, l, K, e, w, h, hm => ⟨by simp [cnt], fun _ _ => rfl, h⟩
  | .op r, o :: l, K, e, w, h, hm => by
    have hm1 : ∀ i ∈ dsts [o], i ∈ ms := fun i hi => hm i (by rw [cnt, List.take_succ_cons, dsts_cons]; exact List.mem_append_left _ hi)
    have hm2 : ∀ i ∈ dsts (l.take (cnt r)), i ∈ ms := fun i hi => hm i (by rw [cnt, List.take_succ_cons, dsts_cons]; exact List.mem_append_right _ hi)
    have key : ∀ v w', dstA n o e v (fun e' => opsA P n l0 r l K e' w') →
        dstA n o e v (fun e' => opsA P n l0 r l (fun l' e'' w'' => l' = (o :: l).drop (cnt r + 1) ∧ (∀ i, i ∉ ms → e'' i = e i) ∧ K l' e'' w'') e' w') := fun v w' h1 => by
      obtain ⟨e', h2, h3, _⟩ := dstA_spec h1
      unfold dstA at h1 ⊢
      split at h1
      · rename_i d hd
        cases hb : Nat.blt d n with
        | false => simp [hb] at h1
        | true =>
          simp only [hb, cond_true] at h1 ⊢
          refine opsA_mono r l _ w' (opsA_mods ms r l _ w' h1 hm2) fun l' e'' w'' ⟨h4, h5, h6⟩ => ⟨by simpa using h4, fun i hi => ?_, h6⟩
          rw [h5 i hi]
          exact upd_ne _ _ _ fun hid => hi (hm1 i (by simp [dsts, hd, hid]))
      · refine opsA_mono r l _ w' (opsA_mods ms r l _ w' h1 hm2) fun l' e'' w'' ⟨h4, h5, h6⟩ => ⟨by simpa using h4, h5, h6⟩
    unfold opsA at h ⊢
    cases hw : wantE n l0 o e with
    | true => simp only [hw, cond_true] at h ⊢; exact valA_mono h fun v w' h1 => key v w' h1
    | false => simp only [hw, cond_false] at h ⊢; exact key _ _ h
  | .op _, [], _, _, _, h, _ => by unfold opsA at h; exact h.elim
  | .split d p q, l, K, e, w, h, hm => by
    unfold opsA at h ⊢
    cases hc : Nat.beq (cnt p) (cnt q) with
    | false => simp [hc] at h
    | true =>
    simp only [hc, cond_true] at h ⊢
    obtain ⟨b, hb, h1, h2⟩ := h
    have hpq : cnt p = cnt q := Nat.beq_eq.mp hc
    have hd : ∀ c, b = c → ∀ i, upd e d (.bool c) i = e i := fun c hbc i => by
      by_cases hid : i = d
      · subst hid
        rw [upd_same]
        subst hbc
        unfold ev at hb
        cases hlt : Nat.blt i n with
        | true => simp only [hlt, cond_true] at hb; exact hb.symm
        | false => simp only [hlt, cond_false, undef] at hb; cases hb
      · exact upd_ne _ _ _ hid
    refine ⟨b, hb, fun hh => ?_, fun hh => ?_⟩
    · exact opsA_mono p l _ w (opsA_mods ms p l _ w (h1 hh) hm) fun l' e'' w'' ⟨h4, h5, h6⟩ => ⟨h4, fun i hi => by rw [h5 i hi, hd true hh], h6⟩
    · exact opsA_mono q l _ w (opsA_mods ms q l _ w (h2 hh) (by rw [← hpq]; exact hm)) fun l' e'' w'' ⟨h4, h5, h6⟩ => ⟨by rw [h4, ← hpq]; rfl, fun i hi => by rw [h5 i hi, hd false hh], h6⟩
  | .join live ms' sub rest, l, K, e, w, h, hm => by
    unfold opsA at h ⊢
    cases hc : subB (dsts (l.take (cnt sub))) ms' && (subB live ms' && subB ms' (dsts (l.take (cnt sub)))) with
    | false => simp [hc] at h
    | true =>
      simp only [hc, cond_true] at h ⊢
      have hl1 : ∀ i ∈ dsts (l.take (cnt sub)), i ∈ ms := fun i hi => hm i (by
        rw [cnt, List.take_add, dsts_append]; exact List.mem_append_left _ hi)
      have hl2 : ∀ i ∈ dsts ((l.drop (cnt sub)).take (cnt rest)), i ∈ ms := fun i hi => hm i (by
        rw [cnt, List.take_add, dsts_append]; exact List.mem_append_right _ hi)
      intro Kj hKj
      have h0 := h (fun vs w => ∀ g : Env, opsA P n l0 rest (l.drop (cnt sub)) K (mix live vs ms' g e) w) (AllV.intro fun vs _ w hr => hr)
      refine opsA_mono sub l e w (opsA_mods ms sub l e w h0 hl1) fun l' e' w' ⟨_, h5, h6⟩ => ?_
      simp only [Bool.and_eq_true] at hc
      refine hKj.elim (live.map e') (by simp) w' fun g => ?_
      refine opsA_mono rest _ _ w' (opsA_mods ms rest _ _ w' (h6 g) hl2) fun l'' e'' w'' ⟨h7, h8, h9⟩ => ⟨?_, fun i hi => ?_, h9⟩
      · rw [h7, cnt, List.drop_drop]
      · have hi' : i ∉ ms' := fun hn => hi (hl1 i (subB_spec hc.2.2 i hn))
        rw [h8 i hi, mix_out (fun hn => hi' (subB_spec hc.2.1 i hn)) hi']
/-- **A REGION IN THE TEXT's ORDER.** -/
theorem opsA_sound {P : Program} {n : Nat} {ro : Option Nat} {ops : Array Oper} {Qx : Exit → Act → World → Prop} : ∀ (it : Items) (k : Nat) (l : List Oper) {K : List Oper → Env → World → Prop} (e : Env) (a : Act) (w : World),
    ops.toList.drop k = l → Agree n e a → opsA P n ops.toList it l K e w →
    (∀ l' e' w' a' k', ops.toList.drop k' = l' → k + l.length = k' + l'.length → K l' e' w' → Agree n e' a' → wpOpsIn (FF ro) 0 P ops Qx (List.range' k' l'.length) a' w') →
    wpOpsIn (FF ro) 0 P ops Qx (List.range' k l.length) a w
  | .done, k, l, K, e, a, w, hl, ha, h, hk => hk l e w a k hl rfl h ha
  | .op r, k, o :: l, K, e, a, w, hl, ha, h, hk => by
    have hko : ops[k]? = some o := by
      rw [← Array.getElem?_toList, ← List.head?_drop, hl]; rfl
    have hl2 : ops.toList.drop (k + 1) = l := by rw [← List.drop_drop, hl]; rfl
    rw [List.length_cons, List.range'_succ, wpOpsIn_cons]
    unfold wpOpIn
    simp only [hko]
    rw [wanted_E ha]
    have next : ∀ v w', dstA n o e v (fun e' => opsA P n ops.toList r l K e' w') → wpOpsIn (FF ro) 0 P ops Qx (List.range' (k + 1) l.length) (a.put o.dst v) w' := fun v w' h1 => by
      obtain ⟨e', h2, _, h4⟩ := dstA_spec h1
      refine opsA_sound r (k + 1) l e' _ w' hl2 (h4 a ha) h2 fun l' e'' w'' a' k' g1 g2 g3 g4 => hk l' e'' w'' a' k' g1 (by simp only [List.length_cons]; omega) g3 g4
    unfold opsA at h
    cases hw : wantE n ops.toList o e with
    | true =>
      simp only [hw, cond_true] at h
      simp only [if_true]
      exact valA_sound ha h next
    | false =>
      simp only [hw, cond_false] at h
      simp only [Bool.false_eq_true, if_false]
      exact ⟨fun _ _ => trivial, next _ _ h⟩
  | .op _, _, [], _, _, _, _, _, _, h, _ => by unfold opsA at h; exact h.elim
  | .split d p q, k, l, K, e, a, w, hl, ha, h, hk => by
    unfold opsA at h
    cases hc : Nat.beq (cnt p) (cnt q) with
    | false => simp [hc] at h
    | true =>
    simp only [hc, cond_true] at h
    obtain ⟨b, hb, h1, h2⟩ := h
    have hd : e d = .bool b := by
      unfold ev at hb
      cases hlt : Nat.blt d n with
      | true => simpa only [hlt, cond_true] using hb
      | false => simp only [hlt, cond_false, undef] at hb; cases hb
    cases b with
    | true => exact opsA_sound p k l _ a w hl (ha.again d _ hd) (h1 rfl) hk
    | false => exact opsA_sound q k l _ a w hl (ha.again d _ hd) (h2 rfl) hk
  | .join live ms sub rest, k, l, K, e, a, w, hl, ha, h, hk => by
    unfold opsA at h
    cases hc : subB (dsts (l.take (cnt sub))) ms && (subB live ms && subB ms (dsts (l.take (cnt sub)))) with
    | false => simp [hc] at h
    | true =>
      simp only [hc, cond_true] at h
      simp only [Bool.and_eq_true] at hc
      have h0 := h (fun vs w => ∀ g : Env, opsA P n ops.toList rest (l.drop (cnt sub)) K (mix live vs ms g e) w) (AllV.intro fun vs _ w hr => hr)
      have h1 := opsA_mods ms sub l e w h0 (subB_spec hc.1)
      refine opsA_sound sub k l e a w hl ha h1 fun l' e' w' a' k' g1 g2 g3 g4 => ?_
      obtain ⟨g5, g6, g7⟩ := g3
      have g8 := g7 e'
      rw [mix_of live ms e e' g6, ← g5] at g8
      exact opsA_sound rest k' l' e' a' w' g1 g4 g8 fun l'' e'' w'' a'' k'' i1 i2 i3 i4 => hk l'' e'' w'' a'' k'' i1 (by omega) i3 i4
theorem region_sound {P : Program} {n : Nat} {ro : Option Nat} {id : Nat} {ops : Array Oper} {Qx : Exit → Act → World → Prop} {it : Items} {K : List Oper → Env → World → Prop} {e : Env} {a : Act} {w : World}
    (ha : Agree n e a) (h : opsA P n ops.toList it ops.toList K e w) (hk : ∀ l' e' w' a', K l' e' w' → Agree n e' a' → l' = [] ∧ Qx .normal a' w') : (Code.region id ops false).wpIn (FF ro) 0 P Qx a w := by
  refine wpIn_region ?_
  rw [show List.range ops.size = List.range' 0 ops.toList.length from by rw [List.range_eq_range', Array.length_toList]]
  refine opsA_sound it 0 ops.toList e a w (by simp) ha h fun l' e' w' a' k' g1 g2 g3 g4 => ?_
  obtain ⟨g5, g6⟩ := hk l' e' w' a' g3 g4
  subst g5
  simpa [wpOpsIn] using g6
end Go.Proofs.Ytjnckainogpenaa.Q
