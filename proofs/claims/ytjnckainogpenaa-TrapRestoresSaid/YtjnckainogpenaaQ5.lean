/- The formula of a function's code is sound: what it asks, the call does. -/
import Derived.Test.YtjnckainogpenaaQ4
set_option linter.unusedVariables false
set_option linter.unusedSimpArgs false
namespace Go.Proofs.Ytjnckainogpenaa.Q
open Go
variable {P : Program} {n : Nat}

theorem dstA_step {o : Oper} {e : Env} {v : Value} {K : Env → Prop} {ms : List Nat} (h : dstA n o e v K) (hm : ∀ i ∈ dsts [o], i ∈ ms) : dstA n o e v fun e' => (∀ i, i ∉ ms → e' i = e i) ∧ K e' := by
  unfold dstA at h ⊢
  split at h
  · rename_i d hd
    cases hb : Nat.blt d n with
    | false => simp [hb] at h
    | true =>
      simp only [hb, cond_true] at h ⊢
      exact ⟨fun i hi => upd_ne _ _ _ fun hid => hi (hm i (by simp [dsts, hd, hid])), h⟩
  · exact ⟨fun _ _ => rfl, h⟩
theorem pureA_mono {o : Oper} {e : Env} {K K' : Value → Prop} (h : pureA P n o e K) (hk : ∀ v, K v → K' v) : pureA P n o e K' := by
  unfold pureA at h ⊢
  split at h
  · rename_i p hp
    obtain ⟨p', hp', himp⟩ := moveA_mono hp hk
    rw [hp']
    exact himp h
  · rename_i hp
    rw [moveA_none hp]
    split at h
    · obtain ⟨v, hr, hK⟩ := h; exact ⟨v, hr, hk _ hK⟩
    · exact h.elim
theorem dsts_of_mem {o : Oper} : ∀ {l : List Oper}, o ∈ l → ∀ i ∈ dsts [o], i ∈ dsts l
  | x :: l, h, i, hi => by
    rw [dsts_cons]
    rcases List.mem_cons.1 h with rfl | h
    · exact List.mem_append_left _ hi
    · exact List.mem_append_right _ (dsts_of_mem h i hi)
theorem drawA_mods {ops : Array Oper} {ms : List Nat} (hm : ∀ i ∈ dsts ops.toList, i ∈ ms) : ∀ (p : Plan) (f : Nat) (H : Held) (ls E : List Nat) (K K' : Env → World → Prop) (e : Env) (w : World),
    (∀ e' w', (∀ i, i ∉ ms → e' i = e i) → K e' w' → K' e' w') → drawA P n ops p f H ls E K e w → drawA P n ops p f H ls E K' e w := by
  have hmo : ∀ {i : Nat} {o : Oper}, ops.toList[i]? = some o → ∀ j ∈ dsts [o], j ∈ ms := fun ho j hj => hm j (dsts_of_mem (List.mem_of_getElem? ho) j hj)
  intro p
  induction p with
  | done =>
    intro f H ls E K K' e w hk h
    unfold drawA at h ⊢
    cases hc : covers ops.toList ls [] ops.toList.length with
    | false => rw [hc] at h; exact h.elim
    | true => rw [hc] at h; exact hk e w (fun _ _ => rfl) h
  | take i p ih =>
    intro f H ls E K K' e w hk h
    cases f with
    | zero => unfold drawA at h; exact h.elim
    | succ f =>
      unfold drawA at h ⊢
      cases ho : ops.toList[i]? with
      | none => rw [ho] at h; exact h.elim
      | some o =>
        rw [ho] at h
        simp only at h ⊢
        have key : ∀ v, dstA n o e v (fun e' => drawA P n ops p f H (i :: ls) E K e' w) → dstA n o e v (fun e' => drawA P n ops p f H (i :: ls) E K' e' w) := fun v h1 =>
          dstA_mono (dstA_step h1 (hmo ho)) fun e' ⟨h2, h3⟩ => ih f H _ E K K' e' w (fun e'' w'' h4 => hk e'' w'' fun i hi => by rw [h4 i hi, h2 i hi]) h3
        cases hc : rdy ops.toList ls i && freeAt ops ls i o 0 ops.toList with
        | false => rw [hc] at h; exact h.elim
        | true =>
          rw [hc] at h
          cases hw : wantE n ops.toList o e with
          | true => rw [hw] at h; exact pureA_mono h key
          | false => rw [hw] at h; exact key _ h
  | hold i p ih =>
    intro f H ls E K K' e w hk h
    cases f with
    | zero => unfold drawA at h; exact h.elim
    | succ f =>
      unfold drawA at h ⊢
      cases ho : ops.toList[i]? with
      | none => rw [ho] at h; exact h.elim
      | some o =>
        rw [ho] at h
        simp only at h ⊢
        cases hc : rdy ops.toList ls i && freeAt ops ls i o 0 ops.toList && wantE n ops.toList o e with
        | false => rw [hc] at h; exact h.elim
        | true =>
          rw [hc] at h
          simp only [cond_true] at h ⊢
          split at h
          · obtain ⟨v, hr, h1⟩ := h
            exact ⟨v, hr, dstA_mono (dstA_step h1 (hmo ho)) fun e' ⟨h2, h3⟩ => ih f _ _ E K K' e' w (fun e'' w'' h4 => hk e'' w'' fun i hi => by rw [h4 i hi, h2 i hi]) h3⟩
          · exact h.elim
  | alts p ih =>
    intro f H ls E K K' e w hk h
    unfold drawA at h ⊢
    cases hc : covers ops.toList ls (idxs p) ops.toList.length && fstRdy ops.toList ls (idxs p) with
    | false => rw [hc] at h; exact h.elim
    | true => rw [hc] at h; exact ih f H ls E K K' e w hk h
  | eff i p r ihp ihr =>
    intro f H ls E K K' e w hk h
    cases f with
    | zero => cases r <;> (unfold drawA at h; exact h.elim)
    | succ f =>
      have key : ∀ o, ops.toList[i]? = some o → valA P n o e w (fun v w' => HoldK P ops.toList (i :: E) H w' (dstA n o e v fun e' => drawA P n ops p f H (i :: ls) (i :: E) K e' w')) →
          valA P n o e w (fun v w' => HoldK P ops.toList (i :: E) H w' (dstA n o e v fun e' => drawA P n ops p f H (i :: ls) (i :: E) K' e' w')) := fun o ho h =>
        valA_mono h fun v w' h1 => HoldK_mono (fun h2 => dstA_mono (dstA_step h2 (hmo ho)) fun e' ⟨h3, h4⟩ => ihp f H _ _ K K' e' w' (fun e'' w'' h5 => hk e'' w'' fun i hi => by rw [h5 i hi, h3 i hi]) h4) h1
      cases r <;> (
        unfold drawA at h ⊢
        cases ho : ops.toList[i]? with
        | none => rw [ho] at h; exact h.elim
        | some o =>
          rw [ho] at h
          simp only at h ⊢
          cases hw : wantE n ops.toList o e with
          | false => rw [hw] at h; exact h.elim
          | true =>
            rw [hw] at h
            simp only [cond_true] at h ⊢
            first
              | exact key o ho h
              | exact ⟨key o ho h.1, ihr (f + 1) H ls E K K' e w hk h.2⟩)
  | nil => intro f H ls E K K' e w hk h; unfold drawA at h; exact h.elim
  | split d p q ihp ihq =>
    intro f H ls E K K' e w hk h
    unfold drawA at h ⊢
    obtain ⟨b, hb, h1, h2⟩ := h
    have hd : ∀ c, b = c → ∀ i, upd e d (.bool c) i = e i := fun c hbc i => by
      by_cases hid : i = d
      · subst hid
        rw [upd_same]
        subst hbc
        unfold ev at hb
        cases hlt : Nat.blt i n with
        | true => simp only [hlt, cond_true] at hb; exact hb.symm
        | false => simp only [hlt, cond_false, undef] at hb; cases hb
      · exact upd_ne _ _ _ hid
    exact ⟨b, hb, fun hh => ihp f H ls E K K' _ w (fun e' w' h3 => hk e' w' fun i hi => by rw [h3 i hi, hd true hh]) (h1 hh),
      fun hh => ihq f H ls E K K' _ w (fun e' w' h3 => hk e' w' fun i hi => by rw [h3 i hi, hd false hh]) (h2 hh)⟩
theorem CallE.mono {f : Value} {args : Array Value} {w : World} {K K' : Value → World → Prop} (h : CallE P f args w K) (hk : ∀ v w', K v w' → K' v w') : CallE P f args w K' := by
  unfold CallE at h ⊢
  split at h
  · exact Calls.mono h (retK.mono hk)
  · exact h.elim
theorem lookK_mono {id : Nat} {ids : List Nat} {A B : Nat → World → Prop} (h : ∀ id w, A id w → B id w) {w : World} : lookK id (ids.map fun i => (i, A i)) w → lookK id (ids.map fun i => (i, B i)) w := by
  induction ids with
  | nil => exact fun hh => hh
  | cons j js ih =>
    simp only [List.map_cons, lookK]
    cases hb : Nat.beq j id with
    | true =>
      have : j = id := Nat.beq_eq.mp hb
      subst this
      exact h _ _
    | false => exact ih
/-- The formula parts from the environment at the slots that the code writes alone; and it is monotone. -/
theorem wpA_mods (ms : List Nat) : ∀ (c : Code) (ann : Ann) (ro : Option Nat) (Q Q' : X → Env → World → Prop) (e : Env) (w : World), (∀ i ∈ mods n c, i ∈ ms) →
    (∀ x e' w', (∀ i, i ∉ ms → e' i = e i) → Q x e' w' → Q' x e' w') → wpA P n c ann ro Q e w → wpA P n c ann ro Q' e w := by
  intro c
  induction c with
  | skip => intro ann ro Q Q' e w hm hk h; unfold wpA at h ⊢; exact hk _ _ _ (fun _ _ => rfl) h
  | label => intro ann ro Q Q' e w hm hk h; unfold wpA at h ⊢; exact hk _ _ _ (fun _ _ => rfl) h
  | ret => intro ann ro Q Q' e w hm hk h; unfold wpA at h ⊢; exact hk _ _ _ (fun _ _ => rfl) h
  | exit id => intro ann ro Q Q' e w hm hk h; unfold wpA at h ⊢; exact hk _ _ _ (fun _ _ => rfl) h
  | goto => intro ann ro Q Q' e w hm hk h; unfold wpA at h; exact h.elim
  | refuse => intro ann ro Q Q' e w hm hk h; unfold wpA at h; exact h.elim
  | seq a b iha ihb =>
    intro ann ro Q Q' e w hm hk h
    have hma : ∀ i ∈ mods n a, i ∈ ms := fun i hi => hm i (List.mem_append_left _ hi)
    have hmb : ∀ i ∈ mods n b, i ∈ ms := fun i hi => hm i (List.mem_append_right _ hi)
    cases ann <;> unfold wpA at h <;> first | exact h.elim | skip
    case seq p q =>
      unfold wpA
      refine iha p ro _ _ e w hma (fun x e' w' he h1 => ?_) h
      cases x with
      | normal => exact ihb q ro Q Q' e' w' hmb (fun x e'' w'' h2 => hk x e'' w'' fun i hi => by rw [h2 i hi, he i hi]) h1
      | exit id => exact hk _ _ _ he h1
      | ret => exact hk _ _ _ he h1
    case seqJ live ms' p q =>
      unfold wpA
      cases hc : subB (mods n a) ms' && (subB live ms' && subB ms' (mods n a)) with
      | false => rw [hc] at h; exact h.elim
      | true =>
        rw [hc] at h
        simp only [cond_true] at h ⊢
        simp only [Bool.and_eq_true] at hc
        intro K hK
        refine iha p ro _ _ e w hma (fun x e' w' he h1 => ?_) (h (fun l w => ∀ g : Env, wpA P n b q ro Q (mix live l ms' g e) w) (AllV.intro fun l _ w h => h))
        cases x with
        | normal =>
          refine hK.elim (live.map e') (by simp) w' fun g => ihb q ro Q Q' _ w' hmb (fun x e'' w'' h2 => hk x e'' w'' fun i hi => ?_) (h1 g)
          have hi' : i ∉ ms' := fun hn => hi (hma i (subB_spec hc.2.2 i hn))
          rw [h2 i hi, mix_out (fun hn => hi' (subB_spec hc.2.1 i hn)) hi']
        | exit id => exact hk _ _ _ he h1
        | ret => exact hk _ _ _ he h1
  | cond c a b iha ihb =>
    intro ann ro Q Q' e w hm hk h
    cases ann <;> unfold wpA at h <;> first | exact h.elim | skip
    unfold wpA
    obtain ⟨t, ht, h1, h2⟩ := h
    exact ⟨t, ht, fun hh => iha _ ro Q Q' e w (fun i hi => hm i (List.mem_append_left _ hi)) hk (h1 hh), fun hh => ihb _ ro Q Q' e w (fun i hi => hm i (List.mem_append_right _ hi)) hk (h2 hh)⟩
  | block id a ih =>
    intro ann ro Q Q' e w hm hk h
    cases ann <;> unfold wpA at h <;> first | exact h.elim | skip
    unfold wpA
    refine ih _ ro _ _ e w hm (fun x e' w' he h1 => ?_) h
    cases x with
    | normal => exact hk _ _ _ he h1
    | ret => exact hk _ _ _ he h1
    | exit i =>
      simp only [blockX] at h1 ⊢
      cases hb : Nat.beq i id with
      | true => rw [hb] at h1; exact hk _ _ _ he h1
      | false => rw [hb] at h1; exact hk _ _ _ he h1
  | scope a ih =>
    intro ann ro Q Q' e w hm hk h
    cases ann <;> unfold wpA at h <;> first | exact h.elim | skip
    cases ro with
    | some l => exact h.elim
    | none => unfold wpA; exact ih _ none Q Q' e w hm hk h
  | loop a ih =>
    intro ann ro Q Q' e w hm hk h
    cases ann <;> unfold wpA at h <;> first | exact h.elim | skip
    rename_i live ms' p
    unfold wpA
    cases hc : subB (mods n a) ms' && (subB live ms' && subB ms' (mods n a)) with
    | false => rw [hc] at h; exact h.elim
    | true =>
      rw [hc] at h
      simp only [cond_true] at h ⊢
      simp only [Bool.and_eq_true] at hc
      obtain ⟨I, μ, h0, h1⟩ := h
      refine ⟨I, μ, h0, fun g => AllV.intro fun l hl w1 hI m hmm => ih p ro _ _ _ w1 hm (fun x e' w' he h2 => ?_) ((h1 g).elim l hl w1 hI m hmm)⟩
      have hout : ∀ i, i ∉ ms → e' i = e i := fun i hi => by
        have hi' : i ∉ ms' := fun hn => hi (hm i (subB_spec hc.2.2 i hn))
        rw [he i hi, mix_out (fun hn => hi' (subB_spec hc.2.1 i hn)) hi']
      cases x with
      | normal => exact h2
      | exit id => exact hk _ _ _ hout h2
      | ret => exact hk _ _ _ hout h2
  | region id ops d =>
    intro ann ro Q Q' e w hm hk h
    cases d with
    | false =>
      cases ann <;> unfold wpA at h <;> first | exact h.elim | skip
      unfold wpA
      refine opsA_mono _ _ e w (opsA_mods ms _ _ e w h fun i hi => hm i ?_) fun l e' w' ⟨_, h2, h3⟩ => ?_
      · rename_i it
        have := List.take_append_drop (cnt it) ops.toList
        show i ∈ dsts ops.toList
        rw [← this, dsts_append]
        exact List.mem_append_left _ hi
      · split at h3
        · exact hk _ _ _ h2 h3
        · exact h3.elim
    | true =>
      cases ann <;> unfold wpA at h <;> first | exact h.elim | skip
      unfold wpA
      rename_i p
      cases hc : okP p && allPlain ops.toList with
      | false => rw [hc] at h; exact h.elim
      | true =>
        rw [hc] at h
        exact drawA_mods hm p _ _ _ _ _ _ e _ (fun e' w' he h1 => hk _ _ _ he h1) h
  | rangeFunc g ps asg body iha ihb =>
    intro ann ro Q Q' e w hm hk h
    cases ann <;> unfold wpA at h <;> first | exact h.elim | skip
    cases ro with
    | some l => exact h.elim
    | none =>
      unfold wpA
      rename_i ids p q
      cases hc : allLt n ps.toList with
      | false => simp only [hc] at h; exact h.elim
      | true =>
        simp only [hc, cond_true] at h ⊢
        intro lp r l w1 hn hY
        have he : ∀ i, i ∉ ms → upd e n (.iface r (e n)) i = e i := fun i hi => upd_ne _ _ _ fun hid => hi (hm i (by simp [mods, hid]))
        refine (h lp r l w1 hn hY).mono fun v w2 ⟨st, pend, h1, h2, h3⟩ => ⟨st, pend, h1, h2, ?_⟩
        unfold jumpK at h3 ⊢
        split at h3
        · exact hk _ _ _ he h3
        · exact hk _ _ _ he h3
        · exact lookK_mono (A := fun id w3 => Q (.exit id) (upd e n (.iface r (e n))) w3) (B := fun id w3 => Q' (.exit id) (upd e n (.iface r (e n))) w3) (fun id w h => hk _ _ _ he h) h3
        · exact h3.elim

/-! ### Soundness -/
def liftQ (n : Nat) (Q : X → Env → World → Prop) : Exit → Act → World → Prop
  | .normal, a, w => ∃ e, Agree n e a ∧ Q .normal e w
  | .ret, a, w => ∃ e, Agree n e a ∧ Q .ret e w
  | .exit id, a, w => ∃ e, Agree n e a ∧ Q (.exit id) e w
  | _, _, _ => False
theorem wpIn_loopG {F : Fence} {k : Nat} {c : Code} {Qx : Exit → Act → World → Prop} {a : Act} {w : World} (I : Nat → Act → World → Prop) (j₀ : Nat) (h₀ : I j₀ a w)
    (round : ∀ j a w, I j a w → c.wpIn F k P (Exit.then (fun a' w' => ∃ j', j' < j ∧ I j' a' w') Qx) a w) : (Code.loop c).wpIn F k P Qx a w := by
  intro b ks cs hro hb hr
  have key : ∀ j a w, I j a w →
      ∃ e a' w', Qx e a' w' ∧ ArrivesIn (Machine.fenced P F) P (lone (b.atR a (.code c :: .inLoop c :: ks)) cs w) b ks cs e a' w' := by
    intro j
    induction j using Nat.strongRecOn with
    | _ j ih =>
      intro a w hI
      obtain ⟨e, a₁, w₁, hq, harr⟩ := round j a w hI b (.inLoop c :: ks) cs hro hb hr
      cases e with
      | normal =>
        obtain ⟨j', hlt, hI₁⟩ := hq
        obtain ⟨e₂, a₂, w₂, hq₂, harr₂⟩ := ih j' hlt a₁ w₁ hI₁
        exact ⟨e₂, a₂, w₂, hq₂, .of_steps (StepsIn.trans harr (.one (fenced_calm hb hr rfl) stepR_inLoop)) harr₂⟩
      | exit id => exact ⟨_, a₁, w₁, hq, .pass (x := .inLoop c) rfl (fun _ _ => .inl (by simp)) harr⟩
      | goto l => exact ⟨_, a₁, w₁, hq, .pass (x := .inLoop c) rfl (fun _ _ => .inl (by simp)) harr⟩
      | ret => exact ⟨_, a₁, w₁, hq, .pass (x := .inLoop c) rfl (fun _ _ => .inl (by simp)) harr⟩
      | panic ch => exact ⟨_, a₁, w₁, hq, .pass (x := .inLoop c) rfl (fun _ _ => .inl (by simp)) harr⟩
      | outgrown => exact ⟨_, a₁, w₁, hq, .pass (x := .inLoop c) rfl (fun _ _ => .inl (by simp)) harr⟩
  obtain ⟨e, a', w', hq, harr⟩ := key _ a w h₀
  exact ⟨e, a', w', hq, .of_steps (.one (fenced_calm hb hr rfl) stepR_loop) harr⟩
theorem lookK_mem {id : Nat} {ids : List Nat} {A : Nat → World → Prop} {w : World} : lookK id (ids.map fun i => (i, A i)) w → A id w := by
  induction ids with
  | nil => exact fun hh => hh.elim
  | cons j js ih =>
    simp only [List.map_cons, lookK]
    cases hb : Nat.beq j id with
    | true =>
      have : j = id := Nat.beq_eq.mp hb
      subst this
      exact fun h => h
    | false => exact ih
theorem allLt_spec : ∀ {ps : List Nat}, allLt n ps = true → ∀ p ∈ ps, p < n
  | p :: ps, h, q, hq => by
    unfold allLt at h
    simp only [Bool.and_eq_true] at h
    rcases List.mem_cons.1 hq with rfl | hq
    · exact blt_iff.1 h.1
    · exact allLt_spec h.2 q hq
theorem Agree.putE : ∀ (ps : List Nat) (vs : List Value) {e : Env} {a : Act}, Agree n e a → (∀ p ∈ ps, p < n) →
    Agree n (Q.putE ps vs e) { a with tmps := (ps.zip vs).foldl (fun tmps (t, x) => tmps.setIfInBounds t x) a.tmps }
  | [], _, e, a, h, _ => by simpa [Q.putE] using h
  | p :: ps, [], e, a, h, _ => by simpa [Q.putE] using h
  | p :: ps, v :: vs, e, a, h, hp => by
    have := Agree.putE ps vs (h.put (hp p List.mem_cons_self) v) fun q hq => hp q (List.mem_cons_of_mem _ hq)
    exact this
theorem enterLoop_run (w : World) (fn : FuncId) (tmps : Array Value) (ps : Array Tmp) (asg body : Code) :
    ∃ lp : Loop, lp.fn = fn ∧ lp.tmps = tmps ∧ lp.params = ps ∧ lp.assign = asg ∧ lp.body = body ∧
      (Instr.enterLoop fn tmps ps asg body none).run P w = .ok (w.heap.size + 1, [markD w.heap.size]) { w with heap := (w.heap.push (.deferred (some []))).push (lobj lp .ready none) } := by
  refine ⟨{ state := .ready, pending := none, fn, tmps, params := ps, assign := asg, body, defers := w.heap.size }, rfl, rfl, rfl, rfl, rfl, ?_⟩
  simp [Instr.enterLoop, newObj, Sem.run, markD, lobj]
  rfl
theorem getLoop_run {w : World} {l : Nat} {lp : Loop} (h : w.heap[l]? = some (.loop lp)) : (Instr.getLoop l).run P w = .ok lp w := by
  simp [Instr.getLoop, getObj, Sem.run, h]
theorem yield_round {w : World} {l : Nat} {lp : Loop} {args : Array Value} (h : w.heap[l]? = some (lobj lp .ready none)) (hs : args.size = lp.params.size) :
    (callSem (.func (.yield l) #[] #[]) args).run P w = .ok (.round l lp.fn ((lp.params.zip args).foldl (fun tmps (t, a) => tmps.setIfInBounds t a) lp.tmps) lp.assign lp.body) w := by
  simp [callSem, Deferred.ofValue, invoke, Instr.yield, getLoop_run h, hs, lobj, Sem.run]
theorem beginRound_run {w : World} {l : Nat} {lp : Loop} (h : w.heap[l]? = some (lobj lp .ready none)) : (Instr.beginRound l).run P w = .ok () (putR w l (lobj lp .busy none)) := by
  have h' := h
  unfold lobj at h'
  simp [Instr.beginRound, getLoop_run h', setObj, Sem.run, h', putR, lobj]
theorem endRound_run {w : World} {l : Nat} {lp : Loop} {st : LoopState} {pend : Option Code} (jump : Option Code) (h : w.heap[l]? = some (lobj lp st pend)) :
    (Instr.endRound l jump).run P w = .ok (.bool jump.isNone) (putR w l (lobj lp (if jump.isNone then .ready else .done) jump)) := by
  have h' := h
  unfold lobj at h'
  simp [Instr.endRound, getLoop_run h', setObj, Sem.run, h', putR, lobj]
theorem endLoop_run {w : World} {l : Nat} {lp : Loop} {st : LoopState} {pend : Option Code} (h : w.heap[l]? = some (lobj lp st pend)) (hs : st ≠ .busy) :
    (Instr.endLoop l).run P w = .ok pend (putR w l (lobj lp .exhausted pend)) := by
  have h' := h
  unfold lobj at h'
  cases st <;> first | exact absurd rfl hs | (simp [Instr.endLoop, getLoop_run h', setObj, Sem.run, h', putR, lobj]; done) | skip
  all_goals (simp only [Instr.endLoop, Sem.run_bind, getLoop_run h', Result.andThen_ok]; rfl)
theorem rep_false (k j : Nat) : (Array.replicate k false).getD j false = false := by
  rw [Array.getD_eq_getD_getElem?, Array.getElem?_replicate]
  split <;> rfl
theorem wpA_sound (hm : P.follows .mixedOrders = true) : ∀ (c : Code) (ann : Ann) (ro : Option Nat) (Q : X → Env → World → Prop) (e : Env) (a : Act) (w : World),
    Agree n e a → wpA P n c ann ro Q e w → c.wpIn (FF ro) 0 P (liftQ n Q) a w := by
  intro c
  induction c with
  | skip => intro ann ro Q e a w ha h; unfold wpA at h; exact wpIn_skip ⟨e, ha, h⟩
  | label => intro ann ro Q e a w ha h; unfold wpA at h; exact wpIn_label ⟨e, ha, h⟩
  | ret => intro ann ro Q e a w ha h; unfold wpA at h; exact wpIn_ret ⟨e, ha, h⟩
  | exit id => intro ann ro Q e a w ha h; unfold wpA at h; exact wpIn_exit ⟨e, ha, h⟩
  | goto => intro ann ro Q e a w ha h; unfold wpA at h; exact h.elim
  | refuse => intro ann ro Q e a w ha h; unfold wpA at h; exact h.elim
  | seq x y ihx ihy =>
    intro ann ro Q e a w ha h
    cases ann <;> unfold wpA at h <;> first | exact h.elim | skip
    case seq p q =>
      refine wpIn_seq (wpIn_mono (ihx p ro _ e a w ha h) fun en a' w' hq => ?_)
      cases en with
      | normal => obtain ⟨e', ha', h1⟩ := hq; exact ihy q ro Q e' a' w' ha' h1
      | ret => exact hq
      | exit id => exact hq
      | goto l => exact hq
      | panic ch => exact hq
      | outgrown => exact hq
    case seqJ live ms p q =>
      cases hc : subB (mods n x) ms && (subB live ms && subB ms (mods n x)) with
      | false => rw [hc] at h; exact h.elim
      | true =>
        rw [hc] at h
        simp only [cond_true] at h
        simp only [Bool.and_eq_true] at hc
        have h0 := h (fun l w => ∀ g : Env, wpA P n y q ro Q (mix live l ms g e) w) (AllV.intro fun l _ w h => h)
        have h1 := wpA_mods ms x p ro _ (fun en e' w' => (∀ i, i ∉ ms → e' i = e i) ∧ thenX (fun e' w' => ∀ g : Env, wpA P n y q ro Q (mix live (live.map e') ms g e) w') Q en e' w') e w (subB_spec hc.1) (fun _ _ _ h2 h3 => ⟨h2, h3⟩) h0
        refine wpIn_seq (wpIn_mono (ihx p ro _ e a w ha h1) fun en a' w' hq => ?_)
        cases en with
        | normal =>
          obtain ⟨e', ha', h2, h3⟩ := hq
          have h4 := h3 e'
          rw [mix_of live ms e e' h2] at h4
          exact ihy q ro Q e' a' w' ha' h4
        | ret => obtain ⟨e', ha', h2, h3⟩ := hq; exact ⟨e', ha', h3⟩
        | exit id => obtain ⟨e', ha', h2, h3⟩ := hq; exact ⟨e', ha', h3⟩
        | goto l => exact hq
        | panic ch => exact hq
        | outgrown => exact hq
  | cond c x y ihx ihy =>
    intro ann ro Q e a w ha h
    cases ann <;> unfold wpA at h <;> first | exact h.elim | skip
    obtain ⟨t, ht, h1, h2⟩ := h
    exact wpIn_cond_split (t := t) (by rw [ha.ev]; exact ht) (fun hh => ihx _ ro Q e a w ha (h1 hh)) (fun hh => ihy _ ro Q e a w ha (h2 hh))
  | block id x ih =>
    intro ann ro Q e a w ha h
    cases ann <;> unfold wpA at h <;> first | exact h.elim | skip
    refine wpIn_block (wpIn_mono (ih _ ro _ e a w ha h) fun en a' w' hq => ?_)
    cases en with
    | normal => exact hq
    | ret => exact hq
    | exit i =>
      obtain ⟨e', ha', h1⟩ := hq
      simp only [blockX] at h1
      simp only [Exit.inBlock]
      cases hb : Nat.beq i id with
      | true => rw [hb] at h1; rw [if_pos (Nat.beq_eq.mp hb)]; exact ⟨e', ha', h1⟩
      | false =>
        rw [hb] at h1
        rw [if_neg (fun hh => by rw [show Nat.beq i id = true from by rw [Nat.beq_eq]; exact hh] at hb; cases hb)]
        exact ⟨e', ha', h1⟩
    | goto l => exact hq
    | panic ch => exact hq
    | outgrown => exact hq
  | scope x ih =>
    intro ann ro Q e a w ha h
    cases ann <;> unfold wpA at h <;> first | exact h.elim | skip
    cases ro with
    | some l => exact h.elim
    | none =>
      have h1 := ih _ none Q e a w ha h
      have h2 : x.wp P (Exit.noGoto (liftQ n Q)) a w := wp_mono ((wpIn_wide (n := 0)).1 h1) fun en a' w' hq => by
        cases en <;> exact hq
      exact (wpIn_wide (n := 0)).2 (wp_scope_straight h2)
  | loop x ih =>
    intro ann ro Q e a w ha h
    cases ann <;> unfold wpA at h <;> first | exact h.elim | skip
    rename_i live ms p
    cases hc : subB (mods n x) ms && (subB live ms && subB ms (mods n x)) with
    | false => rw [hc] at h; exact h.elim
    | true =>
      rw [hc] at h
      simp only [cond_true] at h
      simp only [Bool.and_eq_true] at hc
      obtain ⟨I, μ, h0, h1⟩ := h
      refine wpIn_loopG (fun j a w => ∃ l g, l.length = live.length ∧ Agree n (mix live l ms g e) a ∧ I l w ∧ μ l w = j) (μ (live.map e) w)
        ⟨live.map e, e, by simp, by rw [mix_of live ms e e fun _ _ => rfl]; exact ha, h0, rfl⟩ ?_
      rintro j a1 w1 ⟨l, g, hl, ha1, hI, rfl⟩
      have h2 := (h1 g).elim l hl w1 hI _ rfl
      have h3 := wpA_mods ms x p ro _ (fun en e' w' => (∀ i, i ∉ ms → e' i = e i) ∧ loopX live I μ (μ l w1) Q en e' w') _ w1 (subB_spec hc.1)
        (fun en e' w' h4 h5 => ⟨fun i hi => by rw [h4 i hi, mix_out (fun hn => hi (subB_spec hc.2.1 i hn)) hi], h5⟩) h2
      refine wpIn_mono (ih p ro _ _ a1 w1 ha1 h3) fun en a' w' hq => ?_
      cases en with
      | normal =>
        obtain ⟨e', ha', h4, h5⟩ := hq
        exact ⟨_, h5.2, live.map e', e', by simp, by rw [mix_of live ms e e' h4]; exact ha', h5.1, rfl⟩
      | ret => obtain ⟨e', ha', h4, h5⟩ := hq; exact ⟨e', ha', h5⟩
      | exit id => obtain ⟨e', ha', h4, h5⟩ := hq; exact ⟨e', ha', h5⟩
      | goto l => exact hq
      | panic ch => exact hq
      | outgrown => exact hq
  | region id ops d =>
    intro ann ro Q e a w ha h
    cases d with
    | false =>
      cases ann <;> unfold wpA at h <;> first | exact h.elim | skip
      refine region_sound ha h fun l' e' w' a' h1 h2 => ?_
      split at h1
      · exact ⟨rfl, e', h2, h1⟩
      · exact h1.elim
    | true =>
      cases ann <;> unfold wpA at h <;> first | exact h.elim | skip
      rename_i p
      cases hc : okP p && allPlain ops.toList with
      | false => rw [hc] at h; exact h.elim
      | true =>
        rw [hc] at h
        simp only [cond_true] at h
        simp only [Bool.and_eq_true] at hc
        refine wpIn_region_any hm (wpAnyD_any (H := []) _ _ [] _ _ ?_)
        rw [← Array.length_toList]
        refine (drawA_sound (Qx := liftQ n Q) (fun _ _ _ h => h) hc.2 p).1 hc.1 _ [] [] [] _ e a _ _ ⟨by simp, fun j => ?_⟩ (fun j oj hj hl => ?_) (fun j hj => by cases hj) ha (fun x hx => by cases hx) (fun e' w' a' h1 h2 => ⟨e', h2, h1⟩) h
        · exact rep_false _ _
        · rw [rep_false] at hl; cases hl
  | rangeFunc g ps asg body iha ihb =>
    intro ann ro Q e a w ha h
    cases ann <;> unfold wpA at h <;> first | exact h.elim | skip
    cases ro with
    | some l => exact h.elim
    | none =>
      rename_i ids p q
      cases hc : allLt n ps.toList with
      | false => simp only [hc] at h; exact h.elim
      | true =>
        simp only [hc, cond_true] at h
        refine wpIn_rangeFunc fun fn _ => ?_
        obtain ⟨lp, hlp1, hlp2, hlp3, hlp4, hlp5, hrun⟩ := enterLoop_run (P := P) w fn a.tmps ps asg body
        have h1 := h lp w.heap.size (w.heap.size + 1) _ ⟨rfl, rfl, rfl⟩ fun w' K => AllV.intro fun vs hvs h2 hw' => by
          have hargs : vs.toArray.size = lp.params.size := by rw [hlp3]; simpa using hvs
          unfold CallV
          rw [yield_round hw' hargs]
          rw [hlp1, hlp2, hlp3, hlp4, hlp5]
          refine roundIn_of_wpIn (F := Fence.wide) trivial ?_
          have hag : Agree n (upd e n undef) { tmps := a.tmps, defers := [] } := ⟨ha.size, fun i hi => by rw [upd_ne _ _ _ (by omega : i ≠ n)]; exact ha.at_ i hi, by rw [upd_same]; rfl⟩
          have hag2 := hag.putE ps.toList vs (allLt_spec hc)
          have hz : (ps.zip vs.toArray).foldl (fun tmps (x : Nat × Value) => tmps.setIfInBounds x.1 x.2) a.tmps = (ps.toList.zip vs).foldl (fun tmps (t, x) => tmps.setIfInBounds t x) a.tmps := by
            rw [← Array.foldl_toList]; simp
          have h3 := iha p (some (w.heap.size + 1)) _ _ _ w' hag2 h2
          have hz' : ({ tmps := (ps.zip vs.toArray).foldl (fun tmps (x : Nat × Value) => tmps.setIfInBounds x.1 x.2) a.tmps, defers := [] } : Act) = { tmps := (ps.toList.zip vs).foldl (fun tmps (t, x) => tmps.setIfInBounds t x) a.tmps, defers := [] } := by rw [hz]
          show asg.wpIn _ 0 P _ { tmps := (ps.zip vs.toArray).foldl (fun tmps (x : Nat × Value) => tmps.setIfInBounds x.1 x.2) a.tmps, defers := [] } w'
          rw [hz']
          refine wpIn_mono h3 fun en a1 w1 hq => ?_
          cases en with
          | normal =>
            obtain ⟨e1, ha1, hb1, hb2⟩ := hq
            refine ⟨_, beginRound_run hb1, ?_⟩
            refine wpIn_mono (ihb q (some (w.heap.size + 1)) _ e1 a1 _ ha1 hb2) fun en a2 w2 hq2 => ?_
            cases en with
            | normal => obtain ⟨e2, ha2, ⟨st, pend, hst⟩, hK⟩ := hq2; exact ⟨_, _, endRound_run none hst, hK⟩
            | ret => obtain ⟨e2, ha2, ⟨st, pend, hst⟩, hK⟩ := hq2; exact ⟨_, _, endRound_run (some .ret) hst, hK⟩
            | exit id => obtain ⟨e2, ha2, ⟨st, pend, hst⟩, hK⟩ := hq2; exact ⟨_, _, endRound_run (some (.exit id)) hst, hK⟩
            | goto l => exact hq2.elim
            | panic ch => exact hq2.elim
            | outgrown => exact hq2.elim
          | ret => obtain ⟨e1, ha1, hb1⟩ := hq; exact hb1
          | exit id => obtain ⟨e1, ha1, hb1⟩ := hq; exact hb1
          | goto l => exact hq
          | panic ch => exact hq
          | outgrown => exact hq
        unfold CallE callSem at h1
        have hev : a.eval g = ev n e g := ha.ev g
        cases hd : (Deferred.ofValue (ev n e g) #[.func (.yield (w.heap.size + 1)) #[] #[]]).run P { w with heap := (w.heap.push (.deferred (some []))).push (lobj lp .ready none) } with
        | halt x w' => simp [Sem.run_bind, hd, Result.andThen] at h1
        | ok d w1' =>
          simp only [Sem.run_bind, hd, Result.andThen_ok] at h1
          cases hi : (invoke d.target d.args).run P w1' with
          | halt x w' => simp [hi] at h1
          | ok nx w2 =>
            cases nx <;> simp only [hi] at h1 <;> first | exact h1.elim | skip
            rename_i f args
            refine ⟨w.heap.size + 1, [markD w.heap.size], _, d, w1', f, args, w2, hrun, ?_, fun _ _ => trivial, hi, FF_depth none, callsIn_FF (h1.mono fun en w3 hen => ?_)⟩
            · have : resolve a.eval (rangeCall g (w.heap.size + 1)) 0 = Deferred.ofValue (ev n e g) #[.func (.yield (w.heap.size + 1)) #[] #[]] := by
                simp only [resolve, hev, rangeCall]
                congr 1
                apply Array.toList_inj.1
                simp [Act.eval]
              rw [this]
              exact hd
            · cases en with
              | panicked ch => exact hen.elim
              | outgrown => exact hen.elim
              | returned v =>
                obtain ⟨st, pend, hp1, hp2, hp3⟩ := hen
                refine ⟨pend, _, endLoop_run hp1 hp2, ?_⟩
                have hag : Agree n (upd e n (.iface w.heap.size (e n))) { a with defers := [markD w.heap.size] ++ a.defers } :=
                  ⟨ha.size, fun i hi => by rw [upd_ne _ _ _ (by omega : i ≠ n)]; exact ha.at_ i hi, by rw [upd_same, marks_iface, List.map_cons, ← ha.defers]; rfl⟩
                unfold jumpK at hp3
                split at hp3
                · exact ⟨_, hag, hp3⟩
                · exact wpIn_ret ⟨_, hag, hp3⟩
                · rename_i id
                  exact wpIn_exit ⟨_, hag, lookK_mem (A := fun id w3 => Q (.exit id) (upd e n (.iface w.heap.size (e n))) w3) hp3⟩
                · exact hp3.elim

/-! ### A function's entry -/
theorem TakeW_leaves {fn : Func} {R : Ending → World → Prop} {tmps : Array Value} : ∀ (rs : List Nat) (w : World) (K : World → Prop), TakeW rs w K → (∀ w', K w' → LeavesInM (FF none) 0 P fn tmps R [] .returning w') →
    LeavesInM (FF none) 0 P fn tmps R (rs.map markD) .returning w
  | [], w, K, h, hk => hk w h
  | r :: rs, w, K, h, hk => by
    obtain ⟨h1, h2⟩ := h
    refine ⟨(by intro hh; cases hh), .inl ⟨r, putR w r (.deferred none), rfl, ?_, TakeW_leaves rs _ K h2 hk⟩⟩
    simp [Instr.takeDeferred, getObj, setObj, Sem.run, h1, putR]
def rvS (tmps : Array Value) : ResultVar → Sem Value
  | .tmp t => pure (tmps.getD t undef)
  | .cell a t => do loadVar t (← asAddr (tmps.getD a undef))
theorem results_eq (fn : Func) (tmps : Array Value) : results fn tmps = (do let vs ← fn.results.mapM (rvS tmps); pure (if h : vs.size = 1 then vs[0] else .tuple vs)) := by
  unfold results
  congr 1
theorem resL_run {e : Env} {a : Act} (ha : Agree n e a) : ∀ (rs : List ResultVar) (acc : List Value) (w : World) (K : List Value → World → Prop), resL P n e rs acc w K →
    ∃ vs, (rs.foldlM (fun (l : List Value) r => do
        let v ← rvS a.tmps r
        pure (v :: l)) acc).run P w = .ok vs w ∧ K vs.reverse w
  | [], acc, w, K, h => ⟨acc, rfl, h⟩
  | .tmp t :: rs, acc, w, K, h => by
    obtain ⟨vs, h1, h2⟩ := resL_run ha rs _ w K h
    refine ⟨vs, ?_, h2⟩
    have : a.tmps.getD t undef = ev n e (.tmp t) := ha.ev (.tmp t)
    simp only [List.foldlM_cons, rvS, this, pure_bind]
    exact h1
  | .cell x t :: rs, acc, w, K, h => by
    have hx : ∃ ad, ev n e (.tmp x) = .pointer (some ad) ∧ Hv P (loadVar t ad) w fun v => resL P n e rs (v :: acc) w K := by
      unfold resL CellW at h
      split at h
      · rename_i ad hh; exact ⟨ad, hh, h⟩
      · exact h.elim
    obtain ⟨ad, h0, v, hv, h1⟩ := hx
    obtain ⟨vs, h1, h2⟩ := resL_run ha rs _ w K h1
    refine ⟨vs, ?_, h2⟩
    have : a.tmps.getD x undef = .pointer (some ad) := by rw [← h0]; exact ha.ev (.tmp x)
    simp only [List.foldlM_cons, rvS, this, asAddr, pure_bind, Sem.run_bind, hv, Result.andThen_ok]
    exact h1
theorem foldlM_acc {α β : Type} (f : α → Sem β) (l : List α) (w w' : World) : ∀ (acc vs : List β), (l.foldlM (fun (l : List β) r => do let v ← f r; pure (v :: l)) acc).run P w = .ok vs w' →
    (l.mapM f).run P w = .ok (vs.reverse.drop acc.length) w' := by
  induction l generalizing w with
  | nil =>
    intro acc vs h
    simp only [List.foldlM_nil] at h
    cases h
    simp [List.mapM_nil, Sem.run]
  | cons x xs ih =>
    intro acc vs h
    simp only [List.foldlM_cons, Sem.run_bind] at h
    cases hx : (f x).run P w with
    | halt y w1 => simp [hx, Result.andThen] at h
    | ok v w1 =>
      simp only [hx, Result.andThen_ok] at h
      have h2 : (xs.foldlM (fun (l : List β) r => do let v ← f r; pure (v :: l)) (v :: acc)).run P w1 = .ok vs w' := h
      have h3 := ih w1 (v :: acc) vs h2
      have hlen : ∃ l', vs = l' ++ (v :: acc) := keep xs w1 (v :: acc) vs h2
      obtain ⟨l', rfl⟩ := hlen
      simp only [List.mapM_cons, Sem.run_bind, hx, Result.andThen_ok, h3]
      simp only [List.reverse_append, List.reverse_cons, List.append_assoc, List.length_cons]
      show Result.ok _ w' = Result.ok _ w'
      congr 1
      rw [show acc.length + 1 = (acc.reverse ++ [v]).length by simp]
      rw [← List.append_assoc, List.drop_left]
      rw [List.append_assoc, show acc.length = acc.reverse.length by simp, List.drop_left]
      rfl
where
  keep : ∀ (xs : List α) (w : World) (acc vs : List β), (xs.foldlM (fun (l : List β) r => do let v ← f r; pure (v :: l)) acc).run P w = .ok vs w' → ∃ l', vs = l' ++ acc
    | [], w, acc, vs, h => by simp only [List.foldlM_nil] at h; cases h; exact ⟨[], rfl⟩
    | x :: xs, w, acc, vs, h => by
      simp only [List.foldlM_cons, Sem.run_bind] at h
      cases hx : (f x).run P w with
      | halt y w1 => simp [hx, Result.andThen] at h
      | ok v w1 =>
        simp only [hx, Result.andThen_ok] at h
        obtain ⟨l', rfl⟩ := keep xs w1 (v :: acc) vs h
        exact ⟨l' ++ [v], by simp⟩
theorem results_run {fn : Func} {e : Env} {a : Act} {w : World} {R : Value → World → Prop} (ha : Agree n e a) (h : resL P n e fn.results.toList [] w fun vs w => R (resV vs) w) :
    ∃ v, (results fn a.tmps).run P w = .ok v w ∧ R v w := by
  obtain ⟨vs, h1, h2⟩ := resL_run ha _ _ w _ h
  have h3 := foldlM_acc _ _ w w [] vs h1
  refine ⟨resV vs.reverse, ?_, h2⟩
  rw [results_eq, Array.mapM_eq_mapM_toList]
  simp only [List.length_nil, List.drop_zero] at h3
  simp only [Sem.run_bind, Functor.map, Sem.run_bind', h3, Result.andThen_ok]
  cases vs.reverse with
  | nil => rfl
  | cons x xs => cases xs <;> rfl
theorem initE_at : ∀ (k : Nat) (l : List Value) (i : Nat), initE k l i = if k ≤ i then (l[i - k]?).getD undef else undef
  | k, [], i => by simp [initE]
  | k, v :: vs, i => by
    unfold initE
    by_cases hik : i = k
    · subst hik; rw [upd_same]; simp
    · rw [upd_ne _ _ _ hik, initE_at (k + 1) vs i]
      by_cases hk : k + 1 ≤ i
      · rw [if_pos hk, if_pos (by omega), show i - k = (i - (k + 1)) + 1 by omega, List.getElem?_cons_succ]
      · rw [if_neg hk]
        by_cases hk2 : k ≤ i
        · omega
        · rw [if_neg hk2]
/-- **A FUNCTION's CALL DOES WHAT ITS FORMULA ASKS.** -/
theorem calls_of_enter {f : FuncId} {fn : Func} {ann : Ann} {args : List Value} {w : World} {R : Value → World → Prop} (hm : P.follows .mixedOrders = true)
    (hf : P.funcs[f]? = some fn) (hn0 : Nat.ble args.length fn.ntmps = true) (h : enterW P fn ann args w R) : Calls P f args.toArray w (retK R) := by
  have hn : args.length ≤ fn.ntmps := Nat.le_of_ble_eq_true hn0
  unfold enterW at h
  split at h
  · rename_i c hb
    refine (callsIn_wide (n := 0)).1 (callsIn_of_wp_marks (F := FF none) hf hb trivial ?_)
    have ha : Agree fn.ntmps (initE 0 args) { tmps := args.toArray ++ Array.replicate (fn.ntmps - args.toArray.size) undef, defers := [] } := by
      refine ⟨by simp; omega, fun i hi => ?_, ?_⟩
      · rw [initE_at, if_pos (Nat.zero_le _)]
        simp only [Nat.sub_zero]
        rw [Array.getD_eq_getD_getElem?]
        by_cases hl : i < args.length
        · rw [Array.getElem?_append_left (by simpa using hl)]; simp
        · rw [Array.getElem?_append_right (by simpa using hl), List.getElem?_eq_none (by omega), Array.getElem?_replicate]
          split <;> rfl
      · rw [initE_at, if_pos (Nat.zero_le _), Nat.sub_zero, List.getElem?_eq_none hn]; rfl
    refine wpIn_mono (wpA_sound hm c ann none _ _ _ w ha h) fun en a' w' hq => ?_
    have fin : ∀ e', Agree fn.ntmps e' a' → TakeW (marks (e' fn.ntmps)) w' (fun w => resL P fn.ntmps e' fn.results.toList [] w fun vs w => R (resV vs) w) → LeavesInM (FF none) 0 P fn a'.tmps (retK R) a'.defers .returning w' := fun e' ha' ht => by
      rw [ha'.defers]
      exact TakeW_leaves _ _ _ ht fun w'' hr => results_run ha' hr
    cases en with
    | normal => obtain ⟨e', ha', h1⟩ := hq; exact fin e' ha' h1
    | ret => obtain ⟨e', ha', h1⟩ := hq; exact fin e' ha' h1
    | exit id => obtain ⟨e', ha', h1⟩ := hq; exact h1.elim
    | goto l => exact hq.elim
    | panic ch => exact hq.elim
    | outgrown => exact hq.elim
  · exact h.elim
end Go.Proofs.Ytjnckainogpenaa.Q
