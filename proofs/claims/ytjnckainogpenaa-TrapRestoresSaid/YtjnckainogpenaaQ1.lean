/- A reading of a translated function's code as one formula over its values: what the formula asks, the code does. The parts: values, operations, regions in the text's order. -/
import Derived.RangeFuncLeaves
import Derived.RangeFuncIn
import Derived.OrdersIn
import Derived.KernelRfl
import Derived.Laws.Sem
import Derived.Scope
import Derived.TacticsIn
set_option linter.unusedVariables false
set_option linter.unusedSimpArgs false
namespace Go.Proofs.Ytjnckainogpenaa.Q
open Go

abbrev Env := Nat → Value
def upd (e : Env) (d : Nat) (v : Value) : Env := fun i => bif Nat.beq i d then v else e i
def memB (i : Nat) : List Nat → Bool
  | [] => false
  | j :: js => bif Nat.beq i j then true else memB i js
def subB : List Nat → List Nat → Bool
  | [], _ => true
  | i :: is, l => bif memB i l then subB is l else false
def mixL : List Nat → List Value → Env → Env
  | i :: is, v :: vs, e => upd (mixL is vs e) i v
  | _, _, e => e
def mix (live : List Nat) (l : List Value) (ms : List Nat) (g e : Env) : Env := mixL live l (fun i => bif memB i ms then g i else e i)
def AllV : Nat → (List Value → Prop) → Prop
  | 0, p => p []
  | n + 1, p => ∀ v, AllV n fun l => p (v :: l)
theorem AllV.elim : ∀ {n : Nat} {p : List Value → Prop}, AllV n p → ∀ l : List Value, l.length = n → p l
  | 0, _, h, [], _ => h
  | n + 1, _, h, v :: l, hl => AllV.elim (h v) l (by simpa using hl)
theorem AllV.intro : ∀ {n : Nat} {p : List Value → Prop}, (∀ l : List Value, l.length = n → p l) → AllV n p
  | 0, _, h => h [] rfl
  | n + 1, _, h => fun v => AllV.intro fun l hl => h (v :: l) (by simp [hl])

theorem upd_same (e : Env) (d : Nat) (v : Value) : upd e d v d = v := by simp [upd]
theorem upd_ne (e : Env) (d : Nat) (v : Value) {i : Nat} (h : i ≠ d) : upd e d v i = e i := by
  have : Nat.beq i d = false := by rw [← Bool.not_eq_true, Nat.beq_eq]; exact h
  simp [upd, this]
theorem memB_iff {i : Nat} : ∀ {l : List Nat}, memB i l = true ↔ i ∈ l
  | [] => by simp [memB]
  | j :: js => by
    unfold memB
    cases h : Nat.beq i j with
    | true => rw [Nat.beq_eq] at h; simp [h]
    | false =>
      have : i ≠ j := fun e => by rw [← Nat.beq_eq] at e; rw [e] at h; cases h
      simp [this, memB_iff (l := js)]
theorem subB_spec : ∀ {l m : List Nat}, subB l m = true → ∀ i ∈ l, i ∈ m
  | [], _, _, i, hi => by cases hi
  | j :: js, m, h, i, hi => by
    unfold subB at h
    cases hj : memB j m with
    | false => simp [hj] at h
    | true =>
      simp only [hj, cond_true] at h
      rcases List.mem_cons.1 hi with rfl | hi
      · exact memB_iff.1 hj
      · exact subB_spec h i hi
theorem mixL_same : ∀ (live : List Nat) (e f : Env), (∀ i, i ∉ live → f i = e i) → ∀ i, mixL live (live.map e) f i = e i
  | [], e, f, h, i => h i (by simp)
  | j :: js, e, f, h, i => by
    simp only [List.map_cons, mixL]
    by_cases hij : i = j
    · subst hij; exact upd_same ..
    · rw [upd_ne _ _ _ hij]
      exact mixL_map_ne js e f i fun hn => h i (by simp [hij, hn])
where
  mixL_map_ne : ∀ (live : List Nat) (e f : Env) (i : Nat), (i ∉ live → f i = e i) → mixL live (live.map e) f i = e i
    | [], e, f, i, h => h (by simp)
    | j :: js, e, f, i, h => by
      simp only [List.map_cons, mixL]
      by_cases hij : i = j
      · subst hij; exact upd_same ..
      · rw [upd_ne _ _ _ hij]
        exact mixL_map_ne js e f i fun hn => h (by simp [hij, hn])
/-- An environment that parts from 'e' only at 'ms' is a mixture. -/
theorem mix_of (live ms : List Nat) (e e' : Env) (h : ∀ i, i ∉ ms → e' i = e i) : mix live (live.map e') ms e' e = e' := by
  funext i
  unfold mix
  refine mixL_same live e' _ (fun i _ => ?_) i
  cases hm : memB i ms with
  | true => rfl
  | false =>
    refine (h i fun hi => ?_).symm
    rw [memB_iff.2 hi] at hm; cases hm
theorem mixL_out : ∀ (live : List Nat) (l : List Value) (f : Env) (i : Nat), i ∉ live → mixL live l f i = f i
  | [], _, f, i, _ => by simp [mixL]
  | j :: js, [], f, i, _ => by simp [mixL]
  | j :: js, v :: vs, f, i, h => by
    simp only [mixL]
    rw [upd_ne _ _ _ (fun e => h (by simp [e]))]
    exact mixL_out js vs f i fun hn => h (by simp [hn])
theorem mix_out {live ms : List Nat} {l : List Value} {g e : Env} {i : Nat} (h1 : i ∉ live) (h2 : i ∉ ms) : mix live l ms g e i = e i := by
  unfold mix
  rw [mixL_out _ _ _ _ h1]
  cases hm : memB i ms with
  | true => exact absurd (memB_iff.1 hm) h2
  | false => rfl

/-! ### Values -/
def ev (n : Nat) (e : Env) : Operand → Value
  | .tmp t => bif Nat.blt t n then e t else undef
  | .const v => v
  | .global g => .pointer (some ⟨g, 0, none⟩)
  | .func f => .func (.func f) #[] #[]
/-- The marks that loops over functions have left: a list, told as a value. -/
def marksF : Nat → Value → List Nat
  | k + 1, .iface r v => r :: marksF k v
  | _, _ => []
def depth : Value → Nat
  | .iface _ v => depth v + 1
  | _ => 0
def marks (v : Value) : List Nat := marksF (depth v) v
theorem marks_iface (r : Nat) (v : Value) : marks (.iface r v) = r :: marks v := rfl
def markD (r : Nat) : Deferred := { target := .collected r, args := #[] }
structure Agree (n : Nat) (e : Env) (a : Act) : Prop where
  size : a.tmps.size = n
  at_ : ∀ i, i < n → a.tmps.getD i undef = e i
  defers : a.defers = (marks (e n)).map markD
theorem blt_iff {t n : Nat} : Nat.blt t n = true ↔ t < n := by rw [Nat.blt_eq]
theorem blt_true {t n : Nat} (h : t < n) : Nat.blt t n = true := blt_iff.2 h
theorem blt_false {t n : Nat} (h : ¬ t < n) : Nat.blt t n = false := by
  cases hb : Nat.blt t n with
  | false => rfl
  | true => exact absurd (blt_iff.1 hb) h
theorem Agree.ev {n : Nat} {e : Env} {a : Act} (h : Agree n e a) (x : Operand) : a.eval x = Q.ev n e x := by
  cases x with
  | tmp t =>
    simp only [Act.eval, Q.ev]
    by_cases ht : t < n
    · rw [blt_true ht, cond_true, ← h.at_ t ht]
    · have hle : a.tmps.size ≤ t := by rw [h.size]; exact Nat.le_of_not_lt ht
      rw [blt_false ht, cond_false, Array.getD_eq_getD_getElem?, Array.getElem?_eq_none hle]; rfl
  | _ => rfl
theorem Agree.evf {n : Nat} {e : Env} {a : Act} (h : Agree n e a) : a.eval = Q.ev n e := funext h.ev
theorem Agree.put {n : Nat} {e : Env} {a : Act} (h : Agree n e a) {d : Nat} (hd : d < n) (v : Value) : Agree n (upd e d v) (a.put (some d) v) where
  size := by simp [Act.put, h.size]
  at_ := fun i hi => by
    by_cases hid : i = d
    · subst hid
      rw [upd_same]
      simp [Act.put, Array.getD_eq_getD_getElem?, h.size, hi]
    · rw [upd_ne _ _ _ hid, ← h.at_ i hi]
      simp [Act.put, Array.getD_eq_getD_getElem?, Array.getElem?_setIfInBounds_ne (Ne.symm hid)]
  defers := by
    rw [upd_ne _ _ _ (by omega : n ≠ d)]
    exact h.defers
theorem Agree.put_none {n : Nat} {e : Env} {a : Act} (h : Agree n e a) (v : Value) : Agree n e (a.put none v) := h
/-- What is written in a slot that held it already. -/
theorem Agree.again {n : Nat} {e : Env} {a : Act} (h : Agree n e a) (d : Nat) (v : Value) (hv : e d = v) : Agree n (upd e d v) a := by
  have : upd e d v = e := by
    funext i
    by_cases hid : i = d
    · subst hid; rw [upd_same, hv]
    · exact upd_ne _ _ _ hid
  rw [this]; exact h

inductive X where
  | normal
  | exit (id : Nat)
  | ret

/-! ### Operations -/
/-- The computation goes through, and what follows holds of its value. -/
def Sv (P : Program) (s : Sem Value) (w : World) (K : Value → World → Prop) : Prop := ∃ v w', s.run P w = .ok v w' ∧ K v w'
def Su (P : Program) (s : Sem Unit) (w : World) (K : World → Prop) : Prop := ∃ w', s.run P w = .ok () w' ∧ K w'
def CondW (c : Value) (A B : Prop) : Prop := ∃ b, c = .bool b ∧ (b = true → A) ∧ (b = false → B)
def Pk (c a b : Value) (K : Value → Prop) : Prop :=
  match c with
  | .bool t => K (bif t then a else b)
  | _ => False
def NilW (v : Value) (K : Value → Prop) : Prop :=
  match v with
  | .pointer none => False
  | .pointer (some a) => K (.pointer (some a))
  | v => ∃ a, v = .pointer (some a) ∧ K v
def callSem (f : Value) (args : Array Value) : Sem Next := do let d ← Deferred.ofValue f args; invoke d.target d.args
def retK (K : Value → World → Prop) : Ending → World → Prop
  | .returned v, w => K v w
  | _, _ => False
/-- A call of a function's value. -/
def CallV (P : Program) (f : Value) (args : Array Value) (w : World) (K : Value → World → Prop) : Prop :=
  match (callSem f args).run P w with
  | .ok (.value v) w' => K v w'
  | .ok (.enter g as) w' => Calls P g as w' (retK K)
  | .ok (.round l g tmps asg body) w' => RoundIn Fence.wide 0 P l g tmps asg body w' (retK K)
  | _ => False
def mapE (n : Nat) (e : Env) (xs : Array Operand) : Array Value := (xs.toList.map (ev n e)).toArray
def mapP (n : Nat) (e : Env) (ps : Array (Nat × Operand)) : Array (Nat × Value) := (ps.toList.map fun p => (p.1, ev n e p.2)).toArray
def bsem (b : Builtin) (argTypes : Array TypeId) (type : TypeId) (args : Array Value) : Option (Sem Value) :=
  match b with
  | .append => some (Builtin.append_ argTypes type args)
  | .len => some (Builtin.len_ argTypes type args)
  | .cap => some (Builtin.cap_ argTypes type args)
  | .copy => some (Builtin.copy_ argTypes type args)
  | .delete => some (Builtin.delete_ argTypes type args)
  | .clear => some (Builtin.clear_ argTypes type args)
  | .min => some (Builtin.min_ argTypes type args)
  | .max => some (Builtin.max_ argTypes type args)
  | _ => none
def vsem (n : Nat) (e : Env) (o : Oper) : Option (Sem Value) :=
  match o.op with
  | .alloc elem => some (Instr.alloc elem true (.tuple #[]))
  | .box elem x => some (Instr.box elem (ev n e x))
  | .build t parts => some (Instr.build t (mapP n e parts))
  | .buildSlice t len parts => some (Instr.buildSlice t len (mapP n e parts))
  | .load t a => some (Instr.loadAt t (ev n e a))
  | .waits g => some (Instr.waits g)
  | .binOp op xType x y _ => some (do eqGuard op xType x y (ev n e x) (ev n e y); binOp op xType (ev n e x) (ev n e y))
  | .unOp op _ x => some (Op.unary op (ev n e x))
  | .convert src dst x => some (convert src dst (ev n e x))
  | .makeInterface xType x => some (Instr.makeInterface xType (ev n e x))
  | .makeMap t r => some (Instr.makeMap t (r.map (ev n e)))
  | .makeSlice t l c => some (Instr.makeSlice t (ev n e l) (ev n e c))
  | .slice t x lo hi mx => some (Instr.sliceAt t (ev n e x) (lo.map (ev n e)) (hi.map (ev n e)) (mx.map (ev n e)))
  | .fieldAddr s x f => some (Instr.fieldAt s (ev n e x) f)
  | .field xType x f => some (Instr.field xType (ev n e x) f)
  | .indexAddr t x ix => some (Instr.indexAt t (ev n e x) (ev n e ix))
  | .index xType x ix => some (Instr.index xType (ev n e x) (ev n e ix))
  | .lookup xType x ix ok => some (Instr.lookup xType (ev n e x) (ev n e ix) ok)
  | .mapEntry t m k => some (Instr.mapEntry t (ev n e m) (ev n e k))
  | .range xType x => some (Instr.range xType (ev n e x))
  | .next it isString => some (Instr.next (ev n e it) isString o.type)
  | .entry it => some (Instr.entry (ev n e it))
  | .typeAssert x xType asserted ok => some (Instr.typeAssert (ev n e x) xType asserted ok)
  | .extract t ix => some (Instr.extract (ev n e t) ix)
  | .call c =>
    match c.callee with
    | .builtin b => bsem b c.argTypes o.type (mapE n e c.args)
    | _ => none
  | _ => none
/-- An operation that only moves values. -/
def moveA (n : Nat) (o : Oper) (e : Env) (K : Value → Prop) : Option Prop :=
  match o.op with
  | .move x | .assign x => some (K (ev n e x))
  | .pick c a b => some (Pk (ev n e c) (ev n e a) (ev n e b) K)
  | .makeFunc fn f c => some (K (.func fn (mapE n e f) (mapE n e c)))
  | .nilCheck x => some (NilW (ev n e x) K)
  | _ => none
def valA (P : Program) (n : Nat) (o : Oper) (e : Env) (w : World) (K : Value → World → Prop) : Prop :=
  match moveA n o e (fun v => K v w) with
  | some p => p
  | none =>
    match vsem n e o with
    | some s => Sv P s w K
    | none =>
      match o.op with
      | .store t a x => Su P (Instr.storeAt t (ev n e a) (ev n e x)) w (K undef)
      | .ready g => Su P (Instr.ready g) w (K undef)
      | .mapUpdate t m k x | .insert t m k x => Su P (Instr.mapUpdate t (ev n e m) (ev n e k) (ev n e x)) w (K undef)
      | .entryStore t m s x => Su P (Instr.entryStore t (ev n e m) (ev n e s) (ev n e x)) w (K undef)
      | .call c =>
        match c.callee with
        | .value f => CallV P (ev n e f) (mapE n e c.args) w K
        | _ => False
      | _ => False
def dstA (n : Nat) (o : Oper) (e : Env) (v : Value) (K : Env → Prop) : Prop :=
  match o.dst with
  | some d => bif Nat.blt d n then K (upd e d v) else False
  | none => K e
def opA (P : Program) (n : Nat) (o : Oper) (e : Env) (w : World) (K : Env → World → Prop) : Prop := valA P n o e w fun v w' => dstA n o e v fun e' => K e' w'

/-- The frame's rules: those of a plain frame, or of a round of a loop over a function. -/
def FF (ro : Option Nat) : Fence := { Fence.wide with round := ro }
theorem FF_fn (ro : Option Nat) (f : FuncId) : (FF ro).fn f := trivial
theorem FF_room (ro : Option Nat) (k : Nat) : (FF ro).room k := room_wide k
theorem FF_depth (ro : Option Nat) : (FF ro).depth.isSome = true → 1 ≤ 0 := fun h => by cases h
theorem FF_round (ro : Option Nat) : (FF ro).round = ro := rfl
theorem callsIn_FF {ro : Option Nat} {k : Nat} {P : Program} {f : FuncId} {args : Array Value} {w : World} {R : Ending → World → Prop} (h : Calls P f args w R) : CallsIn (FF ro) k P f args w R :=
  ⟨trivial, fun cs _ => let ⟨e, w', fr, r, s, x⟩ := (callsIn_wide (n := k)).2 h |>.2 cs (room_wide _); ⟨e, w', fr, r, s, x⟩⟩
theorem roundIn_FF {ro : Option Nat} {k : Nat} {P : Program} {l : Nat} {f : FuncId} {tmps : Array Value} {asg body : Code} {w : World} {R : Ending → World → Prop} (h : RoundIn Fence.wide 0 P l f tmps asg body w R) : RoundIn (FF ro) k P l f tmps asg body w R :=
  ⟨trivial, fun c cs _ => let ⟨e, w', r, s⟩ := h.2 c cs (room_wide _); ⟨e, w', r, s⟩⟩

theorem mapE_eq (n : Nat) (e : Env) (xs : Array Operand) : mapE n e xs = xs.map (ev n e) := by
  apply Array.toList_inj.1; simp [mapE]
theorem mapP_eq (n : Nat) (e : Env) (ps : Array (Nat × Operand)) : mapP n e ps = ps.map fun (i, x) => (i, ev n e x) := by
  apply Array.toList_inj.1; simp [mapP]

def lift (s : Sem Value) : Sem Next := do pure (.value (← s))
theorem lift_run {P : Program} {s : Sem Value} {w w' : World} {v : Value} (h : s.run P w = .ok v w') : (lift s).run P w = .ok (.value v) w' := by
  simp only [lift, Sem.run_bind, h, Result.andThen_ok]; rfl
theorem vsem_exec {n : Nat} {e : Env} {o : Oper} {s : Sem Value} (h : vsem n e o = some s) : execOp (ev n e) o = lift s := by
  unfold vsem at h
  unfold execOp lift
  split at h <;> rename_i hop <;> simp only [hop]
  all_goals first
    | (cases h; rfl)
    | (rw [mapP_eq] at h; cases h; rfl)
    | skip
  case h_25 c =>
    split at h
    · rename_i b hc
      simp only [resolve, hc, pure_bind, invoke]
      rw [mapE_eq] at h
      cases b <;> simp only [bsem] at h <;> cases h <;> rfl
    · cases h
  case h_26 => cases h
theorem moveA_lift {n : Nat} {e : Env} {o : Oper} {K : Value → Prop} {p : Prop} (h : moveA n o e K = some p) (hp : p) :
    ∃ v, execOp (ev n e) o = lift (.pure v) ∧ K v := by
  unfold moveA at h
  unfold execOp
  split at h <;> rename_i hop <;> simp only [hop]
  · cases h; exact ⟨_, rfl, hp⟩
  · cases h; exact ⟨_, rfl, hp⟩
  · cases h
    unfold Pk at hp
    split at hp
    · rename_i t hc
      refine ⟨_, ?_, hp⟩
      simp only [hc, asBool]
      cases t <;> rfl
    · exact hp.elim
  · cases h
    rw [mapE_eq, mapE_eq] at hp
    exact ⟨_, rfl, hp⟩
  · cases h
    unfold NilW at hp
    split at hp
    · exact hp.elim
    · rename_i hx; rw [hx]; exact ⟨_, rfl, hp⟩
    · obtain ⟨ad, hv, hp⟩ := hp
      rw [hv] at hp ⊢
      exact ⟨_, rfl, hp⟩
  · cases h
theorem moveA_exec {P : Program} {n : Nat} {e : Env} {o : Oper} {K : Value → Prop} {p : Prop} (h : moveA n o e K = some p) (hp : p) :
    ∃ v, (∀ w, (execOp (ev n e) o).run P w = .ok (.value v) w) ∧ K v := by
  obtain ⟨v, hx, hK⟩ := moveA_lift h hp
  exact ⟨v, fun w => by rw [hx]; rfl, hK⟩
theorem moveA_mono {n : Nat} {o : Oper} {e : Env} {K K' : Value → Prop} {p : Prop} (h : moveA n o e K = some p) (hk : ∀ v, K v → K' v) : ∃ p', moveA n o e K' = some p' ∧ (p → p') := by
  unfold moveA at h ⊢
  split at h <;> rename_i hop <;> cases h <;> refine ⟨_, rfl, fun hp => ?_⟩
  · exact hk _ hp
  · exact hk _ hp
  · unfold Pk at hp ⊢; split at hp <;> first | exact hk _ hp | exact hp
  · exact hk _ hp
  · unfold NilW at hp ⊢; split at hp <;> first | exact hk _ hp | exact hp | (obtain ⟨ad, hv, hp⟩ := hp; exact ⟨ad, hv, hk _ hp⟩)
theorem moveA_none {n : Nat} {o : Oper} {e : Env} {K K' : Value → Prop} (h : moveA n o e K = none) : moveA n o e K' = none := by
  unfold moveA at h ⊢
  split at h <;> first | (cases h; done) | rfl
theorem Sv.mono {P : Program} {s : Sem Value} {w : World} {K K' : Value → World → Prop} (h : Sv P s w K) (hk : ∀ v w', K v w' → K' v w') : Sv P s w K' :=
  let ⟨v, w', hr, hK⟩ := h; ⟨v, w', hr, hk _ _ hK⟩
theorem Su.mono {P : Program} {s : Sem Unit} {w : World} {K K' : World → Prop} (h : Su P s w K) (hk : ∀ w', K w' → K' w') : Su P s w K' :=
  let ⟨w', hr, hK⟩ := h; ⟨w', hr, hk _ hK⟩
theorem retK.mono {K K' : Value → World → Prop} (hk : ∀ v w', K v w' → K' v w') : ∀ e w, retK K e w → retK K' e w
  | .returned v, w, h => hk _ _ h
  | .panicked _, _, h => h.elim
  | .outgrown, _, h => h.elim
theorem CallV.mono {P : Program} {f : Value} {args : Array Value} {w : World} {K K' : Value → World → Prop} (h : CallV P f args w K) (hk : ∀ v w', K v w' → K' v w') : CallV P f args w K' := by
  unfold CallV at h ⊢
  split at h
  · exact hk _ _ h
  · exact Calls.mono h (retK.mono hk)
  · exact RoundIn.mono h (retK.mono hk)
  · exact h.elim
theorem valA_mono {P : Program} {n : Nat} {o : Oper} {e : Env} {w : World} {K K' : Value → World → Prop} (h : valA P n o e w K) (hk : ∀ v w', K v w' → K' v w') : valA P n o e w K' := by
  unfold valA at h ⊢
  split at h
  · rename_i p hp
    obtain ⟨p', hp', himp⟩ := moveA_mono hp (fun v => hk v w)
    rw [hp']
    exact himp h
  · rename_i hp
    rw [moveA_none hp]
    split at h
    · exact h.mono hk
    · split at h <;> first
        | exact h.mono (fun w' => hk _ _)
        | exact h.elim
        | skip
      split at h
      · exact h.mono hk
      · exact h.elim
/-- An operation that the formula takes does what the formula says. -/
theorem valA_sound {P : Program} {n : Nat} {ro : Option Nat} {o : Oper} {e : Env} {a : Act} {w : World} {K : Value → World → Prop} {next : Act → World → Prop} {Qx : Exit → Act → World → Prop}
    (ha : Agree n e a) (h : valA P n o e w K) (hk : ∀ v w', K v w' → next (a.put o.dst v) w') : o.wpIn (FF ro) 0 P a w next Qx := by
  refine ⟨fun _ _ => trivial, ?_⟩
  have hsem : o.semAt (FF ro).round a.eval = execOp (ev n e) o := by
    rw [Oper.semAt_eq _ _ _ (fun c hc => by simp only [valA, moveA, vsem, hc] at h), ha.evf]
  rw [hsem]
  have hu : ∀ s : Sem Unit, Su P s w (K undef) → o.uponIn (FF ro) 0 P a next Qx ((do s; pure Next.skip : Sem Next).run P w) := fun s ⟨w', hr, hK⟩ => by
    simp only [Sem.run_bind, hr, Result.andThen_ok]
    exact hk _ _ hK
  unfold valA at h
  split at h
  · rename_i p hp
    obtain ⟨v, hr, hK⟩ := moveA_exec (P := P) hp h
    rw [hr]
    exact hk _ _ hK
  · split at h
    · rename_i s hs
      obtain ⟨v, w', hr, hK⟩ := h
      rw [vsem_exec hs, lift_run hr]
      exact hk _ _ hK
    · unfold execOp
      split at h <;> rename_i hop <;> simp only [hop]
      all_goals first
        | exact hu _ h
        | exact h.elim
        | skip
      split at h
      · rename_i f hc
        simp only [resolve, hc]
        rw [mapE_eq] at h
        unfold CallV callSem at h
        generalize hr : (Deferred.ofValue (ev n e f) (_ : Array Value) >>= fun d => invoke d.target d.args).run P w = r at h
        split at h
        · exact hk _ _ h
        · refine ⟨FF_depth ro, callsIn_FF (h.mono fun en w'' he => ?_)⟩
          cases en with
          | returned v => exact hk _ _ he
          | panicked ch => exact he.elim
          | outgrown => exact he.elim
        · refine ⟨FF_depth ro, roundIn_FF (h.mono fun en w'' he => ?_)⟩
          cases en with
          | returned v => exact hk _ _ he
          | panicked ch => exact he.elim
          | outgrown => exact he.elim
        · exact h.elim
      · exact h.elim

end Go.Proofs.Ytjnckainogpenaa.Q
