/- A reading of a translated function's code as one formula: the code as a whole, loops, loops over functions, a function's entry. -/
import Derived.Test.YtjnckainogpenaaQ3
set_option linter.unusedVariables false
set_option linter.unusedSimpArgs false
namespace Go.Proofs.Ytjnckainogpenaa.Q
open Go

inductive Ann where
  | leaf
  | seq (a b : Ann)
  | seqJ (live ms : List Nat) (a b : Ann)
  | cond (a b : Ann)
  | one (a : Ann)
  | loop (live ms : List Nat) (a : Ann)
  | reg (it : Items)
  | draw (p : Plan)
  | rf (ids : List Nat) (asg body : Ann)
def mods (n : Nat) : Code → List Nat
  | .region _ ops _ => dsts ops.toList
  | .seq a b => mods n a ++ mods n b
  | .cond _ a b => mods n a ++ mods n b
  | .block _ a => mods n a
  | .loop a => mods n a
  | .scope a => mods n a
  | .rangeFunc .. => [n]
  | _ => []
def thenX (K : Env → World → Prop) (Q : X → Env → World → Prop) : X → Env → World → Prop
  | .normal, e, w => K e w
  | x, e, w => Q x e w
def blockX (id : Nat) (Q : X → Env → World → Prop) : X → Env → World → Prop
  | .exit i, e, w => bif Nat.beq i id then Q .normal e w else Q (.exit i) e w
  | x, e, w => Q x e w
def loopX (live : List Nat) (I : List Value → World → Prop) (μ : List Value → World → Nat) (m : Nat) (Q : X → Env → World → Prop) : X → Env → World → Prop
  | .normal, e, w => I (live.map e) w ∧ μ (live.map e) w < m
  | x, e, w => Q x e w
def Dr (w : World) (K : World → Prop) : Prop := K { w with drawn := w.drawn + 1 }
def lobj (lp : Loop) (st : LoopState) (pend : Option Code) : Obj := .loop { lp with state := st, pending := pend }
def putR (w : World) (l : Nat) (o : Obj) : World := { w with heap := w.heap.setIfInBounds l o }
def BeginW (l : Nat) (lp : Loop) (w : World) (K : World → Prop) : Prop := w.heap[l]? = some (lobj lp .ready none) ∧ K (putR w l (lobj lp .busy none))
def EndW (l : Nat) (lp : Loop) (jump : Option Code) (w : World) (K : Value → World → Prop) : Prop :=
  (∃ st pend, w.heap[l]? = some (lobj lp st pend)) ∧ K (.bool jump.isNone) (putR w l (lobj lp (if jump.isNone then .ready else .done) jump))
def NewRF (w w1 : World) (r l : Nat) (lp : Loop) : Prop := r = w.heap.size ∧ l = w.heap.size + 1 ∧ w1 = { w with heap := (w.heap.push (.deferred (some []))).push (lobj lp .ready none) }
def CallE (P : Program) (f : Value) (args : Array Value) (w : World) (K : Value → World → Prop) : Prop :=
  match (callSem f args).run P w with
  | .ok (.enter g as) w' => Calls P g as w' (retK K)
  | _ => False
def lookK (id : Nat) : List (Nat × (World → Prop)) → World → Prop
  | [], _ => False
  | (i, K) :: l, w => bif Nat.beq i id then K w else lookK id l w
def jumpK (pend : Option Code) (Kn Kr : World → Prop) (kes : List (Nat × (World → Prop))) (w : World) : Prop :=
  match pend with
  | none => Kn w
  | some .ret => Kr w
  | some (.exit id) => lookK id kes w
  | some _ => False
def RfEnd (l : Nat) (lp : Loop) (w : World) (Kn Kr : World → Prop) (kes : List (Nat × (World → Prop))) : Prop :=
  ∃ st pend, w.heap[l]? = some (lobj lp st pend) ∧ st ≠ .busy ∧ jumpK pend Kn Kr kes (putR w l (lobj lp .exhausted pend))
def putE : List Nat → List Value → Env → Env
  | p :: ps, v :: vs, e => putE ps vs (upd e p v)
  | _, _, e => e
def allLt (n : Nat) : List Nat → Bool
  | [] => true
  | p :: ps => Nat.blt p n && allLt n ps
def roundX (l : Nat) (lp : Loop) (K : Value → World → Prop) : X → Env → World → Prop
  | .normal, _, w => EndW l lp none w K
  | .ret, _, w => EndW l lp (some .ret) w K
  | .exit id, _, w => EndW l lp (some (.exit id)) w K
def asgX (K : Env → World → Prop) : X → Env → World → Prop
  | .normal, e, w => K e w
  | _, _, _ => False

def wpA (P : Program) (n : Nat) : Code → Ann → Option Nat → (X → Env → World → Prop) → Env → World → Prop
  | .skip, _, _, Q, e, w => Q .normal e w
  | .label _, _, _, Q, e, w => Q .normal e w
  | .ret, _, _, Q, e, w => Q .ret e w
  | .exit id, _, _, Q, e, w => Q (.exit id) e w
  | .seq a b, .seq p q, ro, Q, e, w => wpA P n a p ro (thenX (wpA P n b q ro Q) Q) e w
  | .seq a b, .seqJ live ms p q, ro, Q, e, w => bif subB (mods n a) ms && (subB live ms && subB ms (mods n a)) then
      ∀ K : List Value → World → Prop, AllV live.length (fun l => ∀ w, (∀ g : Env, wpA P n b q ro Q (mix live l ms g e) w) → K l w) → wpA P n a p ro (thenX (fun e' w' => K (live.map e') w') Q) e w
      else False
  | .cond c a b, .cond p q, ro, Q, e, w => CondW (ev n e c) (wpA P n a p ro Q e w) (wpA P n b q ro Q e w)
  | .block id a, .one p, ro, Q, e, w => wpA P n a p ro (blockX id Q) e w
  | .scope a, .one p, none, Q, e, w => wpA P n a p none Q e w
  | .loop a, .loop live ms p, ro, Q, e, w => bif subB (mods n a) ms && (subB live ms && subB ms (mods n a)) then
      ∃ (I : List Value → World → Prop) (μ : List Value → World → Nat), I (live.map e) w ∧
        ∀ g : Env, AllV live.length (fun l => ∀ w, I l w → ∀ m, m = μ l w → wpA P n a p ro (loopX live I μ m Q) (mix live l ms g e) w)
      else False
  | .region _ ops false, .reg it, ro, Q, e, w => opsA P n ops.toList it ops.toList (fun l e w => match l with | [] => Q .normal e w | _ => False) e w
  | .region _ ops true, .draw p, ro, Q, e, w => bif okP p && allPlain ops.toList then Dr w (fun w => drawA P n ops p ops.toList.length [] [] [] (fun e w => Q .normal e w) e w) else False
  | .rangeFunc g ps asg body, .rf ids p q, none, Q, e, w => bif allLt n ps.toList then
      ∀ (lp : Loop) (r l : Nat) (w1 : World), NewRF w w1 r l lp →
        (∀ (w' : World) (K : Value → World → Prop), AllV ps.toList.length (fun vs => wpA P n asg p (some l) (asgX fun e1 w1' => BeginW l lp w1' fun w2 => wpA P n body q (some l) (roundX l lp K) e1 w2) (putE ps.toList vs (upd e n undef)) w' → w'.heap[l]? = some (lobj lp .ready none) →
          CallV P (.func (.yield l) #[] #[]) vs.toArray w' K)) →
        CallE P (ev n e g) #[.func (.yield l) #[] #[]] w1 (fun _ w2 => RfEnd l lp w2 (fun w3 => Q .normal (upd e n (.iface r (e n))) w3) (fun w3 => Q .ret (upd e n (.iface r (e n))) w3) (ids.map fun id => (id, fun w3 => Q (.exit id) (upd e n (.iface r (e n))) w3)))
      else False
  | _, _, _, _, _, _ => False
/-- The deferred marks are taken over, one by one. -/
def TakeW : List Nat → World → (World → Prop) → Prop
  | [], w, K => K w
  | r :: rs, w, K => w.heap[r]? = some (.deferred (some [])) ∧ TakeW rs (putR w r (.deferred none)) K
def CellW (P : Program) (t : TypeId) (x : Value) (w : World) (K : Value → Prop) : Prop :=
  match x with
  | .pointer (some ad) => Hv P (loadVar t ad) w K
  | _ => False
def resL (P : Program) (n : Nat) (e : Env) : List ResultVar → List Value → World → (List Value → World → Prop) → Prop
  | [], acc, w, K => K acc.reverse w
  | .tmp t :: rs, acc, w, K => resL P n e rs (ev n e (.tmp t) :: acc) w K
  | .cell a t :: rs, acc, w, K => CellW P t (ev n e (.tmp a)) w fun v => resL P n e rs (v :: acc) w K
def resV : List Value → Value
  | [v] => v
  | vs => .tuple vs.toArray
def retQ (P : Program) (n : Nat) (rs : List ResultVar) (R : Value → World → Prop) : X → Env → World → Prop
  | .normal, e, w => TakeW (marks (e n)) w fun w => resL P n e rs [] w fun vs w => R (resV vs) w
  | .ret, e, w => TakeW (marks (e n)) w fun w => resL P n e rs [] w fun vs w => R (resV vs) w
  | _, _, _ => False
def initE : Nat → List Value → Env
  | _, [] => fun _ => undef
  | k, v :: vs => upd (initE (k + 1) vs) k v
/-- What a function's formula asks of its arguments. -/
def enterW (P : Program) (fn : Func) (ann : Ann) (args : List Value) (w : World) (R : Value → World → Prop) : Prop :=
  match fn.body with
  | some c => wpA P fn.ntmps c ann none (retQ P fn.ntmps fn.results.toList R) (initE 0 args) w
  | none => False
end Go.Proofs.Ytjnckainogpenaa.Q
