/- The rules of the operations, over frozen memory and owned blocks. -/
import Derived.Test.YtjnckainogpenaaQ7
set_option linter.unusedVariables false
set_option linter.unusedSimpArgs false
set_option maxRecDepth 20000
namespace Go.Proofs.Ytjnckainogpenaa
open Go Q Go.RowKit

/-! ### 1. Small computations by instances -/
class Get (l : List Value) (i : Nat) (v : outParam Value) : Prop where
  h : l[i]? = some v
instance (priority := 900) Get.tail {x : Value} {l : List Value} {i : Nat} {v : Value} [g : Get l i v] : Get (x :: l) (i + 1) v := ⟨by simpa using g.h⟩
instance Get.head {v : Value} {l : List Value} : Get (v :: l) 0 v := ⟨rfl⟩
class GetN (l : List Value) (i n : Nat) (vs : outParam (List Value)) : Prop where
  len : vs.length = n
  h : ∀ j v, vs[j]? = some v → l[i + j]? = some v
instance GetN.nil {l : List Value} : GetN l 0 0 [] := ⟨rfl, fun j v h => by simp at h⟩
instance GetN.cons {x : Value} {l vs : List Value} {n : Nat} [g : GetN l 0 n vs] : GetN (x :: l) 0 (n + 1) (x :: vs) := ⟨by simp [g.len], fun j v h => by
  cases j with
  | zero => simpa using h
  | succ j => have := g.h j v (by simpa using h); simpa [Nat.add_comm, Nat.add_assoc] using this⟩
instance (priority := 900) GetN.skip {x : Value} {l vs : List Value} {i n : Nat} [g : GetN l i n vs] : GetN (x :: l) (i + 1) n vs := ⟨g.len, fun j v h => by
  have := g.h j v h
  rw [show i + 1 + j = (i + j) + 1 by omega]
  simpa using this⟩
class SetN (l : List Value) (i : Nat) (vs : List Value) (l' : outParam (List Value)) : Prop where
  len : l'.length = l.length
  bound : i + vs.length ≤ l.length
  inn : ∀ j v, vs[j]? = some v → l'[i + j]? = some v
  out : ∀ k, k < i ∨ i + vs.length ≤ k → l'[k]? = l[k]?
instance SetN.nil {l : List Value} : SetN l 0 [] l := ⟨rfl, by simp, fun j v h => by simp at h, fun _ _ => rfl⟩
instance SetN.cons {x v : Value} {l vs l' : List Value} [g : SetN l 0 vs l'] : SetN (x :: l) 0 (v :: vs) (v :: l') where
  len := by simp [g.len]
  bound := by have := g.bound; simp at this ⊢; omega
  inn := fun j u h => by
    cases j with
    | zero => simpa using h
    | succ j => have := g.inn j u (by simpa using h); simpa [Nat.add_comm, Nat.add_assoc] using this
  out := fun k hk => by
    cases k with
    | zero => simp at hk
    | succ k => simpa using g.out k (.inr (by simp at hk; omega))
instance (priority := 900) SetN.skip {x : Value} {l vs l' : List Value} {i : Nat} [g : SetN l i vs l'] : SetN (x :: l) (i + 1) vs (x :: l') where
  len := by simp [g.len]
  bound := by have := g.bound; simp at this ⊢; omega
  inn := fun j u h => by
    rw [show i + 1 + j = (i + j) + 1 by omega]
    simpa using g.inn j u h
  out := fun k hk => by
    cases k with
    | zero => rfl
    | succ k => simpa using g.out k (by omega)
class CellsOf (v : Value) (vs : outParam (List Value)) : Prop where
  h : v.cells = vs.toArray
instance {l : List Value} : CellsOf (.agg l.toArray) l := ⟨rfl⟩
instance {k : IntKind} {n : Int} : CellsOf (.int k n) [.int k n] := ⟨rfl⟩
instance {b : Bool} : CellsOf (.bool b) [.bool b] := ⟨rfl⟩
instance {s : ByteArray} : CellsOf (.string s) [.string s] := ⟨rfl⟩
instance {a : Option Addr} : CellsOf (.pointer a) [.pointer a] := ⟨rfl⟩
instance {a : Option Addr} {n c : Nat} : CellsOf (.slice a n c) [.slice a n c] := ⟨rfl⟩
instance {r : Option Nat} : CellsOf (.map r) [.map r] := ⟨rfl⟩
instance {fn : Go.Fn} {a c : Array Value} : CellsOf (.func fn a c) [.func fn a c] := ⟨rfl⟩
instance : CellsOf .nilFunc [.nilFunc] := ⟨rfl⟩
instance : CellsOf .nilIface [.nilIface] := ⟨rfl⟩
instance {t : TypeId} {v : Value} : CellsOf (.iface t v) [.iface t v] := ⟨rfl⟩
def isOne : Value → Bool
  | .agg _ => false
  | .tuple _ => false
  | _ => true
/-- Each cell is one cell. -/
class Ones (vs : List Value) : Prop where
  h : ∀ v ∈ vs, isOne v = true
instance : Ones [] := ⟨fun _ h => by cases h⟩
class One (v : Value) : Prop where
  h : isOne v = true
instance {k : IntKind} {n : Int} : One (.int k n) := ⟨rfl⟩
instance {b : Bool} : One (.bool b) := ⟨rfl⟩
instance {s : ByteArray} : One (.string s) := ⟨rfl⟩
instance {a : Option Addr} : One (.pointer a) := ⟨rfl⟩
instance {a : Option Addr} {n c : Nat} : One (.slice a n c) := ⟨rfl⟩
instance {r : Option Nat} : One (.map r) := ⟨rfl⟩
instance {fn : Go.Fn} {a c : Array Value} : One (.func fn a c) := ⟨rfl⟩
instance : One .nilFunc := ⟨rfl⟩
instance : One .nilIface := ⟨rfl⟩
instance {t : TypeId} {v : Value} : One (.iface t v) := ⟨rfl⟩
instance {v : Value} {vs : List Value} [a : One v] [b : Ones vs] : Ones (v :: vs) := ⟨fun u hu => by
  rcases List.mem_cons.1 hu with rfl | hu
  · exact a.h
  · exact b.h u hu⟩
/-- A block among the owned ones, and the list at another content of it. -/
class Blk (L : Bl) (b : Nat) (o : outParam Obj) (C : outParam (Obj → Bl)) : Prop where
  h : L.Perm ((b, o) :: (C o).tail) ∨ True
  perm : ∃ R : Bl, L.Perm ((b, o) :: R) ∧ ∀ o', (C o').Perm ((b, o') :: R)
instance Blk.head {b : Nat} {o : Obj} {L : Bl} : Blk ((b, o) :: L) b o (fun o' => (b, o') :: L) := ⟨.inr trivial, L, .refl _, fun _ => .refl _⟩
instance (priority := 900) Blk.tail {b : Nat} {o : Obj} {L : Bl} {C : Obj → Bl} {p : Nat × Obj} [g : Blk L b o C] : Blk (p :: L) b o (fun o' => p :: C o') := ⟨.inr trivial, by
  obtain ⟨R, h1, h2⟩ := g.perm
  exact ⟨p :: R, (h1.cons p).trans (.swap _ _ _), fun o' => ((h2 o').cons p).trans (.swap _ _ _)⟩⟩
instance (priority := 800) Blk.app {b : Nat} {o : Obj} {A L : Bl} {C : Obj → Bl} [g : Blk L b o C] : Blk (A ++ L) b o (fun o' => A ++ C o') := ⟨.inr trivial, by
  obtain ⟨R, h1, h2⟩ := g.perm
  exact ⟨A ++ R, (h1.append_left A).trans List.perm_middle, fun o' => ((h2 o').append_left A).trans List.perm_middle⟩⟩
section
variable {w0 w w' : World} {z0 z z' : Z} {B0 B B' L F : Bl} {b : Nat} {o : Obj} {C : Obj → Bl} {K : Value → World → Prop}
theorem Res.at_ (h : Res w0 z0 B0 w z L) [g : Blk L b o C] : w.heap[b]? = some o := by
  obtain ⟨R, h1, _⟩ := g.perm
  exact (h.mem (b, o) (h1.mem_iff.2 List.mem_cons_self)).1
theorem Res.set (h : Res w0 z0 B0 w z L) [g : Blk L b o C] (o' : Obj) {wn : World} (hw : wn = { w with heap := w.heap.setIfInBounds b o' }) : Res w0 z0 B0 wn z (C o') := by
  obtain ⟨R, h1, h2⟩ := g.perm
  exact (Res.put (h.perm h1) o' hw).perm (h2 o').symm
theorem Res.ge (h : Res w0 z0 B0 w z L) [g : Blk L b o C] : w0.heap.size ≤ b ∨ b ∈ ids B0 := by
  obtain ⟨R, h1, _⟩ := g.perm
  exact (h.mem (b, o) (h1.mem_iff.2 List.mem_cons_self)).2.2

/-! ### 2. Cells -/
/-- The cells of a block of memory from a place on. -/
def At (h : Nat → Option Obj) (b off : Nat) (vs : List Value) : Prop := ∃ c ty fr, h b = some (.cells c ty fr) ∧ ∀ j v, vs[j]? = some v → c[off + j]? = some v
abbrev hp (w : World) : Nat → Option Obj := fun b => w.heap[b]?
theorem At.mono {z z' : Z} {off : Nat} {vs : List Value} (h : At z b off vs) (hz : Le z z') : At z' b off vs := let ⟨c, ty, fr, h1, h2⟩ := h; ⟨c, ty, fr, hz _ _ h1, h2⟩
theorem At.world {off : Nat} {vs : List Value} (h : At z b off vs) (hs : Sub z w) : At (hp w) b off vs := let ⟨c, ty, fr, h1, h2⟩ := h; ⟨c, ty, fr, hs _ _ h1, h2⟩
theorem At.cell {off : Nat} {vs : List Value} (h : At (hp w) b off vs) {j : Nat} {v : Value} (hv : vs[j]? = some v) : w.cell? ⟨b, off + j, none⟩ = some v := by
  obtain ⟨c, ty, fr, h1, h2⟩ := h
  unfold World.cell?
  simp only [show w.heap[b]? = _ from h1, Option.isSome_none]
  exact h2 j v hv
theorem Res.atN (h : Res w0 z0 B0 w z L) {l : List Value} {ty : TypeId} {fr : Nat × Nat} [g : Blk L b (.cells l.toArray ty fr) C] {off n : Nat} {vs : List Value} [gn : GetN l off n vs] : At (hp w) b off vs :=
  ⟨_, _, _, h.at_ (C := C), fun j v hv => by simpa using gn.h j v hv⟩
theorem Res.at1 (h : Res w0 z0 B0 w z L) {l : List Value} {ty : TypeId} {fr : Nat × Nat} [g : Blk L b (.cells l.toArray ty fr) C] {off : Nat} {v : Value} [gn : Get l off v] : At (hp w) b off [v] :=
  ⟨_, _, _, h.at_ (C := C), fun j u hu => by
    cases j with
    | zero => simp at hu; subst hu; simpa using gn.h
    | succ j => simp at hu⟩
theorem add_addr (b off i : Nat) : (⟨b, off, none⟩ : Addr).add i = ⟨b, off + i, none⟩ := by
  unfold Addr.add
  split
  · rename_i h; subst h; rfl
  · rfl
end

/-! ### 3. Types -/
class TyOne (t : TypeId) : Prop where
  agg : ∀ w, (isAgg t).run Try.prog w = .ok false w
class TyAgg (t : TypeId) (n : outParam Nat) : Prop where
  agg : ∀ w, (isAgg t).run Try.prog w = .ok true w
class TySize (t : TypeId) (n : outParam Nat) : Prop where
  size : ∀ w, (sizeOf t).run Try.prog w = .ok n w
class TyZero (t : TypeId) (zs : outParam (List Value)) : Prop where
  h : ∃ v, v.cells = zs.toArray ∧ ∀ w, (zeroValue t).run Try.prog w = .ok v w
class TySlice (t : TypeId) (e n : outParam Nat) : Prop where
  und : ∀ w, (underlying t).run Try.prog w = .ok (.slice e) w
  size : ∀ w, (sizeOf e).run Try.prog w = .ok n w
class TyInt (t : TypeId) (k : outParam IntKind) : Prop where
  und : ∀ w, (underlying t).run Try.prog w = .ok (.int k) w
class TyStr (t : TypeId) : Prop where
  und : ∀ w, (underlying t).run Try.prog w = .ok .string w
class TyBool (t : TypeId) : Prop where
  und : ∀ w, (underlying t).run Try.prog w = .ok .bool w
class Fld (s i : Nat) (off : outParam Nat) : Prop where
  h : ∀ a w, (Instr.fieldAt s (.pointer (some a)) i).run Try.prog w = .ok (.pointer (some (a.add off))) w
class TyStruct (t : TypeId) (zs : outParam (List Value)) (places : outParam (List (Nat × Nat))) : Prop where
  h : ∀ (parts : Array (Nat × Value)) w, (Instr.build t parts).run Try.prog w = Sem.run Try.prog (match Instr.fill (places.toArray[·]?) zs.toArray parts.toList with | some cells => pure (.agg cells) | _ => stuck "build: no such field, or a part of the wrong size") w
/-- A computation that is a value in whatever world. -/
class Run (s : Sem Value) (v : outParam Value) : Prop where
  h : ∀ w, s.run Try.prog w = .ok v w
section
variable {w0 w w' : World} {z0 z z' : Z} {B0 B B' L F : Bl} {b : Nat} {o : Obj} {C : Obj → Bl} {K : Value → World → Prop}
theorem V_run {s : Sem Value} {v : Value} [g : Run s v] (h : K v w) : V s w K := ⟨v, w, g.h w, h⟩
theorem PV_run {s : Sem Value} {v : Value} {K : Value → Prop} [g : Run s v] (h : K v) : PV s K := ⟨v, g.h, h⟩

/-! ### 4. Loads -/
theorem loadCells_run {off n : Nat} {vs : List Value} (h : At (hp w) b off vs) (hl : vs.length = n) : (loadCells ⟨b, off, none⟩ n).run Try.prog w = .ok vs.toArray w := by
  have key : ∀ (m i : Nat) (acc : Array Value), i + m = vs.length → (loadCellsFrom ⟨b, off, none⟩ i m acc).run Try.prog w = .ok (acc ++ (vs.drop i).toArray) w := by
    intro m
    induction m with
    | zero => intro i acc hi; simp only [loadCellsFrom]; rw [List.drop_of_length_le (by omega)]; simp [Sem.run]
    | succ m ih =>
      intro i acc hi
      have hlt : i < vs.length := by omega
      simp only [loadCellsFrom, Sem.run_bind, load, add_addr, Sem.run, h.cell (List.getElem?_eq_getElem hlt), Result.andThen_ok]
      rw [ih (i + 1) _ (by omega), List.drop_eq_getElem_cons hlt]
      simp
  unfold loadCells
  rw [key n 0 #[] (by omega)]
  simp
theorem V_ld1 {t : TypeId} [g : TyOne t] {off : Nat} {v : Value} (h : At (hp w) b off [v]) (hk : K v w) : V (ld t (.pointer (some ⟨b, off, none⟩))) w K := by
  refine ⟨v, w, ?_, hk⟩
  have := h.cell (j := 0) (v := v) rfl
  simp only [ld, Instr.loadAt, Instr.sureAddr, pure_bind, loadVar, Sem.run_bind, g.agg, Result.andThen_ok, Bool.false_eq_true, if_false, load, Sem.run]
  simp only [Nat.add_zero] at this
  rw [this]
theorem V_ldN {t n : Nat} [g : TyAgg t n] [gs : TySize t n] {off : Nat} {vs : List Value} (h : At (hp w) b off vs) (hl : vs.length = n) (hk : K (.agg vs.toArray) w) : V (ld t (.pointer (some ⟨b, off, none⟩))) w K := by
  refine ⟨_, w, ?_, hk⟩
  simp only [ld, Instr.loadAt, Instr.sureAddr, pure_bind, loadVar, Sem.run_bind, g.agg, Result.andThen_ok, if_true, gs.size, loadCells_run h hl]
  rfl
theorem V_ldL1 (hS : Res w0 z0 B0 w z L) {t : TypeId} [g : TyOne t] {off : Nat} {v : Value} {l : List Value} {ty : TypeId} {fr : Nat × Nat} [Blk L b (.cells l.toArray ty fr) C] [Get l off v] (hk : K v w) : V (ld t (.pointer (some ⟨b, off, none⟩))) w K :=
  V_ld1 hS.at1 hk
theorem V_ldLN (hS : Res w0 z0 B0 w z L) {t n : Nat} [g : TyAgg t n] [gs : TySize t n] {off : Nat} {vs : List Value} {l : List Value} {ty : TypeId} {fr : Nat × Nat} [Blk L b (.cells l.toArray ty fr) C] [gn : GetN l off n vs] (hk : K (.agg vs.toArray) w) : V (ld t (.pointer (some ⟨b, off, none⟩))) w K :=
  V_ldN (Res.atN (gn := gn) hS) gn.len hk

/-! ### 5. New variables -/
theorem V_al (hS : Res w0 z0 B0 w z L) {t : TypeId} {zs : List Value} [g : TyZero t zs] (hk : ∀ b w', w0.heap.size ≤ b → Res w0 z0 B0 w' z ((b, .cells zs.toArray t (0, 0)) :: L) → K (.pointer (some ⟨b, 0, none⟩)) w') : V (al t) w K := by
  obtain ⟨v, h1, h2⟩ := g.h
  refine ⟨_, _, ?_, hk w.heap.size _ hS.size (hS.new (.cells zs.toArray t (0, 0)))⟩
  simp only [al, Instr.alloc, Sem.run_bind, h2, Result.andThen_ok, newVar, newRow, newObj, Sem.run, h1]
  rfl
theorem V_bx (hS : Res w0 z0 B0 w z L) {t : TypeId} {v : Value} {vs : List Value} [g : CellsOf v vs] (hk : ∀ b w', w0.heap.size ≤ b → Res w0 z0 B0 w' z ((b, .cells vs.toArray t (0, 0)) :: L) → K (.pointer (some ⟨b, 0, none⟩)) w') : V (bx t v) w K := by
  refine ⟨_, _, ?_, hk w.heap.size _ hS.size (hS.new (.cells vs.toArray t (0, 0)))⟩
  simp only [bx, Instr.box, Sem.run_bind, newVar, newRow, newObj, Sem.run, Result.andThen_ok, g.h]
  rfl

/-! ### 6. Stores -/
def setL : List Value → Nat → List Value → List Value
  | l, _, [] => l
  | l, i, v :: vs => setL (l.set i v) (i + 1) vs
theorem setL_length : ∀ (vs l : List Value) (i : Nat), (setL l i vs).length = l.length
  | [], _, _ => rfl
  | v :: vs, l, i => by simp [setL, setL_length vs]
theorem setL_get : ∀ (vs l : List Value) (i k : Nat), i + vs.length ≤ l.length → (setL l i vs)[k]? = if i ≤ k ∧ k < i + vs.length then vs[k - i]? else l[k]?
  | [], l, i, k, _ => by simp only [setL, List.length_nil, Nat.add_zero]; rw [if_neg (by omega)]
  | v :: vs, l, i, k, hb => by
    simp only [List.length_cons] at hb
    simp only [setL, List.length_cons]
    rw [setL_get vs (l.set i v) (i + 1) k (by simp; omega)]
    by_cases h1 : i + 1 ≤ k ∧ k < i + 1 + vs.length
    · rw [if_pos h1, if_pos (by omega), show k - i = (k - (i + 1)) + 1 by omega, List.getElem?_cons_succ]
    · rw [if_neg h1]
      by_cases h2 : k = i
      · subst h2; rw [if_pos (by omega), Nat.sub_self, List.getElem?_set_self (by omega)]; rfl
      · rw [if_neg (by omega), List.getElem?_set_ne (fun e => h2 e.symm)]
theorem SetN.eq {l vs l' : List Value} {i : Nat} (g : SetN l i vs l') : setL l i vs = l' := by
  refine List.ext_getElem? fun k => ?_
  rw [setL_get vs l i k g.bound]
  split
  · rename_i h
    have hlt : k - i < vs.length := by omega
    rw [List.getElem?_eq_getElem hlt]
    have := g.inn (k - i) _ (List.getElem?_eq_getElem hlt)
    rw [show i + (k - i) = k by omega] at this
    exact this.symm
  · rename_i h; exact (g.out k (by omega)).symm
theorem heap_set_self {w : World} {b : Nat} {o : Obj} (h : w.heap[b]? = some o) : w.heap.setIfInBounds b o = w.heap := by
  apply Array.ext_getElem?
  intro i
  rw [Array.getElem?_setIfInBounds]
  split
  · rename_i hb; subst hb; rw [if_pos (lt_of_get h), h]
  · rfl
theorem storeCells_run {ty : TypeId} : ∀ (vs l : List Value) (w : World) (off i : Nat), w.heap[b]? = some (.cells l.toArray ty (0, 0)) → off + i + vs.length ≤ l.length → (∀ v ∈ vs, isOne v = true) →
    (storeCells ⟨b, off, none⟩ vs i).run Try.prog w = .ok () { w with heap := w.heap.setIfInBounds b (.cells (setL l (off + i) vs).toArray ty (0, 0)) }
  | [], l, w, off, i, h, _, _ => by
    simp only [storeCells, setL, heap_set_self h]
    rfl
  | v :: vs, l, w, off, i, h, hb, ho => by
    simp only [List.length_cons] at hb
    have hv := ho v List.mem_cons_self
    have hcell : w.cell? ⟨b, off + i, none⟩ = some (l[off + i]'(by omega)) := by
      unfold World.cell?
      simp only [h, Option.isSome_none]
      simp [List.getElem?_eq_getElem (show off + i < l.length by omega)]
    have hfr : w.frozen? ⟨b, off + i, none⟩ = false := by
      unfold World.frozen?
      simp [h]
    have hset : w.setCell ⟨b, off + i, none⟩ v = { w with heap := w.heap.setIfInBounds b (.cells (l.set (off + i) v).toArray ty (0, 0)) } := by
      unfold World.setCell
      congr 1
      apply Array.ext_getElem?
      intro j
      rw [Array.getElem?_modify, Array.getElem?_setIfInBounds]
      by_cases hj : b = j
      · subst hj
        have hb' := (Array.getElem?_eq_some_iff.1 h).2
        simp [lt_of_get h, hb']
      · simp [hj]
    have hrun : (store ⟨b, off + i, none⟩ v).run Try.prog w = .ok () { w with heap := w.heap.setIfInBounds b (.cells (l.set (off + i) v).toArray ty (0, 0)) } := by
      rw [← hset]
      unfold store
      cases v <;> simp only [isOne] at hv <;> first | (cases hv; done) | (unfold Sem.run; simp [hcell, hfr, Sem.run])
    simp only [storeCells, add_addr, Sem.run_bind, hrun, Result.andThen_ok]
    rw [storeCells_run (ty := ty) vs (l.set (off + i) v) _ off (i + 1) (by simp [lt_of_get h]) (by simp; omega) (fun u hu => ho u (List.mem_cons_of_mem _ hu))]
    simp only [Array.setIfInBounds_setIfInBounds, setL, Nat.add_assoc]
theorem U_st {K : World → Prop} (hS : Res w0 z0 B0 w z L) {t n off : Nat} {v : Value} {vs l l' : List Value} {ty : TypeId} [g : Blk L b (.cells l.toArray ty (0, 0)) C] [gs : TySize t n] [gc : CellsOf v vs] [go : Ones vs] (hn : vs.length = n) [gl : SetN l off vs l']
    (hk : ∀ w', Res w0 z0 B0 w' z (C (.cells l'.toArray ty (0, 0))) → K w') : U (st t (.pointer (some ⟨b, off, none⟩)) v) w K := by
  refine ⟨_, ?_, hk _ (Res.set (g := g) hS (.cells l'.toArray ty (0, 0)) rfl)⟩
  have hsz : v.cells.size = n := by rw [gc.h]; simpa using hn
  simp only [st, Instr.storeAt, Instr.sureAddr, pure_bind, storeVar, Sem.run_bind, gs.size, Result.andThen_ok, hsz, ne_eq, not_true_eq_false, if_false]
  rw [gc.h, storeCells_run vs l w off 0 (Res.at_ (g := g) hS) (by have := gl.bound; omega) go.h]
  rw [Nat.add_zero, gl.eq]

/-! ### 7. A function's results -/
theorem CW_1 {t : TypeId} [g : TyOne t] {off : Nat} {v : Value} {K : Value → Prop} (h : At (hp w) b off [v]) (hk : K v) : CW t (.pointer (some ⟨b, off, none⟩)) w K := by
  refine ⟨v, ?_, hk⟩
  have := h.cell (j := 0) (v := v) rfl
  simp only [loadVar, Sem.run_bind, g.agg, Result.andThen_ok, Bool.false_eq_true, if_false, load, Sem.run]
  simp only [Nat.add_zero] at this
  rw [this]
theorem CW_N {t n : Nat} [g : TyAgg t n] [gs : TySize t n] {off : Nat} {vs : List Value} {K : Value → Prop} (h : At (hp w) b off vs) (hl : vs.length = n) (hk : K (.agg vs.toArray)) : CW t (.pointer (some ⟨b, off, none⟩)) w K := by
  refine ⟨_, ?_, hk⟩
  simp only [loadVar, Sem.run_bind, g.agg, Result.andThen_ok, if_true, gs.size, loadCells_run h hl]
  rfl
theorem CW_L1 (hS : Res w0 z0 B0 w z L) {t : TypeId} [g : TyOne t] {off : Nat} {v : Value} {l : List Value} {ty : TypeId} {fr : Nat × Nat} {K : Value → Prop} [Blk L b (.cells l.toArray ty fr) C] [Get l off v] (hk : K v) : CW t (.pointer (some ⟨b, off, none⟩)) w K :=
  CW_1 hS.at1 hk
theorem CW_LN (hS : Res w0 z0 B0 w z L) {t n : Nat} [g : TyAgg t n] [gs : TySize t n] {off : Nat} {vs : List Value} {l : List Value} {ty : TypeId} {fr : Nat × Nat} {K : Value → Prop} [Blk L b (.cells l.toArray ty fr) C] [gn : GetN l off n vs] (hk : K (.agg vs.toArray)) : CW t (.pointer (some ⟨b, off, none⟩)) w K :=
  CW_N (Res.atN (gn := gn) hS) gn.len hk
end
end Go.Proofs.Ytjnckainogpenaa
