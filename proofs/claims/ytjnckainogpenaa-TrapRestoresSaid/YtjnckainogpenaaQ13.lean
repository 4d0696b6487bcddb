/- Maps, arrays, slicing, making, equality of structs; more of places in lists. -/
import Derived.Test.YtjnckainogpenaaQ12
set_option linter.unusedVariables false
set_option linter.unusedSimpArgs false
set_option maxRecDepth 20000
namespace Go.Proofs.Ytjnckainogpenaa
open Go Q Go.RowKit
section
variable {w0 w w' : World} {z0 z z' : Z} {B0 B B' L F : Bl} {b : Nat} {o : Obj} {C : Obj → Bl} {K : Value → World → Prop}

/-! ### 1. Slicing -/
theorem addr_add0 (a : Addr) : a.add 0 = a := by
  unfold Addr.add
  simp
theorem map_add0 (a : Option Addr) : a.map (·.add 0) = a := by cases a <;> simp [addr_add0]
instance {t e n len cap : Nat} {a : Option Addr} {h : Int} {k : IntKind} [g : TySlice t e n] [hr : InR h (cap + 1)] : Run (sl t (.slice a len cap) none (some (.int k h)) none) (.slice a h.toNat cap) := ⟨fun w => by
  have h1 : h ≤ cap := by have := hr.h1; omega
  simp only [sl, Instr.sliceAt, Sem.run_bind, g.und, Result.andThen_ok, Instr.slice, Instr.sliceBounds, run_pure, Instr.sliceBound, asIntOf, pure_bind, hr.h0, h1, and_self, if_true, g.size, Nat.zero_mul, map_add0, Nat.sub_zero, ite_self]⟩
instance {t e n len cap b off : Nat} {l : Int} {k : IntKind} [g : TySlice t e n] [hr : InR l (len + 1)] : Run (sl t (.slice (some ⟨b, off, none⟩) len cap) (some (.int k l)) none none) (.slice (some ⟨b, if cap = l.toNat then off else off + l.toNat * n, none⟩) (len - l.toNat) (cap - l.toNat)) := ⟨fun w => by
  have h1 : l ≤ len := by have := hr.h1; omega
  simp only [sl, Instr.sliceAt, Sem.run_bind, g.und, Result.andThen_ok, Instr.slice, Instr.sliceBounds, run_pure, Instr.sliceBound, asIntOf, pure_bind, hr.h0, h1, and_self, if_true, g.size, Option.map_some, add_addr, Option.isSome_none, Bool.false_eq_true, if_false]
  split <;> rfl⟩
instance {t n e s b off : Nat} [g : TyArr t n e s] : Run (sl t (.pointer (some ⟨b, off, none⟩)) none none none) (.slice (some ⟨b, off, none⟩) n n) := ⟨fun w => by
  simp only [sl, Instr.sliceAt, Sem.run_bind, g.und, g.size, Result.andThen_ok, Instr.sureAddr, pure_bind, run_pure, Instr.sliceBounds, Nat.zero_mul, add_addr, Nat.add_zero, Nat.sub_zero, ite_self]⟩
instance {t : Nat} {s : ByteArray} {l : Int} {k : IntKind} [g : TyStr t] [hr : InR l (s.size + 1)] : Run (sl t (.string s) (some (.int k l)) none none) (.string (s.extract l.toNat s.size)) := ⟨fun w => by
  have h1 : l ≤ s.size := by have := hr.h1; omega
  simp only [sl, Instr.sliceAt, Sem.run_bind, g.und, Result.andThen_ok, Instr.slice, Instr.sliceBounds, run_pure, Instr.sliceBound, asIntOf, pure_bind, hr.h0, h1, and_self, if_true, Option.isSome_none, Bool.false_eq_true, if_false]⟩
/-! ### 2. Conversions -/
instance {a b : Nat} {k kk : IntKind} {n : Int} [g : TyInt a k] [g' : TyStr b] : Run (cv a b (.int kk n)) (.string (Utf8.encode n)) := ⟨fun w => by
  simp [cv, convert, Sem.run_bind, g.und, g'.und, Conv.intToString]⟩

/-! ### 3. Arrays as values -/
theorem run_part1 {t : Nat} [g : TyOne t] {cs : Array Value} {off : Nat} {v : Value} (h : cs[off]? = some v) (w : World) : (part t cs off).run Try.prog w = .ok v w := by
  simp only [part, Sem.run_bind, g.agg, Result.andThen_ok, Bool.false_eq_true, if_false, h]
  rfl
theorem run_partN {t n : Nat} [g : TyAgg t n] [gs : TySize t n] {cs : Array Value} {off : Nat} (w : World) : (part t cs off).run Try.prog w = .ok (.agg (cs.extract off (off + n))) w := by
  simp only [part, Sem.run_bind, g.agg, gs.size, Result.andThen_ok, if_true]
  rfl
/-- The cell at a place that is known to lie in the list. -/
class At1 (l : List Value) (i : Int) (v : outParam Value) : Prop where
  h0 : 0 ≤ i
  h : l[i.toNat]? = some v
instance {t n e : Nat} [g : TyArr t n e 1] [ge : TyOne e] {l : List Value} {i : Int} {k : IntKind} {v : Value} [hl : LenIs l n] [hv : At1 l i v] : Run (ix t (.agg l.toArray) (.int k i)) v := ⟨fun w => by
  have h1 : i < n := by
    have h0 := hv.h0
    have := (List.getElem?_eq_some_iff.1 hv.h).1
    rw [hl.h] at this; omega
  simp only [ix, Instr.index, asIntOf, pure_bind, Sem.run_bind, g.und, g.size, Result.andThen_ok, hv.h0, h1, and_self, if_true, Nat.mul_one]
  exact run_part1 (by simpa using hv.h) w⟩

/-! ### 4. Equality of structs -/
class EqIn (d t : Nat) (v v' : Value) (r : outParam Bool) : Prop where
  h : ∀ w, (Op.equalIn d t v v').run Try.prog w = .ok r w
instance {d t : Nat} {a b : Bool} [g : TyBool t] : EqIn (d + 1) t (.bool a) (.bool b) (a == b) := ⟨fun w => equalIn_bool d w⟩
instance {d t : Nat} {k kk : IntKind} {a b : Int} [g : TyInt t kk] : EqIn (d + 1) t (.int k a) (.int k b) (decide (a = b)) := ⟨fun w => by
  simp only [Op.equalIn, Sem.run_bind, g.und, Result.andThen_ok, if_true]
  rw [Bool.beq_eq_decide_eq]
  rfl⟩
instance {d t : Nat} {a b : ByteArray} [g : TyStr t] : EqIn (d + 1) t (.string a) (.string b) (decide (a = b)) := ⟨fun w => by
  simp only [Op.equalIn, Sem.run_bind, g.und, Result.andThen_ok]
  have h1 : (a == b) = (a.data == b.data) := by cases a; cases b; rfl
  have : (a == b) = decide (a = b) := by
    rw [h1, Bool.eq_iff_iff]
    simp only [beq_iff_eq, decide_eq_true_eq]
    exact ⟨fun h => by cases a; cases b; simp_all, fun h => by rw [h]⟩
  rw [this]
  rfl⟩
noncomputable def fieldsOf (t : Nat) : Array Field := match Try.prog.underlying t with | some (.struct f) => f | _ => #[]
class TyEqS (t : TypeId) (fs : outParam (List (Nat × Nat))) : Prop where
  und : ∃ fields : Array Field, (∀ w, (underlying t).run Try.prog w = .ok (.struct fields) w) ∧ fields.toList.map (fun f => (f.type, f.offset)) = fs ∧ fields.toList.all (fun f => f.name != "_") = true
  stood : Try.prog.stoodInHeld t = false
  guard : Try.prog.eqGuardType Try.prog.depth t = false
class Part (t : Nat) (l : List Value) (off : Nat) (v : outParam Value) : Prop where
  h : ∀ w, (part t l.toArray off).run Try.prog w = .ok v w
instance {t off : Nat} {l : List Value} {v : Value} [g : TyOne t] [gg : Get l off v] : Part t l off v := ⟨fun w => run_part1 (by simpa using gg.h) w⟩
instance {t n off : Nat} {l vs : List Value} [g : TyAgg t n] [gs : TySize t n] [gg : GetN l off n vs] : Part t l off (.agg vs.toArray) := ⟨fun w => by rw [run_partN, gg.eq]⟩
class EqFs (d : Nat) (fs : List (Nat × Nat)) (l l' : List Value) (r : outParam Bool) : Prop where
  h : ∀ w, ∀ fields : List Field, fields.map (fun f => (f.type, f.offset)) = fs → fields.all (fun f => f.name != "_") = true →
    ∃ x : Option Bool, (forIn (m := Sem) fields ((none, ()) : Option Bool × Unit) (fun (f : Field) (_ : Option Bool × Unit) =>
      if f.name ≠ "_" then (part f.type l.toArray f.offset >>= fun u => part f.type l'.toArray f.offset >>= fun u' => Op.equalIn d f.type u u' >>= fun r => if (!r) = true then pure (ForInStep.done (some false, ())) else pure (ForInStep.yield (none, ())))
      else pure (ForInStep.yield (none, ())))).run Try.prog w = .ok (x, ()) w ∧ r = (match x with | none => true | some y => y)
instance {d : Nat} {l l' : List Value} : EqFs d [] l l' true := ⟨fun w fields h _ => by
  have : fields = [] := by simpa using h
  subst this
  exact ⟨none, rfl, rfl⟩⟩
instance {d t off : Nat} {fs : List (Nat × Nat)} {l l' : List Value} {v v' : Value} {a r : Bool} [p : Part t l off v] [p' : Part t l' off v'] [e : EqIn d t v v' a] [g : EqFs d fs l l' r] : EqFs d ((t, off) :: fs) l l' (a && r) := ⟨fun w fields h hn => by
  cases fields with
  | nil => simp at h
  | cons f fields =>
    simp only [List.map_cons, List.cons.injEq, Prod.mk.injEq] at h
    obtain ⟨⟨rfl, rfl⟩, h3⟩ := h
    simp only [List.all_cons, Bool.and_eq_true, bne_iff_ne] at hn
    obtain ⟨x, h4, h5⟩ := g.h w fields h3 hn.2
    simp only [List.forIn_cons, Sem.run_bind, ne_eq, hn.1, not_false_eq_true, if_true, p.h, p'.h, e.h, Result.andThen_ok]
    cases a with
    | false => exact ⟨some false, rfl, rfl⟩
    | true =>
      refine ⟨x, ?_, by simpa using h5⟩
      simp only [Bool.not_true, Bool.false_eq_true, if_false, run_pure, Result.andThen_ok]
      exact h4⟩
instance {d t : Nat} {l l' : List Value} {fs : List (Nat × Nat)} {r : Bool} [g : TyEqS t fs] [e : EqFs d fs l l' r] : EqIn (d + 1) t (.agg l.toArray) (.agg l'.toArray) r := ⟨fun w => by
  obtain ⟨fields, h1, h2, h3⟩ := g.und
  obtain ⟨x, h4, h5⟩ := e.h w fields.toList h2 h3
  simp only [Op.equalIn, Sem.run_bind, h1, Result.andThen_ok, program, Sem.run, g.stood, Bool.false_eq_true, if_false]
  rw [← Array.forIn_toList]
  rw [h4, h5]
  cases x <;> rfl⟩
instance {t : Nat} {l l' : List Value} {fs : List (Nat × Nat)} {r : Bool} {x y : Operand} [g : TyEqS t fs] [e : EqFs 9999 fs l l' r] : Run (eq .eql t x y (.agg l.toArray) (.agg l'.toArray)) (.bool r) := ⟨fun w => by
  have h : (Op.equalIn Op.maxDepth t (.agg l.toArray) (.agg l'.toArray)).run Try.prog w = .ok r w := (inferInstance : EqIn (9999 + 1) t (.agg l.toArray) (.agg l'.toArray) r).h w
  simp [eq, eqGuard, binOp, Op.equal, Sem.run_bind, h, program, Sem.run, g.guard]⟩
instance {t : Nat} {l l' : List Value} {fs : List (Nat × Nat)} {r : Bool} {x y : Operand} [g : TyEqS t fs] [e : EqFs 9999 fs l l' r] : Run (eq .neq t x y (.agg l.toArray) (.agg l'.toArray)) (.bool (!r)) := ⟨fun w => by
  have h : (Op.equalIn Op.maxDepth t (.agg l.toArray) (.agg l'.toArray)).run Try.prog w = .ok r w := (inferInstance : EqIn (9999 + 1) t (.agg l.toArray) (.agg l'.toArray) r).h w
  simp [eq, eqGuard, binOp, Op.equal, Sem.run_bind, h, program, Sem.run, g.guard]⟩
theorem equalIn_nil (d : Nat) {t e n len cap : Nat} {a : Option Addr} [g : TySlice t e n] (w : World) : (Op.equalIn (d + 1) t (.slice a len cap) (.slice none 0 0)).run Try.prog w = .ok a.isNone w := by
  simp only [Op.equalIn, Sem.run_bind, g.und, Result.andThen_ok]
  cases a <;> rfl
theorem equal_nil {t e n len cap : Nat} {a : Option Addr} [g : TySlice t e n] (w : World) : (Op.equalIn Op.maxDepth t (.slice a len cap) (.slice none 0 0)).run Try.prog w = .ok a.isNone w := equalIn_nil 9999 w
instance {t e n len cap : Nat} {a : Option Addr} {x y : Operand} [g : TySlice t e n] : Run (eq .eql t x y (.slice a len cap) (.slice none 0 0)) (.bool a.isNone) := ⟨fun w => by
  simp [eq, eqGuard, binOp, Op.equal, Sem.run_bind, equal_nil, Sem.run]⟩
instance {t e n len cap : Nat} {a : Option Addr} {x y : Operand} [g : TySlice t e n] : Run (eq .neq t x y (.slice a len cap) (.slice none 0 0)) (.bool !a.isNone) := ⟨fun w => by
  simp [eq, eqGuard, binOp, Op.equal, Sem.run_bind, equal_nil, Sem.run]⟩

/-! ### 5. Maps with whole numbers as keys -/
def mO (kd : IntKind) (l : List (Int × Value)) : Obj := .map (l.zipIdx.map fun p => ({ key := .int kd p.1.1, val := p.1.2, born := p.2 } : MapEntry)).toArray l.length
theorem iV_mm [hS : Res w0 z0 B0 w z L] {t k e : Nat} {kd : IntKind} [g : TyMap t k e] [gk : TyInt k kd] (hk : ∀ b w', w0.heap.size ≤ b → Res w0 z0 B0 w' z ((b, mO kd []) :: L) → K (.map (some b)) w') : V (mm t none) w K := by
  refine ⟨_, _, ?_, hk w.heap.size _ hS.size (hS.new (mO kd []))⟩
  simp only [mm, Instr.makeMap, Sem.run_bind, newObj, Sem.run, Result.andThen_ok]
  rfl
theorem findNow_from (kd : IntKind) (k : Int) (d : TypeDesc) (hd : d = .int kd) : ∀ (l : List (Int × Value)) (j i : Nat), Instr.findNow d (.int kd k) ((l.zipIdx j).map fun p => ({ key := .int kd p.1.1, val := p.1.2, born := p.2 } : MapEntry)) i = some ((l.findIdx? (·.1 == k)).bind fun m => (l[m]?).map fun p => (i + m, p.2)) := by
  subst hd
  intro l
  induction l with
  | nil => intro j i; rfl
  | cons p l ih =>
    intro j i
    simp only [List.zipIdx_cons, List.map_cons, Instr.findNow, Instr.sameNow, if_true]
    rw [List.findIdx?_cons]
    by_cases h : k = p.1
    · subst h; simp
    · have h1 : (k == p.1) = false := by simpa using h
      have h2 : (p.1 == k) = false := by simpa using fun e => h e.symm
      simp only [h1, h2, Bool.false_eq_true, if_false, ih (j + 1) (i + 1)]
      cases l.findIdx? (·.1 == k) with
      | none => rfl
      | some m => simp [Nat.add_comm, Nat.add_left_comm, Nat.add_assoc]
theorem findKey_run {k : Nat} {kd : IntKind} [gk : TyInt k kd] (n : Int) (l : List (Int × Value)) (w : World) :
    (Instr.findKey k (.int kd n) (l.zipIdx.map fun p => ({ key := .int kd p.1.1, val := p.1.2, born := p.2 } : MapEntry))).run Try.prog w = .ok ((l.findIdx? (·.1 == n)).bind fun m => (l[m]?).map fun p => (m, p.2)) w := by
  simp only [Instr.findKey, Sem.run_bind, gk.und, Result.andThen_ok, findNow_from kd n _ rfl, Nat.zero_add]
  rfl
theorem checkKey_from (d : Nat) {k : Nat} {kd : IntKind} [gk : TyInt k kd] (e : Bool) (n : Int) (w : World) : (Instr.checkKey e (d + 1) k (.int kd n)).run Try.prog w = .ok () w := by
  simp only [Instr.checkKey, Sem.run_bind, gk.und, Result.andThen_ok]
  rfl
theorem checkKey_run {k : Nat} {kd : IntKind} [gk : TyInt k kd] (e : Bool) (n : Int) (w : World) : (Instr.checkKey e 10000 k (.int kd n)).run Try.prog w = .ok () w := checkKey_from 9999 e n w
theorem iU_mu {K : World → Prop} [hS : Res w0 z0 B0 w z L] {t k e : Nat} {kd : IntKind} [g : TyMap t k e] [gk : TyInt k kd] {n : Int} {v : Value} {l : List (Int × Value)} [gb : Blk L b (mO kd l) C] (hne : ∀ p ∈ l, p.1 ≠ n)
    (hk : ∀ w', Res w0 z0 B0 w' z (C (mO kd (l ++ [(n, v)]))) → K w') : U (mu t (.map (some b)) (.int kd n) v) w K := by
  refine ⟨_, ?_, hk _ (Res.set (g := gb) hS (mO kd (l ++ [(n, v)])) rfl)⟩
  have hat := Res.at_ (g := gb) hS
  have hno : l.findIdx? (·.1 == n) = none := by
    rw [List.findIdx?_eq_none_iff]; intro p hp; simpa using hne p hp
  simp only [mu, Instr.mapUpdate, Sem.run_bind, g.und, Result.andThen_ok]
  rw [getObj_run hat (by intros; simp [mO])]
  simp only [mO, Result.andThen_ok, Sem.run_bind, checkKey_run, findKey_run, hno, Option.bind_none]
  rw [setObj_run hat (by intros; simp [mO])]
  simp [List.zipIdx_append]
def lkF (l : List (Int × Value)) (n : Int) (z : Value) : Value × Bool := match l.find? (·.1 == n) with | some p => (p.2, true) | none => (z, false)
theorem find_idx (l : List (Int × Value)) (n : Int) : ((l.findIdx? (·.1 == n)).bind fun m => (l[m]?).map fun p => (m, p.2)).map (·.2) = (l.find? (·.1 == n)).map (·.2) := by
  induction l with
  | nil => rfl
  | cons p l ih =>
    rw [List.findIdx?_cons, List.find?_cons]
    cases h : p.1 == n with
    | true => simp
    | false =>
      simp only [Bool.false_eq_true, if_false]
      rw [← ih]
      cases l.findIdx? (·.1 == n) <;> simp [Function.comp_def]
theorem run_lk [hS : Res w0 z0 B0 w z L] {t k e : Nat} {kd : IntKind} [g : TyMap t k e] [gk : TyInt k kd] {n : Int} {zv : Value} {l : List (Int × Value)} [gb : Blk L b (mO kd l) C] (hz : ∀ w, (zeroValue e).run Try.prog w = .ok zv w) (c : Bool) :
    (lk t (.map (some b)) (.int kd n) c).run Try.prog w = .ok (if c then .tuple #[(lkF l n zv).1, .bool (lkF l n zv).2] else (lkF l n zv).1) w := by
  have hat := Res.at_ (g := gb) hS
  simp only [lk, Instr.lookup, Sem.run_bind, g.und, Result.andThen_ok]
  rw [getObj_run hat (by intros; simp [mO])]
  simp only [mO, Result.andThen_ok, Sem.run_bind, checkKey_run, findKey_run, run_pure]
  have := find_idx l n
  cases h : ((l.findIdx? (·.1 == n)).bind fun m => (l[m]?).map fun p => (m, p.2)) with
  | none =>
    rw [h] at this
    simp only [Option.map_none] at this
    have h2 : l.find? (·.1 == n) = none := by cases hh : l.find? (·.1 == n) <;> simp_all
    simp only [lkF, h2, Sem.run_bind, hz, Result.andThen_ok, run_pure]
  | some q =>
    rw [h] at this
    simp only [Option.map_some] at this
    obtain ⟨p, h2, h3⟩ := Option.map_eq_some_iff.1 this.symm
    simp only [lkF, h2, h3, Sem.run_bind, run_pure, Result.andThen_ok]
theorem iV_lk [hS : Res w0 z0 B0 w z L] {t k e : Nat} {kd : IntKind} {zv : Value} [g : TyMap t k e] [gk : TyInt k kd] [gz : TyZero e [zv]] [TyOne e] {n : Int} {l : List (Int × Value)} [gb : Blk L b (mO kd l) C] {c : Bool} (hzz : ∀ w, (zeroValue e).run Try.prog w = .ok zv w)
    (hk : K (if c then .tuple #[(lkF l n zv).1, .bool (lkF l n zv).2] else (lkF l n zv).1) w) : V (lk t (.map (some b)) (.int kd n) c) w K := ⟨_, w, run_lk (gb := gb) hzz c, hk⟩
theorem iHV_lk {K : Value → Prop} [hS : Res w0 z0 B0 w z L] {t k e : Nat} {kd : IntKind} {zv : Value} [g : TyMap t k e] [gk : TyInt k kd] [gz : TyZero e [zv]] {n : Int} {l : List (Int × Value)} [gb : Blk L b (mO kd l) C] {c : Bool} (hzz : ∀ w, (zeroValue e).run Try.prog w = .ok zv w)
    (hk : K (if c then .tuple #[(lkF l n zv).1, .bool (lkF l n zv).2] else (lkF l n zv).1)) : HV (lk t (.map (some b)) (.int kd n) c) w K := ⟨_, run_lk (gb := gb) hzz c, hk⟩

/-! ### 6. Making slices -/
theorem iV_ms [hS : Res w0 z0 B0 w z L] {t e size n bytes : Nat} {k k' : IntKind} {zs : List Value} [g : TyApp t e size bytes] [gs : TySlice t e size] [gz : TyZero e zs] [gl : LenIs zs size] (hn : n * bytes ≤ 1048576) (hn2 : n ≤ 1048576)
    (hk : ∀ b w', w0.heap.size ≤ b → Res w0 z0 B0 w' z ((b, .cells ((List.range (n * size)).map fun i => zs[i % zs.length]!).toArray e (0, 0)) :: L) → K (.slice (some ⟨b, 0, none⟩) n n) w') : V (ms t (.int k n) (.int k' n)) w K := by
  obtain ⟨zv, hinfo, hzs⟩ := g.info
  obtain ⟨i, hi, hz⟩ := Option.map_eq_some_iff.1 hinfo
  simp only [Prod.mk.injEq] at hz
  obtain ⟨hz0, hz1, hz2⟩ := hz
  obtain ⟨zv', hc, hr⟩ := gz.h
  have hwr : IntKind.i64.wrap n = n := wrap_in ⟨by omega, by omega⟩
  refine ⟨_, _, ?_, hk w.heap.size _ hS.size (hS.new (.cells ((List.range (n * size)).map fun i => zs[i % zs.length]!).toArray e (0, 0)))⟩
  have hty : (typeInfo e).run Try.prog w = .ok i w := by
    simp [typeInfo, Sem.run_bind, program, Sem.run, hi]
  have hsm : ¬ ((bytes : Int) * n > 2 ^ 48) := by
    have : ((n * bytes : Nat) : Int) ≤ 1048576 := by omega
    rw [Int.natCast_mul, Int.mul_comm] at this
    omega
  have hask : ¬ (n * bytes > roomBytes) := by simp only [roomBytes]; omega
  simp only [ms, Instr.makeSlice, Sem.run_bind, gs.und, gs.size, Result.andThen_ok, asInt, asIntOf, pure_bind, run_pure, hty, hz2, hwr]
  have h0 : ¬ ((n : Int) < 0) := by omega
  simp only [h0, decide_false, Bool.false_or, Int.lt_irrefl, gt_iff_lt, hsm, decide_eq_true_eq, or_self, if_false, Bool.false_eq_true, askRoom, Int.toNat_natCast, Sem.run_bind]
  simp only [gt_iff_lt] at hask
  simp only [hask, if_false, run_pure, Result.andThen_ok, gs.size]
  by_cases hz : n * size = 0
  · have e1 : (Array.map (fun x => (#[] : Array Value)[x % (#[] : Array Value).size]!) (Array.range 0)) = ((List.range 0).map fun i => zs[i % zs.length]!).toArray := by
      apply Array.toList_inj.1
      simp
    simp only [hz, if_true, newRow, newObj, Sem.run_bind]
    rw [e1]
    rfl
  · simp only [hz, if_false, newRow, newObj, Sem.run_bind, hr, Result.andThen_ok, hc]
    have : (Array.map (fun x => zs.toArray[x % zs.toArray.size]!) (Array.range (n * size))) = ((List.range (n * size)).map fun i => zs[i % zs.length]!).toArray := by
      apply Array.toList_inj.1
      simp
    rw [this]
    rfl
end
end Go.Proofs.Ytjnckainogpenaa
