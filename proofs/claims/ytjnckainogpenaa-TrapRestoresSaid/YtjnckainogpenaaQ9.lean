/- More rules: values, tests, strings, slices, appending. -/
import Derived.Test.YtjnckainogpenaaQ8
import Derived.Laws.AppendOwn
import Derived.IntWalk
set_option linter.unusedVariables false
set_option linter.unusedSimpArgs false
set_option maxRecDepth 20000
namespace Go.Proofs.Ytjnckainogpenaa
open Go Q Go.RowKit

/-! ### 1. More of types -/
class TyArr (t : TypeId) (n e s : outParam Nat) : Prop where
  und : ∀ w, (underlying t).run Try.prog w = .ok (.array n e) w
  size : ∀ w, (sizeOf e).run Try.prog w = .ok s w
class TyMap (t : TypeId) (k e : outParam Nat) : Prop where
  und : ∀ w, (underlying t).run Try.prog w = .ok (.map k e) w
class TyApp (t : TypeId) (e size bytes : outParam Nat) : Prop where
  und : Try.prog.underlying t = some (.slice e)
  info : ∃ z : Value, (Try.prog.info? e).map (fun i => (i.zero, i.size, i.bytes)) = some (some z, size, bytes) ∧ z.cells.size = size
  pos : 0 < size
class Fld1 (s i : Nat) (off : outParam Nat) : Prop where
  h : ∀ cs w, (Instr.field s (.agg cs) i).run Try.prog w = Sem.run Try.prog (match cs[off]? with | some v => pure v | none => stuck "part: no such cell") w
class FldN (s i : Nat) (off n : outParam Nat) : Prop where
  h : ∀ cs w, (Instr.field s (.agg cs) i).run Try.prog w = .ok (.agg (cs.extract off (off + n))) w
theorem GetN.eq {l vs : List Value} {i n : Nat} (g : GetN l i n vs) : (l.toArray.extract i (i + n)) = vs.toArray := by
  apply Array.toList_inj.1
  simp only [Array.toList_extract, List.extract_eq_take_drop]
  refine List.ext_getElem? fun j => ?_
  simp only [Nat.add_sub_cancel_left]
  rw [List.getElem?_take]
  split
  · rename_i hj
    have hlt : j < vs.length := by rw [g.len]; exact hj
    rw [List.getElem?_drop, List.getElem?_eq_getElem hlt]
    exact g.h j _ (List.getElem?_eq_getElem hlt)
  · rename_i hj
    rw [List.getElem?_eq_none (by rw [g.len]; omega)]

/-! ### 2. Values -/
theorem toList_eq (s : ByteArray) : s.toList = s.data.toList := by
  have key : ∀ (k i : Nat) (r : List UInt8), s.size - i = k → ByteArray.toList.loop s i r = r.reverse ++ s.data.toList.drop i := by
    intro k
    induction k with
    | zero =>
      intro i r hk
      unfold ByteArray.toList.loop
      have : ¬ i < s.size := by omega
      rw [if_neg this, List.drop_of_length_le (by simp [← ByteArray.size_data] at *; omega)]
      simp
    | succ k ih =>
      intro i r hk
      unfold ByteArray.toList.loop
      have hlt : i < s.size := by omega
      rw [if_pos hlt, ih (i + 1) _ (by omega)]
      have hl : i < s.data.toList.length := by simpa using hlt
      rw [List.drop_eq_getElem_cons hl]
      simp only [List.reverse_cons, List.append_assoc, List.cons_append, List.nil_append]
      congr 2
      have : s.get! i = s.data[i]'(by simpa using hl) := by
        show s.data[i]! = _
        rw [getElem!_pos s.data i (by simpa using hl)]
      rw [this]; simp
  unfold ByteArray.toList
  rw [key s.size 0 [] rfl]
  simp
theorem str_eq (a b : ByteArray) : (a.toList == b.toList) = decide (a = b) := by
  rw [toList_eq, toList_eq]
  by_cases h : a = b
  · subst h; simp
  · rw [decide_eq_false h, beq_eq_false_iff_ne]
    intro hh
    apply h
    cases a; cases b
    simp only at hh
    rw [Array.toList_inj.1 hh]
theorem equalIn_bool (d : Nat) {t : Nat} {a b : Bool} [g : TyBool t] (w : World) : (Op.equalIn (d + 1) t (.bool a) (.bool b)).run Try.prog w = .ok (a == b) w := by
  simp only [Op.equalIn, Sem.run_bind, g.und, Result.andThen_ok]
  rfl
theorem equal_bool {t : Nat} {a b : Bool} [g : TyBool t] (w : World) : (Op.equalIn Op.maxDepth t (.bool a) (.bool b)).run Try.prog w = .ok (a == b) w := equalIn_bool 9999 w
/-- Sums of places, without noughts. -/
class AddN (a b : Nat) (c : outParam Nat) : Prop where
  h : a + b = c
instance (priority := 500) {a b : Nat} : AddN a b (a + b) := ⟨rfl⟩
instance (priority := 600) {a : Nat} : AddN 0 a a := ⟨Nat.zero_add a⟩
instance (priority := 700) {a : Nat} : AddN a 0 a := ⟨rfl⟩
instance {s i off b o c : Nat} [g : Fld s i off] [ga : AddN o off c] : Run (fa s (.pointer (some ⟨b, o, none⟩)) i) (.pointer (some ⟨b, c, none⟩)) := ⟨fun w => by rw [← ga.h, ← add_addr]; exact g.h _ w⟩
instance {s i off : Nat} {l : List Value} {v : Value} [g : Fld1 s i off] [gg : Get l off v] : Run (fl s (.agg l.toArray) i) v := ⟨fun w => by rw [show fl s (.agg l.toArray) i = Instr.field s (.agg l.toArray) i from rfl, g.h]; simp [gg.h]⟩
instance {s i off n : Nat} {l vs : List Value} [g : FldN s i off n] [gg : GetN l off n vs] : Run (fl s (.agg l.toArray) i) (.agg vs.toArray) := ⟨fun w => by rw [show fl s (.agg l.toArray) i = Instr.field s (.agg l.toArray) i from rfl, g.h, gg.eq]⟩
instance {t e n ty len cap : Nat} {a : Option Addr} [g : TySlice t e n] : Run (Builtin.len_ #[t] ty #[.slice a len cap]) (.int .i64 len) := ⟨fun w => by
  simp [Builtin.len_, Sem.run_bind, g.und, goInt]⟩
instance {t ty : Nat} {s : ByteArray} [g : TyStr t] : Run (Builtin.len_ #[t] ty #[.string s]) (.int .i64 s.size) := ⟨fun w => by
  simp [Builtin.len_, Sem.run_bind, g.und, goInt]⟩
instance {b : Bool} : Run (un .not (.bool b)) (.bool (!b)) := ⟨fun _ => rfl⟩
instance {k : IntKind} {n : Int} : Run (un .neg (.int k n)) (.int k (k.wrap (0 - n))) := ⟨fun _ => rfl⟩
instance {t : Nat} {k : IntKind} {a b : Int} : Run (bi .lss t (.int k a) (.int k b)) (.bool (decide (a < b))) := ⟨fun _ => by simp [bi, binOp, Op.intCmp]⟩
instance {t : Nat} {k : IntKind} {a b : Int} : Run (bi .leq t (.int k a) (.int k b)) (.bool (decide (a ≤ b))) := ⟨fun _ => by simp [bi, binOp, Op.intCmp]⟩
instance {t : Nat} {k : IntKind} {a b : Int} : Run (bi .gtr t (.int k a) (.int k b)) (.bool (decide (a > b))) := ⟨fun _ => by simp [bi, binOp, Op.intCmp]⟩
instance {t : Nat} {k : IntKind} {a b : Int} : Run (bi .geq t (.int k a) (.int k b)) (.bool (decide (a ≥ b))) := ⟨fun _ => by simp [bi, binOp, Op.intCmp]⟩
instance {t : Nat} {k : IntKind} {a b : Int} {x y : Operand} : Run (eq .eql t x y (.int k a) (.int k b)) (.bool (decide (a = b))) := ⟨fun _ => by
  simp [eq, eqGuard, binOp, Op.intCmp]; exact Bool.beq_eq_decide_eq a b⟩
instance {t : Nat} {k : IntKind} {a b : Int} {x y : Operand} : Run (eq .neq t x y (.int k a) (.int k b)) (.bool (!decide (a = b))) := ⟨fun _ => by
  simp [eq, eqGuard, binOp, Op.intCmp, bne]; exact Bool.beq_eq_decide_eq a b⟩
instance {t : Nat} {a b : ByteArray} {x y : Operand} : Run (eq .eql t x y (.string a) (.string b)) (.bool (decide (a = b))) := ⟨fun _ => by
  simp [eq, eqGuard, binOp, Op.stringOp, str_eq]⟩
instance {t : Nat} {a b : ByteArray} {x y : Operand} : Run (eq .neq t x y (.string a) (.string b)) (.bool (!decide (a = b))) := ⟨fun _ => by
  simp [eq, eqGuard, binOp, Op.stringOp, str_eq]⟩
instance {t : Nat} {a b : Bool} {x y : Operand} [g : TyBool t] : Run (eq .eql t x y (.bool a) (.bool b)) (.bool (a == b)) := ⟨fun w => by
  simp only [eq, eqGuard, binOp, Op.equal, Sem.run_bind, equal_bool, Result.andThen_ok]
  rfl⟩
instance {t : Nat} {a b : Bool} {x y : Operand} [g : TyBool t] : Run (eq .neq t x y (.bool a) (.bool b)) (.bool (!(a == b))) := ⟨fun w => by
  simp only [eq, eqGuard, binOp, Op.equal, Sem.run_bind, equal_bool, Result.andThen_ok]
  rfl⟩
instance {l : List Value} {i : Nat} {v : Value} [g : Get l i v] : Run (ex (.tuple l.toArray) i) v := ⟨fun w => by simp [ex, Instr.extract, g.h]⟩
instance {a b : Nat} {k kk k' : IntKind} {n : Int} [g : TyInt a k] [g' : TyInt b k'] : Run (cv a b (.int kk n)) (.int k' (k'.wrap n)) := ⟨fun w => by
  simp [cv, convert, Sem.run_bind, g.und, g'.und, Conv.intToInt]⟩
/-- The cells of a struct that is built. -/
class LenIs (l : List Value) (n : Nat) : Prop where
  h : l.length = n
instance : LenIs [] 0 := ⟨rfl⟩
instance {v : Value} {l : List Value} {n : Nat} [g : LenIs l n] : LenIs (v :: l) (n + 1) := ⟨by simp [g.h]⟩
class FillB (places : List (Nat × Nat)) (cells : List Value) (parts : List (Nat × Value)) (out : outParam (List Value)) : Prop where
  h : Instr.fill (places[·]?) cells.toArray parts = some out.toArray
class GetP (l : List (Nat × Nat)) (i : Nat) (a b : outParam Nat) : Prop where
  h : l[i]? = some (a, b)
instance {a b : Nat} {l : List (Nat × Nat)} : GetP ((a, b) :: l) 0 a b := ⟨rfl⟩
instance (priority := 900) {p : Nat × Nat} {a b i : Nat} {l : List (Nat × Nat)} [g : GetP l i a b] : GetP (p :: l) (i + 1) a b := ⟨by simpa using g.h⟩
instance {places : List (Nat × Nat)} {cells : List Value} : FillB places cells [] cells := ⟨rfl⟩
theorem fold_set : ∀ (vs l : List Value) (off i : Nat), ((vs.zipIdx i).foldl (fun (cs : Array Value) (p : Value × Nat) => cs.setIfInBounds (off + p.2) p.1) l.toArray) = (setL l (off + i) vs).toArray
  | [], l, off, i => rfl
  | v :: vs, l, off, i => by
    simp only [List.zipIdx_cons, List.foldl_cons, setL]
    rw [show (l.toArray.setIfInBounds (off + i) v) = (l.set (off + i) v).toArray by simp]
    rw [fold_set vs (l.set (off + i) v) off (i + 1)]
    rfl
instance {places : List (Nat × Nat)} {cells cells' out vs : List Value} {i off n : Nat} {v : Value} {parts : List (Nat × Value)} [gp : GetP places i off n] [gc : CellsOf v vs] [gs : SetN cells off vs cells'] [gn : LenIs vs n] [gf : FillB places cells' parts out] :
    FillB places cells ((i, v) :: parts) out := ⟨by
  have hn := gn.h
  unfold Instr.fill
  simp only [gp.h, gc.h, List.size_toArray, hn]
  have hb := gs.bound
  rw [hn] at hb
  have hb' : ¬ (off + n > cells.length) := by omega
  simp only [ne_eq, not_true_eq_false, decide_false, Bool.false_or, decide_eq_true_eq, hb', if_false]
  have : (vs.toArray.zipIdx.foldl (fun cs (x : Value × Nat) => cs.setIfInBounds (off + x.2) x.1) cells.toArray) = cells'.toArray := by
    rw [← Array.foldl_toList, Array.toList_zipIdx, fold_set, Nat.add_zero, gs.eq]
  rw [this]
  exact gf.h⟩
instance {t : Nat} {zs out : List Value} {places : List (Nat × Nat)} {parts : List (Nat × Value)} [g : TyStruct t zs places] [gf : FillB places zs parts out] : Run (bd t parts.toArray) (.agg out.toArray) := ⟨fun w => by
  rw [show bd t parts.toArray = Instr.build t parts.toArray from rfl, g.h]
  have : (fun x : Nat => (places.toArray)[x]?) = (fun x : Nat => places[x]?) := by funext x; simp
  rw [this, gf.h]
  rfl⟩

/-! ### 3. Tests -/
section tests
variable {A B : Prop} {b : Bool} {p : Prop} [Decidable p]
theorem Cond_t (h : A) : CondW (.bool true) A B := ⟨true, rfl, fun _ => h, fun hh => (by cases hh)⟩
theorem Cond_f (h : B) : CondW (.bool false) A B := ⟨false, rfl, fun hh => (by cases hh), fun _ => h⟩
theorem Cond_b (h1 : b = true → A) (h2 : b = false → B) : CondW (.bool b) A B := ⟨b, rfl, h1, h2⟩
theorem Cond_d (h1 : p → A) (h2 : ¬ p → B) : CondW (.bool (decide p)) A B := ⟨_, rfl, fun h => h1 (of_decide_eq_true h), fun h => h2 (of_decide_eq_false h)⟩
theorem Cond_nd (h1 : ¬ p → A) (h2 : p → B) : CondW (.bool (!decide p)) A B := ⟨_, rfl, fun h => h1 (by simpa using h), fun h => h2 (by simpa using h)⟩
theorem Cond_n (h1 : b = false → A) (h2 : b = true → B) : CondW (.bool (!b)) A B := ⟨_, rfl, fun h => h1 (by simpa using h), fun h => h2 (by simpa using h)⟩
theorem Cond_is (h : b = true) (h1 : A) : CondW (.bool b) A B := ⟨b, rfl, fun _ => h1, fun hh => (by rw [h] at hh; cases hh)⟩
theorem Cond_not (h : b = false) (h1 : B) : CondW (.bool b) A B := ⟨b, rfl, fun hh => by (rw [h] at hh; cases hh), fun _ => h1⟩
theorem Pk_b {x y : Value} {K : Value → Prop} (h : K (bif b then x else y)) : Pk (.bool b) x y K := h
end tests

/-! ### 4. Memory once more -/
section
variable {w0 w w' : World} {z0 z z' : Z} {B0 B B' L F : Bl} {b : Nat} {o : Obj} {C : Obj → Bl} {K : Value → World → Prop}
theorem Dr_intro {K : World → Prop} (hS : Res w0 z0 B0 w z L) (hk : ∀ w', Res w0 z0 B0 w' z L → K w') : Dr w K := hk _ hS.drew
theorem run_ld1 {t : TypeId} [g : TyOne t] {off : Nat} {v : Value} (h : At (hp w) b off [v]) : (ld t (.pointer (some ⟨b, off, none⟩))).run Try.prog w = .ok v w := by
  obtain ⟨v', w', h1, h2, h3⟩ := V_ld1 (t := t) (K := fun v' w' => v' = v ∧ w' = w) h ⟨rfl, rfl⟩
  rw [h1, h2, h3]
theorem run_ldN {t n : Nat} [g : TyAgg t n] [gs : TySize t n] {off : Nat} {vs : List Value} (h : At (hp w) b off vs) (hl : vs.length = n) : (ld t (.pointer (some ⟨b, off, none⟩))).run Try.prog w = .ok (.agg vs.toArray) w := by
  obtain ⟨v', w', h1, h2, h3⟩ := V_ldN (t := t) (K := fun v' w' => v' = .agg vs.toArray ∧ w' = w) h hl ⟨rfl, rfl⟩
  rw [h1, h2, h3]
theorem HV_of {s : Sem Value} {v : Value} {K : Value → Prop} (h : s.run Try.prog w = .ok v w) (hk : K v) : HV s w K := ⟨v, h, hk⟩
theorem HV_run {s : Sem Value} {v : Value} {K : Value → Prop} [g : Run s v] (h : K v) : HV s w K := ⟨v, g.h w, h⟩
theorem HV_ldL1 (hS : Res w0 z0 B0 w z L) {K : Value → Prop} {t : TypeId} [g : TyOne t] {off : Nat} {v : Value} {l : List Value} {ty : TypeId} {fr : Nat × Nat} [Blk L b (.cells l.toArray ty fr) C] [Get l off v] (hk : K v) : HV (ld t (.pointer (some ⟨b, off, none⟩))) w K :=
  HV_of (run_ld1 hS.at1) hk
theorem HV_ldLN (hS : Res w0 z0 B0 w z L) {K : Value → Prop} {t n : Nat} [g : TyAgg t n] [gs : TySize t n] {off : Nat} {vs : List Value} {l : List Value} {ty : TypeId} {fr : Nat × Nat} [Blk L b (.cells l.toArray ty fr) C] [gn : GetN l off n vs] (hk : K (.agg vs.toArray)) : HV (ld t (.pointer (some ⟨b, off, none⟩))) w K :=
  HV_of (run_ldN (Res.atN (gn := gn) hS) gn.len) hk
theorem RunIs_ldL1 (hS : Res w0 z0 B0 w z L) {t : TypeId} [g : TyOne t] {off : Nat} {v : Value} {l : List Value} {ty : TypeId} {fr : Nat × Nat} [Blk L b (.cells l.toArray ty fr) C] [Get l off v] : RunIs (ld t (.pointer (some ⟨b, off, none⟩))) w v :=
  run_ld1 hS.at1
theorem RunIs_ldLN (hS : Res w0 z0 B0 w z L) {t n : Nat} [g : TyAgg t n] [gs : TySize t n] {off : Nat} {vs : List Value} {l : List Value} {ty : TypeId} {fr : Nat × Nat} [Blk L b (.cells l.toArray ty fr) C] [gn : GetN l off n vs] : RunIs (ld t (.pointer (some ⟨b, off, none⟩))) w (.agg vs.toArray) :=
  run_ldN (Res.atN (gn := gn) hS) gn.len
theorem NilW_some {a : Addr} {K : Value → Prop} (h : K (.pointer (some a))) : NilW (.pointer (some a)) K := h

/-! ### 5. Arithmetic, indices -/
def inI (n : Int) : Prop := -9223372036854775808 ≤ n ∧ n ≤ 9223372036854775807
theorem wrap_in {n : Int} (h : inI n) : IntKind.i64.wrap n = n := IntWalk.i64_in n h
end
end Go.Proofs.Ytjnckainogpenaa
