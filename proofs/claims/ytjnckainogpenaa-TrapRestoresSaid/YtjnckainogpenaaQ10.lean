/- The rules once more, in the form that instances apply by themselves; where ways meet; calls of plain functions. -/
import Derived.Test.YtjnckainogpenaaQ9
set_option linter.unusedVariables false
set_option linter.unusedSimpArgs false
set_option maxRecDepth 20000
namespace Go.Proofs.Ytjnckainogpenaa
open Go Q Go.RowKit

/-! ### 1. Where ways meet -/
class JK0 (K : List Value → World → Prop) (rest : outParam (World → Prop)) : Prop where
  h : ∀ w, rest w → K [] w
class JK1 (K : List Value → World → Prop) (rest : outParam (Value → World → Prop)) : Prop where
  h : ∀ a w, rest a w → K [a] w
class JK2 (K : List Value → World → Prop) (rest : outParam (Value → Value → World → Prop)) : Prop where
  h : ∀ a b w, rest a b w → K [a, b] w
class JK3 (K : List Value → World → Prop) (rest : outParam (Value → Value → Value → World → Prop)) : Prop where
  h : ∀ a b c w, rest a b c w → K [a, b, c] w
class JK4 (K : List Value → World → Prop) (rest : outParam (Value → Value → Value → Value → World → Prop)) : Prop where
  h : ∀ a b c d w, rest a b c d w → K [a, b, c, d] w
section
variable {body : (List Value → World → Prop) → Prop} {K : List Value → World → Prop} {a b c d : Value} {w : World}
theorem J0 {rest : World → Prop} (h : ∀ K, JK0 K rest → body K) : ∀ K : List Value → World → Prop, (∀ w, (∀ _ : Env, rest w) → K [] w) → body K := fun K hK => h K ⟨fun w r => hK w fun _ => r⟩
theorem J1 {rest : Value → World → Prop} (h : ∀ K, JK1 K rest → body K) : ∀ K : List Value → World → Prop, (∀ a w, (∀ _ : Env, rest a w) → K [a] w) → body K := fun K hK => h K ⟨fun a w r => hK a w fun _ => r⟩
theorem J2 {rest : Value → Value → World → Prop} (h : ∀ K, JK2 K rest → body K) : ∀ K : List Value → World → Prop, (∀ a b w, (∀ _ : Env, rest a b w) → K [a, b] w) → body K := fun K hK => h K ⟨fun a b w r => hK a b w fun _ => r⟩
theorem J3 {rest : Value → Value → Value → World → Prop} (h : ∀ K, JK3 K rest → body K) : ∀ K : List Value → World → Prop, (∀ a b c w, (∀ _ : Env, rest a b c w) → K [a, b, c] w) → body K := fun K hK => h K ⟨fun a b c w r => hK a b c w fun _ => r⟩
theorem J4 {rest : Value → Value → Value → Value → World → Prop} (h : ∀ K, JK4 K rest → body K) : ∀ K : List Value → World → Prop, (∀ a b c d w, (∀ _ : Env, rest a b c d w) → K [a, b, c, d] w) → body K := fun K hK => h K ⟨fun a b c d w r => hK a b c d w fun _ => r⟩
theorem K0 {rest : World → Prop} [g : JK0 K rest] (h : rest w) : K [] w := g.h w h
theorem K1 {rest : Value → World → Prop} [g : JK1 K rest] (h : rest a w) : K [a] w := g.h a w h
theorem K2 {rest : Value → Value → World → Prop} [g : JK2 K rest] (h : rest a b w) : K [a, b] w := g.h a b w h
theorem K3 {rest : Value → Value → Value → World → Prop} [g : JK3 K rest] (h : rest a b c w) : K [a, b, c] w := g.h a b c w h
theorem K4 {rest : Value → Value → Value → Value → World → Prop} [g : JK4 K rest] (h : rest a b c d w) : K [a, b, c, d] w := g.h a b c d w h
/-- The ways meet under a condition of their own. -/
theorem J1cut {rest : Value → World → Prop} (Po : Value → World → Prop) (h1 : ∀ a w, Po a w → rest a w) (h : ∀ K, JK1 K Po → body K) : ∀ K : List Value → World → Prop, (∀ a w, (∀ _ : Env, rest a w) → K [a] w) → body K := fun K hK => h K ⟨fun a w r => hK a w fun _ => h1 a w r⟩
theorem J0cut {rest : World → Prop} (Po : World → Prop) (h1 : ∀ w, Po w → rest w) (h : ∀ K, JK0 K Po → body K) : ∀ K : List Value → World → Prop, (∀ w, (∀ _ : Env, rest w) → K [] w) → body K := fun K hK => h K ⟨fun w r => hK w fun _ => h1 w r⟩
end

/-! ### 2. The rules of memory -/
section
variable {w0 w w' : World} {z0 z z' : Z} {B0 B B' L F : Bl} {b : Nat} {o : Obj} {C : Obj → Bl} {K : Value → World → Prop}
theorem iV_ld1 [hS : Res w0 z0 B0 w z L] {t : TypeId} [g : TyOne t] {off : Nat} {v : Value} {l : List Value} {ty : TypeId} {fr : Nat × Nat} [Blk L b (.cells l.toArray ty fr) C] [Get l off v] (hk : K v w) : V (ld t (.pointer (some ⟨b, off, none⟩))) w K := V_ldL1 hS hk
theorem iV_ldN [hS : Res w0 z0 B0 w z L] {t n : Nat} [g : TyAgg t n] [gs : TySize t n] {off : Nat} {vs : List Value} {l : List Value} {ty : TypeId} {fr : Nat × Nat} [Blk L b (.cells l.toArray ty fr) C] [gn : GetN l off n vs] (hk : K (.agg vs.toArray) w) : V (ld t (.pointer (some ⟨b, off, none⟩))) w K := V_ldLN hS hk
theorem iV_al [hS : Res w0 z0 B0 w z L] {t : TypeId} {zs : List Value} [g : TyZero t zs] (hk : ∀ b w', w0.heap.size ≤ b → Res w0 z0 B0 w' z ((b, .cells zs.toArray t (0, 0)) :: L) → K (.pointer (some ⟨b, 0, none⟩)) w') : V (al t) w K := V_al hS hk
theorem iV_bx [hS : Res w0 z0 B0 w z L] {t : TypeId} {v : Value} {vs : List Value} [g : CellsOf v vs] (hk : ∀ b w', w0.heap.size ≤ b → Res w0 z0 B0 w' z ((b, .cells vs.toArray t (0, 0)) :: L) → K (.pointer (some ⟨b, 0, none⟩)) w') : V (bx t v) w K := V_bx hS hk
theorem iU_st {K : World → Prop} [hS : Res w0 z0 B0 w z L] {t n off : Nat} {v : Value} {vs l l' : List Value} {ty : TypeId} [g : Blk L b (.cells l.toArray ty (0, 0)) C] [gs : TySize t n] [gc : CellsOf v vs] [go : Ones vs] [hn : LenIs vs n] [gl : SetN l off vs l']
    (hk : ∀ w', Res w0 z0 B0 w' z (C (.cells l'.toArray ty (0, 0))) → K w') : U (st t (.pointer (some ⟨b, off, none⟩)) v) w K := U_st (C := C) hS hn.h hk
theorem iCW_1 [hS : Res w0 z0 B0 w z L] {t : TypeId} [g : TyOne t] {off : Nat} {v : Value} {l : List Value} {ty : TypeId} {fr : Nat × Nat} {K : Value → Prop} [Blk L b (.cells l.toArray ty fr) C] [Get l off v] (hk : K v) : CW t (.pointer (some ⟨b, off, none⟩)) w K := CW_L1 hS hk
theorem iCW_N [hS : Res w0 z0 B0 w z L] {t n : Nat} [g : TyAgg t n] [gs : TySize t n] {off : Nat} {vs : List Value} {l : List Value} {ty : TypeId} {fr : Nat × Nat} {K : Value → Prop} [Blk L b (.cells l.toArray ty fr) C] [gn : GetN l off n vs] (hk : K (.agg vs.toArray)) : CW t (.pointer (some ⟨b, off, none⟩)) w K := CW_LN hS hk
theorem iHV_1 [hS : Res w0 z0 B0 w z L] {K : Value → Prop} {t : TypeId} [g : TyOne t] {off : Nat} {v : Value} {l : List Value} {ty : TypeId} {fr : Nat × Nat} [Blk L b (.cells l.toArray ty fr) C] [Get l off v] (hk : K v) : HV (ld t (.pointer (some ⟨b, off, none⟩))) w K := HV_ldL1 hS hk
theorem iHV_N [hS : Res w0 z0 B0 w z L] {K : Value → Prop} {t n : Nat} [g : TyAgg t n] [gs : TySize t n] {off : Nat} {vs : List Value} {l : List Value} {ty : TypeId} {fr : Nat × Nat} [Blk L b (.cells l.toArray ty fr) C] [gn : GetN l off n vs] (hk : K (.agg vs.toArray)) : HV (ld t (.pointer (some ⟨b, off, none⟩))) w K := HV_ldLN hS hk
theorem iRI_1 {A : Prop} [hS : Res w0 z0 B0 w z L] {t : TypeId} [g : TyOne t] {off : Nat} {v : Value} {l : List Value} {ty : TypeId} {fr : Nat × Nat} [Blk L b (.cells l.toArray ty fr) C] [Get l off v] (h : A) : RunIs (ld t (.pointer (some ⟨b, off, none⟩))) w v ∧ A := ⟨RunIs_ldL1 hS, h⟩
theorem iRI_N {A : Prop} [hS : Res w0 z0 B0 w z L] {t n : Nat} [g : TyAgg t n] [gs : TySize t n] {off : Nat} {vs : List Value} {l : List Value} {ty : TypeId} {fr : Nat × Nat} [Blk L b (.cells l.toArray ty fr) C] [gn : GetN l off n vs] (h : A) : RunIs (ld t (.pointer (some ⟨b, off, none⟩))) w (.agg vs.toArray) ∧ A := ⟨RunIs_ldLN hS, h⟩
theorem iDr {K : World → Prop} [hS : Res w0 z0 B0 w z L] (hk : ∀ w', Res w0 z0 B0 w' z L → K w') : Dr w K := Dr_intro hS hk

/-! ### 3. Frozen data at hand -/
theorem zV_ld1 [hS : Res w0 z0 B0 w z L] {t : TypeId} [g : TyOne t] {off : Nat} {v : Value} (h : At z b off [v]) (hk : K v w) : V (ld t (.pointer (some ⟨b, off, none⟩))) w K := V_ld1 (h.world hS.sub) hk
theorem zV_ldN [hS : Res w0 z0 B0 w z L] {t n : Nat} [g : TyAgg t n] [gs : TySize t n] {off : Nat} {vs : List Value} (h : At z b off vs) (hl : vs.length = n) (hk : K (.agg vs.toArray) w) : V (ld t (.pointer (some ⟨b, off, none⟩))) w K := V_ldN (h.world hS.sub) hl hk
theorem zHV_ld1 [hS : Res w0 z0 B0 w z L] {K : Value → Prop} {t : TypeId} [g : TyOne t] {off : Nat} {v : Value} (h : At z b off [v]) (hk : K v) : HV (ld t (.pointer (some ⟨b, off, none⟩))) w K := HV_of (run_ld1 (h.world hS.sub)) hk
theorem zHV_ldN [hS : Res w0 z0 B0 w z L] {K : Value → Prop} {t n : Nat} [g : TyAgg t n] [gs : TySize t n] {off : Nat} {vs : List Value} (h : At z b off vs) (hl : vs.length = n) (hk : K (.agg vs.toArray)) : HV (ld t (.pointer (some ⟨b, off, none⟩))) w K := HV_of (run_ldN (h.world hS.sub) hl) hk
theorem At.sub {off i n : Nat} {vs us : List Value} [g : GetN vs i n us] (h : At z b off vs) : At z b (off + i) us := by
  obtain ⟨c, ty, fr, h1, h2⟩ := h
  exact ⟨c, ty, fr, h1, fun j v hj => by rw [Nat.add_assoc]; exact h2 _ v (g.h j v hj)⟩

/-! ### 4. Indices, arithmetic -/
theorem V_ia {t e s n cap off : Nat} [g : TySlice t e s] {i : Int} {k : IntKind} (h0 : 0 ≤ i) (h1 : i < n) (hk : K (.pointer (some ⟨b, off + i.toNat * s, none⟩)) w) : V (ia t (.slice (some ⟨b, off, none⟩) n cap) (.int k i)) w K := by
  refine ⟨_, w, ?_, hk⟩
  simp only [ia, Instr.indexAt, asIntOf, pure_bind, Sem.run_bind, g.und, g.size, Result.andThen_ok, h0, h1, and_self, if_true, add_addr]
  rfl
theorem PV_ia {K : Value → Prop} {t e s n cap off : Nat} [g : TySlice t e s] {i : Int} {k : IntKind} (h0 : 0 ≤ i) (h1 : i < n) (hk : K (.pointer (some ⟨b, off + i.toNat * s, none⟩))) : PV (ia t (.slice (some ⟨b, off, none⟩) n cap) (.int k i)) K := by
  refine ⟨_, fun w => ?_, hk⟩
  simp only [ia, Instr.indexAt, asIntOf, pure_bind, Sem.run_bind, g.und, g.size, Result.andThen_ok, h0, h1, and_self, if_true, add_addr]
  rfl
theorem V_ix {t : Nat} [g : TyStr t] {s : ByteArray} {i : Int} {k : IntKind} (h0 : 0 ≤ i) (h1 : i.toNat < s.size) (hk : K (.int .u8 (s[i.toNat]).toNat) w) : V (ix t (.string s) (.int k i)) w K := by
  refine ⟨_, w, ?_, hk⟩
  simp only [ix, Instr.index, asIntOf, pure_bind, Sem.run_bind, g.und, Result.andThen_ok, h0, if_true]
  rw [getElem?_pos s i.toNat h1]
  rfl
theorem PV_ix {K : Value → Prop} {t : Nat} [g : TyStr t] {s : ByteArray} {i : Int} {k : IntKind} (h0 : 0 ≤ i) (h1 : i.toNat < s.size) (hk : K (.int .u8 (s[i.toNat]).toNat)) : PV (ix t (.string s) (.int k i)) K := by
  refine ⟨_, fun w => ?_, hk⟩
  simp only [ix, Instr.index, asIntOf, pure_bind, Sem.run_bind, g.und, Result.andThen_ok, h0, if_true]
  rw [getElem?_pos s i.toNat h1]
  rfl
theorem V_add {t : Nat} {a b : Int} (h : inI (a + b)) (hk : K (.int .i64 (a + b)) w) : V (bi .add t (.int .i64 a) (.int .i64 b)) w K :=
  ⟨_, w, by simp [bi, binOp, Op.intArith, wrap_in h], hk⟩
theorem V_sub {t : Nat} {a b : Int} (h : inI (a - b)) (hk : K (.int .i64 (a - b)) w) : V (bi .sub t (.int .i64 a) (.int .i64 b)) w K :=
  ⟨_, w, by simp [bi, binOp, Op.intArith, wrap_in h], hk⟩
theorem V_mul {t : Nat} {a b : Int} (h : inI (a * b)) (hk : K (.int .i64 (a * b)) w) : V (bi .mul t (.int .i64 a) (.int .i64 b)) w K :=
  ⟨_, w, by simp [bi, binOp, Op.intArith, wrap_in h], hk⟩
theorem PV_add {K : Value → Prop} {t : Nat} {a b : Int} (h : inI (a + b)) (hk : K (.int .i64 (a + b))) : PV (bi .add t (.int .i64 a) (.int .i64 b)) K :=
  ⟨_, fun w => by simp [bi, binOp, Op.intArith, wrap_in h], hk⟩
theorem PV_sub {K : Value → Prop} {t : Nat} {a b : Int} (h : inI (a - b)) (hk : K (.int .i64 (a - b))) : PV (bi .sub t (.int .i64 a) (.int .i64 b)) K :=
  ⟨_, fun w => by simp [bi, binOp, Op.intArith, wrap_in h], hk⟩

/-! ### 5. Calls of plain functions -/
/-- A call that has one value, whatever memory holds. -/
class Pu (f : FuncId) (args : Array Value) (v : outParam Value) : Prop where
  h : ∀ z w, Fn1 f args z w fun _ v' => v' = v
theorem CV_pu [hS : Res w0 z0 B0 w z L] {f : FuncId} [Enters f] {args : Array Value} {v : Value} [g : Pu f args v] (hk : ∀ z' w', Le z z' → Res w0 z0 B0 w' z' L → K v w') : CV (.func (.func f) #[] #[]) args w K :=
  CV_fn1 hS (g.h z w) (by simp) fun z' w' v' h1 h2 h3 => by subst h3; exact hk z' w' h1 h2
theorem CV_1 [hS : Res w0 z0 B0 w z L] {f : FuncId} [Enters f] {args : Array Value} {R : Z → Value → Prop} (h : Fn1 f args z w R) (hk : ∀ z' w' v, Le z z' → Res w0 z0 B0 w' z' L → R z' v → K v w') : CV (.func (.func f) #[] #[]) args w K :=
  CV_fn1 hS h (by simp) hk
/-- How a contract begins, and how it ends. -/
theorem Fn1.intro {f : FuncId} {args : Array Value} {R : Z → Value → Prop} (h : Res w z [] w z [] → Calls Try.prog f args w (retK fun v w' => ∃ z' L', Res w z [] w' z' L' ∧ R z' v)) : Fn1 f args z w R :=
  fun ho => (h ho).mono (retK.mono fun v w' ⟨z', L', h1, h2⟩ => ⟨z', h1.drop, h2⟩)
theorem Fn.intro {f : FuncId} {args : Array Value} {R : Z → Bl → Value → Prop} (h : Res w z B w z B → Calls Try.prog f args w (retK fun v w' => ∃ z' B', Res w z B w' z' B' ∧ R z' B' v)) : Fn f args z B w R := h
theorem Fn1.mono {f : FuncId} {args : Array Value} {R R' : Z → Value → Prop} (h : Fn1 f args z w R) (hr : ∀ z' v, R z' v → R' z' v) : Fn1 f args z w R' :=
  fun ho => (h ho).mono (retK.mono fun v w' ⟨z', h1, h2⟩ => ⟨z', h1, hr _ _ h2⟩)
theorem fin {R : Z → Bl → Value → Prop} {v : Value} [hS : Res w0 z0 B0 w z L] (h : R z L v) : ∃ z' L', Res w0 z0 B0 w z' L' ∧ R z' L' v := ⟨z, L, hS, h⟩
end

/-! ### 6. Facts at hand -/
class InStr (s : ByteArray) (i : Int) : Prop where
  h0 : 0 ≤ i
  h1 : i < s.size
class InR (i n : Int) : Prop where
  h0 : 0 ≤ i
  h1 : i < n
class InI (n : Int) : Prop where
  h : -9223372036854775808 ≤ n ∧ n ≤ 9223372036854775807
/-- The byte at a place. -/
def bt (s : ByteArray) (i : Int) : Int := ((s.data.toList.getD i.toNat 0).toNat : Int)
theorem bt_range (s : ByteArray) (i : Int) : 0 ≤ bt s i ∧ bt s i ≤ 255 := by
  unfold bt
  have := (s.data.toList.getD i.toNat 0).toNat_lt
  omega
instance {t : Nat} [g : TyStr t] {s : ByteArray} {i : Int} {k : IntKind} [hi : InStr s i] : Run (ix t (.string s) (.int k i)) (.int .u8 (bt s i)) := ⟨fun w => by
  have h1 : i.toNat < s.size := by have := hi.h1; have := hi.h0; omega
  simp only [ix, Instr.index, asIntOf, pure_bind, Sem.run_bind, g.und, Result.andThen_ok, hi.h0, if_true]
  rw [getElem?_pos s i.toNat h1]
  have : bt s i = ((s[i.toNat]'h1).toNat : Int) := by
    unfold bt
    rw [List.getD_eq_getElem?_getD, List.getElem?_eq_getElem (by simpa using h1)]
    rfl
  rw [this]
  rfl⟩
instance {b t e s n cap off o : Nat} [g : TySlice t e s] {i : Int} {k : IntKind} [hi : InR i n] [ho : AddN off (i.toNat * s) o] : Run (ia t (.slice (some ⟨b, off, none⟩) n cap) (.int k i)) (.pointer (some ⟨b, o, none⟩)) := ⟨fun w => by
  rw [← ho.h]
  simp only [ia, Instr.indexAt, asIntOf, pure_bind, Sem.run_bind, g.und, g.size, Result.andThen_ok, hi.h0, hi.h1, and_self, if_true, add_addr]
  rfl⟩
instance {t : Nat} {a b : Int} [h : InI (a + b)] : Run (bi .add t (.int .i64 a) (.int .i64 b)) (.int .i64 (a + b)) := ⟨fun w => by simp [bi, binOp, Op.intArith, wrap_in h.h]⟩
instance {t : Nat} {a b : Int} [h : InI (a - b)] : Run (bi .sub t (.int .i64 a) (.int .i64 b)) (.int .i64 (a - b)) := ⟨fun w => by simp [bi, binOp, Op.intArith, wrap_in h.h]⟩
instance {t : Nat} {a b : Int} [h : InI (a * b)] : Run (bi .mul t (.int .i64 a) (.int .i64 b)) (.int .i64 (a * b)) := ⟨fun w => by simp [bi, binOp, Op.intArith, wrap_in h.h]⟩

/-! ### 7. Tests that look at nothing but values -/
/-- Whatever follows, what follows is asked at this truth value. -/
class PB (F : (List Value → World → Prop) → Prop) (w : outParam World) (x : outParam Bool) : Prop where
  h : ∀ K : List Value → World → Prop, K [.bool x] w → F K
instance PB.lit {w : World} {x : Bool} : PB (fun K => K [.bool x] w) w x := ⟨fun _ h => h⟩
instance PB.val {w : World} {x : Bool} {s : Sem Value} {v : Value} {G : (List Value → World → Prop) → Value → World → Prop} [g : Run s v] [h : PB (fun K => G K v w) w x] : PB (fun K => V s w (G K)) w x :=
  ⟨fun K hK => V_run (h.h K hK)⟩
instance PB.cond {w : World} {x y b : Bool} {A B : (List Value → World → Prop) → Prop} [h1 : PB A w x] [h2 : PB B w y] : PB (fun K => CondW (.bool b) (A K) (B K)) w (bif b then x else y) :=
  ⟨fun K hK => ⟨b, rfl, fun hb => h1.h K (by subst hb; exact hK), fun hb => h2.h K (by subst hb; exact hK)⟩⟩
instance PB.join {w : World} {x y : Bool} {H : (List Value → World → Prop) → Value → World → Prop} {body : (List Value → World → Prop) → (List Value → World → Prop) → Prop} [h1 : ∀ K, PB (body K) w x] [h2 : PB (fun K => H K (.bool x) w) w y] :
    PB (fun K => ∀ K1 : List Value → World → Prop, (∀ t w, (∀ _ : Env, H K t w) → K1 [t] w) → body K K1) w y :=
  ⟨fun K hK K1 hK1 => (h1 K).h K1 (hK1 _ _ fun _ => h2.h K hK)⟩
theorem JB {w : World} {x : Bool} {rest : Value → World → Prop} {body : (List Value → World → Prop) → Prop} [g : PB body w x] (h : rest (.bool x) w) : ∀ K : List Value → World → Prop, (∀ t w, (∀ _ : Env, rest t w) → K [t] w) → body K :=
  fun K hK => g.h K (hK _ _ fun _ => h)
end Go.Proofs.Ytjnckainogpenaa
