/- Tests that load and call: what they come to, whatever way they go. -/
import Derived.Test.YtjnckainogpenaaQ13
set_option linter.unusedVariables false
set_option linter.unusedSimpArgs false
set_option maxRecDepth 20000
namespace Go.Proofs.Ytjnckainogpenaa
open Go Q Go.RowKit
/-- Whatever follows, what follows is asked at this truth value, in some world that comes later. -/
class PC (F : (List Value → World → Prop) → Prop) (w0 : outParam World) (z0 : outParam Z) (B0 : outParam Bl) (z : outParam Z) (L : outParam Bl) (x : outParam Bool) : Prop where
  h : ∀ K : List Value → World → Prop, (∀ z' w', Le z z' → Res w0 z0 B0 w' z' L → K [.bool x] w') → F K
/-- What has come after. -/
structure Later (w0 : World) (z0 : Z) (B0 : Bl) (z : Z) (L : Bl) where
  z' : Z
  w : World
  le : Le z z'
  res : Res w0 z0 B0 w z' L
instance {w0 : World} {z0 z : Z} {B0 L : Bl} {q : Later w0 z0 B0 z L} : Res w0 z0 B0 q.w q.z' L := q.res
section
variable {w0 w w' : World} {z0 z z' : Z} {B0 B B' L F : Bl} {b : Nat} {o : Obj} {C : Obj → Bl} {x y : Bool}
instance PC.lit [hS : Res w0 z0 B0 w z L] : PC (fun K => K [.bool x] w) w0 z0 B0 z L x := ⟨fun _ h => h _ _ (Le.refl _) hS⟩
instance PC.val {s : Sem Value} {v : Value} {G : (List Value → World → Prop) → Value → World → Prop} [g : Run s v] [h : PC (fun K => G K v w) w0 z0 B0 z L x] : PC (fun K => V s w (G K)) w0 z0 B0 z L x :=
  ⟨fun K hK => V_run (h.h K hK)⟩
instance PC.pval {s : Sem Value} {v : Value} {G : (List Value → World → Prop) → Value → Prop} [g : Run s v] [h : PC (fun K => G K v) w0 z0 B0 z L x] : PC (fun K => PV s (G K)) w0 z0 B0 z L x :=
  ⟨fun K hK => PV_run (h.h K hK)⟩
instance PC.ld1 {t off : Nat} {v : Value} {l : List Value} {ty : TypeId} {fr : Nat × Nat} {G : (List Value → World → Prop) → Value → World → Prop} [hS : Res w0 z0 B0 w z L] [g : TyOne t] [Blk L b (.cells l.toArray ty fr) C] [Get l off v] [h : PC (fun K => G K v w) w0 z0 B0 z L x] :
    PC (fun K => V (ld t (.pointer (some ⟨b, off, none⟩))) w (G K)) w0 z0 B0 z L x := ⟨fun K hK => V_ldL1 hS (h.h K hK)⟩
instance PC.ldN {t n off : Nat} {vs : List Value} {l : List Value} {ty : TypeId} {fr : Nat × Nat} {G : (List Value → World → Prop) → Value → World → Prop} [hS : Res w0 z0 B0 w z L] [g : TyAgg t n] [gs : TySize t n] [Blk L b (.cells l.toArray ty fr) C] [gn : GetN l off n vs] [h : PC (fun K => G K (.agg vs.toArray) w) w0 z0 B0 z L x] :
    PC (fun K => V (ld t (.pointer (some ⟨b, off, none⟩))) w (G K)) w0 z0 B0 z L x := ⟨fun K hK => V_ldLN hS (h.h K hK)⟩
instance PC.call {f : FuncId} {args : Array Value} {v : Value} {G : (List Value → World → Prop) → Value → World → Prop} [hS : Res w0 z0 B0 w z L] [Enters f] [g : Pu f args v] [h : ∀ q : Later w0 z0 B0 z L, PC (fun K => G K v q.w) w0 z0 B0 q.z' L x] :
    PC (fun K => CV (.func (.func f) #[] #[]) args w (G K)) w0 z0 B0 z L x := ⟨fun K hK => CV_pu fun z' w' hz hS' => (h ⟨z', w', hz, hS'⟩).h K fun z'' w'' hz' hS'' => hK z'' w'' (hz.trans hz') hS''⟩
/-- What a map answers; the zero of a type. -/
class LkV (l : List (Int × Value)) (n : Int) (zv : Value) (v : outParam Value) : Prop where
  h : (lkF l n zv).1 = v
class ZeroV (e : TypeId) (zv : outParam Value) : Prop where
  h : ∀ w, (zeroValue e).run Try.prog w = .ok zv w
theorem iV_lkv {K : Value → World → Prop} [hS : Res w0 z0 B0 w z L] {t k e : Nat} {kd : IntKind} {zv v : Value} [g : TyMap t k e] [gk : TyInt k kd] [gz : ZeroV e zv] {n : Int} {l : List (Int × Value)} [gb : Blk L b (mO kd l) C] [gv : LkV l n zv v]
    (hk : K v w) : V (lk t (.map (some b)) (.int kd n) false) w K := ⟨_, w, run_lk (gb := gb) gz.h false, by rw [← gv.h] at hk; exact hk⟩
instance PC.lk {t k e : Nat} {kd : IntKind} {zv v : Value} {G : (List Value → World → Prop) → Value → World → Prop} [hS : Res w0 z0 B0 w z L] [g : TyMap t k e] [gk : TyInt k kd] [gz : ZeroV e zv] {n : Int} {l : List (Int × Value)} [gb : Blk L b (mO kd l) C] [gv : LkV l n zv v] [h : PC (fun K => G K v w) w0 z0 B0 z L x] :
    PC (fun K => V (Go.Proofs.Ytjnckainogpenaa.lk t (.map (some b)) (.int kd n) false) w (G K)) w0 z0 B0 z L x := ⟨fun K hK => iV_lkv (C := C) (h.h K hK)⟩
instance PC.cond {A A' : (List Value → World → Prop) → Prop} {c : Bool} [h1 : PC A w0 z0 B0 z L x] [h2 : PC A' w0 z0 B0 z L y] : PC (fun K => CondW (.bool c) (A K) (A' K)) w0 z0 B0 z L (bif c then x else y) :=
  ⟨fun K hK => ⟨c, rfl, fun hb => h1.h K (by subst hb; exact hK), fun hb => h2.h K (by subst hb; exact hK)⟩⟩
instance PC.join {H : (List Value → World → Prop) → Value → World → Prop} {body : (List Value → World → Prop) → (List Value → World → Prop) → Prop} [h1 : ∀ K, PC (body K) w0 z0 B0 z L x] [h2 : ∀ q : Later w0 z0 B0 z L, PC (fun K => H K (.bool x) q.w) w0 z0 B0 q.z' L y] :
    PC (fun K => ∀ K1 : List Value → World → Prop, (∀ t w, (∀ _ : Env, H K t w) → K1 [t] w) → body K K1) w0 z0 B0 z L y :=
  ⟨fun K hK K1 hK1 => (h1 K).h K1 fun z' w' hz hS => hK1 _ _ fun _ => (h2 ⟨z', w', hz, hS⟩).h K fun z'' w'' hz' hS' => hK z'' w'' (hz.trans hz') hS'⟩
theorem JC {rest : Value → World → Prop} {body : (List Value → World → Prop) → Prop} [g : PC body w0 z0 B0 z L x] (h : ∀ z' w', Le z z' → Res w0 z0 B0 w' z' L → rest (.bool x) w') : ∀ K : List Value → World → Prop, (∀ t w, (∀ _ : Env, rest t w) → K [t] w) → body K :=
  fun K hK => g.h K fun z' w' hz hS => hK _ _ fun _ => h z' w' hz hS
/-! ### What was frozen where the function began -/
class Fz (z : Z) (b off : Nat) (vs : outParam (List Value)) : Prop where
  h : At z b off vs
theorem CV_1z {K : Value → World → Prop} [hS : Res w0 z0 B0 w z L] {f : FuncId} [Enters f] {args : Array Value} {R : Z → Value → Prop} (h : Le z0 z → Fn1 f args z w R) (hk : ∀ z' w' v, Le z z' → Res w0 z0 B0 w' z' L → R z' v → K v w') : CV (.func (.func f) #[] #[]) args w K :=
  CV_1 (h hS.zle) hk
theorem fV_ld1 {K : Value → World → Prop} [hS : Res w0 z0 B0 w z L] {t : TypeId} [g : TyOne t] {off : Nat} {v : Value} [h : Fz z0 b off [v]] (hk : K v w) : V (ld t (.pointer (some ⟨b, off, none⟩))) w K := zV_ld1 (h.h.mono hS.zle) hk
theorem fV_ldN {K : Value → World → Prop} [hS : Res w0 z0 B0 w z L] {t n : Nat} [g : TyAgg t n] [gs : TySize t n] {off : Nat} {vs : List Value} [h : Fz z0 b off vs] [hl : LenIs vs n] (hk : K (.agg vs.toArray) w) : V (ld t (.pointer (some ⟨b, off, none⟩))) w K := zV_ldN (h.h.mono hS.zle) hl.h hk
theorem fHV_ld1 {K : Value → Prop} [hS : Res w0 z0 B0 w z L] {t : TypeId} [g : TyOne t] {off : Nat} {v : Value} [h : Fz z0 b off [v]] (hk : K v) : HV (ld t (.pointer (some ⟨b, off, none⟩))) w K := zHV_ld1 (h.h.mono hS.zle) hk
theorem fHV_ldN {K : Value → Prop} [hS : Res w0 z0 B0 w z L] {t n : Nat} [g : TyAgg t n] [gs : TySize t n] {off : Nat} {vs : List Value} [h : Fz z0 b off vs] [hl : LenIs vs n] (hk : K (.agg vs.toArray)) : HV (ld t (.pointer (some ⟨b, off, none⟩))) w K := zHV_ldN (h.h.mono hS.zle) hl.h hk
end
end Go.Proofs.Ytjnckainogpenaa
