/- Texts joined: C1, C2, Q18, C3, C4, C5, C6, C7, C8, C9, C10, C11, C12, Q19, C13, C14, Q20, C15, C16, Q21. -/
import Derived.Test.YtbeelfopmkbllaaGreatDoorM1
import Derived.Test.YtbeelfopmkbllaaGreatDoorM2
import Derived.Laws.Bits128
import Derived.Laws.Shifts
import Derived.Lib.Bytealg
import Derived.Lib.ConvBytes
import Derived.Lib.Builder
import Derived.Lib.AppendStr
import Derived.Lib.UnsafeStr
import Derived.Lib.MakeNoZero
import Derived.Laws.CopyRow
set_option linter.unusedSimpArgs false
set_option linter.unusedVariables false
set_option linter.unusedSectionVars false
section
/- The data of package code, and how they lie in memory; families of functions. -/
set_option linter.unusedVariables false
set_option maxRecDepth 20000
namespace Go.Proofs.YtbeelfopmkbllaaGreatDoor
open Go Q Go.RowKit

theorem ret_eq {w0 w : World} {z0 z : Z} {L : Bl} {v v' : Value} [hS : Res w0 z0 [] w z L] (h : v = v') : ∃ z' L', Res w0 z0 [] w z' L' ∧ v = v' := ⟨z, L, hS, h⟩
abbrev bytes (s : ByteArray) : List UInt8 := s.data.toList
theorem size_bytes (s : ByteArray) : s.size = (bytes s).length := by simp
/-- A function's value that is a plain function. -/
class PuV (f : Value) (args : Array Value) (v : outParam Value) : Prop where
  h : ∀ z w, Va1 f args z w fun _ v' => v' = v
instance {f : FuncId} [Enters f] {args : Array Value} {v : Value} [g : Pu f args v] : PuV (.func (.func f) #[] #[]) args v := ⟨fun z w => (g.h z w).va (by simp)⟩
structure PartM where
  kind : Int
  text : ByteArray
  n : Int
structure ItemM where
  name : ByteArray
  via : Bool
structure SpotM where
  name : ByteArray
  at_ : Int
structure InsM where
  op : Int
  a : Int
  b : Int
  c : Int
structure CodeM where
  consts : List ByteArray
  tmpls : List (List PartM)
  lists : List (List ItemM)
  labels : List SpotM
  slots : List ByteArray
  ins : List InsM
abbrev PartM.cells (t : PartM) : List Value := [.int .i64 t.kind, .string t.text, .int .i64 t.n]
abbrev ItemM.cells (t : ItemM) : List Value := [.string t.name, .bool t.via]
abbrev SpotM.cells (t : SpotM) : List Value := [.string t.name, .int .i64 t.at_]
abbrev InsM.cells (t : InsM) : List Value := [.int .i64 t.op, .int .i64 t.a, .int .i64 t.b, .int .i64 t.c]
abbrev PartM.v (t : PartM) : Value := .agg t.cells.toArray
abbrev ItemM.v (t : ItemM) : Value := .agg t.cells.toArray
abbrev SpotM.v (t : SpotM) : Value := .agg t.cells.toArray
abbrev InsM.v (t : InsM) : Value := .agg t.cells.toArray
def El.part : El PartM where
  size := 3
  rel := fun _ cs x => cs = x.cells ∧ x.text.size ≤ big
  mono := fun h _ => h
  len := fun h => by rw [h.1]; rfl
  pos := by decide
def El.item : El ItemM where
  size := 2
  rel := fun _ cs x => cs = x.cells ∧ x.name.size ≤ big
  mono := fun h _ => h
  len := fun h => by rw [h.1]; rfl
  pos := by decide
def El.spot : El SpotM where
  size := 2
  rel := fun _ cs x => cs = x.cells ∧ x.name.size ≤ big
  mono := fun h _ => h
  len := fun h => by rw [h.1]; rfl
  pos := by decide
def El.ins : El InsM where
  size := 4
  rel := fun _ cs x => cs = x.cells
  mono := fun h _ => h
  len := fun h => by rw [h]; rfl
  pos := by decide
def El.byte : El UInt8 where
  size := 1
  rel := fun _ cs x => cs = [.int .u8 x.toNat]
  mono := fun h _ => h
  len := fun h => by rw [h]; rfl
  pos := by decide
/-- Code as a value. -/
structure CodeR (z : Z) (v : Value) (c : CodeM) : Prop where
  h : ∃ v1 v2 v3 v4 v5 v6, v = .agg #[v1, v2, v3, v4, v5, v6] ∧ SlR El.str z v1 c.consts ∧ SlR (El.sl El.part) z v2 c.tmpls ∧ SlR (El.sl El.item) z v3 c.lists ∧ SlR El.spot z v4 c.labels ∧ SlR El.str z v5 c.slots ∧ SlR El.ins z v6 c.ins
theorem CodeR.mono {z z' : Z} {v : Value} {c : CodeM} (h : CodeR z v c) (hz : Le z z') : CodeR z' v c := by
  obtain ⟨v1, v2, v3, v4, v5, v6, h0, h1, h2, h3, h4, h5, h6⟩ := h.h
  exact ⟨v1, v2, v3, v4, v5, v6, h0, h1.mono hz, h2.mono hz, h3.mono hz, h4.mono hz, h5.mono hz, h6.mono hz⟩
instance : Fam (El.sl El.part) 138 one1 := fam_of (I := 3) (S := 23) (T := 93) (n := 1) (fi := 246) (fc := 206) (fn := 207) (FT := 224) rfl (fun h => en246 h) (fun h => en206 h) (fun h => en138 h) (fun _ hat hv => fn_not1 (fun h => en207 h) hat hv)
instance : Fam El.part 140 aggN := fam_of (I := 3) (S := 93) (T := 95) (n := 3) (fi := 247) (fc := 208) (fn := 209) (FT := 223) rfl (fun h => en247 h) (fun h => en208 h) (fun h => en140 h) (fun hl hat hv => fn_notN (fun h => en209 h) hl hat hv)
instance : Fam El.str 142 one1 := fam_of (I := 3) (S := 22) (T := 9) (n := 1) (fi := 248) (fc := 210) (fn := 211) (FT := 215) rfl (fun h => en248 h) (fun h => en210 h) (fun h => en142 h) (fun _ hat hv => fn_not1 (fun h => en211 h) hat hv)
instance : Fam (El.sl El.item) 143 one1 := fam_of (I := 3) (S := 24) (T := 96) (n := 1) (fi := 249) (fc := 212) (fn := 213) (FT := 227) rfl (fun h => en249 h) (fun h => en212 h) (fun h => en143 h) (fun _ hat hv => fn_not1 (fun h => en213 h) hat hv)
instance : Fam El.item 151 aggN := fam_of (I := 3) (S := 96) (T := 98) (n := 2) (fi := 252) (fc := 218) (fn := 219) (FT := 230) rfl (fun h => en252 h) (fun h => en218 h) (fun h => en151 h) (fun hl hat hv => fn_notN (fun h => en219 h) hl hat hv)
instance : Fam El.spot 145 aggN := fam_of (I := 3) (S := 25) (T := 54) (n := 2) (fi := 77) (fc := 214) (fn := 215) (FT := 144) rfl (fun h => en77 h) (fun h => en214 h) (fun h => en145 h) (fun hl hat hv => fn_notN (fun h => en215 h) hl hat hv)
instance : Fam El.int 170 one1 := fam_of (I := 3) (S := 45) (T := 3) (n := 1) (fi := 260) (fc := 232) (fn := 233) (FT := 249) rfl (fun h => en260 h) (fun h => en232 h) (fun h => en170 h) (fun _ hat hv => fn_not1 (fun h => en233 h) hat hv)
instance : Fam El.byte 216 one1 := fam_of (I := 3) (S := 55) (T := 5) (n := 1) (fi := 274) (fc := 250) (fn := 251) (FT := 280) rfl (fun h => en274 h) (fun h => en250 h) (fun h => en216 h) (fun _ hat hv => fn_not1 (fun h => en251 h) hat hv)
end Go.Proofs.YtbeelfopmkbllaaGreatDoor
end

section
/- The table of instructions: forms, formOf. -/
set_option linter.unusedVariables false
set_option maxRecDepth 20000
namespace Go.Proofs.YtbeelfopmkbllaaGreatDoor
open Go Q Go.RowKit

structure FormM where
  name : ByteArray
  k0 : Int
  k1 : Int
  k2 : Int
  pops : Int
  pushes : Int
  loop : Int
  final : Bool
abbrev FormM.cells (f : FormM) : List Value := [.string f.name, .int .i64 f.k0, .int .i64 f.k1, .int .i64 f.k2, .int .i64 f.pops, .int .i64 f.pushes, .int .i64 f.loop, .bool f.final]
abbrev FormM.v (f : FormM) : Value := .agg f.cells.toArray
def noForm : FormM := ⟨⟨#[]⟩, 0, 0, 0, 0, 0, 0, false⟩
def formL : List FormM := [noForm,
  ⟨⟨#[99, 108, 97, 117, 115, 101]⟩, 1, 2, 15, 0, 0, 0, false⟩,
  ⟨⟨#[100, 111, 110, 101]⟩, 0, 0, 0, 0, 0, 0, false⟩,
  ⟨⟨#[99, 111, 110, 115, 116]⟩, 2, 0, 0, 0, 1, 0, false⟩,
  ⟨⟨#[109, 105, 115, 115]⟩, 0, 0, 0, 0, 1, 0, false⟩,
  ⟨⟨#[118, 97, 114]⟩, 3, 0, 0, 0, 1, 0, false⟩,
  ⟨⟨#[115, 108, 111, 116]⟩, 9, 0, 0, 0, 1, 0, false⟩,
  ⟨⟨#[115, 116, 101, 109]⟩, 4, 0, 0, 0, 1, 0, false⟩,
  ⟨⟨#[99, 111, 109, 112]⟩, 5, 0, 0, 0, 1, 0, false⟩,
  ⟨⟨#[112, 101, 101, 107]⟩, 6, 0, 0, 0, 1, 0, false⟩,
  ⟨⟨#[98, 105, 110]⟩, 17, 0, 0, 2, 1, 0, false⟩,
  ⟨⟨#[117, 110]⟩, 18, 0, 0, 1, 1, 0, false⟩,
  ⟨⟨#[102, 117, 110]⟩, 23, 16, 14, 0, 1, 0, false⟩,
  ⟨⟨#[116, 101, 108, 108]⟩, 0, 0, 0, 1, 1, 0, false⟩,
  ⟨⟨#[112, 111, 112]⟩, 0, 0, 0, 1, 0, 0, false⟩,
  ⟨⟨#[115, 101, 116]⟩, 6, 0, 0, 1, 0, 0, false⟩,
  ⟨⟨#[112, 117, 116]⟩, 9, 0, 0, 1, 0, 0, false⟩,
  ⟨⟨#[100, 114, 111, 112]⟩, 11, 0, 0, 0, 0, 0, false⟩,
  ⟨⟨#[112, 114, 111, 99]⟩, 12, 0, 0, 0, 0, 0, false⟩,
  ⟨⟨#[97, 100, 100, 114]⟩, 15, 23, 0, 0, 0, 0, false⟩,
  ⟨⟨#[99, 109, 100]⟩, 8, 0, 0, 1, 0, 0, false⟩,
  ⟨⟨#[115, 117, 98]⟩, 23, 16, 14, 0, 0, 0, false⟩,
  ⟨⟨#[116, 114, 97, 112]⟩, 23, 15, 23, 0, 0, 0, false⟩,
  ⟨⟨#[106, 117, 109, 112]⟩, 13, 0, 0, 0, 0, 0, true⟩,
  ⟨⟨#[102, 97, 108, 115, 101]⟩, 13, 0, 0, 1, 0, 0, false⟩,
  ⟨⟨#[112, 108, 117, 115]⟩, 0, 0, 0, 1, 1, 0, false⟩,
  ⟨⟨#[119, 104, 111, 108, 101]⟩, 0, 0, 0, 1, 1, 0, false⟩,
  ⟨⟨#[111, 118, 101, 114]⟩, 7, 22, 0, 1, 0, 1, false⟩,
  ⟨⟨#[99, 111, 117, 110, 116]⟩, 0, 0, 0, 1, 0, 1, false⟩,
  ⟨⟨#[108, 111, 111, 112]⟩, 0, 0, 0, 0, 0, 1, false⟩,
  ⟨⟨#[116, 101, 115, 116]⟩, 13, 0, 0, 0, 0, 0, false⟩,
  ⟨⟨#[116, 117, 114, 110]⟩, 1, 2, 0, 0, 0, 0, false⟩,
  ⟨⟨#[98, 121]⟩, 0, 0, 0, 0, 0, 0, false⟩,
  ⟨⟨#[111, 117, 116]⟩, 20, 0, 0, 0, 0, 0, false⟩,
  ⟨⟨#[105, 110, 116, 101, 114, 112]⟩, 0, 0, 0, 1, 0, 0, false⟩,
  ⟨⟨#[110, 117, 109, 101, 114, 105, 99]⟩, 15, 14, 0, 0, 0, 0, false⟩,
  ⟨⟨#[112, 97, 114, 115, 101]⟩, 10, 19, 14, 0, 0, 0, false⟩,
  ⟨⟨#[112, 117, 115, 104]⟩, 0, 0, 0, 1, 0, 0, false⟩,
  ⟨⟨#[113, 117, 101, 117, 101]⟩, 0, 0, 0, 1, 0, 0, false⟩,
  ⟨⟨#[115, 97, 121]⟩, 0, 0, 0, 1, 0, 0, false⟩,
  ⟨⟨#[101, 120, 105, 116]⟩, 14, 0, 0, 0, 0, 0, true⟩,
  ⟨⟨#[114, 101, 116]⟩, 14, 0, 0, 0, 0, 0, true⟩,
  ⟨⟨#[115, 105, 103, 110, 97, 108]⟩, 2, 0, 0, 0, 0, 0, true⟩,
  ⟨⟨#[115, 105, 103, 118, 97, 108]⟩, 0, 0, 0, 1, 0, 0, true⟩,
  ⟨⟨#[116, 114, 97, 99, 101]⟩, 2, 0, 0, 0, 0, 0, false⟩,
  ⟨⟨#[114, 97, 105, 115, 101]⟩, 21, 0, 0, 0, 0, 0, true⟩,
  ⟨⟨#[101, 110, 100]⟩, 0, 0, 0, 0, 0, 0, true⟩]
def formsC : List Value := formL.flatMap FormM.cells
def opOk (n : Int) : Bool := decide (1 ≤ n) && decide (n ≤ 46)
def formAt (n : Int) : FormM := if opOk n then formL.getD n.toNat noForm else noForm
/-- A new variable of many cells. -/
theorem V_alN {w0 w : World} {z0 z : Z} {B0 L : Bl} {K : Value → World → Prop} [hS : Res w0 z0 B0 w z L] {t n : Nat} (g : ∃ zs, TyZero t zs ∧ zs.length = n)
    (hk : ∀ b w' (zs : List Value), zs.length = n → w0.heap.size ≤ b → Res w0 z0 B0 w' z ((b, .cells zs.toArray t (0, 0)) :: L) → K (.pointer (some ⟨b, 0, none⟩)) w') : V (al t) w K := by
  obtain ⟨zs, h1, h2⟩ := g
  exact V_al (g := h1) hS fun b w' hb hS' => hk b w' zs h2 hb hS'
theorem SetN.whole {l vs : List Value} (h : l.length = vs.length) : SetN l 0 vs vs where
  len := h.symm
  bound := by omega
  inn := fun j v hj => by rw [Nat.zero_add]; exact hj
  out := fun k hk => by rw [List.getElem?_eq_none (by omega), List.getElem?_eq_none (by omega)]
theorem formsC_len : formsC.length = 376 := by decide +kernel
theorem formsC_one : ∀ u ∈ formsC, isOne u = true := by
  have : formsC.all isOne = true := by decide +kernel
  exact List.all_eq_true.1 this
/-- An array's literal of one-cell elements. -/
class FillF (cells : List Value) (parts : List (Nat × Value)) (out : outParam (List Value)) : Prop where
  h : Instr.fill (fun i => some (i * 1, 1)) cells.toArray parts = some out.toArray
instance {cells : List Value} : FillF cells [] cells := ⟨rfl⟩
instance {cells cells' out : List Value} {i : Nat} {v u : Value} {parts : List (Nat × Value)} [gc : CellsOf v [u]] [gs : SetN cells i [u] cells'] [gf : FillF cells' parts out] : FillF cells ((i, v) :: parts) out := ⟨by
  unfold Instr.fill
  have hb := gs.bound
  simp only [List.length_singleton] at hb
  have hb' : ¬ (i * 1 + 1 > cells.length) := by omega
  simp only [gc.h, List.size_toArray, List.length_singleton, ne_eq, not_true_eq_false, decide_false, Bool.false_or, hb', if_false]
  have : ([u].toArray.zipIdx.foldl (fun cs (x : Value × Nat) => cs.setIfInBounds (i * 1 + x.2) x.1) cells.toArray) = cells'.toArray := by
    rw [← Array.foldl_toList, Array.toList_zipIdx, fold_set, Nat.add_zero, Nat.mul_one, gs.eq]
  rw [this]
  exact gf.h⟩
instance (priority := 1100) {t n e : Nat} {zs out : List Value} {parts : List (Nat × Value)} [g : TyArr t n e 1] [gz : TyZero t zs] [gf : FillF zs parts out] : Run (bd t parts.toArray) (.agg out.toArray) := ⟨fun w => by
  obtain ⟨v, h1, h2⟩ := gz.h
  simp only [bd, Instr.build, Sem.run_bind, h2, Result.andThen_ok, g.und, g.size, h1, gf.h]
  rfl⟩
theorem zero234 : ∃ zs, TyZero 234 zs ∧ zs.length = 376 := ⟨(List.replicate 47 noForm.cells).flatten, ⟨.agg ((List.replicate 47 noForm.cells).flatten).toArray, rfl, fun _ => by kernel_rfl⟩, by decide +kernel⟩
instance : TyAgg 234 376 := ⟨fun _ => by kernel_rfl⟩
instance : TySize 234 376 := ⟨fun _ => by kernel_rfl⟩
instance : Pu 159 #[] (.agg formsC.toArray) := ⟨fun z w => Fn1.intro fun hS => en159 (by
  unfold vc159
  refine V_alN zero234 ?_
  intro b w1 zs hzs hb hS1
  (repeat (first | (refine iDr ?_; intro _ _) | refine V_run ?_ | refine PV_run ?_ | refine HV_run ?_ | refine iV_ld1 ?_ | refine iV_ldN ?_ | (refine iV_bx ?_; intro _ _ _ _) | (refine iV_al ?_; intro _ _ _ _) | (refine iV_mm ?_; intro _ _ _ _) | (refine iU_st ?_; intro _ _) | refine iHV_1 ?_ | refine iHV_N ?_ | refine iRI_1 ?_ | refine iRI_N ?_ | refine Cond_t ?_ | refine Cond_f ?_ | refine JB ?_ | (refine JC ?_; intro _ _ _ _) | (refine J1 ?_; intro _ _) | (refine J0 ?_; intro _ _) | (refine J2 ?_; intro _ _) | (refine J3 ?_; intro _ _) | (refine J4 ?_; intro _ _) | refine K1 ?_ | refine K0 ?_ | refine K2 ?_ | refine K3 ?_ | refine K4 ?_ | (refine CV_pu ?_; intro _ _ _ _) | refine fV_ldN ?_ | refine fV_ld1 ?_ | refine fHV_ldN ?_ | refine fHV_ld1 ?_ | refine NilW_some ?_ | refine iCW_1 ?_ | refine iCW_N ?_ | refine Pk_b ?_))
  refine ⟨.agg formsC.toArray, w1, by kernel_rfl, ?_⟩
  refine U_st (vs := formsC) (n := 376) (l := zs) (l' := formsC) (go := ⟨formsC_one⟩) (gl := SetN.whole (hzs.trans formsC_len.symm)) hS1 formsC_len ?_
  intro w2 hS2
  refine CW_N (n := 376) (vs := formsC) ⟨_, _, _, (hS2.mem _ List.mem_cons_self).1, fun j u hu => by rw [Nat.zero_add]; simpa using hu⟩ formsC_len ?_
  exact ret_eq rfl)⟩
theorem flat_extract {α : Type} {f : α → List Value} {n : Nat} (hf : ∀ x, (f x).length = n) {xs : List α} {i : Nat} {x : α} (hx : xs[i]? = some x) : (xs.flatMap f).toArray.extract (i * n) (i * n + n) = (f x).toArray := by
  refine GetN.eq ⟨hf x, fun j v hv => flat_get hf hx j v hv⟩
theorem V_ixN {t n e s : Nat} [g : TyArr t n e s] [ga : TyAgg e s] [gs : TySize e s] {l vs : List Value} {i : Int} {k : IntKind} {K : Value → Prop} (h0 : 0 ≤ i) (h1 : i < n) (he : l.toArray.extract (i.toNat * s) (i.toNat * s + s) = vs.toArray) (hk : K (.agg vs.toArray)) : PV (ix t (.agg l.toArray) (.int k i)) K :=
  ⟨_, fun w => by
    simp only [ix, Instr.index, asIntOf, pure_bind, Sem.run_bind, g.und, g.size, Result.andThen_ok, h0, h1, and_self, if_true]
    rw [run_partN, he], hk⟩
theorem formL_at {n : Int} (h : opOk n = true) : formL[n.toNat]? = some (formAt n) := by
  simp only [opOk, Bool.and_eq_true, decide_eq_true_eq] at h
  have hl : n.toNat < formL.length := by have : formL.length = 47 := by decide +kernel
                                         omega
  unfold formAt opOk
  rw [List.getElem?_eq_getElem hl, if_pos (by simp; omega), List.getD_eq_getElem?_getD, List.getElem?_eq_getElem hl]; rfl
instance {i : InsM} : Pu 49 #[i.v] (.tuple #[(formAt i.op).v, .bool (opOk i.op)]) := ⟨fun z w => Fn1.intro fun hS => en49 (by
  unfold vc49
  dsimp only [InsM.v, InsM.cells]
  (repeat (first | (refine iDr ?_; intro _ _) | refine V_run ?_ | refine PV_run ?_ | refine HV_run ?_ | refine iV_ld1 ?_ | refine iV_ldN ?_ | (refine iV_bx ?_; intro _ _ _ _) | (refine iV_al ?_; intro _ _ _ _) | (refine iV_mm ?_; intro _ _ _ _) | (refine iU_st ?_; intro _ _) | refine iHV_1 ?_ | refine iHV_N ?_ | refine iRI_1 ?_ | refine iRI_N ?_ | refine Cond_t ?_ | refine Cond_f ?_ | refine JB ?_ | (refine JC ?_; intro _ _ _ _) | (refine J1 ?_; intro _ _) | (refine J0 ?_; intro _ _) | (refine J2 ?_; intro _ _) | (refine J3 ?_; intro _ _) | (refine J4 ?_; intro _ _) | refine K1 ?_ | refine K0 ?_ | refine K2 ?_ | refine K3 ?_ | refine K4 ?_ | (refine CV_pu ?_; intro _ _ _ _) | refine fV_ldN ?_ | refine fV_ld1 ?_ | refine fHV_ldN ?_ | refine fHV_ld1 ?_ | refine NilW_some ?_ | refine iCW_1 ?_ | refine iCW_N ?_ | refine Pk_b ?_))
  refine Cond_b (fun h => ?_) (fun h => ?_)
  · have hb : opOk i.op = false := by revert h; unfold opOk; by_cases h1 : i.op < 1 <;> simp [h1] <;> omega
    (repeat (first | (refine iDr ?_; intro _ _) | refine V_run ?_ | refine PV_run ?_ | refine HV_run ?_ | refine iV_ld1 ?_ | refine iV_ldN ?_ | (refine iV_bx ?_; intro _ _ _ _) | (refine iV_al ?_; intro _ _ _ _) | (refine iV_mm ?_; intro _ _ _ _) | (refine iU_st ?_; intro _ _) | refine iHV_1 ?_ | refine iHV_N ?_ | refine iRI_1 ?_ | refine iRI_N ?_ | refine Cond_t ?_ | refine Cond_f ?_ | refine JB ?_ | (refine JC ?_; intro _ _ _ _) | (refine J1 ?_; intro _ _) | (refine J0 ?_; intro _ _) | (refine J2 ?_; intro _ _) | (refine J3 ?_; intro _ _) | (refine J4 ?_; intro _ _) | refine K1 ?_ | refine K0 ?_ | refine K2 ?_ | refine K3 ?_ | refine K4 ?_ | (refine CV_pu ?_; intro _ _ _ _) | refine fV_ldN ?_ | refine fV_ld1 ?_ | refine fHV_ldN ?_ | refine fHV_ld1 ?_ | refine NilW_some ?_ | refine iCW_1 ?_ | refine iCW_N ?_ | refine Pk_b ?_))
    exact ret_eq (by rw [hb, formAt, hb]; rfl)
  · have hb : opOk i.op = true := by revert h; unfold opOk; by_cases h1 : i.op < 1 <;> simp [h1] <;> omega
    have hb' := hb
    simp only [opOk, Bool.and_eq_true, decide_eq_true_eq] at hb'
    (repeat (first | (refine iDr ?_; intro _ _) | refine V_run ?_ | refine PV_run ?_ | refine HV_run ?_ | refine iV_ld1 ?_ | refine iV_ldN ?_ | (refine iV_bx ?_; intro _ _ _ _) | (refine iV_al ?_; intro _ _ _ _) | (refine iV_mm ?_; intro _ _ _ _) | (refine iU_st ?_; intro _ _) | refine iHV_1 ?_ | refine iHV_N ?_ | refine iRI_1 ?_ | refine iRI_N ?_ | refine Cond_t ?_ | refine Cond_f ?_ | refine JB ?_ | (refine JC ?_; intro _ _ _ _) | (refine J1 ?_; intro _ _) | (refine J0 ?_; intro _ _) | (refine J2 ?_; intro _ _) | (refine J3 ?_; intro _ _) | (refine J4 ?_; intro _ _) | refine K1 ?_ | refine K0 ?_ | refine K2 ?_ | refine K3 ?_ | refine K4 ?_ | (refine CV_pu ?_; intro _ _ _ _) | refine fV_ldN ?_ | refine fV_ld1 ?_ | refine fHV_ldN ?_ | refine fHV_ld1 ?_ | refine NilW_some ?_ | refine iCW_1 ?_ | refine iCW_N ?_ | refine Pk_b ?_))
    refine V_ixN (n := 47) (s := 8) (e := 102) (vs := (formAt i.op).cells) (by omega) (by omega) (flat_extract (f := FormM.cells) (n := 8) (fun x => rfl) (formL_at hb)) ?_
    dsimp only [FormM.cells]
    (repeat (first | (refine iDr ?_; intro _ _) | refine V_run ?_ | refine PV_run ?_ | refine HV_run ?_ | refine iV_ld1 ?_ | refine iV_ldN ?_ | (refine iV_bx ?_; intro _ _ _ _) | (refine iV_al ?_; intro _ _ _ _) | (refine iV_mm ?_; intro _ _ _ _) | (refine iU_st ?_; intro _ _) | refine iHV_1 ?_ | refine iHV_N ?_ | refine iRI_1 ?_ | refine iRI_N ?_ | refine Cond_t ?_ | refine Cond_f ?_ | refine JB ?_ | (refine JC ?_; intro _ _ _ _) | (refine J1 ?_; intro _ _) | (refine J0 ?_; intro _ _) | (refine J2 ?_; intro _ _) | (refine J3 ?_; intro _ _) | (refine J4 ?_; intro _ _) | refine K1 ?_ | refine K0 ?_ | refine K2 ?_ | refine K3 ?_ | refine K4 ?_ | (refine CV_pu ?_; intro _ _ _ _) | refine fV_ldN ?_ | refine fV_ld1 ?_ | refine fHV_ldN ?_ | refine fHV_ld1 ?_ | refine NilW_some ?_ | refine iCW_1 ?_ | refine iCW_N ?_ | refine Pk_b ?_))
    exact ret_eq (by rw [hb]))⟩
end Go.Proofs.YtbeelfopmkbllaaGreatDoor
end

section
/- An own slice that is lent to a call; fields and rows of frozen memory; integers' bits and quotients. -/
set_option linter.unusedVariables false
set_option linter.unusedSimpArgs false
set_option maxRecDepth 20000
namespace Go.Proofs.YtbeelfopmkbllaaGreatDoor
open Go Q Go.RowKit

/-- What was frozen for a call alone is owned again behind it. -/
theorem Res.lend {w w' : World} {z z2 : Z} {b : Nat} {o : Obj} (hb : z b = none) (hw : w.heap[b]? = some o) (k : Res w (fun c => if c = b then some o else z c) [] w' z2 []) :
    Res w z [(b, o)] w' (fun c => if c = b then none else z2 c) [(b, o)] where
  os := k.os
  tape := k.tape
  output := k.output
  size := k.size
  base := fun c hc hn => k.base c hc (by simp [ids])
  sub := fun c o' hc => by
    by_cases hcb : c = b
    · simp [hcb] at hc
    · simp only [hcb, if_false] at hc; exact k.sub c o' hc
  zle := fun c o' hc => by
    have hcb : c ≠ b := fun e => by rw [e, hb] at hc; cases hc
    simp only [hcb, if_false]
    exact k.zle c o' (by simp only [hcb, if_false]; exact hc)
  znew := fun c hc => by
    by_cases hcb : c = b
    · exact .inr (.inr (by simp [ids, hcb]))
    · simp only [hcb, if_false] at hc
      rcases k.znew c hc with h | h | h
      · simp only [hcb, if_false] at h; exact .inl h
      · exact .inr (.inl h)
      · simp [ids] at h
  mem := fun p hp => by
    simp only [List.mem_singleton] at hp
    subst hp
    exact ⟨k.sub b o (k.zle b o (by simp)), by simp, .inr (by simp [ids])⟩
  nodup := by simp [ids]
section
variable {w0 w w' : World} {z0 z z' : Z} {B0 B B' L F : Bl} {K : Value → World → Prop}
/-- A call that reads an own slice. -/
theorem CV_lend {α : Type} {E : El α} {e : Nat} {v : Value} {xs : List α} {f : α → List Value} {fid : FuncId} [Enters fid] {args : Array Value} {P : Value → Prop} (hS : Res w0 z0 B0 w z (B ++ L)) (ho : OwnSl e E.size B v xs.length (xs.flatMap f)) (hb : xs.length ≤ big) (hf : ∀ x, (f x).length = E.size) (hr : ∀ z x, x ∈ xs → E.rel z (f x) x)
    (h : ∀ z1, Le z z1 → SlR E z1 v xs → Fn1 fid args z1 w fun _ r => P r) (hk : ∀ z' w' r, Le z z' → Res w0 z0 B0 w' z' (B ++ L) → P r → K r w') : CV (.func (.func fid) #[] #[]) args w K := by
  rcases ho.2 with ⟨rfl, rfl, h0⟩ | ⟨b, cap, sp, rfl, rfl, h1, h2, h3⟩
  · have : xs = [] := List.eq_nil_of_length_eq_zero h0
    subst this
    exact CV_1 (hS := hS) (h z (Le.refl _) SlR.nil) fun z' w' r h1 h2 h3 => hk z' w' r h1 h2 h3
  · have hm := hS.mem _ List.mem_cons_self
    have hown : Own w z [(b, .cells (xs.flatMap f ++ sp).toArray e (0, 0))] := Res.own (F := L) hS
    have hfr := Res.freeze hown
    have hsl : SlR E (fun c => if c = b then some (.cells (xs.flatMap f ++ sp).toArray e (0, 0)) else z c) (.slice (some ⟨b, 0, none⟩) xs.length cap) xs := by
      refine ⟨some ⟨b, 0, none⟩, cap, rfl, h1, hb, fun _ => ⟨b, 0, rfl, fun i x hx => ⟨f x, hr _ _ (List.mem_of_getElem? hx), _, _, _, if_pos rfl, fun j v hv => ?_⟩⟩⟩
      have := flat_get hf hx j v hv
      have hlt := (List.getElem?_eq_some_iff.1 this).1
      simp only [Nat.zero_add, List.getElem?_toArray]
      rw [List.getElem?_append_left hlt]
      exact this
    have hle := Res.freeze_le hown
    refine CV_enter (args' := args) (by simp) ?_
    refine Calls.mono (h _ hle hsl (Own.mk' hfr.sub (fun _ hp => by cases hp) List.nodup_nil)) ?_
    refine retK.mono ?_
    rintro r w' ⟨z2, k, hP⟩
    have hl := Res.lend hm.2.1 hm.1 k
    exact hk _ w' r hl.zle (Res.step (B := [_]) (B' := [_]) hS hl) hP
/-- The same, the block found among the owned ones. -/
theorem CV_lendB {α : Type} {E : El α} {e b cap : Nat} {xs : List α} {f : α → List Value} {sp : List Value} {C : Obj → Bl} {fid : FuncId} [Enters fid] {args : Array Value} {P : Value → Prop} [hS : Res w0 z0 B0 w z L] [g : Blk L b (.cells (xs.flatMap f ++ sp).toArray e (0, 0)) C] (hn : xs.length ≤ cap) (hcm : cap ≤ maxLen) (hsz : (xs.flatMap f ++ sp).length = cap * E.size)
    (hb : xs.length ≤ big) (hf : ∀ x, (f x).length = E.size) (hr : ∀ z x, x ∈ xs → E.rel z (f x) x)
    (h : ∀ z1, Le z z1 → SlR E z1 (.slice (some ⟨b, 0, none⟩) xs.length cap) xs → Fn1 fid args z1 w fun _ r => P r) (hk : ∀ z' w' r, Le z z' → Res w0 z0 B0 w' z' L → P r → K r w') : CV (.func (.func fid) #[] #[]) args w K := by
  obtain ⟨R, h1, _⟩ := g.perm
  have ho : OwnSl e E.size [(b, .cells (xs.flatMap f ++ sp).toArray e (0, 0))] (.slice (some ⟨b, 0, none⟩) xs.length cap) xs.length (xs.flatMap f) := ⟨flat_len hf xs, .inr ⟨b, cap, sp, rfl, rfl, hn, hcm, hsz⟩⟩
  exact CV_lend (B := [_]) (L := R) (hS.perm h1) ho hb hf hr h fun z' w' r hz hS' hP => hk z' w' r hz (hS'.perm h1.symm) hP
end
section
variable {w0 w : World} {z0 z z1 : Z} {B0 L : Bl} {b : Nat}
theorem At.fld {h : Nat → Option Obj} {off i o : Nat} {v : Value} {vs : List Value} (ha : At h b off vs) (hv : vs[i]? = some v) (ho : o = off + i) : At h b o [v] := by
  obtain ⟨c, ty, fr, g1, g2⟩ := ha
  refine ⟨c, ty, fr, g1, fun j u hu => ?_⟩
  cases j with
  | zero => simp at hu; subst hu; subst ho; exact g2 i v hv
  | succ j => simp at hu
/-- A field of a struct in frozen memory. -/
theorem zV_fld [hS : Res w0 z0 B0 w z L] {K : Value → World → Prop} {t : TypeId} [g : TyOne t] {off i o : Nat} {v : Value} {vs : List Value} (ha : At z1 b off vs) (hz : Le z1 z) (hv : vs[i]? = some v) (ho : o = off + i) (hk : K v w) : V (ld t (.pointer (some ⟨b, o, none⟩))) w K := zV_ld1 ((ha.mono hz).fld hv ho) hk
theorem zHV_fld [hS : Res w0 z0 B0 w z L] {K : Value → Prop} {t : TypeId} [g : TyOne t] {off i o : Nat} {v : Value} {vs : List Value} (ha : At z1 b off vs) (hz : Le z1 z) (hv : vs[i]? = some v) (ho : o = off + i) (hk : K v) : HV (ld t (.pointer (some ⟨b, o, none⟩))) w K := zHV_ld1 ((ha.mono hz).fld hv ho) hk
theorem zV_row [hS : Res w0 z0 B0 w z L] {K : Value → World → Prop} {t n : TypeId} [g : TyAgg t n] [gs : TySize t n] {off o : Nat} {vs : List Value} (ha : At z1 b off vs) (hz : Le z1 z) (hl : vs.length = n) (ho : o = off) (hk : K (.agg vs.toArray) w) : V (ld t (.pointer (some ⟨b, o, none⟩))) w K := zV_ldN (by subst ho; exact ha.mono hz) hl hk
end

/-! ### Parts of a slice -/
theorem SlR.take {α : Type} {E : El α} {z : Z} {a : Option Addr} {n cap k : Nat} {xs : List α} (h : SlR E z (.slice a n cap) xs) (hk : k ≤ xs.length) : SlR E z (.slice a k cap) (xs.take k) := by
  obtain ⟨a', cap', h1, h2, h3, h4⟩ := h
  cases h1
  have hl : (xs.take k).length = k := by rw [List.length_take]; omega
  refine ⟨a, cap, by rw [hl], by omega, by omega, fun hne => ?_⟩
  have hx : xs ≠ [] := by intro e; rw [e] at hne; simp at hne
  obtain ⟨b, off, h5, h6⟩ := h4 hx
  refine ⟨b, off, h5, fun i x hi => h6 i x ?_⟩
  have hlt := (List.getElem?_eq_some_iff.1 hi).1
  rw [hl] at hlt
  rw [List.getElem?_take_of_lt hlt] at hi
  exact hi
theorem SlR.drop {α : Type} {E : El α} {z : Z} {b off n cap k s : Nat} {xs : List α} (h : SlR E z (.slice (some ⟨b, off, none⟩) n cap) xs) (hs : E.size = s) (hk : k ≤ xs.length) : SlR E z (.slice (some ⟨b, if cap = k then off else off + k * s, none⟩) (n - k) (cap - k)) (xs.drop k) := by
  obtain ⟨a', cap', h1, h2, h3, h4⟩ := h
  cases h1
  subst hs
  refine ⟨_, cap - k, by rw [List.length_drop], by rw [List.length_drop]; omega, by rw [List.length_drop]; omega, fun hne => ?_⟩
  have hkl : k < xs.length := by
    rcases Nat.lt_or_ge k xs.length with hh | hh
    · exact hh
    · exact absurd (List.drop_of_length_le hh) hne
  have hx : xs ≠ [] := by intro e; rw [e] at hkl; simp at hkl
  obtain ⟨b', off', h5, h6⟩ := h4 hx
  cases h5
  refine ⟨b, off + k * E.size, by rw [if_neg (by omega)], fun i x hi => ?_⟩
  rw [List.getElem?_drop] at hi
  obtain ⟨cs, h7, h8⟩ := h6 _ x hi
  exact ⟨cs, h7, by rw [Nat.add_assoc, ← Nat.add_mul]; exact h8⟩
/-- Reading an element of a slice. -/
theorem SlR.get {α : Type} {E : El α} {z : Z} {b off n cap i : Nat} {xs : List α} {x : α} (h : SlR E z (.slice (some ⟨b, off, none⟩) n cap) xs) (hx : xs[i]? = some x) : ∃ cs, E.rel z cs x ∧ At z b (off + i * E.size) cs := by
  obtain ⟨hb, a, cap', h1, hc, hel⟩ := h.form
  obtain ⟨b', off', cs, h2, h3, h4⟩ := hel i x hx
  cases h1
  cases h2
  exact ⟨cs, h3, h4⟩

/-! ### Parts of strings -/
instance {t : Nat} {s : ByteArray} {h : Int} {k : IntKind} [g : TyStr t] [hr : InR h (s.size + 1)] : Run (sl t (.string s) none (some (.int k h)) none) (.string (s.extract 0 h.toNat)) := ⟨fun w => by
  have h1 : h ≤ s.size := by have := hr.h1; omega
  simp only [sl, Instr.sliceAt, Sem.run_bind, g.und, Result.andThen_ok, Instr.slice, Instr.sliceBounds, run_pure, Instr.sliceBound, asIntOf, pure_bind, hr.h0, h1, and_self, if_true, Option.isSome_none, Bool.false_eq_true, if_false]⟩
/-! ### Elements of arrays -/
/-- A known place times a size. -/
class MulI (i : Int) (s : Nat) (o : outParam Nat) : Prop where
  h : i.toNat * s = o
  h0 : 0 ≤ i
instance {s : Nat} : MulI 0 s 0 := ⟨Nat.zero_mul s, by decide⟩
instance {s : Nat} : MulI 1 s s := ⟨Nat.one_mul s, by decide⟩
instance : MulI 2 1 2 := ⟨rfl, by decide⟩
instance {b t e s n off m o : Nat} [g : TyArr t n e s] {i : Int} {k : IntKind} [hi : InR i n] [hm : MulI i s m] [ho : AddN off m o] : Run (ia t (.pointer (some ⟨b, off, none⟩)) (.int k i)) (.pointer (some ⟨b, o, none⟩)) := ⟨fun w => by
  rw [← ho.h, ← hm.h]
  simp only [ia, Instr.indexAt, Instr.sureAddr, asIntOf, pure_bind, Sem.run_bind, g.und, g.size, Result.andThen_ok, hi.h0, hi.h1, and_self, if_true, add_addr]
  rfl⟩

/-! ### Integers -/
instance {t : Nat} {a b : Int} [h : InR 0 b] [g : InI a] : Run (bi .quo t (.int .i64 a) (.int .i64 b)) (.int .i64 (a.tdiv b)) := ⟨fun w => by
  have h1 : b ≠ 0 := by have := h.h1; omega
  have h2 := IntWalk.i64_quo' a b (by have := g.h; have := h.h1; omega)
  simp [bi, binOp, Op.intDiv, h1, h2]⟩
instance (priority := 500) {t : Nat} {a b : Int} [h : InR 0 b] : Run (bi .quo t (.int .i64 a) (.int .i64 b)) (.int .i64 (IntKind.i64.wrap (a.tdiv b))) := ⟨fun w => by
  have h1 : b ≠ 0 := by have := h.h1; omega
  simp [bi, binOp, Op.intDiv, h1]⟩
instance {t : Nat} {a b : Int} [h : InR 0 b] : Run (bi .rem t (.int .i64 a) (.int .i64 b)) (.int .i64 (a.tmod b)) := ⟨fun w => by
  have h1 : b ≠ 0 := by have := h.h1; omega
  simp [bi, binOp, Op.intDiv, h1]⟩
theorem shr_ok {t : Nat} {a c : Int} (h0 : 0 ≤ c) (h1 : c ≤ 64) (w : World) : (bi .shr t (.int .i64 a) (.int .u64 c)).run Tryz.prog w = .ok (.int .i64 (a / 2 ^ c.toNat)) w := by
  simp only [bi, binOp, Op.shift]
  rw [if_neg (by omega)]
  have : min c.toNat IntKind.i64.bits = c.toNat := by have : IntKind.i64.bits = 64 := rfl
                                                      omega
  simp only [this]
  rw [Int.fdiv_eq_ediv_of_nonneg _ (by exact Int.le_of_lt (Int.pow_pos (by decide)))]
  rfl
instance {t : Nat} {a : Int} : Run (bi .shr t (.int .i64 a) (.int .u64 2)) (.int .i64 (a / 4)) := ⟨fun w => shr_ok (by decide) (by decide) w⟩
instance {t : Nat} {a : Int} : Run (bi .shr t (.int .i64 a) (.int .u64 4)) (.int .i64 (a / 16)) := ⟨fun w => shr_ok (by decide) (by decide) w⟩
instance {t : Nat} {a : Int} : Run (bi .shr t (.int .i64 a) (.int .u64 6)) (.int .i64 (a / 64)) := ⟨fun w => shr_ok (by decide) (by decide) w⟩
instance {t : Nat} {a : Int} : Run (bi .shr t (.int .i64 a) (.int .u64 7)) (.int .i64 (a / 128)) := ⟨fun w => shr_ok (by decide) (by decide) w⟩
theorem i64_mask (n : Int) (k : Nat) (hk : k < 63) : bits .and .i64 n ((2 ^ k - 1 : Nat) : Int) = n % 2 ^ k := by
  have hp : 2 ^ k ≤ 2 ^ 62 := Nat.pow_le_pow_right (by decide) (by omega)
  have hp0 : 0 < 2 ^ k := Nat.pow_pos (by decide)
  have h127 : (BitVec.ofInt 64 ((2 ^ k - 1 : Nat) : Int)).toNat = 2 ^ k - 1 := by
    rw [BitVec.toNat_ofInt]
    omega
  have key : (BitVec.ofInt 64 n &&& BitVec.ofInt 64 ((2 ^ k - 1 : Nat) : Int)).toNat = (n % ((2 ^ 64 : Nat) : Int)).toNat % 2 ^ k := by
    rw [BitVec.toNat_and, BitVec.toNat_ofInt, h127, Nat.and_two_pow_sub_one_eq_mod]
  show IntKind.i64.wrap ((BitVec.ofInt 64 n &&& BitVec.ofInt 64 ((2 ^ k - 1 : Nat) : Int)).toNat : Nat) = n % 2 ^ k
  rw [key, IntKind.wrap_i64]
  have h1 : ((n % ((2 ^ 64 : Nat) : Int)).toNat % 2 ^ k : Nat) < 2 ^ k := Nat.mod_lt _ hp0
  have h2 : (((n % ((2 ^ 64 : Nat) : Int)).toNat % 2 ^ k : Nat) : Int) = n % 2 ^ k := by
    rw [Int.natCast_emod, Int.toNat_of_nonneg (Int.emod_nonneg _ (by decide))]
    have : ((2 ^ k : Nat) : Int) ∣ ((2 ^ 64 : Nat) : Int) := Int.natCast_dvd_natCast.2 (Nat.pow_dvd_pow 2 (by omega))
    rw [Int.emod_emod_of_dvd _ this]
    simp
  rw [← h2]
  omega
theorem and_ok {t : Nat} {a b : Int} (w : World) : (bi .and t (.int .i64 a) (.int .i64 b)).run Tryz.prog w = .ok (.int .i64 (bits .and .i64 a b)) w := rfl
instance {t : Nat} {a : Int} : Run (bi .and t (.int .i64 a) (.int .i64 3)) (.int .i64 (a % 4)) := ⟨fun w => by rw [and_ok]; congr 2; exact i64_mask a 2 (by decide)⟩
instance {t : Nat} {a : Int} : Run (bi .and t (.int .i64 a) (.int .i64 127)) (.int .i64 (a % 128)) := ⟨fun w => by rw [and_ok]; congr 2; exact i64_mask a 7 (by decide)⟩
end Go.Proofs.YtbeelfopmkbllaaGreatDoor
end

section
/- Numbers: within, slices.Index and Contains of whole numbers, reps. -/
set_option linter.unusedVariables false
set_option maxRecDepth 20000
namespace Go.Proofs.YtbeelfopmkbllaaGreatDoor
open Go Q Go.RowKit

def inB (n lo hi : Int) : Bool := decide (lo ≤ n) && decide (n ≤ hi)
theorem inB_iff {n lo hi : Int} : inB n lo hi = true ↔ lo ≤ n ∧ n ≤ hi := by simp [inB]
theorem inB_false {n lo hi : Int} : inB n lo hi = false ↔ ¬ (lo ≤ n ∧ n ≤ hi) := by rw [← inB_iff]; simp
instance {n lo hi : Int} : Pu 75 #[.int .i64 n, .int .i64 lo, .int .i64 hi] (.bool (inB n lo hi)) := ⟨fun z w => Fn1.intro fun hS => en75 (by
  unfold vc75
  (repeat (first | refine V_run ?_ | refine JB ?_))
  exact ret_eq (by unfold inB; cases decide (lo ≤ n) <;> rfl))⟩
instance {n lo hi : Int} : Pu 59 #[.int .i64 n, .int .i64 lo, .int .i64 hi] (.bool (inB n lo hi)) := ⟨fun z w => Fn1.intro fun hS => en59 (by
  unfold vc59
  (repeat (first | refine V_run ?_ | refine JB ?_))
  exact ret_eq (by unfold inB; by_cases h : lo ≤ n <;> simp [h]))⟩
theorem indexI {v : Value} {xs : List Int} {c : Int} {z : Z} {w : World} (hx : SlR El.int z v xs) : Fn1 174 #[v, .int .i64 c] z w fun _ r => r = .int .i64 (fidx (fun x => decide (c = x)) xs) := Fn1.intro fun hS => en174 (by
  unfold vc174
  obtain ⟨hb, a, cap, rfl, hc, hel⟩ := hx.form
  (repeat (refine V_run ?_))
  refine LoopG1 (fun (i : Nat) x w' => x = .int .i64 i ∧ i ≤ xs.length ∧ (∀ j y, j < i → xs[j]? = some y → decide (c = y) = false) ∧ ∃ z', Res w z [] w' z' []) (fun i => xs.length - i) 0 ⟨rfl, by omega, fun j y h => absurd h (by omega), z, hS⟩ ?_
  rintro I M i x w2 m ⟨rfl, h1, h2, z2, hS2⟩ back
  (repeat (refine V_run ?_))
  refine Cond_d (fun h => ?_) (fun h => ?_)
  · have hlt : i < xs.length := by omega
    obtain ⟨b, off, cs, rfl, rfl, hat⟩ := hel i _ (List.getElem?_eq_getElem hlt)
    haveI : InR (i : Int) xs.length := ⟨by omega, by omega⟩
    haveI : InI ((i : Int) + 1) := ⟨by simp only [big] at hb; omega⟩
    haveI : Fz z b (off + (i : Int).toNat * 1) [.int .i64 xs[i]] := ⟨by rw [Int.toNat_natCast]; exact hat⟩
    (repeat (first | refine V_run ?_ | refine fV_ld1 ?_))
    refine Cond_d (fun h' => ?_) (fun h' => ?_)
    · exact ⟨_, _, hS2, by rw [fidx_some (p := fun x => decide (c = x)) h2 (List.getElem?_eq_getElem hlt) (by simpa using h')]⟩
    · (repeat (refine V_run ?_))
      refine back (i + 1) _ _ ⟨by simp, by omega, fun j y' hj hjy => ?_, z2, hS2⟩ (by omega)
      by_cases hji : j = i
      · subst hji; rw [List.getElem?_eq_getElem hlt] at hjy; cases hjy; exact decide_eq_false h'
      · exact h2 j y' (by omega) hjy
  · skip
    exact ⟨_, _, hS2, by rw [fidx_none fun j y hy => h2 j y (by have := (List.getElem?_eq_some_iff.1 hy).1; omega) hy]⟩)
theorem containsI {v : Value} {xs : List Int} {c : Int} {z : Z} {w : World} (hx : SlR El.int z v xs) : Fn1 76 #[v, .int .i64 c] z w fun _ r => r = .bool (xs.any fun x => decide (c = x)) := Fn1.intro fun hS => en76 (by
  unfold vc76
  refine CV_1 (indexI hx) ?_
  rintro z' w' v hle hS' rfl
  (repeat (refine V_run ?_))
  exact ⟨_, _, ‹_›, by rw [fidx_ge]⟩)
/-- The kinds of TO, BY and FOR that a number names. -/
def repRun : List Int → List Int → Int
  | pre, [] => pre.length
  | pre, k :: l => if k = 0 then (if (k :: l).all (fun x => decide (x = 0)) then pre.length else -1) else if pre.any (fun x => decide (k = x)) then -1 else repRun (pre ++ [k]) l
def repK (n : Int) : List Int := [n % 4, n / 4 % 4, n / 16 % 4]
def repsM (n : Int) : Int := if n / 64 = 0 then repRun [] (repK n) else -1
instance {n : Int} : Pu 171 #[.int .i64 n] (.bool (decide (n = 0))) := ⟨fun z w => Fn1.intro fun hS => en171 (by
  unfold vc171
  (repeat (refine V_run ?_))
  exact ret_eq rfl)⟩
instance {n : Int} : Pu 57 #[.int .i64 n] (.int .i64 (repsM n)) := ⟨fun z w => Fn1.intro fun hS => en57 (by
  unfold vc57
  (repeat (refine V_run ?_))
  refine V_bs (n := 3) rfl (by decide) ?_
  intro b w1 hb hS1
  have hS2 := hS1.freeze
  have hle := hS1.freeze_le
  have hsl : SlR El.int (fun c => if c = b then some (Obj.cells ([Value.int IntKind.i64 (n % 4)] ++ ([Value.int IntKind.i64 (n / 4 % 4)] ++ ([Value.int IntKind.i64 (n / 16 % 4)] ++ []))).toArray 3 (0, 0)) else z c) (.slice (some ⟨b, 0, none⟩) 3 3) (repK n) := by
    refine ⟨_, 3, rfl, Nat.le_refl 3, (by show 3 ≤ big; decide), fun _ => ⟨b, 0, rfl, fun i x hx => ⟨_, rfl, _, _, _, if_pos rfl, fun j v hv => ?_⟩⟩⟩
    have hj : j = 0 := by have := (List.getElem?_eq_some_iff.1 hv).1; simp at this; exact this
    subst hj
    simp only [List.getElem?_cons_zero, Option.some.injEq] at hv
    subst hv
    have hi : i < 3 := (List.getElem?_eq_some_iff.1 hx).1
    have : i = 0 ∨ i = 1 ∨ i = 2 := by omega
    rcases this with rfl | rfl | rfl <;> (simp [repK] at hx; subst hx; rfl)
  generalize (fun c => if c = b then some (Obj.cells ([Value.int IntKind.i64 (n % 4)] ++ ([Value.int IntKind.i64 (n / 4 % 4)] ++ ([Value.int IntKind.i64 (n / 16 % 4)] ++ []))).toArray 3 (0, 0)) else z c) = z1 at hS2 hle hsl
  have hK : (repK n).length = 3 := rfl
  generalize hkk : repK n = ks at hsl hK
  refine LoopG1 (fun (p : Nat) x w' => x = .int .i64 p ∧ p ≤ 3 ∧ repRun [] ks = repRun (ks.take p) (ks.drop p) ∧ ∃ z', Le z1 z' ∧ Res w z [] w' z' []) (fun p => 3 - p) 0 ⟨rfl, by omega, rfl, z1, Le.refl _, hS2⟩ ?_
  rintro I M p x w2 m ⟨rfl, h1, h2, z2, hz2, hS3⟩ back
  clear hS1 hS2
  have hsl2 := hsl.mono hz2
  (repeat (refine V_run ?_))
  intro K hJ
  have main : ∀ (c : Bool) z3 w3, Le z2 z3 → Res w z [] w3 z3 [] → (c = true → ∃ k, p < 3 ∧ ks[p]? = some k ∧ k ≠ 0) → (c = false → p = 3 ∨ ks[p]? = some 0) → K [.bool c] w3 := by
    intro c z3 w3 hz3 hS4 ht hf
    refine hJ _ _ fun _ => ?_
    have hsl3 := hsl2.mono hz3
    refine Cond_b (fun hc => ?_) (fun hc => ?_)
    · obtain ⟨k, hp, hk, hk0⟩ := ht hc
      haveI : InR (p : Int) (((3 : Nat) : Int) + 1) := ⟨by omega, by omega⟩
      haveI : InR (p : Int) ((3 : Nat) : Int) := ⟨by omega, by omega⟩
      haveI : InI ((p : Int) + 1) := ⟨by omega⟩
      (repeat (first | (refine iDr ?_; intro _ _) | refine PV_run ?_))
      obtain ⟨cs, rfl, hat⟩ := hsl3.get hk
      rw [Nat.zero_add] at hat
      refine zHV_ld1 hat ?_
      refine CV_1 (containsI (hsl3.take (k := p) (by omega))) ?_
      rintro z5 w5 v5 hle5 hS5 rfl
      rw [List.drop_eq_getElem_cons (by omega : p < ks.length)] at h2
      have hkk' : ks[p]'(by omega) = k := by rw [List.getElem?_eq_getElem (by omega)] at hk; exact Option.some.inj hk
      simp only [repRun, hkk', if_neg hk0] at h2
      refine Cond_b (fun h' => ?_) (fun h' => ?_)
      · refine ⟨_, _, hS5, ?_⟩
        rw [if_pos h'] at h2
        rw [repsM, hkk, h2]; simp
      · (repeat (refine V_run ?_))
        refine back (p + 1) _ _ ⟨by simp, by omega, ?_, _, (hz2.trans hz3).trans hle5, hS5⟩ (by omega)
        rw [h2, if_neg (by rw [h']; simp), ← hkk', List.take_append_getElem]
    · have hend : repRun [] ks = if (ks.drop p).all (fun x => decide (x = 0)) then (p : Int) else -1 := by
        rw [h2]
        have hlen : ((ks.take p).length : Int) = p := by rw [List.length_take]; omega
        rcases hf hc with hp | hp
        · rw [List.drop_of_length_le (by omega : ks.length ≤ p)]
          simp only [repRun, hlen, List.all_nil, if_true]
        · have hlt := (List.getElem?_eq_some_iff.1 hp).1
          have h0 : ks[p] = 0 := (List.getElem?_eq_some_iff.1 hp).2
          rw [List.drop_eq_getElem_cons hlt]
          simp only [repRun, if_pos h0, hlen]
      haveI : InR (p : Int) (((3 : Nat) : Int) + 1) := ⟨by omega, by omega⟩
      (repeat (first | refine V_run ?_ | (refine J1 ?_; intro _ _)))
      refine Cond_nd (fun h => ?_) (fun h => ?_)
      · (repeat (first | refine Cond_t ?_ | refine K1 ?_))
        exact ⟨_, _, ‹_›, by rw [repsM, if_neg h]⟩
      · (repeat (refine V_run ?_))
        have hd := hsl3.drop (k := p) (s := 1) rfl (by omega)
        refine CV_1 (fam1 (E := El.int) (p := fun x => decide (x = 0)) hd (fun z' w' cs x _ _ hr => ?_)) ?_
        · cases hr
          exact (inferInstance : PuV (.func (.func 171) #[] #[]) #[.int .i64 x] (.bool (decide (x = 0)))).h _ _
        · rintro z5 w5 v5 hle5 hS5 rfl
          (repeat (first | refine V_run ?_ | refine K1 ?_))
          refine Cond_n (fun h' => ?_) (fun h' => ?_)
          · exact ⟨_, _, hS5, by rw [repsM, if_pos h, hkk, hend, h']; simp⟩
          · exact ⟨_, _, hS5, by rw [repsM, if_pos h, hkk, hend, h']; simp⟩
  refine Cond_d (fun h => ?_) (fun h => ?_)
  · have hp : p < 3 := by omega
    haveI : InR (p : Int) ((3 : Nat) : Int) := ⟨by omega, by omega⟩
    (repeat (refine V_run ?_))
    obtain ⟨cs, rfl, hat⟩ := hsl2.get (List.getElem?_eq_getElem (by omega : p < ks.length))
    rw [Nat.zero_add] at hat
    refine zV_ld1 hat ?_
    (repeat (refine V_run ?_))
    refine main _ _ _ (Le.refl _) hS3 (fun hc => ⟨_, hp, List.getElem?_eq_getElem (by omega), by simpa using hc⟩) (fun hc => .inr ?_)
    rw [List.getElem?_eq_getElem (by omega)]
    simpa using hc
  · exact main _ _ _ (Le.refl _) hS3 (fun hc => by cases hc) (fun _ => .inl (by omega)))⟩
end Go.Proofs.YtbeelfopmkbllaaGreatDoor
end

section
/- ranged, and what instructions pop and push. -/
set_option linter.unusedVariables false
set_option maxRecDepth 20000
namespace Go.Proofs.YtbeelfopmkbllaaGreatDoor
open Go Q Go.RowKit

theorem binOps {z : Z} {w : World} : Fn1 168 #[] z w fun _ v => ∃ a cap, v = .slice a 24 cap := Fn1.intro fun hS => en168 (by
  unfold vc168
  refine V_bs (n := 24) rfl (by decide) ?_
  intro b w1 hb hS1
  exact ⟨_, _, hS1, _, _, rfl⟩)
theorem unOps {z : Z} {w : World} : Fn1 169 #[] z w fun _ v => ∃ a cap, v = .slice a 3 cap := Fn1.intro fun hS => en169 (by
  unfold vc169
  refine V_bs (n := 3) rfl (by decide) ?_
  intro b w1 hb hS1
  exact ⟨_, _, hS1, _, _, rfl⟩)
def rngTab : List (Int × Int × Int) := [(0, 0, 0), (14, 0, 1), (15, 0, 2), (16, 0, 10), (17, 1, 24), (18, 1, 3), (19, 1, 6), (20, 1, 40), (21, 1, 99)]
def rangedM (kind n : Int) : Bool := match rngTab.find? (·.1 == kind) with
  | some p => inB n p.2.1 p.2.2
  | none => decide (kind = 23) || (decide (kind = 22) && decide (repsM n ≥ 0))
abbrev rngV (p : Int × Int × Int) : Int × Value := (p.1, .agg [Value.int .i64 p.2.1, .int .i64 p.2.2].toArray)
theorem lkF_map {α : Type} (l : List α) (k : α → Int) (v : α → Value) (n : Int) (zv : Value) : lkF (l.map fun x => (k x, v x)) n zv = match l.find? (fun x => k x == n) with | some x => (v x, true) | none => (zv, false) := by
  induction l with
  | nil => rfl
  | cons x l ih =>
    unfold lkF at ih ⊢
    simp only [List.map_cons, List.find?_cons]
    cases h : k x == n with
    | true => rfl
    | false => exact ih
instance {kind n : Int} : Pu 56 #[.int .i64 kind, .int .i64 n] (.bool (rangedM kind n)) := ⟨fun z w => Fn1.intro fun hS => en56 (by
  unfold vc56
  (repeat (first | refine V_run ?_ | (refine iV_mm ?_; intro _ _ _ _)))
  refine iU_mu (by simp) ?_
  intro w2 hS2
  (repeat (refine V_run ?_))
  refine iU_mu (by simp) ?_
  intro w3 hS3
  (repeat (refine V_run ?_))
  refine iU_mu (by simp) ?_
  intro w4 hS4
  (repeat (refine V_run ?_))
  refine iU_mu (by simp) ?_
  intro w5 hS5
  skip
  refine CV_1 binOps ?_
  rintro z6 w6 v6 hle6 hS6 ⟨a6, c6, rfl⟩
  (repeat (refine V_run ?_))
  refine iU_mu (by simp) ?_
  intro w7 hS7
  refine CV_1 unOps ?_
  rintro z8 w8 v8 hle8 hS8 ⟨a8, c8, rfl⟩
  (repeat (refine V_run ?_))
  refine iU_mu (by simp) ?_
  intro w9 hS9
  (repeat (refine V_run ?_))
  refine iU_mu (by simp) ?_
  intro w10 hS10
  (repeat (refine V_run ?_))
  refine iU_mu (by simp) ?_
  intro w11 hS11
  (repeat (refine V_run ?_))
  refine iU_mu (by simp) ?_
  intro w12 hS12
  have hS13 : Res w z [] w12 z8 [(_, mO .i64 (rngTab.map fun p => (p.1, (rngV p).2)))] := hS12
  clear hS2 hS3 hS4 hS5 hS6 hS7 hS8 hS9 hS10 hS11 hS12
  refine ⟨_, _, run_lk (zv := .agg [Value.int .i64 0, .int .i64 0].toArray) (fun _ => by kernel_rfl) true, ?_⟩
  rw [if_pos rfl, lkF_map rngTab (fun p => p.1) (fun p => (rngV p).2)]
  unfold rangedM
  cases hf : rngTab.find? (fun p => p.1 == kind) with
  | some p =>
    dsimp only [rngV]
    haveI : InR (0 : Int) ((2 : Nat) : Int) := ⟨by omega, by omega⟩
    haveI : InR (1 : Int) ((2 : Nat) : Int) := ⟨by omega, by omega⟩
    (repeat (first | refine V_run ?_ | refine iV_ld1 ?_ | (refine iV_bx ?_; intro _ _ _ _) | (refine iU_st ?_; intro _ _) | refine Cond_t ?_ | (refine CV_pu ?_; intro _ _ _ _)))
    exact ret_eq rfl
  | none =>
    (repeat (first | refine V_run ?_ | (refine iV_bx ?_; intro _ _ _ _) | (refine iU_st ?_; intro _ _) | refine Cond_f ?_ | (refine JC ?_; intro _ _ _ _)))
    exact ret_eq (by cases decide (kind = 23) <;> cases decide (kind = 22) <;> rfl))⟩
theorem repRun_range : ∀ (l pre : List Int), -1 ≤ repRun pre l ∧ repRun pre l ≤ pre.length + l.length
  | [], pre => by simp only [repRun]; omega
  | k :: l, pre => by
    simp only [repRun]
    split
    · split <;> omega
    · split
      · omega
      · have := repRun_range l (pre ++ [k])
        simp only [List.length_append, List.length_cons, List.length_nil] at this ⊢
        omega
theorem repsM_range (n : Int) : -1 ≤ repsM n ∧ repsM n ≤ 3 := by
  unfold repsM
  split
  · exact repRun_range (repK n) []
  · omega
/-- What an instruction pops and pushes, or the error. -/
def effOk (i : InsM) : Bool :=
  if i.op = 12 ∨ i.op = 21 then rangedM 16 i.b else if i.op = 19 then rangedM 15 i.a else if i.op = 27 then decide (repsM i.b ≥ 0) else if i.op = 35 then rangedM 15 i.a && rangedM 14 i.b
  else if i.op = 36 then rangedM 19 i.b else if i.op = 40 ∨ i.op = 41 then rangedM 14 i.a else true
def effPops (i : InsM) : Int :=
  if i.op = 12 ∨ i.op = 21 then i.b else if i.op = 19 then IntKind.i64.wrap (i.a.tdiv 2) else if i.op = 27 then 1 + repsM i.b else if i.op = 35 then (if i.a < 2 then i.b else (formAt i.op).pops)
  else if i.op = 36 then (if i.b = 6 then 1 else (formAt i.op).pops) else if i.op = 40 ∨ i.op = 41 then i.a else (formAt i.op).pops
structure EffM where
  pops : Int
  pushes : Int
  e : Int
def effM (i : InsM) : EffM := if opOk i.op && effOk i then ⟨effPops i, (formAt i.op).pushes, 0⟩ else ⟨0, 0, 1⟩
abbrev EffM.v (e : EffM) : Value := .tuple [.int .i64 e.pops, .int .i64 e.pushes, .int .i64 e.e].toArray
instance {i : InsM} : Pu 17 #[i.v] (effM i).v := ⟨fun z w => Fn1.intro fun hS => en17 (by
  unfold vc17
  dsimp only [InsM.v, InsM.cells, FormM.v, FormM.cells]
  haveI : InI (1 + repsM i.b) := ⟨by have := repsM_range i.b; omega⟩
  (repeat (first | refine V_run ?_ | refine iV_ldN ?_ | (refine iV_bx ?_; intro _ _ _ _) | (refine iU_st ?_; intro _ _) | (refine CV_pu ?_; intro _ _ _ _)))
  rename_i b1 w1 hb1 hS1 z2 w2 hle2 hS2 b2 w3 hb2 hS3 w4 hS4
  refine Cond_n (fun h => ?_) (fun h => ?_)
  · exact ⟨_, _, hS4, by simp [effM, h]⟩
  intro K hJ
  have main : ∀ (is : Bool) (n : Int) z5 w5, Res w z [] w5 z5 [(b2, .cells [.string (formAt i.op).name, .int .i64 (formAt i.op).k0, .int .i64 (formAt i.op).k1, .int .i64 (formAt i.op).k2, .int .i64 n, .int .i64 (formAt i.op).pushes, .int .i64 (formAt i.op).loop, .bool (formAt i.op).final].toArray 102 (0, 0)), (b1, .cells [.int .i64 i.op, .int .i64 i.a, .int .i64 i.b, .int .i64 i.c].toArray 38 (0, 0))] → is = effOk i → n = effPops i → K [.bool is] w5 := by
    intro is n z5 w5 hS5 his hn
    refine hJ _ _ fun _ => ?_
    (repeat (refine V_run ?_))
    refine Cond_n (fun h' => ?_) (fun h' => ?_)
    · exact ⟨_, _, hS5, by rw [effM, h, ← his, h']; rfl⟩
    · (repeat (first | (refine iDr ?_; intro _ _) | refine PV_run ?_ | refine iHV_1 ?_))
      exact ⟨_, _, ‹_›, by rw [effM, h, ← his, h', hn]; rfl⟩
  (repeat (first | refine V_run ?_ | refine iV_ld1 ?_ | refine JB ?_))
  refine Cond_b (fun h1 => ?_) (fun h1 => ?_)
  · have h12 : i.op = 12 ∨ i.op = 21 := by by_cases e : i.op = 12 <;> simp [e] at h1 ⊢; exact h1
    (repeat (first | (refine iDr ?_; intro _ _) | refine PV_run ?_ | (refine iU_st ?_; intro _ _) | refine iHV_1 ?_ | refine iRI_1 ?_ | (refine CV_pu ?_; intro _ _ _ _)))
    rename_i hSe
    exact main _ _ _ _ hSe (by rw [effOk, if_pos h12]) (by rw [effPops, if_pos h12])
  have h12 : ¬ (i.op = 12 ∨ i.op = 21) := by by_cases e : i.op = 12 <;> simp [e] at h1 ⊢; exact h1
  (repeat (refine V_run ?_))
  refine Cond_d (fun h2 => ?_) (fun h2 => ?_)
  · haveI : InR (0 : Int) 2 := ⟨by decide, by decide⟩
    (repeat (first | (refine iDr ?_; intro _ _) | refine PV_run ?_ | (refine iU_st ?_; intro _ _) | refine iHV_1 ?_ | refine iRI_1 ?_ | (refine CV_pu ?_; intro _ _ _ _)))
    rename_i hSe
    exact main _ _ _ _ hSe (by rw [effOk, if_neg h12, if_pos h2]) (by rw [effPops, if_neg h12, if_pos h2])
  (repeat (refine V_run ?_))
  refine Cond_d (fun h3 => ?_) (fun h3 => ?_)
  · (repeat (first | (refine iDr ?_; intro _ _) | refine PV_run ?_ | (refine iU_st ?_; intro _ _) | refine iHV_1 ?_ | refine iRI_1 ?_ | (refine CV_pu ?_; intro _ _ _ _)))
    rename_i hSe
    exact main _ _ _ _ hSe (by rw [effOk, if_neg h12, if_neg h2, if_pos h3]) (by rw [effPops, if_neg h12, if_neg h2, if_pos h3])
  (repeat (refine V_run ?_))
  refine Cond_d (fun h4 => ?_) (fun h4 => ?_)
  · (repeat (first | refine V_run ?_ | refine iV_ld1 ?_ | (refine JC ?_; intro _ _ _ _) | (refine CV_pu ?_; intro _ _ _ _)))
    refine Cond_d (fun h5 => ?_) (fun h5 => ?_)
    · (repeat (first | refine V_run ?_ | refine iV_ld1 ?_ | (refine iU_st ?_; intro _ _)))
      rename_i hSe
      exact main _ _ _ _ hSe (by rw [effOk, if_neg h12, if_neg h2, if_neg h3, if_pos h4]; cases rangedM 15 i.a <;> rfl) (by rw [effPops, if_neg h12, if_neg h2, if_neg h3, if_pos h4, if_pos h5])
    · skip
      rename_i hSe
      exact main _ _ _ _ hSe (by rw [effOk, if_neg h12, if_neg h2, if_neg h3, if_pos h4]; cases rangedM 15 i.a <;> rfl) (by rw [effPops, if_neg h12, if_neg h2, if_neg h3, if_pos h4, if_neg h5])
  (repeat (refine V_run ?_))
  refine Cond_d (fun h5 => ?_) (fun h5 => ?_)
  · (repeat (first | refine V_run ?_ | refine iV_ld1 ?_ | (refine CV_pu ?_; intro _ _ _ _)))
    refine Cond_d (fun h6 => ?_) (fun h6 => ?_)
    · (repeat (first | refine V_run ?_ | (refine iU_st ?_; intro _ _)))
      rename_i hSe
      exact main _ _ _ _ hSe (by rw [effOk, if_neg h12, if_neg h2, if_neg h3, if_neg h4, if_pos h5]) (by rw [effPops, if_neg h12, if_neg h2, if_neg h3, if_neg h4, if_pos h5, if_pos h6])
    · skip
      rename_i hSe
      exact main _ _ _ _ hSe (by rw [effOk, if_neg h12, if_neg h2, if_neg h3, if_neg h4, if_pos h5]) (by rw [effPops, if_neg h12, if_neg h2, if_neg h3, if_neg h4, if_pos h5, if_neg h6])
  (repeat (refine JB ?_))
  refine Cond_b (fun h6 => ?_) (fun h6 => ?_)
  · have h46 : i.op = 40 ∨ i.op = 41 := by by_cases e : i.op = 40 <;> simp [e] at h6 ⊢; exact h6
    (repeat (first | (refine iDr ?_; intro _ _) | refine PV_run ?_ | (refine iU_st ?_; intro _ _) | refine iHV_1 ?_ | refine iRI_1 ?_ | (refine CV_pu ?_; intro _ _ _ _)))
    rename_i hSe
    exact main _ _ _ _ hSe (by rw [effOk, if_neg h12, if_neg h2, if_neg h3, if_neg h4, if_neg h5, if_pos h46]) (by rw [effPops, if_neg h12, if_neg h2, if_neg h3, if_neg h4, if_neg h5, if_pos h46])
  · have h46 : ¬ (i.op = 40 ∨ i.op = 41) := by by_cases e : i.op = 40 <;> simp [e] at h6 ⊢; exact h6
    skip
    exact main _ _ _ _ hS4 (by rw [effOk, if_neg h12, if_neg h2, if_neg h3, if_neg h4, if_neg h5, if_neg h46, h]) (by rw [effPops, if_neg h12, if_neg h2, if_neg h3, if_neg h4, if_neg h5, if_neg h46]))⟩
end Go.Proofs.YtbeelfopmkbllaaGreatDoor
end

section
/- Strings: IndexByte, Index at one byte, Cut, Count at one byte, HasSuffix; valid, digits. -/
set_option linter.unusedVariables false
set_option maxRecDepth 20000
namespace Go.Proofs.YtbeelfopmkbllaaGreatDoor
open Go Q Go.RowKit

instance : EntersX 257 Extern.BytealgCount.count := ⟨fun _ _ => by kernel_rfl⟩
theorem indexByte_fidx (l : List UInt8) (c : UInt8) : Lib.indexByte l c = fidx (· == c) l := by
  induction l with
  | nil => rfl
  | cons b l ih =>
    unfold Lib.indexByte
    rw [ih]
    unfold fidx
    rw [List.findIdx?_cons]
    cases hb : b == c with
    | true => simp
    | false =>
      cases h : l.findIdx? (· == c) with
      | none => simp
      | some i =>
        simp
instance {s : ByteArray} {c : Int} : Pu 253 #[.string s, .int .u8 c] (.int .i64 (fidx (· == c.toNat.toUInt8) (bytes s))) := ⟨fun z w => Fn1.intro fun hS => en253 (by
  unfold vc253
  refine CV_x (Lib.run_indexByteString s c w) ?_
  exact ⟨z, [], hS, by rw [indexByte_fidx]⟩)⟩
instance {s : ByteArray} {c : Int} : Pu 221 #[.string s, .int .u8 c] (.int .i64 (fidx (· == c.toNat.toUInt8) (bytes s))) := ⟨fun z w => Fn1.intro fun hS => en221 (by
  unfold vc221
  (repeat (first | (refine iDr ?_; intro _ _) | refine V_run ?_ | refine PV_run ?_ | refine HV_run ?_ | refine iV_ld1 ?_ | refine iV_ldN ?_ | (refine iV_bx ?_; intro _ _ _ _) | (refine iV_al ?_; intro _ _ _ _) | (refine iV_mm ?_; intro _ _ _ _) | (refine iU_st ?_; intro _ _) | refine iHV_1 ?_ | refine iHV_N ?_ | refine iRI_1 ?_ | refine iRI_N ?_ | refine Cond_t ?_ | refine Cond_f ?_ | refine JB ?_ | (refine JC ?_; intro _ _ _ _) | (refine J1 ?_; intro _ _) | (refine J0 ?_; intro _ _) | (refine J2 ?_; intro _ _) | (refine J3 ?_; intro _ _) | (refine J4 ?_; intro _ _) | refine K1 ?_ | refine K0 ?_ | refine K2 ?_ | refine K3 ?_ | refine K4 ?_ | (refine CV_pu ?_; intro _ _ _ _) | refine fV_ldN ?_ | refine fV_ld1 ?_ | refine fHV_ldN ?_ | refine fHV_ld1 ?_ | refine NilW_some ?_ | refine iCW_1 ?_ | refine iCW_N ?_ | refine Pk_b ?_))
  exact ⟨_, _, ‹_›, rfl⟩)⟩
/-- A string of one byte. -/
abbrev b1 (c : UInt8) : ByteArray := ⟨#[c]⟩
instance (priority := 1100) {t ty : Nat} {c : UInt8} [g : TyStr t] : Run (Builtin.len_ #[t] ty #[.string (b1 c)]) (.int .i64 1) := ⟨fun w => (inferInstance : Run (Builtin.len_ #[t] ty #[.string (b1 c)]) (.int .i64 (b1 c).size)).h w⟩
theorem bt_b1 (c : UInt8) : bt (b1 c) 0 = c.toNat := rfl
theorem u8_back (c : UInt8) : ((c.toNat : Int)).toNat.toUInt8 = c := by simp
instance {c : UInt8} : InStr (b1 c) 0 := ⟨by decide, by show (0 : Int) < ((1 : Nat) : Int); decide⟩
instance {s : ByteArray} {c : UInt8} : Pu 238 #[.string s, .string (b1 c)] (.int .i64 (fidx (· == c) (bytes s))) := ⟨fun z w => Fn1.intro fun hS => en238 (by
  unfold vc238
  have hsz : (b1 c).size = 1 := rfl
  (repeat (first | (refine iDr ?_; intro _ _) | refine V_run ?_ | refine PV_run ?_ | refine HV_run ?_ | refine iV_ld1 ?_ | refine iV_ldN ?_ | (refine iV_bx ?_; intro _ _ _ _) | (refine iV_al ?_; intro _ _ _ _) | (refine iV_mm ?_; intro _ _ _ _) | (refine iU_st ?_; intro _ _) | refine iHV_1 ?_ | refine iHV_N ?_ | refine iRI_1 ?_ | refine iRI_N ?_ | refine Cond_t ?_ | refine Cond_f ?_ | refine JB ?_ | (refine JC ?_; intro _ _ _ _) | (refine J1 ?_; intro _ _) | (refine J0 ?_; intro _ _) | (refine J2 ?_; intro _ _) | (refine J3 ?_; intro _ _) | (refine J4 ?_; intro _ _) | refine K1 ?_ | refine K0 ?_ | refine K2 ?_ | refine K3 ?_ | refine K4 ?_ | (refine CV_pu ?_; intro _ _ _ _) | refine fV_ldN ?_ | refine fV_ld1 ?_ | refine fHV_ldN ?_ | refine fHV_ld1 ?_ | refine NilW_some ?_ | refine iCW_1 ?_ | refine iCW_N ?_ | refine Pk_b ?_))
  refine Cond_b (fun h => ?_) (fun h => ?_)
  · have h : b1 c = s := by simpa using h
    subst h
    refine ⟨_, _, hS, ?_⟩
    have := fidx_some (p := (· == c)) (xs := bytes (b1 c)) (k := 0) (x := c) (fun i y hi => by omega) rfl (by simp)
    rw [this]; rfl
  · (repeat (first | (refine iDr ?_; intro _ _) | refine V_run ?_ | refine PV_run ?_ | refine HV_run ?_ | refine iV_ld1 ?_ | refine iV_ldN ?_ | (refine iV_bx ?_; intro _ _ _ _) | (refine iV_al ?_; intro _ _ _ _) | (refine iV_mm ?_; intro _ _ _ _) | (refine iU_st ?_; intro _ _) | refine iHV_1 ?_ | refine iHV_N ?_ | refine iRI_1 ?_ | refine iRI_N ?_ | refine Cond_t ?_ | refine Cond_f ?_ | refine JB ?_ | (refine JC ?_; intro _ _ _ _) | (refine J1 ?_; intro _ _) | (refine J0 ?_; intro _ _) | (refine J2 ?_; intro _ _) | (refine J3 ?_; intro _ _) | (refine J4 ?_; intro _ _) | refine K1 ?_ | refine K0 ?_ | refine K2 ?_ | refine K3 ?_ | refine K4 ?_ | (refine CV_pu ?_; intro _ _ _ _) | refine fV_ldN ?_ | refine fV_ld1 ?_ | refine fHV_ldN ?_ | refine fHV_ld1 ?_ | refine NilW_some ?_ | refine iCW_1 ?_ | refine iCW_N ?_ | refine Pk_b ?_))
    exact ⟨_, _, ‹_›, by rw [bt_b1, u8_back]⟩)⟩
instance {s : ByteArray} {c : UInt8} : Pu 258 #[.string s, .string (b1 c)] (.int .i64 (fidx (· == c) (bytes s))) := ⟨fun z w => Fn1.intro fun hS => en258 (by
  unfold vc258
  (repeat (first | (refine iDr ?_; intro _ _) | refine V_run ?_ | refine PV_run ?_ | refine HV_run ?_ | refine iV_ld1 ?_ | refine iV_ldN ?_ | (refine iV_bx ?_; intro _ _ _ _) | (refine iV_al ?_; intro _ _ _ _) | (refine iV_mm ?_; intro _ _ _ _) | (refine iU_st ?_; intro _ _) | refine iHV_1 ?_ | refine iHV_N ?_ | refine iRI_1 ?_ | refine iRI_N ?_ | refine Cond_t ?_ | refine Cond_f ?_ | refine JB ?_ | (refine JC ?_; intro _ _ _ _) | (refine J1 ?_; intro _ _) | (refine J0 ?_; intro _ _) | (refine J2 ?_; intro _ _) | (refine J3 ?_; intro _ _) | (refine J4 ?_; intro _ _) | refine K1 ?_ | refine K0 ?_ | refine K2 ?_ | refine K3 ?_ | refine K4 ?_ | (refine CV_pu ?_; intro _ _ _ _) | refine fV_ldN ?_ | refine fV_ld1 ?_ | refine fHV_ldN ?_ | refine fHV_ld1 ?_ | refine NilW_some ?_ | refine iCW_1 ?_ | refine iCW_N ?_ | refine Pk_b ?_))
  exact ⟨_, _, ‹_›, rfl⟩)⟩
instance {s : ByteArray} {c : UInt8} : Pu 223 #[.string s, .string (b1 c)] (.int .i64 ((bytes s).count c)) := ⟨fun z w => Fn1.intro fun hS => en223 (by
  unfold vc223
  have hsz : (b1 c).size = 1 := rfl
  (repeat (first | (refine iDr ?_; intro _ _) | refine V_run ?_ | refine PV_run ?_ | refine HV_run ?_ | refine iV_ld1 ?_ | refine iV_ldN ?_ | (refine iV_bx ?_; intro _ _ _ _) | (refine iV_al ?_; intro _ _ _ _) | (refine iV_mm ?_; intro _ _ _ _) | (refine iU_st ?_; intro _ _) | refine iHV_1 ?_ | refine iHV_N ?_ | refine iRI_1 ?_ | refine iRI_N ?_ | refine Cond_t ?_ | refine Cond_f ?_ | refine JB ?_ | (refine JC ?_; intro _ _ _ _) | (refine J1 ?_; intro _ _) | (refine J0 ?_; intro _ _) | (refine J2 ?_; intro _ _) | (refine J3 ?_; intro _ _) | (refine J4 ?_; intro _ _) | refine K1 ?_ | refine K0 ?_ | refine K2 ?_ | refine K3 ?_ | refine K4 ?_ | (refine CV_pu ?_; intro _ _ _ _) | refine fV_ldN ?_ | refine fV_ld1 ?_ | refine fHV_ldN ?_ | refine fHV_ld1 ?_ | refine NilW_some ?_ | refine iCW_1 ?_ | refine iCW_N ?_ | refine Pk_b ?_))
  have hrun := Lib.run_countString (P := Tryz.prog) s (bt (b1 c) 0) w
  rw [show (bt (b1 c) 0).toNat.toUInt8 = c by rw [bt_b1, u8_back]] at hrun
  have hc : Lib.countByte s.data.toList c = (bytes s).count c := rfl
  rw [hc] at hrun
  refine CV_x (e := Extern.BytealgCount.count) (v := .int .i64 ((bytes s).count c)) ?_ ?_
  · generalize (bytes s).count c = n at hrun ⊢
    exact hrun
  · exact ⟨z, [], hS, rfl⟩)⟩
/-- Where a string is cut. -/
def cutAt (s : ByteArray) (c : UInt8) : Int := fidx (· == c) (bytes s)
abbrev cutV (s : ByteArray) (c : UInt8) : Value := if 0 ≤ cutAt s c then .tuple #[.string (s.extract 0 (cutAt s c).toNat), .string (s.extract ((cutAt s c).toNat + 1) s.size), .bool true] else .tuple #[.string s, .string ⟨#[]⟩, .bool false]
theorem fidx_range {α : Type} {p : α → Bool} {xs : List α} : -1 ≤ fidx p xs ∧ fidx p xs < xs.length ∨ xs = [] ∧ fidx p xs = -1 := by
  unfold fidx
  cases h : xs.findIdx? p with
  | none => cases xs with
    | nil => exact .inr ⟨rfl, rfl⟩
    | cons x l => left; simp; omega
  | some i =>
    rw [List.findIdx?_eq_some_iff_getElem] at h
    obtain ⟨hlt, _⟩ := h
    left; simp; omega
class Sm (s : ByteArray) : Prop where
  h : s.size ≤ big
instance {s : ByteArray} {c : UInt8} [hs : Sm s] : Pu 191 #[.string s, .string (b1 c)] (cutV s c) := ⟨fun z w => Fn1.intro fun hS => en191 (by
  unfold vc191
  (repeat (first | (refine iDr ?_; intro _ _) | refine V_run ?_ | refine PV_run ?_ | refine HV_run ?_ | refine iV_ld1 ?_ | refine iV_ldN ?_ | (refine iV_bx ?_; intro _ _ _ _) | (refine iV_al ?_; intro _ _ _ _) | (refine iV_mm ?_; intro _ _ _ _) | (refine iU_st ?_; intro _ _) | refine iHV_1 ?_ | refine iHV_N ?_ | refine iRI_1 ?_ | refine iRI_N ?_ | refine Cond_t ?_ | refine Cond_f ?_ | refine JB ?_ | (refine JC ?_; intro _ _ _ _) | (refine J1 ?_; intro _ _) | (refine J0 ?_; intro _ _) | (refine J2 ?_; intro _ _) | (refine J3 ?_; intro _ _) | (refine J4 ?_; intro _ _) | refine K1 ?_ | refine K0 ?_ | refine K2 ?_ | refine K3 ?_ | refine K4 ?_ | (refine CV_pu ?_; intro _ _ _ _) | refine fV_ldN ?_ | refine fV_ld1 ?_ | refine fHV_ldN ?_ | refine fHV_ld1 ?_ | refine NilW_some ?_ | refine iCW_1 ?_ | refine iCW_N ?_ | refine Pk_b ?_))
  refine Cond_d (fun h => ?_) (fun h => ?_)
  · have h0 : 0 ≤ cutAt s c := h
    have h1 : cutAt s c < s.size := by
      rcases fidx_range (p := (· == c)) (xs := bytes s) with hr | ⟨hr, hr2⟩
      · have := size_bytes s; unfold cutAt; omega
      · unfold cutAt at h0; omega
    have hb := hs.h
    simp only [big] at hb
    haveI : InR (cutAt s c) (s.size + 1) := ⟨by omega, by omega⟩
    haveI : InR (cutAt s c + 1) (s.size + 1) := ⟨by omega, by omega⟩
    haveI : InI (cutAt s c + 1) := ⟨by omega⟩
    have e : fidx (fun x => x == c) (bytes s) = cutAt s c := rfl
    rw [e]
    (repeat (first | (refine iDr ?_; intro _ _) | refine V_run ?_ | refine PV_run ?_ | refine HV_run ?_ | refine iV_ld1 ?_ | refine iV_ldN ?_ | (refine iV_bx ?_; intro _ _ _ _) | (refine iV_al ?_; intro _ _ _ _) | (refine iV_mm ?_; intro _ _ _ _) | (refine iU_st ?_; intro _ _) | refine iHV_1 ?_ | refine iHV_N ?_ | refine iRI_1 ?_ | refine iRI_N ?_ | refine Cond_t ?_ | refine Cond_f ?_ | refine JB ?_ | (refine JC ?_; intro _ _ _ _) | (refine J1 ?_; intro _ _) | (refine J0 ?_; intro _ _) | (refine J2 ?_; intro _ _) | (refine J3 ?_; intro _ _) | (refine J4 ?_; intro _ _) | refine K1 ?_ | refine K0 ?_ | refine K2 ?_ | refine K3 ?_ | refine K4 ?_ | (refine CV_pu ?_; intro _ _ _ _) | refine fV_ldN ?_ | refine fV_ld1 ?_ | refine fHV_ldN ?_ | refine fHV_ld1 ?_ | refine NilW_some ?_ | refine iCW_1 ?_ | refine iCW_N ?_ | refine Pk_b ?_))
    refine ⟨_, _, ‹_›, ?_⟩
    rw [cutV, if_pos h0]
    have : (cutAt s c + 1).toNat = (cutAt s c).toNat + 1 := by omega
    rw [this]
  · have h0 : ¬ 0 ≤ cutAt s c := h
    exact ⟨_, _, ‹_›, by rw [cutV, if_neg h0]⟩)⟩
end Go.Proofs.YtbeelfopmkbllaaGreatDoor
end

section
/- The bytes of a string; valid, digits, a symbol's characters; HasSuffix at one byte. -/
set_option linter.unusedVariables false
set_option maxRecDepth 20000
namespace Go.Proofs.YtbeelfopmkbllaaGreatDoor
open Go Q Go.RowKit

theorem bytesWorld_eq (w : World) (e : TypeId) (s : ByteArray) : Lib.bytesWorld w e s = { w with drawn := w.drawn + 1, heap := w.heap.push (.cells (Lib.bytesCells w e s) e ((Lib.bytesCells w e s).size, (Lib.bytesCells w e s).size + 1)) } := by
  have hh : (Lib.bytesWorld w e s).heap = w.heap.push (.cells (Lib.bytesCells w e s) e ((Lib.bytesCells w e s).size, (Lib.bytesCells w e s).size + 1)) := by
    apply Array.ext_getElem?
    intro j
    rw [Array.getElem?_push]
    by_cases h1 : j = w.heap.size
    · subst h1; rw [Lib.bytesWorld_at_new, if_pos rfl]
    · rw [if_neg h1]
      by_cases h2 : j < w.heap.size
      · exact Lib.bytesWorld_at_old w e s j h2
      · rw [Array.getElem?_eq_none (by rw [Lib.bytesWorld_size]; omega), Array.getElem?_eq_none (by omega)]
  rw [show Lib.bytesWorld w e s = { Lib.bytesWorld w e s with heap := (Lib.bytesWorld w e s).heap } from rfl, hh]
  rfl
theorem V_cvb {w0 w : World} {z0 z : Z} {B0 L : Bl} {K : Value → World → Prop} [hS : Res w0 z0 B0 w z L] {s : ByteArray} (hs : s.size ≤ big)
    (hk : ∀ z' w' v, Le z z' → Res w0 z0 B0 w' z' L → SlR El.byte z' v (bytes s) → K v w') : V (cv 9 55 (.string s)) w K := by
  refine ⟨_, _, Lib.run_convert_string_bytes (u := .string) (e := 5) w 9 55 s (by kernel_rfl) (by kernel_rfl) (by kernel_rfl), ?_⟩
  rw [bytesWorld_eq]
  have h1 := Res.new (Res.drew hS) (.cells (Lib.bytesCells w 5 s) 5 ((Lib.bytesCells w 5 s).size, (Lib.bytesCells w 5 s).size + 1))
  have h2 := Res.freeze h1
  refine hk _ _ _ (Res.freeze_le h1) h2 ⟨_, _, by rw [← size_bytes], by rw [← size_bytes]; exact grownCap_ge w s.size 0 5, by rw [← size_bytes]; exact hs, fun _ => ⟨_, 0, rfl, fun i x hx => ⟨_, rfl, _, _, _, if_pos rfl, fun j v hv => ?_⟩⟩⟩
  have hj : j = 0 := by have := (List.getElem?_eq_some_iff.1 hv).1; simpa using this
  subst hj
  simp only [List.getElem?_cons_zero, Option.some.injEq] at hv
  subst hv
  have hi := (List.getElem?_eq_some_iff.1 hx).1
  have hx' : s.data[i]? = some x := by rw [← Array.getElem?_toList]; exact hx
  show (Lib.bytesCells w 5 s)[0 + i * 1 + 0]? = _
  unfold Lib.bytesCells
  rw [show 0 + i * 1 + 0 = i by omega, Array.getElem?_append_left (by simpa using hi), Array.getElem?_map, hx']
  rfl
/-- A string of the language. -/
def validB (s : ByteArray) : Bool := decide (s.size ≤ 1000) && (bytes s).all fun c => inB c.toNat 32 126
instance {c : Int} : Pu 217 #[.int .u8 c] (.bool (inB (IntKind.i64.wrap c) 32 126)) := ⟨fun z w => Fn1.intro fun hS => en217 (by
  unfold vc217
  (repeat (first | refine V_run ?_ | (refine CV_pu ?_; intro _ _ _ _)))
  exact ⟨_, _, ‹_›, rfl⟩)⟩
theorem wrap_u8 (c : UInt8) : IntKind.i64.wrap (c.toNat : Int) = c.toNat := wrap_in (by have := c.toNat_lt; unfold inI; omega)
instance {s : ByteArray} : Pu 147 #[.string s] (.bool (validB s)) := ⟨fun z w => Fn1.intro fun hS => en147 (by
  unfold vc147
  (repeat (first | refine V_run ?_ | (refine J1 ?_; intro _ _)))
  refine Cond_d (fun h => ?_) (fun h => ?_)
  · have hs : s.size ≤ 1000 := by omega
    refine V_cvb (by simp only [big]; omega) ?_
    intro z1 w1 v1 hz1 hS1 hv
    refine CV_1 (fam1 (E := El.byte) (p := fun c => inB c.toNat 32 126) hv (fun z' w' cs x _ _ hr => ?_)) ?_
    · cases hr
      have := (inferInstance : PuV (.func (.func 217) #[] #[]) #[.int .u8 x.toNat] (.bool (inB (IntKind.i64.wrap x.toNat) 32 126))).h z' w'
      rw [wrap_u8] at this
      exact this
    · rintro z5 w5 v5 hle5 hS5 rfl
      (repeat (refine K1 ?_))
      exact ⟨_, _, hS5, by simp [validB, hs]⟩
  · have hs : ¬ s.size ≤ 1000 := by omega
    (repeat (refine K1 ?_))
    exact ⟨_, _, ‹_›, by simp [validB, hs]⟩)⟩
def digC (c : UInt8) : Bool := inB c.toNat 48 57
def digitsB (s : ByteArray) : Bool := !decide (s = ⟨#[]⟩) && (bytes s).all digC
instance {c : Int} : Pu 255 #[.int .u8 c] (.bool (inB (IntKind.i64.wrap c) 48 57)) := ⟨fun z w => Fn1.intro fun hS => en255 (by
  unfold vc255
  (repeat (first | refine V_run ?_ | (refine CV_pu ?_; intro _ _ _ _)))
  exact ⟨_, _, ‹_›, rfl⟩)⟩
instance {s : ByteArray} [hs : Sm s] : Pu 254 #[.string s] (.bool (digitsB s)) := ⟨fun z w => Fn1.intro fun hS => en254 (by
  unfold vc254
  (repeat (first | refine V_run ?_ | (refine J1 ?_; intro _ _)))
  refine Cond_nd (fun h => ?_) (fun h => ?_)
  · refine V_cvb hs.h ?_
    intro z1 w1 v1 hz1 hS1 hv
    refine CV_1 (fam1 (E := El.byte) (p := digC) hv (fun z' w' cs x _ _ hr => ?_)) ?_
    · cases hr
      have := (inferInstance : PuV (.func (.func 255) #[] #[]) #[.int .u8 x.toNat] (.bool (inB (IntKind.i64.wrap x.toNat) 48 57))).h z' w'
      rw [wrap_u8] at this
      exact this
    · rintro z5 w5 v5 hle5 hS5 rfl
      (repeat (refine K1 ?_))
      exact ⟨_, _, hS5, by simp [digitsB, h]⟩
  · (repeat (refine K1 ?_))
    exact ⟨_, _, ‹_›, by simp [digitsB, h]⟩)⟩
abbrev odd4 : ByteArray := ⟨#[46, 95, 33, 63]⟩
/-- A character of a symbol. -/
def symC (c : UInt8) : Bool := inB c.toNat 65 90 || (inB c.toNat 48 57 || decide (fidx (· == c) (bytes odd4) ≥ 0))
theorem wrap_u8' (c : UInt8) : IntKind.i64.wrap ((c.toNat : Nat) : Int) = c.toNat := wrap_u8 c
instance {c : UInt8} : Pu 220 #[.int .u8 c.toNat] (.bool (symC c)) := ⟨fun z w => Fn1.intro fun hS => en220 (by
  unfold vc220
  (repeat (first | refine V_run ?_ | (refine JC ?_; intro _ _ _ _) | (refine CV_pu ?_; intro _ _ _ _)))
  refine ⟨_, _, ‹_›, ?_⟩
  rw [wrap_u8, u8_back]
  unfold symC
  cases inB c.toNat 65 90 <;> cases inB c.toNat 48 57 <;> rfl)⟩
/-- The last byte. -/
def lastB (s : ByteArray) (c : UInt8) : Bool := decide ((bytes s).getLast? = some c)
theorem extract_last {s : ByteArray} {c : UInt8} (h : 1 ≤ s.size) : decide (s.extract (s.size - 1) s.size = b1 c) = lastB s c := by
  have hb : bytes (s.extract (s.size - 1) s.size) = (bytes s).drop (s.size - 1) := by
    show (s.extract (s.size - 1) s.size).data.toList = _
    rw [ByteArray.data_extract, Array.toList_extract, List.extract_eq_take_drop, List.take_of_length_le (by simp)]
  have hl : (bytes s).drop (s.size - 1) = [(bytes s)[s.size - 1]'(by simp; omega)] := by
    rw [List.drop_eq_getElem_cons (by simp; omega), List.drop_of_length_le (by simp; omega)]
  unfold lastB
  rw [List.getLast?_eq_getElem?, ← size_bytes, List.getElem?_eq_getElem (by simp; omega)]
  refine decide_eq_decide.2 ⟨fun e => ?_, fun e => ?_⟩
  · have := congrArg bytes e
    rw [hb, hl, show bytes (b1 c) = [c] from rfl] at this
    simpa using this
  · have h2 : bytes (s.extract (s.size - 1) s.size) = bytes (b1 c) := by rw [hb, hl, show bytes (b1 c) = [c] from rfl]; simpa using e
    generalize s.extract (s.size - 1) s.size = u at h2
    cases u with | mk d => 
      have : d = #[c] := by rw [← Array.toList_inj]; exact h2
      rw [this]
instance {s : ByteArray} {c : UInt8} [hs : Sm s] : Pu 259 #[.string s, .string (b1 c)] (.bool (lastB s c)) := ⟨fun z w => Fn1.intro fun hS => en259 (by
  unfold vc259
  (repeat (first | refine V_run ?_ | (refine J1 ?_; intro _ _)))
  refine Cond_d (fun h => ?_) (fun h => ?_)
  · have hb := hs.h
    simp only [big] at hb
    haveI : InI ((s.size : Int) - 1) := ⟨by omega⟩
    haveI : InR ((s.size : Int) - 1) (s.size + 1) := ⟨by omega, by omega⟩
    (repeat (first | refine V_run ?_ | refine K1 ?_))
    refine ⟨_, _, ‹_›, ?_⟩
    rw [show ((s.size : Int) - 1).toNat = s.size - 1 by omega, extract_last (by omega)]
  · (repeat (refine K1 ?_))
    refine ⟨_, _, ‹_›, ?_⟩
    have : bytes s = [] := List.eq_nil_of_length_eq_zero (by rw [← size_bytes]; omega)
    rw [lastB, this]; rfl)⟩
instance {s : ByteArray} {c : UInt8} [hs : Sm s] : Pu 224 #[.string s, .string (b1 c)] (.bool (lastB s c)) := ⟨fun z w => Fn1.intro fun hS => en224 (by
  unfold vc224
  (repeat (refine CV_pu ?_; intro _ _ _ _))
  exact ⟨_, _, ‹_›, rfl⟩)⟩
instance {s : ByteArray} {c : UInt8} [hs : Sm s] : Pu 134 #[.string s, .string (b1 c)] (cutV s c) := ⟨fun z w => Fn1.intro fun hS => en134 (by
  unfold vc134
  refine CV_pu ?_
  intro z1 w1 hz1 hS1
  unfold cutV
  split
  · (repeat (refine V_run ?_))
    exact ⟨_, _, hS1, rfl⟩
  · (repeat (refine V_run ?_))
    exact ⟨_, _, hS1, rfl⟩)⟩
end Go.Proofs.YtbeelfopmkbllaaGreatDoor
end

section
/- strings.Builder: its check for copies, writing a string. -/
set_option linter.unusedVariables false
set_option maxRecDepth 20000
namespace Go.Proofs.YtbeelfopmkbllaaGreatDoor
open Go Q Go.RowKit

instance : EntersX 234 Extern.AbiNoEscape.same := ⟨fun _ _ => by kernel_rfl⟩
abbrev buO (p : Option Addr) (v : Value) : Obj := .cells [.pointer p, v].toArray 199 (0, 0)
instance {a : Option Addr} {x y : Operand} : Run (eq .eql 197 x y (.pointer a) (.pointer none)) (.bool a.isNone) := ⟨fun w => by
  have h : ∀ d : Nat, (Op.equalIn (d + 1) 197 (.pointer a) (.pointer none)).run Tryz.prog w = .ok a.isNone w := fun d => by
    have hu : Tryz.prog.underlying 197 = some (.pointer 199) := by kernel_rfl
    cases a <;> simp [Op.equalIn, run_underlying hu]
  have := h 9999
  simp only [eq, eqGuard, binOp, Op.equal, Op.maxDepth, Sem.run_bind]
  simp [this]⟩
instance {b off : Nat} {x y : Operand} : Run (eq .neq 197 x y (.pointer (some ⟨b, off, none⟩)) (.pointer (some ⟨b, off, none⟩))) (.bool false) := ⟨fun w => by
  have hu : Tryz.prog.underlying 197 = some (.pointer 199) := by kernel_rfl
  have hi : ∃ j, Tryz.prog.info? 199 = some j := by
    have : (Tryz.prog.info? 199).isSome = true := by kernel_rfl
    exact Option.isSome_iff_exists.1 this
  obtain ⟨j, hj⟩ := hi
  have := Lib.run_neq_ptr_same (w := w) (⟨b, off, none⟩ : Addr) hu hj
  simp only [eq, eqGuard, Sem.run_bind]
  simpa using this⟩
theorem copyCheck {b : Nat} {p : Option Addr} {v : Value} {z : Z} {w : World} (hp : p = none ∨ p = some ⟨b, 0, none⟩) : Fn 184 #[.pointer (some ⟨b, 0, none⟩)] z [(b, buO p v)] w fun _ B' r => r = .tuple #[] ∧ B' = [(b, buO (some ⟨b, 0, none⟩) v)] := Fn.intro fun hS => en184 (by
  unfold vc184
  (repeat (first | (refine iDr ?_; intro _ _) | refine V_run ?_ | refine PV_run ?_ | refine HV_run ?_ | refine iV_ld1 ?_ | refine iV_ldN ?_ | (refine iV_bx ?_; intro _ _ _ _) | (refine iV_al ?_; intro _ _ _ _) | (refine iV_mm ?_; intro _ _ _ _) | (refine iU_st ?_; intro _ _) | refine iHV_1 ?_ | refine iHV_N ?_ | refine iRI_1 ?_ | refine iRI_N ?_ | refine Cond_t ?_ | refine Cond_f ?_ | refine JB ?_ | (refine JC ?_; intro _ _ _ _) | (refine J1 ?_; intro _ _) | (refine J0 ?_; intro _ _) | (refine J2 ?_; intro _ _) | (refine J3 ?_; intro _ _) | (refine J4 ?_; intro _ _) | refine K1 ?_ | refine K0 ?_ | refine K2 ?_ | refine K3 ?_ | refine K4 ?_ | (refine CV_pu ?_; intro _ _ _ _) | refine fV_ldN ?_ | refine fV_ld1 ?_ | refine fHV_ldN ?_ | refine fHV_ld1 ?_ | refine NilW_some ?_ | refine iCW_1 ?_ | refine iCW_N ?_ | refine Pk_b ?_))
  rcases hp with rfl | rfl
  · refine Cond_t ?_
    have hat : w.heap[b]? = some (buO none v) := (hS.mem _ List.mem_cons_self).1
    have hsh : w.shape? b = some (199, 2) := by unfold World.shape?; rw [hat]; rfl
    have hi : ∃ j, Tryz.prog.info? 199 = some j ∧ j.size ≠ 0 := by
      have : (Tryz.prog.info? 199).any (fun j => j.size != 0) = true := by kernel_rfl
      cases h : Tryz.prog.info? 199 with
      | none => rw [h] at this; cases this
      | some j => rw [h] at this; exact ⟨j, rfl, by simpa using this⟩
    obtain ⟨j, hj, hj0⟩ := hi
    refine ⟨_, _, Lib.run_to_unsafe (w := w) (t := 199) (⟨b, 0, none⟩ : Addr) (by kernel_rfl) (by kernel_rfl) hj hj0 hsh (show 0 < 2 by decide), ?_⟩
    refine CV_x (e := Extern.AbiNoEscape.same) (Lib.run_noEscape w _) ?_
    refine ⟨_, _, Lib.run_from_unsafe (w := w) (u := 199) (⟨b, 0, none⟩ : Addr) (by kernel_rfl) (by kernel_rfl) hj hsh (by kernel_rfl), ?_⟩
    (repeat (first | (refine iDr ?_; intro _ _) | refine V_run ?_ | refine PV_run ?_ | refine HV_run ?_ | refine iV_ld1 ?_ | refine iV_ldN ?_ | (refine iV_bx ?_; intro _ _ _ _) | (refine iV_al ?_; intro _ _ _ _) | (refine iV_mm ?_; intro _ _ _ _) | (refine iU_st ?_; intro _ _) | refine iHV_1 ?_ | refine iHV_N ?_ | refine iRI_1 ?_ | refine iRI_N ?_ | refine Cond_t ?_ | refine Cond_f ?_ | refine JB ?_ | (refine JC ?_; intro _ _ _ _) | (refine J1 ?_; intro _ _) | (refine J0 ?_; intro _ _) | (refine J2 ?_; intro _ _) | (refine J3 ?_; intro _ _) | (refine J4 ?_; intro _ _) | refine K1 ?_ | refine K0 ?_ | refine K2 ?_ | refine K3 ?_ | refine K4 ?_ | (refine CV_pu ?_; intro _ _ _ _) | refine fV_ldN ?_ | refine fV_ld1 ?_ | refine fHV_ldN ?_ | refine fHV_ld1 ?_ | refine NilW_some ?_ | refine iCW_1 ?_ | refine iCW_N ?_ | refine Pk_b ?_))
    exact ⟨_, _, ‹_›, rfl, rfl⟩
  · refine Cond_f ?_
    (repeat (first | (refine iDr ?_; intro _ _) | refine V_run ?_ | refine PV_run ?_ | refine HV_run ?_ | refine iV_ld1 ?_ | refine iV_ldN ?_ | (refine iV_bx ?_; intro _ _ _ _) | (refine iV_al ?_; intro _ _ _ _) | (refine iV_mm ?_; intro _ _ _ _) | (refine iU_st ?_; intro _ _) | refine iHV_1 ?_ | refine iHV_N ?_ | refine iRI_1 ?_ | refine iRI_N ?_ | refine Cond_t ?_ | refine Cond_f ?_ | refine JB ?_ | (refine JC ?_; intro _ _ _ _) | (refine J1 ?_; intro _ _) | (refine J0 ?_; intro _ _) | (refine J2 ?_; intro _ _) | (refine J3 ?_; intro _ _) | (refine J4 ?_; intro _ _) | refine K1 ?_ | refine K0 ?_ | refine K2 ?_ | refine K3 ?_ | refine K4 ?_ | (refine CV_pu ?_; intro _ _ _ _) | refine fV_ldN ?_ | refine fV_ld1 ?_ | refine fHV_ldN ?_ | refine fHV_ld1 ?_ | refine NilW_some ?_ | refine iCW_1 ?_ | refine iCW_N ?_ | refine Pk_b ?_))
    exact ⟨_, _, hS, rfl, rfl⟩)
section
variable {w0 w w' : World} {z0 z z' : Z} {B0 B B' L F : Bl} {K : Value → World → Prop}
/-- **append(v, s...)** of a string to bytes of one's own. -/
theorem V_appS {t u ty e bytes : Nat} [g : TyApp t e 1 bytes] (hu : Tryz.prog.underlying u = some .string) {v : Value} {n : Nat} {xs : List Value} {s : ByteArray} (hS : Res w0 z0 B0 w z (B ++ L)) (ho : OwnSl e 1 B v n xs)
    (hb : (n + s.size) * bytes ≤ room) (hb2 : n + s.size ≤ room)
    (hk : ∀ B' v' w', OwnSl e 1 B' v' (n + s.size) (xs ++ Lib.strCells s) → Res w0 z0 B0 w' z (B' ++ L) → K v' w') : V (Builtin.append_ #[t, u] ty #[v, .string s]) w K := by
  obtain ⟨zv, hinfo, hzs⟩ := g.info
  obtain ⟨i, hi, hz⟩ := Option.map_eq_some_iff.1 hinfo
  simp only [Prod.mk.injEq] at hz
  obtain ⟨hz0, hz1, hz2⟩ := hz
  have hlen : (xs ++ Lib.strCells s).length = (n + s.size) * 1 := by rw [List.length_append, ho.1, Lib.strCells_length]; omega
  simp only [room] at hb hb2
  have hmax : n + s.size ≤ maxLen := by simp only [maxLen]; omega
  have h63 : ((n + s.size : Nat) : Int) ≤ 9223372036854775807 := by omega
  have grown : ∀ (old : Nat) (w1 : World), w1 = w.drew.alloc (.cells (xs.toArray ++ (Lib.strCells s).toArray ++ Builtin.zeroCells zv.cells (grownCap w (n + s.size) old e - (n + s.size))) e) →
      Res w0 z0 B0 w1 z ((w.heap.size, .cells (xs ++ Lib.strCells s ++ (Builtin.zeroCells zv.cells (grownCap w (n + s.size) old e - (n + s.size))).toList).toArray e (0, 0)) :: (B ++ L)) := fun old w1 hw1 => by
    subst hw1
    have := Res.new (Res.drew hS) (.cells (xs ++ Lib.strCells s ++ (Builtin.zeroCells zv.cells (grownCap w (n + s.size) old e - (n + s.size))).toList).toArray e (0, 0))
    have he : (xs.toArray ++ (Lib.strCells s).toArray ++ Builtin.zeroCells zv.cells (grownCap w (n + s.size) old e - (n + s.size))) = (xs ++ Lib.strCells s ++ (Builtin.zeroCells zv.cells (grownCap w (n + s.size) old e - (n + s.size))).toList).toArray := by
      apply Array.toList_inj.1; simp
    rw [he]
    exact this
  have own' : ∀ (old : Nat), OwnSl e 1 [(w.heap.size, .cells (xs ++ Lib.strCells s ++ (Builtin.zeroCells zv.cells (grownCap w (n + s.size) old e - (n + s.size))).toList).toArray e (0, 0))] (.slice (some ⟨w.heap.size, 0, none⟩) (n + s.size) (grownCap w (n + s.size) old e)) (n + s.size) (xs ++ Lib.strCells s) := fun old => by
    have hge := grownCap_ge w (n + s.size) old e
    refine ⟨hlen, .inr ⟨_, _, _, rfl, rfl, hge, grownCap_le_maxLen w (n + s.size) old e hmax, ?_⟩⟩
    rw [List.length_append, hlen, Array.length_toList, size_zeroCells, hzs, ← Nat.add_mul]
    congr 1
    omega
  rcases ho.2 with ⟨rfl, rfl, rfl⟩ | ⟨b, cap, sp, rfl, rfl, hcap, hcm, hsz⟩
  · have hx0 : xs = [] := List.eq_nil_of_length_eq_zero (by have := ho.1; simpa using this)
    subst hx0
    by_cases h0 : s.size = 0
    · have hs0 : Lib.strCells s = [] := List.eq_nil_of_length_eq_zero (by rw [Lib.strCells_length]; exact h0)
      refine ⟨.slice none 0 0, w, ?_, hk [] _ _ ?_ hS⟩
      · have hf := Lib.run_firstCells_string (P := Tryz.prog) w 1 s
        rw [h0] at hf
        simp [Builtin.append_, run_underlying g.und, run_underlying hu, sizeOf, typeInfo, hi, hz1, Builtin.lenOf, h0, hf]
      · rw [h0, hs0]; exact OwnSl.nil
    · have hr := run_append_nil_string (P := Tryz.prog) w t u ty e i zv g.und hu hi hz0 s (by omega) (by simpa using h63) (by rw [hz2]; simp only [Nat.zero_add] at hb; omega)
      refine ⟨_, _, hr, ?_⟩
      have h5 := grown 0 _ rfl
      have h6 := own' 0
      simp only [Nat.zero_add] at h5 h6
      have he : s.data.map (fun b => Value.int .u8 b.toNat) = (Lib.strCells s).toArray := Array.ext' (by simp [Lib.strCells])
      rw [he]
      exact hk _ _ _ (by simpa using h6) (by simpa using h5)
  · by_cases hroom : n + s.size ≤ cap
    · have hat := hS.mem (b, .cells (xs ++ sp).toArray e (0, 0)) (by simp)
      have hxl : xs.length = n := by have := ho.1; omega
      have hr := Lib.run_append_room_string (P := Tryz.prog) w t u ty e i g.und hu hi hz1 b n cap (xs ++ sp).toArray hat.1 s hroom (by simp only [List.size_toArray, hsz]; omega)
      refine ⟨_, _, hr, ?_⟩
      rw [setRow_eq hat.1]
      have hnew : ((xs ++ sp).toArray.toList.take n ++ Lib.strCells s ++ (xs ++ sp).toArray.toList.drop (n + s.size)) = xs ++ Lib.strCells s ++ sp.drop s.size := by
        simp only [← hxl, List.take_left, List.drop_append, List.drop_of_length_le (Nat.le_add_right xs.length s.size)]
        simp
      rw [hnew]
      refine hk [(b, .cells (xs ++ Lib.strCells s ++ sp.drop s.size).toArray e (0, 0))] _ _ ⟨hlen, .inr ⟨b, cap, sp.drop s.size, rfl, rfl, hroom, hcm, ?_⟩⟩ (Res.put hS _ rfl)
      rw [List.length_append, hlen, List.length_drop]
      have : sp.length = cap * 1 - n := by rw [← hsz, List.length_append, hxl]; omega
      omega
    · have hat := hS.mem (b, .cells (xs ++ sp).toArray e (0, 0)) (by simp)
      have holds : ∀ j u, xs[j]? = some u → w.cell? ((⟨b, 0, none⟩ : Addr).add j) = some u := fun j u hu => by
        rw [add_addr]
        refine At.cell (vs := xs) ⟨_, _, _, hat.1, fun j u hu => ?_⟩ hu
        simp only [Nat.zero_add, List.getElem?_toArray]
        rw [List.getElem?_append_left (List.getElem?_eq_some_iff.1 hu).1]
        exact hu
      have hr := Lib.run_append_grow_string (P := Tryz.prog) w t u ty e i zv g.und hu hi hz0 ⟨b, 0, none⟩ n cap xs (by rw [hz1]; exact ho.1) holds s (by omega) h63 (growslice_fits (by omega) (by rw [hz2]; exact hb))
      refine ⟨_, _, hr, hk _ _ _ (own' cap) ((grown cap _ rfl).sublist ?_)⟩
      simp
end
end Go.Proofs.YtbeelfopmkbllaaGreatDoor
end

section
/- strings.Builder: WriteString, WriteByte, String. -/
set_option linter.unusedVariables false
set_option maxRecDepth 20000
namespace Go.Proofs.YtbeelfopmkbllaaGreatDoor
open Go Q Go.RowKit

/-- A builder: its variable's block, its bytes' blocks. -/
structure BuOk (b : Nat) (B : Bl) (xs : List Value) : Prop where
  h : ∃ p v Bb, B = (b, buO p v) :: Bb ∧ (p = none ∨ p = some ⟨b, 0, none⟩) ∧ OwnSl 5 1 Bb v xs.length xs
theorem BuOk.new {b : Nat} : BuOk b [(b, buO none (.slice none 0 0))] [] := ⟨_, _, [], rfl, .inl rfl, OwnSl.nil⟩
theorem writeString {b : Nat} {B : Bl} {xs : List Value} {s : ByteArray} {z : Z} {w : World} (hB : BuOk b B xs) (hn : xs.length + s.size ≤ room) :
    Fn 125 #[.pointer (some ⟨b, 0, none⟩), .string s] z B w fun _ B' r => BuOk b B' (xs ++ Lib.strCells s) ∧ r = .tuple #[.int .i64 s.size, .nilIface] := Fn.intro fun hS => en125 (by
  unfold vc125
  obtain ⟨p, v, Bb, rfl, hp, ho⟩ := hB.h
  refine CV_fn (B := [(b, buO p v)]) (F := Bb) hS (copyCheck hp) (by simp) ?_
  rintro z1 B1 w1 v1 hz1 hS1 ⟨rfl, rfl⟩
  obtain ⟨a, cap, rfl, hcap⟩ := ho.form
  have hS1' : Res w z _ w1 z1 ((b, buO (some ⟨b, 0, none⟩) (.slice a xs.length cap)) :: Bb) := hS1
  have hS2 := hS1'.bring Bb
  clear hS1 hS1'
  (repeat (first | refine V_run ?_ | refine iV_ld1 ?_))
  refine V_appS (t := 55) (u := 9) (bytes := 1) (by kernel_rfl) hS2 ho (by omega) hn ?_
  intro B' v' w2 ho' hS3
  obtain ⟨a', cap', rfl, hcap'⟩ := ho'.form
  clear hS2
  (repeat (first | refine V_run ?_ | (refine iU_st ?_; intro _ _)))
  rename_i hSe
  refine ⟨_, _, (hSe.bringB b), ⟨_, _, _, rfl, .inr rfl, ?_⟩, rfl⟩
  rw [show (xs ++ Lib.strCells s).length = xs.length + s.size by rw [List.length_append, Lib.strCells_length]]
  simpa using ho')
theorem freeze_eq {w : World} {g n : Nat} {c : Array Value} {e : TypeId} (h : w.heap[g]? = some (.cells c e (0, 0))) (hn : n ≠ 0) : w.freeze ⟨g, 0, none⟩ n = { w with heap := w.heap.setIfInBounds g (.cells c e (0, n)) } := by
  unfold World.freeze
  rw [if_neg hn]
  congr 1
  apply Array.ext_getElem?
  intro j
  rw [Array.getElem?_modify, Array.getElem?_setIfInBounds]
  by_cases hj : g = j
  · subst hj
    rw [if_pos rfl, if_pos rfl, if_pos (lt_of_get h), h]
    simp
  · rw [if_neg hj, if_neg hj]
theorem builderString {b : Nat} {B : Bl} {l : List UInt8} {z : Z} {w : World} (hB : BuOk b B (Lib.byteCells l)) (hl : l.length ≤ room) :
    Fn 132 #[.pointer (some ⟨b, 0, none⟩)] z B w fun _ B' r => B' = [] ∧ r = .string ⟨l.toArray⟩ := Fn.intro fun hS => en132 (by
  unfold vc132
  obtain ⟨p, v, Bb, rfl, hp, ho⟩ := hB.h
  obtain ⟨a, cap, rfl, hcap⟩ := ho.form
  (repeat (first | (refine iDr ?_; intro _ _) | refine PV_run ?_ | refine iHV_1 ?_))
  rename_i w9 hSe
  have hbl : (Lib.byteCells l).length = l.length := Lib.byteCells_length l
  rcases ho.2 with ⟨rfl, hv, h0⟩ | ⟨g, cap', sp, rfl, hv, h1, h2, h3⟩
  · have ha : a = none := (Value.slice.inj hv).1
    subst ha
    have hl0 : l = [] := List.eq_nil_of_length_eq_zero (by omega)
    subst hl0
    refine ⟨_, _, Lib.run_unsafeSliceData_nil _ _ _ _ _, ?_⟩
    (repeat (refine iRI_1 ?_))
    refine ⟨_, _, Lib.run_unsafeString_none _ _ _ _ _, ?_⟩
    (repeat (refine iRI_1 ?_))
    exact ⟨_, _, hSe.drop, rfl, rfl⟩
  · have ha : a = some ⟨g, 0, none⟩ := (Value.slice.inj hv).1
    have hc : cap' = cap := (Value.slice.inj hv).2.2.symm
    subst ha hc
    have hgm := hSe.mem (g, .cells (Lib.byteCells l ++ sp).toArray 5 (0, 0)) (by simp)
    have hg1 : w9.heap[g]? = some (.cells (Lib.byteCells l ++ sp).toArray 5 (0, 0)) := hgm.1
    have hsh : ∀ w2 : World, w2.heap[g]? = some (.cells (Lib.byteCells l ++ sp).toArray 5 (0, 0)) → w2.shape? g = some (5, cap') := fun w2 h => by
      unfold World.shape?
      rw [h]
      simp only [List.size_toArray, h3, Nat.mul_one]
    by_cases hcap0 : cap' = 0
    · subst hcap0
      have hl0 : l = [] := List.eq_nil_of_length_eq_zero (by omega)
      subst hl0
      refine ⟨_, _, Lib.run_unsafeSliceData_zero _ _ _ 5 (by kernel_rfl) _ _ _ (hsh _ hg1), ?_⟩
      have hS9 : Res w z _ (w9.alloc (.view ⟨g, 0, none⟩ 5)) z _ := hSe.new (.view ⟨g, 0, none⟩ 5)
      clear hSe hS
      (repeat (refine iRI_1 ?_))
      refine ⟨_, _, Lib.run_unsafeString_none _ _ _ _ _, ?_⟩
      (repeat (refine iRI_1 ?_))
      exact ⟨_, _, hS9.drop, rfl, rfl⟩
    · refine ⟨_, _, Lib.run_unsafeSliceData_row _ _ _ _ _ _ hcap0, ?_⟩
      (repeat (refine iRI_1 ?_))
      rw [hbl] at hSe ⊢
      by_cases hl0 : l = []
      · subst hl0
        refine ⟨_, _, Lib.run_unsafeString_none _ _ _ _ _, ?_⟩
        (repeat (refine iRI_1 ?_))
        exact ⟨_, _, hSe.drop, rfl, rfl⟩
      · refine ⟨_, _, Lib.run_unsafeString_row (e := 5) _ _ _ _ (by kernel_rfl) (by kernel_rfl) g cap' (hsh _ hg1) l hl0 (by omega) (by simp only [room] at hl; omega) (fun j x hx => ?_), ?_⟩
        · rw [add_addr]
          refine At.cell (vs := Lib.byteCells l) ⟨_, _, _, hg1, fun j u hu => ?_⟩ (by unfold Lib.byteCells; rw [List.getElem?_map, hx]; rfl)
          simp only [Nat.zero_add, List.getElem?_toArray]
          rw [List.getElem?_append_left (List.getElem?_eq_some_iff.1 hu).1]
          exact hu
        · rw [freeze_eq hg1 (by simpa using hl0)]
          have hS8 := Res.set (b := g) hSe (.cells (Lib.byteCells l ++ sp).toArray 5 (0, l.length)) rfl
          clear hSe hS
          (repeat (refine iRI_1 ?_))
          exact ⟨_, _, hS8.drop, rfl, rfl⟩)
end Go.Proofs.YtbeelfopmkbllaaGreatDoor
end

section
/- strings.Builder: Grow of a fresh one. -/
set_option linter.unusedVariables false
set_option maxRecDepth 20000
set_option maxHeartbeats 1000000
namespace Go.Proofs.YtbeelfopmkbllaaGreatDoor
open Go Q Go.RowKit

instance : EntersX 276 (Extern.BytealgMakeNoZero.makeNoZero #[3] #[55]) := ⟨fun _ _ => by kernel_rfl⟩
instance {t e n ty len cap : Nat} {a : Option Addr} [g : TySlice t e n] : Run (Builtin.cap_ #[t] ty #[.slice a len cap]) (.int .i64 cap) := ⟨fun w => by
  simp [Builtin.cap_, Sem.run_bind, g.und, goInt]⟩
theorem CV_xw {f : FuncId} {e : Array Value → Sem Value} [he : EntersX f e] {args : Array Value} {w w' : World} {v : Value} {K : Value → World → Prop} (h : (e args).run Tryz.prog w = .ok v w') (hk : K v w') : CV (.func (.func f) #[] #[]) args w K := by
  have : (callSem (.func (.func f) #[] #[]) args).run Tryz.prog w = .ok (.value v) w' := by
    simp only [callSem, Deferred.ofValue, pure_bind, invoke]
    have hh := he.h (#[] ++ args ++ #[]) w
    simp only [Array.empty_append, Array.append_empty] at hh ⊢
    rw [hh]
    simp only [Sem.run_bind, h, Result.andThen_ok]
    rfl
  unfold CV CallV
  rw [this]
  exact hk
theorem growFresh {b : Nat} {p : Option Addr} {n : Nat} {z : Z} {w : World} (hp : p = none ∨ p = some ⟨b, 0, none⟩) (hn : n ≤ room) :
    Fn 261 #[.pointer (some ⟨b, 0, none⟩), .int .i64 n] z [(b, buO p (.slice none 0 0))] w fun _ B' r => BuOk b B' [] ∧ r = .tuple #[] := Fn.intro fun hS => en261 (by
  unfold vc261
  simp only [room] at hn
  haveI : InI ((2 : Int) * ((0 : Nat) : Int)) := ⟨by omega⟩
  haveI : InI ((2 : Int) * ((0 : Nat) : Int) + (n : Int)) := ⟨by omega⟩
  (repeat (first | (refine iDr ?_; intro _ _) | refine V_run ?_ | refine PV_run ?_ | refine HV_run ?_ | refine iV_ld1 ?_ | refine iV_ldN ?_ | (refine iV_bx ?_; intro _ _ _ _) | (refine iV_al ?_; intro _ _ _ _) | (refine iV_mm ?_; intro _ _ _ _) | (refine iU_st ?_; intro _ _) | refine iHV_1 ?_ | refine iHV_N ?_ | refine iRI_1 ?_ | refine iRI_N ?_ | refine Cond_t ?_ | refine Cond_f ?_ | refine JB ?_ | (refine JC ?_; intro _ _ _ _) | (refine J1 ?_; intro _ _) | (refine J0 ?_; intro _ _) | (refine J2 ?_; intro _ _) | (refine J3 ?_; intro _ _) | (refine J4 ?_; intro _ _) | refine K1 ?_ | refine K0 ?_ | refine K2 ?_ | refine K3 ?_ | refine K4 ?_ | (refine CV_pu ?_; intro _ _ _ _) | refine fV_ldN ?_ | refine fV_ld1 ?_ | refine fHV_ldN ?_ | refine fHV_ld1 ?_ | refine NilW_some ?_ | refine iCW_1 ?_ | refine iCW_N ?_ | refine Pk_b ?_))
  rename_i w1 hS1
  obtain ⟨cs, hr, h1, h2⟩ := Lib.run_makeNoZero (P := Tryz.prog) w1 #[3] 55 5 (by kernel_rfl) n (by omega)
  rw [show (2 : Int) * ((0 : Nat) : Int) + (n : Int) = n by omega]
  refine CV_xw (e := Extern.BytealgMakeNoZero.makeNoZero #[3] #[55]) hr ?_
  have hS2 : Res w z [(b, buO p (.slice none 0 0))] (w1.drew.drew.alloc (.cells cs 5)) z [(w1.heap.size, .cells cs.toList.toArray 5 (0, 0)), (b, buO p (.slice none 0 0))] := by
    have := Res.new (Res.drew (Res.drew hS1)) (.cells cs.toList.toArray 5 (0, 0))
    rw [Array.toArray_toList] at this ⊢
    exact this
  clear hS hS1
  haveI : InR ((0 : Nat) : Int) ((cs.size : Int) + 1) := ⟨by omega, by omega⟩
  (repeat (first | (refine iDr ?_; intro _ _) | refine V_run ?_ | refine PV_run ?_ | refine HV_run ?_ | refine iV_ld1 ?_ | refine iV_ldN ?_ | (refine iV_bx ?_; intro _ _ _ _) | (refine iV_al ?_; intro _ _ _ _) | (refine iV_mm ?_; intro _ _ _ _) | (refine iU_st ?_; intro _ _) | refine iHV_1 ?_ | refine iHV_N ?_ | refine iRI_1 ?_ | refine iRI_N ?_ | refine Cond_t ?_ | refine Cond_f ?_ | refine JB ?_ | (refine JC ?_; intro _ _ _ _) | (refine J1 ?_; intro _ _) | (refine J0 ?_; intro _ _) | (refine J2 ?_; intro _ _) | (refine J3 ?_; intro _ _) | (refine J4 ?_; intro _ _) | refine K1 ?_ | refine K0 ?_ | refine K2 ?_ | refine K3 ?_ | refine K4 ?_ | (refine CV_pu ?_; intro _ _ _ _) | refine fV_ldN ?_ | refine fV_ld1 ?_ | refine fHV_ldN ?_ | refine fHV_ld1 ?_ | refine NilW_some ?_ | refine iCW_1 ?_ | refine iCW_N ?_ | refine Pk_b ?_))
  refine ⟨_, _, run_copy_nil Tryz.prog _ 55 55 3 5 _ _ _ (by kernel_rfl) (by kernel_rfl), ?_⟩
  (repeat (first | (refine iDr ?_; intro _ _) | refine V_run ?_ | refine PV_run ?_ | refine HV_run ?_ | refine iV_ld1 ?_ | refine iV_ldN ?_ | (refine iV_bx ?_; intro _ _ _ _) | (refine iV_al ?_; intro _ _ _ _) | (refine iV_mm ?_; intro _ _ _ _) | (refine iU_st ?_; intro _ _) | refine iHV_1 ?_ | refine iHV_N ?_ | refine iRI_1 ?_ | refine iRI_N ?_ | refine Cond_t ?_ | refine Cond_f ?_ | refine JB ?_ | (refine JC ?_; intro _ _ _ _) | (refine J1 ?_; intro _ _) | (refine J0 ?_; intro _ _) | (refine J2 ?_; intro _ _) | (refine J3 ?_; intro _ _) | (refine J4 ?_; intro _ _) | refine K1 ?_ | refine K0 ?_ | refine K2 ?_ | refine K3 ?_ | refine K4 ?_ | (refine CV_pu ?_; intro _ _ _ _) | refine fV_ldN ?_ | refine fV_ld1 ?_ | refine fHV_ldN ?_ | refine fHV_ld1 ?_ | refine NilW_some ?_ | refine iCW_1 ?_ | refine iCW_N ?_ | refine Pk_b ?_))
  rename_i hSe
  refine ⟨_, _, hSe.bringB b, ⟨_, _, _, rfl, hp, ?_⟩, rfl⟩
  refine ⟨rfl, .inr ⟨_, _, cs.toList, rfl, rfl, Nat.zero_le _, h2 (by simp only [maxLen]; omega), by simp⟩⟩)
end Go.Proofs.YtbeelfopmkbllaaGreatDoor
end

section
/- strings.Builder: Grow of a fresh one, as it is called. -/
set_option linter.unusedVariables false
set_option maxRecDepth 20000
namespace Go.Proofs.YtbeelfopmkbllaaGreatDoor
open Go Q Go.RowKit

theorem growB {b : Nat} {p : Option Addr} {n : Int} {z : Z} {w : World} (hp : p = none ∨ p = some ⟨b, 0, none⟩) (h0 : 0 ≤ n) (hn : n ≤ 140737488355328) :
    Fn 235 #[.pointer (some ⟨b, 0, none⟩), .int .i64 n] z [(b, buO p (.slice none 0 0))] w fun _ B' r => BuOk b B' [] ∧ r = .tuple #[] := Fn.intro fun hS => en235 (by
  unfold vc235
  refine CV_fn (B := [(b, buO p (.slice none 0 0))]) (F := []) (by simpa using hS) (copyCheck hp) (by simp) ?_
  rintro z1 B1 w1 v1 hz1 hS1 ⟨rfl, rfl⟩
  rw [List.append_nil] at hS1
  clear hS
  haveI : InI (((0 : Nat) : Int) - ((0 : Nat) : Int)) := ⟨by omega⟩
  (repeat (first | (refine iDr ?_; intro _ _) | refine V_run ?_ | refine PV_run ?_ | refine HV_run ?_ | refine iV_ld1 ?_ | refine iV_ldN ?_ | (refine iV_bx ?_; intro _ _ _ _) | (refine iV_al ?_; intro _ _ _ _) | (refine iV_mm ?_; intro _ _ _ _) | (refine iU_st ?_; intro _ _) | refine iHV_1 ?_ | refine iHV_N ?_ | refine iRI_1 ?_ | refine iRI_N ?_ | refine Cond_t ?_ | refine Cond_f ?_ | refine JB ?_ | (refine JC ?_; intro _ _ _ _) | (refine J1 ?_; intro _ _) | (refine J0 ?_; intro _ _) | (refine J2 ?_; intro _ _) | (refine J3 ?_; intro _ _) | (refine J4 ?_; intro _ _) | refine K1 ?_ | refine K0 ?_ | refine K2 ?_ | refine K3 ?_ | refine K4 ?_ | (refine CV_pu ?_; intro _ _ _ _) | refine fV_ldN ?_ | refine fV_ld1 ?_ | refine fHV_ldN ?_ | refine fHV_ld1 ?_ | refine NilW_some ?_ | refine iCW_1 ?_ | refine iCW_N ?_ | refine Pk_b ?_))
  refine Cond_d (fun h => ?_) (fun h => ?_)
  · omega
  (repeat (first | (refine iDr ?_; intro _ _) | refine V_run ?_ | refine PV_run ?_ | refine HV_run ?_ | refine iV_ld1 ?_ | refine iV_ldN ?_ | (refine iV_bx ?_; intro _ _ _ _) | (refine iV_al ?_; intro _ _ _ _) | (refine iV_mm ?_; intro _ _ _ _) | (refine iU_st ?_; intro _ _) | refine iHV_1 ?_ | refine iHV_N ?_ | refine iRI_1 ?_ | refine iRI_N ?_ | refine Cond_t ?_ | refine Cond_f ?_ | refine JB ?_ | (refine JC ?_; intro _ _ _ _) | (refine J1 ?_; intro _ _) | (refine J0 ?_; intro _ _) | (refine J2 ?_; intro _ _) | (refine J3 ?_; intro _ _) | (refine J4 ?_; intro _ _) | refine K1 ?_ | refine K0 ?_ | refine K2 ?_ | refine K3 ?_ | refine K4 ?_ | (refine CV_pu ?_; intro _ _ _ _) | refine fV_ldN ?_ | refine fV_ld1 ?_ | refine fHV_ldN ?_ | refine fHV_ld1 ?_ | refine NilW_some ?_ | refine iCW_1 ?_ | refine iCW_N ?_ | refine Pk_b ?_))
  have hS2 := ‹Res w z _ _ _ _›
  refine Cond_d (fun h => ?_) (fun h => ?_)
  · obtain ⟨m, rfl⟩ : ∃ m : Nat, n = m := ⟨n.toNat, by omega⟩
    refine CV_fn (B := [(b, buO (some ⟨b, 0, none⟩) (.slice none 0 0))]) (F := []) (by simpa using hS2) (growFresh (n := m) (.inr rfl) (by simp only [room]; omega)) (by simp) ?_
    rintro z3 B3 w3 v3 hz3 hS3 ⟨hB3, rfl⟩
    rw [List.append_nil] at hS3
    exact ⟨_, _, hS3, hB3, rfl⟩
  · exact ⟨_, _, hS2, ⟨_, _, [], rfl, .inr rfl, OwnSl.nil⟩, rfl⟩)
end Go.Proofs.YtbeelfopmkbllaaGreatDoor
end

section
/- strings.Replace at one byte. -/
set_option linter.unusedVariables false
set_option maxRecDepth 20000
namespace Go.Proofs.YtbeelfopmkbllaaGreatDoor
open Go Q Go.RowKit

/-- The first occurrences of a byte, replaced. -/
def replL (c : UInt8) (t : List UInt8) : Nat → List UInt8 → List UInt8
  | _, [] => []
  | 0, l => l
  | k + 1, x :: l => if x = c then t ++ replL c t k l else x :: replL c t (k + 1) l
def replK (s : ByteArray) (c : UInt8) (n : Int) : Nat := if n < 0 then (bytes s).count c else min n.toNat ((bytes s).count c)
def replB (s : ByteArray) (c : UInt8) (t : ByteArray) (n : Int) : ByteArray := ⟨(replL c (bytes t) (replK s c n) (bytes s)).toArray⟩
theorem replL_zero (c : UInt8) (t l : List UInt8) : replL c t 0 l = l := by cases l <;> rfl
theorem replL_step {c : UInt8} {t : List UInt8} {k : Nat} : ∀ {l : List UInt8} {i : Nat}, l.findIdx? (· == c) = some i → replL c t (k + 1) l = l.take i ++ t ++ replL c t k (l.drop (i + 1))
  | [], i, h => by cases h
  | x :: l, i, h => by
    rw [List.findIdx?_cons] at h
    by_cases hx : x = c
    · subst hx
      simp at h
      subst h
      simp [replL]
    · have hx' : (x == c) = false := by simpa using hx
      rw [hx'] at h
      simp only [Bool.false_eq_true, if_false, Option.map_eq_some_iff] at h
      obtain ⟨j, h1, rfl⟩ := h
      simp only [replL, if_neg hx]
      rw [replL_step h1]
      simp
theorem replL_len {c : UInt8} {t : List UInt8} : ∀ (l : List UInt8) (k : Nat), (replL c t k l).length ≤ l.length + k * t.length
  | [], k => by simp [replL]
  | x :: l, 0 => by rw [replL_zero]; simp
  | x :: l, k + 1 => by
    simp only [replL]
    split
    · have := replL_len (c := c) (t := t) l k
      rw [List.length_append, List.length_cons, Nat.add_mul, Nat.one_mul]; omega
    · have := replL_len (c := c) (t := t) l (k + 1)
      simp only [List.length_cons]; omega
theorem bytes_extract (s : ByteArray) (i j : Nat) : bytes (s.extract i j) = ((bytes s).drop i).take (j - i) := by
  show (s.extract i j).data.toList = _
  rw [ByteArray.data_extract, Array.toList_extract, List.extract_eq_take_drop]
theorem bytes_from (s : ByteArray) (i : Nat) : bytes (s.extract i s.size) = (bytes s).drop i := by
  rw [bytes_extract, List.take_of_length_le (by simp)]
theorem strCells_from (s : ByteArray) (i : Nat) : Lib.strCells (s.extract i s.size) = Lib.byteCells ((bytes s).drop i) := by
  rw [Lib.strCells_eq]; exact congrArg _ (bytes_from s i)
instance {t : Nat} {s : ByteArray} {l h : Int} {k k' : IntKind} [g : TyStr t] [hl : InR l (h + 1)] [hr : InR h (s.size + 1)] : Run (sl t (.string s) (some (.int k l)) (some (.int k' h)) none) (.string (s.extract l.toNat h.toNat)) := ⟨fun w => by
  have h1 : h ≤ s.size := by have := hr.h1; omega
  have h2 : l ≤ h := by have := hl.h1; omega
  have h3 : l.toNat ≤ h.toNat := by omega
  have h4 : (l.toNat : Int) ≤ (h.toNat : Int) := by omega
  have h5 : (h.toNat : Int) = h := by have := hr.h0; omega
  simp only [sl, Instr.sliceAt, Sem.run_bind, g.und, Result.andThen_ok, Instr.slice, Instr.sliceBounds, run_pure, Instr.sliceBound, asIntOf, pure_bind, hr.h0, hl.h0, h1, h2, h3, h4, h5, and_self, if_true, Option.isSome_none, Bool.false_eq_true, if_false]⟩
theorem findIdx_count {c : UInt8} {l : List UInt8} (h : 0 < l.count c) : ∃ j, l.findIdx? (· == c) = some j ∧ j < l.length ∧ (l.drop (j + 1)).count c + 1 = l.count c := by
  induction l with
  | nil => simp at h
  | cons x l ih =>
    rw [List.findIdx?_cons]
    by_cases hx : x = c
    · subst hx; exact ⟨0, by simp, by simp, by simp⟩
    · have hx' : (x == c) = false := by simpa using hx
      rw [List.count_cons, hx'] at h
      obtain ⟨j, h1, h2, h3⟩ := ih (by simpa using h)
      exact ⟨j + 1, by rw [hx', h1]; rfl, by simpa using h2, by rw [List.count_cons, hx']; simpa using h3⟩
/-- What Replace is asked here. -/
class RepOk (s : ByteArray) (c : UInt8) (t : ByteArray) (n : Int) : Prop where
  ne : b1 c ≠ t
  n0 : n ≠ 0
  sz : s.size + (bytes s).count c * t.size ≤ 140737488355328
instance {s : ByteArray} {c : UInt8} {t : ByteArray} {n : Int} [h : RepOk s c t n] : Pu 236 #[.string s, .string (b1 c), .string t, .int .i64 n] (.string (replB s c t n)) := ⟨fun z w => Fn1.intro fun hS => en236 (by
  unfold vc236
  (repeat (first | refine V_run ?_ | refine JB ?_))
  refine Cond_b (fun h1 => ?_) (fun h1 => ?_)
  · have := h.ne; have := h.n0; simp_all
  skip
  intro K hK
  have hc0 : (bytes s).count c ≤ s.size := by rw [size_bytes]; exact List.count_le_length
  have hsz := h.sz
  have main : ∀ (k : Nat) z3 w3, Le z z3 → Res w z [] w3 z3 [] → 0 < k → k ≤ (bytes s).count c → k = replK s c n → K [.int .i64 k] w3 := by
    intro k z3 w3 hz3 hS3 hk0 hkc hk
    refine hK _ _ fun _ => ?_
    have hkt : k * t.size ≤ (bytes s).count c * t.size := Nat.mul_le_mul_right _ hkc
    have hmul : (k : Int) * ((t.size : Int) - 1) = ((k * t.size : Nat) : Int) - k := by rw [Int.mul_sub, Int.mul_one]; simp
    haveI : InI ((t.size : Int) - 1) := ⟨by
      have : 1 * t.size ≤ k * t.size := Nat.mul_le_mul_right _ hk0
      omega⟩
    haveI : InI ((k : Int) * ((t.size : Int) - 1)) := ⟨by rw [hmul]; omega⟩
    haveI : InI ((s.size : Int) + (k : Int) * ((t.size : Int) - 1)) := ⟨by rw [hmul]; omega⟩
    clear hS
    (repeat (first | refine V_run ?_ | (refine iV_bx ?_; intro _ _ _ _)))
    rename_i b w4 hb hS4
    refine CV_fn (B := [(b, buO none (.slice none 0 0))]) (F := []) (by simpa using hS4) (growB (n := (s.size : Int) + (k : Int) * ((t.size : Int) - 1)) (.inl rfl) (by rw [hmul]; omega) (by rw [hmul]; omega)) (by simp) ?_
    rintro z5 B5 w5 v5 hz5 hS5 ⟨hB5, rfl⟩
    rw [List.append_nil] at hS5
    clear hS3 hS4
    intro K0 hK0
    have fin0 : ∀ (st : Nat) (ys : List UInt8) z6 w6 B6, Res w z [] w6 z6 B6 → BuOk b B6 (Lib.byteCells ys) → st ≤ s.size → replL c (bytes t) k (bytes s) = ys ++ (bytes s).drop st → K0 [.int .i64 st] w6 := by
      intro st ys z6 w6 B6 hS6 hB6 hst hys
      refine hK0 _ _ fun _ => ?_
      haveI : InR (st : Int) (s.size + 1) := ⟨by omega, by omega⟩
      clear hS5
      (repeat (refine V_run ?_))
      have hlen := replL_len (c := c) (t := bytes t) (bytes s) k
      rw [← size_bytes, ← size_bytes] at hlen
      have hly : ys.length + (s.size - st) ≤ 140737488355328 := by
        rw [hys, List.length_append, List.length_drop, ← size_bytes] at hlen
        omega
      refine CV_fn (B := B6) (F := []) (by simpa using hS6) (writeString hB6 (by
        rw [Lib.byteCells_length, size_bytes, bytes_from]; simp only [List.length_drop, room]; rw [← size_bytes]; omega)) (by simp) ?_
      rintro z7 B7 w7 v7 hz7 hS7 ⟨hB7, rfl⟩
      rw [List.append_nil] at hS7
      rw [strCells_from, ← Lib.byteCells_append] at hB7
      rw [← hys] at hB7
      refine CV_fn (B := B7) (F := []) (by simpa using hS7) (builderString hB7 (by simp only [room]; omega)) (by simp) ?_
      rintro z8 B8 w8 v8 hz8 hS8 ⟨rfl, rfl⟩
      exact ⟨_, _, hS8, by rw [replB, hk]⟩
    (repeat (first | refine V_run ?_ | refine Cond_t ?_))
    refine LoopG2 (fun (p : Nat × Nat × List UInt8) x y w' => x = .int .i64 p.2.1 ∧ y = .int .i64 p.1 ∧ p.1 ≤ k ∧ p.2.1 ≤ s.size ∧ replL c (bytes t) k (bytes s) = p.2.2 ++ replL c (bytes t) (k - p.1) ((bytes s).drop p.2.1) ∧ k - p.1 ≤ ((bytes s).drop p.2.1).count c ∧ ∃ z' B', Res w z [] w' z' B' ∧ BuOk b B' (Lib.byteCells p.2.2)) (fun p => k - p.1) (0, 0, []) ⟨rfl, rfl, Nat.zero_le _, Nat.zero_le _, rfl, by simpa using hkc, _, _, hS5, hB5⟩ ?_
    rintro I M ⟨i, st, ys⟩ x y w6 m ⟨rfl, rfl, h2, h3, h4, h5, z6, B6, hS6, hB6⟩ back
    simp only at h2 h3 h4 h5 hB6
    clear hS5
    (repeat (refine V_run ?_))
    refine Cond_d (fun hi => ?_) (fun hi => ?_)
    · have hcnt : 0 < ((bytes s).drop st).count c := by omega
      obtain ⟨j, hj1, hj2, hj3⟩ := findIdx_count hcnt
      have hjl : st + j < s.size := by rw [List.length_drop, ← size_bytes] at hj2; omega
      have hf : fidx (fun x => x == c) (bytes (s.extract (st : Int).toNat s.size)) = (j : Int) := by
        rw [Int.toNat_natCast, bytes_from]; unfold fidx; rw [hj1]
      haveI : InR (st : Int) (s.size + 1) := ⟨by omega, by omega⟩
      haveI : InI ((st : Int) + (j : Int)) := ⟨by omega⟩
      haveI : InI ((st : Int) + (j : Int) + 1) := ⟨by omega⟩
      haveI : InI ((i : Int) + 1) := ⟨by omega⟩
      haveI : InR (st : Int) ((st : Int) + (j : Int) + 1) := ⟨by omega, by omega⟩
      haveI : InR ((st : Int) + (j : Int)) (s.size + 1) := ⟨by omega, by omega⟩
      (repeat (first | refine V_run ?_ | (refine CV_pu ?_; intro _ _ _ _)))
      rw [hf]
      (repeat (refine V_run ?_))
      rename_i z7 w7 hz7 hS7
      clear hS6
      dsimp only
      have hk1 : k - i = (k - (i + 1)) + 1 := by omega
      rw [hk1, replL_step hj1, List.drop_drop, show st + (j + 1) = st + j + 1 by omega] at h4
      have hlen := replL_len (c := c) (t := bytes t) (bytes s) k
      rw [← size_bytes, ← size_bytes, h4, List.length_append, List.length_append, List.length_append] at hlen
      have ht1 : bytes (s.extract (st : Int).toNat ((st : Int) + (j : Int)).toNat) = ((bytes s).drop st).take j := by
        rw [bytes_extract, show (st : Int).toNat = st by omega, show ((st : Int) + (j : Int)).toNat - st = j by omega]
      have hsz1 : (s.extract (st : Int).toNat ((st : Int) + (j : Int)).toNat).size = (((bytes s).drop st).take j).length := by rw [size_bytes, ht1]
      have htl : (bytes t).length = t.size := (size_bytes t).symm
      refine CV_fn (B := B6) (F := []) (by simpa using hS7) (writeString hB6 (by rw [Lib.byteCells_length, hsz1]; simp only [room]; omega)) (by simp) ?_
      rintro z8 B8 w8 v8 hz8 hS8 ⟨hB8, rfl⟩
      rw [List.append_nil] at hS8
      rw [Lib.strCells_eq, show (s.extract (st : Int).toNat ((st : Int) + (j : Int)).toNat).data.toList = _ from ht1, ← Lib.byteCells_append] at hB8
      refine CV_fn (B := B8) (F := []) (by simpa using hS8) (writeString (s := t) hB8 (by rw [Lib.byteCells_length, List.length_append]; simp only [room]; omega)) (by simp) ?_
      rintro z9 B9 w9 v9 hz9 hS9 ⟨hB9, rfl⟩
      rw [List.append_nil] at hS9
      rw [Lib.strCells_eq, ← Lib.byteCells_append] at hB9
      clear hS7 hS8
      (repeat (refine V_run ?_))
      refine back (i + 1, st + j + 1, ys ++ ((bytes s).drop st).take j ++ bytes t) _ _ _ ⟨by simp, by simp, by simp only; omega, by simp only; omega, ?_, ?_, _, _, hS9, hB9⟩ (by simp only; omega)
      · simp only
        rw [h4]
        simp only [List.append_assoc]
      · simp only
        rw [List.drop_drop, show st + (j + 1) = st + j + 1 by omega] at hj3
        omega
    · exact fin0 st ys _ _ _ hS6 hB6 h3 (by rw [h4, show k - i = 0 by omega, replL_zero])
  refine CV_pu ?_
  intro z3 w3 hz3 hS3
  clear hS
  refine V_run ?_
  refine Cond_d (fun h2 => ?_) (fun h2 => ?_)
  · refine ⟨_, _, hS3, ?_⟩
    have h0 : (bytes s).count c = 0 := by omega
    have hk : replK s c n = 0 := by unfold replK; rw [h0]; split <;> simp
    rw [replB, hk, replL_zero]
  · have hpos : 0 < (bytes s).count c := by omega
    have hn0 := h.n0
    (repeat (first | refine V_run ?_ | refine JB ?_))
    refine Cond_b (fun h3 => ?_) (fun h3 => ?_)
    · refine main _ _ _ hz3 hS3 hpos (Nat.le_refl _) ?_
      unfold replK
      by_cases hn : n < 0
      · rw [if_pos hn]
      · rw [decide_eq_false hn] at h3; simp only [cond_false, decide_eq_true_eq, decide_eq_false_iff_not] at h3
        rw [if_neg hn]; omega
    · by_cases hn : n < 0
      · simp [hn] at h3
      · rw [decide_eq_false hn] at h3; simp only [cond_false, decide_eq_true_eq, decide_eq_false_iff_not] at h3
        obtain ⟨m, rfl⟩ : ∃ m : Nat, n = m := ⟨n.toNat, by omega⟩
        exact main m _ _ hz3 hS3 (by omega) (by omega) (by unfold replK; rw [if_neg hn]; omega))⟩
end Go.Proofs.YtbeelfopmkbllaaGreatDoor
end

section
/- Numbers with an exponent; kinds of symbols. -/
set_option linter.unusedVariables false
set_option maxRecDepth 20000
namespace Go.Proofs.YtbeelfopmkbllaaGreatDoor
open Go Q Go.RowKit

theorem extract_size (s : ByteArray) (i j : Nat) : (s.extract i j).size ≤ s.size := by rw [ByteArray.size_extract]; omega
def headE (s : ByteArray) : ByteArray := s.extract 0 (cutAt s 69).toNat
def tailE (s : ByteArray) : ByteArray := s.extract ((cutAt s 69).toNat + 1) s.size
/-- A number with an exponent that has a sign. -/
def expB (s : ByteArray) : Bool := decide (0 ≤ cutAt s 69) && (decide (2 ≤ (tailE s).size) && ((decide (bt (tailE s) 0 = 43) || decide (bt (tailE s) 0 = 45)) && (decide ((bytes (headE s)).count 46 < 2) && (digitsB (replB (headE s) 46 ⟨#[]⟩ 1) && digitsB ((tailE s).extract 1 (tailE s).size)))))
class Short (s : ByteArray) : Prop where
  h : s.size ≤ 1000000
instance {s : ByteArray} [h : Short s] : Sm s := ⟨by have := h.h; simp only [big]; omega⟩
instance {s : ByteArray} {i j : Nat} [h : Short s] : Short (s.extract i j) := ⟨Nat.le_trans (extract_size s i j) h.h⟩
instance {s : ByteArray} [h : Short s] : Short (headE s) := inferInstanceAs (Short (s.extract _ _))
instance {s : ByteArray} [h : Short s] : Short (tailE s) := inferInstanceAs (Short (s.extract _ _))
instance {s : ByteArray} [h : Short s] : RepOk s 46 ⟨#[]⟩ 1 := ⟨by intro e; have := congrArg ByteArray.size e; exact absurd this (by decide), by decide, by have := h.h; show s.size + (bytes s).count 46 * 0 ≤ _; omega⟩
instance {s : ByteArray} [h : Short s] : Short (replB s 46 ⟨#[]⟩ 1) := ⟨by
  have := replL_len (c := 46) (t := []) (bytes s) (replK s 46 1)
  have h2 := h.h
  rw [size_bytes]
  show (replL 46 [] (replK s 46 1) (bytes s)).toArray.toList.length ≤ _
  simp at this ⊢
  omega⟩
instance {s : ByteArray} [hs : Short s] : Pu 222 #[.string s] (.bool (expB s)) := ⟨fun z w => Fn1.intro fun hS => en222 (by
  unfold vc222
  refine CV_pu ?_
  intro z1 w1 hz1 hS1
  clear hS
  unfold cutV
  by_cases hc : 0 ≤ cutAt s 69
  · rw [if_pos hc, show s.extract 0 (cutAt s 69).toNat = headE s from rfl, show s.extract ((cutAt s 69).toNat + 1) s.size = tailE s from rfl]
    (repeat (first | refine V_run ?_ | refine JB ?_ | (refine J1 ?_; intro _ _)))
    refine Cond_b (fun h1 => ?_) (fun h1 => ?_)
    · have h2 : ¬ 2 ≤ (tailE s).size := by simp at h1; omega
      (repeat (first | refine Cond_t ?_ | refine K1 ?_))
      exact ⟨_, _, ‹_›, by simp [expB, h2]⟩
    · have h2 : 2 ≤ (tailE s).size := by simp at h1; omega
      haveI : InStr (tailE s) 0 := ⟨by decide, by omega⟩
      haveI : InR (1 : Int) ((tailE s).size + 1) := ⟨by decide, by omega⟩
      (repeat (first | refine V_run ?_ | refine JB ?_ | refine K1 ?_))
      refine Cond_b (fun h3 => ?_) (fun h3 => ?_)
      · refine ⟨_, _, ‹_›, ?_⟩
        rw [expB, decide_eq_true hc, decide_eq_true h2]
        revert h3
        cases decide (bt (tailE s) 0 = 43) <;> cases decide (bt (tailE s) 0 = 45) <;> simp
      · (repeat (first | refine V_run ?_ | (refine JC ?_; intro _ _ _ _) | (refine CV_pu ?_; intro _ _ _ _)))
        refine ⟨_, _, ‹_›, ?_⟩
        rw [expB, decide_eq_true hc, decide_eq_true h2]
        rw [show decide ((((bytes (headE s)).count 46 : Nat) : Int) < 2) = decide ((bytes (headE s)).count 46 < 2) from decide_eq_decide.2 (by omega), show (Int.toNat 1) = 1 from rfl]
        revert h3
        cases decide (bt (tailE s) 0 = 43) <;> cases decide (bt (tailE s) 0 = 45) <;> cases decide ((bytes (headE s)).count 46 < 2) <;> cases digitsB (replB (headE s) 46 ⟨#[]⟩ 1) <;> simp
  · rw [if_neg hc]
    (repeat (first | refine V_run ?_ | refine Cond_t ?_ | refine JB ?_ | (refine J1 ?_; intro _ _) | refine K1 ?_))
    exact ⟨_, _, ‹_›, by simp [expB, hc]⟩)⟩
/-- The kind of a symbol. -/
def symKind (s : ByteArray) : Int :=
  if !inB s.size 1 40 || (!((bytes s).all symC) && !expB s) then 0
  else if inB (bt s 0) 48 57 || decide (bt s 0 = 46) then 1
  else if (bytes s).count 46 = 0 then 2 else if (bytes s).count 46 = 1 ∧ lastB s 46 = true then 3 else 4
instance {s : ByteArray} : Pu 156 #[.string s] (.int .i64 (symKind s)) := ⟨fun z w => Fn1.intro fun hS => en156 (by
  unfold vc156
  (repeat (first | refine V_run ?_ | (refine CV_pu ?_; intro _ _ _ _)))
  intro K hK
  have main : ∀ (c : Bool) z3 w3, Le z z3 → Res w z [] w3 z3 [] → c = (!inB s.size 1 40 || (!((bytes s).all symC) && !expB s)) → K [.bool c] w3 := by
    intro c z3 w3 hz3 hS3 hc
    refine hK _ _ fun _ => ?_
    clear hS
    refine Cond_b (fun h => ?_) (fun h => ?_)
    · exact ⟨_, _, hS3, by rw [symKind, ← hc, if_pos h]⟩
    · have hin : inB s.size 1 40 = true := by rw [h] at hc; cases hh : inB s.size 1 40 with
        | true => rfl
        | false => rw [hh] at hc; simp at hc
      have hin' := inB_iff.1 hin
      haveI : InStr s 0 := ⟨by decide, by omega⟩
      haveI : Short s := ⟨by omega⟩
      (repeat (first | refine V_run ?_ | refine JB ?_ | (refine CV_pu ?_; intro _ _ _ _)))
      have hw : IntKind.i64.wrap (bt s 0) = bt s 0 := wrap_in (by have := bt_range s 0; unfold inI; omega)
      rw [hw]
      have hnot : ¬ ((!inB s.size 1 40 || (!((bytes s).all symC) && !expB s)) = true) := by rw [← hc, h]; simp
      refine Cond_b (fun h4 => ?_) (fun h4 => ?_)
      · refine ⟨_, _, ‹_›, ?_⟩
        rw [symKind, if_neg hnot, if_pos (by revert h4; cases inB (bt s 0) 48 57 <;> simp)]
      · have h5 : ¬ ((inB (bt s 0) 48 57 || decide (bt s 0 = 46)) = true) := by revert h4; cases inB (bt s 0) 48 57 <;> simp
        (repeat (refine V_run ?_))
        refine Cond_d (fun h6 => ?_) (fun h6 => ?_)
        · exact ⟨_, _, ‹_›, by rw [symKind, if_neg hnot, if_neg h5, if_pos (by omega)]⟩
        · (repeat (first | refine V_run ?_ | (refine JC ?_; intro _ _ _ _)))
          refine Cond_b (fun h7 => ?_) (fun h7 => ?_)
          · refine ⟨_, _, ‹_›, ?_⟩
            have h8 : (bytes s).count 46 = 1 ∧ lastB s 46 = true := by
              by_cases e : (bytes s).count 46 = 1
              · rw [decide_eq_true (by omega)] at h7; exact ⟨e, h7⟩
              · rw [decide_eq_false (by omega)] at h7; cases h7
            rw [symKind, if_neg hnot, if_neg h5, if_neg (by omega), if_pos h8]
          · refine ⟨_, _, ‹_›, ?_⟩
            have h8 : ¬ ((bytes s).count 46 = 1 ∧ lastB s 46 = true) := by
              rintro ⟨e, e2⟩
              rw [decide_eq_true (by omega), e2] at h7; cases h7
            rw [symKind, if_neg hnot, if_neg h5, if_neg (by omega), if_neg h8]
  refine Cond_n (fun h => ?_) (fun h => ?_)
  · exact main _ _ _ (by (repeat (assumption))) ‹_› (by rw [h]; rfl)
  · have hin' := inB_iff.1 h
    haveI : Short s := ⟨by omega⟩
    refine V_cvb (by simp only [big]; omega) ?_
    intro z5 w5 v5 hz5 hS5 hv
    refine CV_1 (fam1 (E := El.byte) (p := symC) hv (fun z' w' cs x _ _ hr => ?_)) ?_
    · cases hr
      exact (inferInstance : PuV (.func (.func 220) #[] #[]) #[.int .u8 x.toNat] (.bool (symC x))).h z' w'
    · rintro z6 w6 v6 hle6 hS6 rfl
      (repeat (first | refine V_run ?_ | (refine JC ?_; intro _ _ _ _)))
      rename_i hSe
      exact main _ _ _ (by (repeat (exact Res.zle (by assumption)))) hSe (by rw [h]; cases (bytes s).all symC <;> cases expB s <;> rfl))⟩
/-- A symbol of a variable. -/
def varB (s : ByteArray) : Bool := decide (symKind s > 1)
instance {s : ByteArray} : Pu 153 #[.string s] (.bool (varB s)) := ⟨fun z w => Fn1.intro fun hS => en153 (by
  unfold vc153
  (repeat (first | refine V_run ?_ | (refine CV_pu ?_; intro _ _ _ _)))
  exact ⟨_, _, ‹_›, rfl⟩)⟩
end Go.Proofs.YtbeelfopmkbllaaGreatDoor
end

section
/- Calls that read frozen memory; maps whose keys are strings or whole numbers. -/
set_option linter.unusedVariables false
set_option linter.unusedSimpArgs false
set_option linter.unusedSectionVars false
set_option maxRecDepth 20000
set_option synthInstance.maxHeartbeats 400000
set_option synthInstance.maxSize 2000
namespace Go.Proofs.YtbeelfopmkbllaaGreatDoor
open Go Q Go.RowKit

/-- A call that has one value where memory holds what is frozen in z0. -/
class PuZ (z0 : Z) (f : FuncId) (args : Array Value) (v : outParam Value) : Prop where
  h : ∀ z w, Le z0 z → Fn1 f args z w fun _ v' => v' = v
section
variable {w0 w w' : World} {z0 z z' : Z} {B0 B B' L F : Bl} {b : Nat} {o : Obj} {C : Obj → Bl} {x y : Bool}
theorem CV_puz {K : Value → World → Prop} [hS : Res w0 z0 B0 w z L] {f : FuncId} [Enters f] {args : Array Value} {v : Value} [g : PuZ z0 f args v] (hk : ∀ z' w', Le z z' → Res w0 z0 B0 w' z' L → K v w') : CV (.func (.func f) #[] #[]) args w K :=
  CV_fn1 hS (g.h z w hS.zle) (by simp) fun z' w' v' h1 h2 h3 => by subst h3; exact hk z' w' h1 h2
instance (priority := 900) PC.callz {f : FuncId} {args : Array Value} {v : Value} {G : (List Value → World → Prop) → Value → World → Prop} [hS : Res w0 z0 B0 w z L] [Enters f] [g : PuZ z0 f args v] [h : ∀ q : Later w0 z0 B0 z L, PC (fun K => G K v q.w) w0 z0 B0 q.z' L x] :
    PC (fun K => CV (.func (.func f) #[] #[]) args w (G K)) w0 z0 B0 z L x := ⟨fun K hK => CV_puz fun z' w' hz hS' => (h ⟨z', w', hz, hS'⟩).h K fun z'' w'' hz' hS'' => hK z'' w'' (hz.trans hz') hS''⟩
theorem fRI_1 {A : Prop} [hS : Res w0 z0 B0 w z L] {t : TypeId} [g : TyOne t] {off : Nat} {v : Value} [h : Fz z0 b off [v]] (ha : A) : RunIs (ld t (.pointer (some ⟨b, off, none⟩))) w v ∧ A := ⟨run_ld1 ((h.h.mono hS.zle).world hS.sub), ha⟩
end

/-- A new variable, for a while. -/
structure Boxed (w0 : World) (z0 : Z) (B0 : Bl) (z : Z) (L : Bl) (t : TypeId) (vs : List Value) where
  b : Nat
  w : World
  res : Res w0 z0 B0 w z ((b, .cells vs.toArray t (0, 0)) :: L)
instance {w0 : World} {z0 z : Z} {B0 L : Bl} {t : TypeId} {vs : List Value} {q : Boxed w0 z0 B0 z L t vs} : Res w0 z0 B0 q.w z ((q.b, .cells vs.toArray t (0, 0)) :: L) := q.res
section
variable {w0 w w' : World} {z0 z z' : Z} {B0 B B' L F : Bl} {b : Nat} {o : Obj} {C : Obj → Bl} {x y : Bool}
instance PC.bx {t : TypeId} {v : Value} {vs : List Value} {G : (List Value → World → Prop) → Value → World → Prop} [hS : Res w0 z0 B0 w z L] [g : CellsOf v vs] [h : ∀ q : Boxed w0 z0 B0 z L t vs, PC (fun K => G K (.pointer (some ⟨q.b, 0, none⟩)) q.w) w0 z0 B0 z ((q.b, .cells vs.toArray t (0, 0)) :: L) x] :
    PC (fun K => V (bx t v) w (G K)) w0 z0 B0 z L x := ⟨fun K hK => V_bx (g := g) hS fun b w' _ hS' => (h ⟨b, w', hS'⟩).h K fun z'' w'' hz hS'' => hK z'' w'' hz (hS''.sublist (List.sublist_cons_self _ _))⟩
theorem PCk {F : (List Value → World → Prop) → Prop} [g : PC F w0 z0 B0 z L x] (h : x = y) : ∀ K : List Value → World → Prop, (∀ z' w', Le z z' → Res w0 z0 B0 w' z' L → K [.bool y] w') → F K := by subst h; exact g.h
/-- What a boolean function's continuation is, as a list's. -/
def Kof (R : Value → World → Prop) : List Value → World → Prop
  | [v], w => R v w
  | _, _ => False
end
instance {t u : Nat} {a b : Int} : Run (Builtin.max_ #[t, t] u #[.int .i64 a, .int .i64 b]) (.int .i64 (max a b)) := ⟨fun w => by
  have h : (if b > a then b else a) = max a b := by rw [Int.max_def]; split <;> split <;> omega
  simp only [Builtin.max_, List.foldlM_cons, List.foldlM_nil, Builtin.max2, h, pure_bind]
  rfl⟩
instance {t u : Nat} {a b : Int} : Run (Builtin.min_ #[t, t] u #[.int .i64 a, .int .i64 b]) (.int .i64 (min a b)) := ⟨fun w => by
  have h : (if b < a then b else a) = min a b := by rw [Int.min_def]; split <;> split <;> omega
  simp only [Builtin.min_, List.foldlM_cons, List.foldlM_nil, Builtin.min2, h, pure_bind]
  rfl⟩

instance {l : List Value} {v : Value} [g : Get l 0 v] : At1 l 0 v := ⟨by decide, g.h⟩
instance {l : List Value} {v : Value} [g : Get l 1 v] : At1 l 1 v := ⟨by decide, g.h⟩
instance {l : List Value} {v : Value} [g : Get l 2 v] : At1 l 2 v := ⟨by decide, g.h⟩
instance {l : List Value} {v : Value} [g : Get l 3 v] : At1 l 3 v := ⟨by decide, g.h⟩
instance {n : Nat} : InR 0 ((n + 1 : Nat) : Int) := ⟨by decide, by omega⟩
instance {n : Nat} : InR 1 ((n + 2 : Nat) : Int) := ⟨by decide, by omega⟩
instance {n : Nat} : InR 2 ((n + 3 : Nat) : Int) := ⟨by decide, by omega⟩
instance : InI (0 + 1) := ⟨by decide⟩
instance : InI (1 + 1) := ⟨by decide⟩
instance : InI (2 + 1) := ⟨by decide⟩

/-! ### Loops that leave the owned blocks as they are -/
section
variable {α : Type} {w0 w : World} {z0 z : Z} {B0 L : Bl}
theorem LoopR0 [hS : Res w0 z0 B0 w z L] (Inv : α → Prop) (μ : α → Nat) {body : (List Value → World → Prop) → (List Value → World → Nat) → World → Nat → Prop} (a0 : α) (h0 : Inv a0)
    (hs : ∀ I M a w' z' m, Inv a → Le z z' → Res w0 z0 B0 w' z' L → (∀ a' w'' z'', Inv a' → Le z' z'' → Res w0 z0 B0 w'' z'' L → μ a' < μ a → I [] w'' ∧ M [] w'' < m) → body I M w' m) :
    ∃ (I : List Value → World → Prop) (M : List Value → World → Nat), I [] w ∧ ∀ _ : Env, ∀ w, I [] w → ∀ m, m = M [] w → body I M w m :=
  LoopG0 (fun a w' => Inv a ∧ ∃ z', Le z z' ∧ Res w0 z0 B0 w' z' L) μ a0 ⟨h0, z, Le.refl _, hS⟩ (fun I M a w' m ⟨h1, z', h2, h3⟩ back => hs I M a w' z' m h1 h2 h3 fun a' w'' z'' h4 h5 h6 h7 => back a' w'' ⟨h4, z'', h2.trans h5, h6⟩ h7)
theorem LoopR1 [hS : Res w0 z0 B0 w z L] (Inv : α → Value → Prop) (μ : α → Nat) {body : (List Value → World → Prop) → (List Value → World → Nat) → Value → World → Nat → Prop} {x0 : Value} (a0 : α) (h0 : Inv a0 x0)
    (hs : ∀ I M a x w' z' m, Inv a x → Le z z' → Res w0 z0 B0 w' z' L → (∀ a' x' w'' z'', Inv a' x' → Le z' z'' → Res w0 z0 B0 w'' z'' L → μ a' < μ a → I [x'] w'' ∧ M [x'] w'' < m) → body I M x w' m) :
    ∃ (I : List Value → World → Prop) (M : List Value → World → Nat), I [x0] w ∧ ∀ _ : Env, ∀ x, ∀ w, I [x] w → ∀ m, m = M [x] w → body I M x w m :=
  LoopG1 (fun a x w' => Inv a x ∧ ∃ z', Le z z' ∧ Res w0 z0 B0 w' z' L) μ a0 ⟨h0, z, Le.refl _, hS⟩ (fun I M a x w' m ⟨h1, z', h2, h3⟩ back => hs I M a x w' z' m h1 h2 h3 fun a' x' w'' z'' h4 h5 h6 h7 => back a' x' w'' ⟨h4, z'', h2.trans h5, h6⟩ h7)
theorem LoopR2 [hS : Res w0 z0 B0 w z L] (Inv : α → Value → Value → Prop) (μ : α → Nat) {body : (List Value → World → Prop) → (List Value → World → Nat) → Value → Value → World → Nat → Prop} {x0 y0 : Value} (a0 : α) (h0 : Inv a0 x0 y0)
    (hs : ∀ I M a x y w' z' m, Inv a x y → Le z z' → Res w0 z0 B0 w' z' L → (∀ a' x' y' w'' z'', Inv a' x' y' → Le z' z'' → Res w0 z0 B0 w'' z'' L → μ a' < μ a → I [x', y'] w'' ∧ M [x', y'] w'' < m) → body I M x y w' m) :
    ∃ (I : List Value → World → Prop) (M : List Value → World → Nat), I [x0, y0] w ∧ ∀ _ : Env, ∀ x, ∀ y, ∀ w, I [x, y] w → ∀ m, m = M [x, y] w → body I M x y w m :=
  LoopG2 (fun a x y w' => Inv a x y ∧ ∃ z', Le z z' ∧ Res w0 z0 B0 w' z' L) μ a0 ⟨h0, z, Le.refl _, hS⟩ (fun I M a x y w' m ⟨h1, z', h2, h3⟩ back => hs I M a x y w' z' m h1 h2 h3 fun a' x' y' w'' z'' h4 h5 h6 h7 => back a' x' y' w'' ⟨h4, z'', h2.trans h5, h6⟩ h7)
theorem LoopR3 [hS : Res w0 z0 B0 w z L] (Inv : α → Value → Value → Value → Prop) (μ : α → Nat) {body : (List Value → World → Prop) → (List Value → World → Nat) → Value → Value → Value → World → Nat → Prop} {x0 y0 u0 : Value} (a0 : α) (h0 : Inv a0 x0 y0 u0)
    (hs : ∀ I M a x y u w' z' m, Inv a x y u → Le z z' → Res w0 z0 B0 w' z' L → (∀ a' x' y' u' w'' z'', Inv a' x' y' u' → Le z' z'' → Res w0 z0 B0 w'' z'' L → μ a' < μ a → I [x', y', u'] w'' ∧ M [x', y', u'] w'' < m) → body I M x y u w' m) :
    ∃ (I : List Value → World → Prop) (M : List Value → World → Nat), I [x0, y0, u0] w ∧ ∀ _ : Env, ∀ x, ∀ y, ∀ u, ∀ w, I [x, y, u] w → ∀ m, m = M [x, y, u] w → body I M x y u w m :=
  LoopG3 (fun a x y u w' => Inv a x y u ∧ ∃ z', Le z z' ∧ Res w0 z0 B0 w' z' L) μ a0 ⟨h0, z, Le.refl _, hS⟩ (fun I M a x y u w' m ⟨h1, z', h2, h3⟩ back => hs I M a x y u w' z' m h1 h2 h3 fun a' x' y' u' w'' z'' h4 h5 h6 h7 => back a' x' y' u' w'' ⟨h4, z'', h2.trans h5, h6⟩ h7)
end

/-! ### Maps -/
class KeyTy {κ : Type} [DecidableEq κ] (k : Nat) (mk : κ → Value) : Prop where
  same : ∃ d, (∀ w, (underlying k).run Tryz.prog w = .ok d w) ∧ ∀ a b, Instr.sameNow d (mk a) (mk b) = some (decide (a = b))
  check : ∀ e n w, (Instr.checkKey e 10000 k (mk n)).run Tryz.prog w = .ok () w
  bits : ∀ a, Instr.sameBits 10000 (mk a) (mk a) = true
theorem bytes_beq (a b : ByteArray) : (a == b) = decide (a = b) := by
  have h1 : (a == b) = (a.data == b.data) := by cases a; cases b; rfl
  rw [h1, Bool.eq_iff_iff]
  simp only [beq_iff_eq, decide_eq_true_eq]
  exact ⟨fun h => by cases a; cases b; simp_all, fun h => by rw [h]⟩
theorem checkKey_str (d : Nat) {k : Nat} [gk : TyStr k] (e : Bool) (n : ByteArray) (w : World) : (Instr.checkKey e (d + 1) k (.string n)).run Tryz.prog w = .ok () w := by
  simp only [Instr.checkKey, Sem.run_bind, gk.und, Result.andThen_ok]
  rfl
instance {k : Nat} [gk : TyStr k] : KeyTy k Value.string where
  same := ⟨.string, gk.und, fun a b => by simp only [Instr.sameNow, bytes_beq]⟩
  check := fun e n w => checkKey_str 9999 e n w
  bits := fun a => by simp only [Instr.sameBits, bytes_beq, decide_true]
instance {k : Nat} {kd : IntKind} [gk : TyInt k kd] : KeyTy k (Value.int kd) where
  same := ⟨.int kd, gk.und, fun a b => by simp only [Instr.sameNow, if_true, Bool.beq_eq_decide_eq]⟩
  check := fun e n w => checkKey_run e n w
  bits := fun a => by simp [Instr.sameBits]
section
variable {κ : Type} [DecidableEq κ]
def ent (mk : κ → Value) (l : List (κ × Value)) : List MapEntry := l.zipIdx.map fun p => { key := mk p.1.1, val := p.1.2, born := p.2 }
def mK (mk : κ → Value) (l : List (κ × Value)) : Obj := .map (ent mk l).toArray l.length
def atK (l : List (κ × Value)) (n : κ) : Option (Nat × Value) := (l.findIdx? fun p => decide (p.1 = n)).bind fun m => (l[m]?).map fun p => (m, p.2)
def getK (l : List (κ × Value)) (n : κ) : Option Value := (atK l n).map (·.2)
def upK (l : List (κ × Value)) (n : κ) (v : Value) : List (κ × Value) := match atK l n with | some p => l.set p.1 (n, v) | none => l ++ [(n, v)]
theorem findNowK {mk : κ → Value} {d : TypeDesc} (hd : ∀ a b, Instr.sameNow d (mk a) (mk b) = some (decide (a = b))) (n : κ) : ∀ (l : List (κ × Value)) (j i : Nat),
    Instr.findNow d (mk n) ((l.zipIdx j).map fun p => ({ key := mk p.1.1, val := p.1.2, born := p.2 } : MapEntry)) i = some ((l.findIdx? fun p => decide (p.1 = n)).bind fun m => (l[m]?).map fun p => (i + m, p.2)) := by
  intro l
  induction l with
  | nil => intro j i; rfl
  | cons p l ih =>
    intro j i
    simp only [List.zipIdx_cons, List.map_cons, Instr.findNow, hd]
    rw [List.findIdx?_cons]
    by_cases h : p.1 = n
    · subst h; simp
    · have h' : ¬ n = p.1 := fun e => h e.symm
      simp only [decide_eq_false h, decide_eq_false h', Bool.false_eq_true, if_false, ih (j + 1) (i + 1)]
      cases l.findIdx? (fun p => decide (p.1 = n)) with
      | none => rfl
      | some m => simp [Nat.add_comm, Nat.add_left_comm, Nat.add_assoc]
theorem findKeyK {k : Nat} {mk : κ → Value} [g : KeyTy k mk] (n : κ) (l : List (κ × Value)) (w : World) : (Instr.findKey k (mk n) (ent mk l)).run Tryz.prog w = .ok (atK l n) w := by
  obtain ⟨d, h1, h2⟩ := g.same
  simp only [Instr.findKey, Sem.run_bind, h1, Result.andThen_ok, ent, findNowK h2 n l 0 0, Nat.zero_add]
  rfl
theorem getK_nil (n : κ) : getK ([] : List (κ × Value)) n = none := rfl
theorem getK_find (l : List (κ × Value)) (n : κ) : getK l n = (l.find? fun p => decide (p.1 = n)).map (·.2) := by
  unfold getK atK
  induction l with
  | nil => rfl
  | cons p l ih =>
    rw [List.findIdx?_cons, List.find?_cons]
    cases h : decide (p.1 = n) with
    | true => simp
    | false =>
      simp only [Bool.false_eq_true, if_false]
      rw [← ih]
      cases l.findIdx? (fun p => decide (p.1 = n)) <;> simp [Function.comp_def]
theorem atK_some {l : List (κ × Value)} {n : κ} {p : Nat × Value} (h : atK l n = some p) : l[p.1]? = some (n, p.2) ∧ ∀ j, j < p.1 → ∀ q, l[j]? = some q → q.1 ≠ n := by
  unfold atK at h
  obtain ⟨m, h1, h2⟩ := Option.bind_eq_some_iff.1 h
  obtain ⟨q, h3, h4⟩ := Option.map_eq_some_iff.1 h2
  rw [List.findIdx?_eq_some_iff_getElem] at h1
  obtain ⟨hlt, h5, h6⟩ := h1
  subst h4
  have hq : l[m] = q := by rw [List.getElem?_eq_getElem hlt] at h3; exact Option.some.inj h3
  refine ⟨?_, fun j hj q' hq' => ?_⟩
  · simp only [hq, decide_eq_true_eq] at h5
    rw [h3, ← h5]
  · have := h6 j hj
    rw [List.getElem?_eq_getElem (by simp only at hj; omega)] at hq'
    cases hq'
    simpa using this
theorem getK_none {l : List (κ × Value)} {n : κ} : atK l n = none → ∀ p ∈ l, p.1 ≠ n := by
  intro h p hp e
  have h2 : getK l n = none := by unfold getK; rw [h]; rfl
  rw [getK_find] at h2
  have h3 := Option.map_eq_none_iff.1 h2
  rw [List.find?_eq_none] at h3
  exact h3 p hp (by simpa using e)
theorem getK_up {l : List (κ × Value)} {n m : κ} {v : Value} : getK (upK l n v) m = if m = n then some v else getK l m := by
  unfold upK
  cases h : atK l n with
  | none =>
    simp only [getK_find, List.find?_append]
    by_cases hm : m = n
    · subst hm
      have : l.find? (fun p => decide (p.1 = m)) = none := List.find?_eq_none.2 fun p hp => by simpa using getK_none h p hp
      rw [this, if_pos rfl]; simp
    · have h' : ¬ n = m := fun e => hm e.symm
      rw [if_neg hm]
      simp [h']
  | some p =>
    obtain ⟨h1, h2⟩ := atK_some h
    simp only [getK_find]
    have hlt := (List.getElem?_eq_some_iff.1 h1).1
    have hs : l = l.take p.1 ++ (n, p.2) :: l.drop (p.1 + 1) := by
      rw [← (List.getElem?_eq_some_iff.1 h1).2, ← List.drop_eq_getElem_cons hlt, List.take_append_drop]
    have hset : l.set p.1 (n, v) = l.take p.1 ++ (n, v) :: l.drop (p.1 + 1) := List.set_eq_take_append_cons_drop.trans (if_pos hlt)
    rw [hset]
    conv => rhs; rw [hs]
    simp only [List.find?_append, List.find?_cons]
    by_cases hm : m = n
    · subst hm
      have : (l.take p.1).find? (fun p => decide (p.1 = m)) = none := List.find?_eq_none.2 fun q hq => by
        obtain ⟨j, hj⟩ := List.mem_iff_getElem?.1 hq
        have hjl := (List.getElem?_eq_some_iff.1 hj).1
        rw [List.length_take] at hjl
        rw [List.getElem?_take_of_lt (by omega)] at hj
        simpa using h2 j (by omega) q hj
      simp [this]
    · have h' : ¬ n = m := fun e => hm e.symm
      simp [hm, h']
theorem upK_len {l : List (κ × Value)} {n : κ} {v : Value} : (upK l n v).length = if (atK l n).isSome then l.length else l.length + 1 := by
  unfold upK
  cases atK l n <;> simp
theorem ent_len {mk : κ → Value} {l : List (κ × Value)} : (ent mk l).length = l.length := by simp [ent]
theorem ent_set {mk : κ → Value} {l : List (κ × Value)} {i : Nat} {n : κ} {v : Value} (hi : i < l.length) : (ent mk l).toArray.modify i (fun e => { e with key := mk n, val := v }) = (ent mk (l.set i (n, v))).toArray := by
  apply Array.ext_getElem?
  intro j
  rw [Array.getElem?_modify]
  simp only [List.getElem?_toArray, ent, List.getElem?_map, List.getElem?_zipIdx, Nat.zero_add]
  by_cases hj : i = j
  · subst hj
    simp [hi]
  · rw [if_neg hj, List.getElem?_set_ne hj]
end
section
variable {κ : Type} [DecidableEq κ] {w0 w w' : World} {z0 z z' : Z} {B0 B B' L F : Bl} {b : Nat} {o : Obj} {C : Obj → Bl} {K : Value → World → Prop}
/-- A new map. -/
theorem kV_mm [hS : Res w0 z0 B0 w z L] {t : TypeId} (mk : κ → Value) (hk : ∀ b w', w0.heap.size ≤ b → Res w0 z0 B0 w' z ((b, mK mk []) :: L) → K (.map (some b)) w') : V (mm t none) w K := by
  refine ⟨_, _, ?_, hk w.heap.size _ hS.size (hS.new (mK mk []))⟩
  simp only [mm, Instr.makeMap, Sem.run_bind, newObj, Sem.run, Result.andThen_ok]
  rfl
theorem run_muK {t k e : Nat} {mk : κ → Value} [g : TyMap t k e] [gk : KeyTy k mk] {n : κ} {v : Value} {l : List (κ × Value)} (hat : w.heap[b]? = some (mK mk l)) :
    (mu t (.map (some b)) (mk n) v).run Tryz.prog w = .ok () { w with heap := w.heap.setIfInBounds b (mK mk (upK l n v)) } := by
  simp only [mu, Instr.mapUpdate, Sem.run_bind, g.und, Result.andThen_ok]
  rw [getObj_run hat (by intros; simp [mK])]
  simp only [mK, Result.andThen_ok, Sem.run_bind, gk.check, findKeyK]
  unfold upK
  cases h : atK l n with
  | none =>
    simp only
    rw [setObj_run hat (by intros; simp [mK])]
    simp [ent, List.zipIdx_append]
  | some p =>
    obtain ⟨h1, h2⟩ := atK_some h
    have hlt := (List.getElem?_eq_some_iff.1 h1).1
    have hkey : (((ent mk l).toArray[p.1]?).map (·.key)).getD (mk n) = mk n := by
      simp [ent, h1]
    simp only [hkey, Instr.keyThatStays, gk.bits, if_true, run_pure, Result.andThen_ok, Sem.run_bind]
    rw [setObj_run hat (by intros; simp [mK]), ent_set hlt]
    simp
theorem kU_mu {K : World → Prop} [hS : Res w0 z0 B0 w z L] {t k e : Nat} {mk : κ → Value} [g : TyMap t k e] [gk : KeyTy k mk] {n : κ} {v : Value} {l : List (κ × Value)} [gb : Blk L b (mK mk l) C]
    (hk : ∀ w', Res w0 z0 B0 w' z (C (mK mk (upK l n v))) → K w') : U (mu t (.map (some b)) (mk n) v) w K :=
  ⟨_, run_muK (Res.at_ (g := gb) hS), hk _ (Res.set (g := gb) hS (mK mk (upK l n v)) rfl)⟩
theorem run_lkK {t k e : Nat} {mk : κ → Value} [g : TyMap t k e] [gk : KeyTy k mk] {n : κ} {zv : Value} {l : List (κ × Value)} (hat : w.heap[b]? = some (mK mk l)) (hz : ∀ w, (zeroValue e).run Tryz.prog w = .ok zv w) (c : Bool) :
    (lk t (.map (some b)) (mk n) c).run Tryz.prog w = .ok (if c then .tuple #[(getK l n).getD zv, .bool (getK l n).isSome] else (getK l n).getD zv) w := by
  simp only [lk, Instr.lookup, Sem.run_bind, g.und, Result.andThen_ok]
  rw [getObj_run hat (by intros; simp [mK])]
  simp only [mK, Result.andThen_ok, Sem.run_bind, gk.check, findKeyK, run_pure]
  unfold getK
  cases h : atK l n with
  | none => simp only [Sem.run_bind, hz, Result.andThen_ok, run_pure]; rfl
  | some p => simp only [run_pure, Result.andThen_ok]; rfl
theorem kV_lk [hS : Res w0 z0 B0 w z L] {t k e : Nat} {mk : κ → Value} {zv : Value} [g : TyMap t k e] [gk : KeyTy k mk] [gz : ZeroV e zv] {n : κ} {l : List (κ × Value)} [gb : Blk L b (mK mk l) C] {c : Bool}
    (hk : K (if c then .tuple #[(getK l n).getD zv, .bool (getK l n).isSome] else (getK l n).getD zv) w) : V (lk t (.map (some b)) (mk n) c) w K := ⟨_, w, run_lkK (Res.at_ (g := gb) hS) gz.h c, hk⟩
theorem kHV_lk {K : Value → Prop} [hS : Res w0 z0 B0 w z L] {t k e : Nat} {mk : κ → Value} {zv : Value} [g : TyMap t k e] [gk : KeyTy k mk] [gz : ZeroV e zv] {n : κ} {l : List (κ × Value)} [gb : Blk L b (mK mk l) C] {c : Bool}
    (hk : K (if c then .tuple #[(getK l n).getD zv, .bool (getK l n).isSome] else (getK l n).getD zv)) : HV (lk t (.map (some b)) (mk n) c) w K := ⟨_, run_lkK (Res.at_ (g := gb) hS) gz.h c, hk⟩
theorem kRI_lk {A : Prop} [hS : Res w0 z0 B0 w z L] {t k e : Nat} {mk : κ → Value} {zv : Value} [g : TyMap t k e] [gk : KeyTy k mk] [gz : ZeroV e zv] {n : κ} {l : List (κ × Value)} [gb : Blk L b (mK mk l) C] {c : Bool}
    (h : A) : RunIs (lk t (.map (some b)) (mk n) c) w (if c then .tuple #[(getK l n).getD zv, .bool (getK l n).isSome] else (getK l n).getD zv) ∧ A := ⟨run_lkK (Res.at_ (g := gb) hS) gz.h c, h⟩
end
end Go.Proofs.YtbeelfopmkbllaaGreatDoor
end

section
/- Operands: named, good, special, right. -/
set_option linter.unusedVariables false
set_option linter.unusedSimpArgs false
set_option maxRecDepth 20000
namespace Go.Proofs.YtbeelfopmkbllaaGreatDoor
open Go Q Go.RowKit

/-- Code as a value at hand. -/
class CodeZ (z0 : Z) (v : Value) (c : outParam CodeM) : Prop where
  h : CodeR z0 v c
theorem CodeR.form {z : Z} {v : Value} {c : CodeM} (h : CodeR z v c) : ∃ a1 a2 a3 a4 a5 a6 k1 k2 k3 k4 k5 k6, v = .agg [.slice a1 c.consts.length k1, .slice a2 c.tmpls.length k2, .slice a3 c.lists.length k3, .slice a4 c.labels.length k4, .slice a5 c.slots.length k5, .slice a6 c.ins.length k6].toArray ∧
    SlR El.str z (.slice a1 c.consts.length k1) c.consts ∧ SlR (El.sl El.part) z (.slice a2 c.tmpls.length k2) c.tmpls ∧ SlR (El.sl El.item) z (.slice a3 c.lists.length k3) c.lists ∧ SlR El.spot z (.slice a4 c.labels.length k4) c.labels ∧ SlR El.str z (.slice a5 c.slots.length k5) c.slots ∧ SlR El.ins z (.slice a6 c.ins.length k6) c.ins := by
  obtain ⟨v1, v2, v3, v4, v5, v6, rfl, h1, h2, h3, h4, h5, h6⟩ := h.h
  obtain ⟨_, a1, k1, rfl, _, _⟩ := h1.form
  obtain ⟨_, a2, k2, rfl, _, _⟩ := h2.form
  obtain ⟨_, a3, k3, rfl, _, _⟩ := h3.form
  obtain ⟨_, a4, k4, rfl, _, _⟩ := h4.form
  obtain ⟨_, a5, k5, rfl, _, _⟩ := h5.form
  obtain ⟨_, a6, k6, rfl, _, _⟩ := h6.form
  exact ⟨a1, a2, a3, a4, a5, a6, k1, k2, k3, k4, k5, k6, rfl, h1, h2, h3, h4, h5, h6⟩
theorem SlR.big {α : Type} {E : El α} {z : Z} {v : Value} {xs : List α} (h : SlR E z v xs) : xs.length ≤ big := h.form.1
theorem inI_len {n : Nat} (h : n ≤ big) : InI ((n : Int) - 1) := ⟨by simp only [Go.Proofs.YtbeelfopmkbllaaGreatDoor.big] at h; omega⟩
/-- A constant that is as is asked. -/
def namedM (c : CodeM) (n : Int) (p : ByteArray → Bool) : Bool := inB n 0 ((c.consts.length : Int) - 1) && p (c.consts.getD n.toNat ⟨#[]⟩)
theorem named {z : Z} {w : World} {v fv : Value} {c : CodeM} {n : Int} {p : ByteArray → Bool} (hc : CodeR z v c) (hf : ∀ z' w' s, Le z z' → s ∈ c.consts → Va1 fv #[.string s] z' w' fun _ r => r = .bool (p s)) :
    Fn1 228 #[v, .int .i64 n, fv] z w fun _ r => r = .bool (namedM c n p) := Fn1.intro fun hS => en228 (by
  unfold vc228
  obtain ⟨a1, a2, a3, a4, a5, a6, k1, k2, k3, k4, k5, k6, rfl, h1, h2, h3, h4, h5, h6⟩ := hc.form
  haveI := inI_len h1.big
  (repeat (first | refine V_run ?_ | refine iV_ld1 ?_ | (refine iV_bx ?_; intro _ _ _ _) | (refine J1 ?_; intro _ _) | (refine CV_pu ?_; intro _ _ _ _)))
  refine Cond_b (fun h => ?_) (fun h => ?_)
  · have hn := inB_iff.1 h
    haveI : InR n (c.consts.length : Nat) := ⟨by omega, by omega⟩
    have hlt : n.toNat < c.consts.length := by omega
    obtain ⟨_, a, k, he, hk, hel⟩ := h1.form
    cases he
    obtain ⟨b, off, cs, rfl, ⟨rfl, hs⟩, hat⟩ := hel _ _ (List.getElem?_eq_getElem hlt)
    (repeat (first | refine V_run ?_ | refine iV_ld1 ?_))
    rename_i hS2
    refine zV_ld1 (hat.mono hS2.zle) ?_
    refine CV_va1 hS2 (hf _ _ _ hS2.zle (List.getElem_mem hlt)) ?_
    rintro z3 w3 v3 hz3 hS3 rfl
    (repeat (refine K1 ?_))
    exact ret_eq (by rw [namedM, h, List.getD_eq_getElem?_getD, List.getElem?_eq_getElem hlt]; rfl)
  · (repeat (refine K1 ?_))
    exact ret_eq (by rw [namedM, h]; rfl))
theorem Va1.mono {f : Value} {args : Array Value} {z : Z} {w : World} {R R' : Z → Value → Prop} (h : Va1 f args z w R) (hr : ∀ z' v, R z' v → R' z' v) : Va1 f args z w R' := fun ho => CallV.mono (h ho) fun v w' ⟨z', h1, h2⟩ => ⟨z', h1, hr _ _ h2⟩
theorem puV {f : Value} {args : Array Value} {v : Value} [g : PuV f args v] {z : Z} {w : World} : Va1 f args z w fun _ v' => v' = v := g.h z w
theorem good1 {z : Z} {w : World} {k : Int} : Fn1 225 #[.int .i64 k] z w fun z' v => ∃ b, v = .func (.func 226) #[] #[.pointer (some ⟨b, 0, none⟩)] ∧ At z' b 0 [.int .i64 k] := Fn1.intro fun hS => en225 (by
  unfold vc225
  refine iV_bx ?_
  intro b w1 hb hS1
  exact ⟨_, _, hS1.freeze, b, rfl, _, _, _, if_pos rfl, fun j u hu => by simpa using hu⟩)
theorem good11 {z : Z} {w : World} {b : Nat} {k : Int} {s : ByteArray} (ha : At z b 0 [.int .i64 k]) : Va1 (.func (.func 226) #[] #[.pointer (some ⟨b, 0, none⟩)]) #[.string s] z w fun _ r => r = .bool (decide (symKind s = k)) :=
  Fn1.va (args' := #[.string s, .pointer (some ⟨b, 0, none⟩)]) (Fn1.intro fun hS => en226 (by
    unfold vc226
    haveI : Fz z b 0 [.int .i64 k] := ⟨ha⟩
    (repeat (first | (refine iDr ?_; intro _ _) | refine PV_run ?_ | (refine CV_pu ?_; intro _ _ _ _) | refine fRI_1 ?_ | refine fHV_ld1 ?_))
    rename_i hS2
    exact ⟨_, _, hS2, rfl⟩)) (by simp)
instance {s : ByteArray} : Pu 227 #[.string s] (.bool true) := ⟨fun z w => Fn1.intro fun hS => en227 (by
  unfold vc227
  exact ⟨_, _, hS, rfl⟩)⟩
def kindIs (k : Int) (s : ByteArray) : Bool := decide (symKind s = k)
/-- An operand that is of its kind. -/
def goodM (c : CodeM) (kind n : Int) : Bool :=
  if kind = 1 then inB n 1 20000 else if kind = 8 then (decide (n = -1) || namedM c n fun _ => true) else if kind = 2 then namedM c n fun _ => true
  else if kind = 3 then namedM c n (kindIs 2) else if kind = 4 then namedM c n (kindIs 3) else if kind = 5 then namedM c n (kindIs 4) else if kind = 6 then namedM c n varB
  else if kind = 7 then (namedM c n (kindIs 2) || namedM c n (kindIs 4)) else if kind = 9 then inB n 0 ((c.slots.length : Int) - 1) else if kind = 10 then inB n 0 ((c.tmpls.length : Int) - 1)
  else if kind = 12 then (decide (n = -1) || inB n 0 ((c.lists.length : Int) - 1)) else if kind = 11 then inB n 0 ((c.lists.length : Int) - 1) else if kind = 13 then inB n 0 ((c.ins.length : Int) - 1) else rangedM kind n
theorem good_of {z : Z} {w : World} {v : Value} {c : CodeM} {kind n : Int} (hc : CodeR z v c) : Fn1 157 #[v, .int .i64 kind, .int .i64 n] z w fun _ r => r = .bool (goodM c kind n) := Fn1.intro fun hS => en157 (by
  unfold vc157
  obtain ⟨a1, a2, a3, a4, a5, a6, k1, k2, k3, k4, k5, k6, rfl, h1, h2, h3, h4, h5, h6⟩ := hc.form
  have hc' := hc
  haveI := inI_len h2.big
  haveI := inI_len h3.big
  haveI := inI_len h5.big
  haveI := inI_len h6.big
  refine iV_bx ?_
  intro b w1 hb hS1
  clear hS
  intro Ka hKa
  have main0 : ∀ r, goodM c kind n = r → r = inB n 0 ((c.lists.length : Int) - 1) → Ka [] w1 := by
    intro r hr he
    refine hKa _ fun _ => ?_
    (repeat (first | refine V_run ?_ | refine iV_ld1 ?_ | (refine CV_pu ?_; intro _ _ _ _)))
    rename_i hS2
    exact ⟨_, _, hS2, by rw [hr, he]⟩
  clear hKa
  intro Kb hKb
  have main1 : goodM c kind n = namedM c n (fun _ => true) → Kb [] w1 := by
    intro hr
    refine hKb _ fun _ => ?_
    (repeat (refine iV_ldN ?_))
    refine CV_1 (named (p := fun _ => true) hc (fun z' w' s hz hs => puV)) ?_
    rintro z3 w3 v3 hz3 hS3 rfl
    exact ⟨_, _, hS3, by rw [hr]⟩
  clear hKb
  (repeat (refine V_run ?_))
  refine Cond_d (fun e1 => ?_) (fun e1 => ?_)
  · (repeat (refine CV_pu ?_; intro _ _ _ _))
    rename_i hS2
    exact ⟨_, _, hS2, by rw [goodM, if_pos e1]⟩
  (repeat (refine V_run ?_))
  refine Cond_d (fun e2 => ?_) (fun e2 => ?_)
  · (repeat (refine V_run ?_))
    refine Cond_d (fun e3 => ?_) (fun e3 => ?_)
    · exact ⟨_, _, hS1, by rw [goodM, if_neg e1, if_pos e2, decide_eq_true e3]; rfl⟩
    · exact main1 (by rw [goodM, if_neg e1, if_pos e2, decide_eq_false e3]; rfl)
  (repeat (refine V_run ?_))
  refine Cond_d (fun e3 => ?_) (fun e3 => ?_)
  · exact main1 (by rw [goodM, if_neg e1, if_neg e2, if_pos e3])
  (repeat (refine V_run ?_))
  refine Cond_d (fun e4 => ?_) (fun e4 => ?_)
  · (repeat (first | (refine iDr ?_; intro _ _) | refine iHV_N ?_))
    refine CV_1 good1 ?_
    rintro z3 w3 v3 hz3 hS3 ⟨b3, rfl, hb3⟩
    (repeat (refine iRI_N ?_))
    refine CV_1 (named (p := kindIs 2) (hc.mono hS3.zle) (fun z' w' s hz hs => good11 (hb3.mono hz))) ?_
    rintro z4 w4 v4 hz4 hS4 rfl
    exact ⟨_, _, hS4, by rw [goodM, if_neg e1, if_neg e2, if_neg e3, if_pos e4]⟩
  (repeat (refine V_run ?_))
  refine Cond_d (fun e5 => ?_) (fun e5 => ?_)
  · (repeat (first | (refine iDr ?_; intro _ _) | refine iHV_N ?_))
    refine CV_1 good1 ?_
    rintro z3 w3 v3 hz3 hS3 ⟨b3, rfl, hb3⟩
    (repeat (refine iRI_N ?_))
    refine CV_1 (named (p := kindIs 3) (hc.mono hS3.zle) (fun z' w' s hz hs => good11 (hb3.mono hz))) ?_
    rintro z4 w4 v4 hz4 hS4 rfl
    exact ⟨_, _, hS4, by rw [goodM, if_neg e1, if_neg e2, if_neg e3, if_neg e4, if_pos e5]⟩
  (repeat (refine V_run ?_))
  refine Cond_d (fun e6 => ?_) (fun e6 => ?_)
  · (repeat (first | (refine iDr ?_; intro _ _) | refine iHV_N ?_))
    refine CV_1 good1 ?_
    rintro z3 w3 v3 hz3 hS3 ⟨b3, rfl, hb3⟩
    (repeat (refine iRI_N ?_))
    refine CV_1 (named (p := kindIs 4) (hc.mono hS3.zle) (fun z' w' s hz hs => good11 (hb3.mono hz))) ?_
    rintro z4 w4 v4 hz4 hS4 rfl
    exact ⟨_, _, hS4, by rw [goodM, if_neg e1, if_neg e2, if_neg e3, if_neg e4, if_neg e5, if_pos e6]⟩
  (repeat (refine V_run ?_))
  refine Cond_d (fun e7 => ?_) (fun e7 => ?_)
  · (repeat (refine iV_ldN ?_))
    refine CV_1 (named (p := varB) hc (fun z' w' s hz hs => puV)) ?_
    rintro z4 w4 v4 hz4 hS4 rfl
    exact ⟨_, _, hS4, by rw [goodM, if_neg e1, if_neg e2, if_neg e3, if_neg e4, if_neg e5, if_neg e6, if_pos e7]⟩
  (repeat (refine V_run ?_))
  refine Cond_d (fun e8 => ?_) (fun e8 => ?_)
  · (repeat (first | (refine iDr ?_; intro _ _) | refine iHV_N ?_ | (refine J1 ?_; intro _ _)))
    refine CV_1 good1 ?_
    rintro z3 w3 v3 hz3 hS3 ⟨b3, rfl, hb3⟩
    (repeat (refine iRI_N ?_))
    refine CV_1 (named (p := kindIs 2) (hc.mono hS3.zle) (fun z' w' s hz hs => good11 (hb3.mono hz))) ?_
    rintro z4 w4 v4 hz4 hS4 rfl
    have he : goodM c kind n = (namedM c n (kindIs 2) || namedM c n (kindIs 4)) := by rw [goodM, if_neg e1, if_neg e2, if_neg e3, if_neg e4, if_neg e5, if_neg e6, if_neg e7, if_pos e8]
    refine Cond_b (fun e9 => ?_) (fun e9 => ?_)
    · (repeat (refine K1 ?_))
      exact ⟨_, _, hS4, by rw [he, e9]; rfl⟩
    · (repeat (refine iHV_N ?_))
      refine CV_1 good1 ?_
      rintro z5 w5 v5 hz5 hS5 ⟨b5, rfl, hb5⟩
      (repeat (refine iRI_N ?_))
      refine CV_1 (named (p := kindIs 4) (hc.mono hS5.zle) (fun z' w' s hz hs => good11 (hb5.mono hz))) ?_
      rintro z6 w6 v6 hz6 hS6 rfl
      (repeat (refine K1 ?_))
      exact ⟨_, _, hS6, by rw [he, e9]; rfl⟩
  (repeat (refine V_run ?_))
  refine Cond_d (fun e9 => ?_) (fun e9 => ?_)
  · (repeat (first | refine V_run ?_ | refine iV_ld1 ?_ | (refine CV_pu ?_; intro _ _ _ _)))
    rename_i hS2
    exact ⟨_, _, hS2, by rw [goodM, if_neg e1, if_neg e2, if_neg e3, if_neg e4, if_neg e5, if_neg e6, if_neg e7, if_neg e8, if_pos e9]⟩
  (repeat (refine V_run ?_))
  refine Cond_d (fun e10 => ?_) (fun e10 => ?_)
  · (repeat (first | refine V_run ?_ | refine iV_ld1 ?_ | (refine CV_pu ?_; intro _ _ _ _)))
    rename_i hS2
    exact ⟨_, _, hS2, by rw [goodM, if_neg e1, if_neg e2, if_neg e3, if_neg e4, if_neg e5, if_neg e6, if_neg e7, if_neg e8, if_neg e9, if_pos e10]⟩
  (repeat (refine V_run ?_))
  refine Cond_d (fun e11 => ?_) (fun e11 => ?_)
  · (repeat (refine V_run ?_))
    refine Cond_d (fun e12 => ?_) (fun e12 => ?_)
    · exact ⟨_, _, hS1, by rw [goodM, if_neg e1, if_neg e2, if_neg e3, if_neg e4, if_neg e5, if_neg e6, if_neg e7, if_neg e8, if_neg e9, if_neg e10, if_pos e11, decide_eq_true e12]; rfl⟩
    · exact main0 _ rfl (by rw [goodM, if_neg e1, if_neg e2, if_neg e3, if_neg e4, if_neg e5, if_neg e6, if_neg e7, if_neg e8, if_neg e9, if_neg e10, if_pos e11, decide_eq_false e12]; rfl)
  (repeat (refine V_run ?_))
  refine Cond_d (fun e12 => ?_) (fun e12 => ?_)
  · exact main0 _ rfl (by rw [goodM, if_neg e1, if_neg e2, if_neg e3, if_neg e4, if_neg e5, if_neg e6, if_neg e7, if_neg e8, if_neg e9, if_neg e10, if_neg e11, if_pos e12])
  (repeat (refine V_run ?_))
  refine Cond_d (fun e13 => ?_) (fun e13 => ?_)
  · (repeat (first | refine V_run ?_ | refine iV_ld1 ?_ | (refine CV_pu ?_; intro _ _ _ _)))
    rename_i hS2
    exact ⟨_, _, hS2, by rw [goodM, if_neg e1, if_neg e2, if_neg e3, if_neg e4, if_neg e5, if_neg e6, if_neg e7, if_neg e8, if_neg e9, if_neg e10, if_neg e11, if_neg e12, if_pos e13]⟩
  · (repeat (refine CV_pu ?_; intro _ _ _ _))
    rename_i hS2
    exact ⟨_, _, hS2, by rw [goodM, if_neg e1, if_neg e2, if_neg e3, if_neg e4, if_neg e5, if_neg e6, if_neg e7, if_neg e8, if_neg e9, if_neg e10, if_neg e11, if_neg e12, if_neg e13]⟩)
instance {z : Z} {v : Value} {c : CodeM} {kind n : Int} [hc : CodeZ z v c] : PuZ z 157 #[v, .int .i64 kind, .int .i64 n] (.bool (goodM c kind n)) := ⟨fun z' w hz => good_of (hc.h.mono hz)⟩
end Go.Proofs.YtbeelfopmkbllaaGreatDoor
end

section
/- Instructions that are as in the table: special, right. -/
set_option linter.unusedVariables false
set_option linter.unusedSimpArgs false
set_option maxRecDepth 20000
set_option synthInstance.maxHeartbeats 400000
set_option synthInstance.maxSize 2000
namespace Go.Proofs.YtbeelfopmkbllaaGreatDoor
open Go Q Go.RowKit

def litOr (n : Int) (s : ByteArray) : Bool := decide (n = 1) || !decide (symKind s = 0)
theorem special1 {z : Z} {w : World} {b : Nat} {i : InsM} {s : ByteArray} (ha : At z b 0 i.cells) : Va1 (.func (.func 229) #[] #[.pointer (some ⟨b, 0, none⟩)]) #[.string s] z w fun _ r => r = .bool (litOr i.c s) :=
  Fn1.va (args' := #[.string s, .pointer (some ⟨b, 0, none⟩)]) (Fn1.intro fun hS => en229 (by
    unfold vc229
    haveI : Fz z b 3 [.int .i64 i.c] := ⟨ha.fld (i := 3) rfl rfl⟩
    (repeat (first | refine V_run ?_ | (refine JC ?_; intro _ _ _ _) | refine fV_ld1 ?_))
    exact ret_eq (by unfold litOr; cases decide (i.c = 1) <;> rfl))) (by simp)
def specialM (c : CodeM) (i : InsM) : Bool :=
  if i.op = 12 ∨ i.op = 21 then namedM c i.a (litOr i.c) else if i.op = 19 then ((!decide (i.a = 1) && decide (i.b = 0)) || (decide (i.a = 1) && goodM c 2 i.b))
  else if i.op = 22 then (!(!inB i.a 0 5 || (decide (i.b = 2) && (decide (i.a = 3) || decide (i.a = 5)))) && (decide (i.c = -1) || (!decide (i.b = 0) && goodM c 3 i.c))) else true
theorem special_of {z : Z} {w : World} {v : Value} {c : CodeM} {i : InsM} (hc : CodeR z v c) : Fn1 158 #[v, i.v] z w fun _ r => r = .bool (specialM c i) := Fn1.intro fun hS => en158 (by
  unfold vc158
  obtain ⟨a1, a2, a3, a4, a5, a6, k1, k2, k3, k4, k5, k6, rfl, h1, h2, h3, h4, h5, h6⟩ := hc.form
  haveI : CodeZ z _ c := ⟨hc⟩
  dsimp only [InsM.v, InsM.cells]
  refine iV_bx ?_
  intro b1 w1 hb1 hS1
  refine iV_bx ?_
  intro b2 w2 hb2 hS2
  clear hS hS1
  (repeat (first | refine V_run ?_ | refine iV_ld1 ?_ | refine JB ?_))
  refine Cond_b (fun e1 => ?_) (fun e1 => ?_)
  · have e : i.op = 12 ∨ i.op = 21 := by by_cases e : i.op = 12 <;> simp [e] at e1 ⊢; exact e1
    (repeat (first | refine V_run ?_ | refine iV_ld1 ?_ | refine iV_ldN ?_))
    have hf := (hS2.bringB b2).freeze
    have hle := (hS2.bringB b2).freeze_le
    refine CV_1 (named (p := litOr i.c) ((hc.mono hS2.zle).mono hle) (fun z' w' s hz hs => special1 ?_)) ?_
    · exact ⟨_, _, _, hz _ _ (if_pos rfl), fun j u hu => by simpa using hu⟩
    · rintro z4 w4 v4 hz4 hS4 rfl
      exact ret_eq (by rw [specialM, if_pos e])
  have e : ¬ (i.op = 12 ∨ i.op = 21) := by by_cases e : i.op = 12 <;> simp [e] at e1 ⊢; exact e1
  (repeat (refine V_run ?_))
  refine Cond_d (fun e2 => ?_) (fun e2 => ?_)
  · (repeat (first | refine V_run ?_ | refine iV_ld1 ?_ | (refine JC ?_; intro _ _ _ _)))
    exact ret_eq (by rw [specialM, if_neg e, if_pos e2]; cases decide (i.a = 1) <;> cases decide (i.b = 0) <;> rfl)
  (repeat (refine V_run ?_))
  refine Cond_d (fun e3 => ?_) (fun e3 => ?_)
  · (repeat (first | refine V_run ?_ | refine iV_ld1 ?_ | (refine JC ?_; intro _ _ _ _) | (refine CV_pu ?_; intro _ _ _ _)))
    refine Cond_b (fun e4 => ?_) (fun e4 => ?_)
    · exact ret_eq (by rw [specialM, if_neg e, if_neg e2, if_pos e3]; revert e4; cases inB i.a 0 5 <;> cases decide (i.b = 2) <;> cases decide (i.a = 3) <;> cases decide (i.a = 5) <;> simp)
    · (repeat (first | refine V_run ?_ | refine iV_ld1 ?_ | (refine JC ?_; intro _ _ _ _)))
      exact ret_eq (by rw [specialM, if_neg e, if_neg e2, if_pos e3]; revert e4; cases inB i.a 0 5 <;> cases decide (i.b = 2) <;> cases decide (i.a = 3) <;> cases decide (i.a = 5) <;> cases decide (i.c = -1) <;> cases decide (i.b = 0) <;> simp)
  · skip
    exact ret_eq (by rw [specialM, if_neg e, if_neg e2, if_neg e3]))
instance {z : Z} {v : Value} {c : CodeM} {i : InsM} [hc : CodeZ z v c] : PuZ z 158 #[v, i.v] (.bool (specialM c i)) := ⟨fun z' w hz => special_of (hc.h.mono hz)⟩
def rightM (c : CodeM) (i : InsM) : Bool := opOk i.op && (goodM c (formAt i.op).k0 i.a && (goodM c (formAt i.op).k1 i.b && (goodM c (formAt i.op).k2 i.c && specialM c i)))
theorem right_of {z : Z} {w : World} {v : Value} {c : CodeM} {i : InsM} (hc : CodeR z v c) : Fn1 48 #[v, i.v] z w fun _ r => r = .bool (rightM c i) := Fn1.intro fun hS => en48 (by
  unfold vc48
  obtain ⟨a1, a2, a3, a4, a5, a6, k1, k2, k3, k4, k5, k6, rfl, h1, h2, h3, h4, h5, h6⟩ := hc.form
  haveI : CodeZ z _ c := ⟨hc⟩
  (repeat (first | refine V_run ?_ | refine iV_ldN ?_ | (refine iV_bx ?_; intro _ _ _ _) | (refine iU_st ?_; intro _ _) | (refine CV_pu ?_; intro _ _ _ _)))
  refine Cond_n (fun e => ?_) (fun e => ?_)
  · exact ret_eq (by rw [rightM, e]; rfl)
  (repeat (first | refine V_run ?_ | refine iV_ld1 ?_))
  refine LoopR1 (fun (k : Int) x => x = .int .i64 k ∧ 0 ≤ k ∧ k ≤ 3 ∧ (1 ≤ k → goodM c (formAt i.op).k0 i.a = true) ∧ (2 ≤ k → goodM c (formAt i.op).k1 i.b = true) ∧ (3 ≤ k → goodM c (formAt i.op).k2 i.c = true)) (fun k => (3 - k).toNat) 0 ⟨rfl, by omega, by omega, by omega, by omega, by omega⟩ ?_
  rintro I M k x w3 z3 m ⟨rfl, gp, g0, g1, g2, g3⟩ hz3 hS3 back
  refine V_run ?_
  have : k = 0 ∨ k = 1 ∨ k = 2 ∨ k = 3 := by omega
  rcases this with rfl | rfl | rfl | rfl
  · refine Cond_is rfl ?_
    (repeat (first | (refine iDr ?_; intro _ _) | refine V_run ?_ | refine PV_run ?_ | refine iHV_1 ?_ | refine iHV_N ?_ | (refine CV_puz ?_; intro _ _ _ _)))
    refine Cond_n (fun h => ?_) (fun h => ?_)
    · exact ret_eq (by rw [rightM, e, h]; rfl)
    · (repeat (refine V_run ?_))
      rename_i hS4
      exact back 1 _ _ _ ⟨rfl, by omega, by omega, fun _ => h, by omega, by omega⟩ (by (repeat (assumption))) hS4 (by omega)
  · refine Cond_is rfl ?_
    (repeat (first | (refine iDr ?_; intro _ _) | refine V_run ?_ | refine PV_run ?_ | refine iHV_1 ?_ | refine iHV_N ?_ | (refine CV_puz ?_; intro _ _ _ _)))
    refine Cond_n (fun h => ?_) (fun h => ?_)
    · exact ret_eq (by rw [rightM, e, g1 (by omega), h]; rfl)
    · (repeat (refine V_run ?_))
      rename_i hS4
      exact back 2 _ _ _ ⟨rfl, by omega, by omega, fun _ => g1 (by omega), fun _ => h, by omega⟩ (by (repeat (assumption))) hS4 (by omega)
  · refine Cond_is rfl ?_
    (repeat (first | (refine iDr ?_; intro _ _) | refine V_run ?_ | refine PV_run ?_ | refine iHV_1 ?_ | refine iHV_N ?_ | (refine CV_puz ?_; intro _ _ _ _)))
    refine Cond_n (fun h => ?_) (fun h => ?_)
    · exact ret_eq (by rw [rightM, e, g1 (by omega), g2 (by omega), h]; rfl)
    · (repeat (refine V_run ?_))
      rename_i hS4
      exact back 3 _ _ _ ⟨rfl, by omega, by omega, fun _ => g1 (by omega), fun _ => g2 (by omega), fun _ => h⟩ (by (repeat (assumption))) hS4 (by omega)
  · refine Cond_not rfl ?_
    (repeat (first | refine iV_ldN ?_ | (refine CV_puz ?_; intro _ _ _ _)))
    exact ret_eq (by rw [rightM, e, g1 (by omega), g2 (by omega), g3 (by omega)]; rfl))
instance {z : Z} {v : Value} {c : CodeM} {i : InsM} [hc : CodeZ z v c] : PuZ z 48 #[v, i.v] (.bool (rightM c i)) := ⟨fun z' w hz => right_of (hc.h.mono hz)⟩
end Go.Proofs.YtbeelfopmkbllaaGreatDoor
end

section
/- Functions without loops, read out whole: what they return, whatever way they go. -/
set_option linter.unusedVariables false
set_option linter.unusedSimpArgs false
set_option linter.unusedSectionVars false
set_option maxRecDepth 20000
set_option synthInstance.maxHeartbeats 400000
set_option synthInstance.maxSize 2000
namespace Go.Proofs.YtbeelfopmkbllaaGreatDoor
open Go Q Go.RowKit

/-- Memory as it is now. -/
structure Now (w0 : World) (z0 : Z) (B0 : Bl) (z : Z) (L : Bl) where
  w : World
  res : Res w0 z0 B0 w z L
instance {w0 : World} {z0 z : Z} {B0 L : Bl} {q : Now w0 z0 B0 z L} : Res w0 z0 B0 q.w z L := q.res
/-- Whatever follows, what follows is asked at this value, the owned blocks as they were. -/
class PG {α : Type} (inj : α → Value) (F : (List Value → World → Prop) → Prop) (w0 : outParam World) (z0 : outParam Z) (B0 : outParam Bl) (z : outParam Z) (L : outParam Bl) (x : outParam α) : Prop where
  h : ∀ K : List Value → World → Prop, (∀ z' w', Le z z' → Res w0 z0 B0 w' z' L → K [inj x] w') → F K
/-- What is returned, whatever way is gone. -/
class PW (G : Prop) (R : Value → World → Prop) (w0 : outParam World) (z0 : outParam Z) (B0 : outParam Bl) (v : outParam Value) : Prop where
  h : (∀ z' w' L', Res w0 z0 B0 w' z' L' → R v w') → G
/-- Where ways meet without a value. -/
class JP (K : List Value → World → Prop) (R : Value → World → Prop) (w0 : outParam World) (z0 : outParam Z) (B0 : outParam Bl) (L : outParam Bl) (v : outParam Value) : Prop where
  h : (∀ z' w' L', Res w0 z0 B0 w' z' L' → R v w') → ∀ z' w', Res w0 z0 B0 w' z' L → K [] w'
section
variable {w0 w w' : World} {z0 z z' : Z} {B0 B B' L F : Bl} {b : Nat} {o : Obj} {C : Obj → Bl}
instance PG.val {α : Type} {inj : α → Value} {x : α} {s : Sem Value} {v : Value} [g : Run s v] {G : (List Value → World → Prop) → Value → World → Prop} [h : PG inj (fun K => G K v w) w0 z0 B0 z L x] : PG inj (fun K => V s w (G K)) w0 z0 B0 z L x := ⟨fun K hK => V_run (h.h K hK)⟩
instance PW.val {R : Value → World → Prop} {v0 : Value} {s : Sem Value} {v : Value} [g : Run s v] {G : Value → World → Prop} [h : PW (G v w) R w0 z0 B0 v0] : PW (V s w G) R w0 z0 B0 v0 := ⟨fun hK => V_run (h.h hK)⟩
instance PG.pval {α : Type} {inj : α → Value} {x : α} {s : Sem Value} {v : Value} [g : Run s v] {G : (List Value → World → Prop) → Value → Prop} [h : PG inj (fun K => G K v) w0 z0 B0 z L x] : PG inj (fun K => PV s (G K)) w0 z0 B0 z L x := ⟨fun K hK => PV_run (h.h K hK)⟩
instance PW.pval {R : Value → World → Prop} {v0 : Value} {s : Sem Value} {v : Value} [g : Run s v] {G : Value → Prop} [h : PW (G v) R w0 z0 B0 v0] : PW (PV s G) R w0 z0 B0 v0 := ⟨fun hK => PV_run (h.h hK)⟩
instance PG.hval {α : Type} {inj : α → Value} {x : α} {s : Sem Value} {v : Value} [g : Run s v] {G : (List Value → World → Prop) → Value → Prop} [h : PG inj (fun K => G K v) w0 z0 B0 z L x] : PG inj (fun K => HV s w (G K)) w0 z0 B0 z L x := ⟨fun K hK => HV_run (h.h K hK)⟩
instance PW.hval {R : Value → World → Prop} {v0 : Value} {s : Sem Value} {v : Value} [g : Run s v] {G : Value → Prop} [h : PW (G v) R w0 z0 B0 v0] : PW (HV s w G) R w0 z0 B0 v0 := ⟨fun hK => HV_run (h.h hK)⟩
instance PG.ld1 {α : Type} {inj : α → Value} {x : α} {t off : Nat} {v : Value} {l : List Value} {ty : TypeId} {fr : Nat × Nat} [hS : Res w0 z0 B0 w z L] [g : TyOne t] [Blk L b (.cells l.toArray ty fr) C] [Get l off v] {G : (List Value → World → Prop) → Value → World → Prop} [h : PG inj (fun K => G K v w) w0 z0 B0 z L x] : PG inj (fun K => V (ld t (.pointer (some ⟨b, off, none⟩))) w (G K)) w0 z0 B0 z L x := ⟨fun K hK => V_ldL1 hS (h.h K hK)⟩
instance PW.ld1 {R : Value → World → Prop} {v0 : Value} {t off : Nat} {v : Value} {l : List Value} {ty : TypeId} {fr : Nat × Nat} [hS : Res w0 z0 B0 w z L] [g : TyOne t] [Blk L b (.cells l.toArray ty fr) C] [Get l off v] {G : Value → World → Prop} [h : PW (G v w) R w0 z0 B0 v0] : PW (V (ld t (.pointer (some ⟨b, off, none⟩))) w G) R w0 z0 B0 v0 := ⟨fun hK => V_ldL1 hS (h.h hK)⟩
instance PG.ldN {α : Type} {inj : α → Value} {x : α} {t n off : Nat} {vs : List Value} {l : List Value} {ty : TypeId} {fr : Nat × Nat} [hS : Res w0 z0 B0 w z L] [g : TyAgg t n] [gs : TySize t n] [Blk L b (.cells l.toArray ty fr) C] [gn : GetN l off n vs] {G : (List Value → World → Prop) → Value → World → Prop} [h : PG inj (fun K => G K (.agg vs.toArray) w) w0 z0 B0 z L x] : PG inj (fun K => V (ld t (.pointer (some ⟨b, off, none⟩))) w (G K)) w0 z0 B0 z L x := ⟨fun K hK => V_ldLN hS (h.h K hK)⟩
instance PW.ldN {R : Value → World → Prop} {v0 : Value} {t n off : Nat} {vs : List Value} {l : List Value} {ty : TypeId} {fr : Nat × Nat} [hS : Res w0 z0 B0 w z L] [g : TyAgg t n] [gs : TySize t n] [Blk L b (.cells l.toArray ty fr) C] [gn : GetN l off n vs] {G : Value → World → Prop} [h : PW (G (.agg vs.toArray) w) R w0 z0 B0 v0] : PW (V (ld t (.pointer (some ⟨b, off, none⟩))) w G) R w0 z0 B0 v0 := ⟨fun hK => V_ldLN hS (h.h hK)⟩
instance PG.hld1 {α : Type} {inj : α → Value} {x : α} {t off : Nat} {v : Value} {l : List Value} {ty : TypeId} {fr : Nat × Nat} [hS : Res w0 z0 B0 w z L] [g : TyOne t] [Blk L b (.cells l.toArray ty fr) C] [Get l off v] {G : (List Value → World → Prop) → Value → Prop} [h : PG inj (fun K => G K v) w0 z0 B0 z L x] : PG inj (fun K => HV (ld t (.pointer (some ⟨b, off, none⟩))) w (G K)) w0 z0 B0 z L x := ⟨fun K hK => HV_ldL1 hS (h.h K hK)⟩
instance PW.hld1 {R : Value → World → Prop} {v0 : Value} {t off : Nat} {v : Value} {l : List Value} {ty : TypeId} {fr : Nat × Nat} [hS : Res w0 z0 B0 w z L] [g : TyOne t] [Blk L b (.cells l.toArray ty fr) C] [Get l off v] {G : Value → Prop} [h : PW (G v) R w0 z0 B0 v0] : PW (HV (ld t (.pointer (some ⟨b, off, none⟩))) w G) R w0 z0 B0 v0 := ⟨fun hK => HV_ldL1 hS (h.h hK)⟩
instance PG.hldN {α : Type} {inj : α → Value} {x : α} {t n off : Nat} {vs : List Value} {l : List Value} {ty : TypeId} {fr : Nat × Nat} [hS : Res w0 z0 B0 w z L] [g : TyAgg t n] [gs : TySize t n] [Blk L b (.cells l.toArray ty fr) C] [gn : GetN l off n vs] {G : (List Value → World → Prop) → Value → Prop} [h : PG inj (fun K => G K (.agg vs.toArray)) w0 z0 B0 z L x] : PG inj (fun K => HV (ld t (.pointer (some ⟨b, off, none⟩))) w (G K)) w0 z0 B0 z L x := ⟨fun K hK => HV_ldLN hS (h.h K hK)⟩
instance PW.hldN {R : Value → World → Prop} {v0 : Value} {t n off : Nat} {vs : List Value} {l : List Value} {ty : TypeId} {fr : Nat × Nat} [hS : Res w0 z0 B0 w z L] [g : TyAgg t n] [gs : TySize t n] [Blk L b (.cells l.toArray ty fr) C] [gn : GetN l off n vs] {G : Value → Prop} [h : PW (G (.agg vs.toArray)) R w0 z0 B0 v0] : PW (HV (ld t (.pointer (some ⟨b, off, none⟩))) w G) R w0 z0 B0 v0 := ⟨fun hK => HV_ldLN hS (h.h hK)⟩
instance (priority := 900) PG.fld1 {α : Type} {inj : α → Value} {x : α} {t off : Nat} {v : Value} [hS : Res w0 z0 B0 w z L] [g : TyOne t] [gf : Fz z0 b off [v]] {G : (List Value → World → Prop) → Value → World → Prop} [h : PG inj (fun K => G K v w) w0 z0 B0 z L x] : PG inj (fun K => V (ld t (.pointer (some ⟨b, off, none⟩))) w (G K)) w0 z0 B0 z L x := ⟨fun K hK => fV_ld1 (h.h K hK)⟩
instance (priority := 900) PW.fld1 {R : Value → World → Prop} {v0 : Value} {t off : Nat} {v : Value} [hS : Res w0 z0 B0 w z L] [g : TyOne t] [gf : Fz z0 b off [v]] {G : Value → World → Prop} [h : PW (G v w) R w0 z0 B0 v0] : PW (V (ld t (.pointer (some ⟨b, off, none⟩))) w G) R w0 z0 B0 v0 := ⟨fun hK => fV_ld1 (h.h hK)⟩
instance (priority := 900) PG.fldN {α : Type} {inj : α → Value} {x : α} {t n off : Nat} {vs : List Value} [hS : Res w0 z0 B0 w z L] [g : TyAgg t n] [gs : TySize t n] [gf : Fz z0 b off vs] [hl : LenIs vs n] {G : (List Value → World → Prop) → Value → World → Prop} [h : PG inj (fun K => G K (.agg vs.toArray) w) w0 z0 B0 z L x] : PG inj (fun K => V (ld t (.pointer (some ⟨b, off, none⟩))) w (G K)) w0 z0 B0 z L x := ⟨fun K hK => fV_ldN (h.h K hK)⟩
instance (priority := 900) PW.fldN {R : Value → World → Prop} {v0 : Value} {t n off : Nat} {vs : List Value} [hS : Res w0 z0 B0 w z L] [g : TyAgg t n] [gs : TySize t n] [gf : Fz z0 b off vs] [hl : LenIs vs n] {G : Value → World → Prop} [h : PW (G (.agg vs.toArray) w) R w0 z0 B0 v0] : PW (V (ld t (.pointer (some ⟨b, off, none⟩))) w G) R w0 z0 B0 v0 := ⟨fun hK => fV_ldN (h.h hK)⟩
instance (priority := 900) PG.fhld1 {α : Type} {inj : α → Value} {x : α} {t off : Nat} {v : Value} [hS : Res w0 z0 B0 w z L] [g : TyOne t] [gf : Fz z0 b off [v]] {G : (List Value → World → Prop) → Value → Prop} [h : PG inj (fun K => G K v) w0 z0 B0 z L x] : PG inj (fun K => HV (ld t (.pointer (some ⟨b, off, none⟩))) w (G K)) w0 z0 B0 z L x := ⟨fun K hK => fHV_ld1 (h.h K hK)⟩
instance (priority := 900) PW.fhld1 {R : Value → World → Prop} {v0 : Value} {t off : Nat} {v : Value} [hS : Res w0 z0 B0 w z L] [g : TyOne t] [gf : Fz z0 b off [v]] {G : Value → Prop} [h : PW (G v) R w0 z0 B0 v0] : PW (HV (ld t (.pointer (some ⟨b, off, none⟩))) w G) R w0 z0 B0 v0 := ⟨fun hK => fHV_ld1 (h.h hK)⟩
instance PG.pk {α : Type} {inj : α → Value} {x : α} {c : Bool} {v v' : Value} {G : (List Value → World → Prop) → Value → Prop} [h : PG inj (fun K => G K (bif c then v else v')) w0 z0 B0 z L x] : PG inj (fun K => Pk (.bool c) v v' (G K)) w0 z0 B0 z L x := ⟨fun K hK => Pk_b (h.h K hK)⟩
instance PW.pk {R : Value → World → Prop} {v0 : Value} {c : Bool} {v v' : Value} {G : Value → Prop} [h : PW (G (bif c then v else v')) R w0 z0 B0 v0] : PW (Pk (.bool c) v v' G) R w0 z0 B0 v0 := ⟨fun hK => Pk_b (h.h hK)⟩
instance PG.nil {α : Type} {inj : α → Value} {x : α} {a : Addr} {G : (List Value → World → Prop) → Value → Prop} [h : PG inj (fun K => G K (.pointer (some a))) w0 z0 B0 z L x] : PG inj (fun K => NilW (.pointer (some a)) (G K)) w0 z0 B0 z L x := ⟨fun K hK => NilW_some (h.h K hK)⟩
instance PW.nil {R : Value → World → Prop} {v0 : Value} {a : Addr} {G : Value → Prop} [h : PW (G (.pointer (some a))) R w0 z0 B0 v0] : PW (NilW (.pointer (some a)) G) R w0 z0 B0 v0 := ⟨fun hK => NilW_some (h.h hK)⟩
instance PG.ri1 {α : Type} {inj : α → Value} {x : α} {t off : Nat} {v : Value} {l : List Value} {ty : TypeId} {fr : Nat × Nat} [hS : Res w0 z0 B0 w z L] [g : TyOne t] [Blk L b (.cells l.toArray ty fr) C] [Get l off v] {G : (List Value → World → Prop) → Prop} [h : PG inj G w0 z0 B0 z L x] : PG inj (fun K => RunIs (ld t (.pointer (some ⟨b, off, none⟩))) w v ∧ G K) w0 z0 B0 z L x := ⟨fun K hK => iRI_1 (h.h K hK)⟩
instance PW.ri1 {R : Value → World → Prop} {v0 : Value} {t off : Nat} {v : Value} {l : List Value} {ty : TypeId} {fr : Nat × Nat} [hS : Res w0 z0 B0 w z L] [g : TyOne t] [Blk L b (.cells l.toArray ty fr) C] [Get l off v] {G : Prop} [h : PW G R w0 z0 B0 v0] : PW (RunIs (ld t (.pointer (some ⟨b, off, none⟩))) w v ∧ G) R w0 z0 B0 v0 := ⟨fun hK => iRI_1 (h.h hK)⟩
instance PG.riN {α : Type} {inj : α → Value} {x : α} {t n off : Nat} {vs : List Value} {l : List Value} {ty : TypeId} {fr : Nat × Nat} [hS : Res w0 z0 B0 w z L] [g : TyAgg t n] [gs : TySize t n] [Blk L b (.cells l.toArray ty fr) C] [gn : GetN l off n vs] {G : (List Value → World → Prop) → Prop} [h : PG inj G w0 z0 B0 z L x] : PG inj (fun K => RunIs (ld t (.pointer (some ⟨b, off, none⟩))) w (.agg vs.toArray) ∧ G K) w0 z0 B0 z L x := ⟨fun K hK => iRI_N (h.h K hK)⟩
instance PW.riN {R : Value → World → Prop} {v0 : Value} {t n off : Nat} {vs : List Value} {l : List Value} {ty : TypeId} {fr : Nat × Nat} [hS : Res w0 z0 B0 w z L] [g : TyAgg t n] [gs : TySize t n] [Blk L b (.cells l.toArray ty fr) C] [gn : GetN l off n vs] {G : Prop} [h : PW G R w0 z0 B0 v0] : PW (RunIs (ld t (.pointer (some ⟨b, off, none⟩))) w (.agg vs.toArray) ∧ G) R w0 z0 B0 v0 := ⟨fun hK => iRI_N (h.h hK)⟩
instance (priority := 900) PG.rif {α : Type} {inj : α → Value} {x : α} {t off : Nat} {v : Value} [hS : Res w0 z0 B0 w z L] [g : TyOne t] [gf : Fz z0 b off [v]] {G : (List Value → World → Prop) → Prop} [h : PG inj G w0 z0 B0 z L x] : PG inj (fun K => RunIs (ld t (.pointer (some ⟨b, off, none⟩))) w v ∧ G K) w0 z0 B0 z L x := ⟨fun K hK => fRI_1 (h.h K hK)⟩
instance (priority := 900) PW.rif {R : Value → World → Prop} {v0 : Value} {t off : Nat} {v : Value} [hS : Res w0 z0 B0 w z L] [g : TyOne t] [gf : Fz z0 b off [v]] {G : Prop} [h : PW G R w0 z0 B0 v0] : PW (RunIs (ld t (.pointer (some ⟨b, off, none⟩))) w v ∧ G) R w0 z0 B0 v0 := ⟨fun hK => fRI_1 (h.h hK)⟩
instance PG.dr {α : Type} {inj : α → Value} {x : α} [hS : Res w0 z0 B0 w z L] {G : (List Value → World → Prop) → World → Prop} [h : ∀ q : Now w0 z0 B0 z L, PG inj (fun K => G K q.w) w0 z0 B0 z L x] : PG inj (fun K => Dr w (G K)) w0 z0 B0 z L x := ⟨fun K hK => Dr_intro hS fun w' hS' => (h ⟨w', hS'⟩).h K hK⟩
instance PW.dr {R : Value → World → Prop} {v0 : Value} [hS : Res w0 z0 B0 w z L] {G : World → Prop} [h : ∀ q : Now w0 z0 B0 z L, PW (G q.w) R w0 z0 B0 v0] : PW (Dr w G) R w0 z0 B0 v0 := ⟨fun hK => Dr_intro hS fun w' hS' => (h ⟨w', hS'⟩).h hK⟩
instance PG.call {α : Type} {inj : α → Value} {x : α} {f : FuncId} {args : Array Value} {v : Value} [hS : Res w0 z0 B0 w z L] [Enters f] [g : Pu f args v] {G : (List Value → World → Prop) → Value → World → Prop} [h : ∀ q : Later w0 z0 B0 z L, PG inj (fun K => G K v q.w) w0 z0 B0 q.z' L x] : PG inj (fun K => CV (.func (.func f) #[] #[]) args w (G K)) w0 z0 B0 z L x := ⟨fun K hK => CV_pu fun z' w' hz hS' => (h ⟨z', w', hz, hS'⟩).h K fun z'' w'' hz' hS'' => hK z'' w'' (hz.trans hz') hS''⟩
instance PW.call {R : Value → World → Prop} {v0 : Value} {f : FuncId} {args : Array Value} {v : Value} [hS : Res w0 z0 B0 w z L] [Enters f] [g : Pu f args v] {G : Value → World → Prop} [h : ∀ q : Later w0 z0 B0 z L, PW (G v q.w) R w0 z0 B0 v0] : PW (CV (.func (.func f) #[] #[]) args w G) R w0 z0 B0 v0 := ⟨fun hK => CV_pu fun z' w' hz hS' => (h ⟨z', w', hz, hS'⟩).h hK⟩
instance (priority := 900) PG.callz {α : Type} {inj : α → Value} {x : α} {f : FuncId} {args : Array Value} {v : Value} [hS : Res w0 z0 B0 w z L] [Enters f] [g : PuZ z0 f args v] {G : (List Value → World → Prop) → Value → World → Prop} [h : ∀ q : Later w0 z0 B0 z L, PG inj (fun K => G K v q.w) w0 z0 B0 q.z' L x] : PG inj (fun K => CV (.func (.func f) #[] #[]) args w (G K)) w0 z0 B0 z L x := ⟨fun K hK => CV_puz fun z' w' hz hS' => (h ⟨z', w', hz, hS'⟩).h K fun z'' w'' hz' hS'' => hK z'' w'' (hz.trans hz') hS''⟩
instance (priority := 900) PW.callz {R : Value → World → Prop} {v0 : Value} {f : FuncId} {args : Array Value} {v : Value} [hS : Res w0 z0 B0 w z L] [Enters f] [g : PuZ z0 f args v] {G : Value → World → Prop} [h : ∀ q : Later w0 z0 B0 z L, PW (G v q.w) R w0 z0 B0 v0] : PW (CV (.func (.func f) #[] #[]) args w G) R w0 z0 B0 v0 := ⟨fun hK => CV_puz fun z' w' hz hS' => (h ⟨z', w', hz, hS'⟩).h hK⟩
instance PG.bx {α : Type} {inj : α → Value} {x : α} {t : TypeId} {v : Value} {vs : List Value} [hS : Res w0 z0 B0 w z L] [g : CellsOf v vs] {G : (List Value → World → Prop) → Value → World → Prop} [h : ∀ q : Boxed w0 z0 B0 z L t vs, PG inj (fun K => G K (.pointer (some ⟨q.b, 0, none⟩)) q.w) w0 z0 B0 z ((q.b, .cells vs.toArray t (0, 0)) :: L) x] : PG inj (fun K => V (bx t v) w (G K)) w0 z0 B0 z L x := ⟨fun K hK => V_bx (g := g) hS fun b w' _ hS' => (h ⟨b, w', hS'⟩).h K fun z'' w'' hz hS'' => hK z'' w'' hz (hS''.sublist (List.sublist_cons_self _ _))⟩
instance PW.bx {R : Value → World → Prop} {v0 : Value} {t : TypeId} {v : Value} {vs : List Value} [hS : Res w0 z0 B0 w z L] [g : CellsOf v vs] {G : Value → World → Prop} [h : ∀ q : Boxed w0 z0 B0 z L t vs, PW (G (.pointer (some ⟨q.b, 0, none⟩)) q.w) R w0 z0 B0 v0] : PW (V (bx t v) w G) R w0 z0 B0 v0 := ⟨fun hK => V_bx (g := g) hS fun b w' _ hS' => (h ⟨b, w', hS'⟩).h hK⟩
instance PG.al {α : Type} {inj : α → Value} {x : α} {t : TypeId} {vs : List Value} [hS : Res w0 z0 B0 w z L] [g : TyZero t vs] {G : (List Value → World → Prop) → Value → World → Prop} [h : ∀ q : Boxed w0 z0 B0 z L t vs, PG inj (fun K => G K (.pointer (some ⟨q.b, 0, none⟩)) q.w) w0 z0 B0 z ((q.b, .cells vs.toArray t (0, 0)) :: L) x] : PG inj (fun K => V (al t) w (G K)) w0 z0 B0 z L x := ⟨fun K hK => V_al (g := g) hS fun b w' _ hS' => (h ⟨b, w', hS'⟩).h K fun z'' w'' hz hS'' => hK z'' w'' hz (hS''.sublist (List.sublist_cons_self _ _))⟩
instance PW.al {R : Value → World → Prop} {v0 : Value} {t : TypeId} {vs : List Value} [hS : Res w0 z0 B0 w z L] [g : TyZero t vs] {G : Value → World → Prop} [h : ∀ q : Boxed w0 z0 B0 z L t vs, PW (G (.pointer (some ⟨q.b, 0, none⟩)) q.w) R w0 z0 B0 v0] : PW (V (al t) w G) R w0 z0 B0 v0 := ⟨fun hK => V_al (g := g) hS fun b w' _ hS' => (h ⟨b, w', hS'⟩).h hK⟩
instance PW.st {R : Value → World → Prop} {v0 : Value} {t n off : Nat} {v : Value} {vs l l' : List Value} {ty : TypeId} [hS : Res w0 z0 B0 w z L] [g : Blk L b (.cells l.toArray ty (0, 0)) C] [gs : TySize t n] [gc : CellsOf v vs] [go : Ones vs] [hn : LenIs vs n] [gl : SetN l off vs l'] {G : World → Prop} [h : ∀ q : Now w0 z0 B0 z (C (.cells l'.toArray ty (0, 0))), PW (G q.w) R w0 z0 B0 v0] : PW (U (st t (.pointer (some ⟨b, off, none⟩)) v) w G) R w0 z0 B0 v0 := ⟨fun hK => U_st (C := C) hS hn.h fun w' hS' => (h ⟨w', hS'⟩).h hK⟩
instance PG.lit {α : Type} {inj : α → Value} {x : α} [hS : Res w0 z0 B0 w z L] : PG inj (fun K => K [inj x] w) w0 z0 B0 z L x := ⟨fun _ h => h _ _ (Le.refl _) hS⟩
instance PW.lit {R : Value → World → Prop} {v : Value} [hS : Res w0 z0 B0 w z L] : PW (R v w) R w0 z0 B0 v := ⟨fun h => h _ _ _ hS⟩
instance PG.cond {α : Type} {inj : α → Value} {x y : α} {A A' : (List Value → World → Prop) → Prop} {c : Bool} [h1 : PG inj A w0 z0 B0 z L x] [h2 : PG inj A' w0 z0 B0 z L y] : PG inj (fun K => CondW (.bool c) (A K) (A' K)) w0 z0 B0 z L (bif c then x else y) :=
  ⟨fun K hK => ⟨c, rfl, fun hb => h1.h K (by subst hb; exact hK), fun hb => h2.h K (by subst hb; exact hK)⟩⟩
instance PW.cond {R : Value → World → Prop} {A A' : Prop} {v v' : Value} {c : Bool} [h1 : PW A R w0 z0 B0 v] [h2 : PW A' R w0 z0 B0 v'] : PW (CondW (.bool c) A A') R w0 z0 B0 (bif c then v else v') :=
  ⟨fun hK => ⟨c, rfl, fun hb => h1.h (by subst hb; exact hK), fun hb => h2.h (by subst hb; exact hK)⟩⟩
instance (priority := 1000) PG.joinB {α : Type} {inj : α → Value} {y : α} {x : Bool} {H : (List Value → World → Prop) → Value → World → Prop} {body : (List Value → World → Prop) → (List Value → World → Prop) → Prop} [h1 : ∀ K, PG Value.bool (body K) w0 z0 B0 z L x] [h2 : ∀ q : Later w0 z0 B0 z L, PG inj (fun K => H K (Value.bool x) q.w) w0 z0 B0 q.z' L y] :
    PG inj (fun K => ∀ K1 : List Value → World → Prop, (∀ t w, (∀ _ : Env, H K t w) → K1 [t] w) → body K K1) w0 z0 B0 z L y :=
  ⟨fun K hK K1 hK1 => (h1 K).h K1 fun z' w' hz hS => hK1 _ _ fun _ => (h2 ⟨z', w', hz, hS⟩).h K fun z'' w'' hz' hS' => hK z'' w'' (hz.trans hz') hS'⟩
instance (priority := 1000) PW.joinB {R : Value → World → Prop} {v : Value} {x : Bool} {H : Value → World → Prop} {body : (List Value → World → Prop) → Prop} [h1 : PG Value.bool body w0 z0 B0 z L x] [h2 : ∀ q : Later w0 z0 B0 z L, PW (H (Value.bool x) q.w) R w0 z0 B0 v] :
    PW (∀ K1 : List Value → World → Prop, (∀ t w, (∀ _ : Env, H t w) → K1 [t] w) → body K1) R w0 z0 B0 v :=
  ⟨fun hK K1 hK1 => h1.h K1 fun z' w' hz hS => hK1 _ _ fun _ => (h2 ⟨z', w', hz, hS⟩).h hK⟩
instance (priority := 900) PG.joinI {α : Type} {inj : α → Value} {y : α} {x : Int} {H : (List Value → World → Prop) → Value → World → Prop} {body : (List Value → World → Prop) → (List Value → World → Prop) → Prop} [h1 : ∀ K, PG (Value.int .i64) (body K) w0 z0 B0 z L x] [h2 : ∀ q : Later w0 z0 B0 z L, PG inj (fun K => H K ((Value.int .i64) x) q.w) w0 z0 B0 q.z' L y] :
    PG inj (fun K => ∀ K1 : List Value → World → Prop, (∀ t w, (∀ _ : Env, H K t w) → K1 [t] w) → body K K1) w0 z0 B0 z L y :=
  ⟨fun K hK K1 hK1 => (h1 K).h K1 fun z' w' hz hS => hK1 _ _ fun _ => (h2 ⟨z', w', hz, hS⟩).h K fun z'' w'' hz' hS' => hK z'' w'' (hz.trans hz') hS'⟩
instance (priority := 900) PW.joinI {R : Value → World → Prop} {v : Value} {x : Int} {H : Value → World → Prop} {body : (List Value → World → Prop) → Prop} [h1 : PG (Value.int .i64) body w0 z0 B0 z L x] [h2 : ∀ q : Later w0 z0 B0 z L, PW (H ((Value.int .i64) x) q.w) R w0 z0 B0 v] :
    PW (∀ K1 : List Value → World → Prop, (∀ t w, (∀ _ : Env, H t w) → K1 [t] w) → body K1) R w0 z0 B0 v :=
  ⟨fun hK K1 hK1 => h1.h K1 fun z' w' hz hS => hK1 _ _ fun _ => (h2 ⟨z', w', hz, hS⟩).h hK⟩
instance (priority := 800) PG.joinS {α : Type} {inj : α → Value} {y : α} {x : ByteArray} {H : (List Value → World → Prop) → Value → World → Prop} {body : (List Value → World → Prop) → (List Value → World → Prop) → Prop} [h1 : ∀ K, PG Value.string (body K) w0 z0 B0 z L x] [h2 : ∀ q : Later w0 z0 B0 z L, PG inj (fun K => H K (Value.string x) q.w) w0 z0 B0 q.z' L y] :
    PG inj (fun K => ∀ K1 : List Value → World → Prop, (∀ t w, (∀ _ : Env, H K t w) → K1 [t] w) → body K K1) w0 z0 B0 z L y :=
  ⟨fun K hK K1 hK1 => (h1 K).h K1 fun z' w' hz hS => hK1 _ _ fun _ => (h2 ⟨z', w', hz, hS⟩).h K fun z'' w'' hz' hS' => hK z'' w'' (hz.trans hz') hS'⟩
instance (priority := 800) PW.joinS {R : Value → World → Prop} {v : Value} {x : ByteArray} {H : Value → World → Prop} {body : (List Value → World → Prop) → Prop} [h1 : PG Value.string body w0 z0 B0 z L x] [h2 : ∀ q : Later w0 z0 B0 z L, PW (H (Value.string x) q.w) R w0 z0 B0 v] :
    PW (∀ K1 : List Value → World → Prop, (∀ t w, (∀ _ : Env, H t w) → K1 [t] w) → body K1) R w0 z0 B0 v :=
  ⟨fun hK K1 hK1 => h1.h K1 fun z' w' hz hS => hK1 _ _ fun _ => (h2 ⟨z', w', hz, hS⟩).h hK⟩
theorem JGB {x : Bool} {rest : Value → World → Prop} {body : (List Value → World → Prop) → Prop} [g : PG Value.bool body w0 z0 B0 z L x] (h : ∀ z' w', Le z z' → Res w0 z0 B0 w' z' L → rest (.bool x) w') : ∀ K : List Value → World → Prop, (∀ t w, (∀ _ : Env, rest t w) → K [t] w) → body K :=
  fun K hK => g.h K fun z' w' hz hS => hK _ _ fun _ => h z' w' hz hS
theorem JGI {x : Int} {rest : Value → World → Prop} {body : (List Value → World → Prop) → Prop} [g : PG (Value.int .i64) body w0 z0 B0 z L x] (h : ∀ z' w', Le z z' → Res w0 z0 B0 w' z' L → rest (.int .i64 x) w') : ∀ K : List Value → World → Prop, (∀ t w, (∀ _ : Env, rest t w) → K [t] w) → body K :=
  fun K hK => g.h K fun z' w' hz hS => hK _ _ fun _ => h z' w' hz hS
/-! ### Sets as maps -/
section
variable {κ : Type} [DecidableEq κ]
class GetKV (l : List (κ × Value)) (n : κ) (zv : Value) (v : outParam Value) : Prop where
  h : (getK l n).getD zv = v
theorem gV_lk {K : Value → World → Prop} [hS : Res w0 z0 B0 w z L] {t k e : Nat} {mk : κ → Value} {zv v : Value} [g : TyMap t k e] [gk : KeyTy k mk] [gz : ZeroV e zv] {n : κ} {l : List (κ × Value)} [gb : Blk L b (mK mk l) C] [gv : GetKV l n zv v]
    (hk : K v w) : V (lk t (.map (some b)) (mk n) false) w K := kV_lk (C := C) (mk := mk) (zv := zv) (by rw [← gv.h] at hk; exact hk)
def setK {κ : Type} (h : List κ) : List (κ × Value) := h.map fun x => (x, .bool true)
def memK (h : List κ) (s : κ) : Bool := h.any fun x => decide (x = s)
theorem memK_iff {h : List κ} {s : κ} : memK h s = true ↔ s ∈ h := by simp [memK]
def insK (h : List κ) (s : κ) : List κ := bif memK h s then h else h ++ [s]
theorem getK_set (h : List κ) (s : κ) : getK (setK h) s = if memK h s then some (.bool true) else none := by
  rw [getK_find]
  unfold setK memK
  induction h with
  | nil => rfl
  | cons x h ih =>
    simp only [List.map_cons, List.find?_cons, List.any_cons]
    by_cases e : x = s
    · subst e; simp
    · simp only [decide_eq_false e, Bool.false_or]
      exact ih
instance {h : List κ} {s : κ} : GetKV (setK h) s (.bool false) (.bool (memK h s)) := ⟨by rw [getK_set]; cases memK h s <;> rfl⟩
theorem up_set (h : List κ) (s : κ) : upK (setK h) s (.bool true) = setK (insK h s) := by
  unfold upK
  have hg := getK_set h s
  unfold getK at hg
  cases ha : atK (setK h) s with
  | none =>
    rw [ha] at hg
    have : memK h s = false := by cases hm : memK h s with
      | false => rfl
      | true => rw [hm] at hg; cases hg
    simp [insK, this, setK]
  | some p =>
    rw [ha] at hg
    have hm : memK h s = true := by cases hm : memK h s with
      | true => rfl
      | false => rw [hm] at hg; cases hg
    obtain ⟨h1, _⟩ := atK_some ha
    rw [insK, hm]
    simp only [cond_true]
    refine List.ext_getElem? fun j => ?_
    rw [List.getElem?_set]
    split
    · rename_i hj
      subst hj
      have hlt := (List.getElem?_eq_some_iff.1 h1).1
      rw [if_pos hlt, h1]
      rw [hm] at hg
      simp only [Option.map_some, if_true, Option.some.injEq] at hg
      rw [hg]
    · rfl
theorem mem_ins {h : List κ} {s x : κ} : x ∈ insK h s ↔ x = s ∨ x ∈ h := by
  unfold insK
  cases hm : memK h s with
  | true => simp only [cond_true]; exact ⟨.inr, fun h' => h'.elim (fun e => e ▸ memK_iff.1 hm) id⟩
  | false => simp [or_comm]
theorem memK_ins {h : List κ} {s x : κ} : memK (insK h s) x = (decide (s = x) || memK h x) := by
  rw [Bool.eq_iff_iff]; simp only [memK_iff, mem_ins, Bool.or_eq_true, decide_eq_true_eq]
  exact ⟨fun h => h.imp (fun e => e.symm) id, fun h => h.imp (fun e => e.symm) id⟩
end
instance PG.lkS {α : Type} {inj : α → Value} {x : α} {t k e : Nat} {zv v : Value} {G : (List Value → World → Prop) → Value → World → Prop} [hS : Res w0 z0 B0 w z L] [g : TyMap t k e] [gk : TyStr k] [gz : ZeroV e zv] {n : ByteArray} {l : List (ByteArray × Value)} [gb : Blk L b (mK Value.string l) C] [gv : GetKV l n zv v] [h : PG inj (fun K => G K v w) w0 z0 B0 z L x] :
    PG inj (fun K => V (lk t (.map (some b)) (.string n) false) w (G K)) w0 z0 B0 z L x := ⟨fun K hK => gV_lk (C := C) (mk := Value.string) (zv := zv) (h.h K hK)⟩
instance PG.lkI {α : Type} {inj : α → Value} {x : α} {t k e : Nat} {kd : IntKind} {zv v : Value} {G : (List Value → World → Prop) → Value → World → Prop} [hS : Res w0 z0 B0 w z L] [g : TyMap t k e] [gk : TyInt k kd] [gz : ZeroV e zv] {n : Int} {l : List (Int × Value)} [gb : Blk L b (mK (Value.int kd) l) C] [gv : GetKV l n zv v] [h : PG inj (fun K => G K v w) w0 z0 B0 z L x] :
    PG inj (fun K => V (lk t (.map (some b)) (.int kd n) false) w (G K)) w0 z0 B0 z L x := ⟨fun K hK => gV_lk (C := C) (mk := Value.int kd) (zv := zv) (h.h K hK)⟩
/-- How a contract ends: the blocks that are named stay. -/
theorem finK (spec : List It) {L' : Bl} {R : Z → Bl → Prop} [hS : Res w0 z0 B0 w z L] [g : Keep L spec L'] (h : R z L') : ∃ z' B', Res w0 z0 B0 w z' B' ∧ R z' B' := ⟨z, L', hS.keep spec, h⟩
theorem finW {R : Value → World → Prop} {v v' : Value} [hS : Res w0 z0 B0 w z L] (hR : ∀ z' w' L', Res w0 z0 B0 w' z' L' → R v w') (h : v' = v) : R v' w := by subst h; exact hR _ _ _ hS
theorem PWret {G : Prop} {R : Value → World → Prop} {v v' : Value} [g : PW G R w0 z0 B0 v] (h : v = v') (hR : ∀ z' w' L', Res w0 z0 B0 w' z' L' → R v' w') : G := g.h (by subst h; exact hR)
/-- A function without loops. -/
theorem fnW {f : FuncId} {args : Array Value} {v v' : Value} {G : (Value → World → Prop) → Prop} (en : ∀ {R : Value → World → Prop}, G R → Calls Tryz.prog f args w (retK R)) (g : Res w z [] w z [] → ∀ R, PW (G R) R w z [] v) (h : v = v') : Fn1 f args z w fun _ r => r = v' :=
  Fn1.intro fun hS => en ((g hS _).h fun z' w' L' hS' => ⟨z', L', hS', h⟩)
/-- The same with a walk: what is returned is asked of an unknown continuation. -/
theorem fnA {f : FuncId} {args : Array Value} {v : Value} {G : (Value → World → Prop) → Prop} (en : ∀ {R : Value → World → Prop}, G R → Calls Tryz.prog f args w (retK R)) (g : Res w z [] w z [] → ∀ R : Value → World → Prop, (∀ z' w' L', Res w z [] w' z' L' → R v w') → G R) : Fn1 f args z w fun _ r => r = v :=
  Fn1.intro fun hS => en (g hS _ fun z' w' L' hS' => ⟨z', L', hS', rfl⟩)
/-- From here on memory as it is now is where the function begins. -/
theorem PWat {G : Prop} {R : Value → World → Prop} {v v' : Value} (hS : Res w0 z0 B0 w z L) (g : Res w z L w z L → PW G R w z L v) (h : v = v') (hR : ∀ z' w' L', Res w0 z0 B0 w' z' L' → R v' w') : G := by
  subst h
  have hS' : Res w0 z0 B0 w z (L ++ []) := by simpa using hS
  exact (g hS'.own).h fun z' w' L' k => hR z' w' (L' ++ []) (hS'.step k)
theorem Res.rebase {R : Value → World → Prop} {v : Value} (hS : Res w0 z0 B0 w z L) (hR : ∀ z' w' L', Res w0 z0 B0 w' z' L' → R v w') : Res w z L w z L ∧ ∀ z' w' L', Res w z L w' z' L' → R v w' := by
  have hS' : Res w0 z0 B0 w z (L ++ []) := by simpa using hS
  exact ⟨hS'.own, fun z' w' L' k => hR z' w' (L' ++ []) (hS'.step k)⟩
/-- An owned block is frozen. -/
theorem Res.frz (b : Nat) {cs : List Value} {t : TypeId} {fr : Nat × Nat} {R : Bl} (h : Res w0 z0 B0 w z L) [g : BringB L b (.cells cs.toArray t fr) R] : ∃ z', Le z z' ∧ Res w0 z0 B0 w z' R ∧ At z' b 0 cs :=
  ⟨_, (h.bringB b).freeze_le, (h.bringB b).freeze, _, _, _, if_pos rfl, fun j u hu => by simpa using hu⟩
end
end Go.Proofs.YtbeelfopmkbllaaGreatDoor
end

section
/- Parts of templates; whether nothing is too long. -/
set_option linter.unusedVariables false
set_option linter.unusedSimpArgs false
set_option maxRecDepth 20000
set_option synthInstance.maxHeartbeats 4000000
set_option synthInstance.maxSize 20000
namespace Go.Proofs.YtbeelfopmkbllaaGreatDoor
open Go Q Go.RowKit

def partM (p : PartM) : Bool :=
  if p.kind = 1 then varB p.text && decide (p.n = 0) else if p.kind = 3 then validB p.text && decide (p.n = 0)
  else if p.kind = 4 ∨ p.kind = 8 ∨ p.kind = 9 ∨ p.kind = 10 then decide (symKind p.text = 2) && decide (p.n = 0)
  else if p.kind = 5 ∨ p.kind = 6 ∨ p.kind = 7 then decide (p.text = ⟨#[]⟩) && inB p.n 0 999999999
  else if p.kind = 2 ∨ p.kind = 11 then decide (p.text = ⟨#[]⟩) && decide (p.n = 0) else false
instance {p : PartM} : Pu 149 #[p.v] (.bool (partM p)) := ⟨fun z w => fnW en149 (fun hS R => by unfold vc149; exact inferInstance) (by
  unfold partM
  simp only [Bool.cond_eq_ite, decide_eq_true_eq]
  (repeat' split) <;> simp_all)⟩
/-! ### An array's literal of larger elements -/
class MulN (i s : Nat) (o : outParam Nat) : Prop where
  h : i * s = o
instance {s : Nat} : MulN 0 s 0 := ⟨Nat.zero_mul s⟩
instance {s : Nat} : MulN 1 s s := ⟨Nat.one_mul s⟩
instance : MulN 2 2 4 := ⟨rfl⟩
instance : MulN 3 2 6 := ⟨rfl⟩
instance : MulN 4 2 8 := ⟨rfl⟩
instance : MulN 5 2 10 := ⟨rfl⟩
class FillG (s : Nat) (cells : List Value) (parts : List (Nat × Value)) (out : outParam (List Value)) : Prop where
  h : Instr.fill (fun i => some (i * s, s)) cells.toArray parts = some out.toArray
instance {s : Nat} {cells : List Value} : FillG s cells [] cells := ⟨rfl⟩
instance {s off : Nat} {cells cells' out vs : List Value} {i : Nat} {v : Value} {parts : List (Nat × Value)} [gm : MulN i s off] [gc : CellsOf v vs] [gl : LenIs vs s] [gs : SetN cells off vs cells'] [gf : FillG s cells' parts out] : FillG s cells ((i, v) :: parts) out := ⟨by
  unfold Instr.fill
  have hb := gs.bound
  have hl := gl.h
  have hb' : ¬ (i * s + s > cells.length) := by rw [gm.h]; omega
  simp only [gc.h, List.size_toArray, hl, ne_eq, not_true_eq_false, decide_false, Bool.false_or, decide_eq_true_eq, hb', if_false]
  have : (vs.toArray.zipIdx.foldl (fun cs (x : Value × Nat) => cs.setIfInBounds (i * s + x.2) x.1) cells.toArray) = cells'.toArray := by
    rw [← Array.foldl_toList, Array.toList_zipIdx, fold_set, Nat.add_zero, gm.h, gs.eq]
  rw [this]
  exact gf.h⟩
instance (priority := 800) {t n e s : Nat} {zs out : List Value} {parts : List (Nat × Value)} [g : TyArr t n e s] [gz : TyZero t zs] [gf : FillG s zs parts out] : Run (bd t parts.toArray) (.agg out.toArray) := ⟨fun w => by
  obtain ⟨v, h1, h2⟩ := gz.h
  simp only [bd, Instr.build, Sem.run_bind, h2, Result.andThen_ok, g.und, g.size, h1, gf.h]
  rfl⟩
instance : MulI 2 2 4 := ⟨rfl, by decide⟩
instance : MulI 3 2 6 := ⟨rfl, by decide⟩
instance : MulI 4 2 8 := ⟨rfl, by decide⟩
instance : MulI 5 2 10 := ⟨rfl, by decide⟩
instance (priority := 800) {t n e s o : Nat} [g : TyArr t n e s] [ga : TyAgg e s] [gs : TySize e s] {l vs : List Value} {i : Int} {k : IntKind} [gi : InR i n] [gm : MulI i s o] [gn : GetN l o s vs] : Run (ix t (.agg l.toArray) (.int k i)) (.agg vs.toArray) := ⟨fun w => by
  simp only [ix, Instr.index, asIntOf, pure_bind, Sem.run_bind, g.und, g.size, Result.andThen_ok, gi.h0, gi.h1, and_self, if_true, gm.h]
  rw [run_partN, gn.eq]⟩
instance : InR 3 ((6 : Nat) : Int) := ⟨by decide, by decide⟩
instance : InR 4 ((6 : Nat) : Int) := ⟨by decide, by decide⟩
instance : InR 5 ((6 : Nat) : Int) := ⟨by decide, by decide⟩
instance : InI (3 + 1) := ⟨by decide⟩
instance : InI (4 + 1) := ⟨by decide⟩
instance : InI (5 + 1) := ⟨by decide⟩
/-! ### limits -/
def shortB (s : ByteArray) : Bool := decide (s.size ≤ 1000)
instance {s : ByteArray} : Pu 137 #[.string s] (.bool (shortB s)) := ⟨fun z w => fnW en137 (fun hS R => by unfold vc137; exact inferInstance) (by unfold shortB; congr 1; exact decide_eq_decide.2 (by omega))⟩
def lim2 (l : List PartM) : Bool := decide (l.length ≤ 100) && l.all fun p => shortB p.text
def lim3 (l : List ItemM) : Bool := decide (l.length ≤ 10000)
abbrev shortV : Value := .func (.func 137) #[] #[]
theorem limits21 {z : Z} {w : World} {b : Nat} {p : PartM} (ha : At z b 0 [shortV]) : Va1 (.func (.func 141) #[] #[.pointer (some ⟨b, 0, none⟩)]) #[p.v] z w fun _ r => r = .bool (shortB p.text) :=
  haveI : Fz z b 0 [shortV] := ⟨ha⟩
  Fn1.va (args' := #[p.v, .pointer (some ⟨b, 0, none⟩)]) (fnW en141 (fun hS R => by unfold vc141; exact inferInstance) rfl) (by simp)
theorem limits2 {z : Z} {w : World} {b : Nat} {v : Value} {l : List PartM} (ha : At z b 0 [shortV]) (hv : SlR El.part z v l) : Va1 (.func (.func 139) #[] #[.pointer (some ⟨b, 0, none⟩)]) #[v] z w fun _ r => r = .bool (lim2 l) :=
  Fn1.va (args' := #[v, .pointer (some ⟨b, 0, none⟩)]) (Fn1.intro fun hS => en139 (by
    unfold vc139
    obtain ⟨_, a, k, rfl, _, _⟩ := hv.form
    (repeat (first | refine V_run ?_ | (refine J1 ?_; intro _ _)))
    refine Cond_d (fun h => ?_) (fun h => ?_)
    · refine CV_1 (fam1 (E := El.part) (p := fun p => shortB p.text) hv (fun z' w' cs x _ hz hr => ?_)) ?_
      · obtain ⟨rfl, _⟩ := hr
        exact limits21 (ha.mono hz)
      · rintro z5 w5 v5 hle5 hS5 rfl
        (repeat (refine K1 ?_))
        exact ret_eq (by rw [lim2, decide_eq_true (by omega)]; rfl)
    · (repeat (refine K1 ?_))
      exact ret_eq (by rw [lim2, decide_eq_false (by omega)]; rfl))) (by simp)
theorem limits3 {z : Z} {w : World} {v : Value} {l : List ItemM} (hv : SlR El.item z v l) : Va1 (.func (.func 144) #[] #[]) #[v] z w fun _ r => r = .bool (lim3 l) := by
  obtain ⟨_, a, k, rfl, _, _⟩ := hv.form
  refine Fn1.va (args' := #[.slice a l.length k]) (fnW en144 (fun hS R => by unfold vc144; exact inferInstance) ?_) (by simp)
  unfold lim3; congr 1; exact decide_eq_decide.2 (by omega)
theorem limits4 {z : Z} {w : World} {b : Nat} {p : SpotM} (ha : At z b 0 [shortV]) : Va1 (.func (.func 146) #[] #[.pointer (some ⟨b, 0, none⟩)]) #[p.v] z w fun _ r => r = .bool (shortB p.name) :=
  haveI : Fz z b 0 [shortV] := ⟨ha⟩
  Fn1.va (args' := #[p.v, .pointer (some ⟨b, 0, none⟩)]) (fnW en146 (fun hS R => by unfold vc146; exact inferInstance) rfl) (by simp)
def sizesL (c : CodeM) : List (Int × Int) := [(c.consts.length, 3000), (c.tmpls.length, 3000), (c.lists.length, 3000), (c.labels.length, 3000), (c.slots.length, 100), (c.ins.length, 12000)]
def limitsM (c : CodeM) : Bool := (sizesL c).all (fun p => decide (p.1 ≤ p.2)) && (c.tmpls.all lim2 && (c.consts.all shortB && (c.lists.all lim3 && c.labels.all fun s => shortB s.name)))
theorem limits_of {z : Z} {w : World} {v : Value} {c : CodeM} (hc : CodeR z v c) : Fn1 46 #[v] z w fun _ r => r = .bool (limitsM c) := fnA en46 (by
  intro hS R hR
  unfold vc46
  have hR' : ∀ z' w' L', Res w z [] w' z' L' → ∀ b, b = limitsM c → R (.bool b) w' := fun z' w' L' h b e => by subst e; exact hR z' w' L' h
  obtain ⟨a1, a2, a3, a4, a5, a6, k1, k2, k3, k4, k5, k6, rfl, h1, h2, h3, h4, h5, h6⟩ := hc.form
  refine iV_bx ?_
  intro bc w1 hbc hS1
  refine iV_al ?_
  intro bs w2 hbs hS2
  (repeat (first | refine V_run ?_ | refine iV_ld1 ?_ | refine iV_ldN ?_ | (refine iV_bx ?_; intro _ _ _ _) | (refine iU_st ?_; intro _ _)))
  refine LoopR1 (fun (k : Int) x => x = .int .i64 k ∧ 0 ≤ k ∧ k ≤ 6 ∧ (sizesL c).all (fun p => decide (p.1 ≤ p.2)) = ((sizesL c).drop k.toNat).all (fun p => decide (p.1 ≤ p.2))) (fun k => (6 - k).toNat) 0 ⟨rfl, by omega, by omega, rfl⟩ ?_
  rintro I M k x w3 z3 m ⟨rfl, gp, g0, g1⟩ hz3 hS3 back
  refine V_run ?_
  have : k = 0 ∨ k = 1 ∨ k = 2 ∨ k = 3 ∨ k = 4 ∨ k = 5 ∨ k = 6 := by omega
  rcases this with rfl | rfl | rfl | rfl | rfl | rfl | rfl
  · refine Cond_is rfl ?_
    (repeat (first | refine V_run ?_ | refine iV_ld1 ?_ | (refine iV_bx ?_; intro _ _ _ _) | (refine iU_st ?_; intro _ _)))
    rename_i hS4
    refine Cond_d (fun h => ?_) (fun h => ?_)
    · exact hR' _ _ _ hS4 _ (by rw [limitsM, g1, show ((sizesL c).drop (Int.toNat 0)).all (fun p => decide (p.1 ≤ p.2)) = false from by simp [sizesL]; omega]; rfl)
    · (repeat (refine V_run ?_))
      exact back 1 _ _ _ ⟨rfl, by omega, by omega, by rw [g1]; show (decide ((c.consts.length : Int) ≤ 3000) && _) = _; rw [decide_eq_true (by omega), Bool.true_and]; rfl⟩ (by (repeat (exact Le.refl _))) (hS4.sublist (List.sublist_cons_self _ _)) (by omega)
  · refine Cond_is rfl ?_
    (repeat (first | refine V_run ?_ | refine iV_ld1 ?_ | (refine iV_bx ?_; intro _ _ _ _) | (refine iU_st ?_; intro _ _)))
    rename_i hS4
    refine Cond_d (fun h => ?_) (fun h => ?_)
    · exact hR' _ _ _ hS4 _ (by rw [limitsM, g1, show ((sizesL c).drop (Int.toNat 1)).all (fun p => decide (p.1 ≤ p.2)) = false from by simp [sizesL]; omega]; rfl)
    · (repeat (refine V_run ?_))
      exact back 2 _ _ _ ⟨rfl, by omega, by omega, by rw [g1]; show (decide ((c.tmpls.length : Int) ≤ 3000) && _) = _; rw [decide_eq_true (by omega), Bool.true_and]; rfl⟩ (by (repeat (exact Le.refl _))) (hS4.sublist (List.sublist_cons_self _ _)) (by omega)
  · refine Cond_is rfl ?_
    (repeat (first | refine V_run ?_ | refine iV_ld1 ?_ | (refine iV_bx ?_; intro _ _ _ _) | (refine iU_st ?_; intro _ _)))
    rename_i hS4
    refine Cond_d (fun h => ?_) (fun h => ?_)
    · exact hR' _ _ _ hS4 _ (by rw [limitsM, g1, show ((sizesL c).drop (Int.toNat 2)).all (fun p => decide (p.1 ≤ p.2)) = false from by simp [sizesL]; omega]; rfl)
    · (repeat (refine V_run ?_))
      exact back 3 _ _ _ ⟨rfl, by omega, by omega, by rw [g1]; show (decide ((c.lists.length : Int) ≤ 3000) && _) = _; rw [decide_eq_true (by omega), Bool.true_and]; rfl⟩ (by (repeat (exact Le.refl _))) (hS4.sublist (List.sublist_cons_self _ _)) (by omega)
  · refine Cond_is rfl ?_
    (repeat (first | refine V_run ?_ | refine iV_ld1 ?_ | (refine iV_bx ?_; intro _ _ _ _) | (refine iU_st ?_; intro _ _)))
    rename_i hS4
    refine Cond_d (fun h => ?_) (fun h => ?_)
    · exact hR' _ _ _ hS4 _ (by rw [limitsM, g1, show ((sizesL c).drop (Int.toNat 3)).all (fun p => decide (p.1 ≤ p.2)) = false from by simp [sizesL]; omega]; rfl)
    · (repeat (refine V_run ?_))
      exact back 4 _ _ _ ⟨rfl, by omega, by omega, by rw [g1]; show (decide ((c.labels.length : Int) ≤ 3000) && _) = _; rw [decide_eq_true (by omega), Bool.true_and]; rfl⟩ (by (repeat (exact Le.refl _))) (hS4.sublist (List.sublist_cons_self _ _)) (by omega)
  · refine Cond_is rfl ?_
    (repeat (first | refine V_run ?_ | refine iV_ld1 ?_ | (refine iV_bx ?_; intro _ _ _ _) | (refine iU_st ?_; intro _ _)))
    rename_i hS4
    refine Cond_d (fun h => ?_) (fun h => ?_)
    · exact hR' _ _ _ hS4 _ (by rw [limitsM, g1, show ((sizesL c).drop (Int.toNat 4)).all (fun p => decide (p.1 ≤ p.2)) = false from by simp [sizesL]; omega]; rfl)
    · (repeat (refine V_run ?_))
      exact back 5 _ _ _ ⟨rfl, by omega, by omega, by rw [g1]; show (decide ((c.slots.length : Int) ≤ 100) && _) = _; rw [decide_eq_true (by omega), Bool.true_and]; rfl⟩ (by (repeat (exact Le.refl _))) (hS4.sublist (List.sublist_cons_self _ _)) (by omega)
  · refine Cond_is rfl ?_
    (repeat (first | refine V_run ?_ | refine iV_ld1 ?_ | (refine iV_bx ?_; intro _ _ _ _) | (refine iU_st ?_; intro _ _)))
    rename_i hS4
    refine Cond_d (fun h => ?_) (fun h => ?_)
    · exact hR' _ _ _ hS4 _ (by rw [limitsM, g1, show ((sizesL c).drop (Int.toNat 5)).all (fun p => decide (p.1 ≤ p.2)) = false from by simp [sizesL]; omega]; rfl)
    · (repeat (refine V_run ?_))
      exact back 6 _ _ _ ⟨rfl, by omega, by omega, by rw [g1]; show (decide ((c.ins.length : Int) ≤ 12000) && _) = _; rw [decide_eq_true (by omega), Bool.true_and]; rfl⟩ (by (repeat (exact Le.refl _))) (hS4.sublist (List.sublist_cons_self _ _)) (by omega)
  refine Cond_not rfl ?_
  have hsz : (sizesL c).all (fun p => decide (p.1 ≤ p.2)) = true := g1
  clear back hS hS1 hS2
  obtain ⟨zf, hzf, hS5, hat⟩ := hS3.frz bs
  clear hS3
  have hz5 := hz3.trans hzf
  haveI : Fz zf bs 0 [shortV] := ⟨hat⟩
  haveI : PuZ zf 138 #[.slice a2 c.tmpls.length k2, .func (.func 139) #[] #[.pointer (some ⟨bs, 0, none⟩)]] (.bool (c.tmpls.all lim2)) := ⟨fun z' w' hz => fam1 (E := El.sl El.part) (p := lim2) (h2.mono (hz5.trans hz)) fun z'' w'' cs x hm hz' hr => by
      obtain ⟨v, rfl, hv⟩ := hr
      exact limits2 (hat.mono (hz.trans hz')) hv⟩
  haveI : PuZ zf 142 #[.slice a1 c.consts.length k1, shortV] (.bool (c.consts.all shortB)) := ⟨fun z' w' hz => fam1 (E := El.str) (p := shortB) (h1.mono (hz5.trans hz)) fun z'' w'' cs x hm hz' hr => by
      obtain ⟨rfl, _⟩ := hr
      exact (puV : Va1 shortV #[.string x] z'' w'' _)⟩
  haveI : PuZ zf 143 #[.slice a3 c.lists.length k3, .func (.func 144) #[] #[]] (.bool (c.lists.all lim3)) := ⟨fun z' w' hz => fam1 (E := El.sl El.item) (p := lim3) (h3.mono (hz5.trans hz)) fun z'' w'' cs x hm hz' hr => by
      obtain ⟨v, rfl, hv⟩ := hr
      exact limits3 hv⟩
  haveI : PuZ zf 145 #[.slice a4 c.labels.length k4, .func (.func 146) #[] #[.pointer (some ⟨bs, 0, none⟩)]] (.bool (c.labels.all fun s => shortB s.name)) := ⟨fun z' w' hz => fam1 (E := El.spot) (p := fun s => shortB s.name) (h4.mono (hz5.trans hz)) fun z'' w'' cs x hm hz' hr => by
      obtain ⟨rfl, _⟩ := hr
      exact limits4 (hat.mono (hz.trans hz'))⟩
  refine PWat hS5 (fun hS6 => inferInstance) ?_ hR
  rw [limitsM, hsz]
  cases c.tmpls.all lim2 <;> cases c.consts.all shortB <;> cases c.lists.all lim3 <;> rfl)
end Go.Proofs.YtbeelfopmkbllaaGreatDoor
end

section
/- Constants, templates, lists, labels and slots that are right. -/
set_option linter.unusedVariables false
set_option linter.unusedSimpArgs false
set_option maxRecDepth 20000
set_option synthInstance.maxHeartbeats 4000000
set_option synthInstance.maxSize 20000
namespace Go.Proofs.YtbeelfopmkbllaaGreatDoor
open Go Q Go.RowKit

def tmplB (l : List PartM) : Bool := l.all partM
def listB (l : List ItemM) : Bool := decide (0 < l.length) && l.all fun x => varB x.name
def labS (n : Nat) (last : Int) (s : SpotM) : Bool × Int := (validB s.name && inB s.at_ last ((n : Int) - 1), max last s.at_)
def sloS (h : List ByteArray) (s : ByteArray) : Bool × List ByteArray := (decide (symKind s = 2) && !memK h s, insK h s)
def partsM (c : CodeM) : Bool := !decide (c.ins.length = 0) && (c.consts.all validB && (c.tmpls.all tmplB && (c.lists.all listB && ((allS (labS c.ins.length) 0 c.labels).1 && (allS sloS [] c.slots).1))))
theorem parts1 {z : Z} {w : World} {v : Value} {l : List PartM} (hv : SlR El.part z v l) : Va1 (.func (.func 148) #[] #[]) #[v] z w fun _ r => r = .bool (tmplB l) := by
  haveI : PuZ z 140 #[v, .func (.func 149) #[] #[]] (.bool (l.all partM)) := ⟨fun z' w' hz => fam1 (E := El.part) (p := partM) (hv.mono hz) fun z'' w'' cs x hm hz' hr => by
    obtain ⟨rfl, _⟩ := hr
    exact (puV : Va1 (.func (.func 149) #[] #[]) #[x.v] z'' w'' _)⟩
  exact Fn1.va (args' := #[v]) (fnW en148 (fun hS R => by unfold vc148; exact inferInstance) rfl) (by simp)
instance {x : ItemM} : Pu 152 #[x.v] (.bool (varB x.name)) := ⟨fun z w => fnW en152 (fun hS R => by unfold vc152; exact inferInstance) rfl⟩
theorem parts2 {z : Z} {w : World} {v : Value} {l : List ItemM} (hv : SlR El.item z v l) : Va1 (.func (.func 150) #[] #[]) #[v] z w fun _ r => r = .bool (listB l) := by
  obtain ⟨_, a, k, rfl, _, _⟩ := hv.form
  haveI : PuZ z 151 #[.slice a l.length k, .func (.func 152) #[] #[]] (.bool (l.all fun x => varB x.name)) := ⟨fun z' w' hz => fam1 (E := El.item) (p := fun x => varB x.name) (hv.mono hz) fun z'' w'' cs x hm hz' hr => by
    obtain ⟨rfl, _⟩ := hr
    exact (puV : Va1 (.func (.func 152) #[] #[]) #[x.v] z'' w'' _)⟩
  refine Fn1.va (args' := #[.slice a l.length k]) (fnW en150 (fun hS R => by unfold vc150; exact inferInstance) ?_) (by simp)
  unfold listB
  by_cases h : 0 < l.length
  · rw [decide_eq_true h, decide_eq_true (by omega)]; rfl
  · rw [decide_eq_false h, decide_eq_false (by omega)]; rfl
abbrev lastO (n : Int) : Obj := .cells [.int .i64 n].toArray 3 (0, 0)
theorem parts3 {z : Z} {w : World} {b4 bc n : Nat} {v1 v2 v3 v4 v5 : Value} {a : Option Addr} {k : Nat} {s : SpotM} {last : Int} (hn : n ≤ big) (ha : At z bc 0 [v1, v2, v3, v4, v5, .slice a n k]) :
    Va (.func (.func 154) #[] #[.pointer (some ⟨b4, 0, none⟩), .pointer (some ⟨bc, 0, none⟩)]) #[s.v] z [(b4, lastO last)] w fun _ B' r => r = .bool (labS n last s).1 ∧ B' = [(b4, lastO (labS n last s).2)] :=
  Fn.va (args' := #[s.v, .pointer (some ⟨b4, 0, none⟩), .pointer (some ⟨bc, 0, none⟩)]) (Fn.intro fun hS => en154 (by
    unfold vc154
    haveI := inI_len hn
    haveI : Fz z bc 5 [.slice a n k] := ⟨ha.fld (i := 5) rfl rfl⟩
    refine iV_bx ?_
    intro b1 w1 hb1 hS1
    clear hS
    (repeat (first | (refine iDr ?_; intro _ _) | refine V_run ?_ | refine PV_run ?_ | refine HV_run ?_ | refine iV_ld1 ?_ | refine iV_ldN ?_ | (refine iV_bx ?_; intro _ _ _ _) | (refine iV_al ?_; intro _ _ _ _) | (refine iV_mm ?_; intro _ _ _ _) | (refine iU_st ?_; intro _ _) | refine iHV_1 ?_ | refine iHV_N ?_ | refine iRI_1 ?_ | refine iRI_N ?_ | refine Cond_t ?_ | refine Cond_f ?_ | refine JB ?_ | (refine JC ?_; intro _ _ _ _) | (refine JGB ?_; intro _ _ _ _) | (refine J1 ?_; intro _ _) | (refine J0 ?_; intro _ _) | (refine J2 ?_; intro _ _) | (refine J3 ?_; intro _ _) | (refine J4 ?_; intro _ _) | refine K1 ?_ | refine K0 ?_ | refine K2 ?_ | refine K3 ?_ | refine K4 ?_ | (refine CV_pu ?_; intro _ _ _ _) | (refine CV_puz ?_; intro _ _ _ _) | refine fRI_1 ?_ | refine fV_ldN ?_ | refine fV_ld1 ?_ | refine fHV_ldN ?_ | refine fHV_ld1 ?_ | refine NilW_some ?_ | refine iCW_1 ?_ | refine iCW_N ?_ | refine Pk_b ?_))
    dsimp only
    exact finK [.at b4] ⟨by rw [labS]; cases validB s.name <;> rfl, rfl⟩)) (by simp)
abbrev hadO (h : List ByteArray) : Obj := mK Value.string (setK h)
theorem parts4 {z : Z} {w : World} {b6 bm : Nat} {s : ByteArray} {h : List ByteArray} :
    Va (.func (.func 155) #[] #[.pointer (some ⟨b6, 0, none⟩)]) #[.string s] z [(b6, .cells [.map (some bm)].toArray 231 (0, 0)), (bm, hadO h)] w fun _ B' r => r = .bool (sloS h s).1 ∧ B' = [(b6, .cells [.map (some bm)].toArray 231 (0, 0)), (bm, hadO (sloS h s).2)] :=
  Fn.va (args' := #[.string s, .pointer (some ⟨b6, 0, none⟩)]) (Fn.intro fun hS => en155 (by
    unfold vc155
    haveI : ZeroV 8 (.bool false) := ⟨fun _ => by kernel_rfl⟩
    (repeat (first | (refine iDr ?_; intro _ _) | refine V_run ?_ | refine PV_run ?_ | refine HV_run ?_ | refine iV_ld1 ?_ | refine iV_ldN ?_ | (refine iV_bx ?_; intro _ _ _ _) | (refine iV_al ?_; intro _ _ _ _) | (refine iV_mm ?_; intro _ _ _ _) | (refine iU_st ?_; intro _ _) | refine iHV_1 ?_ | refine iHV_N ?_ | refine iRI_1 ?_ | refine iRI_N ?_ | refine Cond_t ?_ | refine Cond_f ?_ | refine JB ?_ | (refine JC ?_; intro _ _ _ _) | (refine JGB ?_; intro _ _ _ _) | (refine J1 ?_; intro _ _) | (refine J0 ?_; intro _ _) | (refine J2 ?_; intro _ _) | (refine J3 ?_; intro _ _) | (refine J4 ?_; intro _ _) | refine K1 ?_ | refine K0 ?_ | refine K2 ?_ | refine K3 ?_ | refine K4 ?_ | (refine CV_pu ?_; intro _ _ _ _) | (refine CV_puz ?_; intro _ _ _ _) | refine fRI_1 ?_ | refine fV_ldN ?_ | refine fV_ld1 ?_ | refine fHV_ldN ?_ | refine fHV_ld1 ?_ | refine NilW_some ?_ | refine iCW_1 ?_ | refine iCW_N ?_ | refine Pk_b ?_))
    refine kU_mu (mk := Value.string) ?_
    intro w2 hS2
    rw [up_set] at hS2
    refine ⟨_, _, hS2, ?_, rfl⟩
    rw [sloS]; cases decide (symKind s = 2) <;> rfl)) (by simp)
theorem parts_of {z : Z} {w : World} {v : Value} {c : CodeM} (hc : CodeR z v c) : Fn1 47 #[v] z w fun _ r => r = .bool (partsM c) := fnA en47 (by
  intro hS R hR
  unfold vc47
  obtain ⟨a1, a2, a3, a4, a5, a6, k1, k2, k3, k4, k5, k6, rfl, h1, h2, h3, h4, h5, h6⟩ := hc.form
  refine iV_bx ?_
  intro bc w1 hbc hS1
  obtain ⟨zc, hzc, hS2, hat⟩ := hS1.frz bc
  clear hS hS1
  obtain ⟨hS3, hR3⟩ := hS2.rebase hR
  clear hS2 hR
  haveI : Fz zc bc 0 [.slice a1 c.consts.length k1] := ⟨hat.fld (i := 0) rfl rfl⟩
  haveI : Fz zc bc 1 [.slice a2 c.tmpls.length k2] := ⟨hat.fld (i := 1) rfl rfl⟩
  haveI : Fz zc bc 2 [.slice a3 c.lists.length k3] := ⟨hat.fld (i := 2) rfl rfl⟩
  haveI : Fz zc bc 3 [.slice a4 c.labels.length k4] := ⟨hat.fld (i := 3) rfl rfl⟩
  haveI : Fz zc bc 4 [.slice a5 c.slots.length k5] := ⟨hat.fld (i := 4) rfl rfl⟩
  haveI : Fz zc bc 5 [.slice a6 c.ins.length k6] := ⟨hat.fld (i := 5) rfl rfl⟩
  haveI : PuZ zc 138 #[.slice a2 c.tmpls.length k2, .func (.func 148) #[] #[]] (.bool (c.tmpls.all tmplB)) := ⟨fun z' w' hz => fam1 (E := El.sl El.part) (p := tmplB) (h2.mono (hzc.trans hz)) fun z'' w'' cs x hm hz' hr => by
    obtain ⟨v, rfl, hv⟩ := hr
    exact parts1 hv⟩
  haveI : PuZ zc 142 #[.slice a1 c.consts.length k1, .func (.func 147) #[] #[]] (.bool (c.consts.all validB)) := ⟨fun z' w' hz => fam1 (E := El.str) (p := validB) (h1.mono (hzc.trans hz)) fun z'' w'' cs x hm hz' hr => by
    obtain ⟨rfl, _⟩ := hr
    exact (puV : Va1 (.func (.func 147) #[] #[]) #[.string x] z'' w'' _)⟩
  haveI : PuZ zc 143 #[.slice a3 c.lists.length k3, .func (.func 150) #[] #[]] (.bool (c.lists.all listB)) := ⟨fun z' w' hz => fam1 (E := El.sl El.item) (p := listB) (h3.mono (hzc.trans hz)) fun z'' w'' cs x hm hz' hr => by
    obtain ⟨v, rfl, hv⟩ := hr
    exact parts2 hv⟩
  (repeat (first | (refine iDr ?_; intro _ _) | refine V_run ?_ | refine PV_run ?_ | refine HV_run ?_ | refine iV_ld1 ?_ | refine iV_ldN ?_ | (refine iV_bx ?_; intro _ _ _ _) | (refine iV_al ?_; intro _ _ _ _) | (refine iV_mm ?_; intro _ _ _ _) | (refine iU_st ?_; intro _ _) | refine iHV_1 ?_ | refine iHV_N ?_ | refine iRI_1 ?_ | refine iRI_N ?_ | refine Cond_t ?_ | refine Cond_f ?_ | refine JB ?_ | (refine JC ?_; intro _ _ _ _) | (refine JGB ?_; intro _ _ _ _) | (refine J1 ?_; intro _ _) | (refine J0 ?_; intro _ _) | (refine J2 ?_; intro _ _) | (refine J3 ?_; intro _ _) | (refine J4 ?_; intro _ _) | refine K1 ?_ | refine K0 ?_ | refine K2 ?_ | refine K3 ?_ | refine K4 ?_ | (refine CV_pu ?_; intro _ _ _ _) | (refine CV_puz ?_; intro _ _ _ _) | refine fRI_1 ?_ | refine fV_ldN ?_ | refine fV_ld1 ?_ | refine fHV_ldN ?_ | refine fHV_ld1 ?_ | refine NilW_some ?_ | refine iCW_1 ?_ | refine iCW_N ?_ | refine Pk_b ?_))
  refine Cond_b (fun e => ?_) (fun e => ?_)
  · refine finW hR3 ?_
    rw [partsM]
    revert e
    rw [show decide ((c.ins.length : Int) = 0) = decide (c.ins.length = 0) from decide_eq_decide.2 (by omega)]
    cases decide (c.ins.length = 0) <;> cases c.consts.all validB <;> cases c.tmpls.all tmplB <;> simp
  · have e1 : partsM c = (c.lists.all listB && ((allS (labS c.ins.length) 0 c.labels).1 && (allS sloS [] c.slots).1)) := by
      rw [partsM]
      revert e
      rw [show decide ((c.ins.length : Int) = 0) = decide (c.ins.length = 0) from decide_eq_decide.2 (by omega)]
      cases decide (c.ins.length = 0) <;> cases c.consts.all validB <;> cases c.tmpls.all tmplB <;> simp
    (repeat (first | (refine iDr ?_; intro _ _) | refine V_run ?_ | refine PV_run ?_ | refine HV_run ?_ | refine iV_ld1 ?_ | refine iV_ldN ?_ | (refine iV_bx ?_; intro _ _ _ _) | (refine iV_al ?_; intro _ _ _ _) | (refine iV_mm ?_; intro _ _ _ _) | (refine iU_st ?_; intro _ _) | refine iHV_1 ?_ | refine iHV_N ?_ | refine iRI_1 ?_ | refine iRI_N ?_ | refine Cond_t ?_ | refine Cond_f ?_ | refine JB ?_ | (refine JC ?_; intro _ _ _ _) | (refine JGB ?_; intro _ _ _ _) | (refine J1 ?_; intro _ _) | (refine J0 ?_; intro _ _) | (refine J2 ?_; intro _ _) | (refine J3 ?_; intro _ _) | (refine J4 ?_; intro _ _) | refine K1 ?_ | refine K0 ?_ | refine K2 ?_ | refine K3 ?_ | refine K4 ?_ | (refine CV_pu ?_; intro _ _ _ _) | (refine CV_puz ?_; intro _ _ _ _) | refine fRI_1 ?_ | refine fV_ldN ?_ | refine fV_ld1 ?_ | refine fHV_ldN ?_ | refine fHV_ld1 ?_ | refine NilW_some ?_ | refine iCW_1 ?_ | refine iCW_N ?_ | refine Pk_b ?_))
    rename_i b4 _ _ _ w5 hS5
    refine CV_fn (B := [(b4, lastO 0)]) (F := []) (by simpa using hS5) ((inferInstance : Fam El.spot 145 aggN).h (σ := Int) (fun s => [(b4, lastO s)]) (labS c.ins.length) 0 (h4.mono (hzc.trans hS5.zle)) (fun z' w' s cs x hm hz hr => by
      obtain ⟨rfl, _⟩ := hr
      exact parts3 h6.big (hat.mono (hS5.zle.trans hz)))) (by simp) ?_
    rintro z6 B6 w6 v6 hz6 hS6 ⟨rfl, rfl⟩
    rw [List.append_nil] at hS6
    refine kV_mm (mk := Value.string) ?_
    intro bm w7 hbm hS7
    refine iV_al ?_
    intro b6 w8 hb6 hS8
    clear hS7
    (repeat (first | (refine iDr ?_; intro _ _) | refine V_run ?_ | refine PV_run ?_ | refine HV_run ?_ | refine iV_ld1 ?_ | refine iV_ldN ?_ | (refine iV_bx ?_; intro _ _ _ _) | (refine iV_al ?_; intro _ _ _ _) | (refine iV_mm ?_; intro _ _ _ _) | (refine iU_st ?_; intro _ _) | refine iHV_1 ?_ | refine iHV_N ?_ | refine iRI_1 ?_ | refine iRI_N ?_ | refine Cond_t ?_ | refine Cond_f ?_ | refine JB ?_ | (refine JC ?_; intro _ _ _ _) | (refine JGB ?_; intro _ _ _ _) | (refine J1 ?_; intro _ _) | (refine J0 ?_; intro _ _) | (refine J2 ?_; intro _ _) | (refine J3 ?_; intro _ _) | (refine J4 ?_; intro _ _) | refine K1 ?_ | refine K0 ?_ | refine K2 ?_ | refine K3 ?_ | refine K4 ?_ | (refine CV_pu ?_; intro _ _ _ _) | (refine CV_puz ?_; intro _ _ _ _) | refine fRI_1 ?_ | refine fV_ldN ?_ | refine fV_ld1 ?_ | refine fHV_ldN ?_ | refine fHV_ld1 ?_ | refine NilW_some ?_ | refine iCW_1 ?_ | refine iCW_N ?_ | refine Pk_b ?_))
    rename_i w9 hS9
    have hS10 := hS9.keep [.at b6, .at bm]
    clear hS9 hS8 hS6 hS3
    refine CV_fn (B := [(b6, .cells [.map (some bm)].toArray 231 (0, 0)), (bm, hadO [])]) (F := []) (by rw [List.append_nil]; exact hS10) ((inferInstance : Fam El.str 142 one1).h (σ := List ByteArray) (fun h => [(b6, .cells [.map (some bm)].toArray 231 (0, 0)), (bm, hadO h)]) sloS [] (h5.mono (hzc.trans hS10.zle)) (fun z' w' s cs x hm hz hr => by
      obtain ⟨rfl, _⟩ := hr
      exact parts4)) (by simp) ?_
    rintro z11 B11 w11 v11 hz11 hS11 ⟨rfl, rfl⟩
    rw [List.append_nil] at hS11
    (repeat (first | (refine iDr ?_; intro _ _) | refine V_run ?_ | refine PV_run ?_ | refine HV_run ?_ | refine iV_ld1 ?_ | refine iV_ldN ?_ | (refine iV_bx ?_; intro _ _ _ _) | (refine iV_al ?_; intro _ _ _ _) | (refine iV_mm ?_; intro _ _ _ _) | (refine iU_st ?_; intro _ _) | refine iHV_1 ?_ | refine iHV_N ?_ | refine iRI_1 ?_ | refine iRI_N ?_ | refine Cond_t ?_ | refine Cond_f ?_ | refine JB ?_ | (refine JC ?_; intro _ _ _ _) | (refine JGB ?_; intro _ _ _ _) | (refine J1 ?_; intro _ _) | (refine J0 ?_; intro _ _) | (refine J2 ?_; intro _ _) | (refine J3 ?_; intro _ _) | (refine J4 ?_; intro _ _) | refine K1 ?_ | refine K0 ?_ | refine K2 ?_ | refine K3 ?_ | refine K4 ?_ | (refine CV_pu ?_; intro _ _ _ _) | (refine CV_puz ?_; intro _ _ _ _) | refine fRI_1 ?_ | refine fV_ldN ?_ | refine fV_ld1 ?_ | refine fHV_ldN ?_ | refine fHV_ld1 ?_ | refine NilW_some ?_ | refine iCW_1 ?_ | refine iCW_N ?_ | refine Pk_b ?_))
    exact finW hR3 (by rw [e1]; cases c.lists.all listB <;> cases (allS (labS c.ins.length) 0 c.labels).1 <;> rfl))
end Go.Proofs.YtbeelfopmkbllaaGreatDoor
end

section
/- Loops over functions. -/
set_option linter.unusedVariables false
set_option linter.unusedSimpArgs false
set_option linter.unusedSectionVars false
set_option maxRecDepth 20000
set_option synthInstance.maxHeartbeats 400000
set_option synthInstance.maxSize 2000
namespace Go.Proofs.YtbeelfopmkbllaaGreatDoor
open Go Q Go.RowKit

theorem CE_fn {f : FuncId} [he : Enters f] {first args cap args' : Array Value} {w : World} {K : Value → World → Prop} (ha : first ++ args ++ cap = args') (h : Calls Tryz.prog f args' w (retK K)) : CE (.func (.func f) first cap) args w K := by
  subst ha
  have : (callSem (.func (.func f) first cap) args).run Tryz.prog w = .ok (.enter f (first ++ args ++ cap)) w := by
    simp only [callSem, Deferred.ofValue, pure_bind, invoke]
    exact he.h _ _
  unfold CE CallE
  rw [this]
  exact h
theorem Res.rf {w0 w w1 : World} {z0 z : Z} {B0 L : Bl} {r l : Nat} {lp : Loop} (h : Res w0 z0 B0 w z L) (hn : NewRF w w1 r l lp) : Res w0 z0 B0 w1 z ((l, lobj lp .ready none) :: (r, .deferred (some [])) :: L) := by
  obtain ⟨rfl, rfl, rfl⟩ := hn
  have := Res.new (Res.new h (.deferred (some []))) (lobj lp .ready none)
  simpa using this
theorem iBegin {w0 w : World} {z0 z : Z} {B0 L : Bl} {C : Obj → Bl} {l : Nat} {lp : Loop} {K : World → Prop} [hS : Res w0 z0 B0 w z L] [g : Blk L l (lobj lp .ready none) C] (hk : ∀ w', Res w0 z0 B0 w' z (C (lobj lp .busy none)) → K w') : BeginW l lp w K := ⟨Res.at_ (g := g) hS, hk _ (Res.set (g := g) hS _ rfl)⟩
theorem iEnd {w0 w : World} {z0 z : Z} {B0 L : Bl} {C : Obj → Bl} {l : Nat} {lp : Loop} {st : LoopState} {pend jump : Option Code} {K : Value → World → Prop} [hS : Res w0 z0 B0 w z L] [g : Blk L l (lobj lp st pend) C] (hk : ∀ w', Res w0 z0 B0 w' z (C (lobj lp (if jump.isNone then .ready else .done) jump)) → K (.bool jump.isNone) w') : EndW l lp jump w K := ⟨⟨st, pend, Res.at_ (g := g) hS⟩, hk _ (Res.set (g := g) hS _ rfl)⟩
theorem iRfEnd {w0 w : World} {z0 z : Z} {B0 L : Bl} {C : Obj → Bl} {l : Nat} {lp : Loop} {st : LoopState} {pend : Option Code} {Kn Kr : World → Prop} {kes : List (Nat × (World → Prop))} [hS : Res w0 z0 B0 w z L] [g : Blk L l (lobj lp st pend) C] (hst : st ≠ .busy) (hk : ∀ w', Res w0 z0 B0 w' z (C (lobj lp .exhausted pend)) → jumpK pend Kn Kr kes w') : RfEnd l lp w Kn Kr kes := ⟨st, pend, Res.at_ (g := g) hS, hst, hk _ (Res.set (g := g) hS _ rfl)⟩
theorem iTake {w0 w : World} {z0 z : Z} {B0 L : Bl} {C : Obj → Bl} {r : Nat} {K : World → Prop} [hS : Res w0 z0 B0 w z L] [g : Blk L r (.deferred (some [])) C] (hk : ∀ w', Res w0 z0 B0 w' z (C (.deferred none)) → K w') : Take1 r w K := ⟨Res.at_ (g := g) hS, hk _ (Res.set (g := g) hS _ rfl)⟩
theorem iTakeW {w : World} {r : Nat} {K : World → Prop} (h : Take1 r w K) : TakeW (marks (.iface r undef)) w K := by
  rw [marks_iface]
  exact h


/-- The marks of many loops. -/
def markB (rs : List Nat) : Bl := rs.map fun r => (r, .deferred (some []))
theorem iTakes {w0 : World} {z0 z : Z} {B0 L : Bl} {K : World → Prop} : ∀ (rs : List Nat) {w : World}, Res w0 z0 B0 w z (markB rs ++ L) → (∀ w', Res w0 z0 B0 w' z L → K w') → TakeW rs w K
  | [], w, h, hk => hk w (by simpa [markB] using h)
  | r :: rs, w, h, hk => by
    have h' : Res w0 z0 B0 w z ((r, .deferred (some [])) :: (markB rs ++ L)) := h
    refine ⟨(h'.mem _ List.mem_cons_self).1, ?_⟩
    exact iTakes rs ((h'.put (.deferred none) rfl).sublist (List.sublist_cons_self _ _)) hk
theorem fRI_N {A : Prop} {w0 w : World} {z0 z : Z} {B0 L : Bl} {b : Nat} [hS : Res w0 z0 B0 w z L] {t n : TypeId} [g : TyAgg t n] [gs : TySize t n] {off : Nat} {vs : List Value} [h : Fz z0 b off vs] [hl : LenIs vs n] (ha : A) : RunIs (ld t (.pointer (some ⟨b, off, none⟩))) w (.agg vs.toArray) ∧ A := ⟨run_ldN ((h.h.mono hS.zle).world hS.sub) hl.h, ha⟩
section
variable {w0 w w' : World} {z0 z z' : Z} {B0 B B' L F : Bl} {b : Nat} {o : Obj} {C : Obj → Bl}
theorem gV_lkI {K : Value → World → Prop} [hS : Res w0 z0 B0 w z L] {t k e : Nat} {kd : IntKind} {zv v : Value} [g : TyMap t k e] [gk : TyInt k kd] [gz : ZeroV e zv] {n : Int} {l : List (Int × Value)} [gb : Blk L b (mK (Value.int kd) l) C] [gv : GetKV l n zv v]
    (hk : K v w) : V (lk t (.map (some b)) (.int kd n) false) w K := gV_lk (C := C) (mk := Value.int kd) (zv := zv) hk
theorem gHV_lkI {K : Value → Prop} [hS : Res w0 z0 B0 w z L] {t k e : Nat} {kd : IntKind} {zv v : Value} [g : TyMap t k e] [gk : TyInt k kd] [gz : ZeroV e zv] {n : Int} {l : List (Int × Value)} [gb : Blk L b (mK (Value.int kd) l) C] [gv : GetKV l n zv v]
    (hk : K v) : HV (lk t (.map (some b)) (.int kd n) false) w K := kHV_lk (C := C) (mk := Value.int kd) (zv := zv) (by rw [if_neg (by simp), gv.h]; exact hk)
theorem gRI_lkI {A : Prop} [hS : Res w0 z0 B0 w z L] {t k e : Nat} {kd : IntKind} {zv v : Value} [g : TyMap t k e] [gk : TyInt k kd] [gz : ZeroV e zv] {n : Int} {l : List (Int × Value)} [gb : Blk L b (mK (Value.int kd) l) C] [gv : GetKV l n zv v]
    (hk : A) : RunIs (lk t (.map (some b)) (.int kd n) false) w v ∧ A := by
  have := run_lkK (t := t) (k := k) (e := e) (mk := Value.int kd) (n := n) (l := l) (Res.at_ (g := gb) hS) gz.h false
  rw [if_neg (by simp), gv.h] at this
  exact ⟨this, hk⟩
theorem Res.comp {L' : Bl} (h : Res w0 z0 B0 w z L) (k : Res w z L w' z' L') : Res w0 z0 B0 w' z' L' := by
  have h' : Res w0 z0 B0 w z (L ++ []) := by simpa using h
  simpa using h'.step k
theorem Res.self (h : Res w0 z0 B0 w z L) : Res w z L w z L := by
  have h' : Res w0 z0 B0 w z (L ++ []) := by simpa using h
  exact h'.own
theorem perm_mid (B G xs T : Bl) : (B ++ (G ++ (xs ++ T))).Perm (G ++ (xs ++ (B ++ T))) :=
  (List.perm_append_comm_assoc B G (xs ++ T)).trans ((List.perm_append_comm_assoc B xs T).append_left G)
theorem SetN.at_ {l : List Value} {k : Nat} {u : Value} (h : k < l.length) : SetN l k [u] (l.set k u) where
  len := by simp
  bound := by simp; omega
  inn := fun j v hv => by
    cases j with
    | zero => simp at hv; subst hv; simp [h]
    | succ j => simp at hv
  out := fun j hj => by simp only [List.length_singleton] at hj; rw [List.getElem?_set_ne (by omega)]
/-- The last element of an own slice, and what is ahead of it. -/
theorem OwnSl.pop {e n : Nat} {B : Bl} {v u : Value} {xs : List Value} (h : OwnSl e 1 B v (n + 1) (xs ++ [u])) : ∃ bo cap C, v = .slice (some ⟨bo, 0, none⟩) (n + 1) cap ∧ n + 1 ≤ cap ∧ B = [(bo, .cells C e (0, 0))] ∧ C[n]? = some u ∧ OwnSl e 1 B (.slice (some ⟨bo, 0, none⟩) n cap) n xs := by
  rcases h.2 with ⟨_, _, h0⟩ | ⟨b, cap, sp, rfl, rfl, h1, h2, h3⟩
  · omega
  · have hl := h.1
    have hxn : xs.length = n := by simp at hl; omega
    refine ⟨b, cap, _, rfl, h1, rfl, ?_, by omega, .inr ⟨b, cap, u :: sp, by simp, rfl, by omega, h2, ?_⟩⟩
    · simp [← hxn]
    · simp at h3 ⊢; omega
end
/-- IndexFunc without a state. -/
theorem idx1 {α : Type} {E : El α} {I S T e n fi : Nat} {vf : List Value → Value} [g : TySlice S e n] [gl : LdE T n vf] (hn : E.size = n)
    (h1 : ∀ {R : Value → World → Prop} {w : World} {t0 t1 : Value}, vcIdx I S T R w t0 t1 → Calls Tryz.prog fi #[t0, t1] w (retK R)) {z : Z} {w : World} {fv v : Value} {xs : List α} {p : α → Bool} (hx : SlR E z v xs)
    (hf : ∀ z' w' cs x, x ∈ xs → Le z z' → E.rel z' cs x → Va1 fv #[vf cs] z' w' fun _ r => r = .bool (p x)) : Fn1 fi #[v, fv] z w fun _ r => r = .int .i64 (fidx p xs) := fun ho =>
  (h1 (vcIdx_ok hn (σ := Unit) (fun _ => []) (pureS p) () hx (fun z' w' s cs x hm hz hr ho => CallV.mono (hf z' w' cs x hm hz hr ho) (fun v w'' ⟨z'', h1, h2⟩ => ⟨z'', [], h1, h2, rfl⟩)) ho)).mono
    (retK.mono fun v w' ⟨z', B', h1, h2, h3⟩ => ⟨z', h1.drop, by rw [h2, runS_pure]⟩)
/-- append(v, u), the literal that it is handed with it. -/
theorem V_push {w0 w : World} {z0 z : Z} {B0 B L R : Bl} {K : Value → World → Prop} {t e size bytes n : Nat} {v u : Value} {us xs : List Value} [g : TyApp t e size bytes] [gs : TySlice t e size] [gz : TyFill e size] [gc : CellsOf u us] [gl : LenIs us size] [go : Ones us]
    (hS : Res w0 z0 B0 w z L) (ho : OwnSl e size B v n xs) [gb : BringL L B R] (hb : (n + 1) * bytes ≤ room) (hb2 : n + 1 ≤ room) (hsz : size ≤ 1000)
    (hk : ∀ B' v' w', OwnSl e size B' v' (n + 1) (xs ++ us) → Res w0 z0 B0 w' z (B' ++ R) → K v' w') : V (bs t 1 #[(0, u)]) w fun s w => V (Builtin.append_ #[t, t] t #[v, s]) w K := by
  refine V_bs (parts := [(0, u)]) rfl (by omega) ?_
  intro b w1 hb1 hS1
  rw [List.append_nil] at hS1
  have hat : At (hp w1) b 0 us := ⟨_, _, _, (hS1.mem _ List.mem_cons_self).1, fun j v hv => by simpa using hv⟩
  have hS2 : Res w0 z0 B0 w1 z (B ++ R) := (hS1.sublist (List.sublist_cons_self _ _)).perm gb.h
  refine V_app (B := B) (m := 1) hS2 ho hat (by rw [gl.h]; omega) go.h (by omega) hb hb2 ?_
  exact hk
end Go.Proofs.YtbeelfopmkbllaaGreatDoor
end
