/- Strings: ranging, cutting; searches. -/
import Derived.Test.YtjnckainogpenaaQ11
import GoSem.Extern.BytealgIndexByte
set_option linter.unusedVariables false
set_option linter.unusedSimpArgs false
set_option maxRecDepth 20000
namespace Go.Proofs.Ytjnckainogpenaa
open Go Q Go.RowKit
section
variable {w0 w w' : World} {z0 z z' : Z} {B0 B B' L F : Bl} {b : Nat} {o : Obj} {C : Obj → Bl} {K : Value → World → Prop}
theorem iV_rg [hS : Res w0 z0 B0 w z L] {t : Nat} [g : TyStr t] {s : ByteArray} (hk : ∀ b w', w0.heap.size ≤ b → Res w0 z0 B0 w' z ((b, .stringIter s 0) :: L) → K (.pointer (some ⟨b, 0, none⟩)) w') : V (rg t (.string s)) w K := by
  refine ⟨_, _, ?_, hk w.heap.size _ hS.size (hS.new (.stringIter s 0))⟩
  simp only [rg, Instr.range, Sem.run_bind, g.und, Result.andThen_ok, run_pure, newObj, Sem.run]
theorem getObj_run {w : World} {b : Nat} {o : Obj} (h : w.heap[b]? = some o) (hn : ∀ c e fr, o ≠ .cells c e fr) : (getObj b).run Try.prog w = .ok o w := by
  unfold getObj
  cases o <;> first | exact absurd rfl (hn _ _ _) | (simp only [Sem.run, h])
theorem setObj_run {w : World} {b : Nat} {o o' : Obj} (h : w.heap[b]? = some o) (hn : ∀ c e fr, o ≠ .cells c e fr) : (setObj b o').run Try.prog w = .ok () { w with heap := w.heap.setIfInBounds b o' } := by
  unfold setObj
  cases o <;> first | exact absurd rfl (hn _ _ _) | (simp only [Sem.run, h])
theorem iV_nx [hS : Res w0 z0 B0 w z L] {t pos : Nat} {s : ByteArray} [g : Blk L b (.stringIter s pos) C] (h : pos < s.size)
    (hk : ∀ w', Res w0 z0 B0 w' z (C (.stringIter s (pos + (Utf8.decode s pos).2))) → K (.tuple #[.bool true, .int .i64 pos, .int .i32 (Utf8.decode s pos).1]) w') : V (nx (.pointer (some ⟨b, 0, none⟩)) true t) w K := by
  have hat := Res.at_ (g := g) hS
  refine ⟨_, _, ?_, hk _ (Res.set (g := g) hS (.stringIter s (pos + (Utf8.decode s pos).2)) rfl)⟩
  simp only [nx, Instr.next, Sem.run_bind, getObj_run hat (by intros; simp), Result.andThen_ok, h, if_true]
  rw [setObj_run hat (by intros; simp)]
  rfl
theorem iV_nx0 [hS : Res w0 z0 B0 w z L] {t pos : Nat} {s : ByteArray} [g : Blk L b (.stringIter s pos) C] (h : ¬ pos < s.size)
    (hk : K (.tuple #[.bool false]) w) : V (nx (.pointer (some ⟨b, 0, none⟩)) true t) w K := by
  have hat := Res.at_ (g := g) hS
  refine ⟨_, w, ?_, hk⟩
  simp only [nx, Instr.next, Sem.run_bind, getObj_run hat (by intros; simp), Result.andThen_ok, h, if_false]
  rfl
end
theorem decode_lo {s : ByteArray} {i : Nat} (h : i < s.size) (hb : (s.data.toList.getD i 0).toNat < 128) : Utf8.decode s i = ((s.data.toList.getD i 0).toNat, 1) := by
  have he : s.get! i = s.data.toList.getD i 0 := by
    show s.data[i]! = _
    have hi : i < s.data.size := h
    rw [getElem!_pos s.data i hi, List.getD_eq_getElem?_getD, List.getElem?_eq_getElem (by simpa using hi)]
    rfl
  unfold Utf8.decode
  simp only [Nat.add_zero, he]
  rw [if_pos hb]
theorem decode_hi {s : ByteArray} {i : Nat} (h : i < s.size) (hb : 128 ≤ (s.data.toList.getD i 0).toNat) : 128 ≤ (Utf8.decode s i).1 := by
  have he : s.get! i = s.data.toList.getD i 0 := by
    show s.data[i]! = _
    have hi : i < s.data.size := h
    rw [getElem!_pos s.data i hi, List.getD_eq_getElem?_getD, List.getElem?_eq_getElem (by simpa using hi)]
    rfl
  unfold Utf8.decode
  simp only [Nat.add_zero, he]
  rw [if_neg (by omega)]
  repeat' split
  all_goals simp only [Utf8.runeError] at *
  all_goals first | omega | (rename_i hh; simp only [ge_iff_le, Bool.and_eq_true, decide_eq_true_eq] at hh; omega)
theorem decode_top {s : ByteArray} {i : Nat} : (Utf8.decode s i).1 ≤ 1114111 := by
  unfold Utf8.decode
  simp only []
  repeat' split
  all_goals simp only [Utf8.runeError] at *
  all_goals first | omega | (rename_i hh; simp only [Utf8.valid, ge_iff_le, Bool.and_eq_true, Bool.or_eq_true, decide_eq_true_eq] at hh; omega)
/-- The first place. -/
def fidx {α : Type} (p : α → Bool) (xs : List α) : Int := match xs.findIdx? p with | some i => i | none => -1
theorem fidx_some {α : Type} {p : α → Bool} {xs : List α} {k : Nat} {x : α} (h : ∀ i y, i < k → xs[i]? = some y → p y = false) (hx : xs[k]? = some x) (hp : p x = true) : fidx p xs = k := by
  have : xs.findIdx? p = some k := by
    rw [List.findIdx?_eq_some_iff_getElem]
    obtain ⟨hlt, rfl⟩ := List.getElem?_eq_some_iff.1 hx
    exact ⟨hlt, hp, fun j hj => by simpa using h j _ hj (List.getElem?_eq_getElem (by omega))⟩
  unfold fidx
  rw [this]
theorem fidx_none {α : Type} {p : α → Bool} {xs : List α} (h : ∀ (i : Nat) y, xs[i]? = some y → p y = false) : fidx p xs = -1 := by
  have : xs.findIdx? p = none := by
    rw [List.findIdx?_eq_none_iff]
    intro x hx
    obtain ⟨i, hi⟩ := List.mem_iff_getElem?.1 hx
    exact h i x hi
  unfold fidx
  rw [this]
theorem fidx_neg {α : Type} {p : α → Bool} {xs : List α} : fidx p xs < 0 ↔ xs.any p = false := by
  unfold fidx
  cases h : xs.findIdx? p with
  | none =>
    simp only [List.findIdx?_eq_none_iff] at h
    simp only [Int.reduceNeg, Int.reduceLT, List.any_eq_false, true_iff]
    intro x hx; simp [h x hx]
  | some i =>
    rw [List.findIdx?_eq_some_iff_getElem] at h
    obtain ⟨hlt, hp, _⟩ := h
    constructor
    · intro hh; simp only at hh; omega
    · intro hh; rw [List.any_eq_false] at hh; exact absurd hp (hh _ (List.getElem_mem hlt))
theorem fidx_ge {α : Type} {p : α → Bool} {xs : List α} : (decide (fidx p xs ≥ 0)) = xs.any p := by
  cases h : xs.any p with
  | false => rw [decide_eq_false]; have := (fidx_neg (p := p) (xs := xs)).2 h; omega
  | true => rw [decide_eq_true]; have := (fidx_neg (p := p) (xs := xs)); rw [h] at this; simp at this; exact this
theorem fidx_lt {α : Type} {p : α → Bool} {xs : List α} : (decide (fidx p xs < 0)) = !xs.any p := by
  cases h : xs.any p with
  | false => rw [decide_eq_true]; rfl; exact fidx_neg.2 h
  | true => rw [decide_eq_false]; rfl; intro hh; rw [fidx_neg.1 hh] at h; cases h
/-- A function of the runtime's, which the model answers in place. -/
class EntersX (f : FuncId) (e : outParam (Array Value → Sem Value)) : Prop where
  h : ∀ args w, (callFunc f args).run Try.prog w = Sem.run Try.prog (do pure (Next.value (← e args))) w
theorem CV_x {f : FuncId} {e : Array Value → Sem Value} [he : EntersX f e] {args : Array Value} {w : World} {v : Value} {K : Value → World → Prop} (h : (e args).run Try.prog w = .ok v w) (hk : K v w) : CV (.func (.func f) #[] #[]) args w K := by
  have : (callSem (.func (.func f) #[] #[]) args).run Try.prog w = .ok (.value v) w := by
    simp only [callSem, Deferred.ofValue, pure_bind, invoke]
    have hh := he.h (#[] ++ args ++ #[]) w
    simp only [Array.empty_append, Array.append_empty] at hh ⊢
    rw [hh]
    simp only [Sem.run_bind, h, Result.andThen_ok]
    rfl
  unfold CV CallV
  rw [this]
  exact hk
end Go.Proofs.Ytjnckainogpenaa
