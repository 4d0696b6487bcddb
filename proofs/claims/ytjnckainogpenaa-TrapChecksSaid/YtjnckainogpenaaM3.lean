/- Texts joined: Q15, T9, T10, T11, T12, T13, T14, T15, T16, T17, T18, T19, T20, T21, T22, T23, T24, T25, T26, T27, T28, T29, T43, Q16, T44. -/
import Derived.Test.YtjnckainogpenaaM2
section
/- Appending nothing; slices read as a whole; freezing an own slice; cells behind a part of a list. -/
set_option linter.unusedVariables false
set_option linter.unusedSimpArgs false
set_option maxRecDepth 20000
namespace Go.Proofs.Ytjnckainogpenaa
open Go Q Go.RowKit
section
variable {w0 w w' : World} {z0 z z' : Z} {B0 B B' L F : Bl} {b : Nat} {o : Obj} {C : Obj → Bl} {K : Value → World → Prop}
/-- **append(v, nothing...)**, to a slice that is not nil. -/
theorem V_app0 {t ty e size bytes : Nat} [g : TyApp t e size bytes] {b n cap c : Nat} {a : Option Addr} {xs sp : List Value} (hS : Res w0 z0 B0 w z ((b, .cells (xs ++ sp).toArray e (0, 0)) :: L)) (hl : (xs ++ sp).length = cap * size) (hx : xs.length = n * size) (hc : n ≤ cap)
    (hk : K (.slice (some ⟨b, 0, none⟩) n cap) w) : V (Builtin.append_ #[t, t] ty #[.slice (some ⟨b, 0, none⟩) n cap, .slice a 0 c]) w K := by
  obtain ⟨zv, hinfo, hzs⟩ := g.info
  obtain ⟨i, hi, hz⟩ := Option.map_eq_some_iff.1 hinfo
  simp only [Prod.mk.injEq] at hz
  obtain ⟨hz0, hz1, hz2⟩ := hz
  have hat := hS.mem (b, .cells (xs ++ sp).toArray e (0, 0)) (by simp)
  have hfit : n * i.size + 0 ≤ (xs ++ sp).toArray.size := by rw [hz1, Nat.add_zero]; simp only [List.size_toArray, hl]; exact Nat.mul_le_mul_right _ hc
  cases a with
  | some a =>
    have hr := run_append_room (P := Try.prog) w t ty e i g.und hi b n cap (xs ++ sp).toArray hat.1 a 0 c [] (by simp) (by simp) (by simp) (by omega) hfit
    refine ⟨_, _, hr, ?_⟩
    rw [setRow_eq hat.1]
    have : ((xs ++ sp).toArray.toList.take (n * i.size) ++ [] ++ (xs ++ sp).toArray.toList.drop (n * i.size + ([] : List Value).length)).toArray = (xs ++ sp).toArray := by simp
    rw [this, heap_set_self hat.1]
    exact hk
  | none =>
    have h0 : Builtin.lenOf (.slice none 0 c) = pure 0 := rfl
    have hu : ∀ w, (underlying t).run Try.prog w = .ok (.slice e) w := fun w => run_underlying g.und w
    refine ⟨.slice (some ⟨b, 0, none⟩) n cap, w, ?_, hk⟩
    have hs0 : ∀ (a : Addr) w, (storeCells a [] 0).run Try.prog w = .ok () w := fun a w => rfl
    simp [Builtin.append_, run_underlying g.und, sizeOf, typeInfo, hi, Builtin.lenOf, hc, Builtin.firstCells, Sem.run_bind, program, Sem.run, hs0]
/-- All cells of a slice. -/
theorem SlR.all {α : Type} {E : El α} {v : Value} {xs : List α} (f : α → List Value) (h : SlR E z v xs) (hf : ∀ z cs x, E.rel z cs x → cs = f x) (hn : xs ≠ []) : ∃ b off cap, v = .slice (some ⟨b, off, none⟩) xs.length cap ∧ xs.length ≤ big ∧ At z b off (xs.flatMap f) := by
  obtain ⟨a, cap, rfl, h2, h3, h4⟩ := h
  obtain ⟨b, off, rfl, h6⟩ := h4 hn
  refine ⟨b, off, cap, rfl, h3, ?_⟩
  have hobj : ∃ c ty fr, z b = some (.cells c ty fr) := by
    cases xs with
    | nil => exact absurd rfl hn
    | cons x xs =>
      obtain ⟨cs, _, c, ty, fr, h7, _⟩ := h6 0 x rfl
      exact ⟨c, ty, fr, h7⟩
  obtain ⟨c, ty, fr, hc⟩ := hobj
  refine ⟨c, ty, fr, hc, ?_⟩
  have key : ∀ (l : List α) (k : Nat), (∀ i x, l[i]? = some x → (f x).length = E.size ∧ ∀ j v, (f x)[j]? = some v → c[off + (k + i) * E.size + j]? = some v) → ∀ j v, (l.flatMap f)[j]? = some v → c[off + k * E.size + j]? = some v := by
    intro l
    induction l with
    | nil => intro k _ j v hv; simp at hv
    | cons x l ih =>
      intro k hl j v hv
      rw [List.flatMap_cons] at hv
      obtain ⟨h8, h9⟩ := hl 0 x rfl
      by_cases hj : j < (f x).length
      · rw [List.getElem?_append_left hj] at hv
        simpa using h9 j v hv
      · rw [List.getElem?_append_right (by omega)] at hv
        have := ih (k + 1) (fun i y hy => by
          have := hl (i + 1) y (by simpa using hy)
          rw [show k + 1 + i = k + (i + 1) by omega]
          exact this) (j - (f x).length) v hv
        rw [h8, Nat.add_mul] at this
        rw [← this]
        congr 1
        omega
  intro j v hv
  have := key xs 0 (fun i x hx => by
    obtain ⟨cs, h7, c', ty', fr', h8, h9⟩ := h6 i x hx
    rw [hc] at h8
    cases h8
    have hl := E.len h7
    rw [hf _ _ _ h7] at h9 hl
    exact ⟨hl, fun j v hv => by rw [Nat.zero_add]; exact h9 j v hv⟩) j v hv
  simpa using this
theorem flat_len {α : Type} {f : α → List Value} {n : Nat} (hf : ∀ x, (f x).length = n) (xs : List α) : (xs.flatMap f).length = xs.length * n := by
  induction xs with
  | nil => simp
  | cons x xs ih => rw [List.flatMap_cons, List.length_append, ih, hf, List.length_cons, Nat.add_mul]; omega
theorem flat_get {α : Type} {f : α → List Value} {n : Nat} (hf : ∀ x, (f x).length = n) {xs : List α} {i : Nat} {x : α} (hx : xs[i]? = some x) (j : Nat) (v : Value) (hv : (f x)[j]? = some v) : (xs.flatMap f)[i * n + j]? = some v := by
  induction xs generalizing i with
  | nil => simp at hx
  | cons y xs ih =>
    rw [List.flatMap_cons]
    have hj := (List.getElem?_eq_some_iff.1 hv).1
    cases i with
    | zero =>
      simp at hx; subst hx
      rw [Nat.zero_mul, Nat.zero_add, List.getElem?_append_left hj]
      exact hv
    | succ i =>
      rw [List.getElem?_append_right (by rw [hf, Nat.add_mul]; omega), hf, show (i + 1) * n + j - n = i * n + j by rw [Nat.add_mul]; omega]
      exact ih (by simpa using hx)
/-- An own slice is frozen, and reads as it did. -/
theorem Res.freezeSl {α : Type} {E : El α} {e : Nat} {v : Value} {xs : List α} {f : α → List Value} (h : Res w0 z0 B0 w z (B ++ L)) (ho : OwnSl e E.size B v xs.length (xs.flatMap f)) (hb : xs.length ≤ big) (hf : ∀ x, (f x).length = E.size) (hr : ∀ z x, x ∈ xs → E.rel z (f x) x) :
    ∃ z', Le z z' ∧ Res w0 z0 B0 w z' L ∧ SlR E z' v xs := by
  rcases ho.2 with ⟨rfl, rfl, h0⟩ | ⟨b, cap, sp, rfl, rfl, h1, h2, h3⟩
  · have : xs = [] := List.eq_nil_of_length_eq_zero h0
    subst this
    exact ⟨z, Le.refl _, h, SlR.nil⟩
  · refine ⟨_, Res.freeze_le h, Res.freeze h, some ⟨b, 0, none⟩, cap, rfl, h1, hb, fun _ => ⟨b, 0, rfl, fun i x hx => ⟨f x, hr _ _ (List.mem_of_getElem? hx), _, _, _, if_pos rfl, fun j v hv => ?_⟩⟩⟩
    have := flat_get hf hx j v hv
    have hlt := (List.getElem?_eq_some_iff.1 this).1
    simp only [Nat.zero_add, List.getElem?_toArray]
    rw [List.getElem?_append_left hlt]
    exact this
/-- A call that is handed nothing and leaves blocks of its own. -/
theorem CV_fn0 [hS : Res w0 z0 B0 w z L] {f : FuncId} [Enters f] {args : Array Value} {R : Z → Bl → Value → Prop} (h : Le z0 z → Fn f args z [] w R) (hk : ∀ z' B' w' v, Le z z' → Res w0 z0 B0 w' z' (B' ++ L) → R z' B' v → K v w') :
    CV (.func (.func f) #[] #[]) args w K := CV_fn (B := []) hS (h hS.zle) (by simp) hk
theorem Va.call0 [hS : Res w0 z0 B0 w z L] {f : Value} {args : Array Value} {R : Z → Bl → Value → Prop} (h : Le z0 z → Va f args z [] w R) (hk : ∀ z' B' w' v, Le z z' → Res w0 z0 B0 w' z' (B' ++ L) → R z' B' v → K v w') :
    CV f args w K := CV_va (B := []) hS (h hS.zle) hk
/-! ### Cells behind a part of a list -/
instance (priority := 550) {a i j : Nat} : AddN (a + i) j (a + (i + j)) := ⟨Nat.add_assoc a i j⟩
instance {ps l : List Value} {i : Nat} {v : Value} [g : Get l i v] : Get (ps ++ l) (ps.length + i) v := ⟨by rw [List.getElem?_append_right (by omega), Nat.add_sub_cancel_left]; exact g.h⟩
instance {ps l : List Value} {v : Value} [g : Get l 0 v] : Get (ps ++ l) ps.length v := ⟨by rw [List.getElem?_append_right (Nat.le_refl _), Nat.sub_self]; exact g.h⟩
instance {ps l vs : List Value} {i n : Nat} [g : GetN l i n vs] : GetN (ps ++ l) (ps.length + i) n vs := ⟨g.len, fun j v h => by rw [List.getElem?_append_right (by omega), show ps.length + i + j - ps.length = i + j by omega]; exact g.h j v h⟩
instance {ps l vs : List Value} {n : Nat} [g : GetN l 0 n vs] : GetN (ps ++ l) ps.length n vs := ⟨g.len, fun j v h => by
  have := g.h j v h
  rw [Nat.zero_add] at this
  rw [List.getElem?_append_right (by omega), Nat.add_sub_cancel_left]; exact this⟩
theorem SetN.behind {ps l vs l' : List Value} {i : Nat} (g : SetN l i vs l') : SetN (ps ++ l) (ps.length + i) vs (ps ++ l') where
  len := by simp [g.len]
  bound := by have := g.bound; simp; omega
  inn := fun j v h => by rw [List.getElem?_append_right (by omega), show ps.length + i + j - ps.length = i + j by omega]; exact g.inn j v h
  out := fun k hk => by
    by_cases hp : k < ps.length
    · rw [List.getElem?_append_left hp, List.getElem?_append_left hp]
    · rw [List.getElem?_append_right (by omega), List.getElem?_append_right (by omega)]
      exact g.out _ (by omega)
instance {ps l vs l' : List Value} {i : Nat} [g : SetN l i vs l'] : SetN (ps ++ l) (ps.length + i) vs (ps ++ l') := g.behind
instance {ps l vs l' : List Value} [g : SetN l 0 vs l'] : SetN (ps ++ l) ps.length vs (ps ++ l') := g.behind
/-! ### An array's literal -/
instance {t n e : Nat} {zs out : List Value} {parts : List (Nat × Value)} [g : TyArr t n e 1] [gz : TyZero t zs] [gl : LenIs zs n] [gf : FillS 1 0 parts out n] : Run (bd t parts.toArray) (.agg out.toArray) := ⟨fun w => by
  obtain ⟨v, h1, h2⟩ := gz.h
  obtain ⟨k1, k2, k3⟩ := gf.h
  have hl := gl.h
  have hf := k3 [] zs (by simp) (by rw [hl, k1]; simp)
  simp only [List.nil_append] at hf
  simp only [bd, Instr.build, Sem.run_bind, h2, Result.andThen_ok, g.und, g.size, h1, hf]
  rfl⟩
/-- **append(v, news...)**; what v held is still there. -/
theorem V_appX {t ty e size bytes : Nat} [g : TyApp t e size bytes] {v : Value} {n m c b' off' : Nat} {xs news : List Value} (hS : Res w0 z0 B0 w z (B ++ L)) (ho : OwnSl e size B v n xs)
    (hn : At (hp w) b' off' news) (hl : news.length = m * size) (h1 : ∀ u ∈ news, isOne u = true) (hm : 0 < m) (hb : (n + m) * bytes ≤ room) (hb2 : n + m ≤ room)
    (hk : ∀ B' v' w', OwnSl e size B' v' (n + m) (xs ++ news) → Res w0 z0 B0 w' z (B' ++ L) → (∀ b cap, v = .slice (some ⟨b, 0, none⟩) n cap → At (hp w') b 0 xs) → K v' w') : V (Builtin.append_ #[t, t] ty #[v, .slice (some ⟨b', off', none⟩) m c]) w K := by
  obtain ⟨zv, hinfo, hzs⟩ := g.info
  obtain ⟨i, hi, hz⟩ := Option.map_eq_some_iff.1 hinfo
  simp only [Prod.mk.injEq] at hz
  obtain ⟨hz0, hz1, hz2⟩ := hz
  have hnews : ∀ j u, news[j]? = some u → w.cell? ((⟨b', off', none⟩ : Addr).add j) = some u := fun j u hu => by rw [add_addr]; exact hn.cell hu
  have hlen : (xs ++ news).length = (n + m) * size := by rw [List.length_append, ho.1, hl, Nat.add_mul]
  simp only [room] at hb hb2
  have hmax : n + m ≤ maxLen := by simp only [maxLen]; omega
  have h63 : ((n + m : Nat) : Int) ≤ 9223372036854775807 := by simp only [maxLen] at hmax; omega
  have grown : ∀ (old : Nat) (w1 : World), w1 = w.drew.alloc (.cells (xs.toArray ++ news.toArray ++ Builtin.zeroCells zv.cells (grownCap w (n + m) old e - (n + m))) e) →
      Res w0 z0 B0 w1 z ((w.heap.size, .cells (xs ++ news ++ (Builtin.zeroCells zv.cells (grownCap w (n + m) old e - (n + m))).toList).toArray e (0, 0)) :: (B ++ L)) := fun old w1 hw1 => by
    subst hw1
    have := Res.new (Res.drew hS) (.cells (xs ++ news ++ (Builtin.zeroCells zv.cells (grownCap w (n + m) old e - (n + m))).toList).toArray e (0, 0))
    have he : (xs.toArray ++ news.toArray ++ Builtin.zeroCells zv.cells (grownCap w (n + m) old e - (n + m))) = (xs ++ news ++ (Builtin.zeroCells zv.cells (grownCap w (n + m) old e - (n + m))).toList).toArray := by
      apply Array.toList_inj.1; simp
    rw [he]
    exact this
  have own' : ∀ (old : Nat), OwnSl e size [(w.heap.size, .cells (xs ++ news ++ (Builtin.zeroCells zv.cells (grownCap w (n + m) old e - (n + m))).toList).toArray e (0, 0))] (.slice (some ⟨w.heap.size, 0, none⟩) (n + m) (grownCap w (n + m) old e)) (n + m) (xs ++ news) := fun old => by
    have hge := grownCap_ge w (n + m) old e
    refine ⟨hlen, .inr ⟨_, _, _, rfl, rfl, hge, grownCap_le_maxLen w (n + m) old e hmax, ?_⟩⟩
    rw [List.length_append, hlen, Array.length_toList, size_zeroCells, hzs, ← Nat.add_mul]
    congr 1
    omega
  rcases ho.2 with ⟨rfl, rfl, rfl⟩ | ⟨b, cap, sp, rfl, rfl, hcap, hcm, hsz⟩
  · have hx0 : xs = [] := List.eq_nil_of_length_eq_zero (by have := ho.1; simpa using this)
    subst hx0
    have hr := run_append_nil (P := Try.prog) w t ty e i zv g.und hi hz0 ⟨b', off', none⟩ m c news (by rw [hz1]; exact hl) hnews hm (by simpa using h63) (by rw [hz2]; simp only [Nat.zero_add] at hb; omega)
    refine ⟨_, _, hr, ?_⟩
    have h5 := grown 0 _ rfl
    have h6 := own' 0
    simp only [Nat.zero_add] at h5 h6
    exact hk _ _ _ (by simpa using h6) (by simpa using h5) (fun _ _ hv => by cases hv)
  · by_cases hroom : n + m ≤ cap
    · have hat := hS.mem (b, .cells (xs ++ sp).toArray e (0, 0)) (by simp)
      have hfit : n * i.size + news.length ≤ (xs ++ sp).toArray.size := by
        rw [hz1, hl, ← Nat.add_mul]; simp only [List.size_toArray, hsz]; exact Nat.mul_le_mul_right _ hroom
      have hr := run_append_room (P := Try.prog) w t ty e i g.und hi b n cap (xs ++ sp).toArray hat.1 ⟨b', off', none⟩ m c news (by rw [hz1]; exact hl) hnews (fun u hu => oneCell'_of (h1 u hu)) hroom hfit
      refine ⟨_, _, hr, ?_⟩
      rw [setRow_eq hat.1]
      have e1 : (xs ++ sp).take (n * i.size) = xs := by rw [hz1, ← ho.1]; exact List.take_left
      have hnew : ((xs ++ sp).toArray.toList.take (n * i.size) ++ news ++ (xs ++ sp).toArray.toList.drop (n * i.size + news.length)) = xs ++ news ++ sp.drop news.length := by
        simp only [e1]
        rw [hz1, ← ho.1, List.drop_append, List.drop_of_length_le (by omega)]
        simp
      rw [hnew]
      refine hk [(b, .cells (xs ++ news ++ sp.drop news.length).toArray e (0, 0))] _ _ ⟨hlen, .inr ⟨b, cap, sp.drop news.length, rfl, rfl, hroom, hcm, ?_⟩⟩ (Res.put hS _ rfl) (fun b1 cap1 hv => ?_)
      rotate_left
      · cases hv
        refine ⟨_, _, _, ((Res.put hS _ rfl).mem _ List.mem_cons_self).1, fun j u hu => ?_⟩
        simp only [Nat.zero_add, List.getElem?_toArray, List.append_assoc]
        rw [List.getElem?_append_left (List.getElem?_eq_some_iff.1 hu).1]
        exact hu
      rw [List.length_append, hlen, List.length_drop]
      have : sp.length = cap * size - n * size := by rw [← hsz, List.length_append, ho.1]; omega
      rw [this, hl, Nat.add_mul]
      have : (n + m) * size ≤ cap * size := Nat.mul_le_mul_right _ hroom
      rw [Nat.add_mul] at this
      omega
    · have hat := hS.mem (b, .cells (xs ++ sp).toArray e (0, 0)) (by simp)
      have holds : ∀ j u, xs[j]? = some u → w.cell? ((⟨b, 0, none⟩ : Addr).add j) = some u := fun j u hu => by
        rw [add_addr]
        refine At.cell (vs := xs) ⟨_, _, _, hat.1, fun j u hu => ?_⟩ hu
        simp only [Nat.zero_add, List.getElem?_toArray]
        rw [List.getElem?_append_left (List.getElem?_eq_some_iff.1 hu).1]
        exact hu
      have hr := run_append_grow (P := Try.prog) w t ty e i zv g.und hi hz0 ⟨b, 0, none⟩ n cap xs (by rw [hz1]; exact ho.1) holds ⟨b', off', none⟩ m c news (by rw [hz1]; exact hl) hnews (by omega) h63 (growslice_fits (by omega) (by rw [hz2]; exact hb))
      refine ⟨_, _, hr, hk _ _ _ (own' cap) ((grown cap _ rfl).sublist ?_) (fun b1 cap1 hv => ?_)⟩
      · simp
      · cases hv
        have h9 := ((grown cap _ rfl).mem (b, .cells (xs ++ sp).toArray e (0, 0)) (by simp)).1
        refine ⟨_, _, _, h9, fun j u hu => ?_⟩
        simp only [Nat.zero_add, List.getElem?_toArray]
        rw [List.getElem?_append_left (List.getElem?_eq_some_iff.1 hu).1]
        exact hu
end
end Go.Proofs.Ytjnckainogpenaa
end

section
/- Copies. -/
set_option linter.unusedVariables false
set_option maxRecDepth 20000
set_option synthInstance.maxHeartbeats 400000
set_option synthInstance.maxSize 4000
namespace Go.Proofs.Ytjnckainogpenaa
open Go Q Go.RowKit

def freeC (had : List RaM) : Nat := ([0, 1, 2, 4] : List Int).countP fun c => !had.any fun x => x.cond == c
theorem raOk_mem {had : List RaM} {r : RaM} (h : raOk had r = true) : (r.cond = 0 ∨ r.cond = 1 ∨ r.cond = 2 ∨ r.cond = 4) ∧ (had.any fun x => x.cond == r.cond) = false := by
  simp only [raOk, Bool.and_eq_true, cond, immediate, Bool.not_eq_true', decide_eq_true_eq, Bool.or_eq_false_iff, decide_eq_false_iff_not] at h
  exact ⟨by omega, h.1.2⟩
theorem freeC_step {had : List RaM} {r : RaM} (h : raOk had r = true) : freeC (had ++ [r]) + 1 ≤ freeC had := by
  obtain ⟨h1, h2⟩ := raOk_mem h
  unfold freeC
  simp only [List.countP_cons, List.countP_nil, List.any_append, List.any_cons, List.any_nil, Bool.or_false]
  rcases h1 with h1 | h1 | h1 | h1 <;> simp only [h1] at h2 ⊢ <;> simp [h2] <;> omega
theorem pend_len : ∀ {l had : List RaM}, pendFrom had l = true → l.length ≤ freeC had
  | [], _, _ => Nat.zero_le _
  | r :: l, had, h => by
    simp only [pendFrom, Bool.and_eq_true] at h
    have := pend_len h.2
    have := freeC_step h.1
    simp only [List.length_cons]
    omega
theorem pend_le4 {l : List RaM} (h : pendFrom [] l = true) : l.length ≤ 4 := pend_len h
theorem cloneTraps {v : Value} {xs : List TrM} {z : Z} {w : World} (hx : SlR El.trap z v xs) (hb : xs.length ≤ 1000000) : Fn 31 #[v] z [] w fun z' B' r => OwnSl 73 3 B' r xs.length (xs.flatMap TrM.cells) := Fn.intro fun hS => en31 (by
  unfold vc31
  have hx' := hx
  obtain ⟨a, cap, rfl, hc, hbig, hel⟩ := hx
  refine V_run ?_
  cases a with
  | none =>
    have : xs = [] := by
      by_cases hn : xs = []
      · exact hn
      · obtain ⟨b, off, h, _⟩ := hel hn; cases h
    subst this
    (repeat (refine Cond_t ?_))
    exact ⟨_, _, hS, OwnSl.nil⟩
  | some a =>
    (repeat (refine Cond_f ?_))
    refine V_bs rfl (by omega) ?_
    intro b w1 hb1 hS1
    by_cases hn : xs = []
    · subst hn
      refine V_app0 (xs := []) (sp := []) hS1 (by simp) (by simp) (by omega) ?_
      exact ⟨_, _, hS1, by simp, .inr ⟨b, 0, [], rfl, rfl, by simp, by simp [maxLen], by simp⟩⟩
    · obtain ⟨b', off, cap', hv, _, hat⟩ := hx'.all TrM.cells (fun z cs x h => h.1) hn
      cases hv
      have hpos : 0 < xs.length := List.length_pos_iff.2 hn
      refine V_app (B := [(b, .cells [].toArray 73 (0, 0))]) (L := []) (n := 0) (xs := []) (news := xs.flatMap TrM.cells) hS1 ⟨by simp, .inr ⟨b, 0, [], rfl, rfl, by omega, by simp [maxLen], by simp⟩⟩ (hat.world hS1.sub) (flat_len (f := TrM.cells) (n := 3) (fun _ => rfl) xs) ?_ hpos (by simp only [room]; omega) (by simp only [room]; omega) ?_
      · intro u hu
        obtain ⟨x, _, hx⟩ := List.mem_flatMap.1 hu
        simp only [TrM.cells, List.mem_cons, List.not_mem_nil, or_false] at hx
        rcases hx with rfl | rfl | rfl <;> rfl
      · intro B' v' w2 ho hS2
        rw [List.append_nil] at hS2
        exact ⟨_, _, hS2, by simpa using ho⟩)
theorem clonePend {v : Value} {xs : List RaM} {z : Z} {w : World} (hx : SlR El.raised z v xs) (hb : xs.length ≤ 1000000) : Fn 113 #[v] z [] w fun z' B' r => OwnSl 70 2 B' r xs.length (xs.flatMap RaM.cells) := Fn.intro fun hS => en113 (by
  unfold vc113
  have hx' := hx
  obtain ⟨a, cap, rfl, hc, hbig, hel⟩ := hx
  refine V_run ?_
  cases a with
  | none =>
    have : xs = [] := by
      by_cases hn : xs = []
      · exact hn
      · obtain ⟨b, off, h, _⟩ := hel hn; cases h
    subst this
    (repeat (refine Cond_t ?_))
    exact ⟨_, _, hS, OwnSl.nil⟩
  | some a =>
    (repeat (refine Cond_f ?_))
    refine V_bs rfl (by omega) ?_
    intro b w1 hb1 hS1
    by_cases hn : xs = []
    · subst hn
      refine V_app0 (xs := []) (sp := []) hS1 (by simp) (by simp) (by omega) ?_
      exact ⟨_, _, hS1, by simp, .inr ⟨b, 0, [], rfl, rfl, by simp, by simp [maxLen], by simp⟩⟩
    · obtain ⟨b', off, cap', hv, _, hat⟩ := hx'.all RaM.cells (fun z cs x h => h.1) hn
      cases hv
      have hpos : 0 < xs.length := List.length_pos_iff.2 hn
      refine V_app (B := [(b, .cells [].toArray 70 (0, 0))]) (L := []) (n := 0) (xs := []) (news := xs.flatMap RaM.cells) hS1 ⟨by simp, .inr ⟨b, 0, [], rfl, rfl, by omega, by simp [maxLen], by simp⟩⟩ (hat.world hS1.sub) (flat_len (f := RaM.cells) (n := 2) (fun _ => rfl) xs) ?_ hpos (by simp only [room]; omega) (by simp only [room]; omega) ?_
      · intro u hu
        obtain ⟨x, _, hx⟩ := List.mem_flatMap.1 hu
        simp only [RaM.cells, List.mem_cons, List.not_mem_nil, or_false] at hx
        rcases hx with rfl | rfl <;> rfl
      · intro B' v' w2 ho hS2
        rw [List.append_nil] at hS2
        exact ⟨_, _, hS2, by simpa using ho⟩)
/-- A frame of the call's own. -/
def FrOwn (B : Bl) (cs : List Value) (f : FrM) : Prop := ∃ B1 B2 v1 v2, B = B1 ++ B2 ∧ cs = v1 :: v2 :: f.info.cells ∧ OwnSl 73 3 B1 v1 f.traps.length (f.traps.flatMap TrM.cells) ∧ OwnSl 70 2 B2 v2 f.pend.length (f.pend.flatMap RaM.cells)
/-- What memory can hold. -/
def FrSm (f : FrM) : Prop := f.traps.length ≤ 1000000 ∧ f.pend.length ≤ 1000000 ∧ (∀ t ∈ f.traps, t.label.size ≤ big) ∧ (∀ r ∈ f.pend, r.desc.size ≤ big) ∧ f.info.desc.size ≤ big
theorem SlR.mem {α : Type} {E : El α} {z : Z} {v : Value} {xs : List α} (h : SlR E z v xs) {x : α} (hx : x ∈ xs) : ∃ cs, E.rel z cs x := by
  obtain ⟨i, hi⟩ := List.mem_iff_getElem?.1 hx
  obtain ⟨_, a, cap, _, _, hel⟩ := h.form
  obtain ⟨_, _, cs, _, hr, _⟩ := hel i x hi
  exact ⟨cs, hr⟩
theorem frame {v : Value} {f : FrM} {z : Z} {w : World} (hf : FrR z v f) (h1 : f.traps.length ≤ 1000000) (h2 : f.pend.length ≤ 1000000) : Fn 99 #[v] z [] w fun z' B' r => ∃ cs, r = .agg cs.toArray ∧ FrOwn B' cs f ∧ FrSm f := Fn.intro fun hS => en99 (by
  unfold vc99
  obtain ⟨cs, rfl, v1, v2, rfl, hv1, hv2, hd⟩ := hf
  obtain ⟨hb1, a1, cap1, rfl, hc1, hel1⟩ := hv1.form
  obtain ⟨hb2, a2, cap2, rfl, hc2, hel2⟩ := hv2.form
  dsimp only [InM.cells]
  refine iV_bx ?_
  intro b0 w0' hb0 hS0
  refine iV_al ?_
  intro b1 w1' hb1 hS1
  (repeat (first | (refine iDr ?_; intro _ _) | refine PV_run ?_ | refine iHV_1 ?_))
  refine CV_fn0 (fun hz => cloneTraps (hv1.mono hz) h1) ?_
  rintro z3 B1 w3 v3 hle3 hS3 ho1
  (repeat (first | refine PV_run ?_ | refine iRI_1 ?_))
  refine CV_fn0 (fun hz => clonePend (hv2.mono hz) h2) ?_
  rintro z4 B2 w4 v4 hle4 hS4 ho2
  obtain ⟨a3, cap3, rfl, hc3⟩ := ho1.form
  obtain ⟨a4, cap4, rfl, hc4⟩ := ho2.form
  (repeat (first | refine PV_run ?_ | refine iV_ldN ?_ | (refine iU_st ?_; intro _ _) | refine iHV_N ?_))
  rename_i hSe
  have hSe' : Res w z [] _ z4 (B1 ++ B2) := (hSe.sublist (L' := B2 ++ B1) ((List.Sublist.refl _).append (List.sublist_append_left _ _))).perm List.perm_append_comm
  refine ⟨_, B1 ++ B2, hSe', _, rfl, ⟨B1, B2, _, _, rfl, rfl, ho1, ho2⟩, h1, h2, fun t ht => ?_, fun t ht => ?_, hd⟩
  · obtain ⟨cs, hr⟩ := hv1.mem ht
    exact hr.2
  · obtain ⟨cs, hr⟩ := hv2.mem ht
    exact hr.2)
end Go.Proofs.Ytjnckainogpenaa
end

section
/- Copies of states; machines. -/
set_option linter.unusedVariables false
set_option maxRecDepth 20000
set_option synthInstance.maxHeartbeats 400000
set_option synthInstance.maxSize 4000
namespace Go.Proofs.Ytjnckainogpenaa
open Go Q Go.RowKit

def FrsR (z : Z) : List Value → StM → Prop
  | ps, [] => ps = []
  | ps, f :: fs => ∃ cs rest, ps = cs ++ rest ∧ El.frame.rel z cs f ∧ FrsR z rest fs
theorem FrsR.mono {z z' : Z} (hz : Le z z') : ∀ {ps : List Value} {s : StM}, FrsR z ps s → FrsR z' ps s
  | _, [], h => h
  | _, f :: fs, ⟨cs, rest, h1, h2, h3⟩ => ⟨cs, rest, h1, El.frame.mono h2 hz, FrsR.mono hz h3⟩
theorem FrsR.snoc {z : Z} {cs : List Value} {f : FrM} (hr : El.frame.rel z cs f) : ∀ {ps : List Value} {s : StM}, FrsR z ps s → FrsR z (ps ++ cs) (s ++ [f])
  | _, [], h => ⟨cs, [], by rw [show _ = ([] : List Value) from h]; simp, hr, rfl⟩
  | _, g :: fs, ⟨cs', rest, h1, h2, h3⟩ => ⟨cs', rest ++ cs, by rw [h1, List.append_assoc], h2, FrsR.snoc hr h3⟩
theorem FrsR.len {z : Z} : ∀ {ps : List Value} {s : StM}, FrsR z ps s → ps.length = s.length * 5
  | _, [], h => by rw [show _ = ([] : List Value) from h]; simp
  | _, g :: fs, ⟨cs', rest, h1, h2, h3⟩ => by
    rw [h1, List.length_append, FrsR.len h3, El.frame.len h2, List.length_cons, Nat.add_mul]
    show 5 + _ = _
    omega
theorem FrsR.get {z : Z} : ∀ {ps : List Value} {s : StM} {i : Nat} {f : FrM}, FrsR z ps s → s[i]? = some f → ∃ cs, El.frame.rel z cs f ∧ ∀ j v, cs[j]? = some v → ps[i * 5 + j]? = some v
  | _, [], _, _, h, hi => by simp at hi
  | _, g :: fs, 0, f, ⟨cs', rest, h1, h2, h3⟩, hi => by
    simp at hi; subst hi
    exact ⟨cs', h2, fun j v hv => by rw [h1, Nat.zero_mul, Nat.zero_add, List.getElem?_append_left (List.getElem?_eq_some_iff.1 hv).1]; exact hv⟩
  | _, g :: fs, i + 1, f, ⟨cs', rest, h1, h2, h3⟩, hi => by
    obtain ⟨cs, h4, h5⟩ := FrsR.get h3 (by simpa using hi)
    refine ⟨cs, h4, fun j v hv => ?_⟩
    have hl : cs'.length = 5 := El.frame.len h2
    rw [h1, List.getElem?_append_right (by rw [hl]; omega), hl, show (i + 1) * 5 + j - 5 = i * 5 + j by omega]
    exact h5 j v hv
/-- The frames of a machine: the last is its own. -/
def MF (z : Z) (B : Bl) (xs : List Value) (s : StM) : Prop := (s = [] ∧ xs = [] ∧ B = []) ∨ ∃ pre f ps cs, s = pre ++ [f] ∧ xs = ps ++ cs ∧ FrsR z ps pre ∧ FrOwn B cs f ∧ FrSm f
theorem FrOwn.freeze {w0 w : World} {z0 z : Z} {B0 B L : Bl} {cs : List Value} {f : FrM} (h : Res w0 z0 B0 w z (B ++ L)) (ho : FrOwn B cs f) (hs : FrSm f) : ∃ z', Le z z' ∧ Res w0 z0 B0 w z' L ∧ El.frame.rel z' cs f := by
  obtain ⟨B1, B2, v1, v2, rfl, rfl, ho1, ho2⟩ := ho
  obtain ⟨h1, h2, h3, h4, h5⟩ := hs
  rw [List.append_assoc] at h
  obtain ⟨z1, hz1, hS1, hv1⟩ := Res.freezeSl (E := El.trap) h ho1 (by simp only [big]; omega) (fun _ => rfl) (fun z x hx => ⟨rfl, h3 x hx⟩)
  obtain ⟨z2, hz2, hS2, hv2⟩ := Res.freezeSl (E := El.raised) hS1 ho2 (by simp only [big]; omega) (fun _ => rfl) (fun z x hx => ⟨rfl, h4 x hx⟩)
  exact ⟨z2, hz1.trans hz2, hS2, v1, v2, rfl, hv1.mono hz2, hv2, h5⟩
theorem MF.freeze {w0 w : World} {z0 z : Z} {B0 B L : Bl} {xs : List Value} {s : StM} (h : Res w0 z0 B0 w z (B ++ L)) (hm : MF z B xs s) : ∃ z', Le z z' ∧ Res w0 z0 B0 w z' L ∧ FrsR z' xs s := by
  rcases hm with ⟨rfl, rfl, rfl⟩ | ⟨pre, f, ps, cs, rfl, rfl, h1, h2, h3⟩
  · exact ⟨z, Le.refl _, h, rfl⟩
  · obtain ⟨z', hz, hS, hr⟩ := FrOwn.freeze h h2 h3
    exact ⟨z', hz, hS, FrsR.snoc hr (FrsR.mono hz h1)⟩
theorem FrOwn.len {B : Bl} {cs : List Value} {f : FrM} (h : FrOwn B cs f) : cs.length = 5 := by
  obtain ⟨_, _, _, _, _, rfl, _⟩ := h; rfl
theorem FrOwn.ones {B : Bl} {cs : List Value} {f : FrM} (h : FrOwn B cs f) : ∀ u ∈ cs, isOne u = true := by
  obtain ⟨_, _, v1, v2, _, rfl, h1, h2⟩ := h
  obtain ⟨a3, cap3, rfl, hc3⟩ := h1.form
  obtain ⟨a4, cap4, rfl, hc4⟩ := h2.form
  intro u hu
  simp only [InM.cells, List.mem_cons, List.not_mem_nil, or_false] at hu
  rcases hu with rfl | rfl | rfl | rfl | rfl <;> rfl
theorem copied {v : Value} {s : StM} {z : Z} {w : World} (hs : SlR El.frame z v s) (hn : s.length ≤ 1000) (hf : ∀ f ∈ s, f.traps.length ≤ 1000000 ∧ f.pend.length ≤ 1000000) :
    Fn 98 #[v, .func (.func 99) #[] #[]] z [] w fun z' B' r => ∃ Bf Bl xs, B' = Bf ++ Bl ∧ OwnSl 63 5 Bf r s.length xs ∧ MF z' Bl xs s := Fn.intro fun hS => en98 (by
  unfold vc98
  obtain ⟨hb, a, cap, rfl, hc, hel⟩ := hs.form
  (repeat (refine V_run ?_))
  refine LoopG2 (fun (i : Nat) x y w' => y = .int .i64 i ∧ i ≤ s.length ∧ ∃ z' Bf Bl xs, Res w z [] w' z' (Bf ++ Bl) ∧ OwnSl 63 5 Bf x i xs ∧ MF z' Bl xs (s.take i)) (fun i => s.length - i) 0 ⟨rfl, by omega, z, [], [], [], hS, OwnSl.nil, .inl ⟨rfl, rfl, rfl⟩⟩ ?_
  rintro I M i x y w2 m ⟨rfl, h1, z2, Bf, Bl, xs, hS2, ho, hm⟩ back
  (repeat (refine V_run ?_))
  refine Cond_d (fun hh => ?_) (fun hh => ?_)
  · have hlt : i < s.length := by omega
    obtain ⟨b, off, cs, rfl, hr, hat⟩ := hel i _ (List.getElem?_eq_getElem hlt)
    haveI : InR (i : Int) s.length := ⟨by omega, by omega⟩
    haveI : InI ((i : Int) + 1) := ⟨by omega⟩
    obtain ⟨u1, u2, rfl, hu1, hu2, hd⟩ := hr
    haveI : One u1 := by obtain ⟨_, a1, cap1, rfl, _⟩ := hu1.form; exact inferInstance
    haveI : One u2 := by obtain ⟨_, a1, cap1, rfl, _⟩ := hu2.form; exact inferInstance
    haveI : Fz z b (off + (i : Int).toNat * 5) (u1 :: u2 :: s[i].info.cells) := ⟨by rw [Int.toNat_natCast]; exact hat⟩
    dsimp only [InM.cells] at *
    (repeat (first | refine V_run ?_ | refine iV_ldN ?_ | (refine iV_bx ?_; intro _ _ _ _) | (refine iU_st ?_; intro _ _) | refine fV_ldN ?_))
    refine CV_fn0 (fun hz => frame ⟨_, rfl, u1, u2, rfl, hu1.mono hz, hu2.mono hz, hd⟩ (hf _ (List.getElem_mem hlt)).1 (hf _ (List.getElem_mem hlt)).2) ?_
    rintro z3 B3 w3 v3 hle3 hS3 ⟨cs, rfl, hco, hsm⟩
    have hcl := hco.len
    have hco1 := hco.ones
    haveI : LenIs cs 5 := ⟨hcl⟩
    refine V_bs (parts := [(0, .agg cs.toArray)]) rfl (by omega) ?_
    intro b4 w4 hb4 hS4
    have hat4 : At (hp w4) b4 0 cs := ⟨_, _, _, (hS4.mem _ List.mem_cons_self).1, fun j v hv => by simpa using hv⟩
    have hS5 := (hS4.tl.sublist (L' := B3 ++ (Bf ++ Bl)) ((List.Sublist.refl _).append (List.sublist_cons_self _ _)))
    have hS6 : Res w z [] w4 z3 (Bf ++ (B3 ++ Bl)) := hS5.perm (by
      rw [← List.append_assoc, ← List.append_assoc]
      exact List.perm_append_comm.append_right _)
    refine V_app (m := 1) (news := cs) hS6 ho hat4 (by rw [hcl]) hco1 (by omega) (by simp only [room]; omega) (by simp only [room]; omega) ?_
    intro B7 v7 w7 ho7 hS7
    have hS8 : Res w z [] w7 z3 (Bl ++ (B7 ++ B3)) := hS7.perm (by
      rw [← List.append_assoc]
      exact List.perm_append_comm)
    have hm3 : MF z3 Bl xs (s.take i) := by
      rcases hm with h | ⟨pre, f, ps, cs, q1, q2, q3, q4, q5⟩
      · exact .inl h
      · exact .inr ⟨pre, f, ps, cs, q1, q2, FrsR.mono hle3 q3, q4, q5⟩
    obtain ⟨z8, hz8, hS9, hfr⟩ := hm3.freeze hS8
    (repeat (refine V_run ?_))
    refine back (i + 1) _ _ _ ⟨by simp, by omega, z8, B7, B3, _, hS9, ho7, .inr ⟨s.take i, s[i], xs, cs, ?_, rfl, hfr, hco, hsm⟩⟩ (by omega)
    exact (List.take_append_getElem hlt).symm
  · have : i = s.length := by omega
    subst this
    rw [List.take_length] at hm
    exact ⟨_, _, hS2, Bf, Bl, xs, rfl, ho, hm⟩)
end Go.Proofs.Ytjnckainogpenaa
end

section
/- Opening a machine. -/
set_option linter.unusedVariables false
set_option maxRecDepth 20000
set_option synthInstance.maxHeartbeats 400000
set_option synthInstance.maxSize 4000
namespace Go.Proofs.Ytjnckainogpenaa
open Go Q Go.RowKit

theorem idxInt {p : Int → Bool} {fv v : Value} {z : Z} {w : World} {xs : List Int} (hx : SlR El.int z v xs) (hf : ∀ x, PuV fv #[.int .i64 x] (.bool (p x))) : Fn1 112 #[v, fv] z w fun _ r => r = .int .i64 (fidx p xs) := Fn1.intro fun hS => en112 (by
  unfold vc112
  obtain ⟨hb, a, cap, rfl, hc, hel⟩ := hx.form
  (repeat (refine V_run ?_))
  refine LoopG1 (fun (i : Nat) x w' => x = .int .i64 i ∧ i ≤ xs.length ∧ (∀ j y, j < i → xs[j]? = some y → p y = false) ∧ ∃ z', Res w z [] w' z' []) (fun i => xs.length - i) 0 ⟨rfl, by omega, fun j y h => absurd h (by omega), z, hS⟩ ?_
  rintro I M i x w2 m ⟨rfl, h1, h2, z2, hS2⟩ back
  (repeat (refine V_run ?_))
  refine Cond_d (fun h => ?_) (fun h => ?_)
  · have hlt : i < xs.length := by omega
    obtain ⟨b, off, cs, rfl, rfl, hat⟩ := hel i _ (List.getElem?_eq_getElem hlt)
    haveI : InR (i : Int) xs.length := ⟨by omega, by omega⟩
    haveI : InI ((i : Int) + 1) := ⟨by simp only [big] at hb; omega⟩
    haveI : Fz z b (off + (i : Int).toNat * 1) [.int .i64 xs[i]] := ⟨by rw [Int.toNat_natCast]; exact hat⟩
    (repeat (first | refine V_run ?_ | refine fV_ld1 ?_))
    refine CV_va1 hS2 ((hf _).h _ _) ?_
    rintro z4 w4 v4 hle hS4 rfl
    refine Cond_b (fun h' => ?_) (fun h' => ?_)
    · exact ⟨_, _, hS4, by rw [fidx_some h2 (List.getElem?_eq_getElem hlt) h']⟩
    · (repeat (refine V_run ?_))
      refine back (i + 1) _ _ ⟨by simp, by omega, fun j y' hj hjy => ?_, z4, hS4⟩ (by omega)
      by_cases hji : j = i
      · subst hji; rw [List.getElem?_eq_getElem hlt] at hjy; cases hjy; exact h'
      · exact h2 j y' (by omega) hjy
  · skip
    exact ⟨_, _, hS2, by rw [fidx_none fun j y hy => h2 j y (by have := (List.getElem?_eq_some_iff.1 hy).1; omega) hy]⟩)
theorem containsInt {p : Int → Bool} {fv v : Value} {z : Z} {w : World} {xs : List Int} (hx : SlR El.int z v xs) (hf : ∀ x, PuV fv #[.int .i64 x] (.bool (p x))) : Fn1 96 #[v, fv] z w fun _ r => r = .bool (xs.any p) := Fn1.intro fun hS => en96 (by
  unfold vc96
  refine CV_1 (idxInt hx hf) ?_
  rintro z' w' v hle hS' rfl
  (repeat (refine V_run ?_))
  exact ⟨_, _, ‹_›, by rw [fidx_ge]⟩)
instance {n : Int} : Pu 97 #[.int .i64 n] (.bool (!cond n)) := ⟨fun z w => Fn1.intro fun hS => en97 (by
  unfold vc97
  (repeat (first | refine V_run ?_ | (refine CV_pu ?_; intro _ _ _ _)))
  exact ret_eq rfl)⟩
def firstE : List Int → Int
  | [] => 0
  | e :: l => if e = 0 then firstE l else e
theorem first {v : Value} {z : Z} {w : World} {xs : List Int} (hx : SlR El.int z v xs) : Fn1 95 #[v] z w fun _ r => r = .int .i64 (firstE xs) := Fn1.intro fun hS => en95 (by
  unfold vc95
  obtain ⟨hb, a, cap, rfl, hc, hel⟩ := hx.form
  (repeat (refine V_run ?_))
  refine LoopG1 (fun (i : Nat) x w' => x = .int .i64 i ∧ i ≤ xs.length ∧ firstE xs = firstE (xs.drop i) ∧ ∃ z', Res w z [] w' z' []) (fun i => xs.length - i) 0 ⟨rfl, by omega, rfl, z, hS⟩ ?_
  rintro I M i x w2 m ⟨rfl, h1, h2, z2, hS2⟩ back
  (repeat (refine V_run ?_))
  refine Cond_d (fun h => ?_) (fun h => ?_)
  · have hlt : i < xs.length := by omega
    obtain ⟨b, off, cs, rfl, rfl, hat⟩ := hel i _ (List.getElem?_eq_getElem hlt)
    haveI : InR (i : Int) xs.length := ⟨by omega, by omega⟩
    haveI : InI ((i : Int) + 1) := ⟨by simp only [big] at hb; omega⟩
    haveI : Fz z b (off + (i : Int).toNat * 1) [.int .i64 xs[i]] := ⟨by rw [Int.toNat_natCast]; exact hat⟩
    rw [List.drop_eq_getElem_cons hlt] at h2
    simp only [firstE] at h2
    (repeat (first | refine V_run ?_ | refine fV_ld1 ?_))
    refine Cond_nd (fun h' => ?_) (fun h' => ?_)
    · exact ⟨_, _, hS2, by rw [h2, if_neg h']⟩
    · (repeat (refine V_run ?_))
      exact back (i + 1) _ _ ⟨by simp, by omega, by rw [h2, if_pos h'], z2, hS2⟩ (by omega)
  · exact ⟨_, _, hS2, by rw [h2, List.drop_of_length_le (by omega)]; rfl⟩)
/-- A machine. -/
def Mach (z : Z) (B : Bl) (mb : Nat) (s : StM) : Prop := ∃ Bf Bl xs v, B = (mb, .cells [v].toArray 134 (0, 0)) :: (Bf ++ Bl) ∧ OwnSl 63 5 Bf v s.length xs ∧ MF z Bl xs s
def openE (s : StM) (conds : List Int) : Int := if checkB s then (if conds.all cond then 0 else 1) else 2
theorem checkB_fr {s : StM} (h : checkB s = true) : s.length ≤ 30 ∧ ∀ f ∈ s, f.traps.length = 6 ∧ f.pend.length ≤ 4 := by
  simp only [checkB, Bool.and_eq_true, decide_eq_true_eq, List.all_eq_true] at h
  refine ⟨h.1.2, fun f hf => ?_⟩
  have := h.2 f hf
  simp only [framedB, Bool.and_eq_true, decide_eq_true_eq] at this
  exact ⟨this.1.1.1, pend_le4 this.1.2⟩
theorem openP {v v' : Value} {s : StM} {conds : List Int} {z : Z} {w : World} (hs : StR z v s) (hc : SlR El.int z v' conds) : Fn 66 #[v, v'] z [] w fun z' B' r => if openE s conds = 0 then ∃ mb, r = .tuple #[.pointer (some ⟨mb, 0, none⟩), .int .i64 0] ∧ Mach z' B' mb s else B' = [] ∧ r = .tuple #[.pointer none, .int .i64 (openE s conds)] := Fn.intro fun hS => en66 (by
  unfold vc66
  obtain ⟨u, rfl, hu⟩ := hs
  have hu' := hu
  obtain ⟨hb, a, cap, rfl, hcap, hel⟩ := hu.form
  refine iV_bx ?_
  intro b0 w0' hb0 hS0
  (repeat (refine iV_ldN ?_))
  refine CV_1z (fun hz => check ⟨_, rfl, hu'.mono hz⟩) ?_
  rintro z1 w1 v1 hle1 hS1 rfl
  refine CV_1z (fun hz => containsInt (p := fun x => !cond x) (hc.mono hz) fun x => inferInstance) ?_
  rintro z2 w2 v2 hle2 hS2 rfl
  (repeat (first | refine V_run ?_ | (refine CV_pu ?_; intro _ _ _ _)))
  refine V_bs (parts := [(0, _), (1, _)]) rfl (by omega) ?_
  intro b3 w3 hb3 hS3
  obtain ⟨z4, hz4, hS4, hfr⟩ := Res.freezeSl (E := El.int) (B := [(b3, _)]) (f := fun x => [.int .i64 x]) (xs := [errOf (checkB s) 2, if (!conds.any fun x => !cond x) then 0 else 1]) (v := .slice (some ⟨b3, 0, none⟩) 2 2) (e := 31) hS3 ⟨rfl, .inr ⟨b3, 2, [], by rfl, rfl, by simp, by simp [maxLen], rfl⟩⟩ (by simp [big]) (fun _ => rfl) (fun _ _ _ => rfl)
  refine CV_1 (first hfr) ?_
  rintro z5 w5 v5 hle5 hS5 rfl
  have he : firstE [errOf (checkB s) 2, if (!conds.any fun x => !cond x) then 0 else 1] = openE s conds := by
    rw [any_not]
    simp only [firstE, openE, errOf]
    cases checkB s <;> cases conds.all cond <;> simp
  rw [he]
  (repeat (refine V_run ?_))
  refine Cond_nd (fun h => ?_) (fun h => ?_)
  · exact ⟨_, [], hS5.drop, by rw [if_neg h]; exact ⟨rfl, rfl⟩⟩
  · have hck : checkB s = true := by
      simp only [openE] at h
      cases hh : checkB s with
      | true => rfl
      | false => simp [hh] at h
    obtain ⟨h30, hfr⟩ := checkB_fr hck
    (repeat (first | refine V_run ?_ | refine iV_ld1 ?_))
    refine CV_fn0 (fun hz => copied (hu'.mono hz) (by omega) fun f hf => by have := hfr f hf; omega) ?_
    rintro z6 B6 w6 v6 hle6 hS6 ⟨Bf, Bl, xs, rfl, ho, hm⟩
    obtain ⟨a7, cap7, rfl, hc7⟩ := ho.form
    (repeat (first | refine V_run ?_ | (refine iV_bx ?_; intro _ _ _ _)))
    rename_i b8 w8 hb8 hS8
    exact ⟨_, _, hS8.sublist (L' := (b8, _) :: (Bf ++ Bl)) ((List.sublist_append_left _ _).cons_cons _), by rw [if_pos h]; exact ⟨b8, rfl, Bf, Bl, xs, _, rfl, ho, hm⟩⟩)
end Go.Proofs.Ytjnckainogpenaa
end

section
/- Machines at work: setting a trap. -/
set_option linter.unusedVariables false
set_option maxRecDepth 20000
set_option synthInstance.maxHeartbeats 400000
set_option synthInstance.maxSize 4000
namespace Go.Proofs.Ytjnckainogpenaa
open Go Q Go.RowKit

/-- The blocks of a machine, one by one. -/
def mxB (mb fb tb : Nat) (n : Nat) (ps sp ts : List Value) (cap tcap : Nat) (f : FrM) (B2 : Bl) (v2 : Value) : Bl :=
  (mb, .cells [.slice (some ⟨fb, 0, none⟩) n cap].toArray 134 (0, 0)) :: (fb, .cells (ps ++ (.slice (some ⟨tb, 0, none⟩) 6 tcap :: v2 :: .int .i64 f.info.cond :: .int .i64 f.info.mode :: .string f.info.desc :: sp)).toArray 63 (0, 0)) :: (tb, .cells (f.traps.flatMap TrM.cells ++ ts).toArray 73 (0, 0)) :: B2
structure MachX (z : Z) (mb fb tb : Nat) (pre : StM) (ps sp ts : List Value) (cap tcap : Nat) (f : FrM) : Prop where
  fr : FrsR z ps pre
  cap : pre.length + 1 ≤ cap ∧ cap ≤ maxLen ∧ ps.length + 5 + sp.length = cap * 5
  tcap : 6 ≤ tcap ∧ tcap ≤ maxLen ∧ 18 + ts.length = tcap * 3
  six : f.traps.length = 6
  sm : FrSm f
def PendOwn (B2 : Bl) (v2 : Value) (f : FrM) : Prop := OwnSl 70 2 B2 v2 f.pend.length (f.pend.flatMap RaM.cells)
theorem Mach.x {z : Z} {B : Bl} {mb : Nat} {pre : StM} {f : FrM} (h : Mach z B mb (pre ++ [f])) (h6 : f.traps.length = 6) :
    ∃ fb tb ps sp ts cap tcap B2 v2, B = mxB mb fb tb (pre.length + 1) ps sp ts cap tcap f B2 v2 ∧ MachX z mb fb tb pre ps sp ts cap tcap f ∧ PendOwn B2 v2 f := by
  obtain ⟨Bf, Bl, xs, v, rfl, ho, hm⟩ := h
  rcases hm with ⟨h0, _, _⟩ | ⟨pre', f', ps, cs, hs, rfl, h1, ⟨B1, B2, v1, v2, rfl, rfl, ho1, ho2⟩, h3⟩
  · simp at h0
  obtain ⟨rfl, hf⟩ := List.append_inj' hs rfl
  cases hf
  rcases ho.2 with ⟨_, _, h0⟩ | ⟨fb, cap, sp, rfl, rfl, k1, k2, k3⟩
  · simp at h0
  rcases ho1.2 with ⟨_, _, h0⟩ | ⟨tb, tcap, ts, rfl, rfl, l1, l2, l3⟩
  · omega
  have hlen := ho1.1
  refine ⟨fb, tb, ps, sp, ts, cap, tcap, B2, v2, ?_, ⟨h1, ⟨by simpa using k1, k2, ?_⟩, ⟨by omega, l2, ?_⟩, h6, h3⟩, ho2⟩
  · simp only [mxB, h6, List.length_append, List.length_singleton, List.append_assoc, List.cons_append, List.nil_append]
  · rw [← k3]; simp [InM.cells]; omega
  · rw [← l3, List.length_append, hlen, h6]
theorem MachX.mach {z : Z} {mb fb tb : Nat} {pre : StM} {ps sp ts : List Value} {cap tcap : Nat} {f : FrM} {B2 : Bl} {v2 : Value} (h : MachX z mb fb tb pre ps sp ts cap tcap f) (hp : PendOwn B2 v2 f) : Mach z (mxB mb fb tb (pre.length + 1) ps sp ts cap tcap f B2 v2) mb (pre ++ [f]) := by
  have hl := FrsR.len h.fr
  have hfl : (f.traps.flatMap TrM.cells).length = 18 := by rw [flat_len (f := TrM.cells) (n := 3) (fun _ => rfl), h.six]
  refine ⟨[(fb, _)], [(tb, _)] ++ B2, ps ++ (.slice (some ⟨tb, 0, none⟩) 6 tcap :: v2 :: f.info.cells), .slice (some ⟨fb, 0, none⟩) (pre.length + 1) cap, rfl, ⟨by simp [hl]; omega, .inr ⟨fb, cap, sp, by simp, by simp, by simpa using h.cap.1, h.cap.2.1, by simp; have := h.cap.2.2; omega⟩⟩, .inr ⟨pre, f, ps, _, rfl, rfl, h.fr, ⟨[(tb, _)], B2, _, v2, rfl, rfl, ⟨by rw [hfl, h.six], .inr ⟨tb, tcap, ts, rfl, by rw [h.six], by rw [h.six]; exact h.tcap.1, h.tcap.2.1, by rw [List.length_append, hfl]; exact h.tcap.2.2⟩⟩, hp⟩, h.sm⟩⟩
theorem CV_now {w0 w : World} {z0 z : Z} {B0 L : Bl} {C : Obj → Bl} {K : Value → World → Prop} [hS : Res w0 z0 B0 w z L] {mb fb n cap o : Nat} [gb : Blk L mb (.cells [.slice (some ⟨fb, 0, none⟩) (n + 1) cap].toArray 134 (0, 0)) C] (ho : n * 5 = o) (hn : n + 1 ≤ big) (hk : ∀ w', Res w0 z0 B0 w' z L → K (.pointer (some ⟨fb, o, none⟩)) w') :
    CV (.func (.func 67) #[] #[]) #[.pointer (some ⟨mb, 0, none⟩)] w K := CV_enter (args' := #[.pointer (some ⟨mb, 0, none⟩)]) (by simp) (en67 (by
  unfold vc67
  simp only [big] at hn
  haveI : InI (((n + 1 : Nat) : Int) - 1) := ⟨by omega⟩
  haveI : InR (((n + 1 : Nat) : Int) - 1) (n + 1 : Nat) := ⟨by omega, by omega⟩
  (repeat (first | (refine iDr ?_; intro _ _) | refine PV_run ?_ | refine iHV_1 ?_))
  have : (((n + 1 : Nat) : Int) - 1).toNat * 5 = o := by omega
  rw [this]
  exact hk _ ‹_›))
/-! ### The names -/
def nmB : List ByteArray := [⟨#[69, 82, 82, 79, 82]⟩, ⟨#[70, 65, 73, 76, 85, 82, 69]⟩, ⟨#[72, 65, 76, 84]⟩, ⟨#[78, 79, 86, 65, 76, 85, 69]⟩, ⟨#[78, 79, 84, 82, 69, 65, 68, 89]⟩, ⟨#[83, 89, 78, 84, 65, 88]⟩]
def nameOf (c : Int) : ByteArray := nmB.getD c.toNat ⟨#[]⟩
abbrev nmV : List Value := [.string ⟨#[69, 82, 82, 79, 82]⟩, .string ⟨#[70, 65, 73, 76, 85, 82, 69]⟩, .string ⟨#[72, 65, 76, 84]⟩, .string ⟨#[78, 79, 86, 65, 76, 85, 69]⟩, .string ⟨#[78, 79, 84, 82, 69, 65, 68, 89]⟩, .string ⟨#[83, 89, 78, 84, 65, 88]⟩]
instance {c : Int} [h : InR c 6] : At1 nmV c (.string (nameOf c)) := ⟨h.h0, by
  have h0 := h.h0; have h1 := h.h1
  have : c = 0 ∨ c = 1 ∨ c = 2 ∨ c = 3 ∨ c = 4 ∨ c = 5 := by omega
  rcases this with rfl | rfl | rfl | rfl | rfl | rfl <;> rfl⟩
theorem nameOf_size (c : Int) : (nameOf c).size ≤ big := by
  have : ∀ n : Nat, ((nmB.getD n ⟨#[]⟩).size ≤ 100) := fun n => by
    match n with
    | 0 => decide
    | 1 => decide
    | 2 => decide
    | 3 => decide
    | 4 => decide
    | 5 => decide
    | n + 6 => exact Nat.zero_le _
  have := this c.toNat
  simp only [nameOf, big]
  omega
instance : Pu 72 #[] (.agg nmV.toArray) := ⟨fun z w => Fn1.intro fun hS => en72 (by
  unfold vc72
  (repeat (first | refine V_run ?_ | (refine iV_bx ?_; intro _ _ _ _)))
  simp only [List.cons_append, List.nil_append]
  (repeat (first | (refine iU_st ?_; intro _ _) | refine iHV_N ?_))
  exact ⟨_, _, ‹_›, rfl⟩)⟩
/-! ### Setting -/
def setOk (c mode : Int) (text : ByteArray) : Bool := moded c mode && (decide (text = ⟨#[]⟩) || labB text)
def setT (was : TrM) (c mode : Int) (text : ByteArray) : TrM := if mode = 0 then noTrap else ⟨mode, if text = ⟨#[]⟩ then nameOf c else text, decide (mode = 2) && was.delayed⟩
def FrM.tr (f : FrM) (c : Int) : TrM := f.traps.getD c.toNat noTrap
def FrM.put (f : FrM) (c : Int) (t : TrM) : FrM := { f with traps := f.traps.set c.toNat t }
theorem FrM.split {f : FrM} {c : Int} (h6 : f.traps.length = 6) (h0 : 0 ≤ c) (h1 : c < 6) : ∃ tp tq, f.traps = tp ++ f.tr c :: tq ∧ tp.length = c.toNat ∧ ∀ t, (f.put c t).traps = tp ++ t :: tq := by
  have hlt : c.toNat < f.traps.length := by omega
  refine ⟨f.traps.take c.toNat, f.traps.drop (c.toNat + 1), ?_, by rw [List.length_take]; omega, fun t => ?_⟩
  · rw [FrM.tr, List.getD_eq_getElem?_getD, List.getElem?_eq_getElem hlt, Option.getD_some, ← List.drop_eq_getElem_cons hlt, List.take_append_drop]
  · simp only [FrM.put]
    rw [List.set_eq_take_append_cons_drop, if_pos hlt]
theorem setP {z : Z} {w : World} {B : Bl} {mb : Nat} {pre : StM} {f : FrM} {c mode : Int} {text : ByteArray} (hm : Mach z B mb (pre ++ [f])) (h6 : f.traps.length = 6) (h0 : 0 ≤ c) (h1 : c < 6) (hp : pre.length ≤ 100) (ht : text.size ≤ big) :
    Fn 85 #[.pointer (some ⟨mb, 0, none⟩), .int .i64 c, .int .i64 mode, .string text] z B w fun z' B' r => if setOk c mode text then r = .tuple #[noAct.v, .int .i64 0] ∧ Mach z' B' mb (pre ++ [f.put c (setT (f.tr c) c mode text)]) else r = .tuple #[noAct.v, .int .i64 1] := Fn.intro fun hS => en85 (by
  unfold vc85
  obtain ⟨fb, tb, ps, sp, ts, cap, tcap, B2, v2, hB, hx, hpo⟩ := hm.x h6
  obtain ⟨a2, cap2, rfl, hc2⟩ := hpo.form
  obtain ⟨tp, tq, hsp, htl, hput⟩ := FrM.split h6 h0 h1
  haveI : InR c 6 := ⟨h0, h1⟩
  haveI : InR c (6 : Nat) := ⟨h0, by omega⟩
  have hS' : Res w z B w z _ := Eq.subst (motive := fun X => Res w z B w z X) hB hS
  clear hS
  simp only [mxB, hsp, List.flatMap_append, List.flatMap_cons, TrM.cells, List.append_assoc, List.cons_append, List.nil_append] at hS'
  have hoff : c.toNat * 3 = (tp.flatMap TrM.cells).length := by rw [flat_len (f := TrM.cells) (n := 3) (fun _ => rfl), htl]
  have hlen := hx.fr.len
  have fin : ∀ (w' : World) (z' : Z) (t : TrM) (b : Nat) (o : Obj), t.label.size ≤ big → Le z z' → Res w z B w' z' ((b, o) :: (mb, .cells [.slice (some ⟨fb, 0, none⟩) (pre.length + 1) cap].toArray 134 (0, 0)) :: (fb, .cells (ps ++ (.slice (some ⟨tb, 0, none⟩) 6 tcap :: .slice a2 f.pend.length cap2 :: .int .i64 f.info.cond :: .int .i64 f.info.mode :: .string f.info.desc :: sp)).toArray 63 (0, 0)) :: (tb, .cells (tp.flatMap TrM.cells ++ (.int .i64 t.mode :: .string t.label :: .bool t.delayed :: (tq.flatMap TrM.cells ++ ts))).toArray 73 (0, 0)) :: B2) →
      ∃ B', Res w z B w' z' B' ∧ Mach z' B' mb (pre ++ [f.put c t]) := fun w' z' t b o hts hz hR => by
    refine ⟨mxB mb fb tb (pre.length + 1) ps sp ts cap tcap (f.put c t) B2 (.slice a2 f.pend.length cap2), ?_, ?_⟩
    · simp only [mxB, hput, List.flatMap_append, List.flatMap_cons, TrM.cells, List.append_assoc, List.cons_append, List.nil_append]
      exact hR.tl
    · refine MachX.mach ⟨FrsR.mono hz hx.fr, hx.cap, hx.tcap, by rw [hput]; rw [hsp] at h6; simpa using h6, ?_⟩ hpo
      obtain ⟨s1, s2, s3, s4, s5⟩ := hx.sm
      refine ⟨by rw [hput]; rw [hsp] at s1; simpa using s1, s2, fun u hu => ?_, s4, s5⟩
      rw [hput] at hu
      rcases List.mem_append.1 hu with hu | hu
      · exact s3 u (by rw [hsp]; exact List.mem_append_left _ hu)
      · rcases List.mem_cons.1 hu with rfl | hu
        · exact hts
        · exact s3 u (by rw [hsp]; exact List.mem_append_right _ (List.mem_cons_of_mem _ hu))
  generalize tp.flatMap TrM.cells = tps at hS' hoff fin
  generalize f.tr c = was at hS'
  (repeat (first | refine V_run ?_ | (refine iV_bx ?_; intro _ _ _ _) | (refine JC ?_; intro _ _ _ _) | (refine CV_pu ?_; intro _ _ _ _)))
  have hok : (bif !moded c mode then true else bif !decide (text = ⟨#[]⟩) then !labB text else false) = !setOk c mode text := by
    simp only [setOk]
    cases moded c mode <;> cases decide (text = ⟨#[]⟩) <;> cases labB text <;> rfl
  rw [hok]
  refine Cond_n (fun h => ?_) (fun h => ?_)
  · (repeat (first | refine V_run ?_ | (refine iU_st ?_; intro _ _) | refine iHV_N ?_))
    exact ⟨_, _, ‹_›, by rw [h]; rfl⟩
  · refine CV_now (n := pre.length) (o := ps.length) hlen.symm (by simp only [big]; omega) ?_
    intro w9 hS9
    (repeat (first | refine V_run ?_ | refine iV_ld1 ?_))
    rw [hoff]
    refine Cond_d (fun hm0 => ?_) (fun hm0 => ?_)
    · (repeat (first | refine V_run ?_ | (refine iU_st ?_; intro _ _) | refine iHV_N ?_))
      rename_i hSe
      obtain ⟨B', hR, hM⟩ := fin _ _ noTrap _ _ (by simp [noTrap, ByteArray.size]) hSe.zle hSe
      exact ⟨_, B', hR, by rw [if_pos h, setT, if_pos hm0]; exact ⟨rfl, hM⟩⟩
    · (repeat (first | refine V_run ?_ | (refine J1 ?_; intro _ _)))
      refine Cond_d (fun ht0 => ?_) (fun ht0 => ?_)
      · (repeat (first | refine V_run ?_ | (refine J1 ?_; intro _ _) | refine K1 ?_ | (refine CV_pu ?_; intro _ _ _ _)))
        refine Cond_d (fun hm2 => ?_) (fun hm2 => ?_)
        · (repeat (first | refine V_run ?_ | refine iV_ld1 ?_ | (refine iU_st ?_; intro _ _) | refine iHV_N ?_ | refine K1 ?_))
          rename_i hSe
          obtain ⟨B', hR, hM⟩ := fin _ _ ⟨mode, nameOf c, was.delayed⟩ _ _ (nameOf_size c) hSe.zle hSe
          exact ⟨_, B', hR, by rw [if_pos h, setT, if_neg hm0, if_pos ht0, decide_eq_true hm2]; exact ⟨rfl, hM⟩⟩
        · (repeat (first | refine V_run ?_ | (refine iU_st ?_; intro _ _) | refine iHV_N ?_ | refine K1 ?_))
          rename_i hSe
          obtain ⟨B', hR, hM⟩ := fin _ _ ⟨mode, nameOf c, false⟩ _ _ (nameOf_size c) hSe.zle hSe
          exact ⟨_, B', hR, by rw [if_pos h, setT, if_neg hm0, if_pos ht0, decide_eq_false hm2]; exact ⟨rfl, hM⟩⟩
      · (repeat (first | refine V_run ?_ | (refine J1 ?_; intro _ _) | refine K1 ?_))
        refine Cond_d (fun hm2 => ?_) (fun hm2 => ?_)
        · (repeat (first | refine V_run ?_ | refine iV_ld1 ?_ | (refine iU_st ?_; intro _ _) | refine iHV_N ?_ | refine K1 ?_))
          rename_i hSe
          obtain ⟨B', hR, hM⟩ := fin _ _ ⟨mode, text, was.delayed⟩ _ _ ht hSe.zle hSe
          exact ⟨_, B', hR, by rw [if_pos h, setT, if_neg hm0, if_neg ht0, decide_eq_true hm2]; exact ⟨rfl, hM⟩⟩
        · (repeat (first | refine V_run ?_ | (refine iU_st ?_; intro _ _) | refine iHV_N ?_ | refine K1 ?_))
          rename_i hSe
          obtain ⟨B', hR, hM⟩ := fin _ _ ⟨mode, text, false⟩ _ _ ht hSe.zle hSe
          exact ⟨_, B', hR, by rw [if_pos h, setT, if_neg hm0, if_neg ht0, decide_eq_false hm2]; exact ⟨rfl, hM⟩⟩)
end Go.Proofs.Ytjnckainogpenaa
end

section
/- Machines at work: signalling, raising. -/
set_option linter.unusedVariables false
set_option maxRecDepth 20000
set_option synthInstance.maxHeartbeats 400000
set_option synthInstance.maxSize 4000
namespace Go.Proofs.Ytjnckainogpenaa
open Go Q Go.RowKit

def sigF (f : FrM) (c : Int) (desc : ByteArray) : FrM := { traps := f.traps.set c.toNat noTrap, pend := [], info := ⟨c, 1, desc⟩ }
def sigA (f : FrM) (c : Int) (desc : ByteArray) : AcM := ⟨1, (f.tr c).label, c, desc⟩
theorem signalP {z : Z} {w : World} {B : Bl} {mb fb tb cap tcap : Nat} {pre : StM} {ps sp ts : List Value} {f : FrM} {B2 : Bl} {v2 : Value} [One v2] {c : Int} {desc : ByteArray} (hB : B = mxB mb fb tb (pre.length + 1) ps sp ts cap tcap f B2 v2) (hx : MachX z mb fb tb pre ps sp ts cap tcap f) (h0 : 0 ≤ c) (h1 : c < 6) (hp : pre.length ≤ 100) (hd : desc.size ≤ big) :
    Fn 101 #[.pointer (some ⟨mb, 0, none⟩), .int .i64 c, .string desc] z B w fun z' B' r => r = (sigA f c desc).v ∧ Mach z' B' mb (pre ++ [sigF f c desc]) := Fn.intro fun hS => en101 (by
  unfold vc101
  have h6 := hx.six
  obtain ⟨tp, tq, hsp, htl, hput⟩ := FrM.split h6 h0 h1
  haveI : InR c (6 : Nat) := ⟨h0, by omega⟩
  have hS' : Res w z B w z _ := Eq.subst (motive := fun X => Res w z B w z X) hB hS
  clear hS
  simp only [mxB, hsp, List.flatMap_append, List.flatMap_cons, TrM.cells, List.append_assoc, List.cons_append, List.nil_append] at hS'
  have hoff : c.toNat * 3 = (tp.flatMap TrM.cells).length := by rw [flat_len (f := TrM.cells) (n := 3) (fun _ => rfl), htl]
  have hlen := hx.fr.len
  have hset : (sigF f c desc).traps = tp ++ noTrap :: tq := hput noTrap
  have fin : ∀ (w' : World) (z' : Z) (b b' : Nat) (o o' : Obj), Le z z' → Res w z B w' z' ((b, o) :: (b', o') :: (mb, .cells [.slice (some ⟨fb, 0, none⟩) (pre.length + 1) cap].toArray 134 (0, 0)) :: (fb, .cells (ps ++ (.slice (some ⟨tb, 0, none⟩) 6 tcap :: .slice none 0 0 :: .int .i64 c :: .int .i64 1 :: .string desc :: sp)).toArray 63 (0, 0)) :: (tb, .cells (tp.flatMap TrM.cells ++ (.int .i64 0 :: .string ⟨#[]⟩ :: .bool false :: (tq.flatMap TrM.cells ++ ts))).toArray 73 (0, 0)) :: B2) →
      ∃ B', Res w z B w' z' B' ∧ Mach z' B' mb (pre ++ [sigF f c desc]) := fun w' z' b b' o o' hz hR => by
    refine ⟨mxB mb fb tb (pre.length + 1) ps sp ts cap tcap (sigF f c desc) [] (.slice none 0 0), ?_, ?_⟩
    · simp only [mxB, hset, List.flatMap_append, List.flatMap_cons, TrM.cells, List.append_assoc, List.cons_append, List.nil_append]
      exact hR.tl.tl.sublist (((List.nil_sublist B2).cons_cons _).cons_cons _ |>.cons_cons _)
    · refine MachX.mach ⟨FrsR.mono hz hx.fr, hx.cap, hx.tcap, by rw [hset]; rw [hsp] at h6; simpa using h6, ?_⟩ OwnSl.nil
      obtain ⟨s1, s2, s3, s4, s5⟩ := hx.sm
      refine ⟨by rw [hset]; rw [hsp] at s1; simpa using s1, by simp [sigF], fun u hu => ?_, fun u hu => by simp [sigF] at hu, hd⟩
      rw [hset] at hu
      rcases List.mem_append.1 hu with hu | hu
      · exact s3 u (by rw [hsp]; exact List.mem_append_left _ hu)
      · rcases List.mem_cons.1 hu with rfl | hu
        · simp [noTrap, ByteArray.size]
        · exact s3 u (by rw [hsp]; exact List.mem_append_right _ (List.mem_cons_of_mem _ hu))
  generalize tp.flatMap TrM.cells = tps at hS' hoff fin
  have hlab : (sigA f c desc).v = .agg [.int .i64 1, .string (f.tr c).label, .int .i64 c, .string desc].toArray := rfl
  rw [hlab]
  generalize f.tr c = was at hS'
  (repeat (refine iV_bx ?_; intro _ _ _ _))
  refine CV_now (n := pre.length) (o := ps.length) hlen.symm (by simp only [big]; omega) ?_
  intro w9 hS9
  (repeat (first | refine V_run ?_ | refine iV_ld1 ?_))
  rw [hoff]
  (repeat (first | refine V_run ?_ | refine iV_ld1 ?_ | (refine iV_bx ?_; intro _ _ _ _) | (refine iU_st ?_; intro _ _)))
  rw [hoff]
  (repeat (first | refine V_run ?_ | refine iV_ldN ?_ | (refine iU_st ?_; intro _ _) | refine iHV_N ?_))
  rename_i hSe
  obtain ⟨B', hR, hM⟩ := fin _ _ _ _ _ _ hSe.zle hSe
  exact ⟨_, B', hR, rfl, hM⟩)
end Go.Proofs.Ytjnckainogpenaa
end

section
/- Machines at work: raising. -/
set_option linter.unusedVariables false
set_option maxRecDepth 20000
set_option synthInstance.maxHeartbeats 400000
set_option synthInstance.maxSize 4000
namespace Go.Proofs.Ytjnckainogpenaa
open Go Q Go.RowKit

def hasP (f : FrM) (c : Int) : Bool := f.pend.any fun x => decide (x.cond = c)
theorem CV_pend {w0 w : World} {z0 z : Z} {B0 L : Bl} {C : Obj → Bl} {K : Value → World → Prop} [hS : Res w0 z0 B0 w z L] {f : FrM} {B2 : Bl} {v2 : Value} {b5 : Nat} {n : Int} [gb : Blk L b5 (.cells [.int .i64 n].toArray 3 (0, 0)) C] (hpo : PendOwn B2 v2 f) (hin : ∀ p ∈ B2, p ∈ L) (hl : f.pend.length ≤ 1000000)
    (hk : ∀ z' w', Le z z' → Res w0 z0 B0 w' z' L → K (.bool (hasP f n)) w') : CV (.func (.func 102) #[] #[]) #[v2, .func (.func 103) #[] #[.pointer (some ⟨b5, 0, none⟩)]] w K :=
  CV_enter (args' := #[v2, .func (.func 103) #[] #[.pointer (some ⟨b5, 0, none⟩)]]) (by simp) (en102 (by
  unfold vc102
  refine CV_enter (args' := #[v2, .func (.func 103) #[] #[.pointer (some ⟨b5, 0, none⟩)]]) (by simp) (en114 ?_)
  unfold vc114
  have hform := hpo.form
  obtain ⟨a2, cap2, rfl, hc2⟩ := hform
  (repeat (refine V_run ?_))
  refine LoopG1 (fun (i : Nat) x w' => x = .int .i64 i ∧ i ≤ f.pend.length ∧ (∀ j y, j < i → f.pend[j]? = some y → decide (y.cond = n) = false) ∧ ∃ z', Le z z' ∧ Res w0 z0 B0 w' z' L) (fun i => f.pend.length - i) 0 ⟨rfl, by omega, fun j y h => absurd h (by omega), z, Le.refl _, hS⟩ ?_
  rintro I M i x w2 m ⟨rfl, h1, h2, z2, hz2, hS2⟩ back
  (repeat (refine V_run ?_))
  refine Cond_d (fun h => ?_) (fun h => ?_)
  · have hlt : i < f.pend.length := by omega
    haveI : InR (i : Int) f.pend.length := ⟨by omega, by omega⟩
    haveI : InI ((i : Int) + 1) := ⟨by omega⟩
    rcases hpo.2 with ⟨_, _, h0⟩ | ⟨b, cap, sp, rfl, hv, k1, k2, k3⟩
    · omega
    cases hv
    have hat : At (hp w2) b (i * 2) f.pend[i].cells := ⟨_, _, _, (hS2.mem _ (hin _ List.mem_cons_self)).1, fun j v hv => by
      have := flat_get (f := RaM.cells) (n := 2) (fun _ => rfl) (List.getElem?_eq_getElem hlt) j v hv
      simp only [List.getElem?_toArray]
      rw [List.getElem?_append_left (List.getElem?_eq_some_iff.1 this).1]
      exact this⟩
    refine V_run ?_
    rw [Int.toNat_natCast]
    refine V_ldN hat rfl ?_
    refine CV_enter (args' := #[.agg f.pend[i].cells.toArray, .pointer (some ⟨b5, 0, none⟩)]) (by simp) (en103 ?_)
    unfold vc103
    dsimp only [RaM.cells]
    (repeat (first | refine V_run ?_ | refine iV_ld1 ?_ | (refine iV_bx ?_; intro _ _ _ _)))
    refine Cond_d (fun h' => ?_) (fun h' => ?_)
    · have := fidx_some h2 (List.getElem?_eq_getElem hlt) (by simpa using h')
      have hh : hasP f n = true := by rw [hasP, ← fidx_ge, this]; simp
      have e : decide ((i : Int) ≥ 0) = hasP f n := by rw [hh]; simp
      refine V_run ?_
      rw [e]
      exact hk _ _ hz2 (Res.tl ‹_›)
    · (repeat (refine V_run ?_))
      refine back (i + 1) _ _ ⟨by simp, by omega, fun j y' hj hjy => ?_, z2, hz2, Res.tl ‹_›⟩ (by omega)
      by_cases hji : j = i
      · subst hji; rw [List.getElem?_eq_getElem hlt] at hjy; cases hjy; simpa using h'
      · exact h2 j y' (by omega) hjy
  · (repeat (refine V_run ?_))
    have := fidx_none (p := fun x : RaM => decide (x.cond = n)) (xs := f.pend) fun j y hy => h2 j y (by have := (List.getElem?_eq_some_iff.1 hy).1; omega) hy
    have hh : hasP f n = false := by rw [hasP, ← fidx_ge, this]; rfl
    have e : (decide ((-1 : Int) ≥ 0)) = hasP f n := by rw [hh]; rfl
    rw [e]
    exact hk _ _ hz2 hS2))
theorem tget {f : FrM} {c : Int} (h6 : f.traps.length = 6) (h0 : 0 ≤ c) (h1 : c < 6) (ts : List Value) : Get (f.traps.flatMap TrM.cells ++ ts) (c.toNat * 3) (.int .i64 (f.tr c).mode) ∧ Get (f.traps.flatMap TrM.cells ++ ts) (c.toNat * 3 + 1) (.string (f.tr c).label) ∧ Get (f.traps.flatMap TrM.cells ++ ts) (c.toNat * 3 + 2) (.bool (f.tr c).delayed) := by
  have hlt : c.toNat < f.traps.length := by omega
  have key : ∀ j v, (f.tr c).cells[j]? = some v → (f.traps.flatMap TrM.cells ++ ts)[c.toNat * 3 + j]? = some v := fun j v hv => by
    have hx : f.traps[c.toNat]? = some (f.tr c) := by rw [FrM.tr, List.getD_eq_getElem?_getD, List.getElem?_eq_getElem hlt]; rfl
    have := flat_get (f := TrM.cells) (n := 3) (fun _ => rfl) hx j v hv
    rw [List.getElem?_append_left (List.getElem?_eq_some_iff.1 this).1]
    exact this
  exact ⟨⟨key 0 _ rfl⟩, ⟨key 1 _ rfl⟩, ⟨key 2 _ rfl⟩⟩
def raiseC (f : FrM) (c : Int) : Int := if c = 1 ∧ (f.tr 1).mode = 0 then 0 else c
def raiseA (f : FrM) (c : Int) (desc : ByteArray) : AcM :=
  if (f.tr (raiseC f c)).mode = 0 then (if raiseC f c = 5 ∨ raiseC f c = 2 then ⟨3, ⟨#[]⟩, raiseC f c, desc⟩ else noAct)
  else if immediate (raiseC f c) then sigA f (raiseC f c) desc else noAct
def raiseF (f : FrM) (c : Int) (desc : ByteArray) : FrM :=
  if (f.tr (raiseC f c)).mode = 0 then f
  else if immediate (raiseC f c) then sigF f (raiseC f c) desc
  else if (f.tr (raiseC f c)).delayed || hasP f (raiseC f c) then f
  else { f with pend := f.pend ++ [⟨raiseC f c, desc⟩] }
theorem CV_is {w0 w : World} {z0 z : Z} {B0 L : Bl} {C C' C'' : Obj → Bl} {K : Value → World → Prop} [hS : Res w0 z0 B0 w z L] {f : FrM} {bb fb tb o tcap : Nat} {c : Int} {l ts : List Value} [gb : Blk L bb (.cells [.pointer (some ⟨fb, o, none⟩)].toArray 116 (0, 0)) C] [gf : Blk L fb (.cells l.toArray 63 (0, 0)) C'] [gl : Get l o (.slice (some ⟨tb, 0, none⟩) 6 tcap)] [gt : Blk L tb (.cells (f.traps.flatMap TrM.cells ++ ts).toArray 73 (0, 0)) C'']
    (h6 : f.traps.length = 6) (h0 : 0 ≤ c) (h1 : c < 6) (hk : K (.bool (!decide ((f.tr c).mode = 0))) w) : CV (.func (.func 100) #[] #[.pointer (some ⟨bb, 0, none⟩)]) #[.int .i64 c] w K :=
  CV_enter (args' := #[.int .i64 c, .pointer (some ⟨bb, 0, none⟩)]) (by simp) (en100 (by
  unfold vc100
  obtain ⟨g1, _, _⟩ := tget h6 h0 h1 ts
  haveI : InR c (6 : Nat) := ⟨h0, by omega⟩
  (repeat (first | refine V_run ?_ | refine iV_ld1 ?_))
  exact hk))
theorem raiseP {z : Z} {w : World} {B : Bl} {mb : Nat} {pre : StM} {f : FrM} {c m : Int} {desc : ByteArray} (hm : Mach z B mb (pre ++ [f])) (h6 : f.traps.length = 6) (h0 : 0 ≤ c) (h1 : c < 6) (hp : pre.length ≤ 100) (hd : desc.size ≤ big) (hpl : f.pend.length ≤ 1000) :
    Fn 68 #[.pointer (some ⟨mb, 0, none⟩), .int .i64 c, .int .i64 m, .string desc] z B w fun z' B' r => if descB desc then r = .tuple #[(raiseA f c desc).v, .int .i64 0] ∧ Mach z' B' mb (pre ++ [raiseF f c desc]) else r = .tuple #[noAct.v, .int .i64 1] := Fn.intro fun hS => en68 (by
  unfold vc68
  obtain ⟨fb, tb, ps, sp, ts, cap, tcap, B2, v2, hB, hx, hpo⟩ := hm.x h6
  obtain ⟨a2, cap2, rfl, hc2⟩ := hpo.form
  have hS' : Res w z B w z _ := Eq.subst (motive := fun X => Res w z B w z X) hB hS
  clear hS
  simp only [mxB] at hS'
  have hlen := hx.fr.len
  refine iV_bx ?_
  intro b5 w5 hb5 hS5
  refine iV_al ?_
  intro b8 w8 hb8 hS8
  (repeat (first | refine V_run ?_ | (refine CV_pu ?_; intro _ _ _ _)))
  refine Cond_n (fun hdb => ?_) (fun hdb => ?_)
  · (repeat (first | refine V_run ?_ | (refine iU_st ?_; intro _ _) | refine iHV_N ?_))
    exact ⟨_, _, ‹_›, by rw [hdb]; rfl⟩
  refine CV_now (n := pre.length) (o := ps.length) hlen.symm (by simp only [big]; omega) ?_
  intro w9 hS9
  refine iV_al ?_
  intro b10 w10 hb10 hS10
  refine iU_st ?_
  intro w11 hS11
  clear hS9 hS10 hS8 hS5 hS'
  have hend : ∀ (zz : Z) (ww : World) (o8 o5 o10 : Obj) (c' : Int), Le z zz → Res w z B ww zz ((b10, o10) :: (b8, o8) :: (b5, o5) :: mxB mb fb tb (pre.length + 1) ps sp ts cap tcap f B2 (.slice a2 f.pend.length cap2)) → ∃ B', Res w z B ww zz B' ∧ Mach zz B' mb (pre ++ [f]) := fun zz ww o8 o5 o10 c' hz hR =>
    ⟨_, hR.tl.tl.tl, MachX.mach ⟨FrsR.mono hz hx.fr, hx.cap, hx.tcap, hx.six, hx.sm⟩ hpo⟩
  simp only [mxB] at hend
  have hrc : 0 ≤ raiseC f c ∧ raiseC f c < 6 := by unfold raiseC; split <;> omega
  refine J0cut (fun w' => ∃ z', Res w z B w' z' ((b10, .cells [.pointer (some ⟨fb, ps.length, none⟩)].toArray 116 (0, 0)) :: (b8, .cells [.int .i64 0, .string ⟨#[]⟩, .int .i64 0, .string ⟨#[]⟩].toArray 39 (0, 0)) :: (b5, .cells [.int .i64 (raiseC f c)].toArray 3 (0, 0)) :: (mb, .cells [.slice (some ⟨fb, 0, none⟩) (pre.length + 1) cap].toArray 134 (0, 0)) :: (fb, .cells (ps ++ (.slice (some ⟨tb, 0, none⟩) 6 tcap :: .slice a2 f.pend.length cap2 :: .int .i64 f.info.cond :: .int .i64 f.info.mode :: .string f.info.desc :: sp)).toArray 63 (0, 0)) :: (tb, .cells (f.traps.flatMap TrM.cells ++ ts).toArray 73 (0, 0)) :: B2)) ?_ ?_
  rotate_left
  · intro KJ hJ
    (repeat (first | refine V_run ?_ | refine iV_ld1 ?_ | (refine J1 ?_; intro _ _)))
    refine Cond_d (fun hc1 => ?_) (fun hc1 => ?_)
    · subst hc1
      (repeat (refine iV_ld1 ?_))
      refine CV_is (f := f) (ts := ts) h6 (by omega) (by omega) ?_
      (repeat (first | refine V_run ?_ | refine K1 ?_))
      refine Cond_n (fun h2 => ?_) (fun h2 => ?_)
      · have h2' : (f.tr 1).mode = 0 := by simpa using h2
        have hr : raiseC f 1 = 0 := by simp [raiseC, h2']
        (repeat (first | (refine iU_st ?_; intro _ _) | refine K0 ?_))
        exact ⟨_, by rw [hr]; assumption⟩
      · have h2' : ¬ (f.tr 1).mode = 0 := by simpa using h2
        have hr : raiseC f 1 = 1 := by simp [raiseC, h2']
        (repeat (refine K0 ?_))
        exact ⟨_, by rw [hr]; assumption⟩
    · have hr : raiseC f c = c := by simp [raiseC, hc1]
      (repeat (first | refine Cond_f ?_ | refine K1 ?_ | refine K0 ?_))
      exact ⟨_, by rw [hr]; assumption⟩
  rintro w12 ⟨z12, hS12⟩
  clear hS11
  have hz12 := hS12.zle
  obtain ⟨hc0, hc6⟩ := hrc
  unfold raiseA raiseF
  generalize raiseC f c = d at *
  refine J0 (fun KJ hJ => ?_)
  (repeat (refine iV_ld1 ?_))
  refine CV_is (f := f) (ts := ts) h6 hc0 hc6 ?_
  (repeat (first | refine V_run ?_ | (refine JC ?_; intro _ _ _ _)))
  refine Cond_b (fun h52 => ?_) (fun h52 => ?_)
  · have h52' : (f.tr d).mode = 0 ∧ (d = 5 ∨ d = 2) := by
      simp only [cond_eq_ite] at h52
      by_cases e0 : (f.tr d).mode = 0 <;> by_cases e : d = 5 <;> simp [e0, e] at h52 ⊢ <;> exact h52
    simp only [h52'.1, h52'.2, if_true] at hJ ⊢
    (repeat (first | refine V_run ?_ | refine iV_ld1 ?_ | (refine iU_st ?_; intro _ _) | refine iHV_N ?_))
    rename_i hSe
    obtain ⟨B', hR, hM⟩ := hend _ _ _ _ _ 0 hSe.zle hSe
    exact ⟨_, B', hR, by rw [if_pos hdb]; exact ⟨rfl, hM⟩⟩
  (repeat (refine iV_ld1 ?_))
  refine CV_is (f := f) (ts := ts) h6 hc0 hc6 ?_
  (repeat (refine V_run ?_))
  refine Cond_n (fun hmo => ?_) (fun hmo => ?_)
  · have hmo' : (f.tr d).mode = 0 := by simpa using hmo
    have h52' : ¬ (d = 5 ∨ d = 2) := fun hh => by
      rcases hh with rfl | rfl <;> simp [hmo'] at h52
    simp only [hmo', h52', if_true, if_false] at hJ ⊢
    (repeat (first | refine V_run ?_ | (refine iU_st ?_; intro _ _) | refine iHV_N ?_ | refine K0 ?_))
    rename_i hSe
    obtain ⟨B', hR, hM⟩ := hend _ _ _ _ _ 0 hSe.zle hSe
    exact ⟨_, B', hR, by rw [if_pos hdb]; exact ⟨rfl, hM⟩⟩
  · have hmo' : ¬ (f.tr d).mode = 0 := by simpa using hmo
    simp only [hmo', if_false] at hJ ⊢
    (repeat (first | refine iV_ld1 ?_ | (refine CV_pu ?_; intro _ _ _ _)))
    refine Cond_b (fun him => ?_) (fun him => ?_)
    · simp only [him, if_true] at hJ ⊢
      (repeat (refine iV_ld1 ?_))
      rename_i hSe
      have hx' : MachX _ mb fb tb pre ps sp ts cap tcap f := ⟨FrsR.mono hSe.zle hx.fr, hx.cap, hx.tcap, hx.six, hx.sm⟩
      refine CV_fn (B := mxB mb fb tb (pre.length + 1) ps sp ts cap tcap f B2 (.slice a2 f.pend.length cap2)) (F := [(b10, _), (b8, .cells [.int .i64 0, .string ⟨#[]⟩, .int .i64 0, .string ⟨#[]⟩].toArray 39 (0, 0)), (b5, _)]) (hSe.perm (List.perm_append_comm (l₁ := [(b10, _), (b8, _), (b5, _)]) (l₂ := mxB mb fb tb (pre.length + 1) ps sp ts cap tcap f B2 (.slice a2 f.pend.length cap2)))) (signalP rfl hx' hc0 hc6 hp hd) (by simp) ?_
      rintro z13 B13 w13 v13 hle13 hS13 ⟨rfl, hM⟩
      dsimp only [AcM.v, AcM.cells] at *
      (repeat (first | (refine iU_st ?_; intro _ _) | refine iHV_N ?_))
      rename_i hSe2
      exact ⟨_, B13, hSe2.sublist (List.sublist_append_left _ _), by rw [if_pos hdb]; exact ⟨rfl, hM⟩⟩
    · have him' : ¬ immediate d = true := by simp [him]
      simp only [him'] at hJ ⊢
      obtain ⟨g1, g2, g3⟩ := tget h6 hc0 hc6 ts
      haveI : InR d (6 : Nat) := ⟨hc0, by omega⟩
      (repeat (first | (refine iDr ?_; intro _ _) | refine PV_run ?_ | refine iHV_1 ?_ | (refine J1 ?_; intro _ _)))
      refine Cond_b (fun hde => ?_) (fun hde => ?_)
      · simp only [hde, Bool.true_or, if_true] at hJ
        (repeat (first | refine V_run ?_ | (refine iU_st ?_; intro _ _) | refine iHV_N ?_ | refine Cond_t ?_ | refine K1 ?_ | refine K0 ?_))
        rename_i hSe
        obtain ⟨B', hR, hM⟩ := hend _ _ _ _ _ 0 hSe.zle hSe
        exact ⟨_, B', hR, by rw [if_pos hdb]; exact ⟨rfl, by simpa [hde] using hM⟩⟩
      · simp only [hde, Bool.false_or] at hJ
        (repeat (first | refine PV_run ?_ | refine iHV_1 ?_))
        refine CV_pend (f := f) (B2 := B2) hpo (fun p hp => by simp [hp]) hx.sm.2.1 ?_
        rintro z14 w14 hz14 hS14
        (repeat (first | refine iRI_1 ?_ | refine K1 ?_))
        refine Cond_b (fun hha => ?_) (fun hha => ?_)
        · simp only [hha, if_true] at hJ
          (repeat (first | refine V_run ?_ | (refine iU_st ?_; intro _ _) | refine iHV_N ?_ | refine K0 ?_))
          rename_i hSe
          obtain ⟨B', hR, hM⟩ := hend _ _ _ _ _ 0 hSe.zle hSe
          exact ⟨_, B', hR, by rw [if_pos hdb]; exact ⟨rfl, by simpa [hde, hha] using hM⟩⟩
        · simp only [hha] at hJ
          (repeat (first | (refine iDr ?_; intro _ _) | refine PV_run ?_ | refine iHV_1 ?_))
          refine V_bs (parts := [(0, _)]) rfl (by omega) ?_
          intro b15 w15 hb15 hS15
          (repeat (refine iRI_1 ?_))
          refine V_app (B := B2) (m := 1) (n := f.pend.length) (news := [.int .i64 d, .string desc]) (hS15.perm (List.perm_append_comm (l₁ := [_, _, _, _, _, _, _]) (l₂ := B2))) hpo ⟨_, _, _, (hS15.mem _ List.mem_cons_self).1, fun j v hv => by simpa using hv⟩ rfl (fun u hu => by simp at hu; rcases hu with rfl | rfl <;> rfl) (by omega) (by have := hx.sm.2.1; simp only [room]; omega) (by have := hx.sm.2.1; simp only [room]; omega) ?_
          intro B16 v16 w16 ho16 hS16
          obtain ⟨a16, cap16, rfl, hc16⟩ := ho16.form
          (repeat (first | refine V_run ?_ | refine PV_run ?_ | (refine iU_st ?_; intro _ _) | refine iHV_N ?_ | refine iRI_1 ?_ | refine K0 ?_))
          rename_i hSe
          obtain ⟨q1, q2, q3, q4, q5⟩ := hx.sm
          refine ⟨z14, mxB mb fb tb (pre.length + 1) ps sp ts cap tcap { f with pend := f.pend ++ [⟨d, desc⟩] } B16 (.slice a16 (f.pend.length + 1) cap16), ?_, ?_⟩
          · exact (hSe.sublist (L' := B16 ++ [_, _, _]) ((List.Sublist.refl _).append ((((List.Sublist.refl _).cons _).cons _).cons _ |>.cons _))).perm (List.perm_append_comm (l₁ := B16) (l₂ := [_, _, _]))
          · rw [if_pos hdb]
            refine ⟨rfl, MachX.mach ⟨FrsR.mono hSe.zle hx.fr, hx.cap, hx.tcap, hx.six, q1, by simp only [List.length_append, List.length_singleton]; omega, q3, fun r hr => ?_, q5⟩ ?_⟩
            · rcases List.mem_append.1 hr with hr | hr
              · exact q4 r hr
              · simp only [List.mem_singleton] at hr; subst hr; exact hd
            · simpa [PendOwn] using ho16)
end Go.Proofs.Ytjnckainogpenaa
end

section
/- Machines at work: activations. -/
set_option linter.unusedVariables false
set_option linter.unusedSimpArgs false
set_option maxRecDepth 20000
set_option synthInstance.maxHeartbeats 400000
set_option synthInstance.maxSize 4000
namespace Go.Proofs.Ytjnckainogpenaa
open Go Q Go.RowKit

theorem RI_at {w : World} {b off n : Nat} {t : Nat} {vs : List Value} {A : Prop} [g : TyAgg t n] [gs : TySize t n] (h : At (hp w) b off vs) (hl : vs.length = n) (ha : A) : RunIs (ld t (.pointer (some ⟨b, off, none⟩))) w (.agg vs.toArray) ∧ A := ⟨run_ldN h hl, ha⟩
theorem At.part {h : Nat → Option Obj} {b off : Nat} {ps vs qs : List Value} (ha : At h b 0 (ps ++ (vs ++ qs))) (ho : off = ps.length) : At h b off vs := by
  obtain ⟨c, ty, fr, h1, h2⟩ := ha
  refine ⟨c, ty, fr, h1, fun j v hv => ?_⟩
  have := h2 (ps.length + j) v (by
    rw [List.getElem?_append_right (by omega), Nat.add_sub_cancel_left, List.getElem?_append_left (List.getElem?_eq_some_iff.1 hv).1]
    exact hv)
  rw [ho]
  simpa using this
/-- The top frame is frozen. -/
theorem topFreeze {w0 w : World} {z0 z : Z} {B0 L B2 : Bl} {mb fb tb cap tcap : Nat} {pre : StM} {ps sp ts : List Value} {f : FrM} {v2 : Value} (hx : MachX z mb fb tb pre ps sp ts cap tcap f) (hpo : PendOwn B2 v2 f) (h : Res w0 z0 B0 w z ((tb, .cells (f.traps.flatMap TrM.cells ++ ts).toArray 73 (0, 0)) :: (B2 ++ L))) :
    ∃ z', Le z z' ∧ Res w0 z0 B0 w z' L ∧ FrsR z' ps pre ∧ SlR El.trap z' (.slice (some ⟨tb, 0, none⟩) 6 tcap) f.traps ∧ SlR El.raised z' v2 f.pend := by
  obtain ⟨q1, q2, q3, q4, q5⟩ := hx.sm
  have hfl : (f.traps.flatMap TrM.cells).length = 18 := by rw [flat_len (f := TrM.cells) (n := 3) (fun _ => rfl), hx.six]
  obtain ⟨z1, hz1, hS1, hv1⟩ := Res.freezeSl (E := El.trap) (B := [(tb, _)]) (v := .slice (some ⟨tb, 0, none⟩) 6 tcap) (xs := f.traps) (f := TrM.cells) (e := 73) h ⟨by rw [hfl, hx.six]; rfl, .inr ⟨tb, tcap, ts, rfl, by rw [hx.six], by rw [hx.six]; exact hx.tcap.1, hx.tcap.2.1, by rw [List.length_append, hfl]; exact hx.tcap.2.2⟩⟩ (by simp only [big]; omega) (fun _ => rfl) (fun z x hx => ⟨rfl, q3 x hx⟩)
  obtain ⟨z2, hz2, hS2, hv2⟩ := Res.freezeSl (E := El.raised) hS1 hpo (by simp only [big]; omega) (fun _ => rfl) (fun z x hx => ⟨rfl, q4 x hx⟩)
  exact ⟨z2, hz1.trans hz2, hS2, FrsR.mono (hz1.trans hz2) hx.fr, hv1.mono hz2, hv2⟩
theorem permX {a b c d : Nat × Obj} {B3 : Bl} : (a :: (B3 ++ [b, c, d])).Perm ([d] ++ (a :: (B3 ++ [b, c]))) := by
  rw [show B3 ++ [b, c, d] = (B3 ++ [b, c]) ++ [d] by simp]
  exact List.perm_append_comm (l₁ := a :: (B3 ++ [b, c])) (l₂ := [d])
theorem Res.endY {w0 w : World} {z0 z : Z} {B0 : Bl} {a b m : Nat × Obj} {B3 B5 : Bl} (h : Res w0 z0 B0 w z (B5 ++ (a :: (B3 ++ [b, m])))) : Res w0 z0 B0 w z (m :: (B5 ++ B3)) := by
  have h1 : Res w0 z0 B0 w z (B5 ++ (B3 ++ [m])) := h.sublist ((List.Sublist.refl _).append (((List.Sublist.refl _).append (List.sublist_cons_self _ _)).cons _))
  refine h1.perm ?_
  rw [← List.append_assoc]
  exact List.perm_append_comm (l₁ := B5 ++ B3) (l₂ := [m])
def pushF (f : FrM) : FrM := { f with pend := [] }
theorem callP {z : Z} {w : World} {B : Bl} {mb : Nat} {pre : StM} {f : FrM} {v1 v2 v3 : Value} (hm : Mach z B mb (pre ++ [f])) (h6 : f.traps.length = 6) (hpre : pre.length ≤ 100) :
    Fn 86 #[.pointer (some ⟨mb, 0, none⟩), v1, v2, v3] z B w fun z' B' r => if pre.length + 1 = 30 then r = .tuple #[noAct.v, .int .i64 14] else r = .tuple #[noAct.v, .int .i64 0] ∧ Mach z' B' mb ((pre ++ [f]) ++ [pushF f]) := Fn.intro fun hS => en86 (by
  unfold vc86
  obtain ⟨fb, tb, ps, sp, ts, cap, tcap, B2, w2, hB, hx, hpo⟩ := hm.x h6
  have hpo' := hpo
  obtain ⟨a2, cap2, rfl, hc2⟩ := hpo.form
  have hS' : Res w z B w z _ := Eq.subst (motive := fun X => Res w z B w z X) hB hS
  clear hS
  have hlen := hx.fr.len
  simp only [mxB] at hS'
  obtain ⟨z1, hz1, hS1, hfr, hv1, hv2⟩ := topFreeze (L := [(mb, _), (fb, _)]) hx hpo' (hS'.perm (List.perm_append_comm (l₁ := [(mb, _), (fb, _)]) (l₂ := (tb, _) :: B2)))
  clear hS'
  (repeat (first | refine V_run ?_ | refine iV_ld1 ?_ | (refine iV_bx ?_; intro _ _ _ _)))
  refine Cond_d (fun h30 => ?_) (fun h30 => ?_)
  · (repeat (first | refine V_run ?_ | (refine iU_st ?_; intro _ _) | refine iHV_N ?_))
    exact ⟨_, _, ‹_›, by rw [if_pos (by omega)]; rfl⟩
  refine CV_now (n := pre.length) (o := ps.length) hlen.symm (by simp only [big]; omega) ?_
  intro w9 hS9
  (repeat (first | (refine iDr ?_; intro _ _) | refine PV_run ?_ | refine iHV_1 ?_ | refine iHV_N ?_))
  refine CV_fn0 (fun hz => cloneTraps (SlR.mono hv1 (Le.refl _)) (by omega)) ?_
  rintro z3 B3 w3 v3' hle3 hS3 ho3
  obtain ⟨a3, cap3, rfl, hc3⟩ := ho3.form
  (repeat (first | refine PV_run ?_ | refine iRI_1 ?_ | refine iRI_N ?_))
  refine V_bs (parts := [(0, _)]) rfl (by omega) ?_
  intro b4 w4 hb4 hS4
  (repeat (first | refine iRI_1 ?_ | refine iRI_N ?_))
  have hps := hx.cap.2.2
  refine V_appX (B := [(fb, _)]) (m := 1) (n := pre.length + 1) (xs := ps ++ ([.slice (some ⟨tb, 0, none⟩) 6 tcap, .slice a2 f.pend.length cap2] ++ (f.info.cells ++ []))) (news := [.slice a3 f.traps.length cap3, .slice none 0 0, .int .i64 f.info.cond, .int .i64 f.info.mode, .string f.info.desc]) (hS4.perm permX) ⟨by simp; omega, .inr ⟨fb, cap, sp, by simp, rfl, hx.cap.1, hx.cap.2.1, by simp; omega⟩⟩ ⟨_, _, _, (hS4.mem _ List.mem_cons_self).1, fun j v hv => by simpa using hv⟩ rfl (fun u hu => by simp at hu; rcases hu with rfl | rfl | rfl | rfl | rfl <;> rfl) (by omega) (by simp only [room]; omega) (by simp only [room]; omega) ?_
  intro B5 v5 w5 ho5 hS5 hat5
  obtain ⟨a5, cap5, rfl, hc5⟩ := ho5.form
  have hat5' : At (hp w5) fb (ps.length + 2) f.info.cells := by
    have := hat5 fb cap rfl
    rw [← List.append_assoc] at this
    exact At.part this (by simp)
  refine RI_at hat5' rfl ?_
  (repeat (first | refine V_run ?_ | refine PV_run ?_ | (refine iU_st ?_; intro _ _) | refine iHV_N ?_))
  rename_i hSe
  refine ⟨_, _, hSe.endY, by
    rw [if_neg (by omega)]
    refine ⟨rfl, B5, B3, _, _, rfl, ?_, .inr ⟨pre ++ [f], pushF f, _, _, rfl, rfl, FrsR.snoc (f := f) ⟨_, _, rfl, hv1.mono hle3, hv2.mono hle3, hx.sm.2.2.2.2⟩ (FrsR.mono hle3 hfr), ⟨B3, [], _, _, by simp, rfl, ho3, OwnSl.nil⟩, hx.sm.1, by simp [pushF], hx.sm.2.2.1, by simp [pushF], hx.sm.2.2.2.2⟩⟩
    simp only [List.length_append, List.length_singleton, List.append_assoc, List.cons_append, List.nil_append, pushF, InM.cells, List.append_nil] at ho5 ⊢
    exact ho5⟩)
def backP_dummy : Unit := ()
end Go.Proofs.Ytjnckainogpenaa
end

section
/- Machines at work: returning; what an operation leaves. -/
set_option linter.unusedVariables false
set_option maxRecDepth 20000
set_option synthInstance.maxHeartbeats 400000
set_option synthInstance.maxSize 4000
namespace Go.Proofs.Ytjnckainogpenaa
open Go Q Go.RowKit

/-- What an operation leaves: a machine that reads as s. -/
def MachR (z : Z) (B : Bl) (mb : Nat) (s : StM) : Prop := ∃ Bf xs v, B = (mb, .cells [v].toArray 134 (0, 0)) :: Bf ∧ OwnSl 63 5 Bf v s.length xs ∧ FrsR z xs s
theorem Mach.toR {w0 w : World} {z0 z : Z} {B0 B : Bl} {mb : Nat} {s : StM} (h : Res w0 z0 B0 w z B) (hm : Mach z B mb s) : ∃ z' B', Res w0 z0 B0 w z' B' ∧ MachR z' B' mb s := by
  obtain ⟨Bf, Bl, xs, v, rfl, ho, hm⟩ := hm
  obtain ⟨z', hz, hS, hf⟩ := hm.freeze (L := (mb, _) :: Bf) (h.perm (List.perm_append_comm (l₁ := (mb, _) :: Bf) (l₂ := Bl)))
  exact ⟨z', _, hS, Bf, xs, v, rfl, ho, hf⟩
/-- The frames of what an operation leaves, frozen. -/
theorem MachR.st {w0 w : World} {z0 z : Z} {B0 L Bf : Bl} {s : StM} {xs : List Value} {v : Value} (h : Res w0 z0 B0 w z (Bf ++ L)) (ho : OwnSl 63 5 Bf v s.length xs) (hf : FrsR z xs s) (hb : s.length ≤ big) : ∃ z', Le z z' ∧ Res w0 z0 B0 w z' L ∧ SlR El.frame z' v s := by
  rcases ho.2 with ⟨rfl, rfl, h0⟩ | ⟨b, cap, sp, rfl, rfl, h1, h2, h3⟩
  · have : s = [] := List.eq_nil_of_length_eq_zero h0
    subst this
    exact ⟨z, Le.refl _, h, SlR.nil⟩
  · refine ⟨_, Res.freeze_le h, Res.freeze h, some ⟨b, 0, none⟩, cap, rfl, h1, hb, fun _ => ⟨b, 0, rfl, fun i x hx => ?_⟩⟩
    obtain ⟨cs, hr, hg⟩ := hf.get hx
    refine ⟨cs, El.frame.mono hr (Res.freeze_le h), _, _, _, if_pos rfl, fun j v hv => ?_⟩
    have := hg j v hv
    have hlt := (List.getElem?_eq_some_iff.1 this).1
    show (xs ++ sp).toArray[0 + i * 5 + j]? = some v
    simp only [Nat.zero_add, List.getElem?_toArray]
    rw [List.getElem?_append_left hlt]
    exact this
/-- What an operation does: an action, or an error. -/
def OpR (mb : Nat) (e : Int) (a : AcM) (s : StM) : Z → Bl → Value → Prop := fun z B r => if e = 0 then r = .tuple #[a.v, .int .i64 0] ∧ MachR z B mb s else r = .tuple #[noAct.v, .int .i64 e]
theorem FrsR.split {z : Z} : ∀ {pre s : StM} {xs : List Value}, FrsR z xs (pre ++ s) → ∃ ps qs, xs = ps ++ qs ∧ FrsR z ps pre ∧ FrsR z qs s
  | [], s, xs, h => ⟨[], xs, rfl, rfl, h⟩
  | f :: pre, s, xs, ⟨cs, rest, h1, h2, h3⟩ => by
    obtain ⟨ps, qs, h4, h5, h6⟩ := FrsR.split h3
    exact ⟨cs ++ ps, qs, by rw [h1, h4, List.append_assoc], ⟨cs, ps, rfl, h2, h5⟩, h6⟩
theorem backP {z : Z} {w : World} {B : Bl} {mb : Nat} {pre : StM} {f : FrM} {v1 v2 v3 : Value} (hm : Mach z B mb (pre ++ [f])) (h6 : f.traps.length = 6) (hpre : pre.length ≤ 100) :
    Fn 87 #[.pointer (some ⟨mb, 0, none⟩), v1, v2, v3] z B w (OpR mb (if pre.length = 0 then 12 else 0) noAct pre) := Fn.intro fun hS => en87 (by
  unfold vc87
  obtain ⟨fb, tb, ps, sp, ts, cap, tcap, B2, w2, hB, hx, hpo⟩ := hm.x h6
  have hS' : Res w z B w z _ := Eq.subst (motive := fun X => Res w z B w z X) hB hS
  clear hS
  simp only [mxB] at hS'
  haveI : InI (((pre.length + 1 : Nat) : Int) - 1) := ⟨by omega⟩
  have hcap := hx.cap
  haveI : InR (((pre.length + 1 : Nat) : Int) - 1) (cap + 1) := ⟨by omega, by omega⟩
  (repeat (first | refine V_run ?_ | refine iV_ld1 ?_ | (refine iV_bx ?_; intro _ _ _ _)))
  have hk : (((pre.length + 1 : Nat) : Int) - 1).toNat = pre.length := by omega
  refine Cond_d (fun h30 => ?_) (fun h30 => ?_)
  · (repeat (first | refine V_run ?_ | (refine iU_st ?_; intro _ _) | refine iHV_N ?_))
    exact ⟨_, _, ‹_›, by rw [OpR, if_neg (by rw [if_pos (by omega)]; decide), if_pos (by omega)]; rfl⟩
  · (repeat (first | refine V_run ?_ | refine iV_ld1 ?_ | (refine iU_st ?_; intro _ _) | refine iHV_N ?_))
    rename_i hSe
    rw [hk] at hSe
    have hSe' := hSe.sublist (L' := [(mb, _), (fb, _)]) ((((List.nil_sublist _).cons_cons _).cons_cons _).cons _)
    refine ⟨_, _, hSe', ?_⟩
    rw [OpR, if_pos (by rw [if_neg (by omega)])]
    refine ⟨rfl, [(fb, _)], ps, _, rfl, ⟨hx.fr.len, .inr ⟨fb, cap, _, rfl, rfl, by omega, hcap.2.1, ?_⟩⟩, FrsR.mono hSe.zle hx.fr⟩
    simp only [List.length_append, List.length_cons]
    omega)
end Go.Proofs.Ytjnckainogpenaa
end

section
/- Machines at work: the end of a clause. -/
set_option linter.unusedVariables false
set_option maxRecDepth 20000
set_option synthInstance.maxHeartbeats 400000
set_option synthInstance.maxSize 4000
namespace Go.Proofs.Ytjnckainogpenaa
open Go Q Go.RowKit

theorem CE_fn {f : FuncId} [he : Enters f] {first args cap args' : Array Value} {w : World} {K : Value → World → Prop} (ha : first ++ args ++ cap = args') (h : Calls Try.prog f args' w (retK K)) : CE (.func (.func f) first cap) args w K := by
  subst ha
  have : (callSem (.func (.func f) first cap) args).run Try.prog w = .ok (.enter f (first ++ args ++ cap)) w := by
    simp only [callSem, Deferred.ofValue, pure_bind, invoke]
    exact he.h _ _
  unfold CE CallE
  rw [this]
  exact h
theorem Res.rf {w0 w w1 : World} {z0 z : Z} {B0 L : Bl} {r l : Nat} {lp : Loop} (h : Res w0 z0 B0 w z L) (hn : NewRF w w1 r l lp) : Res w0 z0 B0 w1 z ((l, lobj lp .ready none) :: (r, .deferred (some [])) :: L) := by
  obtain ⟨rfl, rfl, rfl⟩ := hn
  have := Res.new (Res.new h (.deferred (some []))) (lobj lp .ready none)
  simpa using this
theorem iBegin {w0 w : World} {z0 z : Z} {B0 L : Bl} {C : Obj → Bl} {l : Nat} {lp : Loop} {K : World → Prop} [hS : Res w0 z0 B0 w z L] [g : Blk L l (lobj lp .ready none) C] (hk : ∀ w', Res w0 z0 B0 w' z (C (lobj lp .busy none)) → K w') : BeginW l lp w K := ⟨Res.at_ (g := g) hS, hk _ (Res.set (g := g) hS _ rfl)⟩
theorem iEnd {w0 w : World} {z0 z : Z} {B0 L : Bl} {C : Obj → Bl} {l : Nat} {lp : Loop} {st : LoopState} {pend jump : Option Code} {K : Value → World → Prop} [hS : Res w0 z0 B0 w z L] [g : Blk L l (lobj lp st pend) C] (hk : ∀ w', Res w0 z0 B0 w' z (C (lobj lp (if jump.isNone then .ready else .done) jump)) → K (.bool jump.isNone) w') : EndW l lp jump w K := ⟨⟨st, pend, Res.at_ (g := g) hS⟩, hk _ (Res.set (g := g) hS _ rfl)⟩
theorem iRfEnd {w0 w : World} {z0 z : Z} {B0 L : Bl} {C : Obj → Bl} {l : Nat} {lp : Loop} {st : LoopState} {pend : Option Code} {Kn Kr : World → Prop} {kes : List (Nat × (World → Prop))} [hS : Res w0 z0 B0 w z L] [g : Blk L l (lobj lp st pend) C] (hst : st ≠ .busy) (hk : ∀ w', Res w0 z0 B0 w' z (C (lobj lp .exhausted pend)) → jumpK pend Kn Kr kes w') : RfEnd l lp w Kn Kr kes := ⟨st, pend, Res.at_ (g := g) hS, hst, hk _ (Res.set (g := g) hS _ rfl)⟩
theorem iTake {w0 w : World} {z0 z : Z} {B0 L : Bl} {C : Obj → Bl} {r : Nat} {K : World → Prop} [hS : Res w0 z0 B0 w z L] [g : Blk L r (.deferred (some [])) C] (hk : ∀ w', Res w0 z0 B0 w' z (C (.deferred none)) → K w') : Take1 r w K := ⟨Res.at_ (g := g) hS, hk _ (Res.set (g := g) hS _ rfl)⟩
theorem iTakeW {w : World} {r : Nat} {K : World → Prop} (h : Take1 r w K) : TakeW (marks (.iface r undef)) w K := by
  rw [marks_iface]
  exact h

theorem trapsFreeze {w0 w : World} {z0 z : Z} {B0 L : Bl} {mb fb tb cap tcap : Nat} {pre : StM} {ps sp ts : List Value} {f : FrM} (hx : MachX z mb fb tb pre ps sp ts cap tcap f) (h : Res w0 z0 B0 w z ((tb, .cells (f.traps.flatMap TrM.cells ++ ts).toArray 73 (0, 0)) :: L)) :
    ∃ z', Le z z' ∧ Res w0 z0 B0 w z' L ∧ FrsR z' ps pre ∧ SlR El.trap z' (.slice (some ⟨tb, 0, none⟩) 6 tcap) f.traps := by
  obtain ⟨q1, q2, q3, q4, q5⟩ := hx.sm
  have hfl : (f.traps.flatMap TrM.cells).length = 18 := by rw [flat_len (f := TrM.cells) (n := 3) (fun _ => rfl), hx.six]
  obtain ⟨z1, hz1, hS1, hv1⟩ := Res.freezeSl (E := El.trap) (B := [(tb, _)]) (v := .slice (some ⟨tb, 0, none⟩) 6 tcap) (xs := f.traps) (f := TrM.cells) (e := 73) h ⟨by rw [hfl, hx.six]; rfl, .inr ⟨tb, tcap, ts, rfl, by rw [hx.six], by rw [hx.six]; exact hx.tcap.1, hx.tcap.2.1, by rw [List.length_append, hfl]; exact hx.tcap.2.2⟩⟩ (by simp only [big]; omega) (fun _ => rfl) (fun z x hx => ⟨rfl, q3 x hx⟩)
  exact ⟨z1, hz1, hS1, FrsR.mono hz1 hx.fr, hv1⟩
theorem topR {w0 w : World} {z0 z : Z} {B0 : Bl} {mb fb tb cap tcap : Nat} {pre : StM} {ps sp ts : List Value} {f : FrM} {v2 : Value} {l : List RaM} (hx : MachX z mb fb tb pre ps sp ts cap tcap f) (hv2 : SlR El.raised z v2 l)
    (h : Res w0 z0 B0 w z [(mb, .cells [.slice (some ⟨fb, 0, none⟩) (pre.length + 1) cap].toArray 134 (0, 0)), (fb, .cells (ps ++ (.slice (some ⟨tb, 0, none⟩) 6 tcap :: v2 :: .int .i64 f.info.cond :: .int .i64 f.info.mode :: .string f.info.desc :: sp)).toArray 63 (0, 0)), (tb, .cells (f.traps.flatMap TrM.cells ++ ts).toArray 73 (0, 0))]) : ∃ z' B', Res w0 z0 B0 w z' B' ∧ MachR z' B' mb (pre ++ [{ f with pend := l }]) := by
  obtain ⟨z1, hz1, hS1, hfr, hv1⟩ := trapsFreeze (L := [(mb, _), (fb, _)]) hx (h.perm (List.perm_append_comm (l₁ := [(mb, _), (fb, _)]) (l₂ := [(tb, _)])))
  have hps := hx.cap
  refine ⟨z1, _, hS1, [(fb, _)], ps ++ (.slice (some ⟨tb, 0, none⟩) 6 tcap :: v2 :: f.info.cells), _, rfl, ⟨?_, .inr ⟨fb, cap, sp, by simp, by simp, by simpa using hps.1, hps.2.1, ?_⟩⟩, FrsR.snoc (f := { f with pend := l }) ⟨_, _, rfl, hv1, hv2.mono hz1, hx.sm.2.2.2.2⟩ hfr⟩
  · have := FrsR.len hx.fr
    simp; omega
  · simp; omega
theorem MachX.z {z z' : Z} {mb fb tb cap tcap : Nat} {pre : StM} {ps sp ts : List Value} {f : FrM} (hx : MachX z mb fb tb pre ps sp ts cap tcap f) (hz : Le z z') : MachX z' mb fb tb pre ps sp ts cap tcap f := ⟨FrsR.mono hz hx.fr, hx.cap, hx.tcap, hx.six, hx.sm⟩
theorem SlR.tail {α : Type} {E : El α} {z : Z} {b off n cap : Nat} {x : α} {xs : List α} (h : SlR E z (.slice (some ⟨b, off, none⟩) n cap) (x :: xs)) : SlR E z (.slice (some ⟨b, if cap = 1 then off else off + E.size, none⟩) (n - 1) (cap - 1)) xs := by
  obtain ⟨a, cap', h1, h2, h3, h4⟩ := h
  cases h1
  simp only [List.length_cons] at h2 h3
  refine ⟨some ⟨b, if cap = 1 then off else off + E.size, none⟩, cap - 1, rfl, by omega, by omega, fun hn => ⟨b, _, rfl, fun i y hy => ?_⟩⟩
  obtain ⟨b', off', h5, h6⟩ := h4 (by simp)
  cases h5
  obtain ⟨cs, h7, h8⟩ := h6 (i + 1) y (by simpa using hy)
  have hpos : 0 < xs.length := List.length_pos_iff.2 hn
  rw [if_neg (by omega)]
  refine ⟨cs, h7, ?_⟩
  rw [show off + E.size + i * E.size = off + (i + 1) * E.size by rw [Nat.add_mul]; omega]
  exact h8
theorem tgetN {f : FrM} {c : Int} (h6 : f.traps.length = 6) (h0 : 0 ≤ c) (h1 : c < 6) (ts : List Value) : GetN (f.traps.flatMap TrM.cells ++ ts) (c.toNat * 3) 3 [.int .i64 (f.tr c).mode, .string (f.tr c).label, .bool (f.tr c).delayed] := by
  have hlt : c.toNat < f.traps.length := by omega
  refine ⟨rfl, fun j v hv => ?_⟩
  have hx : f.traps[c.toNat]? = some (f.tr c) := by rw [FrM.tr, List.getD_eq_getElem?_getD, List.getElem?_eq_getElem hlt]; rfl
  have := flat_get (f := TrM.cells) (n := 3) (fun _ => rfl) hx j v hv
  rw [List.getElem?_append_left (List.getElem?_eq_some_iff.1 this).1]
  exact this
theorem Res.end14 {w0 w : World} {z0 z : Z} {B0 B5 : Bl} {x1 x2 t x4 x5 x6 x7 x8 x9 x10 x11 x12 x13 m : Nat × Obj} (h : Res w0 z0 B0 w z (B5 ++ [x1, x2, t, x4, x5, x6, x7, x8, x9, x10, x11, x12, x13, m])) : Res w0 z0 B0 w z (m :: (B5 ++ [t])) := by
  have h1 : Res w0 z0 B0 w z (B5 ++ [t, m]) := h.sublist ((List.Sublist.refl _).append (by repeat (first | exact List.Sublist.refl _ | apply List.Sublist.cons_cons | apply List.Sublist.cons)))
  refine h1.perm ?_
  rw [show B5 ++ [t, m] = (B5 ++ [t]) ++ [m] by simp]
  exact List.perm_append_comm (l₂ := [m])
structure EndM where
  a : AcM
  e : Int
  top : StM
def callF (f : FrM) (r : RaM) (l : List RaM) : StM := [{ f with pend := l }, { traps := f.traps.set r.cond.toNat { f.tr r.cond with delayed := true }, pend := [], info := ⟨r.cond, 2, r.desc⟩ }]
def endM (n : Nat) (f : FrM) : List RaM → EndM
  | [] => ⟨noAct, 0, [{ f with pend := [] }]⟩
  | r :: l => if (f.tr r.cond).mode = 0 ∨ (f.tr r.cond).delayed = true then endM n f l
    else if (f.tr r.cond).mode = 1 then ⟨sigA f r.cond r.desc, 0, [sigF f r.cond r.desc]⟩
    else if n = 30 then ⟨noAct, 14, []⟩
    else ⟨⟨2, (f.tr r.cond).label, r.cond, r.desc⟩, 0, callF f r l⟩
theorem endP {z : Z} {w : World} {B : Bl} {mb : Nat} {pre : StM} {f : FrM} {v1 v2 v3 : Value} (hm : Mach z B mb (pre ++ [f])) (h6 : f.traps.length = 6) (hpre : pre.length ≤ 100) (hpc : ∀ r ∈ f.pend, 0 ≤ r.cond ∧ r.cond < 6) :
    Fn 69 #[.pointer (some ⟨mb, 0, none⟩), v1, v2, v3] z B w (OpR mb (endM (pre.length + 1) f f.pend).e (endM (pre.length + 1) f f.pend).a (pre ++ (endM (pre.length + 1) f f.pend).top)) := Fn.intro fun hS => en69 (by
  unfold vc69
  obtain ⟨fb, tb, ps, sp, ts, cap, tcap, B2, w2, hB, hx, hpo⟩ := hm.x h6
  obtain ⟨q1, q2, q3, q4, q5⟩ := hx.sm
  have hS' : Res w z B w z _ := Eq.subst (motive := fun X => Res w z B w z X) hB hS
  clear hS
  simp only [mxB] at hS'
  have hlen := hx.fr.len
  obtain ⟨z1, hz1, hS1, hv2⟩ := Res.freezeSl (E := El.raised) (L := [(mb, _), (fb, _), (tb, _)]) (hS'.perm (List.perm_append_comm (l₁ := [(mb, _), (fb, _), (tb, _)]) (l₂ := B2))) hpo (by simp only [big]; omega) (fun _ => rfl) (fun z x hx => ⟨rfl, q4 x hx⟩)
  clear hS'
  have hx1 : MachX z1 mb fb tb pre ps sp ts cap tcap f := ⟨FrsR.mono hz1 hx.fr, hx.cap, hx.tcap, hx.six, hx.sm⟩
  obtain ⟨a2, cap2, rfl, hc2⟩ := hpo.form
  refine iV_bx ?_
  intro b4 w4 hb4 hS4
  refine iV_al ?_
  intro b8 w8 hb8 hS8
  refine iV_al ?_
  intro b9 w9 hb9 hS9
  refine V_run ?_
  refine iV_al ?_
  intro b10 w10 hb10 hS10
  refine iU_st ?_
  intro w11 hS11
  refine J1 (fun KJ hJ => ?_)
  refine iV_ld1 ?_
  refine CV_enter (args' := #[.pointer (some ⟨mb, 0, none⟩)]) (by simp) (en104 ?_)
  unfold vc104
  refine iV_bx ?_
  intro bp w12 hbp hS12
  clear hS11 hS10 hS9 hS8 hS4 hS1
  intro lp r0 l0 w13 hnew hyp
  have hS13 := hS12.rf hnew
  clear hS12
  refine CE_fn (args' := #[.func (.yield l0) #[] #[], .pointer (some ⟨bp, 0, none⟩)]) (by simp) (en115 ?_)
  unfold vc115
  refine LoopG0 (fun (k : Nat) w' => k ≤ f.pend.length ∧ endM (pre.length + 1) f f.pend = endM (pre.length + 1) f (f.pend.drop k) ∧ ∃ z' v2, Le z1 z' ∧ SlR El.raised z' v2 (f.pend.drop k) ∧ Res w z B w' z' ((l0, lobj lp .ready none) :: (r0, .deferred (some [])) :: (bp, .cells [.pointer (some ⟨mb, 0, none⟩)].toArray 113 (0, 0)) :: (b10, .cells [.int .i64 0, .string ⟨#[]⟩, .int .i64 0, .string ⟨#[]⟩].toArray 39 (0, 0)) :: (b9, .cells [.int .i64 0].toArray 31 (0, 0)) :: (b8, .cells [.int .i64 0, .string ⟨#[]⟩, .int .i64 0, .string ⟨#[]⟩].toArray 39 (0, 0)) :: (b4, .cells [.pointer (some ⟨mb, 0, none⟩)].toArray 113 (0, 0)) :: (mb, .cells [.slice (some ⟨fb, 0, none⟩) (pre.length + 1) cap].toArray 134 (0, 0)) :: (fb, .cells (ps ++ (.slice (some ⟨tb, 0, none⟩) 6 tcap :: v2 :: .int .i64 f.info.cond :: .int .i64 f.info.mode :: .string f.info.desc :: sp)).toArray 63 (0, 0)) :: [(tb, .cells (f.traps.flatMap TrM.cells ++ ts).toArray 73 (0, 0))])) (fun k => f.pend.length - k) 0 ⟨by omega, rfl, z1, _, Le.refl _, hv2, hS13⟩ ?_
  rintro I M k w14 m ⟨hk, hend, z2, v2, hz2, hv2', hS14⟩ back
  obtain ⟨hbp2, a3, cap3, rfl, hc3, hel3⟩ := hv2'.form
  (repeat (refine iV_ld1 ?_))
  refine CV_now (n := pre.length) (o := ps.length) hlen.symm (by simp only [big]; omega) ?_
  intro w15 hS15
  (repeat (first | refine V_run ?_ | refine iV_ld1 ?_))
  refine Cond_d (fun h => ?_) (fun h => ?_)
  · have hlt : k < f.pend.length := by simp only [List.length_drop] at h; omega
    have hdl : (f.pend.drop k).length = (f.pend.drop (k + 1)).length + 1 := by simp only [List.length_drop]; omega
    have hdr := List.drop_eq_getElem_cons hlt
    obtain ⟨b, off, cs, rfl, ⟨rfl, hr⟩, hat⟩ := hel3 0 f.pend[k] (by rw [hdr]; rfl)
    rw [hdr] at hv2' hend
    have htail := hv2'.tail
    haveI : InR 0 ((f.pend.drop k).length : Nat) := ⟨by omega, by omega⟩
    haveI : InR 1 (((f.pend.drop k).length : Nat) + 1) := ⟨by omega, by omega⟩
    (repeat (refine iV_ld1 ?_))
    refine CV_now (n := pre.length) (o := ps.length) hlen.symm (by simp only [big]; omega) ?_
    intro w16 hS16
    (repeat (first | refine V_run ?_ | refine iV_ld1 ?_))
    refine zV_ldN (vs := f.pend[k].cells) (by simpa using hat) rfl ?_
    dsimp only [RaM.cells]
    refine iV_al ?_
    intro b17 w17 hb17 hS17
    (repeat (first | refine V_run ?_ | refine iV_ld1 ?_ | refine iV_ldN ?_ | (refine iU_st ?_; intro _ _)))
    rename_i hS18
    clear hS17 hS16 hS15 hS14
    have h1n : Int.toNat 1 = 1 := rfl
    rw [h1n] at hS18
    rw [← hdr] at htail
    have hro := hpc _ (List.getElem_mem hlt)
    have hrd : f.pend[k].desc.size ≤ big := hr
    generalize f.pend[k] = r at *
    generalize hrest : f.pend.drop (k + 1) = rest at *
    generalize hV : Value.slice (some ⟨b, if cap3 = 1 then off else off + 1 * 2, none⟩) ((f.pend.drop k).length - 1) (cap3 - 1) = V at hS18
    have htail : SlR El.raised z2 V rest := by rw [← hV]; rw [hdr] at htail ⊢; exact htail
    haveI : One V := by rw [← hV]; exact inferInstance
    refine hyp _ _ _ ?_ (Res.at_ (C := fun o => (b17, _) :: (l0, o) :: _) hS18)
    refine iV_al ?_
    intro b11 w19 hb11 hS19
    refine iU_st ?_
    intro w20 hS20
    refine iBegin ?_
    intro w21 hS21
    clear hS20 hS19
    refine J1cut (fun a w' => ∃ b12 z', a = .pointer (some ⟨b12, 0, none⟩) ∧ Le z2 z' ∧ Res w z B w' z' ((b12, .cells (f.tr r.cond).cells.toArray 73 (0, 0)) :: (b11, .cells r.cells.toArray 70 (0, 0)) :: (b17, .cells r.cells.toArray 70 (0, 0)) :: (l0, lobj lp .busy none) :: (r0, .deferred (some [])) :: (bp, .cells [.pointer (some ⟨mb, 0, none⟩)].toArray 113 (0, 0)) :: (b10, .cells [.int .i64 0, .string ⟨#[]⟩, .int .i64 0, .string ⟨#[]⟩].toArray 39 (0, 0)) :: (b9, .cells [.int .i64 0].toArray 31 (0, 0)) :: (b8, .cells [.int .i64 0, .string ⟨#[]⟩, .int .i64 0, .string ⟨#[]⟩].toArray 39 (0, 0)) :: (b4, .cells [.pointer (some ⟨mb, 0, none⟩)].toArray 113 (0, 0)) :: (mb, .cells [.slice (some ⟨fb, 0, none⟩) (pre.length + 1) cap].toArray 134 (0, 0)) :: (fb, .cells (ps ++ (.slice (some ⟨tb, 0, none⟩) 6 tcap :: V :: .int .i64 f.info.cond :: .int .i64 f.info.mode :: .string f.info.desc :: sp)).toArray 63 (0, 0)) :: [(tb, .cells (f.traps.flatMap TrM.cells ++ ts).toArray 73 (0, 0))])) ?_ ?_
    rotate_left
    · intro KJ2 hJ2
      obtain ⟨g1, g2, g3⟩ := tget h6 hro.1 hro.2 ts
      haveI : InR r.cond (6 : Nat) := ⟨hro.1, by omega⟩
      have gN := tgetN h6 hro.1 hro.2 ts
      (repeat (first | (refine iDr ?_; intro _ _) | refine PV_run ?_ | refine iHV_1 ?_))
      refine ⟨?_, ?_⟩
      · refine CV_now (n := pre.length) (o := ps.length) hlen.symm (by simp only [big]; omega) ?_
        intro w23 hS23
        (repeat (first | refine PV_run ?_ | (refine iV_bx ?_; intro _ _ _ _) | (refine iU_st ?_; intro _ _) | refine iHV_1 ?_ | refine iHV_N ?_ | refine iRI_1 ?_ | refine iRI_N ?_ | refine K1 ?_))
        exact ⟨_, z2, rfl, Le.refl _, ‹_›⟩
      · (repeat (first | (refine iV_bx ?_; intro _ _ _ _) | refine iRI_1 ?_))
        refine CV_now (n := pre.length) (o := ps.length) hlen.symm (by simp only [big]; omega) ?_
        intro w23 hS23
        (repeat (first | refine PV_run ?_ | (refine iU_st ?_; intro _ _) | refine iHV_1 ?_ | refine iHV_N ?_ | refine iRI_1 ?_ | refine K1 ?_))
        exact ⟨_, z2, rfl, Le.refl _, ‹_›⟩
    · clear hS21 hS18
      rintro _ w22 ⟨b12, z22, rfl, hz22, hS22⟩
      have hx22 := hx1.z (hz2.trans hz22)
      have htl22 := htail.mono hz22
      dsimp only [TrM.cells, RaM.cells] at hS22
      have hendr : endM (pre.length + 1) f f.pend = endM (pre.length + 1) f (r :: rest) := hend
      simp only [endM] at hendr
      (repeat (first | refine V_run ?_ | refine iV_ld1 ?_ | (refine JC ?_; intro _ _ _ _)))
      refine Cond_b (fun hsk => ?_) (fun hsk => ?_)
      · have hsk' : (f.tr r.cond).mode = 0 ∨ (f.tr r.cond).delayed = true := by
          simp only [cond_eq_ite] at hsk
          by_cases e : (f.tr r.cond).mode = 0 <;> simp [e] at hsk ⊢
          exact hsk
        rw [if_pos hsk'] at hendr
        refine iEnd (st := .busy) (pend := none) ?_
        intro w23 hS23
        (repeat (first | refine V_run ?_ | refine Cond_f ?_))
        have hle := ‹Le z22 _›
        refine back (k + 1) _ ⟨by omega, by rw [hendr, hrest], _, V, (hz2.trans hz22).trans hle, by rw [hrest]; exact htl22.mono hle, Res.tl (Res.tl (Res.tl hS23))⟩ (by omega)
      · have hsk' : ¬ ((f.tr r.cond).mode = 0 ∨ (f.tr r.cond).delayed = true) := by
          simp only [cond_eq_ite] at hsk
          by_cases e : (f.tr r.cond).mode = 0 <;> simp [e] at hsk ⊢
          exact hsk
        rw [if_neg hsk'] at hendr
        (repeat (first | refine V_run ?_ | refine iV_ld1 ?_))
        refine Cond_d (fun hm1 => ?_) (fun hm1 => ?_)
        · rw [if_pos hm1] at hendr
          (repeat (first | refine V_run ?_ | refine iV_ld1 ?_))
          rename_i hSe
          have hle := ‹Le z22 _›
          refine CV_fn (B := mxB mb fb tb (pre.length + 1) ps sp ts cap tcap f [] V) (F := [(b12, _), (b11, _), (b17, _), (l0, lobj lp .busy none), (r0, .deferred (some [])), (bp, _), (b10, .cells [.int .i64 0, .string ⟨#[]⟩, .int .i64 0, .string ⟨#[]⟩].toArray 39 (0, 0)), (b9, .cells [.int .i64 0].toArray 31 (0, 0)), (b8, .cells [.int .i64 0, .string ⟨#[]⟩, .int .i64 0, .string ⟨#[]⟩].toArray 39 (0, 0)), (b4, _)]) (hSe.perm (List.perm_append_comm (l₁ := [(b12, _), (b11, _), (b17, _), (l0, _), (r0, _), (bp, _), (b10, _), (b9, _), (b8, _), (b4, _)]) (l₂ := mxB mb fb tb (pre.length + 1) ps sp ts cap tcap f [] V))) (signalP rfl (hx22.z hle) hro.1 hro.2 hpre hrd) (by simp) ?_
          rintro z13 B13 w13 v13 hle13 hS13 ⟨rfl, hM⟩
          dsimp only [AcM.v, AcM.cells] at *
          (repeat (refine iU_st ?_; intro _ _))
          refine iEnd (st := .busy) (pend := none) ?_
          intro w23 hS23
          (repeat (first | refine V_run ?_ | refine Cond_t ?_))
          refine iRfEnd (st := .done) (pend := some (.exit 0)) (by intro h; cases h) ?_
          intro w24 hS24
          show KJ [.iface r0 undef] w24
          refine K1 ?_
          (repeat (first | refine iV_ldN ?_ | (refine iU_st ?_; intro _ _)))
          refine iTakeW ?_
          refine iTake ?_
          intro w25 hS25
          (repeat (first | refine iHV_1 ?_ | refine iHV_N ?_))
          obtain ⟨z26, B26, hS26, hMR⟩ := Mach.toR (hS25.sublist (List.sublist_append_left _ _)) hM
          exact ⟨z26, B26, hS26, by rw [hendr, OpR, if_pos rfl]; exact ⟨rfl, hMR⟩⟩
        · rw [if_neg hm1] at hendr
          (repeat (first | refine V_run ?_ | refine iV_ld1 ?_))
          refine Cond_d (fun h30 => ?_) (fun h30 => ?_)
          · rw [if_pos (by omega)] at hendr
            (repeat (first | refine V_run ?_ | (refine iU_st ?_; intro _ _)))
            refine iEnd (st := .busy) (pend := none) ?_
            intro w23 hS23
            (repeat (first | refine V_run ?_ | refine Cond_t ?_))
            refine iRfEnd (st := .done) (pend := some .ret) (by intro h; cases h) ?_
            intro w24 hS24
            dsimp only [jumpK]
            refine iTake ?_
            intro w25 hS25
            (repeat (first | refine iHV_1 ?_ | refine iHV_N ?_))
            exact ⟨_, _, ‹_›, by rw [hendr]; simp only [OpR]; rfl⟩
          · rw [if_neg (by omega)] at hendr
            rename_i hSe
            have hle := ‹Le z22 _›
            obtain ⟨z23, hz23, hS23, hfr, hv1⟩ := trapsFreeze (L := [(b12, _), (b11, _), (b17, _), (l0, _), (r0, _), (bp, _), (b10, _), (b9, _), (b8, _), (b4, _), (mb, _), (fb, _)]) (hx22.z hle) (hSe.perm (List.perm_append_comm (l₁ := [(b12, _), (b11, _), (b17, _), (l0, _), (r0, _), (bp, _), (b10, _), (b9, _), (b8, _), (b4, _), (mb, _), (fb, _)]) (l₂ := [(tb, _)])))
            clear hSe hS22
            have htl23 := htl22.mono (hle.trans hz23)
            refine J1cut (fun a w' => ∃ b13 tb3 ts3 cap4 z', a = .pointer (some ⟨b13, 0, none⟩) ∧ Le z23 z' ∧ (6 ≤ cap4 ∧ cap4 ≤ maxLen ∧ 18 + ts3.length = cap4 * 3) ∧ Res w z B w' z' ((b13, .cells [.slice (some ⟨tb3, 0, none⟩) 6 cap4, .slice none 0 0, .int .i64 r.cond, .int .i64 2, .string r.desc].toArray 63 (0, 0)) :: (tb3, .cells (f.traps.flatMap TrM.cells ++ ts3).toArray 73 (0, 0)) :: [(b12, .cells [.int .i64 (f.tr r.cond).mode, .string (f.tr r.cond).label, .bool (f.tr r.cond).delayed].toArray 73 (0, 0)), (b11, .cells [.int .i64 r.cond, .string r.desc].toArray 70 (0, 0)), (b17, .cells [.int .i64 r.cond, .string r.desc].toArray 70 (0, 0)), (l0, lobj lp .busy none), (r0, .deferred (some [])), (bp, .cells [.pointer (some ⟨mb, 0, none⟩)].toArray 113 (0, 0)), (b10, .cells [.int .i64 0, .string ⟨#[]⟩, .int .i64 0, .string ⟨#[]⟩].toArray 39 (0, 0)), (b9, .cells [.int .i64 0].toArray 31 (0, 0)), (b8, .cells [.int .i64 0, .string ⟨#[]⟩, .int .i64 0, .string ⟨#[]⟩].toArray 39 (0, 0)), (b4, .cells [.pointer (some ⟨mb, 0, none⟩)].toArray 113 (0, 0)), (mb, .cells [.slice (some ⟨fb, 0, none⟩) (pre.length + 1) cap].toArray 134 (0, 0)), (fb, .cells (ps ++ (.slice (some ⟨tb, 0, none⟩) 6 tcap :: V :: .int .i64 f.info.cond :: .int .i64 f.info.mode :: .string f.info.desc :: sp)).toArray 63 (0, 0))])) ?_ ?_
            rotate_left
            · intro KJ3 hJ3
              have hclone : ∀ (w' : World) (L' : Bl) (K : Value → World → Prop), Res w z B w' z23 L' → (∀ tb3 ts3 cap4 z' w'', Le z23 z' → (6 ≤ cap4 ∧ cap4 ≤ maxLen ∧ 18 + ts3.length = cap4 * 3) → Res w z B w'' z' ((tb3, .cells (f.traps.flatMap TrM.cells ++ ts3).toArray 73 (0, 0)) :: L') → K (.slice (some ⟨tb3, 0, none⟩) 6 cap4) w'') → CV (.func (.func 31) #[] #[]) #[.slice (some ⟨tb, 0, none⟩) 6 tcap] w' K := fun w' L' K hR hk => by
                refine CV_fn0 (fun _ => cloneTraps hv1 (by omega)) ?_
                rintro z24 B24 w24 v24 hle24 hS24 ho24
                rcases ho24.2 with ⟨_, _, h0⟩ | ⟨tb3, cap4, ts3, rfl, rfl, l1, l2, l3⟩
                · omega
                · rw [h6] at l1 ⊢
                  have hfl := ho24.1
                  rw [List.length_append, hfl, h6] at l3
                  exact hk _ _ _ _ _ hle24 ⟨l1, l2, by omega⟩ hS24
              (repeat (first | (refine iDr ?_; intro _ _) | refine PV_run ?_ | refine iHV_1 ?_))
              refine ⟨?_, ?_⟩
              · refine CV_now (n := pre.length) (o := ps.length) hlen.symm (by simp only [big]; omega) ?_
                intro w24 hS24
                (repeat (first | refine PV_run ?_ | refine iHV_1 ?_ | refine iRI_1 ?_))
                refine ⟨?_, ?_⟩
                · refine hclone _ _ _ ‹_› ?_
                  intro tb3 ts3 cap4 z25 w25 hz25 hcc hS25
                  (repeat (first | refine PV_run ?_ | (refine iV_bx ?_; intro _ _ _ _) | (refine iU_st ?_; intro _ _) | refine iRI_1 ?_ | refine K1 ?_))
                  exact ⟨_, tb3, ts3, cap4, z25, rfl, hz25, hcc, ‹_›⟩
                · (repeat (first | (refine iV_bx ?_; intro _ _ _ _) | refine iRI_1 ?_))
                  refine hclone _ _ _ ‹_› ?_
                  intro tb3 ts3 cap4 z25 w25 hz25 hcc hS25
                  (repeat (first | refine PV_run ?_ | (refine iU_st ?_; intro _ _) | refine iRI_1 ?_ | refine K1 ?_))
                  rename_i hSq
                  exact ⟨_, tb3, ts3, cap4, z25, rfl, hz25, hcc, hSq.perm (.swap _ _ _)⟩
              · (repeat (first | (refine iV_bx ?_; intro _ _ _ _) | refine iRI_1 ?_))
                refine CV_now (n := pre.length) (o := ps.length) hlen.symm (by simp only [big]; omega) ?_
                intro w24 hS24
                (repeat (first | refine PV_run ?_ | refine iHV_1 ?_ | refine iRI_1 ?_))
                refine hclone _ _ _ ‹_› ?_
                intro tb3 ts3 cap4 z25 w25 hz25 hcc hS25
                (repeat (first | refine PV_run ?_ | (refine iU_st ?_; intro _ _) | refine iRI_1 ?_ | refine K1 ?_))
                rename_i hSq
                exact ⟨_, tb3, ts3, cap4, z25, rfl, hz25, hcc, hSq.perm (.swap _ _ _)⟩
            · rintro _ w25 ⟨b13, tb3, ts3, cap4, z25, rfl, hz25, hcc, hS25⟩
              obtain ⟨tp, tq, hsp, htl, hput⟩ := FrM.split h6 hro.1 hro.2
              have hoff : r.cond.toNat * 3 = (tp.flatMap TrM.cells).length := by rw [flat_len (f := TrM.cells) (n := 3) (fun _ => rfl), htl]
              haveI : InR r.cond (6 : Nat) := ⟨hro.1, by omega⟩
              have hfl : f.traps.flatMap TrM.cells ++ ts3 = tp.flatMap TrM.cells ++ (.int .i64 (f.tr r.cond).mode :: .string (f.tr r.cond).label :: .bool (f.tr r.cond).delayed :: (tq.flatMap TrM.cells ++ ts3)) := by
                conv => lhs; rw [hsp]
                simp only [List.flatMap_append, List.flatMap_cons, TrM.cells, List.append_assoc, List.cons_append, List.nil_append]
              rw [hfl] at hS25
              generalize htps : tp.flatMap TrM.cells = tps at *
              (repeat (first | refine V_run ?_ | refine iV_ld1 ?_))
              rw [hoff]
              (repeat (first | (refine iDr ?_; intro _ _) | refine PV_run ?_ | (refine iU_st ?_; intro _ _) | refine iHV_1 ?_ | refine iHV_N ?_))
              refine V_bs (parts := [(0, _)]) rfl (by omega) ?_
              intro b26 w26 hb26 hS26
              (repeat (refine iRI_1 ?_))
              have hcap := hx.cap
              refine V_app (B := [(fb, _)]) (m := 1) (n := pre.length + 1) (xs := ps ++ ([.slice (some ⟨tb, 0, none⟩) 6 tcap, V] ++ f.info.cells)) (news := [.slice (some ⟨tb3, 0, none⟩) 6 cap4, .slice none 0 0, .int .i64 r.cond, .int .i64 2, .string r.desc]) (hS26.perm (List.perm_append_comm (l₁ := [_, _, _, _, _, _, _, _, _, _, _, _, _, _]) (l₂ := [(fb, _)]))) ⟨by simp; omega, .inr ⟨fb, cap, sp, by simp, rfl, hcap.1, hcap.2.1, by simp; omega⟩⟩ ⟨_, _, _, (hS26.mem _ List.mem_cons_self).1, fun j v hv => by simpa using hv⟩ rfl (fun u hu => by simp at hu; rcases hu with rfl | rfl | rfl | rfl | rfl <;> rfl) (by omega) (by simp only [room]; omega) (by simp only [room]; omega) ?_
              intro B5 v5 w27 ho5 hS27
              obtain ⟨a5, cap5, rfl, hc5⟩ := ho5.form
              (repeat (first | refine V_run ?_ | refine PV_run ?_ | refine iV_ld1 ?_ | (refine iU_st ?_; intro _ _) | refine iRI_1 ?_))
              refine iEnd (st := .busy) (pend := none) ?_
              intro w28 hS28
              (repeat (first | refine V_run ?_ | refine Cond_t ?_))
              refine iRfEnd (st := .done) (pend := some (.exit 0)) (by intro h; cases h) ?_
              intro w29 hS29
              show KJ [.iface r0 undef] w29
              refine K1 ?_
              (repeat (first | refine iV_ldN ?_ | (refine iU_st ?_; intro _ _)))
              refine iTakeW ?_
              refine iTake ?_
              intro w30 hS30
              (repeat (first | refine iHV_1 ?_ | refine iHV_N ?_))
              have hz1z : Le z1 z25 := (((hz2.trans hz22).trans hle).trans hz23).trans hz25
              have hS31 := hS30.end14
              have hgt : (f.put r.cond { f.tr r.cond with delayed := true }).traps = tp ++ { f.tr r.cond with delayed := true } :: tq := hput _
              have hg6 : (f.put r.cond { f.tr r.cond with delayed := true }).traps.length = 6 := by simp [FrM.put, h6]
              have hmach : Mach z25 ((mb, .cells [.slice a5 (pre.length + 1 + 1) cap5].toArray 134 (0, 0)) :: (B5 ++ [(tb3, .cells ((f.put r.cond { f.tr r.cond with delayed := true }).traps.flatMap TrM.cells ++ ts3).toArray 73 (0, 0))])) mb (pre ++ callF f r rest) := by
                refine (⟨B5, [(tb3, _)], _, _, rfl, ?_, .inr ⟨pre ++ [({ f with pend := rest } : FrM)], ⟨(f.put r.cond { f.tr r.cond with delayed := true }).traps, [], ⟨r.cond, 2, r.desc⟩⟩, ps ++ ([.slice (some ⟨tb, 0, none⟩) 6 tcap, V] ++ f.info.cells), [.slice (some ⟨tb3, 0, none⟩) 6 cap4, .slice none 0 0, .int .i64 r.cond, .int .i64 2, .string r.desc], by simp [callF, FrM.put], rfl, FrsR.snoc (f := ({ f with pend := rest } : FrM)) (cs := [.slice (some ⟨tb, 0, none⟩) 6 tcap, V] ++ f.info.cells) ⟨_, _, rfl, hv1.mono hz25, htl23.mono hz25, hx.sm.2.2.2.2⟩ (FrsR.mono hz25 hfr), ⟨[(tb3, _)], [], _, _, by simp, rfl, ⟨?_, .inr ⟨tb3, cap4, ts3, rfl, ?_, ?_, hcc.2.1, ?_⟩⟩, OwnSl.nil⟩, ?_, by simp, ?_, by simp, hrd⟩⟩ : Mach z25 ((mb, _) :: (B5 ++ [(tb3, .cells ((f.put r.cond { f.tr r.cond with delayed := true }).traps.flatMap TrM.cells ++ ts3).toArray 73 (0, 0))])) mb (pre ++ callF f r rest))
                · simp only [callF, List.length_append, List.length_cons, List.length_nil, List.append_assoc, List.cons_append, List.nil_append, InM.cells] at ho5 ⊢
                  exact ho5
                · rw [flat_len (f := TrM.cells) (n := 3) (fun _ => rfl)]
                · rw [hg6]
                · rw [hg6]; exact hcc.1
                · rw [List.length_append, flat_len (f := TrM.cells) (n := 3) (fun _ => rfl), hg6]; exact hcc.2.2
                · rw [hg6]; decide
                · intro u hu
                  rw [hgt] at hu
                  rcases List.mem_append.1 hu with hu | hu
                  · exact q3 u (by rw [hsp]; exact List.mem_append_left _ hu)
                  · rcases List.mem_cons.1 hu with rfl | hu
                    · exact q3 (f.tr r.cond) (by rw [hsp]; exact List.mem_append_right _ List.mem_cons_self)
                    · exact q3 u (by rw [hsp]; exact List.mem_append_right _ (List.mem_cons_of_mem _ hu))
              rw [hgt, List.flatMap_append, List.flatMap_cons, htps, List.append_assoc] at hmach
              obtain ⟨z32, B32, hS32, hMR⟩ := Mach.toR hS31 hmach
              exact ⟨z32, B32, hS32, by rw [hendr, OpR, if_pos rfl]; exact ⟨rfl, hMR⟩⟩
  · refine iRfEnd (st := .ready) (by intro h; cases h) ?_
    intro w16 hS16
    show KJ [.iface r0 undef] w16
    refine K1 ?_
    (repeat (first | refine iV_ldN ?_ | (refine iU_st ?_; intro _ _)))
    refine iTakeW ?_
    refine iTake ?_
    intro w17 hS17
    (repeat (first | refine iHV_1 ?_ | refine iHV_N ?_))
    have h0 : f.pend.drop k = [] := List.eq_nil_of_length_eq_zero (by omega)
    rw [h0] at hend hv2'
    obtain ⟨z3, B3, hS18, hM⟩ := topR (l := []) (hx1.z hz2) (by simpa [h0] using hv2') (hS17.sublist (L' := [(mb, _), (fb, _), (tb, _)]) (((((((List.Sublist.refl _).cons _).cons _).cons _).cons _).cons _).cons _ |>.cons _))
    refine ⟨z3, B3, hS18, ?_⟩
    rw [hend, OpR, endM, if_pos rfl]
    exact ⟨rfl, hM⟩)
end Go.Proofs.Ytjnckainogpenaa
end

section
/- Operations on states. -/
set_option linter.unusedVariables false
set_option linter.unusedSimpArgs false
set_option maxRecDepth 20000
set_option synthInstance.maxHeartbeats 400000
set_option synthInstance.maxSize 4000
namespace Go.Proofs.Ytjnckainogpenaa
open Go Q Go.RowKit

theorem Fn.post {f : FuncId} {args : Array Value} {z : Z} {B : Bl} {w : World} {R R' : Z → Bl → Value → Prop} (h : Fn f args z B w R) (hr : ∀ z' B' w' v, Res w z B w' z' B' → R z' B' v → ∃ z'' B'', Res w z B w' z'' B'' ∧ R' z'' B'' v) : Fn f args z B w R' :=
  fun ho => (h ho).mono (retK.mono fun v w' ⟨z', B', h1, h2⟩ => hr z' B' w' v h1 h2)
structure StepM where
  e : Int
  a : AcM
  s : StM
def lastF (s : StM) : FrM := s.getLastD ⟨[], [], noInfo⟩
def opM (s : StM) (o : OpM) : StepM :=
  let pre := s.dropLast
  let f := lastF s
  if o.kind = 1 then (if setOk o.cond o.mode o.text then ⟨0, noAct, pre ++ [f.put o.cond (setT (f.tr o.cond) o.cond o.mode o.text)]⟩ else ⟨1, noAct, []⟩)
  else if o.kind = 2 then (if descB o.text then ⟨0, raiseA f o.cond o.text, pre ++ [raiseF f o.cond o.text]⟩ else ⟨1, noAct, []⟩)
  else if o.kind = 3 then ⟨(endM s.length f f.pend).e, (endM s.length f f.pend).a, pre ++ (endM s.length f f.pend).top⟩
  else if o.kind = 4 then (if s.length = 30 then ⟨14, noAct, []⟩ else ⟨0, noAct, s ++ [pushF f]⟩)
  else (if pre.length = 0 then ⟨12, noAct, []⟩ else ⟨0, noAct, pre⟩)
theorem OpR.err {mb : Nat} {e : Int} {a : AcM} {s : StM} {z : Z} {B : Bl} {r : Value} (he : e ≠ 0) (h : r = .tuple #[noAct.v, .int .i64 e]) : OpR mb e a s z B r := by rw [OpR, if_neg he]; exact h
theorem OpR.ok {mb : Nat} {a : AcM} {s : StM} {z : Z} {B : Bl} {r : Value} (h : r = .tuple #[a.v, .int .i64 0]) (hm : MachR z B mb s) : OpR mb 0 a s z B r := by rw [OpR, if_pos rfl]; exact ⟨h, hm⟩
def opF (k : Int) : FuncId := if k = 1 then 85 else if k = 2 then 68 else if k = 3 then 69 else if k = 4 then 86 else 87
theorem opP {z : Z} {w : World} {B : Bl} {mb : Nat} {s : StM} {o : OpM} (hm : Mach z B mb s) (hck : checkB s = true) (hk : 1 ≤ o.kind ∧ o.kind ≤ 5) (hc : o.kind = 1 ∨ o.kind = 2 → 0 ≤ o.cond ∧ o.cond < 6) (ht : o.text.size ≤ big) :
    Fn (opF o.kind) #[.pointer (some ⟨mb, 0, none⟩), .int .i64 o.cond, .int .i64 o.mode, .string o.text] z B w (OpR mb (opM s o).e (opM s o).a (opM s o).s) := by
  obtain ⟨h30, hfr⟩ := checkB_fr hck
  have hne : s ≠ [] := by intro e; subst e; simp [checkB] at hck
  obtain ⟨pre, f, rfl⟩ : ∃ pre f, s = pre ++ [f] := ⟨s.dropLast, s.getLast hne, (List.dropLast_concat_getLast hne).symm⟩
  have h6 := (hfr f (by simp)).1
  have hp4 := (hfr f (by simp)).2
  have hpre : pre.length ≤ 100 := by simp at h30; omega
  have hfd : framedB f = true := by
    simp only [checkB, Bool.and_eq_true, List.all_eq_true] at hck
    exact hck.2 f (by simp)
  have hpc : ∀ r ∈ f.pend, 0 ≤ r.cond ∧ r.cond < 6 := by
    have : pendFrom [] f.pend = true := by
      simp only [framedB, Bool.and_eq_true] at hfd; exact hfd.1.2
    have key : ∀ (l had : List RaM), pendFrom had l = true → ∀ r ∈ l, 0 ≤ r.cond ∧ r.cond < 6 := by
      intro l
      induction l with
      | nil => intro _ _ r hr; cases hr
      | cons x l ih =>
        intro had h r hr
        simp only [pendFrom, Bool.and_eq_true] at h
        rcases List.mem_cons.1 hr with rfl | hr
        · have := (raOk_mem h.1).1; omega
        · exact ih _ h.2 r hr
    exact key _ _ this
  have hl : lastF (pre ++ [f]) = f := by simp [lastF]
  have hd : (pre ++ [f]).dropLast = pre := by simp
  have hlen : (pre ++ [f]).length = pre.length + 1 := by simp
  have hcase : o.kind = 1 ∨ o.kind = 2 ∨ o.kind = 3 ∨ o.kind = 4 ∨ o.kind = 5 := by omega
  simp only [opM, opF, hl, hd, hlen]
  rcases hcase with hk | hk | hk | hk | hk
  · have hcc := hc (.inl hk)
    simp only [hk, if_true]
    refine (setP hm h6 hcc.1 hcc.2 hpre ht).post fun z' B' w' v hR h => ?_
    by_cases hok : setOk o.cond o.mode o.text = true
    · rw [if_pos hok] at h ⊢
      obtain ⟨z2, B2, hS2, hM⟩ := Mach.toR hR h.2
      exact ⟨z2, B2, hS2, OpR.ok h.1 hM⟩
    · rw [if_neg hok] at h ⊢
      exact ⟨_, _, hR, OpR.err (by decide) h⟩
  · have hcc := hc (.inr hk)
    simp only [hk, show ¬ ((2 : Int) = 1) by decide, if_true, if_false]
    refine (raiseP hm h6 hcc.1 hcc.2 hpre ht (by omega)).post fun z' B' w' v hR h => ?_
    by_cases hok : descB o.text = true
    · rw [if_pos hok] at h ⊢
      obtain ⟨z2, B2, hS2, hM⟩ := Mach.toR hR h.2
      exact ⟨z2, B2, hS2, OpR.ok h.1 hM⟩
    · rw [if_neg hok] at h ⊢
      exact ⟨_, _, hR, OpR.err (by decide) h⟩
  · simp only [hk, show ¬ ((3 : Int) = 1) by decide, show ¬ ((3 : Int) = 2) by decide, if_true, if_false]
    exact endP hm h6 hpre hpc
  · simp only [hk, show ¬ ((4 : Int) = 1) by decide, show ¬ ((4 : Int) = 2) by decide, show ¬ ((4 : Int) = 3) by decide, if_true, if_false]
    refine (callP hm h6 hpre).post fun z' B' w' v hR h => ?_
    by_cases hok : pre.length + 1 = 30
    · rw [if_pos hok] at h ⊢
      exact ⟨_, _, hR, OpR.err (by decide) h⟩
    · rw [if_neg hok] at h ⊢
      obtain ⟨z2, B2, hS2, hM⟩ := Mach.toR hR h.2
      exact ⟨z2, B2, hS2, OpR.ok h.1 hM⟩
  · simp only [hk, show ¬ ((5 : Int) = 1) by decide, show ¬ ((5 : Int) = 2) by decide, show ¬ ((5 : Int) = 3) by decide, show ¬ ((5 : Int) = 4) by decide, if_true, if_false]
    refine (backP hm h6 hpre).post fun z' B' w' v hR h => ⟨_, _, hR, ?_⟩
    by_cases h0 : pre.length = 0
    · simp only [if_pos h0] at h ⊢
      exact OpR.err (by decide) (by rw [OpR, if_neg (by decide)] at h; exact h)
    · simp only [if_neg h0] at h ⊢
      exact h
abbrev opsL : List (Int × Value) := [(1, .func (.func 85) #[] #[]), (2, .func (.func 68) #[] #[]), (3, .func (.func 69) #[] #[]), (4, .func (.func 86) #[] #[]), (5, .func (.func 87) #[] #[])]
theorem operations {z : Z} {w : World} : Fn 50 #[] z [] w fun z' B' r => ∃ b, r = .map (some b) ∧ B' = [(b, mO .i64 opsL)] := Fn.intro fun hS => en50 (by
  unfold vc50
  refine iV_mm ?_
  intro b w1 hb hS1
  refine iU_mu (by simp) ?_
  intro w2 hS2
  refine iU_mu (by simp) ?_
  intro w3 hS3
  refine iU_mu (by simp) ?_
  intro w4 hS4
  refine iU_mu (by simp) ?_
  intro w5 hS5
  refine iU_mu (by simp) ?_
  intro w6 hS6
  exact ⟨z, _, hS6, b, rfl, rfl⟩)
theorem ops_lk {k : Int} : lkF opsL k .nilFunc = if 1 ≤ k ∧ k ≤ 5 then (.func (.func (opF k)) #[] #[], true) else (.nilFunc, false) := by
  by_cases h1 : k = 1
  · subst h1; rfl
  by_cases h2 : k = 2
  · subst h2; rfl
  by_cases h3 : k = 3
  · subst h3; rfl
  by_cases h4 : k = 4
  · subst h4; rfl
  by_cases h5 : k = 5
  · subst h5; rfl
  rw [if_neg (by omega)]
  have : ∀ a : Int, a ≠ k → (a == k) = false := fun a h => by simpa using h
  simp only [lkF, opsL, List.find?, this 1 (fun e => h1 e.symm), this 2 (fun e => h2 e.symm), this 3 (fun e => h3 e.symm), this 4 (fun e => h4 e.symm), this 5 (fun e => h5 e.symm)]
end Go.Proofs.Ytjnckainogpenaa
end

section
/- An operation on a state, as the program does it. -/
set_option linter.unusedVariables false
set_option maxRecDepth 20000
set_option synthInstance.maxHeartbeats 400000
set_option synthInstance.maxSize 4000
namespace Go.Proofs.Ytjnckainogpenaa
open Go Q Go.RowKit

theorem J2cut {body : (List Value → World → Prop) → Prop} {rest : Value → Value → World → Prop} (Po : Value → Value → World → Prop) (h1 : ∀ a b w, Po a b w → rest a b w) (h : ∀ K, JK2 K Po → body K) : ∀ K : List Value → World → Prop, (∀ a b w, (∀ _ : Env, rest a b w) → K [a, b] w) → body K := fun K hK => h K ⟨fun a b w r => hK a b w fun _ => h1 a b w r⟩
theorem iHV_lkv {w0 w : World} {z0 z : Z} {B0 L : Bl} {C : Obj → Bl} {b : Nat} {K : Value → Prop} [hS : Res w0 z0 B0 w z L] {t k e : Nat} {kd : IntKind} {zv v : Value} [g : TyMap t k e] [gk : TyInt k kd] [gz : ZeroV e zv] {n : Int} {l : List (Int × Value)} [gb : Blk L b (mO kd l) C] [gv : LkV l n zv v]
    (hk : K v) : HV (lk t (.map (some b)) (.int kd n) false) w K := ⟨_, run_lk (gb := gb) gz.h false, by rw [← gv.h] at hk; exact hk⟩
theorem iRI_lkv {w0 w : World} {z0 z : Z} {B0 L : Bl} {C : Obj → Bl} {b : Nat} {A : Prop} [hS : Res w0 z0 B0 w z L] {t k e : Nat} {kd : IntKind} {zv v : Value} [g : TyMap t k e] [gk : TyInt k kd] [gz : ZeroV e zv] {n : Int} {l : List (Int × Value)} [gb : Blk L b (mO kd l) C] [gv : LkV l n zv v]
    (hk : A) : RunIs (lk t (.map (some b)) (.int kd n) false) w v ∧ A := ⟨by have := run_lk (gb := gb) (hS := hS) (t := t) (k := k) (e := e) (n := n) gz.h false; rw [← gv.h]; exact this, hk⟩
instance {k : Int} : Enters (opF k) := by
  unfold opF
  repeat' split
  all_goals infer_instance
theorem OpR.val {mb : Nat} {e : Int} {a : AcM} {s : StM} {z : Z} {B : Bl} {r : Value} (h : OpR mb e a s z B r) : ∃ act : AcM, r = .tuple #[act.v, .int .i64 e] ∧ (e = 0 → act = a ∧ MachR z B mb s) := by
  rw [OpR] at h
  by_cases he : e = 0
  · rw [if_pos he] at h
    exact ⟨a, by rw [he]; exact h.1, fun _ => ⟨rfl, h.2⟩⟩
  · rw [if_neg he] at h
    exact ⟨noAct, h, fun hh => absurd hh he⟩
theorem perm2 {a b : Nat × Obj} {B R : Bl} : (a :: b :: (B ++ R)).Perm (B ++ (a :: b :: R)) := by
  simpa using (List.perm_append_comm (l₁ := [a, b]) (l₂ := B)).append_right R
theorem Mach.z {z z' : Z} {B : Bl} {mb : Nat} {s : StM} (hm : Mach z B mb s) (hz : Le z z') : Mach z' B mb s := by
  obtain ⟨Bf, Bl, xs, v, h1, h2, h3⟩ := hm
  refine ⟨Bf, Bl, xs, v, h1, h2, ?_⟩
  rcases h3 with h | ⟨pre, f, ps, cs, q1, q2, q3, q4, q5⟩
  · exact .inl h
  · exact .inr ⟨pre, f, ps, cs, q1, q2, FrsR.mono hz q3, q4, q5⟩
def doneM (s : StM) (o : OpM) (conds : List Int) : StepM :=
  if openE s conds ≠ 0 then ⟨openE s conds, noAct, []⟩ else if (opM s o).e ≠ 0 then ⟨(opM s o).e, noAct, []⟩ else opM s o
/-- The result of a step, as values. -/
def StepR (z : Z) (r : Value) (m : StepM) : Prop := ∃ v, r = .tuple #[v, m.a.v, .int .i64 m.e] ∧ StR z v m.s
theorem endM_len {n : Nat} {f : FrM} : ∀ l, (endM n f l).top.length ≤ 2
  | [] => by simp [endM]
  | r :: l => by
    simp only [endM]
    split
    · exact endM_len l
    · split
      · simp
      · split
        · simp
        · simp [callF]
theorem opM_len {s : StM} {o : OpM} : (opM s o).s.length ≤ s.length + 2 := by
  have h := endM_len (n := s.length) (f := lastF s) (lastF s).pend
  have hd : s.dropLast.length ≤ s.length := by simp
  simp only [opM]
  repeat' split
  all_goals simp only [List.length_append, List.length_cons, List.length_nil]
  all_goals omega
theorem doneP {v vc : Value} {s : StM} {o : OpM} {conds : List Int} {z : Z} {w : World} (hs : StR z v s) (hcs : SlR El.int z vc conds) (hk : 1 ≤ o.kind ∧ o.kind ≤ 5) (hc : o.kind = 1 ∨ o.kind = 2 → conds = [o.cond]) (ht : o.text.size ≤ big) :
    Fn1 51 #[v, o.v, vc] z w fun z' r => StepR z' r (doneM s o conds) := Fn1.intro fun hS => en51 (by
  unfold vc51
  obtain ⟨u, rfl, hu⟩ := hs
  have hu' := hu
  obtain ⟨hb, a, cap, rfl, hcap, hel⟩ := hu.form
  dsimp only [OpM.v, OpM.cells]
  refine iV_bx ?_
  intro b3 w3 hb3 hS3
  refine iV_bx ?_
  intro b4 w4 hb4 hS4
  refine iV_al ?_
  intro b6 w6 hb6 hS6
  refine iV_al ?_
  intro b7 w7 hb7 hS7
  (repeat (refine iV_ldN ?_))
  refine CV_fn0 (fun hz => openP ⟨_, rfl, hu'.mono hz⟩ (hcs.mono hz)) ?_
  rintro z8 B8 w8 v8 hle8 hS8 hop
  by_cases he : openE s conds = 0
  · rw [if_pos he] at hop
    obtain ⟨mb, rfl, hm⟩ := hop
    have hck : checkB s = true := by
      simp only [openE] at he
      cases hh : checkB s with
      | true => rfl
      | false => simp [hh] at he
    have hcc : o.kind = 1 ∨ o.kind = 2 → 0 ≤ o.cond ∧ o.cond < 6 := fun h => by
      rw [hc h] at he
      simp only [openE, hck, if_true, List.all_cons, List.all_nil, Bool.and_true] at he
      cases hcd : cond o.cond with
      | false => simp [hcd] at he
      | true => simpa [cond] using hcd
    have hdone : doneM s o conds = if (opM s o).e ≠ 0 then ⟨(opM s o).e, noAct, []⟩ else opM s o := by rw [doneM, if_neg (by simp [he])]
    rw [hdone]
    refine V_run ?_
    refine V_run ?_
    refine V_run ?_
    refine Cond_f ?_
    refine J2cut (fun a b w' => ∃ b11 act z' B', a = .pointer (some ⟨b11, 0, none⟩) ∧ b = .int .i64 (opM s o).e ∧ ((opM s o).e = 0 → act = (opM s o).a ∧ MachR z' B' mb (opM s o).s) ∧ Res w z [] w' z' ((b11, .cells act.cells.toArray 39 (0, 0)) :: (B' ++ [(b7, .cells [.int .i64 0, .string ⟨#[]⟩, .int .i64 0, .string ⟨#[]⟩].toArray 39 (0, 0)), (b6, .cells [.slice none 0 0].toArray 28 (0, 0))])) ) ?_ ?_
    rotate_left
    · intro KJ hJ
      haveI : LkV opsL o.kind .nilFunc (.func (.func (opF o.kind)) #[] #[]) := ⟨by rw [ops_lk, if_pos hk]⟩
      (repeat (first | (refine iDr ?_; intro _ _) | refine PV_run ?_ | refine iHV_1 ?_))
      refine ⟨?_, ?_⟩
      · refine CV_fn0 (fun _ => operations) ?_
        rintro z9 B9 w9 v9 hle9 hS9 ⟨bm, rfl, rfl⟩
        have hm9 := hm.z hle9
        simp only [List.cons_append, List.nil_append] at hS9
        (repeat (refine iRI_1 ?_))
        refine iHV_lkv ?_
        refine ⟨?_, ?_⟩
        · refine CV_fn (B := B8) (F := (bm, _) :: [_, _, _, _]) (hS9.perm List.perm_middle.symm) (opP hm9 hck hk hcc ht) (by simp) ?_
          rintro z10 B10 w10 v10 hle10 hS10 hop
          obtain ⟨act, rfl, hact⟩ := hop.val
          dsimp only [AcM.v] at *
          (repeat (first | refine PV_run ?_ | (refine iV_bx ?_; intro _ _ _ _) | (refine iU_st ?_; intro _ _) | refine iRI_1 ?_ | refine K2 ?_))
          rename_i hSe
          exact ⟨_, act, _, B10, rfl, rfl, hact, hSe.sublist ((List.Sublist.append (List.Sublist.refl _) (by repeat (first | exact List.Sublist.refl _ | apply List.Sublist.cons_cons | apply List.Sublist.cons | exact List.nil_sublist _))).cons_cons _)⟩
        · (repeat (refine iV_bx ?_; intro _ _ _ _))
          refine iRI_lkv ?_
          (repeat (refine iRI_1 ?_))
          rename_i hSe
          refine CV_fn (B := B8) (F := (_, _) :: (bm, _) :: [_, _, _, _]) (hSe.perm perm2) (opP hm9 hck hk hcc ht) (by simp) ?_
          rintro z10 B10 w10 v10 hle10 hS10 hop
          obtain ⟨act, rfl, hact⟩ := hop.val
          dsimp only [AcM.v] at *
          (repeat (first | refine PV_run ?_ | (refine iU_st ?_; intro _ _) | refine iRI_1 ?_ | refine K2 ?_))
          rename_i hSe2
          exact ⟨_, act, _, B10, rfl, rfl, hact, (hSe2.perm List.perm_middle).sublist ((List.Sublist.append (List.Sublist.refl _) (by repeat (first | exact List.Sublist.refl _ | apply List.Sublist.cons_cons | apply List.Sublist.cons | exact List.nil_sublist _))).cons_cons _)⟩
      · (repeat (first | (refine iV_bx ?_; intro _ _ _ _) | refine iRI_1 ?_))
        refine CV_fn0 (fun _ => operations) ?_
        rintro z9 B9 w9 v9 hle9 hS9 ⟨bm, rfl, rfl⟩
        simp only [List.cons_append, List.nil_append] at hS9
        (repeat (refine iRI_1 ?_))
        refine iHV_lkv ?_
        refine CV_fn (B := B8) (F := (bm, _) :: (_, _) :: [_, _, _, _]) (hS9.perm perm2) (opP (hm.z hle9) hck hk hcc ht) (by simp) ?_
        rintro z10 B10 w10 v10 hle10 hS10 hop
        obtain ⟨act, rfl, hact⟩ := hop.val
        dsimp only [AcM.v] at *
        (repeat (first | refine PV_run ?_ | (refine iU_st ?_; intro _ _) | refine iRI_1 ?_ | refine K2 ?_))
        rename_i hSe2
        exact ⟨_, act, _, B10, rfl, rfl, hact, (hSe2.sublist ((List.Sublist.refl _).append (List.sublist_cons_self _ _)) |>.perm List.perm_middle).sublist ((List.Sublist.append (List.Sublist.refl _) (by repeat (first | exact List.Sublist.refl _ | apply List.Sublist.cons_cons | apply List.Sublist.cons | exact List.nil_sublist _))).cons_cons _)⟩
    · rintro _ _ w9 ⟨b11, act, z9, B9, rfl, rfl, hact, hS9⟩
      dsimp only [AcM.cells] at hS9
      (repeat (refine V_run ?_))
      refine Cond_nd (fun hne => ?_) (fun h0 => ?_)
      · (repeat (first | refine V_run ?_ | (refine iU_st ?_; intro _ _) | refine iHV_N ?_))
        exact ⟨_, _, ‹_›, by rw [if_pos hne]; exact ⟨_, rfl, _, rfl, SlR.nil⟩⟩
      · obtain ⟨rfl, Bf, xs, v, rfl, ho, hfr⟩ := hact h0
        obtain ⟨af, capf, rfl, hcf⟩ := ho.form
        simp only [List.cons_append] at hS9
        (repeat (first | (refine iDr ?_; intro _ _) | refine PV_run ?_ | (refine iU_st ?_; intro _ _) | refine iHV_N ?_ | refine iRI_N ?_))
        rename_i hSe
        have hlen : (opM s o).s.length ≤ big := by
          have := opM_len (s := s) (o := o)
          have := (checkB_fr hck).1
          simp only [big]; omega
        obtain ⟨z10, hz10, hS10, hsl⟩ := MachR.st (L := []) (hSe.sublist (L' := Bf ++ []) ((((List.Sublist.refl _).append (List.nil_sublist _)).cons _).cons _)) ho hfr hlen
        refine ⟨z10, [], hS10, ?_⟩
        rw [if_neg (by simp [h0])]
        exact ⟨_, by rw [h0], _, rfl, hsl⟩
  · rw [if_neg he] at hop
    obtain ⟨rfl, rfl⟩ := hop
    have hdone : doneM s o conds = ⟨openE s conds, noAct, []⟩ := by rw [doneM, if_pos he]
    rw [hdone]
    simp only [List.nil_append] at hS8
    (repeat (refine V_run ?_))
    refine Cond_nd (fun _ => ?_) (fun h => absurd h he)
    (repeat (first | refine V_run ?_ | (refine iU_st ?_; intro _ _) | refine iHV_N ?_))
    exact ⟨_, _, ‹_›, _, rfl, _, rfl, SlR.nil⟩)
end Go.Proofs.Ytjnckainogpenaa
end

section
/- The operations' own names; the first state; names. -/
set_option linter.unusedVariables false
set_option maxRecDepth 20000
set_option synthInstance.maxHeartbeats 400000
set_option synthInstance.maxSize 4000
namespace Go.Proofs.Ytjnckainogpenaa
open Go Q Go.RowKit

/-- The result of a step without its action. -/
def StepR2 (z : Z) (r : Value) (m : StepM) : Prop := ∃ v, r = .tuple #[v, .int .i64 m.e] ∧ StR z v m.s
def endO : OpM := ⟨3, 0, 0, ⟨#[]⟩⟩
def callO : OpM := ⟨4, 0, 0, ⟨#[]⟩⟩
def backO : OpM := ⟨5, 0, 0, ⟨#[]⟩⟩
def setO (c m : Int) (t : ByteArray) : OpM := ⟨1, c, m, t⟩
def raiseO (c : Int) (t : ByteArray) : OpM := ⟨2, c, 0, t⟩
theorem emptySm : (⟨#[]⟩ : ByteArray).size ≤ big := Nat.zero_le _
theorem EndClauseP {v : Value} {s : StM} {z : Z} {w : World} (hs : StR z v s) : Fn1 18 #[v] z w fun z' r => StepR z' r (doneM s endO []) := Fn1.intro fun hS => en18 (by
  unfold vc18
  obtain ⟨u, rfl, hu⟩ := hs
  obtain ⟨hb, a, cap, rfl, hcap, hel⟩ := hu.form
  (repeat (first | refine V_run ?_ | refine iV_ldN ?_ | (refine iV_bx ?_; intro _ _ _ _)))
  refine CV_1z (fun hz => doneP (o := endO) (conds := []) ⟨_, rfl, hu.mono hz⟩ SlR.nil (by decide) (by intro h; rcases h with h | h <;> cases h) emptySm) ?_
  rintro z9 w9 v9 hle9 hS9 ⟨v', rfl, hv'⟩
  obtain ⟨u', rfl, hu'⟩ := hv'
  obtain ⟨hb', a', cap', rfl, hcap', hel'⟩ := hu'.form
  dsimp only [AcM.v] at *
  (repeat (first | refine V_run ?_ | (refine iU_st ?_; intro _ _) | refine iHV_N ?_))
  exact ⟨_, _, ‹_›, _, rfl, _, rfl, hu'⟩)
theorem CallP {v : Value} {s : StM} {z : Z} {w : World} (hs : StR z v s) : Fn1 23 #[v] z w fun z' r => StepR2 z' r (doneM s callO []) := Fn1.intro fun hS => en23 (by
  unfold vc23
  obtain ⟨u, rfl, hu⟩ := hs
  obtain ⟨hb, a, cap, rfl, hcap, hel⟩ := hu.form
  (repeat (first | refine V_run ?_ | refine iV_ldN ?_ | (refine iV_bx ?_; intro _ _ _ _)))
  refine CV_1z (fun hz => doneP (o := callO) (conds := []) ⟨_, rfl, hu.mono hz⟩ SlR.nil (by decide) (by intro h; rcases h with h | h <;> cases h) emptySm) ?_
  rintro z9 w9 v9 hle9 hS9 ⟨v', rfl, hv'⟩
  obtain ⟨u', rfl, hu'⟩ := hv'
  obtain ⟨hb', a', cap', rfl, hcap', hel'⟩ := hu'.form
  dsimp only [AcM.v] at *
  (repeat (first | refine V_run ?_ | refine iV_ldN ?_ | (refine iV_bx ?_; intro _ _ _ _) | (refine iU_st ?_; intro _ _) | refine iHV_N ?_))
  exact ⟨_, _, ‹_›, _, rfl, _, rfl, hu'⟩)
theorem ReturnP {v : Value} {s : StM} {z : Z} {w : World} (hs : StR z v s) : Fn1 19 #[v] z w fun z' r => StepR2 z' r (doneM s backO []) := Fn1.intro fun hS => en19 (by
  unfold vc19
  obtain ⟨u, rfl, hu⟩ := hs
  obtain ⟨hb, a, cap, rfl, hcap, hel⟩ := hu.form
  (repeat (first | refine V_run ?_ | refine iV_ldN ?_ | (refine iV_bx ?_; intro _ _ _ _)))
  refine CV_1z (fun hz => doneP (o := backO) (conds := []) ⟨_, rfl, hu.mono hz⟩ SlR.nil (by decide) (by intro h; rcases h with h | h <;> cases h) emptySm) ?_
  rintro z9 w9 v9 hle9 hS9 ⟨v', rfl, hv'⟩
  obtain ⟨u', rfl, hu'⟩ := hv'
  obtain ⟨hb', a', cap', rfl, hcap', hel'⟩ := hu'.form
  dsimp only [AcM.v] at *
  (repeat (first | refine V_run ?_ | refine iV_ldN ?_ | (refine iV_bx ?_; intro _ _ _ _) | (refine iU_st ?_; intro _ _) | refine iHV_N ?_))
  exact ⟨_, _, ‹_›, _, rfl, _, rfl, hu'⟩)
theorem SetP {v : Value} {s : StM} {c m : Int} {t : ByteArray} {z : Z} {w : World} (hs : StR z v s) (ht : t.size ≤ big) : Fn1 21 #[v, .int .i64 c, .int .i64 m, .string t] z w fun z' r => StepR2 z' r (doneM s (setO c m t) [c]) := Fn1.intro fun hS => en21 (by
  unfold vc21
  obtain ⟨u, rfl, hu⟩ := hs
  obtain ⟨hb, a, cap, rfl, hcap, hel⟩ := hu.form
  (repeat (first | refine V_run ?_ | refine iV_ldN ?_ | (refine iV_bx ?_; intro _ _ _ _)))
  refine V_bs (parts := [(0, _)]) rfl (by omega) ?_
  intro b3 w3 hb3 hS3
  obtain ⟨z4, hz4, hS4, hfr⟩ := Res.freezeSl (E := El.int) (B := [(b3, _)]) (f := fun x => [.int .i64 x]) (xs := [c]) (v := .slice (some ⟨b3, 0, none⟩) 1 1) (e := 3) hS3 ⟨rfl, .inr ⟨b3, 1, [], by rfl, rfl, by simp, by simp [maxLen], rfl⟩⟩ (by simp [big]) (fun _ => rfl) (fun _ _ _ => rfl)
  clear hS3
  refine CV_1z (fun hz => doneP (o := (setO c m t)) (conds := [c]) ⟨_, rfl, hu.mono hz⟩ (hfr.mono (by first | exact Le.refl _ | assumption)) ⟨by show (1 : Int) ≤ 1; decide, by show (1 : Int) ≤ 5; decide⟩ (fun _ => rfl) ht) ?_
  rintro z9 w9 v9 hle9 hS9 ⟨v', rfl, hv'⟩
  obtain ⟨u', rfl, hu'⟩ := hv'
  obtain ⟨hb', a', cap', rfl, hcap', hel'⟩ := hu'.form
  dsimp only [AcM.v] at *
  (repeat (first | refine V_run ?_ | refine iV_ldN ?_ | (refine iV_bx ?_; intro _ _ _ _) | (refine iU_st ?_; intro _ _) | refine iHV_N ?_))
  exact ⟨_, _, ‹_›, _, rfl, _, rfl, hu'⟩)
theorem RaiseP {v : Value} {s : StM} {c : Int} {t : ByteArray} {z : Z} {w : World} (hs : StR z v s) (ht : t.size ≤ big) : Fn1 22 #[v, .int .i64 c, .string t] z w fun z' r => StepR z' r (doneM s (raiseO c t) [c]) := Fn1.intro fun hS => en22 (by
  unfold vc22
  obtain ⟨u, rfl, hu⟩ := hs
  obtain ⟨hb, a, cap, rfl, hcap, hel⟩ := hu.form
  (repeat (first | refine V_run ?_ | refine iV_ldN ?_ | (refine iV_bx ?_; intro _ _ _ _)))
  refine V_bs (parts := [(0, _)]) rfl (by omega) ?_
  intro b3 w3 hb3 hS3
  obtain ⟨z4, hz4, hS4, hfr⟩ := Res.freezeSl (E := El.int) (B := [(b3, _)]) (f := fun x => [.int .i64 x]) (xs := [c]) (v := .slice (some ⟨b3, 0, none⟩) 1 1) (e := 3) hS3 ⟨rfl, .inr ⟨b3, 1, [], by rfl, rfl, by simp, by simp [maxLen], rfl⟩⟩ (by simp [big]) (fun _ => rfl) (fun _ _ _ => rfl)
  clear hS3
  refine CV_1z (fun hz => doneP (o := (raiseO c t)) (conds := [c]) ⟨_, rfl, hu.mono hz⟩ (hfr.mono (by first | exact Le.refl _ | assumption)) ⟨by show (1 : Int) ≤ 2; decide, by show (2 : Int) ≤ 5; decide⟩ (fun _ => rfl) ht) ?_
  rintro z9 w9 v9 hle9 hS9 ⟨v', rfl, hv'⟩
  obtain ⟨u', rfl, hu'⟩ := hv'
  obtain ⟨hb', a', cap', rfl, hcap', hel'⟩ := hu'.form
  dsimp only [AcM.v] at *
  (repeat (first | refine V_run ?_ | (refine iU_st ?_; intro _ _) | refine iHV_N ?_))
  exact ⟨_, _, ‹_›, _, rfl, _, rfl, hu'⟩)
def newM : StM := [⟨[noTrap, noTrap, noTrap, noTrap, noTrap, noTrap], [], noInfo⟩]
theorem NewP {z : Z} {w : World} : Fn1 42 #[] z w fun z' r => StR z' r newM := Fn1.intro fun hS => en42 (by
  unfold vc42
  refine iV_al ?_
  intro b0 w0 hb0 hS0
  refine iV_ms (n := 6) (by omega) (by omega) ?_
  intro b1 w1 hb1 hS1
  have e : ((List.range (6 * 3)).map fun i => [Value.int .i64 0, Value.string ⟨#[]⟩, Value.bool false][i % [Value.int .i64 0, Value.string ⟨#[]⟩, Value.bool false].length]!) = ([noTrap, noTrap, noTrap, noTrap, noTrap, noTrap].flatMap TrM.cells ++ []) := rfl
  rw [e] at hS1
  obtain ⟨z2, hz2, hS2, hv2⟩ := Res.freezeSl (E := El.trap) (B := [(b1, _)]) (v := .slice (some ⟨b1, 0, none⟩) 6 6) (xs := [noTrap, noTrap, noTrap, noTrap, noTrap, noTrap]) (f := TrM.cells) (e := 73) hS1 ⟨rfl, .inr ⟨b1, 6, [], rfl, rfl, by decide, by simp [maxLen], rfl⟩⟩ (by simp [big]) (fun _ => rfl) (fun z x hx => ⟨rfl, by
    have : x = noTrap := by simpa using hx
    rw [this]; exact emptySm⟩)
  clear hS1
  (repeat (refine V_run ?_))
  refine V_bs (parts := [(0, _)]) rfl (by omega) ?_
  intro b3 w3 hb3 hS3
  (repeat (first | refine V_run ?_ | (refine iU_st ?_; intro _ _) | refine iHV_N ?_))
  rename_i hSe
  obtain ⟨z4, hz4, hS4, hv4⟩ := MachR.st (s := newM) (Bf := [(b3, _)]) (L := []) (v := .slice (some ⟨b3, 0, none⟩) 1 1) (hSe.sublist (L' := [(b3, _)]) ((List.Sublist.refl [(b3, _)]).trans (by repeat (first | exact List.Sublist.refl _ | apply List.Sublist.cons_cons | apply List.Sublist.cons | exact List.nil_sublist _)))) ⟨rfl, .inr ⟨b3, 1, [], rfl, rfl, by decide, by simp [maxLen], rfl⟩⟩ ⟨_, [], by simp [noInfo], ⟨_, _, rfl, hv2, SlR.nil, emptySm⟩, rfl⟩ (by simp [newM, big])
  exact ⟨z4, [], hS4, _, rfl, hv4⟩)
end Go.Proofs.Ytjnckainogpenaa
end

section
/- Catches; names. -/
set_option linter.unusedVariables false
set_option maxRecDepth 20000
set_option synthInstance.maxHeartbeats 400000
set_option synthInstance.maxSize 4000
namespace Go.Proofs.Ytjnckainogpenaa
open Go Q Go.RowKit

instance {c : Int} : Pu 36 #[.int .i64 c] (if cond c then .tuple #[.string (nameOf c), .int .i64 0] else .tuple #[.string ⟨#[]⟩, .int .i64 1]) := ⟨fun z w => Fn1.intro fun hS => en36 (by
  unfold vc36
  (repeat (first | refine V_run ?_ | (refine CV_pu ?_; intro _ _ _ _)))
  refine Cond_n (fun h => ?_) (fun h => ?_)
  · exact ⟨_, _, ‹_›, by rw [h]; rfl⟩
  · haveI : InR c 6 := by simp only [cond, Bool.and_eq_true, decide_eq_true_eq] at h; exact ⟨h.1, h.2⟩
    (repeat (first | refine V_run ?_ | (refine CV_pu ?_; intro _ _ _ _)))
    exact ⟨_, _, ‹_›, by rw [h]; rfl⟩)⟩
theorem lastSplit {s : StM} (h : checkB s = true) : ∃ pre f, s = pre ++ [f] ∧ f.traps.length = 6 ∧ f.pend.length ≤ 4 ∧ pre.length ≤ 29 ∧ framedB f = true ∧ lastF s = f ∧ s.dropLast = pre := by
  obtain ⟨h30, hfr⟩ := checkB_fr h
  have hne : s ≠ [] := by intro e; subst e; simp [checkB] at h
  obtain ⟨pre, f, rfl⟩ : ∃ pre f, s = pre ++ [f] := ⟨s.dropLast, s.getLast hne, (List.dropLast_concat_getLast hne).symm⟩
  have hfd : framedB f = true := by
    simp only [checkB, Bool.and_eq_true, List.all_eq_true] at h
    exact h.2 f (by simp)
  exact ⟨pre, f, rfl, (hfr f (by simp)).1, (hfr f (by simp)).2, by simp at h30; omega, hfd, by simp [lastF], by simp⟩
/-- What raising a condition leads to. -/
def catchM (s : StM) (c : Int) : AcM × Int :=
  if openE s [c] ≠ 0 then (noAct, openE s [c])
  else
    let f : FrM := { lastF s with pend := [] }
    if (raiseA f c ⟨#[]⟩).kind ≠ 0 then (raiseA f c ⟨#[]⟩, 0)
    else
      let g := raiseF f c ⟨#[]⟩
      ((endM s.length g g.pend).a, (endM s.length g g.pend).e)
theorem raiseF_six {f : FrM} {c : Int} {d : ByteArray} (h6 : f.traps.length = 6) : (raiseF f c d).traps.length = 6 := by
  unfold raiseF
  repeat' split
  all_goals simp [sigF, h6]
theorem raiseF_pend {f : FrM} {c : Int} {d : ByteArray} (hp : f.pend = []) (h0 : 0 ≤ c) (h1 : c < 6) : ∀ r ∈ (raiseF f c d).pend, 0 ≤ r.cond ∧ r.cond < 6 := by
  unfold raiseF
  have hrc : 0 ≤ raiseC f c ∧ raiseC f c < 6 := by unfold raiseC; split <;> omega
  repeat' split
  all_goals intro r hr
  all_goals simp only [sigF, hp, List.nil_append, List.mem_singleton, List.not_mem_nil] at hr
  all_goals subst hr
  exact hrc
theorem endM_err {n : Nat} {f : FrM} : ∀ {l : List RaM}, (endM n f l).e ≠ 0 → (endM n f l).a = noAct
  | [], h => absurd rfl h
  | r :: l, h => by
    simp only [endM] at h ⊢
    split at h
    · rename_i h1; rw [if_pos h1]; exact endM_err h
    · rename_i h1
      rw [if_neg h1]
      split at h
      · exact absurd rfl h
      · rename_i h2
        rw [if_neg h2]
        split at h
        · rename_i h3; rw [if_pos h3]
        · exact absurd rfl h
theorem OpR.r {mb : Nat} {e : Int} {a : AcM} {s : StM} {z : Z} {B : Bl} {r : Value} (hea : e ≠ 0 → a = noAct) (h : OpR mb e a s z B r) : r = .tuple #[a.v, .int .i64 e] := by
  rw [OpR] at h
  by_cases he : e = 0
  · rw [if_pos he] at h; rw [he]; exact h.1
  · rw [if_neg he] at h; rw [hea he]; exact h
theorem CatchesP {v : Value} {s : StM} {c : Int} {z : Z} {w : World} (hs : StR z v s) : Fn1 30 #[v, .int .i64 c] z w fun _ r => r = .tuple #[(catchM s c).1.v, .int .i64 (catchM s c).2] := Fn1.intro fun hS => en30 (by
  unfold vc30
  obtain ⟨u, rfl, hu⟩ := hs
  obtain ⟨hb, a, cap, rfl, hcap, hel⟩ := hu.form
  refine iV_bx ?_
  intro b2 w2 hb2 hS2
  refine iV_al ?_
  intro b4 w4 hb4 hS4
  (repeat (refine iV_ldN ?_))
  refine V_bs (parts := [(0, _)]) rfl (by omega) ?_
  intro b3 w3 hb3 hS3
  obtain ⟨z4, hz4, hS5, hfr⟩ := Res.freezeSl (E := El.int) (B := [(b3, _)]) (f := fun x => [.int .i64 x]) (xs := [c]) (v := .slice (some ⟨b3, 0, none⟩) 1 1) (e := 3) hS3 ⟨rfl, .inr ⟨b3, 1, [], by rfl, rfl, by simp, by simp [maxLen], rfl⟩⟩ (by simp [big]) (fun _ => rfl) (fun _ _ _ => rfl)
  clear hS3 hS4 hS2
  refine CV_fn0 (fun hz => openP (conds := [c]) ⟨_, rfl, hu.mono hz⟩ hfr) ?_
  rintro z8 B8 w8 v8 hle8 hS8 hop
  by_cases he : openE s [c] = 0
  · rw [if_pos he] at hop
    obtain ⟨mb, rfl, hm⟩ := hop
    have hck : checkB s = true := by
      simp only [openE] at he
      cases hh : checkB s with
      | true => rfl
      | false => simp [hh] at he
    have hcc : 0 ≤ c ∧ c < 6 := by
      simp only [openE, hck, if_true, List.all_cons, List.all_nil, Bool.and_true] at he
      cases hcd : cond c with
      | false => simp [hcd] at he
      | true => simpa [cond] using hcd
    obtain ⟨pre, f, rfl, h6, hp4, hpre, hfd, hlast, hdl⟩ := lastSplit hck
    have hlen1 : (pre ++ [f]).length = pre.length + 1 := by simp
    simp only [catchM, he, hlast, hlen1, ne_eq, not_true_eq_false, if_false]
    obtain ⟨fb, tb, ps, sp, ts, cap, tcap, B2, w2', rfl, hx, hpo⟩ := hm.x h6
    obtain ⟨a2, cap2, rfl, hc2⟩ := hpo.form
    have hlen := hx.fr.len
    simp only [mxB, List.cons_append] at hS8
    (repeat (first | refine V_run ?_ | refine Cond_f ?_))
    refine CV_now (n := pre.length) (o := ps.length) hlen.symm (by simp only [big]; omega) ?_
    intro w9 hS9
    (repeat (first | refine V_run ?_ | (refine iU_st ?_; intro _ _)))
    rename_i hSe
    obtain ⟨q1, q2, q3, q4, q5⟩ := hx.sm
    have hx' : MachX z8 mb fb tb pre ps sp ts cap tcap { f with pend := [] } := ⟨hx.fr, hx.cap, hx.tcap, hx.six, q1, by simp, q3, by simp, q5⟩
    have hm' : Mach z8 _ mb (pre ++ [{ f with pend := [] }]) := hx'.mach (B2 := []) (v2 := .slice none 0 0) OwnSl.nil
    refine CV_fn (B := mxB mb fb tb (pre.length + 1) ps sp ts cap tcap { f with pend := [] } [] (.slice none 0 0)) (F := [(b4, _), (b2, _)]) (hSe.sublist ((((List.sublist_append_right B2 _).cons_cons _).cons_cons _).cons_cons _)) (raiseP (m := 0) hm' h6 hcc.1 hcc.2 (by omega) emptySm (by simp)) (by simp) ?_
    rintro z10 B10 w10 v10 hle10 hS10 hop
    rw [if_pos (by decide)] at hop
    obtain ⟨rfl, hm10⟩ := hop
    dsimp only [AcM.v, AcM.cells] at *
    (repeat (first | refine V_run ?_ | refine iV_ld1 ?_ | (refine iV_bx ?_; intro _ _ _ _) | (refine iU_st ?_; intro _ _)))
    refine Cond_nd (fun hkn => ?_) (fun hk0 => ?_)
    · (repeat (first | refine iV_ldN ?_ | (refine iU_st ?_; intro _ _) | refine iHV_N ?_))
      exact ⟨_, _, ‹_›, by rw [if_pos hkn]⟩
    · skip
      rename_i hSe2
      refine CV_fn (B := B10) (F := (_, _) :: [_, _]) (hSe2.perm List.perm_middle.symm) (endP (v1 := .int .i64 0) (v2 := .int .i64 0) (v3 := .string ⟨#[]⟩) (hm10.z (by first | exact Le.refl _ | assumption)) (raiseF_six h6) (by omega) (raiseF_pend rfl hcc.1 hcc.2)) (by simp) ?_
      rintro z11 B11 w11 v11 hle11 hS11 hop
      have hop' := OpR.r endM_err hop
      clear hop
      subst hop'
      dsimp only [AcM.v, AcM.cells] at *
      (repeat (first | refine V_run ?_ | (refine iU_st ?_; intro _ _) | refine iHV_N ?_))
      exact ⟨_, _, ‹_›, by
        rw [if_neg (by simpa using hk0)]⟩
  · rw [if_neg he] at hop
    obtain ⟨rfl, rfl⟩ := hop
    simp only [List.nil_append] at hS8
    (repeat (refine V_run ?_))
    refine Cond_nd (fun _ => ?_) (fun h => absurd h he)
    (repeat (first | refine V_run ?_ | (refine iU_st ?_; intro _ _) | refine iHV_N ?_))
    exact ⟨_, _, ‹_›, by rw [catchM, if_pos he]; rfl⟩)
end Go.Proofs.Ytjnckainogpenaa
end

section
/- What CONDITION tells. -/
set_option linter.unusedVariables false
set_option maxRecDepth 20000
set_option synthInstance.maxHeartbeats 400000
set_option synthInstance.maxSize 4000
namespace Go.Proofs.Ytjnckainogpenaa
open Go Q Go.RowKit

def wOff : ByteArray := ⟨#[79, 70, 70]⟩
def wOn : ByteArray := ⟨#[79, 78]⟩
def wDelay : ByteArray := ⟨#[68, 69, 76, 65, 89]⟩
def wSignal : ByteArray := ⟨#[83, 73, 71, 78, 65, 76]⟩
def wCall : ByteArray := ⟨#[67, 65, 76, 76]⟩
def stateM (t : TrM) : ByteArray := if t.mode = 0 then wOff else if t.delayed then wDelay else wOn
def tellM (f : FrM) (o : Int) : ByteArray :=
  if o = 67 then nameOf f.info.cond else if o = 68 then f.info.desc else if o = 73 then (if f.info.mode = 1 then wSignal else wCall) else stateM (f.tr f.info.cond)
def condM (s : StM) (o : Int) : ByteArray × Int :=
  if checkB s = false then (⟨#[]⟩, 2)
  else if ¬ (o = 67 ∨ o = 68 ∨ o = 73 ∨ o = 83) then (⟨#[]⟩, 1)
  else if (lastF s).info.mode = 0 then (⟨#[]⟩, 0)
  else (tellM (lastF s) o, 0)
theorem words {z : Z} {w : World} : Fn 105 #[] z [] w fun z' B' r => ∃ b, r = .slice (some ⟨b, 0, none⟩) 3 3 ∧ B' = [(b, .cells [.string wOff, .string wOn, .string wDelay].toArray 9 (0, 0))] := Fn.intro fun hS => en105 (by
  unfold vc105
  refine V_bs (parts := [(0, _), (1, _), (2, _)]) rfl (by omega) ?_
  intro b w1 hb hS1
  exact ⟨z, _, hS1, b, rfl, rfl⟩)
instance {t : TrM} : Pu 76 #[t.v] (.string (stateM t)) := ⟨fun z w => Fn1.intro fun hS => en76 (by
  unfold vc76
  dsimp only [TrM.v, TrM.cells]
  haveI : InR 0 (3 : Nat) := ⟨by decide, by decide⟩
  haveI : InR 1 (3 : Nat) := ⟨by decide, by decide⟩
  haveI : InR 2 (3 : Nat) := ⟨by decide, by decide⟩
  (repeat (first | refine V_run ?_ | refine iV_ld1 ?_ | (refine iV_bx ?_; intro _ _ _ _)))
  refine Cond_d (fun h => ?_) (fun h => ?_)
  · refine CV_fn0 (fun _ => words) ?_
    rintro z1 B1 w1 v1 hle1 hS1 ⟨b, rfl, rfl⟩
    simp only [List.cons_append, List.nil_append] at hS1
    (repeat (refine V_run ?_))
    rw [show Int.toNat 0 * 1 = 0 from rfl]
    (repeat (refine iV_ld1 ?_))
    exact ⟨_, _, ‹_›, by rw [stateM, if_pos h]⟩
  · (repeat (first | refine V_run ?_ | refine iV_ld1 ?_))
    refine Cond_b (fun h2 => ?_) (fun h2 => ?_)
    · refine CV_fn0 (fun _ => words) ?_
      rintro z1 B1 w1 v1 hle1 hS1 ⟨b, rfl, rfl⟩
      simp only [List.cons_append, List.nil_append] at hS1
      (repeat (refine V_run ?_))
      rw [show Int.toNat 2 * 1 = 2 from rfl]
      (repeat (refine iV_ld1 ?_))
      exact ⟨_, _, ‹_›, by rw [stateM, if_neg h, if_pos h2]⟩
    · refine CV_fn0 (fun _ => words) ?_
      rintro z1 B1 w1 v1 hle1 hS1 ⟨b, rfl, rfl⟩
      simp only [List.cons_append, List.nil_append] at hS1
      (repeat (refine V_run ?_))
      rw [show Int.toNat 1 * 1 = 1 from rfl]
      (repeat (refine iV_ld1 ?_))
      exact ⟨_, _, ‹_›, by rw [stateM, if_neg h, if_neg (by simp [h2])]⟩)⟩

/-- The closures of Condition, where the frame lies in the machine's own memory. -/
theorem CV_tell {w0 w : World} {z0 z : Z} {B0 L : Bl} {C C' C'' : Obj → Bl} {K : Value → World → Prop} [hS : Res w0 z0 B0 w z L] {f : FrM} {bb fb tb tcap : Nat} {ps sp ts : List Value} {v2 : Value} {k : Int} {fid : FuncId}
    [gb : Blk L bb (.cells [.pointer (some ⟨fb, ps.length, none⟩)].toArray 116 (0, 0)) C] [gf : Blk L fb (.cells (ps ++ (.slice (some ⟨tb, 0, none⟩) 6 tcap :: v2 :: .int .i64 f.info.cond :: .int .i64 f.info.mode :: .string f.info.desc :: sp)).toArray 63 (0, 0)) C'] [gt : Blk L tb (.cells (f.traps.flatMap TrM.cells ++ ts).toArray 73 (0, 0)) C'']
    (h6 : f.traps.length = 6) (hc : 0 ≤ f.info.cond ∧ f.info.cond < 6) (hmo : f.info.mode = 1 ∨ f.info.mode = 2) (hk : (k = 67 ∧ fid = 71) ∨ (k = 68 ∧ fid = 73) ∨ (k = 73 ∧ fid = 74) ∨ (k = 83 ∧ fid = 75))
    (hK : ∀ z' w' L', Le z z' → Res w0 z0 B0 w' z' L' → L.Sublist L' → K (.string (tellM f k)) w') : CV (.func (.func fid) #[] #[.pointer (some ⟨bb, 0, none⟩)]) #[] w K := by
  haveI : InR f.info.cond 6 := ⟨hc.1, hc.2⟩
  haveI : InR f.info.cond (6 : Nat) := ⟨hc.1, by have := hc.2; omega⟩
  rcases hk with ⟨rfl, rfl⟩ | ⟨rfl, rfl⟩ | ⟨rfl, rfl⟩ | ⟨rfl, rfl⟩
  · refine CV_enter (args' := #[.pointer (some ⟨bb, 0, none⟩)]) (by simp) (en71 ?_)
    unfold vc71
    (repeat (first | (refine iDr ?_; intro _ _) | refine PV_run ?_ | refine iHV_1 ?_ | refine iRI_1 ?_ | (refine CV_pu ?_; intro _ _ _ _)))
    exact hK _ _ _ ‹Le z _› ‹_› (List.Sublist.refl _)
  · refine CV_enter (args' := #[.pointer (some ⟨bb, 0, none⟩)]) (by simp) (en73 ?_)
    unfold vc73
    (repeat (first | refine V_run ?_ | refine iV_ld1 ?_))
    exact hK _ _ _ (Le.refl _) ‹_› (List.Sublist.refl _)
  · refine CV_enter (args' := #[.pointer (some ⟨bb, 0, none⟩)]) (by simp) (en74 ?_)
    unfold vc74
    refine iV_mm ?_
    intro b w1 hb hS1
    refine iU_mu (by simp) ?_
    intro w2 hS2
    refine iU_mu (by simp) ?_
    intro w3 hS3
    haveI : LkV ([] ++ [((1 : Int), Value.string wSignal)] ++ [((2 : Int), Value.string wCall)]) f.info.mode (.string ⟨#[]⟩) (.string (if f.info.mode = 1 then wSignal else wCall)) := ⟨by
      rcases hmo with h | h <;> rw [h] <;> rfl⟩
    (repeat (first | refine V_run ?_ | refine iV_ld1 ?_))
    refine iV_lkv (l := [] ++ [((1 : Int), Value.string wSignal)] ++ [((2 : Int), Value.string wCall)]) ?_
    exact hK _ _ _ (Le.refl _) hS3 (List.sublist_cons_self _ _)
  · refine CV_enter (args' := #[.pointer (some ⟨bb, 0, none⟩)]) (by simp) (en75 ?_)
    unfold vc75
    have gN := tgetN h6 hc.1 hc.2 ts
    (repeat (first | (refine iDr ?_; intro _ _) | refine PV_run ?_ | refine iHV_1 ?_ | refine iHV_N ?_ | refine iRI_1 ?_ | (refine CV_pu ?_; intro _ _ _ _)))
    exact hK _ _ _ ‹Le z _› ‹_› (List.Sublist.refl _)
abbrev tellsL (b : Nat) : List (Int × Value) := [] ++ [((67 : Int), Value.func (Fn.func 71) #[] #[.pointer (some ⟨b, 0, none⟩)])] ++ [((68 : Int), Value.func (Fn.func 73) #[] #[.pointer (some ⟨b, 0, none⟩)])] ++ [((73 : Int), Value.func (Fn.func 74) #[] #[.pointer (some ⟨b, 0, none⟩)])] ++ [((83 : Int), Value.func (Fn.func 75) #[] #[.pointer (some ⟨b, 0, none⟩)])]
theorem tells_no {b : Nat} {o : Int} (h : ¬ (o = 67 ∨ o = 68 ∨ o = 73 ∨ o = 83)) : lkF (tellsL b) o .nilFunc = (.nilFunc, false) := by
  have : ∀ a : Int, a ≠ o → (a == o) = false := fun a h => by simpa using h
  simp only [lkF, tellsL, List.nil_append, List.cons_append, List.find?, this 67 (by omega), this 68 (by omega), this 73 (by omega), this 83 (by omega)]
theorem tells_is {b : Nat} {o : Int} (h : o = 67 ∨ o = 68 ∨ o = 73 ∨ o = 83) : ∃ fid, lkF (tellsL b) o .nilFunc = (.func (.func fid) #[] #[.pointer (some ⟨b, 0, none⟩)], true) ∧ ((o = 67 ∧ fid = 71) ∨ (o = 68 ∧ fid = 73) ∨ (o = 73 ∧ fid = 74) ∨ (o = 83 ∧ fid = 75)) := by
  rcases h with rfl | rfl | rfl | rfl
  · exact ⟨_, rfl, .inl ⟨rfl, rfl⟩⟩
  · exact ⟨_, rfl, .inr (.inl ⟨rfl, rfl⟩)⟩
  · exact ⟨_, rfl, .inr (.inr (.inl ⟨rfl, rfl⟩))⟩
  · exact ⟨_, rfl, .inr (.inr (.inr ⟨rfl, rfl⟩))⟩
theorem ConditionP {v : Value} {s : StM} {o : Int} {z : Z} {w : World} (hs : StR z v s) : Fn1 34 #[v, .int .u8 o] z w fun _ r => r = .tuple #[.string (condM s o).1, .int .i64 (condM s o).2] := Fn1.intro fun hS => en34 (by
  unfold vc34
  obtain ⟨u, rfl, hu⟩ := hs
  obtain ⟨hb, a, cap, rfl, hcap, hel⟩ := hu.form
  refine iV_bx ?_
  intro b2 w2 hb2 hS2
  (repeat (refine iV_ldN ?_))
  refine CV_fn0 (fun hz => openP (conds := []) ⟨_, rfl, hu.mono hz⟩ SlR.nil) ?_
  rintro z8 B8 w8 v8 hle8 hS8 hop
  by_cases hck : checkB s = true
  · have he : openE s [] = 0 := by simp [openE, hck]
    rw [if_pos he] at hop
    obtain ⟨mb, rfl, hm⟩ := hop
    obtain ⟨pre, f, rfl, h6, hp4, hpre, hfd, hlast, hdl⟩ := lastSplit hck
    obtain ⟨fb, tb, ps, sp, ts, cap, tcap, B2, w2', rfl, hx, hpo⟩ := hm.x h6
    obtain ⟨a2, cap2, rfl, hc2⟩ := hpo.form
    have hlen := hx.fr.len
    simp only [mxB, List.cons_append] at hS8
    simp only [condM, hck, hlast, Bool.true_eq_false, if_false]
    (repeat (first | refine V_run ?_ | refine Cond_f ?_))
    refine CV_now (n := pre.length) (o := ps.length) hlen.symm (by simp only [big]; omega) ?_
    intro w9 hS9
    refine iV_al ?_
    intro b10 w10 hb10 hS10
    refine iU_st ?_
    intro w10' hS10'
    refine iV_mm ?_
    intro bm w11' hbm hS11'
    refine iU_mu (by simp) ?_
    intro w11 hS11
    refine iU_mu (by simp) ?_
    intro w12 hS12
    refine iU_mu (by simp) ?_
    intro w13 hS13
    refine iU_mu (by simp) ?_
    intro w14 hS14
    refine iV_lk (zv := .nilFunc) (ZeroV.h (e := 122)) ?_
    simp only [if_true]
    clear hS13 hS12 hS11 hS11' hS10' hS10 hS9 hS8
    by_cases ho : o = 67 ∨ o = 68 ∨ o = 73 ∨ o = 83
    · obtain ⟨fid, hf1, hf2⟩ := tells_is (b := b10) ho
      simp only [hf1, ho, not_true_eq_false, if_false]
      (repeat (first | refine V_run ?_ | refine iV_ld1 ?_ | refine Cond_f ?_))
      refine Cond_d (fun hm0 => ?_) (fun hm0 => ?_)
      · exact ⟨_, _, ‹_›, by rw [if_pos hm0]⟩
      · have hinf : infoB f.info = true := by
          simp only [framedB, Bool.and_eq_true] at hfd; exact hfd.2
        rw [infoB, if_neg hm0] at hinf
        simp only [Bool.and_eq_true, Bool.or_eq_true, decide_eq_true_eq, cond] at hinf
        refine CV_tell (f := f) (ps := ps) (sp := sp) (ts := ts) (tcap := tcap) (v2 := .slice a2 f.pend.length cap2) h6 hinf.1.2 hinf.1.1 hf2 ?_
        intro z15 w15 L15 hz15 hS15 hsub
        exact ⟨_, _, hS15, by rw [if_neg hm0]⟩
    · simp only [tells_no (b := b10) ho, ho, not_false_eq_true, if_true]
      (repeat (first | refine V_run ?_ | refine Cond_t ?_))
      exact ⟨_, _, ‹_›, by first | trivial | rfl⟩
  · have he : openE s [] = 2 := by simp [openE, hck]
    rw [if_neg (by rw [he]; decide)] at hop
    obtain ⟨rfl, rfl⟩ := hop
    simp only [List.nil_append] at hS8
    rw [he]
    (repeat (first | refine V_run ?_ | refine Cond_t ?_))
    exact ⟨_, _, ‹_›, by rw [condM, if_pos (by simpa using hck)]⟩)
end Go.Proofs.Ytjnckainogpenaa
end

section
/- Playing operations. -/
set_option linter.unusedVariables false
set_option maxRecDepth 20000
set_option synthInstance.maxHeartbeats 400000
set_option synthInstance.maxSize 4000
namespace Go.Proofs.Ytjnckainogpenaa
open Go Q Go.RowKit

def condsOf (o : OpM) : List Int := if o.kind = 1 ∨ o.kind = 2 then [o.cond] else []
def playStep (s : StM) (o : OpM) : StepM := if 1 ≤ o.kind ∧ o.kind ≤ 5 then doneM s o (condsOf o) else ⟨1, noAct, []⟩
def playFrom (s : StM) : List OpM → StM × List AcM × List Int
  | [] => (s, [], [])
  | o :: l =>
    let r := playFrom (if (playStep s o).e = 0 then (playStep s o).s else s) l
    (r.1, (playStep s o).a :: r.2.1, (playStep s o).e :: r.2.2)
/-- The result of Play, as values. -/
def PlayR (z : Z) (r : Value) (l : List OpM) : Prop :=
  if 1000 < l.length then ∃ v, r = .tuple #[v, .slice none 0 0, .slice none 0 0, .int .i64 3] ∧ StR z v []
  else ∃ v va ve, r = .tuple #[v, va, ve, .int .i64 0] ∧ StR z v (playFrom newM l).1 ∧ SlR El.act z va (playFrom newM l).2.1 ∧ SlR El.int z ve (playFrom newM l).2.2
theorem perm4 {a b c d : Nat × Obj} {B R : Bl} : (a :: b :: c :: d :: (B ++ R)).Perm (B ++ (a :: b :: c :: d :: R)) := by
  simpa using (List.perm_append_comm (l₁ := [a, b, c, d]) (l₂ := B)).append_right R
theorem perm5 {a : Nat × Obj} {A B R : Bl} : (a :: (A ++ (B ++ R))).Perm (B ++ (a :: (A ++ R))) := by
  rw [show a :: (A ++ (B ++ R)) = ((a :: A) ++ B) ++ R by simp, show B ++ (a :: (A ++ R)) = (B ++ (a :: A)) ++ R by simp]
  exact List.perm_append_comm.append_right R
theorem perm6 {A B R : Bl} : (B ++ (A ++ R)).Perm (A ++ (B ++ R)) := by
  rw [← List.append_assoc, ← List.append_assoc]
  exact List.perm_append_comm.append_right R
theorem PlayP {v : Value} {l : List OpM} {z : Z} {w : World} (hl : SlR El.op z v l) : Fn1 13 #[v] z w fun z' r => PlayR z' r l := Fn1.intro fun hS => en13 (by
  unfold vc13
  obtain ⟨hb, a, cap, rfl, hcap, hel⟩ := hl.form
  refine iV_al ?_
  intro b2 w2 hb2 hS2
  (repeat (refine V_run ?_))
  refine Cond_d (fun hlen => ?_) (fun hlen => ?_)
  · (repeat (first | refine V_run ?_ | (refine iU_st ?_; intro _ _) | refine iHV_N ?_))
    exact ⟨_, _, ‹_›, by rw [PlayR, if_pos (by omega)]; exact ⟨_, rfl, _, rfl, SlR.nil⟩⟩
  have hlen' : ¬ 1000 < l.length := by omega
  simp only [PlayR, hlen', if_false]
  refine CV_1 NewP ?_
  rintro z3 w3 v3 hle3 hS3 ⟨u3, rfl, hu3⟩
  obtain ⟨_, a3, cap3, rfl, _, _⟩ := hu3.form
  refine iV_al ?_
  intro b6 w6 hb6 hS6
  (repeat (first | refine V_run ?_ | (refine iU_st ?_; intro _ _)))
  rename_i hS7
  refine LoopG3 (fun (g : Nat × StM × List AcM × List Int) x y u w' => u = .int .i64 g.1 ∧ g.1 ≤ l.length ∧ playFrom newM l = ((playFrom g.2.1 (l.drop g.1)).1, g.2.2.1 ++ (playFrom g.2.1 (l.drop g.1)).2.1, g.2.2.2 ++ (playFrom g.2.1 (l.drop g.1)).2.2) ∧ g.2.2.1.length = g.1 ∧ g.2.2.2.length = g.1 ∧
    ∃ z' Ba Be a6 n6 cap6, SlR El.frame z' (.slice a6 n6 cap6) g.2.1 ∧ OwnSl 39 4 Ba x g.1 (g.2.2.1.flatMap AcM.cells) ∧ OwnSl 31 1 Be y g.1 (g.2.2.2.flatMap fun e => [.int .i64 e]) ∧ Res w z [] w' z' (Ba ++ (Be ++ [(b6, .cells [.slice a6 n6 cap6].toArray 28 (0, 0)), (b2, .cells [.slice none 0 0].toArray 28 (0, 0))]))) (fun g => l.length - g.1) (0, newM, [], []) ⟨rfl, by simp, rfl, rfl, rfl, z3, [], [], _, _, _, hu3, OwnSl.nil, OwnSl.nil, hS7⟩ ?_
  rintro I M ⟨i, s, A, E⟩ x y u w8 m ⟨rfl, h1, h2, hA, hE, z8, Ba, Be, a6, n6, cap6, hs8, hoa, hoe, hS8⟩ back
  simp only at h1 h2 hA hE hs8 hoa hoe hS8 back
  (repeat (refine V_run ?_))
  refine Cond_d (fun hh => ?_) (fun hh => ?_)
  · have hlt : i < l.length := by omega
    obtain ⟨b, off, cs, rfl, ⟨rfl, hr⟩, hat⟩ := hel i _ (List.getElem?_eq_getElem hlt)
    haveI : InR (i : Int) l.length := ⟨by omega, by omega⟩
    haveI : InI ((i : Int) + 1) := ⟨by omega⟩
    haveI : Fz z b (off + (i : Int).toNat * 4) l[i].cells := ⟨by rw [Int.toNat_natCast]; exact hat⟩
    rw [List.drop_eq_getElem_cons hlt] at h2
    simp only [playFrom] at h2
    generalize l[i] = o at *
    dsimp only [OpM.cells] at *
    refine V_run ?_
    refine fV_ldN ?_
    refine iV_al ?_
    intro b10 w10 hb10 hS10
    refine iU_st ?_
    intro w10' hS10'
    refine V_run ?_
    refine V_run ?_
    refine iV_al ?_
    intro b11 w11 hb11 hS11
    refine iV_al ?_
    intro b12 w12 hb12 hS12
    refine iU_st ?_
    intro w13 hS13
    refine iU_st ?_
    intro w14 hS14
    clear hS13 hS12 hS11 hS10' hS10 hS8
    refine J1cut (fun x w' => ∃ a11 n11 cap11 z', x = .int .i64 (playStep s o).e ∧ SlR El.frame z' (.slice a11 n11 cap11) (playStep s o).s ∧ Le z8 z' ∧ Res w z [] w' z' ((b12, .cells (playStep s o).a.cells.toArray 39 (0, 0)) :: (b11, .cells [.slice a11 n11 cap11].toArray 28 (0, 0)) :: (b10, .cells [.int .i64 o.kind, .int .i64 o.cond, .int .i64 o.mode, .string o.text].toArray 25 (0, 0)) :: (Ba ++ (Be ++ [(b6, .cells [.slice a6 n6 cap6].toArray 28 (0, 0)), (b2, .cells [.slice none 0 0].toArray 28 (0, 0))])))) ?_ ?_
    rotate_left
    · intro KJ hJ
      (repeat (first | (refine iDr ?_; intro _ _) | refine PV_run ?_ | refine iHV_1 ?_))
      refine CV_fn0 (fun _ => operations) ?_
      rintro z15 B15 w15 v15 hle15 hS15 ⟨bm, rfl, rfl⟩
      simp only [List.cons_append, List.nil_append] at hS15
      (repeat (refine iRI_1 ?_))
      refine iHV_lk (zv := .nilFunc) (ZeroV.h (e := 98)) ?_
      simp only [if_true]
      by_cases hk : 1 ≤ o.kind ∧ o.kind ≤ 5
      · simp only [ops_lk, if_pos hk]
        have hps : playStep s o = doneM s o (condsOf o) := by rw [playStep, if_pos hk]
        (repeat (first | refine V_run ?_ | refine PV_run ?_ | refine iV_ld1 ?_ | refine Cond_t ?_ | (refine JC ?_; intro _ _ _ _) | (refine J1 ?_; intro _ _)))
        have hle16 := hle15.trans ‹Le z15 _›
        refine Cond_b (fun h12 => ?_) (fun h12 => ?_)
        · have h12' : o.kind = 1 ∨ o.kind = 2 := by
            simp only [cond_eq_ite] at h12
            by_cases e : o.kind = 1 <;> simp [e] at h12 ⊢
            exact h12
          (repeat (first | refine V_run ?_ | refine iV_ld1 ?_))
          refine V_bs (parts := [(0, _)]) rfl (by omega) ?_
          intro b19 w19 hb19 hS19
          refine V_app (B := []) (m := 1) (n := 0) (xs := []) (news := [.int .i64 o.cond]) hS19 OwnSl.nil ⟨_, _, _, (hS19.mem _ List.mem_cons_self).1, fun j v hv => by simpa using hv⟩ rfl (fun u hu => by simp at hu; subst hu; rfl) (by omega) (by simp [room]) (by simp [room]) ?_
          intro B20 v20 w20 ho20 hS20
          obtain ⟨z20, hz20, hS20', hv20⟩ := Res.freezeSl (E := El.int) (f := fun x => [.int .i64 x]) (xs := [o.cond]) hS20 ho20 (by simp [big]) (fun _ => rfl) (fun _ _ _ => rfl)
          clear hS20 hS19
          have hcs : SlR El.int z20 v20 (condsOf o) := by rw [condsOf, if_pos h12']; exact hv20
          have hle20 := hle16.trans hz20
          (repeat (first | refine iV_ldN ?_ | refine K1 ?_))
          refine CV_1 (doneP (o := o) (conds := condsOf o) ⟨_, rfl, hs8.mono hle20⟩ hcs hk (fun h => by rw [condsOf, if_pos h]) hr) ?_
          rintro z21 w21 v21 hle21 hS21 ⟨v', rfl, hv'⟩
          rw [← hps] at hv'
          obtain ⟨u', rfl, hu'⟩ := hv'
          obtain ⟨_, a', cap', rfl, _, _⟩ := hu'.form
          dsimp only [AcM.v] at *
          (repeat (first | refine V_run ?_ | (refine iU_st ?_; intro _ _) | refine K1 ?_))
          rename_i hSe
          rw [← hps] at hSe
          exact ⟨_, _, _, z21, by rw [hps], hu', (hle20).trans hle21, hSe.tl.tl⟩
        · have h12' : ¬ (o.kind = 1 ∨ o.kind = 2) := by
            simp only [cond_eq_ite] at h12
            by_cases e : o.kind = 1 <;> simp [e] at h12 ⊢
            exact h12
          (repeat (first | refine iV_ldN ?_ | refine K1 ?_))
          refine CV_1 (doneP (o := o) (conds := condsOf o) ⟨_, rfl, hs8.mono hle16⟩ (by rw [condsOf, if_neg h12']; exact SlR.nil) hk (fun h => by rw [condsOf, if_pos h]) hr) ?_
          rintro z21 w21 v21 hle21 hS21 ⟨v', rfl, hv'⟩
          rw [← hps] at hv'
          obtain ⟨u', rfl, hu'⟩ := hv'
          obtain ⟨_, a', cap', rfl, _, _⟩ := hu'.form
          dsimp only [AcM.v] at *
          (repeat (first | refine V_run ?_ | (refine iU_st ?_; intro _ _) | refine K1 ?_))
          rename_i hSe
          rw [← hps] at hSe
          exact ⟨_, _, _, z21, by rw [hps], hu', (hle16).trans hle21, hSe.tl⟩
      · simp only [ops_lk, if_neg hk]
        have hps : playStep s o = ⟨1, noAct, []⟩ := by rw [playStep, if_neg hk]
        rw [hps] at hJ
        (repeat (first | refine PV_run ?_ | refine Cond_f ?_ | refine K1 ?_))
        exact ⟨none, 0, 0, z15, rfl, SlR.nil, hle15, hS15.tl⟩
    · rintro _ w16 ⟨a11, n11, cap11, z16, rfl, hs16, hle16, hS16⟩
      dsimp only [AcM.cells] at hS16
      generalize playStep s o = st at *
      refine J0cut (fun w' => ∃ z' a7 n7 cap7, SlR El.frame z' (.slice a7 n7 cap7) (if st.e = 0 then st.s else s) ∧ Res w z [] w' z' ((b12, .cells [.int .i64 st.a.kind, .string st.a.label, .int .i64 st.a.cond, .string st.a.desc].toArray 39 (0, 0)) :: (b11, .cells [.slice a11 n11 cap11].toArray 28 (0, 0)) :: (b10, .cells [.int .i64 o.kind, .int .i64 o.cond, .int .i64 o.mode, .string o.text].toArray 25 (0, 0)) :: (Ba ++ (Be ++ [(b6, .cells [.slice a7 n7 cap7].toArray 28 (0, 0)), (b2, .cells [.slice none 0 0].toArray 28 (0, 0))])))) ?_ ?_
      rotate_left
      · intro KJ hJ
        (repeat (refine V_run ?_))
        refine Cond_d (fun he => ?_) (fun he => ?_)
        · (repeat (first | refine iV_ldN ?_ | (refine iU_st ?_; intro _ _) | refine K0 ?_))
          exact ⟨z16, _, _, _, by rw [if_pos he]; exact hs16, ‹_›⟩
        · (repeat (refine K0 ?_))
          exact ⟨z16, _, _, _, by rw [if_neg he]; exact hs8.mono hle16, ‹_›⟩
      · rintro w17 ⟨z17, a7, n7, cap7, hs17, hS17⟩
        clear hS16
        (repeat (refine iV_ldN ?_))
        refine V_bs (parts := [(0, _)]) rfl (by omega) ?_
        intro b30 w30 hb30 hS30
        refine V_app (B := Ba) (m := 1) (n := i) (xs := A.flatMap AcM.cells) (news := st.a.cells) (hS30.perm perm4) hoa ⟨_, _, _, (hS30.mem _ List.mem_cons_self).1, fun j v hv => by simpa using hv⟩ rfl (fun u hu => by simp at hu; rcases hu with rfl | rfl | rfl | rfl <;> rfl) (by omega) (by simp only [room]; omega) (by simp only [room]; omega) ?_
        intro Ba' va' w31 hoa' hS31
        have hS32 := hS31.sublist (L' := Ba' ++ (Be ++ [_, _])) ((List.Sublist.refl _).append ((((List.sublist_cons_self _ _).trans (List.sublist_cons_self _ _)).trans (List.sublist_cons_self _ _)).trans (List.sublist_cons_self _ _)))
        clear hS30 hS31
        refine V_bs (parts := [(0, _)]) rfl (by omega) ?_
        intro b33 w33 hb33 hS33
        refine V_app (B := Be) (m := 1) (n := i) (xs := E.flatMap fun e => [.int .i64 e]) (news := [.int .i64 st.e]) (hS33.perm perm5) hoe ⟨_, _, _, (hS33.mem _ List.mem_cons_self).1, fun j v hv => by simpa using hv⟩ rfl (fun u hu => by simp at hu; subst hu; rfl) (by omega) (by simp only [room]; omega) (by simp only [room]; omega) ?_
        intro Be' ve' w34 hoe' hS34
        have hS35 := (hS34.sublist (L' := Be' ++ (Ba' ++ [_, _])) ((List.Sublist.refl _).append (List.sublist_cons_self _ _))).perm perm6
        (repeat (refine V_run ?_))
        refine back (i + 1, (if st.e = 0 then st.s else s), A ++ [st.a], E ++ [st.e]) _ _ _ _ ⟨by simp, by simp; omega, ?_, by simp [hA], by simp [hE], z17, Ba', Be', a7, n7, cap7, hs17, ?_, ?_, hS35⟩ (by simp; omega)
        · rw [h2]; simp
        · simpa using hoa'
        · simpa using hoe'
  · have h0 : l.drop i = [] := List.drop_of_length_le (by omega)
    rw [h0] at h2
    simp only [playFrom, List.append_nil] at h2
    obtain ⟨aa, capa, rfl, hca⟩ := hoa.form
    obtain ⟨ae, cape, rfl, hce⟩ := hoe.form
    (repeat (first | refine iV_ldN ?_ | (refine iU_st ?_; intro _ _) | refine iHV_N ?_))
    rename_i hSe
    rw [← hA] at hoa
    obtain ⟨z9, hz9, hS9, hva⟩ := Res.freezeSl (E := El.act) hSe hoa (by simp only [big]; omega) (fun _ => rfl) (fun _ _ _ => rfl)
    have hoe' : OwnSl 31 El.int.size Be (.slice ae i cape) E.length (E.flatMap fun e => [.int .i64 e]) := by rw [hE]; exact hoe
    obtain ⟨z10, hz10, hS10, hve⟩ := Res.freezeSl (E := El.int) hS9 hoe' (by simp only [big]; omega) (fun _ => rfl) (fun _ _ _ => rfl)
    refine ⟨z10, _, hS10, _, _, _, rfl, ?_, ?_, ?_⟩
    · rw [h2]; exact ⟨_, rfl, hs8.mono (hz9.trans hz10)⟩
    · rw [h2, ← hA]; exact hva.mono hz10
    · rw [h2]; exact hve)
end Go.Proofs.Ytjnckainogpenaa
end

section
/- The law's own small functions. -/
set_option linter.unusedVariables false
set_option maxRecDepth 20000
set_option synthInstance.maxHeartbeats 400000
set_option synthInstance.maxSize 4000
namespace Go.Proofs.Ytjnckainogpenaa
open Go Q Go.RowKit

instance {c m : Int} {t : ByteArray} : Pu 46 #[.int .i64 c, .int .i64 m, .string t] (setO c m t).v := ⟨fun z w => Fn1.intro fun hS => en46 (by
  unfold vc46
  (repeat (first | refine V_run ?_ | (refine iV_bx ?_; intro _ _ _ _) | (refine iU_st ?_; intro _ _) | refine iHV_N ?_))
  exact ⟨_, _, ‹_›, rfl⟩)⟩
instance {c : Int} {t : ByteArray} : Pu 47 #[.int .i64 c, .string t] (raiseO c t).v := ⟨fun z w => Fn1.intro fun hS => en47 (by
  unfold vc47
  (repeat (first | refine V_run ?_ | (refine iV_bx ?_; intro _ _ _ _) | (refine iU_st ?_; intro _ _) | refine iHV_N ?_))
  exact ⟨_, _, ‹_›, rfl⟩)⟩
instance : Pu 48 #[] endO.v := ⟨fun z w => Fn1.intro fun hS => en48 (by
  unfold vc48
  (repeat (first | refine V_run ?_ | (refine iV_bx ?_; intro _ _ _ _) | (refine iU_st ?_; intro _ _) | refine iHV_N ?_))
  exact ⟨_, _, ‹_›, rfl⟩)⟩
instance : Pu 49 #[] backO.v := ⟨fun z w => Fn1.intro fun hS => en49 (by
  unfold vc49
  (repeat (first | refine V_run ?_ | (refine iV_bx ?_; intro _ _ _ _) | (refine iU_st ?_; intro _ _) | refine iHV_N ?_))
  exact ⟨_, _, ‹_›, rfl⟩)⟩
def kindEq (a : AcM) (k : Int) : Bool := decide (a.kind = k)
def kindsFrom : List AcM → List Int → Bool
  | [], [] => true
  | a :: l, k :: m => decide (a.kind = k) && kindsFrom l m
  | _, _ => false
theorem kindsFrom_len : ∀ {l : List AcM} {m : List Int}, kindsFrom l m = true → l.length = m.length
  | [], [], _ => rfl
  | a :: l, k :: m, h => by
    simp only [kindsFrom, Bool.and_eq_true] at h
    simp [kindsFrom_len h.2]
  | [], _ :: _, h => by simp [kindsFrom] at h
  | _ :: _, [], h => by simp [kindsFrom] at h
theorem kindsP {v v' : Value} {l : List OpM} {want : List Int} {z : Z} {w : World} (hl : SlR El.op z v l) (hw : SlR El.int z v' want) (h1000 : l.length ≤ 1000) : Fn1 45 #[v, v'] z w fun _ r => r = .bool (kindsFrom (playFrom newM l).2.1 want) := Fn1.intro fun hS => en45 (by
  unfold vc45
  refine CV_1 (PlayP hl) ?_
  rintro z1 w1 r hle1 hS1 hp
  rw [PlayR, if_neg (by omega)] at hp
  obtain ⟨sv, va, ve, rfl, ⟨u, rfl, hu⟩, hva, hve⟩ := hp
  generalize (playFrom newM l).2.1 = A at *
  obtain ⟨_, a0, cap0, rfl, _, _⟩ := hu.form
  obtain ⟨hb, a, cap, rfl, hcap, hel⟩ := hva.form
  obtain ⟨hb', a', cap', rfl, hcap', hel'⟩ := hw.form
  obtain ⟨_, a3, cap3, rfl, _, _⟩ := hve.form
  (repeat (first | refine V_run ?_ | (refine iV_bx ?_; intro _ _ _ _) | (refine iU_st ?_; intro _ _) | refine JB ?_))
  refine Cond_nd (fun h => ?_) (fun h => ?_)
  · refine ⟨_, _, ‹_›, ?_⟩
    cases hk : kindsFrom A want with
    | false => rfl
    | true => exact absurd (by rw [kindsFrom_len hk]) h
  · have hlen : A.length = want.length := by omega
    rename_i hSe
    refine LoopG1 (fun (i : Nat) x w' => x = .int .i64 i ∧ i ≤ A.length ∧ kindsFrom A want = kindsFrom (A.drop i) (want.drop i) ∧ ∃ z' L', Le z1 z' ∧ Res w z [] w' z' L') (fun i => A.length - i) 0 ⟨rfl, by omega, rfl, z1, _, Le.refl _, hSe⟩ ?_
    rintro I M i x w2 m ⟨rfl, h1, h2, z2, L2, hz2, hS2⟩ back
    (repeat (refine V_run ?_))
    refine Cond_d (fun hh => ?_) (fun hh => ?_)
    · have hlt : i < A.length := by omega
      have hlt' : i < want.length := by omega
      obtain ⟨b, off, cs, rfl, rfl, hat⟩ := hel i _ (List.getElem?_eq_getElem hlt)
      obtain ⟨b', off', cs', rfl, rfl, hat'⟩ := hel' i _ (List.getElem?_eq_getElem hlt')
      haveI : InR (i : Int) A.length := ⟨by omega, by omega⟩
      haveI : InR (i : Int) want.length := ⟨by omega, by omega⟩
      haveI : InI ((i : Int) + 1) := ⟨by simp only [big] at hb; omega⟩
      haveI : Fz z b' (off' + (i : Int).toNat * 1) [.int .i64 want[i]] := ⟨by rw [Int.toNat_natCast]; exact hat'⟩
      rw [List.drop_eq_getElem_cons hlt, List.drop_eq_getElem_cons hlt'] at h2
      simp only [kindsFrom] at h2
      (repeat (first | (refine iDr ?_; intro _ _) | refine PV_run ?_))
      refine zHV_ld1 (v := .int .i64 A[i].kind) (At.head (by rw [Int.toNat_natCast]; exact hat.mono hz2)) ?_
      (repeat (first | refine PV_run ?_ | refine fHV_ld1 ?_))
      refine Cond_nd (fun h' => ?_) (fun h' => ?_)
      · exact ⟨_, _, ‹_›, by rw [h2, decide_eq_false h']; rfl⟩
      · (repeat (refine V_run ?_))
        exact back (i + 1) _ _ ⟨by simp, by omega, by rw [h2, decide_eq_true h']; rfl, _, _, hz2, ‹_›⟩ (by omega)
    · exact ⟨_, _, ‹_›, by rw [h2, List.drop_of_length_le (by omega), List.drop_of_length_le (by omega)]; rfl⟩)
end Go.Proofs.Ytjnckainogpenaa
end

section
/- The non-vacuity check. -/
set_option linter.unusedVariables false
set_option maxRecDepth 20000
set_option synthInstance.maxHeartbeats 400000
set_option synthInstance.maxSize 4000
namespace Go.Proofs.Ytjnckainogpenaa
open Go Q Go.RowKit

def ex1 : List OpM := [setO 5 1 ⟨#[]⟩, raiseO 5 ⟨#[52, 49]⟩, raiseO 5 ⟨#[52, 50]⟩]
def ex2 : List OpM := [setO 0 2 ⟨#[79, 79, 80, 83]⟩, raiseO 0 ⟨#[108, 115]⟩, endO, raiseO 0 ⟨#[114, 109]⟩, endO, backO, raiseO 0 ⟨#[99, 112]⟩, endO]
def ex3 : List OpM := [setO 0 1 ⟨#[]⟩, raiseO 1 ⟨#[120]⟩, endO]
def ex4 : List OpM := [setO 4 2 ⟨#[]⟩, raiseO 4 ⟨#[102]⟩, raiseO 4 ⟨#[103]⟩, endO, endO]
def ex5 : List OpM := [raiseO 2 ⟨#[]⟩]
theorem k1 : kindsFrom (playFrom newM ex1).2.1 [0, 1, 3] = true := by decide +kernel
theorem k2 : kindsFrom (playFrom newM ex2).2.1 [0, 0, 2, 0, 0, 0, 0, 2] = true := by decide +kernel
theorem k3a : (playFrom newM ex3).2.1.length = 3 := by decide +kernel
theorem k3d : ((playFrom newM ex3).2.1[2]?).map (fun a => (a.kind, a.label)) = some (1, nameOf 0) := by decide +kernel
theorem k4 : kindsFrom (playFrom newM ex4).2.1 [0, 0, 0, 2, 0] = true := by decide +kernel
theorem k5 : kindsFrom (playFrom newM ex5).2.1 [3] = true := by decide +kernel
theorem k3b : condM (playFrom newM ex3).1 67 = (nameOf 0, 0) := by decide +kernel
theorem k3c : condM (playFrom newM ex3).1 83 = (wOff, 0) := by decide +kernel
theorem smOps : ∀ o ∈ ex1 ++ (ex2 ++ (ex3 ++ (ex4 ++ ex5))), o.text.size ≤ big := by
  have : (ex1 ++ (ex2 ++ (ex3 ++ (ex4 ++ ex5)))).all (fun o => decide (o.text.size ≤ 100)) = true := by decide +kernel
  intro o ho
  have := List.all_eq_true.1 this o ho
  simp only [decide_eq_true_eq] at this
  simp only [big]; omega
theorem sane {z : Z} {w : World} : Fn1 12 #[] z w fun _ r => r = .bool true := Fn1.intro fun hS => en12 (by
  unfold vc12
  (repeat (refine CV_pu ?_; intro _ _ _ _))
  refine V_bs (parts := [(0, _), (1, _), (2, _)]) rfl (by omega) ?_
  intro bo1 wo1 hbo1 hSo1
  refine V_bs (parts := [(0, _), (1, _), (2, _)]) rfl (by omega) ?_
  intro bw1 ww1 hbw1 hSw1
  obtain ⟨zw1, hzw1, hSw1', hlw1⟩ := Res.freezeSl (E := El.int) (B := [(bw1, _)]) (f := fun x => [.int .i64 x]) (xs := [0, 1, 3]) (v := .slice (some ⟨bw1, 0, none⟩) 3 3) (e := 3) hSw1 ⟨rfl, .inr ⟨bw1, 3, [], rfl, rfl, by decide, by simp [maxLen], rfl⟩⟩ (by simp [big]) (fun _ => rfl) (fun _ _ _ => rfl)
  obtain ⟨zo1, hzo1, hSo1', hlo1⟩ := Res.freezeSl (E := El.op) (B := [(bo1, _)]) (f := OpM.cells) (xs := ex1) (v := .slice (some ⟨bo1, 0, none⟩) 3 3) (e := 25) hSw1' ⟨rfl, .inr ⟨bo1, 3, [], rfl, rfl, by decide, by simp [maxLen], rfl⟩⟩ (by simp [big, ex1]) (fun _ => rfl) (fun _ x hx => ⟨rfl, smOps x (by simp only [List.mem_append]; simp [hx])⟩)
  clear hSw1 hSo1 hSw1'
  refine CV_1 (kindsP hlo1 (hlw1.mono hzo1) (by decide)) ?_
  rintro zk1 wk1 _ hlek1 hSk1 rfl
  rw [k1]
  clear hSo1'
  (repeat (refine CV_pu ?_; intro _ _ _ _))
  refine V_bs (parts := [(0, _), (1, _), (2, _), (3, _), (4, _), (5, _), (6, _), (7, _)]) rfl (by omega) ?_
  intro bo2 wo2 hbo2 hSo2
  refine V_bs (parts := [(0, _), (1, _), (2, _), (3, _), (4, _), (5, _), (6, _), (7, _)]) rfl (by omega) ?_
  intro bw2 ww2 hbw2 hSw2
  obtain ⟨zw2, hzw2, hSw2', hlw2⟩ := Res.freezeSl (E := El.int) (B := [(bw2, _)]) (f := fun x => [.int .i64 x]) (xs := [0, 0, 2, 0, 0, 0, 0, 2]) (v := .slice (some ⟨bw2, 0, none⟩) 8 8) (e := 3) hSw2 ⟨rfl, .inr ⟨bw2, 8, [], rfl, rfl, by decide, by simp [maxLen], rfl⟩⟩ (by simp [big]) (fun _ => rfl) (fun _ _ _ => rfl)
  obtain ⟨zo2, hzo2, hSo2', hlo2⟩ := Res.freezeSl (E := El.op) (B := [(bo2, _)]) (f := OpM.cells) (xs := ex2) (v := .slice (some ⟨bo2, 0, none⟩) 8 8) (e := 25) hSw2' ⟨rfl, .inr ⟨bo2, 8, [], rfl, rfl, by decide, by simp [maxLen], rfl⟩⟩ (by simp [big, ex2]) (fun _ => rfl) (fun _ x hx => ⟨rfl, smOps x (by simp only [List.mem_append]; simp [hx])⟩)
  clear hSw2 hSo2 hSw2'
  refine CV_1 (kindsP hlo2 (hlw2.mono hzo2) (by decide)) ?_
  rintro zk2 wk2 _ hlek2 hSk2 rfl
  rw [k2]
  clear hSo2'
  (repeat (refine CV_pu ?_; intro _ _ _ _))
  refine V_bs (parts := [(0, _), (1, _), (2, _)]) rfl (by omega) ?_
  intro bo3 wo3 hbo3 hSo3
  obtain ⟨zo3, hzo3, hSo3', hlo3⟩ := Res.freezeSl (E := El.op) (B := [(bo3, _)]) (f := OpM.cells) (xs := ex3) (v := .slice (some ⟨bo3, 0, none⟩) 3 3) (e := 25) hSo3 ⟨rfl, .inr ⟨bo3, 3, [], rfl, rfl, by decide, by simp [maxLen], rfl⟩⟩ (by simp [big, ex3]) (fun _ => rfl) (fun _ x hx => ⟨rfl, smOps x (by simp only [List.mem_append]; simp [hx])⟩)
  clear hSo3
  refine CV_1 (PlayP hlo3) ?_
  rintro zp wp r hlep hSp hp
  rw [PlayR, if_neg (by decide)] at hp
  obtain ⟨sv, va, ve, rfl, ⟨u, rfl, hu⟩, hva, hve⟩ := hp
  have q1 := k3b
  have q2 := k3c
  have q3 := k3a
  have q4 := k3d
  generalize (playFrom newM ex3).1 = S at *
  generalize (playFrom newM ex3).2.1 = A at *
  obtain ⟨_, a0, cap0, rfl, _, _⟩ := hu.form
  obtain ⟨hb, a, cap, rfl, hcap, hel⟩ := hva.form
  obtain ⟨_, a3, cap3, rfl, _, _⟩ := hve.form
  rw [q3] at *
  clear hSo3'
  (repeat (first | refine V_run ?_ | refine iV_ldN ?_ | (refine iV_bx ?_; intro _ _ _ _) | (refine iU_st ?_; intro _ _)))
  refine CV_1 (ConditionP (s := S) ⟨_, rfl, hu⟩) ?_
  rintro zc wc _ hlec hSc rfl
  rw [q1]
  (repeat (first | refine V_run ?_ | refine iV_ldN ?_))
  refine CV_1 (ConditionP (s := S) ⟨_, rfl, hu.mono hlec⟩) ?_
  rintro zd wd _ hled hSd rfl
  rw [q2]
  have hx2 : ∃ x2, A[2]? = some x2 ∧ x2.kind = 1 ∧ x2.label = nameOf 0 := by
    cases hA2 : A[2]? with
    | none => rw [hA2] at q4; cases q4
    | some x => rw [hA2] at q4; simp only [Option.map_some, Option.some.injEq, Prod.mk.injEq] at q4; exact ⟨x, rfl, q4.1, q4.2⟩
  obtain ⟨x2, hx2, hk2, hl2⟩ := hx2
  obtain ⟨bA, offA, cs, rfl, rfl, hat⟩ := hel 2 x2 hx2
  haveI : InR 2 (3 : Nat) := ⟨by decide, by decide⟩
  (repeat (first | refine V_run ?_ | refine Cond_t ?_ | refine JB ?_ | (refine J1 ?_; intro _ _)))
  have hatd := hat.mono (hlec.trans hled)
  refine zV_ld1 (v := .int .i64 x2.kind) (At.head hatd) ?_
  rw [hk2]
  (repeat (first | refine V_run ?_ | refine Cond_t ?_ | (refine J1 ?_; intro _ _) | refine K1 ?_))
  have hat1 : At zd bA (offA + (2 * 4 + 1)) [.string x2.label] := by
    obtain ⟨cc, cty, cfr, g1, g2⟩ := hatd
    refine ⟨cc, cty, cfr, g1, fun j v hv => ?_⟩
    have := g2 (j + 1) v (by cases j with
      | zero => simpa using hv
      | succ j => simp at hv)
    rw [← this]
    congr 1
    show offA + (2 * 4 + 1) + j = offA + 2 * 4 + (j + 1)
    omega
  refine zV_ld1 (v := .string x2.label) hat1 ?_
  rw [hl2]
  (repeat (first | refine V_run ?_ | refine JB ?_ | refine K1 ?_ | (refine CV_pu ?_; intro _ _ _ _)))
  refine V_bs (parts := [(0, _), (1, _), (2, _), (3, _), (4, _)]) rfl (by omega) ?_
  intro bo4 wo4 hbo4 hSo4
  refine V_bs (parts := [(0, _), (1, _), (2, _), (3, _), (4, _)]) rfl (by omega) ?_
  intro bw4 ww4 hbw4 hSw4
  obtain ⟨zw4, hzw4, hSw4', hlw4⟩ := Res.freezeSl (E := El.int) (B := [(bw4, _)]) (f := fun x => [.int .i64 x]) (xs := [0, 0, 0, 2, 0]) (v := .slice (some ⟨bw4, 0, none⟩) 5 5) (e := 3) hSw4 ⟨rfl, .inr ⟨bw4, 5, [], rfl, rfl, by decide, by simp [maxLen], rfl⟩⟩ (by simp [big]) (fun _ => rfl) (fun _ _ _ => rfl)
  obtain ⟨zo4, hzo4, hSo4', hlo4⟩ := Res.freezeSl (E := El.op) (B := [(bo4, _)]) (f := OpM.cells) (xs := ex4) (v := .slice (some ⟨bo4, 0, none⟩) 5 5) (e := 25) hSw4' ⟨rfl, .inr ⟨bo4, 5, [], rfl, rfl, by decide, by simp [maxLen], rfl⟩⟩ (by simp [big, ex4]) (fun _ => rfl) (fun _ x hx => ⟨rfl, smOps x (by simp only [List.mem_append]; simp [hx])⟩)
  clear hSw4 hSo4 hSw4'
  refine CV_1 (kindsP hlo4 (hlw4.mono hzo4) (by decide)) ?_
  rintro zk4 wk4 _ hlek4 hSk4 rfl
  rw [k4]
  clear hSo4'
  (repeat (first | refine Cond_t ?_ | refine JB ?_ | (refine J1 ?_; intro _ _) | (refine CV_pu ?_; intro _ _ _ _)))
  refine V_bs (parts := [(0, _)]) rfl (by omega) ?_
  intro bo5 wo5 hbo5 hSo5
  refine V_bs (parts := [(0, _)]) rfl (by omega) ?_
  intro bw5 ww5 hbw5 hSw5
  obtain ⟨zw5, hzw5, hSw5', hlw5⟩ := Res.freezeSl (E := El.int) (B := [(bw5, _)]) (f := fun x => [.int .i64 x]) (xs := [3]) (v := .slice (some ⟨bw5, 0, none⟩) 1 1) (e := 3) hSw5 ⟨rfl, .inr ⟨bw5, 1, [], rfl, rfl, by decide, by simp [maxLen], rfl⟩⟩ (by simp [big]) (fun _ => rfl) (fun _ _ _ => rfl)
  obtain ⟨zo5, hzo5, hSo5', hlo5⟩ := Res.freezeSl (E := El.op) (B := [(bo5, _)]) (f := OpM.cells) (xs := ex5) (v := .slice (some ⟨bo5, 0, none⟩) 1 1) (e := 25) hSw5' ⟨rfl, .inr ⟨bo5, 1, [], rfl, rfl, by decide, by simp [maxLen], rfl⟩⟩ (by simp [big, ex5]) (fun _ => rfl) (fun _ x hx => ⟨rfl, smOps x (by simp only [List.mem_append]; simp [hx])⟩)
  clear hSw5 hSo5 hSw5'
  refine CV_1 (kindsP hlo5 (hlw5.mono hzo5) (by decide)) ?_
  rintro zk5 wk5 _ hlek5 hSk5 rfl
  rw [k5]
  clear hSo5'
  (repeat (refine K1 ?_))
  exact ⟨_, _, ‹_›, rfl⟩)
end Go.Proofs.Ytjnckainogpenaa
end

section
/- The states that operations lead to. -/
set_option linter.unusedVariables false
set_option maxRecDepth 20000
set_option synthInstance.maxHeartbeats 400000
set_option synthInstance.maxSize 4000
namespace Go.Proofs.Ytjnckainogpenaa
open Go Q Go.RowKit

def longO (o : OpM) : Bool := decide ((o.text.size : Int) > 1000)
instance {o : OpM} : Pu 54 #[o.v] (.bool (longO o)) := ⟨fun z w => Fn1.intro fun hS => en54 (by
  unfold vc54
  dsimp only [OpM.v, OpM.cells]
  (repeat (first | refine V_run ?_ | refine iV_ld1 ?_ | (refine iV_bx ?_; intro _ _ _ _)))
  exact ⟨_, _, ‹_›, rfl⟩)⟩
theorem idxOp {p : OpM → Bool} {fv v : Value} {z : Z} {w : World} {xs : List OpM} (hx : SlR El.op z v xs) (hf : ∀ x : OpM, PuV fv #[x.v] (.bool (p x))) : Fn1 88 #[v, fv] z w fun _ r => r = .int .i64 (fidx p xs) := Fn1.intro fun hS => en88 (by
  unfold vc88
  obtain ⟨hb, a, cap, rfl, hc, hel⟩ := hx.form
  (repeat (refine V_run ?_))
  refine LoopG1 (fun (i : Nat) x w' => x = .int .i64 i ∧ i ≤ xs.length ∧ (∀ j y, j < i → xs[j]? = some y → p y = false) ∧ ∃ z', Res w z [] w' z' []) (fun i => xs.length - i) 0 ⟨rfl, by omega, fun j y h => absurd h (by omega), z, hS⟩ ?_
  rintro I M i x w2 m ⟨rfl, h1, h2, z2, hS2⟩ back
  (repeat (refine V_run ?_))
  refine Cond_d (fun h => ?_) (fun h => ?_)
  · have hlt : i < xs.length := by omega
    obtain ⟨b, off, cs, rfl, ⟨rfl, hr⟩, hat⟩ := hel i _ (List.getElem?_eq_getElem hlt)
    haveI : InR (i : Int) xs.length := ⟨by omega, by omega⟩
    haveI : InI ((i : Int) + 1) := ⟨by simp only [big] at hb; omega⟩
    haveI : Fz z b (off + (i : Int).toNat * 4) xs[i].cells := ⟨by rw [Int.toNat_natCast]; exact hat⟩
    (repeat (first | refine V_run ?_ | refine fV_ldN ?_))
    refine CV_va1 hS2 ((hf _).h _ _) ?_
    rintro z4 w4 v4 hle hS4 rfl
    refine Cond_b (fun h' => ?_) (fun h' => ?_)
    · exact ⟨_, _, hS4, by rw [fidx_some h2 (List.getElem?_eq_getElem hlt) h']⟩
    · (repeat (refine V_run ?_))
      refine back (i + 1) _ _ ⟨by simp, by omega, fun j y' hj hjy => ?_, z4, hS4⟩ (by omega)
      by_cases hji : j = i
      · subst hji; rw [List.getElem?_eq_getElem hlt] at hjy; cases hjy; exact h'
      · exact h2 j y' (by omega) hjy
  · skip
    exact ⟨_, _, hS2, by rw [fidx_none fun j y hy => h2 j y (by have := (List.getElem?_eq_some_iff.1 hy).1; omega) hy]⟩)
theorem containsOp {p : OpM → Bool} {fv v : Value} {z : Z} {w : World} {xs : List OpM} (hx : SlR El.op z v xs) (hf : ∀ x : OpM, PuV fv #[x.v] (.bool (p x))) : Fn1 53 #[v, fv] z w fun _ r => r = .bool (xs.any p) := Fn1.intro fun hS => en53 (by
  unfold vc53
  refine CV_1 (idxOp hx hf) ?_
  rintro z' w' v hle hS' rfl
  (repeat (refine V_run ?_))
  exact ⟨_, _, ‹_›, by rw [fidx_ge]⟩)
def okOps (l : List OpM) : Bool := decide (l.length ≤ 200) && !l.any longO
def playedM (l : List OpM) : StM := if okOps l then (playFrom newM l).1 else []
theorem playedP {v : Value} {l : List OpM} {z : Z} {w : World} (hl : SlR El.op z v l) : Fn1 16 #[v] z w fun z' r => ∃ u, r = .tuple #[u, .bool (okOps l)] ∧ StR z' u (playedM l) := Fn1.intro fun hS => en16 (by
  unfold vc16
  have hl' := hl
  obtain ⟨hb, a, cap, rfl, hcap, hel⟩ := hl.form
  refine iV_al ?_
  intro b2 w2 hb2 hS2
  (repeat (first | refine V_run ?_ | (refine J1 ?_; intro _ _)))
  refine Cond_d (fun h => ?_) (fun h => ?_)
  · have hok : okOps l = false := by simp [okOps]; intro _; omega
    (repeat (first | refine V_run ?_ | (refine iU_st ?_; intro _ _) | refine iHV_N ?_ | refine Cond_t ?_ | refine K1 ?_))
    exact ⟨_, _, ‹_›, _, by rw [hok], _, rfl, by rw [playedM, hok]; exact SlR.nil⟩
  · refine CV_1 (containsOp (p := longO) hl' fun x => inferInstance) ?_
    rintro z1 w1 _ hle1 hS1 rfl
    (repeat (refine K1 ?_))
    refine Cond_b (fun h2 => ?_) (fun h2 => ?_)
    · have hok : okOps l = false := by simp [okOps, h2]
      (repeat (first | refine V_run ?_ | (refine iU_st ?_; intro _ _) | refine iHV_N ?_))
      exact ⟨_, _, ‹_›, _, by rw [hok], _, rfl, by rw [playedM, hok]; exact SlR.nil⟩
    · have hok : okOps l = true := by simp [okOps, h2]; omega
      skip
      refine CV_1 (PlayP (hl'.mono hle1)) ?_
      rintro z3 w3 r hle3 hS3 hp
      rw [PlayR, if_neg (by omega)] at hp
      obtain ⟨sv, va, ve, rfl, ⟨u, rfl, hu⟩, hva, hve⟩ := hp
      obtain ⟨_, a0, cap0, rfl, _, _⟩ := hu.form
      obtain ⟨_, a1, cap1, rfl, _, _⟩ := hva.form
      obtain ⟨_, a3, cap3, rfl, _, _⟩ := hve.form
      (repeat (first | refine V_run ?_ | refine iV_ldN ?_ | (refine iV_bx ?_; intro _ _ _ _) | (refine iU_st ?_; intro _ _) | refine iHV_N ?_))
      exact ⟨_, _, ‹_›, _, by rw [hok]; rfl, _, rfl, by rw [playedM, hok]; exact hu⟩)
end Go.Proofs.Ytjnckainogpenaa
end

section
/- Plain laws: what operations keep. -/
set_option linter.unusedVariables false
set_option maxRecDepth 20000
namespace Go.Proofs.Ytjnckainogpenaa
open Go Q Go.RowKit

theorem trapsFrom_set {t : TrM} : ∀ {l : List TrM} {i : Int} {k : Nat}, trapsFrom i l = true → trapOk (i + k) t = true → trapsFrom i (l.set k t) = true
  | [], _, _, _, _ => rfl
  | x :: l, i, 0, h, ht => by
    simp only [trapsFrom, Bool.and_eq_true, List.set_cons_zero] at h ⊢
    exact ⟨by simpa using ht, h.2⟩
  | x :: l, i, k + 1, h, ht => by
    simp only [trapsFrom, Bool.and_eq_true, List.set_cons_succ] at h ⊢
    exact ⟨h.1, trapsFrom_set h.2 (by rw [show i + 1 + (k : Int) = i + ((k + 1 : Nat) : Int) by omega]; exact ht)⟩
theorem trapOk_no {i : Int} : trapOk i noTrap = true := by simp [trapOk, noTrap, TrM.eqb]
theorem pendFrom_snoc {r : RaM} : ∀ {l had : List RaM}, pendFrom had l = true → raOk (had ++ l) r = true → pendFrom had (l ++ [r]) = true
  | [], had, _, hr => by simpa [pendFrom] using hr
  | x :: l, had, h, hr => by
    simp only [pendFrom, Bool.and_eq_true, List.cons_append] at h ⊢
    exact ⟨h.1, pendFrom_snoc h.2 (by simpa using hr)⟩
theorem framedB_parts {f : FrM} : framedB f = true ↔ f.traps.length = 6 ∧ trapsFrom 0 f.traps = true ∧ pendFrom [] f.pend = true ∧ infoB f.info = true := by
  simp only [framedB, Bool.and_eq_true, decide_eq_true_eq, and_assoc]
theorem sigF_ok {f : FrM} {c : Int} {d : ByteArray} (h : framedB f = true) (h0 : 0 ≤ c) (h1 : c < 6) (hd : descB d = true) : framedB (sigF f c d) = true := by
  rw [framedB_parts] at h ⊢
  refine ⟨by simp [sigF, h.1], trapsFrom_set h.2.1 trapOk_no, rfl, ?_⟩
  simp [infoB, sigF, cond, h0, h1, hd]
theorem raiseF_ok {f : FrM} {c : Int} {d : ByteArray} (h : framedB f = true) (h0 : 0 ≤ c) (h1 : c < 6) (hd : descB d = true) : framedB (raiseF f c d) = true := by
  have hrc : 0 ≤ raiseC f c ∧ raiseC f c < 6 := by unfold raiseC; split <;> omega
  unfold raiseF
  split
  · exact h
  · split
    · exact sigF_ok h hrc.1 hrc.2 hd
    · split
      · exact h
      · rename_i h3 h4 h5
        rw [framedB_parts] at h ⊢
        refine ⟨h.1, h.2.1, pendFrom_snoc h.2.2.1 ?_, h.2.2.2⟩
        simp only [Bool.or_eq_true, not_or, Bool.not_eq_true] at h5
        have hp := h5.2
        simp only [hasP] at hp
        have e : (f.pend.any fun x => x.cond == raiseC f c) = f.pend.any fun x => decide (x.cond = raiseC f c) := by congr 1
        simp only [raOk, List.nil_append, e, hp, hd, cond]
        simp [hrc.1, hrc.2, h4]
theorem pushF_ok {f : FrM} (h : framedB f = true) : framedB (pushF f) = true := by
  rw [framedB_parts] at h ⊢
  exact ⟨h.1, h.2.1, rfl, h.2.2.2⟩
theorem trapsFrom_get : ∀ {l : List TrM} {i : Int} {k : Nat} {t : TrM}, trapsFrom i l = true → l[k]? = some t → trapOk (i + k) t = true
  | x :: l, i, 0, t, h, hk => by
    simp only [trapsFrom, Bool.and_eq_true] at h
    simp at hk; subst hk
    simpa using h.1
  | x :: l, i, k + 1, t, h, hk => by
    simp only [trapsFrom, Bool.and_eq_true] at h
    have := trapsFrom_get h.2 (by simpa using hk)
    rw [show i + ((k + 1 : Nat) : Int) = i + 1 + (k : Int) by omega]; exact this
theorem tr_ok {f : FrM} {c : Int} (h : framedB f = true) (h0 : 0 ≤ c) (h1 : c < 6) : trapOk c (f.tr c) = true := by
  rw [framedB_parts] at h
  have hlt : c.toNat < f.traps.length := by omega
  have hx : f.traps[c.toNat]? = some (f.tr c) := by rw [FrM.tr, List.getD_eq_getElem?_getD, List.getElem?_eq_getElem hlt]; rfl
  have := trapsFrom_get h.2.1 hx
  rwa [show (0 : Int) + (c.toNat : Int) = c by omega] at this
theorem setF_ok {f : FrM} {c m : Int} {t : ByteArray} (h : framedB f = true) (h0 : 0 ≤ c) (h1 : c < 6) (hok : setOk c m t = true) : framedB (f.put c (setT (f.tr c) c m t)) = true := by
  have hn : ∀ n : Nat, n < 6 → labB (nmB.getD n ⟨#[]⟩) = true := by decide +kernel
  have hname : labB (nameOf c) = true := hn c.toNat (by omega)
  simp only [setOk, Bool.and_eq_true, Bool.or_eq_true, decide_eq_true_eq] at hok
  rw [framedB_parts] at h ⊢
  refine ⟨by simp [FrM.put, h.1], trapsFrom_set h.2.1 ?_, h.2.2.1, h.2.2.2⟩
  rw [show (0 : Int) + (c.toNat : Int) = c by omega]
  unfold setT
  split
  · exact trapOk_no
  · rename_i hm
    rw [trapOk, if_neg hm]
    have hl : labB (if t = ⟨#[]⟩ then nameOf c else t) = true := by
      split
      · exact hname
      · rename_i ht; rcases hok.2 with e | e
        · exact absurd e ht
        · exact e
    simp only [hok.1, hl, Bool.true_and]
    cases decide (m = 2) <;> cases (f.tr c).delayed <;> rfl
end Go.Proofs.Ytjnckainogpenaa
end

section
/- The plain law of TrapCatches. -/
set_option linter.unusedVariables false
set_option maxRecDepth 20000
namespace Go.Proofs.Ytjnckainogpenaa
open Go Q Go.RowKit

theorem checkB_snoc {pre : StM} {f g : FrM} (h : checkB (pre ++ [f]) = true) (hg : framedB g = true) : checkB (pre ++ [g]) = true := by
  simp only [checkB, Bool.and_eq_true, decide_eq_true_eq, List.all_eq_true, List.length_append, List.length_singleton] at h ⊢
  refine ⟨h.1, fun x hx => ?_⟩
  rcases List.mem_append.1 hx with hx | hx
  · exact h.2 x (List.mem_append_left _ hx)
  · simp only [List.mem_singleton] at hx; subst hx; exact hg
theorem checkB_last {pre : StM} {f : FrM} (h : checkB (pre ++ [f]) = true) : framedB f = true := by
  simp only [checkB, Bool.and_eq_true, List.all_eq_true] at h
  exact h.2 f (by simp)
def catchLaw (s : StM) (c : Int) : AcM × Int :=
  let r := doneM s (raiseO c ⟨#[]⟩) [c]
  if r.e = 0 ∧ r.a.kind = 0 then ((doneM r.s endO []).a, (doneM r.s endO []).e) else (r.a, r.e)
theorem catches_law {s : StM} {c : Int} (hck : checkB s = true) (hp : (lastF s).pend = []) (h0 : 0 ≤ c) (h1 : c < 6) : catchM s c = catchLaw s c := by
  obtain ⟨pre, f, rfl, h6, hp4, hpre, hfd, hlast, hdl⟩ := lastSplit hck
  have ho : openE (pre ++ [f]) [c] = 0 := by simp [openE, hck, cond, h0, h1]
  have hd : descB ⟨#[]⟩ = true := by decide
  rw [hlast] at hp
  have hff : ({ f with pend := [] } : FrM) = f := by rw [← hp]
  have hop : opM (pre ++ [f]) (raiseO c ⟨#[]⟩) = ⟨0, raiseA f c ⟨#[]⟩, pre ++ [raiseF f c ⟨#[]⟩]⟩ := by
    simp only [opM, raiseO, hlast, hdl, hd, if_true, show ¬ ((2 : Int) = 1) by decide, if_false]
  have hdm : doneM (pre ++ [f]) (raiseO c ⟨#[]⟩) [c] = ⟨0, raiseA f c ⟨#[]⟩, pre ++ [raiseF f c ⟨#[]⟩]⟩ := by
    rw [doneM, if_neg (by simp [ho]), hop, if_neg (by simp)]
  have hck2 : checkB (pre ++ [raiseF f c ⟨#[]⟩]) = true := checkB_snoc hck (raiseF_ok hfd h0 h1 hd)
  have ho2 : openE (pre ++ [raiseF f c ⟨#[]⟩]) [] = 0 := by simp [openE, hck2]
  have hl2 : lastF (pre ++ [raiseF f c ⟨#[]⟩]) = raiseF f c ⟨#[]⟩ := by simp [lastF]
  have hop2 : opM (pre ++ [raiseF f c ⟨#[]⟩]) endO = ⟨(endM (pre.length + 1) (raiseF f c ⟨#[]⟩) (raiseF f c ⟨#[]⟩).pend).e, (endM (pre.length + 1) (raiseF f c ⟨#[]⟩) (raiseF f c ⟨#[]⟩).pend).a, pre ++ (endM (pre.length + 1) (raiseF f c ⟨#[]⟩) (raiseF f c ⟨#[]⟩).pend).top⟩ := by
    simp only [opM, endO, hl2, show ¬ ((3 : Int) = 1) by decide, show ¬ ((3 : Int) = 2) by decide, if_true, if_false]
    simp
  have hdm2 : ((doneM (pre ++ [raiseF f c ⟨#[]⟩]) endO []).a, (doneM (pre ++ [raiseF f c ⟨#[]⟩]) endO []).e) = ((endM (pre.length + 1) (raiseF f c ⟨#[]⟩) (raiseF f c ⟨#[]⟩).pend).a, (endM (pre.length + 1) (raiseF f c ⟨#[]⟩) (raiseF f c ⟨#[]⟩).pend).e) := by
    rw [doneM, if_neg (by simp [ho2]), hop2]
    by_cases he : (endM (pre.length + 1) (raiseF f c ⟨#[]⟩) (raiseF f c ⟨#[]⟩).pend).e = 0
    · rw [if_neg (by simp [he])]
    · rw [if_pos he]
      rw [endM_err he]
  simp only [catchLaw, hdm]
  rw [catchM, if_neg (by simp [ho])]
  simp only [hlast, hff, List.length_append, List.length_singleton]
  by_cases hk : (raiseA f c ⟨#[]⟩).kind = 0
  · rw [if_neg (by simp [hk]), if_pos (by simp [hk])]
    exact hdm2.symm
  · rw [if_pos hk, if_neg (by simp [hk])]
end Go.Proofs.Ytjnckainogpenaa
end

section
/- Plain laws: every operation keeps a state valid. -/
set_option linter.unusedVariables false
set_option linter.unusedSimpArgs false
set_option maxRecDepth 20000
namespace Go.Proofs.Ytjnckainogpenaa
open Go Q Go.RowKit

theorem raOk_sub {had had' : List RaM} {r : RaM} (hs : ∀ x ∈ had', x ∈ had) (h : raOk had r = true) : raOk had' r = true := by
  simp only [raOk, Bool.and_eq_true, Bool.not_eq_true'] at h ⊢
  refine ⟨⟨h.1.1, ?_⟩, h.2⟩
  rw [List.any_eq_false] at *
  exact fun x hx => h.1.2 x (hs x hx)
theorem pendFrom_sub : ∀ {l had had' : List RaM}, (∀ x ∈ had', x ∈ had) → pendFrom had l = true → pendFrom had' l = true
  | [], _, _, _, _ => rfl
  | r :: l, had, had', hs, h => by
    simp only [pendFrom, Bool.and_eq_true] at h ⊢
    refine ⟨raOk_sub hs h.1, pendFrom_sub (fun x hx => ?_) h.2⟩
    rcases List.mem_append.1 hx with hx | hx
    · exact List.mem_append_left _ (hs x hx)
    · exact List.mem_append_right _ hx
theorem pendFrom_tail {r : RaM} {l : List RaM} (h : pendFrom [] (r :: l) = true) : raOk [] r = true ∧ pendFrom [] l = true := by
  simp only [pendFrom, Bool.and_eq_true] at h
  exact ⟨h.1, pendFrom_sub (fun x hx => by cases hx) h.2⟩
theorem raOk_facts {r : RaM} (h : raOk [] r = true) : 0 ≤ r.cond ∧ r.cond < 6 ∧ immediate r.cond = false ∧ descB r.desc = true := by
  have := (raOk_mem h).1
  simp only [raOk, Bool.and_eq_true, Bool.not_eq_true'] at h
  exact ⟨by omega, by omega, h.1.1.2, h.2⟩
theorem framedB_pend {f : FrM} {l : List RaM} (h : framedB f = true) (hl : pendFrom [] l = true) : framedB { f with pend := l } = true := by
  rw [framedB_parts] at h ⊢
  exact ⟨h.1, h.2.1, hl, h.2.2.2⟩
theorem endM_ok {n : Nat} {f : FrM} (h : framedB f = true) : ∀ {l : List RaM}, pendFrom [] l = true → (endM n f l).e = 0 → (endM n f l).top ≠ [] ∧ (∀ g ∈ (endM n f l).top, framedB g = true) ∧ ((endM n f l).top.length = 1 ∨ n ≠ 30 ∧ (endM n f l).top.length = 2)
  | [], hl, _ => by
    simp only [endM]
    exact ⟨by simp, fun g hg => by simp at hg; subst hg; exact framedB_pend h rfl, .inl rfl⟩
  | r :: l, hl, he => by
    obtain ⟨hr, hl'⟩ := pendFrom_tail hl
    obtain ⟨c0, c1, him, hd⟩ := raOk_facts hr
    simp only [endM] at he ⊢
    by_cases h1 : (f.tr r.cond).mode = 0 ∨ (f.tr r.cond).delayed = true
    · rw [if_pos h1] at he ⊢; exact endM_ok h hl' he
    · rw [if_neg h1] at he ⊢
      by_cases h2 : (f.tr r.cond).mode = 1
      · rw [if_pos h2] at he ⊢
        exact ⟨by simp, fun g hg => by simp at hg; subst hg; exact sigF_ok h c0 c1 hd, .inl rfl⟩
      · rw [if_neg h2] at he ⊢
        by_cases h3 : n = 30
        · rw [if_pos h3] at he; cases he
        · rw [if_neg h3] at he ⊢
          refine ⟨by simp [callF], fun g hg => ?_, .inr ⟨h3, rfl⟩⟩
          simp only [callF, List.mem_cons, List.not_mem_nil, or_false] at hg
          rcases hg with rfl | rfl
          · exact framedB_pend h hl'
          · have hto := tr_ok h c0 c1
            rw [framedB_parts] at h ⊢
            refine ⟨by simp [h.1], trapsFrom_set h.2.1 ?_, rfl, ?_⟩
            · rw [show (0 : Int) + (r.cond.toNat : Int) = r.cond by omega]
              simp only [not_or] at h1
              rw [trapOk, if_neg h1.1] at hto
              rw [trapOk, if_neg h1.1]
              simp only [Bool.and_eq_true] at hto
              have hmo := hto.1.1
              simp only [moded, Bool.or_eq_true, decide_eq_true_eq, Bool.and_eq_true] at hmo
              have hm2 : (f.tr r.cond).mode = 2 := by
                rcases hmo with (e | e) | e
                · exact absurd e h1.1
                · exact absurd e h2
                · exact e.1
              simp [hto.1.1, hto.1.2, hm2, moded, him]
            · simp [infoB, cond, c0, c1, hd]
theorem doneM_ok {s : StM} {o : OpM} {conds : List Int} (hk : 1 ≤ o.kind ∧ o.kind ≤ 5) (hc : o.kind = 1 ∨ o.kind = 2 → conds = [o.cond]) (he : (doneM s o conds).e = 0) : checkB s = true ∧ checkB (doneM s o conds).s = true := by
  have ho : openE s conds = 0 := by
    rw [doneM] at he
    by_cases h : openE s conds = 0
    · exact h
    · rw [if_pos h] at he; exact absurd he h
  have hck : checkB s = true := by
    simp only [openE] at ho
    cases hh : checkB s with
    | true => rfl
    | false => simp [hh] at ho
  refine ⟨hck, ?_⟩
  have he2 : (opM s o).e = 0 := by
    rw [doneM, if_neg (by simp [ho])] at he
    by_cases h : (opM s o).e = 0
    · exact h
    · rw [if_pos h] at he; exact absurd he h
  rw [doneM, if_neg (by simp [ho]), if_neg (by simp [he2])]
  have hcc : o.kind = 1 ∨ o.kind = 2 → 0 ≤ o.cond ∧ o.cond < 6 := fun h => by
    rw [hc h] at ho
    simp only [openE, hck, if_true, List.all_cons, List.all_nil, Bool.and_true] at ho
    cases hcd : cond o.cond with
    | false => simp [hcd] at ho
    | true => simpa [cond] using hcd
  obtain ⟨pre, f, rfl, h6, hp4, hpre, hfd, hlast, hdl⟩ := lastSplit hck
  have hpd := (framedB_parts.1 hfd).2.2.1
  have hall : ∀ g ∈ pre, framedB g = true := by
    simp only [checkB, Bool.and_eq_true, List.all_eq_true] at hck
    exact fun g hg => hck.2 g (List.mem_append_left _ hg)
  have build : ∀ top : StM, top ≠ [] → (∀ g ∈ top, framedB g = true) → pre.length + top.length ≤ 30 → checkB (pre ++ top) = true := fun top hne hg hlen => by
    have : 0 < top.length := List.length_pos_iff.2 hne
    simp only [checkB, Bool.and_eq_true, decide_eq_true_eq, List.all_eq_true, List.length_append]
    refine ⟨⟨by omega, hlen⟩, fun x hx => ?_⟩
    rcases List.mem_append.1 hx with hx | hx
    · exact hall x hx
    · exact hg x hx
  simp only [opM, hlast, hdl, List.length_append, List.length_singleton] at he2 ⊢
  by_cases k1 : o.kind = 1
  · have hcd := hcc (.inl k1)
    rw [if_pos k1] at he2 ⊢
    by_cases hok : setOk o.cond o.mode o.text = true
    · rw [if_pos hok]
      exact build _ (by simp) (fun g hg => by simp at hg; subst hg; exact setF_ok hfd hcd.1 hcd.2 hok) (by simp; omega)
    · rw [if_neg hok] at he2; cases he2
  rw [if_neg k1] at he2 ⊢
  by_cases k2 : o.kind = 2
  · have hcd := hcc (.inr k2)
    rw [if_pos k2] at he2 ⊢
    by_cases hok : descB o.text = true
    · rw [if_pos hok]
      exact build _ (by simp) (fun g hg => by simp at hg; subst hg; exact raiseF_ok hfd hcd.1 hcd.2 hok) (by simp; omega)
    · rw [if_neg hok] at he2; cases he2
  rw [if_neg k2] at he2 ⊢
  by_cases k3 : o.kind = 3
  · rw [if_pos k3] at he2 ⊢
    obtain ⟨h1, h2, h3⟩ := endM_ok hfd hpd he2
    exact build _ h1 h2 (by rcases h3 with h3 | ⟨h3, h4⟩ <;> omega)
  rw [if_neg k3] at he2 ⊢
  by_cases k4 : o.kind = 4
  · rw [if_pos k4] at he2 ⊢
    by_cases h30 : pre.length + 1 = 30
    · rw [if_pos h30] at he2; cases he2
    · rw [if_neg h30]
      have := build [f, pushF f] (by simp) (fun g hg => by simp at hg; rcases hg with rfl | rfl; exact hfd; exact pushF_ok hfd) (by simp; omega)
      simpa using this
  rw [if_neg k4] at he2 ⊢
  by_cases h0 : pre.length = 0
  · rw [if_pos h0] at he2; cases he2
  · rw [if_neg h0]
    simp only [checkB, Bool.and_eq_true, decide_eq_true_eq, List.all_eq_true]
    exact ⟨⟨by omega, by omega⟩, hall⟩
theorem newM_ok : checkB newM = true := by decide +kernel
theorem playFrom_ok : ∀ {l : List OpM} {s : StM}, checkB s = true → checkB (playFrom s l).1 = true
  | [], _, h => h
  | o :: l, s, h => by
    simp only [playFrom]
    apply playFrom_ok
    split
    · rename_i he
      rw [playStep] at he ⊢
      by_cases hk : 1 ≤ o.kind ∧ o.kind ≤ 5
      · rw [if_pos hk] at he ⊢
        exact (doneM_ok hk (fun hh => by rw [condsOf, if_pos hh]) he).2
      · rw [if_neg hk] at he; cases he
    · exact h
end Go.Proofs.Ytjnckainogpenaa
end

section
/- Names and numbers of conditions, in the program and in the reference. -/
set_option linter.unusedVariables false
set_option linter.unusedSimpArgs false
set_option maxRecDepth 20000
set_option synthInstance.maxHeartbeats 400000
set_option synthInstance.maxSize 4000
namespace Go.Proofs.Ytjnckainogpenaa
open Go Q Go.RowKit

theorem nmB_sm : ∀ x ∈ nmB, x.size ≤ big := fun x hx => by
  have : ∀ x ∈ nmB, x.size ≤ 100 := by decide
  have := this x hx
  simp only [big]; omega
theorem refNames {z : Z} {w : World} : Fn1 83 #[] z w fun z' r => SlR El.str z' r nmB := Fn1.intro fun hS => en83 (by
  unfold vc83
  refine V_bs (parts := [(0, _), (1, _), (2, _), (3, _), (4, _), (5, _)]) rfl (by omega) ?_
  intro b w1 hb hS1
  obtain ⟨z1, hz1, hS2, hv⟩ := Res.freezeSl (E := El.str) (e := 9) (xs := nmB) (f := fun x => [.string x]) (v := .slice (some ⟨b, 0, none⟩) 6 6) (B := [(b, .cells (nmB.flatMap fun x => [.string x]).toArray 9 (0, 0))]) (L := []) hS1 ⟨by simp [nmB, El.str], .inr ⟨b, 6, [], by simp, rfl, by decide, by decide, by simp [nmB, El.str]⟩⟩ (by decide) (fun _ => rfl) (fun z x hx => ⟨rfl, nmB_sm x hx⟩)
  exact ⟨_, _, hS2, hv⟩)
instance {c : Int} : Pu 40 #[.int .i64 c] (.string (if cond c then nameOf c else ⟨#[]⟩)) := ⟨fun z w => Fn1.intro fun hS => en40 (by
  unfold vc40
  (repeat (first | refine V_run ?_ | (refine CV_pu ?_; intro _ _ _ _)))
  refine Cond_n (fun h => ?_) (fun h => ?_)
  · exact ⟨_, _, ‹_›, by rw [h]; rfl⟩
  · have hc : 0 ≤ c ∧ c < 6 := by simpa only [cond, Bool.and_eq_true, decide_eq_true_eq] using h
    refine CV_1 refNames ?_
    rintro z2 w2 v2 hle2 hS2 hv2
    obtain ⟨_, a, cap, rfl, _, hel⟩ := hv2.form
    have hx : nmB[c.toNat]? = some (nameOf c) := by
      have : c = 0 ∨ c = 1 ∨ c = 2 ∨ c = 3 ∨ c = 4 ∨ c = 5 := by omega
      rcases this with rfl | rfl | rfl | rfl | rfl | rfl <;> rfl
    obtain ⟨b, off, cs, rfl, ⟨rfl, _⟩, hat⟩ := hel _ _ hx
    haveI : InR c nmB.length := ⟨hc.1, by simp only [nmB, List.length_cons, List.length_nil]; omega⟩
    (repeat (refine V_run ?_))
    refine zV_ld1 hat ?_
    exact ⟨_, _, ‹_›, by rw [h]; rfl⟩)⟩
def numM (s : ByteArray) : Int := fidx (fun x => decide (x = s)) nmB
theorem refNumber {s : ByteArray} {z : Z} {w : World} : Fn1 41 #[.string s] z w fun _ r => r = .int .i64 (numM s) := Fn1.intro fun hS => en41 (by
  unfold vc41
  refine CV_1 refNames ?_
  rintro z2 w2 v2 hle2 hS2 hv2
  obtain ⟨hb, a, cap, rfl, _, hel⟩ := hv2.form
  refine LoopG1 (fun (i : Nat) x w' => x = .int .i64 i ∧ i ≤ nmB.length ∧ (∀ j y, j < i → nmB[j]? = some y → decide (y = s) = false) ∧ ∃ z', Le z2 z' ∧ Res w z [] w' z' []) (fun i => nmB.length - i) 0 ⟨rfl, by omega, fun j y h => absurd h (by omega), z2, Le.refl _, ‹_›⟩ ?_
  rintro I M i x w3 m ⟨rfl, h1, h2, z3, hz3, hS3⟩ back
  (repeat (refine V_run ?_))
  refine Cond_d (fun h => ?_) (fun h => ?_)
  · have hlt : i < nmB.length := by omega
    obtain ⟨b, off, cs, rfl, ⟨rfl, _⟩, hat⟩ := hel i _ (List.getElem?_eq_getElem hlt)
    haveI : InR (i : Int) nmB.length := ⟨by omega, by omega⟩
    haveI : InI ((i : Int) + 1) := ⟨by simp only [big] at hb; omega⟩
    (repeat (refine V_run ?_))
    simp only [Int.toNat_natCast]
    refine zV_ld1 (hat.mono hz3) ?_
    (repeat (refine V_run ?_))
    refine Cond_d (fun h' => ?_) (fun h' => ?_)
    · exact ⟨_, _, hS3, by rw [numM, fidx_some (p := fun x => decide (x = s)) h2 (List.getElem?_eq_getElem hlt) (by simpa using h')]⟩
    · (repeat (refine V_run ?_))
      refine back (i + 1) _ _ ⟨by simp, by omega, fun j y' hj hjy => ?_, z3, hz3, hS3⟩ (by omega)
      by_cases hji : j = i
      · subst hji; rw [List.getElem?_eq_getElem hlt] at hjy; cases hjy; exact decide_eq_false h'
      · exact h2 j y' (by omega) hjy
  · skip
    exact ⟨_, _, hS3, by rw [numM, fidx_none fun j y hy => h2 j y (by have := (List.getElem?_eq_some_iff.1 hy).1; omega) hy]⟩)
theorem indexStr {v : Value} {xs : List ByteArray} {c : ByteArray} {z : Z} {w : World} (hx : SlR El.str z v xs) : Fn1 81 #[v, .string c] z w fun _ r => r = .int .i64 (fidx (fun x => decide (x = c)) xs) := Fn1.intro fun hS => en81 (by
  unfold vc81
  obtain ⟨hb, a, cap, rfl, hc, hel⟩ := hx.form
  (repeat (refine V_run ?_))
  refine LoopG1 (fun (i : Nat) x w' => x = .int .i64 i ∧ i ≤ xs.length ∧ (∀ j y, j < i → xs[j]? = some y → decide (y = c) = false) ∧ ∃ z', Res w z [] w' z' []) (fun i => xs.length - i) 0 ⟨rfl, by omega, fun j y h => absurd h (by omega), z, hS⟩ ?_
  rintro I M i x w2 m ⟨rfl, h1, h2, z2, hS2⟩ back
  (repeat (refine V_run ?_))
  refine Cond_d (fun h => ?_) (fun h => ?_)
  · have hlt : i < xs.length := by omega
    obtain ⟨b, off, cs, rfl, ⟨rfl, _⟩, hat⟩ := hel i _ (List.getElem?_eq_getElem hlt)
    haveI : InR (i : Int) xs.length := ⟨by omega, by omega⟩
    haveI : InI ((i : Int) + 1) := ⟨by simp only [big] at hb; omega⟩
    haveI : Fz z b (off + (i : Int).toNat * 1) [.string xs[i]] := ⟨by rw [Int.toNat_natCast]; exact hat⟩
    (repeat (first | refine V_run ?_ | refine fV_ld1 ?_))
    refine Cond_d (fun h' => ?_) (fun h' => ?_)
    · exact ⟨_, _, hS2, by rw [fidx_some (p := fun x => decide (x = c)) h2 (List.getElem?_eq_getElem hlt) (by simpa using h'.symm)]⟩
    · (repeat (refine V_run ?_))
      refine back (i + 1) _ _ ⟨by simp, by omega, fun j y' hj hjy => ?_, z2, hS2⟩ (by omega)
      by_cases hji : j = i
      · subst hji; rw [List.getElem?_eq_getElem hlt] at hjy; cases hjy; exact decide_eq_false fun e => h' e.symm
      · exact h2 j y' (by omega) hjy
  · skip
    exact ⟨_, _, hS2, by rw [fidx_none fun j y hy => h2 j y (by have := (List.getElem?_eq_some_iff.1 hy).1; omega) hy]⟩)
theorem NumberP {s : ByteArray} {z : Z} {w : World} : Fn1 37 #[.string s] z w fun _ r => r = (if numM s < 0 then .tuple #[.int .i64 0, .int .i64 1] else .tuple #[.int .i64 (numM s), .int .i64 0]) := Fn1.intro fun hS => en37 (by
  unfold vc37
  (repeat (refine CV_pu ?_; intro _ _ _ _))
  refine iV_al ?_
  intro b4 w4 hb4 hS4
  (repeat (first | refine V_run ?_ | (refine iU_st ?_; intro _ _)))
  rename_i hS9
  obtain ⟨z1, hz1, hS2, hv⟩ := Res.freezeSl (E := El.str) (e := 120) (xs := nmB) (f := fun x => [.string x]) (v := .slice (some ⟨b4, 0, none⟩) 6 6) (B := [(b4, .cells (nmB.flatMap fun x => [.string x]).toArray 120 (0, 0))]) (L := []) hS9 ⟨by simp [nmB, El.str], .inr ⟨b4, 6, [], by simp, rfl, by decide, by decide, by simp [nmB, El.str]⟩⟩ (by decide) (fun _ => rfl) (fun z x hx => ⟨rfl, nmB_sm x hx⟩)
  clear hS9
  refine CV_1 (indexStr hv) ?_
  rintro z3 w3 _ hle3 hS3 rfl
  (repeat (refine V_run ?_))
  have e : fidx (fun x => decide (x = s)) nmB = numM s := rfl
  rw [e]
  refine Cond_d (fun h => ?_) (fun h => ?_)
  · exact ⟨_, _, ‹_›, by rw [if_pos h]⟩
  · exact ⟨_, _, ‹_›, by rw [if_neg h]⟩)
end Go.Proofs.Ytjnckainogpenaa
end

section
/- Owned blocks in another order, and fewer of them: by a list of what is to stay. -/
set_option linter.unusedVariables false
set_option linter.unusedSimpArgs false
set_option maxRecDepth 20000
namespace Go.Proofs.Ytjnckainogpenaa
open Go Q Go.RowKit

/-- What is to stay: a list of blocks, or the block with a number. -/
inductive It
  | bl (B : Bl)
  | at (b : Nat)
class BringL (L B : Bl) (R : outParam Bl) : Prop where
  h : L.Perm (B ++ R)
instance BringL.here {B R : Bl} : BringL (B ++ R) B R := ⟨.refl _⟩
instance (priority := 950) BringL.all {B : Bl} : BringL B B [] := ⟨by simp⟩
instance (priority := 900) BringL.cons {L B R : Bl} {p : Nat × Obj} [g : BringL L B R] : BringL (p :: L) B (p :: R) := ⟨(g.h.cons p).trans List.perm_middle.symm⟩
instance (priority := 800) BringL.app {A L B R : Bl} [g : BringL L B R] : BringL (A ++ L) B (A ++ R) := ⟨by
  refine (g.h.append_left A).trans ?_
  rw [← List.append_assoc, ← List.append_assoc]
  exact List.perm_append_comm.append_right R⟩
class BringB (L : Bl) (b : Nat) (o : outParam Obj) (R : outParam Bl) : Prop where
  h : L.Perm ((b, o) :: R)
instance BringB.here {b : Nat} {o : Obj} {R : Bl} : BringB ((b, o) :: R) b o R := ⟨.refl _⟩
instance (priority := 900) BringB.cons {L R : Bl} {b : Nat} {o : Obj} {p : Nat × Obj} [g : BringB L b o R] : BringB (p :: L) b o (p :: R) := ⟨(g.h.cons p).trans (.swap _ _ _)⟩
instance (priority := 800) BringB.app {A L R : Bl} {b : Nat} {o : Obj} [g : BringB L b o R] : BringB (A ++ L) b o (A ++ R) := ⟨(g.h.append_left A).trans List.perm_middle⟩
class Keep (L : Bl) (spec : List It) (L' : outParam Bl) : Prop where
  h : ∃ R, L.Perm (L' ++ R)
instance Keep.nil {L : Bl} : Keep L [] [] := ⟨L, by simp⟩
instance Keep.bl {L B R T : Bl} {spec : List It} [g : BringL L B R] [k : Keep R spec T] : Keep L (.bl B :: spec) (B ++ T) := ⟨by
  obtain ⟨X, hX⟩ := k.h
  exact ⟨X, g.h.trans (by rw [List.append_assoc]; exact hX.append_left B)⟩⟩
instance Keep.at {L R T : Bl} {b : Nat} {o : Obj} {spec : List It} [g : BringB L b o R] [k : Keep R spec T] : Keep L (.at b :: spec) ((b, o) :: T) := ⟨by
  obtain ⟨X, hX⟩ := k.h
  exact ⟨X, g.h.trans (hX.cons _)⟩⟩
section
variable {w0 w : World} {z0 z : Z} {B0 L L' : Bl}
/-- The blocks that are named stay, in the order named. -/
theorem Res.keep (spec : List It) (h : Res w0 z0 B0 w z L) [g : Keep L spec L'] : Res w0 z0 B0 w z L' := by
  obtain ⟨R, hR⟩ := g.h
  exact (h.perm hR).sublist (List.sublist_append_left _ _)
/-- All blocks stay; those of B come first. -/
theorem Res.bring (B : Bl) {R : Bl} (h : Res w0 z0 B0 w z L) [g : BringL L B R] : Res w0 z0 B0 w z (B ++ R) := h.perm g.h
theorem Res.bringB (b : Nat) {o : Obj} {R : Bl} (h : Res w0 z0 B0 w z L) [g : BringB L b o R] : Res w0 z0 B0 w z ((b, o) :: R) := h.perm g.h
end
end Go.Proofs.Ytjnckainogpenaa
end

section
/- The reference's copies of states. -/
set_option linter.unusedVariables false
set_option linter.unusedSimpArgs false
set_option maxRecDepth 20000
set_option synthInstance.maxHeartbeats 400000
set_option synthInstance.maxSize 4000
namespace Go.Proofs.Ytjnckainogpenaa
open Go Q Go.RowKit

/-- **append([]T{}, v...)** -/
theorem V_cp {w0 w : World} {z0 z : Z} {B0 L : Bl} {K : Value → World → Prop} {α : Type} {E : El α} {f : α → List Value} {t ty e bytes b : Nat} [g : TyApp t e E.size bytes] {v : Value} {xs : List α} (hS : Res w0 z0 B0 w z ((b, .cells [].toArray e (0, 0)) :: L)) (hx : SlR E z v xs) (hf : ∀ z cs x, E.rel z cs x → cs = f x) (hl : ∀ x, (f x).length = E.size) (ho : ∀ x, ∀ u ∈ f x, isOne u = true) (hb : xs.length ≤ 1000000) (hby : bytes ≤ 1000)
    (hk : ∀ B' v' w', OwnSl e E.size B' v' xs.length (xs.flatMap f) → Res w0 z0 B0 w' z (B' ++ L) → K v' w') : V (Builtin.append_ #[t, t] ty #[.slice (some ⟨b, 0, none⟩) 0 0, v]) w K := by
  by_cases hn : xs = []
  · subst hn
    obtain ⟨_, a, cap, rfl, _, _⟩ := hx.form
    refine V_app0 (xs := []) (sp := []) hS (by simp) (by simp) (by omega) ?_
    exact hk [(b, .cells [].toArray e (0, 0))] _ _ ⟨by simp, .inr ⟨b, 0, [], rfl, rfl, by simp, by simp [maxLen], by simp⟩⟩ hS
  · obtain ⟨b', off, cap', rfl, _, hat⟩ := hx.all f hf hn
    have hpos : 0 < xs.length := List.length_pos_iff.2 hn
    have hm : xs.length * bytes ≤ 1000000 * 1000 := Nat.mul_le_mul hb hby
    refine V_app (B := [(b, .cells [].toArray e (0, 0))]) (L := L) (n := 0) (xs := []) (news := xs.flatMap f) hS ⟨by simp, .inr ⟨b, 0, [], rfl, rfl, by omega, by simp [maxLen], by simp⟩⟩ (hat.world hS.sub) (flat_len hl xs) ?_ hpos (by simp only [room, Nat.zero_add]; omega) (by simp only [room]; omega) ?_
    · intro u hu
      obtain ⟨x, _, hx⟩ := List.mem_flatMap.1 hu
      exact ho x u hx
    · intro B' v' w2 ho' hS2
      exact hk B' v' w2 (by simpa using ho') hS2
theorem onesT : ∀ (x : TrM), ∀ u ∈ x.cells, isOne u = true := fun x u hu => by
  simp only [TrM.cells, List.mem_cons, List.not_mem_nil, or_false] at hu
  rcases hu with rfl | rfl | rfl <;> rfl
theorem onesR : ∀ (x : RaM), ∀ u ∈ x.cells, isOne u = true := fun x u hu => by
  simp only [RaM.cells, List.mem_cons, List.not_mem_nil, or_false] at hu
  rcases hu with rfl | rfl <;> rfl
/-- A state of the call's own. -/
def StOwn (z : Z) (B : Bl) (u : Value) (s : StM) : Prop := ∃ Bf Bl xs, B = Bf ++ Bl ∧ OwnSl 63 5 Bf u s.length xs ∧ MF z Bl xs s
theorem refCopied {v : Value} {s : StM} {z : Z} {w : World} (hs : StR z v s) (hn : s.length ≤ 1000) (hf : ∀ f ∈ s, f.traps.length ≤ 1000000 ∧ f.pend.length ≤ 1000000) :
    Fn 93 #[v] z [] w fun z' B' r => ∃ u, r = .agg #[u] ∧ StOwn z' B' u s := Fn.intro fun hS => en93 (by
  unfold vc93
  obtain ⟨u, rfl, hu⟩ := hs
  obtain ⟨hb, a, cap, rfl, hc, hel⟩ := hu.form
  refine iV_bx ?_
  intro b1 w1 hb1 hS1
  refine iV_al ?_
  intro b2 w2 hb2 hS2
  refine iV_al ?_
  intro b3 w3 hb3 hS3
  refine LoopG1 (fun (i : Nat) y w' => y = .int .i64 i ∧ i ≤ s.length ∧ ∃ z' Bf Bl xs x, Res w z [] w' z' (Bf ++ (Bl ++ [(b3, .cells [x].toArray 28 (0, 0)), (b2, .cells [.slice none 0 0].toArray 28 (0, 0)), (b1, .cells [.slice a s.length cap].toArray 28 (0, 0))])) ∧ OwnSl 63 5 Bf x i xs ∧ MF z' Bl xs (s.take i)) (fun i => s.length - i) 0 ⟨rfl, by omega, z, [], [], [], _, hS3, OwnSl.nil, .inl ⟨rfl, rfl, rfl⟩⟩ ?_
  clear hS1 hS2 hS3
  rintro I M i y w4 m ⟨rfl, h1, z4, Bf, Bl, xs, x, hS4, ho, hm⟩ back
  obtain ⟨ax, capx, rfl, hcx⟩ := ho.form
  (repeat (first | refine V_run ?_ | refine iV_ld1 ?_))
  refine Cond_d (fun hh => ?_) (fun hh => ?_)
  · have hlt : i < s.length := by omega
    obtain ⟨b, off, cs, rfl, hr, hat⟩ := hel i _ (List.getElem?_eq_getElem hlt)
    haveI : InR (i : Int) s.length := ⟨by omega, by omega⟩
    haveI : InI ((i : Int) + 1) := ⟨by omega⟩
    have hfi := hf _ (List.getElem_mem hlt)
    obtain ⟨u1, u2, rfl, hu1, hu2, hd⟩ := hr
    obtain ⟨_, a1, cap1, rfl, _, _⟩ := id hu1.form
    obtain ⟨_, a2, cap2, rfl, _, _⟩ := id hu2.form
    haveI : Fz z b (off + (i : Int).toNat * 5) (.slice a1 s[i].traps.length cap1 :: .slice a2 s[i].pend.length cap2 :: s[i].info.cells) := ⟨by rw [Int.toNat_natCast]; exact hat⟩
    dsimp only [InM.cells] at *
    (repeat (first | refine V_run ?_ | refine iV_ld1 ?_ | refine fV_ldN ?_))
    refine iV_al ?_
    intro b5 w5 hb5 hS5
    (repeat (refine iU_st ?_; intro _ _))
    refine V_bs (parts := []) rfl (by omega) ?_
    intro b18 w18 hb18 hS18
    (repeat (first | refine V_run ?_ | refine iV_ld1 ?_))
    refine V_cp (E := El.trap) (f := TrM.cells) hS18 (hu1.mono (by (repeat (exact Res.zle (by assumption))))) (fun _ _ _ h => h.1) (fun _ => rfl) onesT (by omega) (by decide) ?_
    intro Bt vt w19 hot hS19
    obtain ⟨at_, capt, rfl, hct⟩ := hot.form
    (repeat (first | refine V_run ?_ | (refine iU_st ?_; intro _ _)))
    refine V_bs (parts := []) rfl (by omega) ?_
    intro b23 w23 hb23 hS23
    (repeat (first | refine V_run ?_ | refine iV_ld1 ?_))
    refine V_cp (E := El.raised) (f := RaM.cells) hS23 (hu2.mono (by (repeat (exact Res.zle (by assumption))))) (fun _ _ _ h => h.1) (fun _ => rfl) onesR (by omega) (by decide) ?_
    intro Bp vp w24 hop hS24
    obtain ⟨ap, capp, rfl, hcp⟩ := hop.form
    (repeat (first | refine V_run ?_ | refine iV_ld1 ?_ | refine iV_ldN ?_ | (refine iU_st ?_; intro _ _)))
    refine V_bs (parts := [(0, _)]) rfl (by omega) ?_
    intro b31 w31 hb31 hS31
    have hat4 : At (hp w31) b31 0 [.slice at_ s[i].traps.length capt, .slice ap s[i].pend.length capp, .int .i64 s[i].info.cond, .int .i64 s[i].info.mode, .string s[i].info.desc] := ⟨_, _, _, (hS31.mem _ List.mem_cons_self).1, fun j v hv => by simpa using hv⟩
    have hS32 := Res.keep [.bl Bf, .bl Bl, .bl Bt, .bl Bp, .at b3, .at b2, .at b1] hS31
    refine V_app (B := Bf) (m := 1) (n := i) (xs := xs) (news := [.slice at_ s[i].traps.length capt, .slice ap s[i].pend.length capp, .int .i64 s[i].info.cond, .int .i64 s[i].info.mode, .string s[i].info.desc]) hS32 ho hat4 rfl (fun u hu => by simp at hu; rcases hu with rfl | rfl | rfl | rfl | rfl <;> rfl) (by omega) (by simp only [room]; omega) (by simp only [room]; omega) ?_
    intro B7 v7 w7 ho7 hS7
    obtain ⟨a7, cap7, rfl, _⟩ := ho7.form
    obtain ⟨z8, hz8, hS8, hfr⟩ := hm.freeze (Res.bring Bl hS7)
    clear hS31 hS32 hS7
    (repeat (first | refine V_run ?_ | (refine iU_st ?_; intro _ _)))
    refine back (i + 1) _ _ ⟨by simp, by omega, z8, B7, Bt ++ Bp, _, _, ?_, ho7, .inr ⟨s.take i, s[i], xs, _, (List.take_append_getElem hlt).symm, rfl, hfr, ⟨Bt, Bp, _, _, rfl, rfl, hot, hop⟩, hfi.1, hfi.2, fun t ht => ?_, fun t ht => ?_, hd⟩⟩ (by omega)
    · rw [List.append_assoc]
      exact Res.keep [.bl B7, .bl Bt, .bl Bp, .at b3, .at b2, .at b1] (by assumption)
    · exact (hu1.mem ht).choose_spec.2
    · exact (hu2.mem ht).choose_spec.2
  · obtain rfl : i = s.length := by omega
    rw [List.take_length] at hm
    (repeat (first | refine iV_ldN ?_ | (refine iU_st ?_; intro _ _) | refine iHV_N ?_))
    rename_i hSe
    exact ⟨_, _, by have := Res.keep [.bl Bf, .bl Bl] hSe; rwa [List.append_nil] at this, _, rfl, Bf, Bl, xs, rfl, ho, hm⟩)
end Go.Proofs.Ytjnckainogpenaa
end
