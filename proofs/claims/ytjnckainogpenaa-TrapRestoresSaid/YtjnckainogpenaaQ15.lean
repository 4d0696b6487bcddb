/- Appending nothing; slices read as a whole; freezing an own slice; cells behind a part of a list. -/
import Derived.Test.YtjnckainogpenaaQ14
set_option linter.unusedVariables false
set_option linter.unusedSimpArgs false
set_option maxRecDepth 20000
namespace Go.Proofs.Ytjnckainogpenaa
open Go Q Go.RowKit
section
variable {w0 w w' : World} {z0 z z' : Z} {B0 B B' L F : Bl} {b : Nat} {o : Obj} {C : Obj → Bl} {K : Value → World → Prop}
/-- **append(v, nothing...)**, to a slice that is not nil. -/
theorem V_app0 {t ty e size bytes : Nat} [g : TyApp t e size bytes] {b n cap c : Nat} {a : Option Addr} {xs sp : List Value} (hS : Res w0 z0 B0 w z ((b, .cells (xs ++ sp).toArray e (0, 0)) :: L)) (hl : (xs ++ sp).length = cap * size) (hx : xs.length = n * size) (hc : n ≤ cap)
    (hk : K (.slice (some ⟨b, 0, none⟩) n cap) w) : V (Builtin.append_ #[t, t] ty #[.slice (some ⟨b, 0, none⟩) n cap, .slice a 0 c]) w K := by
  obtain ⟨zv, hinfo, hzs⟩ := g.info
  obtain ⟨i, hi, hz⟩ := Option.map_eq_some_iff.1 hinfo
  simp only [Prod.mk.injEq] at hz
  obtain ⟨hz0, hz1, hz2⟩ := hz
  have hat := hS.mem (b, .cells (xs ++ sp).toArray e (0, 0)) (by simp)
  have hfit : n * i.size + 0 ≤ (xs ++ sp).toArray.size := by rw [hz1, Nat.add_zero]; simp only [List.size_toArray, hl]; exact Nat.mul_le_mul_right _ hc
  cases a with
  | some a =>
    have hr := run_append_room (P := Try.prog) w t ty e i g.und hi b n cap (xs ++ sp).toArray hat.1 a 0 c [] (by simp) (by simp) (by simp) (by omega) hfit
    refine ⟨_, _, hr, ?_⟩
    rw [setRow_eq hat.1]
    have : ((xs ++ sp).toArray.toList.take (n * i.size) ++ [] ++ (xs ++ sp).toArray.toList.drop (n * i.size + ([] : List Value).length)).toArray = (xs ++ sp).toArray := by simp
    rw [this, heap_set_self hat.1]
    exact hk
  | none =>
    have h0 : Builtin.lenOf (.slice none 0 c) = pure 0 := rfl
    have hu : ∀ w, (underlying t).run Try.prog w = .ok (.slice e) w := fun w => run_underlying g.und w
    refine ⟨.slice (some ⟨b, 0, none⟩) n cap, w, ?_, hk⟩
    have hs0 : ∀ (a : Addr) w, (storeCells a [] 0).run Try.prog w = .ok () w := fun a w => rfl
    simp [Builtin.append_, run_underlying g.und, sizeOf, typeInfo, hi, Builtin.lenOf, hc, Builtin.firstCells, Sem.run_bind, program, Sem.run, hs0]
/-- All cells of a slice. -/
theorem SlR.all {α : Type} {E : El α} {v : Value} {xs : List α} (f : α → List Value) (h : SlR E z v xs) (hf : ∀ z cs x, E.rel z cs x → cs = f x) (hn : xs ≠ []) : ∃ b off cap, v = .slice (some ⟨b, off, none⟩) xs.length cap ∧ xs.length ≤ big ∧ At z b off (xs.flatMap f) := by
  obtain ⟨a, cap, rfl, h2, h3, h4⟩ := h
  obtain ⟨b, off, rfl, h6⟩ := h4 hn
  refine ⟨b, off, cap, rfl, h3, ?_⟩
  have hobj : ∃ c ty fr, z b = some (.cells c ty fr) := by
    cases xs with
    | nil => exact absurd rfl hn
    | cons x xs =>
      obtain ⟨cs, _, c, ty, fr, h7, _⟩ := h6 0 x rfl
      exact ⟨c, ty, fr, h7⟩
  obtain ⟨c, ty, fr, hc⟩ := hobj
  refine ⟨c, ty, fr, hc, ?_⟩
  have key : ∀ (l : List α) (k : Nat), (∀ i x, l[i]? = some x → (f x).length = E.size ∧ ∀ j v, (f x)[j]? = some v → c[off + (k + i) * E.size + j]? = some v) → ∀ j v, (l.flatMap f)[j]? = some v → c[off + k * E.size + j]? = some v := by
    intro l
    induction l with
    | nil => intro k _ j v hv; simp at hv
    | cons x l ih =>
      intro k hl j v hv
      rw [List.flatMap_cons] at hv
      obtain ⟨h8, h9⟩ := hl 0 x rfl
      by_cases hj : j < (f x).length
      · rw [List.getElem?_append_left hj] at hv
        simpa using h9 j v hv
      · rw [List.getElem?_append_right (by omega)] at hv
        have := ih (k + 1) (fun i y hy => by
          have := hl (i + 1) y (by simpa using hy)
          rw [show k + 1 + i = k + (i + 1) by omega]
          exact this) (j - (f x).length) v hv
        rw [h8, Nat.add_mul] at this
        rw [← this]
        congr 1
        omega
  intro j v hv
  have := key xs 0 (fun i x hx => by
    obtain ⟨cs, h7, c', ty', fr', h8, h9⟩ := h6 i x hx
    rw [hc] at h8
    cases h8
    have hl := E.len h7
    rw [hf _ _ _ h7] at h9 hl
    exact ⟨hl, fun j v hv => by rw [Nat.zero_add]; exact h9 j v hv⟩) j v hv
  simpa using this
theorem flat_len {α : Type} {f : α → List Value} {n : Nat} (hf : ∀ x, (f x).length = n) (xs : List α) : (xs.flatMap f).length = xs.length * n := by
  induction xs with
  | nil => simp
  | cons x xs ih => rw [List.flatMap_cons, List.length_append, ih, hf, List.length_cons, Nat.add_mul]; omega
theorem flat_get {α : Type} {f : α → List Value} {n : Nat} (hf : ∀ x, (f x).length = n) {xs : List α} {i : Nat} {x : α} (hx : xs[i]? = some x) (j : Nat) (v : Value) (hv : (f x)[j]? = some v) : (xs.flatMap f)[i * n + j]? = some v := by
  induction xs generalizing i with
  | nil => simp at hx
  | cons y xs ih =>
    rw [List.flatMap_cons]
    have hj := (List.getElem?_eq_some_iff.1 hv).1
    cases i with
    | zero =>
      simp at hx; subst hx
      rw [Nat.zero_mul, Nat.zero_add, List.getElem?_append_left hj]
      exact hv
    | succ i =>
      rw [List.getElem?_append_right (by rw [hf, Nat.add_mul]; omega), hf, show (i + 1) * n + j - n = i * n + j by rw [Nat.add_mul]; omega]
      exact ih (by simpa using hx)
/-- An own slice is frozen, and reads as it did. -/
theorem Res.freezeSl {α : Type} {E : El α} {e : Nat} {v : Value} {xs : List α} {f : α → List Value} (h : Res w0 z0 B0 w z (B ++ L)) (ho : OwnSl e E.size B v xs.length (xs.flatMap f)) (hb : xs.length ≤ big) (hf : ∀ x, (f x).length = E.size) (hr : ∀ z x, x ∈ xs → E.rel z (f x) x) :
    ∃ z', Le z z' ∧ Res w0 z0 B0 w z' L ∧ SlR E z' v xs := by
  rcases ho.2 with ⟨rfl, rfl, h0⟩ | ⟨b, cap, sp, rfl, rfl, h1, h2, h3⟩
  · have : xs = [] := List.eq_nil_of_length_eq_zero h0
    subst this
    exact ⟨z, Le.refl _, h, SlR.nil⟩
  · refine ⟨_, Res.freeze_le h, Res.freeze h, some ⟨b, 0, none⟩, cap, rfl, h1, hb, fun _ => ⟨b, 0, rfl, fun i x hx => ⟨f x, hr _ _ (List.mem_of_getElem? hx), _, _, _, if_pos rfl, fun j v hv => ?_⟩⟩⟩
    have := flat_get hf hx j v hv
    have hlt := (List.getElem?_eq_some_iff.1 this).1
    simp only [Nat.zero_add, List.getElem?_toArray]
    rw [List.getElem?_append_left hlt]
    exact this
/-- A call that is handed nothing and leaves blocks of its own. -/
theorem CV_fn0 [hS : Res w0 z0 B0 w z L] {f : FuncId} [Enters f] {args : Array Value} {R : Z → Bl → Value → Prop} (h : Le z0 z → Fn f args z [] w R) (hk : ∀ z' B' w' v, Le z z' → Res w0 z0 B0 w' z' (B' ++ L) → R z' B' v → K v w') :
    CV (.func (.func f) #[] #[]) args w K := CV_fn (B := []) hS (h hS.zle) (by simp) hk
theorem Va.call0 [hS : Res w0 z0 B0 w z L] {f : Value} {args : Array Value} {R : Z → Bl → Value → Prop} (h : Le z0 z → Va f args z [] w R) (hk : ∀ z' B' w' v, Le z z' → Res w0 z0 B0 w' z' (B' ++ L) → R z' B' v → K v w') :
    CV f args w K := CV_va (B := []) hS (h hS.zle) hk
/-! ### Cells behind a part of a list -/
instance (priority := 550) {a i j : Nat} : AddN (a + i) j (a + (i + j)) := ⟨Nat.add_assoc a i j⟩
instance {ps l : List Value} {i : Nat} {v : Value} [g : Get l i v] : Get (ps ++ l) (ps.length + i) v := ⟨by rw [List.getElem?_append_right (by omega), Nat.add_sub_cancel_left]; exact g.h⟩
instance {ps l : List Value} {v : Value} [g : Get l 0 v] : Get (ps ++ l) ps.length v := ⟨by rw [List.getElem?_append_right (Nat.le_refl _), Nat.sub_self]; exact g.h⟩
instance {ps l vs : List Value} {i n : Nat} [g : GetN l i n vs] : GetN (ps ++ l) (ps.length + i) n vs := ⟨g.len, fun j v h => by rw [List.getElem?_append_right (by omega), show ps.length + i + j - ps.length = i + j by omega]; exact g.h j v h⟩
instance {ps l vs : List Value} {n : Nat} [g : GetN l 0 n vs] : GetN (ps ++ l) ps.length n vs := ⟨g.len, fun j v h => by
  have := g.h j v h
  rw [Nat.zero_add] at this
  rw [List.getElem?_append_right (by omega), Nat.add_sub_cancel_left]; exact this⟩
theorem SetN.behind {ps l vs l' : List Value} {i : Nat} (g : SetN l i vs l') : SetN (ps ++ l) (ps.length + i) vs (ps ++ l') where
  len := by simp [g.len]
  bound := by have := g.bound; simp; omega
  inn := fun j v h => by rw [List.getElem?_append_right (by omega), show ps.length + i + j - ps.length = i + j by omega]; exact g.inn j v h
  out := fun k hk => by
    by_cases hp : k < ps.length
    · rw [List.getElem?_append_left hp, List.getElem?_append_left hp]
    · rw [List.getElem?_append_right (by omega), List.getElem?_append_right (by omega)]
      exact g.out _ (by omega)
instance {ps l vs l' : List Value} {i : Nat} [g : SetN l i vs l'] : SetN (ps ++ l) (ps.length + i) vs (ps ++ l') := g.behind
instance {ps l vs l' : List Value} [g : SetN l 0 vs l'] : SetN (ps ++ l) ps.length vs (ps ++ l') := g.behind
/-! ### An array's literal -/
instance {t n e : Nat} {zs out : List Value} {parts : List (Nat × Value)} [g : TyArr t n e 1] [gz : TyZero t zs] [gl : LenIs zs n] [gf : FillS 1 0 parts out n] : Run (bd t parts.toArray) (.agg out.toArray) := ⟨fun w => by
  obtain ⟨v, h1, h2⟩ := gz.h
  obtain ⟨k1, k2, k3⟩ := gf.h
  have hl := gl.h
  have hf := k3 [] zs (by simp) (by rw [hl, k1]; simp)
  simp only [List.nil_append] at hf
  simp only [bd, Instr.build, Sem.run_bind, h2, Result.andThen_ok, g.und, g.size, h1, hf]
  rfl⟩
/-- **append(v, news...)**; what v held is still there. -/
theorem V_appX {t ty e size bytes : Nat} [g : TyApp t e size bytes] {v : Value} {n m c b' off' : Nat} {xs news : List Value} (hS : Res w0 z0 B0 w z (B ++ L)) (ho : OwnSl e size B v n xs)
    (hn : At (hp w) b' off' news) (hl : news.length = m * size) (h1 : ∀ u ∈ news, isOne u = true) (hm : 0 < m) (hb : (n + m) * bytes ≤ room) (hb2 : n + m ≤ room)
    (hk : ∀ B' v' w', OwnSl e size B' v' (n + m) (xs ++ news) → Res w0 z0 B0 w' z (B' ++ L) → (∀ b cap, v = .slice (some ⟨b, 0, none⟩) n cap → At (hp w') b 0 xs) → K v' w') : V (Builtin.append_ #[t, t] ty #[v, .slice (some ⟨b', off', none⟩) m c]) w K := by
  obtain ⟨zv, hinfo, hzs⟩ := g.info
  obtain ⟨i, hi, hz⟩ := Option.map_eq_some_iff.1 hinfo
  simp only [Prod.mk.injEq] at hz
  obtain ⟨hz0, hz1, hz2⟩ := hz
  have hnews : ∀ j u, news[j]? = some u → w.cell? ((⟨b', off', none⟩ : Addr).add j) = some u := fun j u hu => by rw [add_addr]; exact hn.cell hu
  have hlen : (xs ++ news).length = (n + m) * size := by rw [List.length_append, ho.1, hl, Nat.add_mul]
  simp only [room] at hb hb2
  have hmax : n + m ≤ maxLen := by simp only [maxLen]; omega
  have h63 : ((n + m : Nat) : Int) ≤ 9223372036854775807 := by simp only [maxLen] at hmax; omega
  have grown : ∀ (old : Nat) (w1 : World), w1 = w.drew.alloc (.cells (xs.toArray ++ news.toArray ++ Builtin.zeroCells zv.cells (grownCap w (n + m) old e - (n + m))) e) →
      Res w0 z0 B0 w1 z ((w.heap.size, .cells (xs ++ news ++ (Builtin.zeroCells zv.cells (grownCap w (n + m) old e - (n + m))).toList).toArray e (0, 0)) :: (B ++ L)) := fun old w1 hw1 => by
    subst hw1
    have := Res.new (Res.drew hS) (.cells (xs ++ news ++ (Builtin.zeroCells zv.cells (grownCap w (n + m) old e - (n + m))).toList).toArray e (0, 0))
    have he : (xs.toArray ++ news.toArray ++ Builtin.zeroCells zv.cells (grownCap w (n + m) old e - (n + m))) = (xs ++ news ++ (Builtin.zeroCells zv.cells (grownCap w (n + m) old e - (n + m))).toList).toArray := by
      apply Array.toList_inj.1; simp
    rw [he]
    exact this
  have own' : ∀ (old : Nat), OwnSl e size [(w.heap.size, .cells (xs ++ news ++ (Builtin.zeroCells zv.cells (grownCap w (n + m) old e - (n + m))).toList).toArray e (0, 0))] (.slice (some ⟨w.heap.size, 0, none⟩) (n + m) (grownCap w (n + m) old e)) (n + m) (xs ++ news) := fun old => by
    have hge := grownCap_ge w (n + m) old e
    refine ⟨hlen, .inr ⟨_, _, _, rfl, rfl, hge, grownCap_le_maxLen w (n + m) old e hmax, ?_⟩⟩
    rw [List.length_append, hlen, Array.length_toList, size_zeroCells, hzs, ← Nat.add_mul]
    congr 1
    omega
  rcases ho.2 with ⟨rfl, rfl, rfl⟩ | ⟨b, cap, sp, rfl, rfl, hcap, hcm, hsz⟩
  · have hx0 : xs = [] := List.eq_nil_of_length_eq_zero (by have := ho.1; simpa using this)
    subst hx0
    have hr := run_append_nil (P := Try.prog) w t ty e i zv g.und hi hz0 ⟨b', off', none⟩ m c news (by rw [hz1]; exact hl) hnews hm (by simpa using h63) (by rw [hz2]; simp only [Nat.zero_add] at hb; omega)
    refine ⟨_, _, hr, ?_⟩
    have h5 := grown 0 _ rfl
    have h6 := own' 0
    simp only [Nat.zero_add] at h5 h6
    exact hk _ _ _ (by simpa using h6) (by simpa using h5) (fun _ _ hv => by cases hv)
  · by_cases hroom : n + m ≤ cap
    · have hat := hS.mem (b, .cells (xs ++ sp).toArray e (0, 0)) (by simp)
      have hfit : n * i.size + news.length ≤ (xs ++ sp).toArray.size := by
        rw [hz1, hl, ← Nat.add_mul]; simp only [List.size_toArray, hsz]; exact Nat.mul_le_mul_right _ hroom
      have hr := run_append_room (P := Try.prog) w t ty e i g.und hi b n cap (xs ++ sp).toArray hat.1 ⟨b', off', none⟩ m c news (by rw [hz1]; exact hl) hnews (fun u hu => oneCell'_of (h1 u hu)) hroom hfit
      refine ⟨_, _, hr, ?_⟩
      rw [setRow_eq hat.1]
      have e1 : (xs ++ sp).take (n * i.size) = xs := by rw [hz1, ← ho.1]; exact List.take_left
      have hnew : ((xs ++ sp).toArray.toList.take (n * i.size) ++ news ++ (xs ++ sp).toArray.toList.drop (n * i.size + news.length)) = xs ++ news ++ sp.drop news.length := by
        simp only [e1]
        rw [hz1, ← ho.1, List.drop_append, List.drop_of_length_le (by omega)]
        simp
      rw [hnew]
      refine hk [(b, .cells (xs ++ news ++ sp.drop news.length).toArray e (0, 0))] _ _ ⟨hlen, .inr ⟨b, cap, sp.drop news.length, rfl, rfl, hroom, hcm, ?_⟩⟩ (Res.put hS _ rfl) (fun b1 cap1 hv => ?_)
      rotate_left
      · cases hv
        refine ⟨_, _, _, ((Res.put hS _ rfl).mem _ List.mem_cons_self).1, fun j u hu => ?_⟩
        simp only [Nat.zero_add, List.getElem?_toArray, List.append_assoc]
        rw [List.getElem?_append_left (List.getElem?_eq_some_iff.1 hu).1]
        exact hu
      rw [List.length_append, hlen, List.length_drop]
      have : sp.length = cap * size - n * size := by rw [← hsz, List.length_append, ho.1]; omega
      rw [this, hl, Nat.add_mul]
      have : (n + m) * size ≤ cap * size := Nat.mul_le_mul_right _ hroom
      rw [Nat.add_mul] at this
      omega
    · have hat := hS.mem (b, .cells (xs ++ sp).toArray e (0, 0)) (by simp)
      have holds : ∀ j u, xs[j]? = some u → w.cell? ((⟨b, 0, none⟩ : Addr).add j) = some u := fun j u hu => by
        rw [add_addr]
        refine At.cell (vs := xs) ⟨_, _, _, hat.1, fun j u hu => ?_⟩ hu
        simp only [Nat.zero_add, List.getElem?_toArray]
        rw [List.getElem?_append_left (List.getElem?_eq_some_iff.1 hu).1]
        exact hu
      have hr := run_append_grow (P := Try.prog) w t ty e i zv g.und hi hz0 ⟨b, 0, none⟩ n cap xs (by rw [hz1]; exact ho.1) holds ⟨b', off', none⟩ m c news (by rw [hz1]; exact hl) hnews (by omega) h63 (growslice_fits (by omega) (by rw [hz2]; exact hb))
      refine ⟨_, _, hr, hk _ _ _ (own' cap) ((grown cap _ rfl).sublist ?_) (fun b1 cap1 hv => ?_)⟩
      · simp
      · cases hv
        have h9 := ((grown cap _ rfl).mem (b, .cells (xs ++ sp).toArray e (0, 0)) (by simp)).1
        refine ⟨_, _, _, h9, fun j u hu => ?_⟩
        simp only [Nat.zero_add, List.getElem?_toArray]
        rw [List.getElem?_append_left (List.getElem?_eq_some_iff.1 hu).1]
        exact hu
end
end Go.Proofs.Ytjnckainogpenaa
