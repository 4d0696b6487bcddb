/- Slices that are read, slices of the call's own, appending, loops. -/
import Derived.Test.YtjnckainogpenaaQ10
set_option linter.unusedVariables false
set_option linter.unusedSimpArgs false
set_option maxRecDepth 20000
namespace Go.Proofs.Ytjnckainogpenaa
open Go Q Go.RowKit

/-! ### 1. Loops -/
noncomputable def leastOf (p : Nat → Prop) : Nat := by
  classical exact if h : ∃ n, p n ∧ ∀ m, p m → n ≤ m then Classical.choose h else 0
theorem least_exists {p : Nat → Prop} (h : ∃ n, p n) : ∃ n, p n ∧ ∀ m, p m → n ≤ m := by
  obtain ⟨n, hn⟩ := h
  induction n using Nat.strongRecOn with
  | _ n ih =>
    by_cases hx : ∃ m, m < n ∧ p m
    · obtain ⟨m, hm, hp⟩ := hx; exact ih m hm hp
    · exact ⟨n, hn, fun m hm => Nat.le_of_not_lt fun hlt => hx ⟨m, hlt, hm⟩⟩
theorem leastOf_spec {p : Nat → Prop} (h : ∃ n, p n) : p (leastOf p) ∧ ∀ m, p m → leastOf p ≤ m := by
  have h' := least_exists h
  unfold leastOf
  rw [dif_pos h']
  exact Classical.choose_spec h'
section
variable {α : Type}
theorem loop_core (Inv : α → List Value → World → Prop) (μ : α → Nat) {body : (List Value → World → Prop) → (List Value → World → Nat) → List Value → World → Nat → Prop} {l0 : List Value} {w : World} (a0 : α) (h0 : Inv a0 l0 w)
    (hs : ∀ I M a l w m, Inv a l w → (∀ a' l' w', Inv a' l' w' → μ a' < μ a → I l' w' ∧ M l' w' < m) → body I M l w m) :
    ∃ (I : List Value → World → Prop) (M : List Value → World → Nat), I l0 w ∧ ∀ l w, I l w → ∀ m, m = M l w → body I M l w m := by
  refine ⟨fun l w => ∃ a, Inv a l w, fun l w => leastOf fun m => ∃ a, Inv a l w ∧ μ a = m, ⟨a0, h0⟩, ?_⟩
  rintro l w ⟨a, ha⟩ m rfl
  obtain ⟨⟨a1, h1, h2⟩, h3⟩ := leastOf_spec (p := fun m => ∃ a, Inv a l w ∧ μ a = m) ⟨μ a, a, ha, rfl⟩
  refine hs _ _ a1 l w _ h1 fun a' l' w' h4 h5 => ⟨⟨a', h4⟩, ?_⟩
  exact Nat.lt_of_le_of_lt ((leastOf_spec (p := fun m => ∃ a, Inv a l' w' ∧ μ a = m) ⟨μ a', a', h4, rfl⟩).2 _ ⟨a', h4, rfl⟩) (Nat.lt_of_lt_of_eq h5 h2)
theorem LoopG0 (Inv : α → World → Prop) (μ : α → Nat) {body : (List Value → World → Prop) → (List Value → World → Nat) → World → Nat → Prop} {w : World} (a0 : α) (h0 : Inv a0 w)
    (hs : ∀ I M a w m, Inv a w → (∀ a' w', Inv a' w' → μ a' < μ a → I [] w' ∧ M [] w' < m) → body I M w m) :
    ∃ (I : List Value → World → Prop) (M : List Value → World → Nat), I [] w ∧ ∀ _ : Env, ∀ w, I [] w → ∀ m, m = M [] w → body I M w m := by
  obtain ⟨I, M, h1, h2⟩ := loop_core (fun a l w => l = [] ∧ Inv a w) μ (body := fun I M l w m => l = [] → body I M w m) a0 ⟨rfl, h0⟩ (fun I M a l w m ⟨h3, h4⟩ h5 _ => hs I M a w m h4 fun a' w' h6 h7 => h5 a' [] w' ⟨rfl, h6⟩ h7)
  exact ⟨I, M, h1, fun _ w h m hm => h2 [] w h m hm rfl⟩
theorem LoopG1 (Inv : α → Value → World → Prop) (μ : α → Nat) {body : (List Value → World → Prop) → (List Value → World → Nat) → Value → World → Nat → Prop} {x0 : Value} {w : World} (a0 : α) (h0 : Inv a0 x0 w)
    (hs : ∀ I M a x w m, Inv a x w → (∀ a' x' w', Inv a' x' w' → μ a' < μ a → I [x'] w' ∧ M [x'] w' < m) → body I M x w m) :
    ∃ (I : List Value → World → Prop) (M : List Value → World → Nat), I [x0] w ∧ ∀ _ : Env, ∀ x, ∀ w, I [x] w → ∀ m, m = M [x] w → body I M x w m := by
  obtain ⟨I, M, h1, h2⟩ := loop_core (fun a l w => ∃ x, l = [x] ∧ Inv a x w) μ (body := fun I M l w m => ∀ x, l = [x] → body I M x w m) a0 ⟨x0, rfl, h0⟩ (fun I M a l w m ⟨x, h3, h4⟩ h5 y hy => by
    rw [hy] at h3; cases h3
    exact hs I M a y w m h4 fun a' x' w' h6 h7 => h5 a' [x'] w' ⟨x', rfl, h6⟩ h7)
  exact ⟨I, M, h1, fun _ x w h m hm => h2 [x] w h m hm x rfl⟩
theorem LoopG2 (Inv : α → Value → Value → World → Prop) (μ : α → Nat) {body : (List Value → World → Prop) → (List Value → World → Nat) → Value → Value → World → Nat → Prop} {x0 y0 : Value} {w : World} (a0 : α) (h0 : Inv a0 x0 y0 w)
    (hs : ∀ I M a x y w m, Inv a x y w → (∀ a' x' y' w', Inv a' x' y' w' → μ a' < μ a → I [x', y'] w' ∧ M [x', y'] w' < m) → body I M x y w m) :
    ∃ (I : List Value → World → Prop) (M : List Value → World → Nat), I [x0, y0] w ∧ ∀ _ : Env, ∀ x, ∀ y, ∀ w, I [x, y] w → ∀ m, m = M [x, y] w → body I M x y w m := by
  obtain ⟨I, M, h1, h2⟩ := loop_core (fun a l w => ∃ x y, l = [x, y] ∧ Inv a x y w) μ (body := fun I M l w m => ∀ x y, l = [x, y] → body I M x y w m) a0 ⟨x0, y0, rfl, h0⟩ (fun I M a l w m ⟨x, y, h3, h4⟩ h5 x' y' hy => by
    rw [hy] at h3; cases h3
    exact hs I M a x' y' w m h4 fun a' x'' y'' w' h6 h7 => h5 a' [x'', y''] w' ⟨x'', y'', rfl, h6⟩ h7)
  exact ⟨I, M, h1, fun _ x y w h m hm => h2 [x, y] w h m hm x y rfl⟩
theorem LoopG3 (Inv : α → Value → Value → Value → World → Prop) (μ : α → Nat) {body : (List Value → World → Prop) → (List Value → World → Nat) → Value → Value → Value → World → Nat → Prop} {x0 y0 u0 : Value} {w : World} (a0 : α) (h0 : Inv a0 x0 y0 u0 w)
    (hs : ∀ I M a x y u w m, Inv a x y u w → (∀ a' x' y' u' w', Inv a' x' y' u' w' → μ a' < μ a → I [x', y', u'] w' ∧ M [x', y', u'] w' < m) → body I M x y u w m) :
    ∃ (I : List Value → World → Prop) (M : List Value → World → Nat), I [x0, y0, u0] w ∧ ∀ _ : Env, ∀ x, ∀ y, ∀ u, ∀ w, I [x, y, u] w → ∀ m, m = M [x, y, u] w → body I M x y u w m := by
  obtain ⟨I, M, h1, h2⟩ := loop_core (fun a l w => ∃ x y u, l = [x, y, u] ∧ Inv a x y u w) μ (body := fun I M l w m => ∀ x y u, l = [x, y, u] → body I M x y u w m) a0 ⟨x0, y0, u0, rfl, h0⟩ (fun I M a l w m ⟨x, y, u, h3, h4⟩ h5 x' y' u' hy => by
    rw [hy] at h3; cases h3
    exact hs I M a x' y' u' w m h4 fun a' x'' y'' u'' w' h6 h7 => h5 a' [x'', y'', u''] w' ⟨x'', y'', u'', rfl, h6⟩ h7)
  exact ⟨I, M, h1, fun _ x y u w h m hm => h2 [x, y, u] w h m hm x y u rfl⟩
theorem LoopG4 (Inv : α → Value → Value → Value → Value → World → Prop) (μ : α → Nat) {body : (List Value → World → Prop) → (List Value → World → Nat) → Value → Value → Value → Value → World → Nat → Prop} {x0 y0 u0 v0 : Value} {w : World} (a0 : α) (h0 : Inv a0 x0 y0 u0 v0 w)
    (hs : ∀ I M a x y u v w m, Inv a x y u v w → (∀ a' x' y' u' v' w', Inv a' x' y' u' v' w' → μ a' < μ a → I [x', y', u', v'] w' ∧ M [x', y', u', v'] w' < m) → body I M x y u v w m) :
    ∃ (I : List Value → World → Prop) (M : List Value → World → Nat), I [x0, y0, u0, v0] w ∧ ∀ _ : Env, ∀ x, ∀ y, ∀ u, ∀ v, ∀ w, I [x, y, u, v] w → ∀ m, m = M [x, y, u, v] w → body I M x y u v w m := by
  obtain ⟨I, M, h1, h2⟩ := loop_core (fun a l w => ∃ x y u v, l = [x, y, u, v] ∧ Inv a x y u v w) μ (body := fun I M l w m => ∀ x y u v, l = [x, y, u, v] → body I M x y u v w m) a0 ⟨x0, y0, u0, v0, rfl, h0⟩ (fun I M a l w m ⟨x, y, u, v, h3, h4⟩ h5 x' y' u' v' hy => by
    rw [hy] at h3; cases h3
    exact hs I M a x' y' u' v' w m h4 fun a' x'' y'' u'' v'' w' h6 h7 => h5 a' [x'', y'', u'', v''] w' ⟨x'', y'', u'', v'', rfl, h6⟩ h7)
  exact ⟨I, M, h1, fun _ x y u v w h m hm => h2 [x, y, u, v] w h m hm x y u v rfl⟩
end

/-! ### 2. Elements, and slices of them -/
/-- How data lie in cells. -/
structure El (α : Type) where
  size : Nat
  rel : Z → List Value → α → Prop
  mono : ∀ {z z' cs x}, rel z cs x → Le z z' → rel z' cs x
  len : ∀ {z cs x}, rel z cs x → cs.length = size
  pos : 0 < size
abbrev big : Nat := 9223372036854775807
/-- What one append may ask for, in bytes. -/
abbrev room : Nat := 140737488355328
/-- A slice that reads as the list xs. -/
def SlR {α : Type} (E : El α) (z : Z) (v : Value) (xs : List α) : Prop :=
  ∃ a cap, v = .slice a xs.length cap ∧ xs.length ≤ cap ∧ xs.length ≤ big ∧ (xs ≠ [] → ∃ b off, a = some ⟨b, off, none⟩ ∧ ∀ i x, xs[i]? = some x → ∃ cs, E.rel z cs x ∧ At z b (off + i * E.size) cs)
section
variable {α : Type} {E : El α} {z z' : Z} {v : Value} {xs : List α}
theorem SlR.mono (h : SlR E z v xs) (hz : Le z z') : SlR E z' v xs := by
  obtain ⟨a, cap, h1, h2, h3, h4⟩ := h
  refine ⟨a, cap, h1, h2, h3, fun hn => ?_⟩
  obtain ⟨b, off, h5, h6⟩ := h4 hn
  exact ⟨b, off, h5, fun i x hx => let ⟨cs, h7, h8⟩ := h6 i x hx; ⟨cs, E.mono h7 hz, h8.mono hz⟩⟩
theorem SlR.nil : SlR E z (.slice none 0 0) [] := ⟨none, 0, rfl, Nat.le_refl _, by simp, fun h => absurd rfl h⟩
/-- The slice's own form, and each of its elements. -/
theorem SlR.form (h : SlR E z v xs) : xs.length ≤ big ∧ ∃ a cap, v = .slice a xs.length cap ∧ xs.length ≤ cap ∧ ∀ i x, xs[i]? = some x → ∃ b off cs, a = some ⟨b, off, none⟩ ∧ E.rel z cs x ∧ At z b (off + i * E.size) cs := by
  obtain ⟨a, cap, h1, h2, h3, h4⟩ := h
  refine ⟨h3, a, cap, h1, h2, fun i x hx => ?_⟩
  obtain ⟨b, off, h5, h6⟩ := h4 (by intro hn; rw [hn] at hx; simp at hx)
  obtain ⟨cs, h7, h8⟩ := h6 i x hx
  exact ⟨b, off, cs, h5, h7, h8⟩
/-- A slice in one cell. -/
def El.sl (E : El α) : El (List α) where
  size := 1
  rel := fun z cs xs => ∃ v, cs = [v] ∧ SlR E z v xs
  mono := fun ⟨v, h1, h2⟩ hz => ⟨v, h1, h2.mono hz⟩
  len := fun ⟨v, h1, _⟩ => by rw [h1]; rfl
  pos := by decide
end
/-- Whole numbers; strings; truth values. -/
def El.int : El Int where
  size := 1
  rel := fun _ cs x => cs = [.int .i64 x]
  mono := fun h _ => h
  len := fun h => by rw [h]; rfl
  pos := by decide
def El.str : El ByteArray where
  size := 1
  rel := fun _ cs x => cs = [.string x] ∧ x.size ≤ big
  mono := fun h _ => h
  len := fun h => by rw [h.1]; rfl
  pos := by decide
def El.bool : El Bool where
  size := 1
  rel := fun _ cs x => cs = [.bool x]
  mono := fun h _ => h
  len := fun h => by rw [h]; rfl
  pos := by decide

/-! ### 3. A slice of the call's own -/
/-- The slice v of n elements owns the blocks B; its cells are xs. -/
def OwnSl (e size : Nat) (B : Bl) (v : Value) (n : Nat) (xs : List Value) : Prop :=
  xs.length = n * size ∧ ((B = [] ∧ v = .slice none 0 0 ∧ n = 0) ∨ ∃ b cap sp, B = [(b, .cells (xs ++ sp).toArray e (0, 0))] ∧ v = .slice (some ⟨b, 0, none⟩) n cap ∧ n ≤ cap ∧ cap ≤ maxLen ∧ (xs ++ sp).length = cap * size)
theorem OwnSl.nil {e size : Nat} : OwnSl e size [] (.slice none 0 0) 0 [] := ⟨by simp, .inl ⟨rfl, rfl, rfl⟩⟩
theorem OwnSl.form {e size n : Nat} {B : Bl} {v : Value} {xs : List Value} (h : OwnSl e size B v n xs) : ∃ a cap, v = .slice a n cap ∧ n ≤ cap := by
  rcases h.2 with ⟨_, rfl, rfl⟩ | ⟨b, cap, sp, _, rfl, h1, _⟩
  · exact ⟨none, 0, rfl, Nat.le_refl _⟩
  · exact ⟨_, cap, rfl, h1⟩
section
variable {w0 w w' : World} {z0 z z' : Z} {B0 B B' L F : Bl} {K : Value → World → Prop}
theorem heap_set_eq (w : World) (b : Nat) (o : Obj) : ({ w with heap := w.heap.setIfInBounds b o } : World) = { w with heap := w.heap.setIfInBounds b o } := rfl
theorem setRow_eq {w : World} {b : Nat} {c cs : Array Value} {t : TypeId} {fr : Nat × Nat} (h : w.heap[b]? = some (.cells c t fr)) : w.setRow b cs = { w with heap := w.heap.setIfInBounds b (.cells cs t fr) } := by
  unfold World.setRow
  congr 1
  apply Array.ext_getElem?
  intro j
  rw [Array.getElem?_modify, Array.getElem?_setIfInBounds]
  by_cases hj : b = j
  · subst hj
    have hb' := (Array.getElem?_eq_some_iff.1 h).2
    simp [lt_of_get h, hb']
  · simp [hj]
theorem oneCell'_of {v : Value} (h : isOne v = true) : v.oneCell' = true := by cases v <;> first | rfl | cases h
/-- **append(v, news...)** -/
theorem V_app {t ty e size bytes : Nat} [g : TyApp t e size bytes] {v : Value} {n m c b' off' : Nat} {xs news : List Value} (hS : Res w0 z0 B0 w z (B ++ L)) (ho : OwnSl e size B v n xs)
    (hn : At (hp w) b' off' news) (hl : news.length = m * size) (h1 : ∀ u ∈ news, isOne u = true) (hm : 0 < m) (hb : (n + m) * bytes ≤ room) (hb2 : n + m ≤ room)
    (hk : ∀ B' v' w', OwnSl e size B' v' (n + m) (xs ++ news) → Res w0 z0 B0 w' z (B' ++ L) → K v' w') : V (Builtin.append_ #[t, t] ty #[v, .slice (some ⟨b', off', none⟩) m c]) w K := by
  obtain ⟨zv, hinfo, hzs⟩ := g.info
  obtain ⟨i, hi, hz⟩ := Option.map_eq_some_iff.1 hinfo
  simp only [Prod.mk.injEq] at hz
  obtain ⟨hz0, hz1, hz2⟩ := hz
  have hnews : ∀ j u, news[j]? = some u → w.cell? ((⟨b', off', none⟩ : Addr).add j) = some u := fun j u hu => by rw [add_addr]; exact hn.cell hu
  have hlen : (xs ++ news).length = (n + m) * size := by rw [List.length_append, ho.1, hl, Nat.add_mul]
  simp only [room] at hb hb2
  have hmax : n + m ≤ maxLen := by simp only [maxLen]; omega
  have h63 : ((n + m : Nat) : Int) ≤ 9223372036854775807 := by simp only [maxLen] at hmax; omega
  have grown : ∀ (old : Nat) (w1 : World), w1 = w.drew.alloc (.cells (xs.toArray ++ news.toArray ++ Builtin.zeroCells zv.cells (grownCap w (n + m) old e - (n + m))) e) →
      Res w0 z0 B0 w1 z ((w.heap.size, .cells (xs ++ news ++ (Builtin.zeroCells zv.cells (grownCap w (n + m) old e - (n + m))).toList).toArray e (0, 0)) :: (B ++ L)) := fun old w1 hw1 => by
    subst hw1
    have := Res.new (Res.drew hS) (.cells (xs ++ news ++ (Builtin.zeroCells zv.cells (grownCap w (n + m) old e - (n + m))).toList).toArray e (0, 0))
    have he : (xs.toArray ++ news.toArray ++ Builtin.zeroCells zv.cells (grownCap w (n + m) old e - (n + m))) = (xs ++ news ++ (Builtin.zeroCells zv.cells (grownCap w (n + m) old e - (n + m))).toList).toArray := by
      apply Array.toList_inj.1; simp
    rw [he]
    exact this
  have own' : ∀ (old : Nat), OwnSl e size [(w.heap.size, .cells (xs ++ news ++ (Builtin.zeroCells zv.cells (grownCap w (n + m) old e - (n + m))).toList).toArray e (0, 0))] (.slice (some ⟨w.heap.size, 0, none⟩) (n + m) (grownCap w (n + m) old e)) (n + m) (xs ++ news) := fun old => by
    have hge := grownCap_ge w (n + m) old e
    refine ⟨hlen, .inr ⟨_, _, _, rfl, rfl, hge, grownCap_le_maxLen w (n + m) old e hmax, ?_⟩⟩
    rw [List.length_append, hlen, Array.length_toList, size_zeroCells, hzs, ← Nat.add_mul]
    congr 1
    omega
  rcases ho.2 with ⟨rfl, rfl, rfl⟩ | ⟨b, cap, sp, rfl, rfl, hcap, hcm, hsz⟩
  · have hx0 : xs = [] := List.eq_nil_of_length_eq_zero (by have := ho.1; simpa using this)
    subst hx0
    have hr := run_append_nil (P := Try.prog) w t ty e i zv g.und hi hz0 ⟨b', off', none⟩ m c news (by rw [hz1]; exact hl) hnews hm (by simpa using h63) (by rw [hz2]; simp only [Nat.zero_add] at hb; omega)
    refine ⟨_, _, hr, ?_⟩
    have h5 := grown 0 _ rfl
    have h6 := own' 0
    simp only [Nat.zero_add] at h5 h6
    exact hk _ _ _ (by simpa using h6) (by simpa using h5)
  · by_cases hroom : n + m ≤ cap
    · have hat := hS.mem (b, .cells (xs ++ sp).toArray e (0, 0)) (by simp)
      have hfit : n * i.size + news.length ≤ (xs ++ sp).toArray.size := by
        rw [hz1, hl, ← Nat.add_mul]; simp only [List.size_toArray, hsz]; exact Nat.mul_le_mul_right _ hroom
      have hr := run_append_room (P := Try.prog) w t ty e i g.und hi b n cap (xs ++ sp).toArray hat.1 ⟨b', off', none⟩ m c news (by rw [hz1]; exact hl) hnews (fun u hu => oneCell'_of (h1 u hu)) hroom hfit
      refine ⟨_, _, hr, ?_⟩
      rw [setRow_eq hat.1]
      have e1 : (xs ++ sp).take (n * i.size) = xs := by rw [hz1, ← ho.1]; exact List.take_left
      have hnew : ((xs ++ sp).toArray.toList.take (n * i.size) ++ news ++ (xs ++ sp).toArray.toList.drop (n * i.size + news.length)) = xs ++ news ++ sp.drop news.length := by
        simp only [e1]
        rw [hz1, ← ho.1, List.drop_append, List.drop_of_length_le (by omega)]
        simp
      rw [hnew]
      refine hk [(b, .cells (xs ++ news ++ sp.drop news.length).toArray e (0, 0))] _ _ ⟨hlen, .inr ⟨b, cap, sp.drop news.length, rfl, rfl, hroom, hcm, ?_⟩⟩ (Res.put hS _ rfl)
      rw [List.length_append, hlen, List.length_drop]
      have : sp.length = cap * size - n * size := by rw [← hsz, List.length_append, ho.1]; omega
      rw [this, hl, Nat.add_mul]
      have : (n + m) * size ≤ cap * size := Nat.mul_le_mul_right _ hroom
      rw [Nat.add_mul] at this
      omega
    · have hat := hS.mem (b, .cells (xs ++ sp).toArray e (0, 0)) (by simp)
      have holds : ∀ j u, xs[j]? = some u → w.cell? ((⟨b, 0, none⟩ : Addr).add j) = some u := fun j u hu => by
        rw [add_addr]
        refine At.cell (vs := xs) ⟨_, _, _, hat.1, fun j u hu => ?_⟩ hu
        simp only [Nat.zero_add, List.getElem?_toArray]
        rw [List.getElem?_append_left (List.getElem?_eq_some_iff.1 hu).1]
        exact hu
      have hr := run_append_grow (P := Try.prog) w t ty e i zv g.und hi hz0 ⟨b, 0, none⟩ n cap xs (by rw [hz1]; exact ho.1) holds ⟨b', off', none⟩ m c news (by rw [hz1]; exact hl) hnews (by omega) h63 (growslice_fits (by omega) (by rw [hz2]; exact hb))
      refine ⟨_, _, hr, hk _ _ _ (own' cap) ((grown cap _ rfl).sublist ?_)⟩
      simp
theorem run_pure {α : Type} (a : α) (w : World) : (pure a : Sem α).run Try.prog w = .ok a w := rfl
/-- A slice literal. -/
class FillS (size i : Nat) (parts : List (Nat × Value)) (out : outParam (List Value)) (n : outParam Nat) : Prop where
  h : n = i + parts.length ∧ out.length = parts.length * size ∧ (∀ pre rest : List Value, pre.length = i * size → rest.length = parts.length * size → Instr.fill (fun i => some (i * size, size)) (pre ++ rest).toArray parts = some (pre ++ out).toArray)
instance {size i : Nat} : FillS size i [] [] i := ⟨rfl, by simp, fun pre rest _ hr => by
  have : rest = [] := List.eq_nil_of_length_eq_zero (by simpa using hr)
  subst this; rfl⟩
theorem setL_append (vs pre rest : List Value) (h : vs.length ≤ rest.length) : setL (pre ++ rest) pre.length vs = pre ++ vs ++ rest.drop vs.length := by
  refine List.ext_getElem? fun k => ?_
  rw [setL_get _ _ _ _ (by simp; omega)]
  by_cases h1 : k < pre.length
  · rw [if_neg (by omega), List.getElem?_append_left h1, List.append_assoc, List.getElem?_append_left h1]
  · by_cases h2 : k - pre.length < vs.length
    · rw [if_pos (by omega), List.append_assoc, List.getElem?_append_right (by omega : pre.length ≤ k), List.getElem?_append_left h2]
    · rw [if_neg (by omega), List.append_assoc, List.getElem?_append_right (by omega : pre.length ≤ k), List.getElem?_append_right (by omega : pre.length ≤ k), List.getElem?_append_right (by omega : vs.length ≤ k - pre.length), List.getElem?_drop]
      congr 1; omega
instance {size i n : Nat} {v : Value} {vs out : List Value} {parts : List (Nat × Value)} [gc : CellsOf v vs] [gl : LenIs vs size] [gf : FillS size (i + 1) parts out n] : FillS size i ((i, v) :: parts) (vs ++ out) n := by
  obtain ⟨h1, h2, h3⟩ := gf.h
  have hv := gl.h
  refine ⟨by simp; omega, by simp [h2, hv, Nat.add_mul]; omega, fun pre rest hp hr => ?_⟩
  have hr' : rest.length = parts.length * size + size := by simpa [Nat.add_mul] using hr
  unfold Instr.fill
  have hcs : ¬ (i * size + size > (pre ++ rest).length) := by rw [List.length_append, hp, hr']; omega
  simp only [gc.h, List.size_toArray, hv, ne_eq, not_true_eq_false, decide_false, Bool.false_or, decide_eq_true_eq, hcs, if_false]
  have hfold : (vs.toArray.zipIdx.foldl (fun (cs : Array Value) (x : Value × Nat) => cs.setIfInBounds (i * size + x.2) x.1) (pre ++ rest).toArray) = (pre ++ vs ++ rest.drop size).toArray := by
    have := fold_set vs (pre ++ rest) (i * size) 0
    rw [Nat.add_zero, ← hp, setL_append _ _ _ (by omega), hv, hp] at this
    rw [← Array.foldl_toList, Array.toList_zipIdx]
    exact this
  rw [hfold, h3 (pre ++ vs) (rest.drop size) (by simp [hp, hv, Nat.add_mul]) (by simp [hr'])]
  simp
class TyFill (e size : Nat) : Prop where
  zero : ∃ v : Value, v.cells.size = size ∧ ∀ w, (zeroValue e).run Try.prog w = .ok v w
theorem V_bs {t e size n k : Nat} {parts : List (Nat × Value)} {out : List Value} [hS : Res w0 z0 B0 w z L] [g : TySlice t e size] [gz : TyFill e size] [gf : FillS size 0 parts out n] (hn : k = n) (hsz : n * size ≤ 16777216)
    (hk : ∀ b w', w0.heap.size ≤ b → Res w0 z0 B0 w' z ((b, .cells out.toArray e (0, 0)) :: L) → K (.slice (some ⟨b, 0, none⟩) n n) w') : V (bs t k parts.toArray) w K := by
  subst hn
  obtain ⟨zv, hz1, hz2⟩ := gz.zero
  obtain ⟨h1, h2, h3⟩ := gf.h
  simp only [Nat.zero_add] at h1
  have hfill : ∀ base : List Value, base.length = k * size → Instr.fill (fun i => some (i * size, size)) base.toArray parts = some out.toArray := fun base hb => by
    have := h3 [] base (by simp) (by rw [hb, h1])
    simpa using this
  refine ⟨_, _, ?_, hk w.heap.size _ hS.size (hS.new (.cells out.toArray e (0, 0)))⟩
  have hle : ¬ (k * size > 2 ^ 24) := by omega
  simp only [bs, Instr.buildSlice, Sem.run_bind, g.und, g.size, Result.andThen_ok, hle, if_false]
  by_cases h0 : k * size = 0
  · have hb := hfill (((Array.range (k * size)).map fun i => (#[] : Array Value)[i % (#[] : Array Value).size]!).toList) (by simp)
    simp only [Array.toArray_toList] at hb
    simp only [h0, if_true, Sem.run_bind, run_pure, Result.andThen_ok] at hb ⊢
    simp only [hb, newRow, newObj, Sem.run_bind]
    rfl
  · have hb := hfill (((Array.range (k * size)).map fun i => zv.cells[i % zv.cells.size]!).toList) (by simp)
    simp only [Array.toArray_toList] at hb
    simp only [h0, if_false, Sem.run_bind, hz2, Result.andThen_ok, run_pure, hb, newRow, newObj]
    rfl
end
end Go.Proofs.Ytjnckainogpenaa
