/- What the form's readings of arguments give: slices that read as lists. -/
import Derived.Test.YtjnckainogpenaaT30
import Derived.Deep.Slices
set_option linter.unusedVariables false
set_option maxRecDepth 20000
namespace Go.Proofs.Ytjnckainogpenaa
open Go Q Go.RowKit Go.ChangeShapes Go.WideShapes

theorem at_of_cells {w : World} {base n : Nat} {a : Addr} {cs : List Value} (h : w.cells? base a n = some cs) (hn : 0 < n) : a.spot = none ∧ cs.length = n ∧ At (hp w) a.block a.off cs := by
  obtain ⟨_, hl, hc⟩ := World.cells?_some h
  have h0 := hc 0 hn
  rw [addr_add0] at h0
  have hlt : 0 < cs.length := by omega
  rw [List.getElem?_eq_getElem hlt] at h0
  unfold World.cell? at h0
  split at h0
  · rename_i c ty fr hb
    have hs : a.spot = none := by
      cases hsp : a.spot with
      | none => rfl
      | some x => rw [hsp] at h0; simp at h0
    refine ⟨hs, hl, c, ty, fr, hb, fun j v hv => ?_⟩
    have hj := (List.getElem?_eq_some_iff.1 hv).1
    have := hc j (by omega)
    obtain ⟨ab, ao, asp⟩ := a
    simp only at hs hb
    subst hs
    rw [add_addr, hv] at this
    unfold World.cell? at this
    simp only [hb, Option.isSome_none] at this
    simpa using this
  · cases h0
section
variable {H : Type} {enc : TypeId × Value → H} {w : World} {base : Nat} {spare : Nat → Bool} {held : Bool}
/-- The part of a struct's cells that a field is. -/
theorem field_of {t : TypeId} {fs : List (Nat × Nat)} [g : TyEqS t fs] (hu : Try.prog.underlying t = some (.struct (fieldsOf t))) {i ty off : Nat} (hi : ((fieldsOf t).toList.map fun f => (f.type, f.offset))[i]? = some (ty, off)) : ∃ f, (fieldsOf t)[i]? = some f ∧ f.type = ty ∧ f.offset = off := by
  rw [List.getElem?_map] at hi
  obtain ⟨f, h1, h2⟩ := Option.map_eq_some_iff.1 hi
  simp only [Prod.mk.injEq] at h2
  exact ⟨f, by simpa using h1, h2.1, h2.2⟩
theorem op_read {n : Nat} {cs : List Value} {x : DataW H × List MemPlace} (h : DataW.trod enc Try.prog w base spare held n 25 cs = some x) : ∃ o : OpM, cs = o.cells ∧ o.text.size ≤ maxLen := by
  have hu : Try.prog.underlying 25 = some (.struct (fieldsOf 25)) := by kernel_rfl
  obtain ⟨xs, m, _, _, hl, hxl, hf⟩ := DataW.trod_struct hu h
  have hc4 : Try.prog.cellsOf 25 = 4 := by kernel_rfl
  rw [hc4] at hl
  obtain ⟨f0, a1, a2, a3⟩ := field_of hu (i := 0) (ty := 3) (off := 0) (by kernel_rfl)
  obtain ⟨f1, b1, b2, b3⟩ := field_of hu (i := 1) (ty := 3) (off := 1) (by kernel_rfl)
  obtain ⟨f2, c1, c2, c3⟩ := field_of hu (i := 2) (ty := 3) (off := 2) (by kernel_rfl)
  obtain ⟨f3, d1, d2, d3⟩ := field_of hu (i := 3) (ty := 9) (off := 3) (by kernel_rfl)
  have h0 := hf 0 f0 a1
  have h1 := hf 1 f1 b1
  have h2 := hf 2 f2 c1
  have h3 := hf 3 f3 d1
  have hsz : (fieldsOf 25).size = 4 := by kernel_rfl
  rw [hsz] at hxl
  rw [a2, a3] at h0
  rw [b2, b3] at h1
  rw [c2, c3] at h2
  rw [d2, d3] at h3
  have e3 : Try.prog.cellsOf 3 = 1 := by kernel_rfl
  have e9 : Try.prog.cellsOf 9 = 1 := by kernel_rfl
  rw [e3] at h0 h1 h2
  rw [e9] at h3
  have u3 : Try.prog.underlying 3 = some (.int .i64) := by kernel_rfl
  have u9 : Try.prog.underlying 9 = some .string := by kernel_rfl
  match xs, hxl, cs, hl with
  | [x0, x1, x2, x3], _, [v0, v1, v2, v3], _ =>
    obtain ⟨n0, g0, _⟩ := DataW.trod_int u3 (x := x0) (by simpa using h0)
    obtain ⟨n1, g1, _⟩ := DataW.trod_int u3 (x := x1) (by simpa using h1)
    obtain ⟨n2, g2, _⟩ := DataW.trod_int u3 (x := x2) (by simpa using h2)
    obtain ⟨s, g3, _, hs⟩ := DataW.trod_string u9 (x := x3) (by simpa using h3)
    simp at g0 g1 g2 g3
    subst g0; subst g1; subst g2; subst g3
    exact ⟨⟨n0, n1, n2, s⟩, rfl, hs⟩
theorem ops_read {n : Nat} {v : Value} {x : DataW H × List MemPlace} (h : DataW.trod enc Try.prog w base spare held n 22 [v] = some x) : ∃ l : List OpM, SlR El.op (hp w) v l := by
  have u22 : Try.prog.underlying 22 = some (.slice 25) := by kernel_rfl
  have hc4 : Try.prog.cellsOf 25 = 4 := by kernel_rfl
  rcases Go.Deep.open_slice u22 h with ⟨h0, _⟩ | ⟨a, len, cap, m, n', D, Pl, h0, hb, hlc, hcm, hm, _, hel⟩
  · simp at h0; subst h0; exact ⟨[], SlR.nil⟩
  · simp at h0; subst h0
    rw [hc4] at hel
    have hlm : len ≤ m := by rw [hm]; split <;> omega
    have key : ∀ i, i < len → ∃ o : OpM, o.text.size ≤ maxLen ∧ (i = 0 → a.spot = none) ∧ At (hp w) a.block (a.off + i * 4) o.cells := fun i hi => by
      obtain ⟨cs, h1, h2⟩ := hel i (by omega)
      obtain ⟨o, rfl, ho⟩ := op_read h2
      obtain ⟨g1, g2, g3⟩ := at_of_cells h1 (by decide)
      obtain ⟨ab, ao, asp⟩ := a
      unfold Addr.add at g1 g3
      by_cases hz : i * 4 = 0
      · simp only [hz, if_true] at g1 g3
        exact ⟨o, ho, fun _ => g1, by rw [hz]; exact g3⟩
      · simp only [hz, if_false] at g1 g3
        exact ⟨o, ho, fun h0 => absurd (by rw [h0]) hz, g3⟩
    classical
    let f : Nat → OpM := fun i => if hi : i < len then Classical.choose (key i hi) else ⟨0, 0, 0, ⟨#[]⟩⟩
    have hf : ∀ i, i < len → (f i).text.size ≤ maxLen ∧ (i = 0 → a.spot = none) ∧ At (hp w) a.block (a.off + i * 4) (f i).cells := fun i hi => by
      simp only [f, dif_pos hi]; exact Classical.choose_spec (key i hi)
    refine ⟨(List.range len).map f, some a, cap, by simp, by simpa using hlc, by simp only [List.length_map, List.length_range, big]; simp only [maxLen] at hcm; omega, fun hn => ?_⟩
    have hpos : 0 < len := by
      rcases Nat.eq_zero_or_pos len with h0 | h0
      · subst h0; simp at hn
      · exact h0
    obtain ⟨ab, ao, asp⟩ := a
    have hsp := (hf 0 hpos).2.1 rfl
    simp only at hsp
    subst hsp
    refine ⟨ab, ao, rfl, fun i x hx => ?_⟩
    rw [List.getElem?_map] at hx
    obtain ⟨k, h1, rfl⟩ := Option.map_eq_some_iff.1 hx
    have hk := List.getElem?_eq_some_iff.1 h1
    obtain ⟨hlt, rfl⟩ := hk
    simp only [List.getElem_range, List.length_range] at hlt ⊢
    exact ⟨_, ⟨rfl, (hf i hlt).1⟩, (hf i hlt).2.2⟩
end
end Go.Proofs.Ytjnckainogpenaa
