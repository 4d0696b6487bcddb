/- Texts joined: T45, T33, T46, T47, T40, T48, T49, T30, T50, T51, T52, T31, T32, R2, R4. -/
import Derived.Test.YtjnckainogpenaaM3
import Derived.Deep.Slices
import Derived.Test.YtjnckainogpenaaRows
import Derived.WalkKit
import Derived.ProofKit
import Derived.OpenShut
import Derived.Carry
import Derived.ChangeMaps5
section
/- The reference: opening a state, signals, activations. -/
set_option linter.unusedVariables false
set_option linter.unusedSimpArgs false
set_option maxRecDepth 20000
set_option synthInstance.maxHeartbeats 400000
set_option synthInstance.maxSize 4000
namespace Go.Proofs.Ytjnckainogpenaa
open Go Q Go.RowKit

theorem StOwn.mach {z : Z} {B : Bl} {u : Value} {s : StM} (h : StOwn z B u s) : Mach z ((0, .cells [u].toArray 134 (0, 0)) :: B) 0 s := by
  obtain ⟨Bf, Bl, xs, rfl, h1, h2⟩ := h
  exact ⟨Bf, Bl, xs, u, rfl, h1, h2⟩
theorem StOwn.of {z : Z} {B : Bl} {u : Value} {s : StM} {mb : Nat} (h : Mach z ((mb, .cells [u].toArray 134 (0, 0)) :: B) mb s) : StOwn z B u s := by
  obtain ⟨Bf, Bl, xs, v, h0, h1, h2⟩ := h
  simp only [List.cons.injEq, Prod.mk.injEq, true_and, Obj.cells.injEq, and_true] at h0
  obtain ⟨h3, rfl⟩ := h0
  simp at h3
  subst h3
  exact ⟨Bf, Bl, xs, rfl, h1, h2⟩
/-- The blocks of a state, one by one. -/
abbrev sxB (fb tb : Nat) (ps sp ts : List Value) (tcap : Nat) (f : FrM) (B2 : Bl) (v2 : Value) : Bl :=
  (fb, .cells (ps ++ (.slice (some ⟨tb, 0, none⟩) 6 tcap :: v2 :: .int .i64 f.info.cond :: .int .i64 f.info.mode :: .string f.info.desc :: sp)).toArray 63 (0, 0)) :: (tb, .cells (f.traps.flatMap TrM.cells ++ ts).toArray 73 (0, 0)) :: B2
theorem StOwn.x {z : Z} {B : Bl} {u : Value} {pre : StM} {f : FrM} (h : StOwn z B u (pre ++ [f])) (h6 : f.traps.length = 6) :
    ∃ fb tb ps sp ts cap tcap B2 v2, B = sxB fb tb ps sp ts tcap f B2 v2 ∧ u = .slice (some ⟨fb, 0, none⟩) (pre.length + 1) cap ∧ MachX z 0 fb tb pre ps sp ts cap tcap f ∧ PendOwn B2 v2 f := by
  obtain ⟨fb, tb, ps, sp, ts, cap, tcap, B2, v2, h1, h2, h3⟩ := h.mach.x h6
  simp only [mxB, List.cons.injEq, Prod.mk.injEq, true_and, Obj.cells.injEq, and_true] at h1
  obtain ⟨h4, h5⟩ := h1
  simp at h4
  exact ⟨fb, tb, ps, sp, ts, cap, tcap, B2, v2, h5, h4, h2, h3⟩
theorem MachX.st {z : Z} {mb fb tb : Nat} {pre : StM} {ps sp ts : List Value} {cap tcap : Nat} {f : FrM} {B2 : Bl} {v2 : Value} (h : MachX z mb fb tb pre ps sp ts cap tcap f) (hp : PendOwn B2 v2 f) : StOwn z (sxB fb tb ps sp ts tcap f B2 v2) (.slice (some ⟨fb, 0, none⟩) (pre.length + 1) cap) (pre ++ [f]) :=
  StOwn.of (h.mach hp)
theorem StOwn.form {z : Z} {B : Bl} {u : Value} {s : StM} (h : StOwn z B u s) : ∃ a cap, u = .slice a s.length cap ∧ s.length ≤ cap := by
  obtain ⟨Bf, Bl, xs, rfl, h1, h2⟩ := h
  exact h1.form
theorem StOwn.mono {z z' : Z} {B : Bl} {u : Value} {s : StM} (h : StOwn z B u s) (hz : Le z z') : StOwn z' B u s := StOwn.of (h.mach.z hz)
/-- A state of one's own is frozen. -/
theorem StOwn.freeze {w0 w : World} {z0 z : Z} {B0 B L : Bl} {u : Value} {s : StM} (h : Res w0 z0 B0 w z (B ++ L)) (ho : StOwn z B u s) (hb : s.length ≤ big) : ∃ z', Le z z' ∧ Res w0 z0 B0 w z' L ∧ SlR El.frame z' u s := by
  obtain ⟨Bf, Bl, xs, rfl, h1, h2⟩ := ho
  rw [List.append_assoc] at h
  obtain ⟨z1, hz1, hS1, hf⟩ := h2.freeze (Res.bring Bl h)
  obtain ⟨z2, hz2, hS2, hs⟩ := MachR.st hS1 h1 hf hb
  exact ⟨z2, hz1.trans hz2, hS2, hs⟩
/-- The cells of a result: a state with an action, or an error. -/
abbrev doneC (u : Value) (a : AcM) (e : Int) : List Value := [u, .int .i64 a.kind, .string a.label, .int .i64 a.cond, .string a.desc, .int .i64 e]
abbrev doneV (u : Value) (a : AcM) (e : Int) : Value := .agg (doneC u a e).toArray
theorem refOpened {v : Value} {s : StM} {c : Int} {z : Z} {w : World} (hs : StR z v s) : Fn 59 #[v, .int .i64 c] z [] w fun z' B' r => if openE s [c] = 0 then ∃ u, r = doneV u noAct 0 ∧ StOwn z' B' u s else B' = [] ∧ r = doneV (.slice none 0 0) noAct (openE s [c]) := Fn.intro fun hS => en59 (by
  unfold vc59
  obtain ⟨u, rfl, hu⟩ := hs
  obtain ⟨hb, a, cap, rfl, hc, hel⟩ := id hu.form
  refine iV_bx ?_
  intro b2 w2 hb2 hS2
  refine iV_al ?_
  intro b4 w4 hb4 hS4
  (repeat (refine iV_ldN ?_))
  refine CV_1 (refCheck ⟨_, rfl, hu.mono (by (repeat (exact Le.refl _)))⟩) ?_
  rintro z5 w5 _ hle5 hS5 rfl
  cases hck : checkB s with
  | false =>
    have ho : openE s [c] = 2 := by simp [openE, hck]
    simp only [errOf]
    (repeat (first | refine V_run ?_ | (refine iU_st ?_; intro _ _) | refine iHV_N ?_ | refine Cond_t ?_))
    exact ⟨_, [], Res.keep [] (by assumption), by rw [ho, if_neg (by decide)]; exact ⟨rfl, rfl⟩⟩
  | true =>
    obtain ⟨h30, hfr⟩ := checkB_fr hck
    simp only [errOf]
    (repeat (first | refine V_run ?_ | refine Cond_f ?_ | (refine CV_pu ?_; intro _ _ _ _)))
    refine Cond_n (fun hcd => ?_) (fun hcd => ?_)
    · have ho : openE s [c] = 1 := by simp [openE, hck, hcd]
      (repeat (first | refine V_run ?_ | (refine iU_st ?_; intro _ _) | refine iHV_N ?_))
      exact ⟨_, [], Res.keep [] (by assumption), by rw [ho, if_neg (by decide)]; exact ⟨rfl, rfl⟩⟩
    · have ho : openE s [c] = 0 := by simp [openE, hck, hcd]
      (repeat (refine iV_ldN ?_))
      refine CV_fn0 (fun hz => refCopied ⟨_, rfl, hu.mono hz⟩ (by omega) fun f hf => by have := hfr f hf; omega) ?_
      rintro z6 B6 w6 _ hle6 hS6 ⟨u6, rfl, ho6⟩
      obtain ⟨a6, cap6, rfl, _⟩ := ho6.form
      (repeat (first | refine V_run ?_ | (refine iU_st ?_; intro _ _) | refine iHV_N ?_))
      rename_i hSe
      refine ⟨z6, B6, by have := Res.keep [.bl B6] hSe; rwa [List.append_nil] at this, ?_⟩
      rw [ho, if_pos rfl]
      exact ⟨_, rfl, ho6⟩)
theorem setT_flat {f : FrM} {c : Int} (h6 : f.traps.length = 6) (h0 : 0 ≤ c) (h1 : c < 6) (ts : List Value) (t : TrM) : SetN (f.traps.flatMap TrM.cells ++ ts) (c.toNat * 3) [.int .i64 t.mode, .string t.label, .bool t.delayed] ((f.traps.set c.toNat t).flatMap TrM.cells ++ ts) := by
  obtain ⟨tp, tq, h, hl, hp⟩ := FrM.split h6 h0 h1
  have h2 : f.traps.set c.toNat t = tp ++ t :: tq := hp t
  have hoff : c.toNat * 3 = (tp.flatMap TrM.cells).length := by rw [flat_len (f := TrM.cells) (n := 3) (fun _ => rfl), hl]
  rw [h2, h, hoff]
  simp only [List.flatMap_append, List.flatMap_cons, TrM.cells, List.append_assoc, List.cons_append, List.nil_append]
  infer_instance
theorem FrSm.set {f : FrM} (h : FrSm f) {t : TrM} (ht : t.label.size ≤ big) (k : Nat) {p : List RaM} (hp : p.length ≤ 1000000) (hp2 : ∀ r ∈ p, r.desc.size ≤ big) {i : InM} (hi : i.desc.size ≤ big) : FrSm ⟨f.traps.set k t, p, i⟩ := by
  obtain ⟨s1, s2, s3, s4, s5⟩ := h
  refine ⟨by simpa using s1, hp, fun u hu => ?_, hp2, hi⟩
  rcases List.mem_or_eq_of_mem_set hu with hu | rfl
  · exact s3 u hu
  · exact ht
theorem refSignalledX {z : Z} {w : World} {fb tb cap tcap : Nat} {ps sp ts : List Value} {B2 : Bl} {v2 : Value} [One v2] {pre : StM} {f : FrM} {c : Int} {desc : ByteArray} (hx : MachX z 0 fb tb pre ps sp ts cap tcap f) (h6 : f.traps.length = 6) (h0 : 0 ≤ c) (h1 : c < 6) (hp : pre.length ≤ 100) (hd : desc.size ≤ big) :
    Fn 63 #[.agg #[.slice (some ⟨fb, 0, none⟩) (pre.length + 1) cap], .int .i64 c, .string desc] z (sxB fb tb ps sp ts tcap f B2 v2) w fun z' B' r => ∃ u', r = doneV u' (sigA f c desc) 0 ∧ StOwn z' B' u' (pre ++ [sigF f c desc]) := Fn.intro fun hS => en63 (by
  unfold vc63
  have hlen := hx.fr.len
  haveI : InI (((pre.length + 1 : Nat) : Int) - 1) := ⟨by omega⟩
  haveI : InR (((pre.length + 1 : Nat) : Int) - 1) (pre.length + 1 : Nat) := ⟨by omega, by omega⟩
  haveI : InR c (6 : Nat) := ⟨h0, by omega⟩
  haveI : AddN 0 ((((pre.length + 1 : Nat) : Int) - 1).toNat * 5) ps.length := ⟨by rw [hlen]; omega⟩
  obtain ⟨g0, g1, g2⟩ := tget (f := f) h6 h0 h1 ts
  haveI := g0
  haveI := g1
  haveI := g2
  refine iV_bx ?_
  intro b3 w3 hb3 hS3
  refine iV_al ?_
  intro b6 w6 hb6 hS6
  haveI := setT_flat h6 h0 h1 ts noTrap
  dsimp only [noTrap] at this
  (repeat (first | refine V_run ?_ | refine iV_ld1 ?_ | refine iV_ldN ?_ | (refine iU_st ?_; intro _ _) | refine iHV_N ?_))
  rename_i hSe
  refine ⟨_, _, Res.keep [.at fb, .at tb] hSe, _, rfl, ?_⟩
  exact MachX.st (mb := 0) (f := sigF f c desc) ⟨FrsR.mono hSe.zle hx.fr, hx.cap, hx.tcap, by simp [sigF, h6], hx.sm.set (by simp [noTrap, ByteArray.size]) _ (by simp) (fun r hr => by cases hr) hd⟩ OwnSl.nil)
theorem refSignalled {z : Z} {w : World} {B : Bl} {u : Value} {pre : StM} {f : FrM} {c : Int} {desc : ByteArray} (hm : StOwn z B u (pre ++ [f])) (h6 : f.traps.length = 6) (h0 : 0 ≤ c) (h1 : c < 6) (hp : pre.length ≤ 100) (hd : desc.size ≤ big) :
    Fn 63 #[.agg #[u], .int .i64 c, .string desc] z B w fun z' B' r => ∃ u', r = doneV u' (sigA f c desc) 0 ∧ StOwn z' B' u' (pre ++ [sigF f c desc]) := by
  obtain ⟨fb, tb, ps, sp, ts, cap, tcap, B2, v2, rfl, rfl, hx, hpo⟩ := hm.x h6
  obtain ⟨a2, cap2, rfl, hc2⟩ := hpo.form
  exact refSignalledX hx h6 h0 h1 hp hd
theorem refPushed {z : Z} {w : World} {B : Bl} {u : Value} {pre : StM} {f : FrM} (hm : StOwn z B u (pre ++ [f])) (h6 : f.traps.length = 6) (hp : pre.length ≤ 100) :
    Fn 65 #[.agg #[u]] z B w fun z' B' r => ∃ u', r = .agg #[u'] ∧ StOwn z' B' u' ((pre ++ [f]) ++ [pushF f]) := Fn.intro fun hS => en65 (by
  unfold vc65
  obtain ⟨fb, tb, ps, sp, ts, cap, tcap, B2, v2, rfl, rfl, hx, hpo⟩ := hm.x h6
  have hpo' := hpo
  obtain ⟨a2, cap2, rfl, hc2⟩ := hpo.form
  have hlen := hx.fr.len
  haveI : InI (((pre.length + 1 : Nat) : Int) - 1) := ⟨by omega⟩
  haveI : InR (((pre.length + 1 : Nat) : Int) - 1) (pre.length + 1 : Nat) := ⟨by omega, by omega⟩
  haveI : AddN 0 ((((pre.length + 1 : Nat) : Int) - 1).toNat * 5) ps.length := ⟨by rw [hlen]; omega⟩
  obtain ⟨z1, hz1, hS1, hfr, hv1, hv2⟩ := topFreeze (L := [(fb, _)]) hx hpo' (hS.perm (List.perm_append_comm (l₁ := [(fb, _)]) (l₂ := (tb, _) :: B2)))
  clear hS
  refine iV_bx ?_
  intro b1 w1 hb1 hS1
  refine iV_al ?_
  intro b2 w2 hb2 hS2
  (repeat (first | refine V_run ?_ | refine iV_ld1 ?_ | refine iV_ldN ?_))
  refine iV_al ?_
  intro b3 w3 hb3 hS3
  (repeat (first | (refine iDr ?_; intro _ _) | refine PV_run ?_ | (refine iU_st ?_; intro _ _) | refine iHV_1 ?_ | refine iHV_N ?_))
  refine V_bs (parts := []) rfl (by omega) ?_
  intro b14 w14 hb14 hS14
  (repeat (first | refine iRI_1 ?_ | refine iRI_N ?_))
  refine V_cp (E := El.trap) (f := TrM.cells) hS14 (hv1.mono (by (repeat (exact Le.refl _)))) (fun _ _ _ h => h.1) (fun _ => rfl) onesT (by omega) (by decide) ?_
  intro Bt vt w19 hot hS19
  obtain ⟨at_, capt, rfl, hct⟩ := hot.form
  (repeat (first | refine PV_run ?_ | refine iRI_1 ?_ | refine iRI_N ?_))
  refine V_bs (parts := [(0, _)]) rfl (by omega) ?_
  intro b21 w21 hb21 hS21
  (repeat (first | refine iRI_1 ?_ | refine iRI_N ?_))
  have hps := hx.cap.2.2
  have hat4 : At (Go.Proofs.Ytjnckainogpenaa.hp w21) b21 0 [.slice at_ f.traps.length capt, .slice none 0 0, .int .i64 f.info.cond, .int .i64 f.info.mode, .string f.info.desc] := ⟨_, _, _, (hS21.mem _ List.mem_cons_self).1, fun j v hv => by simpa using hv⟩
  refine V_app (B := [(fb, _)]) (m := 1) (n := pre.length + 1) (xs := ps ++ (.slice (some ⟨tb, 0, none⟩) 6 tcap :: .slice a2 f.pend.length cap2 :: f.info.cells)) (news := [.slice at_ f.traps.length capt, .slice none 0 0, .int .i64 f.info.cond, .int .i64 f.info.mode, .string f.info.desc]) (Res.bringB fb hS21) ⟨by simp; omega, .inr ⟨fb, cap, sp, by simp, rfl, hx.cap.1, hx.cap.2.1, by simp; omega⟩⟩ hat4 rfl (fun u hu => by simp at hu; rcases hu with rfl | rfl | rfl | rfl | rfl <;> rfl) (by omega) (by simp only [room]; omega) (by simp only [room]; omega) ?_
  intro B7 v7 w7 ho7 hS7
  obtain ⟨a7, cap7, rfl, _⟩ := ho7.form
  (repeat (first | refine PV_run ?_ | refine iV_ldN ?_ | (refine iU_st ?_; intro _ _) | refine iHV_N ?_ | refine iRI_N ?_))
  rename_i hSe
  refine ⟨_, B7 ++ Bt, by have := Res.keep [.bl B7, .bl Bt] hSe; rwa [List.append_nil] at this, _, rfl, ?_⟩
  obtain ⟨q1, q2, q3, q4, q5⟩ := hx.sm
  refine ⟨B7, Bt, _, rfl, ?_, .inr ⟨pre ++ [f], pushF f, _, _, rfl, rfl, FrsR.snoc (f := f) ⟨_, _, rfl, hv1.mono (by (repeat (exact Le.refl _))), hv2.mono (by (repeat (exact Le.refl _))), q5⟩ (FrsR.mono (by (repeat (exact Le.refl _))) hfr), ⟨Bt, [], _, _, by simp, rfl, hot, OwnSl.nil⟩, q1, by simp [pushF], q3, by simp [pushF], q5⟩⟩
  simp only [List.length_append, List.length_singleton]
  exact ho7)
theorem refPushedX {z : Z} {w : World} {fb tb cap tcap : Nat} {ps sp ts : List Value} {v2 : Value} {pre : StM} {f : FrM} (hx : MachX z 0 fb tb pre ps sp ts cap tcap f) (hv2 : SlR El.raised z v2 f.pend) (h6 : f.traps.length = 6) (hp : pre.length ≤ 100) :
    Fn 65 #[.agg #[.slice (some ⟨fb, 0, none⟩) (pre.length + 1) cap]] z (sxB fb tb ps sp ts tcap f [] v2) w fun z' B' r => ∃ u', r = .agg #[u'] ∧ StOwn z' B' u' ((pre ++ [f]) ++ [pushF f]) := Fn.intro fun hS => en65 (by
  unfold vc65
  obtain ⟨_, a2, cap2, rfl, _, _⟩ := id hv2.form
  have hlen := hx.fr.len
  haveI : InI (((pre.length + 1 : Nat) : Int) - 1) := ⟨by omega⟩
  haveI : InR (((pre.length + 1 : Nat) : Int) - 1) (pre.length + 1 : Nat) := ⟨by omega, by omega⟩
  haveI : AddN 0 ((((pre.length + 1 : Nat) : Int) - 1).toNat * 5) ps.length := ⟨by rw [hlen]; omega⟩
  have hfl : (f.traps.flatMap TrM.cells).length = 18 := by rw [flat_len (f := TrM.cells) (n := 3) (fun _ => rfl), hx.six]
  obtain ⟨z1, hz1, hS1, hv1⟩ := Res.freezeSl (E := El.trap) (B := [(tb, _)]) (L := [(fb, _)]) (v := .slice (some ⟨tb, 0, none⟩) 6 tcap) (xs := f.traps) (f := TrM.cells) (e := 73) (Res.bringB tb hS) ⟨by rw [hfl, hx.six]; rfl, .inr ⟨tb, tcap, ts, rfl, by rw [hx.six], by rw [hx.six]; exact hx.tcap.1, hx.tcap.2.1, by rw [List.length_append, hfl]; exact hx.tcap.2.2⟩⟩ (by have := hx.sm.1; simp only [big]; omega) (fun _ => rfl) (fun z x hm => ⟨rfl, hx.sm.2.2.1 x hm⟩)
  have hfr := FrsR.mono hz1 hx.fr
  have hz2 := hz1
  clear hS
  refine iV_bx ?_
  intro b1 w1 hb1 hS1
  refine iV_al ?_
  intro b2 w2 hb2 hS2
  (repeat (first | refine V_run ?_ | refine iV_ld1 ?_ | refine iV_ldN ?_))
  refine iV_al ?_
  intro b3 w3 hb3 hS3
  (repeat (first | (refine iDr ?_; intro _ _) | refine PV_run ?_ | (refine iU_st ?_; intro _ _) | refine iHV_1 ?_ | refine iHV_N ?_))
  refine V_bs (parts := []) rfl (by omega) ?_
  intro b14 w14 hb14 hS14
  (repeat (first | refine iRI_1 ?_ | refine iRI_N ?_))
  refine V_cp (E := El.trap) (f := TrM.cells) hS14 (hv1.mono (by (repeat (exact Le.refl _)))) (fun _ _ _ h => h.1) (fun _ => rfl) onesT (by omega) (by decide) ?_
  intro Bt vt w19 hot hS19
  obtain ⟨at_, capt, rfl, hct⟩ := hot.form
  (repeat (first | refine PV_run ?_ | refine iRI_1 ?_ | refine iRI_N ?_))
  refine V_bs (parts := [(0, _)]) rfl (by omega) ?_
  intro b21 w21 hb21 hS21
  (repeat (first | refine iRI_1 ?_ | refine iRI_N ?_))
  have hps := hx.cap.2.2
  have hat4 : At (Go.Proofs.Ytjnckainogpenaa.hp w21) b21 0 [.slice at_ f.traps.length capt, .slice none 0 0, .int .i64 f.info.cond, .int .i64 f.info.mode, .string f.info.desc] := ⟨_, _, _, (hS21.mem _ List.mem_cons_self).1, fun j v hv => by simpa using hv⟩
  refine V_app (B := [(fb, _)]) (m := 1) (n := pre.length + 1) (xs := ps ++ (.slice (some ⟨tb, 0, none⟩) 6 tcap :: .slice a2 f.pend.length cap2 :: f.info.cells)) (news := [.slice at_ f.traps.length capt, .slice none 0 0, .int .i64 f.info.cond, .int .i64 f.info.mode, .string f.info.desc]) (Res.bringB fb hS21) ⟨by simp; omega, .inr ⟨fb, cap, sp, by simp, rfl, hx.cap.1, hx.cap.2.1, by simp; omega⟩⟩ hat4 rfl (fun u hu => by simp at hu; rcases hu with rfl | rfl | rfl | rfl | rfl <;> rfl) (by omega) (by simp only [room]; omega) (by simp only [room]; omega) ?_
  intro B7 v7 w7 ho7 hS7
  obtain ⟨a7, cap7, rfl, _⟩ := ho7.form
  (repeat (first | refine PV_run ?_ | refine iV_ldN ?_ | (refine iU_st ?_; intro _ _) | refine iHV_N ?_ | refine iRI_N ?_))
  rename_i hSe
  refine ⟨_, B7 ++ Bt, by have := Res.keep [.bl B7, .bl Bt] hSe; rwa [List.append_nil] at this, _, rfl, ?_⟩
  obtain ⟨q1, q2, q3, q4, q5⟩ := hx.sm
  refine ⟨B7, Bt, _, rfl, ?_, .inr ⟨pre ++ [f], pushF f, _, _, rfl, rfl, FrsR.snoc (f := f) ⟨_, _, rfl, hv1.mono (by (repeat (exact Le.refl _))), hv2.mono (by (repeat (assumption))), q5⟩ (FrsR.mono (by (repeat (exact Le.refl _))) hfr), ⟨Bt, [], _, _, by simp, rfl, hot, OwnSl.nil⟩, q1, by simp [pushF], q3, by simp [pushF], q5⟩⟩
  simp only [List.length_append, List.length_singleton]
  exact ho7)
end Go.Proofs.Ytjnckainogpenaa
end

section
/- Plain laws: the steps of a valid state, one by one; the cases of the end of a clause. -/
set_option linter.unusedVariables false
set_option linter.unusedSimpArgs false
set_option maxRecDepth 20000
namespace Go.Proofs.Ytjnckainogpenaa
open Go Q Go.RowKit

section
variable {w0 w : World} {z0 z z1 : Z} {B0 L : Bl} {b : Nat}
theorem At.fld {h : Nat → Option Obj} {off i o : Nat} {v : Value} {vs : List Value} (ha : At h b off vs) (hv : vs[i]? = some v) (ho : o = off + i) : At h b o [v] := by
  obtain ⟨c, ty, fr, g1, g2⟩ := ha
  refine ⟨c, ty, fr, g1, fun j u hu => ?_⟩
  cases j with
  | zero => simp at hu; subst hu; subst ho; exact g2 i v hv
  | succ j => simp at hu
/-- A field of a struct in frozen memory. -/
theorem zV_fld [hS : Res w0 z0 B0 w z L] {K : Value → World → Prop} {t : TypeId} [g : TyOne t] {off i o : Nat} {v : Value} {vs : List Value} (ha : At z1 b off vs) (hz : Le z1 z) (hv : vs[i]? = some v) (ho : o = off + i) (hk : K v w) : V (ld t (.pointer (some ⟨b, o, none⟩))) w K := zV_ld1 ((ha.mono hz).fld hv ho) hk
theorem zHV_fld [hS : Res w0 z0 B0 w z L] {K : Value → Prop} {t : TypeId} [g : TyOne t] {off i o : Nat} {v : Value} {vs : List Value} (ha : At z1 b off vs) (hz : Le z1 z) (hv : vs[i]? = some v) (ho : o = off + i) (hk : K v) : HV (ld t (.pointer (some ⟨b, o, none⟩))) w K := zHV_ld1 ((ha.mono hz).fld hv ho) hk
theorem zV_row [hS : Res w0 z0 B0 w z L] {K : Value → World → Prop} {t n : TypeId} [g : TyAgg t n] [gs : TySize t n] {off o : Nat} {vs : List Value} (ha : At z1 b off vs) (hz : Le z1 z) (hl : vs.length = n) (ho : o = off) (hk : K (.agg vs.toArray) w) : V (ld t (.pointer (some ⟨b, o, none⟩))) w K := zV_ldN (by subst ho; exact ha.mono hz) hl hk
end
/-- The trap of a pending condition is off or delayed. -/
def offT (f : FrM) (r : RaM) : Prop := (f.tr r.cond).mode = 0 ∨ (f.tr r.cond).delayed = true
theorem endM_cases (n : Nat) (f : FrM) : ∀ l : List RaM, ((∀ r ∈ l, offT f r) ∧ endM n f l = ⟨noAct, 0, [{ f with pend := [] }]⟩) ∨ ∃ l1 r l2, l = l1 ++ r :: l2 ∧ (∀ x ∈ l1, offT f x) ∧ ¬ offT f r ∧
    endM n f l = (if (f.tr r.cond).mode = 1 then ⟨sigA f r.cond r.desc, 0, [sigF f r.cond r.desc]⟩ else if n = 30 then ⟨noAct, 14, []⟩ else ⟨⟨2, (f.tr r.cond).label, r.cond, r.desc⟩, 0, callF f r l2⟩)
  | [] => .inl ⟨fun _ h => (by cases h), rfl⟩
  | r :: l => by
    simp only [endM]
    by_cases h : (f.tr r.cond).mode = 0 ∨ (f.tr r.cond).delayed = true
    · rw [if_pos h]
      rcases endM_cases n f l with ⟨h1, h2⟩ | ⟨l1, r', l2, rfl, h1, h2, h3⟩
      · exact .inl ⟨fun x hx => by rcases List.mem_cons.1 hx with rfl | hx; exact h; exact h1 x hx, h2⟩
      · exact .inr ⟨r :: l1, r', l2, rfl, fun x hx => by rcases List.mem_cons.1 hx with rfl | hx; exact h; exact h1 x hx, h2, h3⟩
    · rw [if_neg h]
      exact .inr ⟨[], r, l, rfl, fun x hx => (by cases hx), h, rfl⟩
section
variable {pre : StM} {f : FrM}
theorem open0 (hck : checkB (pre ++ [f]) = true) : openE (pre ++ [f]) [] = 0 := by simp [openE, hck]
theorem open1 (hck : checkB (pre ++ [f]) = true) {c : Int} (h0 : 0 ≤ c) (h1 : c < 6) : openE (pre ++ [f]) [c] = 0 := by simp [openE, hck, cond, h0, h1]
theorem endStep (hck : checkB (pre ++ [f]) = true) : doneM (pre ++ [f]) endO [] = if (endM (pre.length + 1) f f.pend).e ≠ 0 then ⟨(endM (pre.length + 1) f f.pend).e, noAct, []⟩ else ⟨0, (endM (pre.length + 1) f f.pend).a, pre ++ (endM (pre.length + 1) f f.pend).top⟩ := by
  have hl : lastF (pre ++ [f]) = f := by simp [lastF]
  have hop : opM (pre ++ [f]) endO = ⟨(endM (pre.length + 1) f f.pend).e, (endM (pre.length + 1) f f.pend).a, pre ++ (endM (pre.length + 1) f f.pend).top⟩ := by
    simp [opM, endO, hl]
  rw [doneM, if_neg (by simp [open0 hck]), hop]
  by_cases he : (endM (pre.length + 1) f f.pend).e = 0
  · simp only [he, ne_eq, not_true_eq_false, if_false]
  · simp only [ne_eq, he, not_false_eq_true, if_true]
theorem backStep (hck : checkB (pre ++ [f]) = true) : doneM (pre ++ [f]) backO [] = if pre = [] then ⟨12, noAct, []⟩ else ⟨0, noAct, pre⟩ := by
  have hl : lastF (pre ++ [f]) = f := by simp [lastF]
  have hop : opM (pre ++ [f]) backO = if pre.length = 0 then ⟨12, noAct, []⟩ else ⟨0, noAct, pre⟩ := by
    simp [opM, backO, hl]
  rw [doneM, if_neg (by simp [open0 hck]), hop]
  by_cases h : pre = []
  · subst h; simp
  · simp [h]
theorem callStep (hck : checkB (pre ++ [f]) = true) : doneM (pre ++ [f]) callO [] = if pre.length = 29 then ⟨14, noAct, []⟩ else ⟨0, noAct, pre ++ [f, pushF f]⟩ := by
  have hl : lastF (pre ++ [f]) = f := by simp [lastF]
  have hop : opM (pre ++ [f]) callO = if pre.length = 29 then ⟨14, noAct, []⟩ else ⟨0, noAct, pre ++ [f, pushF f]⟩ := by
    simp [opM, callO, hl]
  rw [doneM, if_neg (by simp [open0 hck]), hop]
  by_cases h : pre.length = 29 <;> simp [h]
theorem raiseStep (hck : checkB (pre ++ [f]) = true) {c : Int} {d : ByteArray} (h0 : 0 ≤ c) (h1 : c < 6) : doneM (pre ++ [f]) (raiseO c d) [c] = if descB d = true then ⟨0, raiseA f c d, pre ++ [raiseF f c d]⟩ else ⟨1, noAct, []⟩ := by
  have hl : lastF (pre ++ [f]) = f := by simp [lastF]
  have hop : opM (pre ++ [f]) (raiseO c d) = if descB d = true then ⟨0, raiseA f c d, pre ++ [raiseF f c d]⟩ else ⟨1, noAct, []⟩ := by
    simp [opM, raiseO, hl]
  rw [doneM, if_neg (by simp [open1 hck h0 h1]), hop]
  by_cases h : descB d = true <;> simp [h]
theorem setStep (hck : checkB (pre ++ [f]) = true) {c m : Int} {t : ByteArray} (h0 : 0 ≤ c) (h1 : c < 6) : doneM (pre ++ [f]) (setO c m t) [c] = if setOk c m t = true then ⟨0, noAct, pre ++ [f.put c (setT (f.tr c) c m t)]⟩ else ⟨1, noAct, []⟩ := by
  have hl : lastF (pre ++ [f]) = f := by simp [lastF]
  have hop : opM (pre ++ [f]) (setO c m t) = if setOk c m t = true then ⟨0, noAct, pre ++ [f.put c (setT (f.tr c) c m t)]⟩ else ⟨1, noAct, []⟩ := by
    simp [opM, setO, hl]
  rw [doneM, if_neg (by simp [open1 hck h0 h1]), hop]
  by_cases h : setOk c m t = true <;> simp [h]
theorem checkB_parts : checkB (pre ++ [f]) = true ↔ (∀ g ∈ pre, framedB g = true) ∧ framedB f = true ∧ pre.length ≤ 29 := by
  simp only [checkB, Bool.and_eq_true, decide_eq_true_eq, List.all_eq_true, List.length_append, List.length_singleton]
  constructor
  · intro h
    exact ⟨fun g hg => h.2 g (List.mem_append_left _ hg), h.2 f (by simp), by omega⟩
  · intro h
    refine ⟨⟨by omega, by omega⟩, fun x hx => ?_⟩
    rcases List.mem_append.1 hx with hx | hx
    · exact h.1 x hx
    · simp only [List.mem_singleton] at hx; subst hx; exact h.2.1
/-- The activation that calls a handler, and the handler's. -/
def callA (f : FrM) (l : List RaM) : FrM := { f with pend := l }
def callB (f : FrM) (r : RaM) : FrM := { traps := f.traps.set r.cond.toNat { f.tr r.cond with delayed := true }, pend := [], info := ⟨r.cond, 2, r.desc⟩ }
theorem callF_eq (f : FrM) (r : RaM) (l : List RaM) : pre ++ callF f r l = (pre ++ [callA f l]) ++ [callB f r] := by simp [callF, callA, callB]
/-- What the end of a clause does to a valid state. -/
inductive EndC (pre : StM) (f : FrM) (m : StepM) : Prop
  | none (h : ∀ r ∈ f.pend, offT f r) (hm : m = ⟨0, noAct, pre ++ [{ f with pend := [] }]⟩)
  | sig (l1 l2 : List RaM) (r : RaM) (hl : f.pend = l1 ++ r :: l2) (h1 : ∀ x ∈ l1, offT f x) (h2 : ¬ offT f r) (h3 : (f.tr r.cond).mode = 1) (hm : m = ⟨0, sigA f r.cond r.desc, pre ++ [sigF f r.cond r.desc]⟩)
  | full (l1 l2 : List RaM) (r : RaM) (hl : f.pend = l1 ++ r :: l2) (h1 : ∀ x ∈ l1, offT f x) (h2 : ¬ offT f r) (h3 : (f.tr r.cond).mode ≠ 1) (h4 : pre.length = 29) (hm : m = ⟨14, noAct, []⟩)
  | call (l1 l2 : List RaM) (r : RaM) (hl : f.pend = l1 ++ r :: l2) (h1 : ∀ x ∈ l1, offT f x) (h2 : ¬ offT f r) (h3 : (f.tr r.cond).mode ≠ 1) (h4 : pre.length < 29) (hm : m = ⟨0, ⟨2, (f.tr r.cond).label, r.cond, r.desc⟩, (pre ++ [callA f l2]) ++ [callB f r]⟩)
theorem endC (hck : checkB (pre ++ [f]) = true) : EndC pre f (doneM (pre ++ [f]) endO []) := by
  have hp := (checkB_parts.1 hck).2.2
  rw [endStep hck]
  rcases endM_cases (pre.length + 1) f f.pend with ⟨h1, h2⟩ | ⟨l1, r, l2, h0, h1, h2, h3⟩
  · exact .none h1 (by rw [h2]; simp)
  · by_cases h4 : (f.tr r.cond).mode = 1
    · rw [if_pos h4] at h3
      exact .sig l1 l2 r h0 h1 h2 h4 (by rw [h3]; simp)
    · rw [if_neg h4] at h3
      by_cases h5 : pre.length = 29
      · rw [if_pos (by omega)] at h3
        exact .full l1 l2 r h0 h1 h2 h4 h5 (by rw [h3]; simp)
      · rw [if_neg (by omega)] at h3
        exact .call l1 l2 r h0 h1 h2 h4 (by omega) (by rw [h3, ← callF_eq]; simp)
theorem pendFrom_app : ∀ {l1 l2 had : List RaM}, pendFrom had (l1 ++ l2) = true → pendFrom [] l2 = true
  | [], l2, had, h => pendFrom_sub (fun _ hx => by cases hx) h
  | x :: l1, l2, had, h => by
    simp only [List.cons_append, pendFrom, Bool.and_eq_true] at h
    exact pendFrom_app h.2
/-- The facts on a pending condition of a valid activation. -/
theorem pend_facts (hf : framedB f = true) {l1 l2 : List RaM} {r : RaM} (hl : f.pend = l1 ++ r :: l2) : 0 ≤ r.cond ∧ r.cond < 6 ∧ immediate r.cond = false ∧ descB r.desc = true ∧ pendFrom [] l2 = true := by
  have := (framedB_parts.1 hf).2.2.1
  rw [hl] at this
  have h2 := pendFrom_tail (pendFrom_app this)
  have h3 := raOk_facts h2.1
  exact ⟨h3.1, h3.2.1, h3.2.2.1, h3.2.2.2, h2.2⟩
theorem back_ok {g : FrM} (hck : checkB ((pre ++ [f]) ++ [g]) = true) : doneM ((pre ++ [f]) ++ [g]) backO [] = ⟨0, noAct, pre ++ [f]⟩ ∧ checkB (pre ++ [f]) = true := by
  have h := backStep hck
  rw [if_neg (by simp)] at h
  refine ⟨h, ?_⟩
  have := (doneM_ok (s := (pre ++ [f]) ++ [g]) (o := backO) (conds := []) (by decide) (fun h => by rcases h with h | h <;> cases h) (by rw [h])).2
  rwa [h] at this
theorem end_ok (hck : checkB (pre ++ [f]) = true) (he : (doneM (pre ++ [f]) endO []).e = 0) : checkB (doneM (pre ++ [f]) endO []).s = true :=
  (doneM_ok (o := endO) (by decide) (fun h => by rcases h with h | h <;> cases h) he).2
end
end Go.Proofs.Ytjnckainogpenaa
end

section
/- The reference: Set, Call, Return. -/
set_option linter.unusedVariables false
set_option linter.unusedSimpArgs false
set_option maxRecDepth 20000
set_option synthInstance.maxHeartbeats 400000
set_option synthInstance.maxSize 4000
namespace Go.Proofs.Ytjnckainogpenaa
open Go Q Go.RowKit

/-- A result of the reference, as a value. -/
def DoneR (z : Z) (r : Value) (m : StepM) : Prop := ∃ u, r = doneV u m.a m.e ∧ SlR El.frame z u m.s
theorem doneM_closed {s : StM} {o : OpM} {conds : List Int} (h : openE s conds ≠ 0) : doneM s o conds = ⟨openE s conds, noAct, []⟩ := by rw [doneM, if_pos h]
theorem openE_ck {s : StM} {c : Int} (h : openE s [c] = 0) : checkB s = true ∧ 0 ≤ c ∧ c < 6 := by
  simp only [openE] at h
  cases hh : checkB s with
  | false => simp [hh] at h
  | true =>
    cases hc : cond c with
    | false => simp [hh, hc] at h
    | true => exact ⟨rfl, by simpa [cond] using hc⟩
theorem DoneR.err {z : Z} {m : StepM} {e : Int} (h : m = ⟨e, noAct, []⟩) : DoneR z (doneV (.slice none 0 0) noAct e) m := by
  subst h; exact ⟨_, rfl, SlR.nil⟩
theorem refSet {v : Value} {s : StM} {c mode : Int} {text : ByteArray} {z : Z} {w : World} (hs : StR z v s) (htx : text.size ≤ big) : Fn1 25 #[v, .int .i64 c, .int .i64 mode, .string text] z w fun z' r => DoneR z' r (doneM s (setO c mode text) [c]) := Fn1.intro fun hS => en25 (by
  unfold vc25
  have hs' := hs
  obtain ⟨u0, rfl, hu0⟩ := hs
  obtain ⟨_, a0, cap0, rfl, _, _⟩ := id hu0.form
  haveI : Sm text := ⟨htx⟩
  refine iV_bx ?_
  intro b4 w4 hb4 hS4
  refine iV_al ?_
  intro b8 w8 hb8 hS8
  (repeat (refine iV_ldN ?_))
  refine CV_fn0 (fun hz => refOpened (c := c) ⟨_, rfl, hu0.mono hz⟩) ?_
  rintro z5 B5 w5 r hle5 hS5 hop
  by_cases ho : openE s [c] = 0
  · rw [if_pos ho] at hop
    obtain ⟨u, rfl, hst⟩ := hop
    obtain ⟨hck, h0, h1⟩ := openE_ck ho
    obtain ⟨pre, f, rfl, h6, hp4, hpre, hfd, hlast, hdl⟩ := lastSplit hck
    have hdm := setStep (m := mode) (t := text) hck h0 h1
    obtain ⟨fb, tb, ps, sp, ts, cap, tcap, B2, v2, rfl, rfl, hx, hpo⟩ := hst.x h6
    obtain ⟨a2, cap2, rfl, hc2⟩ := hpo.form
    have hlen := hx.fr.len
    haveI : InI (((pre.length + 1 : Nat) : Int) - 1) := ⟨by omega⟩
    haveI : InR (((pre.length + 1 : Nat) : Int) - 1) (pre.length + 1 : Nat) := ⟨by omega, by omega⟩
    haveI : InR c (6 : Nat) := ⟨h0, by omega⟩
    haveI : AddN 0 ((((pre.length + 1 : Nat) : Int) - 1).toNat * 5) ps.length := ⟨by rw [hlen]; omega⟩
    obtain ⟨g0, g1, g2⟩ := tget (f := f) h6 h0 h1 ts
    haveI := g0
    haveI := g1
    haveI := g2
    haveI := tgetN (f := f) h6 h0 h1 ts
    simp only [sxB, List.cons_append] at hS5
    dsimp only [noAct] at *
    (repeat (first | refine V_run ?_ | refine iV_ld1 ?_ | (refine iV_bx ?_; intro _ _ _ _) | (refine iU_st ?_; intro _ _) | refine Cond_f ?_ | refine JB ?_ | (refine JC ?_; intro _ _ _ _)))
    have hok : (bif (bif bif !decide (mode = 0) then !decide (mode = 1) else false then !decide (mode = 2) else false) then true else bif decide (mode = 2) then !deferred c else false) = !moded c mode := by
      rw [deferred_eq, show cond c = true by simp [cond, h0, h1], moded]
      by_cases e0 : mode = 0
      · subst e0; simp
      · by_cases e1 : mode = 1
        · subst e1; simp
        · by_cases e2 : mode = 2 <;> simp [e0, e1, e2]
    rw [hok]
    refine Cond_n (fun hmd => ?_) (fun hmd => ?_)
    · (repeat (first | refine V_run ?_ | (refine iU_st ?_; intro _ _) | refine iHV_N ?_))
      exact ⟨_, _, ‹_›, DoneR.err (hdm.trans (if_neg (by simp [setOk, hmd])))⟩
    (repeat (first | refine V_run ?_ | (refine JC ?_; intro _ _ _ _)))
    have hok2 : (bif !decide (text = ⟨#[]⟩) then !labB text else false) = !(decide (text = ⟨#[]⟩) || labB text) := by
      cases decide (text = ⟨#[]⟩) <;> cases labB text <;> rfl
    rw [hok2]
    refine Cond_n (fun hlb => ?_) (fun hlb => ?_)
    · (repeat (first | refine V_run ?_ | (refine iU_st ?_; intro _ _) | refine iHV_N ?_))
      exact ⟨_, _, ‹_›, DoneR.err (hdm.trans (if_neg (by simp [setOk, hmd, hlb])))⟩
    rw [if_pos (by simp only [setOk, hmd, hlb, Bool.and_self])] at hdm
    rw [hdm]
    clear hdm hok hok2
    have hnm : Pu 40 #[.int .i64 c] (.string (nameOf c)) := by
      have h : Pu 40 #[.int .i64 c] (.string (if cond c then nameOf c else ⟨#[]⟩)) := inferInstance
      rwa [if_pos (show cond c = true by simp [cond, h0, h1])] at h
    haveI := hnm
    (repeat (first | refine V_run ?_ | refine iV_ld1 ?_ | refine iV_ldN ?_))
    refine iV_al ?_
    intro b11 w11 hb11 hS11
    (repeat (first | refine V_run ?_ | (refine iU_st ?_; intro _ _)))
    refine iV_al ?_
    intro b12 w12 hb12 hS12
    have fin : ∀ (t : TrM) (zz : Z) (ww : World), t.label.size ≤ big → setT (f.tr c) c mode text = t → Le z5 zz → Res w z [] ww zz (sxB fb tb ps sp ts tcap (f.put c t) B2 (.slice a2 f.pend.length cap2)) → ∃ z' L', Res w z [] ww z' L' ∧ DoneR z' (doneV (.slice (some ⟨fb, 0, none⟩) (pre.length + 1) cap) noAct 0) ⟨0, noAct, pre ++ [f.put c (setT (f.tr c) c mode text)]⟩ := fun t zz ww hts ht hz hR => by
      rw [ht]
      have hx' : MachX zz 0 fb tb pre ps sp ts cap tcap (f.put c t) := ⟨FrsR.mono hz hx.fr, hx.cap, hx.tcap, by simp [FrM.put, h6], hx.sm.set hts _ hx.sm.2.1 hx.sm.2.2.2.1 hx.sm.2.2.2.2⟩
      obtain ⟨z', hz', hS', hsl⟩ := StOwn.freeze (L := []) (by rw [List.append_nil]; exact hR) (hx'.st hpo) (by simp only [List.length_append, List.length_singleton, big]; omega)
      exact ⟨z', [], hS', _, rfl, hsl⟩
    have hput : ∀ t : TrM, sxB fb tb ps sp ts tcap (f.put c t) B2 (.slice a2 f.pend.length cap2) = (fb, .cells (ps ++ (.slice (some ⟨tb, 0, none⟩) 6 tcap :: .slice a2 f.pend.length cap2 :: .int .i64 f.info.cond :: .int .i64 f.info.mode :: .string f.info.desc :: sp)).toArray 63 (0, 0)) :: (tb, .cells ((f.traps.set c.toNat t).flatMap TrM.cells ++ ts).toArray 73 (0, 0)) :: B2 := fun t => rfl
    by_cases hm0 : mode = 0
    · have hm2 : ¬ mode = 2 := by omega
      by_cases ht0 : text = ⟨#[]⟩
      · have ht : setT (f.tr c) c mode text = noTrap := by simp [setT, hm0]
        have hsw := setT_flat h6 h0 h1 ts noTrap
        dsimp only [noTrap] at hsw
        haveI := hsw
        (repeat (first | refine V_run ?_ | (refine iU_st ?_; intro _ _) | (refine J0 ?_; intro _ _)))
        refine Cond_is (decide_eq_true ht0) ?_
        (repeat (first | refine V_run ?_ | (refine iU_st ?_; intro _ _) | (refine J0 ?_; intro _ _) | refine K0 ?_ | (refine CV_pu ?_; intro _ _ _ _)))
        refine Cond_not (decide_eq_false hm2) ?_
        (repeat (first | refine V_run ?_ | (refine J0 ?_; intro _ _) | refine K0 ?_))
        refine Cond_is (decide_eq_true hm0) ?_
        (repeat (first | (refine iDr ?_; intro _ _) | refine V_run ?_ | refine PV_run ?_ | refine iV_ldN ?_ | (refine iU_st ?_; intro _ _) | refine iHV_1 ?_ | refine iHV_N ?_ | refine K0 ?_))
        rename_i hSe
        have hR := Res.keep [.at fb, .at tb, .bl B2] hSe
        rw [List.append_nil] at hR
        exact fin noTrap _ _ (by simp [noTrap, ByteArray.size]) ht (by (repeat (first | assumption | refine Le.trans ?_ (by assumption : Le _ _)))) hR
      · have ht : setT (f.tr c) c mode text = noTrap := by simp [setT, hm0]
        have hsw := setT_flat h6 h0 h1 ts noTrap
        dsimp only [noTrap] at hsw
        haveI := hsw
        (repeat (first | refine V_run ?_ | (refine iU_st ?_; intro _ _) | (refine J0 ?_; intro _ _)))
        refine Cond_not (decide_eq_false ht0) ?_
        (repeat (first | refine V_run ?_ | (refine J0 ?_; intro _ _) | refine K0 ?_))
        refine Cond_not (decide_eq_false hm2) ?_
        (repeat (first | refine V_run ?_ | (refine J0 ?_; intro _ _) | refine K0 ?_))
        refine Cond_is (decide_eq_true hm0) ?_
        (repeat (first | (refine iDr ?_; intro _ _) | refine V_run ?_ | refine PV_run ?_ | refine iV_ldN ?_ | (refine iU_st ?_; intro _ _) | refine iHV_1 ?_ | refine iHV_N ?_ | refine K0 ?_))
        rename_i hSe
        have hR := Res.keep [.at fb, .at tb, .bl B2] hSe
        rw [List.append_nil] at hR
        exact fin noTrap _ _ (by simp [noTrap, ByteArray.size]) ht (by (repeat (first | assumption | refine Le.trans ?_ (by assumption : Le _ _)))) hR
    by_cases hm2 : mode = 2
    · by_cases ht0 : text = ⟨#[]⟩
      · have ht : setT (f.tr c) c mode text = ⟨mode, nameOf c, (f.tr c).delayed⟩ := by simp [setT, hm2, ht0]
        have hsw := setT_flat h6 h0 h1 ts ⟨mode, nameOf c, (f.tr c).delayed⟩
        dsimp only [noTrap] at hsw
        haveI := hsw
        (repeat (first | refine V_run ?_ | (refine iU_st ?_; intro _ _) | (refine J0 ?_; intro _ _)))
        refine Cond_is (decide_eq_true ht0) ?_
        (repeat (first | refine V_run ?_ | (refine iU_st ?_; intro _ _) | (refine J0 ?_; intro _ _) | refine K0 ?_ | (refine CV_pu ?_; intro _ _ _ _)))
        refine Cond_is (decide_eq_true hm2) ?_
        (repeat (first | refine V_run ?_ | refine iV_ld1 ?_ | (refine iU_st ?_; intro _ _) | (refine J0 ?_; intro _ _) | refine K0 ?_))
        refine Cond_not (decide_eq_false hm0) ?_
        (repeat (first | (refine iDr ?_; intro _ _) | refine PV_run ?_ | refine iV_ldN ?_ | (refine iU_st ?_; intro _ _) | refine iHV_1 ?_ | refine iHV_N ?_ | refine K0 ?_))
        rename_i hSe
        have hR := Res.keep [.at fb, .at tb, .bl B2] hSe
        rw [List.append_nil] at hR
        exact fin ⟨mode, nameOf c, (f.tr c).delayed⟩ _ _ (nameOf_size c) ht (by (repeat (first | assumption | refine Le.trans ?_ (by assumption : Le _ _)))) hR
      · have ht : setT (f.tr c) c mode text = ⟨mode, text, (f.tr c).delayed⟩ := by simp [setT, hm2, ht0]
        have hsw := setT_flat h6 h0 h1 ts ⟨mode, text, (f.tr c).delayed⟩
        dsimp only [noTrap] at hsw
        haveI := hsw
        (repeat (first | refine V_run ?_ | (refine iU_st ?_; intro _ _) | (refine J0 ?_; intro _ _)))
        refine Cond_not (decide_eq_false ht0) ?_
        (repeat (first | refine V_run ?_ | (refine J0 ?_; intro _ _) | refine K0 ?_))
        refine Cond_is (decide_eq_true hm2) ?_
        (repeat (first | refine V_run ?_ | refine iV_ld1 ?_ | (refine iU_st ?_; intro _ _) | (refine J0 ?_; intro _ _) | refine K0 ?_))
        refine Cond_not (decide_eq_false hm0) ?_
        (repeat (first | (refine iDr ?_; intro _ _) | refine PV_run ?_ | refine iV_ldN ?_ | (refine iU_st ?_; intro _ _) | refine iHV_1 ?_ | refine iHV_N ?_ | refine K0 ?_))
        rename_i hSe
        have hR := Res.keep [.at fb, .at tb, .bl B2] hSe
        rw [List.append_nil] at hR
        exact fin ⟨mode, text, (f.tr c).delayed⟩ _ _ htx ht (by (repeat (first | assumption | refine Le.trans ?_ (by assumption : Le _ _)))) hR
    · by_cases ht0 : text = ⟨#[]⟩
      · have ht : setT (f.tr c) c mode text = ⟨mode, nameOf c, false⟩ := by simp [setT, hm0, hm2, ht0]
        have hsw := setT_flat h6 h0 h1 ts ⟨mode, nameOf c, false⟩
        dsimp only [noTrap] at hsw
        haveI := hsw
        (repeat (first | refine V_run ?_ | (refine iU_st ?_; intro _ _) | (refine J0 ?_; intro _ _)))
        refine Cond_is (decide_eq_true ht0) ?_
        (repeat (first | refine V_run ?_ | (refine iU_st ?_; intro _ _) | (refine J0 ?_; intro _ _) | refine K0 ?_ | (refine CV_pu ?_; intro _ _ _ _)))
        refine Cond_not (decide_eq_false hm2) ?_
        (repeat (first | refine V_run ?_ | (refine J0 ?_; intro _ _) | refine K0 ?_))
        refine Cond_not (decide_eq_false hm0) ?_
        (repeat (first | (refine iDr ?_; intro _ _) | refine PV_run ?_ | refine iV_ldN ?_ | (refine iU_st ?_; intro _ _) | refine iHV_1 ?_ | refine iHV_N ?_ | refine K0 ?_))
        rename_i hSe
        have hR := Res.keep [.at fb, .at tb, .bl B2] hSe
        rw [List.append_nil] at hR
        exact fin ⟨mode, nameOf c, false⟩ _ _ (nameOf_size c) ht (by (repeat (first | assumption | refine Le.trans ?_ (by assumption : Le _ _)))) hR
      · have ht : setT (f.tr c) c mode text = ⟨mode, text, false⟩ := by simp [setT, hm0, hm2, ht0]
        have hsw := setT_flat h6 h0 h1 ts ⟨mode, text, false⟩
        dsimp only [noTrap] at hsw
        haveI := hsw
        (repeat (first | refine V_run ?_ | (refine iU_st ?_; intro _ _) | (refine J0 ?_; intro _ _)))
        refine Cond_not (decide_eq_false ht0) ?_
        (repeat (first | refine V_run ?_ | (refine J0 ?_; intro _ _) | refine K0 ?_))
        refine Cond_not (decide_eq_false hm2) ?_
        (repeat (first | refine V_run ?_ | (refine J0 ?_; intro _ _) | refine K0 ?_))
        refine Cond_not (decide_eq_false hm0) ?_
        (repeat (first | (refine iDr ?_; intro _ _) | refine PV_run ?_ | refine iV_ldN ?_ | (refine iU_st ?_; intro _ _) | refine iHV_1 ?_ | refine iHV_N ?_ | refine K0 ?_))
        rename_i hSe
        have hR := Res.keep [.at fb, .at tb, .bl B2] hSe
        rw [List.append_nil] at hR
        exact fin ⟨mode, text, false⟩ _ _ htx ht (by (repeat (first | assumption | refine Le.trans ?_ (by assumption : Le _ _)))) hR
  · rw [if_neg ho] at hop
    obtain ⟨rfl, rfl⟩ := hop
    dsimp only [noAct] at *
    (repeat (first | refine V_run ?_ | refine iV_ld1 ?_ | (refine iV_bx ?_; intro _ _ _ _) | (refine iU_st ?_; intro _ _)))
    refine Cond_is (by simpa using ho) ?_
    (repeat (first | refine iV_ldN ?_ | (refine iU_st ?_; intro _ _) | refine iHV_N ?_))
    exact ⟨_, _, ‹_›, DoneR.err (doneM_closed ho)⟩)
end Go.Proofs.Ytjnckainogpenaa
end

section
/- The reference: Call, Return. -/
set_option linter.unusedVariables false
set_option linter.unusedSimpArgs false
set_option maxRecDepth 20000
set_option synthInstance.maxHeartbeats 400000
set_option synthInstance.maxSize 4000
namespace Go.Proofs.Ytjnckainogpenaa
open Go Q Go.RowKit

theorem openE0 (s : StM) : openE s [0] = openE s [] := by simp [openE, cond]
theorem refCall {v : Value} {s : StM} {z : Z} {w : World} (hs : StR z v s) : Fn1 28 #[v] z w fun z' r => DoneR z' r (doneM s callO []) := Fn1.intro fun hS => en28 (by
  unfold vc28
  obtain ⟨u0, rfl, hu0⟩ := hs
  obtain ⟨_, a0, cap0, rfl, _, _⟩ := id hu0.form
  refine iV_bx ?_
  intro b1 w1 hb1 hS1
  refine iV_al ?_
  intro b2 w2 hb2 hS2
  (repeat (refine iV_ldN ?_))
  refine CV_fn0 (fun hz => refOpened (c := 0) ⟨_, rfl, hu0.mono hz⟩) ?_
  rintro z5 B5 w5 r hle5 hS5 hop
  by_cases ho : openE s [0] = 0
  · rw [if_pos ho] at hop
    obtain ⟨u, rfl, hst⟩ := hop
    obtain ⟨hck, h0, h1⟩ := openE_ck ho
    obtain ⟨pre, f, rfl, h6, hp4, hpre, hfd, hlast, hdl⟩ := lastSplit hck
    have hdm := callStep hck
    have hl1 : ((pre ++ [f]).length : Int) = pre.length + 1 := by simp
    obtain ⟨_, cap, rfl, _⟩ := hst.form
    refine iV_al ?_
    intro b3 w3 hb3 hS3
    dsimp only [noAct] at *
    (repeat (first | refine V_run ?_ | refine iV_ld1 ?_ | (refine iU_st ?_; intro _ _) | (refine JC ?_; intro _ _ _ _)))
    refine Cond_d (fun h30 => ?_) (fun h30 => ?_)
    · (repeat (first | refine V_run ?_ | (refine iU_st ?_; intro _ _) | refine iHV_N ?_))
      exact ⟨_, _, ‹_›, DoneR.err (hdm.trans (if_pos (by omega)))⟩
    (repeat (first | refine V_run ?_ | refine iV_ld1 ?_ | refine iV_ldN ?_ | refine Cond_t ?_ | (refine J0 ?_; intro _ _)))
    rename_i hSe K hJ
    refine CV_fn (F := [(b3, _), (b2, _), (b1, _)]) (Res.keep [.bl B5, .at b3, .at b2, .at b1] hSe) (refPushed (hst.mono (by (repeat (assumption)))) h6 (by omega)) (by simp) ?_
    rintro z6 B6 w6 _ hle6 hS6 ⟨u6, rfl, ho6⟩
    obtain ⟨_, cap6, rfl, _⟩ := ho6.form
    (repeat (first | refine V_run ?_ | refine iV_ldN ?_ | (refine iU_st ?_; intro _ _) | refine iHV_N ?_ | refine K0 ?_))
    rename_i hSf
    obtain ⟨z7, hz7, hS7, hsl⟩ := StOwn.freeze (Res.bring B6 hSf) ho6 (by simp only [List.length_append, List.length_singleton, big]; omega)
    rw [hdm, if_neg (by omega)]
    exact ⟨z7, _, hS7, _, rfl, by simpa using hsl⟩
  · rw [if_neg ho] at hop
    obtain ⟨rfl, rfl⟩ := hop
    rw [openE0] at ho
    refine iV_al ?_
    intro b3 w3 hb3 hS3
    rw [openE0]
    generalize he : openE s [] = e at *
    dsimp only [noAct] at *
    (repeat (first | refine V_run ?_ | refine iV_ld1 ?_ | (refine iU_st ?_; intro _ _) | (refine JC ?_; intro _ _ _ _)))
    refine Cond_not (by simp [ho]) ?_
    (repeat (first | refine V_run ?_ | refine iV_ld1 ?_ | (refine J0 ?_; intro _ _)))
    refine Cond_not (by simp [ho]) ?_
    (repeat (first | refine iV_ldN ?_ | (refine iU_st ?_; intro _ _) | refine iHV_N ?_ | refine K0 ?_))
    exact ⟨_, _, ‹_›, DoneR.err ((doneM_closed (by rw [he]; exact ho)).trans (by rw [he]))⟩)
theorem refReturn {v : Value} {s : StM} {z : Z} {w : World} (hs : StR z v s) : Fn1 29 #[v] z w fun z' r => DoneR z' r (doneM s backO []) := Fn1.intro fun hS => en29 (by
  unfold vc29
  obtain ⟨u0, rfl, hu0⟩ := hs
  obtain ⟨_, a0, cap0, rfl, _, _⟩ := id hu0.form
  refine iV_bx ?_
  intro b1 w1 hb1 hS1
  refine iV_al ?_
  intro b2 w2 hb2 hS2
  (repeat (refine iV_ldN ?_))
  refine CV_fn0 (fun hz => refOpened (c := 0) ⟨_, rfl, hu0.mono hz⟩) ?_
  rintro z5 B5 w5 r hle5 hS5 hop
  by_cases ho : openE s [0] = 0
  · rw [if_pos ho] at hop
    obtain ⟨u, rfl, hst⟩ := hop
    obtain ⟨hck, h0, h1⟩ := openE_ck ho
    obtain ⟨pre, f, rfl, h6, hp4, hpre, hfd, hlast, hdl⟩ := lastSplit hck
    have hdm := backStep hck
    have hl1 : ((pre ++ [f]).length : Int) = pre.length + 1 := by simp
    obtain ⟨au, cap, rfl, hcu⟩ := hst.form
    refine iV_al ?_
    intro b3 w3 hb3 hS3
    dsimp only [noAct] at *
    (repeat (first | refine V_run ?_ | refine iV_ld1 ?_ | (refine iU_st ?_; intro _ _) | (refine JC ?_; intro _ _ _ _)))
    refine Cond_d (fun h30 => ?_) (fun h30 => ?_)
    · (repeat (first | refine V_run ?_ | (refine iU_st ?_; intro _ _) | refine iHV_N ?_))
      exact ⟨_, _, ‹_›, DoneR.err (hdm.trans (if_pos (List.eq_nil_of_length_eq_zero (by omega))))⟩
    haveI : InI (((pre ++ [f]).length : Int) - 1) := ⟨by omega⟩
    haveI : InR (((pre ++ [f]).length : Int) - 1) (cap + 1) := ⟨by omega, by omega⟩
    (repeat (first | refine V_run ?_ | refine iV_ld1 ?_ | refine iV_ldN ?_ | (refine iU_st ?_; intro _ _) | refine iHV_N ?_ | refine Cond_t ?_ | (refine J0 ?_; intro _ _) | refine K0 ?_))
    rename_i hSf
    obtain ⟨z7, hz7, hS7, hsl⟩ := StOwn.freeze (Res.bring B5 hSf) (hst.mono (by (repeat (assumption)))) (by simp only [List.length_append, List.length_singleton, big]; omega)
    have hne : pre ≠ [] := by rintro rfl; simp at h30
    rw [hdm, if_neg hne]
    have := hsl.take (k := pre.length) (by simp)
    rw [List.take_left] at this
    have e : (((pre ++ [f]).length : Int) - 1).toNat = pre.length := by omega
    rw [e]
    exact ⟨z7, _, hS7, _, rfl, this⟩
  · rw [if_neg ho] at hop
    obtain ⟨rfl, rfl⟩ := hop
    rw [openE0] at ho
    refine iV_al ?_
    intro b3 w3 hb3 hS3
    rw [openE0]
    generalize he : openE s [] = e at *
    dsimp only [noAct] at *
    (repeat (first | refine V_run ?_ | refine iV_ld1 ?_ | (refine iU_st ?_; intro _ _) | (refine JC ?_; intro _ _ _ _)))
    refine Cond_not (by simp [ho]) ?_
    (repeat (first | refine V_run ?_ | refine iV_ld1 ?_ | (refine J0 ?_; intro _ _)))
    refine Cond_not (by simp [ho]) ?_
    (repeat (first | refine iV_ldN ?_ | (refine iU_st ?_; intro _ _) | refine iHV_N ?_ | refine K0 ?_))
    exact ⟨_, _, ‹_›, DoneR.err ((doneM_closed (by rw [he]; exact ho)).trans (by rw [he]))⟩)
end Go.Proofs.Ytjnckainogpenaa
end

section
/- A slice of one's own that is lent to a call; slices.Contains over whole numbers. -/
set_option linter.unusedVariables false
set_option linter.unusedSimpArgs false
set_option maxRecDepth 20000
set_option synthInstance.maxHeartbeats 400000
set_option synthInstance.maxSize 4000
namespace Go.Proofs.Ytjnckainogpenaa
open Go Q Go.RowKit

/-- What was frozen for a call alone is owned again behind it. -/
theorem Res.lend {w w' : World} {z z2 : Z} {b : Nat} {o : Obj} (hb : z b = none) (hw : w.heap[b]? = some o) (k : Res w (fun c => if c = b then some o else z c) [] w' z2 []) :
    Res w z [(b, o)] w' (fun c => if c = b then none else z2 c) [(b, o)] where
  os := k.os
  tape := k.tape
  output := k.output
  size := k.size
  base := fun c hc hn => k.base c hc (by simp [ids])
  sub := fun c o' hc => by
    by_cases hcb : c = b
    · simp [hcb] at hc
    · simp only [hcb, if_false] at hc; exact k.sub c o' hc
  zle := fun c o' hc => by
    have hcb : c ≠ b := fun e => by rw [e, hb] at hc; cases hc
    simp only [hcb, if_false]
    exact k.zle c o' (by simp only [hcb, if_false]; exact hc)
  znew := fun c hc => by
    by_cases hcb : c = b
    · exact .inr (.inr (by simp [ids, hcb]))
    · simp only [hcb, if_false] at hc
      rcases k.znew c hc with h | h | h
      · simp only [hcb, if_false] at h; exact .inl h
      · exact .inr (.inl h)
      · simp [ids] at h
  mem := fun p hp => by
    simp only [List.mem_singleton] at hp
    subst hp
    exact ⟨k.sub b o (k.zle b o (by simp)), by simp, .inr (by simp [ids])⟩
  nodup := by simp [ids]
section
variable {w0 w w' : World} {z0 z z' : Z} {B0 B B' L F : Bl} {K : Value → World → Prop}
/-- A call that reads an own slice. -/
theorem CV_lend {α : Type} {E : El α} {e : Nat} {v : Value} {xs : List α} {f : α → List Value} {fid : FuncId} [Enters fid] {args : Array Value} {P : Value → Prop} (hS : Res w0 z0 B0 w z (B ++ L)) (ho : OwnSl e E.size B v xs.length (xs.flatMap f)) (hb : xs.length ≤ big) (hf : ∀ x, (f x).length = E.size) (hr : ∀ z x, x ∈ xs → E.rel z (f x) x)
    (h : ∀ z1, Le z z1 → SlR E z1 v xs → Fn1 fid args z1 w fun _ r => P r) (hk : ∀ z' w' r, Le z z' → Res w0 z0 B0 w' z' (B ++ L) → P r → K r w') : CV (.func (.func fid) #[] #[]) args w K := by
  rcases ho.2 with ⟨rfl, rfl, h0⟩ | ⟨b, cap, sp, rfl, rfl, h1, h2, h3⟩
  · have : xs = [] := List.eq_nil_of_length_eq_zero h0
    subst this
    exact CV_1 (hS := hS) (h z (Le.refl _) SlR.nil) fun z' w' r h1 h2 h3 => hk z' w' r h1 h2 h3
  · have hm := hS.mem _ List.mem_cons_self
    have hown : Own w z [(b, .cells (xs.flatMap f ++ sp).toArray e (0, 0))] := Res.own (F := L) hS
    have hfr := Res.freeze hown
    have hsl : SlR E (fun c => if c = b then some (.cells (xs.flatMap f ++ sp).toArray e (0, 0)) else z c) (.slice (some ⟨b, 0, none⟩) xs.length cap) xs := by
      refine ⟨some ⟨b, 0, none⟩, cap, rfl, h1, hb, fun _ => ⟨b, 0, rfl, fun i x hx => ⟨f x, hr _ _ (List.mem_of_getElem? hx), _, _, _, if_pos rfl, fun j v hv => ?_⟩⟩⟩
      have := flat_get hf hx j v hv
      have hlt := (List.getElem?_eq_some_iff.1 this).1
      simp only [Nat.zero_add, List.getElem?_toArray]
      rw [List.getElem?_append_left hlt]
      exact this
    have hle := Res.freeze_le hown
    refine CV_enter (args' := args) (by simp) ?_
    refine Calls.mono (h _ hle hsl (Own.mk' hfr.sub (fun _ hp => by cases hp) List.nodup_nil)) ?_
    refine retK.mono ?_
    rintro r w' ⟨z2, k, hP⟩
    have hl := Res.lend hm.2.1 hm.1 k
    exact hk _ w' r hl.zle (Res.step (B := [_]) (B' := [_]) hS hl) hP
/-- The same, the block found among the owned ones. -/
theorem CV_lendB {α : Type} {E : El α} {e b cap : Nat} {xs : List α} {f : α → List Value} {sp : List Value} {C : Obj → Bl} {fid : FuncId} [Enters fid] {args : Array Value} {P : Value → Prop} [hS : Res w0 z0 B0 w z L] [g : Blk L b (.cells (xs.flatMap f ++ sp).toArray e (0, 0)) C] (hn : xs.length ≤ cap) (hcm : cap ≤ maxLen) (hsz : (xs.flatMap f ++ sp).length = cap * E.size)
    (hb : xs.length ≤ big) (hf : ∀ x, (f x).length = E.size) (hr : ∀ z x, x ∈ xs → E.rel z (f x) x)
    (h : ∀ z1, Le z z1 → SlR E z1 (.slice (some ⟨b, 0, none⟩) xs.length cap) xs → Fn1 fid args z1 w fun _ r => P r) (hk : ∀ z' w' r, Le z z' → Res w0 z0 B0 w' z' L → P r → K r w') : CV (.func (.func fid) #[] #[]) args w K := by
  obtain ⟨R, h1, _⟩ := g.perm
  have ho : OwnSl e E.size [(b, .cells (xs.flatMap f ++ sp).toArray e (0, 0))] (.slice (some ⟨b, 0, none⟩) xs.length cap) xs.length (xs.flatMap f) := ⟨flat_len hf xs, .inr ⟨b, cap, sp, rfl, rfl, hn, hcm, hsz⟩⟩
  exact CV_lend (B := [_]) (L := R) (hS.perm h1) ho hb hf hr h fun z' w' r hz hS' hP => hk z' w' r hz (hS'.perm h1.symm) hP
end
theorem indexI {v : Value} {xs : List Int} {c : Int} {z : Z} {w : World} (hx : SlR El.int z v xs) : Fn1 70 #[v, .int .i64 c] z w fun _ r => r = .int .i64 (fidx (fun x => decide (c = x)) xs) := Fn1.intro fun hS => en70 (by
  unfold vc70
  obtain ⟨hb, a, cap, rfl, hc, hel⟩ := hx.form
  (repeat (refine V_run ?_))
  refine LoopG1 (fun (i : Nat) x w' => x = .int .i64 i ∧ i ≤ xs.length ∧ (∀ j y, j < i → xs[j]? = some y → decide (c = y) = false) ∧ ∃ z', Res w z [] w' z' []) (fun i => xs.length - i) 0 ⟨rfl, by omega, fun j y h => absurd h (by omega), z, hS⟩ ?_
  rintro I M i x w2 m ⟨rfl, h1, h2, z2, hS2⟩ back
  (repeat (refine V_run ?_))
  refine Cond_d (fun h => ?_) (fun h => ?_)
  · have hlt : i < xs.length := by omega
    obtain ⟨b, off, cs, rfl, rfl, hat⟩ := hel i _ (List.getElem?_eq_getElem hlt)
    haveI : InR (i : Int) xs.length := ⟨by omega, by omega⟩
    haveI : InI ((i : Int) + 1) := ⟨by simp only [big] at hb; omega⟩
    haveI : Fz z b (off + (i : Int).toNat * 1) [.int .i64 xs[i]] := ⟨by rw [Int.toNat_natCast]; exact hat⟩
    (repeat (first | refine V_run ?_ | refine fV_ld1 ?_))
    refine Cond_d (fun h' => ?_) (fun h' => ?_)
    · exact ⟨_, _, hS2, by rw [fidx_some (p := fun x => decide (c = x)) h2 (List.getElem?_eq_getElem hlt) (by simpa using h')]⟩
    · (repeat (refine V_run ?_))
      refine back (i + 1) _ _ ⟨by simp, by omega, fun j y' hj hjy => ?_, z2, hS2⟩ (by omega)
      by_cases hji : j = i
      · subst hji; rw [List.getElem?_eq_getElem hlt] at hjy; cases hjy; exact decide_eq_false h'
      · exact h2 j y' (by omega) hjy
  · skip
    exact ⟨_, _, hS2, by rw [fidx_none fun j y hy => h2 j y (by have := (List.getElem?_eq_some_iff.1 hy).1; omega) hy]⟩)
theorem containsI {v : Value} {xs : List Int} {c : Int} {z : Z} {w : World} (hx : SlR El.int z v xs) : Fn1 32 #[v, .int .i64 c] z w fun _ r => r = .bool (xs.any fun x => decide (c = x)) := Fn1.intro fun hS => en32 (by
  unfold vc32
  refine CV_1 (indexI hx) ?_
  rintro z' w' v hle hS' rfl
  (repeat (refine V_run ?_))
  exact ⟨_, _, ‹_›, by rw [fidx_ge]⟩)
end Go.Proofs.Ytjnckainogpenaa
end

section
/- The reference: Raise. -/
set_option linter.unusedVariables false
set_option linter.unusedSimpArgs false
set_option maxRecDepth 20000
set_option synthInstance.maxHeartbeats 400000
set_option synthInstance.maxSize 4000
namespace Go.Proofs.Ytjnckainogpenaa
open Go Q Go.RowKit

theorem refRaise {v : Value} {s : StM} {c : Int} {text : ByteArray} {z : Z} {w : World} (hs : StR z v s) (htx : text.size ≤ big) : Fn1 26 #[v, .int .i64 c, .string text] z w fun z' r => DoneR z' r (doneM s (raiseO c text) [c]) := Fn1.intro fun hS => en26 (by
  unfold vc26
  obtain ⟨u0, rfl, hu0⟩ := hs
  obtain ⟨_, a0, cap0, rfl, _, _⟩ := id hu0.form
  haveI : Sm text := ⟨htx⟩
  refine iV_bx ?_
  intro b3 w3 hb3 hS3
  refine iV_al ?_
  intro b6 w6 hb6 hS6
  (repeat (refine iV_ldN ?_))
  refine CV_fn0 (fun hz => refOpened (c := c) ⟨_, rfl, hu0.mono hz⟩) ?_
  rintro z5 B5 w5 r hle5 hS5 hop
  by_cases ho : openE s [c] = 0
  · rw [if_pos ho] at hop
    obtain ⟨u, rfl, hst⟩ := hop
    obtain ⟨hck, h0, h1⟩ := openE_ck ho
    obtain ⟨pre, f, rfl, h6, hp4, hpre, hfd, hlast, hdl⟩ := lastSplit hck
    have hdm := raiseStep (d := text) hck h0 h1
    obtain ⟨fb, tb, ps, sp, ts, cap, tcap, B2, v2, rfl, rfl, hx, hpo⟩ := hst.x h6
    obtain ⟨a2, cap2, rfl, hc2⟩ := id hpo.form
    have hlen := hx.fr.len
    haveI : InI (((pre.length + 1 : Nat) : Int) - 1) := ⟨by omega⟩
    haveI : InR (((pre.length + 1 : Nat) : Int) - 1) (pre.length + 1 : Nat) := ⟨by omega, by omega⟩
    haveI : AddN 0 ((((pre.length + 1 : Nat) : Int) - 1).toNat * 5) ps.length := ⟨by rw [hlen]; omega⟩
    haveI : InR c (6 : Nat) := ⟨h0, by omega⟩
    obtain ⟨g0, g1, g2⟩ := tget (f := f) h6 h0 h1 ts
    haveI := g0
    haveI := g1
    haveI := g2
    simp only [sxB, List.cons_append] at hS5
    refine iV_al ?_
    intro b7 w7 hb7 hS7
    dsimp only [noAct] at hdm ⊢
    (repeat (first | refine V_run ?_ | refine iV_ld1 ?_ | (refine iU_st ?_; intro _ _) | refine Cond_f ?_ | (refine CV_pu ?_; intro _ _ _ _)))
    refine Cond_n (fun hds => ?_) (fun hds => ?_)
    · (repeat (first | refine V_run ?_ | (refine iU_st ?_; intro _ _) | refine iHV_N ?_))
      exact ⟨_, _, ‹_›, DoneR.err (hdm.trans (if_neg (by simp [hds])))⟩
    rw [if_pos hds] at hdm
    rw [hdm]
    have hrc : 0 ≤ raiseC f c ∧ raiseC f c < 6 := by unfold raiseC; split <;> omega
    (repeat (first | refine V_run ?_ | refine iV_ld1 ?_ | (refine JC ?_; intro _ _ _ _) | (refine J1 ?_; intro _ _)))
    rename_i K hJ z9 w9 hz9 hS9
    have main : ∀ z' w', Le z5 z' → Res w z [] w' z' ((b7, .cells (doneC (.slice (some ⟨fb, 0, none⟩) (pre.length + 1) cap) noAct 0).toArray 53 (0, 0)) :: (fb, .cells (ps ++ (.slice (some ⟨tb, 0, none⟩) 6 tcap :: .slice a2 f.pend.length cap2 :: .int .i64 f.info.cond :: .int .i64 f.info.mode :: .string f.info.desc :: sp)).toArray 63 (0, 0)) :: (tb, .cells (f.traps.flatMap TrM.cells ++ ts).toArray 73 (0, 0)) :: (B2 ++ [(b6, .cells (doneC (.slice none 0 0) noAct 0).toArray 53 (0, 0)), (b3, .cells [.slice a0 (pre ++ [f]).length cap0].toArray 28 (0, 0))])) → K [.int .i64 (raiseC f c)] w' := by
      intro z6 w6 hz6 hS6
      refine K1 ?_
      clear hJ g0 g1 g2
      obtain ⟨hd0, hd1⟩ := hrc
      unfold raiseA raiseF
      generalize raiseC f c = d at *
      haveI : InR d (6 : Nat) := ⟨hd0, by omega⟩
      obtain ⟨g0, g1, g2⟩ := tget (f := f) h6 hd0 hd1 ts
      haveI := g0
      haveI := g1
      haveI := g2
      haveI := tgetN (f := f) h6 hd0 hd1 ts
      have fin : ∀ (a : AcM) (zz : Z) (ww : World), Le z5 zz → Res w z [] ww zz (sxB fb tb ps sp ts tcap f (B2 ++ []) (.slice a2 f.pend.length cap2)) → ∃ z' L', Res w z [] ww z' L' ∧ DoneR z' (doneV (.slice (some ⟨fb, 0, none⟩) (pre.length + 1) cap) a 0) ⟨0, a, pre ++ [f]⟩ := fun a zz ww hz hR => by
        rw [List.append_nil] at hR
        have hx' : MachX zz 0 fb tb pre ps sp ts cap tcap f := ⟨FrsR.mono hz hx.fr, hx.cap, hx.tcap, hx.six, hx.sm⟩
        obtain ⟨z', hz', hS', hsl⟩ := StOwn.freeze (L := []) (by rw [List.append_nil]; exact hR) (hx'.st hpo) (by simp only [List.length_append, List.length_singleton, big]; omega)
        exact ⟨z', _, hS', _, rfl, hsl⟩
      have hdf : deferred d = !immediate d := by rw [deferred_eq, show cond d = true by simp [cond, hd0, hd1]]; rfl
      dsimp only [noAct] at hS6
      (repeat (first | refine V_run ?_ | refine iV_ld1 ?_ | refine iV_ldN ?_ | (refine iV_bx ?_; intro _ _ _ _) | (refine iU_st ?_; intro _ _)))
      refine Cond_d (fun hmo => ?_) (fun hmo => ?_)
      · simp only [hmo, if_true]
        by_cases h52 : d = 5 ∨ d = 2
        · rw [if_pos h52]
          (repeat (first | refine V_run ?_ | refine JB ?_ | (refine J0 ?_; intro _ _)))
          refine Cond_is (by rcases h52 with e | e <;> simp [e]) ?_
          (repeat (first | refine V_run ?_ | refine iV_ldN ?_ | (refine iU_st ?_; intro _ _) | refine iHV_N ?_ | refine K0 ?_))
          rename_i hSe
          exact fin ⟨3, ⟨#[]⟩, d, text⟩ _ _ (by (repeat (assumption))) (Res.keep [.at fb, .at tb, .bl B2] hSe)
        · rw [if_neg h52]
          (repeat (first | refine V_run ?_ | refine JB ?_ | (refine J0 ?_; intro _ _)))
          refine Cond_not (by simp only [not_or] at h52; simp [h52.1, h52.2]) ?_
          (repeat (first | refine iV_ldN ?_ | (refine iU_st ?_; intro _ _) | refine iHV_N ?_ | refine K0 ?_))
          rename_i hSe
          exact fin noAct _ _ (by (repeat (assumption))) (Res.keep [.at fb, .at tb, .bl B2] hSe)
      simp only [hmo, if_false]
      (repeat (first | refine V_run ?_ | (refine CV_pu ?_; intro _ _ _ _)))
      rw [hdf, Bool.not_not]
      refine Cond_b (fun him => ?_) (fun him => ?_)
      · simp only [him, if_true]
        (repeat (first | refine V_run ?_ | refine iV_ldN ?_))
        rename_i hSe
        have hx' : MachX z6 0 fb tb pre ps sp ts cap tcap f := ⟨FrsR.mono hz6 hx.fr, hx.cap, hx.tcap, hx.six, hx.sm⟩
        refine CV_fn (B := sxB fb tb ps sp ts tcap f B2 (.slice a2 f.pend.length cap2)) (F := [(b6, _)]) (Res.keep [.at fb, .at tb, .bl B2, .at b6] hSe) (refSignalled (StOwn.mono (hx'.st hpo) (by (repeat (assumption)))) h6 hd0 hd1 (by omega) htx) (by simp) ?_
        rintro z8 B8 w8 _ hle8 hS8 ⟨u8, rfl, ho8⟩
        obtain ⟨_, cap8, rfl, _⟩ := ho8.form
        dsimp only [sigA] at *
        (repeat (first | (refine iU_st ?_; intro _ _) | refine iHV_N ?_))
        rename_i hSf
        obtain ⟨z9, hz9, hS9, hsl⟩ := StOwn.freeze (Res.bring B8 hSf) ho8 (by simp only [List.length_append, List.length_singleton, big]; omega)
        exact ⟨z9, _, hS9, _, rfl, hsl⟩
      simp only [him, Bool.false_eq_true, if_false]
      (repeat (first | refine V_run ?_ | refine iV_ld1 ?_ | (refine J1 ?_; intro _ _)))
      refine Cond_b (fun hdl => ?_) (fun hdl => ?_)
      · (repeat (first | refine iV_ldN ?_ | (refine iU_st ?_; intro _ _) | refine iHV_N ?_ | refine Cond_t ?_ | refine K1 ?_))
        rename_i hSe
        rw [if_pos (by simp [hdl])]
        exact fin noAct _ _ (by (repeat (first | assumption | refine Le.trans ?_ (by assumption : Le _ _)))) (Res.keep [.at fb, .at tb, .bl B2] hSe)
      (repeat (first | refine V_run ?_ | refine iV_ld1 ?_))
      have hpi : decide (pendIdx f.pend d ≥ 0) = hasP f d := fidx_ge
      refine CV_lend (B := B2) (E := El.raised) (xs := f.pend) (f := RaM.cells) (e := 70) (P := fun r => r = .int .i64 (pendIdx f.pend d)) (Res.bring B2 (by assumption)) hpo (by simp only [big]; omega) (fun _ => rfl) (fun z x hx' => ⟨rfl, hx.sm.2.2.2.1 x hx'⟩) (fun z1 hle hsl => pending hsl) ?_
      rintro z8 w8 _ hle8 hS8 rfl
      (repeat (first | refine V_run ?_ | refine K1 ?_))
      rw [hpi]
      refine Cond_b (fun hha => ?_) (fun hha => ?_)
      · (repeat (first | refine iV_ldN ?_ | (refine iU_st ?_; intro _ _) | refine iHV_N ?_))
        rename_i hSe
        rw [if_pos (by simp [hha])]
        exact fin noAct _ _ (by (repeat (first | assumption | refine Le.trans ?_ (by assumption : Le _ _)))) (Res.keep [.at fb, .at tb, .bl B2] hSe)
      rw [if_neg (by simp [hha, hdl])]
      have hsm := hx.sm
      (repeat (first | (refine iDr ?_; intro _ _) | refine PV_run ?_ | refine iHV_1 ?_))
      refine V_bs (parts := [(0, _)]) rfl (by omega) ?_
      intro b15 w15 hb15 hS15
      (repeat (refine iRI_1 ?_))
      refine V_app (B := B2) (m := 1) (n := f.pend.length) (news := [.int .i64 d, .string text]) (Res.bring B2 hS15) hpo ⟨_, _, _, (hS15.mem _ List.mem_cons_self).1, fun j v hv => by simpa using hv⟩ rfl (fun u hu => by simp at hu; rcases hu with rfl | rfl <;> rfl) (by omega) (by have := hsm.2.1; simp only [room]; omega) (by have := hsm.2.1; simp only [room]; omega) ?_
      intro B16 v16 w16 ho16 hS16
      obtain ⟨a16, cap16, rfl, hc16⟩ := ho16.form
      (repeat (first | refine PV_run ?_ | refine iV_ldN ?_ | (refine iU_st ?_; intro _ _) | refine iHV_N ?_ | refine iRI_1 ?_))
      rename_i hSe
      obtain ⟨q1, q2, q3, q4, q5⟩ := hsm
      have hx' : MachX z8 0 fb tb pre ps sp ts cap tcap { f with pend := f.pend ++ [⟨d, text⟩] } := ⟨FrsR.mono (by (repeat (first | assumption | refine Le.trans ?_ (by assumption : Le _ _)))) hx.fr, hx.cap, hx.tcap, hx.six, q1, by simp only [List.length_append, List.length_singleton]; omega, q3, fun r hr => by
        rcases List.mem_append.1 hr with hr | hr
        · exact q4 r hr
        · simp only [List.mem_singleton] at hr; subst hr; exact htx, q5⟩
      have hR := Res.keep [.at fb, .at tb, .bl B16] hSe
      obtain ⟨z9, hz9, hS9, hsl⟩ := StOwn.freeze (L := []) (B := sxB fb tb ps sp ts tcap { f with pend := f.pend ++ [⟨d, text⟩] } B16 (.slice a16 (f.pend.length + 1) cap16)) hR (hx'.st (by simpa [PendOwn] using ho16)) (by simp only [List.length_append, List.length_singleton, big]; omega)
      exact ⟨z9, _, hS9, _, rfl, hsl⟩
    refine Cond_b (fun hq => ?_) (fun hq => ?_)
    · have e : raiseC f c = 0 := by
        simp only [cond_eq_ite] at hq
        by_cases e1 : c = 1
        · subst e1
          simp at hq
          rw [raiseC, if_pos ⟨rfl, hq⟩]
        · simp [e1] at hq
      rw [e] at main
      exact main z9 w9 (by (repeat (first | assumption | refine Le.trans ?_ (by assumption : Le _ _)))) hS9
    · have e : raiseC f c = c := by
        rw [raiseC, if_neg]
        rintro ⟨rfl, hm⟩
        simp [hm] at hq
      rw [e] at main
      exact main z9 w9 (by (repeat (first | assumption | refine Le.trans ?_ (by assumption : Le _ _)))) hS9
  · rw [if_neg ho] at hop
    obtain ⟨rfl, rfl⟩ := hop
    refine iV_al ?_
    intro b7 w7 hb7 hS7
    dsimp only [noAct] at *
    (repeat (first | refine V_run ?_ | refine iV_ld1 ?_ | (refine iU_st ?_; intro _ _)))
    refine Cond_is (by simpa using ho) ?_
    (repeat (first | refine iV_ldN ?_ | (refine iU_st ?_; intro _ _) | refine iHV_N ?_))
    exact ⟨_, _, ‹_›, DoneR.err (doneM_closed ho)⟩)
end Go.Proofs.Ytjnckainogpenaa
end

section
/- The reference: EndClause. -/
set_option linter.unusedVariables false
set_option linter.unusedSimpArgs false
set_option maxRecDepth 20000
set_option synthInstance.maxHeartbeats 400000
set_option synthInstance.maxSize 4000
namespace Go.Proofs.Ytjnckainogpenaa
open Go Q Go.RowKit

theorem setD_flat {f : FrM} {c : Int} (h6 : f.traps.length = 6) (h0 : 0 ≤ c) (h1 : c < 6) (ts : List Value) (b : Bool) : SetN (f.traps.flatMap TrM.cells ++ ts) (c.toNat * 3 + 2) [.bool b] ((f.traps.set c.toNat { f.tr c with delayed := b }).flatMap TrM.cells ++ ts) := by
  obtain ⟨tp, tq, h, hl, hp⟩ := FrM.split h6 h0 h1
  have h2 : f.traps.set c.toNat { f.tr c with delayed := b } = tp ++ { f.tr c with delayed := b } :: tq := hp _
  have hoff : c.toNat * 3 = (tp.flatMap TrM.cells).length := by rw [flat_len (f := TrM.cells) (n := 3) (fun _ => rfl), hl]
  rw [h2, hoff]
  generalize f.tr c = t at *
  rw [h]
  simp only [List.flatMap_append, List.flatMap_cons, TrM.cells, List.append_assoc, List.cons_append, List.nil_append]
  infer_instance
/-- A state whose top frame's conditions are frozen is frozen. -/
theorem stFin {w0 w : World} {z0 z : Z} {B0 L : Bl} {fb tb cap tcap : Nat} {ps sp ts : List Value} {v2 : Value} {pre : StM} {f : FrM} (h : Res w0 z0 B0 w z (sxB fb tb ps sp ts tcap f [] v2 ++ L)) (hx : MachX z 0 fb tb pre ps sp ts cap tcap f) (hv2 : SlR El.raised z v2 f.pend) (hp : pre.length ≤ 100) :
    ∃ z', Le z z' ∧ Res w0 z0 B0 w z' L ∧ SlR El.frame z' (.slice (some ⟨fb, 0, none⟩) (pre.length + 1) cap) (pre ++ [f]) := by
  obtain ⟨q1, q2, q3, q4, q5⟩ := hx.sm
  simp only [sxB, List.cons_append, List.nil_append] at h
  have hfl : (f.traps.flatMap TrM.cells).length = 18 := by rw [flat_len (f := TrM.cells) (n := 3) (fun _ => rfl), hx.six]
  obtain ⟨z1, hz1, hS1, hv1⟩ := Res.freezeSl (E := El.trap) (B := [(tb, _)]) (v := .slice (some ⟨tb, 0, none⟩) 6 tcap) (xs := f.traps) (f := TrM.cells) (e := 73) (Res.bringB tb h) ⟨by rw [hfl, hx.six]; rfl, .inr ⟨tb, tcap, ts, rfl, by rw [hx.six], by rw [hx.six]; exact hx.tcap.1, hx.tcap.2.1, by rw [List.length_append, hfl]; exact hx.tcap.2.2⟩⟩ (by simp only [big]; omega) (fun _ => rfl) (fun z x hm => ⟨rfl, q3 x hm⟩)
  have hlen := hx.fr.len
  have hcap := hx.cap
  obtain ⟨z2, hz2, hS2, hs⟩ := MachR.st (s := pre ++ [f]) (Bf := [(fb, _)]) (xs := ps ++ (.slice (some ⟨tb, 0, none⟩) 6 tcap :: v2 :: f.info.cells)) (v := .slice (some ⟨fb, 0, none⟩) (pre.length + 1) cap) (Res.bringB fb hS1) ⟨by simp; omega, .inr ⟨fb, cap, sp, by simp, by simp, by simp; omega, hcap.2.1, by simp; omega⟩⟩ (FrsR.snoc (f := f) ⟨_, _, rfl, hv1, hv2.mono hz1, q5⟩ (FrsR.mono hz1 hx.fr)) (by simp only [List.length_append, List.length_singleton, big]; omega)
  exact ⟨z2, hz1.trans hz2, hS2, hs⟩
theorem refEnd {v : Value} {s : StM} {z : Z} {w : World} (hs : StR z v s) : Fn1 27 #[v] z w fun z' r => DoneR z' r (doneM s endO []) := Fn1.intro fun hS => en27 (by
  unfold vc27
  obtain ⟨u0, rfl, hu0⟩ := hs
  obtain ⟨_, a0, cap0, rfl, _, _⟩ := id hu0.form
  refine iV_bx ?_
  intro b1 w1 hb1 hS1
  refine iV_al ?_
  intro b2 w2 hb2 hS2
  (repeat (refine iV_ldN ?_))
  refine CV_fn0 (fun hz => refOpened (c := 0) ⟨_, rfl, hu0.mono hz⟩) ?_
  rintro z5 B5 w5 r hle5 hS5 hop
  by_cases ho : openE s [0] = 0
  · rw [if_pos ho] at hop
    obtain ⟨u, rfl, hst⟩ := hop
    obtain ⟨hck, h0, h1⟩ := openE_ck ho
    obtain ⟨pre, f, rfl, h6, hp4, hpre, hfd, hlast, hdl⟩ := lastSplit hck
    have hdm := endStep hck
    obtain ⟨fb, tb, ps, sp, ts, cap, tcap, B2, v2, rfl, rfl, hx, hpo⟩ := hst.x h6
    have hlen := hx.fr.len
    haveI : InI (((pre.length + 1 : Nat) : Int) - 1) := ⟨by omega⟩
    haveI : InR (((pre.length + 1 : Nat) : Int) - 1) (pre.length + 1 : Nat) := ⟨by omega, by omega⟩
    haveI : AddN 0 ((((pre.length + 1 : Nat) : Int) - 1).toNat * 5) ps.length := ⟨by rw [hlen]; omega⟩
    simp only [sxB, List.cons_append] at hS5
    obtain ⟨zp, hzp, hSp, hv2⟩ := Res.freezeSl (E := El.raised) (Res.bring B2 hS5) hpo (by simp only [big]; omega) (fun _ => rfl) (fun z x hx' => ⟨rfl, hx.sm.2.2.2.1 x hx'⟩)
    clear hS5
    obtain ⟨_, a2, cap2, rfl, _, _⟩ := id hv2.form
    refine iV_al ?_
    intro b3 w3 hb3 hS3
    dsimp only [noAct] at *
    (repeat (first | refine V_run ?_ | refine iV_ld1 ?_ | (refine iU_st ?_; intro _ _) | refine Cond_f ?_))
    refine LoopG0 (fun (l : List RaM) w' => ∃ z' a n cap', SlR El.raised z' (.slice a n cap') l ∧ (∃ l0, f.pend = l0 ++ l) ∧ endM (pre.length + 1) f f.pend = endM (pre.length + 1) f l ∧ Le zp z' ∧ Res w z [] w' z' [(b3, .cells (doneC (.slice (some ⟨fb, 0, none⟩) (pre.length + 1) cap) noAct 0).toArray 53 (0, 0)), (fb, .cells (ps ++ (.slice (some ⟨tb, 0, none⟩) 6 tcap :: .slice a n cap' :: .int .i64 f.info.cond :: .int .i64 f.info.mode :: .string f.info.desc :: sp)).toArray 63 (0, 0)), (tb, .cells (f.traps.flatMap TrM.cells ++ ts).toArray 73 (0, 0)), (b2, .cells (doneC (.slice none 0 0) noAct 0).toArray 53 (0, 0)), (b1, .cells [.slice a0 (pre ++ [f]).length cap0].toArray 28 (0, 0))]) (fun l => l.length) f.pend ⟨_, _, _, _, hv2, ⟨[], rfl⟩, rfl, Le.refl _, by assumption⟩ ?_
    rintro I M l w6 m ⟨z6, a6, n6, cap6, hv6, ⟨l0, hl0⟩, hend, hz6, hS6⟩ back
    have hx6 : MachX z6 0 fb tb pre ps sp ts cap tcap { f with pend := l } := by
      obtain ⟨q1, q2, q3, q4, q5⟩ := hx.sm
      refine ⟨FrsR.mono (by (repeat (first | assumption | refine Le.trans ?_ (by assumption : Le _ _)))) hx.fr, hx.cap, hx.tcap, hx.six, q1, ?_, q3, fun r hr => q4 r (by rw [hl0]; exact List.mem_append_right _ hr), q5⟩
      have : l.length ≤ f.pend.length := by rw [hl0, List.length_append]; omega
      simp only; omega
    cases l with
    | nil =>
      obtain ⟨_, _, _, hvf, _, _⟩ := id hv6.form
      have : n6 = 0 := by injection hvf
      subst this
      (repeat (first | refine V_run ?_ | refine iV_ld1 ?_ | refine iV_ldN ?_ | (refine iU_st ?_; intro _ _) | refine iHV_N ?_ | refine Cond_f ?_))
      rename_i hSe
      obtain ⟨z9, hz9, hS9, hsl⟩ := stFin (L := []) (f := { f with pend := [] }) (Res.keep [.at fb, .at tb] hSe) hx6 hv6 (by omega)
      rw [hdm, hend]
      exact ⟨z9, _, hS9, _, rfl, hsl⟩
    | cons r l' =>
      obtain ⟨_, _, _, hvf, _, helr⟩ := id hv6.form
      have hn6 : n6 = l'.length + 1 := by injection hvf
      subst hn6
      obtain ⟨bR, oR, cs, hab, ⟨rfl, _⟩, hatR⟩ := helr 0 r rfl
      have ha6 : a6 = some ⟨bR, oR, none⟩ := by injection hvf with h1; rw [h1, hab]
      subst ha6
      obtain ⟨c0, c1, him, hdsc, hpl⟩ := pend_facts hfd hl0
      haveI : InR r.cond (6 : Nat) := ⟨c0, by omega⟩
      obtain ⟨g0, g1, g2⟩ := tget (f := f) h6 c0 c1 ts
      haveI := g0
      haveI := g1
      haveI := g2
      haveI := tgetN (f := f) h6 c0 c1 ts
      haveI : InR 0 (l'.length + 1 : Nat) := ⟨by omega, by omega⟩
      haveI : InR 1 ((l'.length + 1 : Nat) + 1) := ⟨by omega, by omega⟩
      have hto := tr_ok hfd c0 c1
      simp only [endM] at hend
      dsimp only [noAct] at hS6 ⊢
      (repeat (first | refine V_run ?_ | refine iV_ld1 ?_))
      refine Cond_is (by simp) ?_
      (repeat (first | refine V_run ?_ | refine iV_ld1 ?_))
      refine zV_row hatR (by (repeat (exact Le.refl _))) rfl rfl ?_
      dsimp only [RaM.cells]
      refine iV_al ?_
      intro b5 w5' hb5 hS5
      (repeat (first | (refine iDr ?_; intro _ _) | refine PV_run ?_ | (refine iU_st ?_; intro _ _) | refine iHV_1 ?_ | refine iHV_N ?_))
      refine iV_al ?_
      intro b6 w6' hb6 hS6'
      (repeat (first | refine V_run ?_ | refine iV_ld1 ?_ | (refine iU_st ?_; intro _ _) | refine iRI_1 ?_ | refine iRI_N ?_))
      refine Cond_d (fun hm1 => ?_) (fun hm1 => ?_)
      · have hde : ¬ ((f.tr r.cond).mode = 0 ∨ (f.tr r.cond).delayed = true) := by
          rw [trapOk, if_neg (by omega)] at hto
          simp only [Bool.and_eq_true, Bool.or_eq_true, Bool.not_eq_true', decide_eq_true_eq] at hto
          rintro (h | h)
          · omega
          · rcases hto.2 with h2 | h2
            · rw [h] at h2; cases h2
            · omega
        rw [if_neg hde, if_pos hm1] at hend
        (repeat (first | refine V_run ?_ | refine iV_ld1 ?_ | refine iV_ldN ?_))
        rename_i hSe
        refine CV_fn (B := sxB fb tb ps sp ts tcap { f with pend := r :: l' } [] (.slice (some ⟨bR, oR, none⟩) (l'.length + 1) cap6)) (F := [(b2, _)]) (Res.keep [.at fb, .at tb, .at b2] hSe) (refSignalledX (f := { f with pend := r :: l' }) (c := r.cond) (desc := r.desc) (cap := cap) ⟨FrsR.mono (by (repeat (exact Le.refl _))) hx6.fr, hx6.cap, hx6.tcap, hx6.six, hx6.sm⟩ h6 c0 c1 (by omega) (by have := hdsc; simp only [descB, Bool.and_eq_true, decide_eq_true_eq] at this; simp only [big]; omega)) (by simp) ?_
        rintro z8 B8 w8 _ hle8 hS8 ⟨u8, rfl, ho8⟩
        obtain ⟨_, cap8, rfl, _⟩ := ho8.form
        dsimp only [sigA] at *
        (repeat (first | (refine iU_st ?_; intro _ _) | refine iHV_N ?_))
        rename_i hSf
        obtain ⟨z9, hz9, hS9, hsl⟩ := StOwn.freeze (Res.bring B8 hSf) ho8 (by simp only [List.length_append, List.length_singleton, big]; omega)
        rw [hdm, hend]
        exact ⟨z9, _, hS9, _, rfl, hsl⟩
      rw [if_neg hm1] at hend
      have hvt := SlR.tail hv6
      (repeat (first | (refine iDr ?_; intro _ _) | refine V_run ?_ | refine PV_run ?_ | refine iV_ld1 ?_ | (refine iU_st ?_; intro _ _) | refine iHV_1 ?_ | (refine JC ?_; intro _ _ _ _)))
      refine Cond_b (fun hq => ?_) (fun hq => ?_)
      · have hof : (f.tr r.cond).mode = 0 ∨ (f.tr r.cond).delayed = true := by
          simp only [cond_eq_ite] at hq
          by_cases e : (f.tr r.cond).mode = 0
          · exact .inl e
          · simp [e] at hq; exact .inr hq
        rw [if_pos hof] at hend
        rename_i hSe
        exact back l' _ ⟨_, some ⟨bR, if cap6 = 1 then oR else oR + 2, none⟩, l'.length + 1 - 1, cap6 - 1, hvt.mono (by (repeat (assumption))), ⟨l0 ++ [r], by rw [hl0]; simp⟩, hend, by (repeat (first | assumption | refine Le.trans ?_ (by assumption : Le _ _))), Res.tl (Res.tl hSe)⟩ (by simp)
      have hno : ¬ ((f.tr r.cond).mode = 0 ∨ (f.tr r.cond).delayed = true) := by
        simp only [cond_eq_ite] at hq
        rintro (h | h) <;> simp [h] at hq
      rw [if_neg hno] at hend
      (repeat (first | refine V_run ?_ | refine iV_ld1 ?_))
      refine Cond_d (fun h30 => ?_) (fun h30 => ?_)
      · rw [if_pos (by omega)] at hend
        (repeat (first | refine V_run ?_ | (refine iU_st ?_; intro _ _) | refine iHV_N ?_))
        exact ⟨_, _, ‹_›, DoneR.err (by rw [hdm, hend]; rfl)⟩
      rw [if_neg (by omega)] at hend
      (repeat (first | refine V_run ?_ | refine iV_ldN ?_))
      rename_i hSe
      refine CV_fn (B := sxB fb tb ps sp ts tcap { f with pend := l' } [] (.slice (some ⟨bR, if cap6 = 1 then oR else oR + 2, none⟩) (l'.length + 1 - 1) (cap6 - 1))) (F := [(b6, _), (b5, _), (b3, _), (b2, _)]) (Res.keep [.at fb, .at tb, .at b6, .at b5, .at b3, .at b2] hSe) (refPushedX (f := { f with pend := l' }) (cap := cap) ⟨FrsR.mono (by (repeat (assumption))) hx6.fr, hx6.cap, hx6.tcap, hx6.six, ?_⟩ (hvt.mono (by (repeat (assumption)))) h6 (by omega)) (by simp) ?_
      · obtain ⟨q1, q2, q3, q4, q5⟩ := hx6.sm
        exact ⟨q1, by simp only [List.length_cons] at q2 ⊢; omega, q3, fun r hr => q4 r (List.mem_cons_of_mem _ hr), q5⟩
      rintro z8 B8 w8 _ hle8 hS8 ⟨u8, rfl, ho8⟩
      have h6' : (pushF { f with pend := l' }).traps.length = 6 := h6
      obtain ⟨fb', tb', ps', sp', ts', cap', tcap', B2', v2', rfl, rfl, hx', hpo'⟩ := ho8.x h6'
      obtain ⟨a2', cap2', rfl, _⟩ := id hpo'.form
      simp only [sxB, List.cons_append] at hS8
      have hlen' := hx'.fr.len
      have hl1 : (pre ++ [({ f with pend := l' } : FrM)]).length = pre.length + 1 := by simp
      haveI : InI ((((pre.length + 1 : Nat) : Int) - 1) + 1) := ⟨by omega⟩
      haveI : InR ((((pre.length + 1 : Nat) : Int) - 1) + 1) ((pre ++ [({ f with pend := l' } : FrM)]).length + 1 : Nat) := ⟨by omega, by rw [hl1]; omega⟩
      haveI : AddN 0 (((((pre.length + 1 : Nat) : Int) - 1) + 1).toNat * 5) ps'.length := ⟨by rw [hlen', hl1]; omega⟩
      haveI := setD_flat h6' c0 c1 ts' true
      (repeat (first | (refine iDr ?_; intro _ _) | refine V_run ?_ | refine PV_run ?_ | refine iV_ld1 ?_ | refine iV_ldN ?_ | (refine iU_st ?_; intro _ _) | refine iHV_1 ?_ | refine iHV_N ?_))
      rename_i hSf
      have hmem : f.tr r.cond ∈ f.traps := by
        rw [FrM.tr, List.getD_eq_getElem?_getD, List.getElem?_eq_getElem (by omega)]
        exact List.getElem_mem _
      have hlab : (f.tr r.cond).label.size ≤ big := hx.sm.2.2.1 _ hmem
      have hxg : MachX z8 0 fb' tb' (pre ++ [({ f with pend := l' } : FrM)]) ps' sp' ts' cap' tcap' ⟨f.traps.set r.cond.toNat { f.tr r.cond with delayed := true }, [], ⟨r.cond, 2, r.desc⟩⟩ := ⟨hx'.fr, hx'.cap, hx'.tcap, by simp [h6], hx'.sm.set (t := { f.tr r.cond with delayed := true }) hlab _ (by simp) (fun r hr => by cases hr) (hx.sm.2.2.2.1 r (by rw [hl0]; simp))⟩
      have hR := Res.keep [.at fb', .at tb', .bl B2'] hSf
      rw [List.append_nil] at hR
      have hstg := (hxg.st (B2 := B2') (v2 := .slice a2' (pushF ({ f with pend := l' } : FrM)).pend.length cap2') hpo')
      obtain ⟨z9, hz9, hS9, hsl⟩ := StOwn.freeze (L := []) (by rw [List.append_nil]; exact hR) hstg (by simp only [List.length_append, List.length_singleton, big]; omega)
      rw [hdm, hend]
      refine ⟨z9, _, hS9, _, rfl, ?_⟩
      simpa [callF] using hsl
  · rw [if_neg ho] at hop
    obtain ⟨rfl, rfl⟩ := hop
    rw [openE0] at ho
    refine iV_al ?_
    intro b3 w3 hb3 hS3
    rw [openE0]
    generalize he : openE s [] = e at *
    dsimp only [noAct] at *
    (repeat (first | refine V_run ?_ | refine iV_ld1 ?_ | (refine iU_st ?_; intro _ _)))
    refine Cond_is (by simp [ho]) ?_
    (repeat (first | refine iV_ldN ?_ | (refine iU_st ?_; intro _ _) | refine iHV_N ?_))
    exact ⟨_, _, ‹_›, DoneR.err ((doneM_closed (by rw [he]; exact ho)).trans (by rw [he]))⟩)
end Go.Proofs.Ytjnckainogpenaa
end

section
/- The law TrapCatches, walked. -/
set_option linter.unusedVariables false
set_option linter.unusedSimpArgs false
set_option maxRecDepth 20000
set_option synthInstance.maxHeartbeats 400000
set_option synthInstance.maxSize 4000
namespace Go.Proofs.Ytjnckainogpenaa
open Go Q Go.RowKit

instance : Pu 12 #[] (.bool true) := ⟨fun z w => sane⟩
theorem V_rem {t : Nat} {a b : Int} {w : World} {K : Value → World → Prop} (ha : 0 ≤ a ∧ a ≤ 1000000) (hb : 0 < b ∧ b ≤ 1000000) (hk : K (.int .i64 (a % b)) w) : V (bi .rem t (.int .i64 a) (.int .i64 b)) w K := by
  refine ⟨_, w, ?_, hk⟩
  have h1 : a.tmod b = a % b := Int.tmod_eq_emod_of_nonneg ha.1
  have h2 : IntKind.i64.wrap (a % b) = a % b := wrap_in ⟨by have := Int.emod_nonneg a (show b ≠ 0 by omega); omega, by have := Int.emod_lt_of_pos a hb.1; omega⟩
  have h3 : ¬ (b = 0) := by omega
  simp [bi, binOp, Op.intDiv, h3, h1, h2]
theorem lawCatches {v : Value} {l : List OpM} {c : Int} {z : Z} {w : World} (hl : SlR El.op z v l) (hc : 0 ≤ c ∧ c ≤ 255) : Fn1 6 #[v, .int .u8 c] z w fun _ r => r = .bool true := Fn1.intro fun hS => en6 (by
  unfold vc6
  refine CV_1 (playedP hl) ?_
  rintro z1 w1 _ hle1 hS1 ⟨_, rfl, u, rfl, hu⟩
  obtain ⟨hb, a0, cap0, rfl, hcap, hel⟩ := hu.form
  (repeat (first | refine V_run ?_ | (refine iV_bx ?_; intro _ _ _ _) | (refine iU_st ?_; intro _ _) | (refine J1 ?_; intro _ _)))
  refine Cond_n (fun hok => ?_) (fun hok => ?_)
  · (repeat (first | refine Cond_t ?_ | refine K1 ?_ | (refine CV_pu ?_; intro _ _ _ _)))
    exact ⟨_, _, ‹_›, rfl⟩
  · have hck : checkB (playedM l) = true := by rw [playedM, if_pos hok]; exact playFrom_ok newM_ok
    generalize playedM l = s at *
    obtain ⟨pre, f, rfl, h6, hp4, hpre, hfd, hlast, hdl⟩ := lastSplit hck
    have hl1 : (pre ++ [f]).length = pre.length + 1 := by simp
    obtain ⟨b, off, cs, rfl, ⟨v1, v2, rfl, hv1, hv2, hd⟩, hat⟩ := hel pre.length f (by simp)
    obtain ⟨_, a2, cap2, rfl, _, _⟩ := hv2.form
    haveI : InI (((pre ++ [f]).length : Int) - 1) := ⟨by rw [hl1]; omega⟩
    haveI : InR (((pre ++ [f]).length : Int) - 1) ((pre ++ [f]).length : Nat) := ⟨by rw [hl1]; omega, by rw [hl1]; omega⟩
    (repeat (first | refine V_run ?_ | refine iV_ld1 ?_))
    have hix : (((pre ++ [f]).length : Int) - 1).toNat = pre.length := by rw [hl1]; omega
    rw [hix]
    have hat1 : At z1 b (off + (pre.length * 5 + 1)) [.slice a2 f.pend.length cap2] := by
      obtain ⟨cc, cty, cfr, g1, g2⟩ := hat
      refine ⟨cc, cty, cfr, g1, fun j v hv => ?_⟩
      have := g2 (j + 1) v (by cases j with
        | zero => simpa using hv
        | succ j => simp at hv)
      rw [← this]
      congr 1
      show off + (pre.length * 5 + 1) + j = off + pre.length * 5 + (j + 1)
      omega
    refine zV_ld1 hat1 ?_
    (repeat (first | refine V_run ?_ | refine K1 ?_))
    refine Cond_d (fun hpn => ?_) (fun hpn => ?_)
    · (repeat (refine CV_pu ?_; intro _ _ _ _))
      exact ⟨_, _, ‹_›, rfl⟩
    · (repeat (refine V_run ?_))
      rw [wrap_in ⟨by omega, by omega⟩]
      refine V_rem (by omega) (by omega) ?_
      have hc0 : 0 ≤ c % 6 := Int.emod_nonneg c (by decide)
      have hc1 : c % 6 < 6 := Int.emod_lt_of_pos c (by decide)
      generalize c % 6 = d at *
      (repeat (refine iV_ldN ?_))
      refine CV_1 (CatchesP (c := d) ⟨_, rfl, hu⟩) ?_
      rintro z3 w3 _ hle3 hS3 rfl
      dsimp only [AcM.v] at *
      (repeat (first | refine V_run ?_ | refine iV_ldN ?_ | (refine iV_bx ?_; intro _ _ _ _) | (refine iU_st ?_; intro _ _)))
      refine CV_1 (RaiseP (c := d) ⟨_, rfl, hu.mono hle3⟩ emptySm) ?_
      rintro z4 w4 _ hle4 hS4 ⟨_, rfl, u4, rfl, hu4⟩
      obtain ⟨_, a4, cap4, rfl, _, _⟩ := hu4.form
      dsimp only [AcM.v] at *
      (repeat (first | refine V_run ?_ | (refine iV_bx ?_; intro _ _ _ _) | (refine iU_st ?_; intro _ _) | (refine JC ?_; intro _ _ _ _) | (refine J1 ?_; intro _ _)))
      have hlaw := catches_law (c := d) hck (by rw [hlast]; exact List.eq_nil_of_length_eq_zero (by omega)) hc0 hc1
      rw [catchLaw] at hlaw
      refine Cond_b (fun hq => ?_) (fun hq => ?_)
      · have hq' : (doneM (pre ++ [f]) (raiseO d ⟨#[]⟩) [d]).e = 0 ∧ (doneM (pre ++ [f]) (raiseO d ⟨#[]⟩) [d]).a.kind = 0 := by
          simp only [cond_eq_ite] at hq
          by_cases e : (doneM (pre ++ [f]) (raiseO d ⟨#[]⟩) [d]).e = 0 <;> simp [e] at hq ⊢
          exact hq
        rw [if_pos hq'] at hlaw
        (repeat (refine iV_ldN ?_))
        refine CV_1 (EndClauseP ⟨_, rfl, hu4.mono ‹Le z4 _›⟩) ?_
        rintro z5 w5 _ hle5 hS5 ⟨_, rfl, u5, rfl, hu5⟩
        dsimp only [AcM.v] at *
        (repeat (first | refine V_run ?_ | (refine iU_st ?_; intro _ _) | refine JB ?_ | (refine JC ?_; intro _ _ _ _) | refine K1 ?_ | (refine CV_pu ?_; intro _ _ _ _)))
        exact ⟨_, _, ‹_›, by rw [hlaw]; simp⟩
      · have hq' : ¬ ((doneM (pre ++ [f]) (raiseO d ⟨#[]⟩) [d]).e = 0 ∧ (doneM (pre ++ [f]) (raiseO d ⟨#[]⟩) [d]).a.kind = 0) := by
          simp only [cond_eq_ite] at hq
          by_cases e : (doneM (pre ++ [f]) (raiseO d ⟨#[]⟩) [d]).e = 0 <;> simp [e] at hq ⊢
          exact hq
        rw [if_neg hq'] at hlaw
        (repeat (first | refine JB ?_ | (refine JC ?_; intro _ _ _ _) | refine K1 ?_ | (refine CV_pu ?_; intro _ _ _ _)))
        exact ⟨_, _, ‹_›, by rw [hlaw]; simp⟩)
end Go.Proofs.Ytjnckainogpenaa
end

section
/- The reference: Condition, Catches, operations. -/
set_option linter.unusedVariables false
set_option linter.unusedSimpArgs false
set_option maxRecDepth 20000
set_option synthInstance.maxHeartbeats 400000
set_option synthInstance.maxSize 4000
namespace Go.Proofs.Ytjnckainogpenaa
open Go Q Go.RowKit

abbrev textV (s : ByteArray) (e : Int) : Value := .agg [.string s, .int .i64 e].toArray
theorem refCondition {v : Value} {s : StM} {o : Int} {z : Z} {w : World} (hs : StR z v s) : Fn1 38 #[v, .int .u8 o] z w fun _ r => r = textV (condM s o).1 (condM s o).2 := Fn1.intro fun hS => en38 (by
  unfold vc38
  obtain ⟨u0, rfl, hu0⟩ := hs
  obtain ⟨_, a0, cap0, rfl, _, hel0⟩ := id hu0.form
  refine iV_bx ?_
  intro b2 w2 hb2 hS2
  refine iV_al ?_
  intro b4 w4 hb4 hS4
  (repeat (refine iV_ldN ?_))
  refine CV_1 (refCheck ⟨_, rfl, hu0.mono (by (repeat (exact Le.refl _)))⟩) ?_
  rintro z5 w5 _ hle5 hS5 rfl
  rw [condM]
  cases hck : checkB s with
  | false =>
    rw [if_pos rfl]
    simp only [errOf]
    (repeat (first | refine V_run ?_ | (refine iU_st ?_; intro _ _) | refine iHV_N ?_ | refine Cond_t ?_))
    exact ⟨_, _, ‹_›, rfl⟩
  | true =>
    rw [if_neg (by decide)]
    simp only [errOf]
    (repeat (first | refine V_run ?_ | refine Cond_f ?_ | refine JB ?_))
    have hopt : (bif bif bif !decide (o = 67) then !decide (o = 68) else false then !decide (o = 73) else false then !decide (o = 83) else false) = !decide (o = 67 ∨ o = 68 ∨ o = 73 ∨ o = 83) := by
      by_cases e1 : o = 67
      · simp [e1]
      · by_cases e2 : o = 68
        · simp [e2]
        · by_cases e3 : o = 73
          · simp [e3]
          · simp [e1, e2, e3]
    rw [hopt]
    refine Cond_nd (fun ho => ?_) (fun ho => ?_)
    · rw [if_pos ho]
      (repeat (first | refine V_run ?_ | (refine iU_st ?_; intro _ _) | refine iHV_N ?_))
      exact ⟨_, _, ‹_›, rfl⟩
    rw [if_neg (fun h => h ho)]
    obtain ⟨pre, f, rfl, h6, hp4, hpre, hfd, hlast, hdl⟩ := lastSplit hck
    have hl1 : ((pre ++ [f]).length : Int) = pre.length + 1 := by simp
    haveI : InI (((pre ++ [f]).length : Int) - 1) := ⟨by omega⟩
    haveI : InR (((pre ++ [f]).length : Int) - 1) (pre ++ [f]).length := ⟨by omega, by omega⟩
    obtain ⟨bF, oF, _, rfl, ⟨vF1, vF2, rfl, hF1, hF2, _⟩, hatF⟩ := hel0 pre.length f (by simp)
    obtain ⟨_, aF1, capF1, rfl, _, helF⟩ := id hF1.form
    obtain ⟨_, aF2, capF2, rfl, _, _⟩ := id hF2.form
    rw [hlast]
    (repeat (first | refine V_run ?_ | refine iV_ld1 ?_))
    refine zV_row hatF (by (repeat (assumption))) rfl (by rw [show (((pre ++ [f]).length : Int) - 1).toNat = pre.length by omega]; rfl) ?_
    dsimp only [InM.cells]
    refine iV_al ?_
    intro b6 w6 hb6 hS6
    (repeat (first | refine V_run ?_ | refine iV_ld1 ?_ | (refine iU_st ?_; intro _ _)))
    refine Cond_d (fun hm => ?_) (fun hm => ?_)
    · rw [if_pos hm]
      (repeat (first | refine V_run ?_ | (refine iU_st ?_; intro _ _) | refine iHV_N ?_))
      exact ⟨_, _, ‹_›, rfl⟩
    rw [if_neg hm]
    have hin : 0 ≤ f.info.cond ∧ f.info.cond < 6 := by
      have := (framedB_parts.1 hfd).2.2.2
      rw [infoB, if_neg hm] at this
      simp only [Bool.and_eq_true, cond, decide_eq_true_eq] at this
      exact this.1.2
    have hnm : Pu 40 #[.int .i64 f.info.cond] (.string (nameOf f.info.cond)) := by
      have h : Pu 40 #[.int .i64 f.info.cond] (.string (if cond f.info.cond then nameOf f.info.cond else ⟨#[]⟩)) := inferInstance
      rwa [if_pos (show cond f.info.cond = true by simp [cond, hin.1, hin.2])] at h
    haveI := hnm
    rw [tellM]
    (repeat (refine V_run ?_))
    refine Cond_d (fun h67 => ?_) (fun h67 => ?_)
    · rw [if_pos h67]
      (repeat (first | refine V_run ?_ | refine iV_ld1 ?_ | (refine iU_st ?_; intro _ _) | refine iHV_N ?_ | (refine CV_pu ?_; intro _ _ _ _)))
      exact ⟨_, _, ‹_›, rfl⟩
    rw [if_neg h67]
    (repeat (refine V_run ?_))
    refine Cond_d (fun h68 => ?_) (fun h68 => ?_)
    · rw [if_pos h68]
      (repeat (first | refine V_run ?_ | refine iV_ld1 ?_ | (refine iU_st ?_; intro _ _) | refine iHV_N ?_))
      exact ⟨_, _, ‹_›, rfl⟩
    rw [if_neg h68]
    (repeat (refine V_run ?_))
    refine Cond_d (fun h73 => ?_) (fun h73 => ?_)
    · rw [if_pos h73]
      (repeat (first | refine V_run ?_ | refine iV_ld1 ?_))
      refine Cond_d (fun hm1 => ?_) (fun hm1 => ?_)
      · rw [if_pos hm1]
        (repeat (first | refine V_run ?_ | (refine iU_st ?_; intro _ _) | refine iHV_N ?_))
        exact ⟨_, _, ‹_›, rfl⟩
      · rw [if_neg hm1]
        (repeat (first | refine V_run ?_ | (refine iU_st ?_; intro _ _) | refine iHV_N ?_))
        exact ⟨_, _, ‹_›, rfl⟩
    rw [if_neg h73, stateM]
    haveI : InR f.info.cond f.traps.length := ⟨hin.1, by omega⟩
    have hget : f.traps[f.info.cond.toNat]? = some (f.tr f.info.cond) := by
      rw [FrM.tr, List.getD_eq_getElem?_getD, List.getElem?_eq_getElem (by omega)]; rfl
    obtain ⟨bT, oT, _, hTa, ⟨rfl, _⟩, hatT⟩ := helF _ _ hget
    cases hTa
    (repeat (first | refine V_run ?_ | refine iV_ld1 ?_))
    refine zV_row hatT (by (repeat (assumption))) rfl rfl ?_
    dsimp only [TrM.cells]
    refine iV_al ?_
    intro b7 w7 hb7 hS7
    (repeat (first | refine V_run ?_ | refine iV_ld1 ?_ | (refine iU_st ?_; intro _ _)))
    refine Cond_d (fun hm1 => ?_) (fun hm1 => ?_)
    · rw [if_pos hm1]
      (repeat (first | refine V_run ?_ | (refine iU_st ?_; intro _ _) | refine iHV_N ?_))
      exact ⟨_, _, ‹_›, rfl⟩
    rw [if_neg hm1]
    (repeat (first | refine V_run ?_ | refine iV_ld1 ?_))
    refine Cond_b (fun hdd => ?_) (fun hdd => ?_)
    · rw [if_pos hdd]
      (repeat (first | refine V_run ?_ | (refine iU_st ?_; intro _ _) | refine iHV_N ?_))
      exact ⟨_, _, ‹_›, rfl⟩
    · rw [if_neg (by simp [hdd])]
      (repeat (first | refine V_run ?_ | (refine iU_st ?_; intro _ _) | refine iHV_N ?_))
      exact ⟨_, _, ‹_›, rfl⟩)
theorem catchM_pend {pre : StM} {f : FrM} {c : Int} (hck : checkB (pre ++ [f]) = true) (h0 : 0 ≤ c) (h1 : c < 6) : catchM (pre ++ [f]) c = catchM (pre ++ [pushF f]) c := by
  obtain ⟨p1, p2, p3⟩ := checkB_parts.1 hck
  have hck2 : checkB (pre ++ [pushF f]) = true := checkB_parts.2 ⟨p1, pushF_ok p2, p3⟩
  have hl : lastF (pre ++ [f]) = f := by simp [lastF]
  have hl2 : lastF (pre ++ [pushF f]) = pushF f := by simp [lastF]
  simp only [catchM, open1 hck h0 h1, open1 hck2 h0 h1, ne_eq, not_true_eq_false, if_false, hl, hl2, List.length_append, List.length_singleton]
  rfl
theorem refCatches {v : Value} {s : StM} {c : Int} {z : Z} {w : World} (hs : StR z v s) : Fn1 39 #[v, .int .i64 c] z w fun _ r => r = doneV (.slice none 0 0) (catchM s c).1 (catchM s c).2 := Fn1.intro fun hS => en39 (by
  unfold vc39
  obtain ⟨u0, rfl, hu0⟩ := hs
  obtain ⟨_, a0, cap0, rfl, _, _⟩ := id hu0.form
  refine iV_bx ?_
  intro b2 w2 hb2 hS2
  refine iV_al ?_
  intro b4 w4 hb4 hS4
  (repeat (refine iV_ldN ?_))
  refine CV_fn0 (fun hz => refOpened (c := c) ⟨_, rfl, hu0.mono hz⟩) ?_
  rintro z6 B6 w6 r hle6 hS6 hop
  by_cases ho : openE s [c] = 0
  · rw [if_pos ho] at hop
    obtain ⟨u, rfl, hst⟩ := hop
    obtain ⟨hck, h0, h1⟩ := openE_ck ho
    obtain ⟨pre, f, rfl, h6, hp4, hpre, hfd, hlast, hdl⟩ := lastSplit hck
    obtain ⟨fb, tb, ps, sp, ts, cap, tcap, B2, v2, rfl, rfl, hx, hpo⟩ := hst.x h6
    obtain ⟨a2, cap2, rfl, _⟩ := id hpo.form
    have hlen := hx.fr.len
    haveI : InI (((pre.length + 1 : Nat) : Int) - 1) := ⟨by omega⟩
    haveI : InR (((pre.length + 1 : Nat) : Int) - 1) (pre.length + 1 : Nat) := ⟨by omega, by omega⟩
    haveI : AddN 0 ((((pre.length + 1 : Nat) : Int) - 1).toNat * 5) ps.length := ⟨by rw [hlen]; omega⟩
    simp only [sxB, List.cons_append] at hS6
    refine iV_al ?_
    intro b5 w5 hb5 hS5
    dsimp only [noAct] at *
    (repeat (first | refine V_run ?_ | refine iV_ld1 ?_ | refine iV_ldN ?_ | (refine iU_st ?_; intro _ _) | refine Cond_f ?_))
    rename_i hSe
    have hxp : MachX z6 0 fb tb pre ps sp ts cap tcap (pushF f) := by
      obtain ⟨q1, q2, q3, q4, q5⟩ := hx.sm
      exact ⟨hx.fr, hx.cap, hx.tcap, hx.six, q1, by simp [pushF], q3, fun r hr => (by cases hr), q5⟩
    have hR := Res.keep [.at fb, .at tb, .at b5, .at b4] hSe
    obtain ⟨z7, hz7, hS7, hsl⟩ := StOwn.freeze (B := sxB fb tb ps sp ts tcap (pushF f) [] (.slice none 0 0)) (L := [(b5, _), (b4, _)]) hR (hxp.st OwnSl.nil) (by simp only [List.length_append, List.length_singleton, big]; omega)
    clear hSe hR
    have hck2 : checkB (pre ++ [pushF f]) = true := by
      obtain ⟨p1, p2, p3⟩ := checkB_parts.1 hck
      exact checkB_parts.2 ⟨p1, pushF_ok p2, p3⟩
    rw [catchM_pend hck h0 h1]
    have hlaw := catches_law (c := c) hck2 (by simp [lastF, pushF]) h0 h1
    rw [hlaw, catchLaw]
    refine CV_1 (refRaise (c := c) (text := ⟨#[]⟩) ⟨_, rfl, hsl⟩ emptySm) ?_
    rintro z8 w8 _ hle8 hS8 ⟨u8, rfl, hu8⟩
    obtain ⟨_, a8, cap8, rfl, _, _⟩ := id hu8.form
    have hr0 := raiseStep (d := ⟨#[]⟩) hck2 h0 h1
    rw [if_pos (by decide)] at hr0
    have he0 : (doneM (pre ++ [pushF f]) (raiseO c ⟨#[]⟩) [c]).e = 0 := by rw [hr0]
    generalize doneM (pre ++ [pushF f]) (raiseO c ⟨#[]⟩) [c] = m at *
    simp only [he0, true_and]
    by_cases hk : m.a.kind = 0
    · rw [if_pos hk]
      (repeat (first | refine V_run ?_ | refine iV_ld1 ?_ | (refine iU_st ?_; intro _ _) | (refine J0 ?_; intro _ _)))
      refine Cond_is (decide_eq_true hk) ?_
      (repeat (first | refine V_run ?_ | refine iV_ldN ?_))
      refine CV_1 (refEnd ⟨_, rfl, hu8.mono (by (repeat (exact Le.refl _)))⟩) ?_
      rintro z9 w9 _ hle9 hS9 ⟨u9, rfl, hu9⟩
      obtain ⟨_, a9, cap9, rfl, _, _⟩ := id hu9.form
      (repeat (first | refine V_run ?_ | refine iV_ld1 ?_ | refine iV_ldN ?_ | (refine iU_st ?_; intro _ _) | refine iHV_N ?_ | refine K0 ?_))
      exact ⟨_, _, ‹_›, rfl⟩
    · rw [if_neg hk]
      (repeat (first | refine V_run ?_ | refine iV_ld1 ?_ | (refine iU_st ?_; intro _ _) | (refine J0 ?_; intro _ _)))
      refine Cond_not (decide_eq_false hk) ?_
      (repeat (first | refine V_run ?_ | refine iV_ld1 ?_ | refine iV_ldN ?_ | (refine iU_st ?_; intro _ _) | refine iHV_N ?_ | refine K0 ?_))
      exact ⟨_, _, ‹_›, rfl⟩
  · rw [if_neg ho] at hop
    obtain ⟨rfl, rfl⟩ := hop
    refine iV_al ?_
    intro b5 w5 hb5 hS5
    rw [catchM, if_pos ho]
    dsimp only [noAct] at *
    (repeat (first | refine V_run ?_ | refine iV_ld1 ?_ | (refine iU_st ?_; intro _ _)))
    refine Cond_is (by simpa using ho) ?_
    (repeat (first | refine iV_ldN ?_ | (refine iU_st ?_; intro _ _) | refine iHV_N ?_))
    exact ⟨_, _, ‹_›, rfl⟩)
theorem opM_raise {s : StM} {o : OpM} (h : o.kind = 2) : doneM s (raiseO o.cond o.text) [o.cond] = doneM s o [o.cond] := by
  have : opM s (raiseO o.cond o.text) = opM s o := by
    simp [opM, raiseO, h]
    rfl
  simp only [doneM, this]
theorem opM_end {s : StM} {o : OpM} (h : o.kind = 3) : doneM s endO [] = doneM s o [] := by
  have : opM s endO = opM s o := by simp [opM, endO, h]
  simp only [doneM, this]
theorem opM_call {s : StM} {o : OpM} (h : o.kind = 4) : doneM s callO [] = doneM s o [] := by
  have : opM s callO = opM s o := by simp [opM, callO, h]
  simp only [doneM, this]
theorem opM_back {s : StM} {o : OpM} (h : o.kind = 5) : doneM s backO [] = doneM s o [] := by
  have : opM s backO = opM s o := by simp [opM, backO, h]
  simp only [doneM, this]
theorem refApplied {v : Value} {s : StM} {o : OpM} {z : Z} {w : World} (hs : StR z v s) (ht : o.text.size ≤ big) : Fn1 52 #[v, o.v] z w fun z' r => DoneR z' r (playStep s o) := Fn1.intro fun hS => en52 (by
  unfold vc52
  obtain ⟨u0, rfl, hu0⟩ := hs
  obtain ⟨_, a0, cap0, rfl, _, _⟩ := id hu0.form
  dsimp only [OpM.v, OpM.cells]
  refine iV_bx ?_
  intro b2 w2 hb2 hS2
  refine iV_bx ?_
  intro b3 w3 hb3 hS3
  refine iV_al ?_
  intro b4 w4 hb4 hS4
  have fin : ∀ (z5 : Z) (w5 : World) (u : Value) (m : StepM) (L : Bl), Res w z [] w5 z5 L → m = playStep s o → SlR El.frame z5 u m.s → ∃ z' L', Res w z [] w5 z' L' ∧ DoneR z' (doneV u m.a m.e) (playStep s o) := fun z5 w5 u m L h1 h2 h3 => ⟨z5, L, h1, by rw [← h2]; exact ⟨u, rfl, h3⟩⟩
  (repeat (first | refine V_run ?_ | refine iV_ld1 ?_))
  refine Cond_d (fun h1 => ?_) (fun h1 => ?_)
  · have hp : doneM s (setO o.cond o.mode o.text) [o.cond] = playStep s o := by
      rw [playStep, if_pos (by omega), condsOf, if_pos (.inl h1)]
      obtain ⟨k, c, m, t⟩ := o; simp only at h1; subst h1; rfl
    (repeat (first | refine V_run ?_ | refine iV_ld1 ?_ | refine iV_ldN ?_))
    refine CV_1 (refSet (c := o.cond) (mode := o.mode) (text := o.text) ⟨_, rfl, hu0.mono (by (repeat (exact Le.refl _)))⟩ ht) ?_
    rintro z5 w5 _ hle5 hS5 ⟨u5, rfl, hu5⟩
    obtain ⟨_, a5, cap5, rfl, _, _⟩ := id hu5.form
    (repeat (first | (refine iU_st ?_; intro _ _) | refine iHV_N ?_))
    exact fin _ _ _ _ _ ‹_› hp hu5
  (repeat (refine V_run ?_))
  refine Cond_d (fun h2 => ?_) (fun h2 => ?_)
  · have hp : doneM s (raiseO o.cond o.text) [o.cond] = playStep s o := by
      rw [playStep, if_pos (by omega), condsOf, if_pos (.inr h2)]
      exact opM_raise h2
    (repeat (first | refine V_run ?_ | refine iV_ld1 ?_ | refine iV_ldN ?_))
    refine CV_1 (refRaise (c := o.cond) (text := o.text) ⟨_, rfl, hu0.mono (by (repeat (exact Le.refl _)))⟩ ht) ?_
    rintro z5 w5 _ hle5 hS5 ⟨u5, rfl, hu5⟩
    obtain ⟨_, a5, cap5, rfl, _, _⟩ := id hu5.form
    (repeat (first | (refine iU_st ?_; intro _ _) | refine iHV_N ?_))
    exact fin _ _ _ _ _ ‹_› hp hu5
  (repeat (refine V_run ?_))
  refine Cond_d (fun h3 => ?_) (fun h3 => ?_)
  · have hp : doneM s endO [] = playStep s o := by
      rw [playStep, if_pos (by omega), condsOf, if_neg (by omega)]
      exact opM_end h3
    (repeat (refine iV_ldN ?_))
    refine CV_1 (refEnd ⟨_, rfl, hu0.mono (by (repeat (exact Le.refl _)))⟩) ?_
    rintro z5 w5 _ hle5 hS5 ⟨u5, rfl, hu5⟩
    obtain ⟨_, a5, cap5, rfl, _, _⟩ := id hu5.form
    (repeat (first | (refine iU_st ?_; intro _ _) | refine iHV_N ?_))
    exact fin _ _ _ _ _ ‹_› hp hu5
  (repeat (refine V_run ?_))
  refine Cond_d (fun h4 => ?_) (fun h4 => ?_)
  · have hp : doneM s callO [] = playStep s o := by
      rw [playStep, if_pos (by omega), condsOf, if_neg (by omega)]
      exact opM_call h4
    (repeat (refine iV_ldN ?_))
    refine CV_1 (refCall ⟨_, rfl, hu0.mono (by (repeat (exact Le.refl _)))⟩) ?_
    rintro z5 w5 _ hle5 hS5 ⟨u5, rfl, hu5⟩
    obtain ⟨_, a5, cap5, rfl, _, _⟩ := id hu5.form
    (repeat (first | (refine iU_st ?_; intro _ _) | refine iHV_N ?_))
    exact fin _ _ _ _ _ ‹_› hp hu5
  (repeat (refine V_run ?_))
  refine Cond_d (fun h5 => ?_) (fun h5 => ?_)
  · have hp : doneM s backO [] = playStep s o := by
      rw [playStep, if_pos (by omega), condsOf, if_neg (by omega)]
      exact opM_back h5
    (repeat (refine iV_ldN ?_))
    refine CV_1 (refReturn ⟨_, rfl, hu0.mono (by (repeat (exact Le.refl _)))⟩) ?_
    rintro z5 w5 _ hle5 hS5 ⟨u5, rfl, hu5⟩
    obtain ⟨_, a5, cap5, rfl, _, _⟩ := id hu5.form
    (repeat (first | (refine iU_st ?_; intro _ _) | refine iHV_N ?_))
    exact fin _ _ _ _ _ ‹_› hp hu5
  (repeat (first | refine V_run ?_ | (refine iU_st ?_; intro _ _) | refine iHV_N ?_))
  exact ⟨_, _, ‹_›, DoneR.err (by rw [playStep, if_neg (by omega)])⟩)
end Go.Proofs.Ytjnckainogpenaa
end

section
/- The reference: Play; the law TrapPlays. -/
set_option linter.unusedVariables false
set_option linter.unusedSimpArgs false
set_option maxRecDepth 20000
set_option synthInstance.maxHeartbeats 400000
set_option synthInstance.maxSize 4000
namespace Go.Proofs.Ytjnckainogpenaa
open Go Q Go.RowKit

theorem refNew {z : Z} {w : World} : Fn1 43 #[] z w fun z' r => StR z' r newM := Fn1.intro fun hS => en43 (by
  unfold vc43
  refine iV_al ?_
  intro b0 w0 hb0 hS0
  refine iV_ms (n := 6) (by omega) (by omega) ?_
  intro b1 w1 hb1 hS1
  have e : ((List.range (6 * 3)).map fun i => [Value.int .i64 0, Value.string ⟨#[]⟩, Value.bool false][i % [Value.int .i64 0, Value.string ⟨#[]⟩, Value.bool false].length]!) = ([noTrap, noTrap, noTrap, noTrap, noTrap, noTrap].flatMap TrM.cells ++ []) := rfl
  rw [e] at hS1
  obtain ⟨z2, hz2, hS2, hv2⟩ := Res.freezeSl (E := El.trap) (B := [(b1, _)]) (v := .slice (some ⟨b1, 0, none⟩) 6 6) (xs := [noTrap, noTrap, noTrap, noTrap, noTrap, noTrap]) (f := TrM.cells) (e := 73) hS1 ⟨rfl, .inr ⟨b1, 6, [], rfl, rfl, by decide, by simp [maxLen], rfl⟩⟩ (by simp [big]) (fun _ => rfl) (fun z x hx => ⟨rfl, by
    have : x = noTrap := by simpa using hx
    rw [this]; exact emptySm⟩)
  clear hS1
  (repeat (refine V_run ?_))
  refine V_bs (parts := [(0, _)]) rfl (by omega) ?_
  intro b3 w3 hb3 hS3
  (repeat (first | refine V_run ?_ | (refine iU_st ?_; intro _ _) | refine iHV_N ?_))
  rename_i hSe
  obtain ⟨z4, hz4, hS4, hv4⟩ := MachR.st (s := newM) (Bf := [(b3, _)]) (L := []) (v := .slice (some ⟨b3, 0, none⟩) 1 1) (hSe.sublist (L' := [(b3, _)]) ((List.Sublist.refl [(b3, _)]).trans (by repeat (first | exact List.Sublist.refl _ | apply List.Sublist.cons_cons | apply List.Sublist.cons | exact List.nil_sublist _)))) ⟨rfl, .inr ⟨b3, 1, [], rfl, rfl, by decide, by simp [maxLen], rfl⟩⟩ ⟨_, [], by simp [noInfo], ⟨_, _, rfl, hv2, SlR.nil, emptySm⟩, rfl⟩ (by simp [newM, big])
  exact ⟨z4, [], hS4, _, rfl, hv4⟩)
/-- The result of Play, in the reference. -/
def RPlayR (z : Z) (r : Value) (l : List OpM) : Prop :=
  if 1000 < l.length then r = .agg #[.slice none 0 0, .slice none 0 0, .slice none 0 0, .int .i64 3] else ∃ us ua ue, r = .agg #[us, ua, ue, .int .i64 0] ∧ SlR El.frame z us (playFrom newM l).1 ∧ SlR El.act z ua (playFrom newM l).2.1 ∧ SlR El.int z ue (playFrom newM l).2.2
theorem refPlay {v : Value} {l : List OpM} {z : Z} {w : World} (hl : SlR El.op z v l) : Fn1 14 #[v] z w fun z' r => RPlayR z' r l := Fn1.intro fun hS => en14 (by
  unfold vc14
  obtain ⟨hb, a, cap, rfl, hcap, hel⟩ := hl.form
  refine iV_al ?_
  intro b2 w2 hb2 hS2
  (repeat (refine V_run ?_))
  refine Cond_d (fun hlen => ?_) (fun hlen => ?_)
  · (repeat (first | refine V_run ?_ | (refine iU_st ?_; intro _ _) | refine iHV_N ?_))
    exact ⟨_, _, ‹_›, by rw [RPlayR, if_pos (by omega)]⟩
  have hlen' : ¬ 1000 < l.length := by omega
  simp only [RPlayR, hlen', if_false]
  refine CV_1 refNew ?_
  rintro z3 w3 v3 hle3 hS3 ⟨u3, rfl, hu3⟩
  obtain ⟨_, a3, cap3, rfl, _, _⟩ := hu3.form
  (repeat (refine V_run ?_))
  refine iV_al ?_
  intro b3 w4 hb3 hS4
  (repeat (refine iU_st ?_; intro _ _))
  refine LoopG1 (fun (g : Nat × StM × List AcM × List Int) y w' => y = .int .i64 g.1 ∧ g.1 ≤ l.length ∧ playFrom newM l = ((playFrom g.2.1 (l.drop g.1)).1, g.2.2.1 ++ (playFrom g.2.1 (l.drop g.1)).2.1, g.2.2.2 ++ (playFrom g.2.1 (l.drop g.1)).2.2) ∧ g.2.2.1.length = g.1 ∧ g.2.2.2.length = g.1 ∧
    ∃ z' Ba Be us va ve, SlR El.frame z' us g.2.1 ∧ OwnSl 39 4 Ba va g.1 (g.2.2.1.flatMap AcM.cells) ∧ OwnSl 31 1 Be ve g.1 (g.2.2.2.flatMap fun e => [.int .i64 e]) ∧ Res w z [] w' z' (Ba ++ (Be ++ [(b3, .cells [us, va, ve, .int .i64 0].toArray 35 (0, 0)), (b2, .cells [.slice none 0 0, .slice none 0 0, .slice none 0 0, .int .i64 0].toArray 35 (0, 0))]))) (fun g => l.length - g.1) (0, newM, [], []) ⟨rfl, by simp only; omega, by simp, rfl, rfl, _, [], [], _, _, _, hu3, OwnSl.nil, OwnSl.nil, by assumption⟩ ?_
  rintro I M ⟨i, s, A, E⟩ y w8 m ⟨rfl, h1, h2, hA, hE, z8, Ba, Be, us, va, ve, hs8, hoa, hoe, hS8⟩ back
  simp only at h1 h2 hA hE hs8 hoa hoe hS8 back
  obtain ⟨_, a6, cap6, rfl, _, _⟩ := id hs8.form
  obtain ⟨aa, capa, rfl, _⟩ := hoa.form
  obtain ⟨ae, cape, rfl, _⟩ := hoe.form
  (repeat (refine V_run ?_))
  refine Cond_d (fun hh => ?_) (fun hh => ?_)
  · have hlt : i < l.length := by omega
    obtain ⟨b, off, cs, rfl, ⟨rfl, hr⟩, hat⟩ := hel i _ (List.getElem?_eq_getElem hlt)
    haveI : InR (i : Int) l.length := ⟨by omega, by omega⟩
    haveI : InI ((i : Int) + 1) := ⟨by omega⟩
    haveI : Fz z b (off + (i : Int).toNat * 4) l[i].cells := ⟨by rw [Int.toNat_natCast]; exact hat⟩
    rw [List.drop_eq_getElem_cons hlt] at h2
    simp only [playFrom] at h2
    generalize l[i] = o at *
    (repeat (first | (refine iDr ?_; intro _ _) | refine PV_run ?_ | refine iHV_N ?_ | (refine J1 ?_; intro _ _) | refine fHV_ldN ?_))
    simp only [Int.toNat_natCast]
    rename_i K hJ w9 hS9
    have main : ∀ (b5 : Nat) u z' w', SlR El.frame z' u (playStep s o).s → Le z8 z' → Res w z [] w' z' ((b5, .cells (doneC u (playStep s o).a (playStep s o).e).toArray 53 (0, 0)) :: (Ba ++ (Be ++ [(b3, .cells [.slice a6 s.length cap6, .slice aa i capa, .slice ae i cape, .int .i64 0].toArray 35 (0, 0)), (b2, .cells [.slice none 0 0, .slice none 0 0, .slice none 0 0, .int .i64 0].toArray 35 (0, 0))]))) → K [.pointer (some ⟨b5, 0, none⟩)] w' := by
      intro b5 u z9 w9 hu9 hz9 hS9
      refine K1 ?_
      generalize playStep s o = sm at *
      obtain ⟨_, au, capu, rfl, _, _⟩ := id hu9.form
      (repeat (first | refine V_run ?_ | refine iV_ld1 ?_ | (refine J0 ?_; intro _ _)))
      rename_i K2 hJ2
      have main2 : ∀ us z' w', SlR El.frame z' us (if sm.e = 0 then sm.s else s) → Le z9 z' → Res w z [] w' z' ((b5, .cells (doneC (.slice au sm.s.length capu) sm.a sm.e).toArray 53 (0, 0)) :: (Ba ++ (Be ++ [(b3, .cells [us, .slice aa i capa, .slice ae i cape, .int .i64 0].toArray 35 (0, 0)), (b2, .cells [.slice none 0 0, .slice none 0 0, .slice none 0 0, .int .i64 0].toArray 35 (0, 0))]))) → K2 [] w' := by
        intro us z10 w10 hus hz10 hS10
        refine K0 ?_
        obtain ⟨_, aus, capus, rfl, _, _⟩ := id hus.form
        (repeat (first | refine V_run ?_ | refine iV_ld1 ?_ | refine iV_ldN ?_))
        refine V_bs (parts := [(0, _)]) rfl (by omega) ?_
        intro b30 w30 hb30 hS30
        refine V_app (B := Ba) (m := 1) (n := i) (xs := A.flatMap AcM.cells) (news := sm.a.cells) (Res.bring Ba hS30) hoa ⟨_, _, _, (hS30.mem _ List.mem_cons_self).1, fun j v hv => by simpa using hv⟩ rfl (fun u hu => by simp at hu; rcases hu with rfl | rfl | rfl | rfl <;> rfl) (by omega) (by simp only [room]; omega) (by simp only [room]; omega) ?_
        intro Ba' va' w31 hoa' hS31
        obtain ⟨aa', capa', rfl, _⟩ := hoa'.form
        (repeat (first | refine V_run ?_ | refine iV_ld1 ?_ | (refine iU_st ?_; intro _ _)))
        refine V_bs (parts := [(0, _)]) rfl (by omega) ?_
        intro b33 w33 hb33 hS33
        refine V_app (B := Be) (m := 1) (n := i) (xs := E.flatMap fun e => [.int .i64 e]) (news := [.int .i64 sm.e]) (Res.bring Be hS33) hoe ⟨_, _, _, (hS33.mem _ List.mem_cons_self).1, fun j v hv => by simpa using hv⟩ rfl (fun u hu => by simp at hu; subst hu; rfl) (by omega) (by simp only [room]; omega) (by simp only [room]; omega) ?_
        intro Be' ve' w34 hoe' hS34
        obtain ⟨ae', cape', rfl, _⟩ := hoe'.form
        (repeat (first | refine V_run ?_ | (refine iU_st ?_; intro _ _)))
        rename_i hSe
        refine back (i + 1, (if sm.e = 0 then sm.s else s), A ++ [sm.a], E ++ [sm.e]) _ _ ⟨by simp, by simp; omega, ?_, by simp [hA], by simp [hE], z10, Ba', Be', _, _, _, hus, ?_, ?_, Res.keep [.bl Ba', .bl Be', .at b3, .at b2] hSe⟩ (by simp; omega)
        · rw [h2]; simp
        · simpa using hoa'
        · simpa using hoe'
      refine Cond_d (fun he => ?_) (fun he => ?_)
      · (repeat (first | refine V_run ?_ | refine iV_ldN ?_ | (refine iU_st ?_; intro _ _)))
        exact main2 _ _ _ (by rw [if_pos he]; exact hu9) (by (repeat (exact Le.refl _))) (by assumption)
      · exact main2 _ _ _ (by rw [if_neg he]; exact hs8.mono hz9) (by (repeat (exact Le.refl _))) (by assumption)
    refine ⟨?_, ?_⟩
    · refine CV_1 (refApplied (o := o) ⟨_, rfl, hs8.mono (by (repeat (exact Le.refl _)))⟩ hr) ?_
      rintro z10 w10 _ hle10 hS10 ⟨u10, rfl, hu10⟩
      obtain ⟨_, a10, cap10, rfl, _, _⟩ := id hu10.form
      refine iV_al ?_
      intro b5 w11 hb5 hS11
      (repeat (refine iU_st ?_; intro _ _))
      exact main b5 _ _ _ hu10 (by (repeat (assumption))) (by assumption)
    · refine iV_al ?_
      intro b5 w11 hb5 hS11
      refine RI_at ((hat.mono (by (repeat (exact Res.zle (by assumption))))).world hS11.sub) rfl ?_
      (repeat (refine iRI_N ?_))
      refine CV_1 (refApplied (o := o) ⟨_, rfl, hs8.mono (by (repeat (exact Le.refl _)))⟩ hr) ?_
      rintro z10 w10 _ hle10 hS10 ⟨u10, rfl, hu10⟩
      obtain ⟨_, a10, cap10, rfl, _, _⟩ := id hu10.form
      (repeat (refine iU_st ?_; intro _ _))
      exact main b5 _ _ _ hu10 (by (repeat (assumption))) (by assumption)
  · have h0 : l.drop i = [] := List.drop_of_length_le (by omega)
    rw [h0] at h2
    simp only [playFrom, List.append_nil] at h2
    (repeat (first | refine iV_ldN ?_ | (refine iU_st ?_; intro _ _) | refine iHV_N ?_))
    rename_i hSe
    rw [← hA] at hoa
    obtain ⟨z9, hz9, hS9, hva⟩ := Res.freezeSl (E := El.act) (Res.bring Ba hSe) hoa (by simp only [big]; omega) (fun _ => rfl) (fun _ _ _ => rfl)
    have hoe' : OwnSl 31 El.int.size Be (.slice ae i cape) E.length (E.flatMap fun e => [.int .i64 e]) := by rw [hE]; exact hoe
    obtain ⟨z10, hz10, hS10, hve⟩ := Res.freezeSl (E := El.int) (Res.bring Be hS9) hoe' (by simp only [big]; omega) (fun _ => rfl) (fun _ _ _ => rfl)
    refine ⟨z10, _, hS10, _, _, _, rfl, ?_, ?_, ?_⟩
    · rw [h2]; exact hs8.mono (hz9.trans hz10)
    · rw [h2, ← hA]; exact hva.mono hz10
    · rw [h2]; exact hve)
end Go.Proofs.Ytjnckainogpenaa
end

section
/- The laws' own small functions: small, agrees. -/
set_option linter.unusedVariables false
set_option linter.unusedSimpArgs false
set_option maxRecDepth 20000
set_option synthInstance.maxHeartbeats 400000
set_option synthInstance.maxSize 4000
namespace Go.Proofs.Ytjnckainogpenaa
open Go Q Go.RowKit

theorem smallP {v : Value} {s : StM} {z : Z} {w : World} (hs : StR z v s) : Fn1 20 #[v] z w fun _ r => ∃ b, r = .bool b := Fn1.intro fun hS => en20 (by
  unfold vc20
  obtain ⟨u0, rfl, hu0⟩ := hs
  obtain ⟨hb0, a0, cap0, rfl, _, hel0⟩ := id hu0.form
  refine iV_bx ?_
  intro b1 w1 hb1 hS1
  (repeat (first | refine V_run ?_ | refine iV_ld1 ?_))
  refine Cond_d (fun h35 => ?_) (fun h35 => ?_)
  · exact ⟨_, _, ‹_›, _, rfl⟩
  refine LoopG1 (fun (i : Nat) x w' => x = .int .i64 i ∧ i ≤ s.length ∧ ∃ z', Le z z' ∧ Res w z [] w' z' [(b1, .cells [.slice a0 s.length cap0].toArray 28 (0, 0))]) (fun i => s.length - i) 0 ⟨rfl, by omega, z, Le.refl _, ‹_›⟩ ?_
  rintro I M i x w2 m ⟨rfl, h1, z2, hz2, hS2⟩ back
  (repeat (first | refine V_run ?_ | refine iV_ld1 ?_))
  refine Cond_d (fun h => ?_) (fun h => ?_)
  · have hlt : i < s.length := by omega
    obtain ⟨bF, oF, _, rfl, ⟨vF1, vF2, rfl, hF1, hF2, _⟩, hatF⟩ := hel0 i _ (List.getElem?_eq_getElem hlt)
    obtain ⟨_, aF1, capF1, rfl, _, hel1⟩ := id hF1.form
    obtain ⟨_, aF2, capF2, rfl, _, hel2⟩ := id hF2.form
    haveI : InR (i : Int) s.length := ⟨by omega, by omega⟩
    haveI : InI ((i : Int) + 1) := ⟨by omega⟩
    generalize s[i] = f at *
    (repeat (first | refine V_run ?_ | refine iV_ld1 ?_))
    simp only [Int.toNat_natCast]
    refine zV_row hatF (by (repeat (assumption))) rfl rfl ?_
    dsimp only [InM.cells]
    refine iV_al ?_
    intro b4 w4 hb4 hS4
    (repeat (first | refine V_run ?_ | refine iV_ld1 ?_ | (refine iU_st ?_; intro _ _) | (refine JC ?_; intro _ _ _ _)))
    refine Cond_b (fun hq => ?_) (fun hq => ?_)
    · exact ⟨_, _, ‹_›, _, rfl⟩
    rename_i zx wx hzx hSx
    have hlen : f.traps.length ≤ 20 ∧ f.pend.length ≤ 20 := by
      simp only [cond_eq_ite] at hq
      by_cases e1 : (f.traps.length : Int) > 20 <;> by_cases e2 : (f.pend.length : Int) > 20 <;> simp [e1, e2] at hq <;> omega
    refine LoopG1 (fun (k : Nat) x w' => x = .int .i64 k ∧ k ≤ f.traps.length ∧ ∃ z', Le z2 z' ∧ Res w z [] w' z' [(b4, .cells [.slice aF1 f.traps.length capF1, .slice aF2 f.pend.length capF2, .int .i64 f.info.cond, .int .i64 f.info.mode, .string f.info.desc].toArray 63 (0, 0)), (b1, .cells [.slice (some ⟨bF, oF, none⟩) s.length cap0].toArray 28 (0, 0))]) (fun k => f.traps.length - k) 0 ⟨rfl, by omega, zx, by (repeat (first | assumption | refine Le.trans ?_ (by assumption : Le _ _))), hSx⟩ ?_
    rintro I1 M1 k x w5 m1 ⟨rfl, k1, z5, hz5, hS5⟩ back1
    (repeat (first | refine V_run ?_ | refine iV_ld1 ?_))
    refine Cond_d (fun hk => ?_) (fun hk => ?_)
    · have hlt1 : k < f.traps.length := by omega
      obtain ⟨bT, oT, _, rfl, ⟨rfl, _⟩, hatT⟩ := hel1 k _ (List.getElem?_eq_getElem hlt1)
      haveI : InR (k : Int) f.traps.length := ⟨by omega, by omega⟩
      haveI : InI ((k : Int) + 1) := ⟨by omega⟩
      (repeat (first | refine V_run ?_ | refine iV_ld1 ?_))
      simp only [Int.toNat_natCast]
      refine zV_fld (i := 1) hatT (by (repeat (exact Res.zle (by assumption)))) rfl rfl ?_
      (repeat (refine V_run ?_))
      refine Cond_d (fun hq2 => ?_) (fun hq2 => ?_)
      · exact ⟨_, _, ‹_›, _, rfl⟩
      · (repeat (refine V_run ?_))
        exact back1 (k + 1) _ _ ⟨rfl, by omega, z5, hz5, by assumption⟩ (by omega)
    clear back1
    refine LoopG1 (fun (k : Nat) x w' => x = .int .i64 k ∧ k ≤ f.pend.length ∧ ∃ z', Le z5 z' ∧ Res w z [] w' z' [(b4, .cells [.slice aF1 f.traps.length capF1, .slice aF2 f.pend.length capF2, .int .i64 f.info.cond, .int .i64 f.info.mode, .string f.info.desc].toArray 63 (0, 0)), (b1, .cells [.slice (some ⟨bF, oF, none⟩) s.length cap0].toArray 28 (0, 0))]) (fun k => f.pend.length - k) 0 ⟨rfl, by omega, z5, Le.refl _, by assumption⟩ ?_
    clear hk k1
    rintro I2 M2 k x w6 m2 ⟨rfl, k1, z6, hz6, hS6⟩ back2
    (repeat (first | refine V_run ?_ | refine iV_ld1 ?_))
    refine Cond_d (fun hk => ?_) (fun hk => ?_)
    · have hlt1 : k < f.pend.length := by omega
      obtain ⟨bT, oT, _, rfl, ⟨rfl, _⟩, hatT⟩ := hel2 k _ (List.getElem?_eq_getElem hlt1)
      haveI : InR (k : Int) f.pend.length := ⟨by omega, by omega⟩
      haveI : InI ((k : Int) + 1) := ⟨by omega⟩
      (repeat (first | refine V_run ?_ | refine iV_ld1 ?_))
      simp only [Int.toNat_natCast]
      refine zV_fld (i := 1) hatT (by (repeat (exact Res.zle (by assumption)))) rfl rfl ?_
      (repeat (refine V_run ?_))
      refine Cond_d (fun hq2 => ?_) (fun hq2 => ?_)
      · exact ⟨_, _, ‹_›, _, rfl⟩
      · (repeat (refine V_run ?_))
        exact back2 (k + 1) _ _ ⟨rfl, by omega, z6, hz6, by assumption⟩ (by omega)
    (repeat (refine V_run ?_))
    exact back (i + 1) _ _ ⟨rfl, by omega, z6, by (repeat (exact Res.zle (by assumption))), Res.tl (by assumption)⟩ (by omega)
  · exact ⟨_, _, ‹_›, _, rfl⟩)
theorem agreesP {v d : Value} {m : StepM} {z : Z} {w : World} (hs : StR z v m.s) (hd : DoneR z d m) : Fn1 24 #[v, m.a.v, .int .i64 m.e, d] z w fun _ r => r = .bool true := Fn1.intro fun hS => en24 (by
  unfold vc24
  obtain ⟨u0, rfl, hu0⟩ := hs
  obtain ⟨hb0, a0, cap0, rfl, _, hel0⟩ := id hu0.form
  obtain ⟨u1, rfl, hu1⟩ := hd
  obtain ⟨hb1, a1, cap1, rfl, _, hel1⟩ := id hu1.form
  dsimp only [AcM.v]
  refine iV_bx ?_
  intro b1 w1 hb1 hS1
  refine iV_bx ?_
  intro b2 w2 hb2 hS2
  refine iV_bx ?_
  intro b3 w3 hb3 hS3
  (repeat (first | refine V_run ?_ | refine iV_ld1 ?_ | (refine JC ?_; intro _ _ _ _) | (refine J1 ?_; intro _ _)))
  refine Cond_is (by simp) ?_
  (repeat (first | refine V_run ?_ | refine iV_ldN ?_))
  refine CV_1 (refSame ⟨_, rfl, hu0.mono (by (repeat (assumption)))⟩ ⟨_, rfl, hu1.mono (by (repeat (assumption)))⟩) ?_
  rintro z5 w5 _ hle5 hS5 rfl
  rw [(same_iff (s := m.s)).2 rfl]
  (repeat (refine K1 ?_))
  exact ⟨_, _, ‹_›, rfl⟩)
end Go.Proofs.Ytjnckainogpenaa
end

section
/- What the form's readings of arguments give: slices that read as lists. -/
set_option linter.unusedVariables false
set_option maxRecDepth 20000
namespace Go.Proofs.Ytjnckainogpenaa
open Go Q Go.RowKit Go.ChangeShapes Go.WideShapes

theorem at_of_cells {w : World} {base n : Nat} {a : Addr} {cs : List Value} (h : w.cells? base a n = some cs) (hn : 0 < n) : a.spot = none ∧ cs.length = n ∧ At (hp w) a.block a.off cs := by
  obtain ⟨_, hl, hc⟩ := World.cells?_some h
  have h0 := hc 0 hn
  rw [addr_add0] at h0
  have hlt : 0 < cs.length := by omega
  rw [List.getElem?_eq_getElem hlt] at h0
  unfold World.cell? at h0
  split at h0
  · rename_i c ty fr hb
    have hs : a.spot = none := by
      cases hsp : a.spot with
      | none => rfl
      | some x => rw [hsp] at h0; simp at h0
    refine ⟨hs, hl, c, ty, fr, hb, fun j v hv => ?_⟩
    have hj := (List.getElem?_eq_some_iff.1 hv).1
    have := hc j (by omega)
    obtain ⟨ab, ao, asp⟩ := a
    simp only at hs hb
    subst hs
    rw [add_addr, hv] at this
    unfold World.cell? at this
    simp only [hb, Option.isSome_none] at this
    simpa using this
  · cases h0
section
variable {H : Type} {enc : TypeId × Value → H} {w : World} {base : Nat} {spare : Nat → Bool} {held : Bool}
/-- The part of a struct's cells that a field is. -/
theorem field_of {t : TypeId} {fs : List (Nat × Nat)} [g : TyEqS t fs] (hu : Try.prog.underlying t = some (.struct (fieldsOf t))) {i ty off : Nat} (hi : ((fieldsOf t).toList.map fun f => (f.type, f.offset))[i]? = some (ty, off)) : ∃ f, (fieldsOf t)[i]? = some f ∧ f.type = ty ∧ f.offset = off := by
  rw [List.getElem?_map] at hi
  obtain ⟨f, h1, h2⟩ := Option.map_eq_some_iff.1 hi
  simp only [Prod.mk.injEq] at h2
  exact ⟨f, by simpa using h1, h2.1, h2.2⟩
theorem op_read {n : Nat} {cs : List Value} {x : DataW H × List MemPlace} (h : DataW.trod enc Try.prog w base spare held n 25 cs = some x) : ∃ o : OpM, cs = o.cells ∧ o.text.size ≤ maxLen := by
  have hu : Try.prog.underlying 25 = some (.struct (fieldsOf 25)) := by kernel_rfl
  obtain ⟨xs, m, _, _, hl, hxl, hf⟩ := DataW.trod_struct hu h
  have hc4 : Try.prog.cellsOf 25 = 4 := by kernel_rfl
  rw [hc4] at hl
  obtain ⟨f0, a1, a2, a3⟩ := field_of hu (i := 0) (ty := 3) (off := 0) (by kernel_rfl)
  obtain ⟨f1, b1, b2, b3⟩ := field_of hu (i := 1) (ty := 3) (off := 1) (by kernel_rfl)
  obtain ⟨f2, c1, c2, c3⟩ := field_of hu (i := 2) (ty := 3) (off := 2) (by kernel_rfl)
  obtain ⟨f3, d1, d2, d3⟩ := field_of hu (i := 3) (ty := 9) (off := 3) (by kernel_rfl)
  have h0 := hf 0 f0 a1
  have h1 := hf 1 f1 b1
  have h2 := hf 2 f2 c1
  have h3 := hf 3 f3 d1
  have hsz : (fieldsOf 25).size = 4 := by kernel_rfl
  rw [hsz] at hxl
  rw [a2, a3] at h0
  rw [b2, b3] at h1
  rw [c2, c3] at h2
  rw [d2, d3] at h3
  have e3 : Try.prog.cellsOf 3 = 1 := by kernel_rfl
  have e9 : Try.prog.cellsOf 9 = 1 := by kernel_rfl
  rw [e3] at h0 h1 h2
  rw [e9] at h3
  have u3 : Try.prog.underlying 3 = some (.int .i64) := by kernel_rfl
  have u9 : Try.prog.underlying 9 = some .string := by kernel_rfl
  match xs, hxl, cs, hl with
  | [x0, x1, x2, x3], _, [v0, v1, v2, v3], _ =>
    obtain ⟨n0, g0, _⟩ := DataW.trod_int u3 (x := x0) (by simpa using h0)
    obtain ⟨n1, g1, _⟩ := DataW.trod_int u3 (x := x1) (by simpa using h1)
    obtain ⟨n2, g2, _⟩ := DataW.trod_int u3 (x := x2) (by simpa using h2)
    obtain ⟨s, g3, _, hs⟩ := DataW.trod_string u9 (x := x3) (by simpa using h3)
    simp at g0 g1 g2 g3
    subst g0; subst g1; subst g2; subst g3
    exact ⟨⟨n0, n1, n2, s⟩, rfl, hs⟩
theorem ops_read {n : Nat} {v : Value} {x : DataW H × List MemPlace} (h : DataW.trod enc Try.prog w base spare held n 22 [v] = some x) : ∃ l : List OpM, SlR El.op (hp w) v l := by
  have u22 : Try.prog.underlying 22 = some (.slice 25) := by kernel_rfl
  have hc4 : Try.prog.cellsOf 25 = 4 := by kernel_rfl
  rcases Go.Deep.open_slice u22 h with ⟨h0, _⟩ | ⟨a, len, cap, m, n', D, Pl, h0, hb, hlc, hcm, hm, _, hel⟩
  · simp at h0; subst h0; exact ⟨[], SlR.nil⟩
  · simp at h0; subst h0
    rw [hc4] at hel
    have hlm : len ≤ m := by rw [hm]; split <;> omega
    have key : ∀ i, i < len → ∃ o : OpM, o.text.size ≤ maxLen ∧ (i = 0 → a.spot = none) ∧ At (hp w) a.block (a.off + i * 4) o.cells := fun i hi => by
      obtain ⟨cs, h1, h2⟩ := hel i (by omega)
      obtain ⟨o, rfl, ho⟩ := op_read h2
      obtain ⟨g1, g2, g3⟩ := at_of_cells h1 (by decide)
      obtain ⟨ab, ao, asp⟩ := a
      unfold Addr.add at g1 g3
      by_cases hz : i * 4 = 0
      · simp only [hz, if_true] at g1 g3
        exact ⟨o, ho, fun _ => g1, by rw [hz]; exact g3⟩
      · simp only [hz, if_false] at g1 g3
        exact ⟨o, ho, fun h0 => absurd (by rw [h0]) hz, g3⟩
    classical
    let f : Nat → OpM := fun i => if hi : i < len then Classical.choose (key i hi) else ⟨0, 0, 0, ⟨#[]⟩⟩
    have hf : ∀ i, i < len → (f i).text.size ≤ maxLen ∧ (i = 0 → a.spot = none) ∧ At (hp w) a.block (a.off + i * 4) (f i).cells := fun i hi => by
      simp only [f, dif_pos hi]; exact Classical.choose_spec (key i hi)
    refine ⟨(List.range len).map f, some a, cap, by simp, by simpa using hlc, by simp only [List.length_map, List.length_range, big]; simp only [maxLen] at hcm; omega, fun hn => ?_⟩
    have hpos : 0 < len := by
      rcases Nat.eq_zero_or_pos len with h0 | h0
      · subst h0; simp at hn
      · exact h0
    obtain ⟨ab, ao, asp⟩ := a
    have hsp := (hf 0 hpos).2.1 rfl
    simp only at hsp
    subst hsp
    refine ⟨ab, ao, rfl, fun i x hx => ?_⟩
    rw [List.getElem?_map] at hx
    obtain ⟨k, h1, rfl⟩ := Option.map_eq_some_iff.1 hx
    have hk := List.getElem?_eq_some_iff.1 h1
    obtain ⟨hlt, rfl⟩ := hk
    simp only [List.getElem_range, List.length_range] at hlt ⊢
    exact ⟨_, ⟨rfl, (hf i hlt).1⟩, (hf i hlt).2.2⟩
end
end Go.Proofs.Ytjnckainogpenaa
end

section
/- From a law's contract to its row: what all rows of this seat have in common. -/
set_option linter.unusedVariables false
set_option maxRecDepth 100000
namespace Go.Proofs.Ytjnckainogpenaa
open Go Q Go.RowKit Go.ChangeShapes Go.WideShapes Go.ChangeAt

theorem ownK : ownKnob Try.prog.godebug = none := by kernel_rfl
theorem laidOutP : laidOutB Try.prog = true := by kernel_rfl
theorem own_start (w : World) : Own w (hp w) [] := Own.mk' (fun _ _ h => h) (fun _ h => by cases h) List.nodup_nil
theorem u4 : Try.prog.underlying 4 = some .bool := by kernel_rfl
theorem u5 : Try.prog.underlying 5 = some (.int .u8) := by kernel_rfl
theorem u3 : Try.prog.underlying 3 = some (.int .i64) := by kernel_rfl
theorem u9 : Try.prog.underlying 9 = some .string := by kernel_rfl
theorem u22 : Try.prog.underlying 22 = some (.slice 25) := by kernel_rfl
section
variable {H : Type} {enc : TypeId × Value → H} {P : Program}
/-- What makes a reading stay. -/
def Stays (P : Program) (t : TypeId) : Prop := P.readableRec t = true ∧ t < P.types.size
theorem trodAll_stays (hl : laidOutB P = true) {W W' : World} {sp : Nat → Bool} (hB : Below W.heap.size W W') :
    ∀ {ts : List TypeId} {vs : List Value} {ds : List (DataW H)} {ps : List MemPlace}, (∀ t ∈ ts, Stays P t) → DataW.TrodAll enc P W 0 (fun _ => true) true ts vs ds ps → (∀ p ∈ ps, p.block < W.heap.size) → (∀ p ∈ ps, sp p.block = true) → DataW.TrodAll enc P W' 0 sp true ts vs ds ps
  | [], [], [], _, _, h, _, _ => h
  | _ :: _, _ :: _, _ :: _, _, hT, ⟨p, q, h1, h2, e⟩, hlt, hs => ⟨p, q,
      WideElems.Trod_stays hl (hT _ List.mem_cons_self).1 (hT _ List.mem_cons_self).2 h1 (fun x hx => hB.same (hlt x (by rw [e]; exact List.mem_append_left _ hx))) (fun x hx => hs x (by rw [e]; exact List.mem_append_left _ hx)),
      trodAll_stays hl hB (fun t ht => hT t (List.mem_cons_of_mem _ ht)) h2 (fun x hx => hlt x (by rw [e]; exact List.mem_append_right _ hx)) (fun x hx => hs x (by rw [e]; exact List.mem_append_right _ hx)), e⟩
/-- A law's answer: true, and all arguments as they were. -/
theorem post_law (hl : laidOutB P = true) {f : Func} {s : ChangeSpec} {apart fresh handsOn again : Bool} {W W' : World} {args : Array Value} {ds gs : List (DataW H)} {before : List MemPlace} {tb : TypeId}
    (hW : DataW.Whole enc P f.params.toList s.vars apart W args.toList ds gs before) (hB : Below W.heap.size W W')
    (hr : f.resultTypes = #[tb]) (hu : P.underlying tb = some .bool) (hT : ∀ t ∈ f.params.toList, Stays P t) (hv : s.vars = [])
    (h1 : (s.fn H (ds ++ gs)).results = [.lit (.bool true)]) (h2 : (s.fn H (ds ++ gs)).args = ds) (h3 : (s.fn H (ds ++ gs)).vars = []) :
    s.post enc P f apart fresh handsOn again W args (.bool true) W' := by
  have hlt := hW.lt
  obtain ⟨pa, pv, hA, hV, rfl, hz, hn⟩ := id hW
  rw [hv] at hV
  obtain ⟨rfl, rfl⟩ := trodVars_none hV
  have hargs : ∀ sp : Nat → Bool, (∀ p ∈ pa, sp p.block = true) → DataW.TrodAll enc P W' 0 sp true f.params.toList args.toList (s.fn H (ds ++ [])).args pa := fun sp hsp => by
    rw [h2]; exact trodAll_stays hl hB hT hA (fun p hp => hlt p (by simpa using hp)) hsp
  have hres : ∀ (b : Nat) (sp : Nat → Bool) (hd : Bool), DataW.TrodAll enc P W' b sp hd f.resultTypes.toList ((Value.bool true).resultList f.resultTypes.size) (s.fn H (ds ++ [])).results [] := fun b sp hd => by
    rw [h1, hr]; exact trodAll_cons_mk (shut_bool hu _) trodAll_mk0
  have hvars : ∀ sp : Nat → Bool, DataW.TrodVars enc P W' sp s.vars (s.fn H (ds ++ [])).vars [] := fun sp => by rw [hv, h3]; rfl
  have hold : ∀ p ∈ pa, (fun b => decide (b < W.heap.size)) p.block = true := fun p hp => by simpa using hlt p (by simpa using hp)
  refine ⟨ds, [], pa ++ [], [], pa, [], hW, hres _ _ _, hargs _ hold, hvars _, hB.frame _, fun _ => ⟨?_, _, _, ([] ++ pa) ++ [], ⟨[] ++ pa, [], trodAll_append (hargs _ (fun _ _ => rfl)) (hres _ _ _), hvars _, rfl, ?_, ?_⟩, ?_⟩⟩
  · exact ok_one hr rfl (okWide_bool_mk hu _)
  · intro b off hp
    have hp' : MemPlace.cell b off ∈ pa ++ [] := by simpa using hp
    rw [hB.frozen (p := ⟨b, off, none⟩) (hlt _ hp')]
    exact hz b off hp'
  · intro ha
    simpa using hn ha
  · intro p hp _
    simpa using hp
end
/-- A contract that answers true, over a reading. -/
theorem post_fn1 {H : Type} {enc : TypeId × Value → H} {k : FuncId} {f : Func} {s : ChangeSpec} {apart fresh handsOn again : Bool} {W : World} {args : Array Value} {ds gs : List (DataW H)} {before : List MemPlace}
    (hW : DataW.Whole enc Try.prog f.params.toList s.vars apart W args.toList ds gs before)
    (hc : Fn1 k args (hp W) W fun _ r => r = .bool true)
    (hr : f.resultTypes = #[4]) (hT : ∀ t ∈ f.params.toList, Stays Try.prog t) (hv : s.vars = [])
    (h1 : (s.fn H (ds ++ gs)).results = [.lit (.bool true)]) (h2 : (s.fn H (ds ++ gs)).args = ds) (h3 : (s.fn H (ds ++ gs)).vars = []) :
    Calls Try.prog k args W fun e W' => ∃ v, e = .returned v ∧ s.post enc Try.prog f apart fresh handsOn again W args v W' := by
  refine (hc (own_start W)).mono fun e W' he => ?_
  cases e with
  | returned v =>
    obtain ⟨z', hR, rfl⟩ := he
    exact ⟨_, rfl, post_law laidOutP hW hR.below hr u4 hT hv h1 h2 h3⟩
  | _ => exact he.elim
theorem stays22 : Stays Try.prog 22 := ⟨by kernel_rfl, of_decide_eq_true (by kernel_rfl)⟩
theorem stays5 : Stays Try.prog 5 := ⟨by kernel_rfl, of_decide_eq_true (by kernel_rfl)⟩
end Go.Proofs.Ytjnckainogpenaa
end

section
/- More readings of arguments. -/
set_option linter.unusedVariables false
set_option maxRecDepth 20000
namespace Go.Proofs.Ytjnckainogpenaa
open Go Q Go.RowKit Go.ChangeShapes Go.WideShapes
theorem stays9 : Stays Try.prog 9 := ⟨by kernel_rfl, of_decide_eq_true (by kernel_rfl)⟩
theorem stays4 : Stays Try.prog 4 := ⟨by kernel_rfl, of_decide_eq_true (by kernel_rfl)⟩
theorem stays3 : Stays Try.prog 3 := ⟨by kernel_rfl, of_decide_eq_true (by kernel_rfl)⟩
theorem stays28 : Stays Try.prog 28 := ⟨by kernel_rfl, of_decide_eq_true (by kernel_rfl)⟩
end Go.Proofs.Ytjnckainogpenaa
end

section
/- Readings of states. -/
set_option linter.unusedVariables false
set_option maxRecDepth 20000
namespace Go.Proofs.Ytjnckainogpenaa
open Go Q Go.RowKit Go.ChangeShapes Go.WideShapes
theorem u28 : Try.prog.underlying 28 = some (.struct (fieldsOf 28)) := by kernel_rfl
section
variable {H : Type} {enc : TypeId × Value → H} {w : World} {base : Nat} {spare : Nat → Bool} {held : Bool}
theorem fieldAt' {t : TypeId} (hu : Try.prog.underlying t = some (.struct (fieldsOf t))) {i ty off : Nat} (hi : ((fieldsOf t).toList.map fun f => (f.type, f.offset))[i]? = some (ty, off)) : ∃ f, (fieldsOf t)[i]? = some f ∧ f.type = ty ∧ f.offset = off := by
  rw [List.getElem?_map] at hi
  obtain ⟨f, h1, h2⟩ := Option.map_eq_some_iff.1 hi
  simp only [Prod.mk.injEq] at h2
  exact ⟨f, by simpa using h1, h2.1, h2.2⟩
/-- A slice reads as a list, if its elements do. -/
theorem sl_read {α : Type} [Inhabited α] {E : El α} {t e : TypeId} (hu : Try.prog.underlying t = some (.slice e)) (hc : Try.prog.cellsOf e = E.size) (rd : ∀ n cs x, DataW.trod enc Try.prog w base spare held n e cs = some x → ∃ a, E.rel (hp w) cs a)
    {n : Nat} {v : Value} {x : DataW H × List MemPlace} (h : DataW.trod enc Try.prog w base spare held n t [v] = some x) : ∃ l : List α, SlR E (hp w) v l := by
  rcases Go.Deep.open_slice hu h with ⟨h0, _⟩ | ⟨a, len, cap, m, n', D, Pl, h0, hb, hlc, hcm, hm, _, hel⟩
  · simp at h0; subst h0; exact ⟨[], SlR.nil⟩
  · simp at h0; subst h0
    rw [hc] at hel
    have hlm : len ≤ m := by rw [hm]; split <;> omega
    have key : ∀ i, i < len → ∃ (o : α) (cs : List Value), E.rel (hp w) cs o ∧ (i = 0 → a.spot = none) ∧ At (hp w) a.block (a.off + i * E.size) cs := fun i hi => by
      obtain ⟨cs, h1, h2⟩ := hel i (by omega)
      obtain ⟨o, ho⟩ := rd _ _ _ h2
      obtain ⟨g1, g2, g3⟩ := at_of_cells h1 E.pos
      obtain ⟨ab, ao, asp⟩ := a
      unfold Addr.add at g1 g3
      by_cases hz : i * E.size = 0
      · simp only [hz, if_true] at g1 g3
        exact ⟨o, cs, ho, fun _ => g1, by rw [hz]; exact g3⟩
      · simp only [hz, if_false] at g1 g3
        exact ⟨o, cs, ho, fun h0 => absurd (by rw [h0]; simp) hz, g3⟩
    classical
    let f : Nat → α := fun i => if hi : i < len then Classical.choose (key i hi) else default
    have hf : ∀ i, i < len → ∃ cs : List Value, E.rel (hp w) cs (f i) ∧ (i = 0 → a.spot = none) ∧ At (hp w) a.block (a.off + i * E.size) cs := fun i hi => by
      simp only [f, dif_pos hi]; exact Classical.choose_spec (key i hi)
    refine ⟨(List.range len).map f, some a, cap, by simp, by simpa using hlc, by simp only [List.length_map, List.length_range, big]; simp only [maxLen] at hcm; omega, fun hn => ?_⟩
    have hpos : 0 < len := by
      rcases Nat.eq_zero_or_pos len with h0 | h0
      · subst h0; simp at hn
      · exact h0
    obtain ⟨ab, ao, asp⟩ := a
    obtain ⟨_, _, hsp, _⟩ := hf 0 hpos
    have hsp := hsp rfl
    simp only at hsp
    subst hsp
    refine ⟨ab, ao, rfl, fun i x hx => ?_⟩
    rw [List.getElem?_map] at hx
    obtain ⟨k, h1, rfl⟩ := Option.map_eq_some_iff.1 hx
    have hk := List.getElem?_eq_some_iff.1 h1
    obtain ⟨hlt, rfl⟩ := hk
    simp only [List.getElem_range, List.length_range] at hlt ⊢
    obtain ⟨cs, q1, _, q2⟩ := hf i hlt
    exact ⟨cs, q1, q2⟩
instance : Inhabited TrM := ⟨noTrap⟩
instance : Inhabited RaM := ⟨⟨0, ⟨#[]⟩⟩⟩
instance : Inhabited FrM := ⟨⟨[], [], noInfo⟩⟩
theorem trap_read {n : Nat} {cs : List Value} {x : DataW H × List MemPlace} (h : DataW.trod enc Try.prog w base spare held n 73 cs = some x) : ∃ o : TrM, El.trap.rel (hp w) cs o := by
  have hu : Try.prog.underlying 73 = some (.struct (fieldsOf 73)) := by kernel_rfl
  obtain ⟨xs, m, _, _, hl, hxl, hf⟩ := DataW.trod_struct hu h
  have hc4 : Try.prog.cellsOf 73 = 3 := by kernel_rfl
  rw [hc4] at hl
  obtain ⟨f0, a1, a2, a3⟩ := fieldAt' hu (i := 0) (ty := 3) (off := 0) (by kernel_rfl)
  obtain ⟨f1, b1, b2, b3⟩ := fieldAt' hu (i := 1) (ty := 9) (off := 1) (by kernel_rfl)
  obtain ⟨f2, c1, c2, c3⟩ := fieldAt' hu (i := 2) (ty := 4) (off := 2) (by kernel_rfl)
  have h0 := hf 0 f0 a1
  have h1 := hf 1 f1 b1
  have h2 := hf 2 f2 c1
  have hsz : (fieldsOf 73).size = 3 := by kernel_rfl
  rw [hsz] at hxl
  rw [a2, a3] at h0
  rw [b2, b3] at h1
  rw [c2, c3] at h2
  rw [show Try.prog.cellsOf 3 = 1 by kernel_rfl] at h0
  rw [show Try.prog.cellsOf 9 = 1 by kernel_rfl] at h1
  rw [show Try.prog.cellsOf 4 = 1 by kernel_rfl] at h2
  match xs, hxl, cs, hl with
  | [x0, x1, x2], _, [v0, v1, v2], _ =>
    obtain ⟨n0, g0, _⟩ := DataW.trod_int u3 (x := x0) (by simpa using h0)
    obtain ⟨s, g1, _, hs⟩ := DataW.trod_string u9 (x := x1) (by simpa using h1)
    obtain ⟨b, g2, _⟩ := DataW.trod_bool u4 (x := x2) (by simpa using h2)
    simp at g0 g1 g2
    subst g0; subst g1; subst g2
    exact ⟨⟨n0, s, b⟩, rfl, hs⟩
theorem raised_read {n : Nat} {cs : List Value} {x : DataW H × List MemPlace} (h : DataW.trod enc Try.prog w base spare held n 70 cs = some x) : ∃ o : RaM, El.raised.rel (hp w) cs o := by
  have hu : Try.prog.underlying 70 = some (.struct (fieldsOf 70)) := by kernel_rfl
  obtain ⟨xs, m, _, _, hl, hxl, hf⟩ := DataW.trod_struct hu h
  have hc4 : Try.prog.cellsOf 70 = 2 := by kernel_rfl
  rw [hc4] at hl
  obtain ⟨f0, a1, a2, a3⟩ := fieldAt' hu (i := 0) (ty := 3) (off := 0) (by kernel_rfl)
  obtain ⟨f1, b1, b2, b3⟩ := fieldAt' hu (i := 1) (ty := 9) (off := 1) (by kernel_rfl)
  have h0 := hf 0 f0 a1
  have h1 := hf 1 f1 b1
  have hsz : (fieldsOf 70).size = 2 := by kernel_rfl
  rw [hsz] at hxl
  rw [a2, a3] at h0
  rw [b2, b3] at h1
  rw [show Try.prog.cellsOf 3 = 1 by kernel_rfl] at h0
  rw [show Try.prog.cellsOf 9 = 1 by kernel_rfl] at h1
  match xs, hxl, cs, hl with
  | [x0, x1], _, [v0, v1], _ =>
    obtain ⟨n0, g0, _⟩ := DataW.trod_int u3 (x := x0) (by simpa using h0)
    obtain ⟨s, g1, _, hs⟩ := DataW.trod_string u9 (x := x1) (by simpa using h1)
    simp at g0 g1
    subst g0; subst g1
    exact ⟨⟨n0, s⟩, rfl, hs⟩
theorem info_read {n : Nat} {cs : List Value} {x : DataW H × List MemPlace} (h : DataW.trod enc Try.prog w base spare held n 61 cs = some x) : ∃ o : InM, cs = o.cells ∧ o.desc.size ≤ big := by
  have hu : Try.prog.underlying 61 = some (.struct (fieldsOf 61)) := by kernel_rfl
  obtain ⟨xs, m, _, _, hl, hxl, hf⟩ := DataW.trod_struct hu h
  have hc4 : Try.prog.cellsOf 61 = 3 := by kernel_rfl
  rw [hc4] at hl
  obtain ⟨f0, a1, a2, a3⟩ := fieldAt' hu (i := 0) (ty := 3) (off := 0) (by kernel_rfl)
  obtain ⟨f1, b1, b2, b3⟩ := fieldAt' hu (i := 1) (ty := 3) (off := 1) (by kernel_rfl)
  obtain ⟨f2, c1, c2, c3⟩ := fieldAt' hu (i := 2) (ty := 9) (off := 2) (by kernel_rfl)
  have h0 := hf 0 f0 a1
  have h1 := hf 1 f1 b1
  have h2 := hf 2 f2 c1
  have hsz : (fieldsOf 61).size = 3 := by kernel_rfl
  rw [hsz] at hxl
  rw [a2, a3] at h0
  rw [b2, b3] at h1
  rw [c2, c3] at h2
  rw [show Try.prog.cellsOf 3 = 1 by kernel_rfl] at h0 h1
  rw [show Try.prog.cellsOf 9 = 1 by kernel_rfl] at h2
  match xs, hxl, cs, hl with
  | [x0, x1, x2], _, [v0, v1, v2], _ =>
    obtain ⟨n0, g0, _⟩ := DataW.trod_int u3 (x := x0) (by simpa using h0)
    obtain ⟨n1, g1, _⟩ := DataW.trod_int u3 (x := x1) (by simpa using h1)
    obtain ⟨s, g2, _, hs⟩ := DataW.trod_string u9 (x := x2) (by simpa using h2)
    simp at g0 g1 g2
    subst g0; subst g1; subst g2
    exact ⟨⟨n0, n1, s⟩, rfl, hs⟩
theorem frame_read {n : Nat} {cs : List Value} {x : DataW H × List MemPlace} (h : DataW.trod enc Try.prog w base spare held n 63 cs = some x) : ∃ o : FrM, El.frame.rel (hp w) cs o := by
  have hu : Try.prog.underlying 63 = some (.struct (fieldsOf 63)) := by kernel_rfl
  obtain ⟨xs, m, _, _, hl, hxl, hf⟩ := DataW.trod_struct hu h
  have hc4 : Try.prog.cellsOf 63 = 5 := by kernel_rfl
  rw [hc4] at hl
  obtain ⟨f0, a1, a2, a3⟩ := fieldAt' hu (i := 0) (ty := 58) (off := 0) (by kernel_rfl)
  obtain ⟨f1, b1, b2, b3⟩ := fieldAt' hu (i := 1) (ty := 59) (off := 1) (by kernel_rfl)
  obtain ⟨f2, c1, c2, c3⟩ := fieldAt' hu (i := 2) (ty := 61) (off := 2) (by kernel_rfl)
  have h0 := hf 0 f0 a1
  have h1 := hf 1 f1 b1
  have h2 := hf 2 f2 c1
  have hsz : (fieldsOf 63).size = 3 := by kernel_rfl
  rw [hsz] at hxl
  rw [a2, a3] at h0
  rw [b2, b3] at h1
  rw [c2, c3] at h2
  rw [show Try.prog.cellsOf 58 = 1 by kernel_rfl] at h0
  rw [show Try.prog.cellsOf 59 = 1 by kernel_rfl] at h1
  rw [show Try.prog.cellsOf 61 = 3 by kernel_rfl] at h2
  match xs, hxl, cs, hl with
  | [x0, x1, x2], _, [v0, v1, v2, v3, v4], _ =>
    obtain ⟨l1, hl1⟩ := sl_read (E := El.trap) (by kernel_rfl) (by kernel_rfl) (fun _ _ _ => trap_read) (x := x0) (v := v0) (by simpa using h0)
    obtain ⟨l2, hl2⟩ := sl_read (E := El.raised) (by kernel_rfl) (by kernel_rfl) (fun _ _ _ => raised_read) (x := x1) (v := v1) (by simpa using h1)
    obtain ⟨i, hi, his⟩ := info_read (x := x2) (cs := [v2, v3, v4]) (by simpa using h2)
    exact ⟨⟨l1, l2, i⟩, v0, v1, by rw [hi], hl1, hl2, his⟩
theorem st_read {r : Reach} {b0 n : Nat} {v : Value} {x : DataW H × List MemPlace} (hval : Value.okWide Try.prog w r b0 28 v) (h : DataW.trod enc Try.prog w base spare held n 28 v.cells.toList = some x) : ∃ s : StM, StR (hp w) v s := by
  obtain ⟨xs, m, _, _, hl, hxl, hf⟩ := DataW.trod_struct u28 h
  have hc4 : Try.prog.cellsOf 28 = 1 := by kernel_rfl
  rw [hc4] at hl
  obtain ⟨f0, a1, a2, a3⟩ := fieldAt' u28 (i := 0) (ty := 26) (off := 0) (by kernel_rfl)
  have h0 := hf 0 f0 a1
  have hsz : (fieldsOf 28).size = 1 := by kernel_rfl
  rw [hsz] at hxl
  rw [a2, a3] at h0
  rw [show Try.prog.cellsOf 26 = 1 by kernel_rfl] at h0
  have hv : ∃ cs, v = .agg cs := by
    simp only [Value.okWide, u28] at hval
    exact ⟨_, hval.choose_spec.1⟩
  obtain ⟨cs, rfl⟩ := hv
  obtain ⟨l, rfl⟩ : ∃ l : List Value, cs = l.toArray := ⟨cs.toList, by simp⟩
  simp only [Value.cells] at hl h0
  match xs, hxl, l, hl with
  | [x0], _, [v0], _ =>
    obtain ⟨l1, hl1⟩ := sl_read (E := El.frame) (by kernel_rfl) (by kernel_rfl) (fun _ _ _ => frame_read) (x := x0) (v := v0) (by simpa using h0)
    exact ⟨l1, v0, rfl, hl1⟩
end
end Go.Proofs.Ytjnckainogpenaa
end
