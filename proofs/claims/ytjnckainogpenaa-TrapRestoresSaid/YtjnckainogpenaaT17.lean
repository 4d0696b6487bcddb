/- Machines at work: the end of a clause. -/
import Derived.Test.YtjnckainogpenaaT16
set_option linter.unusedVariables false
set_option maxRecDepth 20000
set_option synthInstance.maxHeartbeats 400000
set_option synthInstance.maxSize 4000
namespace Go.Proofs.Ytjnckainogpenaa
open Go Q Go.RowKit

theorem CE_fn {f : FuncId} [he : Enters f] {first args cap args' : Array Value} {w : World} {K : Value → World → Prop} (ha : first ++ args ++ cap = args') (h : Calls Try.prog f args' w (retK K)) : CE (.func (.func f) first cap) args w K := by
  subst ha
  have : (callSem (.func (.func f) first cap) args).run Try.prog w = .ok (.enter f (first ++ args ++ cap)) w := by
    simp only [callSem, Deferred.ofValue, pure_bind, invoke]
    exact he.h _ _
  unfold CE CallE
  rw [this]
  exact h
theorem Res.rf {w0 w w1 : World} {z0 z : Z} {B0 L : Bl} {r l : Nat} {lp : Loop} (h : Res w0 z0 B0 w z L) (hn : NewRF w w1 r l lp) : Res w0 z0 B0 w1 z ((l, lobj lp .ready none) :: (r, .deferred (some [])) :: L) := by
  obtain ⟨rfl, rfl, rfl⟩ := hn
  have := Res.new (Res.new h (.deferred (some []))) (lobj lp .ready none)
  simpa using this
theorem iBegin {w0 w : World} {z0 z : Z} {B0 L : Bl} {C : Obj → Bl} {l : Nat} {lp : Loop} {K : World → Prop} [hS : Res w0 z0 B0 w z L] [g : Blk L l (lobj lp .ready none) C] (hk : ∀ w', Res w0 z0 B0 w' z (C (lobj lp .busy none)) → K w') : BeginW l lp w K := ⟨Res.at_ (g := g) hS, hk _ (Res.set (g := g) hS _ rfl)⟩
theorem iEnd {w0 w : World} {z0 z : Z} {B0 L : Bl} {C : Obj → Bl} {l : Nat} {lp : Loop} {st : LoopState} {pend jump : Option Code} {K : Value → World → Prop} [hS : Res w0 z0 B0 w z L] [g : Blk L l (lobj lp st pend) C] (hk : ∀ w', Res w0 z0 B0 w' z (C (lobj lp (if jump.isNone then .ready else .done) jump)) → K (.bool jump.isNone) w') : EndW l lp jump w K := ⟨⟨st, pend, Res.at_ (g := g) hS⟩, hk _ (Res.set (g := g) hS _ rfl)⟩
theorem iRfEnd {w0 w : World} {z0 z : Z} {B0 L : Bl} {C : Obj → Bl} {l : Nat} {lp : Loop} {st : LoopState} {pend : Option Code} {Kn Kr : World → Prop} {kes : List (Nat × (World → Prop))} [hS : Res w0 z0 B0 w z L] [g : Blk L l (lobj lp st pend) C] (hst : st ≠ .busy) (hk : ∀ w', Res w0 z0 B0 w' z (C (lobj lp .exhausted pend)) → jumpK pend Kn Kr kes w') : RfEnd l lp w Kn Kr kes := ⟨st, pend, Res.at_ (g := g) hS, hst, hk _ (Res.set (g := g) hS _ rfl)⟩
theorem iTake {w0 w : World} {z0 z : Z} {B0 L : Bl} {C : Obj → Bl} {r : Nat} {K : World → Prop} [hS : Res w0 z0 B0 w z L] [g : Blk L r (.deferred (some [])) C] (hk : ∀ w', Res w0 z0 B0 w' z (C (.deferred none)) → K w') : Take1 r w K := ⟨Res.at_ (g := g) hS, hk _ (Res.set (g := g) hS _ rfl)⟩
theorem iTakeW {w : World} {r : Nat} {K : World → Prop} (h : Take1 r w K) : TakeW (marks (.iface r undef)) w K := by
  rw [marks_iface]
  exact h

theorem trapsFreeze {w0 w : World} {z0 z : Z} {B0 L : Bl} {mb fb tb cap tcap : Nat} {pre : StM} {ps sp ts : List Value} {f : FrM} (hx : MachX z mb fb tb pre ps sp ts cap tcap f) (h : Res w0 z0 B0 w z ((tb, .cells (f.traps.flatMap TrM.cells ++ ts).toArray 73 (0, 0)) :: L)) :
    ∃ z', Le z z' ∧ Res w0 z0 B0 w z' L ∧ FrsR z' ps pre ∧ SlR El.trap z' (.slice (some ⟨tb, 0, none⟩) 6 tcap) f.traps := by
  obtain ⟨q1, q2, q3, q4, q5⟩ := hx.sm
  have hfl : (f.traps.flatMap TrM.cells).length = 18 := by rw [flat_len (f := TrM.cells) (n := 3) (fun _ => rfl), hx.six]
  obtain ⟨z1, hz1, hS1, hv1⟩ := Res.freezeSl (E := El.trap) (B := [(tb, _)]) (v := .slice (some ⟨tb, 0, none⟩) 6 tcap) (xs := f.traps) (f := TrM.cells) (e := 73) h ⟨by rw [hfl, hx.six]; rfl, .inr ⟨tb, tcap, ts, rfl, by rw [hx.six], by rw [hx.six]; exact hx.tcap.1, hx.tcap.2.1, by rw [List.length_append, hfl]; exact hx.tcap.2.2⟩⟩ (by simp only [big]; omega) (fun _ => rfl) (fun z x hx => ⟨rfl, q3 x hx⟩)
  exact ⟨z1, hz1, hS1, FrsR.mono hz1 hx.fr, hv1⟩
theorem topR {w0 w : World} {z0 z : Z} {B0 : Bl} {mb fb tb cap tcap : Nat} {pre : StM} {ps sp ts : List Value} {f : FrM} {v2 : Value} {l : List RaM} (hx : MachX z mb fb tb pre ps sp ts cap tcap f) (hv2 : SlR El.raised z v2 l)
    (h : Res w0 z0 B0 w z [(mb, .cells [.slice (some ⟨fb, 0, none⟩) (pre.length + 1) cap].toArray 134 (0, 0)), (fb, .cells (ps ++ (.slice (some ⟨tb, 0, none⟩) 6 tcap :: v2 :: .int .i64 f.info.cond :: .int .i64 f.info.mode :: .string f.info.desc :: sp)).toArray 63 (0, 0)), (tb, .cells (f.traps.flatMap TrM.cells ++ ts).toArray 73 (0, 0))]) : ∃ z' B', Res w0 z0 B0 w z' B' ∧ MachR z' B' mb (pre ++ [{ f with pend := l }]) := by
  obtain ⟨z1, hz1, hS1, hfr, hv1⟩ := trapsFreeze (L := [(mb, _), (fb, _)]) hx (h.perm (List.perm_append_comm (l₁ := [(mb, _), (fb, _)]) (l₂ := [(tb, _)])))
  have hps := hx.cap
  refine ⟨z1, _, hS1, [(fb, _)], ps ++ (.slice (some ⟨tb, 0, none⟩) 6 tcap :: v2 :: f.info.cells), _, rfl, ⟨?_, .inr ⟨fb, cap, sp, by simp, by simp, by simpa using hps.1, hps.2.1, ?_⟩⟩, FrsR.snoc (f := { f with pend := l }) ⟨_, _, rfl, hv1, hv2.mono hz1, hx.sm.2.2.2.2⟩ hfr⟩
  · have := FrsR.len hx.fr
    simp; omega
  · simp; omega
theorem MachX.z {z z' : Z} {mb fb tb cap tcap : Nat} {pre : StM} {ps sp ts : List Value} {f : FrM} (hx : MachX z mb fb tb pre ps sp ts cap tcap f) (hz : Le z z') : MachX z' mb fb tb pre ps sp ts cap tcap f := ⟨FrsR.mono hz hx.fr, hx.cap, hx.tcap, hx.six, hx.sm⟩
theorem SlR.tail {α : Type} {E : El α} {z : Z} {b off n cap : Nat} {x : α} {xs : List α} (h : SlR E z (.slice (some ⟨b, off, none⟩) n cap) (x :: xs)) : SlR E z (.slice (some ⟨b, if cap = 1 then off else off + E.size, none⟩) (n - 1) (cap - 1)) xs := by
  obtain ⟨a, cap', h1, h2, h3, h4⟩ := h
  cases h1
  simp only [List.length_cons] at h2 h3
  refine ⟨some ⟨b, if cap = 1 then off else off + E.size, none⟩, cap - 1, rfl, by omega, by omega, fun hn => ⟨b, _, rfl, fun i y hy => ?_⟩⟩
  obtain ⟨b', off', h5, h6⟩ := h4 (by simp)
  cases h5
  obtain ⟨cs, h7, h8⟩ := h6 (i + 1) y (by simpa using hy)
  have hpos : 0 < xs.length := List.length_pos_iff.2 hn
  rw [if_neg (by omega)]
  refine ⟨cs, h7, ?_⟩
  rw [show off + E.size + i * E.size = off + (i + 1) * E.size by rw [Nat.add_mul]; omega]
  exact h8
theorem tgetN {f : FrM} {c : Int} (h6 : f.traps.length = 6) (h0 : 0 ≤ c) (h1 : c < 6) (ts : List Value) : GetN (f.traps.flatMap TrM.cells ++ ts) (c.toNat * 3) 3 [.int .i64 (f.tr c).mode, .string (f.tr c).label, .bool (f.tr c).delayed] := by
  have hlt : c.toNat < f.traps.length := by omega
  refine ⟨rfl, fun j v hv => ?_⟩
  have hx : f.traps[c.toNat]? = some (f.tr c) := by rw [FrM.tr, List.getD_eq_getElem?_getD, List.getElem?_eq_getElem hlt]; rfl
  have := flat_get (f := TrM.cells) (n := 3) (fun _ => rfl) hx j v hv
  rw [List.getElem?_append_left (List.getElem?_eq_some_iff.1 this).1]
  exact this
theorem Res.end14 {w0 w : World} {z0 z : Z} {B0 B5 : Bl} {x1 x2 t x4 x5 x6 x7 x8 x9 x10 x11 x12 x13 m : Nat × Obj} (h : Res w0 z0 B0 w z (B5 ++ [x1, x2, t, x4, x5, x6, x7, x8, x9, x10, x11, x12, x13, m])) : Res w0 z0 B0 w z (m :: (B5 ++ [t])) := by
  have h1 : Res w0 z0 B0 w z (B5 ++ [t, m]) := h.sublist ((List.Sublist.refl _).append (by repeat (first | exact List.Sublist.refl _ | apply List.Sublist.cons_cons | apply List.Sublist.cons)))
  refine h1.perm ?_
  rw [show B5 ++ [t, m] = (B5 ++ [t]) ++ [m] by simp]
  exact List.perm_append_comm (l₂ := [m])
structure EndM where
  a : AcM
  e : Int
  top : StM
def callF (f : FrM) (r : RaM) (l : List RaM) : StM := [{ f with pend := l }, { traps := f.traps.set r.cond.toNat { f.tr r.cond with delayed := true }, pend := [], info := ⟨r.cond, 2, r.desc⟩ }]
def endM (n : Nat) (f : FrM) : List RaM → EndM
  | [] => ⟨noAct, 0, [{ f with pend := [] }]⟩
  | r :: l => if (f.tr r.cond).mode = 0 ∨ (f.tr r.cond).delayed = true then endM n f l
    else if (f.tr r.cond).mode = 1 then ⟨sigA f r.cond r.desc, 0, [sigF f r.cond r.desc]⟩
    else if n = 30 then ⟨noAct, 14, []⟩
    else ⟨⟨2, (f.tr r.cond).label, r.cond, r.desc⟩, 0, callF f r l⟩
theorem endP {z : Z} {w : World} {B : Bl} {mb : Nat} {pre : StM} {f : FrM} {v1 v2 v3 : Value} (hm : Mach z B mb (pre ++ [f])) (h6 : f.traps.length = 6) (hpre : pre.length ≤ 100) (hpc : ∀ r ∈ f.pend, 0 ≤ r.cond ∧ r.cond < 6) :
    Fn 69 #[.pointer (some ⟨mb, 0, none⟩), v1, v2, v3] z B w (OpR mb (endM (pre.length + 1) f f.pend).e (endM (pre.length + 1) f f.pend).a (pre ++ (endM (pre.length + 1) f f.pend).top)) := Fn.intro fun hS => en69 (by
  unfold vc69
  obtain ⟨fb, tb, ps, sp, ts, cap, tcap, B2, w2, hB, hx, hpo⟩ := hm.x h6
  obtain ⟨q1, q2, q3, q4, q5⟩ := hx.sm
  have hS' : Res w z B w z _ := Eq.subst (motive := fun X => Res w z B w z X) hB hS
  clear hS
  simp only [mxB] at hS'
  have hlen := hx.fr.len
  obtain ⟨z1, hz1, hS1, hv2⟩ := Res.freezeSl (E := El.raised) (L := [(mb, _), (fb, _), (tb, _)]) (hS'.perm (List.perm_append_comm (l₁ := [(mb, _), (fb, _), (tb, _)]) (l₂ := B2))) hpo (by simp only [big]; omega) (fun _ => rfl) (fun z x hx => ⟨rfl, q4 x hx⟩)
  clear hS'
  have hx1 : MachX z1 mb fb tb pre ps sp ts cap tcap f := ⟨FrsR.mono hz1 hx.fr, hx.cap, hx.tcap, hx.six, hx.sm⟩
  obtain ⟨a2, cap2, rfl, hc2⟩ := hpo.form
  refine iV_bx ?_
  intro b4 w4 hb4 hS4
  refine iV_al ?_
  intro b8 w8 hb8 hS8
  refine iV_al ?_
  intro b9 w9 hb9 hS9
  refine V_run ?_
  refine iV_al ?_
  intro b10 w10 hb10 hS10
  refine iU_st ?_
  intro w11 hS11
  refine J1 (fun KJ hJ => ?_)
  refine iV_ld1 ?_
  refine CV_enter (args' := #[.pointer (some ⟨mb, 0, none⟩)]) (by simp) (en104 ?_)
  unfold vc104
  refine iV_bx ?_
  intro bp w12 hbp hS12
  clear hS11 hS10 hS9 hS8 hS4 hS1
  intro lp r0 l0 w13 hnew hyp
  have hS13 := hS12.rf hnew
  clear hS12
  refine CE_fn (args' := #[.func (.yield l0) #[] #[], .pointer (some ⟨bp, 0, none⟩)]) (by simp) (en115 ?_)
  unfold vc115
  refine LoopG0 (fun (k : Nat) w' => k ≤ f.pend.length ∧ endM (pre.length + 1) f f.pend = endM (pre.length + 1) f (f.pend.drop k) ∧ ∃ z' v2, Le z1 z' ∧ SlR El.raised z' v2 (f.pend.drop k) ∧ Res w z B w' z' ((l0, lobj lp .ready none) :: (r0, .deferred (some [])) :: (bp, .cells [.pointer (some ⟨mb, 0, none⟩)].toArray 113 (0, 0)) :: (b10, .cells [.int .i64 0, .string ⟨#[]⟩, .int .i64 0, .string ⟨#[]⟩].toArray 39 (0, 0)) :: (b9, .cells [.int .i64 0].toArray 31 (0, 0)) :: (b8, .cells [.int .i64 0, .string ⟨#[]⟩, .int .i64 0, .string ⟨#[]⟩].toArray 39 (0, 0)) :: (b4, .cells [.pointer (some ⟨mb, 0, none⟩)].toArray 113 (0, 0)) :: (mb, .cells [.slice (some ⟨fb, 0, none⟩) (pre.length + 1) cap].toArray 134 (0, 0)) :: (fb, .cells (ps ++ (.slice (some ⟨tb, 0, none⟩) 6 tcap :: v2 :: .int .i64 f.info.cond :: .int .i64 f.info.mode :: .string f.info.desc :: sp)).toArray 63 (0, 0)) :: [(tb, .cells (f.traps.flatMap TrM.cells ++ ts).toArray 73 (0, 0))])) (fun k => f.pend.length - k) 0 ⟨by omega, rfl, z1, _, Le.refl _, hv2, hS13⟩ ?_
  rintro I M k w14 m ⟨hk, hend, z2, v2, hz2, hv2', hS14⟩ back
  obtain ⟨hbp2, a3, cap3, rfl, hc3, hel3⟩ := hv2'.form
  (repeat (first | (refine iDr ?_; intro _ _) | refine V_run ?_ | refine PV_run ?_ | refine HV_run ?_ | refine iV_ld1 ?_ | refine iV_ldN ?_ | (refine iV_bx ?_; intro _ _ _ _) | (refine iV_al ?_; intro _ _ _ _) | (refine iV_mm ?_; intro _ _ _ _) | (refine iU_st ?_; intro _ _) | refine iHV_1 ?_ | refine iHV_N ?_ | refine iRI_1 ?_ | refine iRI_N ?_ | refine Cond_t ?_ | refine Cond_f ?_ | refine JB ?_ | (refine JC ?_; intro _ _ _ _) | (refine J1 ?_; intro _ _) | (refine J0 ?_; intro _ _) | (refine J2 ?_; intro _ _) | (refine J3 ?_; intro _ _) | (refine J4 ?_; intro _ _) | refine K1 ?_ | refine K0 ?_ | refine K2 ?_ | refine K3 ?_ | refine K4 ?_ | (refine CV_pu ?_; intro _ _ _ _) | refine fV_ldN ?_ | refine fV_ld1 ?_ | refine fHV_ldN ?_ | refine fHV_ld1 ?_ | refine NilW_some ?_ | refine iCW_1 ?_ | refine iCW_N ?_ | refine Pk_b ?_))
  refine CV_now (n := pre.length) (o := ps.length) hlen.symm (by simp only [big]; omega) ?_
  intro w15 hS15
  (repeat (first | (refine iDr ?_; intro _ _) | refine V_run ?_ | refine PV_run ?_ | refine HV_run ?_ | refine iV_ld1 ?_ | refine iV_ldN ?_ | (refine iV_bx ?_; intro _ _ _ _) | (refine iV_al ?_; intro _ _ _ _) | (refine iV_mm ?_; intro _ _ _ _) | (refine iU_st ?_; intro _ _) | refine iHV_1 ?_ | refine iHV_N ?_ | refine iRI_1 ?_ | refine iRI_N ?_ | refine Cond_t ?_ | refine Cond_f ?_ | refine JB ?_ | (refine JC ?_; intro _ _ _ _) | (refine J1 ?_; intro _ _) | (refine J0 ?_; intro _ _) | (refine J2 ?_; intro _ _) | (refine J3 ?_; intro _ _) | (refine J4 ?_; intro _ _) | refine K1 ?_ | refine K0 ?_ | refine K2 ?_ | refine K3 ?_ | refine K4 ?_ | (refine CV_pu ?_; intro _ _ _ _) | refine fV_ldN ?_ | refine fV_ld1 ?_ | refine fHV_ldN ?_ | refine fHV_ld1 ?_ | refine NilW_some ?_ | refine iCW_1 ?_ | refine iCW_N ?_ | refine Pk_b ?_))
  refine Cond_d (fun h => ?_) (fun h => ?_)
  · have hlt : k < f.pend.length := by simp only [List.length_drop] at h; omega
    have hdl : (f.pend.drop k).length = (f.pend.drop (k + 1)).length + 1 := by simp only [List.length_drop]; omega
    have hdr := List.drop_eq_getElem_cons hlt
    obtain ⟨b, off, cs, rfl, ⟨rfl, hr⟩, hat⟩ := hel3 0 f.pend[k] (by rw [hdr]; rfl)
    rw [hdr] at hv2' hend
    have htail := hv2'.tail
    haveI : InR 0 ((f.pend.drop k).length : Nat) := ⟨by omega, by omega⟩
    haveI : InR 1 (((f.pend.drop k).length : Nat) + 1) := ⟨by omega, by omega⟩
    (repeat (first | (refine iDr ?_; intro _ _) | refine V_run ?_ | refine PV_run ?_ | refine HV_run ?_ | refine iV_ld1 ?_ | refine iV_ldN ?_ | (refine iV_bx ?_; intro _ _ _ _) | (refine iV_al ?_; intro _ _ _ _) | (refine iV_mm ?_; intro _ _ _ _) | (refine iU_st ?_; intro _ _) | refine iHV_1 ?_ | refine iHV_N ?_ | refine iRI_1 ?_ | refine iRI_N ?_ | refine Cond_t ?_ | refine Cond_f ?_ | refine JB ?_ | (refine JC ?_; intro _ _ _ _) | (refine J1 ?_; intro _ _) | (refine J0 ?_; intro _ _) | (refine J2 ?_; intro _ _) | (refine J3 ?_; intro _ _) | (refine J4 ?_; intro _ _) | refine K1 ?_ | refine K0 ?_ | refine K2 ?_ | refine K3 ?_ | refine K4 ?_ | (refine CV_pu ?_; intro _ _ _ _) | refine fV_ldN ?_ | refine fV_ld1 ?_ | refine fHV_ldN ?_ | refine fHV_ld1 ?_ | refine NilW_some ?_ | refine iCW_1 ?_ | refine iCW_N ?_ | refine Pk_b ?_))
    refine CV_now (n := pre.length) (o := ps.length) hlen.symm (by simp only [big]; omega) ?_
    intro w16 hS16
    (repeat (first | (refine iDr ?_; intro _ _) | refine V_run ?_ | refine PV_run ?_ | refine HV_run ?_ | refine iV_ld1 ?_ | refine iV_ldN ?_ | (refine iV_bx ?_; intro _ _ _ _) | (refine iV_al ?_; intro _ _ _ _) | (refine iV_mm ?_; intro _ _ _ _) | (refine iU_st ?_; intro _ _) | refine iHV_1 ?_ | refine iHV_N ?_ | refine iRI_1 ?_ | refine iRI_N ?_ | refine Cond_t ?_ | refine Cond_f ?_ | refine JB ?_ | (refine JC ?_; intro _ _ _ _) | (refine J1 ?_; intro _ _) | (refine J0 ?_; intro _ _) | (refine J2 ?_; intro _ _) | (refine J3 ?_; intro _ _) | (refine J4 ?_; intro _ _) | refine K1 ?_ | refine K0 ?_ | refine K2 ?_ | refine K3 ?_ | refine K4 ?_ | (refine CV_pu ?_; intro _ _ _ _) | refine fV_ldN ?_ | refine fV_ld1 ?_ | refine fHV_ldN ?_ | refine fHV_ld1 ?_ | refine NilW_some ?_ | refine iCW_1 ?_ | refine iCW_N ?_ | refine Pk_b ?_))
    refine zV_ldN (vs := f.pend[k].cells) (by simpa using hat) rfl ?_
    dsimp only [RaM.cells]
    refine iV_al ?_
    intro b17 w17 hb17 hS17
    (repeat (first | (refine iDr ?_; intro _ _) | refine V_run ?_ | refine PV_run ?_ | refine HV_run ?_ | refine iV_ld1 ?_ | refine iV_ldN ?_ | (refine iV_bx ?_; intro _ _ _ _) | (refine iV_al ?_; intro _ _ _ _) | (refine iV_mm ?_; intro _ _ _ _) | (refine iU_st ?_; intro _ _) | refine iHV_1 ?_ | refine iHV_N ?_ | refine iRI_1 ?_ | refine iRI_N ?_ | refine Cond_t ?_ | refine Cond_f ?_ | refine JB ?_ | (refine JC ?_; intro _ _ _ _) | (refine J1 ?_; intro _ _) | (refine J0 ?_; intro _ _) | (refine J2 ?_; intro _ _) | (refine J3 ?_; intro _ _) | (refine J4 ?_; intro _ _) | refine K1 ?_ | refine K0 ?_ | refine K2 ?_ | refine K3 ?_ | refine K4 ?_ | (refine CV_pu ?_; intro _ _ _ _) | refine fV_ldN ?_ | refine fV_ld1 ?_ | refine fHV_ldN ?_ | refine fHV_ld1 ?_ | refine NilW_some ?_ | refine iCW_1 ?_ | refine iCW_N ?_ | refine Pk_b ?_))
    rename_i hS18
    clear hS17 hS16 hS15 hS14
    have h1n : Int.toNat 1 = 1 := rfl
    rw [h1n] at hS18
    rw [← hdr] at htail
    have hro := hpc _ (List.getElem_mem hlt)
    have hrd : f.pend[k].desc.size ≤ big := hr
    generalize f.pend[k] = r at *
    generalize hrest : f.pend.drop (k + 1) = rest at *
    generalize hV : Value.slice (some ⟨b, if cap3 = 1 then off else off + 1 * 2, none⟩) ((f.pend.drop k).length - 1) (cap3 - 1) = V at hS18
    have htail : SlR El.raised z2 V rest := by rw [← hV]; rw [hdr] at htail ⊢; exact htail
    haveI : One V := by rw [← hV]; exact inferInstance
    refine hyp _ _ _ ?_ (Res.at_ (C := fun o => (b17, _) :: (l0, o) :: _) hS18)
    refine iV_al ?_
    intro b11 w19 hb11 hS19
    refine iU_st ?_
    intro w20 hS20
    refine iBegin ?_
    intro w21 hS21
    clear hS20 hS19
    refine J1cut (fun a w' => ∃ b12 z', a = .pointer (some ⟨b12, 0, none⟩) ∧ Le z2 z' ∧ Res w z B w' z' ((b12, .cells (f.tr r.cond).cells.toArray 73 (0, 0)) :: (b11, .cells r.cells.toArray 70 (0, 0)) :: (b17, .cells r.cells.toArray 70 (0, 0)) :: (l0, lobj lp .busy none) :: (r0, .deferred (some [])) :: (bp, .cells [.pointer (some ⟨mb, 0, none⟩)].toArray 113 (0, 0)) :: (b10, .cells [.int .i64 0, .string ⟨#[]⟩, .int .i64 0, .string ⟨#[]⟩].toArray 39 (0, 0)) :: (b9, .cells [.int .i64 0].toArray 31 (0, 0)) :: (b8, .cells [.int .i64 0, .string ⟨#[]⟩, .int .i64 0, .string ⟨#[]⟩].toArray 39 (0, 0)) :: (b4, .cells [.pointer (some ⟨mb, 0, none⟩)].toArray 113 (0, 0)) :: (mb, .cells [.slice (some ⟨fb, 0, none⟩) (pre.length + 1) cap].toArray 134 (0, 0)) :: (fb, .cells (ps ++ (.slice (some ⟨tb, 0, none⟩) 6 tcap :: V :: .int .i64 f.info.cond :: .int .i64 f.info.mode :: .string f.info.desc :: sp)).toArray 63 (0, 0)) :: [(tb, .cells (f.traps.flatMap TrM.cells ++ ts).toArray 73 (0, 0))])) ?_ ?_
    rotate_left
    · intro KJ2 hJ2
      obtain ⟨g1, g2, g3⟩ := tget h6 hro.1 hro.2 ts
      haveI : InR r.cond (6 : Nat) := ⟨hro.1, by omega⟩
      have gN := tgetN h6 hro.1 hro.2 ts
      (repeat (first | (refine iDr ?_; intro _ _) | refine V_run ?_ | refine PV_run ?_ | refine HV_run ?_ | refine iV_ld1 ?_ | refine iV_ldN ?_ | (refine iV_bx ?_; intro _ _ _ _) | (refine iV_al ?_; intro _ _ _ _) | (refine iV_mm ?_; intro _ _ _ _) | (refine iU_st ?_; intro _ _) | refine iHV_1 ?_ | refine iHV_N ?_ | refine iRI_1 ?_ | refine iRI_N ?_ | refine Cond_t ?_ | refine Cond_f ?_ | refine JB ?_ | (refine JC ?_; intro _ _ _ _) | (refine J1 ?_; intro _ _) | (refine J0 ?_; intro _ _) | (refine J2 ?_; intro _ _) | (refine J3 ?_; intro _ _) | (refine J4 ?_; intro _ _) | refine K1 ?_ | refine K0 ?_ | refine K2 ?_ | refine K3 ?_ | refine K4 ?_ | (refine CV_pu ?_; intro _ _ _ _) | refine fV_ldN ?_ | refine fV_ld1 ?_ | refine fHV_ldN ?_ | refine fHV_ld1 ?_ | refine NilW_some ?_ | refine iCW_1 ?_ | refine iCW_N ?_ | refine Pk_b ?_))
      refine ⟨?_, ?_⟩
      · refine CV_now (n := pre.length) (o := ps.length) hlen.symm (by simp only [big]; omega) ?_
        intro w23 hS23
        (repeat (first | (refine iDr ?_; intro _ _) | refine V_run ?_ | refine PV_run ?_ | refine HV_run ?_ | refine iV_ld1 ?_ | refine iV_ldN ?_ | (refine iV_bx ?_; intro _ _ _ _) | (refine iV_al ?_; intro _ _ _ _) | (refine iV_mm ?_; intro _ _ _ _) | (refine iU_st ?_; intro _ _) | refine iHV_1 ?_ | refine iHV_N ?_ | refine iRI_1 ?_ | refine iRI_N ?_ | refine Cond_t ?_ | refine Cond_f ?_ | refine JB ?_ | (refine JC ?_; intro _ _ _ _) | (refine J1 ?_; intro _ _) | (refine J0 ?_; intro _ _) | (refine J2 ?_; intro _ _) | (refine J3 ?_; intro _ _) | (refine J4 ?_; intro _ _) | refine K1 ?_ | refine K0 ?_ | refine K2 ?_ | refine K3 ?_ | refine K4 ?_ | (refine CV_pu ?_; intro _ _ _ _) | refine fV_ldN ?_ | refine fV_ld1 ?_ | refine fHV_ldN ?_ | refine fHV_ld1 ?_ | refine NilW_some ?_ | refine iCW_1 ?_ | refine iCW_N ?_ | refine Pk_b ?_))
        exact ⟨_, z2, rfl, Le.refl _, ‹_›⟩
      · (repeat (first | (refine iDr ?_; intro _ _) | refine V_run ?_ | refine PV_run ?_ | refine HV_run ?_ | refine iV_ld1 ?_ | refine iV_ldN ?_ | (refine iV_bx ?_; intro _ _ _ _) | (refine iV_al ?_; intro _ _ _ _) | (refine iV_mm ?_; intro _ _ _ _) | (refine iU_st ?_; intro _ _) | refine iHV_1 ?_ | refine iHV_N ?_ | refine iRI_1 ?_ | refine iRI_N ?_ | refine Cond_t ?_ | refine Cond_f ?_ | refine JB ?_ | (refine JC ?_; intro _ _ _ _) | (refine J1 ?_; intro _ _) | (refine J0 ?_; intro _ _) | (refine J2 ?_; intro _ _) | (refine J3 ?_; intro _ _) | (refine J4 ?_; intro _ _) | refine K1 ?_ | refine K0 ?_ | refine K2 ?_ | refine K3 ?_ | refine K4 ?_ | (refine CV_pu ?_; intro _ _ _ _) | refine fV_ldN ?_ | refine fV_ld1 ?_ | refine fHV_ldN ?_ | refine fHV_ld1 ?_ | refine NilW_some ?_ | refine iCW_1 ?_ | refine iCW_N ?_ | refine Pk_b ?_))
        refine CV_now (n := pre.length) (o := ps.length) hlen.symm (by simp only [big]; omega) ?_
        intro w23 hS23
        (repeat (first | (refine iDr ?_; intro _ _) | refine V_run ?_ | refine PV_run ?_ | refine HV_run ?_ | refine iV_ld1 ?_ | refine iV_ldN ?_ | (refine iV_bx ?_; intro _ _ _ _) | (refine iV_al ?_; intro _ _ _ _) | (refine iV_mm ?_; intro _ _ _ _) | (refine iU_st ?_; intro _ _) | refine iHV_1 ?_ | refine iHV_N ?_ | refine iRI_1 ?_ | refine iRI_N ?_ | refine Cond_t ?_ | refine Cond_f ?_ | refine JB ?_ | (refine JC ?_; intro _ _ _ _) | (refine J1 ?_; intro _ _) | (refine J0 ?_; intro _ _) | (refine J2 ?_; intro _ _) | (refine J3 ?_; intro _ _) | (refine J4 ?_; intro _ _) | refine K1 ?_ | refine K0 ?_ | refine K2 ?_ | refine K3 ?_ | refine K4 ?_ | (refine CV_pu ?_; intro _ _ _ _) | refine fV_ldN ?_ | refine fV_ld1 ?_ | refine fHV_ldN ?_ | refine fHV_ld1 ?_ | refine NilW_some ?_ | refine iCW_1 ?_ | refine iCW_N ?_ | refine Pk_b ?_))
        exact ⟨_, z2, rfl, Le.refl _, ‹_›⟩
    · clear hS21 hS18
      rintro _ w22 ⟨b12, z22, rfl, hz22, hS22⟩
      have hx22 := hx1.z (hz2.trans hz22)
      have htl22 := htail.mono hz22
      dsimp only [TrM.cells, RaM.cells] at hS22
      have hendr : endM (pre.length + 1) f f.pend = endM (pre.length + 1) f (r :: rest) := hend
      simp only [endM] at hendr
      (repeat (first | (refine iDr ?_; intro _ _) | refine V_run ?_ | refine PV_run ?_ | refine HV_run ?_ | refine iV_ld1 ?_ | refine iV_ldN ?_ | (refine iV_bx ?_; intro _ _ _ _) | (refine iV_al ?_; intro _ _ _ _) | (refine iV_mm ?_; intro _ _ _ _) | (refine iU_st ?_; intro _ _) | refine iHV_1 ?_ | refine iHV_N ?_ | refine iRI_1 ?_ | refine iRI_N ?_ | refine Cond_t ?_ | refine Cond_f ?_ | refine JB ?_ | (refine JC ?_; intro _ _ _ _) | (refine J1 ?_; intro _ _) | (refine J0 ?_; intro _ _) | (refine J2 ?_; intro _ _) | (refine J3 ?_; intro _ _) | (refine J4 ?_; intro _ _) | refine K1 ?_ | refine K0 ?_ | refine K2 ?_ | refine K3 ?_ | refine K4 ?_ | (refine CV_pu ?_; intro _ _ _ _) | refine fV_ldN ?_ | refine fV_ld1 ?_ | refine fHV_ldN ?_ | refine fHV_ld1 ?_ | refine NilW_some ?_ | refine iCW_1 ?_ | refine iCW_N ?_ | refine Pk_b ?_))
      refine Cond_b (fun hsk => ?_) (fun hsk => ?_)
      · have hsk' : (f.tr r.cond).mode = 0 ∨ (f.tr r.cond).delayed = true := by
          simp only [cond_eq_ite] at hsk
          by_cases e : (f.tr r.cond).mode = 0 <;> simp [e] at hsk ⊢
          exact hsk
        rw [if_pos hsk'] at hendr
        refine iEnd (st := .busy) (pend := none) ?_
        intro w23 hS23
        (repeat (first | (refine iDr ?_; intro _ _) | refine V_run ?_ | refine PV_run ?_ | refine HV_run ?_ | refine iV_ld1 ?_ | refine iV_ldN ?_ | (refine iV_bx ?_; intro _ _ _ _) | (refine iV_al ?_; intro _ _ _ _) | (refine iV_mm ?_; intro _ _ _ _) | (refine iU_st ?_; intro _ _) | refine iHV_1 ?_ | refine iHV_N ?_ | refine iRI_1 ?_ | refine iRI_N ?_ | refine Cond_t ?_ | refine Cond_f ?_ | refine JB ?_ | (refine JC ?_; intro _ _ _ _) | (refine J1 ?_; intro _ _) | (refine J0 ?_; intro _ _) | (refine J2 ?_; intro _ _) | (refine J3 ?_; intro _ _) | (refine J4 ?_; intro _ _) | refine K1 ?_ | refine K0 ?_ | refine K2 ?_ | refine K3 ?_ | refine K4 ?_ | (refine CV_pu ?_; intro _ _ _ _) | refine fV_ldN ?_ | refine fV_ld1 ?_ | refine fHV_ldN ?_ | refine fHV_ld1 ?_ | refine NilW_some ?_ | refine iCW_1 ?_ | refine iCW_N ?_ | refine Pk_b ?_))
        have hle := ‹Le z22 _›
        refine back (k + 1) _ ⟨by omega, by rw [hendr, hrest], _, V, (hz2.trans hz22).trans hle, by rw [hrest]; exact htl22.mono hle, Res.tl (Res.tl (Res.tl hS23))⟩ (by omega)
      · have hsk' : ¬ ((f.tr r.cond).mode = 0 ∨ (f.tr r.cond).delayed = true) := by
          simp only [cond_eq_ite] at hsk
          by_cases e : (f.tr r.cond).mode = 0 <;> simp [e] at hsk ⊢
          exact hsk
        rw [if_neg hsk'] at hendr
        (repeat (first | (refine iDr ?_; intro _ _) | refine V_run ?_ | refine PV_run ?_ | refine HV_run ?_ | refine iV_ld1 ?_ | refine iV_ldN ?_ | (refine iV_bx ?_; intro _ _ _ _) | (refine iV_al ?_; intro _ _ _ _) | (refine iV_mm ?_; intro _ _ _ _) | (refine iU_st ?_; intro _ _) | refine iHV_1 ?_ | refine iHV_N ?_ | refine iRI_1 ?_ | refine iRI_N ?_ | refine Cond_t ?_ | refine Cond_f ?_ | refine JB ?_ | (refine JC ?_; intro _ _ _ _) | (refine J1 ?_; intro _ _) | (refine J0 ?_; intro _ _) | (refine J2 ?_; intro _ _) | (refine J3 ?_; intro _ _) | (refine J4 ?_; intro _ _) | refine K1 ?_ | refine K0 ?_ | refine K2 ?_ | refine K3 ?_ | refine K4 ?_ | (refine CV_pu ?_; intro _ _ _ _) | refine fV_ldN ?_ | refine fV_ld1 ?_ | refine fHV_ldN ?_ | refine fHV_ld1 ?_ | refine NilW_some ?_ | refine iCW_1 ?_ | refine iCW_N ?_ | refine Pk_b ?_))
        refine Cond_d (fun hm1 => ?_) (fun hm1 => ?_)
        · rw [if_pos hm1] at hendr
          (repeat (first | (refine iDr ?_; intro _ _) | refine V_run ?_ | refine PV_run ?_ | refine HV_run ?_ | refine iV_ld1 ?_ | refine iV_ldN ?_ | (refine iV_bx ?_; intro _ _ _ _) | (refine iV_al ?_; intro _ _ _ _) | (refine iV_mm ?_; intro _ _ _ _) | (refine iU_st ?_; intro _ _) | refine iHV_1 ?_ | refine iHV_N ?_ | refine iRI_1 ?_ | refine iRI_N ?_ | refine Cond_t ?_ | refine Cond_f ?_ | refine JB ?_ | (refine JC ?_; intro _ _ _ _) | (refine J1 ?_; intro _ _) | (refine J0 ?_; intro _ _) | (refine J2 ?_; intro _ _) | (refine J3 ?_; intro _ _) | (refine J4 ?_; intro _ _) | refine K1 ?_ | refine K0 ?_ | refine K2 ?_ | refine K3 ?_ | refine K4 ?_ | (refine CV_pu ?_; intro _ _ _ _) | refine fV_ldN ?_ | refine fV_ld1 ?_ | refine fHV_ldN ?_ | refine fHV_ld1 ?_ | refine NilW_some ?_ | refine iCW_1 ?_ | refine iCW_N ?_ | refine Pk_b ?_))
          rename_i hSe
          have hle := ‹Le z22 _›
          refine CV_fn (B := mxB mb fb tb (pre.length + 1) ps sp ts cap tcap f [] V) (F := [(b12, _), (b11, _), (b17, _), (l0, lobj lp .busy none), (r0, .deferred (some [])), (bp, _), (b10, .cells [.int .i64 0, .string ⟨#[]⟩, .int .i64 0, .string ⟨#[]⟩].toArray 39 (0, 0)), (b9, .cells [.int .i64 0].toArray 31 (0, 0)), (b8, .cells [.int .i64 0, .string ⟨#[]⟩, .int .i64 0, .string ⟨#[]⟩].toArray 39 (0, 0)), (b4, _)]) (hSe.perm (List.perm_append_comm (l₁ := [(b12, _), (b11, _), (b17, _), (l0, _), (r0, _), (bp, _), (b10, _), (b9, _), (b8, _), (b4, _)]) (l₂ := mxB mb fb tb (pre.length + 1) ps sp ts cap tcap f [] V))) (signalP rfl (hx22.z hle) hro.1 hro.2 hpre hrd) (by simp) ?_
          rintro z13 B13 w13 v13 hle13 hS13 ⟨rfl, hM⟩
          dsimp only [AcM.v, AcM.cells] at *
          (repeat (first | (refine iDr ?_; intro _ _) | refine V_run ?_ | refine PV_run ?_ | refine HV_run ?_ | refine iV_ld1 ?_ | refine iV_ldN ?_ | (refine iV_bx ?_; intro _ _ _ _) | (refine iV_al ?_; intro _ _ _ _) | (refine iV_mm ?_; intro _ _ _ _) | (refine iU_st ?_; intro _ _) | refine iHV_1 ?_ | refine iHV_N ?_ | refine iRI_1 ?_ | refine iRI_N ?_ | refine Cond_t ?_ | refine Cond_f ?_ | refine JB ?_ | (refine JC ?_; intro _ _ _ _) | (refine J1 ?_; intro _ _) | (refine J0 ?_; intro _ _) | (refine J2 ?_; intro _ _) | (refine J3 ?_; intro _ _) | (refine J4 ?_; intro _ _) | refine K1 ?_ | refine K0 ?_ | refine K2 ?_ | refine K3 ?_ | refine K4 ?_ | (refine CV_pu ?_; intro _ _ _ _) | refine fV_ldN ?_ | refine fV_ld1 ?_ | refine fHV_ldN ?_ | refine fHV_ld1 ?_ | refine NilW_some ?_ | refine iCW_1 ?_ | refine iCW_N ?_ | refine Pk_b ?_))
          refine iEnd (st := .busy) (pend := none) ?_
          intro w23 hS23
          (repeat (first | (refine iDr ?_; intro _ _) | refine V_run ?_ | refine PV_run ?_ | refine HV_run ?_ | refine iV_ld1 ?_ | refine iV_ldN ?_ | (refine iV_bx ?_; intro _ _ _ _) | (refine iV_al ?_; intro _ _ _ _) | (refine iV_mm ?_; intro _ _ _ _) | (refine iU_st ?_; intro _ _) | refine iHV_1 ?_ | refine iHV_N ?_ | refine iRI_1 ?_ | refine iRI_N ?_ | refine Cond_t ?_ | refine Cond_f ?_ | refine JB ?_ | (refine JC ?_; intro _ _ _ _) | (refine J1 ?_; intro _ _) | (refine J0 ?_; intro _ _) | (refine J2 ?_; intro _ _) | (refine J3 ?_; intro _ _) | (refine J4 ?_; intro _ _) | refine K1 ?_ | refine K0 ?_ | refine K2 ?_ | refine K3 ?_ | refine K4 ?_ | (refine CV_pu ?_; intro _ _ _ _) | refine fV_ldN ?_ | refine fV_ld1 ?_ | refine fHV_ldN ?_ | refine fHV_ld1 ?_ | refine NilW_some ?_ | refine iCW_1 ?_ | refine iCW_N ?_ | refine Pk_b ?_))
          refine iRfEnd (st := .done) (pend := some (.exit 0)) (by intro h; cases h) ?_
          intro w24 hS24
          show KJ [.iface r0 undef] w24
          refine K1 ?_
          (repeat (first | (refine iDr ?_; intro _ _) | refine V_run ?_ | refine PV_run ?_ | refine HV_run ?_ | refine iV_ld1 ?_ | refine iV_ldN ?_ | (refine iV_bx ?_; intro _ _ _ _) | (refine iV_al ?_; intro _ _ _ _) | (refine iV_mm ?_; intro _ _ _ _) | (refine iU_st ?_; intro _ _) | refine iHV_1 ?_ | refine iHV_N ?_ | refine iRI_1 ?_ | refine iRI_N ?_ | refine Cond_t ?_ | refine Cond_f ?_ | refine JB ?_ | (refine JC ?_; intro _ _ _ _) | (refine J1 ?_; intro _ _) | (refine J0 ?_; intro _ _) | (refine J2 ?_; intro _ _) | (refine J3 ?_; intro _ _) | (refine J4 ?_; intro _ _) | refine K1 ?_ | refine K0 ?_ | refine K2 ?_ | refine K3 ?_ | refine K4 ?_ | (refine CV_pu ?_; intro _ _ _ _) | refine fV_ldN ?_ | refine fV_ld1 ?_ | refine fHV_ldN ?_ | refine fHV_ld1 ?_ | refine NilW_some ?_ | refine iCW_1 ?_ | refine iCW_N ?_ | refine Pk_b ?_))
          refine iTakeW ?_
          refine iTake ?_
          intro w25 hS25
          (repeat (first | (refine iDr ?_; intro _ _) | refine V_run ?_ | refine PV_run ?_ | refine HV_run ?_ | refine iV_ld1 ?_ | refine iV_ldN ?_ | (refine iV_bx ?_; intro _ _ _ _) | (refine iV_al ?_; intro _ _ _ _) | (refine iV_mm ?_; intro _ _ _ _) | (refine iU_st ?_; intro _ _) | refine iHV_1 ?_ | refine iHV_N ?_ | refine iRI_1 ?_ | refine iRI_N ?_ | refine Cond_t ?_ | refine Cond_f ?_ | refine JB ?_ | (refine JC ?_; intro _ _ _ _) | (refine J1 ?_; intro _ _) | (refine J0 ?_; intro _ _) | (refine J2 ?_; intro _ _) | (refine J3 ?_; intro _ _) | (refine J4 ?_; intro _ _) | refine K1 ?_ | refine K0 ?_ | refine K2 ?_ | refine K3 ?_ | refine K4 ?_ | (refine CV_pu ?_; intro _ _ _ _) | refine fV_ldN ?_ | refine fV_ld1 ?_ | refine fHV_ldN ?_ | refine fHV_ld1 ?_ | refine NilW_some ?_ | refine iCW_1 ?_ | refine iCW_N ?_ | refine Pk_b ?_))
          obtain ⟨z26, B26, hS26, hMR⟩ := Mach.toR (hS25.sublist (List.sublist_append_left _ _)) hM
          exact ⟨z26, B26, hS26, by rw [hendr, OpR, if_pos rfl]; exact ⟨rfl, hMR⟩⟩
        · rw [if_neg hm1] at hendr
          (repeat (first | (refine iDr ?_; intro _ _) | refine V_run ?_ | refine PV_run ?_ | refine HV_run ?_ | refine iV_ld1 ?_ | refine iV_ldN ?_ | (refine iV_bx ?_; intro _ _ _ _) | (refine iV_al ?_; intro _ _ _ _) | (refine iV_mm ?_; intro _ _ _ _) | (refine iU_st ?_; intro _ _) | refine iHV_1 ?_ | refine iHV_N ?_ | refine iRI_1 ?_ | refine iRI_N ?_ | refine Cond_t ?_ | refine Cond_f ?_ | refine JB ?_ | (refine JC ?_; intro _ _ _ _) | (refine J1 ?_; intro _ _) | (refine J0 ?_; intro _ _) | (refine J2 ?_; intro _ _) | (refine J3 ?_; intro _ _) | (refine J4 ?_; intro _ _) | refine K1 ?_ | refine K0 ?_ | refine K2 ?_ | refine K3 ?_ | refine K4 ?_ | (refine CV_pu ?_; intro _ _ _ _) | refine fV_ldN ?_ | refine fV_ld1 ?_ | refine fHV_ldN ?_ | refine fHV_ld1 ?_ | refine NilW_some ?_ | refine iCW_1 ?_ | refine iCW_N ?_ | refine Pk_b ?_))
          refine Cond_d (fun h30 => ?_) (fun h30 => ?_)
          · rw [if_pos (by omega)] at hendr
            (repeat (first | (refine iDr ?_; intro _ _) | refine V_run ?_ | refine PV_run ?_ | refine HV_run ?_ | refine iV_ld1 ?_ | refine iV_ldN ?_ | (refine iV_bx ?_; intro _ _ _ _) | (refine iV_al ?_; intro _ _ _ _) | (refine iV_mm ?_; intro _ _ _ _) | (refine iU_st ?_; intro _ _) | refine iHV_1 ?_ | refine iHV_N ?_ | refine iRI_1 ?_ | refine iRI_N ?_ | refine Cond_t ?_ | refine Cond_f ?_ | refine JB ?_ | (refine JC ?_; intro _ _ _ _) | (refine J1 ?_; intro _ _) | (refine J0 ?_; intro _ _) | (refine J2 ?_; intro _ _) | (refine J3 ?_; intro _ _) | (refine J4 ?_; intro _ _) | refine K1 ?_ | refine K0 ?_ | refine K2 ?_ | refine K3 ?_ | refine K4 ?_ | (refine CV_pu ?_; intro _ _ _ _) | refine fV_ldN ?_ | refine fV_ld1 ?_ | refine fHV_ldN ?_ | refine fHV_ld1 ?_ | refine NilW_some ?_ | refine iCW_1 ?_ | refine iCW_N ?_ | refine Pk_b ?_))
            refine iEnd (st := .busy) (pend := none) ?_
            intro w23 hS23
            (repeat (first | (refine iDr ?_; intro _ _) | refine V_run ?_ | refine PV_run ?_ | refine HV_run ?_ | refine iV_ld1 ?_ | refine iV_ldN ?_ | (refine iV_bx ?_; intro _ _ _ _) | (refine iV_al ?_; intro _ _ _ _) | (refine iV_mm ?_; intro _ _ _ _) | (refine iU_st ?_; intro _ _) | refine iHV_1 ?_ | refine iHV_N ?_ | refine iRI_1 ?_ | refine iRI_N ?_ | refine Cond_t ?_ | refine Cond_f ?_ | refine JB ?_ | (refine JC ?_; intro _ _ _ _) | (refine J1 ?_; intro _ _) | (refine J0 ?_; intro _ _) | (refine J2 ?_; intro _ _) | (refine J3 ?_; intro _ _) | (refine J4 ?_; intro _ _) | refine K1 ?_ | refine K0 ?_ | refine K2 ?_ | refine K3 ?_ | refine K4 ?_ | (refine CV_pu ?_; intro _ _ _ _) | refine fV_ldN ?_ | refine fV_ld1 ?_ | refine fHV_ldN ?_ | refine fHV_ld1 ?_ | refine NilW_some ?_ | refine iCW_1 ?_ | refine iCW_N ?_ | refine Pk_b ?_))
            refine iRfEnd (st := .done) (pend := some .ret) (by intro h; cases h) ?_
            intro w24 hS24
            dsimp only [jumpK]
            refine iTake ?_
            intro w25 hS25
            (repeat (first | (refine iDr ?_; intro _ _) | refine V_run ?_ | refine PV_run ?_ | refine HV_run ?_ | refine iV_ld1 ?_ | refine iV_ldN ?_ | (refine iV_bx ?_; intro _ _ _ _) | (refine iV_al ?_; intro _ _ _ _) | (refine iV_mm ?_; intro _ _ _ _) | (refine iU_st ?_; intro _ _) | refine iHV_1 ?_ | refine iHV_N ?_ | refine iRI_1 ?_ | refine iRI_N ?_ | refine Cond_t ?_ | refine Cond_f ?_ | refine JB ?_ | (refine JC ?_; intro _ _ _ _) | (refine J1 ?_; intro _ _) | (refine J0 ?_; intro _ _) | (refine J2 ?_; intro _ _) | (refine J3 ?_; intro _ _) | (refine J4 ?_; intro _ _) | refine K1 ?_ | refine K0 ?_ | refine K2 ?_ | refine K3 ?_ | refine K4 ?_ | (refine CV_pu ?_; intro _ _ _ _) | refine fV_ldN ?_ | refine fV_ld1 ?_ | refine fHV_ldN ?_ | refine fHV_ld1 ?_ | refine NilW_some ?_ | refine iCW_1 ?_ | refine iCW_N ?_ | refine Pk_b ?_))
            exact ⟨_, _, ‹_›, by rw [hendr]; simp only [OpR]; rfl⟩
          · rw [if_neg (by omega)] at hendr
            rename_i hSe
            have hle := ‹Le z22 _›
            obtain ⟨z23, hz23, hS23, hfr, hv1⟩ := trapsFreeze (L := [(b12, _), (b11, _), (b17, _), (l0, _), (r0, _), (bp, _), (b10, _), (b9, _), (b8, _), (b4, _), (mb, _), (fb, _)]) (hx22.z hle) (hSe.perm (List.perm_append_comm (l₁ := [(b12, _), (b11, _), (b17, _), (l0, _), (r0, _), (bp, _), (b10, _), (b9, _), (b8, _), (b4, _), (mb, _), (fb, _)]) (l₂ := [(tb, _)])))
            clear hSe hS22
            have htl23 := htl22.mono (hle.trans hz23)
            refine J1cut (fun a w' => ∃ b13 tb3 ts3 cap4 z', a = .pointer (some ⟨b13, 0, none⟩) ∧ Le z23 z' ∧ (6 ≤ cap4 ∧ cap4 ≤ maxLen ∧ 18 + ts3.length = cap4 * 3) ∧ Res w z B w' z' ((b13, .cells [.slice (some ⟨tb3, 0, none⟩) 6 cap4, .slice none 0 0, .int .i64 r.cond, .int .i64 2, .string r.desc].toArray 63 (0, 0)) :: (tb3, .cells (f.traps.flatMap TrM.cells ++ ts3).toArray 73 (0, 0)) :: [(b12, .cells [.int .i64 (f.tr r.cond).mode, .string (f.tr r.cond).label, .bool (f.tr r.cond).delayed].toArray 73 (0, 0)), (b11, .cells [.int .i64 r.cond, .string r.desc].toArray 70 (0, 0)), (b17, .cells [.int .i64 r.cond, .string r.desc].toArray 70 (0, 0)), (l0, lobj lp .busy none), (r0, .deferred (some [])), (bp, .cells [.pointer (some ⟨mb, 0, none⟩)].toArray 113 (0, 0)), (b10, .cells [.int .i64 0, .string ⟨#[]⟩, .int .i64 0, .string ⟨#[]⟩].toArray 39 (0, 0)), (b9, .cells [.int .i64 0].toArray 31 (0, 0)), (b8, .cells [.int .i64 0, .string ⟨#[]⟩, .int .i64 0, .string ⟨#[]⟩].toArray 39 (0, 0)), (b4, .cells [.pointer (some ⟨mb, 0, none⟩)].toArray 113 (0, 0)), (mb, .cells [.slice (some ⟨fb, 0, none⟩) (pre.length + 1) cap].toArray 134 (0, 0)), (fb, .cells (ps ++ (.slice (some ⟨tb, 0, none⟩) 6 tcap :: V :: .int .i64 f.info.cond :: .int .i64 f.info.mode :: .string f.info.desc :: sp)).toArray 63 (0, 0))])) ?_ ?_
            rotate_left
            · intro KJ3 hJ3
              have hclone : ∀ (w' : World) (L' : Bl) (K : Value → World → Prop), Res w z B w' z23 L' → (∀ tb3 ts3 cap4 z' w'', Le z23 z' → (6 ≤ cap4 ∧ cap4 ≤ maxLen ∧ 18 + ts3.length = cap4 * 3) → Res w z B w'' z' ((tb3, .cells (f.traps.flatMap TrM.cells ++ ts3).toArray 73 (0, 0)) :: L') → K (.slice (some ⟨tb3, 0, none⟩) 6 cap4) w'') → CV (.func (.func 31) #[] #[]) #[.slice (some ⟨tb, 0, none⟩) 6 tcap] w' K := fun w' L' K hR hk => by
                refine CV_fn0 (fun _ => cloneTraps hv1 (by omega)) ?_
                rintro z24 B24 w24 v24 hle24 hS24 ho24
                rcases ho24.2 with ⟨_, _, h0⟩ | ⟨tb3, cap4, ts3, rfl, rfl, l1, l2, l3⟩
                · omega
                · rw [h6] at l1 ⊢
                  have hfl := ho24.1
                  rw [List.length_append, hfl, h6] at l3
                  exact hk _ _ _ _ _ hle24 ⟨l1, l2, by omega⟩ hS24
              (repeat (first | (refine iDr ?_; intro _ _) | refine V_run ?_ | refine PV_run ?_ | refine HV_run ?_ | refine iV_ld1 ?_ | refine iV_ldN ?_ | (refine iV_bx ?_; intro _ _ _ _) | (refine iV_al ?_; intro _ _ _ _) | (refine iV_mm ?_; intro _ _ _ _) | (refine iU_st ?_; intro _ _) | refine iHV_1 ?_ | refine iHV_N ?_ | refine iRI_1 ?_ | refine iRI_N ?_ | refine Cond_t ?_ | refine Cond_f ?_ | refine JB ?_ | (refine JC ?_; intro _ _ _ _) | (refine J1 ?_; intro _ _) | (refine J0 ?_; intro _ _) | (refine J2 ?_; intro _ _) | (refine J3 ?_; intro _ _) | (refine J4 ?_; intro _ _) | refine K1 ?_ | refine K0 ?_ | refine K2 ?_ | refine K3 ?_ | refine K4 ?_ | (refine CV_pu ?_; intro _ _ _ _) | refine fV_ldN ?_ | refine fV_ld1 ?_ | refine fHV_ldN ?_ | refine fHV_ld1 ?_ | refine NilW_some ?_ | refine iCW_1 ?_ | refine iCW_N ?_ | refine Pk_b ?_))
              refine ⟨?_, ?_⟩
              · refine CV_now (n := pre.length) (o := ps.length) hlen.symm (by simp only [big]; omega) ?_
                intro w24 hS24
                (repeat (first | (refine iDr ?_; intro _ _) | refine V_run ?_ | refine PV_run ?_ | refine HV_run ?_ | refine iV_ld1 ?_ | refine iV_ldN ?_ | (refine iV_bx ?_; intro _ _ _ _) | (refine iV_al ?_; intro _ _ _ _) | (refine iV_mm ?_; intro _ _ _ _) | (refine iU_st ?_; intro _ _) | refine iHV_1 ?_ | refine iHV_N ?_ | refine iRI_1 ?_ | refine iRI_N ?_ | refine Cond_t ?_ | refine Cond_f ?_ | refine JB ?_ | (refine JC ?_; intro _ _ _ _) | (refine J1 ?_; intro _ _) | (refine J0 ?_; intro _ _) | (refine J2 ?_; intro _ _) | (refine J3 ?_; intro _ _) | (refine J4 ?_; intro _ _) | refine K1 ?_ | refine K0 ?_ | refine K2 ?_ | refine K3 ?_ | refine K4 ?_ | (refine CV_pu ?_; intro _ _ _ _) | refine fV_ldN ?_ | refine fV_ld1 ?_ | refine fHV_ldN ?_ | refine fHV_ld1 ?_ | refine NilW_some ?_ | refine iCW_1 ?_ | refine iCW_N ?_ | refine Pk_b ?_))
                refine ⟨?_, ?_⟩
                · refine hclone _ _ _ ‹_› ?_
                  intro tb3 ts3 cap4 z25 w25 hz25 hcc hS25
                  (repeat (first | (refine iDr ?_; intro _ _) | refine V_run ?_ | refine PV_run ?_ | refine HV_run ?_ | refine iV_ld1 ?_ | refine iV_ldN ?_ | (refine iV_bx ?_; intro _ _ _ _) | (refine iV_al ?_; intro _ _ _ _) | (refine iV_mm ?_; intro _ _ _ _) | (refine iU_st ?_; intro _ _) | refine iHV_1 ?_ | refine iHV_N ?_ | refine iRI_1 ?_ | refine iRI_N ?_ | refine Cond_t ?_ | refine Cond_f ?_ | refine JB ?_ | (refine JC ?_; intro _ _ _ _) | (refine J1 ?_; intro _ _) | (refine J0 ?_; intro _ _) | (refine J2 ?_; intro _ _) | (refine J3 ?_; intro _ _) | (refine J4 ?_; intro _ _) | refine K1 ?_ | refine K0 ?_ | refine K2 ?_ | refine K3 ?_ | refine K4 ?_ | (refine CV_pu ?_; intro _ _ _ _) | refine fV_ldN ?_ | refine fV_ld1 ?_ | refine fHV_ldN ?_ | refine fHV_ld1 ?_ | refine NilW_some ?_ | refine iCW_1 ?_ | refine iCW_N ?_ | refine Pk_b ?_))
                  exact ⟨_, tb3, ts3, cap4, z25, rfl, hz25, hcc, ‹_›⟩
                · (repeat (first | (refine iDr ?_; intro _ _) | refine V_run ?_ | refine PV_run ?_ | refine HV_run ?_ | refine iV_ld1 ?_ | refine iV_ldN ?_ | (refine iV_bx ?_; intro _ _ _ _) | (refine iV_al ?_; intro _ _ _ _) | (refine iV_mm ?_; intro _ _ _ _) | (refine iU_st ?_; intro _ _) | refine iHV_1 ?_ | refine iHV_N ?_ | refine iRI_1 ?_ | refine iRI_N ?_ | refine Cond_t ?_ | refine Cond_f ?_ | refine JB ?_ | (refine JC ?_; intro _ _ _ _) | (refine J1 ?_; intro _ _) | (refine J0 ?_; intro _ _) | (refine J2 ?_; intro _ _) | (refine J3 ?_; intro _ _) | (refine J4 ?_; intro _ _) | refine K1 ?_ | refine K0 ?_ | refine K2 ?_ | refine K3 ?_ | refine K4 ?_ | (refine CV_pu ?_; intro _ _ _ _) | refine fV_ldN ?_ | refine fV_ld1 ?_ | refine fHV_ldN ?_ | refine fHV_ld1 ?_ | refine NilW_some ?_ | refine iCW_1 ?_ | refine iCW_N ?_ | refine Pk_b ?_))
                  refine hclone _ _ _ ‹_› ?_
                  intro tb3 ts3 cap4 z25 w25 hz25 hcc hS25
                  (repeat (first | (refine iDr ?_; intro _ _) | refine V_run ?_ | refine PV_run ?_ | refine HV_run ?_ | refine iV_ld1 ?_ | refine iV_ldN ?_ | (refine iV_bx ?_; intro _ _ _ _) | (refine iV_al ?_; intro _ _ _ _) | (refine iV_mm ?_; intro _ _ _ _) | (refine iU_st ?_; intro _ _) | refine iHV_1 ?_ | refine iHV_N ?_ | refine iRI_1 ?_ | refine iRI_N ?_ | refine Cond_t ?_ | refine Cond_f ?_ | refine JB ?_ | (refine JC ?_; intro _ _ _ _) | (refine J1 ?_; intro _ _) | (refine J0 ?_; intro _ _) | (refine J2 ?_; intro _ _) | (refine J3 ?_; intro _ _) | (refine J4 ?_; intro _ _) | refine K1 ?_ | refine K0 ?_ | refine K2 ?_ | refine K3 ?_ | refine K4 ?_ | (refine CV_pu ?_; intro _ _ _ _) | refine fV_ldN ?_ | refine fV_ld1 ?_ | refine fHV_ldN ?_ | refine fHV_ld1 ?_ | refine NilW_some ?_ | refine iCW_1 ?_ | refine iCW_N ?_ | refine Pk_b ?_))
                  rename_i hSq
                  exact ⟨_, tb3, ts3, cap4, z25, rfl, hz25, hcc, hSq.perm (.swap _ _ _)⟩
              · (repeat (first | (refine iDr ?_; intro _ _) | refine V_run ?_ | refine PV_run ?_ | refine HV_run ?_ | refine iV_ld1 ?_ | refine iV_ldN ?_ | (refine iV_bx ?_; intro _ _ _ _) | (refine iV_al ?_; intro _ _ _ _) | (refine iV_mm ?_; intro _ _ _ _) | (refine iU_st ?_; intro _ _) | refine iHV_1 ?_ | refine iHV_N ?_ | refine iRI_1 ?_ | refine iRI_N ?_ | refine Cond_t ?_ | refine Cond_f ?_ | refine JB ?_ | (refine JC ?_; intro _ _ _ _) | (refine J1 ?_; intro _ _) | (refine J0 ?_; intro _ _) | (refine J2 ?_; intro _ _) | (refine J3 ?_; intro _ _) | (refine J4 ?_; intro _ _) | refine K1 ?_ | refine K0 ?_ | refine K2 ?_ | refine K3 ?_ | refine K4 ?_ | (refine CV_pu ?_; intro _ _ _ _) | refine fV_ldN ?_ | refine fV_ld1 ?_ | refine fHV_ldN ?_ | refine fHV_ld1 ?_ | refine NilW_some ?_ | refine iCW_1 ?_ | refine iCW_N ?_ | refine Pk_b ?_))
                refine CV_now (n := pre.length) (o := ps.length) hlen.symm (by simp only [big]; omega) ?_
                intro w24 hS24
                (repeat (first | (refine iDr ?_; intro _ _) | refine V_run ?_ | refine PV_run ?_ | refine HV_run ?_ | refine iV_ld1 ?_ | refine iV_ldN ?_ | (refine iV_bx ?_; intro _ _ _ _) | (refine iV_al ?_; intro _ _ _ _) | (refine iV_mm ?_; intro _ _ _ _) | (refine iU_st ?_; intro _ _) | refine iHV_1 ?_ | refine iHV_N ?_ | refine iRI_1 ?_ | refine iRI_N ?_ | refine Cond_t ?_ | refine Cond_f ?_ | refine JB ?_ | (refine JC ?_; intro _ _ _ _) | (refine J1 ?_; intro _ _) | (refine J0 ?_; intro _ _) | (refine J2 ?_; intro _ _) | (refine J3 ?_; intro _ _) | (refine J4 ?_; intro _ _) | refine K1 ?_ | refine K0 ?_ | refine K2 ?_ | refine K3 ?_ | refine K4 ?_ | (refine CV_pu ?_; intro _ _ _ _) | refine fV_ldN ?_ | refine fV_ld1 ?_ | refine fHV_ldN ?_ | refine fHV_ld1 ?_ | refine NilW_some ?_ | refine iCW_1 ?_ | refine iCW_N ?_ | refine Pk_b ?_))
                refine hclone _ _ _ ‹_› ?_
                intro tb3 ts3 cap4 z25 w25 hz25 hcc hS25
                (repeat (first | (refine iDr ?_; intro _ _) | refine V_run ?_ | refine PV_run ?_ | refine HV_run ?_ | refine iV_ld1 ?_ | refine iV_ldN ?_ | (refine iV_bx ?_; intro _ _ _ _) | (refine iV_al ?_; intro _ _ _ _) | (refine iV_mm ?_; intro _ _ _ _) | (refine iU_st ?_; intro _ _) | refine iHV_1 ?_ | refine iHV_N ?_ | refine iRI_1 ?_ | refine iRI_N ?_ | refine Cond_t ?_ | refine Cond_f ?_ | refine JB ?_ | (refine JC ?_; intro _ _ _ _) | (refine J1 ?_; intro _ _) | (refine J0 ?_; intro _ _) | (refine J2 ?_; intro _ _) | (refine J3 ?_; intro _ _) | (refine J4 ?_; intro _ _) | refine K1 ?_ | refine K0 ?_ | refine K2 ?_ | refine K3 ?_ | refine K4 ?_ | (refine CV_pu ?_; intro _ _ _ _) | refine fV_ldN ?_ | refine fV_ld1 ?_ | refine fHV_ldN ?_ | refine fHV_ld1 ?_ | refine NilW_some ?_ | refine iCW_1 ?_ | refine iCW_N ?_ | refine Pk_b ?_))
                rename_i hSq
                exact ⟨_, tb3, ts3, cap4, z25, rfl, hz25, hcc, hSq.perm (.swap _ _ _)⟩
            · rintro _ w25 ⟨b13, tb3, ts3, cap4, z25, rfl, hz25, hcc, hS25⟩
              obtain ⟨tp, tq, hsp, htl, hput⟩ := FrM.split h6 hro.1 hro.2
              have hoff : r.cond.toNat * 3 = (tp.flatMap TrM.cells).length := by rw [flat_len (f := TrM.cells) (n := 3) (fun _ => rfl), htl]
              haveI : InR r.cond (6 : Nat) := ⟨hro.1, by omega⟩
              have hfl : f.traps.flatMap TrM.cells ++ ts3 = tp.flatMap TrM.cells ++ (.int .i64 (f.tr r.cond).mode :: .string (f.tr r.cond).label :: .bool (f.tr r.cond).delayed :: (tq.flatMap TrM.cells ++ ts3)) := by
                conv => lhs; rw [hsp]
                simp only [List.flatMap_append, List.flatMap_cons, TrM.cells, List.append_assoc, List.cons_append, List.nil_append]
              rw [hfl] at hS25
              generalize htps : tp.flatMap TrM.cells = tps at *
              (repeat (first | (refine iDr ?_; intro _ _) | refine V_run ?_ | refine PV_run ?_ | refine HV_run ?_ | refine iV_ld1 ?_ | refine iV_ldN ?_ | (refine iV_bx ?_; intro _ _ _ _) | (refine iV_al ?_; intro _ _ _ _) | (refine iV_mm ?_; intro _ _ _ _) | (refine iU_st ?_; intro _ _) | refine iHV_1 ?_ | refine iHV_N ?_ | refine iRI_1 ?_ | refine iRI_N ?_ | refine Cond_t ?_ | refine Cond_f ?_ | refine JB ?_ | (refine JC ?_; intro _ _ _ _) | (refine J1 ?_; intro _ _) | (refine J0 ?_; intro _ _) | (refine J2 ?_; intro _ _) | (refine J3 ?_; intro _ _) | (refine J4 ?_; intro _ _) | refine K1 ?_ | refine K0 ?_ | refine K2 ?_ | refine K3 ?_ | refine K4 ?_ | (refine CV_pu ?_; intro _ _ _ _) | refine fV_ldN ?_ | refine fV_ld1 ?_ | refine fHV_ldN ?_ | refine fHV_ld1 ?_ | refine NilW_some ?_ | refine iCW_1 ?_ | refine iCW_N ?_ | refine Pk_b ?_))
              rw [hoff]
              (repeat (first | (refine iDr ?_; intro _ _) | refine V_run ?_ | refine PV_run ?_ | refine HV_run ?_ | refine iV_ld1 ?_ | refine iV_ldN ?_ | (refine iV_bx ?_; intro _ _ _ _) | (refine iV_al ?_; intro _ _ _ _) | (refine iV_mm ?_; intro _ _ _ _) | (refine iU_st ?_; intro _ _) | refine iHV_1 ?_ | refine iHV_N ?_ | refine iRI_1 ?_ | refine iRI_N ?_ | refine Cond_t ?_ | refine Cond_f ?_ | refine JB ?_ | (refine JC ?_; intro _ _ _ _) | (refine J1 ?_; intro _ _) | (refine J0 ?_; intro _ _) | (refine J2 ?_; intro _ _) | (refine J3 ?_; intro _ _) | (refine J4 ?_; intro _ _) | refine K1 ?_ | refine K0 ?_ | refine K2 ?_ | refine K3 ?_ | refine K4 ?_ | (refine CV_pu ?_; intro _ _ _ _) | refine fV_ldN ?_ | refine fV_ld1 ?_ | refine fHV_ldN ?_ | refine fHV_ld1 ?_ | refine NilW_some ?_ | refine iCW_1 ?_ | refine iCW_N ?_ | refine Pk_b ?_))
              refine V_bs (parts := [(0, _)]) rfl (by omega) ?_
              intro b26 w26 hb26 hS26
              (repeat (first | (refine iDr ?_; intro _ _) | refine V_run ?_ | refine PV_run ?_ | refine HV_run ?_ | refine iV_ld1 ?_ | refine iV_ldN ?_ | (refine iV_bx ?_; intro _ _ _ _) | (refine iV_al ?_; intro _ _ _ _) | (refine iV_mm ?_; intro _ _ _ _) | (refine iU_st ?_; intro _ _) | refine iHV_1 ?_ | refine iHV_N ?_ | refine iRI_1 ?_ | refine iRI_N ?_ | refine Cond_t ?_ | refine Cond_f ?_ | refine JB ?_ | (refine JC ?_; intro _ _ _ _) | (refine J1 ?_; intro _ _) | (refine J0 ?_; intro _ _) | (refine J2 ?_; intro _ _) | (refine J3 ?_; intro _ _) | (refine J4 ?_; intro _ _) | refine K1 ?_ | refine K0 ?_ | refine K2 ?_ | refine K3 ?_ | refine K4 ?_ | (refine CV_pu ?_; intro _ _ _ _) | refine fV_ldN ?_ | refine fV_ld1 ?_ | refine fHV_ldN ?_ | refine fHV_ld1 ?_ | refine NilW_some ?_ | refine iCW_1 ?_ | refine iCW_N ?_ | refine Pk_b ?_))
              have hcap := hx.cap
              refine V_app (B := [(fb, _)]) (m := 1) (n := pre.length + 1) (xs := ps ++ ([.slice (some ⟨tb, 0, none⟩) 6 tcap, V] ++ f.info.cells)) (news := [.slice (some ⟨tb3, 0, none⟩) 6 cap4, .slice none 0 0, .int .i64 r.cond, .int .i64 2, .string r.desc]) (hS26.perm (List.perm_append_comm (l₁ := [_, _, _, _, _, _, _, _, _, _, _, _, _, _]) (l₂ := [(fb, _)]))) ⟨by simp; omega, .inr ⟨fb, cap, sp, by simp, rfl, hcap.1, hcap.2.1, by simp; omega⟩⟩ ⟨_, _, _, (hS26.mem _ List.mem_cons_self).1, fun j v hv => by simpa using hv⟩ rfl (fun u hu => by simp at hu; rcases hu with rfl | rfl | rfl | rfl | rfl <;> rfl) (by omega) (by simp only [room]; omega) (by simp only [room]; omega) ?_
              intro B5 v5 w27 ho5 hS27
              obtain ⟨a5, cap5, rfl, hc5⟩ := ho5.form
              (repeat (first | (refine iDr ?_; intro _ _) | refine V_run ?_ | refine PV_run ?_ | refine HV_run ?_ | refine iV_ld1 ?_ | refine iV_ldN ?_ | (refine iV_bx ?_; intro _ _ _ _) | (refine iV_al ?_; intro _ _ _ _) | (refine iV_mm ?_; intro _ _ _ _) | (refine iU_st ?_; intro _ _) | refine iHV_1 ?_ | refine iHV_N ?_ | refine iRI_1 ?_ | refine iRI_N ?_ | refine Cond_t ?_ | refine Cond_f ?_ | refine JB ?_ | (refine JC ?_; intro _ _ _ _) | (refine J1 ?_; intro _ _) | (refine J0 ?_; intro _ _) | (refine J2 ?_; intro _ _) | (refine J3 ?_; intro _ _) | (refine J4 ?_; intro _ _) | refine K1 ?_ | refine K0 ?_ | refine K2 ?_ | refine K3 ?_ | refine K4 ?_ | (refine CV_pu ?_; intro _ _ _ _) | refine fV_ldN ?_ | refine fV_ld1 ?_ | refine fHV_ldN ?_ | refine fHV_ld1 ?_ | refine NilW_some ?_ | refine iCW_1 ?_ | refine iCW_N ?_ | refine Pk_b ?_))
              refine iEnd (st := .busy) (pend := none) ?_
              intro w28 hS28
              (repeat (first | (refine iDr ?_; intro _ _) | refine V_run ?_ | refine PV_run ?_ | refine HV_run ?_ | refine iV_ld1 ?_ | refine iV_ldN ?_ | (refine iV_bx ?_; intro _ _ _ _) | (refine iV_al ?_; intro _ _ _ _) | (refine iV_mm ?_; intro _ _ _ _) | (refine iU_st ?_; intro _ _) | refine iHV_1 ?_ | refine iHV_N ?_ | refine iRI_1 ?_ | refine iRI_N ?_ | refine Cond_t ?_ | refine Cond_f ?_ | refine JB ?_ | (refine JC ?_; intro _ _ _ _) | (refine J1 ?_; intro _ _) | (refine J0 ?_; intro _ _) | (refine J2 ?_; intro _ _) | (refine J3 ?_; intro _ _) | (refine J4 ?_; intro _ _) | refine K1 ?_ | refine K0 ?_ | refine K2 ?_ | refine K3 ?_ | refine K4 ?_ | (refine CV_pu ?_; intro _ _ _ _) | refine fV_ldN ?_ | refine fV_ld1 ?_ | refine fHV_ldN ?_ | refine fHV_ld1 ?_ | refine NilW_some ?_ | refine iCW_1 ?_ | refine iCW_N ?_ | refine Pk_b ?_))
              refine iRfEnd (st := .done) (pend := some (.exit 0)) (by intro h; cases h) ?_
              intro w29 hS29
              show KJ [.iface r0 undef] w29
              refine K1 ?_
              (repeat (first | (refine iDr ?_; intro _ _) | refine V_run ?_ | refine PV_run ?_ | refine HV_run ?_ | refine iV_ld1 ?_ | refine iV_ldN ?_ | (refine iV_bx ?_; intro _ _ _ _) | (refine iV_al ?_; intro _ _ _ _) | (refine iV_mm ?_; intro _ _ _ _) | (refine iU_st ?_; intro _ _) | refine iHV_1 ?_ | refine iHV_N ?_ | refine iRI_1 ?_ | refine iRI_N ?_ | refine Cond_t ?_ | refine Cond_f ?_ | refine JB ?_ | (refine JC ?_; intro _ _ _ _) | (refine J1 ?_; intro _ _) | (refine J0 ?_; intro _ _) | (refine J2 ?_; intro _ _) | (refine J3 ?_; intro _ _) | (refine J4 ?_; intro _ _) | refine K1 ?_ | refine K0 ?_ | refine K2 ?_ | refine K3 ?_ | refine K4 ?_ | (refine CV_pu ?_; intro _ _ _ _) | refine fV_ldN ?_ | refine fV_ld1 ?_ | refine fHV_ldN ?_ | refine fHV_ld1 ?_ | refine NilW_some ?_ | refine iCW_1 ?_ | refine iCW_N ?_ | refine Pk_b ?_))
              refine iTakeW ?_
              refine iTake ?_
              intro w30 hS30
              (repeat (first | (refine iDr ?_; intro _ _) | refine V_run ?_ | refine PV_run ?_ | refine HV_run ?_ | refine iV_ld1 ?_ | refine iV_ldN ?_ | (refine iV_bx ?_; intro _ _ _ _) | (refine iV_al ?_; intro _ _ _ _) | (refine iV_mm ?_; intro _ _ _ _) | (refine iU_st ?_; intro _ _) | refine iHV_1 ?_ | refine iHV_N ?_ | refine iRI_1 ?_ | refine iRI_N ?_ | refine Cond_t ?_ | refine Cond_f ?_ | refine JB ?_ | (refine JC ?_; intro _ _ _ _) | (refine J1 ?_; intro _ _) | (refine J0 ?_; intro _ _) | (refine J2 ?_; intro _ _) | (refine J3 ?_; intro _ _) | (refine J4 ?_; intro _ _) | refine K1 ?_ | refine K0 ?_ | refine K2 ?_ | refine K3 ?_ | refine K4 ?_ | (refine CV_pu ?_; intro _ _ _ _) | refine fV_ldN ?_ | refine fV_ld1 ?_ | refine fHV_ldN ?_ | refine fHV_ld1 ?_ | refine NilW_some ?_ | refine iCW_1 ?_ | refine iCW_N ?_ | refine Pk_b ?_))
              have hz1z : Le z1 z25 := (((hz2.trans hz22).trans hle).trans hz23).trans hz25
              have hS31 := hS30.end14
              have hgt : (f.put r.cond { f.tr r.cond with delayed := true }).traps = tp ++ { f.tr r.cond with delayed := true } :: tq := hput _
              have hg6 : (f.put r.cond { f.tr r.cond with delayed := true }).traps.length = 6 := by simp [FrM.put, h6]
              have hmach : Mach z25 ((mb, .cells [.slice a5 (pre.length + 1 + 1) cap5].toArray 134 (0, 0)) :: (B5 ++ [(tb3, .cells ((f.put r.cond { f.tr r.cond with delayed := true }).traps.flatMap TrM.cells ++ ts3).toArray 73 (0, 0))])) mb (pre ++ callF f r rest) := by
                refine (⟨B5, [(tb3, _)], _, _, rfl, ?_, .inr ⟨pre ++ [({ f with pend := rest } : FrM)], ⟨(f.put r.cond { f.tr r.cond with delayed := true }).traps, [], ⟨r.cond, 2, r.desc⟩⟩, ps ++ ([.slice (some ⟨tb, 0, none⟩) 6 tcap, V] ++ f.info.cells), [.slice (some ⟨tb3, 0, none⟩) 6 cap4, .slice none 0 0, .int .i64 r.cond, .int .i64 2, .string r.desc], by simp [callF, FrM.put], rfl, FrsR.snoc (f := ({ f with pend := rest } : FrM)) (cs := [.slice (some ⟨tb, 0, none⟩) 6 tcap, V] ++ f.info.cells) ⟨_, _, rfl, hv1.mono hz25, htl23.mono hz25, hx.sm.2.2.2.2⟩ (FrsR.mono hz25 hfr), ⟨[(tb3, _)], [], _, _, by simp, rfl, ⟨?_, .inr ⟨tb3, cap4, ts3, rfl, ?_, ?_, hcc.2.1, ?_⟩⟩, OwnSl.nil⟩, ?_, by simp, ?_, by simp, hrd⟩⟩ : Mach z25 ((mb, _) :: (B5 ++ [(tb3, .cells ((f.put r.cond { f.tr r.cond with delayed := true }).traps.flatMap TrM.cells ++ ts3).toArray 73 (0, 0))])) mb (pre ++ callF f r rest))
                · simp only [callF, List.length_append, List.length_cons, List.length_nil, List.append_assoc, List.cons_append, List.nil_append, InM.cells] at ho5 ⊢
                  exact ho5
                · rw [flat_len (f := TrM.cells) (n := 3) (fun _ => rfl)]
                · rw [hg6]
                · rw [hg6]; exact hcc.1
                · rw [List.length_append, flat_len (f := TrM.cells) (n := 3) (fun _ => rfl), hg6]; exact hcc.2.2
                · rw [hg6]; decide
                · intro u hu
                  rw [hgt] at hu
                  rcases List.mem_append.1 hu with hu | hu
                  · exact q3 u (by rw [hsp]; exact List.mem_append_left _ hu)
                  · rcases List.mem_cons.1 hu with rfl | hu
                    · exact q3 (f.tr r.cond) (by rw [hsp]; exact List.mem_append_right _ List.mem_cons_self)
                    · exact q3 u (by rw [hsp]; exact List.mem_append_right _ (List.mem_cons_of_mem _ hu))
              rw [hgt, List.flatMap_append, List.flatMap_cons, htps, List.append_assoc] at hmach
              obtain ⟨z32, B32, hS32, hMR⟩ := Mach.toR hS31 hmach
              exact ⟨z32, B32, hS32, by rw [hendr, OpR, if_pos rfl]; exact ⟨rfl, hMR⟩⟩
  · refine iRfEnd (st := .ready) (by intro h; cases h) ?_
    intro w16 hS16
    show KJ [.iface r0 undef] w16
    refine K1 ?_
    (repeat (first | (refine iDr ?_; intro _ _) | refine V_run ?_ | refine PV_run ?_ | refine HV_run ?_ | refine iV_ld1 ?_ | refine iV_ldN ?_ | (refine iV_bx ?_; intro _ _ _ _) | (refine iV_al ?_; intro _ _ _ _) | (refine iV_mm ?_; intro _ _ _ _) | (refine iU_st ?_; intro _ _) | refine iHV_1 ?_ | refine iHV_N ?_ | refine iRI_1 ?_ | refine iRI_N ?_ | refine Cond_t ?_ | refine Cond_f ?_ | refine JB ?_ | (refine JC ?_; intro _ _ _ _) | (refine J1 ?_; intro _ _) | (refine J0 ?_; intro _ _) | (refine J2 ?_; intro _ _) | (refine J3 ?_; intro _ _) | (refine J4 ?_; intro _ _) | refine K1 ?_ | refine K0 ?_ | refine K2 ?_ | refine K3 ?_ | refine K4 ?_ | (refine CV_pu ?_; intro _ _ _ _) | refine fV_ldN ?_ | refine fV_ld1 ?_ | refine fHV_ldN ?_ | refine fHV_ld1 ?_ | refine NilW_some ?_ | refine iCW_1 ?_ | refine iCW_N ?_ | refine Pk_b ?_))
    refine iTakeW ?_
    refine iTake ?_
    intro w17 hS17
    (repeat (first | (refine iDr ?_; intro _ _) | refine V_run ?_ | refine PV_run ?_ | refine HV_run ?_ | refine iV_ld1 ?_ | refine iV_ldN ?_ | (refine iV_bx ?_; intro _ _ _ _) | (refine iV_al ?_; intro _ _ _ _) | (refine iV_mm ?_; intro _ _ _ _) | (refine iU_st ?_; intro _ _) | refine iHV_1 ?_ | refine iHV_N ?_ | refine iRI_1 ?_ | refine iRI_N ?_ | refine Cond_t ?_ | refine Cond_f ?_ | refine JB ?_ | (refine JC ?_; intro _ _ _ _) | (refine J1 ?_; intro _ _) | (refine J0 ?_; intro _ _) | (refine J2 ?_; intro _ _) | (refine J3 ?_; intro _ _) | (refine J4 ?_; intro _ _) | refine K1 ?_ | refine K0 ?_ | refine K2 ?_ | refine K3 ?_ | refine K4 ?_ | (refine CV_pu ?_; intro _ _ _ _) | refine fV_ldN ?_ | refine fV_ld1 ?_ | refine fHV_ldN ?_ | refine fHV_ld1 ?_ | refine NilW_some ?_ | refine iCW_1 ?_ | refine iCW_N ?_ | refine Pk_b ?_))
    have h0 : f.pend.drop k = [] := List.eq_nil_of_length_eq_zero (by omega)
    rw [h0] at hend hv2'
    obtain ⟨z3, B3, hS18, hM⟩ := topR (l := []) (hx1.z hz2) (by simpa [h0] using hv2') (hS17.sublist (L' := [(mb, _), (fb, _), (tb, _)]) (((((((List.Sublist.refl _).cons _).cons _).cons _).cons _).cons _).cons _ |>.cons _))
    refine ⟨z3, B3, hS18, ?_⟩
    rw [hend, OpR, endM, if_pos rfl]
    exact ⟨rfl, hM⟩)
end Go.Proofs.Ytjnckainogpenaa
