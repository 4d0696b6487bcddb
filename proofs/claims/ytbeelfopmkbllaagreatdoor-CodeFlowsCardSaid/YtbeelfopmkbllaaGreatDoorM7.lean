/- Texts joined: C61, C62, C63, C47, C64, K1, K2. -/
import Derived.Test.YtbeelfopmkbllaaGreatDoorM6
import Derived.Test.YtbeelfopmkbllaaGreatDoorM5
import Derived.Test.YtbeelfopmkbllaaGreatDoorRows
import Derived.WalkKit
import Derived.ProofKit
import Derived.OpenShut
import Derived.Carry
import Derived.Deep.Slices
import Derived.ChangeMaps5
import Derived.LaidMore
import Derived.Lay
set_option linter.unusedSimpArgs false
set_option linter.unusedVariables false
set_option linter.unusedSectionVars false
set_option maxRecDepth 100000
set_option synthInstance.maxHeartbeats 4000000
set_option synthInstance.maxSize 20000
set_option maxHeartbeats 2000000
namespace Go.Proofs.YtbeelfopmkbllaaGreatDoor
section
open Go Q Go.RowKit
structure RchI (c : CodeM) (r : RcM) : Prop where
  len : r.set.length = c.ins.length
  op : ∀ a ∈ r.open_, a < c.ins.length
  size : r.open_.length + 2 * r.set.count false ≤ 3001 + 2 * c.ins.length
  cl : ∀ a, r.set.getD a false = true → ∀ x ∈ toL c a, r.set.getD x false = true ∨ x ∈ r.open_
  sub : ∀ a, r.set.getD a false = true → (reachM c).getD a false = true
  subo : ∀ a ∈ r.open_, (reachM c).getD a false = true
  root : ∀ x ∈ rootsM c, r.set.getD x false = true ∨ x ∈ r.open_
theorem nextL_len {c : CodeM} {a : Nat} : (nextL c a).length ≤ 2 := by
  have := @foldT_len (leadsM c.ins.length a (insAt c a)) 2
  unfold nextL
  rw [List.take_of_length_le leadsM_len] at this
  exact this
theorem RchI.pop {c : CodeM} {s : List Bool} {l : List Nat} {a : Nat} (h : RchI c ⟨s, l ++ [a]⟩) (hs : s.getD a false = true) : RchI c ⟨s, l⟩ := by
  have hin : ∀ x, (s.getD x false = true ∨ x ∈ l ++ [a]) → (s.getD x false = true ∨ x ∈ l) := fun x hx => by
    rcases hx with hx | hx
    · exact .inl hx
    · rcases List.mem_append.1 hx with hx | hx
      · exact .inr hx
      · rw [List.mem_singleton.1 hx]; exact .inl hs
  refine ⟨h.len, fun x hx => h.op x (by simp [hx]), ?_, fun b hb x hx => hin x (h.cl b hb x hx), h.sub, fun x hx => h.subo x (by simp [hx]), fun x hx => hin x (h.root x hx)⟩
  have := h.size; simp only [List.length_append, List.length_singleton] at this; simp only; omega
theorem RchI.step {c : CodeM} {s : List Bool} {l : List Nat} {a : Nat} (hb : reachBad c = false) (h : RchI c ⟨s, l ++ [a]⟩) (hs : s.getD a false = false) : RchI c ⟨s.set a true, l ++ nextL c a⟩ ∧ meaR ⟨s.set a true, l ++ nextL c a⟩ < meaR ⟨s, l ++ [a]⟩ := by
  have hlt := h.op a (by simp)
  have hsl : s.length = c.ins.length := h.len
  have hc := countF_set (l := s) (by omega) hs
  have hn := @nextL_len c a
  have ha := h.subo a (by simp)
  have hget : ∀ x, (s.set a true).getD x false = true ↔ x = a ∨ s.getD x false = true := fun x => getD_set (by omega)
  have hin : ∀ x, (s.getD x false = true ∨ x ∈ l ++ [a]) → ((s.set a true).getD x false = true ∨ x ∈ l ++ nextL c a) := fun x hx => by
    rw [hget, List.mem_append]
    rcases hx with hx | hx
    · exact .inl (.inr hx)
    · rcases List.mem_append.1 hx with hx | hx
      · exact .inr (.inl hx)
      · exact .inl (.inl (List.mem_singleton.1 hx))
  have hsz := h.size
  simp only [List.length_append, List.length_singleton] at hsz
  refine ⟨⟨by simpa using hsl, fun x hx => ?_, ?_, fun b hb2 x hx => ?_, fun b hb2 => ?_, fun x hx => ?_, fun x hx => hin x (h.root x hx)⟩, ?_⟩
  · rcases List.mem_append.1 hx with hx | hx
    · exact h.op x (by simp [hx])
    · exact toL_lt x (mem_nextL.1 hx)
  · simp only [List.length_append]; omega
  · simp only at hb2
    rw [hget] at hb2
    rcases hb2 with rfl | hb2
    · exact .inr (List.mem_append_right _ (mem_nextL.2 hx))
    · exact hin x (h.cl b hb2 x hx)
  · simp only at hb2
    rw [hget] at hb2
    rcases hb2 with rfl | hb2
    · exact ha
    · exact h.sub b hb2
  · rcases List.mem_append.1 hx with hx | hx
    · exact h.subo x (by simp [hx])
    · exact (reach_spec hb).2.1 a ha x (mem_nextL.1 hx)
  · unfold meaR; simp only [List.length_append, List.length_singleton]; omega
theorem RchI.fin {c : CodeM} {s : List Bool} (hb : reachBad c = false) (h : RchI c ⟨s, []⟩) : s = reachM c := by
  have hl := (reach_spec hb).1
  have hsl : s.length = c.ins.length := h.len
  have key : ∀ a, (reachM c).getD a false = true → s.getD a false = true := by
    unfold reachM
    rw [hb, if_neg (by simp)]
    obtain ⟨hi, _⟩ := startR_inv hb
    refine runR_least (S := fun a => s.getD a false = true) (fun a ha n hn => (h.cl a ha n hn).elim id fun e => by cases e) _ _ hi.len hi.op (fun a ha => ?_) (fun a ha => (h.root a ha).elim id fun e => by cases e)
    simp only [List.getD_eq_getElem?_getD, List.getElem?_replicate] at ha
    split at ha <;> simp at ha
  apply List.ext_getElem?
  intro i
  by_cases hi : i < c.ins.length
  · have h1 := h.sub i
    have h2 := key i
    simp only at h1
    rw [List.getD_eq_getElem?_getD, List.getD_eq_getElem?_getD, List.getElem?_eq_getElem (by omega), List.getElem?_eq_getElem (by omega)] at h1 h2
    rw [List.getElem?_eq_getElem (by omega), List.getElem?_eq_getElem (by omega)]
    simp only [Option.getD_some] at h1 h2
    congr 1
    rw [Bool.eq_iff_iff]
    exact ⟨h1, h2⟩
  · rw [List.getElem?_eq_none (by omega), List.getElem?_eq_none (by omega)]
theorem RchI.init {c : CodeM} (hb : reachBad c = false) : RchI c ⟨List.replicate c.ins.length false, rootsM c⟩ := by
  obtain ⟨h1, h2⟩ := startR_inv hb
  have hno : ∀ a, (List.replicate c.ins.length false).getD a false = true → False := fun a ha => by
    simp only [List.getD_eq_getElem?_getD, List.getElem?_replicate] at ha
    split at ha <;> simp at ha
  exact ⟨h1.len, h1.op, h1.size, fun a ha => (hno a ha).elim, fun a ha => (hno a ha).elim, (reach_spec hb).2.2, fun x hx => .inr hx⟩
theorem ofNats_flat (l : List Nat) : (ofNats l).flatMap (fun x => [Value.int .i64 x]) = intsV l := intsV_flat l
theorem intsV_len (l : List Nat) : (intsV l).length = l.length := by simp [intsV]
theorem V_appL {w0 w : World} {z0 z : Z} {B0 L : Bl} {K : Value → World → Prop} {bo cap : Nat} {C : List Value} {l m : List Nat} {v : Value} (hS : Res w0 z0 B0 w z ((bo, .cells C.toArray 3 (0, 0)) :: L)) (ho : OwnSl 3 1 [(bo, .cells C.toArray 3 (0, 0))] (.slice (some ⟨bo, 0, none⟩) l.length cap) l.length (intsV l))
    (hv : SlR El.int z v (ofNats m)) (hb : l.length + m.length ≤ 100000) (hk : ∀ B' v' w', OwnSl 3 1 B' v' (l ++ m).length (intsV (l ++ m)) → Res w0 z0 B0 w' z (B' ++ L) → K v' w') : V (Builtin.append_ #[45, 45] 45 #[.slice (some ⟨bo, 0, none⟩) l.length cap, v]) w K := by
  cases m with
  | nil =>
    obtain ⟨_, a, c', rfl, _, _⟩ := hv.form
    obtain ⟨h1, h2⟩ := ho
    rcases h2 with ⟨h2, _⟩ | ⟨b', cap', sp, e1, e2, h3, h4, h5⟩
    · cases h2
    · cases e1
      cases e2
      refine V_app0 (xs := intsV l) (sp := sp) (cap := cap) hS ?_ (by rw [intsV_len]; omega) h3 ?_
      · exact h5
      · exact hk _ _ _ (by rw [List.append_nil]; exact ⟨h1, .inr ⟨bo, cap, sp, rfl, rfl, h3, h4, h5⟩⟩) hS
  | cons x m =>
    obtain ⟨b, off, cv, rfl, _, hat⟩ := hv.all (fun x => [Value.int .i64 x]) (fun _ _ _ h => h) (by simp [ofNats])
    rw [ofNats_flat] at hat
    have hS2 : Res w0 z0 B0 w z ([(bo, .cells C.toArray 3 (0, 0))] ++ L) := hS
    have hlm : (x :: m).length = m.length + 1 := rfl
    rw [ofNats_len]
    generalize hM : (x :: m) = M at *
    refine V_app (B := [(bo, .cells C.toArray 3 (0, 0))]) (L := L) (n := l.length) (m := M.length) (xs := intsV l) (news := intsV M) hS2 ho (hat.world hS.sub) (by rw [intsV_len, Nat.mul_one]) (fun u hu => ?_) (by omega) (by simp only [room]; omega) (by simp only [room]; omega) ?_
    · obtain ⟨k, _, rfl⟩ := List.mem_map.1 hu; rfl
    · intro B' v' w' ho' hS'
      refine hk B' v' w' ?_ hS'
      rw [List.length_append, intsV_append]; exact ho'
theorem refReach_of {z : Z} {w : World} {v : Value} {c : CodeM} (hc : CodeR z v c) : Fn1 26 #[v] z w fun z' r => SlR El.bool z' r (reachM c) := Fn1.intro fun hS => en26 (by
  unfold vc26
  obtain ⟨a1, a2, a3, a4, a5, a6, k1, k2, k3, k4, k5, k6, rfl, h1, h2, h3, h4, h5, h6⟩ := hc.form
  haveI := inI_len h6.big
  refine iV_bx ?_
  intro bc w1 hbc hS1
  obtain ⟨zc, hzc, hS2, hatc⟩ := hS1.frz bc
  generalize hRR : (fun (v : Value) (w' : World) => ∃ z' L', Res w z [] w' z' L' ∧ SlR El.bool z' v (reachM c)) = RR
  have hR : ∀ z' w' L' r, Res w1 zc [] w' z' L' → SlR El.bool z' r (reachM c) → RR r w' := fun z' w' L' r k hd => by rw [← hRR]; exact ⟨z', L', hS2.comp k, hd⟩
  clear hRR
  have hS3 := hS2.self
  clear hS hS1 hS2
  haveI : Fz zc bc 0 (codeVs a1 a2 a3 a4 a5 a6 k1 k2 k3 k4 k5 k6 c) := ⟨hatc⟩
  haveI : Fz zc bc 3 [.slice a4 c.labels.length k4] := ⟨hatc.fld (i := 3) rfl rfl⟩
  haveI : Fz zc bc 5 [.slice a6 c.ins.length k6] := ⟨hatc.fld (i := 5) rfl rfl⟩
  refine V_run ?_
  refine fV_ld1 ?_
  refine V_run ?_
  refine V_run ?_
  have hbad : (decide ((c.ins.length : Int) > 12000) || (decide ((c.labels.length : Int) > 3000) || decide ((c.ins.length : Int) = 0))) = reachBad c := by
    rw [reachBad, show decide ((c.ins.length : Int) > 12000) = decide (c.ins.length > 12000) from decide_eq_decide.2 (by omega), show decide ((c.labels.length : Int) > 3000) = decide (c.labels.length > 3000) from decide_eq_decide.2 (by omega), show decide ((c.ins.length : Int) = 0) = decide (c.ins.length = 0) from decide_eq_decide.2 (by omega)]
  intro Ka hKa
  have ma : ∀ p : Bool, (p || decide ((c.ins.length : Int) = 0)) = reachBad c → Ka [.bool p] w1 := by
    intro p hp
    refine hKa _ _ fun _ => ?_
    clear hKa hbad
    intro Kb hKb
    have mb : ∀ q : Bool, q = reachBad c → Kb [.bool q] w1 := by
      intro q hq
      refine hKb _ _ fun _ => ?_
      clear hKb
      rw [hq]
      refine Cond_b (fun e => ?_) (fun e => ?_)
      · exact hR _ _ _ _ hS3 (by rw [reachM, if_pos e]; exact SlR.nil)
      have hbd := reachBad_iff.1 e
      have hinit := RchI.init e
      (repeat (first | refine V_run ?_ | refine fV_ld1 ?_))
      refine iV_ms (by omega) (by omega) ?_
      intro bs w5 hbs hS5
      rw [zerosB_eq] at hS5
      refine V_bs (parts := [(0, _)]) rfl (by omega) ?_
      intro br w6 hbr hS6
      clear hS3 hS5
      refine LoopG2 (fun (k : Nat) x y w' => y = .int .i64 k ∧ k ≤ c.labels.length ∧ ∃ B' z', Le zc z' ∧ OwnSl 3 1 B' x (rootsK c k).length (intsV (rootsK c k)) ∧ Res w1 zc [] w' z' (B' ++ [(bs, .cells (boolsV (List.replicate c.ins.length false)).toArray 4 (0, 0))])) (fun k => c.labels.length - k) 0
        ⟨rfl, by omega, [(br, .cells ([Value.int .i64 0] ++ []).toArray 3 (0, 0))], _, Le.refl _, ⟨rfl, .inr ⟨br, 1, [], rfl, rfl, Nat.le_refl 1, by decide, rfl⟩⟩, hS6⟩ ?_
      rintro I M k x y w7 m ⟨rfl, hk, B7, z7, hz7, ho, hS7⟩ back
      clear hS6
      (repeat (first | refine V_run ?_ | refine fV_ld1 ?_))
      refine Cond_d (fun h => ?_) (fun h => ?_)
      · have hlt : k < c.labels.length := by omega
        haveI : InR (k : Int) (c.labels.length : Nat) := ⟨by omega, by omega⟩
        haveI : InI ((k : Int) + 1) := ⟨by omega⟩
        intro Kc hKc
        obtain ⟨_, a, kk, he, _, hel⟩ := h4.form
        cases he
        obtain ⟨b, off, cs, rfl, ⟨rfl, hs⟩, hat⟩ := hel k _ (List.getElem?_eq_getElem hlt)
        haveI : Fz zc b (off + (k : Int).toNat * 2 + 1) [.int .i64 c.labels[k].at_] := ⟨(hat.mono hzc).fld (i := 1) rfl rfl⟩
        have hlen := @rootsK_le c k
        have hsucc := rootsK_succ hlt
        generalize c.labels[k] = S at *
        (repeat (first | (refine iDr ?_; intro _ _) | refine PV_run ?_ | (refine CV_pu ?_; intro _ _ _ _) | refine fRI_1 ?_ | refine fHV_ld1 ?_))
        rename_i hS8
        refine Cond_b (fun e => ?_) (fun e => ?_)
        · have e2 : rootOk c S = true := e
          have e3 := inB_iff.1 e
          have hat2 : ((S.at_.toNat : Nat) : Int) = S.at_ := by omega
          (repeat (first | refine V_run ?_ | refine fV_ld1 ?_))
          refine V_push hS8 ho (by simp only [room]; omega) (by simp only [room]; omega) (by decide) ?_
          intro B9 v9 w9 ho9 hS9
          refine hKc _ _ fun _ => ?_
          (repeat (refine V_run ?_))
          refine back (k + 1) _ _ _ ⟨by simp, by omega, B9, _, ?_, ?_, hS9⟩ (by omega)
          · (repeat (exact Res.zle (by assumption)))
          · rw [hsucc, if_pos e2, intsV_append]
            simpa [intsV, hat2] using ho9
        · have e2 : ¬ rootOk c S = true := by rw [show rootOk c S = false from e]; simp
          refine hKc _ _ fun _ => ?_
          (repeat (refine V_run ?_))
          refine back (k + 1) _ _ _ ⟨by simp, by omega, B7, _, ?_, ?_, hS8⟩ (by omega)
          · (repeat (exact Res.zle (by assumption)))
          · rw [hsucc, if_neg e2, List.append_nil]
            exact ho
      have hk2 : k = c.labels.length := by omega
      subst hk2
      clear back
      refine LoopG1 (fun (r : RcM) x w' => RchI c r ∧ ∃ B' z', Le zc z' ∧ OwnSl 3 1 B' x r.open_.length (intsV r.open_) ∧ Res w1 zc [] w' z' (B' ++ [(bs, .cells (boolsV r.set).toArray 4 (0, 0))])) meaR ⟨List.replicate c.ins.length false, rootsM c⟩
        ⟨hinit, B7, z7, hz7, ho, hS7⟩ ?_
      rintro I M ⟨s, op⟩ x w10 m ⟨hinv, B10, z10, hz10, ho10, hS10⟩ back
      simp only at ho10 hS10
      clear hS7 ho
      have hlen : s.length = c.ins.length := hinv.len
      have hsz := hinv.size
      simp only at hsz
      rcases List.eq_nil_or_concat op with rfl | ⟨l, a, rfl⟩
      · obtain ⟨av, cv, rfl, _⟩ := ho10.form
        (repeat (first | refine V_run ?_ | refine Cond_f ?_))
        have hS12 := hS10.bringB bs
        obtain ⟨z13, hz13, hS13, hv⟩ := Res.freezeSl (E := El.bool) (e := 4) (B := [(bs, _)]) (v := .slice (some ⟨bs, 0, none⟩) s.length s.length) (xs := s) (f := fun x => [Value.bool x]) hS12 ⟨by rw [boolsV_flat, boolsV_len]; exact (Nat.mul_one _).symm, .inr ⟨bs, s.length, [], by rw [boolsV_flat, List.append_nil], rfl, Nat.le_refl _, by simp only [maxLen]; omega, by rw [boolsV_flat, List.append_nil, boolsV_len]; exact (Nat.mul_one _).symm⟩⟩ (by simp only [big]; omega) (fun _ => rfl) (fun z x _ => rfl)
        rw [hlen] at hv
        refine hR _ _ _ _ hS13 ?_
        rw [← hinv.fin e]
        exact hv
      · rw [List.concat_eq_append] at *
        have hlt := hinv.op a (by simp)
        simp only [List.length_append, List.length_singleton, intsV_append] at ho10
        obtain ⟨bo, cap, C, rfl, hcap, rfl, hC, ho2⟩ := OwnSl.pop (u := .int .i64 (a : Int)) ho10
        obtain ⟨C, rfl⟩ : ∃ D : List Value, C = D.toArray := ⟨C.toList, by simp⟩
        simp only [List.cons_append, List.nil_append] at hS10
        have e0 : ((l.length + 1 : Nat) : Int) - 1 = (l.length : Int) := by omega
        simp only [List.length_append, List.length_singleton] at hsz
        haveI : InI (((l.length + 1 : Nat) : Int) - 1) := ⟨by omega⟩
        haveI : InR (l.length : Int) ((l.length + 1 : Nat) : Int) := ⟨by omega, by omega⟩
        haveI : InR (l.length : Int) ((cap : Int) + 1) := ⟨by omega, by omega⟩
        haveI : Get C ((l.length : Int).toNat * 1) (.int .i64 (a : Int)) := ⟨by simpa using hC⟩
        haveI : InR (a : Int) (c.ins.length : Nat) := ⟨by omega, by omega⟩
        have e1 : (a : Int).toNat * 1 = a := by omega
        haveI : Get (boolsV s) ((a : Int).toNat * 1) (.bool (s.getD a false)) := ⟨by rw [e1, boolsV, List.getElem?_map, List.getD_eq_getElem?_getD, List.getElem?_eq_getElem (by omega)]; rfl⟩
        haveI : SetN (boolsV s) ((a : Int).toNat * 1) [.bool true] (boolsV (s.set a true)) := by
          have := SetN.at_ (l := boolsV s) (k := a) (u := .bool true) (by rw [boolsV_len]; omega)
          rw [e1, show boolsV (s.set a true) = (boolsV s).set a (.bool true) by simp [boolsV, List.map_set]]; exact this
        refine V_run ?_
        refine V_run ?_
        refine Cond_d (fun _ => ?_) (fun hn => absurd hn (by omega))
        refine V_run ?_
        refine V_run ?_
        simp only [e0]
        refine V_run ?_
        refine iV_ld1 ?_
        refine V_run ?_
        refine V_run ?_
        simp only [e0]
        refine V_run ?_
        simp only [Int.toNat_natCast]
        refine V_run ?_
        refine iV_ld1 ?_
        refine Cond_b (fun e5 => ?_) (fun e5 => ?_)
        · refine back ⟨s, l⟩ _ _ ⟨hinv.pop e5, [(bo, .cells C.toArray 3 (0, 0))], z10, hz10, ho2, hS10⟩ (by unfold meaR; simp only [List.length_append, List.length_singleton]; omega)
        · obtain ⟨hst, hme⟩ := hinv.step e e5
          refine V_run ?_
          refine iU_st ?_
          intro w11 hS11
          clear hS10
          refine fV_ldN ?_
          refine CV_1 (refNext_of ((hc.mono hzc).mono (hS11.zle))) ?_
          rintro z12 w12 v12 hz12 hS12 hv12
          clear hS11
          have hnx : nextM c (a : Int) = nextL c a := by
            unfold nextM
            rw [if_neg, Int.toNat_natCast]
            unfold nextBad
            rw [show inB (a : Int) 0 ((c.ins.length : Int) - 1) = true by rw [inB_iff]; omega, decide_eq_false (by omega), decide_eq_false (by omega)]; simp
          rw [hnx] at hv12
          have hnl := @nextL_len c a
          refine V_appL hS12 ho2 hv12 (by omega) ?_
          intro B13 v13 w13 ho13 hS13
          exact back ⟨s.set a true, l ++ nextL c a⟩ _ _ ⟨hst, B13, z12, hz10.trans hz12, ho13, hS13⟩ hme
    clear hKb
    cases p with
    | true => exact Cond_t (mb true (by rw [← hp]; rfl))
    | false =>
      refine Cond_f ?_
      (repeat (first | refine V_run ?_ | refine fV_ld1 ?_))
      exact mb _ (by rw [← hp]; rfl)
  clear hKa
  cases hp : decide ((c.ins.length : Int) > 12000) with
  | true => exact Cond_t (ma true (by rw [← hbad, hp]; rfl))
  | false =>
    refine Cond_f ?_
    (repeat (first | refine V_run ?_ | refine fV_ld1 ?_))
    exact ma _ (by rw [← hbad, hp]; rfl))
end
section
open Go Q Go.RowKit
def DeepR (z : Z) (r : Value) (o : Option (List (Option DepM))) : Prop := match o with
  | none => r = .agg [.slice none 0 0, .slice none 0 0, .int .i64 12].toArray
  | some kn => ∃ v1 v2, r = .agg [v1, v2, .int .i64 0].toArray ∧ SlR El.int z v1 (kn.map stackV) ∧ SlR El.int z v2 (kn.map loopsV)
def aV (f : Option DepM → Int) (kn : List (Option DepM)) : List Value := kn.map fun o => Value.int .i64 (f o)
theorem aV_len {f : Option DepM → Int} {kn : List (Option DepM)} : (aV f kn).length = kn.length := by simp [aV]
theorem aV_flat {f : Option DepM → Int} {kn : List (Option DepM)} : (kn.map f).flatMap (fun x => [Value.int .i64 x]) = aV f kn := by
  unfold aV
  induction kn with
  | nil => rfl
  | cons a l ih => simp only [List.map_cons, List.flatMap_cons, ih]; rfl
theorem arrV_all {f : Option DepM → Int} {kn : List (Option DepM)} : arrV f kn kn.length = aV f kn := by unfold arrV aV; simp
theorem aV_get {f : Option DepM → Int} {kn : List (Option DepM)} {k : Nat} (h : k < kn.length) : Get (aV f kn) ((k : Int).toNat * 1) (.int .i64 (f (kn.getD k none))) := ⟨by
  rw [show (k : Int).toNat * 1 = k by omega]
  unfold aV
  rw [List.getElem?_map, List.getD_eq_getElem?_getD, List.getElem?_eq_getElem h]; rfl⟩
theorem aV_set {f : Option DepM → Int} {kn : List (Option DepM)} {k : Nat} {s : DepM} (h : k < kn.length) : SetN (aV f kn) ((k : Int).toNat * 1) [.int .i64 (f (some s))] (aV f (kn.set k (some s))) := by
  have := SetN.at_ (l := aV f kn) (k := k) (u := .int .i64 (f (some s))) (by rw [aV_len]; exact h)
  rw [show (k : Int).toNat * 1 = k by omega]
  have e : aV f (kn.set k (some s)) = (aV f kn).set k (.int .i64 (f (some s))) := by unfold aV; rw [List.map_set]
  rw [e]; exact this
def rtL (c : CodeM) (k : Nat) : List Nat := 0 :: (c.labels.take k).map fun s => s.at_.toNat
theorem rtL_succ {c : CodeM} {k : Nat} (h : k < c.labels.length) : rtL c (k + 1) = rtL c k ++ [c.labels[k].at_.toNat] := by
  unfold rtL
  rw [List.take_succ_eq_append_getElem h, List.map_append]; rfl
theorem rtL_len {c : CodeM} {k : Nat} : (rtL c k).length ≤ k + 1 := by unfold rtL; simp; omega
theorem rtL_all {c : CodeM} (h : ∀ s ∈ c.labels, 0 ≤ s.at_ ∧ s.at_ < c.ins.length) : rtL c c.labels.length = rootsM c := by
  unfold rtL rootsM rootsK
  rw [List.take_length]
  congr 2
  rw [List.filter_eq_self.2]
  intro s hs
  have := h s hs
  rw [rootOk, inB_iff]; omega
theorem refDepths_of {z : Z} {w : World} {v : Value} {c : CodeM} (hc : CodeR z v c) (hl : c.labels.length ≤ 3000) (hi0 : 0 < c.ins.length) (hi : c.ins.length ≤ 12000) (hr : ∀ i ∈ c.ins, rightM c i = true) (hlab : ∀ s ∈ c.labels, 0 ≤ s.at_ ∧ s.at_ < c.ins.length) :
    Fn1 55 #[v] z w fun z' r => DeepR z' r (depthsM c) := Fn1.intro fun hS => en55 (by
  unfold vc55
  obtain ⟨a1, a2, a3, a4, a5, a6, k1, k2, k3, k4, k5, k6, rfl, h1, h2, h3, h4, h5, h6⟩ := hc.form
  generalize hRR : (fun (v : Value) (w' : World) => ∃ z' L', Res w z [] w' z' L' ∧ DeepR z' v (depthsM c)) = RR
  refine iV_bx ?_
  intro bc w1 hbc hS1
  obtain ⟨zc, hzc, hS2, hatc⟩ := hS1.frz bc
  have hR : ∀ z' w' L' r, Res w1 zc [] w' z' L' → DeepR z' r (depthsM c) → RR r w' := fun z' w' L' r k hd => by rw [← hRR]; exact ⟨z', L', hS2.comp k, hd⟩
  clear hRR
  have hS3 := hS2.self
  clear hS hS1 hS2
  haveI : Fz zc bc 0 (codeVs a1 a2 a3 a4 a5 a6 k1 k2 k3 k4 k5 k6 c) := ⟨hatc⟩
  haveI : Fz zc bc 3 [.slice a4 c.labels.length k4] := ⟨hatc.fld (i := 3) rfl rfl⟩
  haveI : Fz zc bc 5 [.slice a6 c.ins.length k6] := ⟨hatc.fld (i := 5) rfl rfl⟩
  refine iV_al ?_
  intro b2 w4 hb2 hS4
  clear hS3
  intro Ka hKa
  have ma : ∀ b3 bs bl z' w', Le zc z' → Res w1 zc [] w' z' [(b3, .cells [.slice (some ⟨bs, 0, none⟩) c.ins.length c.ins.length, .slice (some ⟨bl, 0, none⟩) c.ins.length c.ins.length, .int .i64 0].toArray 60 (0, 0)), (bs, .cells (List.replicate c.ins.length (.int .i64 0)).toArray 3 (0, 0)), (bl, .cells (List.replicate c.ins.length (.int .i64 0)).toArray 3 (0, 0)), (b2, .cells [.slice none 0 0, .slice none 0 0, .int .i64 0].toArray 60 (0, 0))] → Ka [.pointer (some ⟨b3, 0, none⟩)] w' := by
    intro b3 bs bl z5 w5 hz5 hS5
    refine hKa _ _ fun _ => ?_
    clear hKa hS4
    have hkn0 : (List.replicate c.ins.length (none : Option DepM)).length = c.ins.length := by simp
    have har0 : ∀ f : Option DepM → Int, arrV f (List.replicate c.ins.length none) 0 = List.replicate c.ins.length (.int .i64 0) := fun f => by rw [arrV_zero, hkn0]
    refine LoopG1 (fun (k : Nat) x w' => x = .int .i64 k ∧ k ≤ c.ins.length ∧ ∃ z', Le zc z' ∧ Res w1 zc [] w' z' [(b3, .cells [.slice (some ⟨bs, 0, none⟩) c.ins.length c.ins.length, .slice (some ⟨bl, 0, none⟩) c.ins.length c.ins.length, .int .i64 0].toArray 60 (0, 0)), (bs, .cells (arrV stackV (List.replicate c.ins.length none) k).toArray 3 (0, 0)), (bl, .cells (arrV loopsV (List.replicate c.ins.length none) k).toArray 3 (0, 0)), (b2, .cells [.slice none 0 0, .slice none 0 0, .int .i64 0].toArray 60 (0, 0))]) (fun k => c.ins.length - k) 0
      ⟨rfl, Nat.zero_le _, z5, hz5, by rw [har0, har0]; exact hS5⟩ ?_
    rintro I M k x w6 m ⟨rfl, hk, z6, hz6, hS6⟩ back
    clear hS5
    (repeat (first | refine V_run ?_ | refine fV_ld1 ?_))
    refine Cond_d (fun h => ?_) (fun h => ?_)
    · have hlt : k < c.ins.length := by omega
      haveI : InR (k : Int) (c.ins.length : Nat) := ⟨by omega, by omega⟩
      haveI : InI ((k : Int) + 1) := ⟨by omega⟩
      have hset : ∀ f : Option DepM → Int, f none = -1 → SetN (arrV f (List.replicate c.ins.length none) k) ((k : Int).toNat * 1) [.int .i64 (-1)] (arrV f (List.replicate c.ins.length none) (k + 1)) := fun f hf => by
        have h1 := arrV_set (f := f) (kn := List.replicate c.ins.length none) (k := k) (by rw [hkn0]; exact hlt)
        have h2 : (List.replicate c.ins.length (none : Option DepM)).getD k none = none := by rw [List.getD_eq_getElem?_getD, List.getElem?_replicate]; split <;> rfl
        rw [h2, hf] at h1
        have := SetN.at_ (l := arrV f (List.replicate c.ins.length none) k) (k := k) (u := .int .i64 (-1)) (by rw [arrV_len (by rw [hkn0]; exact hk), hkn0]; exact hlt)
        rw [show (k : Int).toNat * 1 = k by omega, ← h1]; exact this
      haveI := hset stackV rfl
      haveI := hset loopsV rfl
      (repeat (first | refine V_run ?_ | refine iV_ld1 ?_ | (refine iU_st ?_; intro _ _)))
      rename_i hS7
      exact back (k + 1) _ _ ⟨by simp, by omega, z6, hz6, hS7⟩ (by omega)
    have hk0 : k = c.ins.length := by omega
    subst hk0
    have harn : ∀ f : Option DepM → Int, arrV f (List.replicate c.ins.length none) c.ins.length = aV f (List.replicate c.ins.length none) := fun f => by
      have := arrV_all (f := f) (kn := List.replicate c.ins.length none)
      rw [hkn0] at this; exact this
    rw [harn, harn] at hS6
    clear back hk h har0 harn
    refine V_bs (parts := []) rfl (by omega) ?_
    intro bo w7 hbo hS7
    refine V_bs (parts := [(0, _)]) rfl (by omega) ?_
    intro br w8 hbr hS8
    clear hS6 hS7
    refine LoopG2 (fun (k : Nat) x y w' => y = .int .i64 k ∧ k ≤ c.labels.length ∧ ∃ B' z', Le zc z' ∧ OwnSl 3 1 B' x (rtL c k).length (intsV (rtL c k)) ∧ Res w1 zc [] w' z' (B' ++ [(bo, .cells ([] ++ []).toArray 3 (0, 0)), (b3, .cells [.slice (some ⟨bs, 0, none⟩) c.ins.length c.ins.length, .slice (some ⟨bl, 0, none⟩) c.ins.length c.ins.length, .int .i64 0].toArray 60 (0, 0)), (bs, .cells (aV stackV (List.replicate c.ins.length none)).toArray 3 (0, 0)), (bl, .cells (aV loopsV (List.replicate c.ins.length none)).toArray 3 (0, 0)), (b2, .cells [.slice none 0 0, .slice none 0 0, .int .i64 0].toArray 60 (0, 0))])) (fun k => c.labels.length - k) 0
      ⟨rfl, by omega, [(br, .cells ([Value.int .i64 0] ++ []).toArray 3 (0, 0))], _, hz6, ⟨rfl, .inr ⟨br, 1, [], rfl, rfl, Nat.le_refl 1, by decide, rfl⟩⟩, hS8⟩ ?_
    rintro I M k x y w9 m ⟨rfl, hk, B9, z9, hz9, ho9, hS9⟩ back
    clear hS8
    (repeat (first | refine V_run ?_ | refine fV_ld1 ?_))
    refine Cond_d (fun h => ?_) (fun h => ?_)
    · have hlt : k < c.labels.length := by omega
      haveI : InR (k : Int) (c.labels.length : Nat) := ⟨by omega, by omega⟩
      haveI : InI ((k : Int) + 1) := ⟨by omega⟩
      obtain ⟨_, a, kk, he, _, hel⟩ := h4.form
      cases he
      obtain ⟨b, off, cs, rfl, ⟨rfl, hs⟩, hat⟩ := hel k _ (List.getElem?_eq_getElem hlt)
      haveI : Fz zc b (off + (k : Int).toNat * 2 + 1) [.int .i64 c.labels[k].at_] := ⟨(hat.mono hzc).fld (i := 1) rfl rfl⟩
      have hsucc := rtL_succ hlt
      have hin := hlab _ (List.getElem_mem hlt)
      have hlen := @rtL_len c k
      generalize c.labels[k] = S at *
      (repeat (first | refine V_run ?_ | refine fV_ld1 ?_))
      refine V_push hS9 ho9 (by simp only [room]; omega) (by simp only [room]; omega) (by decide) ?_
      intro B10 v10 w10 ho10 hS10
      (repeat (refine V_run ?_))
      refine back (k + 1) _ _ _ ⟨by simp, by omega, B10, _, hz9, ?_, hS10⟩ (by omega)
      rw [hsucc, List.length_append, intsV_append]
      have : intsV [S.at_.toNat] = [.int .i64 S.at_] := by
        show [Value.int .i64 ((S.at_.toNat : Nat) : Int)] = _
        rw [show ((S.at_.toNat : Nat) : Int) = S.at_ by omega]
      rw [this]; exact ho10
    have hk0 : k = c.labels.length := by omega
    subst hk0
    rw [rtL_all hlab] at ho9
    clear back hk h
    have hrl : (rootsM c).length ≤ 3001 := Nat.le_trans rootsK_le (by omega)
    obtain ⟨z10, hz10, hS10, hv10⟩ := freezeInts hS9 ho9 (by simp only [big]; omega)
    have hz10' := hz9.trans hz10
    clear hS9 ho9
    obtain ⟨_, ar, kr, rfl, _, hel⟩ := hv10.form
    rw [ofNats_len]
    have hdl : (rootsD c).length = (rootsM c).length := by simp [rootsD]
    refine LoopG2 (fun (p : Nat × DpM) x y w' => y = .int .i64 p.1 ∧ p.1 ≤ (rootsM c).length ∧ comesM (rootsD c) (initD c) = comesM ((rootsD c).drop p.1) p.2 ∧ InvD c.ins.length p.2 ∧ (∀ a s, p.2.kn.getD a none = some s → s = ⟨0, 0⟩) ∧ ∃ B' z', Le z10 z' ∧ OwnSl 3 1 B' x p.2.open_.length (intsV p.2.open_) ∧ Res w1 zc [] w' z' (B' ++ [(b3, .cells [.slice (some ⟨bs, 0, none⟩) c.ins.length c.ins.length, .slice (some ⟨bl, 0, none⟩) c.ins.length c.ins.length, .int .i64 0].toArray 60 (0, 0)), (bs, .cells (aV stackV p.2.kn).toArray 3 (0, 0)), (bl, .cells (aV loopsV p.2.kn).toArray 3 (0, 0)), (b2, .cells [.slice none 0 0, .slice none 0 0, .int .i64 0].toArray 60 (0, 0))])) (fun p => (rootsM c).length - p.1) (0, initD c)
      ⟨rfl, Nat.zero_le _, rfl, initInv, fun a s hs => by
        simp only [initD, List.getD_eq_getElem?_getD, List.getElem?_replicate] at hs
        split at hs <;> simp at hs, [(bo, .cells ([] ++ []).toArray 3 (0, 0))], z10, Le.refl _, ⟨rfl, .inr ⟨bo, 0, [], rfl, rfl, Nat.le_refl 0, by decide, rfl⟩⟩, hS10⟩ ?_
    rintro I M ⟨k, d⟩ x y w11 m ⟨rfl, hk, hcm, hinv, hzero, B11, z11, hz11, ho11, hS11⟩ back
    simp only at hk hcm hinv hzero ho11 hS11
    clear hS10
    have hlen : d.kn.length = c.ins.length := hinv.len
    have hsz := hinv.size
    (repeat (refine V_run ?_))
    refine Cond_d (fun h => ?_) (fun h => ?_)
    · have hlt : k < (rootsM c).length := by omega
      have hlt2 : k < (rootsD c).length := by omega
      haveI : InR (k : Int) ((rootsM c).length : Nat) := ⟨by omega, by omega⟩
      haveI : InI ((k : Int) + 1) := ⟨by omega⟩
      obtain ⟨b, off, cs, rfl, rfl, hat⟩ := hel k (((rootsM c)[k] : Nat) : Int) (by simp [ofNats, List.getElem?_eq_getElem hlt])
      have hroot := rootsM_lt hi0 _ (List.getElem_mem hlt)
      rw [List.drop_eq_getElem_cons hlt2, show (rootsD c)[k] = ((rootsM c)[k], ⟨0, 0⟩) by simp [rootsD]] at hcm
      rw [comesM_cons] at hcm
      simp only at hcm
      generalize (rootsM c)[k] = a at *
      have hat' : At z11 b (off + (k : Int).toNat * 1) [.int .i64 (a : Int)] := by rw [Int.toNat_natCast]; exact hat.mono hz11
      have hal : a < d.kn.length := by omega
      haveI : InR (a : Int) (c.ins.length : Nat) := ⟨by omega, by omega⟩
      haveI := aV_get (f := stackV) hal
      haveI := aV_get (f := loopsV) hal
      haveI : SetN (aV stackV d.kn) ((a : Int).toNat * 1) [.int .i64 0] (aV stackV (d.kn.set a (some ⟨0, 0⟩))) := aV_set (f := stackV) (s := ⟨0, 0⟩) hal
      haveI : SetN (aV loopsV d.kn) ((a : Int).toNat * 1) [.int .i64 0] (aV loopsV (d.kn.set a (some ⟨0, 0⟩))) := aV_set (f := loopsV) (s := ⟨0, 0⟩) hal
      have hc1 : (comeM d a ⟨0, 0⟩).1 = true := by
        unfold comeM
        cases hg : d.kn.getD a none with
        | none => rfl
        | some s => rw [hzero a s hg]; rfl
      have hkn2 : (comeM d a ⟨0, 0⟩).2.kn = d.kn.set a (some ⟨0, 0⟩) := by
        unfold comeM
        cases hg : d.kn.getD a none with
        | none => rfl
        | some s =>
          have e := hzero a s hg
          subst e
          show d.kn = _
          apply List.ext_getElem?
          intro j
          rw [List.getElem?_set]
          split
          · next e => subst e
                      rw [List.getD_eq_getElem?_getD, List.getElem?_eq_getElem hal] at hg
                      rw [List.getElem?_eq_getElem hal]
                      simp only [Option.getD_some] at hg
                      rw [hg]
          · rfl
      obtain ⟨hi1, hi2, _⟩ := comeInv hinv (by omega) hc1
      have hz2 : ∀ b s, (comeM d a ⟨0, 0⟩).2.kn.getD b none = some s → s = ⟨0, 0⟩ := fun b s hs => by
        rw [hkn2, List.getD_eq_getElem?_getD, List.getElem?_set] at hs
        split at hs
        · simp at hs; exact hs.symm
        · rw [← List.getD_eq_getElem?_getD] at hs; exact hzero b s hs
      rw [if_pos hc1] at hcm
      intro Kb hKb
      have mb : ∀ B' v' w', OwnSl 3 1 B' v' (comeM d a ⟨0, 0⟩).2.open_.length (intsV (comeM d a ⟨0, 0⟩).2.open_) → Res w1 zc [] w' z11 (B' ++ [(b3, .cells [.slice (some ⟨bs, 0, none⟩) c.ins.length c.ins.length, .slice (some ⟨bl, 0, none⟩) c.ins.length c.ins.length, .int .i64 0].toArray 60 (0, 0)), (bs, .cells (aV stackV d.kn).toArray 3 (0, 0)), (bl, .cells (aV loopsV d.kn).toArray 3 (0, 0)), (b2, .cells [.slice none 0 0, .slice none 0 0, .int .i64 0].toArray 60 (0, 0))]) → Kb [v'] w' := by
        intro B' v' w' ho' hS'
        refine hKb _ _ fun _ => ?_
        clear hKb hS11
        (repeat (first | (refine iDr ?_; intro _ _) | refine PV_run ?_ | refine iHV_1 ?_))
        refine zHV_ld1 hat' ?_
        (repeat (first | (refine iDr ?_; intro _ _) | refine PV_run ?_ | (refine iU_st ?_; intro _ _) | refine iHV_1 ?_))
        refine zHV_ld1 hat' ?_
        (repeat (first | refine V_run ?_ | refine PV_run ?_ | (refine iU_st ?_; intro _ _)))
        rename_i hS12
        refine back (k + 1, (comeM d a ⟨0, 0⟩).2) _ _ _ ⟨by simp, by simp only; omega, hcm, hi1, hz2, B', z11, hz11, ho', ?_⟩ (by simp only; omega)
        simp only
        rw [hkn2]; exact hS12
      clear hKb
      (repeat (first | (refine iDr ?_; intro _ _) | refine PV_run ?_ | refine iHV_1 ?_))
      refine zHV_ld1 hat' ?_
      (repeat (first | refine PV_run ?_ | refine iHV_1 ?_))
      rename_i hS12
      cases hg : d.kn.getD a none with
      | none =>
        have hop : (comeM d a ⟨0, 0⟩).2.open_ = d.open_ ++ [a] := by unfold comeM; rw [hg]
        refine Cond_is rfl ?_
        (repeat (refine V_run ?_))
        refine zV_ld1 hat' ?_
        refine V_push hS12 ho11 (by simp only [room]; omega) (by simp only [room]; omega) (by decide) ?_
        intro B13 v13 w13 ho13 hS13
        refine mb _ _ _ ?_ hS13
        rw [hop, List.length_append, intsV_append]; exact ho13
      | some s =>
        have e := hzero a s hg
        subst e
        have hop : (comeM d a ⟨0, 0⟩).2.open_ = d.open_ := by unfold comeM; rw [hg]
        refine Cond_not rfl ?_
        refine mb _ _ _ ?_ hS12
        rw [hop]; exact ho11
    have hk2 : k = (rootsM c).length := by omega
    rw [List.drop_of_length_le (by omega)] at hcm
    have hcm2 : comesM (rootsD c) (initD c) = some d := hcm
    have hm0 : meaD d ≤ 2 * c.ins.length := by
      have := (comesInv initInv (fun p hp => by
        obtain ⟨a, ha, rfl⟩ := List.mem_map.1 hp
        exact rootsM_lt hi0 _ ha) hcm2).2
      have h0 : meaD (initD c) = 2 * c.ins.length := by simp [meaD, initD]
      omega
    clear hcm back hv10 hel hzero h hk hk2
    have herr : ∀ w' z' L', Res w1 zc [] w' z' ((b2, .cells [.slice none 0 0, .slice none 0 0, .int .i64 0].toArray 60 (0, 0)) :: L') → depthsM c = none → V (bd 60 #[(2, .int .i64 12)]) w' fun t w => U (st 60 (.pointer (some ⟨b2, 0, none⟩)) t) w fun w => CW 60 (.pointer (some ⟨b2, 0, none⟩)) w fun t1002 => RR t1002 w := by
      intro w' z' L' hS' hd
      (repeat (first | refine V_run ?_ | (refine iU_st ?_; intro _ _) | refine iHV_N ?_))
      exact hR _ _ _ _ (by assumption) (by rw [hd]; rfl)
    refine LoopG1 (fun (p : Nat × DpM) x w' => depthsM c = runD c p.1 p.2 ∧ meaD p.2 < p.1 ∧ InvD c.ins.length p.2 ∧ ∃ B' z', Le zc z' ∧ OwnSl 3 1 B' x p.2.open_.length (intsV p.2.open_) ∧ Res w1 zc [] w' z' (B' ++ [(b3, .cells [.slice (some ⟨bs, 0, none⟩) c.ins.length c.ins.length, .slice (some ⟨bl, 0, none⟩) c.ins.length c.ins.length, .int .i64 0].toArray 60 (0, 0)), (bs, .cells (aV stackV p.2.kn).toArray 3 (0, 0)), (bl, .cells (aV loopsV p.2.kn).toArray 3 (0, 0)), (b2, .cells [.slice none 0 0, .slice none 0 0, .int .i64 0].toArray 60 (0, 0))])) (fun p => p.1) (2 * c.ins.length + 1, d)
      ⟨by rw [depthsM, hcm2], by simp only; omega, hinv, B11, z11, hz10'.trans hz11, ho11, hS11⟩ ?_
    clear hS11 hcm2 hm0 hinv ho11 hlen hsz hz11 hz10'
    rintro I M ⟨f, kn, op⟩ x w14 m ⟨hrun, hmea, hinv, B14, z14, hz14, ho14, hS14⟩ back
    simp only at hrun hmea ho14 hS14
    have hlen : kn.length = c.ins.length := hinv.len
    have hsz := hinv.size
    simp only at hsz
    have hf : f = (f - 1) + 1 := by omega
    rcases List.eq_nil_or_concat op with rfl | ⟨l, a, rfl⟩
    · obtain ⟨av, cv, rfl, _⟩ := ho14.form
      have hS14' := hS14.keep [.at b3, .at bs, .at bl, .at b2]
      clear hS14
      (repeat (first | refine V_run ?_ | refine iV_ldN ?_ | (refine iU_st ?_; intro _ _) | refine iHV_N ?_ | refine Cond_f ?_))
      rename_i hS15
      have hd : depthsM c = some kn := by rw [hrun, hf]; rfl
      obtain ⟨z16, hz16, hS16, hvs⟩ := Res.freezeSl (E := El.int) (e := 3) (B := [(bs, _)]) (v := .slice (some ⟨bs, 0, none⟩) kn.length kn.length) (xs := kn.map stackV) (f := fun x => [Value.int .i64 x]) (hS15.bringB bs) ⟨by rw [aV_flat, aV_len, List.length_map]; exact (Nat.mul_one _).symm, .inr ⟨bs, kn.length, [], by rw [aV_flat, List.append_nil], by rw [List.length_map], by rw [List.length_map]; exact Nat.le_refl _, by simp only [maxLen]; omega, by rw [aV_flat, List.append_nil, aV_len]; exact (Nat.mul_one _).symm⟩⟩ (by rw [List.length_map]; simp only [big]; omega) (fun _ => rfl) (fun z x _ => rfl)
      obtain ⟨z17, hz17, hS17, hvl⟩ := Res.freezeSl (E := El.int) (e := 3) (B := [(bl, _)]) (v := .slice (some ⟨bl, 0, none⟩) kn.length kn.length) (xs := kn.map loopsV) (f := fun x => [Value.int .i64 x]) (hS16.bringB bl) ⟨by rw [aV_flat, aV_len, List.length_map]; exact (Nat.mul_one _).symm, .inr ⟨bl, kn.length, [], by rw [aV_flat, List.append_nil], by rw [List.length_map], by rw [List.length_map]; exact Nat.le_refl _, by simp only [maxLen]; omega, by rw [aV_flat, List.append_nil, aV_len]; exact (Nat.mul_one _).symm⟩⟩ (by rw [List.length_map]; simp only [big]; omega) (fun _ => rfl) (fun z x _ => rfl)
      refine hR _ _ _ _ hS17 ?_
      rw [hd, ← hlen]
      exact ⟨_, _, rfl, hvs.mono hz17, hvl⟩
    · rw [List.concat_eq_append] at *
      obtain ⟨h1i, h2i, hlt, s0, hs0, hlow⟩ := popInv hinv
      simp only [List.length_append, List.length_singleton, intsV_append] at ho14
      obtain ⟨bo2, cap, C, rfl, hcap, rfl, hC, ho2⟩ := OwnSl.pop (u := .int .i64 (a : Int)) ho14
      obtain ⟨C, rfl⟩ : ∃ D : List Value, C = D.toArray := ⟨C.toList, by simp⟩
      simp only [List.cons_append, List.nil_append] at hS14
      have e0 : ((l.length + 1 : Nat) : Int) - 1 = (l.length : Int) := by omega
      simp only [List.length_append, List.length_singleton] at hsz
      have hcount : l.length + kn.count none ≤ c.ins.length := by omega
      haveI : InI (((l.length + 1 : Nat) : Int) - 1) := ⟨by omega⟩
      haveI : InR (l.length : Int) ((l.length + 1 : Nat) : Int) := ⟨by omega, by omega⟩
      haveI : InR (l.length : Int) ((cap : Int) + 1) := ⟨by omega, by omega⟩
      haveI : Get C ((l.length : Int).toNat * 1) (.int .i64 (a : Int)) := ⟨by simpa using hC⟩
      haveI : InR (a : Int) (c.ins.length : Nat) := ⟨by omega, by omega⟩
      have hal : a < kn.length := by omega
      have hgs := aV_get (f := stackV) hal
      have hgl := aV_get (f := loopsV) hal
      rw [hs0] at hgs hgl
      haveI : Get (aV stackV kn) ((a : Int).toNat * 1) (.int .i64 s0.stack) := hgs
      haveI : Get (aV loopsV kn) ((a : Int).toNat * 1) (.int .i64 s0.loops) := hgl
      have hrun2 : runD c f ⟨kn, l ++ [a]⟩ = match refStep c ⟨kn, l⟩ a with
          | none => none
          | some d' => runD c (f - 1) d' := by
        rw [refStep_eq (c := c) (d := ⟨kn, l⟩) (s := s0) hlen h1i.low hlt hs0, hf]
        simp only [runD, List.getLast?_concat, List.dropLast_concat]
        rfl
      obtain ⟨hb6, _, _, e6, _, hel6⟩ := h6.form
      cases e6
      have hii : c.ins[a]? = some (insAt c a) := by rw [insAt, List.getD_eq_getElem?_getD, List.getElem?_eq_getElem hlt]; rfl
      obtain ⟨b6, o6, cs6, rfl, hr6, hat6⟩ := hel6 _ _ hii
      cases hr6
      haveI : Fz zc b6 (o6 + (a : Int).toNat * 4) (insAt c a).cells := ⟨by rw [Int.toNat_natCast]; exact hat6.mono hzc⟩
      have hri2 := hr _ (List.mem_of_getElem? hii)
      have htame := (tame_of hri2).a
      have hes := eff_small (insAt c a)
      have hlow2 := hlow.h
      have hdep : depAt kn a = s0 := by unfold depAt; rw [hs0]; rfl
      have hrs : refStep c ⟨kn, l⟩ a = if refStops (insAt c a) s0 = true then none else match refStepL (insAt c a) a (refS (insAt c a) s0) (refN (insAt c a) s0) (nextL c a) ⟨kn, l⟩ with
          | none => none
          | some d' => if refN (insAt c a) s0 < 0 then none else some d' := by
        unfold refStep; rw [hdep]; rfl
      rw [hrs] at hrun2
      generalize hg : insAt c a = i at *
      refine V_run ?_
      refine V_run ?_
      refine Cond_d (fun _ => ?_) (fun hn => absurd hn (by omega))
      refine V_run ?_
      refine V_run ?_
      simp only [e0]
      refine V_run ?_
      refine iV_ld1 ?_
      refine V_run ?_
      refine V_run ?_
      simp only [e0]
      refine V_run ?_
      simp only [Int.toNat_natCast]
      (repeat (first | refine V_run ?_ | refine fV_ldN ?_ | refine fV_ld1 ?_))
      refine iV_al ?_
      intro b10 w15 hb10 hS15
      refine iU_st ?_
      intro w16 hS16
      (repeat (first | refine iV_ldN ?_ | (refine CV_pu ?_; intro _ _ _ _)))
      rename_i hS17
      refine iV_al ?_
      intro b11 w18 hb11 hS18
      refine iU_st ?_
      intro w19 hS19
      clear hS14 hS15 hS16 hS17 hS18
      (repeat (first | refine V_run ?_ | refine iV_ld1 ?_ | refine JB ?_ | (refine JC ?_; intro _ _ _ _)))
      rename_i hS20
      clear hS19
      have hq : (bif bif bif bif bif decide (i.op = 1) then true else decide (i.op = 2) then true else decide (i.op = 31) then !decide (s0.stack = 0) else false then true else bif bif bif decide (i.op = 30) then true else decide (i.op = 31) then true else decide (i.op = 32) then decide (s0.loops < 1) else false then true else decide (s0.stack < (effM i).pops)) = refStops i s0 := by
        unfold refStops; simp only [Bool.cond_true_left, Bool.cond_false_right, Bool.or_assoc]
      rw [hq]
      refine Cond_b (fun e5 => ?_) (fun e5 => ?_)
      · exact herr _ _ _ (hS20.bringB b2) (by rw [hrun, hrun2, if_pos e5])
      rw [if_neg (by rw [e5]; simp)] at hrun2
      have hpop : ¬ s0.stack < (effM i).pops := by
        unfold refStops at e5
        simp only [Bool.or_eq_false_iff, decide_eq_false_iff_not] at e5
        exact e5.2.2
      have hstb : 0 ≤ refS i s0 ∧ refS i s0 ≤ 201 := by unfold refS; omega
      have hnb : -40 ≤ refN i s0 ∧ refN i s0 ≤ 41 := by
        unfold refN
        split
        · omega
        · split
          · next h => have := htame h; omega
          · omega
      haveI : InI (s0.stack - (effM i).pops) := ⟨by omega⟩
      haveI : InI (s0.stack - (effM i).pops + (effM i).pushes) := ⟨by omega⟩
      haveI : InI (s0.loops + 1) := ⟨by omega⟩
      (repeat (first | refine V_run ?_ | refine iV_ld1 ?_))
      rw [show s0.stack - (effM i).pops + (effM i).pushes = refS i s0 from rfl]
      generalize hst : refS i s0 = st at *
      have hS21 := hS20.keep [.at b10, .at bo2, .at b3, .at bs, .at bl, .at b2]
      clear hS20
      rename_i hz20
      intro Kb hKb
      have mb : ∀ w' z', Le zc z' → Res w1 zc [] w' z' [(b10, .cells i.cells.toArray 38 (0, 0)), (bo2, .cells C.toArray 3 (0, 0)), (b3, .cells [.slice (some ⟨bs, 0, none⟩) c.ins.length c.ins.length, .slice (some ⟨bl, 0, none⟩) c.ins.length c.ins.length, .int .i64 0].toArray 60 (0, 0)), (bs, .cells (aV stackV kn).toArray 3 (0, 0)), (bl, .cells (aV loopsV kn).toArray 3 (0, 0)), (b2, .cells [.slice none 0 0, .slice none 0 0, .int .i64 0].toArray 60 (0, 0))] → Kb [.int .i64 (refN i s0)] w' := by
        intro w' z' hz' hS'
        refine hKb _ _ fun _ => ?_
        clear hKb hS21
        generalize hnn : refN i s0 = n at *
        refine fV_ldN ?_
        refine CV_1 (refNext_of ((hc.mono hzc).mono hz')) ?_
        rintro z22 w22 v22 hz22 hS22 hv22
        clear hS'
        have hnx : nextM c (a : Int) = nextL c a := by
          unfold nextM
          rw [if_neg, Int.toNat_natCast]
          unfold nextBad
          rw [show inB (a : Int) 0 ((c.ins.length : Int) - 1) = true by rw [inB_iff]; omega, decide_eq_false (by omega), decide_eq_false (by omega)]; simp
        rw [hnx] at hv22
        have hnl := @nextL_len c a
        have hnlt : ∀ x ∈ nextL c a, x < c.ins.length := fun x hx => toL_lt x (mem_nextL.1 hx)
        generalize nextL c a = nl at *
        obtain ⟨_, an, kn2, rfl, _, heln⟩ := hv22.form
        rw [ofNats_len]
        generalize hX : refStepL i a st n nl ⟨kn, l⟩ = X at *
        have hm1 : meaD ⟨kn, l⟩ < f - 1 := by omega
        have hS22' := hS22.keep [.at bo2, .at b10, .at b3, .at bs, .at bl, .at b2]
        refine LoopG2 (fun (p : Nat × DpM) x y w' => y = .int .i64 p.1 ∧ p.1 ≤ nl.length ∧ refStepL i a st n (nl.drop p.1) p.2 = X ∧ InvD c.ins.length p.2 ∧ meaD p.2 < f - 1 ∧ ∃ B' z', Le z22 z' ∧ OwnSl 3 1 B' x p.2.open_.length (intsV p.2.open_) ∧ Res w1 zc [] w' z' (B' ++ [(b10, .cells i.cells.toArray 38 (0, 0)), (b3, .cells [.slice (some ⟨bs, 0, none⟩) c.ins.length c.ins.length, .slice (some ⟨bl, 0, none⟩) c.ins.length c.ins.length, .int .i64 0].toArray 60 (0, 0)), (bs, .cells (aV stackV p.2.kn).toArray 3 (0, 0)), (bl, .cells (aV loopsV p.2.kn).toArray 3 (0, 0)), (b2, .cells [.slice none 0 0, .slice none 0 0, .int .i64 0].toArray 60 (0, 0))])) (fun p => nl.length - p.1) (0, ⟨kn, l⟩)
          ⟨rfl, Nat.zero_le _, hX, h1i, hm1, [(bo2, .cells C.toArray 3 (0, 0))], z22, Le.refl _, ho2, hS22'⟩ ?_
        rintro I4 M4 ⟨k, d⟩ x y w23 m4 ⟨rfl, hk, hXd, hinvd, hmd, B23, z23, hz23, ho23, hS23⟩ back4
        simp only at hk hXd hinvd hmd ho23 hS23
        clear hS22 hS22'
        have hlend : d.kn.length = c.ins.length := hinvd.len
        have hszd := hinvd.size
        refine V_run ?_
        refine V_run ?_
        refine Cond_d (fun h => ?_) (fun h => ?_)
        · have hlt3 : k < nl.length := by omega
          haveI : InR (k : Int) (nl.length : Nat) := ⟨by omega, by omega⟩
          haveI : InI ((k : Int) + 1) := ⟨by omega⟩
          haveI : InI ((a : Int) + 1) := ⟨by omega⟩
          haveI : InI (n - 1) := ⟨by omega⟩
          obtain ⟨bn9, on9, cn9, rfl, rfl, hatn⟩ := heln k (((nl[k] : Nat)) : Int) (by simp [ofNats, List.getElem?_eq_getElem hlt3])
          have hxlt := hnlt _ (List.getElem_mem hlt3)
          rw [List.drop_eq_getElem_cons hlt3] at hXd
          generalize nl[k] = xx at *
          have hat' : At z23 bn9 (on9 + (k : Int).toNat * 1) [.int .i64 (xx : Int)] := by rw [Int.toNat_natCast]; exact hatn.mono hz23
          unfold refStepL at hXd
          intro Kc hKc
          have mc : ∀ B' v' d' w' z3, Le z23 z3 → refStepL i a st n (nl.drop (k + 1)) d' = X → InvD c.ins.length d' → meaD d' < f - 1 → OwnSl 3 1 B' v' d'.open_.length (intsV d'.open_) → Res w1 zc [] w' z3 (B' ++ [(b10, .cells i.cells.toArray 38 (0, 0)), (b3, .cells [.slice (some ⟨bs, 0, none⟩) c.ins.length c.ins.length, .slice (some ⟨bl, 0, none⟩) c.ins.length c.ins.length, .int .i64 0].toArray 60 (0, 0)), (bs, .cells (aV stackV d'.kn).toArray 3 (0, 0)), (bl, .cells (aV loopsV d'.kn).toArray 3 (0, 0)), (b2, .cells [.slice none 0 0, .slice none 0 0, .int .i64 0].toArray 60 (0, 0))]) → Kc [v'] w' := by
            intro B' v' d' w' z3 hz3 h1 h2 h3 h4 h5
            refine hKc _ _ fun _ => ?_
            refine V_run ?_
            exact back4 (k + 1, d') _ _ _ ⟨by simp, by simp only; omega, h1, h2, h3, B', z3, hz23.trans hz3, h4, h5⟩ (by simp only; omega)
          clear hKc back4
          have hbadd : X = none → depthsM c = none := fun e => by rw [hrun, hrun2, e]
          have hal3 : xx < d.kn.length := by omega
          haveI : InR (xx : Int) (c.ins.length : Nat) := ⟨by omega, by omega⟩
          intro Kd hKd
          have md : ∀ w', refBadX i a xx = false → Res w1 zc [] w' z23 (B23 ++ [(b10, .cells i.cells.toArray 38 (0, 0)), (b3, .cells [.slice (some ⟨bs, 0, none⟩) c.ins.length c.ins.length, .slice (some ⟨bl, 0, none⟩) c.ins.length c.ins.length, .int .i64 0].toArray 60 (0, 0)), (bs, .cells (aV stackV d.kn).toArray 3 (0, 0)), (bl, .cells (aV loopsV d.kn).toArray 3 (0, 0)), (b2, .cells [.slice none 0 0, .slice none 0 0, .int .i64 0].toArray 60 (0, 0))]) → Kd [.int .i64 (refDeep i n xx)] w' := by
            intro w' hbx hS'
            refine hKd _ _ fun _ => ?_
            clear hKd hS23
            generalize hdd : refDeep i n xx = deep at *
            rw [hbx] at hXd
            simp only [Bool.false_eq_true, false_or] at hXd
            refine V_run ?_
            intro Ke hKe
            have me : ∀ q w' z'', Le z23 z'' → Res w1 zc [] w' z'' (B23 ++ [(b10, .cells i.cells.toArray 38 (0, 0)), (b3, .cells [.slice (some ⟨bs, 0, none⟩) c.ins.length c.ins.length, .slice (some ⟨bl, 0, none⟩) c.ins.length c.ins.length, .int .i64 0].toArray 60 (0, 0)), (bs, .cells (aV stackV d.kn).toArray 3 (0, 0)), (bl, .cells (aV loopsV d.kn).toArray 3 (0, 0)), (b2, .cells [.slice none 0 0, .slice none 0 0, .int .i64 0].toArray 60 (0, 0))]) → q = (decide (st > 200) || !inB deep 0 40) → Ke [.bool q] w' := by
              intro q w'' z'' hz'' hS'' hq2
              refine hKe _ _ fun _ => ?_
              clear hKe hS'
              have hat3 := hat'.mono hz''
              refine Cond_b (fun e6 => ?_) (fun e6 => ?_)
              · rw [hq2, Bool.or_eq_true, decide_eq_true_eq, Bool.not_eq_true'] at e6
                rw [if_pos e6] at hXd
                have hS3 := hS''.keep [.at b2]
                exact herr _ _ _ hS3 (hbadd hXd.symm)
              rw [hq2, Bool.or_eq_false_iff, decide_eq_false_iff_not, Bool.not_eq_false'] at e6
              have hdi := inB_iff.1 e6.2
              rw [if_neg (fun e => e.elim e6.1 (fun e => by rw [e6.2] at e; cases e))] at hXd
              haveI := aV_get (f := stackV) hal3
              haveI := aV_get (f := loopsV) hal3
              have hsS : SetN (aV stackV d.kn) ((xx : Int).toNat * 1) [.int .i64 st] (aV stackV (d.kn.set xx (some ⟨st, deep⟩))) := aV_set (f := stackV) (s := ⟨st, deep⟩) hal3
              have hsL : SetN (aV loopsV d.kn) ((xx : Int).toNat * 1) [.int .i64 deep] (aV loopsV (d.kn.set xx (some ⟨st, deep⟩))) := aV_set (f := loopsV) (s := ⟨st, deep⟩) hal3
              have hmz : ∀ B' v' d' w', refStepL i a st n (nl.drop (k + 1)) d' = X → InvD c.ins.length d' → meaD d' < f - 1 → OwnSl 3 1 B' v' d'.open_.length (intsV d'.open_) → Res w1 zc [] w' z'' (B' ++ [(b10, .cells i.cells.toArray 38 (0, 0)), (b3, .cells [.slice (some ⟨bs, 0, none⟩) c.ins.length c.ins.length, .slice (some ⟨bl, 0, none⟩) c.ins.length c.ins.length, .int .i64 0].toArray 60 (0, 0)), (bs, .cells (aV stackV d'.kn).toArray 3 (0, 0)), (bl, .cells (aV loopsV d'.kn).toArray 3 (0, 0)), (b2, .cells [.slice none 0 0, .slice none 0 0, .int .i64 0].toArray 60 (0, 0))]) → Kc [v'] w' := fun B' v' d' w' h1 h2 h3 h4 h5 => mc B' v' d' w' z'' hz'' h1 h2 h3 h4 h5
              refine V_run ?_
              refine zV_ld1 hat3 ?_
              (repeat (first | refine V_run ?_ | refine iV_ld1 ?_))
              cases hgd : d.kn.getD xx none with
              | none =>
                rw [hgd] at hXd
                simp only at hXd
                have hc1 : (comeM d xx ⟨st, deep⟩).1 = true := by
                  unfold comeM
                  rw [hgd]
                  simp only
                  rw [Bool.and_eq_true, inB_iff]
                  exact ⟨by omega, e6.2⟩
                have hc2 : (comeM d xx ⟨st, deep⟩).2 = ⟨d.kn.set xx (some ⟨st, deep⟩), d.open_ ++ [xx]⟩ := by unfold comeM; rw [hgd]
                obtain ⟨i1, i2, _⟩ := comeInv hinvd hxlt hc1
                rw [hc2] at i1 i2
                refine Cond_is rfl ?_
                (repeat (first | refine V_run ?_ | refine iV_ld1 ?_ | (refine iU_st ?_; intro _ _)))
                rename_i hS24
                refine V_push hS24 ho23 (by simp only [room]; omega) (by simp only [room]; omega) (by decide) ?_
                intro B25 v25 w25 ho25 hS25
                refine hmz B25 v25 ⟨d.kn.set xx (some ⟨st, deep⟩), d.open_ ++ [xx]⟩ _ hXd i1 (by omega) ?_ hS25
                simp only
                rw [List.length_append, intsV_append]; exact ho25
              | some was =>
                rw [hgd] at hXd
                simp only at hXd
                have hwl := (hinvd.low _ _ hgd).h
                refine Cond_not (decide_eq_false (by show ¬ was.stack < 0; omega)) ?_
                (repeat (first | refine V_run ?_ | refine iV_ld1 ?_ | (refine JC ?_; intro _ _ _ _)))
                rename_i hS26
                rw [hgd]
                have hwas : (bif !decide (stackV (some was) = st) then true else !decide (loopsV (some was) = deep)) = !decide (was = ⟨st, deep⟩) := by
                  show (bif !decide (was.stack = st) then true else !decide (was.loops = deep)) = _
                  have : was = ⟨st, deep⟩ ↔ was.stack = st ∧ was.loops = deep := by cases was; simp
                  by_cases h1 : was.stack = st <;> by_cases h2 : was.loops = deep <;> simp [this, h1, h2]
                rw [hwas]
                refine Cond_nd (fun e7 => ?_) (fun e7 => ?_)
                · rw [if_neg e7] at hXd
                  have hS3 := hS26.keep [.at b2]
                  exact herr _ _ _ hS3 (hbadd hXd.symm)
                · rw [if_pos e7] at hXd
                  exact mc B23 x d _ _ (by (repeat (first | assumption | refine Le.trans ?_ (by assumption : Le _ _)))) hXd hinvd hmd ho23 hS26
            clear hKe
            refine Cond_d (fun e6 => ?_) (fun e6 => ?_)
            · exact me true _ _ (Le.refl _) hS' (by rw [decide_eq_true e6]; rfl)
            · refine CV_pu ?_
              intro z24 w24 hz24 hS24
              refine V_run ?_
              exact me _ _ _ hz24 hS24 (by rw [decide_eq_false e6]; rfl)
          clear hKd
          intro Kf hKf
          have mf : ∀ q w', q = decide (i.op = 30 ∧ (xx : Int) = i.a) → Res w1 zc [] w' z23 (B23 ++ [(b10, .cells i.cells.toArray 38 (0, 0)), (b3, .cells [.slice (some ⟨bs, 0, none⟩) c.ins.length c.ins.length, .slice (some ⟨bl, 0, none⟩) c.ins.length c.ins.length, .int .i64 0].toArray 60 (0, 0)), (bs, .cells (aV stackV d.kn).toArray 3 (0, 0)), (bl, .cells (aV loopsV d.kn).toArray 3 (0, 0)), (b2, .cells [.slice none 0 0, .slice none 0 0, .int .i64 0].toArray 60 (0, 0))]) → Kf [.bool q] w' := by
            intro q w' hq3 hS'
            refine hKf _ _ fun _ => ?_
            clear hKf hS23
            subst hq3
            refine Cond_d (fun e6 => ?_) (fun e6 => ?_)
            · (repeat (first | refine V_run ?_ | refine iV_ld1 ?_))
              refine Cond_d (fun e7 => ?_) (fun e7 => ?_)
              · have hS3 := hS'.keep [.at b2]
                refine herr _ _ _ hS3 (hbadd ?_)
                rw [← hXd, if_pos (.inl (by unfold refBadX; rw [decide_eq_true_eq]; exact ⟨e6.1, e6.2, e7⟩))]
              · (repeat (refine V_run ?_))
                have hdp : refDeep i n xx = n - 1 := by unfold refDeep; rw [if_pos e6]
                rw [← hdp]
                exact md _ (by unfold refBadX; rw [decide_eq_false_iff_not]; exact fun e => e7 e.2.2) hS'
            · have hdp : refDeep i n xx = n := by unfold refDeep; rw [if_neg e6]
              have := md w' (by unfold refBadX; rw [decide_eq_false_iff_not]; exact fun e => e6 ⟨e.1, e.2.1⟩) hS'
              rw [hdp] at this
              exact this
          clear hKf md mc
          (repeat (first | (refine iDr ?_; intro _ _) | refine PV_run ?_ | refine iHV_1 ?_))
          refine Cond_d (fun e6 => ?_) (fun e6 => ?_)
          · (repeat (refine PV_run ?_))
            refine zHV_ld1 hat' ?_
            (repeat (first | refine PV_run ?_ | refine iHV_1 ?_))
            exact mf _ _ (by simp [e6]) (by assumption)
          · exact mf _ _ (by simp [e6]) (by assumption)
        · have hk2 : k = nl.length := by omega
          rw [List.drop_of_length_le (by omega)] at hXd
          have hXs : X = some d := hXd.symm
          rw [hXs] at hrun2
          simp only at hrun2
          refine V_run ?_
          refine Cond_d (fun e6 => ?_) (fun e6 => ?_)
          · rw [if_pos e6] at hrun2
            have hS3 := hS23.keep [.at b2]
            exact herr _ _ _ hS3 (by rw [hrun, hrun2])
          · rw [if_neg e6] at hrun2
            have hS3 := hS23.keep [.bl B23, .at b3, .at bs, .at bl, .at b2]
            exact back (f - 1, d) _ _ ⟨by rw [hrun, hrun2], by simp only; omega, hinvd, B23, z23, hz'.trans (hz22.trans hz23), ho23, hS3⟩ (by simp only; omega)
      clear hKb back
      have hzz : Le zc _ := hS21.zle
      unfold refN at mb
      (repeat (first | refine V_run ?_ | refine iV_ld1 ?_ | refine JB ?_))
      have hq27 : (bif decide (i.op = 27) then decide (i.op = 27) else bif decide (i.op = 28) then decide (i.op = 28) else decide (i.op = 29)) = true ↔ i.op = 27 ∨ i.op = 28 ∨ i.op = 29 := by
        by_cases e1 : i.op = 27 <;> by_cases e2 : i.op = 28 <;> by_cases e3 : i.op = 29 <;> simp [e1, e2, e3]
      refine Cond_b (fun h => ?_) (fun h => ?_)
      · rw [if_pos (hq27.1 h)] at mb
        refine V_run ?_
        exact mb _ _ hzz hS21
      · rw [if_neg (fun e => by rw [hq27.2 e] at h; cases h)] at mb
        refine V_run ?_
        refine Cond_d (fun e => ?_) (fun e => ?_)
        · rw [if_pos e] at mb
          have := htame e
          haveI : InI (s0.loops - i.a) := ⟨by omega⟩
          (repeat (first | refine V_run ?_ | refine iV_ld1 ?_))
          exact mb _ _ hzz hS21
        · rw [if_neg e] at mb
          exact mb _ _ hzz hS21
  clear hKa
  have hms : ∀ {K : Value → World → Prop} {w0 w : World} {z0 z : Z} {B0 L : Bl}, Res w0 z0 B0 w z L → (∀ b w', Res w0 z0 B0 w' z ((b, .cells (List.replicate c.ins.length (.int .i64 0)).toArray 3 (0, 0)) :: L) → K (.slice (some ⟨b, 0, none⟩) c.ins.length c.ins.length) w') → V (ms 45 (.int .i64 (c.ins.length : Nat)) (.int .i64 (c.ins.length : Nat))) w K := by
    intro K w0 w z0 z B0 L hS hk
    refine iV_ms (by omega) (by omega) ?_
    intro b w' hb hS'
    rw [zeros_eq] at hS'
    exact hk b w' hS'
  (repeat (first | (refine iDr ?_; intro _ _) | refine PV_run ?_ | refine fHV_ld1 ?_))
  rename_i hS5
  refine ⟨?_, ?_, ?_⟩
  · refine hms hS5 ?_
    intro bs w6 hS6
    (repeat (refine fRI_1 ?_))
    refine ⟨?_, ?_⟩
    · refine hms hS6 ?_
      intro bl w7 hS7
      (repeat (first | refine PV_run ?_ | refine fRI_1 ?_))
      refine iV_al ?_
      intro b3 w8 hb3 hS8
      (repeat (first | (refine iU_st ?_; intro _ _) | refine fRI_1 ?_))
      rename_i hS9
      exact ma b3 bs bl _ _ (by (repeat (exact Le.refl _))) (hS9.keep [.at b3, .at bs, .at bl, .at b2])
    · refine iV_al ?_
      intro b3 w7 hb3 hS7
      (repeat (refine fRI_1 ?_))
      refine hms hS7 ?_
      intro bl w8 hS8
      (repeat (first | refine PV_run ?_ | (refine iU_st ?_; intro _ _) | refine fRI_1 ?_))
      rename_i hS9
      exact ma b3 bs bl _ _ (by (repeat (exact Le.refl _))) (hS9.keep [.at b3, .at bs, .at bl, .at b2])
  · refine hms hS5 ?_
    intro bl w6 hS6
    (repeat (refine fRI_1 ?_))
    refine ⟨?_, ?_⟩
    · refine hms hS6 ?_
      intro bs w7 hS7
      (repeat (first | refine PV_run ?_ | refine fRI_1 ?_))
      refine iV_al ?_
      intro b3 w8 hb3 hS8
      (repeat (first | (refine iU_st ?_; intro _ _) | refine fRI_1 ?_))
      rename_i hS9
      exact ma b3 bs bl _ _ (by (repeat (exact Le.refl _))) (hS9.keep [.at b3, .at bs, .at bl, .at b2])
    · refine iV_al ?_
      intro b3 w7 hb3 hS7
      (repeat (refine fRI_1 ?_))
      refine hms hS7 ?_
      intro bs w8 hS8
      (repeat (first | refine PV_run ?_ | (refine iU_st ?_; intro _ _) | refine fRI_1 ?_))
      rename_i hS9
      exact ma b3 bs bl _ _ (by (repeat (exact Le.refl _))) (hS9.keep [.at b3, .at bs, .at bl, .at b2])
  · refine iV_al ?_
    intro b3 w6 hb3 hS6
    (repeat (refine fRI_1 ?_))
    refine ⟨?_, ?_⟩
    · refine hms hS6 ?_
      intro bs w7 hS7
      (repeat (refine fRI_1 ?_))
      refine hms hS7 ?_
      intro bl w8 hS8
      (repeat (first | refine PV_run ?_ | (refine iU_st ?_; intro _ _) | refine fRI_1 ?_))
      rename_i hS9
      exact ma b3 bs bl _ _ (by (repeat (exact Le.refl _))) (hS9.keep [.at b3, .at bs, .at bl, .at b2])
    · refine hms hS6 ?_
      intro bl w7 hS7
      (repeat (refine fRI_1 ?_))
      refine hms hS7 ?_
      intro bs w8 hS8
      (repeat (first | refine PV_run ?_ | (refine iU_st ?_; intro _ _) | refine fRI_1 ?_))
      rename_i hS9
      exact ma b3 bs bl _ _ (by (repeat (exact Le.refl _))) (hS9.keep [.at b3, .at bs, .at bl, .at b2]))
end
section
open Go Q Go.RowKit
abbrev chV (p : Int × Int) : Value := .agg [.int .i64 p.1, .int .i64 p.2].toArray
theorem refCheck_of {z : Z} {w : World} {v : Value} {c : CodeM} (hc : CodeR z v c) : Fn1 16 #[v] z w fun _ r => r = chV (checkM c) := fnA en16 (by
  intro hS R hR
  unfold vc16
  obtain ⟨a1, a2, a3, a4, a5, a6, k1, k2, k3, k4, k5, k6, rfl, h1, h2, h3, h4, h5, h6⟩ := hc.form
  haveI : CodeZ z _ c := ⟨hc⟩
  have hbig := h6.big
  refine iV_bx ?_
  intro bc w1 hbc hS1
  refine iV_al ?_
  intro b2 w2 hb2 hS2
  clear hS hS1
  have hR2 : ∀ w' z' L' (p : Int × Int), Res w z [] w' z' L' → p = checkM c → R (chV p) w' := fun w' z' L' p k e => by rw [e]; exact hR _ _ _ k
  clear hR
  (repeat (first | refine V_run ?_ | refine iV_ldN ?_ | (refine CV_puz ?_; intro _ _ _ _)))
  refine Cond_n (fun e1 => ?_) (fun e1 => ?_)
  · (repeat (first | refine V_run ?_ | (refine iU_st ?_; intro _ _) | refine iHV_N ?_))
    exact hR2 _ _ _ (3, 0) (by assumption) (by rw [checkM, if_pos e1])
  have n1 : ¬ limitsM c = false := by rw [e1]; simp
  have hpp := @prt_parts c
  (repeat (first | refine V_run ?_ | refine iV_ld1 ?_ | (refine JC ?_; intro _ _ _ _)))
  rename_i z3 w3 hz3 hS3
  have hpq : (bif decide ((c.ins.length : Int) = 0) then true else !prtM c) = !partsM c := by
    rw [hpp, show decide ((c.ins.length : Int) = 0) = decide (c.ins.length = 0) from decide_eq_decide.2 (by omega), Bool.cond_true_left]
    cases decide (c.ins.length = 0) <;> cases prtM c <;> rfl
  rw [hpq]
  refine Cond_n (fun e2 => ?_) (fun e2 => ?_)
  · (repeat (first | refine V_run ?_ | (refine iU_st ?_; intro _ _) | refine iHV_N ?_))
    exact hR2 _ _ _ (1, 0) (by assumption) (by rw [checkM, if_neg n1, if_pos e2])
  have n2 : ¬ partsM c = false := by rw [e2]; simp
  have hbd := limits_bd e1
  have hpos := parts_pos e2
  have hlab := labels_in e2
  have hz3' : Le z z3 := by (repeat (exact Res.zle (by assumption)))
  refine LoopG1 (fun (k : Nat) x w' => x = .int .i64 k ∧ k ≤ c.ins.length ∧ (∀ j i, j < k → c.ins[j]? = some i → rightM c i = true) ∧ ∃ z', Le z z' ∧ Res w z [] w' z' [(b2, .cells [.int .i64 0, .int .i64 0].toArray 35 (0, 0)), (bc, .cells (codeVs a1 a2 a3 a4 a5 a6 k1 k2 k3 k4 k5 k6 c).toArray 28 (0, 0))]) (fun k => c.ins.length - k) 0
    ⟨rfl, Nat.zero_le _, fun _ _ h => by omega, z3, hz3', hS3⟩ ?_
  rintro I M k x w4 m ⟨rfl, hk, hall, z4, hz4, hS4⟩ back
  clear hS3 hS2
  obtain ⟨_, ai, ki, he, _, hel⟩ := h6.form
  cases he
  (repeat (first | refine V_run ?_ | refine iV_ld1 ?_))
  refine Cond_d (fun h => ?_) (fun h => ?_)
  · have hlt : k < c.ins.length := by omega
    have hi := List.getElem?_eq_getElem hlt
    haveI : InR (k : Int) (c.ins.length : Nat) := ⟨by omega, by omega⟩
    haveI : InI ((k : Int) + 1) := ⟨by omega⟩
    obtain ⟨b, off, cs, rfl, rfl, hat⟩ := hel _ _ hi
    haveI : Fz z b (off + (k : Int).toNat * 4) c.ins[k].cells := ⟨hat⟩
    (repeat (first | (refine iDr ?_; intro _ _) | refine PV_run ?_ | refine iHV_1 ?_ | refine iHV_N ?_ | refine iRI_1 ?_ | (refine CV_puz ?_; intro _ _ _ _) | refine fHV_ldN ?_))
    refine Cond_n (fun e3 => ?_) (fun e3 => ?_)
    · have hf : badIdx c = (k : Int) := fidx_some (x := c.ins[k]) (fun j y hj hy => by rw [hall j y hj hy]; rfl) hi (by rw [e3]; rfl)
      (repeat (first | refine V_run ?_ | (refine iU_st ?_; intro _ _) | refine iHV_N ?_))
      exact hR2 _ _ _ (1, (k : Int)) (by assumption) (by rw [checkM, if_neg n1, if_neg n2, if_pos (by omega), hf])
    · (repeat (refine V_run ?_))
      rename_i hS5
      refine back (k + 1) _ _ ⟨by simp, by omega, fun j i hj hji => ?_, _, ?_, hS5⟩ (by omega)
      · rcases Nat.lt_or_eq_of_le (Nat.le_of_lt_succ hj) with hj | hj
        · exact hall j i hj hji
        · subst hj; rw [hi] at hji; cases hji; exact e3
      · (repeat (exact Res.zle (by assumption)))
  · have hall' : ∀ i ∈ c.ins, rightM c i = true := fun i hm => by
      obtain ⟨j, hj⟩ := List.mem_iff_getElem?.1 hm
      exact hall j i (by have := (List.getElem?_eq_some_iff.1 hj).1; omega) hj
    have hf : badIdx c = -1 := fidx_none (fun i y hm => by rw [hall' y (List.mem_of_getElem? hm)]; rfl)
    have n3 : ¬ 0 ≤ badIdx c := by rw [hf]; decide
    have e0 : (c.ins.length : Int) - 1 = ((c.ins.length - 1 : Nat) : Int) := by omega
    haveI : InI ((c.ins.length : Int) - 1) := ⟨by omega⟩
    haveI : InR ((c.ins.length - 1 : Nat) : Int) (c.ins.length : Nat) := ⟨by omega, by omega⟩
    have hi : c.ins[c.ins.length - 1]? = some (lastI c) := by rw [lastI, insAt, List.getD_eq_getElem?_getD, List.getElem?_eq_getElem (by omega)]; rfl
    obtain ⟨b, off, cs, rfl, rfl, hat⟩ := hel _ _ hi
    haveI : Fz z b (off + ((c.ins.length - 1 : Nat) : Int).toNat * 4) (lastI c).cells := ⟨hat⟩
    haveI : Fz z b (off + ((c.ins.length - 1 : Nat) : Int).toNat * 4 + 0) [.int .i64 (lastI c).op] := ⟨hat.fld (i := 0) rfl rfl⟩
    haveI : Fz z b (off + ((c.ins.length - 1 : Nat) : Int).toNat * 4) [.int .i64 (lastI c).op] := ⟨hat.fld (i := 0) rfl rfl⟩
    have hrt := hall' _ (List.mem_of_getElem? hi)
    have hop : opOk (lastI c).op = true := by unfold rightM at hrt; rw [Bool.and_eq_true] at hrt; exact hrt.1
    have hop' := hop
    simp only [opOk, Bool.and_eq_true, decide_eq_true_eq] at hop'
    obtain ⟨_, _, hfin⟩ := rows_pops (lastI c).op
    (repeat (first | (refine iDr ?_; intro _ _) | refine V_run ?_ | refine PV_run ?_ | refine iV_ld1 ?_ | refine iHV_1 ?_))
    simp only [e0]
    (repeat (first | refine PV_run ?_ | refine fHV_ld1 ?_))
    rename_i hS5
    refine CV_1 rows_of ?_
    rintro z6 w6 v6 hz6 hS6 ⟨br, rfl, hv⟩
    clear hS5
    haveI : InR (lastI c).op (47 : Nat) := ⟨by omega, by omega⟩
    obtain ⟨cs, hr, hatr⟩ := hv.get (rowL_at hop)
    cases hr
    have hat9 := hatr.fld (i := 9) rfl rfl
    (repeat (first | refine PV_run ?_ | refine iRI_1 ?_ | refine fRI_1 ?_))
    refine zHV_ld1 (by simpa [El.row] using hat9) ?_
    (repeat (refine PV_run ?_))
    rw [hfin]
    refine Cond_n (fun e4 => ?_) (fun e4 => ?_)
    · (repeat (first | refine V_run ?_ | (refine iU_st ?_; intro _ _) | refine iHV_N ?_))
      exact hR2 _ _ _ (2, ((c.ins.length - 1 : Nat) : Int)) (by assumption) (by rw [checkM, if_neg n1, if_neg n2, if_neg n3, if_pos e4, e0])
    have n4 : ¬ (formAt (lastI c).op).final = false := by rw [e4]; simp
    (repeat (refine iV_ldN ?_))
    refine CV_1 (refDepths_of (hc.mono hS6.zle) hbd.2.2.2.1 hpos hbd.2.2.2.2.2 hall' hlab) ?_
    rintro z8 w8 v8 hz8 hS8 hd
    have hck : checkM c = match depthsM c with | none => (12, 0) | some _ => (0, 0) := by rw [checkM, if_neg n1, if_neg n2, if_neg n3, if_neg n4]; rfl
    cases hdm : depthsM c with
    | none =>
      rw [hdm] at hd hck
      cases hd
      (repeat (first | refine V_run ?_ | (refine iU_st ?_; intro _ _) | refine iHV_N ?_))
      exact hR2 _ _ _ (12, 0) (by assumption) hck.symm
    | some kn =>
      rw [hdm] at hd hck
      obtain ⟨v1, v2, rfl, _, _⟩ := hd
      (repeat (first | refine V_run ?_ | (refine iU_st ?_; intro _ _) | refine iHV_N ?_))
      exact hR2 _ _ _ (0, 0) (by assumption) hck.symm)
instance {z : Z} {v : Value} {c : CodeM} [hc : CodeZ z v c] : PuZ z 16 #[v] (chV (checkM c)) := ⟨fun z' w hz => refCheck_of (hc.h.mono hz)⟩
def DeepsR (z : Z) (v : Value) (c : CodeM) : Prop := ∃ v1 v2, v = .agg [v1, v2, .int .i64 (checkM c).1].toArray ∧ SlR El.int z v1 (if (checkM c).1 = 0 then ((depthsM c).getD []).map stackV else []) ∧ SlR El.int z v2 (if (checkM c).1 = 0 then ((depthsM c).getD []).map loopsV else [])
theorem refDeeps_of {z : Z} {w : World} {v : Value} {c : CodeM} (hc : CodeR z v c) : Fn1 27 #[v] z w fun z' r => DeepsR z' r c := Fn1.intro fun hS => en27 (by
  unfold vc27
  obtain ⟨a1, a2, a3, a4, a5, a6, k1, k2, k3, k4, k5, k6, rfl, h1, h2, h3, h4, h5, h6⟩ := hc.form
  haveI : CodeZ z _ c := ⟨hc⟩
  generalize hRR : (fun (v : Value) (w' : World) => ∃ z' L', Res w z [] w' z' L' ∧ DeepsR z' v c) = RR
  have hR : ∀ z' w' L' r, Res w z [] w' z' L' → DeepsR z' r c → RR r w' := fun z' w' L' r k hd => by rw [← hRR]; exact ⟨z', L', k, hd⟩
  clear hRR
  refine iV_bx ?_
  intro bc w1 hbc hS1
  refine iV_al ?_
  intro b2 w2 hb2 hS2
  clear hS hS1
  (repeat (first | refine V_run ?_ | refine iV_ld1 ?_ | refine iV_ldN ?_ | (refine iV_bx ?_; intro _ _ _ _) | (refine iU_st ?_; intro _ _) | (refine CV_puz ?_; intro _ _ _ _)))
  rename_i hS5
  refine Cond_nd (fun e => ?_) (fun e => ?_)
  · (repeat (first | refine V_run ?_ | refine iV_ld1 ?_ | (refine iU_st ?_; intro _ _) | refine iHV_N ?_))
    refine hR _ _ _ _ (by assumption) ⟨_, _, rfl, ?_, ?_⟩
    · rw [if_neg e]; exact SlR.nil
    · rw [if_neg e]; exact SlR.nil
  · obtain ⟨_, hl, hp, hri, _, kn, hd⟩ := check_ok e
    have hbd := limits_bd hl
    (repeat (refine iV_ldN ?_))
    refine CV_1 (refDepths_of (hc.mono hS5.zle) hbd.2.2.2.1 (parts_pos hp) hbd.2.2.2.2.2 hri (labels_in hp)) ?_
    rintro z8 w8 v8 hz8 hS8 hd8
    rw [hd] at hd8
    obtain ⟨v1, v2, rfl, hv1, hv2⟩ := hd8
    obtain ⟨_, x1, y1, rfl, _, _⟩ := hv1.form
    obtain ⟨_, x2, y2, rfl, _, _⟩ := hv2.form
    (repeat (first | (refine iU_st ?_; intro _ _) | refine iHV_N ?_))
    refine hR _ _ _ _ (by assumption) ⟨_, _, by rw [e], ?_, ?_⟩
    · rw [if_pos e, hd]; exact hv1
    · rw [if_pos e, hd]; exact hv2)
theorem refEntry_of {z : Z} {w : World} {v : Value} {c : CodeM} {l : ByteArray} (hc : CodeR z v c) : Fn1 29 #[v, .string l] z w fun _ r => r = ckV (entryM c l) := fnA en29 (by
  intro hS R hR
  unfold vc29
  obtain ⟨a1, a2, a3, a4, a5, a6, k1, k2, k3, k4, k5, k6, rfl, h1, h2, h3, h4, h5, h6⟩ := hc.form
  haveI : CodeZ z _ c := ⟨hc⟩
  have hR2 : ∀ w' z' L' (p : Int × Int), Res w z [] w' z' L' → p = entryM c l → R (ckV p) w' := fun w' z' L' p k e => by rw [e]; exact hR _ _ _ k
  clear hR
  refine iV_bx ?_
  intro bc w1 hbc hS1
  clear hS
  (repeat (first | refine V_run ?_ | refine iV_ld1 ?_ | refine iV_ldN ?_ | (refine iV_bx ?_; intro _ _ _ _) | (refine iU_st ?_; intro _ _) | (refine CV_puz ?_; intro _ _ _ _)))
  rename_i hS5
  refine Cond_nd (fun e => ?_) (fun e => ?_)
  · (repeat (first | (refine iDr ?_; intro _ _) | refine PV_run ?_ | refine iHV_1 ?_))
    exact hR2 _ _ _ (0, (checkM c).1) (by assumption) (by rw [entryM, if_neg e])
  have hen : entryM c l = if fidx (fun s => decide (s.name = l)) c.labels < 0 then (0, 5) else ((c.labels.getD (fidx (fun s => decide (s.name = l)) c.labels).toNat ⟨⟨#[]⟩, 0⟩).at_, 0) := by rw [entryM, if_pos e]
  refine LoopR1 (fun (k : Nat) x => x = .int .i64 k ∧ k ≤ c.labels.length ∧ ∀ j s, j < k → c.labels[j]? = some s → s.name ≠ l) (fun k => c.labels.length - k) 0 ⟨rfl, Nat.zero_le _, fun _ _ h => by omega⟩ ?_
  rintro I M k x w6 z6 m ⟨rfl, hk, hall⟩ hz6 hS6 back
  clear hS5
  obtain ⟨hb4, _, _, e4, _, hel4⟩ := h4.form
  cases e4
  (repeat (first | refine V_run ?_ | refine iV_ld1 ?_))
  refine Cond_d (fun h => ?_) (fun h => ?_)
  · have hlt : k < c.labels.length := by omega
    obtain ⟨b, off, cs, rfl, ⟨rfl, _⟩, hat⟩ := hel4 _ _ (List.getElem?_eq_getElem hlt)
    haveI : InR (k : Int) (c.labels.length : Nat) := ⟨by omega, by omega⟩
    haveI : InI ((k : Int) + 1) := ⟨by simp only [big] at hb4; omega⟩
    haveI : Fz z b (off + (k : Int).toNat * 2 + 0) [.string c.labels[k].name] := ⟨hat.fld (i := 0) rfl rfl⟩
    haveI : Fz z b (off + (k : Int).toNat * 2) [.string c.labels[k].name] := ⟨hat.fld (i := 0) rfl rfl⟩
    haveI : Fz z b (off + (k : Int).toNat * 2 + 1) [.int .i64 c.labels[k].at_] := ⟨hat.fld (i := 1) rfl rfl⟩
    have hget : c.labels[k]? = some c.labels[k] := List.getElem?_eq_getElem hlt
    (repeat (first | refine V_run ?_ | refine iV_ld1 ?_ | refine fV_ld1 ?_))
    refine Cond_d (fun h => ?_) (fun h => ?_)
    · have hfi : fidx (fun s : SpotM => decide (s.name = l)) c.labels = k := fidx_some (fun j y hj hy => decide_eq_false (hall j y hj hy)) hget (decide_eq_true h)
      (repeat (first | refine V_run ?_ | refine iV_ld1 ?_ | refine fV_ld1 ?_))
      refine hR2 _ _ _ (c.labels[k].at_, 0) (by assumption) ?_
      rw [hen, hfi, if_neg (by omega), Int.toNat_natCast, List.getD_eq_getElem?_getD, hget]; rfl
    · (repeat (refine V_run ?_))
      refine back (k + 1) _ _ _ ⟨by simp, by omega, fun j s hj hs => ?_⟩ (by (repeat (exact Le.refl _))) (by assumption) (by omega)
      by_cases e : j = k
      · subst e; rw [hget] at hs; cases hs; exact h
      · exact hall j s (by omega) hs
  · have hfi : fidx (fun s : SpotM => decide (s.name = l)) c.labels = -1 := fidx_none fun j y hy => decide_eq_false (hall j y (by have := (List.getElem?_eq_some_iff.1 hy).1; omega) hy)
    exact hR2 _ _ _ (0, 5) hS6 (by rw [hen, hfi, if_pos (by decide)]))
end
section
open Go Q Go.RowKit
end
section
open Go Q Go.RowKit
theorem lawFlows {z : Z} {w : World} {v : Value} {c : CodeM} {at_ : Int} {l : ByteArray} [ht : Tab z] (hc : CodeR z v c) : Fn1 8 #[v, .int .i64 at_, .string l] z w fun _ r => r = .bool true := Fn1.intro fun hS => en8 (by
  unfold vc8
  obtain ⟨a1, a2, a3, a4, a5, a6, k1, k2, k3, k4, k5, k6, rfl, h1, h2, h3, h4, h5, h6⟩ := hc.form
  refine iV_bx ?_
  intro bc w1 hbc hS1
  obtain ⟨zc, hzc, hS2, hatc⟩ := hS1.frz bc
  generalize hRR : (fun (v : Value) (w' : World) => ∃ z' L', Res w z [] w' z' L' ∧ v = .bool true) = RR
  have hR : ∀ z' w' L' b, Res w1 zc [] w' z' L' → b = true → RR (.bool b) w' := fun z' w' L' b k e => by rw [← hRR, e]; exact ⟨z', L', hS2.comp k, rfl⟩
  clear hRR
  have hS3 := hS2.self
  clear hS hS1 hS2
  haveI : Tab zc := ht.le hzc
  have hcc := hc.mono hzc
  haveI : CodeZ zc _ c := ⟨hcc⟩
  haveI : Fz zc bc 0 (codeVs a1 a2 a3 a4 a5 a6 k1 k2 k3 k4 k5 k6 c) := ⟨hatc⟩
  refine CV_puz ?_
  intro z4 w4 hz4 hS4
  refine fV_ldN ?_
  refine CV_1 (few_of (hcc.mono hS4.zle)) ?_
  rintro z5 w5 v5 hz5 hS5 ⟨b, rfl⟩
  clear hS3 hS4
  refine V_run ?_
  refine Cond_n (fun _ => hR _ _ _ _ hS5 rfl) (fun _ => ?_)
  refine fV_ldN ?_
  refine CV_1 (reach_of (hcc.mono hS5.zle)) ?_
  rintro z6 w6 v6 hz6 hS6 hvr
  clear hS5
  refine fV_ldN ?_
  refine CV_1 (refReach_of (hcc.mono hS6.zle)) ?_
  rintro z7 w7 v7 hz7 hS7 hvr2
  clear hS6
  have hvr := hvr.mono hz7
  obtain ⟨hbr, ar, cr, rfl, _, _⟩ := hvr.form
  obtain ⟨_, ar2, cr2, rfl, _, _⟩ := hvr2.form
  refine V_run ?_
  refine V_run ?_
  refine V_run ?_
  refine Cond_nd (fun h => absurd rfl h) (fun _ => ?_)
  refine LoopR1 (fun (k : Nat) x => x = .int .i64 k ∧ k ≤ (reachM c).length) (fun k => (reachM c).length - k) 0 ⟨rfl, Nat.zero_le _⟩ ?_
  rintro I M k x w8 z8 m ⟨rfl, hk⟩ hz8 hS8 back
  clear hS7
  refine V_run ?_
  refine V_run ?_
  refine Cond_d (fun h => ?_) (fun h => ?_)
  · have hlt : k < (reachM c).length := by omega
    haveI : InR (k : Int) ((reachM c).length : Nat) := ⟨by omega, by omega⟩
    haveI : InI ((k : Int) + 1) := ⟨by simp only [big] at hbr; omega⟩
    obtain ⟨b1, o1, e1, hat1⟩ := bool_at hvr hlt
    cases e1
    obtain ⟨b2, o2, e2, hat2⟩ := bool_at hvr2 hlt
    cases e2
    (repeat (first | (refine iDr ?_; intro _ _) | refine PV_run ?_))
    refine zHV_ld1 (by rw [Int.toNat_natCast]; exact hat1.mono hz8) ?_
    (repeat (refine PV_run ?_))
    refine zHV_ld1 (by rw [Int.toNat_natCast]; exact hat2.mono hz8) ?_
    (repeat (refine PV_run ?_))
    refine Cond_n (fun h => by simp at h) (fun _ => ?_)
    refine V_run ?_
    exact back (k + 1) _ _ _ ⟨by simp, by omega⟩ (by (repeat (exact Le.refl _))) (by assumption) (by omega)
  clear back
  refine fV_ldN ?_
  refine CV_1 (depthsX_of (hcc.mono hS8.zle)) ?_
  rintro z9 w9 v9 hz9 hS9 ⟨vs, vl, rfl, hvs, hvl⟩
  clear hS8
  refine V_run ?_
  refine V_run ?_
  refine V_run ?_
  refine fV_ldN ?_
  refine CV_1 (refDeeps_of (hcc.mono hS9.zle)) ?_
  rintro z10 w10 v10 hz10 hS10 ⟨us, ul, rfl, hus, hul⟩
  clear hS9
  obtain ⟨_, x1, y1, rfl, _, _⟩ := hus.form
  obtain ⟨_, x2, y2, rfl, _, _⟩ := hul.form
  refine iV_al ?_
  intro bd w11 hbd hS11
  refine iU_st ?_
  intro w12 hS12
  clear hS10 hS11
  refine fV_ldN ?_
  refine CV_1 (entry_of (l := l) (hcc.mono hS12.zle)) ?_
  rintro z13 w13 v13 hz13 hS13 rfl
  clear hS12
  refine V_run ?_
  refine V_run ?_
  refine fV_ldN ?_
  refine CV_1 (refEntry_of (l := l) (hcc.mono hS13.zle)) ?_
  rintro z14 w14 v14 hz14 hS14 rfl
  clear hS13
  refine V_run ?_
  refine V_run ?_
  intro Ka hKa
  have ma : ∀ z' w', Res w1 zc [] w' z' [(bd, .cells [.slice x1 (if (checkM c).1 = 0 then ((depthsM c).getD []).map stackV else []).length y1, .slice x2 (if (checkM c).1 = 0 then ((depthsM c).getD []).map loopsV else []).length y2, .int .i64 (checkM c).1].toArray 60 (0, 0))] → Ka [.bool true] w' := by
    intro z' w' hS'
    refine hKa _ _ fun _ => ?_
    clear hS14
    (repeat (first | refine JB ?_ | (refine JC ?_; intro _ _ _ _)))
    refine hR _ _ _ _ (by assumption) ?_
    simp
  clear hKa
  refine iDr ?_
  intro w15 hS15
  clear hS14
  refine fHV_ldN ?_
  refine fHV_ldN ?_
  refine CV_1 (next_of (at_ := at_) (hcc.mono hS15.zle)) ?_
  rintro z16 w16 v16 hz16 hS16 hn1
  clear hS15
  refine fRI_N ?_
  refine CV_1 (refNext_of (at_ := at_) (hcc.mono hS16.zle)) ?_
  rintro z17 w17 v17 hz17 hS17 hn2
  clear hS16
  refine CV_1 (sameInts_of (hn1.mono hz17) hn2) ?_
  rintro z18 w18 v18 hz18 hS18 rfl
  clear hS17
  refine Cond_is (decide_eq_true rfl) ?_
  refine PV_run ?_
  refine iHV_1 ?_
  refine CV_1 (sameInts_of (hvs.mono (by (repeat (first | assumption | refine Le.trans ?_ (by assumption : Le _ _))))) (hus.mono (by (repeat (first | assumption | refine Le.trans ?_ (by assumption : Le _ _)))))) ?_
  rintro z19 w19 v19 hz19 hS19 rfl
  clear hS18
  refine Cond_is (decide_eq_true rfl) ?_
  refine PV_run ?_
  refine iHV_1 ?_
  refine CV_1 (sameInts_of (hvl.mono (by (repeat (first | assumption | refine Le.trans ?_ (by assumption : Le _ _))))) (hul.mono (by (repeat (first | assumption | refine Le.trans ?_ (by assumption : Le _ _)))))) ?_
  rintro z20 w20 v20 hz20 hS20 rfl
  rw [decide_eq_true rfl]
  exact ma _ _ hS20)
end
section
open Go Q Go.RowKit Go.ChangeShapes Go.WideShapes Go.ChangeAt
theorem at_of_cells {w : World} {base n : Nat} {a : Addr} {cs : List Value} (h : w.cells? base a n = some cs) (hn : 0 < n) : a.spot = none ∧ cs.length = n ∧ At (hp w) a.block a.off cs := by
  obtain ⟨_, hl, hc⟩ := World.cells?_some h
  have h0 := hc 0 hn
  rw [addr_add0] at h0
  have hlt : 0 < cs.length := by omega
  rw [List.getElem?_eq_getElem hlt] at h0
  unfold World.cell? at h0
  split at h0
  · rename_i c ty fr hb
    have hs : a.spot = none := by
      cases hsp : a.spot with
      | none => rfl
      | some x => rw [hsp] at h0; simp at h0
    refine ⟨hs, hl, c, ty, fr, hb, fun j v hv => ?_⟩
    have hj := (List.getElem?_eq_some_iff.1 hv).1
    have := hc j (by omega)
    obtain ⟨ab, ao, asp⟩ := a
    simp only at hs hb
    subst hs
    rw [add_addr, hv] at this
    unfold World.cell? at this
    simp only [hb, Option.isSome_none] at this
    simpa using this
  · cases h0
theorem ownK : ownKnob Tryz.prog.godebug = none := by kernel_rfl
theorem laidOutP : laidOutB Tryz.prog = true := by kernel_rfl
theorem own_start (w : World) : Own w (hp w) [] := Own.mk' (fun _ _ h => h) (fun _ h => by cases h) List.nodup_nil
theorem u4 : Tryz.prog.underlying 4 = some .bool := by kernel_rfl
theorem u3 : Tryz.prog.underlying 3 = some (.int .i64) := by kernel_rfl
theorem u9 : Tryz.prog.underlying 9 = some .string := by kernel_rfl
section
variable {H : Type} {enc : TypeId × Value → H} {P : Program}
def Stays (P : Program) (t : TypeId) : Prop := P.readableRec t = true ∧ t < P.types.size
theorem trodAll_stays (hl : laidOutB P = true) {W W' : World} {sp : Nat → Bool} (hB : Below W.heap.size W W') :
    ∀ {ts : List TypeId} {vs : List Value} {ds : List (DataW H)} {ps : List MemPlace}, (∀ t ∈ ts, Stays P t) → DataW.TrodAll enc P W 0 (fun _ => true) true ts vs ds ps → (∀ p ∈ ps, p.block < W.heap.size) → (∀ p ∈ ps, sp p.block = true) → DataW.TrodAll enc P W' 0 sp true ts vs ds ps
  | [], [], [], _, _, h, _, _ => h
  | _ :: _, _ :: _, _ :: _, _, hT, ⟨p, q, h1, h2, e⟩, hlt, hs => ⟨p, q,
      WideElems.Trod_stays hl (hT _ List.mem_cons_self).1 (hT _ List.mem_cons_self).2 h1 (fun x hx => hB.same (hlt x (by rw [e]; exact List.mem_append_left _ hx))) (fun x hx => hs x (by rw [e]; exact List.mem_append_left _ hx)),
      trodAll_stays hl hB (fun t ht => hT t (List.mem_cons_of_mem _ ht)) h2 (fun x hx => hlt x (by rw [e]; exact List.mem_append_right _ hx)) (fun x hx => hs x (by rw [e]; exact List.mem_append_right _ hx)), e⟩
theorem post_law (hl : laidOutB P = true) {f : Func} {s : ChangeSpec} {apart fresh handsOn again : Bool} {W W' : World} {args : Array Value} {ds gs : List (DataW H)} {before : List MemPlace} {tb : TypeId}
    (hW : DataW.Whole enc P f.params.toList s.vars apart W args.toList ds gs before) (hB : Below W.heap.size W W')
    (hr : f.resultTypes = #[tb]) (hu : P.underlying tb = some .bool) (hT : ∀ t ∈ f.params.toList, Stays P t) (hv : s.vars = [])
    (h1 : (s.fn H (ds ++ gs)).results = [.lit (.bool true)]) (h2 : (s.fn H (ds ++ gs)).args = ds) (h3 : (s.fn H (ds ++ gs)).vars = []) :
    s.post enc P f apart fresh handsOn again W args (.bool true) W' := by
  have hlt := hW.lt
  obtain ⟨pa, pv, hA, hV, rfl, hz, hn⟩ := id hW
  rw [hv] at hV
  obtain ⟨rfl, rfl⟩ := trodVars_none hV
  have hargs : ∀ sp : Nat → Bool, (∀ p ∈ pa, sp p.block = true) → DataW.TrodAll enc P W' 0 sp true f.params.toList args.toList (s.fn H (ds ++ [])).args pa := fun sp hsp => by
    rw [h2]; exact trodAll_stays hl hB hT hA (fun p hp => hlt p (by simpa using hp)) hsp
  have hres : ∀ (b : Nat) (sp : Nat → Bool) (hd : Bool), DataW.TrodAll enc P W' b sp hd f.resultTypes.toList ((Value.bool true).resultList f.resultTypes.size) (s.fn H (ds ++ [])).results [] := fun b sp hd => by
    rw [h1, hr]; exact trodAll_cons_mk (shut_bool hu _) trodAll_mk0
  have hvars : ∀ sp : Nat → Bool, DataW.TrodVars enc P W' sp s.vars (s.fn H (ds ++ [])).vars [] := fun sp => by rw [hv, h3]; rfl
  have hold : ∀ p ∈ pa, (fun b => decide (b < W.heap.size)) p.block = true := fun p hp => by simpa using hlt p (by simpa using hp)
  refine ⟨ds, [], pa ++ [], [], pa, [], hW, hres _ _ _, hargs _ hold, hvars _, hB.frame _, fun _ => ⟨?_, _, _, ([] ++ pa) ++ [], ⟨[] ++ pa, [], trodAll_append (hargs _ (fun _ _ => rfl)) (hres _ _ _), hvars _, rfl, ?_, ?_⟩, ?_⟩⟩
  · exact ok_one hr rfl (okWide_bool_mk hu _)
  · intro b off hp
    have hp' : MemPlace.cell b off ∈ pa ++ [] := by simpa using hp
    rw [hB.frozen (p := ⟨b, off, none⟩) (hlt _ hp')]
    exact hz b off hp'
  · intro ha
    simpa using hn ha
  · intro p hp _
    simpa using hp
end
theorem post_fn1 {H : Type} {enc : TypeId × Value → H} {k : FuncId} {f : Func} {s : ChangeSpec} {apart fresh handsOn again : Bool} {W : World} {args : Array Value} {ds gs : List (DataW H)} {before : List MemPlace}
    (hW : DataW.Whole enc Tryz.prog f.params.toList s.vars apart W args.toList ds gs before)
    (hc : Fn1 k args (hp W) W fun _ r => r = .bool true)
    (hr : f.resultTypes = #[4]) (hT : ∀ t ∈ f.params.toList, Stays Tryz.prog t) (hv : s.vars = [])
    (h1 : (s.fn H (ds ++ gs)).results = [.lit (.bool true)]) (h2 : (s.fn H (ds ++ gs)).args = ds) (h3 : (s.fn H (ds ++ gs)).vars = []) :
    Calls Tryz.prog k args W fun e W' => ∃ v, e = .returned v ∧ s.post enc Tryz.prog f apart fresh handsOn again W args v W' := by
  refine (hc (own_start W)).mono fun e W' he => ?_
  cases e with
  | returned v =>
    obtain ⟨z', hR, rfl⟩ := he
    exact ⟨_, rfl, post_law laidOutP hW hR.below hr u4 hT hv h1 h2 h3⟩
  | _ => exact he.elim
section
variable {H : Type} {enc : TypeId × Value → H} {w : World} {base : Nat} {spare : Nat → Bool} {held : Bool}
theorem fieldAt' {t : TypeId} (hu : Tryz.prog.underlying t = some (.struct (fieldsOf t))) {i ty off : Nat} (hi : ((fieldsOf t).toList.map fun f => (f.type, f.offset))[i]? = some (ty, off)) : ∃ f, (fieldsOf t)[i]? = some f ∧ f.type = ty ∧ f.offset = off := by
  rw [List.getElem?_map] at hi
  obtain ⟨f, h1, h2⟩ := Option.map_eq_some_iff.1 hi
  simp only [Prod.mk.injEq] at h2
  exact ⟨f, by simpa using h1, h2.1, h2.2⟩
theorem sl_read {α : Type} [Inhabited α] {E : El α} {t e : TypeId} (hu : Tryz.prog.underlying t = some (.slice e)) (hc : Tryz.prog.cellsOf e = E.size) (rd : ∀ n cs x, DataW.trod enc Tryz.prog w base spare held n e cs = some x → ∃ a, E.rel (hp w) cs a)
    {n : Nat} {v : Value} {x : DataW H × List MemPlace} (h : DataW.trod enc Tryz.prog w base spare held n t [v] = some x) : ∃ l : List α, SlR E (hp w) v l := by
  rcases Go.Deep.open_slice hu h with ⟨h0, _⟩ | ⟨a, len, cap, m, n', D, Pl, h0, hb, hlc, hcm, hm, _, hel⟩
  · simp at h0; subst h0; exact ⟨[], SlR.nil⟩
  · simp at h0; subst h0
    rw [hc] at hel
    have hlm : len ≤ m := by rw [hm]; split <;> omega
    have key : ∀ i, i < len → ∃ (o : α) (cs : List Value), E.rel (hp w) cs o ∧ (i = 0 → a.spot = none) ∧ At (hp w) a.block (a.off + i * E.size) cs := fun i hi => by
      obtain ⟨cs, h1, h2⟩ := hel i (by omega)
      obtain ⟨o, ho⟩ := rd _ _ _ h2
      obtain ⟨g1, g2, g3⟩ := at_of_cells h1 E.pos
      obtain ⟨ab, ao, asp⟩ := a
      unfold Addr.add at g1 g3
      by_cases hz : i * E.size = 0
      · simp only [hz, if_true] at g1 g3
        exact ⟨o, cs, ho, fun _ => g1, by rw [hz]; exact g3⟩
      · simp only [hz, if_false] at g1 g3
        exact ⟨o, cs, ho, fun h0 => absurd (by rw [h0]; simp) hz, g3⟩
    classical
    let f : Nat → α := fun i => if hi : i < len then Classical.choose (key i hi) else default
    have hf : ∀ i, i < len → ∃ cs : List Value, E.rel (hp w) cs (f i) ∧ (i = 0 → a.spot = none) ∧ At (hp w) a.block (a.off + i * E.size) cs := fun i hi => by
      simp only [f, dif_pos hi]; exact Classical.choose_spec (key i hi)
    refine ⟨(List.range len).map f, some a, cap, by simp, by simpa using hlc, by simp only [List.length_map, List.length_range, big]; simp only [maxLen] at hcm; omega, fun hn => ?_⟩
    have hpos : 0 < len := by
      rcases Nat.eq_zero_or_pos len with h0 | h0
      · subst h0; simp at hn
      · exact h0
    obtain ⟨ab, ao, asp⟩ := a
    obtain ⟨_, _, hsp, _⟩ := hf 0 hpos
    have hsp := hsp rfl
    simp only at hsp
    subst hsp
    refine ⟨ab, ao, rfl, fun i x hx => ?_⟩
    rw [List.getElem?_map] at hx
    obtain ⟨k, h1, rfl⟩ := Option.map_eq_some_iff.1 hx
    have hk := List.getElem?_eq_some_iff.1 h1
    obtain ⟨hlt, rfl⟩ := hk
    simp only [List.getElem_range, List.length_range] at hlt ⊢
    obtain ⟨cs, q1, _, q2⟩ := hf i hlt
    exact ⟨cs, q1, q2⟩
instance : Inhabited PartM := ⟨⟨0, ⟨#[]⟩, 0⟩⟩
instance : Inhabited ItemM := ⟨⟨⟨#[]⟩, false⟩⟩
instance : Inhabited SpotM := ⟨⟨⟨#[]⟩, 0⟩⟩
instance : Inhabited InsM := ⟨⟨0, 0, 0, 0⟩⟩
theorem part_read {n : Nat} {cs : List Value} {x : DataW H × List MemPlace} (h : DataW.trod enc Tryz.prog w base spare held n 95 cs = some x) : ∃ o : PartM, El.part.rel (hp w) cs o := by
  have hu : Tryz.prog.underlying 95 = some (.struct (fieldsOf 95)) := by kernel_rfl
  obtain ⟨xs, m, _, _, hl, hxl, hf⟩ := DataW.trod_struct hu h
  have hc4 : Tryz.prog.cellsOf 95 = 3 := by kernel_rfl
  rw [hc4] at hl
  obtain ⟨f0, a0, b0, c0⟩ := fieldAt' hu (i := 0) (ty := 3) (off := 0) (by kernel_rfl)
  have h0 := hf 0 f0 a0
  obtain ⟨f1, a1, b1, c1⟩ := fieldAt' hu (i := 1) (ty := 9) (off := 1) (by kernel_rfl)
  have h1 := hf 1 f1 a1
  obtain ⟨f2, a2, b2, c2⟩ := fieldAt' hu (i := 2) (ty := 3) (off := 2) (by kernel_rfl)
  have h2 := hf 2 f2 a2
  have hsz : (fieldsOf 95).size = 3 := by kernel_rfl
  rw [hsz] at hxl
  rw [b0, c0, show Tryz.prog.cellsOf 3 = 1 by kernel_rfl] at h0
  rw [b1, c1, show Tryz.prog.cellsOf 9 = 1 by kernel_rfl] at h1
  rw [b2, c2, show Tryz.prog.cellsOf 3 = 1 by kernel_rfl] at h2
  match xs, hxl, cs, hl with
  | [x0, x1, x2], _, [v0, v1, v2], _ =>
    obtain ⟨m0, g0, _⟩ := DataW.trod_int u3 (x := x0) (by simpa using h0)
    obtain ⟨m1, g1, _, hs⟩ := DataW.trod_string u9 (x := x1) (by simpa using h1)
    obtain ⟨m2, g2, _⟩ := DataW.trod_int u3 (x := x2) (by simpa using h2)
    simp at g0 g1 g2
    subst g0; subst g1; subst g2
    exact ⟨⟨m0, m1, m2⟩, rfl, hs⟩
theorem item_read {n : Nat} {cs : List Value} {x : DataW H × List MemPlace} (h : DataW.trod enc Tryz.prog w base spare held n 98 cs = some x) : ∃ o : ItemM, El.item.rel (hp w) cs o := by
  have hu : Tryz.prog.underlying 98 = some (.struct (fieldsOf 98)) := by kernel_rfl
  obtain ⟨xs, m, _, _, hl, hxl, hf⟩ := DataW.trod_struct hu h
  have hc4 : Tryz.prog.cellsOf 98 = 2 := by kernel_rfl
  rw [hc4] at hl
  obtain ⟨f0, a0, b0, c0⟩ := fieldAt' hu (i := 0) (ty := 9) (off := 0) (by kernel_rfl)
  have h0 := hf 0 f0 a0
  obtain ⟨f1, a1, b1, c1⟩ := fieldAt' hu (i := 1) (ty := 4) (off := 1) (by kernel_rfl)
  have h1 := hf 1 f1 a1
  have hsz : (fieldsOf 98).size = 2 := by kernel_rfl
  rw [hsz] at hxl
  rw [b0, c0, show Tryz.prog.cellsOf 9 = 1 by kernel_rfl] at h0
  rw [b1, c1, show Tryz.prog.cellsOf 4 = 1 by kernel_rfl] at h1
  match xs, hxl, cs, hl with
  | [x0, x1], _, [v0, v1], _ =>
    obtain ⟨m0, g0, _, hs⟩ := DataW.trod_string u9 (x := x0) (by simpa using h0)
    obtain ⟨m1, g1, _⟩ := DataW.trod_bool u4 (x := x1) (by simpa using h1)
    simp at g0 g1
    subst g0; subst g1
    exact ⟨⟨m0, m1⟩, rfl, hs⟩
theorem spot_read {n : Nat} {cs : List Value} {x : DataW H × List MemPlace} (h : DataW.trod enc Tryz.prog w base spare held n 54 cs = some x) : ∃ o : SpotM, El.spot.rel (hp w) cs o := by
  have hu : Tryz.prog.underlying 54 = some (.struct (fieldsOf 54)) := by kernel_rfl
  obtain ⟨xs, m, _, _, hl, hxl, hf⟩ := DataW.trod_struct hu h
  have hc4 : Tryz.prog.cellsOf 54 = 2 := by kernel_rfl
  rw [hc4] at hl
  obtain ⟨f0, a0, b0, c0⟩ := fieldAt' hu (i := 0) (ty := 9) (off := 0) (by kernel_rfl)
  have h0 := hf 0 f0 a0
  obtain ⟨f1, a1, b1, c1⟩ := fieldAt' hu (i := 1) (ty := 3) (off := 1) (by kernel_rfl)
  have h1 := hf 1 f1 a1
  have hsz : (fieldsOf 54).size = 2 := by kernel_rfl
  rw [hsz] at hxl
  rw [b0, c0, show Tryz.prog.cellsOf 9 = 1 by kernel_rfl] at h0
  rw [b1, c1, show Tryz.prog.cellsOf 3 = 1 by kernel_rfl] at h1
  match xs, hxl, cs, hl with
  | [x0, x1], _, [v0, v1], _ =>
    obtain ⟨m0, g0, _, hs⟩ := DataW.trod_string u9 (x := x0) (by simpa using h0)
    obtain ⟨m1, g1, _⟩ := DataW.trod_int u3 (x := x1) (by simpa using h1)
    simp at g0 g1
    subst g0; subst g1
    exact ⟨⟨m0, m1⟩, rfl, hs⟩
theorem ins_read {n : Nat} {cs : List Value} {x : DataW H × List MemPlace} (h : DataW.trod enc Tryz.prog w base spare held n 38 cs = some x) : ∃ o : InsM, El.ins.rel (hp w) cs o := by
  have hu : Tryz.prog.underlying 38 = some (.struct (fieldsOf 38)) := by kernel_rfl
  obtain ⟨xs, m, _, _, hl, hxl, hf⟩ := DataW.trod_struct hu h
  have hc4 : Tryz.prog.cellsOf 38 = 4 := by kernel_rfl
  rw [hc4] at hl
  obtain ⟨f0, a0, b0, c0⟩ := fieldAt' hu (i := 0) (ty := 3) (off := 0) (by kernel_rfl)
  have h0 := hf 0 f0 a0
  obtain ⟨f1, a1, b1, c1⟩ := fieldAt' hu (i := 1) (ty := 3) (off := 1) (by kernel_rfl)
  have h1 := hf 1 f1 a1
  obtain ⟨f2, a2, b2, c2⟩ := fieldAt' hu (i := 2) (ty := 3) (off := 2) (by kernel_rfl)
  have h2 := hf 2 f2 a2
  obtain ⟨f3, a3, b3, c3⟩ := fieldAt' hu (i := 3) (ty := 3) (off := 3) (by kernel_rfl)
  have h3 := hf 3 f3 a3
  have hsz : (fieldsOf 38).size = 4 := by kernel_rfl
  rw [hsz] at hxl
  rw [b0, c0, show Tryz.prog.cellsOf 3 = 1 by kernel_rfl] at h0
  rw [b1, c1, show Tryz.prog.cellsOf 3 = 1 by kernel_rfl] at h1
  rw [b2, c2, show Tryz.prog.cellsOf 3 = 1 by kernel_rfl] at h2
  rw [b3, c3, show Tryz.prog.cellsOf 3 = 1 by kernel_rfl] at h3
  match xs, hxl, cs, hl with
  | [x0, x1, x2, x3], _, [v0, v1, v2, v3], _ =>
    obtain ⟨m0, g0, _⟩ := DataW.trod_int u3 (x := x0) (by simpa using h0)
    obtain ⟨m1, g1, _⟩ := DataW.trod_int u3 (x := x1) (by simpa using h1)
    obtain ⟨m2, g2, _⟩ := DataW.trod_int u3 (x := x2) (by simpa using h2)
    obtain ⟨m3, g3, _⟩ := DataW.trod_int u3 (x := x3) (by simpa using h3)
    simp at g0 g1 g2 g3
    subst g0; subst g1; subst g2; subst g3
    exact ⟨⟨m0, m1, m2, m3⟩, rfl⟩
theorem str_read {n : Nat} {cs : List Value} {x : DataW H × List MemPlace} (h : DataW.trod enc Tryz.prog w base spare held n 9 cs = some x) : ∃ o : ByteArray, El.str.rel (hp w) cs o := by
  obtain ⟨s, g, _, hs⟩ := DataW.trod_string u9 h
  exact ⟨s, g, hs⟩
theorem one_of_slice {n t e : Nat} {cs : List Value} {x : DataW H × List MemPlace} (hu : Tryz.prog.underlying t = some (.slice e)) (h : DataW.trod enc Tryz.prog w base spare held n t cs = some x) : ∃ v, cs = [v] := by
  rcases Go.Deep.open_slice hu h with ⟨h0, _⟩ | ⟨a, len, cap, m, n', D, Pl, h0, _⟩ <;> exact ⟨_, h0⟩
theorem parts_read {n : Nat} {cs : List Value} {x : DataW H × List MemPlace} (h : DataW.trod enc Tryz.prog w base spare held n 93 cs = some x) : ∃ o : List PartM, (El.sl El.part).rel (hp w) cs o := by
  obtain ⟨v, rfl⟩ := one_of_slice (e := 95) (by kernel_rfl) h
  obtain ⟨l, hl⟩ := sl_read (E := El.part) (e := 95) (by kernel_rfl) (by kernel_rfl) (fun _ _ _ => part_read) h
  exact ⟨l, v, rfl, hl⟩
theorem items_read {n : Nat} {cs : List Value} {x : DataW H × List MemPlace} (h : DataW.trod enc Tryz.prog w base spare held n 96 cs = some x) : ∃ o : List ItemM, (El.sl El.item).rel (hp w) cs o := by
  obtain ⟨v, rfl⟩ := one_of_slice (e := 98) (by kernel_rfl) h
  obtain ⟨l, hl⟩ := sl_read (E := El.item) (e := 98) (by kernel_rfl) (by kernel_rfl) (fun _ _ _ => item_read) h
  exact ⟨l, v, rfl, hl⟩
theorem u28 : Tryz.prog.underlying 28 = some (.struct (fieldsOf 28)) := by kernel_rfl
theorem codeArg {r : Reach} {b0 n : Nat} {v : Value} {x : DataW H × List MemPlace} (hval : Value.okWide Tryz.prog w r b0 28 v) (h : DataW.trod enc Tryz.prog w base spare held n 28 v.cells.toList = some x) : ∃ c : CodeM, CodeR (hp w) v c := by
  obtain ⟨xs, m, _, _, hl, hxl, hf⟩ := DataW.trod_struct u28 h
  have hc4 : Tryz.prog.cellsOf 28 = 6 := by kernel_rfl
  rw [hc4] at hl
  obtain ⟨f0, a0, b0, c0⟩ := fieldAt' u28 (i := 0) (ty := 22) (off := 0) (by kernel_rfl)
  have h0 := hf 0 f0 a0
  obtain ⟨f1, a1, b1, c1⟩ := fieldAt' u28 (i := 1) (ty := 23) (off := 1) (by kernel_rfl)
  have h1 := hf 1 f1 a1
  obtain ⟨f2, a2, b2, c2⟩ := fieldAt' u28 (i := 2) (ty := 24) (off := 2) (by kernel_rfl)
  have h2 := hf 2 f2 a2
  obtain ⟨f3, a3, b3, c3⟩ := fieldAt' u28 (i := 3) (ty := 25) (off := 3) (by kernel_rfl)
  have h3 := hf 3 f3 a3
  obtain ⟨f4, a4, b4, c4⟩ := fieldAt' u28 (i := 4) (ty := 22) (off := 4) (by kernel_rfl)
  have h4 := hf 4 f4 a4
  obtain ⟨f5, a5, b5, c5⟩ := fieldAt' u28 (i := 5) (ty := 26) (off := 5) (by kernel_rfl)
  have h5 := hf 5 f5 a5
  have hsz : (fieldsOf 28).size = 6 := by kernel_rfl
  rw [hsz] at hxl
  rw [b0, c0, show Tryz.prog.cellsOf 22 = 1 by kernel_rfl] at h0
  rw [b1, c1, show Tryz.prog.cellsOf 23 = 1 by kernel_rfl] at h1
  rw [b2, c2, show Tryz.prog.cellsOf 24 = 1 by kernel_rfl] at h2
  rw [b3, c3, show Tryz.prog.cellsOf 25 = 1 by kernel_rfl] at h3
  rw [b4, c4, show Tryz.prog.cellsOf 22 = 1 by kernel_rfl] at h4
  rw [b5, c5, show Tryz.prog.cellsOf 26 = 1 by kernel_rfl] at h5
  have hv : ∃ cs, v = .agg cs := by
    simp only [Value.okWide, u28] at hval
    exact ⟨_, hval.choose_spec.1⟩
  obtain ⟨cs, rfl⟩ := hv
  obtain ⟨l, rfl⟩ : ∃ l : List Value, cs = l.toArray := ⟨cs.toList, by simp⟩
  simp only [Value.cells] at hl h0 h1 h2 h3 h4 h5
  match xs, hxl, l, hl with
  | [x0, x1, x2, x3, x4, x5], _, [v0, v1, v2, v3, v4, v5], _ =>
    obtain ⟨l0, g0⟩ := sl_read (E := El.str) (e := 9) (by kernel_rfl) (by kernel_rfl) (fun _ _ _ => str_read) (x := x0) (v := v0) (by simpa using h0)
    obtain ⟨l1, g1⟩ := sl_read (E := El.sl El.part) (e := 93) (by kernel_rfl) (by kernel_rfl) (fun _ _ _ => parts_read) (x := x1) (v := v1) (by simpa using h1)
    obtain ⟨l2, g2⟩ := sl_read (E := El.sl El.item) (e := 96) (by kernel_rfl) (by kernel_rfl) (fun _ _ _ => items_read) (x := x2) (v := v2) (by simpa using h2)
    obtain ⟨l3, g3⟩ := sl_read (E := El.spot) (e := 54) (by kernel_rfl) (by kernel_rfl) (fun _ _ _ => spot_read) (x := x3) (v := v3) (by simpa using h3)
    obtain ⟨l4, g4⟩ := sl_read (E := El.str) (e := 9) (by kernel_rfl) (by kernel_rfl) (fun _ _ _ => str_read) (x := x4) (v := v4) (by simpa using h4)
    obtain ⟨l5, g5⟩ := sl_read (E := El.ins) (e := 38) (by kernel_rfl) (by kernel_rfl) (fun _ _ _ => ins_read) (x := x5) (v := v5) (by simpa using h5)
    exact ⟨⟨l0, l1, l2, l3, l4, l5⟩, v0, v1, v2, v3, v4, v5, rfl, g0, g1, g2, g3, g4, g5⟩
end
theorem stays3 : Stays Tryz.prog 3 := ⟨by kernel_rfl, of_decide_eq_true (by kernel_rfl)⟩
theorem stays9 : Stays Tryz.prog 9 := ⟨by kernel_rfl, of_decide_eq_true (by kernel_rfl)⟩
theorem stays28 : Stays Tryz.prog 28 := ⟨by kernel_rfl, of_decide_eq_true (by kernel_rfl)⟩
theorem tab_start {W : World} (h : Lib.TabIs Tryz.prog W "internal/strconv.uint64pow10" .u64 Lib.pow10Tab) : Tab (hp W) := ⟨fun w hw => by
  unfold Lib.TabIs World.var? at *
  cases hg : Tryz.prog.globalNamed "internal/strconv.uint64pow10" with
  | none => simp [hg] at h
  | some g =>
    simp only [hg, Option.bind_some] at h ⊢
    cases ho : W.heap[g]? with
    | none => rw [ho] at h; simp at h
    | some o => rw [hw g o ho, ← ho]; exact h⟩
theorem laidVars_tab {P : Program} {W : World} {name : String} {k : IntKind} {zs : List Int} {rest : List (String × DataW Unit)} {ps : List MemPlace} {g : Nat} {t e : TypeId} {n : Nat}
    (hg : P.globalNamed name = some g) (hty : (P.globals[g]?).map (·.type) = some t) (ht : P.underlying t = some (.array n e)) (he : P.underlying e = some (.int k)) (hce : P.cellsOf e = 1) (hct : P.cellsOf t = n)
    (h : DataW.LaidVars P W ((name, Lib.tabData k zs) :: rest) ps) : Lib.TabIs P W name k zs := by
  obtain ⟨g', t', cs, fuel, p, q, hg', ht', hvar, hd, _, _⟩ := h
  obtain rfl := Option.some.inj (hg.symm.trans hg')
  obtain rfl := Option.some.inj (hty.symm.trans ht')
  unfold Lib.TabIs
  rw [hvar, ← Lib.cells_of_tab ht he hce hct hd]
theorem tab_of {W : World} {a b : String × DataW Unit} {rest : List (String × DataW Unit)} (h : laidMet Tryz.prog (a :: b :: ("internal/strconv.uint64pow10", Rows.laid_internal_strconv_uint64pow10) :: rest) W) : Lib.TabIs Tryz.prog W "internal/strconv.uint64pow10" .u64 Lib.pow10Tab := by
  obtain ⟨ps, hv, _⟩ := h
  obtain ⟨a1, b1⟩ := a
  obtain ⟨a2, b2⟩ := b
  obtain ⟨_, _, _, _, _, _, _, _, _, _, hv, _⟩ := hv
  obtain ⟨_, _, _, _, _, _, _, _, _, _, hv, _⟩ := hv
  exact laidVars_tab (g := 3) (t := 328) (n := 20) (e := 309) (by kernel_rfl) (by kernel_rfl) (by kernel_rfl) (by kernel_rfl) (by kernel_rfl) (by kernel_rfl) (show DataW.LaidVars Tryz.prog W (("internal/strconv.uint64pow10", Lib.tabData .u64 Lib.pow10Tab) :: rest) _ from hv)
end
section
open Go Q Go.RowKit Go.ChangeShapes Go.WideShapes Go.ChangeAt
section
variable {H : Type} {enc : TypeId × Value → H} {w : World} {base : Nat} {spare : Nat → Bool} {held : Bool}
end
end
end Go.Proofs.YtbeelfopmkbllaaGreatDoor
