/- Texts joined: W63, W64, W65, W66, W67, W68, W69, W70, W71, K1. -/
import Derived.Test.YtmideenmlhbdjaaGreatDoorM5
import Derived.Test.YtmideenmlhbdjaaGreatDoorRows
import Derived.WalkKit
import Derived.ProofKit
import Derived.OpenShut
import Derived.Carry
import Derived.Deep.Slices
import Derived.ChangeMaps5
import Derived.LaidMore
import Derived.Lay
set_option linter.unusedSimpArgs false
set_option linter.unusedVariables false
set_option linter.unusedSectionVars false
set_option maxRecDepth 100000
set_option synthInstance.maxHeartbeats 4000000
set_option synthInstance.maxSize 20000
set_option maxHeartbeats 1000000
namespace Go.Proofs.YtmideenmlhbdjaaGreatDoor
section
open Go Q Go.RowKit Go.Shelf
theorem getK_no {l:List (ByteArray × Value)} {n:ByteArray} (h:∀ p ∈ l,p.1 ≠ n):getK l n = none:=by
 rw [getK_find,List.find?_eq_none.2]
 ·rfl
 ·intro p hp
  have:=h p hp
  simpa using this
theorem getK_ops (op:ByteArray):getK opsL op = (arIx (bytes op)).map fun k=>fnv (opF k):=by
 unfold arIx
 by_cases h0:bytes op = [43]
 ·have:op = ⟨#[43]⟩:=ba_inj h0
  subst this; rfl
 by_cases h1:bytes op = [45]
 ·have:op = ⟨#[45]⟩:=ba_inj h1
  subst this; rfl
 by_cases h2:bytes op = [42]
 ·have:op = ⟨#[42]⟩:=ba_inj h2
  subst this; rfl
 by_cases h3:bytes op = [47]
 ·have:op = ⟨#[47]⟩:=ba_inj h3
  subst this; rfl
 by_cases h4:bytes op = [37]
 ·have:op = ⟨#[37]⟩:=ba_inj h4
  subst this; rfl
 by_cases h5:bytes op = [47,47]
 ·have:op = ⟨#[47,47]⟩:=ba_inj h5
  subst this; rfl
 by_cases h6:bytes op = [42,42]
 ·have:op = ⟨#[42,42]⟩:=ba_inj h6
  subst this; rfl
 rw [if_neg h0,if_neg h1,if_neg h2,if_neg h3,if_neg h4,if_neg h5,if_neg h6];refine getK_no fun p hp e=>?_
 simp only [opsL,List.mem_cons,List.mem_nil_iff,or_false] at hp;subst e
 rcases hp with rfl | rfl | rfl | rfl | rfl | rfl | rfl
 ·exact h0 rfl
 ·exact h1 rfl
 ·exact h2 rfl
 ·exact h3 rfl
 ·exact h4 rfl
 ·exact h5 rfl
 ·exact h6 rfl
theorem getK_cms (op:ByteArray):getK cmsL op = (cmIx (bytes op)).map fun k=>fnv (cmF k):=by
 unfold cmIx
 by_cases h0:bytes op = [61]
 ·have:op = ⟨#[61]⟩:=ba_inj h0
  subst this; rfl
 by_cases h1:bytes op = [92,61]
 ·have:op = ⟨#[92,61]⟩:=ba_inj h1
  subst this; rfl
 by_cases h2:bytes op = [62]
 ·have:op = ⟨#[62]⟩:=ba_inj h2
  subst this; rfl
 by_cases h3:bytes op = [60]
 ·have:op = ⟨#[60]⟩:=ba_inj h3
  subst this; rfl
 by_cases h4:bytes op = [62,61]
 ·have:op = ⟨#[62,61]⟩:=ba_inj h4
  subst this; rfl
 by_cases h5:bytes op = [60,61]
 ·have:op = ⟨#[60,61]⟩:=ba_inj h5
  subst this; rfl
 rw [if_neg h0,if_neg h1,if_neg h2,if_neg h3,if_neg h4,if_neg h5];refine getK_no fun p hp e=>?_
 simp only [cmsL,List.mem_cons,List.mem_nil_iff,or_false] at hp;subst e
 rcases hp with rfl | rfl | rfl | rfl | rfl | rfl
 ·exact h0 rfl
 ·exact h1 rfl
 ·exact h2 rfl
 ·exact h3 rfl
 ·exact h4 rfl
 ·exact h5 rfl
theorem cmIx_lt {l:List UInt8} {k:Nat} (h:cmIx l = some k):k < 6:=by
 unfold cmIx at h;(repeat' split at h) <;> first | (cases h; decide) | cases h
theorem arIx_lt {l:List UInt8} {k:Nat} (h:arIx l = some k):k < 7:=by
 unfold arIx at h;(repeat' split at h) <;> first | (cases h; decide) | cases h
section
variable {w0 w:World} {z0 z:Z} {B0 L:Bl} {K:Value->World->Prop}
theorem cm_call [hS:Res w0 z0 B0 w z L] {k:Nat} {n:Int} (hk:k < 6) (h:∀ z' w',Le z z'->Res w0 z0 B0 w' z' L->K (.bool (holdsN k n)) w'):CV (fnv (cmF k)) #[.int .i64 n] w K:=by
 obtain rfl | rfl | rfl | rfl | rfl | rfl:k = 0 \/ k = 1 \/ k = 2 \/ k = 3 \/ k = 4 \/ k = 5:=by omega
 ·change CV (.func (.func 165) #[] #[]) _ _ _
  exact CV_pu (hS:=hS) (g:=(inferInstance:Pu 165 #[.int .i64 n] _)) h
 ·change CV (.func (.func 166) #[] #[]) _ _ _
  exact CV_pu (hS:=hS) (g:=(inferInstance:Pu 166 #[.int .i64 n] _)) h
 ·change CV (.func (.func 167) #[] #[]) _ _ _
  exact CV_pu (hS:=hS) (g:=(inferInstance:Pu 167 #[.int .i64 n] _)) h
 ·change CV (.func (.func 168) #[] #[]) _ _ _
  exact CV_pu (hS:=hS) (g:=(inferInstance:Pu 168 #[.int .i64 n] _)) h
 ·change CV (.func (.func 169) #[] #[]) _ _ _
  exact CV_pu (hS:=hS) (g:=(inferInstance:Pu 169 #[.int .i64 n] _)) h
 ·change CV (.func (.func 170) #[] #[]) _ _ _
  exact CV_pu (hS:=hS) (g:=(inferInstance:Pu 170 #[.int .i64 n] _)) h
theorem ar_call [hS:Res w0 z0 B0 w z L] {k:Nat} {x y:Nm} {s:SetM} [hx:Sm x.num.digits] [hy:Sm y.num.digits] (hk:k < 7) (h:∀ z' w',Le z z'->Res w0 z0 B0 w' z' L->K (resV (calcR k x y s.digits)) w'):CV (fnv (opF k)) #[s.v,x.num.v,y.num.v] w K:=by
 obtain rfl | rfl | rfl | rfl | rfl | rfl | rfl:k = 0 \/ k = 1 \/ k = 2 \/ k = 3 \/ k = 4 \/ k = 5 \/ k = 6:=by omega
 ·change CV (.func (.func 158) #[] #[]) _ _ _
  exact CV_pu (hS:=hS) (g:=(inferInstance:Pu 158 #[s.v,x.num.v,y.num.v] _)) h
 ·change CV (.func (.func 159) #[] #[]) _ _ _
  exact CV_pu (hS:=hS) (g:=(inferInstance:Pu 159 #[s.v,x.num.v,y.num.v] _)) h
 ·change CV (.func (.func 160) #[] #[]) _ _ _
  exact CV_pu (hS:=hS) (g:=(inferInstance:Pu 160 #[s.v,x.num.v,y.num.v] _)) h
 ·change CV (.func (.func 161) #[] #[]) _ _ _
  exact CV_pu (hS:=hS) (g:=(inferInstance:Pu 161 #[s.v,x.num.v,y.num.v] _)) h
 ·change CV (.func (.func 162) #[] #[]) _ _ _
  exact CV_pu (hS:=hS) (g:=(inferInstance:Pu 162 #[s.v,x.num.v,y.num.v] _)) h
 ·change CV (.func (.func 163) #[] #[]) _ _ _
  exact CV_pu (hS:=hS) (g:=(inferInstance:Pu 163 #[s.v,x.num.v,y.num.v] _)) h
 ·change CV (.func (.func 164) #[] #[]) _ _ _
  exact CV_pu (hS:=hS) (g:=(inferInstance:Pu 164 #[s.v,x.num.v,y.num.v] _)) h
end
theorem readV_res (o:Option Nm):readV o = resV (rdR o):=by cases o <;> rfl
instance (priority:=2000) {s:ByteArray}:Pu 31 #[.string s] (resV (rdR (readO (bytes s)))):=by
 rw [<- readV_res]; infer_instance
abbrev opV (o:OpOut):Value:=.tuple #[.string (strB o.s),.int .i64 o.code,.int .i64 o.e]
theorem cmp_e {x y:NumM} {s:SetM} {e:Int} (h:cmpR x y s = .error e):e ≠ 0:=by
 unfold cmpR at h
 split at h
 ·cases h; decide
 ·unfold bindE at h
  split at h
  ·rename_i e' he
   cases h
   rcases opd2_e he with rfl | rfl <;> decide
  ·cases h
theorem bind_e {α β:Type} {x:Except Int α} {f:α->Except Int β} {e:Int} (h:bindE x f = .error e) (h1:∀ e,x = .error e->e ≠ 0) (h2:∀ a e,f a = .error e->e ≠ 0):e ≠ 0:=by
 unfold bindE at h
 split at h
 ·cases h; exact h1 _ rfl
 ·exact h2 _ _ h
theorem fin_z {n:Nm} {d:Nat} {e:Int} (h:finN n d = .error e):e ≠ 0:=by
 unfold finN at h
 split at h
 ·cases h
 ·cases h; decide
theorem opd2_n {x y:NumM} {d:Int}:∀ e,opd2 x y d = .error e->e ≠ 0:=by
 intro e h
 rcases opd2_e h with rfl | rfl <;> decide
theorem quo_e' {a b:Nm} {d q:Nat} {e:Int} (h:quoN a b d q = .error e):e ≠ 0:=by
 unfold quoN at h
 split at h
 ·cases h
 ·rename_i he
  cases h
  exact fin_z he
theorem whole_e' {a b:Nm} {d:Nat} {e:Int} (h:wholeN a b d = .error e):e ≠ 0:=by
 unfold wholeN at h;(repeat' split at h) <;> first | (cases h; decide) | cases h
theorem wholeR_e {x y:NumM} {d:Int}:∀ e,wholeR x y d = .error e->e ≠ 0:=by
 intro e h;refine bind_e h opd2_n fun a e h=>?_
 split at h
 ·cases h; decide
 ·exact whole_e' h
theorem div_z {x y:NumM} {d:Int} {e:Int} (h:divR x y d = .error e):e ≠ 0:=by
 refine bind_e h opd2_n fun a e h=>?_
 split at h
 ·cases h; decide
 ·exact bind_e h (fun e h=>quo_e' h) (fun a e h=>by cases h)
theorem opd1_z {x:NumM} {d:Int}:∀ e,opd1 x d = .error e->e ≠ 0:=by
 intro e h;unfold opd1 at h
 split at h
 ·cases h; decide
 ·split at h
  ·exact fin_z h
  ·cases h; decide
theorem pow_e {x:NumM} {n d:Int} {e:Int} (h:powR x n d = .error e):e ≠ 0:=by
 unfold powR at h
 split at h
 ·cases h; decide
 ·refine bind_e h opd1_z fun a e h=>?_
  split at h
  ·exact fin_z h
  ·split at h
   ·cases h; decide
   ·exact quo_e' h
theorem calc_e {k:Nat} {x y:Nm} {d:Int} {e:Int} (h:calcR k x y d = .error e):e ≠ 0:=by
 unfold calcR at h
 split at h
 ·exact bind_e h opd2_n fun a e h=>fin_z h
 split at h
 ·exact bind_e h opd2_n fun a e h=>fin_z h
 split at h
 ·exact bind_e h opd2_n fun a e h=>fin_z h
 split at h
 ·unfold divNR at h
  split at h
  ·rename_i he
   cases h
   exact div_z he
  ·cases h
 split at h
 ·exact bind_e h wholeR_e fun a e h=>fin_z h
 split at h
 ·exact bind_e h wholeR_e fun a e h=>fin_z h
 unfold powNR at h
 split at h
 ·rename_i he
  cases h
  exact int_e he
 ·split at h
  ·cases h; decide
  ·exact pow_e h
instance {z0:Z} {op a b:ByteArray} {s:SetM} [ht:Tab z0] [ha:Ltx a] [hb:Ltx b]:PuZ z0 47 #[.string op,.string a,.string b,s.v] (opV (opR (bytes op) (bytes a) (bytes b) s)):=⟨fun z w hz=>Fn1.intro fun hS=>en47 (by
 unfold vc47;generalize hG:opR (bytes op) (bytes a) (bytes b) s = G;unfold opR at hG;refine iV_bx ?_;intro b7 w1 hb7 hS1;generalize hRR:(fun (v:Value) (w':World)=>∃ z' L',Res w z [] w' z' L'/\v = opV G) = RR;have hR:∀ w' z' L' o v,Res w z [] w' z' L'->o = G->v = opV o->RR v w':=fun w' z' L' o v k e e2=>by rw [<- hRR]; exact ⟨_,_,k,by rw [e2,e]⟩
 clear hRR hS;refine CV_fn (B:=[]) (F:=[(b7,.cells s.cells.toArray 39 (0,0))]) (by simpa using hS1) operations_of (by simp) ?_;rintro z2 B2 w2 v2 hz2 hS2 ⟨bo,rfl,rfl⟩
 clear hS1;have hS2:Res w z [] w2 z2 [(bo,mK Value.string opsL),(b7,.cells s.cells.toArray 39 (0,0))]:=hS2;refine kV_lk (mk:=Value.string) (l:=opsL) ?_;rw [getK_ops];simp only [if_true];refine V_run ?_;refine V_run ?_;refine CV_fn (B:=[]) (F:=[(bo,mK Value.string opsL),(b7,.cells s.cells.toArray 39 (0,0))]) (by simpa using hS2) comparisons_of (by simp) ?_;rintro z3 B3 w3 v3 hz3 hS3 ⟨bc,rfl,rfl⟩
 clear hS2;have hS3:Res w z [] w3 z3 [(bc,mK Value.string cmsL),(bo,mK Value.string opsL),(b7,.cells s.cells.toArray 39 (0,0))]:=hS3;refine kV_lk (mk:=Value.string) (l:=cmsL) ?_;rw [getK_cms];simp only [if_true];have hS4:Res w z [] w3 z3 [(b7,.cells s.cells.toArray 39 (0,0))]:=hS3.keep [.at b7];clear hS3
 cases hs:setOk s with
 | false=>
  rw [hs] at hG;haveI:Pu 85 #[s.v] (.bool false):=by rw [<- hs]; infer_instance
  (repeat (first | (refine iDr ?_; intro _ _) | refine V_run ?_ | refine PV_run ?_ | refine HV_run ?_ | refine iV_ld1 ?_ | refine iV_ldN ?_ | (refine iV_bx ?_; intro _ _ _ _) | (refine iV_al ?_; intro _ _ _ _) | (refine iV_mm ?_; intro _ _ _ _) | (refine iU_st ?_; intro _ _) | refine iHV_1 ?_ | refine iHV_N ?_ | refine iRI_1 ?_ | refine iRI_N ?_ | refine Cond_t ?_ | refine Cond_f ?_ | refine JB ?_ | (refine JC ?_; intro _ _ _ _) | (refine JGB ?_; intro _ _ _ _) | refine K1 ?_ | refine K0 ?_ | refine K2 ?_ | refine K3 ?_ | refine K4 ?_ | (refine CV_pu ?_; intro _ _ _ _) | (refine CV_puz ?_; intro _ _ _ _) | refine fRI_1 ?_ | refine fRI_N ?_ | refine gHV_lkI ?_ | refine gRI_lkI ?_ | refine gV_lkI ?_ | refine fV_ldN ?_ | refine fV_ld1 ?_ | refine fHV_ldN ?_ | refine fHV_ld1 ?_ | refine NilW_some ?_ | refine iCW_1 ?_ | refine iCW_N ?_ | refine Pk_b ?_));exact hR _ _ _ _ _ ‹_› hG rfl
 | true=>
 rw [hs] at hG;simp only [Bool.true_eq_false,if_false] at hG;haveI:Pu 85 #[s.v] (.bool true):=by rw [<- hs]; infer_instance
 have hca:=@cm_ar (bytes op);have hok1:=@readO_ok (bytes a);have hok2:=@readO_ok (bytes b);have hcl:=@cmIx_lt (bytes op);have hal:=@arIx_lt (bytes op);generalize cmIx (bytes op) = cm at *;generalize arIx (bytes op) = ar at *
 cases cm with
 | none=>
  cases ar with
  | none=>
   (repeat (first | (refine iDr ?_; intro _ _) | refine V_run ?_ | refine PV_run ?_ | refine HV_run ?_ | refine iV_ld1 ?_ | refine iV_ldN ?_ | (refine iV_bx ?_; intro _ _ _ _) | (refine iV_al ?_; intro _ _ _ _) | (refine iV_mm ?_; intro _ _ _ _) | (refine iU_st ?_; intro _ _) | refine iHV_1 ?_ | refine iHV_N ?_ | refine iRI_1 ?_ | refine iRI_N ?_ | refine Cond_t ?_ | refine Cond_f ?_ | refine JB ?_ | (refine JC ?_; intro _ _ _ _) | (refine JGB ?_; intro _ _ _ _) | refine K1 ?_ | refine K0 ?_ | refine K2 ?_ | refine K3 ?_ | refine K4 ?_ | (refine CV_pu ?_; intro _ _ _ _) | (refine CV_puz ?_; intro _ _ _ _) | refine fRI_1 ?_ | refine fRI_N ?_ | refine gHV_lkI ?_ | refine gRI_lkI ?_ | refine gV_lkI ?_ | refine fV_ldN ?_ | refine fV_ld1 ?_ | refine fHV_ldN ?_ | refine fHV_ld1 ?_ | refine NilW_some ?_ | refine iCW_1 ?_ | refine iCW_N ?_ | refine Pk_b ?_));exact hR _ _ _ _ _ ‹_› hG rfl
  | some k=>
   simp only at hG;(repeat (first | (refine iDr ?_; intro _ _) | refine V_run ?_ | refine PV_run ?_ | refine HV_run ?_ | refine iV_ld1 ?_ | refine iV_ldN ?_ | (refine iV_bx ?_; intro _ _ _ _) | (refine iV_al ?_; intro _ _ _ _) | (refine iV_mm ?_; intro _ _ _ _) | (refine iU_st ?_; intro _ _) | refine iHV_1 ?_ | refine iHV_N ?_ | refine iRI_1 ?_ | refine iRI_N ?_ | refine Cond_t ?_ | refine Cond_f ?_ | refine JB ?_ | (refine JC ?_; intro _ _ _ _) | (refine JGB ?_; intro _ _ _ _) | refine K1 ?_ | refine K0 ?_ | refine K2 ?_ | refine K3 ?_ | refine K4 ?_ | (refine CV_pu ?_; intro _ _ _ _) | (refine CV_puz ?_; intro _ _ _ _) | refine fRI_1 ?_ | refine fRI_N ?_ | refine gHV_lkI ?_ | refine gRI_lkI ?_ | refine gV_lkI ?_ | refine fV_ldN ?_ | refine fV_ld1 ?_ | refine fHV_ldN ?_ | refine fHV_ld1 ?_ | refine NilW_some ?_ | refine iCW_1 ?_ | refine iCW_N ?_ | refine Pk_b ?_));rename_i hS9;clear hS4;generalize readO (bytes a) = oa at *;generalize readO (bytes b) = ob at *
   cases oa with
   | none=>
    refine Cond_t ?_;exact hR _ _ _ _ _ hS9 hG rfl
   | some x=>
   cases ob with
   | none=>
    refine Cond_t ?_;exact hR _ _ _ _ _ hS9 hG rfl
   | some y=>
   refine Cond_f ?_;have hk:=hal rfl;simp only at hG;haveI:Sm x.num.digits:=sm_ok (hok1 rfl);haveI:Sm y.num.digits:=sm_ok (hok2 rfl);simp only [rdR,numE] at hS9;have hce:=@calc_e k x y s.digits;have hco:=@calc_ok k x y s.digits;(repeat (first | (refine iDr ?_; intro _ _) | refine V_run ?_ | refine PV_run ?_ | refine HV_run ?_ | refine iV_ld1 ?_ | refine iV_ldN ?_ | (refine iV_bx ?_; intro _ _ _ _) | (refine iV_al ?_; intro _ _ _ _) | (refine iV_mm ?_; intro _ _ _ _) | (refine iU_st ?_; intro _ _) | refine iHV_1 ?_ | refine iHV_N ?_ | refine iRI_1 ?_ | refine iRI_N ?_ | refine Cond_t ?_ | refine Cond_f ?_ | refine JB ?_ | (refine JC ?_; intro _ _ _ _) | (refine JGB ?_; intro _ _ _ _) | refine K1 ?_ | refine K0 ?_ | refine K2 ?_ | refine K3 ?_ | refine K4 ?_ | (refine CV_pu ?_; intro _ _ _ _) | (refine CV_puz ?_; intro _ _ _ _) | refine fRI_1 ?_ | refine fRI_N ?_ | refine gHV_lkI ?_ | refine gRI_lkI ?_ | refine gV_lkI ?_ | refine fV_ldN ?_ | refine fV_ld1 ?_ | refine fHV_ldN ?_ | refine fHV_ld1 ?_ | refine NilW_some ?_ | refine iCW_1 ?_ | refine iCW_N ?_ | refine Pk_b ?_));refine ar_call hk ?_;intro z10 w10 hz10 hS10;clear hS9;generalize calcR k x y s.digits = r at *
   cases r with
   | error e=>
    have:=hce rfl;(repeat (first | (refine iDr ?_; intro _ _) | refine V_run ?_ | refine PV_run ?_ | refine HV_run ?_ | refine iV_ld1 ?_ | refine iV_ldN ?_ | (refine iV_bx ?_; intro _ _ _ _) | (refine iV_al ?_; intro _ _ _ _) | (refine iV_mm ?_; intro _ _ _ _) | (refine iU_st ?_; intro _ _) | refine iHV_1 ?_ | refine iHV_N ?_ | refine iRI_1 ?_ | refine iRI_N ?_ | refine Cond_t ?_ | refine Cond_f ?_ | refine JB ?_ | (refine JC ?_; intro _ _ _ _) | (refine JGB ?_; intro _ _ _ _) | refine K1 ?_ | refine K0 ?_ | refine K2 ?_ | refine K3 ?_ | refine K4 ?_ | (refine CV_pu ?_; intro _ _ _ _) | (refine CV_puz ?_; intro _ _ _ _) | refine fRI_1 ?_ | refine fRI_N ?_ | refine gHV_lkI ?_ | refine gRI_lkI ?_ | refine gV_lkI ?_ | refine fV_ldN ?_ | refine fV_ld1 ?_ | refine fHV_ldN ?_ | refine fHV_ld1 ?_ | refine NilW_some ?_ | refine iCW_1 ?_ | refine iCW_N ?_ | refine Pk_b ?_));refine Cond_nd (fun h=>?_) (fun h=>?_)
    ·(repeat (first | (refine iDr ?_; intro _ _) | refine V_run ?_ | refine PV_run ?_ | refine HV_run ?_ | refine iV_ld1 ?_ | refine iV_ldN ?_ | (refine iV_bx ?_; intro _ _ _ _) | (refine iV_al ?_; intro _ _ _ _) | (refine iV_mm ?_; intro _ _ _ _) | (refine iU_st ?_; intro _ _) | refine iHV_1 ?_ | refine iHV_N ?_ | refine iRI_1 ?_ | refine iRI_N ?_ | refine Cond_t ?_ | refine Cond_f ?_ | refine JB ?_ | (refine JC ?_; intro _ _ _ _) | (refine JGB ?_; intro _ _ _ _) | refine K1 ?_ | refine K0 ?_ | refine K2 ?_ | refine K3 ?_ | refine K4 ?_ | (refine CV_pu ?_; intro _ _ _ _) | (refine CV_puz ?_; intro _ _ _ _) | refine fRI_1 ?_ | refine fRI_N ?_ | refine gHV_lkI ?_ | refine gRI_lkI ?_ | refine gV_lkI ?_ | refine fV_ldN ?_ | refine fV_ld1 ?_ | refine fHV_ldN ?_ | refine fHV_ld1 ?_ | refine NilW_some ?_ | refine iCW_1 ?_ | refine iCW_N ?_ | refine Pk_b ?_))
     refine hR _ _ _ _ _ ‹_› hG ?_;unfold opV;rw [show codeI (errE (.error e)) = codeE e from if_neg this]
    ·exact absurd h this
   | ok n=>
    have hn:=hco rfl;(repeat (first | (refine iDr ?_; intro _ _) | refine V_run ?_ | refine PV_run ?_ | refine HV_run ?_ | refine iV_ld1 ?_ | refine iV_ldN ?_ | (refine iV_bx ?_; intro _ _ _ _) | (refine iV_al ?_; intro _ _ _ _) | (refine iV_mm ?_; intro _ _ _ _) | (refine iU_st ?_; intro _ _) | refine iHV_1 ?_ | refine iHV_N ?_ | refine iRI_1 ?_ | refine iRI_N ?_ | refine Cond_t ?_ | refine Cond_f ?_ | refine JB ?_ | (refine JC ?_; intro _ _ _ _) | (refine JGB ?_; intro _ _ _ _) | refine K1 ?_ | refine K0 ?_ | refine K2 ?_ | refine K3 ?_ | refine K4 ?_ | (refine CV_pu ?_; intro _ _ _ _) | (refine CV_puz ?_; intro _ _ _ _) | refine fRI_1 ?_ | refine fRI_N ?_ | refine gHV_lkI ?_ | refine gRI_lkI ?_ | refine gV_lkI ?_ | refine fV_ldN ?_ | refine fV_ld1 ?_ | refine fHV_ldN ?_ | refine fHV_ld1 ?_ | refine NilW_some ?_ | refine iCW_1 ?_ | refine iCW_N ?_ | refine Pk_b ?_));rename_i hS11;clear hS10;refine CV_1 (told_of (z0:=z0) (n:=n) (s:=s) (by (repeat (first | assumption | exact Le.refl _ | exact Res.zle (by assumption) | refine Le.trans ?_ (by assumption:Le _ _)))) ((bn_ok hn).mono (by omega)) hs) ?_;rintro z12 w12 v12 hz12 hS12 rfl
    clear hS11;exact hR _ _ _ _ _ hS12 hG rfl
 | some k=>
  obtain rfl:=hca rfl;simp only at hG;(repeat (first | (refine iDr ?_; intro _ _) | refine V_run ?_ | refine PV_run ?_ | refine HV_run ?_ | refine iV_ld1 ?_ | refine iV_ldN ?_ | (refine iV_bx ?_; intro _ _ _ _) | (refine iV_al ?_; intro _ _ _ _) | (refine iV_mm ?_; intro _ _ _ _) | (refine iU_st ?_; intro _ _) | refine iHV_1 ?_ | refine iHV_N ?_ | refine iRI_1 ?_ | refine iRI_N ?_ | refine Cond_t ?_ | refine Cond_f ?_ | refine JB ?_ | (refine JC ?_; intro _ _ _ _) | (refine JGB ?_; intro _ _ _ _) | refine K1 ?_ | refine K0 ?_ | refine K2 ?_ | refine K3 ?_ | refine K4 ?_ | (refine CV_pu ?_; intro _ _ _ _) | (refine CV_puz ?_; intro _ _ _ _) | refine fRI_1 ?_ | refine fRI_N ?_ | refine gHV_lkI ?_ | refine gRI_lkI ?_ | refine gV_lkI ?_ | refine fV_ldN ?_ | refine fV_ld1 ?_ | refine fHV_ldN ?_ | refine fHV_ld1 ?_ | refine NilW_some ?_ | refine iCW_1 ?_ | refine iCW_N ?_ | refine Pk_b ?_));rename_i hS9;clear hS4;have hk:=hcl rfl;have fin:∀ (x y:Nm) ,x = y->True:=fun _ _ _=>trivial
  have str:∀ w' z' L',Res w z [] w' z' L'->(⟨truthL (holdsN k (strC (bytes a) (bytes b))),0,0⟩:OpOut) = G->CV (.func (.func 118) #[] #[]) #[.string a,.string b] w' fun t68 w=>CV (fnv (cmF k)) #[t68] w fun t69 w=>CV (.func (.func 117) #[] #[]) #[t69] w fun t70 w=>RR (.tuple #[t70,.int .i64 0,.int .i64 0]) w:=by
   intro w' z' L' hS' hG;clear hS9;(repeat (first | (refine iDr ?_; intro _ _) | refine V_run ?_ | refine PV_run ?_ | refine HV_run ?_ | refine iV_ld1 ?_ | refine iV_ldN ?_ | (refine iV_bx ?_; intro _ _ _ _) | (refine iV_al ?_; intro _ _ _ _) | (refine iV_mm ?_; intro _ _ _ _) | (refine iU_st ?_; intro _ _) | refine iHV_1 ?_ | refine iHV_N ?_ | refine iRI_1 ?_ | refine iRI_N ?_ | refine Cond_t ?_ | refine Cond_f ?_ | refine JB ?_ | (refine JC ?_; intro _ _ _ _) | (refine JGB ?_; intro _ _ _ _) | refine K1 ?_ | refine K0 ?_ | refine K2 ?_ | refine K3 ?_ | refine K4 ?_ | (refine CV_pu ?_; intro _ _ _ _) | (refine CV_puz ?_; intro _ _ _ _) | refine fRI_1 ?_ | refine fRI_N ?_ | refine gHV_lkI ?_ | refine gRI_lkI ?_ | refine gV_lkI ?_ | refine fV_ldN ?_ | refine fV_ld1 ?_ | refine fHV_ldN ?_ | refine fHV_ld1 ?_ | refine NilW_some ?_ | refine iCW_1 ?_ | refine iCW_N ?_ | refine Pk_b ?_));rename_i hS10;clear hS';refine cm_call hk ?_;intro z11 w11 hz11 hS11;clear hS10;(repeat (first | (refine iDr ?_; intro _ _) | refine V_run ?_ | refine PV_run ?_ | refine HV_run ?_ | refine iV_ld1 ?_ | refine iV_ldN ?_ | (refine iV_bx ?_; intro _ _ _ _) | (refine iV_al ?_; intro _ _ _ _) | (refine iV_mm ?_; intro _ _ _ _) | (refine iU_st ?_; intro _ _) | refine iHV_1 ?_ | refine iHV_N ?_ | refine iRI_1 ?_ | refine iRI_N ?_ | refine Cond_t ?_ | refine Cond_f ?_ | refine JB ?_ | (refine JC ?_; intro _ _ _ _) | (refine JGB ?_; intro _ _ _ _) | refine K1 ?_ | refine K0 ?_ | refine K2 ?_ | refine K3 ?_ | refine K4 ?_ | (refine CV_pu ?_; intro _ _ _ _) | (refine CV_puz ?_; intro _ _ _ _) | refine fRI_1 ?_ | refine fRI_N ?_ | refine gHV_lkI ?_ | refine gRI_lkI ?_ | refine gV_lkI ?_ | refine fV_ldN ?_ | refine fV_ld1 ?_ | refine fHV_ldN ?_ | refine fHV_ld1 ?_ | refine NilW_some ?_ | refine iCW_1 ?_ | refine iCW_N ?_ | refine Pk_b ?_));exact hR _ _ _ _ _ ‹_› hG rfl
  generalize readO (bytes a) = oa at *;generalize readO (bytes b) = ob at *
  cases oa with
  | none=>
   refine Cond_t ?_;exact str _ _ _ hS9 hG
  | some x=>
  cases ob with
  | none=>
   refine Cond_t ?_;exact str _ _ _ hS9 hG
  | some y=>
  refine Cond_f ?_;clear str;simp only at hG;haveI:Sm x.num.digits:=sm_ok (hok1 rfl);haveI:Sm y.num.digits:=sm_ok (hok2 rfl);simp only [rdR,numE] at hS9;have hce:=@cmp_e x.num y.num s;(repeat (first | (refine iDr ?_; intro _ _) | refine V_run ?_ | refine PV_run ?_ | refine HV_run ?_ | refine iV_ld1 ?_ | refine iV_ldN ?_ | (refine iV_bx ?_; intro _ _ _ _) | (refine iV_al ?_; intro _ _ _ _) | (refine iV_mm ?_; intro _ _ _ _) | (refine iU_st ?_; intro _ _) | refine iHV_1 ?_ | refine iHV_N ?_ | refine iRI_1 ?_ | refine iRI_N ?_ | refine Cond_t ?_ | refine Cond_f ?_ | refine JB ?_ | (refine JC ?_; intro _ _ _ _) | (refine JGB ?_; intro _ _ _ _) | refine K1 ?_ | refine K0 ?_ | refine K2 ?_ | refine K3 ?_ | refine K4 ?_ | (refine CV_pu ?_; intro _ _ _ _) | (refine CV_puz ?_; intro _ _ _ _) | refine fRI_1 ?_ | refine fRI_N ?_ | refine gHV_lkI ?_ | refine gRI_lkI ?_ | refine gV_lkI ?_ | refine fV_ldN ?_ | refine fV_ld1 ?_ | refine fHV_ldN ?_ | refine fHV_ld1 ?_ | refine NilW_some ?_ | refine iCW_1 ?_ | refine iCW_N ?_ | refine Pk_b ?_));rename_i hS10;clear hS9;generalize cmpR x.num y.num s = r at *
  cases r with
  | error e=>
   have:=hce rfl;refine Cond_nd (fun h=>?_) (fun h=>?_)
   ·(repeat (first | (refine iDr ?_; intro _ _) | refine V_run ?_ | refine PV_run ?_ | refine HV_run ?_ | refine iV_ld1 ?_ | refine iV_ldN ?_ | (refine iV_bx ?_; intro _ _ _ _) | (refine iV_al ?_; intro _ _ _ _) | (refine iV_mm ?_; intro _ _ _ _) | (refine iU_st ?_; intro _ _) | refine iHV_1 ?_ | refine iHV_N ?_ | refine iRI_1 ?_ | refine iRI_N ?_ | refine Cond_t ?_ | refine Cond_f ?_ | refine JB ?_ | (refine JC ?_; intro _ _ _ _) | (refine JGB ?_; intro _ _ _ _) | refine K1 ?_ | refine K0 ?_ | refine K2 ?_ | refine K3 ?_ | refine K4 ?_ | (refine CV_pu ?_; intro _ _ _ _) | (refine CV_puz ?_; intro _ _ _ _) | refine fRI_1 ?_ | refine fRI_N ?_ | refine gHV_lkI ?_ | refine gRI_lkI ?_ | refine gV_lkI ?_ | refine fV_ldN ?_ | refine fV_ld1 ?_ | refine fHV_ldN ?_ | refine fHV_ld1 ?_ | refine NilW_some ?_ | refine iCW_1 ?_ | refine iCW_N ?_ | refine Pk_b ?_))
    refine hR _ _ _ _ _ ‹_› hG ?_;unfold opV;rw [show codeI (oE (.error e)) = codeE e from if_neg this]
   ·exact absurd h this
  | ok n=>
   refine Cond_nd (fun h=>?_) (fun h=>?_)
   ·exact absurd rfl h
   ·refine cm_call (n:=n) hk ?_
    intro z11 w11 hz11 hS11;clear hS10;(repeat (first | (refine iDr ?_; intro _ _) | refine V_run ?_ | refine PV_run ?_ | refine HV_run ?_ | refine iV_ld1 ?_ | refine iV_ldN ?_ | (refine iV_bx ?_; intro _ _ _ _) | (refine iV_al ?_; intro _ _ _ _) | (refine iV_mm ?_; intro _ _ _ _) | (refine iU_st ?_; intro _ _) | refine iHV_1 ?_ | refine iHV_N ?_ | refine iRI_1 ?_ | refine iRI_N ?_ | refine Cond_t ?_ | refine Cond_f ?_ | refine JB ?_ | (refine JC ?_; intro _ _ _ _) | (refine JGB ?_; intro _ _ _ _) | refine K1 ?_ | refine K0 ?_ | refine K2 ?_ | refine K3 ?_ | refine K4 ?_ | (refine CV_pu ?_; intro _ _ _ _) | (refine CV_puz ?_; intro _ _ _ _) | refine fRI_1 ?_ | refine fRI_N ?_ | refine gHV_lkI ?_ | refine gRI_lkI ?_ | refine gV_lkI ?_ | refine fV_ldN ?_ | refine fV_ld1 ?_ | refine fHV_ldN ?_ | refine fHV_ld1 ?_ | refine NilW_some ?_ | refine iCW_1 ?_ | refine iCW_N ?_ | refine Pk_b ?_));exact hR _ _ _ _ _ ‹_› hG rfl)⟩
end
section
open Go Q Go.RowKit Go.Shelf
end
section
open Go Q Go.RowKit Go.Shelf
end
section
open Go Q Go.RowKit Go.Shelf
end
section
open Go Q Go.RowKit Go.Shelf
end
section
open Go Q Go.RowKit Go.Shelf
end
section
open Go Q Go.RowKit Go.Shelf
instance {b:Bool} {d:ByteArray} {e:Int}:Pu 61 #[.bool b,.string d,.int .i64 e] (.agg [.bool b,.string d,.int .i64 e].toArray):=⟨fun z w=>Fn1.intro fun hS=>en61 (by
 unfold vc61;(repeat (first | (refine iDr ?_; intro _ _) | refine V_run ?_ | refine PV_run ?_ | refine HV_run ?_ | refine iV_ld1 ?_ | refine iV_ldN ?_ | (refine iV_bx ?_; intro _ _ _ _) | (refine iV_al ?_; intro _ _ _ _) | (refine iV_mm ?_; intro _ _ _ _) | (refine iU_st ?_; intro _ _) | refine iHV_1 ?_ | refine iHV_N ?_ | refine iRI_1 ?_ | refine iRI_N ?_ | refine Cond_t ?_ | refine Cond_f ?_ | refine JB ?_ | (refine JC ?_; intro _ _ _ _) | (refine JGB ?_; intro _ _ _ _) | refine K1 ?_ | refine K0 ?_ | refine K2 ?_ | refine K3 ?_ | refine K4 ?_ | (refine CV_pu ?_; intro _ _ _ _) | (refine CV_puz ?_; intro _ _ _ _) | refine fRI_1 ?_ | refine fRI_N ?_ | refine gHV_lkI ?_ | refine gRI_lkI ?_ | refine gV_lkI ?_ | refine fV_ldN ?_ | refine fV_ld1 ?_ | refine fHV_ldN ?_ | refine fHV_ld1 ?_ | refine NilW_some ?_ | refine iCW_1 ?_ | refine iCW_N ?_ | refine Pk_b ?_));exact ⟨_,_,‹_›,rfl⟩)⟩
abbrev nineS:SetM:=⟨9,0,0⟩
instance:Pu 62 #[] nineS.v:=⟨fun z w=>Fn1.intro fun hS=>en62 (by
 unfold vc62;(repeat (first | (refine iDr ?_; intro _ _) | refine V_run ?_ | refine PV_run ?_ | refine HV_run ?_ | refine iV_ld1 ?_ | refine iV_ldN ?_ | (refine iV_bx ?_; intro _ _ _ _) | (refine iV_al ?_; intro _ _ _ _) | (refine iV_mm ?_; intro _ _ _ _) | (refine iU_st ?_; intro _ _) | refine iHV_1 ?_ | refine iHV_N ?_ | refine iRI_1 ?_ | refine iRI_N ?_ | refine Cond_t ?_ | refine Cond_f ?_ | refine JB ?_ | (refine JC ?_; intro _ _ _ _) | (refine JGB ?_; intro _ _ _ _) | refine K1 ?_ | refine K0 ?_ | refine K2 ?_ | refine K3 ?_ | refine K4 ?_ | (refine CV_pu ?_; intro _ _ _ _) | (refine CV_puz ?_; intro _ _ _ _) | refine fRI_1 ?_ | refine fRI_N ?_ | refine gHV_lkI ?_ | refine gRI_lkI ?_ | refine gV_lkI ?_ | refine fV_ldN ?_ | refine fV_ld1 ?_ | refine fHV_ldN ?_ | refine fHV_ld1 ?_ | refine NilW_some ?_ | refine iCW_1 ?_ | refine iCW_N ?_ | refine Pk_b ?_));exact ⟨_,_,‹_›,rfl⟩)⟩
theorem opZ {z0:Z} {op a b:ByteArray} {s:SetM} [ht:Tab z0] [ha:Ltx a] [hb:Ltx b]:PuZ z0 47 #[.string op,.string a,.string b,s.v] (opV (opR (bytes op) (bytes a) (bytes b) s)):=inferInstance
class OpIs (a o b want:ByteArray):Prop where
 h:opR (bytes o) (bytes a) (bytes b) nineS = ⟨bytes want,0,0⟩
instance {z0:Z} {a o b want:ByteArray} [ht:Tab z0] [ha:Ltx a] [hb:Ltx b] [h:OpIs a o b want]:PuZ z0 63 #[.string a,.string o,.string b,.string want] (.bool true):=⟨fun z w hz=>Fn1.intro fun hS=>en63 (by
 unfold vc63;haveI:Tab z:=ht.le hz;haveI:PuZ z 47 #[.string o,.string a,.string b,nineS.v] (.tuple #[.string want,.int .i64 0,.int .i64 0]):=by
  have:=opZ (z0:=z) (op:=o) (a:=a) (b:=b) (s:=nineS);rw [h.h] at this;have e:strB (bytes want) = want:=strB_bytes want;rw [opV,e] at this;exact this
 (repeat (first | (refine iDr ?_; intro _ _) | refine V_run ?_ | refine PV_run ?_ | refine HV_run ?_ | refine iV_ld1 ?_ | refine iV_ldN ?_ | (refine iV_bx ?_; intro _ _ _ _) | (refine iV_al ?_; intro _ _ _ _) | (refine iV_mm ?_; intro _ _ _ _) | (refine iU_st ?_; intro _ _) | refine iHV_1 ?_ | refine iHV_N ?_ | refine iRI_1 ?_ | refine iRI_N ?_ | refine Cond_t ?_ | refine Cond_f ?_ | refine JB ?_ | (refine JC ?_; intro _ _ _ _) | (refine JGB ?_; intro _ _ _ _) | refine K1 ?_ | refine K0 ?_ | refine K2 ?_ | refine K3 ?_ | refine K4 ?_ | (refine CV_pu ?_; intro _ _ _ _) | (refine CV_puz ?_; intro _ _ _ _) | refine fRI_1 ?_ | refine fRI_N ?_ | refine gHV_lkI ?_ | refine gRI_lkI ?_ | refine gV_lkI ?_ | refine fV_ldN ?_ | refine fV_ld1 ?_ | refine fHV_ldN ?_ | refine fHV_ld1 ?_ | refine NilW_some ?_ | refine iCW_1 ?_ | refine iCW_N ?_ | refine Pk_b ?_));exact ⟨_,_,‹_›,by simp⟩)⟩
instance:OpIs ⟨#[49,46,50,48]⟩ ⟨#[43]⟩ ⟨#[48,46,51,48]⟩ ⟨#[49,46,53,48]⟩:=⟨by kernel_rfl⟩
instance:OpIs ⟨#[49,46,53]⟩ ⟨#[42]⟩ ⟨#[50]⟩ ⟨#[51,46,48]⟩:=⟨by kernel_rfl⟩
instance:OpIs ⟨#[49]⟩ ⟨#[47]⟩ ⟨#[51]⟩ ⟨#[48,46,51,51,51,51,51,51,51,51,51]⟩:=⟨by kernel_rfl⟩
instance:OpIs ⟨#[55]⟩ ⟨#[37]⟩ ⟨#[45,50]⟩ ⟨#[45,51]⟩:=⟨by kernel_rfl⟩
instance:OpIs ⟨#[45,55]⟩ ⟨#[47,47]⟩ ⟨#[50]⟩ ⟨#[45,49]⟩:=⟨by kernel_rfl⟩
instance:OpIs ⟨#[50]⟩ ⟨#[42,42]⟩ ⟨#[45,51]⟩ ⟨#[48,46,49,50,53]⟩:=⟨by kernel_rfl⟩
instance:OpIs ⟨#[49,48,48,48,48,48,48,48,48,48]⟩ ⟨#[43]⟩ ⟨#[49]⟩ ⟨#[49,46,48,48,48,48,48,48,48,48,69,43,57]⟩:=⟨by kernel_rfl⟩
instance:OpIs ⟨#[32,49,46,48,32]⟩ ⟨#[61]⟩ ⟨#[49]⟩ ⟨#[49]⟩:=⟨by kernel_rfl⟩
instance:OpIs ⟨#[97,32]⟩ ⟨#[61]⟩ ⟨#[97]⟩ ⟨#[49]⟩:=⟨by kernel_rfl⟩
instance:OpIs ⟨#[97]⟩ ⟨#[60]⟩ ⟨#[98]⟩ ⟨#[49]⟩:=⟨by kernel_rfl⟩
end
section
open Go Q Go.RowKit Go.Shelf
theorem readI {s:ByteArray}:Pu 31 #[.string s] (resV (rdR (readO (bytes s)))):=inferInstance
theorem roundI {x:NumM} {d:Int} [hx:Sm x.digits]:Pu 40 #[x.v,.int .i64 d] (resV (opd1 x d)):=inferInstance
theorem divI {x y:NumM} {d:Int} [hx:Sm x.digits] [hy:Sm y.digits]:Pu 46 #[x.v,y.v,.int .i64 d] (divV (divR x y d)):=inferInstance
theorem tellZ {z0:Z} {x:NumM} {s:SetM} [ht:Tab z0] [hx:Sm x.digits]:PuZ z0 35 #[x.v,s.v] (.tuple #[.string (strB (tellR x s).1),.int .i64 (tellR x s).2]):=inferInstance
instance {c:UInt8}:Sm ⟨#[c]⟩:=⟨by show 1 <= big; decide⟩
instance {c d:UInt8}:Sm ⟨#[c,d]⟩:=⟨by show 2 <= big; decide⟩
instance {c0:UInt8}:Ltx ⟨#[c0]⟩:=⟨by show 1 <= 500000; decide⟩
instance {c0 c1:UInt8}:Ltx ⟨#[c0,c1]⟩:=⟨by show 2 <= 500000; decide⟩
instance {c0 c1 c2:UInt8}:Ltx ⟨#[c0,c1,c2]⟩:=⟨by show 3 <= 500000; decide⟩
instance {c0 c1 c2 c3:UInt8}:Ltx ⟨#[c0,c1,c2,c3]⟩:=⟨by show 4 <= 500000; decide⟩
instance {c0 c1 c2 c3 c4:UInt8}:Ltx ⟨#[c0,c1,c2,c3,c4]⟩:=⟨by show 5 <= 500000; decide⟩
instance {c0 c1 c2 c3 c4 c5 c6 c7 c8 c9:UInt8}:Ltx ⟨#[c0,c1,c2,c3,c4,c5,c6,c7,c8,c9]⟩:=⟨by show 10 <= 500000; decide⟩
instance sane_pu {z0:Z} [ht:Tab z0]:PuZ z0 18 #[] (.bool true):=⟨fun z w hz=>Fn1.intro fun hS=>en18 (by
 unfold vc18;haveI:Tab z:=ht.le hz;haveI:Pu 31 #[.string ⟨#[32,32,45,32,48,49,50,46,53,48,101,49]⟩] (.tuple #[.agg [.bool true,.string ⟨#[49,50,53,48]⟩,.int .i64 (-1)].toArray,.int .i64 0]):=by
  have:=readI (s:=⟨#[32,32,45,32,48,49,50,46,53,48,101,49]⟩);rw [show resV (rdR (readO (bytes ⟨#[32,32,45,32,48,49,50,46,53,48,101,49]⟩))) = .tuple #[.agg [.bool true,.string ⟨#[49,50,53,48]⟩,.int .i64 (-1)].toArray,.int .i64 0] by kernel_rfl] at this;exact this
 haveI:Pu 31 #[.string ⟨#[49,69,49,48,48,48]⟩] (.tuple #[.agg [.bool false,.string ⟨#[]⟩,.int .i64 0].toArray,.int .i64 2]):=by
  have:=readI (s:=⟨#[49,69,49,48,48,48]⟩);rw [show resV (rdR (readO (bytes ⟨#[49,69,49,48,48,48]⟩))) = .tuple #[.agg [.bool false,.string ⟨#[]⟩,.int .i64 0].toArray,.int .i64 2] by kernel_rfl] at this;exact this
 have tellE:∀ (d w:ByteArray) (e f:Int) [Sm d],(strB (tellR ⟨false,d,e⟩ ⟨9,0,f⟩).1) = w->(tellR ⟨false,d,e⟩ ⟨9,0,f⟩).2 = 0->PuZ z 35 #[.agg [.bool false,.string d,.int .i64 e].toArray,.agg [.int .i64 9,.int .i64 0,.int .i64 f].toArray] (.tuple #[.string w,.int .i64 0]):=by
  intro d w e f hd h1 h2;have:=tellZ (z0:=z) (x:=⟨false,d,e⟩) (s:=⟨9,0,f⟩);rw [h1,h2] at this;exact this
 haveI:=tellE ⟨#[49,53]⟩ ⟨#[49,46,53,69,43,57]⟩ 8 0 (by kernel_rfl) (by kernel_rfl);haveI:=tellE ⟨#[49]⟩ ⟨#[49,48,69,43,57]⟩ 10 1 (by kernel_rfl) (by kernel_rfl);haveI:=tellE ⟨#[53]⟩ ⟨#[48,46,48,48,48,48,48,48,48,48,48,48,48,48,48,48,48,48,48,53]⟩ (-18) 0 (by kernel_rfl) (by kernel_rfl);haveI:=tellE ⟨#[53]⟩ ⟨#[53,69,45,49,57]⟩ (-19) 0 (by kernel_rfl) (by kernel_rfl);haveI:Pu 40 #[.agg [.bool false,.string ⟨#[57,57,57,53]⟩,.int .i64 0].toArray,.int .i64 3] (.tuple #[.agg [.bool false,.string ⟨#[49,48,48]⟩,.int .i64 2].toArray,.int .i64 0]):=by
  haveI:Sm (⟨false,⟨#[57,57,57,53]⟩,0⟩:NumM).digits:=⟨by show 4 <= big; decide⟩
  have:=roundI (x:=⟨false,⟨#[57,57,57,53]⟩,0⟩) (d:=3);rw [show resV (opd1 ⟨false,⟨#[57,57,57,53]⟩,0⟩ 3) = .tuple #[.agg [.bool false,.string ⟨#[49,48,48]⟩,.int .i64 2].toArray,.int .i64 0] by kernel_rfl] at this;exact this
 haveI:Pu 46 #[.agg [.bool false,.string ⟨#[50]⟩,.int .i64 0].toArray,.agg [.bool false,.string ⟨#[51]⟩,.int .i64 0].toArray,.int .i64 3] (.tuple #[.agg [.bool false,.string ⟨#[54,54,55]⟩,.int .i64 (-3)].toArray,.agg [.string ⟨#[54,54,54,54]⟩,.string ⟨#[50]⟩].toArray,.int .i64 0]):=by
  haveI:Sm (⟨false,⟨#[50]⟩,0⟩:NumM).digits:=⟨by show 1 <= big; decide⟩
  haveI:Sm (⟨false,⟨#[51]⟩,0⟩:NumM).digits:=⟨by show 1 <= big; decide⟩
  have:=divI (x:=⟨false,⟨#[50]⟩,0⟩) (y:=⟨false,⟨#[51]⟩,0⟩) (d:=3);rw [show divV (divR ⟨false,⟨#[50]⟩,0⟩ ⟨false,⟨#[51]⟩,0⟩ 3) = .tuple #[.agg [.bool false,.string ⟨#[54,54,55]⟩,.int .i64 (-3)].toArray,.agg [.string ⟨#[54,54,54,54]⟩,.string ⟨#[50]⟩].toArray,.int .i64 0] by kernel_rfl] at this;exact this
 (repeat (first | (refine iDr ?_; intro _ _) | refine V_run ?_ | refine PV_run ?_ | refine HV_run ?_ | refine iV_ld1 ?_ | refine iV_ldN ?_ | (refine iV_bx ?_; intro _ _ _ _) | (refine iV_al ?_; intro _ _ _ _) | (refine iV_mm ?_; intro _ _ _ _) | (refine iU_st ?_; intro _ _) | refine iHV_1 ?_ | refine iHV_N ?_ | refine iRI_1 ?_ | refine iRI_N ?_ | refine Cond_t ?_ | refine Cond_f ?_ | refine JB ?_ | (refine JC ?_; intro _ _ _ _) | (refine JGB ?_; intro _ _ _ _) | refine K1 ?_ | refine K0 ?_ | refine K2 ?_ | refine K3 ?_ | refine K4 ?_ | (refine CV_pu ?_; intro _ _ _ _) | (refine CV_puz ?_; intro _ _ _ _) | refine fRI_1 ?_ | refine fRI_N ?_ | refine gHV_lkI ?_ | refine gRI_lkI ?_ | refine gV_lkI ?_ | refine fV_ldN ?_ | refine fV_ld1 ?_ | refine fHV_ldN ?_ | refine fHV_ld1 ?_ | refine NilW_some ?_ | refine iCW_1 ?_ | refine iCW_N ?_ | refine Pk_b ?_));(repeat (first | (refine iDr ?_; intro _ _) | refine V_run ?_ | refine PV_run ?_ | refine HV_run ?_ | refine iV_ld1 ?_ | refine iV_ldN ?_ | (refine iV_bx ?_; intro _ _ _ _) | (refine iV_al ?_; intro _ _ _ _) | (refine iV_mm ?_; intro _ _ _ _) | (refine iU_st ?_; intro _ _) | refine iHV_1 ?_ | refine iHV_N ?_ | refine iRI_1 ?_ | refine iRI_N ?_ | refine Cond_t ?_ | refine Cond_f ?_ | refine JB ?_ | (refine JC ?_; intro _ _ _ _) | (refine JGB ?_; intro _ _ _ _) | (refine J1 ?_; intro _ _) | (refine J0 ?_; intro _ _) | (refine J2 ?_; intro _ _) | (refine J3 ?_; intro _ _) | (refine J4 ?_; intro _ _) | refine K1 ?_ | refine K0 ?_ | refine K2 ?_ | refine K3 ?_ | refine K4 ?_ | (refine CV_pu ?_; intro _ _ _ _) | (refine CV_puz ?_; intro _ _ _ _) | refine fRI_1 ?_ | refine fRI_N ?_ | refine gHV_lkI ?_ | refine gRI_lkI ?_ | refine gV_lkI ?_ | refine fV_ldN ?_ | refine fV_ld1 ?_ | refine fHV_ldN ?_ | refine fHV_ld1 ?_ | refine NilW_some ?_ | refine iCW_1 ?_ | refine iCW_N ?_ | refine Pk_b ?_));exact ⟨_,_,‹_›,by kernel_rfl⟩)⟩
end
section
open Go Q Go.RowKit Go.Shelf
instance {x y:NumM}:Pu 17 #[x.v,y.v] (.bool (decide ((x.digits.size:Int) <= 1100) && decide ((y.digits.size:Int) <= 1100))):=⟨fun z w=>Fn1.intro fun hS=>en17 (by
 unfold vc17;(repeat (first | (refine iDr ?_; intro _ _) | refine V_run ?_ | refine PV_run ?_ | refine HV_run ?_ | refine iV_ld1 ?_ | refine iV_ldN ?_ | (refine iV_bx ?_; intro _ _ _ _) | (refine iV_al ?_; intro _ _ _ _) | (refine iV_mm ?_; intro _ _ _ _) | (refine iU_st ?_; intro _ _) | refine iHV_1 ?_ | refine iHV_N ?_ | refine iRI_1 ?_ | refine iRI_N ?_ | refine Cond_t ?_ | refine Cond_f ?_ | refine JB ?_ | (refine JC ?_; intro _ _ _ _) | (refine JGB ?_; intro _ _ _ _) | refine K1 ?_ | refine K0 ?_ | refine K2 ?_ | refine K3 ?_ | refine K4 ?_ | (refine CV_pu ?_; intro _ _ _ _) | (refine CV_puz ?_; intro _ _ _ _) | refine fRI_1 ?_ | refine fRI_N ?_ | refine gHV_lkI ?_ | refine gRI_lkI ?_ | refine gV_lkI ?_ | refine fV_ldN ?_ | refine fV_ld1 ?_ | refine fHV_ldN ?_ | refine fHV_ld1 ?_ | refine NilW_some ?_ | refine iCW_1 ?_ | refine iCW_N ?_ | refine Pk_b ?_));exact ⟨_,_,‹_›,by cases decide ((x.digits.size:Int) <= 1100) <;> rfl⟩)⟩
theorem law_compares {z:Z} {w:World} {x y:NumM} {s:SetM} {d:Int} [hx:Sm x.digits] [hy:Sm y.digits] [ht:Tab z]:Fn1 5 #[x.v,y.v,s.v,.int .i64 d] z w fun _ r=>r = .bool true:=Fn1.intro fun hS=>en5 (by
 unfold vc5;(repeat (first | (refine iDr ?_; intro _ _) | refine V_run ?_ | refine PV_run ?_ | refine HV_run ?_ | refine iV_ld1 ?_ | refine iV_ldN ?_ | (refine iV_bx ?_; intro _ _ _ _) | (refine iV_al ?_; intro _ _ _ _) | (refine iV_mm ?_; intro _ _ _ _) | (refine iU_st ?_; intro _ _) | refine iHV_1 ?_ | refine iHV_N ?_ | refine iRI_1 ?_ | refine iRI_N ?_ | refine Cond_t ?_ | refine Cond_f ?_ | refine JB ?_ | (refine JC ?_; intro _ _ _ _) | (refine JGB ?_; intro _ _ _ _) | refine K1 ?_ | refine K0 ?_ | refine K2 ?_ | refine K3 ?_ | refine K4 ?_ | (refine CV_pu ?_; intro _ _ _ _) | (refine CV_puz ?_; intro _ _ _ _) | refine fRI_1 ?_ | refine fRI_N ?_ | refine gHV_lkI ?_ | refine gRI_lkI ?_ | refine gV_lkI ?_ | refine fV_ldN ?_ | refine fV_ld1 ?_ | refine fHV_ldN ?_ | refine fHV_ld1 ?_ | refine NilW_some ?_ | refine iCW_1 ?_ | refine iCW_N ?_ | refine Pk_b ?_));refine Cond_n (fun h=>?_) (fun h=>?_)
 ·(repeat (first | (refine iDr ?_; intro _ _) | refine V_run ?_ | refine PV_run ?_ | refine HV_run ?_ | refine iV_ld1 ?_ | refine iV_ldN ?_ | (refine iV_bx ?_; intro _ _ _ _) | (refine iV_al ?_; intro _ _ _ _) | (refine iV_mm ?_; intro _ _ _ _) | (refine iU_st ?_; intro _ _) | refine iHV_1 ?_ | refine iHV_N ?_ | refine iRI_1 ?_ | refine iRI_N ?_ | refine Cond_t ?_ | refine Cond_f ?_ | refine JB ?_ | (refine JC ?_; intro _ _ _ _) | (refine JGB ?_; intro _ _ _ _) | refine K1 ?_ | refine K0 ?_ | refine K2 ?_ | refine K3 ?_ | refine K4 ?_ | (refine CV_pu ?_; intro _ _ _ _) | (refine CV_puz ?_; intro _ _ _ _) | refine fRI_1 ?_ | refine fRI_N ?_ | refine gHV_lkI ?_ | refine gRI_lkI ?_ | refine gV_lkI ?_ | refine fV_ldN ?_ | refine fV_ld1 ?_ | refine fHV_ldN ?_ | refine fHV_ld1 ?_ | refine NilW_some ?_ | refine iCW_1 ?_ | refine iCW_N ?_ | refine Pk_b ?_))
  exact ⟨_,_,‹_›,rfl⟩
 ·(repeat (first | (refine iDr ?_; intro _ _) | refine V_run ?_ | refine PV_run ?_ | refine HV_run ?_ | refine iV_ld1 ?_ | refine iV_ldN ?_ | (refine iV_bx ?_; intro _ _ _ _) | (refine iV_al ?_; intro _ _ _ _) | (refine iV_mm ?_; intro _ _ _ _) | (refine iU_st ?_; intro _ _) | refine iHV_1 ?_ | refine iHV_N ?_ | refine iRI_1 ?_ | refine iRI_N ?_ | refine Cond_t ?_ | refine Cond_f ?_ | refine JB ?_ | (refine JC ?_; intro _ _ _ _) | (refine JGB ?_; intro _ _ _ _) | refine K1 ?_ | refine K0 ?_ | refine K2 ?_ | refine K3 ?_ | refine K4 ?_ | (refine CV_pu ?_; intro _ _ _ _) | (refine CV_puz ?_; intro _ _ _ _) | refine fRI_1 ?_ | refine fRI_N ?_ | refine gHV_lkI ?_ | refine gRI_lkI ?_ | refine gV_lkI ?_ | refine fV_ldN ?_ | refine fV_ld1 ?_ | refine fHV_ldN ?_ | refine fHV_ld1 ?_ | refine NilW_some ?_ | refine iCW_1 ?_ | refine iCW_N ?_ | refine Pk_b ?_))
  exact ⟨_,_,‹_›,by simp⟩)
end
section
open Go Q Go.RowKit Go.ChangeShapes Go.WideShapes Go.ChangeAt
theorem ownK:ownKnob Tryz.prog.godebug = none:=by kernel_rfl
theorem laidOutP:laidOutB Tryz.prog = true:=by kernel_rfl
theorem own_start (w:World):Own w (hp w) []:=Own.mk' (fun _ _ h=>h) (fun _ h=>by cases h) List.nodup_nil
theorem u4:Tryz.prog.underlying 4 = some .bool:=by kernel_rfl
theorem u3:Tryz.prog.underlying 3 = some (.int .i64):=by kernel_rfl
theorem u9:Tryz.prog.underlying 9 = some .string:=by kernel_rfl
section
variable {H:Type} {enc:TypeId × Value->H} {P:Program}
def Stays (P:Program) (t:TypeId):Prop:=P.readableRec t = true/\t < P.types.size
theorem trodAll_stays (hl:laidOutB P = true) {W W':World} {sp:Nat->Bool} (hB:Below W.heap.size W W') :
  ∀ {ts:List TypeId} {vs:List Value} {ds:List (DataW H)} {ps:List MemPlace},(∀ t ∈ ts,Stays P t)->DataW.TrodAll enc P W 0 (fun _=>true) true ts vs ds ps->(∀ p ∈ ps,p.block < W.heap.size)->(∀ p ∈ ps,sp p.block = true)->DataW.TrodAll enc P W' 0 sp true ts vs ds ps
 | [],[],[],_,_,h,_,_=>h
 | _ :: _,_ :: _,_ :: _,_,hT,⟨p,q,h1,h2,e⟩,hlt,hs=>⟨p,q,
   WideElems.Trod_stays hl (hT _ List.mem_cons_self).1 (hT _ List.mem_cons_self).2 h1 (fun x hx=>hB.same (hlt x (by rw [e]; exact List.mem_append_left _ hx))) (fun x hx=>hs x (by rw [e]; exact List.mem_append_left _ hx)),
   trodAll_stays hl hB (fun t ht=>hT t (List.mem_cons_of_mem _ ht)) h2 (fun x hx=>hlt x (by rw [e]; exact List.mem_append_right _ hx)) (fun x hx=>hs x (by rw [e]; exact List.mem_append_right _ hx)),e⟩
theorem post_law (hl:laidOutB P = true) {f:Func} {s:ChangeSpec} {apart fresh handsOn again:Bool} {W W':World} {args:Array Value} {ds gs:List (DataW H)} {before:List MemPlace} {tb:TypeId}
  (hW:DataW.Whole enc P f.params.toList s.vars apart W args.toList ds gs before) (hB:Below W.heap.size W W')
  (hr:f.resultTypes = #[tb]) (hu:P.underlying tb = some .bool) (hT:∀ t ∈ f.params.toList,Stays P t) (hv:s.vars = [])
  (h1:(s.fn H (ds ++ gs)).results = [.lit (.bool true)]) (h2:(s.fn H (ds ++ gs)).args = ds) (h3:(s.fn H (ds ++ gs)).vars = []) :
  s.post enc P f apart fresh handsOn again W args (.bool true) W':=by
 have hlt:=hW.lt;obtain ⟨pa,pv,hA,hV,rfl,hz,hn⟩:=id hW;rw [hv] at hV;obtain ⟨rfl,rfl⟩:=trodVars_none hV;have hargs:∀ sp:Nat->Bool,(∀ p ∈ pa,sp p.block = true)->DataW.TrodAll enc P W' 0 sp true f.params.toList args.toList (s.fn H (ds ++ [])).args pa:=fun sp hsp=>by
  rw [h2]; exact trodAll_stays hl hB hT hA (fun p hp=>hlt p (by simpa using hp)) hsp
 have hres:∀ (b:Nat) (sp:Nat->Bool) (hd:Bool),DataW.TrodAll enc P W' b sp hd f.resultTypes.toList ((Value.bool true).resultList f.resultTypes.size) (s.fn H (ds ++ [])).results []:=fun b sp hd=>by
  rw [h1,hr]; exact trodAll_cons_mk (shut_bool hu _) trodAll_mk0
 have hvars:∀ sp:Nat->Bool,DataW.TrodVars enc P W' sp s.vars (s.fn H (ds ++ [])).vars []:=fun sp=>by rw [hv,h3]; rfl
 have hold:∀ p ∈ pa,(fun b=>decide (b < W.heap.size)) p.block = true:=fun p hp=>by simpa using hlt p (by simpa using hp)
 refine ⟨ds,[],pa ++ [],[],pa,[],hW,hres _ _ _,hargs _ hold,hvars _,hB.frame _,fun _=>⟨?_,_,_,([] ++ pa) ++ [],⟨[] ++ pa,[],trodAll_append (hargs _ (fun _ _=>rfl)) (hres _ _ _),hvars _,rfl,?_,?_⟩,?_⟩⟩
 ·exact ok_one hr rfl (okWide_bool_mk hu _)
 ·intro b off hp
  have hp':MemPlace.cell b off ∈ pa ++ []:=by simpa using hp
  rw [hB.frozen (p:=⟨b,off,none⟩) (hlt _ hp')];exact hz b off hp'
 ·intro ha
  simpa using hn ha
 ·intro p hp _
  simpa using hp
end
theorem post_fn1 {H:Type} {enc:TypeId × Value->H} {k:FuncId} {f:Func} {s:ChangeSpec} {apart fresh handsOn again:Bool} {W:World} {args:Array Value} {ds gs:List (DataW H)} {before:List MemPlace}
  (hW:DataW.Whole enc Tryz.prog f.params.toList s.vars apart W args.toList ds gs before)
  (hc:Fn1 k args (hp W) W fun _ r=>r = .bool true)
  (hr:f.resultTypes = #[4]) (hT:∀ t ∈ f.params.toList,Stays Tryz.prog t) (hv:s.vars = [])
  (h1:(s.fn H (ds ++ gs)).results = [.lit (.bool true)]) (h2:(s.fn H (ds ++ gs)).args = ds) (h3:(s.fn H (ds ++ gs)).vars = []) :
  Calls Tryz.prog k args W fun e W'=>∃ v,e = .returned v/\s.post enc Tryz.prog f apart fresh handsOn again W args v W':=by
 refine (hc (own_start W)).mono fun e W' he=>?_
 cases e with
 | returned v=>
  obtain ⟨z',hR,rfl⟩:=he;exact ⟨_,rfl,post_law laidOutP hW hR.below hr u4 hT hv h1 h2 h3⟩
 | _=>exact he.elim
section
variable {H:Type} {enc:TypeId × Value->H} {w:World} {base:Nat} {spare:Nat->Bool} {held:Bool}
theorem fieldAt' {t:TypeId} (hu:Tryz.prog.underlying t = some (.struct (fieldsOf t))) {i ty off:Nat} (hi:((fieldsOf t).toList.map fun f=>(f.type,f.offset))[i]? = some (ty,off)):∃ f,(fieldsOf t)[i]? = some f/\f.type = ty/\f.offset = off:=by
 rw [List.getElem?_map] at hi;obtain ⟨f,h1,h2⟩:=Option.map_eq_some_iff.1 hi;simp only [Prod.mk.injEq] at h2;exact ⟨f,by simpa using h1,h2.1,h2.2⟩
theorem unum:Tryz.prog.underlying 23 = some (.struct (fieldsOf 23)):=by kernel_rfl
theorem num_read {n:Nat} {cs:List Value} {x:DataW H × List MemPlace} (h:DataW.trod enc Tryz.prog w base spare held n 23 cs = some x):∃ o:NumM,cs = o.cells/\o.digits.size <= maxLen:=by
 obtain ⟨xs,m,_,_,hl,hxl,hf⟩:=DataW.trod_struct unum h;have hc4:Tryz.prog.cellsOf 23 = 3:=by kernel_rfl
 rw [hc4] at hl;obtain ⟨f0,a0,b0,c0⟩:=fieldAt' unum (i:=0) (ty:=4) (off:=0) (by kernel_rfl);have h0:=hf 0 f0 a0;obtain ⟨f1,a1,b1,c1⟩:=fieldAt' unum (i:=1) (ty:=9) (off:=1) (by kernel_rfl);have h1:=hf 1 f1 a1;obtain ⟨f2,a2,b2,c2⟩:=fieldAt' unum (i:=2) (ty:=3) (off:=2) (by kernel_rfl);have h2:=hf 2 f2 a2;have hsz:(fieldsOf 23).size = 3:=by kernel_rfl
 rw [hsz] at hxl;rw [b0,c0,show Tryz.prog.cellsOf 4 = 1 by kernel_rfl] at h0;rw [b1,c1,show Tryz.prog.cellsOf 9 = 1 by kernel_rfl] at h1;rw [b2,c2,show Tryz.prog.cellsOf 3 = 1 by kernel_rfl] at h2
 match xs,hxl,cs,hl with
 | [x0,x1,x2],_,[v0,v1,v2],_=>
  obtain ⟨m0,g0,_⟩:=DataW.trod_bool u4 (x:=x0) (by simpa using h0);obtain ⟨m1,g1,_,hs1⟩:=DataW.trod_string u9 (x:=x1) (by simpa using h1);obtain ⟨m2,g2,_⟩:=DataW.trod_int u3 (x:=x2) (by simpa using h2);simp at g0 g1 g2;subst g0; subst g1; subst g2;exact ⟨⟨m0,m1,m2⟩,rfl,hs1⟩
theorem numArg {r:Reach} {b0 n:Nat} {v:Value} {x:DataW H × List MemPlace} (hval:Value.okWide Tryz.prog w r b0 23 v) (h:DataW.trod enc Tryz.prog w base spare held n 23 v.cells.toList = some x):∃ o:NumM,v = o.v/\Sm o.digits:=by
 have hv:∃ cs,v = .agg cs:=by
  simp only [Value.okWide,unum] at hval;exact ⟨_,hval.choose_spec.1⟩
 obtain ⟨cs,rfl⟩:=hv;obtain ⟨o,ho,hs⟩:=num_read h
 cases cs with
 | mk l=>
  simp only [Value.cells] at ho;exact ⟨o,by rw [ho],⟨by simp only [big]; simp only [maxLen] at hs; omega⟩⟩
theorem uset:Tryz.prog.underlying 39 = some (.struct (fieldsOf 39)):=by kernel_rfl
theorem set_read {n:Nat} {cs:List Value} {x:DataW H × List MemPlace} (h:DataW.trod enc Tryz.prog w base spare held n 39 cs = some x):∃ o:SetM,cs = o.cells:=by
 obtain ⟨xs,m,_,_,hl,hxl,hf⟩:=DataW.trod_struct uset h;have hc4:Tryz.prog.cellsOf 39 = 3:=by kernel_rfl
 rw [hc4] at hl;obtain ⟨f0,a0,b0,c0⟩:=fieldAt' uset (i:=0) (ty:=3) (off:=0) (by kernel_rfl);have h0:=hf 0 f0 a0;obtain ⟨f1,a1,b1,c1⟩:=fieldAt' uset (i:=1) (ty:=3) (off:=1) (by kernel_rfl);have h1:=hf 1 f1 a1;obtain ⟨f2,a2,b2,c2⟩:=fieldAt' uset (i:=2) (ty:=3) (off:=2) (by kernel_rfl);have h2:=hf 2 f2 a2;have hsz:(fieldsOf 39).size = 3:=by kernel_rfl
 rw [hsz] at hxl;rw [b0,c0,show Tryz.prog.cellsOf 3 = 1 by kernel_rfl] at h0;rw [b1,c1,show Tryz.prog.cellsOf 3 = 1 by kernel_rfl] at h1;rw [b2,c2,show Tryz.prog.cellsOf 3 = 1 by kernel_rfl] at h2
 match xs,hxl,cs,hl with
 | [x0,x1,x2],_,[v0,v1,v2],_=>
  obtain ⟨m0,g0,_⟩:=DataW.trod_int u3 (x:=x0) (by simpa using h0);obtain ⟨m1,g1,_⟩:=DataW.trod_int u3 (x:=x1) (by simpa using h1);obtain ⟨m2,g2,_⟩:=DataW.trod_int u3 (x:=x2) (by simpa using h2);simp at g0 g1 g2;subst g0; subst g1; subst g2;exact ⟨⟨m0,m1,m2⟩,rfl⟩
theorem setArg {r:Reach} {b0 n:Nat} {v:Value} {x:DataW H × List MemPlace} (hval:Value.okWide Tryz.prog w r b0 39 v) (h:DataW.trod enc Tryz.prog w base spare held n 39 v.cells.toList = some x):∃ o:SetM,v = o.v:=by
 have hv:∃ cs,v = .agg cs:=by
  simp only [Value.okWide,uset] at hval;exact ⟨_,hval.choose_spec.1⟩
 obtain ⟨cs,rfl⟩:=hv;obtain ⟨o,ho⟩:=set_read h
 cases cs with
 | mk l=>
  simp only [Value.cells] at ho;exact ⟨o,by rw [ho]⟩
end
theorem stays_3:Stays Tryz.prog 3:=⟨by kernel_rfl,of_decide_eq_true (by kernel_rfl)⟩
theorem stays_num:Stays Tryz.prog 23:=⟨by kernel_rfl,of_decide_eq_true (by kernel_rfl)⟩
theorem stays_set:Stays Tryz.prog 39:=⟨by kernel_rfl,of_decide_eq_true (by kernel_rfl)⟩
theorem tab_start {W:World} (h:Lib.TabIs Tryz.prog W "internal/strconv.uint64pow10" .u64 Lib.pow10Tab):Tab (hp W):=⟨fun w hw=>by
 unfold Lib.TabIs World.var? at *
 cases hg:Tryz.prog.globalNamed "internal/strconv.uint64pow10" with
 | none=>simp [hg] at h
 | some g=>
  simp only [hg,Option.bind_some] at h ⊢
  cases ho:W.heap[g]? with
  | none=>rw [ho] at h; simp at h
  | some o=>rw [hw g o ho,<- ho]; exact h⟩
theorem laidVars_tab {P:Program} {W:World} {name:String} {k:IntKind} {zs:List Int} {rest:List (String × DataW Unit)} {ps:List MemPlace} {g:Nat} {t e:TypeId} {n:Nat}
  (hg:P.globalNamed name = some g) (hty:(P.globals[g]?).map (·.type) = some t) (ht:P.underlying t = some (.array n e)) (he:P.underlying e = some (.int k)) (hce:P.cellsOf e = 1) (hct:P.cellsOf t = n)
  (h:DataW.LaidVars P W ((name,Lib.tabData k zs) :: rest) ps):Lib.TabIs P W name k zs:=by
 obtain ⟨g',t',cs,fuel,p,q,hg',ht',hvar,hd,_,_⟩:=h;obtain rfl:=Option.some.inj (hg.symm.trans hg');obtain rfl:=Option.some.inj (hty.symm.trans ht');unfold Lib.TabIs;rw [hvar,<- Lib.cells_of_tab ht he hce hct hd]
theorem tab_of {W:World} {a b:String × DataW Unit} {rest:List (String × DataW Unit)} (h:laidMet Tryz.prog (a :: b :: ("internal/strconv.uint64pow10",Rows.laid_internal_strconv_uint64pow10) :: rest) W):Lib.TabIs Tryz.prog W "internal/strconv.uint64pow10" .u64 Lib.pow10Tab:=by
 obtain ⟨ps,hv,_⟩:=h;obtain ⟨a1,b1⟩:=a;obtain ⟨a2,b2⟩:=b;obtain ⟨_,_,_,_,_,_,_,_,_,_,hv,_⟩:=hv;obtain ⟨_,_,_,_,_,_,_,_,_,_,hv,_⟩:=hv;exact laidVars_tab (g:=5) (t:=216) (n:=20) (e:=188) (by kernel_rfl) (by kernel_rfl) (by kernel_rfl) (by kernel_rfl) (by kernel_rfl) (by kernel_rfl) (show DataW.LaidVars Tryz.prog W (("internal/strconv.uint64pow10",Lib.tabData .u64 Lib.pow10Tab) :: rest) _ from hv)
end
end Go.Proofs.YtmideenmlhbdjaaGreatDoor
