/- Texts joined: W74, W75, W76, W77, W78, W79, W80, W81, K1. -/
import Derived.Test.YtmideenmlhbdjaaGreatDoorM5
import Derived.Test.YtmideenmlhbdjaaGreatDoorRows
import Derived.WalkKit
import Derived.ProofKit
import Derived.OpenShut
import Derived.Carry
import Derived.Deep.Slices
import Derived.ChangeMaps5
import Derived.LaidMore
import Derived.Lay
set_option linter.unusedSimpArgs false
set_option linter.unusedVariables false
set_option linter.unusedSectionVars false
set_option maxRecDepth 100000
set_option synthInstance.maxHeartbeats 4000000
set_option synthInstance.maxSize 20000
set_option maxHeartbeats 4000000
namespace Go.Proofs.YtmideenmlhbdjaaGreatDoor
section
open Go Q Go.RowKit Go.Shelf
theorem law_roundtrip {z:Z} {w:World} {x:NumM} {s:SetM} [ht:Tab z] [hx:Sm x.digits]:Fn1 8 #[x.v,s.v] z w fun _ r=>r = .bool true:=Fn1.intro fun hS=>en8 (by
 unfold vc8;(repeat (first | (refine iDr ?_; intro _ _) | refine V_run ?_ | refine PV_run ?_ | refine HV_run ?_ | refine iV_ld1 ?_ | refine iV_ldN ?_ | (refine iV_bx ?_; intro _ _ _ _) | (refine iV_al ?_; intro _ _ _ _) | (refine iV_mm ?_; intro _ _ _ _) | (refine iU_st ?_; intro _ _) | refine iHV_1 ?_ | refine iHV_N ?_ | refine iRI_1 ?_ | refine iRI_N ?_ | refine Cond_t ?_ | refine Cond_f ?_ | refine JB ?_ | (refine JC ?_; intro _ _ _ _) | (refine JGB ?_; intro _ _ _ _) | refine K1 ?_ | refine K0 ?_ | refine K2 ?_ | refine K3 ?_ | refine K4 ?_ | (refine CV_pu ?_; intro _ _ _ _) | (refine CV_puz ?_; intro _ _ _ _) | refine fRI_1 ?_ | refine fRI_N ?_ | refine gHV_lkI ?_ | refine gRI_lkI ?_ | refine gV_lkI ?_ | refine fV_ldN ?_ | refine fV_ld1 ?_ | refine fHV_ldN ?_ | refine fHV_ld1 ?_ | refine NilW_some ?_ | refine iCW_1 ?_ | refine iCW_N ?_ | refine Pk_b ?_));refine Cond_b (fun h=>?_) (fun h=>?_)
 ·(repeat (first | (refine iDr ?_; intro _ _) | refine V_run ?_ | refine PV_run ?_ | refine HV_run ?_ | refine iV_ld1 ?_ | refine iV_ldN ?_ | (refine iV_bx ?_; intro _ _ _ _) | (refine iV_al ?_; intro _ _ _ _) | (refine iV_mm ?_; intro _ _ _ _) | (refine iU_st ?_; intro _ _) | refine iHV_1 ?_ | refine iHV_N ?_ | refine iRI_1 ?_ | refine iRI_N ?_ | refine Cond_t ?_ | refine Cond_f ?_ | refine JB ?_ | (refine JC ?_; intro _ _ _ _) | (refine JGB ?_; intro _ _ _ _) | refine K1 ?_ | refine K0 ?_ | refine K2 ?_ | refine K3 ?_ | refine K4 ?_ | (refine CV_pu ?_; intro _ _ _ _) | (refine CV_puz ?_; intro _ _ _ _) | refine fRI_1 ?_ | refine fRI_N ?_ | refine gHV_lkI ?_ | refine gRI_lkI ?_ | refine gV_lkI ?_ | refine fV_ldN ?_ | refine fV_ld1 ?_ | refine fHV_ldN ?_ | refine fHV_ld1 ?_ | refine NilW_some ?_ | refine iCW_1 ?_ | refine iCW_N ?_ | refine Pk_b ?_))
  exact ⟨_,_,‹_›,rfl⟩
 have hc:chkE x = 0:=by
  apply Classical.byContradiction
  intro e;simp [e] at h
 obtain ⟨n,hn⟩:∃ n,nmOf x = some n:=by
  unfold chkE at hc
  cases hq:nmOf x with
  | none=>rw [hq] at hc; cases hc
  | some n=>exact ⟨n,rfl⟩
 obtain ⟨rfl,hok⟩:=nmOf_some hn
 by_cases hs:setOk s = true
 ·have ht:tellR n.num s = (toldL n s,0):=by rw [tellR,hn]; exact if_pos hs
  (repeat (first | (refine iDr ?_; intro _ _) | refine V_run ?_ | refine PV_run ?_ | refine HV_run ?_ | refine iV_ld1 ?_ | refine iV_ldN ?_ | (refine iV_bx ?_; intro _ _ _ _) | (refine iV_al ?_; intro _ _ _ _) | (refine iV_mm ?_; intro _ _ _ _) | (refine iU_st ?_; intro _ _) | refine iHV_1 ?_ | refine iHV_N ?_ | refine iRI_1 ?_ | refine iRI_N ?_ | refine Cond_t ?_ | refine Cond_f ?_ | refine JB ?_ | (refine JC ?_; intro _ _ _ _) | (refine JGB ?_; intro _ _ _ _) | refine K1 ?_ | refine K0 ?_ | refine K2 ?_ | refine K3 ?_ | refine K4 ?_ | (refine CV_pu ?_; intro _ _ _ _) | (refine CV_puz ?_; intro _ _ _ _) | refine fRI_1 ?_ | refine fRI_N ?_ | refine gHV_lkI ?_ | refine gRI_lkI ?_ | refine gV_lkI ?_ | refine fV_ldN ?_ | refine fV_ld1 ?_ | refine fHV_ldN ?_ | refine fHV_ld1 ?_ | refine NilW_some ?_ | refine iCW_1 ?_ | refine iCW_N ?_ | refine Pk_b ?_));rw [ht];(repeat (first | (refine iDr ?_; intro _ _) | refine V_run ?_ | refine PV_run ?_ | refine HV_run ?_ | refine iV_ld1 ?_ | refine iV_ldN ?_ | (refine iV_bx ?_; intro _ _ _ _) | (refine iV_al ?_; intro _ _ _ _) | (refine iV_mm ?_; intro _ _ _ _) | (refine iU_st ?_; intro _ _) | refine iHV_1 ?_ | refine iHV_N ?_ | refine iRI_1 ?_ | refine iRI_N ?_ | refine Cond_t ?_ | refine Cond_f ?_ | refine JB ?_ | (refine JC ?_; intro _ _ _ _) | (refine JGB ?_; intro _ _ _ _) | refine K1 ?_ | refine K0 ?_ | refine K2 ?_ | refine K3 ?_ | refine K4 ?_ | (refine CV_pu ?_; intro _ _ _ _) | (refine CV_puz ?_; intro _ _ _ _) | refine fRI_1 ?_ | refine fRI_N ?_ | refine gHV_lkI ?_ | refine gRI_lkI ?_ | refine gV_lkI ?_ | refine fV_ldN ?_ | refine fV_ld1 ?_ | refine fHV_ldN ?_ | refine fHV_ld1 ?_ | refine NilW_some ?_ | refine iCW_1 ?_ | refine iCW_N ?_ | refine Pk_b ?_));have hsz:=size_strB (toldL n s);refine Cond_d (fun h2=>?_) (fun h2=>?_)
  ·(repeat (first | (refine iDr ?_; intro _ _) | refine V_run ?_ | refine PV_run ?_ | refine HV_run ?_ | refine iV_ld1 ?_ | refine iV_ldN ?_ | (refine iV_bx ?_; intro _ _ _ _) | (refine iV_al ?_; intro _ _ _ _) | (refine iV_mm ?_; intro _ _ _ _) | (refine iU_st ?_; intro _ _) | refine iHV_1 ?_ | refine iHV_N ?_ | refine iRI_1 ?_ | refine iRI_N ?_ | refine Cond_t ?_ | refine Cond_f ?_ | refine JB ?_ | (refine JC ?_; intro _ _ _ _) | (refine JGB ?_; intro _ _ _ _) | refine K1 ?_ | refine K0 ?_ | refine K2 ?_ | refine K3 ?_ | refine K4 ?_ | (refine CV_pu ?_; intro _ _ _ _) | (refine CV_puz ?_; intro _ _ _ _) | refine fRI_1 ?_ | refine fRI_N ?_ | refine gHV_lkI ?_ | refine gRI_lkI ?_ | refine gV_lkI ?_ | refine fV_ldN ?_ | refine fV_ld1 ?_ | refine fHV_ldN ?_ | refine fHV_ld1 ?_ | refine NilW_some ?_ | refine iCW_1 ?_ | refine iCW_N ?_ | refine Pk_b ?_))
   exact ⟨_,_,‹_›,rfl⟩
  ·have h2:¬ ((strB (toldL n s)).size:Int) > 1000:=h2
   obtain ⟨m,h3,h4,h5⟩:=read_told (s:=s) hok;have h6:readO (toldL n s) = some m:=by
    unfold readO;rw [if_neg (by omega)];exact h3
   have hm:=readO_ok h6;haveI:Pu 31 #[.string (strB (toldL n s))] (resV (.ok m)):=by
    have:=readI (s:=strB (toldL n s));rw [bytes_strB,h6] at this;exact this
   have hsame:sameQ n m = true:=sameQ_iff.2 h4;haveI:Pu 38 #[n.num.v,m.num.v] (.bool true):=⟨fun z w=>by
    rw [<- hsame];exact same_of ((bn_ok hok).mono (by omega)) ((bn_ok hm).mono (by omega))⟩
   (repeat (first | (refine iDr ?_; intro _ _) | refine V_run ?_ | refine PV_run ?_ | refine HV_run ?_ | refine iV_ld1 ?_ | refine iV_ldN ?_ | (refine iV_bx ?_; intro _ _ _ _) | (refine iV_al ?_; intro _ _ _ _) | (refine iV_mm ?_; intro _ _ _ _) | (refine iU_st ?_; intro _ _) | refine iHV_1 ?_ | refine iHV_N ?_ | refine iRI_1 ?_ | refine iRI_N ?_ | refine Cond_t ?_ | refine Cond_f ?_ | refine JB ?_ | (refine JC ?_; intro _ _ _ _) | (refine JGB ?_; intro _ _ _ _) | refine K1 ?_ | refine K0 ?_ | refine K2 ?_ | refine K3 ?_ | refine K4 ?_ | (refine CV_pu ?_; intro _ _ _ _) | (refine CV_puz ?_; intro _ _ _ _) | refine fRI_1 ?_ | refine fRI_N ?_ | refine gHV_lkI ?_ | refine gRI_lkI ?_ | refine gV_lkI ?_ | refine fV_ldN ?_ | refine fV_ld1 ?_ | refine fHV_ldN ?_ | refine fHV_ld1 ?_ | refine NilW_some ?_ | refine iCW_1 ?_ | refine iCW_N ?_ | refine Pk_b ?_));intro K0 hK0;refine Cz (by rfl) ?_;(repeat (first | (refine iDr ?_; intro _ _) | refine V_run ?_ | refine PV_run ?_ | refine HV_run ?_ | refine iV_ld1 ?_ | refine iV_ldN ?_ | (refine iV_bx ?_; intro _ _ _ _) | (refine iV_al ?_; intro _ _ _ _) | (refine iV_mm ?_; intro _ _ _ _) | (refine iU_st ?_; intro _ _) | refine iHV_1 ?_ | refine iHV_N ?_ | refine iRI_1 ?_ | refine iRI_N ?_ | refine Cond_t ?_ | refine Cond_f ?_ | refine JB ?_ | (refine JC ?_; intro _ _ _ _) | (refine JGB ?_; intro _ _ _ _) | refine K1 ?_ | refine K0 ?_ | refine K2 ?_ | refine K3 ?_ | refine K4 ?_ | (refine CV_pu ?_; intro _ _ _ _) | (refine CV_puz ?_; intro _ _ _ _) | refine fRI_1 ?_ | refine fRI_N ?_ | refine gHV_lkI ?_ | refine gRI_lkI ?_ | refine gV_lkI ?_ | refine fV_ldN ?_ | refine fV_ld1 ?_ | refine fHV_ldN ?_ | refine fHV_ld1 ?_ | refine NilW_some ?_ | refine iCW_1 ?_ | refine iCW_N ?_ | refine Pk_b ?_));refine CV_pu (g:=(inferInstance:Pu 38 #[n.num.v,m.num.v] (.bool true))) ?_;intro z9 w9 hz9 hS9;refine hK0 _ _ fun _=>?_
   exact ⟨_,_,hS9,rfl⟩
 ·have ht:tellR n.num s = ([],1):=by rw [tellR,hn]; exact if_neg hs
  (repeat (first | (refine iDr ?_; intro _ _) | refine V_run ?_ | refine PV_run ?_ | refine HV_run ?_ | refine iV_ld1 ?_ | refine iV_ldN ?_ | (refine iV_bx ?_; intro _ _ _ _) | (refine iV_al ?_; intro _ _ _ _) | (refine iV_mm ?_; intro _ _ _ _) | (refine iU_st ?_; intro _ _) | refine iHV_1 ?_ | refine iHV_N ?_ | refine iRI_1 ?_ | refine iRI_N ?_ | refine Cond_t ?_ | refine Cond_f ?_ | refine JB ?_ | (refine JC ?_; intro _ _ _ _) | (refine JGB ?_; intro _ _ _ _) | refine K1 ?_ | refine K0 ?_ | refine K2 ?_ | refine K3 ?_ | refine K4 ?_ | (refine CV_pu ?_; intro _ _ _ _) | (refine CV_puz ?_; intro _ _ _ _) | refine fRI_1 ?_ | refine fRI_N ?_ | refine gHV_lkI ?_ | refine gRI_lkI ?_ | refine gV_lkI ?_ | refine fV_ldN ?_ | refine fV_ld1 ?_ | refine fHV_ldN ?_ | refine fHV_ld1 ?_ | refine NilW_some ?_ | refine iCW_1 ?_ | refine iCW_N ?_ | refine Pk_b ?_));rw [ht];(repeat (first | (refine iDr ?_; intro _ _) | refine V_run ?_ | refine PV_run ?_ | refine HV_run ?_ | refine iV_ld1 ?_ | refine iV_ldN ?_ | (refine iV_bx ?_; intro _ _ _ _) | (refine iV_al ?_; intro _ _ _ _) | (refine iV_mm ?_; intro _ _ _ _) | (refine iU_st ?_; intro _ _) | refine iHV_1 ?_ | refine iHV_N ?_ | refine iRI_1 ?_ | refine iRI_N ?_ | refine Cond_t ?_ | refine Cond_f ?_ | refine JB ?_ | (refine JC ?_; intro _ _ _ _) | (refine JGB ?_; intro _ _ _ _) | refine K1 ?_ | refine K0 ?_ | refine K2 ?_ | refine K3 ?_ | refine K4 ?_ | (refine CV_pu ?_; intro _ _ _ _) | (refine CV_puz ?_; intro _ _ _ _) | refine fRI_1 ?_ | refine fRI_N ?_ | refine gHV_lkI ?_ | refine gRI_lkI ?_ | refine gV_lkI ?_ | refine fV_ldN ?_ | refine fV_ld1 ?_ | refine fHV_ldN ?_ | refine fHV_ld1 ?_ | refine NilW_some ?_ | refine iCW_1 ?_ | refine iCW_N ?_ | refine Pk_b ?_));exact ⟨_,_,‹_›,rfl⟩)
theorem law_order {z:Z} {w:World} {x y u:NumM} {s:SetM} [ht:Tab z] [hx:Sm x.digits] [hy:Sm y.digits] [hu:Sm u.digits]:Fn1 12 #[x.v,y.v,u.v,s.v] z w fun _ r=>r = .bool true:=Fn1.intro fun hS=>en12 (by
 unfold vc12;(repeat (first | (refine iDr ?_; intro _ _) | refine V_run ?_ | refine PV_run ?_ | refine HV_run ?_ | refine iV_ld1 ?_ | refine iV_ldN ?_ | (refine iV_bx ?_; intro _ _ _ _) | (refine iV_al ?_; intro _ _ _ _) | (refine iV_mm ?_; intro _ _ _ _) | (refine iU_st ?_; intro _ _) | refine iHV_1 ?_ | refine iHV_N ?_ | refine iRI_1 ?_ | refine iRI_N ?_ | refine Cond_t ?_ | refine Cond_f ?_ | refine JB ?_ | (refine JC ?_; intro _ _ _ _) | (refine JGB ?_; intro _ _ _ _) | refine K1 ?_ | refine K0 ?_ | refine K2 ?_ | refine K3 ?_ | refine K4 ?_ | (refine CV_pu ?_; intro _ _ _ _) | (refine CV_puz ?_; intro _ _ _ _) | refine fRI_1 ?_ | refine fRI_N ?_ | refine gHV_lkI ?_ | refine gRI_lkI ?_ | refine gV_lkI ?_ | refine fV_ldN ?_ | refine fV_ld1 ?_ | refine fHV_ldN ?_ | refine fHV_ld1 ?_ | refine NilW_some ?_ | refine iCW_1 ?_ | refine iCW_N ?_ | refine Pk_b ?_));refine V_valid3 ?_;intro z1 w1 hz1 hS1;(repeat (first | (refine iDr ?_; intro _ _) | refine V_run ?_ | refine PV_run ?_ | refine HV_run ?_ | refine iV_ld1 ?_ | refine iV_ldN ?_ | (refine iV_bx ?_; intro _ _ _ _) | (refine iV_al ?_; intro _ _ _ _) | (refine iV_mm ?_; intro _ _ _ _) | (refine iU_st ?_; intro _ _) | refine iHV_1 ?_ | refine iHV_N ?_ | refine iRI_1 ?_ | refine iRI_N ?_ | refine Cond_t ?_ | refine Cond_f ?_ | refine JB ?_ | (refine JC ?_; intro _ _ _ _) | (refine JGB ?_; intro _ _ _ _) | refine K1 ?_ | refine K0 ?_ | refine K2 ?_ | refine K3 ?_ | refine K4 ?_ | (refine CV_pu ?_; intro _ _ _ _) | (refine CV_puz ?_; intro _ _ _ _) | refine fRI_1 ?_ | refine fRI_N ?_ | refine gHV_lkI ?_ | refine gRI_lkI ?_ | refine gV_lkI ?_ | refine fV_ldN ?_ | refine fV_ld1 ?_ | refine fHV_ldN ?_ | refine fHV_ld1 ?_ | refine NilW_some ?_ | refine iCW_1 ?_ | refine iCW_N ?_ | refine Pk_b ?_));refine Cond_n (fun h=>?_) (fun h=>?_)
 ·(repeat (first | (refine iDr ?_; intro _ _) | refine V_run ?_ | refine PV_run ?_ | refine HV_run ?_ | refine iV_ld1 ?_ | refine iV_ldN ?_ | (refine iV_bx ?_; intro _ _ _ _) | (refine iV_al ?_; intro _ _ _ _) | (refine iV_mm ?_; intro _ _ _ _) | (refine iU_st ?_; intro _ _) | refine iHV_1 ?_ | refine iHV_N ?_ | refine iRI_1 ?_ | refine iRI_N ?_ | refine Cond_t ?_ | refine Cond_f ?_ | refine JB ?_ | (refine JC ?_; intro _ _ _ _) | (refine JGB ?_; intro _ _ _ _) | refine K1 ?_ | refine K0 ?_ | refine K2 ?_ | refine K3 ?_ | refine K4 ?_ | (refine CV_pu ?_; intro _ _ _ _) | (refine CV_puz ?_; intro _ _ _ _) | refine fRI_1 ?_ | refine fRI_N ?_ | refine gHV_lkI ?_ | refine gRI_lkI ?_ | refine gV_lkI ?_ | refine fV_ldN ?_ | refine fV_ld1 ?_ | refine fHV_ldN ?_ | refine fHV_ld1 ?_ | refine NilW_some ?_ | refine iCW_1 ?_ | refine iCW_N ?_ | refine Pk_b ?_))
  exact ⟨_,_,‹_›,rfl⟩
 have hall:(nmOf x).isSome = true/\(nmOf y).isSome = true/\(nmOf u).isSome = true:=by
  unfold validM at h;simp at h;simp [h]
 obtain ⟨a,ha⟩:=Option.isSome_iff_exists.1 hall.1;obtain ⟨b,hb⟩:=Option.isSome_iff_exists.1 hall.2.1;obtain ⟨c,hc⟩:=Option.isSome_iff_exists.1 hall.2.2;obtain ⟨rfl,oka⟩:=nmOf_some ha;obtain ⟨rfl,okb⟩:=nmOf_some hb;obtain ⟨rfl,okc⟩:=nmOf_some hc;haveI:Pu 38 #[a.num.v,b.num.v] (.bool (sameQ a b)):=⟨fun z w=>same_of ((bn_ok oka).mono (by omega)) ((bn_ok okb).mono (by omega))⟩
 have hsw:=cmp_swap a.num b.num s;have hrg:=@cmp_range a.num b.num s;have hsm:=@cmp_same a b s;have htr:=@cmp_trans a.num b.num c.num s;have hz0:=@cmp_e a.num b.num s;have hz1:=@cmp_e b.num c.num s;have hz2:=@cmp_e a.num c.num s;(repeat (first | (refine iDr ?_; intro _ _) | refine V_run ?_ | refine PV_run ?_ | refine HV_run ?_ | refine iV_ld1 ?_ | refine iV_ldN ?_ | (refine iV_bx ?_; intro _ _ _ _) | (refine iV_al ?_; intro _ _ _ _) | (refine iV_mm ?_; intro _ _ _ _) | (refine iU_st ?_; intro _ _) | refine iHV_1 ?_ | refine iHV_N ?_ | refine iRI_1 ?_ | refine iRI_N ?_ | refine Cond_t ?_ | refine Cond_f ?_ | refine JB ?_ | (refine JC ?_; intro _ _ _ _) | (refine JGB ?_; intro _ _ _ _) | refine K1 ?_ | refine K0 ?_ | refine K2 ?_ | refine K3 ?_ | refine K4 ?_ | (refine CV_pu ?_; intro _ _ _ _) | (refine CV_puz ?_; intro _ _ _ _) | refine fRI_1 ?_ | refine fRI_N ?_ | refine gHV_lkI ?_ | refine gRI_lkI ?_ | refine gV_lkI ?_ | refine fV_ldN ?_ | refine fV_ld1 ?_ | refine fHV_ldN ?_ | refine fHV_ld1 ?_ | refine NilW_some ?_ | refine iCW_1 ?_ | refine iCW_N ?_ | refine Pk_b ?_));rw [hsw];generalize cmpR a.num b.num s = X at *;generalize cmpR b.num c.num s = Y at *;generalize cmpR a.num c.num s = Z at *;have hcond:(bif bif bif bif !decide (oE X = oE (bindE X fun u=>.ok (-u))) then true else !decide (oN X = IntKind.i64.wrap (0 - oN (bindE X fun u=>.ok (-u)))) then true else decide (oN X < -1) then true else decide (oN X > 1) then true else bif bif decide (oE X = 0) then sameQ a b else false then !decide (oN X = 0) else false) = false:=by
  cases X with
  | error e=>
   have h1:oN (.error e) = 0:=rfl;have h2:oE (.error e) = e:=rfl;have h3:(bindE (.error e) fun u:Int=>(.ok (-u):Except Int Int)) = .error e:=rfl;have h4:IntKind.i64.wrap (0 - 0) = 0:=by decide
   rw [h3,h1,h2,h4];simp
  | ok u=>
   have h1:oN (.ok u) = u:=rfl;have h2:oE (.ok u) = 0:=rfl;have h3:(bindE (.ok u) fun u:Int=>(.ok (-u):Except Int Int)) = .ok (-u):=rfl;have h5:oN (.ok (-u)) = -u:=rfl;have h6:oE (.ok (-u)) = 0:=rfl;obtain ⟨g1,g2⟩:=hrg rfl;have h4:IntKind.i64.wrap (0 - -u) = u:=by
    show wrp _ = _
    rw [wrp_in (n:=0 - -u) (by omega)]; omega
   rw [h3,h1,h2,h5,h6,h4];have h7:decide (u < -1) = false:=decide_eq_false (by omega);have h8:decide (u > 1) = false:=decide_eq_false (by omega);rw [h7,h8]
   cases hq:sameQ a b with
   | false=>simp
   | true=>
    have:=hsm oka okb (sameQ_iff.1 hq) rfl;subst this;simp
 refine Cond_not hcond ?_;(repeat (first | (refine iDr ?_; intro _ _) | refine V_run ?_ | refine PV_run ?_ | refine HV_run ?_ | refine iV_ld1 ?_ | refine iV_ldN ?_ | (refine iV_bx ?_; intro _ _ _ _) | (refine iV_al ?_; intro _ _ _ _) | (refine iV_mm ?_; intro _ _ _ _) | (refine iU_st ?_; intro _ _) | refine iHV_1 ?_ | refine iHV_N ?_ | refine iRI_1 ?_ | refine iRI_N ?_ | refine Cond_t ?_ | refine Cond_f ?_ | refine JB ?_ | (refine JC ?_; intro _ _ _ _) | (refine JGB ?_; intro _ _ _ _) | refine K1 ?_ | refine K0 ?_ | refine K2 ?_ | refine K3 ?_ | refine K4 ?_ | (refine CV_pu ?_; intro _ _ _ _) | (refine CV_puz ?_; intro _ _ _ _) | refine fRI_1 ?_ | refine fRI_N ?_ | refine gHV_lkI ?_ | refine gRI_lkI ?_ | refine gV_lkI ?_ | refine fV_ldN ?_ | refine fV_ld1 ?_ | refine fHV_ldN ?_ | refine fHV_ld1 ?_ | refine NilW_some ?_ | refine iCW_1 ?_ | refine iCW_N ?_ | refine Pk_b ?_));refine Cond_b (fun h2=>?_) (fun h2=>?_)
 ·(repeat (first | (refine iDr ?_; intro _ _) | refine V_run ?_ | refine PV_run ?_ | refine HV_run ?_ | refine iV_ld1 ?_ | refine iV_ldN ?_ | (refine iV_bx ?_; intro _ _ _ _) | (refine iV_al ?_; intro _ _ _ _) | (refine iV_mm ?_; intro _ _ _ _) | (refine iU_st ?_; intro _ _) | refine iHV_1 ?_ | refine iHV_N ?_ | refine iRI_1 ?_ | refine iRI_N ?_ | refine Cond_t ?_ | refine Cond_f ?_ | refine JB ?_ | (refine JC ?_; intro _ _ _ _) | (refine JGB ?_; intro _ _ _ _) | refine K1 ?_ | refine K0 ?_ | refine K2 ?_ | refine K3 ?_ | refine K4 ?_ | (refine CV_pu ?_; intro _ _ _ _) | (refine CV_puz ?_; intro _ _ _ _) | refine fRI_1 ?_ | refine fRI_N ?_ | refine gHV_lkI ?_ | refine gRI_lkI ?_ | refine gV_lkI ?_ | refine fV_ldN ?_ | refine fV_ld1 ?_ | refine fHV_ldN ?_ | refine fHV_ld1 ?_ | refine NilW_some ?_ | refine iCW_1 ?_ | refine iCW_N ?_ | refine Pk_b ?_))
  exact ⟨_,_,‹_›,rfl⟩
 ·(repeat (first | (refine iDr ?_; intro _ _) | refine V_run ?_ | refine PV_run ?_ | refine HV_run ?_ | refine iV_ld1 ?_ | refine iV_ldN ?_ | (refine iV_bx ?_; intro _ _ _ _) | (refine iV_al ?_; intro _ _ _ _) | (refine iV_mm ?_; intro _ _ _ _) | (refine iU_st ?_; intro _ _) | refine iHV_1 ?_ | refine iHV_N ?_ | refine iRI_1 ?_ | refine iRI_N ?_ | refine Cond_t ?_ | refine Cond_f ?_ | refine JB ?_ | (refine JC ?_; intro _ _ _ _) | (refine JGB ?_; intro _ _ _ _) | refine K1 ?_ | refine K0 ?_ | refine K2 ?_ | refine K3 ?_ | refine K4 ?_ | (refine CV_pu ?_; intro _ _ _ _) | (refine CV_puz ?_; intro _ _ _ _) | refine fRI_1 ?_ | refine fRI_N ?_ | refine gHV_lkI ?_ | refine gRI_lkI ?_ | refine gV_lkI ?_ | refine fV_ldN ?_ | refine fV_ld1 ?_ | refine fHV_ldN ?_ | refine fHV_ld1 ?_ | refine NilW_some ?_ | refine iCW_1 ?_ | refine iCW_N ?_ | refine Pk_b ?_))
  refine ⟨_,_,‹_›,congrArg Value.bool ?_⟩;clear hcond hsw
  cases X with
  | error e=>
   have h0:=hz0 rfl;have h1:decide (oE (.error e) = 0) = false:=decide_eq_false h0;rw [h1] at h2;simp at h2
  | ok u=>
  cases Y with
  | error e=>
   have h0:=hz1 rfl;have h1:decide (oE (.error e) = 0) = false:=decide_eq_false h0;rw [h1] at h2;simp at h2
  | ok v=>
  cases Z with
  | error e=>
   have h0:=hz2 rfl;have h1:decide (oE (.error e) = 0) = false:=decide_eq_false h0;rw [h1] at h2;simp at h2
  | ok t=>
   have e1:oN (.ok u) = u:=rfl;have e2:oN (.ok v) = v:=rfl;have e3:oN (.ok t) = t:=rfl;rw [e1,e2,e3]
   rcases htr rfl rfl rfl with h | h | ⟨h,g⟩
   ·simp [h]
   ·simp [h]
   ·rcases g with ⟨g1,g2⟩ | g | ⟨g1,g2,g3⟩
    ·simp [h,g1,g2]
    ·simp [h,g]
    ·simp [g1,g2,g3])
end
section
open Go Q Go.RowKit Go.Shelf
theorem pow_mul_ok {a:Nm} (hc:a.C) (h1:a.m < 10 ^ 3) (h2:-3 <= a.e) (h3:a.e <= 3) {x y:Nat} (hx:x <= 6) (hy:y <= 6):mulR (powN a x).num (powN a y).num 40 = .ok (powN a (x + y)):=by
 rw [mulR_ok (pow_in40 h1 h2 h3 (by omega)) (pow_in40 h1 h2 h3 (by omega)),pow_add' hc];exact (pow_in40 h1 h2 h3 (by omega)).fin
theorem sq_ok {a:Nm} (hi:In40 a) (h1:a.m < 10 ^ 3) (h2:-3 <= a.e) (h3:a.e <= 3):mulR a.num a.num 40 = .ok (powN a 2):=by
 rw [mulR_ok hi hi,<- pow_sqr hi.c];exact (pow_in40 h1 h2 h3 (by omega)).fin
theorem pow_neg_ok {a:Nm} (hi:In40 a) (h1:a.m < 10 ^ 3) (h2:-3 <= a.e) (h3:a.e <= 3) (h0:a.m ≠ 0) {x:Nat} (hx:x <= 6) :
  ∃ b n q r,powR a.num (-(x:Int)) 40 = .ok b/\divR oneN.num (powN a x).num 40 = .ok (n,q,r)/\sameN b n/\OkN b/\OkN n:=by
 have hp:=pow_in40 (k:=x) h1 h2 h3 (by omega);have hpm:(powN a x).m ≠ 0:=by rw [pow_m]; exact Nat.pos_iff_ne_zero.1 (Nat.pow_pos (Nat.pos_of_ne_zero h0))
 have hd:divR oneN.num (powN a x).num 40 = bindE (quoN oneN (powN a x) 40 (quoQ oneN (powN a x) 40)) fun n=>.ok (n,quoQ oneN (powN a x) 40,quoR oneN (powN a x) 40):=by
  unfold divR;rw [opd2_ok one_in hp];simp only [bindE];rw [if_neg hpm]
  rfl
 have hpw:powR a.num (-(x:Int)) 40 = if 0 <= -(x:Int) then finN (powN a (-(x:Int)).toNat) 40 else quoN oneN (powN a x) 40 (quoQ oneN (powN a x) 40):=by
  unfold powR;rw [if_neg (by omega),opd1_ok hi];simp only [bindE]
  split
  ·rfl
  ·first | rw [if_neg h0,Int.neg_neg,Int.toNat_natCast] | rw [Int.neg_neg,Int.toNat_natCast]
   rfl
 by_cases hx0:x = 0
 ·subst hx0
  have e1:powN a 0 = oneN:=rfl;rw [hd,hpw,e1,if_pos (by omega)];have hs1:Sml oneN:=⟨C_one,by decide,by decide,by decide⟩
  have em:mulN oneN oneN = oneN:=one_mul' C_one;obtain ⟨n,g1,g2,g3⟩:=quo_mul hs1 (b:=oneN) (by decide);rw [em] at g1;rw [g1];refine ⟨oneN,n,_,_,one_in.fin,rfl,g2.symm,one_in.ok,g3⟩
 ·obtain ⟨i1,i2,i3⟩:=pow_in h1 h2 h3 x
  obtain ⟨n,g1,g2⟩:=quo_there (a:=oneN) (b:=powN a x) (d:=40) (by omega) (by omega) one_in.m hp.m (by decide) (by decide) (by omega) (by omega);rw [hd,hpw,g1,if_neg (by omega)];exact ⟨n,n,_,_,rfl,rfl,sameN.refl _,g2,g2⟩
theorem powI {x:NumM} {n d:Int} [hx:Sm x.digits]:Pu 25 #[x.v,.int .i64 n,.int .i64 d] (resV (powR x n d)):=inferInstance
theorem mulI {x y:NumM} {d:Int} [hx:Sm x.digits] [hy:Sm y.digits]:Pu 23 #[x.v,y.v,.int .i64 d] (resV (mulR x y d)):=inferInstance
theorem resO {f:FuncId} {args:Array Value} {r:ResN} {n:Nm} (h:Pu f args (resV r)) (e:r = .ok n):Pu f args (.tuple #[n.num.v,.int .i64 0]):=by
 rw [e] at h; exact h
theorem oneLit75:oneN.num.v = .agg [.bool false,.string ⟨#[49]⟩,.int .i64 0].toArray:=by
 have e:digB 1 = ⟨#[49]⟩:=ba_inj (by rw [bytes_digB,digL_lt (by omega)]; rfl)
 show Value.agg [.bool false,.string (digB 1),.int .i64 0].toArray = _
 rw [e]
theorem law_powersadd {z:Z} {w:World} {x:NumM} {m n:Int} [ht:Tab z] [hx:Sm x.digits] (hm:0 <= m/\m <= 255) (hn:0 <= n/\n <= 255):Fn1 11 #[x.v,.int .u8 m,.int .u8 n] z w fun _ r=>r = .bool true:=Fn1.intro fun hS=>en11 (by
 unfold vc11;(repeat (first | (refine iDr ?_; intro _ _) | refine V_run ?_ | refine PV_run ?_ | refine HV_run ?_ | refine iV_ld1 ?_ | refine iV_ldN ?_ | (refine iV_bx ?_; intro _ _ _ _) | (refine iV_al ?_; intro _ _ _ _) | (refine iV_mm ?_; intro _ _ _ _) | (refine iU_st ?_; intro _ _) | refine iHV_1 ?_ | refine iHV_N ?_ | refine iRI_1 ?_ | refine iRI_N ?_ | refine Cond_t ?_ | refine Cond_f ?_ | refine JB ?_ | (refine JC ?_; intro _ _ _ _) | (refine JGB ?_; intro _ _ _ _) | refine K1 ?_ | refine K0 ?_ | refine K2 ?_ | refine K3 ?_ | refine K4 ?_ | (refine CV_pu ?_; intro _ _ _ _) | (refine CV_puz ?_; intro _ _ _ _) | refine fRI_1 ?_ | refine fRI_N ?_ | refine gHV_lkI ?_ | refine gRI_lkI ?_ | refine gV_lkI ?_ | refine fV_ldN ?_ | refine fV_ld1 ?_ | refine fHV_ldN ?_ | refine fHV_ld1 ?_ | refine NilW_some ?_ | refine iCW_1 ?_ | refine iCW_N ?_ | refine Pk_b ?_));refine V_valid1 ?_;intro z1 w1 hz1 hS1;clear hS;(repeat (first | (refine iDr ?_; intro _ _) | refine V_run ?_ | refine PV_run ?_ | refine HV_run ?_ | refine iV_ld1 ?_ | refine iV_ldN ?_ | (refine iV_bx ?_; intro _ _ _ _) | (refine iV_al ?_; intro _ _ _ _) | (refine iV_mm ?_; intro _ _ _ _) | (refine iU_st ?_; intro _ _) | refine iHV_1 ?_ | refine iHV_N ?_ | refine iRI_1 ?_ | refine iRI_N ?_ | refine Cond_t ?_ | refine Cond_f ?_ | refine JB ?_ | (refine JC ?_; intro _ _ _ _) | (refine JGB ?_; intro _ _ _ _) | refine K1 ?_ | refine K0 ?_ | refine K2 ?_ | refine K3 ?_ | refine K4 ?_ | (refine CV_pu ?_; intro _ _ _ _) | (refine CV_puz ?_; intro _ _ _ _) | refine fRI_1 ?_ | refine fRI_N ?_ | refine gHV_lkI ?_ | refine gRI_lkI ?_ | refine gV_lkI ?_ | refine fV_ldN ?_ | refine fV_ld1 ?_ | refine fHV_ldN ?_ | refine fHV_ld1 ?_ | refine NilW_some ?_ | refine iCW_1 ?_ | refine iCW_N ?_ | refine Pk_b ?_));refine Cond_b (fun h=>?_) (fun h=>?_)
 ·(repeat (first | (refine iDr ?_; intro _ _) | refine V_run ?_ | refine PV_run ?_ | refine HV_run ?_ | refine iV_ld1 ?_ | refine iV_ldN ?_ | (refine iV_bx ?_; intro _ _ _ _) | (refine iV_al ?_; intro _ _ _ _) | (refine iV_mm ?_; intro _ _ _ _) | (refine iU_st ?_; intro _ _) | refine iHV_1 ?_ | refine iHV_N ?_ | refine iRI_1 ?_ | refine iRI_N ?_ | refine Cond_t ?_ | refine Cond_f ?_ | refine JB ?_ | (refine JC ?_; intro _ _ _ _) | (refine JGB ?_; intro _ _ _ _) | refine K1 ?_ | refine K0 ?_ | refine K2 ?_ | refine K3 ?_ | refine K4 ?_ | (refine CV_pu ?_; intro _ _ _ _) | (refine CV_puz ?_; intro _ _ _ _) | refine fRI_1 ?_ | refine fRI_N ?_ | refine gHV_lkI ?_ | refine gRI_lkI ?_ | refine gV_lkI ?_ | refine fV_ldN ?_ | refine fV_ld1 ?_ | refine fHV_ldN ?_ | refine fHV_ld1 ?_ | refine NilW_some ?_ | refine iCW_1 ?_ | refine iCW_N ?_ | refine Pk_b ?_))
  exact ⟨_,_,‹_›,rfl⟩
 have hv:validM 40 [x] = true/\x.digits.size <= 3/\-3 <= x.exp/\x.exp <= 3:=by
  simp at h;obtain ⟨⟨⟨q1,q2⟩,q3⟩,q4⟩:=h;exact ⟨q1,by omega,by omega,by omega⟩
 clear h;obtain ⟨a,ha⟩:∃ a,nmOf x = some a:=by
  have:=hv.1;unfold validM at this;simp at this;exact Option.isSome_iff_exists.1 this.1
 obtain ⟨rfl,oka⟩:=nmOf_some ha;obtain ⟨-,v1,v2,v3⟩:=hv;have h1:a.m < 10 ^ 3:=by
  have e:a.num.digits.size = lenD a.m:=size_digB a.m;exact (lenD_le (by omega)).1 (by omega)
 have h2:-3 <= a.e:=v2;have h3:a.e <= 3:=v3;have hi:In40 a:=⟨oka.c,Nat.lt_trans h1 (Nat.pow_lt_pow_right (by omega) (by omega)),by omega,by omega⟩
 obtain ⟨X,hX⟩:∃ X:Nat,m.tmod 7 = (X:Int)/\X <= 6:=⟨(m.tmod 7).toNat,by rw [Int.tmod_eq_emod_of_nonneg hm.1]; omega,by rw [Int.tmod_eq_emod_of_nonneg hm.1]; omega⟩
 obtain ⟨Y,hY⟩:∃ Y:Nat,n.tmod 7 = (Y:Int)/\Y <= 6:=⟨(n.tmod 7).toNat,by rw [Int.tmod_eq_emod_of_nonneg hn.1]; omega,by rw [Int.tmod_eq_emod_of_nonneg hn.1]; omega⟩
 have wm:IntKind.i64.wrap m = m:=by show wrp m = m; exact wrp_in (by omega)
 have wn:IntKind.i64.wrap n = n:=by show wrp n = n; exact wrp_in (by omega)
 haveI:InR 0 7:=⟨by decide,by decide⟩
 refine V_run ?_;rw [wm];refine V_run ?_;rw [hX.1];refine V_run ?_;rw [wn];refine V_run ?_;rw [hY.1];have hX6:=hX.2;have hY6:=hY.2;clear hX hY wm wn hm hn v1 v2 v3;haveI:Sm a.num.digits:=sm_ok oka;have iX:=pow_in40 (k:=X) h1 h2 h3 (by omega);have iY:=pow_in40 (k:=Y) h1 h2 h3 (by omega);have iXY:=pow_in40 (k:=X + Y) h1 h2 h3 (by omega);haveI:Sm (powN a X).num.digits:=sm_ok iX.ok;haveI:Sm (powN a Y).num.digits:=sm_ok iY.ok;haveI:InI ((X:Int) + (Y:Int)):=⟨by omega⟩
 haveI:Pu 25 #[a.num.v,.int .i64 (X:Int),.int .i64 40] (.tuple #[(powN a X).num.v,.int .i64 0]):=resO powI (powR_ok hi h1 h2 h3 (by omega));haveI:Pu 25 #[a.num.v,.int .i64 (Y:Int),.int .i64 40] (.tuple #[(powN a Y).num.v,.int .i64 0]):=resO powI (powR_ok hi h1 h2 h3 (by omega));haveI:Pu 25 #[a.num.v,.int .i64 ((X:Int) + (Y:Int)),.int .i64 40] (.tuple #[(powN a (X + Y)).num.v,.int .i64 0]):=resO powI (powR_ok (k:=X + Y) hi h1 h2 h3 (by omega));haveI:Pu 25 #[a.num.v,.int .i64 2,.int .i64 40] (.tuple #[(powN a 2).num.v,.int .i64 0]):=resO powI (powR_ok (k:=2) hi h1 h2 h3 (by omega));haveI:Pu 23 #[(powN a X).num.v,(powN a Y).num.v,.int .i64 40] (.tuple #[(powN a (X + Y)).num.v,.int .i64 0]):=resO mulI (pow_mul_ok oka.c h1 h2 h3 hX6 hY6);haveI:Pu 23 #[a.num.v,a.num.v,.int .i64 40] (.tuple #[(powN a 2).num.v,.int .i64 0]):=resO mulI (sq_ok hi h1 h2 h3);haveI:Pu 38 #[(powN a (X + Y)).num.v,(powN a (X + Y)).num.v] (.bool true):=⟨fun z w=>by
  rw [<- sameQ_iff.2 (sameN.refl (powN a (X + Y)))];exact same_of ((bn_ok iXY.ok).mono (by omega)) ((bn_ok iXY.ok).mono (by omega))⟩
 have wX:IntKind.i64.wrap (0 - (X:Int)) = -(X:Int):=by show wrp _ = _; rw [wrp_in (n:=0 - (X:Int)) (by omega)]; omega
 by_cases h0:a.m = 0
 ·have hd:decide (a.num.digits = ⟨#[48]⟩) = true:=decide_eq_true (d48_dig.2 h0)
  have hp9:X ≠ 0->errE (powR a.num (-(X:Int)) 40) = 9:=by
   intro hX0;unfold powR;rw [if_neg (by omega),opd1_ok hi];simp only [bindE];rw [if_neg (by omega),if_pos h0]
   rfl
  (repeat (first | (refine iDr ?_; intro _ _) | refine V_run ?_ | refine PV_run ?_ | refine HV_run ?_ | refine iV_ld1 ?_ | refine iV_ldN ?_ | (refine iV_bx ?_; intro _ _ _ _) | (refine iV_al ?_; intro _ _ _ _) | (refine iV_mm ?_; intro _ _ _ _) | (refine iU_st ?_; intro _ _) | refine iHV_1 ?_ | refine iHV_N ?_ | refine iRI_1 ?_ | refine iRI_N ?_ | refine Cond_t ?_ | refine Cond_f ?_ | refine JB ?_ | (refine JC ?_; intro _ _ _ _) | (refine JGB ?_; intro _ _ _ _) | refine K1 ?_ | refine K0 ?_ | refine K2 ?_ | refine K3 ?_ | refine K4 ?_ | (refine CV_pu ?_; intro _ _ _ _) | (refine CV_puz ?_; intro _ _ _ _) | refine fRI_1 ?_ | refine fRI_N ?_ | refine gHV_lkI ?_ | refine gRI_lkI ?_ | refine gV_lkI ?_ | refine fV_ldN ?_ | refine fV_ld1 ?_ | refine fHV_ldN ?_ | refine fHV_ld1 ?_ | refine NilW_some ?_ | refine iCW_1 ?_ | refine iCW_N ?_ | refine Pk_b ?_));refine Cond_not (by simp) ?_;(repeat (first | (refine iDr ?_; intro _ _) | refine V_run ?_ | refine PV_run ?_ | refine HV_run ?_ | refine iV_ld1 ?_ | refine iV_ldN ?_ | (refine iV_bx ?_; intro _ _ _ _) | (refine iV_al ?_; intro _ _ _ _) | (refine iV_mm ?_; intro _ _ _ _) | (refine iU_st ?_; intro _ _) | refine iHV_1 ?_ | refine iHV_N ?_ | refine iRI_1 ?_ | refine iRI_N ?_ | refine Cond_t ?_ | refine Cond_f ?_ | refine JB ?_ | (refine JC ?_; intro _ _ _ _) | (refine JGB ?_; intro _ _ _ _) | refine K1 ?_ | refine K0 ?_ | refine K2 ?_ | refine K3 ?_ | refine K4 ?_ | (refine CV_pu ?_; intro _ _ _ _) | (refine CV_puz ?_; intro _ _ _ _) | refine fRI_1 ?_ | refine fRI_N ?_ | refine gHV_lkI ?_ | refine gRI_lkI ?_ | refine gV_lkI ?_ | refine fV_ldN ?_ | refine fV_ld1 ?_ | refine fHV_ldN ?_ | refine fHV_ld1 ?_ | refine NilW_some ?_ | refine iCW_1 ?_ | refine iCW_N ?_ | refine Pk_b ?_));rw [wX];(repeat (first | (refine iDr ?_; intro _ _) | refine V_run ?_ | refine PV_run ?_ | refine HV_run ?_ | refine iV_ld1 ?_ | refine iV_ldN ?_ | (refine iV_bx ?_; intro _ _ _ _) | (refine iV_al ?_; intro _ _ _ _) | (refine iV_mm ?_; intro _ _ _ _) | (refine iU_st ?_; intro _ _) | refine iHV_1 ?_ | refine iHV_N ?_ | refine iRI_1 ?_ | refine iRI_N ?_ | refine Cond_t ?_ | refine Cond_f ?_ | refine JB ?_ | (refine JC ?_; intro _ _ _ _) | (refine JGB ?_; intro _ _ _ _) | refine K1 ?_ | refine K0 ?_ | refine K2 ?_ | refine K3 ?_ | refine K4 ?_ | (refine CV_pu ?_; intro _ _ _ _) | (refine CV_puz ?_; intro _ _ _ _) | refine fRI_1 ?_ | refine fRI_N ?_ | refine gHV_lkI ?_ | refine gRI_lkI ?_ | refine gV_lkI ?_ | refine fV_ldN ?_ | refine fV_ld1 ?_ | refine fHV_ldN ?_ | refine fHV_ld1 ?_ | refine NilW_some ?_ | refine iCW_1 ?_ | refine iCW_N ?_ | refine Pk_b ?_));rw [hd];refine Cond_t ?_;generalize powR a.num (-(X:Int)) 40 = r at *;(repeat (first | (refine iDr ?_; intro _ _) | refine V_run ?_ | refine PV_run ?_ | refine HV_run ?_ | refine iV_ld1 ?_ | refine iV_ldN ?_ | (refine iV_bx ?_; intro _ _ _ _) | (refine iV_al ?_; intro _ _ _ _) | (refine iV_mm ?_; intro _ _ _ _) | (refine iU_st ?_; intro _ _) | refine iHV_1 ?_ | refine iHV_N ?_ | refine iRI_1 ?_ | refine iRI_N ?_ | refine Cond_t ?_ | refine Cond_f ?_ | refine JB ?_ | (refine JC ?_; intro _ _ _ _) | (refine JGB ?_; intro _ _ _ _) | refine K1 ?_ | refine K0 ?_ | refine K2 ?_ | refine K3 ?_ | refine K4 ?_ | (refine CV_pu ?_; intro _ _ _ _) | (refine CV_puz ?_; intro _ _ _ _) | refine fRI_1 ?_ | refine fRI_N ?_ | refine gHV_lkI ?_ | refine gRI_lkI ?_ | refine gV_lkI ?_ | refine fV_ldN ?_ | refine fV_ld1 ?_ | refine fHV_ldN ?_ | refine fHV_ld1 ?_ | refine NilW_some ?_ | refine iCW_1 ?_ | refine iCW_N ?_ | refine Pk_b ?_))
  refine ⟨_,_,‹_›,congrArg Value.bool ?_⟩
  by_cases hX0:X = 0
  ·simp [hX0]
  ·have:=hp9 hX0
   simp [this]
 ·have hd:decide (a.num.digits = ⟨#[48]⟩) = false:=decide_eq_false fun e=>h0 (d48_dig.1 e)
  obtain ⟨b,n,q,r,g1,g2,g3,g4,g5⟩:=pow_neg_ok hi h1 h2 h3 h0 hX6;haveI:Pu 25 #[a.num.v,.int .i64 (IntKind.i64.wrap (0 - (X:Int))),.int .i64 40] (.tuple #[b.num.v,.int .i64 0]):=by
   rw [wX];exact resO powI g1
  haveI:Pu 46 #[.agg [.bool false,.string ⟨#[49]⟩,.int .i64 0].toArray,(powN a X).num.v,.int .i64 40] (.tuple #[n.num.v,.agg [.string (digB q),.string (digB r)].toArray,.int .i64 0]):=by
   haveI:Sm oneN.num.digits:=sm_ok one_in.ok;have:=divI (x:=oneN.num) (y:=(powN a X).num) (d:=40);rw [g2,oneLit75] at this;exact this
  haveI:Pu 38 #[b.num.v,n.num.v] (.bool true):=⟨fun z w=>by
   rw [<- sameQ_iff.2 g3];exact same_of ((bn_ok g4).mono (by omega)) ((bn_ok g5).mono (by omega))⟩
  (repeat (first | (refine iDr ?_; intro _ _) | refine V_run ?_ | refine PV_run ?_ | refine HV_run ?_ | refine iV_ld1 ?_ | refine iV_ldN ?_ | (refine iV_bx ?_; intro _ _ _ _) | (refine iV_al ?_; intro _ _ _ _) | (refine iV_mm ?_; intro _ _ _ _) | (refine iU_st ?_; intro _ _) | refine iHV_1 ?_ | refine iHV_N ?_ | refine iRI_1 ?_ | refine iRI_N ?_ | refine Cond_t ?_ | refine Cond_f ?_ | refine JB ?_ | (refine JC ?_; intro _ _ _ _) | (refine JGB ?_; intro _ _ _ _) | refine K1 ?_ | refine K0 ?_ | refine K2 ?_ | refine K3 ?_ | refine K4 ?_ | (refine CV_pu ?_; intro _ _ _ _) | (refine CV_puz ?_; intro _ _ _ _) | refine fRI_1 ?_ | refine fRI_N ?_ | refine gHV_lkI ?_ | refine gRI_lkI ?_ | refine gV_lkI ?_ | refine fV_ldN ?_ | refine fV_ld1 ?_ | refine fHV_ldN ?_ | refine fHV_ld1 ?_ | refine NilW_some ?_ | refine iCW_1 ?_ | refine iCW_N ?_ | refine Pk_b ?_));refine Cond_not (by simp) ?_;(repeat (first | (refine iDr ?_; intro _ _) | refine V_run ?_ | refine PV_run ?_ | refine HV_run ?_ | refine iV_ld1 ?_ | refine iV_ldN ?_ | (refine iV_bx ?_; intro _ _ _ _) | (refine iV_al ?_; intro _ _ _ _) | (refine iV_mm ?_; intro _ _ _ _) | (refine iU_st ?_; intro _ _) | refine iHV_1 ?_ | refine iHV_N ?_ | refine iRI_1 ?_ | refine iRI_N ?_ | refine Cond_t ?_ | refine Cond_f ?_ | refine JB ?_ | (refine JC ?_; intro _ _ _ _) | (refine JGB ?_; intro _ _ _ _) | refine K1 ?_ | refine K0 ?_ | refine K2 ?_ | refine K3 ?_ | refine K4 ?_ | (refine CV_pu ?_; intro _ _ _ _) | (refine CV_puz ?_; intro _ _ _ _) | refine fRI_1 ?_ | refine fRI_N ?_ | refine gHV_lkI ?_ | refine gRI_lkI ?_ | refine gV_lkI ?_ | refine fV_ldN ?_ | refine fV_ld1 ?_ | refine fHV_ldN ?_ | refine fHV_ld1 ?_ | refine NilW_some ?_ | refine iCW_1 ?_ | refine iCW_N ?_ | refine Pk_b ?_));rw [hd];refine Cond_f ?_;(repeat (first | (refine iDr ?_; intro _ _) | refine V_run ?_ | refine PV_run ?_ | refine HV_run ?_ | refine iV_ld1 ?_ | refine iV_ldN ?_ | (refine iV_bx ?_; intro _ _ _ _) | (refine iV_al ?_; intro _ _ _ _) | (refine iV_mm ?_; intro _ _ _ _) | (refine iU_st ?_; intro _ _) | refine iHV_1 ?_ | refine iHV_N ?_ | refine iRI_1 ?_ | refine iRI_N ?_ | refine Cond_t ?_ | refine Cond_f ?_ | refine JB ?_ | (refine JC ?_; intro _ _ _ _) | (refine JGB ?_; intro _ _ _ _) | refine K1 ?_ | refine K0 ?_ | refine K2 ?_ | refine K3 ?_ | refine K4 ?_ | (refine CV_pu ?_; intro _ _ _ _) | (refine CV_puz ?_; intro _ _ _ _) | refine fRI_1 ?_ | refine fRI_N ?_ | refine gHV_lkI ?_ | refine gRI_lkI ?_ | refine gV_lkI ?_ | refine fV_ldN ?_ | refine fV_ld1 ?_ | refine fHV_ldN ?_ | refine fHV_ld1 ?_ | refine NilW_some ?_ | refine iCW_1 ?_ | refine iCW_N ?_ | refine Pk_b ?_));exact ⟨_,_,‹_›,by simp⟩)
end
section
open Go Q Go.RowKit Go.Shelf
abbrev absN (n:Nm):Nm:=⟨false,n.m,n.e⟩
theorem abs_in {n:Nm} (h:In40 n):In40 (absN n):=⟨fun e=>by have:=h.c e; rw [this]; rfl,h.m,h.lo,h.hi⟩
theorem fin_in {n:Nm} (hc:n.C) (h:finN n 40 = .ok n) (h1:-500 <= n.e) (h2:n.e <= 500):In40 n:=by
 refine ⟨hc,?_,h1,h2⟩;have e:roundN n 40 = n:=by
  unfold finN at h
  split at h
  ·exact Except.ok.inj h
  ·cases h
 have:=round_len (n:=n) (d:=40) (by omega);rw [e] at this;exact (lenD_le (by omega)).1 this
structure DivF (a b:Nm):Prop where
 ex:∃ q r p t,idivR a.num b.num 40 = .ok q/\remR a.num b.num 40 = .ok r/\mulR b.num q.num 40 = .ok p/\addR p.num r.num 40 = .ok t/\sameN t a/\(r.m ≠ 0->r.s = a.s)/\OkN q/\OkN r/\OkN p/\OkN t/\(∃ u,cmpR (absN r).num (absN b).num ⟨40,0,0⟩ = .ok u/\u < 0)
 mul:mulR a.num b.num 40 = .ok (mulN a b)
 mok:OkN (mulN a b)
 dv:∃ n q r,divR (mulN a b).num b.num 40 = .ok (n,q,r)/\sameN n a/\OkN n
 d9:∃ n q r,divR a.num b.num 9 = .ok (n,q,r)/\OkN n
theorem div_facts {a b:Nm} (ha:Sml a) (hb:Sml b) (h0:b.m ≠ 0):DivF a b:=by
 obtain ⟨q,r,w1,w2,w3,w4,w5,w6,w7,w8,w9,w10,w11,w12,w13,w14,w15⟩:=divides_whole ha hb h0;have ia:=ha.in40;have ib:=hb.in40;have hblo:=hb.lo;have hbhi:=hb.hi;have halo:=ha.lo;have hahi:=ha.hi;have iq:In40 q:=fin_in w8 w2 (by omega) (by omega);have ir:In40 r:=fin_in w9 w3 (by omega) (by omega);have ep:=mk_e (s:=b.s != q.s) (m:=b.m * q.m) (e:=b.e + q.e) (lo:=-8) (hi:=8) (by omega) (by omega) (by omega) (by omega);have ip:In40 (mulN b q):=fin_in (C_mul _ _) w4 (by have:=ep.1; show -500 <= (mkN _ _ _).e; omega) (by have:=ep.2; show (mkN _ _ _).e <= 500; omega);have hwr:wholeR a.num b.num 40 = .ok (q,r):=by
  unfold wholeR;rw [opd2_ok ia ib];simp only [bindE];rw [if_neg h0];exact w1
 have hadd:addR (mulN b q).num r.num 40 = .ok (plusN (mulN b q) r):=by rw [addR_ok ip ir]; exact w5
 refine ⟨⟨q,r,mulN b q,plusN (mulN b q) r,?_,?_,?_,hadd,w6,w7,iq.ok,ir.ok,ip.ok,add_ok hadd,?_⟩,?_,?_,?_,?_⟩
 ·unfold idivR; rw [hwr]; exact w2
 ·unfold remR; rw [hwr]; exact w3
 ·rw [mulR_ok ib iq]; exact w4
 ·refine ⟨difN (absN r) (absN b),?_,w10⟩
  unfold cmpR;rw [if_neg (by decide)];have:opd2 (absN r).num (absN b).num ((⟨40,0,0⟩:SetM).digits - (⟨40,0,0⟩:SetM).fuzz) = .ok (absN r,absN b):=opd2_ok (abs_in ir) (abs_in ib);rw [this]
  rfl
 ·exact (algebra ha hb hb).mul_ab
 ·exact mul_ok (algebra ha hb hb).mul_ab
 ·obtain ⟨n,g1,g2,g3⟩:=quo_mul ha h0
  have im:In40 (mulN a b):=by
   have:=mul_in (i:=12) (j:=12) ha.m hb.m ha.lo ha.hi hb.lo hb.hi (by omega) (by omega);exact ⟨C_mul _ _,Nat.lt_of_lt_of_le this.1 (Nat.pow_le_pow_right (by omega) (by omega)),by have:=this.2.1; omega,by have:=this.2.2; omega⟩
  refine ⟨n,quoQ (mulN a b) b 40,quoR (mulN a b) b 40,?_,g2,g3⟩;unfold divR;rw [opd2_ok im ib];simp only [bindE];rw [if_neg h0]
  show bindE (quoN (mulN a b) b 40 (quoQ (mulN a b) b 40)) _ = _
  rw [g1]
  rfl
 ·have na:=nmOf_num ia.ok
  have nb:=nmOf_num ib.ok;obtain ⟨f1,f2⟩:=fin_near' (n:=a) (d:=9) (by omega) (by omega) ia.c (Nat.lt_trans ia.m (Nat.pow_lt_pow_right (by omega) (by omega))) (by omega) (by omega);obtain ⟨f3,f4⟩:=fin_near' (n:=b) (d:=9) (by omega) (by omega) ib.c (Nat.lt_trans ib.m (Nat.pow_lt_pow_right (by omega) (by omega))) (by omega) (by omega);have ho:opd2 a.num b.num 9 = .ok (roundN a 9,roundN b 9):=by
   unfold opd2;rw [na,nb];simp only;rw [if_pos (by decide)]
   show (match finN a 9,finN b 9 with | .ok a',.ok b'=>_ | _,_=>_) = _
   rw [f1,f3]
  have hb0:(roundN b 9).m ≠ 0:=fun e=>h0 ((round_m0 (by omega)).1 e)
  have up:∀ {n:Nm},Sml n->(roundN n 9).e <= 30:=by
   intro n hn;have h1:=lenD_lt (by omega) hn.m;have h2:=lenD_pos (roundN n 9).m;have h3:=hn.hi
   rcases adj_round (n:=n) (d:=9) (by omega) with e | e <;> unfold adjN at e <;> omega
  have ua:=up ha;have ub:=up hb;have ra:=round_exp a 9;have rb:=round_exp b 9;have la:=lenD_lt (by omega) ha.m;have lb:=lenD_lt (by omega) hb.m;obtain ⟨n,g1,g2⟩:=quo_there (a:=roundN a 9) (b:=roundN b 9) (d:=9) (by omega) (by omega) f2.m f4.m (by omega) (by omega) (by omega) (by omega);refine ⟨n,quoQ (roundN a 9) (roundN b 9) 9,quoR (roundN a 9) (roundN b 9) 9,?_,g2⟩;unfold divR;rw [ho];simp only [bindE];rw [if_neg hb0]
  show bindE (quoN (roundN a 9) (roundN b 9) 9 (quoQ (roundN a 9) (roundN b 9) 9)) _ = _
  rw [g1]
  rfl
end
section
open Go Q Go.RowKit Go.Shelf
def SmallX (x:NumM):Prop:=∃ a,nmOf x = some a/\Sml a
theorem small_x {x:NumM} (h:(bif bif bif !validM 40 [x] then true else decide ((x.digits.size:Int) > 12) then true else decide (x.exp < -8) then true else decide (x.exp > 8)) = false):SmallX x:=by
 have hv:validM 40 [x] = true/\x.digits.size <= 12/\-8 <= x.exp/\x.exp <= 8:=by
  simp at h;obtain ⟨⟨⟨q1,q2⟩,q3⟩,q4⟩:=h;exact ⟨q1,by omega,by omega,by omega⟩
 obtain ⟨a,ha⟩:∃ a,nmOf x = some a:=by
  have:=hv.1;unfold validM at this;simp at this;exact Option.isSome_iff_exists.1 this.1
 obtain ⟨rfl,oka⟩:=nmOf_some ha;obtain ⟨-,v1,v2,v3⟩:=hv;refine ⟨a,ha,oka.c,?_,v2,v3⟩;have e:a.num.digits.size = lenD a.m:=size_digB a.m;exact (lenD_le (by omega)).1 (by omega)
theorem idivI {x y:NumM} {d:Int} [hx:Sm x.digits] [hy:Sm y.digits]:Pu 55 #[x.v,y.v,.int .i64 d] (resV (idivR x y d)):=inferInstance
theorem remI {x y:NumM} {d:Int} [hx:Sm x.digits] [hy:Sm y.digits]:Pu 57 #[x.v,y.v,.int .i64 d] (resV (remR x y d)):=inferInstance
theorem addI {x y:NumM} {d:Int} [hx:Sm x.digits] [hy:Sm y.digits]:Pu 19 #[x.v,y.v,.int .i64 d] (resV (addR x y d)):=inferInstance
theorem cmpI {x y:NumM} {s:SetM} [hx:Sm x.digits] [hy:Sm y.digits]:Pu 27 #[x.v,y.v,s.v] (ordV (cmpR x y s)):=inferInstance
theorem chkI {x y n:NumM} {p q:ByteArray} {d:Int} [hx:Sm x.digits] [hy:Sm y.digits] [hn:Sm n.digits] [hp:Sm p] [hq:Sm q]:Pu 59 #[x.v,y.v,.int .i64 d,n.v,.agg (litP p q).toArray] (.int .i64 (chkR x y d n p q)):=inferInstance
theorem divO {x y:NumM} {d:Int} {n:Nm} {q r:Nat} [hx:Sm x.digits] [hy:Sm y.digits] (h:divR x y d = .ok (n,q,r)):Pu 46 #[x.v,y.v,.int .i64 d] (.tuple #[n.num.v,.agg [.string (digB q),.string (digB r)].toArray,.int .i64 0]):=by
 have:=divI (x:=x) (y:=y) (d:=d);rw [h] at this;exact this
theorem sameO {a b:Nm} (ha:OkN a) (hb:OkN b) (h:sameN a b):Pu 38 #[a.num.v,b.num.v] (.bool true):=⟨fun z w=>by
 rw [<- sameQ_iff.2 h];exact same_of ((bn_ok ha).mono (by omega)) ((bn_ok hb).mono (by omega))⟩
theorem chk_self {x y:NumM} {d:Int} {n:Nm} {q r:Nat} (hn:OkN n) (h:divR x y d = .ok (n,q,r)):chkR x y d n.num (digB q) (digB r) = 0:=by
 unfold chkR;rw [nmOf_num hn,h];simp
theorem chk_other {x y u:NumM} {d:Int} {n:Nm} {q r:Nat} (h:divR x y d = .ok (n,q,r)) (hc:chkR x y d u (digB q) (digB r) = 0):u = n.num:=by
 unfold chkR at hc
 cases hu:nmOf u with
 | none=>rw [hu] at hc; cases hc
 | some m=>
  rw [hu,h] at hc;simp only at hc
  split at hc
  ·rename_i e
   rw [<- e.1];exact (nmOf_some hu).1
  ·cases hc
theorem law_divides {z:Z} {w:World} {x y u:NumM} [ht:Tab z] [hx:Sm x.digits] [hy:Sm y.digits] [hu:Sm u.digits]:Fn1 16 #[x.v,y.v,u.v] z w fun _ r=>r = .bool true:=Fn1.intro fun hS=>en16 (by
 unfold vc16;generalize hRR:(fun (v:Value) (w':World)=>∃ z' L',Res w z [] w' z' L'/\v = .bool true) = RR;have hR:∀ w' z' L' c,Res w z [] w' z' L'->c = true->RR (.bool c) w':=fun w' z' L' c k e=>by rw [<- hRR]; exact ⟨_,_,k,by rw [e]⟩
 clear hRR;refine iV_bx ?_;intro b3 w1 hb3 hS1;refine iV_bx ?_;intro b4 w2 hb4 hS2;refine iV_bx ?_;intro b5 w3 hb5 hS3;clear hS hS1 hS2;refine iV_ldN ?_;refine iV_ldN ?_;refine V_nums (parts:=[(0,x.v),(1,y.v)]) [x,y] rfl rfl rfl (by omega) ?_;intro v z4 hz4 w4 hS4 hv;clear hS3;obtain ⟨_,a0,cap,rfl,hcap,hel⟩:=hv.form;refine V_run ?_;refine LoopG1 (fun (k:Nat) p w'=>p = .int .i64 k/\k <= 2/\(∀ x' ∈ [x,y].take k,SmallX x')/\∃ z',Le z4 z'/\Res w z [] w' z' [(b5,.cells u.cells.toArray 23 (0,0)),(b4,.cells y.cells.toArray 23 (0,0)),(b3,.cells x.cells.toArray 23 (0,0))]) (fun k=>2 - k) 0 ⟨rfl,Nat.zero_le _,by simp,z4,Le.refl _,hS4⟩ ?_;clear hS4;rintro I M k p w5 m ⟨rfl,hk,hall,z5,hz5,hS5⟩ back
 refine V_run ?_;refine Cond_d (fun h=>?_) (fun h=>?_)
 ·have h:(k:Int) < 2:=h
  have hlt:k < [x,y].length:=by show k < 2; omega
  have hg:[x,y][k]? = some [x,y][k]:=List.getElem?_eq_getElem hlt;have htk:[x,y].take (k + 1) = [x,y].take k ++ [[x,y][k]]:=List.take_succ_eq_append_getElem hlt;have hsm:Sm ([x,y][k]).digits:=by
   have:k = 0 \/ k = 1:=by omega
   rcases this with rfl | rfl
   ·exact hx
   ·exact hy
  obtain ⟨b,off,cs,rfl,rfl,hat⟩:=hel k _ hg;generalize [x,y][k] = t at *;haveI:InR (k:Int) ([x,y].length:Nat):=⟨by omega,by show (k:Int) < 2; exact h⟩
  refine V_run ?_;rw [Int.toNat_natCast];refine zV_ldN (hat.mono hz5) rfl ?_;haveI:InI ((k:Int) + 1):=⟨by omega⟩
  (repeat (first | (refine iDr ?_; intro _ _) | refine V_run ?_ | refine PV_run ?_ | refine HV_run ?_ | refine iV_ld1 ?_ | refine iV_ldN ?_ | (refine iV_bx ?_; intro _ _ _ _) | (refine iV_al ?_; intro _ _ _ _) | (refine iV_mm ?_; intro _ _ _ _) | (refine iU_st ?_; intro _ _) | refine iHV_1 ?_ | refine iHV_N ?_ | refine iRI_1 ?_ | refine iRI_N ?_ | refine Cond_t ?_ | refine Cond_f ?_ | refine JB ?_ | (refine JC ?_; intro _ _ _ _) | (refine JGB ?_; intro _ _ _ _) | refine K1 ?_ | refine K0 ?_ | refine K2 ?_ | refine K3 ?_ | refine K4 ?_ | (refine CV_pu ?_; intro _ _ _ _) | (refine CV_puz ?_; intro _ _ _ _) | refine fRI_1 ?_ | refine fRI_N ?_ | refine gHV_lkI ?_ | refine gRI_lkI ?_ | refine gV_lkI ?_ | refine fV_ldN ?_ | refine fV_ld1 ?_ | refine fHV_ldN ?_ | refine fHV_ld1 ?_ | refine NilW_some ?_ | refine iCW_1 ?_ | refine iCW_N ?_ | refine Pk_b ?_));rename_i hS6;clear hS5;refine V_valid1 (x:=t) ?_;intro z7 w7 hz7 hS7;clear hS6;(repeat (first | (refine iDr ?_; intro _ _) | refine V_run ?_ | refine PV_run ?_ | refine HV_run ?_ | refine iV_ld1 ?_ | refine iV_ldN ?_ | (refine iV_bx ?_; intro _ _ _ _) | (refine iV_al ?_; intro _ _ _ _) | (refine iV_mm ?_; intro _ _ _ _) | (refine iU_st ?_; intro _ _) | refine iHV_1 ?_ | refine iHV_N ?_ | refine iRI_1 ?_ | refine iRI_N ?_ | refine Cond_t ?_ | refine Cond_f ?_ | refine JB ?_ | (refine JC ?_; intro _ _ _ _) | (refine JGB ?_; intro _ _ _ _) | refine K1 ?_ | refine K0 ?_ | refine K2 ?_ | refine K3 ?_ | refine K4 ?_ | (refine CV_pu ?_; intro _ _ _ _) | (refine CV_puz ?_; intro _ _ _ _) | refine fRI_1 ?_ | refine fRI_N ?_ | refine gHV_lkI ?_ | refine gRI_lkI ?_ | refine gV_lkI ?_ | refine fV_ldN ?_ | refine fV_ld1 ?_ | refine fHV_ldN ?_ | refine fHV_ld1 ?_ | refine NilW_some ?_ | refine iCW_1 ?_ | refine iCW_N ?_ | refine Pk_b ?_));refine Cond_b (fun h2=>?_) (fun h2=>?_)
  ·(repeat (first | (refine iDr ?_; intro _ _) | refine V_run ?_ | refine PV_run ?_ | refine HV_run ?_ | refine iV_ld1 ?_ | refine iV_ldN ?_ | (refine iV_bx ?_; intro _ _ _ _) | (refine iV_al ?_; intro _ _ _ _) | (refine iV_mm ?_; intro _ _ _ _) | (refine iU_st ?_; intro _ _) | refine iHV_1 ?_ | refine iHV_N ?_ | refine iRI_1 ?_ | refine iRI_N ?_ | refine Cond_t ?_ | refine Cond_f ?_ | refine JB ?_ | (refine JC ?_; intro _ _ _ _) | (refine JGB ?_; intro _ _ _ _) | refine K1 ?_ | refine K0 ?_ | refine K2 ?_ | refine K3 ?_ | refine K4 ?_ | (refine CV_pu ?_; intro _ _ _ _) | (refine CV_puz ?_; intro _ _ _ _) | refine fRI_1 ?_ | refine fRI_N ?_ | refine gHV_lkI ?_ | refine gRI_lkI ?_ | refine gV_lkI ?_ | refine fV_ldN ?_ | refine fV_ld1 ?_ | refine fHV_ldN ?_ | refine fHV_ld1 ?_ | refine NilW_some ?_ | refine iCW_1 ?_ | refine iCW_N ?_ | refine Pk_b ?_))
   exact hR _ _ _ _ ‹_› rfl
  ·(repeat (first | (refine iDr ?_; intro _ _) | refine V_run ?_ | refine PV_run ?_ | refine HV_run ?_ | refine iV_ld1 ?_ | refine iV_ldN ?_ | (refine iV_bx ?_; intro _ _ _ _) | (refine iV_al ?_; intro _ _ _ _) | (refine iV_mm ?_; intro _ _ _ _) | (refine iU_st ?_; intro _ _) | refine iHV_1 ?_ | refine iHV_N ?_ | refine iRI_1 ?_ | refine iRI_N ?_ | refine Cond_t ?_ | refine Cond_f ?_ | refine JB ?_ | (refine JC ?_; intro _ _ _ _) | (refine JGB ?_; intro _ _ _ _) | refine K1 ?_ | refine K0 ?_ | refine K2 ?_ | refine K3 ?_ | refine K4 ?_ | (refine CV_pu ?_; intro _ _ _ _) | (refine CV_puz ?_; intro _ _ _ _) | refine fRI_1 ?_ | refine fRI_N ?_ | refine gHV_lkI ?_ | refine gRI_lkI ?_ | refine gV_lkI ?_ | refine fV_ldN ?_ | refine fV_ld1 ?_ | refine fHV_ldN ?_ | refine fHV_ld1 ?_ | refine NilW_some ?_ | refine iCW_1 ?_ | refine iCW_N ?_ | refine Pk_b ?_))
   refine back (k + 1) _ _ ⟨rfl,by omega,?_,_,?_,Res.keep [.at b5,.at b4,.at b3] ‹_›⟩ (by omega)
   ·intro x' hx'
    rw [htk] at hx'
    rcases List.mem_append.1 hx' with hx' | hx'
    ·exact hall x' hx'
    ·rw [List.mem_singleton.1 hx']; exact small_x h2
   ·(repeat (first | assumption | exact Le.refl _ | exact Res.zle (by assumption) | refine Le.trans ?_ (by assumption:Le _ _)))
 ·have h:¬ (k:Int) < 2:=h
  have hk2:k = 2:=by omega
  subst hk2;clear back;obtain ⟨a,ha,sa⟩:=hall x (by simp);obtain ⟨b,hb,sb⟩:=hall y (by simp);obtain ⟨rfl,oka⟩:=nmOf_some ha;obtain ⟨rfl,okb⟩:=nmOf_some hb;clear hall hel hv
  by_cases h0:b.m = 0
  ·have hd:decide (b.num.digits = ⟨#[48]⟩) = true:=decide_eq_true (d48_dig.2 h0)
   have h9:dE (divR a.num b.num 40) = 9:=by
    unfold divR;rw [opd2_ok sa.in40 sb.in40];simp only [bindE];rw [if_pos h0]
    rfl
   (repeat (first | (refine iDr ?_; intro _ _) | refine V_run ?_ | refine PV_run ?_ | refine HV_run ?_ | refine iV_ld1 ?_ | refine iV_ldN ?_ | (refine iV_bx ?_; intro _ _ _ _) | (refine iV_al ?_; intro _ _ _ _) | (refine iV_mm ?_; intro _ _ _ _) | (refine iU_st ?_; intro _ _) | refine iHV_1 ?_ | refine iHV_N ?_ | refine iRI_1 ?_ | refine iRI_N ?_ | refine Cond_t ?_ | refine Cond_f ?_ | refine JB ?_ | (refine JC ?_; intro _ _ _ _) | (refine JGB ?_; intro _ _ _ _) | refine K1 ?_ | refine K0 ?_ | refine K2 ?_ | refine K3 ?_ | refine K4 ?_ | (refine CV_pu ?_; intro _ _ _ _) | (refine CV_puz ?_; intro _ _ _ _) | refine fRI_1 ?_ | refine fRI_N ?_ | refine gHV_lkI ?_ | refine gRI_lkI ?_ | refine gV_lkI ?_ | refine fV_ldN ?_ | refine fV_ld1 ?_ | refine fHV_ldN ?_ | refine fHV_ld1 ?_ | refine NilW_some ?_ | refine iCW_1 ?_ | refine iCW_N ?_ | refine Pk_b ?_));rw [hd];refine Cond_t ?_;(repeat (first | (refine iDr ?_; intro _ _) | refine V_run ?_ | refine PV_run ?_ | refine HV_run ?_ | refine iV_ld1 ?_ | refine iV_ldN ?_ | (refine iV_bx ?_; intro _ _ _ _) | (refine iV_al ?_; intro _ _ _ _) | (refine iV_mm ?_; intro _ _ _ _) | (refine iU_st ?_; intro _ _) | refine iHV_1 ?_ | refine iHV_N ?_ | refine iRI_1 ?_ | refine iRI_N ?_ | refine Cond_t ?_ | refine Cond_f ?_ | refine JB ?_ | (refine JC ?_; intro _ _ _ _) | (refine JGB ?_; intro _ _ _ _) | refine K1 ?_ | refine K0 ?_ | refine K2 ?_ | refine K3 ?_ | refine K4 ?_ | (refine CV_pu ?_; intro _ _ _ _) | (refine CV_puz ?_; intro _ _ _ _) | refine fRI_1 ?_ | refine fRI_N ?_ | refine gHV_lkI ?_ | refine gRI_lkI ?_ | refine gV_lkI ?_ | refine fV_ldN ?_ | refine fV_ld1 ?_ | refine fHV_ldN ?_ | refine fHV_ld1 ?_ | refine NilW_some ?_ | refine iCW_1 ?_ | refine iCW_N ?_ | refine Pk_b ?_));rw [h9];exact hR _ _ _ _ ‹_› (by simp)
  ·have hd:decide (b.num.digits = ⟨#[48]⟩) = false:=decide_eq_false fun e=>h0 (d48_dig.1 e)
   have F:=div_facts sa sb h0;(repeat (first | (refine iDr ?_; intro _ _) | refine V_run ?_ | refine PV_run ?_ | refine HV_run ?_ | refine iV_ld1 ?_ | refine iV_ldN ?_ | (refine iV_bx ?_; intro _ _ _ _) | (refine iV_al ?_; intro _ _ _ _) | (refine iV_mm ?_; intro _ _ _ _) | (refine iU_st ?_; intro _ _) | refine iHV_1 ?_ | refine iHV_N ?_ | refine iRI_1 ?_ | refine iRI_N ?_ | refine Cond_t ?_ | refine Cond_f ?_ | refine JB ?_ | (refine JC ?_; intro _ _ _ _) | (refine JGB ?_; intro _ _ _ _) | refine K1 ?_ | refine K0 ?_ | refine K2 ?_ | refine K3 ?_ | refine K4 ?_ | (refine CV_pu ?_; intro _ _ _ _) | (refine CV_puz ?_; intro _ _ _ _) | refine fRI_1 ?_ | refine fRI_N ?_ | refine gHV_lkI ?_ | refine gRI_lkI ?_ | refine gV_lkI ?_ | refine fV_ldN ?_ | refine fV_ld1 ?_ | refine fHV_ldN ?_ | refine fHV_ld1 ?_ | refine NilW_some ?_ | refine iCW_1 ?_ | refine iCW_N ?_ | refine Pk_b ?_));rw [hd];refine Cond_f ?_;obtain ⟨q,r,p,t,f1,f2,f3,f4,f5,f6,oq,or_,op,ot,⟨c,f7,f8⟩⟩:=F.ex;obtain ⟨n1,q1,r1,g1,g2,o1⟩:=F.dv;obtain ⟨n9,q9,r9,k1,o9⟩:=F.d9;haveI:Sm a.num.digits:=sm_ok oka;haveI:Sm b.num.digits:=sm_ok okb;haveI:Sm q.num.digits:=sm_ok oq;haveI:Sm r.num.digits:=sm_ok or_;haveI:Sm p.num.digits:=sm_ok op;haveI:Sm (absN r).num.digits:=⟨(sm_ok or_).h⟩
   haveI:Sm (absN b).num.digits:=⟨(sm_ok okb).h⟩
   haveI:Sm (mulN a b).num.digits:=sm_ok F.mok;haveI:Sm n9.num.digits:=sm_ok o9;have sm9:=@div_sm a.num b.num 9;rw [k1] at sm9;haveI:Sm (digB q9):=sm9.2.1;haveI:Sm (digB r9):=sm9.2.2;haveI:Pu 55 #[a.num.v,b.num.v,.int .i64 40] (.tuple #[q.num.v,.int .i64 0]):=resO idivI f1;haveI:Pu 57 #[a.num.v,b.num.v,.int .i64 40] (.tuple #[r.num.v,.int .i64 0]):=resO remI f2;haveI:Pu 23 #[b.num.v,q.num.v,.int .i64 40] (.tuple #[p.num.v,.int .i64 0]):=resO mulI f3;haveI:Pu 19 #[p.num.v,r.num.v,.int .i64 40] (.tuple #[t.num.v,.int .i64 0]):=resO addI f4;haveI:Pu 38 #[t.num.v,a.num.v] (.bool true):=sameO ot oka f5;haveI:Pu 27 #[.agg [.bool false,.string r.num.digits,.int .i64 r.num.exp].toArray,.agg [.bool false,.string b.num.digits,.int .i64 b.num.exp].toArray,.agg [.int .i64 40,.int .i64 0,.int .i64 0].toArray] (.tuple #[.int .i64 c,.int .i64 0]):=by
    have:=cmpI (x:=(absN r).num) (y:=(absN b).num) (s:=⟨40,0,0⟩);rw [f7] at this;exact this
   haveI:Pu 23 #[a.num.v,b.num.v,.int .i64 40] (.tuple #[(mulN a b).num.v,.int .i64 0]):=resO mulI F.mul;haveI:Pu 46 #[(mulN a b).num.v,b.num.v,.int .i64 40] _:=divO g1;haveI:Pu 38 #[n1.num.v,a.num.v] (.bool true):=sameO o1 oka g2;haveI:Pu 46 #[a.num.v,b.num.v,.int .i64 9] _:=divO k1;haveI:Pu 59 #[a.num.v,b.num.v,.int .i64 9,n9.num.v,.agg (litP (digB q9) (digB r9)).toArray] (.int .i64 0):=by
    have:=chkI (x:=a.num) (y:=b.num) (d:=9) (n:=n9.num) (p:=digB q9) (q:=digB r9);rw [chk_self o9 k1] at this;exact this
   have hsg:(bif !decide (r.num.digits = ⟨#[48]⟩) then !(r.num.neg == a.num.neg) else false) = false:=by
    by_cases hr0:r.m = 0
    ·have:decide (r.num.digits = ⟨#[48]⟩) = true:=decide_eq_true (d48_dig.2 hr0)
     rw [this]; rfl
    ·have e:r.num.neg = a.num.neg:=f6 hr0
     rw [e]; simp
   (repeat (first | (refine iDr ?_; intro _ _) | refine V_run ?_ | refine PV_run ?_ | refine HV_run ?_ | refine iV_ld1 ?_ | refine iV_ldN ?_ | (refine iV_bx ?_; intro _ _ _ _) | (refine iV_al ?_; intro _ _ _ _) | (refine iV_mm ?_; intro _ _ _ _) | (refine iU_st ?_; intro _ _) | refine iHV_1 ?_ | refine iHV_N ?_ | refine iRI_1 ?_ | refine iRI_N ?_ | refine Cond_t ?_ | refine Cond_f ?_ | refine JB ?_ | (refine JC ?_; intro _ _ _ _) | (refine JGB ?_; intro _ _ _ _) | refine K1 ?_ | refine K0 ?_ | refine K2 ?_ | refine K3 ?_ | refine K4 ?_ | (refine CV_pu ?_; intro _ _ _ _) | (refine CV_puz ?_; intro _ _ _ _) | refine fRI_1 ?_ | refine fRI_N ?_ | refine gHV_lkI ?_ | refine gRI_lkI ?_ | refine gV_lkI ?_ | refine fV_ldN ?_ | refine fV_ld1 ?_ | refine fHV_ldN ?_ | refine fHV_ld1 ?_ | refine NilW_some ?_ | refine iCW_1 ?_ | refine iCW_N ?_ | refine Pk_b ?_));rw [hsg];refine Cond_not (by simp) ?_;have hc8:decide (c ≥ 0) = false:=decide_eq_false (by omega);(repeat (first | (refine iDr ?_; intro _ _) | refine V_run ?_ | refine PV_run ?_ | refine HV_run ?_ | refine iV_ld1 ?_ | refine iV_ldN ?_ | (refine iV_bx ?_; intro _ _ _ _) | (refine iV_al ?_; intro _ _ _ _) | (refine iV_mm ?_; intro _ _ _ _) | (refine iU_st ?_; intro _ _) | refine iHV_1 ?_ | refine iHV_N ?_ | refine iRI_1 ?_ | refine iRI_N ?_ | refine Cond_t ?_ | refine Cond_f ?_ | refine JB ?_ | (refine JC ?_; intro _ _ _ _) | (refine JGB ?_; intro _ _ _ _) | refine K1 ?_ | refine K0 ?_ | refine K2 ?_ | refine K3 ?_ | refine K4 ?_ | (refine CV_pu ?_; intro _ _ _ _) | (refine CV_puz ?_; intro _ _ _ _) | refine fRI_1 ?_ | refine fRI_N ?_ | refine gHV_lkI ?_ | refine gRI_lkI ?_ | refine gV_lkI ?_ | refine fV_ldN ?_ | refine fV_ld1 ?_ | refine fHV_ldN ?_ | refine fHV_ld1 ?_ | refine NilW_some ?_ | refine iCW_1 ?_ | refine iCW_N ?_ | refine Pk_b ?_));rw [hc8];refine Cond_not (by simp) ?_;have hch:=@chk_other a.num b.num u 9 n9 q9 r9 k1;(repeat (first | (refine iDr ?_; intro _ _) | refine V_run ?_ | refine PV_run ?_ | refine HV_run ?_ | refine iV_ld1 ?_ | refine iV_ldN ?_ | (refine iV_bx ?_; intro _ _ _ _) | (refine iV_al ?_; intro _ _ _ _) | (refine iV_mm ?_; intro _ _ _ _) | (refine iU_st ?_; intro _ _) | refine iHV_1 ?_ | refine iHV_N ?_ | refine iRI_1 ?_ | refine iRI_N ?_ | refine Cond_t ?_ | refine Cond_f ?_ | refine JB ?_ | (refine JC ?_; intro _ _ _ _) | (refine JGB ?_; intro _ _ _ _) | refine K1 ?_ | refine K0 ?_ | refine K2 ?_ | refine K3 ?_ | refine K4 ?_ | (refine CV_pu ?_; intro _ _ _ _) | (refine CV_puz ?_; intro _ _ _ _) | refine fRI_1 ?_ | refine fRI_N ?_ | refine gHV_lkI ?_ | refine gRI_lkI ?_ | refine gV_lkI ?_ | refine fV_ldN ?_ | refine fV_ld1 ?_ | refine fHV_ldN ?_ | refine fHV_ld1 ?_ | refine NilW_some ?_ | refine iCW_1 ?_ | refine iCW_N ?_ | refine Pk_b ?_));refine hR _ _ _ _ ‹_› ?_;generalize chkR a.num b.num 9 u (digB q9) (digB r9) = e at *
   by_cases he:e = 0
   ·have:=hch he
    subst this;simp
   ·simp [he])
end
section
open Go Q Go.RowKit Go.Shelf
def El.byte8:El UInt8 where
 size:=1
 rel:=fun _ cs x=>cs = [.int .u8 x.toNat]
 mono:=fun h _=>h
 len:=fun h=>by rw [h]; rfl
 pos:=by decide
theorem V_cvb8 {w0 w:World} {z0 z:Z} {B0 L:Bl} {K:Value->World->Prop} [hS:Res w0 z0 B0 w z L] {s:ByteArray} (hs:s.size <= big)
  (hk:∀ z' w' v,Le z z'->Res w0 z0 B0 w' z' L->SlR El.byte8 z' v (bytes s)->K v w'):V (cv 9 60 (.string s)) w K:=by
 refine ⟨_,_,Lib.run_convert_string_bytes (u:=.string) (e:=5) w 9 60 s (by kernel_rfl) (by kernel_rfl) (by kernel_rfl),?_⟩;rw [bytesWorld_eq];have h1:=Res.new (Res.drew hS) (.cells (Lib.bytesCells w 5 s) 5 ((Lib.bytesCells w 5 s).size,(Lib.bytesCells w 5 s).size + 1));have h2:=Res.freeze h1;refine hk _ _ _ (Res.freeze_le h1) h2 ⟨_,_,by rw [<- size_bytes],by rw [<- size_bytes]; exact grownCap_ge w s.size 0 5,by rw [<- size_bytes]; exact hs,fun _=>⟨_,0,rfl,fun i x hx=>⟨_,rfl,_,_,_,if_pos rfl,fun j v hv=>?_⟩⟩⟩;have hj:j = 0:=by have:=(List.getElem?_eq_some_iff.1 hv).1; simpa using this
 subst hj;simp only [List.getElem?_cons_zero,Option.some.injEq] at hv;subst hv;have hi:=(List.getElem?_eq_some_iff.1 hx).1;have hx':s.data[i]? = some x:=by rw [<- Array.getElem?_toList]; exact hx
 show (Lib.bytesCells w 5 s)[0 + i * 1 + 0]? = _
 unfold Lib.bytesCells;rw [show 0 + i * 1 + 0 = i by omega,Array.getElem?_append_left (by simpa using hi),Array.getElem?_map,hx']
 rfl
theorem value_of {z:Z} {w:World} {s:ByteArray} (hd:Dg (bytes s)) (hs:s.size <= 17):Fn1 42 #[.string s] z w fun _ r=>r = .int .i64 (valL (bytes s):Nat):=Fn1.intro fun hS=>en42 (by
 unfold vc42;have hsz:=size_bytes s;refine V_cvb8 (by simp only [big]; omega) ?_;intro z1 w1 v1 hz1 hS1 hv;clear hS;obtain ⟨_,a,cap,rfl,hcap,hel⟩:=hv.form;refine V_run ?_;refine LoopG2 (fun (i:Nat) x y w'=>x = .int .i64 (valL ((bytes s).take i):Nat)/\y = .int .i64 (i:Nat)/\i <= s.size/\∃ z',Le z1 z'/\Res w z [] w' z' []) (fun i=>s.size - i) 0 ⟨rfl,rfl,Nat.zero_le _,z1,Le.refl _,hS1⟩ ?_;clear hS1;rintro I M i x y w2 m2 ⟨rfl,rfl,hi,z2,hz2,hS2⟩ back
 refine V_run ?_;refine Cond_d (fun h=>?_) (fun h=>?_)
 ·have hlt:i < (bytes s).length:=by omega
  have hg:(bytes s)[i]? = some (bytes s)[i]:=List.getElem?_eq_getElem hlt;have hc:=hd _ (List.getElem_mem hlt);have htk:(bytes s).take (i + 1) = (bytes s).take i ++ [(bytes s)[i]]:=List.take_succ_eq_append_getElem hlt;obtain ⟨b,off,cs,rfl,rfl,hat⟩:=hel i _ hg;generalize (bytes s)[i] = c at *;have e9:IntKind.i64.wrap (((c.toNat:Nat):Int) - 48) = ((c.toNat:Nat):Int) - 48:=wrp_in (n:=((c.toNat:Nat):Int) - 48) (by omega);have hv1:valL ((bytes s).take i) < 10 ^ 17:=by
   have h1:=val_lt ((bytes s).take i) (hd.take i);exact Nat.lt_of_lt_of_le h1 (tens_le (by rw [List.length_take]; omega))
  have h17:(10:Nat) ^ 17 = 100000000000000000:=by decide
  haveI:InR (i:Int) ((bytes s).length:Nat):=⟨by omega,by omega⟩
  haveI:InI (10 * ((valL ((bytes s).take i):Nat):Int)):=⟨by omega⟩
  haveI:D57 ((c.toNat:Nat):Int):=⟨by omega⟩
  haveI:InI (10 * ((valL ((bytes s).take i):Nat):Int) + IntKind.i64.wrap (((c.toNat:Nat):Int) - 48)):=⟨by rw [e9]; omega⟩
  haveI:InI ((i:Int) + 1):=⟨by omega⟩
  refine V_run ?_;rw [Int.toNat_natCast];refine zV_ld1 (hat.mono hz2) ?_;(repeat (first | (refine iDr ?_; intro _ _) | refine V_run ?_ | refine PV_run ?_ | refine HV_run ?_ | refine iV_ld1 ?_ | refine iV_ldN ?_ | (refine iV_bx ?_; intro _ _ _ _) | (refine iV_al ?_; intro _ _ _ _) | (refine iV_mm ?_; intro _ _ _ _) | (refine iU_st ?_; intro _ _) | refine iHV_1 ?_ | refine iHV_N ?_ | refine iRI_1 ?_ | refine iRI_N ?_ | refine Cond_t ?_ | refine Cond_f ?_ | refine JB ?_ | (refine JC ?_; intro _ _ _ _) | (refine JGB ?_; intro _ _ _ _) | refine K1 ?_ | refine K0 ?_ | refine K2 ?_ | refine K3 ?_ | refine K4 ?_ | (refine CV_pu ?_; intro _ _ _ _) | (refine CV_puz ?_; intro _ _ _ _) | refine fRI_1 ?_ | refine fRI_N ?_ | refine gHV_lkI ?_ | refine gRI_lkI ?_ | refine gV_lkI ?_ | refine fV_ldN ?_ | refine fV_ld1 ?_ | refine fHV_ldN ?_ | refine fHV_ld1 ?_ | refine NilW_some ?_ | refine iCW_1 ?_ | refine iCW_N ?_ | refine Pk_b ?_));refine back (i + 1) _ _ _ ⟨?_,rfl,by omega,_,hz2,hS2⟩ (by omega);rw [htk,valL_snoc,e9];refine congrArg (Value.int .i64) ?_;omega
 ·refine ⟨_,_,hS2,?_⟩
  rw [List.take_of_length_le (by omega)])
end
section
open Go Q Go.RowKit Go.Shelf
theorem opd1_fin {n:Nm} {k:Nat} (h:OkN n) (h1:0 < k) (h2:k <= 40):opd1 n.num (k:Int) = finN n k:=by
 unfold opd1;rw [nmOf_num h];simp only;rw [if_pos (by unfold wideD; simp; omega),Int.toNat_natCast]
theorem one_trim (m:Nat):lefB 48 (rigB 48 (digB m)) = ⟨#[49]⟩ ↔ (rtrim (digL m)).dropWhile (· == 48) = [49]:=by
 unfold lefB rigB;rw [bytes_strB,bytes_digB]
 show strB ((rtrim (digL m)).dropWhile (· == 48)) = _ ↔ _
 constructor
 ·intro h
  have:=congrArg bytes h
  rwa [bytes_strB] at this
 ·intro h
  rw [h]
theorem bt_first (m:Nat):bt (digB m) 0 = 49 ↔ (digL m).head? = some 49:=by
 have hne:=digL_ne m
 cases hd:digL m with
 | nil=>exact absurd hd hne
 | cons c r=>
  have h0:(bytes (digB m))[0]? = some c:=by rw [bytes_digB,hd]; rfl
  have:bt (digB m) 0 = (c.toNat:Int):=bt_get (k:=0) h0;rw [this]
  show _ ↔ some c = some 49
  constructor
  ·intro h
   have:c = 49:=by
    apply UInt8.toNat_inj.1
    show c.toNat = 49
    omega
   rw [this]
  ·intro h
   cases h
   rfl
theorem law_nearest {z:Z} {w:World} {x:NumM} {d:Int} [ht:Tab z] [hx:Sm x.digits]:Fn1 9 #[x.v,.int .i64 d] z w fun _ r=>r = .bool true:=Fn1.intro fun hS=>en9 (by
 unfold vc9;generalize hRR:(fun (v:Value) (w':World)=>∃ z' L',Res w z [] w' z' L'/\v = .bool true) = RR;have hR:∀ w' z' L' c,Res w z [] w' z' L'->c = true->RR (.bool c) w':=fun w' z' L' c k e=>by rw [<- hRR]; exact ⟨_,_,k,by rw [e]⟩
 clear hRR;refine iV_bx ?_;intro b2 w1 hb2 hS1;clear hS;(repeat (first | (refine iDr ?_; intro _ _) | refine V_run ?_ | refine PV_run ?_ | refine HV_run ?_ | refine iV_ld1 ?_ | refine iV_ldN ?_ | (refine iV_bx ?_; intro _ _ _ _) | (refine iV_al ?_; intro _ _ _ _) | (refine iV_mm ?_; intro _ _ _ _) | (refine iU_st ?_; intro _ _) | refine iHV_1 ?_ | refine iHV_N ?_ | refine iRI_1 ?_ | refine iRI_N ?_ | refine Cond_t ?_ | refine Cond_f ?_ | refine JB ?_ | (refine JC ?_; intro _ _ _ _) | (refine JGB ?_; intro _ _ _ _) | refine K1 ?_ | refine K0 ?_ | refine K2 ?_ | refine K3 ?_ | refine K4 ?_ | (refine CV_pu ?_; intro _ _ _ _) | (refine CV_puz ?_; intro _ _ _ _) | refine fRI_1 ?_ | refine fRI_N ?_ | refine gHV_lkI ?_ | refine gRI_lkI ?_ | refine gV_lkI ?_ | refine fV_ldN ?_ | refine fV_ld1 ?_ | refine fHV_ldN ?_ | refine fHV_ld1 ?_ | refine NilW_some ?_ | refine iCW_1 ?_ | refine iCW_N ?_ | refine Pk_b ?_));refine V_valid1 ?_;intro z2 w2 hz2 hS2;clear hS1;(repeat (first | (refine iDr ?_; intro _ _) | refine V_run ?_ | refine PV_run ?_ | refine HV_run ?_ | refine iV_ld1 ?_ | refine iV_ldN ?_ | (refine iV_bx ?_; intro _ _ _ _) | (refine iV_al ?_; intro _ _ _ _) | (refine iV_mm ?_; intro _ _ _ _) | (refine iU_st ?_; intro _ _) | refine iHV_1 ?_ | refine iHV_N ?_ | refine iRI_1 ?_ | refine iRI_N ?_ | refine Cond_t ?_ | refine Cond_f ?_ | refine JB ?_ | (refine JC ?_; intro _ _ _ _) | (refine JGB ?_; intro _ _ _ _) | refine K1 ?_ | refine K0 ?_ | refine K2 ?_ | refine K3 ?_ | refine K4 ?_ | (refine CV_pu ?_; intro _ _ _ _) | (refine CV_puz ?_; intro _ _ _ _) | refine fRI_1 ?_ | refine fRI_N ?_ | refine gHV_lkI ?_ | refine gRI_lkI ?_ | refine gV_lkI ?_ | refine fV_ldN ?_ | refine fV_ld1 ?_ | refine fHV_ldN ?_ | refine fHV_ld1 ?_ | refine NilW_some ?_ | refine iCW_1 ?_ | refine iCW_N ?_ | refine Pk_b ?_));refine Cond_b (fun h=>?_) (fun h=>?_)
 ·(repeat (first | (refine iDr ?_; intro _ _) | refine V_run ?_ | refine PV_run ?_ | refine HV_run ?_ | refine iV_ld1 ?_ | refine iV_ldN ?_ | (refine iV_bx ?_; intro _ _ _ _) | (refine iV_al ?_; intro _ _ _ _) | (refine iV_mm ?_; intro _ _ _ _) | (refine iU_st ?_; intro _ _) | refine iHV_1 ?_ | refine iHV_N ?_ | refine iRI_1 ?_ | refine iRI_N ?_ | refine Cond_t ?_ | refine Cond_f ?_ | refine JB ?_ | (refine JC ?_; intro _ _ _ _) | (refine JGB ?_; intro _ _ _ _) | refine K1 ?_ | refine K0 ?_ | refine K2 ?_ | refine K3 ?_ | refine K4 ?_ | (refine CV_pu ?_; intro _ _ _ _) | (refine CV_puz ?_; intro _ _ _ _) | refine fRI_1 ?_ | refine fRI_N ?_ | refine gHV_lkI ?_ | refine gRI_lkI ?_ | refine gV_lkI ?_ | refine fV_ldN ?_ | refine fV_ld1 ?_ | refine fHV_ldN ?_ | refine fHV_ld1 ?_ | refine NilW_some ?_ | refine iCW_1 ?_ | refine iCW_N ?_ | refine Pk_b ?_))
  exact hR _ _ _ _ ‹_› rfl
 have hv:validM d [x] = true/\x.digits.size <= 15/\-20 <= x.exp/\x.exp <= 20:=by
  simp at h;obtain ⟨⟨⟨q1,q2⟩,q3⟩,q4⟩:=h;exact ⟨q1,by omega,by omega,by omega⟩
 clear h;obtain ⟨a,ha⟩:∃ a,nmOf x = some a:=by
  have:=hv.1;unfold validM at this;simp at this;exact Option.isSome_iff_exists.1 this.1
 obtain ⟨k,rfl,hk1,hk2⟩:∃ k:Nat,d = (k:Int)/\0 < k/\k <= 40:=by
  have:=hv.1;unfold validM wideD at this;simp at this;exact ⟨d.toNat,by omega,by omega,by omega⟩
 obtain ⟨rfl,oka⟩:=nmOf_some ha;obtain ⟨-,v1,v2,v3⟩:=hv;have e1:a.num.digits.size = lenD a.m:=size_digB a.m;have h15:lenD a.m <= 15:=by omega
 have v2:-20 <= a.e:=v2;have v3:a.e <= 20:=v3;have ham:a.m < 10 ^ 200:=Nat.lt_of_lt_of_le (lt_lenD a.m) (Nat.pow_le_pow_right (by omega) (by omega));obtain ⟨f1,im⟩:=fin_near' (d:=k) hk1 hk2 oka.c ham (by omega) (by omega);have hmc:=im.c;have hrn:=round_neg (n:=a) hk1 oka.c;have hna:=neg_e oka.c;have hne:(negN a).m = a.m:=mk_m _ _ _;obtain ⟨f2,in_⟩:=fin_near' (n:=negN a) (d:=k) hk1 hk2 (C_neg a) (by rw [hne]; exact ham) (by omega) (by omega);have okn:OkN (negN a):=⟨C_neg a,by rw [hne]; exact oka.len,by
  refine fits_of ?_ ?_ <;> unfold adjN <;> rw [hne] <;> have:=lenD_pos a.m <;> omega⟩
 rw [hrn] at f2;have hle:=round_len (n:=a) hk1;have hexp:=round_exp a k;have hsg:=round_s a k;generalize hM:roundN a k = M at *;have fM:finN M k = .ok M:=fin_ok hle im.fits;haveI:Sm a.num.digits:=sm_ok oka;haveI:Sm M.num.digits:=sm_ok im.ok;haveI:Sm (negN a).num.digits:=sm_ok okn;haveI:Pu 40 #[a.num.v,.int .i64 (k:Int)] (.tuple #[M.num.v,.int .i64 0]):=resO roundI (by rw [opd1_fin oka hk1 hk2,f1]);haveI:Pu 40 #[M.num.v,.int .i64 (k:Int)] (.tuple #[M.num.v,.int .i64 0]):=resO roundI (by rw [opd1_fin im.ok hk1 hk2,fM]);haveI:Pu 40 #[(negN a).num.v,.int .i64 (k:Int)] (.tuple #[(negN M).num.v,.int .i64 0]):=resO roundI (by rw [opd1_fin okn hk1 hk2,f2]);haveI:Pu 41 #[a.num.v] (negN a).num.v:=opp_of oka.c;haveI:Pu 41 #[M.num.v] (negN M).num.v:=opp_of hmc;have e2:M.num.digits.size = lenD M.m:=size_digB M.m;have e3:M.num.exp = M.e:=rfl;have e4:a.num.exp = a.e:=rfl;have e5:M.num.neg = a.num.neg:=hsg;(repeat (first | (refine iDr ?_; intro _ _) | refine V_run ?_ | refine PV_run ?_ | refine HV_run ?_ | refine iV_ld1 ?_ | refine iV_ldN ?_ | (refine iV_mm ?_; intro _ _ _ _) | (refine iU_st ?_; intro _ _) | refine iHV_1 ?_ | refine iHV_N ?_ | refine iRI_1 ?_ | refine iRI_N ?_ | refine Cond_t ?_ | refine Cond_f ?_ | refine JB ?_ | (refine JC ?_; intro _ _ _ _) | (refine JGB ?_; intro _ _ _ _) | (refine J1 ?_; intro _ _) | (refine J0 ?_; intro _ _) | (refine J2 ?_; intro _ _) | (refine J3 ?_; intro _ _) | (refine J4 ?_; intro _ _) | refine K1 ?_ | refine K0 ?_ | refine K2 ?_ | refine K3 ?_ | refine K4 ?_ | (refine CV_pu ?_; intro _ _ _ _) | (refine CV_puz ?_; intro _ _ _ _) | refine fRI_1 ?_ | refine fRI_N ?_ | refine gHV_lkI ?_ | refine gRI_lkI ?_ | refine gV_lkI ?_ | refine fV_ldN ?_ | refine fV_ld1 ?_ | refine fHV_ldN ?_ | refine fHV_ld1 ?_ | refine NilW_some ?_ | refine iCW_1 ?_ | refine iCW_N ?_ | refine Pk_b ?_));refine iV_al ?_;intro b5 w5 hb5 hS5;(repeat (first | (refine iDr ?_; intro _ _) | refine V_run ?_ | refine PV_run ?_ | refine HV_run ?_ | refine iV_ld1 ?_ | refine iV_ldN ?_ | (refine iV_mm ?_; intro _ _ _ _) | (refine iU_st ?_; intro _ _) | refine iHV_1 ?_ | refine iHV_N ?_ | refine iRI_1 ?_ | refine iRI_N ?_ | refine Cond_t ?_ | refine Cond_f ?_ | refine JB ?_ | (refine JC ?_; intro _ _ _ _) | (refine JGB ?_; intro _ _ _ _) | (refine J1 ?_; intro _ _) | (refine J0 ?_; intro _ _) | (refine J2 ?_; intro _ _) | (refine J3 ?_; intro _ _) | (refine J4 ?_; intro _ _) | refine K1 ?_ | refine K0 ?_ | refine K2 ?_ | refine K3 ?_ | refine K4 ?_ | (refine CV_pu ?_; intro _ _ _ _) | (refine CV_puz ?_; intro _ _ _ _) | refine fRI_1 ?_ | refine fRI_N ?_ | refine gHV_lkI ?_ | refine gRI_lkI ?_ | refine gV_lkI ?_ | refine fV_ldN ?_ | refine fV_ld1 ?_ | refine fHV_ldN ?_ | refine fHV_ld1 ?_ | refine NilW_some ?_ | refine iCW_1 ?_ | refine iCW_N ?_ | refine Pk_b ?_));refine iV_al ?_;intro b7 w7 hb7 hS7;(repeat (first | (refine iDr ?_; intro _ _) | refine V_run ?_ | refine PV_run ?_ | refine HV_run ?_ | refine iV_ld1 ?_ | refine iV_ldN ?_ | (refine iV_mm ?_; intro _ _ _ _) | (refine iU_st ?_; intro _ _) | refine iHV_1 ?_ | refine iHV_N ?_ | refine iRI_1 ?_ | refine iRI_N ?_ | refine Cond_t ?_ | refine Cond_f ?_ | refine JB ?_ | (refine JC ?_; intro _ _ _ _) | (refine JGB ?_; intro _ _ _ _) | (refine J1 ?_; intro _ _) | (refine J0 ?_; intro _ _) | (refine J2 ?_; intro _ _) | (refine J3 ?_; intro _ _) | (refine J4 ?_; intro _ _) | refine K1 ?_ | refine K0 ?_ | refine K2 ?_ | refine K3 ?_ | refine K4 ?_ | (refine CV_pu ?_; intro _ _ _ _) | (refine CV_puz ?_; intro _ _ _ _) | refine fRI_1 ?_ | refine fRI_N ?_ | refine gHV_lkI ?_ | refine gRI_lkI ?_ | refine gV_lkI ?_ | refine fV_ldN ?_ | refine fV_ld1 ?_ | refine fHV_ldN ?_ | refine fHV_ld1 ?_ | refine NilW_some ?_ | refine iCW_1 ?_ | refine iCW_N ?_ | refine Pk_b ?_))
 refine iV_al ?_;intro b9 w9 hb9 hS9;(repeat (first | (refine iDr ?_; intro _ _) | refine V_run ?_ | refine PV_run ?_ | refine HV_run ?_ | refine iV_ld1 ?_ | refine iV_ldN ?_ | (refine iV_bx ?_; intro _ _ _ _) | (refine iV_al ?_; intro _ _ _ _) | (refine iV_mm ?_; intro _ _ _ _) | (refine iU_st ?_; intro _ _) | refine iHV_1 ?_ | refine iHV_N ?_ | refine iRI_1 ?_ | refine iRI_N ?_ | refine Cond_t ?_ | refine Cond_f ?_ | refine JB ?_ | (refine JC ?_; intro _ _ _ _) | (refine JGB ?_; intro _ _ _ _) | refine K1 ?_ | refine K0 ?_ | refine K2 ?_ | refine K3 ?_ | refine K4 ?_ | (refine CV_pu ?_; intro _ _ _ _) | (refine CV_puz ?_; intro _ _ _ _) | refine fRI_1 ?_ | refine fRI_N ?_ | refine gHV_lkI ?_ | refine gRI_lkI ?_ | refine gV_lkI ?_ | refine fV_ldN ?_ | refine fV_ld1 ?_ | refine fHV_ldN ?_ | refine fHV_ld1 ?_ | refine NilW_some ?_ | refine iCW_1 ?_ | refine iCW_N ?_ | refine Pk_b ?_));rename_i hS3;clear hS2 hS5 hS7 hS9;intro K0 hK0;(repeat (first | (refine iDr ?_; intro _ _) | refine V_run ?_ | refine PV_run ?_ | refine HV_run ?_ | refine iV_ld1 ?_ | refine iV_ldN ?_ | (refine iV_bx ?_; intro _ _ _ _) | (refine iV_al ?_; intro _ _ _ _) | (refine iV_mm ?_; intro _ _ _ _) | (refine iU_st ?_; intro _ _) | refine iHV_1 ?_ | refine iHV_N ?_ | refine iRI_1 ?_ | refine iRI_N ?_ | refine Cond_t ?_ | refine Cond_f ?_ | refine JB ?_ | (refine JC ?_; intro _ _ _ _) | (refine JGB ?_; intro _ _ _ _) | refine K1 ?_ | refine K0 ?_ | refine K2 ?_ | refine K3 ?_ | refine K4 ?_ | (refine CV_pu ?_; intro _ _ _ _) | (refine CV_puz ?_; intro _ _ _ _) | refine fRI_1 ?_ | refine fRI_N ?_ | refine gHV_lkI ?_ | refine gRI_lkI ?_ | refine gV_lkI ?_ | refine fV_ldN ?_ | refine fV_ld1 ?_ | refine fHV_ldN ?_ | refine fHV_ld1 ?_ | refine NilW_some ?_ | refine iCW_1 ?_ | refine iCW_N ?_ | refine Pk_b ?_));refine Cond_not (by simp) ?_;(repeat (first | (refine iDr ?_; intro _ _) | refine V_run ?_ | refine PV_run ?_ | refine HV_run ?_ | refine iV_ld1 ?_ | refine iV_ldN ?_ | (refine iV_bx ?_; intro _ _ _ _) | (refine iV_al ?_; intro _ _ _ _) | (refine iV_mm ?_; intro _ _ _ _) | (refine iU_st ?_; intro _ _) | refine iHV_1 ?_ | refine iHV_N ?_ | refine iRI_1 ?_ | refine iRI_N ?_ | refine Cond_t ?_ | refine Cond_f ?_ | refine JB ?_ | (refine JC ?_; intro _ _ _ _) | (refine JGB ?_; intro _ _ _ _) | refine K1 ?_ | refine K0 ?_ | refine K2 ?_ | refine K3 ?_ | refine K4 ?_ | (refine CV_pu ?_; intro _ _ _ _) | (refine CV_puz ?_; intro _ _ _ _) | refine fRI_1 ?_ | refine fRI_N ?_ | refine gHV_lkI ?_ | refine gRI_lkI ?_ | refine gV_lkI ?_ | refine fV_ldN ?_ | refine fV_ld1 ?_ | refine fHV_ldN ?_ | refine fHV_ld1 ?_ | refine NilW_some ?_ | refine iCW_1 ?_ | refine iCW_N ?_ | refine Pk_b ?_));refine Cond_not (by simp) ?_;(repeat (first | (refine iDr ?_; intro _ _) | refine V_run ?_ | refine PV_run ?_ | refine HV_run ?_ | refine iV_ld1 ?_ | refine iV_ldN ?_ | (refine iV_bx ?_; intro _ _ _ _) | (refine iV_al ?_; intro _ _ _ _) | (refine iV_mm ?_; intro _ _ _ _) | (refine iU_st ?_; intro _ _) | refine iHV_1 ?_ | refine iHV_N ?_ | refine iRI_1 ?_ | refine iRI_N ?_ | refine Cond_t ?_ | refine Cond_f ?_ | refine JB ?_ | (refine JC ?_; intro _ _ _ _) | (refine JGB ?_; intro _ _ _ _) | refine K1 ?_ | refine K0 ?_ | refine K2 ?_ | refine K3 ?_ | refine K4 ?_ | (refine CV_pu ?_; intro _ _ _ _) | (refine CV_puz ?_; intro _ _ _ _) | refine fRI_1 ?_ | refine fRI_N ?_ | refine gHV_lkI ?_ | refine gRI_lkI ?_ | refine gV_lkI ?_ | refine fV_ldN ?_ | refine fV_ld1 ?_ | refine fHV_ldN ?_ | refine fHV_ld1 ?_ | refine NilW_some ?_ | refine iCW_1 ?_ | refine iCW_N ?_ | refine Pk_b ?_))
 refine Cond_not (decide_eq_false (by omega)) ?_;(repeat (first | (refine iDr ?_; intro _ _) | refine V_run ?_ | refine PV_run ?_ | refine HV_run ?_ | refine iV_ld1 ?_ | refine iV_ldN ?_ | (refine iV_bx ?_; intro _ _ _ _) | (refine iV_al ?_; intro _ _ _ _) | (refine iV_mm ?_; intro _ _ _ _) | (refine iU_st ?_; intro _ _) | refine iHV_1 ?_ | refine iHV_N ?_ | refine iRI_1 ?_ | refine iRI_N ?_ | refine Cond_t ?_ | refine Cond_f ?_ | refine JB ?_ | (refine JC ?_; intro _ _ _ _) | (refine JGB ?_; intro _ _ _ _) | refine K1 ?_ | refine K0 ?_ | refine K2 ?_ | refine K3 ?_ | refine K4 ?_ | (refine CV_pu ?_; intro _ _ _ _) | (refine CV_puz ?_; intro _ _ _ _) | refine fRI_1 ?_ | refine fRI_N ?_ | refine gHV_lkI ?_ | refine gRI_lkI ?_ | refine gV_lkI ?_ | refine fV_ldN ?_ | refine fV_ld1 ?_ | refine fHV_ldN ?_ | refine fHV_ld1 ?_ | refine NilW_some ?_ | refine iCW_1 ?_ | refine iCW_N ?_ | refine Pk_b ?_));refine Cond_not (decide_eq_false (by omega)) ?_;(repeat (first | (refine iDr ?_; intro _ _) | refine V_run ?_ | refine PV_run ?_ | refine HV_run ?_ | refine iV_ld1 ?_ | refine iV_ldN ?_ | (refine iV_bx ?_; intro _ _ _ _) | (refine iV_al ?_; intro _ _ _ _) | (refine iV_mm ?_; intro _ _ _ _) | (refine iU_st ?_; intro _ _) | refine iHV_1 ?_ | refine iHV_N ?_ | refine iRI_1 ?_ | refine iRI_N ?_ | refine Cond_t ?_ | refine Cond_f ?_ | refine JB ?_ | (refine JC ?_; intro _ _ _ _) | (refine JGB ?_; intro _ _ _ _) | refine K1 ?_ | refine K0 ?_ | refine K2 ?_ | refine K3 ?_ | refine K4 ?_ | (refine CV_pu ?_; intro _ _ _ _) | (refine CV_puz ?_; intro _ _ _ _) | refine fRI_1 ?_ | refine fRI_N ?_ | refine gHV_lkI ?_ | refine gRI_lkI ?_ | refine gV_lkI ?_ | refine fV_ldN ?_ | refine fV_ld1 ?_ | refine fHV_ldN ?_ | refine fHV_ld1 ?_ | refine NilW_some ?_ | refine iCW_1 ?_ | refine iCW_N ?_ | refine Pk_b ?_));rename_i hS4;clear hS3;refine hK0 _ _ fun _=>?_
 clear hK0;refine Cond_not (by rw [e5]; simp) ?_;(repeat (first | (refine iDr ?_; intro _ _) | refine V_run ?_ | refine PV_run ?_ | refine HV_run ?_ | refine iV_ld1 ?_ | refine iV_ldN ?_ | (refine iV_bx ?_; intro _ _ _ _) | (refine iV_al ?_; intro _ _ _ _) | (refine iV_mm ?_; intro _ _ _ _) | (refine iU_st ?_; intro _ _) | refine iHV_1 ?_ | refine iHV_N ?_ | refine iRI_1 ?_ | refine iRI_N ?_ | refine Cond_t ?_ | refine Cond_f ?_ | refine JB ?_ | (refine JC ?_; intro _ _ _ _) | (refine JGB ?_; intro _ _ _ _) | refine K1 ?_ | refine K0 ?_ | refine K2 ?_ | refine K3 ?_ | refine K4 ?_ | (refine CV_pu ?_; intro _ _ _ _) | (refine CV_puz ?_; intro _ _ _ _) | refine fRI_1 ?_ | refine fRI_N ?_ | refine gHV_lkI ?_ | refine gRI_lkI ?_ | refine gV_lkI ?_ | refine fV_ldN ?_ | refine fV_ld1 ?_ | refine fHV_ldN ?_ | refine fHV_ld1 ?_ | refine NilW_some ?_ | refine iCW_1 ?_ | refine iCW_N ?_ | refine Pk_b ?_));refine Cond_d (fun hl=>?_) (fun hl=>?_)
 ·have hMa:M = a:=by rw [<- hM]; exact round_id (by omega)
  (repeat (first | (refine iDr ?_; intro _ _) | refine V_run ?_ | refine PV_run ?_ | refine HV_run ?_ | refine iV_ld1 ?_ | refine iV_ldN ?_ | (refine iV_bx ?_; intro _ _ _ _) | (refine iV_al ?_; intro _ _ _ _) | (refine iV_mm ?_; intro _ _ _ _) | (refine iU_st ?_; intro _ _) | refine iHV_1 ?_ | refine iHV_N ?_ | refine iRI_1 ?_ | refine iRI_N ?_ | refine Cond_t ?_ | refine Cond_f ?_ | refine JB ?_ | (refine JC ?_; intro _ _ _ _) | (refine JGB ?_; intro _ _ _ _) | refine K1 ?_ | refine K0 ?_ | refine K2 ?_ | refine K3 ?_ | refine K4 ?_ | (refine CV_pu ?_; intro _ _ _ _) | (refine CV_puz ?_; intro _ _ _ _) | refine fRI_1 ?_ | refine fRI_N ?_ | refine gHV_lkI ?_ | refine gRI_lkI ?_ | refine gV_lkI ?_ | refine fV_ldN ?_ | refine fV_ld1 ?_ | refine fHV_ldN ?_ | refine fHV_ld1 ?_ | refine NilW_some ?_ | refine iCW_1 ?_ | refine iCW_N ?_ | refine Pk_b ?_));exact hR _ _ _ _ ‹_› (by rw [hMa]; simp)
 have hl:k < lenD a.m:=by omega
 obtain ⟨u,last,n1,n2,n3,n4,n5⟩:=near_law hk1 hl h15;rw [hM] at n1 n3 n4 n5;have hu:(10:Nat) ^ u <= 10 ^ 17:=Nat.pow_le_pow_right (by omega) n2;have h17:(10:Nat) ^ 17 = 100000000000000000:=by decide
 have hal:a.m < 10 ^ 15:=Nat.lt_of_lt_of_le (lt_lenD a.m) (Nat.pow_le_pow_right (by omega) h15);have h15':(10:Nat) ^ 15 = 1000000000000000:=by decide
 have hlast:last <= 10 ^ u:=by
  rw [n3]
  split
  ·exact Nat.div_le_self _ _
  ·exact Nat.le_refl _
 haveI:InI (M.num.exp - a.num.exp):=⟨by omega⟩
 have hmin:min (M.num.exp - a.num.exp) 17 = (u:Int):=by omega
 (repeat (first | (refine iDr ?_; intro _ _) | refine V_run ?_ | refine PV_run ?_ | refine HV_run ?_ | refine iV_ld1 ?_ | refine iV_ldN ?_ | (refine iV_bx ?_; intro _ _ _ _) | (refine iV_al ?_; intro _ _ _ _) | (refine iV_mm ?_; intro _ _ _ _) | (refine iU_st ?_; intro _ _) | refine iHV_1 ?_ | refine iHV_N ?_ | refine iRI_1 ?_ | refine iRI_N ?_ | refine Cond_t ?_ | refine Cond_f ?_ | refine JB ?_ | (refine JC ?_; intro _ _ _ _) | (refine JGB ?_; intro _ _ _ _) | refine K1 ?_ | refine K0 ?_ | refine K2 ?_ | refine K3 ?_ | refine K4 ?_ | (refine CV_pu ?_; intro _ _ _ _) | (refine CV_puz ?_; intro _ _ _ _) | refine fRI_1 ?_ | refine fRI_N ?_ | refine gHV_lkI ?_ | refine gRI_lkI ?_ | refine gV_lkI ?_ | refine fV_ldN ?_ | refine fV_ld1 ?_ | refine fHV_ldN ?_ | refine fHV_ld1 ?_ | refine NilW_some ?_ | refine iCW_1 ?_ | refine iCW_N ?_ | refine Pk_b ?_));rw [hmin];refine LoopR2 (hS:=hS4) (fun (i:Nat) p q=>p = .int .i64 (10 ^ i:Nat)/\q = .int .i64 (i:Nat)/\i <= u) (fun i=>u - i) 0 ⟨rfl,rfl,Nat.zero_le _⟩ ?_;rintro I Mm i p q w6 z6 m6 ⟨rfl,rfl,hi⟩ hz6 hS6 back
 clear hS4;refine V_run ?_;refine Cond_d (fun hlt=>?_) (fun hlt=>?_)
 ·have hp:(10:Nat) ^ (i + 1) <= 10 ^ 17:=Nat.pow_le_pow_right (by omega) (by omega)
  have hp2:(10:Nat) ^ (i + 1) = 10 ^ i * 10:=Nat.pow_succ ..;haveI:InI (((10 ^ i:Nat):Int) * 10):=⟨by omega⟩
  haveI:InI ((i:Int) + 1):=⟨by omega⟩
  refine V_run ?_;refine V_run ?_;refine back (i + 1) _ _ _ _ ⟨?_,rfl,by omega⟩ (Le.refl _) hS6 (by omega);rw [hp2]; rfl
 have hiu:i = u:=by omega
 subst hiu;clear back;intro K1 hK1;have main:∀ w' z',Le z6 z'->Res w z [] w' z' [(b9,.cells (negN M).num.cells.toArray 23 (0,0)),(b7,.cells M.num.cells.toArray 23 (0,0)),(b5,.cells M.num.cells.toArray 23 (0,0)),(b2,.cells a.num.cells.toArray 23 (0,0))]->K1 [.int .i64 (last:Nat)] w':=by
  intro w' z' hz' hS';refine hK1 _ _ fun _=>?_
  clear hK1 hS6;haveI:Pu 42 #[.string a.num.digits] (.int .i64 (a.m:Nat)):=⟨fun z w=>by
   have:=value_of (z:=z) (w:=w) (s:=digB a.m) (dg_digB a.m) (by rw [size_digB]; omega);rw [val_digB] at this;exact this⟩
  haveI:Pu 42 #[.string M.num.digits] (.int .i64 (M.m:Nat)):=⟨fun z w=>by
   have hml:lenD M.m <= 17:=by omega
   have:=value_of (z:=z) (w:=w) (s:=digB M.m) (dg_digB M.m) (by rw [size_digB]; omega);rw [val_digB] at this;exact this⟩
  have hprod:((M.m:Nat):Int) * ((10 ^ i:Nat):Int) = ((M.m * 10 ^ i:Nat):Int):=by rw [Int.natCast_mul]
  generalize hY:M.m * 10 ^ i = Y at *;haveI:InI (((M.m:Nat):Int) * ((10 ^ i:Nat):Int)):=⟨by rw [hprod]; omega⟩
  haveI:InI (((a.m:Nat):Int) - ((M.m:Nat):Int) * ((10 ^ i:Nat):Int)):=⟨by rw [hprod]; omega⟩
  haveI:InI (((M.m:Nat):Int) * ((10 ^ i:Nat):Int) - ((a.m:Nat):Int)):=⟨by rw [hprod]; omega⟩
  haveI:InI (2 * max (((a.m:Nat):Int) - ((M.m:Nat):Int) * ((10 ^ i:Nat):Int)) (((M.m:Nat):Int) * ((10 ^ i:Nat):Int) - ((a.m:Nat):Int))):=⟨by rw [hprod]; omega⟩
  haveI:InI (2 * (((a.m:Nat):Int) - ((M.m:Nat):Int) * ((10 ^ i:Nat):Int))):=⟨by rw [hprod]; omega⟩
  (repeat (first | (refine iDr ?_; intro _ _) | refine V_run ?_ | refine PV_run ?_ | refine HV_run ?_ | refine iV_ld1 ?_ | refine iV_ldN ?_ | (refine iV_bx ?_; intro _ _ _ _) | (refine iV_al ?_; intro _ _ _ _) | (refine iV_mm ?_; intro _ _ _ _) | (refine iU_st ?_; intro _ _) | refine iHV_1 ?_ | refine iHV_N ?_ | refine iRI_1 ?_ | refine iRI_N ?_ | refine Cond_t ?_ | refine Cond_f ?_ | refine JB ?_ | (refine JC ?_; intro _ _ _ _) | (refine JGB ?_; intro _ _ _ _) | refine K1 ?_ | refine K0 ?_ | refine K2 ?_ | refine K3 ?_ | refine K4 ?_ | (refine CV_pu ?_; intro _ _ _ _) | (refine CV_puz ?_; intro _ _ _ _) | refine fRI_1 ?_ | refine fRI_N ?_ | refine gHV_lkI ?_ | refine gRI_lkI ?_ | refine gV_lkI ?_ | refine fV_ldN ?_ | refine fV_ld1 ?_ | refine fHV_ldN ?_ | refine fHV_ld1 ?_ | refine NilW_some ?_ | refine iCW_1 ?_ | refine iCW_N ?_ | refine Pk_b ?_));refine hR _ _ _ _ ‹_› ?_;rw [hprod];have q1:decide (2 * max (((a.m:Nat):Int) - (Y:Int)) ((Y:Int) - ((a.m:Nat):Int)) <= (last:Int)) = true:=decide_eq_true (by omega);have q2:decide (2 * (((a.m:Nat):Int) - (Y:Int)) < (last:Int)) = true:=decide_eq_true (by omega);rw [q1,q2]
  rfl
 clear hK1;have hpos:=lenD_pos M.m;haveI:InStr M.num.digits 0:=⟨by omega,by omega⟩
 haveI:InI ((a.num.digits.size:Int) - (k:Int)):=⟨by omega⟩
 (repeat (first | (refine iDr ?_; intro _ _) | refine V_run ?_ | refine PV_run ?_ | refine HV_run ?_ | refine iV_ld1 ?_ | refine iV_ldN ?_ | (refine iV_bx ?_; intro _ _ _ _) | (refine iV_al ?_; intro _ _ _ _) | (refine iV_mm ?_; intro _ _ _ _) | (refine iU_st ?_; intro _ _) | refine iHV_1 ?_ | refine iHV_N ?_ | refine iRI_1 ?_ | refine iRI_N ?_ | refine Cond_t ?_ | refine Cond_f ?_ | refine JB ?_ | (refine JC ?_; intro _ _ _ _) | (refine JGB ?_; intro _ _ _ _) | refine K1 ?_ | refine K0 ?_ | refine K2 ?_ | refine K3 ?_ | refine K4 ?_ | (refine CV_pu ?_; intro _ _ _ _) | (refine CV_puz ?_; intro _ _ _ _) | refine fRI_1 ?_ | refine fRI_N ?_ | refine gHV_lkI ?_ | refine gRI_lkI ?_ | refine gV_lkI ?_ | refine fV_ldN ?_ | refine fV_ld1 ?_ | refine fHV_ldN ?_ | refine fHV_ld1 ?_ | refine NilW_some ?_ | refine iCW_1 ?_ | refine iCW_N ?_ | refine Pk_b ?_));rename_i hSF;clear hS6;have g1:lefB 48 (rigB 48 M.num.digits) = ⟨#[49]⟩ ↔ (rtrim (digL M.m)).dropWhile (· == 48) = [49]:=one_trim M.m;have g2:bt M.num.digits 0 = 49 ↔ (digL M.m).head? = some 49:=bt_first M.m
 by_cases hC:(rtrim (digL M.m)).dropWhile (· == 48) = [49]/\(digL M.m).head? = some 49/\M.e - a.e > (lenD a.m:Int) - k
 ·rw [if_pos hC] at n3
  have c1:=decide_eq_true (g1.2 hC.1);have c2:=decide_eq_true (g2.2 hC.2.1);have c3:decide (M.num.exp - a.num.exp > (a.num.digits.size:Int) - (k:Int)) = true:=decide_eq_true (by rw [e1]; exact hC.2.2);rw [c1,c2,c3];refine Cond_t ?_;haveI:InR 0 10:=⟨by decide,by decide⟩
  haveI:InI (((10 ^ i:Nat):Int)):=⟨by omega⟩
  refine V_run ?_;have e9:((10 ^ i:Nat):Int).tdiv 10 = (last:Int):=by
   rw [n3,Int.natCast_ediv];exact Int.tdiv_eq_ediv_of_nonneg (by omega)
  rw [e9];refine main _ _ ?_ hSF;(repeat (first | assumption | exact Le.refl _ | exact Res.zle (by assumption) | refine Le.trans ?_ (by assumption:Le _ _)))
 ·rw [if_neg hC] at n3
  refine Cond_not ?_ ?_
  ·cases hb:(bif bif decide (lefB 48 (rigB 48 M.num.digits) = ⟨#[49]⟩) then decide (bt M.num.digits 0 = 49) else false then decide (M.num.exp - a.num.exp > (a.num.digits.size:Int) - (k:Int)) else false) with
   | false=>rfl
   | true=>
    exfalso
    apply hC
    rw [Bool.cond_eq_ite] at hb
    split at hb
    ·rename_i hb1
     rw [Bool.cond_eq_ite] at hb1
     split at hb1
     ·rename_i hb2
      have h3:=of_decide_eq_true hb;rw [e1] at h3;exact ⟨g1.1 (of_decide_eq_true hb2),g2.1 (of_decide_eq_true hb1),h3⟩
     ·cases hb1
    ·cases hb
  ·rw [n3] at main
   refine main _ _ ?_ hSF;(repeat (first | assumption | exact Le.refl _ | exact Res.zle (by assumption) | refine Le.trans ?_ (by assumption:Le _ _))))
end
section
open Go Q Go.RowKit Go.Shelf
class PuB (f:FuncId) (args:Array Value) (b:Nat) (o:Obj) (v:outParam Value):Prop where
 h:∀ (z:Z) (w:World),Fn f args z [(b,o)] w fun _ B' r=>B' = [(b,o)]/\r = v
theorem CV_kp {w0 w:World} {z0 z:Z} {B0 L:Bl} {K:Value->World->Prop} {f:FuncId} {x y:Value} {v:Value} {b:Nat} {o:Obj} {C:Obj->Bl} [hS:Res w0 z0 B0 w z L] [Enters f] [g:Blk L b o C] [h:PuB f #[x,y,.pointer (some ⟨b,0,none⟩)] b o v]
  (hk:∀ z' w',Le z z'->Res w0 z0 B0 w' z' L->K v w'):CV (.func (.func f) #[] #[.pointer (some ⟨b,0,none⟩)]) #[x,y] w K:=by
 obtain ⟨R,h1,h2⟩:=g.perm;refine CV_fn (B:=[(b,o)]) (F:=R) (hS.perm h1) (h.h z w) rfl ?_;rintro z' B' w' v' hz' hS' ⟨rfl,rfl⟩
 exact hk z' w' hz' (hS'.perm h1.symm)
abbrev fineO:Obj:=.cells [.bool true].toArray 4 (0,0)
theorem algAdd {b:Nat} {x y:NumM} {n:Nm} [hx:Sm x.digits] [hy:Sm y.digits] (h:addR x y 40 = .ok n):PuB 44 #[x.v,y.v,.pointer (some ⟨b,0,none⟩)] b fineO n.num.v:=⟨fun z w=>Fn.intro fun hS=>en44 (by
 unfold vc44;haveI:Pu 19 #[x.v,y.v,.int .i64 40] (.tuple #[n.num.v,.int .i64 0]):=resO addI h;(repeat (first | (refine iDr ?_; intro _ _) | refine V_run ?_ | refine PV_run ?_ | refine HV_run ?_ | refine iV_ld1 ?_ | refine iV_ldN ?_ | (refine iV_bx ?_; intro _ _ _ _) | (refine iV_al ?_; intro _ _ _ _) | (refine iV_mm ?_; intro _ _ _ _) | (refine iU_st ?_; intro _ _) | refine iHV_1 ?_ | refine iHV_N ?_ | refine iRI_1 ?_ | refine iRI_N ?_ | refine Cond_t ?_ | refine Cond_f ?_ | refine JB ?_ | (refine JC ?_; intro _ _ _ _) | (refine JGB ?_; intro _ _ _ _) | refine K1 ?_ | refine K0 ?_ | refine K2 ?_ | refine K3 ?_ | refine K4 ?_ | (refine CV_pu ?_; intro _ _ _ _) | (refine CV_puz ?_; intro _ _ _ _) | refine fRI_1 ?_ | refine fRI_N ?_ | refine gHV_lkI ?_ | refine gRI_lkI ?_ | refine gV_lkI ?_ | refine fV_ldN ?_ | refine fV_ld1 ?_ | refine fHV_ldN ?_ | refine fHV_ld1 ?_ | refine NilW_some ?_ | refine iCW_1 ?_ | refine iCW_N ?_ | refine Pk_b ?_));exact ⟨_,[(b,fineO)],Res.keep [.at b] ‹_›,rfl,rfl⟩)⟩
theorem algMul {b:Nat} {x y:NumM} {n:Nm} [hx:Sm x.digits] [hy:Sm y.digits] (h:mulR x y 40 = .ok n):PuB 45 #[x.v,y.v,.pointer (some ⟨b,0,none⟩)] b fineO n.num.v:=⟨fun z w=>Fn.intro fun hS=>en45 (by
 unfold vc45;haveI:Pu 23 #[x.v,y.v,.int .i64 40] (.tuple #[n.num.v,.int .i64 0]):=resO mulI h;(repeat (first | (refine iDr ?_; intro _ _) | refine V_run ?_ | refine PV_run ?_ | refine HV_run ?_ | refine iV_ld1 ?_ | refine iV_ldN ?_ | (refine iV_bx ?_; intro _ _ _ _) | (refine iV_al ?_; intro _ _ _ _) | (refine iV_mm ?_; intro _ _ _ _) | (refine iU_st ?_; intro _ _) | refine iHV_1 ?_ | refine iHV_N ?_ | refine iRI_1 ?_ | refine iRI_N ?_ | refine Cond_t ?_ | refine Cond_f ?_ | refine JB ?_ | (refine JC ?_; intro _ _ _ _) | (refine JGB ?_; intro _ _ _ _) | refine K1 ?_ | refine K0 ?_ | refine K2 ?_ | refine K3 ?_ | refine K4 ?_ | (refine CV_pu ?_; intro _ _ _ _) | (refine CV_puz ?_; intro _ _ _ _) | refine fRI_1 ?_ | refine fRI_N ?_ | refine gHV_lkI ?_ | refine gRI_lkI ?_ | refine gV_lkI ?_ | refine fV_ldN ?_ | refine fV_ld1 ?_ | refine fHV_ldN ?_ | refine fHV_ld1 ?_ | refine NilW_some ?_ | refine iCW_1 ?_ | refine iCW_N ?_ | refine Pk_b ?_));exact ⟨_,[(b,fineO)],Res.keep [.at b] ‹_›,rfl,rfl⟩)⟩
end
section
open Go Q Go.RowKit Go.Shelf
theorem law_algebra {z:Z} {w:World} {x y u:NumM} [ht:Tab z] [hx:Sm x.digits] [hy:Sm y.digits] [hu:Sm u.digits]:Fn1 10 #[x.v,y.v,u.v] z w fun _ r=>r = .bool true:=Fn1.intro fun hS=>en10 (by
 unfold vc10;generalize hRR:(fun (v:Value) (w':World)=>∃ z' L',Res w z [] w' z' L'/\v = .bool true) = RR;have hR:∀ w' z' L' c,Res w z [] w' z' L'->c = true->RR (.bool c) w':=fun w' z' L' c k e=>by rw [<- hRR]; exact ⟨_,_,k,by rw [e]⟩
 clear hRR;refine iV_bx ?_;intro b3 w1 hb3 hS1;refine iV_bx ?_;intro b4 w2 hb4 hS2;refine iV_bx ?_;intro b5 w3 hb5 hS3;clear hS hS1 hS2;refine iV_ldN ?_;refine iV_ldN ?_;refine iV_ldN ?_;refine V_nums (parts:=[(0,x.v),(1,y.v),(2,u.v)]) [x,y,u] rfl rfl rfl (by omega) ?_;intro v z4 hz4 w4 hS4 hv;clear hS3;obtain ⟨_,a0,cap,rfl,hcap,hel⟩:=hv.form;refine V_run ?_;refine LoopG1 (fun (k:Nat) p w'=>p = .int .i64 k/\k <= 3/\(∀ x' ∈ [x,y,u].take k,SmallX x')/\∃ z',Le z4 z'/\Res w z [] w' z' [(b5,.cells u.cells.toArray 23 (0,0)),(b4,.cells y.cells.toArray 23 (0,0)),(b3,.cells x.cells.toArray 23 (0,0))]) (fun k=>3 - k) 0 ⟨rfl,Nat.zero_le _,by simp,z4,Le.refl _,hS4⟩ ?_;clear hS4;rintro I M k p w5 m ⟨rfl,hk,hall,z5,hz5,hS5⟩ back
 refine V_run ?_;refine Cond_d (fun h=>?_) (fun h=>?_)
 ·have h:(k:Int) < 3:=h
  have hlt:k < [x,y,u].length:=by show k < 3; omega
  have hg:[x,y,u][k]? = some [x,y,u][k]:=List.getElem?_eq_getElem hlt;have htk:[x,y,u].take (k + 1) = [x,y,u].take k ++ [[x,y,u][k]]:=List.take_succ_eq_append_getElem hlt;have hsm:Sm ([x,y,u][k]).digits:=by
   have:k = 0 \/ k = 1 \/ k = 2:=by omega
   rcases this with rfl | rfl | rfl
   ·exact hx
   ·exact hy
   ·exact hu
  obtain ⟨b,off,cs,rfl,rfl,hat⟩:=hel k _ hg;generalize [x,y,u][k] = t at *;haveI:InR (k:Int) ([x,y,u].length:Nat):=⟨by omega,by show (k:Int) < 3; exact h⟩
  refine V_run ?_;rw [Int.toNat_natCast];refine zV_ldN (hat.mono hz5) rfl ?_;haveI:InI ((k:Int) + 1):=⟨by omega⟩
  (repeat (first | (refine iDr ?_; intro _ _) | refine V_run ?_ | refine PV_run ?_ | refine HV_run ?_ | refine iV_ld1 ?_ | refine iV_ldN ?_ | (refine iV_bx ?_; intro _ _ _ _) | (refine iV_al ?_; intro _ _ _ _) | (refine iV_mm ?_; intro _ _ _ _) | (refine iU_st ?_; intro _ _) | refine iHV_1 ?_ | refine iHV_N ?_ | refine iRI_1 ?_ | refine iRI_N ?_ | refine Cond_t ?_ | refine Cond_f ?_ | refine JB ?_ | (refine JC ?_; intro _ _ _ _) | (refine JGB ?_; intro _ _ _ _) | refine K1 ?_ | refine K0 ?_ | refine K2 ?_ | refine K3 ?_ | refine K4 ?_ | (refine CV_pu ?_; intro _ _ _ _) | (refine CV_puz ?_; intro _ _ _ _) | refine fRI_1 ?_ | refine fRI_N ?_ | refine gHV_lkI ?_ | refine gRI_lkI ?_ | refine gV_lkI ?_ | refine fV_ldN ?_ | refine fV_ld1 ?_ | refine fHV_ldN ?_ | refine fHV_ld1 ?_ | refine NilW_some ?_ | refine iCW_1 ?_ | refine iCW_N ?_ | refine Pk_b ?_));rename_i hS6;clear hS5;refine V_valid1 (x:=t) ?_;intro z7 w7 hz7 hS7;clear hS6;(repeat (first | (refine iDr ?_; intro _ _) | refine V_run ?_ | refine PV_run ?_ | refine HV_run ?_ | refine iV_ld1 ?_ | refine iV_ldN ?_ | (refine iV_bx ?_; intro _ _ _ _) | (refine iV_al ?_; intro _ _ _ _) | (refine iV_mm ?_; intro _ _ _ _) | (refine iU_st ?_; intro _ _) | refine iHV_1 ?_ | refine iHV_N ?_ | refine iRI_1 ?_ | refine iRI_N ?_ | refine Cond_t ?_ | refine Cond_f ?_ | refine JB ?_ | (refine JC ?_; intro _ _ _ _) | (refine JGB ?_; intro _ _ _ _) | refine K1 ?_ | refine K0 ?_ | refine K2 ?_ | refine K3 ?_ | refine K4 ?_ | (refine CV_pu ?_; intro _ _ _ _) | (refine CV_puz ?_; intro _ _ _ _) | refine fRI_1 ?_ | refine fRI_N ?_ | refine gHV_lkI ?_ | refine gRI_lkI ?_ | refine gV_lkI ?_ | refine fV_ldN ?_ | refine fV_ld1 ?_ | refine fHV_ldN ?_ | refine fHV_ld1 ?_ | refine NilW_some ?_ | refine iCW_1 ?_ | refine iCW_N ?_ | refine Pk_b ?_));refine Cond_b (fun h2=>?_) (fun h2=>?_)
  ·(repeat (first | (refine iDr ?_; intro _ _) | refine V_run ?_ | refine PV_run ?_ | refine HV_run ?_ | refine iV_ld1 ?_ | refine iV_ldN ?_ | (refine iV_bx ?_; intro _ _ _ _) | (refine iV_al ?_; intro _ _ _ _) | (refine iV_mm ?_; intro _ _ _ _) | (refine iU_st ?_; intro _ _) | refine iHV_1 ?_ | refine iHV_N ?_ | refine iRI_1 ?_ | refine iRI_N ?_ | refine Cond_t ?_ | refine Cond_f ?_ | refine JB ?_ | (refine JC ?_; intro _ _ _ _) | (refine JGB ?_; intro _ _ _ _) | refine K1 ?_ | refine K0 ?_ | refine K2 ?_ | refine K3 ?_ | refine K4 ?_ | (refine CV_pu ?_; intro _ _ _ _) | (refine CV_puz ?_; intro _ _ _ _) | refine fRI_1 ?_ | refine fRI_N ?_ | refine gHV_lkI ?_ | refine gRI_lkI ?_ | refine gV_lkI ?_ | refine fV_ldN ?_ | refine fV_ld1 ?_ | refine fHV_ldN ?_ | refine fHV_ld1 ?_ | refine NilW_some ?_ | refine iCW_1 ?_ | refine iCW_N ?_ | refine Pk_b ?_))
   exact hR _ _ _ _ ‹_› rfl
  ·(repeat (first | (refine iDr ?_; intro _ _) | refine V_run ?_ | refine PV_run ?_ | refine HV_run ?_ | refine iV_ld1 ?_ | refine iV_ldN ?_ | (refine iV_bx ?_; intro _ _ _ _) | (refine iV_al ?_; intro _ _ _ _) | (refine iV_mm ?_; intro _ _ _ _) | (refine iU_st ?_; intro _ _) | refine iHV_1 ?_ | refine iHV_N ?_ | refine iRI_1 ?_ | refine iRI_N ?_ | refine Cond_t ?_ | refine Cond_f ?_ | refine JB ?_ | (refine JC ?_; intro _ _ _ _) | (refine JGB ?_; intro _ _ _ _) | refine K1 ?_ | refine K0 ?_ | refine K2 ?_ | refine K3 ?_ | refine K4 ?_ | (refine CV_pu ?_; intro _ _ _ _) | (refine CV_puz ?_; intro _ _ _ _) | refine fRI_1 ?_ | refine fRI_N ?_ | refine gHV_lkI ?_ | refine gRI_lkI ?_ | refine gV_lkI ?_ | refine fV_ldN ?_ | refine fV_ld1 ?_ | refine fHV_ldN ?_ | refine fHV_ld1 ?_ | refine NilW_some ?_ | refine iCW_1 ?_ | refine iCW_N ?_ | refine Pk_b ?_))
   refine back (k + 1) _ _ ⟨rfl,by omega,?_,_,?_,Res.keep [.at b5,.at b4,.at b3] ‹_›⟩ (by omega)
   ·intro x' hx'
    rw [htk] at hx'
    rcases List.mem_append.1 hx' with hx' | hx'
    ·exact hall x' hx'
    ·rw [List.mem_singleton.1 hx']; exact small_x h2
   ·(repeat (first | assumption | exact Le.refl _ | exact Res.zle (by assumption) | refine Le.trans ?_ (by assumption:Le _ _)))
 have h:¬ (k:Int) < 3:=h;have hk2:k = 3:=by omega
 subst hk2;clear back;obtain ⟨a,ha,sa⟩:=hall x (by simp);obtain ⟨b,hb,sb⟩:=hall y (by simp);obtain ⟨c,hc,sc⟩:=hall u (by simp);obtain ⟨rfl,oka⟩:=nmOf_some ha;obtain ⟨rfl,okb⟩:=nmOf_some hb;obtain ⟨rfl,okc⟩:=nmOf_some hc;clear hall hel hv;have A:=algebra sa sb sc;obtain ⟨px,py,d1,d2,d3,d4,d5⟩:=A.dist;haveI:Sm a.num.digits:=sm_ok oka;haveI:Sm b.num.digits:=sm_ok okb;haveI:Sm c.num.digits:=sm_ok okc;haveI:Sm (negN b).num.digits:=sm_ok (sb.fr.neg (by omega) (by omega) |>.in40 (by omega) (by omega) (by omega)).ok;haveI:Sm (plusN a b).num.digits:=sm_ok (add_ok A.add_ab);haveI:Sm (plusN b c).num.digits:=sm_ok (add_ok A.add_bc);haveI:Sm (mulN a b).num.digits:=sm_ok (mul_ok A.mul_ab);haveI:Sm (mulN b c).num.digits:=sm_ok (mul_ok A.mul_bc);haveI:Pu 21 #[a.num.v,b.num.v,.int .i64 40] (.tuple #[(plusN a (negN b)).num.v,.int .i64 0]):=resO (inferInstance:Pu 21 #[a.num.v,b.num.v,.int .i64 40] (resV (subR a.num b.num 40))) A.sub_ab;haveI:Pu 41 #[b.num.v] (negN b).num.v:=opp_of okb.c;refine iV_al ?_;intro b9 w9 hb9 hS9;clear hS5;have zlit:nz.num.v = .agg [.bool false,.string ⟨#[48]⟩,.int .i64 0].toArray:=by
  show Value.agg [.bool false,.string (digB 0),.int .i64 0].toArray = _
  rw [digB_0]
 haveI:PuB 44 #[a.num.v,b.num.v,.pointer (some ⟨b9,0,none⟩)] b9 fineO (plusN a b).num.v:=algAdd A.add_ab;haveI:PuB 44 #[b.num.v,a.num.v,.pointer (some ⟨b9,0,none⟩)] b9 fineO (plusN a b).num.v:=algAdd A.add_ba;haveI:PuB 45 #[a.num.v,b.num.v,.pointer (some ⟨b9,0,none⟩)] b9 fineO (mulN a b).num.v:=algMul A.mul_ab;haveI:PuB 45 #[b.num.v,a.num.v,.pointer (some ⟨b9,0,none⟩)] b9 fineO (mulN a b).num.v:=algMul A.mul_ba;haveI:PuB 44 #[a.num.v,(negN b).num.v,.pointer (some ⟨b9,0,none⟩)] b9 fineO (plusN a (negN b)).num.v:=algAdd A.add_an;haveI:PuB 44 #[a.num.v,.agg [.bool false,.string ⟨#[48]⟩,.int .i64 0].toArray,.pointer (some ⟨b9,0,none⟩)] b9 fineO a.num.v:=by
  haveI:Sm nz.num.digits:=sm_ok ok_nz;rw [<- zlit];exact algAdd A.add_az
 haveI:PuB 45 #[a.num.v,.agg [.bool false,.string ⟨#[49]⟩,.int .i64 0].toArray,.pointer (some ⟨b9,0,none⟩)] b9 fineO a.num.v:=by
  haveI:Sm oneN.num.digits:=sm_ok one_in.ok;rw [<- oneLit75];exact algMul A.mul_a1
 haveI:PuB 44 #[b.num.v,c.num.v,.pointer (some ⟨b9,0,none⟩)] b9 fineO (plusN b c).num.v:=algAdd A.add_bc;haveI:PuB 44 #[(plusN a b).num.v,c.num.v,.pointer (some ⟨b9,0,none⟩)] b9 fineO (plusN (plusN a b) c).num.v:=algAdd A.add_l;haveI:PuB 44 #[a.num.v,(plusN b c).num.v,.pointer (some ⟨b9,0,none⟩)] b9 fineO (plusN a (plusN b c)).num.v:=algAdd A.add_r;haveI:PuB 45 #[b.num.v,c.num.v,.pointer (some ⟨b9,0,none⟩)] b9 fineO (mulN b c).num.v:=algMul A.mul_bc;haveI:PuB 45 #[(mulN a b).num.v,c.num.v,.pointer (some ⟨b9,0,none⟩)] b9 fineO (mulN (mulN a b) c).num.v:=algMul A.mul_l;haveI:PuB 45 #[a.num.v,(mulN b c).num.v,.pointer (some ⟨b9,0,none⟩)] b9 fineO (mulN a (mulN b c)).num.v:=algMul A.mul_r;haveI:PuB 45 #[a.num.v,c.num.v,.pointer (some ⟨b9,0,none⟩)] b9 fineO (mulN a c).num.v:=algMul A.mul_ac;haveI:Sm (mulN a c).num.digits:=sm_ok (mul_ok A.mul_ac);haveI:PuB 45 #[a.num.v,(plusN b c).num.v,.pointer (some ⟨b9,0,none⟩)] b9 fineO px.num.v:=algMul d1;haveI:PuB 44 #[(mulN a b).num.v,(mulN a c).num.v,.pointer (some ⟨b9,0,none⟩)] b9 fineO py.num.v:=algAdd d2;haveI:Pu 38 #[(plusN (plusN a b) c).num.v,(plusN a (plusN b c)).num.v] (.bool true):=sameO (add_ok A.add_l) (add_ok A.add_r) plus_assoc;haveI:Pu 38 #[(mulN (mulN a b) c).num.v,(mulN a (mulN b c)).num.v] (.bool true):=sameO (mul_ok A.mul_l) (mul_ok A.mul_r) (by rw [mul_assoc_eq]; exact sameN.refl _);have hpq:Pu 38 #[px.num.v,py.num.v] (.bool (sameQ px py)):=⟨fun z w=>same_of ((bn_ok d4).mono (by omega)) ((bn_ok d5).mono (by omega))⟩
 have hwide:(bif decide ((((plusN b c).num.digits.size:Int) + (a.num.digits.size:Int)) > 40) then true else sameQ px py) = true:=by
  have e1:(plusN b c).num.digits.size = lenD (plusN b c).m:=size_digB _;have e2:a.num.digits.size = lenD a.m:=size_digB _;rw [e1,e2]
  by_cases h:((lenD (plusN b c).m:Int) + (lenD a.m:Int)) > 40
  ·rw [decide_eq_true h]; rfl
  ·rw [decide_eq_false h]
   exact sameQ_iff.2 (d3 (by omega))
 haveI:InI (((plusN b c).num.digits.size:Int) + (a.num.digits.size:Int)):=⟨by
  have e1:(plusN b c).num.digits.size = lenD (plusN b c).m:=size_digB _;have e2:a.num.digits.size = lenD a.m:=size_digB _;have:=(add_ok A.add_bc).len;have:=oka.len;omega⟩
 (repeat (first | (refine iDr ?_; intro _ _) | refine V_run ?_ | refine PV_run ?_ | refine HV_run ?_ | refine iV_ld1 ?_ | refine iV_ldN ?_ | (refine iV_mm ?_; intro _ _ _ _) | (refine iU_st ?_; intro _ _) | refine iHV_1 ?_ | refine iHV_N ?_ | refine iRI_1 ?_ | refine iRI_N ?_ | refine Cond_t ?_ | refine Cond_f ?_ | refine JB ?_ | (refine JC ?_; intro _ _ _ _) | (refine JGB ?_; intro _ _ _ _) | (refine J1 ?_; intro _ _) | (refine J0 ?_; intro _ _) | (refine J2 ?_; intro _ _) | (refine J3 ?_; intro _ _) | (refine J4 ?_; intro _ _) | refine K1 ?_ | refine K0 ?_ | refine K2 ?_ | refine K3 ?_ | refine K4 ?_ | (refine CV_pu ?_; intro _ _ _ _) | (refine CV_puz ?_; intro _ _ _ _) | refine fRI_1 ?_ | refine fRI_N ?_ | refine gHV_lkI ?_ | refine gRI_lkI ?_ | refine gV_lkI ?_ | refine fV_ldN ?_ | refine fV_ld1 ?_ | refine fHV_ldN ?_ | refine fHV_ld1 ?_ | refine NilW_some ?_ | refine iCW_1 ?_ | refine iCW_N ?_ | refine Pk_b ?_));refine iV_al ?_;intro b12 w12 hb12 hS12;(repeat (first | (refine iDr ?_; intro _ _) | refine V_run ?_ | refine PV_run ?_ | refine HV_run ?_ | refine iV_ld1 ?_ | refine iV_ldN ?_ | (refine iV_mm ?_; intro _ _ _ _) | (refine iU_st ?_; intro _ _) | refine iHV_1 ?_ | refine iHV_N ?_ | refine iRI_1 ?_ | refine iRI_N ?_ | refine Cond_t ?_ | refine Cond_f ?_ | refine JB ?_ | (refine JC ?_; intro _ _ _ _) | (refine JGB ?_; intro _ _ _ _) | (refine J1 ?_; intro _ _) | (refine J0 ?_; intro _ _) | (refine J2 ?_; intro _ _) | (refine J3 ?_; intro _ _) | (refine J4 ?_; intro _ _) | refine K1 ?_ | refine K0 ?_ | refine K2 ?_ | refine K3 ?_ | refine K4 ?_ | (refine CV_pu ?_; intro _ _ _ _) | (refine CV_puz ?_; intro _ _ _ _) | refine fRI_1 ?_ | refine fRI_N ?_ | refine gHV_lkI ?_ | refine gRI_lkI ?_ | refine gV_lkI ?_ | refine fV_ldN ?_ | refine fV_ld1 ?_ | refine fHV_ldN ?_ | refine fHV_ld1 ?_ | refine NilW_some ?_ | refine iCW_1 ?_ | refine iCW_N ?_ | refine Pk_b ?_));refine iV_al ?_;intro b14 w14 hb14 hS14;refine iV_al ?_;intro b15 w15 hb15 hS15;(repeat (first | (refine iDr ?_; intro _ _) | refine V_run ?_ | refine PV_run ?_ | refine HV_run ?_ | refine iV_ld1 ?_ | refine iV_ldN ?_ | (refine iV_bx ?_; intro _ _ _ _) | (refine iV_al ?_; intro _ _ _ _) | (refine iV_mm ?_; intro _ _ _ _) | (refine iU_st ?_; intro _ _) | refine iHV_1 ?_ | refine iHV_N ?_ | refine iRI_1 ?_ | refine iRI_N ?_ | refine Cond_t ?_ | refine Cond_f ?_ | refine JB ?_ | (refine JC ?_; intro _ _ _ _) | (refine JGB ?_; intro _ _ _ _) | refine K1 ?_ | refine K0 ?_ | refine K2 ?_ | refine K3 ?_ | refine K4 ?_ | (refine CV_pu ?_; intro _ _ _ _) | (refine CV_puz ?_; intro _ _ _ _) | refine fRI_1 ?_ | refine fRI_N ?_ | refine gHV_lkI ?_ | refine gRI_lkI ?_ | refine gV_lkI ?_ | refine fV_ldN ?_ | refine fV_ld1 ?_ | refine fHV_ldN ?_ | refine fHV_ld1 ?_ | refine NilW_some ?_ | refine iCW_1 ?_ | refine iCW_N ?_ | refine Pk_b ?_));rename_i hS16;clear hS9 hS12 hS14 hS15;intro Ka hKa;have main1:∀ c1 w' z',c1 = true->Res w z [] w' z' [(b15,.cells [.bool false,.string ⟨#[49]⟩,.int .i64 0].toArray 23 (0,0)),(b14,.cells [.bool false,.string ⟨#[48]⟩,.int .i64 0].toArray 23 (0,0)),(b12,.cells (plusN a (negN b)).num.cells.toArray 23 (0,0)),(b9,fineO),(b5,.cells c.num.cells.toArray 23 (0,0)),(b4,.cells b.num.cells.toArray 23 (0,0)),(b3,.cells a.num.cells.toArray 23 (0,0))]->Ka [.bool c1] w':=by
  rintro c1 w' z' rfl hS'
  refine hKa _ _ fun _=>?_
  clear hKa hS16;intro Kb hKb;have main2:∀ c2 w' z',c2 = true->Res w z [] w' z' [(b15,.cells [.bool false,.string ⟨#[49]⟩,.int .i64 0].toArray 23 (0,0)),(b14,.cells [.bool false,.string ⟨#[48]⟩,.int .i64 0].toArray 23 (0,0)),(b12,.cells (plusN a (negN b)).num.cells.toArray 23 (0,0)),(b9,fineO),(b5,.cells c.num.cells.toArray 23 (0,0)),(b4,.cells b.num.cells.toArray 23 (0,0)),(b3,.cells a.num.cells.toArray 23 (0,0))]->Kb [.bool c2] w':=by
   rintro c2 w' z' rfl hS'
   refine hKb _ _ fun _=>?_
   clear hKb;intro Kc hKc;have main3:∀ (p q:Nat) (w':World) (z':Z) (L':Bl) (C1 C2 C3 C4 C5 C6:Obj->Bl),Res w z [] w' z' L'->Blk L' p (.cells px.num.cells.toArray 23 (0,0)) C1->Blk L' q (.cells py.num.cells.toArray 23 (0,0)) C2->Blk L' b9 fineO C3->Blk L' b5 (.cells c.num.cells.toArray 23 (0,0)) C4->Blk L' b4 (.cells b.num.cells.toArray 23 (0,0)) C5->Blk L' b3 (.cells a.num.cells.toArray 23 (0,0)) C6->Kc [.pointer (some ⟨p,0,none⟩),.pointer (some ⟨q,0,none⟩)] w':=by
    intro p q w' z' L' C1 C2 C3 C4 C5 C6 hS' i1 i2 i3 i4 i5 i6;refine hKc _ _ _ fun _=>?_
    clear hKc;(repeat (first | (refine CV_kp ?_; intro _ _ _ _) | (refine iDr ?_; intro _ _) | refine V_run ?_ | refine PV_run ?_ | refine HV_run ?_ | refine iV_ld1 ?_ | refine iV_ldN ?_ | (refine iV_bx ?_; intro _ _ _ _) | (refine iV_al ?_; intro _ _ _ _) | (refine iV_mm ?_; intro _ _ _ _) | (refine iU_st ?_; intro _ _) | refine iHV_1 ?_ | refine iHV_N ?_ | refine iRI_1 ?_ | refine iRI_N ?_ | refine Cond_t ?_ | refine Cond_f ?_ | refine JB ?_ | (refine JC ?_; intro _ _ _ _) | (refine JGB ?_; intro _ _ _ _) | refine K1 ?_ | refine K0 ?_ | refine K2 ?_ | refine K3 ?_ | refine K4 ?_ | (refine CV_pu ?_; intro _ _ _ _) | (refine CV_puz ?_; intro _ _ _ _) | refine fRI_1 ?_ | refine fRI_N ?_ | refine gHV_lkI ?_ | refine gRI_lkI ?_ | refine gV_lkI ?_ | refine fV_ldN ?_ | refine fV_ld1 ?_ | refine fHV_ldN ?_ | refine fHV_ld1 ?_ | refine NilW_some ?_ | refine iCW_1 ?_ | refine iCW_N ?_ | refine Pk_b ?_));refine hR _ _ _ _ ‹_› ?_;rw [hwide]; rfl
   clear hKc;(repeat' (first | (refine CV_kp ?_; intro _ _ _ _) | (refine iDr ?_; intro _ _) | refine V_run ?_ | refine PV_run ?_ | refine HV_run ?_ | refine iV_ld1 ?_ | refine iV_ldN ?_ | (refine iV_bx ?_; intro _ _ _ _) | (refine iV_al ?_; intro _ _ _ _) | (refine iV_mm ?_; intro _ _ _ _) | (refine iU_st ?_; intro _ _) | refine iHV_1 ?_ | refine iHV_N ?_ | refine iRI_1 ?_ | refine iRI_N ?_ | refine Cond_t ?_ | refine Cond_f ?_ | refine JB ?_ | (refine JC ?_; intro _ _ _ _) | (refine JGB ?_; intro _ _ _ _) | refine K1 ?_ | refine K0 ?_ | refine K2 ?_ | refine K3 ?_ | refine K4 ?_ | (refine CV_pu ?_; intro _ _ _ _) | (refine CV_puz ?_; intro _ _ _ _) | refine fRI_1 ?_ | refine fRI_N ?_ | refine gHV_lkI ?_ | refine gRI_lkI ?_ | refine gV_lkI ?_ | refine fV_ldN ?_ | refine fV_ld1 ?_ | refine fHV_ldN ?_ | refine fHV_ld1 ?_ | refine NilW_some ?_ | refine iCW_1 ?_ | refine iCW_N ?_ | refine Pk_b ?_ | (refine And.intro ?_ ?_)))
   all_goals exact main3 _ _ _ _ _ _ _ _ _ _ _ (by assumption) inferInstance inferInstance inferInstance inferInstance inferInstance inferInstance
  clear hKb;(repeat (first | (refine CV_kp ?_; intro _ _ _ _) | (refine iDr ?_; intro _ _) | refine V_run ?_ | refine PV_run ?_ | refine HV_run ?_ | refine iV_ld1 ?_ | refine iV_ldN ?_ | (refine iV_bx ?_; intro _ _ _ _) | (refine iV_al ?_; intro _ _ _ _) | (refine iV_mm ?_; intro _ _ _ _) | (refine iU_st ?_; intro _ _) | refine iHV_1 ?_ | refine iHV_N ?_ | refine iRI_1 ?_ | refine iRI_N ?_ | refine Cond_t ?_ | refine Cond_f ?_ | refine JB ?_ | (refine JC ?_; intro _ _ _ _) | (refine JGB ?_; intro _ _ _ _) | refine K1 ?_ | refine K0 ?_ | refine K2 ?_ | refine K3 ?_ | refine K4 ?_ | (refine CV_pu ?_; intro _ _ _ _) | (refine CV_puz ?_; intro _ _ _ _) | refine fRI_1 ?_ | refine fRI_N ?_ | refine gHV_lkI ?_ | refine gRI_lkI ?_ | refine gV_lkI ?_ | refine fV_ldN ?_ | refine fV_ld1 ?_ | refine fHV_ldN ?_ | refine fHV_ld1 ?_ | refine NilW_some ?_ | refine iCW_1 ?_ | refine iCW_N ?_ | refine Pk_b ?_));exact main2 _ _ _ rfl ‹_›
 clear hKa;(repeat (first | (refine CV_kp ?_; intro _ _ _ _) | (refine iDr ?_; intro _ _) | refine V_run ?_ | refine PV_run ?_ | refine HV_run ?_ | refine iV_ld1 ?_ | refine iV_ldN ?_ | (refine iV_bx ?_; intro _ _ _ _) | (refine iV_al ?_; intro _ _ _ _) | (refine iV_mm ?_; intro _ _ _ _) | (refine iU_st ?_; intro _ _) | refine iHV_1 ?_ | refine iHV_N ?_ | refine iRI_1 ?_ | refine iRI_N ?_ | refine Cond_t ?_ | refine Cond_f ?_ | refine JB ?_ | (refine JC ?_; intro _ _ _ _) | (refine JGB ?_; intro _ _ _ _) | refine K1 ?_ | refine K0 ?_ | refine K2 ?_ | refine K3 ?_ | refine K4 ?_ | (refine CV_pu ?_; intro _ _ _ _) | (refine CV_puz ?_; intro _ _ _ _) | refine fRI_1 ?_ | refine fRI_N ?_ | refine gHV_lkI ?_ | refine gRI_lkI ?_ | refine gV_lkI ?_ | refine fV_ldN ?_ | refine fV_ld1 ?_ | refine fHV_ldN ?_ | refine fHV_ld1 ?_ | refine NilW_some ?_ | refine iCW_1 ?_ | refine iCW_N ?_ | refine Pk_b ?_));refine Cond_is (by simp) ?_;(repeat (first | (refine CV_kp ?_; intro _ _ _ _) | (refine iDr ?_; intro _ _) | refine V_run ?_ | refine PV_run ?_ | refine HV_run ?_ | refine iV_ld1 ?_ | refine iV_ldN ?_ | (refine iV_bx ?_; intro _ _ _ _) | (refine iV_al ?_; intro _ _ _ _) | (refine iV_mm ?_; intro _ _ _ _) | (refine iU_st ?_; intro _ _) | refine iHV_1 ?_ | refine iHV_N ?_ | refine iRI_1 ?_ | refine iRI_N ?_ | refine Cond_t ?_ | refine Cond_f ?_ | refine JB ?_ | (refine JC ?_; intro _ _ _ _) | (refine JGB ?_; intro _ _ _ _) | refine K1 ?_ | refine K0 ?_ | refine K2 ?_ | refine K3 ?_ | refine K4 ?_ | (refine CV_pu ?_; intro _ _ _ _) | (refine CV_puz ?_; intro _ _ _ _) | refine fRI_1 ?_ | refine fRI_N ?_ | refine gHV_lkI ?_ | refine gRI_lkI ?_ | refine gV_lkI ?_ | refine fV_ldN ?_ | refine fV_ld1 ?_ | refine fHV_ldN ?_ | refine fHV_ld1 ?_ | refine NilW_some ?_ | refine iCW_1 ?_ | refine iCW_N ?_ | refine Pk_b ?_));refine Cond_is (by simp) ?_;(repeat (first | (refine CV_kp ?_; intro _ _ _ _) | (refine iDr ?_; intro _ _) | refine V_run ?_ | refine PV_run ?_ | refine HV_run ?_ | refine iV_ld1 ?_ | refine iV_ldN ?_ | (refine iV_bx ?_; intro _ _ _ _) | (refine iV_al ?_; intro _ _ _ _) | (refine iV_mm ?_; intro _ _ _ _) | (refine iU_st ?_; intro _ _) | refine iHV_1 ?_ | refine iHV_N ?_ | refine iRI_1 ?_ | refine iRI_N ?_ | refine Cond_t ?_ | refine Cond_f ?_ | refine JB ?_ | (refine JC ?_; intro _ _ _ _) | (refine JGB ?_; intro _ _ _ _) | refine K1 ?_ | refine K0 ?_ | refine K2 ?_ | refine K3 ?_ | refine K4 ?_ | (refine CV_pu ?_; intro _ _ _ _) | (refine CV_puz ?_; intro _ _ _ _) | refine fRI_1 ?_ | refine fRI_N ?_ | refine gHV_lkI ?_ | refine gRI_lkI ?_ | refine gV_lkI ?_ | refine fV_ldN ?_ | refine fV_ld1 ?_ | refine fHV_ldN ?_ | refine fHV_ld1 ?_ | refine NilW_some ?_ | refine iCW_1 ?_ | refine iCW_N ?_ | refine Pk_b ?_));refine Cond_is (by simp) ?_;(repeat (first | (refine CV_kp ?_; intro _ _ _ _) | (refine iDr ?_; intro _ _) | refine V_run ?_ | refine PV_run ?_ | refine HV_run ?_ | refine iV_ld1 ?_ | refine iV_ldN ?_ | (refine iV_bx ?_; intro _ _ _ _) | (refine iV_al ?_; intro _ _ _ _) | (refine iV_mm ?_; intro _ _ _ _) | (refine iU_st ?_; intro _ _) | refine iHV_1 ?_ | refine iHV_N ?_ | refine iRI_1 ?_ | refine iRI_N ?_ | refine Cond_t ?_ | refine Cond_f ?_ | refine JB ?_ | (refine JC ?_; intro _ _ _ _) | (refine JGB ?_; intro _ _ _ _) | refine K1 ?_ | refine K0 ?_ | refine K2 ?_ | refine K3 ?_ | refine K4 ?_ | (refine CV_pu ?_; intro _ _ _ _) | (refine CV_puz ?_; intro _ _ _ _) | refine fRI_1 ?_ | refine fRI_N ?_ | refine gHV_lkI ?_ | refine gRI_lkI ?_ | refine gV_lkI ?_ | refine fV_ldN ?_ | refine fV_ld1 ?_ | refine fHV_ldN ?_ | refine fHV_ld1 ?_ | refine NilW_some ?_ | refine iCW_1 ?_ | refine iCW_N ?_ | refine Pk_b ?_))
 refine Cond_is (by simp) ?_;(repeat (first | (refine CV_kp ?_; intro _ _ _ _) | (refine iDr ?_; intro _ _) | refine V_run ?_ | refine PV_run ?_ | refine HV_run ?_ | refine iV_ld1 ?_ | refine iV_ldN ?_ | (refine iV_bx ?_; intro _ _ _ _) | (refine iV_al ?_; intro _ _ _ _) | (refine iV_mm ?_; intro _ _ _ _) | (refine iU_st ?_; intro _ _) | refine iHV_1 ?_ | refine iHV_N ?_ | refine iRI_1 ?_ | refine iRI_N ?_ | refine Cond_t ?_ | refine Cond_f ?_ | refine JB ?_ | (refine JC ?_; intro _ _ _ _) | (refine JGB ?_; intro _ _ _ _) | refine K1 ?_ | refine K0 ?_ | refine K2 ?_ | refine K3 ?_ | refine K4 ?_ | (refine CV_pu ?_; intro _ _ _ _) | (refine CV_puz ?_; intro _ _ _ _) | refine fRI_1 ?_ | refine fRI_N ?_ | refine gHV_lkI ?_ | refine gRI_lkI ?_ | refine gV_lkI ?_ | refine fV_ldN ?_ | refine fV_ld1 ?_ | refine fHV_ldN ?_ | refine fHV_ld1 ?_ | refine NilW_some ?_ | refine iCW_1 ?_ | refine iCW_N ?_ | refine Pk_b ?_));exact main1 _ _ _ (by simp) ‹_›)
end
section
open Go Q Go.RowKit Go.ChangeShapes Go.WideShapes Go.ChangeAt
theorem ownK:ownKnob Tryz.prog.godebug = none:=by kernel_rfl
theorem laidOutP:laidOutB Tryz.prog = true:=by kernel_rfl
theorem own_start (w:World):Own w (hp w) []:=Own.mk' (fun _ _ h=>h) (fun _ h=>by cases h) List.nodup_nil
theorem u4:Tryz.prog.underlying 4 = some .bool:=by kernel_rfl
theorem u5:Tryz.prog.underlying 5 = some (.int .u8):=by kernel_rfl
theorem u3:Tryz.prog.underlying 3 = some (.int .i64):=by kernel_rfl
theorem u9:Tryz.prog.underlying 9 = some .string:=by kernel_rfl
section
variable {H:Type} {enc:TypeId × Value->H} {P:Program}
def Stays (P:Program) (t:TypeId):Prop:=P.readableRec t = true/\t < P.types.size
theorem trodAll_stays (hl:laidOutB P = true) {W W':World} {sp:Nat->Bool} (hB:Below W.heap.size W W') :
  ∀ {ts:List TypeId} {vs:List Value} {ds:List (DataW H)} {ps:List MemPlace},(∀ t ∈ ts,Stays P t)->DataW.TrodAll enc P W 0 (fun _=>true) true ts vs ds ps->(∀ p ∈ ps,p.block < W.heap.size)->(∀ p ∈ ps,sp p.block = true)->DataW.TrodAll enc P W' 0 sp true ts vs ds ps
 | [],[],[],_,_,h,_,_=>h
 | _ :: _,_ :: _,_ :: _,_,hT,⟨p,q,h1,h2,e⟩,hlt,hs=>⟨p,q,
   WideElems.Trod_stays hl (hT _ List.mem_cons_self).1 (hT _ List.mem_cons_self).2 h1 (fun x hx=>hB.same (hlt x (by rw [e]; exact List.mem_append_left _ hx))) (fun x hx=>hs x (by rw [e]; exact List.mem_append_left _ hx)),
   trodAll_stays hl hB (fun t ht=>hT t (List.mem_cons_of_mem _ ht)) h2 (fun x hx=>hlt x (by rw [e]; exact List.mem_append_right _ hx)) (fun x hx=>hs x (by rw [e]; exact List.mem_append_right _ hx)),e⟩
theorem post_law (hl:laidOutB P = true) {f:Func} {s:ChangeSpec} {apart fresh handsOn again:Bool} {W W':World} {args:Array Value} {ds gs:List (DataW H)} {before:List MemPlace} {tb:TypeId}
  (hW:DataW.Whole enc P f.params.toList s.vars apart W args.toList ds gs before) (hB:Below W.heap.size W W')
  (hr:f.resultTypes = #[tb]) (hu:P.underlying tb = some .bool) (hT:∀ t ∈ f.params.toList,Stays P t) (hv:s.vars = [])
  (h1:(s.fn H (ds ++ gs)).results = [.lit (.bool true)]) (h2:(s.fn H (ds ++ gs)).args = ds) (h3:(s.fn H (ds ++ gs)).vars = []) :
  s.post enc P f apart fresh handsOn again W args (.bool true) W':=by
 have hlt:=hW.lt;obtain ⟨pa,pv,hA,hV,rfl,hz,hn⟩:=id hW;rw [hv] at hV;obtain ⟨rfl,rfl⟩:=trodVars_none hV;have hargs:∀ sp:Nat->Bool,(∀ p ∈ pa,sp p.block = true)->DataW.TrodAll enc P W' 0 sp true f.params.toList args.toList (s.fn H (ds ++ [])).args pa:=fun sp hsp=>by
  rw [h2]; exact trodAll_stays hl hB hT hA (fun p hp=>hlt p (by simpa using hp)) hsp
 have hres:∀ (b:Nat) (sp:Nat->Bool) (hd:Bool),DataW.TrodAll enc P W' b sp hd f.resultTypes.toList ((Value.bool true).resultList f.resultTypes.size) (s.fn H (ds ++ [])).results []:=fun b sp hd=>by
  rw [h1,hr]; exact trodAll_cons_mk (shut_bool hu _) trodAll_mk0
 have hvars:∀ sp:Nat->Bool,DataW.TrodVars enc P W' sp s.vars (s.fn H (ds ++ [])).vars []:=fun sp=>by rw [hv,h3]; rfl
 have hold:∀ p ∈ pa,(fun b=>decide (b < W.heap.size)) p.block = true:=fun p hp=>by simpa using hlt p (by simpa using hp)
 refine ⟨ds,[],pa ++ [],[],pa,[],hW,hres _ _ _,hargs _ hold,hvars _,hB.frame _,fun _=>⟨?_,_,_,([] ++ pa) ++ [],⟨[] ++ pa,[],trodAll_append (hargs _ (fun _ _=>rfl)) (hres _ _ _),hvars _,rfl,?_,?_⟩,?_⟩⟩
 ·exact ok_one hr rfl (okWide_bool_mk hu _)
 ·intro b off hp
  have hp':MemPlace.cell b off ∈ pa ++ []:=by simpa using hp
  rw [hB.frozen (p:=⟨b,off,none⟩) (hlt _ hp')];exact hz b off hp'
 ·intro ha
  simpa using hn ha
 ·intro p hp _
  simpa using hp
end
theorem post_fn1 {H:Type} {enc:TypeId × Value->H} {k:FuncId} {f:Func} {s:ChangeSpec} {apart fresh handsOn again:Bool} {W:World} {args:Array Value} {ds gs:List (DataW H)} {before:List MemPlace}
  (hW:DataW.Whole enc Tryz.prog f.params.toList s.vars apart W args.toList ds gs before)
  (hc:Fn1 k args (hp W) W fun _ r=>r = .bool true)
  (hr:f.resultTypes = #[4]) (hT:∀ t ∈ f.params.toList,Stays Tryz.prog t) (hv:s.vars = [])
  (h1:(s.fn H (ds ++ gs)).results = [.lit (.bool true)]) (h2:(s.fn H (ds ++ gs)).args = ds) (h3:(s.fn H (ds ++ gs)).vars = []) :
  Calls Tryz.prog k args W fun e W'=>∃ v,e = .returned v/\s.post enc Tryz.prog f apart fresh handsOn again W args v W':=by
 refine (hc (own_start W)).mono fun e W' he=>?_
 cases e with
 | returned v=>
  obtain ⟨z',hR,rfl⟩:=he;exact ⟨_,rfl,post_law laidOutP hW hR.below hr u4 hT hv h1 h2 h3⟩
 | _=>exact he.elim
section
variable {H:Type} {enc:TypeId × Value->H} {w:World} {base:Nat} {spare:Nat->Bool} {held:Bool}
theorem fieldAt' {t:TypeId} (hu:Tryz.prog.underlying t = some (.struct (fieldsOf t))) {i ty off:Nat} (hi:((fieldsOf t).toList.map fun f=>(f.type,f.offset))[i]? = some (ty,off)):∃ f,(fieldsOf t)[i]? = some f/\f.type = ty/\f.offset = off:=by
 rw [List.getElem?_map] at hi;obtain ⟨f,h1,h2⟩:=Option.map_eq_some_iff.1 hi;simp only [Prod.mk.injEq] at h2;exact ⟨f,by simpa using h1,h2.1,h2.2⟩
theorem unum:Tryz.prog.underlying 23 = some (.struct (fieldsOf 23)):=by kernel_rfl
theorem num_read {n:Nat} {cs:List Value} {x:DataW H × List MemPlace} (h:DataW.trod enc Tryz.prog w base spare held n 23 cs = some x):∃ o:NumM,cs = o.cells/\o.digits.size <= maxLen:=by
 obtain ⟨xs,m,_,_,hl,hxl,hf⟩:=DataW.trod_struct unum h;have hc4:Tryz.prog.cellsOf 23 = 3:=by kernel_rfl
 rw [hc4] at hl;obtain ⟨f0,a0,b0,c0⟩:=fieldAt' unum (i:=0) (ty:=4) (off:=0) (by kernel_rfl);have h0:=hf 0 f0 a0;obtain ⟨f1,a1,b1,c1⟩:=fieldAt' unum (i:=1) (ty:=9) (off:=1) (by kernel_rfl);have h1:=hf 1 f1 a1;obtain ⟨f2,a2,b2,c2⟩:=fieldAt' unum (i:=2) (ty:=3) (off:=2) (by kernel_rfl);have h2:=hf 2 f2 a2;have hsz:(fieldsOf 23).size = 3:=by kernel_rfl
 rw [hsz] at hxl;rw [b0,c0,show Tryz.prog.cellsOf 4 = 1 by kernel_rfl] at h0;rw [b1,c1,show Tryz.prog.cellsOf 9 = 1 by kernel_rfl] at h1;rw [b2,c2,show Tryz.prog.cellsOf 3 = 1 by kernel_rfl] at h2
 match xs,hxl,cs,hl with
 | [x0,x1,x2],_,[v0,v1,v2],_=>
  obtain ⟨m0,g0,_⟩:=DataW.trod_bool u4 (x:=x0) (by simpa using h0);obtain ⟨m1,g1,_,hs1⟩:=DataW.trod_string u9 (x:=x1) (by simpa using h1);obtain ⟨m2,g2,_⟩:=DataW.trod_int u3 (x:=x2) (by simpa using h2);simp at g0 g1 g2;subst g0; subst g1; subst g2;exact ⟨⟨m0,m1,m2⟩,rfl,hs1⟩
theorem numArg {r:Reach} {b0 n:Nat} {v:Value} {x:DataW H × List MemPlace} (hval:Value.okWide Tryz.prog w r b0 23 v) (h:DataW.trod enc Tryz.prog w base spare held n 23 v.cells.toList = some x):∃ o:NumM,v = o.v/\Sm o.digits:=by
 have hv:∃ cs,v = .agg cs:=by
  simp only [Value.okWide,unum] at hval;exact ⟨_,hval.choose_spec.1⟩
 obtain ⟨cs,rfl⟩:=hv;obtain ⟨o,ho,hs⟩:=num_read h
 cases cs with
 | mk l=>
  simp only [Value.cells] at ho;exact ⟨o,by rw [ho],⟨by simp only [big]; simp only [maxLen] at hs; omega⟩⟩
theorem uset:Tryz.prog.underlying 39 = some (.struct (fieldsOf 39)):=by kernel_rfl
theorem set_read {n:Nat} {cs:List Value} {x:DataW H × List MemPlace} (h:DataW.trod enc Tryz.prog w base spare held n 39 cs = some x):∃ o:SetM,cs = o.cells:=by
 obtain ⟨xs,m,_,_,hl,hxl,hf⟩:=DataW.trod_struct uset h;have hc4:Tryz.prog.cellsOf 39 = 3:=by kernel_rfl
 rw [hc4] at hl;obtain ⟨f0,a0,b0,c0⟩:=fieldAt' uset (i:=0) (ty:=3) (off:=0) (by kernel_rfl);have h0:=hf 0 f0 a0;obtain ⟨f1,a1,b1,c1⟩:=fieldAt' uset (i:=1) (ty:=3) (off:=1) (by kernel_rfl);have h1:=hf 1 f1 a1;obtain ⟨f2,a2,b2,c2⟩:=fieldAt' uset (i:=2) (ty:=3) (off:=2) (by kernel_rfl);have h2:=hf 2 f2 a2;have hsz:(fieldsOf 39).size = 3:=by kernel_rfl
 rw [hsz] at hxl;rw [b0,c0,show Tryz.prog.cellsOf 3 = 1 by kernel_rfl] at h0;rw [b1,c1,show Tryz.prog.cellsOf 3 = 1 by kernel_rfl] at h1;rw [b2,c2,show Tryz.prog.cellsOf 3 = 1 by kernel_rfl] at h2
 match xs,hxl,cs,hl with
 | [x0,x1,x2],_,[v0,v1,v2],_=>
  obtain ⟨m0,g0,_⟩:=DataW.trod_int u3 (x:=x0) (by simpa using h0);obtain ⟨m1,g1,_⟩:=DataW.trod_int u3 (x:=x1) (by simpa using h1);obtain ⟨m2,g2,_⟩:=DataW.trod_int u3 (x:=x2) (by simpa using h2);simp at g0 g1 g2;subst g0; subst g1; subst g2;exact ⟨⟨m0,m1,m2⟩,rfl⟩
theorem setArg {r:Reach} {b0 n:Nat} {v:Value} {x:DataW H × List MemPlace} (hval:Value.okWide Tryz.prog w r b0 39 v) (h:DataW.trod enc Tryz.prog w base spare held n 39 v.cells.toList = some x):∃ o:SetM,v = o.v:=by
 have hv:∃ cs,v = .agg cs:=by
  simp only [Value.okWide,uset] at hval;exact ⟨_,hval.choose_spec.1⟩
 obtain ⟨cs,rfl⟩:=hv;obtain ⟨o,ho⟩:=set_read h
 cases cs with
 | mk l=>
  simp only [Value.cells] at ho;exact ⟨o,by rw [ho]⟩
end
theorem stays_3:Stays Tryz.prog 3:=⟨by kernel_rfl,of_decide_eq_true (by kernel_rfl)⟩
theorem stays_5:Stays Tryz.prog 5:=⟨by kernel_rfl,of_decide_eq_true (by kernel_rfl)⟩
theorem stays_num:Stays Tryz.prog 23:=⟨by kernel_rfl,of_decide_eq_true (by kernel_rfl)⟩
theorem stays_set:Stays Tryz.prog 39:=⟨by kernel_rfl,of_decide_eq_true (by kernel_rfl)⟩
theorem tab_start {W:World} (h:Lib.TabIs Tryz.prog W "internal/strconv.uint64pow10" .u64 Lib.pow10Tab):Tab (hp W):=⟨fun w hw=>by
 unfold Lib.TabIs World.var? at *
 cases hg:Tryz.prog.globalNamed "internal/strconv.uint64pow10" with
 | none=>simp [hg] at h
 | some g=>
  simp only [hg,Option.bind_some] at h ⊢
  cases ho:W.heap[g]? with
  | none=>rw [ho] at h; simp at h
  | some o=>rw [hw g o ho,<- ho]; exact h⟩
theorem laidVars_tab {P:Program} {W:World} {name:String} {k:IntKind} {zs:List Int} {rest:List (String × DataW Unit)} {ps:List MemPlace} {g:Nat} {t e:TypeId} {n:Nat}
  (hg:P.globalNamed name = some g) (hty:(P.globals[g]?).map (·.type) = some t) (ht:P.underlying t = some (.array n e)) (he:P.underlying e = some (.int k)) (hce:P.cellsOf e = 1) (hct:P.cellsOf t = n)
  (h:DataW.LaidVars P W ((name,Lib.tabData k zs) :: rest) ps):Lib.TabIs P W name k zs:=by
 obtain ⟨g',t',cs,fuel,p,q,hg',ht',hvar,hd,_,_⟩:=h;obtain rfl:=Option.some.inj (hg.symm.trans hg');obtain rfl:=Option.some.inj (hty.symm.trans ht');unfold Lib.TabIs;rw [hvar,<- Lib.cells_of_tab ht he hce hct hd]
theorem tab_of {W:World} {a b:String × DataW Unit} {rest:List (String × DataW Unit)} (h:laidMet Tryz.prog (a :: b :: ("internal/strconv.uint64pow10",Rows.laid_internal_strconv_uint64pow10) :: rest) W):Lib.TabIs Tryz.prog W "internal/strconv.uint64pow10" .u64 Lib.pow10Tab:=by
 obtain ⟨ps,hv,_⟩:=h;obtain ⟨a1,b1⟩:=a;obtain ⟨a2,b2⟩:=b;obtain ⟨_,_,_,_,_,_,_,_,_,_,hv,_⟩:=hv;obtain ⟨_,_,_,_,_,_,_,_,_,_,hv,_⟩:=hv;exact laidVars_tab (g:=5) (t:=216) (n:=20) (e:=188) (by kernel_rfl) (by kernel_rfl) (by kernel_rfl) (by kernel_rfl) (by kernel_rfl) (by kernel_rfl) (show DataW.LaidVars Tryz.prog W (("internal/strconv.uint64pow10",Lib.tabData .u64 Lib.pow10Tab) :: rest) _ from hv)
end
end Go.Proofs.YtmideenmlhbdjaaGreatDoor
