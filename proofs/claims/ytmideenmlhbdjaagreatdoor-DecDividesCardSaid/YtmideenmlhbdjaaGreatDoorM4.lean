/- Texts joined: W29, W30, W31, W32, W33, W34, W35, W36, W37, W38, W39, W40, W41, W42, W43, W44, W45, W46. -/
import Derived.Test.YtmideenmlhbdjaaGreatDoorM3
set_option linter.unusedSimpArgs false
set_option linter.unusedVariables false
set_option linter.unusedSectionVars false
set_option maxRecDepth 20000
set_option synthInstance.maxHeartbeats 4000000
set_option synthInstance.maxSize 20000
set_option maxHeartbeats 1000000
namespace Go.Proofs.YtmideenmlhbdjaaGreatDoor
section
open Go Q Go.RowKit
abbrev tenB:ByteArray:=⟨#[48,49,50,51,52,53,54,55,56,57]⟩
instance:Asc tenB:=⟨by decide,by decide⟩
theorem in_ten (c:UInt8):inS (bytes tenB) c.toNat = dgB c:=by
 have h:∀ n:Fin 256,inS (bytes tenB) n.val = (decide (48 <= n.val) && decide (n.val <= 57)):=by decide +kernel
 exact h ⟨c.toNat,c.toNat_lt⟩
theorem trim_ten (l:List UInt8):trimP (inS (bytes tenB)) l = [] ↔ Dg l:=by
 have e:(fun c:UInt8=>inS (bytes tenB) c.toNat) = dgB:=funext in_ten;unfold trimP rigP;rw [e];have dw:∀ m:List UInt8,m.dropWhile dgB = [] ↔ ∀ c ∈ m,dgB c = true:=by
  intro m
  induction m with
  | nil=>simp
  | cons c m ih=>
   rw [List.dropWhile_cons]
   cases hc:dgB c with
   | true=>simp only [if_true,ih,List.mem_cons,forall_eq_or_imp,hc,true_and]
   | false=>
    constructor
    ·intro h; cases h
    ·intro h; have:=h c List.mem_cons_self; rw [hc] at this; cases this
 have hd:Dg l ↔ ∀ c ∈ l,dgB c = true:=⟨fun h c hc=>dgB_iff.2 (h c hc),fun h c hc=>dgB_iff.1 (h c hc)⟩
 rw [hd];constructor
 ·intro h
  have h1:=(dw _).1 h;have h2:l.reverse.dropWhile dgB = []:=by
   cases hl:l.reverse.dropWhile dgB with
   | nil=>rfl
   | cons c r=>
    have:=dw_head hl;have h3:=h1 c (by rw [hl]; simp);rw [this] at h3
    cases h3
  intro c hc;exact (dw _).1 h2 c (List.mem_reverse.2 hc)
 ·intro h
  have h2:l.reverse.dropWhile dgB = []:=(dw _).2 fun c hc=>h c (List.mem_reverse.1 hc)
  rw [h2]; rfl
theorem cmp48 {s:ByteArray} {c:UInt8} {l:List UInt8} (h:bytes s = c :: l):(s = b1 48) ↔ c :: l = [48]:=by
 constructor
 ·intro e
  rw [<- h,e]
 ·intro e
  exact ba_inj (by rw [h,e])
theorem ba_nil {s:ByteArray} (h:s ≠ ⟨#[]⟩):∃ c l,bytes s = c :: l:=by
 cases hl:bytes s with
 | nil=>exact absurd (ba_inj (by rw [hl])) h
 | cons c l=>exact ⟨c,l,rfl⟩
instance {s:ByteArray} [h:Sm s]:Pu 128 #[.string s] (.bool (dgOk (bytes s))):=⟨fun z w=>Fn1.intro fun hS=>en128 (by
 unfold vc128;have hs:=h.h;have fin:∀ b z' w',b = dgOk (bytes s)->Res w z [] w' z' []->∃ z' L',Res w z [] w' z' L'/\Value.bool b = .bool (dgOk (bytes s)):=fun b z' w' e k=>⟨z',[],k,by rw [e]⟩
 refine V_run ?_;intro K0 hK0;refine Cond_n (fun h1=>?_) (fun h1=>?_)
 ·have h1:s ≠ ⟨#[]⟩:=by simpa using h1
  refine CV_1 (trimSet_of (t:=tenB) (by decide) (by decide) hs) ?_;rintro z2 w2 v2 hz2 hS2 rfl
  clear hS;refine V_run ?_;refine hK0 _ _ fun _=>?_
  clear hK0;intro K0 hK0;obtain ⟨c,l,hcl⟩:=ba_nil h1;have hsz:=size_bytes s;have iff1:=dgOk_iff (l:=bytes s);refine Cond_d (fun h2=>?_) (fun h2=>?_)
  ·have hdg:Dg (bytes s):=(trim_ten _).1 (by
    have:=congrArg bytes h2;rw [bytes_mk] at this;exact this)
   haveI:InStr s 0:=⟨by omega,by rw [hsz,hcl]; simp⟩
   refine V_run ?_;have hbt:bt s 0 = (c.toNat:Int):=bt_get (k:=0) (by rw [hcl]; rfl);rw [hbt];refine V_run ?_;intro K1 hK1;have hne:bytes s ≠ []:=by rw [hcl]; simp
   refine Cond_n (fun h3=>?_) (fun h3=>?_)
   ·refine hK1 _ _ fun _=>hK0 _ _ fun _=>?_
    have h3:¬ (c.toNat:Int) = 48:=by simpa using h3
    refine fin _ _ _ ?_ hS2;have h4:c ≠ 48:=fun e=>h3 (by rw [e]; rfl)
    rw [iff1.2 ⟨hne,hdg,.inl (by rw [hcl]; simpa using h4)⟩]
   ·refine V_run ?_
    refine hK1 _ _ fun _=>hK0 _ _ fun _=>?_
    have h3:(c.toNat:Int) = 48:=by simpa using h3
    have h4:c = 48:=(u8_eq (c:=c) (d:=48)).1 h3;refine fin _ _ _ ?_ hS2
    by_cases h5:c :: l = [48]
    ·rw [decide_eq_true ((cmp48 hcl).2 h5),iff1.2 ⟨hne,hdg,.inr (by rw [hcl,h5])⟩]
    ·rw [decide_eq_false (fun e=>h5 ((cmp48 hcl).1 e))]
     cases hd:dgOk (bytes s) with
     | false=>rfl
     | true=>
      obtain ⟨_,_,g | g⟩:=iff1.1 hd
      ·exact absurd (by rw [hcl,h4]; rfl) g
      ·exact absurd (by rw [<- hcl]; exact g) h5
  ·refine hK0 _ _ fun _=>?_
   refine fin _ _ _ ?_ hS2
   cases hd:dgOk (bytes s) with
   | false=>rfl
   | true=>
    obtain ⟨_,g,_⟩:=iff1.1 hd;exact absurd (ba_inj (by rw [bytes_mk]; exact (trim_ten _).2 g)) h2
 ·have h1:s = ⟨#[]⟩:=by simpa using h1
  subst h1;refine hK0 _ _ fun _=>?_
  intro K0 hK0;refine Cond_f ?_;refine hK0 _ _ fun _=>?_
  exact fin _ _ _ rfl hS)⟩
def dcB (l:List UInt8):Bool:=l.all dgB && !l.isEmpty
end
section
open Go Q Go.RowKit
abbrev wrp (n:Int):Int:=IntKind.i64.wrap n
instance (priority:=50) subW {t:Nat} {a b:Int}:Run (bi .sub t (.int .i64 a) (.int .i64 b)) (.int .i64 (wrp (a - b))):=⟨fun w=>by simp [bi,binOp,Op.intArith]⟩
instance (priority:=50) addW {t:Nat} {a b:Int}:Run (bi .add t (.int .i64 a) (.int .i64 b)) (.int .i64 (wrp (a + b))):=⟨fun w=>by simp [bi,binOp,Op.intArith]⟩
theorem wrp_in {n:Int} (h:-9223372036854775808 <= n/\n <= 9223372036854775807):wrp n = n:=wrap_in h
abbrev SetM.cells (s:SetM):List Value:=[.int .i64 s.digits,.int .i64 s.fuzz,.int .i64 s.form]
abbrev SetM.v (s:SetM):Value:=.agg s.cells.toArray
instance {s:SetM}:Pu 85 #[s.v] (.bool (setOk s)):=⟨fun z w=>fnW en85 (fun hS R=>by unfold vc85; exact inferInstance) (by
 refine congrArg Value.bool ?_;unfold setOk;simp only [Bool.cond_eq_ite,decide_eq_true_eq];(repeat' split) <;> simp_all <;> omega)⟩
abbrev adjW (x:NumM):Int:=wrp (wrp (x.exp + x.digits.size) - 1)
instance (priority:=50) {x:NumM}:Pu 151 #[x.v] (.int .i64 (adjW x)):=⟨fun z w=>fnW en151 (fun hS R=>by unfold vc151; exact inferInstance) rfl⟩
def rangW (x:NumM):Bool:=decide (x.digits = b1 48/\x.neg = false/\x.exp = 0) || (decide (-999 <= adjW x) && decide (adjW x <= 999))
theorem rz_iff {x:NumM}:(x.neg == zeroM.neg && (decide (x.digits = zeroM.digits) && (decide (x.exp = zeroM.exp) && true))) = decide (x.digits = b1 48/\x.neg = false/\x.exp = 0):=by
 show (x.neg == false && (decide (x.digits = b1 48) && (decide (x.exp = 0) && true))) = _
 rw [Bool.eq_iff_iff];simp;constructor
 ·rintro ⟨h1,h2,h3⟩; exact ⟨h2,h1,h3⟩
 ·rintro ⟨h1,h2,h3⟩; exact ⟨h2,h1,h3⟩
instance {x:NumM}:Pu 146 #[x.v] (.bool (rangW x)):=⟨fun z w=>Fn1.intro fun hS=>en146 (by
 unfold vc146;refine iV_bx ?_;intro b w1 hb hS1;clear hS;intro K0 hK0;(repeat (first | (refine iDr ?_; intro _ _) | refine V_run ?_ | refine PV_run ?_ | refine HV_run ?_ | refine iV_ld1 ?_ | refine iV_ldN ?_ | (refine iV_bx ?_; intro _ _ _ _) | (refine iV_al ?_; intro _ _ _ _) | (refine iV_mm ?_; intro _ _ _ _) | (refine iU_st ?_; intro _ _) | refine iHV_1 ?_ | refine iHV_N ?_ | refine iRI_1 ?_ | refine iRI_N ?_ | refine Cond_t ?_ | refine Cond_f ?_ | refine JB ?_ | (refine JC ?_; intro _ _ _ _) | (refine JGB ?_; intro _ _ _ _) | refine K1 ?_ | refine K0 ?_ | refine K2 ?_ | refine K3 ?_ | refine K4 ?_ | (refine CV_pu ?_; intro _ _ _ _) | (refine CV_puz ?_; intro _ _ _ _) | refine fRI_1 ?_ | refine fRI_N ?_ | refine gHV_lkI ?_ | refine gRI_lkI ?_ | refine gV_lkI ?_ | refine fV_ldN ?_ | refine fV_ld1 ?_ | refine fHV_ldN ?_ | refine fHV_ld1 ?_ | refine NilW_some ?_ | refine iCW_1 ?_ | refine iCW_N ?_ | refine Pk_b ?_));rw [rz_iff];refine Cond_d (fun h=>?_) (fun h=>?_)
 ·refine hK0 _ _ fun _=>?_
  exact ⟨_,_,‹_›,by rw [rangW,decide_eq_true h]; rfl⟩
 ·(repeat (first | (refine iDr ?_; intro _ _) | refine V_run ?_ | refine PV_run ?_ | refine HV_run ?_ | refine iV_ld1 ?_ | refine iV_ldN ?_ | (refine iV_bx ?_; intro _ _ _ _) | (refine iV_al ?_; intro _ _ _ _) | (refine iV_mm ?_; intro _ _ _ _) | (refine iU_st ?_; intro _ _) | refine iHV_1 ?_ | refine iHV_N ?_ | refine iRI_1 ?_ | refine iRI_N ?_ | refine Cond_t ?_ | refine Cond_f ?_ | refine JB ?_ | (refine JC ?_; intro _ _ _ _) | (refine JGB ?_; intro _ _ _ _) | refine K1 ?_ | refine K0 ?_ | refine K2 ?_ | refine K3 ?_ | refine K4 ?_ | (refine CV_pu ?_; intro _ _ _ _) | (refine CV_puz ?_; intro _ _ _ _) | refine fRI_1 ?_ | refine fRI_N ?_ | refine gHV_lkI ?_ | refine gRI_lkI ?_ | refine gV_lkI ?_ | refine fV_ldN ?_ | refine fV_ld1 ?_ | refine fHV_ldN ?_ | refine fHV_ld1 ?_ | refine NilW_some ?_ | refine iCW_1 ?_ | refine iCW_N ?_ | refine Pk_b ?_))
  refine Cond_d (fun h2=>?_) (fun h2=>?_)
  ·(repeat (first | (refine iDr ?_; intro _ _) | refine V_run ?_ | refine PV_run ?_ | refine HV_run ?_ | refine iV_ld1 ?_ | refine iV_ldN ?_ | (refine iV_bx ?_; intro _ _ _ _) | (refine iV_al ?_; intro _ _ _ _) | (refine iV_mm ?_; intro _ _ _ _) | (refine iU_st ?_; intro _ _) | refine iHV_1 ?_ | refine iHV_N ?_ | refine iRI_1 ?_ | refine iRI_N ?_ | refine Cond_t ?_ | refine Cond_f ?_ | refine JB ?_ | (refine JC ?_; intro _ _ _ _) | (refine JGB ?_; intro _ _ _ _) | refine K1 ?_ | refine K0 ?_ | refine K2 ?_ | refine K3 ?_ | refine K4 ?_ | (refine CV_pu ?_; intro _ _ _ _) | (refine CV_puz ?_; intro _ _ _ _) | refine fRI_1 ?_ | refine fRI_N ?_ | refine gHV_lkI ?_ | refine gRI_lkI ?_ | refine gV_lkI ?_ | refine fV_ldN ?_ | refine fV_ld1 ?_ | refine fHV_ldN ?_ | refine fHV_ld1 ?_ | refine NilW_some ?_ | refine iCW_1 ?_ | refine iCW_N ?_ | refine Pk_b ?_))
   refine hK0 _ _ fun _=>?_
   exact ⟨_,_,‹_›,by rw [rangW,decide_eq_false h,decide_eq_true h2]; rfl⟩
  ·refine hK0 _ _ fun _=>?_
   exact ⟨_,_,‹_›,by rw [rangW,decide_eq_false h,decide_eq_false h2]; rfl⟩)⟩
theorem adjW_in {x:NumM} (h:-100000000 <= x.exp/\x.exp <= 100000000) (h2:x.digits.size <= 100000000):adjW x = x.exp + x.digits.size - 1:=by
 unfold adjW;rw [wrp_in (n:=x.exp + x.digits.size) (by omega),wrp_in (by omega)]
theorem d48_iff {s:ByteArray}:s = b1 48 ↔ bytes s = [48]:=⟨fun h=>by rw [h],fun h=>ba_inj (by rw [h])⟩
instance {x:NumM} [hs:Sm x.digits]:Pu 84 #[x.v] (.bool (nmOf x).isSome):=⟨fun z w=>Fn1.intro fun hS=>en84 (by
 unfold vc84;have hsz:=size_bytes x.digits;generalize hG:(nmOf x).isSome = G;have hlist:bytes x.digits = x.digits.data.toList:=rfl;refine iV_bx ?_;intro b w1 hb hS1;clear hS;(repeat (first | (refine iDr ?_; intro _ _) | refine V_run ?_ | refine PV_run ?_ | refine HV_run ?_ | refine iV_ld1 ?_ | refine iV_ldN ?_ | (refine iV_bx ?_; intro _ _ _ _) | (refine iV_al ?_; intro _ _ _ _) | (refine iV_mm ?_; intro _ _ _ _) | (refine iU_st ?_; intro _ _) | refine iHV_1 ?_ | refine iHV_N ?_ | refine iRI_1 ?_ | refine iRI_N ?_ | refine Cond_t ?_ | refine Cond_f ?_ | refine JB ?_ | (refine JC ?_; intro _ _ _ _) | (refine JGB ?_; intro _ _ _ _) | refine K1 ?_ | refine K0 ?_ | refine K2 ?_ | refine K3 ?_ | refine K4 ?_ | (refine CV_pu ?_; intro _ _ _ _) | (refine CV_puz ?_; intro _ _ _ _) | refine fRI_1 ?_ | refine fRI_N ?_ | refine gHV_lkI ?_ | refine gRI_lkI ?_ | refine gV_lkI ?_ | refine fV_ldN ?_ | refine fV_ld1 ?_ | refine fHV_ldN ?_ | refine fHV_ld1 ?_ | refine NilW_some ?_ | refine iCW_1 ?_ | refine iCW_N ?_ | refine Pk_b ?_));refine Cond_d (fun h=>?_) (fun h=>?_)
 ·have h48:=d48_iff.1 h
  (repeat (first | (refine iDr ?_; intro _ _) | refine V_run ?_ | refine PV_run ?_ | refine HV_run ?_ | refine iV_ld1 ?_ | refine iV_ldN ?_ | (refine iV_bx ?_; intro _ _ _ _) | (refine iV_al ?_; intro _ _ _ _) | (refine iV_mm ?_; intro _ _ _ _) | (refine iU_st ?_; intro _ _) | refine iHV_1 ?_ | refine iHV_N ?_ | refine iRI_1 ?_ | refine iRI_N ?_ | refine Cond_t ?_ | refine Cond_f ?_ | refine JB ?_ | (refine JC ?_; intro _ _ _ _) | (refine JGB ?_; intro _ _ _ _) | refine K1 ?_ | refine K0 ?_ | refine K2 ?_ | refine K3 ?_ | refine K4 ?_ | (refine CV_pu ?_; intro _ _ _ _) | (refine CV_puz ?_; intro _ _ _ _) | refine fRI_1 ?_ | refine fRI_N ?_ | refine gHV_lkI ?_ | refine gRI_lkI ?_ | refine gV_lkI ?_ | refine fV_ldN ?_ | refine fV_ld1 ?_ | refine fHV_ldN ?_ | refine fHV_ld1 ?_ | refine NilW_some ?_ | refine iCW_1 ?_ | refine iCW_N ?_ | refine Pk_b ?_));refine ⟨_,_,‹_›,?_⟩;rw [rz_iff,<- hG,nm_zero h48];refine congrArg Value.bool ?_;rw [Bool.eq_iff_iff];simp [h]
 ·have h48:x.digits.data.toList ≠ [48]:=fun e=>h (d48_iff.2 e)
  rw [nm_else h48] at hG;have fin:∀ c z' w' L',c = G->Res w z [] w' z' L'->∃ z' L',Res w z [] w' z' L'/\Value.bool c = .bool G:=fun c z' w' L' e k=>⟨z',L',k,by rw [e]⟩
  (repeat (first | (refine iDr ?_; intro _ _) | refine V_run ?_ | refine PV_run ?_ | refine HV_run ?_ | refine iV_ld1 ?_ | refine iV_ldN ?_ | (refine iV_bx ?_; intro _ _ _ _) | (refine iV_al ?_; intro _ _ _ _) | (refine iV_mm ?_; intro _ _ _ _) | (refine iU_st ?_; intro _ _) | refine iHV_1 ?_ | refine iHV_N ?_ | refine iRI_1 ?_ | refine iRI_N ?_ | refine Cond_t ?_ | refine Cond_f ?_ | refine JB ?_ | (refine JC ?_; intro _ _ _ _) | (refine JGB ?_; intro _ _ _ _) | refine K1 ?_ | refine K0 ?_ | refine K2 ?_ | refine K3 ?_ | refine K4 ?_ | (refine CV_pu ?_; intro _ _ _ _) | (refine CV_puz ?_; intro _ _ _ _) | refine fRI_1 ?_ | refine fRI_N ?_ | refine gHV_lkI ?_ | refine gRI_lkI ?_ | refine gV_lkI ?_ | refine fV_ldN ?_ | refine fV_ld1 ?_ | refine fHV_ldN ?_ | refine fHV_ld1 ?_ | refine NilW_some ?_ | refine iCW_1 ?_ | refine iCW_N ?_ | refine Pk_b ?_));refine fin _ _ _ _ ?_ ‹_›;rw [<- hG,<- hlist]
  by_cases l1:(bytes x.digits).length <= 1000
  ·rw [decide_eq_true l1,decide_eq_true (p:=(x.digits.size:Int) <= 1000) (by omega)]
   by_cases l2:-3000 <= x.exp
   ·by_cases l3:x.exp <= 3000
    ·have hz:¬ (x.digits = b1 48/\x.neg = false/\x.exp = 0):=fun e=>h e.1
     rw [rangW,decide_eq_false hz,adjW_in (by omega) (by omega),decide_eq_true (p:=x.exp ≥ -3000) l2,decide_eq_true l3,hsz]
     cases dgOk (bytes x.digits) <;> rfl
    ·rw [decide_eq_false l3,decide_eq_false (p:=x.exp + _ - 1 <= 999) (by omega)]
     cases dgOk (bytes x.digits) <;> simp
   ·rw [decide_eq_false (p:=x.exp ≥ -3000) (by omega),decide_eq_false (p:=-999 <= x.exp + _ - 1) (by omega)]
    cases dgOk (bytes x.digits) <;> simp
  ·rw [decide_eq_false l1,decide_eq_false (p:=(x.digits.size:Int) <= 1000) (by omega)]
   rfl)⟩
def chkE (x:NumM):Int:=if (nmOf x).isSome = true then 0 else 1
instance {x:NumM} [hs:Sm x.digits]:Pu 33 #[x.v] (.int .i64 (chkE x)):=⟨fun z w=>Fn1.intro fun hS=>en33 (by
 unfold vc33;(repeat (first | (refine iDr ?_; intro _ _) | refine V_run ?_ | refine PV_run ?_ | refine HV_run ?_ | refine iV_ld1 ?_ | refine iV_ldN ?_ | (refine iV_bx ?_; intro _ _ _ _) | (refine iV_al ?_; intro _ _ _ _) | (refine iV_mm ?_; intro _ _ _ _) | (refine iU_st ?_; intro _ _) | refine iHV_1 ?_ | refine iHV_N ?_ | refine iRI_1 ?_ | refine iRI_N ?_ | refine Cond_t ?_ | refine Cond_f ?_ | refine JB ?_ | (refine JC ?_; intro _ _ _ _) | (refine JGB ?_; intro _ _ _ _) | refine K1 ?_ | refine K0 ?_ | refine K2 ?_ | refine K3 ?_ | refine K4 ?_ | (refine CV_pu ?_; intro _ _ _ _) | (refine CV_puz ?_; intro _ _ _ _) | refine fRI_1 ?_ | refine fRI_N ?_ | refine gHV_lkI ?_ | refine gRI_lkI ?_ | refine gV_lkI ?_ | refine fV_ldN ?_ | refine fV_ld1 ?_ | refine fHV_ldN ?_ | refine fHV_ld1 ?_ | refine NilW_some ?_ | refine iCW_1 ?_ | refine iCW_N ?_ | refine Pk_b ?_));refine Cond_n (fun h=>?_) (fun h=>?_)
 ·exact ⟨_,_,‹_›,by rw [chkE,h]; rfl⟩
 ·exact ⟨_,_,‹_›,by rw [chkE,h]; rfl⟩)⟩
theorem dcB_iff {l:List UInt8}:dcB l = true ↔ Dg l/\l ≠ []:=by
 unfold dcB;rw [Bool.and_eq_true,List.all_eq_true];constructor
 ·rintro ⟨h1,h2⟩
  exact ⟨fun c hc=>dgB_iff.1 (h1 c hc),by simpa using h2⟩
 ·rintro ⟨h1,h2⟩
  exact ⟨fun c hc=>dgB_iff.2 (h1 c hc),by simpa using h2⟩
theorem nm_yes {x:NumM} (h:(nmOf x).isSome = true):dcB (bytes x.digits) = true/\(bytes x.digits).length <= 1000/\-2000 <= x.exp/\x.exp <= 2000:=by
 by_cases h48:x.digits.data.toList = [48]
 ·rw [nm_zero h48] at h
  simp only [Bool.and_eq_true,decide_eq_true_eq] at h;rw [h.2]
  show dcB x.digits.data.toList = true/\x.digits.data.toList.length <= 1000/\_
  rw [h48]
  decide
 ·rw [nm_else h48] at h
  simp only [Bool.and_eq_true,decide_eq_true_eq] at h;obtain ⟨⟨h1,h2⟩,h3,h4⟩:=h;obtain ⟨g1,g2,g3⟩:=dgOk_iff.1 h2;refine ⟨dcB_iff.2 ⟨g2,g1⟩,h1,?_,?_⟩
  ·omega
  ·have:0 < x.digits.data.toList.length:=List.length_pos_iff.2 g1
   omega
end
section
open Go Q Go.RowKit
class BnI (n:Nm):Prop where
 h:Bn n 300000
theorem zero_num:zeroM = nz.num:=by
 show (⟨false,b1 48,0⟩:NumM) = ⟨false,digB 0,0⟩
 rw [digB_0]
theorem d48_dig {m:Nat}:digB m = b1 48 ↔ m = 0:=by
 rw [d48_iff,bytes_digB];exact dig0_iff
theorem number_of {z:Z} {w:World} {s:Bool} {d:ByteArray} {e:Int} (hd:Dg (bytes d)):Fn1 138 #[.bool s,.string d,.int .i64 e] z w fun _ r=>r = (mkN s (valL (bytes d)) e).num.v:=Fn1.intro fun hS=>en138 (by
 unfold vc138;refine iV_al ?_;intro b w1 hb hS1;clear hS;refine CV_pu ?_;intro z2 w2 hz2 hS2;clear hS1;rw [stripB_val hd];generalize valL (bytes d) = v;refine V_run ?_;refine Cond_d (fun h=>?_) (fun h=>?_)
 ·have h:=d48_dig.1 h
  subst h;(repeat (first | (refine iDr ?_; intro _ _) | refine V_run ?_ | refine PV_run ?_ | refine HV_run ?_ | refine iV_ld1 ?_ | refine iV_ldN ?_ | (refine iV_bx ?_; intro _ _ _ _) | (refine iV_al ?_; intro _ _ _ _) | (refine iV_mm ?_; intro _ _ _ _) | (refine iU_st ?_; intro _ _) | refine iHV_1 ?_ | refine iHV_N ?_ | refine iRI_1 ?_ | refine iRI_N ?_ | refine Cond_t ?_ | refine Cond_f ?_ | refine JB ?_ | (refine JC ?_; intro _ _ _ _) | (refine JGB ?_; intro _ _ _ _) | refine K1 ?_ | refine K0 ?_ | refine K2 ?_ | refine K3 ?_ | refine K4 ?_ | (refine CV_pu ?_; intro _ _ _ _) | (refine CV_puz ?_; intro _ _ _ _) | refine fRI_1 ?_ | refine fRI_N ?_ | refine gHV_lkI ?_ | refine gRI_lkI ?_ | refine gV_lkI ?_ | refine fV_ldN ?_ | refine fV_ld1 ?_ | refine fHV_ldN ?_ | refine fHV_ld1 ?_ | refine NilW_some ?_ | refine iCW_1 ?_ | refine iCW_N ?_ | refine Pk_b ?_));exact ⟨_,_,‹_›,by show zeroM.v = nz.num.v; rw [zero_num]⟩
 ·have h:¬ v = 0:=fun e=>h (d48_dig.2 e)
  (repeat (first | (refine iDr ?_; intro _ _) | refine V_run ?_ | refine PV_run ?_ | refine HV_run ?_ | refine iV_ld1 ?_ | refine iV_ldN ?_ | (refine iV_bx ?_; intro _ _ _ _) | (refine iV_al ?_; intro _ _ _ _) | (refine iV_mm ?_; intro _ _ _ _) | (refine iU_st ?_; intro _ _) | refine iHV_1 ?_ | refine iHV_N ?_ | refine iRI_1 ?_ | refine iRI_N ?_ | refine Cond_t ?_ | refine Cond_f ?_ | refine JB ?_ | (refine JC ?_; intro _ _ _ _) | (refine JGB ?_; intro _ _ _ _) | refine K1 ?_ | refine K0 ?_ | refine K2 ?_ | refine K3 ?_ | refine K4 ?_ | (refine CV_pu ?_; intro _ _ _ _) | (refine CV_puz ?_; intro _ _ _ _) | refine fRI_1 ?_ | refine fRI_N ?_ | refine gHV_lkI ?_ | refine gRI_lkI ?_ | refine gV_lkI ?_ | refine fV_ldN ?_ | refine fV_ld1 ?_ | refine fHV_ldN ?_ | refine fHV_ld1 ?_ | refine NilW_some ?_ | refine iCW_1 ?_ | refine iCW_N ?_ | refine Pk_b ?_));exact ⟨_,_,‹_›,by rw [mk_s h]; rfl⟩)
instance {s:Bool} {m:Nat} {e:Int}:Pu 138 #[.bool s,.string (digB m),.int .i64 e] (mkN s m e).num.v:=⟨fun z w=>by
 have:=number_of (z:=z) (w:=w) (s:=s) (e:=e) (dg_digB m);rw [val_digB] at this;exact this⟩
theorem num_adj {n:Nm} (h:Bn n 300000):adjW n.num = adjN n:=by
 have h1:=h.len;have h2:=h.lo;have h3:=h.hi;rw [adjW_in (x:=n.num) (by show _ <= n.e/\n.e <= _; omega) (by show (digB n.m).size <= _; rw [size_digB]; omega)]
 show n.e + ((digB n.m).size:Int) - 1 = _
 rw [size_digB]; rfl
theorem num_zero {n:Nm} (h:n.C):decide (n.num.digits = b1 48/\n.num.neg = false/\n.num.exp = 0) = decide (n.m = 0):=by
 refine decide_eq_decide.2 ⟨fun e=>d48_dig.1 e.1,fun e=>?_⟩;rw [h e];exact ⟨digB_0,rfl,rfl⟩
theorem rang_num {n:Nm} (h:Bn n 300000):rangW n.num = fitsN n:=by
 rw [rangW,num_zero h.c,num_adj h]; rfl
instance {n:Nm} [h:BnI n]:Pu 146 #[n.num.v] (.bool (fitsN n)):=⟨fun z w=>by
 have:=(inferInstance:Pu 146 #[n.num.v] (.bool (rangW n.num))).h z w;rw [rang_num h.h] at this;exact this⟩
theorem take_digB {m d:Nat} (hd:0 < d) (h:d < lenD m):(digB m).extract 0 d = digB (m / 10 ^ (lenD m - d)):=by
 refine ba_inj ?_;have:=take_dig (lenD m - d) m (by omega);rw [show lenD m - (lenD m - d) = d by omega] at this;rw [bytes_to,bytes_digB,bytes_digB,this]
theorem get_digB {m d:Nat} (h:d < lenD m):bt (digB m) (d:Int) = ((48 + m / 10 ^ (lenD m - d - 1) % 10:Nat):Int):=by
 have:=get_dig (lenD m - d - 1) m (by omega);rw [show lenD m - 1 - (lenD m - d - 1) = d by omega] at this;rw [bt_get (c:=UInt8.ofNat (48 + m / 10 ^ (lenD m - d - 1) % 10)) (by rw [bytes_digB]; exact this),dg_nat (Nat.mod_lt _ (by omega))]
theorem round_parts {n:Nm} {d:Nat} (hd:0 < d) (h:d < lenD n.m) :
  (rq n.m d < 10 ^ d->lenD (rq n.m d) = d/\roundN n d = ⟨n.s,rq n.m d,n.e + (lenD n.m - d:Nat)⟩)/\(¬ rq n.m d < 10 ^ d->lenD (rq n.m d) = d + 1/\roundN n d = ⟨n.s,rq n.m d / 10,n.e + (lenD n.m - d:Nat) + 1⟩):=by
 refine ⟨fun hq=>⟨lenD_eq hd (rq_bounds hd h).1 hq,by rw [round_big h,if_pos hq]⟩,fun hq=>⟨?_,by rw [round_big h,if_neg hq]⟩⟩;rw [(round_carry hd h hq).1,lenD_pow]
theorem rounded_of {z:Z} {w:World} {n:Nm} {d:Nat} (hd:0 < d) (hd2:d <= 1000) (hB:Bn n 140000):Fn1 132 #[n.num.v,.int .i64 d] z w fun _ r=>r = .tuple #[(roundN n d).num.v,.bool (fitsN (roundN n d))]:=Fn1.intro fun hS=>en132 (by
 unfold vc132;have h1:=hB.len;have h2:=hB.lo;have h3:=hB.hi;haveI:BnI (roundN n d):=⟨(bn_round hd hB).mono (by omega)⟩
 refine iV_bx ?_;intro b1 w1 hb1 hS1;refine iV_al ?_;intro b2 w2 hb2 hS2;clear hS hS1;intro K0 hK0;have main:∀ z' w' cs,cs = (roundN n d).num.cells->Res w z [] w' z' [(b2,.cells [.bool false,.string ⟨#[]⟩,.int .i64 0].toArray 23 (0,0)),(b1,.cells cs.toArray 23 (0,0))]->K0 [] w':=by
  rintro z' w' cs rfl hS'
  refine hK0 _ fun _=>?_
  clear hK0 hS2;(repeat (first | (refine iDr ?_; intro _ _) | refine V_run ?_ | refine PV_run ?_ | refine HV_run ?_ | refine iV_ld1 ?_ | refine iV_ldN ?_ | (refine iV_bx ?_; intro _ _ _ _) | (refine iV_al ?_; intro _ _ _ _) | (refine iV_mm ?_; intro _ _ _ _) | (refine iU_st ?_; intro _ _) | refine iHV_1 ?_ | refine iHV_N ?_ | refine iRI_1 ?_ | refine iRI_N ?_ | refine Cond_t ?_ | refine Cond_f ?_ | refine JB ?_ | (refine JC ?_; intro _ _ _ _) | (refine JGB ?_; intro _ _ _ _) | refine K1 ?_ | refine K0 ?_ | refine K2 ?_ | refine K3 ?_ | refine K4 ?_ | (refine CV_pu ?_; intro _ _ _ _) | (refine CV_puz ?_; intro _ _ _ _) | refine fRI_1 ?_ | refine fRI_N ?_ | refine gHV_lkI ?_ | refine gRI_lkI ?_ | refine gV_lkI ?_ | refine fV_ldN ?_ | refine fV_ld1 ?_ | refine fHV_ldN ?_ | refine fHV_ld1 ?_ | refine NilW_some ?_ | refine iCW_1 ?_ | refine iCW_N ?_ | refine Pk_b ?_));exact ⟨_,_,‹_›,rfl⟩
 clear hK0;have e1:n.num.digits.size = lenD n.m:=size_digB n.m;have hnd:n.num.digits = digB n.m:=rfl;have hne:n.num.exp = n.e:=rfl;have hnn:n.num.neg = n.s:=rfl;haveI:InI ((n.num.digits.size:Int) - (d:Int)):=⟨by omega⟩
 (repeat (first | (refine iDr ?_; intro _ _) | refine V_run ?_ | refine PV_run ?_ | refine HV_run ?_ | refine iV_ld1 ?_ | refine iV_ldN ?_ | (refine iV_bx ?_; intro _ _ _ _) | (refine iV_al ?_; intro _ _ _ _) | (refine iV_mm ?_; intro _ _ _ _) | (refine iU_st ?_; intro _ _) | refine iHV_1 ?_ | refine iHV_N ?_ | refine iRI_1 ?_ | refine iRI_N ?_ | refine Cond_t ?_ | refine Cond_f ?_ | refine JB ?_ | (refine JC ?_; intro _ _ _ _) | (refine JGB ?_; intro _ _ _ _) | refine K1 ?_ | refine K0 ?_ | refine K2 ?_ | refine K3 ?_ | refine K4 ?_ | (refine CV_pu ?_; intro _ _ _ _) | (refine CV_puz ?_; intro _ _ _ _) | refine fRI_1 ?_ | refine fRI_N ?_ | refine gHV_lkI ?_ | refine gRI_lkI ?_ | refine gV_lkI ?_ | refine fV_ldN ?_ | refine fV_ld1 ?_ | refine fHV_ldN ?_ | refine fHV_ld1 ?_ | refine NilW_some ?_ | refine iCW_1 ?_ | refine iCW_N ?_ | refine Pk_b ?_));refine Cond_d (fun h=>?_) (fun h=>?_)
 ·have hlt:d < lenD n.m:=by omega
  haveI:InR (d:Int) (n.num.digits.size + 1:Nat):=⟨by omega,by omega⟩
  haveI:InR (d:Int) ((n.num.digits.size:Int) + 1):=⟨by omega,by omega⟩
  haveI:InStr n.num.digits (d:Int):=⟨by omega,by omega⟩
  refine V_run ?_;refine iV_ld1 ?_;refine V_run ?_;rw [Int.toNat_natCast,hnd,take_digB hd hlt];intro K1 hK1;obtain ⟨g1,g2⟩:=round_parts hd hlt;have m2:∀ z' w',Res w z [] w' z' [(b2,.cells [.bool false,.string ⟨#[]⟩,.int .i64 0].toArray 23 (0,0)),(b1,.cells n.num.cells.toArray 23 (0,0))]->K1 [.string (digB (rq n.m d))] w':=by
   intro z' w' hS';refine hK1 _ _ fun _=>?_
   clear hK1 hS2
   by_cases hq:rq n.m d < 10 ^ d
   ·obtain ⟨g3,g4⟩:=g1 hq
    have e2:(digB (rq n.m d)).size = d:=by rw [size_digB,g3]
    haveI:InR (d:Int) (((digB (rq n.m d)).size:Int) + 1):=⟨by omega,by omega⟩
    (repeat (first | (refine iDr ?_; intro _ _) | refine V_run ?_ | refine PV_run ?_ | refine HV_run ?_ | refine iV_ld1 ?_ | refine iV_ldN ?_ | (refine iV_bx ?_; intro _ _ _ _) | (refine iV_al ?_; intro _ _ _ _) | (refine iV_mm ?_; intro _ _ _ _) | (refine iU_st ?_; intro _ _) | refine iHV_1 ?_ | refine iHV_N ?_ | refine iRI_1 ?_ | refine iRI_N ?_ | refine Cond_t ?_ | refine Cond_f ?_ | refine JB ?_ | (refine JC ?_; intro _ _ _ _) | (refine JGB ?_; intro _ _ _ _) | refine K1 ?_ | refine K0 ?_ | refine K2 ?_ | refine K3 ?_ | refine K4 ?_ | (refine CV_pu ?_; intro _ _ _ _) | (refine CV_puz ?_; intro _ _ _ _) | refine fRI_1 ?_ | refine fRI_N ?_ | refine gHV_lkI ?_ | refine gRI_lkI ?_ | refine gV_lkI ?_ | refine fV_ldN ?_ | refine fV_ld1 ?_ | refine fHV_ldN ?_ | refine fHV_ld1 ?_ | refine NilW_some ?_ | refine iCW_1 ?_ | refine iCW_N ?_ | refine Pk_b ?_));refine main _ _ _ ?_ ‹_›;rw [g4,Int.toNat_natCast];have e3:(digB (rq n.m d)).extract 0 d = digB (rq n.m d):=ba_inj (by rw [bytes_to,List.take_of_length_le (by rw [<- size_bytes]; omega)]);rw [e3];have e4:wrp (n.e + wrp (wrp (((digB n.m).size:Int) - d + ((digB (rq n.m d)).size:Int)) - d)) = n.e + ((lenD n.m - d:Nat):Int):=by
     rw [size_digB,size_digB,g3,wrp_in (n:=(lenD n.m:Int) - d + d) (by omega),wrp_in (n:=(lenD n.m:Int) - d + d - d) (by omega),wrp_in (by omega)]; omega
    show [Value.bool n.s,.string (digB (rq n.m d)),.int .i64 (wrp (n.e + wrp (wrp (((digB n.m).size:Int) - d + ((digB (rq n.m d)).size:Int)) - d)))] = [Value.bool n.s,.string (digB (rq n.m d)),.int .i64 (n.e + ((lenD n.m - d:Nat):Int))]
    rw [e4]
   ·obtain ⟨g3,g4⟩:=g2 hq
    have e2:(digB (rq n.m d)).size = d + 1:=by rw [size_digB,g3]
    haveI:InR (d:Int) (((digB (rq n.m d)).size:Int) + 1):=⟨by omega,by omega⟩
    (repeat (first | (refine iDr ?_; intro _ _) | refine V_run ?_ | refine PV_run ?_ | refine HV_run ?_ | refine iV_ld1 ?_ | refine iV_ldN ?_ | (refine iV_bx ?_; intro _ _ _ _) | (refine iV_al ?_; intro _ _ _ _) | (refine iV_mm ?_; intro _ _ _ _) | (refine iU_st ?_; intro _ _) | refine iHV_1 ?_ | refine iHV_N ?_ | refine iRI_1 ?_ | refine iRI_N ?_ | refine Cond_t ?_ | refine Cond_f ?_ | refine JB ?_ | (refine JC ?_; intro _ _ _ _) | (refine JGB ?_; intro _ _ _ _) | refine K1 ?_ | refine K0 ?_ | refine K2 ?_ | refine K3 ?_ | refine K4 ?_ | (refine CV_pu ?_; intro _ _ _ _) | (refine CV_puz ?_; intro _ _ _ _) | refine fRI_1 ?_ | refine fRI_N ?_ | refine gHV_lkI ?_ | refine gRI_lkI ?_ | refine gV_lkI ?_ | refine fV_ldN ?_ | refine fV_ld1 ?_ | refine fHV_ldN ?_ | refine fHV_ld1 ?_ | refine NilW_some ?_ | refine iCW_1 ?_ | refine iCW_N ?_ | refine Pk_b ?_));refine main _ _ _ ?_ ‹_›;rw [g4,Int.toNat_natCast,take_digB hd (by omega),g3,show d + 1 - d = 1 by omega,Nat.pow_one];have e4:wrp (n.e + wrp (wrp (((digB n.m).size:Int) - d + ((digB (rq n.m d)).size:Int)) - d)) = n.e + ((lenD n.m - d:Nat):Int) + 1:=by
     rw [size_digB,size_digB,g3,wrp_in (n:=(lenD n.m:Int) - d + (d + 1:Nat)) (by omega),wrp_in (n:=(lenD n.m:Int) - d + (d + 1:Nat) - d) (by omega),wrp_in (by omega)]; omega
    show [Value.bool n.s,.string (digB (rq n.m d / 10)),.int .i64 (wrp (n.e + wrp (wrp (((digB n.m).size:Int) - d + ((digB (rq n.m d)).size:Int)) - d)))] = [Value.bool n.s,.string (digB (rq n.m d / 10)),.int .i64 (n.e + ((lenD n.m - d:Nat):Int) + 1)]
    rw [e4]
  clear hK1;(repeat (first | (refine iDr ?_; intro _ _) | refine V_run ?_ | refine PV_run ?_ | refine HV_run ?_ | refine iV_ld1 ?_ | refine iV_ldN ?_ | (refine iV_bx ?_; intro _ _ _ _) | (refine iV_al ?_; intro _ _ _ _) | (refine iV_mm ?_; intro _ _ _ _) | (refine iU_st ?_; intro _ _) | refine iHV_1 ?_ | refine iHV_N ?_ | refine iRI_1 ?_ | refine iRI_N ?_ | refine Cond_t ?_ | refine Cond_f ?_ | refine JB ?_ | (refine JC ?_; intro _ _ _ _) | (refine JGB ?_; intro _ _ _ _) | refine K1 ?_ | refine K0 ?_ | refine K2 ?_ | refine K3 ?_ | refine K4 ?_ | (refine CV_pu ?_; intro _ _ _ _) | (refine CV_puz ?_; intro _ _ _ _) | refine fRI_1 ?_ | refine fRI_N ?_ | refine gHV_lkI ?_ | refine gRI_lkI ?_ | refine gV_lkI ?_ | refine fV_ldN ?_ | refine fV_ld1 ?_ | refine fHV_ldN ?_ | refine fHV_ld1 ?_ | refine NilW_some ?_ | refine iCW_1 ?_ | refine iCW_N ?_ | refine Pk_b ?_));rw [hnd,get_digB hlt];have hrq:rq n.m d = n.m / 10 ^ (lenD n.m - d) + if 5 <= n.m / 10 ^ (lenD n.m - d - 1) % 10 then 1 else 0:=rfl;refine Cond_d (fun h5=>?_) (fun h5=>?_)
  ·have h5:5 <= n.m / 10 ^ (lenD n.m - d - 1) % 10:=by omega
   haveI:SzN (n.m / 10 ^ (lenD n.m - d)):=⟨by have:=lenD_lt hd (q_bounds hd hlt).2; omega⟩
   haveI:SzN 1:=⟨by rw [lenD_small (by omega)]; omega⟩
   refine CV_pu (v:=.string (digB (n.m / 10 ^ (lenD n.m - d) + 1))) (g:=by
    have:=(inferInstance:Pu 130 #[.string (digB (n.m / 10 ^ (lenD n.m - d))),.string (digB 1)] _)
    rw [show digB 1 = (⟨#[49]⟩:ByteArray) from ba_inj (by rw [bytes_digB,digL_lt (by omega)]; rfl)] at this;exact this) ?_
   intro z3 w3 hz3 hS3;have:=m2 _ _ hS3;rw [hrq,if_pos h5] at this;exact this
  ·have h5:¬ 5 <= n.m / 10 ^ (lenD n.m - d - 1) % 10:=by omega
   have:=m2 _ _ hS2;rw [hrq,if_neg h5,Nat.add_zero] at this;exact this
 ·have hle:lenD n.m <= d:=by omega
  exact main _ _ _ (by rw [round_id hle]) hS2)
end
section
open Go Q Go.RowKit
def numE:ResN->NumM
 | .ok n=>n.num
 | .error _=>noNum
def errE:ResN->Int
 | .ok _=>0
 | .error e=>e
abbrev resV (r:ResN):Value:=.tuple #[(numE r).v,.int .i64 (errE r)]
theorem finished_of {z:Z} {w:World} {n:Nm} {d:Nat} (hd:0 < d) (hd2:d <= 1000) (hB:Bn n 140000):Fn1 65 #[n.num.v,.int .i64 d] z w fun _ r=>r = resV (finN n d):=Fn1.intro fun hS=>en65 (by
 unfold vc65;haveI:Pu 132 #[n.num.v,.int .i64 d] (.tuple #[(roundN n d).num.v,.bool (fitsN (roundN n d))]):=⟨fun z w=>rounded_of hd hd2 hB⟩
 (repeat (first | (refine iDr ?_; intro _ _) | refine V_run ?_ | refine PV_run ?_ | refine HV_run ?_ | refine iV_ld1 ?_ | refine iV_ldN ?_ | (refine iV_bx ?_; intro _ _ _ _) | (refine iV_al ?_; intro _ _ _ _) | (refine iV_mm ?_; intro _ _ _ _) | (refine iU_st ?_; intro _ _) | refine iHV_1 ?_ | refine iHV_N ?_ | refine iRI_1 ?_ | refine iRI_N ?_ | refine Cond_t ?_ | refine Cond_f ?_ | refine JB ?_ | (refine JC ?_; intro _ _ _ _) | (refine JGB ?_; intro _ _ _ _) | refine K1 ?_ | refine K0 ?_ | refine K2 ?_ | refine K3 ?_ | refine K4 ?_ | (refine CV_pu ?_; intro _ _ _ _) | (refine CV_puz ?_; intro _ _ _ _) | refine fRI_1 ?_ | refine fRI_N ?_ | refine gHV_lkI ?_ | refine gRI_lkI ?_ | refine gV_lkI ?_ | refine fV_ldN ?_ | refine fV_ld1 ?_ | refine fHV_ldN ?_ | refine fHV_ld1 ?_ | refine NilW_some ?_ | refine iCW_1 ?_ | refine iCW_N ?_ | refine Pk_b ?_));refine Cond_n (fun h=>?_) (fun h=>?_)
 ·(repeat (first | (refine iDr ?_; intro _ _) | refine V_run ?_ | refine PV_run ?_ | refine HV_run ?_ | refine iV_ld1 ?_ | refine iV_ldN ?_ | (refine iV_bx ?_; intro _ _ _ _) | (refine iV_al ?_; intro _ _ _ _) | (refine iV_mm ?_; intro _ _ _ _) | (refine iU_st ?_; intro _ _) | refine iHV_1 ?_ | refine iHV_N ?_ | refine iRI_1 ?_ | refine iRI_N ?_ | refine Cond_t ?_ | refine Cond_f ?_ | refine JB ?_ | (refine JC ?_; intro _ _ _ _) | (refine JGB ?_; intro _ _ _ _) | refine K1 ?_ | refine K0 ?_ | refine K2 ?_ | refine K3 ?_ | refine K4 ?_ | (refine CV_pu ?_; intro _ _ _ _) | (refine CV_puz ?_; intro _ _ _ _) | refine fRI_1 ?_ | refine fRI_N ?_ | refine gHV_lkI ?_ | refine gRI_lkI ?_ | refine gV_lkI ?_ | refine fV_ldN ?_ | refine fV_ld1 ?_ | refine fHV_ldN ?_ | refine fHV_ld1 ?_ | refine NilW_some ?_ | refine iCW_1 ?_ | refine iCW_N ?_ | refine Pk_b ?_))
  exact ⟨_,_,‹_›,by rw [finN,if_neg (by rw [h]; simp)]; rfl⟩
 ·(repeat (first | (refine iDr ?_; intro _ _) | refine V_run ?_ | refine PV_run ?_ | refine HV_run ?_ | refine iV_ld1 ?_ | refine iV_ldN ?_ | (refine iV_bx ?_; intro _ _ _ _) | (refine iV_al ?_; intro _ _ _ _) | (refine iV_mm ?_; intro _ _ _ _) | (refine iU_st ?_; intro _ _) | refine iHV_1 ?_ | refine iHV_N ?_ | refine iRI_1 ?_ | refine iRI_N ?_ | refine Cond_t ?_ | refine Cond_f ?_ | refine JB ?_ | (refine JC ?_; intro _ _ _ _) | (refine JGB ?_; intro _ _ _ _) | refine K1 ?_ | refine K0 ?_ | refine K2 ?_ | refine K3 ?_ | refine K4 ?_ | (refine CV_pu ?_; intro _ _ _ _) | (refine CV_puz ?_; intro _ _ _ _) | refine fRI_1 ?_ | refine fRI_N ?_ | refine gHV_lkI ?_ | refine gRI_lkI ?_ | refine gV_lkI ?_ | refine fV_ldN ?_ | refine fV_ld1 ?_ | refine fHV_ldN ?_ | refine fHV_ld1 ?_ | refine NilW_some ?_ | refine iCW_1 ?_ | refine iCW_N ?_ | refine Pk_b ?_))
  exact ⟨_,_,‹_›,by rw [finN,if_pos h]; rfl⟩)
end
section
open Go Q Go.RowKit
instance {n:Nm}:Pu 71 #[n.num.v] (negN n).num.v:=⟨fun z w=>Fn1.intro fun hS=>en71 (by
 unfold vc71;haveI:Pu 138 #[.bool (!n.num.neg),.string n.num.digits,.int .i64 n.num.exp] (negN n).num.v:=(inferInstance:Pu 138 #[.bool (!n.s),.string (digB n.m),.int .i64 n.e] (mkN (!n.s) n.m n.e).num.v)
 (repeat (first | (refine iDr ?_; intro _ _) | refine V_run ?_ | refine PV_run ?_ | refine HV_run ?_ | refine iV_ld1 ?_ | refine iV_ldN ?_ | (refine iV_bx ?_; intro _ _ _ _) | (refine iV_al ?_; intro _ _ _ _) | (refine iV_mm ?_; intro _ _ _ _) | (refine iU_st ?_; intro _ _) | refine iHV_1 ?_ | refine iHV_N ?_ | refine iRI_1 ?_ | refine iRI_N ?_ | refine Cond_t ?_ | refine Cond_f ?_ | refine JB ?_ | (refine JC ?_; intro _ _ _ _) | (refine JGB ?_; intro _ _ _ _) | refine K1 ?_ | refine K0 ?_ | refine K2 ?_ | refine K3 ?_ | refine K4 ?_ | (refine CV_pu ?_; intro _ _ _ _) | (refine CV_puz ?_; intro _ _ _ _) | refine fRI_1 ?_ | refine fRI_N ?_ | refine gHV_lkI ?_ | refine gRI_lkI ?_ | refine gV_lkI ?_ | refine fV_ldN ?_ | refine fV_ld1 ?_ | refine fHV_ldN ?_ | refine fHV_ld1 ?_ | refine NilW_some ?_ | refine iCW_1 ?_ | refine iCW_N ?_ | refine Pk_b ?_));exact ⟨_,_,‹_›,rfl⟩)⟩
theorem opp_num {n:Nm} (h:n.C):oppM n.num = (negN n).num:=by
 unfold oppM negN
 show (⟨bif !n.s then !decide (digB n.m = b1 48) else false,digB n.m,n.e⟩:NumM) = _
 by_cases h0:n.m = 0
 ·rw [decide_eq_true (d48_dig.2 h0),h h0]
  rfl
 ·rw [decide_eq_false (fun e=>h0 (d48_dig.1 e)),mk_s h0]
  cases n.s <;> rfl
theorem shift_dig (m:Nat) (n:Int):stripB (digB m ++ zerosB n) = digB (m * 10 ^ n.toNat):=by
 have e:bytes (digB m ++ zerosB n) = digL m ++ zerosL n.toNat:=by rw [bytes_add,bytes_digB,zerosB,bytes_mk]
 rw [stripB_val (by rw [e]; exact (digL_dg m).app (dg_rep _)),e,valL_shift,valL_dig]
theorem size_zeros (n:Int):(zerosB n).size = n.toNat:=by rw [zerosB,size_bytes,bytes_mk,List.length_replicate]
theorem num_mk {n:Nm}:n.num.v = (.agg [.bool n.s,.string (digB n.m),.int .i64 n.e].toArray):=rfl
theorem sizes2 (m:Nat) (n:Int):sizes [digB m,zerosB n] = lenD m + n.toNat:=by
 simp only [sizes,List.map_cons,List.map_nil,List.sum_cons,List.sum_nil,size_digB,size_zeros]; omega
theorem added_of {z:Z} {w:World} {a b:Nm} (ha:Bn a 20000) (hb:Bn b 20000):Fn1 87 #[a.num.v,b.num.v] z w fun _ r=>r = (addedN a b).num.v:=Fn1.intro fun hS=>en87 (by
 unfold vc87;have a1:=ha.len;have a2:=ha.lo;have a3:=ha.hi;have b1:=hb.len;have b2:=hb.lo;have b3:=hb.hi;rw [num_mk,num_mk];(repeat (first | (refine iDr ?_; intro _ _) | refine V_run ?_ | refine PV_run ?_ | refine HV_run ?_ | refine iV_ld1 ?_ | refine iV_ldN ?_ | (refine iV_mm ?_; intro _ _ _ _) | (refine iU_st ?_; intro _ _) | refine iHV_1 ?_ | refine iHV_N ?_ | refine iRI_1 ?_ | refine iRI_N ?_ | refine Cond_t ?_ | refine Cond_f ?_ | refine JB ?_ | (refine JC ?_; intro _ _ _ _) | (refine JGB ?_; intro _ _ _ _) | (refine J1 ?_; intro _ _) | (refine J0 ?_; intro _ _) | (refine J2 ?_; intro _ _) | (refine J3 ?_; intro _ _) | (refine J4 ?_; intro _ _) | refine K1 ?_ | refine K0 ?_ | refine K2 ?_ | refine K3 ?_ | refine K4 ?_ | (refine CV_pu ?_; intro _ _ _ _) | (refine CV_puz ?_; intro _ _ _ _) | refine fRI_1 ?_ | refine fRI_N ?_ | refine gHV_lkI ?_ | refine gRI_lkI ?_ | refine gV_lkI ?_ | refine fV_ldN ?_ | refine fV_ld1 ?_ | refine fHV_ldN ?_ | refine fHV_ld1 ?_ | refine NilW_some ?_ | refine iCW_1 ?_ | refine iCW_N ?_ | refine Pk_b ?_));refine iV_bx ?_;intro c1 w1 hc1 hS1;refine iV_bx ?_;intro c2 w2 hc2 hS2;refine iV_al ?_;intro c3 w3 hc3 hS3;clear hS hS1 hS2;have e1:wrp (a.e - min a.e b.e) = a.e - min a.e b.e:=wrp_in (by omega);have e2:wrp (b.e - min a.e b.e) = b.e - min a.e b.e:=wrp_in (by omega);have i1:InI (a.e - min a.e b.e):=⟨by omega⟩
 have i2:InI (b.e - min a.e b.e):=⟨by omega⟩
 haveI:Cnt (a.e - min a.e b.e):=⟨by omega,by omega⟩
 haveI:Cnt (b.e - min a.e b.e):=⟨by omega,by omega⟩
 have u1:=bn_up (E:=min a.e b.e) ha (by omega);have u2:=bn_up (E:=min a.e b.e) hb (by omega);haveI:SzN (upN a (min a.e b.e)):=⟨by omega⟩
 haveI:SzN (upN b (min a.e b.e)):=⟨by omega⟩
 (repeat (first | (refine iDr ?_; intro _ _) | refine V_run ?_ | refine PV_run ?_ | refine HV_run ?_ | refine iV_ld1 ?_ | refine iV_ldN ?_ | (refine iV_bx ?_; intro _ _ _ _) | (refine iV_al ?_; intro _ _ _ _) | (refine iV_mm ?_; intro _ _ _ _) | (refine iU_st ?_; intro _ _) | refine iHV_1 ?_ | refine iHV_N ?_ | refine iRI_1 ?_ | refine iRI_N ?_ | refine Cond_t ?_ | refine Cond_f ?_ | refine JB ?_ | (refine JC ?_; intro _ _ _ _) | (refine JGB ?_; intro _ _ _ _) | refine K1 ?_ | refine K0 ?_ | refine K2 ?_ | refine K3 ?_ | refine K4 ?_ | (refine CV_pu ?_; intro _ _ _ _) | (refine CV_puz ?_; intro _ _ _ _) | refine fRI_1 ?_ | refine fRI_N ?_ | refine gHV_lkI ?_ | refine gRI_lkI ?_ | refine gV_lkI ?_ | refine fV_ldN ?_ | refine fV_ld1 ?_ | refine fHV_ldN ?_ | refine fHV_ld1 ?_ | refine NilW_some ?_ | refine iCW_1 ?_ | refine iCW_N ?_ | refine Pk_b ?_));refine V_strs [digB a.m,zerosB (a.e - min a.e b.e)] rfl rfl (by omega) (by rw [sizes2]; omega) ?_;intro v4 z4 hz4 w4 hS4 hv4;clear hS3;(repeat (first | (refine iDr ?_; intro _ _) | refine V_run ?_ | refine PV_run ?_ | refine HV_run ?_ | refine iV_ld1 ?_ | refine iV_ldN ?_ | (refine iV_bx ?_; intro _ _ _ _) | (refine iV_al ?_; intro _ _ _ _) | (refine iV_mm ?_; intro _ _ _ _) | (refine iU_st ?_; intro _ _) | refine iHV_1 ?_ | refine iHV_N ?_ | refine iRI_1 ?_ | refine iRI_N ?_ | refine Cond_t ?_ | refine Cond_f ?_ | refine JB ?_ | (refine JC ?_; intro _ _ _ _) | (refine JGB ?_; intro _ _ _ _) | refine K1 ?_ | refine K0 ?_ | refine K2 ?_ | refine K3 ?_ | refine K4 ?_ | (refine CV_pu ?_; intro _ _ _ _) | (refine CV_puz ?_; intro _ _ _ _) | refine fRI_1 ?_ | refine fRI_N ?_ | refine gHV_lkI ?_ | refine gRI_lkI ?_ | refine gV_lkI ?_ | refine fV_ldN ?_ | refine fV_ld1 ?_ | refine fHV_ldN ?_ | refine fHV_ld1 ?_ | refine NilW_some ?_ | refine iCW_1 ?_ | refine iCW_N ?_ | refine Pk_b ?_));refine CV_1 (joined_of hv4 (by simp) (by rw [sizes2]; omega)) ?_;rintro z5 w5 v5 hz5 hS5 rfl
 rw [joinB2];clear hS4;(repeat (first | (refine iDr ?_; intro _ _) | refine V_run ?_ | refine PV_run ?_ | refine HV_run ?_ | refine iV_ld1 ?_ | refine iV_ldN ?_ | (refine iV_bx ?_; intro _ _ _ _) | (refine iV_al ?_; intro _ _ _ _) | (refine iV_mm ?_; intro _ _ _ _) | (refine iU_st ?_; intro _ _) | refine iHV_1 ?_ | refine iHV_N ?_ | refine iRI_1 ?_ | refine iRI_N ?_ | refine Cond_t ?_ | refine Cond_f ?_ | refine JB ?_ | (refine JC ?_; intro _ _ _ _) | (refine JGB ?_; intro _ _ _ _) | refine K1 ?_ | refine K0 ?_ | refine K2 ?_ | refine K3 ?_ | refine K4 ?_ | (refine CV_pu ?_; intro _ _ _ _) | (refine CV_puz ?_; intro _ _ _ _) | refine fRI_1 ?_ | refine fRI_N ?_ | refine gHV_lkI ?_ | refine gRI_lkI ?_ | refine gV_lkI ?_ | refine fV_ldN ?_ | refine fV_ld1 ?_ | refine fHV_ldN ?_ | refine fHV_ld1 ?_ | refine NilW_some ?_ | refine iCW_1 ?_ | refine iCW_N ?_ | refine Pk_b ?_));rw [shift_dig,show a.m * 10 ^ (a.e - min a.e b.e).toNat = upN a (min a.e b.e) from rfl];refine V_strs [digB b.m,zerosB (b.e - min a.e b.e)] rfl rfl (by omega) (by rw [sizes2]; omega) ?_;intro v6 z6 hz6 w6 hS6 hv6;clear hS5;(repeat (first | (refine iDr ?_; intro _ _) | refine V_run ?_ | refine PV_run ?_ | refine HV_run ?_ | refine iV_ld1 ?_ | refine iV_ldN ?_ | (refine iV_bx ?_; intro _ _ _ _) | (refine iV_al ?_; intro _ _ _ _) | (refine iV_mm ?_; intro _ _ _ _) | (refine iU_st ?_; intro _ _) | refine iHV_1 ?_ | refine iHV_N ?_ | refine iRI_1 ?_ | refine iRI_N ?_ | refine Cond_t ?_ | refine Cond_f ?_ | refine JB ?_ | (refine JC ?_; intro _ _ _ _) | (refine JGB ?_; intro _ _ _ _) | refine K1 ?_ | refine K0 ?_ | refine K2 ?_ | refine K3 ?_ | refine K4 ?_ | (refine CV_pu ?_; intro _ _ _ _) | (refine CV_puz ?_; intro _ _ _ _) | refine fRI_1 ?_ | refine fRI_N ?_ | refine gHV_lkI ?_ | refine gRI_lkI ?_ | refine gV_lkI ?_ | refine fV_ldN ?_ | refine fV_ld1 ?_ | refine fHV_ldN ?_ | refine fHV_ld1 ?_ | refine NilW_some ?_ | refine iCW_1 ?_ | refine iCW_N ?_ | refine Pk_b ?_));refine CV_1 (joined_of hv6 (by simp) (by rw [sizes2]; omega)) ?_;rintro z7 w7 v7 hz7 hS7 rfl
 rw [joinB2];clear hS6;(repeat (first | (refine iDr ?_; intro _ _) | refine V_run ?_ | refine PV_run ?_ | refine HV_run ?_ | refine iV_ld1 ?_ | refine iV_ldN ?_ | (refine iV_bx ?_; intro _ _ _ _) | (refine iV_al ?_; intro _ _ _ _) | (refine iV_mm ?_; intro _ _ _ _) | (refine iU_st ?_; intro _ _) | refine iHV_1 ?_ | refine iHV_N ?_ | refine iRI_1 ?_ | refine iRI_N ?_ | refine Cond_t ?_ | refine Cond_f ?_ | refine JB ?_ | (refine JC ?_; intro _ _ _ _) | (refine JGB ?_; intro _ _ _ _) | refine K1 ?_ | refine K0 ?_ | refine K2 ?_ | refine K3 ?_ | refine K4 ?_ | (refine CV_pu ?_; intro _ _ _ _) | (refine CV_puz ?_; intro _ _ _ _) | refine fRI_1 ?_ | refine fRI_N ?_ | refine gHV_lkI ?_ | refine gRI_lkI ?_ | refine gV_lkI ?_ | refine fV_ldN ?_ | refine fV_ld1 ?_ | refine fHV_ldN ?_ | refine fHV_ld1 ?_ | refine NilW_some ?_ | refine iCW_1 ?_ | refine iCW_N ?_ | refine Pk_b ?_));rw [shift_dig,show b.m * 10 ^ (b.e - min a.e b.e).toNat = upN b (min a.e b.e) from rfl];refine Cond_b (fun h=>?_) (fun h=>?_)
 ·have h:a.s = b.s:=by simpa using h
  (repeat (first | (refine iDr ?_; intro _ _) | refine V_run ?_ | refine PV_run ?_ | refine HV_run ?_ | refine iV_ld1 ?_ | refine iV_ldN ?_ | (refine iV_bx ?_; intro _ _ _ _) | (refine iV_al ?_; intro _ _ _ _) | (refine iV_mm ?_; intro _ _ _ _) | (refine iU_st ?_; intro _ _) | refine iHV_1 ?_ | refine iHV_N ?_ | refine iRI_1 ?_ | refine iRI_N ?_ | refine Cond_t ?_ | refine Cond_f ?_ | refine JB ?_ | (refine JC ?_; intro _ _ _ _) | (refine JGB ?_; intro _ _ _ _) | refine K1 ?_ | refine K0 ?_ | refine K2 ?_ | refine K3 ?_ | refine K4 ?_ | (refine CV_pu ?_; intro _ _ _ _) | (refine CV_puz ?_; intro _ _ _ _) | refine fRI_1 ?_ | refine fRI_N ?_ | refine gHV_lkI ?_ | refine gRI_lkI ?_ | refine gV_lkI ?_ | refine fV_ldN ?_ | refine fV_ld1 ?_ | refine fHV_ldN ?_ | refine fHV_ld1 ?_ | refine NilW_some ?_ | refine iCW_1 ?_ | refine iCW_N ?_ | refine Pk_b ?_));exact ⟨_,_,‹_›,by rw [addedN,if_pos h]⟩
 ·have h:¬ a.s = b.s:=by simpa using h
  (repeat (first | (refine iDr ?_; intro _ _) | refine V_run ?_ | refine PV_run ?_ | refine HV_run ?_ | refine iV_ld1 ?_ | refine iV_ldN ?_ | (refine iV_bx ?_; intro _ _ _ _) | (refine iV_al ?_; intro _ _ _ _) | (refine iV_mm ?_; intro _ _ _ _) | (refine iU_st ?_; intro _ _) | refine iHV_1 ?_ | refine iHV_N ?_ | refine iRI_1 ?_ | refine iRI_N ?_ | refine Cond_t ?_ | refine Cond_f ?_ | refine JB ?_ | (refine JC ?_; intro _ _ _ _) | (refine JGB ?_; intro _ _ _ _) | refine K1 ?_ | refine K0 ?_ | refine K2 ?_ | refine K3 ?_ | refine K4 ?_ | (refine CV_pu ?_; intro _ _ _ _) | (refine CV_puz ?_; intro _ _ _ _) | refine fRI_1 ?_ | refine fRI_N ?_ | refine gHV_lkI ?_ | refine gRI_lkI ?_ | refine gV_lkI ?_ | refine fV_ldN ?_ | refine fV_ld1 ?_ | refine fHV_ldN ?_ | refine fHV_ld1 ?_ | refine NilW_some ?_ | refine iCW_1 ?_ | refine iCW_N ?_ | refine Pk_b ?_));rw [bytes_digB,bytes_digB];refine Cond_d (fun h2=>?_) (fun h2=>?_)
  ·have h2:upN b (min a.e b.e) <= upN a (min a.e b.e):=by
    apply Classical.byContradiction
    intro hc;have:=ord_lt.1.2 (show upN a (min a.e b.e) < upN b (min a.e b.e) by omega);omega
   haveI:LeN (upN b (min a.e b.e)) (upN a (min a.e b.e)):=⟨h2⟩
   (repeat (first | (refine iDr ?_; intro _ _) | refine V_run ?_ | refine PV_run ?_ | refine HV_run ?_ | refine iV_ld1 ?_ | refine iV_ldN ?_ | (refine iV_bx ?_; intro _ _ _ _) | (refine iV_al ?_; intro _ _ _ _) | (refine iV_mm ?_; intro _ _ _ _) | (refine iU_st ?_; intro _ _) | refine iHV_1 ?_ | refine iHV_N ?_ | refine iRI_1 ?_ | refine iRI_N ?_ | refine Cond_t ?_ | refine Cond_f ?_ | refine JB ?_ | (refine JC ?_; intro _ _ _ _) | (refine JGB ?_; intro _ _ _ _) | refine K1 ?_ | refine K0 ?_ | refine K2 ?_ | refine K3 ?_ | refine K4 ?_ | (refine CV_pu ?_; intro _ _ _ _) | (refine CV_puz ?_; intro _ _ _ _) | refine fRI_1 ?_ | refine fRI_N ?_ | refine gHV_lkI ?_ | refine gRI_lkI ?_ | refine gV_lkI ?_ | refine fV_ldN ?_ | refine fV_ld1 ?_ | refine fHV_ldN ?_ | refine fHV_ld1 ?_ | refine NilW_some ?_ | refine iCW_1 ?_ | refine iCW_N ?_ | refine Pk_b ?_));exact ⟨_,_,‹_›,by rw [addedN,if_neg h,if_pos h2]⟩
  ·have h2:¬ upN b (min a.e b.e) <= upN a (min a.e b.e):=fun hc=>h2 (by
    have:=ord_lt (R:=upN a (min a.e b.e)) (B:=upN b (min a.e b.e));have:=this.1.1;omega)
   haveI:LeN (upN a (min a.e b.e)) (upN b (min a.e b.e)):=⟨by omega⟩
   (repeat (first | (refine iDr ?_; intro _ _) | refine V_run ?_ | refine PV_run ?_ | refine HV_run ?_ | refine iV_ld1 ?_ | refine iV_ldN ?_ | (refine iV_bx ?_; intro _ _ _ _) | (refine iV_al ?_; intro _ _ _ _) | (refine iV_mm ?_; intro _ _ _ _) | (refine iU_st ?_; intro _ _) | refine iHV_1 ?_ | refine iHV_N ?_ | refine iRI_1 ?_ | refine iRI_N ?_ | refine Cond_t ?_ | refine Cond_f ?_ | refine JB ?_ | (refine JC ?_; intro _ _ _ _) | (refine JGB ?_; intro _ _ _ _) | refine K1 ?_ | refine K0 ?_ | refine K2 ?_ | refine K3 ?_ | refine K4 ?_ | (refine CV_pu ?_; intro _ _ _ _) | (refine CV_puz ?_; intro _ _ _ _) | refine fRI_1 ?_ | refine fRI_N ?_ | refine gHV_lkI ?_ | refine gRI_lkI ?_ | refine gV_lkI ?_ | refine fV_ldN ?_ | refine fV_ld1 ?_ | refine fHV_ldN ?_ | refine fHV_ld1 ?_ | refine NilW_some ?_ | refine iCW_1 ?_ | refine iCW_N ?_ | refine Pk_b ?_));exact ⟨_,_,‹_›,by rw [addedN,if_neg h,if_neg h2]⟩)
theorem plus_of {z:Z} {w:World} {a b:Nm} (ha:Bn a 20000) (hb:Bn b 20000):Fn1 66 #[a.num.v,b.num.v] z w fun _ r=>r = (plusN a b).num.v:=Fn1.intro fun hS=>en66 (by
 unfold vc66;haveI:Pu 87 #[a.num.v,b.num.v] (addedN a b).num.v:=⟨fun z w=>added_of ha hb⟩
 have rz:∀ n:Nm,n.C->(zeroM.neg == n.num.neg && (decide (zeroM.digits = n.num.digits) && (decide (zeroM.exp = n.num.exp) && true))) = decide (n.m = 0):=fun n hn=>by
  rw [<- num_zero hn,Bool.eq_iff_iff];have e1:zeroM.neg = false:=rfl;have e2:zeroM.digits = b1 48:=rfl;have e3:zeroM.exp = 0:=rfl;rw [e1,e2,e3];simp only [Bool.and_true,Bool.and_eq_true,beq_iff_eq,decide_eq_true_eq];constructor
  ·rintro ⟨h1,h2,h3⟩; exact ⟨h2.symm,h1.symm,h3.symm⟩
  ·rintro ⟨h1,h2,h3⟩; exact ⟨h2.symm,h1.symm,h3.symm⟩
 (repeat (first | (refine iDr ?_; intro _ _) | refine V_run ?_ | refine PV_run ?_ | refine HV_run ?_ | refine iV_ld1 ?_ | refine iV_ldN ?_ | (refine iV_bx ?_; intro _ _ _ _) | (refine iV_al ?_; intro _ _ _ _) | (refine iV_mm ?_; intro _ _ _ _) | (refine iU_st ?_; intro _ _) | refine iHV_1 ?_ | refine iHV_N ?_ | refine iRI_1 ?_ | refine iRI_N ?_ | refine Cond_t ?_ | refine Cond_f ?_ | refine JB ?_ | (refine JC ?_; intro _ _ _ _) | (refine JGB ?_; intro _ _ _ _) | refine K1 ?_ | refine K0 ?_ | refine K2 ?_ | refine K3 ?_ | refine K4 ?_ | (refine CV_pu ?_; intro _ _ _ _) | (refine CV_puz ?_; intro _ _ _ _) | refine fRI_1 ?_ | refine fRI_N ?_ | refine gHV_lkI ?_ | refine gRI_lkI ?_ | refine gV_lkI ?_ | refine fV_ldN ?_ | refine fV_ld1 ?_ | refine fHV_ldN ?_ | refine fHV_ld1 ?_ | refine NilW_some ?_ | refine iCW_1 ?_ | refine iCW_N ?_ | refine Pk_b ?_));rw [rz a ha.c];refine Cond_d (fun h=>?_) (fun h=>?_)
 ·(repeat (first | (refine iDr ?_; intro _ _) | refine V_run ?_ | refine PV_run ?_ | refine HV_run ?_ | refine iV_ld1 ?_ | refine iV_ldN ?_ | (refine iV_bx ?_; intro _ _ _ _) | (refine iV_al ?_; intro _ _ _ _) | (refine iV_mm ?_; intro _ _ _ _) | (refine iU_st ?_; intro _ _) | refine iHV_1 ?_ | refine iHV_N ?_ | refine iRI_1 ?_ | refine iRI_N ?_ | refine Cond_t ?_ | refine Cond_f ?_ | refine JB ?_ | (refine JC ?_; intro _ _ _ _) | (refine JGB ?_; intro _ _ _ _) | refine K1 ?_ | refine K0 ?_ | refine K2 ?_ | refine K3 ?_ | refine K4 ?_ | (refine CV_pu ?_; intro _ _ _ _) | (refine CV_puz ?_; intro _ _ _ _) | refine fRI_1 ?_ | refine fRI_N ?_ | refine gHV_lkI ?_ | refine gRI_lkI ?_ | refine gV_lkI ?_ | refine fV_ldN ?_ | refine fV_ld1 ?_ | refine fHV_ldN ?_ | refine fHV_ld1 ?_ | refine NilW_some ?_ | refine iCW_1 ?_ | refine iCW_N ?_ | refine Pk_b ?_))
  exact ⟨_,_,‹_›,by rw [plusN,if_pos h]⟩
 ·(repeat (first | (refine iDr ?_; intro _ _) | refine V_run ?_ | refine PV_run ?_ | refine HV_run ?_ | refine iV_ld1 ?_ | refine iV_ldN ?_ | (refine iV_bx ?_; intro _ _ _ _) | (refine iV_al ?_; intro _ _ _ _) | (refine iV_mm ?_; intro _ _ _ _) | (refine iU_st ?_; intro _ _) | refine iHV_1 ?_ | refine iHV_N ?_ | refine iRI_1 ?_ | refine iRI_N ?_ | refine Cond_t ?_ | refine Cond_f ?_ | refine JB ?_ | (refine JC ?_; intro _ _ _ _) | (refine JGB ?_; intro _ _ _ _) | refine K1 ?_ | refine K0 ?_ | refine K2 ?_ | refine K3 ?_ | refine K4 ?_ | (refine CV_pu ?_; intro _ _ _ _) | (refine CV_puz ?_; intro _ _ _ _) | refine fRI_1 ?_ | refine fRI_N ?_ | refine gHV_lkI ?_ | refine gRI_lkI ?_ | refine gV_lkI ?_ | refine fV_ldN ?_ | refine fV_ld1 ?_ | refine fHV_ldN ?_ | refine fHV_ld1 ?_ | refine NilW_some ?_ | refine iCW_1 ?_ | refine iCW_N ?_ | refine Pk_b ?_))
  rw [rz b hb.c];refine Cond_d (fun h2=>?_) (fun h2=>?_)
  ·(repeat (first | (refine iDr ?_; intro _ _) | refine V_run ?_ | refine PV_run ?_ | refine HV_run ?_ | refine iV_ld1 ?_ | refine iV_ldN ?_ | (refine iV_bx ?_; intro _ _ _ _) | (refine iV_al ?_; intro _ _ _ _) | (refine iV_mm ?_; intro _ _ _ _) | (refine iU_st ?_; intro _ _) | refine iHV_1 ?_ | refine iHV_N ?_ | refine iRI_1 ?_ | refine iRI_N ?_ | refine Cond_t ?_ | refine Cond_f ?_ | refine JB ?_ | (refine JC ?_; intro _ _ _ _) | (refine JGB ?_; intro _ _ _ _) | refine K1 ?_ | refine K0 ?_ | refine K2 ?_ | refine K3 ?_ | refine K4 ?_ | (refine CV_pu ?_; intro _ _ _ _) | (refine CV_puz ?_; intro _ _ _ _) | refine fRI_1 ?_ | refine fRI_N ?_ | refine gHV_lkI ?_ | refine gRI_lkI ?_ | refine gV_lkI ?_ | refine fV_ldN ?_ | refine fV_ld1 ?_ | refine fHV_ldN ?_ | refine fHV_ld1 ?_ | refine NilW_some ?_ | refine iCW_1 ?_ | refine iCW_N ?_ | refine Pk_b ?_))
   exact ⟨_,_,‹_›,by rw [plusN,if_neg h,if_pos h2]⟩
  ·(repeat (first | (refine iDr ?_; intro _ _) | refine V_run ?_ | refine PV_run ?_ | refine HV_run ?_ | refine iV_ld1 ?_ | refine iV_ldN ?_ | (refine iV_bx ?_; intro _ _ _ _) | (refine iV_al ?_; intro _ _ _ _) | (refine iV_mm ?_; intro _ _ _ _) | (refine iU_st ?_; intro _ _) | refine iHV_1 ?_ | refine iHV_N ?_ | refine iRI_1 ?_ | refine iRI_N ?_ | refine Cond_t ?_ | refine Cond_f ?_ | refine JB ?_ | (refine JC ?_; intro _ _ _ _) | (refine JGB ?_; intro _ _ _ _) | refine K1 ?_ | refine K0 ?_ | refine K2 ?_ | refine K3 ?_ | refine K4 ?_ | (refine CV_pu ?_; intro _ _ _ _) | (refine CV_puz ?_; intro _ _ _ _) | refine fRI_1 ?_ | refine fRI_N ?_ | refine gHV_lkI ?_ | refine gRI_lkI ?_ | refine gV_lkI ?_ | refine fV_ldN ?_ | refine fV_ld1 ?_ | refine fHV_ldN ?_ | refine fHV_ld1 ?_ | refine NilW_some ?_ | refine iCW_1 ?_ | refine iCW_N ?_ | refine Pk_b ?_))
   exact ⟨_,_,‹_›,by rw [plusN,if_neg h,if_neg h2]⟩)
theorem multiplied_of {z:Z} {w:World} {a b:Nm} (ha:Bn a 150000) (hb:Bn b 150000) (la:lenD a.m <= 30000) (lb:lenD b.m <= 30000):Fn1 73 #[a.num.v,b.num.v] z w fun _ r=>r = (mulN a b).num.v:=Fn1.intro fun hS=>en73 (by
 unfold vc73;have a2:=ha.lo;have a3:=ha.hi;have b2:=hb.lo;have b3:=hb.hi;haveI:SzN a.m:=⟨by omega⟩
 haveI:SzN b.m:=⟨by omega⟩
 haveI:InI (a.e + b.e):=⟨by omega⟩
 rw [num_mk,num_mk];(repeat (first | (refine iDr ?_; intro _ _) | refine V_run ?_ | refine PV_run ?_ | refine HV_run ?_ | refine iV_ld1 ?_ | refine iV_ldN ?_ | (refine iV_bx ?_; intro _ _ _ _) | (refine iV_al ?_; intro _ _ _ _) | (refine iV_mm ?_; intro _ _ _ _) | (refine iU_st ?_; intro _ _) | refine iHV_1 ?_ | refine iHV_N ?_ | refine iRI_1 ?_ | refine iRI_N ?_ | refine Cond_t ?_ | refine Cond_f ?_ | refine JB ?_ | (refine JC ?_; intro _ _ _ _) | (refine JGB ?_; intro _ _ _ _) | refine K1 ?_ | refine K0 ?_ | refine K2 ?_ | refine K3 ?_ | refine K4 ?_ | (refine CV_pu ?_; intro _ _ _ _) | (refine CV_puz ?_; intro _ _ _ _) | refine fRI_1 ?_ | refine fRI_N ?_ | refine gHV_lkI ?_ | refine gRI_lkI ?_ | refine gV_lkI ?_ | refine fV_ldN ?_ | refine fV_ld1 ?_ | refine fHV_ldN ?_ | refine fHV_ld1 ?_ | refine NilW_some ?_ | refine iCW_1 ?_ | refine iCW_N ?_ | refine Pk_b ?_));exact ⟨_,_,‹_›,rfl⟩)
end
section
open Go Q Go.RowKit
def El.num:El NumM where
 size:=3
 rel:=fun _ cs x=>cs = x.cells
 mono:=fun h _=>h
 len:=fun h=>by rw [h]; rfl
 pos:=by decide
def askL (l:List NumM) (d:Int):Except Int (List Nm):=
 if l.all (fun x=>(nmOf x).isSome) = true then
  if wideD d = true then
   if (l.filterMap nmOf).all (fun n=>fitsN (roundN n d.toNat)) = true then .ok ((l.filterMap nmOf).map fun n=>roundN n d.toNat) else .error 8
  else .error 1
 else .error 1
theorem all_nums:∀ {l:List NumM},(∀ x ∈ l,(nmOf x).isSome = true)->∃ ns:List Nm,l = ns.map Nm.num/\(∀ n ∈ ns,OkN n)/\l.filterMap nmOf = ns
 | [],_=>⟨[],rfl,(fun _ h=>by cases h),rfl⟩
 | x :: l,h=>by
  obtain ⟨ns,h1,h2,h3⟩:=all_nums (l:=l) fun y hy=>h y (List.mem_cons_of_mem _ hy)
  obtain ⟨n,hn⟩:=Option.isSome_iff_exists.1 (h x List.mem_cons_self);obtain ⟨h4,h5⟩:=nmOf_some hn;refine ⟨n :: ns,by rw [List.map_cons,<- h1,<- h4],fun m hm=>?_,by rw [List.filterMap_cons,hn,h3]⟩
  rcases List.mem_cons.1 hm with rfl | hm
  ·exact h5
  ·exact h2 m hm
theorem asked_of {z:Z} {w:World} {v:Value} {l:List NumM} {d:Int} (hv:SlR El.num z v l) (hl:l.length <= 1000) (hs:∀ x ∈ l,x.digits.size <= big) :
  Fn1 64 #[.int .i64 d,v] z w fun z' r=>(∃ e,askL l d = .error e/\r = .tuple #[.slice none 0 0,.int .i64 e]/\e ≠ 0) \/ (∃ ns v',askL l d = .ok ns/\r = .tuple #[v',.int .i64 0]/\SlR El.num z' v' (ns.map Nm.num)):=Fn1.intro fun hS=>en64 (by
 unfold vc64;generalize hRR:(fun (v:Value) (w':World)=>∃ z' L',Res w z [] w' z' L'/\((∃ e,askL l d = .error e/\v = .tuple #[.slice none 0 0,.int .i64 e]/\e ≠ 0) \/ (∃ ns v',askL l d = .ok ns/\v = .tuple #[v',.int .i64 0]/\SlR El.num z' v' (ns.map Nm.num)))) = RR;have hE:∀ z' w' L' e,askL l d = .error e->e ≠ 0->Res w z [] w' z' L'->RR (.tuple #[.slice none 0 0,.int .i64 e]) w':=fun z' w' L' e h1 h2 k=>by rw [<- hRR]; exact ⟨_,_,k,.inl ⟨e,h1,rfl,h2⟩⟩
 have hO:∀ z' w' L' ns v',askL l d = .ok ns->SlR El.num z' v' (ns.map Nm.num)->Res w z [] w' z' L'->RR (.tuple #[v',.int .i64 0]) w':=fun z' w' L' ns v' h1 h2 k=>by rw [<- hRR]; exact ⟨_,_,k,.inr ⟨ns,v',h1,rfl,h2⟩⟩
 clear hRR;obtain ⟨hb,a,cap,rfl,hc,hel⟩:=hv.form;refine V_run ?_;refine LoopG1 (fun (k:Nat) x w'=>x = .int .i64 k/\k <= l.length/\(∀ x ∈ l.take k,(nmOf x).isSome = true)/\∃ z',Le z z'/\Res w z [] w' z' []) (fun k=>l.length - k) 0 ⟨rfl,Nat.zero_le _,by simp,z,Le.refl _,hS⟩ ?_;rintro I M k x w2 m ⟨rfl,hk,hall,z2,hz2,hS2⟩ back
 clear hS;refine V_run ?_;refine Cond_d (fun h=>?_) (fun h=>?_)
 ·have hlt:k < l.length:=by omega
  have hg:l[k]? = some l[k]:=List.getElem?_eq_getElem hlt;have hm:=List.getElem_mem hlt;have htk:l.take (k + 1) = l.take k ++ [l[k]]:=List.take_succ_eq_append_getElem hlt;obtain ⟨b,off,cs,rfl,rfl,hat⟩:=hel k _ hg;generalize l[k] = x at *;haveI:InR (k:Int) (l.length:Nat):=⟨by omega,by omega⟩
  haveI:Sm x.digits:=⟨hs x hm⟩
  refine V_run ?_;rw [Int.toNat_natCast];refine zV_ldN (hat.mono hz2) rfl ?_;haveI:InI ((k:Int) + 1):=⟨by omega⟩
  (repeat (first | (refine iDr ?_; intro _ _) | refine V_run ?_ | refine PV_run ?_ | refine HV_run ?_ | refine iV_ld1 ?_ | refine iV_ldN ?_ | (refine iV_bx ?_; intro _ _ _ _) | (refine iV_al ?_; intro _ _ _ _) | (refine iV_mm ?_; intro _ _ _ _) | (refine iU_st ?_; intro _ _) | refine iHV_1 ?_ | refine iHV_N ?_ | refine iRI_1 ?_ | refine iRI_N ?_ | refine Cond_t ?_ | refine Cond_f ?_ | refine JB ?_ | (refine JC ?_; intro _ _ _ _) | (refine JGB ?_; intro _ _ _ _) | refine K1 ?_ | refine K0 ?_ | refine K2 ?_ | refine K3 ?_ | refine K4 ?_ | (refine CV_pu ?_; intro _ _ _ _) | (refine CV_puz ?_; intro _ _ _ _) | refine fRI_1 ?_ | refine fRI_N ?_ | refine gHV_lkI ?_ | refine gRI_lkI ?_ | refine gV_lkI ?_ | refine fV_ldN ?_ | refine fV_ld1 ?_ | refine fHV_ldN ?_ | refine fHV_ld1 ?_ | refine NilW_some ?_ | refine iCW_1 ?_ | refine iCW_N ?_ | refine Pk_b ?_));rename_i hS3;refine Cond_n (fun h2=>?_) (fun h2=>?_)
  ·refine hE _ _ _ 1 ?_ (by decide) hS3
   rw [askL,if_neg];intro hc;have:=List.all_eq_true.1 hc x hm;rw [h2] at this
   cases this
  ·refine V_run ?_
   refine back (k + 1) _ _ ⟨by simp,by omega,?_,_,?_,hS3.drop⟩ (by omega)
   ·intro y hy
    rw [htk] at hy
    rcases List.mem_append.1 hy with hy | hy
    ·exact hall y hy
    ·rw [List.mem_singleton.1 hy]; exact h2
   ·exact hS3.zle
 ·have hkl:k = l.length:=by omega
  subst hkl;rw [List.take_length] at hall;clear back;obtain ⟨ns,rfl,hok,hfm⟩:=all_nums hall;have hA:askL (ns.map Nm.num) d = if wideD d = true then if ns.all (fun n=>fitsN (roundN n d.toNat)) = true then .ok (ns.map fun n=>roundN n d.toNat) else .error 8 else .error 1:=by
   rw [askL,if_pos (List.all_eq_true.2 hall),hfm]
  (repeat (first | (refine iDr ?_; intro _ _) | refine V_run ?_ | refine PV_run ?_ | refine HV_run ?_ | refine iV_ld1 ?_ | refine iV_ldN ?_ | (refine iV_bx ?_; intro _ _ _ _) | (refine iV_al ?_; intro _ _ _ _) | (refine iV_mm ?_; intro _ _ _ _) | (refine iU_st ?_; intro _ _) | refine iHV_1 ?_ | refine iHV_N ?_ | refine iRI_1 ?_ | refine iRI_N ?_ | refine Cond_t ?_ | refine Cond_f ?_ | refine JB ?_ | (refine JC ?_; intro _ _ _ _) | (refine JGB ?_; intro _ _ _ _) | refine K1 ?_ | refine K0 ?_ | refine K2 ?_ | refine K3 ?_ | refine K4 ?_ | (refine CV_pu ?_; intro _ _ _ _) | (refine CV_puz ?_; intro _ _ _ _) | refine fRI_1 ?_ | refine fRI_N ?_ | refine gHV_lkI ?_ | refine gRI_lkI ?_ | refine gV_lkI ?_ | refine fV_ldN ?_ | refine fV_ld1 ?_ | refine fHV_ldN ?_ | refine fHV_ld1 ?_ | refine NilW_some ?_ | refine iCW_1 ?_ | refine iCW_N ?_ | refine Pk_b ?_));have hwd:(bif decide (d < 1) then true else decide (d > 40)) = !wideD d:=by
   unfold wideD
   by_cases h1:d < 1
   ·simp [h1]
   ·by_cases h2:d > 40
    ·simp [h1,h2]
    ·simp [h1,h2]; omega
  rw [hwd];refine Cond_n (fun hw=>?_) (fun hw=>?_)
  ·exact hE _ _ _ 1 (by rw [hA,if_neg (by rw [hw]; simp)]) (by decide) hS2
  ·rw [if_pos hw] at hA
   obtain ⟨hd1,hd2⟩:1 <= d/\d <= 40:=by unfold wideD at hw; simpa using hw
   obtain ⟨dn,hdn⟩:∃ dn:Nat,d = (dn:Int):=⟨d.toNat,by omega⟩
   subst hdn;rw [Int.toNat_natCast] at hA;have hlen:(ns.map Nm.num).length = ns.length:=List.length_map _;refine V_run ?_;refine LoopG2 (fun (k:Nat) x y w'=>y = .int .i64 k/\k <= ns.length/\(∀ n ∈ ns.take k,fitsN (roundN n dn) = true)/\∃ B' z',Le z z'/\OwnSl 23 3 B' x ((ns.take k).map fun n=>roundN n dn).length (((ns.take k).map fun n=>roundN n dn).flatMap fun n=>n.num.cells)/\Res w z [] w' z' B') (fun k=>ns.length - k) 0 ⟨rfl,Nat.zero_le _,by simp,[],z2,hz2,by simpa using OwnSl.nil,hS2⟩ ?_;clear hS2;rintro I1 M1 k x y w3 m1 ⟨rfl,hk1,hfit,B3,z3,hz3,ho,hS3⟩ back1
   refine V_run ?_;refine Cond_d (fun h5=>?_) (fun h5=>?_)
   ·have hlt:k < ns.length:=by rw [hlen] at h5; omega
    have hg:(ns.map Nm.num)[k]? = some ns[k].num:=by rw [List.getElem?_map,List.getElem?_eq_getElem hlt]; rfl
    have hm:=List.getElem_mem hlt;have htk:ns.take (k + 1) = ns.take k ++ [ns[k]]:=List.take_succ_eq_append_getElem hlt;obtain ⟨b,off,cs,rfl,rfl,hat⟩:=hel k _ hg;generalize ns[k] = n at *;have hokn:=hok n hm;haveI:InR (k:Int) ((ns.map Nm.num).length:Nat):=⟨by omega,by omega⟩
    refine V_run ?_;rw [Int.toNat_natCast];refine zV_ldN (hat.mono hz3) rfl ?_;haveI:Pu 132 #[n.num.v,.int .i64 (dn:Int)] (.tuple #[(roundN n dn).num.v,.bool (fitsN (roundN n dn))]):=⟨fun z w=>rounded_of (by omega) (by omega) ((bn_ok hokn).mono (by omega))⟩
    haveI:InI ((k:Int) + 1):=⟨by omega⟩
    (repeat (first | (refine iDr ?_; intro _ _) | refine V_run ?_ | refine PV_run ?_ | refine HV_run ?_ | refine iV_ld1 ?_ | refine iV_ldN ?_ | (refine iV_bx ?_; intro _ _ _ _) | (refine iV_al ?_; intro _ _ _ _) | (refine iV_mm ?_; intro _ _ _ _) | (refine iU_st ?_; intro _ _) | refine iHV_1 ?_ | refine iHV_N ?_ | refine iRI_1 ?_ | refine iRI_N ?_ | refine Cond_t ?_ | refine Cond_f ?_ | refine JB ?_ | (refine JC ?_; intro _ _ _ _) | (refine JGB ?_; intro _ _ _ _) | refine K1 ?_ | refine K0 ?_ | refine K2 ?_ | refine K3 ?_ | refine K4 ?_ | (refine CV_pu ?_; intro _ _ _ _) | (refine CV_puz ?_; intro _ _ _ _) | refine fRI_1 ?_ | refine fRI_N ?_ | refine gHV_lkI ?_ | refine gRI_lkI ?_ | refine gV_lkI ?_ | refine fV_ldN ?_ | refine fV_ld1 ?_ | refine fHV_ldN ?_ | refine fHV_ld1 ?_ | refine NilW_some ?_ | refine iCW_1 ?_ | refine iCW_N ?_ | refine Pk_b ?_));rename_i hS4;refine Cond_n (fun h2=>?_) (fun h2=>?_)
    ·refine hE _ _ _ 8 ?_ (by decide) hS4
     rw [hA,if_neg];intro hc;have:=List.all_eq_true.1 hc n hm;rw [h2] at this
     cases this
    ·(repeat (first | (refine iDr ?_; intro _ _) | refine V_run ?_ | refine PV_run ?_ | refine HV_run ?_ | refine iV_ld1 ?_ | refine iV_ldN ?_ | (refine iV_bx ?_; intro _ _ _ _) | (refine iV_al ?_; intro _ _ _ _) | (refine iV_mm ?_; intro _ _ _ _) | (refine iU_st ?_; intro _ _) | refine iHV_1 ?_ | refine iHV_N ?_ | refine iRI_1 ?_ | refine iRI_N ?_ | refine Cond_t ?_ | refine Cond_f ?_ | refine JB ?_ | (refine JC ?_; intro _ _ _ _) | (refine JGB ?_; intro _ _ _ _) | refine K1 ?_ | refine K0 ?_ | refine K2 ?_ | refine K3 ?_ | refine K4 ?_ | (refine CV_pu ?_; intro _ _ _ _) | (refine CV_puz ?_; intro _ _ _ _) | refine fRI_1 ?_ | refine fRI_N ?_ | refine gHV_lkI ?_ | refine gRI_lkI ?_ | refine gV_lkI ?_ | refine fV_ldN ?_ | refine fV_ld1 ?_ | refine fHV_ldN ?_ | refine fHV_ld1 ?_ | refine NilW_some ?_ | refine iCW_1 ?_ | refine iCW_N ?_ | refine Pk_b ?_))
     have hkk:((ns.take k).map fun n=>roundN n dn).length = k:=by rw [List.length_map,List.length_take]; omega
     obtain ⟨a',cap',rfl,hcap'⟩:=ho.form;refine V_push hS4 ho (by simp only [room]; omega) (by simp only [room]; omega) (by decide) ?_;intro B5 v5 w5 ho5 hS5;clear hS4 hS3;refine V_run ?_;refine back1 (k + 1) _ _ _ ⟨by simp,by omega,?_,B5,_,hS5.zle,?_,hS5.sublist (by simp)⟩ (by omega)
     ·intro y hy
      rw [htk] at hy
      rcases List.mem_append.1 hy with hy | hy
      ·exact hfit y hy
      ·rw [List.mem_singleton.1 hy]; exact h2
     ·rw [htk,List.map_append,List.flatMap_append,List.length_append]
      exact ho5
   ·have hkl:k = ns.length:=by omega
    subst hkl;rw [List.take_length] at hfit ho;obtain ⟨z6,hz6,hS6,hv6⟩:=Res.freezeSl (E:=El.num) (L:=[]) (xs:=(ns.map fun n=>roundN n dn).map Nm.num) (f:=fun x=>x.cells) (by simpa using hS3) (by rw [List.length_map,List.flatMap_map]; exact ho) (by rw [List.length_map,List.length_map]; simp only [big]; omega) (fun _=>rfl) (fun _ _ _=>rfl);exact hO _ _ _ _ _ (by rw [hA,if_pos (List.all_eq_true.2 hfit)]) hv6 hS6)
theorem ask1 (x:NumM) (d:Int):askL [x] d = bindE (opd1 x d) fun a=>.ok [a]:=by
 unfold askL opd1
 cases hx:nmOf x with
 | none=>simp [hx,bindE]
 | some n=>
  simp only [List.all_cons,List.all_nil,hx,Option.isSome_some,Bool.and_true,if_true,List.filterMap_cons,List.filterMap_nil,List.map_cons,List.map_nil]
  by_cases hw:wideD d = true
  ·simp only [hw,if_true,finN]
   by_cases hf:fitsN (roundN n d.toNat) = true
   ·simp only [hf,if_true]; rfl
   ·simp only [hf,if_false]; rfl
  ·simp only [hw,if_false]; rfl
theorem ask2 (x y:NumM) (d:Int):askL [x,y] d = bindE (opd2 x y d) fun p=>.ok [p.1,p.2]:=by
 unfold askL opd2
 cases hx:nmOf x with
 | none=>simp [hx,bindE]
 | some n=>
  cases hy:nmOf y with
  | none=>simp [hx,hy,bindE]
  | some k=>
   simp only [List.all_cons,List.all_nil,hx,hy,Option.isSome_some,Bool.and_true,Bool.true_and,if_true,List.filterMap_cons,List.filterMap_nil,List.map_cons,List.map_nil]
   by_cases hw:wideD d = true
   ·simp only [hw,if_true,finN]
    cases hf:fitsN (roundN n d.toNat) <;> cases hg:fitsN (roundN k d.toNat) <;> simp [bindE]
   ·simp only [hw,if_false]; rfl
section
variable {w0 w:World} {z0 z:Z} {B0 L:Bl} {K:Value->World->Prop}
theorem V_nums {k n:Nat} {parts:List (Nat × Value)} {out:List Value} [hS:Res w0 z0 B0 w z L] [gf:FillS 3 0 parts out n] (l:List NumM) (ho:out = l.flatMap fun x=>x.cells) (hn:k = n) (hll:l.length = n) (hsz:n <= 1000)
  (hk:∀ v z',Le z z'->∀ w',Res w0 z0 B0 w' z' L->SlR El.num z' v l->K v w'):V (bs 64 k parts.toArray) w K:=by
 refine V_bs hn (by omega) ?_;intro b w1 hb hS1;have hlen:out.length = n * 3:=by obtain ⟨h1,h2,_⟩:=gf.h; omega
 obtain ⟨z2,hz2,hS2,hv⟩:=Res.freezeSl (E:=El.num) (e:=23) (B:=[(b,_)]) (L:=L) (v:=.slice (some ⟨b,0,none⟩) l.length n) (xs:=l) (f:=fun x=>x.cells) hS1 ⟨by rw [<- ho,hlen,hll]; rfl,.inr ⟨b,n,[],by rw [<- ho,List.append_nil],rfl,by omega,by simp only [maxLen]; omega,by rw [<- ho,List.append_nil,hlen]; rfl⟩⟩ (by simp only [big]; omega) (fun _=>rfl) (fun z x hx=>rfl);rw [hll] at hv;exact hk _ _ hz2 _ hS2 hv
theorem V_asked2 {x y:NumM} {d:Int} [hS:Res w0 z0 B0 w z L] [hx:Sm x.digits] [hy:Sm y.digits]
  (he:∀ e z' w',opd2 x y d = .error e->e ≠ 0->Le z z'->Res w0 z0 B0 w' z' L->K (.tuple #[.slice none 0 0,.int .i64 e]) w')
  (ho:∀ a b bb off cap z' w',opd2 x y d = .ok (a,b)->Le z z'->Res w0 z0 B0 w' z' L->At z' bb off a.num.cells->At z' bb (off + 3) b.num.cells->K (.tuple #[.slice (some ⟨bb,off,none⟩) 2 cap,.int .i64 0]) w') :
  V (bs 64 2 #[(0,x.v),(1,y.v)]) w fun t w=>CV (.func (.func 64) #[] #[]) #[.int .i64 d,t] w K:=by
 refine V_nums (parts:=[(0,x.v),(1,y.v)]) [x,y] rfl rfl rfl (by omega) ?_;intro v z1 hz1 w1 hS1 hv;refine CV_1 (asked_of (d:=d) hv (by simp) (by
  intro u hu
  rcases List.mem_cons.1 hu with rfl | hu
  ·exact hx.h
  ·rw [List.mem_singleton.1 hu]; exact hy.h)) ?_
 rintro z2 w2 r hz2 hS2 (⟨e,h1,rfl,h2⟩ | ⟨ns,v',h1,rfl,hv'⟩)
 ·rw [ask2] at h1
  cases h3:opd2 x y d with
  | error e'=>rw [h3] at h1; cases h1; exact he _ _ _ h3 h2 (hz1.trans hz2) hS2
  | ok p=>rw [h3] at h1; cases h1
 ·rw [ask2] at h1
  cases h3:opd2 x y d with
  | error e'=>rw [h3] at h1; cases h1
  | ok p=>
   rw [h3] at h1
   cases h1
   obtain ⟨_,a,cap,rfl,_,hel⟩:=hv'.form;obtain ⟨b,off,cs,rfl,rfl,hat⟩:=hel 0 _ rfl;obtain ⟨b',off',cs',he',rfl,hat'⟩:=hel 1 _ rfl
   cases he'
   exact ho p.1 p.2 b off cap _ _ h3 (hz1.trans hz2) hS2 (by simpa using hat) (by simpa [El.num] using hat')
theorem V_asked1 {x:NumM} {d:Int} [hS:Res w0 z0 B0 w z L] [hx:Sm x.digits]
  (he:∀ e z' w',opd1 x d = .error e->e ≠ 0->Le z z'->Res w0 z0 B0 w' z' L->K (.tuple #[.slice none 0 0,.int .i64 e]) w')
  (ho:∀ a bb off cap z' w',opd1 x d = .ok a->Le z z'->Res w0 z0 B0 w' z' L->At z' bb off a.num.cells->K (.tuple #[.slice (some ⟨bb,off,none⟩) 1 cap,.int .i64 0]) w') :
  V (bs 64 1 #[(0,x.v)]) w fun t w=>CV (.func (.func 64) #[] #[]) #[.int .i64 d,t] w K:=by
 refine V_nums (parts:=[(0,x.v)]) [x] rfl rfl rfl (by omega) ?_;intro v z1 hz1 w1 hS1 hv;refine CV_1 (asked_of (d:=d) hv (by simp) (by
  intro u hu;rw [List.mem_singleton.1 hu]; exact hx.h)) ?_
 rintro z2 w2 r hz2 hS2 (⟨e,h1,rfl,h2⟩ | ⟨ns,v',h1,rfl,hv'⟩)
 ·rw [ask1] at h1
  cases h3:opd1 x d with
  | error e'=>rw [h3] at h1; cases h1; exact he _ _ _ h3 h2 (hz1.trans hz2) hS2
  | ok p=>rw [h3] at h1; cases h1
 ·rw [ask1] at h1
  cases h3:opd1 x d with
  | error e'=>rw [h3] at h1; cases h1
  | ok p=>
   rw [h3] at h1
   cases h1
   obtain ⟨_,a,cap,rfl,_,hel⟩:=hv'.form;obtain ⟨b,off,cs,rfl,rfl,hat⟩:=hel 0 _ rfl;exact ho p b off cap _ _ h3 (hz1.trans hz2) hS2 (by simpa using hat)
end
end
section
open Go Q Go.RowKit
theorem opd2_k {x y:NumM} {d:Int} {a b:Nm} (h:opd2 x y d = .ok (a,b)):∃ k:Nat,d = (k:Int)/\0 < k/\k <= 40/\OkN a/\OkN b/\lenD a.m <= k/\lenD b.m <= k:=by
 obtain ⟨n,m,h1,h2,h3,rfl,rfl,h4,h5⟩:=opd2_some h;obtain ⟨g1,g2⟩:=wide_pos h3;refine ⟨d.toNat,?_,g1,g2,ok_round g1 (nmOf_some h1).2 h4,ok_round g1 (nmOf_some h2).2 h5,round_len g1,round_len g1⟩;omega
theorem opd1_k {x:NumM} {d:Int} {a:Nm} (h:opd1 x d = .ok a):∃ k:Nat,d = (k:Int)/\0 < k/\k <= 40/\OkN a/\lenD a.m <= k:=by
 unfold opd1 at h
 cases h1:nmOf x with
 | none=>rw [h1] at h; cases h
 | some n=>
  rw [h1] at h;simp only at h
  split at h
  ·rename_i hw
   obtain ⟨g1,g2⟩:=wide_pos hw;unfold finN at h
   split at h
   ·rename_i hf
    cases h
    refine ⟨d.toNat,by omega,g1,g2,ok_round g1 (nmOf_some h1).2 hf,round_len g1⟩
   ·cases h
  ·cases h
instance {x y:NumM} {d:Int} [hx:Sm x.digits] [hy:Sm y.digits]:Pu 19 #[x.v,y.v,.int .i64 d] (resV (addR x y d)):=⟨fun z w=>Fn1.intro fun hS=>en19 (by
 unfold vc19;generalize hRR:(fun (v:Value) (w':World)=>∃ z' L',Res w z [] w' z' L'/\v = resV (addR x y d)) = RR;have hR:∀ z' w' L' r,Res w z [] w' z' L'->addR x y d = r->RR (resV r) w':=fun z' w' L' r k e=>by rw [<- hRR]; exact ⟨_,_,k,by rw [e]⟩
 clear hRR;(repeat (first | (refine iDr ?_; intro _ _) | refine V_run ?_ | refine PV_run ?_ | refine HV_run ?_ | refine iV_ld1 ?_ | refine iV_ldN ?_ | (refine iV_bx ?_; intro _ _ _ _) | (refine iV_al ?_; intro _ _ _ _) | (refine iV_mm ?_; intro _ _ _ _) | (refine iU_st ?_; intro _ _) | refine iHV_1 ?_ | refine iHV_N ?_ | refine iRI_1 ?_ | refine iRI_N ?_ | refine Cond_t ?_ | refine Cond_f ?_ | refine JB ?_ | (refine JC ?_; intro _ _ _ _) | (refine JGB ?_; intro _ _ _ _) | refine K1 ?_ | refine K0 ?_ | refine K2 ?_ | refine K3 ?_ | refine K4 ?_ | (refine CV_pu ?_; intro _ _ _ _) | (refine CV_puz ?_; intro _ _ _ _) | refine fRI_1 ?_ | refine fRI_N ?_ | refine gHV_lkI ?_ | refine gRI_lkI ?_ | refine gV_lkI ?_ | refine fV_ldN ?_ | refine fV_ld1 ?_ | refine fHV_ldN ?_ | refine fHV_ld1 ?_ | refine NilW_some ?_ | refine iCW_1 ?_ | refine iCW_N ?_ | refine Pk_b ?_));refine V_asked2 (d:=d) ?_ ?_
 ·intro e z1 w1 h1 h2 hz1 hS1
  (repeat (first | (refine iDr ?_; intro _ _) | refine V_run ?_ | refine PV_run ?_ | refine HV_run ?_ | refine iV_ld1 ?_ | refine iV_ldN ?_ | (refine iV_bx ?_; intro _ _ _ _) | (refine iV_al ?_; intro _ _ _ _) | (refine iV_mm ?_; intro _ _ _ _) | (refine iU_st ?_; intro _ _) | refine iHV_1 ?_ | refine iHV_N ?_ | refine iRI_1 ?_ | refine iRI_N ?_ | refine Cond_t ?_ | refine Cond_f ?_ | refine JB ?_ | (refine JC ?_; intro _ _ _ _) | (refine JGB ?_; intro _ _ _ _) | refine K1 ?_ | refine K0 ?_ | refine K2 ?_ | refine K3 ?_ | refine K4 ?_ | (refine CV_pu ?_; intro _ _ _ _) | (refine CV_puz ?_; intro _ _ _ _) | refine fRI_1 ?_ | refine fRI_N ?_ | refine gHV_lkI ?_ | refine gRI_lkI ?_ | refine gV_lkI ?_ | refine fV_ldN ?_ | refine fV_ld1 ?_ | refine fHV_ldN ?_ | refine fHV_ld1 ?_ | refine NilW_some ?_ | refine iCW_1 ?_ | refine iCW_N ?_ | refine Pk_b ?_));rw [decide_eq_false h2];refine Cond_t ?_;(repeat (first | (refine iDr ?_; intro _ _) | refine V_run ?_ | refine PV_run ?_ | refine HV_run ?_ | refine iV_ld1 ?_ | refine iV_ldN ?_ | (refine iV_bx ?_; intro _ _ _ _) | (refine iV_al ?_; intro _ _ _ _) | (refine iV_mm ?_; intro _ _ _ _) | (refine iU_st ?_; intro _ _) | refine iHV_1 ?_ | refine iHV_N ?_ | refine iRI_1 ?_ | refine iRI_N ?_ | refine Cond_t ?_ | refine Cond_f ?_ | refine JB ?_ | (refine JC ?_; intro _ _ _ _) | (refine JGB ?_; intro _ _ _ _) | refine K1 ?_ | refine K0 ?_ | refine K2 ?_ | refine K3 ?_ | refine K4 ?_ | (refine CV_pu ?_; intro _ _ _ _) | (refine CV_puz ?_; intro _ _ _ _) | refine fRI_1 ?_ | refine fRI_N ?_ | refine gHV_lkI ?_ | refine gRI_lkI ?_ | refine gV_lkI ?_ | refine fV_ldN ?_ | refine fV_ld1 ?_ | refine fHV_ldN ?_ | refine fHV_ld1 ?_ | refine NilW_some ?_ | refine iCW_1 ?_ | refine iCW_N ?_ | refine Pk_b ?_));exact hR _ _ _ (.error e) ‹_› (by rw [addR,h1]; rfl)
 ·intro a b bb off cap z1 w1 h1 hz1 hS1 g1 g2
  obtain ⟨k,rfl,hk1,hk2,ha,hb,_⟩:=opd2_k h1;have hO:=hS1.self;haveI:Fz z1 bb off a.num.cells:=⟨g1⟩
  haveI:Fz z1 bb (off + 3) b.num.cells:=⟨g2⟩
  haveI:AddN off ((0:Int).toNat * 3) off:=⟨rfl⟩
  haveI:AddN off ((1:Int).toNat * 3) (off + 3):=⟨rfl⟩
  haveI:InR 0 2:=⟨by decide,by decide⟩
  haveI:InR 1 2:=⟨by decide,by decide⟩
  haveI:Pu 66 #[a.num.v,b.num.v] (plusN a b).num.v:=⟨fun z w=>plus_of ((bn_ok ha).mono (by omega)) ((bn_ok hb).mono (by omega))⟩
  haveI:Pu 65 #[(plusN a b).num.v,.int .i64 (k:Int)] (resV (finN (plusN a b) (k:Int).toNat)):=⟨fun z w=>finished_of hk1 (by omega) ((bn_plus (by omega) (bn_ok ha) (bn_ok hb)).mono (by omega))⟩
  have hR2:∀ z' w' L',Res w1 z1 _ w' z' L'->RR (resV (finN (plusN a b) (k:Int).toNat)) w':=fun z' w' L' k=>hR _ _ _ _ (hS1.comp k) (by rw [addR,h1]; rfl)
  clear hS1 hR;(repeat (first | (refine iDr ?_; intro _ _) | refine V_run ?_ | refine PV_run ?_ | refine HV_run ?_ | refine iV_ld1 ?_ | refine iV_ldN ?_ | (refine iV_bx ?_; intro _ _ _ _) | (refine iV_al ?_; intro _ _ _ _) | (refine iV_mm ?_; intro _ _ _ _) | (refine iU_st ?_; intro _ _) | refine iHV_1 ?_ | refine iHV_N ?_ | refine iRI_1 ?_ | refine iRI_N ?_ | refine Cond_t ?_ | refine Cond_f ?_ | refine JB ?_ | (refine JC ?_; intro _ _ _ _) | (refine JGB ?_; intro _ _ _ _) | refine K1 ?_ | refine K0 ?_ | refine K2 ?_ | refine K3 ?_ | refine K4 ?_ | (refine CV_pu ?_; intro _ _ _ _) | (refine CV_puz ?_; intro _ _ _ _) | refine fRI_1 ?_ | refine fRI_N ?_ | refine gHV_lkI ?_ | refine gRI_lkI ?_ | refine gV_lkI ?_ | refine fV_ldN ?_ | refine fV_ld1 ?_ | refine fHV_ldN ?_ | refine fHV_ld1 ?_ | refine NilW_some ?_ | refine iCW_1 ?_ | refine iCW_N ?_ | refine Pk_b ?_));exact hR2 _ _ _ ‹_›)⟩
instance {x y:NumM} {d:Int} [hx:Sm x.digits] [hy:Sm y.digits]:Pu 21 #[x.v,y.v,.int .i64 d] (resV (subR x y d)):=⟨fun z w=>Fn1.intro fun hS=>en21 (by
 unfold vc21;generalize hRR:(fun (v:Value) (w':World)=>∃ z' L',Res w z [] w' z' L'/\v = resV (subR x y d)) = RR;have hR:∀ z' w' L' r,Res w z [] w' z' L'->subR x y d = r->RR (resV r) w':=fun z' w' L' r k e=>by rw [<- hRR]; exact ⟨_,_,k,by rw [e]⟩
 clear hRR;(repeat (first | (refine iDr ?_; intro _ _) | refine V_run ?_ | refine PV_run ?_ | refine HV_run ?_ | refine iV_ld1 ?_ | refine iV_ldN ?_ | (refine iV_bx ?_; intro _ _ _ _) | (refine iV_al ?_; intro _ _ _ _) | (refine iV_mm ?_; intro _ _ _ _) | (refine iU_st ?_; intro _ _) | refine iHV_1 ?_ | refine iHV_N ?_ | refine iRI_1 ?_ | refine iRI_N ?_ | refine Cond_t ?_ | refine Cond_f ?_ | refine JB ?_ | (refine JC ?_; intro _ _ _ _) | (refine JGB ?_; intro _ _ _ _) | refine K1 ?_ | refine K0 ?_ | refine K2 ?_ | refine K3 ?_ | refine K4 ?_ | (refine CV_pu ?_; intro _ _ _ _) | (refine CV_puz ?_; intro _ _ _ _) | refine fRI_1 ?_ | refine fRI_N ?_ | refine gHV_lkI ?_ | refine gRI_lkI ?_ | refine gV_lkI ?_ | refine fV_ldN ?_ | refine fV_ld1 ?_ | refine fHV_ldN ?_ | refine fHV_ld1 ?_ | refine NilW_some ?_ | refine iCW_1 ?_ | refine iCW_N ?_ | refine Pk_b ?_));refine V_asked2 (d:=d) ?_ ?_
 ·intro e z1 w1 h1 h2 hz1 hS1
  (repeat (first | (refine iDr ?_; intro _ _) | refine V_run ?_ | refine PV_run ?_ | refine HV_run ?_ | refine iV_ld1 ?_ | refine iV_ldN ?_ | (refine iV_bx ?_; intro _ _ _ _) | (refine iV_al ?_; intro _ _ _ _) | (refine iV_mm ?_; intro _ _ _ _) | (refine iU_st ?_; intro _ _) | refine iHV_1 ?_ | refine iHV_N ?_ | refine iRI_1 ?_ | refine iRI_N ?_ | refine Cond_t ?_ | refine Cond_f ?_ | refine JB ?_ | (refine JC ?_; intro _ _ _ _) | (refine JGB ?_; intro _ _ _ _) | refine K1 ?_ | refine K0 ?_ | refine K2 ?_ | refine K3 ?_ | refine K4 ?_ | (refine CV_pu ?_; intro _ _ _ _) | (refine CV_puz ?_; intro _ _ _ _) | refine fRI_1 ?_ | refine fRI_N ?_ | refine gHV_lkI ?_ | refine gRI_lkI ?_ | refine gV_lkI ?_ | refine fV_ldN ?_ | refine fV_ld1 ?_ | refine fHV_ldN ?_ | refine fHV_ld1 ?_ | refine NilW_some ?_ | refine iCW_1 ?_ | refine iCW_N ?_ | refine Pk_b ?_));rw [decide_eq_false h2];refine Cond_t ?_;(repeat (first | (refine iDr ?_; intro _ _) | refine V_run ?_ | refine PV_run ?_ | refine HV_run ?_ | refine iV_ld1 ?_ | refine iV_ldN ?_ | (refine iV_bx ?_; intro _ _ _ _) | (refine iV_al ?_; intro _ _ _ _) | (refine iV_mm ?_; intro _ _ _ _) | (refine iU_st ?_; intro _ _) | refine iHV_1 ?_ | refine iHV_N ?_ | refine iRI_1 ?_ | refine iRI_N ?_ | refine Cond_t ?_ | refine Cond_f ?_ | refine JB ?_ | (refine JC ?_; intro _ _ _ _) | (refine JGB ?_; intro _ _ _ _) | refine K1 ?_ | refine K0 ?_ | refine K2 ?_ | refine K3 ?_ | refine K4 ?_ | (refine CV_pu ?_; intro _ _ _ _) | (refine CV_puz ?_; intro _ _ _ _) | refine fRI_1 ?_ | refine fRI_N ?_ | refine gHV_lkI ?_ | refine gRI_lkI ?_ | refine gV_lkI ?_ | refine fV_ldN ?_ | refine fV_ld1 ?_ | refine fHV_ldN ?_ | refine fHV_ld1 ?_ | refine NilW_some ?_ | refine iCW_1 ?_ | refine iCW_N ?_ | refine Pk_b ?_));exact hR _ _ _ (.error e) ‹_› (by rw [subR,h1]; rfl)
 ·intro a b bb off cap z1 w1 h1 hz1 hS1 g1 g2
  obtain ⟨k,rfl,hk1,hk2,ha,hb,_⟩:=opd2_k h1;have hO:=hS1.self;haveI:Fz z1 bb off a.num.cells:=⟨g1⟩
  haveI:Fz z1 bb (off + 3) b.num.cells:=⟨g2⟩
  haveI:AddN off ((0:Int).toNat * 3) off:=⟨rfl⟩
  haveI:AddN off ((1:Int).toNat * 3) (off + 3):=⟨rfl⟩
  haveI:InR 0 2:=⟨by decide,by decide⟩
  haveI:InR 1 2:=⟨by decide,by decide⟩
  haveI:Pu 66 #[a.num.v,(negN b).num.v] (plusN a (negN b)).num.v:=⟨fun z w=>plus_of ((bn_ok ha).mono (by omega)) ((bn_neg (by omega) (bn_ok hb)).mono (by omega))⟩
  haveI:Pu 65 #[(plusN a (negN b)).num.v,.int .i64 (k:Int)] (resV (finN (plusN a (negN b)) (k:Int).toNat)):=⟨fun z w=>finished_of hk1 (by omega) ((bn_plus (by omega) (bn_ok ha) (bn_neg (by omega) (bn_ok hb))).mono (by omega))⟩
  have hR2:∀ z' w' L',Res w1 z1 _ w' z' L'->RR (resV (finN (plusN a (negN b)) (k:Int).toNat)) w':=fun z' w' L' k=>hR _ _ _ _ (hS1.comp k) (by rw [subR,h1]; rfl)
  clear hS1 hR;(repeat (first | (refine iDr ?_; intro _ _) | refine V_run ?_ | refine PV_run ?_ | refine HV_run ?_ | refine iV_ld1 ?_ | refine iV_ldN ?_ | (refine iV_bx ?_; intro _ _ _ _) | (refine iV_al ?_; intro _ _ _ _) | (refine iV_mm ?_; intro _ _ _ _) | (refine iU_st ?_; intro _ _) | refine iHV_1 ?_ | refine iHV_N ?_ | refine iRI_1 ?_ | refine iRI_N ?_ | refine Cond_t ?_ | refine Cond_f ?_ | refine JB ?_ | (refine JC ?_; intro _ _ _ _) | (refine JGB ?_; intro _ _ _ _) | refine K1 ?_ | refine K0 ?_ | refine K2 ?_ | refine K3 ?_ | refine K4 ?_ | (refine CV_pu ?_; intro _ _ _ _) | (refine CV_puz ?_; intro _ _ _ _) | refine fRI_1 ?_ | refine fRI_N ?_ | refine gHV_lkI ?_ | refine gRI_lkI ?_ | refine gV_lkI ?_ | refine fV_ldN ?_ | refine fV_ld1 ?_ | refine fHV_ldN ?_ | refine fHV_ld1 ?_ | refine NilW_some ?_ | refine iCW_1 ?_ | refine iCW_N ?_ | refine Pk_b ?_));exact hR2 _ _ _ ‹_›)⟩
instance {x y:NumM} {d:Int} [hx:Sm x.digits] [hy:Sm y.digits]:Pu 23 #[x.v,y.v,.int .i64 d] (resV (mulR x y d)):=⟨fun z w=>Fn1.intro fun hS=>en23 (by
 unfold vc23;generalize hRR:(fun (v:Value) (w':World)=>∃ z' L',Res w z [] w' z' L'/\v = resV (mulR x y d)) = RR;have hR:∀ z' w' L' r,Res w z [] w' z' L'->mulR x y d = r->RR (resV r) w':=fun z' w' L' r k e=>by rw [<- hRR]; exact ⟨_,_,k,by rw [e]⟩
 clear hRR;(repeat (first | (refine iDr ?_; intro _ _) | refine V_run ?_ | refine PV_run ?_ | refine HV_run ?_ | refine iV_ld1 ?_ | refine iV_ldN ?_ | (refine iV_bx ?_; intro _ _ _ _) | (refine iV_al ?_; intro _ _ _ _) | (refine iV_mm ?_; intro _ _ _ _) | (refine iU_st ?_; intro _ _) | refine iHV_1 ?_ | refine iHV_N ?_ | refine iRI_1 ?_ | refine iRI_N ?_ | refine Cond_t ?_ | refine Cond_f ?_ | refine JB ?_ | (refine JC ?_; intro _ _ _ _) | (refine JGB ?_; intro _ _ _ _) | refine K1 ?_ | refine K0 ?_ | refine K2 ?_ | refine K3 ?_ | refine K4 ?_ | (refine CV_pu ?_; intro _ _ _ _) | (refine CV_puz ?_; intro _ _ _ _) | refine fRI_1 ?_ | refine fRI_N ?_ | refine gHV_lkI ?_ | refine gRI_lkI ?_ | refine gV_lkI ?_ | refine fV_ldN ?_ | refine fV_ld1 ?_ | refine fHV_ldN ?_ | refine fHV_ld1 ?_ | refine NilW_some ?_ | refine iCW_1 ?_ | refine iCW_N ?_ | refine Pk_b ?_));refine V_asked2 (d:=d) ?_ ?_
 ·intro e z1 w1 h1 h2 hz1 hS1
  (repeat (first | (refine iDr ?_; intro _ _) | refine V_run ?_ | refine PV_run ?_ | refine HV_run ?_ | refine iV_ld1 ?_ | refine iV_ldN ?_ | (refine iV_bx ?_; intro _ _ _ _) | (refine iV_al ?_; intro _ _ _ _) | (refine iV_mm ?_; intro _ _ _ _) | (refine iU_st ?_; intro _ _) | refine iHV_1 ?_ | refine iHV_N ?_ | refine iRI_1 ?_ | refine iRI_N ?_ | refine Cond_t ?_ | refine Cond_f ?_ | refine JB ?_ | (refine JC ?_; intro _ _ _ _) | (refine JGB ?_; intro _ _ _ _) | refine K1 ?_ | refine K0 ?_ | refine K2 ?_ | refine K3 ?_ | refine K4 ?_ | (refine CV_pu ?_; intro _ _ _ _) | (refine CV_puz ?_; intro _ _ _ _) | refine fRI_1 ?_ | refine fRI_N ?_ | refine gHV_lkI ?_ | refine gRI_lkI ?_ | refine gV_lkI ?_ | refine fV_ldN ?_ | refine fV_ld1 ?_ | refine fHV_ldN ?_ | refine fHV_ld1 ?_ | refine NilW_some ?_ | refine iCW_1 ?_ | refine iCW_N ?_ | refine Pk_b ?_));rw [decide_eq_false h2];refine Cond_t ?_;(repeat (first | (refine iDr ?_; intro _ _) | refine V_run ?_ | refine PV_run ?_ | refine HV_run ?_ | refine iV_ld1 ?_ | refine iV_ldN ?_ | (refine iV_bx ?_; intro _ _ _ _) | (refine iV_al ?_; intro _ _ _ _) | (refine iV_mm ?_; intro _ _ _ _) | (refine iU_st ?_; intro _ _) | refine iHV_1 ?_ | refine iHV_N ?_ | refine iRI_1 ?_ | refine iRI_N ?_ | refine Cond_t ?_ | refine Cond_f ?_ | refine JB ?_ | (refine JC ?_; intro _ _ _ _) | (refine JGB ?_; intro _ _ _ _) | refine K1 ?_ | refine K0 ?_ | refine K2 ?_ | refine K3 ?_ | refine K4 ?_ | (refine CV_pu ?_; intro _ _ _ _) | (refine CV_puz ?_; intro _ _ _ _) | refine fRI_1 ?_ | refine fRI_N ?_ | refine gHV_lkI ?_ | refine gRI_lkI ?_ | refine gV_lkI ?_ | refine fV_ldN ?_ | refine fV_ld1 ?_ | refine fHV_ldN ?_ | refine fHV_ld1 ?_ | refine NilW_some ?_ | refine iCW_1 ?_ | refine iCW_N ?_ | refine Pk_b ?_));exact hR _ _ _ (.error e) ‹_› (by rw [mulR,h1]; rfl)
 ·intro a b bb off cap z1 w1 h1 hz1 hS1 g1 g2
  obtain ⟨k,rfl,hk1,hk2,ha,hb,_⟩:=opd2_k h1;have hO:=hS1.self;haveI:Fz z1 bb off a.num.cells:=⟨g1⟩
  haveI:Fz z1 bb (off + 3) b.num.cells:=⟨g2⟩
  haveI:AddN off ((0:Int).toNat * 3) off:=⟨rfl⟩
  haveI:AddN off ((1:Int).toNat * 3) (off + 3):=⟨rfl⟩
  haveI:InR 0 2:=⟨by decide,by decide⟩
  haveI:InR 1 2:=⟨by decide,by decide⟩
  haveI:Pu 73 #[a.num.v,b.num.v] (mulN a b).num.v:=⟨fun z w=>multiplied_of ((bn_ok ha).mono (by omega)) ((bn_ok hb).mono (by omega)) (by have:=ha.len; omega) (by have:=hb.len; omega)⟩
  haveI:Pu 65 #[(mulN a b).num.v,.int .i64 (k:Int)] (resV (finN (mulN a b) (k:Int).toNat)):=⟨fun z w=>finished_of hk1 (by omega) ((bn_mul (by omega) (bn_ok ha) (bn_ok hb)).mono (by omega))⟩
  have hR2:∀ z' w' L',Res w1 z1 _ w' z' L'->RR (resV (finN (mulN a b) (k:Int).toNat)) w':=fun z' w' L' k=>hR _ _ _ _ (hS1.comp k) (by rw [mulR,h1]; rfl)
  clear hS1 hR;(repeat (first | (refine iDr ?_; intro _ _) | refine V_run ?_ | refine PV_run ?_ | refine HV_run ?_ | refine iV_ld1 ?_ | refine iV_ldN ?_ | (refine iV_bx ?_; intro _ _ _ _) | (refine iV_al ?_; intro _ _ _ _) | (refine iV_mm ?_; intro _ _ _ _) | (refine iU_st ?_; intro _ _) | refine iHV_1 ?_ | refine iHV_N ?_ | refine iRI_1 ?_ | refine iRI_N ?_ | refine Cond_t ?_ | refine Cond_f ?_ | refine JB ?_ | (refine JC ?_; intro _ _ _ _) | (refine JGB ?_; intro _ _ _ _) | refine K1 ?_ | refine K0 ?_ | refine K2 ?_ | refine K3 ?_ | refine K4 ?_ | (refine CV_pu ?_; intro _ _ _ _) | (refine CV_puz ?_; intro _ _ _ _) | refine fRI_1 ?_ | refine fRI_N ?_ | refine gHV_lkI ?_ | refine gRI_lkI ?_ | refine gV_lkI ?_ | refine fV_ldN ?_ | refine fV_ld1 ?_ | refine fHV_ldN ?_ | refine fHV_ld1 ?_ | refine NilW_some ?_ | refine iCW_1 ?_ | refine iCW_N ?_ | refine Pk_b ?_));exact hR2 _ _ _ ‹_›)⟩
end
section
open Go Q Go.RowKit
def pA:Except Int (Nm × Nm)->NumM
 | .ok p=>p.1.num
 | .error _=>noNum
def pB:Except Int (Nm × Nm)->NumM
 | .ok p=>p.2.num
 | .error _=>noNum
def pE:Except Int (Nm × Nm)->Int
 | .ok _=>0
 | .error e=>e
theorem wide_nat {d:Int} (h:wideD d = true):∃ k:Nat,d = (k:Int)/\0 < k/\k <= 40:=by
 obtain ⟨g1,g2⟩:=wide_pos h;exact ⟨d.toNat,by omega,g1,g2⟩
theorem opd2_e {x y:NumM} {d:Int} {e:Int} (h:opd2 x y d = .error e):e = 1 \/ e = 8:=by
 unfold opd2 at h;(repeat' split at h) <;> first | (cases h; done) | (cases h; exact .inl rfl) | (cases h; exact .inr rfl)
theorem fin_e {n:Nm} {d:Nat} {e:Int} (h:finN n d = .error e):e = 8:=by
 unfold finN at h
 split at h
 ·cases h
 ·cases h; rfl
end
section
open Go Q Go.RowKit
deriving instance DecidableEq for NumM
theorem num_eq {x y:NumM}:(x.neg == y.neg && (decide (x.digits = y.digits) && (decide (x.exp = y.exp) && true))) = decide (x = y):=by
 obtain ⟨a,b,c⟩:=x;obtain ⟨a',b',c'⟩:=y;rw [Bool.eq_iff_iff];simp
instance {x:NumM} {d:Int} [hx:Sm x.digits]:Pu 40 #[x.v,.int .i64 d] (resV (opd1 x d)):=⟨fun z w=>Fn1.intro fun hS=>en40 (by
 unfold vc40;generalize hRR:(fun (v:Value) (w':World)=>∃ z' L',Res w z [] w' z' L'/\v = resV (opd1 x d)) = RR;have hR:∀ z' w' L' r,Res w z [] w' z' L'->opd1 x d = r->RR (resV r) w':=fun z' w' L' r k e=>by rw [<- hRR]; exact ⟨_,_,k,by rw [e]⟩
 clear hRR;(repeat (first | (refine iDr ?_; intro _ _) | refine V_run ?_ | refine PV_run ?_ | refine HV_run ?_ | refine iV_ld1 ?_ | refine iV_ldN ?_ | (refine iV_bx ?_; intro _ _ _ _) | (refine iV_al ?_; intro _ _ _ _) | (refine iV_mm ?_; intro _ _ _ _) | (refine iU_st ?_; intro _ _) | refine iHV_1 ?_ | refine iHV_N ?_ | refine iRI_1 ?_ | refine iRI_N ?_ | refine Cond_t ?_ | refine Cond_f ?_ | refine JB ?_ | (refine JC ?_; intro _ _ _ _) | (refine JGB ?_; intro _ _ _ _) | refine K1 ?_ | refine K0 ?_ | refine K2 ?_ | refine K3 ?_ | refine K4 ?_ | (refine CV_pu ?_; intro _ _ _ _) | (refine CV_puz ?_; intro _ _ _ _) | refine fRI_1 ?_ | refine fRI_N ?_ | refine gHV_lkI ?_ | refine gRI_lkI ?_ | refine gV_lkI ?_ | refine fV_ldN ?_ | refine fV_ld1 ?_ | refine fHV_ldN ?_ | refine fHV_ld1 ?_ | refine NilW_some ?_ | refine iCW_1 ?_ | refine iCW_N ?_ | refine Pk_b ?_));refine V_asked1 (d:=d) ?_ ?_
 ·intro e z1 w1 h1 h2 hz1 hS1
  (repeat (first | (refine iDr ?_; intro _ _) | refine V_run ?_ | refine PV_run ?_ | refine HV_run ?_ | refine iV_ld1 ?_ | refine iV_ldN ?_ | (refine iV_bx ?_; intro _ _ _ _) | (refine iV_al ?_; intro _ _ _ _) | (refine iV_mm ?_; intro _ _ _ _) | (refine iU_st ?_; intro _ _) | refine iHV_1 ?_ | refine iHV_N ?_ | refine iRI_1 ?_ | refine iRI_N ?_ | refine Cond_t ?_ | refine Cond_f ?_ | refine JB ?_ | (refine JC ?_; intro _ _ _ _) | (refine JGB ?_; intro _ _ _ _) | refine K1 ?_ | refine K0 ?_ | refine K2 ?_ | refine K3 ?_ | refine K4 ?_ | (refine CV_pu ?_; intro _ _ _ _) | (refine CV_puz ?_; intro _ _ _ _) | refine fRI_1 ?_ | refine fRI_N ?_ | refine gHV_lkI ?_ | refine gRI_lkI ?_ | refine gV_lkI ?_ | refine fV_ldN ?_ | refine fV_ld1 ?_ | refine fHV_ldN ?_ | refine fHV_ld1 ?_ | refine NilW_some ?_ | refine iCW_1 ?_ | refine iCW_N ?_ | refine Pk_b ?_));rw [decide_eq_false h2];refine Cond_t ?_;(repeat (first | (refine iDr ?_; intro _ _) | refine V_run ?_ | refine PV_run ?_ | refine HV_run ?_ | refine iV_ld1 ?_ | refine iV_ldN ?_ | (refine iV_bx ?_; intro _ _ _ _) | (refine iV_al ?_; intro _ _ _ _) | (refine iV_mm ?_; intro _ _ _ _) | (refine iU_st ?_; intro _ _) | refine iHV_1 ?_ | refine iHV_N ?_ | refine iRI_1 ?_ | refine iRI_N ?_ | refine Cond_t ?_ | refine Cond_f ?_ | refine JB ?_ | (refine JC ?_; intro _ _ _ _) | (refine JGB ?_; intro _ _ _ _) | refine K1 ?_ | refine K0 ?_ | refine K2 ?_ | refine K3 ?_ | refine K4 ?_ | (refine CV_pu ?_; intro _ _ _ _) | (refine CV_puz ?_; intro _ _ _ _) | refine fRI_1 ?_ | refine fRI_N ?_ | refine gHV_lkI ?_ | refine gRI_lkI ?_ | refine gV_lkI ?_ | refine fV_ldN ?_ | refine fV_ld1 ?_ | refine fHV_ldN ?_ | refine fHV_ld1 ?_ | refine NilW_some ?_ | refine iCW_1 ?_ | refine iCW_N ?_ | refine Pk_b ?_));exact hR _ _ _ (.error e) ‹_› h1
 ·intro a bb off cap z1 w1 h1 hz1 hS1 g1
  have hO:=hS1.self;haveI:Fz z1 bb off a.num.cells:=⟨g1⟩
  haveI:AddN off ((0:Int).toNat * 3) off:=⟨rfl⟩
  haveI:InR 0 1:=⟨by decide,by decide⟩
  have hR2:∀ z' w' L',Res w1 z1 _ w' z' L'->RR (resV (.ok a)) w':=fun z' w' L' k=>hR _ _ _ _ (hS1.comp k) h1
  clear hS1 hR;(repeat (first | (refine iDr ?_; intro _ _) | refine V_run ?_ | refine PV_run ?_ | refine HV_run ?_ | refine iV_ld1 ?_ | refine iV_ldN ?_ | (refine iV_bx ?_; intro _ _ _ _) | (refine iV_al ?_; intro _ _ _ _) | (refine iV_mm ?_; intro _ _ _ _) | (refine iU_st ?_; intro _ _) | refine iHV_1 ?_ | refine iHV_N ?_ | refine iRI_1 ?_ | refine iRI_N ?_ | refine Cond_t ?_ | refine Cond_f ?_ | refine JB ?_ | (refine JC ?_; intro _ _ _ _) | (refine JGB ?_; intro _ _ _ _) | refine K1 ?_ | refine K0 ?_ | refine K2 ?_ | refine K3 ?_ | refine K4 ?_ | (refine CV_pu ?_; intro _ _ _ _) | (refine CV_puz ?_; intro _ _ _ _) | refine fRI_1 ?_ | refine fRI_N ?_ | refine gHV_lkI ?_ | refine gRI_lkI ?_ | refine gV_lkI ?_ | refine fV_ldN ?_ | refine fV_ld1 ?_ | refine fHV_ldN ?_ | refine fHV_ld1 ?_ | refine NilW_some ?_ | refine iCW_1 ?_ | refine iCW_N ?_ | refine Pk_b ?_));exact hR2 _ _ _ ‹_›)⟩
end
section
open Go Q Go.RowKit
instance:Lt7 48:=⟨by decide⟩
theorem rig_dig (m:Nat):rigB 48 (digB m) = if m = 0 then ⟨#[]⟩ else digB (bareM m).1:=by
 refine ba_inj ?_;rw [rigB,bytes_mk,bytes_digB]
 show rtrim (digL m) = _
 by_cases h:m = 0
 ·subst h; rw [rtrim_0]; rfl
 ·rw [rtrim_dig h,if_neg h,bytes_digB]
theorem bare_of {z:Z} {w:World} {n:Nm} (hB:Bn n 300000):Fn1 88 #[n.num.v] z w fun _ r=>r = (bareN n).num.v:=Fn1.intro fun hS=>en88 (by
 unfold vc88;have h1:=hB.len;have h2:=hB.lo;have h3:=hB.hi;haveI:Sm n.num.digits:=⟨by show (digB n.m).size <= _; rw [size_digB]; simp only [big]; omega⟩
 refine iV_bx ?_;intro c1 w1 hc1 hS1;refine iV_al ?_;intro c2 w2 hc2 hS2;clear hS hS1;refine V_run ?_;refine iV_ld1 ?_;refine CV_pu (v:=.string (rigB 48 (digB n.m))) (g:=(inferInstance:Pu 106 #[.string n.num.digits,.string (b1 48)] (.string (rigB 48 n.num.digits)))) ?_;intro z3 w3 hz3 hS3;clear hS2;rw [rig_dig]
 by_cases h0:n.m = 0
 ·rw [if_pos h0]
  refine V_run ?_;rw [decide_eq_true rfl];refine Cond_t ?_;(repeat (first | (refine iDr ?_; intro _ _) | refine V_run ?_ | refine PV_run ?_ | refine HV_run ?_ | refine iV_ld1 ?_ | refine iV_ldN ?_ | (refine iV_bx ?_; intro _ _ _ _) | (refine iV_al ?_; intro _ _ _ _) | (refine iV_mm ?_; intro _ _ _ _) | (refine iU_st ?_; intro _ _) | refine iHV_1 ?_ | refine iHV_N ?_ | refine iRI_1 ?_ | refine iRI_N ?_ | refine Cond_t ?_ | refine Cond_f ?_ | refine JB ?_ | (refine JC ?_; intro _ _ _ _) | (refine JGB ?_; intro _ _ _ _) | refine K1 ?_ | refine K0 ?_ | refine K2 ?_ | refine K3 ?_ | refine K4 ?_ | (refine CV_pu ?_; intro _ _ _ _) | (refine CV_puz ?_; intro _ _ _ _) | refine fRI_1 ?_ | refine fRI_N ?_ | refine gHV_lkI ?_ | refine gRI_lkI ?_ | refine gV_lkI ?_ | refine fV_ldN ?_ | refine fV_ld1 ?_ | refine fHV_ldN ?_ | refine fHV_ld1 ?_ | refine NilW_some ?_ | refine iCW_1 ?_ | refine iCW_N ?_ | refine Pk_b ?_));exact ⟨_,_,‹_›,by rw [bareN,if_pos h0,<- zero_num]⟩
 ·rw [if_neg h0]
  refine V_run ?_;have hne:digB (bareM n.m).1 ≠ ⟨#[]⟩:=fun e=>digL_ne (bareM n.m).1 (by rw [<- bytes_digB,e])
  rw [decide_eq_false hne];refine Cond_f ?_;(repeat (first | (refine iDr ?_; intro _ _) | refine V_run ?_ | refine PV_run ?_ | refine HV_run ?_ | refine iV_ld1 ?_ | refine iV_ldN ?_ | (refine iV_bx ?_; intro _ _ _ _) | (refine iV_al ?_; intro _ _ _ _) | (refine iV_mm ?_; intro _ _ _ _) | (refine iU_st ?_; intro _ _) | refine iHV_1 ?_ | refine iHV_N ?_ | refine iRI_1 ?_ | refine iRI_N ?_ | refine Cond_t ?_ | refine Cond_f ?_ | refine JB ?_ | (refine JC ?_; intro _ _ _ _) | (refine JGB ?_; intro _ _ _ _) | refine K1 ?_ | refine K0 ?_ | refine K2 ?_ | refine K3 ?_ | refine K4 ?_ | (refine CV_pu ?_; intro _ _ _ _) | (refine CV_puz ?_; intro _ _ _ _) | refine fRI_1 ?_ | refine fRI_N ?_ | refine gHV_lkI ?_ | refine gRI_lkI ?_ | refine gV_lkI ?_ | refine fV_ldN ?_ | refine fV_ld1 ?_ | refine fHV_ldN ?_ | refine fHV_ld1 ?_ | refine NilW_some ?_ | refine iCW_1 ?_ | refine iCW_N ?_ | refine Pk_b ?_));refine ⟨_,_,‹_›,?_⟩;have hl:=lenD_bare h0;have e:wrp (n.num.exp + wrp ((n.num.digits.size:Int) - ((digB (bareM n.m).1).size:Int))) = n.e + ((bareM n.m).2:Int):=by
   show wrp (n.e + wrp (((digB n.m).size:Int) - _)) = _
   rw [size_digB,size_digB,wrp_in (n:=(lenD n.m:Int) - (lenD (bareM n.m).1:Int)) (by omega),wrp_in (by omega)];omega
  rw [e,bareN,if_neg h0]
  rfl)
theorem scale_of {z:Z} {w:World} {a b:Nm} {k:Nat} (hk:k <= 1000) (h1:lenD a.m <= 100000) (h2:lenD b.m <= 100000):Fn1 80 #[a.num.v,b.num.v,.int .i64 k] z w fun _ r=>r = .int .i64 (scN a b k:Nat):=Fn1.intro fun hS=>en80 (by
 unfold vc80;(repeat (first | (refine iDr ?_; intro _ _) | refine V_run ?_ | refine PV_run ?_ | refine HV_run ?_ | refine iV_ld1 ?_ | refine iV_ldN ?_ | (refine iV_bx ?_; intro _ _ _ _) | (refine iV_al ?_; intro _ _ _ _) | (refine iV_mm ?_; intro _ _ _ _) | (refine iU_st ?_; intro _ _) | refine iHV_1 ?_ | refine iHV_N ?_ | refine iRI_1 ?_ | refine iRI_N ?_ | refine Cond_t ?_ | refine Cond_f ?_ | refine JB ?_ | (refine JC ?_; intro _ _ _ _) | (refine JGB ?_; intro _ _ _ _) | refine K1 ?_ | refine K0 ?_ | refine K2 ?_ | refine K3 ?_ | refine K4 ?_ | (refine CV_pu ?_; intro _ _ _ _) | (refine CV_puz ?_; intro _ _ _ _) | refine fRI_1 ?_ | refine fRI_N ?_ | refine gHV_lkI ?_ | refine gRI_lkI ?_ | refine gV_lkI ?_ | refine fV_ldN ?_ | refine fV_ld1 ?_ | refine fHV_ldN ?_ | refine fHV_ld1 ?_ | refine NilW_some ?_ | refine iCW_1 ?_ | refine iCW_N ?_ | refine Pk_b ?_));refine ⟨_,_,‹_›,?_⟩;have e1:a.num.digits.size = lenD a.m:=size_digB _;have e2:b.num.digits.size = lenD b.m:=size_digB _;rw [e1,e2,wrp_in (n:=(k:Int) + (lenD b.m:Int)) (by omega),wrp_in (n:=(k:Int) + (lenD b.m:Int) + 1) (by omega),wrp_in (n:=(k:Int) + (lenD b.m:Int) + 1 - (lenD a.m:Int)) (by omega),scN];refine congrArg _ ?_;omega)
end
section
open Go Q Go.RowKit
theorem bn_bare2 {n:Nm} {k l:Nat} (hk:0 < k) (h:Bn n k) (hl2:lenD n.m <= l):Bn (bareN n) (k + l):=by
 unfold bareN
 by_cases h0:n.m = 0
 ·rw [if_pos h0]; exact bn_nz (by omega)
 ·rw [if_neg h0]
  have hl:=lenD_bare h0;have h1:=h.len;have h2:=h.lo;have h3:=h.hi;have hp:=bareM_pos h0;refine ⟨fun e=>absurd e (by show ¬ (bareM n.m).1 = 0; omega),by show lenD (bareM n.m).1 <= _; omega,by show _ <= n.e + ((bareM n.m).2:Int); omega,by show n.e + ((bareM n.m).2:Int) <= _; omega⟩
theorem sc_le {a b:Nm} {k:Nat}:scN a b k <= k + lenD b.m + 1:=by unfold scN; omega
theorem quo_len {a b:Nm} {k:Nat}:lenD (quoQ a b k) <= lenD a.m + scN a b k:=by
 unfold quoQ;exact Nat.le_trans (lenD_mono (Nat.div_le_self _ _)) (lenD_tens _ _)
theorem quotient_of {z:Z} {w:World} {a b:Nm} {k q:Nat} (hk:0 < k) (hk2:k <= 1000) (ha:Bn a 4000) (hb:Bn b 110000) (lb:lenD b.m <= 20000) (hq:lenD q <= 60000):Fn1 81 #[a.num.v,b.num.v,.int .i64 k,.string (digB q)] z w fun _ r=>r = resV (quoN a b k q):=Fn1.intro fun hS=>en81 (by
 unfold vc81;have a1:=ha.len;have a2:=ha.lo;have a3:=ha.hi;have b2:=hb.lo;have b3:=hb.hi;have hsc:=sc_le (a:=a) (b:=b) (k:=k);haveI:Pu 80 #[.agg [.bool a.s,.string (digB a.m),.int .i64 a.e].toArray,.agg [.bool b.s,.string (digB b.m),.int .i64 b.e].toArray,.int .i64 (k:Int)] (.int .i64 (scN a b k:Nat)):=⟨fun z w=>scale_of hk2 (by omega) (by omega)⟩
 haveI:InI (a.e - b.e):=⟨by omega⟩
 haveI:InI (a.e - b.e - ((scN a b k:Nat):Int)):=⟨by omega⟩
 have hBN:Bn (mkN (a.s != b.s) q (a.e - b.e - ((scN a b k:Nat):Int))) 140000:=bn_mk (by omega) (by omega) (by omega) (by omega);haveI:Pu 65 #[(mkN (!(a.s == b.s)) q (a.e - b.e - ((scN a b k:Nat):Int))).num.v,.int .i64 (k:Int)] (resV (finN (mkN (a.s != b.s) q (a.e - b.e - ((scN a b k:Nat):Int))) k)):=⟨fun z w=>finished_of hk (by omega) hBN⟩
 have hV:quoN a b k q = match finN (mkN (a.s != b.s) q (a.e - b.e - ((scN a b k:Nat):Int))) k with
  | .ok n=>.ok (bareN n)
  | .error e=>.error e:=rfl
 rw [hV];have hfb:∀ n,finN (mkN (a.s != b.s) q (a.e - b.e - ((scN a b k:Nat):Int))) k = .ok n->Bn n 300000:=fun n hn=>by
  rw [(fin_bn hk hBN hn).1]; exact (bn_round hk hBN).mono (by omega)
 have hfe:∀ e,finN (mkN (a.s != b.s) q (a.e - b.e - ((scN a b k:Nat):Int))) k = .error e->e = 8:=fun e he=>fin_e he
 clear hBN;generalize finN (mkN (a.s != b.s) q (a.e - b.e - ((scN a b k:Nat):Int))) k = F at *;rw [num_mk,num_mk];refine iV_bx ?_;intro c1 w1 hc1 hS1;refine iV_bx ?_;intro c2 w2 hc2 hS2;refine iV_al ?_;intro c3 w3 hc3 hS3;clear hS hS1 hS2;intro K0 hK0;have main:∀ z' w' c4 L',Res w z [] w' z' ((c4,.cells (numE F).cells.toArray 23 (0,0)) :: (c3,.cells [.bool false,.string ⟨#[]⟩,.int .i64 0].toArray 23 (0,0)) :: L')->K0 [.pointer (some ⟨c4,0,none⟩),.int .i64 (errE F)] w':=by
  intro z' w' c4 L' hS';refine hK0 _ _ _ fun _=>?_
  clear hS3 hK0
  cases F with
  | error e=>
   have:=hfe e rfl;subst this;(repeat (first | (refine iDr ?_; intro _ _) | refine V_run ?_ | refine PV_run ?_ | refine HV_run ?_ | refine iV_ld1 ?_ | refine iV_ldN ?_ | (refine iV_bx ?_; intro _ _ _ _) | (refine iV_al ?_; intro _ _ _ _) | (refine iV_mm ?_; intro _ _ _ _) | (refine iU_st ?_; intro _ _) | refine iHV_1 ?_ | refine iHV_N ?_ | refine iRI_1 ?_ | refine iRI_N ?_ | refine Cond_t ?_ | refine Cond_f ?_ | refine JB ?_ | (refine JC ?_; intro _ _ _ _) | (refine JGB ?_; intro _ _ _ _) | refine K1 ?_ | refine K0 ?_ | refine K2 ?_ | refine K3 ?_ | refine K4 ?_ | (refine CV_pu ?_; intro _ _ _ _) | (refine CV_puz ?_; intro _ _ _ _) | refine fRI_1 ?_ | refine fRI_N ?_ | refine gHV_lkI ?_ | refine gRI_lkI ?_ | refine gV_lkI ?_ | refine fV_ldN ?_ | refine fV_ld1 ?_ | refine fHV_ldN ?_ | refine fHV_ld1 ?_ | refine NilW_some ?_ | refine iCW_1 ?_ | refine iCW_N ?_ | refine Pk_b ?_));exact ⟨_,_,‹_›,rfl⟩
  | ok n=>
   replace hS':Res w z [] w' z' ((c4,.cells n.num.cells.toArray 23 (0,0)) :: (c3,.cells [.bool false,.string ⟨#[]⟩,.int .i64 0].toArray 23 (0,0)) :: L'):=hS';haveI:Pu 88 #[n.num.v] (bareN n).num.v:=⟨fun z w=>bare_of (hfb n rfl)⟩
   show V (eq .neq 26 _ _ (.int .i64 0) (.int .i64 0)) _ _
   (repeat (first | (refine iDr ?_; intro _ _) | refine V_run ?_ | refine PV_run ?_ | refine HV_run ?_ | refine iV_ld1 ?_ | refine iV_ldN ?_ | (refine iV_bx ?_; intro _ _ _ _) | (refine iV_al ?_; intro _ _ _ _) | (refine iV_mm ?_; intro _ _ _ _) | (refine iU_st ?_; intro _ _) | refine iHV_1 ?_ | refine iHV_N ?_ | refine iRI_1 ?_ | refine iRI_N ?_ | refine Cond_t ?_ | refine Cond_f ?_ | refine JB ?_ | (refine JC ?_; intro _ _ _ _) | (refine JGB ?_; intro _ _ _ _) | refine K1 ?_ | refine K0 ?_ | refine K2 ?_ | refine K3 ?_ | refine K4 ?_ | (refine CV_pu ?_; intro _ _ _ _) | (refine CV_puz ?_; intro _ _ _ _) | refine fRI_1 ?_ | refine fRI_N ?_ | refine gHV_lkI ?_ | refine gRI_lkI ?_ | refine gV_lkI ?_ | refine fV_ldN ?_ | refine fV_ld1 ?_ | refine fHV_ldN ?_ | refine fHV_ld1 ?_ | refine NilW_some ?_ | refine iCW_1 ?_ | refine iCW_N ?_ | refine Pk_b ?_));exact ⟨_,_,‹_›,rfl⟩
 clear hK0;(repeat (first | (refine iDr ?_; intro _ _) | refine V_run ?_ | refine PV_run ?_ | refine HV_run ?_ | refine iV_ld1 ?_ | refine iV_ldN ?_ | (refine iV_bx ?_; intro _ _ _ _) | (refine iV_al ?_; intro _ _ _ _) | (refine iV_mm ?_; intro _ _ _ _) | (refine iU_st ?_; intro _ _) | refine iHV_1 ?_ | refine iHV_N ?_ | refine iRI_1 ?_ | refine iRI_N ?_ | refine Cond_t ?_ | refine Cond_f ?_ | refine JB ?_ | (refine JC ?_; intro _ _ _ _) | (refine JGB ?_; intro _ _ _ _) | refine K1 ?_ | refine K0 ?_ | refine K2 ?_ | refine K3 ?_ | refine K4 ?_ | (refine CV_pu ?_; intro _ _ _ _) | (refine CV_puz ?_; intro _ _ _ _) | refine fRI_1 ?_ | refine fRI_N ?_ | refine gHV_lkI ?_ | refine gRI_lkI ?_ | refine gV_lkI ?_ | refine fV_ldN ?_ | refine fV_ld1 ?_ | refine fHV_ldN ?_ | refine fHV_ld1 ?_ | refine NilW_some ?_ | refine iCW_1 ?_ | refine iCW_N ?_ | refine Pk_b ?_));refine ⟨?_,?_⟩
 ·(repeat (first | (refine iDr ?_; intro _ _) | refine V_run ?_ | refine PV_run ?_ | refine HV_run ?_ | refine iV_ld1 ?_ | refine iV_ldN ?_ | (refine iV_bx ?_; intro _ _ _ _) | (refine iV_al ?_; intro _ _ _ _) | (refine iV_mm ?_; intro _ _ _ _) | (refine iU_st ?_; intro _ _) | refine iHV_1 ?_ | refine iHV_N ?_ | refine iRI_1 ?_ | refine iRI_N ?_ | refine Cond_t ?_ | refine Cond_f ?_ | refine JB ?_ | (refine JC ?_; intro _ _ _ _) | (refine JGB ?_; intro _ _ _ _) | refine K1 ?_ | refine K0 ?_ | refine K2 ?_ | refine K3 ?_ | refine K4 ?_ | (refine CV_pu ?_; intro _ _ _ _) | (refine CV_puz ?_; intro _ _ _ _) | refine fRI_1 ?_ | refine fRI_N ?_ | refine gHV_lkI ?_ | refine gRI_lkI ?_ | refine gV_lkI ?_ | refine fV_ldN ?_ | refine fV_ld1 ?_ | refine fHV_ldN ?_ | refine fHV_ld1 ?_ | refine NilW_some ?_ | refine iCW_1 ?_ | refine iCW_N ?_ | refine Pk_b ?_))
  refine ⟨?_,?_⟩
  ·(repeat (first | (refine iDr ?_; intro _ _) | refine V_run ?_ | refine PV_run ?_ | refine HV_run ?_ | refine iV_ld1 ?_ | refine iV_ldN ?_ | (refine iV_bx ?_; intro _ _ _ _) | (refine iV_al ?_; intro _ _ _ _) | (refine iV_mm ?_; intro _ _ _ _) | (refine iU_st ?_; intro _ _) | refine iHV_1 ?_ | refine iHV_N ?_ | refine iRI_1 ?_ | refine iRI_N ?_ | refine Cond_t ?_ | refine Cond_f ?_ | refine JB ?_ | (refine JC ?_; intro _ _ _ _) | (refine JGB ?_; intro _ _ _ _) | refine K1 ?_ | refine K0 ?_ | refine K2 ?_ | refine K3 ?_ | refine K4 ?_ | (refine CV_pu ?_; intro _ _ _ _) | (refine CV_puz ?_; intro _ _ _ _) | refine fRI_1 ?_ | refine fRI_N ?_ | refine gHV_lkI ?_ | refine gRI_lkI ?_ | refine gV_lkI ?_ | refine fV_ldN ?_ | refine fV_ld1 ?_ | refine fHV_ldN ?_ | refine fHV_ld1 ?_ | refine NilW_some ?_ | refine iCW_1 ?_ | refine iCW_N ?_ | refine Pk_b ?_))
   refine ⟨?_,?_⟩
   ·(repeat (first | (refine iDr ?_; intro _ _) | refine V_run ?_ | refine PV_run ?_ | refine HV_run ?_ | refine iV_ld1 ?_ | refine iV_ldN ?_ | (refine iV_bx ?_; intro _ _ _ _) | (refine iV_al ?_; intro _ _ _ _) | (refine iV_mm ?_; intro _ _ _ _) | (refine iU_st ?_; intro _ _) | refine iHV_1 ?_ | refine iHV_N ?_ | refine iRI_1 ?_ | refine iRI_N ?_ | refine Cond_t ?_ | refine Cond_f ?_ | refine JB ?_ | (refine JC ?_; intro _ _ _ _) | (refine JGB ?_; intro _ _ _ _) | refine K1 ?_ | refine K0 ?_ | refine K2 ?_ | refine K3 ?_ | refine K4 ?_ | (refine CV_pu ?_; intro _ _ _ _) | (refine CV_puz ?_; intro _ _ _ _) | refine fRI_1 ?_ | refine fRI_N ?_ | refine gHV_lkI ?_ | refine gRI_lkI ?_ | refine gV_lkI ?_ | refine fV_ldN ?_ | refine fV_ld1 ?_ | refine fHV_ldN ?_ | refine fHV_ld1 ?_ | refine NilW_some ?_ | refine iCW_1 ?_ | refine iCW_N ?_ | refine Pk_b ?_))
    exact main _ _ _ _ ‹_›
   ·(repeat (first | (refine iDr ?_; intro _ _) | refine V_run ?_ | refine PV_run ?_ | refine HV_run ?_ | refine iV_ld1 ?_ | refine iV_ldN ?_ | (refine iV_bx ?_; intro _ _ _ _) | (refine iV_al ?_; intro _ _ _ _) | (refine iV_mm ?_; intro _ _ _ _) | (refine iU_st ?_; intro _ _) | refine iHV_1 ?_ | refine iHV_N ?_ | refine iRI_1 ?_ | refine iRI_N ?_ | refine Cond_t ?_ | refine Cond_f ?_ | refine JB ?_ | (refine JC ?_; intro _ _ _ _) | (refine JGB ?_; intro _ _ _ _) | refine K1 ?_ | refine K0 ?_ | refine K2 ?_ | refine K3 ?_ | refine K4 ?_ | (refine CV_pu ?_; intro _ _ _ _) | (refine CV_puz ?_; intro _ _ _ _) | refine fRI_1 ?_ | refine fRI_N ?_ | refine gHV_lkI ?_ | refine gRI_lkI ?_ | refine gV_lkI ?_ | refine fV_ldN ?_ | refine fV_ld1 ?_ | refine fHV_ldN ?_ | refine fHV_ld1 ?_ | refine NilW_some ?_ | refine iCW_1 ?_ | refine iCW_N ?_ | refine Pk_b ?_))
    exact main _ _ _ _ ‹_›
  ·(repeat (first | (refine iDr ?_; intro _ _) | refine V_run ?_ | refine PV_run ?_ | refine HV_run ?_ | refine iV_ld1 ?_ | refine iV_ldN ?_ | (refine iV_bx ?_; intro _ _ _ _) | (refine iV_al ?_; intro _ _ _ _) | (refine iV_mm ?_; intro _ _ _ _) | (refine iU_st ?_; intro _ _) | refine iHV_1 ?_ | refine iHV_N ?_ | refine iRI_1 ?_ | refine iRI_N ?_ | refine Cond_t ?_ | refine Cond_f ?_ | refine JB ?_ | (refine JC ?_; intro _ _ _ _) | (refine JGB ?_; intro _ _ _ _) | refine K1 ?_ | refine K0 ?_ | refine K2 ?_ | refine K3 ?_ | refine K4 ?_ | (refine CV_pu ?_; intro _ _ _ _) | (refine CV_puz ?_; intro _ _ _ _) | refine fRI_1 ?_ | refine fRI_N ?_ | refine gHV_lkI ?_ | refine gRI_lkI ?_ | refine gV_lkI ?_ | refine fV_ldN ?_ | refine fV_ld1 ?_ | refine fHV_ldN ?_ | refine fHV_ld1 ?_ | refine NilW_some ?_ | refine iCW_1 ?_ | refine iCW_N ?_ | refine Pk_b ?_))
   exact main _ _ _ _ ‹_›
 ·(repeat (first | (refine iDr ?_; intro _ _) | refine V_run ?_ | refine PV_run ?_ | refine HV_run ?_ | refine iV_ld1 ?_ | refine iV_ldN ?_ | (refine iV_bx ?_; intro _ _ _ _) | (refine iV_al ?_; intro _ _ _ _) | (refine iV_mm ?_; intro _ _ _ _) | (refine iU_st ?_; intro _ _) | refine iHV_1 ?_ | refine iHV_N ?_ | refine iRI_1 ?_ | refine iRI_N ?_ | refine Cond_t ?_ | refine Cond_f ?_ | refine JB ?_ | (refine JC ?_; intro _ _ _ _) | (refine JGB ?_; intro _ _ _ _) | refine K1 ?_ | refine K0 ?_ | refine K2 ?_ | refine K3 ?_ | refine K4 ?_ | (refine CV_pu ?_; intro _ _ _ _) | (refine CV_puz ?_; intro _ _ _ _) | refine fRI_1 ?_ | refine fRI_N ?_ | refine gHV_lkI ?_ | refine gRI_lkI ?_ | refine gV_lkI ?_ | refine fV_ldN ?_ | refine fV_ld1 ?_ | refine fHV_ldN ?_ | refine fHV_ld1 ?_ | refine NilW_some ?_ | refine iCW_1 ?_ | refine iCW_N ?_ | refine Pk_b ?_))
  exact main _ _ _ _ ‹_›)
end
section
open Go Q Go.RowKit
abbrev DivO:=Except Int (Nm × Nat × Nat)
def dN:DivO->NumM
 | .ok p=>p.1.num
 | .error _=>noNum
def dQ:DivO->ByteArray
 | .ok p=>digB p.2.1
 | .error _=>⟨#[]⟩
def dR:DivO->ByteArray
 | .ok p=>digB p.2.2
 | .error _=>⟨#[]⟩
def dE:DivO->Int
 | .ok _=>0
 | .error e=>e
abbrev divV (r:DivO):Value:=.tuple #[(dN r).v,.agg [.string (dQ r),.string (dR r)].toArray,.int .i64 (dE r)]
abbrev litN (n:Nm):List Value:=[.bool n.s,.string (digB n.m),.int .i64 n.e]
theorem lit_zero {n:Nm} (h:n.C):(n.s == zeroM.neg && (decide (digB n.m = zeroM.digits) && (decide (n.e = zeroM.exp) && true))) = decide (n.m = 0):=by
 have:=rz_iff (x:=n.num);rw [num_zero h] at this;exact this
theorem quo_e {a b:Nm} {k q:Nat} {e:Int} (h:quoN a b k q = .error e):e = 8:=by
 unfold quoN at h
 split at h
 ·cases h
 ·rename_i e' h'
  have:=fin_e h'
  cases h
  exact this
theorem div_some {x y:NumM} {d:Int} {a b:Nm} {k:Nat} (h:opd2 x y d = .ok (a,b)) (hd:d = (k:Int)):divR x y d = if b.m = 0 then .error 9 else match quoN a b k (quoQ a b k) with
  | .ok n=>.ok (n,quoQ a b k,quoR a b k)
  | .error e=>.error e:=by
 subst hd;rw [divR,h];simp only [bindE,Int.toNat_natCast]
 split
 ·rfl
 ·cases quoN a b k (quoQ a b k) <;> rfl
theorem div_none {x y:NumM} {d:Int} {e:Int} (h:opd2 x y d = .error e):divR x y d = .error e:=by
 rw [divR,h]; rfl
instance {x y:NumM} {d:Int} [hx:Sm x.digits] [hy:Sm y.digits]:Pu 46 #[x.v,y.v,.int .i64 d] (divV (divR x y d)):=⟨fun z w=>Fn1.intro fun hS=>en46 (by
 unfold vc46;generalize hRR:(fun (v:Value) (w':World)=>∃ z' L',Res w z [] w' z' L'/\v = divV (divR x y d)) = RR;have hR:∀ z' w' L' r,Res w z [] w' z' L'->divR x y d = r->RR (divV r) w':=fun z' w' L' r k e=>by rw [<- hRR]; exact ⟨_,_,k,by rw [e]⟩
 clear hRR;(repeat (first | (refine iDr ?_; intro _ _) | refine V_run ?_ | refine PV_run ?_ | refine HV_run ?_ | refine iV_ld1 ?_ | refine iV_ldN ?_ | (refine iV_bx ?_; intro _ _ _ _) | (refine iV_al ?_; intro _ _ _ _) | (refine iV_mm ?_; intro _ _ _ _) | (refine iU_st ?_; intro _ _) | refine iHV_1 ?_ | refine iHV_N ?_ | refine iRI_1 ?_ | refine iRI_N ?_ | refine Cond_t ?_ | refine Cond_f ?_ | refine JB ?_ | (refine JC ?_; intro _ _ _ _) | (refine JGB ?_; intro _ _ _ _) | refine K1 ?_ | refine K0 ?_ | refine K2 ?_ | refine K3 ?_ | refine K4 ?_ | (refine CV_pu ?_; intro _ _ _ _) | (refine CV_puz ?_; intro _ _ _ _) | refine fRI_1 ?_ | refine fRI_N ?_ | refine gHV_lkI ?_ | refine gRI_lkI ?_ | refine gV_lkI ?_ | refine fV_ldN ?_ | refine fV_ld1 ?_ | refine fHV_ldN ?_ | refine fHV_ld1 ?_ | refine NilW_some ?_ | refine iCW_1 ?_ | refine iCW_N ?_ | refine Pk_b ?_));refine V_asked2 (d:=d) ?_ ?_
 ·intro e z1 w1 h1 h2 hz1 hS1
  (repeat (first | (refine iDr ?_; intro _ _) | refine V_run ?_ | refine PV_run ?_ | refine HV_run ?_ | refine iV_ld1 ?_ | refine iV_ldN ?_ | (refine iV_bx ?_; intro _ _ _ _) | (refine iV_al ?_; intro _ _ _ _) | (refine iV_mm ?_; intro _ _ _ _) | (refine iU_st ?_; intro _ _) | refine iHV_1 ?_ | refine iHV_N ?_ | refine iRI_1 ?_ | refine iRI_N ?_ | refine Cond_t ?_ | refine Cond_f ?_ | refine JB ?_ | (refine JC ?_; intro _ _ _ _) | (refine JGB ?_; intro _ _ _ _) | refine K1 ?_ | refine K0 ?_ | refine K2 ?_ | refine K3 ?_ | refine K4 ?_ | (refine CV_pu ?_; intro _ _ _ _) | (refine CV_puz ?_; intro _ _ _ _) | refine fRI_1 ?_ | refine fRI_N ?_ | refine gHV_lkI ?_ | refine gRI_lkI ?_ | refine gV_lkI ?_ | refine fV_ldN ?_ | refine fV_ld1 ?_ | refine fHV_ldN ?_ | refine fHV_ld1 ?_ | refine NilW_some ?_ | refine iCW_1 ?_ | refine iCW_N ?_ | refine Pk_b ?_));rw [decide_eq_false h2];refine Cond_t ?_;(repeat (first | (refine iDr ?_; intro _ _) | refine V_run ?_ | refine PV_run ?_ | refine HV_run ?_ | refine iV_ld1 ?_ | refine iV_ldN ?_ | (refine iV_bx ?_; intro _ _ _ _) | (refine iV_al ?_; intro _ _ _ _) | (refine iV_mm ?_; intro _ _ _ _) | (refine iU_st ?_; intro _ _) | refine iHV_1 ?_ | refine iHV_N ?_ | refine iRI_1 ?_ | refine iRI_N ?_ | refine Cond_t ?_ | refine Cond_f ?_ | refine JB ?_ | (refine JC ?_; intro _ _ _ _) | (refine JGB ?_; intro _ _ _ _) | refine K1 ?_ | refine K0 ?_ | refine K2 ?_ | refine K3 ?_ | refine K4 ?_ | (refine CV_pu ?_; intro _ _ _ _) | (refine CV_puz ?_; intro _ _ _ _) | refine fRI_1 ?_ | refine fRI_N ?_ | refine gHV_lkI ?_ | refine gRI_lkI ?_ | refine gV_lkI ?_ | refine fV_ldN ?_ | refine fV_ld1 ?_ | refine fHV_ldN ?_ | refine fHV_ld1 ?_ | refine NilW_some ?_ | refine iCW_1 ?_ | refine iCW_N ?_ | refine Pk_b ?_));exact hR _ _ _ (.error e) ‹_› (div_none h1)
 ·intro a b bb off cap z1 w1 h1 hz1 hS1 g1 g2
  obtain ⟨k,rfl,hk1,hk2,ha,hb,_⟩:=opd2_k h1;have hO:=hS1.self;haveI:Fz z1 bb off (litN a):=⟨g1⟩
  haveI:Fz z1 bb (off + 3) (litN b):=⟨g2⟩
  haveI:AddN off ((0:Int).toNat * 3) off:=⟨rfl⟩
  haveI:AddN off ((1:Int).toNat * 3) (off + 3):=⟨rfl⟩
  haveI:InR 0 2:=⟨by decide,by decide⟩
  haveI:InR 1 2:=⟨by decide,by decide⟩
  have hBa:=bn_ok ha;have hBb:=bn_ok hb;have la:=ha.len;have lb:=hb.len;have hsc:=sc_le (a:=a) (b:=b) (k:=k);have hsl:=lenD_tens a.m (scN a b k);have hql:=quo_len (a:=a) (b:=b) (k:=k);have hdv:=div_some h1 rfl;have hR2:∀ z' w' L' r,Res w1 z1 _ w' z' L'->divR x y (k:Int) = r->RR (divV r) w':=fun z' w' L' r k e=>hR _ _ _ _ (hS1.comp k) e
  clear hS1 hR;(repeat (first | (refine iDr ?_; intro _ _) | refine V_run ?_ | refine PV_run ?_ | refine HV_run ?_ | refine iV_ld1 ?_ | refine iV_ldN ?_ | (refine iV_bx ?_; intro _ _ _ _) | (refine iV_al ?_; intro _ _ _ _) | (refine iV_mm ?_; intro _ _ _ _) | (refine iU_st ?_; intro _ _) | refine iHV_1 ?_ | refine iHV_N ?_ | refine iRI_1 ?_ | refine iRI_N ?_ | refine Cond_t ?_ | refine Cond_f ?_ | refine JB ?_ | (refine JC ?_; intro _ _ _ _) | (refine JGB ?_; intro _ _ _ _) | refine K1 ?_ | refine K0 ?_ | refine K2 ?_ | refine K3 ?_ | refine K4 ?_ | (refine CV_pu ?_; intro _ _ _ _) | (refine CV_puz ?_; intro _ _ _ _) | refine fRI_1 ?_ | refine fRI_N ?_ | refine gHV_lkI ?_ | refine gRI_lkI ?_ | refine gV_lkI ?_ | refine fV_ldN ?_ | refine fV_ld1 ?_ | refine fHV_ldN ?_ | refine fHV_ld1 ?_ | refine NilW_some ?_ | refine iCW_1 ?_ | refine iCW_N ?_ | refine Pk_b ?_));rw [lit_zero hBb.c];refine Cond_d (fun h=>?_) (fun h=>?_)
  ·rw [if_pos h] at hdv
   (repeat (first | (refine iDr ?_; intro _ _) | refine V_run ?_ | refine PV_run ?_ | refine HV_run ?_ | refine iV_ld1 ?_ | refine iV_ldN ?_ | (refine iV_bx ?_; intro _ _ _ _) | (refine iV_al ?_; intro _ _ _ _) | (refine iV_mm ?_; intro _ _ _ _) | (refine iU_st ?_; intro _ _) | refine iHV_1 ?_ | refine iHV_N ?_ | refine iRI_1 ?_ | refine iRI_N ?_ | refine Cond_t ?_ | refine Cond_f ?_ | refine JB ?_ | (refine JC ?_; intro _ _ _ _) | (refine JGB ?_; intro _ _ _ _) | refine K1 ?_ | refine K0 ?_ | refine K2 ?_ | refine K3 ?_ | refine K4 ?_ | (refine CV_pu ?_; intro _ _ _ _) | (refine CV_puz ?_; intro _ _ _ _) | refine fRI_1 ?_ | refine fRI_N ?_ | refine gHV_lkI ?_ | refine gRI_lkI ?_ | refine gV_lkI ?_ | refine fV_ldN ?_ | refine fV_ld1 ?_ | refine fHV_ldN ?_ | refine fHV_ld1 ?_ | refine NilW_some ?_ | refine iCW_1 ?_ | refine iCW_N ?_ | refine Pk_b ?_));exact hR2 _ _ _ (.error 9) ‹_› hdv
  ·rw [if_neg h] at hdv
   haveI:Pu 80 #[.agg (litN a).toArray,.agg (litN b).toArray,.int .i64 (k:Int)] (.int .i64 (scN a b k:Nat)):=⟨fun z w=>scale_of (by omega) (by omega) (by omega)⟩
   haveI:Cnt ((scN a b k:Nat):Int):=⟨by omega,by omega⟩
   haveI:SzN (a.m * 10 ^ scN a b k):=⟨by omega⟩
   haveI:SzN b.m:=⟨by omega⟩
   haveI:PosN b.m:=⟨by omega⟩
   haveI:Pu 81 #[.agg (litN a).toArray,.agg (litN b).toArray,.int .i64 (k:Int),.string (digB (a.m * 10 ^ scN a b k / b.m))] (resV (quoN a b k (quoQ a b k))):=⟨fun z w=>quotient_of hk1 (by omega) (hBa.mono (by omega)) (hBb.mono (by omega)) (by omega) (by have:lenD (a.m * 10 ^ scN a b k / b.m) <= _:=hql; omega)⟩
   (repeat (first | (refine iDr ?_; intro _ _) | refine V_run ?_ | refine PV_run ?_ | refine HV_run ?_ | refine iV_ld1 ?_ | refine iV_ldN ?_ | (refine iV_bx ?_; intro _ _ _ _) | (refine iV_al ?_; intro _ _ _ _) | (refine iV_mm ?_; intro _ _ _ _) | (refine iU_st ?_; intro _ _) | refine iHV_1 ?_ | refine iHV_N ?_ | refine iRI_1 ?_ | refine iRI_N ?_ | refine Cond_t ?_ | refine Cond_f ?_ | refine JB ?_ | (refine JC ?_; intro _ _ _ _) | (refine JGB ?_; intro _ _ _ _) | refine K1 ?_ | refine K0 ?_ | refine K2 ?_ | refine K3 ?_ | refine K4 ?_ | (refine CV_pu ?_; intro _ _ _ _) | (refine CV_puz ?_; intro _ _ _ _) | refine fRI_1 ?_ | refine fRI_N ?_ | refine gHV_lkI ?_ | refine gRI_lkI ?_ | refine gV_lkI ?_ | refine fV_ldN ?_ | refine fV_ld1 ?_ | refine fHV_ldN ?_ | refine fHV_ld1 ?_ | refine NilW_some ?_ | refine iCW_1 ?_ | refine iCW_N ?_ | refine Pk_b ?_));refine V_strs [digB a.m,zerosB ((scN a b k:Nat):Int)] rfl rfl (by omega) (by rw [sizes2]; omega) ?_;intro v4 z4 hz4 w4 hS4 hv4;(repeat (first | (refine iDr ?_; intro _ _) | refine V_run ?_ | refine PV_run ?_ | refine HV_run ?_ | refine iV_ld1 ?_ | refine iV_ldN ?_ | (refine iV_bx ?_; intro _ _ _ _) | (refine iV_al ?_; intro _ _ _ _) | (refine iV_mm ?_; intro _ _ _ _) | (refine iU_st ?_; intro _ _) | refine iHV_1 ?_ | refine iHV_N ?_ | refine iRI_1 ?_ | refine iRI_N ?_ | refine Cond_t ?_ | refine Cond_f ?_ | refine JB ?_ | (refine JC ?_; intro _ _ _ _) | (refine JGB ?_; intro _ _ _ _) | refine K1 ?_ | refine K0 ?_ | refine K2 ?_ | refine K3 ?_ | refine K4 ?_ | (refine CV_pu ?_; intro _ _ _ _) | (refine CV_puz ?_; intro _ _ _ _) | refine fRI_1 ?_ | refine fRI_N ?_ | refine gHV_lkI ?_ | refine gRI_lkI ?_ | refine gV_lkI ?_ | refine fV_ldN ?_ | refine fV_ld1 ?_ | refine fHV_ldN ?_ | refine fHV_ld1 ?_ | refine NilW_some ?_ | refine iCW_1 ?_ | refine iCW_N ?_ | refine Pk_b ?_));refine CV_1 (joined_of hv4 (by simp) (by rw [sizes2]; omega)) ?_;rintro z5 w5 v5 hz5 hS5 rfl
   rw [joinB2];clear hS4;haveI:Pu 114 #[.string (digB a.m ++ zerosB ((scN a b k:Nat):Int))] (.string (digB (a.m * 10 ^ scN a b k))):=by
    have:=(inferInstance:Pu 114 #[.string (digB a.m ++ zerosB ((scN a b k:Nat):Int))] _)
    rw [shift_dig,Int.toNat_natCast] at this;exact this
   (repeat (first | (refine iDr ?_; intro _ _) | refine V_run ?_ | refine PV_run ?_ | refine HV_run ?_ | refine iV_ld1 ?_ | refine iV_ldN ?_ | (refine iV_bx ?_; intro _ _ _ _) | (refine iV_al ?_; intro _ _ _ _) | (refine iV_mm ?_; intro _ _ _ _) | (refine iU_st ?_; intro _ _) | refine iHV_1 ?_ | refine iHV_N ?_ | refine iRI_1 ?_ | refine iRI_N ?_ | refine Cond_t ?_ | refine Cond_f ?_ | refine JB ?_ | (refine JC ?_; intro _ _ _ _) | (refine JGB ?_; intro _ _ _ _) | refine K1 ?_ | refine K0 ?_ | refine K2 ?_ | refine K3 ?_ | refine K4 ?_ | (refine CV_pu ?_; intro _ _ _ _) | (refine CV_puz ?_; intro _ _ _ _) | refine fRI_1 ?_ | refine fRI_N ?_ | refine gHV_lkI ?_ | refine gRI_lkI ?_ | refine gV_lkI ?_ | refine fV_ldN ?_ | refine fV_ld1 ?_ | refine fHV_ldN ?_ | refine fHV_ld1 ?_ | refine NilW_some ?_ | refine iCW_1 ?_ | refine iCW_N ?_ | refine Pk_b ?_))
   cases h2:quoN a b k (quoQ a b k) with
   | error e=>
    have:=quo_e h2;subst this;rw [h2] at hdv;refine Cond_t ?_;(repeat (first | (refine iDr ?_; intro _ _) | refine V_run ?_ | refine PV_run ?_ | refine HV_run ?_ | refine iV_ld1 ?_ | refine iV_ldN ?_ | (refine iV_bx ?_; intro _ _ _ _) | (refine iV_al ?_; intro _ _ _ _) | (refine iV_mm ?_; intro _ _ _ _) | (refine iU_st ?_; intro _ _) | refine iHV_1 ?_ | refine iHV_N ?_ | refine iRI_1 ?_ | refine iRI_N ?_ | refine Cond_t ?_ | refine Cond_f ?_ | refine JB ?_ | (refine JC ?_; intro _ _ _ _) | (refine JGB ?_; intro _ _ _ _) | refine K1 ?_ | refine K0 ?_ | refine K2 ?_ | refine K3 ?_ | refine K4 ?_ | (refine CV_pu ?_; intro _ _ _ _) | (refine CV_puz ?_; intro _ _ _ _) | refine fRI_1 ?_ | refine fRI_N ?_ | refine gHV_lkI ?_ | refine gRI_lkI ?_ | refine gV_lkI ?_ | refine fV_ldN ?_ | refine fV_ld1 ?_ | refine fHV_ldN ?_ | refine fHV_ld1 ?_ | refine NilW_some ?_ | refine iCW_1 ?_ | refine iCW_N ?_ | refine Pk_b ?_));exact hR2 _ _ _ (.error 8) ‹_› hdv
   | ok n=>
    rw [h2] at hdv;refine Cond_f ?_;(repeat (first | (refine iDr ?_; intro _ _) | refine V_run ?_ | refine PV_run ?_ | refine HV_run ?_ | refine iV_ld1 ?_ | refine iV_ldN ?_ | (refine iV_bx ?_; intro _ _ _ _) | (refine iV_al ?_; intro _ _ _ _) | (refine iV_mm ?_; intro _ _ _ _) | (refine iU_st ?_; intro _ _) | refine iHV_1 ?_ | refine iHV_N ?_ | refine iRI_1 ?_ | refine iRI_N ?_ | refine Cond_t ?_ | refine Cond_f ?_ | refine JB ?_ | (refine JC ?_; intro _ _ _ _) | (refine JGB ?_; intro _ _ _ _) | refine K1 ?_ | refine K0 ?_ | refine K2 ?_ | refine K3 ?_ | refine K4 ?_ | (refine CV_pu ?_; intro _ _ _ _) | (refine CV_puz ?_; intro _ _ _ _) | refine fRI_1 ?_ | refine fRI_N ?_ | refine gHV_lkI ?_ | refine gRI_lkI ?_ | refine gV_lkI ?_ | refine fV_ldN ?_ | refine fV_ld1 ?_ | refine fHV_ldN ?_ | refine fHV_ld1 ?_ | refine NilW_some ?_ | refine iCW_1 ?_ | refine iCW_N ?_ | refine Pk_b ?_));have:=hR2 _ _ _ (.ok (n,quoQ a b k,quoR a b k)) ‹_› hdv;rw [h2];exact this)⟩
end
section
open Go Q Go.RowKit
theorem opd2_again {x y:NumM} {d:Int} {a b:Nm} (h:opd2 x y d = .ok (a,b)):opd2 a.num b.num d = .ok (a,b):=by
 obtain ⟨k,rfl,hk1,hk2,ha,hb,la,lb⟩:=opd2_k h;unfold opd2;rw [nmOf_num ha,nmOf_num hb];have hw:wideD (k:Int) = true:=by unfold wideD; simp; omega
 simp only [hw,if_true,Int.toNat_natCast];rw [fin_ok la ha.fit,fin_ok lb hb.fit]
abbrev litP (p q:ByteArray):List Value:=[.string p,.string q]
instance {x y n:NumM} {p q:ByteArray} {d:Int} [hx:Sm x.digits] [hy:Sm y.digits] [hn:Sm n.digits] [hp:Sm p] [hq:Sm q]:Pu 59 #[x.v,y.v,.int .i64 d,n.v,.agg (litP p q).toArray] (.int .i64 (chkR x y d n p q)):=⟨fun z w=>Fn1.intro fun hS=>en59 (by
 unfold vc59;generalize hRR:(fun (v:Value) (w':World)=>∃ z' L',Res w z [] w' z' L'/\v = .int .i64 (chkR x y d n p q)) = RR;have hR:∀ z' w' L' r,Res w z [] w' z' L'->chkR x y d n p q = r->RR (.int .i64 r) w':=fun z' w' L' r k e=>by rw [<- hRR]; exact ⟨_,_,k,by rw [e]⟩
 clear hRR;refine iV_bx ?_;intro c5 w1 hc5 hS1;refine iV_bx ?_;intro c6 w2 hc6 hS2;refine iV_bx ?_;intro c8 w3 hc8 hS3;refine iV_bx ?_;intro c9 w4 hc9 hS4;clear hS hS1 hS2 hS3;(repeat (first | (refine iDr ?_; intro _ _) | refine V_run ?_ | refine PV_run ?_ | refine HV_run ?_ | refine iV_ld1 ?_ | refine iV_ldN ?_ | (refine iV_bx ?_; intro _ _ _ _) | (refine iV_al ?_; intro _ _ _ _) | (refine iV_mm ?_; intro _ _ _ _) | (refine iU_st ?_; intro _ _) | refine iHV_1 ?_ | refine iHV_N ?_ | refine iRI_1 ?_ | refine iRI_N ?_ | refine Cond_t ?_ | refine Cond_f ?_ | refine JB ?_ | (refine JC ?_; intro _ _ _ _) | (refine JGB ?_; intro _ _ _ _) | refine K1 ?_ | refine K0 ?_ | refine K2 ?_ | refine K3 ?_ | refine K4 ?_ | (refine CV_pu ?_; intro _ _ _ _) | (refine CV_puz ?_; intro _ _ _ _) | refine fRI_1 ?_ | refine fRI_N ?_ | refine gHV_lkI ?_ | refine gRI_lkI ?_ | refine gV_lkI ?_ | refine fV_ldN ?_ | refine fV_ld1 ?_ | refine fHV_ldN ?_ | refine fHV_ld1 ?_ | refine NilW_some ?_ | refine iCW_1 ?_ | refine iCW_N ?_ | refine Pk_b ?_));refine Cond_n (fun h=>?_) (fun h=>?_)
 ·refine hR _ _ _ 1 ‹_› ?_
  unfold chkR
  cases h1:nmOf n with
  | none=>rfl
  | some m=>rw [h1] at h; cases h
 obtain ⟨m,hm⟩:=Option.isSome_iff_exists.1 h;have hC:chkR x y d n p q = match divR x y d with
  | .error e=>e
  | .ok (m',q',r)=>if m = m'/\p = digB q'/\q = digB r then 0 else 11:=by
  unfold chkR;rw [hm]
  rfl
 obtain ⟨hmn,hmok⟩:=nmOf_some hm;(repeat (first | (refine iDr ?_; intro _ _) | refine V_run ?_ | refine PV_run ?_ | refine HV_run ?_ | refine iV_ld1 ?_ | refine iV_ldN ?_ | (refine iV_bx ?_; intro _ _ _ _) | (refine iV_al ?_; intro _ _ _ _) | (refine iV_mm ?_; intro _ _ _ _) | (refine iU_st ?_; intro _ _) | refine iHV_1 ?_ | refine iHV_N ?_ | refine iRI_1 ?_ | refine iRI_N ?_ | refine Cond_t ?_ | refine Cond_f ?_ | refine JB ?_ | (refine JC ?_; intro _ _ _ _) | (refine JGB ?_; intro _ _ _ _) | refine K1 ?_ | refine K0 ?_ | refine K2 ?_ | refine K3 ?_ | refine K4 ?_ | (refine CV_pu ?_; intro _ _ _ _) | (refine CV_puz ?_; intro _ _ _ _) | refine fRI_1 ?_ | refine fRI_N ?_ | refine gHV_lkI ?_ | refine gRI_lkI ?_ | refine gV_lkI ?_ | refine fV_ldN ?_ | refine fV_ld1 ?_ | refine fHV_ldN ?_ | refine fHV_ld1 ?_ | refine NilW_some ?_ | refine iCW_1 ?_ | refine iCW_N ?_ | refine Pk_b ?_));refine V_asked2 (d:=d) ?_ ?_
 ·intro e z1 w1 h1 h2 hz1 hS1
  (repeat (first | (refine iDr ?_; intro _ _) | refine V_run ?_ | refine PV_run ?_ | refine HV_run ?_ | refine iV_ld1 ?_ | refine iV_ldN ?_ | (refine iV_bx ?_; intro _ _ _ _) | (refine iV_al ?_; intro _ _ _ _) | (refine iV_mm ?_; intro _ _ _ _) | (refine iU_st ?_; intro _ _) | refine iHV_1 ?_ | refine iHV_N ?_ | refine iRI_1 ?_ | refine iRI_N ?_ | refine Cond_t ?_ | refine Cond_f ?_ | refine JB ?_ | (refine JC ?_; intro _ _ _ _) | (refine JGB ?_; intro _ _ _ _) | refine K1 ?_ | refine K0 ?_ | refine K2 ?_ | refine K3 ?_ | refine K4 ?_ | (refine CV_pu ?_; intro _ _ _ _) | (refine CV_puz ?_; intro _ _ _ _) | refine fRI_1 ?_ | refine fRI_N ?_ | refine gHV_lkI ?_ | refine gRI_lkI ?_ | refine gV_lkI ?_ | refine fV_ldN ?_ | refine fV_ld1 ?_ | refine fHV_ldN ?_ | refine fHV_ld1 ?_ | refine NilW_some ?_ | refine iCW_1 ?_ | refine iCW_N ?_ | refine Pk_b ?_));rw [decide_eq_false h2];refine Cond_t ?_;exact hR _ _ _ e ‹_› (by rw [hC,div_none h1])
 ·intro a b bb off cap z1 w1 h1 hz1 hS1 g1 g2
  have h1a:=opd2_again h1;obtain ⟨k,rfl,hk1,hk2,ha,hb,_⟩:=opd2_k h1;have hO:Res w1 z1 [(c9,.cells (litP p q).toArray 30 (0,0)),(c8,.cells n.cells.toArray 23 (0,0)),(c6,.cells y.cells.toArray 23 (0,0)),(c5,.cells x.cells.toArray 23 (0,0))] w1 z1 [(c9,.cells (litP p q).toArray 30 (0,0)),(c8,.cells n.cells.toArray 23 (0,0)),(c6,.cells y.cells.toArray 23 (0,0)),(c5,.cells x.cells.toArray 23 (0,0))]:=hS1.self;generalize hLL:[(c9,Obj.cells (litP p q).toArray 30 (0,0)),(c8,.cells n.cells.toArray 23 (0,0)),(c6,.cells y.cells.toArray 23 (0,0)),(c5,.cells x.cells.toArray 23 (0,0))] = LL at hO;rw [<- hLL] at hO;have hO:Res w1 z1 LL w1 z1 [(c9,.cells (litP p q).toArray 30 (0,0)),(c8,.cells n.cells.toArray 23 (0,0)),(c6,.cells y.cells.toArray 23 (0,0)),(c5,.cells x.cells.toArray 23 (0,0))]:=by rw [<- hLL]; exact hO
  have hR2:∀ z' w' L' r,Res w1 z1 LL w' z' L'->chkR x y (k:Int) n p q = r->RR (.int .i64 r) w':=fun z' w' L' r k e=>hR _ _ _ _ (hS1.comp (by rw [hLL]; exact k)) e
  clear hS1 hR hLL;haveI:Fz z1 bb off (litN a):=⟨g1⟩
  haveI:Fz z1 bb (off + 3) (litN b):=⟨g2⟩
  haveI:AddN off ((0:Int).toNat * 3) off:=⟨rfl⟩
  haveI:AddN off ((1:Int).toNat * 3) (off + 3):=⟨rfl⟩
  haveI:InR 0 2:=⟨by decide,by decide⟩
  haveI:InR 1 2:=⟨by decide,by decide⟩
  have hBa:=bn_ok ha;have hBb:=bn_ok hb;have la:=ha.len;have lb:=hb.len;have hsc:=sc_le (a:=a) (b:=b) (k:=k);have hsl:=lenD_tens a.m (scN a b k);have hql:=quo_len (a:=a) (b:=b) (k:=k);have hdv:=div_some h1 rfl;have hda:=div_some h1a rfl;(repeat (first | (refine iDr ?_; intro _ _) | refine V_run ?_ | refine PV_run ?_ | refine HV_run ?_ | refine iV_ld1 ?_ | refine iV_ldN ?_ | (refine iV_bx ?_; intro _ _ _ _) | (refine iV_al ?_; intro _ _ _ _) | (refine iV_mm ?_; intro _ _ _ _) | (refine iU_st ?_; intro _ _) | refine iHV_1 ?_ | refine iHV_N ?_ | refine iRI_1 ?_ | refine iRI_N ?_ | refine Cond_t ?_ | refine Cond_f ?_ | refine JB ?_ | (refine JC ?_; intro _ _ _ _) | (refine JGB ?_; intro _ _ _ _) | refine K1 ?_ | refine K0 ?_ | refine K2 ?_ | refine K3 ?_ | refine K4 ?_ | (refine CV_pu ?_; intro _ _ _ _) | (refine CV_puz ?_; intro _ _ _ _) | refine fRI_1 ?_ | refine fRI_N ?_ | refine gHV_lkI ?_ | refine gRI_lkI ?_ | refine gV_lkI ?_ | refine fV_ldN ?_ | refine fV_ld1 ?_ | refine fHV_ldN ?_ | refine fHV_ld1 ?_ | refine NilW_some ?_ | refine iCW_1 ?_ | refine iCW_N ?_ | refine Pk_b ?_));rw [lit_zero hBb.c];refine Cond_d (fun h=>?_) (fun h=>?_)
  ·rw [if_pos h] at hdv
   exact hR2 _ _ _ 9 ‹_› (by rw [hC,hdv])
  ·rw [if_neg h] at hdv hda
   have hBp:0 < b.m:=by omega
   haveI:Pu 80 #[.agg (litN a).toArray,.agg (litN b).toArray,.int .i64 (k:Int)] (.int .i64 (scN a b k:Nat)):=⟨fun z w=>scale_of (by omega) (by omega) (by omega)⟩
   haveI:Cnt ((scN a b k:Nat):Int):=⟨by omega,by omega⟩
   haveI:SzN b.m:=⟨by omega⟩
   (repeat (first | (refine iDr ?_; intro _ _) | refine V_run ?_ | refine PV_run ?_ | refine HV_run ?_ | refine iV_ld1 ?_ | refine iV_ldN ?_ | (refine iV_bx ?_; intro _ _ _ _) | (refine iV_al ?_; intro _ _ _ _) | (refine iV_mm ?_; intro _ _ _ _) | (refine iU_st ?_; intro _ _) | refine iHV_1 ?_ | refine iHV_N ?_ | refine iRI_1 ?_ | refine iRI_N ?_ | refine Cond_t ?_ | refine Cond_f ?_ | refine JB ?_ | (refine JC ?_; intro _ _ _ _) | (refine JGB ?_; intro _ _ _ _) | refine K1 ?_ | refine K0 ?_ | refine K2 ?_ | refine K3 ?_ | refine K4 ?_ | (refine CV_pu ?_; intro _ _ _ _) | (refine CV_puz ?_; intro _ _ _ _) | refine fRI_1 ?_ | refine fRI_N ?_ | refine gHV_lkI ?_ | refine gRI_lkI ?_ | refine gV_lkI ?_ | refine fV_ldN ?_ | refine fV_ld1 ?_ | refine fHV_ldN ?_ | refine fHV_ld1 ?_ | refine NilW_some ?_ | refine iCW_1 ?_ | refine iCW_N ?_ | refine Pk_b ?_));refine V_strs [digB a.m,zerosB ((scN a b k:Nat):Int)] rfl rfl (by omega) (by rw [sizes2]; omega) ?_;intro v4 z4 hz4 w4 hS4 hv4;(repeat (first | (refine iDr ?_; intro _ _) | refine V_run ?_ | refine PV_run ?_ | refine HV_run ?_ | refine iV_ld1 ?_ | refine iV_ldN ?_ | (refine iV_bx ?_; intro _ _ _ _) | (refine iV_al ?_; intro _ _ _ _) | (refine iV_mm ?_; intro _ _ _ _) | (refine iU_st ?_; intro _ _) | refine iHV_1 ?_ | refine iHV_N ?_ | refine iRI_1 ?_ | refine iRI_N ?_ | refine Cond_t ?_ | refine Cond_f ?_ | refine JB ?_ | (refine JC ?_; intro _ _ _ _) | (refine JGB ?_; intro _ _ _ _) | refine K1 ?_ | refine K0 ?_ | refine K2 ?_ | refine K3 ?_ | refine K4 ?_ | (refine CV_pu ?_; intro _ _ _ _) | (refine CV_puz ?_; intro _ _ _ _) | refine fRI_1 ?_ | refine fRI_N ?_ | refine gHV_lkI ?_ | refine gRI_lkI ?_ | refine gV_lkI ?_ | refine fV_ldN ?_ | refine fV_ld1 ?_ | refine fHV_ldN ?_ | refine fHV_ld1 ?_ | refine NilW_some ?_ | refine iCW_1 ?_ | refine iCW_N ?_ | refine Pk_b ?_));refine CV_1 (joined_of hv4 (by simp) (by rw [sizes2]; omega)) ?_;rintro z5 w5 v5 hz5 hS5 rfl
   rw [joinB2];clear hS4;haveI:Pu 114 #[.string (digB a.m ++ zerosB ((scN a b k:Nat):Int))] (.string (digB (a.m * 10 ^ scN a b k))):=by
    have:=(inferInstance:Pu 114 #[.string (digB a.m ++ zerosB ((scN a b k:Nat):Int))] _)
    rw [shift_dig,Int.toNat_natCast] at this;exact this
   generalize hX:a.m * 10 ^ scN a b k = X at *;have hQ:quoQ a b k = X / b.m:=by rw [<- hX]; rfl
   have hRr:quoR a b k = X % b.m:=by rw [<- hX]; rfl
   rw [hQ] at hdv hda hql;rw [hRr] at hdv hda;have hpi:=proof_iff (p:=bytes p) (r:=bytes q) (X:=X) hBp;have gd:(p = digB (X / b.m)/\q = digB (X % b.m)) ↔ (bytes p = digL (X / b.m)/\bytes q = digL (X % b.m)):=by
    constructor
    ·rintro ⟨e1,e2⟩; rw [e1,e2,bytes_digB,bytes_digB]; exact ⟨rfl,rfl⟩
    ·rintro ⟨e1,e2⟩; exact ⟨ba_inj (by rw [e1,bytes_digB]),ba_inj (by rw [e2,bytes_digB])⟩
   (repeat (first | (refine iDr ?_; intro _ _) | refine V_run ?_ | refine PV_run ?_ | refine HV_run ?_ | refine iV_ld1 ?_ | refine iV_ldN ?_ | (refine iV_bx ?_; intro _ _ _ _) | (refine iV_al ?_; intro _ _ _ _) | (refine iV_mm ?_; intro _ _ _ _) | (refine iU_st ?_; intro _ _) | refine iHV_1 ?_ | refine iHV_N ?_ | refine iRI_1 ?_ | refine iRI_N ?_ | refine Cond_t ?_ | refine Cond_f ?_ | refine JB ?_ | (refine JC ?_; intro _ _ _ _) | (refine JGB ?_; intro _ _ _ _) | refine K1 ?_ | refine K0 ?_ | refine K2 ?_ | refine K3 ?_ | refine K4 ?_ | (refine CV_pu ?_; intro _ _ _ _) | (refine CV_puz ?_; intro _ _ _ _) | refine fRI_1 ?_ | refine fRI_N ?_ | refine gHV_lkI ?_ | refine gRI_lkI ?_ | refine gV_lkI ?_ | refine fV_ldN ?_ | refine fV_ld1 ?_ | refine fHV_ldN ?_ | refine fHV_ld1 ?_ | refine NilW_some ?_ | refine iCW_1 ?_ | refine iCW_N ?_ | refine Pk_b ?_));rename_i hS6;clear hS5;intro K0 hK0;have mT:∀ w' z',¬ (p = digB (X / b.m)/\q = digB (X % b.m))->Res w1 z1 LL w' z' [(c9,.cells (litP p q).toArray 30 (0,0)),(c8,.cells n.cells.toArray 23 (0,0)),(c6,.cells (litN b).toArray 23 (0,0)),(c5,.cells (litN a).toArray 23 (0,0))]->K0 [.bool true] w':=by
    intro w' z' hbad hS';refine hK0 _ _ fun _=>?_
    clear hK0 hS6;haveI:Sm a.num.digits:=⟨by show (digB a.m).size <= _; rw [size_digB]; simp only [big]; omega⟩
    haveI:Sm b.num.digits:=⟨by show (digB b.m).size <= _; rw [size_digB]; simp only [big]; omega⟩
    haveI:Pu 46 #[.agg (litN a).toArray,.agg (litN b).toArray,.int .i64 (k:Int)] (divV (divR a.num b.num (k:Int))):=(inferInstance:Pu 46 #[a.num.v,b.num.v,.int .i64 (k:Int)] (divV (divR a.num b.num (k:Int))))
    refine Cond_t ?_;(repeat (first | (refine iDr ?_; intro _ _) | refine V_run ?_ | refine PV_run ?_ | refine HV_run ?_ | refine iV_ld1 ?_ | refine iV_ldN ?_ | (refine iV_bx ?_; intro _ _ _ _) | (refine iV_al ?_; intro _ _ _ _) | (refine iV_mm ?_; intro _ _ _ _) | (refine iU_st ?_; intro _ _) | refine iHV_1 ?_ | refine iHV_N ?_ | refine iRI_1 ?_ | refine iRI_N ?_ | refine Cond_t ?_ | refine Cond_f ?_ | refine JB ?_ | (refine JC ?_; intro _ _ _ _) | (refine JGB ?_; intro _ _ _ _) | refine K1 ?_ | refine K0 ?_ | refine K2 ?_ | refine K3 ?_ | refine K4 ?_ | (refine CV_pu ?_; intro _ _ _ _) | (refine CV_puz ?_; intro _ _ _ _) | refine fRI_1 ?_ | refine fRI_N ?_ | refine gHV_lkI ?_ | refine gRI_lkI ?_ | refine gV_lkI ?_ | refine fV_ldN ?_ | refine fV_ld1 ?_ | refine fHV_ldN ?_ | refine fHV_ld1 ?_ | refine NilW_some ?_ | refine iCW_1 ?_ | refine iCW_N ?_ | refine Pk_b ?_))
    cases h2:quoN a b k (X / b.m) with
    | error e=>
     have:=quo_e h2;subst this;rw [h2] at hdv hda;rw [hda];refine Cond_t ?_;exact hR2 _ _ _ 8 ‹_› (by rw [hC,hdv])
    | ok u=>
     rw [h2] at hdv hda;rw [hda];refine Cond_f ?_;refine hR2 _ _ _ 11 ‹_› ?_;rw [hC,hdv];exact if_neg fun hh=>hbad hh.2
   have mF:∀ w' z',(p = digB (X / b.m)/\q = digB (X % b.m))->Res w1 z1 LL w' z' [(c9,.cells (litP p q).toArray 30 (0,0)),(c8,.cells n.cells.toArray 23 (0,0)),(c6,.cells (litN b).toArray 23 (0,0)),(c5,.cells (litN a).toArray 23 (0,0))]->K0 [.bool false] w':=by
    rintro w' z' ⟨rfl,rfl⟩ hS'
    refine hK0 _ _ fun _=>?_
    clear hK0 hS6;haveI:Pu 81 #[.agg (litN a).toArray,.agg (litN b).toArray,.int .i64 (k:Int),.string (digB (X / b.m))] (resV (quoN a b k (X / b.m))):=⟨fun z w=>quotient_of hk1 (by omega) (hBa.mono (by omega)) (hBb.mono (by omega)) (by omega) (by omega)⟩
    refine Cond_f ?_;(repeat (first | (refine iDr ?_; intro _ _) | refine V_run ?_ | refine PV_run ?_ | refine HV_run ?_ | refine iV_ld1 ?_ | refine iV_ldN ?_ | (refine iV_bx ?_; intro _ _ _ _) | (refine iV_al ?_; intro _ _ _ _) | (refine iV_mm ?_; intro _ _ _ _) | (refine iU_st ?_; intro _ _) | refine iHV_1 ?_ | refine iHV_N ?_ | refine iRI_1 ?_ | refine iRI_N ?_ | refine Cond_t ?_ | refine Cond_f ?_ | refine JB ?_ | (refine JC ?_; intro _ _ _ _) | (refine JGB ?_; intro _ _ _ _) | refine K1 ?_ | refine K0 ?_ | refine K2 ?_ | refine K3 ?_ | refine K4 ?_ | (refine CV_pu ?_; intro _ _ _ _) | (refine CV_puz ?_; intro _ _ _ _) | refine fRI_1 ?_ | refine fRI_N ?_ | refine gHV_lkI ?_ | refine gRI_lkI ?_ | refine gV_lkI ?_ | refine fV_ldN ?_ | refine fV_ld1 ?_ | refine fHV_ldN ?_ | refine fHV_ld1 ?_ | refine NilW_some ?_ | refine iCW_1 ?_ | refine iCW_N ?_ | refine Pk_b ?_))
    cases h2:quoN a b k (X / b.m) with
    | error e=>
     have:=quo_e h2;subst this;rw [h2] at hdv;refine Cond_t ?_;exact hR2 _ _ _ 8 ‹_› (by rw [hC,hdv])
    | ok u=>
     rw [h2] at hdv;refine Cond_f ?_;(repeat (first | (refine iDr ?_; intro _ _) | refine V_run ?_ | refine PV_run ?_ | refine HV_run ?_ | refine iV_ld1 ?_ | refine iV_ldN ?_ | (refine iV_bx ?_; intro _ _ _ _) | (refine iV_al ?_; intro _ _ _ _) | (refine iV_mm ?_; intro _ _ _ _) | (refine iU_st ?_; intro _ _) | refine iHV_1 ?_ | refine iHV_N ?_ | refine iRI_1 ?_ | refine iRI_N ?_ | refine Cond_t ?_ | refine Cond_f ?_ | refine JB ?_ | (refine JC ?_; intro _ _ _ _) | (refine JGB ?_; intro _ _ _ _) | refine K1 ?_ | refine K0 ?_ | refine K2 ?_ | refine K3 ?_ | refine K4 ?_ | (refine CV_pu ?_; intro _ _ _ _) | (refine CV_puz ?_; intro _ _ _ _) | refine fRI_1 ?_ | refine fRI_N ?_ | refine gHV_lkI ?_ | refine gRI_lkI ?_ | refine gV_lkI ?_ | refine fV_ldN ?_ | refine fV_ld1 ?_ | refine fHV_ldN ?_ | refine fHV_ld1 ?_ | refine NilW_some ?_ | refine iCW_1 ?_ | refine iCW_N ?_ | refine Pk_b ?_));rw [num_eq,h2];refine Cond_nd (fun h3=>?_) (fun h3=>?_)
     ·refine hR2 _ _ _ 11 ‹_› ?_
      rw [hC,hdv];refine if_neg fun hh=>h3 ?_
      rw [hmn,hh.1]; rfl
     ·refine hR2 _ _ _ 0 ‹_› ?_
      rw [hC,hdv];refine if_pos ⟨num_inj ?_,rfl,rfl⟩;rw [<- hmn]; exact h3.symm
   clear hK0 hR2;refine iDr ?_;intro w7 hS7;clear hS6;refine PV_run ?_;rw [size_digB,size_digB];refine Cond_n (fun h5=>?_) (fun h5=>?_)
   ·refine mT _ _ (fun hg=>?_) hS7
    obtain ⟨e1,e2,e3,e4⟩:=hpi.2 (gd.1 hg);rw [e1,e2] at h5;have l1:p.size <= lenD X:=by rw [hg.1,size_digB]; exact lenD_mono (Nat.div_le_self _ _)
    have l2:q.size <= lenD b.m:=by rw [hg.2,size_digB]; exact lenD_mono (Nat.le_of_lt (Nat.mod_lt _ hBp))
    rw [decide_eq_true (p:=(p.size:Int) <= (lenD X:Int)) (by omega),decide_eq_true (p:=(q.size:Int) <= (lenD b.m:Int)) (by omega)] at h5
    cases h5
   ·have hl1:p.size <= lenD X:=by
     apply Classical.byContradiction
     intro hc;rw [decide_eq_false (p:=(p.size:Int) <= (lenD X:Int)) (by omega)] at h5
     cases h5
    have hl2:q.size <= lenD b.m:=by
     apply Classical.byContradiction
     intro hc;rw [decide_eq_false (p:=(q.size:Int) <= (lenD b.m:Int)) (by omega)] at h5
     revert h5
     cases decide ((p.size:Int) <= (lenD X:Int)) <;> intro h5 <;> cases h5
    rw [decide_eq_true (p:=(p.size:Int) <= (lenD X:Int)) (by omega),decide_eq_true (p:=(q.size:Int) <= (lenD b.m:Int)) (by omega)] at h5;have hd1:dgOk (bytes p) = true:=by
     cases hd:dgOk (bytes p) with
     | true=>rfl
     | false=>rw [hd] at h5; cases h5
    rw [hd1] at h5;have hd2:dgOk (bytes q) = true:=by
     cases hd:dgOk (bytes q) with
     | true=>rfl
     | false=>rw [hd] at h5; cases h5
    obtain ⟨P,rfl⟩:∃ P,p = digB P:=by
     obtain ⟨a1,a2,a3⟩:=dgOk_iff.1 hd1;exact ⟨valL (bytes p),ba_inj (by rw [bytes_digB,(digL_val a2 a1 a3).1])⟩
    obtain ⟨U,rfl⟩:∃ U,q = digB U:=by
     obtain ⟨a1,a2,a3⟩:=dgOk_iff.1 hd2;exact ⟨valL (bytes q),ba_inj (by rw [bytes_digB,(digL_val a2 a1 a3).1])⟩
    clear h5;rw [size_digB] at hl1 hl2;rw [hd1,hd2,bytes_digB,bytes_digB,valL_dig,valL_dig] at hpi;rw [bytes_digB,bytes_digB] at gd;simp only [true_and] at hpi;have hge:(digB P = digB (X / b.m)/\digB U = digB (X % b.m)) ↔ (U < b.m/\P * b.m + U = X):=gd.trans hpi.symm;haveI:SzN P:=⟨by omega⟩
    haveI:SzN U:=⟨by omega⟩
    haveI:SzN (P * b.m):=⟨by have:=lenD_mul P b.m; omega⟩
    refine PV_run ?_;refine iHV_1 ?_;refine PV_run ?_;refine iHV_1 ?_;refine CV_pu ?_;intro z8 w8 hz8 hS8;clear hS7;rw [bytes_digB,bytes_digB];refine PV_run ?_;refine Cond_d (fun h6=>?_) (fun h6=>?_)
    ·refine mT _ _ (fun hg=>?_) hS8
     have:=ord_lt.1.2 (hge.1 hg).1;omega
    ·have hU:U < b.m:=ord_lt.1.1 (by omega)
     (repeat (first | (refine iDr ?_; intro _ _) | refine V_run ?_ | refine PV_run ?_ | refine HV_run ?_ | refine iV_ld1 ?_ | refine iV_ldN ?_ | (refine iV_bx ?_; intro _ _ _ _) | (refine iV_al ?_; intro _ _ _ _) | (refine iV_mm ?_; intro _ _ _ _) | (refine iU_st ?_; intro _ _) | refine iHV_1 ?_ | refine iHV_N ?_ | refine iRI_1 ?_ | refine iRI_N ?_ | refine Cond_t ?_ | refine Cond_f ?_ | refine JB ?_ | (refine JC ?_; intro _ _ _ _) | (refine JGB ?_; intro _ _ _ _) | refine K1 ?_ | refine K0 ?_ | refine K2 ?_ | refine K3 ?_ | refine K4 ?_ | (refine CV_pu ?_; intro _ _ _ _) | (refine CV_puz ?_; intro _ _ _ _) | refine fRI_1 ?_ | refine fRI_N ?_ | refine gHV_lkI ?_ | refine gRI_lkI ?_ | refine gV_lkI ?_ | refine fV_ldN ?_ | refine fV_ld1 ?_ | refine fHV_ldN ?_ | refine fHV_ld1 ?_ | refine NilW_some ?_ | refine iCW_1 ?_ | refine iCW_N ?_ | refine Pk_b ?_));rename_i hS9
     by_cases h7:P * b.m + U = X
     ·rw [show decide (digB (P * b.m + U) = digB X) = true from decide_eq_true (by rw [h7])]
      exact mF _ _ (hge.2 ⟨hU,h7⟩) hS9
     ·rw [show decide (digB (P * b.m + U) = digB X) = false from decide_eq_false (fun e=>h7 (by
       have:=congrArg bytes e;rw [bytes_digB,bytes_digB] at this;exact digL_inj this))]
      exact mT _ _ (fun hg=>h7 (hge.1 hg).2) hS9)⟩
end
section
open Go Q Go.RowKit
theorem adj_of {z:Z} {w:World} {n:Nm} (h:Bn n 300000):Fn1 151 #[n.num.v] z w fun _ r=>r = .int .i64 (adjN n):=by
 have:=(inferInstance:Pu 151 #[n.num.v] (.int .i64 (adjW n.num))).h z w;rw [num_adj h] at this;exact this
theorem adj_bn {n:Nm} {k:Nat} (h:Bn n k):-(k:Int) <= adjN n/\adjN n <= 2 * k:=by
 have h1:=h.len;have h2:=h.lo;have h3:=h.hi;have:=lenD_pos n.m;unfold adjN;omega
theorem whole_of {z:Z} {w:World} {a b:Nm} {k:Nat} (hk:k <= 1000) (ha:Bn a 15000) (hb:Bn b 15000) (hb0:b.m ≠ 0) :
  Fn1 173 #[a.num.v,b.num.v,.int .i64 k] z w fun _ r=>(∃ q s:Nm,wholeN a b k = .ok (q,s)/\r = .tuple #[q.num.v,s.num.v,.bool true]) \/ (∃ q s:NumM,wholeN a b k = .error 10/\r = .tuple #[q.v,s.v,.bool false]):=Fn1.intro fun hS=>en173 (by
 unfold vc173;have p1:=ha.len;have p2:=ha.lo;have p3:=ha.hi;have q1:=hb.len;have q2:=hb.lo;have q3:=hb.hi;have j1:=adj_bn ha;have j2:=adj_bn hb;haveI:Pu 151 #[.agg (litN a).toArray] (.int .i64 (adjN a)):=⟨fun z w=>adj_of (ha.mono (by omega))⟩
 haveI:Pu 151 #[.agg (litN b).toArray] (.int .i64 (adjN b)):=⟨fun z w=>adj_of (hb.mono (by omega))⟩
 haveI:InI (adjN a - adjN b):=⟨by omega⟩
 have u1:=bn_up (E:=min a.e b.e) ha (by omega);have u2:=bn_up (E:=min a.e b.e) hb (by omega);haveI:SzN (upN a (min a.e b.e)):=⟨by omega⟩
 haveI:SzN (upN b (min a.e b.e)):=⟨by omega⟩
 haveI:PosN (upN b (min a.e b.e)):=⟨up_pos hb0 _⟩
 haveI:InI (a.e - min a.e b.e):=⟨by omega⟩
 haveI:InI (b.e - min a.e b.e):=⟨by omega⟩
 haveI:Cnt (a.e - min a.e b.e):=⟨by omega,by omega⟩
 haveI:Cnt (b.e - min a.e b.e):=⟨by omega,by omega⟩
 rw [num_mk,num_mk];refine iV_bx ?_;intro c1 w1 hc1 hS1;refine iV_bx ?_;intro c2 w2 hc2 hS2;refine iV_al ?_;intro c3 w3 hc3 hS3;refine iV_al ?_;intro c4 w4 hc4 hS4;clear hS hS1 hS2 hS3;intro K0 hK0;have main:∀ w' z' c,(c = true ↔ (adjN a - adjN b > (k:Int)/\a.m ≠ 0))->Res w z [] w' z' [(c4,.cells [.bool false,.string ⟨#[]⟩,.int .i64 0].toArray 23 (0,0)),(c3,.cells [.bool false,.string ⟨#[]⟩,.int .i64 0].toArray 23 (0,0)),(c2,.cells (litN b).toArray 23 (0,0)),(c1,.cells (litN a).toArray 23 (0,0))]->K0 [.bool c] w':=by
  intro w' z' c hc hS';refine hK0 _ _ fun _=>?_
  clear hS4 hK0;refine Cond_b (fun h=>?_) (fun h=>?_)
  ·have h:=hc.1 h
   (repeat (first | (refine iDr ?_; intro _ _) | refine V_run ?_ | refine PV_run ?_ | refine HV_run ?_ | refine iV_ld1 ?_ | refine iV_ldN ?_ | (refine iV_bx ?_; intro _ _ _ _) | (refine iV_al ?_; intro _ _ _ _) | (refine iV_mm ?_; intro _ _ _ _) | (refine iU_st ?_; intro _ _) | refine iHV_1 ?_ | refine iHV_N ?_ | refine iRI_1 ?_ | refine iRI_N ?_ | refine Cond_t ?_ | refine Cond_f ?_ | refine JB ?_ | (refine JC ?_; intro _ _ _ _) | (refine JGB ?_; intro _ _ _ _) | refine K1 ?_ | refine K0 ?_ | refine K2 ?_ | refine K3 ?_ | refine K4 ?_ | (refine CV_pu ?_; intro _ _ _ _) | (refine CV_puz ?_; intro _ _ _ _) | refine fRI_1 ?_ | refine fRI_N ?_ | refine gHV_lkI ?_ | refine gRI_lkI ?_ | refine gV_lkI ?_ | refine fV_ldN ?_ | refine fV_ld1 ?_ | refine fHV_ldN ?_ | refine fHV_ld1 ?_ | refine NilW_some ?_ | refine iCW_1 ?_ | refine iCW_N ?_ | refine Pk_b ?_));exact ⟨_,_,‹_›,.inr ⟨noNum,noNum,by rw [wholeN,if_pos h],rfl⟩⟩
  ·have h:¬ (adjN a - adjN b > (k:Int)/\a.m ≠ 0):=fun h1=>by rw [hc.2 h1] at h; cases h
   have hV:wholeN a b k = if adjN a < adjN b then .ok (nz,mkN a.s (upN a (min a.e b.e)) (min a.e b.e)) else
    if lenD (upN a (min a.e b.e) / upN b (min a.e b.e)) <= k then .ok (mkN (a.s != b.s) (upN a (min a.e b.e) / upN b (min a.e b.e)) 0,mkN a.s (upN a (min a.e b.e) % upN b (min a.e b.e)) (min a.e b.e)) else .error 10:=by
    rw [wholeN,if_neg h]
   (repeat (first | (refine iDr ?_; intro _ _) | refine V_run ?_ | refine PV_run ?_ | refine HV_run ?_ | refine iV_ld1 ?_ | refine iV_ldN ?_ | (refine iV_bx ?_; intro _ _ _ _) | (refine iV_al ?_; intro _ _ _ _) | (refine iV_mm ?_; intro _ _ _ _) | (refine iU_st ?_; intro _ _) | refine iHV_1 ?_ | refine iHV_N ?_ | refine iRI_1 ?_ | refine iRI_N ?_ | refine Cond_t ?_ | refine Cond_f ?_ | refine JB ?_ | (refine JC ?_; intro _ _ _ _) | (refine JGB ?_; intro _ _ _ _) | refine K1 ?_ | refine K0 ?_ | refine K2 ?_ | refine K3 ?_ | refine K4 ?_ | (refine CV_pu ?_; intro _ _ _ _) | (refine CV_puz ?_; intro _ _ _ _) | refine fRI_1 ?_ | refine fRI_N ?_ | refine gHV_lkI ?_ | refine gRI_lkI ?_ | refine gV_lkI ?_ | refine fV_ldN ?_ | refine fV_ld1 ?_ | refine fHV_ldN ?_ | refine fHV_ld1 ?_ | refine NilW_some ?_ | refine iCW_1 ?_ | refine iCW_N ?_ | refine Pk_b ?_));refine V_strs [digB a.m,zerosB (a.e - min a.e b.e)] rfl rfl (by omega) (by rw [sizes2]; omega) ?_;intro v4 z4 hz4 w4 hS4 hv4;(repeat (first | (refine iDr ?_; intro _ _) | refine V_run ?_ | refine PV_run ?_ | refine HV_run ?_ | refine iV_ld1 ?_ | refine iV_ldN ?_ | (refine iV_bx ?_; intro _ _ _ _) | (refine iV_al ?_; intro _ _ _ _) | (refine iV_mm ?_; intro _ _ _ _) | (refine iU_st ?_; intro _ _) | refine iHV_1 ?_ | refine iHV_N ?_ | refine iRI_1 ?_ | refine iRI_N ?_ | refine Cond_t ?_ | refine Cond_f ?_ | refine JB ?_ | (refine JC ?_; intro _ _ _ _) | (refine JGB ?_; intro _ _ _ _) | refine K1 ?_ | refine K0 ?_ | refine K2 ?_ | refine K3 ?_ | refine K4 ?_ | (refine CV_pu ?_; intro _ _ _ _) | (refine CV_puz ?_; intro _ _ _ _) | refine fRI_1 ?_ | refine fRI_N ?_ | refine gHV_lkI ?_ | refine gRI_lkI ?_ | refine gV_lkI ?_ | refine fV_ldN ?_ | refine fV_ld1 ?_ | refine fHV_ldN ?_ | refine fHV_ld1 ?_ | refine NilW_some ?_ | refine iCW_1 ?_ | refine iCW_N ?_ | refine Pk_b ?_));refine CV_1 (joined_of hv4 (by simp) (by rw [sizes2]; omega)) ?_;rintro z5 w5 v5 hz5 hS5 rfl
   rw [joinB2];clear hS4;(repeat (first | (refine iDr ?_; intro _ _) | refine V_run ?_ | refine PV_run ?_ | refine HV_run ?_ | refine iV_ld1 ?_ | refine iV_ldN ?_ | (refine iV_bx ?_; intro _ _ _ _) | (refine iV_al ?_; intro _ _ _ _) | (refine iV_mm ?_; intro _ _ _ _) | (refine iU_st ?_; intro _ _) | refine iHV_1 ?_ | refine iHV_N ?_ | refine iRI_1 ?_ | refine iRI_N ?_ | refine Cond_t ?_ | refine Cond_f ?_ | refine JB ?_ | (refine JC ?_; intro _ _ _ _) | (refine JGB ?_; intro _ _ _ _) | refine K1 ?_ | refine K0 ?_ | refine K2 ?_ | refine K3 ?_ | refine K4 ?_ | (refine CV_pu ?_; intro _ _ _ _) | (refine CV_puz ?_; intro _ _ _ _) | refine fRI_1 ?_ | refine fRI_N ?_ | refine gHV_lkI ?_ | refine gRI_lkI ?_ | refine gV_lkI ?_ | refine fV_ldN ?_ | refine fV_ld1 ?_ | refine fHV_ldN ?_ | refine fHV_ld1 ?_ | refine NilW_some ?_ | refine iCW_1 ?_ | refine iCW_N ?_ | refine Pk_b ?_));rw [shift_dig,show a.m * 10 ^ (a.e - min a.e b.e).toNat = upN a (min a.e b.e) from rfl];refine Cond_d (fun h2=>?_) (fun h2=>?_)
   ·rw [if_pos h2] at hV
    (repeat (first | (refine iDr ?_; intro _ _) | refine V_run ?_ | refine PV_run ?_ | refine HV_run ?_ | refine iV_ld1 ?_ | refine iV_ldN ?_ | (refine iV_bx ?_; intro _ _ _ _) | (refine iV_al ?_; intro _ _ _ _) | (refine iV_mm ?_; intro _ _ _ _) | (refine iU_st ?_; intro _ _) | refine iHV_1 ?_ | refine iHV_N ?_ | refine iRI_1 ?_ | refine iRI_N ?_ | refine Cond_t ?_ | refine Cond_f ?_ | refine JB ?_ | (refine JC ?_; intro _ _ _ _) | (refine JGB ?_; intro _ _ _ _) | refine K1 ?_ | refine K0 ?_ | refine K2 ?_ | refine K3 ?_ | refine K4 ?_ | (refine CV_pu ?_; intro _ _ _ _) | (refine CV_puz ?_; intro _ _ _ _) | refine fRI_1 ?_ | refine fRI_N ?_ | refine gHV_lkI ?_ | refine gRI_lkI ?_ | refine gV_lkI ?_ | refine fV_ldN ?_ | refine fV_ld1 ?_ | refine fHV_ldN ?_ | refine fHV_ld1 ?_ | refine NilW_some ?_ | refine iCW_1 ?_ | refine iCW_N ?_ | refine Pk_b ?_));refine ⟨_,_,‹_›,.inl ⟨nz,_,hV,?_⟩⟩;rw [<- zero_num]
   ·rw [if_neg h2] at hV
    (repeat (first | (refine iDr ?_; intro _ _) | refine V_run ?_ | refine PV_run ?_ | refine HV_run ?_ | refine iV_ld1 ?_ | refine iV_ldN ?_ | (refine iV_bx ?_; intro _ _ _ _) | (refine iV_al ?_; intro _ _ _ _) | (refine iV_mm ?_; intro _ _ _ _) | (refine iU_st ?_; intro _ _) | refine iHV_1 ?_ | refine iHV_N ?_ | refine iRI_1 ?_ | refine iRI_N ?_ | refine Cond_t ?_ | refine Cond_f ?_ | refine JB ?_ | (refine JC ?_; intro _ _ _ _) | (refine JGB ?_; intro _ _ _ _) | refine K1 ?_ | refine K0 ?_ | refine K2 ?_ | refine K3 ?_ | refine K4 ?_ | (refine CV_pu ?_; intro _ _ _ _) | (refine CV_puz ?_; intro _ _ _ _) | refine fRI_1 ?_ | refine fRI_N ?_ | refine gHV_lkI ?_ | refine gRI_lkI ?_ | refine gV_lkI ?_ | refine fV_ldN ?_ | refine fV_ld1 ?_ | refine fHV_ldN ?_ | refine fHV_ld1 ?_ | refine NilW_some ?_ | refine iCW_1 ?_ | refine iCW_N ?_ | refine Pk_b ?_));refine V_strs [digB b.m,zerosB (b.e - min a.e b.e)] rfl rfl (by omega) (by rw [sizes2]; omega) ?_;intro v6 z6 hz6 w6 hS6 hv6;clear hS5;(repeat (first | (refine iDr ?_; intro _ _) | refine V_run ?_ | refine PV_run ?_ | refine HV_run ?_ | refine iV_ld1 ?_ | refine iV_ldN ?_ | (refine iV_bx ?_; intro _ _ _ _) | (refine iV_al ?_; intro _ _ _ _) | (refine iV_mm ?_; intro _ _ _ _) | (refine iU_st ?_; intro _ _) | refine iHV_1 ?_ | refine iHV_N ?_ | refine iRI_1 ?_ | refine iRI_N ?_ | refine Cond_t ?_ | refine Cond_f ?_ | refine JB ?_ | (refine JC ?_; intro _ _ _ _) | (refine JGB ?_; intro _ _ _ _) | refine K1 ?_ | refine K0 ?_ | refine K2 ?_ | refine K3 ?_ | refine K4 ?_ | (refine CV_pu ?_; intro _ _ _ _) | (refine CV_puz ?_; intro _ _ _ _) | refine fRI_1 ?_ | refine fRI_N ?_ | refine gHV_lkI ?_ | refine gRI_lkI ?_ | refine gV_lkI ?_ | refine fV_ldN ?_ | refine fV_ld1 ?_ | refine fHV_ldN ?_ | refine fHV_ld1 ?_ | refine NilW_some ?_ | refine iCW_1 ?_ | refine iCW_N ?_ | refine Pk_b ?_));refine CV_1 (joined_of hv6 (by simp) (by rw [sizes2]; omega)) ?_;rintro z7 w7 v7 hz7 hS7 rfl
    rw [joinB2];clear hS6;have hsh:digB b.m ++ zerosB (b.e - min a.e b.e) = digB (upN b (min a.e b.e)):=by
     refine ba_inj ?_;rw [bytes_add,bytes_digB,zerosB,bytes_mk,bytes_digB];exact (digL_shift (by omega)).symm
    rw [hsh];(repeat (first | (refine iDr ?_; intro _ _) | refine V_run ?_ | refine PV_run ?_ | refine HV_run ?_ | refine iV_ld1 ?_ | refine iV_ldN ?_ | (refine iV_bx ?_; intro _ _ _ _) | (refine iV_al ?_; intro _ _ _ _) | (refine iV_mm ?_; intro _ _ _ _) | (refine iU_st ?_; intro _ _) | refine iHV_1 ?_ | refine iHV_N ?_ | refine iRI_1 ?_ | refine iRI_N ?_ | refine Cond_t ?_ | refine Cond_f ?_ | refine JB ?_ | (refine JC ?_; intro _ _ _ _) | (refine JGB ?_; intro _ _ _ _) | refine K1 ?_ | refine K0 ?_ | refine K2 ?_ | refine K3 ?_ | refine K4 ?_ | (refine CV_pu ?_; intro _ _ _ _) | (refine CV_puz ?_; intro _ _ _ _) | refine fRI_1 ?_ | refine fRI_N ?_ | refine gHV_lkI ?_ | refine gRI_lkI ?_ | refine gV_lkI ?_ | refine fV_ldN ?_ | refine fV_ld1 ?_ | refine fHV_ldN ?_ | refine fHV_ld1 ?_ | refine NilW_some ?_ | refine iCW_1 ?_ | refine iCW_N ?_ | refine Pk_b ?_));refine ⟨_,_,‹_›,?_⟩;rw [size_digB]
    by_cases h3:lenD (upN a (min a.e b.e) / upN b (min a.e b.e)) <= k
    ·rw [if_pos h3] at hV
     exact .inl ⟨_,_,hV,by rw [decide_eq_true (by omega)]; rfl⟩
    ·rw [if_neg h3] at hV
     exact .inr ⟨_,_,hV,by rw [decide_eq_false (by omega)]⟩
 clear hK0;(repeat (first | (refine iDr ?_; intro _ _) | refine V_run ?_ | refine PV_run ?_ | refine HV_run ?_ | refine iV_ld1 ?_ | refine iV_ldN ?_ | (refine iV_bx ?_; intro _ _ _ _) | (refine iV_al ?_; intro _ _ _ _) | (refine iV_mm ?_; intro _ _ _ _) | (refine iU_st ?_; intro _ _) | refine iHV_1 ?_ | refine iHV_N ?_ | refine iRI_1 ?_ | refine iRI_N ?_ | refine Cond_t ?_ | refine Cond_f ?_ | refine JB ?_ | (refine JC ?_; intro _ _ _ _) | (refine JGB ?_; intro _ _ _ _) | refine K1 ?_ | refine K0 ?_ | refine K2 ?_ | refine K3 ?_ | refine K4 ?_ | (refine CV_pu ?_; intro _ _ _ _) | (refine CV_puz ?_; intro _ _ _ _) | refine fRI_1 ?_ | refine fRI_N ?_ | refine gHV_lkI ?_ | refine gRI_lkI ?_ | refine gV_lkI ?_ | refine fV_ldN ?_ | refine fV_ld1 ?_ | refine fHV_ldN ?_ | refine fHV_ld1 ?_ | refine NilW_some ?_ | refine iCW_1 ?_ | refine iCW_N ?_ | refine Pk_b ?_));refine Cond_d (fun h=>?_) (fun h=>?_)
 ·(repeat (first | (refine iDr ?_; intro _ _) | refine V_run ?_ | refine PV_run ?_ | refine HV_run ?_ | refine iV_ld1 ?_ | refine iV_ldN ?_ | (refine iV_bx ?_; intro _ _ _ _) | (refine iV_al ?_; intro _ _ _ _) | (refine iV_mm ?_; intro _ _ _ _) | (refine iU_st ?_; intro _ _) | refine iHV_1 ?_ | refine iHV_N ?_ | refine iRI_1 ?_ | refine iRI_N ?_ | refine Cond_t ?_ | refine Cond_f ?_ | refine JB ?_ | (refine JC ?_; intro _ _ _ _) | (refine JGB ?_; intro _ _ _ _) | refine K1 ?_ | refine K0 ?_ | refine K2 ?_ | refine K3 ?_ | refine K4 ?_ | (refine CV_pu ?_; intro _ _ _ _) | (refine CV_puz ?_; intro _ _ _ _) | refine fRI_1 ?_ | refine fRI_N ?_ | refine gHV_lkI ?_ | refine gRI_lkI ?_ | refine gV_lkI ?_ | refine fV_ldN ?_ | refine fV_ld1 ?_ | refine fHV_ldN ?_ | refine fHV_ld1 ?_ | refine NilW_some ?_ | refine iCW_1 ?_ | refine iCW_N ?_ | refine Pk_b ?_))
  rw [lit_zero ha.c];exact main _ _ _ (by simp; omega) ‹_›
 ·exact main _ _ _ (by simp; omega) ‹_›)
end
section
open Go Q Go.RowKit
abbrev whV (r:Except Int (Nm × Nm)):Value:=.tuple #[(pA r).v,(pB r).v,.int .i64 (pE r)]
theorem wh_some {x y:NumM} {d:Int} {a b:Nm} {k:Nat} (h:opd2 x y d = .ok (a,b)) (hd:d = (k:Int)):wholeR x y d = if b.m = 0 then .error 9 else wholeN a b k:=by
 subst hd;rw [wholeR,h];simp only [bindE,Int.toNat_natCast]
theorem wh_none {x y:NumM} {d:Int} {e:Int} (h:opd2 x y d = .error e):wholeR x y d = .error e:=by
 rw [wholeR,h]; rfl
abbrev z3:List Value:=[.bool false,.string ⟨#[]⟩,.int .i64 0]
instance {x y:NumM} {d:Int} [hx:Sm x.digits] [hy:Sm y.digits]:Pu 125 #[x.v,y.v,.int .i64 d] (whV (wholeR x y d)):=⟨fun z w=>Fn1.intro fun hS=>en125 (by
 unfold vc125;generalize hRR:(fun (v:Value) (w':World)=>∃ z' L',Res w z [] w' z' L'/\v = whV (wholeR x y d)) = RR;have hR:∀ z' w' L' r,Res w z [] w' z' L'->wholeR x y d = r->RR (whV r) w':=fun z' w' L' r k e=>by rw [<- hRR]; exact ⟨_,_,k,by rw [e]⟩
 clear hRR;refine iV_bx ?_;intro c1 w1 hc1 hS1;refine iV_bx ?_;intro c2 w2 hc2 hS2;refine iV_al ?_;intro c3 w3 hc3 hS3;refine iV_al ?_;intro c4 w4 hc4 hS4;clear hS hS1 hS2 hS3;(repeat (first | (refine iDr ?_; intro _ _) | refine V_run ?_ | refine PV_run ?_ | refine HV_run ?_ | refine iV_ld1 ?_ | refine iV_ldN ?_ | (refine iV_bx ?_; intro _ _ _ _) | (refine iV_al ?_; intro _ _ _ _) | (refine iV_mm ?_; intro _ _ _ _) | (refine iU_st ?_; intro _ _) | refine iHV_1 ?_ | refine iHV_N ?_ | refine iRI_1 ?_ | refine iRI_N ?_ | refine Cond_t ?_ | refine Cond_f ?_ | refine JB ?_ | (refine JC ?_; intro _ _ _ _) | (refine JGB ?_; intro _ _ _ _) | refine K1 ?_ | refine K0 ?_ | refine K2 ?_ | refine K3 ?_ | refine K4 ?_ | (refine CV_pu ?_; intro _ _ _ _) | (refine CV_puz ?_; intro _ _ _ _) | refine fRI_1 ?_ | refine fRI_N ?_ | refine gHV_lkI ?_ | refine gRI_lkI ?_ | refine gV_lkI ?_ | refine fV_ldN ?_ | refine fV_ld1 ?_ | refine fHV_ldN ?_ | refine fHV_ld1 ?_ | refine NilW_some ?_ | refine iCW_1 ?_ | refine iCW_N ?_ | refine Pk_b ?_));refine V_asked2 (d:=d) ?_ ?_
 ·intro e z1 w1 h1 h2 hz1 hS1
  (repeat (first | (refine iDr ?_; intro _ _) | refine V_run ?_ | refine PV_run ?_ | refine HV_run ?_ | refine iV_ld1 ?_ | refine iV_ldN ?_ | (refine iV_bx ?_; intro _ _ _ _) | (refine iV_al ?_; intro _ _ _ _) | (refine iV_mm ?_; intro _ _ _ _) | (refine iU_st ?_; intro _ _) | refine iHV_1 ?_ | refine iHV_N ?_ | refine iRI_1 ?_ | refine iRI_N ?_ | refine Cond_t ?_ | refine Cond_f ?_ | refine JB ?_ | (refine JC ?_; intro _ _ _ _) | (refine JGB ?_; intro _ _ _ _) | refine K1 ?_ | refine K0 ?_ | refine K2 ?_ | refine K3 ?_ | refine K4 ?_ | (refine CV_pu ?_; intro _ _ _ _) | (refine CV_puz ?_; intro _ _ _ _) | refine fRI_1 ?_ | refine fRI_N ?_ | refine gHV_lkI ?_ | refine gRI_lkI ?_ | refine gV_lkI ?_ | refine fV_ldN ?_ | refine fV_ld1 ?_ | refine fHV_ldN ?_ | refine fHV_ld1 ?_ | refine NilW_some ?_ | refine iCW_1 ?_ | refine iCW_N ?_ | refine Pk_b ?_));rw [decide_eq_false h2];refine Cond_t ?_;(repeat (first | (refine iDr ?_; intro _ _) | refine V_run ?_ | refine PV_run ?_ | refine HV_run ?_ | refine iV_ld1 ?_ | refine iV_ldN ?_ | (refine iV_bx ?_; intro _ _ _ _) | (refine iV_al ?_; intro _ _ _ _) | (refine iV_mm ?_; intro _ _ _ _) | (refine iU_st ?_; intro _ _) | refine iHV_1 ?_ | refine iHV_N ?_ | refine iRI_1 ?_ | refine iRI_N ?_ | refine Cond_t ?_ | refine Cond_f ?_ | refine JB ?_ | (refine JC ?_; intro _ _ _ _) | (refine JGB ?_; intro _ _ _ _) | refine K1 ?_ | refine K0 ?_ | refine K2 ?_ | refine K3 ?_ | refine K4 ?_ | (refine CV_pu ?_; intro _ _ _ _) | (refine CV_puz ?_; intro _ _ _ _) | refine fRI_1 ?_ | refine fRI_N ?_ | refine gHV_lkI ?_ | refine gRI_lkI ?_ | refine gV_lkI ?_ | refine fV_ldN ?_ | refine fV_ld1 ?_ | refine fHV_ldN ?_ | refine fHV_ld1 ?_ | refine NilW_some ?_ | refine iCW_1 ?_ | refine iCW_N ?_ | refine Pk_b ?_));exact hR _ _ _ (.error e) ‹_› (wh_none h1)
 ·intro a b bb off cap z1 w1 h1 hz1 hS1 g1 g2
  clear hS4;obtain ⟨k,rfl,hk1,hk2,ha,hb,_⟩:=opd2_k h1;have hO:Res w1 z1 [(c4,.cells z3.toArray 23 (0,0)),(c3,.cells z3.toArray 23 (0,0)),(c2,.cells y.cells.toArray 23 (0,0)),(c1,.cells x.cells.toArray 23 (0,0))] w1 z1 [(c4,.cells z3.toArray 23 (0,0)),(c3,.cells z3.toArray 23 (0,0)),(c2,.cells y.cells.toArray 23 (0,0)),(c1,.cells x.cells.toArray 23 (0,0))]:=hS1.self;have hR2:∀ z' w' L' r,Res w1 z1 [(c4,.cells z3.toArray 23 (0,0)),(c3,.cells z3.toArray 23 (0,0)),(c2,.cells y.cells.toArray 23 (0,0)),(c1,.cells x.cells.toArray 23 (0,0))] w' z' L'->wholeR x y (k:Int) = r->RR (whV r) w':=fun z' w' L' r k e=>hR _ _ _ _ (hS1.comp k) e
  generalize hLL:[(c4,Obj.cells z3.toArray 23 (0,0)),(c3,Obj.cells z3.toArray 23 (0,0)),(c2,.cells y.cells.toArray 23 (0,0)),(c1,.cells x.cells.toArray 23 (0,0))] = LL at hR2;replace hO:Res w1 z1 LL w1 z1 [(c4,.cells z3.toArray 23 (0,0)),(c3,.cells z3.toArray 23 (0,0)),(c2,.cells y.cells.toArray 23 (0,0)),(c1,.cells x.cells.toArray 23 (0,0))]:=by rw [<- hLL]; exact hO
  clear hS1 hR hLL;haveI:Fz z1 bb off (litN a):=⟨g1⟩
  haveI:Fz z1 bb (off + 3) (litN b):=⟨g2⟩
  haveI:AddN off ((0:Int).toNat * 3) off:=⟨rfl⟩
  haveI:AddN off ((1:Int).toNat * 3) (off + 3):=⟨rfl⟩
  haveI:InR 0 2:=⟨by decide,by decide⟩
  haveI:InR 1 2:=⟨by decide,by decide⟩
  have hBa:=bn_ok ha;have hBb:=bn_ok hb;have hwh:=wh_some h1 rfl;(repeat (first | (refine iDr ?_; intro _ _) | refine V_run ?_ | refine PV_run ?_ | refine HV_run ?_ | refine iV_ld1 ?_ | refine iV_ldN ?_ | (refine iV_bx ?_; intro _ _ _ _) | (refine iV_al ?_; intro _ _ _ _) | (refine iV_mm ?_; intro _ _ _ _) | (refine iU_st ?_; intro _ _) | refine iHV_1 ?_ | refine iHV_N ?_ | refine iRI_1 ?_ | refine iRI_N ?_ | refine Cond_t ?_ | refine Cond_f ?_ | refine JB ?_ | (refine JC ?_; intro _ _ _ _) | (refine JGB ?_; intro _ _ _ _) | refine K1 ?_ | refine K0 ?_ | refine K2 ?_ | refine K3 ?_ | refine K4 ?_ | (refine CV_pu ?_; intro _ _ _ _) | (refine CV_puz ?_; intro _ _ _ _) | refine fRI_1 ?_ | refine fRI_N ?_ | refine gHV_lkI ?_ | refine gRI_lkI ?_ | refine gV_lkI ?_ | refine fV_ldN ?_ | refine fV_ld1 ?_ | refine fHV_ldN ?_ | refine fHV_ld1 ?_ | refine NilW_some ?_ | refine iCW_1 ?_ | refine iCW_N ?_ | refine Pk_b ?_));rw [lit_zero hBb.c];refine Cond_d (fun h=>?_) (fun h=>?_)
  ·rw [if_pos h] at hwh
   (repeat (first | (refine iDr ?_; intro _ _) | refine V_run ?_ | refine PV_run ?_ | refine HV_run ?_ | refine iV_ld1 ?_ | refine iV_ldN ?_ | (refine iV_bx ?_; intro _ _ _ _) | (refine iV_al ?_; intro _ _ _ _) | (refine iV_mm ?_; intro _ _ _ _) | (refine iU_st ?_; intro _ _) | refine iHV_1 ?_ | refine iHV_N ?_ | refine iRI_1 ?_ | refine iRI_N ?_ | refine Cond_t ?_ | refine Cond_f ?_ | refine JB ?_ | (refine JC ?_; intro _ _ _ _) | (refine JGB ?_; intro _ _ _ _) | refine K1 ?_ | refine K0 ?_ | refine K2 ?_ | refine K3 ?_ | refine K4 ?_ | (refine CV_pu ?_; intro _ _ _ _) | (refine CV_puz ?_; intro _ _ _ _) | refine fRI_1 ?_ | refine fRI_N ?_ | refine gHV_lkI ?_ | refine gRI_lkI ?_ | refine gV_lkI ?_ | refine fV_ldN ?_ | refine fV_ld1 ?_ | refine fHV_ldN ?_ | refine fHV_ld1 ?_ | refine NilW_some ?_ | refine iCW_1 ?_ | refine iCW_N ?_ | refine Pk_b ?_));exact hR2 _ _ _ (.error 9) ‹_› hwh
  ·rw [if_neg h] at hwh
   rename_i hS2;clear hO;intro K0 hK0;have main:∀ w' z' c11 c12 (q s:NumM) (t:Bool),((t = true/\∃ q' s',wholeN a b k = .ok (q',s')/\q = q'.num/\s = s'.num) \/ (t = false/\wholeN a b k = .error 10)) ->
     Res w1 z1 LL w' z' ((c11,.cells q.cells.toArray 23 (0,0)) :: (c12,.cells s.cells.toArray 23 (0,0)) :: [(c4,.cells z3.toArray 23 (0,0)),(c3,.cells z3.toArray 23 (0,0)),(c2,.cells y.cells.toArray 23 (0,0)),(c1,.cells x.cells.toArray 23 (0,0))])->K0 [.pointer (some ⟨c11,0,none⟩),.pointer (some ⟨c12,0,none⟩),.bool t] w':=by
    intro w' z' c11 c12 q s t ht hS';refine hK0 _ _ _ _ fun _=>?_
    clear hS2 hK0
    rcases ht with ⟨rfl,q',s',e1,rfl,rfl⟩ | ⟨rfl,e1⟩
    ·(repeat (first | (refine iDr ?_; intro _ _) | refine V_run ?_ | refine PV_run ?_ | refine HV_run ?_ | refine iV_ld1 ?_ | refine iV_ldN ?_ | (refine iV_bx ?_; intro _ _ _ _) | (refine iV_al ?_; intro _ _ _ _) | (refine iV_mm ?_; intro _ _ _ _) | (refine iU_st ?_; intro _ _) | refine iHV_1 ?_ | refine iHV_N ?_ | refine iRI_1 ?_ | refine iRI_N ?_ | refine Cond_t ?_ | refine Cond_f ?_ | refine JB ?_ | (refine JC ?_; intro _ _ _ _) | (refine JGB ?_; intro _ _ _ _) | refine K1 ?_ | refine K0 ?_ | refine K2 ?_ | refine K3 ?_ | refine K4 ?_ | (refine CV_pu ?_; intro _ _ _ _) | (refine CV_puz ?_; intro _ _ _ _) | refine fRI_1 ?_ | refine fRI_N ?_ | refine gHV_lkI ?_ | refine gRI_lkI ?_ | refine gV_lkI ?_ | refine fV_ldN ?_ | refine fV_ld1 ?_ | refine fHV_ldN ?_ | refine fHV_ld1 ?_ | refine NilW_some ?_ | refine iCW_1 ?_ | refine iCW_N ?_ | refine Pk_b ?_))
     exact hR2 _ _ _ (.ok (q',s')) ‹_› (by rw [hwh,e1])
    ·(repeat (first | (refine iDr ?_; intro _ _) | refine V_run ?_ | refine PV_run ?_ | refine HV_run ?_ | refine iV_ld1 ?_ | refine iV_ldN ?_ | (refine iV_bx ?_; intro _ _ _ _) | (refine iV_al ?_; intro _ _ _ _) | (refine iV_mm ?_; intro _ _ _ _) | (refine iU_st ?_; intro _ _) | refine iHV_1 ?_ | refine iHV_N ?_ | refine iRI_1 ?_ | refine iRI_N ?_ | refine Cond_t ?_ | refine Cond_f ?_ | refine JB ?_ | (refine JC ?_; intro _ _ _ _) | (refine JGB ?_; intro _ _ _ _) | refine K1 ?_ | refine K0 ?_ | refine K2 ?_ | refine K3 ?_ | refine K4 ?_ | (refine CV_pu ?_; intro _ _ _ _) | (refine CV_puz ?_; intro _ _ _ _) | refine fRI_1 ?_ | refine fRI_N ?_ | refine gHV_lkI ?_ | refine gRI_lkI ?_ | refine gV_lkI ?_ | refine fV_ldN ?_ | refine fV_ld1 ?_ | refine fHV_ldN ?_ | refine fHV_ld1 ?_ | refine NilW_some ?_ | refine iCW_1 ?_ | refine iCW_N ?_ | refine Pk_b ?_))
     exact hR2 _ _ _ (.error 10) ‹_› (by rw [hwh,e1])
   clear hK0 hR2;have hW:∀ z w,Fn1 173 #[.agg (litN a).toArray,.agg (litN b).toArray,.int .i64 (k:Int)] z w fun _ r=>∃ (q s:NumM) (t:Bool),r = .tuple #[q.v,s.v,.bool t]/\((t = true/\∃ q' s',wholeN a b k = .ok (q',s')/\q = q'.num/\s = s'.num) \/ (t = false/\wholeN a b k = .error 10)):=fun z w=>(whole_of (by omega) (hBa.mono (by omega)) (hBb.mono (by omega)) h).mono fun z' r hr=>by
    rcases hr with ⟨q,s,e1,e2⟩ | ⟨q,s,e1,e2⟩
    ·exact ⟨_,_,_,e2,.inl ⟨rfl,q,s,e1,rfl,rfl⟩⟩
    ·exact ⟨_,_,_,e2,.inr ⟨rfl,e1⟩⟩
   (repeat (first | (refine iDr ?_; intro _ _) | refine V_run ?_ | refine PV_run ?_ | refine HV_run ?_ | refine iV_ld1 ?_ | refine iV_ldN ?_ | (refine iV_bx ?_; intro _ _ _ _) | (refine iV_al ?_; intro _ _ _ _) | (refine iV_mm ?_; intro _ _ _ _) | (refine iU_st ?_; intro _ _) | refine iHV_1 ?_ | refine iHV_N ?_ | refine iRI_1 ?_ | refine iRI_N ?_ | refine Cond_t ?_ | refine Cond_f ?_ | refine JB ?_ | (refine JC ?_; intro _ _ _ _) | (refine JGB ?_; intro _ _ _ _) | refine K1 ?_ | refine K0 ?_ | refine K2 ?_ | refine K3 ?_ | refine K4 ?_ | (refine CV_pu ?_; intro _ _ _ _) | (refine CV_puz ?_; intro _ _ _ _) | refine fRI_1 ?_ | refine fRI_N ?_ | refine gHV_lkI ?_ | refine gRI_lkI ?_ | refine gV_lkI ?_ | refine fV_ldN ?_ | refine fV_ld1 ?_ | refine fHV_ldN ?_ | refine fHV_ld1 ?_ | refine NilW_some ?_ | refine iCW_1 ?_ | refine iCW_N ?_ | refine Pk_b ?_));clear hS2;refine ⟨?_,?_,?_⟩
   ·refine CV_1 (hW _ _) ?_
    rintro z5 w5 v5 hz5 hS5 ⟨q,s,t,rfl,ht⟩
    (repeat (first | (refine iDr ?_; intro _ _) | refine V_run ?_ | refine PV_run ?_ | refine HV_run ?_ | refine iV_ld1 ?_ | refine iV_ldN ?_ | (refine iV_bx ?_; intro _ _ _ _) | (refine iV_al ?_; intro _ _ _ _) | (refine iV_mm ?_; intro _ _ _ _) | (refine iU_st ?_; intro _ _) | refine iHV_1 ?_ | refine iHV_N ?_ | refine iRI_1 ?_ | refine iRI_N ?_ | refine Cond_t ?_ | refine Cond_f ?_ | refine JB ?_ | (refine JC ?_; intro _ _ _ _) | (refine JGB ?_; intro _ _ _ _) | refine K1 ?_ | refine K0 ?_ | refine K2 ?_ | refine K3 ?_ | refine K4 ?_ | (refine CV_pu ?_; intro _ _ _ _) | (refine CV_puz ?_; intro _ _ _ _) | refine fRI_1 ?_ | refine fRI_N ?_ | refine gHV_lkI ?_ | refine gRI_lkI ?_ | refine gV_lkI ?_ | refine fV_ldN ?_ | refine fV_ld1 ?_ | refine fHV_ldN ?_ | refine fHV_ld1 ?_ | refine NilW_some ?_ | refine iCW_1 ?_ | refine iCW_N ?_ | refine Pk_b ?_));refine ⟨?_,?_⟩
    ·refine iV_al ?_
     intro d1 w6 hd1 hS6;refine iV_al ?_;intro d2 w7 hd2 hS7;clear hS5 hS6;(repeat (first | (refine iDr ?_; intro _ _) | refine V_run ?_ | refine PV_run ?_ | refine HV_run ?_ | refine iV_ld1 ?_ | refine iV_ldN ?_ | (refine iV_bx ?_; intro _ _ _ _) | (refine iV_al ?_; intro _ _ _ _) | (refine iV_mm ?_; intro _ _ _ _) | (refine iU_st ?_; intro _ _) | refine iHV_1 ?_ | refine iHV_N ?_ | refine iRI_1 ?_ | refine iRI_N ?_ | refine Cond_t ?_ | refine Cond_f ?_ | refine JB ?_ | (refine JC ?_; intro _ _ _ _) | (refine JGB ?_; intro _ _ _ _) | refine K1 ?_ | refine K0 ?_ | refine K2 ?_ | refine K3 ?_ | refine K4 ?_ | (refine CV_pu ?_; intro _ _ _ _) | (refine CV_puz ?_; intro _ _ _ _) | refine fRI_1 ?_ | refine fRI_N ?_ | refine gHV_lkI ?_ | refine gRI_lkI ?_ | refine gV_lkI ?_ | refine fV_ldN ?_ | refine fV_ld1 ?_ | refine fHV_ldN ?_ | refine fHV_ld1 ?_ | refine NilW_some ?_ | refine iCW_1 ?_ | refine iCW_N ?_ | refine Pk_b ?_));rename_i hS8;exact main _ _ _ _ _ _ _ ht (hS8.perm (List.Perm.swap _ _ _))
    ·refine iV_al ?_
     intro d1 w6 hd1 hS6;refine iV_al ?_;intro d2 w7 hd2 hS7;clear hS5 hS6;(repeat (first | (refine iDr ?_; intro _ _) | refine V_run ?_ | refine PV_run ?_ | refine HV_run ?_ | refine iV_ld1 ?_ | refine iV_ldN ?_ | (refine iV_bx ?_; intro _ _ _ _) | (refine iV_al ?_; intro _ _ _ _) | (refine iV_mm ?_; intro _ _ _ _) | (refine iU_st ?_; intro _ _) | refine iHV_1 ?_ | refine iHV_N ?_ | refine iRI_1 ?_ | refine iRI_N ?_ | refine Cond_t ?_ | refine Cond_f ?_ | refine JB ?_ | (refine JC ?_; intro _ _ _ _) | (refine JGB ?_; intro _ _ _ _) | refine K1 ?_ | refine K0 ?_ | refine K2 ?_ | refine K3 ?_ | refine K4 ?_ | (refine CV_pu ?_; intro _ _ _ _) | (refine CV_puz ?_; intro _ _ _ _) | refine fRI_1 ?_ | refine fRI_N ?_ | refine gHV_lkI ?_ | refine gRI_lkI ?_ | refine gV_lkI ?_ | refine fV_ldN ?_ | refine fV_ld1 ?_ | refine fHV_ldN ?_ | refine fHV_ld1 ?_ | refine NilW_some ?_ | refine iCW_1 ?_ | refine iCW_N ?_ | refine Pk_b ?_));rename_i hS8;exact main _ _ _ _ _ _ _ ht hS8
   ·refine iV_al ?_
    intro d1 w6 hd1 hS6;(repeat (first | (refine iDr ?_; intro _ _) | refine V_run ?_ | refine PV_run ?_ | refine HV_run ?_ | refine iV_ld1 ?_ | refine iV_ldN ?_ | (refine iV_bx ?_; intro _ _ _ _) | (refine iV_al ?_; intro _ _ _ _) | (refine iV_mm ?_; intro _ _ _ _) | (refine iU_st ?_; intro _ _) | refine iHV_1 ?_ | refine iHV_N ?_ | refine iRI_1 ?_ | refine iRI_N ?_ | refine Cond_t ?_ | refine Cond_f ?_ | refine JB ?_ | (refine JC ?_; intro _ _ _ _) | (refine JGB ?_; intro _ _ _ _) | refine K1 ?_ | refine K0 ?_ | refine K2 ?_ | refine K3 ?_ | refine K4 ?_ | (refine CV_pu ?_; intro _ _ _ _) | (refine CV_puz ?_; intro _ _ _ _) | refine fRI_1 ?_ | refine fRI_N ?_ | refine gHV_lkI ?_ | refine gRI_lkI ?_ | refine gV_lkI ?_ | refine fV_ldN ?_ | refine fV_ld1 ?_ | refine fHV_ldN ?_ | refine fHV_ld1 ?_ | refine NilW_some ?_ | refine iCW_1 ?_ | refine iCW_N ?_ | refine Pk_b ?_));refine ⟨?_,?_⟩
    ·refine CV_1 (hW _ _) ?_
     rintro z5 w5 v5 hz5 hS5 ⟨q,s,t,rfl,ht⟩
     clear hS6;(repeat (first | (refine iDr ?_; intro _ _) | refine V_run ?_ | refine PV_run ?_ | refine HV_run ?_ | refine iV_ld1 ?_ | refine iV_ldN ?_ | (refine iV_bx ?_; intro _ _ _ _) | (refine iV_al ?_; intro _ _ _ _) | (refine iV_mm ?_; intro _ _ _ _) | (refine iU_st ?_; intro _ _) | refine iHV_1 ?_ | refine iHV_N ?_ | refine iRI_1 ?_ | refine iRI_N ?_ | refine Cond_t ?_ | refine Cond_f ?_ | refine JB ?_ | (refine JC ?_; intro _ _ _ _) | (refine JGB ?_; intro _ _ _ _) | refine K1 ?_ | refine K0 ?_ | refine K2 ?_ | refine K3 ?_ | refine K4 ?_ | (refine CV_pu ?_; intro _ _ _ _) | (refine CV_puz ?_; intro _ _ _ _) | refine fRI_1 ?_ | refine fRI_N ?_ | refine gHV_lkI ?_ | refine gRI_lkI ?_ | refine gV_lkI ?_ | refine fV_ldN ?_ | refine fV_ld1 ?_ | refine fHV_ldN ?_ | refine fHV_ld1 ?_ | refine NilW_some ?_ | refine iCW_1 ?_ | refine iCW_N ?_ | refine Pk_b ?_));rename_i hS8;exact main _ _ _ _ _ _ _ ht (hS8.perm (List.Perm.swap _ _ _))
    ·refine iV_al ?_
     intro d2 w7 hd2 hS7;clear hS6;(repeat (first | (refine iDr ?_; intro _ _) | refine V_run ?_ | refine PV_run ?_ | refine HV_run ?_ | refine iV_ld1 ?_ | refine iV_ldN ?_ | (refine iV_bx ?_; intro _ _ _ _) | (refine iV_al ?_; intro _ _ _ _) | (refine iV_mm ?_; intro _ _ _ _) | (refine iU_st ?_; intro _ _) | refine iHV_1 ?_ | refine iHV_N ?_ | refine iRI_1 ?_ | refine iRI_N ?_ | refine Cond_t ?_ | refine Cond_f ?_ | refine JB ?_ | (refine JC ?_; intro _ _ _ _) | (refine JGB ?_; intro _ _ _ _) | refine K1 ?_ | refine K0 ?_ | refine K2 ?_ | refine K3 ?_ | refine K4 ?_ | (refine CV_pu ?_; intro _ _ _ _) | (refine CV_puz ?_; intro _ _ _ _) | refine fRI_1 ?_ | refine fRI_N ?_ | refine gHV_lkI ?_ | refine gRI_lkI ?_ | refine gV_lkI ?_ | refine fV_ldN ?_ | refine fV_ld1 ?_ | refine fHV_ldN ?_ | refine fHV_ld1 ?_ | refine NilW_some ?_ | refine iCW_1 ?_ | refine iCW_N ?_ | refine Pk_b ?_));refine CV_1 (hW _ _) ?_;rintro z5 w5 v5 hz5 hS5 ⟨q,s,t,rfl,ht⟩
     clear hS7;(repeat (first | (refine iDr ?_; intro _ _) | refine V_run ?_ | refine PV_run ?_ | refine HV_run ?_ | refine iV_ld1 ?_ | refine iV_ldN ?_ | (refine iV_bx ?_; intro _ _ _ _) | (refine iV_al ?_; intro _ _ _ _) | (refine iV_mm ?_; intro _ _ _ _) | (refine iU_st ?_; intro _ _) | refine iHV_1 ?_ | refine iHV_N ?_ | refine iRI_1 ?_ | refine iRI_N ?_ | refine Cond_t ?_ | refine Cond_f ?_ | refine JB ?_ | (refine JC ?_; intro _ _ _ _) | (refine JGB ?_; intro _ _ _ _) | refine K1 ?_ | refine K0 ?_ | refine K2 ?_ | refine K3 ?_ | refine K4 ?_ | (refine CV_pu ?_; intro _ _ _ _) | (refine CV_puz ?_; intro _ _ _ _) | refine fRI_1 ?_ | refine fRI_N ?_ | refine gHV_lkI ?_ | refine gRI_lkI ?_ | refine gV_lkI ?_ | refine fV_ldN ?_ | refine fV_ld1 ?_ | refine fHV_ldN ?_ | refine fHV_ld1 ?_ | refine NilW_some ?_ | refine iCW_1 ?_ | refine iCW_N ?_ | refine Pk_b ?_));rename_i hS8;exact main _ _ _ _ _ _ _ ht (hS8.perm (List.Perm.swap _ _ _))
   ·refine iV_al ?_
    intro d1 w6 hd1 hS6;(repeat (first | (refine iDr ?_; intro _ _) | refine V_run ?_ | refine PV_run ?_ | refine HV_run ?_ | refine iV_ld1 ?_ | refine iV_ldN ?_ | (refine iV_bx ?_; intro _ _ _ _) | (refine iV_al ?_; intro _ _ _ _) | (refine iV_mm ?_; intro _ _ _ _) | (refine iU_st ?_; intro _ _) | refine iHV_1 ?_ | refine iHV_N ?_ | refine iRI_1 ?_ | refine iRI_N ?_ | refine Cond_t ?_ | refine Cond_f ?_ | refine JB ?_ | (refine JC ?_; intro _ _ _ _) | (refine JGB ?_; intro _ _ _ _) | refine K1 ?_ | refine K0 ?_ | refine K2 ?_ | refine K3 ?_ | refine K4 ?_ | (refine CV_pu ?_; intro _ _ _ _) | (refine CV_puz ?_; intro _ _ _ _) | refine fRI_1 ?_ | refine fRI_N ?_ | refine gHV_lkI ?_ | refine gRI_lkI ?_ | refine gV_lkI ?_ | refine fV_ldN ?_ | refine fV_ld1 ?_ | refine fHV_ldN ?_ | refine fHV_ld1 ?_ | refine NilW_some ?_ | refine iCW_1 ?_ | refine iCW_N ?_ | refine Pk_b ?_));refine ⟨?_,?_⟩
    ·refine CV_1 (hW _ _) ?_
     rintro z5 w5 v5 hz5 hS5 ⟨q,s,t,rfl,ht⟩
     clear hS6;(repeat (first | (refine iDr ?_; intro _ _) | refine V_run ?_ | refine PV_run ?_ | refine HV_run ?_ | refine iV_ld1 ?_ | refine iV_ldN ?_ | (refine iV_bx ?_; intro _ _ _ _) | (refine iV_al ?_; intro _ _ _ _) | (refine iV_mm ?_; intro _ _ _ _) | (refine iU_st ?_; intro _ _) | refine iHV_1 ?_ | refine iHV_N ?_ | refine iRI_1 ?_ | refine iRI_N ?_ | refine Cond_t ?_ | refine Cond_f ?_ | refine JB ?_ | (refine JC ?_; intro _ _ _ _) | (refine JGB ?_; intro _ _ _ _) | refine K1 ?_ | refine K0 ?_ | refine K2 ?_ | refine K3 ?_ | refine K4 ?_ | (refine CV_pu ?_; intro _ _ _ _) | (refine CV_puz ?_; intro _ _ _ _) | refine fRI_1 ?_ | refine fRI_N ?_ | refine gHV_lkI ?_ | refine gRI_lkI ?_ | refine gV_lkI ?_ | refine fV_ldN ?_ | refine fV_ld1 ?_ | refine fHV_ldN ?_ | refine fHV_ld1 ?_ | refine NilW_some ?_ | refine iCW_1 ?_ | refine iCW_N ?_ | refine Pk_b ?_));rename_i hS8;exact main _ _ _ _ _ _ _ ht hS8
    ·refine iV_al ?_
     intro d2 w7 hd2 hS7;clear hS6;(repeat (first | (refine iDr ?_; intro _ _) | refine V_run ?_ | refine PV_run ?_ | refine HV_run ?_ | refine iV_ld1 ?_ | refine iV_ldN ?_ | (refine iV_bx ?_; intro _ _ _ _) | (refine iV_al ?_; intro _ _ _ _) | (refine iV_mm ?_; intro _ _ _ _) | (refine iU_st ?_; intro _ _) | refine iHV_1 ?_ | refine iHV_N ?_ | refine iRI_1 ?_ | refine iRI_N ?_ | refine Cond_t ?_ | refine Cond_f ?_ | refine JB ?_ | (refine JC ?_; intro _ _ _ _) | (refine JGB ?_; intro _ _ _ _) | refine K1 ?_ | refine K0 ?_ | refine K2 ?_ | refine K3 ?_ | refine K4 ?_ | (refine CV_pu ?_; intro _ _ _ _) | (refine CV_puz ?_; intro _ _ _ _) | refine fRI_1 ?_ | refine fRI_N ?_ | refine gHV_lkI ?_ | refine gRI_lkI ?_ | refine gV_lkI ?_ | refine fV_ldN ?_ | refine fV_ld1 ?_ | refine fHV_ldN ?_ | refine fHV_ld1 ?_ | refine NilW_some ?_ | refine iCW_1 ?_ | refine iCW_N ?_ | refine Pk_b ?_));refine CV_1 (hW _ _) ?_;rintro z5 w5 v5 hz5 hS5 ⟨q,s,t,rfl,ht⟩
     clear hS7;(repeat (first | (refine iDr ?_; intro _ _) | refine V_run ?_ | refine PV_run ?_ | refine HV_run ?_ | refine iV_ld1 ?_ | refine iV_ldN ?_ | (refine iV_bx ?_; intro _ _ _ _) | (refine iV_al ?_; intro _ _ _ _) | (refine iV_mm ?_; intro _ _ _ _) | (refine iU_st ?_; intro _ _) | refine iHV_1 ?_ | refine iHV_N ?_ | refine iRI_1 ?_ | refine iRI_N ?_ | refine Cond_t ?_ | refine Cond_f ?_ | refine JB ?_ | (refine JC ?_; intro _ _ _ _) | (refine JGB ?_; intro _ _ _ _) | refine K1 ?_ | refine K0 ?_ | refine K2 ?_ | refine K3 ?_ | refine K4 ?_ | (refine CV_pu ?_; intro _ _ _ _) | (refine CV_puz ?_; intro _ _ _ _) | refine fRI_1 ?_ | refine fRI_N ?_ | refine gHV_lkI ?_ | refine gRI_lkI ?_ | refine gV_lkI ?_ | refine fV_ldN ?_ | refine fV_ld1 ?_ | refine fHV_ldN ?_ | refine fHV_ld1 ?_ | refine NilW_some ?_ | refine iCW_1 ?_ | refine iCW_N ?_ | refine Pk_b ?_));rename_i hS8;exact main _ _ _ _ _ _ _ ht hS8)⟩
theorem wh_bn {x y:NumM} {k:Nat} {q s:Nm} (h:wholeR x y (k:Int) = .ok (q,s)):Bn q 50000/\Bn s 50000/\lenD q.m <= k/\0 < k/\k <= 40:=by
 cases h1:opd2 x y (k:Int) with
 | error e=>rw [wh_none h1] at h; cases h
 | ok p=>
  obtain ⟨a,b⟩:=p;rw [wh_some h1 rfl] at h;obtain ⟨k',hk',hk1,hk2,ha,hb,_⟩:=opd2_k h1;have hkk:k' = k:=by omega
  subst hkk;have hBa:=bn_ok ha;have hBb:=bn_ok hb;have p2:=hBa.lo;have p3:=hBa.hi;have q2:=hBb.lo;have q3:=hBb.hi;have u1:=bn_up (E:=min a.e b.e) hBa (by omega);have u2:=bn_up (E:=min a.e b.e) hBb (by omega);have hd:=lenD_mono (Nat.div_le_self (upN a (min a.e b.e)) (upN b (min a.e b.e)));have hm:=lenD_mono (Nat.mod_le (upN a (min a.e b.e)) (upN b (min a.e b.e)))
  split at h
  ·cases h
  ·unfold wholeN at h
   split at h
   ·cases h
   ·split at h
    ·cases h
     refine ⟨bn_nz (by omega),bn_mk (by omega) (by omega) (by omega) (by omega),?_,hk1,hk2⟩
     show lenD 0 <= k'
     rw [lenD_small (by omega)]; omega
    ·split at h
     ·rename_i h3
      cases h
      exact ⟨bn_mk (by omega) (by omega) (by omega) (by omega),bn_mk (by omega) (by omega) (by omega) (by omega),by rw [mk_m]; exact h3,hk1,hk2⟩
     ·cases h
theorem wh_e {x y:NumM} {d:Int} {e:Int} (h:wholeR x y d = .error e):e = 1 \/ e = 8 \/ e = 9 \/ e = 10:=by
 cases h1:opd2 x y d with
 | error e'=>
  rw [wh_none h1] at h
  cases h
  rcases opd2_e h1 with h | h
  ·exact .inl h
  ·exact .inr (.inl h)
 | ok p=>
  obtain ⟨a,b⟩:=p;obtain ⟨k,rfl,_⟩:=opd2_k h1;rw [wh_some h1 rfl] at h;unfold wholeN at h;(repeat' split at h) <;> first | (cases h; done) | (cases h; simp)
instance {x y:NumM} {d:Int} [hx:Sm x.digits] [hy:Sm y.digits]:Pu 55 #[x.v,y.v,.int .i64 d] (resV (idivR x y d)):=⟨fun z w=>Fn1.intro fun hS=>en55 (by
 unfold vc55
 cases h1:wholeR x y d with
 | error e=>
  haveI:Pu 125 #[x.v,y.v,.int .i64 d] (whV (.error e)):=by
   have:=(inferInstance:Pu 125 #[x.v,y.v,.int .i64 d] (whV (wholeR x y d)))
   rw [h1] at this;exact this
  have he:¬ pE (.error e) = 0:=by
   show ¬ e = 0
   rcases wh_e h1 with rfl | rfl | rfl | rfl <;> decide
  (repeat (first | (refine iDr ?_; intro _ _) | refine V_run ?_ | refine PV_run ?_ | refine HV_run ?_ | refine iV_ld1 ?_ | refine iV_ldN ?_ | (refine iV_bx ?_; intro _ _ _ _) | (refine iV_al ?_; intro _ _ _ _) | (refine iV_mm ?_; intro _ _ _ _) | (refine iU_st ?_; intro _ _) | refine iHV_1 ?_ | refine iHV_N ?_ | refine iRI_1 ?_ | refine iRI_N ?_ | refine Cond_t ?_ | refine Cond_f ?_ | refine JB ?_ | (refine JC ?_; intro _ _ _ _) | (refine JGB ?_; intro _ _ _ _) | refine K1 ?_ | refine K0 ?_ | refine K2 ?_ | refine K3 ?_ | refine K4 ?_ | (refine CV_pu ?_; intro _ _ _ _) | (refine CV_puz ?_; intro _ _ _ _) | refine fRI_1 ?_ | refine fRI_N ?_ | refine gHV_lkI ?_ | refine gRI_lkI ?_ | refine gV_lkI ?_ | refine fV_ldN ?_ | refine fV_ld1 ?_ | refine fHV_ldN ?_ | refine fHV_ld1 ?_ | refine NilW_some ?_ | refine iCW_1 ?_ | refine iCW_N ?_ | refine Pk_b ?_));rw [decide_eq_false he];refine Cond_t ?_;(repeat (first | (refine iDr ?_; intro _ _) | refine V_run ?_ | refine PV_run ?_ | refine HV_run ?_ | refine iV_ld1 ?_ | refine iV_ldN ?_ | (refine iV_bx ?_; intro _ _ _ _) | (refine iV_al ?_; intro _ _ _ _) | (refine iV_mm ?_; intro _ _ _ _) | (refine iU_st ?_; intro _ _) | refine iHV_1 ?_ | refine iHV_N ?_ | refine iRI_1 ?_ | refine iRI_N ?_ | refine Cond_t ?_ | refine Cond_f ?_ | refine JB ?_ | (refine JC ?_; intro _ _ _ _) | (refine JGB ?_; intro _ _ _ _) | refine K1 ?_ | refine K0 ?_ | refine K2 ?_ | refine K3 ?_ | refine K4 ?_ | (refine CV_pu ?_; intro _ _ _ _) | (refine CV_puz ?_; intro _ _ _ _) | refine fRI_1 ?_ | refine fRI_N ?_ | refine gHV_lkI ?_ | refine gRI_lkI ?_ | refine gV_lkI ?_ | refine fV_ldN ?_ | refine fV_ld1 ?_ | refine fHV_ldN ?_ | refine fHV_ld1 ?_ | refine NilW_some ?_ | refine iCW_1 ?_ | refine iCW_N ?_ | refine Pk_b ?_));exact ⟨_,_,‹_›,by rw [idivR,h1]; rfl⟩
 | ok p=>
  obtain ⟨q,s⟩:=p;obtain ⟨k,rfl⟩:∃ k:Nat,d = (k:Int):=by
   cases h2:opd2 x y d with
   | error e=>rw [wh_none h2] at h1; cases h1
   | ok p=>obtain ⟨k,hk,_⟩:=opd2_k h2; exact ⟨k,hk⟩
  haveI:Pu 125 #[x.v,y.v,.int .i64 (k:Int)] (.tuple #[q.num.v,s.num.v,.int .i64 0]):=by
   have:=(inferInstance:Pu 125 #[x.v,y.v,.int .i64 (k:Int)] (whV (wholeR x y (k:Int))))
   rw [h1] at this;exact this
  obtain ⟨g1,g2,g3,g4,g5⟩:=wh_bn h1;haveI:Pu 65 #[q.num.v,.int .i64 (k:Int)] (resV (finN q k)):=⟨fun z w=>finished_of g4 (by omega) (g1.mono (by omega))⟩
  (repeat (first | (refine iDr ?_; intro _ _) | refine V_run ?_ | refine PV_run ?_ | refine HV_run ?_ | refine iV_ld1 ?_ | refine iV_ldN ?_ | (refine iV_bx ?_; intro _ _ _ _) | (refine iV_al ?_; intro _ _ _ _) | (refine iV_mm ?_; intro _ _ _ _) | (refine iU_st ?_; intro _ _) | refine iHV_1 ?_ | refine iHV_N ?_ | refine iRI_1 ?_ | refine iRI_N ?_ | refine Cond_t ?_ | refine Cond_f ?_ | refine JB ?_ | (refine JC ?_; intro _ _ _ _) | (refine JGB ?_; intro _ _ _ _) | refine K1 ?_ | refine K0 ?_ | refine K2 ?_ | refine K3 ?_ | refine K4 ?_ | (refine CV_pu ?_; intro _ _ _ _) | (refine CV_puz ?_; intro _ _ _ _) | refine fRI_1 ?_ | refine fRI_N ?_ | refine gHV_lkI ?_ | refine gRI_lkI ?_ | refine gV_lkI ?_ | refine fV_ldN ?_ | refine fV_ld1 ?_ | refine fHV_ldN ?_ | refine fHV_ld1 ?_ | refine NilW_some ?_ | refine iCW_1 ?_ | refine iCW_N ?_ | refine Pk_b ?_));exact ⟨_,_,‹_›,by rw [idivR,h1]; rfl⟩)⟩
instance {x y:NumM} {d:Int} [hx:Sm x.digits] [hy:Sm y.digits]:Pu 57 #[x.v,y.v,.int .i64 d] (resV (remR x y d)):=⟨fun z w=>Fn1.intro fun hS=>en57 (by
 unfold vc57
 cases h1:wholeR x y d with
 | error e=>
  haveI:Pu 125 #[x.v,y.v,.int .i64 d] (whV (.error e)):=by
   have:=(inferInstance:Pu 125 #[x.v,y.v,.int .i64 d] (whV (wholeR x y d)))
   rw [h1] at this;exact this
  have he:¬ pE (.error e) = 0:=by
   show ¬ e = 0
   rcases wh_e h1 with rfl | rfl | rfl | rfl <;> decide
  (repeat (first | (refine iDr ?_; intro _ _) | refine V_run ?_ | refine PV_run ?_ | refine HV_run ?_ | refine iV_ld1 ?_ | refine iV_ldN ?_ | (refine iV_bx ?_; intro _ _ _ _) | (refine iV_al ?_; intro _ _ _ _) | (refine iV_mm ?_; intro _ _ _ _) | (refine iU_st ?_; intro _ _) | refine iHV_1 ?_ | refine iHV_N ?_ | refine iRI_1 ?_ | refine iRI_N ?_ | refine Cond_t ?_ | refine Cond_f ?_ | refine JB ?_ | (refine JC ?_; intro _ _ _ _) | (refine JGB ?_; intro _ _ _ _) | refine K1 ?_ | refine K0 ?_ | refine K2 ?_ | refine K3 ?_ | refine K4 ?_ | (refine CV_pu ?_; intro _ _ _ _) | (refine CV_puz ?_; intro _ _ _ _) | refine fRI_1 ?_ | refine fRI_N ?_ | refine gHV_lkI ?_ | refine gRI_lkI ?_ | refine gV_lkI ?_ | refine fV_ldN ?_ | refine fV_ld1 ?_ | refine fHV_ldN ?_ | refine fHV_ld1 ?_ | refine NilW_some ?_ | refine iCW_1 ?_ | refine iCW_N ?_ | refine Pk_b ?_));rw [decide_eq_false he];refine Cond_t ?_;(repeat (first | (refine iDr ?_; intro _ _) | refine V_run ?_ | refine PV_run ?_ | refine HV_run ?_ | refine iV_ld1 ?_ | refine iV_ldN ?_ | (refine iV_bx ?_; intro _ _ _ _) | (refine iV_al ?_; intro _ _ _ _) | (refine iV_mm ?_; intro _ _ _ _) | (refine iU_st ?_; intro _ _) | refine iHV_1 ?_ | refine iHV_N ?_ | refine iRI_1 ?_ | refine iRI_N ?_ | refine Cond_t ?_ | refine Cond_f ?_ | refine JB ?_ | (refine JC ?_; intro _ _ _ _) | (refine JGB ?_; intro _ _ _ _) | refine K1 ?_ | refine K0 ?_ | refine K2 ?_ | refine K3 ?_ | refine K4 ?_ | (refine CV_pu ?_; intro _ _ _ _) | (refine CV_puz ?_; intro _ _ _ _) | refine fRI_1 ?_ | refine fRI_N ?_ | refine gHV_lkI ?_ | refine gRI_lkI ?_ | refine gV_lkI ?_ | refine fV_ldN ?_ | refine fV_ld1 ?_ | refine fHV_ldN ?_ | refine fHV_ld1 ?_ | refine NilW_some ?_ | refine iCW_1 ?_ | refine iCW_N ?_ | refine Pk_b ?_));exact ⟨_,_,‹_›,by rw [remR,h1]; rfl⟩
 | ok p=>
  obtain ⟨q,s⟩:=p;obtain ⟨k,rfl⟩:∃ k:Nat,d = (k:Int):=by
   cases h2:opd2 x y d with
   | error e=>rw [wh_none h2] at h1; cases h1
   | ok p=>obtain ⟨k,hk,_⟩:=opd2_k h2; exact ⟨k,hk⟩
  haveI:Pu 125 #[x.v,y.v,.int .i64 (k:Int)] (.tuple #[q.num.v,s.num.v,.int .i64 0]):=by
   have:=(inferInstance:Pu 125 #[x.v,y.v,.int .i64 (k:Int)] (whV (wholeR x y (k:Int))))
   rw [h1] at this;exact this
  obtain ⟨g1,g2,g3,g4,g5⟩:=wh_bn h1;haveI:Pu 65 #[s.num.v,.int .i64 (k:Int)] (resV (finN s k)):=⟨fun z w=>finished_of g4 (by omega) (g2.mono (by omega))⟩
  (repeat (first | (refine iDr ?_; intro _ _) | refine V_run ?_ | refine PV_run ?_ | refine HV_run ?_ | refine iV_ld1 ?_ | refine iV_ldN ?_ | (refine iV_bx ?_; intro _ _ _ _) | (refine iV_al ?_; intro _ _ _ _) | (refine iV_mm ?_; intro _ _ _ _) | (refine iU_st ?_; intro _ _) | refine iHV_1 ?_ | refine iHV_N ?_ | refine iRI_1 ?_ | refine iRI_N ?_ | refine Cond_t ?_ | refine Cond_f ?_ | refine JB ?_ | (refine JC ?_; intro _ _ _ _) | (refine JGB ?_; intro _ _ _ _) | refine K1 ?_ | refine K0 ?_ | refine K2 ?_ | refine K3 ?_ | refine K4 ?_ | (refine CV_pu ?_; intro _ _ _ _) | (refine CV_puz ?_; intro _ _ _ _) | refine fRI_1 ?_ | refine fRI_N ?_ | refine gHV_lkI ?_ | refine gRI_lkI ?_ | refine gV_lkI ?_ | refine fV_ldN ?_ | refine fV_ld1 ?_ | refine fHV_ldN ?_ | refine fHV_ld1 ?_ | refine NilW_some ?_ | refine iCW_1 ?_ | refine iCW_N ?_ | refine Pk_b ?_));exact ⟨_,_,‹_›,by rw [remR,h1]; rfl⟩)⟩
end
section
open Go Q Go.RowKit
end
section
open Go Q Go.RowKit
theorem one_lit:digB 1 = ⟨#[49]⟩:=ba_inj (by rw [bytes_digB,digL_lt (by omega)]; rfl)
theorem bn_40 {n:Nm} (h:OkN n) (hl:lenD n.m <= 40):Bn n 1040:=by
 have h2:=h.fit;refine ⟨h.c,by omega,?_,?_⟩
 ·by_cases h0:n.m = 0
  ·rw [h.c h0]; decide
  ·unfold fitsN adjN at h2
   simp only [h0,decide_false,Bool.false_or,Bool.and_eq_true,decide_eq_true_eq] at h2;omega
 ·by_cases h0:n.m = 0
  ·rw [h.c h0]; decide
  ·have:=lenD_pos n.m
   unfold fitsN adjN at h2;simp only [h0,decide_false,Bool.false_or,Bool.and_eq_true,decide_eq_true_eq] at h2;omega
theorem pow_len (a:Nm):∀ j,lenD (powN a j).m <= j * lenD a.m + 1
 | 0=>by
  show lenD 1 <= _
  rw [lenD_small (by omega)]; omega
 | j + 1=>by
  have:=pow_len a j;have h2:=lenD_mul (powN a j).m a.m
  show lenD (mkN _ _ _).m <= _
  rw [mk_m,Nat.succ_mul];omega
theorem pow_bn {a:Nm} (ha:Bn a 1040) (hl:lenD a.m <= 40) {j:Nat} (hj:j <= 100):Bn (powN a j) 104001/\lenD (powN a j).m <= 4001:=by
 have h1:=bn_pow ha j;have h2:=pow_len a j;have h3:j * 1040 <= 100 * 1040:=Nat.mul_le_mul_right _ hj;have h4:j * lenD a.m <= 100 * 40:=Nat.mul_le_mul hj hl;exact ⟨h1.mono (by omega),by omega⟩
theorem power_of {z:Z} {w:World} {a:Nm} {n:Nat} (ha:Bn a 1040) (hl:lenD a.m <= 40) (hn:n <= 100):Fn1 75 #[a.num.v,.int .i64 n] z w fun _ r=>r = (powN a n).num.v:=Fn1.intro fun hS=>en75 (by
 unfold vc75;rw [<- one_lit];refine iV_bx ?_;intro c1 w1 hc1 hS1;refine iV_al ?_;intro c2 w2 hc2 hS2;refine V_run ?_;refine iV_al ?_;intro c3 w3 hc3 hS3;refine iU_st ?_;intro w4 hS4;clear hS hS1 hS2 hS3;refine LoopG1 (fun (p:Nat × Nat × Nat) x w'=>x = .int .i64 p.2.2/\p.1 + p.2.1 * p.2.2 = n/\0 < p.2.1/\∃ z',Res w z [] w' z' [(c3,.cells (powN a p.1).num.cells.toArray 23 (0,0)),(c2,.cells z3.toArray 23 (0,0)),(c1,.cells (powN a p.2.1).num.cells.toArray 23 (0,0))]) (fun p=>p.2.2) (0,1,n) ⟨rfl,by simp,by simp,z,by
  have e:powN a 1 = a:=pow_one' ha.c;simp only;rw [e];exact hS4⟩ ?_
 clear hS4;rintro I M ⟨j,i,k⟩ x w5 m ⟨rfl,hI,hi0,z5,hS5⟩ back
 simp only at hI hi0 hS5;dsimp only;refine V_run ?_;refine Cond_d (fun h=>?_) (fun h=>?_)
 ·have hk:0 < k:=by omega
  have hi:i <= 100:=by
   have:i * 1 <= i * k:=Nat.mul_le_mul_left _ hk;omega
  have hj:j <= 100:=by omega
  obtain ⟨bi1,bi2⟩:=pow_bn ha hl hi;obtain ⟨bj1,bj2⟩:=pow_bn ha hl hj;haveI:Pu 73 #[(powN a j).num.v,(powN a i).num.v] (powN a (j + i)).num.v:=by
   rw [<- pow_add' ha.c];exact ⟨fun z w=>multiplied_of (bj1.mono (by omega)) (bi1.mono (by omega)) (by omega) (by omega)⟩
  haveI:Pu 73 #[(powN a i).num.v,(powN a i).num.v] (powN a (i + i)).num.v:=by
   rw [<- pow_add' ha.c];exact ⟨fun z w=>multiplied_of (bi1.mono (by omega)) (bi1.mono (by omega)) (by omega) (by omega)⟩
  intro K0 hK0;haveI:InR 0 2:=⟨by decide,by decide⟩
  have hk100:k <= 100:=by
   have:1 * k <= i * k:=Nat.mul_le_mul_right _ hi0;omega
  haveI:InI ((k:Int)):=⟨by omega⟩
  have hq:(k:Int).tdiv 2 = ((k / 2:Nat):Int):=by rw [Int.tdiv_eq_ediv_of_nonneg (by omega)]; omega
  have hr:(k:Int).tmod 2 = ((k % 2:Nat):Int):=by rw [Int.tmod_eq_emod_of_nonneg (by omega)]; omega
  have main:∀ j' w' z',j' + i * 2 * (k / 2) = n->Res w z [] w' z' [(c3,.cells (powN a j').num.cells.toArray 23 (0,0)),(c2,.cells z3.toArray 23 (0,0)),(c1,.cells (powN a i).num.cells.toArray 23 (0,0))]->K0 [] w':=by
   intro j' w' z' hj' hS';refine hK0 _ fun _=>?_
   clear hS5 hK0;refine V_run ?_;rw [hq];refine V_run ?_;refine Cond_d (fun h2=>?_) (fun h2=>?_)
   ·(repeat (first | (refine iDr ?_; intro _ _) | refine V_run ?_ | refine PV_run ?_ | refine HV_run ?_ | refine iV_ld1 ?_ | refine iV_ldN ?_ | (refine iV_bx ?_; intro _ _ _ _) | (refine iV_al ?_; intro _ _ _ _) | (refine iV_mm ?_; intro _ _ _ _) | (refine iU_st ?_; intro _ _) | refine iHV_1 ?_ | refine iHV_N ?_ | refine iRI_1 ?_ | refine iRI_N ?_ | refine Cond_t ?_ | refine Cond_f ?_ | refine JB ?_ | (refine JC ?_; intro _ _ _ _) | (refine JGB ?_; intro _ _ _ _) | refine K1 ?_ | refine K0 ?_ | refine K2 ?_ | refine K3 ?_ | refine K4 ?_ | (refine CV_pu ?_; intro _ _ _ _) | (refine CV_puz ?_; intro _ _ _ _) | refine fRI_1 ?_ | refine fRI_N ?_ | refine gHV_lkI ?_ | refine gRI_lkI ?_ | refine gV_lkI ?_ | refine fV_ldN ?_ | refine fV_ld1 ?_ | refine fHV_ldN ?_ | refine fHV_ld1 ?_ | refine NilW_some ?_ | refine iCW_1 ?_ | refine iCW_N ?_ | refine Pk_b ?_))
    rename_i hS6;refine back (j',i + i,k / 2) _ _ ⟨rfl,?_,by simp only; omega,_,hS6⟩ (by simp only; omega);simp only;rw [show i + i = i * 2 by omega];exact hj'
   ·refine back (j',i,k / 2) _ _ ⟨rfl,?_,hi0,_,hS'⟩ (by simp only; omega)
    simp only;have:k / 2 = 0:=by omega
    rw [this] at hj' ⊢;omega
  clear hK0;have hk2:k = k % 2 + 2 * (k / 2):=by omega
  have hexp:i * k = i * (k % 2) + i * 2 * (k / 2):=by
   conv=>lhs; rw [hk2]
   rw [Nat.mul_add,Nat.mul_assoc]
  refine V_run ?_;rw [hr];refine V_run ?_;refine Cond_d (fun h2=>?_) (fun h2=>?_)
  ·have h2:k % 2 = 1:=by omega
   rw [h2] at hexp;(repeat (first | (refine iDr ?_; intro _ _) | refine V_run ?_ | refine PV_run ?_ | refine HV_run ?_ | refine iV_ld1 ?_ | refine iV_ldN ?_ | (refine iV_bx ?_; intro _ _ _ _) | (refine iV_al ?_; intro _ _ _ _) | (refine iV_mm ?_; intro _ _ _ _) | (refine iU_st ?_; intro _ _) | refine iHV_1 ?_ | refine iHV_N ?_ | refine iRI_1 ?_ | refine iRI_N ?_ | refine Cond_t ?_ | refine Cond_f ?_ | refine JB ?_ | (refine JC ?_; intro _ _ _ _) | (refine JGB ?_; intro _ _ _ _) | refine K1 ?_ | refine K0 ?_ | refine K2 ?_ | refine K3 ?_ | refine K4 ?_ | (refine CV_pu ?_; intro _ _ _ _) | (refine CV_puz ?_; intro _ _ _ _) | refine fRI_1 ?_ | refine fRI_N ?_ | refine gHV_lkI ?_ | refine gRI_lkI ?_ | refine gV_lkI ?_ | refine fV_ldN ?_ | refine fV_ld1 ?_ | refine fHV_ldN ?_ | refine fHV_ld1 ?_ | refine NilW_some ?_ | refine iCW_1 ?_ | refine iCW_N ?_ | refine Pk_b ?_));exact main (j + i) _ _ (by omega) ‹_›
  ·have h2:k % 2 = 0:=by omega
   rw [h2] at hexp;exact main j _ _ (by omega) hS5
 ·have hk:k = 0:=by omega
  subst hk;have hj:j = n:=by simpa using hI
  subst hj;(repeat (first | (refine iDr ?_; intro _ _) | refine V_run ?_ | refine PV_run ?_ | refine HV_run ?_ | refine iV_ld1 ?_ | refine iV_ldN ?_ | (refine iV_bx ?_; intro _ _ _ _) | (refine iV_al ?_; intro _ _ _ _) | (refine iV_mm ?_; intro _ _ _ _) | (refine iU_st ?_; intro _ _) | refine iHV_1 ?_ | refine iHV_N ?_ | refine iRI_1 ?_ | refine iRI_N ?_ | refine Cond_t ?_ | refine Cond_f ?_ | refine JB ?_ | (refine JC ?_; intro _ _ _ _) | (refine JGB ?_; intro _ _ _ _) | refine K1 ?_ | refine K0 ?_ | refine K2 ?_ | refine K3 ?_ | refine K4 ?_ | (refine CV_pu ?_; intro _ _ _ _) | (refine CV_puz ?_; intro _ _ _ _) | refine fRI_1 ?_ | refine fRI_N ?_ | refine gHV_lkI ?_ | refine gRI_lkI ?_ | refine gV_lkI ?_ | refine fV_ldN ?_ | refine fV_ld1 ?_ | refine fHV_ldN ?_ | refine fHV_ld1 ?_ | refine NilW_some ?_ | refine iCW_1 ?_ | refine iCW_N ?_ | refine Pk_b ?_));exact ⟨_,_,‹_›,rfl⟩)
end
section
open Go Q Go.RowKit
theorem pow_range {n:Int}:(bif decide (n < -100) then true else decide (n > 100)) = decide (n < -100 \/ 100 < n):=by
 by_cases h:n < -100
 ·simp [h]
 ·simp [h]
theorem pow_out {x:NumM} {n d:Int} (h:n < -100 \/ 100 < n):powR x n d = .error 1:=by rw [powR,if_pos h]
theorem pow_none {x:NumM} {n d:Int} {e:Int} (h:¬ (n < -100 \/ 100 < n)) (h1:opd1 x d = .error e):powR x n d = .error e:=by rw [powR,if_neg h,h1]; rfl
theorem pow_some {x:NumM} {n:Int} {a:Nm} {k:Nat} (h:¬ (n < -100 \/ 100 < n)) (h1:opd1 x (k:Int) = .ok a):powR x n (k:Int) = if 0 <= n then finN (powN a n.toNat) k else if a.m = 0 then .error 9 else quoN oneN (powN a (-n).toNat) k (quoQ oneN (powN a (-n).toNat) k):=by
 rw [powR,if_neg h,h1];simp only [bindE,Int.toNat_natCast]
theorem pow_ne {a:Nm} (h:a.m ≠ 0) (j:Nat):(powN a j).m ≠ 0:=by
 rw [pow_m];exact Nat.pos_iff_ne_zero.1 (Nat.pow_pos (by omega))
theorem shift_one (n:Nat):digB 1 ++ zerosB (n:Int) = digB (oneN.m * 10 ^ n):=by
 refine ba_inj ?_;rw [bytes_add,bytes_digB,zerosB,bytes_mk,bytes_digB,Int.toNat_natCast];exact (digL_shift (n:=1) (by omega)).symm
instance {x:NumM} {n d:Int} [hx:Sm x.digits]:Pu 25 #[x.v,.int .i64 n,.int .i64 d] (resV (powR x n d)):=⟨fun z w=>Fn1.intro fun hS=>en25 (by
 unfold vc25;rw [<- one_lit];generalize hRR:(fun (v:Value) (w':World)=>∃ z' L',Res w z [] w' z' L'/\v = resV (powR x n d)) = RR;have hR:∀ z' w' L' r,Res w z [] w' z' L'->powR x n d = r->RR (resV r) w':=fun z' w' L' r k e=>by rw [<- hRR]; exact ⟨_,_,k,by rw [e]⟩
 clear hRR;(repeat (first | (refine iDr ?_; intro _ _) | refine V_run ?_ | refine PV_run ?_ | refine HV_run ?_ | refine iV_ld1 ?_ | refine iV_ldN ?_ | (refine iV_bx ?_; intro _ _ _ _) | (refine iV_al ?_; intro _ _ _ _) | (refine iV_mm ?_; intro _ _ _ _) | (refine iU_st ?_; intro _ _) | refine iHV_1 ?_ | refine iHV_N ?_ | refine iRI_1 ?_ | refine iRI_N ?_ | refine Cond_t ?_ | refine Cond_f ?_ | refine JB ?_ | (refine JC ?_; intro _ _ _ _) | (refine JGB ?_; intro _ _ _ _) | refine K1 ?_ | refine K0 ?_ | refine K2 ?_ | refine K3 ?_ | refine K4 ?_ | (refine CV_pu ?_; intro _ _ _ _) | (refine CV_puz ?_; intro _ _ _ _) | refine fRI_1 ?_ | refine fRI_N ?_ | refine gHV_lkI ?_ | refine gRI_lkI ?_ | refine gV_lkI ?_ | refine fV_ldN ?_ | refine fV_ld1 ?_ | refine fHV_ldN ?_ | refine fHV_ld1 ?_ | refine NilW_some ?_ | refine iCW_1 ?_ | refine iCW_N ?_ | refine Pk_b ?_));rw [pow_range];refine Cond_d (fun h=>?_) (fun h=>?_)
 ·(repeat (first | (refine iDr ?_; intro _ _) | refine V_run ?_ | refine PV_run ?_ | refine HV_run ?_ | refine iV_ld1 ?_ | refine iV_ldN ?_ | (refine iV_bx ?_; intro _ _ _ _) | (refine iV_al ?_; intro _ _ _ _) | (refine iV_mm ?_; intro _ _ _ _) | (refine iU_st ?_; intro _ _) | refine iHV_1 ?_ | refine iHV_N ?_ | refine iRI_1 ?_ | refine iRI_N ?_ | refine Cond_t ?_ | refine Cond_f ?_ | refine JB ?_ | (refine JC ?_; intro _ _ _ _) | (refine JGB ?_; intro _ _ _ _) | refine K1 ?_ | refine K0 ?_ | refine K2 ?_ | refine K3 ?_ | refine K4 ?_ | (refine CV_pu ?_; intro _ _ _ _) | (refine CV_puz ?_; intro _ _ _ _) | refine fRI_1 ?_ | refine fRI_N ?_ | refine gHV_lkI ?_ | refine gRI_lkI ?_ | refine gV_lkI ?_ | refine fV_ldN ?_ | refine fV_ld1 ?_ | refine fHV_ldN ?_ | refine fHV_ld1 ?_ | refine NilW_some ?_ | refine iCW_1 ?_ | refine iCW_N ?_ | refine Pk_b ?_))
  exact hR _ _ _ (.error 1) ‹_› (pow_out h)
 (repeat (first | (refine iDr ?_; intro _ _) | refine V_run ?_ | refine PV_run ?_ | refine HV_run ?_ | refine iV_ld1 ?_ | refine iV_ldN ?_ | (refine iV_bx ?_; intro _ _ _ _) | (refine iV_al ?_; intro _ _ _ _) | (refine iV_mm ?_; intro _ _ _ _) | (refine iU_st ?_; intro _ _) | refine iHV_1 ?_ | refine iHV_N ?_ | refine iRI_1 ?_ | refine iRI_N ?_ | refine Cond_t ?_ | refine Cond_f ?_ | refine JB ?_ | (refine JC ?_; intro _ _ _ _) | (refine JGB ?_; intro _ _ _ _) | refine K1 ?_ | refine K0 ?_ | refine K2 ?_ | refine K3 ?_ | refine K4 ?_ | (refine CV_pu ?_; intro _ _ _ _) | (refine CV_puz ?_; intro _ _ _ _) | refine fRI_1 ?_ | refine fRI_N ?_ | refine gHV_lkI ?_ | refine gRI_lkI ?_ | refine gV_lkI ?_ | refine fV_ldN ?_ | refine fV_ld1 ?_ | refine fHV_ldN ?_ | refine fHV_ld1 ?_ | refine NilW_some ?_ | refine iCW_1 ?_ | refine iCW_N ?_ | refine Pk_b ?_));refine V_asked1 (d:=d) ?_ ?_
 ·intro e z1 w1 h1 h2 hz1 hS1
  (repeat (first | (refine iDr ?_; intro _ _) | refine V_run ?_ | refine PV_run ?_ | refine HV_run ?_ | refine iV_ld1 ?_ | refine iV_ldN ?_ | (refine iV_bx ?_; intro _ _ _ _) | (refine iV_al ?_; intro _ _ _ _) | (refine iV_mm ?_; intro _ _ _ _) | (refine iU_st ?_; intro _ _) | refine iHV_1 ?_ | refine iHV_N ?_ | refine iRI_1 ?_ | refine iRI_N ?_ | refine Cond_t ?_ | refine Cond_f ?_ | refine JB ?_ | (refine JC ?_; intro _ _ _ _) | (refine JGB ?_; intro _ _ _ _) | refine K1 ?_ | refine K0 ?_ | refine K2 ?_ | refine K3 ?_ | refine K4 ?_ | (refine CV_pu ?_; intro _ _ _ _) | (refine CV_puz ?_; intro _ _ _ _) | refine fRI_1 ?_ | refine fRI_N ?_ | refine gHV_lkI ?_ | refine gRI_lkI ?_ | refine gV_lkI ?_ | refine fV_ldN ?_ | refine fV_ld1 ?_ | refine fHV_ldN ?_ | refine fHV_ld1 ?_ | refine NilW_some ?_ | refine iCW_1 ?_ | refine iCW_N ?_ | refine Pk_b ?_));rw [decide_eq_false h2];refine Cond_t ?_;(repeat (first | (refine iDr ?_; intro _ _) | refine V_run ?_ | refine PV_run ?_ | refine HV_run ?_ | refine iV_ld1 ?_ | refine iV_ldN ?_ | (refine iV_bx ?_; intro _ _ _ _) | (refine iV_al ?_; intro _ _ _ _) | (refine iV_mm ?_; intro _ _ _ _) | (refine iU_st ?_; intro _ _) | refine iHV_1 ?_ | refine iHV_N ?_ | refine iRI_1 ?_ | refine iRI_N ?_ | refine Cond_t ?_ | refine Cond_f ?_ | refine JB ?_ | (refine JC ?_; intro _ _ _ _) | (refine JGB ?_; intro _ _ _ _) | refine K1 ?_ | refine K0 ?_ | refine K2 ?_ | refine K3 ?_ | refine K4 ?_ | (refine CV_pu ?_; intro _ _ _ _) | (refine CV_puz ?_; intro _ _ _ _) | refine fRI_1 ?_ | refine fRI_N ?_ | refine gHV_lkI ?_ | refine gRI_lkI ?_ | refine gV_lkI ?_ | refine fV_ldN ?_ | refine fV_ld1 ?_ | refine fHV_ldN ?_ | refine fHV_ld1 ?_ | refine NilW_some ?_ | refine iCW_1 ?_ | refine iCW_N ?_ | refine Pk_b ?_));exact hR _ _ _ (.error e) ‹_› (pow_none h h1)
 ·intro a bb off cap z1 w1 h1 hz1 hS1 g1
  obtain ⟨k,rfl,hk1,hk2,ha,la⟩:=opd1_k h1;have hO:=hS1.self;haveI:Fz z1 bb off (litN a):=⟨g1⟩
  haveI:AddN off ((0:Int).toNat * 3) off:=⟨rfl⟩
  haveI:InR 0 1:=⟨by decide,by decide⟩
  have hBa:=bn_40 ha (by omega);have hp:=pow_some h h1;have hR2:∀ z' w' L' r,Res w1 z1 _ w' z' L'->powR x n (k:Int) = r->RR (resV r) w':=fun z' w' L' r k e=>hR _ _ _ _ (hS1.comp k) e
  clear hS1 hR;(repeat (first | (refine iDr ?_; intro _ _) | refine V_run ?_ | refine PV_run ?_ | refine HV_run ?_ | refine iV_ld1 ?_ | refine iV_ldN ?_ | (refine iV_bx ?_; intro _ _ _ _) | (refine iV_al ?_; intro _ _ _ _) | (refine iV_mm ?_; intro _ _ _ _) | (refine iU_st ?_; intro _ _) | refine iHV_1 ?_ | refine iHV_N ?_ | refine iRI_1 ?_ | refine iRI_N ?_ | refine Cond_t ?_ | refine Cond_f ?_ | refine JB ?_ | (refine JC ?_; intro _ _ _ _) | (refine JGB ?_; intro _ _ _ _) | refine K1 ?_ | refine K0 ?_ | refine K2 ?_ | refine K3 ?_ | refine K4 ?_ | (refine CV_pu ?_; intro _ _ _ _) | (refine CV_puz ?_; intro _ _ _ _) | refine fRI_1 ?_ | refine fRI_N ?_ | refine gHV_lkI ?_ | refine gRI_lkI ?_ | refine gV_lkI ?_ | refine fV_ldN ?_ | refine fV_ld1 ?_ | refine fHV_ldN ?_ | refine fHV_ld1 ?_ | refine NilW_some ?_ | refine iCW_1 ?_ | refine iCW_N ?_ | refine Pk_b ?_));refine Cond_d (fun h2=>?_) (fun h2=>?_)
  ·obtain ⟨j,rfl⟩:∃ j:Nat,n = (j:Int):=⟨n.toNat,by omega⟩
   rw [if_pos (by omega),Int.toNat_natCast] at hp;obtain ⟨b1,b2⟩:=pow_bn hBa (by omega) (j:=j) (by omega);haveI:Pu 75 #[.agg (litN a).toArray,.int .i64 (j:Int)] (powN a j).num.v:=⟨fun z w=>power_of hBa (by omega) (by omega)⟩
   haveI:Pu 65 #[(powN a j).num.v,.int .i64 (k:Int)] (resV (finN (powN a j) k)):=⟨fun z w=>finished_of hk1 (by omega) (b1.mono (by omega))⟩
   (repeat (first | (refine iDr ?_; intro _ _) | refine V_run ?_ | refine PV_run ?_ | refine HV_run ?_ | refine iV_ld1 ?_ | refine iV_ldN ?_ | (refine iV_bx ?_; intro _ _ _ _) | (refine iV_al ?_; intro _ _ _ _) | (refine iV_mm ?_; intro _ _ _ _) | (refine iU_st ?_; intro _ _) | refine iHV_1 ?_ | refine iHV_N ?_ | refine iRI_1 ?_ | refine iRI_N ?_ | refine Cond_t ?_ | refine Cond_f ?_ | refine JB ?_ | (refine JC ?_; intro _ _ _ _) | (refine JGB ?_; intro _ _ _ _) | refine K1 ?_ | refine K0 ?_ | refine K2 ?_ | refine K3 ?_ | refine K4 ?_ | (refine CV_pu ?_; intro _ _ _ _) | (refine CV_puz ?_; intro _ _ _ _) | refine fRI_1 ?_ | refine fRI_N ?_ | refine gHV_lkI ?_ | refine gRI_lkI ?_ | refine gV_lkI ?_ | refine fV_ldN ?_ | refine fV_ld1 ?_ | refine fHV_ldN ?_ | refine fHV_ld1 ?_ | refine NilW_some ?_ | refine iCW_1 ?_ | refine iCW_N ?_ | refine Pk_b ?_));exact hR2 _ _ _ _ ‹_› hp
  ·rw [if_neg (by omega)] at hp
   (repeat (first | (refine iDr ?_; intro _ _) | refine V_run ?_ | refine PV_run ?_ | refine HV_run ?_ | refine iV_ld1 ?_ | refine iV_ldN ?_ | (refine iV_bx ?_; intro _ _ _ _) | (refine iV_al ?_; intro _ _ _ _) | (refine iV_mm ?_; intro _ _ _ _) | (refine iU_st ?_; intro _ _) | refine iHV_1 ?_ | refine iHV_N ?_ | refine iRI_1 ?_ | refine iRI_N ?_ | refine Cond_t ?_ | refine Cond_f ?_ | refine JB ?_ | (refine JC ?_; intro _ _ _ _) | (refine JGB ?_; intro _ _ _ _) | refine K1 ?_ | refine K0 ?_ | refine K2 ?_ | refine K3 ?_ | refine K4 ?_ | (refine CV_pu ?_; intro _ _ _ _) | (refine CV_puz ?_; intro _ _ _ _) | refine fRI_1 ?_ | refine fRI_N ?_ | refine gHV_lkI ?_ | refine gRI_lkI ?_ | refine gV_lkI ?_ | refine fV_ldN ?_ | refine fV_ld1 ?_ | refine fHV_ldN ?_ | refine fHV_ld1 ?_ | refine NilW_some ?_ | refine iCW_1 ?_ | refine iCW_N ?_ | refine Pk_b ?_));rw [lit_zero ha.c];refine Cond_d (fun h3=>?_) (fun h3=>?_)
   ·rw [if_pos h3] at hp
    (repeat (first | (refine iDr ?_; intro _ _) | refine V_run ?_ | refine PV_run ?_ | refine HV_run ?_ | refine iV_ld1 ?_ | refine iV_ldN ?_ | (refine iV_bx ?_; intro _ _ _ _) | (refine iV_al ?_; intro _ _ _ _) | (refine iV_mm ?_; intro _ _ _ _) | (refine iU_st ?_; intro _ _) | refine iHV_1 ?_ | refine iHV_N ?_ | refine iRI_1 ?_ | refine iRI_N ?_ | refine Cond_t ?_ | refine Cond_f ?_ | refine JB ?_ | (refine JC ?_; intro _ _ _ _) | (refine JGB ?_; intro _ _ _ _) | refine K1 ?_ | refine K0 ?_ | refine K2 ?_ | refine K3 ?_ | refine K4 ?_ | (refine CV_pu ?_; intro _ _ _ _) | (refine CV_puz ?_; intro _ _ _ _) | refine fRI_1 ?_ | refine fRI_N ?_ | refine gHV_lkI ?_ | refine gRI_lkI ?_ | refine gV_lkI ?_ | refine fV_ldN ?_ | refine fV_ld1 ?_ | refine fHV_ldN ?_ | refine fHV_ld1 ?_ | refine NilW_some ?_ | refine iCW_1 ?_ | refine iCW_N ?_ | refine Pk_b ?_));exact hR2 _ _ _ (.error 9) ‹_› hp
   ·rw [if_neg h3] at hp
    obtain ⟨j,hj⟩:∃ j:Nat,-n = (j:Int):=⟨(-n).toNat,by omega⟩
    rw [hj,Int.toNat_natCast] at hp;obtain ⟨b1,b2⟩:=pow_bn hBa (by omega) (j:=j) (by omega);have hne:=pow_ne h3 j;haveI:Pu 75 #[.agg (litN a).toArray,.int .i64 (j:Int)] (.agg (litN (powN a j)).toArray):=⟨fun z w=>power_of hBa (by omega) (by omega)⟩
    generalize powN a j = P at *;have hsc:=sc_le (a:=oneN) (b:=P) (k:=k);have l1:lenD oneN.m = 1:=lenD_small (by decide);have hsl:=lenD_tens oneN.m (scN oneN P k);have hql:=quo_len (a:=oneN) (b:=P) (k:=k);haveI:Pu 80 #[.agg [.bool false,.string (digB 1),.int .i64 0].toArray,.agg (litN P).toArray,.int .i64 (k:Int)] (.int .i64 (scN oneN P k:Nat)):=⟨fun z w=>scale_of (a:=oneN) (by omega) (by omega) (by omega)⟩
    haveI:Cnt ((scN oneN P k:Nat):Int):=⟨by omega,by omega⟩
    haveI:SzN (oneN.m * 10 ^ scN oneN P k):=⟨by omega⟩
    haveI:SzN P.m:=⟨by omega⟩
    haveI:PosN P.m:=⟨by omega⟩
    haveI:Pu 81 #[.agg [.bool false,.string (digB 1),.int .i64 0].toArray,.agg (litN P).toArray,.int .i64 (k:Int),.string (digB (oneN.m * 10 ^ scN oneN P k / P.m))] (resV (quoN oneN P k (quoQ oneN P k))):=⟨fun z w=>quotient_of (a:=oneN) hk1 (by omega) (bn_one (by omega)) (b1.mono (by omega)) (by omega) (by have:lenD (oneN.m * 10 ^ scN oneN P k / P.m) <= _:=hql; omega)⟩
    (repeat (first | (refine iDr ?_; intro _ _) | refine V_run ?_ | refine PV_run ?_ | refine HV_run ?_ | refine iV_ld1 ?_ | refine iV_ldN ?_ | (refine iV_bx ?_; intro _ _ _ _) | (refine iV_al ?_; intro _ _ _ _) | (refine iV_mm ?_; intro _ _ _ _) | (refine iU_st ?_; intro _ _) | refine iHV_1 ?_ | refine iHV_N ?_ | refine iRI_1 ?_ | refine iRI_N ?_ | refine Cond_t ?_ | refine Cond_f ?_ | refine JB ?_ | (refine JC ?_; intro _ _ _ _) | (refine JGB ?_; intro _ _ _ _) | refine K1 ?_ | refine K0 ?_ | refine K2 ?_ | refine K3 ?_ | refine K4 ?_ | (refine CV_pu ?_; intro _ _ _ _) | (refine CV_puz ?_; intro _ _ _ _) | refine fRI_1 ?_ | refine fRI_N ?_ | refine gHV_lkI ?_ | refine gRI_lkI ?_ | refine gV_lkI ?_ | refine fV_ldN ?_ | refine fV_ld1 ?_ | refine fHV_ldN ?_ | refine fHV_ld1 ?_ | refine NilW_some ?_ | refine iCW_1 ?_ | refine iCW_N ?_ | refine Pk_b ?_));rw [show IntKind.i64.wrap (0 - n) = (j:Int) from by rw [wrap_in (by unfold inI; omega)]; omega];(repeat (first | (refine iDr ?_; intro _ _) | refine V_run ?_ | refine PV_run ?_ | refine HV_run ?_ | refine iV_ld1 ?_ | refine iV_ldN ?_ | (refine iV_bx ?_; intro _ _ _ _) | (refine iV_al ?_; intro _ _ _ _) | (refine iV_mm ?_; intro _ _ _ _) | (refine iU_st ?_; intro _ _) | refine iHV_1 ?_ | refine iHV_N ?_ | refine iRI_1 ?_ | refine iRI_N ?_ | refine Cond_t ?_ | refine Cond_f ?_ | refine JB ?_ | (refine JC ?_; intro _ _ _ _) | (refine JGB ?_; intro _ _ _ _) | refine K1 ?_ | refine K0 ?_ | refine K2 ?_ | refine K3 ?_ | refine K4 ?_ | (refine CV_pu ?_; intro _ _ _ _) | (refine CV_puz ?_; intro _ _ _ _) | refine fRI_1 ?_ | refine fRI_N ?_ | refine gHV_lkI ?_ | refine gRI_lkI ?_ | refine gV_lkI ?_ | refine fV_ldN ?_ | refine fV_ld1 ?_ | refine fHV_ldN ?_ | refine fHV_ld1 ?_ | refine NilW_some ?_ | refine iCW_1 ?_ | refine iCW_N ?_ | refine Pk_b ?_));refine V_strs [digB 1,zerosB ((scN oneN P k:Nat):Int)] rfl rfl (by omega) (by rw [sizes2]; have:lenD 1 = 1:=lenD_small (by decide); omega) ?_;intro v4 z4 hz4 w4 hS4 hv4;(repeat (first | (refine iDr ?_; intro _ _) | refine V_run ?_ | refine PV_run ?_ | refine HV_run ?_ | refine iV_ld1 ?_ | refine iV_ldN ?_ | (refine iV_bx ?_; intro _ _ _ _) | (refine iV_al ?_; intro _ _ _ _) | (refine iV_mm ?_; intro _ _ _ _) | (refine iU_st ?_; intro _ _) | refine iHV_1 ?_ | refine iHV_N ?_ | refine iRI_1 ?_ | refine iRI_N ?_ | refine Cond_t ?_ | refine Cond_f ?_ | refine JB ?_ | (refine JC ?_; intro _ _ _ _) | (refine JGB ?_; intro _ _ _ _) | refine K1 ?_ | refine K0 ?_ | refine K2 ?_ | refine K3 ?_ | refine K4 ?_ | (refine CV_pu ?_; intro _ _ _ _) | (refine CV_puz ?_; intro _ _ _ _) | refine fRI_1 ?_ | refine fRI_N ?_ | refine gHV_lkI ?_ | refine gRI_lkI ?_ | refine gV_lkI ?_ | refine fV_ldN ?_ | refine fV_ld1 ?_ | refine fHV_ldN ?_ | refine fHV_ld1 ?_ | refine NilW_some ?_ | refine iCW_1 ?_ | refine iCW_N ?_ | refine Pk_b ?_));refine CV_1 (joined_of hv4 (by simp) (by rw [sizes2]; have:lenD 1 = 1:=lenD_small (by decide); omega)) ?_;rintro z5 w5 v5 hz5 hS5 rfl
    rw [joinB2,shift_one];clear hS4;(repeat (first | (refine iDr ?_; intro _ _) | refine V_run ?_ | refine PV_run ?_ | refine HV_run ?_ | refine iV_ld1 ?_ | refine iV_ldN ?_ | (refine iV_bx ?_; intro _ _ _ _) | (refine iV_al ?_; intro _ _ _ _) | (refine iV_mm ?_; intro _ _ _ _) | (refine iU_st ?_; intro _ _) | refine iHV_1 ?_ | refine iHV_N ?_ | refine iRI_1 ?_ | refine iRI_N ?_ | refine Cond_t ?_ | refine Cond_f ?_ | refine JB ?_ | (refine JC ?_; intro _ _ _ _) | (refine JGB ?_; intro _ _ _ _) | refine K1 ?_ | refine K0 ?_ | refine K2 ?_ | refine K3 ?_ | refine K4 ?_ | (refine CV_pu ?_; intro _ _ _ _) | (refine CV_puz ?_; intro _ _ _ _) | refine fRI_1 ?_ | refine fRI_N ?_ | refine gHV_lkI ?_ | refine gRI_lkI ?_ | refine gV_lkI ?_ | refine fV_ldN ?_ | refine fV_ld1 ?_ | refine fHV_ldN ?_ | refine fHV_ld1 ?_ | refine NilW_some ?_ | refine iCW_1 ?_ | refine iCW_N ?_ | refine Pk_b ?_));exact hR2 _ _ _ _ ‹_› hp)⟩
end
end Go.Proofs.YtmideenmlhbdjaaGreatDoor
