/- Texts joined: N9, N10, N11, N12, N13, N14, W1, W2, W3, W4, W5, W6, W7, W8, W9, W10, W11, W12, W13, W14, W15, W16, W17, W18, W19, W20, W21, W22, W23, N15, N16, N17, W24, W25, W26, W27, W28. -/
import Derived.Test.YtmideenmlhbdjaaGreatDoorM2
import Derived.Test.YtmideenmlhbdjaaGreatDoorM1
import Derived.Lib.Builder
import Derived.Lib.AppendStr
import Derived.Lib.UnsafeStr
import Derived.Lib.MakeNoZero
import Derived.Laws.CopyRow
import Derived.Lib.FrozenHead
import Derived.Lib.Bytealg
import Derived.Laws.Concat
set_option linter.unusedSimpArgs false
set_option linter.unusedVariables false
set_option linter.unusedSectionVars false
set_option maxHeartbeats 1000000
set_option maxRecDepth 20000
namespace Go.Proofs.YtmideenmlhbdjaaGreatDoor
section
open Go Q Go.RowKit
theorem lenD_up {n:Nm} (h:n.m ≠ 0) {E:Int} (hE:E <= n.e):(lenD (upN n E):Int) = adjN n + 1 - E:=by
 unfold upN adjN;rw [lenD_shift (Nat.pos_of_ne_zero h)];omega
theorem up_less {a b:Nm} (hb:b.m ≠ 0) (h:adjN a < adjN b) {E:Int} (h1:E <= a.e) (h2:E <= b.e):upN a E < upN b E:=by
 by_cases ha:a.m = 0
 ·rw [up_0 ha]; exact up_pos hb E
 ·refine dig_less ?_
  have e1:=lenD_up ha h1;have e2:=lenD_up hb h2;omega
theorem whole_ok {a b:Nm} {d:Nat} (hb:b.m ≠ 0) (h1:adjN a - adjN b <= d) (h2:lenD (upN a (min a.e b.e) / upN b (min a.e b.e)) <= d) :
  wholeN a b d = .ok (mkN (a.s != b.s) (upN a (min a.e b.e) / upN b (min a.e b.e)) 0,mkN a.s (upN a (min a.e b.e) % upN b (min a.e b.e)) (min a.e b.e)):=by
 unfold wholeN;rw [if_neg (by omega)]
 by_cases hl:adjN a < adjN b
 ·rw [if_pos hl]
  have:=up_less hb hl (E:=min a.e b.e) (by omega) (by omega);rw [Nat.div_eq_of_lt this,Nat.mod_eq_of_lt this]
  rfl
 ·rw [if_neg hl,if_pos h2]
structure Sml (n:Nm):Prop where
 c:n.C
 m:n.m < 10 ^ 12
 lo:-8 <= n.e
 hi:n.e <= 8
theorem Sml.up {n:Nm} (h:Sml n) {E:Int} (h1:-8 <= E) (h2:E <= n.e):upN n E < 10 ^ 28:=by
 unfold upN;have h3:10 ^ (n.e - E).toNat <= 10 ^ 16:=Nat.pow_le_pow_right (by omega) (by have:=h.hi; omega);have h4:=Nat.mul_lt_mul_of_pos_right h.m (pow_pos' (n.e - E).toNat);have h5:10 ^ 12 * 10 ^ (n.e - E).toNat <= 10 ^ 12 * 10 ^ 16:=Nat.mul_le_mul_left _ h3;have h6:10 ^ 12 * 10 ^ 16 = 10 ^ 28:=by rw [<- Nat.pow_add]
 rw [h6] at h5;exact Nat.lt_of_lt_of_le h4 h5
theorem Sml.adj {n:Nm} (h:Sml n):-8 <= adjN n/\adjN n <= 19:=by
 have h1:=lenD_lt (by omega) h.m;have h2:=lenD_pos n.m;have h3:=h.lo;have h4:=h.hi;unfold adjN;omega
theorem fits_of {n:Nm} (h1:-999 <= adjN n) (h2:adjN n <= 999):fitsN n = true:=by
 unfold fitsN;rw [decide_eq_true h1,decide_eq_true h2];simp
theorem fits_small {n:Nm} (h1:n.m < 10 ^ 60) (h2:-900 <= n.e) (h3:n.e <= 900):fitsN n = true:=by
 have h4:=lenD_lt (by omega) h1;have h5:=lenD_pos n.m;refine fits_of ?_ ?_ <;> unfold adjN <;> omega
theorem fin_small {n:Nm} {d:Nat} (h0:lenD n.m <= d) (h1:n.m < 10 ^ 60) (h2:-900 <= n.e) (h3:n.e <= 900):finN n d = .ok n:=fin_ok h0 (fits_small h1 h2 h3)
theorem mk_e {s:Bool} {m:Nat} {e lo hi:Int} (h1:lo <= e) (h2:e <= hi) (h3:lo <= 0) (h4:0 <= hi):lo <= (mkN s m e).e/\(mkN s m e).e <= hi:=by
 unfold mkN
 split
 ·exact ⟨h3,h4⟩
 ·exact ⟨h1,h2⟩
theorem divides_whole {a b:Nm} (ha:Sml a) (hb:Sml b) (h0:b.m ≠ 0):∃ q r,wholeN a b 40 = .ok (q,r)/\finN q 40 = .ok q/\finN r 40 = .ok r/\finN (mulN b q) 40 = .ok (mulN b q) /\
  finN (plusN (mulN b q) r) 40 = .ok (plusN (mulN b q) r)/\sameN (plusN (mulN b q) r) a/\(r.m ≠ 0->r.s = a.s)/\q.C/\r.C /\
  difN ⟨false,r.m,r.e⟩ ⟨false,b.m,b.e⟩ < 0/\lenD r.m <= 28/\-8 <= r.e/\r.e <= 8/\lenD q.m <= 28/\q.e = 0:=by
 have hE1:-8 <= min a.e b.e:=by have:=ha.lo; have:=hb.lo; omega
 have hE2:min a.e b.e <= 8:=by have:=ha.hi; omega
 have hx:=ha.up hE1 (show min a.e b.e <= a.e by omega);have hy:=hb.up hE1 (show min a.e b.e <= b.e by omega);have hy0:=up_pos h0 (min a.e b.e);have hq28:upN a (min a.e b.e) / upN b (min a.e b.e) < 10 ^ 28:=Nat.lt_of_le_of_lt (Nat.div_le_self _ _) hx;have hr28:upN a (min a.e b.e) % upN b (min a.e b.e) < 10 ^ 28:=Nat.lt_trans (Nat.mod_lt _ hy0) hy;have hrlt:=Nat.mod_lt (upN a (min a.e b.e)) hy0;have hw:=whole_ok (a:=a) (d:=40) h0 (by have:=ha.adj; have:=hb.adj; omega) (by have:=lenD_lt (by omega) hq28; omega);have hex:=whole_exact (a:=a) (E:=min a.e b.e) h0 rfl _ _ rfl rfl;have hdm:=Nat.div_add_mod (upN a (min a.e b.e)) (upN b (min a.e b.e));generalize hqd:upN a (min a.e b.e) / upN b (min a.e b.e) = qm at *;generalize hrd:upN a (min a.e b.e) % upN b (min a.e b.e) = rm at *;have hqe:=mk_e (s:=a.s != b.s) (m:=qm) (e:=0) (lo:=0) (hi:=0) (by omega) (by omega) (by omega) (by omega);have hre:=mk_e (s:=a.s) (m:=rm) (e:=min a.e b.e) (lo:=-8) (hi:=8) hE1 hE2 (by omega) (by omega);have hp60:(10:Nat) ^ 28 < 10 ^ 60:=Nat.pow_lt_pow_right (by omega) (by omega);have hlq:=lenD_lt (by omega) hq28;have hlr:=lenD_lt (by omega) hr28
 -- the frame of the sum
 have hF:∃ F:Int,F = min (min a.e b.e) 0/\-8 <= F:=⟨_,rfl,by omega⟩
 obtain ⟨F,hF,hF8⟩:=hF;have hex:=hex F (by omega) (by omega);have hbF:F <= b.e:=by omega
 have haF:F <= a.e:=by omega
 have hmulF:svN (mulN b (mkN (a.s != b.s) qm 0)) F = svN b F * svN (mkN (a.s != b.s) qm 0) 0:=by
  have:=sv_mul (a:=b) (b:=mkN (a.s != b.s) qm 0) (E:=F) (F:=0) hbF hqe.1
  rwa [Int.add_zero] at this
 have hme:F <= (mulN b (mkN (a.s != b.s) qm 0)).e:=by
  have:=exp_mul (a:=b) (b:=mkN (a.s != b.s) qm 0) (E:=F) (F:=0) hbF hqe.1 (by omega)
  rwa [Int.add_zero] at this
 have hme2:(mulN b (mkN (a.s != b.s) qm 0)).e <= 8:=by
  unfold mulN;exact (mk_e (lo:=-8) (hi:=8) (by have:=hb.lo; omega) (by have:=hb.hi; omega) (by omega) (by omega)).2
 have hreF:F <= (mkN a.s rm (min a.e b.e)).e:=exp_mk_ge (by omega) (by omega);have hsum:svN (plusN (mulN b (mkN (a.s != b.s) qm 0)) (mkN a.s rm (min a.e b.e))) F = svN a F:=by
  rw [sv_plus hme hreF,hmulF,hex]
 have hse:F <= (plusN (mulN b (mkN (a.s != b.s) qm 0)) (mkN a.s rm (min a.e b.e))).e:=exp_plus hme hreF (by omega);have hse2:(plusN (mulN b (mkN (a.s != b.s) qm 0)) (mkN a.s rm (min a.e b.e))).e <= 8:=exp_plus_le hme2 hre.2 (by omega);have haup:=ha.up hF8 haF;have hsm:(plusN (mulN b (mkN (a.s != b.s) qm 0)) (mkN a.s rm (min a.e b.e))).m < 10 ^ 28:=by
  have h1:=up_abs (plusN (mulN b (mkN (a.s != b.s) qm 0)) (mkN a.s rm (min a.e b.e))) F;rw [hsum,<- up_abs] at h1;have h2:upN (plusN (mulN b (mkN (a.s != b.s) qm 0)) (mkN a.s rm (min a.e b.e))) F < 10 ^ 28:=by omega
  unfold upN at h2;exact Nat.lt_of_le_of_lt (Nat.le_mul_of_pos_right _ (pow_pos' _)) h2
 have hbm:(mulN b (mkN (a.s != b.s) qm 0)).m < 10 ^ 28:=by
  have e:(mulN b (mkN (a.s != b.s) qm 0)).m = b.m * qm:=by unfold mulN; rw [mk_m,mk_m]
  rw [e];have h1:b.m <= upN b (min a.e b.e):=Nat.le_mul_of_pos_right _ (pow_pos' _);have h2:b.m * qm <= upN b (min a.e b.e) * qm:=Nat.mul_le_mul_right _ h1;omega
 refine ⟨mkN (a.s != b.s) qm 0,mkN a.s rm (min a.e b.e),hw,?_,?_,?_,?_,⟨F,hse,haF,hsum⟩,?_,C_mk _ _ _,C_mk _ _ _,?_,?_,hre.1,hre.2,?_,?_⟩
 ·exact fin_small (by rw [mk_m]; omega) (by rw [mk_m]; omega) (by omega) (by omega)
 ·exact fin_small (by rw [mk_m]; omega) (by rw [mk_m]; omega) (by omega) (by omega)
 ·exact fin_small (by have:=lenD_lt (by omega) hbm; omega) (by omega) (by omega) (by omega)
 ·exact fin_small (by have:=lenD_lt (by omega) hsm; omega) (by omega) (by omega) (by omega)
 ·intro h
  rw [mk_m] at h;rw [mk_s h]
 ·have hbC:Nm.C ⟨false,b.m,b.e⟩:=fun e=>absurd e h0
  rw [dif_lt (a:=⟨false,(mkN a.s rm (min a.e b.e)).m,(mkN a.s rm (min a.e b.e)).e⟩) hbC (E:=F) hreF hbF];unfold svN;simp only [Bool.false_eq_true,if_false];have e1:upN ⟨false,(mkN a.s rm (min a.e b.e)).m,(mkN a.s rm (min a.e b.e)).e⟩ F = upN (mkN a.s rm (min a.e b.e)) F:=rfl;have e2:upN ⟨false,b.m,b.e⟩ F = upN b F:=rfl;rw [e1,e2];have h1:=up_shift b (E:=min a.e b.e) (F:=F) (by omega) (by omega);have h2:upN (mkN a.s rm (min a.e b.e)) F = rm * 10 ^ (min a.e b.e - F).toNat:=by
   by_cases h:rm = 0
   ·rw [up_0 (by rw [mk_m]; exact h),h,Nat.zero_mul]
   ·rw [mk_s h]; rfl
  rw [h1,h2];have:=Nat.mul_lt_mul_of_pos_right hrlt (pow_pos' (min a.e b.e - F).toNat);omega
 ·rw [mk_m]; exact hlr
 ·rw [mk_m]; exact hlq
 ·omega
theorem carry_val {r d k:Nat} (c1:r = 10 ^ d) (c2:r / 10 = 10 ^ (d - 1)) (hd:0 < d):r / 10 * 10 ^ (k + 1) = r * 10 ^ k:=by
 rw [c2,c1,<- Nat.pow_add,<- Nat.pow_add]
 congr 1
 omega
theorem nearest {n:Nm} {d:Nat} (hd:0 < d) (h:d < lenD n.m) :
  (roundN n d).e ≥ n.e/\∃ k u:Nat,((roundN n d).e - n.e = (u:Int))/\k = lenD n.m - d /\
   2 * ((roundN n d).m * 10 ^ u) <= 2 * n.m + 10 ^ k/\2 * n.m < 2 * ((roundN n d).m * 10 ^ u) + 10 ^ k /\
   (u = k \/ (u = k + 1/\(roundN n d).m = 10 ^ (d - 1))):=by
 have hn:=rq_near h;rw [round_big h]
 split
 ·rename_i h1
  refine ⟨by show n.e + _ ≥ n.e; omega,lenD n.m - d,lenD n.m - d,by show n.e + _ - n.e = _; omega,rfl,hn.1,hn.2,.inl rfl⟩
 ·rename_i h1
  obtain ⟨c1,c2⟩:=round_carry hd h h1;refine ⟨by show n.e + _ + 1 ≥ n.e; omega,lenD n.m - d,lenD n.m - d + 1,by show n.e + _ + 1 - n.e = _; omega,rfl,?_,?_,.inr ⟨rfl,c2⟩⟩
  ·show 2 * (rq n.m d / 10 * 10 ^ (lenD n.m - d + 1)) <= _
   rw [carry_val c1 c2 hd];exact hn.1
  ·show _ < 2 * (rq n.m d / 10 * 10 ^ (lenD n.m - d + 1)) + _
   rw [carry_val c1 c2 hd];exact hn.2
end
section
open Go Q Go.RowKit
theorem dig_big {m:Nat} (h:10 <= m):digL m = digL (m / 10) ++ [UInt8.ofNat (48 + m % 10)]:=by rw [dig_rec,if_neg (by omega)]
theorem lenD_big {m:Nat} (h:10 <= m):lenD m = lenD (m / 10) + 1:=by
 show (digL m).length = _
 rw [dig_big h,List.length_append]
 rfl
theorem lenD_small {m:Nat} (h:m < 10):lenD m = 1:=by
 show (digL m).length = 1
 rw [digL_lt h]
 rfl
theorem take_dig:∀ (k m:Nat),k < lenD m->(digL m).take (lenD m - k) = digL (m / 10 ^ k)
 | 0,m,_=>by rw [Nat.sub_zero,Nat.pow_zero,Nat.div_one,List.take_length]
 | k + 1,m,h=>by
  have h10:10 <= m:=by
   rcases Nat.lt_or_ge m 10 with h1 | h1
   ·have:=lenD_small h1; omega
   ·exact h1
  have hl:=lenD_big h10;have:=take_dig k (m / 10) (by omega);rw [hl,dig_big h10,show lenD (m / 10) + 1 - (k + 1) = lenD (m / 10) - k by omega,List.take_append_of_le_length (by show _ <= lenD (m / 10); omega),this,Nat.div_div_eq_div_mul,Nat.pow_succ,Nat.mul_comm 10]
theorem get_dig:∀ (k m:Nat),k < lenD m->(digL m)[lenD m - 1 - k]? = some (UInt8.ofNat (48 + m / 10 ^ k % 10))
 | 0,m,h=>by
  rw [Nat.pow_zero,Nat.div_one,Nat.sub_zero]
  rcases Nat.lt_or_ge m 10 with h1 | h1
  ·have:=lenD_small h1
   rw [this,digL_lt h1,Nat.mod_eq_of_lt h1]
   rfl
  ·rw [lenD_big h1,dig_big h1,Nat.add_sub_cancel,List.getElem?_append_right (Nat.le_refl _)]
   show [_][lenD (m / 10) - lenD (m / 10)]? = _
   rw [Nat.sub_self]
   rfl
 | k + 1,m,h=>by
  have h10:10 <= m:=by
   rcases Nat.lt_or_ge m 10 with h1 | h1
   ·have:=lenD_small h1; omega
   ·exact h1
  have hl:=lenD_big h10;have:=get_dig k (m / 10) (by omega);rw [hl,dig_big h10,show lenD (m / 10) + 1 - 1 - (k + 1) = lenD (m / 10) - 1 - k by omega,List.getElem?_append_left (by show _ < lenD (m / 10); omega),this,Nat.div_div_eq_div_mul,Nat.pow_succ,Nat.mul_comm 10]
def rtrim (l:List UInt8):List UInt8:=(l.reverse.dropWhile (· == 48)).reverse
theorem rtrim_app (l:List UInt8) (k:Nat):rtrim (l ++ zerosL k) = rtrim l:=by
 unfold rtrim
 congr 1
 rw [List.reverse_append];have:(zerosL k).reverse = zerosL k:=List.reverse_replicate;rw [this]
 induction k with
 | zero=>rfl
 | succ k ih=>
  rw [show zerosL (k + 1) = 48 :: zerosL k from rfl,List.cons_append,List.dropWhile_cons];simp only [BEq.rfl,if_true];refine ih ?_;exact List.reverse_replicate
theorem rtrim_last {l:List UInt8} {c:UInt8} (h:c ≠ 48):rtrim (l ++ [c]) = l ++ [c]:=by
 unfold rtrim;rw [List.reverse_append]
 show (([c] ++ l.reverse).dropWhile _).reverse = _
 rw [List.singleton_append,List.dropWhile_cons];have:(c == 48) = false:=by simp [h]
 rw [this];simp
theorem ofNat_ne {k:Nat} (h:k < 10) (h0:k ≠ 0):UInt8.ofNat (48 + k) ≠ 48:=fun e=>by
 have:=dg_nat h;rw [e] at this;have h2:(48:UInt8).toNat = 48:=rfl;omega
theorem rtrim_dig {m:Nat} (h:m ≠ 0):rtrim (digL m) = digL (bareM m).1:=by
 have e:=bareM_eq m;have hp:=bareM_pos h;have hl:=bareM_last h
 conv=>lhs; rw [e,digL_shift hp]
 rw [rtrim_app];generalize (bareM m).1 = p at hp hl
 rcases Nat.lt_or_ge p 10 with h1 | h1
 ·rw [digL_lt h1]
  have:=rtrim_last (l:=[]) (ofNat_ne h1 (by omega))
  simpa using this
 ·rw [dig_big h1]
  exact rtrim_last (ofNat_ne (Nat.mod_lt _ (by omega)) hl)
theorem rtrim_0:rtrim (digL 0) = []:=by rw [digL_0]; rfl
def cmpL:List UInt8->List UInt8->Int
 | [],[]=>0
 | [],_ :: _=>-1
 | _ :: _,[]=>1
 | c :: l,d :: m=>if c.toNat < d.toNat then -1 else if d.toNat < c.toNat then 1 else cmpL l m
theorem cmpL_val:∀ {l m:List UInt8},Dg l->Dg m->l.length = m.length->cmpL l m = if valL l < valL m then -1 else if valL m < valL l then 1 else 0
 | [],[],_,_,_=>rfl
 | [],_ :: _,_,_,h=>by cases h
 | _ :: _,[],_,_,h=>by cases h
 | c :: l,d :: m,h1,h2,h3=>by
  simp only [List.length_cons,Nat.add_right_cancel_iff] at h3;have hl:Dg l:=fun x hx=>h1 x (List.mem_cons_of_mem _ hx)
  have hm:Dg m:=fun x hx=>h2 x (List.mem_cons_of_mem _ hx)
  have hc:=h1 c List.mem_cons_self;have hd:=h2 d List.mem_cons_self;have vl:=val_lt l hl;have vm:=val_lt m hm;have ih:=cmpL_val hl hm h3;rw [valL_cons,valL_cons,<- h3];rw [<- h3] at vm;rw [cmpL];generalize 10 ^ l.length = p at *
  by_cases q1:c.toNat < d.toNat
  ·have:(c.toNat - 48 + 1) * p <= (d.toNat - 48) * p:=Nat.mul_le_mul_right _ (by omega)
   rw [Nat.add_mul,Nat.one_mul] at this;rw [if_pos q1,if_pos (by omega)]
  ·by_cases q2:d.toNat < c.toNat
   ·have:(d.toNat - 48 + 1) * p <= (c.toNat - 48) * p:=Nat.mul_le_mul_right _ (by omega)
    rw [Nat.add_mul,Nat.one_mul] at this;rw [if_neg q1,if_pos q2,if_neg (by omega),if_pos (by omega)]
   ·have e:c.toNat = d.toNat:=by omega
    rw [if_neg q1,if_neg q2,ih,e];generalize (d.toNat - 48) * p = t
    by_cases r1:valL l < valL m
    ·rw [if_pos r1,if_pos (by omega)]
    ·by_cases r2:valL m < valL l
     ·rw [if_neg r1,if_pos r2,if_neg (by omega),if_pos (by omega)]
     ·rw [if_neg r1,if_neg r2,if_neg (by omega),if_neg (by omega)]
def ordL (l m:List UInt8):Int:=if l.length = m.length then cmpL l m else if l.length < m.length then -1 else 1
theorem ordL_dig (a b:Nat):ordL (digL a) (digL b) = if a < b then -1 else if b < a then 1 else 0:=by
 unfold ordL
 by_cases h:(digL a).length = (digL b).length
 ·rw [if_pos h,cmpL_val (digL_dg a) (digL_dg b) h,valL_dig,valL_dig]
 ·rw [if_neg h]
  by_cases h1:(digL a).length < (digL b).length
  ·have:=dig_less h1
   rw [if_pos h1,if_pos this]
  ·have h2:lenD b < lenD a:=by show (digL b).length < (digL a).length; omega
   have:=dig_less h2;rw [if_neg h1,if_neg (by omega),if_pos this]
theorem fit_far {s:Bool} {v:Nat} {x:Int} {p:Nat} (hv:v < 10 ^ 1000) (hp:p <= 1000) (h0:v ≠ 0) (h:9999 <= x \/ x <= -9999):fitO (mkN s v (x - p)) = none:=by
 have h1:=lenD_lt (by omega) hv;have h2:=lenD_pos v;rw [mk_s h0];unfold fitO;rw [if_neg];unfold fitsN adjN;simp only [Bool.or_eq_true,Bool.and_eq_true,decide_eq_true_eq];omega
theorem fit_cap {s:Bool} {v:Nat} {x x':Int} {p:Nat} (hv:v < 10 ^ 1000) (hp:p <= 1000) (h:x = x' \/ (9999 <= x/\9999 <= x') \/ (x <= -9999/\x' <= -9999)):fitO (mkN s v (x - p)) = fitO (mkN s v (x' - p)):=by
 by_cases h0:v = 0
 ·subst h0; rfl
 ·rcases h with rfl | ⟨h1,h2⟩ | ⟨h1,h2⟩
  ·rfl
  ·rw [fit_far hv hp h0 (.inl h1),fit_far hv hp h0 (.inl h2)]
  ·rw [fit_far hv hp h0 (.inr h1),fit_far hv hp h0 (.inr h2)]
theorem first6 (v:Nat):valL ((digL v).take (min (digL v).length 6)) = v \/ (9999 <= valL ((digL v).take (min (digL v).length 6))/\9999 <= v):=by
 by_cases h:(digL v).length <= 6
 ·left
  rw [Nat.min_eq_left h,List.take_length,valL_dig]
 ·right
  have hl:6 < lenD v:=by show 6 < (digL v).length; omega
  have h0:0 < v:=by
   rcases Nat.eq_zero_or_pos v with e | e
   ·rw [e] at hl; have:lenD 0 = 1:=lenD_small (by omega); omega
   ·exact e
  have h1:=ge_lenD h0;have e:=take_dig (lenD v - 6) v (by omega);rw [show lenD v - (lenD v - 6) = 6 by omega] at e;have hq:=(q_bounds (m:=v) (d:=6) (by omega) hl).1;rw [Nat.min_eq_right (by omega),e,valL_dig];have:(10:Nat) ^ 6 <= 10 ^ (lenD v - 1):=Nat.pow_le_pow_right (by omega) (by omega);have h6:(10:Nat) ^ (6 - 1) = 100000:=by decide
  have h7:(10:Nat) ^ 6 = 1000000:=by decide
  omega
end
section
open Go Q Go.RowKit
abbrev tenI (k:Nat):Int:=((10 ^ k:Nat):Int)
theorem tenI_succ (k:Nat):tenI (k + 1) = 10 * tenI k:=by
 unfold tenI;rw [Nat.pow_succ,Nat.mul_comm,Int.natCast_mul]
 rfl
theorem tenI_pos (k:Nat):0 < tenI k:=by have:=pow_pos' k; unfold tenI; omega
def psum (f:Nat->Int):Nat->Int
 | 0=>0
 | k + 1=>psum f k + f k * tenI k
theorem psum_congr {f g:Nat->Int}:∀ {k:Nat},(∀ j,j < k->f j = g j)->psum f k = psum g k
 | 0,_=>rfl
 | k + 1,h=>by rw [psum,psum,psum_congr fun j hj=>h j (by omega),h k (by omega)]
theorem psum_add (f g:Nat->Int):∀ k,psum (fun j=>f j + g j) k = psum f k + psum g k
 | 0=>rfl
 | k + 1=>by rw [psum,psum,psum,psum_add f g k,Int.add_mul]; omega
theorem psum_sub (f g:Nat->Int):∀ k,psum (fun j=>f j - g j) k = psum f k - psum g k
 | 0=>rfl
 | k + 1=>by rw [psum,psum,psum,psum_sub f g k,Int.sub_mul]; omega
theorem psum_zero:∀ k,psum (fun _=>0) k = 0
 | 0=>rfl
 | k + 1=>by rw [psum,psum_zero k,Int.zero_mul,Int.add_zero]
theorem psum_upd (f:Nat->Int) (i:Nat) (v:Int):∀ k,i < k->psum (fun j=>if j = i then f j + v else f j) k = psum f k + v * tenI i
 | 0,h=>by omega
 | k + 1,h=>by
  rw [psum,psum]
  by_cases hk:i = k
  ·subst hk
   rw [if_pos rfl,psum_congr (g:=f) fun j hj=>if_neg (by omega),Int.add_mul];omega
  ·rw [psum_upd f i v k (by omega),if_neg (by omega)]
   omega
theorem psum_top {f:Nat->Int} {n:Nat}:∀ k,(∀ j,n <= j->f j = 0)->n <= k->psum f k = psum f n
 | 0,_,h=>by rw [show n = 0 by omega]
 | k + 1,hf,h=>by
  by_cases hk:n = k + 1
  ·rw [hk]
  ·rw [psum,psum_top k hf (by omega),hf k (by omega),Int.zero_mul,Int.add_zero]
def dgAt (l:List UInt8) (i:Nat):Int:=if i < l.length then ((l.getD (l.length - 1 - i) 48).toNat:Int) - 48 else 0
theorem dgAt_top {l:List UInt8} {i:Nat} (h:l.length <= i):dgAt l i = 0:=if_neg (by omega)
theorem dgAt_range {l:List UInt8} (h:Dg l) (i:Nat):0 <= dgAt l i/\dgAt l i <= 9:=by
 unfold dgAt
 split
 ·rename_i hi
  have:=h ((l.getD (l.length - 1 - i) 48)) (by
   rw [List.getD_eq_getElem?_getD,List.getElem?_eq_getElem (by omega)];exact List.getElem_mem _)
  omega
 ·omega
theorem dgAt_cons {c:UInt8} {l:List UInt8} {i:Nat} (h:i < l.length):dgAt (c :: l) i = dgAt l i:=by
 unfold dgAt;rw [if_pos h,if_pos (by rw [List.length_cons]; omega),List.length_cons,show l.length + 1 - 1 - i = (l.length - 1 - i) + 1 by omega]
 rfl
theorem psum_val:∀ (l:List UInt8),Dg l->psum (dgAt l) l.length = (valL l:Int)
 | [],_=>rfl
 | c :: l,h=>by
  have hc:=h c List.mem_cons_self;have ih:=psum_val l fun d hd=>h d (List.mem_cons_of_mem _ hd)
  rw [List.length_cons,psum,psum_congr (g:=dgAt l) fun j hj=>dgAt_cons hj,ih,valL_cons];have:dgAt (c :: l) l.length = ((c.toNat - 48:Nat):Int):=by
   unfold dgAt;rw [if_pos (by simp),List.length_cons,show l.length + 1 - 1 - l.length = 0 by omega]
   show ((c.toNat:Nat):Int) - 48 = _
   omega
  rw [this,Int.natCast_add,Int.natCast_mul]
  show (valL l:Int) + _ * tenI l.length = _ * tenI l.length + _
  omega
theorem psum_dg {l:List UInt8} (h:Dg l) {k:Nat} (hk:l.length <= k):psum (dgAt l) k = (valL l:Int):=by
 rw [psum_top k (fun j hj=>dgAt_top hj) hk,psum_val l h]
def vrev (l:List UInt8):Nat:=valL l.reverse
theorem vrev_snoc (l:List UInt8) {k:Nat} (h:k < 10):(vrev (l ++ [UInt8.ofNat (48 + k)]):Int) = vrev l + k * tenI l.length:=by
 unfold vrev;rw [List.reverse_append]
 show ((valL (_ :: l.reverse):Nat):Int) = _
 rw [valL_cons,dg_nat h,List.length_reverse,Nat.add_sub_cancel_left,Int.natCast_add,Int.natCast_mul]
 show (k:Int) * tenI l.length + _ = _ + (k:Int) * tenI l.length
 omega
theorem dg_rev {l:List UInt8} (h:Dg l):Dg l.reverse:=fun c hc=>h c (List.mem_reverse.1 hc)
theorem vrev_lt {l:List UInt8} (h:Dg l):(vrev l:Int) < tenI l.length:=by
 have:=val_lt _ (dg_rev h);rw [List.length_reverse] at this;unfold tenI vrev;omega
structure CarI (out:List UInt8) (carry total:Int):Prop where
 dg:Dg out
 eq:(vrev out:Int) + carry * tenI out.length = total
theorem CarI.nil:CarI [] 0 0:=⟨Dg.nil,rfl⟩
theorem CarI.put {out:List UInt8} {carry total:Int} (h:CarI out carry total) (n:Int) :
  CarI (out ++ [UInt8.ofNat (48 + ((n + carry) % 10).toNat)]) ((n + carry) / 10) (total + n * tenI out.length):=by
 have h1:0 <= (n + carry) % 10:=Int.emod_nonneg _ (by omega);have h2:(n + carry) % 10 < 10:=Int.emod_lt_of_pos _ (by omega);refine ⟨h.dg.app (Dg.one (by omega)),?_⟩;rw [vrev_snoc _ (by omega),<- h.eq,List.length_append,List.length_singleton,tenI_succ];have h3:=Int.emod_add_mul_ediv (n + carry) 10;rw [Int.toNat_of_nonneg h1];generalize (n + carry) / 10 = q at *;generalize hr:(n + carry) % 10 = r at *;generalize tenI out.length = t at *;have e1:q * (10 * t) = (10 * q) * t:=by rw [<- Int.mul_assoc,Int.mul_comm q 10]
 have e2:(10 * q) * t = (n + carry - r) * t:=by congr 1; omega
 rw [e1,e2,Int.sub_mul,Int.add_mul];omega
theorem CarI.fin {out:List UInt8} {total:Int} (h:CarI out 0 total):stripL out.reverse = digL total.toNat:=by
 have:=h.eq;rw [Int.zero_mul,Int.add_zero] at this;rw [stripL_val (dg_rev h.dg),<- this]
 rfl
theorem CarI.none {out:List UInt8} {carry total:Int} (h:CarI out carry total) (h0:0 <= total) (h1:total < tenI out.length):carry = 0:=by
 have h2:=h.eq;have h3:=vrev_lt h.dg;have hp:=tenI_pos out.length;generalize tenI out.length = t at *
 rcases Int.lt_trichotomy carry 0 with hc | hc | hc
 ·have:carry * t <= (-1) * t:=Int.mul_le_mul_of_nonneg_right (by omega) (by omega)
  omega
 ·exact hc
 ·have:1 * t <= carry * t:=Int.mul_le_mul_of_nonneg_right (by omega) (by omega)
  omega
end
section
open Go Q Go.RowKit
structure In40 (n:Nm):Prop where
 c:n.C
 m:n.m < 10 ^ 40
 lo:-500 <= n.e
 hi:n.e <= 500
theorem In40.len {n:Nm} (h:In40 n):lenD n.m <= 40:=lenD_lt (by omega) h.m
theorem In40.fits {n:Nm} (h:In40 n):fitsN n = true:=by
 have h1:=h.len;have h2:=lenD_pos n.m;have h3:=h.lo;have h4:=h.hi;refine fits_of ?_ ?_ <;> unfold adjN <;> omega
theorem In40.ok {n:Nm} (h:In40 n):OkN n:=⟨h.c,by have:=h.len; omega,h.fits⟩
theorem In40.fin {n:Nm} (h:In40 n):finN n 40 = .ok n:=fin_ok h.len h.fits
theorem wide40:wideD 40 = true:=rfl
theorem opd1_ok {n:Nm} (h:In40 n):opd1 n.num 40 = .ok n:=by
 unfold opd1;rw [nmOf_num h.ok];exact h.fin
theorem opd2_ok {a b:Nm} (ha:In40 a) (hb:In40 b):opd2 a.num b.num 40 = .ok (a,b):=by
 unfold opd2;rw [nmOf_num ha.ok,nmOf_num hb.ok];simp only [wide40,if_true];rw [show Int.toNat 40 = 40 from rfl,ha.fin,hb.fin]
theorem addR_ok {a b:Nm} (ha:In40 a) (hb:In40 b):addR a.num b.num 40 = finN (plusN a b) 40:=by
 unfold addR;rw [opd2_ok ha hb]; rfl
theorem subR_ok {a b:Nm} (ha:In40 a) (hb:In40 b):subR a.num b.num 40 = finN (plusN a (negN b)) 40:=by
 unfold subR;rw [opd2_ok ha hb]; rfl
theorem mulR_ok {a b:Nm} (ha:In40 a) (hb:In40 b):mulR a.num b.num 40 = finN (mulN a b) 40:=by
 unfold mulR;rw [opd2_ok ha hb]; rfl
theorem fin_near {n:Nm} (hc:n.C) (h1:n.m < 10 ^ 100) (h2:-300 <= n.e) (h3:n.e <= 300):finN n 40 = .ok (roundN n 40)/\In40 (roundN n 40):=by
 have h4:=lenD_lt (by omega) h1;have h5:=lenD_pos n.m;have h6:=round_len (n:=n) (d:=40) (by omega);have h7:=lenD_pos (roundN n 40).m;have hin:In40 (roundN n 40):=by
  refine ⟨C_round (by omega) hc,(lenD_le (by omega)).1 h6,?_,?_⟩
  ·have:=round_exp n 40; omega
  ·rcases adj_round (n:=n) (d:=40) (by omega) with e | e <;> unfold adjN at e <;> omega
 refine ⟨?_,hin⟩;unfold finN;rw [if_pos hin.fits]
theorem Sml.in40 {n:Nm} (h:Sml n):In40 n:=⟨h.c,Nat.lt_trans h.m (Nat.pow_lt_pow_right (by omega) (by omega)),by have:=h.lo; omega,by have:=h.hi; omega⟩
theorem Sml.fr {n:Nm} (h:Sml n):Fr n (-8) 8 (10 ^ 28):=⟨h.c,h.lo,h.hi,h.up (by omega) h.lo⟩
theorem Fr.in40 {n:Nm} {lo hi:Int} {V:Nat} (h:Fr n lo hi V) (hV:V <= 10 ^ 40) (h1:-500 <= lo) (h2:hi <= 500):In40 n:=
 ⟨h.c,Nat.lt_of_lt_of_le h.m hV,by have:=h.lo_; omega,by have:=h.hi_; omega⟩
theorem mul_in {a b:Nm} {i j:Nat} {lo hi lo' hi':Int} (ha:a.m < 10 ^ i) (hb:b.m < 10 ^ j) (h1:lo <= a.e) (h2:a.e <= hi) (h3:lo' <= b.e) (h4:b.e <= hi') (h5:lo + lo' <= 0) (h6:0 <= hi + hi') :
  (mulN a b).m < 10 ^ (i + j)/\lo + lo' <= (mulN a b).e/\(mulN a b).e <= hi + hi':=by
 refine ⟨?_,?_⟩
 ·show (mkN _ _ _).m < _
  rw [mk_m,Nat.pow_add];exact Nat.mul_lt_mul'' ha hb
 ·exact mk_e (by omega) (by omega) h5 h6
structure AlgebraN (a b c:Nm):Prop where
 add_ab:addR a.num b.num 40 = .ok (plusN a b)
 add_ba:addR b.num a.num 40 = .ok (plusN a b)
 mul_ab:mulR a.num b.num 40 = .ok (mulN a b)
 mul_ba:mulR b.num a.num 40 = .ok (mulN a b)
 sub_ab:subR a.num b.num 40 = .ok (plusN a (negN b))
 add_an:addR a.num (negN b).num 40 = .ok (plusN a (negN b))
 add_az:addR a.num nz.num 40 = .ok a
 mul_a1:mulR a.num oneN.num 40 = .ok a
 add_bc:addR b.num c.num 40 = .ok (plusN b c)
 add_l:addR (plusN a b).num c.num 40 = .ok (plusN (plusN a b) c)
 add_r:addR a.num (plusN b c).num 40 = .ok (plusN a (plusN b c))
 mul_bc:mulR b.num c.num 40 = .ok (mulN b c)
 mul_l:mulR (mulN a b).num c.num 40 = .ok (mulN (mulN a b) c)
 mul_r:mulR a.num (mulN b c).num 40 = .ok (mulN a (mulN b c))
 mul_ac:mulR a.num c.num 40 = .ok (mulN a c)
 dist:∃ x y,mulR a.num (plusN b c).num 40 = .ok x/\addR (mulN a b).num (mulN a c).num 40 = .ok y/\(lenD (plusN b c).m + lenD a.m <= 40->sameN x y)/\OkN x/\OkN y
theorem nz_in:In40 nz:=⟨C_nz,pow_pos' _,by decide,by decide⟩
theorem one_in:In40 oneN:=⟨C_one,Nat.one_lt_pow (by omega) (by omega),by decide,by decide⟩
theorem algebra {a b c:Nm} (ha:Sml a) (hb:Sml b) (hc:Sml c):AlgebraN a b c:=by
 have p1:(10:Nat) ^ 28 + 10 ^ 28 <= 10 ^ 29:=by rw [show 29 = 28 + 1 from rfl,Nat.pow_succ]; omega
 have p2:(10:Nat) ^ 28 + 10 ^ 28 + 10 ^ 28 <= 10 ^ 29:=by rw [show 29 = 28 + 1 from rfl,Nat.pow_succ]; omega
 have p3:(10:Nat) ^ 29 <= 10 ^ 40:=Nat.pow_le_pow_right (by omega) (by omega);have fab:=ha.fr.plus hb.fr (by omega) (by omega);have fbc:=hb.fr.plus hc.fr (by omega) (by omega);have fl:=fab.plus hc.fr (by omega) (by omega);have fr:=ha.fr.plus fbc (by omega) (by omega);have fn:=ha.fr.plus (hb.fr.neg (by omega) (by omega)) (by omega) (by omega);have iab:=fab.in40 (by omega) (by omega) (by omega);have ibc:=fbc.in40 (by omega) (by omega) (by omega);have il:=fl.in40 (by omega) (by omega) (by omega);have ir:=fr.in40 (by omega) (by omega) (by omega);have inn:=fn.in40 (by omega) (by omega) (by omega);have ineg:=(hb.fr.neg (by omega) (by omega)).in40 (by omega) (by omega) (by omega);have mab:=mul_in ha.m hb.m ha.lo ha.hi hb.lo hb.hi (by omega) (by omega);have mac:=mul_in ha.m hc.m ha.lo ha.hi hc.lo hc.hi (by omega) (by omega);have mbc:=mul_in hb.m hc.m hb.lo hb.hi hc.lo hc.hi (by omega) (by omega);have q24:(10:Nat) ^ (12 + 12) < 10 ^ 40:=Nat.pow_lt_pow_right (by omega) (by omega);have q36:(10:Nat) ^ (12 + 12 + 12) < 10 ^ 40:=Nat.pow_lt_pow_right (by omega) (by omega);have jab:In40 (mulN a b):=⟨C_mul _ _,by omega,by omega,by omega⟩
 have jac:In40 (mulN a c):=⟨C_mul _ _,by omega,by omega,by omega⟩
 have jbc:In40 (mulN b c):=⟨C_mul _ _,by omega,by omega,by omega⟩
 have mabc:=mul_in mab.1 hc.m mab.2.1 mab.2.2 hc.lo hc.hi (by omega) (by omega);have jl:In40 (mulN (mulN a b) c):=⟨C_mul _ _,by omega,by omega,by omega⟩
 have ia:=ha.in40;have ib:=hb.in40;have ic:=hc.in40
 -- the distributed product
 have bcm:(plusN b c).m < 10 ^ 29:=Nat.lt_of_lt_of_le fbc.m p1;have mx:=mul_in (i:=12) (j:=29) ha.m bcm ha.lo ha.hi fbc.lo_ fbc.hi_ (by omega) (by omega);have q41:(10:Nat) ^ (12 + 29) < 10 ^ 100:=Nat.pow_lt_pow_right (by omega) (by omega);obtain ⟨x1,x2⟩:=fin_near (C_mul a (plusN b c)) (by omega) (by omega) (by omega);have fmab:Fr (mulN a b) (-16) 16 (10 ^ 56):=by
  have:=Fr.of (lo:=-16) (hi:=16) (C_mul a b) mab.1 (by omega) (by omega);exact this.mono rfl (by omega) (Nat.pow_le_pow_right (by omega) (by omega))
 have fmac:Fr (mulN a c) (-16) 16 (10 ^ 56):=by
  have:=Fr.of (lo:=-16) (hi:=16) (C_mul a c) mac.1 (by omega) (by omega);exact this.mono rfl (by omega) (Nat.pow_le_pow_right (by omega) (by omega))
 have fy:=fmab.plus fmac (by omega) (by omega);have q57:(10:Nat) ^ 56 + 10 ^ 56 < 10 ^ 100:=by
  have:(10:Nat) ^ 56 + 10 ^ 56 <= 10 ^ 57:=by rw [show 57 = 56 + 1 from rfl,Nat.pow_succ]; omega
  exact Nat.lt_of_le_of_lt this (Nat.pow_lt_pow_right (by omega) (by omega))
 obtain ⟨y1,y2⟩:=fin_near fy.c (Nat.lt_trans fy.m q57) (by have:=fy.lo_; omega) (by have:=fy.hi_; omega);exact {
  add_ab:=by rw [addR_ok ia ib,iab.fin]
  add_ba:=by rw [addR_ok ib ia,plus_comm hb.c ha.c,iab.fin]
  mul_ab:=by rw [mulR_ok ia ib,jab.fin]
  mul_ba:=by rw [mulR_ok ib ia,mul_comm',jab.fin]
  sub_ab:=by rw [subR_ok ia ib,inn.fin]
  add_an:=by rw [addR_ok ia ineg,inn.fin]
  add_az:=by rw [addR_ok ia nz_in,plus_zero ha.c,ia.fin]
  mul_a1:=by rw [mulR_ok ia one_in,mul_one' ha.c,ia.fin]
  add_bc:=by rw [addR_ok ib ic,ibc.fin]
  add_l:=by rw [addR_ok iab ic,il.fin]
  add_r:=by rw [addR_ok ia ibc,ir.fin]
  mul_bc:=by rw [mulR_ok ib ic,jbc.fin]
  mul_l:=by rw [mulR_ok jab ic,jl.fin]
  mul_r:=by rw [mulR_ok ia jbc,<- mul_assoc_eq,jl.fin]
  mul_ac:=by rw [mulR_ok ia ic,jac.fin]
  dist:=by
   refine ⟨roundN (mulN a (plusN b c)) 40,roundN (plusN (mulN a b) (mulN a c)) 40,by rw [mulR_ok ia ibc,x1],by rw [addR_ok jab jac,y1],?_,x2.ok,y2.ok⟩;intro hw;have e1:lenD (mulN a (plusN b c)).m <= 40:=by
    have:(mulN a (plusN b c)).m = a.m * (plusN b c).m:=mk_m _ _ _;rw [this];have:=lenD_mul a.m (plusN b c).m;omega
   have e2:lenD (plusN (mulN a b) (mulN a c)).m <= 40:=by
    have:=mul_plus_len (a:=a) (b:=b) (c:=c);have l1:=lenD_lt (by omega) ha.m;have l2:=lenD_lt (by omega) hb.m;have l3:=lenD_lt (by omega) hc.m;omega
   rw [round_id e1,round_id e2];exact mul_plus }
theorem div_end {A Q R B:Nat} (h:A = Q * B + R) (hB:R < B):Q = A / B/\R = A % B:=by
 subst h;have h0:0 < B:=by omega
 refine ⟨?_,?_⟩
 ·rw [Nat.add_comm,Nat.add_mul_div_right _ _ h0,Nat.div_eq_of_lt hB,Nat.zero_add]
 ·rw [Nat.add_comm,Nat.add_mul_mod_self_right,Nat.mod_eq_of_lt hB]
end
section
open Go Q Go.RowKit
theorem fin_near' {n:Nm} {d:Nat} (hd:0 < d) (hd2:d <= 40) (hc:n.C) (h1:n.m < 10 ^ 200) (h2:-300 <= n.e) (h3:n.e <= 200):finN n d = .ok (roundN n d)/\In40 (roundN n d):=by
 have h4:=lenD_lt (by omega) h1;have h5:=lenD_pos n.m;have h6:=round_len (n:=n) (d:=d) hd;have h7:=lenD_pos (roundN n d).m;have hin:In40 (roundN n d):=by
  refine ⟨C_round hd hc,(lenD_le (by omega)).1 (by omega),?_,?_⟩
  ·have:=round_exp n d; omega
  ·rcases adj_round (n:=n) hd with e | e <;> unfold adjN at e <;> omega
 refine ⟨?_,hin⟩;unfold finN;rw [if_pos hin.fits]
theorem bare_adj {n:Nm} (h:n.m ≠ 0):adjN (bareN n) = adjN n:=by
 have:=lenD_bare h;unfold bareN adjN;rw [if_neg h];simp only;omega
theorem bare_ok {n:Nm} (h:OkN n):OkN (bareN n):=by
 by_cases h0:n.m = 0
 ·have:bareN n = nz:=by unfold bareN; rw [if_pos h0]
  rw [this]; exact ok_nz
 ·have hl:=lenD_bare h0
  have hp:=bareM_pos h0;have hb:bareN n = ⟨n.s,(bareM n.m).1,n.e + (bareM n.m).2⟩:=by unfold bareN; rw [if_neg h0]
  refine ⟨C_bare n,?_,?_⟩
  ·rw [hb]
   show lenD (bareM n.m).1 <= 1000
   have:=h.len;omega
  ·have hf:=h.fit
   unfold fitsN at hf ⊢;rw [bare_adj h0];rw [decide_eq_false h0,Bool.false_or] at hf;rw [hf,Bool.or_true]
theorem quo_there {a b:Nm} {d:Nat} (hd:0 < d) (hd2:d <= 40) (ha:a.m < 10 ^ 40) (hb:b.m < 10 ^ 40) (e1:-50 <= a.e) (e2:a.e <= 50) (e3:-50 <= b.e) (e4:b.e <= 50) :
  ∃ n,quoN a b d (quoQ a b d) = .ok n/\OkN n:=by
 have hk:scN a b d <= 81:=by
  unfold scN;have:=lenD_lt (by omega) hb;omega
 have hq:quoQ a b d < 10 ^ 200:=by
  unfold quoQ;refine Nat.lt_of_le_of_lt (Nat.div_le_self _ _) ?_;have h1:10 ^ scN a b d <= 10 ^ 81:=Nat.pow_le_pow_right (by omega) hk;have h2:=Nat.mul_lt_mul_of_lt_of_le ha h1 (pow_pos' _);rw [<- Nat.pow_add] at h2;exact Nat.lt_trans h2 (Nat.pow_lt_pow_right (by omega) (by omega))
 have he:=mk_e (s:=a.s != b.s) (m:=quoQ a b d) (e:=a.e - b.e - scN a b d) (lo:=-300) (hi:=200) (by omega) (by omega) (by omega) (by omega);obtain ⟨h1,h2⟩:=fin_near' hd hd2 (C_mk (a.s != b.s) (quoQ a b d) (a.e - b.e - scN a b d)) (by rw [mk_m]; exact hq) he.1 he.2;refine ⟨_,by unfold quoN; rw [h1],bare_ok h2.ok⟩
theorem quo_mul {a b:Nm} (ha:Sml a) (hb:b.m ≠ 0):∃ n,quoN (mulN a b) b 40 (quoQ (mulN a b) b 40) = .ok n/\sameN n a/\OkN n:=by
 have em:(mulN a b).m = a.m * b.m:=mk_m _ _ _;have hq:quoQ (mulN a b) b 40 = a.m * 10 ^ scN (mulN a b) b 40:=by
  unfold quoQ;rw [em,Nat.mul_right_comm,Nat.mul_div_cancel _ (Nat.pos_of_ne_zero hb)]
 obtain ⟨j,hj⟩:∃ j,scN (mulN a b) b 40 = j:=⟨_,rfl⟩
 rw [hj] at hq
 by_cases h0:a.m = 0
 ·have e0:mkN ((mulN a b).s != b.s) (quoQ (mulN a b) b 40) ((mulN a b).e - b.e - (j:Int)) = nz:=by
   rw [hq,h0,Nat.zero_mul]; rfl
  refine ⟨nz,?_,?_,ok_nz⟩
  ·unfold quoN
   rw [hj,e0,nz_in.fin]
   rfl
  ·rw [ha.c h0]; exact sameN.refl _
 ·have hm:mulN a b = ⟨a.s != b.s,a.m * b.m,a.e + b.e⟩:=mk_s (Nat.mul_ne_zero h0 hb)
  have hqp:a.m * 10 ^ j ≠ 0:=Nat.mul_ne_zero h0 (by have:=pow_pos' j; omega);have hs:((mulN a b).s != b.s) = a.s:=by rw [hm]; cases a.s <;> cases b.s <;> rfl
  have he:(mulN a b).e - b.e - (j:Int) = a.e - j:=by rw [hm]; show a.e + b.e - b.e - _ = _; omega
  have e1:mkN ((mulN a b).s != b.s) (quoQ (mulN a b) b 40) ((mulN a b).e - b.e - (j:Int)) = ⟨a.s,a.m * 10 ^ j,a.e - j⟩:=by
   rw [hs,hq,he,mk_s hqp]
  have hsh:=round_shift (s:=a.s) (m:=a.m) (k:=j) (d:=40) (e:=a.e - j) (by omega) (Nat.pos_of_ne_zero h0);have hrid:roundN ⟨a.s,a.m,a.e - j + j⟩ 40 = a:=by
   have:(⟨a.s,a.m,a.e - j + j⟩:Nm) = a:=by rw [Int.sub_add_cancel]
   rw [this];exact round_id ha.in40.len
  rw [hrid] at hsh;have hadj:adjN ⟨a.s,a.m * 10 ^ j,a.e - j⟩ = adjN a:=by
   unfold adjN;simp only;rw [lenD_shift (Nat.pos_of_ne_zero h0)];omega
  have hC:Nm.C ⟨a.s,a.m * 10 ^ j,a.e - j⟩:=fun e=>absurd e hqp
  have hrl:=round_len (n:=⟨a.s,a.m * 10 ^ j,a.e - j⟩) (d:=40) (by omega);have hfit:fitsN (roundN ⟨a.s,a.m * 10 ^ j,a.e - j⟩ 40) = true:=by
   have h1:=ha.adj
   rcases adj_round (n:=⟨a.s,a.m * 10 ^ j,a.e - j⟩) (d:=40) (by omega) with e | e <;> rw [hadj] at e <;> exact fits_of (by omega) (by omega)
  have hok:OkN (roundN ⟨a.s,a.m * 10 ^ j,a.e - j⟩ 40):=⟨C_round (by omega) hC,by omega,hfit⟩
  refine ⟨bareN (roundN ⟨a.s,a.m * 10 ^ j,a.e - j⟩ 40),?_,(bare_same hok.c).trans hsh,bare_ok hok⟩;unfold quoN finN;rw [hj,e1,if_pos hfit]
theorem pow_in {a:Nm} (h1:a.m < 10 ^ 3) (h2:-3 <= a.e) (h3:a.e <= 3):∀ k:Nat,(powN a k).m <= 10 ^ (3 * k)/\-3 * (k:Int) <= (powN a k).e/\(powN a k).e <= 3 * k
 | 0=>⟨Nat.le_refl 1,by show -3 * ((0:Nat):Int) <= (0:Int); omega,by show (0:Int) <= 3 * ((0:Nat):Int); omega⟩
 | k + 1=>by
  obtain ⟨i1,i2,i3⟩:=pow_in h1 h2 h3 k;refine ⟨?_,?_⟩
  ·show (mkN _ _ _).m <= _
   rw [mk_m,show 3 * (k + 1) = 3 * k + 3 by omega,Nat.pow_add];exact Nat.mul_le_mul i1 (by omega)
  ·exact mk_e (lo:=-3 * ((k + 1:Nat):Int)) (hi:=3 * ((k + 1:Nat):Int)) (by omega) (by omega) (by omega) (by omega)
theorem pow_in40 {a:Nm} (h1:a.m < 10 ^ 3) (h2:-3 <= a.e) (h3:a.e <= 3) {k:Nat} (hk:k <= 12):In40 (powN a k):=by
 obtain ⟨i1,i2,i3⟩:=pow_in h1 h2 h3 k;refine ⟨C_pow a k,?_,by omega,by omega⟩;exact Nat.lt_of_le_of_lt i1 (Nat.pow_lt_pow_right (by omega) (by omega))
theorem powR_ok {a:Nm} (hi:In40 a) (h1:a.m < 10 ^ 3) (h2:-3 <= a.e) (h3:a.e <= 3) {k:Nat} (hk:k <= 12):powR a.num k 40 = .ok (powN a k):=by
 unfold powR;rw [if_neg (by omega),opd1_ok hi];simp only [bindE];rw [if_pos (by omega),Int.toNat_natCast];exact (pow_in40 h1 h2 h3 hk).fin
theorem pow_sqr {a:Nm} (ha:a.C):powN a 2 = mulN a a:=by
 show mulN (mulN oneN a) a = _
 rw [one_mul' ha]
end
section
open Go Q Go.RowKit
theorem opd2_swap (x y:NumM) (d:Int):opd2 y x d = bindE (opd2 x y d) fun p=>.ok (p.2,p.1):=by
 unfold opd2
 cases nmOf x with
 | none=>cases nmOf y <;> rfl
 | some a=>
  cases nmOf y with
  | none=>rfl
  | some b=>
   simp only
   cases wideD d with
   | false=>rfl
   | true=>
    simp only [if_true]
    cases finN a d.toNat <;> cases finN b d.toNat <;> rfl
theorem opd2_some {x y:NumM} {d:Int} {a b:Nm} (h:opd2 x y d = .ok (a,b)):∃ n m,nmOf x = some n/\nmOf y = some m/\wideD d = true/\a = roundN n d.toNat/\b = roundN m d.toNat/\fitsN a = true/\fitsN b = true:=by
 unfold opd2 at h
 cases hx:nmOf x with
 | none=>rw [hx] at h; cases nmOf y <;> cases h
 | some n=>
  cases hy:nmOf y with
  | none=>rw [hx,hy] at h; cases h
  | some m=>
   rw [hx,hy] at h;simp only at h
   cases hw:wideD d with
   | false=>rw [hw] at h; cases h
   | true=>
    rw [hw] at h;simp only [if_true] at h;unfold finN at h
    by_cases f1:fitsN (roundN n d.toNat) = true
    ·by_cases f2:fitsN (roundN m d.toNat) = true
     ·rw [if_pos f1,if_pos f2] at h
      simp only [Except.ok.injEq,Prod.mk.injEq] at h;obtain ⟨rfl,rfl⟩:=h;exact ⟨n,m,rfl,rfl,rfl,rfl,rfl,f1,f2⟩
     ·rw [if_pos f1,if_neg f2] at h; cases h
    ·rw [if_neg f1] at h
     split at h <;> cases h <;> simp_all
theorem wide_pos {d:Int} (h:wideD d = true):0 < d.toNat/\d.toNat <= 40:=by
 unfold wideD at h;simp only [Bool.and_eq_true,decide_eq_true_eq] at h;omega
theorem opd2_C {x y:NumM} {d:Int} {a b:Nm} (h:opd2 x y d = .ok (a,b)):a.C/\b.C:=by
 obtain ⟨n,m,hx,hy,hw,rfl,rfl,_,_⟩:=opd2_some h;have hd:=(wide_pos hw).1;exact ⟨C_round hd (nmOf_some hx).2.c,C_round hd (nmOf_some hy).2.c⟩
theorem cmp_swap (x y:NumM) (s:SetM):cmpR y x s = bindE (cmpR x y s) fun u=>.ok (-u):=by
 unfold cmpR
 cases setOk s with
 | false=>rfl
 | true=>
  simp only [Bool.true_eq_false,if_false];rw [opd2_swap x y]
  cases h:opd2 x y (s.digits - s.fuzz) with
  | error e=>rfl
  | ok p=>
   obtain ⟨a,b⟩:=p;obtain ⟨ca,cb⟩:=opd2_C h;simp only [bindE];rw [dif_anti cb ca]
theorem cmp_range {x y:NumM} {s:SetM} {u:Int} (h:cmpR x y s = .ok u):-1 <= u/\u <= 1:=by
 unfold cmpR at h
 split at h
 ·cases h
 ·cases h2:opd2 x y (s.digits - s.fuzz) with
  | error e=>rw [h2] at h; cases h
  | ok p=>
   rw [h2] at h;simp only [bindE,Except.ok.injEq] at h;rw [<- h];exact dif_range _ _
theorem cmp_same {a b:Nm} {s:SetM} {u:Int} (ha:OkN a) (hb:OkN b) (hs:sameN a b) (h:cmpR a.num b.num s = .ok u):u = 0:=by
 unfold cmpR at h
 split at h
 ·cases h
 ·cases h2:opd2 a.num b.num (s.digits - s.fuzz) with
  | error e=>rw [h2] at h; cases h
  | ok p=>
   obtain ⟨a',b'⟩:=p;rw [h2] at h;simp only [bindE,Except.ok.injEq] at h;obtain ⟨n,m,hx,hy,hw,rfl,rfl,_,_⟩:=opd2_some h2;rw [nmOf_num ha] at hx;rw [nmOf_num hb] at hy
   cases hx
   cases hy
   have hd:=(wide_pos hw).1;rw [<- h];exact dif_same (C_round hd hb.c) (round_same hd ha.c hb.c hs)
theorem cmp_trans {x y z:NumM} {s:SetM} {u v w:Int} (h1:cmpR x y s = .ok u) (h2:cmpR y z s = .ok v) (h3:cmpR x z s = .ok w):u > 0 \/ v > 0 \/ (w <= 0/\((u = 0/\v = 0) \/ w < 0 \/ (w = 0/\u = 0/\v = 0))):=by
 unfold cmpR at h1 h2 h3
 split at h1
 ·cases h1
 ·rename_i hs
  rw [if_neg hs] at h2 h3
  cases g1:opd2 x y (s.digits - s.fuzz) with
  | error e=>rw [g1] at h1; cases h1
  | ok p=>
   cases g2:opd2 y z (s.digits - s.fuzz) with
   | error e=>rw [g2] at h2; cases h2
   | ok q=>
    cases g3:opd2 x z (s.digits - s.fuzz) with
    | error e=>rw [g3] at h3; cases h3
    | ok r=>
     obtain ⟨a,b⟩:=p;obtain ⟨b',c⟩:=q;obtain ⟨a',c'⟩:=r;obtain ⟨n1,m1,e1,f1,_,rfl,rfl,_,_⟩:=opd2_some g1;obtain ⟨n2,m2,e2,f2,_,rfl,rfl,_,_⟩:=opd2_some g2;obtain ⟨n3,m3,e3,f3,hw,rfl,rfl,_,_⟩:=opd2_some g3;rw [f1] at e2; cases e2;rw [e1] at e3; cases e3;rw [f2] at f3; cases f3;rw [g1] at h1; rw [g2] at h2; rw [g3] at h3;simp only [bindE,Except.ok.injEq] at h1 h2 h3;have hd:=(wide_pos hw).1;have:=dif_trans (a:=roundN n1 (s.digits - s.fuzz).toNat) (C_round hd (nmOf_some f1).2.c) (C_round hd (nmOf_some f2).2.c);rw [h1,h2,h3] at this;omega
theorem proof_iff {p r:List UInt8} {X B:Nat} (hB:0 < B):(dgOk p = true/\dgOk r = true/\valL r < B/\valL p * B + valL r = X) ↔ (p = digL (X / B)/\r = digL (X % B)):=by
 constructor
 ·rintro ⟨h1,h2,h3,h4⟩
  obtain ⟨a1,a2,a3⟩:=dgOk_iff.1 h1;obtain ⟨b1,b2,b3⟩:=dgOk_iff.1 h2;obtain ⟨e1,e2⟩:=div_end h4.symm h3;refine ⟨?_,?_⟩
  ·rw [<- e1,(digL_val a2 a1 a3).1]
  ·rw [<- e2,(digL_val b2 b1 b3).1]
 ·rintro ⟨rfl,rfl⟩
  refine ⟨dgOk_dig _,dgOk_dig _,?_,?_⟩
  ·rw [valL_dig]; exact Nat.mod_lt _ hB
  ·rw [valL_dig,valL_dig,Nat.mul_comm]; exact Nat.div_add_mod X B
def chkR (x y:NumM) (d:Int) (n:NumM) (pq pr:ByteArray):Int:=match nmOf n with
 | none=>1
 | some m=>match divR x y d with
  | .error e=>e
  | .ok (m',q,r)=>if m = m'/\pq = digB q/\pr = digB r then 0 else 11
theorem dig_ten (j:Nat):digL (10 ^ j) = 49 :: zerosL j:=by
 have:=digL_shift (n:=1) (k:=j) (by omega);rw [Nat.one_mul] at this;rw [this,digL_lt (by omega)]
 rfl
theorem near_law {n:Nm} {d:Nat} (hd:0 < d) (h:d < lenD n.m) (h15:lenD n.m <= 15):∃ u last:Nat,(roundN n d).e - n.e = (u:Int)/\u <= 17 /\
  last = (if (rtrim (digL (roundN n d).m)).dropWhile (· == 48) = [49]/\(digL (roundN n d).m).head? = some 49/\(roundN n d).e - n.e > (lenD n.m:Int) - d then 10 ^ u / 10 else 10 ^ u) /\
  2 * ((roundN n d).m * 10 ^ u) <= 2 * n.m + last/\2 * n.m < 2 * ((roundN n d).m * 10 ^ u) + last:=by
 obtain ⟨_,k,u,e1,e2,e3,e4,e5⟩:=nearest hd h;refine ⟨u,10 ^ k,e1,by omega,?_,e3,e4⟩
 rcases e5 with rfl | ⟨rfl,em⟩
 ·rw [if_neg]
  rintro ⟨_,_,h3⟩
  omega
 ·rw [if_pos]
  ·rw [Nat.pow_succ,Nat.mul_div_cancel _ (by omega)]
  ·rw [em,dig_ten]
   refine ⟨?_,rfl,by omega⟩;have:=rtrim_app [49] (d - 1);rw [List.singleton_append] at this;rw [this]
   decide
end
section
open Go Q Go.RowKit
abbrev bytes (s:ByteArray):List UInt8:=s.data.toList
theorem size_bytes (s:ByteArray):s.size = (bytes s).length:=by simp
theorem bytes_extract (s:ByteArray) (i j:Nat):bytes (s.extract i j) = ((bytes s).drop i).take (j - i):=by
 show (s.extract i j).data.toList = _
 rw [ByteArray.data_extract,Array.toList_extract,List.extract_eq_take_drop]
theorem bytes_from (s:ByteArray) (i:Nat):bytes (s.extract i s.size) = (bytes s).drop i:=by
 rw [bytes_extract,List.take_of_length_le (by rw [List.length_drop,size_bytes]; omega)]
theorem bytes_to (s:ByteArray) (i:Nat):bytes (s.extract 0 i) = (bytes s).take i:=by
 rw [bytes_extract,List.drop_zero,Nat.sub_zero]
theorem bt_get {s:ByteArray} {k:Nat} {c:UInt8} (h:(bytes s)[k]? = some c):bt s (k:Int) = (c.toNat:Int):=by
 unfold bt;rw [Int.toNat_natCast,List.getD_eq_getElem?_getD,show s.data.toList[k]? = some c from h]
 rfl
theorem u8_eq {c d:UInt8}:((c.toNat:Int) = (d.toNat:Int)) ↔ c = d:=by
 constructor
 ·intro h
  exact UInt8.toNat_inj.1 (by omega)
 ·rintro rfl; rfl
theorem ba_inj {a b:ByteArray} (h:bytes a = bytes b):a = b:=ByteArray.ext (Array.toList_inj.1 h)
theorem bytes_mk (l:List UInt8):bytes ⟨l.toArray⟩ = l:=by simp
theorem bytes_add (a b:ByteArray):bytes (a ++ b) = bytes a ++ bytes b:=by simp
abbrev strB (l:List UInt8):ByteArray:=⟨l.toArray⟩
theorem strB_bytes (s:ByteArray):strB (bytes s) = s:=ba_inj (bytes_mk _)
abbrev b1 (c:UInt8):ByteArray:=⟨#[c]⟩
theorem bt_b1 (c:UInt8):bt (b1 c) 0 = c.toNat:=rfl
instance (priority:=1100) {t ty:Nat} {c:UInt8} [g:TyStr t]:Run (Builtin.len_ #[t] ty #[.string (b1 c)]) (.int .i64 1):=⟨fun w=>(inferInstance:Run (Builtin.len_ #[t] ty #[.string (b1 c)]) (.int .i64 (b1 c).size)).h w⟩
instance {c:UInt8}:InStr (b1 c) 0:=⟨by decide,by show (0:Int) < ((1:Nat):Int); decide⟩
instance {t:Nat} {s:ByteArray} {l h:Int} {k k':IntKind} [g:TyStr t] [hl:InR l (h + 1)] [hr:InR h (s.size + 1)]:Run (sl t (.string s) (some (.int k l)) (some (.int k' h)) none) (.string (s.extract l.toNat h.toNat)):=⟨fun w=>by
 have h1:h <= s.size:=by have:=hr.h1; omega
 have h2:l <= h:=by have:=hl.h1; omega
 have h3:l.toNat <= h.toNat:=by omega
 have h4:(l.toNat:Int) <= (h.toNat:Int):=by omega
 have h5:(h.toNat:Int) = h:=by have:=hr.h0; omega
 simp only [sl,Instr.sliceAt,Sem.run_bind,g.und,Result.andThen_ok,Instr.slice,Instr.sliceBounds,run_pure,Instr.sliceBound,asIntOf,pure_bind,hr.h0,hl.h0,h1,h2,h3,h4,h5,and_self,if_true,Option.isSome_none,Bool.false_eq_true,if_false]⟩
theorem trimLeftByte_of {z:Z} {w:World} {s:ByteArray} {c:UInt8}:Fn1 107 #[.string s,.int .u8 c.toNat] z w fun _ r=>r = .string (strB ((bytes s).dropWhile (· == c))):=Fn1.intro fun hS=>en107 (by
 unfold vc107;refine LoopG1 (fun (p:ByteArray) x w'=>x = .string p/\p.size <= s.size/\(bytes p).dropWhile (· == c) = (bytes s).dropWhile (· == c)/\∃ z',Le z z'/\Res w z [] w' z' []) (fun p=>p.size) s ⟨rfl,Nat.le_refl _,rfl,z,Le.refl _,hS⟩ ?_;rintro I M p x w2 m ⟨rfl,hle,he,z2,hz2,hS2⟩ back
 clear hS;refine V_run ?_;refine V_run ?_;intro K0 hK0;have hsz:=size_bytes p;refine Cond_d (fun h=>?_) (fun h=>?_)
 ·cases hb:bytes p with
  | nil=>rw [hb] at hsz; simp only [List.length_nil] at hsz; omega
  | cons d l=>
   haveI:InStr p 0:=⟨by omega,by omega⟩
   have hbt:bt p 0 = (d.toNat:Int):=bt_get (k:=0) (by rw [hb]; rfl);refine V_run ?_;rw [hbt];refine V_run ?_;refine hK0 _ _ fun _=>?_
   refine Cond_d (fun h2=>?_) (fun h2=>?_)
   ·have h2:d = c:=u8_eq.1 (by simpa using h2)
    haveI:InR (1:Int) ((p.size:Int) + 1):=⟨by omega,by omega⟩
    refine V_run ?_;have hp:bytes (p.extract 1 p.size) = l:=by rw [bytes_from,hb]; rfl
    refine back (p.extract 1 p.size) _ _ ⟨by simp,?_,?_,z2,hz2,hS2⟩ ?_
    ·rw [size_bytes,hp]; rw [hb] at hsz; simp only [List.length_cons] at hsz; omega
    ·rw [hp,<- he,hb,h2]; simp
    ·rw [size_bytes (p.extract 1 p.size),hp]; rw [hb] at hsz; simp only [List.length_cons] at hsz; omega
   ·have h2:d ≠ c:=fun e=>by subst e; simp at h2
    refine ⟨_,_,hS2,?_⟩;rw [<- he,hb,List.dropWhile_cons,if_neg (by simpa using h2),<- hb,strB_bytes]
 ·refine hK0 _ _ fun _=>?_
  refine Cond_f ?_;refine ⟨_,_,hS2,?_⟩;have:bytes p = []:=List.eq_nil_of_length_eq_zero (by omega);rw [<- he,this,List.dropWhile_nil];rw [<- strB_bytes p,this])
end
section
open Go Q Go.RowKit
class Sm (s:ByteArray):Prop where
 h:s.size <= big
def lefB (c:UInt8) (s:ByteArray):ByteArray:=strB ((bytes s).dropWhile (· == c))
def rigL (c:UInt8) (l:List UInt8):List UInt8:=(l.reverse.dropWhile (· == c)).reverse
def rigB (c:UInt8) (s:ByteArray):ByteArray:=strB (rigL c (bytes s))
theorem rigL_end {c:UInt8} {l:List UInt8}:rigL c (l ++ [c]) = rigL c l:=by simp [rigL]
theorem rigL_keep {c d:UInt8} {l:List UInt8} (h:d ≠ c):rigL c (l ++ [d]) = l ++ [d]:=by simp [rigL,h]
instance {s:ByteArray} {c:UInt8}:Pu 107 #[.string s,.int .u8 c.toNat] (.string (lefB c s)):=⟨fun z w=>trimLeftByte_of⟩
theorem trimRightByte_of {z:Z} {w:World} {s:ByteArray} {c:UInt8} (hs:s.size <= big):Fn1 108 #[.string s,.int .u8 c.toNat] z w fun _ r=>r = .string (rigB c s):=Fn1.intro fun hS=>en108 (by
 unfold vc108;simp only [big] at hs;refine LoopG1 (fun (p:ByteArray) x w'=>x = .string p/\p.size <= s.size/\rigL c (bytes p) = rigL c (bytes s)/\∃ z',Le z z'/\Res w z [] w' z' []) (fun p=>p.size) s ⟨rfl,Nat.le_refl _,rfl,z,Le.refl _,hS⟩ ?_;rintro I M p x w2 m ⟨rfl,hle,he,z2,hz2,hS2⟩ back
 clear hS;refine V_run ?_;refine V_run ?_;intro K0 hK0;have hsz:=size_bytes p;refine Cond_d (fun h=>?_) (fun h=>?_)
 ·rcases List.eq_nil_or_concat (bytes p) with hb | ⟨l,d,hb⟩
  ·rw [hb] at hsz; simp only [List.length_nil] at hsz; omega
  ·rw [List.concat_eq_append] at hb
   have hl:p.size = l.length + 1:=by rw [hsz,hb]; simp
   haveI:InI ((p.size:Int) - 1):=⟨by omega⟩
   haveI:InStr p ((p.size:Int) - 1):=⟨by omega,by omega⟩
   have hbt:bt p ((p.size:Int) - 1) = (d.toNat:Int):=by
    rw [show (p.size:Int) - 1 = (l.length:Int) by omega];exact bt_get (by rw [hb]; simp)
   refine V_run ?_;refine V_run ?_;refine V_run ?_;rw [hbt];refine V_run ?_;refine hK0 _ _ fun _=>?_
   refine Cond_d (fun h2=>?_) (fun h2=>?_)
   ·have h2:d = c:=u8_eq.1 (by simpa using h2)
    haveI:InR ((p.size:Int) - 1) ((p.size:Int) + 1):=⟨by omega,by omega⟩
    refine V_run ?_;refine V_run ?_;refine V_run ?_;have hn:((p.size:Int) - 1).toNat = l.length:=by omega
    have hp:bytes (p.extract 0 ((p.size:Int) - 1).toNat) = l:=by rw [bytes_to,hb,hn]; simp
    refine back (p.extract 0 ((p.size:Int) - 1).toNat) _ _ ⟨by simp,?_,?_,z2,hz2,hS2⟩ ?_
    ·rw [size_bytes,hp]; omega
    ·rw [hp,<- he,hb,h2,rigL_end]
    ·rw [size_bytes (p.extract 0 _),hp]; omega
   ·have h2:d ≠ c:=fun e=>by subst e; simp at h2
    refine ⟨_,_,hS2,?_⟩;rw [rigB,<- he,hb,rigL_keep h2,<- hb,strB_bytes]
 ·refine hK0 _ _ fun _=>?_
  refine Cond_f ?_;refine ⟨_,_,hS2,?_⟩;have:bytes p = []:=List.eq_nil_of_length_eq_zero (by omega);rw [rigB,<- he,this]
  show _ = Value.string (strB [])
  rw [<- this,strB_bytes])
instance {s:ByteArray} {c:UInt8} [hs:Sm s]:Pu 108 #[.string s,.int .u8 c.toNat] (.string (rigB c s)):=⟨fun z w=>trimRightByte_of hs.h⟩
theorem lefB_nil {c:UInt8}:lefB c ⟨#[]⟩ = ⟨#[]⟩:=rfl
theorem rigB_nil {c:UInt8}:rigB c ⟨#[]⟩ = ⟨#[]⟩:=rfl
class Lt7 (c:UInt8):Prop where
 h:c.toNat < 128
instance:Lt7 48:=⟨by decide⟩
theorem b1_ne {c:UInt8}:decide (b1 c = (⟨#[]⟩:ByteArray)) = false:=by
 refine decide_eq_false fun h=>?_
 have:=congrArg ByteArray.size h;exact absurd this (by show ¬ (1 = 0); decide)
instance {s:ByteArray} {c:UInt8} [hc:Lt7 c]:Pu 157 #[.string s,.string (b1 c)] (.string (lefB c s)):=⟨fun z w=>Fn1.intro fun hS=>en157 (by
 unfold vc157;have hc:=hc.h;refine V_run ?_;intro K0 hK0;refine Cond_d (fun h=>?_) (fun h=>?_)
 ·refine hK0 _ _ fun _=>?_
  refine Cond_t ?_;have h:s = ⟨#[]⟩:=by simpa using h
  subst h;exact ⟨_,_,hS,by rw [lefB_nil]⟩
 ·refine V_run ?_
  refine hK0 _ _ fun _=>?_
  rw [show decide ((b1 c) = (⟨#[]⟩:ByteArray)) = false from b1_ne];refine Cond_f ?_;refine V_run ?_;refine V_run ?_;intro K1 hK1;refine Cond_t ?_;refine V_run ?_;rw [bt_b1];refine V_run ?_;refine hK1 _ _ fun _=>?_
  rw [show decide ((c.toNat:Int) < 128) = true by simp; omega];refine Cond_t ?_;refine V_run ?_;rw [bt_b1];refine CV_pu ?_;intro z1 w1 hz1 hS1;exact ⟨_,_,hS1,rfl⟩)⟩
instance {s:ByteArray} {c:UInt8} [hc:Lt7 c] [hs:Sm s]:Pu 106 #[.string s,.string (b1 c)] (.string (rigB c s)):=⟨fun z w=>Fn1.intro fun hS=>en106 (by
 unfold vc106;have hc:=hc.h;refine V_run ?_;intro K0 hK0;refine Cond_d (fun h=>?_) (fun h=>?_)
 ·refine hK0 _ _ fun _=>?_
  refine Cond_t ?_;have h:s = ⟨#[]⟩:=by simpa using h
  subst h;exact ⟨_,_,hS,by rw [rigB_nil]⟩
 ·refine V_run ?_
  refine hK0 _ _ fun _=>?_
  rw [show decide ((b1 c) = (⟨#[]⟩:ByteArray)) = false from b1_ne];refine Cond_f ?_;refine V_run ?_;refine V_run ?_;intro K1 hK1;refine Cond_t ?_;refine V_run ?_;rw [bt_b1];refine V_run ?_;refine hK1 _ _ fun _=>?_
  rw [show decide ((c.toNat:Int) < 128) = true by simp; omega];refine Cond_t ?_;refine V_run ?_;rw [bt_b1];refine CV_pu ?_;intro z1 w1 hz1 hS1;exact ⟨_,_,hS1,rfl⟩)⟩
instance {s:ByteArray} {c:UInt8} [hc:Lt7 c] [hs:Sm s]:Pu 43 #[.string s,.string (b1 c)] (.string (lefB c (rigB c s))):=⟨fun z w=>Fn1.intro fun hS=>en43 (by
 unfold vc43;have hc:=hc.h;refine V_run ?_;intro K0 hK0;refine Cond_d (fun h=>?_) (fun h=>?_)
 ·refine hK0 _ _ fun _=>?_
  refine Cond_t ?_;have h:s = ⟨#[]⟩:=by simpa using h
  subst h;exact ⟨_,_,hS,by rw [rigB_nil,lefB_nil]⟩
 ·refine V_run ?_
  refine hK0 _ _ fun _=>?_
  rw [show decide ((b1 c) = (⟨#[]⟩:ByteArray)) = false from b1_ne];refine Cond_f ?_;refine V_run ?_;refine V_run ?_;intro K1 hK1;refine Cond_t ?_;refine V_run ?_;rw [bt_b1];refine V_run ?_;refine hK1 _ _ fun _=>?_
  rw [show decide ((c.toNat:Int) < 128) = true by simp; omega];refine Cond_t ?_;refine iDr ?_;intro w3 hS3;refine PV_run ?_;refine PV_run ?_;rw [bt_b1];refine CV_pu ?_;intro z1 w1 hz1 hS1;refine CV_pu ?_;intro z2 w2 hz2 hS2;exact ⟨_,_,hS2,rfl⟩)⟩
def stripB (s:ByteArray):ByteArray:=strB (stripL (bytes s))
instance {s:ByteArray}:Pu 114 #[.string s] (.string (stripB s)):=⟨fun z w=>Fn1.intro fun hS=>en114 (by
 unfold vc114;refine CV_pu (args:=#[.string s,.string (b1 48)]) ?_;intro z1 w1 hz1 hS1;refine V_run ?_;refine Cond_d (fun h=>?_) (fun h=>?_)
 ·refine ⟨_,_,hS1,?_⟩
  have h:lefB 48 s = ⟨#[]⟩:=by simpa using h
  have h:=congrArg bytes h;rw [lefB,bytes_mk] at h;rw [stripB,stripL,h]
 ·refine ⟨_,_,hS1,?_⟩
  have h:¬ lefB 48 s = ⟨#[]⟩:=by simpa using h
  rw [stripB,stripL,lefB]
  cases e:(bytes s).dropWhile (· == 48) with
  | nil=>exact absurd (by rw [lefB,e]) h
  | cons c l=>rfl)⟩
end
section
open Go Q Go.RowKit
instance:EntersX 213 Extern.AbiNoEscape.same:=⟨fun _ _=>by kernel_rfl⟩
abbrev buO (p:Option Addr) (v:Value):Obj:=.cells [.pointer p,v].toArray 169 (0,0)
instance {a:Option Addr} {x y:Operand}:Run (eq .eql 167 x y (.pointer a) (.pointer none)) (.bool a.isNone):=⟨fun w=>by
 have h:∀ d:Nat,(Op.equalIn (d + 1) 167 (.pointer a) (.pointer none)).run Tryz.prog w = .ok a.isNone w:=fun d=>by
  have hu:Tryz.prog.underlying 167 = some (.pointer 169):=by kernel_rfl
  cases a <;> simp [Op.equalIn,run_underlying hu]
 have:=h 9999;simp only [eq,eqGuard,binOp,Op.equal,Op.maxDepth,Sem.run_bind];simp [this]⟩
instance {b off:Nat} {x y:Operand}:Run (eq .neq 167 x y (.pointer (some ⟨b,off,none⟩)) (.pointer (some ⟨b,off,none⟩))) (.bool false):=⟨fun w=>by
 have hu:Tryz.prog.underlying 167 = some (.pointer 169):=by kernel_rfl
 have hi:∃ j,Tryz.prog.info? 169 = some j:=by
  have:(Tryz.prog.info? 169).isSome = true:=by kernel_rfl
  exact Option.isSome_iff_exists.1 this
 obtain ⟨j,hj⟩:=hi;have:=Lib.run_neq_ptr_same (w:=w) (⟨b,off,none⟩:Addr) hu hj;simp only [eq,eqGuard,Sem.run_bind]
 simpa using this⟩
theorem copyCheck {b:Nat} {p:Option Addr} {v:Value} {z:Z} {w:World} (hp:p = none \/ p = some ⟨b,0,none⟩):Fn 199 #[.pointer (some ⟨b,0,none⟩)] z [(b,buO p v)] w fun _ B' r=>r = .tuple #[]/\B' = [(b,buO (some ⟨b,0,none⟩) v)]:=Fn.intro fun hS=>en199 (by
 unfold vc199;(repeat (first | (refine iDr ?_; intro _ _) | refine V_run ?_ | refine PV_run ?_ | refine HV_run ?_ | refine iV_ld1 ?_ | refine iV_ldN ?_ | (refine iV_bx ?_; intro _ _ _ _) | (refine iV_al ?_; intro _ _ _ _) | (refine iV_mm ?_; intro _ _ _ _) | (refine iU_st ?_; intro _ _) | refine iHV_1 ?_ | refine iHV_N ?_ | refine iRI_1 ?_ | refine iRI_N ?_ | refine Cond_t ?_ | refine Cond_f ?_ | refine JB ?_ | (refine JC ?_; intro _ _ _ _) | (refine JGB ?_; intro _ _ _ _) | (refine J1 ?_; intro _ _) | (refine J0 ?_; intro _ _) | (refine J2 ?_; intro _ _) | (refine J3 ?_; intro _ _) | (refine J4 ?_; intro _ _) | refine K1 ?_ | refine K0 ?_ | refine K2 ?_ | refine K3 ?_ | refine K4 ?_ | (refine CV_pu ?_; intro _ _ _ _) | (refine CV_puz ?_; intro _ _ _ _) | refine fRI_1 ?_ | refine fRI_N ?_ | refine gHV_lkI ?_ | refine gRI_lkI ?_ | refine gV_lkI ?_ | refine fV_ldN ?_ | refine fV_ld1 ?_ | refine fHV_ldN ?_ | refine fHV_ld1 ?_ | refine NilW_some ?_ | refine iCW_1 ?_ | refine iCW_N ?_ | refine Pk_b ?_))
 rcases hp with rfl | rfl
 ·refine Cond_t ?_
  have hat:w.heap[b]? = some (buO none v):=(hS.mem _ List.mem_cons_self).1;have hsh:w.shape? b = some (169,2):=by unfold World.shape?; rw [hat]; rfl
  have hi:∃ j,Tryz.prog.info? 169 = some j/\j.size ≠ 0:=by
   have:(Tryz.prog.info? 169).any (fun j=>j.size != 0) = true:=by kernel_rfl
   cases h:Tryz.prog.info? 169 with
   | none=>rw [h] at this; cases this
   | some j=>rw [h] at this; exact ⟨j,rfl,by simpa using this⟩
  obtain ⟨j,hj,hj0⟩:=hi;refine ⟨_,_,Lib.run_to_unsafe (w:=w) (t:=169) (⟨b,0,none⟩:Addr) (by kernel_rfl) (by kernel_rfl) hj hj0 hsh (show 0 < 2 by decide),?_⟩;refine CV_x (e:=Extern.AbiNoEscape.same) (Lib.run_noEscape w _) ?_;refine ⟨_,_,Lib.run_from_unsafe (w:=w) (u:=169) (⟨b,0,none⟩:Addr) (by kernel_rfl) (by kernel_rfl) hj hsh (by kernel_rfl),?_⟩;(repeat (first | (refine iDr ?_; intro _ _) | refine V_run ?_ | refine PV_run ?_ | refine HV_run ?_ | refine iV_ld1 ?_ | refine iV_ldN ?_ | (refine iV_bx ?_; intro _ _ _ _) | (refine iV_al ?_; intro _ _ _ _) | (refine iV_mm ?_; intro _ _ _ _) | (refine iU_st ?_; intro _ _) | refine iHV_1 ?_ | refine iHV_N ?_ | refine iRI_1 ?_ | refine iRI_N ?_ | refine Cond_t ?_ | refine Cond_f ?_ | refine JB ?_ | (refine JC ?_; intro _ _ _ _) | (refine JGB ?_; intro _ _ _ _) | (refine J1 ?_; intro _ _) | (refine J0 ?_; intro _ _) | (refine J2 ?_; intro _ _) | (refine J3 ?_; intro _ _) | (refine J4 ?_; intro _ _) | refine K1 ?_ | refine K0 ?_ | refine K2 ?_ | refine K3 ?_ | refine K4 ?_ | (refine CV_pu ?_; intro _ _ _ _) | (refine CV_puz ?_; intro _ _ _ _) | refine fRI_1 ?_ | refine fRI_N ?_ | refine gHV_lkI ?_ | refine gRI_lkI ?_ | refine gV_lkI ?_ | refine fV_ldN ?_ | refine fV_ld1 ?_ | refine fHV_ldN ?_ | refine fHV_ld1 ?_ | refine NilW_some ?_ | refine iCW_1 ?_ | refine iCW_N ?_ | refine Pk_b ?_));exact ⟨_,_,‹_›,rfl,rfl⟩
 ·refine Cond_f ?_
  (repeat (first | (refine iDr ?_; intro _ _) | refine V_run ?_ | refine PV_run ?_ | refine HV_run ?_ | refine iV_ld1 ?_ | refine iV_ldN ?_ | (refine iV_bx ?_; intro _ _ _ _) | (refine iV_al ?_; intro _ _ _ _) | (refine iV_mm ?_; intro _ _ _ _) | (refine iU_st ?_; intro _ _) | refine iHV_1 ?_ | refine iHV_N ?_ | refine iRI_1 ?_ | refine iRI_N ?_ | refine Cond_t ?_ | refine Cond_f ?_ | refine JB ?_ | (refine JC ?_; intro _ _ _ _) | (refine JGB ?_; intro _ _ _ _) | (refine J1 ?_; intro _ _) | (refine J0 ?_; intro _ _) | (refine J2 ?_; intro _ _) | (refine J3 ?_; intro _ _) | (refine J4 ?_; intro _ _) | refine K1 ?_ | refine K0 ?_ | refine K2 ?_ | refine K3 ?_ | refine K4 ?_ | (refine CV_pu ?_; intro _ _ _ _) | (refine CV_puz ?_; intro _ _ _ _) | refine fRI_1 ?_ | refine fRI_N ?_ | refine gHV_lkI ?_ | refine gRI_lkI ?_ | refine gV_lkI ?_ | refine fV_ldN ?_ | refine fV_ld1 ?_ | refine fHV_ldN ?_ | refine fHV_ld1 ?_ | refine NilW_some ?_ | refine iCW_1 ?_ | refine iCW_N ?_ | refine Pk_b ?_));exact ⟨_,_,hS,rfl,rfl⟩)
section
variable {w0 w w':World} {z0 z z':Z} {B0 B B' L F:Bl} {K:Value->World->Prop}
theorem V_appS {t u ty e bytes:Nat} [g:TyApp t e 1 bytes] (hu:Tryz.prog.underlying u = some .string) {v:Value} {n:Nat} {xs:List Value} {s:ByteArray} (hS:Res w0 z0 B0 w z (B ++ L)) (ho:OwnSl e 1 B v n xs)
  (hb:(n + s.size) * bytes <= room) (hb2:n + s.size <= room)
  (hk:∀ B' v' w',OwnSl e 1 B' v' (n + s.size) (xs ++ Lib.strCells s)->Res w0 z0 B0 w' z (B' ++ L)->K v' w'):V (Builtin.append_ #[t,u] ty #[v,.string s]) w K:=by
 obtain ⟨zv,hinfo,hzs⟩:=g.info;obtain ⟨i,hi,hz⟩:=Option.map_eq_some_iff.1 hinfo;simp only [Prod.mk.injEq] at hz;obtain ⟨hz0,hz1,hz2⟩:=hz;have hlen:(xs ++ Lib.strCells s).length = (n + s.size) * 1:=by rw [List.length_append,ho.1,Lib.strCells_length]; omega
 simp only [room] at hb hb2;have hmax:n + s.size <= maxLen:=by simp only [maxLen]; omega
 have h63:((n + s.size:Nat):Int) <= 9223372036854775807:=by omega
 have grown:∀ (old:Nat) (w1:World),w1 = w.drew.alloc (.cells (xs.toArray ++ (Lib.strCells s).toArray ++ Builtin.zeroCells zv.cells (grownCap w (n + s.size) old e - (n + s.size))) e) ->
   Res w0 z0 B0 w1 z ((w.heap.size,.cells (xs ++ Lib.strCells s ++ (Builtin.zeroCells zv.cells (grownCap w (n + s.size) old e - (n + s.size))).toList).toArray e (0,0)) :: (B ++ L)):=fun old w1 hw1=>by
  subst hw1;have:=Res.new (Res.drew hS) (.cells (xs ++ Lib.strCells s ++ (Builtin.zeroCells zv.cells (grownCap w (n + s.size) old e - (n + s.size))).toList).toArray e (0,0));have he:(xs.toArray ++ (Lib.strCells s).toArray ++ Builtin.zeroCells zv.cells (grownCap w (n + s.size) old e - (n + s.size))) = (xs ++ Lib.strCells s ++ (Builtin.zeroCells zv.cells (grownCap w (n + s.size) old e - (n + s.size))).toList).toArray:=by
   apply Array.toList_inj.1; simp
  rw [he];exact this
 have own':∀ (old:Nat),OwnSl e 1 [(w.heap.size,.cells (xs ++ Lib.strCells s ++ (Builtin.zeroCells zv.cells (grownCap w (n + s.size) old e - (n + s.size))).toList).toArray e (0,0))] (.slice (some ⟨w.heap.size,0,none⟩) (n + s.size) (grownCap w (n + s.size) old e)) (n + s.size) (xs ++ Lib.strCells s):=fun old=>by
  have hge:=grownCap_ge w (n + s.size) old e;refine ⟨hlen,.inr ⟨_,_,_,rfl,rfl,hge,grownCap_le_maxLen w (n + s.size) old e hmax,?_⟩⟩;rw [List.length_append,hlen,Array.length_toList,size_zeroCells,hzs,<- Nat.add_mul]
  congr 1
  omega
 rcases ho.2 with ⟨rfl,rfl,rfl⟩ | ⟨b,cap,sp,rfl,rfl,hcap,hcm,hsz⟩
 ·have hx0:xs = []:=List.eq_nil_of_length_eq_zero (by have:=ho.1; simpa using this)
  subst hx0
  by_cases h0:s.size = 0
  ·have hs0:Lib.strCells s = []:=List.eq_nil_of_length_eq_zero (by rw [Lib.strCells_length]; exact h0)
   refine ⟨.slice none 0 0,w,?_,hk [] _ _ ?_ hS⟩
   ·have hf:=Lib.run_firstCells_string (P:=Tryz.prog) w 1 s
    rw [h0] at hf;simp [Builtin.append_,run_underlying g.und,run_underlying hu,sizeOf,typeInfo,hi,hz1,Builtin.lenOf,h0,hf]
   ·rw [h0,hs0]; exact OwnSl.nil
  ·have hr:=run_append_nil_string (P:=Tryz.prog) w t u ty e i zv g.und hu hi hz0 s (by omega) (by simpa using h63) (by rw [hz2]; simp only [Nat.zero_add] at hb; omega)
   refine ⟨_,_,hr,?_⟩;have h5:=grown 0 _ rfl;have h6:=own' 0;simp only [Nat.zero_add] at h5 h6;have he:s.data.map (fun b=>Value.int .u8 b.toNat) = (Lib.strCells s).toArray:=Array.ext' (by simp [Lib.strCells]);rw [he];exact hk _ _ _ (by simpa using h6) (by simpa using h5)
 ·by_cases hroom:n + s.size <= cap
  ·have hat:=hS.mem (b,.cells (xs ++ sp).toArray e (0,0)) (by simp)
   have hxl:xs.length = n:=by have:=ho.1; omega
   have hr:=Lib.run_append_room_string (P:=Tryz.prog) w t u ty e i g.und hu hi hz1 b n cap (xs ++ sp).toArray hat.1 s hroom (by simp only [List.size_toArray,hsz]; omega);refine ⟨_,_,hr,?_⟩;rw [setRow_eq hat.1];have hnew:((xs ++ sp).toArray.toList.take n ++ Lib.strCells s ++ (xs ++ sp).toArray.toList.drop (n + s.size)) = xs ++ Lib.strCells s ++ sp.drop s.size:=by
    simp only [<- hxl,List.take_left,List.drop_append,List.drop_of_length_le (Nat.le_add_right xs.length s.size)];simp
   rw [hnew];refine hk [(b,.cells (xs ++ Lib.strCells s ++ sp.drop s.size).toArray e (0,0))] _ _ ⟨hlen,.inr ⟨b,cap,sp.drop s.size,rfl,rfl,hroom,hcm,?_⟩⟩ (Res.put hS _ rfl);rw [List.length_append,hlen,List.length_drop];have:sp.length = cap * 1 - n:=by rw [<- hsz,List.length_append,hxl]; omega
   omega
  ·have hat:=hS.mem (b,.cells (xs ++ sp).toArray e (0,0)) (by simp)
   have holds:∀ j u,xs[j]? = some u->w.cell? ((⟨b,0,none⟩:Addr).add j) = some u:=fun j u hu=>by
    rw [add_addr];refine At.cell (vs:=xs) ⟨_,_,_,hat.1,fun j u hu=>?_⟩ hu;simp only [Nat.zero_add,List.getElem?_toArray];rw [List.getElem?_append_left (List.getElem?_eq_some_iff.1 hu).1];exact hu
   have hr:=Lib.run_append_grow_string (P:=Tryz.prog) w t u ty e i zv g.und hu hi hz0 ⟨b,0,none⟩ n cap xs (by rw [hz1]; exact ho.1) holds s (by omega) h63 (growslice_fits (by omega) (by rw [hz2]; exact hb));refine ⟨_,_,hr,hk _ _ _ (own' cap) ((grown cap _ rfl).sublist ?_)⟩;simp
end
end
section
open Go Q Go.RowKit
structure BuOk (b:Nat) (B:Bl) (xs:List Value):Prop where
 h:∃ p v Bb,B = (b,buO p v) :: Bb/\(p = none \/ p = some ⟨b,0,none⟩)/\OwnSl 5 1 Bb v xs.length xs
theorem writeString {b:Nat} {B:Bl} {xs:List Value} {s:ByteArray} {z:Z} {w:World} (hB:BuOk b B xs) (hn:xs.length + s.size <= room) :
  Fn 178 #[.pointer (some ⟨b,0,none⟩),.string s] z B w fun _ B' r=>BuOk b B' (xs ++ Lib.strCells s)/\r = .tuple #[.int .i64 s.size,.nilIface]:=Fn.intro fun hS=>en178 (by
 unfold vc178;obtain ⟨p,v,Bb,rfl,hp,ho⟩:=hB.h;refine CV_fn (B:=[(b,buO p v)]) (F:=Bb) hS (copyCheck hp) (by simp) ?_;rintro z1 B1 w1 v1 hz1 hS1 ⟨rfl,rfl⟩
 obtain ⟨a,cap,rfl,hcap⟩:=ho.form;have hS1':Res w z _ w1 z1 ((b,buO (some ⟨b,0,none⟩) (.slice a xs.length cap)) :: Bb):=hS1;have hS2:=hS1'.bring Bb;clear hS1 hS1';(repeat (first | (refine iDr ?_; intro _ _) | refine V_run ?_ | refine PV_run ?_ | refine HV_run ?_ | refine iV_ld1 ?_ | refine iV_ldN ?_ | (refine iV_bx ?_; intro _ _ _ _) | (refine iV_al ?_; intro _ _ _ _) | (refine iV_mm ?_; intro _ _ _ _) | (refine iU_st ?_; intro _ _) | refine iHV_1 ?_ | refine iHV_N ?_ | refine iRI_1 ?_ | refine iRI_N ?_ | refine Cond_t ?_ | refine Cond_f ?_ | refine JB ?_ | (refine JC ?_; intro _ _ _ _) | (refine JGB ?_; intro _ _ _ _) | (refine J1 ?_; intro _ _) | (refine J0 ?_; intro _ _) | (refine J2 ?_; intro _ _) | (refine J3 ?_; intro _ _) | (refine J4 ?_; intro _ _) | refine K1 ?_ | refine K0 ?_ | refine K2 ?_ | refine K3 ?_ | refine K4 ?_ | (refine CV_pu ?_; intro _ _ _ _) | (refine CV_puz ?_; intro _ _ _ _) | refine fRI_1 ?_ | refine fRI_N ?_ | refine gHV_lkI ?_ | refine gRI_lkI ?_ | refine gV_lkI ?_ | refine fV_ldN ?_ | refine fV_ld1 ?_ | refine fHV_ldN ?_ | refine fHV_ld1 ?_ | refine NilW_some ?_ | refine iCW_1 ?_ | refine iCW_N ?_ | refine Pk_b ?_));refine V_appS (t:=60) (u:=9) (bytes:=1) (by kernel_rfl) hS2 ho (by omega) hn ?_;intro B' v' w2 ho' hS3;obtain ⟨a',cap',rfl,hcap'⟩:=ho'.form;clear hS2;(repeat (first | (refine iDr ?_; intro _ _) | refine V_run ?_ | refine PV_run ?_ | refine HV_run ?_ | refine iV_ld1 ?_ | refine iV_ldN ?_ | (refine iV_bx ?_; intro _ _ _ _) | (refine iV_al ?_; intro _ _ _ _) | (refine iV_mm ?_; intro _ _ _ _) | (refine iU_st ?_; intro _ _) | refine iHV_1 ?_ | refine iHV_N ?_ | refine iRI_1 ?_ | refine iRI_N ?_ | refine Cond_t ?_ | refine Cond_f ?_ | refine JB ?_ | (refine JC ?_; intro _ _ _ _) | (refine JGB ?_; intro _ _ _ _) | (refine J1 ?_; intro _ _) | (refine J0 ?_; intro _ _) | (refine J2 ?_; intro _ _) | (refine J3 ?_; intro _ _) | (refine J4 ?_; intro _ _) | refine K1 ?_ | refine K0 ?_ | refine K2 ?_ | refine K3 ?_ | refine K4 ?_ | (refine CV_pu ?_; intro _ _ _ _) | (refine CV_puz ?_; intro _ _ _ _) | refine fRI_1 ?_ | refine fRI_N ?_ | refine gHV_lkI ?_ | refine gRI_lkI ?_ | refine gV_lkI ?_ | refine fV_ldN ?_ | refine fV_ld1 ?_ | refine fHV_ldN ?_ | refine fHV_ld1 ?_ | refine NilW_some ?_ | refine iCW_1 ?_ | refine iCW_N ?_ | refine Pk_b ?_));rename_i hSe;refine ⟨_,_,(hSe.bringB b),⟨_,_,_,rfl,.inr rfl,?_⟩,rfl⟩;rw [show (xs ++ Lib.strCells s).length = xs.length + s.size by rw [List.length_append,Lib.strCells_length]]
 simpa using ho')
theorem freeze_eq {w:World} {g n:Nat} {c:Array Value} {e:TypeId} (h:w.heap[g]? = some (.cells c e (0,0))) (hn:n ≠ 0):w.freeze ⟨g,0,none⟩ n = { w with heap:=w.heap.setIfInBounds g (.cells c e (0,n)) }:=by
 unfold World.freeze;rw [if_neg hn]
 congr 1
 apply Array.ext_getElem?
 intro j;rw [Array.getElem?_modify,Array.getElem?_setIfInBounds]
 by_cases hj:g = j
 ·subst hj
  rw [if_pos rfl,if_pos rfl,if_pos (lt_of_get h),h];simp
 ·rw [if_neg hj,if_neg hj]
theorem builderString {b:Nat} {B:Bl} {l:List UInt8} {z:Z} {w:World} (hB:BuOk b B (Lib.byteCells l)) (hl:l.length <= room) :
  Fn 179 #[.pointer (some ⟨b,0,none⟩)] z B w fun _ B' r=>B' = []/\r = .string ⟨l.toArray⟩:=Fn.intro fun hS=>en179 (by
 unfold vc179;obtain ⟨p,v,Bb,rfl,hp,ho⟩:=hB.h;obtain ⟨a,cap,rfl,hcap⟩:=ho.form;(repeat (first | (refine iDr ?_; intro _ _) | refine V_run ?_ | refine PV_run ?_ | refine HV_run ?_ | refine iV_ld1 ?_ | refine iV_ldN ?_ | (refine iV_bx ?_; intro _ _ _ _) | (refine iV_al ?_; intro _ _ _ _) | (refine iV_mm ?_; intro _ _ _ _) | (refine iU_st ?_; intro _ _) | refine iHV_1 ?_ | refine iHV_N ?_ | refine iRI_1 ?_ | refine iRI_N ?_ | refine Cond_t ?_ | refine Cond_f ?_ | refine JB ?_ | (refine JC ?_; intro _ _ _ _) | (refine JGB ?_; intro _ _ _ _) | (refine J1 ?_; intro _ _) | (refine J0 ?_; intro _ _) | (refine J2 ?_; intro _ _) | (refine J3 ?_; intro _ _) | (refine J4 ?_; intro _ _) | refine K1 ?_ | refine K0 ?_ | refine K2 ?_ | refine K3 ?_ | refine K4 ?_ | (refine CV_pu ?_; intro _ _ _ _) | (refine CV_puz ?_; intro _ _ _ _) | refine fRI_1 ?_ | refine fRI_N ?_ | refine gHV_lkI ?_ | refine gRI_lkI ?_ | refine gV_lkI ?_ | refine fV_ldN ?_ | refine fV_ld1 ?_ | refine fHV_ldN ?_ | refine fHV_ld1 ?_ | refine NilW_some ?_ | refine iCW_1 ?_ | refine iCW_N ?_ | refine Pk_b ?_));rename_i w9 hSe;have hbl:(Lib.byteCells l).length = l.length:=Lib.byteCells_length l
 rcases ho.2 with ⟨rfl,hv,h0⟩ | ⟨g,cap',sp,rfl,hv,h1,h2,h3⟩
 ·have ha:a = none:=(Value.slice.inj hv).1
  subst ha;have hl0:l = []:=List.eq_nil_of_length_eq_zero (by omega);subst hl0;refine ⟨_,_,Lib.run_unsafeSliceData_nil _ _ _ _ _,?_⟩;(repeat (first | (refine iDr ?_; intro _ _) | refine V_run ?_ | refine PV_run ?_ | refine HV_run ?_ | refine iV_ld1 ?_ | refine iV_ldN ?_ | (refine iV_bx ?_; intro _ _ _ _) | (refine iV_al ?_; intro _ _ _ _) | (refine iV_mm ?_; intro _ _ _ _) | (refine iU_st ?_; intro _ _) | refine iHV_1 ?_ | refine iHV_N ?_ | refine iRI_1 ?_ | refine iRI_N ?_ | refine Cond_t ?_ | refine Cond_f ?_ | refine JB ?_ | (refine JC ?_; intro _ _ _ _) | (refine JGB ?_; intro _ _ _ _) | (refine J1 ?_; intro _ _) | (refine J0 ?_; intro _ _) | (refine J2 ?_; intro _ _) | (refine J3 ?_; intro _ _) | (refine J4 ?_; intro _ _) | refine K1 ?_ | refine K0 ?_ | refine K2 ?_ | refine K3 ?_ | refine K4 ?_ | (refine CV_pu ?_; intro _ _ _ _) | (refine CV_puz ?_; intro _ _ _ _) | refine fRI_1 ?_ | refine fRI_N ?_ | refine gHV_lkI ?_ | refine gRI_lkI ?_ | refine gV_lkI ?_ | refine fV_ldN ?_ | refine fV_ld1 ?_ | refine fHV_ldN ?_ | refine fHV_ld1 ?_ | refine NilW_some ?_ | refine iCW_1 ?_ | refine iCW_N ?_ | refine Pk_b ?_));refine ⟨_,_,Lib.run_unsafeString_none _ _ _ _ _,?_⟩;(repeat (first | (refine iDr ?_; intro _ _) | refine V_run ?_ | refine PV_run ?_ | refine HV_run ?_ | refine iV_ld1 ?_ | refine iV_ldN ?_ | (refine iV_bx ?_; intro _ _ _ _) | (refine iV_al ?_; intro _ _ _ _) | (refine iV_mm ?_; intro _ _ _ _) | (refine iU_st ?_; intro _ _) | refine iHV_1 ?_ | refine iHV_N ?_ | refine iRI_1 ?_ | refine iRI_N ?_ | refine Cond_t ?_ | refine Cond_f ?_ | refine JB ?_ | (refine JC ?_; intro _ _ _ _) | (refine JGB ?_; intro _ _ _ _) | (refine J1 ?_; intro _ _) | (refine J0 ?_; intro _ _) | (refine J2 ?_; intro _ _) | (refine J3 ?_; intro _ _) | (refine J4 ?_; intro _ _) | refine K1 ?_ | refine K0 ?_ | refine K2 ?_ | refine K3 ?_ | refine K4 ?_ | (refine CV_pu ?_; intro _ _ _ _) | (refine CV_puz ?_; intro _ _ _ _) | refine fRI_1 ?_ | refine fRI_N ?_ | refine gHV_lkI ?_ | refine gRI_lkI ?_ | refine gV_lkI ?_ | refine fV_ldN ?_ | refine fV_ld1 ?_ | refine fHV_ldN ?_ | refine fHV_ld1 ?_ | refine NilW_some ?_ | refine iCW_1 ?_ | refine iCW_N ?_ | refine Pk_b ?_));exact ⟨_,_,hSe.drop,rfl,rfl⟩
 ·have ha:a = some ⟨g,0,none⟩:=(Value.slice.inj hv).1
  have hc:cap' = cap:=(Value.slice.inj hv).2.2.symm;subst ha hc;have hgm:=hSe.mem (g,.cells (Lib.byteCells l ++ sp).toArray 5 (0,0)) (by simp);have hg1:w9.heap[g]? = some (.cells (Lib.byteCells l ++ sp).toArray 5 (0,0)):=hgm.1;have hsh:∀ w2:World,w2.heap[g]? = some (.cells (Lib.byteCells l ++ sp).toArray 5 (0,0))->w2.shape? g = some (5,cap'):=fun w2 h=>by
   unfold World.shape?;rw [h];simp only [List.size_toArray,h3,Nat.mul_one]
  by_cases hcap0:cap' = 0
  ·subst hcap0
   have hl0:l = []:=List.eq_nil_of_length_eq_zero (by omega);subst hl0;refine ⟨_,_,Lib.run_unsafeSliceData_zero _ _ _ 5 (by kernel_rfl) _ _ _ (hsh _ hg1),?_⟩;have hS9:Res w z _ (w9.alloc (.view ⟨g,0,none⟩ 5)) z _:=hSe.new (.view ⟨g,0,none⟩ 5);clear hSe hS;(repeat (first | (refine iDr ?_; intro _ _) | refine V_run ?_ | refine PV_run ?_ | refine HV_run ?_ | refine iV_ld1 ?_ | refine iV_ldN ?_ | (refine iV_bx ?_; intro _ _ _ _) | (refine iV_al ?_; intro _ _ _ _) | (refine iV_mm ?_; intro _ _ _ _) | (refine iU_st ?_; intro _ _) | refine iHV_1 ?_ | refine iHV_N ?_ | refine iRI_1 ?_ | refine iRI_N ?_ | refine Cond_t ?_ | refine Cond_f ?_ | refine JB ?_ | (refine JC ?_; intro _ _ _ _) | (refine JGB ?_; intro _ _ _ _) | (refine J1 ?_; intro _ _) | (refine J0 ?_; intro _ _) | (refine J2 ?_; intro _ _) | (refine J3 ?_; intro _ _) | (refine J4 ?_; intro _ _) | refine K1 ?_ | refine K0 ?_ | refine K2 ?_ | refine K3 ?_ | refine K4 ?_ | (refine CV_pu ?_; intro _ _ _ _) | (refine CV_puz ?_; intro _ _ _ _) | refine fRI_1 ?_ | refine fRI_N ?_ | refine gHV_lkI ?_ | refine gRI_lkI ?_ | refine gV_lkI ?_ | refine fV_ldN ?_ | refine fV_ld1 ?_ | refine fHV_ldN ?_ | refine fHV_ld1 ?_ | refine NilW_some ?_ | refine iCW_1 ?_ | refine iCW_N ?_ | refine Pk_b ?_));refine ⟨_,_,Lib.run_unsafeString_none _ _ _ _ _,?_⟩;(repeat (first | (refine iDr ?_; intro _ _) | refine V_run ?_ | refine PV_run ?_ | refine HV_run ?_ | refine iV_ld1 ?_ | refine iV_ldN ?_ | (refine iV_bx ?_; intro _ _ _ _) | (refine iV_al ?_; intro _ _ _ _) | (refine iV_mm ?_; intro _ _ _ _) | (refine iU_st ?_; intro _ _) | refine iHV_1 ?_ | refine iHV_N ?_ | refine iRI_1 ?_ | refine iRI_N ?_ | refine Cond_t ?_ | refine Cond_f ?_ | refine JB ?_ | (refine JC ?_; intro _ _ _ _) | (refine JGB ?_; intro _ _ _ _) | (refine J1 ?_; intro _ _) | (refine J0 ?_; intro _ _) | (refine J2 ?_; intro _ _) | (refine J3 ?_; intro _ _) | (refine J4 ?_; intro _ _) | refine K1 ?_ | refine K0 ?_ | refine K2 ?_ | refine K3 ?_ | refine K4 ?_ | (refine CV_pu ?_; intro _ _ _ _) | (refine CV_puz ?_; intro _ _ _ _) | refine fRI_1 ?_ | refine fRI_N ?_ | refine gHV_lkI ?_ | refine gRI_lkI ?_ | refine gV_lkI ?_ | refine fV_ldN ?_ | refine fV_ld1 ?_ | refine fHV_ldN ?_ | refine fHV_ld1 ?_ | refine NilW_some ?_ | refine iCW_1 ?_ | refine iCW_N ?_ | refine Pk_b ?_));exact ⟨_,_,hS9.drop,rfl,rfl⟩
  ·refine ⟨_,_,Lib.run_unsafeSliceData_row _ _ _ _ _ _ hcap0,?_⟩
   (repeat (first | (refine iDr ?_; intro _ _) | refine V_run ?_ | refine PV_run ?_ | refine HV_run ?_ | refine iV_ld1 ?_ | refine iV_ldN ?_ | (refine iV_bx ?_; intro _ _ _ _) | (refine iV_al ?_; intro _ _ _ _) | (refine iV_mm ?_; intro _ _ _ _) | (refine iU_st ?_; intro _ _) | refine iHV_1 ?_ | refine iHV_N ?_ | refine iRI_1 ?_ | refine iRI_N ?_ | refine Cond_t ?_ | refine Cond_f ?_ | refine JB ?_ | (refine JC ?_; intro _ _ _ _) | (refine JGB ?_; intro _ _ _ _) | (refine J1 ?_; intro _ _) | (refine J0 ?_; intro _ _) | (refine J2 ?_; intro _ _) | (refine J3 ?_; intro _ _) | (refine J4 ?_; intro _ _) | refine K1 ?_ | refine K0 ?_ | refine K2 ?_ | refine K3 ?_ | refine K4 ?_ | (refine CV_pu ?_; intro _ _ _ _) | (refine CV_puz ?_; intro _ _ _ _) | refine fRI_1 ?_ | refine fRI_N ?_ | refine gHV_lkI ?_ | refine gRI_lkI ?_ | refine gV_lkI ?_ | refine fV_ldN ?_ | refine fV_ld1 ?_ | refine fHV_ldN ?_ | refine fHV_ld1 ?_ | refine NilW_some ?_ | refine iCW_1 ?_ | refine iCW_N ?_ | refine Pk_b ?_));rw [hbl] at hSe ⊢
   by_cases hl0:l = []
   ·subst hl0
    refine ⟨_,_,Lib.run_unsafeString_none _ _ _ _ _,?_⟩;(repeat (first | (refine iDr ?_; intro _ _) | refine V_run ?_ | refine PV_run ?_ | refine HV_run ?_ | refine iV_ld1 ?_ | refine iV_ldN ?_ | (refine iV_bx ?_; intro _ _ _ _) | (refine iV_al ?_; intro _ _ _ _) | (refine iV_mm ?_; intro _ _ _ _) | (refine iU_st ?_; intro _ _) | refine iHV_1 ?_ | refine iHV_N ?_ | refine iRI_1 ?_ | refine iRI_N ?_ | refine Cond_t ?_ | refine Cond_f ?_ | refine JB ?_ | (refine JC ?_; intro _ _ _ _) | (refine JGB ?_; intro _ _ _ _) | (refine J1 ?_; intro _ _) | (refine J0 ?_; intro _ _) | (refine J2 ?_; intro _ _) | (refine J3 ?_; intro _ _) | (refine J4 ?_; intro _ _) | refine K1 ?_ | refine K0 ?_ | refine K2 ?_ | refine K3 ?_ | refine K4 ?_ | (refine CV_pu ?_; intro _ _ _ _) | (refine CV_puz ?_; intro _ _ _ _) | refine fRI_1 ?_ | refine fRI_N ?_ | refine gHV_lkI ?_ | refine gRI_lkI ?_ | refine gV_lkI ?_ | refine fV_ldN ?_ | refine fV_ld1 ?_ | refine fHV_ldN ?_ | refine fHV_ld1 ?_ | refine NilW_some ?_ | refine iCW_1 ?_ | refine iCW_N ?_ | refine Pk_b ?_));exact ⟨_,_,hSe.drop,rfl,rfl⟩
   ·refine ⟨_,_,Lib.run_unsafeString_row (e:=5) _ _ _ _ (by kernel_rfl) (by kernel_rfl) g cap' (hsh _ hg1) l hl0 (by omega) (by simp only [room] at hl; omega) (fun j x hx=>?_),?_⟩
    ·rw [add_addr]
     refine At.cell (vs:=Lib.byteCells l) ⟨_,_,_,hg1,fun j u hu=>?_⟩ (by unfold Lib.byteCells; rw [List.getElem?_map,hx]; rfl);simp only [Nat.zero_add,List.getElem?_toArray];rw [List.getElem?_append_left (List.getElem?_eq_some_iff.1 hu).1];exact hu
    ·rw [freeze_eq hg1 (by simpa using hl0)]
     have hS8:=Res.set (b:=g) hSe (.cells (Lib.byteCells l ++ sp).toArray 5 (0,l.length)) rfl;clear hSe hS;(repeat (first | (refine iDr ?_; intro _ _) | refine V_run ?_ | refine PV_run ?_ | refine HV_run ?_ | refine iV_ld1 ?_ | refine iV_ldN ?_ | (refine iV_bx ?_; intro _ _ _ _) | (refine iV_al ?_; intro _ _ _ _) | (refine iV_mm ?_; intro _ _ _ _) | (refine iU_st ?_; intro _ _) | refine iHV_1 ?_ | refine iHV_N ?_ | refine iRI_1 ?_ | refine iRI_N ?_ | refine Cond_t ?_ | refine Cond_f ?_ | refine JB ?_ | (refine JC ?_; intro _ _ _ _) | (refine JGB ?_; intro _ _ _ _) | (refine J1 ?_; intro _ _) | (refine J0 ?_; intro _ _) | (refine J2 ?_; intro _ _) | (refine J3 ?_; intro _ _) | (refine J4 ?_; intro _ _) | refine K1 ?_ | refine K0 ?_ | refine K2 ?_ | refine K3 ?_ | refine K4 ?_ | (refine CV_pu ?_; intro _ _ _ _) | (refine CV_puz ?_; intro _ _ _ _) | refine fRI_1 ?_ | refine fRI_N ?_ | refine gHV_lkI ?_ | refine gRI_lkI ?_ | refine gV_lkI ?_ | refine fV_ldN ?_ | refine fV_ld1 ?_ | refine fHV_ldN ?_ | refine fHV_ld1 ?_ | refine NilW_some ?_ | refine iCW_1 ?_ | refine iCW_N ?_ | refine Pk_b ?_));exact ⟨_,_,hS8.drop,rfl,rfl⟩)
end
section
open Go Q Go.RowKit
instance:EntersX 214 (Extern.BytealgMakeNoZero.makeNoZero #[3] #[60]):=⟨fun _ _=>by kernel_rfl⟩
instance {t e n ty len cap:Nat} {a:Option Addr} [g:TySlice t e n]:Run (Builtin.cap_ #[t] ty #[.slice a len cap]) (.int .i64 cap):=⟨fun w=>by
 simp [Builtin.cap_,Sem.run_bind,g.und,goInt]⟩
theorem CV_xw {f:FuncId} {e:Array Value->Sem Value} [he:EntersX f e] {args:Array Value} {w w':World} {v:Value} {K:Value->World->Prop} (h:(e args).run Tryz.prog w = .ok v w') (hk:K v w'):CV (.func (.func f) #[] #[]) args w K:=by
 have:(callSem (.func (.func f) #[] #[]) args).run Tryz.prog w = .ok (.value v) w':=by
  simp only [callSem,Deferred.ofValue,pure_bind,invoke];have hh:=he.h (#[] ++ args ++ #[]) w;simp only [Array.empty_append,Array.append_empty] at hh ⊢;rw [hh];simp only [Sem.run_bind,h,Result.andThen_ok]
  rfl
 unfold CV CallV;rw [this];exact hk
theorem growFresh {b:Nat} {p:Option Addr} {n:Nat} {z:Z} {w:World} (hp:p = none \/ p = some ⟨b,0,none⟩) (hn:n <= room) :
  Fn 200 #[.pointer (some ⟨b,0,none⟩),.int .i64 n] z [(b,buO p (.slice none 0 0))] w fun _ B' r=>BuOk b B' []/\r = .tuple #[]:=Fn.intro fun hS=>en200 (by
 unfold vc200;simp only [room] at hn;haveI:InI ((2:Int) * ((0:Nat):Int)):=⟨by omega⟩
 haveI:InI ((2:Int) * ((0:Nat):Int) + (n:Int)):=⟨by omega⟩
 (repeat (first | (refine iDr ?_; intro _ _) | refine V_run ?_ | refine PV_run ?_ | refine HV_run ?_ | refine iV_ld1 ?_ | refine iV_ldN ?_ | (refine iV_bx ?_; intro _ _ _ _) | (refine iV_al ?_; intro _ _ _ _) | (refine iV_mm ?_; intro _ _ _ _) | (refine iU_st ?_; intro _ _) | refine iHV_1 ?_ | refine iHV_N ?_ | refine iRI_1 ?_ | refine iRI_N ?_ | refine Cond_t ?_ | refine Cond_f ?_ | refine JB ?_ | (refine JC ?_; intro _ _ _ _) | (refine JGB ?_; intro _ _ _ _) | (refine J1 ?_; intro _ _) | (refine J0 ?_; intro _ _) | (refine J2 ?_; intro _ _) | (refine J3 ?_; intro _ _) | (refine J4 ?_; intro _ _) | refine K1 ?_ | refine K0 ?_ | refine K2 ?_ | refine K3 ?_ | refine K4 ?_ | (refine CV_pu ?_; intro _ _ _ _) | (refine CV_puz ?_; intro _ _ _ _) | refine fRI_1 ?_ | refine fRI_N ?_ | refine gHV_lkI ?_ | refine gRI_lkI ?_ | refine gV_lkI ?_ | refine fV_ldN ?_ | refine fV_ld1 ?_ | refine fHV_ldN ?_ | refine fHV_ld1 ?_ | refine NilW_some ?_ | refine iCW_1 ?_ | refine iCW_N ?_ | refine Pk_b ?_));rename_i w1 hS1;obtain ⟨cs,hr,h1,h2⟩:=Lib.run_makeNoZero (P:=Tryz.prog) w1 #[3] 60 5 (by kernel_rfl) n (by omega);rw [show (2:Int) * ((0:Nat):Int) + (n:Int) = n by omega];refine CV_xw (e:=Extern.BytealgMakeNoZero.makeNoZero #[3] #[60]) hr ?_;have hS2:Res w z [(b,buO p (.slice none 0 0))] (w1.drew.drew.alloc (.cells cs 5)) z [(w1.heap.size,.cells cs.toList.toArray 5 (0,0)),(b,buO p (.slice none 0 0))]:=by
  have:=Res.new (Res.drew (Res.drew hS1)) (.cells cs.toList.toArray 5 (0,0));rw [Array.toArray_toList] at this ⊢;exact this
 clear hS hS1;haveI:InR ((0:Nat):Int) ((cs.size:Int) + 1):=⟨by omega,by omega⟩
 (repeat (first | (refine iDr ?_; intro _ _) | refine V_run ?_ | refine PV_run ?_ | refine HV_run ?_ | refine iV_ld1 ?_ | refine iV_ldN ?_ | (refine iV_bx ?_; intro _ _ _ _) | (refine iV_al ?_; intro _ _ _ _) | (refine iV_mm ?_; intro _ _ _ _) | (refine iU_st ?_; intro _ _) | refine iHV_1 ?_ | refine iHV_N ?_ | refine iRI_1 ?_ | refine iRI_N ?_ | refine Cond_t ?_ | refine Cond_f ?_ | refine JB ?_ | (refine JC ?_; intro _ _ _ _) | (refine JGB ?_; intro _ _ _ _) | (refine J1 ?_; intro _ _) | (refine J0 ?_; intro _ _) | (refine J2 ?_; intro _ _) | (refine J3 ?_; intro _ _) | (refine J4 ?_; intro _ _) | refine K1 ?_ | refine K0 ?_ | refine K2 ?_ | refine K3 ?_ | refine K4 ?_ | (refine CV_pu ?_; intro _ _ _ _) | (refine CV_puz ?_; intro _ _ _ _) | refine fRI_1 ?_ | refine fRI_N ?_ | refine gHV_lkI ?_ | refine gRI_lkI ?_ | refine gV_lkI ?_ | refine fV_ldN ?_ | refine fV_ld1 ?_ | refine fHV_ldN ?_ | refine fHV_ld1 ?_ | refine NilW_some ?_ | refine iCW_1 ?_ | refine iCW_N ?_ | refine Pk_b ?_));refine ⟨_,_,run_copy_nil Tryz.prog _ 60 60 3 5 _ _ _ (by kernel_rfl) (by kernel_rfl),?_⟩;(repeat (first | (refine iDr ?_; intro _ _) | refine V_run ?_ | refine PV_run ?_ | refine HV_run ?_ | refine iV_ld1 ?_ | refine iV_ldN ?_ | (refine iV_bx ?_; intro _ _ _ _) | (refine iV_al ?_; intro _ _ _ _) | (refine iV_mm ?_; intro _ _ _ _) | (refine iU_st ?_; intro _ _) | refine iHV_1 ?_ | refine iHV_N ?_ | refine iRI_1 ?_ | refine iRI_N ?_ | refine Cond_t ?_ | refine Cond_f ?_ | refine JB ?_ | (refine JC ?_; intro _ _ _ _) | (refine JGB ?_; intro _ _ _ _) | (refine J1 ?_; intro _ _) | (refine J0 ?_; intro _ _) | (refine J2 ?_; intro _ _) | (refine J3 ?_; intro _ _) | (refine J4 ?_; intro _ _) | refine K1 ?_ | refine K0 ?_ | refine K2 ?_ | refine K3 ?_ | refine K4 ?_ | (refine CV_pu ?_; intro _ _ _ _) | (refine CV_puz ?_; intro _ _ _ _) | refine fRI_1 ?_ | refine fRI_N ?_ | refine gHV_lkI ?_ | refine gRI_lkI ?_ | refine gV_lkI ?_ | refine fV_ldN ?_ | refine fV_ld1 ?_ | refine fHV_ldN ?_ | refine fHV_ld1 ?_ | refine NilW_some ?_ | refine iCW_1 ?_ | refine iCW_N ?_ | refine Pk_b ?_));rename_i hSe;refine ⟨_,_,hSe.bringB b,⟨_,_,_,rfl,hp,?_⟩,rfl⟩;refine ⟨rfl,.inr ⟨_,_,cs.toList,rfl,rfl,Nat.zero_le _,h2 (by simp only [maxLen]; omega),by simp⟩⟩)
theorem growB {b:Nat} {p:Option Addr} {n:Int} {z:Z} {w:World} (hp:p = none \/ p = some ⟨b,0,none⟩) (h0:0 <= n) (hn:n <= 140737488355328) :
  Fn 177 #[.pointer (some ⟨b,0,none⟩),.int .i64 n] z [(b,buO p (.slice none 0 0))] w fun _ B' r=>BuOk b B' []/\r = .tuple #[]:=Fn.intro fun hS=>en177 (by
 unfold vc177;refine CV_fn (B:=[(b,buO p (.slice none 0 0))]) (F:=[]) (by simpa using hS) (copyCheck hp) (by simp) ?_;rintro z1 B1 w1 v1 hz1 hS1 ⟨rfl,rfl⟩
 rw [List.append_nil] at hS1;clear hS;haveI:InI (((0:Nat):Int) - ((0:Nat):Int)):=⟨by omega⟩
 (repeat (first | (refine iDr ?_; intro _ _) | refine V_run ?_ | refine PV_run ?_ | refine HV_run ?_ | refine iV_ld1 ?_ | refine iV_ldN ?_ | (refine iV_bx ?_; intro _ _ _ _) | (refine iV_al ?_; intro _ _ _ _) | (refine iV_mm ?_; intro _ _ _ _) | (refine iU_st ?_; intro _ _) | refine iHV_1 ?_ | refine iHV_N ?_ | refine iRI_1 ?_ | refine iRI_N ?_ | refine Cond_t ?_ | refine Cond_f ?_ | refine JB ?_ | (refine JC ?_; intro _ _ _ _) | (refine JGB ?_; intro _ _ _ _) | (refine J1 ?_; intro _ _) | (refine J0 ?_; intro _ _) | (refine J2 ?_; intro _ _) | (refine J3 ?_; intro _ _) | (refine J4 ?_; intro _ _) | refine K1 ?_ | refine K0 ?_ | refine K2 ?_ | refine K3 ?_ | refine K4 ?_ | (refine CV_pu ?_; intro _ _ _ _) | (refine CV_puz ?_; intro _ _ _ _) | refine fRI_1 ?_ | refine fRI_N ?_ | refine gHV_lkI ?_ | refine gRI_lkI ?_ | refine gV_lkI ?_ | refine fV_ldN ?_ | refine fV_ld1 ?_ | refine fHV_ldN ?_ | refine fHV_ld1 ?_ | refine NilW_some ?_ | refine iCW_1 ?_ | refine iCW_N ?_ | refine Pk_b ?_));refine Cond_d (fun h=>?_) (fun h=>?_)
 ·omega
 (repeat (first | (refine iDr ?_; intro _ _) | refine V_run ?_ | refine PV_run ?_ | refine HV_run ?_ | refine iV_ld1 ?_ | refine iV_ldN ?_ | (refine iV_bx ?_; intro _ _ _ _) | (refine iV_al ?_; intro _ _ _ _) | (refine iV_mm ?_; intro _ _ _ _) | (refine iU_st ?_; intro _ _) | refine iHV_1 ?_ | refine iHV_N ?_ | refine iRI_1 ?_ | refine iRI_N ?_ | refine Cond_t ?_ | refine Cond_f ?_ | refine JB ?_ | (refine JC ?_; intro _ _ _ _) | (refine JGB ?_; intro _ _ _ _) | (refine J1 ?_; intro _ _) | (refine J0 ?_; intro _ _) | (refine J2 ?_; intro _ _) | (refine J3 ?_; intro _ _) | (refine J4 ?_; intro _ _) | refine K1 ?_ | refine K0 ?_ | refine K2 ?_ | refine K3 ?_ | refine K4 ?_ | (refine CV_pu ?_; intro _ _ _ _) | (refine CV_puz ?_; intro _ _ _ _) | refine fRI_1 ?_ | refine fRI_N ?_ | refine gHV_lkI ?_ | refine gRI_lkI ?_ | refine gV_lkI ?_ | refine fV_ldN ?_ | refine fV_ld1 ?_ | refine fHV_ldN ?_ | refine fHV_ld1 ?_ | refine NilW_some ?_ | refine iCW_1 ?_ | refine iCW_N ?_ | refine Pk_b ?_));have hS2:=‹Res w z _ _ _ _›
 refine Cond_d (fun h=>?_) (fun h=>?_)
 ·obtain ⟨m,rfl⟩:∃ m:Nat,n = m:=⟨n.toNat,by omega⟩
  refine CV_fn (B:=[(b,buO (some ⟨b,0,none⟩) (.slice none 0 0))]) (F:=[]) (by simpa using hS2) (growFresh (n:=m) (.inr rfl) (by simp only [room]; omega)) (by simp) ?_;rintro z3 B3 w3 v3 hz3 hS3 ⟨hB3,rfl⟩
  rw [List.append_nil] at hS3;exact ⟨_,_,hS3,hB3,rfl⟩
 ·exact ⟨_,_,hS2,⟨_,_,[],rfl,.inr rfl,OwnSl.nil⟩,rfl⟩)
end
section
open Go Q Go.RowKit
theorem u_wrap {a:Int} (h0:0 <= a) (h1:a < 18446744073709551616):IntKind.u64.wrap a = a:=by
 show a % 18446744073709551616 = a
 omega
theorem u_and {t:Nat} {a:Int} (h0:0 <= a) (h1:a < 4294967296) (w:World):(bi .and t (.int .u64 a) (.int .u64 4294967295)).run Tryz.prog w = .ok (.int .u64 a) w:=by
 show Result.ok (Value.int .u64 (bits .and .u64 a 4294967295)) w = _
 congr 2
 show IntKind.u64.wrap ((BitVec.ofInt 64 a &&& BitVec.ofInt 64 4294967295).toNat:Nat) = a
 have e:(BitVec.ofInt 64 a).toNat = a.toNat:=by rw [BitVec.toNat_ofInt]; omega
 have e2:(BitVec.ofInt 64 4294967295).toNat = 2 ^ 32 - 1:=rfl;rw [BitVec.toNat_and,e,e2,Nat.and_two_pow_sub_one_eq_mod,u_wrap (by omega) (by omega)];omega
theorem u_shr {t:Nat} {a:Int} (h0:0 <= a) (h1:a < 4294967296) (w:World):(bi .shr t (.int .u64 a) (.int .u64 32)).run Tryz.prog w = .ok (.int .u64 0) w:=by
 simp only [bi,binOp,Op.shift];rw [if_neg (by omega)];have:min (32:Int).toNat IntKind.u64.bits = 32:=rfl;simp only [this];rw [Int.fdiv_eq_ediv_of_nonneg _ (by exact Int.le_of_lt (Int.pow_pos (by decide)))];rw [show a / 2 ^ 32 = 0 by omega]
 rfl
theorem u_mul {t:Nat} {a b c:Int} (h:a * b = c) (h0:0 <= c) (h1:c < 18446744073709551616) (w:World):(bi .mul t (.int .u64 a) (.int .u64 b)).run Tryz.prog w = .ok (.int .u64 c) w:=by
 subst h;simp [bi,binOp,Op.intArith,u_wrap h0 h1]
theorem u_add {t:Nat} {a b c:Int} (h:a + b = c) (h0:0 <= c) (h1:c < 18446744073709551616) (w:World):(bi .add t (.int .u64 a) (.int .u64 b)).run Tryz.prog w = .ok (.int .u64 c) w:=by
 subst h;simp [bi,binOp,Op.intArith,u_wrap h0 h1]
theorem mul64_1 {z:Z} {w:World} {n:Int} (h0:0 <= n) (hn:n <= 1000000):Fn1 202 #[.int .u64 1,.int .u64 n] z w fun _ r=>r = .tuple #[.int .u64 0,.int .u64 n]:=Fn1.intro fun hS=>en202 (by
 unfold vc202;refine ⟨_,_,u_and (by omega) (by omega) _,?_⟩;refine ⟨_,_,u_shr (by omega) (by omega) _,?_⟩;refine ⟨_,_,u_and (by omega) (by omega) _,?_⟩;refine ⟨_,_,u_shr (by omega) (by omega) _,?_⟩;refine ⟨_,_,u_mul (c:=n) (by omega) (by omega) (by omega) _,?_⟩;refine ⟨_,_,u_mul (c:=0) (by omega) (by omega) (by omega) _,?_⟩;refine ⟨_,_,u_shr (by omega) (by omega) _,?_⟩;refine ⟨_,_,u_add (c:=0) (by omega) (by omega) (by omega) _,?_⟩;refine ⟨_,_,u_and (by omega) (by omega) _,?_⟩;refine ⟨_,_,u_shr (by omega) (by omega) _,?_⟩;refine ⟨_,_,u_mul (c:=0) (by omega) (by omega) (by omega) _,?_⟩;refine ⟨_,_,u_add (c:=0) (by omega) (by omega) (by omega) _,?_⟩;refine ⟨_,_,u_mul (c:=0) (by omega) (by omega) (by omega) _,?_⟩;refine ⟨_,_,u_add (c:=0) (by omega) (by omega) (by omega) _,?_⟩;refine ⟨_,_,u_shr (by omega) (by omega) _,?_⟩;refine ⟨_,_,u_add (c:=0) (by omega) (by omega) (by omega) _,?_⟩;refine ⟨_,_,u_mul (c:=n) (by omega) (by omega) (by omega) _,?_⟩;exact ⟨_,_,hS,rfl⟩)
class Cnt (n:Int):Prop where
 h0:0 <= n
 h1:n <= 1000000
instance {n:Int} [h:Cnt n]:Pu 180 #[.int .u64 1,.int .u64 n] (.tuple #[.int .u64 0,.int .u64 n]):=⟨fun z w=>Fn1.intro fun hS=>en180 (by
 unfold vc180;refine Cond_f ?_;haveI:Pu 202 #[.int .u64 1,.int .u64 n] (.tuple #[.int .u64 0,.int .u64 n]):=⟨fun z w=>mul64_1 h.h0 h.h1⟩
 refine CV_pu ?_;intro z1 w1 hz1 hS1;clear hS;(repeat (first | (refine iDr ?_; intro _ _) | refine V_run ?_ | refine PV_run ?_ | refine HV_run ?_ | refine iV_ld1 ?_ | refine iV_ldN ?_ | (refine iV_bx ?_; intro _ _ _ _) | (refine iV_al ?_; intro _ _ _ _) | (refine iV_mm ?_; intro _ _ _ _) | (refine iU_st ?_; intro _ _) | refine iHV_1 ?_ | refine iHV_N ?_ | refine iRI_1 ?_ | refine iRI_N ?_ | refine Cond_t ?_ | refine Cond_f ?_ | refine JB ?_ | (refine JC ?_; intro _ _ _ _) | (refine JGB ?_; intro _ _ _ _) | refine K1 ?_ | refine K0 ?_ | refine K2 ?_ | refine K3 ?_ | refine K4 ?_ | (refine CV_pu ?_; intro _ _ _ _) | (refine CV_puz ?_; intro _ _ _ _) | refine fRI_1 ?_ | refine fRI_N ?_ | refine gHV_lkI ?_ | refine gRI_lkI ?_ | refine gV_lkI ?_ | refine fV_ldN ?_ | refine fV_ld1 ?_ | refine fHV_ldN ?_ | refine fHV_ld1 ?_ | refine NilW_some ?_ | refine iCW_1 ?_ | refine iCW_N ?_ | refine Pk_b ?_));exact ⟨_,_,hS1,rfl⟩)⟩
instance {s p:ByteArray}:Pu 203 #[.string s,.string p] (.bool (bif decide ((s.size:Int) ≥ p.size) then decide (s.extract 0 p.size = p) else false)):=⟨fun z w=>Fn1.intro fun hS=>en203 (by
 unfold vc203;refine V_run ?_;refine V_run ?_;refine V_run ?_;intro K0 hK0;refine Cond_d (fun h=>?_) (fun h=>?_)
 ·haveI:InR (p.size:Int) ((s.size:Int) + 1):=⟨by omega,by omega⟩
  (repeat (first | (refine iDr ?_; intro _ _) | refine V_run ?_ | refine PV_run ?_ | refine HV_run ?_ | refine iV_ld1 ?_ | refine iV_ldN ?_ | (refine iV_bx ?_; intro _ _ _ _) | (refine iV_al ?_; intro _ _ _ _) | (refine iV_mm ?_; intro _ _ _ _) | (refine iU_st ?_; intro _ _) | refine iHV_1 ?_ | refine iHV_N ?_ | refine iRI_1 ?_ | refine iRI_N ?_ | refine Cond_t ?_ | refine Cond_f ?_ | refine JB ?_ | (refine JC ?_; intro _ _ _ _) | (refine JGB ?_; intro _ _ _ _) | refine K1 ?_ | refine K0 ?_ | refine K2 ?_ | refine K3 ?_ | refine K4 ?_ | (refine CV_pu ?_; intro _ _ _ _) | (refine CV_puz ?_; intro _ _ _ _) | refine fRI_1 ?_ | refine fRI_N ?_ | refine gHV_lkI ?_ | refine gRI_lkI ?_ | refine gV_lkI ?_ | refine fV_ldN ?_ | refine fV_ld1 ?_ | refine fHV_ldN ?_ | refine fHV_ld1 ?_ | refine NilW_some ?_ | refine iCW_1 ?_ | refine iCW_N ?_ | refine Pk_b ?_));refine hK0 _ _ fun _=>?_
  exact ⟨_,_,‹_›,by rw [decide_eq_true h]; simp⟩
 ·refine hK0 _ _ fun _=>?_
  exact ⟨_,_,‹_›,by rw [decide_eq_false h]; rfl⟩)⟩
instance {s p:ByteArray}:Pu 181 #[.string s,.string p] (.bool (bif decide ((s.size:Int) ≥ p.size) then decide (s.extract 0 p.size = p) else false)):=⟨fun z w=>Fn1.intro fun hS=>en181 (by
 unfold vc181;(repeat (first | (refine iDr ?_; intro _ _) | refine V_run ?_ | refine PV_run ?_ | refine HV_run ?_ | refine iV_ld1 ?_ | refine iV_ldN ?_ | (refine iV_bx ?_; intro _ _ _ _) | (refine iV_al ?_; intro _ _ _ _) | (refine iV_mm ?_; intro _ _ _ _) | (refine iU_st ?_; intro _ _) | refine iHV_1 ?_ | refine iHV_N ?_ | refine iRI_1 ?_ | refine iRI_N ?_ | refine Cond_t ?_ | refine Cond_f ?_ | refine JB ?_ | (refine JC ?_; intro _ _ _ _) | (refine JGB ?_; intro _ _ _ _) | refine K1 ?_ | refine K0 ?_ | refine K2 ?_ | refine K3 ?_ | refine K4 ?_ | (refine CV_pu ?_; intro _ _ _ _) | (refine CV_puz ?_; intro _ _ _ _) | refine fRI_1 ?_ | refine fRI_N ?_ | refine gHV_lkI ?_ | refine gRI_lkI ?_ | refine gV_lkI ?_ | refine fV_ldN ?_ | refine fV_ld1 ?_ | refine fHV_ldN ?_ | refine fHV_ld1 ?_ | refine NilW_some ?_ | refine iCW_1 ?_ | refine iCW_N ?_ | refine Pk_b ?_));exact ⟨_,_,‹_›,rfl⟩)⟩
end
section
open Go Q Go.RowKit
def OwnF (e:Nat) (B:Bl) (v:Value) (n:Nat) (xs:List Value):Prop:=
 xs.length = n/\∃ b cap sp f,B = [(b,.cells (xs ++ sp).toArray e (0,f))]/\v = .slice (some ⟨b,0,none⟩) n cap/\n <= cap/\cap <= maxLen/\(xs ++ sp).length = cap * 1/\f <= n
section
variable {w0 w w':World} {z0 z z':Z} {B0 B B' L F:Bl} {K:Value->World->Prop}
theorem V_appSF {t u ty e bytes:Nat} [g:TyApp t e 1 bytes] (hu:Tryz.prog.underlying u = some .string) {v:Value} {n:Nat} {xs:List Value} {s:ByteArray} (hS:Res w0 z0 B0 w z (B ++ L)) (ho:OwnF e B v n xs)
  (hb:(n + s.size) * bytes <= room) (hb2:n + s.size <= room)
  (hk:∀ B' v' w',OwnF e B' v' (n + s.size) (xs ++ Lib.strCells s)->Res w0 z0 B0 w' z (B' ++ L)->K v' w'):V (Builtin.append_ #[t,u] ty #[v,.string s]) w K:=by
 obtain ⟨zv,hinfo,hzs⟩:=g.info;obtain ⟨i,hi,hz⟩:=Option.map_eq_some_iff.1 hinfo;simp only [Prod.mk.injEq] at hz;obtain ⟨hz0,hz1,hz2⟩:=hz;have hlen:(xs ++ Lib.strCells s).length = (n + s.size) * 1:=by rw [List.length_append,ho.1,Lib.strCells_length]; omega
 simp only [room] at hb hb2;have hmax:n + s.size <= maxLen:=by simp only [maxLen]; omega
 have h63:((n + s.size:Nat):Int) <= 9223372036854775807:=by omega
 have grown:∀ (old:Nat) (w1:World),w1 = w.drew.alloc (.cells (xs.toArray ++ (Lib.strCells s).toArray ++ Builtin.zeroCells zv.cells (grownCap w (n + s.size) old e - (n + s.size))) e) ->
   Res w0 z0 B0 w1 z ((w.heap.size,.cells (xs ++ Lib.strCells s ++ (Builtin.zeroCells zv.cells (grownCap w (n + s.size) old e - (n + s.size))).toList).toArray e (0,0)) :: (B ++ L)):=fun old w1 hw1=>by
  subst hw1;have:=Res.new (Res.drew hS) (.cells (xs ++ Lib.strCells s ++ (Builtin.zeroCells zv.cells (grownCap w (n + s.size) old e - (n + s.size))).toList).toArray e (0,0));have he:(xs.toArray ++ (Lib.strCells s).toArray ++ Builtin.zeroCells zv.cells (grownCap w (n + s.size) old e - (n + s.size))) = (xs ++ Lib.strCells s ++ (Builtin.zeroCells zv.cells (grownCap w (n + s.size) old e - (n + s.size))).toList).toArray:=by
   apply Array.toList_inj.1; simp
  rw [he];exact this
 have own':∀ (old:Nat),OwnF e [(w.heap.size,.cells (xs ++ Lib.strCells s ++ (Builtin.zeroCells zv.cells (grownCap w (n + s.size) old e - (n + s.size))).toList).toArray e (0,0))] (.slice (some ⟨w.heap.size,0,none⟩) (n + s.size) (grownCap w (n + s.size) old e)) (n + s.size) (xs ++ Lib.strCells s):=fun old=>by
  have hge:=grownCap_ge w (n + s.size) old e;refine ⟨by omega,_,_,_,0,rfl,rfl,hge,grownCap_le_maxLen w (n + s.size) old e hmax,?_,Nat.zero_le _⟩;rw [List.length_append,hlen,Array.length_toList,size_zeroCells,hzs,<- Nat.add_mul]
  congr 1
  omega
 obtain ⟨hxl0,b,cap,sp,f,rfl,rfl,hcap,hcm,hsz,hf⟩:=ho
 ·by_cases hroom:n + s.size <= cap
  ·have hat:=hS.mem (b,.cells (xs ++ sp).toArray e (0,f)) (by simp)
   have hxl:xs.length = n:=hxl0;have hr:=Lib.run_append_room_stringF (P:=Tryz.prog) w t u ty e i g.und hu hi hz1 b n cap (xs ++ sp).toArray (0,f) hat.1 hf s hroom (by simp only [List.size_toArray,hsz]; omega);refine ⟨_,_,hr,?_⟩;rw [setRow_eq hat.1];have hnew:((xs ++ sp).toArray.toList.take n ++ Lib.strCells s ++ (xs ++ sp).toArray.toList.drop (n + s.size)) = xs ++ Lib.strCells s ++ sp.drop s.size:=by
    simp only [<- hxl,List.take_left,List.drop_append,List.drop_of_length_le (Nat.le_add_right xs.length s.size)];simp
   rw [hnew];refine hk [(b,.cells (xs ++ Lib.strCells s ++ sp.drop s.size).toArray e (0,f))] _ _ ⟨by omega,b,cap,sp.drop s.size,f,rfl,rfl,hroom,hcm,?_,by omega⟩ (Res.put hS _ rfl);rw [List.length_append,hlen,List.length_drop];have:sp.length = cap * 1 - n:=by rw [<- hsz,List.length_append,hxl]; omega
   omega
  ·have hat:=hS.mem (b,.cells (xs ++ sp).toArray e (0,f)) (by simp)
   have holds:∀ j u,xs[j]? = some u->w.cell? ((⟨b,0,none⟩:Addr).add j) = some u:=fun j u hu=>by
    rw [add_addr];refine At.cell (vs:=xs) ⟨_,_,_,hat.1,fun j u hu=>?_⟩ hu;simp only [Nat.zero_add,List.getElem?_toArray];rw [List.getElem?_append_left (List.getElem?_eq_some_iff.1 hu).1];exact hu
   have hr:=Lib.run_append_grow_string (P:=Tryz.prog) w t u ty e i zv g.und hu hi hz0 ⟨b,0,none⟩ n cap xs (by rw [hz1]; omega) holds s (by omega) h63 (growslice_fits (by omega) (by rw [hz2]; exact hb));refine ⟨_,_,hr,hk _ _ _ (own' cap) ((grown cap _ rfl).sublist ?_)⟩;simp
end
structure BuF (b:Nat) (B:Bl) (xs:List Value):Prop where
 h:∃ v Bb,B = (b,buO (some ⟨b,0,none⟩) v) :: Bb/\OwnF 5 Bb v xs.length xs
theorem OwnSl.toF {e n:Nat} {B:Bl} {v:Value} {xs:List Value} (ho:OwnSl e 1 B v n xs) (hn:n ≠ 0):OwnF e B v n xs:=by
 rcases ho.2 with ⟨_,_,h0⟩ | ⟨g,cap,sp,rfl,rfl,h1,h2,h3⟩
 ·exact absurd h0 hn
 ·exact ⟨by have:=ho.1; omega,g,cap,sp,0,rfl,rfl,h1,h2,h3,Nat.zero_le _⟩
theorem writeString1 {b:Nat} {B:Bl} {xs:List Value} {s:ByteArray} {z:Z} {w:World} (hB:BuOk b B xs) (hn:xs.length + s.size <= room) (h1:s.size ≠ 0) :
  Fn 178 #[.pointer (some ⟨b,0,none⟩),.string s] z B w fun _ B' r=>BuF b B' (xs ++ Lib.strCells s)/\r = .tuple #[.int .i64 s.size,.nilIface]:=Fn.intro fun hS=>en178 (by
 unfold vc178;obtain ⟨p,v,Bb,rfl,hp,ho⟩:=hB.h;refine CV_fn (B:=[(b,buO p v)]) (F:=Bb) hS (copyCheck hp) (by simp) ?_;rintro z1 B1 w1 v1 hz1 hS1 ⟨rfl,rfl⟩
 obtain ⟨a,cap,rfl,hcap⟩:=ho.form;have hS1':Res w z _ w1 z1 ((b,buO (some ⟨b,0,none⟩) (.slice a xs.length cap)) :: Bb):=hS1;have hS2:=hS1'.bring Bb;clear hS1 hS1';(repeat (first | (refine iDr ?_; intro _ _) | refine V_run ?_ | refine PV_run ?_ | refine HV_run ?_ | refine iV_ld1 ?_ | refine iV_ldN ?_ | (refine iV_bx ?_; intro _ _ _ _) | (refine iV_al ?_; intro _ _ _ _) | (refine iV_mm ?_; intro _ _ _ _) | (refine iU_st ?_; intro _ _) | refine iHV_1 ?_ | refine iHV_N ?_ | refine iRI_1 ?_ | refine iRI_N ?_ | refine Cond_t ?_ | refine Cond_f ?_ | refine JB ?_ | (refine JC ?_; intro _ _ _ _) | (refine JGB ?_; intro _ _ _ _) | (refine J1 ?_; intro _ _) | (refine J0 ?_; intro _ _) | (refine J2 ?_; intro _ _) | (refine J3 ?_; intro _ _) | (refine J4 ?_; intro _ _) | refine K1 ?_ | refine K0 ?_ | refine K2 ?_ | refine K3 ?_ | refine K4 ?_ | (refine CV_pu ?_; intro _ _ _ _) | (refine CV_puz ?_; intro _ _ _ _) | refine fRI_1 ?_ | refine fRI_N ?_ | refine gHV_lkI ?_ | refine gRI_lkI ?_ | refine gV_lkI ?_ | refine fV_ldN ?_ | refine fV_ld1 ?_ | refine fHV_ldN ?_ | refine fHV_ld1 ?_ | refine NilW_some ?_ | refine iCW_1 ?_ | refine iCW_N ?_ | refine Pk_b ?_));refine V_appS (t:=60) (u:=9) (bytes:=1) (by kernel_rfl) hS2 ho (by omega) hn ?_;intro B' v' w2 ho' hS3;obtain ⟨a',cap',rfl,hcap'⟩:=ho'.form;clear hS2;(repeat (first | (refine iDr ?_; intro _ _) | refine V_run ?_ | refine PV_run ?_ | refine HV_run ?_ | refine iV_ld1 ?_ | refine iV_ldN ?_ | (refine iV_bx ?_; intro _ _ _ _) | (refine iV_al ?_; intro _ _ _ _) | (refine iV_mm ?_; intro _ _ _ _) | (refine iU_st ?_; intro _ _) | refine iHV_1 ?_ | refine iHV_N ?_ | refine iRI_1 ?_ | refine iRI_N ?_ | refine Cond_t ?_ | refine Cond_f ?_ | refine JB ?_ | (refine JC ?_; intro _ _ _ _) | (refine JGB ?_; intro _ _ _ _) | (refine J1 ?_; intro _ _) | (refine J0 ?_; intro _ _) | (refine J2 ?_; intro _ _) | (refine J3 ?_; intro _ _) | (refine J4 ?_; intro _ _) | refine K1 ?_ | refine K0 ?_ | refine K2 ?_ | refine K3 ?_ | refine K4 ?_ | (refine CV_pu ?_; intro _ _ _ _) | (refine CV_puz ?_; intro _ _ _ _) | refine fRI_1 ?_ | refine fRI_N ?_ | refine gHV_lkI ?_ | refine gRI_lkI ?_ | refine gV_lkI ?_ | refine fV_ldN ?_ | refine fV_ld1 ?_ | refine fHV_ldN ?_ | refine fHV_ld1 ?_ | refine NilW_some ?_ | refine iCW_1 ?_ | refine iCW_N ?_ | refine Pk_b ?_));rename_i hSe;refine ⟨_,_,(hSe.bringB b),⟨_,_,rfl,?_⟩,rfl⟩;rw [show (xs ++ Lib.strCells s).length = xs.length + s.size by rw [List.length_append,Lib.strCells_length]]
 simpa using ho'.toF (by omega))
theorem writeStringF {b:Nat} {B:Bl} {xs:List Value} {s:ByteArray} {z:Z} {w:World} (hB:BuF b B xs) (hn:xs.length + s.size <= room) :
  Fn 178 #[.pointer (some ⟨b,0,none⟩),.string s] z B w fun _ B' r=>BuF b B' (xs ++ Lib.strCells s)/\r = .tuple #[.int .i64 s.size,.nilIface]:=Fn.intro fun hS=>en178 (by
 unfold vc178;obtain ⟨v,Bb,rfl,ho⟩:=hB.h;refine CV_fn (B:=[(b,buO (some ⟨b,0,none⟩) v)]) (F:=Bb) hS (copyCheck (.inr rfl)) (by simp) ?_;rintro z1 B1 w1 v1 hz1 hS1 ⟨rfl,rfl⟩
 obtain ⟨hx0,g,cap,sp,f,rfl,rfl,hcap,hcm,hsz,hf⟩:=ho;have ho:OwnF 5 [(g,.cells (xs ++ sp).toArray 5 (0,f))] (.slice (some ⟨g,0,none⟩) xs.length cap) xs.length xs:=⟨rfl,g,cap,sp,f,rfl,rfl,hcap,hcm,hsz,hf⟩
 have hS1':Res w z _ w1 z1 ((b,buO (some ⟨b,0,none⟩) (.slice (some ⟨g,0,none⟩) xs.length cap)) :: [(g,.cells (xs ++ sp).toArray 5 (0,f))]):=hS1;have hS2:=hS1'.bring [(g,.cells (xs ++ sp).toArray 5 (0,f))];clear hS1 hS1';(repeat (first | (refine iDr ?_; intro _ _) | refine V_run ?_ | refine PV_run ?_ | refine HV_run ?_ | refine iV_ld1 ?_ | refine iV_ldN ?_ | (refine iV_bx ?_; intro _ _ _ _) | (refine iV_al ?_; intro _ _ _ _) | (refine iV_mm ?_; intro _ _ _ _) | (refine iU_st ?_; intro _ _) | refine iHV_1 ?_ | refine iHV_N ?_ | refine iRI_1 ?_ | refine iRI_N ?_ | refine Cond_t ?_ | refine Cond_f ?_ | refine JB ?_ | (refine JC ?_; intro _ _ _ _) | (refine JGB ?_; intro _ _ _ _) | (refine J1 ?_; intro _ _) | (refine J0 ?_; intro _ _) | (refine J2 ?_; intro _ _) | (refine J3 ?_; intro _ _) | (refine J4 ?_; intro _ _) | refine K1 ?_ | refine K0 ?_ | refine K2 ?_ | refine K3 ?_ | refine K4 ?_ | (refine CV_pu ?_; intro _ _ _ _) | (refine CV_puz ?_; intro _ _ _ _) | refine fRI_1 ?_ | refine fRI_N ?_ | refine gHV_lkI ?_ | refine gRI_lkI ?_ | refine gV_lkI ?_ | refine fV_ldN ?_ | refine fV_ld1 ?_ | refine fHV_ldN ?_ | refine fHV_ld1 ?_ | refine NilW_some ?_ | refine iCW_1 ?_ | refine iCW_N ?_ | refine Pk_b ?_));refine V_appSF (t:=60) (u:=9) (bytes:=1) (by kernel_rfl) hS2 ho (by omega) hn ?_;intro B' v' w2 ho' hS3;obtain ⟨hy0,g',cap',sp',f',rfl,rfl,hcap',hcm',hsz',hf'⟩:=ho';clear hS2;(repeat (first | (refine iDr ?_; intro _ _) | refine V_run ?_ | refine PV_run ?_ | refine HV_run ?_ | refine iV_ld1 ?_ | refine iV_ldN ?_ | (refine iV_bx ?_; intro _ _ _ _) | (refine iV_al ?_; intro _ _ _ _) | (refine iV_mm ?_; intro _ _ _ _) | (refine iU_st ?_; intro _ _) | refine iHV_1 ?_ | refine iHV_N ?_ | refine iRI_1 ?_ | refine iRI_N ?_ | refine Cond_t ?_ | refine Cond_f ?_ | refine JB ?_ | (refine JC ?_; intro _ _ _ _) | (refine JGB ?_; intro _ _ _ _) | (refine J1 ?_; intro _ _) | (refine J0 ?_; intro _ _) | (refine J2 ?_; intro _ _) | (refine J3 ?_; intro _ _) | (refine J4 ?_; intro _ _) | refine K1 ?_ | refine K0 ?_ | refine K2 ?_ | refine K3 ?_ | refine K4 ?_ | (refine CV_pu ?_; intro _ _ _ _) | (refine CV_puz ?_; intro _ _ _ _) | refine fRI_1 ?_ | refine fRI_N ?_ | refine gHV_lkI ?_ | refine gRI_lkI ?_ | refine gV_lkI ?_ | refine fV_ldN ?_ | refine fV_ld1 ?_ | refine fHV_ldN ?_ | refine fHV_ld1 ?_ | refine NilW_some ?_ | refine iCW_1 ?_ | refine iCW_N ?_ | refine Pk_b ?_));rename_i hSe;refine ⟨_,_,(hSe.bringB b),⟨_,_,rfl,?_⟩,rfl⟩;have hl:(xs ++ Lib.strCells s).length = xs.length + s.size:=by rw [List.length_append,Lib.strCells_length]
 rw [hl];exact ⟨hl,g',cap',sp',f',rfl,rfl,hcap',hcm',hsz',hf'⟩)
theorem builderLenF {b:Nat} {B:Bl} {xs:List Value} {z:Z} {w:World} (hB:BuF b B xs) :
  Fn 182 #[.pointer (some ⟨b,0,none⟩)] z B w fun _ B' r=>B' = B/\r = .int .i64 xs.length:=Fn.intro fun hS=>en182 (by
 unfold vc182;obtain ⟨v,Bb,rfl,hx0,g,cap,sp,f,rfl,rfl,h1⟩:=hB.h;(repeat (first | (refine iDr ?_; intro _ _) | refine V_run ?_ | refine PV_run ?_ | refine HV_run ?_ | refine iV_ld1 ?_ | refine iV_ldN ?_ | (refine iV_bx ?_; intro _ _ _ _) | (refine iV_al ?_; intro _ _ _ _) | (refine iV_mm ?_; intro _ _ _ _) | (refine iU_st ?_; intro _ _) | refine iHV_1 ?_ | refine iHV_N ?_ | refine iRI_1 ?_ | refine iRI_N ?_ | refine Cond_t ?_ | refine Cond_f ?_ | refine JB ?_ | (refine JC ?_; intro _ _ _ _) | (refine JGB ?_; intro _ _ _ _) | (refine J1 ?_; intro _ _) | (refine J0 ?_; intro _ _) | (refine J2 ?_; intro _ _) | (refine J3 ?_; intro _ _) | (refine J4 ?_; intro _ _) | refine K1 ?_ | refine K0 ?_ | refine K2 ?_ | refine K3 ?_ | refine K4 ?_ | (refine CV_pu ?_; intro _ _ _ _) | (refine CV_puz ?_; intro _ _ _ _) | refine fRI_1 ?_ | refine fRI_N ?_ | refine gHV_lkI ?_ | refine gRI_lkI ?_ | refine gV_lkI ?_ | refine fV_ldN ?_ | refine fV_ld1 ?_ | refine fHV_ldN ?_ | refine fHV_ld1 ?_ | refine NilW_some ?_ | refine iCW_1 ?_ | refine iCW_N ?_ | refine Pk_b ?_));exact ⟨_,_,hS,rfl,rfl⟩)
theorem freeze_eqF {w:World} {g n f:Nat} {c:Array Value} {e:TypeId} (h:w.heap[g]? = some (.cells c e (0,f))) (hn:n ≠ 0) (hf:f <= n):w.freeze ⟨g,0,none⟩ n = { w with heap:=w.heap.setIfInBounds g (.cells c e (0,n)) }:=by
 unfold World.freeze;rw [if_neg hn]
 congr 1
 apply Array.ext_getElem?
 intro j;rw [Array.getElem?_modify,Array.getElem?_setIfInBounds]
 by_cases hj:g = j
 ·subst hj
  rw [if_pos rfl,if_pos rfl,if_pos (lt_of_get h),h];simp only [Option.map_some,Nat.zero_add];have:max f n = n:=by omega
  by_cases h0:(0 == f) = true
  ·rw [if_pos h0]
  ·rw [if_neg h0,this]; simp
 ·rw [if_neg hj,if_neg hj]
theorem builderStringF {b:Nat} {B:Bl} {l:List UInt8} {z:Z} {w:World} (hB:BuF b B (Lib.byteCells l)) (hl0:l ≠ []) (hl:l.length <= room) :
  Fn 179 #[.pointer (some ⟨b,0,none⟩)] z B w fun _ B' r=>BuF b B' (Lib.byteCells l)/\r = .string ⟨l.toArray⟩:=Fn.intro fun hS=>en179 (by
 unfold vc179;obtain ⟨v,Bb,rfl,ho⟩:=hB.h;have hbl:(Lib.byteCells l).length = l.length:=Lib.byteCells_length l;obtain ⟨hx0,g,cap,sp,f,rfl,rfl,h1,h2,h3,hf⟩:=ho;have hpos:0 < l.length:=List.length_pos_iff.2 hl0;(repeat (first | (refine iDr ?_; intro _ _) | refine V_run ?_ | refine PV_run ?_ | refine HV_run ?_ | refine iV_ld1 ?_ | refine iV_ldN ?_ | (refine iV_bx ?_; intro _ _ _ _) | (refine iV_al ?_; intro _ _ _ _) | (refine iV_mm ?_; intro _ _ _ _) | (refine iU_st ?_; intro _ _) | refine iHV_1 ?_ | refine iHV_N ?_ | refine iRI_1 ?_ | refine iRI_N ?_ | refine Cond_t ?_ | refine Cond_f ?_ | refine JB ?_ | (refine JC ?_; intro _ _ _ _) | (refine JGB ?_; intro _ _ _ _) | (refine J1 ?_; intro _ _) | (refine J0 ?_; intro _ _) | (refine J2 ?_; intro _ _) | (refine J3 ?_; intro _ _) | (refine J4 ?_; intro _ _) | refine K1 ?_ | refine K0 ?_ | refine K2 ?_ | refine K3 ?_ | refine K4 ?_ | (refine CV_pu ?_; intro _ _ _ _) | (refine CV_puz ?_; intro _ _ _ _) | refine fRI_1 ?_ | refine fRI_N ?_ | refine gHV_lkI ?_ | refine gRI_lkI ?_ | refine gV_lkI ?_ | refine fV_ldN ?_ | refine fV_ld1 ?_ | refine fHV_ldN ?_ | refine fHV_ld1 ?_ | refine NilW_some ?_ | refine iCW_1 ?_ | refine iCW_N ?_ | refine Pk_b ?_));rename_i w9 hSe;have hgm:=hSe.mem (g,.cells (Lib.byteCells l ++ sp).toArray 5 (0,f)) (by simp);have hg1:w9.heap[g]? = some (.cells (Lib.byteCells l ++ sp).toArray 5 (0,f)):=hgm.1;have hsh:∀ w2:World,w2.heap[g]? = some (.cells (Lib.byteCells l ++ sp).toArray 5 (0,f))->w2.shape? g = some (5,cap):=fun w2 h=>by
  unfold World.shape?;rw [h];simp only [List.size_toArray,h3,Nat.mul_one]
 refine ⟨_,_,Lib.run_unsafeSliceData_row _ _ _ _ _ _ (by omega),?_⟩;(repeat (first | (refine iDr ?_; intro _ _) | refine V_run ?_ | refine PV_run ?_ | refine HV_run ?_ | refine iV_ld1 ?_ | refine iV_ldN ?_ | (refine iV_bx ?_; intro _ _ _ _) | (refine iV_al ?_; intro _ _ _ _) | (refine iV_mm ?_; intro _ _ _ _) | (refine iU_st ?_; intro _ _) | refine iHV_1 ?_ | refine iHV_N ?_ | refine iRI_1 ?_ | refine iRI_N ?_ | refine Cond_t ?_ | refine Cond_f ?_ | refine JB ?_ | (refine JC ?_; intro _ _ _ _) | (refine JGB ?_; intro _ _ _ _) | (refine J1 ?_; intro _ _) | (refine J0 ?_; intro _ _) | (refine J2 ?_; intro _ _) | (refine J3 ?_; intro _ _) | (refine J4 ?_; intro _ _) | refine K1 ?_ | refine K0 ?_ | refine K2 ?_ | refine K3 ?_ | refine K4 ?_ | (refine CV_pu ?_; intro _ _ _ _) | (refine CV_puz ?_; intro _ _ _ _) | refine fRI_1 ?_ | refine fRI_N ?_ | refine gHV_lkI ?_ | refine gRI_lkI ?_ | refine gV_lkI ?_ | refine fV_ldN ?_ | refine fV_ld1 ?_ | refine fHV_ldN ?_ | refine fHV_ld1 ?_ | refine NilW_some ?_ | refine iCW_1 ?_ | refine iCW_N ?_ | refine Pk_b ?_));rw [hbl] at hSe ⊢;refine ⟨_,_,Lib.run_unsafeString_row (e:=5) _ _ _ _ (by kernel_rfl) (by kernel_rfl) g cap (hsh _ hg1) l hl0 (by omega) (by simp only [room] at hl; omega) (fun j x hx=>?_),?_⟩
 ·rw [add_addr]
  refine At.cell (vs:=Lib.byteCells l) ⟨_,_,_,hg1,fun j u hu=>?_⟩ (by unfold Lib.byteCells; rw [List.getElem?_map,hx]; rfl);simp only [Nat.zero_add,List.getElem?_toArray];rw [List.getElem?_append_left (List.getElem?_eq_some_iff.1 hu).1];exact hu
 ·rw [freeze_eqF hg1 (by omega) (by omega)]
  have hS8:=Res.set (b:=g) hSe (.cells (Lib.byteCells l ++ sp).toArray 5 (0,l.length)) rfl;clear hSe hS;(repeat (first | (refine iDr ?_; intro _ _) | refine V_run ?_ | refine PV_run ?_ | refine HV_run ?_ | refine iV_ld1 ?_ | refine iV_ldN ?_ | (refine iV_bx ?_; intro _ _ _ _) | (refine iV_al ?_; intro _ _ _ _) | (refine iV_mm ?_; intro _ _ _ _) | (refine iU_st ?_; intro _ _) | refine iHV_1 ?_ | refine iHV_N ?_ | refine iRI_1 ?_ | refine iRI_N ?_ | refine Cond_t ?_ | refine Cond_f ?_ | refine JB ?_ | (refine JC ?_; intro _ _ _ _) | (refine JGB ?_; intro _ _ _ _) | (refine J1 ?_; intro _ _) | (refine J0 ?_; intro _ _) | (refine J2 ?_; intro _ _) | (refine J3 ?_; intro _ _) | (refine J4 ?_; intro _ _) | refine K1 ?_ | refine K0 ?_ | refine K2 ?_ | refine K3 ?_ | refine K4 ?_ | (refine CV_pu ?_; intro _ _ _ _) | (refine CV_puz ?_; intro _ _ _ _) | refine fRI_1 ?_ | refine fRI_N ?_ | refine gHV_lkI ?_ | refine gRI_lkI ?_ | refine gV_lkI ?_ | refine fV_ldN ?_ | refine fV_ld1 ?_ | refine fHV_ldN ?_ | refine fHV_ld1 ?_ | refine NilW_some ?_ | refine iCW_1 ?_ | refine iCW_N ?_ | refine Pk_b ?_));refine ⟨_,_,hS8.bringB b,⟨_,_,rfl,?_⟩,rfl⟩;exact ⟨rfl,g,cap,sp,l.length,rfl,by rw [hbl],by rw [hbl]; omega,h2,h3,by rw [hbl]; omega⟩)
end
section
open Go Q Go.RowKit
abbrev z64:ByteArray:=⟨#[48,48,48,48,48,48,48,48,48,48,48,48,48,48,48,48,48,48,48,48,48,48,48,48,48,48,48,48,48,48,48,48,48,48,48,48,48,48,48,48,48,48,48,48,48,48,48,48,48,48,48,48,48,48,48,48,48,48,48,48,48,48,48,48]⟩
theorem z64_eq:bytes z64 = zerosL 64:=by decide
theorem strCells_bytes (s:ByteArray):Lib.strCells s = Lib.byteCells (bytes s):=Lib.strCells_eq s
def zerosB (n:Int):ByteArray:=strB (zerosL n.toNat)
instance {t u:Nat} {a b c:Int}:Run (Builtin.min_ #[t,t,t] u #[.int .i64 a,.int .i64 b,.int .i64 c]) (.int .i64 (min (min a b) c)):=⟨fun w=>by
 have h:∀ a b:Int,(if b < a then b else a) = min a b:=fun a b=>by rw [Int.min_def]; split <;> split <;> omega
 simp only [Builtin.min_,List.foldlM_cons,List.foldlM_nil,Builtin.min2,h,pure_bind]
 rfl⟩
section
variable {w0 w:World} {z0 z:Z} {B0 L:Bl}
theorem pk {f:FuncId} [Enters f] {args:Array Value} {b c:Bool} {K:List Value->World->Prop} [hS:Res w0 z0 B0 w z L] [Pu f args (.bool c)] (hc:c = false) (hK:∀ w' z',Le z z'->Res w0 z0 B0 w' z' L->K [.bool false] w'):CondW (.bool b) (CV (.func (.func f) #[] #[]) args w fun t w=>K [t] w) (K [.bool false] w):=by
 subst hc
 cases b with
 | false=>exact Cond_f (hK _ _ (Le.refl _) hS)
 | true=>
  refine Cond_t ?_;refine CV_pu ?_;intro z1 w1 hz1 hS1;exact hK _ _ hz1 hS1
end
theorem pre_no {s:ByteArray} {c d:UInt8} (h:(bytes s).head? = some d) (hd:d ≠ c):(bif decide ((s.size:Int) ≥ (b1 c).size) then decide (s.extract 0 (b1 c).size = b1 c) else false) = false:=by
 cases hb:decide ((s.size:Int) ≥ (b1 c).size) with
 | false=>rfl
 | true=>
  refine decide_eq_false fun e=>hd ?_
  have e2:=congrArg bytes e;rw [bytes_to] at e2
  cases hl:bytes s with
  | nil=>rw [hl] at h; cases h
  | cons x l=>
   rw [hl] at h e2;have h:x = d:=by simpa using h
   subst h;have e2:[x] = [c]:=e2
   simpa using e2
theorem pre_z64:(bif decide ((z64.size:Int) ≥ (b1 48).size) then decide (z64.extract 0 (b1 48).size = b1 48) else false) = true:=by decide
theorem Cz {b:Bool} {P Q:Prop} (h:b = true) (k:P):CondW (.bool b) P Q:=by subst h; exact Cond_t k
instance {n:Int} [h:Cnt n]:Pu 142 #[.string (b1 48),.int .i64 n] (.string (zerosB n)):=⟨fun z w=>Fn1.intro fun hS=>en142 (by
 unfold vc142;have h0:=h.h0;have h1:=h.h1;generalize hRR:(fun (v:Value) (w':World)=>∃ z' L',Res w z [] w' z' L'/\v = .string (zerosB n)) = RR;have hR:∀ z' w' L' r,Res w z [] w' z' L'->r = .string (zerosB n)->RR r w':=fun z' w' L' r k e=>by rw [<- hRR]; exact ⟨_,_,k,e⟩
 clear hRR;refine V_run ?_;refine Cond_d (fun h2=>?_) (fun h2=>?_)
 ·have h2:n = 0:=by simpa using h2
  subst h2;exact hR _ _ _ _ hS rfl
 have h2:n ≠ 0:=by simpa using h2
 refine V_run ?_;refine Cond_d (fun h3=>?_) (fun h3=>?_)
 ·have h3:n = 1:=by simpa using h3
  subst h3;exact hR _ _ _ _ hS rfl
 have h3:n ≠ 1:=by simpa using h3
 intro K0 hK0;refine V_run ?_;refine Cond_d (fun h4=>?_) (fun h4=>?_)
 ·omega
 refine hK0 _ fun _=>?_
 clear hK0;refine V_run ?_;refine V_run ?_;refine V_run ?_;rw [u_wrap (a:=n) (by omega) (by omega),u_wrap (a:=1) (by omega) (by omega)];refine CV_pu ?_;intro z1 w1 hz1 hS1;clear hS;refine V_run ?_;refine V_run ?_;intro K1 hK1;refine V_run ?_;intro K2 hK2;refine Cond_d (fun h5=>?_) (fun h5=>?_)
 ·omega
 refine V_run ?_;refine hK2 _ _ fun _=>?_
 refine Cond_d (fun h5=>?_) (fun h5=>?_)
 ·omega
 refine hK1 _ fun _=>?_
 clear hK1 hK2 K0 K1 K2;refine V_run ?_;rw [wrap_in (show inI n by unfold inI; omega)];refine V_run ?_;refine V_run ?_;refine Cond_f ?_;intro K3 hK3;refine V_run ?_;rw [bt_b1];intro K4 hK4;refine V_run ?_;refine Cond_f ?_;refine V_run ?_;refine Cond_f ?_;refine V_run ?_;refine Cond_t ?_;refine hK4 _ _ fun _=>?_
 clear hK4;refine Cond_t ?_;have hB:∀ w' z',Res w z [] w' z' []->K3 [] w':=by
  intro w' z' hS';refine hK3 _ fun _=>?_
  clear hK3;intro K0 hK0;have hC:∀ (m:Int) w' z',1 <= m->m <= 1000000->Res w z [] w' z' []->K0 [.int .i64 m] w':=by
   intro m w' z' hm1 hm2 hS';refine hK0 _ _ fun _=>?_
   clear hK0 hS1;refine iV_al ?_;intro bb w2 hbb hS2;clear hS';refine CV_fn (B:=[(bb,buO none (.slice none 0 0))]) (F:=[]) (by simpa using hS2) (growB (.inl rfl) h0 (by omega)) (by simp) ?_;rintro z3 B3 w3 v3 hz3 hS3 ⟨hB3,rfl⟩
   clear hS2;refine CV_fn (B:=B3) (F:=[]) (by simpa using hS3) (writeString1 (s:=b1 48) hB3 (by show 0 + 1 <= room; simp only [room]; omega) (by decide)) (by simp) ?_;rintro z4 B4 w4 v4 hz4 hS4 ⟨hB4,rfl⟩
   clear hS3;have hB4:BuF bb B4 (Lib.byteCells (zerosL 1)):=hB4;refine LoopG0 (fun (k:Nat) w'=>1 <= k/\k <= n.toNat/\∃ B' z',BuF bb B' (Lib.byteCells (zerosL k))/\Res w z [] w' z' B') (fun k=>n.toNat - k) 1 ⟨by omega,by omega,_,_,hB4,by simpa using hS4⟩ ?_;clear hB4 hS4;rintro I M k w5 m5 ⟨hk1,hk2,B5,z5,hB5,hS5⟩ back
   have hlen:(Lib.byteCells (zerosL k)).length = k:=by rw [Lib.byteCells_length]; simp
   refine CV_fn (B:=B5) (F:=[]) (by simpa using hS5) (builderLenF hB5) (by simp) ?_;rintro z6 B6 w6 v6 hz6 hS6 ⟨rfl,rfl⟩
   rw [List.append_nil] at hS6;rw [hlen];clear hS5;refine V_run ?_;refine Cond_d (fun h6=>?_) (fun h6=>?_)
   ·refine CV_fn (B:=B6) (F:=[]) (by simpa using hS6) (builderLenF hB5) (by simp) ?_
    rintro z7 B7 w7 v7 hz7 hS7 ⟨rfl,rfl⟩
    clear hS6;rw [List.append_nil] at hS7;rw [hlen];haveI:InI (n - (k:Int)):=⟨by omega⟩
    refine V_run ?_;refine CV_fn (B:=B7) (F:=[]) (by simpa using hS7) (builderLenF hB5) (by simp) ?_;rintro z8 B8 w8 v8 hz8 hS8 ⟨rfl,rfl⟩
    clear hS7;rw [List.append_nil] at hS8;rw [hlen];refine V_run ?_;obtain ⟨c,hc⟩:∃ c:Nat,min (min (n - (k:Int)) (k:Int)) m = (c:Int):=⟨(min (min (n - (k:Int)) (k:Int)) m).toNat,by omega⟩
    have hc1:1 <= c:=by omega
    have hck:c <= k:=by omega
    have hcn:k + c <= n.toNat:=by omega
    rw [hc];refine CV_fn (B:=B8) (F:=[]) (by simpa using hS8) (builderStringF (l:=zerosL k) hB5 (by intro e; have:=congrArg List.length e; rw [List.length_replicate] at this; simp at this; omega) (by rw [List.length_replicate]; simp only [room]; omega)) (by simp) ?_;rintro z9 B9 w9 v9 hz9 hS9 ⟨hB9,rfl⟩
    clear hS8;rw [List.append_nil] at hS9;haveI:InR (c:Int) (((⟨(zerosL k).toArray⟩:ByteArray).size:Int) + 1):=⟨by omega,by rw [size_bytes,bytes_mk,List.length_replicate]; omega⟩
    refine V_run ?_;have hx:bytes ((⟨(zerosL k).toArray⟩:ByteArray).extract 0 (c:Int).toNat) = zerosL c:=by
     rw [bytes_to,bytes_mk,Int.toNat_natCast,List.take_replicate,Nat.min_eq_left hck]
    refine CV_fn (B:=B9) (F:=[]) (by simpa using hS9) (writeStringF hB9 (by rw [hlen,size_bytes,hx,List.length_replicate]; simp only [room]; omega)) (by simp) ?_;rintro z10 B10 w10 v10 hz10 hS10 ⟨hB10,rfl⟩
    clear hS9;rw [strCells_bytes,hx,<- Lib.byteCells_append,List.replicate_append_replicate] at hB10;exact back (k + c) _ ⟨by omega,hcn,B10,z10,hB10,by simpa using hS10⟩ (by omega)
   ·refine CV_fn (B:=B6) (F:=[]) (by simpa using hS6) (builderStringF (l:=zerosL k) hB5 (by intro e; have:=congrArg List.length e; rw [List.length_replicate] at this; simp at this; omega) (by rw [List.length_replicate]; simp only [room]; omega)) (by simp) ?_
    rintro z9 B9 w9 v9 hz9 hS9 ⟨hB9,rfl⟩
    refine hR _ _ _ _ hS9 ?_;rw [zerosB,show n.toNat = k by omega]
  refine V_run ?_;refine Cond_d (fun h5=>?_) (fun h5=>?_)
  ·refine V_run ?_
   haveI:InR (0:Int) 1:=⟨by omega,by omega⟩
   refine V_run ?_;refine V_run ?_;rw [show IntKind.i64.wrap ((8192:Int).tdiv 1) = 8192 from by decide];haveI:InI ((8192:Int) * 1):=⟨by decide⟩
   refine V_run ?_;refine V_run ?_;refine Cond_f ?_;exact hC 8192 _ _ (by omega) (by omega) hS'
  ·exact hC n _ _ (by omega) (by omega) hS'
 clear hK3;refine V_run ?_;intro K5 hK5;refine pk (pre_no (d:=32) rfl (by decide)) fun w5 z5 hz5 hS5=>hK5 _ _ fun _=>Cond_f ?_
 clear hS1 hK5;refine V_run ?_;intro K6 hK6;refine pk (pre_no (d:=45) rfl (by decide)) fun w6 z6 hz6 hS6=>hK6 _ _ fun _=>Cond_f ?_
 clear hS5 hK6;refine V_run ?_;intro K7 hK7;refine Cond_d (fun h5=>?_) (fun h5=>?_)
 ·refine CV_pu ?_
  intro z5 w5 hz5 hS5;refine hK7 _ _ fun _=>?_
  refine Cz pre_z64 ?_;haveI:InR n ((z64.size:Int) + 1):=⟨by omega,by show n < ((64:Nat):Int) + 1; omega⟩
  refine V_run ?_;refine hR _ _ _ _ hS5 ?_;refine congrArg Value.string (ba_inj ?_);rw [zerosB,bytes_mk];refine (bytes_to _ _).trans ?_;rw [z64_eq,zerosL,zerosL,List.take_replicate]
  congr 1
  omega
 have hF:∀ w' z',Res w z [] w' z' []->K7 [.bool false] w':=by
  intro w' z' hS';refine hK7 _ _ fun _=>?_
  refine Cond_f ?_;clear hK7;refine V_run ?_;intro K8 hK8;refine pk (pre_no (d:=61) rfl (by decide)) fun w9 z9 hz9 hS9=>hK8 _ _ fun _=>Cond_f ?_
  clear hS' hK8;refine V_run ?_;intro K9 hK9;refine Cond_d (fun h6=>?_) (fun h6=>?_)
  ·omega
  refine hK9 _ _ fun _=>?_
  refine Cond_f ?_;exact hB _ _ hS9
 exact hF _ _ hS6)⟩
end
section
open Go Q Go.RowKit
instance {n:Int} [h:Cnt n]:Pu 79 #[.int .i64 n] (.string (zerosB n)):=⟨fun z w=>Fn1.intro fun hS=>en79 (by
 unfold vc79;refine CV_pu (args:=#[.string (b1 48),.int .i64 n]) ?_;intro z1 w1 hz1 hS1;exact ⟨_,_,hS1,rfl⟩)⟩
def El.byte:El UInt8 where
 size:=1
 rel:=fun _ cs x=>cs = [.int .u8 x.toNat]
 mono:=fun h _=>h
 len:=fun h=>by rw [h]; rfl
 pos:=by decide
theorem u8_sub48 {c:UInt8} (h1:48 <= c.toNat) (h2:c.toNat <= 57):Run (bi .sub 5 (.int .u8 c.toNat) (.int .u8 48)) (.int .u8 ((c.toNat:Int) - 48)):=⟨fun w=>by
 have h:∀ d:Fin 10,IntKind.u8.wrap ((d.val:Nat):Int) = ((d.val:Nat):Int):=by decide
 have:=h ⟨c.toNat - 48,by omega⟩;simp only at this;rw [show ((c.toNat - 48:Nat):Int) = (c.toNat:Int) - 48 by omega] at this;simp [bi,binOp,Op.intArith,this]⟩
theorem digitV_of {s:ByteArray} {i:Nat} (hd:Dg (bytes s)) (hs:s.size <= big) {z:Z} {w:World}:Fn1 197 #[.string s,.int .i64 i] z w fun _ r=>r = .int .i64 (dgAt (bytes s) i):=Fn1.intro fun hS=>en197 (by
 unfold vc197;simp only [big] at hs;have hsz:=size_bytes s;refine V_run ?_;refine V_run ?_;refine Cond_d (fun h=>?_) (fun h=>?_)
 ·exact ⟨_,_,hS,by rw [dgAt,if_neg (by omega)]⟩
 ·haveI:InI ((s.size:Int) - 1):=⟨by omega⟩
  refine V_run ?_;refine V_run ?_;haveI:InI ((s.size:Int) - 1 - (i:Int)):=⟨by omega⟩
  refine V_run ?_;haveI:InStr s ((s.size:Int) - 1 - (i:Int)):=⟨by omega,by omega⟩
  refine V_run ?_;obtain ⟨k,hk⟩:∃ k:Nat,(s.size:Int) - 1 - (i:Int) = (k:Int):=⟨((s.size:Int) - 1 - (i:Int)).toNat,by omega⟩
  have hkl:k < (bytes s).length:=by omega
  have hg:(bytes s)[k]? = some (bytes s)[k]:=List.getElem?_eq_getElem hkl;have hm:(bytes s)[k] ∈ bytes s:=List.getElem_mem hkl;have hb:=hd _ hm;rw [hk,bt_get hg];have hr:dgAt (bytes s) i = ((bytes s)[k].toNat:Int) - 48:=by
   rw [dgAt,if_pos (by omega),show (bytes s).length - 1 - i = k by omega,List.getD_eq_getElem?_getD,hg]; rfl
  rw [hr];generalize (bytes s)[k] = c at hb;haveI:=u8_sub48 (c:=c) (by omega) (by omega);refine V_run ?_;refine V_run ?_;refine ⟨_,_,hS,?_⟩;rw [wrap_in (by unfold inI; omega)])
end
section
open Go Q Go.RowKit
theorem reversed_of {z:Z} {w:World} {v:Value} {l:List UInt8} (hv:SlR El.byte z v l) (hl:l.length <= 1000000):Fn 196 #[v] z [] w fun _ B' r=>OwnSl 5 1 B' r l.length (Lib.byteCells l.reverse):=Fn.intro fun hS=>en196 (by
 unfold vc196;obtain ⟨hb,a,cap,rfl,hc,hel⟩:=hv.form;haveI:InI ((l.length:Int) - 1):=⟨by omega⟩
 refine V_run ?_;refine V_run ?_;refine LoopG2 (fun (k:Nat) x y w'=>y = .int .i64 ((k:Int) - 1)/\k <= l.length/\∃ B' z',OwnSl 5 1 B' x (l.length - k) (Lib.byteCells (l.drop k).reverse)/\Res w z [] w' z' B') (fun k=>k) l.length ⟨rfl,Nat.le_refl _,[],z,by rw [Nat.sub_self,List.drop_length]; exact OwnSl.nil,hS⟩ ?_;rintro I M k x y w2 m ⟨rfl,hk,B2,z2,ho,hS2⟩ back
 clear hS;refine V_run ?_;refine Cond_d (fun h=>?_) (fun h=>?_)
 ·obtain ⟨i,rfl⟩:∃ i,k = i + 1:=⟨k - 1,by omega⟩
  have hlt:i < l.length:=by omega
  have hg:l[i]? = some l[i]:=List.getElem?_eq_getElem hlt;obtain ⟨b,off,cs,rfl,rfl,hat⟩:=hel i _ hg;rw [show ((i + 1:Nat):Int) - 1 = (i:Int) by omega];haveI:InR (i:Int) l.length:=⟨by omega,by omega⟩
  haveI:Fz z b (off + (i:Int).toNat * 1) [.int .u8 l[i].toNat]:=⟨by rw [Int.toNat_natCast]; exact hat⟩
  refine V_run ?_;refine fV_ld1 ?_;obtain ⟨a',cap',rfl,hcap'⟩:=ho.form;refine V_push hS2 ho (by simp only [room]; omega) (by simp only [room]; omega) (by decide) ?_;intro B3 v3 w3 ho3 hS3;clear hS2;haveI:InI ((i:Int) - 1):=⟨by omega⟩
  refine V_run ?_;have hd:Lib.byteCells (l.drop (i + 1)).reverse ++ [Value.int .u8 (l[i].toNat:Int)] = Lib.byteCells (l.drop i).reverse:=by
   rw [List.drop_eq_getElem_cons hlt,List.reverse_cons,Lib.byteCells_append]
   rfl
  rw [hd,show l.length - (i + 1) + 1 = l.length - i by omega] at ho3;exact back i _ _ _ ⟨rfl,by omega,B3,z2,ho3,by simpa using hS3⟩ (by omega)
 ·have:k = 0:=by omega
  subst this;rw [List.drop_zero,Nat.sub_zero] at ho;exact ⟨_,_,hS2,ho⟩)
end
section
open Go Q Go.RowKit
def CarB (cb ob:Nat) (carry:Int) (out:List UInt8) (B:Bl):Prop:=
 ∃ v Bb,B = (cb,.cells [.int .i64 carry].toArray 3 (0,0)) :: (ob,.cells [v].toArray 60 (0,0)) :: Bb/\OwnSl 5 1 Bb v out.length (Lib.byteCells out)
theorem tmod10 (s:Int):(s.tmod 10 + 10).tmod 10 = s % 10:=by
 rw [Int.tmod_eq_emod_of_nonneg (by have:=Int.lt_tmod_of_pos s (show (0:Int) < 10 by decide); omega)];rw [Int.tmod_eq_emod]
 split <;> omega
theorem tdiv10 (s:Int):(s - s % 10).tdiv 10 = s / 10:=by
 have:s - s % 10 = 10 * (s / 10):=by omega
 rw [this,Int.mul_tdiv_cancel_left _ (by decide)]
theorem put_of {cb ob:Nat} {carry n:Int} {out:List UInt8} {B:Bl} {z:Z} {w:World} (hB:CarB cb ob carry out B) (hl:out.length <= 1000000) (hn:-1000000000000 <= n + carry/\n + carry <= 1000000000000) :
  Fn 194 #[.int .i64 n,.pointer (some ⟨cb,0,none⟩),.pointer (some ⟨ob,0,none⟩)] z B w fun _ B' r=>r = .tuple #[]/\CarB cb ob ((n + carry) / 10) (out ++ [UInt8.ofNat (48 + ((n + carry) % 10).toNat)]) B':=Fn.intro fun hS=>en194 (by
 unfold vc194;obtain ⟨v,Bb,rfl,ho⟩:=hB;haveI:InI (n + carry):=⟨by omega⟩
 haveI:InR (0:Int) 10:=⟨by decide,by decide⟩
 have hm1:=Int.lt_tmod_of_pos (n + carry) (show (0:Int) < 10 by decide);have hm2:=Int.tmod_lt_of_pos (n + carry) (show (0:Int) < 10 by decide);haveI:InI ((n + carry).tmod 10 + 10):=⟨by omega⟩
 refine iV_ld1 ?_;refine V_run ?_;refine V_run ?_;refine V_run ?_;refine V_run ?_;rw [tmod10];haveI:InI ((n + carry) - (n + carry) % 10):=⟨by omega⟩
 haveI:InI (((n + carry) - (n + carry) % 10).tdiv 10):=⟨by rw [tdiv10]; omega⟩
 refine V_run ?_;refine V_run ?_;rw [tdiv10];refine iU_st ?_;intro w2 hS2;clear hS;haveI:InI (48 + (n + carry) % 10):=⟨by omega⟩
 refine iV_ld1 ?_;refine V_run ?_;refine V_run ?_;have hc:IntKind.u8.wrap (48 + (n + carry) % 10) = ((UInt8.ofNat (48 + ((n + carry) % 10).toNat)).toNat:Int):=by
  rw [dg_nat (by omega)];have h:∀ d:Fin 10,IntKind.u8.wrap (48 + ((d.val:Nat):Int)) = ((48 + d.val:Nat):Int):=by decide
  have:=h ⟨((n + carry) % 10).toNat,by omega⟩;simp only at this;rw [Int.toNat_of_nonneg (by omega)] at this;exact this
 rw [hc];generalize UInt8.ofNat (48 + ((n + carry) % 10).toNat) = c;obtain ⟨a,cap,rfl,hcap⟩:=ho.form;refine V_push hS2 ho (by rw [Nat.mul_one]; simp only [room]; omega) (by simp only [room]; omega) (by decide) ?_;intro B3 v3 w3 ho3 hS3;obtain ⟨a3,cap3,rfl,hcap3⟩:=ho3.form;clear hS2;refine iU_st ?_;intro w4 hS4;clear hS3;refine ⟨_,_,(hS4.bringB ob).bringB cb,rfl,?_⟩;refine ⟨_,B3 ++ [],rfl,?_⟩;rw [Lib.byteCells_append,List.length_append,List.append_nil];exact ho3)
end
section
open Go Q Go.RowKit
theorem bc_flat:∀ l:List UInt8,Lib.byteCells l = l.flatMap fun x=>[Value.int .u8 (x.toNat:Int)]
 | []=>rfl
 | x :: l=>by
  rw [List.flatMap_cons,<- bc_flat l]
  rfl
theorem own_fz {w0 w:World} {z0 z:Z} {B0 B L:Bl} {v:Value} {l:List UInt8} (hS:Res w0 z0 B0 w z (B ++ L)) (ho:OwnSl 5 1 B v l.length (Lib.byteCells l)) (hl:l.length <= big):∃ z',Le z z'/\Res w0 z0 B0 w z' L/\SlR El.byte z' v l:=by
 rw [bc_flat] at ho;exact Res.freezeSl (E:=El.byte) hS ho hl (fun _=>rfl) fun z x _=>rfl
theorem run_cvs {z:Z} {w:World} {v:Value} {l:List UInt8} (hv:SlR El.byte z v l) (hs:Sub z w):(cv 60 9 v).run Tryz.prog w = .ok (.string ⟨l.toArray⟩) w:=by
 obtain ⟨_,a,cap,rfl,_,hel⟩:=hv.form
 cases a with
 | none=>
  have:l = []:=by
   cases l with
   | nil=>rfl
   | cons x l=>obtain ⟨_,_,_,h,_⟩:=hel 0 x rfl; cases h
  subst this;exact run_convert_bytes_nil (P:=Tryz.prog) w 60 5 (by kernel_rfl) (by kernel_rfl) 0 cap 9 (by kernel_rfl)
 | some a=>
  refine run_convert_bytes_back (P:=Tryz.prog) w 60 9 5 a cap l (by kernel_rfl) (by kernel_rfl) (by kernel_rfl) fun j hj=>?_
  obtain ⟨bb,off,cs,h1,h2,h3⟩:=hel j _ (List.getElem?_eq_getElem hj)
  cases h1
  cases h2
  have:=(h3.world hs).cell (j:=0) (v:=.int .u8 (l[j].toNat:Int)) rfl;rw [add_addr]
  simpa [El.byte] using this
theorem own_str {w0 w:World} {z0 z:Z} {B0 B L:Bl} {K:Value->World->Prop} {v:Value} {l:List UInt8} (hS:Res w0 z0 B0 w z (B ++ L)) (ho:OwnSl 5 1 B v l.length (Lib.byteCells l)) (hl:l.length <= big)
  (hk:∀ z',Le z z'->Res w0 z0 B0 w z' L->K (.string (strB l)) w):V (cv 60 9 v) w K:=by
 obtain ⟨z',hz,hR,hv⟩:=own_fz hS ho hl;exact ⟨_,_,run_cvs hv hR.sub,hk z' hz hR⟩
theorem finish_of {cb pb ob:Nat} {carry total:Int} {out:List UInt8} {B:Bl} {z:Z} {w:World} (hB:CarB cb ob carry out B) (hi:CarI out carry total) (h0:0 <= carry) (hl:out.length + carry <= 1000000) :
  Fn 195 #[.pointer (some ⟨cb,0,none⟩),.pointer (some ⟨pb,0,none⟩),.pointer (some ⟨ob,0,none⟩)] z ((pb,.cells [.func (.func 194) #[] #[.pointer (some ⟨cb,0,none⟩),.pointer (some ⟨ob,0,none⟩)]].toArray 159 (0,0)) :: B) w fun _ B' r=>B' = []/\r = .string (strB (digL total.toNat)):=Fn.intro fun hS=>en195 (by
 unfold vc195;refine LoopG0 (fun (p:Int × List UInt8) w'=>CarI p.2 p.1 total/\0 <= p.1/\p.2.length + p.1 <= 1000000/\∃ B' z',CarB cb ob p.1 p.2 B'/\Res w z _ w' z' ((pb,.cells [.func (.func 194) #[] #[.pointer (some ⟨cb,0,none⟩),.pointer (some ⟨ob,0,none⟩)]].toArray 159 (0,0)) :: B')) (fun p=>p.1.toNat) (carry,out) ⟨hi,h0,hl,B,z,hB,hS⟩ ?_;rintro I M ⟨c,l⟩ w2 m ⟨hi2,hc,hl2,B2,z2,hB2,hS2⟩ back
 simp only at hi2 hc hl2 hB2 hS2;clear hS;have hB3:=hB2;obtain ⟨v,Bb,rfl,ho⟩:=hB2;refine iV_ld1 ?_;refine V_run ?_;refine Cond_d (fun h=>?_) (fun h=>?_)
 ·refine iV_ld1 ?_
  refine CV_fn (B:=_) (F:=[_]) (hS2.bring ((cb,_) :: (ob,_) :: Bb)) (put_of (n:=0) hB3 (by omega) (by omega)) (by simp) ?_;rintro z4 B4 w4 v4 hz4 hS4 ⟨rfl,hB4⟩
  clear hS2;have hi4:=hi2.put 0;rw [Int.zero_mul,Int.add_zero] at hi4;have e0:(0:Int) + c = c:=Int.zero_add c;rw [e0] at hi4 hB4;refine back (c / 10,l ++ [UInt8.ofNat (48 + (c % 10).toNat)]) _ ⟨hi4,by simp only; omega,?_,B4,z4,hB4,hS4.perm (by first | exact List.perm_append_comm | simp [List.perm_append_comm] | simpa using List.perm_append_comm)⟩ (by simp only; omega);simp only [List.length_append,List.length_singleton];omega
 ·have hc0:c = 0:=by omega
  subst hc0;obtain ⟨a,cap,rfl,hcap⟩:=ho.form;refine iV_ld1 ?_;obtain ⟨z5,hz5,hS5,hv5⟩:=own_fz (hS2.bring Bb) ho (by simp only [big]; omega);clear hS2;refine CV_fn (B:=[]) (F:=_) hS5 (reversed_of hv5 (by omega)) (by simp) ?_;rintro z6 B6 w6 v6 hz6 hS6 ho6
  clear hS5;rw [<- List.length_reverse] at ho6;refine own_str hS6 ho6 (by rw [List.length_reverse]; simp only [big]; omega) ?_;intro z7 hz7 hS7;refine CV_pu ?_;intro z8 w8 hz8 hS8;refine ⟨_,_,hS8.drop,rfl,?_⟩;rw [stripB,bytes_mk,hi2.fin])
end
section
open Go Q Go.RowKit
abbrev putV (cb ob:Nat):Value:=.func (.func 194) #[] #[.pointer (some ⟨cb,0,none⟩),.pointer (some ⟨ob,0,none⟩)]
abbrev endV (cb pb ob:Nat):Value:=.func (.func 195) #[] #[.pointer (some ⟨cb,0,none⟩),.pointer (some ⟨pb,0,none⟩),.pointer (some ⟨ob,0,none⟩)]
abbrev pbO (cb ob:Nat):Obj:=.cells [putV cb ob].toArray 159 (0,0)
theorem carrier_of {z:Z} {w:World}:Fn 174 #[] z [] w fun _ B' r=>∃ cb pb ob B,r = .tuple #[putV cb ob,endV cb pb ob]/\B' = (pb,pbO cb ob) :: B/\CarB cb ob 0 [] B:=Fn.intro fun hS=>en174 (by
 unfold vc174;refine iV_al ?_;intro ob w1 hb1 hS1;clear hS;refine iV_al ?_;intro cb w2 hb2 hS2;clear hS1;refine iU_st ?_;intro w3 hS3;clear hS2;refine iV_al ?_;intro pb w4 hb4 hS4;clear hS3;refine iU_st ?_;intro w5 hS5;clear hS4;refine iV_ld1 ?_;exact ⟨_,_,hS5,cb,pb,ob,_,rfl,rfl,_,[],rfl,OwnSl.nil⟩)
end
section
open Go Q Go.RowKit
abbrev digV:Value:=.func (.func 197) #[] #[]
theorem columns_gen {z:Z} {w:World} {L:Bl} {b1 b2 b3:Nat} {yv:Value} {K:Value->World->Prop} {a b:ByteArray} (hS:Res w z L w z L)
  (g1:At z b1 0 [.string a]) (g2:At z b2 0 [.string b]) (g3:At z b3 0 [digV]) (ha:Dg (bytes a)) (hb:Dg (bytes b)) (hal:a.size <= 1000000) (hbl:b.size <= 1000000)
  (J:Nat->Z->Bl->Prop) (hm:∀ k z' z'' L',Le z' z''->J k z' L'->J k z'' L') (h0:J 0 z L)
  (body:∀ k z' w' L' (K':Value->World->Prop),k < max a.size b.size->Le z z'->Res w z L w' z' L'->J k z' L'->(∀ z'' w'' L'',Le z' z''->Res w z L w'' z'' L''->J (k + 1) z'' L''->K' (.bool true) w'')->CV yv #[.int .i64 (dgAt (bytes a) k),.int .i64 (dgAt (bytes b) k)] w' K')
  (hend:∀ z' w' L',Le z z'->Res w z L w' z' L'->J (max a.size b.size) z' L'->K (.tuple #[]) w') :
  CE (.func (.func 198) #[] #[.pointer (some ⟨b1,0,none⟩),.pointer (some ⟨b2,0,none⟩),.pointer (some ⟨b3,0,none⟩)]) #[yv] w K:=by
 refine CE_fn (args':=#[yv,.pointer (some ⟨b1,0,none⟩),.pointer (some ⟨b2,0,none⟩),.pointer (some ⟨b3,0,none⟩)]) (by simp) (en198 ?_);unfold vc198;haveI:Fz z b1 0 [.string a]:=⟨g1⟩
 haveI:Fz z b2 0 [.string b]:=⟨g2⟩
 haveI:Fz z b3 0 [digV]:=⟨g3⟩
 refine fV_ld1 ?_;refine V_run ?_;refine fV_ld1 ?_;refine V_run ?_;refine V_run ?_;refine LoopG1 (fun (k:Nat) x w'=>x = .int .i64 k/\k <= max a.size b.size/\∃ L' z',Le z z'/\J k z' L'/\Res w z L w' z' L') (fun k=>max a.size b.size - k) 0 ⟨rfl,Nat.zero_le _,L,z,Le.refl _,h0,hS⟩ ?_;rintro I M k x w2 m ⟨rfl,hk,L2,z2,hz2,hJ,hS2⟩ back
 clear hS;refine V_run ?_;refine Cond_d (fun h=>?_) (fun h=>?_)
 ·refine iDr ?_
  intro w3 hS3;clear hS2;refine fHV_ld1 ?_;refine fHV_ld1 ?_;refine fHV_ld1 ?_;refine fHV_ld1 ?_;refine CV_1 (digitV_of (i:=k) ha (by simp only [big]; omega)) ?_;rintro z4 w4 v4 hz4 hS4 rfl
  clear hS3;refine fRI_1 ?_;refine fRI_1 ?_;refine CV_1 (digitV_of (i:=k) hb (by simp only [big]; omega)) ?_;rintro z5 w5 v5 hz5 hS5 rfl
  clear hS4;refine body k z5 w5 _ _ (by omega) (by (repeat (first | assumption | exact Le.refl _ | exact Res.zle (by assumption) | refine Le.trans ?_ (by assumption:Le _ _)))) hS5 (hm _ _ _ _ (by (repeat (first | assumption | exact Le.refl _ | exact Res.zle (by assumption) | refine Le.trans ?_ (by assumption:Le _ _)))) hJ) ?_;intro z6 w6 L6 hz6 hS6 hJ6;clear hS5;refine PV_run ?_;refine Cond_f ?_;haveI:InI ((k:Int) + 1):=⟨by omega⟩
  refine V_run ?_;exact back (k + 1) _ _ ⟨by simp,by omega,L6,z6,by (repeat (first | assumption | exact Le.refl _ | exact Res.zle (by assumption) | refine Le.trans ?_ (by assumption:Le _ _))),hJ6,hS6⟩ (by omega)
 ·have:k = max a.size b.size:=by omega
  subst this;exact hend _ _ _ hz2 hS2 hJ
end
section
open Go Q Go.RowKit
abbrev colV (b1 b2 b3:Nat):Value:=.func (.func 198) #[] #[.pointer (some ⟨b1,0,none⟩),.pointer (some ⟨b2,0,none⟩),.pointer (some ⟨b3,0,none⟩)]
theorem freeze1 {w0 w:World} {z0 z:Z} {B0 L:Bl} {b:Nat} {vs:List Value} {t:TypeId} {fr:Nat × Nat} (h:Res w0 z0 B0 w z ((b,.cells vs.toArray t fr) :: L)):∃ z',Le z z'/\Res w0 z0 B0 w z' L/\At z' b 0 vs:=
 ⟨_,h.freeze_le,h.freeze,⟨_,_,_,if_pos rfl,fun j v hv=>by simpa using hv⟩⟩
theorem columns_of {z:Z} {w:World} {a b:ByteArray}:Fn1 175 #[.string a,.string b] z w fun z' r=>∃ b1 b2 b3,r = colV b1 b2 b3/\At z' b1 0 [.string a]/\At z' b2 0 [.string b]/\At z' b3 0 [digV]:=Fn1.intro fun hS=>en175 (by
 unfold vc175;refine iV_bx ?_;intro b1 w1 hb1 hS1;clear hS;refine iV_bx ?_;intro b2 w2 hb2 hS2;clear hS1;refine iV_al ?_;intro b3 w3 hb3 hS3;clear hS2;refine iU_st ?_;intro w4 hS4;clear hS3;obtain ⟨z5,hz5,hS5,g3⟩:=freeze1 hS4;obtain ⟨z6,hz6,hS6,g2⟩:=freeze1 hS5;obtain ⟨z7,hz7,hS7,g1⟩:=freeze1 hS6;exact ⟨_,_,hS7,b1,b2,b3,rfl,g1,g2.mono hz7,g3.mono (hz6.trans hz7)⟩)
end
section
open Go Q Go.RowKit
theorem sum_of {z:Z} {w:World} {a b:ByteArray} (ha:Dg (bytes a)) (hb:Dg (bytes b)) (hal:a.size <= 100000) (hbl:b.size <= 100000):Fn1 130 #[.string a,.string b] z w fun _ r=>r = .string (strB (digL (valL (bytes a) + valL (bytes b)))):=Fn1.intro fun hS=>en130 (by
 unfold vc130;generalize hRR:(fun (v:Value) (w':World)=>∃ z' L',Res w z [] w' z' L'/\v = .string (strB (digL (valL (bytes a) + valL (bytes b))))) = RR;have hR:∀ z' w' L' r,Res w z [] w' z' L'->r = .string (strB (digL (valL (bytes a) + valL (bytes b))))->RR r w':=fun z' w' L' r k e=>by rw [<- hRR]; exact ⟨_,_,k,e⟩
 clear hRR;refine CV_fn (B:=[]) (F:=[]) (by simpa using hS) carrier_of (by simp) ?_;rintro z1 B1 w1 v1 hz1 hS1 ⟨cb,pb,ob,B,rfl,rfl,hB⟩
 clear hS;refine V_run ?_;refine V_run ?_;refine iV_al ?_;intro b5 w5 hb5 hS5;clear hS1;refine iU_st ?_;intro w6 hS6;clear hS5;refine CV_1 columns_of ?_;rintro z7 w7 v7 hz7 hS7 ⟨b1,b2,b3,rfl,g1,g2,g3⟩
 clear hS6;intro lp r0 l0 w8 hnew hyp;have hS8:=hS7.rf hnew;clear hS7 hnew;have hO:=hS8.self;refine columns_gen hO g1 g2 g3 ha hb (by omega) (by omega)
  (fun k z' L'=>∃ carry out B,L' = (l0,lobj lp .ready none) :: (r0,.deferred (some [])) :: (b5,.cells [putV cb ob].toArray 159 (0,0)) :: (pb,pbO cb ob) :: B/\CarB cb ob carry out B/\CarI out carry (psum (fun j=>dgAt (bytes a) j + dgAt (bytes b) j) k)/\out.length = k/\0 <= carry/\carry <= 1)
  (fun _ _ _ _ _ h=>h) ⟨0,[],B,by simp,hB,CarI.nil,rfl,by omega,by omega⟩ ?_ ?_
 ·rintro k z9 w9 _ K' hk hz9 hS9 ⟨carry,out,B2,rfl,hB2,hi2,hlen,hc0,hc1⟩ back
  refine hyp _ _ _ _ ?_ (Res.at_ (b:=l0) hS9);refine iBegin ?_;intro w10 hS10;clear hS9;refine iV_ld1 ?_;have hr1:=dgAt_range ha k;have hr2:=dgAt_range hb k;haveI:InI (dgAt (bytes a) k + dgAt (bytes b) k):=⟨by omega⟩
  refine V_run ?_;refine CV_fn (B:=B2) (F:=_) (hS10.bring B2) (put_of (n:=dgAt (bytes a) k + dgAt (bytes b) k) hB2 (by omega) (by omega)) (by simp) ?_;rintro z11 B11 w11 v11 hz11 hS11 ⟨rfl,hB11⟩
  clear hS10;refine iEnd (st:=.busy) (pend:=none) ?_;intro w12 hS12;clear hS11;have hi3:=hi2.put (dgAt (bytes a) k + dgAt (bytes b) k);rw [hlen] at hi3;refine back z11 w12 _ hz11 (hS12.perm (List.perm_append_comm (l₁:=B11) (l₂:=[_,_,_,_]))) ⟨_,_,B11,rfl,hB11,hi3,by simp [hlen],by omega,by omega⟩
 ·rintro z9 w9 _ hz9 hS9 ⟨carry,out,B2,rfl,hB2,hi2,hlen,hc0,hc1⟩
  refine iRfEnd (st:=.ready) (by intro h; cases h) ?_;intro w10 hS10;clear hS9;have hmx:psum (fun j=>dgAt (bytes a) j + dgAt (bytes b) j) (max a.size b.size) = ((valL (bytes a) + valL (bytes b):Nat):Int):=by
   have e1:=size_bytes a;have e2:=size_bytes b;rw [psum_add,psum_dg ha (by omega),psum_dg hb (by omega)];omega
  rw [hmx] at hi2;refine CV_fn (B:=(pb,pbO cb ob) :: B2) (F:=_) (hS10.bring ((pb,pbO cb ob) :: B2)) (finish_of hB2 hi2 hc0 (by omega)) (by simp) ?_;rintro z11 B11 w11 v11 hz11 hS11 ⟨rfl,rfl⟩
  clear hS10;refine iTake ?_;intro w12 hS12;exact hR _ _ _ _ (hS8.comp hS12) (by rw [Int.toNat_natCast]))
end
section
open Go Q Go.RowKit
theorem difference_of {z:Z} {w:World} {a b:ByteArray} (ha:Dg (bytes a)) (hb:Dg (bytes b)) (hal:a.size <= 100000) (hbl:b.size <= 100000) (hle:valL (bytes b) <= valL (bytes a)):Fn1 140 #[.string a,.string b] z w fun _ r=>r = .string (strB (digL (valL (bytes a) - valL (bytes b)))):=Fn1.intro fun hS=>en140 (by
 unfold vc140;generalize hRR:(fun (v:Value) (w':World)=>∃ z' L',Res w z [] w' z' L'/\v = .string (strB (digL (valL (bytes a) - valL (bytes b))))) = RR;have hR:∀ z' w' L' r,Res w z [] w' z' L'->r = .string (strB (digL (valL (bytes a) - valL (bytes b))))->RR r w':=fun z' w' L' r k e=>by rw [<- hRR]; exact ⟨_,_,k,e⟩
 clear hRR;refine CV_fn (B:=[]) (F:=[]) (by simpa using hS) carrier_of (by simp) ?_;rintro z1 B1 w1 v1 hz1 hS1 ⟨cb,pb,ob,B,rfl,rfl,hB⟩
 clear hS;refine V_run ?_;refine V_run ?_;refine iV_al ?_;intro b5 w5 hb5 hS5;clear hS1;refine iU_st ?_;intro w6 hS6;clear hS5;refine CV_1 columns_of ?_;rintro z7 w7 v7 hz7 hS7 ⟨b1,b2,b3,rfl,g1,g2,g3⟩
 clear hS6;intro lp r0 l0 w8 hnew hyp;have hS8:=hS7.rf hnew;clear hS7 hnew;have hO:=hS8.self;refine columns_gen hO g1 g2 g3 ha hb (by omega) (by omega)
  (fun k z' L'=>∃ carry out B,L' = (l0,lobj lp .ready none) :: (r0,.deferred (some [])) :: (b5,.cells [putV cb ob].toArray 159 (0,0)) :: (pb,pbO cb ob) :: B/\CarB cb ob carry out B/\CarI out carry (psum (fun j=>dgAt (bytes a) j - dgAt (bytes b) j) k)/\out.length = k/\-1 <= carry/\carry <= 0)
  (fun _ _ _ _ _ h=>h) ⟨0,[],B,by simp,hB,CarI.nil,rfl,by omega,by omega⟩ ?_ ?_
 ·rintro k z9 w9 _ K' hk hz9 hS9 ⟨carry,out,B2,rfl,hB2,hi2,hlen,hc0,hc1⟩ back
  refine hyp _ _ _ _ ?_ (Res.at_ (b:=l0) hS9);refine iBegin ?_;intro w10 hS10;clear hS9;refine iV_ld1 ?_;have hr1:=dgAt_range ha k;have hr2:=dgAt_range hb k;haveI:InI (dgAt (bytes a) k - dgAt (bytes b) k):=⟨by omega⟩
  refine V_run ?_;refine CV_fn (B:=B2) (F:=_) (hS10.bring B2) (put_of (n:=dgAt (bytes a) k - dgAt (bytes b) k) hB2 (by omega) (by omega)) (by simp) ?_;rintro z11 B11 w11 v11 hz11 hS11 ⟨rfl,hB11⟩
  clear hS10;refine iEnd (st:=.busy) (pend:=none) ?_;intro w12 hS12;clear hS11;have hi3:=hi2.put (dgAt (bytes a) k - dgAt (bytes b) k);rw [hlen] at hi3;refine back z11 w12 _ hz11 (hS12.perm (List.perm_append_comm (l₁:=B11) (l₂:=[_,_,_,_]))) ⟨_,_,B11,rfl,hB11,hi3,by simp [hlen],by omega,by omega⟩
 ·rintro z9 w9 _ hz9 hS9 ⟨carry,out,B2,rfl,hB2,hi2,hlen,hc0,hc1⟩
  refine iRfEnd (st:=.ready) (by intro h; cases h) ?_;intro w10 hS10;clear hS9;have hmx:psum (fun j=>dgAt (bytes a) j - dgAt (bytes b) j) (max a.size b.size) = ((valL (bytes a) - valL (bytes b):Nat):Int):=by
   have e1:=size_bytes a;have e2:=size_bytes b;rw [psum_sub,psum_dg ha (by omega),psum_dg hb (by omega)];omega
  rw [hmx] at hi2;have hlt:valL (bytes a) < 10 ^ (bytes a).length:=val_lt _ ha;have hmx2:valL (bytes a) - valL (bytes b) < 10 ^ out.length:=Nat.lt_of_lt_of_le (by omega) (Nat.pow_le_pow_right (by decide) (by have e1:=size_bytes a; omega):10 ^ (bytes a).length <= 10 ^ out.length);have hz0:carry = 0:=hi2.none (by omega) (Int.ofNat_lt.2 hmx2);subst hz0;refine CV_fn (B:=(pb,pbO cb ob) :: B2) (F:=_) (hS10.bring ((pb,pbO cb ob) :: B2)) (finish_of hB2 hi2 (by omega) (by omega)) (by simp) ?_;rintro z11 B11 w11 v11 hz11 hS11 ⟨rfl,rfl⟩
  clear hS10;refine iTake ?_;intro w12 hS12;exact hR _ _ _ _ (hS8.comp hS12) (by rw [Int.toNat_natCast]))
end
section
open Go Q Go.RowKit
end
section
open Go Q Go.RowKit
theorem compare_cmpL:∀ (l m:List UInt8),Lib.compareBytes l m = cmpL l m
 | [],[]=>rfl
 | [],_ :: _=>rfl
 | _ :: _,[]=>rfl
 | c :: l,d :: m=>by
  unfold Lib.compareBytes cmpL;rw [compare_cmpL l m]
  rfl
instance:EntersX 212 Extern.BytealgCompare.compare:=⟨fun _ _=>by kernel_rfl⟩
instance {a b:ByteArray}:Pu 193 #[.string a,.string b] (.int .i64 (cmpL (bytes a) (bytes b))):=⟨fun z w=>Fn1.intro fun hS=>en193 (by
 unfold vc193;refine CV_x (Lib.run_compareString a b w) ?_;exact ⟨z,[],hS,by rw [compare_cmpL]⟩)⟩
instance {a b:ByteArray}:Pu 171 #[.string a,.string b] (.int .i64 (cmpL (bytes a) (bytes b))):=⟨fun z w=>Fn1.intro fun hS=>en171 (by
 unfold vc171;refine CV_pu ?_;intro z1 w1 hz1 hS1;exact ⟨_,_,hS1,rfl⟩)⟩
instance {a b:ByteArray}:Pu 129 #[.string a,.string b] (.int .i64 (ordL (bytes a) (bytes b))):=⟨fun z w=>Fn1.intro fun hS=>en129 (by
 unfold vc129;have h1:=size_bytes a;have h2:=size_bytes b;refine V_run ?_;refine V_run ?_;refine V_run ?_;refine Cond_n (fun h=>?_) (fun h=>?_)
 ·have h:(bytes a).length ≠ (bytes b).length:=by
   have h:¬ (a.size:Int) = b.size:=by simpa using h
   omega
  refine V_run ?_;refine V_run ?_;refine V_run ?_;refine Cond_d (fun h3=>?_) (fun h3=>?_)
  ·exact ⟨_,_,hS,by rw [ordL,if_neg h,if_pos (by omega)]⟩
  ·exact ⟨_,_,hS,by rw [ordL,if_neg h,if_neg (by omega)]⟩
 ·have h:(bytes a).length = (bytes b).length:=by
   have h:(a.size:Int) = b.size:=by simpa using h
   omega
  refine CV_pu ?_;intro z1 w1 hz1 hS1;exact ⟨_,_,hS1,by rw [ordL,if_pos h]⟩)⟩
end
section
open Go Q Go.RowKit
end
section
open Go Q Go.RowKit
abbrev NumM.cells (x:NumM):List Value:=[.bool x.neg,.string x.digits,.int .i64 x.exp]
abbrev NumM.v (x:NumM):Value:=.agg x.cells.toArray
def zeroM:NumM:=⟨false,b1 48,0⟩
instance:Pu 76 #[] zeroM.v:=⟨fun z w=>Fn1.intro fun hS=>en76 (by
 unfold vc76;(repeat (first | (refine iDr ?_; intro _ _) | refine V_run ?_ | refine PV_run ?_ | refine HV_run ?_ | refine iV_ld1 ?_ | refine iV_ldN ?_ | (refine iV_bx ?_; intro _ _ _ _) | (refine iV_al ?_; intro _ _ _ _) | (refine iV_mm ?_; intro _ _ _ _) | (refine iU_st ?_; intro _ _) | refine iHV_1 ?_ | refine iHV_N ?_ | refine iRI_1 ?_ | refine iRI_N ?_ | refine Cond_t ?_ | refine Cond_f ?_ | refine JB ?_ | (refine JC ?_; intro _ _ _ _) | (refine JGB ?_; intro _ _ _ _) | (refine J1 ?_; intro _ _) | (refine J0 ?_; intro _ _) | (refine J2 ?_; intro _ _) | (refine J3 ?_; intro _ _) | (refine J4 ?_; intro _ _) | refine K1 ?_ | refine K0 ?_ | refine K2 ?_ | refine K3 ?_ | refine K4 ?_ | (refine CV_pu ?_; intro _ _ _ _) | (refine CV_puz ?_; intro _ _ _ _) | refine fRI_1 ?_ | refine fRI_N ?_ | refine gHV_lkI ?_ | refine gRI_lkI ?_ | refine gV_lkI ?_ | refine fV_ldN ?_ | refine fV_ld1 ?_ | refine fHV_ldN ?_ | refine fHV_ld1 ?_ | refine NilW_some ?_ | refine iCW_1 ?_ | refine iCW_N ?_ | refine Pk_b ?_));exact ⟨_,_,‹_›,rfl⟩)⟩
end
section
open Go Q Go.RowKit
def oppM (x:NumM):NumM:=⟨bif !x.neg then !decide (x.digits = b1 48) else false,x.digits,x.exp⟩
end
section
open Go Q Go.RowKit
abbrev e0:ByteArray:=⟨#[]⟩
def joinW (p:ByteArray):List ByteArray->List UInt8
 | []=>[]
 | x :: r=>bytes x ++ r.flatMap fun y=>bytes p ++ bytes y
def joinB (p:ByteArray) (l:List ByteArray):ByteArray:=strB (joinW p l)
def sizes (l:List ByteArray):Nat:=(l.map (·.size)).sum
theorem mem_sizes {l:List ByteArray} {x:ByteArray} (h:x ∈ l):x.size <= sizes l:=by
 induction l with
 | nil=>cases h
 | cons a l ih=>
  simp only [sizes,List.map_cons,List.sum_cons]
  rcases List.mem_cons.1 h with rfl | h
  ·omega
  ·have:=ih h; simp only [sizes] at this; omega
theorem sizes_take (l:List ByteArray) (k:Nat) (h:k < l.length):sizes (l.take (k + 1)) = sizes (l.take k) + l[k].size:=by
 rw [sizes,sizes,List.take_succ_eq_append_getElem h,List.map_append,List.sum_append]; simp
theorem sizes_take_le (l:List ByteArray) (k:Nat):sizes (l.take k) <= sizes l:=by
 have h:sizes l = sizes (l.take k) + sizes (l.drop k):=by
  conv=>lhs; rw [<- List.take_append_drop k l]
  rw [sizes,List.map_append,List.sum_append]; rfl
 omega
theorem wFlat (p:ByteArray) (l:List ByteArray):(l.flatMap fun y=>bytes p ++ bytes y).length = l.length * p.size + sizes l:=by
 induction l with
 | nil=>simp [sizes]
 | cons a l ih=>rw [List.flatMap_cons,List.length_append,ih,List.length_append,<- size_bytes,<- size_bytes,List.length_cons,Nat.succ_mul]; simp only [sizes,List.map_cons,List.sum_cons]; omega
theorem join_of {z:Z} {w:World} {v:Value} {p:ByteArray} {l:List ByteArray} (hp:p.size <= 1000) (hv:SlR El.str z v l) (hn:l.length <= 1000) (hl:sizes l <= 1000000000) :
  Fn1 141 #[v,.string p] z w fun _ r=>r = .string (joinB p l):=Fn1.intro fun hS=>en141 (by
 unfold vc141;obtain ⟨_,a,cap,rfl,hcap,hel⟩:=hv.form;refine V_run ?_;refine V_run ?_;refine Cond_d (fun h=>?_) (fun h=>?_)
 ·have:l = []:=List.eq_nil_of_length_eq_zero (by omega)
  subst this;exact ⟨_,_,hS,rfl⟩
 refine V_run ?_;refine Cond_d (fun h1=>?_) (fun h1=>?_)
 ·obtain ⟨x,hx⟩:∃ x,l = [x]:=by
   cases l with
   | nil=>simp at h1
   | cons x r=>exact ⟨x,by rw [List.eq_nil_of_length_eq_zero (l:=r) (by simp only [List.length_cons] at h1; omega)]⟩
  subst hx;obtain ⟨b,off,cs,rfl,hr,hat⟩:=hel 0 x rfl;obtain ⟨rfl,_⟩:=hr;haveI:InR 0 (([x]:List ByteArray).length:Nat):=⟨by decide,by simp⟩
  refine V_run ?_;refine zV_ld1 (by simpa using hat) ?_;exact ⟨_,_,hS,by rw [joinB,joinW,List.flatMap_nil,List.append_nil,strB_bytes]⟩
 intro K hK;obtain ⟨x,r,rfl⟩:∃ x r,l = x :: r:=by
  cases l with
  | nil=>exact absurd rfl h
  | cons x r=>exact ⟨x,r,rfl⟩
 obtain ⟨b,off,cs,rfl,hr,hat⟩:=hel 0 x rfl;have hxr:sizes (x :: r) = x.size + sizes r:=by simp [sizes]
 have hlr:(x :: r).length = r.length + 1:=rfl;have hr0:0 < r.length:=by simp only [List.length_cons] at h1; omega
 rw [hlr] at hn hcap;have hrp:r.length * p.size <= 1000 * 1000:=Nat.mul_le_mul (by omega) hp;have main:K [.int .i64 (r.length * p.size:Nat)] w:=by
  refine hK _ _ fun _=>?_
  refine V_run ?_;refine LoopR2 (fun k u v=>v = .int .i64 (k:Nat)/\k <= (x :: r).length/\u = .int .i64 (r.length * p.size + sizes ((x :: r).take k):Nat)) (fun k=>(x :: r).length - k) 0 ⟨rfl,Nat.zero_le _,by simp [sizes]⟩ ?_;rintro I M k u v w1 z1 m ⟨rfl,hk,rfl⟩ hz1 hS1 back
  have hk2:=sizes_take_le (x :: r) k;refine V_run ?_;refine Cond_d (fun h2=>?_) (fun h2=>?_)
  ·have hk1:k < (x :: r).length:=by omega
   obtain ⟨cs1,hr1,hat1⟩:=hv.get (List.getElem?_eq_getElem hk1);obtain ⟨rfl,_⟩:=hr1;have hst:=sizes_take (x :: r) k hk1;have hst2:=sizes_take_le (x :: r) (k + 1);haveI:InR (k:Int) ((x :: r).length:Nat):=⟨by omega,by omega⟩
   haveI:InI ((k:Int) + 1):=⟨by omega⟩
   refine V_run ?_;refine zV_ld1 (hat1.mono hz1) ?_;intro K0 hK0;haveI:InI ((9223372036854775807:Int) - ((r.length * p.size + sizes ((x :: r).take k):Nat):Int)):=⟨by omega⟩
   refine V_run ?_;refine V_run ?_;refine V_run ?_;refine Cond_d (fun h3=>?_) (fun h3=>?_)
   ·omega
   refine hK0 _ fun _=>?_
   haveI:InI (((r.length * p.size + sizes ((x :: r).take k):Nat):Int) + (((x :: r)[k].size:Nat):Int)):=⟨by omega⟩
   refine V_run ?_;refine V_run ?_;refine V_run ?_;exact back (k + 1) _ _ _ _ ⟨by simp,by omega,by rw [hst]; congr 1; omega⟩ (Le.refl _) hS1 (by omega)
  ·have hk3:k = (x :: r).length:=by omega
   subst hk3;rw [List.take_length];have htot:r.length * p.size + sizes (x :: r) <= 2000000000:=by omega
   clear back;refine iV_al ?_;intro bb w2 hbb hS2;refine CV_fn (B:=[(bb,buO none (.slice none 0 0))]) (F:=[]) (by simpa using hS2) (growB (n:=((r.length * p.size + sizes (x :: r):Nat):Int)) (.inl rfl) (by omega) (by omega)) (by simp) ?_;rintro z3 B3 w3 v3 hz3 hS3 ⟨hB3,rfl⟩
   rw [List.append_nil] at hS3;haveI:InR 0 ((x :: r).length:Nat):=⟨by omega,by omega⟩
   obtain ⟨rfl,_⟩:=hr;have hz03:Le z z3:=hz1.trans hz3;refine V_run ?_;refine zV_ld1 (by simpa using hat.mono hz03) ?_;refine CV_fn (B:=B3) (F:=[]) (by simpa using hS3) (writeString (s:=x) hB3 (by simp only [List.length_nil,room]; omega)) (by simp) ?_;rintro z4 B4 w4 v4 hz4 hS4 ⟨hB4,rfl⟩
   rw [List.append_nil] at hS4;haveI:InR 1 ((((x :: r).length:Nat):Int) + 1):=⟨by omega,by omega⟩
   have hvd:SlR El.str z (.slice (some ⟨b,if cap = Int.toNat 1 then off else off + Int.toNat 1 * 1,none⟩) ((x :: r).length - Int.toNat 1) (cap - Int.toNat 1)) r:=hv.drop (s:=1) (k:=1) rfl (by omega);refine V_run ?_;have hdl:((((x :: r).length:Nat):Int) - 1).toNat = r.length:=by omega
   clear hS1 hS2 hS3 hK;generalize (if cap = Int.toNat 1 then off else off + Int.toNat 1 * 1) = off2 at hvd ⊢;generalize cap - Int.toNat 1 = cap2 at hvd ⊢;rw [show (x :: r).length - Int.toNat 1 = r.length from rfl] at hvd ⊢;have hz04:Le z z4:=hz03.trans hz4;rw [List.nil_append,Lib.strCells_eq] at hB4;refine V_run ?_;refine LoopG1 (fun (k:Nat) u w'=>u = .int .i64 k/\k <= r.length/\∃ B' z',Le z z'/\BuOk bb B' (Lib.byteCells (bytes x ++ (r.take k).flatMap fun y=>bytes p ++ bytes y))/\Res w z [] w' z' B') (fun k=>r.length - k) 0 ⟨rfl,Nat.zero_le _,B4,z4,hz04,by simpa using hB4,hS4⟩ ?_;rintro I M k u w5 m ⟨rfl,hk,B5,z5,hz5,hB5,hS5⟩ back
   clear hS4 hB4;have hlen:∀ j,(bytes x ++ (r.take j).flatMap fun y=>bytes p ++ bytes y).length <= 1002000000:=fun j=>by
    have h5:=sizes_take_le r j;have h6:min j r.length * p.size <= r.length * p.size:=Nat.mul_le_mul_right _ (Nat.min_le_right _ _);rw [List.length_append,wFlat,<- size_bytes,List.length_take];omega
   have hl5:=hlen k;refine V_run ?_;refine Cond_d (fun h6=>?_) (fun h6=>?_)
   ·have hk1:k < r.length:=by omega
    obtain ⟨cs1,hr1,hat1⟩:=hvd.get (List.getElem?_eq_getElem hk1);obtain ⟨rfl,_⟩:=hr1;have hst:=sizes_take r k hk1;have hst2:=sizes_take_le r (k + 1);haveI:InR (k:Int) (r.length:Nat):=⟨by omega,by omega⟩
    haveI:InI ((k:Int) + 1):=⟨by omega⟩
    refine V_run ?_;refine zV_ld1 (hat1.mono hz5) ?_;refine CV_fn (B:=B5) (F:=[]) (by simpa using hS5) (writeString (s:=p) hB5 (by rw [Lib.byteCells_length]; simp only [room]; omega)) (by simp) ?_;rintro z6 B6 w6 v6 hz6 hS6 ⟨hB6,rfl⟩
    rw [List.append_nil] at hS6;rw [Lib.strCells_eq,<- Lib.byteCells_append] at hB6;have hgs:r[k].size <= 1000000000:=by omega
    refine CV_fn (B:=B6) (F:=[]) (by simpa using hS6) (writeString (s:=r[k]) hB6 (by
     rw [Lib.byteCells_length,List.length_append];rw [<- size_bytes]; simp only [room]; omega)) (by simp) ?_
    rintro z7 B7 w7 v7 hz7 hS7 ⟨hB7,rfl⟩
    rw [List.append_nil] at hS7;rw [Lib.strCells_eq,<- Lib.byteCells_append] at hB7;refine V_run ?_;refine back (k + 1) _ _ ⟨by simp,by omega,B7,z7,(hz5.trans hz6).trans hz7,?_,hS7⟩ (by omega);rw [List.take_succ_eq_append_getElem hk1,List.flatMap_append,<- List.append_assoc];simp only [List.flatMap_cons,List.flatMap_nil,List.append_nil];rw [<- List.append_assoc];exact hB7
   ·have hk3:k = r.length:=by omega
    subst hk3;rw [List.take_length] at hB5 hl5;refine CV_fn (B:=B5) (F:=[]) (by simpa using hS5) (builderString hB5 (by simp only [room]; omega)) (by simp) ?_;rintro z8 B8 w8 v8 hz8 hS8 ⟨rfl,rfl⟩
    exact ⟨_,_,hS8,rfl⟩
 haveI:InI ((((x :: r).length:Nat):Int) - 1):=⟨by omega⟩
 haveI:InR 0 ((((x :: r).length:Nat):Int) - 1):=⟨by omega,by omega⟩
 have hdiv:(1000:Int) < Int.tdiv 9223372036854775807 ((((x :: r).length:Nat):Int) - 1):=by
  rw [Int.tdiv_eq_ediv_of_nonneg (by omega)];have h2:=Int.lt_ediv_add_one_mul_self 9223372036854775807 (b:=(((x :: r).length:Nat):Int) - 1) (by omega);have hd:(((x :: r).length:Nat):Int) - 1 <= 1000:=by omega
  have hd0:0 <= (((x :: r).length:Nat):Int) - 1:=by omega
  generalize (9223372036854775807:Int) / ((((x :: r).length:Nat):Int) - 1) = q at *;generalize (((x :: r).length:Nat):Int) - 1 = d at *
  apply Classical.byContradiction
  intro hq1;have:(q + 1) * d <= 1001 * d:=Int.mul_le_mul_of_nonneg_right (by omega) (by omega);omega
 haveI:InI (9223372036854775807:Int):=⟨by omega⟩
 refine V_run ?_;refine V_run ?_;refine Cond_d (fun h2=>?_) (fun h2=>?_)
 ·intro K1 hK1
  refine V_run ?_;refine V_run ?_;refine V_run ?_;refine V_run ?_;refine V_run ?_;refine Cond_d (fun h3=>?_) (fun h3=>?_)
  ·exfalso
   omega
  refine hK1 _ fun _=>?_
  have e1:(p.size:Int) * ((((x :: r).length:Nat):Int) - 1) = ((r.length * p.size:Nat):Int):=by
   rw [hlr,show ((r.length + 1:Nat):Int) - 1 = (r.length:Int) by omega,Int.natCast_mul,Int.mul_comm]
  haveI:InI ((p.size:Int) * ((((x :: r).length:Nat):Int) - 1)):=⟨by rw [e1]; omega⟩
  haveI:InI (0 + (p.size:Int) * ((((x :: r).length:Nat):Int) - 1)):=⟨by rw [e1]; omega⟩
  refine V_run ?_;refine V_run ?_;refine V_run ?_;refine V_run ?_;refine V_run ?_;rw [e1,Int.zero_add];exact main
 ·have h0:p.size = 0:=by omega
  have e1:(0:Int) = ((r.length * p.size:Nat):Int):=by rw [h0]; rfl
  rw [e1];exact main)
theorem joined_of {z:Z} {w:World} {v:Value} {l:List ByteArray} (hv:SlR El.str z v l) (hn:l.length <= 1000) (hl:sizes l <= 1000000000) :
  Fn1 78 #[v] z w fun _ r=>r = .string (joinB e0 l):=Fn1.intro fun hS=>en78 (by
 unfold vc78;refine CV_1 (join_of (p:=e0) (by decide) hv hn hl) ?_;rintro z1 w1 v1 hz1 hS1 rfl
 exact ⟨_,_,hS1,rfl⟩)
theorem map_flatS:∀ l:List ByteArray,(l.map fun x=>Value.string x) = l.flatMap fun x=>[Value.string x]
 | []=>rfl
 | a :: l=>by rw [List.map_cons,List.flatMap_cons,map_flatS l]; rfl
theorem V_strs {w0 w:World} {z0 z:Z} {B0 L:Bl} {K:Value->World->Prop} {t k n:Nat} {parts:List (Nat × Value)} {out:List Value} [hS:Res w0 z0 B0 w z L] [g:TySlice t 9 1] [gz:TyFill 9 1] [gf:FillS 1 0 parts out n] (l:List ByteArray) (ho:out = l.map fun x=>Value.string x) (hn:k = n) (hsz:n <= 1000) (hl:sizes l <= 1000000000)
  (hk:∀ v z',Le z z'->∀ w',Res w0 z0 B0 w' z' L->SlR El.str z' v l->K v w'):V (bs t k parts.toArray) w K:=by
 refine V_bs hn (by omega) ?_;intro b w1 hb hS1;have hfl:out = l.flatMap fun x=>[Value.string x]:=by rw [ho]; exact map_flatS l
 have hlen:out.length = n:=by obtain ⟨h1,h2,_⟩:=gf.h; omega
 have hll:l.length = n:=by rw [<- hlen,ho,List.length_map]
 obtain ⟨z2,hz2,hS2,hv⟩:=Res.freezeSl (E:=El.str) (e:=9) (B:=[(b,_)]) (L:=L) (v:=.slice (some ⟨b,0,none⟩) l.length n) (xs:=l) (f:=fun x=>[Value.string x]) hS1 ⟨by rw [<- hfl,hlen,hll]; exact (Nat.mul_one _).symm,.inr ⟨b,n,[],by rw [<- hfl,List.append_nil],rfl,by omega,by simp only [maxLen]; omega,by rw [<- hfl,List.append_nil,hlen]; exact (Nat.mul_one _).symm⟩⟩ (by simp only [big]; omega) (fun _=>rfl) (fun z x hx=>⟨rfl,by have:=mem_sizes hx; simp only [big]; omega⟩);rw [hll] at hv;exact hk _ _ hz2 _ hS2 hv
theorem V_cat {w0 w:World} {z0 z:Z} {B0 L:Bl} {K:Value->World->Prop} [hS:Res w0 z0 B0 w z L] {t k n:Nat} {parts:List (Nat × Value)} {out:List Value} [g:TySlice t 9 1] [gz:TyFill 9 1] [gf:FillS 1 0 parts out n] (l:List ByteArray) (ho:out = l.map fun x=>Value.string x) (hn:k = n) (hsz:n <= 1000) (hl:sizes l <= 1000000000)
  (hk:∀ z' w',Le z z'->Res w0 z0 B0 w' z' L->K (.string (joinB e0 l)) w'):V (bs t k parts.toArray) w fun t w=>CV (.func (.func 78) #[] #[]) #[t] w K:=by
 refine V_strs l ho hn hsz hl ?_;intro v z2 hz2 w2 hS2 hv;have hll:l.length = n:=by
  obtain ⟨h1,h2,_⟩:=gf.h;have h3:out.length = l.length:=by rw [ho,List.length_map]
  omega
 refine CV_1 (joined_of hv (by omega) hl) ?_;rintro z3 w3 v3 hz3 hS3 rfl
 exact hk _ _ (hz2.trans hz3) hS3
end
section
open Go Q Go.RowKit
theorem getD_set {S:List Int} {i j:Nat} {v:Int} (h:i < S.length):(S.set i v).getD j 0 = if j = i then v else S.getD j 0:=by
 simp only [List.getD_eq_getElem?_getD]
 by_cases hj:j = i
 ·subst hj
  rw [List.getElem?_set_self h,if_pos rfl]; rfl
 ·rw [List.getElem?_set_ne (fun e=>hj e.symm),if_neg hj]
theorem psum_set {S:List Int} {i n:Nat} {v:Int} (h:i < S.length) (hn:i < n):psum (fun j=>(S.set i (S.getD i 0 + v)).getD j 0) n = psum (fun j=>S.getD j 0) n + v * tenI i:=by
 rw [<- psum_upd (fun j=>S.getD j 0) i v n hn];exact psum_congr fun j _=>by
  rw [getD_set h]
  by_cases hj:j = i
  ·rw [if_pos hj,if_pos hj,hj]
  ·rw [if_neg hj,if_neg hj]
theorem tenI_add (i k:Nat):tenI (i + k) = tenI i * tenI k:=by
 unfold tenI;rw [Nat.pow_add,Int.natCast_mul]
structure PrI (la lb:List UInt8) (i k:Nat) (S:List Int):Prop where
 len:S.length = la.length + lb.length
 nn:∀ m,0 <= S.getD m 0
 hi:∀ m,S.getD m 0 <= 81 * (i + 1)
 lo:∀ m,i + k <= m->S.getD m 0 <= 81 * i
 sum:psum (fun m=>S.getD m 0) (la.length + lb.length) = psum (dgAt la) i * valL lb + dgAt la i * tenI i * psum (dgAt lb) k
theorem PrI.nil (la lb:List UInt8):PrI la lb 0 0 (List.replicate (la.length + lb.length) 0):=by
 have h:∀ m,(List.replicate (la.length + lb.length) (0:Int)).getD m 0 = 0:=fun m=>by
  rw [List.getD_eq_getElem?_getD,List.getElem?_replicate]
  split <;> rfl
 refine ⟨by rw [List.length_replicate],fun m=>by rw [h]; omega,fun m=>by rw [h]; omega,fun m _=>by rw [h]; omega,?_⟩;rw [psum_congr (g:=fun _=>0) fun j _=>h j,psum_zero,psum,psum,Int.zero_mul,Int.mul_zero]
 rfl
theorem mul_dg {la lb:List UInt8} (ha:Dg la) (hb:Dg lb) (i k:Nat):0 <= dgAt la i * dgAt lb k/\dgAt la i * dgAt lb k <= 81:=by
 have h1:=dgAt_range ha i;have h2:=dgAt_range hb k;refine ⟨Int.mul_nonneg h1.1 h2.1,?_⟩
 calc dgAt la i * dgAt lb k <= 9 * dgAt lb k:=Int.mul_le_mul_of_nonneg_right h1.2 h2.1
  _ <= 9 * 9:=Int.mul_le_mul_of_nonneg_left h2.2 (by omega)
  _ = 81:=rfl
theorem PrI.step {la lb:List UInt8} {i k:Nat} {S:List Int} (h:PrI la lb i k S) (ha:Dg la) (hb:Dg lb) (hi:i < la.length) (hk:k < lb.length) :
  PrI la lb i (k + 1) (S.set (i + k) (S.getD (i + k) 0 + dgAt la i * dgAt lb k)):=by
 have hl:i + k < S.length:=by rw [h.len]; omega
 have hm:=mul_dg ha hb i k;have h1:=h.lo (i + k) (Nat.le_refl _);refine ⟨by rw [List.length_set,h.len],fun m=>?_,fun m=>?_,fun m hm=>?_,?_⟩
 ·rw [getD_set hl]
  have:=h.nn m;have:=h.nn (i + k)
  split <;> omega
 ·rw [getD_set hl]
  have:=h.hi m
  split <;> omega
 ·rw [getD_set hl,if_neg (by omega)]
  exact h.lo m (by omega)
 ·rw [psum_set hl (by omega),h.sum,psum,tenI_add,Int.mul_add]
  have:dgAt la i * dgAt lb k * (tenI i * tenI k) = dgAt la i * tenI i * (dgAt lb k * tenI k):=by
   simp only [Int.mul_assoc,Int.mul_left_comm,Int.mul_comm]
  omega
theorem PrI.next {la lb:List UInt8} {i:Nat} {S:List Int} (h:PrI la lb i lb.length S) (hb:Dg lb):PrI la lb (i + 1) 0 S:=by
 refine ⟨h.len,h.nn,fun m=>by have:=h.hi m; omega,fun m _=>by have:=h.hi m; omega,?_⟩;rw [h.sum,psum_val _ hb]
 show _ = (psum (dgAt la) i + dgAt la i * tenI i) * _ + _ * 0
 rw [Int.add_mul,Int.mul_zero,Int.add_zero]
theorem PrI.fin {la lb:List UInt8} {S:List Int} (h:PrI la lb la.length 0 S) (ha:Dg la):psum (fun m=>S.getD m 0) (la.length + lb.length) = ((valL la * valL lb:Nat):Int):=by
 rw [h.sum,psum_val _ ha,psum,Int.mul_zero,Int.add_zero,Int.natCast_mul]
theorem pr_carry {n c:Int} {L:Nat} (hn:0 <= n) (hn2:n <= 81 * (L + 1)) (hc:0 <= c) (hc2:c <= 9 * (L + 1)):0 <= (n + c) / 10/\(n + c) / 10 <= 9 * (L + 1):=by
 omega
structure DivI (la:List UInt8) (B i:Nat) (q:List UInt8) (R:Nat):Prop where
 dg:Dg q
 lt:R < B
 eq:valL (la.take i) = valL q * B + R
theorem take_val {la:List UInt8} {i:Nat} (hi:i < la.length):valL (la.take (i + 1)) = 10 * valL (la.take i) + (la[i].toNat - 48):=by
 rw [List.take_succ_eq_append_getElem hi,valL_snoc]
theorem DivI.step {la:List UInt8} {B i R:Nat} {q:List UInt8} (h:DivI la B i q R) (ha:Dg la) (hi:i < la.length) {n R':Nat} (hR:R' < B) (he:10 * R + (la[i].toNat - 48) = n * B + R') :
  n < 10/\DivI la B (i + 1) (q ++ [UInt8.ofNat (48 + n)]) R':=by
 have hd:=ha _ (List.getElem_mem hi);have hn:n < 10:=by
  have h1:=h.lt
  apply Classical.byContradiction
  intro hc;have:10 * B <= n * B:=Nat.mul_le_mul_right _ (by omega);omega
 refine ⟨hn,h.dg.app (Dg.one hn),hR,?_⟩;rw [take_val hi,h.eq,valL_snoc,dg_nat hn,Nat.add_mul];have:10 * (valL q * B) = 10 * valL q * B:=by rw [Nat.mul_assoc]
 have e2:48 + n - 48 = n:=by omega
 rw [e2];omega
theorem DivI.fin {la:List UInt8} {B R:Nat} {q:List UInt8} (h:DivI la B la.length q R):valL q = valL la / B/\R = valL la % B:=by
 have:=h.eq;rw [List.take_length] at this;exact div_end this h.lt
theorem DivI.nil {la:List UInt8} {B k:Nat} (ha:Dg la) (h:valL (la.take k) < B):DivI la B k [] (valL (la.take k)):=⟨Dg.nil,h,by
 show _ = 0 * B + _
 omega⟩
theorem head_lt {la:List UInt8} {B k:Nat} (ha:Dg la) (hB:0 < B) (hk:k <= lenD B - 1):valL (la.take k) < B:=by
 have h1:=val_lt _ (ha.take k);have h2:=ge_lenD hB;have h3:(la.take k).length <= lenD B - 1:=by rw [List.length_take]; omega
 have h4:10 ^ (la.take k).length <= 10 ^ (lenD B - 1):=Nat.pow_le_pow_right (by omega) h3;omega
end
section
open Go Q Go.RowKit
structure Bn (n:Nm) (k:Nat):Prop where
 c:n.C
 len:lenD n.m <= k
 lo:-(k:Int) <= n.e
 hi:n.e <= (k:Int)
theorem Bn.mono {n:Nm} {k l:Nat} (h:Bn n k) (hl:k <= l):Bn n l:=⟨h.c,by have:=h.len; omega,by have:=h.lo; omega,by have:=h.hi; omega⟩
theorem bn_nz {k:Nat} (hk:0 < k):Bn nz k:=⟨C_nz,by show lenD 0 <= k; rw [lenD_small (by omega)]; exact hk,by show -(k:Int) <= 0; omega,by show (0:Int) <= k; omega⟩
theorem bn_one {k:Nat} (hk:0 < k):Bn oneN k:=⟨C_one,by show lenD 1 <= k; rw [lenD_small (by omega)]; exact hk,by show -(k:Int) <= 0; omega,by show (0:Int) <= k; omega⟩
theorem bn_ok {n:Nm} (h:OkN n):Bn n 2000:=by
 have h1:=h.len;have h2:=h.fit;refine ⟨h.c,by omega,?_,?_⟩
 ·by_cases h0:n.m = 0
  ·rw [h.c h0]; decide
  ·unfold fitsN adjN at h2
   simp only [h0,decide_false,Bool.false_or,Bool.and_eq_true,decide_eq_true_eq] at h2;omega
 ·by_cases h0:n.m = 0
  ·rw [h.c h0]; decide
  ·have:=lenD_pos n.m
   unfold fitsN adjN at h2;simp only [h0,decide_false,Bool.false_or,Bool.and_eq_true,decide_eq_true_eq] at h2;omega
theorem ok_round {n:Nm} {d:Nat} (hd:0 < d) (h:OkN n) (hf:fitsN (roundN n d) = true):OkN (roundN n d):=by
 refine ⟨C_round hd h.c,?_,hf⟩
 by_cases hl:lenD n.m <= d
 ·rw [round_id hl]; exact h.len
 ·have:=round_len (n:=n) hd
  have:=h.len;omega
theorem bn_round {n:Nm} {k d:Nat} (hd:0 < d) (h:Bn n k):Bn (roundN n d) (2 * k + 1):=by
 have h1:=h.len;have h2:=h.lo;have h3:=h.hi;have h5:=round_exp n d;refine ⟨C_round hd h.c,?_,by omega,?_⟩
 ·by_cases hl:lenD n.m <= d
  ·rw [round_id hl]; omega
  ·have:=round_len (n:=n) hd
   omega
 ·by_cases hl:lenD n.m <= d
  ·rw [round_id hl]; omega
  ·rw [round_big (by omega)]
   split
   ·show n.e + ((lenD n.m - d:Nat):Int) <= _; omega
   ·show n.e + ((lenD n.m - d:Nat):Int) + 1 <= _; omega
theorem bn_mk {s:Bool} {m:Nat} {e:Int} {k:Nat} (hk:0 < k) (h:lenD m <= k) (h1:-(k:Int) <= e) (h2:e <= (k:Int)):Bn (mkN s m e) k:=by
 refine ⟨C_mk _ _ _,by rw [mk_m]; exact h,?_,?_⟩ <;> (unfold mkN; split)
 ·show -(k:Int) <= 0; omega
 ·exact h1
 ·show (0:Int) <= k; omega
 ·exact h2
theorem bn_neg {n:Nm} {k:Nat} (hk:0 < k) (h:Bn n k):Bn (negN n) k:=bn_mk hk h.len h.lo h.hi
theorem lenD_tens (m k:Nat):lenD (m * 10 ^ k) <= lenD m + k:=by
 by_cases h:m = 0
 ·subst h; rw [Nat.zero_mul]; omega
 ·rw [lenD_shift (by omega)]; omega
theorem lenD_add (a b:Nat):lenD (a + b) <= max (lenD a) (lenD b) + 1:=by
 refine lenD_lt (by omega) ?_;have h1:=lt_lenD a;have h2:=lt_lenD b;have h3:10 ^ lenD a <= 10 ^ max (lenD a) (lenD b):=Nat.pow_le_pow_right (by omega) (Nat.le_max_left _ _);have h4:10 ^ lenD b <= 10 ^ max (lenD a) (lenD b):=Nat.pow_le_pow_right (by omega) (Nat.le_max_right _ _);rw [Nat.pow_succ];omega
theorem bn_up {n:Nm} {k:Nat} {E:Int} (h:Bn n k) (hE:-(k:Int) <= E):lenD (upN n E) <= 3 * k:=by
 have h1:=lenD_tens n.m (n.e - E).toNat;have h2:=h.len;have h3:=h.hi;unfold upN;omega
theorem bn_added {a b:Nm} {k:Nat} (hk:0 < k) (ha:Bn a k) (hb:Bn b k):Bn (addedN a b) (3 * k + 1):=by
 have h1:=ha.lo;have h2:=hb.lo;have h3:=ha.hi;have h4:=hb.hi;have u1:=bn_up (E:=min a.e b.e) ha (by omega);have u2:=bn_up (E:=min a.e b.e) hb (by omega);unfold addedN
 split
 ·refine bn_mk (by omega) ?_ (by omega) (by omega)
  have:=lenD_add (upN a (min a.e b.e)) (upN b (min a.e b.e));omega
 ·split
  ·refine bn_mk (by omega) ?_ (by omega) (by omega)
   have:=lenD_mono (Nat.sub_le (upN a (min a.e b.e)) (upN b (min a.e b.e)));omega
  ·refine bn_mk (by omega) ?_ (by omega) (by omega)
   have:=lenD_mono (Nat.sub_le (upN b (min a.e b.e)) (upN a (min a.e b.e)));omega
theorem bn_plus {a b:Nm} {k:Nat} (hk:0 < k) (ha:Bn a k) (hb:Bn b k):Bn (plusN a b) (3 * k + 1):=by
 unfold plusN
 split
 ·exact hb.mono (by omega)
 ·split
  ·exact ha.mono (by omega)
  ·exact bn_added hk ha hb
theorem bn_mul {a b:Nm} {k l:Nat} (hk:0 < k + l) (ha:Bn a k) (hb:Bn b l):Bn (mulN a b) (k + l):=by
 have h1:=ha.lo;have h2:=hb.lo;have h3:=ha.hi;have h4:=hb.hi;have h5:=ha.len;have h6:=hb.len;have h7:=lenD_mul a.m b.m;exact bn_mk hk (by omega) (by omega) (by omega)
theorem bn_pow {a:Nm} {k:Nat} (ha:Bn a k):∀ j,Bn (powN a j) (j * k + 1)
 | 0=>by rw [Nat.zero_mul]; exact bn_one (by omega)
 | j + 1=>by
  have:=bn_mul (by omega) (bn_pow ha j) ha;exact this.mono (by rw [Nat.succ_mul]; omega)
theorem dig0_iff {m:Nat}:digL m = [48] ↔ m = 0:=⟨fun h=>digL_inj (by rw [h,digL_0]),fun h=>by rw [h,digL_0]⟩
theorem fin_bn {n m:Nm} {d k:Nat} (hd:0 < d) (h:Bn n k) (hf:finN n d = .ok m):m = roundN n d/\fitsN m = true/\lenD m.m <= d/\m.C:=by
 unfold finN at hf
 split at hf
 ·rename_i h1
  cases hf
  exact ⟨rfl,h1,round_len hd,C_round hd h.c⟩
 ·cases hf
theorem nm_zero {x:NumM} (h:x.digits.data.toList = [48]):(nmOf x).isSome = (!x.neg && decide (x.exp = 0)):=by
 have e:valL [48] = 0:=rfl;have e2:dgOk [48] = true:=rfl;unfold nmOf;rw [h]
 by_cases h1:x.neg = false/\x.exp = 0
 ·rw [if_pos ⟨e2,by decide,.inl ⟨e,h1.1,h1.2⟩⟩,h1.1,h1.2]; rfl
 ·rw [if_neg]
  ·cases hn:x.neg with
   | true=>rfl
   | false=>
    have:¬ x.exp = 0:=fun h2=>h1 ⟨hn,h2⟩
    simp [this]
  ·rintro ⟨_,_,h2 | h2⟩
   ·exact h1 h2.2
   ·exact h2.1 e
theorem nm_else {x:NumM} (h:x.digits.data.toList ≠ [48]):(nmOf x).isSome = (decide (x.digits.data.toList.length <= 1000) && dgOk x.digits.data.toList && (decide (-999 <= x.exp + (x.digits.data.toList.length:Int) - 1) && decide (x.exp + (x.digits.data.toList.length:Int) - 1 <= 999))):=by
 unfold nmOf;generalize x.digits.data.toList = l at *
 cases hd:dgOk l with
 | false=>rw [if_neg (by simp)]; simp
 | true=>
  obtain ⟨g1,g2,g3⟩:=dgOk_iff.1 hd;obtain ⟨hv,hp⟩:=digL_val g2 g1 g3;have hp:=hp h;have hl:lenD (valL l) = l.length:=by show (digL _).length = _; rw [hv]
  have hf:fitsN ⟨x.neg,valL l,x.exp⟩ = (decide (-999 <= x.exp + (l.length:Int) - 1) && decide (x.exp + (l.length:Int) - 1 <= 999)):=by
   unfold fitsN adjN;simp only [hl];have:¬ valL l = 0:=by omega
   simp [this]
  rw [hf]
  by_cases h1:l.length <= 1000
  ·by_cases h2:(decide (-999 <= x.exp + (l.length:Int) - 1) && decide (x.exp + (l.length:Int) - 1 <= 999)) = true
   ·rw [if_pos ⟨rfl,h1,.inr ⟨by omega,h2⟩⟩,h2]
    simp [h1]
   ·rw [if_neg]
    ·simp only [Bool.not_eq_true] at h2
     rw [h2]; simp
    ·rintro ⟨_,_,h3 | h3⟩
     ·exact absurd h3.1 (by omega)
     ·exact h2 h3.2
  ·rw [if_neg (fun h2=>h1 h2.2.1)]
   simp [h1]
end
section
open Go Q Go.RowKit
abbrev blanks (k:Nat):List UInt8:=List.replicate k 32
def stripBl (l:List UInt8):List UInt8:=((l.reverse.dropWhile (· == 32)).reverse).dropWhile (· == 32)
def padTo (l:List UInt8) (n:Nat):List UInt8:=l ++ blanks (n - l.length)
def strC (a b:List UInt8):Int:=
 cmpL (padTo (stripBl a) (max (stripBl a).length (stripBl b).length)) (padTo (stripBl b) (max (stripBl a).length (stripBl b).length))
def readO (l:List UInt8):Option Nm:=if 1000 < l.length then none else readL l
def arIx (op:List UInt8):Option Nat:=
 if op = [43] then some 0 else if op = [45] then some 1 else if op = [42] then some 2 else if op = [47] then some 3 else if op = [37] then some 4 else if op = [47,47] then some 5 else if op = [42,42] then some 6 else none
def cmIx (op:List UInt8):Option Nat:=
 if op = [61] then some 0 else if op = [92,61] then some 1 else if op = [62] then some 2 else if op = [60] then some 3 else if op = [62,61] then some 4 else if op = [60,61] then some 5 else none
def holdsN (k:Nat) (n:Int):Bool:=
 if k = 0 then decide (n = 0) else if k = 1 then !decide (n = 0) else if k = 2 then decide (0 < n) else if k = 3 then decide (n < 0) else if k = 4 then decide (0 <= n) else decide (n <= 0)
def powNR (x y:Nm) (d:Int):ResN:=match intR y.num d with
 | .error e=>.error e
 | .ok n=>if n < -100 \/ 100 < n then .error 8 else powR x.num n d
def divNR (x y:NumM) (d:Int):ResN:=match divR x y d with
 | .error e=>.error e
 | .ok p=>.ok p.1
def calcR (k:Nat) (x y:Nm) (d:Int):ResN:=
 if k = 0 then addR x.num y.num d else if k = 1 then subR x.num y.num d else if k = 2 then mulR x.num y.num d else if k = 3 then divNR x.num y.num d
 else if k = 4 then idivR x.num y.num d else if k = 5 then remR x.num y.num d else powNR x y d
def codeE (e:Int):Int:=if e = 10 then 26 else 42
structure OpOut where
 s:List UInt8
 code:Int
 e:Int
def truthL (b:Bool):List UInt8:=if b = true then [49] else [48]
def opR (op a b:List UInt8) (s:SetM):OpOut:=
 if setOk s = false then ⟨[],0,1⟩ else
 match cmIx op with
 | some k=>(match readO a,readO b with
  | some x,some y=>(match cmpR x.num y.num s with
   | .error e=>⟨[],codeE e,0⟩
   | .ok n=>⟨truthL (holdsN k n),0,0⟩)
  | _,_=>⟨truthL (holdsN k (strC a b)),0,0⟩)
 | none=>match arIx op with
  | none=>⟨[],0,1⟩
  | some k=>(match readO a,readO b with
   | some x,some y=>(match calcR k x y s.digits with
    | .error e=>⟨[],codeE e,0⟩
    | .ok n=>⟨toldL n s,0,0⟩)
   | _,_=>⟨[],41,0⟩)
theorem cm_ar {op:List UInt8} {k:Nat} (h:cmIx op = some k):arIx op = none:=by
 unfold cmIx at h;unfold arIx;(repeat' split at h) <;> first | (cases h; done) | (subst op; rfl) | (rename_i h1; rw [h1]; rfl)
end
section
open Go Q Go.RowKit
abbrev u0:Value:=.int .u8 0
theorem ms_rep (v:Value) (n:Nat):((List.range (n * 1)).map fun i=>[v][i % [v].length]!) = List.replicate n v:=by
 rw [Nat.mul_one];refine List.eq_replicate_iff.2 ⟨by simp,fun x hx=>?_⟩;obtain ⟨i,_,rfl⟩:=List.mem_map.1 hx;simp [Nat.mod_one]
section
variable {w0 w:World} {z0 z:Z} {B0 L:Bl} {C:Obj->Bl}
end
theorem tens_le {i k:Nat} (h:i <= k):(10:Nat) ^ i <= 10 ^ k:=Nat.pow_le_pow_right (by omega) h
end
section
open Go Q Go.RowKit
abbrev rowV (S:List Int):List Value:=S.map fun x=>Value.int .i64 x
abbrev rowO (S:List Int):Obj:=.cells (rowV S).toArray 3 (0,0)
theorem rowV_get {S:List Int} {i:Nat} (h:i < S.length):Get (rowV S) i (.int .i64 (S.getD i 0)):=⟨by
 rw [List.getElem?_map,List.getElem?_eq_getElem h,List.getD_eq_getElem?_getD,List.getElem?_eq_getElem h]; rfl⟩
theorem rowV_set {S:List Int} {i:Nat} {v:Int} (h:i < S.length):SetN (rowV S) i [.int .i64 v] (rowV (S.set i v)):=by
 have:=SetN.at_ (l:=rowV S) (k:=i) (u:=.int .i64 v) (by rw [List.length_map]; exact h);have e:rowV (S.set i v) = (rowV S).set i (.int .i64 v):=List.map_set;rw [e];exact this
class D57 (x:Int):Prop where
 h:48 <= x/\x <= 57
instance {x:Int} [h:D57 x]:Run (bi .sub 5 (.int .u8 x) (.int .u8 48)) (.int .u8 (x - 48)):=⟨fun w=>by
 have g:∀ d:Fin 10,IntKind.u8.wrap ((d.val:Nat):Int) = ((d.val:Nat):Int):=by decide
 have hh:=h.h;have:=g ⟨(x - 48).toNat,by omega⟩;simp only at this;rw [Int.toNat_of_nonneg (by omega)] at this;simp [bi,binOp,Op.intArith,this]⟩
theorem dig_bt {s:ByteArray} {k:Nat} (hd:Dg (bytes s)) (hk:k < s.size):bt s ((s.size:Int) - 1 - (k:Int)) = dgAt (bytes s) k + 48:=by
 have hsz:=size_bytes s;have hkl:(bytes s).length - 1 - k < (bytes s).length:=by omega
 have hg:(bytes s)[(bytes s).length - 1 - k]? = some (bytes s)[(bytes s).length - 1 - k]:=List.getElem?_eq_getElem hkl;rw [show (s.size:Int) - 1 - (k:Int) = (((bytes s).length - 1 - k:Nat):Int) by omega,bt_get hg,dgAt,if_pos (by omega),List.getD_eq_getElem?_getD,hg,Option.getD_some];omega
theorem wrap_dg {x:Int} (h0:0 <= x) (h1:x <= 9):IntKind.i64.wrap (x + 48 - 48) = x:=by
 rw [Int.add_sub_cancel];exact wrap_in (by unfold inI; omega)
theorem product_of {z:Z} {w:World} {a b:ByteArray} (ha:Dg (bytes a)) (hb:Dg (bytes b)) (hal:a.size <= 60000) (hbl:b.size <= 60000):Fn1 131 #[.string a,.string b] z w fun _ r=>r = .string (strB (digL (valL (bytes a) * valL (bytes b)))):=Fn1.intro fun hS=>en131 (by
 unfold vc131;generalize hRR:(fun (v:Value) (w':World)=>∃ z' L',Res w z [] w' z' L'/\v = .string (strB (digL (valL (bytes a) * valL (bytes b))))) = RR;have hR:∀ z' w' L' r,Res w z [] w' z' L'->r = .string (strB (digL (valL (bytes a) * valL (bytes b))))->RR r w':=fun z' w' L' r k e=>by rw [<- hRR]; exact ⟨_,_,k,e⟩
 clear hRR;have e1:=size_bytes a;have e2:=size_bytes b;haveI:InI ((a.size:Int) + (b.size:Int)):=⟨by omega⟩
 haveI:InI ((a.size:Int) - 1):=⟨by omega⟩
 haveI:InI ((b.size:Int) - 1):=⟨by omega⟩
 refine V_run ?_;refine V_run ?_;refine V_run ?_;obtain ⟨n,hn⟩:∃ n:Nat,n = (bytes a).length + (bytes b).length:=⟨_,rfl⟩
 rw [show (a.size:Int) + (b.size:Int) = (n:Int) by omega];refine iV_ms (by omega) (by omega) ?_;intro bk w1 hbk hS1;rw [ms_rep] at hS1;have hS1:Res w z [] w1 z [(bk,rowO (List.replicate ((bytes a).length + (bytes b).length) 0))]:=by
  rw [rowO,rowV,List.map_replicate,<- hn]; exact hS1
 clear hS;refine V_run ?_;refine LoopG1 (fun (i:Nat) x w'=>x = .int .i64 i/\i <= a.size/\∃ S z',PrI (bytes a) (bytes b) i 0 S/\Res w z [] w' z' [(bk,rowO S)]) (fun i=>a.size - i) 0 ⟨rfl,Nat.zero_le _,_,z,PrI.nil _ _,hS1⟩ ?_;rintro I M i x w2 m ⟨rfl,hi,S,z2,hP,hS2⟩ back
 clear hS1;refine V_run ?_;refine Cond_d (fun h=>?_) (fun h=>?_)
 ·have hlt:i < a.size:=by omega
  have hr1:=dgAt_range ha i;haveI:InI ((a.size:Int) - 1 - (i:Int)):=⟨by omega⟩
  haveI:InStr a ((a.size:Int) - 1 - (i:Int)):=⟨by omega,by omega⟩
  refine V_run ?_;refine V_run ?_;refine V_run ?_;refine V_run ?_;rw [dig_bt ha hlt];haveI:D57 (dgAt (bytes a) i + 48):=⟨by omega⟩
  refine V_run ?_;refine V_run ?_;rw [wrap_dg hr1.1 hr1.2];refine V_run ?_;refine LoopG1 (fun (k:Nat) x w'=>x = .int .i64 k/\k <= b.size/\∃ S z',PrI (bytes a) (bytes b) i k S/\Res w z [] w' z' [(bk,rowO S)]) (fun k=>b.size - k) 0 ⟨rfl,Nat.zero_le _,S,z2,hP,hS2⟩ ?_;clear hP hS2;rintro I1 M1 k x w3 m1 ⟨rfl,hk,S,z3,hP,hS3⟩ back1
  refine V_run ?_;refine Cond_d (fun h=>?_) (fun h=>?_)
  ·have hlk:k < b.size:=by omega
   have hr2:=dgAt_range hb k;have hm:=mul_dg ha hb i k;have hl:=hP.len;have hb1:=hP.nn (i + k);have hb2:=hP.hi (i + k);haveI:InI ((i:Int) + (k:Int)):=⟨by omega⟩
   haveI:InR ((i:Int) + (k:Int)) (n:Nat):=⟨by omega,by omega⟩
   haveI:AddN 0 (((i:Int) + (k:Int)).toNat * 1) (i + k):=⟨by omega⟩
   haveI:Get (rowV S) (i + k) (.int .i64 (S.getD (i + k) 0)):=rowV_get (by omega);haveI:InI ((b.size:Int) - 1 - (k:Int)):=⟨by omega⟩
   haveI:InStr b ((b.size:Int) - 1 - (k:Int)):=⟨by omega,by omega⟩
   refine iDr ?_;intro w4 hS4;clear hS3;refine PV_run ?_;refine PV_run ?_;refine iHV_1 ?_;refine PV_run ?_;refine PV_run ?_;refine PV_run ?_;refine PV_run ?_;rw [dig_bt hb hlk];haveI:D57 (dgAt (bytes b) k + 48):=⟨by omega⟩
   refine PV_run ?_;refine V_run ?_;rw [wrap_dg hr2.1 hr2.2];refine iRI_1 ?_;haveI:InI (dgAt (bytes a) i * dgAt (bytes b) k):=⟨by omega⟩
   haveI:InI (S.getD (i + k) 0 + dgAt (bytes a) i * dgAt (bytes b) k):=⟨by omega⟩
   refine PV_run ?_;refine PV_run ?_;refine PV_run ?_;haveI:SetN (rowV S) (i + k) [.int .i64 (S.getD (i + k) 0 + dgAt (bytes a) i * dgAt (bytes b) k)] (rowV (S.set (i + k) (S.getD (i + k) 0 + dgAt (bytes a) i * dgAt (bytes b) k))):=rowV_set (by omega);refine iU_st ?_;intro w5 hS5;clear hS4;haveI:InI ((k:Int) + 1):=⟨by omega⟩
   refine V_run ?_;exact back1 (k + 1) _ _ ⟨by simp,by omega,_,z3,hP.step ha hb (by omega) (by omega),hS5⟩ (by omega)
  ·have hkb:k = b.size:=by omega
   subst hkb;haveI:InI ((i:Int) + 1):=⟨by omega⟩
   refine V_run ?_;rw [e2] at hP;exact back (i + 1) _ _ ⟨by simp,by omega,S,z3,hP.next hb,hS3⟩ (by omega)
 ·have hia:i = a.size:=by omega
  subst hia;rw [e1] at hP;have hl:=hP.len;refine CV_fn (B:=[]) (F:=[(bk,rowO S)]) (by simpa using hS2) carrier_of (by simp) ?_;rintro z3 B3 w3 v3 hz3 hS3 ⟨cb,pb,ob,B,rfl,rfl,hB⟩
  clear hS2;refine V_run ?_;refine V_run ?_;refine V_run ?_;refine LoopG1 (fun (k:Nat) x w'=>x = .int .i64 k/\k <= n/\∃ carry out B z',CarB cb ob carry out B/\CarI out carry (psum (fun j=>S.getD j 0) k)/\out.length = k/\0 <= carry/\carry <= 9 * ((bytes a).length + 1)/\Res w z [] w' z' ((bk,rowO S) :: (pb,pbO cb ob) :: B)) (fun k=>n - k) 0 ⟨rfl,Nat.zero_le _,0,[],B,z3,hB,CarI.nil,rfl,by omega,by omega,hS3.perm (by simpa using List.perm_append_comm (l₁:=(pb,pbO cb ob) :: B) (l₂:=[(bk,rowO S)]))⟩ ?_;clear hB hS3;rintro I2 M2 k x w4 m2 ⟨rfl,hk,carry,out,B4,z4,hB4,hi4,hlen,hc0,hc1,hS4⟩ back2
  refine V_run ?_;refine Cond_d (fun h=>?_) (fun h=>?_)
  ·have hkn:k < n:=by omega
   haveI:InR (k:Int) (n:Nat):=⟨by omega,by omega⟩
   haveI:AddN 0 ((k:Int).toNat * 1) k:=⟨by omega⟩
   haveI:Get (rowV S) k (.int .i64 (S.getD k 0)):=rowV_get (by omega);refine V_run ?_;refine iV_ld1 ?_;have hb1:=hP.nn k;have hb2:=hP.lo k;have hb3:=hP.hi k;have hcar:=pr_carry hb1 hb3 hc0 hc1;refine CV_fn (B:=B4) (F:=_) (hS4.bring B4) (put_of (n:=S.getD k 0) hB4 (by omega) (by omega)) (by simp) ?_;rintro z5 B5 w5 v5 hz5 hS5 ⟨rfl,hB5⟩
   clear hS4;have hi5:=hi4.put (S.getD k 0);rw [hlen] at hi5;haveI:InI ((k:Int) + 1):=⟨by omega⟩
   refine V_run ?_;exact back2 (k + 1) _ _ ⟨by simp,by omega,_,_,B5,z5,hB5,hi5,by simp [hlen],hcar.1,hcar.2,hS5.perm (by simpa using List.perm_append_comm (l₁:=B5) (l₂:=[(bk,rowO S),(pb,pbO cb ob)]))⟩ (by omega)
  ·have hkn:k = n:=by omega
   subst hkn;rw [hn,hP.fin ha] at hi4;refine CV_fn (B:=(pb,pbO cb ob) :: B4) (F:=_) (hS4.bring ((pb,pbO cb ob) :: B4)) (finish_of hB4 hi4 hc0 (by omega)) (by simp) ?_;rintro z5 B5 w5 v5 hz5 hS5 ⟨rfl,rfl⟩
   exact hR _ _ _ _ hS5 (by rw [Int.toNat_natCast]))
end
section
open Go Q Go.RowKit
class Cat (a b:ByteArray):Prop where
 h:a.size + b.size <= 9223372036854775807
instance {t:Nat} {a b:ByteArray} [h:Cat a b]:Run (bi .add t (.string a) (.string b)) (.string (a ++ b)):=⟨fun w=>by
 show (binOp .add t (.string a) (.string b)).run Tryz.prog w = _
 rw [binOp_string_add]; exact run_string_add_sum w a b h.h⟩
theorem bytes_digB (m:Nat):bytes (digB m) = digL m:=bytes_mk _
theorem size_digB (m:Nat):(digB m).size = lenD m:=by rw [size_bytes,bytes_digB]
theorem dg_digB (m:Nat):Dg (bytes (digB m)):=by rw [bytes_digB]; exact digL_dg m
theorem val_digB (m:Nat):valL (bytes (digB m)) = m:=by rw [bytes_digB,valL_dig]
theorem digB_0:digB 0 = b1 48:=by
 refine ba_inj ?_;rw [bytes_digB,digL_0]
theorem stripB_val {s:ByteArray} (h:Dg (bytes s)):stripB s = digB (valL (bytes s)):=by
 rw [stripB,stripL_val h]; rfl
theorem one_of {s:ByteArray} {i:Nat} (h:i < (bytes s).length):s.extract i (i + 1) = b1 (bytes s)[i]:=by
 refine ba_inj ?_;rw [bytes_extract,show i + 1 - i = 1 by omega,List.drop_eq_getElem_cons h]
 rfl
theorem dg_snoc {l:List UInt8} {c:UInt8} (h:Dg l) (hc:48 <= c.toNat/\c.toNat <= 57):Dg (l ++ [c]):=h.app fun x hx=>by
 rw [List.mem_singleton.1 hx]; exact hc
theorem ord_lt {R B:Nat}:(ordL (digL R) (digL B) < 0 ↔ R < B)/\(ordL (digL R) (digL B) = -1 ↔ R < B):=by
 rw [ordL_dig]
 by_cases h:R < B
 ·rw [if_pos h]; simp [h]
 ·rw [if_neg h]
  by_cases h2:B < R
  ·rw [if_pos h2]; simp [h]
  ·rw [if_neg h2]; simp [h]
section
variable {w0 w:World} {z0 z:Z} {B0 L:Bl} {C:Obj->Bl}
end
end
section
open Go Q Go.RowKit
theorem joinB2 (x y:ByteArray):joinB e0 [x,y] = x ++ y:=by
 refine ba_inj ?_;rw [joinB,bytes_mk,joinW,bytes_add];simp
class Dig (n:Int):Prop where
 h:0 <= n/\n <= 9
instance {n:Int} [h:Dig n]:Run (bi .add 5 (.int .u8 (48 + n)) (.int .u8 1)) (.int .u8 (48 + (n + 1))):=⟨fun w=>by
 have g:∀ d:Fin 10,IntKind.u8.wrap (48 + ((d.val:Nat):Int) + 1) = 48 + (((d.val:Nat):Int) + 1):=by decide
 have hh:=h.h;have:=g ⟨n.toNat,by omega⟩;simp only at this;rw [Int.toNat_of_nonneg (by omega)] at this;simp [bi,binOp,Op.intArith,this]⟩
theorem division_of {z:Z} {w:World} {a:ByteArray} {B:Nat} (ha:Dg (bytes a)) (hal:a.size <= 90000) (hB:0 < B) (hBl:lenD B <= 90000):Fn1 77 #[.string a,.string (digB B)] z w fun _ r=>r = .tuple #[.string (digB (valL (bytes a) / B)),.string (digB (valL (bytes a) % B))]:=Fn1.intro fun hS=>en77 (by
 unfold vc77;have e1:=size_bytes a;have hBp:=lenD_pos B;haveI:InI (((digB B).size:Int) - 1):=⟨by rw [size_digB]; omega⟩
 refine V_run ?_;refine V_run ?_;refine V_run ?_;refine V_run ?_;obtain ⟨h0,hh0⟩:∃ h0:Nat,h0 = min (lenD B - 1) a.size:=⟨_,rfl⟩
 rw [size_digB,show min ((lenD B:Int) - 1) (a.size:Int) = (h0:Int) by omega];haveI:InR (h0:Int) ((a.size:Int) + 1):=⟨by omega,by omega⟩
 refine V_run ?_;rw [Int.toNat_natCast];refine CV_pu ?_;intro z1 w1 hz1 hS1;clear hS;rw [stripB_val (by rw [bytes_to]; exact ha.take _),bytes_to];have hD0:DivI (bytes a) B h0 [] (valL ((bytes a).take h0)):=DivI.nil ha (head_lt ha hB (by omega));generalize hR0:valL ((bytes a).take h0) = R0 at hD0;refine LoopG3 (fun (k:Nat) x y u w'=>u = .int .i64 k/\h0 <= k/\k <= a.size/\∃ q R z' B',x = .string (digB R)/\DivI (bytes a) B k q R/\q.length = k - h0/\OwnSl 5 1 B' y q.length (Lib.byteCells q)/\Res w z [] w' z' B') (fun k=>a.size - k) h0 ⟨rfl,Nat.le_refl _,by omega,[],R0,z1,[],rfl,hD0,by simp,OwnSl.nil,hS1⟩ ?_;rintro I M k x y u w2 m ⟨rfl,hk0,hk,q,R,z2,B2,rfl,hD,hlen,ho,hS2⟩ back
 clear hS1;refine V_run ?_;refine V_run ?_;refine Cond_d (fun h=>?_) (fun h=>?_)
 ·have hlt:k < (bytes a).length:=by omega
  have hc:=ha _ (List.getElem_mem hlt);have hRl:lenD R <= 90000:=Nat.le_trans (lenD_mono (Nat.le_of_lt hD.lt)) hBl;haveI:InI ((k:Int) + 1):=⟨by omega⟩
  haveI:InR (k:Int) ((k:Int) + 1 + 1):=⟨by omega,by omega⟩
  haveI:InR ((k:Int) + 1) ((a.size:Int) + 1):=⟨by omega,by omega⟩
  refine V_run ?_;refine V_run ?_;rw [show ((k:Int) + 1).toNat = k + 1 by omega,Int.toNat_natCast,one_of hlt];refine V_cat [digB R,b1 (bytes a)[k]] rfl rfl (by omega) (by simp only [sizes,List.map_cons,List.map_nil,List.sum_cons,List.sum_nil,size_digB]; have:(b1 (bytes a)[k]).size = 1:=rfl; omega) ?_;intro z3 w3 hz3 hS3;clear hS2;rw [joinB2];refine CV_pu ?_;intro z4 w4 hz4 hS4;clear hS3;have hval:stripB (digB R ++ b1 (bytes a)[k]) = digB (10 * R + ((bytes a)[k].toNat - 48)):=by
   have:Dg (bytes (digB R ++ b1 (bytes a)[k])):=by rw [bytes_add]; exact dg_snoc (dg_digB R) hc
   rw [stripB_val this,bytes_add]
   show digB (valL (bytes (digB R) ++ [(bytes a)[k]])) = _
   rw [valL_snoc,val_digB]
  rw [hval];refine LoopG2 (fun (p:Nat × Nat) x y w'=>x = .string (digB p.1)/\y = .int .u8 (48 + (p.2:Int))/\10 * R + ((bytes a)[k].toNat - 48) = p.2 * B + p.1/\∃ z',Res w z [] w' z' B2) (fun p=>p.1) (10 * R + ((bytes a)[k].toNat - 48),0) ⟨rfl,rfl,by simp,z4,hS4⟩ ?_;rintro I1 M1 ⟨R1,n⟩ x y w5 m1 ⟨rfl,rfl,he,z5,hS5⟩ back1
  simp only at he hS5;dsimp only;clear hS4;have hn10:n < 10:=by
   have h1:=hD.lt
   apply Classical.byContradiction
   intro hc2;have:10 * B <= n * B:=Nat.mul_le_mul_right _ (by omega);omega
  have hR1:R1 < 10 * B:=by have:=hD.lt; omega
  have hR1l:lenD R1 <= 90001:=by
   have h2:=lt_lenD B;have h3:lenD R1 <= lenD B + 1:=lenD_lt (by omega) (by rw [Nat.pow_succ]; omega);omega
  refine CV_pu ?_;intro z6 w6 hz6 hS6;clear hS5;rw [bytes_digB,bytes_digB];refine V_run ?_;refine Cond_d (fun h2=>?_) (fun h2=>?_)
  ·have hlt2:R1 < B:=ord_lt.1.1 h2
   obtain ⟨_,hD'⟩:=hD.step ha hlt hlt2 he;have hc10:((48:Int) + (n:Int)) = ((UInt8.ofNat (48 + n)).toNat:Int):=by rw [dg_nat hn10]; rfl
   rw [hc10];generalize UInt8.ofNat (48 + n) = c at hD';obtain ⟨a',cap',rfl,hcap'⟩:=ho.form;refine V_push hS6 ho (by simp only [room]; omega) (by simp only [room]; omega) (by decide) ?_;intro B3 v3 w7 ho3 hS7;clear hS6;refine V_run ?_;have hbc:Lib.byteCells q ++ [Value.int .u8 (c.toNat:Int)] = Lib.byteCells (q ++ [c]):=by rw [Lib.byteCells_append]; rfl
   rw [hbc] at ho3;exact back (k + 1) _ _ _ _ ⟨by simp,by omega,by omega,q ++ [c],R1,z6,B3,rfl,hD',by simp only [List.length_append,List.length_singleton]; omega,by rw [List.length_append]; exact ho3,by simpa using hS7⟩ (by omega)
  ·have hge:B <= R1:=by
    apply Classical.byContradiction
    intro hc2;exact h2 (ord_lt.1.2 (by omega))
   refine CV_1 (difference_of (dg_digB _) (dg_digB _) (by rw [size_digB]; omega) (by rw [size_digB]; omega) (by rw [val_digB,val_digB]; exact hge)) ?_;rintro z7 w7 v7 hz7 hS7 rfl
   clear hS6;haveI:Dig (n:Int):=⟨by omega⟩
   refine V_run ?_;refine back1 (R1 - B,n + 1) _ _ _ ⟨by rw [val_digB,val_digB]; rfl,by simp,?_,z7,hS7⟩ (by simp only; omega);simp only;rw [Nat.add_mul,Nat.one_mul];omega
 ·have hka:k = a.size:=by omega
  subst hka;rw [e1] at hD;obtain ⟨hq,hr⟩:=hD.fin;refine own_str (B:=B2) (L:=[]) (by simpa using hS2) ho (by simp only [big]; omega) ?_;intro z7 hz7 hS7;refine CV_pu ?_;intro z8 w8 hz8 hS8;refine ⟨_,_,hS8,?_⟩;rw [stripB_val (by rw [bytes_mk]; exact hD.dg),bytes_mk,hq,hr])
class SzN (m:Nat):Prop where
 h:lenD m <= 60000
instance {a b:Nat} [ha:SzN a] [hb:SzN b]:Pu 130 #[.string (digB a),.string (digB b)] (.string (digB (a + b))):=⟨fun z w=>by
 have h1:=ha.h;have h2:=hb.h;have:=sum_of (z:=z) (w:=w) (dg_digB a) (dg_digB b) (by rw [size_digB]; omega) (by rw [size_digB]; omega);rw [val_digB,val_digB] at this;exact this⟩
instance {a b:Nat} [ha:SzN a] [hb:SzN b]:Pu 131 #[.string (digB a),.string (digB b)] (.string (digB (a * b))):=⟨fun z w=>by
 have h1:=ha.h;have h2:=hb.h;have:=product_of (z:=z) (w:=w) (dg_digB a) (dg_digB b) (by rw [size_digB]; omega) (by rw [size_digB]; omega);rw [val_digB,val_digB] at this;exact this⟩
class LeN (b a:Nat):Prop where
 h:b <= a
instance {a b:Nat} [ha:SzN a] [hb:SzN b] [hl:LeN b a]:Pu 140 #[.string (digB a),.string (digB b)] (.string (digB (a - b))):=⟨fun z w=>by
 have h1:=ha.h;have h2:=hb.h;have:=difference_of (z:=z) (w:=w) (dg_digB a) (dg_digB b) (by rw [size_digB]; omega) (by rw [size_digB]; omega) (by rw [val_digB,val_digB]; exact hl.h);rw [val_digB,val_digB] at this;exact this⟩
class PosN (b:Nat):Prop where
 h:0 < b
instance {a b:Nat} [ha:SzN a] [hb:SzN b] [hp:PosN b]:Pu 77 #[.string (digB a),.string (digB b)] (.tuple #[.string (digB (a / b)),.string (digB (a % b))]):=⟨fun z w=>by
 have h1:=ha.h;have h2:=hb.h;have:=division_of (z:=z) (w:=w) (dg_digB a) (by rw [size_digB]; omega) hp.h (by omega);rw [val_digB] at this;exact this⟩
end
section
open Go Q Go.RowKit
def tblV (p:Nat->Bool):List Value:=(List.range 256).map fun i=>.bool (p i)
theorem tblV_len (p:Nat->Bool):(tblV p).length = 256:=by simp [tblV]
theorem tblV_get {p:Nat->Bool} {i:Nat} (h:i < 256):(tblV p)[i]? = some (.bool (p i)):=by
 rw [tblV,List.getElem?_map,List.getElem?_range h]; rfl
theorem tblV_set {p q:Nat->Bool} {i:Nat} (hi:i < 256) (hq:∀ j,q j = (decide (j = i) || p j)):(tblV p).set i (.bool true) = tblV q:=by
 refine List.ext_getElem? fun j=>?_
 by_cases hj:j < 256
 ·rw [tblV_get hj,hq]
  by_cases e:j = i
  ·subst e
   rw [List.getElem?_set_self (by rw [tblV_len]; exact hj)]; simp
  ·rw [List.getElem?_set_ne (fun h=>e h.symm),tblV_get hj]; simp [e]
 ·rw [List.getElem?_eq_none (by rw [List.length_set,tblV_len]; omega),List.getElem?_eq_none (by rw [tblV_len]; omega)]
instance:TyZero 118 (tblV fun _=>false):=⟨(.agg (tblV fun _=>false).toArray),rfl,fun _=>by kernel_rfl⟩
instance:TySize 118 256:=⟨fun _=>by kernel_rfl⟩
instance:TyAgg 118 256:=⟨fun _=>by kernel_rfl⟩
theorem SetN.all {l l':List Value} (h:l'.length = l.length):SetN l 0 l' l' where
 len:=h
 bound:=by omega
 inn:=fun j v hv=>by rw [Nat.zero_add]; exact hv
 out:=fun k hk=>by rw [List.getElem?_eq_none (by omega),List.getElem?_eq_none (by omega)]
theorem GetN.all {l:List Value} {n:Nat} (h:l.length = n):GetN l 0 n l:=⟨h,fun j v hv=>by rw [Nat.zero_add]; exact hv⟩
instance {p:Nat->Bool}:GetN (tblV p) 0 256 (tblV p):=GetN.all (tblV_len p)
instance {p q:Nat->Bool}:SetN (tblV p) 0 (tblV q) (tblV q):=SetN.all (by rw [tblV_len,tblV_len])
instance {p:Nat->Bool}:Ones (tblV p):=⟨fun v hv=>by
 obtain ⟨i,_,rfl⟩:=List.mem_map.1 hv
 rfl⟩
instance {p:Nat->Bool}:LenIs (tblV p) 256:=⟨tblV_len p⟩
def inS (l:List UInt8) (i:Nat):Bool:=l.any fun c=>decide (c.toNat = i)
theorem inS_snoc {l:List UInt8} {c:UInt8} (j:Nat):inS (l ++ [c]) j = (decide (j = c.toNat) || inS l j):=by
 unfold inS;rw [List.any_append,Bool.or_comm]
 congr 1
 rw [List.any_cons,List.any_nil,Bool.or_false];exact decide_eq_decide.2 eq_comm
class Asc (s:ByteArray):Prop where
 h:∀ c ∈ bytes s,c.toNat < 128
 n:s.size <= 1000
instance {s:ByteArray} [h:Asc s]:Pu 109 #[.string s] (.tuple #[.agg (tblV (inS (bytes s))).toArray,.bool true]):=⟨fun z w=>Fn1.intro fun hS=>en109 (by
 unfold vc109;have hn:=h.n;have hsz:=size_bytes s;refine iV_al ?_;intro b w1 hb hS1;clear hS;refine LoopG1 (fun (k:Nat) x w'=>x = .int .i64 k/\k <= s.size/\∃ z',Res w z [] w' z' [(b,.cells (tblV (inS ((bytes s).take k))).toArray 118 (0,0))]) (fun k=>s.size - k) 0 ⟨rfl,Nat.zero_le _,z,hS1⟩ ?_;rintro I M k x w2 m ⟨rfl,hk,z2,hS2⟩ back
 clear hS1;refine V_run ?_;refine V_run ?_;refine Cond_d (fun hd=>?_) (fun hd=>?_)
 ·have hlt:k < (bytes s).length:=by omega
  have hg:(bytes s)[k]? = some (bytes s)[k]:=List.getElem?_eq_getElem hlt;have hc:=h.h _ (List.getElem_mem hlt);haveI:InStr s (k:Int):=⟨by omega,by omega⟩
  refine V_run ?_;rw [bt_get hg];refine V_run ?_;refine Cond_d (fun h2=>?_) (fun h2=>?_)
  ·omega
  have htk:(bytes s).take (k + 1) = (bytes s).take k ++ [(bytes s)[k]]:=List.take_succ_eq_append_getElem hlt;generalize (bytes s)[k] = c at *;haveI:InR (c.toNat:Int) 256:=⟨by omega,by omega⟩
  haveI:MulI (c.toNat:Int) 1 c.toNat:=⟨by omega,by omega⟩
  refine V_run ?_;haveI:SetN (tblV (inS ((bytes s).take k))) c.toNat [.bool true] (tblV (inS ((bytes s).take (k + 1)))):=by
   have h3:=SetN.at_ (l:=tblV (inS ((bytes s).take k))) (k:=c.toNat) (u:=.bool true) (by rw [tblV_len]; omega);rw [tblV_set (q:=inS ((bytes s).take (k + 1))) (by omega) (fun j=>by rw [htk,inS_snoc])] at h3;exact h3
  refine iU_st ?_;intro w3 hS3;clear hS2;haveI:InI ((k:Int) + 1):=⟨by omega⟩
  refine V_run ?_;exact back (k + 1) _ _ ⟨by simp,by omega,z2,hS3⟩ (by omega)
 ·have hks:k = (bytes s).length:=by omega
  rw [hks,List.take_length] at hS2;refine iV_ldN ?_;refine iU_st ?_;intro w3 hS3;clear hS2;refine iCW_N ?_;exact ⟨_,_,hS3,rfl⟩)⟩
theorem contains_of {z:Z} {w:World} {b:Nat} {p:Nat->Bool} {c:Int} (hc:0 <= c/\c < 256) (ha:At z b 0 (tblV p)):Fn1 153 #[.pointer (some ⟨b,0,none⟩),.int .u8 c] z w fun _ r=>r = .bool (p c.toNat):=Fn1.intro fun hS=>en153 (by
 unfold vc153;refine NilW_some ?_;haveI:InR c 256:=⟨by omega,by omega⟩
 haveI:MulI c 1 c.toNat:=⟨by omega,by omega⟩
 refine V_run ?_;have hat:At z b c.toNat [.bool (p c.toNat)]:=by
  obtain ⟨cs,ty,fr,h1,h2⟩:=ha;refine ⟨cs,ty,fr,h1,fun j v hv=>?_⟩
  cases j with
  | succ j=>simp at hv
  | zero=>
   have:=h2 c.toNat (.bool (p c.toNat)) (tblV_get (by omega));rw [Nat.zero_add] at this;simp at hv;subst hv;exact this
 refine zV_ld1 hat ?_;exact ⟨_,_,hS,rfl⟩)
theorem trimLeftASCII_of {z:Z} {w:World} {s:ByteArray} {b:Nat} {p:Nat->Bool} (ha:At z b 0 (tblV p)):Fn1 110 #[.string s,.pointer (some ⟨b,0,none⟩)] z w fun _ r=>r = .string (strB ((bytes s).dropWhile fun c=>p c.toNat)):=Fn1.intro fun hS=>en110 (by
 unfold vc110;intro K0 hK0;refine LoopG1 (fun (q:ByteArray) x w'=>x = .string q/\(bytes q).dropWhile (fun c=>p c.toNat) = (bytes s).dropWhile (fun c=>p c.toNat)/\∃ z',Le z z'/\Res w z [] w' z' []) (fun q=>q.size) s ⟨rfl,rfl,z,Le.refl _,hS⟩ ?_;rintro I M q x w2 m ⟨rfl,he,z2,hz2,hS2⟩ back
 clear hS;have hsz:=size_bytes q;refine V_run ?_;refine V_run ?_;refine Cond_d (fun h=>?_) (fun h=>?_)
 ·cases hb:bytes q with
  | nil=>rw [hb] at hsz; simp only [List.length_nil] at hsz; omega
  | cons d l=>
   haveI:InStr q 0:=⟨by omega,by omega⟩
   have hbt:bt q 0 = (d.toNat:Int):=bt_get (k:=0) (by rw [hb]; rfl);refine V_run ?_;rw [hbt];have hd:=d.toNat_lt;refine CV_1 (contains_of (c:=d.toNat) (by omega) (ha.mono hz2)) ?_;rintro z3 w3 v3 hz3 hS3 rfl
   clear hS2;rw [Int.toNat_natCast];refine V_run ?_;rw [hb,List.dropWhile_cons] at he
   cases hp:p d.toNat with
   | true=>
    rw [hp,if_pos rfl] at he;refine Cond_f ?_;haveI:InR 1 ((q.size:Int) + 1):=⟨by omega,by omega⟩
    refine V_run ?_;have e2:bytes (q.extract (1:Int).toNat q.size) = l:=by rw [bytes_from,hb]; rfl
    exact back _ _ _ ⟨rfl,by rw [e2]; exact he,z3,hz2.trans hz3,hS3⟩ (by rw [size_bytes,e2,hsz,hb]; simp)
   | false=>
    rw [hp] at he;refine Cond_t ?_;refine hK0 _ _ fun _=>?_
    refine ⟨_,_,hS3,?_⟩;rw [<- he];exact congrArg Value.string (ba_inj (by show bytes q = _; rw [hb,bytes_mk]; rfl))
 ·refine hK0 _ _ fun _=>?_
  refine ⟨_,_,hS2,?_⟩;have h0:bytes q = []:=List.eq_nil_of_length_eq_zero (by omega);rw [<- he,h0];exact congrArg Value.string (ba_inj (by show bytes q = _; rw [h0,bytes_mk]; rfl)))
def rigP (p:Nat->Bool) (l:List UInt8):List UInt8:=(l.reverse.dropWhile fun c=>p c.toNat).reverse
theorem rigP_end {p:Nat->Bool} {l:List UInt8} {d:UInt8} (h:p d.toNat = true):rigP p (l ++ [d]) = rigP p l:=by simp [rigP,h]
theorem rigP_keep {p:Nat->Bool} {l:List UInt8} {d:UInt8} (h:p d.toNat = false):rigP p (l ++ [d]) = l ++ [d]:=by simp [rigP,h]
theorem trimRightASCII_of {z:Z} {w:World} {s:ByteArray} {b:Nat} {p:Nat->Bool} (hs:s.size <= big) (ha:At z b 0 (tblV p)):Fn1 111 #[.string s,.pointer (some ⟨b,0,none⟩)] z w fun _ r=>r = .string (strB (rigP p (bytes s))):=Fn1.intro fun hS=>en111 (by
 unfold vc111;simp only [big] at hs;intro K0 hK0;refine LoopG1 (fun (q:ByteArray) x w'=>x = .string q/\q.size <= s.size/\rigP p (bytes q) = rigP p (bytes s)/\∃ z',Le z z'/\Res w z [] w' z' []) (fun q=>q.size) s ⟨rfl,Nat.le_refl _,rfl,z,Le.refl _,hS⟩ ?_;rintro I M q x w2 m ⟨rfl,hle,he,z2,hz2,hS2⟩ back
 clear hS;have hsz:=size_bytes q;refine V_run ?_;refine V_run ?_;refine Cond_d (fun h=>?_) (fun h=>?_)
 ·rcases List.eq_nil_or_concat (bytes q) with hb | ⟨l,d,hb⟩
  ·rw [hb] at hsz; simp only [List.length_nil] at hsz; omega
  ·rw [List.concat_eq_append] at hb
   have hl:q.size = l.length + 1:=by rw [hsz,hb]; simp
   haveI:InI ((q.size:Int) - 1):=⟨by omega⟩
   haveI:InStr q ((q.size:Int) - 1):=⟨by omega,by omega⟩
   have hbt:bt q ((q.size:Int) - 1) = (d.toNat:Int):=by
    rw [show (q.size:Int) - 1 = (l.length:Int) by omega];exact bt_get (by rw [hb]; simp)
   refine V_run ?_;refine V_run ?_;refine V_run ?_;rw [hbt];have hd:=d.toNat_lt;refine CV_1 (contains_of (c:=d.toNat) (by omega) (ha.mono hz2)) ?_;rintro z3 w3 v3 hz3 hS3 rfl
   clear hS2;rw [Int.toNat_natCast];refine V_run ?_;rw [hb] at he
   cases hp:p d.toNat with
   | true=>
    rw [rigP_end hp] at he;refine Cond_f ?_;haveI:InR ((q.size:Int) - 1) ((q.size:Int) + 1):=⟨by omega,by omega⟩
    refine V_run ?_;refine V_run ?_;refine V_run ?_;have e2:bytes (q.extract 0 ((q.size:Int) - 1).toNat) = l:=by
     rw [bytes_to,hb,show ((q.size:Int) - 1).toNat = l.length by omega,List.take_left]
    exact back _ _ _ ⟨rfl,by rw [size_bytes,e2]; omega,by rw [e2]; exact he,z3,hz2.trans hz3,hS3⟩ (by rw [size_bytes,e2]; omega)
   | false=>
    rw [rigP_keep hp] at he;refine Cond_t ?_;refine hK0 _ _ fun _=>?_
    refine ⟨_,_,hS3,?_⟩;rw [<- he,<- hb]
 ·refine hK0 _ _ fun _=>?_
  refine ⟨_,_,hS2,?_⟩;have h0:bytes q = []:=List.eq_nil_of_length_eq_zero (by omega);rw [<- he,h0];exact congrArg Value.string (ba_inj (by show bytes q = _; rw [h0,bytes_mk]; rfl)))
def trimP (p:Nat->Bool) (l:List UInt8):List UInt8:=(rigP p l).dropWhile fun c=>p c.toNat
theorem trimSet_of {z:Z} {w:World} {s t:ByteArray} [h:Asc t] (h2:t.size ≠ 1) (h0:t ≠ ⟨#[]⟩) (hs:s.size <= big):Fn1 43 #[.string s,.string t] z w fun _ r=>r = .string (strB (trimP (inS (bytes t)) (bytes s))):=Fn1.intro fun hS=>en43 (by
 unfold vc43;refine V_run ?_;intro K0 hK0;refine Cond_d (fun he=>?_) (fun he=>?_)
 ·refine hK0 _ _ fun _=>?_
  refine Cond_t ?_;have he:s = ⟨#[]⟩:=by simpa using he
  subst he;exact ⟨_,_,hS,rfl⟩
 ·refine V_run ?_
  refine hK0 _ _ fun _=>?_
  rw [decide_eq_false h0];refine Cond_f ?_;refine V_run ?_;refine V_run ?_;intro K1 hK1;rw [decide_eq_false (by omega)];refine Cond_f ?_;refine hK1 _ _ fun _=>?_
  refine Cond_f ?_;refine CV_pu ?_;intro z1 w1 hz1 hS1;clear hS;refine V_run ?_;refine V_run ?_;refine iV_al ?_;intro b w2 hb hS2;clear hS1;refine iU_st ?_;intro w3 hS3;clear hS2;refine Cond_t ?_;obtain ⟨z4,hz4,hS4,hat⟩:=freeze1 hS3;refine CV_1 (trimRightASCII_of hs hat) ?_;rintro z5 w5 v5 hz5 hS5 rfl
  refine CV_1 (trimLeftASCII_of (hat.mono hz5)) ?_;rintro z6 w6 v6 hz6 hS6 rfl
  refine ⟨_,_,hS6,?_⟩;rw [bytes_mk]; rfl)
end
end Go.Proofs.YtmideenmlhbdjaaGreatDoor
