/- Texts joined: G1, G2, G3, G4, F13, C86, C87, C88, F14, C89, C90, C91, C92, C47, C64, C65, C93, F15, K1, K2, K3. -/
import Derived.Test.YtbeelfopmkbllaaGreatDoorM7
import Derived.Test.YtbeelfopmkbllaaGreatDoorM6
import Derived.Test.YtbeelfopmkbllaaGreatDoorM5
import Derived.Test.YtbeelfopmkbllaaGreatDoorRows
import Derived.WalkKit
import Derived.ProofKit
import Derived.OpenShut
import Derived.Carry
import Derived.Deep.Slices
import Derived.ChangeMaps5
import Derived.LaidMore
import Derived.Lay
set_option linter.unusedSimpArgs false
set_option linter.unusedVariables false
set_option linter.unusedSectionVars false
set_option maxHeartbeats 4000000
set_option maxRecDepth 100000
set_option synthInstance.maxHeartbeats 4000000
set_option synthInstance.maxSize 20000
namespace Go.Proofs.YtbeelfopmkbllaaGreatDoor
open Go Q Go.RowKit
open _root_.List
section
theorem zC (u:Nat):∀ r,dN 0 (Lib.decDigits u ++ r) = dN u r:=by
 induction u using Nat.strongRecOn with
 | _ u ih=>
  intro r;rw [Lib.decDigits]
  split
  ·rename_i h
   rw [singleton_append,dN,fg h,if_neg (by omega)]
   congr 1
   omega
  ·rename_i h
   rw [append_assoc,ih _ (by omega),singleton_append,dN,fg (by omega),if_neg (by omega)]
   congr 1
   omega
theorem AJ {a d:Nat} (ha:0 < a) (hd:d < 10):Lib.decDigits (10 * a + d) = Lib.decDigits a ++ [UInt8.ofNat (48 + d)]:=by
 rw [Lib.decDigits]
 split
 ·omega
 ·rw [show (10 * a + d) / 10 = a by omega,show (10 * a + d) % 10 = d by omega]
theorem Bh {d:Nat} (hd:d < 10):Lib.decDigits d = [UInt8.ofNat (48 + d)]:=by
 rw [Lib.decDigits]
 split
 ·rfl
 ·omega
theorem yl {c:UInt8} (h:¬ (c.toNat < 48 \/ 57 < c.toNat)):UInt8.ofNat (48 + (c.toNat - 48)) = c:=by
 rw [show 48 + (c.toNat - 48) = c.toNat by omega];exact UInt8.ofNat_toNat
theorem zB:∀ (t:List UInt8) (a v:Nat),0 < a->dN a t = some v->Lib.decDigits v = Lib.decDigits a ++ t/\0 < v
 | [],a,v,ha,h=>by simp only [dN,Option.some.injEq] at h; subst h; exact ⟨by simp,ha⟩
 | c :: t,a,v,ha,h=>by
  rw [dN] at h
  split at h
  ·cases h
  ·rename_i hc
   obtain ⟨h1,h2⟩:=zB t _ v (by omega) h;rw [AJ ha (by omega),yl hc] at h1;exact ⟨by rw [h1]; simp,h2⟩
theorem ta {c:UInt8} {t:List UInt8} {v:Nat} (h:dN 0 (c :: t) = some v) (h0:c ≠ 48 \/ t = []):Lib.decDigits v = c :: t/\(c ≠ 48->0 < v):=by
 by_cases hc:c = 48
 ·subst hc
  rcases h0 with h0 | rfl
  ·exact absurd rfl h0
  ·have:some 0 = some v:=h
   simp only [Option.some.injEq] at this;subst this;exact ⟨by decide +kernel,fun e=>absurd rfl e⟩
 ·rw [dN] at h
  split at h
  ·cases h
  ·rename_i h1
   have h2:c.toNat ≠ 48:=fun e=>hc (by rw [<- UInt8.toNat_inj,e]; rfl)
   obtain ⟨h3,h4⟩:=zB t _ v (by omega) h;rw [Nat.mul_zero,Nat.zero_add,Bh (d:=c.toNat - 48) (by omega),yl h1] at h3;exact ⟨h3,fun _=>h4⟩
theorem Co (u:Nat):u < 10 ^ (Lib.decDigits u).length:=by
 induction u using Nat.strongRecOn with
 | _ u ih=>
  rw [Lib.decDigits]
  split
  ·simpa using ‹_›
  ·have:=ih (u / 10) (by omega)
   rw [length_append,length_singleton,Nat.pow_succ];omega
theorem ui {u:Nat}:0 < u->(Lib.decDigits u).head? ≠ some 48:=by
 induction u using Nat.strongRecOn with
 | _ u ih=>
  intro hu;rw [Lib.decDigits]
  split
  ·rename_i h
   intro e;simp only [head?_cons,Option.some.injEq] at e;have:=fg h;rw [e] at this;have h2:(48:UInt8).toNat = 48:=rfl;omega
  ·have:=ih (u / 10) (by omega) (by omega)
   cases hd:Lib.decDigits (u / 10) with
   | nil=>exact absurd hd (lV _)
   | cons c r=>
    rw [hd] at this;exact this
def eR (n:Int):Prop:=-1000000000000000 < n/\n < 1000000000000000
theorem nP {n:Int} (h:n < 0):Lib.itoa n = 45 :: Lib.decDigits n.natAbs:=by unfold Lib.itoa; rw [if_pos h]
theorem nN {n:Int} (h:0 <= n):Lib.itoa n = Lib.decDigits n.toNat:=by unfold Lib.itoa; rw [if_neg (by omega)]
theorem vr {u k:Nat} (h:(Lib.decDigits u).length = k) (hk:k <= 15):u < 1000000000000000:=by
 have h1:=Co u;have h2:10 ^ (Lib.decDigits u).length <= 10 ^ 15:=Nat.pow_le_pow_right (by omega) (by omega);have h3:(10:Nat) ^ 15 = 1000000000000000:=by decide
 omega
theorem zD {w:List UInt8} {n:Int} (h:lF w = some n):w = Lib.itoa n/\eR n:=by
 unfold lF at h
 split at h
 ·cases h
 ·rename_i hb
  unfold ii at hb;simp only [not_or,not_and] at hb;obtain ⟨hb1,hb2,hb3⟩:=hb
  cases hw:dN 0 (w.drop (fE w)) with
  | none=>rw [hw] at h; cases h
  | some v=>
   rw [hw] at h;simp only [Option.map_some,Option.some.injEq] at h
   by_cases hn:fE w = 1
   ·have hq:1 < w.length/\w[0]? = some 45:=by
     unfold fE at hn
     split at hn
     ·assumption
     ·cases hn
    rw [hn] at hw hb2 hb3 h;rw [if_pos rfl] at h
    match w,hq with
    | [_],hq=>simp at hq
    | a :: c :: t,hq=>
     simp only [getElem?_cons_zero,Option.some.injEq] at hq;obtain ⟨_,rfl⟩:=hq;have hc:c ≠ 48:=fun e=>by subst e; exact hb3 rfl (by simp)
     obtain ⟨h1,h2⟩:=ta (show dN 0 (c :: t) = some v from hw) (.inl hc);have h3:=h2 hc;have h4:=vr (k:=t.length + 1) (by rw [h1]; rfl) (by simp only [length_cons] at hb2; omega);subst h;refine ⟨?_,by unfold eR; omega⟩;rw [nP (by omega),show (-(v:Int)).natAbs = v by omega,h1]
   ·have hn0:fE w = 0:=by
     unfold fE at hn ⊢
     split at hn
     ·exact absurd rfl hn
     ·rename_i h9; rw [if_neg h9]
    rw [hn0] at hw hb1 hb2 hb3 h;rw [if_neg (by decide)] at h;rw [drop_zero] at hw
    match w,hb1 with
    | [],hb1=>simp at hb1
    | c :: t,_=>
     have hc:c ≠ 48 \/ t = []:=by
      by_cases e:c = 48
      ·subst e
       right
       have:=hb3 rfl
       cases t with
       | nil=>rfl
       | cons d t=>simp at this
      ·exact .inl e
     obtain ⟨h1,h2⟩:=ta hw hc;have h4:=vr (k:=t.length + 1) (by rw [h1]; rfl) (by simp only [length_cons] at hb2; omega);subst h;refine ⟨?_,by unfold eR; omega⟩;rw [nN (by omega),show (v:Int).toNat = v by omega,h1]
theorem xd {n:Int} (h:eR n):lF (Lib.itoa n) = some n:=by
 unfold eR at h
 by_cases hn:n < 0
 ·have e:=nP hn
  have hu:0 < n.natAbs:=by omega
  have hl:=od 14 n.natAbs (by omega);have hd:=zC n.natAbs [];have hh:=ui hu;rw [append_nil] at hd;rw [e]
  cases hds:Lib.decDigits n.natAbs with
  | nil=>exact absurd hds (lV _)
  | cons c t=>
   rw [hds] at hl hd hh;have hneg:fE (45 :: c :: t) = 1:=by unfold fE; rw [if_pos ⟨by simp,rfl⟩]
   unfold lF;rw [if_neg,hneg]
   ·rw [show (45 :: c :: t).drop 1 = c :: t from rfl,hd]
    simp only [dN,Option.map_some,if_true]
    congr 1
    omega
   ·unfold ii
    rw [hneg];simp only [length_cons,getElem?_cons_succ,getElem?_cons_zero,Option.some.injEq] at hl ⊢;rintro (h1 | h1 | ⟨h1,_⟩)
    ·omega
    ·omega
    ·exact hh (by rw [h1]; rfl)
 ·have e:=nN (n:=n) (by omega)
  have hl:=od 14 n.toNat (by omega);have hd:=zC n.toNat [];have hm:=mZ n.toNat;rw [append_nil] at hd;rw [e];have hz:n.toNat = 0->Lib.decDigits n.toNat = [48]:=fun h0=>by rw [h0]; decide +kernel
  have hp:=fun h0=>ui (u:=n.toNat) h0
  cases hds:Lib.decDigits n.toNat with
  | nil=>exact absurd hds (lV _)
  | cons c t=>
   rw [hds] at hl hd hm hz hp;have hc:=hm c mem_cons_self;have hneg:fE (c :: t) = 0:=by
    unfold fE;rw [if_neg];rintro ⟨_,h2⟩
    simp only [getElem?_cons_zero,Option.some.injEq] at h2;subst h2
    revert hc; decide
   unfold lF;rw [if_neg,hneg]
   ·rw [drop_zero,hd]
    simp only [dN,Option.map_some]
    congr 1
    rw [if_neg (by decide)];omega
   ·unfold ii
    rw [hneg];rintro (h1 | h1 | ⟨h1,h2⟩)
    ·simp at h1
    ·omega
    ·by_cases h0:n.toNat = 0
     ·have:=hz h0
      rw [(List.cons.inj this).2] at h2;simp at h2
     ·have:=hp (by omega)
      simp only [getElem?_cons_zero,Option.some.injEq] at h1;subst h1;exact this rfl
theorem tr (u:Nat) (h:u <= 1000000000000000):∀ r,Lib.parseUint10 0 (Lib.decDigits u ++ r) = Lib.parseUint10 u r:=by
 induction u using Nat.strongRecOn with
 | _ u ih=>
  intro r;rw [Lib.decDigits]
  split
  ·rename_i h2
   rw [singleton_append,Lib.parseUint10,fg h2,if_pos (by omega),if_neg (by omega),if_neg (by omega)]
   congr 1
   omega
  ·rename_i h2
   rw [append_assoc,ih _ (by omega) (by omega),singleton_append,Lib.parseUint10,fg (by omega),if_pos (by omega),if_neg (by omega),if_neg (by omega)]
   congr 1
   omega
theorem jx {u:Nat} (h:u <= 1000000000000000):Lib.parseMag (Lib.decDigits u) = .ok u:=by
 unfold Lib.parseMag;rw [if_neg (lV u)];have:=tr u h [];rw [append_nil] at this;rw [this]
 rfl
theorem uq {n:Int} (h:eR n):Lib.atoiAll (Lib.itoa n) = .ok n:=by
 unfold eR at h;unfold Lib.itoa
 split
 ·rename_i h
  unfold Lib.atoiAll;simp only [show (45:UInt8).toNat = 45 from rfl,or_true,if_true];rw [jx (by omega)];simp only [not_true_eq_false,false_and,if_false,true_and,if_true];rw [if_neg (by omega)]
  congr 1
  omega
 ·rename_i h
  have hm:=mZ n.toNat;have hp:=jx (u:=n.toNat) (by omega)
  cases hd:Lib.decDigits n.toNat with
  | nil=>exact absurd hd (lV _)
  | cons c r=>
   rw [hd] at hm hp;have hc:=hm c mem_cons_self;unfold Lib.atoiAll;simp only;rw [if_neg (by omega),hp];simp only;rw [if_neg (by omega),if_neg (by omega),if_neg (by omega)]
   congr 1
   omega
theorem ql (n:Int):(nf (ac n) ⟨#[45]⟩).size = (Lib.decDigits n.natAbs).length:=by
 have hpre:fy (ac n) ⟨#[45]⟩ = decide ((Lib.itoa n).head? = some 45):=wm (ac n) 45;have hsz:(ac n).size = (Lib.itoa n).length:=rfl;unfold nf;rw [hpre]
 by_cases hn:n < 0
 ·rw [nP hn] at hsz ⊢
  rw [if_pos (by rw [decide_eq_true_iff]; rfl),ByteArray.size_extract,hsz];simp only [length_cons,show (⟨#[45]⟩:ByteArray).size = 1 from rfl];omega
 ·have e:=nN (n:=n) (by omega)
  rw [e] at hsz ⊢;rw [if_neg,hsz,show n.natAbs = n.toNat by omega];intro h1;have h1:=of_decide_eq_true h1;have hm:=mZ n.toNat
  cases hds:Lib.decDigits n.toNat with
  | nil=>exact absurd hds (lV _)
  | cons c t=>
   rw [hds] at h1 hm;simp only [head?_cons,Option.some.injEq] at h1;subst h1;have:=hm 45 mem_cons_self
   revert this; decide
theorem iE {n:Int} (h:eR n):fG ⟨ac n,false⟩ = some n:=by
 unfold fG;simp only [Bool.false_eq_true,if_false];rw [iG,uq h];simp only;rw [ql,if_pos];unfold eR at h;exact od 14 n.natAbs (by omega)
theorem mD {n m:Int} (h:fG ⟨ac n,false⟩ = some m):eR n:=by
 unfold fG at h;simp only [Bool.false_eq_true,if_false] at h
 split at h
 ·split at h
  ·rename_i h1
   rw [ql] at h1;have:=vr rfl h1;unfold eR;omega
  ·cases h
 ·cases h
end
section
theorem uz {α:Type} {p:α->Bool}:∀ {l:List α} {c:α},c ∈ l.takeWhile p->p c = true
 | [],c,h=>by cases h
 | x :: l,c,h=>by
  rw [takeWhile_cons] at h
  split at h
  ·rcases List.mem_cons.1 h with rfl | h
   ·assumption
   ·exact uz h
  ·cases h
def Sx (l:List UInt8) (st:RdM) (m:List UInt8):Prop:=st.2 = false/\st.1 <= l.length/\l.drop st.1 = m
theorem Sx.step {l:List UInt8} {st:RdM} {a r:List UInt8} (h:Sx l st (a ++ r)) {st':RdM} (h1:st'.1 = st.1 + a.length) (h2:st'.2 = false):Sx l st' r:=by
 obtain ⟨s1,s2,s3⟩:=h;have hl:=congrArg List.length s3;rw [length_drop,length_append] at hl;refine ⟨h2,by omega,?_⟩;rw [h1,<- drop_drop,s3,drop_left]
theorem Sx.at_ {l:List UInt8} {st:RdM} {m:List UInt8} (h:Sx l st m) (k:Nat):l[st.1 + k]? = m[k]?:=by
 rw [<- h.2.2,getElem?_drop]
theorem Sx.end_ {l:List UInt8} {st:RdM} {m:List UInt8} (h:Sx l st m):st.1 = l.length ↔ m = []:=by
 obtain ⟨s1,s2,s3⟩:=h;rw [<- s3,drop_eq_nil_iff];omega
def EndWd (r:List UInt8):Prop:=r = [] \/ r.head? = some 32
theorem EndWd.nil:EndWd []:=.inl rfl
theorem EndWd.cons {r:List UInt8}:EndWd (32 :: r):=.inr rfl
theorem cM {l:List UInt8} {st:RdM} {r:List UInt8} (h:Sx l st (32 :: r)):Sx l (aQ l st) r:=by
 have h0:=h.at_ 0;have e:aQ l st = (st.1 + 1,st.2):=by unfold aQ iW; exact if_pos h0
 exact Sx.step (a:=[32]) h (by rw [e]; rfl) (by rw [e]; exact h.1)
theorem fM {l:List UInt8} {st:RdM} {m:List UInt8} (h:Sx l st m) (hb:(aQ l st).2 = false):∃ r,m = 32 :: r:=by
 have h0:=h.at_ 0;unfold aQ iW at hb
 split at hb
 ·rename_i h1
  rw [Nat.add_zero,h1] at h0
  cases m with
  | nil=>cases h0
  | cons c r=>simp only [getElem?_cons_zero,Option.some.injEq] at h0; exact ⟨r,by rw [h0]⟩
 ·cases hb
theorem lh {l:List UInt8} {st:RdM} {w r:List UInt8} (h:Sx l st (w ++ r)) (h32:32 ∉ w) (hr:EndWd r):cG l st.1 = w:=by
 unfold cG;rw [h.2.2];exact (kR h32 hr).1
theorem kQ {l:List UInt8} {st:RdM} {w r:List UInt8} (h:Sx l st (w ++ r)) (hne:w ≠ []) (h32:32 ∉ w) (hr:EndWd r):(af l st).1 = ⟨w.toArray⟩/\Sx l (af l st).2 r:=by
 have e:=lh h h32 hr;refine ⟨by unfold af; rw [e],Sx.step h ?_ ?_⟩
 ·show iY l st.1 = _
  unfold iY; rw [e]
 ·show gM l st.1 st.2 = _
  unfold gM; rw [e,h.1,decide_eq_false hne]; rfl
theorem oV {l:List UInt8} {st:RdM} {m:List UInt8} (h:Sx l st m) (hb:(af l st).2.2 = false):∃ w r,m = w ++ r/\w ≠ []/\32 ∉ w/\EndWd r:=by
 have hw:¬ cG l st.1 = []:=by
  intro e;simp only [af,gM,e,decide_true,Bool.or_true] at hb
  cases hb
 unfold cG at hw;rw [h.2.2] at hw;refine ⟨m.takeWhile (· ≠ 32),m.dropWhile (· ≠ 32),List.takeWhile_append_dropWhile.symm,hw,fun hm=>?_,?_⟩
 ·have:=uz hm
  simp at this
 ·cases hd:m.dropWhile (· ≠ 32) with
  | nil=>exact .inl rfl
  | cons c t=>rw [lU hd]; exact .inr rfl
theorem wz {l:List UInt8} {st:RdM} {w r:List UInt8} (h:Sx l st (w ++ r)) (hne:w ≠ []) (h32:32 ∉ w) (hr:EndWd r):(eu l st).1 = dn w/\Sx l (eu l st).2 r:=by
 have e:=lh h h32 hr;exact ⟨by unfold eu; rw [e],(kQ h hne h32 hr).2⟩
theorem BQ {l:List UInt8} {st:RdM} {m:List UInt8} (h:Sx l st m) (hb:(eu l st).2.2 = false):∃ w r,m = w ++ r/\w ≠ []/\32 ∉ w/\EndWd r:=oV h hb
theorem mH:∀ (t:List UInt8) (q:Bool) (acc a r:List UInt8),cK q acc t = some (a,r)->r.head? ≠ some 34 /\
  (if q = true then (t = r/\a = acc) \/ ∃ x,a = acc ++ 34 :: x/\t = 34 :: (fK x ++ 34 :: r) else ∃ x,a = acc ++ x/\t = fK x ++ 34 :: r)
 | [],false,acc,a,r,h=>by cases h
 | [],true,acc,a,r,h=>by
  simp only [cK,Option.some.injEq,Prod.mk.injEq] at h;obtain ⟨rfl,rfl⟩:=h;exact ⟨by simp,by rw [if_pos rfl]; exact .inl ⟨rfl,rfl⟩⟩
 | c :: t,false,acc,a,r,h=>by
  rw [cK] at h;rw [if_neg Bool.false_ne_true]
  split at h
  ·rename_i hc
   subst hc;obtain ⟨h1,h2⟩:=mH t true acc a r h;rw [if_pos rfl] at h2;refine ⟨h1,?_⟩
   rcases h2 with ⟨rfl,rfl⟩ | ⟨x,rfl,rfl⟩
   ·exact ⟨[],by simp,rfl⟩
   ·exact ⟨34 :: x,rfl,rfl⟩
  ·rename_i hc
   obtain ⟨h1,h2⟩:=mH t false (acc ++ [c]) a r h;rw [if_neg Bool.false_ne_true] at h2;obtain ⟨x,rfl,rfl⟩:=h2;refine ⟨h1,c :: x,by simp,?_⟩
   show _ = (if c = 34 then [34,34] else [c]) ++ fK x ++ 34 :: r
   rw [if_neg hc]
   rfl
 | c :: t,true,acc,a,r,h=>by
  rw [cK] at h;rw [if_pos rfl]
  split at h
  ·rename_i hc
   subst hc;obtain ⟨h1,h2⟩:=mH t false (acc ++ [34]) a r h;rw [if_neg Bool.false_ne_true] at h2;obtain ⟨x,rfl,rfl⟩:=h2;exact ⟨h1,.inr ⟨x,by simp,rfl⟩⟩
  ·rename_i hc
   simp only [Option.some.injEq,Prod.mk.injEq] at h;obtain ⟨rfl,rfl⟩:=h;exact ⟨by simpa using hc,.inl ⟨rfl,rfl⟩⟩
abbrev qc (x:List UInt8):List UInt8:=34 :: (fK x ++ [34])
theorem EndWd.q {r:List UInt8} (h:EndWd r):r.head? ≠ some 34:=by
 rcases h with rfl | h
 ·simp
 ·rw [h]; simp
theorem nL {l:List UInt8} {st:RdM} {x r:List UInt8} (h:Sx l st (qc x ++ r)) (hr:r.head? ≠ some 34):(fY l st).1 = ⟨x.toArray⟩/\Sx l (fY l st).2 r:=by
 have h0:=h.at_ 0;have hd:l.drop (st.1 + 1) = fK x ++ 34 :: r:=by
  rw [<- drop_drop,h.2.2]; simp
 have hl:=congrArg List.length h.2.2;rw [length_drop] at hl;simp only [qc,length_append,length_cons,length_nil] at hl;have e:ip l st.1 st.2 = (x,l.length - r.length,st.2):=by
  unfold ip;rw [if_pos (show l[st.1]? = some 34 from h0),hd,mI x [] r hr]
  rfl
 refine ⟨by unfold fY; rw [e],Sx.step h ?_ ?_⟩
 ·show (ip l st.1 st.2).2.1 = _
  rw [e];simp only [qc,length_append,length_cons,length_nil];omega
 ·show (ip l st.1 st.2).2.2 = _
  rw [e]; exact h.1
theorem vk {l:List UInt8} {st:RdM} {m:List UInt8} (h:Sx l st m) (hb:(fY l st).2.2 = false):∃ x r,m = qc x ++ r/\r.head? ≠ some 34:=by
 have h0:=h.at_ 0;simp only [fY,ip] at hb
 split at hb
 ·rename_i h1
  rw [Nat.add_zero,h1] at h0;have hd:l.drop (st.1 + 1) = m.drop 1:=by rw [<- drop_drop,h.2.2]
  rw [hd] at hb
  split at hb
  ·cases hb
  ·rename_i a r h2
   obtain ⟨h3,h4⟩:=mH _ _ _ _ _ h2;rw [if_neg Bool.false_ne_true] at h4;obtain ⟨x,_,h5⟩:=h4;refine ⟨x,r,?_,h3⟩
   cases m with
   | nil=>cases h0
   | cons c t=>
    simp only [getElem?_cons_zero,Option.some.injEq] at h0;rw [drop_succ_cons,drop_zero] at h5;rw [<- h0,h5];simp
 ·cases hb
theorem lL {l:List UInt8} {st:RdM} {n:Int} {r:List UInt8} (h:Sx l st (Lib.itoa n ++ r)) (hn:eR n) (hr:EndWd r):(fC l st).1 = n/\Sx l (fC l st).2 r:=by
 have h32:32 ∉ Lib.itoa n:=fun e=>(rT n 32 e).1.1 rfl
 have e:=lh h h32 hr;have hw:=(kQ h (sq n) h32 hr).2;have e2:ly l st.1 st.2 = (n,gM l st.1 st.2):=by unfold ly; rw [e,xd hn]; simp
 refine ⟨by unfold fC; rw [e2],?_⟩;have:(fC l st).2 = (af l st).2:=by unfold fC af; rw [e2]
 rw [this];exact hw
theorem sg {l:List UInt8} {st:RdM} {m:List UInt8} (h:Sx l st m) (hb:(fC l st).2.2 = false):∃ n r,m = Lib.itoa n ++ r/\eR n/\EndWd r:=by
 simp only [fC,ly,Bool.or_eq_false_iff] at hb;obtain ⟨w,r,rfl,h1,h2,h3⟩:=oV h hb.1;rw [lh h h2 h3] at hb
 cases hn:lF w with
 | none=>rw [hn] at hb; cases hb.2
 | some n=>
  obtain ⟨h4,h5⟩:=zD hn;exact ⟨n,r,by rw [h4],h5,h3⟩
def dS (p:PartM):List UInt8:=32 :: (Lib.itoa p.kind ++ 32 :: (qc (bytes p.text) ++ 32 :: Lib.itoa p.n))
def lY (p:PartM):Prop:=eR p.kind/\eR p.n
theorem qI (b:ByteArray):(⟨(bytes b).toArray⟩:ByteArray) = b:=eZ (bE _)
theorem wo {l:List UInt8} {st:RdM} {p:PartM} {r:List UInt8} (h:Sx l st (dS p ++ r)) (hp:lY p) (hr:EndWd r):(iC l st).1 = p/\Sx l (iC l st).2 r:=by
 have e:dS p ++ r = 32 :: (Lib.itoa p.kind ++ 32 :: (qc (bytes p.text) ++ 32 :: (Lib.itoa p.n ++ r))):=by
  simp [dS]
 rw [e] at h;obtain ⟨a1,a2⟩:=lL (cM h) hp.1 EndWd.cons;obtain ⟨b1,b2⟩:=nL (cM a2) EndWd.cons.q;obtain ⟨c1,c2⟩:=lL (cM b2) hp.2 hr;refine ⟨?_,c2⟩
 show (⟨_,_,_⟩:PartM) = p
 rw [a1,b1,c1,qI]
theorem xk {l:List UInt8} {st:RdM} (h:(iC l st).2.2 = false):st.2 = false:=
 bZ (dQ (bZ (il (bZ (dQ h)))))
theorem Aw {l:List UInt8} {st:RdM} {m:List UInt8} (h:Sx l st m) (hb:(iC l st).2.2 = false):∃ p r,m = dS p ++ r/\lY p/\EndWd r:=by
 have h5:=bZ (dQ hb);have h4:=il h5;have h3:=bZ h4;have h2:=dQ h3;obtain ⟨m1,rfl⟩:=fM h h2;have s1:=cM h;obtain ⟨n1,m2,rfl,q1,e1⟩:=sg s1 h3;have s2:=(lL s1 q1 e1).2;obtain ⟨m3,rfl⟩:=fM s2 h4;have s3:=cM s2;obtain ⟨x,m4,rfl,e2⟩:=vk s3 h5;have s4:=(nL s3 e2).2;obtain ⟨m5,rfl⟩:=fM s4 (dQ hb);have s5:=cM s4;obtain ⟨n2,m6,rfl,q2,e3⟩:=sg s5 hb;refine ⟨⟨n1,⟨x.toArray⟩,n2⟩,m6,?_,⟨q1,q2⟩,e3⟩;simp [dS]
theorem fL {l:List UInt8} {st:RdM} {m:List UInt8} (h:Sx l st m):eI l st.1 st.2 = true ↔ m = []:=by
 unfold eI;rw [h.1,Bool.false_or,decide_eq_true_iff];exact h.end_
theorem pR {l:List UInt8}:∀ (ps:List PartM) (f:Nat) (st:RdM) (acc:List PartM),Sx l st (ps.flatMap dS)->(∀ p ∈ ps,lY p)->ps.length < f->(eT l f st acc).1 = acc ++ ps/\Sx l (eT l f st acc).2 []
 | [],f + 1,st,acc,h,_,_=>by
  rw [eT,if_pos ((fL h).2 rfl)];exact ⟨by simp,h⟩
 | p :: ps,f + 1,st,acc,h,hp,hf=>by
  rw [flatMap_cons] at h;have hne:¬ eI l st.1 st.2 = true:=fun e=>by
   have:=(fL h).1 e;simp [dS] at this
  have hr:EndWd (ps.flatMap dS):=by
   cases ps with
   | nil=>exact .inl rfl
   | cons q qs=>exact .inr (by simp [dS])
  obtain ⟨h1,h2⟩:=wo h (hp p mem_cons_self) hr;rw [eT,if_neg hne];simp only [length_cons] at hf;obtain ⟨h3,h4⟩:=pR ps f _ (acc ++ [(iC l st).1]) h2 (fun q hq=>hp q (mem_cons_of_mem _ hq)) (by omega);exact ⟨by rw [h3,h1]; simp,h4⟩
theorem lK {l:List UInt8}:∀ (f:Nat) (st:RdM) (acc:List PartM),(eT l f st acc).2.2 = false->st.2 = false
 | 0,st,acc,h=>h
 | f + 1,st,acc,h=>by
  rw [eT] at h
  split at h
  ·exact h
  ·exact xk (lK f _ _ h)
theorem tq {l:List UInt8}:∀ (f:Nat) (st:RdM) (acc:List PartM) (m:List UInt8),Sx l st m->m.length < f->(eT l f st acc).2.2 = false->∃ ps:List PartM,m = ps.flatMap dS/\(∀ p ∈ ps,lY p)/\ps.length <= m.length
 | f + 1,st,acc,m,h,hf,hb=>by
  rw [eT] at hb
  split at hb
  ·rename_i h1
   have:=(fL h).1 h1;subst this;exact ⟨[],rfl,by simp,by simp⟩
  ·have hm:=lK _ _ _ hb
   obtain ⟨p,r,rfl,h1,h2⟩:=Aw h hm;have hs:=(wo h h1 h2).2;have hl:(dS p).length ≠ 0:=by simp [dS]
   rw [length_append] at hf;obtain ⟨ps,rfl,h3,h4⟩:=tq f _ _ r hs (by omega) hb;refine ⟨p :: ps,rfl,?_,?_⟩
   ·intro q hq
    rcases List.mem_cons.1 hq with rfl | hq
    ·exact h1
    ·exact h3 q hq
   ·rw [length_append,length_cons]; omega
def kP (w:List UInt8):Prop:=w ≠ []/\32 ∉ w
def cf (ws:List (List UInt8)):List UInt8:=ws.flatMap fun w=>32 :: w
theorem oq (ws:List (List UInt8)):EndWd (cf ws):=by
 cases ws with
 | nil=>exact .inl rfl
 | cons q qs=>exact .inr (by simp [cf])
theorem pl {l:List UInt8}:∀ (ws:List (List UInt8)) (f:Nat) (st:RdM) (acc:List ItemM),Sx l st (cf ws)->(∀ w ∈ ws,kP w)->ws.length < f->(eU l f st acc).1 = acc ++ ws.map dn/\Sx l (eU l f st acc).2 []
 | [],f + 1,st,acc,h,_,_=>by
  rw [eU,if_pos ((fL h).2 rfl)];exact ⟨by simp,h⟩
 | w :: ws,f + 1,st,acc,h,hp,hf=>by
  have e:cf (w :: ws) = 32 :: (w ++ cf ws):=by simp [cf]
  rw [e] at h;have hne:¬ eI l st.1 st.2 = true:=fun e=>by
   have:=(fL h).1 e
   cases this
  obtain ⟨g1,g2⟩:=hp w mem_cons_self;obtain ⟨h1,h2⟩:=wz (cM h) g1 g2 (oq ws);rw [eU,if_neg hne];simp only [length_cons] at hf;obtain ⟨h3,h4⟩:=pl ws f _ (acc ++ [(eu l (aQ l st)).1]) h2 (fun q hq=>hp q (mem_cons_of_mem _ hq)) (by omega);exact ⟨by rw [h3,h1]; simp,h4⟩
theorem lQ {l:List UInt8}:∀ (f:Nat) (st:RdM) (acc:List ItemM),(eU l f st acc).2.2 = false->st.2 = false
 | 0,st,acc,h=>h
 | f + 1,st,acc,h=>by
  rw [eU] at h
  split at h
  ·exact h
  ·exact bZ (lJ (lQ f _ _ h))
theorem uN {l:List UInt8}:∀ (f:Nat) (st:RdM) (acc:List ItemM) (m:List UInt8),Sx l st m->m.length < f->(eU l f st acc).2.2 = false->∃ ws,m = cf ws/\(∀ w ∈ ws,kP w)/\ws.length <= m.length
 | f + 1,st,acc,m,h,hf,hb=>by
  rw [eU] at hb
  split at hb
  ·rename_i h1
   have:=(fL h).1 h1;subst this;exact ⟨[],rfl,by simp,by simp⟩
  ·have hm:=lQ _ _ _ hb
   obtain ⟨m1,rfl⟩:=fM h (lJ hm);have s1:=cM h;obtain ⟨w,r,rfl,h1,h2,h3⟩:=BQ s1 hm;have hs:=(wz s1 h1 h2 h3).2;simp only [length_cons,length_append] at hf;obtain ⟨ws,rfl,h4,h5⟩:=uN f _ _ r hs (by omega) hb;refine ⟨w :: ws,by simp [cf],?_,?_⟩
   ·intro q hq
    rcases List.mem_cons.1 hq with rfl | hq
    ·exact ⟨h1,h2⟩
    ·exact h4 q hq
   ·simp only [length_cons,length_append]; omega
def jy (ns:List Int):List UInt8:=ns.flatMap fun n=>32 :: Lib.itoa n
theorem rF (ns:List Int):EndWd (jy ns):=by
 cases ns with
 | nil=>exact .inl rfl
 | cons q qs=>exact .inr (by simp [jy])
theorem sf {l:List UInt8}:∀ (ns:List Int) (f:Nat) (st:RdM) (acc:List Int),Sx l st (jy ns)->(∀ n ∈ ns,eR n)->ns.length <= f->(fU l f st acc).1 = acc ++ ns/\Sx l (fU l f st acc).2 []
 | [],0,st,acc,h,_,_=>⟨by simp [fU],h⟩
 | [],f + 1,st,acc,h,_,_=>by
  rw [fU,if_pos ((fL h).2 rfl)];exact ⟨by simp,h⟩
 | n :: ns,f + 1,st,acc,h,hp,hf=>by
  have e:jy (n :: ns) = 32 :: (Lib.itoa n ++ jy ns):=by simp [jy]
  rw [e] at h;have hne:¬ eI l st.1 st.2 = true:=fun e=>by
   have:=(fL h).1 e
   cases this
  obtain ⟨h1,h2⟩:=lL (cM h) (hp n mem_cons_self) (rF ns);rw [fU,if_neg hne];simp only [length_cons] at hf;obtain ⟨h3,h4⟩:=sf ns f _ (acc ++ [(fC l (aQ l st)).1]) h2 (fun q hq=>hp q (mem_cons_of_mem _ hq)) (by omega);exact ⟨by rw [h3,h1]; simp,h4⟩
theorem nI {l:List UInt8}:∀ (f:Nat) (st:RdM) (acc:List Int),(fU l f st acc).2.2 = false->st.2 = false
 | 0,st,acc,h=>h
 | f + 1,st,acc,h=>by
  rw [fU] at h
  split at h
  ·exact h
  ·exact bZ (dQ (nI f _ _ h))
theorem wq {l:List UInt8}:∀ (f:Nat) (st:RdM) (acc:List Int) (m:List UInt8),Sx l st m->(fU l f st acc).2.2 = false->(fU l f st acc).2.1 = l.length->∃ ns,m = jy ns/\(∀ n ∈ ns,eR n)/\ns.length <= f
 | 0,st,acc,m,h,hb,he=>by
  have:=h.end_.1 he;subst this;exact ⟨[],rfl,by simp,by simp⟩
 | f + 1,st,acc,m,h,hb,he=>by
  rw [fU] at hb he
  split at hb
  ·rename_i h1
   have:=(fL h).1 h1;subst this;exact ⟨[],rfl,by simp,by simp⟩
  ·rename_i h9
   rw [if_neg h9] at he;have hm:=nI _ _ _ hb;obtain ⟨m1,rfl⟩:=fM h (dQ hm);have s1:=cM h;obtain ⟨n,r,rfl,h1,h3⟩:=sg s1 hm;have hs:=(lL s1 h1 h3).2;obtain ⟨ns,rfl,h4,h5⟩:=wq f _ _ r hs hb he;refine ⟨n :: ns,by simp [jy],?_,?_⟩
   ·intro q hq
    rcases List.mem_cons.1 hq with rfl | hq
    ·exact h1
    ·exact h4 q hq
   ·simp only [length_cons]; omega
end
section
theorem rFin_iff {l:List UInt8} {st:RdM}:jc l st = true ↔ st.2 = false/\st.1 = l.length:=by
 unfold jc
 cases st.2 <;> simp
theorem Sx.fin {l:List UInt8} {st:RdM} (h:Sx l st []):jc l st = true:=rFin_iff.2 ⟨h.1,h.end_.2 rfl⟩
theorem hZ {s t:ByteArray} {ws:List WordM} (he:bytes s = bytes t ++ ba ws) (h1:bytes t ≠ []/\32 ∉ bytes t) (h2:(bytes t).head? ≠ some 34) (h4:bytes t ≠ [108,105,115,116]) (h5:bytes t ≠ [110,97,109,101]) (hw:∀ w ∈ ws,fW false w):dY s = some (⟨t,false⟩ :: ws):=by
 have he':bytes s = bW ((⟨t,false⟩ :: ws:List WordM).map prW):=by rw [lP,he]; rfl
 have hb:fV s = false:=uo (w:=⟨t,false⟩) h1 rfl he' h4 h5;refine jI (by simp) ?_ he';rw [hb];intro w hm
 rcases List.mem_cons.1 hm with rfl | hm
 ·unfold fW
  rw [if_neg Bool.false_ne_true];exact ⟨h1.1,h1.2,.inr h2⟩
 ·exact hw w hm
theorem tp {s p:ByteArray} {r:List UInt8} (h:bytes s = bytes p ++ r):fy s p = true:=by
 have hs:s.size = p.size + r.length:=by rw [aI s,aI p,h,length_append]
 unfold fy;rw [decide_eq_true (by omega),cond_true,decide_eq_true_iff]
 apply eZ
 rw [bB,h,aI p,drop_zero,Nat.sub_zero,take_left]
theorem om {s t:ByteArray} {ws:List (List UInt8)} (ht:t = fS \/ t = jg) (he:bytes s = bytes t ++ cf ws) (hw:∀ w ∈ ws,kP w):dY s = some (⟨t,false⟩ :: ws.map fun w=>⟨⟨w.toArray⟩,false⟩):=by
 have hm:cf ws = ba (ws.map fun w=>⟨⟨w.toArray⟩,false⟩):=by
  unfold cf ba;rw [flatMap_map]
  congr 1
 have he':bytes s = bW ((⟨t,false⟩ :: ws.map (fun w=>⟨⟨w.toArray⟩,false⟩):List WordM).map prW):=by rw [lP,he,hm]; rfl
 have hg:∀ b,fW b ⟨t,false⟩:=fun b=>by
  unfold fW;rw [if_neg Bool.false_ne_true]
  rcases ht with rfl | rfl <;> exact ⟨by decide,by decide,.inr (by decide)⟩
 refine jI (by simp) ?_ he';intro w hw2
 rcases List.mem_cons.1 hw2 with rfl | hw2
 ·exact hg _
 ·have hb:fV s = true:=by
   cases ws with
   | nil=>cases hw2
   | cons q qs=>
    have e:cf (q :: qs) = 32 :: (q ++ cf qs):=by simp [cf]
    rw [e] at he;unfold fV
    rcases ht with rfl | rfl
    ·rw [tp (p:=rM) (r:=q ++ cf qs) (by rw [he]; rfl),cond_true]
    ·rw [tp (p:=zi) (r:=q ++ cf qs) (by rw [he]; rfl)]
     cases fy s rM <;> rfl
  obtain ⟨q,hq,rfl⟩:=List.mem_map.1 hw2;unfold fW;rw [if_neg Bool.false_ne_true,hb];exact ⟨(hw q hq).1,(hw q hq).2,.inl rfl⟩
theorem lA {b:Bool}:∀ (f:Nat) (s:List UInt8) (ws:List WordM),ce b f s = some ws->∀ w ∈ ws,w.lit = false->kP (bytes w.s)
 | 0,s,ws,h,_,_,_=>by cases h
 | f + 1,s,ws,h,w,hw,hl=>by
  rw [ce] at h
  split at h
  ·cases h
  ·rename_i t r ht
   have htok:t.lit = false->kP (bytes t.s):=by
    intro htl;unfold jb at ht
    split at ht
    ·split at ht
     ·cases ht
     ·split at ht
      ·cases ht
      ·simp only [Option.some.injEq,Prod.mk.injEq] at ht
       obtain ⟨rfl,_⟩:=ht
       cases htl
    ·split at ht
     ·cases ht
     ·rename_i hne
      simp only [Option.some.injEq,Prod.mk.injEq] at ht;obtain ⟨rfl,_⟩:=ht;refine ⟨hne,fun hm=>?_⟩;have:=uz hm;simp at this
   split at h
   ·simp only [Option.some.injEq] at h
    subst h;rw [mem_singleton] at hw;subst hw;exact htok hl
   ·split at h
    ·cases h
    ·cases hq:ce b f (r.drop 1) with
     | none=>rw [hq] at h; cases h
     | some ws'=>
      rw [hq] at h;simp only [Option.map_some,Option.some.injEq] at h;subst h
      rcases List.mem_cons.1 hw with rfl | hw
      ·exact htok hl
      ·exact lA f _ _ hq w hw hl
theorem oL (x:ByteArray):bytes (eW x) = bytes jf ++ 32 :: qc (bytes x):=by
 rw [eW,bS];simp only [bW,flatMap_cons,flatMap_nil,append_nil,de]
 rfl
theorem nh (l:List PartM):bytes (ep l) = bytes fu ++ l.flatMap dS:=by
 rw [ep,fb (g:=cz) fun s x=>by rw [cY,bS]; simp [bW,ba,cz,prW]]
 congr 1
 unfold ba;rw [flatMap_assoc]
 congr 1
 funext p
 simp [cz,prW,dS,de,iG]
theorem xS (l:List PartM):bytes (ep l) = bytes fu ++ ba (l.flatMap cz):=by
 rw [ep,fb (g:=cz) fun s x=>by rw [cY,bS]; simp [bW,ba,cz,prW]]
 rfl
theorem lN (l:List ItemM):bytes (fI l) = bytes fS ++ cf (l.map fun x=>bytes (mQ x)):=by
 rw [fI,fb (g:=fH) fun s x=>by rw [cL,bS]; simp [bW,ba,fH,prW,mQ]]
 congr 1
 unfold ba cf;rw [flatMap_assoc,flatMap_map]
 congr 1
 funext x
 simp [fH,prW]
theorem mN (s:SpotM):bytes (dd s) = bytes gJ ++ 32 :: (Lib.itoa s.at_ ++ 32 :: qc (bytes s.name)):=by
 rw [dd,bS];simp only [bW,flatMap_cons,flatMap_nil,append_nil,de,iG];simp [gJ]
theorem uO (i:InsM):bytes (fR i) = bytes (aG i.op).name ++ ba (po i):=by
 rw [fR,fb (g:=fun n=>[⟨ac n,false⟩]) fun s x=>by rw [cR,bS]; simp [bW,ba,prW]];rw [po,<- map_eq_flatMap]
theorem rW (i:InsM):bytes (fR i) = bytes (aG i.op).name ++ jy (dh i):=by
 rw [uO]
 congr 1
 unfold ba po jy;rw [flatMap_map]
 congr 1
theorem rU (w:List UInt8):fp ⟨⟨w.toArray⟩,false⟩ = dn w:=by
 unfold fp dn;rw [wm,bE];have e1:bytes ((⟨w.toArray⟩:ByteArray).extract 1 (⟨w.toArray⟩:ByteArray).size) = w.drop 1:=by rw [df,bE]
 by_cases h:nq w
 ·rw [if_pos h]
  obtain ⟨⟨h1,h2⟩,h3⟩:=h;rw [if_pos]
  ·simp only [ItemM.mk.injEq,and_true]
   apply eZ
   rw [bB,e1,aI,e1,bE,drop_zero,Nat.sub_zero,length_drop]
  ·refine ⟨?_,?_⟩
   ·rw [decide_eq_true_iff,head?_eq_getElem?]; exact h2
   ·unfold ez
    rw [e1,decide_eq_true_iff,getLast?_eq_getElem?,length_drop,getElem?_drop];rw [show 1 + (w.length - 1 - 1) = w.length - 1 by omega];exact h3
 ·rw [if_neg h,if_neg]
  rintro ⟨h1,h2⟩
  apply h
  have h1:=of_decide_eq_true h1;unfold ez at h2;rw [e1] at h2;have h2:=of_decide_eq_true h2;rw [getLast?_eq_getElem?,length_drop,getElem?_drop] at h2;obtain ⟨h3,_⟩:=List.getElem?_eq_some_iff.1 h2;refine ⟨⟨by omega,by rw [<- head?_eq_getElem?]; exact h1⟩,?_⟩;rw [show w.length - 1 = 1 + (w.length - 1 - 1) by omega];exact h2
theorem pm (w:List UInt8):bytes (mQ (dn w)) = w:=by
 unfold dn
 by_cases h:nq w
 ·rw [if_pos h]
  obtain ⟨⟨h1,h2⟩,h3⟩:=h;unfold mQ;rw [if_pos rfl,bh,bh,bE]
  cases w with
  | nil=>simp at h1
  | cons c t=>
   simp only [getElem?_cons_zero,Option.some.injEq] at h2;subst h2;simp only [length_cons,Nat.add_sub_cancel,drop_succ_cons,drop_zero] at h1 h3 ⊢;have ht:t ≠ []:=by rintro rfl; simp at h1
   have h4:t.getLast? = some 41:=by
    rw [getLast?_eq_getElem?]
    cases t with
    | nil=>exact absurd rfl ht
    | cons d t=>simpa using h3
   have h5:t.dropLast ++ [41] = t:=by
    have e:=dropLast_concat_getLast ht;have e2:t.getLast ht = 41:=by
     rw [getLast?_eq_some_getLast ht] at h4;exact Option.some.inj h4
    rw [e2] at e;exact e
   rw [<- dropLast_eq_take]
   show 40 :: (t.dropLast ++ [41]) = _
   rw [h5]
 ·rw [if_neg h]
  unfold mQ;rw [if_neg Bool.false_ne_true,bE]
theorem uC:∀ ws:List (List UInt8),eP (ws.map fun w=>⟨⟨w.toArray⟩,false⟩) = some (ws.map dn)
 | []=>rfl
 | w :: ws=>by
  rw [map_cons,eP,if_neg Bool.false_ne_true,uC ws,rU]
  rfl
theorem rL:∀ (ws:List WordM) (l:List ItemM),eP ws = some l->(∀ w ∈ ws,w.lit = false)/\l = ws.map fun w=>dn (bytes w.s)
 | [],l,h=>by simp only [eP,Option.some.injEq] at h; subst h; simp
 | x :: ws,l,h=>by
  rw [eP] at h
  split at h
  ·cases h
  ·rename_i hx
   cases ht:eP ws with
   | none=>rw [ht] at h; cases h
   | some l'=>
    rw [ht] at h;simp only [Option.map_some,Option.some.injEq] at h;obtain ⟨h1,h2⟩:=rL ws l' ht;have hx:x.lit = false:=by simpa using hx
    subst h;refine ⟨fun w hw=>?_,?_⟩
    ·rcases List.mem_cons.1 hw with rfl | hw
     ·exact hx
     ·exact h1 w hw
    ·rw [h2,map_cons]
     congr 1
     rw [<- rU]
     congr 1
     obtain ⟨s,lit⟩:=x;simp only at hx;subst hx;rw [qI]
theorem li:∀ {l:List PartM},(∀ p ∈ l,lY p)->dg (l.flatMap cz) = some l
 | [],_=>rfl
 | x :: l,h=>by
  have hx:=h x mem_cons_self;rw [flatMap_cons]
  show dg (⟨ac x.kind,false⟩ :: ⟨x.text,true⟩ :: ⟨ac x.n,false⟩ :: l.flatMap cz) = _
  rw [dg,iE hx.1,iE hx.2];simp only [if_true];rw [li fun y hy=>h y (mem_cons_of_mem _ hy)]
  rfl
theorem qq:∀ {l qs:List PartM},dg (l.flatMap cz) = some qs->∀ p ∈ l,lY p
 | [],_,_,_,hp=>by cases hp
 | x :: l,qs,h,p,hp=>by
  rw [flatMap_cons] at h;have h:dg (⟨ac x.kind,false⟩ :: ⟨x.text,true⟩ :: ⟨ac x.n,false⟩ :: l.flatMap cz) = some qs:=h;rw [dg] at h
  split at h
  ·rename_i k n h1 h2
   simp only [if_true] at h
   cases ht:dg (l.flatMap cz) with
   | none=>rw [ht] at h; cases h
   | some q'=>
    rcases List.mem_cons.1 hp with rfl | hp
    ·exact ⟨mD h1,mD h2⟩
    ·exact qq ht p hp
  ·cases h
theorem mB:∀ {l:List Int},(∀ n ∈ l,eR n)->fz (l.map fun n=>⟨ac n,false⟩) = some l
 | [],_=>rfl
 | x :: l,h=>by
  rw [map_cons,fz,iE (h x mem_cons_self)];simp only;rw [mB fun y hy=>h y (mem_cons_of_mem _ hy)]
  rfl
theorem rE:∀ {l ms:List Int},fz (l.map fun n=>⟨ac n,false⟩) = some ms->∀ n ∈ l,eR n
 | [],_,_,_,hp=>by cases hp
 | x :: l,ms,h,n,hn=>by
  rw [map_cons,fz] at h
  split at h
  ·cases h
  ·rename_i k h1
   cases ht:fz (l.map fun n=>(⟨ac n,false⟩:WordM)) with
   | none=>rw [ht] at h; cases h
   | some m'=>
    rcases List.mem_cons.1 hn with rfl | hn
    ·exact mD h1
    ·exact rE ht n hn
theorem wA (i:InsM):(dh i).getLast? ≠ some 0:=by
 obtain ⟨op,a,b,c⟩:=i;simp only [dh,dZ,getD_cons_zero,getD_cons_succ];(repeat' split) <;> simp_all
theorem zz {ns:List Int} {op:Int} (hl:ns.length <= 3) (h0:ns.getLast? ≠ some 0):dh ⟨op,ns.getD 0 0,ns.getD 1 0,ns.getD 2 0⟩ = ns:=by
 match ns,hl with
 | [],_=>simp [dh,dZ]
 | [a],_=>
  have:a ≠ 0:=by rintro rfl; simp at h0
  simp [dh,dZ,this]
 | [a,b],_=>
  have:b ≠ 0:=by rintro rfl; simp at h0
  simp [dh,dZ,this]
 | [a,b,c],_=>
  have:c ≠ 0:=by rintro rfl; simp at h0
  simp [dh,dZ,this]
 | _ :: _ :: _ :: _ :: _,h=>simp at h
theorem rD {s:ByteArray} {k:Nat}:∀ (l:List FormM) (j:Nat),dT s l j = some k->∃ f,l[k - j]? = some f/\f.name = s/\0 < k/\j <= k
 | [],j,h=>by cases h
 | f :: l,j,h=>by
  rw [dT] at h
  split at h
  ·rename_i hf
   simp only [Option.some.injEq] at h;subst h;exact ⟨f,by simp,hf.1,hf.2,Nat.le_refl _⟩
  ·obtain ⟨g,h1,h2,h3,h4⟩:=rD l (j + 1) h
   refine ⟨g,?_,h2,h3,by omega⟩;rw [show k - j = (k - (j + 1)) + 1 by omega,getElem?_cons_succ];exact h1
theorem tu {s:ByteArray} {k:Nat} (h:dT s formL 0 = some k):1 <= (k:Int)/\(k:Int) <= 46/\(aG (k:Int)).name = s/\opN s = k:=by
 obtain ⟨f,h1,h2,h3,_⟩:=rD _ _ h;rw [Nat.sub_zero] at h1;obtain ⟨h4,h5⟩:=List.getElem?_eq_some_iff.1 h1;rw [iu] at h4;refine ⟨by omega,by omega,?_,by unfold opN; rw [h]; rfl⟩;rw [<- h2];have hok:cO (k:Int) = true:=by unfold cO; simp; omega
 unfold aG;rw [if_pos hok,Int.toNat_natCast,getD_eq_getElem?_getD,h1]
 rfl
theorem zb {s:ByteArray} (h:opN s ≠ 0):dT s formL 0 = some (opN s):=by
 unfold opN at h ⊢
 cases ho:dT s formL 0 with
 | none=>rw [ho] at h; exact absurd rfl h
 | some k=>rfl
theorem ss {i:InsM} (h1:1 <= i.op) (h2:i.op <= 46) (hn:∀ n ∈ dh i,eR n):em (aG i.op).name (po i) = some i:=by
 obtain ⟨e1,e2,e3,e4⟩:=rX i;unfold em;rw [if_neg (by rw [po,length_map]; omega),po,mB hn];simp only;rw [(sd h1 h2).2.2.2.2];simp only [e1,e2,e3];obtain ⟨op,a,b,c⟩:=i;simp only [Option.some.injEq,InsM.mk.injEq,and_true];simp only at h1;omega
end
section
theorem rS (s:ByteArray):(cH s = 0->s = jf)/\(cH s = 1->s = fu)/\(cH s = 2->s = fS)/\(cH s = 3->s = gJ)/\(cH s = 4->s = jg):=by
 unfold cH;refine ⟨?_,?_,?_,?_,?_⟩ <;> (repeat' split) <;> intro h <;> first | assumption | omega
theorem ph (s:ByteArray):0 <= cH s/\cH s <= 5:=by
 unfold cH;(repeat' split) <;> omega
section
variable {c:aH} {kind:Int} {l:List UInt8}
theorem tl (hk:cH (af l (0,false)).1 < kind):dP c kind l = (c,cH (af l (0,false)).1,false):=by
 unfold dP;exact if_pos hk
theorem sW (h:cH (af l (0,false)).1 = 0) (hk:¬ (0:Int) < kind):dP c kind l = ({ c with consts:=c.consts ++ [(fY l (aQ l (af l (0,false)).2)).1] },0,jc l (fY l (aQ l (af l (0,false)).2)).2):=by
 unfold dP;simp only [h];rw [if_neg hk,if_pos trivial]
theorem sV (h:cH (af l (0,false)).1 = 1) (hk:¬ (1:Int) < kind):dP c kind l = ({ c with tmpls:=c.tmpls ++ [(eT l (l.length + 2) (af l (0,false)).2 []).1] },1,jc l (eT l (l.length + 2) (af l (0,false)).2 []).2):=by
 unfold dP;simp only [h];rw [if_neg hk,if_neg (by decide),if_pos trivial]
theorem sU (h:cH (af l (0,false)).1 = 2) (hk:¬ (2:Int) < kind):dP c kind l = ({ c with lists:=c.lists ++ [(eU l (l.length + 2) (af l (0,false)).2 []).1] },2,jc l (eU l (l.length + 2) (af l (0,false)).2 []).2):=by
 unfold dP;simp only [h];rw [if_neg hk,if_neg (by decide),if_neg (by decide),if_pos trivial]
theorem sT (h:cH (af l (0,false)).1 = 3) (hk:¬ (3:Int) < kind):dP c kind l = ({ c with labels:=c.labels ++ [⟨(fY l (aQ l (fC l (aQ l (af l (0,false)).2)).2)).1,(fC l (aQ l (af l (0,false)).2)).1⟩] },3,jc l (fY l (aQ l (fC l (aQ l (af l (0,false)).2)).2)).2):=by
 unfold dP;simp only [h];rw [if_neg hk,if_neg (by decide),if_neg (by decide),if_neg (by decide),if_pos trivial]
theorem sS (h:cH (af l (0,false)).1 = 4) (hk:¬ (4:Int) < kind):dP c kind l = ({ c with slots:=c.slots ++ [(af l (aQ l (af l (0,false)).2)).1] },4,jc l (af l (aQ l (af l (0,false)).2)).2):=by
 unfold dP;simp only [h];rw [if_neg hk,if_neg (by decide),if_neg (by decide),if_neg (by decide),if_neg (by decide),if_pos trivial]
theorem sR (h:cH (af l (0,false)).1 = 5) (hk:¬ (5:Int) < kind):dP c kind l = ({ c with ins:=c.ins ++ [(qZ l (af l (0,false)).1 (af l (0,false)).2).1] },5,jc l (qZ l (af l (0,false)).1 (af l (0,false)).2).2):=by
 unfold dP;simp only [h];rw [if_neg hk,if_neg (by decide),if_neg (by decide),if_neg (by decide),if_neg (by decide),if_neg (by decide)]
theorem Sx.start {m:List UInt8} (h:l = m):Sx l (0,false) m:=⟨rfl,Nat.zero_le _,h⟩
theorem iy (h:(af l (0,false)).2.2 = false):∃ w r,l = w ++ r/\kP w/\EndWd r/\(af l (0,false)).1 = ⟨w.toArray⟩/\Sx l (af l (0,false)).2 r:=by
 obtain ⟨w,r,h1,h2,h3,h4⟩:=oV (Sx.start rfl) h;obtain ⟨h5,h6⟩:=kQ (Sx.start h1) h2 h3 h4;exact ⟨w,r,h1,⟨h2,h3⟩,h4,h5,h6⟩
theorem sk {x:ByteArray} (hk:kind <= 0):dH c kind (eW x) = some ({ c with consts:=c.consts ++ [x] },0):=by
 have hw:dY (eW x) = some (⟨jf,false⟩ :: oe x):=hZ (by rw [eW,bS]; simp [bW,ba,oe,prW,jf]) (by decide) (by decide) (by decide) (by decide) (by simp only [oe,mem_singleton,forall_eq]; exact pb x);unfold dH;rw [hw];have e:cc ⟨jf,false⟩ = 0:=by decide
 simp only [e,oe];rw [if_neg (by simp; omega),if_pos trivial,if_pos ⟨trivial,trivial⟩]
theorem oy (l:List PartM):dY (ep l) = some (⟨fu,false⟩ :: l.flatMap cz):=
 hZ (xS l) (by decide) (by decide) (by decide) (by decide) (by
  intro w hw;obtain ⟨p,hp,hw⟩:=List.mem_flatMap.1 hw;simp only [cz,mem_cons,not_mem_nil,or_false] at hw
  rcases hw with rfl | rfl | rfl
  ·exact (mC _ _).1
  ·exact pb _
  ·exact (mC _ _).1)
theorem uE {t:List PartM} (hk:kind <= 1) (h:∀ p ∈ t,lY p):dH c kind (ep t) = some ({ c with tmpls:=c.tmpls ++ [t] },1):=by
 unfold dH;rw [oy];have e:cc ⟨fu,false⟩ = 1:=by decide
 simp only [e];rw [if_neg (by simp; omega),if_neg (by decide),if_pos trivial,li h];simp only;rw [if_pos trivial]
theorem uG {ws:List (List UInt8)} (hk:kind <= 2) (h:∀ w ∈ ws,kP w):dH c kind (fI (ws.map dn)) = some ({ c with lists:=c.lists ++ [ws.map dn] },2):=by
 have hb:bytes (fI (ws.map dn)) = bytes fS ++ cf ws:=by
  rw [lN,map_map]
  congr 2
  conv=>rhs; rw [<- map_id ws]
  congr 1
  funext w
  exact pm w
 unfold dH;rw [om (.inl rfl) hb h];have e:cc ⟨fS,false⟩ = 2:=by decide
 simp only [e];rw [if_neg (by simp; omega),if_neg (by decide),if_neg (by decide),if_pos trivial,uC];simp only;rw [if_pos trivial]
theorem oC (s:SpotM):dY (dd s) = some (⟨gJ,false⟩ :: mM s):=
 hZ (by rw [dd,bS]; simp [bW,ba,mM,prW,gJ]) (by decide) (by decide) (by decide) (by decide) (by
  intro w hw;simp only [mM,mem_cons,not_mem_nil,or_false] at hw
  rcases hw with rfl | rfl
  ·exact (mC _ _).1
  ·exact pb _)
theorem sj {s:SpotM} (hk:kind <= 3) (hn:eR s.at_):dH c kind (dd s) = some ({ c with labels:=c.labels ++ [s] },3):=by
 unfold dH;rw [oC];have e:cc ⟨gJ,false⟩ = 3:=by decide
 simp only [e,mM];rw [if_neg (by simp; omega),if_neg (by decide),if_neg (by decide),if_neg (by decide),if_pos trivial,iE hn];simp only [true_and,if_true]
theorem uF {x s:ByteArray} (hk:kind <= 4) (hs:bytes s = bytes jg ++ 32 :: bytes x) (h:kP (bytes x)):dH c kind s = some ({ c with slots:=c.slots ++ [x] },4):=by
 have hw:dY s = some (⟨jg,false⟩ :: [⟨x,false⟩]):=by
  have:=om (s:=s) (ws:=[bytes x]) (.inr rfl) (by rw [hs]; simp [cf]) (by simpa using h);rw [this,map_cons,map_nil,qI]
 unfold dH;rw [hw];have e:cc ⟨jg,false⟩ = 4:=by decide
 simp only [e];rw [if_neg (by simp; omega),if_neg (by decide),if_neg (by decide),if_neg (by decide),if_neg (by decide),if_pos trivial,if_pos trivial]
theorem rV {i:InsM} (h1:1 <= i.op) (h2:i.op <= 46):dY (fR i) = some (⟨(aG i.op).name,false⟩ :: po i):=by
 obtain ⟨w1,w2,w3,w4,w5⟩:=sd h1 h2;refine hZ (uO i) w1 w2 ?_ ?_ ?_
 ·intro e
  rw [eZ (b:=fS) e] at w4
  revert w4
  decide
 ·intro e
  rw [eZ (b:=jg) e] at w4
  revert w4
  decide
 ·intro w hw
  obtain ⟨n,_,rfl⟩:=List.mem_map.1 hw;exact (mC _ _).1
theorem vn {i:InsM} (hk:kind <= 5) (h1:1 <= i.op) (h2:i.op <= 46) (hn:∀ n ∈ dh i,eR n):dH c kind (fR i) = some ({ c with ins:=c.ins ++ [i] },5):=by
 unfold dH;rw [rV h1 h2];have e:cc ⟨(aG i.op).name,false⟩ = 5:=by
  unfold cc;rw [if_neg Bool.false_ne_true];exact (sd h1 h2).2.2.2.1
 simp only [e];rw [if_neg (by simp; omega),if_neg (by decide),if_neg (by decide),if_neg (by decide),if_neg (by decide),if_neg (by decide),ss h1 h2 hn];simp only;rw [if_pos trivial]
theorem BJ {s:ByteArray} (h:(dP c kind (bytes s)).2.2 = true):dH c kind s = some ((dP c kind (bytes s)).1,(dP c kind (bytes s)).2.1):=by
 by_cases hk:cH (af (bytes s) (0,false)).1 < kind
 ·rw [tl hk] at h; cases h
 ·have hle:=ph (af (bytes s) (0,false)).1
  obtain ⟨i0,i1,i2,i3,i4⟩:=rS (af (bytes s) (0,false)).1
  by_cases h0:cH (af (bytes s) (0,false)).1 = 0
  ·rw [h0] at hk
   rw [sW h0 hk] at h ⊢;obtain ⟨g1,g2⟩:=rFin_iff.1 h;have g3:=il g1;obtain ⟨w,r,e1,e2,e3,e4,e5⟩:=iy (bZ g3);rw [i0 h0] at e4;obtain ⟨r1,rfl⟩:=fM e5 g3;have s1:=cM e5;obtain ⟨x,r2,rfl,q2⟩:=vk s1 g1;obtain ⟨v2,s2⟩:=nL s1 q2;have:=s2.end_.1 g2;subst this;rw [v2];have hs:s = eW ⟨x.toArray⟩:=eZ (e1.trans (by rw [oL,e4,bE w,bE x,append_nil]))
   conv=>lhs; rw [hs]
   exact sk (by omega)
  ·by_cases h1:cH (af (bytes s) (0,false)).1 = 1
   ·rw [h1] at hk
    rw [sV h1 hk] at h ⊢;obtain ⟨g1,g2⟩:=rFin_iff.1 h;obtain ⟨w,r,e1,e2,e3,e4,e5⟩:=iy (lK _ _ _ g1);rw [i1 h1] at e4;have hlr:r.length <= (bytes s).length:=by rw [e1,length_append]; omega
    obtain ⟨ps,rfl,q1,q2⟩:=tq _ _ _ _ e5 (by omega) g1;obtain ⟨v,s2⟩:=pR ps ((bytes s).length + 2) _ [] e5 q1 (by omega);rw [v,nil_append];have hs:s = ep ps:=eZ (e1.trans (by rw [nh,e4,bE w]))
    conv=>lhs; rw [hs]
    exact uE (by omega) q1
   ·by_cases h2:cH (af (bytes s) (0,false)).1 = 2
    ·rw [h2] at hk
     rw [sU h2 hk] at h ⊢;obtain ⟨g1,g2⟩:=rFin_iff.1 h;obtain ⟨w,r,e1,e2,e3,e4,e5⟩:=iy (lQ _ _ _ g1);rw [i2 h2] at e4;have hlr:r.length <= (bytes s).length:=by rw [e1,length_append]; omega
     obtain ⟨ws,rfl,q1,q2⟩:=uN _ _ _ _ e5 (by omega) g1;obtain ⟨v,s2⟩:=pl ws ((bytes s).length + 2) _ [] e5 q1 (by omega);rw [v,nil_append];have hs:s = fI (ws.map dn):=eZ (e1.trans (by
      rw [lN,e4,bE w,map_map]
      congr 2
      conv=>lhs; rw [<- map_id ws]
      congr 1
      funext w
      exact (pm w).symm))
     conv=>lhs; rw [hs]
     exact uG (by omega) q1
    ·by_cases h3:cH (af (bytes s) (0,false)).1 = 3
     ·rw [h3] at hk
      rw [sT h3 hk] at h ⊢;obtain ⟨g1,g2⟩:=rFin_iff.1 h;have g3:=il g1;have g4:=bZ g3;have g5:=dQ g4;obtain ⟨w,r,e1,e2,e3,e4,e5⟩:=iy (bZ g5);rw [i3 h3] at e4;obtain ⟨r1,rfl⟩:=fM e5 g5;have s1:=cM e5;obtain ⟨n,r2,rfl,q1,q2⟩:=sg s1 g4;obtain ⟨v1,s2⟩:=lL s1 q1 q2;obtain ⟨r3,rfl⟩:=fM s2 g3;have s3:=cM s2;obtain ⟨x,r4,rfl,q3⟩:=vk s3 g1;obtain ⟨v2,s4⟩:=nL s3 q3;have:=s4.end_.1 g2;subst this;rw [v1,v2];have hs:s = dd ⟨⟨x.toArray⟩,n⟩:=eZ (e1.trans (by rw [mN,e4,bE w,bE x,append_nil]))
      conv=>lhs; rw [hs]
      exact sj (by omega) q1
     ·by_cases h4:cH (af (bytes s) (0,false)).1 = 4
      ·rw [h4] at hk
       rw [sS h4 hk] at h ⊢;obtain ⟨g1,g2⟩:=rFin_iff.1 h;have g3:=vT g1;obtain ⟨w,r,e1,e2,e3,e4,e5⟩:=iy (bZ g3);rw [i4 h4] at e4;obtain ⟨r1,rfl⟩:=fM e5 g3;have s1:=cM e5;obtain ⟨x,r2,rfl,q1,q2,q3⟩:=oV s1 g1;obtain ⟨v2,s2⟩:=kQ s1 q1 q2 q3;have:=s2.end_.1 g2;subst this;rw [v2];exact uF (by omega) (e1.trans (by rw [e4,bE w,bE x,append_nil])) (by rw [bE]; exact ⟨q1,q2⟩)
      ·have h5:cH (af (bytes s) (0,false)).1 = 5:=by omega
       rw [h5] at hk;rw [sR h5 hk] at h ⊢;obtain ⟨g1,g2⟩:=rFin_iff.1 h;simp only [qZ,Bool.or_eq_false_iff,decide_eq_false_iff_not] at g1 g2;obtain ⟨⟨g3,g4⟩,g5⟩:=g1;obtain ⟨w,r,e1,e2,e3,e4,e5⟩:=iy (nI _ _ _ g5);obtain ⟨ns,rfl,q1,q2⟩:=wq _ _ _ _ e5 g5 g2;obtain ⟨v,s2⟩:=sf ns 3 _ [] e5 q1 q2;rw [nil_append] at v;rw [v] at g4;obtain ⟨o1,o2,o3,o4⟩:=tu (zb g3);have hi:=zz (op:=(opN (af (bytes s) (0,false)).1:Nat)) q2 g4;have e6:(qZ (bytes s) (af (bytes s) (0,false)).1 (af (bytes s) (0,false)).2).1 = ⟨(opN (af (bytes s) (0,false)).1:Nat),ns.getD 0 0,ns.getD 1 0,ns.getD 2 0⟩:=by
        unfold qZ;simp only [v]
       rw [e6];have hs:s = fR ⟨(opN (af (bytes s) (0,false)).1:Nat),ns.getD 0 0,ns.getD 1 0,ns.getD 2 0⟩:=eZ (e1.trans (by
        rw [rW,hi];simp only;rw [o3,e4,bE w]))
       conv=>lhs; rw [hs]
       exact vn (by omega) o1 o2 (by rw [hi]; exact q1)
theorem iw {w:ByteArray} {r:List UInt8} (h:l = bytes w ++ r) (hw:kP (bytes w)) (hr:EndWd r):(af l (0,false)).1 = w/\Sx l (af l (0,false)).2 r:=by
 obtain ⟨h1,h2⟩:=kQ (Sx.start h) hw.1 hw.2 hr;exact ⟨by rw [h1,qI],h2⟩
theorem BH {s:ByteArray} {c':aH} {k':Int} (h:dH c kind s = some (c',k')):dP c kind (bytes s) = (c',k',true):=by
 unfold dH at h
 split at h
 ·cases h
 ·cases h
 ·rename_i x rest hw
  split at h
  ·cases h
  ·rename_i hk
   have hk1:¬ cc x < kind:=fun e=>hk (.inl e)
   have hlit:x.lit = false:=by
    cases hl:x.lit with
    | false=>rfl
    | true=>exact absurd (.inr hl) hk
   have hkx:cc x = cH x.s:=by unfold cc; rw [hlit,if_neg Bool.false_ne_true]
   obtain ⟨i0,i1,i2,i3,i4⟩:=rS x.s;clear hk;rw [hkx] at h hk1
   split at h
   ·rename_i h0
    rw [h0] at hk1
    split at h
    ·split at h
     ·rename_i y hh
      simp only [Option.some.injEq,Prod.mk.injEq] at h;obtain ⟨rfl,rfl⟩:=h;have hs:bytes s = bytes jf ++ 32 :: qc (bytes y.s):=by rw [<- hh.2,oL]
      obtain ⟨a1,a2⟩:=iw hs ⟨by decide,by decide⟩ EndWd.cons;obtain ⟨b1,b2⟩:=nL (r:=[]) (by rw [append_nil]; exact cM a2) (by simp);rw [sW (by rw [a1]; decide) hk1,b1,b2.fin,qI]
     ·cases h
    ·cases h
   ·split at h
    ·rename_i h0 h1
     rw [h1] at hk1
     split at h
     ·rename_i t ht
      split at h
      ·rename_i hh
       simp only [Option.some.injEq,Prod.mk.injEq] at h;obtain ⟨rfl,rfl⟩:=h;have hs:bytes s = bytes fu ++ t.flatMap dS:=by rw [<- hh,nh]
       rw [<- hh,oy] at hw;simp only [Option.some.injEq,List.cons.injEq] at hw;rw [<- hw.2] at ht;have q1:=qq ht;have hr:EndWd (t.flatMap dS):=by
        cases t with
        | nil=>exact .inl rfl
        | cons q qs=>exact .inr (by simp [dS])
       obtain ⟨a1,a2⟩:=iw hs ⟨by decide,by decide⟩ hr;have hlen:t.length <= (bytes s).length:=by
        rw [hs,length_append];have:∀ ps:List PartM,ps.length <= (ps.flatMap dS).length:=by
         intro ps
         induction ps with
         | nil=>simp
         | cons p ps ih=>
          rw [flatMap_cons,length_append,length_cons];have:(dS p).length ≠ 0:=by simp [dS]
          omega
        have:=this t;omega
       obtain ⟨b1,b2⟩:=pR t ((bytes s).length + 2) _ [] a2 q1 (by omega);rw [sV (by rw [a1]; decide) hk1,b1,b2.fin,nil_append]
      ·cases h
     ·cases h
    ·split at h
     ·rename_i h0 h1 h2
      rw [h2] at hk1
      split at h
      ·rename_i t ht
       split at h
       ·rename_i hh
        simp only [Option.some.injEq,Prod.mk.injEq] at h;obtain ⟨rfl,rfl⟩:=h;obtain ⟨t1,t2⟩:=rL _ _ ht;have hgood:∀ w ∈ rest,kP (bytes w.s):=fun w hm=>lA _ _ _ hw w (mem_cons_of_mem _ hm) (t1 w hm)
        have hq:∀ w ∈ rest.map (fun w=>bytes w.s),kP w:=fun w hm=>by
         obtain ⟨u,hu,rfl⟩:=List.mem_map.1 hm;exact hgood u hu
        have ht3:t = (rest.map fun w=>bytes w.s).map dn:=by rw [t2,map_map]; rfl
        have hs:bytes s = bytes fS ++ cf (rest.map fun w=>bytes w.s):=by
         rw [<- hh,lN,t2,map_map]
         congr 2
         refine map_congr_left fun w _=>?_
         exact pm _
        obtain ⟨a1,a2⟩:=iw hs ⟨by decide,by decide⟩ (oq _);have hlen:(rest.map fun w=>bytes w.s).length <= (bytes s).length:=by
         rw [hs,length_append];have:∀ ps:List (List UInt8),ps.length <= (cf ps).length:=by
          intro ps
          induction ps with
          | nil=>simp
          | cons p ps ih=>
           unfold cf at ih ⊢;rw [flatMap_cons,length_append,length_cons,length_cons];omega
         have:=this (rest.map fun w=>bytes w.s);omega
        obtain ⟨b1,b2⟩:=pl _ ((bytes s).length + 2) _ [] a2 hq (by omega);rw [sU (by rw [a1]; decide) hk1,b1,b2.fin,nil_append,ht3]
       ·cases h
      ·cases h
     ·split at h
      ·rename_i h0 h1 h2 h3
       rw [h3] at hk1
       split at h
       ·rename_i y u
        split at h
        ·rename_i n hn
         split at h
         ·rename_i hh
          simp only [Option.some.injEq,Prod.mk.injEq] at h;obtain ⟨rfl,rfl⟩:=h;have hs:bytes s = bytes gJ ++ 32 :: (Lib.itoa n ++ 32 :: qc (bytes u.s)):=by rw [<- hh.2,mN]
          rw [<- hh.2,oC] at hw;simp only [mM,Option.some.injEq,List.cons.injEq] at hw;rw [<- hw.2.1] at hn;have q1:=mD hn;obtain ⟨a1,a2⟩:=iw hs ⟨by decide,by decide⟩ EndWd.cons;obtain ⟨b1,b2⟩:=lL (cM a2) q1 EndWd.cons;obtain ⟨c1,c2⟩:=nL (r:=[]) (by rw [append_nil]; exact cM b2) (by simp);rw [sT (by rw [a1]; decide) hk1,b1,c1,c2.fin,qI]
         ·cases h
        ·cases h
       ·cases h
      ·split at h
       ·rename_i h0 h1 h2 h3 h4
        rw [h4] at hk1
        split at h
        ·rename_i y
         split at h
         ·rename_i hh
          simp only [Option.some.injEq,Prod.mk.injEq] at h;obtain ⟨rfl,rfl⟩:=h;have hg:=lA _ _ _ hw y (by simp) hh;have hs:bytes s = bytes jg ++ 32 :: (bytes y.s ++ []):=by
           have:=xP hw hlit hh;rw [this,i4 h4,append_nil]
          obtain ⟨a1,a2⟩:=iw hs ⟨by decide,by decide⟩ EndWd.cons;obtain ⟨b1,b2⟩:=kQ (cM a2) hg.1 hg.2 EndWd.nil;rw [sS (by rw [a1]; decide) hk1,b1,b2.fin,qI]
         ·cases h
        ·cases h
       ·rename_i h0 h1 h2 h3 h4
        have hle:=ph x.s;have h5:cH x.s = 5:=by omega
        rw [h5] at hk1 h
        split at h
        ·rename_i i hi
         split at h
         ·rename_i hh
          simp only [Option.some.injEq,Prod.mk.injEq] at h;obtain ⟨rfl,rfl⟩:=h;unfold em at hi
          split at hi
          ·cases hi
          ·split at hi
           ·cases hi
           ·rename_i ns hns
            split at hi
            ·cases hi
            ·rename_i k hop
             simp only [Option.some.injEq] at hi;obtain ⟨o1,o2,o3,o4⟩:=tu hop;have hiop:i.op = k:=by rw [<- hi]
             have hform:(aG i.op).name = x.s:=by rw [hiop]; exact o3
             have hs:bytes s = bytes x.s ++ jy (dh i):=by rw [<- hh,rW,hform]
             have ho1:1 <= i.op:=by rw [hiop]; exact o1
             have ho2:i.op <= 46:=by rw [hiop]; exact o2
             rw [<- hh,rV ho1 ho2] at hw;simp only [Option.some.injEq,List.cons.injEq] at hw;rw [<- hw.2] at hns;have q1:=rE hns;have hgw:=(sd ho1 ho2).1;rw [hform] at hgw;obtain ⟨e1,e2,e3,e4⟩:=rX i;obtain ⟨a1,a2⟩:=iw hs hgw (rF _);obtain ⟨b1,b2⟩:=sf (dh i) 3 _ [] a2 q1 e4;rw [nil_append] at b1;have hlast:=wA i;have hri:qZ (bytes s) (af (bytes s) (0,false)).1 (af (bytes s) (0,false)).2 = (i,(fU (bytes s) 3 (af (bytes s) (0,false)).2 []).2):=by
              unfold qZ;simp only [a1,b1,o4,e1,e2,e3];rw [decide_eq_false (by omega:¬ k = 0),decide_eq_false hlast];simp only [Bool.or_self,Bool.false_or];obtain ⟨op,a,b,d⟩:=i;simp only at hiop;subst hiop
              rfl
             rw [sR (by rw [a1]; exact h5) hk1,hri];simp only;rw [b2.fin]
         ·cases h
        ·cases h
end
theorem BI (c:aH) (kind:Int) (s:ByteArray):(if (dP c kind (bytes s)).2.2 = true then some ((dP c kind (bytes s)).1,(dP c kind (bytes s)).2.1) else none) = dH c kind s:=by
 split
 ·exact (BJ ‹_›).symm
 ·rename_i h
  cases hl:dH c kind s with
  | none=>rfl
  | some p=>
   obtain ⟨c',k'⟩:=p;rw [BH hl] at h;exact absurd rfl h
end
section
def LnR (bc:Nat) (c:aH) (kind:Int) (s:ByteArray) (z:Z) (B:Bl) (r:Value):Prop:=
 r = .tuple #[.int .i64 (dP c kind (bytes s)).2.1,.bool (dP c kind (bytes s)).2.2]/\ReadD bc z (dP c kind (bytes s)).1 B
theorem xg {z:Z} {w:World} {bc:Nat} {B:Bl} {c:aH} {kind:Int} {s:ByteArray} (hB:ReadD bc z c B) (hs:s.size <= 1000000) (hc:FewC c 1000000) :
  Fn 136 #[rdP bc,.string s,.int .i64 kind] z B w (fun z' B' r=>LnR bc c kind s z' B' r):=Fn.intro fun hS=>en136 (by
 unfold vc136;obtain ⟨v1,v2,v3,v4,v5,v6,B1,B2,B3,B4,B5,B6,u1,u2,u3,u4,u5,u6,rfl,o1,l1,o2,l2,o3,l3,o4,l4,o5,l5,o6,l6⟩:=hB;obtain ⟨c1,c2,c3,c4,c5,c6⟩:=hc;have hsz:=aI s;generalize hRR:(fun (v:Value) (w':World)=>∃ z' B',Res w z ((bc,.cells [v1,v2,v3,v4,v5,v6].toArray 28 (0,0)) :: (B1 ++ (B2 ++ (B3 ++ (B4 ++ (B5 ++ (B6 ++ []))))))) w' z' B'/\LnR bc c kind s z' B' v) = RR;generalize hLL:(bc,Obj.cells [v1,v2,v3,v4,v5,v6].toArray 28 (0,0)) :: (B1 ++ (B2 ++ (B3 ++ (B4 ++ (B5 ++ (B6 ++ [])))))) = LL at hRR;have hS0:Res w z LL w z ((bc,.cells [v1,v2,v3,v4,v5,v6].toArray 28 (0,0)) :: (B1 ++ (B2 ++ (B3 ++ (B4 ++ (B5 ++ (B6 ++ []))))))):=by rw [<- hLL]; exact hS
 have hF0:∀ z' w' B' c' k' ok,dP c kind (bytes s) = (c',k',ok)->ReadD bc z' c' B'->Res w z LL w' z' B'->RR (.tuple #[.int .i64 k',.bool ok]) w':=fun z' w' B' c' k' ok h h2 k=>by
  rw [<- hRR];refine ⟨z',B',k,?_⟩;unfold LnR;rw [h];exact ⟨rfl,h2⟩
 clear hS hRR hLL;refine aA ?_;refine aP ?_;intro br w1 hbr hS1;clear hS0;have hS2:Res w z LL w1 z (rdS br s (0,false) :: ((bc,.cells [v1,v2,v3,v4,v5,v6].toArray 28 (0,0)) :: (B1 ++ (B2 ++ (B3 ++ (B4 ++ (B5 ++ (B6 ++ [])))))))):=hS1;clear hS1;refine zL hs (Nat.zero_le _) hS2 ?_;intro z2 w2 hz2 hS3;clear hS2;refine ap vP ?_;rintro z3 w3 v3' hz3 hS4 rfl
 clear hS3;have e0:=@sW c kind (bytes s);have e1:=@sV c kind (bytes s);have e2:=@sU c kind (bytes s);have e3:=@sT c kind (bytes s);have e4:=@sS c kind (bytes s);have e5:=@sR c kind (bytes s);have el:=@tl c kind (bytes s);have hW:=zN (l:=bytes s) (st:=(0,false)) (Nat.zero_le _);have hkl:=ph (af (bytes s) (0,false)).1;generalize af (bytes s) (0,false) = W at e0 e1 e2 e3 e4 e5 el hW hS4 hkl ⊢;obtain ⟨wd,st0⟩:=W;simp only at e0 e1 e2 e3 e4 e5 el hW hS4 hkl ⊢;refine aA ?_;refine aC (fun hk=>?_) (fun hk=>?_)
 ·exact hF0 _ _ _ _ _ _ (el hk) ⟨_,_,_,_,_,_,B1,B2,B3,B4,B5,B6,u1,u2,u3,u4,u5,u6,rfl,o1,l1.mono (by (repeat (exact Res.zle (by assumption)))),o2,l2.mono (by (repeat (exact Res.zle (by assumption)))),o3,l3.mono (by (repeat (exact Res.zle (by assumption)))),o4,l4.mono (by (repeat (exact Res.zle (by assumption)))),o5,l5.mono (by (repeat (exact Res.zle (by assumption)))),o6,l6.mono (by (repeat (exact Res.zle (by assumption))))⟩ (hS4.keep [.at bc,.bl B1,.bl B2,.bl B3,.bl B4,.bl B5,.bl B6])
 clear el;intro K0 hK0;have hF:∀ st z' w' T' c',dP c kind (bytes s) = (c',cH wd,jc (bytes s) st)->ReadD bc z' c' T'->Res w z LL w' z' (rdS br s st :: T')->K0 [] w':=by
  intro st z' w' T' c' h1 h2 hS';refine hK0 _ fun _=>?_
  clear hK0 hS4 e0 e1 e2 e3 e4 e5;intro K hK;obtain ⟨p,bad⟩:=st
  cases bad
  ·(repeat (first | (refine iDr ?_; intro _ _) | refine aK ?_ | refine aW ?_ | refine ah ?_))
   refine hK _ _ _ fun _=>?_
   have e:jc (bytes s) (p,false) = decide (((p:Nat):Int) = (s.size:Nat)):=by
    unfold jc;rw [Bool.not_false,Bool.true_and,hsz];exact decide_eq_decide.2 (by simp only; omega)
   rw [<- e];exact hF0 _ _ _ _ _ _ h1 h2 (Res.sublist (by assumption) (sublist_cons_self _ _))
  ·(repeat (first | (refine iDr ?_; intro _ _) | refine aK ?_ | refine aW ?_ | refine aj ?_))
   refine hK _ _ _ fun _=>?_
   exact hF0 _ _ _ _ _ _ h1 h2 (Res.sublist (by assumption) (sublist_cons_self _ _))
 clear hK0;refine aA ?_;refine aC (fun h0=>?_) (fun h0=>?_)
 ·rw [h0] at hk hF
  have E:=e0 h0 hk;clear e0 e1 e2 e3 e4 e5;refine gT hs hW hS4 ?_;intro z5 w5 hz5 hS5;clear hS4;(repeat (first | (refine iDr ?_; intro _ _) | refine aK ?_ | refine aW ?_));rename_i hS6;clear hS5;refine zM hs (aw hW) hS6 ?_;intro z7 w7 hz7 hS7;clear hS6;have hsl:=nH (bytes s) (aQ (bytes s) st0);refine bN ?_;refine fO (e:=9) (size:=1) (xs:=u1) (v:=v1) hS7 o1 (by simp only [room]; omega) (by simp only [room]; omega) (by omega) ?_;intro s8 w8 b8 hS8 happ;refine bN ?_;refine happ _ ?_;intro B9 v9 w9 o9 hS9;obtain ⟨a9,k9,rfl,_⟩:=o9.form;clear hS7 hS8 happ;(repeat (first | refine aK ?_ | (refine aF ?_; intro _ _)));rename_i hS10;have hS11:=hS10.keep [.at br,.at bc,.bl B9,.bl B2,.bl B3,.bl B4,.bl B5,.bl B6];refine hF _ _ _ _ _ E ⟨_,_,_,_,_,_,B9,B2,B3,B4,B5,B6,_,u2,u3,u4,u5,u6,rfl,by rw [length_append]; exact o9,(l1.mono (by (repeat (exact Res.zle (by assumption))))).push ⟨rfl,by simp only [big]; omega⟩,o2,l2.mono (by (repeat (exact Res.zle (by assumption)))),o3,l3.mono (by (repeat (exact Res.zle (by assumption)))),o4,l4.mono (by (repeat (exact Res.zle (by assumption)))),o5,l5.mono (by (repeat (exact Res.zle (by assumption)))),o6,l6.mono (by (repeat (exact Res.zle (by assumption))))⟩ hS11
 refine aA ?_;refine aC (fun h1=>?_) (fun h1=>?_)
 ·rw [h1] at hk hF
  have E:=e1 h1 hk;clear e0 e1 e2 e3 e4 e5;generalize hX:eT (bytes s) ((bytes s).length + 2) st0 [] = X at E;refine cC (fun (p:Nat × RdM × List PartM) x w'=>p.2.1.1 <= (bytes s).length/\1 <= p.1/\p.1 + p.2.2.length <= (bytes s).length + 2/\(p.2.1.2 = false->(bytes s).length - p.2.1.1 + 1 < p.1)/\X = eT (bytes s) p.1 p.2.1 p.2.2/\∃ B us z',Le z3 z'/\OwnSl 95 3 B x p.2.2.length us/\Lsl El.part z' us p.2.2/\Res w z LL w' z' (rdS br s p.2.1 :: (B ++ ((bc,.cells [v1,v2,v3,v4,v5,v6].toArray 28 (0,0)) :: (B1 ++ (B2 ++ (B3 ++ (B4 ++ (B5 ++ (B6 ++ [])))))))))) (fun p=>p.1) ((bytes s).length + 2,st0,[]) ⟨hW,by simp only; omega,by simp,fun _=>by simp only; omega,hX.symm,[],[],z3,Le.refl _,OwnSl.nil,Lsl.nil,hS4⟩ ?_;rintro I M ⟨f,st,acc⟩ x w5 m ⟨hp,hf1,hlen,hf,hx,B,us,z5,hz5,ho,hls,hS5⟩ back
  simp only at hp hf1 hlen hf hx ho hls hS5
  try dsimp only
  clear hS4 hX;obtain ⟨f,rfl⟩:∃ f',f = f' + 1:=⟨f - 1,by omega⟩
  rw [eT] at hx;refine sZ hs hS5 ?_;intro z6 w6 hz6 hS6;clear hS5;refine aA ?_;refine aU (fun hen=>?_) (fun hen=>?_)
  ·rw [if_neg (by rw [hen]; decide)] at hx
   obtain ⟨hb,hlt⟩:=rG hp hen;have hf:=hf hb;refine gT hs hp hS6 ?_;intro z7 w7 hz7 hS7;clear hS6;refine sY hs (aw hp) hS7 ?_;intro z8 w8 hz8 hS8;clear hS7;refine aA ?_;refine ak ?_;intro bp w9 hbp hS9;clear hS8;refine aF ?_;intro w10 hS10;clear hS9;have hS11:=hS10.bringB br;clear hS10;refine gT hs (fo (aw hp)) hS11 ?_;intro z12 w12 hz12 hS12;clear hS11;refine zM hs (aw (fo (aw hp))) hS12 ?_;intro z13 w13 hz13 hS13;clear hS12;refine aA ?_;refine aF ?_;intro w14 hS14;clear hS13;have hS15:=hS14.bringB br;clear hS14;refine gT hs (sb (aw (fo (aw hp)))) hS15 ?_;intro z16 w16 hz16 hS16;clear hS15;refine sY hs (aw (sb (aw (fo (aw hp))))) hS16 ?_;intro z17 w17 hz17 hS17;clear hS16;refine aA ?_;refine aF ?_;intro w18 hS18;clear hS17;refine ae ?_;refine cb (e:=95) (size:=3) hS18 ho (by simp only [room]; omega) (by simp only [room]; omega) (by omega) ?_;intro B7 v7 w19 ho7 hS19;clear hS18;have hS20:=hS19.keep [.at br,.bl B7,.at bc,.bl B1,.bl B2,.bl B3,.bl B4,.bl B5,.bl B6];clear hS19;have hpl:=zO (l:=bytes s) (st:=st) hp;have hgt:=zP (l:=bytes s) (st:=st) hp;have hps:=vU (bytes s) st;refine back (f,(iC (bytes s) st).2,acc ++ [(iC (bytes s) st).1]) _ _ ⟨hpl,?_,?_,?_,hx,B7,us ++ (iC (bytes s) st).1.cells,_,?_,?_,?_,hS20⟩ ?_
   ·simp only; omega
   ·simp only [length_append,length_singleton]; omega
   ·intro hb2
    have:=hgt hb2;simp only;omega
   ·(repeat (first | assumption | refine Le.trans ?_ (by assumption:Le _ _)))
   ·simp only [length_append,length_singleton]; exact ho7
   ·exact (hls.mono (by (repeat (first | assumption | refine Le.trans ?_ (by assumption:Le _ _))))).push ⟨rfl,by simp only [big]; omega⟩
   ·simp only; omega
  ·rw [if_pos hen] at hx
   rw [hx] at E;simp only at E;obtain ⟨z7,hz7,hS7,hv7⟩:=Res.freezeL (E:=El.part) (e:=95) (xs:=acc) (hS6.bring B) ho (hls.mono (by (repeat (assumption)))) (by simp only [big]; omega);clear hS6;obtain ⟨at_,ct_,rfl,_⟩:=SlR.form2' hv7;(repeat (first | refine aA ?_ | refine aE ?_));refine fO (e:=93) (size:=1) (xs:=u2) (v:=v2) hS7 o2 (by simp only [room]; omega) (by simp only [room]; omega) (by omega) ?_;intro s8 w8 b8 hS8 happ;refine happ _ ?_;intro B9 v9 w9 o9 hS9;obtain ⟨a9,k9,rfl,_⟩:=o9.form;clear hS7 hS8 happ;(repeat (first | refine aA ?_ | (refine aF ?_; intro _ _)));rename_i hS10;have hS11:=hS10.keep [.at br,.at bc,.bl B1,.bl B9,.bl B3,.bl B4,.bl B5,.bl B6];refine hF _ _ _ _ _ E ⟨_,_,_,_,_,_,B1,B9,B3,B4,B5,B6,u1,_,u3,u4,u5,u6,rfl,o1,l1.mono (by (repeat (exact Res.zle (by assumption)))),by rw [length_append]; exact o9,(l2.mono (by (repeat (exact Res.zle (by assumption))))).push ⟨_,rfl,hv7⟩,o3,l3.mono (by (repeat (exact Res.zle (by assumption)))),o4,l4.mono (by (repeat (exact Res.zle (by assumption)))),o5,l5.mono (by (repeat (exact Res.zle (by assumption)))),o6,l6.mono (by (repeat (exact Res.zle (by assumption))))⟩ hS11
 refine aA ?_;refine aC (fun h2=>?_) (fun h2=>?_)
 ·rw [h2] at hk hF
  have E:=e2 h2 hk;clear e0 e1 e2 e3 e4 e5;generalize hX:eU (bytes s) ((bytes s).length + 2) st0 [] = X at E;refine cC (fun (p:Nat × RdM × List ItemM) x w'=>p.2.1.1 <= (bytes s).length/\1 <= p.1/\p.1 + p.2.2.length <= (bytes s).length + 2/\(p.2.1.2 = false->(bytes s).length - p.2.1.1 + 1 < p.1)/\X = eU (bytes s) p.1 p.2.1 p.2.2/\∃ B us z',Le z3 z'/\OwnSl 98 2 B x p.2.2.length us/\Lsl El.item z' us p.2.2/\Res w z LL w' z' (rdS br s p.2.1 :: (B ++ ((bc,.cells [v1,v2,v3,v4,v5,v6].toArray 28 (0,0)) :: (B1 ++ (B2 ++ (B3 ++ (B4 ++ (B5 ++ (B6 ++ [])))))))))) (fun p=>p.1) ((bytes s).length + 2,st0,[]) ⟨hW,by simp only; omega,by simp,fun _=>by simp only; omega,hX.symm,[],[],z3,Le.refl _,OwnSl.nil,Lsl.nil,hS4⟩ ?_;rintro I M ⟨f,st,acc⟩ x w5 m ⟨hp,hf1,hlen,hf,hx,B,us,z5,hz5,ho,hls,hS5⟩ back
  simp only at hp hf1 hlen hf hx ho hls hS5
  try dsimp only
  clear hS4 hX;obtain ⟨f,rfl⟩:∃ f',f = f' + 1:=⟨f - 1,by omega⟩
  rw [eU] at hx;refine sZ hs hS5 ?_;intro z6 w6 hz6 hS6;clear hS5;refine aA ?_;refine aU (fun hen=>?_) (fun hen=>?_)
  ·rw [if_neg (by rw [hen]; decide)] at hx
   obtain ⟨hb,hlt⟩:=rG hp hen;have hf:=hf hb;refine gT hs hp hS6 ?_;intro z7 w7 hz7 hS7;clear hS6;refine CX hs (aw hp) hS7 ?_;intro z8 w8 hz8 hS8;clear hS7;refine cb (e:=98) (size:=2) hS8 ho (by simp only [room]; omega) (by simp only [room]; omega) (by omega) ?_;intro B7 v7 w19 ho7 hS19;clear hS8;have hS20:=hS19.keep [.at br,.bl B7,.at bc,.bl B1,.bl B2,.bl B3,.bl B4,.bl B5,.bl B6];clear hS19;have hpl:=zR (l:=bytes s) (aw (st:=st) hp);have hgt:=zS (l:=bytes s) (st:=st);have hps:=vV (bytes s) (aQ (bytes s) st);refine back (f,(eu (bytes s) (aQ (bytes s) st)).2,acc ++ [(eu (bytes s) (aQ (bytes s) st)).1]) _ _ ⟨hpl,?_,?_,?_,hx,B7,us ++ (eu (bytes s) (aQ (bytes s) st)).1.cells,_,?_,?_,?_,hS20⟩ ?_
   ·simp only; omega
   ·simp only [length_append,length_singleton]; omega
   ·intro hb2
    have:=hgt hb2;simp only;omega
   ·(repeat (first | assumption | refine Le.trans ?_ (by assumption:Le _ _)))
   ·simp only [length_append,length_singleton]; exact ho7
   ·exact (hls.mono (by (repeat (first | assumption | refine Le.trans ?_ (by assumption:Le _ _))))).push ⟨rfl,by simp only [big]; omega⟩
   ·simp only; omega
  ·rw [if_pos hen] at hx
   rw [hx] at E;simp only at E;obtain ⟨z7,hz7,hS7,hv7⟩:=Res.freezeL (E:=El.item) (e:=98) (xs:=acc) (hS6.bring B) ho (hls.mono (by (repeat (assumption)))) (by simp only [big]; omega);clear hS6;obtain ⟨at_,ct_,rfl,_⟩:=SlR.form2' hv7;(repeat (first | refine aA ?_ | refine aE ?_));refine fO (e:=96) (size:=1) (xs:=u3) (v:=v3) hS7 o3 (by simp only [room]; omega) (by simp only [room]; omega) (by omega) ?_;intro s8 w8 b8 hS8 happ;refine happ _ ?_;intro B9 v9 w9 o9 hS9;obtain ⟨a9,k9,rfl,_⟩:=o9.form;clear hS7 hS8 happ;(repeat (first | refine aA ?_ | (refine aF ?_; intro _ _)));rename_i hS10;have hS11:=hS10.keep [.at br,.at bc,.bl B1,.bl B2,.bl B9,.bl B4,.bl B5,.bl B6];refine hF _ _ _ _ _ E ⟨_,_,_,_,_,_,B1,B2,B9,B4,B5,B6,u1,u2,_,u4,u5,u6,rfl,o1,l1.mono (by (repeat (exact Res.zle (by assumption)))),o2,l2.mono (by (repeat (exact Res.zle (by assumption)))),by rw [length_append]; exact o9,(l3.mono (by (repeat (exact Res.zle (by assumption))))).push ⟨_,rfl,hv7⟩,o4,l4.mono (by (repeat (exact Res.zle (by assumption)))),o5,l5.mono (by (repeat (exact Res.zle (by assumption)))),o6,l6.mono (by (repeat (exact Res.zle (by assumption))))⟩ hS11
 refine aA ?_;refine aC (fun h3=>?_) (fun h3=>?_)
 ·rw [h3] at hk hF
  have E:=e3 h3 hk;clear e0 e1 e2 e3 e4 e5;refine gT hs hW hS4 ?_;intro z5 w5 hz5 hS5;clear hS4;refine sY hs (aw hW) hS5 ?_;intro z6 w6 hz6 hS6;clear hS5;refine aA ?_;refine ak ?_;intro bp w9 hbp hS9;clear hS6;refine aF ?_;intro w10 hS10;clear hS9;have hS11:=hS10.bringB br;clear hS10;refine gT hs (fo (aw hW)) hS11 ?_;intro z12 w12 hz12 hS12;clear hS11;refine zM hs (aw (fo (aw hW))) hS12 ?_;intro z13 w13 hz13 hS13;clear hS12;have hsl:=nH (bytes s) (aQ (bytes s) (fC (bytes s) (aQ (bytes s) st0)).2);(repeat (first | (refine iDr ?_; intro _ _) | refine aA ?_ | refine aK ?_ | (refine aF ?_; intro _ _) | refine aW ?_ | refine aq ?_));rename_i hS14;clear hS13;refine fO (e:=54) (size:=2) (xs:=u4) (v:=v4) hS14 o4 (by simp only [room]; omega) (by simp only [room]; omega) (by omega) ?_;intro s8 w8 b8 hS8 happ;refine bN ?_;refine happ _ ?_;intro B9 v9 w9 o9 hS9;obtain ⟨a9,k9,rfl,_⟩:=o9.form;clear hS14 hS8 happ;(repeat (first | refine aK ?_ | (refine aF ?_; intro _ _)));rename_i hS10;have hS11:=hS10.keep [.at br,.at bc,.bl B1,.bl B2,.bl B3,.bl B9,.bl B5,.bl B6];refine hF _ _ _ _ _ E ⟨_,_,_,_,_,_,B1,B2,B3,B9,B5,B6,u1,u2,u3,_,u5,u6,rfl,o1,l1.mono (by (repeat (exact Res.zle (by assumption)))),o2,l2.mono (by (repeat (exact Res.zle (by assumption)))),o3,l3.mono (by (repeat (exact Res.zle (by assumption)))),by rw [length_append]; exact o9,(l4.mono (by (repeat (exact Res.zle (by assumption))))).push ⟨rfl,by simp only [big]; omega⟩,o5,l5.mono (by (repeat (exact Res.zle (by assumption)))),o6,l6.mono (by (repeat (exact Res.zle (by assumption))))⟩ hS11
 refine aA ?_;refine aC (fun h4=>?_) (fun h4=>?_)
 ·rw [h4] at hk hF
  have E:=e4 h4 hk;clear e0 e1 e2 e3 e4 e5;refine gT hs hW hS4 ?_;intro z5 w5 hz5 hS5;clear hS4;(repeat (first | (refine iDr ?_; intro _ _) | refine aK ?_ | refine aW ?_));rename_i hS6;clear hS5;refine zL hs (aw hW) hS6 ?_;intro z7 w7 hz7 hS7;clear hS6;have hsl:=vS (bytes s) (aQ (bytes s) st0);refine bN ?_;refine fO (e:=9) (size:=1) (xs:=u5) (v:=v5) hS7 o5 (by simp only [room]; omega) (by simp only [room]; omega) (by omega) ?_;intro s8 w8 b8 hS8 happ;refine bN ?_;refine happ _ ?_;intro B9 v9 w9 o9 hS9;obtain ⟨a9,k9,rfl,_⟩:=o9.form;clear hS7 hS8 happ;(repeat (first | refine aK ?_ | (refine aF ?_; intro _ _)));rename_i hS10;have hS11:=hS10.keep [.at br,.at bc,.bl B1,.bl B2,.bl B3,.bl B4,.bl B9,.bl B6];refine hF _ _ _ _ _ E ⟨_,_,_,_,_,_,B1,B2,B3,B4,B9,B6,u1,u2,u3,u4,_,u6,rfl,o1,l1.mono (by (repeat (exact Res.zle (by assumption)))),o2,l2.mono (by (repeat (exact Res.zle (by assumption)))),o3,l3.mono (by (repeat (exact Res.zle (by assumption)))),o4,l4.mono (by (repeat (exact Res.zle (by assumption)))),by rw [length_append]; exact o9,(l5.mono (by (repeat (exact Res.zle (by assumption))))).push ⟨rfl,by simp only [big]; omega⟩,o6,l6.mono (by (repeat (exact Res.zle (by assumption))))⟩ hS11
 have h5:cH wd = 5:=by omega
 rw [h5] at hk hF;have E:=e5 h5 hk;clear e0 e1 e2 e3 e4 e5;refine ap zJ ?_;rintro z5 w5 v5' hz5 hS5 rfl
 clear hS4;refine aA ?_;refine ak ?_;intro bi w6 hbi hS6;clear hS5;refine aF ?_;intro w7 hS7;clear hS6;refine aA ?_;refine ak ?_;intro bo w8 hbo hS8;clear hS7;refine aF ?_;intro w9 hS9;clear hS8;have hS10:=hS9.bringB br;clear hS9;generalize hX:fU (bytes s) 3 st0 [] = X;have hI:qZ (bytes s) wd st0 = (⟨(opN wd:Nat),X.1.getD 0 0,X.1.getD 1 0,X.1.getD 2 0⟩,X.2.1,(decide (opN wd = 0) || decide (X.1.getLast? = some 0)) || X.2.2):=by rw [<- hX]; rfl
 rw [hI] at E;clear hI;refine cC (fun (p:List Int × RdM) x w'=>x = .int .i64 (p.1.length:Nat)/\p.1.length <= 3/\p.2.1 <= (bytes s).length/\X = fU (bytes s) (3 - p.1.length) p.2 p.1/\∃ z',Le z5 z'/\Res w z LL w' z' (rdS br s p.2 :: (bo,.cells [.int .i64 (p.1.getD 0 0),.int .i64 (p.1.getD 1 0),.int .i64 (p.1.getD 2 0)].toArray 100 (0,0)) :: (bi,.cells [.int .i64 (opN wd:Nat),.int .i64 0,.int .i64 0,.int .i64 0].toArray 38 (0,0)) :: ((bc,.cells [v1,v2,v3,v4,v5,v6].toArray 28 (0,0)) :: (B1 ++ (B2 ++ (B3 ++ (B4 ++ (B5 ++ (B6 ++ [])))))))) ) (fun p=>3 - p.1.length) ([],st0) ⟨rfl,by simp,hW,hX.symm,z5,Le.refl _,hS10⟩ ?_;rintro I M ⟨ns,st⟩ x w11 m ⟨rfl,hn3,hp,hx,z11,hz11,hS11⟩ back
 simp only at hn3 hp hx hS11
 try dsimp only
 clear hS10 hX;refine sZ hs hS11 ?_;intro z12 w12 hz12 hS12;clear hS11;refine aA ?_;intro K1 hK1;have main:∀ b w',Res w z LL w' z12 (rdS br s st :: (bo,.cells [.int .i64 (ns.getD 0 0),.int .i64 (ns.getD 1 0),.int .i64 (ns.getD 2 0)].toArray 100 (0,0)) :: (bi,.cells [.int .i64 (opN wd:Nat),.int .i64 0,.int .i64 0,.int .i64 0].toArray 38 (0,0)) :: ((bc,.cells [v1,v2,v3,v4,v5,v6].toArray 28 (0,0)) :: (B1 ++ (B2 ++ (B3 ++ (B4 ++ (B5 ++ (B6 ++ []))))))))->(b = true ↔ eI (bytes s) st.1 st.2 = false/\ns.length < 3)->K1 [.bool b] w':=by
  intro b w13 hS13 hb;refine hK1 _ _ fun _=>?_
  clear hK1 hS12;refine aO (fun h=>?_) (fun h=>?_)
  ·obtain ⟨hen,hlt⟩:=hb.1 h
   obtain ⟨f,hf⟩:∃ f,3 - ns.length = f + 1:=⟨3 - ns.length - 1,by omega⟩
   rw [hf,fU,if_neg (by rw [hen]; decide)] at hx;refine gT hs hp hS13 ?_;intro z14 w14 hz14 hS14;clear hS13;refine sY hs (aw hp) hS14 ?_;intro z15 w15 hz15 hS15;clear hS14;haveI:InR (ns.length:Int) (3:Nat):=⟨by omega,by omega⟩
   haveI:mn (ns.length:Int) 1 ns.length:=⟨by simp,by omega⟩
   haveI:InI ((ns.length:Int) + 1):=⟨by omega⟩
   generalize hnn:fC (bytes s) (aQ (bytes s) st) = Q at hx hS15 ⊢;have hple:Q.2.1 <= (bytes s).length:=by rw [<- hnn]; exact fo (aw hp)
   obtain ⟨n,st'⟩:=Q;simp only at hx hS15 hple ⊢;refine aA ?_;haveI:SetN [Value.int .i64 (ns.getD 0 0),Value.int .i64 (ns.getD 1 0),Value.int .i64 (ns.getD 2 0)] ns.length [Value.int .i64 n] ([Value.int .i64 (ns.getD 0 0),Value.int .i64 (ns.getD 1 0),Value.int .i64 (ns.getD 2 0)].set ns.length (Value.int .i64 n)):=SetN.at_ (by show ns.length < 3; omega);refine aF ?_;intro w16 hS16;clear hS15;refine aA ?_;have hset:[Value.int .i64 (ns.getD 0 0),Value.int .i64 (ns.getD 1 0),Value.int .i64 (ns.getD 2 0)].set ns.length (Value.int .i64 n) = [Value.int .i64 ((ns ++ [n]).getD 0 0),Value.int .i64 ((ns ++ [n]).getD 1 0),Value.int .i64 ((ns ++ [n]).getD 2 0)]:=by
    match ns,(by omega:ns.length < 3) with
    | [],_=>rfl
    | [x0],_=>rfl
    | [x0,x1],_=>rfl
   rw [hset] at hS16;refine back (ns ++ [n],st') _ _ ⟨by simp,by simp only [length_append,length_singleton]; omega,hple,?_,z15,by (repeat (first | assumption | refine Le.trans ?_ (by assumption:Le _ _))),hS16⟩ (by simp only [length_append,length_singleton]; omega)
   show X = fU (bytes s) (3 - (ns ++ [n]).length) st' (ns ++ [n])
   rw [hx,length_append,length_singleton,show 3 - (ns.length + 1) = f by omega]
  ·have hX:X = (ns,st):=by
    have hno:¬ (eI (bytes s) st.1 st.2 = false/\ns.length < 3):=fun e=>by rw [hb.2 e] at h; cases h
    by_cases h3:ns.length < 3
    ·obtain ⟨f,hf⟩:∃ f,3 - ns.length = f + 1:=⟨3 - ns.length - 1,by omega⟩
     have hen:eI (bytes s) st.1 st.2 = true:=by
      cases he:eI (bytes s) st.1 st.2 with
      | true=>rfl
      | false=>exact absurd ⟨he,h3⟩ hno
     rw [hx,hf,fU,if_pos hen]
    ·rw [hx,show 3 - ns.length = 0 by omega]
     rfl
   subst hX;simp only at E;clear back hb h hx;haveI:InR 0 (3:Nat):=⟨by decide,by decide⟩
   haveI:InR 1 (3:Nat):=⟨by decide,by decide⟩
   haveI:InR 2 (3:Nat):=⟨by decide,by decide⟩
   intro K2 hK2;have mfin:∀ bad w',Res w z LL w' z12 (rdS br s (st.1,bad) :: (bo,.cells [.int .i64 (ns.getD 0 0),.int .i64 (ns.getD 1 0),.int .i64 (ns.getD 2 0)].toArray 100 (0,0)) :: (bi,.cells [.int .i64 (opN wd:Nat),.int .i64 0,.int .i64 0,.int .i64 0].toArray 38 (0,0)) :: ((bc,.cells [v1,v2,v3,v4,v5,v6].toArray 28 (0,0)) :: (B1 ++ (B2 ++ (B3 ++ (B4 ++ (B5 ++ (B6 ++ []))))))))->bad = ((decide (opN wd = 0) || decide (ns.getLast? = some 0)) || st.2)->K2 [] w':=by
    intro bad w14 hS14 hbad;rw [<- hbad] at E;refine hK2 _ fun _=>?_
    clear hK2 hS13;generalize ns.getD 0 0 = n0 at *;generalize ns.getD 1 0 = n1 at *;generalize ns.getD 2 0 = n2 at *;(repeat (first | (refine iDr ?_; intro _ _) | refine aA ?_ | refine aK ?_ | refine aE ?_ | (refine aF ?_; intro _ _) | refine aW ?_ | refine aq ?_));rename_i hS15;clear hS14;refine fO (e:=38) (size:=4) (xs:=u6) (v:=v6) hS15 o6 (by simp only [room]; omega) (by simp only [room]; omega) (by omega) ?_;intro s8 w8 b8 hS8 happ;refine bN ?_;refine happ _ ?_;intro B9 v9 w9 o9 hS9;obtain ⟨a9,k9,rfl,_⟩:=o9.form;clear hS15 hS8 happ;(repeat (first | refine aK ?_ | (refine aF ?_; intro _ _)));rename_i hS10;have hS11:=hS10.keep [.at br,.at bc,.bl B1,.bl B2,.bl B3,.bl B4,.bl B5,.bl B9];refine hF (st.1,bad) _ _ _ _ E ⟨_,_,_,_,_,_,B1,B2,B3,B4,B5,B9,u1,u2,u3,u4,u5,_,rfl,o1,l1.mono (by (repeat (exact Res.zle (by assumption)))),o2,l2.mono (by (repeat (exact Res.zle (by assumption)))),o3,l3.mono (by (repeat (exact Res.zle (by assumption)))),o4,l4.mono (by (repeat (exact Res.zle (by assumption)))),o5,l5.mono (by (repeat (exact Res.zle (by assumption)))),by rw [length_append]; exact o9,(l6.mono (by (repeat (exact Res.zle (by assumption))))).push rfl⟩ hS11
   clear hK2;refine aA ?_;refine aE ?_;refine aA ?_;intro K3 hK3;have m3:∀ b w',Res w z LL w' z12 (rdS br s st :: (bo,.cells [.int .i64 (ns.getD 0 0),.int .i64 (ns.getD 1 0),.int .i64 (ns.getD 2 0)].toArray 100 (0,0)) :: (bi,.cells [.int .i64 (opN wd:Nat),.int .i64 0,.int .i64 0,.int .i64 0].toArray 38 (0,0)) :: ((bc,.cells [v1,v2,v3,v4,v5,v6].toArray 28 (0,0)) :: (B1 ++ (B2 ++ (B3 ++ (B4 ++ (B5 ++ (B6 ++ []))))))))->b = (decide (opN wd = 0) || decide (ns.getLast? = some 0))->K3 [.bool b] w':=by
    intro b w14 hS14 hb;refine hK3 _ _ fun _=>?_
    clear hK3 hS13;rw [<- hb] at mfin
    cases b
    ·refine aj ?_
     exact mfin st.2 _ hS14 rfl
    ·refine ah ?_
     refine gZ ?_;refine aA ?_;refine aF ?_;intro w15 hS15;exact mfin true _ hS15 rfl
   clear hK3;refine aC (fun ho=>?_) (fun ho=>?_)
   ·exact m3 true _ hS13 (by rw [decide_eq_true (by omega:opN wd = 0)]; rfl)
   ·rw [decide_eq_false (by omega:¬ opN wd = 0),Bool.false_or] at m3
    refine aA ?_;intro K4 hK4;have m4:∀ b w',Res w z LL w' z12 (rdS br s st :: (bo,.cells [.int .i64 (ns.getD 0 0),.int .i64 (ns.getD 1 0),.int .i64 (ns.getD 2 0)].toArray 100 (0,0)) :: (bi,.cells [.int .i64 (opN wd:Nat),.int .i64 0,.int .i64 0,.int .i64 0].toArray 38 (0,0)) :: ((bc,.cells [v1,v2,v3,v4,v5,v6].toArray 28 (0,0)) :: (B1 ++ (B2 ++ (B3 ++ (B4 ++ (B5 ++ (B6 ++ []))))))))->b = (decide (ns.getLast? = some 0))->K4 [.bool b] w':=fun b w' h1 h2=>hK4 _ _ fun _=>m3 b w' h1 h2
    clear hK4;refine aC (fun hl=>?_) (fun hl=>?_)
    ·have hl:0 < ns.length:=by omega
     haveI:InI ((ns.length:Int) - 1):=⟨by omega⟩
     haveI:InR ((ns.length:Int) - 1) (3:Nat):=⟨by omega,by omega⟩
     haveI:mn ((ns.length:Int) - 1) 1 (ns.length - 1):=⟨by omega,by omega⟩
     haveI:Get [Value.int .i64 (ns.getD 0 0),Value.int .i64 (ns.getD 1 0),Value.int .i64 (ns.getD 2 0)] (ns.length - 1) (Value.int .i64 (ns.getD (ns.length - 1) 0)):=⟨by
      match ns,hl,hn3 with
      | [_],_,_=>rfl
      | [_,_],_,_=>rfl
      | [_,_,_],_,_=>rfl⟩
     refine aA ?_;refine aA ?_;refine aE ?_;refine aA ?_;refine m4 _ _ hS13 ?_;rw [getLast?_eq_getElem?,getD_eq_getElem?_getD,getElem?_eq_getElem (by omega)];simp
    ·have:ns = []:=eq_nil_of_length_eq_zero (by omega)
     subst this;exact m4 false _ hS13 (by decide)
 clear hK1;refine aU (fun h=>?_) (fun h=>?_)
 ·refine aA ?_
  refine main _ _ hS12 ?_;rw [decide_eq_true_iff];exact ⟨fun e=>⟨h,by omega⟩,fun e=>by have:=e.2; omega⟩
 ·exact main false _ hS12 ⟨fun e=>(by cases e),fun e=>by rw [e.1] at h; cases h⟩)
end
section
section
variable {w0 w:World} {z0 z:Z} {B0 L F:Bl} {K:RP} {bs cap:Nat} {ab:Option Addr} {b:List UInt8} {p bad:Int} {st:St}
end
section
variable {α:Type}
end
end
section
end
section
theorem qF {z:Z}:CodeR z (.agg [aJ,aJ,aJ,aJ,aJ,aJ].toArray) dU:=⟨_,_,_,_,_,_,rfl,SlR.nil,SlR.nil,SlR.nil,SlR.nil,SlR.nil,SlR.nil⟩
end
section
theorem ReadD.code {w0 w:World} {z0 z:Z} {B0 B L:Bl} {bc:Nat} {c:aH} (hS:Res w0 z0 B0 w z (B ++ L)) (h:ReadD bc z c B) (hc:FewC c 1000000) :
  ∃ z' v1 v2 v3 v4 v5 v6,Le z z'/\Res w0 z0 B0 w z' ((bc,.cells [v1,v2,v3,v4,v5,v6].toArray 28 (0,0)) :: L)/\CodeR z' (.agg [v1,v2,v3,v4,v5,v6].toArray) c:=by
 obtain ⟨v1,v2,v3,v4,v5,v6,B1,B2,B3,B4,B5,B6,u1,u2,u3,u4,u5,u6,rfl,o1,l1,o2,l2,o3,l3,o4,l4,o5,l5,o6,l6⟩:=h;obtain ⟨c1,c2,c3,c4,c5,c6⟩:=hc;simp only [cons_append,append_assoc,nil_append] at hS;obtain ⟨z1,hz1,hS1,g1⟩:=Res.freezeL (E:=El.str) (e:=9) (xs:=c.consts) (hS.bring B1) o1 l1 (by simp only [big]; omega);obtain ⟨z2,hz2,hS2,g2⟩:=Res.freezeL (E:=(El.sl El.part)) (e:=93) (xs:=c.tmpls) (hS1.bring B2) o2 (l2.mono (by (repeat (assumption)))) (by simp only [big]; omega);obtain ⟨z3,hz3,hS3,g3⟩:=Res.freezeL (E:=(El.sl El.item)) (e:=96) (xs:=c.lists) (hS2.bring B3) o3 (l3.mono (by (repeat (first | assumption | refine Le.trans ?_ (by assumption:Le _ _))))) (by simp only [big]; omega);obtain ⟨z4,hz4,hS4,g4⟩:=Res.freezeL (E:=El.spot) (e:=54) (xs:=c.labels) (hS3.bring B4) o4 (l4.mono (by (repeat (first | assumption | refine Le.trans ?_ (by assumption:Le _ _))))) (by simp only [big]; omega);obtain ⟨z5,hz5,hS5,g5⟩:=Res.freezeL (E:=El.str) (e:=9) (xs:=c.slots) (hS4.bring B5) o5 (l5.mono (by (repeat (first | assumption | refine Le.trans ?_ (by assumption:Le _ _))))) (by simp only [big]; omega);obtain ⟨z6,hz6,hS6,g6⟩:=Res.freezeL (E:=El.ins) (e:=38) (xs:=c.ins) (hS5.bring B6) o6 (l6.mono (by (repeat (first | assumption | refine Le.trans ?_ (by assumption:Le _ _))))) (by simp only [big]; omega);exact ⟨z6,v1,v2,v3,v4,v5,v6,by (repeat (first | assumption | refine Le.trans ?_ (by assumption:Le _ _))),hS6,_,_,_,_,_,_,rfl,g1.mono (by (repeat (first | assumption | refine Le.trans ?_ (by assumption:Le _ _)))),g2.mono (by (repeat (first | assumption | refine Le.trans ?_ (by assumption:Le _ _)))),g3.mono (by (repeat (first | assumption | refine Le.trans ?_ (by assumption:Le _ _)))),g4.mono (by (repeat (first | assumption | refine Le.trans ?_ (by assumption:Le _ _)))),g5.mono (by (repeat (assumption))),g6⟩
theorem FewC.le {c:aH} {n m:Nat} (h:FewC c n) (hn:n <= m):FewC c m:=by
 obtain ⟨h1,h2,h3,h4,h5,h6⟩:=h;exact ⟨by omega,by omega,by omega,by omega,by omega,by omega⟩
theorem qk {l:List UInt8} {q:Nat} {c:UInt8} (h:l[q]? = some c):(l.drop q).takeWhile (· ≠ 10) = if c = 10 then [] else c :: (l.drop (q + 1)).takeWhile (· ≠ 10):=by
 obtain ⟨hq,e⟩:=List.getElem?_eq_some_iff.1 h;rw [drop_eq_getElem_cons hq,e,takeWhile_cons]
 by_cases hc:c = 10
 ·subst hc; simp
 ·simp [hc]
theorem vN {z:Z} {w:World} {s:ByteArray} (hs:s.size <= 1000000):Fn1 43 #[.string s] z w fun z' r=>∃ v1 v2 v3 v4 v5 v6,CodeR z' (.agg [v1,v2,v3,v4,v5,v6].toArray) (es s).1/\r = .agg [v1,v2,v3,v4,v5,v6,.int .i64 (es s).2.1,.int .i64 (es s).2.2].toArray:=Fn1.intro fun hS=>en43 (by
 unfold vc43;generalize hRR:(fun (v:Value) (w':World)=>∃ z' L',Res w z [] w' z' L'/\∃ v1 v2 v3 v4 v5 v6,CodeR z' (.agg [v1,v2,v3,v4,v5,v6].toArray) (es s).1/\v = .agg [v1,v2,v3,v4,v5,v6,.int .i64 (es s).2.1,.int .i64 (es s).2.2].toArray) = RR;have hR:∀ z' w' L' v1 v2 v3 v4 v5 v6 c p e,Res w z [] w' z' L'->es s = (c,p,e)->CodeR z' (.agg [v1,v2,v3,v4,v5,v6].toArray) c->RR (.agg [v1,v2,v3,v4,v5,v6,.int .i64 p,.int .i64 e].toArray) w':=fun z' w' L' v1 v2 v3 v4 v5 v6 c p e k he hc=>by rw [<- hRR,he]; exact ⟨_,_,k,_,_,_,_,_,_,hc,rfl⟩
 clear hRR;have hsz:=aI s;refine ak ?_;intro b2 w1 hb2 hS1;clear hS;refine aA ?_;refine aA ?_;refine aC (fun h=>?_) (fun h=>?_)
 ·(repeat (first | refine aA ?_ | (refine aF ?_; intro _ _) | refine aq ?_))
  exact hR _ _ _ _ _ _ _ _ _ _ _ _ (by assumption) (by unfold es; rw [if_pos (by omega)]) qF
 have hro:es s = match jU (s.size + 1) dU 0 0 (bytes s) with
  | .error n=>(dU,((n:Nat):Int),2)
  | .ok c=>if (ag c).1 = 0 then (c,0,0) else (dU,0,(ag c).1):=by unfold es; exact if_neg (by omega)
 refine ak ?_;intro bc w2 hbc hS2;clear hS1;have hB0:ReadD bc z dU [(bc,.cells [aJ,aJ,aJ,aJ,aJ,aJ].toArray 28 (0,0))]:=⟨_,_,_,_,_,_,[],[],[],[],[],[],[],[],[],[],[],[],rfl,OwnSl.nil,Lsl.nil,OwnSl.nil,Lsl.nil,OwnSl.nil,Lsl.nil,OwnSl.nil,Lsl.nil,OwnSl.nil,Lsl.nil,OwnSl.nil,Lsl.nil⟩
 generalize hX:jU (s.size + 1) dU 0 0 (bytes s) = X at hro;refine Aa (fun (p:aH × Int × Nat × Nat × Nat) x y u w'=>x = .int .i64 p.2.1/\y = .int .i64 (p.2.2.2.1:Nat)/\u = .int .i64 (p.2.2.1:Nat)/\FewC p.1 p.2.2.1/\p.2.2.1 <= p.2.2.2.1/\p.2.2.2.1 <= s.size/\s.size - p.2.2.2.1 < p.2.2.2.2/\X = jU p.2.2.2.2 p.1 p.2.1 p.2.2.1 ((bytes s).drop p.2.2.2.1)/\∃ B' z',Le z z'/\ReadD bc z' p.1 B'/\Res w z [] w' z' (B' ++ [(b2,.cells [aJ,aJ,aJ,aJ,aJ,aJ,.int .i64 0,.int .i64 0].toArray 78 (0,0))])) (fun p=>p.2.2.2.2) (dU,0,0,0,s.size + 1)
  ⟨rfl,rfl,rfl,⟨Nat.le_refl _,Nat.le_refl _,Nat.le_refl _,Nat.le_refl _,Nat.le_refl _,Nat.le_refl _⟩,Nat.le_refl _,Nat.zero_le _,by simp,hX.symm,_,z,Le.refl _,hB0,hS2⟩ ?_
 rintro I M ⟨c,kind,n,fr,f⟩ x y u w3 m ⟨rfl,rfl,rfl,hfew,hnf,hfs,hf,hx,B',z3,hz3,hB,hS3⟩ back
 simp only at hfew hnf hfs hf hx hB;dsimp only;clear hS2 hB0 hX;obtain ⟨f,rfl⟩:∃ f',f = f' + 1:=⟨f - 1,by omega⟩
 rw [jU] at hx;have hfew6:=hfew.le (show n <= 1000000 by omega);refine aA ?_;refine aA ?_;refine aC (fun hlt=>?_) (fun hlt=>?_)
 ·have hlt:fr < s.size:=by omega
  have hdl:((bytes s).drop fr).length = s.size - fr:=by rw [length_drop,<- hsz]
  have hne:¬ (bytes s).drop fr = []:=fun e=>by rw [e] at hdl; simp at hdl; omega
  rw [if_neg hne] at hx;have bad:X = .error n->∀ z' w' (L':Bl),Res w z [] w' z' (L' ++ [(b2,.cells [aJ,aJ,aJ,aJ,aJ,aJ,.int .i64 0,.int .i64 0].toArray 78 (0,0))])->V (bd 78 #[(1,.int .i64 (n:Nat)),(2,.int .i64 2)]) w' fun t52 w=>U (st 78 (.pointer (some ⟨b2,0,none⟩)) t52) w fun w=>CW 78 (.pointer (some ⟨b2,0,none⟩)) w fun t1002=>RR t1002 w:=by
   intro h z' w' L' hS';have hS'':=hS'.keep [.at b2];clear hS' hS3 back;(repeat (first | refine aA ?_ | (refine aF ?_; intro _ _) | refine aq ?_));exact hR _ _ _ _ _ _ _ _ _ _ _ _ (by assumption) (by rw [hro,h]) qF
  have htwl:((bytes s).drop fr).takeWhile (· ≠ 10) ++ ((bytes s).drop fr).dropWhile (· ≠ 10) = (bytes s).drop fr:=takeWhile_append_dropWhile;generalize hL2:B' ++ [(b2,Obj.cells [aJ,aJ,aJ,aJ,aJ,aJ,.int .i64 0,.int .i64 0].toArray 78 (0,0))] = L2 at hS3;refine cC (fun (q:Nat) x w'=>x = .int .i64 (q:Nat)/\fr <= q/\q <= s.size/\fr + (((bytes s).drop fr).takeWhile (· ≠ 10)).length = q + (((bytes s).drop q).takeWhile (· ≠ 10)).length/\Res w z [] w' z3 L2) (fun q=>s.size - q) fr ⟨rfl,Nat.le_refl _,by omega,rfl,hS3⟩ ?_;rintro I1 M1 q x w4 m1 ⟨rfl,h1,h2,h3,hS4⟩ back1
  clear hS3;refine aA ?_;refine aA ?_;intro Ka hKa;have main:∀ x w',Res w z [] w' z3 L2->(x = true ↔ ∃ c,(bytes s)[q]? = some c/\c ≠ 10)->Ka [.bool x] w':=by
   intro x w5 hS5 hq;refine hKa _ _ fun _=>?_
   clear hKa hS4;haveI:InI ((q:Int) + 1):=⟨by omega⟩
   haveI:InI ((n:Int) + 1):=⟨by omega⟩
   refine aO (fun h=>?_) (fun h=>?_)
   ·obtain ⟨d,hd,h10⟩:=hq.1 h
    have hst:=qk hd;rw [if_neg h10] at hst;obtain ⟨hql,_⟩:=List.getElem?_eq_some_iff.1 hd;refine aA ?_;exact back1 (q + 1) _ _ ⟨by simp,by omega,by omega,by rw [h3,hst,length_cons]; omega,hS5⟩ (by omega)
   ·clear back1
    have hend:((bytes s).drop q).takeWhile (· ≠ 10) = []:=by
     cases hc:(bytes s)[q]? with
     | none=>rw [drop_of_length_le (List.getElem?_eq_none_iff.1 hc)]; rfl
     | some d=>
      rw [qk hc]
      by_cases h10:d = 10
      ·rw [if_pos h10]
      ·have:=hq.2 ⟨d,hc,h10⟩
       rw [h] at this
       cases this
    rw [hend,length_nil,Nat.add_zero] at h3;have htk:((bytes s).drop fr).takeWhile (· ≠ 10) = ((bytes s).drop fr).take (q - fr):=by
     have e:(((bytes s).drop fr).takeWhile (· ≠ 10)).length = q - fr:=by omega
     rw [<- e];exact (List.prefix_iff_eq_take.1 (takeWhile_prefix _))
    have hdw:((bytes s).drop fr).dropWhile (· ≠ 10) = (bytes s).drop q:=by
     have e:=htwl;rw [htk] at e
     conv at e=>rhs; rw [<- take_append_drop (q - fr) ((bytes s).drop fr)]
     have:=append_cancel_left e;rw [this,drop_drop,show fr + (q - fr) = q by omega]
    have hone:s.extract fr q = ⟨(((bytes s).drop fr).takeWhile (· ≠ 10)).toArray⟩:=eZ (by
     rw [bB,bE,htk])
    rw [hdw,<- hone] at hx;haveI:InR (fr:Int) ((q:Int) + 1):=⟨by omega,by omega⟩
    haveI:InR (q:Int) ((s.size:Int) + 1):=⟨by omega,by omega⟩
    refine aA ?_;rw [show Int.toNat (fr:Int) = fr by omega,show Int.toNat (q:Int) = q by omega];generalize hge:s.extract fr q = one at hx ⊢;have hos:one.size <= 1000000:=by rw [<- hge,ByteArray.size_extract]; omega
    subst hL2;refine bO (B:=B') (F:=[(b2,.cells [aJ,aJ,aJ,aJ,aJ,aJ,.int .i64 0,.int .i64 0].toArray 78 (0,0))]) hS5 (xg (kind:=kind) hB hos hfew6) (by simp) ?_;rintro z6 B6 w6 v6 hz6 hS6 ⟨rfl,hB6⟩
    clear hS5;have hle:=BI c kind one;generalize dP c kind (bytes one) = Y at hB6 hle ⊢;obtain ⟨c',k',ok⟩:=Y;simp only at hB6 hle ⊢;refine aA ?_;refine aA ?_;refine aA ?_;intro Kb hKb
    cases ok with
    | false=>
     have hle:none = dH c kind one:=hle;refine bC rfl ?_;refine hKb _ _ fun _=>?_
     refine bC rfl ?_;refine bad ?_ _ _ _ hS6;rw [hx,<- hle]
     split <;> rfl
    | true=>
     have hle:some (c',k') = dH c kind one:=hle;refine dk rfl ?_;refine aA ?_;refine aA ?_;refine hKb _ _ fun _=>?_
     refine aC (fun he=>?_) (fun he=>?_)
     ·refine bad ?_ _ _ _ hS6
      rw [hx,if_pos (drop_of_length_le (by omega))]
     ·rw [if_neg (fun e=>by have:=List.drop_eq_nil_iff.1 e; omega),<- hle] at hx
      simp only at hx;refine aA ?_;refine aA ?_;refine back (c',k',n + 1,q + 1,f) _ _ _ _ ⟨rfl,by simp,by simp,rO hle.symm hfew,by simp only; omega,by simp only; omega,by simp only; omega,?_,B6,z6,by (repeat (exact Res.zle (by assumption))),hB6,hS6⟩ (by show f < f + 1; omega)
      show X = jU f c' k' (n + 1) ((bytes s).drop (q + 1))
      rw [hx,drop_drop]
  clear hKa;refine aC (fun h=>?_) (fun h=>?_)
  ·haveI:dI s (q:Int):=⟨by omega,by omega⟩
   have hget:(bytes s)[q]? = some ((bytes s)[q]'(by omega)):=getElem?_eq_getElem _;have hbt:=eX hget;refine aA ?_;rw [hbt];refine aA ?_;refine main _ _ hS4 ?_;rw [hget];simp only [Bool.not_eq_true',decide_eq_false_iff_not,Option.some.injEq,exists_eq_left'];exact not_congr (u8_eq (d:=10))
  ·exact main false _ hS4 ⟨fun h=>(by cases h),fun ⟨c,hc,_⟩=>by
    obtain ⟨hql,_⟩:=List.getElem?_eq_some_iff.1 hc;omega⟩
 ·have hne:(bytes s).drop fr = []:=drop_of_length_le (by omega)
  rw [if_pos hne] at hx;rw [hx] at hro;simp only at hro;obtain ⟨z4,v1,v2,v3,v4,v5,v6,hz4,hS4,hcode⟩:=hB.code hS3 hfew6;obtain ⟨a1,a2,a3,a4,a5,a6,k1,k2,k3,k4,k5,k6,hvv,_⟩:=hcode.form
  cases hvv
  clear hS3 back;(repeat (refine ae ?_));refine ap (nt (hcode.mono (by (repeat (exact Le.refl _))))) ?_;rintro z5 w5 v5 hz5 hS5 rfl
  clear hS4;refine ak ?_;intro b7 w7 hb7 hS7;refine aF ?_;intro w8 hS8;clear hS5 hS7;(repeat (first | refine aA ?_ | refine aE ?_));refine aU (fun hck=>?_) (fun hck=>?_)
  ·have hck:¬ (ag c).1 = 0:=by simpa using hck
   rw [if_neg hck] at hro;(repeat (first | refine aA ?_ | refine aE ?_ | (refine aF ?_; intro _ _) | refine aq ?_));exact hR _ _ _ _ _ _ _ _ _ _ _ _ (by assumption) hro qF
  ·have hck:(ag c).1 = 0:=by simpa using hck
   rw [if_pos hck] at hro;(repeat (first | refine aA ?_ | refine ae ?_ | (refine aF ?_; intro _ _) | refine aq ?_));exact hR _ _ _ _ _ _ _ _ _ _ _ _ (by assumption) hro (hcode.mono (by (repeat (assumption)))))
end
section
section
variable {w0 w:World} {z0 z:Z} {B0 L F:Bl} {K:RP} {Pn:PnT} {br cap:Nat} {ab:Option Addr} {b:List UInt8} {p:Nat}
end
section
variable {w:World} {z:Z} {br cap:Nat} {ab:Option Addr} {b:List UInt8} {p:Nat}
end
end
section
section
variable {w:World} {z:Z} {br cap:Nat} {ab:Option Addr} {b:List UInt8} {p:Nat}
end
section
variable {w:World} {z:Z} {br cap:Nat} {ab:Option Addr} {b:List UInt8} {p:Nat}
end
end
section
section
variable {w:World} {z:Z} {br cap:Nat} {ab:Option Addr} {b:List UInt8} {p:Nat}
end
end
section
end
section
end
section
end
section
theorem sG {z:Z} {w:World} {v u:Value} {l m:List PartM} (hv:SlR El.part z v l) (hu:SlR El.part z u m):Fn1 70 #[v,u] z w fun _ r=>∃ b,r = .bool b/\(b = true ↔ l = m):=Fn1.intro fun hS=>en70 (by
 unfold vc70;obtain ⟨hb1,a1,c1,rfl,_,hel1⟩:=hv.form;obtain ⟨hb2,a2,c2,rfl,_,hel2⟩:=hu.form;refine aA ?_;refine aA ?_;refine aA ?_;refine eO (fun h=>?_) (fun h=>?_)
 ·exact ⟨_,_,hS,false,rfl,by simp; intro e; rw [e] at h; omega⟩
 have hlm:l.length = m.length:=by omega
 refine bG (fun (k:Nat) x=>x = .int .i64 k/\k <= l.length/\∀ i,i < k->l[i]? = m[i]?) (fun k=>l.length - k) 0 ⟨rfl,Nat.zero_le _,fun i hi=>by omega⟩ ?_;rintro I M k x w1 z1 m1 ⟨rfl,hk,hall⟩ hz1 hS1 back
 clear hS;refine aA ?_;refine aA ?_;refine aC (fun h=>?_) (fun h=>?_)
 ·have hk1:k < l.length:=by omega
  have hk2:k < m.length:=by omega
  obtain ⟨b,off,cs,rfl,hr,hat⟩:=hel1 _ _ (getElem?_eq_getElem hk1);obtain ⟨b',off',cs',rfl,hr',hat'⟩:=hel2 _ _ (getElem?_eq_getElem hk2);have hr:=hr.1;have hr':=hr'.1
  cases hr; cases hr'
  haveI:InR (k:Int) (l.length:Nat):=⟨by omega,by omega⟩
  haveI:InR (k:Int) (m.length:Nat):=⟨by omega,by omega⟩
  haveI:InI ((k:Int) + 1):=⟨by simp only [big] at hb1; omega⟩
  haveI:Fz z b (off + (k:Int).toNat * 3) l[k].cells:=⟨hat⟩
  haveI:Fz z b' (off' + (k:Int).toNat * 3) m[k].cells:=⟨hat'⟩
  have g1:l[k]? = some l[k]:=getElem?_eq_getElem hk1;have g2:m[k]? = some m[k]:=getElem?_eq_getElem hk2;generalize l[k] = p at *;generalize m[k] = q at *;(repeat (first | (refine iDr ?_; intro _ _) | refine aK ?_ | refine jO ?_));have hpq:(decide (p.kind = q.kind) && (decide (p.text = q.text) && (decide (p.n = q.n) && true))) = true ↔ p = q:=by cases p; cases q; simp
  refine aU (fun h3=>?_) (fun h3=>?_)
  ·refine ⟨_,_,‹_›,false,rfl,?_⟩
   have:¬ p = q:=fun e=>by rw [hpq.2 e] at h3; cases h3
   constructor
   ·intro e; cases e
   ·intro e; subst e; rw [g1] at g2; cases g2; exact absurd rfl this
  ·refine aA ?_
   refine back (k + 1) _ _ _ ⟨by simp,by omega,fun i hi=>?_⟩ (Le.refl _) (by assumption) (by omega)
   rcases Nat.lt_or_eq_of_le (Nat.le_of_lt_succ hi) with hi | hi
   ·exact hall i hi
   ·subst hi; rw [g1,g2,hpq.1 h3]
 ·refine ⟨_,_,hS1,true,rfl,?_⟩
  simp only [true_iff]
  apply ext_getElem?
  intro i
  by_cases hi:i < k
  ·exact hall i hi
  ·rw [getElem?_eq_none (by omega),getElem?_eq_none (by omega)])
theorem sH {z:Z} {w:World} {v u:Value} {l m:List ItemM} (hv:SlR El.item z v l) (hu:SlR El.item z u m):Fn1 71 #[v,u] z w fun _ r=>∃ b,r = .bool b/\(b = true ↔ l = m):=Fn1.intro fun hS=>en71 (by
 unfold vc71;obtain ⟨hb1,a1,c1,rfl,_,hel1⟩:=hv.form;obtain ⟨hb2,a2,c2,rfl,_,hel2⟩:=hu.form;refine aA ?_;refine aA ?_;refine aA ?_;refine eO (fun h=>?_) (fun h=>?_)
 ·exact ⟨_,_,hS,false,rfl,by simp; intro e; rw [e] at h; omega⟩
 have hlm:l.length = m.length:=by omega
 refine bG (fun (k:Nat) x=>x = .int .i64 k/\k <= l.length/\∀ i,i < k->l[i]? = m[i]?) (fun k=>l.length - k) 0 ⟨rfl,Nat.zero_le _,fun i hi=>by omega⟩ ?_;rintro I M k x w1 z1 m1 ⟨rfl,hk,hall⟩ hz1 hS1 back
 clear hS;refine aA ?_;refine aA ?_;refine aC (fun h=>?_) (fun h=>?_)
 ·have hk1:k < l.length:=by omega
  have hk2:k < m.length:=by omega
  obtain ⟨b,off,cs,rfl,hr,hat⟩:=hel1 _ _ (getElem?_eq_getElem hk1);obtain ⟨b',off',cs',rfl,hr',hat'⟩:=hel2 _ _ (getElem?_eq_getElem hk2);have hr:=hr.1;have hr':=hr'.1
  cases hr; cases hr'
  haveI:InR (k:Int) (l.length:Nat):=⟨by omega,by omega⟩
  haveI:InR (k:Int) (m.length:Nat):=⟨by omega,by omega⟩
  haveI:InI ((k:Int) + 1):=⟨by simp only [big] at hb1; omega⟩
  haveI:Fz z b (off + (k:Int).toNat * 2) l[k].cells:=⟨hat⟩
  haveI:Fz z b' (off' + (k:Int).toNat * 2) m[k].cells:=⟨hat'⟩
  have g1:l[k]? = some l[k]:=getElem?_eq_getElem hk1;have g2:m[k]? = some m[k]:=getElem?_eq_getElem hk2;generalize l[k] = p at *;generalize m[k] = q at *;(repeat (first | (refine iDr ?_; intro _ _) | refine aK ?_ | refine jO ?_));have hpq:(decide (p.name = q.name) && (p.via == q.via && true)) = true ↔ p = q:=by cases p; cases q; simp
  refine aU (fun h3=>?_) (fun h3=>?_)
  ·refine ⟨_,_,‹_›,false,rfl,?_⟩
   have:¬ p = q:=fun e=>by rw [hpq.2 e] at h3; cases h3
   constructor
   ·intro e; cases e
   ·intro e; subst e; rw [g1] at g2; cases g2; exact absurd rfl this
  ·refine aA ?_
   refine back (k + 1) _ _ _ ⟨by simp,by omega,fun i hi=>?_⟩ (Le.refl _) (by assumption) (by omega)
   rcases Nat.lt_or_eq_of_le (Nat.le_of_lt_succ hi) with hi | hi
   ·exact hall i hi
   ·subst hi; rw [g1,g2,hpq.1 h3]
 ·refine ⟨_,_,hS1,true,rfl,?_⟩
  simp only [true_iff]
  apply ext_getElem?
  intro i
  by_cases hi:i < k
  ·exact hall i hi
  ·rw [getElem?_eq_none (by omega),getElem?_eq_none (by omega)])
theorem jo {z:Z} {w:World} {v u:Value} {l m:List ByteArray} (hv:SlR El.str z v l) (hu:SlR El.str z u m):Fn1 72 #[v,u] z w fun _ r=>∃ b,r = .bool b/\(b = true ↔ l = m):=Fn1.intro fun hS=>en72 (by
 unfold vc72;obtain ⟨hb1,a1,c1,rfl,_,hel1⟩:=hv.form;obtain ⟨hb2,a2,c2,rfl,_,hel2⟩:=hu.form;refine aA ?_;refine aA ?_;refine aA ?_;refine eO (fun h=>?_) (fun h=>?_)
 ·exact ⟨_,_,hS,false,rfl,by simp; intro e; rw [e] at h; omega⟩
 have hlm:l.length = m.length:=by omega
 refine bG (fun (k:Nat) x=>x = .int .i64 k/\k <= l.length/\∀ i,i < k->l[i]? = m[i]?) (fun k=>l.length - k) 0 ⟨rfl,Nat.zero_le _,fun i hi=>by omega⟩ ?_;rintro I M k x w1 z1 m1 ⟨rfl,hk,hall⟩ hz1 hS1 back
 clear hS;refine aA ?_;refine aA ?_;refine aC (fun h=>?_) (fun h=>?_)
 ·have hk1:k < l.length:=by omega
  have hk2:k < m.length:=by omega
  obtain ⟨b,off,cs,rfl,hr,hat⟩:=hel1 _ _ (getElem?_eq_getElem hk1);obtain ⟨b',off',cs',rfl,hr',hat'⟩:=hel2 _ _ (getElem?_eq_getElem hk2);have hr:=hr.1;have hr':=hr'.1
  cases hr; cases hr'
  haveI:InR (k:Int) (l.length:Nat):=⟨by omega,by omega⟩
  haveI:InR (k:Int) (m.length:Nat):=⟨by omega,by omega⟩
  haveI:InI ((k:Int) + 1):=⟨by simp only [big] at hb1; omega⟩
  haveI:Fz z b (off + (k:Int).toNat * 1) [.string l[k]]:=⟨hat⟩
  haveI:Fz z b' (off' + (k:Int).toNat * 1) [.string m[k]]:=⟨hat'⟩
  have g1:l[k]? = some l[k]:=getElem?_eq_getElem hk1;have g2:m[k]? = some m[k]:=getElem?_eq_getElem hk2;generalize l[k] = p at *;generalize m[k] = q at *;(repeat (first | (refine iDr ?_; intro _ _) | refine aK ?_ | refine bz ?_));have hpq:(decide (p = q)) = true ↔ p = q:=by simp
  refine aU (fun h3=>?_) (fun h3=>?_)
  ·refine ⟨_,_,‹_›,false,rfl,?_⟩
   have:¬ p = q:=fun e=>by rw [hpq.2 e] at h3; cases h3
   constructor
   ·intro e; cases e
   ·intro e; subst e; rw [g1] at g2; cases g2; exact absurd rfl this
  ·refine aA ?_
   refine back (k + 1) _ _ _ ⟨by simp,by omega,fun i hi=>?_⟩ (Le.refl _) (by assumption) (by omega)
   rcases Nat.lt_or_eq_of_le (Nat.le_of_lt_succ hi) with hi | hi
   ·exact hall i hi
   ·subst hi; rw [g1,g2,hpq.1 h3]
 ·refine ⟨_,_,hS1,true,rfl,?_⟩
  simp only [true_iff]
  apply ext_getElem?
  intro i
  by_cases hi:i < k
  ·exact hall i hi
  ·rw [getElem?_eq_none (by omega),getElem?_eq_none (by omega)])
theorem mW {α:Type} {l m:List α} {k:Nat} (hk:k = l.length) (hlm:l.length = m.length) (h:∀ i,i < k->l[i]? = m[i]?):l = m:=by
 apply ext_getElem?
 intro i
 by_cases hi:i < k
 ·exact h i hi
 ·rw [getElem?_eq_none (by omega),getElem?_eq_none (by omega)]
theorem vL {z:Z} {w:World} {v u:Value} {c d:aH} (hc:CodeR z v c) (hd:CodeR z u d):Fn1 21 #[v,u] z w fun _ r=>∃ b,r = .bool b/\(b = true ↔ c = d):=Fn1.intro fun hS=>en21 (by
 unfold vc21;obtain ⟨a1,a2,a3,a4,a5,a6,k1,k2,k3,k4,k5,k6,rfl,h1,h2,h3,h4,h5,h6⟩:=hc.form;obtain ⟨p1,p2,p3,p4,p5,p6,q1,q2,q3,q4,q5,q6,rfl,g1,g2,g3,g4,g5,g6⟩:=hd.form;refine aP ?_;intro bc w1 hbc hS1;refine aP ?_;intro bd w2 hbd hS2;clear hS1;obtain ⟨z3,hz3,hS3,hatc⟩:=hS2.frz bc;obtain ⟨zc,hzc',hS4,hatd⟩:=hS3.frz bd;have hatc:=hatc.mono hzc';have hzc:=hz3.trans hzc';generalize hRR:(fun (v:Value) (w':World)=>∃ z' L',Res w z [] w' z' L'/\∃ b,v = .bool b/\(b = true ↔ c = d)) = RR;have hR:∀ z' w' L' b,Res w2 zc [] w' z' L'->(b = true ↔ c = d)->RR (.bool b) w':=fun z' w' L' b k e=>by rw [<- hRR]; exact ⟨z',L',hS4.comp k,b,rfl,e⟩
 clear hRR;have hS5:=hS4.self;clear hS hS2 hS3 hS4;have hcd:c = d ↔ c.consts = d.consts/\c.tmpls = d.tmpls/\c.lists = d.lists/\c.labels = d.labels/\c.slots = d.slots/\c.ins = d.ins:=by cases c; cases d; simp
 haveI:Fz zc bc 0 [.slice a1 c.consts.length k1]:=⟨hatc.fld (i:=0) rfl rfl⟩
 haveI:Fz zc bd 0 [.slice p1 d.consts.length q1]:=⟨hatd.fld (i:=0) rfl rfl⟩
 haveI:Fz zc bc 1 [.slice a2 c.tmpls.length k2]:=⟨hatc.fld (i:=1) rfl rfl⟩
 haveI:Fz zc bd 1 [.slice p2 d.tmpls.length q2]:=⟨hatd.fld (i:=1) rfl rfl⟩
 haveI:Fz zc bc 2 [.slice a3 c.lists.length k3]:=⟨hatc.fld (i:=2) rfl rfl⟩
 haveI:Fz zc bd 2 [.slice p3 d.lists.length q3]:=⟨hatd.fld (i:=2) rfl rfl⟩
 haveI:Fz zc bc 3 [.slice a4 c.labels.length k4]:=⟨hatc.fld (i:=3) rfl rfl⟩
 haveI:Fz zc bd 3 [.slice p4 d.labels.length q4]:=⟨hatd.fld (i:=3) rfl rfl⟩
 haveI:Fz zc bc 4 [.slice a5 c.slots.length k5]:=⟨hatc.fld (i:=4) rfl rfl⟩
 haveI:Fz zc bd 4 [.slice p5 d.slots.length q5]:=⟨hatd.fld (i:=4) rfl rfl⟩
 haveI:Fz zc bc 5 [.slice a6 c.ins.length k6]:=⟨hatc.fld (i:=5) rfl rfl⟩
 haveI:Fz zc bd 5 [.slice p6 d.ins.length q6]:=⟨hatd.fld (i:=5) rfl rfl⟩
 have hno:∀ z' w' L',Res w2 zc [] w' z' L'->¬ c = d->RR (.bool false) w':=fun z' w' L' k e=>hR z' w' L' false k ⟨fun h=>(by cases h),fun h=>absurd h e⟩
 (repeat (first | refine aA ?_ | (refine JGB ?_; intro _ _ _ _) | refine aL ?_));simp only [Bool.cond_true_left,Bool.or_assoc];rename_i hS6;clear hS5;refine aO (fun e=>?_) (fun e=>?_)
 ·refine hno _ _ _ hS6 fun h=>?_
  subst h;simp at e
 simp only [Bool.or_eq_false_iff,Bool.not_eq_false',decide_eq_true_eq] at e;have l1:c.tmpls.length = d.tmpls.length:=by omega
 have l2:c.lists.length = d.lists.length:=by omega
 have l3:c.labels.length = d.labels.length:=by omega
 have l4:c.ins.length = d.ins.length:=by omega
 clear e;refine bG (fun (k:Nat) x=>x = .int .i64 k/\k <= c.tmpls.length/\∀ i,i < k->c.tmpls[i]? = d.tmpls[i]?) (fun k=>c.tmpls.length - k) 0 ⟨rfl,Nat.zero_le _,fun i hi=>by omega⟩ ?_;rintro I M k x w7 z7 m ⟨rfl,hk,hall⟩ hz7 hS7 back
 clear hS6;obtain ⟨hbx,_,_,e1,_,hel1⟩:=h2.form
 cases e1
 obtain ⟨hby,_,_,e2,_,hel2⟩:=g2.form
 cases e2
 (repeat (first | refine aA ?_ | refine aL ?_));refine aC (fun h=>?_) (fun h=>?_)
 ·have hk1:k < c.tmpls.length:=by omega
  have hk2:k < d.tmpls.length:=by omega
  haveI:InR (k:Int) (c.tmpls.length:Nat):=⟨by omega,by omega⟩
  haveI:InR (k:Int) (d.tmpls.length:Nat):=⟨by omega,by omega⟩
  haveI:InI ((k:Int) + 1):=⟨by simp only [big] at hbx; omega⟩
  have i1:c.tmpls[k]? = some c.tmpls[k]:=getElem?_eq_getElem hk1;have i2:d.tmpls[k]? = some d.tmpls[k]:=getElem?_eq_getElem hk2;generalize c.tmpls[k] = p at *;generalize d.tmpls[k] = q at *;obtain ⟨b,off,cs,rfl,hr,hat⟩:=hel1 _ _ i1;obtain ⟨b',off',cs',rfl,hr',hat'⟩:=hel2 _ _ i2;obtain ⟨v1,rfl,hv1⟩:=hr;obtain ⟨v2,rfl,hv2⟩:=hr';obtain ⟨_,x1,y1,rfl,_,_⟩:=hv1.form;obtain ⟨_,x2,y2,rfl,_,_⟩:=hv2.form;haveI:Fz zc b (off + (k:Int).toNat * 1) [.slice x1 p.length y1]:=⟨hat.mono hzc⟩
  haveI:Fz zc b' (off' + (k:Int).toNat * 1) [.slice x2 q.length y2]:=⟨hat'.mono hzc⟩
  (repeat (first | (refine iDr ?_; intro _ _) | refine aK ?_ | refine bz ?_));rename_i hSx;refine ap (sG (hv1.mono (hzc.trans hSx.zle)) (hv2.mono (hzc.trans hSx.zle))) ?_;rintro zy wy vy hzy hSy ⟨b5,rfl,hb5⟩
  clear hSx;(repeat (first | refine aK ?_ | refine cZ ?_));refine aU (fun h3=>?_) (fun h3=>?_)
  ·refine hno _ _ _ hSy fun h=>?_
   subst h;rw [i1] at i2; cases i2;rw [hb5.2 rfl] at h3; cases h3
  ·(repeat (refine aA ?_))
   refine back (k + 1) _ _ _ ⟨by simp,by omega,fun i hi=>?_⟩ (by (repeat (assumption))) (by assumption) (by omega)
   rcases Nat.lt_or_eq_of_le (Nat.le_of_lt_succ hi) with hi | hi
   ·exact hall i hi
   ·subst hi; rw [i1,i2,hb5.1 h3]
 have eq_tmpls:c.tmpls = d.tmpls:=mW (k:=k) (by omega) (by omega) hall;clear back hall h;refine bG (fun (k:Nat) x=>x = .int .i64 k/\k <= c.lists.length/\∀ i,i < k->c.lists[i]? = d.lists[i]?) (fun k=>c.lists.length - k) 0 ⟨rfl,Nat.zero_le _,fun i hi=>by omega⟩ ?_;rintro I M k x w8 z8 m ⟨rfl,hk,hall⟩ hz8 hS8 back
 clear hS7;obtain ⟨hbx,_,_,e1,_,hel1⟩:=h3.form
 cases e1
 obtain ⟨hby,_,_,e2,_,hel2⟩:=g3.form
 cases e2
 (repeat (first | refine aA ?_ | refine aL ?_));refine aC (fun h=>?_) (fun h=>?_)
 ·have hk1:k < c.lists.length:=by omega
  have hk2:k < d.lists.length:=by omega
  haveI:InR (k:Int) (c.lists.length:Nat):=⟨by omega,by omega⟩
  haveI:InR (k:Int) (d.lists.length:Nat):=⟨by omega,by omega⟩
  haveI:InI ((k:Int) + 1):=⟨by simp only [big] at hbx; omega⟩
  have i1:c.lists[k]? = some c.lists[k]:=getElem?_eq_getElem hk1;have i2:d.lists[k]? = some d.lists[k]:=getElem?_eq_getElem hk2;generalize c.lists[k] = p at *;generalize d.lists[k] = q at *;obtain ⟨b,off,cs,rfl,hr,hat⟩:=hel1 _ _ i1;obtain ⟨b',off',cs',rfl,hr',hat'⟩:=hel2 _ _ i2;obtain ⟨v1,rfl,hv1⟩:=hr;obtain ⟨v2,rfl,hv2⟩:=hr';obtain ⟨_,x1,y1,rfl,_,_⟩:=hv1.form;obtain ⟨_,x2,y2,rfl,_,_⟩:=hv2.form;haveI:Fz zc b (off + (k:Int).toNat * 1) [.slice x1 p.length y1]:=⟨hat.mono hzc⟩
  haveI:Fz zc b' (off' + (k:Int).toNat * 1) [.slice x2 q.length y2]:=⟨hat'.mono hzc⟩
  (repeat (first | (refine iDr ?_; intro _ _) | refine aK ?_ | refine bz ?_));rename_i hSx;refine ap (sH (hv1.mono (hzc.trans hSx.zle)) (hv2.mono (hzc.trans hSx.zle))) ?_;rintro zy wy vy hzy hSy ⟨b5,rfl,hb5⟩
  clear hSx;(repeat (first | refine aK ?_ | refine cZ ?_));refine aU (fun h3=>?_) (fun h3=>?_)
  ·refine hno _ _ _ hSy fun h=>?_
   subst h;rw [i1] at i2; cases i2;rw [hb5.2 rfl] at h3; cases h3
  ·(repeat (refine aA ?_))
   refine back (k + 1) _ _ _ ⟨by simp,by omega,fun i hi=>?_⟩ (by (repeat (assumption))) (by assumption) (by omega)
   rcases Nat.lt_or_eq_of_le (Nat.le_of_lt_succ hi) with hi | hi
   ·exact hall i hi
   ·subst hi; rw [i1,i2,hb5.1 h3]
 have eq_lists:c.lists = d.lists:=mW (k:=k) (by omega) (by omega) hall;clear back hall h;refine bG (fun (k:Nat) x=>x = .int .i64 k/\k <= c.labels.length/\∀ i,i < k->c.labels[i]? = d.labels[i]?) (fun k=>c.labels.length - k) 0 ⟨rfl,Nat.zero_le _,fun i hi=>by omega⟩ ?_;rintro I M k x w9 z9 m ⟨rfl,hk,hall⟩ hz9 hS9 back
 clear hS8;obtain ⟨hbx,_,_,e1,_,hel1⟩:=h4.form
 cases e1
 obtain ⟨hby,_,_,e2,_,hel2⟩:=g4.form
 cases e2
 (repeat (first | refine aA ?_ | refine aL ?_));refine aC (fun h=>?_) (fun h=>?_)
 ·have hk1:k < c.labels.length:=by omega
  have hk2:k < d.labels.length:=by omega
  haveI:InR (k:Int) (c.labels.length:Nat):=⟨by omega,by omega⟩
  haveI:InR (k:Int) (d.labels.length:Nat):=⟨by omega,by omega⟩
  haveI:InI ((k:Int) + 1):=⟨by simp only [big] at hbx; omega⟩
  have i1:c.labels[k]? = some c.labels[k]:=getElem?_eq_getElem hk1;have i2:d.labels[k]? = some d.labels[k]:=getElem?_eq_getElem hk2;generalize c.labels[k] = p at *;generalize d.labels[k] = q at *;obtain ⟨b,off,cs,rfl,hr,hat⟩:=hel1 _ _ i1;obtain ⟨b',off',cs',rfl,hr',hat'⟩:=hel2 _ _ i2;have hr:=hr.1;have hr':=hr'.1
  cases hr; cases hr'
  haveI:Fz zc b (off + (k:Int).toNat * 2) p.cells:=⟨hat.mono hzc⟩
  haveI:Fz zc b' (off' + (k:Int).toNat * 2) q.cells:=⟨hat'.mono hzc⟩
  (repeat (first | (refine iDr ?_; intro _ _) | refine aK ?_ | refine jO ?_ | refine bz ?_));have hpq:(decide (p.name = q.name) && (decide (p.at_ = q.at_) && true)) = true ↔ p = q:=by cases p; cases q; simp
  refine aU (fun h3=>?_) (fun h3=>?_)
  ·refine hno _ _ _ ‹Res w2 zc [] _ _ _› fun h=>?_
   subst h;rw [i1] at i2; cases i2;rw [hpq.2 rfl] at h3; cases h3
  ·(repeat (refine aA ?_))
   refine back (k + 1) _ _ _ ⟨by simp,by omega,fun i hi=>?_⟩ (by (repeat (exact Le.refl _))) (by assumption) (by omega)
   rcases Nat.lt_or_eq_of_le (Nat.le_of_lt_succ hi) with hi | hi
   ·exact hall i hi
   ·subst hi; rw [i1,i2,hpq.1 h3]
 have eq_labels:c.labels = d.labels:=mW (k:=k) (by omega) (by omega) hall;clear back hall h;refine bG (fun (k:Nat) x=>x = .int .i64 k/\k <= c.ins.length/\∀ i,i < k->c.ins[i]? = d.ins[i]?) (fun k=>c.ins.length - k) 0 ⟨rfl,Nat.zero_le _,fun i hi=>by omega⟩ ?_;rintro I M k x w10 z10 m ⟨rfl,hk,hall⟩ hz10 hS10 back
 clear hS9;obtain ⟨hbx,_,_,e1,_,hel1⟩:=h6.form
 cases e1
 obtain ⟨hby,_,_,e2,_,hel2⟩:=g6.form
 cases e2
 (repeat (first | refine aA ?_ | refine aL ?_));refine aC (fun h=>?_) (fun h=>?_)
 ·have hk1:k < c.ins.length:=by omega
  have hk2:k < d.ins.length:=by omega
  haveI:InR (k:Int) (c.ins.length:Nat):=⟨by omega,by omega⟩
  haveI:InR (k:Int) (d.ins.length:Nat):=⟨by omega,by omega⟩
  haveI:InI ((k:Int) + 1):=⟨by simp only [big] at hbx; omega⟩
  have i1:c.ins[k]? = some c.ins[k]:=getElem?_eq_getElem hk1;have i2:d.ins[k]? = some d.ins[k]:=getElem?_eq_getElem hk2;generalize c.ins[k] = p at *;generalize d.ins[k] = q at *;obtain ⟨b,off,cs,rfl,hr,hat⟩:=hel1 _ _ i1;obtain ⟨b',off',cs',rfl,hr',hat'⟩:=hel2 _ _ i2;have hr:=hr;have hr':=hr'
  cases hr; cases hr'
  haveI:Fz zc b (off + (k:Int).toNat * 4) p.cells:=⟨hat.mono hzc⟩
  haveI:Fz zc b' (off' + (k:Int).toNat * 4) q.cells:=⟨hat'.mono hzc⟩
  (repeat (first | (refine iDr ?_; intro _ _) | refine aK ?_ | refine jO ?_ | refine bz ?_));have hpq:(decide (p.op = q.op) && (decide (p.a = q.a) && (decide (p.b = q.b) && (decide (p.c = q.c) && true)))) = true ↔ p = q:=by cases p; cases q; simp
  refine aU (fun h3=>?_) (fun h3=>?_)
  ·refine hno _ _ _ ‹Res w2 zc [] _ _ _› fun h=>?_
   subst h;rw [i1] at i2; cases i2;rw [hpq.2 rfl] at h3; cases h3
  ·(repeat (refine aA ?_))
   refine back (k + 1) _ _ _ ⟨by simp,by omega,fun i hi=>?_⟩ (by (repeat (exact Le.refl _))) (by assumption) (by omega)
   rcases Nat.lt_or_eq_of_le (Nat.le_of_lt_succ hi) with hi | hi
   ·exact hall i hi
   ·subst hi; rw [i1,i2,hpq.1 h3]
 have eq_ins:c.ins = d.ins:=mW (k:=k) (by omega) (by omega) hall;clear back hall h;(repeat (first | refine aA ?_ | refine aL ?_));refine ap (jo (h1.mono (hzc.trans hS10.zle)) (g1.mono (hzc.trans hS10.zle))) ?_;rintro z11 w11 v11 hz11 hS11 ⟨b1,rfl,hb1⟩
 clear hS10;intro Ka hKa;have ma:∀ z' w' L' b,Res w2 zc [] w' z' L'->(b = true ↔ c = d)->Ka [.bool b] w':=fun z' w' L' b k e=>hKa _ _ fun _=>hR _ _ _ _ k e
 clear hKa;refine aO (fun e=>?_) (fun e=>?_)
 ·(repeat (first | refine aA ?_ | refine aL ?_))
  refine ap (jo (h5.mono (hzc.trans hS11.zle)) (g5.mono (hzc.trans hS11.zle))) ?_;rintro z12 w12 v12 hz12 hS12 ⟨b2,rfl,hb2⟩
  refine ma _ _ _ _ hS12 ?_;rw [hb2,hcd];exact ⟨fun h=>⟨hb1.1 e,eq_tmpls,eq_lists,eq_labels,h,eq_ins⟩,fun h=>h.2.2.2.2.1⟩
 ·refine ma _ _ _ _ hS11 ⟨fun h=>(by cases h),fun h=>?_⟩
  rw [hb1.2 (by rw [h])] at e; cases e)
end
section
instance {n s:Int}:Pu 34 #[.int .i64 n,.int .i64 s,.int .i64 400000] (.bool (oB n s 400000)):=uB ⟨by omega⟩
end
section
theorem zp {z:Z} {w:World} {v:Value} {c:aH} {s:ByteArray} [ht:Tab z] [he:Errs z] (hc:CodeR z v c):Fn1 11 #[v,.string s] z w fun _ r=>r = .bool true:=Fn1.intro fun hS=>en11 (by
 unfold vc11;obtain ⟨a1,a2,a3,a4,a5,a6,k1,k2,k3,k4,k5,k6,rfl,h1,h2,h3,h4,h5,h6⟩:=hc.form;refine aP ?_;intro bc w1 hbc hS1;obtain ⟨zc,hzc,hS2,hatc⟩:=hS1.frz bc;generalize hRR:(fun (v:Value) (w':World)=>∃ z' L',Res w z [] w' z' L'/\v = .bool true) = RR;have hR:∀ z' w' L' b,Res w1 zc [] w' z' L'->b = true->RR (.bool b) w':=fun z' w' L' b k e=>by rw [<- hRR,e]; exact ⟨z',L',hS2.comp k,rfl⟩
 clear hRR;have hS5:=hS2.self;clear hS hS1 hS2;haveI:Tab zc:=ht.le hzc;haveI:Errs zc:=he.le hzc;have hcc:=hc.mono hzc;haveI:Fz zc bc 0 (dq a1 a2 a3 a4 a5 a6 k1 k2 k3 k4 k5 k6 c):=⟨hatc⟩
 refine cE ?_;intro z6 w6 hz6 hS6;clear hS5;refine bV ?_;refine ap (Cl (hcc.mono hS6.zle)) ?_;rintro z7 w7 v7 hz7 hS7 ⟨few,rfl⟩
 clear hS6;refine aA ?_;intro Ka hKa;have ma:∀ x z' w',Le zc z'->(x = false->s.size <= 1000000)->Res w1 zc [] w' z' []->Ka [.bool x] w':=by
  intro x z8 w8 hz8 hlen hS8;refine hKa _ _ fun _=>?_
  clear hKa hS7;refine aO (fun _=>hR _ _ _ _ hS8 rfl) (fun hx=>?_);have hlen:=hlen hx;haveI:Tab z8:=Tab.le ‹_› hz8;refine bV ?_;refine ap (wk (hcc.mono hS8.zle)) ?_;rintro z9 w9 v9 hz9 hS9 rfl
  clear hS8;haveI:Tab z9:=Tab.le (z:=z8) ‹_› hz9;refine aA ?_;refine aA ?_;refine bV ?_;refine ap (sM (hcc.mono hS9.zle)) ?_;rintro z10 w10 v10 hz10 hS10 rfl
  clear hS9;refine ak ?_;intro b8 w11 hb8 hS11;refine aF ?_;intro w12 hS12;clear hS10 hS11;haveI:Tab z10:=Tab.le (z:=z9) ‹_› hz10;haveI:Errs z10:=Errs.le (z:=zc) ‹_› hS12.zle;refine ap (Au hlen) ?_;rintro z13 w13 v13 hz13 hS13 ⟨d1,d2,d3,d4,d5,d6,hd,rfl⟩
  clear hS12;refine aA ?_;refine aA ?_;refine aA ?_;obtain ⟨x1,x2,x3,x4,x5,x6,y1,y2,y3,y4,y5,y6,hdv,_,_,_,_,_,_⟩:=hd.form
  cases hdv
  refine ak ?_;intro b9 w14 hb9 hS14;refine aF ?_;intro w15 hS15;clear hS13 hS14;refine ap (vN hlen) ?_;rintro z16 w16 v16 hz16 hS16 ⟨n1,n2,n3,n4,n5,n6,hn,rfl⟩
  clear hS15;obtain ⟨p1,p2,p3,p4,p5,p6,q1,q2,q3,q4,q5,q6,hnv,_,_,_,_,_,_⟩:=hn.form
  cases hnv
  refine ak ?_;intro b12 w17 hb12 hS17;refine aF ?_;intro w18 hS18;clear hS16 hS17;(repeat (first | refine aA ?_ | refine ae ?_));refine ap (vL (hd.mono (by (repeat (assumption)))) (hn.mono (by (repeat (exact Le.refl _))))) ?_;rintro z19 w19 v19 hz19 hS19 ⟨b1,rfl,hb1⟩
  have hb1:=hb1.2 rfl;subst hb1;clear hS18;refine fun Kb hKb=>?_
  have mb:Kb [.bool true] w19:=by
   refine hKb _ _ fun _=>?_
   clear hKb;intro K1 hK1;refine bC rfl ?_;(repeat (first | refine aA ?_ | refine aE ?_));refine hK1 _ _ fun _=>?_
   clear hK1;intro K2 hK2;refine bC (by simp) ?_;(repeat (first | refine aA ?_ | refine aE ?_));refine hK2 _ _ fun _=>?_
   clear hK2;intro K3 hK3;refine bC (by simp) ?_;(repeat (first | refine aA ?_ | refine aE ?_));refine hK3 _ _ fun _=>?_
   clear hK3;intro K4 hK4;refine bC (by simp) ?_;(repeat (first | refine aA ?_ | refine aE ?_));refine hK4 _ _ fun _=>?_
   exact hR _ _ _ _ (by assumption) (by simp)
  clear hKb;(repeat (refine ah ?_));exact mb
 clear hKa;refine aO (fun h=>?_) (fun h=>?_)
 ·exact ma true _ _ hS7.zle (fun h=>by cases h) hS7
 ·(repeat (first | refine aA ?_ | (refine aN ?_; intro _ _ _ _)))
  rename_i hS8;refine ma _ _ _ hS8.zle (fun h=>?_) hS8;unfold oB at h;simp only [Bool.or_eq_false_iff,Bool.and_eq_false_iff,decide_eq_false_iff_not] at h;omega)
end
section
open Go Q Go.RowKit Go.ChangeShapes Go.WideShapes Go.ChangeAt
theorem ur {w:World} {base n:Nat} {a:Addr} {cs:List Value} (h:w.cells? base a n = some cs) (hn:0 < n):a.spot = none/\cs.length = n/\At (hp w) a.block a.off cs:=by
 obtain ⟨_,hl,hc⟩:=World.cells?_some h;have h0:=hc 0 hn;rw [rp] at h0;have hlt:0 < cs.length:=by omega
 rw [getElem?_eq_getElem hlt] at h0;unfold World.cell? at h0
 split at h0
 ·rename_i c ty fr hb
  have hs:a.spot = none:=by
   cases hsp:a.spot with
   | none=>rfl
   | some x=>rw [hsp] at h0; simp at h0
  refine ⟨hs,hl,c,ty,fr,hb,fun j v hv=>?_⟩;have hj:=(List.getElem?_eq_some_iff.1 hv).1;have:=hc j (by omega);obtain ⟨ab,ao,asp⟩:=a;simp only at hs hb;subst hs;rw [dj,hv] at this;unfold World.cell? at this;simp only [hb,Option.isSome_none] at this
  simpa using this
 ·cases h0
theorem Dj:ownKnob Tryz.prog.godebug = none:=by kernel_rfl
theorem zq:laidOutB Tryz.prog = true:=by kernel_rfl
theorem xl (w:World):Own w (hp w) []:=Own.mk' (fun _ _ h=>h) (fun _ h=>by cases h) nodup_nil
theorem u4:Tryz.prog.underlying 4 = some .bool:=by kernel_rfl
theorem u5:Tryz.prog.underlying 5 = some (.int .u8):=by kernel_rfl
theorem u3:Tryz.prog.underlying 3 = some (.int .i64):=by kernel_rfl
theorem u9:Tryz.prog.underlying 9 = some .string:=by kernel_rfl
section
variable {H:Type} {enc:TypeId × Value->H} {P:Program}
def uu (P:Program) (t:TypeId):Prop:=P.readableRec t = true/\t < P.types.size
theorem kl (hl:laidOutB P = true) {W W':World} {sp:Nat->Bool} (hB:Below W.heap.size W W') :
  ∀ {ts:List TypeId} {vs:List Value} {ds:List (DataW H)} {ps:List MemPlace},(∀ t ∈ ts,uu P t)->DataW.TrodAll enc P W 0 (fun _=>true) true ts vs ds ps->(∀ p ∈ ps,p.block < W.heap.size)->(∀ p ∈ ps,sp p.block = true)->DataW.TrodAll enc P W' 0 sp true ts vs ds ps
 | [],[],[],_,_,h,_,_=>h
 | _ :: _,_ :: _,_ :: _,_,hT,⟨p,q,h1,h2,e⟩,hlt,hs=>⟨p,q,
   WideElems.Trod_stays hl (hT _ mem_cons_self).1 (hT _ mem_cons_self).2 h1 (fun x hx=>hB.same (hlt x (by rw [e]; exact mem_append_left _ hx))) (fun x hx=>hs x (by rw [e]; exact mem_append_left _ hx)),
   kl hl hB (fun t ht=>hT t (mem_cons_of_mem _ ht)) h2 (fun x hx=>hlt x (by rw [e]; exact mem_append_right _ hx)) (fun x hx=>hs x (by rw [e]; exact mem_append_right _ hx)),e⟩
theorem zU (hl:laidOutB P = true) {f:Func} {s:ChangeSpec} {apart fresh handsOn again:Bool} {W W':World} {args:Array Value} {ds gs:List (DataW H)} {before:List MemPlace} {tb:TypeId}
  (hW:DataW.Whole enc P f.params.toList s.vars apart W args.toList ds gs before) (hB:Below W.heap.size W W')
  (hr:f.resultTypes = #[tb]) (hu:P.underlying tb = some .bool) (hT:∀ t ∈ f.params.toList,uu P t) (hv:s.vars = [])
  (h1:(s.fn H (ds ++ gs)).results = [.lit (.bool true)]) (h2:(s.fn H (ds ++ gs)).args = ds) (h3:(s.fn H (ds ++ gs)).vars = []) :
  s.post enc P f apart fresh handsOn again W args (.bool true) W':=by
 have hlt:=hW.lt;obtain ⟨pa,pv,hA,hV,rfl,hz,hn⟩:=id hW;rw [hv] at hV;obtain ⟨rfl,rfl⟩:=trodVars_none hV;have hargs:∀ sp:Nat->Bool,(∀ p ∈ pa,sp p.block = true)->DataW.TrodAll enc P W' 0 sp true f.params.toList args.toList (s.fn H (ds ++ [])).args pa:=fun sp hsp=>by
  rw [h2]; exact kl hl hB hT hA (fun p hp=>hlt p (by simpa using hp)) hsp
 have hres:∀ (b:Nat) (sp:Nat->Bool) (hd:Bool),DataW.TrodAll enc P W' b sp hd f.resultTypes.toList ((Value.bool true).resultList f.resultTypes.size) (s.fn H (ds ++ [])).results []:=fun b sp hd=>by
  rw [h1,hr]; exact trodAll_cons_mk (shut_bool hu _) trodAll_mk0
 have hvars:∀ sp:Nat->Bool,DataW.TrodVars enc P W' sp s.vars (s.fn H (ds ++ [])).vars []:=fun sp=>by rw [hv,h3]; rfl
 have hold:∀ p ∈ pa,(fun b=>decide (b < W.heap.size)) p.block = true:=fun p hp=>by simpa using hlt p (by simpa using hp)
 refine ⟨ds,[],pa ++ [],[],pa,[],hW,hres _ _ _,hargs _ hold,hvars _,hB.frame _,fun _=>⟨?_,_,_,([] ++ pa) ++ [],⟨[] ++ pa,[],trodAll_append (hargs _ (fun _ _=>rfl)) (hres _ _ _),hvars _,rfl,?_,?_⟩,?_⟩⟩
 ·exact ok_one hr rfl (okWide_bool_mk hu _)
 ·intro b off hp
  have hp':MemPlace.cell b off ∈ pa ++ []:=by simpa using hp
  rw [hB.frozen (p:=⟨b,off,none⟩) (hlt _ hp')];exact hz b off hp'
 ·intro ha
  simpa using hn ha
 ·intro p hp _
  simpa using hp
end
theorem zV {H:Type} {enc:TypeId × Value->H} {k:FuncId} {f:Func} {s:ChangeSpec} {apart fresh handsOn again:Bool} {W:World} {args:Array Value} {ds gs:List (DataW H)} {before:List MemPlace}
  (hW:DataW.Whole enc Tryz.prog f.params.toList s.vars apart W args.toList ds gs before)
  (hc:Fn1 k args (hp W) W fun _ r=>r = .bool true)
  (hr:f.resultTypes = #[4]) (hT:∀ t ∈ f.params.toList,uu Tryz.prog t) (hv:s.vars = [])
  (h1:(s.fn H (ds ++ gs)).results = [.lit (.bool true)]) (h2:(s.fn H (ds ++ gs)).args = ds) (h3:(s.fn H (ds ++ gs)).vars = []) :
  Calls Tryz.prog k args W fun e W'=>∃ v,e = .returned v/\s.post enc Tryz.prog f apart fresh handsOn again W args v W':=by
 refine (hc (xl W)).mono fun e W' he=>?_
 cases e with
 | returned v=>
  obtain ⟨z',hR,rfl⟩:=he;exact ⟨_,rfl,zU zq hW hR.below hr u4 hT hv h1 h2 h3⟩
 | _=>exact he.elim
section
variable {H:Type} {enc:TypeId × Value->H} {w:World} {base:Nat} {spare:Nat->Bool} {held:Bool}
theorem cT {t:TypeId} (hu:Tryz.prog.underlying t = some (.struct (fieldsOf t))) {i ty off:Nat} (hi:((fieldsOf t).toList.map fun f=>(f.type,f.offset))[i]? = some (ty,off)):∃ f,(fieldsOf t)[i]? = some f/\f.type = ty/\f.offset = off:=by
 rw [getElem?_map] at hi;obtain ⟨f,h1,h2⟩:=Option.map_eq_some_iff.1 hi;simp only [Prod.mk.injEq] at h2;exact ⟨f,by simpa using h1,h2.1,h2.2⟩
theorem iB {α:Type} [Inhabited α] {E:El α} {t e:TypeId} (hu:Tryz.prog.underlying t = some (.slice e)) (hc:Tryz.prog.cellsOf e = E.size) (rd:∀ n cs x,DataW.trod enc Tryz.prog w base spare held n e cs = some x->∃ a,E.rel (hp w) cs a)
  {n:Nat} {v:Value} {x:DataW H × List MemPlace} (h:DataW.trod enc Tryz.prog w base spare held n t [v] = some x):∃ l:List α,SlR E (hp w) v l:=by
 rcases Go.Deep.open_slice hu h with ⟨h0,_⟩ | ⟨a,len,cap,m,n',D,Pl,h0,hb,hlc,hcm,hm,_,hel⟩
 ·simp at h0; subst h0; exact ⟨[],SlR.nil⟩
 ·simp at h0; subst h0
  rw [hc] at hel;have hlm:len <= m:=by rw [hm]; split <;> omega
  have key:∀ i,i < len->∃ (o:α) (cs:List Value),E.rel (hp w) cs o/\(i = 0->a.spot = none)/\At (hp w) a.block (a.off + i * E.size) cs:=fun i hi=>by
   obtain ⟨cs,h1,h2⟩:=hel i (by omega);obtain ⟨o,ho⟩:=rd _ _ _ h2;obtain ⟨g1,g2,g3⟩:=ur h1 E.pos;obtain ⟨ab,ao,asp⟩:=a;unfold Addr.add at g1 g3
   by_cases hz:i * E.size = 0
   ·simp only [hz,if_true] at g1 g3
    exact ⟨o,cs,ho,fun _=>g1,by rw [hz]; exact g3⟩
   ·simp only [hz,if_false] at g1 g3
    exact ⟨o,cs,ho,fun h0=>absurd (by rw [h0]; simp) hz,g3⟩
  classical
  let f:Nat->α:=fun i=>if hi:i < len then Classical.choose (key i hi) else default
  have hf:∀ i,i < len->∃ cs:List Value,E.rel (hp w) cs (f i)/\(i = 0->a.spot = none)/\At (hp w) a.block (a.off + i * E.size) cs:=fun i hi=>by
   simp only [f,dif_pos hi]; exact Classical.choose_spec (key i hi)
  refine ⟨(List.range len).map f,some a,cap,by simp,by simpa using hlc,by simp only [length_map,length_range,big]; simp only [maxLen] at hcm; omega,fun hn=>?_⟩;have hpos:0 < len:=by
   rcases Nat.eq_zero_or_pos len with h0 | h0
   ·subst h0; simp at hn
   ·exact h0
  obtain ⟨ab,ao,asp⟩:=a;obtain ⟨_,_,hsp,_⟩:=hf 0 hpos;have hsp:=hsp rfl;simp only at hsp;subst hsp;refine ⟨ab,ao,rfl,fun i x hx=>?_⟩;rw [getElem?_map] at hx;obtain ⟨k,h1,rfl⟩:=Option.map_eq_some_iff.1 hx;have hk:=List.getElem?_eq_some_iff.1 h1;obtain ⟨hlt,rfl⟩:=hk;simp only [getElem_range,length_range] at hlt ⊢;obtain ⟨cs,q1,_,q2⟩:=hf i hlt;exact ⟨cs,q1,q2⟩
instance:Inhabited PartM:=⟨⟨0,⟨#[]⟩,0⟩⟩
instance:Inhabited ItemM:=⟨⟨⟨#[]⟩,false⟩⟩
instance:Inhabited SpotM:=⟨⟨⟨#[]⟩,0⟩⟩
instance:Inhabited InsM:=⟨⟨0,0,0,0⟩⟩
theorem xj {n:Nat} {cs:List Value} {x:DataW H × List MemPlace} (h:DataW.trod enc Tryz.prog w base spare held n 95 cs = some x):∃ o:PartM,El.part.rel (hp w) cs o:=by
 have hu:Tryz.prog.underlying 95 = some (.struct (fieldsOf 95)):=by kernel_rfl
 obtain ⟨xs,m,_,_,hl,hxl,hf⟩:=DataW.trod_struct hu h;have hc4:Tryz.prog.cellsOf 95 = 3:=by kernel_rfl
 rw [hc4] at hl;obtain ⟨f0,a0,b0,c0⟩:=cT hu (i:=0) (ty:=3) (off:=0) (by kernel_rfl);have h0:=hf 0 f0 a0;obtain ⟨f1,a1,b1,c1⟩:=cT hu (i:=1) (ty:=9) (off:=1) (by kernel_rfl);have h1:=hf 1 f1 a1;obtain ⟨f2,a2,b2,c2⟩:=cT hu (i:=2) (ty:=3) (off:=2) (by kernel_rfl);have h2:=hf 2 f2 a2;have hsz:(fieldsOf 95).size = 3:=by kernel_rfl
 rw [hsz] at hxl;rw [b0,c0,show Tryz.prog.cellsOf 3 = 1 by kernel_rfl] at h0;rw [b1,c1,show Tryz.prog.cellsOf 9 = 1 by kernel_rfl] at h1;rw [b2,c2,show Tryz.prog.cellsOf 3 = 1 by kernel_rfl] at h2
 match xs,hxl,cs,hl with
 | [x0,x1,x2],_,[v0,v1,v2],_=>
  obtain ⟨m0,g0,_⟩:=DataW.trod_int u3 (x:=x0) (by simpa using h0);obtain ⟨m1,g1,_,hs⟩:=DataW.trod_string u9 (x:=x1) (by simpa using h1);obtain ⟨m2,g2,_⟩:=DataW.trod_int u3 (x:=x2) (by simpa using h2);simp at g0 g1 g2;subst g0; subst g1; subst g2;exact ⟨⟨m0,m1,m2⟩,rfl,hs⟩
theorem yC {n:Nat} {cs:List Value} {x:DataW H × List MemPlace} (h:DataW.trod enc Tryz.prog w base spare held n 98 cs = some x):∃ o:ItemM,El.item.rel (hp w) cs o:=by
 have hu:Tryz.prog.underlying 98 = some (.struct (fieldsOf 98)):=by kernel_rfl
 obtain ⟨xs,m,_,_,hl,hxl,hf⟩:=DataW.trod_struct hu h;have hc4:Tryz.prog.cellsOf 98 = 2:=by kernel_rfl
 rw [hc4] at hl;obtain ⟨f0,a0,b0,c0⟩:=cT hu (i:=0) (ty:=9) (off:=0) (by kernel_rfl);have h0:=hf 0 f0 a0;obtain ⟨f1,a1,b1,c1⟩:=cT hu (i:=1) (ty:=4) (off:=1) (by kernel_rfl);have h1:=hf 1 f1 a1;have hsz:(fieldsOf 98).size = 2:=by kernel_rfl
 rw [hsz] at hxl;rw [b0,c0,show Tryz.prog.cellsOf 9 = 1 by kernel_rfl] at h0;rw [b1,c1,show Tryz.prog.cellsOf 4 = 1 by kernel_rfl] at h1
 match xs,hxl,cs,hl with
 | [x0,x1],_,[v0,v1],_=>
  obtain ⟨m0,g0,_,hs⟩:=DataW.trod_string u9 (x:=x0) (by simpa using h0);obtain ⟨m1,g1,_⟩:=DataW.trod_bool u4 (x:=x1) (by simpa using h1);simp at g0 g1;subst g0; subst g1;exact ⟨⟨m0,m1⟩,rfl,hs⟩
theorem xX {n:Nat} {cs:List Value} {x:DataW H × List MemPlace} (h:DataW.trod enc Tryz.prog w base spare held n 54 cs = some x):∃ o:SpotM,El.spot.rel (hp w) cs o:=by
 have hu:Tryz.prog.underlying 54 = some (.struct (fieldsOf 54)):=by kernel_rfl
 obtain ⟨xs,m,_,_,hl,hxl,hf⟩:=DataW.trod_struct hu h;have hc4:Tryz.prog.cellsOf 54 = 2:=by kernel_rfl
 rw [hc4] at hl;obtain ⟨f0,a0,b0,c0⟩:=cT hu (i:=0) (ty:=9) (off:=0) (by kernel_rfl);have h0:=hf 0 f0 a0;obtain ⟨f1,a1,b1,c1⟩:=cT hu (i:=1) (ty:=3) (off:=1) (by kernel_rfl);have h1:=hf 1 f1 a1;have hsz:(fieldsOf 54).size = 2:=by kernel_rfl
 rw [hsz] at hxl;rw [b0,c0,show Tryz.prog.cellsOf 9 = 1 by kernel_rfl] at h0;rw [b1,c1,show Tryz.prog.cellsOf 3 = 1 by kernel_rfl] at h1
 match xs,hxl,cs,hl with
 | [x0,x1],_,[v0,v1],_=>
  obtain ⟨m0,g0,_,hs⟩:=DataW.trod_string u9 (x:=x0) (by simpa using h0);obtain ⟨m1,g1,_⟩:=DataW.trod_int u3 (x:=x1) (by simpa using h1);simp at g0 g1;subst g0; subst g1;exact ⟨⟨m0,m1⟩,rfl,hs⟩
theorem zx {n:Nat} {cs:List Value} {x:DataW H × List MemPlace} (h:DataW.trod enc Tryz.prog w base spare held n 38 cs = some x):∃ o:InsM,El.ins.rel (hp w) cs o:=by
 have hu:Tryz.prog.underlying 38 = some (.struct (fieldsOf 38)):=by kernel_rfl
 obtain ⟨xs,m,_,_,hl,hxl,hf⟩:=DataW.trod_struct hu h;have hc4:Tryz.prog.cellsOf 38 = 4:=by kernel_rfl
 rw [hc4] at hl;obtain ⟨f0,a0,b0,c0⟩:=cT hu (i:=0) (ty:=3) (off:=0) (by kernel_rfl);have h0:=hf 0 f0 a0;obtain ⟨f1,a1,b1,c1⟩:=cT hu (i:=1) (ty:=3) (off:=1) (by kernel_rfl);have h1:=hf 1 f1 a1;obtain ⟨f2,a2,b2,c2⟩:=cT hu (i:=2) (ty:=3) (off:=2) (by kernel_rfl);have h2:=hf 2 f2 a2;obtain ⟨f3,a3,b3,c3⟩:=cT hu (i:=3) (ty:=3) (off:=3) (by kernel_rfl);have h3:=hf 3 f3 a3;have hsz:(fieldsOf 38).size = 4:=by kernel_rfl
 rw [hsz] at hxl;rw [b0,c0,show Tryz.prog.cellsOf 3 = 1 by kernel_rfl] at h0;rw [b1,c1,show Tryz.prog.cellsOf 3 = 1 by kernel_rfl] at h1;rw [b2,c2,show Tryz.prog.cellsOf 3 = 1 by kernel_rfl] at h2;rw [b3,c3,show Tryz.prog.cellsOf 3 = 1 by kernel_rfl] at h3
 match xs,hxl,cs,hl with
 | [x0,x1,x2,x3],_,[v0,v1,v2,v3],_=>
  obtain ⟨m0,g0,_⟩:=DataW.trod_int u3 (x:=x0) (by simpa using h0);obtain ⟨m1,g1,_⟩:=DataW.trod_int u3 (x:=x1) (by simpa using h1);obtain ⟨m2,g2,_⟩:=DataW.trod_int u3 (x:=x2) (by simpa using h2);obtain ⟨m3,g3,_⟩:=DataW.trod_int u3 (x:=x3) (by simpa using h3);simp at g0 g1 g2 g3;subst g0; subst g1; subst g2; subst g3;exact ⟨⟨m0,m1,m2,m3⟩,rfl⟩
theorem tW {n:Nat} {cs:List Value} {x:DataW H × List MemPlace} (h:DataW.trod enc Tryz.prog w base spare held n 9 cs = some x):∃ o:ByteArray,El.str.rel (hp w) cs o:=by
 obtain ⟨s,g,_,hs⟩:=DataW.trod_string u9 h;exact ⟨s,g,hs⟩
theorem mA {n t e:Nat} {cs:List Value} {x:DataW H × List MemPlace} (hu:Tryz.prog.underlying t = some (.slice e)) (h:DataW.trod enc Tryz.prog w base spare held n t cs = some x):∃ v,cs = [v]:=by
 rcases Go.Deep.open_slice hu h with ⟨h0,_⟩ | ⟨a,len,cap,m,n',D,Pl,h0,_⟩ <;> exact ⟨_,h0⟩
theorem vZ {n:Nat} {cs:List Value} {x:DataW H × List MemPlace} (h:DataW.trod enc Tryz.prog w base spare held n 93 cs = some x):∃ o:List PartM,(El.sl El.part).rel (hp w) cs o:=by
 obtain ⟨v,rfl⟩:=mA (e:=95) (by kernel_rfl) h;obtain ⟨l,hl⟩:=iB (E:=El.part) (e:=95) (by kernel_rfl) (by kernel_rfl) (fun _ _ _=>xj) h;exact ⟨l,v,rfl,hl⟩
theorem vx {n:Nat} {cs:List Value} {x:DataW H × List MemPlace} (h:DataW.trod enc Tryz.prog w base spare held n 96 cs = some x):∃ o:List ItemM,(El.sl El.item).rel (hp w) cs o:=by
 obtain ⟨v,rfl⟩:=mA (e:=98) (by kernel_rfl) h;obtain ⟨l,hl⟩:=iB (E:=El.item) (e:=98) (by kernel_rfl) (by kernel_rfl) (fun _ _ _=>yC) h;exact ⟨l,v,rfl,hl⟩
theorem u28:Tryz.prog.underlying 28 = some (.struct (fieldsOf 28)):=by kernel_rfl
theorem Bm {r:Reach} {b0 n:Nat} {v:Value} {x:DataW H × List MemPlace} (hval:Value.okWide Tryz.prog w r b0 28 v) (h:DataW.trod enc Tryz.prog w base spare held n 28 v.cells.toList = some x):∃ c:aH,CodeR (hp w) v c:=by
 obtain ⟨xs,m,_,_,hl,hxl,hf⟩:=DataW.trod_struct u28 h;have hc4:Tryz.prog.cellsOf 28 = 6:=by kernel_rfl
 rw [hc4] at hl;obtain ⟨f0,a0,b0,c0⟩:=cT u28 (i:=0) (ty:=22) (off:=0) (by kernel_rfl);have h0:=hf 0 f0 a0;obtain ⟨f1,a1,b1,c1⟩:=cT u28 (i:=1) (ty:=23) (off:=1) (by kernel_rfl);have h1:=hf 1 f1 a1;obtain ⟨f2,a2,b2,c2⟩:=cT u28 (i:=2) (ty:=24) (off:=2) (by kernel_rfl);have h2:=hf 2 f2 a2;obtain ⟨f3,a3,b3,c3⟩:=cT u28 (i:=3) (ty:=25) (off:=3) (by kernel_rfl);have h3:=hf 3 f3 a3;obtain ⟨f4,a4,b4,c4⟩:=cT u28 (i:=4) (ty:=22) (off:=4) (by kernel_rfl);have h4:=hf 4 f4 a4;obtain ⟨f5,a5,b5,c5⟩:=cT u28 (i:=5) (ty:=26) (off:=5) (by kernel_rfl);have h5:=hf 5 f5 a5;have hsz:(fieldsOf 28).size = 6:=by kernel_rfl
 rw [hsz] at hxl;rw [b0,c0,show Tryz.prog.cellsOf 22 = 1 by kernel_rfl] at h0;rw [b1,c1,show Tryz.prog.cellsOf 23 = 1 by kernel_rfl] at h1;rw [b2,c2,show Tryz.prog.cellsOf 24 = 1 by kernel_rfl] at h2;rw [b3,c3,show Tryz.prog.cellsOf 25 = 1 by kernel_rfl] at h3;rw [b4,c4,show Tryz.prog.cellsOf 22 = 1 by kernel_rfl] at h4;rw [b5,c5,show Tryz.prog.cellsOf 26 = 1 by kernel_rfl] at h5;have hv:∃ cs,v = .agg cs:=by
  simp only [Value.okWide,u28] at hval;exact ⟨_,hval.choose_spec.1⟩
 obtain ⟨cs,rfl⟩:=hv;obtain ⟨l,rfl⟩:∃ l:List Value,cs = l.toArray:=⟨cs.toList,by simp⟩
 simp only [Value.cells] at hl h0 h1 h2 h3 h4 h5
 match xs,hxl,l,hl with
 | [x0,x1,x2,x3,x4,x5],_,[v0,v1,v2,v3,v4,v5],_=>
  obtain ⟨l0,g0⟩:=iB (E:=El.str) (e:=9) (by kernel_rfl) (by kernel_rfl) (fun _ _ _=>tW) (x:=x0) (v:=v0) (by simpa using h0);obtain ⟨l1,g1⟩:=iB (E:=El.sl El.part) (e:=93) (by kernel_rfl) (by kernel_rfl) (fun _ _ _=>vZ) (x:=x1) (v:=v1) (by simpa using h1);obtain ⟨l2,g2⟩:=iB (E:=El.sl El.item) (e:=96) (by kernel_rfl) (by kernel_rfl) (fun _ _ _=>vx) (x:=x2) (v:=v2) (by simpa using h2);obtain ⟨l3,g3⟩:=iB (E:=El.spot) (e:=54) (by kernel_rfl) (by kernel_rfl) (fun _ _ _=>xX) (x:=x3) (v:=v3) (by simpa using h3);obtain ⟨l4,g4⟩:=iB (E:=El.str) (e:=9) (by kernel_rfl) (by kernel_rfl) (fun _ _ _=>tW) (x:=x4) (v:=v4) (by simpa using h4);obtain ⟨l5,g5⟩:=iB (E:=El.ins) (e:=38) (by kernel_rfl) (by kernel_rfl) (fun _ _ _=>zx) (x:=x5) (v:=v5) (by simpa using h5);exact ⟨⟨l0,l1,l2,l3,l4,l5⟩,v0,v1,v2,v3,v4,v5,rfl,g0,g1,g2,g3,g4,g5⟩
end
theorem CS:uu Tryz.prog 9:=⟨by kernel_rfl,of_decide_eq_true (by kernel_rfl)⟩
theorem Ak:uu Tryz.prog 28:=⟨by kernel_rfl,of_decide_eq_true (by kernel_rfl)⟩
theorem xV {W:World} (h:Lib.TabIs Tryz.prog W "internal/strconv.uint64pow10" .u64 Lib.pow10Tab):Tab (hp W):=⟨fun w hw=>by
 unfold Lib.TabIs World.var? at *
 cases hg:Tryz.prog.globalNamed "internal/strconv.uint64pow10" with
 | none=>simp [hg] at h
 | some g=>
  simp only [hg,Option.bind_some] at h ⊢
  cases ho:W.heap[g]? with
  | none=>rw [ho] at h; simp at h
  | some o=>rw [hw g o ho,<- ho]; exact h⟩
theorem sn {P:Program} {W:World} {name:String} {k:IntKind} {zs:List Int} {rest:List (String × DataW Unit)} {ps:List MemPlace} {g:Nat} {t e:TypeId} {n:Nat}
  (hg:P.globalNamed name = some g) (hty:(P.globals[g]?).map (·.type) = some t) (ht:P.underlying t = some (.array n e)) (he:P.underlying e = some (.int k)) (hce:P.cellsOf e = 1) (hct:P.cellsOf t = n)
  (h:DataW.LaidVars P W ((name,Lib.tabData k zs) :: rest) ps):Lib.TabIs P W name k zs:=by
 obtain ⟨g',t',cs,fuel,p,q,hg',ht',hvar,hd,_,_⟩:=h;obtain rfl:=Option.some.inj (hg.symm.trans hg');obtain rfl:=Option.some.inj (hty.symm.trans ht');unfold Lib.TabIs;rw [hvar,<- Lib.cells_of_tab ht he hce hct hd]
theorem CR {W:World} {a b:String × DataW Unit} {rest:List (String × DataW Unit)} (h:laidMet Tryz.prog (a :: b :: ("internal/strconv.uint64pow10",Rows.laid_internal_strconv_uint64pow10) :: rest) W):Lib.TabIs Tryz.prog W "internal/strconv.uint64pow10" .u64 Lib.pow10Tab:=by
 obtain ⟨ps,hv,_⟩:=h;obtain ⟨a1,b1⟩:=a;obtain ⟨a2,b2⟩:=b;obtain ⟨_,_,_,_,_,_,_,_,_,_,hv,_⟩:=hv;obtain ⟨_,_,_,_,_,_,_,_,_,_,hv,_⟩:=hv;exact sn (g:=3) (t:=328) (n:=20) (e:=309) (by kernel_rfl) (by kernel_rfl) (by kernel_rfl) (by kernel_rfl) (by kernel_rfl) (by kernel_rfl) (show DataW.LaidVars Tryz.prog W (("internal/strconv.uint64pow10",Lib.tabData .u64 Lib.pow10Tab) :: rest) _ from hv)
end
section
open Go Q Go.RowKit Go.ChangeShapes Go.WideShapes Go.ChangeAt
section
variable {H:Type} {enc:TypeId × Value->H} {w:World} {base:Nat} {spare:Nat->Bool} {held:Bool}
end
end
section
theorem vA {H:Type} {enc:TypeId × Value->H} {P:Program} {w:World} {sp:Nat->Bool} {fuel:Nat} {t:TypeId} {cs:List Value} {nm:String} {x:DataW H} {p:List MemPlace} (ht:∃ ms,P.underlying t = some (.interface ms))
  (h:DataW.trod enc P w 0 sp false fuel t cs = some (.iface nm x,p)):∃ u v,cs = [.iface u v]:=by
 obtain ⟨ms,ht⟩:=ht
 cases fuel with
 | zero=>cases h
 | succ fuel=>
  unfold DataW.trod at h;rw [ht] at h
  split at h <;> rename_i h1 <;> first | (cases h1; done) | skip
  all_goals first | (simp at h; done) | exact ⟨_,_,rfl⟩
theorem kA {P:Program} {W:World} {name nm:String} {x:DataW Unit} {rest:List (String × DataW Unit)} {ps:List MemPlace} {g:Nat} {t:TypeId}
  (hg:P.globalNamed name = some g) (hty:(P.globals[g]?).map (·.type) = some t) (ht:∃ ms,P.underlying t = some (.interface ms))
  (h:DataW.LaidVars P W ((name,.iface nm x) :: rest) ps):∃ ev,W.cell? ⟨g,0,none⟩ = some ev/\∃ u v,ev = .iface u v:=by
 obtain ⟨g',t',cs,fuel,p,q,hg',ht',hvar,hd,_,_⟩:=h;obtain rfl:=Option.some.inj (hty.symm.trans (by rw [Option.some.inj (hg.symm.trans hg')]; exact ht'));obtain ⟨u,v,e⟩:=vA ht hd;have:=World.var?_cell hg hvar 0;refine ⟨.iface u v,?_,u,v,rfl⟩;rw [this,<- Array.getElem?_toList,e]
 rfl
theorem xF {W w:World} {g:Nat} {ev:Value} (h:W.cell? ⟨g,0,none⟩ = some ev) (hw:Sub (hp W) w):w.cell? ⟨g,0,none⟩ = some ev:=by
 unfold World.cell? at h ⊢
 cases ho:W.heap[g]? with
 | none=>simp [ho] at h
 | some o=>rw [ho] at h; rw [hw g o ho]; exact h
theorem Be {W:World} {a b c d:String × DataW Unit} {rest:List (String × DataW Unit)} (h:laidMet Tryz.prog (a :: b :: c :: d :: ("strconv.ErrRange",Rows.laid_strconv_ErrRange) :: ("strconv.ErrSyntax",Rows.laid_strconv_ErrSyntax) :: rest) W):Errs (hp W):=by
 obtain ⟨ps,hv,_⟩:=h;obtain ⟨a1,b1⟩:=a;obtain ⟨a2,b2⟩:=b;obtain ⟨a3,b3⟩:=c;obtain ⟨a4,b4⟩:=d;obtain ⟨_,_,_,_,_,_,_,_,_,_,hv,_⟩:=hv;obtain ⟨_,_,_,_,_,_,_,_,_,_,hv,_⟩:=hv;obtain ⟨_,_,_,_,_,_,_,_,_,_,hv,_⟩:=hv;obtain ⟨_,_,_,_,_,_,_,_,_,_,hv,_⟩:=hv;have hv2:=hv;obtain ⟨_,_,_,_,_,_,_,_,_,_,hv2,_⟩:=hv2;have hi:∃ ms,Tryz.prog.underlying 201 = some (.interface ms):=⟨_,Tryz.underlying201⟩
 obtain ⟨e5,c5,u5,v5,r5⟩:=kA (g:=5) (t:=201) (by kernel_rfl) (by kernel_rfl) hi (show DataW.LaidVars Tryz.prog W (("strconv.ErrRange",.iface _ _) :: _) _ from hv);obtain ⟨e4,c4,u4,v4,r4⟩:=kA (g:=4) (t:=201) (by kernel_rfl) (by kernel_rfl) hi (show DataW.LaidVars Tryz.prog W (("strconv.ErrSyntax",.iface _ _) :: _) _ from hv2);exact ⟨fun w hw=>⟨⟨e4,xF c4 hw,.inr ⟨u4,v4,r4⟩⟩,⟨e5,xF c5 hw,.inr ⟨u5,v5,r5⟩⟩⟩⟩
end
end Go.Proofs.YtbeelfopmkbllaaGreatDoor
