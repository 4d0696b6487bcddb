/- Texts joined: C51, C52, C54, C55, C45, C46, C48, C49, C53, C56, C57, C58, C59, C60, C61, C62, C63, C77, C78, C79, E12, D1, D2, D3, D4, D5, D6, E13, E14, Q22, Q23, E1, E2, E3, E4. -/
import Derived.Test.YtbeelfopmkbllaaGreatDoorM5
import Derived.Test.YtbeelfopmkbllaaGreatDoorM4
import Derived.Laws.IdiomStrings
import Derived.Laws.BytesArg
set_option linter.unusedSimpArgs false
set_option linter.unusedVariables false
set_option linter.unusedSectionVars false
set_option maxRecDepth 20000
set_option synthInstance.maxHeartbeats 4000000
set_option synthInstance.maxSize 20000
set_option maxHeartbeats 2000000
namespace Go.Proofs.YtbeelfopmkbllaaGreatDoor
open Go Q Go.RowKit
open _root_.List
section
def jz (c:UInt8):Bool:=decide (c = 46) || qD c
def jd (s:ByteArray):Nat:=((bytes s).takeWhile jz).length
def sO (s:ByteArray):Bool:=
 decide (((bytes s).take (jd s)).count 46 <= 1) && (decide (((bytes s).take (jd s)).count 46 < jd s) && (decide (jd s + 2 < (bytes s).length) && (decide ((bytes s).getD (jd s) 0 = 69) && ((decide ((bytes s).getD (jd s + 1) 0 = 43) || decide ((bytes s).getD (jd s + 1) 0 = 45)) && ((bytes s).drop (jd s + 2)).all qD))))
theorem nF:∀ (l:List UInt8) (k:Nat),k <= l.count 46->l.count 46 <= k->eD 46 [] k l = l.filter (fun x=>!decide (x = 46))
 | [],k,_,_=>by simp [eD]
 | x :: l,0,_,h=>by
  rw [fX];rw [List.filter_eq_self.2];intro a ha;have:(x :: l).count 46 = 0:=by omega
  rw [count_eq_zero] at this;simp only [Bool.not_eq_true',decide_eq_false_iff_not];exact fun e=>this (e ▸ ha)
 | x :: l,k + 1,h,h'=>by
  simp only [eD]
  by_cases hx:x = 46
  ·subst hx
   rw [count_cons_self] at h h';rw [if_pos rfl,nil_append,nF l k (by omega) (by omega)];simp
  ·rw [count_cons_of_ne hx] at h h'
   rw [if_neg hx,nF l (k + 1) h h'];simp [hx]
theorem qB:∀ (l:List UInt8),(l.filter (fun x=>!decide (x = 46))).length + l.count 46 = l.length
 | []=>rfl
 | x :: l=>by
  have:=qB l
  by_cases hx:x = 46
  ·subst hx; simp; omega
  ·rw [count_cons_of_ne hx]; simp [hx]; omega
theorem Bq {l:List UInt8}:l.all jz = (l.filter (fun x=>!decide (x = 46))).all qD:=by
 induction l with
 | nil=>rfl
 | cons x l ih=>
  by_cases hx:x = 46
  ·subst hx; simp only [all_cons,ih]; simp [jz]
  ·simp only [all_cons,ih]; simp [jz,hx]
theorem yW {x:ByteArray}:x = ⟨#[]⟩ ↔ x.size = 0:=⟨fun e=>by rw [e]; rfl,fun e=>ByteArray.ext (Array.eq_empty_of_size_eq_zero e)⟩
theorem yF {h:ByteArray}:(decide ((bytes h).count 46 < 2) && fq (fT h 46 ⟨#[]⟩ 1)) = (decide ((bytes h).count 46 <= 1) && (decide ((bytes h).count 46 < (bytes h).length) && (bytes h).all jz)):=by
 by_cases hc:(bytes h).count 46 < 2
 ·have hr:bytes (fT h 46 ⟨#[]⟩ 1) = (bytes h).filter (fun x=>!decide (x = 46)):=by
   show (eD 46 [] (gN h 46 1) (bytes h)).toArray.toList = _
   rw [toList_toArray];have hk:gN h 46 1 = min 1 ((bytes h).count 46):=by unfold gN; rw [if_neg (by decide)]; rfl
   exact nF _ _ (by rw [hk]; omega) (by rw [hk]; omega)
  have hlen:=qB (bytes h);unfold fq;rw [hr,Bq,decide_eq_true hc,decide_eq_true (show (bytes h).count 46 <= 1 by omega)]
  congr 1
  have:(fT h 46 ⟨#[]⟩ 1 = ⟨#[]⟩) ↔ ¬ (bytes h).count 46 < (bytes h).length:=by
   rw [yW,aI,hr]; omega
  by_cases e:(bytes h).count 46 < (bytes h).length
  ·rw [decide_eq_true e,decide_eq_false (fun h=>(this.1 h) e)]; rfl
  ·rw [decide_eq_false e,decide_eq_true (this.2 e)]; rfl
 ·rw [decide_eq_false hc,decide_eq_false (show ¬ (bytes h).count 46 <= 1 by omega)]; rfl
theorem AP (s:ByteArray) (i:Nat) (c:UInt8):decide (bt s (i:Int) = (c.toNat:Int)) = decide ((bytes s).getD i 0 = c):=by
 unfold bt;rw [Int.toNat_natCast];refine decide_eq_decide.2 ⟨fun h=>?_,fun h=>by rw [show s.data.toList = bytes s from rfl,h]⟩;have:((bytes s).getD i 0).toNat = c.toNat:=by exact_mod_cast h
 exact UInt8.toNat_inj.1 this
theorem iJ {p:UInt8->Bool}:∀ {l:List UInt8} {n:Nat},(∀ i,i < n->∃ x,l[i]? = some x/\p x = true)->(∀ x,l[n]? = some x->p x = false)->(l.takeWhile p).length = n
 | [],n,h1,h2=>by
  cases n with
  | zero=>rfl
  | succ n=>obtain ⟨x,hx,_⟩:=h1 0 (by omega); simp at hx
 | x :: l,n,h1,h2=>by
  cases n with
  | zero=>simp [List.takeWhile,h2 x rfl]
  | succ n=>
   obtain ⟨y,hy,hp⟩:=h1 0 (by omega);simp at hy; subst hy;have ih:=iJ (p:=p) (l:=l) (n:=n) (fun i hi=>by have:=h1 (i + 1) (by omega); simpa using this) (fun z hz=>h2 z (by simpa using hz));rw [takeWhile_cons,if_pos hp,length_cons,ih]
theorem ji {p:UInt8->Bool}:∀ (l:List UInt8),l.take (l.takeWhile p).length = l.takeWhile p
 | []=>rfl
 | x :: l=>by
  rw [takeWhile_cons]
  split
  ·simp [ji l]
  ·simp
theorem qh {p:UInt8->Bool} (l:List UInt8):(l.takeWhile p).all p = true:=by
 rw [all_eq_true]
 induction l with
 | nil=>intro x hx; cases hx
 | cons y l ih=>
  intro x hx;rw [takeWhile_cons] at hx
  split at hx
  ·rcases List.mem_cons.1 hx with rfl | hx
   ·assumption
   ·exact ih x hx
  ·cases hx
theorem zg:jz 69 = false:=by decide
theorem Cq {s:ByteArray} {n:Nat} (h:cj s 69 = n):(bytes s)[n]? = some 69/\∀ i,i < n->∀ x,(bytes s)[i]? = some x->x ≠ 69:=by
 unfold cj eo at h
 cases e:(bytes s).findIdx? (· == 69) with
 | none=>rw [e] at h; simp only at h; omega
 | some i=>
  rw [e] at h;have hi:i = n:=by simp only at h; omega
  subst hi;rw [findIdx?_eq_some_iff_getElem] at e;obtain ⟨hl,hp,hq⟩:=e;refine ⟨by rw [getElem?_eq_getElem hl]; simpa using hp,fun j hj x hx=>?_⟩;have:=hq j hj;have hjl:j < (bytes s).length:=by omega
  rw [getElem?_eq_getElem hjl] at hx;simp only [Option.some.injEq] at hx;rw [hx] at this
  simpa using this
theorem Bc (s:ByteArray):kE s = sO s:=by
 rw [Bool.eq_iff_iff];unfold kE sO;rw [<- Bool.and_assoc (decide ((bytes (ir s)).count 46 < 2)),yF];have htw:=qh (p:=jz) (bytes s);have htt:=ji (p:=jz) (bytes s);simp only [Bool.and_eq_true,Bool.or_eq_true,decide_eq_true_eq];have bt0:∀ c:UInt8,bt (dr s) 0 = (c.toNat:Int) ↔ (bytes (dr s)).getD 0 0 = c:=fun c=>by
  have:=AP (dr s) 0 c
  simpa using decide_eq_decide.1 this
 have b43:=bt0 43;have b45:=bt0 45;simp only [show ((43:UInt8).toNat:Int) = 43 from rfl,show ((45:UInt8).toNat:Int) = 45 from rfl] at b43 b45;rw [b43,b45];constructor
 ·rintro ⟨h1,h2,h3,⟨h4,h5,h6⟩,h7⟩
  obtain ⟨n,hn⟩:∃ n:Nat,cj s 69 = n:=⟨(cj s 69).toNat,by omega⟩
  have hh:bytes (ir s) = (bytes s).take n:=by unfold ir; rw [bB,hn]; simp
  have ht:bytes (dr s) = (bytes s).drop (n + 1):=by unfold dr; rw [df,hn]; simp
  obtain ⟨c1,c2⟩:=Cq hn;have hnl:n < (bytes s).length:=by
   rcases Nat.lt_or_ge n (bytes s).length with h | h
   ·exact h
   ·rw [getElem?_eq_none h] at c1; cases c1
  rw [hh] at h4 h5 h6;have hN:jd s = n:=by
   refine iJ (fun i hi=>⟨(bytes s)[i],getElem?_eq_getElem (by omega),?_⟩) (fun x hx=>by rw [c1] at hx; cases hx; exact zg);refine List.all_eq_true.1 h6 _ ?_;exact List.mem_take_iff_getElem.2 ⟨i,by omega,rfl⟩
  rw [hN];have hts:(dr s).size = (bytes s).length - (n + 1):=by rw [aI,ht,length_drop]
  rw [length_take] at h5;refine ⟨h4,by omega,by omega,by rw [getD_eq_getElem?_getD,c1]; rfl,?_,?_⟩
  ·rw [ht] at h3
   simpa [getD_eq_getElem?_getD,getElem?_drop] using h3
  ·unfold fq at h7
   rw [df,ht,drop_drop] at h7;simp only [Bool.and_eq_true] at h7;exact h7.2
 ·rintro ⟨h1,h2,h3,h4,h5,h6⟩
  have hnl:jd s < (bytes s).length:=by omega
  have hcut:cj s 69 = (jd s:Nat):=by
   unfold cj;refine iz (x:=69) (fun i y hi hy=>?_) ?_ (by decide)
   ·have:y ∈ (bytes s).takeWhile jz:=by
     rw [<- htt];have hil:i < (bytes s).length:=by omega
     rw [getElem?_eq_getElem hil] at hy
     cases hy
     exact List.mem_take_iff_getElem.2 ⟨i,by have:jd s = ((bytes s).takeWhile jz).length:=rfl; omega,rfl⟩
    have:=List.all_eq_true.1 htw y this;simp only [beq_eq_false_iff_ne];exact fun e=>by rw [e,zg] at this; cases this
   ·rw [getElem?_eq_getElem hnl]
    rw [getD_eq_getElem?_getD,getElem?_eq_getElem hnl] at h4
    simpa using h4
  have hh:bytes (ir s) = (bytes s).take (jd s):=by unfold ir; rw [bB,hcut]; simp
  have ht:bytes (dr s) = (bytes s).drop (jd s + 1):=by unfold dr; rw [df,hcut]; simp
  have hts:(dr s).size = (bytes s).length - (jd s + 1):=by rw [aI,ht,length_drop]
  rw [hh];refine ⟨by omega,by omega,?_,⟨h1,by rw [length_take]; omega,?_⟩,?_⟩
  ·rw [ht]
   simpa [getD_eq_getElem?_getD,getElem?_drop] using h5
  ·have:(bytes s).take (jd s) = (bytes s).takeWhile jz:=htt
   rw [this]; exact htw
  ·unfold fq
   rw [df,ht,drop_drop,Bool.and_eq_true];refine ⟨?_,h6⟩;simp only [Bool.not_eq_true',decide_eq_false_iff_not];intro e;have:=congrArg ByteArray.size e;have h0:(⟨#[]⟩:ByteArray).size = 0:=rfl;rw [ByteArray.size_extract,h0] at this;omega
end
section
def bu (c:aH) (n:Int):ByteArray:=c.consts.getD n.toNat ⟨#[]⟩
def iv (c:aH) (kind most n:Int):Bool:=
 if kind = 0 then decide (n = 0) else if kind = 1 then inB n 1 20000 else if kind = 7 then inB n 0 ((c.slots.length:Int) - 1) else if kind = 8 then inB n 0 ((c.tmpls.length:Int) - 1)
 else if kind = 9 then inB n 0 ((c.lists.length:Int) - 1) else if kind = 10 then inB n (-1) ((c.lists.length:Int) - 1) else if kind = 11 then inB n 0 ((c.ins.length:Int) - 1)
 else if kind = 12 then inB n (-1) ((c.consts.length:Int) - 1) else if kind = 13 then inB n 0 most else if kind = 14 then inB n 1 most else if kind = 15 then true
 else inB n 0 ((c.consts.length:Int) - 1) && (if kind = 3 then decide (aY (bu c n) = 2) else if kind = 4 then decide (aY (bu c n) = 3) else if kind = 5 then decide (aY (bu c n) = 4) else if kind = 6 then decide (aY (bu c n) > 1) else true)
def fw (c:aH) (i:InsM):Bool:=
 if i.op = 12 \/ i.op = 21 then inB i.a 0 ((c.consts.length:Int) - 1) && (decide (i.c = 1) || decide (aY (bu c i.a) > 0))
 else if i.op = 19 then (!decide (i.a = 1) && decide (i.b = 0)) || (decide (i.a = 1) && inB i.b 0 ((c.consts.length:Int) - 1))
 else if i.op = 22 then !(decide (i.b = 2) && (decide (i.a = 3) || decide (i.a = 5))) && (decide (i.c = -1) || (!decide (i.b = 0) && (inB i.c 0 ((c.consts.length:Int) - 1) && decide (aY (bu c i.c) = 2))))
 else if i.op = 27 then !decide (aY (bu c i.a) = 3) else true
def pO (c:aH) (i:InsM):Bool:=iv c (bM i.op).k0 (bM i.op).m0 i.a && (iv c (bM i.op).k1 (bM i.op).m1 i.b && iv c (bM i.op).k2 (bM i.op).m2 i.c)
def nG (c:aH) (i:InsM):Bool:=cO i.op && (cU i && (pO c i && fw c i))
def kpairs:List (Int × Int × Int):=[(0,0,0),(1,0,1),(2,0,2),(3,0,3),(4,0,4),(5,0,5),(6,0,6),(7,0,9),(8,0,10),(9,0,11),(10,0,12),(11,0,13),(12,0,8),
 (13,2,15),(13,10,16),(13,1,14),(14,24,17),(14,3,18),(14,40,20),(14,6,19),(14,99,21),(15,0,23)]
theorem vF (s:ByteArray):0 <= aY s:=by
 unfold aY;(repeat' split) <;> decide
theorem CI {n:Int} {k:Nat}:inB n (-1) ((k:Int) - 1) = (decide (n = -1) || inB n 0 ((k:Int) - 1)):=by
 rw [Bool.eq_iff_iff];simp only [Bool.or_eq_true,decide_eq_true_eq,inB_iff];omega
theorem vv {c:aH} {n a m k:Int} (h:(a,m,k) ∈ kpairs):iv c a m n = bJ c k n:=by
 simp only [kpairs,mem_cons,Prod.mk.injEq,not_mem_nil,or_false] at h
 rcases h with h | h | h | h | h | h | h | h | h | h | h | h | h | h | h | h | h | h | h | h | h | h <;> obtain ⟨rfl,rfl,rfl⟩:=h
 ·show decide (n = 0) = inB n 0 0
  rw [Bool.eq_iff_iff,decide_eq_true_eq,inB_iff]; omega
 ·rfl
 ·show (inB n 0 _ && true) = bR c n fun _=>true
  rfl
 ·rfl
 ·rfl
 ·rfl
 ·rfl
 ·rfl
 ·rfl
 ·rfl
 ·exact CI
 ·rfl
 ·show inB n (-1) ((c.consts.length:Int) - 1) = (decide (n = -1) || bR c n fun _=>true)
  unfold bR; rw [Bool.and_true]; exact CI
 ·rfl
 ·rfl
 ·rfl
 ·rfl
 ·rfl
 ·rfl
 ·rfl
 ·rfl
 ·rfl
def kin (a m k:Int):Bool:=kpairs.any fun p=>decide (p = (a,m,k))
theorem so {a m k:Int} (h:kin a m k = true):(a,m,k) ∈ kpairs:=by
 unfold kin at h;obtain ⟨p,hp,e⟩:=List.any_eq_true.1 h;exact (of_decide_eq_true e) ▸ hp
theorem za {P:Int->Prop} (h:∀ k:Fin 47,1 <= k.val->P (k.val:Int)) {n:Int} (hn:cO n = true):P n:=by
 unfold cO at hn;simp only [Bool.and_eq_true,decide_eq_true_eq] at hn;have:=h ⟨n.toNat,by omega⟩ (by show 1 <= n.toNat; omega);simp only at this
 rwa [show ((n.toNat:Nat):Int) = n by omega] at this
theorem zA {n:Int} (hn:cO n = true):(n ≠ 22->n ≠ 27->kin (bM n).k0 (bM n).m0 (aG n).k0 = true)/\(n ≠ 27->kin (bM n).k1 (bM n).m1 (aG n).k1 = true)/\kin (bM n).k2 (bM n).m2 (aG n).k2 = true:=by
 revert hn
 intro hn;refine za (P:=fun n=>(n ≠ 22->n ≠ 27->kin (bM n).k0 (bM n).m0 (aG n).k0 = true)/\(n ≠ 27->kin (bM n).k1 (bM n).m1 (aG n).k1 = true)/\kin (bM n).k2 (bM n).m2 (aG n).k2 = true) ?_ hn
 decide +kernel
theorem ug {c:aH} {i:InsM} (hop:cO i.op = true) (h27:i.op ≠ 27) (h0:bJ c (aG i.op).k0 i.a = true) (h1:bJ c (aG i.op).k1 i.b = true):cU i = true:=by
 unfold cU
 by_cases e1:i.op = 12 \/ i.op = 21
 ·rw [if_pos e1]
  rcases e1 with h | h <;> rw [h] at h1 <;> exact h1
 rw [if_neg e1]
 by_cases e2:i.op = 19
 ·rw [if_pos e2]; rw [e2] at h0; exact h0
 rw [if_neg e2,if_neg h27]
 by_cases e4:i.op = 35
 ·rw [if_pos e4,Bool.and_eq_true]; rw [e4] at h0 h1; exact ⟨h0,h1⟩
 rw [if_neg e4]
 by_cases e5:i.op = 36
 ·rw [if_pos e5]; rw [e5] at h1; exact h1
 rw [if_neg e5]
 by_cases e6:i.op = 40 \/ i.op = 41
 ·rw [if_pos e6]
  rcases e6 with h | h <;> rw [h] at h0 <;> exact h0
 rw [if_neg e6]
theorem lit_named {c:aH} {a k:Int}:bR c a (rI k) = (inB a 0 ((c.consts.length:Int) - 1) && (decide (k = 1) || decide (aY (bu c a) > 0))):=by
 unfold bR rI bu;have:=vF (c.consts.getD a.toNat ⟨#[]⟩)
 congr 2
 rw [Bool.eq_iff_iff]; simp only [Bool.not_eq_true',decide_eq_false_iff_not,decide_eq_true_eq]; omega
theorem tg {c:aH} {i:InsM}:nG c i = bX c i:=by
 unfold nG bX
 cases hop:cO i.op with
 | false=>rfl
 | true=>
  obtain ⟨k0,k1,k2⟩:=zA hop;simp only [Bool.true_and];unfold pO;rw [vv (c:=c) (n:=i.c) (so k2)]
  by_cases h27:i.op = 27
  ·have e0:iv c (bM i.op).k0 (bM i.op).m0 i.a = bR c i.a jh:=by rw [h27]; rfl
   have e1:iv c (bM i.op).k1 (bM i.op).m1 i.b = true:=by rw [h27]; rfl
   have e2:bJ c (aG i.op).k0 i.a = (bR c i.a (eF 2) || bR c i.a (eF 4)):=by rw [h27]; rfl
   have e3:bJ c (aG i.op).k1 i.b = decide (dt i.b ≥ 0):=by rw [h27]; show (decide ((22:Int) = 23) || (decide ((22:Int) = 22) && decide (dt i.b ≥ 0))) = _; simp
   have e4:cU i = decide (dt i.b ≥ 0):=by unfold cU; rw [h27]; simp
   have e5:fw c i = !decide (aY (bu c i.a) = 3):=by unfold fw; rw [h27]; simp
   have e6:cS c i = true:=by unfold cS; rw [h27]; simp
   have hs:(bR c i.a jh && !decide (aY (bu c i.a) = 3)) = (bR c i.a (eF 2) || bR c i.a (eF 4)):=by
    unfold bR jh eF bu;have:aY (c.consts.getD i.a.toNat ⟨#[]⟩) <= 4:=by unfold aY; (repeat' split) <;> decide
    generalize aY (c.consts.getD i.a.toNat ⟨#[]⟩) = y at *;generalize inB i.a 0 ((c.consts.length:Int) - 1) = b;rw [Bool.eq_iff_iff]
    cases b <;> simp only [Bool.and_eq_true,Bool.or_eq_true,decide_eq_true_eq,Bool.not_eq_true',decide_eq_false_iff_not,Bool.false_eq_true,false_and,or_self,true_and] <;> omega
   rw [e0,e1,e2,e3,e4,e5,e6,<- hs]
   cases decide (dt i.b ≥ 0) <;> cases bR c i.a jh <;> cases decide (aY (bu c i.a) = 3) <;> cases bJ c (aG i.op).k2 i.c <;> rfl
  rw [vv (c:=c) (n:=i.b) (so (k1 h27))]
  by_cases h22:i.op = 22
  ·have e0:iv c (bM i.op).k0 (bM i.op).m0 i.a = inB i.a 0 5:=by rw [h22]; rfl
   have e2:bJ c (aG i.op).k0 i.a = true:=by rw [h22]; rfl
   have e4:cU i = true:=by unfold cU; rw [h22]; simp
   have e5:fw c i = (!(decide (i.b = 2) && (decide (i.a = 3) || decide (i.a = 5))) && (decide (i.c = -1) || (!decide (i.b = 0) && (inB i.c 0 ((c.consts.length:Int) - 1) && decide (aY (bu c i.c) = 2))))):=by unfold fw; rw [h22]; simp
   have e6:cS c i = (!(!inB i.a 0 5 || (decide (i.b = 2) && (decide (i.a = 3) || decide (i.a = 5)))) && (decide (i.c = -1) || (!decide (i.b = 0) && bJ c 3 i.c))):=by unfold cS; rw [h22]; simp
   have e7:bJ c 3 i.c = (inB i.c 0 ((c.consts.length:Int) - 1) && decide (aY (bu c i.c) = 2)):=rfl;rw [e0,e2,e4,e5,e6,e7];generalize bJ c (aG i.op).k1 i.b = g1;generalize bJ c (aG i.op).k2 i.c = g2;generalize inB i.a 0 5 = g0;generalize (decide (i.b = 2) && (decide (i.a = 3) || decide (i.a = 5))) = g3;generalize (decide (i.c = -1) || (!decide (i.b = 0) && (inB i.c 0 ((c.consts.length:Int) - 1) && decide (aY (bu c i.c) = 2)))) = g4
   cases g0 <;> cases g1 <;> cases g2 <;> cases g3 <;> cases g4 <;> rfl
  rw [vv (c:=c) (n:=i.a) (so (k0 h22 h27))];have hsp:fw c i = cS c i:=by
   unfold fw cS;rw [if_neg h22,if_neg h27,if_neg h22]
   split
   ·exact lit_named.symm
   split
   ·have:bJ c 2 i.b = inB i.b 0 ((c.consts.length:Int) - 1):=by show bR c i.b (fun _=>true) = _; unfold bR; simp
    rw [this]
   ·rfl
  rw [hsp]
  cases h0:bJ c (aG i.op).k0 i.a with
  | false=>simp
  | true=>
   cases h1:bJ c (aG i.op).k1 i.b with
   | false=>simp
   | true=>rw [ug hop h27 h0 h1]; simp
end
section
theorem oO (s:ByteArray) (k:Nat):bt s (k:Int) = (((bytes s).getD k 0).toNat:Int):=by unfold bt; rw [Int.toNat_natCast]
theorem fk {p:UInt8->Bool} {l:List UInt8} {k:Nat} (h:k < l.length) (h1:(l.take k).all p = true) (h2:p (l.getD k 0) = true):(l.take (k + 1)).all p = true:=by
 rw [take_succ_eq_append_getElem h,all_append,h1];rw [getD_eq_getElem?_getD,getElem?_eq_getElem h] at h2
 simpa using h2
theorem jT {p:UInt8->Bool} {l:List UInt8} {k:Nat} (h:k < l.length) (h2:p (l.getD k 0) = false):l.all p = false:=by
 rw [all_eq_false];refine ⟨l[k],getElem_mem h,?_⟩;rw [getD_eq_getElem?_getD,getElem?_eq_getElem h] at h2
 simpa using h2
instance {c:Int}:Pu 230 #[.int .u8 c] (.bool (inB c 32 126)):=⟨fun z w=>fnW en230 (fun hS R=>by unfold vc230; exact inferInstance) (by
 unfold inB; congr 1; by_cases h1:c ≥ 32 <;> simp [h1] <;> omega)⟩
instance {s:ByteArray}:Pu 163 #[.string s] (.bool (cg s)):=⟨fun z w=>fnA en163 (by
 intro hS R hR;unfold vc163;have hsz:=aI s;(repeat (refine aA ?_));refine aC (fun h=>?_) (fun h=>?_)
 ·exact cF hR (by unfold cg; rw [decide_eq_false (by omega)]; rfl)
 refine bG (fun (k:Nat) x=>x = .int .i64 k/\k <= s.size/\((bytes s).take k).all (fun c=>inB c.toNat 32 126) = true) (fun k=>s.size - k) 0 ⟨rfl,Nat.zero_le _,by simp⟩ ?_;rintro I M k x w3 z3 m ⟨rfl,hk,hall⟩ hz3 hS3 back
 (repeat (refine aA ?_));refine aC (fun h2=>?_) (fun h2=>?_)
 ·haveI:dI s (k:Int):=⟨by omega,by omega⟩
  haveI:InI ((k:Int) + 1):=⟨by omega⟩
  (repeat (first | refine aA ?_ | (refine aN ?_; intro _ _ _ _)));refine aU (fun h3=>?_) (fun h3=>?_)
  ·rw [oO] at h3
   exact cF hR (by unfold cg; rw [jT (p:=fun c=>inB c.toNat 32 126) (by omega) h3,Bool.and_false])
  ·rw [oO] at h3
   (repeat (refine aA ?_));exact back (k + 1) _ _ _ ⟨by simp,by omega,fk (by omega) hall h3⟩ (by (repeat (assumption))) (by assumption) (by omega)
 ·have:k = s.size:=by omega
  subst this;rw [hsz,take_length] at hall;exact cF hR (by unfold cg; rw [hall,decide_eq_true (by omega)]; rfl))⟩
theorem dF (c d:UInt8):c = d ↔ (c.toNat:Int) = (d.toNat:Int):=⟨fun e=>by rw [e],fun e=>UInt8.toNat_inj.1 (by omega)⟩
theorem AK (c:UInt8):qD c = !(bif decide ((c.toNat:Int) < 48) then true else decide ((c.toNat:Int) > 57)):=by
 unfold qD inB;generalize (c.toNat:Int) = y
 by_cases e1:y < 48 <;> by_cases e2:y > 57 <;> simp [e1,e2] <;> omega
theorem ze (c:UInt8):jz c = true ↔ (c.toNat:Int) = 46 \/ 48 <= (c.toNat:Int)/\(c.toNat:Int) <= 57:=by
 unfold jz qD;rw [Bool.or_eq_true,decide_eq_true_eq,inB_iff];rw [show (46:Int) = ((46:UInt8).toNat:Int) from rfl,<- dF c 46]
theorem jY {l:List UInt8} {k:Nat} (h:k < l.length) (c:UInt8):(l.take (k + 1)).count c = (l.take k).count c + if l.getD k 0 = c then 1 else 0:=by
 rw [take_succ_eq_append_getElem h,count_append,getD_eq_getElem?_getD,getElem?_eq_getElem h];generalize l[k] = d
 show _ = _ + if d = c then 1 else 0
 by_cases e:d = c
 ·subst e; simp
 ·rw [if_neg e,count_cons_of_ne e]; rfl
theorem wt {s:ByteArray} {k:Nat} (hk:k <= (bytes s).length) (h1:((bytes s).take k).all jz = true) (h2:k < (bytes s).length->jz ((bytes s).getD k 0) = false):jd s = k:=by
 refine iJ (fun i hi=>⟨(bytes s)[i],getElem?_eq_getElem (by omega),?_⟩) (fun x hx=>?_)
 ·exact List.all_eq_true.1 h1 _ (List.mem_take_iff_getElem.2 ⟨i,by omega,rfl⟩)
 ·rcases Nat.lt_or_ge k (bytes s).length with h | h
  ·have:=h2 h
   rw [getD_eq_getElem?_getD,hx] at this;exact this
  ·rw [getElem?_eq_none h] at hx; cases hx
instance {s:ByteArray} [hs:gH s]:Pu 231 #[.string s] (.bool (kE s)):=⟨fun z w=>fnA en231 (by
 intro hS R hR;rw [Bc] at hR;unfold vc231;have hsz:=aI s;have hshort:=hs.h;refine Cw (fun (k:Nat) x y u=>∃ p d:Nat,x = .int .i64 p/\y = .int .i64 d/\u = .int .i64 k/\k <= s.size/\p = ((bytes s).take k).count 46/\p + d = k/\((bytes s).take k).all jz = true) (fun k=>s.size - k) 0 ⟨0,0,rfl,rfl,rfl,Nat.zero_le _,by simp,rfl,by simp⟩ ?_;rintro I M k x y u w3 z3 m ⟨p,d,rfl,rfl,rfl,hk,hp,hd,hall⟩ hz3 hS3 back
 (repeat (refine aA ?_));intro Ka hKa;have main:∀ q:Bool,(q = true->k < s.size/\jz ((bytes s).getD k 0) = true)->(q = false->jd s = k)->Ka [.bool q] w3:=by
  intro q hq1 hq0;refine hKa _ _ fun _=>?_
  clear hKa
  cases q with
  | true=>
   obtain ⟨hlt,hn⟩:=hq1 rfl;haveI:dI s (k:Int):=⟨by omega,by omega⟩
   haveI:InI ((k:Int) + 1):=⟨by omega⟩
   haveI:InI ((p:Int) + 1):=⟨by omega⟩
   haveI:InI ((d:Int) + 1):=⟨by omega⟩
   refine ah ?_;have hkl:k < (bytes s).length:=by omega
   have hcnt:=jY hkl 46;intro Kb hKb;have mb:∀ p' d':Nat,p' = ((bytes s).take (k + 1)).count 46->p' + d' = k + 1->Kb [.int .i64 p',.int .i64 d'] w3:=by
    intro p' d' h1 h2;refine hKb _ _ _ fun _=>?_
    (repeat (refine aA ?_));exact back (k + 1) _ _ _ _ _ ⟨p',d',rfl,rfl,by simp,by omega,h1,h2,fk hkl hall hn⟩ (by (repeat (exact Le.refl _))) (by assumption) (by omega)
   clear hKb;(repeat (refine aA ?_));rw [oO];have e46:=dF ((bytes s).getD k 0) 46;refine aC (fun h=>?_) (fun h=>?_)
   ·(repeat (refine aA ?_))
    rw [if_pos (e46.2 h)] at hcnt;have:=mb (p + 1) d (by omega) (by omega)
    simpa using this
   ·(repeat (refine aA ?_))
    rw [if_neg (fun e=>h (e46.1 e))] at hcnt;have:=mb p (d + 1) (by omega) (by omega)
    simpa using this
  | false=>
   have hN:=hq0 rfl;clear back;refine aj ?_;haveI:InI ((k:Int) + 2):=⟨by omega⟩
   haveI:InI ((k:Int) + 1):=⟨by omega⟩
   have hrf:sO s = (decide (p <= 1) && (decide (p < k) && (decide (k + 2 < (bytes s).length) && (decide ((bytes s).getD k 0 = 69) && ((decide ((bytes s).getD (k + 1) 0 = 43) || decide ((bytes s).getD (k + 1) 0 = 45)) && ((bytes s).drop (k + 2)).all qD))))):=by
    unfold sO; rw [hN,<- hp]
   rw [hrf] at hR;(repeat (first | refine aA ?_ | refine JB ?_));generalize hq0:(bif bif decide ((p:Int) > 1) then true else decide ((d:Int) = 0) then true else decide ((k:Int) + 2 ≥ (s.size:Nat))) = q;have hq:q = !(decide (p <= 1) && (decide (p < k) && decide (k + 2 < (bytes s).length))):=by
    rw [<- hq0,Bool.eq_iff_iff];simp only [Bool.cond_eq_ite,Bool.not_eq_true',Bool.and_eq_false_iff,decide_eq_false_iff_not]
    by_cases e1:(p:Int) > 1 <;> by_cases e2:(d:Int) = 0 <;> by_cases e3:(k:Int) + 2 ≥ (s.size:Nat) <;> simp [e1,e2,e3] <;> omega
   clear hq0
   cases q with
   | true=>
    intro K5 hK5;refine ah (hK5 _ _ fun _=>?_);intro K6 hK6;refine ah (hK6 _ _ fun _=>?_);refine ah (cF hR ?_);have hq':(decide (p <= 1) && (decide (p < k) && decide (k + 2 < (bytes s).length))) = false:=by
     cases h:(decide (p <= 1) && (decide (p < k) && decide (k + 2 < (bytes s).length))) with
     | false=>rfl
     | true=>rw [h] at hq; cases hq
    rw [<- Bool.and_assoc,<- Bool.and_assoc];rw [Bool.and_assoc (decide (p <= 1)),hq']; rfl
   | false=>
    have hq':(decide (p <= 1) && (decide (p < k) && decide (k + 2 < (bytes s).length))) = true:=by
     cases h:(decide (p <= 1) && (decide (p < k) && decide (k + 2 < (bytes s).length))) with
     | true=>rfl
     | false=>rw [h] at hq; cases hq
    have hq2:=hq';simp only [Bool.and_eq_true,decide_eq_true_eq] at hq2;rw [<- Bool.and_assoc,<- Bool.and_assoc,Bool.and_assoc (decide (p <= 1)),hq',Bool.true_and] at hR;haveI:dI s (k:Int):=⟨by omega,by omega⟩
    haveI:dI s ((k:Int) + 1):=⟨by omega,by omega⟩
    (repeat (refine JB ?_));rw [oO,show (k:Int) + 1 = ((k + 1:Nat):Int) by omega,oO];have d69:decide ((((bytes s).getD k 0).toNat:Int) = 69) = decide ((bytes s).getD k 0 = 69):=decide_eq_decide.2 (dF _ 69).symm;have d43:decide ((((bytes s).getD (k + 1) 0).toNat:Int) = 43) = decide ((bytes s).getD (k + 1) 0 = 43):=decide_eq_decide.2 (dF _ 43).symm;have d45:decide ((((bytes s).getD (k + 1) 0).toNat:Int) = 45) = decide ((bytes s).getD (k + 1) 0 = 45):=decide_eq_decide.2 (dF _ 45).symm;rw [d69,d43,d45];refine aO (fun h=>?_) (fun h=>?_)
    ·refine cF hR ?_
     revert h
     cases decide ((bytes s).getD k 0 = 69) <;> cases decide ((bytes s).getD (k + 1) 0 = 43) <;> cases decide ((bytes s).getD (k + 1) 0 = 45) <;> simp
    ·have hR2:∀ z' w' L',Res w z [] w' z' L'->R (.bool (((bytes s).drop (k + 2)).all qD)) w':=by
      intro z' w' L' k';have:=hR z' w' L' k'
      revert h this
      cases decide ((bytes s).getD k 0 = 69) <;> cases decide ((bytes s).getD (k + 1) 0 = 43) <;> cases decide ((bytes s).getD (k + 1) 0 = 45) <;> simp
     clear hR;(repeat (refine aA ?_));refine bG (fun (j:Nat) x=>x = .int .i64 ((k + 2 + j:Nat):Int)/\k + 2 + j <= s.size/\(((bytes s).drop (k + 2)).take j).all qD = true) (fun j=>s.size - j) 0 ⟨by simp,by omega,by simp⟩ ?_;rintro I2 M2 j x w5 z5 m2 ⟨rfl,hj,hall2⟩ hz5 hS5 back2
     (repeat (refine aA ?_));refine aC (fun h2=>?_) (fun h2=>?_)
     ·haveI:dI s ((k + 2 + j:Nat):Int):=⟨by omega,by omega⟩
      haveI:InI (((k + 2 + j:Nat):Int) + 1):=⟨by omega⟩
      have hl:j < ((bytes s).drop (k + 2)).length:=by rw [length_drop]; omega
      have hg:((bytes s).drop (k + 2)).getD j 0 = (bytes s).getD (k + 2 + j) 0:=by
       rw [getD_eq_getElem?_getD,getD_eq_getElem?_getD,getElem?_drop]
      (repeat (first | refine aA ?_ | refine JB ?_));rw [oO];have hdig:=AK ((bytes s).getD (k + 2 + j) 0);refine aO (fun h3=>?_) (fun h3=>?_)
      ·rw [h3] at hdig
       refine cF hR2 ?_;rw [jT hl (by rw [hg]; exact hdig)]
      ·rw [h3] at hdig
       (repeat (refine aA ?_));exact back2 (j + 1) _ _ _ ⟨by simp; omega,by omega,fk hl hall2 (by rw [hg]; exact hdig)⟩ (by (repeat (exact Le.refl _))) (by assumption) (by omega)
     ·refine cF hR2 ?_
      rw [take_of_length_le (by rw [length_drop]; omega)] at hall2;rw [hall2]
 clear hKa;refine aC (fun h=>?_) (fun h=>?_)
 ·haveI:dI s (k:Int):=⟨by omega,by omega⟩
  (repeat (first | refine aA ?_ | refine JB ?_));rw [oO];have hnc:=ze ((bytes s).getD k 0);refine main _ (fun e=>⟨by omega,?_⟩) (fun e=>?_)
  ·rw [hnc]
   revert e
   by_cases e1:(((bytes s).getD k 0).toNat:Int) = 46 <;> by_cases e2:(((bytes s).getD k 0).toNat:Int) ≥ 48 <;> by_cases e3:(((bytes s).getD k 0).toNat:Int) <= 57 <;> simp [e1,e2,e3] <;> omega
  ·refine wt (by omega) hall fun _=>?_
   rw [<- Bool.not_eq_true,hnc]
   revert e
   by_cases e1:(((bytes s).getD k 0).toNat:Int) = 46 <;> by_cases e2:(((bytes s).getD k 0).toNat:Int) ≥ 48 <;> by_cases e3:(((bytes s).getD k 0).toNat:Int) <= 57 <;> simp [e1,e2,e3] <;> omega
 ·exact main false (fun e=>by cases e) (fun _=>wt (by omega) hall fun h2=>by omega))⟩
end
section
theorem tV (c:UInt8):kg c = true ↔ (65 <= (c.toNat:Int)/\(c.toNat:Int) <= 90) \/ (48 <= (c.toNat:Int)/\(c.toNat:Int) <= 57) \/ (c.toNat:Int) = 46 \/ (c.toNat:Int) = 95 \/ (c.toNat:Int) = 33 \/ (c.toNat:Int) = 63:=by
 unfold kg;rw [xD];have h1:=dF 46 c;have h2:=dF 95 c;have h3:=dF 33 c;have h4:=dF 63 c;simp only [show ((46:UInt8).toNat:Int) = 46 from rfl,show ((95:UInt8).toNat:Int) = 95 from rfl,show ((33:UInt8).toNat:Int) = 33 from rfl,show ((63:UInt8).toNat:Int) = 63 from rfl] at h1 h2 h3 h4;have:(bytes DS).any (fun x=>x == c) = true ↔ (46:UInt8) = c \/ (95:UInt8) = c \/ (33:UInt8) = c \/ (63:UInt8) = c:=by
  show [46,95,33,63].any (fun x=>x == c) = true ↔ _
  simp
 rw [Bool.or_eq_true,Bool.or_eq_true,inB_iff,inB_iff,this,h1,h2,h3,h4];omega
theorem yo (c:UInt8):(bif bif bif bif bif bif decide ((c.toNat:Int) ≥ 65) then decide ((c.toNat:Int) <= 90) else false then true else bif decide ((c.toNat:Int) ≥ 48) then decide ((c.toNat:Int) <= 57) else false then true else decide ((c.toNat:Int) = 46) then true else decide ((c.toNat:Int) = 95) then true else decide ((c.toNat:Int) = 33) then true else decide ((c.toNat:Int) = 63)) = kg c:=by
 rw [Bool.eq_iff_iff,tV];simp only [Bool.cond_true_left,Bool.cond_false_right,Bool.or_eq_true,Bool.and_eq_true,decide_eq_true_eq];omega
theorem BN {s:ByteArray} {c:UInt8} (h:1 <= s.size):ez s c = decide (bt s ((s.size:Nat) - 1:Int) = (c.toNat:Int)):=by
 have hsz:=aI s;unfold ez;rw [show ((s.size:Nat):Int) - 1 = ((s.size - 1:Nat):Int) by omega,AP];rw [getLast?_eq_getElem?,<- hsz,getD_eq_getElem?_getD,getElem?_eq_getElem (show s.size - 1 < (bytes s).length by omega)];simp
instance {s:ByteArray}:Pu 166 #[.string s] (.int .i64 (aY s)):=⟨fun z w=>fnA en166 (by
 intro hS R hR;unfold vc166;have hsz:=aI s;(repeat (first | refine aA ?_ | refine JB ?_));refine aO (fun h=>?_) (fun h=>?_)
 ·refine cF hR ?_
  have:inB s.size 1 40 = false:=by
   rw [iq];simp only [Bool.cond_true_left,Bool.or_eq_true,decide_eq_true_eq] at h;omega
  unfold aY; rw [this]; rfl
 have hin:1 <= s.size/\s.size <= 40:=by
  simp only [Bool.cond_true_left,Bool.or_eq_false_iff,decide_eq_false_iff_not] at h;omega
 have hin2:inB s.size 1 40 = true:=by rw [inB_iff]; omega
 haveI:gH s:=⟨by omega⟩
 clear h;refine kN (fun (k:Nat) x y=>x = .int .i64 (((bytes s).take k).count 46:Nat)/\y = .int .i64 k/\k <= s.size/\(((bytes s).take k).all kg = true \/ kE s = true)) (fun k=>s.size - k) 0 ⟨by simp,rfl,Nat.zero_le _,.inl (by simp)⟩ ?_;rintro I M k x y w3 z3 m ⟨rfl,rfl,hk,hall⟩ hz3 hS3 back
 (repeat (refine aA ?_));refine aC (fun h=>?_) (fun h=>?_)
 ·have hkl:k < (bytes s).length:=by omega
  haveI:dI s (k:Int):=⟨by omega,by omega⟩
  haveI:InI ((k:Int) + 1):=⟨by omega⟩
  have hcle:((bytes s).take k).count 46 <= k:=by
   have:=count_le_length (a:=(46:UInt8)) (l:=(bytes s).take k);rw [length_take] at this; omega
  haveI:InI ((((bytes s).take k).count 46:Nat) + 1:Int):=⟨by omega⟩
  have hcnt:=jY hkl 46;have e46:=dF ((bytes s).getD k 0) 46;have hsym:=tV ((bytes s).getD k 0);intro Ka hKa;have ma:∀ z' w',Le z3 z'->Res w z [] w' z' []->(((bytes s).take (k + 1)).all kg = true \/ kE s = true)->Ka [.int .i64 (((bytes s).take (k + 1)).count 46:Nat)] w':=by
   intro z' w' hz' hS' hh;refine hKa _ _ fun _=>?_
   clear hS3;(repeat (refine aA ?_));exact back (k + 1) _ _ _ z' ⟨rfl,by simp,by omega,hh⟩ hz' hS' (by omega)
  clear hKa;refine aA ?_;rw [oO];intro Kb hKb;have mb:∀ z' w',Le z3 z'->Res w z [] w' z' []->(((bytes s).take (k + 1)).all kg = true \/ kE s = true)->Kb [] w':=by
   intro z' w' hz' hS' hh;refine hKb _ fun _=>?_
   clear hS3;(repeat (refine aA ?_));refine aC (fun h2=>?_) (fun h2=>?_)
   ·(repeat (refine aA ?_))
    rw [if_pos (e46.2 h2)] at hcnt;have:=ma z' w' hz' hS' hh;rw [hcnt] at this
    simpa using this
   ·rw [if_neg (fun e=>h2 (e46.1 e))] at hcnt
    have:=ma z' w' hz' hS' hh;rw [hcnt] at this
    simpa using this
  clear hKb;(repeat (first | refine aA ?_ | refine JB ?_));rw [yo];refine aU (fun h3=>?_) (fun h3=>?_)
  ·refine aN ?_
   intro z4 w4 hz4 hS4;refine aA ?_;refine aU (fun h4=>?_) (fun h4=>?_)
   ·refine cF hR ?_
    unfold aY;rw [hin2,jT hkl h3,h4]; rfl
   ·exact mb z4 w4 hz4 hS4 (.inr h4)
  ·exact mb z3 w3 (Le.refl _) hS3 (hall.imp (fun e=>fk hkl e h3) id)
 ·have:k = s.size:=by omega
  subst this;rw [hsz,take_length] at hall;haveI:dI s 0:=⟨by decide,by omega⟩
  haveI:dI s ((s.size:Nat) - 1:Int):=⟨by omega,by omega⟩
  haveI:InI ((s.size:Nat) - 1:Int):=⟨by omega⟩
  rw [show List.count 46 (List.take s.size (bytes s)) = List.count 46 (bytes s) by rw [hsz,take_length]];have hfst:(!((bytes s).all kg) && !kE s) = false:=by
   rcases hall with h | h <;> rw [h] <;> simp
  have hsk:aY s = if inB (bt s 0) 48 57 || decide (bt s 0 = 46) then 1 else if (bytes s).count 46 = 0 then 2 else if (bytes s).count 46 = 1/\ez s 46 = true then 3 else 4:=by
   unfold aY; rw [hin2,hfst]; rfl
  rw [hsk] at hR;(repeat (first | refine aA ?_ | refine JB ?_));rw [show (bif decide (bt s 0 = 46) then true else bif decide (bt s 0 ≥ 48) then decide (bt s 0 <= 57) else false) = (inB (bt s 0) 48 57 || decide (bt s 0 = 46)) by
   unfold inB; rw [Bool.cond_true_left,Bool.cond_false_right,Bool.or_comm]]
  refine aO (fun h5=>?_) (fun h5=>?_)
  ·rw [h5] at hR
   exact cF hR rfl
  rw [h5] at hR;(repeat (refine aA ?_));refine aC (fun h6=>?_) (fun h6=>?_)
  ·exact cF hR (by rw [if_neg (by simp),if_pos (by omega)])
  (repeat (first | refine aA ?_ | refine JB ?_));have hl:=BN (s:=s) (c:=46) (by omega);rw [show (bif decide (((bytes s).count 46:Nat) = (1:Int)) then decide (bt s ((s.size:Nat) - 1:Int) = 46) else false) = (decide (((bytes s).count 46:Nat) = (1:Int)) && ez s 46) by
   rw [hl,Bool.cond_false_right]; rfl]
  refine aO (fun h7=>?_) (fun h7=>?_)
  ·rw [Bool.and_eq_true,decide_eq_true_eq] at h7
   exact cF hR (by rw [if_neg (by simp),if_neg (by omega),if_pos ⟨by omega,h7.2⟩])
  ·rw [Bool.and_eq_false_iff,decide_eq_false_iff_not] at h7
   have h8:¬ ((bytes s).count 46 = 1/\ez s 46 = true):=fun ⟨e1,e2⟩=>h7.elim (fun h=>h (by omega)) (fun h=>by rw [e2] at h; cases h)
   exact cF hR (by rw [if_neg (by simp),if_neg (by omega),if_neg h8]))⟩
instance {s:ByteArray}:Pu 165 #[.string s] (.bool (jh s)):=⟨fun z w=>fnW en165 (fun hS R=>by unfold vc165; exact inferInstance) rfl⟩
end
section
def oB (n s l:Int):Bool:=(decide (n > s) && decide (n <= l)) || decide (n > l + 20)
theorem uB {n s l:Int} (h:InI (l + 20)):Pu 34 #[.int .i64 n,.int .i64 s,.int .i64 l] (.bool (oB n s l)):=⟨fun z w=>fnW en34 (fun hS R=>by unfold vc34; exact inferInstance) (by
 unfold oB; congr 1; by_cases h1:n > s <;> by_cases h2:n <= l <;> by_cases h3:n > l + 20 <;> simp [h1,h2,h3])⟩
instance {n s:Int}:Pu 34 #[.int .i64 n,.int .i64 s,.int .i64 3000] (.bool (oB n s 3000)):=uB ⟨by omega⟩
instance {n s:Int}:Pu 34 #[.int .i64 n,.int .i64 s,.int .i64 100] (.bool (oB n s 100)):=uB ⟨by omega⟩
instance {n s:Int}:Pu 34 #[.int .i64 n,.int .i64 s,.int .i64 12000] (.bool (oB n s 12000)):=uB ⟨by omega⟩
instance {n s:Int}:Pu 34 #[.int .i64 n,.int .i64 s,.int .i64 10000] (.bool (oB n s 10000)):=uB ⟨by omega⟩
theorem Cl {z:Z} {w:World} {v:Value} {c:aH} (hc:CodeR z v c):Fn1 14 #[v] z w fun _ r=>∃ b,r = .bool b:=Fn1.intro fun hS=>en14 (by
 unfold vc14;obtain ⟨a1,a2,a3,a4,a5,a6,k1,k2,k3,k4,k5,k6,rfl,h1,h2,h3,h4,h5,h6⟩:=hc.form;refine aP ?_;intro bc w1 hbc hS1;obtain ⟨zc,hzc,hS2,hatc⟩:=hS1.frz bc;generalize hRR:(fun (v:Value) (w':World)=>∃ z' L',Res w z [] w' z' L'/\∃ b,v = .bool b) = RR;have hR:∀ z' w' L' b,Res w1 zc [] w' z' L'->RR (.bool b) w':=fun z' w' L' b k=>by rw [<- hRR]; exact ⟨z',L',hS2.comp k,b,rfl⟩
 clear hRR;have hS3:=hS2.self;clear hS hS1 hS2;haveI:Fz zc bc 0 [.slice a1 c.consts.length k1]:=⟨hatc.fld (i:=0) rfl rfl⟩
 haveI:Fz zc bc 1 [.slice a2 c.tmpls.length k2]:=⟨hatc.fld (i:=1) rfl rfl⟩
 haveI:Fz zc bc 2 [.slice a3 c.lists.length k3]:=⟨hatc.fld (i:=2) rfl rfl⟩
 haveI:Fz zc bc 3 [.slice a4 c.labels.length k4]:=⟨hatc.fld (i:=3) rfl rfl⟩
 haveI:Fz zc bc 4 [.slice a5 c.slots.length k5]:=⟨hatc.fld (i:=4) rfl rfl⟩
 haveI:Fz zc bc 5 [.slice a6 c.ins.length k6]:=⟨hatc.fld (i:=5) rfl rfl⟩
 (repeat (first | refine aA ?_ | (refine JGB ?_; intro _ _ _ _) | (refine aN ?_; intro _ _ _ _) | refine aL ?_));rename_i hS5;refine aO (fun e1=>?_) (fun e1=>?_)
 ·exact hR _ _ _ _ hS5
 refine bG (fun (k:Nat) x=>x = .int .i64 k/\k <= c.consts.length) (fun k=>c.consts.length - k) 0 ⟨rfl,Nat.zero_le _⟩ ?_;rintro I M k x w6 z6 m ⟨rfl,hk⟩ hz6 hS6 back
 obtain ⟨hb1,_,_,e1,_,hel1⟩:=h1.form
 cases e1
 (repeat (first | refine aA ?_ | refine aL ?_));refine aC (fun h=>?_) (fun h=>?_)
 ·have hlt:k < c.consts.length:=by omega
  obtain ⟨b,off,cs,rfl,⟨rfl,_⟩,hat⟩:=hel1 _ _ (getElem?_eq_getElem hlt);haveI:InR (k:Int) (c.consts.length:Nat):=⟨by omega,by omega⟩
  haveI:InI ((k:Int) + 1):=⟨by simp only [big] at hb1; omega⟩
  haveI:Fz zc b (off + (k:Int).toNat * 1) [.string c.consts[k]]:=⟨hat.mono hzc⟩
  (repeat (first | refine aA ?_ | refine aL ?_));refine aC (fun h=>?_) (fun h=>?_)
  ·exact hR _ _ _ _ ‹Res w1 zc [] _ _ _›
  ·(repeat (refine aA ?_))
   exact back (k + 1) _ _ _ ⟨by simp,by omega⟩ (by (repeat (exact Le.refl _))) (by assumption) (by omega)
 clear back;refine bG (fun (k:Nat) x=>x = .int .i64 k/\k <= c.tmpls.length) (fun k=>c.tmpls.length - k) 0 ⟨rfl,Nat.zero_le _⟩ ?_;rintro I M k x w7 z7 m ⟨rfl,hk⟩ hz7 hS7 back
 obtain ⟨hb2,_,_,e2,_,hel2⟩:=h2.form
 cases e2
 (repeat (first | refine aA ?_ | refine aL ?_));refine aC (fun h=>?_) (fun h=>?_)
 ·have hlt:k < c.tmpls.length:=by omega
  obtain ⟨b,off,cs,rfl,⟨v9,rfl,hv9⟩,hat⟩:=hel2 _ _ (getElem?_eq_getElem hlt);obtain ⟨hb9,a9,c9,rfl,_,hel9⟩:=hv9.form;haveI:InR (k:Int) (c.tmpls.length:Nat):=⟨by omega,by omega⟩
  haveI:InI ((k:Int) + 1):=⟨by simp only [big] at hb2; omega⟩
  haveI:Fz zc b (off + (k:Int).toNat * 1) [.slice a9 c.tmpls[k].length c9]:=⟨hat.mono hzc⟩
  (repeat (first | refine aA ?_ | (refine aN ?_; intro _ _ _ _) | refine aL ?_));rename_i hS8;refine aO (fun h=>?_) (fun h=>?_)
  ·exact hR _ _ _ _ hS8
  refine bG (fun (j:Nat) x=>x = .int .i64 j/\j <= c.tmpls[k].length) (fun j=>c.tmpls[k].length - j) 0 ⟨rfl,Nat.zero_le _⟩ ?_;rintro I2 M2 j x w9 z9 m2 ⟨rfl,hj⟩ hz9 hS9 back2
  (repeat (first | refine aA ?_ | refine aL ?_));refine aC (fun h=>?_) (fun h=>?_)
  ·have hlt2:j < c.tmpls[k].length:=by omega
   obtain ⟨b2,off2,cs,rfl,⟨rfl,_⟩,hat2⟩:=hel9 _ _ (getElem?_eq_getElem hlt2);haveI:InR (j:Int) (c.tmpls[k].length:Nat):=⟨by omega,by omega⟩
   haveI:InI ((j:Int) + 1):=⟨by simp only [big] at hb9; omega⟩
   haveI:Fz zc b2 (off2 + (j:Int).toNat * 3) c.tmpls[k][j].cells:=⟨hat2.mono hzc⟩
   haveI:Fz zc b2 (off2 + (j:Int).toNat * 3 + 1) [.string c.tmpls[k][j].text]:=⟨(hat2.mono hzc).fld (i:=1) rfl rfl⟩
   (repeat (first | refine aA ?_ | refine aL ?_));refine aC (fun h=>?_) (fun h=>?_)
   ·exact hR _ _ _ _ ‹Res w1 zc [] _ _ _›
   ·(repeat (refine aA ?_))
    exact back2 (j + 1) _ _ _ ⟨by simp,by omega⟩ (by (repeat (exact Le.refl _))) (by assumption) (by omega)
  ·(repeat (refine aA ?_))
   exact back (k + 1) _ _ z9 ⟨by simp,by omega⟩ (by (repeat (first | assumption | refine Le.trans ?_ (by assumption:Le _ _)))) hS9 (by omega)
 clear back;refine bG (fun (k:Nat) x=>x = .int .i64 k/\k <= c.lists.length) (fun k=>c.lists.length - k) 0 ⟨rfl,Nat.zero_le _⟩ ?_;rintro I M k x w10 z10 m ⟨rfl,hk⟩ hz10 hS10 back
 obtain ⟨hb3,_,_,e3,_,hel3⟩:=h3.form
 cases e3
 (repeat (first | refine aA ?_ | refine aL ?_));refine aC (fun h=>?_) (fun h=>?_)
 ·have hlt:k < c.lists.length:=by omega
  obtain ⟨b,off,cs,rfl,⟨v9,rfl,hv9⟩,hat⟩:=hel3 _ _ (getElem?_eq_getElem hlt);obtain ⟨hb9,a9,c9,rfl,_,hel9⟩:=hv9.form;haveI:InR (k:Int) (c.lists.length:Nat):=⟨by omega,by omega⟩
  haveI:InI ((k:Int) + 1):=⟨by simp only [big] at hb3; omega⟩
  haveI:Fz zc b (off + (k:Int).toNat * 1) [.slice a9 c.lists[k].length c9]:=⟨hat.mono hzc⟩
  (repeat (first | refine aA ?_ | (refine aN ?_; intro _ _ _ _) | refine aL ?_));rename_i hS8;refine aO (fun h=>?_) (fun h=>?_)
  ·exact hR _ _ _ _ hS8
  refine bG (fun (j:Nat) x=>x = .int .i64 j/\j <= c.lists[k].length) (fun j=>c.lists[k].length - j) 0 ⟨rfl,Nat.zero_le _⟩ ?_;rintro I2 M2 j x w9 z9 m2 ⟨rfl,hj⟩ hz9 hS9 back2
  (repeat (first | refine aA ?_ | refine aL ?_));refine aC (fun h=>?_) (fun h=>?_)
  ·have hlt2:j < c.lists[k].length:=by omega
   obtain ⟨b2,off2,cs,rfl,⟨rfl,_⟩,hat2⟩:=hel9 _ _ (getElem?_eq_getElem hlt2);haveI:InR (j:Int) (c.lists[k].length:Nat):=⟨by omega,by omega⟩
   haveI:InI ((j:Int) + 1):=⟨by simp only [big] at hb9; omega⟩
   haveI:Fz zc b2 (off2 + (j:Int).toNat * 2 + 0) [.string c.lists[k][j].name]:=⟨(hat2.mono hzc).fld (i:=0) rfl rfl⟩
   haveI:Fz zc b2 (off2 + (j:Int).toNat * 2) [.string c.lists[k][j].name]:=⟨(hat2.mono hzc).fld (i:=0) rfl rfl⟩
   (repeat (first | refine aA ?_ | refine aL ?_));refine aC (fun h=>?_) (fun h=>?_)
   ·exact hR _ _ _ _ ‹Res w1 zc [] _ _ _›
   ·(repeat (refine aA ?_))
    exact back2 (j + 1) _ _ _ ⟨by simp,by omega⟩ (by (repeat (exact Le.refl _))) (by assumption) (by omega)
  ·(repeat (refine aA ?_))
   exact back (k + 1) _ _ z9 ⟨by simp,by omega⟩ (by (repeat (first | assumption | refine Le.trans ?_ (by assumption:Le _ _)))) hS9 (by omega)
 clear back;refine bG (fun (k:Nat) x=>x = .int .i64 k/\k <= c.labels.length) (fun k=>c.labels.length - k) 0 ⟨rfl,Nat.zero_le _⟩ ?_;rintro I M k x w11 z11 m ⟨rfl,hk⟩ hz11 hS11 back
 obtain ⟨hb4,_,_,e4,_,hel4⟩:=h4.form
 cases e4
 (repeat (first | refine aA ?_ | refine aL ?_));refine aC (fun h=>?_) (fun h=>?_)
 ·have hlt:k < c.labels.length:=by omega
  obtain ⟨b,off,cs,rfl,⟨rfl,_⟩,hat⟩:=hel4 _ _ (getElem?_eq_getElem hlt);haveI:InR (k:Int) (c.labels.length:Nat):=⟨by omega,by omega⟩
  haveI:InI ((k:Int) + 1):=⟨by simp only [big] at hb4; omega⟩
  haveI:Fz zc b (off + (k:Int).toNat * 2 + 0) [.string c.labels[k].name]:=⟨(hat.mono hzc).fld (i:=0) rfl rfl⟩
  haveI:Fz zc b (off + (k:Int).toNat * 2) [.string c.labels[k].name]:=⟨(hat.mono hzc).fld (i:=0) rfl rfl⟩
  (repeat (first | refine aA ?_ | refine aL ?_));refine aC (fun h=>?_) (fun h=>?_)
  ·exact hR _ _ _ _ ‹Res w1 zc [] _ _ _›
  ·(repeat (refine aA ?_))
   exact back (k + 1) _ _ _ ⟨by simp,by omega⟩ (by (repeat (exact Le.refl _))) (by assumption) (by omega)
 ·exact hR _ _ _ _ hS11)
end
section
theorem zj {out:List Nat} {x y:Nat}:y ∈ dv out x ↔ y ∈ out \/ y = x:=by
 unfold dv
 cases h:dp out x with
 | true=>
  have hx:x ∈ out:=by unfold dp at h; simpa using h
  simp only [cond_true];exact ⟨.inl,fun h=>h.elim id fun e=>e ▸ hx⟩
 | false=>simp
theorem xq {l:List (Nat × Bool)}:∀ {out:List Nat} {y:Nat},y ∈ l.foldl (fun out p=>dv out p.1) out ↔ y ∈ out \/ y ∈ l.map fun p=>p.1:=by
 induction l with
 | nil=>simp
 | cons p l ih=>
  intro out y;rw [foldl_cons,ih,zj];simp only [map_cons,mem_cons];exact or_assoc
theorem mem_nextL {c:aH} {a y:Nat}:y ∈ gP c a ↔ y ∈ toL c a:=by
 unfold gP toL;rw [xq]; simp
end
section
theorem re {d:DpM} {at_:Nat} {s:DepM} (ha:at_ < d.kn.length) (hc:(cB d at_ s).1 = true):(cB d at_ s).2.kn.getD at_ none = some s:=by
 unfold cB at hc ⊢
 cases hk:d.kn.getD at_ none with
 | some was=>
  rw [hk] at hc;simp only [decide_eq_true_eq] at hc;simp only [hk,hc]
 | none=>
  simp only;rw [getD_eq_getElem?_getD,getElem?_set_self ha]; rfl
end
section
theorem yJ (n:Int):(aG n).loop = if n = 27 \/ n = 28 \/ n = 29 then 1 else 0:=by
 unfold aG
 split
 ·have h:∀ k:Fin 47,(formL.getD k.val noForm).loop = if ((k.val:Nat):Int) = 27 \/ ((k.val:Nat):Int) = 28 \/ ((k.val:Nat):Int) = 29 then 1 else 0:=by decide +kernel
  have hk:1 <= n/\n <= 46:=by
   have:=‹cO n = true›
   unfold cO at this
   simpa using this
  have:=h ⟨n.toNat,by omega⟩;simp only at this;rw [show ((n.toNat:Nat):Int) = n by omega] at this;exact this
 ·have hk:¬ (1 <= n/\n <= 46):=by
   have:=‹¬ cO n = true›
   unfold cO at this
   simpa using this
  rw [if_neg (by omega)]; rfl
end
section
def fB (i:InsM) (s:DepM):Int:=if i.op = 27 \/ i.op = 28 \/ i.op = 29 then s.loops + 1 else if i.op = 33 then s.loops - i.a else s.loops
def lH (i:InsM) (s:DepM):Int:=s.stack - (dX i).pops + (dX i).pushes
def cV (i:InsM) (n:Int) (x:Nat):Int:=if i.op = 30/\(x:Int) = i.a then n - 1 else n
def db (i:InsM) (at_ x:Nat):Bool:=decide (i.op = 30/\(x:Int) = i.a/\i.a = (at_:Int) + 1)
def cq (i:InsM) (at_:Nat) (st n:Int):List Nat->DpM->Option DpM
 | [],d=>some d
 | x :: l,d=>if db i at_ x = true \/ st > 200 \/ inB (cV i n x) 0 40 = false then none else match d.kn.getD x none with
  | none=>cq i at_ st n l ⟨d.kn.set x (some ⟨st,cV i n x⟩),d.open_ ++ [x]⟩
  | some was=>if was = ⟨st,cV i n x⟩ then cq i at_ st n l d else none
def eg (i:InsM) (s:DepM):Bool:=
 ((decide (i.op = 1) || (decide (i.op = 2) || decide (i.op = 31))) && !decide (s.stack = 0)) || (((decide (i.op = 30) || (decide (i.op = 31) || decide (i.op = 32))) && decide (s.loops < 1)) || decide (s.stack < (dX i).pops))
def lv (c:aH) (d:DpM) (at_:Nat):Option DpM:=
 if eg (aX c at_) (gu d.kn at_) = true then none else match cq (aX c at_) at_ (lH (aX c at_) (gu d.kn at_)) (fB (aX c at_) (gu d.kn at_)) (gP c at_) d with
  | none=>none
  | some d'=>if fB (aX c at_) (gu d.kn at_) < 0 then none else some d'
def ij:List (Nat × DepM)->DpM->Option DpM
 | [],d=>some d
 | p :: l,d=>if p.2.stack > 200 \/ inB p.2.loops 0 40 = false then none else match d.kn.getD p.1 none with
  | none=>ij l ⟨d.kn.set p.1 (some p.2),d.open_ ++ [p.1]⟩
  | some was=>if was = p.2 then ij l d else none
theorem jt:∀ (l:List (Nat × DepM)) (d:DpM),(∀ a s,d.kn.getD a none = some s->Low s)->(∀ p ∈ l,0 <= p.2.stack/\p.1 < d.kn.length)->ij l d = ca l d
 | [],d,_,_=>rfl
 | p :: l,d,hlow,hl=>by
  rw [cI];unfold ij cB;have hp:=hl p mem_cons_self;have hl':∀ q ∈ l,0 <= q.2.stack/\q.1 < d.kn.length:=fun q hq=>hl q (mem_cons_of_mem _ hq)
  cases hk:d.kn.getD p.1 none with
  | some was=>
   simp only [decide_eq_true_eq];have hw:=(hlow _ _ hk).h
   by_cases e:was = p.2
   ·subst e
    rw [if_pos rfl,if_pos rfl,if_neg (by rw [iq]; omega)];exact jt l d hlow hl'
   ·rw [if_neg e,if_neg e]; split <;> rfl
  | none=>
   simp only
   by_cases e:p.2.stack > 200 \/ inB p.2.loops 0 40 = false
   ·rw [if_pos e,if_neg]
    rw [Bool.and_eq_true,inB_iff];rintro ⟨h1,h2⟩
    rcases e with e | e
    ·omega
    ·rw [h2] at e; cases e
   ·rw [if_neg e]
    have e1:inB p.2.loops 0 40 = true:=by
     cases h:inB p.2.loops 0 40 with
     | true=>rfl
     | false=>exact absurd (.inr h) e
    have e2:¬ p.2.stack > 200:=fun h=>e (.inl h)
    rw [if_pos (by rw [Bool.and_eq_true,inB_iff]; exact ⟨by omega,e1⟩)];have e3:=inB_iff.1 e1;refine jt l _ (fun a s hs=>?_) (fun q hq=>by simpa using hl' q hq);simp only at hs
    by_cases ha:p.1 = a
    ·subst ha
     rw [getD_eq_getElem?_getD,getElem?_set_self hp.2] at hs;simp only [Option.getD_some,Option.some.injEq] at hs;subst hs;exact ⟨by omega⟩
    ·rw [getD_eq_getElem?_getD,getElem?_set_ne ha,<- getD_eq_getElem?_getD] at hs
     exact hlow a s hs
theorem jr {i:InsM} {at_:Nat} {st n:Int}:∀ (l:List Nat) (d:DpM),(∀ x ∈ l,db i at_ x = false)->cq i at_ st n l d = ij (l.map fun x=>(x,⟨st,cV i n x⟩)) d
 | [],d,_=>rfl
 | x :: l,d,hb=>by
  rw [map_cons];unfold cq ij;have hl:∀ y ∈ l,db i at_ y = false:=fun y hy=>hb y (mem_cons_of_mem _ hy)
  rw [hb x mem_cons_self];simp only [Bool.false_eq_true,false_or]
  split
  ·rfl
  ·cases d.kn.getD x none with
   | none=>exact jr l _ hl
   | some was=>
     simp only; split
     · exact jr l d hl
     · rfl
theorem oM {d:DpM} {a:Nat} {s:DepM} (h:d.kn.getD a none = some s) (u:DepM):cB d a u = (decide (s = u),d):=by
 unfold cB; rw [h]
theorem tD {p:Nat × DepM} {d:DpM} (hp:p.1 < d.kn.length):ca [p,p] d = ca [p] d:=by
 by_cases h:(cB d p.1 p.2).1 = true
 ·rw [cI,if_pos h,cI,oM (re hp h),cI,if_pos h]
  simp
 ·rw [cI,if_neg h,cI,if_neg h]
theorem uk {x:Nat} {s t:DepM} {d:DpM} (hp:x < d.kn.length) (hst:s ≠ t):ca [(x,s),(x,t)] d = none:=by
 by_cases h:(cB d x s).1 = true
 ·rw [cI,if_pos h,cI,oM (re hp h),if_neg (by simpa using hst)]
 ·rw [cI,if_neg h]
theorem yr {c:aH} {kn:List (Option DepM)} {a:Nat} {s:DepM} (hs:gu kn a = s):pB c kn a = (eg (aX c a) s || (decide ((aX c a).op = 33) && decide (s.loops < (aX c a).a))):=by
 unfold pB eg rg;rw [hs];generalize aX c a = i;rw [Bool.eq_iff_iff]
 by_cases h31:i.op = 31
 ·simp [h31]; omega
 by_cases h12:i.op = 1 \/ i.op = 2
 ·rw [if_neg h31,if_pos h12]; rcases h12 with h | h <;> simp [h]
 by_cases h30:i.op = 30 \/ i.op = 32
 ·rw [if_neg h31,if_neg h12,if_pos h30]; rcases h30 with h | h <;> simp [h] <;> omega
 ·rw [if_neg h31,if_neg h12,if_neg h30]
  have e1:¬ i.op = 1:=fun e=>h12 (.inl e)
  have e2:¬ i.op = 2:=fun e=>h12 (.inr e)
  have e3:¬ i.op = 30:=fun e=>h30 (.inl e)
  have e4:¬ i.op = 32:=fun e=>h30 (.inr e)
  simp [h31,e1,e2,e3,e4]
theorem nX {i:InsM} {s:DepM} {b:Bool}:gV i s b = ⟨lH i s,fB i s - (if i.op = 30/\b = true then 1 else 0)⟩:=by
 unfold gV lH fB;rw [yJ i.op];simp only [DepM.mk.injEq];refine ⟨by omega,?_⟩
 by_cases h1:i.op = 27 \/ i.op = 28 \/ i.op = 29
 ·have h2:¬ i.op = 33:=by omega
  have h3:¬ (i.op = 30/\b = true):=by omega
  rw [if_pos h1,if_pos h1,if_neg h3,if_neg h2,if_neg h3]
 ·rw [if_neg h1,if_neg h1]
  by_cases h2:i.op = 33
  ·have h3:¬ (i.op = 30/\b = true):=by omega
   rw [if_pos h2,if_neg h3,if_pos h2]; omega
  ·rw [if_neg h2,if_neg h2]
   split <;> omega
theorem AF {n:Int} (h:n = 24 \/ n = 30 \/ n = 33):(aG n).final = false:=by
 rcases h with rfl | rfl | rfl <;> decide +kernel
theorem Ba:(aG 23).final = true:=by decide +kernel
theorem vK {c:aH} {d:DpM} {a:Nat} {s:DepM} (hlen:d.kn.length = c.ins.length) (hlow:∀ b u,d.kn.getD b none = some u->Low u) (ha:a < c.ins.length) (hs:d.kn.getD a none = some s):lv c d a = pC c d a:=by
 have he:gu d.kn a = s:=by unfold gu; rw [hs]; rfl
 have hl:=(hlow a s hs).h;have hst:=yr (c:=c) he;unfold lv pC iP;rw [he,hst];have hes:=nU (aX c a);generalize hi:aX c a = i at *;have hnl:gP c a = (dD c.ins.length a i).foldl (fun out p=>dv out p.1) []:=by unfold gP; rw [hi]
 by_cases hx:eg i s = true
 ·rw [if_pos hx,if_pos (by rw [hx]; rfl)]
 rw [if_neg hx];have hx':eg i s = false:=by simpa using hx
 have hpop:¬ s.stack < (dX i).pops:=by
  unfold eg at hx';simp only [Bool.or_eq_false_iff,decide_eq_false_iff_not] at hx';exact hx'.2.2
 have hS0:0 <= lH i s:=by unfold lH; omega
 rw [hx',Bool.false_or]
 by_cases h33:i.op = 33/\s.loops < i.a
 ·obtain ⟨h33,hlt⟩:=h33
  rw [if_pos (by simp [h33,hlt])];have hn:fB i s = s.loops - i.a:=by unfold fB; rw [if_neg (by omega),if_pos h33]
  have hn0:fB i s < 0:=by omega
  cases cq i a (lH i s) (fB i s) (gP c a) d with
  | none=>rfl
  | some d'=>simp only; rw [if_pos hn0]
 rw [if_neg (by simp only [Bool.and_eq_true,decide_eq_true_eq]; exact h33)];have hn0:¬ fB i s < 0:=by
  unfold fB
  split
  ·omega
  ·split
   ·next h=>
     have:¬ s.loops < i.a:=fun e=>h33 ⟨h,e⟩
     omega
   ·omega
 have hgo:∀ l:List Nat,(∀ x ∈ l,db i a x = false/\x < c.ins.length)->(match cq i a (lH i s) (fB i s) l d with
   | none=>none
   | some d'=>if fB i s < 0 then none else some d') = ca (l.map fun x=>(x,⟨lH i s,cV i (fB i s) x⟩)) d:=by
  intro l hb;rw [jr l d fun x hx=>(hb x hx).1,jt _ d hlow (fun p hp=>?_)]
  ·cases ca (l.map fun x=>(x,(⟨lH i s,cV i (fB i s) x⟩:DepM))) d with
   | none=>rfl
   | some d'=>simp only; rw [if_neg hn0]
  ·obtain ⟨x,hx,rfl⟩:=List.mem_map.1 hp
   exact ⟨hS0,by rw [hlen]; exact (hb x hx).2⟩
 rw [hnl]
 by_cases hl2:(cX i && inB i.a 0 ((c.ins.length:Int) - 1)) = true
 ·have hj:i.op = 23 \/ i.op = 24 \/ i.op = 30:=by
   have:=hl2; rw [Bool.and_eq_true] at this;have:=this.1; unfold cX at this; simpa using this
  have hin:0 <= i.a/\i.a <= (c.ins.length:Int) - 1:=by
   have:=hl2; rw [Bool.and_eq_true,inB_iff] at this; exact this.2
  have hA:((i.a.toNat:Nat):Int) = i.a:=by omega
  have e2:jW c.ins.length i = [(i.a.toNat,true)]:=by unfold jW; rw [if_pos hl2]
  have dA:cV i (fB i s) i.a.toNat = fB i s - (if i.op = 30/\true = true then 1 else 0):=by
   unfold cV
   by_cases h:i.op = 30
   ·rw [if_pos ⟨h,hA⟩,if_pos ⟨h,rfl⟩]
   ·rw [if_neg (fun e=>h e.1),if_neg (fun e=>h e.1)]; omega
  by_cases hl1:(!(aG i.op).final && decide (a + 1 < c.ins.length)) = true
  ·have e1:ey c.ins.length a i = [(a + 1,false)]:=by unfold ey; rw [if_pos hl1]
   have hl1':(aG i.op).final = false/\a + 1 < c.ins.length:=by simpa using hl1
   have h23:i.op ≠ 23:=fun e=>by have:=hl1'.1; rw [e,Ba] at this; cases this
   unfold dD;rw [e1,e2];simp only [singleton_append,foldl_cons,foldl_nil,map_cons,map_nil,nX]
   by_cases hA1:i.a.toNat = a + 1
   ·have hf:dv (dv ([]:List Nat) (a + 1)) i.a.toNat = [a + 1]:=by rw [hA1]; simp [dv,dp]
    rw [hf,hA1]
    by_cases h30:i.op = 30
    ·have hb:db i a (a + 1) = true:=by unfold db; rw [decide_eq_true_eq]; exact ⟨h30,by omega,by omega⟩
     unfold cq;rw [if_pos (.inl hb)];simp only [h30,true_and,Bool.false_eq_true,if_false,if_true];rw [uk (by rw [hlen]; omega) (by simp only [ne_eq,DepM.mk.injEq]; omega)]
    ·simp only [h30,false_and,if_false]
     rw [hgo [a + 1] (fun x hx=>by
      rw [mem_singleton] at hx; subst hx;exact ⟨by unfold db; simp [h30],hl1'.2⟩)]
     rw [tD (p:=(a + 1,_)) (by rw [hlen]; exact hl1'.2)];simp only [map_cons,map_nil];have:cV i (fB i s) (a + 1) = fB i s - 0:=by unfold cV; rw [if_neg (fun e=>h30 e.1)]; omega
     rw [this]
   ·have hf:dv (dv ([]:List Nat) (a + 1)) i.a.toNat = [a + 1,i.a.toNat]:=by
     have:¬ a + 1 = i.a.toNat:=fun e=>hA1 e.symm
     simp [dv,dp,this]
    rw [hf,hgo [a + 1,i.a.toNat] (fun x hx=>by
     simp only [mem_cons,not_mem_nil,or_false] at hx
     rcases hx with rfl | rfl
     ·exact ⟨by unfold db; rw [decide_eq_false_iff_not]; omega,hl1'.2⟩
     ·exact ⟨by unfold db; rw [decide_eq_false_iff_not]; omega,by omega⟩)]
    simp only [map_cons,map_nil];rw [dA];have:cV i (fB i s) (a + 1) = fB i s - (if i.op = 30/\false = true then 1 else 0):=by unfold cV; rw [if_neg (by omega),if_neg (by simp)]; omega
    rw [this]; simp
  ·have e1:ey c.ins.length a i = []:=by unfold ey; rw [if_neg hl1]
   unfold dD;rw [e1,e2];simp only [nil_append,foldl_cons,foldl_nil,map_cons,map_nil,nX];have hf:dv ([]:List Nat) i.a.toNat = [i.a.toNat]:=by simp [dv,dp]
   rw [hf,hgo [i.a.toNat] (fun x hx=>by
    rw [mem_singleton] at hx; subst hx;refine ⟨?_,by omega⟩;unfold db;rw [decide_eq_false_iff_not];rintro ⟨h30,_,h1⟩
    apply hl1
    rw [AF (.inr (.inl h30))];simp only [Bool.not_false,Bool.true_and,decide_eq_true_eq]; omega)]
   simp only [map_cons,map_nil];rw [dA]; simp
 ·have e2:jW c.ins.length i = []:=by unfold jW; rw [if_neg hl2]
  by_cases hl1:(!(aG i.op).final && decide (a + 1 < c.ins.length)) = true
  ·have e1:ey c.ins.length a i = [(a + 1,false)]:=by unfold ey; rw [if_pos hl1]
   have hl1':(aG i.op).final = false/\a + 1 < c.ins.length:=by simpa using hl1
   unfold dD;rw [e1,e2];simp only [append_nil,foldl_cons,foldl_nil,map_cons,map_nil,nX];have hf:dv ([]:List Nat) (a + 1) = [a + 1]:=by simp [dv,dp]
   have hne:¬ (i.op = 30/\(((a + 1:Nat):Int)) = i.a):=by
    rintro ⟨h30,h1⟩
    apply hl2
    rw [Bool.and_eq_true,inB_iff];exact ⟨by unfold cX; simp [h30],by omega⟩
   rw [hf,hgo [a + 1] (fun x hx=>by
    rw [mem_singleton] at hx; subst hx;exact ⟨by unfold db; rw [decide_eq_false_iff_not]; exact fun e=>hne ⟨e.1,e.2.1⟩,hl1'.2⟩)]
   simp only [map_cons,map_nil];have:cV i (fB i s) (a + 1) = fB i s - (if i.op = 30/\false = true then 1 else 0):=by unfold cV; rw [if_neg hne,if_neg (by simp)]; omega
   rw [this]
  ·have e1:ey c.ins.length a i = []:=by unfold ey; rw [if_neg hl1]
   unfold dD;rw [e1,e2];simp only [append_nil,foldl_nil,map_nil];exact hgo [] (fun x hx=>by cases hx)
end
section
instance {p:PartM}:Pu 164 #[p.v] (.bool (gO p)):=⟨fun z w=>fnW en164 (fun hS R=>by unfold vc164; exact inferInstance) (by
 unfold gO;simp only [Bool.cond_eq_ite,decide_eq_true_eq];(repeat' split) <;> simp_all)⟩
instance {i:InsM}:Pu 80 #[i.v] (.agg [.int .i64 i.a,.int .i64 i.b,.int .i64 i.c].toArray):=⟨fun z w=>fnA en80 (by
 intro hS R hR;unfold vc80;dsimp only [InsM.v,InsM.cells];(repeat (first | refine aA ?_ | refine aE ?_ | (refine aP ?_; intro _ _ _ _) | (refine aF ?_; intro _ _) | refine aq ?_));exact cF hR rfl)⟩
theorem mg {z:Z} {a:Option Addr} {n cap:Nat} {l:List ByteArray} {i:Int} (h:SlR El.str z (.slice a n cap) l) (h0:0 <= i) (h1:i < l.length):∃ b off,a = some ⟨b,off,none⟩/\At z b (off + i.toNat * 1) [.string (l.getD i.toNat ⟨#[]⟩)]:=by
 obtain ⟨_,a',c',e,_,hel⟩:=h.form
 cases e
 have hk:i.toNat < l.length:=by omega
 obtain ⟨b,off,cs,ha,⟨hr,_⟩,hat⟩:=hel _ _ (getElem?_eq_getElem hk)
 cases hr
 rw [getD_eq_getElem?_getD,getElem?_eq_getElem hk];exact ⟨b,off,ha,hat⟩
theorem BZ {z:Z} {w:World} {v:Value} {c:aH} {kind most n:Int} (hc:CodeR z v c):Fn1 167 #[v,.int .i64 kind,.int .i64 most,.int .i64 n] z w fun _ r=>r = .bool (iv c kind most n):=fnA en167 (by
 intro hS R hR;unfold vc167;obtain ⟨a1,a2,a3,a4,a5,a6,k1,k2,k3,k4,k5,k6,rfl,h1,h2,h3,h4,h5,h6⟩:=hc.form;haveI:=dJ h1.big;haveI:=dJ h2.big;haveI:=dJ h3.big;haveI:=dJ h5.big;haveI:=dJ h6.big;unfold iv at hR;(repeat (first | refine aA ?_ | (refine aP ?_; intro _ _ _ _)));refine aC (fun e=>?_) (fun e0=>?_)
 ·rw [if_pos e] at hR
  (repeat (refine aA ?_));exact cF hR rfl
 rw [if_neg e0] at hR;(repeat (refine aA ?_));refine aC (fun e=>?_) (fun e1=>?_)
 ·rw [if_pos e] at hR
  (repeat (refine aN ?_; intro _ _ _ _));exact cF hR rfl
 rw [if_neg e1] at hR;(repeat (refine aA ?_));refine aC (fun e=>?_) (fun e7=>?_)
 ·rw [if_pos e] at hR
  (repeat (first | refine aA ?_ | refine aE ?_ | (refine aN ?_; intro _ _ _ _)));exact cF hR rfl
 rw [if_neg e7] at hR;(repeat (refine aA ?_));refine aC (fun e=>?_) (fun e8=>?_)
 ·rw [if_pos e] at hR
  (repeat (first | refine aA ?_ | refine aE ?_ | (refine aN ?_; intro _ _ _ _)));exact cF hR rfl
 rw [if_neg e8] at hR;(repeat (refine aA ?_));refine aC (fun e=>?_) (fun e9=>?_)
 ·rw [if_pos e] at hR
  (repeat (first | refine aA ?_ | refine aE ?_ | (refine aN ?_; intro _ _ _ _)));exact cF hR rfl
 rw [if_neg e9] at hR;(repeat (refine aA ?_));refine aC (fun e=>?_) (fun e10=>?_)
 ·rw [if_pos e] at hR
  (repeat (first | refine aA ?_ | refine aE ?_ | (refine aN ?_; intro _ _ _ _)));exact cF hR rfl
 rw [if_neg e10] at hR;(repeat (refine aA ?_));refine aC (fun e=>?_) (fun e11=>?_)
 ·rw [if_pos e] at hR
  (repeat (first | refine aA ?_ | refine aE ?_ | (refine aN ?_; intro _ _ _ _)));exact cF hR rfl
 rw [if_neg e11] at hR;(repeat (refine aA ?_));refine aC (fun e=>?_) (fun e12=>?_)
 ·rw [if_pos e] at hR
  (repeat (first | refine aA ?_ | refine aE ?_ | (refine aN ?_; intro _ _ _ _)));exact cF hR rfl
 rw [if_neg e12] at hR;(repeat (refine aA ?_));refine aC (fun e=>?_) (fun e13=>?_)
 ·rw [if_pos e] at hR
  (repeat (refine aN ?_; intro _ _ _ _));exact cF hR rfl
 rw [if_neg e13] at hR;(repeat (refine aA ?_));refine aC (fun e=>?_) (fun e14=>?_)
 ·rw [if_pos e] at hR
  (repeat (refine aN ?_; intro _ _ _ _));exact cF hR rfl
 rw [if_neg e14] at hR;(repeat (refine aA ?_));refine aC (fun e=>?_) (fun e15=>?_)
 ·rw [if_pos e] at hR
  skip
  exact cF hR rfl
 rw [if_neg e15] at hR;(repeat (first | refine aA ?_ | refine aE ?_ | (refine aN ?_; intro _ _ _ _)));refine aU (fun e=>?_) (fun e=>?_)
 ·rw [e] at hR
  exact cF hR rfl
 rw [e,Bool.true_and] at hR;have hin:=inB_iff.1 e;haveI:InR n (c.consts.length:Nat):=⟨by omega,by omega⟩
 obtain ⟨bk,ok,ea,hk⟩:=mg h1 hin.1 (by omega)
 cases ea
 haveI:Fz z bk (ok + n.toNat * 1) [.string (bu c n)]:=⟨hk⟩
 (repeat (first | refine aA ?_ | refine aE ?_ | (refine aN ?_; intro _ _ _ _) | refine aL ?_));refine aC (fun e=>?_) (fun e=>?_)
 ·rw [if_pos e] at hR
  (repeat (refine aA ?_));exact cF hR rfl
 rw [if_neg e] at hR;(repeat (refine aA ?_));refine aC (fun e=>?_) (fun e=>?_)
 ·rw [if_pos e] at hR
  (repeat (refine aA ?_));exact cF hR rfl
 rw [if_neg e] at hR;(repeat (refine aA ?_));refine aC (fun e=>?_) (fun e=>?_)
 ·rw [if_pos e] at hR
  (repeat (refine aA ?_));exact cF hR rfl
 rw [if_neg e] at hR;(repeat (refine aA ?_));refine aC (fun e=>?_) (fun e=>?_)
 ·rw [if_pos e] at hR
  (repeat (refine aA ?_));exact cF hR rfl
 rw [if_neg e] at hR;exact cF hR rfl)
instance {z:Z} {v:Value} {c:aH} {kind most n:Int} [hc:fQ z v c]:PuZ z 167 #[v,.int .i64 kind,.int .i64 most,.int .i64 n] (.bool (iv c kind most n)):=⟨fun z' w hz=>BZ (hc.h.mono hz)⟩
instance {i:InsM}:Pu 18 #[i.v] (DU (dX i)):=⟨fun z w=>sP z w⟩
end
section
theorem AH {i:InsM}:(dX i).e = 0 ↔ cO i.op = true/\cU i = true:=by
 unfold dX
 cases cO i.op <;> cases cU i <;> simp
theorem tf {z:Z} {w:World} {v:Value} {c:aH} {i:InsM} (hc:CodeR z v c):Fn1 53 #[v,i.v] z w fun _ r=>r = .bool (bX c i):=fnA en53 (by
 intro hS R hR;rw [<- tg] at hR;unfold vc53;obtain ⟨a1,a2,a3,a4,a5,a6,k1,k2,k3,k4,k5,k6,rfl,h1,h2,h3,h4,h5,h6⟩:=hc.form;haveI:fQ z _ c:=⟨hc⟩
 haveI:=dJ h1.big;unfold nG pO at hR;dsimp only [InsM.v,InsM.cells];(repeat (first | refine aA ?_ | refine ae ?_ | (refine aP ?_; intro _ _ _ _) | (refine aF ?_; intro _ _) | (refine JC ?_; intro _ _ _ _) | (refine aN ?_; intro _ _ _ _)));rename_i hS5;refine aO (fun e=>?_) (fun e=>?_)
 ·refine cF hR ?_
  rw [Bool.cond_true_left,Bool.or_eq_true,Bool.not_eq_true',Bool.not_eq_true',decide_eq_false_iff_not,AH] at e
  cases ho:cO i.op with
  | false=>rfl
  | true=>
   cases he:cU i with
   | false=>rfl
   | true=>exact absurd ⟨ho,he⟩ (e.elim (fun e=>by rw [ho] at e; cases e) id)
 rw [Bool.cond_true_left,Bool.or_eq_false_iff,Bool.not_eq_false',Bool.not_eq_false',decide_eq_true_eq,AH] at e;rw [e.1,e.2.2,Bool.true_and,Bool.true_and] at hR;(repeat (first | refine ae ?_ | (refine aP ?_; intro _ _ _ _) | (refine aF ?_; intro _ _) | (refine aN ?_; intro _ _ _ _)));rename_i hS6;refine bG (fun (k:Int) x=>x = .int .i64 k/\0 <= k/\k <= 3/\(1 <= k->iv c (bM i.op).k0 (bM i.op).m0 i.a = true)/\(2 <= k->iv c (bM i.op).k1 (bM i.op).m1 i.b = true)/\(3 <= k->iv c (bM i.op).k2 (bM i.op).m2 i.c = true)) (fun k=>(3 - k).toNat) 0 ⟨rfl,by omega,by omega,by omega,by omega,by omega⟩ ?_;rintro I M k x w7 z7 m ⟨rfl,gp,g0,g1,g2,g3⟩ hz7 hS7 back
 clear hS6;refine aA ?_;have:k = 0 \/ k = 1 \/ k = 2 \/ k = 3:=by omega
 rcases this with rfl | rfl | rfl | rfl
 ·refine bC rfl ?_
  (repeat (first | (refine iDr ?_; intro _ _) | refine aK ?_ | refine aW ?_ | refine aq ?_ | (refine cE ?_; intro _ _ _ _)));refine aU (fun h=>?_) (fun h=>?_)
  ·exact cF hR (by rw [h]; rfl)
  ·(repeat (refine aA ?_))
   rename_i hS8;exact back 1 _ _ _ ⟨rfl,by omega,by omega,fun _=>h,by omega,by omega⟩ (by (repeat (assumption))) hS8 (by omega)
 ·refine bC rfl ?_
  (repeat (first | (refine iDr ?_; intro _ _) | refine aK ?_ | refine aW ?_ | refine aq ?_ | (refine cE ?_; intro _ _ _ _)));refine aU (fun h=>?_) (fun h=>?_)
  ·exact cF hR (by rw [g1 (by omega),h]; rfl)
  ·(repeat (refine aA ?_))
   rename_i hS8;exact back 2 _ _ _ ⟨rfl,by omega,by omega,fun _=>g1 (by omega),fun _=>h,by omega⟩ (by (repeat (assumption))) hS8 (by omega)
 ·refine bC rfl ?_
  (repeat (first | (refine iDr ?_; intro _ _) | refine aK ?_ | refine aW ?_ | refine aq ?_ | (refine cE ?_; intro _ _ _ _)));refine aU (fun h=>?_) (fun h=>?_)
  ·exact cF hR (by rw [g1 (by omega),g2 (by omega),h]; rfl)
  ·(repeat (refine aA ?_))
   rename_i hS8;exact back 3 _ _ _ ⟨rfl,by omega,by omega,fun _=>g1 (by omega),fun _=>g2 (by omega),fun _=>h⟩ (by (repeat (assumption))) hS8 (by omega)
 ·refine dk rfl ?_
  rw [g1 (by omega),g2 (by omega),g3 (by omega),Bool.true_and,Bool.true_and,Bool.true_and] at hR;clear back;unfold fw at hR;(repeat (first | refine aA ?_ | refine aE ?_ | refine JB ?_));have hq:(bif decide (i.op = 12) then decide (i.op = 12) else decide (i.op = 21)) = true ↔ i.op = 12 \/ i.op = 21:=by
   by_cases e1:i.op = 12 <;> by_cases e2:i.op = 21 <;> simp [e1,e2]
  refine aO (fun h=>?_) (fun h=>?_)
  ·rw [if_pos (hq.1 h)] at hR
   (repeat (first | refine aA ?_ | refine aE ?_ | (refine aN ?_; intro _ _ _ _)));intro Kc hKc;have mc:∀ z' w' L' b,Res w z [] w' z' L'->b = (inB i.a 0 ((c.consts.length:Int) - 1) && (decide (i.c = 1) || decide (aY (bu c i.a) > 0)))->Kc [.bool b] w':=fun z' w' L' b hS' hb=>hKc _ _ fun _=>by
    rw [<- hb] at hR; exact hR _ _ _ hS'
   clear hKc hR;refine aO (fun e1=>?_) (fun e1=>?_)
   ·have hin:=inB_iff.1 e1
    haveI:InR i.a (c.consts.length:Nat):=⟨by omega,by omega⟩
    obtain ⟨bk,ok,ea,hk⟩:=mg h1 hin.1 (by omega)
    cases ea
    haveI:Fz z bk (ok + i.a.toNat * 1) [.string (bu c i.a)]:=⟨hk⟩
    (repeat (first | refine aA ?_ | refine aE ?_ | (refine JGB ?_; intro _ _ _ _)));exact mc _ _ _ _ (by assumption) (by rw [e1,Bool.true_and,Bool.cond_true_left])
   ·exact mc _ _ _ _ (by assumption) (by rw [e1,Bool.false_and])
  rw [if_neg (fun e=>by rw [hq.2 e] at h; cases h)] at hR;(repeat (refine aA ?_));refine aC (fun e1=>?_) (fun e1=>?_)
  ·rw [if_pos e1] at hR
   (repeat (first | refine aA ?_ | refine aE ?_ | (refine JC ?_; intro _ _ _ _)));refine cF hR ?_;rw [Bool.cond_true_left,Bool.cond_false_right,Bool.cond_false_right]
  rw [if_neg e1] at hR;(repeat (refine aA ?_));refine aC (fun e2=>?_) (fun e2=>?_)
  ·rw [if_pos e2] at hR
   (repeat (first | refine aA ?_ | refine aE ?_ | (refine JC ?_; intro _ _ _ _)));refine aO (fun e3=>?_) (fun e3=>?_)
   ·refine cF hR ?_
    rw [Bool.cond_false_right,Bool.cond_true_left] at e3;rw [e3]; rfl
   rw [Bool.cond_false_right,Bool.cond_true_left] at e3;rw [e3,Bool.not_false,Bool.true_and] at hR;(repeat (first | refine aA ?_ | refine aE ?_));intro Kc hKc;have mc:∀ z' w' L' b,Res w z [] w' z' L'->b = (decide (i.c = -1) || (!decide (i.b = 0) && (inB i.c 0 ((c.consts.length:Int) - 1) && decide (aY (bu c i.c) = 2))))->Kc [.bool b] w':=fun z' w' L' b hS' hb=>hKc _ _ fun _=>by
    rw [<- hb] at hR; exact hR _ _ _ hS'
   clear hKc hR;refine aC (fun e4=>?_) (fun e4=>?_)
   ·exact mc _ _ _ _ (by assumption) (by rw [decide_eq_true e4]; rfl)
   rw [decide_eq_false e4] at mc;(repeat (first | refine aA ?_ | refine aE ?_ | (refine JC ?_; intro _ _ _ _)));intro Kd hKd;have md:∀ z' w' L' b,Res w z [] w' z' L'->b = (!decide (i.b = 0) && (inB i.c 0 ((c.consts.length:Int) - 1) && decide (aY (bu c i.c) = 2)))->Kd [.bool b] w':=fun z' w' L' b hS' hb=>hKd _ _ fun _=>mc z' w' L' b hS' (by rw [hb]; rfl)
   clear hKd mc;refine aO (fun e5=>?_) (fun e5=>?_)
   ·rw [Bool.cond_false_right,Bool.and_eq_true] at e5
    have hin:=inB_iff.1 e5.2;haveI:InR i.c (c.consts.length:Nat):=⟨by omega,by omega⟩
    obtain ⟨bk,ok,ea,hk⟩:=mg h1 hin.1 (by omega)
    cases ea
    haveI:Fz z bk (ok + i.c.toNat * 1) [.string (bu c i.c)]:=⟨hk⟩
    (repeat (first | refine aA ?_ | refine aE ?_ | (refine aN ?_; intro _ _ _ _) | refine aL ?_));exact md _ _ _ _ (by assumption) (by rw [e5.1,e5.2]; rfl)
   ·rw [Bool.cond_false_right] at e5
    refine md _ _ _ _ (by assumption) ?_;rw [<- Bool.and_assoc,e5]; rfl
  rw [if_neg e2] at hR;(repeat (refine aA ?_));refine aC (fun e3=>?_) (fun e3=>?_)
  ·rw [if_pos e3] at hR
   have h0:=g1 (by omega);rw [e3] at h0;have h0':(inB i.a 0 ((c.consts.length:Int) - 1) && decide (aY (bu c i.a) > 1)) = true:=h0;rw [Bool.and_eq_true] at h0';have hin:=inB_iff.1 h0'.1;haveI:InR i.a (c.consts.length:Nat):=⟨by omega,by omega⟩
   obtain ⟨bk,ok,ea,hk⟩:=mg h1 hin.1 (by omega)
   cases ea
   haveI:Fz z bk (ok + i.a.toNat * 1) [.string (bu c i.a)]:=⟨hk⟩
   (repeat (first | refine aA ?_ | refine aE ?_ | (refine aN ?_; intro _ _ _ _) | refine aL ?_));exact cF hR rfl
  ·rw [if_neg e3] at hR
   exact cF hR rfl)
instance {z:Z} {v:Value} {c:aH} {i:InsM} [hc:fQ z v c]:PuZ z 53 #[v,i.v] (.bool (bX c i)):=⟨fun z' w hz=>tf (hc.h.mono hz)⟩
end
section
theorem dl {α:Type} {p:α->Bool} {l:List α} {k:Nat} (h:k < l.length) (h1:(l.take k).all p = true) (h2:p l[k] = true):(l.take (k + 1)).all p = true:=by
 rw [take_succ_eq_append_getElem h,all_append,h1]
 simpa using h2
theorem dG {α:Type} {p:α->Bool} {l:List α} {k:Nat} (h:k < l.length) (h2:p l[k] = false):l.all p = false:=by
 rw [all_eq_false];exact ⟨l[k],getElem_mem h,by rw [h2]; simp⟩
theorem dm {α:Type} {p:α->Bool} {l:List α} {k:Nat} (hk:k <= l.length) (h:¬ k < l.length) (h1:(l.take k).all p = true):l.all p = true:=by
 rw [take_of_length_le (by omega)] at h1; exact h1
theorem rb {a b:Int}:decide (a > b) = !decide (a <= b):=by
 by_cases h:a <= b
 ·rw [decide_eq_true h,decide_eq_false (by omega)]; rfl
 ·rw [decide_eq_false h,decide_eq_true (by omega)]; rfl
theorem vp {z:Z} {w:World} {v:Value} {c:aH} (hc:CodeR z v c):Fn1 51 #[v] z w fun _ r=>r = .bool (bH c):=fnA en51 (by
 intro hS R hR;unfold vc51;obtain ⟨a1,a2,a3,a4,a5,a6,k1,k2,k3,k4,k5,k6,rfl,h1,h2,h3,h4,h5,h6⟩:=hc.form;have hlim:bH c = ((dM c).all (fun p=>decide (p.1 <= p.2)) && (c.tmpls.all kj && (c.consts.all bU && (c.lists.all mJ && c.labels.all fun s=>bU s.name)))):=rfl;refine aP ?_;intro bc w1 hbc hS1;obtain ⟨zc,hzc,hS2,hatc⟩:=hS1.frz bc;have hR:∀ z' w' L' b,Res w1 zc [] w' z' L'->b = bH c->R (.bool b) w':=fun z' w' L' b k e=>by rw [e]; exact hR _ _ _ (hS2.comp k)
 have hS3:=hS2.self;clear hS hS1 hS2;haveI:Fz zc bc 0 [.slice a1 c.consts.length k1]:=⟨hatc.fld (i:=0) rfl rfl⟩
 haveI:Fz zc bc 1 [.slice a2 c.tmpls.length k2]:=⟨hatc.fld (i:=1) rfl rfl⟩
 haveI:Fz zc bc 2 [.slice a3 c.lists.length k3]:=⟨hatc.fld (i:=2) rfl rfl⟩
 haveI:Fz zc bc 3 [.slice a4 c.labels.length k4]:=⟨hatc.fld (i:=3) rfl rfl⟩
 haveI:Fz zc bc 4 [.slice a5 c.slots.length k5]:=⟨hatc.fld (i:=4) rfl rfl⟩
 haveI:Fz zc bc 5 [.slice a6 c.ins.length k6]:=⟨hatc.fld (i:=5) rfl rfl⟩
 have hsz:(dM c).all (fun p=>decide (p.1 <= p.2)) = !(decide ((c.consts.length:Int) > 3000) || (decide ((c.tmpls.length:Int) > 3000) || (decide ((c.lists.length:Int) > 3000) || (decide ((c.labels.length:Int) > 3000) || (decide ((c.slots.length:Int) > 100) || decide ((c.ins.length:Int) > 12000)))))):=by
  rw [rb,rb,rb,rb,rb,rb];unfold dM;simp only [all_cons,all_nil,Bool.and_true,Bool.not_or,Bool.not_not]
 (repeat (first | refine aA ?_ | (refine JGB ?_; intro _ _ _ _) | refine aL ?_));rename_i hS4;clear hS3;simp only [Bool.cond_true_left,Bool.or_assoc];refine aO (fun e=>?_) (fun e=>?_)
 ·exact hR _ _ _ _ hS4 (by rw [hlim,hsz,e]; rfl)
 rw [hsz,e,Bool.not_false,Bool.true_and] at hlim;clear hsz;refine bG (fun (k:Nat) x=>x = .int .i64 k/\k <= c.consts.length/\(c.consts.take k).all bU = true) (fun k=>c.consts.length - k) 0 ⟨rfl,Nat.zero_le _,by simp⟩ ?_;rintro I M k x w6 z6 m ⟨rfl,hk,hall⟩ hz6 hS6 back
 clear hS4;obtain ⟨hb1,_,_,e1,_,hel1⟩:=h1.form
 cases e1
 (repeat (first | refine aA ?_ | refine aL ?_));refine aC (fun h=>?_) (fun h=>?_)
 ·have hlt:k < c.consts.length:=by omega
  obtain ⟨b,off,cs,rfl,⟨rfl,_⟩,hat⟩:=hel1 _ _ (getElem?_eq_getElem hlt);haveI:InR (k:Int) (c.consts.length:Nat):=⟨by omega,by omega⟩
  haveI:InI ((k:Int) + 1):=⟨by simp only [big] at hb1; omega⟩
  haveI:Fz zc b (off + (k:Int).toNat * 1) [.string c.consts[k]]:=⟨hat.mono hzc⟩
  (repeat (first | refine aA ?_ | refine aL ?_));refine aC (fun h=>?_) (fun h=>?_)
  ·exact hR _ _ _ _ ‹Res w1 zc [] _ _ _› (by
    have:bU c.consts[k] = false:=by unfold bU; rw [decide_eq_false (by omega)]
    rw [hlim,dG (p:=bU) hlt this]; simp)
  ·(repeat (refine aA ?_))
   exact back (k + 1) _ _ _ ⟨by simp,by omega,dl hlt hall (by unfold bU; rw [decide_eq_true (by omega)])⟩ (by (repeat (exact Le.refl _))) (by assumption) (by omega)
 have hc1:=dm hk (by omega) hall;rw [hc1,Bool.true_and] at hlim;clear back hall hc1;refine bG (fun (k:Nat) x=>x = .int .i64 k/\k <= c.tmpls.length/\(c.tmpls.take k).all kj = true) (fun k=>c.tmpls.length - k) 0 ⟨rfl,Nat.zero_le _,by simp⟩ ?_;rintro I M k x w7 z7 m ⟨rfl,hk,hall⟩ hz7 hS7 back
 clear hS6;obtain ⟨hb2,_,_,e2,_,hel2⟩:=h2.form
 cases e2
 (repeat (first | refine aA ?_ | refine aL ?_));refine aC (fun h=>?_) (fun h=>?_)
 ·have hlt:k < c.tmpls.length:=by omega
  obtain ⟨b,off,cs,rfl,⟨v9,rfl,hv9⟩,hat⟩:=hel2 _ _ (getElem?_eq_getElem hlt);obtain ⟨hb9,a9,c9,rfl,_,hel9⟩:=hv9.form;haveI:InR (k:Int) (c.tmpls.length:Nat):=⟨by omega,by omega⟩
  haveI:InI ((k:Int) + 1):=⟨by simp only [big] at hb2; omega⟩
  haveI:Fz zc b (off + (k:Int).toNat * 1) [.slice a9 c.tmpls[k].length c9]:=⟨hat.mono hzc⟩
  generalize hT:c.tmpls[k] = T at *;have hbad:kj T = false->bH c = false:=fun e=>by rw [hlim,dG (p:=kj) hlt (by rw [hT]; exact e)]; rfl
  (repeat (first | refine aA ?_ | refine aL ?_));refine aC (fun h=>?_) (fun h=>?_)
  ·exact hR _ _ _ _ ‹Res w1 zc [] _ _ _› (by rw [hbad]; unfold kj; rw [decide_eq_false (by omega)]; rfl)
  refine bG (fun (j:Nat) x=>x = .int .i64 j/\j <= T.length/\(T.take j).all (fun p=>bU p.text) = true) (fun j=>T.length - j) 0 ⟨rfl,Nat.zero_le _,by simp⟩ ?_;rintro I2 M2 j x w9 z9 m2 ⟨rfl,hj,hall2⟩ hz9 hS9 back2
  clear hS7;(repeat (first | refine aA ?_ | refine aL ?_));refine aC (fun h=>?_) (fun h=>?_)
  ·have hlt2:j < T.length:=by omega
   obtain ⟨b2,off2,cs,rfl,⟨rfl,_⟩,hat2⟩:=hel9 _ _ (getElem?_eq_getElem hlt2);haveI:InR (j:Int) (T.length:Nat):=⟨by omega,by omega⟩
   haveI:InI ((j:Int) + 1):=⟨by simp only [big] at hb9; omega⟩
   haveI:Fz zc b2 (off2 + (j:Int).toNat * 3) T[j].cells:=⟨hat2.mono hzc⟩
   haveI:Fz zc b2 (off2 + (j:Int).toNat * 3 + 1) [.string T[j].text]:=⟨(hat2.mono hzc).fld (i:=1) rfl rfl⟩
   (repeat (first | refine aA ?_ | refine aL ?_));refine aC (fun h=>?_) (fun h=>?_)
   ·exact hR _ _ _ _ ‹Res w1 zc [] _ _ _› (by
     rw [hbad];have:bU T[j].text = false:=by unfold bU; rw [decide_eq_false (by omega)]
     unfold kj;rw [dG (p:=fun p:PartM=>bU p.text) hlt2 this,Bool.and_false])
   ·(repeat (refine aA ?_))
    exact back2 (j + 1) _ _ _ ⟨by simp,by omega,dl hlt2 hall2 (by show bU T[j].text = true; unfold bU; rw [decide_eq_true (by omega)])⟩ (by (repeat (exact Le.refl _))) (by assumption) (by omega)
  ·have hc2:=dm hj (by omega) hall2
   (repeat (refine aA ?_));exact back (k + 1) _ _ z9 ⟨by simp,by omega,dl hlt hall (by rw [hT]; unfold kj; rw [hc2,decide_eq_true (by omega)]; rfl)⟩ (by (repeat (assumption))) hS9 (by omega)
 have hc1:=dm hk (by omega) hall;rw [hc1,Bool.true_and] at hlim;clear back hall hc1;refine bG (fun (k:Nat) x=>x = .int .i64 k/\k <= c.lists.length/\(c.lists.take k).all mJ = true) (fun k=>c.lists.length - k) 0 ⟨rfl,Nat.zero_le _,by simp⟩ ?_;rintro I M k x w10 z10 m ⟨rfl,hk,hall⟩ hz10 hS10 back
 clear hS7;obtain ⟨hb3,_,_,e3,_,hel3⟩:=h3.form
 cases e3
 (repeat (first | refine aA ?_ | refine aL ?_));refine aC (fun h=>?_) (fun h=>?_)
 ·have hlt:k < c.lists.length:=by omega
  obtain ⟨b,off,cs,rfl,⟨v9,rfl,hv9⟩,hat⟩:=hel3 _ _ (getElem?_eq_getElem hlt);obtain ⟨hb9,a9,c9,rfl,_,hel9⟩:=hv9.form;haveI:InR (k:Int) (c.lists.length:Nat):=⟨by omega,by omega⟩
  haveI:InI ((k:Int) + 1):=⟨by simp only [big] at hb3; omega⟩
  haveI:Fz zc b (off + (k:Int).toNat * 1) [.slice a9 c.lists[k].length c9]:=⟨hat.mono hzc⟩
  (repeat (first | refine aA ?_ | refine aL ?_));refine aC (fun h=>?_) (fun h=>?_)
  ·exact hR _ _ _ _ ‹Res w1 zc [] _ _ _› (by
    have:mJ c.lists[k] = false:=by unfold mJ; rw [decide_eq_false (by omega)]
    rw [hlim,dG (p:=mJ) hlt this]; rfl)
  ·(repeat (refine aA ?_))
   exact back (k + 1) _ _ _ ⟨by simp,by omega,dl hlt hall (by unfold mJ; rw [decide_eq_true (by omega)])⟩ (by (repeat (exact Le.refl _))) (by assumption) (by omega)
 have hc1:=dm hk (by omega) hall;rw [hc1,Bool.true_and] at hlim;clear back hall hc1;refine bG (fun (k:Nat) x=>x = .int .i64 k/\k <= c.labels.length/\(c.labels.take k).all (fun s=>bU s.name) = true) (fun k=>c.labels.length - k) 0 ⟨rfl,Nat.zero_le _,by simp⟩ ?_;rintro I M k x w11 z11 m ⟨rfl,hk,hall⟩ hz11 hS11 back
 clear hS10;obtain ⟨hb4,_,_,e4,_,hel4⟩:=h4.form
 cases e4
 (repeat (first | refine aA ?_ | refine aL ?_));refine aC (fun h=>?_) (fun h=>?_)
 ·have hlt:k < c.labels.length:=by omega
  obtain ⟨b,off,cs,rfl,⟨rfl,_⟩,hat⟩:=hel4 _ _ (getElem?_eq_getElem hlt);haveI:InR (k:Int) (c.labels.length:Nat):=⟨by omega,by omega⟩
  haveI:InI ((k:Int) + 1):=⟨by simp only [big] at hb4; omega⟩
  haveI:Fz zc b (off + (k:Int).toNat * 2 + 0) [.string c.labels[k].name]:=⟨(hat.mono hzc).fld (i:=0) rfl rfl⟩
  haveI:Fz zc b (off + (k:Int).toNat * 2) [.string c.labels[k].name]:=⟨(hat.mono hzc).fld (i:=0) rfl rfl⟩
  (repeat (first | refine aA ?_ | refine aL ?_));refine aC (fun h=>?_) (fun h=>?_)
  ·exact hR _ _ _ _ ‹Res w1 zc [] _ _ _› (by
    have:bU c.labels[k].name = false:=by unfold bU; rw [decide_eq_false (by omega)]
    rw [hlim,dG (p:=fun s:SpotM=>bU s.name) hlt this])
  ·(repeat (refine aA ?_))
   exact back (k + 1) _ _ _ ⟨by simp,by omega,dl hlt hall (by show bU c.labels[k].name = true; unfold bU; rw [decide_eq_true (by omega)])⟩ (by (repeat (exact Le.refl _))) (by assumption) (by omega)
 ·exact hR _ _ _ _ hS11 (by rw [hlim,dm hk (by omega) hall]))
instance {z:Z} {v:Value} {c:aH} [hc:fQ z v c]:PuZ z 51 #[v] (.bool (bH c)):=⟨fun z' w hz=>vp (hc.h.mono hz)⟩
end
section
theorem kK {α σ:Type} {f:σ->α->Bool × σ}:∀ (a b:List α) (s:σ),dx f s (a ++ b) = if (dx f s a).1 = true then dx f (dx f s a).2 b else dx f s a
 | [],b,s=>by simp [dx]
 | x :: a,b,s=>by
  rw [cons_append,eM,eM,show f s x = ((f s x).1,(f s x).2) from rfl]
  cases h:(f s x).1 with
  | false=>simp
  | true=>simp only; exact kK a b (f s x).2
theorem rk {α σ:Type} {f:σ->α->Bool × σ} {l:List α} {k:Nat} {s s':σ} (hk:k < l.length) (h:dx f s (l.take k) = (true,s')):(dx f s l).1 = true->(f s' l[k]).1 = true:=by
 intro ha;have:l = l.take k ++ (l[k] :: l.drop (k + 1)):=by rw [<- drop_eq_getElem_cons hk,take_append_drop]
 rw [this,kK,h] at ha;simp only [if_true] at ha;rw [eM,show f s' l[k] = ((f s' l[k]).1,(f s' l[k]).2) from rfl] at ha
 cases hx:(f s' l[k]).1 with
 | true=>rfl
 | false=>rw [hx] at ha; exact ha
theorem rm {α σ:Type} {f:σ->α->Bool × σ} {l:List α} {k:Nat} {s s':σ} (hk:k < l.length) (h:dx f s (l.take k) = (true,s')) (hx:(f s' l[k]).1 = true):dx f s (l.take (k + 1)) = (true,(f s' l[k]).2):=by
 rw [take_succ_eq_append_getElem hk,kK,h];simp only [if_true];rw [eM,show f s' l[k] = ((f s' l[k]).1,(f s' l[k]).2) from rfl,hx]
 rfl
def qa (c:aH):Bool:=c.consts.all cg && (c.tmpls.all ic && (c.lists.all gQ && ((dx (eV c.ins.length) 0 c.labels).1 && (dx jJ [] c.slots).1)))
theorem xh {c:aH}:dR c = (!decide (c.ins.length = 0) && qa c):=rfl
theorem ti {z:Z} {w:World} {v:Value} {c:aH} (hc:CodeR z v c):Fn1 52 #[v] z w fun _ r=>r = .bool (qa c):=fnA en52 (by
 intro hS R hR;unfold vc52;obtain ⟨a1,a2,a3,a4,a5,a6,k1,k2,k3,k4,k5,k6,rfl,h1,h2,h3,h4,h5,h6⟩:=hc.form;have hprt:qa c = (c.consts.all cg && (c.tmpls.all ic && (c.lists.all gQ && ((dx (eV c.ins.length) 0 c.labels).1 && (dx jJ [] c.slots).1)))):=rfl;have hb6:=h6.big;refine aP ?_;intro bc w1 hbc hS1;obtain ⟨zc,hzc,hS2,hatc⟩:=hS1.frz bc;have hR:∀ z' w' L' b,Res w1 zc [] w' z' L'->b = qa c->R (.bool b) w':=fun z' w' L' b k e=>by rw [e]; exact hR _ _ _ (hS2.comp k)
 have hS3:=hS2.self;clear hS hS1 hS2;haveI:Fz zc bc 0 [.slice a1 c.consts.length k1]:=⟨hatc.fld (i:=0) rfl rfl⟩
 haveI:Fz zc bc 1 [.slice a2 c.tmpls.length k2]:=⟨hatc.fld (i:=1) rfl rfl⟩
 haveI:Fz zc bc 2 [.slice a3 c.lists.length k3]:=⟨hatc.fld (i:=2) rfl rfl⟩
 haveI:Fz zc bc 3 [.slice a4 c.labels.length k4]:=⟨hatc.fld (i:=3) rfl rfl⟩
 haveI:Fz zc bc 4 [.slice a5 c.slots.length k5]:=⟨hatc.fld (i:=4) rfl rfl⟩
 haveI:Fz zc bc 5 [.slice a6 c.ins.length k6]:=⟨hatc.fld (i:=5) rfl rfl⟩
 refine bG (fun (k:Nat) x=>x = .int .i64 k/\k <= c.consts.length/\(c.consts.take k).all cg = true) (fun k=>c.consts.length - k) 0 ⟨rfl,Nat.zero_le _,by simp⟩ ?_;rintro I M k x w6 z6 m ⟨rfl,hk,hall⟩ hz6 hS6 back
 clear hS3;obtain ⟨hb1,_,_,e1,_,hel1⟩:=h1.form
 cases e1
 (repeat (first | refine aA ?_ | refine aL ?_));refine aC (fun h=>?_) (fun h=>?_)
 ·have hlt:k < c.consts.length:=by omega
  obtain ⟨b,off,cs,rfl,⟨rfl,_⟩,hat⟩:=hel1 _ _ (getElem?_eq_getElem hlt);haveI:InR (k:Int) (c.consts.length:Nat):=⟨by omega,by omega⟩
  haveI:InI ((k:Int) + 1):=⟨by simp only [big] at hb1; omega⟩
  haveI:Fz zc b (off + (k:Int).toNat * 1) [.string c.consts[k]]:=⟨hat.mono hzc⟩
  (repeat (first | refine aA ?_ | (refine aN ?_; intro _ _ _ _) | refine aL ?_));refine aU (fun h=>?_) (fun h=>?_)
  ·exact hR _ _ _ _ ‹Res w1 zc [] _ _ _› (by rw [hprt,dG (p:=cg) hlt h]; rfl)
  ·(repeat (refine aA ?_))
   exact back (k + 1) _ _ _ ⟨by simp,by omega,dl hlt hall h⟩ (by (repeat (assumption))) (by assumption) (by omega)
 have hc1:=dm hk (by omega) hall;rw [hc1,Bool.true_and] at hprt;clear back hall hc1;refine bG (fun (k:Nat) x=>x = .int .i64 k/\k <= c.tmpls.length/\(c.tmpls.take k).all ic = true) (fun k=>c.tmpls.length - k) 0 ⟨rfl,Nat.zero_le _,by simp⟩ ?_;rintro I M k x w7 z7 m ⟨rfl,hk,hall⟩ hz7 hS7 back
 clear hS6;obtain ⟨hb2,_,_,e2,_,hel2⟩:=h2.form
 cases e2
 (repeat (first | refine aA ?_ | refine aL ?_));refine aC (fun h=>?_) (fun h=>?_)
 ·have hlt:k < c.tmpls.length:=by omega
  obtain ⟨b,off,cs,rfl,⟨v9,rfl,hv9⟩,hat⟩:=hel2 _ _ (getElem?_eq_getElem hlt);obtain ⟨hb9,a9,c9,rfl,_,hel9⟩:=hv9.form;haveI:InR (k:Int) (c.tmpls.length:Nat):=⟨by omega,by omega⟩
  haveI:InI ((k:Int) + 1):=⟨by simp only [big] at hb2; omega⟩
  haveI:Fz zc b (off + (k:Int).toNat * 1) [.slice a9 c.tmpls[k].length c9]:=⟨hat.mono hzc⟩
  generalize hT:c.tmpls[k] = T at *;have hbad:ic T = false->qa c = false:=fun e=>by rw [hprt,dG (p:=ic) hlt (by rw [hT]; exact e)]; rfl
  refine bG (fun (j:Nat) x=>x = .int .i64 j/\j <= T.length/\(T.take j).all gO = true) (fun j=>T.length - j) 0 ⟨rfl,Nat.zero_le _,by simp⟩ ?_;rintro I2 M2 j x w9 z9 m2 ⟨rfl,hj,hall2⟩ hz9 hS9 back2
  clear hS7;(repeat (first | refine aA ?_ | refine aL ?_));refine aC (fun h=>?_) (fun h=>?_)
  ·have hlt2:j < T.length:=by omega
   obtain ⟨b2,off2,cs,rfl,⟨rfl,_⟩,hat2⟩:=hel9 _ _ (getElem?_eq_getElem hlt2);haveI:InR (j:Int) (T.length:Nat):=⟨by omega,by omega⟩
   haveI:InI ((j:Int) + 1):=⟨by simp only [big] at hb9; omega⟩
   haveI:Fz zc b2 (off2 + (j:Int).toNat * 3) T[j].cells:=⟨hat2.mono hzc⟩
   (repeat (first | refine aA ?_ | (refine aN ?_; intro _ _ _ _) | refine bV ?_ | refine aL ?_));refine aU (fun h=>?_) (fun h=>?_)
   ·exact hR _ _ _ _ ‹Res w1 zc [] _ _ _› (by
     rw [hbad];unfold ic;rw [dG (p:=gO) hlt2 h])
   ·(repeat (refine aA ?_))
    exact back2 (j + 1) _ _ _ ⟨by simp,by omega,dl hlt2 hall2 h⟩ (by (repeat (assumption))) (by assumption) (by omega)
  ·have hc2:=dm hj (by omega) hall2
   (repeat (refine aA ?_));exact back (k + 1) _ _ z9 ⟨by simp,by omega,dl hlt hall (by rw [hT]; exact hc2)⟩ (by (repeat (assumption))) hS9 (by omega)
 have hc1:=dm hk (by omega) hall;rw [hc1,Bool.true_and] at hprt;clear back hall hc1;refine bG (fun (k:Nat) x=>x = .int .i64 k/\k <= c.lists.length/\(c.lists.take k).all gQ = true) (fun k=>c.lists.length - k) 0 ⟨rfl,Nat.zero_le _,by simp⟩ ?_;rintro I M k x w10 z10 m ⟨rfl,hk,hall⟩ hz10 hS10 back
 clear hS7;obtain ⟨hb3,_,_,e3,_,hel3⟩:=h3.form
 cases e3
 (repeat (first | refine aA ?_ | refine aL ?_));refine aC (fun h=>?_) (fun h=>?_)
 ·have hlt:k < c.lists.length:=by omega
  obtain ⟨b,off,cs,rfl,⟨v9,rfl,hv9⟩,hat⟩:=hel3 _ _ (getElem?_eq_getElem hlt);obtain ⟨hb9,a9,c9,rfl,_,hel9⟩:=hv9.form;haveI:InR (k:Int) (c.lists.length:Nat):=⟨by omega,by omega⟩
  haveI:InI ((k:Int) + 1):=⟨by simp only [big] at hb3; omega⟩
  haveI:Fz zc b (off + (k:Int).toNat * 1) [.slice a9 c.lists[k].length c9]:=⟨hat.mono hzc⟩
  generalize hT:c.lists[k] = T at *;have hbad:gQ T = false->qa c = false:=fun e=>by rw [hprt,dG (p:=gQ) hlt (by rw [hT]; exact e)]; rfl
  (repeat (first | refine aA ?_ | refine aL ?_));refine aC (fun h=>?_) (fun h=>?_)
  ·exact hR _ _ _ _ ‹Res w1 zc [] _ _ _› (by rw [hbad]; unfold gQ; rw [decide_eq_false (by omega)]; rfl)
  refine bG (fun (j:Nat) x=>x = .int .i64 j/\j <= T.length/\(T.take j).all (fun x=>jh x.name) = true) (fun j=>T.length - j) 0 ⟨rfl,Nat.zero_le _,by simp⟩ ?_;rintro I2 M2 j x w9 z9 m2 ⟨rfl,hj,hall2⟩ hz9 hS9 back2
  clear hS10;(repeat (first | refine aA ?_ | refine aL ?_));refine aC (fun h=>?_) (fun h=>?_)
  ·have hlt2:j < T.length:=by omega
   obtain ⟨b2,off2,cs,rfl,⟨rfl,_⟩,hat2⟩:=hel9 _ _ (getElem?_eq_getElem hlt2);haveI:InR (j:Int) (T.length:Nat):=⟨by omega,by omega⟩
   haveI:InI ((j:Int) + 1):=⟨by simp only [big] at hb9; omega⟩
   haveI:Fz zc b2 (off2 + (j:Int).toNat * 2 + 0) [.string T[j].name]:=⟨(hat2.mono hzc).fld (i:=0) rfl rfl⟩
   haveI:Fz zc b2 (off2 + (j:Int).toNat * 2) [.string T[j].name]:=⟨(hat2.mono hzc).fld (i:=0) rfl rfl⟩
   (repeat (first | refine aA ?_ | (refine aN ?_; intro _ _ _ _) | refine aL ?_));refine aU (fun h=>?_) (fun h=>?_)
   ·exact hR _ _ _ _ ‹Res w1 zc [] _ _ _› (by
     rw [hbad];unfold gQ;rw [dG (p:=fun x:ItemM=>jh x.name) hlt2 h,Bool.and_false])
   ·(repeat (refine aA ?_))
    exact back2 (j + 1) _ _ _ ⟨by simp,by omega,dl hlt2 hall2 h⟩ (by (repeat (assumption))) (by assumption) (by omega)
  ·have hc2:=dm hj (by omega) hall2
   (repeat (refine aA ?_));exact back (k + 1) _ _ z9 ⟨by simp,by omega,dl hlt hall (by rw [hT]; unfold gQ; rw [hc2,decide_eq_true (by omega)]; rfl)⟩ (by (repeat (assumption))) hS9 (by omega)
 have hc1:=dm hk (by omega) hall;rw [hc1,Bool.true_and] at hprt;clear back hall hc1;refine bG (fun (k:Nat) x=>x = .int .i64 k/\k <= c.labels.length/\∃ last:Int,dx (eV c.ins.length) 0 (c.labels.take k) = (true,last)/\0 <= last/\(k = 0->last = 0)/\∀ s,0 < k->c.labels[k - 1]? = some s->last = s.at_) (fun k=>c.labels.length - k) 0 ⟨rfl,Nat.zero_le _,0,rfl,by omega,fun _=>rfl,fun _ h=>by omega⟩ ?_;rintro I M k x w11 z11 m ⟨rfl,hk,last,hall,hl0,hl1,hl2⟩ hz11 hS11 back
 clear hS10;obtain ⟨hb4,_,_,e4,_,hel4⟩:=h4.form
 cases e4
 (repeat (first | refine aA ?_ | refine aL ?_));refine aC (fun h=>?_) (fun h=>?_)
 ·have hlt:k < c.labels.length:=by omega
  obtain ⟨b,off,cs,rfl,⟨rfl,_⟩,hat⟩:=hel4 _ _ (getElem?_eq_getElem hlt);haveI:InR (k:Int) (c.labels.length:Nat):=⟨by omega,by omega⟩
  haveI:InI ((k:Int) + 1):=⟨by simp only [big] at hb4; omega⟩
  haveI:InI ((c.ins.length:Nat) - 1:Int):=dJ hb6;haveI:Fz zc b (off + (k:Int).toNat * 2 + 0) [.string c.labels[k].name]:=⟨(hat.mono hzc).fld (i:=0) rfl rfl⟩
  haveI:Fz zc b (off + (k:Int).toNat * 2) [.string c.labels[k].name]:=⟨(hat.mono hzc).fld (i:=0) rfl rfl⟩
  haveI:Fz zc b (off + (k:Int).toNat * 2 + 1) [.int .i64 c.labels[k].at_]:=⟨(hat.mono hzc).fld (i:=1) rfl rfl⟩
  have hstep:=fun h=>rk hlt hall h
  have hnext:=fun h=>rm hlt hall h
  have hget:c.labels[k]? = some c.labels[k]:=getElem?_eq_getElem hlt;generalize c.labels[k] = S at *;intro Kc hKc;have mc:∀ z' w' b,Res w1 zc [] w' z' []->Le z11 z'->b = !(eV c.ins.length last S).1->Kc [.bool b] w':=by
   intro z' w' b hS' hz' hb;refine hKc _ _ fun _=>?_
   clear hS11
   cases hx:(eV c.ins.length last S).1 with
   | false=>
    rw [hx] at hb;subst hb;refine ah (hR _ _ _ _ hS' ?_);rw [hprt]
    cases ha:(dx (eV c.ins.length) 0 c.labels).1 with
    | false=>rfl
    | true=>rw [hstep ha] at hx; cases hx
   | true=>
    rw [hx] at hb;subst hb;refine aj ?_;refine aA ?_;refine back (k + 1) _ _ _ ⟨by simp,by omega,(eV c.ins.length last S).2,hnext hx,?_,fun h=>by omega,fun s _ hs=>?_⟩ hz' hS' (by omega)
    ·simp only [eV]; omega
    ·rw [Nat.add_sub_cancel,hget] at hs
     cases hs
     simp only [eV,Bool.and_eq_true,inB_iff] at hx;simp only [eV]; omega
  clear hKc back;have hlab:(eV c.ins.length last S).1 = (cg S.name && inB S.at_ last ((c.ins.length:Int) - 1)):=rfl;(repeat (first | (refine iDr ?_; intro _ _) | refine aK ?_ | (refine aN ?_; intro _ _ _ _) | refine cZ ?_ | refine bz ?_));rename_i hS12;refine aU (fun h=>?_) (fun h=>?_)
  ·exact mc _ _ _ hS12 (by (repeat (assumption))) (by rw [hlab,h]; rfl)
  rw [h,Bool.true_and] at hlab;(repeat (first | refine aK ?_ | (refine aN ?_; intro _ _ _ _) | refine cZ ?_ | refine bz ?_));rename_i hS13;refine aU (fun h=>?_) (fun h=>?_)
  ·refine mc _ _ _ hS13 (by (repeat (first | assumption | refine Le.trans ?_ (by assumption:Le _ _)))) ?_
   rw [hlab];rw [iq] at h;rw [show inB S.at_ last ((c.ins.length:Int) - 1) = false by rw [iq]; omega]; rfl
  have hin:=inB_iff.1 h;(repeat (refine aK ?_));refine aC (fun h=>?_) (fun h=>?_)
  ·have hlt1:k - 1 < c.labels.length:=by omega
   obtain ⟨b',off',cs,e',⟨rfl,_⟩,hat'⟩:=hel4 _ _ (getElem?_eq_getElem hlt1)
   cases e'
   haveI:InR ((k:Int) - 1) (c.labels.length:Nat):=⟨by omega,by omega⟩
   haveI:InI ((k:Int) - 1):=⟨by simp only [big] at hb4; omega⟩
   have hp:=hl2 _ (by omega) (getElem?_eq_getElem hlt1);haveI:Fz zc b (off + ((k:Int) - 1).toNat * 2 + 1) [.int .i64 last]:=⟨by
    rw [hp,show ((k:Int) - 1).toNat = k - 1 by omega]; exact (hat'.mono hzc).fld (i:=1) rfl rfl⟩
   (repeat (first | refine aK ?_ | refine bz ?_));refine mc _ _ _ (by assumption) (by (repeat (first | assumption | refine Le.trans ?_ (by assumption:Le _ _)))) ?_;rw [hlab,Bool.eq_iff_iff,Bool.not_eq_true',iq,decide_eq_true_eq]; omega
  ·refine mc _ _ _ (by assumption) (by (repeat (first | assumption | refine Le.trans ?_ (by assumption:Le _ _)))) ?_
   rw [hlab,show inB S.at_ last ((c.ins.length:Int) - 1) = true by rw [inB_iff,hl1 (by omega)]; omega]; rfl
 have hc1:(dx (eV c.ins.length) 0 c.labels).1 = true:=by
  rw [take_of_length_le (by omega)] at hall;rw [hall]
 rw [hc1,Bool.true_and] at hprt;clear back hall hc1 hl0 hl1 hl2;refine bG (fun (k:Nat) x=>x = .int .i64 k/\k <= c.slots.length/\∃ h:List ByteArray,dx jJ [] (c.slots.take k) = (true,h)/\∀ x,x ∈ h ↔ x ∈ c.slots.take k) (fun k=>c.slots.length - k) 0 ⟨rfl,Nat.zero_le _,[],rfl,by simp⟩ ?_;rintro I M k x w15 z15 m ⟨rfl,hk,had,hall,hmem⟩ hz15 hS15 back
 clear hS11;obtain ⟨hb5,_,_,e5,_,hel5⟩:=h5.form
 cases e5
 (repeat (first | refine aA ?_ | refine aL ?_));refine aC (fun h=>?_) (fun h=>?_)
 ·have hlt:k < c.slots.length:=by omega
  obtain ⟨b,off,cs,rfl,⟨rfl,_⟩,hat⟩:=hel5 _ _ (getElem?_eq_getElem hlt);haveI:InR (k:Int) (c.slots.length:Nat):=⟨by omega,by omega⟩
  haveI:InI ((k:Int) + 1):=⟨by simp only [big] at hb5; omega⟩
  haveI:Fz zc b (off + (k:Int).toNat * 1) [.string c.slots[k]]:=⟨hat.mono hzc⟩
  have hstep:=fun h=>rk hlt hall h
  have hnext:=fun h=>rm hlt hall h
  have htk:=take_succ_eq_append_getElem hlt;generalize c.slots[k] = S at *;have hbad:(jJ had S).1 = false->qa c = false:=fun e=>by
   rw [hprt]
   cases ha:(dx jJ [] c.slots).1 with
   | false=>rfl
   | true=>rw [hstep ha] at e; cases e
  have hslo:(jJ had S).1 = (decide (aY S = 2) && !dp had S):=rfl;(repeat (first | refine aA ?_ | (refine aN ?_; intro _ _ _ _) | refine aL ?_));refine eO (fun h=>?_) (fun h=>?_)
  ·exact hR _ _ _ _ ‹Res w1 zc [] _ _ _› (by rw [hbad]; rw [hslo,decide_eq_false h]; rfl)
  rw [decide_eq_true h,Bool.true_and] at hslo;refine bG (fun (j:Nat) x=>x = .int .i64 j/\j <= k/\∀ i,i < j->c.slots[i]? ≠ some S) (fun j=>k - j) 0 ⟨rfl,Nat.zero_le _,fun _ h=>by omega⟩ ?_;rintro I2 M2 j x w9 z9 m2 ⟨rfl,hj,hall2⟩ hz9 hS9 back2
  clear hS15;(repeat (refine aA ?_));refine aC (fun h=>?_) (fun h=>?_)
  ·have hlt2:j < c.slots.length:=by omega
   obtain ⟨b',off',cs,e',⟨rfl,_⟩,hat'⟩:=hel5 _ _ (getElem?_eq_getElem hlt2)
   cases e'
   haveI:InR (j:Int) (c.slots.length:Nat):=⟨by omega,by omega⟩
   haveI:InI ((j:Int) + 1):=⟨by simp only [big] at hb5; omega⟩
   haveI:Fz zc b (off + (j:Int).toNat * 1) [.string c.slots[j]]:=⟨hat'.mono hzc⟩
   (repeat (first | (refine iDr ?_; intro _ _) | refine aK ?_ | refine bz ?_));refine aC (fun h=>?_) (fun h=>?_)
   ·refine hR _ _ _ _ ‹Res w1 zc [] _ _ _› ?_
    rw [hbad];rw [hslo,show dp had S = true from memK_iff.2 ((hmem S).2 (by rw [<- h]; exact List.mem_take_iff_getElem.2 ⟨j,by omega,rfl⟩))]; rfl
   ·(repeat (refine aA ?_))
    refine back2 (j + 1) _ _ _ ⟨by simp,by omega,fun i hi=>?_⟩ (by (repeat (exact Le.refl _))) (by assumption) (by omega)
    by_cases e:i = j
    ·subst e
     rw [getElem?_eq_getElem hlt2];exact fun e=>h (by cases e; rfl)
    ·exact hall2 i (by omega)
  ·have hno:dp had S = false:=by
    rw [<- Bool.not_eq_true,memK_iff,hmem];intro hS0;obtain ⟨i,hi,e⟩:=List.mem_take_iff_getElem.1 hS0;exact hall2 i (by omega) (by rw [getElem?_eq_getElem (by omega),e])
   have hx:(jJ had S).1 = true:=by rw [hslo,hno]; rfl
   (repeat (refine aA ?_));refine back (k + 1) _ _ z9 ⟨by simp,by omega,_,hnext hx,fun x=>?_⟩ (by (repeat (first | assumption | refine Le.trans ?_ (by assumption:Le _ _)))) hS9 (by omega)
   show x ∈ dv had S ↔ _
   rw [BC,hmem,htk,mem_append,mem_singleton];exact Or.comm
 ·refine hR _ _ _ _ hS15 ?_
  rw [take_of_length_le (by omega)] at hall;rw [hprt,hall])
instance {z:Z} {v:Value} {c:aH} [hc:fQ z v c]:PuZ z 52 #[v] (.bool (qa c)):=⟨fun z' w hz=>ti (hc.h.mono hz)⟩
end
section
def on1 (c:aH) (n:Nat):List Nat:=(ey c.ins.length n (aX c n)).map fun p=>p.1
def lO (c:aH) (n:Nat):Bool:=cX (aX c n) && (inB (aX c n).a 0 ((c.ins.length:Int) - 1) && (decide ((on1 c n).length = 0) || !decide ((n:Int) + 1 = (aX c n).a)))
theorem zd {c:aH} {n:Nat}:on1 c n = if (!(aG (aX c n).op).final && decide (n + 1 < c.ins.length)) = true then [n + 1] else []:=by
 unfold on1 ey; split <;> rfl
theorem zh {c:aH} {n:Nat}:gP c n = on1 c n ++ if lO c n = true then [(aX c n).a.toNat] else []:=by
 unfold gP dD;rw [foldl_append];unfold lO;rw [zd];unfold ey jW;generalize aX c n = i
 by_cases h1:(!(aG i.op).final && decide (n + 1 < c.ins.length)) = true
 ·rw [if_pos h1,if_pos h1]
  simp only [foldl_cons,foldl_nil,length_singleton];have e1:dv ([]:List Nat) (n + 1) = [n + 1]:=by simp [dv,dp]
  rw [e1]
  by_cases h2:(cX i && inB i.a 0 ((c.ins.length:Int) - 1)) = true
  ·rw [if_pos h2]
   simp only [foldl_cons,foldl_nil];rw [Bool.and_eq_true] at h2;have hin:=inB_iff.1 h2.2;rw [h2.1,h2.2]
   by_cases h3:(n:Int) + 1 = i.a
   ·rw [if_neg (by simp [h3])]
    have:n + 1 = i.a.toNat:=by omega
    simp [dv,dp,this]
   ·rw [if_pos (by simp [h3])]
    have:¬ n + 1 = i.a.toNat:=by omega
    simp [dv,dp,this]
  ·rw [if_neg h2,if_neg]
   ·simp
   ·intro h; rw [<- Bool.and_assoc,Bool.and_eq_true] at h; exact h2 h.1
 ·rw [if_neg h1,if_neg h1]
  simp only [foldl_nil,length_nil]
  by_cases h2:(cX i && inB i.a 0 ((c.ins.length:Int) - 1)) = true
  ·rw [if_pos h2,if_pos (by rw [Bool.and_eq_true] at h2; rw [h2.1,h2.2]; rfl)]
   simp [dv,dp]
  ·rw [if_neg h2,if_neg]
   ·simp
   ·intro h; rw [<- Bool.and_assoc,Bool.and_eq_true] at h; exact h2 h.1
theorem vO {z:Z} {w:World} {v:Value} {c:aH} {at_:Int} (hc:CodeR z v c):Fn1 31 #[v,.int .i64 at_] z w fun z' r=>SlR El.int z' r (gq (ny c at_)):=Fn1.intro fun hS=>en31 (by
 unfold vc31;obtain ⟨a1,a2,a3,a4,a5,a6,k1,k2,k3,k4,k5,k6,rfl,h1,h2,h3,h4,h5,h6⟩:=hc.form;haveI:=dJ h6.big;generalize hRR:(fun (v:Value) (w':World)=>∃ z' L',Res w z [] w' z' L'/\SlR El.int z' v (gq (ny c at_))) = RR;have hR:∀ z' w' L' r,Res w z [] w' z' L'->SlR El.int z' r (gq (ny c at_))->RR r w':=fun z' w' L' r k hd=>by rw [<- hRR]; exact ⟨z',L',k,hd⟩
 clear hRR;refine aP ?_;intro bc w1 hbc hS1;clear hS;(repeat (first | refine aA ?_ | refine aE ?_ | (refine JC ?_; intro _ _ _ _)));rename_i z4 w4 hz4 hS4;have hbad:(bif bif decide ((c.ins.length:Int) > 12000) then true else decide ((c.labels.length:Int) > 3000) then true else !inB at_ 0 ((c.ins.length:Int) - 1)) = mE c at_:=by
  rw [mE,show decide ((c.ins.length:Int) > 12000) = decide (c.ins.length > 12000) from decide_eq_decide.2 (by omega),show decide ((c.labels.length:Int) > 3000) = decide (c.labels.length > 3000) from decide_eq_decide.2 (by omega)]
  cases decide (c.ins.length > 12000) <;> cases decide (c.labels.length > 3000) <;> rfl
 rw [hbad];refine aO (fun e=>?_) (fun e=>?_)
 ·exact hR _ _ _ _ hS4 (by rw [ny,if_pos e]; exact SlR.nil)
 have hnx:ny c at_ = gP c at_.toNat:=by rw [ny,if_neg (by rw [e]; simp)]
 have hin:inB at_ 0 ((c.ins.length:Int) - 1) = true:=by
  revert e; rw [mE]; cases decide (c.ins.length > 12000) <;> cases decide (c.labels.length > 3000) <;> simp
 have hin':=inB_iff.1 hin;obtain ⟨n,rfl⟩:∃ n:Nat,at_ = n:=⟨at_.toNat,by omega⟩
 rw [Int.toNat_natCast] at hnx;rw [hnx,zh] at hR;clear hbad;have hi2:c.ins[n]? = some (aX c n):=(by rw [aX,getD_eq_getElem?_getD,getElem?_eq_getElem (by omega)]; rfl)
 obtain ⟨hb6,_,_,e6,_,hel6⟩:=h6.form
 cases e6
 obtain ⟨b6,o6,cs6,rfl,hr6,hat6⟩:=hel6 _ _ hi2
 cases hr6
 haveI:Fz z b6 (o6 + (n:Int).toNat * 4) (aX c n).cells:=⟨by rw [Int.toNat_natCast]; exact hat6⟩
 haveI:InR (n:Int) (c.ins.length:Nat):=⟨by omega,by omega⟩
 haveI:InI ((n:Int) + 1):=⟨by simp only [big] at hb6; omega⟩
 have hjmp:lO c n = (cX (aX c n) && (inB (aX c n).a 0 ((c.ins.length:Int) - 1) && (decide ((on1 c n).length = 0) || !decide ((n:Int) + 1 = (aX c n).a)))):=rfl;have hon:=@zd c n;obtain ⟨_,_,hfin⟩:=nD (aX c n).op;have hnf:(aG (aX c n).op).final = (cO (aX c n).op && (aG (aX c n).op).final):=by
  unfold aG; cases cO (aX c n).op <;> rfl
 generalize hg:aX c n = i at *;clear hz4;(repeat (first | refine aA ?_ | refine aE ?_ | refine bV ?_));refine ak ?_;intro b5 w5 hb5 hS5;refine aF ?_;intro w6 hS6;(repeat (first | refine aA ?_ | refine ae ?_ | (refine aN ?_; intro _ _ _ _)));rename_i hS7;refine ak ?_;intro b7 w8 hb7 hS8;refine aF ?_;intro w9 hS9;clear hS1 hS4 hS5 hS6 hS7 hS8;intro Ka hKa;have ma:∀ z' w' B v,OwnSl 3 1 B v (on1 c n).length (du (on1 c n))->Res w z [] w' z' (B ++ [(b7,.cells (bM i.op).cells.toArray 108 (0,0)),(b5,.cells i.cells.toArray 38 (0,0)),(bc,.cells (dq a1 a2 a3 a4 a5 (some ⟨b6,o6,none⟩) k1 k2 k3 k4 k5 k6 c).toArray 28 (0,0))])->Ka [v] w':=by
  intro z' w' B v ho hS';refine hKa _ _ fun _=>?_
  clear hKa hS9;intro Kb hKb;have hl1:(on1 c n).length <= 1:=by rw [hon]; split <;> simp
  have mb:∀ z'' w'' B' v',OwnSl 3 1 B' v' (on1 c n ++ if lO c n = true then [i.a.toNat] else []).length (du (on1 c n ++ if lO c n = true then [i.a.toNat] else []))->Res w z [] w'' z'' (B' ++ [(b7,.cells (bM i.op).cells.toArray 108 (0,0)),(b5,.cells i.cells.toArray 38 (0,0)),(bc,.cells (dq a1 a2 a3 a4 a5 (some ⟨b6,o6,none⟩) k1 k2 k3 k4 k5 k6 c).toArray 28 (0,0))])->Kb [v'] w'':=by
   intro z'' w'' B' v' ho' hS'';refine hKb _ _ fun _=>?_
   obtain ⟨z3,_,h3,h4⟩:=lS hS'' ho' (by rw [length_append]; simp only [big]; split <;> simp <;> omega);exact hR _ _ _ _ h3 h4
  clear hKb hR;intro Kc hKc;have mc:∀ z'' w'' q,Res w z [] w'' z'' (B ++ [(b7,.cells (bM i.op).cells.toArray 108 (0,0)),(b5,.cells i.cells.toArray 38 (0,0)),(bc,.cells (dq a1 a2 a3 a4 a5 (some ⟨b6,o6,none⟩) k1 k2 k3 k4 k5 k6 c).toArray 28 (0,0))])->q = lO c n->Kc [.bool q] w'':=by
   intro z'' w'' q hS'' hq;refine hKc _ _ fun _=>?_
   clear hKc hS';subst hq
   cases hj:lO c n with
   | true=>
    rw [hj] at mb;have ha0:0 <= i.a:=by
     have:=hjmp;rw [hj] at this;have:=this.symm;rw [Bool.and_eq_true,Bool.and_eq_true,inB_iff] at this;exact this.2.1.1
    refine ah ?_;(repeat (first | refine aA ?_ | refine aE ?_));refine cb hS'' ho (by simp only [room]; omega) (by simp only [room]; omega) (by decide) ?_;intro B' v' w3 ho3 hS3;refine mb _ _ _ _ ?_ hS3;rw [if_pos rfl,length_append,cP];have:du [i.a.toNat] = [.int .i64 i.a]:=by
     show [Value.int .i64 ((i.a.toNat:Nat):Int)] = _
     rw [show ((i.a.toNat:Nat):Int) = i.a by omega]
    rw [this];exact ho3
   | false=>
    rw [hj] at mb;refine aj ?_;refine mb _ _ _ _ ?_ hS''
    simpa using ho
  clear hKc mb
  by_cases h1:(!(aG i.op).final && decide (n + 1 < c.ins.length)) = true
  ·rw [if_pos h1] at hon
   have hlen:(on1 c n).length = 1:=by rw [hon]; rfl
   rw [hlen] at hjmp;rw [hon] at ho;have ho2:OwnSl 3 1 B v (0 + 1) ([] ++ [.int .i64 ((n + 1:Nat):Int)]):=ho;obtain ⟨bo,cap,C,rfl,hcap,rfl,hC,_⟩:=OwnSl.pop ho2;obtain ⟨C,rfl⟩:∃ l:List Value,C = l.toArray:=⟨C.toList,by simp⟩
   haveI:Get C 0 (.int .i64 ((n + 1:Nat):Int)):=⟨by simpa using hC⟩
   haveI:nb 0 (Int.toNat 0 * 1) 0:=⟨rfl⟩
   simp only [cons_append,nil_append] at hS' mc;haveI:InR 0 ((0 + 1:Nat):Int):=⟨by decide,by decide⟩
   (repeat (first | (refine iDr ?_; intro _ _) | refine aK ?_ | refine aW ?_));refine aC (fun e1=>?_) (fun e1=>?_)
   ·have hjo:cX i = true:=by unfold cX; simp [e1]
    rw [hjo,Bool.true_and] at hjmp;(repeat (first | refine aK ?_ | refine aW ?_ | refine bN ?_ | (refine aN ?_; intro _ _ _ _)));refine aO (fun e5=>?_) (fun e5=>?_)
    ·rw [e5,Bool.true_and] at hjmp
     (repeat (first | refine aK ?_ | refine aW ?_ | refine aj ?_));exact mc _ _ _ (by assumption) (by rw [hjmp]; simp)
    ·exact mc _ _ _ (by assumption) (by rw [hjmp,e5]; rfl)
   (repeat (first | refine aK ?_ | refine aW ?_));refine aC (fun e2=>?_) (fun e2=>?_)
   ·have hjo:cX i = true:=by unfold cX; simp [e2]
    rw [hjo,Bool.true_and] at hjmp;(repeat (first | refine aK ?_ | refine aW ?_ | refine bN ?_ | (refine aN ?_; intro _ _ _ _)));refine aO (fun e5=>?_) (fun e5=>?_)
    ·rw [e5,Bool.true_and] at hjmp
     (repeat (first | refine aK ?_ | refine aW ?_ | refine aj ?_));exact mc _ _ _ (by assumption) (by rw [hjmp]; simp)
    ·exact mc _ _ _ (by assumption) (by rw [hjmp,e5]; rfl)
   (repeat (first | refine aK ?_ | refine aW ?_));refine aC (fun e3=>?_) (fun e3=>?_)
   ·have hjo:cX i = true:=by unfold cX; simp [e3]
    rw [hjo,Bool.true_and] at hjmp;(repeat (first | refine aK ?_ | refine aW ?_ | refine bN ?_ | (refine aN ?_; intro _ _ _ _)));refine aO (fun e5=>?_) (fun e5=>?_)
    ·rw [e5,Bool.true_and] at hjmp
     (repeat (first | refine aK ?_ | refine aW ?_ | refine aj ?_));exact mc _ _ _ (by assumption) (by rw [hjmp]; simp)
    ·exact mc _ _ _ (by assumption) (by rw [hjmp,e5]; rfl)
   exact mc _ _ _ (by assumption) (by rw [hjmp]; unfold cX; simp [e1,e2,e3])
  ·rw [if_neg h1] at hon
   have hlen:(on1 c n).length = 0:=by rw [hon]; rfl
   rw [hlen] at hjmp;rw [hon] at ho;obtain ⟨av,cap,rfl,_⟩:=ho.form;have hlen0:([]:List Nat).length = 0:=rfl;rw [hlen0] at *;(repeat (first | (refine iDr ?_; intro _ _) | refine aK ?_ | refine aW ?_));refine aC (fun e1=>?_) (fun e1=>?_)
   ·have hjo:cX i = true:=by unfold cX; simp [e1]
    rw [hjo,Bool.true_and] at hjmp;(repeat (first | refine aK ?_ | refine aW ?_ | refine bN ?_ | (refine aN ?_; intro _ _ _ _)));refine aO (fun e5=>?_) (fun e5=>?_)
    ·rw [e5,Bool.true_and] at hjmp
     (repeat (first | refine aK ?_ | refine ah ?_));exact mc _ _ _ (by assumption) (by rw [hjmp]; simp)
    ·exact mc _ _ _ (by assumption) (by rw [hjmp,e5]; rfl)
   (repeat (first | refine aK ?_ | refine aW ?_));refine aC (fun e2=>?_) (fun e2=>?_)
   ·have hjo:cX i = true:=by unfold cX; simp [e2]
    rw [hjo,Bool.true_and] at hjmp;(repeat (first | refine aK ?_ | refine aW ?_ | refine bN ?_ | (refine aN ?_; intro _ _ _ _)));refine aO (fun e5=>?_) (fun e5=>?_)
    ·rw [e5,Bool.true_and] at hjmp
     (repeat (first | refine aK ?_ | refine ah ?_));exact mc _ _ _ (by assumption) (by rw [hjmp]; simp)
    ·exact mc _ _ _ (by assumption) (by rw [hjmp,e5]; rfl)
   (repeat (first | refine aK ?_ | refine aW ?_));refine aC (fun e3=>?_) (fun e3=>?_)
   ·have hjo:cX i = true:=by unfold cX; simp [e3]
    rw [hjo,Bool.true_and] at hjmp;(repeat (first | refine aK ?_ | refine aW ?_ | refine bN ?_ | (refine aN ?_; intro _ _ _ _)));refine aO (fun e5=>?_) (fun e5=>?_)
    ·rw [e5,Bool.true_and] at hjmp
     (repeat (first | refine aK ?_ | refine ah ?_));exact mc _ _ _ (by assumption) (by rw [hjmp]; simp)
    ·exact mc _ _ _ (by assumption) (by rw [hjmp,e5]; rfl)
   exact mc _ _ _ (by assumption) (by rw [hjmp]; unfold cX; simp [e1,e2,e3])
 clear hKa;rw [<- hfin] at hon;have hnf':(bif !cO i.op then true else !(bM i.op).final) = !(bM i.op).final:=by
  rw [hfin,hnf]; cases cO i.op <;> simp
 (repeat (first | refine aA ?_ | (refine JC ?_; intro _ _ _ _)));rename_i hS10;refine aO (fun e5=>?_) (fun e5=>?_)
 ·have hc1:(!(bM i.op).final && decide (n + 1 < c.ins.length)) = true:=by
   rw [hnf'] at e5;rw [Bool.cond_false_right,show decide ((n:Int) + 1 < (c.ins.length:Nat)) = decide (n + 1 < c.ins.length) from decide_eq_decide.2 (by omega)] at e5;exact e5
  rw [if_pos hc1] at hon;have hn1:(n:Int) + 1 = ((n + 1:Nat):Int):=by omega
  have hlen:(on1 c n).length = 1:=by rw [hon]; rfl
  (repeat (refine aA ?_));refine cb (B:=[]) hS10 OwnSl.nil (by simp only [room]; omega) (by simp only [room]; omega) (by decide) ?_;intro B' v' w3 ho3 hS3;refine ma _ _ _ _ ?_ hS3;rw [hlen,hon]
  show OwnSl 3 1 B' v' 1 [.int .i64 ((n + 1:Nat):Int)]
  rw [<- hn1]; exact ho3
 ·have hc1:¬ (!(bM i.op).final && decide (n + 1 < c.ins.length)) = true:=by
   rw [hnf'] at e5;rw [Bool.cond_false_right,show decide ((n:Int) + 1 < (c.ins.length:Nat)) = decide (n + 1 < c.ins.length) from decide_eq_decide.2 (by omega)] at e5;rw [e5]; simp
  rw [if_neg hc1] at hon;refine ma _ _ [] _ ?_ hS10;rw [hon]; exact OwnSl.nil)
end
section
theorem xn {c:aH} {a:Nat}:(gP c a).length <= 2:=by
 have:=@yL (dD c.ins.length a (aX c a)) 2;unfold gP;rw [take_of_length_le pf] at this;exact this
end
section
def Ae (z:Z) (r:Value) (o:Option (List (Option DepM))):Prop:=match o with
 | none=>r = .agg [.slice none 0 0,.slice none 0 0,.int .i64 12].toArray
 | some kn=>∃ v1 v2,r = .agg [v1,v2,.int .i64 0].toArray/\SlR El.int z v1 (kn.map ay)/\SlR El.int z v2 (kn.map az)
def aV (f:Option DepM->Int) (kn:List (Option DepM)):List Value:=kn.map fun o=>Value.int .i64 (f o)
theorem qO {f:Option DepM->Int} {kn:List (Option DepM)}:(aV f kn).length = kn.length:=by simp [aV]
theorem kc {f:Option DepM->Int} {kn:List (Option DepM)}:(kn.map f).flatMap (fun x=>[Value.int .i64 x]) = aV f kn:=by
 unfold aV
 induction kn with
 | nil=>rfl
 | cons a l ih=>simp only [map_cons,flatMap_cons,ih]; rfl
theorem AR {f:Option DepM->Int} {kn:List (Option DepM)}:eh f kn kn.length = aV f kn:=by unfold eh aV; simp
theorem nZ {f:Option DepM->Int} {kn:List (Option DepM)} {k:Nat} (h:k < kn.length):Get (aV f kn) ((k:Int).toNat * 1) (.int .i64 (f (kn.getD k none))):=⟨by
 rw [show (k:Int).toNat * 1 = k by omega];unfold aV;rw [getElem?_map,getD_eq_getElem?_getD,getElem?_eq_getElem h]; rfl⟩
theorem tI {f:Option DepM->Int} {kn:List (Option DepM)} {k:Nat} {s:DepM} (h:k < kn.length):SetN (aV f kn) ((k:Int).toNat * 1) [.int .i64 (f (some s))] (aV f (kn.set k (some s))):=by
 have:=SetN.at_ (l:=aV f kn) (k:=k) (u:=.int .i64 (f (some s))) (by rw [qO]; exact h);rw [show (k:Int).toNat * 1 = k by omega];have e:aV f (kn.set k (some s)) = (aV f kn).set k (.int .i64 (f (some s))):=by unfold aV; rw [map_set]
 rw [e]; exact this
def rtL (c:aH) (k:Nat):List Nat:=0 :: (c.labels.take k).map fun s=>s.at_.toNat
theorem yy {c:aH} {k:Nat} (h:k < c.labels.length):rtL c (k + 1) = rtL c k ++ [c.labels[k].at_.toNat]:=by
 unfold rtL;rw [take_succ_eq_append_getElem h,map_append]; rfl
theorem Ap {c:aH} {k:Nat}:(rtL c k).length <= k + 1:=by unfold rtL; simp; omega
theorem Aq {c:aH} (h:∀ s ∈ c.labels,0 <= s.at_/\s.at_ < c.ins.length):rtL c c.labels.length = bP c:=by
 unfold rtL bP iL;rw [take_length]
 congr 2
 rw [List.filter_eq_self.2];intro s hs;have:=h s hs;rw [jp,inB_iff]; omega
theorem sQ {z:Z} {w:World} {v:Value} {c:aH} (hc:CodeR z v c) (hl:c.labels.length <= 3000) (hi0:0 < c.ins.length) (hi:c.ins.length <= 12000) (hr:∀ i ∈ c.ins,bX c i = true) (hlab:∀ s ∈ c.labels,0 <= s.at_/\s.at_ < c.ins.length) :
  Fn1 55 #[v] z w fun z' r=>Ae z' r (bK c):=Fn1.intro fun hS=>en55 (by
 unfold vc55;obtain ⟨a1,a2,a3,a4,a5,a6,k1,k2,k3,k4,k5,k6,rfl,h1,h2,h3,h4,h5,h6⟩:=hc.form;generalize hRR:(fun (v:Value) (w':World)=>∃ z' L',Res w z [] w' z' L'/\Ae z' v (bK c)) = RR;refine aP ?_;intro bc w1 hbc hS1;obtain ⟨zc,hzc,hS2,hatc⟩:=hS1.frz bc;have hR:∀ z' w' L' r,Res w1 zc [] w' z' L'->Ae z' r (bK c)->RR r w':=fun z' w' L' r k hd=>by rw [<- hRR]; exact ⟨z',L',hS2.comp k,hd⟩
 clear hRR;have hS3:=hS2.self;clear hS hS1 hS2;haveI:Fz zc bc 0 (dq a1 a2 a3 a4 a5 a6 k1 k2 k3 k4 k5 k6 c):=⟨hatc⟩
 haveI:Fz zc bc 3 [.slice a4 c.labels.length k4]:=⟨hatc.fld (i:=3) rfl rfl⟩
 haveI:Fz zc bc 5 [.slice a6 c.ins.length k6]:=⟨hatc.fld (i:=5) rfl rfl⟩
 refine ak ?_;intro b2 w4 hb2 hS4;clear hS3;intro Ka hKa;have ma:∀ b3 bs bl z' w',Le zc z'->Res w1 zc [] w' z' [(b3,.cells [.slice (some ⟨bs,0,none⟩) c.ins.length c.ins.length,.slice (some ⟨bl,0,none⟩) c.ins.length c.ins.length,.int .i64 0].toArray 60 (0,0)),(bs,.cells (replicate c.ins.length (.int .i64 0)).toArray 3 (0,0)),(bl,.cells (replicate c.ins.length (.int .i64 0)).toArray 3 (0,0)),(b2,.cells [.slice none 0 0,.slice none 0 0,.int .i64 0].toArray 60 (0,0))]->Ka [.pointer (some ⟨b3,0,none⟩)] w':=by
  intro b3 bs bl z5 w5 hz5 hS5;refine hKa _ _ fun _=>?_
  clear hKa hS4;have hkn0:(replicate c.ins.length (none:Option DepM)).length = c.ins.length:=by simp
  have har0:∀ f:Option DepM->Int,eh f (replicate c.ins.length none) 0 = replicate c.ins.length (.int .i64 0):=fun f=>by rw [jC,hkn0]
  refine cC (fun (k:Nat) x w'=>x = .int .i64 k/\k <= c.ins.length/\∃ z',Le zc z'/\Res w1 zc [] w' z' [(b3,.cells [.slice (some ⟨bs,0,none⟩) c.ins.length c.ins.length,.slice (some ⟨bl,0,none⟩) c.ins.length c.ins.length,.int .i64 0].toArray 60 (0,0)),(bs,.cells (eh ay (replicate c.ins.length none) k).toArray 3 (0,0)),(bl,.cells (eh az (replicate c.ins.length none) k).toArray 3 (0,0)),(b2,.cells [.slice none 0 0,.slice none 0 0,.int .i64 0].toArray 60 (0,0))]) (fun k=>c.ins.length - k) 0
   ⟨rfl,Nat.zero_le _,z5,hz5,by rw [har0,har0]; exact hS5⟩ ?_
  rintro I M k x w6 m ⟨rfl,hk,z6,hz6,hS6⟩ back
  clear hS5;(repeat (first | refine aA ?_ | refine aL ?_));refine aC (fun h=>?_) (fun h=>?_)
  ·have hlt:k < c.ins.length:=by omega
   haveI:InR (k:Int) (c.ins.length:Nat):=⟨by omega,by omega⟩
   haveI:InI ((k:Int) + 1):=⟨by omega⟩
   have hset:∀ f:Option DepM->Int,f none = -1->SetN (eh f (replicate c.ins.length none) k) ((k:Int).toNat * 1) [.int .i64 (-1)] (eh f (replicate c.ins.length none) (k + 1)):=fun f hf=>by
    have h1:=qL (f:=f) (kn:=replicate c.ins.length none) (k:=k) (by rw [hkn0]; exact hlt);have h2:(replicate c.ins.length (none:Option DepM)).getD k none = none:=by rw [getD_eq_getElem?_getD,getElem?_replicate]; split <;> rfl
    rw [h2,hf] at h1;have:=SetN.at_ (l:=eh f (replicate c.ins.length none) k) (k:=k) (u:=.int .i64 (-1)) (by rw [gx (by rw [hkn0]; exact hk),hkn0]; exact hlt);rw [show (k:Int).toNat * 1 = k by omega,<- h1]; exact this
   haveI:=hset ay rfl;haveI:=hset az rfl;(repeat (first | refine aA ?_ | refine aE ?_ | (refine aF ?_; intro _ _)));rename_i hS7;exact back (k + 1) _ _ ⟨by simp,by omega,z6,hz6,hS7⟩ (by omega)
  have hk0:k = c.ins.length:=by omega
  subst hk0;have harn:∀ f:Option DepM->Int,eh f (replicate c.ins.length none) c.ins.length = aV f (replicate c.ins.length none):=fun f=>by
   have:=AR (f:=f) (kn:=replicate c.ins.length none);rw [hkn0] at this; exact this
  rw [harn,harn] at hS6;clear back hk h har0 harn;refine je (parts:=[]) rfl (by omega) ?_;intro bo w7 hbo hS7;refine je (parts:=[(0,_)]) rfl (by omega) ?_;intro br w8 hbr hS8;clear hS6 hS7;refine ee (fun (k:Nat) x y w'=>y = .int .i64 k/\k <= c.labels.length/\∃ B' z',Le zc z'/\OwnSl 3 1 B' x (rtL c k).length (du (rtL c k))/\Res w1 zc [] w' z' (B' ++ [(bo,.cells ([] ++ []).toArray 3 (0,0)),(b3,.cells [.slice (some ⟨bs,0,none⟩) c.ins.length c.ins.length,.slice (some ⟨bl,0,none⟩) c.ins.length c.ins.length,.int .i64 0].toArray 60 (0,0)),(bs,.cells (aV ay (replicate c.ins.length none)).toArray 3 (0,0)),(bl,.cells (aV az (replicate c.ins.length none)).toArray 3 (0,0)),(b2,.cells [.slice none 0 0,.slice none 0 0,.int .i64 0].toArray 60 (0,0))])) (fun k=>c.labels.length - k) 0
   ⟨rfl,by omega,[(br,.cells ([Value.int .i64 0] ++ []).toArray 3 (0,0))],_,hz6,⟨rfl,.inr ⟨br,1,[],rfl,rfl,Nat.le_refl 1,by decide,rfl⟩⟩,hS8⟩ ?_
  rintro I M k x y w9 m ⟨rfl,hk,B9,z9,hz9,ho9,hS9⟩ back
  clear hS8;(repeat (first | refine aA ?_ | refine aL ?_));refine aC (fun h=>?_) (fun h=>?_)
  ·have hlt:k < c.labels.length:=by omega
   haveI:InR (k:Int) (c.labels.length:Nat):=⟨by omega,by omega⟩
   haveI:InI ((k:Int) + 1):=⟨by omega⟩
   obtain ⟨_,a,kk,he,_,hel⟩:=h4.form
   cases he
   obtain ⟨b,off,cs,rfl,⟨rfl,hs⟩,hat⟩:=hel k _ (getElem?_eq_getElem hlt);haveI:Fz zc b (off + (k:Int).toNat * 2 + 1) [.int .i64 c.labels[k].at_]:=⟨(hat.mono hzc).fld (i:=1) rfl rfl⟩
   have hsucc:=yy hlt;have hin:=hlab _ (getElem_mem hlt);have hlen:=@Ap c k;generalize c.labels[k] = S at *;(repeat (first | refine aA ?_ | refine aL ?_));refine cb hS9 ho9 (by simp only [room]; omega) (by simp only [room]; omega) (by decide) ?_;intro B10 v10 w10 ho10 hS10;(repeat (refine aA ?_));refine back (k + 1) _ _ _ ⟨by simp,by omega,B10,_,hz9,?_,hS10⟩ (by omega);rw [hsucc,length_append,cP];have:du [S.at_.toNat] = [.int .i64 S.at_]:=by
    show [Value.int .i64 ((S.at_.toNat:Nat):Int)] = _
    rw [show ((S.at_.toNat:Nat):Int) = S.at_ by omega]
   rw [this]; exact ho10
  have hk0:k = c.labels.length:=by omega
  subst hk0;rw [Aq hlab] at ho9;clear back hk h;have hrl:(bP c).length <= 3001:=Nat.le_trans kT (by omega);obtain ⟨z10,hz10,hS10,hv10⟩:=lS hS9 ho9 (by simp only [big]; omega);have hz10':=hz9.trans hz10;clear hS9 ho9;obtain ⟨_,ar,kr,rfl,_,hel⟩:=hv10.form;rw [gj];have hdl:(eC c).length = (bP c).length:=by simp [eC]
  refine ee (fun (p:Nat × DpM) x y w'=>y = .int .i64 p.1/\p.1 <= (bP c).length/\ca (eC c) (gC c) = ca ((eC c).drop p.1) p.2/\lZ c.ins.length p.2/\(∀ a s,p.2.kn.getD a none = some s->s = ⟨0,0⟩)/\∃ B' z',Le z10 z'/\OwnSl 3 1 B' x p.2.open_.length (du p.2.open_)/\Res w1 zc [] w' z' (B' ++ [(b3,.cells [.slice (some ⟨bs,0,none⟩) c.ins.length c.ins.length,.slice (some ⟨bl,0,none⟩) c.ins.length c.ins.length,.int .i64 0].toArray 60 (0,0)),(bs,.cells (aV ay p.2.kn).toArray 3 (0,0)),(bl,.cells (aV az p.2.kn).toArray 3 (0,0)),(b2,.cells [.slice none 0 0,.slice none 0 0,.int .i64 0].toArray 60 (0,0))])) (fun p=>(bP c).length - p.1) (0,gC c)
   ⟨rfl,Nat.zero_le _,rfl,ob,fun a s hs=>by
    simp only [gC,getD_eq_getElem?_getD,getElem?_replicate] at hs
    split at hs <;> simp at hs,[(bo,.cells ([] ++ []).toArray 3 (0,0))],z10,Le.refl _,⟨rfl,.inr ⟨bo,0,[],rfl,rfl,Nat.le_refl 0,by decide,rfl⟩⟩,hS10⟩ ?_
  rintro I M ⟨k,d⟩ x y w11 m ⟨rfl,hk,hcm,hinv,hzero,B11,z11,hz11,ho11,hS11⟩ back
  simp only at hk hcm hinv hzero ho11 hS11;clear hS10;have hlen:d.kn.length = c.ins.length:=hinv.len;have hsz:=hinv.size;(repeat (refine aA ?_));refine aC (fun h=>?_) (fun h=>?_)
  ·have hlt:k < (bP c).length:=by omega
   have hlt2:k < (eC c).length:=by omega
   haveI:InR (k:Int) ((bP c).length:Nat):=⟨by omega,by omega⟩
   haveI:InI ((k:Int) + 1):=⟨by omega⟩
   obtain ⟨b,off,cs,rfl,rfl,hat⟩:=hel k (((bP c)[k]:Nat):Int) (by simp [gq,getElem?_eq_getElem hlt]);have hroot:=gX hi0 _ (getElem_mem hlt);rw [drop_eq_getElem_cons hlt2,show (eC c)[k] = ((bP c)[k],⟨0,0⟩) by simp [eC]] at hcm;rw [cI] at hcm;simp only at hcm;generalize (bP c)[k] = a at *;have hat':At z11 b (off + (k:Int).toNat * 1) [.int .i64 (a:Int)]:=by rw [Int.toNat_natCast]; exact hat.mono hz11
   have hal:a < d.kn.length:=by omega
   haveI:InR (a:Int) (c.ins.length:Nat):=⟨by omega,by omega⟩
   haveI:=nZ (f:=ay) hal;haveI:=nZ (f:=az) hal;haveI:SetN (aV ay d.kn) ((a:Int).toNat * 1) [.int .i64 0] (aV ay (d.kn.set a (some ⟨0,0⟩))):=tI (f:=ay) (s:=⟨0,0⟩) hal;haveI:SetN (aV az d.kn) ((a:Int).toNat * 1) [.int .i64 0] (aV az (d.kn.set a (some ⟨0,0⟩))):=tI (f:=az) (s:=⟨0,0⟩) hal;have hc1:(cB d a ⟨0,0⟩).1 = true:=by
    unfold cB
    cases hg:d.kn.getD a none with
    | none=>rfl
    | some s=>rw [hzero a s hg]; rfl
   have hkn2:(cB d a ⟨0,0⟩).2.kn = d.kn.set a (some ⟨0,0⟩):=by
    unfold cB
    cases hg:d.kn.getD a none with
    | none=>rfl
    | some s=>
     have e:=hzero a s hg;subst e
     show d.kn = _
     apply ext_getElem?
     intro j;rw [getElem?_set]
     split
     ·next e=>
       subst e;rw [getD_eq_getElem?_getD,getElem?_eq_getElem hal] at hg;rw [getElem?_eq_getElem hal];simp only [Option.getD_some] at hg;rw [hg]
     ·rfl
   obtain ⟨hi1,hi2,_⟩:=mh hinv (by omega) hc1;have hz2:∀ b s,(cB d a ⟨0,0⟩).2.kn.getD b none = some s->s = ⟨0,0⟩:=fun b s hs=>by
    rw [hkn2,getD_eq_getElem?_getD,getElem?_set] at hs
    split at hs
    ·simp at hs; exact hs.symm
    ·rw [<- getD_eq_getElem?_getD] at hs; exact hzero b s hs
   rw [if_pos hc1] at hcm;intro Kb hKb;have mb:∀ B' v' w',OwnSl 3 1 B' v' (cB d a ⟨0,0⟩).2.open_.length (du (cB d a ⟨0,0⟩).2.open_)->Res w1 zc [] w' z11 (B' ++ [(b3,.cells [.slice (some ⟨bs,0,none⟩) c.ins.length c.ins.length,.slice (some ⟨bl,0,none⟩) c.ins.length c.ins.length,.int .i64 0].toArray 60 (0,0)),(bs,.cells (aV ay d.kn).toArray 3 (0,0)),(bl,.cells (aV az d.kn).toArray 3 (0,0)),(b2,.cells [.slice none 0 0,.slice none 0 0,.int .i64 0].toArray 60 (0,0))])->Kb [v'] w':=by
    intro B' v' w' ho' hS';refine hKb _ _ fun _=>?_
    clear hKb hS11;(repeat (first | (refine iDr ?_; intro _ _) | refine aK ?_ | refine aW ?_));refine fh hat' ?_;(repeat (first | (refine iDr ?_; intro _ _) | refine aK ?_ | (refine aF ?_; intro _ _) | refine aW ?_));refine fh hat' ?_;(repeat (first | refine aA ?_ | refine aK ?_ | (refine aF ?_; intro _ _)));rename_i hS12;refine back (k + 1,(cB d a ⟨0,0⟩).2) _ _ _ ⟨by simp,by simp only; omega,hcm,hi1,hz2,B',z11,hz11,ho',?_⟩ (by simp only; omega);simp only;rw [hkn2]; exact hS12
   clear hKb;(repeat (first | (refine iDr ?_; intro _ _) | refine aK ?_ | refine aW ?_));refine fh hat' ?_;(repeat (first | refine aK ?_ | refine aW ?_));rename_i hS12
   cases hg:d.kn.getD a none with
   | none=>
    have hop:(cB d a ⟨0,0⟩).2.open_ = d.open_ ++ [a]:=by unfold cB; rw [hg]
    refine bC rfl ?_;(repeat (refine aA ?_));refine bL hat' ?_;refine cb hS12 ho11 (by simp only [room]; omega) (by simp only [room]; omega) (by decide) ?_;intro B13 v13 w13 ho13 hS13;refine mb _ _ _ ?_ hS13;rw [hop,length_append,cP]; exact ho13
   | some s=>
    have e:=hzero a s hg;subst e;have hop:(cB d a ⟨0,0⟩).2.open_ = d.open_:=by unfold cB; rw [hg]
    refine dk rfl ?_;refine mb _ _ _ ?_ hS12;rw [hop]; exact ho11
  have hk2:k = (bP c).length:=by omega
  rw [drop_of_length_le (by omega)] at hcm;have hcm2:ca (eC c) (gC c) = some d:=hcm;have hm0:iQ d <= 2 * c.ins.length:=by
   have:=(qE ob (fun p hp=>by
    obtain ⟨a,ha,rfl⟩:=List.mem_map.1 hp;exact gX hi0 _ ha) hcm2).2
   have h0:iQ (gC c) = 2 * c.ins.length:=by simp [iQ,gC]
   omega
  clear hcm back hv10 hel hzero h hk hk2;have herr:∀ w' z' L',Res w1 zc [] w' z' ((b2,.cells [.slice none 0 0,.slice none 0 0,.int .i64 0].toArray 60 (0,0)) :: L')->bK c = none->V (bd 60 #[(2,.int .i64 12)]) w' fun t w=>U (st 60 (.pointer (some ⟨b2,0,none⟩)) t) w fun w=>CW 60 (.pointer (some ⟨b2,0,none⟩)) w fun t1002=>RR t1002 w:=by
   intro w' z' L' hS' hd;(repeat (first | refine aA ?_ | (refine aF ?_; intro _ _) | refine aq ?_));exact hR _ _ _ _ (by assumption) (by rw [hd]; rfl)
  refine cC (fun (p:Nat × DpM) x w'=>bK c = qV c p.1 p.2/\iQ p.2 < p.1/\lZ c.ins.length p.2/\∃ B' z',Le zc z'/\OwnSl 3 1 B' x p.2.open_.length (du p.2.open_)/\Res w1 zc [] w' z' (B' ++ [(b3,.cells [.slice (some ⟨bs,0,none⟩) c.ins.length c.ins.length,.slice (some ⟨bl,0,none⟩) c.ins.length c.ins.length,.int .i64 0].toArray 60 (0,0)),(bs,.cells (aV ay p.2.kn).toArray 3 (0,0)),(bl,.cells (aV az p.2.kn).toArray 3 (0,0)),(b2,.cells [.slice none 0 0,.slice none 0 0,.int .i64 0].toArray 60 (0,0))])) (fun p=>p.1) (2 * c.ins.length + 1,d)
   ⟨by rw [bK,hcm2],by simp only; omega,hinv,B11,z11,hz10'.trans hz11,ho11,hS11⟩ ?_
  clear hS11 hcm2 hm0 hinv ho11 hlen hsz hz11 hz10';rintro I M ⟨f,kn,op⟩ x w14 m ⟨hrun,hmea,hinv,B14,z14,hz14,ho14,hS14⟩ back
  simp only at hrun hmea ho14 hS14;have hlen:kn.length = c.ins.length:=hinv.len;have hsz:=hinv.size;simp only at hsz;have hf:f = (f - 1) + 1:=by omega
  rcases eq_nil_or_concat op with rfl | ⟨l,a,rfl⟩
  ·obtain ⟨av,cv,rfl,_⟩:=ho14.form
   have hS14':=hS14.keep [.at b3,.at bs,.at bl,.at b2];clear hS14;(repeat (first | refine aA ?_ | refine ae ?_ | (refine aF ?_; intro _ _) | refine aq ?_ | refine aj ?_));rename_i hS15;have hd:bK c = some kn:=by rw [hrun,hf]; rfl
   obtain ⟨z16,hz16,hS16,hvs⟩:=Res.freezeSl (E:=El.int) (e:=3) (B:=[(bs,_)]) (v:=.slice (some ⟨bs,0,none⟩) kn.length kn.length) (xs:=kn.map ay) (f:=fun x=>[Value.int .i64 x]) (hS15.bringB bs) ⟨by rw [kc,qO,length_map]; exact (Nat.mul_one _).symm,.inr ⟨bs,kn.length,[],by rw [kc,append_nil],by rw [length_map],by rw [length_map]; exact Nat.le_refl _,by simp only [maxLen]; omega,by rw [kc,append_nil,qO]; exact (Nat.mul_one _).symm⟩⟩ (by rw [length_map]; simp only [big]; omega) (fun _=>rfl) (fun z x _=>rfl);obtain ⟨z17,hz17,hS17,hvl⟩:=Res.freezeSl (E:=El.int) (e:=3) (B:=[(bl,_)]) (v:=.slice (some ⟨bl,0,none⟩) kn.length kn.length) (xs:=kn.map az) (f:=fun x=>[Value.int .i64 x]) (hS16.bringB bl) ⟨by rw [kc,qO,length_map]; exact (Nat.mul_one _).symm,.inr ⟨bl,kn.length,[],by rw [kc,append_nil],by rw [length_map],by rw [length_map]; exact Nat.le_refl _,by simp only [maxLen]; omega,by rw [kc,append_nil,qO]; exact (Nat.mul_one _).symm⟩⟩ (by rw [length_map]; simp only [big]; omega) (fun _=>rfl) (fun z x _=>rfl);refine hR _ _ _ _ hS17 ?_;rw [hd,<- hlen];exact ⟨_,_,rfl,hvs.mono hz17,hvl⟩
  ·rw [concat_eq_append] at *
   obtain ⟨h1i,h2i,hlt,s0,hs0,hlow⟩:=zX hinv;simp only [length_append,length_singleton,cP] at ho14;obtain ⟨bo2,cap,C,rfl,hcap,rfl,hC,ho2⟩:=OwnSl.pop (u:=.int .i64 (a:Int)) ho14;obtain ⟨C,rfl⟩:∃ D:List Value,C = D.toArray:=⟨C.toList,by simp⟩
   simp only [cons_append,nil_append] at hS14;have e0:((l.length + 1:Nat):Int) - 1 = (l.length:Int):=by omega
   simp only [length_append,length_singleton] at hsz;have hcount:l.length + kn.count none <= c.ins.length:=by omega
   haveI:InI (((l.length + 1:Nat):Int) - 1):=⟨by omega⟩
   haveI:InR (l.length:Int) ((l.length + 1:Nat):Int):=⟨by omega,by omega⟩
   haveI:InR (l.length:Int) ((cap:Int) + 1):=⟨by omega,by omega⟩
   haveI:Get C ((l.length:Int).toNat * 1) (.int .i64 (a:Int)):=⟨by simpa using hC⟩
   haveI:InR (a:Int) (c.ins.length:Nat):=⟨by omega,by omega⟩
   have hal:a < kn.length:=by omega
   have hgs:=nZ (f:=ay) hal;have hgl:=nZ (f:=az) hal;rw [hs0] at hgs hgl;haveI:Get (aV ay kn) ((a:Int).toNat * 1) (.int .i64 s0.stack):=hgs;haveI:Get (aV az kn) ((a:Int).toNat * 1) (.int .i64 s0.loops):=hgl;have hrun2:qV c f ⟨kn,l ++ [a]⟩ = match lv c ⟨kn,l⟩ a with
     | none=>none
     | some d'=>qV c (f - 1) d':=by
    rw [vK (c:=c) (d:=⟨kn,l⟩) (s:=s0) hlen h1i.low hlt hs0,hf];simp only [qV,getLast?_concat,dropLast_concat]
    rfl
   obtain ⟨hb6,_,_,e6,_,hel6⟩:=h6.form
   cases e6
   have hii:c.ins[a]? = some (aX c a):=by rw [aX,getD_eq_getElem?_getD,getElem?_eq_getElem hlt]; rfl
   obtain ⟨b6,o6,cs6,rfl,hr6,hat6⟩:=hel6 _ _ hii
   cases hr6
   haveI:Fz zc b6 (o6 + (a:Int).toNat * 4) (aX c a).cells:=⟨by rw [Int.toNat_natCast]; exact hat6.mono hzc⟩
   have hri2:=hr _ (mem_of_getElem? hii);have htame:=(wl hri2).a;have hes:=nU (aX c a);have hlow2:=hlow.h;have hdep:gu kn a = s0:=by unfold gu; rw [hs0]; rfl
   have hrs:lv c ⟨kn,l⟩ a = if eg (aX c a) s0 = true then none else match cq (aX c a) a (lH (aX c a) s0) (fB (aX c a) s0) (gP c a) ⟨kn,l⟩ with
     | none=>none
     | some d'=>if fB (aX c a) s0 < 0 then none else some d':=by
    unfold lv; rw [hdep]; try rfl
   rw [hrs] at hrun2;generalize hg:aX c a = i at *;refine aA ?_;refine aA ?_;refine aC (fun _=>?_) (fun hn=>absurd hn (by omega));refine aA ?_;refine aA ?_;simp only [e0];refine aA ?_;refine aE ?_;refine aA ?_;refine aA ?_;simp only [e0];refine aA ?_;simp only [Int.toNat_natCast];(repeat (first | refine aA ?_ | refine bV ?_ | refine aL ?_));refine ak ?_;intro b10 w15 hb10 hS15;refine aF ?_;intro w16 hS16;(repeat (first | refine ae ?_ | (refine aN ?_; intro _ _ _ _)));rename_i hS17;refine ak ?_;intro b11 w18 hb11 hS18;refine aF ?_;intro w19 hS19;clear hS14 hS15 hS16 hS17 hS18;(repeat (first | refine aA ?_ | refine aE ?_ | refine JB ?_ | (refine JC ?_; intro _ _ _ _)));rename_i hS20;clear hS19;have hq:(bif bif bif bif bif decide (i.op = 1) then true else decide (i.op = 2) then true else decide (i.op = 31) then !decide (s0.stack = 0) else false then true else bif bif bif decide (i.op = 30) then true else decide (i.op = 31) then true else decide (i.op = 32) then decide (s0.loops < 1) else false then true else decide (s0.stack < (dX i).pops)) = eg i s0:=by
    unfold eg; simp only [Bool.cond_true_left,Bool.cond_false_right,Bool.or_assoc]
   rw [hq];refine aO (fun e5=>?_) (fun e5=>?_)
   ·exact herr _ _ _ (hS20.bringB b2) (by rw [hrun,hrun2,if_pos e5])
   rw [if_neg (by rw [e5]; simp)] at hrun2;have hpop:¬ s0.stack < (dX i).pops:=by
    unfold eg at e5;simp only [Bool.or_eq_false_iff,decide_eq_false_iff_not] at e5;exact e5.2.2
   have hstb:0 <= lH i s0/\lH i s0 <= 201:=by unfold lH; omega
   have hnb:-40 <= fB i s0/\fB i s0 <= 41:=by
    unfold fB
    split
    ·omega
    ·split
     ·next h=>have:=htame h; omega
     ·omega
   haveI:InI (s0.stack - (dX i).pops):=⟨by omega⟩
   haveI:InI (s0.stack - (dX i).pops + (dX i).pushes):=⟨by omega⟩
   haveI:InI (s0.loops + 1):=⟨by omega⟩
   (repeat (first | refine aA ?_ | refine aE ?_));rw [show s0.stack - (dX i).pops + (dX i).pushes = lH i s0 from rfl];generalize hst:lH i s0 = st at *;have hS21:=hS20.keep [.at b10,.at bo2,.at b3,.at bs,.at bl,.at b2];clear hS20;rename_i hz20;intro Kb hKb;have mb:∀ w' z',Le zc z'->Res w1 zc [] w' z' [(b10,.cells i.cells.toArray 38 (0,0)),(bo2,.cells C.toArray 3 (0,0)),(b3,.cells [.slice (some ⟨bs,0,none⟩) c.ins.length c.ins.length,.slice (some ⟨bl,0,none⟩) c.ins.length c.ins.length,.int .i64 0].toArray 60 (0,0)),(bs,.cells (aV ay kn).toArray 3 (0,0)),(bl,.cells (aV az kn).toArray 3 (0,0)),(b2,.cells [.slice none 0 0,.slice none 0 0,.int .i64 0].toArray 60 (0,0))]->Kb [.int .i64 (fB i s0)] w':=by
    intro w' z' hz' hS';refine hKb _ _ fun _=>?_
    clear hKb hS21;generalize hnn:fB i s0 = n at *;refine bV ?_;refine ap (vO ((hc.mono hzc).mono hz')) ?_;rintro z22 w22 v22 hz22 hS22 hv22
    clear hS';have hnx:ny c (a:Int) = gP c a:=by
     unfold ny;rw [if_neg,Int.toNat_natCast];unfold mE;rw [show inB (a:Int) 0 ((c.ins.length:Int) - 1) = true by rw [inB_iff]; omega,decide_eq_false (by omega),decide_eq_false (by omega)]; simp
    rw [hnx] at hv22;have hnl:=@xn c a;have hnlt:∀ x ∈ gP c a,x < c.ins.length:=fun x hx=>vC x (mem_nextL.1 hx)
    generalize gP c a = nl at *;obtain ⟨_,an,kn2,rfl,_,heln⟩:=hv22.form;rw [gj];generalize hX:cq i a st n nl ⟨kn,l⟩ = X at *;have hm1:iQ ⟨kn,l⟩ < f - 1:=by omega
    have hS22':=hS22.keep [.at bo2,.at b10,.at b3,.at bs,.at bl,.at b2];refine ee (fun (p:Nat × DpM) x y w'=>y = .int .i64 p.1/\p.1 <= nl.length/\cq i a st n (nl.drop p.1) p.2 = X/\lZ c.ins.length p.2/\iQ p.2 < f - 1/\∃ B' z',Le z22 z'/\OwnSl 3 1 B' x p.2.open_.length (du p.2.open_)/\Res w1 zc [] w' z' (B' ++ [(b10,.cells i.cells.toArray 38 (0,0)),(b3,.cells [.slice (some ⟨bs,0,none⟩) c.ins.length c.ins.length,.slice (some ⟨bl,0,none⟩) c.ins.length c.ins.length,.int .i64 0].toArray 60 (0,0)),(bs,.cells (aV ay p.2.kn).toArray 3 (0,0)),(bl,.cells (aV az p.2.kn).toArray 3 (0,0)),(b2,.cells [.slice none 0 0,.slice none 0 0,.int .i64 0].toArray 60 (0,0))])) (fun p=>nl.length - p.1) (0,⟨kn,l⟩)
     ⟨rfl,Nat.zero_le _,hX,h1i,hm1,[(bo2,.cells C.toArray 3 (0,0))],z22,Le.refl _,ho2,hS22'⟩ ?_
    rintro I4 M4 ⟨k,d⟩ x y w23 m4 ⟨rfl,hk,hXd,hinvd,hmd,B23,z23,hz23,ho23,hS23⟩ back4
    simp only at hk hXd hinvd hmd ho23 hS23;clear hS22 hS22';have hlend:d.kn.length = c.ins.length:=hinvd.len;have hszd:=hinvd.size;refine aA ?_;refine aA ?_;refine aC (fun h=>?_) (fun h=>?_)
    ·have hlt3:k < nl.length:=by omega
     haveI:InR (k:Int) (nl.length:Nat):=⟨by omega,by omega⟩
     haveI:InI ((k:Int) + 1):=⟨by omega⟩
     haveI:InI ((a:Int) + 1):=⟨by omega⟩
     haveI:InI (n - 1):=⟨by omega⟩
     obtain ⟨bn9,on9,cn9,rfl,rfl,hatn⟩:=heln k (((nl[k]:Nat)):Int) (by simp [gq,getElem?_eq_getElem hlt3]);have hxlt:=hnlt _ (getElem_mem hlt3);rw [drop_eq_getElem_cons hlt3] at hXd;generalize nl[k] = xx at *;have hat':At z23 bn9 (on9 + (k:Int).toNat * 1) [.int .i64 (xx:Int)]:=by rw [Int.toNat_natCast]; exact hatn.mono hz23
     unfold cq at hXd;intro Kc hKc;have mc:∀ B' v' d' w' z3,Le z23 z3->cq i a st n (nl.drop (k + 1)) d' = X->lZ c.ins.length d'->iQ d' < f - 1->OwnSl 3 1 B' v' d'.open_.length (du d'.open_)->Res w1 zc [] w' z3 (B' ++ [(b10,.cells i.cells.toArray 38 (0,0)),(b3,.cells [.slice (some ⟨bs,0,none⟩) c.ins.length c.ins.length,.slice (some ⟨bl,0,none⟩) c.ins.length c.ins.length,.int .i64 0].toArray 60 (0,0)),(bs,.cells (aV ay d'.kn).toArray 3 (0,0)),(bl,.cells (aV az d'.kn).toArray 3 (0,0)),(b2,.cells [.slice none 0 0,.slice none 0 0,.int .i64 0].toArray 60 (0,0))])->Kc [v'] w':=by
      intro B' v' d' w' z3 hz3 h1 h2 h3 h4 h5;refine hKc _ _ fun _=>?_
      refine aA ?_;exact back4 (k + 1,d') _ _ _ ⟨by simp,by simp only; omega,h1,h2,h3,B',z3,hz23.trans hz3,h4,h5⟩ (by simp only; omega)
     clear hKc back4;have hbadd:X = none->bK c = none:=fun e=>by rw [hrun,hrun2,e]
     have hal3:xx < d.kn.length:=by omega
     haveI:InR (xx:Int) (c.ins.length:Nat):=⟨by omega,by omega⟩
     intro Kd hKd;have md:∀ w',db i a xx = false->Res w1 zc [] w' z23 (B23 ++ [(b10,.cells i.cells.toArray 38 (0,0)),(b3,.cells [.slice (some ⟨bs,0,none⟩) c.ins.length c.ins.length,.slice (some ⟨bl,0,none⟩) c.ins.length c.ins.length,.int .i64 0].toArray 60 (0,0)),(bs,.cells (aV ay d.kn).toArray 3 (0,0)),(bl,.cells (aV az d.kn).toArray 3 (0,0)),(b2,.cells [.slice none 0 0,.slice none 0 0,.int .i64 0].toArray 60 (0,0))])->Kd [.int .i64 (cV i n xx)] w':=by
      intro w' hbx hS';refine hKd _ _ fun _=>?_
      clear hKd hS23;generalize hdd:cV i n xx = deep at *;rw [hbx] at hXd;simp only [Bool.false_eq_true,false_or] at hXd;refine aA ?_;intro Ke hKe;have me:∀ q w' z'',Le z23 z''->Res w1 zc [] w' z'' (B23 ++ [(b10,.cells i.cells.toArray 38 (0,0)),(b3,.cells [.slice (some ⟨bs,0,none⟩) c.ins.length c.ins.length,.slice (some ⟨bl,0,none⟩) c.ins.length c.ins.length,.int .i64 0].toArray 60 (0,0)),(bs,.cells (aV ay d.kn).toArray 3 (0,0)),(bl,.cells (aV az d.kn).toArray 3 (0,0)),(b2,.cells [.slice none 0 0,.slice none 0 0,.int .i64 0].toArray 60 (0,0))])->q = (decide (st > 200) || !inB deep 0 40)->Ke [.bool q] w':=by
       intro q w'' z'' hz'' hS'' hq2;refine hKe _ _ fun _=>?_
       clear hKe hS';have hat3:=hat'.mono hz'';refine aO (fun e6=>?_) (fun e6=>?_)
       ·rw [hq2,Bool.or_eq_true,decide_eq_true_eq,Bool.not_eq_true'] at e6
        rw [if_pos e6] at hXd;have hS3:=hS''.keep [.at b2];exact herr _ _ _ hS3 (hbadd hXd.symm)
       rw [hq2,Bool.or_eq_false_iff,decide_eq_false_iff_not,Bool.not_eq_false'] at e6;have hdi:=inB_iff.1 e6.2;rw [if_neg (fun e=>e.elim e6.1 (fun e=>by rw [e6.2] at e; cases e))] at hXd;haveI:=nZ (f:=ay) hal3;haveI:=nZ (f:=az) hal3;have hsS:SetN (aV ay d.kn) ((xx:Int).toNat * 1) [.int .i64 st] (aV ay (d.kn.set xx (some ⟨st,deep⟩))):=tI (f:=ay) (s:=⟨st,deep⟩) hal3;have hsL:SetN (aV az d.kn) ((xx:Int).toNat * 1) [.int .i64 deep] (aV az (d.kn.set xx (some ⟨st,deep⟩))):=tI (f:=az) (s:=⟨st,deep⟩) hal3;have hmz:∀ B' v' d' w',cq i a st n (nl.drop (k + 1)) d' = X->lZ c.ins.length d'->iQ d' < f - 1->OwnSl 3 1 B' v' d'.open_.length (du d'.open_)->Res w1 zc [] w' z'' (B' ++ [(b10,.cells i.cells.toArray 38 (0,0)),(b3,.cells [.slice (some ⟨bs,0,none⟩) c.ins.length c.ins.length,.slice (some ⟨bl,0,none⟩) c.ins.length c.ins.length,.int .i64 0].toArray 60 (0,0)),(bs,.cells (aV ay d'.kn).toArray 3 (0,0)),(bl,.cells (aV az d'.kn).toArray 3 (0,0)),(b2,.cells [.slice none 0 0,.slice none 0 0,.int .i64 0].toArray 60 (0,0))])->Kc [v'] w':=fun B' v' d' w' h1 h2 h3 h4 h5=>mc B' v' d' w' z'' hz'' h1 h2 h3 h4 h5
       refine aA ?_;refine bL hat3 ?_;(repeat (first | refine aA ?_ | refine aE ?_))
       cases hgd:d.kn.getD xx none with
       | none=>
        rw [hgd] at hXd;simp only at hXd;have hc1:(cB d xx ⟨st,deep⟩).1 = true:=by
         unfold cB;rw [hgd];simp only;rw [Bool.and_eq_true,inB_iff];exact ⟨by omega,e6.2⟩
        have hc2:(cB d xx ⟨st,deep⟩).2 = ⟨d.kn.set xx (some ⟨st,deep⟩),d.open_ ++ [xx]⟩:=by unfold cB; rw [hgd]
        obtain ⟨i1,i2,_⟩:=mh hinvd hxlt hc1;rw [hc2] at i1 i2;refine bC rfl ?_;(repeat (first | refine aA ?_ | refine aE ?_ | (refine aF ?_; intro _ _)));rename_i hS24;refine cb hS24 ho23 (by simp only [room]; omega) (by simp only [room]; omega) (by decide) ?_;intro B25 v25 w25 ho25 hS25;refine hmz B25 v25 ⟨d.kn.set xx (some ⟨st,deep⟩),d.open_ ++ [xx]⟩ _ hXd i1 (by omega) ?_ hS25;simp only;rw [length_append,cP]; exact ho25
       | some was=>
        rw [hgd] at hXd;simp only at hXd;have hwl:=(hinvd.low _ _ hgd).h;refine dk (decide_eq_false (by show ¬ was.stack < 0; omega)) ?_;(repeat (first | refine aA ?_ | refine aE ?_ | (refine JC ?_; intro _ _ _ _)));rename_i hS26;rw [hgd];have hwas:(bif !decide (ay (some was) = st) then true else !decide (az (some was) = deep)) = !decide (was = ⟨st,deep⟩):=by
         show (bif !decide (was.stack = st) then true else !decide (was.loops = deep)) = _
         have:was = ⟨st,deep⟩ ↔ was.stack = st/\was.loops = deep:=by cases was; simp
         by_cases h1:was.stack = st <;> by_cases h2:was.loops = deep <;> simp [this,h1,h2]
        rw [hwas];refine eO (fun e7=>?_) (fun e7=>?_)
        ·rw [if_neg e7] at hXd
         have hS3:=hS26.keep [.at b2];exact herr _ _ _ hS3 (hbadd hXd.symm)
        ·rw [if_pos e7] at hXd
         exact mc B23 x d _ _ (by (repeat (first | assumption | refine Le.trans ?_ (by assumption:Le _ _)))) hXd hinvd hmd ho23 hS26
      clear hKe;refine aC (fun e6=>?_) (fun e6=>?_)
      ·exact me true _ _ (Le.refl _) hS' (by rw [decide_eq_true e6]; rfl)
      ·refine aN ?_
       intro z24 w24 hz24 hS24;refine aA ?_;exact me _ _ _ hz24 hS24 (by rw [decide_eq_false e6]; rfl)
     clear hKd;intro Kf hKf;have mf:∀ q w',q = decide (i.op = 30/\(xx:Int) = i.a)->Res w1 zc [] w' z23 (B23 ++ [(b10,.cells i.cells.toArray 38 (0,0)),(b3,.cells [.slice (some ⟨bs,0,none⟩) c.ins.length c.ins.length,.slice (some ⟨bl,0,none⟩) c.ins.length c.ins.length,.int .i64 0].toArray 60 (0,0)),(bs,.cells (aV ay d.kn).toArray 3 (0,0)),(bl,.cells (aV az d.kn).toArray 3 (0,0)),(b2,.cells [.slice none 0 0,.slice none 0 0,.int .i64 0].toArray 60 (0,0))])->Kf [.bool q] w':=by
      intro q w' hq3 hS';refine hKf _ _ fun _=>?_
      clear hKf hS23;subst hq3;refine aC (fun e6=>?_) (fun e6=>?_)
      ·(repeat (first | refine aA ?_ | refine aE ?_))
       refine aC (fun e7=>?_) (fun e7=>?_)
       ·have hS3:=hS'.keep [.at b2]
        refine herr _ _ _ hS3 (hbadd ?_);rw [<- hXd,if_pos (.inl (by unfold db; rw [decide_eq_true_eq]; exact ⟨e6.1,e6.2,e7⟩))]
       ·(repeat (refine aA ?_))
        have hdp:cV i n xx = n - 1:=by unfold cV; rw [if_pos e6]
        rw [<- hdp];exact md _ (by unfold db; rw [decide_eq_false_iff_not]; exact fun e=>e7 e.2.2) hS'
      ·have hdp:cV i n xx = n:=by unfold cV; rw [if_neg e6]
       have:=md w' (by unfold db; rw [decide_eq_false_iff_not]; exact fun e=>e6 ⟨e.1,e.2.1⟩) hS';rw [hdp] at this;exact this
     clear hKf md mc;(repeat (first | (refine iDr ?_; intro _ _) | refine aK ?_ | refine aW ?_));refine aC (fun e6=>?_) (fun e6=>?_)
     ·(repeat (refine aK ?_))
      refine fh hat' ?_;(repeat (first | refine aK ?_ | refine aW ?_));exact mf _ _ (by simp [e6]) (by assumption)
     ·exact mf _ _ (by simp [e6]) (by assumption)
    ·have hk2:k = nl.length:=by omega
     rw [drop_of_length_le (by omega)] at hXd;have hXs:X = some d:=hXd.symm;rw [hXs] at hrun2;simp only at hrun2;refine aA ?_;refine aC (fun e6=>?_) (fun e6=>?_)
     ·rw [if_pos e6] at hrun2
      have hS3:=hS23.keep [.at b2];exact herr _ _ _ hS3 (by rw [hrun,hrun2])
     ·rw [if_neg e6] at hrun2
      have hS3:=hS23.keep [.bl B23,.at b3,.at bs,.at bl,.at b2];exact back (f - 1,d) _ _ ⟨by rw [hrun,hrun2],by simp only; omega,hinvd,B23,z23,hz'.trans (hz22.trans hz23),ho23,hS3⟩ (by simp only; omega)
   clear hKb back;have hzz:Le zc _:=hS21.zle;unfold fB at mb;(repeat (first | refine aA ?_ | refine aE ?_ | refine JB ?_));have hq27:(bif decide (i.op = 27) then decide (i.op = 27) else bif decide (i.op = 28) then decide (i.op = 28) else decide (i.op = 29)) = true ↔ i.op = 27 \/ i.op = 28 \/ i.op = 29:=by
    by_cases e1:i.op = 27 <;> by_cases e2:i.op = 28 <;> by_cases e3:i.op = 29 <;> simp [e1,e2,e3]
   refine aO (fun h=>?_) (fun h=>?_)
   ·rw [if_pos (hq27.1 h)] at mb
    refine aA ?_;exact mb _ _ hzz hS21
   ·rw [if_neg (fun e=>by rw [hq27.2 e] at h; cases h)] at mb
    refine aA ?_;refine aC (fun e=>?_) (fun e=>?_)
    ·rw [if_pos e] at mb
     have:=htame e;haveI:InI (s0.loops - i.a):=⟨by omega⟩
     (repeat (first | refine aA ?_ | refine aE ?_));exact mb _ _ hzz hS21
    ·rw [if_neg e] at mb
     exact mb _ _ hzz hS21
 clear hKa;have hms:∀ {K:RP} {w0 w:World} {z0 z:Z} {B0 L:Bl},Res w0 z0 B0 w z L->(∀ b w',Res w0 z0 B0 w' z ((b,.cells (replicate c.ins.length (.int .i64 0)).toArray 3 (0,0)) :: L)->K (.slice (some ⟨b,0,none⟩) c.ins.length c.ins.length) w')->V (ms 45 (.int .i64 (c.ins.length:Nat)) (.int .i64 (c.ins.length:Nat))) w K:=by
  intro K w0 w z0 z B0 L hS hk;refine uR (by omega) (by omega) ?_;intro b w' hb hS';rw [oh] at hS';exact hk b w' hS'
 (repeat (first | (refine iDr ?_; intro _ _) | refine aK ?_ | refine bz ?_));rename_i hS5;refine ⟨?_,?_,?_⟩
 ·refine hms hS5 ?_
  intro bs w6 hS6;(repeat (refine cZ ?_));refine ⟨?_,?_⟩
  ·refine hms hS6 ?_
   intro bl w7 hS7;(repeat (first | refine aK ?_ | refine cZ ?_));refine ak ?_;intro b3 w8 hb3 hS8;(repeat (first | (refine aF ?_; intro _ _) | refine cZ ?_));rename_i hS9;exact ma b3 bs bl _ _ (by (repeat (exact Le.refl _))) (hS9.keep [.at b3,.at bs,.at bl,.at b2])
  ·refine ak ?_
   intro b3 w7 hb3 hS7;(repeat (refine cZ ?_));refine hms hS7 ?_;intro bl w8 hS8;(repeat (first | refine aK ?_ | (refine aF ?_; intro _ _) | refine cZ ?_));rename_i hS9;exact ma b3 bs bl _ _ (by (repeat (exact Le.refl _))) (hS9.keep [.at b3,.at bs,.at bl,.at b2])
 ·refine hms hS5 ?_
  intro bl w6 hS6;(repeat (refine cZ ?_));refine ⟨?_,?_⟩
  ·refine hms hS6 ?_
   intro bs w7 hS7;(repeat (first | refine aK ?_ | refine cZ ?_));refine ak ?_;intro b3 w8 hb3 hS8;(repeat (first | (refine aF ?_; intro _ _) | refine cZ ?_));rename_i hS9;exact ma b3 bs bl _ _ (by (repeat (exact Le.refl _))) (hS9.keep [.at b3,.at bs,.at bl,.at b2])
  ·refine ak ?_
   intro b3 w7 hb3 hS7;(repeat (refine cZ ?_));refine hms hS7 ?_;intro bs w8 hS8;(repeat (first | refine aK ?_ | (refine aF ?_; intro _ _) | refine cZ ?_));rename_i hS9;exact ma b3 bs bl _ _ (by (repeat (exact Le.refl _))) (hS9.keep [.at b3,.at bs,.at bl,.at b2])
 ·refine ak ?_
  intro b3 w6 hb3 hS6;(repeat (refine cZ ?_));refine ⟨?_,?_⟩
  ·refine hms hS6 ?_
   intro bs w7 hS7;(repeat (refine cZ ?_));refine hms hS7 ?_;intro bl w8 hS8;(repeat (first | refine aK ?_ | (refine aF ?_; intro _ _) | refine cZ ?_));rename_i hS9;exact ma b3 bs bl _ _ (by (repeat (exact Le.refl _))) (hS9.keep [.at b3,.at bs,.at bl,.at b2])
  ·refine hms hS6 ?_
   intro bl w7 hS7;(repeat (refine cZ ?_));refine hms hS7 ?_;intro bs w8 hS8;(repeat (first | refine aK ?_ | (refine aF ?_; intro _ _) | refine cZ ?_));rename_i hS9;exact ma b3 bs bl _ _ (by (repeat (exact Le.refl _))) (hS9.keep [.at b3,.at bs,.at bl,.at b2]))
end
section
abbrev chV (p:Int × Int):Value:=.agg [.int .i64 p.1,.int .i64 p.2].toArray
theorem nt {z:Z} {w:World} {v:Value} {c:aH} (hc:CodeR z v c):Fn1 16 #[v] z w fun _ r=>r = chV (ag c):=fnA en16 (by
 intro hS R hR;unfold vc16;obtain ⟨a1,a2,a3,a4,a5,a6,k1,k2,k3,k4,k5,k6,rfl,h1,h2,h3,h4,h5,h6⟩:=hc.form;haveI:fQ z _ c:=⟨hc⟩
 have hbig:=h6.big;refine aP ?_;intro bc w1 hbc hS1;refine ak ?_;intro b2 w2 hb2 hS2;clear hS hS1;have hR2:∀ w' z' L' (p:Int × Int),Res w z [] w' z' L'->p = ag c->R (chV p) w':=fun w' z' L' p k e=>by rw [e]; exact hR _ _ _ k
 clear hR;(repeat (first | refine aA ?_ | refine ae ?_ | (refine cE ?_; intro _ _ _ _)));refine aU (fun e1=>?_) (fun e1=>?_)
 ·(repeat (first | refine aA ?_ | (refine aF ?_; intro _ _) | refine aq ?_))
  exact hR2 _ _ _ (3,0) (by assumption) (by rw [ag,if_pos e1])
 have n1:¬ bH c = false:=by rw [e1]; simp
 have hpp:=@xh c;(repeat (first | refine aA ?_ | refine aE ?_ | (refine JC ?_; intro _ _ _ _)));rename_i z3 w3 hz3 hS3;have hpq:(bif decide ((c.ins.length:Int) = 0) then true else !qa c) = !dR c:=by
  rw [hpp,show decide ((c.ins.length:Int) = 0) = decide (c.ins.length = 0) from decide_eq_decide.2 (by omega),Bool.cond_true_left]
  cases decide (c.ins.length = 0) <;> cases qa c <;> rfl
 rw [hpq];refine aU (fun e2=>?_) (fun e2=>?_)
 ·(repeat (first | refine aA ?_ | (refine aF ?_; intro _ _) | refine aq ?_))
  exact hR2 _ _ _ (1,0) (by assumption) (by rw [ag,if_neg n1,if_pos e2])
 have n2:¬ dR c = false:=by rw [e2]; simp
 have hbd:=dW e1;have hpos:=im e2;have hlab:=nM e2;have hz3':Le z z3:=by (repeat (exact Res.zle (by assumption)))
 refine cC (fun (k:Nat) x w'=>x = .int .i64 k/\k <= c.ins.length/\(∀ j i,j < k->c.ins[j]? = some i->bX c i = true)/\∃ z',Le z z'/\Res w z [] w' z' [(b2,.cells [.int .i64 0,.int .i64 0].toArray 35 (0,0)),(bc,.cells (dq a1 a2 a3 a4 a5 a6 k1 k2 k3 k4 k5 k6 c).toArray 28 (0,0))]) (fun k=>c.ins.length - k) 0
  ⟨rfl,Nat.zero_le _,fun _ _ h=>by omega,z3,hz3',hS3⟩ ?_
 rintro I M k x w4 m ⟨rfl,hk,hall,z4,hz4,hS4⟩ back
 clear hS3 hS2;obtain ⟨_,ai,ki,he,_,hel⟩:=h6.form
 cases he
 (repeat (first | refine aA ?_ | refine aE ?_));refine aC (fun h=>?_) (fun h=>?_)
 ·have hlt:k < c.ins.length:=by omega
  have hi:=getElem?_eq_getElem hlt;haveI:InR (k:Int) (c.ins.length:Nat):=⟨by omega,by omega⟩
  haveI:InI ((k:Int) + 1):=⟨by omega⟩
  obtain ⟨b,off,cs,rfl,rfl,hat⟩:=hel _ _ hi;haveI:Fz z b (off + (k:Int).toNat * 4) c.ins[k].cells:=⟨hat⟩
  (repeat (first | (refine iDr ?_; intro _ _) | refine aK ?_ | refine aW ?_ | refine aq ?_ | refine bN ?_ | (refine cE ?_; intro _ _ _ _) | refine jO ?_));refine aU (fun e3=>?_) (fun e3=>?_)
  ·have hf:iX c = (k:Int):=iz (x:=c.ins[k]) (fun j y hj hy=>by rw [hall j y hj hy]; rfl) hi (by rw [e3]; rfl)
   (repeat (first | refine aA ?_ | (refine aF ?_; intro _ _) | refine aq ?_));exact hR2 _ _ _ (1,(k:Int)) (by assumption) (by rw [ag,if_neg n1,if_neg n2,if_pos (by omega),hf])
  ·(repeat (refine aA ?_))
   rename_i hS5;refine back (k + 1) _ _ ⟨by simp,by omega,fun j i hj hji=>?_,_,?_,hS5⟩ (by omega)
   ·rcases Nat.lt_or_eq_of_le (Nat.le_of_lt_succ hj) with hj | hj
    ·exact hall j i hj hji
    ·subst hj; rw [hi] at hji; cases hji; exact e3
   ·(repeat (exact Res.zle (by assumption)))
 ·have hall':∀ i ∈ c.ins,bX c i = true:=fun i hm=>by
   obtain ⟨j,hj⟩:=List.mem_iff_getElem?.1 hm;exact hall j i (by have:=(List.getElem?_eq_some_iff.1 hj).1; omega) hj
  have hf:iX c = -1:=nT (fun i y hm=>by rw [hall' y (mem_of_getElem? hm)]; rfl);have n3:¬ 0 <= iX c:=by rw [hf]; decide
  have e0:(c.ins.length:Int) - 1 = ((c.ins.length - 1:Nat):Int):=by omega
  haveI:InI ((c.ins.length:Int) - 1):=⟨by omega⟩
  haveI:InR ((c.ins.length - 1:Nat):Int) (c.ins.length:Nat):=⟨by omega,by omega⟩
  have hi:c.ins[c.ins.length - 1]? = some (gA c):=by rw [gA,aX,getD_eq_getElem?_getD,getElem?_eq_getElem (by omega)]; rfl
  obtain ⟨b,off,cs,rfl,rfl,hat⟩:=hel _ _ hi;haveI:Fz z b (off + ((c.ins.length - 1:Nat):Int).toNat * 4) (gA c).cells:=⟨hat⟩
  haveI:Fz z b (off + ((c.ins.length - 1:Nat):Int).toNat * 4 + 0) [.int .i64 (gA c).op]:=⟨hat.fld (i:=0) rfl rfl⟩
  haveI:Fz z b (off + ((c.ins.length - 1:Nat):Int).toNat * 4) [.int .i64 (gA c).op]:=⟨hat.fld (i:=0) rfl rfl⟩
  have hrt:=hall' _ (mem_of_getElem? hi);have hop:cO (gA c).op = true:=by unfold bX at hrt; rw [Bool.and_eq_true] at hrt; exact hrt.1
  have hop':=hop;simp only [cO,Bool.and_eq_true,decide_eq_true_eq] at hop';obtain ⟨_,_,hfin⟩:=nD (gA c).op;(repeat (first | (refine iDr ?_; intro _ _) | refine aA ?_ | refine aK ?_ | refine aE ?_ | refine aW ?_));simp only [e0];(repeat (first | refine aK ?_ | refine bz ?_));rename_i hS5;refine ap oW ?_;rintro z6 w6 v6 hz6 hS6 ⟨br,rfl,hv⟩
  clear hS5;haveI:InR (gA c).op (47:Nat):=⟨by omega,by omega⟩
  obtain ⟨cs,hr,hatr⟩:=hv.get (sJ hop)
  cases hr
  have hat9:=hatr.fld (i:=9) rfl rfl;(repeat (first | refine aK ?_ | refine bN ?_ | refine cZ ?_));refine fh (by simpa [El.row] using hat9) ?_;(repeat (refine aK ?_));rw [hfin];refine aU (fun e4=>?_) (fun e4=>?_)
  ·(repeat (first | refine aA ?_ | (refine aF ?_; intro _ _) | refine aq ?_))
   exact hR2 _ _ _ (2,((c.ins.length - 1:Nat):Int)) (by assumption) (by rw [ag,if_neg n1,if_neg n2,if_neg n3,if_pos e4,e0])
  have n4:¬ (aG (gA c).op).final = false:=by rw [e4]; simp
  (repeat (refine ae ?_));refine ap (sQ (hc.mono hS6.zle) hbd.2.2.2.1 hpos hbd.2.2.2.2.2 hall' hlab) ?_;rintro z8 w8 v8 hz8 hS8 hd
  have hck:ag c = match bK c with | none=>(12,0) | some _=>(0,0):=by rw [ag,if_neg n1,if_neg n2,if_neg n3,if_neg n4]; rfl
  cases hdm:bK c with
  | none=>
   rw [hdm] at hd hck
   cases hd
   (repeat (first | refine aA ?_ | (refine aF ?_; intro _ _) | refine aq ?_));exact hR2 _ _ _ (12,0) (by assumption) hck.symm
  | some kn=>
   rw [hdm] at hd hck;obtain ⟨v1,v2,rfl,_,_⟩:=hd;(repeat (first | refine aA ?_ | (refine aF ?_; intro _ _) | refine aq ?_));exact hR2 _ _ _ (0,0) (by assumption) hck.symm)
end
section
end
section
end
section
abbrev far:Int:=1099511627776
def tH {α β:Type} (x:Except Nat (α × Nat)) (f:α->Nat->Except Nat (β × Nat)):Except Nat (β × Nat):=
 match x with
 | .error e=>.error e
 | .ok (a,p)=>f a p
end
section
structure Cod {α:Type} (b:List UInt8) (f:α->List UInt8) (g:Nat->Except Nat (α × Nat)) (ok:α->Prop):Prop where
 fwd:∀ x p rest,ok x->b.drop p = f x ++ rest->g p = .ok (x,p + (f x).length)
 bwd:∀ x p q,g p = .ok (x,q)->b.drop p = f x ++ b.drop q/\q <= b.length
theorem Cod.bind {α β:Type} {b:List UInt8} {f:α->List UInt8} {g:Nat->Except Nat (α × Nat)} {ok:α->Prop} {f2:α->β->List UInt8} {g2:α->Nat->Except Nat (β × Nat)} {ok2:β->Prop} {key:β->α}
  (h:Cod b f g ok) (h2:∀ a,(∀ x p rest,ok2 x->key x = a->b.drop p = f2 a x ++ rest->g2 a p = .ok (x,p + (f2 a x).length))/\(∀ x p q,g2 a p = .ok (x,q)->b.drop p = f2 a x ++ b.drop q/\q <= b.length/\key x = a)) (hk:∀ x,ok2 x->ok (key x)) :
  Cod b (fun x=>f (key x) ++ f2 (key x) x) (fun p=>tH (g p) g2) ok2 where
 fwd:=fun x p rest hx he=>by
  rw [append_assoc] at he;have h1:=h.fwd (key x) p _ (hk x hx) he;have hd:b.drop (p + (f (key x)).length) = f2 (key x) x ++ rest:=by
   rw [<- drop_drop,he,drop_left']
   rfl
  unfold tH;rw [h1];simp only;rw [(h2 (key x)).1 x _ rest hx rfl hd,length_append,Nat.add_assoc]
 bwd:=fun x p q he=>by
  unfold tH at he
  cases hg:g p with
  | error e=>rw [hg] at he; cases he
  | ok y=>
   obtain ⟨a,r⟩:=y;rw [hg] at he;simp only at he;obtain ⟨h3,h4,h5⟩:=(h2 a).2 x r q he;subst h5;have h6:=(h.bwd _ _ _ hg).1;exact ⟨by rw [h6,h3,append_assoc],h4⟩
end
section
end
section
end
section
structure Ok (c:aH):Prop where
 lim:bH c = true
 par:dR c = true
 rt:∀ i ∈ c.ins,bX c i = true
 fin:(aG (gA c).op).final = true
theorem Ok.pos {c:aH} (h:Ok c):0 < c.ins.length:=im h.par
end
section
end
section
end
section
theorem DR {c:aH} (h:(ag c).1 = 0):Ok c:=by
 obtain ⟨_,h1,h2,h3,h4,_⟩:=gG h;exact ⟨h1,h2,h3,h4⟩
end
section
theorem Cod.last {α β:Type} {b:List UInt8} {f:α->List UInt8} {g:Nat->Except Nat (α × Nat)} {ok:α->Prop} {mk:α->β} {key:β->α} (h:Cod b f g ok) (hk:∀ a,key (mk a) = a) {P:β->Prop} (hm:∀ x,P x->mk (key x) = x) :
  (∀ x p rest,(P x/\ok (key x))->b.drop p = f (key x) ++ rest->tH (g p) (fun a q=>.ok (mk a,q)) = .ok (x,p + (f (key x)).length))/\(∀ x p q,tH (g p) (fun a q=>.ok (mk a,q)) = .ok (x,q)->b.drop p = f (key x) ++ b.drop q/\q <= b.length/\∃ a,x = mk a):=by
 refine ⟨fun x p rest hx he=>?_,fun x p q he=>?_⟩
 ·simp only [tH,h.fwd _ _ _ hx.2 he,hm x hx.1]
 ·simp only [tH] at he
  cases hg:g p with
  | error e=>rw [hg] at he; cases he
  | ok y=>
   obtain ⟨a,r⟩:=y;rw [hg] at he;simp only [Except.ok.injEq,Prod.mk.injEq] at he;obtain ⟨rfl,rfl⟩:=he;rw [hk];obtain ⟨h1,h2⟩:=h.bwd _ _ _ hg;exact ⟨h1,h2,a,rfl⟩
end
section
end
section
section
variable {w0 w:World} {z0 z:Z} {B0 B L F:Bl} {f:FuncId} {args args' first cap:Array Value} {K:RP} {Pn:PnT} {R:Z->Bl->Value->Prop} {G:Z->Bl->List PanicEntry->Prop}
end
end
section
section
variable {w0 w:World} {z0 z z':Z} {B0 B L:Bl} {α:Type} {E:El α} {us cs:List Value} {xs:List α} {x:α}
structure Lsl (E:El α) (z:Z) (us:List Value) (xs:List α):Prop where
 len:us.length = xs.length * E.size
 at_:∀ (i:Nat) (x:α),xs[i]? = some x->∃ cs,E.rel z cs x/\∀ (j:Nat) (v:Value),cs[j]? = some v->us[i * E.size + j]? = some v
theorem Lsl.nil:Lsl E z [] []:=⟨by simp,fun i x h=>by simp at h⟩
theorem Lsl.mono (h:Lsl E z us xs) (hz:Le z z'):Lsl E z' us xs:=⟨h.len,fun i x hx=>let ⟨cs,h1,h2⟩:=h.at_ i x hx; ⟨cs,E.mono h1 hz,h2⟩⟩
theorem Lsl.push (h:Lsl E z us xs) (hx:E.rel z cs x):Lsl E z (us ++ cs) (xs ++ [x]):=by
 have hc:=E.len hx;refine ⟨by rw [length_append,length_append,h.len,hc,Nat.add_mul]; simp,fun i y hy=>?_⟩
 by_cases hi:i < xs.length
 ·rw [getElem?_append_left hi] at hy
  obtain ⟨ds,h1,h2⟩:=h.at_ i y hy;refine ⟨ds,h1,fun j v hv=>?_⟩;have:=h2 j v hv;rw [getElem?_append_left (List.getElem?_eq_some_iff.1 this).1];exact this
 ·have hle:xs.length <= i:=by omega
  rw [getElem?_append_right hle] at hy;have hi0:i = xs.length:=by
   have:=(List.getElem?_eq_some_iff.1 hy).1;simp at this;omega
  subst hi0;simp only [Nat.sub_self,getElem?_cons_zero,Option.some.injEq] at hy;subst hy;refine ⟨cs,hx,fun j v hv=>?_⟩;rw [getElem?_append_right (by rw [h.len]; omega),h.len,Nat.add_sub_cancel_left];exact hv
theorem Res.freezeL {e:Nat} {v:Value} (hS:Res w0 z0 B0 w z (B ++ L)) (ho:OwnSl e E.size B v xs.length us) (hl:Lsl E z us xs) (hb:xs.length <= big):∃ z',Le z z'/\Res w0 z0 B0 w z' L/\SlR E z' v xs:=by
 rcases ho.2 with ⟨rfl,rfl,h0⟩ | ⟨b,cap,sp,rfl,rfl,h1,h2,h3⟩
 ·have:xs = []:=eq_nil_of_length_eq_zero h0
  subst this;exact ⟨z,Le.refl _,hS,SlR.nil⟩
 ·refine ⟨_,Res.freeze_le hS,Res.freeze hS,some ⟨b,0,none⟩,cap,rfl,h1,hb,fun _=>⟨b,0,rfl,fun j x hx=>?_⟩⟩
  obtain ⟨cs,g1,g2⟩:=hl.at_ j x hx;refine ⟨cs,E.mono g1 (Res.freeze_le hS),_,_,_,if_pos rfl,fun q v hv=>?_⟩;have:=g2 q v hv;simp only [Nat.zero_add,getElem?_toArray];rw [getElem?_append_left (List.getElem?_eq_some_iff.1 this).1];exact this
end
theorem OwnSl.room {e size n:Nat} {B:Bl} {v:Value} {xs:List Value} (h:OwnSl e size B v n xs):∃ a cap,v = .slice a n cap/\n <= cap:=h.form
theorem SlR.sub {α:Type} {E:El α} {z:Z} {b off cap l h s:Nat} {xs:List α} (hx:SlR E z (.slice (some ⟨b,off,none⟩) xs.length cap) xs) (hs:E.size = s) (hl:l <= h) (hh:h <= xs.length) :
  SlR E z (.slice (some ⟨b,if cap = l then off else off + l * s,none⟩) (h - l) (cap - l)) ((xs.drop l).take (h - l)):=
 SlR.take (hx.drop hs (by omega)) (by rw [length_drop]; omega)
class TyIf (t:TypeId):Prop where
 und:∃ ms,Tryz.prog.underlying t = some (.interface ms)
theorem TyIf.of {t:TypeId} (h:(match Tryz.prog.underlying t with | some (.interface _)=>true | _=>false) = true):TyIf t:=⟨by
 split at h
 ·rename_i ms hu; exact ⟨ms,hu⟩
 ·cases h⟩
theorem wH {d t u:Nat} {v:Value} (g:TyIf t) (w:World):(Op.equalIn (d + 1) t (.iface u v) .nilIface).run Tryz.prog w = .ok false w:=by
 obtain ⟨ms,h⟩:=g.und;unfold Op.equalIn;simp only [Sem.run_bind,run_underlying h,Result.andThen_ok]
 rfl
theorem wG {d t:Nat} (g:TyIf t) (w:World):(Op.equalIn (d + 1) t .nilIface .nilIface).run Tryz.prog w = .ok true w:=by
 obtain ⟨ms,h⟩:=g.und;unfold Op.equalIn;simp only [Sem.run_bind,run_underlying h,Result.andThen_ok]
 rfl
theorem Cn {t u:Nat} {x:Operand} {v:Value} (g:TyIf t) (w:World):(eq .eql t x (.const .nilIface) (.iface u v) .nilIface).run Tryz.prog w = .ok (.bool false) w:=by
 have h:(Op.equalIn Op.maxDepth t (.iface u v) .nilIface).run Tryz.prog w = .ok false w:=wH (d:=9999) g w;simp only [eq,eqGuard,binOp,Op.equal,Sem.run_bind,Bool.not_true,Bool.false_eq_true,if_false,Bool.or_true,if_true,bv,Result.andThen_ok,ite_self,h]
theorem Cm {t:Nat} {x:Operand} (g:TyIf t) (w:World):(eq .eql t x (.const .nilIface) .nilIface .nilIface).run Tryz.prog w = .ok (.bool true) w:=by
 have h:(Op.equalIn Op.maxDepth t .nilIface .nilIface).run Tryz.prog w = .ok true w:=wG (d:=9999) g w;simp only [eq,eqGuard,binOp,Op.equal,Sem.run_bind,Bool.not_true,Bool.false_eq_true,if_false,Bool.or_true,if_true,bv,Result.andThen_ok,ite_self,h]
end
section
def fy (s p:ByteArray):Bool:=bif decide ((s.size:Int) ≥ p.size) then decide (s.extract 0 p.size = p) else false
instance {s p:ByteArray}:Pu 267 #[.string s,.string p] (.bool (fy s p)):=⟨fun z w=>Fn1.intro fun hS=>en267 (by
 unfold vc267;refine aA ?_;refine aA ?_;refine aA ?_;intro K0 hK0;refine aC (fun h=>?_) (fun h=>?_)
 ·haveI:InR (p.size:Int) ((s.size:Int) + 1):=⟨by omega,by omega⟩
  (repeat (refine aA ?_));refine hK0 _ _ fun _=>?_
  exact ⟨_,_,‹_›,by unfold fy; rw [decide_eq_true h]; simp⟩
 ·refine hK0 _ _ fun _=>?_
  exact ⟨_,_,‹_›,by unfold fy; rw [decide_eq_false h]; rfl⟩)⟩
instance {s p:ByteArray}:Pu 239 #[.string s,.string p] (.bool (fy s p)):=⟨fun z w=>Fn1.intro fun hS=>en239 (by
 unfold vc239;(repeat (refine aN ?_; intro _ _ _ _));exact ⟨_,_,‹_›,rfl⟩)⟩
theorem rC {s p:ByteArray} (h:fy s p = true):p.size <= s.size:=by
 unfold fy at h
 by_cases hh:(s.size:Int) ≥ p.size
 ·omega
 ·rw [decide_eq_false hh] at h; cases h
def jQ (s p:ByteArray):Value:=if fy s p = true then .tuple #[.string (s.extract p.size s.size),.bool true] else .tuple #[.string s,.bool false]
instance {s p:ByteArray}:Pu 269 #[.string s,.string p] (jQ s p):=⟨fun z w=>Fn1.intro fun hS=>en269 (by
 unfold vc269;(repeat (first | refine aA ?_ | (refine aN ?_; intro _ _ _ _)));refine aU (fun h=>?_) (fun h=>?_)
 ·exact ⟨_,_,‹_›,by unfold jQ; rw [if_neg (by rw [h]; simp)]⟩
 ·have:=rC h
  haveI:InR (p.size:Int) ((s.size:Int) + 1):=⟨by omega,by omega⟩
  (repeat (refine aA ?_));exact ⟨_,_,‹_›,by unfold jQ; rw [if_pos h]; simp⟩)⟩
instance {s p:ByteArray}:Pu 241 #[.string s,.string p] (jQ s p):=⟨fun z w=>Fn1.intro fun hS=>en241 (by
 unfold vc241;refine aN ?_;intro z1 w1 hz1 hS1;unfold jQ
 split
 ·(repeat (refine aA ?_))
  exact ⟨_,_,‹_›,rfl⟩
 ·(repeat (refine aA ?_))
  exact ⟨_,_,‹_›,rfl⟩)⟩
def nf (s p:ByteArray):ByteArray:=if fy s p = true then s.extract p.size s.size else s
instance {s p:ByteArray}:Pu 273 #[.string s,.string p] (.string (nf s p)):=⟨fun z w=>Fn1.intro fun hS=>en273 (by
 unfold vc273;(repeat (refine aN ?_; intro _ _ _ _));refine aO (fun h=>?_) (fun h=>?_)
 ·have:=rC h
  haveI:InR (p.size:Int) ((s.size:Int) + 1):=⟨by omega,by omega⟩
  (repeat (refine aA ?_));exact ⟨_,_,‹_›,by unfold nf; rw [if_pos h]; simp⟩
 ·exact ⟨_,_,‹_›,by unfold nf; rw [if_neg (by rw [h]; simp)]⟩)⟩
instance {s p:ByteArray}:Pu 244 #[.string s,.string p] (.string (nf s p)):=⟨fun z w=>Fn1.intro fun hS=>en244 (by
 unfold vc244;(repeat (refine aN ?_; intro _ _ _ _));exact ⟨_,_,‹_›,rfl⟩)⟩
def gw (s:ByteArray) (c:UInt8):Value:=if ez s c = true then .tuple #[.string (s.extract 0 (s.size - 1)),.bool true] else .tuple #[.string s,.bool false]
theorem xw {s:ByteArray} {c:UInt8} (h:ez s c = true):0 < s.size:=by
 unfold ez at h;have h:=of_decide_eq_true h;rw [aI]
 cases hb:bytes s with
 | nil=>rw [hb] at h; cases h
 | cons x l=>simp
instance {s:ByteArray} {c:UInt8} [hs:Sm s]:Pu 270 #[.string s,.string (b1 c)] (gw s c):=⟨fun z w=>Fn1.intro fun hS=>en270 (by
 unfold vc270;(repeat (first | refine aA ?_ | (refine aN ?_; intro _ _ _ _)));refine aU (fun h=>?_) (fun h=>?_)
 ·exact ⟨_,_,‹_›,by unfold gw; rw [if_neg (by rw [h]; simp)]⟩
 ·have h0:=xw h
  have h1:(b1 c).size = 1:=rfl;have hsm:=hs.h;simp only [big] at hsm;simp only [h1];haveI:InI ((s.size:Int) - ((1:Nat):Int)):=⟨by omega⟩
  haveI:InR ((s.size:Int) - ((1:Nat):Int)) ((s.size:Int) + 1):=⟨by omega,by omega⟩
  (repeat (refine aA ?_));exact ⟨_,_,‹_›,by unfold gw; rw [if_pos h,show ((s.size:Int) - 1).toNat = s.size - 1 by omega]⟩)⟩
instance {s:ByteArray} {c:UInt8} [hs:Sm s]:Pu 242 #[.string s,.string (b1 c)] (gw s c):=⟨fun z w=>Fn1.intro fun hS=>en242 (by
 unfold vc242;refine aN ?_;intro z1 w1 hz1 hS1;unfold gw
 split
 ·(repeat (refine aA ?_))
  exact ⟨_,_,‹_›,rfl⟩
 ·(repeat (refine aA ?_))
  exact ⟨_,_,‹_›,rfl⟩)⟩
theorem qj {b:Nat} {B:Bl} {xs:List Value} {c:UInt8} {z:Z} {w:World} (hB:BuOk b B xs) (hn:xs.length + 1 <= room) :
  Fn 268 #[.pointer (some ⟨b,0,none⟩),.int .u8 c.toNat] z B w fun _ B' r=>BuOk b B' (xs ++ [.int .u8 c.toNat])/\r = .nilIface:=Fn.intro fun hS=>en268 (by
 unfold vc268;obtain ⟨p,v,Bb,rfl,hp,ho⟩:=hB.h;refine bO (B:=[(b,buO p v)]) (F:=Bb) hS (nW hp) (by simp) ?_;rintro z1 B1 w1 v1 hz1 hS1 ⟨rfl,rfl⟩
 obtain ⟨a,cap,rfl,hcap⟩:=ho.form;have hS1':Res w z _ w1 z1 ((b,buO (some ⟨b,0,none⟩) (.slice a xs.length cap)) :: Bb):=hS1;clear hS1;(repeat (first | refine aA ?_ | refine aE ?_));refine cb hS1' ho (by simp only [room] at hn ⊢; omega) (by omega) (by omega) ?_;intro B' v' w2 ho' hS3;obtain ⟨a',cap',rfl,hcap'⟩:=ho'.form;clear hS1';(repeat (first | refine aA ?_ | (refine aF ?_; intro _ _)));rename_i hSe;refine ⟨_,_,(hSe.bringB b),⟨_,_,_,rfl,.inr rfl,?_⟩,rfl⟩;rw [show (xs ++ [Value.int .u8 (c.toNat:Int)]).length = xs.length + 1 by simp]
 simpa using ho')
end
section
theorem eX {s:ByteArray} {k:Nat} {c:UInt8} (h:(bytes s)[k]? = some c):bt s (k:Int) = (c.toNat:Int):=by
 unfold bt;rw [Int.toNat_natCast,getD_eq_getElem?_getD,show s.data.toList[k]? = some c from h]
 rfl
theorem u8_eq {c d:UInt8}:((c.toNat:Int) = (d.toNat:Int)) ↔ c = d:=by
 constructor
 ·intro h; exact UInt8.toNat_inj.1 (by omega)
 ·rintro rfl; rfl
def cK:Bool->List UInt8->List UInt8->Option (List UInt8 × List UInt8)
 | false,_,[]=>none
 | true,acc,[]=>some (acc,[])
 | false,acc,c :: t=>if c = 34 then cK true acc t else cK false (acc ++ [c]) t
 | true,acc,c :: t=>if c = 34 then cK false (acc ++ [34]) t else some (acc,c :: t)
abbrev mz (l:List UInt8):Value:=.string ⟨l.toArray⟩
def xt:Option (List UInt8 × List UInt8)->Value
 | none=>.tuple #[.string ⟨#[]⟩,.string ⟨#[]⟩,.bool false]
 | some (a,r)=>.tuple #[mz a,mz r,.bool true]
theorem mX {s:ByteArray} {k:Nat}:s.extract k s.size = ⟨((bytes s).drop k).toArray⟩:=by
 apply ByteArray.ext
 apply Array.toList_inj.1
 have:=df s k;rw [toList_toArray];exact this
theorem vj {z:Z} {w:World} {s:ByteArray} (hs:s.size <= 1000000):Fn1 240 #[.string s] z w fun _ r=>r = xt (cK false [] ((bytes s).drop 1)):=Fn1.intro fun hS=>en240 (by
 unfold vc240;generalize hRR:(fun (v:Value) (w':World)=>∃ z' L',Res w z [] w' z' L'/\v = xt (cK false [] ((bytes s).drop 1))) = RR;have hR:∀ z' w' L' r,Res w z [] w' z' L'->r = xt (cK false [] ((bytes s).drop 1))->RR r w':=fun z' w' L' r k e=>by rw [<- hRR]; exact ⟨_,_,k,e⟩
 clear hRR;generalize hX:cK false [] ((bytes s).drop 1) = X at hR;refine ak ?_;intro bb w1 hbb hS1;clear hS;have hB0:BuOk bb [(bb,buO none (.slice none 0 0))] (Lib.byteCells []):=BuOk.new;have hsl:s.size = (bytes s).length:=aI s;refine cC (fun (p:Nat × List UInt8) x w'=>x = .int .i64 p.1/\p.2.length <= p.1/\p.1 <= s.size + 1/\cK false p.2 ((bytes s).drop p.1) = X/\∃ B' z',Le z z'/\BuOk bb B' (Lib.byteCells p.2)/\Res w z [] w' z' B') (fun p=>s.size + 1 - p.1) (1,[]) ⟨rfl,Nat.zero_le _,by omega,hX,_,z,Le.refl _,hB0,hS1⟩ ?_;rintro I M ⟨k,acc⟩ x w2 m ⟨rfl,hal,hk,he,B2,z2,hz2,hB2,hS2⟩ back
 simp only at hal hk he hB2;dsimp only;clear hS1 hB0 hX;refine aA ?_;refine aA ?_;refine aC (fun h=>?_) (fun h=>?_)
 ·have hlt:k < s.size:=by omega
  have hlt':k < (bytes s).length:=by omega
  have hc:(bytes s)[k]? = some (bytes s)[k]:=getElem?_eq_getElem hlt';rw [drop_eq_getElem_cons hlt'] at he;generalize (bytes s)[k] = c at hc he;haveI:dI s (k:Int):=⟨by omega,by omega⟩
  haveI:InI ((k:Int) + 1):=⟨by omega⟩
  intro K0 hK0;have mk:∀ (j:Nat) acc' w' z' B',acc'.length <= j + 1->k <= j->j < s.size->cK false acc' ((bytes s).drop (j + 1)) = X->Le z z'->BuOk bb B' (Lib.byteCells acc')->Res w z [] w' z' B'->K0 [.int .i64 j] w':=by
   intro j acc' w' z' B' h1 h2 h3 h4 h5 h6 h7;refine hK0 _ _ fun _=>?_
   haveI:InI ((j:Int) + 1):=⟨by omega⟩
   refine aA ?_;exact back (j + 1,acc') _ _ ⟨by simp,h1,by simp only; omega,h4,B',z',h5,h6,h7⟩ (by simp only; omega)
  clear hK0 back;have fin:∀ w' z' B',Le z z'->BuOk bb B' (Lib.byteCells acc)->Res w z [] w' z' B'->X = some (acc,(bytes s).drop (k + 1))->Dr w' fun w=>PV (bi .add 3 (.int .i64 (k:Nat)) (.int .i64 1)) fun t39=>PV (sl 9 (.string s) (some t39) none none) fun t40=>
    CV (.func (.func 132) #[] #[]) #[.pointer (some ⟨bb,0,none⟩)] w fun t36 w=>RR (.tuple #[t36,t40,.bool true]) w:=by
   intro w' z' B' hz' hB' hS' hX;haveI:InR ((k:Int) + 1) ((s.size:Int) + 1):=⟨by omega,by omega⟩
   (repeat (first | (refine iDr ?_; intro _ _) | refine aK ?_));rename_i hS3;refine bO (B:=B') (F:=[]) (by simpa using hS3) (ft hB' (by simp only [room]; omega)) (by simp) ?_;rintro z4 B4 w4 v4 hz4 hS4 ⟨rfl,rfl⟩
   refine hR _ _ _ _ hS4 ?_;rw [hX,xt,show ((k:Int) + 1).toNat = k + 1 by omega,mX]
  refine aA ?_;rw [eX hc];refine aA ?_;refine aU (fun hn=>?_) (fun hn=>?_)
  ·have hn:c ≠ 34:=fun e=>by subst e; simp at hn
   have he':cK false (acc ++ [c]) ((bytes s).drop (k + 1)) = X:=by rw [<- he,cK,if_neg hn]
   refine aA ?_;rw [eX hc];refine bO (B:=B2) (F:=[]) (by simpa using hS2) (qj (c:=c) hB2 (by rw [Lib.byteCells_length]; simp only [room]; omega)) (by simp) ?_;rintro z4 B4 w4 v4 hz4 hS4 ⟨hB4,rfl⟩
   refine mk k (acc ++ [c]) w4 z4 B4 (by simp; omega) (Nat.le_refl _) hlt he' (by (repeat (exact Res.zle (by assumption)))) ?_ (by simpa using hS4);rw [Lib.byteCells_append];exact hB4
  ·have hn:c = 34:=u8_eq.1 (by simpa using hn)
   subst hn;have he':cK true acc ((bytes s).drop (k + 1)) = X:=by rw [<- he,cK,if_pos rfl]
   refine aA ?_;refine aA ?_;refine aA ?_;intro K1 hK1;refine aC (fun h2=>?_) (fun h2=>?_)
   ·have hlt2:k + 1 < (bytes s).length:=by omega
    have hd:(bytes s)[k + 1]? = some (bytes s)[k + 1]:=getElem?_eq_getElem hlt2;have hdr:(bytes s).drop (k + 1) = (bytes s)[k + 1] :: (bytes s).drop (k + 2):=drop_eq_getElem_cons hlt2;rw [hdr] at he';generalize (bytes s)[k + 1] = d at hd he' hdr;haveI:dI s ((k:Int) + 1):=⟨by omega,by omega⟩
    refine aA ?_;refine aA ?_;rw [show ((k:Int) + 1) = ((k + 1:Nat):Int) by omega,eX hd];refine aA ?_;refine hK1 _ _ fun _=>?_
    refine aC (fun h3=>?_) (fun h3=>?_)
    ·have h3:d = 34:=u8_eq.1 (by simpa using h3)
     subst h3;have he2:cK false (acc ++ [34]) ((bytes s).drop (k + 1 + 1)) = X:=by rw [<- he',cK,if_pos rfl]
     refine bO (B:=B2) (F:=[]) (by simpa using hS2) (qj (c:=34) hB2 (by rw [Lib.byteCells_length]; simp only [room]; omega)) (by simp) ?_;rintro z4 B4 w4 v4 hz4 hS4 ⟨hB4,rfl⟩
     refine aA ?_;rw [show ((k:Int) + 1) = ((k + 1:Nat):Int) by omega];refine mk (k + 1) (acc ++ [34]) w4 z4 B4 (by simp; omega) (by omega) (by omega) he2 (by (repeat (exact Res.zle (by assumption)))) ?_ (by simpa using hS4);rw [Lib.byteCells_append];exact hB4
    ·have h3:d ≠ 34:=fun e=>by subst e; exact h3 rfl
     rw [cK,if_neg h3,<- hdr] at he';exact fin _ _ _ hz2 hB2 hS2 he'.symm
   ·refine hK1 _ _ fun _=>?_
    refine aj ?_;have hdr:(bytes s).drop (k + 1) = []:=drop_of_length_le (by omega);rw [hdr,cK] at he';exact fin _ _ _ hz2 hB2 hS2 (by rw [hdr]; exact he'.symm)
 ·rw [drop_of_length_le (by omega),cK] at he
  subst he;exact hR _ _ _ _ hS2 rfl)
end
section
structure WordM where
 s:ByteArray
 lit:Bool
abbrev WordM.cells (x:WordM):List Value:=[.string x.s,.bool x.lit]
abbrev WordM.v (x:WordM):Value:=.agg x.cells.toArray
def El.word:El WordM where
 size:=2
 rel:=fun _ cs x=>cs = x.cells
 mono:=fun h _=>h
 len:=fun h=>by rw [h]; rfl
 pos:=by decide
def jb (bare:Bool) (s:List UInt8):Option (WordM × List UInt8):=
 if s.head? = some 34/\bare = false then match cK false [] (s.drop 1) with
  | none=>none
  | some (x,r)=>if r ≠ []/\r.head? ≠ some 32 then none else some (⟨⟨x.toArray⟩,true⟩,r)
 else if s.takeWhile (· ≠ 32) = [] then none else some (⟨⟨(s.takeWhile (· ≠ 32)).toArray⟩,false⟩,s.dropWhile (· ≠ 32))
def ce (bare:Bool):Nat->List UInt8->Option (List WordM)
 | 0,_=>none
 | f + 1,s=>match jb bare s with
  | none=>none
  | some (t,r)=>if r = [] then some [t] else if r.drop 1 = [] then none else (ce bare f (r.drop 1)).map (t :: ·)
def rM:ByteArray:=⟨#[108,105,115,116,32]⟩
def zi:ByteArray:=⟨#[110,97,109,101,32]⟩
def fV (s:ByteArray):Bool:=bif fy s rM then true else fy s zi
def dY (s:ByteArray):Option (List WordM):=ce (fV s) (s.size + 1) (bytes s)
theorem io:∀ (l:List UInt8) (q:Bool) (acc a r:List UInt8),cK q acc l = some (a,r)->r.length <= l.length/\a.length <= acc.length + l.length
 | [],false,acc,a,r,h=>by simp [cK] at h
 | [],true,acc,a,r,h=>by simp only [cK,Option.some.injEq,Prod.mk.injEq] at h; obtain ⟨rfl,rfl⟩:=h; simp
 | c :: t,false,acc,a,r,h=>by
  rw [cK] at h
  split at h
  ·have:=io t true acc a r h; simp only [length_cons]; omega
  ·have:=io t false (acc ++ [c]) a r h; simp only [length_cons,length_append,length_nil] at this ⊢; omega
 | c :: t,true,acc,a,r,h=>by
  rw [cK] at h
  split at h
  ·have:=io t false (acc ++ [34]) a r h; simp only [length_cons,length_append,length_nil] at this ⊢; omega
  ·simp only [Option.some.injEq,Prod.mk.injEq] at h; obtain ⟨rfl,rfl⟩:=h; simp
theorem tS {bare:Bool} {s r:List UInt8} {t:WordM} (h:jb bare s = some (t,r)):r.length < s.length/\t.s.size <= s.length:=by
 unfold jb at h
 split at h
 ·rename_i h0
  cases s with
  | nil=>simp at h0
  | cons c l=>
   split at h
   ·cases h
   ·rename_i x r' hl
    split at h
    ·cases h
    ·simp only [Option.some.injEq,Prod.mk.injEq] at h
     obtain ⟨rfl,rfl⟩:=h;have:=io _ _ _ _ _ hl;simp only [drop_succ_cons,drop_zero,length_nil,length_cons] at this ⊢;have h2:(ByteArray.mk x.toArray).size = x.length:=rfl;rw [h2];omega
 ·split at h
  ·cases h
  ·rename_i h0
   simp only [Option.some.injEq,Prod.mk.injEq] at h;obtain ⟨rfl,rfl⟩:=h;have h1:(s.takeWhile (· ≠ 32) ++ s.dropWhile (· ≠ 32)).length = s.length:=by rw [takeWhile_append_dropWhile]
   have h2:(ByteArray.mk (s.takeWhile (· ≠ 32)).toArray).size = (s.takeWhile (· ≠ 32)).length:=rfl;have h3:0 < (s.takeWhile (· ≠ 32)).length:=List.length_pos_iff.2 h0;rw [length_append] at h1;exact ⟨by omega,by rw [h2]; omega⟩
theorem CY (s:ByteArray):fy s ⟨#[34]⟩ = decide ((bytes s).head? = some 34):=by
 unfold fy;have h1:(⟨#[34]⟩:ByteArray).size = 1:=rfl;rw [h1]
 cases hb:bytes s with
 | nil=>
  have:s.size = 0:=by rw [aI,hb]; rfl
  rw [this]
  rfl
 | cons c l=>
  have hsz:s.size = l.length + 1:=by rw [aI,hb]; rfl
  rw [decide_eq_true (by omega:(s.size:Int) ≥ ((1:Nat):Int)),cond_true];have he:bytes (s.extract 0 1) = [c]:=by rw [bB,hb]; rfl
  by_cases hc:c = 34
  ·subst hc
   rw [decide_eq_true (by rfl:(34 :: l:List UInt8).head? = some 34)];refine decide_eq_true ?_
   apply ByteArray.ext
   apply Array.toList_inj.1
   exact he
  ·rw [decide_eq_false (by simp [hc]:¬ (c :: l:List UInt8).head? = some 34)]
   refine decide_eq_false fun e=>?_
   rw [e] at he;have he':[(34:UInt8)] = [c]:=he;exact hc (List.cons.inj he').1.symm
theorem Bj {s:ByteArray} {c:UInt8}:∃ r x,oU s c = .tuple #[.string ⟨((bytes s).takeWhile (· ≠ c)).toArray⟩,r,x]:=by
 unfold oU;have hidx:cj s c = eo (· == c) (bytes s):=rfl;unfold eo at hidx;have htw:∀ (l:List UInt8),(match l.findIdx? (· == c) with | some k=>l.take k | none=>l) = l.takeWhile (· ≠ c):=by
  intro l
  induction l with
  | nil=>rfl
  | cons y l ih=>
   rw [findIdx?_cons,takeWhile_cons]
   by_cases hy:y = c
   ·subst hy; simp
   ·have h1:(y == c) = false:=by simp [hy]
    rw [h1];simp only [Bool.false_eq_true,if_false,ne_eq,hy,not_false_eq_true,decide_true,if_true];rw [<- ih]
    cases l.findIdx? (· == c) <;> simp
 have h:=htw (bytes s)
 cases hf:(bytes s).findIdx? (· == c) with
 | none=>
  rw [hf] at hidx h;simp only at hidx h;rw [if_neg (by rw [hidx]; decide),<- h];exact ⟨_,_,rfl⟩
 | some k=>
  rw [hf] at hidx h;simp only at hidx h;rw [if_pos (by rw [hidx]; omega)];refine ⟨.string (s.extract ((cj s c).toNat + 1) s.size),.bool true,?_⟩;rw [<- h];have:s.extract 0 (cj s c).toNat = ⟨((bytes s).take k).toArray⟩:=by
   apply ByteArray.ext
   apply Array.toList_inj.1
   have:=bB s 0 k;rw [hidx,Int.toNat_natCast,toList_toArray];simp
  rw [this]
end
section
def wT (z:Z) (r:Value) (X:Option (List WordM)):Prop:=
 match X with
 | none=>r = .tuple #[.slice none 0 0,.bool false]
 | some l=>∃ v,r = .tuple #[v,.bool true]/\SlR El.word z v l
theorem wI {s:List UInt8} {c:UInt8}:s.drop (s.takeWhile (· ≠ c)).length = s.dropWhile (· ≠ c):=by
 have h:s = s.takeWhile (· ≠ c) ++ s.dropWhile (· ≠ c):=(takeWhile_append_dropWhile).symm
 conv=>lhs; arg 2; rw [h]
 rw [drop_left']
 rfl
theorem head_while {s:List UInt8} {c:UInt8} (h:s.dropWhile (· ≠ c) ≠ []):(s.dropWhile (· ≠ c)).head? = some c:=by
 induction s with
 | nil=>exact absurd rfl h
 | cons x l ih=>
  rw [dropWhile_cons] at h ⊢
  split
  ·rename_i hx; rw [if_pos hx] at h; exact ih h
  ·rename_i hx
   simp only [ne_eq,decide_not,Bool.not_eq_true',decide_eq_false_iff_not,Decidable.not_not] at hx;rw [hx]; rfl
theorem str_nil {s:ByteArray}:(s = ⟨#[]⟩) ↔ bytes s = []:=by
 constructor
 ·rintro rfl; rfl
 ·intro h
  apply ByteArray.ext
  apply Array.toList_inj.1
  exact h
theorem yc {z:Z} {w:World} {s:ByteArray} (hs:s.size <= 1000000):Fn1 192 #[.string s] z w fun z' r=>wT z' r (dY s):=Fn1.intro fun hS=>en192 (by
 unfold vc192;generalize hRR:(fun (v:Value) (w':World)=>∃ z' L',Res w z [] w' z' L'/\wT z' v (dY s)) = RR;have hR:∀ z' w' L' r,Res w z [] w' z' L'->wT z' r (dY s)->RR r w':=fun z' w' L' r k e=>by rw [<- hRR]; exact ⟨_,_,k,e⟩
 clear hRR;have hX:dY s = ce (fV s) (s.size + 1) (bytes s):=rfl;generalize dY s = X at hR hX;refine aN ?_;intro z1 w1 hz1 hS1;clear hS;intro Ka hKa;have ma:∀ z' w',Le z z'->Res w z [] w' z' []->Ka [.bool (fV s)] w':=by
  intro z2 w2 hz2 hS2;refine hKa _ _ fun _=>?_
  clear hKa hS1;generalize fV s = bare at hX;refine ee (fun (p:List WordM × ByteArray × Nat) x y w'=>y = .string p.2.1/\p.2.1.size < p.2.2/\p.2.2 <= s.size + 1/\p.2.1.size + p.1.length <= s.size/\X = (ce bare p.2.2 (bytes p.2.1)).map (p.1 ++ ·)/\∃ B us z',Le z2 z'/\OwnSl 268 2 B x p.1.length us/\Lsl El.word z' us p.1/\Res w z [] w' z' B) (fun p=>p.2.2) ([],s,s.size + 1) ⟨rfl,by simp,by simp,by simp,by simp [hX],[],[],z2,Le.refl _,OwnSl.nil,Lsl.nil,hS2⟩ ?_;rintro I M ⟨l,t,f⟩ x y w3 m ⟨rfl,hf,hfs,hln,he,B,us,z3,hz3,ho,hls,hS3⟩ back
  simp only at hf hfs hln he ho hls;dsimp only;clear hS2 hX;obtain ⟨f,rfl⟩:∃ f',f = f' + 1:=⟨f - 1,by omega⟩
  rw [ce] at he;have ht:t.size <= 1000000:=by omega
  have htl:t.size = (bytes t).length:=aI t;intro Kb hKb;have mb:∀ tok (r:List UInt8) v' B' us' z' w',jb bare (bytes t) = some (tok,r)->OwnSl 268 2 B' v' (l.length + 1) us'->Lsl El.word z' us' (l ++ [tok])->Le z3 z'->Res w z [] w' z' B'->Kb [v',mz r] w':=by
   intro tok r v' B' us' z' w' h1 h2 h3 h4 h5;refine hKb _ _ _ fun _=>?_
   clear hKb hS3;have hr:=(tS h1).1;rw [h1] at he;simp only at he;obtain ⟨av,cv,rfl,_⟩:=h2.form;refine aA ?_;refine aC (fun hn=>?_) (fun hn=>?_)
   ·have hrn:r = []:=str_nil.1 hn
    rw [if_pos hrn] at he;obtain ⟨z6,hz6,hS6,hv⟩:=Res.freezeL (E:=El.word) (e:=268) (xs:=l ++ [tok]) (h5.bring B') (by rw [length_append]; exact h2) h3 (by simp only [length_append,length_cons,length_nil,big]; omega);refine hR _ _ _ _ hS6 ?_;rw [he];exact ⟨_,rfl,hv⟩
   ·have hrn:¬ r = []:=fun e=>hn (str_nil.2 e)
    rw [if_neg hrn] at he;have hrs:(⟨r.toArray⟩:ByteArray).size = r.length:=rfl;have hrp:0 < r.length:=List.length_pos_iff.2 hrn;haveI:InR 1 (((⟨r.toArray⟩:ByteArray).size:Int) + 1):=⟨by decide,by rw [hrs]; omega⟩
    refine aA ?_;rw [show (1:Int).toNat = 1 from rfl,mX,show bytes (⟨r.toArray⟩:ByteArray) = r from toList_toArray];refine aA ?_;have hds:(⟨(r.drop 1).toArray⟩:ByteArray).size = (r.drop 1).length:=rfl;refine aC (fun hm=>?_) (fun hm=>?_)
    ·have hm:r.drop 1 = []:=str_nil.1 hm
     rw [if_pos hm] at he;exact hR _ _ _ _ h5 (by rw [he]; exact rfl)
    ·have hm:¬ r.drop 1 = []:=fun e=>hm (str_nil.2 e)
     rw [if_neg hm] at he;refine back (l ++ [tok],⟨(r.drop 1).toArray⟩,f) _ _ _ ⟨rfl,?_,by show f <= s.size + 1; omega,?_,?_,B',us',z',by (repeat (first | assumption | refine Le.trans ?_ (by assumption:Le _ _))),by rw [length_append]; exact h2,h3,h5⟩ (by show f < f + 1; omega)
     ·show (⟨(r.drop 1).toArray⟩:ByteArray).size < f
      rw [hds,length_drop]; omega
     ·show (⟨(r.drop 1).toArray⟩:ByteArray).size + (l ++ [tok]).length <= s.size
      rw [hds,length_drop,length_append]; simp only [length_cons,length_nil]; omega
     ·rw [he]
      simp only;rw [show bytes (⟨(r.drop 1).toArray⟩:ByteArray) = r.drop 1 from toList_toArray]
      cases ce bare f (r.drop 1) <;> simp
  have bad:jb bare (bytes t) = none->∀ z' w',Res w z [] w' z' B->RR (.tuple #[.slice none 0 0,.bool false]) w':=by
   intro h z' w' hS';rw [h] at he;exact hR _ _ _ _ hS' (by rw [he]; exact rfl)
  clear hKb hR back;have push:∀ (y:ByteArray) (lit:Bool) z' w' (K:RP),Le z3 z'->Res w z [] w' z' B->(∀ v' B' us' w'',OwnSl 268 2 B' v' (l.length + 1) us'->Lsl El.word z' us' (l ++ [⟨y,lit⟩])->Res w z [] w'' z' B'->K v' w'') ->
    V (bd 268 #[(0,.string y),(1,.bool lit)]) w' fun t43 w=>V (bs 263 1 #[(0,t43)]) w fun t44 w=>V (Builtin.append_ #[263,263] 263 #[x,t44]) w K:=by
   intro y lit z' w' K hz' hS' hk;refine aA ?_;refine cb hS' ho (by simp only [room]; omega) (by simp only [room]; omega) (by omega) ?_;intro B' v' w2 ho' hS'';rw [append_nil] at hS'';exact hk _ _ _ _ ho' ((hls.mono hz').push rfl) hS''
  haveI:Sm t:=⟨by simp only [big]; omega⟩
  (repeat (first | refine JB ?_ | (refine aN ?_; intro _ _ _ _)));rename_i hS4;clear hS3;rw [CY];have hcond:∀ h,(bif decide ((bytes t).head? = some 34) then !bare else false) = h->(h = true ↔ ((bytes t).head? = some 34/\bare = false)):=by
   intro h e;subst e
   by_cases h1:(bytes t).head? = some 34
   ·rw [decide_eq_true h1]; simp [h1]
   ·rw [decide_eq_false h1]; simp [h1]
  refine aO (fun hq=>?_) (fun hq=>?_)
  ·have hq:=(hcond _ hq).1 rfl
   clear hcond;refine ap (vj ht) ?_;rintro z5 w5 v5 hz5 hS5 rfl
   clear hS4;have htok:jb bare (bytes t) = match cK false [] ((bytes t).drop 1) with
     | none=>none
     | some (x,r)=>if r ≠ []/\r.head? ≠ some 32 then none else some (⟨⟨x.toArray⟩,true⟩,r):=by unfold jb; exact if_pos hq
   cases hL:cK false [] ((bytes t).drop 1) with
   | none=>
    rw [hL] at htok;simp only [xt];(repeat (refine aA ?_));intro K1 hK1;refine bC rfl ?_;refine hK1 _ _ fun _=>?_
    refine bC rfl ?_;exact bad htok _ _ (by assumption)
   | some y=>
    obtain ⟨y,r⟩:=y;rw [hL] at htok;simp only at htok;simp only [xt];refine aA ?_;refine aA ?_;refine aA ?_;refine aA ?_;have good:¬ (r ≠ []/\r.head? ≠ some 32)->V (bd 268 #[(0,mz y),(1,.bool true)]) w5 fun t43 w=>V (bs 263 1 #[(0,t43)]) w fun t44 w=>V (Builtin.append_ #[263,263] 263 #[x,t44]) w fun t45 w=>Kb [t45,mz r] w:=by
     intro hn;rw [if_neg hn] at htok;exact push _ _ z5 w5 _ (by (repeat (first | assumption | refine Le.trans ?_ (by assumption:Le _ _)))) hS5 fun v' B' us' w'' h1 h2 h3=>mb _ r _ _ _ z5 _ htok h1 h2 (by (repeat (first | assumption | refine Le.trans ?_ (by assumption:Le _ _)))) h3
    intro K1 hK1;refine dk rfl ?_;refine aA ?_;intro K2 hK2;refine aU (fun hr=>?_) (fun hr=>?_)
    ·have hr:r ≠ []:=fun e=>by subst e; simp at hr
     obtain ⟨c,r',rfl⟩:∃ c r',r = c :: r':=by
      cases r with
      | nil=>exact absurd rfl hr
      | cons c r'=>exact ⟨c,r',rfl⟩
     haveI:dI (⟨(c :: r').toArray⟩:ByteArray) 0:=⟨by decide,by show (0:Int) < (((c :: r').length:Nat):Int); simp⟩
     refine aA ?_;rw [show bt (⟨(c :: r').toArray⟩:ByteArray) 0 = (c.toNat:Int) from eX (k:=0) rfl];refine aA ?_;refine hK2 _ _ fun _=>?_
     refine hK1 _ _ fun _=>?_
     refine aU (fun h32=>?_) (fun h32=>?_)
     ·have h32:c ≠ 32:=fun e=>by subst e; simp at h32
      rw [if_pos ⟨by simp,by simpa using h32⟩] at htok;exact bad htok _ _ hS5
     ·have h32:c = 32:=u8_eq.1 (by simpa using h32)
      exact good fun hh=>hh.2 (by rw [h32]; rfl)
    ·have hr:r = []:=by simpa using hr
     refine hK2 _ _ fun _=>?_
     refine hK1 _ _ fun _=>?_
     refine aj ?_;exact good fun hh=>hh.1 hr
  ·have hq:¬ ((bytes t).head? = some 34/\bare = false):=fun h=>by have:=(hcond _ rfl).2 h; rw [hq] at this; cases this
   clear hcond;refine aN ?_;intro z5 w5 hz5 hS5;clear hS4;obtain ⟨r1,x1,hcut⟩:=Bj (s:=t) (c:=32);rw [hcut];have htok:jb bare (bytes t) = if (bytes t).takeWhile (· ≠ 32) = [] then none else some (⟨⟨((bytes t).takeWhile (· ≠ 32)).toArray⟩,false⟩,(bytes t).dropWhile (· ≠ 32)):=by unfold jb; rw [if_neg hq]
   have hdw:=wI (s:=bytes t) (c:=32);have hle:((bytes t).takeWhile (· ≠ 32)).length <= t.size:=by rw [htl]; exact (takeWhile_sublist _).length_le
   generalize (bytes t).takeWhile (· ≠ 32) = one at *;generalize (bytes t).dropWhile (· ≠ 32) = rest at *;refine aA ?_;refine aA ?_;refine aA ?_;refine aA ?_;refine aC (fun h1=>?_) (fun h1=>?_)
   ·rw [if_pos (str_nil.1 h1)] at htok
    exact bad htok _ _ hS5
   ·rw [if_neg fun e=>h1 (str_nil.2 e)] at htok
    refine push _ _ z5 w5 _ (by (repeat (first | assumption | refine Le.trans ?_ (by assumption:Le _ _)))) hS5 fun v' B' us' w'' h1 h2 h3=>?_
    have hsz:(⟨one.toArray⟩:ByteArray).size = one.length:=rfl;refine aA ?_;haveI:InR ((⟨one.toArray⟩:ByteArray).size:Int) ((t.size:Int) + 1):=⟨by omega,by rw [hsz]; omega⟩
    refine aA ?_;rw [hsz,Int.toNat_natCast,mX,hdw];exact mb _ _ _ _ _ z5 _ htok h1 h2 (by (repeat (first | assumption | refine Le.trans ?_ (by assumption:Le _ _)))) h3
 clear hKa;refine aO (fun h=>?_) (fun h=>?_)
 ·have:=ma _ _ hS1.zle hS1
  rw [show fV s = true by unfold fV; rw [show fy s rM = true from h]; rfl] at this;exact this
 ·refine aN ?_
  intro z2 w2 hz2 hS2;have:=ma _ _ hS2.zle hS2;rw [show fV s = fy s zi by unfold fV; rw [show fy s rM = false from h]; rfl] at this;exact this)
end
end Go.Proofs.YtbeelfopmkbllaaGreatDoor
