/- Texts joined: D1, D2, D3, D4, D5, D6, C66, C67, C68, C69, C70, C71, C72, C73, C74, C75, C76. -/
import Derived.Test.YtbeelfopmkbllaaGreatDoorM6
import Derived.Test.YtbeelfopmkbllaaGreatDoorM5
import Derived.Deep.Upon
set_option linter.unusedSimpArgs false
set_option linter.unusedVariables false
set_option linter.unusedSectionVars false
set_option maxRecDepth 20000
set_option synthInstance.maxHeartbeats 4000000
set_option synthInstance.maxSize 20000
set_option maxHeartbeats 2000000
namespace Go.Proofs.YtbeelfopmkbllaaGreatDoor
section
open Go Q Go.RowKit
abbrev fK (p:Nat->Bool) (k:Nat):List Nat:=(List.range k).filter p
theorem fK_succ {p:Nat->Bool} {k:Nat}:fK p (k + 1) = fK p k ++ (if p k = true then [k] else []):=by
 rw [fK,List.range_succ,List.filter_append]
 cases h:p k <;> simp [h]
theorem fK_mem {p:Nat->Bool} {k x:Nat}:x ∈ fK p k ↔ x < k/\p x = true:=by
 rw [List.mem_filter,List.mem_range]
theorem fK_get {p:Nat->Bool} {i:Nat} (hp:p i = true):∀ {n:Nat},i < n->(fK p n)[(fK p i).length]? = some i
 | 0,h=>absurd h (by omega)
 | n + 1,h=>by
  rw [fK_succ]
  by_cases hi:i = n
  ·subst hi
   rw [if_pos hp,List.getElem?_append_right (by omega),Nat.sub_self]; rfl
  ·have ih:=fK_get hp (n:=n) (by omega)
   have hl:(fK p i).length < (fK p n).length:=by
    rcases Nat.lt_or_ge (fK p i).length (fK p n).length with h | h
    ·exact h
    ·rw [List.getElem?_eq_none h] at ih; cases ih
   rw [List.getElem?_append_left hl]; exact ih
theorem fK_lt {p:Nat->Bool} {i n:Nat} (hp:p i = true) (h:i < n):(fK p i).length < (fK p n).length:=by
 have ih:=fK_get hp h
 rcases Nat.lt_or_ge (fK p i).length (fK p n).length with h | h
 ·exact h
 ·rw [List.getElem?_eq_none h] at ih; cases ih
theorem fK_nodup {p:Nat->Bool} {n:Nat}:(fK p n).Nodup:=List.nodup_range.filter _
theorem fK_idx {p:Nat->Bool} {n j i:Nat} (h:(fK p n)[j]? = some i):i < n/\p i = true/\(fK p i).length = j:=by
 have hm:=fK_mem.1 (List.mem_of_getElem? h)
 refine ⟨hm.1,hm.2,?_⟩
 have h2:=fK_get hm.2 hm.1
 have hl:=fK_lt hm.2 hm.1
 exact (List.getElem?_inj hl fK_nodup).1 (by rw [h2,h])
theorem fK_next {p:Nat->Bool} {i:Nat}:(fK p (i + 1)).length = (fK p i).length + if p i = true then 1 else 0:=by
 rw [fK_succ,List.length_append]; split <;> rfl
theorem fK_mono {p:Nat->Bool} {i:Nat}:∀ {j:Nat},i <= j->(fK p i).length <= (fK p j).length
 | 0,h=>by rw [show i = 0 by omega]; exact Nat.le_refl _
 | j + 1,h=>by
  rw [fK_next]
  rcases Nat.lt_or_ge j i with h2 | h2
  ·rw [show i = j + 1 by omega,fK_next]; exact Nat.le_refl _
  ·have:=fK_mono (p:=p) h2; omega
theorem fK_le {p:Nat->Bool} {n:Nat}:(fK p n).length <= n:=by
 have:=List.length_filter_le p (List.range n)
 rw [List.length_range] at this; exact this
theorem fK_all {p:Nat->Bool} {n:Nat} (h:∀ i,i < n->p i = true):fK p n = List.range n:=by
 unfold fK
 rw [List.filter_eq_self]
 intro a ha
 exact h a (List.mem_range.1 ha)
theorem pick_len {α:Type} {xs:List α}:∀ {ks:List Nat},(∀ k ∈ ks,k < xs.length)->(pickK xs ks).length = ks.length
 | [],_=>rfl
 | k :: ks,h=>by
  have hk:=h k List.mem_cons_self
  have:=pick_len (xs:=xs) (ks:=ks) fun x hx=>h x (List.mem_cons_of_mem _ hx)
  unfold pickK at this ⊢
  rw [List.filterMap_cons,List.getElem?_eq_getElem hk]
  simp [this]
theorem pick_get {α:Type} {xs:List α}:∀ {ks:List Nat},(∀ k ∈ ks,k < xs.length)->∀ j:Nat,(pickK xs ks)[j]? = (ks[j]?).bind fun i=>xs[i]?
 | [],_,j=>by simp [pickK]
 | k :: ks,h,j=>by
  have hk:=h k List.mem_cons_self
  have ih:=pick_get (xs:=xs) (ks:=ks) fun x hx=>h x (List.mem_cons_of_mem _ hx)
  unfold pickK at ih ⊢
  rw [List.filterMap_cons,List.getElem?_eq_getElem hk]
  cases j with
  | zero=>simp [List.getElem?_eq_getElem hk]
  | succ j=>simpa using ih j
theorem pick_mem {α:Type} {xs:List α} {ks:List Nat} {x:α} (h:x ∈ pickK xs ks):x ∈ xs:=by
 unfold pickK at h
 obtain ⟨i,_,hi⟩:=List.mem_filterMap.1 h
 exact List.mem_of_getElem? hi
theorem pick_at {α:Type} {xs:List α} {p:Nat->Bool} {i:Nat} (hp:p i = true) (hi:i < xs.length):(pickK xs (fK p xs.length))[(fK p i).length]? = xs[i]?:=by
 rw [pick_get fun k hk=>(fK_mem.1 hk).1,fK_get hp hi]; rfl
theorem kept_lt {S:List Int} {n k:Nat} (h:k ∈ keptI S n):k < n:=(fK_mem.1 h).1
end
section
open Go Q Go.RowKit
def usG (u:UsM) (q:Int):List Int:=if q = 1 then u.s1 else if q = 2 then u.s2 else u.s3
theorem mem_insK' {S:List Int} {x y:Int}:y ∈ insK S x ↔ y ∈ S \/ y = x:=by
 rw [mem_ins]; exact Or.comm
theorem mem_markU {u:UsM} {k n q x:Int} (hq:q = 1 \/ q = 2 \/ q = 3):x ∈ usG (markU u k n) q ↔ x ∈ usG u q \/ (clsM k = q/\x = n):=by
 unfold markU usG
 rcases hq with rfl | rfl | rfl <;> by_cases h1:clsM k = 1 <;> by_cases h2:clsM k = 2 <;> by_cases h3:clsM k = 3 <;> simp [h1,h2,h3,mem_insK']
theorem mem_mark3 {u:UsM} {i:InsM} {q x:Int} (hq:q = 1 \/ q = 2 \/ q = 3):x ∈ usG (markK i 3 u) q ↔ x ∈ usG u q \/ ∃ k:Nat,k < 3/\clsM (kindM i k) = q/\x = fldM i k:=by
 rw [markK_succ,mem_markU hq,markK_succ,mem_markU hq,markK_succ,mem_markU hq,show markK i 0 u = u from rfl]
 constructor
 ·rintro (((h | h) | h) | h)
  ·exact .inl h
  ·exact .inr ⟨0,by omega,h⟩
  ·exact .inr ⟨1,by omega,h⟩
  ·exact .inr ⟨2,by omega,h⟩
 ·rintro (h | ⟨k,hk,h⟩)
  ·exact .inl (.inl (.inl h))
  ·match k,hk with
   | 0,_=>exact .inl (.inl (.inr h))
   | 1,_=>exact .inl (.inr h)
   | 2,_=>exact .inr h
theorem mem_uses {c:CodeM} {k:Nat} {q x:Int} (hq:q = 1 \/ q = 2 \/ q = 3):x ∈ usG (usesK c k) q ↔ ∃ j,j < k/\rcAt c j = true/\∃ f:Nat,f < 3/\clsM (kindM (insAt c j) f) = q/\x = fldM (insAt c j) f:=by
 induction k with
 | zero=>
  constructor
  ·intro h
   have:usG (usesK c 0) q = []:=by unfold usesK rK usG; simp
   rw [this] at h; cases h
  ·rintro ⟨j,hj,_⟩; omega
 | succ k ih=>
  rw [usesK_succ]
  by_cases hr:rcAt c k = true
  ·rw [if_pos hr,mem_mark3 hq,ih]
   constructor
   ·rintro (⟨j,h1,h2⟩ | h)
    ·exact ⟨j,by omega,h2⟩
    ·exact ⟨k,by omega,hr,h⟩
   ·rintro ⟨j,h1,h2,h3⟩
    by_cases e:j = k
    ·subst e; exact .inr h3
    ·exact .inl ⟨j,by omega,h2,h3⟩
  ·rw [if_neg hr,ih]
   constructor
   ·rintro ⟨j,h1,h2⟩; exact ⟨j,by omega,h2⟩
   ·rintro ⟨j,h1,h2,h3⟩
    by_cases e:j = k
    ·subst e; exact absurd h2 hr
    ·exact ⟨j,by omega,h2,h3⟩
theorem uses_of {c:CodeM} {j f:Nat} {q:Int} (hq:q = 1 \/ q = 2 \/ q = 3) (hj:j < c.ins.length) (hr:rcAt c j = true) (hf:f < 3) (hc:clsM (kindM (insAt c j) f) = q):fldM (insAt c j) f ∈ usG (usesM c) q:=
 (mem_uses hq).2 ⟨j,hj,hr,f,hf,hc,rfl⟩
theorem kind0_of {i:InsM} (h:¬ (i.op = 12 \/ i.op = 21)):kindM i 0 = (formAt i.op).k0:=by
 unfold kindM
 rw [if_neg (by simp [h]),if_neg (by simp),if_pos rfl]
theorem kind1_of {i:InsM} (h:¬ i.op = 19):kindM i 1 = (formAt i.op).k1:=by
 unfold kindM
 rw [if_neg (by simp [h]),if_neg (by simp),if_neg (by decide),if_pos rfl]
theorem kind2_of {i:InsM} (h:¬ i.op = 22):kindM i 2 = (formAt i.op).k2:=by
 unfold kindM
 rw [if_neg (by simp),if_neg (by simp [h]),if_neg (by decide),if_neg (by decide)]
theorem kind0_19 {i:InsM} (h:i.op = 19):kindM i 0 = 15:=by
 rw [kind0_of (by omega),h]; decide +kernel
theorem newIns_eq {c:CodeM} {i:InsM}:newIns c i = ⟨i.op,renewM c (kindM i 0) i.a,renewM c (kindM i 1) i.b,renewM c (kindM i 2) i.c⟩:=by
 have ha:i.op = 19->renewM c (kindM i 0) i.a = i.a:=fun e=>by
  rw [kind0_19 e]; rfl
 unfold newIns
 rw [renewK_succ,renewK_succ,renewK_succ]
 show setFld (setFld (setFld i 0 _) 1 _) 2 _ = _
 have e0:renewK c i 0 = i:=rfl
 rw [e0]
 have f0:fldM i ((0:Nat):Int) = i.a:=rfl
 rw [f0]
 generalize hA:renewM c (kindM i ((0:Nat):Int)) i.a = A
 have hA':renewM c (kindM i 0) i.a = A:=hA
 have s0:setFld i ((0:Nat):Int) A = ⟨i.op,A,i.b,i.c⟩:=rfl
 rw [s0]
 have k1:kindM ⟨i.op,A,i.b,i.c⟩ ((1:Nat):Int) = kindM i 1:=by
  unfold kindM
  by_cases e:i.op = 19
  ·have:A = i.a:=by rw [<- hA']; exact ha e
   rw [this]; rfl
  ·simp [e]
 rw [k1]
 have f1:fldM ⟨i.op,A,i.b,i.c⟩ ((1:Nat):Int) = i.b:=rfl
 rw [f1]
 generalize hB:renewM c (kindM i 1) i.b = B
 have s1:setFld ⟨i.op,A,i.b,i.c⟩ ((1:Nat):Int) B = ⟨i.op,A,B,i.c⟩:=rfl
 rw [s1]
 have k2:kindM ⟨i.op,A,B,i.c⟩ ((2:Nat):Int) = kindM i 2:=by
  unfold kindM; simp
 rw [k2]
 have f2:fldM ⟨i.op,A,B,i.c⟩ ((2:Nat):Int) = i.c:=rfl
 rw [f2]
 rfl
theorem pos_at {α:Type} {xs:List α} {S:List Int} {n:Int} (h0:0 <= n) (h1:n < xs.length) (hm:n ∈ S) :
  0 <= posM S xs.length n/\posM S xs.length n < (pickK xs (keptI S xs.length)).length/\(pickK xs (keptI S xs.length))[(posM S xs.length n).toNat]? = xs[n.toNat]?/\posM S xs.length n = ((keptI S n.toNat).length:Int):=by
 have hm':memK S n = true:=memK_iff.2 hm
 have hp:posM S xs.length n = ((keptI S n.toNat).length:Int):=by
  unfold posM
  rw [if_neg (by omega),if_pos ⟨h0,h1,hm'⟩]
 have hp2:(fun i:Nat=>memK S (i:Int)) n.toNat = true:=by
  show memK S ((n.toNat:Nat):Int) = true
  rw [show ((n.toNat:Nat):Int) = n by omega]; exact hm'
 have hg:(pickK xs (keptI S xs.length))[(keptI S n.toNat).length]? = xs[n.toNat]?:=pick_at (p:=fun i=>memK S (i:Int)) hp2 (by omega)
 rw [hp]
 refine ⟨by omega,?_,by rw [Int.toNat_natCast]; exact hg,rfl⟩
 rcases Nat.lt_or_ge (keptI S n.toNat).length (pickK xs (keptI S xs.length)).length with h | h
 ·omega
 ·rw [List.getElem?_eq_none h,List.getElem?_eq_getElem (show n.toNat < xs.length by omega)] at hg; cases hg
theorem named_new {c:CodeM} {n:Int} {p:ByteArray->Bool} (h:namedM c n p = true) (hm:n ∈ (usesM c).s1):namedM (trimOk c) (posM (usesM c).s1 c.consts.length n) p = true:=by
 unfold namedM at h ⊢
 rw [Bool.and_eq_true,inB_iff] at h ⊢
 obtain ⟨⟨h0,h1⟩,h2⟩:=h
 obtain ⟨p0,p1,p2,_⟩:=pos_at (xs:=c.consts) h0 (by omega) hm
 have hl:(trimOk c).consts = pickK c.consts (keptI (usesM c).s1 c.consts.length):=rfl
 rw [hl]
 refine ⟨⟨p0,by omega⟩,?_⟩
 rw [List.getD_eq_getElem?_getD,p2,<- List.getD_eq_getElem?_getD]; exact h2
theorem renew_cls1 {c:CodeM} {k n:Int} (h:clsM k = 1):renewM c k n = posM (usesM c).s1 c.consts.length n:=by
 unfold renewM
 have h':=h
 unfold clsM at h
 have:k = 2 \/ k = 3 \/ k = 4 \/ k = 5 \/ k = 6 \/ k = 7 \/ k = 8:=by
  apply Classical.byContradiction
  intro hh
  rw [if_neg hh] at h
  (repeat' split at h) <;> cases h
 rw [if_neg (by omega),if_neg (by omega),if_neg (by omega),if_pos h']
theorem posM_neg {S:List Int} {n:Nat}:posM S n (-1) = -1:=by unfold posM; rw [if_pos rfl]
theorem good_new {c:CodeM} {k n:Int} (h:goodM c k n = true) (hu:∀ q,clsM k = q->(q = 1 \/ q = 2 \/ q = 3)->n ∈ usG (usesM c) q) (hpl:k = 13->0 <= (atM c).getD n.toNat 0/\(atM c).getD n.toNat 0 < (trimOk c).ins.length):goodM (trimOk c) k (renewM c k n) = true:=by
 by_cases hc:clsM k = 1
 ·have hm:n ∈ (usesM c).s1:=hu 1 hc (.inl rfl)
  rw [renew_cls1 hc]
  have hk:k = 2 \/ k = 3 \/ k = 4 \/ k = 5 \/ k = 6 \/ k = 7 \/ k = 8:=by
   unfold clsM at hc
   apply Classical.byContradiction
   intro hh
   rw [if_neg hh] at hc
   (repeat' split at hc) <;> cases hc
  rcases hk with rfl | rfl | rfl | rfl | rfl | rfl | rfl
  ·exact named_new (p:=fun _=>true) h hm
  ·exact named_new (p:=kindIs 2) h hm
  ·exact named_new (p:=kindIs 3) h hm
  ·exact named_new (p:=kindIs 4) h hm
  ·exact named_new (p:=varB) h hm
  ·have h':(namedM c n (kindIs 2) || namedM c n (kindIs 4)) = true:=h
   show (namedM (trimOk c) _ (kindIs 2) || namedM (trimOk c) _ (kindIs 4)) = true
   rw [Bool.or_eq_true] at h' ⊢
   exact h'.imp (fun e=>named_new e hm) (fun e=>named_new e hm)
  ·have h':(decide (n = -1) || namedM c n fun _=>true) = true:=h
   show (decide (_ = -1) || namedM (trimOk c) _ fun _=>true) = true
   rw [Bool.or_eq_true,decide_eq_true_eq] at h' ⊢
   exact h'.imp (fun e=>by rw [e,posM_neg]) (fun e=>named_new e hm)
 by_cases h13:k = 13
 ·subst h13
  have hp:=hpl rfl
  have e:renewM c 13 n = (atM c).getD n.toNat 0:=rfl
  rw [e]
  show inB _ 0 _ = true
  rw [inB_iff]; omega
 by_cases h10:k = 10
 ·subst h10
  have hm:n ∈ (usesM c).s2:=hu 2 rfl (.inr (.inl rfl))
  have h':inB n 0 ((c.tmpls.length:Int) - 1) = true:=h
  rw [inB_iff] at h'
  obtain ⟨p0,p1,_,_⟩:=pos_at (xs:=c.tmpls) h'.1 (by omega) hm
  show inB (posM (usesM c).s2 c.tmpls.length n) 0 (((pickK c.tmpls (keptI (usesM c).s2 c.tmpls.length)).length:Int) - 1) = true
  rw [inB_iff]; omega
 by_cases h11:k = 11
 ·subst h11
  have hm:n ∈ (usesM c).s3:=hu 3 rfl (.inr (.inr rfl))
  have h':inB n 0 ((c.lists.length:Int) - 1) = true:=h
  rw [inB_iff] at h'
  obtain ⟨p0,p1,_,_⟩:=pos_at (xs:=c.lists) h'.1 (by omega) hm
  show inB (posM (usesM c).s3 c.lists.length n) 0 (((pickK c.lists (keptI (usesM c).s3 c.lists.length)).length:Int) - 1) = true
  rw [inB_iff]; omega
 by_cases h12:k = 12
 ·subst h12
  have hm:n ∈ (usesM c).s3:=hu 3 rfl (.inr (.inr rfl))
  have h':(decide (n = -1) || inB n 0 ((c.lists.length:Int) - 1)) = true:=h
  show (decide (posM (usesM c).s3 c.lists.length n = -1) || inB (posM (usesM c).s3 c.lists.length n) 0 (((pickK c.lists (keptI (usesM c).s3 c.lists.length)).length:Int) - 1)) = true
  rw [Bool.or_eq_true,decide_eq_true_eq,inB_iff] at h' ⊢
  rcases h' with h' | h'
  ·exact .inl (by rw [h',posM_neg])
  ·obtain ⟨p0,p1,_,_⟩:=pos_at (xs:=c.lists) h'.1 (by omega) hm
   exact .inr ⟨p0,by omega⟩
 have e:renewM c k n = n:=by
  unfold renewM
  rw [if_neg h13,if_neg h10,if_neg (by omega),if_neg hc]
 rw [e]
 have hk:¬ (k = 2 \/ k = 3 \/ k = 4 \/ k = 5 \/ k = 6 \/ k = 7 \/ k = 8):=fun hh=>hc (by unfold clsM; rw [if_pos hh])
 unfold goodM at h ⊢
 rw [if_neg (show ¬ k = 8 by omega),if_neg (show ¬ k = 2 by omega),if_neg (show ¬ k = 3 by omega),if_neg (show ¬ k = 4 by omega),if_neg (show ¬ k = 5 by omega),if_neg (show ¬ k = 6 by omega),if_neg (show ¬ k = 7 by omega),if_neg h10,if_neg h12,if_neg h11,if_neg h13] at h ⊢
 exact h
end
section
open Go Q Go.RowKit
structure Ok (c:CodeM):Prop where
 lim:limitsM c = true
 par:partsM c = true
 rt:∀ i ∈ c.ins,rightM c i = true
 fin:(formAt (lastI c).op).final = true
theorem Ok.pos {c:CodeM} (h:Ok c):0 < c.ins.length:=parts_pos h.par
theorem Ok.nb {c:CodeM} (h:Ok c):reachBad c = false:=reachBad_ok h.lim h.par
theorem insAt_get {c:CodeM} {a:Nat} (h:a < c.ins.length):c.ins[a]? = some (insAt c a):=by rw [insAt,List.getD_eq_getElem?_getD,List.getElem?_eq_getElem h]; rfl
theorem Ok.rat {c:CodeM} (h:Ok c) {a:Nat} (ha:a < c.ins.length):rightM c (insAt c a) = true:=h.rt _ (List.mem_of_getElem? (insAt_get ha))
def phi (c:CodeM) (i:Nat):Nat:=(rK c i).length
def newN (c:CodeM):Nat:=(rK c c.ins.length).length
theorem rc_lt {c:CodeM} (h:Ok c) {i:Nat} (hr:rcAt c i = true):i < c.ins.length:=by
 have hl:=reachM_len h.nb
 apply Classical.byContradiction
 intro hge
 unfold rcAt at hr
 rw [List.getD_eq_getElem?_getD,List.getElem?_eq_none (by omega)] at hr
 cases hr
theorem phi_lt {c:CodeM} (h:Ok c) {i:Nat} (hr:rcAt c i = true):phi c i < newN c:=fK_lt hr (rc_lt h hr)
theorem newLen {c:CodeM}:(trimOk c).ins.length = newN c:=by
 show ((rK c c.ins.length).map _).length = _
 rw [List.length_map]; rfl
theorem ins_new {c:CodeM} (h:Ok c) {i:Nat} (hr:rcAt c i = true):insAt (trimOk c) (phi c i) = newIns c (insAt c i):=by
 unfold insAt
 rw [List.getD_eq_getElem?_getD]
 show ((((rK c c.ins.length).map fun j=>newIns c (insAt c j))[phi c i]?).getD noIns) = _
 rw [List.getElem?_map,show (rK c c.ins.length)[phi c i]? = some i from fK_get hr (rc_lt h hr)]
 rfl
theorem newAt_rc {c:CodeM} {i:Nat} (hr:rcAt c i = true):newAt c i = (phi c i:Int):=by unfold newAt; rw [if_pos hr]; rfl
theorem atM_get {c:CodeM} {i:Nat} (h:i < c.ins.length):(atM c).getD i 0 = newAt c i:=by
 unfold atM
 rw [List.getD_eq_getElem?_getD,List.getElem?_map,List.getElem?_range h]; rfl
theorem psi_ex {c:CodeM} {j:Nat} (hj:j < newN c):∃ i,i < c.ins.length/\rcAt c i = true/\phi c i = j:=by
 have hj':j < (rK c c.ins.length).length:=hj
 obtain ⟨h1,h2,h3⟩:=fK_idx (List.getElem?_eq_getElem hj')
 exact ⟨_,h1,h2,h3⟩
theorem Ok.step {c:CodeM} (h:Ok c) {a n:Nat} (hr:rcAt c a = true) (hn:n ∈ toL c a):rcAt c n = true:=(reach_spec h.nb).2.1 a hr n hn
theorem Ok.root {c:CodeM} (h:Ok c) {x:Nat} (hx:x ∈ rootsM c):rcAt c x = true:=(reach_spec h.nb).2.2 x hx
theorem Ok.root0 {c:CodeM} (h:Ok c):rcAt c 0 = true:=h.root (by simp [rootsM,rootsK])
theorem label_root {c:CodeM} (h:Ok c) {s:SpotM} (hs:s ∈ c.labels):s.at_.toNat ∈ rootsM c:=by
 have hin:=labels_in h.par s hs
 unfold rootsM rootsK
 rw [List.take_length]
 refine List.mem_cons_of_mem _ (List.mem_map.2 ⟨s,List.mem_filter.2 ⟨hs,?_⟩,rfl⟩)
 rw [rootOk,inB_iff]; omega
theorem notlast {c:CodeM} (h:Ok c) {a:Nat} (ha:a < c.ins.length) (hf:(formAt (insAt c a).op).final = false):a + 1 < c.ins.length:=by
 apply Classical.byContradiction
 intro hge
 have:=h.fin
 unfold lastI at this
 rw [show c.ins.length - 1 = a by omega,hf] at this
 cases this
theorem place_good {c:CodeM} {i:InsM} (h:rightM c i = true) (hj:jumpOp i = true):(formAt i.op).k0 = 13/\0 <= i.a/\i.a < c.ins.length:=by
 have hk:(formAt i.op).k0 = 13:=by
  unfold jumpOp at hj
  simp only [Bool.or_eq_true,decide_eq_true_eq] at hj
  rcases hj with e | e | e <;> rw [e] <;> decide +kernel
 unfold rightM at h
 simp only [Bool.and_eq_true] at h
 have h2:=h.2.1
 rw [hk] at h2
 have:goodM c 13 i.a = inB i.a 0 ((c.ins.length:Int) - 1):=rfl
 rw [this,inB_iff] at h2
 exact ⟨hk,h2.1,by omega⟩
theorem kind0_jump {i:InsM} (hj:jumpOp i = true):kindM i 0 = 13:=by
 unfold jumpOp at hj
 simp only [Bool.or_eq_true,decide_eq_true_eq] at hj
 rw [kind0_of (by omega)]
 rcases hj with e | e | e <;> rw [e] <;> decide +kernel
theorem jump_lead {c:CodeM} {a:Nat} (hj:jumpOp (insAt c a) = true) (h0:0 <= (insAt c a).a) (h1:(insAt c a).a < c.ins.length):(insAt c a).a.toNat ∈ toL c a:=by
 unfold toL leadsM lead2
 rw [if_pos (by rw [Bool.and_eq_true,inB_iff]; exact ⟨hj,by omega,by omega⟩)]
 simp
theorem newN_pos {c:CodeM} (h:Ok c):0 < newN c:=by have:=phi_lt h h.root0; omega
theorem phi_le {c:CodeM} {i:Nat}:phi c i <= i:=fK_le
theorem newN_le {c:CodeM}:newN c <= c.ins.length:=fK_le
end
section
open Go Q Go.RowKit
theorem kind_form {i:InsM}:(kindM i 0 = (formAt i.op).k0 \/ (formAt i.op).k0 = 23)/\(kindM i 1 = (formAt i.op).k1 \/ (formAt i.op).k1 = 23)/\(kindM i 2 = (formAt i.op).k2 \/ (formAt i.op).k2 = 23):=by
 have f12:(formAt 12).k0 = 23:=by decide +kernel
 have f21:(formAt 21).k0 = 23:=by decide +kernel
 have f19:(formAt 19).k1 = 23:=by decide +kernel
 have f22:(formAt 22).k2 = 23:=by decide +kernel
 refine ⟨?_,?_,?_⟩
 ·unfold kindM
  by_cases e:i.op = 12 \/ i.op = 21
  ·right; rcases e with e | e <;> rw [e] <;> assumption
  ·left
   rw [if_neg (by simp [e]),if_neg (by simp),if_pos rfl]
 ·unfold kindM
  by_cases e:i.op = 19
  ·right; rw [e]; exact f19
  ·left
   rw [if_neg (by simp [e]),if_neg (by simp),if_neg (by decide),if_pos rfl]
 ·unfold kindM
  by_cases e:i.op = 22
  ·right; rw [e]; exact f22
  ·left
   rw [if_neg (by simp),if_neg (by simp [e]),if_neg (by decide),if_neg (by decide)]
theorem good23 {c:CodeM} {n:Int}:goodM c 23 n = true:=by
 show rangedM 23 n = true
 rfl
theorem form13 {n:Int}:(formAt n).k1 ≠ 13/\(formAt n).k2 ≠ 13/\((formAt n).k0 = 13->n = 23 \/ n = 24 \/ n = 30):=by
 unfold formAt
 split
 ·have h:∀ k:Fin 47,(formL.getD k.val noForm).k1 ≠ 13/\(formL.getD k.val noForm).k2 ≠ 13/\((formL.getD k.val noForm).k0 = 13->((k.val:Nat):Int) = 23 \/ ((k.val:Nat):Int) = 24 \/ ((k.val:Nat):Int) = 30):=by decide +kernel
  have hk:1 <= n/\n <= 46:=by
   have:=‹opOk n = true›
   unfold opOk at this
   simpa using this
  have:=h ⟨n.toNat,by omega⟩
  simp only at this
  rw [show ((n.toNat:Nat):Int) = n by omega] at this
  exact this
 ·exact ⟨by decide,by decide,fun h=>absurd h (by decide)⟩
theorem jump_of {i:InsM} {k:Nat} (hk:k < 3) (h:kindM i k = 13):k = 0/\jumpOp i = true:=by
 obtain ⟨f1,f2,f0⟩:=@form13 i.op
 unfold kindM at h
 split at h
 ·cases h
 ·split at h
  ·cases h
  ·match k,hk with
   | 0,_=>
    rw [if_pos (by rfl)] at h
    refine ⟨rfl,?_⟩
    have:=f0 h
    unfold jumpOp
    simpa using this
   | 1,_=>rw [if_neg (by decide),if_pos (by rfl)] at h; exact absurd h f1
   | 2,_=>rw [if_neg (by decide),if_neg (by decide)] at h; exact absurd h f2
theorem good_fld {c:CodeM} (h:Ok c) {a:Nat} (hr:rcAt c a = true) {k:Nat} (hk:k < 3) (hg:goodM c (kindM (insAt c a) k) (fldM (insAt c a) k) = true) :
  goodM (trimOk c) (kindM (insAt c a) k) (renewM c (kindM (insAt c a) k) (fldM (insAt c a) k)) = true:=by
 have ha:=rc_lt h hr
 refine good_new hg (fun q hq hq'=>uses_of hq' ha hr hk hq) (fun h13=>?_)
 obtain ⟨rfl,hj⟩:=jump_of hk h13
 obtain ⟨_,h0,h1⟩:=place_good (h.rat ha) hj
 have hf:fldM (insAt c a) ((0:Nat):Int) = (insAt c a).a:=rfl
 rw [hf,newLen,atM_get (by omega)]
 have hr1:=h.step hr (jump_lead hj h0 h1)
 rw [newAt_rc hr1]
 have:=phi_lt h hr1
 omega
theorem special_new {c:CodeM} (h:Ok c) {a:Nat} (hr:rcAt c a = true) (hs:specialM c (insAt c a) = true) (hg0:opOk (insAt c a).op = true):specialM (trimOk c) (newIns c (insAt c a)) = true:=by
 have ha:=rc_lt h hr
 have hfld:=fun k hk hg=>good_fld h hr (k:=k) hk hg
 have hu:=fun (f:Nat) hf hc=>uses_of (c:=c) (j:=a) (f:=f) (q:=1) (.inl rfl) ha hr hf hc
 rw [newIns_eq]
 generalize hi:insAt c a = i at *
 unfold specialM at hs ⊢
 simp only
 have neg23:∀ n,renewM c 23 n = n:=fun n=>rfl
 have neg15:∀ n,renewM c 15 n = n:=fun n=>rfl
 have neg14:∀ n,renewM c 14 n = n:=fun n=>rfl
 by_cases e1:i.op = 12 \/ i.op = 21
 ·rw [if_pos e1] at hs ⊢
  have k0:kindM i 0 = 2:=by unfold kindM; rw [if_pos (.inl ⟨e1,rfl⟩)]
  have k2:kindM i 2 = 14:=by
   rw [kind2_of (by omega)]
   rcases e1 with e | e <;> rw [e] <;> decide +kernel
  rw [k0,k2,neg14,renew_cls1 rfl]
  exact named_new hs (hu 0 (by omega) (by show clsM (kindM i 0) = 1; rw [k0]; rfl))
 rw [if_neg e1] at hs ⊢
 by_cases e2:i.op = 19
 ·rw [if_pos e2] at hs ⊢
  have k0:kindM i 0 = 15:=kind0_19 e2
  rw [k0,neg15]
  by_cases ea:i.a = 1
  ·have k1:kindM i 1 = 2:=by unfold kindM; rw [if_pos (.inr ⟨e2,rfl,ea⟩)]
   rw [ea] at hs ⊢
   have hg:goodM c 2 i.b = true:=by simpa using hs
   have:=hfld 1 (by omega) (by show goodM c (kindM i 1) i.b = true; rw [k1]; exact hg)
   have h3:goodM (trimOk c) 2 (renewM c 2 i.b) = true:=by
    have h4:goodM (trimOk c) (kindM i 1) (renewM c (kindM i 1) i.b) = true:=this
    rw [k1] at h4; exact h4
   rw [k1,h3]; simp
  ·have k1:kindM i 1 = 23:=by
    unfold kindM; rw [if_neg (by simp [ea,e1]),if_neg (by simp [e2]),if_neg (by decide),if_pos rfl,e2]; decide +kernel
   rw [k1,neg23]
   simpa [ea] using hs
 rw [if_neg e2] at hs ⊢
 by_cases e3:i.op = 22
 ·rw [if_pos e3] at hs ⊢
  have k0:kindM i 0 = 23:=by rw [kind0_of (by omega),e3]; decide +kernel
  have k1:kindM i 1 = 15:=by rw [kind1_of (by omega),e3]; decide +kernel
  have k2:kindM i 2 = 8:=by unfold kindM; rw [if_neg (by simp [e3]),if_pos ⟨e3,rfl⟩]
  rw [k0,k1,k2,neg23,neg15]
  rw [Bool.and_eq_true] at hs ⊢
  refine ⟨hs.1,?_⟩
  have h2:=hs.2
  rw [Bool.or_eq_true,decide_eq_true_eq,Bool.and_eq_true] at h2 ⊢
  rcases h2 with h2 | ⟨h2,h3⟩
  ·left; rw [h2,renew_cls1 rfl,posM_neg]
  ·right
   refine ⟨h2,?_⟩
   rw [renew_cls1 rfl]
   exact named_new (p:=kindIs 2) h3 (hu 2 (by omega) (by show clsM (kindM i 2) = 1; rw [k2]; rfl))
 rw [if_neg e3]
theorem right_new {c:CodeM} (h:Ok c) {a:Nat} (hr:rcAt c a = true):rightM (trimOk c) (newIns c (insAt c a)) = true:=by
 have ha:=rc_lt h hr
 have hrt:=h.rat ha
 unfold rightM at hrt ⊢
 simp only [Bool.and_eq_true] at hrt ⊢
 obtain ⟨h0,h1,h2,h3,h4⟩:=hrt
 have hop:(newIns c (insAt c a)).op = (insAt c a).op:=by rw [newIns_eq]
 obtain ⟨q0,q1,q2⟩:=@kind_form (insAt c a)
 rw [hop]
 refine ⟨h0,?_,?_,?_,special_new h hr h4 h0⟩
 ·rcases q0 with q | q
  ·have:=good_fld h hr (k:=0) (by omega) (by show goodM c (kindM (insAt c a) 0) (insAt c a).a = true; rw [q]; exact h1)
   have h5:goodM (trimOk c) (kindM (insAt c a) 0) (renewM c (kindM (insAt c a) 0) (insAt c a).a) = true:=this
   rw [newIns_eq,<- q]; exact h5
  ·rw [q]; exact good23
 ·rcases q1 with q | q
  ·have:=good_fld h hr (k:=1) (by omega) (by show goodM c (kindM (insAt c a) 1) (insAt c a).b = true; rw [q]; exact h2)
   have h5:goodM (trimOk c) (kindM (insAt c a) 1) (renewM c (kindM (insAt c a) 1) (insAt c a).b) = true:=this
   rw [newIns_eq,<- q]; exact h5
  ·rw [q]; exact good23
 ·rcases q2 with q | q
  ·have:=good_fld h hr (k:=2) (by omega) (by show goodM c (kindM (insAt c a) 2) (insAt c a).c = true; rw [q]; exact h3)
   have h5:goodM (trimOk c) (kindM (insAt c a) 2) (renewM c (kindM (insAt c a) 2) (insAt c a).c) = true:=this
   rw [newIns_eq,<- q]; exact h5
  ·rw [q]; exact good23
theorem right_all {c:CodeM} (h:Ok c):∀ i ∈ (trimOk c).ins,rightM (trimOk c) i = true:=by
 intro i hi
 obtain ⟨j,hj,rfl⟩:=List.mem_map.1 (show i ∈ (rK c c.ins.length).map fun j=>newIns c (insAt c j) from hi)
 exact right_new h (fK_mem.1 hj).2
theorem labs_new {c:CodeM} (h:Ok c):∀ (l:List SpotM) (last:Nat),(∀ s ∈ l,s ∈ c.labels)->(last = 0 \/ rcAt c last = true)->(allS (labS c.ins.length) (last:Int) l).1 = true ->
  (allS (labS (newN c)) (phi c last:Int) (l.map fun s=>⟨s.name,(atM c).getD s.at_.toNat 0⟩)).1 = true
 | [],_,_,_,_=>rfl
 | s :: l,last,hm,hl,ha=>by
  have hs:=hm s List.mem_cons_self
  have hin:=labels_in h.par s hs
  have hr:=h.root (label_root h hs)
  have hat:(atM c).getD s.at_.toNat 0 = (phi c s.at_.toNat:Int):=by rw [atM_get (by omega),newAt_rc hr]
  rw [allS_cons,show labS c.ins.length last s = ((labS c.ins.length last s).1,(labS c.ins.length last s).2) from rfl] at ha
  rw [List.map_cons,allS_cons]
  cases h1:(labS c.ins.length last s).1 with
  | false=>rw [h1] at ha; cases ha
  | true=>
   rw [h1] at ha
   simp only at ha
   simp only [labS,Bool.and_eq_true,inB_iff] at h1
   have hmax:max (last:Int) s.at_ = ((s.at_.toNat:Nat):Int):=by omega
   simp only [labS,hmax] at ha
   have hle:phi c last <= phi c s.at_.toNat:=fK_mono (by omega)
   have hlt:=phi_lt h hr
   have e:labS (newN c) (phi c last:Int) ⟨s.name,(atM c).getD s.at_.toNat 0⟩ = (true,(phi c s.at_.toNat:Int)):=by
    unfold labS
    simp only [hat]
    congr 1
    ·rw [h1.1,Bool.true_and,inB_iff]; omega
    ·omega
   rw [e]
   exact labs_new h l s.at_.toNat (fun x hx=>hm x (List.mem_cons_of_mem _ hx)) (.inr hr) ha
theorem parts_new {c:CodeM} (h:Ok c):partsM (trimOk c) = true:=by
 have hp:=h.par
 unfold partsM at hp ⊢
 simp only [Bool.and_eq_true,Bool.not_eq_true',decide_eq_false_iff_not,List.all_eq_true] at hp ⊢
 obtain ⟨h1,h2,h3,h4,h5,h6⟩:=hp
 refine ⟨by rw [newLen]; have:=newN_pos h; omega,fun x hx=>h2 x (pick_mem hx),fun x hx=>h3 x (pick_mem hx),fun x hx=>h4 x (pick_mem hx),?_,h6⟩
 rw [newLen]
 have:=labs_new h c.labels 0 (fun _ hs=>hs) (.inl rfl) h5
 have e0:phi c 0 = 0:=by have:=@phi_le c 0; omega
 rw [e0] at this
 exact this
theorem limits_new {c:CodeM} (h:Ok c):limitsM (trimOk c) = true:=by
 have hl:=h.lim
 have hb:=limits_bd hl
 unfold limitsM at hl ⊢
 simp only [Bool.and_eq_true,List.all_eq_true] at hl ⊢
 obtain ⟨h1,h2,h3,h4,h5⟩:=hl
 refine ⟨?_,fun x hx=>h2 x (pick_mem hx),fun x hx=>h3 x (pick_mem hx),fun x hx=>h4 x (pick_mem hx),?_⟩
 ·have pl:∀ {α:Type} (xs:List α) (S:List Int),(pickK xs (keptI S xs.length)).length <= xs.length:=fun xs S=>by
   rw [pick_len fun k hk=>kept_lt hk]; exact keptI_len
  have e1:=pl c.consts (usesM c).s1
  have e2:=pl c.tmpls (usesM c).s2
  have e3:=pl c.lists (usesM c).s3
  have e4:(trimOk c).labels.length = c.labels.length:=by show (c.labels.map _).length = _; rw [List.length_map]
  have e5:=@newN_le c
  intro p hp
  unfold sizesL at hp
  have f1:(trimOk c).consts = pickK c.consts (keptI (usesM c).s1 c.consts.length):=rfl
  have f2:(trimOk c).tmpls = pickK c.tmpls (keptI (usesM c).s2 c.tmpls.length):=rfl
  have f3:(trimOk c).lists = pickK c.lists (keptI (usesM c).s3 c.lists.length):=rfl
  have f5:(trimOk c).slots = c.slots:=rfl
  rw [newLen,e4,f1,f2,f3,f5] at hp
  simp only [List.mem_cons,List.not_mem_nil,or_false] at hp
  rcases hp with rfl | rfl | rfl | rfl | rfl | rfl <;> simp only [decide_eq_true_eq] <;> omega
 ·intro s hs
  obtain ⟨s0,hs0,rfl⟩:=List.mem_map.1 (show s ∈ c.labels.map fun s=>(⟨s.name,(atM c).getD s.at_.toNat 0⟩:SpotM) from hs)
  exact h5 s0 hs0
theorem final_new {c:CodeM} (h:Ok c):(formAt (lastI (trimOk c)).op).final = true:=by
 have hp:=newN_pos h
 obtain ⟨i,hi,hr,he⟩:=psi_ex (c:=c) (j:=newN c - 1) (by omega)
 unfold lastI
 rw [newLen,<- he,ins_new h hr]
 have hop:(newIns c (insAt c i)).op = (insAt c i).op:=by rw [newIns_eq]
 rw [hop]
 cases hf:(formAt (insAt c i).op).final with
 | true=>rfl
 | false=>
  exfalso
  have h1:=notlast h hi hf
  have hr1:rcAt c (i + 1) = true:=h.step hr (by
   unfold toL leadsM lead1
   rw [if_pos (by rw [hf]; simpa using h1)]; simp)
  have h2:=phi_lt h hr1
  have h3:phi c (i + 1) = phi c i + 1:=by
   show (fK (rcAt c) (i + 1)).length = (fK (rcAt c) i).length + 1
   rw [fK_next,if_pos hr]
  omega
theorem Ok.new {c:CodeM} (h:Ok c):Ok (trimOk c):=⟨limits_new h,parts_new h,right_all h,final_new h⟩
end
section
open Go Q Go.RowKit
end
section
open Go Q Go.RowKit
theorem ok_of {c:CodeM} (h:(checkM c).1 = 0):Ok c:=by
 obtain ⟨_,h1,h2,h3,h4,_⟩:=check_ok h
 exact ⟨h1,h2,h3,h4⟩
theorem kind_good {c:CodeM} {i:InsM} (h:rightM c i = true):goodM c (kindM i 0) i.a = true/\goodM c (kindM i 1) i.b = true/\goodM c (kindM i 2) i.c = true:=by
 unfold rightM at h
 simp only [Bool.and_eq_true] at h
 obtain ⟨h0,h1,h2,h3,h4⟩:=h
 refine ⟨?_,?_,?_⟩
 ·by_cases e:i.op = 12 \/ i.op = 21
  ·have k0:kindM i 0 = 2:=by unfold kindM; rw [if_pos (.inl ⟨e,rfl⟩)]
   rw [k0]
   unfold specialM at h4
   rw [if_pos e] at h4
   show namedM c i.a (fun _=>true) = true
   unfold namedM at h4 ⊢
   rw [Bool.and_eq_true] at h4
   rw [h4.1]; rfl
  ·rw [kind0_of e]; exact h1
 ·by_cases e:i.op = 19
  ·by_cases ea:i.a = 1
   ·have k1:kindM i 1 = 2:=by unfold kindM; rw [if_pos (.inr ⟨e,rfl,ea⟩)]
    rw [k1]
    unfold specialM at h4
    rw [if_neg (by omega),if_pos e,ea] at h4
    simpa using h4
   ·have k1:kindM i 1 = (formAt i.op).k1:=by
     unfold kindM; rw [if_neg (by simp [ea,e]),if_neg (by simp),if_neg (by decide),if_pos rfl]
    rw [k1]; exact h2
  ·rw [kind1_of e]; exact h2
 ·by_cases e:i.op = 22
  ·have k2:kindM i 2 = 8:=by unfold kindM; rw [if_neg (by simp [e]),if_pos ⟨e,rfl⟩]
   rw [k2]
   unfold specialM at h4
   rw [if_neg (by omega),if_neg (by omega),if_pos e,Bool.and_eq_true,Bool.or_eq_true,Bool.and_eq_true] at h4
   show (decide (i.c = -1) || namedM c i.c fun _=>true) = true
   rw [Bool.or_eq_true]
   refine h4.2.imp id fun h=>?_
   have h5:namedM c i.c (kindIs 2) = true:=h.2
   unfold namedM at h5 ⊢
   rw [Bool.and_eq_true] at h5
   rw [h5.1]; rfl
  ·rw [kind2_of e]; exact h3
structure Tight (c:CodeM):Prop where
 ok:Ok c
 all:∀ j,j < c.ins.length->rcAt c j = true
 u1:∀ p:Nat,p < c.consts.length->(p:Int) ∈ (usesM c).s1
 u2:∀ p:Nat,p < c.tmpls.length->(p:Int) ∈ (usesM c).s2
 u3:∀ p:Nat,p < c.lists.length->(p:Int) ∈ (usesM c).s3
theorem named_rng {c:CodeM} {n:Int} {p:ByteArray->Bool} (h:namedM c n p = true):0 <= n/\n < c.consts.length:=by
 unfold namedM at h
 rw [Bool.and_eq_true,inB_iff] at h
 omega
theorem Tight.at_ {c:CodeM} (h:Tight c) {j:Nat} (hj:j < c.ins.length):(atM c).getD j 0 = j:=by
 rw [atM_get hj,newAt_rc (h.all j hj)]
 unfold phi rK
 rw [show (List.range j).filter (rcAt c) = fK (rcAt c) j from rfl,fK_all fun i hi=>h.all i (by omega),List.length_range]
end
section
open Go Q Go.RowKit
theorem int_at {z:Z} {a:Option Addr} {n cap k:Nat} {l:List Int} (h:SlR El.int z (.slice a n cap) l) (hk:k < l.length):∃ b off,a = some ⟨b,off,none⟩/\At z b (off + (k:Int).toNat * 1) [.int .i64 (l.getD k 0)]:=by
 obtain ⟨_,a',c',e,_,hel⟩:=h.form
 cases e
 obtain ⟨b,off,cs,ha,hr,hat⟩:=hel _ _ (List.getElem?_eq_getElem hk)
 cases hr
 rw [List.getD_eq_getElem?_getD,List.getElem?_eq_getElem hk,Int.toNat_natCast]
 exact ⟨b,off,ha,hat⟩
theorem bool_at' {z:Z} {a:Option Addr} {n cap k:Nat} {l:List Bool} (h:SlR El.bool z (.slice a n cap) l) (hk:k < l.length):∃ b off,a = some ⟨b,off,none⟩/\At z b (off + (k:Int).toNat * 1) [.bool (l.getD k false)]:=by
 rw [Int.toNat_natCast]; exact bool_at h hk
theorem ins_at {z:Z} {a:Option Addr} {n cap k:Nat} {l:List InsM} (h:SlR El.ins z (.slice a n cap) l) (hk:k < l.length):∃ b off,a = some ⟨b,off,none⟩/\At z b (off + (k:Int).toNat * 4) (l.getD k noIns).cells:=by
 obtain ⟨_,a',c',e,_,hel⟩:=h.form
 cases e
 obtain ⟨b,off,cs,ha,hr,hat⟩:=hel _ _ (List.getElem?_eq_getElem hk)
 cases hr
 rw [List.getD_eq_getElem?_getD,List.getElem?_eq_getElem hk,Int.toNat_natCast]
 exact ⟨b,off,ha,hat⟩
end
section
open Go Q Go.RowKit
theorem selfC {a b:Bool}:(bif a then a else b) = (a || b):=by cases a <;> rfl
def nm0 (i:InsM):Int:=if i.op = 3 \/ i.op = 5 \/ i.op = 7 \/ i.op = 8 \/ i.op = 9 \/ i.op = 12 \/ i.op = 21 \/ i.op = 15 \/ i.op = 27 \/ i.op = 42 \/ i.op = 44 \/ (i.op = 20/\0 <= i.a) then 1 else if i.op = 36 then 2 else if i.op = 17 \/ (i.op = 18/\0 <= i.a) then 3 else 0
def nm1 (i:InsM):Int:=if i.op = 1 \/ i.op = 31 \/ (i.op = 19/\i.a = 1) then 1 else 0
def nm2 (i:InsM):Int:=if i.op = 22/\0 <= i.c then 1 else 0
instance {i:InsM}:Pu 79 #[i.v] (.agg [.int .i64 (nm0 i),.int .i64 (nm1 i),.int .i64 (nm2 i)].toArray):=⟨fun z w=>fnA en79 (by
 intro hS R hR
 unfold vc79
 dsimp only [InsM.v]
 refine iV_bx ?_
 intro b1 w1 hb1 hS1
 refine iV_al ?_
 intro b2 w2 hb2 hS2
 refine V_run ?_
 refine iV_al ?_
 intro b3 w3 hb3 hS3
 refine iU_st ?_
 intro w4 hS4
 clear hS hS1 hS2 hS3
 haveI:AddN 0 (Int.toNat 0 * 1) 0:=⟨rfl⟩
 intro Ka hKa
 have main:∀ (x y q:Int) w',Res w z [] w' z [(b3,.cells [.int .i64 x,.int .i64 y,.int .i64 q].toArray 100 (0,0)),(b2,.cells [.int .i64 0,.int .i64 0,.int .i64 0].toArray 100 (0,0)),(b1,.cells i.cells.toArray 38 (0,0))]->(x = nm0 i/\y = nm1 i/\q = nm2 i)->Ka [] w':=by
  rintro x y q w' hS' ⟨rfl,rfl,rfl⟩
  refine hKa _ fun _=>?_
  clear hKa hS4
  (repeat (first | refine iV_ldN ?_ | (refine iU_st ?_; intro _ _) | refine iHV_N ?_))
  exact finW hR rfl
 clear hKa hR
 dsimp only [InsM.cells] at hS4 main
 (repeat (first | refine V_run ?_ | refine iV_ld1 ?_ | refine JB ?_))
 refine Cond_b (fun e=>?_) (fun e=>?_)
 ·simp only [selfC,Bool.or_eq_true,decide_eq_true_eq] at e
  (repeat (first | refine V_run ?_ | (refine iU_st ?_; intro _ _)))
  exact main 0 1 0 _ (by assumption) ⟨by unfold nm0; (repeat' split) <;> omega,by unfold nm1; (repeat' split) <;> omega,by unfold nm2; (repeat' split) <;> omega⟩
 simp only [selfC,Bool.or_eq_false_iff,decide_eq_false_iff_not] at e
 (repeat (refine JB ?_))
 refine Cond_b (fun e1=>?_) (fun e1=>?_)
 ·simp only [selfC,Bool.or_eq_true,decide_eq_true_eq] at e1
  (repeat (first | refine V_run ?_ | (refine iU_st ?_; intro _ _)))
  exact main 1 0 0 _ (by assumption) ⟨by unfold nm0; (repeat' split) <;> omega,by unfold nm1; (repeat' split) <;> omega,by unfold nm2; (repeat' split) <;> omega⟩
 simp only [selfC,Bool.or_eq_false_iff,decide_eq_false_iff_not] at e1
 (repeat (refine V_run ?_))
 refine Cond_d (fun e2=>?_) (fun e2=>?_)
 ·(repeat (first | refine V_run ?_ | refine iV_ld1 ?_))
  refine Cond_d (fun e3=>?_) (fun e3=>?_)
  ·(repeat (first | refine V_run ?_ | (refine iU_st ?_; intro _ _)))
   exact main 0 1 0 _ (by assumption) ⟨by unfold nm0; (repeat' split) <;> omega,by unfold nm1; (repeat' split) <;> omega,by unfold nm2; (repeat' split) <;> omega⟩
  ·exact main 0 0 0 _ (by assumption) ⟨by unfold nm0; (repeat' split) <;> omega,by unfold nm1; (repeat' split) <;> omega,by unfold nm2; (repeat' split) <;> omega⟩
 (repeat (refine V_run ?_))
 refine Cond_d (fun e3=>?_) (fun e3=>?_)
 ·(repeat (first | refine V_run ?_ | refine iV_ld1 ?_))
  refine Cond_d (fun e4=>?_) (fun e4=>?_)
  ·(repeat (first | refine V_run ?_ | (refine iU_st ?_; intro _ _)))
   exact main 1 0 0 _ (by assumption) ⟨by unfold nm0; (repeat' split) <;> omega,by unfold nm1; (repeat' split) <;> omega,by unfold nm2; (repeat' split) <;> omega⟩
  ·exact main 0 0 0 _ (by assumption) ⟨by unfold nm0; (repeat' split) <;> omega,by unfold nm1; (repeat' split) <;> omega,by unfold nm2; (repeat' split) <;> omega⟩
 (repeat (refine V_run ?_))
 refine Cond_d (fun e4=>?_) (fun e4=>?_)
 ·(repeat (first | refine V_run ?_ | refine iV_ld1 ?_))
  refine Cond_d (fun e5=>?_) (fun e5=>?_)
  ·(repeat (first | refine V_run ?_ | (refine iU_st ?_; intro _ _)))
   exact main 0 0 1 _ (by assumption) ⟨by unfold nm0; (repeat' split) <;> omega,by unfold nm1; (repeat' split) <;> omega,by unfold nm2; (repeat' split) <;> omega⟩
  ·exact main 0 0 0 _ (by assumption) ⟨by unfold nm0; (repeat' split) <;> omega,by unfold nm1; (repeat' split) <;> omega,by unfold nm2; (repeat' split) <;> omega⟩
 (repeat (refine V_run ?_))
 refine Cond_d (fun e5=>?_) (fun e5=>?_)
 ·(repeat (first | refine V_run ?_ | (refine iU_st ?_; intro _ _)))
  exact main 2 0 0 _ (by assumption) ⟨by unfold nm0; (repeat' split) <;> omega,by unfold nm1; (repeat' split) <;> omega,by unfold nm2; (repeat' split) <;> omega⟩
 (repeat (refine V_run ?_))
 refine Cond_d (fun e6=>?_) (fun e6=>?_)
 ·(repeat (first | refine V_run ?_ | (refine iU_st ?_; intro _ _)))
  exact main 3 0 0 _ (by assumption) ⟨by unfold nm0; (repeat' split) <;> omega,by unfold nm1; (repeat' split) <;> omega,by unfold nm2; (repeat' split) <;> omega⟩
 (repeat (refine V_run ?_))
 refine Cond_d (fun e7=>?_) (fun e7=>?_)
 ·(repeat (first | refine V_run ?_ | refine iV_ld1 ?_))
  refine Cond_d (fun e8=>?_) (fun e8=>?_)
  ·(repeat (first | refine V_run ?_ | (refine iU_st ?_; intro _ _)))
   exact main 3 0 0 _ (by assumption) ⟨by unfold nm0; (repeat' split) <;> omega,by unfold nm1; (repeat' split) <;> omega,by unfold nm2; (repeat' split) <;> omega⟩
  ·exact main 0 0 0 _ (by assumption) ⟨by unfold nm0; (repeat' split) <;> omega,by unfold nm1; (repeat' split) <;> omega,by unfold nm2; (repeat' split) <;> omega⟩
 exact main 0 0 0 _ (by assumption) ⟨by unfold nm0; (repeat' split) <;> omega,by unfold nm1; (repeat' split) <;> omega,by unfold nm2; (repeat' split) <;> omega⟩)⟩
def posAt (l:List Bool) (i:Nat):Int:=if l.getD i false = true then ((fK (fun i=>l.getD i false) i).length:Int) else -1
def posL (l:List Bool):List Int:=(List.range l.length).map (posAt l)
def posV (l:List Bool) (k:Nat):List Value:=(List.range k).map (fun i=>Value.int .i64 (posAt l i)) ++ List.replicate (l.length - k) (.int .i64 0)
theorem posV_len {l:List Bool} {k:Nat} (h:k <= l.length):(posV l k).length = l.length:=by simp [posV]; omega
theorem posV_set {l:List Bool} {k:Nat} (h:k < l.length):(posV l k).set k (.int .i64 (posAt l k)) = posV l (k + 1):=by
 unfold posV
 have hl:((List.range k).map (fun i=>Value.int .i64 (posAt l i))).length = k:=by simp
 rw [List.set_append_right _ _ (by omega),hl,Nat.sub_self,show l.length - k = (l.length - (k + 1)) + 1 by omega,List.replicate_succ,List.set_cons_zero,List.range_succ,List.map_append,List.append_assoc]
 rfl
theorem posV_end {l:List Bool}:posV l l.length = (posL l).flatMap fun x=>[Value.int .i64 x]:=by
 unfold posV posL
 simp only [Nat.sub_self,List.replicate_zero,List.append_nil]
 generalize List.range l.length = r
 induction r with
 | nil=>rfl
 | cons a l ih=>simp only [List.map_cons,List.flatMap_cons,ih]; rfl
theorem kept_of {z:Z} {w:World} {v:Value} {l:List Bool} (h:SlR El.bool z v l) (hl:l.length <= 100000):Fn1 81 #[v] z w fun z' r=>∃ v' n,r = .tuple #[v',n]/\SlR El.int z' v' (posL l):=Fn1.intro fun hS=>en81 (by
 unfold vc81
 obtain ⟨_,a,cap,rfl,_,hel⟩:=h.form
 refine V_run ?_
 refine iV_ms (by omega) (by omega) ?_
 intro b9 w1 hb9 hS1
 have hrep:((List.range (l.length * 1)).map fun i=>([Value.int .i64 0]:List Value)[i % ([Value.int .i64 0]:List Value).length]!) = posV l 0:=by
  rw [Nat.mul_one]
  unfold posV
  apply List.ext_getElem?
  intro i
  simp only [List.range_zero,List.map_nil,List.nil_append,Nat.sub_zero,List.getElem?_map,List.getElem?_replicate]
  by_cases hi:i < l.length
  ·rw [List.getElem?_range hi,if_pos hi]; simp [Nat.mod_one]
  ·rw [List.getElem?_eq_none (by simp; omega),if_neg hi]; rfl
 rw [hrep] at hS1
 clear hS
 refine LoopG2 (fun (k:Nat) x y w'=>x = .int .i64 ((fK (fun i=>l.getD i false) k).length:Nat)/\y = .int .i64 k/\k <= l.length/\∃ z',Le z z'/\Res w z [] w' z' [(b9,.cells (posV l k).toArray 3 (0,0))]) (fun k=>l.length - k) 0 ⟨rfl,rfl,Nat.zero_le _,z,Le.refl _,hS1⟩ ?_
 rintro I M k x y w2 m ⟨rfl,rfl,hk,z2,hz2,hS2⟩ back
 clear hS1
 refine V_run ?_
 refine V_run ?_
 refine Cond_d (fun h=>?_) (fun h=>?_)
 ·have hlt:k < l.length:=by omega
  haveI:InR (k:Int) (l.length:Nat):=⟨by omega,by omega⟩
  haveI:InI ((k:Int) + 1):=⟨by omega⟩
  have hfl:=@fK_le (fun i=>l.getD i false) k
  have hnx:=@fK_next (fun i=>l.getD i false) k
  haveI:InI (((fK (fun i=>l.getD i false) k).length:Int) + 1):=⟨by omega⟩
  have e0:(k:Int).toNat * 1 = k:=by omega
  haveI s1:SetN (posV l k) ((k:Int).toNat * 1) [.int .i64 (-1)] ((posV l k).set k (.int .i64 (-1))):=by
   rw [e0]; exact SetN.at_ (by rw [posV_len hk]; exact hlt)
  obtain ⟨b,off,cs,rfl,hr,hat⟩:=hel _ _ (List.getElem?_eq_getElem hlt)
  cases hr
  have hgd:l.getD k false = l[k]:=by rw [List.getD_eq_getElem?_getD,List.getElem?_eq_getElem hlt]; rfl
  haveI:Fz z b (off + (k:Int).toNat * 1) [.bool l[k]]:=⟨by rw [Int.toNat_natCast]; exact hat⟩
  intro Ka hKa
  have ma:∀ w' z',Le z2 z'->Res w z [] w' z' [(b9,.cells (posV l (k + 1)).toArray 3 (0,0))]->Ka [.int .i64 ((fK (fun i=>l.getD i false) (k + 1)).length:Nat)] w':=by
   intro w' z' hz' hS'
   refine hKa _ _ fun _=>?_
   refine V_run ?_
   exact back (k + 1) _ _ _ ⟨rfl,by simp,by omega,z',hz2.trans hz',hS'⟩ (by omega)
  clear hKa back
  generalize hx:l[k] = X at *
  (repeat (first | refine V_run ?_ | (refine iU_st ?_; intro _ _) | refine fV_ld1 ?_))
  cases X with
  | true=>
   refine Cond_is rfl ?_
   have hpa:posAt l k = ((fK (fun i=>l.getD i false) k).length:Nat):=by unfold posAt; rw [if_pos hgd]
   haveI s2:SetN ((posV l k).set k (.int .i64 (-1))) ((k:Int).toNat * 1) [.int .i64 ((fK (fun i=>l.getD i false) k).length:Nat)] (posV l (k + 1)):=by
    rw [e0,show posV l (k + 1) = ((posV l k).set k (.int .i64 (-1))).set k (.int .i64 ((fK (fun i=>l.getD i false) k).length:Nat)) from (by rw [List.set_set,<- posV_set hlt,hpa])]
    exact SetN.at_ (by rw [List.length_set,posV_len hk]; exact hlt)
   (repeat (first | refine V_run ?_ | (refine iU_st ?_; intro _ _)))
   rename_i hS5
   rw [hnx,hgd] at ma
   exact ma _ _ (by (repeat (exact Le.refl _))) hS5
  | false=>
   refine Cond_not rfl ?_
   have hpa:posAt l k = -1:=by unfold posAt; rw [if_neg (by rw [hgd]; simp)]
   rename_i hS5
   rw [hnx,hgd] at ma
   rw [<- hpa,posV_set hlt] at hS5
   exact ma _ _ (by (repeat (exact Le.refl _))) hS5
 ·have hk0:k = l.length:=by omega
  subst hk0
  rw [posV_end,<- List.append_nil (List.flatMap _ _)] at hS2
  have hfl:((posL l).flatMap fun x=>[Value.int .i64 x]).length = l.length:=by rw [<- posV_end,posV_len (Nat.le_refl _)]
  obtain ⟨z3,hz3,hS3,hv⟩:=Res.freezeSl (E:=El.int) (e:=3) (v:=.slice (some ⟨b9,0,none⟩) (posL l).length l.length) (xs:=posL l) (f:=fun x=>[Value.int .i64 x]) (B:=[(b9,_)]) hS2 ⟨by rw [hfl]; simp [posL,El.int],.inr ⟨b9,l.length,[],by rfl,by rfl,by simp [posL],by simp only [maxLen]; omega,by rw [List.append_nil,hfl]; simp [El.int]⟩⟩ (by simp only [posL,List.length_map,List.length_range,big]; omega) (fun _=>rfl) (fun z x _=>rfl)
  have hpl:(posL l).length = l.length:=by simp [posL]
  rw [hpl] at hv
  exact ⟨_,_,hS3,_,_,rfl,hv⟩)
end
section
open Go Q Go.RowKit
theorem eqParts_of {z:Z} {w:World} {v u:Value} {l m:List PartM} (hv:SlR El.part z v l) (hu:SlR El.part z u m):Fn1 84 #[v,u] z w fun _ r=>∃ b,r = .bool b/\(b = true ↔ l = m):=Fn1.intro fun hS=>en84 (by
 unfold vc84
 obtain ⟨hb1,a1,c1,rfl,_,hel1⟩:=hv.form
 obtain ⟨hb2,a2,c2,rfl,_,hel2⟩:=hu.form
 refine V_run ?_
 refine V_run ?_
 refine V_run ?_
 refine Cond_nd (fun h=>?_) (fun h=>?_)
 ·exact ⟨_,_,hS,false,rfl,by simp; intro e; rw [e] at h; omega⟩
 have hlm:l.length = m.length:=by omega
 refine V_run ?_
 refine LoopR1 (fun (k:Nat) x=>x = .int .i64 k/\k <= l.length/\∀ i,i < k->l[i]? = m[i]?) (fun k=>l.length - k) 0 ⟨rfl,Nat.zero_le _,fun i hi=>by omega⟩ ?_
 rintro I M k x w1 z1 m1 ⟨rfl,hk,hall⟩ hz1 hS1 back
 clear hS
 refine V_run ?_
 refine Cond_d (fun h=>?_) (fun h=>?_)
 ·have hk1:k < l.length:=by omega
  have hk2:k < m.length:=by omega
  obtain ⟨b,off,cs,rfl,hr,hat⟩:=hel1 _ _ (List.getElem?_eq_getElem hk1)
  obtain ⟨b',off',cs',rfl,hr',hat'⟩:=hel2 _ _ (List.getElem?_eq_getElem hk2)
  have hr:=hr.1
  have hr':=hr'.1
  cases hr; cases hr'
  haveI:InR (k:Int) (l.length:Nat):=⟨by omega,by omega⟩
  haveI:InR (k:Int) (m.length:Nat):=⟨by omega,by omega⟩
  haveI:InI ((k:Int) + 1):=⟨by simp only [big] at hb1; omega⟩
  haveI:Fz z b (off + (k:Int).toNat * 3) l[k].cells:=⟨hat⟩
  haveI:Fz z b' (off' + (k:Int).toNat * 3) m[k].cells:=⟨hat'⟩
  have g1:l[k]? = some l[k]:=List.getElem?_eq_getElem hk1
  have g2:m[k]? = some m[k]:=List.getElem?_eq_getElem hk2
  generalize l[k] = p at *
  generalize m[k] = q at *
  (repeat (first | (refine iDr ?_; intro _ _) | refine PV_run ?_ | refine fHV_ldN ?_))
  have hpq:(decide (p.kind = q.kind) && (decide (p.text = q.text) && (decide (p.n = q.n) && true))) = true ↔ p = q:=by cases p; cases q; simp
  refine Cond_n (fun h3=>?_) (fun h3=>?_)
  ·refine ⟨_,_,‹_›,false,rfl,?_⟩
   have:¬ p = q:=fun e=>by rw [hpq.2 e] at h3; cases h3
   constructor
   ·intro e; cases e
   ·intro e; subst e; rw [g1] at g2; cases g2; exact absurd rfl this
  ·refine V_run ?_
   refine back (k + 1) _ _ _ ⟨by simp,by omega,fun i hi=>?_⟩ (Le.refl _) (by assumption) (by omega)
   rcases Nat.lt_or_eq_of_le (Nat.le_of_lt_succ hi) with hi | hi
   ·exact hall i hi
   ·subst hi; rw [g1,g2,hpq.1 h3]
 ·refine ⟨_,_,hS1,true,rfl,?_⟩
  simp only [true_iff]
  exact ext_take (by omega) hlm hall)
theorem eqItems_of {z:Z} {w:World} {v u:Value} {l m:List ItemM} (hv:SlR El.item z v l) (hu:SlR El.item z u m):Fn1 87 #[v,u] z w fun _ r=>∃ b,r = .bool b/\(b = true ↔ l = m):=Fn1.intro fun hS=>en87 (by
 unfold vc87
 obtain ⟨hb1,a1,c1,rfl,_,hel1⟩:=hv.form
 obtain ⟨hb2,a2,c2,rfl,_,hel2⟩:=hu.form
 refine V_run ?_
 refine V_run ?_
 refine V_run ?_
 refine Cond_nd (fun h=>?_) (fun h=>?_)
 ·exact ⟨_,_,hS,false,rfl,by simp; intro e; rw [e] at h; omega⟩
 have hlm:l.length = m.length:=by omega
 refine V_run ?_
 refine LoopR1 (fun (k:Nat) x=>x = .int .i64 k/\k <= l.length/\∀ i,i < k->l[i]? = m[i]?) (fun k=>l.length - k) 0 ⟨rfl,Nat.zero_le _,fun i hi=>by omega⟩ ?_
 rintro I M k x w1 z1 m1 ⟨rfl,hk,hall⟩ hz1 hS1 back
 clear hS
 refine V_run ?_
 refine Cond_d (fun h=>?_) (fun h=>?_)
 ·have hk1:k < l.length:=by omega
  have hk2:k < m.length:=by omega
  obtain ⟨b,off,cs,rfl,hr,hat⟩:=hel1 _ _ (List.getElem?_eq_getElem hk1)
  obtain ⟨b',off',cs',rfl,hr',hat'⟩:=hel2 _ _ (List.getElem?_eq_getElem hk2)
  have hr:=hr.1
  have hr':=hr'.1
  cases hr; cases hr'
  haveI:InR (k:Int) (l.length:Nat):=⟨by omega,by omega⟩
  haveI:InR (k:Int) (m.length:Nat):=⟨by omega,by omega⟩
  haveI:InI ((k:Int) + 1):=⟨by simp only [big] at hb1; omega⟩
  haveI:Fz z b (off + (k:Int).toNat * 2) l[k].cells:=⟨hat⟩
  haveI:Fz z b' (off' + (k:Int).toNat * 2) m[k].cells:=⟨hat'⟩
  have g1:l[k]? = some l[k]:=List.getElem?_eq_getElem hk1
  have g2:m[k]? = some m[k]:=List.getElem?_eq_getElem hk2
  generalize l[k] = p at *
  generalize m[k] = q at *
  (repeat (first | (refine iDr ?_; intro _ _) | refine PV_run ?_ | refine fHV_ldN ?_))
  have hpq:(decide (p.name = q.name) && (p.via == q.via && true)) = true ↔ p = q:=by cases p; cases q; simp
  refine Cond_n (fun h3=>?_) (fun h3=>?_)
  ·refine ⟨_,_,‹_›,false,rfl,?_⟩
   have:¬ p = q:=fun e=>by rw [hpq.2 e] at h3; cases h3
   constructor
   ·intro e; cases e
   ·intro e; subst e; rw [g1] at g2; cases g2; exact absurd rfl this
  ·refine V_run ?_
   refine back (k + 1) _ _ _ ⟨by simp,by omega,fun i hi=>?_⟩ (Le.refl _) (by assumption) (by omega)
   rcases Nat.lt_or_eq_of_le (Nat.le_of_lt_succ hi) with hi | hi
   ·exact hall i hi
   ·subst hi; rw [g1,g2,hpq.1 h3]
 ·refine ⟨_,_,hS1,true,rfl,?_⟩
  simp only [true_iff]
  exact ext_take (by omega) hlm hall)
theorem eqStrs_of {z:Z} {w:World} {v u:Value} {l m:List ByteArray} (hv:SlR El.str z v l) (hu:SlR El.str z u m):Fn1 88 #[v,u] z w fun _ r=>∃ b,r = .bool b/\(b = true ↔ l = m):=Fn1.intro fun hS=>en88 (by
 unfold vc88
 obtain ⟨hb1,a1,c1,rfl,_,hel1⟩:=hv.form
 obtain ⟨hb2,a2,c2,rfl,_,hel2⟩:=hu.form
 refine V_run ?_
 refine V_run ?_
 refine V_run ?_
 refine Cond_nd (fun h=>?_) (fun h=>?_)
 ·exact ⟨_,_,hS,false,rfl,by simp; intro e; rw [e] at h; omega⟩
 have hlm:l.length = m.length:=by omega
 refine V_run ?_
 refine LoopR1 (fun (k:Nat) x=>x = .int .i64 k/\k <= l.length/\∀ i,i < k->l[i]? = m[i]?) (fun k=>l.length - k) 0 ⟨rfl,Nat.zero_le _,fun i hi=>by omega⟩ ?_
 rintro I M k x w1 z1 m1 ⟨rfl,hk,hall⟩ hz1 hS1 back
 clear hS
 refine V_run ?_
 refine Cond_d (fun h=>?_) (fun h=>?_)
 ·have hk1:k < l.length:=by omega
  have hk2:k < m.length:=by omega
  obtain ⟨b,off,cs,rfl,hr,hat⟩:=hel1 _ _ (List.getElem?_eq_getElem hk1)
  obtain ⟨b',off',cs',rfl,hr',hat'⟩:=hel2 _ _ (List.getElem?_eq_getElem hk2)
  have hr:=hr.1
  have hr':=hr'.1
  cases hr; cases hr'
  haveI:InR (k:Int) (l.length:Nat):=⟨by omega,by omega⟩
  haveI:InR (k:Int) (m.length:Nat):=⟨by omega,by omega⟩
  haveI:InI ((k:Int) + 1):=⟨by simp only [big] at hb1; omega⟩
  haveI:Fz z b (off + (k:Int).toNat * 1) [.string l[k]]:=⟨hat⟩
  haveI:Fz z b' (off' + (k:Int).toNat * 1) [.string m[k]]:=⟨hat'⟩
  have g1:l[k]? = some l[k]:=List.getElem?_eq_getElem hk1
  have g2:m[k]? = some m[k]:=List.getElem?_eq_getElem hk2
  generalize l[k] = p at *
  generalize m[k] = q at *
  (repeat (first | (refine iDr ?_; intro _ _) | refine PV_run ?_ | refine fHV_ld1 ?_))
  have hpq:(decide (p = q)) = true ↔ p = q:=by simp
  refine Cond_n (fun h3=>?_) (fun h3=>?_)
  ·refine ⟨_,_,‹_›,false,rfl,?_⟩
   have:¬ p = q:=fun e=>by rw [hpq.2 e] at h3; cases h3
   constructor
   ·intro e; cases e
   ·intro e; subst e; rw [g1] at g2; cases g2; exact absurd rfl this
  ·refine V_run ?_
   refine back (k + 1) _ _ _ ⟨by simp,by omega,fun i hi=>?_⟩ (Le.refl _) (by assumption) (by omega)
   rcases Nat.lt_or_eq_of_le (Nat.le_of_lt_succ hi) with hi | hi
   ·exact hall i hi
   ·subst hi; rw [g1,g2,hpq.1 h3]
 ·refine ⟨_,_,hS1,true,rfl,?_⟩
  simp only [true_iff]
  exact ext_take (by omega) hlm hall)
theorem eqSpots_of {z:Z} {w:World} {v u:Value} {l m:List SpotM} (hv:SlR El.spot z v l) (hu:SlR El.spot z u m):Fn1 89 #[v,u] z w fun _ r=>∃ b,r = .bool b/\(b = true ↔ l = m):=Fn1.intro fun hS=>en89 (by
 unfold vc89
 obtain ⟨hb1,a1,c1,rfl,_,hel1⟩:=hv.form
 obtain ⟨hb2,a2,c2,rfl,_,hel2⟩:=hu.form
 refine V_run ?_
 refine V_run ?_
 refine V_run ?_
 refine Cond_nd (fun h=>?_) (fun h=>?_)
 ·exact ⟨_,_,hS,false,rfl,by simp; intro e; rw [e] at h; omega⟩
 have hlm:l.length = m.length:=by omega
 refine V_run ?_
 refine LoopR1 (fun (k:Nat) x=>x = .int .i64 k/\k <= l.length/\∀ i,i < k->l[i]? = m[i]?) (fun k=>l.length - k) 0 ⟨rfl,Nat.zero_le _,fun i hi=>by omega⟩ ?_
 rintro I M k x w1 z1 m1 ⟨rfl,hk,hall⟩ hz1 hS1 back
 clear hS
 refine V_run ?_
 refine Cond_d (fun h=>?_) (fun h=>?_)
 ·have hk1:k < l.length:=by omega
  have hk2:k < m.length:=by omega
  obtain ⟨b,off,cs,rfl,hr,hat⟩:=hel1 _ _ (List.getElem?_eq_getElem hk1)
  obtain ⟨b',off',cs',rfl,hr',hat'⟩:=hel2 _ _ (List.getElem?_eq_getElem hk2)
  have hr:=hr.1
  have hr':=hr'.1
  cases hr; cases hr'
  haveI:InR (k:Int) (l.length:Nat):=⟨by omega,by omega⟩
  haveI:InR (k:Int) (m.length:Nat):=⟨by omega,by omega⟩
  haveI:InI ((k:Int) + 1):=⟨by simp only [big] at hb1; omega⟩
  haveI:Fz z b (off + (k:Int).toNat * 2) l[k].cells:=⟨hat⟩
  haveI:Fz z b' (off' + (k:Int).toNat * 2) m[k].cells:=⟨hat'⟩
  have g1:l[k]? = some l[k]:=List.getElem?_eq_getElem hk1
  have g2:m[k]? = some m[k]:=List.getElem?_eq_getElem hk2
  generalize l[k] = p at *
  generalize m[k] = q at *
  (repeat (first | (refine iDr ?_; intro _ _) | refine PV_run ?_ | refine fHV_ldN ?_))
  have hpq:(decide (p.name = q.name) && (decide (p.at_ = q.at_) && true)) = true ↔ p = q:=by cases p; cases q; simp
  refine Cond_n (fun h3=>?_) (fun h3=>?_)
  ·refine ⟨_,_,‹_›,false,rfl,?_⟩
   have:¬ p = q:=fun e=>by rw [hpq.2 e] at h3; cases h3
   constructor
   ·intro e; cases e
   ·intro e; subst e; rw [g1] at g2; cases g2; exact absurd rfl this
  ·refine V_run ?_
   refine back (k + 1) _ _ _ ⟨by simp,by omega,fun i hi=>?_⟩ (Le.refl _) (by assumption) (by omega)
   rcases Nat.lt_or_eq_of_le (Nat.le_of_lt_succ hi) with hi | hi
   ·exact hall i hi
   ·subst hi; rw [g1,g2,hpq.1 h3]
 ·refine ⟨_,_,hS1,true,rfl,?_⟩
  simp only [true_iff]
  exact ext_take (by omega) hlm hall)
theorem eqInss_of {z:Z} {w:World} {v u:Value} {l m:List InsM} (hv:SlR El.ins z v l) (hu:SlR El.ins z u m):Fn1 90 #[v,u] z w fun _ r=>∃ b,r = .bool b/\(b = true ↔ l = m):=Fn1.intro fun hS=>en90 (by
 unfold vc90
 obtain ⟨hb1,a1,c1,rfl,_,hel1⟩:=hv.form
 obtain ⟨hb2,a2,c2,rfl,_,hel2⟩:=hu.form
 refine V_run ?_
 refine V_run ?_
 refine V_run ?_
 refine Cond_nd (fun h=>?_) (fun h=>?_)
 ·exact ⟨_,_,hS,false,rfl,by simp; intro e; rw [e] at h; omega⟩
 have hlm:l.length = m.length:=by omega
 refine V_run ?_
 refine LoopR1 (fun (k:Nat) x=>x = .int .i64 k/\k <= l.length/\∀ i,i < k->l[i]? = m[i]?) (fun k=>l.length - k) 0 ⟨rfl,Nat.zero_le _,fun i hi=>by omega⟩ ?_
 rintro I M k x w1 z1 m1 ⟨rfl,hk,hall⟩ hz1 hS1 back
 clear hS
 refine V_run ?_
 refine Cond_d (fun h=>?_) (fun h=>?_)
 ·have hk1:k < l.length:=by omega
  have hk2:k < m.length:=by omega
  obtain ⟨b,off,cs,rfl,hr,hat⟩:=hel1 _ _ (List.getElem?_eq_getElem hk1)
  obtain ⟨b',off',cs',rfl,hr',hat'⟩:=hel2 _ _ (List.getElem?_eq_getElem hk2)
  cases hr; cases hr'
  haveI:InR (k:Int) (l.length:Nat):=⟨by omega,by omega⟩
  haveI:InR (k:Int) (m.length:Nat):=⟨by omega,by omega⟩
  haveI:InI ((k:Int) + 1):=⟨by simp only [big] at hb1; omega⟩
  haveI:Fz z b (off + (k:Int).toNat * 4) l[k].cells:=⟨hat⟩
  haveI:Fz z b' (off' + (k:Int).toNat * 4) m[k].cells:=⟨hat'⟩
  have g1:l[k]? = some l[k]:=List.getElem?_eq_getElem hk1
  have g2:m[k]? = some m[k]:=List.getElem?_eq_getElem hk2
  generalize l[k] = p at *
  generalize m[k] = q at *
  (repeat (first | (refine iDr ?_; intro _ _) | refine PV_run ?_ | refine fHV_ldN ?_))
  have hpq:(decide (p.op = q.op) && (decide (p.a = q.a) && (decide (p.b = q.b) && (decide (p.c = q.c) && true)))) = true ↔ p = q:=by cases p; cases q; simp
  refine Cond_n (fun h3=>?_) (fun h3=>?_)
  ·refine ⟨_,_,‹_›,false,rfl,?_⟩
   have:¬ p = q:=fun e=>by rw [hpq.2 e] at h3; cases h3
   constructor
   ·intro e; cases e
   ·intro e; subst e; rw [g1] at g2; cases g2; exact absurd rfl this
  ·refine V_run ?_
   refine back (k + 1) _ _ _ ⟨by simp,by omega,fun i hi=>?_⟩ (Le.refl _) (by assumption) (by omega)
   rcases Nat.lt_or_eq_of_le (Nat.le_of_lt_succ hi) with hi | hi
   ·exact hall i hi
   ·subst hi; rw [g1,g2,hpq.1 h3]
 ·refine ⟨_,_,hS1,true,rfl,?_⟩
  simp only [true_iff]
  exact ext_take (by omega) hlm hall)
theorem smParts_of {z:Z} {w:World} {v u:Value} {l m:List PartM} (hv:SlR El.part z v l) (hu:SlR El.part z u m):Fn1 83 #[v,u] z w fun _ r=>∃ b,r = .bool b/\(b = true ↔ l = m):=Fn1.intro fun hS=>en83 (by
 unfold vc83
 refine CV_1 (eqParts_of hv hu) ?_
 rintro z3 w3 v3 hz3 hS3 ⟨b9,rfl,hb9⟩
 exact ⟨_,_,hS3,b9,rfl,hb9⟩)
theorem eqFParts_of {z:Z} {w:World} {v u:Value} {l m:List (List PartM)} (hv:SlR (El.sl El.part) z v l) (hu:SlR (El.sl El.part) z u m):Fn1 82 #[v,u,.func (.func 83) #[] #[]] z w fun _ r=>∃ b,r = .bool b/\(b = true ↔ l = m):=Fn1.intro fun hS=>en82 (by
 unfold vc82
 obtain ⟨hb1,a1,c1,rfl,_,hel1⟩:=hv.form
 obtain ⟨hb2,a2,c2,rfl,_,hel2⟩:=hu.form
 refine V_run ?_
 refine V_run ?_
 refine V_run ?_
 refine Cond_nd (fun h=>?_) (fun h=>?_)
 ·exact ⟨_,_,hS,false,rfl,by simp; intro e; rw [e] at h; omega⟩
 have hlm:l.length = m.length:=by omega
 refine V_run ?_
 refine LoopR1 (fun (k:Nat) x=>x = .int .i64 k/\k <= l.length/\∀ i,i < k->l[i]? = m[i]?) (fun k=>l.length - k) 0 ⟨rfl,Nat.zero_le _,fun i hi=>by omega⟩ ?_
 rintro I M k x w1 z1 m1 ⟨rfl,hk,hall⟩ hz1 hS1 back
 clear hS
 refine V_run ?_
 refine Cond_d (fun h=>?_) (fun h=>?_)
 ·have hk1:k < l.length:=by omega
  have hk2:k < m.length:=by omega
  haveI:InR (k:Int) (l.length:Nat):=⟨by omega,by omega⟩
  haveI:InR (k:Int) (m.length:Nat):=⟨by omega,by omega⟩
  haveI:InI ((k:Int) + 1):=⟨by simp only [big] at hb1; omega⟩
  have g1:l[k]? = some l[k]:=List.getElem?_eq_getElem hk1
  have g2:m[k]? = some m[k]:=List.getElem?_eq_getElem hk2
  generalize l[k] = p at *
  generalize m[k] = q at *
  obtain ⟨b,off,cs,rfl,hr,hat⟩:=hel1 _ _ g1
  obtain ⟨b',off',cs',rfl,hr',hat'⟩:=hel2 _ _ g2
  obtain ⟨v1,rfl,hv1⟩:=hr
  obtain ⟨v2,rfl,hv2⟩:=hr'
  obtain ⟨_,x1,y1,rfl,_,_⟩:=hv1.form
  obtain ⟨_,x2,y2,rfl,_,_⟩:=hv2.form
  haveI:Fz z b (off + (k:Int).toNat * 1) [.slice x1 p.length y1]:=⟨hat⟩
  haveI:Fz z b' (off' + (k:Int).toNat * 1) [.slice x2 q.length y2]:=⟨hat'⟩
  (repeat (first | refine V_run ?_ | refine fV_ld1 ?_))
  refine CV_1 (smParts_of (hv1.mono (by (repeat (assumption)))) (hv2.mono (by (repeat (assumption))))) ?_
  rintro z3 w3 v3 hz3 hS3 ⟨b9,rfl,hb9⟩
  refine V_run ?_
  refine Cond_n (fun h3=>?_) (fun h3=>?_)
  ·refine ⟨_,_,hS3,false,rfl,?_⟩
   have:¬ p = q:=fun e=>by rw [hb9.2 e] at h3; cases h3
   constructor
   ·intro e; cases e
   ·intro e; subst e; rw [g1] at g2; cases g2; exact absurd rfl this
  ·refine V_run ?_
   refine back (k + 1) _ _ _ ⟨by simp,by omega,fun i hi=>?_⟩ (by (repeat (assumption))) hS3 (by omega)
   rcases Nat.lt_or_eq_of_le (Nat.le_of_lt_succ hi) with hi | hi
   ·exact hall i hi
   ·subst hi; rw [g1,g2,hb9.1 h3]
 ·refine ⟨_,_,hS1,true,rfl,?_⟩
  simp only [true_iff]
  exact ext_take (by omega) hlm hall)
theorem smItems_of {z:Z} {w:World} {v u:Value} {l m:List ItemM} (hv:SlR El.item z v l) (hu:SlR El.item z u m):Fn1 86 #[v,u] z w fun _ r=>∃ b,r = .bool b/\(b = true ↔ l = m):=Fn1.intro fun hS=>en86 (by
 unfold vc86
 refine CV_1 (eqItems_of hv hu) ?_
 rintro z3 w3 v3 hz3 hS3 ⟨b9,rfl,hb9⟩
 exact ⟨_,_,hS3,b9,rfl,hb9⟩)
theorem eqFItems_of {z:Z} {w:World} {v u:Value} {l m:List (List ItemM)} (hv:SlR (El.sl El.item) z v l) (hu:SlR (El.sl El.item) z u m):Fn1 85 #[v,u,.func (.func 86) #[] #[]] z w fun _ r=>∃ b,r = .bool b/\(b = true ↔ l = m):=Fn1.intro fun hS=>en85 (by
 unfold vc85
 obtain ⟨hb1,a1,c1,rfl,_,hel1⟩:=hv.form
 obtain ⟨hb2,a2,c2,rfl,_,hel2⟩:=hu.form
 refine V_run ?_
 refine V_run ?_
 refine V_run ?_
 refine Cond_nd (fun h=>?_) (fun h=>?_)
 ·exact ⟨_,_,hS,false,rfl,by simp; intro e; rw [e] at h; omega⟩
 have hlm:l.length = m.length:=by omega
 refine V_run ?_
 refine LoopR1 (fun (k:Nat) x=>x = .int .i64 k/\k <= l.length/\∀ i,i < k->l[i]? = m[i]?) (fun k=>l.length - k) 0 ⟨rfl,Nat.zero_le _,fun i hi=>by omega⟩ ?_
 rintro I M k x w1 z1 m1 ⟨rfl,hk,hall⟩ hz1 hS1 back
 clear hS
 refine V_run ?_
 refine Cond_d (fun h=>?_) (fun h=>?_)
 ·have hk1:k < l.length:=by omega
  have hk2:k < m.length:=by omega
  haveI:InR (k:Int) (l.length:Nat):=⟨by omega,by omega⟩
  haveI:InR (k:Int) (m.length:Nat):=⟨by omega,by omega⟩
  haveI:InI ((k:Int) + 1):=⟨by simp only [big] at hb1; omega⟩
  have g1:l[k]? = some l[k]:=List.getElem?_eq_getElem hk1
  have g2:m[k]? = some m[k]:=List.getElem?_eq_getElem hk2
  generalize l[k] = p at *
  generalize m[k] = q at *
  obtain ⟨b,off,cs,rfl,hr,hat⟩:=hel1 _ _ g1
  obtain ⟨b',off',cs',rfl,hr',hat'⟩:=hel2 _ _ g2
  obtain ⟨v1,rfl,hv1⟩:=hr
  obtain ⟨v2,rfl,hv2⟩:=hr'
  obtain ⟨_,x1,y1,rfl,_,_⟩:=hv1.form
  obtain ⟨_,x2,y2,rfl,_,_⟩:=hv2.form
  haveI:Fz z b (off + (k:Int).toNat * 1) [.slice x1 p.length y1]:=⟨hat⟩
  haveI:Fz z b' (off' + (k:Int).toNat * 1) [.slice x2 q.length y2]:=⟨hat'⟩
  (repeat (first | refine V_run ?_ | refine fV_ld1 ?_))
  refine CV_1 (smItems_of (hv1.mono (by (repeat (assumption)))) (hv2.mono (by (repeat (assumption))))) ?_
  rintro z3 w3 v3 hz3 hS3 ⟨b9,rfl,hb9⟩
  refine V_run ?_
  refine Cond_n (fun h3=>?_) (fun h3=>?_)
  ·refine ⟨_,_,hS3,false,rfl,?_⟩
   have:¬ p = q:=fun e=>by rw [hb9.2 e] at h3; cases h3
   constructor
   ·intro e; cases e
   ·intro e; subst e; rw [g1] at g2; cases g2; exact absurd rfl this
  ·refine V_run ?_
   refine back (k + 1) _ _ _ ⟨by simp,by omega,fun i hi=>?_⟩ (by (repeat (assumption))) hS3 (by omega)
   rcases Nat.lt_or_eq_of_le (Nat.le_of_lt_succ hi) with hi | hi
   ·exact hall i hi
   ·subst hi; rw [g1,g2,hb9.1 h3]
 ·refine ⟨_,_,hS1,true,rfl,?_⟩
  simp only [true_iff]
  exact ext_take (by omega) hlm hall)
theorem codeSame_of {z:Z} {w:World} {v u:Value} {c d:CodeM} (hc:CodeR z v c) (hd:CodeR z u d):Fn1 33 #[v,u] z w fun _ r=>∃ b,r = .bool b/\(b = true ↔ c = d):=Fn1.intro fun hS=>en33 (by
 unfold vc33
 obtain ⟨a1,a2,a3,a4,a5,a6,k1,k2,k3,k4,k5,k6,rfl,h1,h2,h3,h4,h5,h6⟩:=hc.form
 obtain ⟨p1,p2,p3,p4,p5,p6,q1,q2,q3,q4,q5,q6,rfl,g1,g2,g3,g4,g5,g6⟩:=hd.form
 refine iV_bx ?_
 intro bc w1 hbc hS1
 refine iV_bx ?_
 intro bd w2 hbd hS2
 clear hS1
 obtain ⟨z3,hz3,hS3,hatc⟩:=hS2.frz bc
 obtain ⟨zc,hzc',hS4,hatd⟩:=hS3.frz bd
 have hatc:=hatc.mono hzc'
 have hzc:=hz3.trans hzc'
 generalize hRR:(fun (v:Value) (w':World)=>∃ z' L',Res w z [] w' z' L'/\∃ b,v = .bool b/\(b = true ↔ c = d)) = RR
 have hR:∀ z' w' L' b,Res w2 zc [] w' z' L'->(b = true ↔ c = d)->RR (.bool b) w':=fun z' w' L' b k e=>by rw [<- hRR]; exact ⟨z',L',hS4.comp k,b,rfl,e⟩
 clear hRR
 have hS5:=hS4.self
 clear hS hS2 hS3 hS4
 have hcd:c = d ↔ c.consts = d.consts/\c.tmpls = d.tmpls/\c.lists = d.lists/\c.labels = d.labels/\c.slots = d.slots/\c.ins = d.ins:=by cases c; cases d; simp
 haveI:Fz zc bc 0 [.slice a1 c.consts.length k1]:=⟨hatc.fld (i:=0) rfl rfl⟩
 haveI:Fz zc bd 0 [.slice p1 d.consts.length q1]:=⟨hatd.fld (i:=0) rfl rfl⟩
 haveI:Fz zc bc 1 [.slice a2 c.tmpls.length k2]:=⟨hatc.fld (i:=1) rfl rfl⟩
 haveI:Fz zc bd 1 [.slice p2 d.tmpls.length q2]:=⟨hatd.fld (i:=1) rfl rfl⟩
 haveI:Fz zc bc 2 [.slice a3 c.lists.length k3]:=⟨hatc.fld (i:=2) rfl rfl⟩
 haveI:Fz zc bd 2 [.slice p3 d.lists.length q3]:=⟨hatd.fld (i:=2) rfl rfl⟩
 haveI:Fz zc bc 3 [.slice a4 c.labels.length k4]:=⟨hatc.fld (i:=3) rfl rfl⟩
 haveI:Fz zc bd 3 [.slice p4 d.labels.length q4]:=⟨hatd.fld (i:=3) rfl rfl⟩
 haveI:Fz zc bc 4 [.slice a5 c.slots.length k5]:=⟨hatc.fld (i:=4) rfl rfl⟩
 haveI:Fz zc bd 4 [.slice p5 d.slots.length q5]:=⟨hatd.fld (i:=4) rfl rfl⟩
 haveI:Fz zc bc 5 [.slice a6 c.ins.length k6]:=⟨hatc.fld (i:=5) rfl rfl⟩
 haveI:Fz zc bd 5 [.slice p6 d.ins.length q6]:=⟨hatd.fld (i:=5) rfl rfl⟩
 have l1:=h1.mono hzc
 have l2:=h2.mono hzc
 have l3:=h3.mono hzc
 have l4:=h4.mono hzc
 have l5:=h5.mono hzc
 have l6:=h6.mono hzc
 have m1:=g1.mono hzc
 have m2:=g2.mono hzc
 have m3:=g3.mono hzc
 have m4:=g4.mono hzc
 have m5:=g5.mono hzc
 have m6:=g6.mono hzc
 have hno:∀ z' w' L' b,Res w2 zc [] w' z' L'->b = false->¬ c = d->RR (.bool b) w':=fun z' w' L' b k e1 e=>by subst e1; exact hR z' w' L' false k ⟨fun h=>(by cases h),fun h=>absurd h e⟩
 (repeat (first | refine V_run ?_ | refine fV_ld1 ?_))
 refine CV_1 (eqFParts_of (l2.mono (by (repeat (exact Le.refl _)))) (m2.mono (by (repeat (exact Le.refl _))))) ?_
 rintro z11 w11 v11 hz11 hS11 ⟨b1,rfl,hb1⟩
 clear hS5
 (repeat (first | refine V_run ?_ | refine fV_ld1 ?_))
 refine CV_1 (eqFItems_of (l3.mono (by (repeat (assumption)))) (m3.mono (by (repeat (assumption))))) ?_
 rintro z12 w12 v12 hz12 hS12 ⟨b2,rfl,hb2⟩
 clear hS11
 have hS12:=hS12.drop
 intro Ka hKa
 have ma:∀ b z' w',Le z12 z'->Res w2 zc [] w' z' []->(b = true ↔ c.tmpls = d.tmpls/\c.lists = d.lists)->Ka [.bool b] w':=by
  intro b z5 w5 hz5 hS5 hb
  refine hKa _ _ fun _=>?_
  clear hKa hS12
  intro Kb hKb
  have mb:∀ b z' w',Le z5 z'->Res w2 zc [] w' z' []->(b = true ↔ c.tmpls = d.tmpls/\c.lists = d.lists/\c.consts = d.consts)->Kb [.bool b] w':=by
   intro b z6 w6 hz6 hS6 hb
   refine hKb _ _ fun _=>?_
   clear hKb hS5
   intro Kc hKc
   have mc:∀ b z' w',Le z6 z'->Res w2 zc [] w' z' []->(b = true ↔ c.tmpls = d.tmpls/\c.lists = d.lists/\c.consts = d.consts/\c.labels = d.labels)->Kc [.bool b] w':=by
    intro b z7 w7 hz7 hS7 hb
    refine hKc _ _ fun _=>?_
    clear hKc hS6
    intro Kd hKd
    have md:∀ b z' w',Le z7 z'->Res w2 zc [] w' z' []->(b = true ↔ c.tmpls = d.tmpls/\c.lists = d.lists/\c.consts = d.consts/\c.labels = d.labels/\c.slots = d.slots)->Kd [.bool b] w':=by
     intro b z8 w8 hz8 hS8 hb
     refine hKd _ _ fun _=>?_
     clear hKd hS7
     intro Ke hKe
     have me:∀ b z' w',Le z8 z'->Res w2 zc [] w' z' []->(b = true ↔ c = d)->Ke [.bool b] w':=by
      intro b z9 w9 hz9 hS9 hb
      refine hKe _ _ fun _=>?_
      exact hR _ _ _ _ hS9 hb
     clear hKe hR
     cases b with
     | false=>
      refine Cond_not rfl ?_
      exact me _ _ _ (by (repeat (exact Le.refl _))) hS8 ⟨fun h=>(by cases h),fun h=>by have:=hcd.1 h; exact hb.2 ⟨this.2.1,this.2.2.1,this.1,this.2.2.2.1,this.2.2.2.2.1⟩⟩
     | true=>
      refine Cond_is rfl ?_
      have hb:=hb.1 rfl
      (repeat (first | refine V_run ?_ | refine fV_ld1 ?_))
      refine CV_1 (eqInss_of (l6.mono (by (repeat (exact Res.zle (by assumption))))) (m6.mono (by (repeat (exact Res.zle (by assumption)))))) ?_
      rintro z13 w13 v13 hz13 hS13 ⟨b3,rfl,hb3⟩
      exact me _ _ _ (by (repeat (assumption))) (hS13.keep []) ⟨fun h=>hcd.2 ⟨hb.2.2.1,hb.1,hb.2.1,hb.2.2.2.1,hb.2.2.2.2,hb3.1 h⟩,fun h=>hb3.2 (hcd.1 h).2.2.2.2.2⟩
    clear hKd
    cases b with
    | false=>
     refine Cond_not rfl ?_
     exact md _ _ _ (by (repeat (exact Le.refl _))) hS7 ⟨fun h=>(by cases h),fun h=>hb.2 ⟨h.1,h.2.1,h.2.2.1,h.2.2.2.1⟩⟩
    | true=>
     refine Cond_is rfl ?_
     have hb:=hb.1 rfl
     (repeat (first | refine V_run ?_ | refine fV_ld1 ?_))
     refine CV_1 (eqStrs_of (l5.mono (by (repeat (exact Res.zle (by assumption))))) (m5.mono (by (repeat (exact Res.zle (by assumption)))))) ?_
     rintro z13 w13 v13 hz13 hS13 ⟨b3,rfl,hb3⟩
     exact md _ _ _ (by (repeat (assumption))) (hS13.keep []) ⟨fun h=>⟨hb.1,hb.2.1,hb.2.2.1,hb.2.2.2,hb3.1 h⟩,fun h=>hb3.2 h.2.2.2.2⟩
   clear hKc
   cases b with
   | false=>
    refine Cond_not rfl ?_
    exact mc _ _ _ (by (repeat (exact Le.refl _))) hS6 ⟨fun h=>(by cases h),fun h=>hb.2 ⟨h.1,h.2.1,h.2.2.1⟩⟩
   | true=>
    refine Cond_is rfl ?_
    have hb:=hb.1 rfl
    (repeat (first | refine V_run ?_ | refine fV_ld1 ?_))
    refine CV_1 (eqSpots_of (l4.mono (by (repeat (exact Res.zle (by assumption))))) (m4.mono (by (repeat (exact Res.zle (by assumption)))))) ?_
    rintro z13 w13 v13 hz13 hS13 ⟨b3,rfl,hb3⟩
    exact mc _ _ _ (by (repeat (assumption))) (hS13.keep []) ⟨fun h=>⟨hb.1,hb.2.1,hb.2.2,hb3.1 h⟩,fun h=>hb3.2 h.2.2.2⟩
  clear hKb
  cases b with
  | false=>
   refine Cond_not rfl ?_
   exact mb _ _ _ (by (repeat (exact Le.refl _))) hS5 ⟨fun h=>(by cases h),fun h=>hb.2 ⟨h.1,h.2.1⟩⟩
  | true=>
   refine Cond_is rfl ?_
   have hb:=hb.1 rfl
   (repeat (first | refine V_run ?_ | refine fV_ld1 ?_))
   refine CV_1 (eqStrs_of (l1.mono (by (repeat (exact Res.zle (by assumption))))) (m1.mono (by (repeat (exact Res.zle (by assumption)))))) ?_
   rintro z13 w13 v13 hz13 hS13 ⟨b3,rfl,hb3⟩
   exact mb _ _ _ (by (repeat (assumption))) (hS13.keep []) ⟨fun h=>⟨hb.1,hb.2,hb3.1 h⟩,fun h=>hb3.2 h.2.2⟩
 clear hKa
 cases b1 with
 | false=>
  refine Cond_not rfl ?_
  exact ma _ _ _ (by (repeat (exact Le.refl _))) hS12 ⟨fun h=>(by cases h),fun h=>hb1.2 h.1⟩
 | true=>
  refine Cond_is rfl ?_
  exact ma _ _ _ (by (repeat (exact Le.refl _))) hS12 ⟨fun h=>⟨hb1.1 rfl,hb2.1 h⟩,fun h=>hb2.2 h.2⟩)
end
section
open Go Q Go.RowKit
def nmM (i:InsM) (k:Int):Int:=if k = 0 then nm0 i else if k = 1 then nm1 i else nm2 i
def n0T (n:Int):Int:=if n = 3 \/ n = 5 \/ n = 7 \/ n = 8 \/ n = 9 \/ n = 12 \/ n = 21 \/ n = 15 \/ n = 27 \/ n = 42 \/ n = 44 \/ n = 20 then 1 else if n = 36 then 2 else if n = 17 \/ n = 18 then 3 else 0
theorem formT {n:Int}:clsM (if n = 12 \/ n = 21 then 2 else (formAt n).k0) = n0T n/\((if n = 12 \/ n = 21 then 2 else (formAt n).k0) = 8->n = 20)/\((if n = 12 \/ n = 21 then 2 else (formAt n).k0) = 12->n = 18) /\
  clsM (formAt n).k1 = (if n = 1 \/ n = 31 then 1 else 0)/\(formAt n).k1 ≠ 8/\(formAt n).k1 ≠ 12/\clsM (formAt n).k2 = 0:=by
 by_cases ho:opOk n = true
 ·have h:∀ k:Fin 47,clsM (if ((k.val:Nat):Int) = 12 \/ ((k.val:Nat):Int) = 21 then 2 else (formL.getD k.val noForm).k0) = n0T (k.val:Nat)/\((if ((k.val:Nat):Int) = 12 \/ ((k.val:Nat):Int) = 21 then 2 else (formL.getD k.val noForm).k0) = 8->((k.val:Nat):Int) = 20)/\((if ((k.val:Nat):Int) = 12 \/ ((k.val:Nat):Int) = 21 then 2 else (formL.getD k.val noForm).k0) = 12->((k.val:Nat):Int) = 18) /\
    clsM (formL.getD k.val noForm).k1 = (if ((k.val:Nat):Int) = 1 \/ ((k.val:Nat):Int) = 31 then 1 else 0)/\(formL.getD k.val noForm).k1 ≠ 8/\(formL.getD k.val noForm).k1 ≠ 12/\clsM (formL.getD k.val noForm).k2 = 0:=by decide +kernel
  have hf:formAt n = formL.getD n.toNat noForm:=by unfold formAt; rw [if_pos ho]
  have hk:1 <= n/\n <= 46:=by
   unfold opOk at ho
   simpa using ho
  have:=h ⟨n.toNat,by omega⟩
  simp only at this
  rw [show ((n.toNat:Nat):Int) = n by omega] at this
  rw [hf]
  exact this
 ·have hf:formAt n = noForm:=by unfold formAt; rw [if_neg ho]
  have hn:¬ (1 <= n/\n <= 46):=by
   unfold opOk at ho
   simpa using ho
  have e0:n0T n = 0:=by unfold n0T; rw [if_neg (by omega),if_neg (by omega),if_neg (by omega)]
  rw [hf,if_neg (by omega),e0,if_neg (by omega)]
  exact ⟨by decide +kernel,fun h=>absurd h (by decide +kernel),fun h=>absurd h (by decide +kernel),by decide +kernel,by decide +kernel,by decide +kernel,by decide +kernel⟩
theorem cls_rng {c:CodeM} {k n:Int} (h:goodM c k n = true) :
  (clsM k = 1->(k = 8/\n = -1) \/ (0 <= n/\n < c.consts.length))/\(clsM k = 2->0 <= n/\n < c.tmpls.length)/\(clsM k = 3->(k = 12/\n = -1) \/ (0 <= n/\n < c.lists.length)):=by
 have hnm:∀ p,namedM c n p = true->0 <= n/\n < c.consts.length:=fun p hp=>named_rng hp
 have hin:∀ m:Nat,inB n 0 ((m:Int) - 1) = true->0 <= n/\n < m:=fun m hm=>by have:=inB_iff.1 hm; omega
 refine ⟨fun hc=>?_,fun hc=>?_,fun hc=>?_⟩
 ·have hk:k = 2 \/ k = 3 \/ k = 4 \/ k = 5 \/ k = 6 \/ k = 7 \/ k = 8:=by
   unfold clsM at hc
   split at hc
   ·assumption
   ·split at hc
    ·cases hc
    ·split at hc <;> cases hc
  rcases hk with rfl | rfl | rfl | rfl | rfl | rfl | rfl
  ·exact .inr (hnm (fun _=>true) h)
  ·exact .inr (hnm _ h)
  ·exact .inr (hnm _ h)
  ·exact .inr (hnm _ h)
  ·exact .inr (hnm _ h)
  ·have h:(namedM c n (kindIs 2) || namedM c n (kindIs 4)) = true:=h
   rw [Bool.or_eq_true] at h
   rcases h with h | h <;> exact .inr (hnm _ h)
  ·have h:(decide (n = -1) || namedM c n fun _=>true) = true:=h
   rw [Bool.or_eq_true,decide_eq_true_eq] at h
   rcases h with h | h
   ·exact .inl ⟨rfl,h⟩
   ·exact .inr (hnm _ h)
 ·have hk:k = 10:=by
   unfold clsM at hc
   split at hc
   ·cases hc
   ·split at hc
    ·assumption
    ·split at hc <;> cases hc
  subst hk
  exact hin _ h
 ·have hk:k = 11 \/ k = 12:=by
   unfold clsM at hc
   split at hc
   ·cases hc
   ·split at hc
    ·cases hc
    ·split at hc
     ·assumption
     ·cases hc
  rcases hk with rfl | rfl
  ·exact .inr (hin _ h)
  ·have h:(decide (n = -1) || inB n 0 ((c.lists.length:Int) - 1)) = true:=h
   rw [Bool.or_eq_true,decide_eq_true_eq] at h
   rcases h with h | h
   ·exact .inl ⟨rfl,h⟩
   ·exact .inr (hin _ h)
theorem cls_or (k:Int):clsM k = 0 \/ clsM k = 1 \/ clsM k = 2 \/ clsM k = 3:=by unfold clsM; (repeat' split) <;> simp
theorem nm_eq {c:CodeM} {i:InsM} (h:rightM c i = true) {k:Nat} (hk:k < 3):(fldM i k = -1/\nmM i k = 0) \/ nmM i k = clsM (kindM i k)/\(clsM (kindM i k) ≠ 0->0 <= fldM i k):=by
 obtain ⟨g0,g1,g2⟩:=kind_good h
 obtain ⟨t1,t2,t3,t4,t5,t6,t7⟩:=@formT i.op
 have f12:(formAt 12).k0 = 23:=by decide +kernel
 have f21:(formAt 21).k0 = 23:=by decide +kernel
 have f19:(formAt 19).k1 = 23:=by decide +kernel
 match k,hk with
 | 0,_=>
  show (i.a = -1/\nm0 i = 0) \/ nm0 i = clsM (kindM i 0)/\(clsM (kindM i 0) ≠ 0->0 <= i.a)
  have hk0:kindM i 0 = if i.op = 12 \/ i.op = 21 then 2 else (formAt i.op).k0:=by
   unfold kindM
   by_cases e:i.op = 12 \/ i.op = 21
   ·rw [if_pos (.inl ⟨e,rfl⟩),if_pos e]
   ·rw [if_neg (by simp [e]),if_neg (by simp),if_pos rfl,if_neg e]
  rw [<- hk0] at t1 t2 t3
  obtain ⟨r1,r2,r3⟩:=cls_rng g0
  by_cases ha:i.a = -1/\(i.op = 20 \/ i.op = 18)
  ·refine .inl ⟨ha.1,?_⟩
   unfold nm0
   rw [if_neg (by omega),if_neg (by omega),if_neg (by omega)]
  ·have hpos:clsM (kindM i 0) ≠ 0->0 <= i.a:=by
    intro hc
    rcases cls_or (kindM i 0) with e | e | e | e
    ·exact absurd e hc
    ·rcases r1 e with ⟨e8,ea⟩ | hr
     ·exact absurd ⟨ea,.inl (t2 e8)⟩ ha
     ·exact hr.1
    ·exact (r2 e).1
    ·rcases r3 e with ⟨e8,ea⟩ | hr
     ·exact absurd ⟨ea,.inr (t3 e8)⟩ ha
     ·exact hr.1
   refine .inr ⟨?_,hpos⟩
   rw [t1] at hpos ⊢
   unfold n0T at hpos ⊢
   unfold nm0
   (repeat' split) <;> (repeat' split at hpos) <;> omega
 | 1,_=>
  show (i.b = -1/\nm1 i = 0) \/ nm1 i = clsM (kindM i 1)/\(clsM (kindM i 1) ≠ 0->0 <= i.b)
  obtain ⟨r1,r2,r3⟩:=cls_rng g1
  by_cases e:i.op = 19/\i.a = 1
  ·have k1:kindM i 1 = 2:=by unfold kindM; rw [if_pos (.inr ⟨e.1,rfl,e.2⟩)]
   rw [k1] at r1 ⊢
   refine .inr ⟨by unfold nm1; rw [if_pos (by omega)]; rfl,fun _=>?_⟩
   rcases r1 rfl with h | h
   ·exact absurd h.1 (by decide)
   ·exact h.1
  ·have k1:kindM i 1 = (formAt i.op).k1:=by
    unfold kindM; rw [if_neg (by omega),if_neg (by simp),if_neg (by decide),if_pos rfl]
   rw [<- k1] at t4 t5 t6
   refine .inr ⟨?_,fun hc=>?_⟩
   ·rw [t4]
    unfold nm1
    (repeat' split) <;> omega
   ·rcases cls_or (kindM i 1) with e | e | e | e
    ·exact absurd e hc
    ·rcases r1 e with ⟨e8,ea⟩ | hr
     ·exact absurd e8 t5
     ·exact hr.1
    ·exact (r2 e).1
    ·rcases r3 e with ⟨e8,ea⟩ | hr
     ·exact absurd e8 t6
     ·exact hr.1
 | 2,_=>
  show (i.c = -1/\nm2 i = 0) \/ nm2 i = clsM (kindM i 2)/\(clsM (kindM i 2) ≠ 0->0 <= i.c)
  obtain ⟨r1,r2,r3⟩:=cls_rng g2
  by_cases e:i.op = 22
  ·have k2:kindM i 2 = 8:=by unfold kindM; rw [if_neg (by simp),if_pos ⟨e,rfl⟩]
   rw [k2] at r1 ⊢
   by_cases ec:i.c = -1
   ·exact .inl ⟨ec,by unfold nm2; rw [if_neg (by omega)]⟩
   ·have hc:0 <= i.c:=by rcases r1 rfl with h | h <;> omega
    exact .inr ⟨by unfold nm2; rw [if_pos ⟨e,hc⟩]; rfl,fun _=>hc⟩
  ·have k2:kindM i 2 = (formAt i.op).k2:=by
    unfold kindM; rw [if_neg (by simp),if_neg (by simp [e]),if_neg (by decide),if_neg (by decide)]
   rw [k2,t7]
   exact .inr ⟨by unfold nm2; rw [if_neg (by omega)],fun h=>absurd rfl h⟩
def cntM (c:CodeM) (q:Int):Nat:=if q = 1 then c.consts.length else if q = 2 then c.tmpls.length else c.lists.length
theorem nm_or (i:InsM) (k:Int):nmM i k = 0 \/ nmM i k = 1 \/ nmM i k = 2 \/ nmM i k = 3:=by
 unfold nmM nm0 nm1 nm2; (repeat' split) <;> simp
theorem nm_in {c:CodeM} {i:InsM} (h:rightM c i = true) {k:Nat} (hk:k < 3) (hq:0 < nmM i k):0 <= fldM i k/\fldM i k < cntM c (nmM i k):=by
 have hg:goodM c (kindM i k) (fldM i k) = true:=by
  obtain ⟨g0,g1,g2⟩:=kind_good h
  match k,hk with
  | 0,_=>exact g0
  | 1,_=>exact g1
  | 2,_=>exact g2
 rcases nm_eq h hk with ⟨_,h0⟩ | ⟨h1,h2⟩
 ·omega
 ·obtain ⟨r1,r2,r3⟩:=cls_rng hg
  have hp:=h2 (by omega)
  refine ⟨hp,?_⟩
  rw [h1]
  rcases cls_or (kindM i k) with e | e | e | e
  ·omega
  ·rcases r1 e with hr | hr
   ·omega
   ·rw [e]; exact hr.2
  ·rw [e]; exact (r2 e).2
  ·rcases r3 e with hr | hr
   ·omega
   ·rw [e]; exact hr.2
def markF (f:Int->Int->Bool) (q n:Int):Int->Int->Bool:=fun q' n'=>f q' n' || (decide (q' = q) && decide (n' = n))
def mkF (f:Int->Int->Bool) (i:InsM) (k:Nat):Int->Int->Bool:=(List.range k).foldl (fun f (j:Nat)=>markF f (nmM i j) (fldM i j)) f
theorem mkF_succ {f:Int->Int->Bool} {i:InsM} {k:Nat}:mkF f i (k + 1) = markF (mkF f i k) (nmM i k) (fldM i k):=by
 unfold mkF; rw [List.range_succ,List.foldl_append]; rfl
def usF (c:CodeM) (k:Nat):Int->Int->Bool:=(List.range k).foldl (fun f j=>if rcAt c j = true then mkF f (insAt c j) 3 else f) (fun _ _=>false)
theorem usF_succ {c:CodeM} {k:Nat}:usF c (k + 1) = if rcAt c k = true then mkF (usF c k) (insAt c k) 3 else usF c k:=by
 unfold usF; rw [List.range_succ,List.foldl_append]; rfl
theorem mkF_iff {f:Int->Int->Bool} {i:InsM} {q n:Int}:∀ {k:Nat},mkF f i k q n = true ↔ f q n = true \/ ∃ j:Nat,j < k/\nmM i j = q/\fldM i j = n
 | 0=>by simp [mkF]
 | k + 1=>by
  rw [mkF_succ]
  unfold markF
  rw [Bool.or_eq_true,mkF_iff,Bool.and_eq_true,decide_eq_true_eq,decide_eq_true_eq]
  constructor
  ·rintro ((h | ⟨j,h1,h2,h3⟩) | ⟨h1,h2⟩)
   ·exact .inl h
   ·exact .inr ⟨j,by omega,h2,h3⟩
   ·exact .inr ⟨k,by omega,h1.symm,h2.symm⟩
  ·rintro (h | ⟨j,h1,h2,h3⟩)
   ·exact .inl (.inl h)
   ·rcases Nat.lt_or_eq_of_le (Nat.le_of_lt_succ h1) with h | h
    ·exact .inl (.inr ⟨j,h,h2,h3⟩)
    ·subst h; exact .inr ⟨h2.symm,h3.symm⟩
theorem usF_iff {c:CodeM} {q n:Int}:∀ {k:Nat},usF c k q n = true ↔ ∃ j,j < k/\rcAt c j = true/\∃ f:Nat,f < 3/\nmM (insAt c j) f = q/\fldM (insAt c j) f = n
 | 0=>by simp [usF]
 | k + 1=>by
  rw [usF_succ]
  have ih:=usF_iff (c:=c) (q:=q) (n:=n) (k:=k)
  by_cases hr:rcAt c k = true
  ·rw [if_pos hr,mkF_iff,ih]
   constructor
   ·rintro (⟨j,h1,h2⟩ | h)
    ·exact ⟨j,by omega,h2⟩
    ·exact ⟨k,by omega,hr,h⟩
   ·rintro ⟨j,h1,h2,h3⟩
    rcases Nat.lt_or_eq_of_le (Nat.le_of_lt_succ h1) with h | h
    ·exact .inl ⟨j,h,h2,h3⟩
    ·subst h; exact .inr h3
  ·rw [if_neg hr,ih]
   constructor
   ·rintro ⟨j,h1,h2⟩
    exact ⟨j,by omega,h2⟩
   ·rintro ⟨j,h1,h2,h3⟩
    rcases Nat.lt_or_eq_of_le (Nat.le_of_lt_succ h1) with h | h
    ·exact ⟨j,h,h2,h3⟩
    ·subst h; exact absurd h2 hr
theorem usF_mem {c:CodeM} (h:Ok c) {q n:Int} (hq:q = 1 \/ q = 2 \/ q = 3) (hn:0 <= n):usF c c.ins.length q n = memK (usG (usesM c) q) n:=by
 have h1:usF c c.ins.length q n = true ↔ memK (usG (usesM c) q) n = true:=by
  rw [memK_iff]
  unfold usesM
  rw [mem_uses hq,usF_iff]
  constructor
  ·rintro ⟨j,a1,a2,f,a3,a4,a5⟩
   refine ⟨j,a1,a2,f,a3,?_,a5.symm⟩
   rcases nm_eq (h.rat a1) a3 with ⟨e1,e2⟩ | ⟨e1,_⟩
   ·omega
   ·omega
  ·rintro ⟨j,a1,a2,f,a3,a4,a5⟩
   refine ⟨j,a1,a2,f,a3,?_,a5.symm⟩
   rcases nm_eq (h.rat a1) a3 with ⟨e1,e2⟩ | ⟨e1,_⟩
   ·omega
   ·omega
 cases h2:usF c c.ins.length q n <;> cases h3:memK (usG (usesM c) q) n <;> simp_all
end
section
open Go Q Go.RowKit
def vcRh (R:Value->World->Prop) (w:World) (t1 t2 t12 t14 t33 t92:Value):Prop:=
∃ (I6:List Value->World->Prop) (M6:List Value->World->Nat),I6 [(.int .i64 0)] w/\∀ g:Env,∀ t19,∀ w,I6 [t19] w->∀ m6,m6 = M6 [t19] w ->
 V (fa 28 t1 5) w fun t212 w=>
 V (ld 26 t212) w fun t213 w=>
 V (Builtin.len_ #[26] 3 #[t213]) w fun t214 w=>
 V (bi .lss 3 t19 t214) w fun t215 w=>
 CondW t215
 (∀ K0:List Value->World->Prop,(∀ w,(∀ g:Env,
 V (bi .add 3 t19 (.int .i64 1)) w fun t217 w=>
 I6 [t217] w/\M6 [t217] w < m6)->K0 [] w) ->
 V (ia 49 t33 t19) w fun t220 w=>
 V (ld 4 t220) w fun t221 w=>
 V (un .not t221) w fun t222 w=>
 CondW t222
 (K0 [] w)
 (V (fa 28 t1 5) w fun t223 w=>
 V (ld 26 t223) w fun t224 w=>
 V (ia 26 t224 t19) w fun t226 w=>
 V (ld 38 t226) w fun t227 w=>
 CV (.func (.func 79) #[] #[]) #[t227] w fun t228 w=>
 V (al 100) w fun t20 w=>
 U (st 100 t20 t228) w fun w=>
 V (fa 28 t1 5) w fun t229 w=>
 V (ld 26 t229) w fun t230 w=>
 V (ia 26 t230 t19) w fun t232 w=>
 V (ld 38 t232) w fun t233 w=>
 CV (.func (.func 80) #[] #[]) #[t233] w fun t234 w=>
 V (al 100) w fun t21 w=>
 U (st 100 t21 t234) w fun w=>
 ∃ (I7:List Value->World->Prop) (M7:List Value->World->Nat),I7 [(.int .i64 0)] w/\∀ g:Env,∀ t22,∀ w,I7 [t22] w->∀ m7,m7 = M7 [t22] w ->
 V (bi .lss 3 t22 (.int .i64 3)) w fun t236 w=>
 CondW t236
 (∀ K1:List Value->World->Prop,(∀ w,(∀ g:Env,
 V (bi .add 3 t22 (.int .i64 1)) w fun t238 w=>
 I7 [t238] w/\M7 [t238] w < m7)->K1 [] w) ->
 V (ia 100 t20 t22) w fun t240 w=>
 V (ld 3 t240) w fun t241 w=>
 V (bi .gtr 3 t241 (.int .i64 0)) w fun t242 w=>
 CondW t242
 (Dr w fun w=>
 PV (ia 100 t20 t22) fun t245=>
 HV (ld 3 t245) w fun t246=>
 PV (ia 149 t12 t246) fun t247=>
 HV (ld 45 t247) w fun t248=>
 PV (ia 100 t21 t22) fun t250=>
 HV (ld 3 t250) w fun t251=>
 PV (ia 45 t248 t251) fun t252=>
 HV (ld 3 t252) w fun t253=>
 PV (ia 100 t21 t22) fun t254=>
 U (st 3 t254 t253) w fun w=>
 K1 [] w)
 (K1 [] w))
 (V (fa 28 t1 5) w fun t255 w=>
 V (ld 26 t255) w fun t256 w=>
 V (ia 26 t256 t19) w fun t258 w=>
 V (fa 38 t258 0) w fun t259 w=>
 V (ld 3 t259) w fun t260 w=>
 ∀ K1:List Value->World->Prop,(∀ w,(∀ g:Env,
 V (fa 28 t14 5) w fun t277 w=>
 V (ld 26 t277) w fun t278 w=>
 V (ia 100 t21 (.int .i64 0)) w fun t280 w=>
 V (ld 3 t280) w fun t281 w=>
 V (ia 100 t21 (.int .i64 1)) w fun t282 w=>
 V (ld 3 t282) w fun t283 w=>
 V (ia 100 t21 (.int .i64 2)) w fun t284 w=>
 V (ld 3 t284) w fun t285 w=>
 V (bd 38 #[(0,t260),(1,t281),(2,t283),(3,t285)]) w fun t286 w=>
 V (bs 26 1 #[(0,t286)]) w fun t287 w=>
 V (Builtin.append_ #[26,26] 26 #[t278,t287]) w fun t288 w=>
 V (fa 28 t14 5) w fun t289 w=>
 U (st 26 t289 t288) w fun w=>
 K0 [] w)->K1 [] w) ->
 V (eq .eql 3 (.tmp 261) (.const (.int .i64 23)) t260 (.int .i64 23)) w fun t262 w=>
 ∀ K2:List Value->World->Prop,(∀ t266,∀ w,(∀ g:Env,
 ∀ K2:List Value->World->Prop,(∀ t270,∀ w,(∀ g:Env,
 CondW t270
 (V (ia 100 t21 (.int .i64 0)) w fun t272 w=>
 V (ld 3 t272) w fun t273 w=>
 V (ia 45 t92 t273) w fun t274 w=>
 V (ld 3 t274) w fun t275 w=>
 V (ia 100 t21 (.int .i64 0)) w fun t276 w=>
 U (st 3 t276 t275) w fun w=>
 K1 [] w)
 (K1 [] w))->K2 [t270] w) ->
 CondW t266
 (K2 [(.bool true)] w)
 (V (eq .eql 3 (.tmp 268) (.const (.int .i64 30)) t260 (.int .i64 30)) w fun t269 w=>
 K2 [t269] w))->K2 [t266] w) ->
 CondW t262
 (K2 [(.bool true)] w)
 (V (eq .eql 3 (.tmp 264) (.const (.int .i64 24)) t260 (.int .i64 24)) w fun t265 w=>
 K2 [t265] w))))
 (V (ld 28 t14) w fun t290 w=>
 V (bd 67 #[(0,t290),(1,t92)]) w fun t292 w=>
 U (st 67 t2 t292) w fun w=>
 CW 67 t2 w fun t1002=>R t1002 w)
def vcRg (R:Value->World->Prop) (w:World) (t1 t2 t12 t14 t33 t92:Value):Prop:=
(V (fa 28 t14 4) w fun t205 w=>
 V (ld 22 t205) w fun t206 w=>
 V (fa 28 t1 4) w fun t207 w=>
 V (ld 22 t207) w fun t208 w=>
 V (Builtin.append_ #[22,22] 22 #[t206,t208]) w fun t209 w=>
 V (fa 28 t14 4) w fun t210 w=>
 U (st 22 t210 t209) w fun w=>
 (vcRh R w t1 t2 t12 t14 t33 t92))
def vcRf (R:Value->World->Prop) (w:World) (t1 t2 t12 t14 t33 t92:Value):Prop:=
(∃ (I5:List Value->World->Prop) (M5:List Value->World->Nat),I5 [(.int .i64 0)] w/\∀ g:Env,∀ t18,∀ w,I5 [t18] w->∀ m5,m5 = M5 [t18] w ->
 V (fa 28 t1 3) w fun t178 w=>
 V (ld 25 t178) w fun t179 w=>
 V (Builtin.len_ #[25] 3 #[t179]) w fun t180 w=>
 V (bi .lss 3 t18 t180) w fun t181 w=>
 CondW t181
 (Dr w fun w=>
 PV (fa 28 t14 3) fun t184=>
 HV (ld 25 t184) w fun t185=>
 PV (fa 28 t1 3) fun t186=>
 HV (ld 25 t186) w fun t187=>
 PV (ia 25 t187 t18) fun t189=>
 PV (fa 54 t189 0) fun t190=>
 HV (ld 9 t190) w fun t191=>
 PV (fa 28 t1 3) fun t193=>
 HV (ld 25 t193) w fun t194=>
 PV (ia 25 t194 t18) fun t196=>
 PV (fa 54 t196 1) fun t197=>
 HV (ld 3 t197) w fun t198=>
 PV (ia 45 t92 t198) fun t199=>
 HV (ld 3 t199) w fun t200=>
 PV (bd 54 #[(0,t191),(1,t200)]) fun t201=>
 V (bs 25 1 #[(0,t201)]) w fun t202 w=>
 RunIs (ld 3 t199) w t200/\RunIs (ld 3 t197) w t198/\RunIs (ld 25 t193) w t194/\RunIs (ld 9 t190) w t191/\RunIs (ld 25 t186) w t187/\RunIs (ld 25 t184) w t185/\(V (Builtin.append_ #[25,25] 25 #[t185,t202]) w fun t203 w=>
 RunIs (ld 3 t199) w t200/\RunIs (ld 3 t197) w t198/\RunIs (ld 25 t193) w t194/\RunIs (ld 9 t190) w t191/\RunIs (ld 25 t186) w t187/\(PV (fa 28 t14 3) fun t204=>
 U (st 25 t204 t203) w fun w=>
 V (bi .add 3 t18 (.int .i64 1)) w fun t183 w=>
 I5 [t183] w/\M5 [t183] w < m5)))
 (vcRg R w t1 t2 t12 t14 t33 t92))
def vcRe (R:Value->World->Prop) (w:World) (t1 t2 t5 t12 t14 t33 t92:Value):Prop:=
(∃ (I4:List Value->World->Prop) (M4:List Value->World->Nat),I4 [(.int .i64 0)] w/\∀ g:Env,∀ t17,∀ w,I4 [t17] w->∀ m4,m4 = M4 [t17] w ->
 V (fa 28 t1 2) w fun t154 w=>
 V (ld 24 t154) w fun t155 w=>
 V (Builtin.len_ #[24] 3 #[t155]) w fun t156 w=>
 V (bi .lss 3 t17 t156) w fun t157 w=>
 CondW t157
 (∀ K0:List Value->World->Prop,(∀ w,(∀ g:Env,
 V (bi .add 3 t17 (.int .i64 1)) w fun t159 w=>
 I4 [t159] w/\M4 [t159] w < m4)->K0 [] w) ->
 V (ia 145 t5 (.int .i64 3)) w fun t160 w=>
 V (ld 49 t160) w fun t161 w=>
 V (ia 49 t161 t17) w fun t163 w=>
 V (ld 4 t163) w fun t164 w=>
 CondW t164
 (Dr w fun w=>
 PV (fa 28 t14 2) fun t165=>
 HV (ld 24 t165) w fun t166=>
 PV (fa 28 t1 2) fun t168=>
 HV (ld 24 t168) w fun t169=>
 PV (ia 24 t169 t17) fun t171=>
 HV (ld 96 t171) w fun t172=>
 V (bs 96 0 #[]) w fun t167 w=>
 RunIs (ld 96 t171) w t172/\RunIs (ld 24 t168) w t169/\RunIs (ld 24 t165) w t166/\(V (Builtin.append_ #[96,96] 96 #[t167,t172]) w fun t173 w=>
 RunIs (ld 24 t168) w t169/\RunIs (ld 24 t165) w t166/\(V (bs 24 1 #[(0,t173)]) w fun t174 w=>
 RunIs (ld 24 t168) w t169/\RunIs (ld 24 t165) w t166/\(V (Builtin.append_ #[24,24] 24 #[t166,t174]) w fun t175 w=>
 RunIs (ld 24 t168) w t169/\(PV (fa 28 t14 2) fun t176=>
 U (st 24 t176 t175) w fun w=>
 K0 [] w)))))
 (K0 [] w))
 (vcRf R w t1 t2 t12 t14 t33 t92))
def vcRd (R:Value->World->Prop) (w:World) (t1 t2 t5 t12 t14 t33 t92:Value):Prop:=
(∃ (I3:List Value->World->Prop) (M3:List Value->World->Nat),I3 [(.int .i64 0)] w/\∀ g:Env,∀ t16,∀ w,I3 [t16] w->∀ m3,m3 = M3 [t16] w ->
 V (fa 28 t1 1) w fun t130 w=>
 V (ld 23 t130) w fun t131 w=>
 V (Builtin.len_ #[23] 3 #[t131]) w fun t132 w=>
 V (bi .lss 3 t16 t132) w fun t133 w=>
 CondW t133
 (∀ K0:List Value->World->Prop,(∀ w,(∀ g:Env,
 V (bi .add 3 t16 (.int .i64 1)) w fun t135 w=>
 I3 [t135] w/\M3 [t135] w < m3)->K0 [] w) ->
 V (ia 145 t5 (.int .i64 2)) w fun t136 w=>
 V (ld 49 t136) w fun t137 w=>
 V (ia 49 t137 t16) w fun t139 w=>
 V (ld 4 t139) w fun t140 w=>
 CondW t140
 (Dr w fun w=>
 PV (fa 28 t14 1) fun t141=>
 HV (ld 23 t141) w fun t142=>
 PV (fa 28 t1 1) fun t144=>
 HV (ld 23 t144) w fun t145=>
 PV (ia 23 t145 t16) fun t147=>
 HV (ld 93 t147) w fun t148=>
 V (bs 93 0 #[]) w fun t143 w=>
 RunIs (ld 93 t147) w t148/\RunIs (ld 23 t144) w t145/\RunIs (ld 23 t141) w t142/\(V (Builtin.append_ #[93,93] 93 #[t143,t148]) w fun t149 w=>
 RunIs (ld 23 t144) w t145/\RunIs (ld 23 t141) w t142/\(V (bs 23 1 #[(0,t149)]) w fun t150 w=>
 RunIs (ld 23 t144) w t145/\RunIs (ld 23 t141) w t142/\(V (Builtin.append_ #[23,23] 23 #[t142,t150]) w fun t151 w=>
 RunIs (ld 23 t144) w t145/\(PV (fa 28 t14 1) fun t152=>
 U (st 23 t152 t151) w fun w=>
 K0 [] w)))))
 (K0 [] w))
 (vcRe R w t1 t2 t5 t12 t14 t33 t92))
def vcRc (R:Value->World->Prop) (w:World) (t1 t2 t5 t12 t33 t92:Value):Prop:=
(V (al 28) w fun t14 w=>
 ∃ (I2:List Value->World->Prop) (M2:List Value->World->Nat),I2 [(.int .i64 0)] w/\∀ g:Env,∀ t15,∀ w,I2 [t15] w->∀ m2,m2 = M2 [t15] w ->
 V (fa 28 t1 0) w fun t108 w=>
 V (ld 22 t108) w fun t109 w=>
 V (Builtin.len_ #[22] 3 #[t109]) w fun t110 w=>
 V (bi .lss 3 t15 t110) w fun t111 w=>
 CondW t111
 (∀ K0:List Value->World->Prop,(∀ w,(∀ g:Env,
 V (bi .add 3 t15 (.int .i64 1)) w fun t113 w=>
 I2 [t113] w/\M2 [t113] w < m2)->K0 [] w) ->
 V (ia 145 t5 (.int .i64 1)) w fun t114 w=>
 V (ld 49 t114) w fun t115 w=>
 V (ia 49 t115 t15) w fun t117 w=>
 V (ld 4 t117) w fun t118 w=>
 CondW t118
 (Dr w fun w=>
 PV (fa 28 t14 0) fun t119=>
 HV (ld 22 t119) w fun t120=>
 PV (fa 28 t1 0) fun t121=>
 HV (ld 22 t121) w fun t122=>
 PV (ia 22 t122 t15) fun t124=>
 HV (ld 9 t124) w fun t125=>
 V (bs 22 1 #[(0,t125)]) w fun t126 w=>
 RunIs (ld 22 t121) w t122/\RunIs (ld 22 t119) w t120/\(V (Builtin.append_ #[22,22] 22 #[t120,t126]) w fun t127 w=>
 RunIs (ld 22 t121) w t122/\(PV (fa 28 t14 0) fun t128=>
 U (st 22 t128 t127) w fun w=>
 K0 [] w)))
 (K0 [] w))
 (vcRd R w t1 t2 t5 t12 t14 t33 t92))
def vcRb (R:Value->World->Prop) (w:World) (t1 t2 t5 t33:Value):Prop:=
(CV (.func (.func 81) #[] #[]) #[t33] w fun t91 w=>
 V (ex t91 0) w fun t92 w=>
 V (ex t91 1) w fun t93 w=>
 V (al 149) w fun t12 w=>
 ∃ (I1:List Value->World->Prop) (M1:List Value->World->Nat),I1 [(.int .i64 1)] w/\∀ g:Env,∀ t13,∀ w,I1 [t13] w->∀ m1,m1 = M1 [t13] w ->
 V (bi .lss 3 t13 (.int .i64 4)) w fun t95 w=>
 CondW t95
 (V (ia 145 t5 t13) w fun t101 w=>
 V (ld 49 t101) w fun t102 w=>
 CV (.func (.func 81) #[] #[]) #[t102] w fun t103 w=>
 V (ex t103 0) w fun t104 w=>
 V (ex t103 1) w fun t105 w=>
 V (ia 149 t12 t13) w fun t106 w=>
 U (st 45 t106 t104) w fun w=>
 V (bi .add 3 t13 (.int .i64 1)) w fun t97 w=>
 I1 [t97] w/\M1 [t97] w < m1)
 (vcRc R w t1 t2 t5 t12 t33 t92))
def vcRa (R:Value->World->Prop) (w:World) (t1 t2 t5 t33:Value):Prop:=
∃ (I0:List Value->World->Prop) (M0:List Value->World->Nat),I0 [(.int .i64 0)] w/\∀ g:Env,∀ t6,∀ w,I0 [t6] w->∀ m0,m0 = M0 [t6] w ->
 V (fa 28 t1 5) w fun t48 w=>
 V (ld 26 t48) w fun t49 w=>
 V (Builtin.len_ #[26] 3 #[t49]) w fun t50 w=>
 V (bi .lss 3 t6 t50) w fun t51 w=>
 CondW t51
 (V (fa 28 t1 5) w fun t54 w=>
 V (ld 26 t54) w fun t55 w=>
 V (ia 26 t55 t6) w fun t57 w=>
 V (ld 38 t57) w fun t58 w=>
 CV (.func (.func 79) #[] #[]) #[t58] w fun t59 w=>
 V (al 100) w fun t7 w=>
 U (st 100 t7 t59) w fun w=>
 V (fa 28 t1 5) w fun t60 w=>
 V (ld 26 t60) w fun t61 w=>
 V (ia 26 t61 t6) w fun t63 w=>
 V (ld 38 t63) w fun t64 w=>
 CV (.func (.func 80) #[] #[]) #[t64] w fun t65 w=>
 V (al 100) w fun t8 w=>
 U (st 100 t8 t65) w fun w=>
 ∃ (I1:List Value->World->Prop) (M1:List Value->World->Nat),I1 [(.int .i64 0)] w/\∀ g:Env,∀ t9,∀ w,I1 [t9] w->∀ m1,m1 = M1 [t9] w ->
 V (bi .lss 3 t9 (.int .i64 3)) w fun t67 w=>
 ∀ K0:List Value->World->Prop,(∀ t73,∀ w,(∀ g:Env,
 CondW t73
 (∀ K0:List Value->World->Prop,(∀ w,(∀ g:Env,
 V (bi .add 3 t9 (.int .i64 1)) w fun t75 w=>
 I1 [t75] w/\M1 [t75] w < m1)->K0 [] w) ->
 V (ia 100 t7 t9) w fun t77 w=>
 V (ld 3 t77) w fun t78 w=>
 V (bi .gtr 3 t78 (.int .i64 0)) w fun t79 w=>
 CondW t79
 (Dr w fun w=>
 PV (ia 100 t7 t9) fun t81=>
 HV (ld 3 t81) w fun t82=>
 PV (ia 145 t5 t82) fun t83=>
 HV (ld 49 t83) w fun t84=>
 PV (ia 100 t8 t9) fun t86=>
 HV (ld 3 t86) w fun t87=>
 PV (ia 49 t84 t87) fun t88=>
 U (st 4 t88 (.bool true)) w fun w=>
 K0 [] w)
 (K0 [] w))
 (V (bi .add 3 t6 (.int .i64 1)) w fun t53 w=>
 I0 [t53] w/\M0 [t53] w < m0))->K0 [t73] w) ->
 CondW t67
 (V (ia 49 t33 t6) w fun t71 w=>
 V (ld 4 t71) w fun t72 w=>
 K0 [t72] w)
 (K0 [(.bool false)] w))
 (vcRb R w t1 t2 t5 t33)
end
section
open Go Q Go.RowKit
def usL (c:CodeM) (q:Int):List Bool:=(List.range (cntM c q)).map fun n:Nat=>usF c c.ins.length q n
theorem usL_len {c:CodeM} {q:Int}:(usL c q).length = cntM c q:=by simp [usL]
theorem usL_get {c:CodeM} {q:Int} {n:Nat} (h:n < cntM c q):(usL c q).getD n false = usF c c.ins.length q n:=by
 unfold usL
 rw [List.getD_eq_getElem?_getD,List.getElem?_map,List.getElem?_range h]; rfl
theorem posL_len {l:List Bool}:(posL l).length = l.length:=by simp [posL]
theorem posL_get {l:List Bool} {n:Nat} (h:n < l.length):(posL l).getD n 0 = posAt l n:=by
 unfold posL
 rw [List.getD_eq_getElem?_getD,List.getElem?_map,List.getElem?_range h]; rfl
theorem pos_ref {c:CodeM} (h:Ok c) {q n:Int} (hq:q = 1 \/ q = 2 \/ q = 3) (h0:0 <= n) (h1:n < cntM c q) (hm:usF c c.ins.length q n = true):(posL (usL c q)).getD n.toNat 0 = posM (usG (usesM c) q) (cntM c q) n:=by
 have hn:n.toNat < cntM c q:=by omega
 have hnn:((n.toNat:Nat):Int) = n:=by omega
 rw [posL_get (by rw [usL_len]; exact hn)]
 unfold posAt posM
 rw [usL_get hn,hnn,if_pos hm,if_neg (by omega),if_pos ⟨h0,h1,by rw [<- usF_mem h hq h0]; exact hm⟩]
 congr 1
 unfold fK keptI
 congr 1
 apply List.filter_congr
 intro x hx
 have hx:=List.mem_range.1 hx
 rw [usL_get (by omega),usF_mem h hq (by omega)]
def newF (c:CodeM) (i:InsM) (k:Int):Int:=if 0 < nmM i k then (posL (usL c (nmM i k))).getD (fldM i k).toNat 0 else fldM i k
theorem newF_eq {c:CodeM} (h:Ok c) {j f:Nat} (hj:j < c.ins.length) (hr:rcAt c j = true) (hf:f < 3) (hk:kindM (insAt c j) f ≠ 13):newF c (insAt c j) f = renewM c (kindM (insAt c j) f) (fldM (insAt c j) f):=by
 unfold newF
 have hus:∀ q,nmM (insAt c j) f = q->usF c c.ins.length q (fldM (insAt c j) f) = true:=fun q e=>usF_iff.2 ⟨j,hj,hr,f,hf,e,rfl⟩
 have hin:=nm_in (h.rat hj) hf
 have hnm:=nm_eq (h.rat hj) hf
 generalize kindM (insAt c j) f = kd at *
 generalize fldM (insAt c j) f = n at *
 generalize nmM (insAt c j) f = q at *
 rcases hnm with ⟨e1,e2⟩ | ⟨e1,e2⟩
 ·rw [if_neg (by omega),e1]
  unfold renewM
  rw [if_neg hk]
  (repeat' split) <;> first | rfl | exact posM_neg.symm
 ·rcases cls_or kd with e | e | e | e
  ·rw [if_neg (by omega)]
   unfold renewM
   rw [if_neg hk]
   have h10:kd ≠ 10:=fun x=>by subst x; exact absurd e (by decide)
   have h11:¬ (kd = 11 \/ kd = 12):=fun x=>by rcases x with x | x <;> (subst x; exact absurd e (by decide))
   rw [if_neg h10,if_neg h11,if_neg (by omega)]
  ·have eq1:q = 1:=by omega
   rw [if_pos (by omega),pos_ref h (.inl eq1) (e2 (by omega)) (hin (by omega)).2 (hus _ rfl),eq1,renew_cls1 e]; rfl
  ·have eq2:q = 2:=by omega
   rw [if_pos (by omega),pos_ref h (.inr (.inl eq2)) (e2 (by omega)) (hin (by omega)).2 (hus _ rfl),eq2]
   have hk10:kd = 10:=by
    unfold clsM at e
    split at e
    ·cases e
    ·split at e
     ·assumption
     ·split at e <;> cases e
   unfold renewM
   rw [if_neg hk,if_pos hk10]; rfl
  ·have eq3:q = 3:=by omega
   rw [if_pos (by omega),pos_ref h (.inr (.inr eq3)) (e2 (by omega)) (hin (by omega)).2 (hus _ rfl),eq3]
   have hk11:kd = 11 \/ kd = 12:=by
    unfold clsM at e
    split at e
    ·cases e
    ·split at e
     ·cases e
     ·split at e
      ·assumption
      ·cases e
   unfold renewM
   rw [if_neg hk,if_neg (by omega),if_pos hk11]; rfl
def newF0 (c:CodeM) (i:InsM):Int:=if i.op = 23 \/ i.op = 24 \/ i.op = 30 then (atM c).getD i.a.toNat 0 else newF c i 0
theorem newIns_ref {c:CodeM} (h:Ok c) {j:Nat} (hj:j < c.ins.length) (hr:rcAt c j = true):newIns c (insAt c j) = ⟨(insAt c j).op,newF0 c (insAt c j),newF c (insAt c j) 1,newF c (insAt c j) 2⟩:=by
 rw [newIns_eq]
 have h1:kindM (insAt c j) (1:Nat) ≠ 13:=fun e=>by have:=(jump_of (k:=1) (by omega) e).1; omega
 have h2:kindM (insAt c j) (2:Nat) ≠ 13:=fun e=>by have:=(jump_of (k:=2) (by omega) e).1; omega
 have e1:=newF_eq h hj hr (f:=1) (by omega) h1
 have e2:=newF_eq h hj hr (f:=2) (by omega) h2
 have e0:newF0 c (insAt c j) = renewM c (kindM (insAt c j) 0) (insAt c j).a:=by
  unfold newF0
  by_cases e:(insAt c j).op = 23 \/ (insAt c j).op = 24 \/ (insAt c j).op = 30
  ·rw [if_pos e,kind0_jump (by unfold jumpOp; simpa using e)]; rfl
  ·rw [if_neg e]
   have hk:kindM (insAt c j) (0:Nat) ≠ 13:=fun x=>by
    have:=(jump_of (k:=0) (by omega) x).2
    unfold jumpOp at this
    exact e (by simpa using this)
   exact newF_eq h hj hr (f:=0) (by omega) hk
 rw [e0]
 show (⟨_,_,_,_⟩:InsM) = ⟨_,_,newF c (insAt c j) ((1:Nat):Int),newF c (insAt c j) ((2:Nat):Int)⟩
 rw [e1,e2]; rfl
def RefTrimR (z:Z) (r:Value) (c:CodeM):Prop:=∃ a1 a2 a3 a4 a5 a6 k1 k2 k3 k4 k5 k6 av,r = .agg (codeVs a1 a2 a3 a4 a5 a6 k1 k2 k3 k4 k5 k6 (trimM c) ++ [av,.int .i64 (checkM c).1]).toArray /\
 CodeR z (.agg (codeVs a1 a2 a3 a4 a5 a6 k1 k2 k3 k4 k5 k6 (trimM c)).toArray) (trimM c)/\SlR El.int z av (trimAt c)
structure RefZ (z:Z) (c:CodeM) (bc bt:Nat) (rv av:Value):Prop where
 h:∃ a1 a2 a3 a4 a5 a6 k1 k2 k3 k4 k5 k6 v1 v2 v3,At z bc 0 (codeVs a1 a2 a3 a4 a5 a6 k1 k2 k3 k4 k5 k6 c)/\CodeR z (.agg (codeVs a1 a2 a3 a4 a5 a6 k1 k2 k3 k4 k5 k6 c).toArray) c /\
  At z bt 0 [nilS,v1,v2,v3]/\SlR El.int z v1 (posL (usL c 1))/\SlR El.int z v2 (posL (usL c 2))/\SlR El.int z v3 (posL (usL c 3))/\SlR El.bool z rv (reachM c)/\SlR El.int z av (atM c)
theorem RefZ.mono {z z':Z} {c:CodeM} {bc bt:Nat} {rv av:Value} (h:RefZ z c bc bt rv av) (hz:Le z z'):RefZ z' c bc bt rv av:=by
 obtain ⟨a1,a2,a3,a4,a5,a6,k1,k2,k3,k4,k5,k6,v1,v2,v3,h1,h2,h3,h4,h5,h6,h7,h8⟩:=h.h
 exact ⟨a1,a2,a3,a4,a5,a6,k1,k2,k3,k4,k5,k6,v1,v2,v3,h1.mono hz,h2.mono hz,h3.mono hz,h4.mono hz,h5.mono hz,h6.mono hz,h7.mono hz,h8.mono hz⟩
def opsV (c:CodeM) (i:InsM) (j:Int):List Value:=[.int .i64 (if 0 < j then newF c i 0 else i.a),.int .i64 (if 1 < j then newF c i 1 else i.b),.int .i64 (if 2 < j then newF c i 2 else i.c)]
theorem opsV0 {c:CodeM} {i:InsM}:opsV c i 0 = [.int .i64 i.a,.int .i64 i.b,.int .i64 i.c]:=by simp [opsV]
theorem opsV1 {c:CodeM} {i:InsM}:opsV c i 1 = [.int .i64 (newF c i 0),.int .i64 i.b,.int .i64 i.c]:=by simp [opsV]
theorem opsV2 {c:CodeM} {i:InsM}:opsV c i 2 = [.int .i64 (newF c i 0),.int .i64 (newF c i 1),.int .i64 i.c]:=by simp [opsV]
theorem opsV3 {c:CodeM} {i:InsM}:opsV c i 3 = [.int .i64 (newF c i 0),.int .i64 (newF c i 1),.int .i64 (newF c i 2)]:=by simp [opsV]
def newsK (c:CodeM) (k:Nat):List InsM:=(rK c k).map fun j=>newIns c (insAt c j)
theorem newsK_len {c:CodeM} {k:Nat}:(newsK c k).length <= k:=by unfold newsK; rw [List.length_map]; exact rK_len
theorem refTh {R:Value->World->Prop} {z:Z} {w:World} {c:CodeM} {bc b2 b14 bt:Nat} {rv av v0 v1 v2 v3 v4:Value} (hz:RefZ z c bc bt rv av) (hck:(checkM c).1 = 0)
  (hS:Res w z [(b14,.cells [v0,v1,v2,v3,v4,nilS].toArray 28 (0,0)),(b2,.cells [nilS,nilS,nilS,nilS,nilS,nilS,nilS,.int .i64 0].toArray 67 (0,0))] w z [(b14,.cells [v0,v1,v2,v3,v4,nilS].toArray 28 (0,0)),(b2,.cells [nilS,nilS,nilS,nilS,nilS,nilS,nilS,.int .i64 0].toArray 67 (0,0))])
  (hR:∀ z' w' L' r,Res w z [(b14,.cells [v0,v1,v2,v3,v4,nilS].toArray 28 (0,0)),(b2,.cells [nilS,nilS,nilS,nilS,nilS,nilS,nilS,.int .i64 0].toArray 67 (0,0))] w' z' L'->RefTrimR z' r c->R r w')
  (g0:SlR El.str z v0 (trimOk c).consts) (g1:SlR (El.sl El.part) z v1 (trimOk c).tmpls) (g2:SlR (El.sl El.item) z v2 (trimOk c).lists) (g3:SlR El.spot z v3 (trimOk c).labels) (g4:SlR El.str z v4 (trimOk c).slots) :
  vcRh R w (.pointer (some ⟨bc,0,none⟩)) (.pointer (some ⟨b2,0,none⟩)) (.pointer (some ⟨bt,0,none⟩)) (.pointer (some ⟨b14,0,none⟩)) rv av:=by
 have hok:=ok_of hck
 have hbd:=limits_bd hok.lim
 unfold vcRh
 obtain ⟨a1,a2,a3,a4,a5,a6,k1,k2,k3,k4,k5,k6,q1,q2,q3,hatc,hcr,hatt,hq1,hq2,hq3,hrv,hav⟩:=hz.h
 obtain ⟨a1',a2',a3',a4',a5',a6',k1',k2',k3',k4',k5',k6',he,h1,h2,h3,h4,h5,h6⟩:=hcr.form
 simp only [codeVs,Value.agg.injEq,List.toArray_inj,List.cons.injEq,Value.slice.injEq,and_true,true_and] at he
 obtain ⟨⟨rfl,rfl⟩,⟨rfl,rfl⟩,⟨rfl,rfl⟩,⟨rfl,rfl⟩,⟨rfl,rfl⟩,⟨rfl,rfl⟩⟩:=he
 obtain ⟨_,f1,e1,rfl,_,_⟩:=hq1.form
 obtain ⟨_,f2,e2,rfl,_,_⟩:=hq2.form
 obtain ⟨_,f3,e3,rfl,_,_⟩:=hq3.form
 obtain ⟨_,fr,er,rfl,_,_⟩:=hrv.form
 obtain ⟨_,fa_,ea,rfl,_,_⟩:=hav.form
 haveI:Fz z bc 5 [.slice a6 c.ins.length k6]:=⟨hatc.fld (i:=5) rfl rfl⟩
 haveI:Fz z bt 1 [.slice f1 (posL (usL c 1)).length e1]:=⟨hatt.fld (i:=1) rfl rfl⟩
 haveI:Fz z bt 2 [.slice f2 (posL (usL c 2)).length e2]:=⟨hatt.fld (i:=2) rfl rfl⟩
 haveI:Fz z bt 3 [.slice f3 (posL (usL c 3)).length e3]:=⟨hatt.fld (i:=3) rfl rfl⟩
 generalize hLL:[(b14,Obj.cells [v0,v1,v2,v3,v4,nilS].toArray 28 (0,0)),(b2,.cells [nilS,nilS,nilS,nilS,nilS,nilS,nilS,.int .i64 0].toArray 67 (0,0))] = LL at hR
 have hS0:Res w z LL w z [(b14,Obj.cells [v0,v1,v2,v3,v4,nilS].toArray 28 (0,0)),(b2,.cells [nilS,nilS,nilS,nilS,nilS,nilS,nilS,.int .i64 0].toArray 67 (0,0))]:=by rw [<- hLL]; exact hS
 clear hS hLL
 have hrl:=(reach_spec hok.nb).1
 have hatl:(atM c).length = c.ins.length:=by unfold atM; simp
 refine LoopG1 (fun (k:Nat) x w'=>x = .int .i64 k/\k <= c.ins.length/\∃ v B z',Le z z'/\OwnSl 38 4 B v (newsK c k).length ((newsK c k).flatMap InsM.cells)/\Res w z LL w' z' ((b14,.cells [v0,v1,v2,v3,v4,v].toArray 28 (0,0)) :: (b2,.cells [nilS,nilS,nilS,nilS,nilS,nilS,nilS,.int .i64 0].toArray 67 (0,0)) :: B)) (fun k=>c.ins.length - k) 0 ⟨rfl,Nat.zero_le _,nilS,[],z,Le.refl _,OwnSl.nil,hS0⟩ ?_
 rintro I M k x w3 m ⟨rfl,hk,v,B,z3,hz3,ho,hS3⟩ back
 clear hS0
 obtain ⟨av6,cv6,rfl,_⟩:=ho.form
 (repeat (first | refine V_run ?_ | refine fV_ld1 ?_))
 refine Cond_d (fun h=>?_) (fun h=>?_)
 ·have hlt:k < c.ins.length:=by omega
  haveI:InR (k:Int) (c.ins.length:Nat):=⟨by omega,by omega⟩
  haveI:InR (k:Int) ((reachM c).length:Nat):=⟨by omega,by omega⟩
  haveI:InI ((k:Int) + 1):=⟨by omega⟩
  have hnl:=@newsK_len c k
  obtain ⟨b6,o6,x6,A6⟩:=ins_at h6 (k:=k) hlt
  cases x6
  obtain ⟨b7,o7,x7,A7⟩:=bool_at' hrv (k:=k) (by omega)
  cases x7
  haveI:Fz z b7 (o7 + (k:Int).toNat * 1) [.bool (rcAt c k)]:=⟨A7⟩
  have A6':At z b6 (o6 + (k:Int).toNat * 4) (insAt c k).cells:=A6
  haveI:Fz z b6 (o6 + (k:Int).toNat * 4) (insAt c k).cells:=⟨A6⟩
  have hnI:=newIns_ref hok hlt
  have hin0:0 < nm0 (insAt c k)->0 <= (insAt c k).a/\(insAt c k).a < cntM c (nm0 (insAt c k)):=nm_in (hok.rat hlt) (k:=0) (by omega)
  have hin1:0 < nm1 (insAt c k)->0 <= (insAt c k).b/\(insAt c k).b < cntM c (nm1 (insAt c k)):=nm_in (hok.rat hlt) (k:=1) (by omega)
  have hin2:0 < nm2 (insAt c k)->0 <= (insAt c k).c/\(insAt c k).c < cntM c (nm2 (insAt c k)):=nm_in (hok.rat hlt) (k:=2) (by omega)
  have hplc:=fun hj=>(place_good (hok.rat hlt) hj).2
  have hsuc:newsK c (k + 1) = newsK c k ++ (if rcAt c k = true then [newIns c (insAt c k)] else []):=by
   unfold newsK; rw [rK_succ,List.map_append]; split <;> rfl
  generalize insAt c k = i at *
  intro Ka hKa
  have ma:∀ w' z' B' v',Le z3 z'->OwnSl 38 4 B' v' (newsK c (k + 1)).length ((newsK c (k + 1)).flatMap InsM.cells)->Res w z LL w' z' ((b14,.cells [v0,v1,v2,v3,v4,v'].toArray 28 (0,0)) :: (b2,.cells [nilS,nilS,nilS,nilS,nilS,nilS,nilS,.int .i64 0].toArray 67 (0,0)) :: B')->Ka [] w':=by
   intro w' z' B' v' hz' ho' hS'
   refine hKa _ fun _=>?_
   refine V_run ?_
   exact back (k + 1) _ _ ⟨by simp,by omega,_,_,_,hz3.trans hz',ho',hS'⟩ (by omega)
  clear hKa back
  generalize hr:rcAt c k = X at *
  (repeat (first | refine V_run ?_ | refine fV_ld1 ?_))
  cases X with
  | false=>
   refine Cond_is rfl ?_
   simp only [Bool.false_eq_true,if_false,List.append_nil] at hsuc
   rw [hsuc] at ma
   exact ma _ _ _ _ (by (repeat (exact Le.refl _))) ho (by assumption)
  | true=>
   refine Cond_not rfl ?_
   (repeat (first | refine V_run ?_ | (refine CV_pu ?_; intro _ _ _ _) | refine fV_ldN ?_ | refine fV_ld1 ?_))
   refine iV_al ?_
   intro b20 w5 hb20 hS5
   refine iU_st ?_
   intro w6 hS6
   (repeat (first | refine V_run ?_ | (refine CV_pu ?_; intro _ _ _ _) | refine fV_ldN ?_ | refine fV_ld1 ?_))
   refine iV_al ?_
   intro b21 w7 hb21 hS7
   refine iU_st ?_
   intro w8 hS8
   obtain ⟨z9,hz9,hS9⟩:∃ z',Le z3 z'/\Res w z LL w8 z' ((b21,.cells (opsV c i 0).toArray 100 (0,0)) :: (b20,.cells [.int .i64 (nm0 i),.int .i64 (nm1 i),.int .i64 (nm2 i)].toArray 100 (0,0)) :: (b14,.cells [v0,v1,v2,v3,v4,.slice av6 (newsK c k).length cv6].toArray 28 (0,0)) :: (b2,.cells [nilS,nilS,nilS,nilS,nilS,nilS,nilS,.int .i64 0].toArray 67 (0,0)) :: B):=by
    rw [opsV0]
    refine ⟨_,?_,hS8⟩
    (repeat (first | assumption | refine Le.trans ?_ (by assumption:Le _ _)))
   clear hS3 hS5 hS6 hS7 hS8
   refine LoopG1 (fun (j:Int) y w'=>y = .int .i64 j/\0 <= j/\j <= 3/\∃ z',Le z9 z'/\Res w z LL w' z' ((b21,.cells (opsV c i j).toArray 100 (0,0)) :: (b20,.cells [.int .i64 (nm0 i),.int .i64 (nm1 i),.int .i64 (nm2 i)].toArray 100 (0,0)) :: (b14,.cells [v0,v1,v2,v3,v4,.slice av6 (newsK c k).length cv6].toArray 28 (0,0)) :: (b2,.cells [nilS,nilS,nilS,nilS,nilS,nilS,nilS,.int .i64 0].toArray 67 (0,0)) :: B)) (fun j=>(3 - j).toNat) 0 ⟨rfl,by decide,by decide,z9,Le.refl _,hS9⟩ ?_
   rintro I2 M2 j y w10 m2 ⟨rfl,hj0,hj3,z10,hz10,hS10⟩ back
   clear hS9
   have hjj:j = 0 \/ j = 1 \/ j = 2 \/ j = 3:=by omega
   rcases hjj with rfl | rfl | rfl | rfl
   ·refine V_run ?_
    refine Cond_is rfl ?_
    intro Kb hKb
    have mb:∀ w' z',Le z10 z'->Res w z LL w' z' ((b21,.cells (opsV c i 1).toArray 100 (0,0)) :: (b20,.cells [.int .i64 (nm0 i),.int .i64 (nm1 i),.int .i64 (nm2 i)].toArray 100 (0,0)) :: (b14,.cells [v0,v1,v2,v3,v4,.slice av6 (newsK c k).length cv6].toArray 28 (0,0)) :: (b2,.cells [nilS,nilS,nilS,nilS,nilS,nilS,nilS,.int .i64 0].toArray 67 (0,0)) :: B)->Kb [] w':=by
     intro w' z' hz' hS'
     refine hKb _ fun _=>?_
     refine V_run ?_
     exact back 1 _ _ ⟨rfl,by decide,by decide,z',hz10.trans hz',hS'⟩ (by decide)
    clear hKb back ma
    rw [opsV0] at hS10
    rw [opsV1] at mb
    have hnew:newF c i 0 = if 0 < nm0 i then (posL (usL c (nm0 i))).getD i.a.toNat 0 else i.a:=rfl
    have hq:nm0 i = 0 \/ nm0 i = 1 \/ nm0 i = 2 \/ nm0 i = 3:=nm_or i 0
    haveI:AddN 0 (Int.toNat 0 * 1) 0:=⟨rfl⟩
    generalize nm0 i = n at *
    rcases hq with rfl | rfl | rfl | rfl
    ·rw [if_neg (by decide)] at hnew
     rw [hnew] at mb
     (repeat (first | refine V_run ?_ | refine iV_ld1 ?_ | refine Cond_f ?_))
     exact mb _ _ (by (repeat (exact Le.refl _))) (by assumption)
    ·rw [if_pos (by decide)] at hnew
     have hin:=hin0 (by decide)
     obtain ⟨bq,oq,xq,Aq⟩:=int_at hq1 (k:=i.a.toNat) (by rw [posL_len,usL_len]; omega)
     cases xq
     haveI:InR i.a ((posL (usL c 1)).length:Nat):=⟨by omega,by rw [posL_len,usL_len]; omega⟩
     rw [<- hnew,Int.toNat_natCast] at Aq
     haveI:Fz z bq (oq + i.a.toNat * 1) [.int .i64 (newF c i 0)]:=⟨Aq⟩
     clear hnew
     generalize newF c i 0 = N at *
     haveI:MulI 3 1 3:=⟨rfl,by decide⟩
     haveI:InR 3 (4:Nat):=⟨by decide,by decide⟩
     (repeat (first | (refine iDr ?_; intro _ _) | refine V_run ?_ | refine PV_run ?_ | refine iV_ld1 ?_ | (refine iU_st ?_; intro _ _) | refine iHV_1 ?_ | refine Cond_t ?_ | refine fHV_ld1 ?_))
     exact mb _ _ (by (repeat (exact Le.refl _))) (by assumption)
    ·rw [if_pos (by decide)] at hnew
     have hin:=hin0 (by decide)
     obtain ⟨bq,oq,xq,Aq⟩:=int_at hq2 (k:=i.a.toNat) (by rw [posL_len,usL_len]; omega)
     cases xq
     haveI:InR i.a ((posL (usL c 2)).length:Nat):=⟨by omega,by rw [posL_len,usL_len]; omega⟩
     rw [<- hnew,Int.toNat_natCast] at Aq
     haveI:Fz z bq (oq + i.a.toNat * 1) [.int .i64 (newF c i 0)]:=⟨Aq⟩
     clear hnew
     generalize newF c i 0 = N at *
     haveI:MulI 3 1 3:=⟨rfl,by decide⟩
     haveI:InR 3 (4:Nat):=⟨by decide,by decide⟩
     (repeat (first | (refine iDr ?_; intro _ _) | refine V_run ?_ | refine PV_run ?_ | refine iV_ld1 ?_ | (refine iU_st ?_; intro _ _) | refine iHV_1 ?_ | refine Cond_t ?_ | refine fHV_ld1 ?_))
     exact mb _ _ (by (repeat (exact Le.refl _))) (by assumption)
    ·rw [if_pos (by decide)] at hnew
     have hin:=hin0 (by decide)
     obtain ⟨bq,oq,xq,Aq⟩:=int_at hq3 (k:=i.a.toNat) (by rw [posL_len,usL_len]; omega)
     cases xq
     haveI:InR i.a ((posL (usL c 3)).length:Nat):=⟨by omega,by rw [posL_len,usL_len]; omega⟩
     rw [<- hnew,Int.toNat_natCast] at Aq
     haveI:Fz z bq (oq + i.a.toNat * 1) [.int .i64 (newF c i 0)]:=⟨Aq⟩
     clear hnew
     generalize newF c i 0 = N at *
     haveI:MulI 3 1 3:=⟨rfl,by decide⟩
     haveI:InR 3 (4:Nat):=⟨by decide,by decide⟩
     (repeat (first | (refine iDr ?_; intro _ _) | refine V_run ?_ | refine PV_run ?_ | refine iV_ld1 ?_ | (refine iU_st ?_; intro _ _) | refine iHV_1 ?_ | refine Cond_t ?_ | refine fHV_ld1 ?_))
     exact mb _ _ (by (repeat (exact Le.refl _))) (by assumption)
   ·refine V_run ?_
    refine Cond_is rfl ?_
    intro Kb hKb
    have mb:∀ w' z',Le z10 z'->Res w z LL w' z' ((b21,.cells (opsV c i 2).toArray 100 (0,0)) :: (b20,.cells [.int .i64 (nm0 i),.int .i64 (nm1 i),.int .i64 (nm2 i)].toArray 100 (0,0)) :: (b14,.cells [v0,v1,v2,v3,v4,.slice av6 (newsK c k).length cv6].toArray 28 (0,0)) :: (b2,.cells [nilS,nilS,nilS,nilS,nilS,nilS,nilS,.int .i64 0].toArray 67 (0,0)) :: B)->Kb [] w':=by
     intro w' z' hz' hS'
     refine hKb _ fun _=>?_
     refine V_run ?_
     exact back 2 _ _ ⟨rfl,by decide,by decide,z',hz10.trans hz',hS'⟩ (by decide)
    clear hKb back ma
    rw [opsV1] at hS10
    rw [opsV2] at mb
    have hnew:newF c i 1 = if 0 < nm1 i then (posL (usL c (nm1 i))).getD i.b.toNat 0 else i.b:=rfl
    have hq:nm1 i = 0 \/ nm1 i = 1 \/ nm1 i = 2 \/ nm1 i = 3:=nm_or i 1
    haveI:AddN 0 (Int.toNat 0 * 1) 0:=⟨rfl⟩
    generalize nm1 i = n at *
    rcases hq with rfl | rfl | rfl | rfl
    ·rw [if_neg (by decide)] at hnew
     rw [hnew] at mb
     (repeat (first | refine V_run ?_ | refine iV_ld1 ?_ | refine Cond_f ?_))
     exact mb _ _ (by (repeat (exact Le.refl _))) (by assumption)
    ·rw [if_pos (by decide)] at hnew
     have hin:=hin1 (by decide)
     obtain ⟨bq,oq,xq,Aq⟩:=int_at hq1 (k:=i.b.toNat) (by rw [posL_len,usL_len]; omega)
     cases xq
     haveI:InR i.b ((posL (usL c 1)).length:Nat):=⟨by omega,by rw [posL_len,usL_len]; omega⟩
     rw [<- hnew,Int.toNat_natCast] at Aq
     haveI:Fz z bq (oq + i.b.toNat * 1) [.int .i64 (newF c i 1)]:=⟨Aq⟩
     clear hnew
     generalize newF c i 1 = N at *
     haveI:MulI 3 1 3:=⟨rfl,by decide⟩
     haveI:InR 3 (4:Nat):=⟨by decide,by decide⟩
     (repeat (first | (refine iDr ?_; intro _ _) | refine V_run ?_ | refine PV_run ?_ | refine iV_ld1 ?_ | (refine iU_st ?_; intro _ _) | refine iHV_1 ?_ | refine Cond_t ?_ | refine fHV_ld1 ?_))
     exact mb _ _ (by (repeat (exact Le.refl _))) (by assumption)
    ·rw [if_pos (by decide)] at hnew
     have hin:=hin1 (by decide)
     obtain ⟨bq,oq,xq,Aq⟩:=int_at hq2 (k:=i.b.toNat) (by rw [posL_len,usL_len]; omega)
     cases xq
     haveI:InR i.b ((posL (usL c 2)).length:Nat):=⟨by omega,by rw [posL_len,usL_len]; omega⟩
     rw [<- hnew,Int.toNat_natCast] at Aq
     haveI:Fz z bq (oq + i.b.toNat * 1) [.int .i64 (newF c i 1)]:=⟨Aq⟩
     clear hnew
     generalize newF c i 1 = N at *
     haveI:MulI 3 1 3:=⟨rfl,by decide⟩
     haveI:InR 3 (4:Nat):=⟨by decide,by decide⟩
     (repeat (first | (refine iDr ?_; intro _ _) | refine V_run ?_ | refine PV_run ?_ | refine iV_ld1 ?_ | (refine iU_st ?_; intro _ _) | refine iHV_1 ?_ | refine Cond_t ?_ | refine fHV_ld1 ?_))
     exact mb _ _ (by (repeat (exact Le.refl _))) (by assumption)
    ·rw [if_pos (by decide)] at hnew
     have hin:=hin1 (by decide)
     obtain ⟨bq,oq,xq,Aq⟩:=int_at hq3 (k:=i.b.toNat) (by rw [posL_len,usL_len]; omega)
     cases xq
     haveI:InR i.b ((posL (usL c 3)).length:Nat):=⟨by omega,by rw [posL_len,usL_len]; omega⟩
     rw [<- hnew,Int.toNat_natCast] at Aq
     haveI:Fz z bq (oq + i.b.toNat * 1) [.int .i64 (newF c i 1)]:=⟨Aq⟩
     clear hnew
     generalize newF c i 1 = N at *
     haveI:MulI 3 1 3:=⟨rfl,by decide⟩
     haveI:InR 3 (4:Nat):=⟨by decide,by decide⟩
     (repeat (first | (refine iDr ?_; intro _ _) | refine V_run ?_ | refine PV_run ?_ | refine iV_ld1 ?_ | (refine iU_st ?_; intro _ _) | refine iHV_1 ?_ | refine Cond_t ?_ | refine fHV_ld1 ?_))
     exact mb _ _ (by (repeat (exact Le.refl _))) (by assumption)
   ·refine V_run ?_
    refine Cond_is rfl ?_
    intro Kb hKb
    have mb:∀ w' z',Le z10 z'->Res w z LL w' z' ((b21,.cells (opsV c i 3).toArray 100 (0,0)) :: (b20,.cells [.int .i64 (nm0 i),.int .i64 (nm1 i),.int .i64 (nm2 i)].toArray 100 (0,0)) :: (b14,.cells [v0,v1,v2,v3,v4,.slice av6 (newsK c k).length cv6].toArray 28 (0,0)) :: (b2,.cells [nilS,nilS,nilS,nilS,nilS,nilS,nilS,.int .i64 0].toArray 67 (0,0)) :: B)->Kb [] w':=by
     intro w' z' hz' hS'
     refine hKb _ fun _=>?_
     refine V_run ?_
     exact back 3 _ _ ⟨rfl,by decide,by decide,z',hz10.trans hz',hS'⟩ (by decide)
    clear hKb back ma
    rw [opsV2] at hS10
    rw [opsV3] at mb
    have hnew:newF c i 2 = if 0 < nm2 i then (posL (usL c (nm2 i))).getD i.c.toNat 0 else i.c:=rfl
    have hq:nm2 i = 0 \/ nm2 i = 1 \/ nm2 i = 2 \/ nm2 i = 3:=nm_or i 2
    haveI:AddN 0 (Int.toNat 0 * 1) 0:=⟨rfl⟩
    generalize nm2 i = n at *
    rcases hq with rfl | rfl | rfl | rfl
    ·rw [if_neg (by decide)] at hnew
     rw [hnew] at mb
     (repeat (first | refine V_run ?_ | refine iV_ld1 ?_ | refine Cond_f ?_))
     exact mb _ _ (by (repeat (exact Le.refl _))) (by assumption)
    ·rw [if_pos (by decide)] at hnew
     have hin:=hin2 (by decide)
     obtain ⟨bq,oq,xq,Aq⟩:=int_at hq1 (k:=i.c.toNat) (by rw [posL_len,usL_len]; omega)
     cases xq
     haveI:InR i.c ((posL (usL c 1)).length:Nat):=⟨by omega,by rw [posL_len,usL_len]; omega⟩
     rw [<- hnew,Int.toNat_natCast] at Aq
     haveI:Fz z bq (oq + i.c.toNat * 1) [.int .i64 (newF c i 2)]:=⟨Aq⟩
     clear hnew
     generalize newF c i 2 = N at *
     haveI:MulI 3 1 3:=⟨rfl,by decide⟩
     haveI:InR 3 (4:Nat):=⟨by decide,by decide⟩
     (repeat (first | (refine iDr ?_; intro _ _) | refine V_run ?_ | refine PV_run ?_ | refine iV_ld1 ?_ | (refine iU_st ?_; intro _ _) | refine iHV_1 ?_ | refine Cond_t ?_ | refine fHV_ld1 ?_))
     exact mb _ _ (by (repeat (exact Le.refl _))) (by assumption)
    ·rw [if_pos (by decide)] at hnew
     have hin:=hin2 (by decide)
     obtain ⟨bq,oq,xq,Aq⟩:=int_at hq2 (k:=i.c.toNat) (by rw [posL_len,usL_len]; omega)
     cases xq
     haveI:InR i.c ((posL (usL c 2)).length:Nat):=⟨by omega,by rw [posL_len,usL_len]; omega⟩
     rw [<- hnew,Int.toNat_natCast] at Aq
     haveI:Fz z bq (oq + i.c.toNat * 1) [.int .i64 (newF c i 2)]:=⟨Aq⟩
     clear hnew
     generalize newF c i 2 = N at *
     haveI:MulI 3 1 3:=⟨rfl,by decide⟩
     haveI:InR 3 (4:Nat):=⟨by decide,by decide⟩
     (repeat (first | (refine iDr ?_; intro _ _) | refine V_run ?_ | refine PV_run ?_ | refine iV_ld1 ?_ | (refine iU_st ?_; intro _ _) | refine iHV_1 ?_ | refine Cond_t ?_ | refine fHV_ld1 ?_))
     exact mb _ _ (by (repeat (exact Le.refl _))) (by assumption)
    ·rw [if_pos (by decide)] at hnew
     have hin:=hin2 (by decide)
     obtain ⟨bq,oq,xq,Aq⟩:=int_at hq3 (k:=i.c.toNat) (by rw [posL_len,usL_len]; omega)
     cases xq
     haveI:InR i.c ((posL (usL c 3)).length:Nat):=⟨by omega,by rw [posL_len,usL_len]; omega⟩
     rw [<- hnew,Int.toNat_natCast] at Aq
     haveI:Fz z bq (oq + i.c.toNat * 1) [.int .i64 (newF c i 2)]:=⟨Aq⟩
     clear hnew
     generalize newF c i 2 = N at *
     haveI:MulI 3 1 3:=⟨rfl,by decide⟩
     haveI:InR 3 (4:Nat):=⟨by decide,by decide⟩
     (repeat (first | (refine iDr ?_; intro _ _) | refine V_run ?_ | refine PV_run ?_ | refine iV_ld1 ?_ | (refine iU_st ?_; intro _ _) | refine iHV_1 ?_ | refine Cond_t ?_ | refine fHV_ld1 ?_))
     exact mb _ _ (by (repeat (exact Le.refl _))) (by assumption)
   ·refine V_run ?_
    refine Cond_not rfl ?_
    clear back
    rw [opsV3] at hS10
    haveI:AddN 0 (Int.toNat 0 * 1) 0:=⟨rfl⟩
    haveI:Fz z b6 (o6 + (k:Int).toNat * 4 + 0) [.int .i64 i.op]:=⟨A6'.fld (i:=0) rfl rfl⟩
    haveI:Fz z b6 (o6 + (k:Int).toNat * 4) [.int .i64 i.op]:=⟨A6'.fld (i:=0) rfl rfl⟩
    simp only [if_true] at hsuc
    (repeat (first | refine V_run ?_ | refine fV_ld1 ?_))
    intro Kc hKc
    have mc:∀ w' z' x0,Le z10 z'->Res w z LL w' z' ((b21,.cells ([.int .i64 x0,.int .i64 (newF c i 1),.int .i64 (newF c i 2)]).toArray 100 (0,0)) :: (b20,.cells [.int .i64 (nm0 i),.int .i64 (nm1 i),.int .i64 (nm2 i)].toArray 100 (0,0)) :: (b14,.cells [v0,v1,v2,v3,v4,.slice av6 (newsK c k).length cv6].toArray 28 (0,0)) :: (b2,.cells [nilS,nilS,nilS,nilS,nilS,nilS,nilS,.int .i64 0].toArray 67 (0,0)) :: B)->x0 = newF0 c i->Kc [] w':=by
     intro w' z' x0 hz' hS' hx0
     refine hKc _ fun _=>?_
     clear hKc hS10
     (repeat (first | refine V_run ?_ | refine iV_ld1 ?_))
     refine V_push hS' ho (by simp only [room]; omega) (by simp only [room]; omega) (by decide) ?_
     intro B12 v12 w12 ho12 hS12
     obtain ⟨av7,cv7,rfl,_⟩:=ho12.form
     clear hS'
     (repeat (first | refine V_run ?_ | (refine iU_st ?_; intro _ _)))
     rename_i hS13
     have hS14:=hS13.keep [.at b14,.at b2,.bl B12]
     rw [List.append_nil] at hS14
     refine ma _ _ _ _ (by (repeat (first | assumption | refine Le.trans ?_ (by assumption:Le _ _)))) ?_ hS14
     have hcl:[newIns c i].flatMap InsM.cells = [.int .i64 i.op,.int .i64 x0,.int .i64 (newF c i 1),.int .i64 (newF c i 2)]:=by rw [hnI rfl,hx0]; rfl
     rw [hsuc,List.length_append,List.flatMap_append,hcl]
     exact ho12
    clear hKc ma
    (repeat (first | refine V_run ?_ | refine JB ?_))
    refine Cond_b (fun e=>?_) (fun e=>?_)
    ·have e':i.op = 23 \/ i.op = 24 \/ i.op = 30:=by
      simp only [Bool.cond_true_left,Bool.or_eq_true,decide_eq_true_eq] at e; omega
     have hin:=hplc (by unfold jumpOp; simpa using e')
     have h0:newF c i 0 = i.a:=by
      have:nmM i 0 = 0:=by show nm0 i = 0; unfold nm0; rw [if_neg (by omega),if_neg (by omega),if_neg (by omega)]
      unfold newF; rw [this,if_neg (by decide)]; rfl
     obtain ⟨bq,oq,xq,Aq⟩:=int_at hav (k:=i.a.toNat) (by omega)
     cases xq
     haveI:InR i.a ((atM c).length:Nat):=⟨by omega,by omega⟩
     rw [Int.toNat_natCast] at Aq
     haveI:Fz z bq (oq + i.a.toNat * 1) [.int .i64 ((atM c).getD i.a.toNat 0)]:=⟨Aq⟩
     rw [h0] at hS10
     (repeat (first | refine V_run ?_ | refine iV_ld1 ?_ | (refine iU_st ?_; intro _ _) | refine fV_ld1 ?_))
     exact mc _ _ _ (by (repeat (exact Le.refl _))) (by assumption) (by unfold newF0; rw [if_pos e'])
    ·have e':¬ (i.op = 23 \/ i.op = 24 \/ i.op = 30):=by
      simp only [Bool.cond_true_left,Bool.or_eq_false_iff,decide_eq_false_iff_not] at e; omega
     exact mc _ _ _ (by (repeat (exact Le.refl _))) (by assumption) (by unfold newF0; rw [if_neg e'])
 ·have hk0:k = c.ins.length:=by omega
  subst hk0
  have hnl:=@newsK_len c c.ins.length
  have hins:newsK c c.ins.length = (trimOk c).ins:=rfl
  rw [hins] at ho hnl
  clear back
  have htm:trimM c = trimOk c:=by unfold trimM; rw [if_pos hck]
  have hta:trimAt c = atM c:=by unfold trimAt; rw [if_pos hck]
  have hS4:=hS3
  obtain ⟨z10,hz10,hS10,g5⟩:=Res.freezeSl (E:=El.ins) (e:=38) (f:=InsM.cells) (hS4.bring B) ho (by simp only [big]; omega) (fun _=>rfl) (fun _ _ _=>rfl)
  clear hS4 hS3
  obtain ⟨_,y0,n0,rfl,_,_⟩:=g0.form
  obtain ⟨_,y1,n1,rfl,_,_⟩:=g1.form
  obtain ⟨_,y2,n2,rfl,_,_⟩:=g2.form
  obtain ⟨_,y3,n3,rfl,_,_⟩:=g3.form
  obtain ⟨_,y4,n4,rfl,_,_⟩:=g4.form
  have hz0:Le z z10:=by (repeat (exact Res.zle (by assumption)))
  refine iV_ldN ?_
  (repeat (first | refine V_run ?_ | (refine iU_st ?_; intro _ _) | refine iHV_N ?_))
  have g50:SlR El.ins z10 (.slice av6 (newsK c c.ins.length).length cv6) (trimOk c).ins:=g5
  refine hR _ _ _ _ (by assumption) ⟨y0,y1,y2,y3,y4,av6,n0,n1,n2,n3,n4,cv6,.slice fa_ (atM c).length ea,by rw [htm,hck]; rfl,?_,?_⟩
  ·rw [htm]
   exact ⟨_,_,_,_,_,_,rfl,g0.mono (by (repeat (assumption))),g1.mono (by (repeat (assumption))),g2.mono (by (repeat (assumption))),g3.mono (by (repeat (assumption))),g4.mono (by (repeat (assumption))),g50.mono (by (repeat (exact Le.refl _)))⟩
  ·rw [hta]
   exact hav.mono (by (repeat (assumption)))
end
section
open Go Q Go.RowKit
theorem V_appN {w:World} {K:Value->World->Prop} {t ty e size bytes:Nat} [g:TyApp t e size bytes] {base a:Option Addr} {n cap c:Nat} (hc:n <= cap) (hk:K (.slice base n cap) w):V (Builtin.append_ #[t,t] ty #[.slice base n cap,.slice a 0 c]) w K:=by
 obtain ⟨zv,hinfo,hzs⟩:=g.info
 obtain ⟨i,hi,hz⟩:=Option.map_eq_some_iff.1 hinfo
 refine ⟨_,_,run_append_nothing w t t ty e i g.und hi base n cap hc _ ⟨.inl ⟨e,g.und⟩,fun w'=>rfl,?_,?_,by simp,by simp⟩,hk⟩
 ·cases a with
  | none=>rfl
  | some a=>simp [Builtin.firstCells,loadCells,loadCellsFrom]
 ·cases a with
  | none=>rfl
  | some a=>simp [Builtin.firstCells,loadCells,loadCellsFrom]
theorem V_copy {α:Type} {E:El α} {w0 w:World} {z0 z:Z} {B0 B L:Bl} {K:Value->World->Prop} {t e n bytes:Nat} {v:Value} {xs:List α} {base:Option Addr} [g:TyApp t e n bytes] (f:α->List Value) (hS:Res w0 z0 B0 w z (B ++ L)) (ho:OwnSl e n B (.slice base 0 0) 0 [])
  (hx:SlR E z v xs) (hE:E.size = n) (hf:∀ z cs x,E.rel z cs x->cs = f x) (hn:∀ x,(f x).length = n) (hone:∀ x,∀ u ∈ f x,isOne u = true) (hr:∀ z z' cs x,E.rel z cs x->E.rel z' (f x) x) (hb:xs.length <= 1000000) (hbytes:bytes <= 1000)
  (hk:∀ z' v' w',Le z z'->SlR E z' v' xs->Res w0 z0 B0 w' z' L->K v' w'):V (Builtin.append_ #[t,t] t #[.slice base 0 0,v]) w K:=by
 have hx':=hx
 obtain ⟨hbig,a,cap,rfl,_,hel⟩:=hx.form
 by_cases hne:xs = []
 ·subst hne
  refine V_appN (Nat.le_refl _) ?_
  obtain ⟨z3,hz3,hS3,hv3⟩:=Res.freezeSl (E:=E) (e:=e) (f:=f) (xs:=[]) hS (by rw [hE]; exact ho) (by simp) (fun x=>by rw [hn,hE]) (fun z' x hm=>by cases hm)
  exact hk _ _ _ hz3 hv3 hS3
 ·obtain ⟨b',off,cap',hv,_,hat⟩:=hx'.all f (fun z cs x h=>hf z cs x h) hne
  cases hv
  have hpos:0 < xs.length:=List.length_pos_iff.2 hne
  have hbb:(0 + xs.length) * bytes <= 1000000 * 1000:=Nat.mul_le_mul (by omega) hbytes
  refine V_app hS ho (news:=xs.flatMap f) (hat.world hS.sub) (flat_len (f:=f) hn xs) (fun u hu=>?_) hpos (by simp only [room]; omega) (by simp only [room]; omega) ?_
  ·obtain ⟨x,_,hx⟩:=List.mem_flatMap.1 hu
   exact hone x u hx
  ·intro B2 v2 w2 ho2 hS2
   rw [Nat.zero_add,List.nil_append] at ho2
   obtain ⟨z3,hz3,hS3,hv3⟩:=Res.freezeSl (E:=E) (e:=e) (f:=f) hS2 (by rw [hE]; exact ho2) hbig (fun x=>by rw [hn,hE]) (fun z' x hm=>by
    obtain ⟨j,hj⟩:=List.mem_iff_getElem?.1 hm
    obtain ⟨b3,off3,cs,_,h7,_⟩:=hel j x hj
    exact hr _ _ _ _ h7)
   exact hk _ _ _ hz3 hv3 hS3
abbrev res8 (b2:Nat):Nat × Obj:=(b2,.cells [nilS,nilS,nilS,nilS,nilS,nilS,nilS,.int .i64 0].toArray 67 (0,0))
theorem refTg {R:Value->World->Prop} {z:Z} {w:World} {c:CodeM} {bc b2 b14 bt:Nat} {rv av v0 v1 v2 v3:Value} (hz:RefZ z c bc bt rv av) (hck:(checkM c).1 = 0)
  (hS:Res w z [(b14,.cells [v0,v1,v2,v3,nilS,nilS].toArray 28 (0,0)),res8 b2] w z [(b14,.cells [v0,v1,v2,v3,nilS,nilS].toArray 28 (0,0)),res8 b2])
  (hR:∀ z' w' L' r,Res w z [(b14,.cells [v0,v1,v2,v3,nilS,nilS].toArray 28 (0,0)),res8 b2] w' z' L'->RefTrimR z' r c->R r w')
  (g0:SlR El.str z v0 (trimOk c).consts) (g1:SlR (El.sl El.part) z v1 (trimOk c).tmpls) (g2:SlR (El.sl El.item) z v2 (trimOk c).lists) (g3:SlR El.spot z v3 (trimOk c).labels) :
  vcRg R w (.pointer (some ⟨bc,0,none⟩)) (.pointer (some ⟨b2,0,none⟩)) (.pointer (some ⟨bt,0,none⟩)) (.pointer (some ⟨b14,0,none⟩)) rv av:=by
 have hok:=ok_of hck
 have hbd:=limits_bd hok.lim
 unfold vcRg
 have hz':=hz
 obtain ⟨a1,a2,a3,a4,a5,a6,k1,k2,k3,k4,k5,k6,q1,q2,q3,hatc,hcr,hatt,hq1,hq2,hq3,hrv,hav⟩:=hz'.h
 obtain ⟨a1',a2',a3',a4',a5',a6',k1',k2',k3',k4',k5',k6',he,h1,h2,h3,h4,h5,h6⟩:=hcr.form
 simp only [codeVs,Value.agg.injEq,List.toArray_inj,List.cons.injEq,Value.slice.injEq,and_true,true_and] at he
 obtain ⟨⟨rfl,rfl⟩,⟨rfl,rfl⟩,⟨rfl,rfl⟩,⟨rfl,rfl⟩,⟨rfl,rfl⟩,⟨rfl,rfl⟩⟩:=he
 haveI:Fz z bc 4 [.slice a5 c.slots.length k5]:=⟨hatc.fld (i:=4) rfl rfl⟩
 generalize hLL:[(b14,Obj.cells [v0,v1,v2,v3,nilS,nilS].toArray 28 (0,0)),res8 b2] = LL at hR
 have hS0:Res w z LL w z [(b14,Obj.cells [v0,v1,v2,v3,nilS,nilS].toArray 28 (0,0)),res8 b2]:=by rw [<- hLL]; exact hS
 clear hS hLL
 (repeat (first | refine V_run ?_ | refine iV_ld1 ?_ | refine fV_ld1 ?_))
 refine V_copy (E:=El.str) (B:=[]) (fun x=>[.string x]) hS0 OwnSl.nil h5 rfl (fun z cs x h=>h.1) (fun _=>rfl) (fun x u hu=>by simp only [List.mem_cons,List.not_mem_nil,or_false] at hu; subst hu; rfl) (fun z z' cs x h=>⟨rfl,h.2⟩) (by omega) (by decide) ?_
 intro z3 v3' w3 hz3 hv3 hS3
 obtain ⟨_,x5,y5,rfl,_,_⟩:=hv3.form
 clear hS0
 (repeat (first | refine V_run ?_ | (refine iU_st ?_; intro _ _)))
 rename_i hS4
 exact refTh (hz.mono hz3) hck hS4.self (fun z' w' L' r kk hd=>hR _ _ _ _ (hS4.comp kk) hd) (g0.mono hz3) (g1.mono hz3) (g2.mono hz3) (g3.mono hz3) hv3
theorem refTf {R:Value->World->Prop} {z:Z} {w:World} {c:CodeM} {bc b2 b14 bt:Nat} {rv av v0 v1 v2:Value} (hz:RefZ z c bc bt rv av) (hck:(checkM c).1 = 0)
  (hS:Res w z [(b14,.cells [v0,v1,v2,nilS,nilS,nilS].toArray 28 (0,0)),res8 b2] w z [(b14,.cells [v0,v1,v2,nilS,nilS,nilS].toArray 28 (0,0)),res8 b2])
  (hR:∀ z' w' L' r,Res w z [(b14,.cells [v0,v1,v2,nilS,nilS,nilS].toArray 28 (0,0)),res8 b2] w' z' L'->RefTrimR z' r c->R r w')
  (g0:SlR El.str z v0 (trimOk c).consts) (g1:SlR (El.sl El.part) z v1 (trimOk c).tmpls) (g2:SlR (El.sl El.item) z v2 (trimOk c).lists) :
  vcRf R w (.pointer (some ⟨bc,0,none⟩)) (.pointer (some ⟨b2,0,none⟩)) (.pointer (some ⟨bt,0,none⟩)) (.pointer (some ⟨b14,0,none⟩)) rv av:=by
 have hok:=ok_of hck
 have hbd:=limits_bd hok.lim
 have hlab:=labels_in hok.par
 unfold vcRf
 have hz':=hz
 obtain ⟨a1,a2,a3,a4,a5,a6,k1,k2,k3,k4,k5,k6,q1,q2,q3,hatc,hcr,hatt,hq1,hq2,hq3,hrv,hav⟩:=hz'.h
 obtain ⟨a1',a2',a3',a4',a5',a6',k1',k2',k3',k4',k5',k6',he,h1,h2,h3,h4,h5,h6⟩:=hcr.form
 simp only [codeVs,Value.agg.injEq,List.toArray_inj,List.cons.injEq,Value.slice.injEq,and_true,true_and] at he
 obtain ⟨⟨rfl,rfl⟩,⟨rfl,rfl⟩,⟨rfl,rfl⟩,⟨rfl,rfl⟩,⟨rfl,rfl⟩,⟨rfl,rfl⟩⟩:=he
 obtain ⟨_,at_,ct,rfl,_,helt⟩:=hav.form
 haveI:Fz z bc 3 [.slice a4 c.labels.length k4]:=⟨hatc.fld (i:=3) rfl rfl⟩
 have hatl:(atM c).length = c.ins.length:=by simp [atM]
 generalize hLL:[(b14,Obj.cells [v0,v1,v2,nilS,nilS,nilS].toArray 28 (0,0)),res8 b2] = LL at hR
 have hS0:Res w z LL w z [(b14,Obj.cells [v0,v1,v2,nilS,nilS,nilS].toArray 28 (0,0)),res8 b2]:=by rw [<- hLL]; exact hS
 clear hS hLL
 refine LoopG1 (fun (k:Nat) y w'=>y = .int .i64 k/\k <= c.labels.length/\∃ vl Bl z',Le z z'/\OwnSl 54 2 Bl vl k ((c.labels.take k).flatMap fun s=>(newLab c s).cells)/\Res w z LL w' z' ((b14,.cells [v0,v1,v2,vl,nilS,nilS].toArray 28 (0,0)) :: res8 b2 :: Bl)) (fun k=>c.labels.length - k) 0 ⟨rfl,by omega,nilS,[],z,Le.refl _,OwnSl.nil,hS0⟩ ?_
 rintro I M k y w1 m ⟨rfl,hk,vl,Bl,z1,hz1,ho,hS1⟩ back
 obtain ⟨avl,cvl,rfl,_⟩:=ho.form
 clear hS0
 obtain ⟨_,ai,ki,he,_,hel⟩:=h4.form
 cases he
 (repeat (first | refine V_run ?_ | refine fV_ld1 ?_))
 refine Cond_d (fun h=>?_) (fun h=>?_)
 ·have hlt:k < c.labels.length:=by omega
  haveI:InR (k:Int) (c.labels.length:Nat):=⟨by omega,by omega⟩
  haveI:InI ((k:Int) + 1):=⟨by omega⟩
  obtain ⟨b,off,cs,rfl,⟨rfl,hs⟩,hat⟩:=hel _ _ (List.getElem?_eq_getElem hlt)
  haveI:Fz z b (off + (k:Int).toNat * 2 + 0) [.string c.labels[k].name]:=⟨hat.fld (i:=0) rfl rfl⟩
  haveI:Fz z b (off + (k:Int).toNat * 2) [.string c.labels[k].name]:=⟨hat.fld (i:=0) rfl rfl⟩
  haveI:Fz z b (off + (k:Int).toNat * 2 + 1) [.int .i64 c.labels[k].at_]:=⟨hat.fld (i:=1) rfl rfl⟩
  have hin:=hlab _ (List.getElem_mem hlt)
  have hal:c.labels[k].at_.toNat < (atM c).length:=by omega
  haveI:InR c.labels[k].at_ ((atM c).length:Nat):=⟨by omega,by omega⟩
  obtain ⟨bt_,offt,cst,rfl,rfl,hatt_⟩:=helt _ _ (List.getElem?_eq_getElem hal)
  haveI:Fz z bt_ (offt + c.labels[k].at_.toNat * 1) [.int .i64 (atM c)[c.labels[k].at_.toNat]]:=⟨hatt_⟩
  (repeat (first | (refine iDr ?_; intro _ _) | refine PV_run ?_ | refine iHV_1 ?_ | refine fHV_ld1 ?_))
  refine V_bs (parts:=[(0,_)]) rfl (by omega) ?_
  intro bl w3 hbl hS3
  have hatl2:At (hp w3) bl 0 (newLab c c.labels[k]).cells:=⟨_,_,_,(hS3.mem _ List.mem_cons_self).1,fun j u hu=>by
   have e:(atM c)[c.labels[k].at_.toNat] = (newLab c c.labels[k]).at_:=by rw [newLab,List.getD_eq_getElem?_getD,List.getElem?_eq_getElem hal]; rfl
   simp only [e]
   rw [Nat.zero_add]
   simp only [List.append_nil,List.getElem?_toArray]
   exact hu⟩
  (repeat (first | refine iRI_1 ?_ | refine fRI_1 ?_))
  refine V_app (B:=Bl) (m:=1) (hS3.bring Bl) ho hatl2 rfl (fun u hu=>by simp only [SpotM.cells,List.mem_cons,List.not_mem_nil,or_false] at hu; rcases hu with rfl | rfl <;> rfl) (by omega) (by simp only [room]; omega) (by simp only [room]; omega) ?_
  intro B5 v5 w5 ho5 hS5
  obtain ⟨a5',c5',rfl,_⟩:=ho5.form
  clear hS3
  (repeat (first | refine V_run ?_ | refine PV_run ?_ | (refine iU_st ?_; intro _ _) | refine fRI_1 ?_))
  rename_i hS6
  have hS7:=hS6.keep [.at b14,.at b2,.bl B5]
  rw [List.append_nil] at hS7
  refine back (k + 1) _ _ ⟨by simp,by omega,_,B5,_,hz1,?_,hS7⟩ (by omega)
  rw [<- List.take_append_getElem hlt,List.flatMap_append]
  simpa using ho5
 ·have hk2:k = c.labels.length:=by omega
  subst hk2
  rw [List.take_of_length_le (Nat.le_refl _)] at ho
  have hS7:=hS1.bring Bl
  obtain ⟨z8,hz8,hS8,hv4⟩:=Res.freezeSl (E:=El.spot) (e:=54) (xs:=c.labels.map (newLab c)) (f:=SpotM.cells) hS7 (by rw [List.flatMap_map,List.length_map]; exact ho) (by rw [List.length_map]; simp only [big]; omega) (fun _=>rfl) (fun z' s hm=>by
   obtain ⟨s',hm',rfl⟩:=List.mem_map.1 hm
   obtain ⟨j,hj⟩:=List.mem_iff_getElem?.1 hm'
   obtain ⟨_,_,cs,_,⟨_,hsz⟩,_⟩:=hel j s' hj
   exact ⟨rfl,hsz⟩)
  have hzz:=hz1.trans hz8
  exact refTg (hz.mono hzz) hck hS8.self (fun z' w' L' r kk hd=>hR _ _ _ _ (hS8.comp kk) hd) (g0.mono hzz) (g1.mono hzz) (g2.mono hzz) hv4
end
section
open Go Q Go.RowKit
theorem KeptR.push {α:Type} {E:El α} {z:Z} {xs:List α} {S:List Int} {k:Nat} {us:List Value} {u:Value} {x:α} (h:KeptR E z xs (keptI S k) us) (hx:xs[k]? = some x) (hu:E.rel z [u] x) (h1:isOne u = true) (hm:memK S k = true):KeptR E z xs (keptI S (k + 1)) (us ++ [u]):=by
 rw [keptI_succ,if_pos hm]
 refine ⟨by simp [h.len],fun v hv=>?_,fun j i hi=>?_⟩
 ·rcases List.mem_append.1 hv with hv | hv
  ·exact h.one v hv
  ·simp at hv; subst hv; exact h1
 ·by_cases hj:j < (keptI S k).length
  ·rw [List.getElem?_append_left hj] at hi
   obtain ⟨u',x',g1,g2,g3⟩:=h.at_ j i hi
   exact ⟨u',x',by rw [List.getElem?_append_left (by rw [h.len]; exact hj)]; exact g1,g2,g3⟩
  ·rw [List.getElem?_append_right (by omega)] at hi
   have hj0:j - (keptI S k).length = 0:=by
    have:=(List.getElem?_eq_some_iff.1 hi).1
    simp at this; omega
   rw [hj0] at hi
   simp at hi
   subst hi
   exact ⟨u,x,by rw [List.getElem?_append_right (by rw [h.len]; omega),h.len,hj0]; rfl,hx,hu⟩
theorem KeptR.stay {α:Type} {E:El α} {z:Z} {xs:List α} {S:List Int} {k:Nat} {us:List Value} (hm:memK S k = false):keptI S (k + 1) = keptI S k:=by
 rw [keptI_succ,if_neg (by rw [hm]; simp),List.append_nil]
structure RefU (z:Z) (c:CodeM) (bu:Nat):Prop where
 h:∃ s1 s2 s3,At z bu 0 [nilS,s1,s2,s3]/\SlR El.bool z s1 (usL c 1)/\SlR El.bool z s2 (usL c 2)/\SlR El.bool z s3 (usL c 3)
theorem RefU.mono {z z':Z} {c:CodeM} {bu:Nat} (h:RefU z c bu) (hz:Le z z'):RefU z' c bu:=by
 obtain ⟨s1,s2,s3,h1,h2,h3,h4⟩:=h.h
 exact ⟨s1,s2,s3,h1.mono hz,h2.mono hz,h3.mono hz,h4.mono hz⟩
abbrev partF:PartM->List Value:=PartM.cells
abbrev itemF:ItemM->List Value:=ItemM.cells
theorem partO:∀ x:PartM,∀ u ∈ partF x,isOne u = true:=fun x u hu=>by simp only [PartM.cells,List.mem_cons,List.not_mem_nil,or_false] at hu; rcases hu with rfl | rfl | rfl <;> rfl
theorem itemO:∀ x:ItemM,∀ u ∈ itemF x,isOne u = true:=fun x u hu=>by simp only [ItemM.cells,List.mem_cons,List.not_mem_nil,or_false] at hu; rcases hu with rfl | rfl <;> rfl
theorem refTe {R:Value->World->Prop} {z:Z} {w:World} {c:CodeM} {bc b2 b14 bt bu:Nat} {rv av v0 v1:Value} (hz:RefZ z c bc bt rv av) (hu:RefU z c bu) (hck:(checkM c).1 = 0)
  (hS:Res w z [(b14,.cells [v0,v1,nilS,nilS,nilS,nilS].toArray 28 (0,0)),res8 b2] w z [(b14,.cells [v0,v1,nilS,nilS,nilS,nilS].toArray 28 (0,0)),res8 b2])
  (hR:∀ z' w' L' r,Res w z [(b14,.cells [v0,v1,nilS,nilS,nilS,nilS].toArray 28 (0,0)),res8 b2] w' z' L'->RefTrimR z' r c->R r w')
  (g0:SlR El.str z v0 (trimOk c).consts) (g1:SlR (El.sl El.part) z v1 (trimOk c).tmpls) :
  vcRe R w (.pointer (some ⟨bc,0,none⟩)) (.pointer (some ⟨b2,0,none⟩)) (.pointer (some ⟨bu,0,none⟩)) (.pointer (some ⟨bt,0,none⟩)) (.pointer (some ⟨b14,0,none⟩)) rv av:=by
 have hok:=ok_of hck
 have hbd:=limits_bd hok.lim
 have hli:=hok.lim
 unfold vcRe
 have hz':=hz
 have hu':=hu
 obtain ⟨a1,a2,a3,a4,a5,a6,k1,k2,k3,k4,k5,k6,q1,q2,q3,hatc,hcr,hatt,hq1,hq2,hq3,hrv,hav⟩:=hz'.h
 obtain ⟨a1',a2',a3',a4',a5',a6',k1',k2',k3',k4',k5',k6',he,h1,h2,h3,h4,h5,h6⟩:=hcr.form
 simp only [codeVs,Value.agg.injEq,List.toArray_inj,List.cons.injEq,Value.slice.injEq,and_true,true_and] at he
 obtain ⟨⟨rfl,rfl⟩,⟨rfl,rfl⟩,⟨rfl,rfl⟩,⟨rfl,rfl⟩,⟨rfl,rfl⟩,⟨rfl,rfl⟩⟩:=he
 obtain ⟨s1,s2,s3,hatu,hu1,hu2,hu3⟩:=hu'.h
 obtain ⟨_,f1,e1,rfl,_,_⟩:=hu3.form
 have hlm:∀ l ∈ c.lists,l.length <= 1000000:=fun l hl=>by
  have:=hli; unfold limitsM at this; simp only [Bool.and_eq_true,List.all_eq_true] at this
  have:=this.2.2.2.1 l hl; unfold lim3 at this; simp only [decide_eq_true_eq] at this; omega
 haveI:Fz z bc 2 [.slice a3 c.lists.length k3]:=⟨hatc.fld (i:=2) rfl rfl⟩
 haveI:Fz z bu 3 [.slice f1 (usL c 3).length e1]:=⟨hatu.fld (i:=3) rfl rfl⟩
 haveI:MulI 3 1 3:=⟨rfl,by decide⟩
 haveI:InR 3 (4:Nat):=⟨by decide,by decide⟩
 generalize hLL:[(b14,Obj.cells [v0,v1,nilS,nilS,nilS,nilS].toArray 28 (0,0)),res8 b2] = LL at hR
 have hS0:Res w z LL w z [(b14,Obj.cells [v0,v1,nilS,nilS,nilS,nilS].toArray 28 (0,0)),res8 b2]:=by rw [<- hLL]; exact hS
 clear hS hLL
 generalize hSS:(usesM c).s3 = S
 refine LoopG1 (fun (k:Nat) y w'=>y = .int .i64 k/\k <= c.lists.length/\∃ vl Bl us z',Le z z'/\OwnSl 96 1 Bl vl (keptI S k).length us/\KeptR (El.sl El.item) z' c.lists (keptI S k) us/\Res w z LL w' z' ((b14,.cells [v0,v1,vl,nilS,nilS,nilS].toArray 28 (0,0)) :: res8 b2 :: Bl)) (fun k=>c.lists.length - k) 0 ⟨rfl,Nat.zero_le _,nilS,[],[],z,Le.refl _,OwnSl.nil,⟨rfl,by simp,fun j i hi=>by simp [keptI] at hi⟩,hS0⟩ ?_
 rintro I M k y w1 m ⟨rfl,hk,vl,Bl,us,z1,hz1,ho,hkr,hS1⟩ back
 obtain ⟨avl,cvl,rfl,_⟩:=ho.form
 clear hS0
 obtain ⟨_,ai,ki,he,_,hel⟩:=h3.form
 cases he
 (repeat (first | refine V_run ?_ | refine fV_ld1 ?_))
 refine Cond_d (fun h=>?_) (fun h=>?_)
 ·have hlt:k < c.lists.length:=by omega
  haveI:InR (k:Int) (c.lists.length:Nat):=⟨by omega,by omega⟩
  haveI:InI ((k:Int) + 1):=⟨by omega⟩
  have hcn:cntM c 3 = c.lists.length:=rfl
  haveI:InR (k:Int) ((usL c 3).length:Nat):=⟨by omega,by rw [usL_len]; omega⟩
  obtain ⟨bb,ob,xb,Ab⟩:=bool_at' hu3 (k:=k) (by rw [usL_len]; omega)
  cases xb
  have hmm:(usL c 3).getD k false = memK S k:=by rw [usL_get (by omega),usF_mem hok (.inr (.inr rfl)) (by omega),<- hSS]; rfl
  rw [hmm] at Ab
  haveI:Fz z bb (ob + (k:Int).toNat * 1) [.bool (memK S k)]:=⟨Ab⟩
  have g1:c.lists[k]? = some c.lists[k]:=List.getElem?_eq_getElem hlt
  have hlk:=hlm c.lists[k] (List.getElem_mem hlt)
  generalize c.lists[k] = p at *
  obtain ⟨b,off,cs,rfl,hr,hat⟩:=hel _ _ g1
  have hkl:=@keptI_len S k
  intro Ka hKa
  have ma:∀ w' z' vl' Bl' us',Le z1 z'->OwnSl 96 1 Bl' vl' (keptI S (k + 1)).length us'->KeptR (El.sl El.item) z' c.lists (keptI S (k + 1)) us'->Res w z LL w' z' ((b14,.cells [v0,v1,vl',nilS,nilS,nilS].toArray 28 (0,0)) :: res8 b2 :: Bl')->Ka [] w':=by
   intro w' z' vl' Bl' us' hz' ho' hkr' hS'
   refine hKa _ fun _=>?_
   refine V_run ?_
   exact back (k + 1) _ _ ⟨by simp,by omega,_,_,_,z',hz1.trans hz',ho',hkr',hS'⟩ (by omega)
  clear hKa back
  obtain ⟨v1',rfl,hsl⟩:=hr
  obtain ⟨_,x1,y1,rfl,_,_⟩:=hsl.form
  haveI:Fz z b (off + (k:Int).toNat * 1) [.slice x1 p.length y1]:=⟨hat⟩
  (repeat (first | refine V_run ?_ | refine fV_ld1 ?_))
  refine Cond_b (fun e=>?_) (fun e=>?_)
  ·(repeat (first | (refine iDr ?_; intro _ _) | refine PV_run ?_ | refine iHV_1 ?_ | refine fHV_ld1 ?_))
   refine V_bs (parts:=[]) rfl (by omega) ?_
   intro be w2 hbe hS2
   (repeat (first | refine iRI_1 ?_ | refine fRI_1 ?_))
   refine V_copy (E:=El.item) (B:=[(be,_)]) itemF hS2 ⟨rfl,.inr ⟨be,0,[],rfl,rfl,Nat.le_refl 0,by decide,rfl⟩⟩ (hsl.mono hz1) rfl (fun z cs x h=>h.1) (fun _=>rfl) itemO (fun z z' cs x h=>⟨rfl,h.2⟩) hlk (by decide) ?_
   intro z3 v3 w3 hz3 hv3 hS3'
   obtain ⟨_,a3',c3',rfl,_,_⟩:=hv3.form
   clear hS2 hS1
   (repeat (first | refine iRI_1 ?_ | refine fRI_1 ?_))
   refine V_bs (parts:=[(0,_)]) rfl (by omega) ?_
   intro bl w3 hbl hS3
   have hatl2:At (hp w3) bl 0 [.slice a3' p.length c3']:=⟨_,_,_,(hS3.mem _ List.mem_cons_self).1,fun j u hu=>by simpa using hu⟩
   (repeat (first | refine iRI_1 ?_ | refine fRI_1 ?_))
   refine V_app (B:=Bl) (m:=1) (hS3.bring Bl) ho hatl2 rfl (fun u hu=>by simp only [List.mem_cons,List.not_mem_nil,or_false] at hu; subst hu; rfl) (by omega) (by simp only [room]; omega) (by simp only [room]; omega) ?_
   intro B5 v5 w5 ho5 hS5
   obtain ⟨a5',c5',rfl,_⟩:=ho5.form
   clear hS3
   (repeat (first | refine PV_run ?_ | (refine iU_st ?_; intro _ _) | refine fRI_1 ?_))
   rename_i hS6
   have hS7:=hS6.keep [.at b14,.at b2,.bl B5]
   rw [List.append_nil] at hS7
   have hks:(keptI S (k + 1)).length = (keptI S k).length + 1:=by rw [keptI_succ,if_pos e,List.length_append]; rfl
   exact ma _ _ _ _ _ (by (repeat (assumption))) (by rw [hks]; exact ho5) ((hkr.mono hz3).push g1 ⟨_,rfl,hv3⟩ rfl e) hS7
  ·have hks:=KeptR.stay (E:=(El.sl El.item)) (z:=z1) (xs:=c.lists) (us:=us) e
   exact ma _ _ _ _ _ (by (repeat (exact Le.refl _))) (by rw [hks]; exact ho) (by rw [hks]; exact hkr) (by assumption)
 ·have hk2:k = c.lists.length:=by omega
  subst hk2
  have hkl:=@keptI_len S c.lists.length
  obtain ⟨z2,hz2,hS2,hv2⟩:=freezeKept (E:=(El.sl El.item)) rfl (hS1.bring Bl) ho hkr (by simp only [big]; omega)
  have hzz:=hz1.trans hz2
  have ht:(trimOk c).lists = pickK c.lists (keptI S c.lists.length):=by rw [<- hSS]; rfl
  rw [<- ht] at hv2
  exact refTf (hz.mono hzz) hck hS2.self (fun z' w' L' r kk hd=>hR _ _ _ _ (hS2.comp kk) hd) (g0.mono hzz) (g1.mono hzz) hv2
theorem refTd {R:Value->World->Prop} {z:Z} {w:World} {c:CodeM} {bc b2 b14 bt bu:Nat} {rv av v0:Value} (hz:RefZ z c bc bt rv av) (hu:RefU z c bu) (hck:(checkM c).1 = 0)
  (hS:Res w z [(b14,.cells [v0,nilS,nilS,nilS,nilS,nilS].toArray 28 (0,0)),res8 b2] w z [(b14,.cells [v0,nilS,nilS,nilS,nilS,nilS].toArray 28 (0,0)),res8 b2])
  (hR:∀ z' w' L' r,Res w z [(b14,.cells [v0,nilS,nilS,nilS,nilS,nilS].toArray 28 (0,0)),res8 b2] w' z' L'->RefTrimR z' r c->R r w')
  (g0:SlR El.str z v0 (trimOk c).consts) :
  vcRd R w (.pointer (some ⟨bc,0,none⟩)) (.pointer (some ⟨b2,0,none⟩)) (.pointer (some ⟨bu,0,none⟩)) (.pointer (some ⟨bt,0,none⟩)) (.pointer (some ⟨b14,0,none⟩)) rv av:=by
 have hok:=ok_of hck
 have hbd:=limits_bd hok.lim
 have hli:=hok.lim
 unfold vcRd
 have hz':=hz
 have hu':=hu
 obtain ⟨a1,a2,a3,a4,a5,a6,k1,k2,k3,k4,k5,k6,q1,q2,q3,hatc,hcr,hatt,hq1,hq2,hq3,hrv,hav⟩:=hz'.h
 obtain ⟨a1',a2',a3',a4',a5',a6',k1',k2',k3',k4',k5',k6',he,h1,h2,h3,h4,h5,h6⟩:=hcr.form
 simp only [codeVs,Value.agg.injEq,List.toArray_inj,List.cons.injEq,Value.slice.injEq,and_true,true_and] at he
 obtain ⟨⟨rfl,rfl⟩,⟨rfl,rfl⟩,⟨rfl,rfl⟩,⟨rfl,rfl⟩,⟨rfl,rfl⟩,⟨rfl,rfl⟩⟩:=he
 obtain ⟨s1,s2,s3,hatu,hu1,hu2,hu3⟩:=hu'.h
 obtain ⟨_,f1,e1,rfl,_,_⟩:=hu2.form
 have hlm:∀ l ∈ c.tmpls,l.length <= 1000000:=fun l hl=>by
  have:=hli; unfold limitsM at this; simp only [Bool.and_eq_true,List.all_eq_true] at this
  have:=this.2.1 l hl; unfold lim2 at this; simp only [Bool.and_eq_true,decide_eq_true_eq] at this; omega
 haveI:Fz z bc 1 [.slice a2 c.tmpls.length k2]:=⟨hatc.fld (i:=1) rfl rfl⟩
 haveI:Fz z bu 2 [.slice f1 (usL c 2).length e1]:=⟨hatu.fld (i:=2) rfl rfl⟩
 haveI:MulI 3 1 3:=⟨rfl,by decide⟩
 haveI:InR 3 (4:Nat):=⟨by decide,by decide⟩
 generalize hLL:[(b14,Obj.cells [v0,nilS,nilS,nilS,nilS,nilS].toArray 28 (0,0)),res8 b2] = LL at hR
 have hS0:Res w z LL w z [(b14,Obj.cells [v0,nilS,nilS,nilS,nilS,nilS].toArray 28 (0,0)),res8 b2]:=by rw [<- hLL]; exact hS
 clear hS hLL
 generalize hSS:(usesM c).s2 = S
 refine LoopG1 (fun (k:Nat) y w'=>y = .int .i64 k/\k <= c.tmpls.length/\∃ vl Bl us z',Le z z'/\OwnSl 93 1 Bl vl (keptI S k).length us/\KeptR (El.sl El.part) z' c.tmpls (keptI S k) us/\Res w z LL w' z' ((b14,.cells [v0,vl,nilS,nilS,nilS,nilS].toArray 28 (0,0)) :: res8 b2 :: Bl)) (fun k=>c.tmpls.length - k) 0 ⟨rfl,Nat.zero_le _,nilS,[],[],z,Le.refl _,OwnSl.nil,⟨rfl,by simp,fun j i hi=>by simp [keptI] at hi⟩,hS0⟩ ?_
 rintro I M k y w1 m ⟨rfl,hk,vl,Bl,us,z1,hz1,ho,hkr,hS1⟩ back
 obtain ⟨avl,cvl,rfl,_⟩:=ho.form
 clear hS0
 obtain ⟨_,ai,ki,he,_,hel⟩:=h2.form
 cases he
 (repeat (first | refine V_run ?_ | refine fV_ld1 ?_))
 refine Cond_d (fun h=>?_) (fun h=>?_)
 ·have hlt:k < c.tmpls.length:=by omega
  haveI:InR (k:Int) (c.tmpls.length:Nat):=⟨by omega,by omega⟩
  haveI:InI ((k:Int) + 1):=⟨by omega⟩
  have hcn:cntM c 2 = c.tmpls.length:=rfl
  haveI:InR (k:Int) ((usL c 2).length:Nat):=⟨by omega,by rw [usL_len]; omega⟩
  obtain ⟨bb,ob,xb,Ab⟩:=bool_at' hu2 (k:=k) (by rw [usL_len]; omega)
  cases xb
  have hmm:(usL c 2).getD k false = memK S k:=by rw [usL_get (by omega),usF_mem hok (.inr (.inl rfl)) (by omega),<- hSS]; rfl
  rw [hmm] at Ab
  haveI:Fz z bb (ob + (k:Int).toNat * 1) [.bool (memK S k)]:=⟨Ab⟩
  have g1:c.tmpls[k]? = some c.tmpls[k]:=List.getElem?_eq_getElem hlt
  have hlk:=hlm c.tmpls[k] (List.getElem_mem hlt)
  generalize c.tmpls[k] = p at *
  obtain ⟨b,off,cs,rfl,hr,hat⟩:=hel _ _ g1
  have hkl:=@keptI_len S k
  intro Ka hKa
  have ma:∀ w' z' vl' Bl' us',Le z1 z'->OwnSl 93 1 Bl' vl' (keptI S (k + 1)).length us'->KeptR (El.sl El.part) z' c.tmpls (keptI S (k + 1)) us'->Res w z LL w' z' ((b14,.cells [v0,vl',nilS,nilS,nilS,nilS].toArray 28 (0,0)) :: res8 b2 :: Bl')->Ka [] w':=by
   intro w' z' vl' Bl' us' hz' ho' hkr' hS'
   refine hKa _ fun _=>?_
   refine V_run ?_
   exact back (k + 1) _ _ ⟨by simp,by omega,_,_,_,z',hz1.trans hz',ho',hkr',hS'⟩ (by omega)
  clear hKa back
  obtain ⟨v1',rfl,hsl⟩:=hr
  obtain ⟨_,x1,y1,rfl,_,_⟩:=hsl.form
  haveI:Fz z b (off + (k:Int).toNat * 1) [.slice x1 p.length y1]:=⟨hat⟩
  (repeat (first | refine V_run ?_ | refine fV_ld1 ?_))
  refine Cond_b (fun e=>?_) (fun e=>?_)
  ·(repeat (first | (refine iDr ?_; intro _ _) | refine PV_run ?_ | refine iHV_1 ?_ | refine fHV_ld1 ?_))
   refine V_bs (parts:=[]) rfl (by omega) ?_
   intro be w2 hbe hS2
   (repeat (first | refine iRI_1 ?_ | refine fRI_1 ?_))
   refine V_copy (E:=El.part) (B:=[(be,_)]) partF hS2 ⟨rfl,.inr ⟨be,0,[],rfl,rfl,Nat.le_refl 0,by decide,rfl⟩⟩ (hsl.mono hz1) rfl (fun z cs x h=>h.1) (fun _=>rfl) partO (fun z z' cs x h=>⟨rfl,h.2⟩) hlk (by decide) ?_
   intro z3 v3 w3 hz3 hv3 hS3'
   obtain ⟨_,a3',c3',rfl,_,_⟩:=hv3.form
   clear hS2 hS1
   (repeat (first | refine iRI_1 ?_ | refine fRI_1 ?_))
   refine V_bs (parts:=[(0,_)]) rfl (by omega) ?_
   intro bl w3 hbl hS3
   have hatl2:At (hp w3) bl 0 [.slice a3' p.length c3']:=⟨_,_,_,(hS3.mem _ List.mem_cons_self).1,fun j u hu=>by simpa using hu⟩
   (repeat (first | refine iRI_1 ?_ | refine fRI_1 ?_))
   refine V_app (B:=Bl) (m:=1) (hS3.bring Bl) ho hatl2 rfl (fun u hu=>by simp only [List.mem_cons,List.not_mem_nil,or_false] at hu; subst hu; rfl) (by omega) (by simp only [room]; omega) (by simp only [room]; omega) ?_
   intro B5 v5 w5 ho5 hS5
   obtain ⟨a5',c5',rfl,_⟩:=ho5.form
   clear hS3
   (repeat (first | refine PV_run ?_ | (refine iU_st ?_; intro _ _) | refine fRI_1 ?_))
   rename_i hS6
   have hS7:=hS6.keep [.at b14,.at b2,.bl B5]
   rw [List.append_nil] at hS7
   have hks:(keptI S (k + 1)).length = (keptI S k).length + 1:=by rw [keptI_succ,if_pos e,List.length_append]; rfl
   exact ma _ _ _ _ _ (by (repeat (assumption))) (by rw [hks]; exact ho5) ((hkr.mono hz3).push g1 ⟨_,rfl,hv3⟩ rfl e) hS7
  ·have hks:=KeptR.stay (E:=(El.sl El.part)) (z:=z1) (xs:=c.tmpls) (us:=us) e
   exact ma _ _ _ _ _ (by (repeat (exact Le.refl _))) (by rw [hks]; exact ho) (by rw [hks]; exact hkr) (by assumption)
 ·have hk2:k = c.tmpls.length:=by omega
  subst hk2
  have hkl:=@keptI_len S c.tmpls.length
  obtain ⟨z2,hz2,hS2,hv2⟩:=freezeKept (E:=(El.sl El.part)) rfl (hS1.bring Bl) ho hkr (by simp only [big]; omega)
  have hzz:=hz1.trans hz2
  have ht:(trimOk c).tmpls = pickK c.tmpls (keptI S c.tmpls.length):=by rw [<- hSS]; rfl
  rw [<- ht] at hv2
  exact refTe (hz.mono hzz) (hu.mono hzz) hck hS2.self (fun z' w' L' r kk hd=>hR _ _ _ _ (hS2.comp kk) hd) (g0.mono hzz) hv2
theorem refTc {R:Value->World->Prop} {z:Z} {w:World} {c:CodeM} {bc b2 bt bu:Nat} {rv av:Value} (hz:RefZ z c bc bt rv av) (hu:RefU z c bu) (hck:(checkM c).1 = 0)
  (hS:Res w z [res8 b2] w z [res8 b2])
  (hR:∀ z' w' L' r,Res w z [res8 b2] w' z' L'->RefTrimR z' r c->R r w') :
  vcRc R w (.pointer (some ⟨bc,0,none⟩)) (.pointer (some ⟨b2,0,none⟩)) (.pointer (some ⟨bu,0,none⟩)) (.pointer (some ⟨bt,0,none⟩)) rv av:=by
 have hok:=ok_of hck
 have hbd:=limits_bd hok.lim
 have hli:=hok.lim
 unfold vcRc
 have hz':=hz
 have hu':=hu
 obtain ⟨a1,a2,a3,a4,a5,a6,k1,k2,k3,k4,k5,k6,q1,q2,q3,hatc,hcr,hatt,hq1,hq2,hq3,hrv,hav⟩:=hz'.h
 obtain ⟨a1',a2',a3',a4',a5',a6',k1',k2',k3',k4',k5',k6',he,h1,h2,h3,h4,h5,h6⟩:=hcr.form
 simp only [codeVs,Value.agg.injEq,List.toArray_inj,List.cons.injEq,Value.slice.injEq,and_true,true_and] at he
 obtain ⟨⟨rfl,rfl⟩,⟨rfl,rfl⟩,⟨rfl,rfl⟩,⟨rfl,rfl⟩,⟨rfl,rfl⟩,⟨rfl,rfl⟩⟩:=he
 obtain ⟨s1,s2,s3,hatu,hu1,hu2,hu3⟩:=hu'.h
 obtain ⟨_,f1,e1,rfl,_,_⟩:=hu1.form
 haveI:Fz z bc 0 [.slice a1 c.consts.length k1]:=⟨hatc.fld (i:=0) rfl rfl⟩
 haveI:Fz z bu 1 [.slice f1 (usL c 1).length e1]:=⟨hatu.fld (i:=1) rfl rfl⟩
 haveI:MulI 3 1 3:=⟨rfl,by decide⟩
 haveI:InR 3 (4:Nat):=⟨by decide,by decide⟩
 generalize hLL:[res8 b2] = LL at hR
 have hS00:Res w z LL w z [res8 b2]:=by rw [<- hLL]; exact hS
 clear hS hLL
 refine iV_al ?_
 intro b14 w0 hb14 hS0
 clear hS00
 generalize hSS:(usesM c).s1 = S
 refine LoopG1 (fun (k:Nat) y w'=>y = .int .i64 k/\k <= c.consts.length/\∃ vl Bl us z',Le z z'/\OwnSl 9 1 Bl vl (keptI S k).length us/\KeptR El.str z' c.consts (keptI S k) us/\Res w z LL w' z' ((b14,.cells [vl,nilS,nilS,nilS,nilS,nilS].toArray 28 (0,0)) :: res8 b2 :: Bl)) (fun k=>c.consts.length - k) 0 ⟨rfl,Nat.zero_le _,nilS,[],[],z,Le.refl _,OwnSl.nil,⟨rfl,by simp,fun j i hi=>by simp [keptI] at hi⟩,hS0⟩ ?_
 rintro I M k y w1 m ⟨rfl,hk,vl,Bl,us,z1,hz1,ho,hkr,hS1⟩ back
 obtain ⟨avl,cvl,rfl,_⟩:=ho.form
 clear hS0
 obtain ⟨_,ai,ki,he,_,hel⟩:=h1.form
 cases he
 (repeat (first | refine V_run ?_ | refine fV_ld1 ?_))
 refine Cond_d (fun h=>?_) (fun h=>?_)
 ·have hlt:k < c.consts.length:=by omega
  haveI:InR (k:Int) (c.consts.length:Nat):=⟨by omega,by omega⟩
  haveI:InI ((k:Int) + 1):=⟨by omega⟩
  have hcn:cntM c 1 = c.consts.length:=rfl
  haveI:InR (k:Int) ((usL c 1).length:Nat):=⟨by omega,by rw [usL_len]; omega⟩
  obtain ⟨bb,ob,xb,Ab⟩:=bool_at' hu1 (k:=k) (by rw [usL_len]; omega)
  cases xb
  have hmm:(usL c 1).getD k false = memK S k:=by rw [usL_get (by omega),usF_mem hok (.inl rfl) (by omega),<- hSS]; rfl
  rw [hmm] at Ab
  haveI:Fz z bb (ob + (k:Int).toNat * 1) [.bool (memK S k)]:=⟨Ab⟩
  have g1:c.consts[k]? = some c.consts[k]:=List.getElem?_eq_getElem hlt
  generalize c.consts[k] = p at *
  obtain ⟨b,off,cs,rfl,hr,hat⟩:=hel _ _ g1
  have hkl:=@keptI_len S k
  intro Ka hKa
  have ma:∀ w' z' vl' Bl' us',Le z1 z'->OwnSl 9 1 Bl' vl' (keptI S (k + 1)).length us'->KeptR El.str z' c.consts (keptI S (k + 1)) us'->Res w z LL w' z' ((b14,.cells [vl',nilS,nilS,nilS,nilS,nilS].toArray 28 (0,0)) :: res8 b2 :: Bl')->Ka [] w':=by
   intro w' z' vl' Bl' us' hz' ho' hkr' hS'
   refine hKa _ fun _=>?_
   refine V_run ?_
   exact back (k + 1) _ _ ⟨by simp,by omega,_,_,_,z',hz1.trans hz',ho',hkr',hS'⟩ (by omega)
  clear hKa back
  obtain ⟨rfl,hsz⟩:=hr
  haveI:Fz z b (off + (k:Int).toNat * 1) [.string p]:=⟨hat⟩
  (repeat (first | refine V_run ?_ | refine fV_ld1 ?_))
  refine Cond_b (fun e=>?_) (fun e=>?_)
  ·(repeat (first | (refine iDr ?_; intro _ _) | refine PV_run ?_ | refine iHV_1 ?_ | refine fHV_ld1 ?_))
   refine V_bs (parts:=[(0,_)]) rfl (by omega) ?_
   intro bl w3 hbl hS3
   have hatl2:At (hp w3) bl 0 [.string p]:=⟨_,_,_,(hS3.mem _ List.mem_cons_self).1,fun j u hu=>by simpa using hu⟩
   (repeat (first | refine iRI_1 ?_ | refine fRI_1 ?_))
   refine V_app (B:=Bl) (m:=1) (hS3.bring Bl) ho hatl2 rfl (fun u hu=>by simp only [List.mem_cons,List.not_mem_nil,or_false] at hu; subst hu; rfl) (by omega) (by simp only [room]; omega) (by simp only [room]; omega) ?_
   intro B5 v5 w5 ho5 hS5
   obtain ⟨a5',c5',rfl,_⟩:=ho5.form
   clear hS3
   (repeat (first | refine PV_run ?_ | (refine iU_st ?_; intro _ _) | refine fRI_1 ?_))
   rename_i hS6
   have hS7:=hS6.keep [.at b14,.at b2,.bl B5]
   rw [List.append_nil] at hS7
   have hks:(keptI S (k + 1)).length = (keptI S k).length + 1:=by rw [keptI_succ,if_pos e,List.length_append]; rfl
   exact ma _ _ _ _ _ (by (repeat (exact Le.refl _))) (by rw [hks]; exact ho5) (hkr.push g1 ⟨rfl,hsz⟩ rfl e) hS7
  ·have hks:=KeptR.stay (E:=El.str) (z:=z1) (xs:=c.consts) (us:=us) e
   exact ma _ _ _ _ _ (by (repeat (exact Le.refl _))) (by rw [hks]; exact ho) (by rw [hks]; exact hkr) (by assumption)
 ·have hk2:k = c.consts.length:=by omega
  subst hk2
  have hkl:=@keptI_len S c.consts.length
  obtain ⟨z2,hz2,hS2,hv2⟩:=freezeKept (E:=El.str) rfl (hS1.bring Bl) ho hkr (by simp only [big]; omega)
  have hzz:=hz1.trans hz2
  have ht:(trimOk c).consts = pickK c.consts (keptI S c.consts.length):=by rw [<- hSS]; rfl
  rw [<- ht] at hv2
  exact refTd (hz.mono hzz) (hu.mono hzz) hck hS2.self (fun z' w' L' r kk hd=>hR _ _ _ _ (hS2.comp kk) hd)  hv2
end
section
open Go Q Go.RowKit
theorem posL_at {c:CodeM} (h:(reachM c).length = c.ins.length):posL (reachM c) = atM c:=by
 unfold posL atM
 rw [h]; rfl
theorem refTb {R:Value->World->Prop} {z:Z} {w:World} {c:CodeM} {bc b2 bu:Nat} {rv:Value} {a1 a2 a3 a4 a5 a6:Option Addr} {k1 k2 k3 k4 k5 k6:Nat} (hatc:At z bc 0 (codeVs a1 a2 a3 a4 a5 a6 k1 k2 k3 k4 k5 k6 c)) (hcr:CodeR z (.agg (codeVs a1 a2 a3 a4 a5 a6 k1 k2 k3 k4 k5 k6 c).toArray) c) (hrv:SlR El.bool z rv (reachM c)) (hu:RefU z c bu) (hck:(checkM c).1 = 0)
  (hS:Res w z [res8 b2] w z [res8 b2]) (hR:∀ z' w' L' r,Res w z [res8 b2] w' z' L'->RefTrimR z' r c->R r w') :
  vcRb R w (.pointer (some ⟨bc,0,none⟩)) (.pointer (some ⟨b2,0,none⟩)) (.pointer (some ⟨bu,0,none⟩)) rv:=by
 have hok:=ok_of hck
 have hbd:=limits_bd hok.lim
 have hrl:=(reach_spec hok.nb).1
 unfold vcRb
 have hu':=hu
 obtain ⟨s1,s2,s3,hatu,hu1,hu2,hu3⟩:=hu'.h
 haveI:Fz z bu 1 [s1]:=⟨hatu.fld (i:=1) rfl rfl⟩
 haveI:Fz z bu 2 [s2]:=⟨hatu.fld (i:=2) rfl rfl⟩
 haveI:Fz z bu 3 [s3]:=⟨hatu.fld (i:=3) rfl rfl⟩
 haveI:MulI 3 1 3:=⟨rfl,by decide⟩
 haveI:InR 3 (4:Nat):=⟨by decide,by decide⟩
 generalize hLL:[res8 b2] = LL at hR
 have hS0:Res w z LL w z [res8 b2]:=by rw [<- hLL]; exact hS
 clear hS hLL
 have hl:∀ q,(usL c q).length <= 100000:=fun q=>by rw [usL_len]; unfold cntM; (repeat' split) <;> omega
 refine CV_1 (kept_of hrv (by omega)) ?_
 rintro z1 w1 v1 hz1 hS1 ⟨av,n,rfl,hav⟩
 clear hS0
 rw [posL_at hrl] at hav
 refine V_run ?_
 refine V_run ?_
 refine iV_al ?_
 intro b12 w2 hb12 hS2
 clear hS1
 refine LoopG1 (fun (j:Int) y w'=>y = .int .i64 j/\1 <= j/\j <= 4/\∃ v1 v2 v3 z',Le z1 z'/\(1 < j->SlR El.int z' v1 (posL (usL c 1)))/\(2 < j->SlR El.int z' v2 (posL (usL c 2)))/\(3 < j->SlR El.int z' v3 (posL (usL c 3)))/\Res w z LL w' z' [(b12,.cells [nilS,v1,v2,v3].toArray 149 (0,0)),res8 b2]) (fun j=>(4 - j).toNat) 1 ⟨rfl,by decide,by decide,nilS,nilS,nilS,z1,Le.refl _,fun h=>absurd h (by decide),fun h=>absurd h (by decide),fun h=>absurd h (by decide),hS2⟩ ?_
 rintro I M j y w3 m ⟨rfl,hj1,hj4,v1,v2,v3,z3,hz3,p1,p2,p3,hS3⟩ back
 clear hS2
 have hjj:j = 1 \/ j = 2 \/ j = 3 \/ j = 4:=by omega
 rcases hjj with rfl | rfl | rfl | rfl
 ·refine V_run ?_
  refine Cond_is rfl ?_
  (repeat (first | refine V_run ?_ | refine fV_ld1 ?_))
  refine CV_1 (kept_of (hu1.mono (by (repeat (exact Res.zle (by assumption))))) (hl _)) ?_
  rintro z4 w4 v4 hz4 hS4 ⟨vn,n,rfl,hvn⟩
  obtain ⟨_,an,cn,rfl,_,_⟩:=hvn.form
  clear hS3
  (repeat (first | refine V_run ?_ | (refine iU_st ?_; intro _ _)))
  exact back 2 _ _ ⟨rfl,by decide,by decide,_,v2,v3,z4,hz3.trans hz4,fun _=>hvn,fun h=>absurd h (by decide),fun h=>absurd h (by decide),by assumption⟩ (by decide)
 ·refine V_run ?_
  refine Cond_is rfl ?_
  (repeat (first | refine V_run ?_ | refine fV_ld1 ?_))
  refine CV_1 (kept_of (hu2.mono (by (repeat (exact Res.zle (by assumption))))) (hl _)) ?_
  rintro z4 w4 v4 hz4 hS4 ⟨vn,n,rfl,hvn⟩
  obtain ⟨_,an,cn,rfl,_,_⟩:=hvn.form
  clear hS3
  (repeat (first | refine V_run ?_ | (refine iU_st ?_; intro _ _)))
  exact back 3 _ _ ⟨rfl,by decide,by decide,v1,_,v3,z4,hz3.trans hz4,fun _=>(p1 (by decide)).mono hz4,fun _=>hvn,fun h=>absurd h (by decide),by assumption⟩ (by decide)
 ·refine V_run ?_
  refine Cond_is rfl ?_
  (repeat (first | refine V_run ?_ | refine fV_ld1 ?_))
  refine CV_1 (kept_of (hu3.mono (by (repeat (exact Res.zle (by assumption))))) (hl _)) ?_
  rintro z4 w4 v4 hz4 hS4 ⟨vn,n,rfl,hvn⟩
  obtain ⟨_,an,cn,rfl,_,_⟩:=hvn.form
  clear hS3
  (repeat (first | refine V_run ?_ | (refine iU_st ?_; intro _ _)))
  exact back 4 _ _ ⟨rfl,by decide,by decide,v1,v2,_,z4,hz3.trans hz4,fun _=>(p1 (by decide)).mono hz4,fun _=>(p2 (by decide)).mono hz4,fun _=>hvn,by assumption⟩ (by decide)
 ·refine V_run ?_
  refine Cond_not rfl ?_
  clear back
  obtain ⟨z5,hz5,hS5,hat5⟩:=hS3.frz b12
  have h15:Le z1 z5:=hz3.trans hz5
  have hzz:Le z z5:=hz1.trans h15
  exact refTc ⟨_,_,_,_,_,_,_,_,_,_,_,_,_,_,_,hatc.mono hzz,hcr.mono hzz,hat5,(p1 (by decide)).mono hz5,(p2 (by decide)).mono hz5,(p3 (by decide)).mono hz5,hrv.mono hzz,hav.mono h15⟩ (hu.mono hzz) hck hS5.self (fun z' w' L' r kk hd=>hR _ _ _ _ (hS5.comp kk) hd)
def bV (f:Int->Bool) (n:Nat):List Value:=(List.range n).map fun i:Nat=>Value.bool (f i)
theorem bV_len {f:Int->Bool} {n:Nat}:(bV f n).length = n:=by simp [bV]
abbrev mkB (m:Nat) (c:CodeM) (q:Int) (g:Int->Int->Bool):Nat × Obj:=(m,.cells (bV (g q) (cntM c q)).toArray 4 (0,0))
theorem bV_other {g:Int->Int->Bool} {q q' n:Int} {N:Nat} (h:q' ≠ q):bV (markF g q n q') N = bV (g q') N:=by
 unfold bV
 congr 1
 funext i
 simp [markF,h]
theorem bV_mark {g:Int->Int->Bool} {q n:Int} {N:Nat} (h0:0 <= n) (h1:n < N):SetN (bV (g q) N) (n.toNat * 1) [.bool true] (bV (markF g q n q) N):=by
 have e:bV (markF g q n q) N = (bV (g q) N).set n.toNat (.bool true):=by
  apply List.ext_getElem?
  intro i
  unfold bV
  rw [List.getElem?_set]
  simp only [List.getElem?_map,List.length_map,List.length_range]
  by_cases hi:i < N
  ·rw [List.getElem?_range hi]
   simp only [Option.map_some]
   by_cases he:n.toNat = i
   ·rw [if_pos he,if_pos (by omega)]
    have:((i:Nat):Int) = n:=by omega
    simp [markF,this]
   ·rw [if_neg he]
    have:¬ ((i:Nat):Int) = n:=by omega
    simp [markF,this]
  ·rw [List.getElem?_eq_none (by simp; omega)]
   rw [if_neg (by omega)]; rfl
 rw [e,Nat.mul_one]
 exact SetN.at_ (by rw [bV_len]; omega)
theorem freezeMark {w0 w:World} {z0 z:Z} {B0 L:Bl} {c:CodeM} {m:Nat} {q:Int} (hb:cntM c q <= 3000) (hS:Res w0 z0 B0 w z (mkB m c q (usF c c.ins.length) :: L)):∃ z',Le z z'/\Res w0 z0 B0 w z' L/\SlR El.bool z' (.slice (some ⟨m,0,none⟩) (cntM c q) (cntM c q)) (usL c q):=by
 have hf:(usL c q).flatMap (fun b=>[Value.bool b]) = bV (usF c c.ins.length q) (cntM c q):=by
  unfold usL bV
  generalize List.range (cntM c q) = l
  induction l with
  | nil=>rfl
  | cons a l ih=>simp only [List.map_cons,List.flatMap_cons,ih]; rfl
 have h:=Res.freezeSl (E:=El.bool) (e:=4) (v:=.slice (some ⟨m,0,none⟩) (cntM c q) (cntM c q)) (xs:=usL c q) (f:=fun b=>[Value.bool b]) (B:=[mkB m c q (usF c c.ins.length)]) hS ⟨by rw [hf,bV_len,usL_len]; exact (Nat.mul_one _).symm,.inr ⟨m,cntM c q,[],by rw [List.append_nil,hf],by rw [usL_len],by rw [usL_len]; exact Nat.le_refl _,by simp only [maxLen]; omega,by rw [List.append_nil,hf,bV_len]; exact (Nat.mul_one _).symm⟩⟩ (by rw [usL_len]; simp only [big]; omega) (fun _=>rfl) (fun _ _ _=>rfl)
 exact h
theorem refTa {R:Value->World->Prop} {z:Z} {w:World} {c:CodeM} {bc b2 bu m1 m2 m3:Nat} {rv:Value} {a1 a2 a3 a4 a5 a6:Option Addr} {k1 k2 k3 k4 k5 k6:Nat} (hatc:At z bc 0 (codeVs a1 a2 a3 a4 a5 a6 k1 k2 k3 k4 k5 k6 c)) (hcr:CodeR z (.agg (codeVs a1 a2 a3 a4 a5 a6 k1 k2 k3 k4 k5 k6 c).toArray) c) (hrv:SlR El.bool z rv (reachM c)) (hck:(checkM c).1 = 0)
  (hatu:At z bu 0 [nilS,.slice (some ⟨m1,0,none⟩) (cntM c 1) (cntM c 1),.slice (some ⟨m2,0,none⟩) (cntM c 2) (cntM c 2),.slice (some ⟨m3,0,none⟩) (cntM c 3) (cntM c 3)])
  (hS:Res w z [mkB m1 c 1 (usF c 0),mkB m2 c 2 (usF c 0),mkB m3 c 3 (usF c 0),res8 b2] w z [mkB m1 c 1 (usF c 0),mkB m2 c 2 (usF c 0),mkB m3 c 3 (usF c 0),res8 b2]) (hR:∀ z' w' L' r,Res w z [mkB m1 c 1 (usF c 0),mkB m2 c 2 (usF c 0),mkB m3 c 3 (usF c 0),res8 b2] w' z' L'->RefTrimR z' r c->R r w') :
  vcRa R w (.pointer (some ⟨bc,0,none⟩)) (.pointer (some ⟨b2,0,none⟩)) (.pointer (some ⟨bu,0,none⟩)) rv:=by
 have hok:=ok_of hck
 have hbd:=limits_bd hok.lim
 have hrl:=(reach_spec hok.nb).1
 unfold vcRa
 obtain ⟨a1',a2',a3',a4',a5',a6',k1',k2',k3',k4',k5',k6',he,h1,h2,h3,h4,h5,h6⟩:=hcr.form
 simp only [codeVs,Value.agg.injEq,List.toArray_inj,List.cons.injEq,Value.slice.injEq,and_true,true_and] at he
 obtain ⟨⟨rfl,rfl⟩,⟨rfl,rfl⟩,⟨rfl,rfl⟩,⟨rfl,rfl⟩,⟨rfl,rfl⟩,⟨rfl,rfl⟩⟩:=he
 obtain ⟨_,fr,er,rfl,_,_⟩:=hrv.form
 haveI:Fz z bc 5 [.slice a6 c.ins.length k6]:=⟨hatc.fld (i:=5) rfl rfl⟩
 haveI:Fz z bu 1 [.slice (some ⟨m1,0,none⟩) (cntM c 1) (cntM c 1)]:=⟨hatu.fld (i:=1) rfl rfl⟩
 haveI:Fz z bu 2 [.slice (some ⟨m2,0,none⟩) (cntM c 2) (cntM c 2)]:=⟨hatu.fld (i:=2) rfl rfl⟩
 haveI:Fz z bu 3 [.slice (some ⟨m3,0,none⟩) (cntM c 3) (cntM c 3)]:=⟨hatu.fld (i:=3) rfl rfl⟩
 haveI:MulI 3 1 3:=⟨rfl,by decide⟩
 haveI:InR 3 (4:Nat):=⟨by decide,by decide⟩
 have hc1:cntM c 1 <= 3000:=by show c.consts.length <= 3000; omega
 have hc2:cntM c 2 <= 3000:=by show c.tmpls.length <= 3000; omega
 have hc3:cntM c 3 <= 3000:=by show c.lists.length <= 3000; omega
 generalize hLL:[mkB m1 c 1 (usF c 0),mkB m2 c 2 (usF c 0),mkB m3 c 3 (usF c 0),res8 b2] = LL at hR
 have hS0:Res w z LL w z [mkB m1 c 1 (usF c 0),mkB m2 c 2 (usF c 0),mkB m3 c 3 (usF c 0),res8 b2]:=by rw [<- hLL]; exact hS
 clear hS hLL
 refine LoopG1 (fun (k:Nat) y w'=>y = .int .i64 k/\k <= c.ins.length/\∃ z',Le z z'/\Res w z LL w' z' [mkB m1 c 1 (usF c k),mkB m2 c 2 (usF c k),mkB m3 c 3 (usF c k),res8 b2]) (fun k=>c.ins.length - k) 0 ⟨rfl,Nat.zero_le _,z,Le.refl _,hS0⟩ ?_
 rintro I M k y w3 m ⟨rfl,hk,z3,hz3,hS3⟩ back
 clear hS0
 (repeat (first | refine V_run ?_ | refine fV_ld1 ?_))
 refine Cond_d (fun h=>?_) (fun h=>?_)
 ·have hlt:k < c.ins.length:=by omega
  haveI:InR (k:Int) (c.ins.length:Nat):=⟨by omega,by omega⟩
  haveI:InR (k:Int) ((reachM c).length:Nat):=⟨by omega,by omega⟩
  haveI:InI ((k:Int) + 1):=⟨by omega⟩
  obtain ⟨b6,o6,x6,A6⟩:=ins_at h6 (k:=k) hlt
  cases x6
  obtain ⟨b7',o7',x7,A7⟩:=bool_at' hrv (k:=k) (by omega)
  cases x7
  haveI:Fz z b7' (o7' + (k:Int).toNat * 1) [.bool (rcAt c k)]:=⟨A7⟩
  haveI:Fz z b6 (o6 + (k:Int).toNat * 4) (insAt c k).cells:=⟨A6⟩
  have hin0:0 < nm0 (insAt c k)->0 <= (insAt c k).a/\(insAt c k).a < cntM c (nm0 (insAt c k)):=nm_in (hok.rat hlt) (k:=0) (by omega)
  have hin1:0 < nm1 (insAt c k)->0 <= (insAt c k).b/\(insAt c k).b < cntM c (nm1 (insAt c k)):=nm_in (hok.rat hlt) (k:=1) (by omega)
  have hin2:0 < nm2 (insAt c k)->0 <= (insAt c k).c/\(insAt c k).c < cntM c (nm2 (insAt c k)):=nm_in (hok.rat hlt) (k:=2) (by omega)
  have hus:=usF_succ (c:=c) (k:=k)
  generalize insAt c k = i at *
  have hexit:∀ w' z' G,Le z3 z'->G = usF c (k + 1)->Res w z LL w' z' [mkB m1 c 1 (G),mkB m2 c 2 (G),mkB m3 c 3 (G),res8 b2]->V (bi .add 3 (.int .i64 k) (.int .i64 1)) w' fun t53 w=>I [t53] w/\M [t53] w < m:=by
   rintro w' z' G hz' rfl hS'
   refine V_run ?_
   exact back (k + 1) _ _ ⟨by simp,by omega,z',hz3.trans hz',hS'⟩ (by omega)
  clear back
  generalize usF c k = F at *
  generalize hX:rcAt c k = X at *
  (repeat (first | refine V_run ?_ | (refine CV_pu ?_; intro _ _ _ _) | refine fV_ldN ?_ | refine fV_ld1 ?_))
  refine iV_al ?_
  intro b7 w5 hb7 hS5
  refine iU_st ?_
  intro w6 hS6
  (repeat (first | refine V_run ?_ | (refine CV_pu ?_; intro _ _ _ _) | refine fV_ldN ?_ | refine fV_ld1 ?_))
  refine iV_al ?_
  intro b8 w7 hb8 hS7
  refine iU_st ?_
  intro w8 hS8
  obtain ⟨z9,hz9,hS9⟩:∃ z',Le z3 z'/\Res w z LL w8 z' [(b8,.cells [.int .i64 i.a,.int .i64 i.b,.int .i64 i.c].toArray 100 (0,0)),(b7,.cells [.int .i64 (nm0 i),.int .i64 (nm1 i),.int .i64 (nm2 i)].toArray 100 (0,0)),mkB m1 c 1 (mkF F i 0),mkB m2 c 2 (mkF F i 0),mkB m3 c 3 (mkF F i 0),res8 b2]:=by
   refine ⟨_,?_,hS8⟩
   (repeat (first | assumption | refine Le.trans ?_ (by assumption:Le _ _)))
  clear hS3 hS5 hS6 hS7 hS8
  refine LoopG1 (fun (j:Int) y w'=>y = .int .i64 j/\0 <= j/\j <= 3/\(X = false->j = 0)/\∃ z',Le z9 z'/\Res w z LL w' z' [(b8,.cells [.int .i64 i.a,.int .i64 i.b,.int .i64 i.c].toArray 100 (0,0)),(b7,.cells [.int .i64 (nm0 i),.int .i64 (nm1 i),.int .i64 (nm2 i)].toArray 100 (0,0)),mkB m1 c 1 (mkF F i j.toNat),mkB m2 c 2 (mkF F i j.toNat),mkB m3 c 3 (mkF F i j.toNat),res8 b2]) (fun j=>(3 - j).toNat) 0 ⟨rfl,by decide,by decide,fun _=>rfl,z9,Le.refl _,hS9⟩ ?_
  rintro I2 M2 j y w10 m' ⟨rfl,hj0,hj3,hXj,z10,hz10,hS10⟩ back
  clear hS9
  have hjj:j = 0 \/ j = 1 \/ j = 2 \/ j = 3:=by omega
  rcases hjj with rfl | rfl | rfl | rfl
  ·refine V_run ?_
   intro Kx hKx
   refine Cond_is rfl ?_
   (repeat (first | refine V_run ?_ | refine fV_ld1 ?_))
   refine hKx _ _ fun _=>?_
   clear hKx
   cases X with
   | false=>
    refine Cond_not rfl ?_
    rw [if_neg (by simp)] at hus
    exact hexit _ _ _ (by (repeat (first | assumption | refine Le.trans ?_ (by assumption:Le _ _)))) (by rw [hus]; rfl) (hS10.keep [.at m1,.at m2,.at m3,.at b2])
   | true=>
    refine Cond_is rfl ?_
    intro Kb hKb
    have mb:∀ w' z',Le z10 z'->Res w z LL w' z' [(b8,.cells [.int .i64 i.a,.int .i64 i.b,.int .i64 i.c].toArray 100 (0,0)),(b7,.cells [.int .i64 (nm0 i),.int .i64 (nm1 i),.int .i64 (nm2 i)].toArray 100 (0,0)),mkB m1 c 1 (mkF F i 1),mkB m2 c 2 (mkF F i 1),mkB m3 c 3 (mkF F i 1),res8 b2]->Kb [] w':=by
     intro w' z' hz' hS'
     refine hKb _ fun _=>?_
     refine V_run ?_
     exact back 1 _ _ ⟨rfl,by decide,by decide,fun h=>(by cases h),z',hz10.trans hz',hS'⟩ (by decide)
    clear hKb back hexit
    rw [show mkF F i 1 = markF (mkF F i 0) (nm0 i) i.a from mkF_succ] at mb
    have hq:nm0 i = 0 \/ nm0 i = 1 \/ nm0 i = 2 \/ nm0 i = 3:=nm_or i 0
    rw [show (0:Int).toNat = 0 from rfl] at hS10
    haveI:AddN 0 (Int.toNat 0 * 1) 0:=⟨rfl⟩
    generalize mkF F i 0 = G at *
    generalize nm0 i = n at *
    rcases hq with rfl | rfl | rfl | rfl
    ·dsimp only [mkB] at mb
     rw [show bV (markF G 0 i.a 1) (cntM c 1) = bV (G 1) (cntM c 1) from bV_other (by decide),show bV (markF G 0 i.a 2) (cntM c 2) = bV (G 2) (cntM c 2) from bV_other (by decide),show bV (markF G 0 i.a 3) (cntM c 3) = bV (G 3) (cntM c 3) from bV_other (by decide)] at mb
     (repeat (first | refine V_run ?_ | refine iV_ld1 ?_ | refine Cond_f ?_))
     exact mb _ _ (by (repeat (exact Le.refl _))) (by assumption)
    ·have hin:=hin0 (by decide)
     haveI:InR i.a (cntM c 1:Nat):=⟨by omega,by omega⟩
     haveI:=bV_mark (g:=G) (q:=1) hin.1 hin.2
     dsimp only [mkB] at mb
     rw [show bV (markF G 1 i.a 2) (cntM c 2) = bV (G 2) (cntM c 2) from bV_other (by decide),show bV (markF G 1 i.a 3) (cntM c 3) = bV (G 3) (cntM c 3) from bV_other (by decide)] at mb
     (repeat (first | (refine iDr ?_; intro _ _) | refine V_run ?_ | refine PV_run ?_ | refine iV_ld1 ?_ | (refine iU_st ?_; intro _ _) | refine iHV_1 ?_ | refine Cond_t ?_ | refine fHV_ld1 ?_))
     exact mb _ _ (by (repeat (exact Le.refl _))) (by assumption)
    ·have hin:=hin0 (by decide)
     haveI:InR i.a (cntM c 2:Nat):=⟨by omega,by omega⟩
     haveI:=bV_mark (g:=G) (q:=2) hin.1 hin.2
     dsimp only [mkB] at mb
     rw [show bV (markF G 2 i.a 1) (cntM c 1) = bV (G 1) (cntM c 1) from bV_other (by decide),show bV (markF G 2 i.a 3) (cntM c 3) = bV (G 3) (cntM c 3) from bV_other (by decide)] at mb
     (repeat (first | (refine iDr ?_; intro _ _) | refine V_run ?_ | refine PV_run ?_ | refine iV_ld1 ?_ | (refine iU_st ?_; intro _ _) | refine iHV_1 ?_ | refine Cond_t ?_ | refine fHV_ld1 ?_))
     exact mb _ _ (by (repeat (exact Le.refl _))) (by assumption)
    ·have hin:=hin0 (by decide)
     haveI:InR i.a (cntM c 3:Nat):=⟨by omega,by omega⟩
     haveI:=bV_mark (g:=G) (q:=3) hin.1 hin.2
     dsimp only [mkB] at mb
     rw [show bV (markF G 3 i.a 1) (cntM c 1) = bV (G 1) (cntM c 1) from bV_other (by decide),show bV (markF G 3 i.a 2) (cntM c 2) = bV (G 2) (cntM c 2) from bV_other (by decide)] at mb
     (repeat (first | (refine iDr ?_; intro _ _) | refine V_run ?_ | refine PV_run ?_ | refine iV_ld1 ?_ | (refine iU_st ?_; intro _ _) | refine iHV_1 ?_ | refine Cond_t ?_ | refine fHV_ld1 ?_))
     exact mb _ _ (by (repeat (exact Le.refl _))) (by assumption)
  ·refine V_run ?_
   intro Kx hKx
   refine Cond_is rfl ?_
   (repeat (first | refine V_run ?_ | refine fV_ld1 ?_))
   refine hKx _ _ fun _=>?_
   clear hKx
   cases X with
   | false=>
    refine Cond_not rfl ?_
    rw [if_neg (by simp)] at hus
    exact hexit _ _ _ (by (repeat (first | assumption | refine Le.trans ?_ (by assumption:Le _ _)))) (by have:=hXj rfl; omega) (hS10.keep [.at m1,.at m2,.at m3,.at b2])
   | true=>
    refine Cond_is rfl ?_
    intro Kb hKb
    have mb:∀ w' z',Le z10 z'->Res w z LL w' z' [(b8,.cells [.int .i64 i.a,.int .i64 i.b,.int .i64 i.c].toArray 100 (0,0)),(b7,.cells [.int .i64 (nm0 i),.int .i64 (nm1 i),.int .i64 (nm2 i)].toArray 100 (0,0)),mkB m1 c 1 (mkF F i 2),mkB m2 c 2 (mkF F i 2),mkB m3 c 3 (mkF F i 2),res8 b2]->Kb [] w':=by
     intro w' z' hz' hS'
     refine hKb _ fun _=>?_
     refine V_run ?_
     exact back 2 _ _ ⟨rfl,by decide,by decide,fun h=>(by cases h),z',hz10.trans hz',hS'⟩ (by decide)
    clear hKb back hexit
    rw [show mkF F i 2 = markF (mkF F i 1) (nm1 i) i.b from mkF_succ] at mb
    have hq:nm1 i = 0 \/ nm1 i = 1 \/ nm1 i = 2 \/ nm1 i = 3:=nm_or i 1
    rw [show (1:Int).toNat = 1 from rfl] at hS10
    haveI:AddN 0 (Int.toNat 0 * 1) 0:=⟨rfl⟩
    generalize mkF F i 1 = G at *
    generalize nm1 i = n at *
    rcases hq with rfl | rfl | rfl | rfl
    ·dsimp only [mkB] at mb
     rw [show bV (markF G 0 i.b 1) (cntM c 1) = bV (G 1) (cntM c 1) from bV_other (by decide),show bV (markF G 0 i.b 2) (cntM c 2) = bV (G 2) (cntM c 2) from bV_other (by decide),show bV (markF G 0 i.b 3) (cntM c 3) = bV (G 3) (cntM c 3) from bV_other (by decide)] at mb
     (repeat (first | refine V_run ?_ | refine iV_ld1 ?_ | refine Cond_f ?_))
     exact mb _ _ (by (repeat (exact Le.refl _))) (by assumption)
    ·have hin:=hin1 (by decide)
     haveI:InR i.b (cntM c 1:Nat):=⟨by omega,by omega⟩
     haveI:=bV_mark (g:=G) (q:=1) hin.1 hin.2
     dsimp only [mkB] at mb
     rw [show bV (markF G 1 i.b 2) (cntM c 2) = bV (G 2) (cntM c 2) from bV_other (by decide),show bV (markF G 1 i.b 3) (cntM c 3) = bV (G 3) (cntM c 3) from bV_other (by decide)] at mb
     (repeat (first | (refine iDr ?_; intro _ _) | refine V_run ?_ | refine PV_run ?_ | refine iV_ld1 ?_ | (refine iU_st ?_; intro _ _) | refine iHV_1 ?_ | refine Cond_t ?_ | refine fHV_ld1 ?_))
     exact mb _ _ (by (repeat (exact Le.refl _))) (by assumption)
    ·have hin:=hin1 (by decide)
     haveI:InR i.b (cntM c 2:Nat):=⟨by omega,by omega⟩
     haveI:=bV_mark (g:=G) (q:=2) hin.1 hin.2
     dsimp only [mkB] at mb
     rw [show bV (markF G 2 i.b 1) (cntM c 1) = bV (G 1) (cntM c 1) from bV_other (by decide),show bV (markF G 2 i.b 3) (cntM c 3) = bV (G 3) (cntM c 3) from bV_other (by decide)] at mb
     (repeat (first | (refine iDr ?_; intro _ _) | refine V_run ?_ | refine PV_run ?_ | refine iV_ld1 ?_ | (refine iU_st ?_; intro _ _) | refine iHV_1 ?_ | refine Cond_t ?_ | refine fHV_ld1 ?_))
     exact mb _ _ (by (repeat (exact Le.refl _))) (by assumption)
    ·have hin:=hin1 (by decide)
     haveI:InR i.b (cntM c 3:Nat):=⟨by omega,by omega⟩
     haveI:=bV_mark (g:=G) (q:=3) hin.1 hin.2
     dsimp only [mkB] at mb
     rw [show bV (markF G 3 i.b 1) (cntM c 1) = bV (G 1) (cntM c 1) from bV_other (by decide),show bV (markF G 3 i.b 2) (cntM c 2) = bV (G 2) (cntM c 2) from bV_other (by decide)] at mb
     (repeat (first | (refine iDr ?_; intro _ _) | refine V_run ?_ | refine PV_run ?_ | refine iV_ld1 ?_ | (refine iU_st ?_; intro _ _) | refine iHV_1 ?_ | refine Cond_t ?_ | refine fHV_ld1 ?_))
     exact mb _ _ (by (repeat (exact Le.refl _))) (by assumption)
  ·refine V_run ?_
   intro Kx hKx
   refine Cond_is rfl ?_
   (repeat (first | refine V_run ?_ | refine fV_ld1 ?_))
   refine hKx _ _ fun _=>?_
   clear hKx
   cases X with
   | false=>
    refine Cond_not rfl ?_
    rw [if_neg (by simp)] at hus
    exact hexit _ _ _ (by (repeat (first | assumption | refine Le.trans ?_ (by assumption:Le _ _)))) (by have:=hXj rfl; omega) (hS10.keep [.at m1,.at m2,.at m3,.at b2])
   | true=>
    refine Cond_is rfl ?_
    intro Kb hKb
    have mb:∀ w' z',Le z10 z'->Res w z LL w' z' [(b8,.cells [.int .i64 i.a,.int .i64 i.b,.int .i64 i.c].toArray 100 (0,0)),(b7,.cells [.int .i64 (nm0 i),.int .i64 (nm1 i),.int .i64 (nm2 i)].toArray 100 (0,0)),mkB m1 c 1 (mkF F i 3),mkB m2 c 2 (mkF F i 3),mkB m3 c 3 (mkF F i 3),res8 b2]->Kb [] w':=by
     intro w' z' hz' hS'
     refine hKb _ fun _=>?_
     refine V_run ?_
     exact back 3 _ _ ⟨rfl,by decide,by decide,fun h=>(by cases h),z',hz10.trans hz',hS'⟩ (by decide)
    clear hKb back hexit
    rw [show mkF F i 3 = markF (mkF F i 2) (nm2 i) i.c from mkF_succ] at mb
    have hq:nm2 i = 0 \/ nm2 i = 1 \/ nm2 i = 2 \/ nm2 i = 3:=nm_or i 2
    rw [show (2:Int).toNat = 2 from rfl] at hS10
    haveI:AddN 0 (Int.toNat 0 * 1) 0:=⟨rfl⟩
    generalize mkF F i 2 = G at *
    generalize nm2 i = n at *
    rcases hq with rfl | rfl | rfl | rfl
    ·dsimp only [mkB] at mb
     rw [show bV (markF G 0 i.c 1) (cntM c 1) = bV (G 1) (cntM c 1) from bV_other (by decide),show bV (markF G 0 i.c 2) (cntM c 2) = bV (G 2) (cntM c 2) from bV_other (by decide),show bV (markF G 0 i.c 3) (cntM c 3) = bV (G 3) (cntM c 3) from bV_other (by decide)] at mb
     (repeat (first | refine V_run ?_ | refine iV_ld1 ?_ | refine Cond_f ?_))
     exact mb _ _ (by (repeat (exact Le.refl _))) (by assumption)
    ·have hin:=hin2 (by decide)
     haveI:InR i.c (cntM c 1:Nat):=⟨by omega,by omega⟩
     haveI:=bV_mark (g:=G) (q:=1) hin.1 hin.2
     dsimp only [mkB] at mb
     rw [show bV (markF G 1 i.c 2) (cntM c 2) = bV (G 2) (cntM c 2) from bV_other (by decide),show bV (markF G 1 i.c 3) (cntM c 3) = bV (G 3) (cntM c 3) from bV_other (by decide)] at mb
     (repeat (first | (refine iDr ?_; intro _ _) | refine V_run ?_ | refine PV_run ?_ | refine iV_ld1 ?_ | (refine iU_st ?_; intro _ _) | refine iHV_1 ?_ | refine Cond_t ?_ | refine fHV_ld1 ?_))
     exact mb _ _ (by (repeat (exact Le.refl _))) (by assumption)
    ·have hin:=hin2 (by decide)
     haveI:InR i.c (cntM c 2:Nat):=⟨by omega,by omega⟩
     haveI:=bV_mark (g:=G) (q:=2) hin.1 hin.2
     dsimp only [mkB] at mb
     rw [show bV (markF G 2 i.c 1) (cntM c 1) = bV (G 1) (cntM c 1) from bV_other (by decide),show bV (markF G 2 i.c 3) (cntM c 3) = bV (G 3) (cntM c 3) from bV_other (by decide)] at mb
     (repeat (first | (refine iDr ?_; intro _ _) | refine V_run ?_ | refine PV_run ?_ | refine iV_ld1 ?_ | (refine iU_st ?_; intro _ _) | refine iHV_1 ?_ | refine Cond_t ?_ | refine fHV_ld1 ?_))
     exact mb _ _ (by (repeat (exact Le.refl _))) (by assumption)
    ·have hin:=hin2 (by decide)
     haveI:InR i.c (cntM c 3:Nat):=⟨by omega,by omega⟩
     haveI:=bV_mark (g:=G) (q:=3) hin.1 hin.2
     dsimp only [mkB] at mb
     rw [show bV (markF G 3 i.c 1) (cntM c 1) = bV (G 1) (cntM c 1) from bV_other (by decide),show bV (markF G 3 i.c 2) (cntM c 2) = bV (G 2) (cntM c 2) from bV_other (by decide)] at mb
     (repeat (first | (refine iDr ?_; intro _ _) | refine V_run ?_ | refine PV_run ?_ | refine iV_ld1 ?_ | (refine iU_st ?_; intro _ _) | refine iHV_1 ?_ | refine Cond_t ?_ | refine fHV_ld1 ?_))
     exact mb _ _ (by (repeat (exact Le.refl _))) (by assumption)
  ·refine V_run ?_
   intro Kx hKx
   refine Cond_not rfl ?_
   refine hKx _ _ fun _=>?_
   refine Cond_not rfl ?_
   cases X with
   | false=>have:=hXj rfl; omega
   | true=>
    rw [if_pos rfl] at hus
    exact hexit _ _ _ (by (repeat (first | assumption | refine Le.trans ?_ (by assumption:Le _ _)))) hus.symm (hS10.keep [.at m1,.at m2,.at m3,.at b2])
 ·have hk0:k = c.ins.length:=by omega
  subst hk0
  clear back
  obtain ⟨z4,hz4,hS4,hu1⟩:=freezeMark hc1 hS3
  obtain ⟨z5,hz5,hS5,hu2⟩:=freezeMark hc2 hS4
  obtain ⟨z6,hz6,hS6,hu3⟩:=freezeMark hc3 hS5
  have hzz:Le z z6:=by (repeat (exact Res.zle (by assumption)))
  exact refTb (hatc.mono hzz) (hcr.mono hzz) (hrv.mono hzz) ⟨_,_,_,hatu.mono hzz,hu1.mono (hz5.trans hz6),hu2.mono hz6,hu3⟩ hck hS6.self (fun z' w' L' r kk hd=>hR _ _ _ _ (hS6.comp kk) hd)
end
section
open Go Q Go.RowKit
theorem bV_none {N:Nat} {q:Int}:((List.range (N * 1)).map fun i=>([Value.bool false]:List Value)[i % ([Value.bool false]:List Value).length]!) = bV ((fun _ _=>false:Int->Int->Bool) q) N:=by
 rw [Nat.mul_one]
 unfold bV
 apply List.map_congr_left
 intro i _
 simp [Nat.mod_one]
theorem refTrim_of {z:Z} {w:World} {v:Value} {c:CodeM} (hc:CodeR z v c):Fn1 32 #[v] z w fun z' r=>RefTrimR z' r c:=Fn1.intro fun hS=>en32 (by
 unfold vc32
 obtain ⟨a1,a2,a3,a4,a5,a6,k1,k2,k3,k4,k5,k6,rfl,h1,h2,h3,h4,h5,h6⟩:=hc.form
 generalize hRR:(fun (v:Value) (w':World)=>∃ z' L',Res w z [] w' z' L'/\RefTrimR z' v c) = RR
 refine iV_bx ?_
 intro bc w1 hbc hS1
 obtain ⟨zc,hzc,hS2,hatc⟩:=hS1.frz bc
 have hR:∀ z' w' L' r,Res w1 zc [] w' z' L'->RefTrimR z' r c->RR r w':=fun z' w' L' r k hd=>by rw [<- hRR]; exact ⟨z',L',hS2.comp k,hd⟩
 clear hRR
 have hS3:=hS2.self
 clear hS hS1 hS2
 have hcc:=hc.mono hzc
 haveI:CodeZ zc _ c:=⟨hcc⟩
 haveI:Fz zc bc 0 (codeVs a1 a2 a3 a4 a5 a6 k1 k2 k3 k4 k5 k6 c):=⟨hatc⟩
 refine iV_al ?_
 intro b2 w4 hb2 hS4
 clear hS3
 refine fV_ldN ?_
 refine CV_1 (refCheck_of (hcc.mono hS4.zle)) ?_
 rintro z5 w5 v5 hz5 hS5 rfl
 clear hS4
 refine iV_al ?_
 intro b3 w6 hb3 hS6
 refine iU_st ?_
 intro w7 hS7
 clear hS5 hS6
 (repeat (first | refine V_run ?_ | refine iV_ld1 ?_))
 refine Cond_n (fun hck=>?_) (fun hck=>?_)
 ·have hck:¬ (checkM c).1 = 0:=by simpa using hck
  have htm:trimM c = noCode:=by unfold trimM; rw [if_neg hck]
  have hta:trimAt c = []:=by unfold trimAt; rw [if_neg hck]
  (repeat (first | refine V_run ?_ | refine iV_ld1 ?_ | (refine iU_st ?_; intro _ _) | refine iHV_N ?_))
  refine hR _ _ _ _ (by assumption) ⟨none,none,none,none,none,none,0,0,0,0,0,0,nilS,by rw [htm]; rfl,?_,?_⟩
  ·rw [htm]
   exact ⟨_,_,_,_,_,_,rfl,SlR.nil,SlR.nil,SlR.nil,SlR.nil,SlR.nil,SlR.nil⟩
  ·rw [hta]; exact SlR.nil
 have hck:(checkM c).1 = 0:=by simpa using hck
 have hok:=ok_of hck
 have hbd:=limits_bd hok.lim
 refine fV_ldN ?_
 refine CV_1 (refReach_of (hcc.mono hS7.zle)) ?_
 rintro z9 w9 rv hz9 hS9 hrv
 have hS9:=hS9.keep [.at b2]
 clear hS7
 have hzc9:=hS9.zle
 have hS10:=hS9.self
 have hatc:=hatc.mono hzc9
 have hcc:=hcc.mono hzc9
 have hR2:∀ z' w' L' r,Res w9 z9 [res8 b2] w' z' L'->RefTrimR z' r c->RR r w':=fun z' w' L' r k hd=>hR _ _ _ _ (hS9.comp k) hd
 clear hS9 hR
 haveI:Fz z9 bc 0 [.slice a1 c.consts.length k1]:=⟨hatc.fld (i:=0) rfl rfl⟩
 haveI:Fz z9 bc 1 [.slice a2 c.tmpls.length k2]:=⟨hatc.fld (i:=1) rfl rfl⟩
 haveI:Fz z9 bc 2 [.slice a3 c.lists.length k3]:=⟨hatc.fld (i:=2) rfl rfl⟩
 generalize hLL:[res8 b2] = LL at hR2
 have hS0:Res w9 z9 LL w9 z9 [res8 b2]:=by rw [<- hLL]; exact hS10
 clear hS10
 intro Ka hKa
 have ma:∀ bu m1 m2 m3 z' w',Le z9 z'->Res w9 z9 LL w' z' [(bu,.cells [nilS,.slice (some ⟨m1,0,none⟩) (cntM c 1) (cntM c 1),.slice (some ⟨m2,0,none⟩) (cntM c 2) (cntM c 2),.slice (some ⟨m3,0,none⟩) (cntM c 3) (cntM c 3)].toArray 145 (0,0)),mkB m1 c 1 (usF c 0),mkB m2 c 2 (usF c 0),mkB m3 c 3 (usF c 0),res8 b2]->Ka [.pointer (some ⟨bu,0,none⟩)] w':=by
  intro bu m1 m2 m3 z' w' hz' hS'
  refine hKa _ _ fun _=>?_
  clear hKa hS0
  obtain ⟨zu,hzu,hSu,hatu⟩:=hS'.frz bu
  have hzz:=hz'.trans hzu
  exact refTa (hatc.mono hzz) (hcc.mono hzz) (hrv.mono hzz) hck hatu hSu.self (fun z' w' L' r kk hd=>hR2 _ _ _ _ (hSu.comp kk) hd)
 clear hKa hR2
 have hms:∀ (q:Int) (n:Nat),n <= 3000->n = cntM c q->∀ {K:Value->World->Prop} {w0 w:World} {z0 z:Z} {B0 L:Bl},Res w0 z0 B0 w z L->(∀ b w',Res w0 z0 B0 w' z (mkB b c q (usF c 0) :: L)->K (.slice (some ⟨b,0,none⟩) (cntM c q) (cntM c q)) w')->V (ms 49 (.int .i64 (n:Nat)) (.int .i64 (n:Nat))) w K:=by
  rintro q n hn rfl K w0 w z0 z B0 L hS hk
  refine iV_ms (by omega) (by omega) ?_
  intro b w' hb hS'
  rw [bV_none (q:=q)] at hS'
  exact hk b w' hS'
 (repeat (first | (refine iDr ?_; intro _ _) | refine PV_run ?_ | refine fHV_ld1 ?_))
 rename_i hS1
 refine ⟨?_,?_,?_,?_⟩
 ·refine hms 1 c.consts.length (by omega) rfl hS1 ?_
  intro m1 w22 hS2
  (repeat (refine fRI_1 ?_))
  refine ⟨?_,?_,?_⟩
  ·refine hms 2 c.tmpls.length (by omega) rfl hS2 ?_
   intro m2 w23 hS3
   (repeat (refine fRI_1 ?_))
   refine ⟨?_,?_⟩
   ·refine hms 3 c.lists.length (by omega) rfl hS3 ?_
    intro m3 w24 hS4
    (repeat (first | refine PV_run ?_ | refine fRI_1 ?_))
    refine iV_al ?_
    intro bu w25 hbu hS5
    (repeat (first | (refine iU_st ?_; intro _ _) | refine fRI_1 ?_))
    rename_i hS6
    exact ma bu m1 m2 m3 _ _ (by (repeat (exact Le.refl _))) (hS6.keep [.at bu,.at m1,.at m2,.at m3,.at b2])
   ·refine iV_al ?_
    intro bu w24 hbu hS4
    (repeat (refine fRI_1 ?_))
    refine hms 3 c.lists.length (by omega) rfl hS4 ?_
    intro m3 w25 hS5
    (repeat (first | refine PV_run ?_ | (refine iU_st ?_; intro _ _) | refine fRI_1 ?_))
    rename_i hS6
    exact ma bu m1 m2 m3 _ _ (by (repeat (exact Le.refl _))) (hS6.keep [.at bu,.at m1,.at m2,.at m3,.at b2])
  ·refine hms 3 c.lists.length (by omega) rfl hS2 ?_
   intro m3 w23 hS3
   (repeat (refine fRI_1 ?_))
   refine ⟨?_,?_⟩
   ·refine hms 2 c.tmpls.length (by omega) rfl hS3 ?_
    intro m2 w24 hS4
    (repeat (first | refine PV_run ?_ | refine fRI_1 ?_))
    refine iV_al ?_
    intro bu w25 hbu hS5
    (repeat (first | (refine iU_st ?_; intro _ _) | refine fRI_1 ?_))
    rename_i hS6
    exact ma bu m1 m2 m3 _ _ (by (repeat (exact Le.refl _))) (hS6.keep [.at bu,.at m1,.at m2,.at m3,.at b2])
   ·refine iV_al ?_
    intro bu w24 hbu hS4
    (repeat (refine fRI_1 ?_))
    refine hms 2 c.tmpls.length (by omega) rfl hS4 ?_
    intro m2 w25 hS5
    (repeat (first | refine PV_run ?_ | (refine iU_st ?_; intro _ _) | refine fRI_1 ?_))
    rename_i hS6
    exact ma bu m1 m2 m3 _ _ (by (repeat (exact Le.refl _))) (hS6.keep [.at bu,.at m1,.at m2,.at m3,.at b2])
  ·refine iV_al ?_
   intro bu w23 hbu hS3
   (repeat (refine fRI_1 ?_))
   refine ⟨?_,?_⟩
   ·refine hms 2 c.tmpls.length (by omega) rfl hS3 ?_
    intro m2 w24 hS4
    (repeat (refine fRI_1 ?_))
    refine hms 3 c.lists.length (by omega) rfl hS4 ?_
    intro m3 w25 hS5
    (repeat (first | refine PV_run ?_ | (refine iU_st ?_; intro _ _) | refine fRI_1 ?_))
    rename_i hS6
    exact ma bu m1 m2 m3 _ _ (by (repeat (exact Le.refl _))) (hS6.keep [.at bu,.at m1,.at m2,.at m3,.at b2])
   ·refine hms 3 c.lists.length (by omega) rfl hS3 ?_
    intro m3 w24 hS4
    (repeat (refine fRI_1 ?_))
    refine hms 2 c.tmpls.length (by omega) rfl hS4 ?_
    intro m2 w25 hS5
    (repeat (first | refine PV_run ?_ | (refine iU_st ?_; intro _ _) | refine fRI_1 ?_))
    rename_i hS6
    exact ma bu m1 m2 m3 _ _ (by (repeat (exact Le.refl _))) (hS6.keep [.at bu,.at m1,.at m2,.at m3,.at b2])
 ·refine hms 2 c.tmpls.length (by omega) rfl hS1 ?_
  intro m2 w22 hS2
  (repeat (refine fRI_1 ?_))
  refine ⟨?_,?_,?_⟩
  ·refine hms 1 c.consts.length (by omega) rfl hS2 ?_
   intro m1 w23 hS3
   (repeat (refine fRI_1 ?_))
   refine ⟨?_,?_⟩
   ·refine hms 3 c.lists.length (by omega) rfl hS3 ?_
    intro m3 w24 hS4
    (repeat (first | refine PV_run ?_ | refine fRI_1 ?_))
    refine iV_al ?_
    intro bu w25 hbu hS5
    (repeat (first | (refine iU_st ?_; intro _ _) | refine fRI_1 ?_))
    rename_i hS6
    exact ma bu m1 m2 m3 _ _ (by (repeat (exact Le.refl _))) (hS6.keep [.at bu,.at m1,.at m2,.at m3,.at b2])
   ·refine iV_al ?_
    intro bu w24 hbu hS4
    (repeat (refine fRI_1 ?_))
    refine hms 3 c.lists.length (by omega) rfl hS4 ?_
    intro m3 w25 hS5
    (repeat (first | refine PV_run ?_ | (refine iU_st ?_; intro _ _) | refine fRI_1 ?_))
    rename_i hS6
    exact ma bu m1 m2 m3 _ _ (by (repeat (exact Le.refl _))) (hS6.keep [.at bu,.at m1,.at m2,.at m3,.at b2])
  ·refine hms 3 c.lists.length (by omega) rfl hS2 ?_
   intro m3 w23 hS3
   (repeat (refine fRI_1 ?_))
   refine ⟨?_,?_⟩
   ·refine hms 1 c.consts.length (by omega) rfl hS3 ?_
    intro m1 w24 hS4
    (repeat (first | refine PV_run ?_ | refine fRI_1 ?_))
    refine iV_al ?_
    intro bu w25 hbu hS5
    (repeat (first | (refine iU_st ?_; intro _ _) | refine fRI_1 ?_))
    rename_i hS6
    exact ma bu m1 m2 m3 _ _ (by (repeat (exact Le.refl _))) (hS6.keep [.at bu,.at m1,.at m2,.at m3,.at b2])
   ·refine iV_al ?_
    intro bu w24 hbu hS4
    (repeat (refine fRI_1 ?_))
    refine hms 1 c.consts.length (by omega) rfl hS4 ?_
    intro m1 w25 hS5
    (repeat (first | refine PV_run ?_ | (refine iU_st ?_; intro _ _) | refine fRI_1 ?_))
    rename_i hS6
    exact ma bu m1 m2 m3 _ _ (by (repeat (exact Le.refl _))) (hS6.keep [.at bu,.at m1,.at m2,.at m3,.at b2])
  ·refine iV_al ?_
   intro bu w23 hbu hS3
   (repeat (refine fRI_1 ?_))
   refine ⟨?_,?_⟩
   ·refine hms 1 c.consts.length (by omega) rfl hS3 ?_
    intro m1 w24 hS4
    (repeat (refine fRI_1 ?_))
    refine hms 3 c.lists.length (by omega) rfl hS4 ?_
    intro m3 w25 hS5
    (repeat (first | refine PV_run ?_ | (refine iU_st ?_; intro _ _) | refine fRI_1 ?_))
    rename_i hS6
    exact ma bu m1 m2 m3 _ _ (by (repeat (exact Le.refl _))) (hS6.keep [.at bu,.at m1,.at m2,.at m3,.at b2])
   ·refine hms 3 c.lists.length (by omega) rfl hS3 ?_
    intro m3 w24 hS4
    (repeat (refine fRI_1 ?_))
    refine hms 1 c.consts.length (by omega) rfl hS4 ?_
    intro m1 w25 hS5
    (repeat (first | refine PV_run ?_ | (refine iU_st ?_; intro _ _) | refine fRI_1 ?_))
    rename_i hS6
    exact ma bu m1 m2 m3 _ _ (by (repeat (exact Le.refl _))) (hS6.keep [.at bu,.at m1,.at m2,.at m3,.at b2])
 ·refine hms 3 c.lists.length (by omega) rfl hS1 ?_
  intro m3 w22 hS2
  (repeat (refine fRI_1 ?_))
  refine ⟨?_,?_,?_⟩
  ·refine hms 1 c.consts.length (by omega) rfl hS2 ?_
   intro m1 w23 hS3
   (repeat (refine fRI_1 ?_))
   refine ⟨?_,?_⟩
   ·refine hms 2 c.tmpls.length (by omega) rfl hS3 ?_
    intro m2 w24 hS4
    (repeat (first | refine PV_run ?_ | refine fRI_1 ?_))
    refine iV_al ?_
    intro bu w25 hbu hS5
    (repeat (first | (refine iU_st ?_; intro _ _) | refine fRI_1 ?_))
    rename_i hS6
    exact ma bu m1 m2 m3 _ _ (by (repeat (exact Le.refl _))) (hS6.keep [.at bu,.at m1,.at m2,.at m3,.at b2])
   ·refine iV_al ?_
    intro bu w24 hbu hS4
    (repeat (refine fRI_1 ?_))
    refine hms 2 c.tmpls.length (by omega) rfl hS4 ?_
    intro m2 w25 hS5
    (repeat (first | refine PV_run ?_ | (refine iU_st ?_; intro _ _) | refine fRI_1 ?_))
    rename_i hS6
    exact ma bu m1 m2 m3 _ _ (by (repeat (exact Le.refl _))) (hS6.keep [.at bu,.at m1,.at m2,.at m3,.at b2])
  ·refine hms 2 c.tmpls.length (by omega) rfl hS2 ?_
   intro m2 w23 hS3
   (repeat (refine fRI_1 ?_))
   refine ⟨?_,?_⟩
   ·refine hms 1 c.consts.length (by omega) rfl hS3 ?_
    intro m1 w24 hS4
    (repeat (first | refine PV_run ?_ | refine fRI_1 ?_))
    refine iV_al ?_
    intro bu w25 hbu hS5
    (repeat (first | (refine iU_st ?_; intro _ _) | refine fRI_1 ?_))
    rename_i hS6
    exact ma bu m1 m2 m3 _ _ (by (repeat (exact Le.refl _))) (hS6.keep [.at bu,.at m1,.at m2,.at m3,.at b2])
   ·refine iV_al ?_
    intro bu w24 hbu hS4
    (repeat (refine fRI_1 ?_))
    refine hms 1 c.consts.length (by omega) rfl hS4 ?_
    intro m1 w25 hS5
    (repeat (first | refine PV_run ?_ | (refine iU_st ?_; intro _ _) | refine fRI_1 ?_))
    rename_i hS6
    exact ma bu m1 m2 m3 _ _ (by (repeat (exact Le.refl _))) (hS6.keep [.at bu,.at m1,.at m2,.at m3,.at b2])
  ·refine iV_al ?_
   intro bu w23 hbu hS3
   (repeat (refine fRI_1 ?_))
   refine ⟨?_,?_⟩
   ·refine hms 1 c.consts.length (by omega) rfl hS3 ?_
    intro m1 w24 hS4
    (repeat (refine fRI_1 ?_))
    refine hms 2 c.tmpls.length (by omega) rfl hS4 ?_
    intro m2 w25 hS5
    (repeat (first | refine PV_run ?_ | (refine iU_st ?_; intro _ _) | refine fRI_1 ?_))
    rename_i hS6
    exact ma bu m1 m2 m3 _ _ (by (repeat (exact Le.refl _))) (hS6.keep [.at bu,.at m1,.at m2,.at m3,.at b2])
   ·refine hms 2 c.tmpls.length (by omega) rfl hS3 ?_
    intro m2 w24 hS4
    (repeat (refine fRI_1 ?_))
    refine hms 1 c.consts.length (by omega) rfl hS4 ?_
    intro m1 w25 hS5
    (repeat (first | refine PV_run ?_ | (refine iU_st ?_; intro _ _) | refine fRI_1 ?_))
    rename_i hS6
    exact ma bu m1 m2 m3 _ _ (by (repeat (exact Le.refl _))) (hS6.keep [.at bu,.at m1,.at m2,.at m3,.at b2])
 ·refine iV_al ?_
  intro bu w22 hbu hS2
  (repeat (refine fRI_1 ?_))
  refine ⟨?_,?_,?_⟩
  ·refine hms 1 c.consts.length (by omega) rfl hS2 ?_
   intro m1 w23 hS3
   (repeat (refine fRI_1 ?_))
   refine ⟨?_,?_⟩
   ·refine hms 2 c.tmpls.length (by omega) rfl hS3 ?_
    intro m2 w24 hS4
    (repeat (refine fRI_1 ?_))
    refine hms 3 c.lists.length (by omega) rfl hS4 ?_
    intro m3 w25 hS5
    (repeat (first | refine PV_run ?_ | (refine iU_st ?_; intro _ _) | refine fRI_1 ?_))
    rename_i hS6
    exact ma bu m1 m2 m3 _ _ (by (repeat (exact Le.refl _))) (hS6.keep [.at bu,.at m1,.at m2,.at m3,.at b2])
   ·refine hms 3 c.lists.length (by omega) rfl hS3 ?_
    intro m3 w24 hS4
    (repeat (refine fRI_1 ?_))
    refine hms 2 c.tmpls.length (by omega) rfl hS4 ?_
    intro m2 w25 hS5
    (repeat (first | refine PV_run ?_ | (refine iU_st ?_; intro _ _) | refine fRI_1 ?_))
    rename_i hS6
    exact ma bu m1 m2 m3 _ _ (by (repeat (exact Le.refl _))) (hS6.keep [.at bu,.at m1,.at m2,.at m3,.at b2])
  ·refine hms 2 c.tmpls.length (by omega) rfl hS2 ?_
   intro m2 w23 hS3
   (repeat (refine fRI_1 ?_))
   refine ⟨?_,?_⟩
   ·refine hms 1 c.consts.length (by omega) rfl hS3 ?_
    intro m1 w24 hS4
    (repeat (refine fRI_1 ?_))
    refine hms 3 c.lists.length (by omega) rfl hS4 ?_
    intro m3 w25 hS5
    (repeat (first | refine PV_run ?_ | (refine iU_st ?_; intro _ _) | refine fRI_1 ?_))
    rename_i hS6
    exact ma bu m1 m2 m3 _ _ (by (repeat (exact Le.refl _))) (hS6.keep [.at bu,.at m1,.at m2,.at m3,.at b2])
   ·refine hms 3 c.lists.length (by omega) rfl hS3 ?_
    intro m3 w24 hS4
    (repeat (refine fRI_1 ?_))
    refine hms 1 c.consts.length (by omega) rfl hS4 ?_
    intro m1 w25 hS5
    (repeat (first | refine PV_run ?_ | (refine iU_st ?_; intro _ _) | refine fRI_1 ?_))
    rename_i hS6
    exact ma bu m1 m2 m3 _ _ (by (repeat (exact Le.refl _))) (hS6.keep [.at bu,.at m1,.at m2,.at m3,.at b2])
  ·refine hms 3 c.lists.length (by omega) rfl hS2 ?_
   intro m3 w23 hS3
   (repeat (refine fRI_1 ?_))
   refine ⟨?_,?_⟩
   ·refine hms 1 c.consts.length (by omega) rfl hS3 ?_
    intro m1 w24 hS4
    (repeat (refine fRI_1 ?_))
    refine hms 2 c.tmpls.length (by omega) rfl hS4 ?_
    intro m2 w25 hS5
    (repeat (first | refine PV_run ?_ | (refine iU_st ?_; intro _ _) | refine fRI_1 ?_))
    rename_i hS6
    exact ma bu m1 m2 m3 _ _ (by (repeat (exact Le.refl _))) (hS6.keep [.at bu,.at m1,.at m2,.at m3,.at b2])
   ·refine hms 2 c.tmpls.length (by omega) rfl hS3 ?_
    intro m2 w24 hS4
    (repeat (refine fRI_1 ?_))
    refine hms 1 c.consts.length (by omega) rfl hS4 ?_
    intro m1 w25 hS5
    (repeat (first | refine PV_run ?_ | (refine iU_st ?_; intro _ _) | refine fRI_1 ?_))
    rename_i hS6
    exact ma bu m1 m2 m3 _ _ (by (repeat (exact Le.refl _))) (hS6.keep [.at bu,.at m1,.at m2,.at m3,.at b2]))
end
section
open Go Q Go.RowKit
theorem lawTrims {z:Z} {w:World} {v u:Value} {c d:CodeM} [ht:Tab z] (hc:CodeR z v c) (hd:CodeR z u d):Fn1 9 #[v,u] z w fun _ r=>r = .bool true:=Fn1.intro fun hS=>en9 (by
 unfold vc9
 obtain ⟨a1,a2,a3,a4,a5,a6,k1,k2,k3,k4,k5,k6,rfl,h1,h2,h3,h4,h5,h6⟩:=hc.form
 obtain ⟨p1,p2,p3,p4,p5,p6,q1,q2,q3,q4,q5,q6,rfl,g1,g2,g3,g4,g5,g6⟩:=hd.form
 refine iV_bx ?_
 intro bc w1 hbc hS1
 refine iV_bx ?_
 intro bd w2 hbd hS2
 clear hS1
 obtain ⟨z3,hz3,hS3,hatc⟩:=hS2.frz bc
 obtain ⟨zc,hzc',hS4,hatd⟩:=hS3.frz bd
 have hatc:=hatc.mono hzc'
 have hzc:=hz3.trans hzc'
 generalize hRR:(fun (v:Value) (w':World)=>∃ z' L',Res w z [] w' z' L'/\v = .bool true) = RR
 have hR:∀ z' w' L' b,Res w2 zc [] w' z' L'->b = true->RR (.bool b) w':=fun z' w' L' b k e=>by rw [<- hRR,e]; exact ⟨z',L',hS4.comp k,rfl⟩
 clear hRR
 have hS5:=hS4.self
 clear hS hS2 hS3 hS4
 haveI:Tab zc:=ht.le hzc
 have hcc:=hc.mono hzc
 have hcd:=hd.mono hzc
 haveI:Fz zc bc 0 (codeVs a1 a2 a3 a4 a5 a6 k1 k2 k3 k4 k5 k6 c):=⟨hatc⟩
 haveI:Fz zc bd 0 (codeVs p1 p2 p3 p4 p5 p6 q1 q2 q3 q4 q5 q6 d):=⟨hatd⟩
 refine CV_puz ?_
 intro z6 w6 hz6 hS6
 clear hS5
 refine fV_ldN ?_
 refine CV_1 (few_of (hcc.mono hS6.zle)) ?_
 rintro z7 w7 v7 hz7 hS7 ⟨b,rfl⟩
 clear hS6
 refine V_run ?_
 intro Ka hKa
 have ma:∀ b z' w',Le zc z'->Res w2 zc [] w' z' []->Ka [.bool b] w':=by
  intro b z8 w8 hz8 hS8
  refine hKa _ _ fun _=>?_
  clear hKa hS7
  refine Cond_b (fun _=>hR _ _ _ _ hS8 rfl) (fun _=>?_)
  refine fV_ldN ?_
  refine CV_1 (trim_of (hcc.mono hS8.zle)) ?_
  rintro z9 w9 v9 hz9 hS9 ⟨cv,av,rfl,hcv,hav⟩
  clear hS8
  generalize hT:trimM c = T at *
  generalize hA:trimAt c = A at *
  generalize hE:(checkM c).1 = e at *
  obtain ⟨x1,x2,x3,x4,x5,x6,y1,y2,y3,y4,y5,y6,rfl,_,_,_,_,_,_⟩:=hcv.form
  refine V_run ?_
  refine V_run ?_
  refine V_run ?_
  refine iV_al ?_
  intro b6 w10 hb6 hS10
  refine iU_st ?_
  intro w11 hS11
  clear hS9 hS10
  refine fV_ldN ?_
  refine CV_1 (refTrim_of (hcc.mono hS11.zle)) ?_
  rintro z12 w12 v12 hz12 hS12 ⟨n1,n2,n3,n4,n5,n6,o1,o2,o3,o4,o5,o6,av2,rfl,hcr,hav2⟩
  rw [hT] at hcr
  rw [hA] at hav2
  rw [hT,hE]
  clear hS11
  dsimp only [codeVs,List.cons_append,List.nil_append]
  obtain ⟨_,s1,t1,rfl,_,_⟩:=hav2.form
  refine iV_al ?_
  intro b9 w13 hb9 hS13
  refine iU_st ?_
  intro w14 hS14
  clear hS12 hS13
  obtain ⟨z15,hz15,hS15,hat6⟩:=hS14.frz b6
  obtain ⟨z16,hz16,hS16,hat9⟩:=hS15.frz b9
  have hat6:=hat6.mono hz16
  have h1216:=hz15.trans hz16
  have hR2:∀ z' w' L' b,Res w14 z16 [] w' z' L'->b = true->RR (.bool b) w':=fun z' w' L' b k e=>hR _ _ _ _ (hS16.comp k) e
  have hS17:=hS16.self
  have hzz:=hS16.zle
  clear hS14 hS15 hS16 hR
  have hcv:=hcv.mono (hz12.trans h1216)
  have hcr:=hcr.mono h1216
  have hav:=hav.mono (hz12.trans h1216)
  have hav2:=hav2.mono h1216
  have hcc:=hcc.mono hzz
  have hcd:=hcd.mono hzz
  haveI:Fz z16 bc 0 (codeVs a1 a2 a3 a4 a5 a6 k1 k2 k3 k4 k5 k6 c):=⟨hatc.mono hzz⟩
  haveI:Fz z16 bd 0 (codeVs p1 p2 p3 p4 p5 p6 q1 q2 q3 q4 q5 q6 d):=⟨hatd.mono hzz⟩
  haveI:Fz z16 b6 0 (codeVs x1 x2 x3 x4 x5 x6 y1 y2 y3 y4 y5 y6 T):=⟨hat6⟩
  haveI:Fz z16 b9 0 (codeVs n1 n2 n3 n4 n5 n6 o1 o2 o3 o4 o5 o6 T):=⟨by
   obtain ⟨o,ho,k,e,h⟩:=hat9
   exact ⟨o,ho,k,e,fun j v hv=>h j v (by
    have hj:j < 6:=(List.getElem?_eq_some_iff.1 hv).1
    match j,hj with
    | 0,_=>exact hv
    | 1,_=>exact hv
    | 2,_=>exact hv
    | 3,_=>exact hv
    | 4,_=>exact hv
    | 5,_=>exact hv)⟩⟩
  haveI:Fz z16 b9 6 [.slice s1 A.length t1]:=⟨hat9.fld (i:=6) rfl rfl⟩
  haveI:Fz z16 b9 7 [.int .i64 e]:=⟨hat9.fld (i:=7) rfl rfl⟩
  refine fV_ldN ?_
  (repeat (first | refine V_run ?_ | refine fV_ldN ?_))
  refine CV_1 (refSame_of (hcv.mono (by (repeat (exact Le.refl _)))) (hcr.mono (by (repeat (exact Le.refl _))))) ?_
  rintro z18 w18 v18 hz18 hS18 ⟨b1,rfl,hb1⟩
  have hb1:=hb1.2 rfl
  subst hb1
  clear hS17
  intro Kb hKb
  have mb:∀ z' w',Le z18 z'->Res w14 z16 [] w' z' []->Kb [.bool true] w':=by
   intro z' w' hz' hS'
   refine hKb _ _ fun _=>?_
   exact hR2 _ _ _ _ hS' rfl
  clear hKb
  (repeat (first | (refine iDr ?_; intro _ _) | refine PV_run ?_ | refine Cond_t ?_ | refine fHV_ld1 ?_))
  rename_i w66 hS66
  refine CV_1 (sameInts_of (hav.mono hS66.zle) (hav2.mono hS66.zle)) ?_
  rintro z19 w19 v19 hz19 hS19 rfl
  clear hS18
  refine Cond_is (by simp) ?_
  (repeat (first | refine PV_run ?_ | refine fHV_ld1 ?_))
  refine Cond_is (by simp) ?_
  (repeat (refine fHV_ldN ?_))
  refine CV_1 (codeSame_of (hcc.mono (by (repeat (exact Res.zle (by assumption))))) (hcd.mono (by (repeat (exact Res.zle (by assumption)))))) ?_
  rintro z20 w20 v20 hz20 hS20 ⟨b2,rfl,hb2⟩
  clear hS19
  (repeat (first | refine fRI_1 ?_ | refine fRI_N ?_))
  refine CV_1 (refSame_of (hcc.mono (by (repeat (exact Res.zle (by assumption))))) (hcd.mono (by (repeat (exact Res.zle (by assumption)))))) ?_
  rintro z21 w21 v21 hz21 hS21 ⟨b3,rfl,hb3⟩
  clear hS20
  have hbb:b2 = b3:=by cases b2 <;> cases b3 <;> simp_all
  subst hbb
  (repeat (first | refine PV_run ?_ | refine fRI_1 ?_))
  refine Cond_is (by simp) ?_
  (repeat (refine fHV_ldN ?_))
  refine CV_1 (codeSame_of (hcc.mono (by (repeat (exact Res.zle (by assumption))))) (hcc.mono (by (repeat (exact Res.zle (by assumption)))))) ?_
  rintro z22 w22 v22 hz22 hS22 ⟨b4,rfl,hb4⟩
  have hb4:=hb4.2 rfl
  subst hb4
  clear hS21
  (repeat (refine fRI_1 ?_))
  exact mb z22 _ (by (repeat (first | assumption | refine Le.trans ?_ (by assumption:Le _ _)))) (hS22.keep [])
 refine Cond_n (fun _=>ma _ _ _ (by (repeat (exact Res.zle (by assumption)))) (hS7.keep [])) (fun _=>?_)
 refine fV_ldN ?_
 refine CV_1 (few_of (hcd.mono hS7.zle)) ?_
 rintro z8 w8 v8 hz8 hS8 ⟨b',rfl⟩
 refine V_run ?_
 exact ma _ _ _ (by (repeat (exact Res.zle (by assumption)))) (hS8.keep []))
end
end Go.Proofs.YtbeelfopmkbllaaGreatDoor
