/- Texts joined: D1, D2, D3, D4, D5, D6, C81, C82, C83, C84, Q22, Q23, C85, C86, C89, C90, C87, C88, C91, C92, C47, C64, C65, C93. -/
import Derived.Test.YtbeelfopmkbllaaGreatDoorM6
import Derived.Test.YtbeelfopmkbllaaGreatDoorM4
import Derived.Laws.IdiomStrings
import Derived.Laws.BytesArg
set_option linter.unusedSimpArgs false
set_option linter.unusedVariables false
set_option linter.unusedSectionVars false
set_option maxRecDepth 20000
set_option synthInstance.maxHeartbeats 4000000
set_option synthInstance.maxSize 20000
set_option maxHeartbeats 4000000
namespace Go.Proofs.YtbeelfopmkbllaaGreatDoor
section
open Go Q Go.RowKit
abbrev fK (p:Nat->Bool) (k:Nat):List Nat:=(List.range k).filter p
theorem fK_succ {p:Nat->Bool} {k:Nat}:fK p (k + 1) = fK p k ++ (if p k = true then [k] else []):=by
 rw [fK,List.range_succ,List.filter_append]
 cases h:p k <;> simp [h]
theorem fK_mem {p:Nat->Bool} {k x:Nat}:x ∈ fK p k ↔ x < k/\p x = true:=by
 rw [List.mem_filter,List.mem_range]
theorem fK_get {p:Nat->Bool} {i:Nat} (hp:p i = true):∀ {n:Nat},i < n->(fK p n)[(fK p i).length]? = some i
 | 0,h=>absurd h (by omega)
 | n + 1,h=>by
  rw [fK_succ]
  by_cases hi:i = n
  ·subst hi
   rw [if_pos hp,List.getElem?_append_right (by omega),Nat.sub_self]; rfl
  ·have ih:=fK_get hp (n:=n) (by omega)
   have hl:(fK p i).length < (fK p n).length:=by
    rcases Nat.lt_or_ge (fK p i).length (fK p n).length with h | h
    ·exact h
    ·rw [List.getElem?_eq_none h] at ih; cases ih
   rw [List.getElem?_append_left hl]; exact ih
theorem fK_lt {p:Nat->Bool} {i n:Nat} (hp:p i = true) (h:i < n):(fK p i).length < (fK p n).length:=by
 have ih:=fK_get hp h
 rcases Nat.lt_or_ge (fK p i).length (fK p n).length with h | h
 ·exact h
 ·rw [List.getElem?_eq_none h] at ih; cases ih
theorem fK_nodup {p:Nat->Bool} {n:Nat}:(fK p n).Nodup:=List.nodup_range.filter _
theorem fK_idx {p:Nat->Bool} {n j i:Nat} (h:(fK p n)[j]? = some i):i < n/\p i = true/\(fK p i).length = j:=by
 have hm:=fK_mem.1 (List.mem_of_getElem? h);refine ⟨hm.1,hm.2,?_⟩;have h2:=fK_get hm.2 hm.1;have hl:=fK_lt hm.2 hm.1;exact (List.getElem?_inj hl fK_nodup).1 (by rw [h2,h])
theorem fK_next {p:Nat->Bool} {i:Nat}:(fK p (i + 1)).length = (fK p i).length + if p i = true then 1 else 0:=by
 rw [fK_succ,List.length_append]; split <;> rfl
theorem fK_mono {p:Nat->Bool} {i:Nat}:∀ {j:Nat},i <= j->(fK p i).length <= (fK p j).length
 | 0,h=>by rw [show i = 0 by omega]; exact Nat.le_refl _
 | j + 1,h=>by
  rw [fK_next]
  rcases Nat.lt_or_ge j i with h2 | h2
  ·rw [show i = j + 1 by omega,fK_next]; exact Nat.le_refl _
  ·have:=fK_mono (p:=p) h2; omega
theorem fK_le {p:Nat->Bool} {n:Nat}:(fK p n).length <= n:=by
 have:=List.length_filter_le p (List.range n);rw [List.length_range] at this; exact this
theorem fK_all {p:Nat->Bool} {n:Nat} (h:∀ i,i < n->p i = true):fK p n = List.range n:=by
 unfold fK;rw [List.filter_eq_self];intro a ha;exact h a (List.mem_range.1 ha)
theorem pick_len {α:Type} {xs:List α}:∀ {ks:List Nat},(∀ k ∈ ks,k < xs.length)->(pickK xs ks).length = ks.length
 | [],_=>rfl
 | k :: ks,h=>by
  have hk:=h k List.mem_cons_self;have:=pick_len (xs:=xs) (ks:=ks) fun x hx=>h x (List.mem_cons_of_mem _ hx)
  unfold pickK at this ⊢;rw [List.filterMap_cons,List.getElem?_eq_getElem hk];simp [this]
theorem pick_get {α:Type} {xs:List α}:∀ {ks:List Nat},(∀ k ∈ ks,k < xs.length)->∀ j:Nat,(pickK xs ks)[j]? = (ks[j]?).bind fun i=>xs[i]?
 | [],_,j=>by simp [pickK]
 | k :: ks,h,j=>by
  have hk:=h k List.mem_cons_self;have ih:=pick_get (xs:=xs) (ks:=ks) fun x hx=>h x (List.mem_cons_of_mem _ hx)
  unfold pickK at ih ⊢;rw [List.filterMap_cons,List.getElem?_eq_getElem hk]
  cases j with
  | zero=>simp [List.getElem?_eq_getElem hk]
  | succ j=>simpa using ih j
theorem pick_mem {α:Type} {xs:List α} {ks:List Nat} {x:α} (h:x ∈ pickK xs ks):x ∈ xs:=by
 unfold pickK at h;obtain ⟨i,_,hi⟩:=List.mem_filterMap.1 h;exact List.mem_of_getElem? hi
theorem pick_at {α:Type} {xs:List α} {p:Nat->Bool} {i:Nat} (hp:p i = true) (hi:i < xs.length):(pickK xs (fK p xs.length))[(fK p i).length]? = xs[i]?:=by
 rw [pick_get fun k hk=>(fK_mem.1 hk).1,fK_get hp hi]; rfl
theorem kept_lt {S:List Int} {n k:Nat} (h:k ∈ keptI S n):k < n:=(fK_mem.1 h).1
end
section
open Go Q Go.RowKit
def usG (u:UsM) (q:Int):List Int:=if q = 1 then u.s1 else if q = 2 then u.s2 else u.s3
theorem mem_insK' {S:List Int} {x y:Int}:y ∈ insK S x ↔ y ∈ S \/ y = x:=by
 rw [mem_ins]; exact Or.comm
theorem mem_markU {u:UsM} {k n q x:Int} (hq:q = 1 \/ q = 2 \/ q = 3):x ∈ usG (markU u k n) q ↔ x ∈ usG u q \/ (clsM k = q/\x = n):=by
 unfold markU usG
 rcases hq with rfl | rfl | rfl <;> by_cases h1:clsM k = 1 <;> by_cases h2:clsM k = 2 <;> by_cases h3:clsM k = 3 <;> simp [h1,h2,h3,mem_insK']
theorem mem_mark3 {u:UsM} {i:InsM} {q x:Int} (hq:q = 1 \/ q = 2 \/ q = 3):x ∈ usG (markK i 3 u) q ↔ x ∈ usG u q \/ ∃ k:Nat,k < 3/\clsM (kindM i k) = q/\x = fldM i k:=by
 rw [markK_succ,mem_markU hq,markK_succ,mem_markU hq,markK_succ,mem_markU hq,show markK i 0 u = u from rfl];constructor
 ·rintro (((h | h) | h) | h)
  ·exact .inl h
  ·exact .inr ⟨0,by omega,h⟩
  ·exact .inr ⟨1,by omega,h⟩
  ·exact .inr ⟨2,by omega,h⟩
 ·rintro (h | ⟨k,hk,h⟩)
  ·exact .inl (.inl (.inl h))
  ·match k,hk with
   | 0,_=>exact .inl (.inl (.inr h))
   | 1,_=>exact .inl (.inr h)
   | 2,_=>exact .inr h
theorem mem_uses {c:CodeM} {k:Nat} {q x:Int} (hq:q = 1 \/ q = 2 \/ q = 3):x ∈ usG (usesK c k) q ↔ ∃ j,j < k/\rcAt c j = true/\∃ f:Nat,f < 3/\clsM (kindM (insAt c j) f) = q/\x = fldM (insAt c j) f:=by
 induction k with
 | zero=>
  constructor
  ·intro h
   have:usG (usesK c 0) q = []:=by unfold usesK rK usG; simp
   rw [this] at h; cases h
  ·rintro ⟨j,hj,_⟩; omega
 | succ k ih=>
  rw [usesK_succ]
  by_cases hr:rcAt c k = true
  ·rw [if_pos hr,mem_mark3 hq,ih]
   constructor
   ·rintro (⟨j,h1,h2⟩ | h)
    ·exact ⟨j,by omega,h2⟩
    ·exact ⟨k,by omega,hr,h⟩
   ·rintro ⟨j,h1,h2,h3⟩
    by_cases e:j = k
    ·subst e; exact .inr h3
    ·exact .inl ⟨j,by omega,h2,h3⟩
  ·rw [if_neg hr,ih]
   constructor
   ·rintro ⟨j,h1,h2⟩; exact ⟨j,by omega,h2⟩
   ·rintro ⟨j,h1,h2,h3⟩
    by_cases e:j = k
    ·subst e; exact absurd h2 hr
    ·exact ⟨j,by omega,h2,h3⟩
theorem uses_of {c:CodeM} {j f:Nat} {q:Int} (hq:q = 1 \/ q = 2 \/ q = 3) (hj:j < c.ins.length) (hr:rcAt c j = true) (hf:f < 3) (hc:clsM (kindM (insAt c j) f) = q):fldM (insAt c j) f ∈ usG (usesM c) q:=
 (mem_uses hq).2 ⟨j,hj,hr,f,hf,hc,rfl⟩
theorem kind0_of {i:InsM} (h:¬ (i.op = 12 \/ i.op = 21)):kindM i 0 = (formAt i.op).k0:=by
 unfold kindM;rw [if_neg (by simp [h]),if_neg (by simp),if_pos rfl]
theorem kind1_of {i:InsM} (h:¬ i.op = 19):kindM i 1 = (formAt i.op).k1:=by
 unfold kindM;rw [if_neg (by simp [h]),if_neg (by simp),if_neg (by decide),if_pos rfl]
theorem kind2_of {i:InsM} (h:¬ i.op = 22):kindM i 2 = (formAt i.op).k2:=by
 unfold kindM;rw [if_neg (by simp),if_neg (by simp [h]),if_neg (by decide),if_neg (by decide)]
theorem kind0_19 {i:InsM} (h:i.op = 19):kindM i 0 = 15:=by
 rw [kind0_of (by omega),h]; decide +kernel
theorem newIns_eq {c:CodeM} {i:InsM}:newIns c i = ⟨i.op,renewM c (kindM i 0) i.a,renewM c (kindM i 1) i.b,renewM c (kindM i 2) i.c⟩:=by
 have ha:i.op = 19->renewM c (kindM i 0) i.a = i.a:=fun e=>by
  rw [kind0_19 e]; rfl
 unfold newIns;rw [renewK_succ,renewK_succ,renewK_succ]
 show setFld (setFld (setFld i 0 _) 1 _) 2 _ = _
 have e0:renewK c i 0 = i:=rfl;rw [e0];have f0:fldM i ((0:Nat):Int) = i.a:=rfl;rw [f0];generalize hA:renewM c (kindM i ((0:Nat):Int)) i.a = A;have hA':renewM c (kindM i 0) i.a = A:=hA;have s0:setFld i ((0:Nat):Int) A = ⟨i.op,A,i.b,i.c⟩:=rfl;rw [s0];have k1:kindM ⟨i.op,A,i.b,i.c⟩ ((1:Nat):Int) = kindM i 1:=by
  unfold kindM
  by_cases e:i.op = 19
  ·have:A = i.a:=by rw [<- hA']; exact ha e
   rw [this]; rfl
  ·simp [e]
 rw [k1];have f1:fldM ⟨i.op,A,i.b,i.c⟩ ((1:Nat):Int) = i.b:=rfl;rw [f1];generalize hB:renewM c (kindM i 1) i.b = B;have s1:setFld ⟨i.op,A,i.b,i.c⟩ ((1:Nat):Int) B = ⟨i.op,A,B,i.c⟩:=rfl;rw [s1];have k2:kindM ⟨i.op,A,B,i.c⟩ ((2:Nat):Int) = kindM i 2:=by
  unfold kindM; simp
 rw [k2];have f2:fldM ⟨i.op,A,B,i.c⟩ ((2:Nat):Int) = i.c:=rfl;rw [f2]
 rfl
theorem pos_at {α:Type} {xs:List α} {S:List Int} {n:Int} (h0:0 <= n) (h1:n < xs.length) (hm:n ∈ S) :
  0 <= posM S xs.length n/\posM S xs.length n < (pickK xs (keptI S xs.length)).length/\(pickK xs (keptI S xs.length))[(posM S xs.length n).toNat]? = xs[n.toNat]?/\posM S xs.length n = ((keptI S n.toNat).length:Int):=by
 have hm':memK S n = true:=memK_iff.2 hm;have hp:posM S xs.length n = ((keptI S n.toNat).length:Int):=by
  unfold posM;rw [if_neg (by omega),if_pos ⟨h0,h1,hm'⟩]
 have hp2:(fun i:Nat=>memK S (i:Int)) n.toNat = true:=by
  show memK S ((n.toNat:Nat):Int) = true
  rw [show ((n.toNat:Nat):Int) = n by omega]; exact hm'
 have hg:(pickK xs (keptI S xs.length))[(keptI S n.toNat).length]? = xs[n.toNat]?:=pick_at (p:=fun i=>memK S (i:Int)) hp2 (by omega);rw [hp];refine ⟨by omega,?_,by rw [Int.toNat_natCast]; exact hg,rfl⟩
 rcases Nat.lt_or_ge (keptI S n.toNat).length (pickK xs (keptI S xs.length)).length with h | h
 ·omega
 ·rw [List.getElem?_eq_none h,List.getElem?_eq_getElem (show n.toNat < xs.length by omega)] at hg; cases hg
theorem named_new {c:CodeM} {n:Int} {p:ByteArray->Bool} (h:namedM c n p = true) (hm:n ∈ (usesM c).s1):namedM (trimOk c) (posM (usesM c).s1 c.consts.length n) p = true:=by
 unfold namedM at h ⊢;rw [Bool.and_eq_true,inB_iff] at h ⊢;obtain ⟨⟨h0,h1⟩,h2⟩:=h;obtain ⟨p0,p1,p2,_⟩:=pos_at (xs:=c.consts) h0 (by omega) hm;have hl:(trimOk c).consts = pickK c.consts (keptI (usesM c).s1 c.consts.length):=rfl;rw [hl];refine ⟨⟨p0,by omega⟩,?_⟩;rw [List.getD_eq_getElem?_getD,p2,<- List.getD_eq_getElem?_getD]; exact h2
theorem renew_cls1 {c:CodeM} {k n:Int} (h:clsM k = 1):renewM c k n = posM (usesM c).s1 c.consts.length n:=by
 unfold renewM;have h':=h;unfold clsM at h;have:k = 2 \/ k = 3 \/ k = 4 \/ k = 5 \/ k = 6 \/ k = 7 \/ k = 8:=by
  apply Classical.byContradiction
  intro hh;rw [if_neg hh] at h;(repeat' split at h) <;> cases h
 rw [if_neg (by omega),if_neg (by omega),if_neg (by omega),if_pos h']
theorem posM_neg {S:List Int} {n:Nat}:posM S n (-1) = -1:=by unfold posM; rw [if_pos rfl]
theorem good_new {c:CodeM} {k n:Int} (h:goodM c k n = true) (hu:∀ q,clsM k = q->(q = 1 \/ q = 2 \/ q = 3)->n ∈ usG (usesM c) q) (hpl:k = 13->0 <= (atM c).getD n.toNat 0/\(atM c).getD n.toNat 0 < (trimOk c).ins.length):goodM (trimOk c) k (renewM c k n) = true:=by
 by_cases hc:clsM k = 1
 ·have hm:n ∈ (usesM c).s1:=hu 1 hc (.inl rfl)
  rw [renew_cls1 hc];have hk:k = 2 \/ k = 3 \/ k = 4 \/ k = 5 \/ k = 6 \/ k = 7 \/ k = 8:=by
   unfold clsM at hc
   apply Classical.byContradiction
   intro hh;rw [if_neg hh] at hc;(repeat' split at hc) <;> cases hc
  rcases hk with rfl | rfl | rfl | rfl | rfl | rfl | rfl
  ·exact named_new (p:=fun _=>true) h hm
  ·exact named_new (p:=kindIs 2) h hm
  ·exact named_new (p:=kindIs 3) h hm
  ·exact named_new (p:=kindIs 4) h hm
  ·exact named_new (p:=varB) h hm
  ·have h':(namedM c n (kindIs 2) || namedM c n (kindIs 4)) = true:=h
   show (namedM (trimOk c) _ (kindIs 2) || namedM (trimOk c) _ (kindIs 4)) = true
   rw [Bool.or_eq_true] at h' ⊢;exact h'.imp (fun e=>named_new e hm) (fun e=>named_new e hm)
  ·have h':(decide (n = -1) || namedM c n fun _=>true) = true:=h
   show (decide (_ = -1) || namedM (trimOk c) _ fun _=>true) = true
   rw [Bool.or_eq_true,decide_eq_true_eq] at h' ⊢;exact h'.imp (fun e=>by rw [e,posM_neg]) (fun e=>named_new e hm)
 by_cases h13:k = 13
 ·subst h13
  have hp:=hpl rfl;have e:renewM c 13 n = (atM c).getD n.toNat 0:=rfl;rw [e]
  show inB _ 0 _ = true
  rw [inB_iff]; omega
 by_cases h10:k = 10
 ·subst h10
  have hm:n ∈ (usesM c).s2:=hu 2 rfl (.inr (.inl rfl));have h':inB n 0 ((c.tmpls.length:Int) - 1) = true:=h;rw [inB_iff] at h';obtain ⟨p0,p1,_,_⟩:=pos_at (xs:=c.tmpls) h'.1 (by omega) hm
  show inB (posM (usesM c).s2 c.tmpls.length n) 0 (((pickK c.tmpls (keptI (usesM c).s2 c.tmpls.length)).length:Int) - 1) = true
  rw [inB_iff]; omega
 by_cases h11:k = 11
 ·subst h11
  have hm:n ∈ (usesM c).s3:=hu 3 rfl (.inr (.inr rfl));have h':inB n 0 ((c.lists.length:Int) - 1) = true:=h;rw [inB_iff] at h';obtain ⟨p0,p1,_,_⟩:=pos_at (xs:=c.lists) h'.1 (by omega) hm
  show inB (posM (usesM c).s3 c.lists.length n) 0 (((pickK c.lists (keptI (usesM c).s3 c.lists.length)).length:Int) - 1) = true
  rw [inB_iff]; omega
 by_cases h12:k = 12
 ·subst h12
  have hm:n ∈ (usesM c).s3:=hu 3 rfl (.inr (.inr rfl));have h':(decide (n = -1) || inB n 0 ((c.lists.length:Int) - 1)) = true:=h
  show (decide (posM (usesM c).s3 c.lists.length n = -1) || inB (posM (usesM c).s3 c.lists.length n) 0 (((pickK c.lists (keptI (usesM c).s3 c.lists.length)).length:Int) - 1)) = true
  rw [Bool.or_eq_true,decide_eq_true_eq,inB_iff] at h' ⊢
  rcases h' with h' | h'
  ·exact .inl (by rw [h',posM_neg])
  ·obtain ⟨p0,p1,_,_⟩:=pos_at (xs:=c.lists) h'.1 (by omega) hm
   exact .inr ⟨p0,by omega⟩
 have e:renewM c k n = n:=by
  unfold renewM;rw [if_neg h13,if_neg h10,if_neg (by omega),if_neg hc]
 rw [e];have hk:¬ (k = 2 \/ k = 3 \/ k = 4 \/ k = 5 \/ k = 6 \/ k = 7 \/ k = 8):=fun hh=>hc (by unfold clsM; rw [if_pos hh])
 unfold goodM at h ⊢;rw [if_neg (show ¬ k = 8 by omega),if_neg (show ¬ k = 2 by omega),if_neg (show ¬ k = 3 by omega),if_neg (show ¬ k = 4 by omega),if_neg (show ¬ k = 5 by omega),if_neg (show ¬ k = 6 by omega),if_neg (show ¬ k = 7 by omega),if_neg h10,if_neg h12,if_neg h11,if_neg h13] at h ⊢;exact h
end
section
open Go Q Go.RowKit
structure Ok (c:CodeM):Prop where
 lim:limitsM c = true
 par:partsM c = true
 rt:∀ i ∈ c.ins,rightM c i = true
 fin:(formAt (lastI c).op).final = true
theorem Ok.pos {c:CodeM} (h:Ok c):0 < c.ins.length:=parts_pos h.par
theorem Ok.nb {c:CodeM} (h:Ok c):reachBad c = false:=reachBad_ok h.lim h.par
theorem insAt_get {c:CodeM} {a:Nat} (h:a < c.ins.length):c.ins[a]? = some (insAt c a):=by rw [insAt,List.getD_eq_getElem?_getD,List.getElem?_eq_getElem h]; rfl
theorem Ok.rat {c:CodeM} (h:Ok c) {a:Nat} (ha:a < c.ins.length):rightM c (insAt c a) = true:=h.rt _ (List.mem_of_getElem? (insAt_get ha))
def phi (c:CodeM) (i:Nat):Nat:=(rK c i).length
def newN (c:CodeM):Nat:=(rK c c.ins.length).length
theorem rc_lt {c:CodeM} (h:Ok c) {i:Nat} (hr:rcAt c i = true):i < c.ins.length:=by
 have hl:=reachM_len h.nb
 apply Classical.byContradiction
 intro hge;unfold rcAt at hr;rw [List.getD_eq_getElem?_getD,List.getElem?_eq_none (by omega)] at hr
 cases hr
theorem phi_lt {c:CodeM} (h:Ok c) {i:Nat} (hr:rcAt c i = true):phi c i < newN c:=fK_lt hr (rc_lt h hr)
theorem newLen {c:CodeM}:(trimOk c).ins.length = newN c:=by
 show ((rK c c.ins.length).map _).length = _
 rw [List.length_map]; rfl
theorem ins_new {c:CodeM} (h:Ok c) {i:Nat} (hr:rcAt c i = true):insAt (trimOk c) (phi c i) = newIns c (insAt c i):=by
 unfold insAt;rw [List.getD_eq_getElem?_getD]
 show ((((rK c c.ins.length).map fun j=>newIns c (insAt c j))[phi c i]?).getD noIns) = _
 rw [List.getElem?_map,show (rK c c.ins.length)[phi c i]? = some i from fK_get hr (rc_lt h hr)]
 rfl
theorem newAt_rc {c:CodeM} {i:Nat} (hr:rcAt c i = true):newAt c i = (phi c i:Int):=by unfold newAt; rw [if_pos hr]; rfl
theorem atM_get {c:CodeM} {i:Nat} (h:i < c.ins.length):(atM c).getD i 0 = newAt c i:=by
 unfold atM;rw [List.getD_eq_getElem?_getD,List.getElem?_map,List.getElem?_range h]; rfl
theorem psi_ex {c:CodeM} {j:Nat} (hj:j < newN c):∃ i,i < c.ins.length/\rcAt c i = true/\phi c i = j:=by
 have hj':j < (rK c c.ins.length).length:=hj;obtain ⟨h1,h2,h3⟩:=fK_idx (List.getElem?_eq_getElem hj');exact ⟨_,h1,h2,h3⟩
theorem Ok.step {c:CodeM} (h:Ok c) {a n:Nat} (hr:rcAt c a = true) (hn:n ∈ toL c a):rcAt c n = true:=(reach_spec h.nb).2.1 a hr n hn
theorem Ok.root {c:CodeM} (h:Ok c) {x:Nat} (hx:x ∈ rootsM c):rcAt c x = true:=(reach_spec h.nb).2.2 x hx
theorem Ok.root0 {c:CodeM} (h:Ok c):rcAt c 0 = true:=h.root (by simp [rootsM,rootsK])
theorem label_root {c:CodeM} (h:Ok c) {s:SpotM} (hs:s ∈ c.labels):s.at_.toNat ∈ rootsM c:=by
 have hin:=labels_in h.par s hs;unfold rootsM rootsK;rw [List.take_length];refine List.mem_cons_of_mem _ (List.mem_map.2 ⟨s,List.mem_filter.2 ⟨hs,?_⟩,rfl⟩);rw [rootOk,inB_iff]; omega
theorem notlast {c:CodeM} (h:Ok c) {a:Nat} (ha:a < c.ins.length) (hf:(formAt (insAt c a).op).final = false):a + 1 < c.ins.length:=by
 apply Classical.byContradiction
 intro hge;have:=h.fin;unfold lastI at this;rw [show c.ins.length - 1 = a by omega,hf] at this
 cases this
theorem place_good {c:CodeM} {i:InsM} (h:rightM c i = true) (hj:jumpOp i = true):(formAt i.op).k0 = 13/\0 <= i.a/\i.a < c.ins.length:=by
 have hk:(formAt i.op).k0 = 13:=by
  unfold jumpOp at hj;simp only [Bool.or_eq_true,decide_eq_true_eq] at hj
  rcases hj with e | e | e <;> rw [e] <;> decide +kernel
 unfold rightM at h;simp only [Bool.and_eq_true] at h;have h2:=h.2.1;rw [hk] at h2;have:goodM c 13 i.a = inB i.a 0 ((c.ins.length:Int) - 1):=rfl;rw [this,inB_iff] at h2;exact ⟨hk,h2.1,by omega⟩
theorem jump_lead {c:CodeM} {a:Nat} (hj:jumpOp (insAt c a) = true) (h0:0 <= (insAt c a).a) (h1:(insAt c a).a < c.ins.length):(insAt c a).a.toNat ∈ toL c a:=by
 unfold toL leadsM lead2;rw [if_pos (by rw [Bool.and_eq_true,inB_iff]; exact ⟨hj,by omega,by omega⟩)];simp
theorem newN_pos {c:CodeM} (h:Ok c):0 < newN c:=by have:=phi_lt h h.root0; omega
theorem phi_le {c:CodeM} {i:Nat}:phi c i <= i:=fK_le
theorem newN_le {c:CodeM}:newN c <= c.ins.length:=fK_le
end
section
open Go Q Go.RowKit
theorem kind_form {i:InsM}:(kindM i 0 = (formAt i.op).k0 \/ (formAt i.op).k0 = 23)/\(kindM i 1 = (formAt i.op).k1 \/ (formAt i.op).k1 = 23)/\(kindM i 2 = (formAt i.op).k2 \/ (formAt i.op).k2 = 23):=by
 have f12:(formAt 12).k0 = 23:=by decide +kernel
 have f21:(formAt 21).k0 = 23:=by decide +kernel
 have f19:(formAt 19).k1 = 23:=by decide +kernel
 have f22:(formAt 22).k2 = 23:=by decide +kernel
 refine ⟨?_,?_,?_⟩
 ·unfold kindM
  by_cases e:i.op = 12 \/ i.op = 21
  ·right; rcases e with e | e <;> rw [e] <;> assumption
  ·left
   rw [if_neg (by simp [e]),if_neg (by simp),if_pos rfl]
 ·unfold kindM
  by_cases e:i.op = 19
  ·right; rw [e]; exact f19
  ·left
   rw [if_neg (by simp [e]),if_neg (by simp),if_neg (by decide),if_pos rfl]
 ·unfold kindM
  by_cases e:i.op = 22
  ·right; rw [e]; exact f22
  ·left
   rw [if_neg (by simp),if_neg (by simp [e]),if_neg (by decide),if_neg (by decide)]
theorem good23 {c:CodeM} {n:Int}:goodM c 23 n = true:=by
 show rangedM 23 n = true
 rfl
theorem form13 {n:Int}:(formAt n).k1 ≠ 13/\(formAt n).k2 ≠ 13/\((formAt n).k0 = 13->n = 23 \/ n = 24 \/ n = 30):=by
 unfold formAt
 split
 ·have h:∀ k:Fin 47,(formL.getD k.val noForm).k1 ≠ 13/\(formL.getD k.val noForm).k2 ≠ 13/\((formL.getD k.val noForm).k0 = 13->((k.val:Nat):Int) = 23 \/ ((k.val:Nat):Int) = 24 \/ ((k.val:Nat):Int) = 30):=by decide +kernel
  have hk:1 <= n/\n <= 46:=by
   have:=‹opOk n = true›
   unfold opOk at this
   simpa using this
  have:=h ⟨n.toNat,by omega⟩;simp only at this;rw [show ((n.toNat:Nat):Int) = n by omega] at this;exact this
 ·exact ⟨by decide,by decide,fun h=>absurd h (by decide)⟩
theorem jump_of {i:InsM} {k:Nat} (hk:k < 3) (h:kindM i k = 13):k = 0/\jumpOp i = true:=by
 obtain ⟨f1,f2,f0⟩:=@form13 i.op;unfold kindM at h
 split at h
 ·cases h
 ·split at h
  ·cases h
  ·match k,hk with
   | 0,_=>
    rw [if_pos (by rfl)] at h;refine ⟨rfl,?_⟩;have:=f0 h;unfold jumpOp
    simpa using this
   | 1,_=>rw [if_neg (by decide),if_pos (by rfl)] at h; exact absurd h f1
   | 2,_=>rw [if_neg (by decide),if_neg (by decide)] at h; exact absurd h f2
theorem good_fld {c:CodeM} (h:Ok c) {a:Nat} (hr:rcAt c a = true) {k:Nat} (hk:k < 3) (hg:goodM c (kindM (insAt c a) k) (fldM (insAt c a) k) = true) :
  goodM (trimOk c) (kindM (insAt c a) k) (renewM c (kindM (insAt c a) k) (fldM (insAt c a) k)) = true:=by
 have ha:=rc_lt h hr;refine good_new hg (fun q hq hq'=>uses_of hq' ha hr hk hq) (fun h13=>?_);obtain ⟨rfl,hj⟩:=jump_of hk h13;obtain ⟨_,h0,h1⟩:=place_good (h.rat ha) hj;have hf:fldM (insAt c a) ((0:Nat):Int) = (insAt c a).a:=rfl;rw [hf,newLen,atM_get (by omega)];have hr1:=h.step hr (jump_lead hj h0 h1);rw [newAt_rc hr1];have:=phi_lt h hr1;omega
theorem special_new {c:CodeM} (h:Ok c) {a:Nat} (hr:rcAt c a = true) (hs:specialM c (insAt c a) = true) (hg0:opOk (insAt c a).op = true):specialM (trimOk c) (newIns c (insAt c a)) = true:=by
 have ha:=rc_lt h hr;have hfld:=fun k hk hg=>good_fld h hr (k:=k) hk hg
 have hu:=fun (f:Nat) hf hc=>uses_of (c:=c) (j:=a) (f:=f) (q:=1) (.inl rfl) ha hr hf hc
 rw [newIns_eq];generalize hi:insAt c a = i at *;unfold specialM at hs ⊢;simp only;have neg23:∀ n,renewM c 23 n = n:=fun n=>rfl
 have neg15:∀ n,renewM c 15 n = n:=fun n=>rfl
 have neg14:∀ n,renewM c 14 n = n:=fun n=>rfl
 by_cases e1:i.op = 12 \/ i.op = 21
 ·rw [if_pos e1] at hs ⊢
  have k0:kindM i 0 = 2:=by unfold kindM; rw [if_pos (.inl ⟨e1,rfl⟩)]
  have k2:kindM i 2 = 14:=by
   rw [kind2_of (by omega)]
   rcases e1 with e | e <;> rw [e] <;> decide +kernel
  rw [k0,k2,neg14,renew_cls1 rfl];exact named_new hs (hu 0 (by omega) (by show clsM (kindM i 0) = 1; rw [k0]; rfl))
 rw [if_neg e1] at hs ⊢
 by_cases e2:i.op = 19
 ·rw [if_pos e2] at hs ⊢
  have k0:kindM i 0 = 15:=kind0_19 e2;rw [k0,neg15]
  by_cases ea:i.a = 1
  ·have k1:kindM i 1 = 2:=by unfold kindM; rw [if_pos (.inr ⟨e2,rfl,ea⟩)]
   rw [ea] at hs ⊢;have hg:goodM c 2 i.b = true:=by simpa using hs
   have:=hfld 1 (by omega) (by show goodM c (kindM i 1) i.b = true; rw [k1]; exact hg);have h3:goodM (trimOk c) 2 (renewM c 2 i.b) = true:=by
    have h4:goodM (trimOk c) (kindM i 1) (renewM c (kindM i 1) i.b) = true:=this;rw [k1] at h4; exact h4
   rw [k1,h3]; simp
  ·have k1:kindM i 1 = 23:=by
    unfold kindM; rw [if_neg (by simp [ea,e1]),if_neg (by simp [e2]),if_neg (by decide),if_pos rfl,e2]; decide +kernel
   rw [k1,neg23]
   simpa [ea] using hs
 rw [if_neg e2] at hs ⊢
 by_cases e3:i.op = 22
 ·rw [if_pos e3] at hs ⊢
  have k0:kindM i 0 = 23:=by rw [kind0_of (by omega),e3]; decide +kernel
  have k1:kindM i 1 = 15:=by rw [kind1_of (by omega),e3]; decide +kernel
  have k2:kindM i 2 = 8:=by unfold kindM; rw [if_neg (by simp [e3]),if_pos ⟨e3,rfl⟩]
  rw [k0,k1,k2,neg23,neg15];rw [Bool.and_eq_true] at hs ⊢;refine ⟨hs.1,?_⟩;have h2:=hs.2;rw [Bool.or_eq_true,decide_eq_true_eq,Bool.and_eq_true] at h2 ⊢
  rcases h2 with h2 | ⟨h2,h3⟩
  ·left; rw [h2,renew_cls1 rfl,posM_neg]
  ·right
   refine ⟨h2,?_⟩;rw [renew_cls1 rfl];exact named_new (p:=kindIs 2) h3 (hu 2 (by omega) (by show clsM (kindM i 2) = 1; rw [k2]; rfl))
 rw [if_neg e3]
theorem right_new {c:CodeM} (h:Ok c) {a:Nat} (hr:rcAt c a = true):rightM (trimOk c) (newIns c (insAt c a)) = true:=by
 have ha:=rc_lt h hr;have hrt:=h.rat ha;unfold rightM at hrt ⊢;simp only [Bool.and_eq_true] at hrt ⊢;obtain ⟨h0,h1,h2,h3,h4⟩:=hrt;have hop:(newIns c (insAt c a)).op = (insAt c a).op:=by rw [newIns_eq]
 obtain ⟨q0,q1,q2⟩:=@kind_form (insAt c a);rw [hop];refine ⟨h0,?_,?_,?_,special_new h hr h4 h0⟩
 ·rcases q0 with q | q
  ·have:=good_fld h hr (k:=0) (by omega) (by show goodM c (kindM (insAt c a) 0) (insAt c a).a = true; rw [q]; exact h1)
   have h5:goodM (trimOk c) (kindM (insAt c a) 0) (renewM c (kindM (insAt c a) 0) (insAt c a).a) = true:=this;rw [newIns_eq,<- q]; exact h5
  ·rw [q]; exact good23
 ·rcases q1 with q | q
  ·have:=good_fld h hr (k:=1) (by omega) (by show goodM c (kindM (insAt c a) 1) (insAt c a).b = true; rw [q]; exact h2)
   have h5:goodM (trimOk c) (kindM (insAt c a) 1) (renewM c (kindM (insAt c a) 1) (insAt c a).b) = true:=this;rw [newIns_eq,<- q]; exact h5
  ·rw [q]; exact good23
 ·rcases q2 with q | q
  ·have:=good_fld h hr (k:=2) (by omega) (by show goodM c (kindM (insAt c a) 2) (insAt c a).c = true; rw [q]; exact h3)
   have h5:goodM (trimOk c) (kindM (insAt c a) 2) (renewM c (kindM (insAt c a) 2) (insAt c a).c) = true:=this;rw [newIns_eq,<- q]; exact h5
  ·rw [q]; exact good23
theorem right_all {c:CodeM} (h:Ok c):∀ i ∈ (trimOk c).ins,rightM (trimOk c) i = true:=by
 intro i hi;obtain ⟨j,hj,rfl⟩:=List.mem_map.1 (show i ∈ (rK c c.ins.length).map fun j=>newIns c (insAt c j) from hi);exact right_new h (fK_mem.1 hj).2
theorem labs_new {c:CodeM} (h:Ok c):∀ (l:List SpotM) (last:Nat),(∀ s ∈ l,s ∈ c.labels)->(last = 0 \/ rcAt c last = true)->(allS (labS c.ins.length) (last:Int) l).1 = true ->
  (allS (labS (newN c)) (phi c last:Int) (l.map fun s=>⟨s.name,(atM c).getD s.at_.toNat 0⟩)).1 = true
 | [],_,_,_,_=>rfl
 | s :: l,last,hm,hl,ha=>by
  have hs:=hm s List.mem_cons_self;have hin:=labels_in h.par s hs;have hr:=h.root (label_root h hs);have hat:(atM c).getD s.at_.toNat 0 = (phi c s.at_.toNat:Int):=by rw [atM_get (by omega),newAt_rc hr]
  rw [allS_cons,show labS c.ins.length last s = ((labS c.ins.length last s).1,(labS c.ins.length last s).2) from rfl] at ha;rw [List.map_cons,allS_cons]
  cases h1:(labS c.ins.length last s).1 with
  | false=>rw [h1] at ha; cases ha
  | true=>
   rw [h1] at ha;simp only at ha;simp only [labS,Bool.and_eq_true,inB_iff] at h1;have hmax:max (last:Int) s.at_ = ((s.at_.toNat:Nat):Int):=by omega
   simp only [labS,hmax] at ha;have hle:phi c last <= phi c s.at_.toNat:=fK_mono (by omega);have hlt:=phi_lt h hr;have e:labS (newN c) (phi c last:Int) ⟨s.name,(atM c).getD s.at_.toNat 0⟩ = (true,(phi c s.at_.toNat:Int)):=by
    unfold labS;simp only [hat]
    congr 1
    ·rw [h1.1,Bool.true_and,inB_iff]; omega
    ·omega
   rw [e];exact labs_new h l s.at_.toNat (fun x hx=>hm x (List.mem_cons_of_mem _ hx)) (.inr hr) ha
theorem parts_new {c:CodeM} (h:Ok c):partsM (trimOk c) = true:=by
 have hp:=h.par;unfold partsM at hp ⊢;simp only [Bool.and_eq_true,Bool.not_eq_true',decide_eq_false_iff_not,List.all_eq_true] at hp ⊢;obtain ⟨h1,h2,h3,h4,h5,h6⟩:=hp;refine ⟨by rw [newLen]; have:=newN_pos h; omega,fun x hx=>h2 x (pick_mem hx),fun x hx=>h3 x (pick_mem hx),fun x hx=>h4 x (pick_mem hx),?_,h6⟩;rw [newLen];have:=labs_new h c.labels 0 (fun _ hs=>hs) (.inl rfl) h5;have e0:phi c 0 = 0:=by have:=@phi_le c 0; omega
 rw [e0] at this;exact this
theorem limits_new {c:CodeM} (h:Ok c):limitsM (trimOk c) = true:=by
 have hl:=h.lim;have hb:=limits_bd hl;unfold limitsM at hl ⊢;simp only [Bool.and_eq_true,List.all_eq_true] at hl ⊢;obtain ⟨h1,h2,h3,h4,h5⟩:=hl;refine ⟨?_,fun x hx=>h2 x (pick_mem hx),fun x hx=>h3 x (pick_mem hx),fun x hx=>h4 x (pick_mem hx),?_⟩
 ·have pl:∀ {α:Type} (xs:List α) (S:List Int),(pickK xs (keptI S xs.length)).length <= xs.length:=fun xs S=>by
   rw [pick_len fun k hk=>kept_lt hk]; exact keptI_len
  have e1:=pl c.consts (usesM c).s1;have e2:=pl c.tmpls (usesM c).s2;have e3:=pl c.lists (usesM c).s3;have e4:(trimOk c).labels.length = c.labels.length:=by show (c.labels.map _).length = _; rw [List.length_map]
  have e5:=@newN_le c;intro p hp;unfold sizesL at hp;have f1:(trimOk c).consts = pickK c.consts (keptI (usesM c).s1 c.consts.length):=rfl;have f2:(trimOk c).tmpls = pickK c.tmpls (keptI (usesM c).s2 c.tmpls.length):=rfl;have f3:(trimOk c).lists = pickK c.lists (keptI (usesM c).s3 c.lists.length):=rfl;have f5:(trimOk c).slots = c.slots:=rfl;rw [newLen,e4,f1,f2,f3,f5] at hp;simp only [List.mem_cons,List.not_mem_nil,or_false] at hp
  rcases hp with rfl | rfl | rfl | rfl | rfl | rfl <;> simp only [decide_eq_true_eq] <;> omega
 ·intro s hs
  obtain ⟨s0,hs0,rfl⟩:=List.mem_map.1 (show s ∈ c.labels.map fun s=>(⟨s.name,(atM c).getD s.at_.toNat 0⟩:SpotM) from hs);exact h5 s0 hs0
theorem final_new {c:CodeM} (h:Ok c):(formAt (lastI (trimOk c)).op).final = true:=by
 have hp:=newN_pos h;obtain ⟨i,hi,hr,he⟩:=psi_ex (c:=c) (j:=newN c - 1) (by omega);unfold lastI;rw [newLen,<- he,ins_new h hr];have hop:(newIns c (insAt c i)).op = (insAt c i).op:=by rw [newIns_eq]
 rw [hop]
 cases hf:(formAt (insAt c i).op).final with
 | true=>rfl
 | false=>
  exfalso
  have h1:=notlast h hi hf;have hr1:rcAt c (i + 1) = true:=h.step hr (by
   unfold toL leadsM lead1;rw [if_pos (by rw [hf]; simpa using h1)]; simp)
  have h2:=phi_lt h hr1;have h3:phi c (i + 1) = phi c i + 1:=by
   show (fK (rcAt c) (i + 1)).length = (fK (rcAt c) i).length + 1
   rw [fK_next,if_pos hr]
  omega
theorem Ok.new {c:CodeM} (h:Ok c):Ok (trimOk c):=⟨limits_new h,parts_new h,right_all h,final_new h⟩
end
section
open Go Q Go.RowKit
end
section
open Go Q Go.RowKit
theorem ok_of {c:CodeM} (h:(checkM c).1 = 0):Ok c:=by
 obtain ⟨_,h1,h2,h3,h4,_⟩:=check_ok h;exact ⟨h1,h2,h3,h4⟩
structure Tight (c:CodeM):Prop where
 ok:Ok c
 all:∀ j,j < c.ins.length->rcAt c j = true
 u1:∀ p:Nat,p < c.consts.length->(p:Int) ∈ (usesM c).s1
 u2:∀ p:Nat,p < c.tmpls.length->(p:Int) ∈ (usesM c).s2
 u3:∀ p:Nat,p < c.lists.length->(p:Int) ∈ (usesM c).s3
theorem Tight.at_ {c:CodeM} (h:Tight c) {j:Nat} (hj:j < c.ins.length):(atM c).getD j 0 = j:=by
 rw [atM_get hj,newAt_rc (h.all j hj)];unfold phi rK;rw [show (List.range j).filter (rcAt c) = fK (rcAt c) j from rfl,fK_all fun i hi=>h.all i (by omega),List.length_range]
end
section
open Go Q Go.RowKit
theorem refEnc_of {z:Z} {w:World} {v:Value} {c:CodeM} (hc:CodeR z v c):Fn1 36 #[v] z w fun z' r=>∃ vb,r = .agg [vb,.int .i64 (encE c)].toArray/\SlR El.byte z' vb (encB c):=Fn1.intro fun hS=>en36 (by
 unfold vc36;obtain ⟨a1,a2,a3,a4,a5,a6,k1,k2,k3,k4,k5,k6,rfl,h1,h2,h3,h4,h5,h6⟩:=hc.form;generalize hRR:(fun (v:Value) (w':World)=>∃ z' L',Res w z [] w' z' L'/\∃ vb,v = .agg [vb,.int .i64 (encE c)].toArray/\SlR El.byte z' vb (encB c)) = RR;refine iV_bx ?_;intro bc w1 hbc hS1;obtain ⟨zc,hzc,hS2,hatc⟩:=hS1.frz bc;have hR:∀ z' w' L' vb e,Res w1 zc [] w' z' L'->e = encE c->SlR El.byte z' vb (encB c)->RR (.agg [vb,.int .i64 e].toArray) w':=fun z' w' L' vb e k he hd=>by rw [<- hRR,he]; exact ⟨z',L',hS2.comp k,vb,rfl,hd⟩
 clear hRR;have hS3:=hS2.self;clear hS hS1 hS2;have hcc:=hc.mono hzc;haveI:Fz zc bc 0 (codeVs a1 a2 a3 a4 a5 a6 k1 k2 k3 k4 k5 k6 c):=⟨hatc⟩
 refine iV_al ?_;intro b2 w4 hb2 hS4;clear hS3;refine fV_ldN ?_;refine CV_1 (refCheck_of (hcc.mono hS4.zle)) ?_;rintro z5 w5 v5 hz5 hS5 rfl
 clear hS4;refine iV_al ?_;intro b3 w6 hb3 hS6;refine iU_st ?_;intro w7 hS7;clear hS5 hS6;(repeat (first | refine V_run ?_ | refine iV_ld1 ?_));refine Cond_n (fun hck=>?_) (fun hck=>?_)
 ·have hck:¬ (checkM c).1 = 0:=by simpa using hck
  (repeat (first | refine V_run ?_ | refine iV_ld1 ?_ | (refine iU_st ?_; intro _ _) | refine iHV_N ?_));exact hR _ _ _ _ _ (by assumption) (by unfold encE; rw [if_neg hck]) (by unfold encB; rw [if_neg hck]; exact SlR.nil)
 have hck:(checkM c).1 = 0:=by simpa using hck
 have hok:=ok_of hck;have hsm:=small_of hok.lim hok.par hok.rt;have hlen:=encM_len hsm;refine fV_ldN ?_;refine CV_fn0 (fun _=>refEncode_of (hcc.mono hS7.zle) hsm) ?_;rintro z8 B8 w8 v8 hz8 hS8 ho8
 clear hS7;obtain ⟨z9,hz9,hS9,hv9⟩:=Res.freezeSl (E:=El.byte) (e:=5) (xs:=encM c) (f:=fun x=>[Value.int .u8 x.toNat]) hS8 (by rw [byteCells_flat]; exact ho8) (by simp only [big]; omega) (fun _=>rfl) (fun _ _ _=>rfl);clear hS8;obtain ⟨_,av,cv,rfl,_,_⟩:=hv9.form;(repeat (refine V_run ?_));refine Cond_d (fun h=>?_) (fun h=>?_)
 ·(repeat (first | refine V_run ?_ | (refine iU_st ?_; intro _ _) | refine iHV_N ?_))
  exact hR _ _ _ _ _ (by assumption) (by unfold encE; rw [if_pos hck,if_pos (by omega)]) (by unfold encB; rw [if_pos hck,if_pos (by omega)]; exact SlR.nil)
 ·(repeat (first | refine V_run ?_ | (refine iU_st ?_; intro _ _) | refine iHV_N ?_))
  refine hR _ _ _ _ _ (by assumption) (by unfold encE; rw [if_pos hck,if_neg (by omega)]) (by unfold encB; rw [if_pos hck,if_neg (by omega)]; exact hv9.mono (by (repeat (exact Le.refl _)))))
end
section
open Go Q Go.RowKit
theorem pow_le {k:Nat} (h:k <= 7):128 ^ k <= 562949953421312:=by
 have:(128:Nat) ^ k <= 128 ^ 7:=Nat.pow_le_pow_right (by decide) h;rw [show (128:Nat) ^ 7 = 562949953421312 by decide] at this;exact this
theorem number_ok {z:Z} {w:World} {bs cap:Nat} {ab:Option Addr} {b:List UInt8} {p:Nat} {lo hi:Int} (hb:SlR El.byte z (.slice ab b.length cap) b) (hl:b.length <= 1000000) (hp:p <= b.length) (hlo:-far <= lo) (hhi:hi <= far) :
  Fn 181 #[.pointer (some ⟨bs,0,none⟩),.int .i64 lo,.int .i64 hi] z [srcB bs ab b.length cap p (-1)] w fun z' B' r=>
   (∃ n q,numR b lo hi p = .ok (n,q)/\r = .int .i64 n/\q <= b.length/\B' = [srcB bs ab b.length cap q (-1)]) \/ (∃ e q:Nat,numR b lo hi p = .error e/\r = .int .i64 0/\q <= b.length/\B' = [srcB bs ab b.length cap q e]):=Fn.intro fun hS=>en181 (by
 unfold vc181;have hbel:=hb.form;obtain ⟨_,_,_,hve,_,hel⟩:=hbel
 cases hve
 have hnum:numR b lo hi p = match grpR b p 7 0 0 p with
   | .error e=>.error e
   | .ok (u,q)=>if inB (unzig u) lo hi = true then .ok (unzig u,q) else .error p:=rfl
 generalize hX:grpR b p 7 0 0 p = X at hnum;refine NilW_some ?_;(repeat (first | refine V_run ?_ | refine iV_ld1 ?_));intro Ka hKa;have ma:∀ (u q:Nat) w' z',Res w z [srcB bs ab b.length cap p (-1)] w' z' [srcB bs ab b.length cap q (-1)]->X = .ok (u,q)->u < 562949953421312->q <= b.length->Ka [.int .i64 u] w':=by
  intro u q w1 z1 hS1 hXu hu hq;refine hKa _ _ fun _=>?_
  clear hKa hS;subst hXu;simp only at hnum;haveI:InR 0 2:=⟨by decide,by decide⟩
  haveI:InI (u:Int):=⟨by omega⟩
  haveI:InI ((u:Int) + 1):=⟨by omega⟩
  have hquo:(u:Int).tdiv 2 = ((u / 2:Nat):Int):=by rw [Int.tdiv_eq_ediv_of_nonneg (by omega)]; omega
  have hrem:(u:Int).tmod 2 = ((u % 2:Nat):Int):=by rw [Int.tmod_eq_emod_of_nonneg (by omega)]; omega
  refine V_run ?_;intro Kb hKb;have mb:∀ n:Int,n = unzig u->Kb [.int .i64 n] w1:=by
   rintro n rfl
   refine hKb _ _ fun _=>?_
   clear hKb;refine NilW_some ?_;(repeat (first | refine V_run ?_ | refine iV_ld1 ?_ | (refine JC ?_; intro _ _ _ _)));rename_i hS2;simp only [show decide ((-1:Int) < 0) = true from rfl,cond_true];refine Cond_n (fun hn=>?_) (fun hn=>?_)
   ·refine CV_fn (B:=[srcB bs ab b.length cap q (-1)]) (F:=[]) (by simpa using hS2) (refFail_of (e:=(p:Int))) (by simp) ?_
    rintro z3 B3 w3 v3 hz3 hS3 ⟨rfl,rfl⟩
    rw [if_pos (by decide)] at hS3;simp only [List.append_nil] at hS3;exact ⟨_,_,hS3,.inr ⟨p,q,by rw [hnum,if_neg (by rw [hn]; simp)],trivial,hq,rfl⟩⟩
   ·exact ⟨_,_,hS2,.inl ⟨_,q,by rw [hnum,if_pos hn],rfl,hq,rfl⟩⟩
  clear hKb;refine V_run ?_;rw [hrem,hquo];(repeat (refine V_run ?_));refine Cond_d (fun e=>?_) (fun e=>?_)
  ·have hw1:IntKind.i64.wrap (0 - ((u:Int) + 1)) = -((u:Int) + 1):=by rw [wrap_in (by unfold inI; omega)]; omega
   have hw2:(-((u:Int) + 1)).tdiv 2 = -(((u + 1) / 2:Nat):Int):=by rw [Int.neg_tdiv,Int.tdiv_eq_ediv_of_nonneg (by omega)]; omega
   (repeat (refine V_run ?_));rw [hw1,hw2,wrap_in (by unfold inI; omega)];refine mb _ ?_;unfold unzig;rw [if_pos (by omega)]
  ·refine mb _ ?_
   unfold unzig;rw [if_neg (by omega)]
 clear hKa;refine LoopG2 (fun (s:Nat × Nat × Nat) x y w'=>x = .int .i64 (s.2.1:Nat)/\y = .int .i64 (s.1:Nat)/\s.1 <= 6/\s.2.1 < 128 ^ s.1/\s.2.2 <= b.length/\grpR b p (7 - s.1) s.1 s.2.1 s.2.2 = X/\∃ z',Le z z'/\Res w z [srcB bs ab b.length cap p (-1)] w' z' [srcB bs ab b.length cap s.2.2 (-1)]) (fun s=>7 - s.1) (0,0,p) ⟨rfl,rfl,by simp,by simp,hp,hX,z,Le.refl _,hS⟩ ?_;rintro I M ⟨k,u,q⟩ x y w1 m ⟨rfl,rfl,hk,hu,hq,hg,z1,hz1,hS1⟩ back
 simp only at hk hu hq hg hS1;dsimp only;clear hS hX;have hp7:=pow_le (k:=k) (by omega);have hfu:7 - k = (7 - (k + 1)) + 1:=by omega
 rw [hfu,grpR] at hg;refine NilW_some ?_;(repeat (first | (refine iDr ?_; intro _ _) | refine V_run ?_ | refine PV_run ?_ | refine iV_ld1 ?_ | refine iHV_1 ?_ | refine Cond_t ?_));rename_i hS2;refine Cond_d (fun h=>?_) (fun h=>?_)
 ·have hn:b[q]? = none:=List.getElem?_eq_none (by omega)
  rw [hn] at hg;simp only at hg;subst hg;refine NilW_some ?_;(repeat (first | refine V_run ?_ | refine iV_ld1 ?_));refine CV_fn (B:=[srcB bs ab b.length cap q (-1)]) (F:=[]) (by simpa using hS2) (refFail_of (e:=(b.length:Int))) (by simp) ?_;rintro z3 B3 w3 v3 hz3 hS3 ⟨rfl,rfl⟩
  rw [if_pos (by decide)] at hS3;simp only [List.append_nil] at hS3;exact ⟨_,_,hS3,.inr ⟨b.length,q,hnum,rfl,hq,rfl⟩⟩
 have hqlt:q < b.length:=by omega
 have hbq:b[q]? = some b[q]:=List.getElem?_eq_getElem hqlt;rw [hbq] at hg;simp only at hg;obtain ⟨bb,off,cs,rfl,hcs,hat⟩:=hel _ _ hbq
 cases hcs
 generalize b[q] = x at *;have hx:=x.toNat_lt;haveI:InR (q:Int) (b.length:Nat):=⟨by omega,by omega⟩
 haveI:InI ((q:Int) + 1):=⟨by omega⟩
 haveI:Fz z bb (off + (q:Int).toNat * 1) [.int .u8 (x.toNat:Nat)]:=⟨by rw [Int.toNat_natCast]; exact hat⟩
 refine iDr ?_;intro w3 hS3;clear hS1 hS2;refine NilW_some ?_;(repeat (first | refine V_run ?_ | refine PV_run ?_ | refine iV_ld1 ?_ | (refine iU_st ?_; intro _ _) | refine iHV_1 ?_ | refine iRI_1 ?_ | refine JB ?_ | refine fHV_ld1 ?_));rename_i z4 w4 hS4;have hxw:IntKind.i64.wrap ((x.toNat:Nat):Int) = ((x.toNat:Nat):Int):=wrap_in (by unfold inI; omega);simp only [hxw];refine Cond_b (fun e=>?_) (fun e=>?_)
 ·have e':k = 6 \/ (0 < k/\x.toNat = 0):=by
   simp only [Bool.cond_true_left,Bool.cond_false_right,Bool.or_eq_true,Bool.and_eq_true,decide_eq_true_eq] at e; omega
  rw [if_pos e'] at hg;subst hg;refine CV_fn (B:=[srcB bs _ b.length cap ((q:Int) + 1) (-1)]) (F:=[]) (by simpa using hS4) (refFail_of (e:=(p:Int))) (by simp) ?_;rintro z5 B5 w5 v5 hz5 hS5 ⟨rfl,rfl⟩
  rw [if_pos (by decide)] at hS5;simp only [List.append_nil] at hS5;exact ⟨_,_,hS5,.inr ⟨p,q + 1,hnum,trivial,by omega,rfl⟩⟩
 ·have e':¬ (k = 6 \/ (0 < k/\x.toNat = 0)):=by
   simp only [Bool.cond_true_left,Bool.cond_false_right,Bool.or_eq_false_iff,Bool.and_eq_false_iff,decide_eq_false_iff_not] at e; omega
  rw [if_neg e'] at hg;have hk5:k <= 5:=by omega
  refine LoopR2 (fun (i:Nat) x y=>x = .int .i64 ((128 ^ i:Nat):Int)/\y = .int .i64 i/\i <= k) (fun i=>k - i) 0 ⟨by simp,rfl,Nat.zero_le _⟩ ?_;rintro J N i x' y' w5 z5 m5 ⟨rfl,rfl,hi⟩ hz5 hS5 back5
  have hpi:=pow_le (k:=i + 1) (by omega);have hps:128 ^ (i + 1) = 128 ^ i * 128:=rfl;haveI:InI ((i:Int) + 1):=⟨by omega⟩
  haveI:InI (((128 ^ i:Nat):Int) * 128):=⟨by omega⟩
  refine V_run ?_;refine Cond_d (fun h5=>?_) (fun h5=>?_)
  ·refine V_run ?_
   refine V_run ?_;exact back5 (i + 1) _ _ _ _ ⟨by rw [hps]; simp,by simp,by omega⟩ (Le.refl _) hS5 (by omega)
  ·have hik:i = k:=by omega
   subst hik;clear back5;have hrem:((x.toNat:Nat):Int).tmod 128 = ((x.toNat % 128:Nat):Int):=by rw [Int.tmod_eq_emod_of_nonneg (by omega)]; omega
   have hmul:((x.toNat % 128:Nat):Int) * ((128 ^ i:Nat):Int) = ((x.toNat % 128 * 128 ^ i:Nat):Int):=(Int.natCast_mul _ _).symm;have hm:x.toNat % 128 * 128 ^ i <= 127 * 128 ^ i:=Nat.mul_le_mul_right _ (by omega);haveI:InR 0 128:=⟨by decide,by decide⟩
   haveI:InI (((x.toNat % 128:Nat):Int) * ((128 ^ i:Nat):Int)):=⟨by rw [hmul]; omega⟩
   refine V_run ?_;rw [hrem];refine V_run ?_;rw [hmul];haveI:InI ((u:Int) + ((x.toNat % 128 * 128 ^ i:Nat):Int)):=⟨by omega⟩
   refine V_run ?_;refine V_run ?_;rw [show (u:Int) + ((x.toNat % 128 * 128 ^ i:Nat):Int) = ((u + x.toNat % 128 * 128 ^ i:Nat):Int) by omega];refine Cond_d (fun h6=>?_) (fun h6=>?_)
   ·rw [if_pos (by omega)] at hg
    exact ma _ (q + 1) _ _ hS5 hg.symm (by omega) (by omega)
   ·rw [if_neg (by omega)] at hg
    refine V_run ?_;exact back (i + 1,u + x.toNat % 128 * 128 ^ i,q + 1) _ _ _ ⟨rfl,by simp,by simp only; omega,by simp only; omega,by simp only; omega,hg,_,hS5.zle,hS5⟩ (by simp only; omega))
end
section
open Go Q Go.RowKit
theorem number_bad {z:Z} {w:World} {bs n cap:Nat} {ab:Option Addr} {p bad lo hi:Int} (hbad:0 <= bad) :
  Fn 181 #[.pointer (some ⟨bs,0,none⟩),.int .i64 lo,.int .i64 hi] z [srcB bs ab n cap p bad] w fun z' B' r=>r = .int .i64 0/\B' = [srcB bs ab n cap p bad]:=Fn.intro fun hS=>en181 (by
 unfold vc181;refine NilW_some ?_;(repeat (first | refine V_run ?_ | refine iV_ld1 ?_));intro Ka hKa;have ma:∀ w' z',Res w z [srcB bs ab n cap p bad] w' z' [srcB bs ab n cap p bad]->Ka [.int .i64 0] w':=by
  intro w1 z1 hS1;refine hKa _ _ fun _=>?_
  clear hKa hS;haveI:InR 0 2:=⟨by decide,by decide⟩
  refine V_run ?_;intro Kb hKb;have mb:Kb [.int .i64 0] w1:=by
   refine hKb _ _ fun _=>?_
   clear hKb;refine NilW_some ?_;(repeat (first | refine V_run ?_ | refine iV_ld1 ?_ | (refine JC ?_; intro _ _ _ _)));simp only [show decide (bad < 0) = false from decide_eq_false (by omega),cond_false];refine Cond_not rfl ?_;exact ⟨_,_,‹_›,trivial,rfl⟩
  clear hKb;(repeat (first | refine V_run ?_ | refine Cond_f ?_));exact mb
 clear hKa;refine LoopG2 (fun (_:Unit) x y w'=>x = .int .i64 0/\y = .int .i64 0/\∃ z',Res w z [srcB bs ab n cap p bad] w' z' [srcB bs ab n cap p bad]) (fun _=>0) () ⟨rfl,rfl,z,hS⟩ ?_;rintro I M _ x y w1 m ⟨rfl,rfl,z1,hS1⟩ back
 clear hS back;refine NilW_some ?_;(repeat (first | refine V_run ?_ | refine iV_ld1 ?_));refine Cond_d (fun h=>absurd h (by omega)) (fun _=>?_);exact ma _ _ (by assumption))
end
section
open Go Q Go.RowKit
abbrev St:=Except Nat Nat
def numS (b:List UInt8) (lo hi:Int) (st:St):Int × St:=match st with
 | .error e=>(0,.error e)
 | .ok p=>match numR b lo hi p with
  | .ok (n,q)=>(n,.ok q)
  | .error e=>(0,.error e)
def strS (b:List UInt8) (st:St):ByteArray × St:=match numS b 0 1000 st with
 | (_,.error e)=>(⟨#[]⟩,.error e)
 | (n,.ok q)=>if n > (b.length:Int) - q then (⟨#[]⟩,.error b.length) else (⟨((b.drop q).take n.toNat).toArray⟩,.ok (q + n.toNat))
def seqS {α:Type} (f:St->α × St):Nat->St->List α × St
 | 0,st=>([],st)
 | _ + 1,.error e=>([],.error e)
 | n + 1,.ok p=>((f (.ok p)).1 :: (seqS f n (f (.ok p)).2).1,(seqS f n (f (.ok p)).2).2)
def manyS {α:Type} (b:List UInt8) (top:Int) (f:St->α × St) (st:St):List α × St:=seqS f (numS b 0 top st).1.toNat (numS b 0 top st).2
def partS (b:List UInt8) (st:St):PartM × St:=
 (⟨(numS b (-far) far st).1,(strS b (numS b (-far) far st).2).1,(numS b (-far) far (strS b (numS b (-far) far st).2).2).1⟩,(numS b (-far) far (strS b (numS b (-far) far st).2).2).2)
def itemS (b:List UInt8) (st:St):ItemM × St:=(⟨(strS b (numS b 0 1 st).2).1,decide ((numS b 0 1 st).1 = 1)⟩,(strS b (numS b 0 1 st).2).2)
def spotS (b:List UInt8) (st:St):SpotM × St:=(⟨(strS b (numS b (-far) far st).2).1,(numS b (-far) far st).1⟩,(strS b (numS b (-far) far st).2).2)
def insS (b:List UInt8) (st:St):InsM × St:=
 let o:=numS b (-far) far st
 let x:=numS b (-far) far o.2
 let y:=numS b (-far) far x.2
 let v:=numS b (-far) far y.2
 (⟨o.1,x.1,y.1,v.1⟩,v.2)
def Ag {α:Type} (x:α × St) (y:Except Nat (α × Nat)):Prop:=match y with
 | .ok (a,q)=>x = (a,.ok q)
 | .error e=>x.2 = .error e
structure Rd {α:Type} (f:St->α × St) (g:Nat->Except Nat (α × Nat)):Prop where
 ok:∀ p,Ag (f (.ok p)) (g p)
 er:∀ e,(f (.error e)).2 = .error e
theorem Rd.bind {α β:Type} {f:St->α × St} {g:Nat->Except Nat (α × Nat)} {f2:α->St->β × St} {g2:α->Nat->Except Nat (β × Nat)} (h:Rd f g) (h2:∀ a,Rd (f2 a) (g2 a)):Rd (fun st=>f2 (f st).1 (f st).2) (fun p=>andR (g p) g2) where
 ok:=fun p=>by
  have:=h.ok p;unfold andR
  cases hg:g p with
  | error e=>rw [hg] at this; simp only [Ag] at this ⊢; rw [this]; exact (h2 _).er e
  | ok x=>obtain ⟨a,q⟩:=x; rw [hg] at this; simp only [Ag] at this; simp only [this]; exact (h2 a).ok q
 er:=fun e=>by rw [h.er e]; exact (h2 _).er e
theorem Rd.pure {α:Type} (a:α):Rd (fun st=>(a,st)) (fun p=>.ok (a,p)):=⟨fun p=>rfl,fun e=>rfl⟩
theorem num_rd (b:List UInt8) (lo hi:Int):Rd (numS b lo hi) (numR b lo hi) where
 ok:=fun p=>by
  unfold numS;simp only
  cases numR b lo hi p with
  | error e=>rfl
  | ok x=>rfl
 er:=fun e=>rfl
theorem str_rd (b:List UInt8):Rd (strS b) (strR b) where
 ok:=fun p=>by
  have h:=(num_rd b 0 1000).ok p;unfold strS strR andR
  cases hn:numR b 0 1000 p with
  | error e=>
   rw [hn] at h;simp only [Ag] at h ⊢;rw [show numS b 0 1000 (.ok p) = ((numS b 0 1000 (.ok p)).1,.error e) from Prod.ext rfl h]
  | ok x=>
   obtain ⟨n,q⟩:=x;rw [hn] at h;simp only [Ag] at h;rw [h];simp only
   by_cases hc:n > (b.length:Int) - q
   ·rw [if_pos hc,if_pos hc]; rfl
   ·rw [if_neg hc,if_neg hc]; rfl
 er:=fun e=>rfl
theorem seq_rd {α:Type} {f:St->α × St} {g:Nat->Except Nat (α × Nat)} (h:Rd f g):∀ n:Nat,Rd (seqS f n) (seqR g n)
 | 0=>⟨fun p=>rfl,fun e=>rfl⟩
 | n + 1=>⟨fun p=>by
   have h1:=h.ok p;unfold seqR andR seqS
   cases hg:g p with
   | error e=>rw [hg] at h1; simp only [Ag] at h1 ⊢; rw [h1]; exact (seq_rd h n).er e
   | ok x=>
    obtain ⟨a,q⟩:=x;rw [hg] at h1;simp only [Ag] at h1;simp only [h1];have h2:=(seq_rd h n).ok q
    cases hs:seqR g n q with
    | error e=>rw [hs] at h2; exact h2
    | ok y=>obtain ⟨l,r⟩:=y; rw [hs] at h2; simp only [Ag] at h2 ⊢; rw [h2],fun e=>rfl⟩
theorem many_rd {α:Type} (b:List UInt8) (top:Int) {f:St->α × St} {g:Nat->Except Nat (α × Nat)} (h:Rd f g):Rd (manyS b top f) (manyR b top g):=
 (num_rd b 0 top).bind (f2:=fun (n:Int) st=>seqS f n.toNat st) (g2:=fun (n:Int) q=>seqR g n.toNat q) (fun n=>seq_rd h n.toNat)
theorem part_rd (b:List UInt8):Rd (partS b) (partR b):=
 (num_rd b (-far) far).bind (β:=PartM) (f2:=fun k st=>(⟨k,(strS b st).1,(numS b (-far) far (strS b st).2).1⟩,(numS b (-far) far (strS b st).2).2)) fun k=>
  (str_rd b).bind (β:=PartM) (f2:=fun t st=>(⟨k,t,(numS b (-far) far st).1⟩,(numS b (-far) far st).2)) fun t=>(num_rd b (-far) far).bind (β:=PartM) (f2:=fun n st=>(⟨k,t,n⟩,st)) fun n=>Rd.pure _
theorem item_rd (b:List UInt8):Rd (itemS b) (itemR b):=
 (num_rd b 0 1).bind (β:=ItemM) (f2:=fun k st=>(⟨(strS b st).1,decide (k = 1)⟩,(strS b st).2)) fun k=>
  (str_rd b).bind (β:=ItemM) (f2:=fun t st=>(⟨t,decide (k = 1)⟩,st)) fun t=>Rd.pure _
theorem spot_rd (b:List UInt8):Rd (spotS b) (spotR b):=
 (num_rd b (-far) far).bind (β:=SpotM) (f2:=fun k st=>(⟨(strS b st).1,k⟩,(strS b st).2)) fun k=>
  (str_rd b).bind (β:=SpotM) (f2:=fun t st=>(⟨t,k⟩,st)) fun t=>Rd.pure _
theorem ins_rd (b:List UInt8):Rd (insS b) (insR b):=
 (num_rd b (-far) far).bind (β:=InsM) (f2:=fun o st=>(⟨o,(numS b (-far) far st).1,(numS b (-far) far (numS b (-far) far st).2).1,(numS b (-far) far (numS b (-far) far (numS b (-far) far st).2).2).1⟩,(numS b (-far) far (numS b (-far) far (numS b (-far) far st).2).2).2)) fun o=>
  (num_rd b (-far) far).bind (β:=InsM) (f2:=fun x st=>(⟨o,x,(numS b (-far) far st).1,(numS b (-far) far (numS b (-far) far st).2).1⟩,(numS b (-far) far (numS b (-far) far st).2).2)) fun x=>
  (num_rd b (-far) far).bind (β:=InsM) (f2:=fun y st=>(⟨o,x,y,(numS b (-far) far st).1⟩,(numS b (-far) far st).2)) fun y=>(num_rd b (-far) far).bind (β:=InsM) (f2:=fun v st=>(⟨o,x,y,v⟩,st)) fun v=>Rd.pure _
def dec1 (b:List UInt8) (st:St):=manyS b 3000 (strS b) st
def dec2 (b:List UInt8) (st:St):=manyS b 3000 (manyS b 100 (partS b)) st
def dec3 (b:List UInt8) (st:St):=manyS b 3000 (manyS b 10000 (itemS b)) st
def dec4 (b:List UInt8) (st:St):=manyS b 3000 (spotS b) st
def dec5 (b:List UInt8) (st:St):=manyS b 100 (strS b) st
def dec6 (b:List UInt8) (st:St):=manyS b 12000 (insS b) st
def endS (b:List UInt8) (st:St):St:=match st with
 | .error e=>.error e
 | .ok p=>if p < b.length then .error b.length else .ok p
def decS (b:List UInt8) (st:St):CodeM × St:=
 (⟨(dec1 b st).1,(dec2 b (dec1 b st).2).1,(dec3 b (dec2 b (dec1 b st).2).2).1,(dec4 b (dec3 b (dec2 b (dec1 b st).2).2).2).1,(dec5 b (dec4 b (dec3 b (dec2 b (dec1 b st).2).2).2).2).1,(dec6 b (dec5 b (dec4 b (dec3 b (dec2 b (dec1 b st).2).2).2).2).2).1⟩,
  endS b (dec6 b (dec5 b (dec4 b (dec3 b (dec2 b (dec1 b st).2).2).2).2).2).2)
def dec0 (x:UInt8):St:=if x = 81 then .ok 1 else .error 0
theorem end_rd (b:List UInt8) {α:Type} (a:α):Rd (fun st=>(a,endS b st)) (fun p=>if p < b.length then .error b.length else .ok (a,p)):=
 ⟨fun p=>by unfold endS; dsimp only; split <;> rfl,fun e=>rfl⟩
theorem dec_rd (b:List UInt8):Rd (decS b) (fun p=>andR (manyR b 3000 (strR b) p) fun c1 p1=>andR (manyR b 3000 (manyR b 100 (partR b)) p1) fun c2 p2=>andR (manyR b 3000 (manyR b 10000 (itemR b)) p2) fun c3 p3=>
  andR (manyR b 3000 (spotR b) p3) fun c4 p4=>andR (manyR b 100 (strR b) p4) fun c5 p5=>andR (manyR b 12000 (insR b) p5) fun c6 p6=>
  if p6 < b.length then .error b.length else .ok ((⟨c1,c2,c3,c4,c5,c6⟩:CodeM),p6)):=
 (many_rd b 3000 (str_rd b)).bind (β:=CodeM) (f2:=fun c1 st=>(⟨c1,(dec2 b st).1,(dec3 b (dec2 b st).2).1,(dec4 b (dec3 b (dec2 b st).2).2).1,(dec5 b (dec4 b (dec3 b (dec2 b st).2).2).2).1,(dec6 b (dec5 b (dec4 b (dec3 b (dec2 b st).2).2).2).2).1⟩,endS b (dec6 b (dec5 b (dec4 b (dec3 b (dec2 b st).2).2).2).2).2)) fun c1=>
 (many_rd b 3000 (many_rd b 100 (part_rd b))).bind (β:=CodeM) (f2:=fun c2 st=>(⟨c1,c2,(dec3 b st).1,(dec4 b (dec3 b st).2).1,(dec5 b (dec4 b (dec3 b st).2).2).1,(dec6 b (dec5 b (dec4 b (dec3 b st).2).2).2).1⟩,endS b (dec6 b (dec5 b (dec4 b (dec3 b st).2).2).2).2)) fun c2=>
 (many_rd b 3000 (many_rd b 10000 (item_rd b))).bind (β:=CodeM) (f2:=fun c3 st=>(⟨c1,c2,c3,(dec4 b st).1,(dec5 b (dec4 b st).2).1,(dec6 b (dec5 b (dec4 b st).2).2).1⟩,endS b (dec6 b (dec5 b (dec4 b st).2).2).2)) fun c3=>
 (many_rd b 3000 (spot_rd b)).bind (β:=CodeM) (f2:=fun c4 st=>(⟨c1,c2,c3,c4,(dec5 b st).1,(dec6 b (dec5 b st).2).1⟩,endS b (dec6 b (dec5 b st).2).2)) fun c4=>
 (many_rd b 100 (str_rd b)).bind (β:=CodeM) (f2:=fun c5 st=>(⟨c1,c2,c3,c4,c5,(dec6 b st).1⟩,endS b (dec6 b st).2)) fun c5=>
 (many_rd b 12000 (ins_rd b)).bind (β:=CodeM) (f2:=fun c6 st=>(⟨c1,c2,c3,c4,c5,c6⟩,endS b st)) fun c6=>end_rd b _
theorem decS_ag (x:UInt8) (l:List UInt8):Ag (decS (x :: l) (dec0 x)) (decM (x :: l)):=by
 unfold decM dec0;dsimp only
 by_cases h:x = 81
 ·rw [if_pos h,if_neg (by simp [h])]
  exact (dec_rd _).ok 1
 ·rw [if_neg h,if_pos h]
  exact (dec_rd _).er 0
end
section
open Go Q Go.RowKit
theorem retKP_mono {K K':Value->World->Prop} {Pn Pn':PnT} (hk:∀ v w,K v w->K' v w) (hp:∀ c w,Pn c w->Pn' c w):∀ e w,retKP K Pn e w->retKP K' Pn' e w
 | .returned v,w,h=>hk _ _ h
 | .panicked c,w,h=>hp _ _ h
 | .outgrown,_,h=>h.elim
theorem CVP_mono {f:Value} {args:Array Value} {w:World} {K K':Value->World->Prop} {Pn Pn':PnT} (h:CVP Pn f args w K) (hk:∀ v w,K v w->K' v w) (hp:∀ c w,Pn c w->Pn' c w):CVP Pn' f args w K':=by
 unfold CVP CallVP at h ⊢
 split at h
 ·exact hk _ _ h
 ·exact Calls.mono h (retKP_mono hk hp)
 ·exact RoundIn.mono h (retKP_mono hk hp)
 ·exact h.elim
theorem CVP_may {f:Value} {args:Array Value} {w:World} {K:Value->World->Prop} {Pn:PnT} (h:CV f args w K):CVP Pn f args w K:=CallV.may h
theorem PanW_intro {Pn:PnT} {t:TypeId} {v:Value} {w:World} (h:Pn [{ v:=.iface t v,recovered:=false }] w):PanW Pn (.iface t v) w:=⟨t,v,rfl,h⟩
def FnP (f:FuncId) (args:Array Value) (z:Z) (B:Bl) (w:World) (R:Z->Bl->Value->Prop) (G:Z->Bl->List PanicEntry->Prop):Prop:=
 Own w z B->Calls Tryz.prog f args w (retKP (fun v w'=>∃ z' B',Res w z B w' z' B'/\R z' B' v) (fun c w'=>∃ z' B',Res w z B w' z' B'/\G z' B' c))
def VaP (f:Value) (args:Array Value) (z:Z) (B:Bl) (w:World) (R:Z->Bl->Value->Prop) (G:Z->Bl->List PanicEntry->Prop):Prop:=
 Own w z B->CVP (fun c w'=>∃ z' B',Res w z B w' z' B'/\G z' B' c) f args w (fun v w'=>∃ z' B',Res w z B w' z' B'/\R z' B' v)
theorem CVP_enter {f:FuncId} [he:Enters f] {first args cap args':Array Value} {w:World} {K:Value->World->Prop} {Pn:PnT} (ha:first ++ args ++ cap = args') (h:Calls Tryz.prog f args' w (retKP K Pn)) :
  CVP Pn (.func (.func f) first cap) args w K:=by
 subst ha;have:(callSem (.func (.func f) first cap) args).run Tryz.prog w = .ok (.enter f (first ++ args ++ cap)) w:=by
  simp only [callSem,Deferred.ofValue,pure_bind,invoke];exact he.h _ _
 unfold CVP CallVP;rw [this];exact h
section
variable {w0 w:World} {z0 z:Z} {B0 B L F:Bl} {f:FuncId} {args args' first cap:Array Value} {K:Value->World->Prop} {Pn:PnT} {R:Z->Bl->Value->Prop} {G:Z->Bl->List PanicEntry->Prop}
theorem CVP_fn [Enters f] (hS:Res w0 z0 B0 w z (B ++ F)) (h:FnP f args' z B w R G) (ha:first ++ args ++ cap = args') (hK:∀ z' B' w' v,Le z z'->Res w0 z0 B0 w' z' (B' ++ F)->R z' B' v->K v w')
  (hP:∀ z' B' w' c,Le z z'->Res w0 z0 B0 w' z' (B' ++ F)->G z' B' c->Pn c w'):CVP Pn (.func (.func f) first cap) args w K:=by
 refine CVP_enter ha ?_;refine Calls.mono (h hS.own) (retKP_mono ?_ ?_)
 ·rintro v w' ⟨z',B',h1,h2⟩
  exact hK z' B' w' v h1.zle (hS.step h1) h2
 ·rintro c w' ⟨z',B',h1,h2⟩
  exact hP z' B' w' c h1.zle (hS.step h1) h2
theorem CVP_va {g:Value} (hS:Res w0 z0 B0 w z (B ++ F)) (h:VaP g args z B w R G) (hK:∀ z' B' w' v,Le z z'->Res w0 z0 B0 w' z' (B' ++ F)->R z' B' v->K v w')
  (hP:∀ z' B' w' c,Le z z'->Res w0 z0 B0 w' z' (B' ++ F)->G z' B' c->Pn c w'):CVP Pn g args w K:=by
 refine CVP_mono (h hS.own) ?_ ?_
 ·rintro v w' ⟨z',B',h1,h2⟩
  exact hK z' B' w' v h1.zle (hS.step h1) h2
 ·rintro c w' ⟨z',B',h1,h2⟩
  exact hP z' B' w' c h1.zle (hS.step h1) h2
theorem FnP.va [Enters f] (h:FnP f args' z B w R G) (ha:first ++ args ++ cap = args'):VaP (.func (.func f) first cap) args z B w R G:=
 fun ho=>CVP_enter ha (h ho)
theorem FnP.intro (h:Res w z B w z B->Calls Tryz.prog f args w (retKP (fun v w'=>∃ z' B',Res w z B w' z' B'/\R z' B' v) (fun c w'=>∃ z' B',Res w z B w' z' B'/\G z' B' c))):FnP f args z B w R G:=fun ho=>h ho
end
end
section
open Go Q Go.RowKit
theorem Fn.mono {f:FuncId} {args:Array Value} {z:Z} {B:Bl} {w:World} {R R':Z->Bl->Value->Prop} (h:Fn f args z B w R) (hr:∀ z' B' v,R z' B' v->R' z' B' v):Fn f args z B w R':=
 fun ho=>(h ho).mono (retK.mono fun v w' ⟨z',B',h1,h2⟩=>⟨z',B',h1,hr _ _ _ h2⟩)
theorem FnP.mono {f:FuncId} {args:Array Value} {z:Z} {B:Bl} {w:World} {R R':Z->Bl->Value->Prop} {G G':Z->Bl->List PanicEntry->Prop} (h:FnP f args z B w R G) (hr:∀ z' B' v,R z' B' v->R' z' B' v) (hg:∀ z' B' c,G z' B' c->G' z' B' c):FnP f args z B w R' G':=
 fun ho=>Calls.mono (h ho) (retKP_mono (fun v w' ⟨z',B',h1,h2⟩=>⟨z',B',h1,hr _ _ _ h2⟩) (fun c w' ⟨z',B',h1,h2⟩=>⟨z',B',h1,hg _ _ _ h2⟩))
theorem CVP_pu {w0 w:World} {z0 z:Z} {B0 L:Bl} {K:Value->World->Prop} {Pn:PnT} [hS:Res w0 z0 B0 w z L] {f:FuncId} [Enters f] {args:Array Value} {v:Value} [g:Pu f args v] (hk:∀ z' w',Le z z'->Res w0 z0 B0 w' z' L->K v w'):CVP Pn (.func (.func f) #[] #[]) args w K:=
 CVP_may (CV_pu hk)
section
variable {w0 w:World} {z0 z z':Z} {B0 B L:Bl} {α:Type} {E:El α} {us cs:List Value} {xs:List α} {x:α}
structure Lsl (E:El α) (z:Z) (us:List Value) (xs:List α):Prop where
 len:us.length = xs.length * E.size
 at_:∀ (i:Nat) (x:α),xs[i]? = some x->∃ cs,E.rel z cs x/\∀ (j:Nat) (v:Value),cs[j]? = some v->us[i * E.size + j]? = some v
theorem Lsl.nil:Lsl E z [] []:=⟨by simp,fun i x h=>by simp at h⟩
theorem Lsl.mono (h:Lsl E z us xs) (hz:Le z z'):Lsl E z' us xs:=⟨h.len,fun i x hx=>let ⟨cs,h1,h2⟩:=h.at_ i x hx; ⟨cs,E.mono h1 hz,h2⟩⟩
theorem Lsl.push (h:Lsl E z us xs) (hx:E.rel z cs x):Lsl E z (us ++ cs) (xs ++ [x]):=by
 have hc:=E.len hx;refine ⟨by rw [List.length_append,List.length_append,h.len,hc,Nat.add_mul]; simp,fun i y hy=>?_⟩
 by_cases hi:i < xs.length
 ·rw [List.getElem?_append_left hi] at hy
  obtain ⟨ds,h1,h2⟩:=h.at_ i y hy;refine ⟨ds,h1,fun j v hv=>?_⟩;have:=h2 j v hv;rw [List.getElem?_append_left (List.getElem?_eq_some_iff.1 this).1];exact this
 ·have hle:xs.length <= i:=by omega
  rw [List.getElem?_append_right hle] at hy;have hi0:i = xs.length:=by
   have:=(List.getElem?_eq_some_iff.1 hy).1;simp at this;omega
  subst hi0;simp only [Nat.sub_self,List.getElem?_cons_zero,Option.some.injEq] at hy;subst hy;refine ⟨cs,hx,fun j v hv=>?_⟩;rw [List.getElem?_append_right (by rw [h.len]; omega),h.len,Nat.add_sub_cancel_left];exact hv
theorem Res.freezeL {e:Nat} {v:Value} (hS:Res w0 z0 B0 w z (B ++ L)) (ho:OwnSl e E.size B v xs.length us) (hl:Lsl E z us xs) (hb:xs.length <= big):∃ z',Le z z'/\Res w0 z0 B0 w z' L/\SlR E z' v xs:=by
 rcases ho.2 with ⟨rfl,rfl,h0⟩ | ⟨b,cap,sp,rfl,rfl,h1,h2,h3⟩
 ·have:xs = []:=List.eq_nil_of_length_eq_zero h0
  subst this;exact ⟨z,Le.refl _,hS,SlR.nil⟩
 ·refine ⟨_,Res.freeze_le hS,Res.freeze hS,some ⟨b,0,none⟩,cap,rfl,h1,hb,fun _=>⟨b,0,rfl,fun j x hx=>?_⟩⟩
  obtain ⟨cs,g1,g2⟩:=hl.at_ j x hx;refine ⟨cs,E.mono g1 (Res.freeze_le hS),_,_,_,if_pos rfl,fun q v hv=>?_⟩;have:=g2 q v hv;simp only [Nat.zero_add,List.getElem?_toArray];rw [List.getElem?_append_left (List.getElem?_eq_some_iff.1 this).1];exact this
end
theorem OwnSl.room {e size n:Nat} {B:Bl} {v:Value} {xs:List Value} (h:OwnSl e size B v n xs):∃ a cap,v = .slice a n cap/\n <= cap:=h.form
instance {t e n len cap b off:Nat} {l h:Int} {k k':IntKind} [g:TySlice t e n] [hl:InR l (h + 1)] [hr:InR h (cap + 1)]:Run (sl t (.slice (some ⟨b,off,none⟩) len cap) (some (.int k l)) (some (.int k' h)) none) (.slice (some ⟨b,if cap = l.toNat then off else off + l.toNat * n,none⟩) (h.toNat - l.toNat) (cap - l.toNat)):=⟨fun w=>by
 have h1:l <= h:=by have:=hl.h1; omega
 have h2:h <= cap:=by have:=hr.h1; omega
 have hh:((h.toNat:Nat):Int) = h:=Int.toNat_of_nonneg hr.h0;simp only [sl,Instr.sliceAt,Sem.run_bind,g.und,Result.andThen_ok,Instr.slice,Instr.sliceBounds,run_pure,Instr.sliceBound,asIntOf,pure_bind,hl.h0,hr.h0,h1,h2,hh,and_self,if_true,g.size,Option.map_some,add_addr,Option.isSome_none,Bool.false_eq_true,if_false]
 split <;> rfl⟩
theorem SlR.sub {α:Type} {E:El α} {z:Z} {b off cap l h s:Nat} {xs:List α} (hx:SlR E z (.slice (some ⟨b,off,none⟩) xs.length cap) xs) (hs:E.size = s) (hl:l <= h) (hh:h <= xs.length) :
  SlR E z (.slice (some ⟨b,if cap = l then off else off + l * s,none⟩) (h - l) (cap - l)) ((xs.drop l).take (h - l)):=
 SlR.take (hx.drop hs (by omega)) (by rw [List.length_drop]; omega)
class TyIf (t:TypeId):Prop where
 und:∃ ms,Tryz.prog.underlying t = some (.interface ms)
theorem TyIf.of {t:TypeId} (h:(match Tryz.prog.underlying t with | some (.interface _)=>true | _=>false) = true):TyIf t:=⟨by
 split at h
 ·rename_i ms hu; exact ⟨ms,hu⟩
 ·cases h⟩
theorem equalIn_if {d t u:Nat} {v:Value} (g:TyIf t) (w:World):(Op.equalIn (d + 1) t (.iface u v) .nilIface).run Tryz.prog w = .ok false w:=by
 obtain ⟨ms,h⟩:=g.und;unfold Op.equalIn;simp only [Sem.run_bind,run_underlying h,Result.andThen_ok]
 rfl
theorem equalIn_no {d t:Nat} (g:TyIf t) (w:World):(Op.equalIn (d + 1) t .nilIface .nilIface).run Tryz.prog w = .ok true w:=by
 obtain ⟨ms,h⟩:=g.und;unfold Op.equalIn;simp only [Sem.run_bind,run_underlying h,Result.andThen_ok]
 rfl
theorem neq_if {t u:Nat} {x:Operand} {v:Value} (g:TyIf t) (w:World):(eq .neq t x (.const .nilIface) (.iface u v) .nilIface).run Tryz.prog w = .ok (.bool true) w:=by
 have h:(Op.equalIn Op.maxDepth t (.iface u v) .nilIface).run Tryz.prog w = .ok false w:=equalIn_if (d:=9999) g w;simp only [eq,eqGuard,binOp,Op.equal,Sem.run_bind,Bool.not_true,Bool.false_eq_true,if_false,Bool.or_true,if_true,run_pure,Result.andThen_ok,ite_self,h]
 rfl
theorem neq_no {t:Nat} {x:Operand} (g:TyIf t) (w:World):(eq .neq t x (.const .nilIface) .nilIface .nilIface).run Tryz.prog w = .ok (.bool false) w:=by
 have h:(Op.equalIn Op.maxDepth t .nilIface .nilIface).run Tryz.prog w = .ok true w:=equalIn_no (d:=9999) g w;simp only [eq,eqGuard,binOp,Op.equal,Sem.run_bind,Bool.not_true,Bool.false_eq_true,if_false,Bool.or_true,if_true,run_pure,Result.andThen_ok,ite_self,h]
theorem ta_own {t u:Nat} {v:Value} (h:(match Tryz.prog.underlying u with | some (.interface _)=>false | some _=>true | none=>false) = true) (w:World):(ta (.iface u v) t u true).run Tryz.prog w = .ok (.tuple [v,.bool true].toArray) w:=by
 split at h
 ·cases h
 ·rename_i d hn hu
  simp only [ta,Instr.typeAssert,Sem.run_bind,run_underlying hu,Result.andThen_ok]
  cases d <;> first | (exact absurd rfl (hn _)) | simp [Sem.run]
 ·cases h
theorem shl_ok {t:Nat} {a c:Int} (h0:0 <= c) (h1:c <= 64) (w:World):(bi .shl t (.int .i64 a) (.int .i64 c)).run Tryz.prog w = .ok (.int .i64 (IntKind.i64.wrap (a * 2 ^ c.toNat))) w:=by
 simp only [bi,binOp,Op.shift];rw [if_neg (by omega)];have:min c.toNat IntKind.i64.bits = c.toNat:=by
   have:IntKind.i64.bits = 64:=rfl;omega
 simp only [this]
 rfl
theorem orI_ok {t:Nat} {a b:Int} (w:World):(bi .or t (.int .i64 a) (.int .i64 b)).run Tryz.prog w = .ok (.int .i64 (bits .or .i64 a b)) w:=rfl
theorem or_add {m y k:Nat} (hm:m < 2 ^ k) (hs:m + y * 2 ^ k < 2 ^ 63):bits .or .i64 (m:Int) ((y * 2 ^ k:Nat):Int) = ((m + y * 2 ^ k:Nat):Int):=by
 have h1:(BitVec.ofInt 64 (m:Int)).toNat = m:=by rw [BitVec.toNat_ofInt]; omega
 have h2:(BitVec.ofInt 64 ((y * 2 ^ k:Nat):Int)).toNat = y * 2 ^ k:=by rw [BitVec.toNat_ofInt]; omega
 have key:(BitVec.ofInt 64 (m:Int) ||| BitVec.ofInt 64 ((y * 2 ^ k:Nat):Int)).toNat = m + y * 2 ^ k:=by
  rw [BitVec.toNat_or,h1,h2,Nat.or_comm,<- Nat.shiftLeft_eq,<- Nat.shiftLeft_add_eq_or_of_lt hm];omega
 show IntKind.i64.wrap ((BitVec.ofInt 64 (m:Int) ||| BitVec.ofInt 64 ((y * 2 ^ k:Nat):Int)).toNat:Nat) = _
 rw [key];exact wrap_in (by unfold inI; omega)
end
section
open Go Q Go.RowKit
def RSt (b:List UInt8) (st:St) (p bad:Int):Prop:=match st with
 | .ok q=>p = (q:Nat)/\bad = -1/\q <= b.length
 | .error e=>bad = (e:Nat)
theorem numberS_of {z:Z} {w:World} {bs cap:Nat} {ab:Option Addr} {b:List UInt8} {p bad:Int} {st:St} {lo hi:Int} (hb:SlR El.byte z (.slice ab b.length cap) b) (hl:b.length <= 1000000) (hst:RSt b st p bad) (hlo:-far <= lo) (hhi:hi <= far) :
  Fn 181 #[.pointer (some ⟨bs,0,none⟩),.int .i64 lo,.int .i64 hi] z [srcB bs ab b.length cap p bad] w fun z' B' r=>
   ∃ p' bad',r = .int .i64 (numS b lo hi st).1/\RSt b (numS b lo hi st).2 p' bad'/\B' = [srcB bs ab b.length cap p' bad']:=by
 cases st with
 | error e=>
  cases hst
  refine Fn.mono (number_bad (by omega)) ?_;rintro z' B' r ⟨rfl,rfl⟩
  exact ⟨p,e,rfl,rfl,rfl⟩
 | ok q=>
  obtain ⟨rfl,rfl,hq⟩:=hst;refine Fn.mono (number_ok hb hl hq hlo hhi) ?_;rintro z' B' r (⟨n,q',h,rfl,hq',rfl⟩ | ⟨e,q',h,rfl,hq',rfl⟩)
  ·exact ⟨_,_,by simp only [numS,h],by simp only [numS,h,RSt]; exact ⟨trivial,trivial,hq'⟩,rfl⟩
  ·exact ⟨_,_,by simp only [numS,h],by simp only [numS,h,RSt],rfl⟩
section
variable {w0 w:World} {z0 z:Z} {B0 L F:Bl} {K:Value->World->Prop} {bs cap:Nat} {ab:Option Addr} {b:List UInt8} {p bad:Int} {st:St}
theorem CV_numS {lo hi:Int} (hS:Res w0 z0 B0 w z L) [gb:BringB L bs (.cells [.slice ab b.length cap,.int .i64 p,.int .i64 bad].toArray 196 (0,0)) F] (hb:SlR El.byte z (.slice ab b.length cap) b) (hl:b.length <= 1000000) (hst:RSt b st p bad) (hlo:-far <= lo) (hhi:hi <= far)
  (hk:∀ z' w' p' bad',Le z z'->Res w0 z0 B0 w' z' (srcB bs ab b.length cap p' bad' :: F)->RSt b (numS b lo hi st).2 p' bad'->K (.int .i64 (numS b lo hi st).1) w') :
  CV (.func (.func 181) #[] #[]) #[.pointer (some ⟨bs,0,none⟩),.int .i64 lo,.int .i64 hi] w K:=by
 refine CV_fn (B:=[srcB bs ab b.length cap p bad]) (F:=F) (hS.bringB bs) (numberS_of hb hl hst hlo hhi) (by simp) ?_;rintro z' B' w' v' hz hS' ⟨p',bad',rfl,h,rfl⟩
 exact hk z' w' p' bad' hz hS' h
theorem anyS_of (hb:SlR El.byte z (.slice ab b.length cap) b) (hl:b.length <= 1000000) (hst:RSt b st p bad) :
  Fn 183 #[.pointer (some ⟨bs,0,none⟩)] z [srcB bs ab b.length cap p bad] w fun z' B' r=>
   ∃ p' bad',r = .int .i64 (numS b (-far) far st).1/\RSt b (numS b (-far) far st).2 p' bad'/\B' = [srcB bs ab b.length cap p' bad']:=Fn.intro fun hS=>en183 (by
 unfold vc183;refine CV_numS hS hb hl hst (by decide) (by decide) ?_;intro z' w' p' bad' hz hS' h;exact ⟨_,_,hS',_,_,rfl,h,rfl⟩)
theorem CV_anyS (hS:Res w0 z0 B0 w z L) [gb:BringB L bs (.cells [.slice ab b.length cap,.int .i64 p,.int .i64 bad].toArray 196 (0,0)) F] (hb:SlR El.byte z (.slice ab b.length cap) b) (hl:b.length <= 1000000) (hst:RSt b st p bad)
  (hk:∀ z' w' p' bad',Le z z'->Res w0 z0 B0 w' z' (srcB bs ab b.length cap p' bad' :: F)->RSt b (numS b (-far) far st).2 p' bad'->K (.int .i64 (numS b (-far) far st).1) w') :
  CV (.func (.func 183) #[] #[]) #[.pointer (some ⟨bs,0,none⟩)] w K:=by
 refine CV_fn (B:=[srcB bs ab b.length cap p bad]) (F:=F) (hS.bringB bs) (anyS_of hb hl hst) (by simp) ?_;rintro z' B' w' v' hz hS' ⟨p',bad',rfl,h,rfl⟩
 exact hk z' w' p' bad' hz hS' h
end
theorem run_cvs {z:Z} {w:World} {v:Value} {l:List UInt8} (hv:SlR El.byte z v l) (hs:Sub z w):(cv 55 9 v).run Tryz.prog w = .ok (.string ⟨l.toArray⟩) w:=by
 obtain ⟨_,a,cap,rfl,_,hel⟩:=hv.form
 cases a with
 | none=>
  have:l = []:=by
   cases l with
   | nil=>rfl
   | cons x l=>obtain ⟨_,_,_,h,_⟩:=hel 0 x rfl; cases h
  subst this;exact run_convert_bytes_nil (P:=Tryz.prog) w 55 5 (by kernel_rfl) (by kernel_rfl) 0 cap 9 (by kernel_rfl)
 | some a=>
  refine run_convert_bytes_back (P:=Tryz.prog) w 55 9 5 a cap l (by kernel_rfl) (by kernel_rfl) (by kernel_rfl) fun j hj=>?_
  obtain ⟨bb,off,cs,h1,h2,h3⟩:=hel j _ (List.getElem?_eq_getElem hj)
  cases h1
  cases h2
  have:=(h3.world hs).cell (j:=0) (v:=.int .u8 (l[j].toNat:Int)) rfl;rw [add_addr]
  simpa [El.byte] using this
theorem num_mem {b:List UInt8} {lo hi:Int} {p q:Nat} {n:Int} (h:numR b lo hi p = .ok (n,q)):lo <= n/\n <= hi:=by
 unfold numR at h
 cases hg:grpR b p 7 0 0 p with
 | error e=>rw [hg] at h; cases h
 | ok x=>
  obtain ⟨u,q'⟩:=x;rw [hg] at h;simp only at h
  split at h
  ·rename_i hi'
   cases h
   simpa [inB] using hi'
  ·cases h
theorem numS_mem {b:List UInt8} {lo hi:Int} {st:St} (h0:lo <= 0) (h1:0 <= hi):lo <= (numS b lo hi st).1/\(numS b lo hi st).1 <= hi:=by
 unfold numS
 cases st with
 | error e=>exact ⟨h0,h1⟩
 | ok p=>
  simp only
  cases hn:numR b lo hi p with
  | error e=>exact ⟨h0,h1⟩
  | ok x=>exact num_mem hn
end
section
open Go Q Go.RowKit
theorem num_lt {b:List UInt8} {lo hi:Int} {p q:Nat} {n:Int} (h:numR b lo hi p = .ok (n,q)):p < b.length:=by
 unfold numR at h;rw [grpR] at h
 cases hb:b[p]? with
 | none=>rw [hb] at h; cases h
 | some x=>exact (List.getElem?_eq_some_iff.1 hb).1
theorem numS_lt {b:List UInt8} {lo hi:Int} {st:St} {n:Int} {q:Nat} (h:numS b lo hi st = (n,.ok q)):0 < b.length:=by
 unfold numS at h
 cases st with
 | error e=>cases h
 | ok p=>
  simp only at h
  cases hn:numR b lo hi p with
  | error e=>rw [hn] at h; cases h
  | ok x=>have:=num_lt hn; omega
section
variable {w0 w:World} {z0 z:Z} {B0 L F:Bl} {K:Value->World->Prop} {bs cap:Nat} {ab:Option Addr} {b:List UInt8} {p bad:Int} {st:St}
theorem strS_of (hb:SlR El.byte z (.slice ab b.length cap) b) (hl:b.length <= 1000000) (hst:RSt b st p bad) :
  Fn 182 #[.pointer (some ⟨bs,0,none⟩)] z [srcB bs ab b.length cap p bad] w fun z' B' r=>
   ∃ p' bad',r = .string (strS b st).1/\RSt b (strS b st).2 p' bad'/\B' = [srcB bs ab b.length cap p' bad']:=Fn.intro fun hS=>en182 (by
 unfold vc182;have hm:=numS_mem (b:=b) (lo:=0) (hi:=1000) (st:=st) (by decide) (by decide);refine CV_numS hS hb hl hst (by decide) (by decide) ?_;intro z1 w1 p1 bad1 hz1 hS1 h1;have hN:numS b 0 1000 st = ((numS b 0 1000 st).1,(numS b 0 1000 st).2):=rfl;generalize (numS b 0 1000 st).1 = n at hN hm hS1 ⊢;generalize (numS b 0 1000 st).2 = st1 at hN h1;clear hS;(repeat (first | refine V_run ?_ | refine iV_ld1 ?_));refine Cond_d (fun h=>?_) (fun h=>?_)
 ·cases st1 with
  | ok q=>obtain ⟨_,rfl,_⟩:=h1; exact absurd h (by decide)
  | error e=>cases h1; exact ⟨_,_,hS1,p1,e,by simp only [strS,hN],by simp only [strS,hN,RSt],rfl⟩
 ·cases st1 with
  | error e=>cases h1; exact absurd h (by omega)
  | ok q=>
   obtain ⟨rfl,rfl,hq⟩:=h1;have hlt:=numS_lt hN;obtain ⟨_,a,c,hve,_,hel⟩:=hb.form
   cases hve
   obtain ⟨bb,off,_,rfl,_,_⟩:=hel 0 _ (List.getElem?_eq_getElem hlt);haveI:InI ((b.length:Int) - (q:Int)):=⟨by omega⟩
   (repeat (first | (refine iDr ?_; intro _ _) | refine PV_run ?_ | refine iHV_1 ?_));rename_i hS2;refine Cond_d (fun h2=>?_) (fun h2=>?_)
   ·(repeat (first | refine V_run ?_ | refine iV_ld1 ?_))
    refine CV_fn (B:=[srcB bs _ b.length cap q (-1)]) (F:=[]) (by simpa using hS2) (refFail_of (e:=(b.length:Int))) (by simp) ?_;rintro z3 B3 w3 v3 hz3 hS3 ⟨rfl,rfl⟩
    rw [if_pos (by decide)] at hS3;simp only [List.append_nil] at hS3;exact ⟨_,_,hS3,q,b.length,by simp only [strS,hN]; rw [if_pos (by omega)],by simp only [strS,hN]; rw [if_pos (by omega)]; rfl,rfl⟩
   ·obtain ⟨n,rfl⟩:∃ m:Nat,n = (m:Int):=⟨n.toNat,by omega⟩
    obtain ⟨_,a',c',hve,hcap,_⟩:=hb.form
    cases hve
    haveI:InI ((q:Int) + (n:Int)):=⟨by omega⟩
    haveI:InR (q:Int) ((q:Int) + (n:Int) + 1):=⟨by omega,by omega⟩
    haveI:InR ((q:Int) + (n:Int)) ((cap:Int) + 1):=⟨by omega,by omega⟩
    (repeat (first | (refine iDr ?_; intro _ _) | refine PV_run ?_ | refine iHV_1 ?_));rename_i hS3;have hsub:=SlR.sub (l:=q) (h:=q + n) (s:=1) hb rfl (by omega) (by omega);rw [show ((q:Int) + (n:Int)).toNat = q + n by omega,show ((q:Int)).toNat = q by omega];refine ⟨_,_,run_cvs (hsub.mono hS3.zle) hS3.sub,?_⟩;(repeat (first | refine V_run ?_ | refine iV_ld1 ?_ | (refine iU_st ?_; intro _ _) | refine iRI_1 ?_));rename_i hS4;refine ⟨_,_,hS4,((q + n:Nat):Int),-1,?_,?_,by simp⟩
    ·simp only [strS,hN]; rw [if_neg (by omega)]
     simp
    ·simp only [strS,hN]; rw [if_neg (by omega)]
     exact ⟨by simp,rfl,by simp; omega⟩)
theorem CV_strS (hS:Res w0 z0 B0 w z L) [gb:BringB L bs (.cells [.slice ab b.length cap,.int .i64 p,.int .i64 bad].toArray 196 (0,0)) F] (hb:SlR El.byte z (.slice ab b.length cap) b) (hl:b.length <= 1000000) (hst:RSt b st p bad)
  (hk:∀ z' w' p' bad',Le z z'->Res w0 z0 B0 w' z' (srcB bs ab b.length cap p' bad' :: F)->RSt b (strS b st).2 p' bad'->K (.string (strS b st).1) w') :
  CV (.func (.func 182) #[] #[]) #[.pointer (some ⟨bs,0,none⟩)] w K:=by
 refine CV_fn (B:=[srcB bs ab b.length cap p bad]) (F:=F) (hS.bringB bs) (strS_of hb hl hst) (by simp) ?_;rintro z' B' w' v' hz hS' ⟨p',bad',rfl,h,rfl⟩
 exact hk z' w' p' bad' hz hS' h
end
theorem seqS_err {α:Type} {f:St->α × St} (n:Nat) (e:Nat):seqS f n (.error e) = ([],.error e):=by cases n <;> rfl
section
variable {α:Type}
theorem LoopRd1 {f:St->α × St} {n:Int} {st0:St} (P:List α->St->World->Prop) {body:(List Value->World->Prop)->(List Value->World->Nat)->Value->World->Nat->Prop} {w:World} (hn:0 <= n) (h0:P [] st0 w)
  (hs:∀ I M (k:Nat) l st w m,P l st w->(k:Int) <= n->l.length <= k ->
   ((k:Int) < n->(∃ p,st = .ok p)->∀ w',P (l ++ [(f st).1]) (f st).2 w'->I [.int .i64 ((k:Int) + 1)] w'/\M [.int .i64 ((k:Int) + 1)] w' < m) ->
   (((∃ e,st = .error e) \/ (k:Int) = n)->seqS f n.toNat st0 = (l,st))->body I M (.int .i64 k) w m) :
  ∃ (I:List Value->World->Prop) (M:List Value->World->Nat),I [.int .i64 0] w/\∀ _:Env,∀ x,∀ w,I [x] w->∀ m,m = M [x] w->body I M x w m:=by
 refine LoopG1 (fun (s:Nat × List α × St) x w'=>x = .int .i64 s.1/\s.1 <= n.toNat/\s.2.1.length <= s.1/\seqS f n.toNat st0 = (s.2.1 ++ (seqS f (n.toNat - s.1) s.2.2).1,(seqS f (n.toNat - s.1) s.2.2).2)/\P s.2.1 s.2.2 w') (fun s=>n.toNat - s.1) (0,[],st0) ⟨rfl,Nat.zero_le _,Nat.le_refl _,rfl,h0⟩ ?_;rintro I M ⟨k,l,st⟩ x w m ⟨rfl,hk,hle,he,hp⟩ back
 simp only at hk hle he hp;refine hs I M k l st w m hp (by omega) hle ?_ ?_
 ·rintro hlt ⟨p,rfl⟩ w' hp'
  refine back (k + 1,l ++ [(f (.ok p)).1],(f (.ok p)).2) _ w' ⟨by simp,by simp only; omega,by simp; omega,?_,hp'⟩ (by simp only; omega);rw [he,show n.toNat - k = (n.toNat - (k + 1)) + 1 by omega,seqS];simp
 ·rintro (⟨e,rfl⟩ | hkn)
  ·rw [he,seqS_err]; simp
  ·rw [he,show n.toNat - k = 0 by omega,seqS]; simp
theorem LoopRd2 {f:St->α × St} {n:Int} {st0:St} (P:List α->St->Value->World->Prop) {body:(List Value->World->Prop)->(List Value->World->Nat)->Value->Value->World->Nat->Prop} {y0:Value} {w:World} (hn:0 <= n) (h0:P [] st0 y0 w)
  (hs:∀ I M (k:Nat) l st y w m,P l st y w->(k:Int) <= n->l.length <= k ->
   ((k:Int) < n->(∃ p,st = .ok p)->∀ y' w',P (l ++ [(f st).1]) (f st).2 y' w'->I [y',.int .i64 ((k:Int) + 1)] w'/\M [y',.int .i64 ((k:Int) + 1)] w' < m) ->
   (((∃ e,st = .error e) \/ (k:Int) = n)->seqS f n.toNat st0 = (l,st))->body I M y (.int .i64 k) w m) :
  ∃ (I:List Value->World->Prop) (M:List Value->World->Nat),I [y0,.int .i64 0] w/\∀ _:Env,∀ y,∀ x,∀ w,I [y,x] w->∀ m,m = M [y,x] w->body I M y x w m:=by
 refine LoopG2 (fun (s:Nat × List α × St) y x w'=>x = .int .i64 s.1/\s.1 <= n.toNat/\s.2.1.length <= s.1/\seqS f n.toNat st0 = (s.2.1 ++ (seqS f (n.toNat - s.1) s.2.2).1,(seqS f (n.toNat - s.1) s.2.2).2)/\P s.2.1 s.2.2 y w') (fun s=>n.toNat - s.1) (0,[],st0) ⟨rfl,Nat.zero_le _,Nat.le_refl _,rfl,h0⟩ ?_;rintro I M ⟨k,l,st⟩ y x w m ⟨rfl,hk,hle,he,hp⟩ back
 simp only at hk hle he hp;refine hs I M k l st y w m hp (by omega) hle ?_ ?_
 ·rintro hlt ⟨p,rfl⟩ y' w' hp'
  refine back (k + 1,l ++ [(f (.ok p)).1],(f (.ok p)).2) _ _ w' ⟨by simp,by simp only; omega,by simp; omega,?_,hp'⟩ (by simp only; omega);rw [he,show n.toNat - k = (n.toNat - (k + 1)) + 1 by omega,seqS];simp
 ·rintro (⟨e,rfl⟩ | hkn)
  ·rw [he,seqS_err]; simp
  ·rw [he,show n.toNat - k = 0 by omega,seqS]; simp
end
end
section
open Go Q Go.RowKit
def notIface:TypeDesc->Bool
 | .interface _=>false
 | _=>true
theorem mi_ok {t:TypeId} {v:Value} {w:World} (h:(Tryz.prog.underlying t).any notIface = true):(mi t v).run Tryz.prog w = .ok (.iface t v) w:=by
 obtain ⟨d,hd,hn⟩:∃ d,Tryz.prog.underlying t = some d/\notIface d = true:=by
  cases hu:Tryz.prog.underlying t with
  | none=>rw [hu] at h; cases h
  | some d=>rw [hu] at h; exact ⟨d,rfl,h⟩
 simp only [mi,Instr.makeInterface,Sem.run_bind,run_underlying hd,Result.andThen_ok]
 cases d <;> first | rfl | cases hn
def tornP (e:Nat):List PanicEntry:=[{ v:=.iface 173 (.agg [.int .i64 (e:Nat)].toArray),recovered:=false }]
abbrev rdB (br:Nat) (ab:Option Addr) (n cap:Nat) (p:Int):Nat × Obj:=(br,.cells [.slice ab n cap,.int .i64 p].toArray 177 (0,0))
def RdR {α:Type} (b:List UInt8) (br:Nat) (ab:Option Addr) (cap:Nat) (rel:Z->Value->α->Prop) (g:Except Nat (α × Nat)):Z->Bl->Value->Prop:=
 fun z' B' r=>∃ x q,g = .ok (x,q)/\q <= b.length/\rel z' r x/\B' = [rdB br ab b.length cap (q:Nat)]
def RdG {α:Type} (b:List UInt8) (br:Nat) (ab:Option Addr) (cap:Nat) (g:Except Nat (α × Nat)):Z->Bl->List PanicEntry->Prop:=
 fun z' B' c=>∃ e q,g = .error e/\c = tornP e/\B' = [rdB br ab b.length cap (q:Nat)]
section
variable {w0 w:World} {z0 z:Z} {B0 L F:Bl} {K:Value->World->Prop} {Pn:PnT} {br cap:Nat} {ab:Option Addr} {b:List UInt8} {p:Nat}
theorem fail_of {v:Value} {x:Bool} {e:Nat}:FnP 108 #[v,.bool x,.int .i64 (e:Nat)] z [] w (fun z' B' r=>x = true/\r = .tuple #[]/\B' = []) (fun z' B' c=>x = false/\c = tornP e/\B' = []):=FnP.intro fun hS=>en108 (by
 unfold vc108;(repeat (refine V_run ?_));refine Cond_b (fun h=>?_) (fun h=>?_)
 ·(repeat (refine V_run ?_))
  refine ⟨_,_,mi_ok (by kernel_rfl),?_⟩;exact PanW_intro ⟨_,_,hS,by simpa using h,rfl,rfl⟩
 ·exact ⟨_,_,hS,by simpa using h,rfl,rfl⟩)
theorem CVP_fail {v:Value} {x:Bool} {e:Nat} (hS:Res w0 z0 B0 w z L) (hk:x = true->∀ z' w',Le z z'->Res w0 z0 B0 w' z' L->K (.tuple #[]) w') (hp:x = false->∀ z' w',Le z z'->Res w0 z0 B0 w' z' L->Pn (tornP e) w') :
  CVP Pn (.func (.func 108) #[] #[]) #[v,.bool x,.int .i64 (e:Nat)] w K:=by
 refine CVP_fn (B:=[]) (F:=L) hS (fail_of (v:=v) (x:=x) (e:=e)) (by simp) ?_ ?_
 ·rintro z' B' w' v' hz hS' ⟨hx,rfl,rfl⟩
  exact hk hx _ _ hz hS'
 ·rintro z' B' w' c hz hS' ⟨hx,rfl,rfl⟩
  exact hp hx _ _ hz hS'
theorem more_of {n:Int} (hp:p <= b.length) (hl:b.length <= 1000000):FnP 107 #[.pointer (some ⟨br,0,none⟩),.int .i64 n] z [rdB br ab b.length cap p] w
  (fun z' B' r=>n <= (b.length:Int) - p/\r = .tuple #[]/\B' = [rdB br ab b.length cap p]) (fun z' B' c=>¬ n <= (b.length:Int) - p/\c = tornP b.length/\B' = [rdB br ab b.length cap p]):=FnP.intro fun hS=>en107 (by
 unfold vc107;haveI:InI ((b.length:Int) - (p:Int)):=⟨by omega⟩
 (repeat (first | (refine iDr ?_; intro _ _) | refine PV_run ?_ | refine iHV_1 ?_));rename_i hS1;refine CVP_fail hS1 ?_ ?_
 ·intro hx z' w' hz hS2
  (repeat (refine iRI_1 ?_));exact ⟨_,_,hS2,of_decide_eq_true hx,rfl,rfl⟩
 ·intro hx z' w' hz hS2
  exact ⟨_,_,hS2,of_decide_eq_false hx,rfl,rfl⟩)
theorem CVP_more {n:Int} (hS:Res w0 z0 B0 w z L) [gb:BringB L br (.cells [.slice ab b.length cap,.int .i64 p].toArray 177 (0,0)) F] (hp:p <= b.length) (hl:b.length <= 1000000)
  (hk:n <= (b.length:Int) - p->∀ z' w',Le z z'->Res w0 z0 B0 w' z' (rdB br ab b.length cap p :: F)->K (.tuple #[]) w') (hpn:¬ n <= (b.length:Int) - p->∀ z' w',Le z z'->Res w0 z0 B0 w' z' (rdB br ab b.length cap p :: F)->Pn (tornP b.length) w') :
  CVP Pn (.func (.func 107) #[] #[]) #[.pointer (some ⟨br,0,none⟩),.int .i64 n] w K:=by
 refine CVP_fn (B:=[rdB br ab b.length cap p]) (F:=F) (hS.bringB br) (more_of (n:=n) hp hl) (by simp) ?_ ?_
 ·rintro z' B' w' v' hz hS' ⟨hx,rfl,rfl⟩
  exact hk hx _ _ hz hS'
 ·rintro z' B' w' c hz hS' ⟨hx,rfl,rfl⟩
  exact hpn hx _ _ hz hS'
theorem CVP_rd {α:Type} {f:FuncId} [Enters f] {first args args':Array Value} {rel:Z->Value->α->Prop} {g:Except Nat (α × Nat)} (hS:Res w0 z0 B0 w z L) [gb:BringB L br (.cells [.slice ab b.length cap,.int .i64 p].toArray 177 (0,0)) F]
  (h:FnP f args' z [rdB br ab b.length cap p] w (RdR b br ab cap rel g) (RdG b br ab cap g)) (ha:first ++ args ++ #[] = args')
  (hk:∀ z' w' v x q,Le z z'->g = .ok (x,q)->q <= b.length->rel z' v x->Res w0 z0 B0 w' z' (rdB br ab b.length cap (q:Nat) :: F)->K v w')
  (hpn:∀ z' w' e q,Le z z'->g = .error e->Res w0 z0 B0 w' z' (rdB br ab b.length cap (q:Nat) :: F)->Pn (tornP e) w') :
  CVP Pn (.func (.func f) first #[]) args w K:=by
 refine CVP_fn (B:=[rdB br ab b.length cap p]) (F:=F) (hS.bringB br) h ha ?_ ?_
 ·rintro z' B' w' v' hz hS' ⟨x,q,h1,h2,h3,rfl⟩
  exact hk _ _ _ _ _ hz h1 h2 h3 hS'
 ·rintro z' B' w' c hz hS' ⟨e,q,h1,rfl,rfl⟩
  exact hpn _ _ _ _ hz h1 hS'
end
def relI:Z->Value->Int->Prop:=fun _ v n=>v = .int .i64 n
def relS:Z->Value->ByteArray->Prop:=fun _ v s=>v = .string s/\s.size <= big
section
variable {w:World} {z:Z} {br cap:Nat} {ab:Option Addr} {b:List UInt8} {p:Nat}
theorem int_of (hb:SlR El.byte z (.slice ab b.length cap) b) (hl:b.length <= 1000000) (hp:p <= b.length) :
  FnP 179 #[.pointer (some ⟨br,0,none⟩)] z [rdB br ab b.length cap p] w (RdR b br ab cap relI (numR b (-far) far p)) (RdG b br ab cap (numR b (-far) far p)):=FnP.intro fun hS=>en179 (by
 unfold vc179;generalize hRR:(fun (v:Value) (w':World)=>∃ z' B',Res w z [rdB br ab b.length cap p] w' z' B'/\RdR b br ab cap relI (numR b (-far) far p) z' B' v) = RR;generalize hPP:(fun (c:List PanicEntry) (w':World)=>∃ z' B',Res w z [rdB br ab b.length cap p] w' z' B'/\RdG b br ab cap (numR b (-far) far p) z' B' c) = PP;have hR:∀ z' w' n (q:Nat),Res w z [rdB br ab b.length cap p] w' z' [rdB br ab b.length cap q]->numR b (-far) far p = .ok (n,q)->q <= b.length->RR (.int .i64 n) w':=fun z' w' n q k h1 h2=>by rw [<- hRR]; exact ⟨_,_,k,n,q,h1,h2,rfl,rfl⟩
 have hP:∀ z' w' (e q:Nat),Res w z [rdB br ab b.length cap p] w' z' [rdB br ab b.length cap q]->numR b (-far) far p = .error e->PP (tornP e) w':=fun z' w' e q k h1=>by rw [<- hPP]; exact ⟨_,_,k,e,q,h1,rfl,rfl⟩
 clear hRR hPP;obtain ⟨_,_,_,hve,_,hel⟩:=hb.form
 cases hve
 have hnum:numR b (-far) far p = match grpR b p 7 0 0 p with
   | .error e=>.error e
   | .ok (u,q)=>if inB (unzig u) (-far) far = true then .ok (unzig u,q) else .error p:=rfl
 generalize hX:grpR b p 7 0 0 p = X at hnum;generalize numR b (-far) far p = G at hnum hR hP;refine NilW_some ?_;(repeat (first | refine V_run ?_ | refine iV_ld1 ?_));intro Ka hKa;have ma:∀ (u q:Nat) w' z',Res w z [rdB br ab b.length cap p] w' z' [rdB br ab b.length cap q]->u < 562949953421312->q <= b.length->(X = .ok (u,q) \/ (X = .error p/\4398046511104 <= u))->Ka [.int .i64 u] w':=by
  intro u q w1 z1 hS1 hu hq hXu;refine hKa _ _ fun _=>?_
  clear hKa hS hX;haveI:InR 0 2:=⟨by decide,by decide⟩
  haveI:InI (u:Int):=⟨by omega⟩
  haveI:InI ((u:Int) + 1):=⟨by omega⟩
  have hquo:(u:Int).tdiv 2 = ((u / 2:Nat):Int):=by rw [Int.tdiv_eq_ediv_of_nonneg (by omega)]; omega
  have hrem:(u:Int).tmod 2 = ((u % 2:Nat):Int):=by rw [Int.tmod_eq_emod_of_nonneg (by omega)]; omega
  refine V_run ?_;intro Kb hKb;have mb:∀ n:Int,n = unzig u->Kb [.int .i64 n] w1:=by
   rintro n rfl
   refine hKb _ _ fun _=>?_
   clear hKb;refine CVP_pu ?_;intro z2 w2 hz2 hS2;refine CVP_fail hS2 ?_ ?_
   ·intro hx z3 w3 hz3 hS3
    refine hR _ _ _ q hS3 ?_ hq
    rcases hXu with rfl | ⟨rfl,hu2⟩
    ·rw [hnum]; exact if_pos hx
    ·exfalso
     have:=inB_iff.1 hx;unfold unzig at this
     split at this <;> omega
   ·intro hx z3 w3 hz3 hS3
    refine hP _ _ p q hS3 ?_
    rcases hXu with rfl | ⟨rfl,hu2⟩
    ·rw [hnum]; exact if_neg (by rw [hx]; simp)
    ·rw [hnum]
  clear hKb;refine V_run ?_;rw [hrem,hquo];(repeat (refine V_run ?_));refine Cond_d (fun e=>?_) (fun e=>?_)
  ·have hw1:IntKind.i64.wrap (0 - ((u:Int) + 1)) = -((u:Int) + 1):=by rw [wrap_in (by unfold inI; omega)]; omega
   have hw2:(-((u:Int) + 1)).tdiv 2 = -(((u + 1) / 2:Nat):Int):=by rw [Int.neg_tdiv,Int.tdiv_eq_ediv_of_nonneg (by omega)]; omega
   (repeat (refine V_run ?_));rw [hw1,hw2,wrap_in (by unfold inI; omega)];refine mb _ ?_;unfold unzig;rw [if_pos (by omega)]
  ·refine mb _ ?_
   unfold unzig;rw [if_neg (by omega)]
 clear hKa;refine LoopG2 (fun (s:Nat × Nat × Nat) x y w'=>x = .int .i64 (s.2.1:Nat)/\y = .int .i64 (s.1:Nat)/\s.1 <= 6/\s.2.1 < 128 ^ s.1/\s.2.2 <= b.length/\grpR b p (7 - s.1) s.1 s.2.1 s.2.2 = X/\∃ z',Le z z'/\Res w z [rdB br ab b.length cap p] w' z' [rdB br ab b.length cap (s.2.2:Nat)]) (fun s=>7 - s.1) (0,0,p) ⟨rfl,rfl,by simp,by simp,hp,hX,z,Le.refl _,hS⟩ ?_;rintro I M ⟨k,u,q⟩ x y w1 m ⟨rfl,rfl,hk,hu,hq,hg,z1,hz1,hS1⟩ back
 simp only at hk hu hq hg hS1;dsimp only;clear hS hX;have hp7:=pow_le (k:=k) (by omega);have hfu:7 - k = (7 - (k + 1)) + 1:=by omega
 rw [hfu,grpR] at hg;refine V_run ?_;refine Cond_is (decide_eq_true (by omega)) ?_;refine CVP_more hS1 hq hl ?_ ?_
 rotate_left
 ·intro hx z2 w2 hz2 hS2
  have hn:b[q]? = none:=List.getElem?_eq_none (by omega);rw [hn] at hg;simp only at hg;subst hg;exact hP _ _ _ q hS2 hnum
 intro hx z2 w2 hz2 hS2;have hqlt:q < b.length:=by omega
 have hbq:b[q]? = some b[q]:=List.getElem?_eq_getElem hqlt;rw [hbq] at hg;simp only at hg;obtain ⟨bb,off,cs,rfl,hcs,hat⟩:=hel _ _ hbq
 cases hcs
 generalize b[q] = x at *;have hx:=x.toNat_lt;haveI:InR (q:Int) (b.length:Nat):=⟨by omega,by omega⟩
 haveI:InI ((q:Int) + 1):=⟨by omega⟩
 haveI:Fz z bb (off + (q:Int).toNat * 1) [.int .u8 (x.toNat:Nat)]:=⟨by rw [Int.toNat_natCast]; exact hat⟩
 clear hS1;have hxw:IntKind.i64.wrap ((x.toNat:Nat):Int) = ((x.toNat:Nat):Int):=wrap_in (by unfold inI; omega);haveI:InI (7 * (k:Int)):=⟨by omega⟩
 haveI:InI ((k:Int) + 1):=⟨by omega⟩
 refine iDr ?_;intro w3 hS3;clear hS2;(repeat (first | refine V_run ?_ | refine PV_run ?_ | refine iV_ld1 ?_ | (refine iU_st ?_; intro _ _) | refine iHV_1 ?_ | refine iRI_1 ?_ | refine fHV_ld1 ?_));rename_i w4 hS4;simp only [hxw];have hpk:2 ^ (7 * k) = 128 ^ k:=by rw [Nat.pow_mul]
 have hmul:x.toNat % 128 * 128 ^ k <= 127 * 128 ^ k:=Nat.mul_le_mul_right _ (by omega);have hp6:128 ^ k <= 4398046511104:=by
  have:(128:Nat) ^ k <= 128 ^ 6:=Nat.pow_le_pow_right (by decide) hk;rw [show (128:Nat) ^ 6 = 4398046511104 by decide] at this;exact this
 have hsh:IntKind.i64.wrap ((x.toNat:Int) % 128 * 2 ^ (7 * (k:Int)).toNat) = ((x.toNat % 128 * 2 ^ (7 * k):Nat):Int):=by
  rw [show (7 * (k:Int)).toNat = 7 * k by omega,show (x.toNat:Int) % 128 * 2 ^ (7 * k) = ((x.toNat % 128 * 2 ^ (7 * k):Nat):Int) by rw [Int.natCast_mul,Int.natCast_pow,Int.natCast_emod]; rfl];exact wrap_in (by rw [hpk]; unfold inI; omega)
 refine ⟨_,_,shl_ok (by omega) (by omega) _,?_⟩;rw [hsh];refine ⟨_,_,orI_ok _,?_⟩;rw [or_add (k:=7 * k) (by rw [hpk]; exact hu) (by rw [hpk]; omega),hpk];have hps:128 ^ (k + 1) = 128 ^ k * 128:=rfl;refine V_run ?_;refine Cond_d (fun h1=>?_) (fun h1=>?_)
 ·(repeat (first | refine V_run ?_ | refine JB ?_))
  refine CVP_fail hS4 ?_ ?_
  ·intro hc z6 w6 hz6 hS6
   refine ma (u + x.toNat % 128 * 128 ^ k) (q + 1) _ _ (by simpa using hS6) (by omega) (by omega) ?_;have hc':k = 0 \/ 0 < x.toNat:=by
    rcases Nat.eq_zero_or_pos k with h | h
    ·exact .inl h
    ·right
     have:(decide ((k:Int) = 0)) = false:=decide_eq_false (by omega);rw [this] at hc
     simpa using hc
   by_cases h6:k = 6
   ·right
    subst h6;refine ⟨by rw [<- hg,if_pos (.inl rfl)],?_⟩;have:x.toNat % 128 = x.toNat:=Nat.mod_eq_of_lt (by omega);have h1:1 * 128 ^ 6 <= x.toNat % 128 * 128 ^ 6:=Nat.mul_le_mul_right _ (by omega);rw [show (1:Nat) * 128 ^ 6 = 4398046511104 by decide] at h1;omega
   ·left
    rw [<- hg,if_neg (by omega),if_pos (by omega)]
  ·intro hc z6 w6 hz6 hS6
   have hk0:¬ k = 0/\x.toNat = 0:=by
    by_cases h:k = 0
    ·subst h; simp at hc
    ·have:(decide ((k:Int) = 0)) = false:=decide_eq_false (by omega)
     rw [this] at hc;refine ⟨h,?_⟩;have:=of_decide_eq_false (by simpa using hc:decide ((x.toNat:Int) > 0) = false);omega
   rw [if_pos (.inr ⟨by omega,hk0.2⟩)] at hg;subst hg;exact hP _ _ p (q + 1) (by simpa using hS6) hnum
 ·refine V_run ?_
  refine CVP_fail hS4 ?_ ?_
  ·intro hc z6 w6 hz6 hS6
   have hc:=of_decide_eq_true hc;rw [if_neg (by omega),if_neg (by omega)] at hg;refine V_run ?_;exact back (k + 1,u + x.toNat % 128 * 128 ^ k,q + 1) _ _ _ ⟨rfl,by simp,by simp only; omega,by simp only; omega,by simp only; omega,hg,_,hS6.zle,by simpa using hS6⟩ (by simp only; omega)
  ·intro hc z6 w6 hz6 hS6
   have hc:=of_decide_eq_false hc;rw [if_pos (.inl (by omega))] at hg;subst hg;exact hP _ _ p (q + 1) (by simpa using hS6) hnum)
theorem num_narrow (b:List UInt8) (p:Nat) {lo hi:Int} (h0:-far <= lo) (h1:hi <= far):numR b lo hi p = match numR b (-far) far p with
  | .error e=>.error e
  | .ok (n,q)=>if inB n lo hi = true then .ok (n,q) else .error p:=by
 unfold numR
 cases grpR b p 7 0 0 p with
 | error e=>rfl
 | ok x=>
  obtain ⟨u,q⟩:=x;simp only
  by_cases h:inB (unzig u) (-far) far = true
  ·rw [if_pos h]
  ·rw [if_neg h,if_neg]
   intro hh;refine h (inB_iff.2 ?_);have:=inB_iff.1 hh;omega
theorem many_of {top:Int} (ht:top <= far) (hb:SlR El.byte z (.slice ab b.length cap) b) (hl:b.length <= 1000000) (hp:p <= b.length) :
  FnP 178 #[.pointer (some ⟨br,0,none⟩),.int .i64 top] z [rdB br ab b.length cap p] w (RdR b br ab cap relI (numR b 0 top p)) (RdG b br ab cap (numR b 0 top p)):=FnP.intro fun hS=>en178 (by
 unfold vc178;have hn:=num_narrow b p (lo:=0) (hi:=top) (by decide) ht;refine NilW_some ?_;(repeat (first | refine V_run ?_ | refine iV_ld1 ?_));refine CVP_rd (first:=#[]) hS (int_of (br:=br) hb hl hp) (by simp) ?_ ?_
 ·rintro z1 w1 v n q hz1 h1 hq rfl hS1
  rw [h1] at hn;simp only at hn;refine CVP_pu ?_;intro z2 w2 hz2 hS2;refine CVP_fail hS2 ?_ ?_
  ·intro hx z3 w3 hz3 hS3
   rw [if_pos hx] at hn;exact ⟨_,_,hS3,n,q,hn,hq,rfl,rfl⟩
  ·intro hx z3 w3 hz3 hS3
   rw [if_neg (by rw [hx]; simp)] at hn;exact ⟨_,_,hS3,p,q,hn,rfl,rfl⟩
 ·rintro z1 w1 e q hz1 h1 hS1
  rw [h1] at hn;simp only at hn;exact ⟨_,_,hS1,e,q,hn,rfl,rfl⟩)
theorem str_of' (hb:SlR El.byte z (.slice ab b.length cap) b) (hl:b.length <= 1000000) (hp:p <= b.length) :
  FnP 110 #[.pointer (some ⟨br,0,none⟩)] z [rdB br ab b.length cap p] w (RdR b br ab cap relS (strR b p)) (RdG b br ab cap (strR b p)):=FnP.intro fun hS=>en110 (by
 unfold vc110;refine CVP_rd (first:=#[]) hS (many_of (br:=br) (top:=1000) (by decide) hb hl hp) (by simp) ?_ ?_
 rotate_left
 ·rintro z1 w1 e q hz1 h1 hS1
  exact ⟨_,_,hS1,e,q,by simp only [strR,andR,h1],rfl,rfl⟩
 rintro z1 w1 v n q hz1 h1 hq rfl hS1
 have hm:=num_mem h1;have hlt:=num_lt h1;have hstr:strR b p = if n > (b.length:Int) - q then .error b.length else .ok (⟨((b.drop q).take n.toNat).toArray⟩,q + n.toNat):=by simp only [strR,andR,h1]
 refine CVP_more hS1 hq hl ?_ ?_
 rotate_left
 ·intro hx z2 w2 hz2 hS2
  rw [if_pos (by omega)] at hstr;exact ⟨_,_,hS2,b.length,q,hstr,rfl,rfl⟩
 intro hx z2 w2 hz2 hS2;rw [if_neg (by omega)] at hstr;clear hS hS1;obtain ⟨n,rfl⟩:∃ m:Nat,n = (m:Int):=⟨n.toNat,by omega⟩
 obtain ⟨_,_,_,hve,hcap,hel⟩:=hb.form
 cases hve
 obtain ⟨bb,off,_,rfl,_,_⟩:=hel 0 _ (List.getElem?_eq_getElem (by omega:0 < b.length));haveI:InI ((q:Int) + (n:Int)):=⟨by omega⟩
 haveI:InR (q:Int) ((q:Int) + (n:Int) + 1):=⟨by omega,by omega⟩
 haveI:InR ((q:Int) + (n:Int)) ((cap:Int) + 1):=⟨by omega,by omega⟩
 (repeat (first | (refine iDr ?_; intro _ _) | refine PV_run ?_ | refine iHV_1 ?_));rename_i hS3;have hsub:=SlR.sub (l:=q) (h:=q + n) (s:=1) hb rfl (by omega) (by omega);rw [show ((q:Int) + (n:Int)).toNat = q + n by omega,show ((q:Int)).toNat = q by omega];refine ⟨_,_,run_cvs (hsub.mono hS3.zle) hS3.sub,?_⟩;(repeat (first | refine V_run ?_ | refine iV_ld1 ?_ | (refine iU_st ?_; intro _ _) | refine iRI_1 ?_));rename_i hS4;rw [show (((q + n - q:Nat)) = n) by omega];refine ⟨_,_,hS4,_,q + n,hstr,by omega,⟨by simp,?_⟩,by simp⟩;have:(ByteArray.mk ((b.drop q).take n).toArray).size = ((b.drop q).take n).length:=rfl;simp only [Int.toNat_natCast,this,List.length_take,List.length_drop,big];omega)
end
end
section
open Go Q Go.RowKit
def relE {α:Type} (E:El α):Z->Value->α->Prop:=fun z v x=>∃ cs,v.cells = cs.toArray/\(∀ u ∈ cs,isOne u = true)/\E.rel z cs x
def relL {α:Type} (E:El α):Z->Value->List α->Prop:=fun z v xs=>SlR E z v xs
section
variable {w:World} {z:Z} {br cap:Nat} {ab:Option Addr} {b:List UInt8} {p:Nat}
theorem part_of (hb:SlR El.byte z (.slice ab b.length cap) b) (hl:b.length <= 1000000) (hp:p <= b.length) :
  FnP 114 #[.pointer (some ⟨br,0,none⟩)] z [rdB br ab b.length cap p] w (RdR b br ab cap (relE El.part) (partR b p)) (RdG b br ab cap (partR b p)):=FnP.intro fun hS=>en114 (by
 unfold vc114;refine iV_al ?_;intro b2 w1 hb2 hS1;refine CVP_rd (first:=#[]) hS1 (int_of (br:=br) hb hl hp) (by simp) ?_ ?_
 rotate_left
 ·rintro z2 w2 e q hz2 h2 hS2
  exact ⟨_,_,hS2.keep [.at br],e,q,by simp only [partR,anyR,andR,h2],rfl,rfl⟩
 rintro z2 w2 v k q2 hz2 h2 hq2 rfl hS2
 (repeat (refine V_run ?_));refine iV_al ?_;intro bt w3 hbt hS3;refine iU_st ?_;intro w4 hS4;clear hS hS1 hS2 hS3;refine CVP_rd (first:=#[]) hS4 (str_of' (br:=br) (hb.mono hS4.zle) hl hq2) (by simp) ?_ ?_
 rotate_left
 ·rintro z5 w5 e q hz5 h5 hS5
  exact ⟨_,_,hS5.keep [.at br],e,q,by simp only [partR,anyR,andR,h2,h5],rfl,rfl⟩
 rintro z5 w5 v s q5 hz5 h5 hq5 ⟨rfl,hs⟩ hS5
 clear hS4;(repeat (first | refine V_run ?_ | (refine iU_st ?_; intro _ _)));rename_i hS6;refine CVP_rd (first:=#[]) hS6 (int_of (br:=br) (hb.mono hS6.zle) hl hq5) (by simp) ?_ ?_
 rotate_left
 ·rintro z7 w7 e q hz7 h7 hS7
  exact ⟨_,_,hS7.keep [.at br],e,q,by simp only [partR,anyR,andR,h2,h5,h7],rfl,rfl⟩
 rintro z7 w7 v n q7 hz7 h7 hq7 rfl hS7
 clear hS5 hS6;(repeat (first | refine V_run ?_ | refine iV_ldN ?_ | (refine iU_st ?_; intro _ _) | refine iHV_N ?_));rename_i hS8;exact ⟨_,_,hS8.keep [.at br],⟨k,s,n⟩,q7,by simp only [partR,anyR,andR,h2,h5,h7],hq7,⟨_,rfl,fun u hu=>by simp at hu; rcases hu with rfl | rfl | rfl <;> rfl,rfl,hs⟩,rfl⟩)
theorem item_of (hb:SlR El.byte z (.slice ab b.length cap) b) (hl:b.length <= 1000000) (hp:p <= b.length) :
  FnP 118 #[.pointer (some ⟨br,0,none⟩)] z [rdB br ab b.length cap p] w (RdR b br ab cap (relE El.item) (itemR b p)) (RdG b br ab cap (itemR b p)):=FnP.intro fun hS=>en118 (by
 unfold vc118;refine iV_al ?_;intro b2 w1 hb2 hS1;refine CVP_rd (first:=#[]) hS1 (many_of (br:=br) (top:=1) (by decide) hb hl hp) (by simp) ?_ ?_
 rotate_left
 ·rintro z2 w2 e q hz2 h2 hS2
  exact ⟨_,_,hS2.keep [.at br],e,q,by simp only [itemR,andR,h2],rfl,rfl⟩
 rintro z2 w2 v k q2 hz2 h2 hq2 rfl hS2
 (repeat (refine V_run ?_));refine iV_al ?_;intro bt w3 hbt hS3;refine iU_st ?_;intro w4 hS4;clear hS hS1 hS2 hS3;refine CVP_rd (first:=#[]) hS4 (str_of' (br:=br) (hb.mono hS4.zle) hl hq2) (by simp) ?_ ?_
 rotate_left
 ·rintro z5 w5 e q hz5 h5 hS5
  exact ⟨_,_,hS5.keep [.at br],e,q,by simp only [itemR,andR,h2,h5],rfl,rfl⟩
 rintro z5 w5 v s q5 hz5 h5 hq5 ⟨rfl,hs⟩ hS5
 clear hS4;(repeat (first | refine V_run ?_ | refine iV_ldN ?_ | (refine iU_st ?_; intro _ _) | refine iHV_N ?_));rename_i hS6;exact ⟨_,_,hS6.keep [.at br],⟨s,decide (k = 1)⟩,q5,by simp only [itemR,andR,h2,h5],hq5,⟨_,rfl,fun u hu=>by simp at hu; rcases hu with rfl | rfl <;> rfl,rfl,hs⟩,rfl⟩)
theorem spot_of (hb:SlR El.byte z (.slice ab b.length cap) b) (hl:b.length <= 1000000) (hp:p <= b.length) :
  FnP 120 #[.pointer (some ⟨br,0,none⟩)] z [rdB br ab b.length cap p] w (RdR b br ab cap (relE El.spot) (spotR b p)) (RdG b br ab cap (spotR b p)):=FnP.intro fun hS=>en120 (by
 unfold vc120;refine iV_al ?_;intro b2 w1 hb2 hS1;refine CVP_rd (first:=#[]) hS1 (int_of (br:=br) hb hl hp) (by simp) ?_ ?_
 rotate_left
 ·rintro z2 w2 e q hz2 h2 hS2
  exact ⟨_,_,hS2.keep [.at br],e,q,by simp only [spotR,anyR,andR,h2],rfl,rfl⟩
 rintro z2 w2 v k q2 hz2 h2 hq2 rfl hS2
 (repeat (refine V_run ?_));refine iV_al ?_;intro bt w3 hbt hS3;refine iU_st ?_;intro w4 hS4;clear hS hS1 hS2 hS3;refine CVP_rd (first:=#[]) hS4 (str_of' (br:=br) (hb.mono hS4.zle) hl hq2) (by simp) ?_ ?_
 rotate_left
 ·rintro z5 w5 e q hz5 h5 hS5
  exact ⟨_,_,hS5.keep [.at br],e,q,by simp only [spotR,anyR,andR,h2,h5],rfl,rfl⟩
 rintro z5 w5 v s q5 hz5 h5 hq5 ⟨rfl,hs⟩ hS5
 clear hS4;(repeat (first | refine V_run ?_ | refine iV_ldN ?_ | (refine iU_st ?_; intro _ _) | refine iHV_N ?_));rename_i hS6;exact ⟨_,_,hS6.keep [.at br],⟨s,k⟩,q5,by simp only [spotR,anyR,andR,h2,h5],hq5,⟨_,rfl,fun u hu=>by simp at hu; rcases hu with rfl | rfl <;> rfl,rfl,hs⟩,rfl⟩)
theorem ins_of (hb:SlR El.byte z (.slice ab b.length cap) b) (hl:b.length <= 1000000) (hp:p <= b.length) :
  FnP 122 #[.pointer (some ⟨br,0,none⟩)] z [rdB br ab b.length cap p] w (RdR b br ab cap (relE El.ins) (insR b p)) (RdG b br ab cap (insR b p)):=FnP.intro fun hS=>en122 (by
 unfold vc122;refine iV_al ?_;intro b2 w1 hb2 hS1;refine CVP_rd (first:=#[]) hS1 (int_of (br:=br) hb hl hp) (by simp) ?_ ?_
 rotate_left
 ·rintro z2 w2 e q hz2 h2 hS2
  exact ⟨_,_,hS2.keep [.at br],e,q,by simp only [insR,anyR,andR,h2],rfl,rfl⟩
 rintro z2 w2 v n1 q2 hz2 h2 hq2 rfl hS2
 (repeat (refine V_run ?_));refine iV_al ?_;intro bt w3 hbt hS3;refine iU_st ?_;intro w4 hS4;clear hS hS1 hS2 hS3;refine CVP_rd (first:=#[]) hS4 (int_of (br:=br) (hb.mono hS4.zle) hl hq2) (by simp) ?_ ?_
 rotate_left
 ·rintro z5 w5 e q hz5 h5 hS5
  exact ⟨_,_,hS5.keep [.at br],e,q,by simp only [insR,anyR,andR,h2,h5],rfl,rfl⟩
 rintro z5 w5 v n2 q5 hz5 h5 hq5 rfl hS5
 clear hS4;(repeat (first | refine V_run ?_ | (refine iU_st ?_; intro _ _)));rename_i hS6;refine CVP_rd (first:=#[]) hS6 (int_of (br:=br) (hb.mono hS6.zle) hl hq5) (by simp) ?_ ?_
 rotate_left
 ·rintro z7 w7 e q hz7 h7 hS7
  exact ⟨_,_,hS7.keep [.at br],e,q,by simp only [insR,anyR,andR,h2,h5,h7],rfl,rfl⟩
 rintro z7 w7 v n3 q7 hz7 h7 hq7 rfl hS7
 clear hS5 hS6;(repeat (first | refine V_run ?_ | (refine iU_st ?_; intro _ _)));rename_i hS8;refine CVP_rd (first:=#[]) hS8 (int_of (br:=br) (hb.mono hS8.zle) hl hq7) (by simp) ?_ ?_
 rotate_left
 ·rintro z9 w9 e q hz9 h9 hS9
  exact ⟨_,_,hS9.keep [.at br],e,q,by simp only [insR,anyR,andR,h2,h5,h7,h9],rfl,rfl⟩
 rintro z9 w9 v n4 q9 hz9 h9 hq9 rfl hS9
 clear hS7 hS8;(repeat (first | refine V_run ?_ | refine iV_ldN ?_ | (refine iU_st ?_; intro _ _) | refine iHV_N ?_));rename_i hS10;exact ⟨_,_,hS10.keep [.at br],⟨n1,n2,n3,n4⟩,q9,by simp only [insR,anyR,andR,h2,h5,h7,h9],hq9,⟨_,rfl,fun u hu=>by simp at hu; rcases hu with rfl | rfl | rfl | rfl <;> rfl,rfl⟩,rfl⟩)
end
def vcElm (T:Nat) (R:Value->World->Prop) (Pn:PnT) (w:World) (t0 t1 t2:Value):Prop:=
 CVP Pn (.func (.func 178) #[] #[]) #[t0,t1] w fun t11 w=>∃ (I0:List Value->World->Prop) (M0:List Value->World->Nat),I0 [(.slice none 0 0),(.int .i64 0)] w/\∀ g:Env,∀ t8,∀ t13,∀ w,I0 [t8,t13] w->∀ m0,m0 = M0 [t8,t13] w ->
 V (bi .lss 3 t13 t11) w fun t14 w=>CondW t14
 (CVP Pn t2 #[] w fun t17 w=>V (bs T 1 #[(0,t17)]) w fun t18 w=>V (Builtin.append_ #[T,T] T #[t8,t18]) w fun t19 w=>V (bi .add 3 t13 (.int .i64 1)) w fun t20 w=>
 I0 [t19,t20] w/\M0 [t19,t20] w < m0)
 (R t8 w)
section
variable {w:World} {z:Z} {br cap:Nat} {ab:Option Addr} {b:List UInt8} {p:Nat}
theorem elm_of {α:Type} {E:El α} {T e size bytes fe:Nat} [TyApp T e size bytes] [TySlice T e size] [TyFill e size] (hE:E.size = size) (hsz:size <= 1000) (hby:bytes <= 1000)
  (hen:∀ {R:Value->World->Prop} {Pn:PnT} {w:World} {t0 t1 t2:Value},vcElm T R Pn w t0 t1 t2->Calls Tryz.prog fe #[t0,t1,t2] w (retKP R Pn)) {top:Int} (ht0:0 <= top) (ht:top <= 12000) {fv:Value} {g:Nat->Except Nat (α × Nat)}
  (hf:∀ z' w' q,Le z z'->q <= b.length->VaP fv #[] z' [rdB br ab b.length cap (q:Nat)] w' (RdR b br ab cap (relE E) (g q)) (RdG b br ab cap (g q))) (hb:SlR El.byte z (.slice ab b.length cap) b) (hl:b.length <= 1000000) (hp:p <= b.length) :
  FnP fe #[.pointer (some ⟨br,0,none⟩),.int .i64 top,fv] z [rdB br ab b.length cap p] w (RdR b br ab cap (relL E) (manyR b top g p)) (RdG b br ab cap (manyR b top g p)):=FnP.intro fun hS=>hen (by
 unfold vcElm;refine CVP_rd (first:=#[]) hS (many_of (br:=br) (top:=top) (by simp only [far]; omega) hb hl hp) (by simp) ?_ ?_
 rotate_left
 ·rintro z2 w2 er q hz2 h2 hS2
  exact ⟨_,_,hS2,er,q,by simp only [manyR,andR,h2],rfl,rfl⟩
 rintro z2 w2 v n q2 hz2 h2 hq2 rfl hS2
 have hm:=num_mem h2;have hmany:manyR b top g p = seqR g n.toNat q2:=by simp only [manyR,andR,h2]
 rw [hmany];clear hS hmany h2;generalize hX:seqR g n.toNat q2 = X;refine LoopG2 (fun (s:List α × Nat) x y w'=>y = .int .i64 s.1.length/\s.1.length <= n.toNat/\s.2 <= b.length/\X = andR (seqR g (n.toNat - s.1.length) s.2) (fun l' r=>.ok (s.1 ++ l',r))/\∃ B us z',Le z2 z'/\OwnSl e size B x s.1.length us/\Lsl E z' us s.1/\Res w z [rdB br ab b.length cap p] w' z' (rdB br ab b.length cap (s.2:Nat) :: B)) (fun s=>n.toNat - s.1.length) ([],q2) ⟨rfl,Nat.zero_le _,hq2,?_,[],[],z2,Le.refl _,OwnSl.nil,Lsl.nil,hS2⟩ ?_
 ·rw [<- hX]
  simp only [List.length_nil,Nat.sub_zero,List.nil_append];unfold andR
  cases seqR g n.toNat q2 <;> rfl
 clear hX hS2 hq2;rintro I M ⟨l,q⟩ x y w3 m ⟨rfl,hk,hq,hx,B,us,z3,hz3,ho,hls,hS3⟩ back
 simp only at hk hq hx ho hls hS3;dsimp only;refine V_run ?_;refine Cond_d (fun h=>?_) (fun h=>?_)
 ·rw [show n.toNat - l.length = (n.toNat - (l.length + 1)) + 1 by omega,seqR] at hx
  refine CVP_va (B:=[rdB br ab b.length cap (q:Nat)]) (F:=B) hS3 (hf _ _ q (hz2.trans hz3) hq) ?_ ?_
  rotate_left
  ·rintro z4 B4 w4 c hz4 hS4 ⟨er,q',h4,rfl,rfl⟩
   have hS4':Res w z [rdB br ab b.length cap p] w4 z4 (rdB br ab b.length cap (q':Nat) :: B):=hS4;refine ⟨_,_,hS4'.keep [.at br],er,q',?_,rfl,rfl⟩;rw [hx,h4]
   rfl
  rintro z4 B4 w4 v4 hz4 hS4 ⟨y,q',h4,hq4,⟨cs,hcs,hone,hrel⟩,rfl⟩
  haveI:CellsOf v4 cs:=⟨hcs⟩
  haveI:LenIs cs size:=⟨by rw [E.len hrel,hE]⟩
  haveI:Ones cs:=⟨hone⟩
  haveI:InI ((l.length:Int) + 1):=⟨by omega⟩
  have hS4':Res w z [rdB br ab b.length cap p] w4 z4 (rdB br ab b.length cap (q':Nat) :: B):=hS4;refine V_push hS4' ho (by simp only [room]; have:(l.length + 1) * bytes <= (l.length + 1) * 1000:=Nat.mul_le_mul_left _ hby; omega) (by simp only [room]; omega) hsz ?_;intro B5 v5 w5 ho5 hS5;have hS6:=hS5.keep [.at br,.bl B5];rw [List.append_nil] at hS6;refine V_run ?_;refine back (l ++ [y],q') _ _ _ ⟨by simp,by simp; omega,hq4,?_,B5,_,z4,by (repeat (first | assumption | refine Le.trans ?_ (by assumption:Le _ _))),by rw [List.length_append]; exact ho5,(hls.mono hz4).push hrel,hS6⟩ (by simp; omega);rw [hx,h4];simp only [andR,List.length_append,List.length_cons,List.length_nil,Nat.zero_add]
  cases seqR g (n.toNat - (l.length + 1)) q' with
  | error e=>rfl
  | ok a=>simp
 ·have hend:n.toNat - l.length = 0:=by omega
  rw [hend] at hx;obtain ⟨z4,hz4,hS4,hv⟩:=Res.freezeL (E:=E) (e:=e) (hS3.bring B) (by rw [hE]; exact ho) hls (by simp only [big]; omega);exact ⟨_,_,hS4,l,q,by rw [hx]; simp [seqR,andR],hq,hv,rfl⟩)
end
end
section
open Go Q Go.RowKit
theorem strS_size {b:List UInt8} {st:St} (hl:b.length <= 1000000):(strS b st).1.size <= big:=by
 unfold strS
 split
 ·exact Nat.zero_le _
 ·split
  ·exact Nat.zero_le _
  ·rename_i n q _ h
   have:(ByteArray.mk ((b.drop q).take n.toNat).toArray).size = ((b.drop q).take n.toNat).length:=rfl;simp only [this,List.length_take,List.length_drop,big];omega
theorem V_push2 {w0 w:World} {z0 z:Z} {B0 B L R:Bl} {K1:Value->World->Prop} {t e size bytes n:Nat} {v u:Value} {us xs:List Value} [g:TyApp t e size bytes] [gs:TySlice t e size] [gz:TyFill e size] [gc:CellsOf u us] [gl:LenIs us size] [go:Ones us]
  (hS:Res w0 z0 B0 w z L) (ho:OwnSl e size B v n xs) [gb:BringL L B R] (hb:(n + 1) * bytes <= room) (hb2:n + 1 <= room) (hsz:size <= 1000)
  (hk:∀ s w1 b,Res w0 z0 B0 w1 z ((b,.cells us.toArray e (0,0)) :: L)->(∀ K,(∀ B' v' w',OwnSl e size B' v' (n + 1) (xs ++ us)->Res w0 z0 B0 w' z (B' ++ R)->K v' w')->V (Builtin.append_ #[t,t] t #[v,s]) w1 K)->K1 s w1):V (bs t 1 #[(0,u)]) w K1:=by
 refine V_bs (parts:=[(0,u)]) rfl (by omega) ?_;intro b w1 hb1 hS1;rw [List.append_nil] at hS1;refine hk _ _ b hS1 fun K hK=>?_
 have hat:At (hp w1) b 0 us:=⟨_,_,_,(hS1.mem _ List.mem_cons_self).1,fun j v hv=>by simpa using hv⟩
 have hS2:Res w0 z0 B0 w1 z (B ++ R):=(hS1.sublist (List.sublist_cons_self _ _)).perm gb.h;exact V_app (B:=B) (m:=1) hS2 ho hat (by rw [gl.h]; omega) go.h (by omega) hb hb2 hK
def dS (b:List UInt8):CodeM × St:=match b with
 | []=>(noCode,.error 0)
 | x :: _=>decS b (dec0 x)
theorem cond_and {a c:Bool} (h:(bif a then c else false) = true):a = true/\c = true:=by cases a <;> simp_all
theorem cond_nand {a c:Bool} (h:(bif a then c else false) = false):a = true->c = false:=by cases a <;> simp_all
theorem rst_ok {b:List UInt8} {st:St} {p bad:Int} (h:RSt b st p bad) (hb:bad < 0):∃ q,st = .ok q:=by
 cases st with
 | error e=>cases h; omega
 | ok q=>exact ⟨q,rfl⟩
theorem rst_er {b:List UInt8} {st:St} {p bad:Int} (h:RSt b st p bad) (hb:¬ bad < 0):∃ e,st = .error e:=by
 cases st with
 | ok q=>obtain ⟨_,rfl,_⟩:=h; omega
 | error e=>exact ⟨e,rfl⟩
theorem SlR.form2 {α:Type} {E:El α} {z:Z} {v:Value} {xs:List α} (h:SlR E z v xs):∃ a c,v = .slice a xs.length c/\xs.length <= c:=let ⟨_,a,c,h1,h2,_⟩:=h.form; ⟨a,c,h1,h2⟩
theorem refDecode_of {z:Z} {w:World} {bs cap:Nat} {ab:Option Addr} {b:List UInt8} (hb:SlR El.byte z (.slice ab b.length cap) b) (hl:b.length <= 1000000) :
  Fn 123 #[.pointer (some ⟨bs,0,none⟩)] z [srcB bs ab b.length cap 0 (-1)] w fun z' B' r=>∃ p bad,CodeR z' r (dS b).1/\RSt b (dS b).2 p bad/\B' = [srcB bs ab b.length cap p bad]:=Fn.intro fun hS=>en123 (by
 unfold vc123;generalize hRR:(fun (v:Value) (w':World)=>∃ z' B',Res w z [srcB bs ab b.length cap 0 (-1)] w' z' B'/\∃ p bad,CodeR z' v (dS b).1/\RSt b (dS b).2 p bad/\B' = [srcB bs ab b.length cap p bad]) = RR;generalize hBB:[srcB bs ab b.length cap 0 (-1)] = BB at hRR;have hS0:Res w z BB w z [srcB bs ab b.length cap 0 (-1)]:=by rw [<- hBB]; exact hS
 have hR:∀ z' w' r p bad,Res w z BB w' z' [srcB bs ab b.length cap p bad]->CodeR z' r (dS b).1->RSt b (dS b).2 p bad->RR r w':=fun z' w' r p bad h1 h2 h3=>by rw [<- hRR]; exact ⟨_,_,h1,_,_,h2,h3,rfl⟩
 clear hS hRR hBB;refine iV_al ?_;intro b2 w1 hb2 hS1;refine iV_al ?_;intro b3 w2 hb3 hS2;clear hS0 hS1;obtain ⟨_,_,_,hve,hcap,hel⟩:=hb.form
 cases hve
 (repeat (first | refine V_run ?_ | refine iV_ld1 ?_));refine Cond_d (fun h=>?_) (fun h=>?_)
 ·have hb0:b = []:=List.eq_nil_of_length_eq_zero (by omega)
  subst hb0;refine CV_fn (B:=[srcB bs ab 0 cap 0 (-1)]) (F:=[(b3,.cells [nilS,nilS,nilS,nilS,nilS,nilS].toArray 28 (0,0)),(b2,.cells [nilS,nilS,nilS,nilS,nilS,nilS].toArray 28 (0,0))]) (hS2.bring [srcB bs ab 0 cap 0 (-1)]) (refFail_of (e:=(0:Int))) (by simp) ?_;rintro z3 B3 w3 v3 hz3 hS3 ⟨rfl,rfl⟩
  rw [if_pos (by decide)] at hS3;replace hS3:Res w z BB w3 z3 [srcB bs ab 0 cap 0 0,(b3,.cells [nilS,nilS,nilS,nilS,nilS,nilS].toArray 28 (0,0)),(b2,.cells [nilS,nilS,nilS,nilS,nilS,nilS].toArray 28 (0,0))]:=hS3;clear hS2;(repeat (first | refine iV_ldN ?_ | (refine iU_st ?_; intro _ _) | refine iHV_N ?_));rename_i hS4;have hS5:=hS4.keep [.at bs];exact hR _ _ _ 0 0 hS5 ⟨_,_,_,_,_,_,rfl,SlR.nil,SlR.nil,SlR.nil,SlR.nil,SlR.nil,SlR.nil⟩ rfl
 obtain ⟨x,tl,hbx⟩:∃ x tl,b = x :: tl:=by
  cases b with
  | nil=>exact absurd rfl h
  | cons x tl=>exact ⟨x,tl,rfl⟩
 have hds:dS b = decS b (dec0 x):=by rw [hbx]; rfl
 have hx0:b[0]? = some x:=by rw [hbx]; rfl
 clear h;obtain ⟨bb,off,_,rfl,rfl,hatx⟩:=hel 0 x hx0;intro Ka hKa;have main:∀ bad w' z',RSt b (dec0 x) 1 bad->Res w z BB w' z' [srcB bs (some ⟨bb,off,none⟩) b.length cap 0 bad,(b3,.cells [nilS,nilS,nilS,nilS,nilS,nilS].toArray 28 (0,0)),(b2,.cells [nilS,nilS,nilS,nilS,nilS,nilS].toArray 28 (0,0))]->Ka [] w':=by
  intro bad w3 z3 hst0 hS3;refine hKa _ fun _=>?_
  clear hKa hS2;generalize dec0 x = st0 at hds hst0;(repeat (first | refine V_run ?_ | (refine iU_st ?_; intro _ _)));rename_i hS4
  -- stage 1
  refine CV_numS hS4 (hb.mono hS4.zle) hl hst0 (by decide) (by decide) ?_;intro za1 wa1 pa1 ba1 hza1 hSa1 hsta1;have hn1:=numS_mem (b:=b) (lo:=0) (hi:=3000) (st:=st0) (by decide) (by decide);have hek1:dec1 b st0 = seqS (strS b) (numS b 0 3000 st0).1.toNat (numS b 0 3000 st0).2:=rfl;generalize (numS b 0 3000 st0).1 = n1 at hek1 hn1 ⊢;generalize (numS b 0 3000 st0).2 = sa1 at hek1 hsta1;clear hS4;refine LoopRd1 (f:=strS b) (n:=n1) (st0:=sa1) (fun l st w'=>∃ v B us z' p bad,Le za1 z'/\RSt b st p bad/\OwnSl 9 1 B v l.length us/\Lsl El.str z' us l/\Res w z BB w' z' (srcB bs (some ⟨bb,off,none⟩) b.length cap p bad :: (b3,.cells [v,nilS,nilS,nilS,nilS,nilS].toArray 28 (0,0)) :: (b2,.cells [nilS,nilS,nilS,nilS,nilS,nilS].toArray 28 (0,0)) :: B)) (by omega) ⟨nilS,[],[],za1,pa1,ba1,Le.refl _,hsta1,OwnSl.nil,Lsl.nil,hSa1⟩ ?_;rintro I1 M1 k1 l1 st1 w1 m1 ⟨v1,B1,us1,z1,p1,bad1,hz1,hst1,ho1,hls1,hS1⟩ hk1 hlen1 back1 done1
  clear hSa1;(repeat (first | refine V_run ?_ | (refine JGB ?_; intro _ _ _ _)));rename_i hSc1;clear hS1;refine Cond_b (fun h=>?_) (fun h=>?_)
  ·obtain ⟨h1,h2⟩:=cond_and h
   have h1:=of_decide_eq_true h1;have h2:=of_decide_eq_true h2;clear h;haveI:InI ((k1:Int) + 1):=⟨by omega⟩
   (repeat (first | (refine iDr ?_; intro _ _) | refine PV_run ?_ | refine iHV_1 ?_));rename_i hSd;refine CV_strS hSd (hb.mono hSd.zle) hl hst1 ?_;intro z8 w8 p8 bad8 hz8 hS8 hst8;(repeat (refine iRI_1 ?_));refine V_push2 (e:=9) (size:=1) (xs:=us1) (v:=v1) hS8 ho1 (by simp only [room]; omega) (by simp only [room]; omega) (by omega) ?_;intro s9 w9 b9 hS9 happ;(repeat (refine iRI_1 ?_));refine happ _ ?_;intro B12 v12 w12 ho12 hS12;obtain ⟨a12,c12,rfl,_⟩:=ho12.form;(repeat (first | refine V_run ?_ | refine PV_run ?_ | (refine iU_st ?_; intro _ _)));rename_i hS13;have hS14:=hS13.keep [.at bs,.at b3,.at b2,.bl B12];rw [List.append_nil] at hS14;exact back1 h1 (rst_ok hst1 h2) _ ⟨_,B12,_,_,_,_,by (repeat (first | assumption | refine Le.trans ?_ (by assumption:Le _ _))),hst8,by rw [List.length_append]; exact ho12,(hls1.mono (by (repeat (first | assumption | refine Le.trans ?_ (by assumption:Le _ _))))).push ⟨rfl,strS_size hl⟩,hS14⟩
  have hd:seqS (strS b) n1.toNat sa1 = (l1,st1):=done1 (by
   by_cases hh:(k1:Int) < n1
   ·exact .inl (rst_er hst1 (by have:=cond_nand h (decide_eq_true hh); simpa using this))
   ·exact .inr (by omega))
  have e1:=hek1.trans hd;clear back1 done1 hd hek1 h;obtain ⟨zb1,hzb1,hSb1,g1⟩:=Res.freezeL (E:=El.str) (e:=9) (hSc1.bring B1) ho1 (hls1.mono (by (repeat (assumption)))) (by simp only [big]; omega);clear hSc1 ho1 hls1
  -- stage 2
  refine CV_numS hSb1 (hb.mono hSb1.zle) hl hst1 (by decide) (by decide) ?_;intro za2 wa2 pa2 ba2 hza2 hSa2 hsta2;have hn2:=numS_mem (b:=b) (lo:=0) (hi:=3000) (st:=st1) (by decide) (by decide);have hek2:dec2 b st1 = seqS (manyS b 100 (partS b)) (numS b 0 3000 st1).1.toNat (numS b 0 3000 st1).2:=rfl;generalize (numS b 0 3000 st1).1 = n2 at hek2 hn2 ⊢;generalize (numS b 0 3000 st1).2 = sa2 at hek2 hsta2;clear hSb1;replace g1:=g1.mono hza2;refine LoopRd1 (f:=manyS b 100 (partS b)) (n:=n2) (st0:=sa2) (fun l st w'=>∃ v B us z' p bad,Le za2 z'/\RSt b st p bad/\OwnSl 93 1 B v l.length us/\Lsl (El.sl El.part) z' us l/\Res w z BB w' z' (srcB bs (some ⟨bb,off,none⟩) b.length cap p bad :: (b3,.cells [v1,v,nilS,nilS,nilS,nilS].toArray 28 (0,0)) :: (b2,.cells [nilS,nilS,nilS,nilS,nilS,nilS].toArray 28 (0,0)) :: B)) (by omega) ⟨nilS,[],[],za2,pa2,ba2,Le.refl _,hsta2,OwnSl.nil,Lsl.nil,hSa2⟩ ?_;rintro I2 M2 k2 l2 st2 w2 m2 ⟨v2,B2,us2,z2,p2,bad2,hz2,hst2,ho2,hls2,hS2⟩ hk2 hlen2 back2 done2
  clear hSa2;(repeat (first | refine V_run ?_ | (refine JGB ?_; intro _ _ _ _)));rename_i hSc2;clear hS2;refine Cond_b (fun h=>?_) (fun h=>?_)
  ·obtain ⟨h1,h2⟩:=cond_and h
   have h1:=of_decide_eq_true h1;have h2:=of_decide_eq_true h2;clear h;haveI:InI ((k2:Int) + 1):=⟨by omega⟩
   refine CV_numS hSc2 (hb.mono hSc2.zle) hl hst2 (by decide) (by decide) ?_;intro zi wi pi bi hzi hSi hsti;have hni:=numS_mem (b:=b) (lo:=0) (hi:=100) (st:=st2) (by decide) (by decide);have hei:manyS b 100 (partS b) st2 = seqS (partS b) (numS b 0 100 st2).1.toNat (numS b 0 100 st2).2:=rfl;generalize (numS b 0 100 st2).1 = ni at hei hni ⊢;generalize (numS b 0 100 st2).2 = si at hei hsti;clear hSc2;refine LoopRd2 (f:=partS b) (n:=ni) (st0:=si) (fun l st y w'=>∃ B us z' p bad,Le zi z'/\RSt b st p bad/\OwnSl 95 3 B y l.length us/\Lsl El.part z' us l/\Res w z BB w' z' (srcB bs (some ⟨bb,off,none⟩) b.length cap p bad :: (b3,.cells [v1,v2,nilS,nilS,nilS,nilS].toArray 28 (0,0)) :: (b2,.cells [nilS,nilS,nilS,nilS,nilS,nilS].toArray 28 (0,0)) :: (B2 ++ B))) (by omega) ⟨[],[],zi,pi,bi,Le.refl _,hsti,OwnSl.nil,Lsl.nil,by rw [List.append_nil]; exact hSi⟩ ?_;rintro J N j lj sj y wj mj ⟨Bj,usj,zj,pj,badj,hzj,hstj,hoj,hlsj,hSj⟩ hj hlenj backj donej
   clear hSi;(repeat (first | refine V_run ?_ | (refine JGB ?_; intro _ _ _ _)));rename_i hSk;clear hSj;refine Cond_b (fun h=>?_) (fun h=>?_)
   ·obtain ⟨h3,h4⟩:=cond_and h
    have h3:=of_decide_eq_true h3;have h4:=of_decide_eq_true h4;clear h;haveI:InI ((j:Int) + 1):=⟨by omega⟩
    refine CV_anyS hSk (hb.mono hSk.zle) hl hstj ?_;intro zr1 wr1 pr1 br1 hzr1 hSr1 hstr1;(repeat (refine V_run ?_));refine iV_al ?_;intro bt wr2 hbt hSr2;refine iU_st ?_;intro wr3 hSr3;refine CV_strS hSr3 (hb.mono hSr3.zle) hl hstr1 ?_;intro zr4 wr4 pr4 br4 hzr4 hSr4 hstr4;(repeat (first | refine V_run ?_ | (refine iU_st ?_; intro _ _)));rename_i hSr5;refine CV_anyS hSr5 (hb.mono hSr5.zle) hl hstr4 ?_;intro zr6 wr6 pr6 br6 hzr6 hSr6 hstr6;(repeat (first | refine V_run ?_ | refine iV_ldN ?_ | (refine iU_st ?_; intro _ _)));rename_i hSr9;refine V_push hSr9 hoj (by simp only [room]; omega) (by simp only [room]; omega) (by omega) ?_;intro B12 v12 w12 ho12 hS12;obtain ⟨a12,c12,rfl,_⟩:=ho12.form;have hS14:=hS12.keep [.at bs,.at b3,.at b2,.bl B2,.bl B12];rw [List.append_nil] at hS14;(repeat (refine V_run ?_));exact backj h3 (rst_ok hstj h4) _ _ ⟨B12,_,_,_,_,by (repeat (first | assumption | refine Le.trans ?_ (by assumption:Le _ _))),hstr6,by rw [List.length_append]; exact ho12,(hlsj.mono (by (repeat (first | assumption | refine Le.trans ?_ (by assumption:Le _ _))))).push ⟨rfl,strS_size hl⟩,hS14⟩
   ·have hd:seqS (partS b) ni.toNat si = (lj,sj):=donej (by
     by_cases hh:(j:Int) < ni
     ·exact .inl (rst_er hstj (by have:=cond_nand h (decide_eq_true hh); simpa using this))
     ·exact .inr (by omega))
    have hei2:=hei.trans hd;clear backj donej hd hei h;obtain ⟨zf,hzf,hSf,gf⟩:=Res.freezeL (E:=El.part) (e:=95) (hSk.bring Bj) hoj (hlsj.mono (by (repeat (assumption)))) (by simp only [big]; omega);clear hSk;rw [List.append_nil] at hSf;obtain ⟨ay,cy,rfl,_⟩:=gf.form2;(repeat (first | refine V_run ?_ | refine iV_ld1 ?_));refine V_push hSf ho2 (by simp only [room]; omega) (by simp only [room]; omega) (by omega) ?_;intro B12 v12 w12 ho12 hS12;obtain ⟨a12,c12,rfl,_⟩:=ho12.form;(repeat (first | refine V_run ?_ | (refine iU_st ?_; intro _ _)));rename_i hS13;have hS14:=hS13.keep [.at bs,.at b3,.at b2,.bl B12];rw [List.append_nil] at hS14;refine back2 h1 (rst_ok hst2 h2) _ ?_;rw [hei2];exact ⟨_,B12,_,_,_,_,by (repeat (first | assumption | refine Le.trans ?_ (by assumption:Le _ _))),hstj,by rw [List.length_append]; exact ho12,(hls2.mono (by (repeat (first | assumption | refine Le.trans ?_ (by assumption:Le _ _))))).push ⟨_,rfl,gf⟩,hS14⟩
  have hd:seqS (manyS b 100 (partS b)) n2.toNat sa2 = (l2,st2):=done2 (by
   by_cases hh:(k2:Int) < n2
   ·exact .inl (rst_er hst2 (by have:=cond_nand h (decide_eq_true hh); simpa using this))
   ·exact .inr (by omega))
  have e2:=hek2.trans hd;clear back2 done2 hd hek2 h;obtain ⟨zb2,hzb2,hSb2,g2⟩:=Res.freezeL (E:=(El.sl El.part)) (e:=93) (hSc2.bring B2) ho2 (hls2.mono (by (repeat (assumption)))) (by simp only [big]; omega);clear hSc2 ho2 hls2;replace g1:=g1.mono (show Le _ zb2 by (repeat (first | assumption | refine Le.trans ?_ (by assumption:Le _ _))))
  -- stage 3
  refine CV_numS hSb2 (hb.mono hSb2.zle) hl hst2 (by decide) (by decide) ?_;intro za3 wa3 pa3 ba3 hza3 hSa3 hsta3;have hn3:=numS_mem (b:=b) (lo:=0) (hi:=3000) (st:=st2) (by decide) (by decide);have hek3:dec3 b st2 = seqS (manyS b 10000 (itemS b)) (numS b 0 3000 st2).1.toNat (numS b 0 3000 st2).2:=rfl;generalize (numS b 0 3000 st2).1 = n3 at hek3 hn3 ⊢;generalize (numS b 0 3000 st2).2 = sa3 at hek3 hsta3;clear hSb2;replace g1:=g1.mono hza3;replace g2:=g2.mono hza3;refine LoopRd1 (f:=manyS b 10000 (itemS b)) (n:=n3) (st0:=sa3) (fun l st w'=>∃ v B us z' p bad,Le za3 z'/\RSt b st p bad/\OwnSl 96 1 B v l.length us/\Lsl (El.sl El.item) z' us l/\Res w z BB w' z' (srcB bs (some ⟨bb,off,none⟩) b.length cap p bad :: (b3,.cells [v1,v2,v,nilS,nilS,nilS].toArray 28 (0,0)) :: (b2,.cells [nilS,nilS,nilS,nilS,nilS,nilS].toArray 28 (0,0)) :: B)) (by omega) ⟨nilS,[],[],za3,pa3,ba3,Le.refl _,hsta3,OwnSl.nil,Lsl.nil,hSa3⟩ ?_;rintro I3 M3 k3 l3 st3 w3 m3 ⟨v3,B3,us3,z3,p3,bad3,hz3,hst3,ho3,hls3,hS3⟩ hk3 hlen3 back3 done3
  clear hSa3;(repeat (first | refine V_run ?_ | (refine JGB ?_; intro _ _ _ _)));rename_i hSc3;clear hS3;refine Cond_b (fun h=>?_) (fun h=>?_)
  ·obtain ⟨h1,h2⟩:=cond_and h
   have h1:=of_decide_eq_true h1;have h2:=of_decide_eq_true h2;clear h;haveI:InI ((k3:Int) + 1):=⟨by omega⟩
   refine CV_numS hSc3 (hb.mono hSc3.zle) hl hst3 (by decide) (by decide) ?_;intro zi wi pi bi hzi hSi hsti;have hni:=numS_mem (b:=b) (lo:=0) (hi:=10000) (st:=st3) (by decide) (by decide);have hei:manyS b 10000 (itemS b) st3 = seqS (itemS b) (numS b 0 10000 st3).1.toNat (numS b 0 10000 st3).2:=rfl;generalize (numS b 0 10000 st3).1 = ni at hei hni ⊢;generalize (numS b 0 10000 st3).2 = si at hei hsti;clear hSc3;refine LoopRd2 (f:=itemS b) (n:=ni) (st0:=si) (fun l st y w'=>∃ B us z' p bad,Le zi z'/\RSt b st p bad/\OwnSl 98 2 B y l.length us/\Lsl El.item z' us l/\Res w z BB w' z' (srcB bs (some ⟨bb,off,none⟩) b.length cap p bad :: (b3,.cells [v1,v2,v3,nilS,nilS,nilS].toArray 28 (0,0)) :: (b2,.cells [nilS,nilS,nilS,nilS,nilS,nilS].toArray 28 (0,0)) :: (B3 ++ B))) (by omega) ⟨[],[],zi,pi,bi,Le.refl _,hsti,OwnSl.nil,Lsl.nil,by rw [List.append_nil]; exact hSi⟩ ?_;rintro J N j lj sj y wj mj ⟨Bj,usj,zj,pj,badj,hzj,hstj,hoj,hlsj,hSj⟩ hj hlenj backj donej
   clear hSi;(repeat (first | refine V_run ?_ | (refine JGB ?_; intro _ _ _ _)));rename_i hSk;clear hSj;refine Cond_b (fun h=>?_) (fun h=>?_)
   ·obtain ⟨h3,h4⟩:=cond_and h
    have h3:=of_decide_eq_true h3;have h4:=of_decide_eq_true h4;clear h;haveI:InI ((j:Int) + 1):=⟨by omega⟩
    refine CV_numS hSk (hb.mono hSk.zle) hl hstj (by decide) (by decide) ?_;intro zr1 wr1 pr1 br1 hzr1 hSr1 hstr1;(repeat (refine V_run ?_));refine iV_al ?_;intro bt wr2 hbt hSr2;refine iU_st ?_;intro wr3 hSr3;refine CV_strS hSr3 (hb.mono hSr3.zle) hl hstr1 ?_;intro zr4 wr4 pr4 br4 hzr4 hSr4 hstr4;(repeat (first | refine V_run ?_ | refine iV_ldN ?_ | (refine iU_st ?_; intro _ _)));rename_i hSr9;refine V_push hSr9 hoj (by simp only [room]; omega) (by simp only [room]; omega) (by omega) ?_;intro B12 v12 w12 ho12 hS12;obtain ⟨a12,c12,rfl,_⟩:=ho12.form;have hS14:=hS12.keep [.at bs,.at b3,.at b2,.bl B3,.bl B12];rw [List.append_nil] at hS14;(repeat (refine V_run ?_));exact backj h3 (rst_ok hstj h4) _ _ ⟨B12,_,_,_,_,by (repeat (first | assumption | refine Le.trans ?_ (by assumption:Le _ _))),hstr4,by rw [List.length_append]; exact ho12,(hlsj.mono (by (repeat (first | assumption | refine Le.trans ?_ (by assumption:Le _ _))))).push ⟨rfl,strS_size hl⟩,hS14⟩
   ·have hd:seqS (itemS b) ni.toNat si = (lj,sj):=donej (by
     by_cases hh:(j:Int) < ni
     ·exact .inl (rst_er hstj (by have:=cond_nand h (decide_eq_true hh); simpa using this))
     ·exact .inr (by omega))
    have hei2:=hei.trans hd;clear backj donej hd hei h;obtain ⟨zf,hzf,hSf,gf⟩:=Res.freezeL (E:=El.item) (e:=98) (hSk.bring Bj) hoj (hlsj.mono (by (repeat (assumption)))) (by simp only [big]; omega);clear hSk;rw [List.append_nil] at hSf;obtain ⟨ay,cy,rfl,_⟩:=gf.form2;(repeat (first | refine V_run ?_ | refine iV_ld1 ?_));refine V_push hSf ho3 (by simp only [room]; omega) (by simp only [room]; omega) (by omega) ?_;intro B12 v12 w12 ho12 hS12;obtain ⟨a12,c12,rfl,_⟩:=ho12.form;(repeat (first | refine V_run ?_ | (refine iU_st ?_; intro _ _)));rename_i hS13;have hS14:=hS13.keep [.at bs,.at b3,.at b2,.bl B12];rw [List.append_nil] at hS14;refine back3 h1 (rst_ok hst3 h2) _ ?_;rw [hei2];exact ⟨_,B12,_,_,_,_,by (repeat (first | assumption | refine Le.trans ?_ (by assumption:Le _ _))),hstj,by rw [List.length_append]; exact ho12,(hls3.mono (by (repeat (first | assumption | refine Le.trans ?_ (by assumption:Le _ _))))).push ⟨_,rfl,gf⟩,hS14⟩
  have hd:seqS (manyS b 10000 (itemS b)) n3.toNat sa3 = (l3,st3):=done3 (by
   by_cases hh:(k3:Int) < n3
   ·exact .inl (rst_er hst3 (by have:=cond_nand h (decide_eq_true hh); simpa using this))
   ·exact .inr (by omega))
  have e3:=hek3.trans hd;clear back3 done3 hd hek3 h;obtain ⟨zb3,hzb3,hSb3,g3⟩:=Res.freezeL (E:=(El.sl El.item)) (e:=96) (hSc3.bring B3) ho3 (hls3.mono (by (repeat (assumption)))) (by simp only [big]; omega);clear hSc3 ho3 hls3;replace g1:=g1.mono (show Le _ zb3 by (repeat (first | assumption | refine Le.trans ?_ (by assumption:Le _ _))));replace g2:=g2.mono (show Le _ zb3 by (repeat (first | assumption | refine Le.trans ?_ (by assumption:Le _ _))))
  -- stage 4
  refine CV_numS hSb3 (hb.mono hSb3.zle) hl hst3 (by decide) (by decide) ?_;intro za4 wa4 pa4 ba4 hza4 hSa4 hsta4;have hn4:=numS_mem (b:=b) (lo:=0) (hi:=3000) (st:=st3) (by decide) (by decide);have hek4:dec4 b st3 = seqS (spotS b) (numS b 0 3000 st3).1.toNat (numS b 0 3000 st3).2:=rfl;generalize (numS b 0 3000 st3).1 = n4 at hek4 hn4 ⊢;generalize (numS b 0 3000 st3).2 = sa4 at hek4 hsta4;clear hSb3;replace g1:=g1.mono hza4;replace g2:=g2.mono hza4;replace g3:=g3.mono hza4;refine LoopRd1 (f:=spotS b) (n:=n4) (st0:=sa4) (fun l st w'=>∃ v B us z' p bad,Le za4 z'/\RSt b st p bad/\OwnSl 54 2 B v l.length us/\Lsl El.spot z' us l/\Res w z BB w' z' (srcB bs (some ⟨bb,off,none⟩) b.length cap p bad :: (b3,.cells [v1,v2,v3,v,nilS,nilS].toArray 28 (0,0)) :: (b2,.cells [nilS,nilS,nilS,nilS,nilS,nilS].toArray 28 (0,0)) :: B)) (by omega) ⟨nilS,[],[],za4,pa4,ba4,Le.refl _,hsta4,OwnSl.nil,Lsl.nil,hSa4⟩ ?_;rintro I4 M4 k4 l4 st4 w4 m4 ⟨v4,B4,us4,z4,p4,bad4,hz4,hst4,ho4,hls4,hS4⟩ hk4 hlen4 back4 done4
  clear hSa4;(repeat (first | refine V_run ?_ | (refine JGB ?_; intro _ _ _ _)));rename_i hSc4;clear hS4;refine Cond_b (fun h=>?_) (fun h=>?_)
  ·obtain ⟨h1,h2⟩:=cond_and h
   have h1:=of_decide_eq_true h1;have h2:=of_decide_eq_true h2;clear h;haveI:InI ((k4:Int) + 1):=⟨by omega⟩
   refine CV_anyS hSc4 (hb.mono hSc4.zle) hl hst4 ?_;intro zr1 wr1 pr1 br1 hzr1 hSr1 hstr1;(repeat (refine V_run ?_));refine iV_al ?_;intro bt wr2 hbt hSr2;refine iU_st ?_;intro wr3 hSr3;refine CV_strS hSr3 (hb.mono hSr3.zle) hl hstr1 ?_;intro zr4 wr4 pr4 br4 hzr4 hSr4 hstr4;(repeat (first | refine V_run ?_ | refine iV_ld1 ?_ | refine iV_ldN ?_ | (refine iU_st ?_; intro _ _)));rename_i hSr9;refine V_push hSr9 ho4 (by simp only [room]; omega) (by simp only [room]; omega) (by omega) ?_;intro B12 v12 w12 ho12 hS12;obtain ⟨a12,c12,rfl,_⟩:=ho12.form;(repeat (first | refine V_run ?_ | (refine iU_st ?_; intro _ _)));rename_i hS13;have hS14:=hS13.keep [.at bs,.at b3,.at b2,.bl B12];rw [List.append_nil] at hS14;exact back4 h1 (rst_ok hst4 h2) _ ⟨_,B12,_,_,_,_,by (repeat (first | assumption | refine Le.trans ?_ (by assumption:Le _ _))),hstr4,by rw [List.length_append]; exact ho12,(hls4.mono (by (repeat (first | assumption | refine Le.trans ?_ (by assumption:Le _ _))))).push ⟨rfl,strS_size hl⟩,hS14⟩
  have hd:seqS (spotS b) n4.toNat sa4 = (l4,st4):=done4 (by
   by_cases hh:(k4:Int) < n4
   ·exact .inl (rst_er hst4 (by have:=cond_nand h (decide_eq_true hh); simpa using this))
   ·exact .inr (by omega))
  have e4:=hek4.trans hd;clear back4 done4 hd hek4 h;obtain ⟨zb4,hzb4,hSb4,g4⟩:=Res.freezeL (E:=El.spot) (e:=54) (hSc4.bring B4) ho4 (hls4.mono (by (repeat (assumption)))) (by simp only [big]; omega);clear hSc4 ho4 hls4;replace g1:=g1.mono (show Le _ zb4 by (repeat (first | assumption | refine Le.trans ?_ (by assumption:Le _ _))));replace g2:=g2.mono (show Le _ zb4 by (repeat (first | assumption | refine Le.trans ?_ (by assumption:Le _ _))));replace g3:=g3.mono (show Le _ zb4 by (repeat (first | assumption | refine Le.trans ?_ (by assumption:Le _ _))))
  -- stage 5
  refine CV_numS hSb4 (hb.mono hSb4.zle) hl hst4 (by decide) (by decide) ?_;intro za5 wa5 pa5 ba5 hza5 hSa5 hsta5;have hn5:=numS_mem (b:=b) (lo:=0) (hi:=100) (st:=st4) (by decide) (by decide);have hek5:dec5 b st4 = seqS (strS b) (numS b 0 100 st4).1.toNat (numS b 0 100 st4).2:=rfl;generalize (numS b 0 100 st4).1 = n5 at hek5 hn5 ⊢;generalize (numS b 0 100 st4).2 = sa5 at hek5 hsta5;clear hSb4;replace g1:=g1.mono hza5;replace g2:=g2.mono hza5;replace g3:=g3.mono hza5;replace g4:=g4.mono hza5;refine LoopRd1 (f:=strS b) (n:=n5) (st0:=sa5) (fun l st w'=>∃ v B us z' p bad,Le za5 z'/\RSt b st p bad/\OwnSl 9 1 B v l.length us/\Lsl El.str z' us l/\Res w z BB w' z' (srcB bs (some ⟨bb,off,none⟩) b.length cap p bad :: (b3,.cells [v1,v2,v3,v4,v,nilS].toArray 28 (0,0)) :: (b2,.cells [nilS,nilS,nilS,nilS,nilS,nilS].toArray 28 (0,0)) :: B)) (by omega) ⟨nilS,[],[],za5,pa5,ba5,Le.refl _,hsta5,OwnSl.nil,Lsl.nil,hSa5⟩ ?_;rintro I5 M5 k5 l5 st5 w5 m5 ⟨v5,B5,us5,z5,p5,bad5,hz5,hst5,ho5,hls5,hS5⟩ hk5 hlen5 back5 done5
  clear hSa5;(repeat (first | refine V_run ?_ | (refine JGB ?_; intro _ _ _ _)));rename_i hSc5;clear hS5;refine Cond_b (fun h=>?_) (fun h=>?_)
  ·obtain ⟨h1,h2⟩:=cond_and h
   have h1:=of_decide_eq_true h1;have h2:=of_decide_eq_true h2;clear h;haveI:InI ((k5:Int) + 1):=⟨by omega⟩
   (repeat (first | (refine iDr ?_; intro _ _) | refine PV_run ?_ | refine iHV_1 ?_));rename_i hSd;refine CV_strS hSd (hb.mono hSd.zle) hl hst5 ?_;intro z8 w8 p8 bad8 hz8 hS8 hst8;(repeat (refine iRI_1 ?_));refine V_push2 (e:=9) (size:=1) (xs:=us5) (v:=v5) hS8 ho5 (by simp only [room]; omega) (by simp only [room]; omega) (by omega) ?_;intro s9 w9 b9 hS9 happ;(repeat (refine iRI_1 ?_));refine happ _ ?_;intro B12 v12 w12 ho12 hS12;obtain ⟨a12,c12,rfl,_⟩:=ho12.form;(repeat (first | refine V_run ?_ | refine PV_run ?_ | (refine iU_st ?_; intro _ _)));rename_i hS13;have hS14:=hS13.keep [.at bs,.at b3,.at b2,.bl B12];rw [List.append_nil] at hS14;exact back5 h1 (rst_ok hst5 h2) _ ⟨_,B12,_,_,_,_,by (repeat (first | assumption | refine Le.trans ?_ (by assumption:Le _ _))),hst8,by rw [List.length_append]; exact ho12,(hls5.mono (by (repeat (first | assumption | refine Le.trans ?_ (by assumption:Le _ _))))).push ⟨rfl,strS_size hl⟩,hS14⟩
  have hd:seqS (strS b) n5.toNat sa5 = (l5,st5):=done5 (by
   by_cases hh:(k5:Int) < n5
   ·exact .inl (rst_er hst5 (by have:=cond_nand h (decide_eq_true hh); simpa using this))
   ·exact .inr (by omega))
  have e5:=hek5.trans hd;clear back5 done5 hd hek5 h;obtain ⟨zb5,hzb5,hSb5,g5⟩:=Res.freezeL (E:=El.str) (e:=9) (hSc5.bring B5) ho5 (hls5.mono (by (repeat (assumption)))) (by simp only [big]; omega);clear hSc5 ho5 hls5;replace g1:=g1.mono (show Le _ zb5 by (repeat (first | assumption | refine Le.trans ?_ (by assumption:Le _ _))));replace g2:=g2.mono (show Le _ zb5 by (repeat (first | assumption | refine Le.trans ?_ (by assumption:Le _ _))));replace g3:=g3.mono (show Le _ zb5 by (repeat (first | assumption | refine Le.trans ?_ (by assumption:Le _ _))));replace g4:=g4.mono (show Le _ zb5 by (repeat (first | assumption | refine Le.trans ?_ (by assumption:Le _ _))))
  -- stage 6
  refine CV_numS hSb5 (hb.mono hSb5.zle) hl hst5 (by decide) (by decide) ?_;intro za6 wa6 pa6 ba6 hza6 hSa6 hsta6;have hn6:=numS_mem (b:=b) (lo:=0) (hi:=12000) (st:=st5) (by decide) (by decide);have hek6:dec6 b st5 = seqS (insS b) (numS b 0 12000 st5).1.toNat (numS b 0 12000 st5).2:=rfl;generalize (numS b 0 12000 st5).1 = n6 at hek6 hn6 ⊢;generalize (numS b 0 12000 st5).2 = sa6 at hek6 hsta6;clear hSb5;replace g1:=g1.mono hza6;replace g2:=g2.mono hza6;replace g3:=g3.mono hza6;replace g4:=g4.mono hza6;replace g5:=g5.mono hza6;refine LoopRd1 (f:=insS b) (n:=n6) (st0:=sa6) (fun l st w'=>∃ v B us z' p bad,Le za6 z'/\RSt b st p bad/\OwnSl 38 4 B v l.length us/\Lsl El.ins z' us l/\Res w z BB w' z' (srcB bs (some ⟨bb,off,none⟩) b.length cap p bad :: (b3,.cells [v1,v2,v3,v4,v5,v].toArray 28 (0,0)) :: (b2,.cells [nilS,nilS,nilS,nilS,nilS,nilS].toArray 28 (0,0)) :: B)) (by omega) ⟨nilS,[],[],za6,pa6,ba6,Le.refl _,hsta6,OwnSl.nil,Lsl.nil,hSa6⟩ ?_;rintro I6 M6 k6 l6 st6 w6 m6 ⟨v6,B6,us6,z6,p6,bad6,hz6,hst6,ho6,hls6,hS6⟩ hk6 hlen6 back6 done6
  clear hSa6;(repeat (first | refine V_run ?_ | (refine JGB ?_; intro _ _ _ _)));rename_i hSc6;clear hS6;refine Cond_b (fun h=>?_) (fun h=>?_)
  ·obtain ⟨h1,h2⟩:=cond_and h
   have h1:=of_decide_eq_true h1;have h2:=of_decide_eq_true h2;clear h;haveI:InI ((k6:Int) + 1):=⟨by omega⟩
   refine CV_anyS hSc6 (hb.mono hSc6.zle) hl hst6 ?_;intro zr1 wr1 pr1 br1 hzr1 hSr1 hstr1;(repeat (refine V_run ?_));refine iV_al ?_;intro bt wr2 hbt hSr2;refine iU_st ?_;intro wr3 hSr3;refine CV_anyS hSr3 (hb.mono hSr3.zle) hl hstr1 ?_;intro zr4 wr4 pr4 br4 hzr4 hSr4 hstr4;(repeat (first | refine V_run ?_ | (refine iU_st ?_; intro _ _)));rename_i hSr5;refine CV_anyS hSr5 (hb.mono hSr5.zle) hl hstr4 ?_;intro zr6 wr6 pr6 br6 hzr6 hSr6 hstr6;(repeat (first | refine V_run ?_ | (refine iU_st ?_; intro _ _)));rename_i hSr7;refine CV_anyS hSr7 (hb.mono hSr7.zle) hl hstr6 ?_;intro zr8 wr8 pr8 br8 hzr8 hSr8 hstr8;(repeat (first | refine V_run ?_ | refine iV_ld1 ?_ | refine iV_ldN ?_ | (refine iU_st ?_; intro _ _)));rename_i hSr9;refine V_push hSr9 ho6 (by simp only [room]; omega) (by simp only [room]; omega) (by omega) ?_;intro B12 v12 w12 ho12 hS12;obtain ⟨a12,c12,rfl,_⟩:=ho12.form;(repeat (first | refine V_run ?_ | (refine iU_st ?_; intro _ _)));rename_i hS13;have hS14:=hS13.keep [.at bs,.at b3,.at b2,.bl B12];rw [List.append_nil] at hS14;exact back6 h1 (rst_ok hst6 h2) _ ⟨_,B12,_,_,_,_,by (repeat (first | assumption | refine Le.trans ?_ (by assumption:Le _ _))),hstr8,by rw [List.length_append]; exact ho12,(hls6.mono (by (repeat (first | assumption | refine Le.trans ?_ (by assumption:Le _ _))))).push rfl,hS14⟩
  have hd:seqS (insS b) n6.toNat sa6 = (l6,st6):=done6 (by
   by_cases hh:(k6:Int) < n6
   ·exact .inl (rst_er hst6 (by have:=cond_nand h (decide_eq_true hh); simpa using this))
   ·exact .inr (by omega))
  have e6:=hek6.trans hd;clear back6 done6 hd hek6 h;obtain ⟨zb6,hzb6,hSb6,g6⟩:=Res.freezeL (E:=El.ins) (e:=38) (hSc6.bring B6) ho6 (hls6.mono (by (repeat (assumption)))) (by simp only [big]; omega);clear hSc6 ho6 hls6;replace g1:=g1.mono (show Le _ zb6 by (repeat (first | assumption | refine Le.trans ?_ (by assumption:Le _ _))));replace g2:=g2.mono (show Le _ zb6 by (repeat (first | assumption | refine Le.trans ?_ (by assumption:Le _ _))));replace g3:=g3.mono (show Le _ zb6 by (repeat (first | assumption | refine Le.trans ?_ (by assumption:Le _ _))));replace g4:=g4.mono (show Le _ zb6 by (repeat (first | assumption | refine Le.trans ?_ (by assumption:Le _ _))));replace g5:=g5.mono (show Le _ zb6 by (repeat (first | assumption | refine Le.trans ?_ (by assumption:Le _ _))));have hfin:(decS b st0).1 = ⟨l1,l2,l3,l4,l5,l6⟩/\(decS b st0).2 = endS b st6:=by
   unfold decS;simp only [e1,e2,e3,e4,e5,e6];exact ⟨trivial,trivial⟩
  have hcode:∀ z',Le zb6 z'->CodeR z' (.agg [v1,v2,v3,v4,v5,v6].toArray) (dS b).1:=fun z' hz'=>by
   rw [hds,hfin.1];exact ⟨v1,v2,v3,v4,v5,v6,rfl,g1.mono hz',g2.mono hz',g3.mono hz',g4.mono hz',g5.mono hz',g6.mono hz'⟩
  intro Kf hKf;have fin:∀ p bad w' z',Le zb6 z'->RSt b (endS b st6) p bad->Res w z BB w' z' [srcB bs (some ⟨bb,off,none⟩) b.length cap p bad,(b3,.cells [v1,v2,v3,v4,v5,v6].toArray 28 (0,0)),(b2,.cells [nilS,nilS,nilS,nilS,nilS,nilS].toArray 28 (0,0))]->Kf [] w':=by
   intro p bad w' z' hz' hst' hS';refine hKf _ fun _=>?_
   obtain ⟨_,_,rfl,_⟩:=g1.form2;obtain ⟨_,_,rfl,_⟩:=g2.form2;obtain ⟨_,_,rfl,_⟩:=g3.form2;obtain ⟨_,_,rfl,_⟩:=g4.form2;obtain ⟨_,_,rfl,_⟩:=g5.form2;obtain ⟨_,_,rfl,_⟩:=g6.form2;clear hSb6;(repeat (first | refine iV_ldN ?_ | (refine iU_st ?_; intro _ _) | refine iHV_N ?_));rename_i hS9;exact hR _ _ _ p bad (hS9.keep [.at bs]) (hcode _ (by (repeat (assumption)))) (by rw [hds,hfin.2]; exact hst')
  intro K1 hK1;(repeat (first | (refine iDr ?_; intro _ _) | refine PV_run ?_ | refine iHV_1 ?_));rename_i hSg;clear hSb6;refine Cond_d (fun h1=>?_) (fun h1=>?_)
  ·obtain ⟨q,rfl⟩:=rst_ok hst6 h1
   obtain ⟨rfl,rfl,hq⟩:=hst6;(repeat (first | refine PV_run ?_ | refine iHV_1 ?_));refine hK1 _ _ fun _=>?_
   refine Cond_d (fun h2=>?_) (fun h2=>?_)
   ·(repeat (first | refine V_run ?_ | refine iV_ld1 ?_))
    refine CV_fn (B:=[srcB bs (some ⟨bb,off,none⟩) b.length cap q (-1)]) (F:=[(b3,.cells [v1,v2,v3,v4,v5,v6].toArray 28 (0,0)),(b2,.cells [nilS,nilS,nilS,nilS,nilS,nilS].toArray 28 (0,0))]) (hSg.bringB bs) (refFail_of (e:=(b.length:Int))) (by simp) ?_;rintro zh Bh wh vh hzh hSh ⟨rfl,rfl⟩
    rw [if_pos (by decide)] at hSh;exact fin q b.length _ _ (by (repeat (assumption))) (by unfold endS; dsimp only; rw [if_pos (by omega)]; rfl) hSh
   ·exact fin q (-1) _ _ (by (repeat (exact Le.refl _))) (by unfold endS; dsimp only; rw [if_neg (by omega)]; exact ⟨rfl,rfl,hq⟩) hSg
  ·obtain ⟨e,rfl⟩:=rst_er hst6 h1
   refine hK1 _ _ fun _=>?_
   refine Cond_not rfl ?_;exact fin p6 bad6 _ _ (by (repeat (exact Le.refl _))) hst6 hSg
 clear hKa;have hpos:0 < b.length:=by rw [hbx]; simp
 haveI:InR 0 (b.length:Nat):=⟨by decide,by omega⟩
 haveI:Fz z bb (off + Int.toNat 0 * 1) [.int .u8 x.toNat]:=⟨hatx⟩
 (repeat (first | refine V_run ?_ | refine iV_ld1 ?_ | refine fV_ld1 ?_));refine Cond_n (fun h=>?_) (fun h=>?_)
 ·refine CV_fn (B:=[srcB bs (some ⟨bb,off,none⟩) b.length cap 0 (-1)]) (F:=[(b3,.cells [nilS,nilS,nilS,nilS,nilS,nilS].toArray 28 (0,0)),(b2,.cells [nilS,nilS,nilS,nilS,nilS,nilS].toArray 28 (0,0))]) (hS2.bringB bs) (refFail_of (e:=(0:Int))) (by simp) ?_
  rintro z4 B4 w4 v4 hz4 hS4 ⟨rfl,rfl⟩
  rw [if_pos (by decide)] at hS4;refine main 0 _ _ ?_ hS4;unfold dec0;rw [if_neg (by rintro rfl; simp at h)]
  rfl
 ·refine main (-1) _ _ ?_ (hS2.keep [.at bs,.at b3,.at b2])
  have hx:x = 81:=by
   apply UInt8.toNat_inj.1
   have:(x.toNat:Int) = 81:=by simpa using h
   have h81:(81:UInt8).toNat = 81:=rfl;omega
  unfold dec0;rw [if_pos hx];exact ⟨rfl,rfl,hpos⟩)
end
section
open Go Q Go.RowKit
def decO (b:List UInt8):CodeM × Int × Int:=
 if 400000 < b.length then (noCode,0,3) else match decM b with
  | .error e=>(noCode,((e:Nat):Int),2)
  | .ok (c,_)=>if (checkM c).1 = 0 then (c,0,0) else (noCode,0,(checkM c).1)
theorem dS_ag (b:List UInt8):Ag (dS b) (decM b):=by
 cases b with
 | nil=>rfl
 | cons x l=>exact decS_ag x l
theorem decO_long {b:List UInt8} (h:400000 < b.length):decO b = (noCode,0,3):=by unfold decO; rw [if_pos h]
theorem decO_err {b:List UInt8} {e:Nat} (h:¬ 400000 < b.length) (hd:(dS b).2 = .error e):decO b = (noCode,((e:Nat):Int),2):=by
 have:=dS_ag b;unfold decO;rw [if_neg h]
 cases hm:decM b with
 | error e'=>rw [hm] at this; simp only [Ag] at this; rw [hd] at this; cases this; rfl
 | ok x=>rw [hm] at this; simp only [Ag] at this; rw [this] at hd; cases hd
theorem decO_ok {b:List UInt8} {q:Nat} (h:¬ 400000 < b.length) (hd:(dS b).2 = .ok q):decO b = if (checkM (dS b).1).1 = 0 then ((dS b).1,0,0) else (noCode,0,(checkM (dS b).1).1):=by
 have:=dS_ag b;unfold decO;rw [if_neg h]
 cases hm:decM b with
 | error e'=>rw [hm] at this; simp only [Ag] at this; rw [hd] at this; cases this
 | ok x=>obtain ⟨c,p⟩:=x; rw [hm] at this; simp only [Ag] at this; rw [this]
theorem codeR_no {z:Z}:CodeR z (.agg [nilS,nilS,nilS,nilS,nilS,nilS].toArray) noCode:=⟨_,_,_,_,_,_,rfl,SlR.nil,SlR.nil,SlR.nil,SlR.nil,SlR.nil,SlR.nil⟩
theorem refDec_of {z:Z} {w:World} {v:Value} {b:List UInt8} (hb:SlR El.byte z v b) (hl:b.length <= 1000000):Fn1 38 #[v] z w fun z' r=>∃ v1 v2 v3 v4 v5 v6,CodeR z' (.agg [v1,v2,v3,v4,v5,v6].toArray) (decO b).1/\r = .agg [v1,v2,v3,v4,v5,v6,.int .i64 (decO b).2.1,.int .i64 (decO b).2.2].toArray:=Fn1.intro fun hS=>en38 (by
 unfold vc38;generalize hRR:(fun (v:Value) (w':World)=>∃ z' L',Res w z [] w' z' L'/\∃ v1 v2 v3 v4 v5 v6,CodeR z' (.agg [v1,v2,v3,v4,v5,v6].toArray) (decO b).1/\v = .agg [v1,v2,v3,v4,v5,v6,.int .i64 (decO b).2.1,.int .i64 (decO b).2.2].toArray) = RR;have hR:∀ z' w' L' v1 v2 v3 v4 v5 v6 c p e,Res w z [] w' z' L'->decO b = (c,p,e)->CodeR z' (.agg [v1,v2,v3,v4,v5,v6].toArray) c->RR (.agg [v1,v2,v3,v4,v5,v6,.int .i64 p,.int .i64 e].toArray) w':=fun z' w' L' v1 v2 v3 v4 v5 v6 c p e k he hc=>by rw [<- hRR,he]; exact ⟨_,_,k,_,_,_,_,_,_,hc,rfl⟩
 clear hRR;obtain ⟨_,a,cap,rfl,hcap,hel⟩:=hb.form;refine iV_al ?_;intro b2 w1 hb2 hS1;clear hS;(repeat (refine V_run ?_));refine Cond_d (fun h=>?_) (fun h=>?_)
 ·(repeat (first | refine V_run ?_ | (refine iU_st ?_; intro _ _) | refine iHV_N ?_))
  exact hR _ _ _ _ _ _ _ _ _ _ _ _ (by assumption) (decO_long (by omega)) codeR_no
 (repeat (refine V_run ?_));refine iV_bx ?_;intro bs w2 hbs hS2;clear hS1;refine CV_fn (B:=[srcB bs a b.length cap 0 (-1)]) (F:=[(b2,.cells [nilS,nilS,nilS,nilS,nilS,nilS,.int .i64 0,.int .i64 0].toArray 78 (0,0))]) (hS2.bringB bs) (refDecode_of (hb.mono hS2.zle) hl) (by simp) ?_;rintro z3 B3 w3 v3 hz3 hS3 ⟨p,bad,hc,hst,rfl⟩
 clear hS2;obtain ⟨a1,a2,a3,a4,a5,a6,k1,k2,k3,k4,k5,k6,rfl,h1,h2,h3,h4,h5,h6⟩:=hc.form;replace hS3:Res w z [] w3 z3 [srcB bs a b.length cap p bad,(b2,.cells [nilS,nilS,nilS,nilS,nilS,nilS,.int .i64 0,.int .i64 0].toArray 78 (0,0))]:=hS3
 skip
 refine iV_al ?_;intro b4 w4 hb4 hS4;refine iU_st ?_;intro w5 hS5;clear hS3 hS4;(repeat (first | refine V_run ?_ | refine iV_ld1 ?_));refine Cond_d (fun hbad=>?_) (fun hbad=>?_)
 ·obtain ⟨e,he⟩:∃ e:Nat,(dS b).2 = .error e:=rst_er hst (by omega)
  rw [he] at hst
  cases hst
  (repeat (first | refine V_run ?_ | refine iV_ld1 ?_ | (refine iU_st ?_; intro _ _) | refine iHV_N ?_));exact hR _ _ _ _ _ _ _ _ _ _ _ _ (by assumption) (decO_err (by omega) he) codeR_no
 obtain ⟨q,hq⟩:∃ q:Nat,(dS b).2 = .ok q:=rst_ok hst (by omega);have hdo:=decO_ok (by omega) hq;generalize (dS b).1 = c at *;(repeat (refine iV_ldN ?_));refine CV_1 (refCheck_of (hc.mono (by (repeat (exact Le.refl _))))) ?_;rintro z6 w6 v6 hz6 hS6 rfl
 clear hS5;refine iV_al ?_;intro b7 w7 hb7 hS7;refine iU_st ?_;intro w8 hS8;clear hS6 hS7;(repeat (first | refine V_run ?_ | refine iV_ld1 ?_));refine Cond_n (fun hck=>?_) (fun hck=>?_)
 ·have hck:¬ (checkM c).1 = 0:=by simpa using hck
  rw [if_neg hck] at hdo;(repeat (first | refine V_run ?_ | refine iV_ld1 ?_ | (refine iU_st ?_; intro _ _) | refine iHV_N ?_));exact hR _ _ _ _ _ _ _ _ _ _ _ _ (by assumption) hdo codeR_no
 ·have hck:(checkM c).1 = 0:=by simpa using hck
  rw [if_pos hck] at hdo;(repeat (first | refine V_run ?_ | refine iV_ldN ?_ | (refine iU_st ?_; intro _ _) | refine iHV_N ?_));exact hR _ _ _ _ _ _ _ _ _ _ _ _ (by assumption) hdo (hc.mono (by (repeat (assumption)))))
end
section
open Go Q Go.RowKit
section
variable {w:World} {z:Z} {br cap:Nat} {ab:Option Addr} {b:List UInt8} {p:Nat}
theorem RdR.mono {α:Type} {rel rel':Z->Value->α->Prop} {g:Except Nat (α × Nat)} (h:∀ z v x,rel z v x->rel' z v x):∀ z' B' r,RdR b br ab cap rel g z' B' r->RdR b br ab cap rel' g z' B' r:=
 fun z' B' r ⟨x,q,h1,h2,h3,h4⟩=>⟨x,q,h1,h2,h _ _ _ h3,h4⟩
theorem relS_E:∀ z v x,relS z v x->relE El.str z v x:=fun z v x ⟨h1,h2⟩=>⟨[.string x],by rw [h1]; rfl,fun u hu=>by simp at hu; subst hu; rfl,rfl,h2⟩
theorem relL_E {α:Type} {E:El α}:∀ z v (x:List α),relL E z v x->relE (El.sl E) z v x:=fun z v x h=>by
 obtain ⟨a,c,rfl,_⟩:=SlR.form2 h;exact ⟨[.slice a x.length c],rfl,fun u hu=>by simp at hu; subst hu; rfl,_,rfl,h⟩
theorem strs_of {top:Int} (h0:0 <= top) (h1:top <= 12000) (hb:SlR El.byte z (.slice ab b.length cap) b) (hl:b.length <= 1000000) (hp:p <= b.length) :
  FnP 109 #[.pointer (some ⟨br,0,none⟩),.int .i64 top,.func (.func 110) #[.pointer (some ⟨br,0,none⟩)] #[]] z [rdB br ab b.length cap p] w (RdR b br ab cap (relL El.str) (manyR b top (strR b) p)) (RdG b br ab cap (manyR b top (strR b) p)):=
 elm_of (E:=El.str) (T:=22) (e:=9) (size:=1) rfl (by decide) (by decide) (fun h=>en109 h) h0 h1 (fun z' w' q hz hq=>FnP.va (FnP.mono (str_of' (hb.mono hz) hl hq) (RdR.mono relS_E) (fun _ _ _ h=>h)) (by simp)) hb hl hp
theorem spots_of {top:Int} (h0:0 <= top) (h1:top <= 12000) (hb:SlR El.byte z (.slice ab b.length cap) b) (hl:b.length <= 1000000) (hp:p <= b.length) :
  FnP 119 #[.pointer (some ⟨br,0,none⟩),.int .i64 top,.func (.func 120) #[.pointer (some ⟨br,0,none⟩)] #[]] z [rdB br ab b.length cap p] w (RdR b br ab cap (relL El.spot) (manyR b top (spotR b) p)) (RdG b br ab cap (manyR b top (spotR b) p)):=
 elm_of (E:=El.spot) (T:=25) (e:=54) (size:=2) rfl (by decide) (by decide) (fun h=>en119 h) h0 h1 (fun z' w' q hz hq=>FnP.va (spot_of (hb.mono hz) hl hq) (by simp)) hb hl hp
theorem inss_of {top:Int} (h0:0 <= top) (h1:top <= 12000) (hb:SlR El.byte z (.slice ab b.length cap) b) (hl:b.length <= 1000000) (hp:p <= b.length) :
  FnP 121 #[.pointer (some ⟨br,0,none⟩),.int .i64 top,.func (.func 122) #[.pointer (some ⟨br,0,none⟩)] #[]] z [rdB br ab b.length cap p] w (RdR b br ab cap (relL El.ins) (manyR b top (insR b) p)) (RdG b br ab cap (manyR b top (insR b) p)):=
 elm_of (E:=El.ins) (T:=26) (e:=38) (size:=4) rfl (by decide) (by decide) (fun h=>en121 h) h0 h1 (fun z' w' q hz hq=>FnP.va (ins_of (hb.mono hz) hl hq) (by simp)) hb hl hp
theorem parts_of' {top:Int} (h0:0 <= top) (h1:top <= 12000) (hb:SlR El.byte z (.slice ab b.length cap) b) (hl:b.length <= 1000000) (hp:p <= b.length) :
  FnP 113 #[.pointer (some ⟨br,0,none⟩),.int .i64 top,.func (.func 114) #[.pointer (some ⟨br,0,none⟩)] #[]] z [rdB br ab b.length cap p] w (RdR b br ab cap (relL El.part) (manyR b top (partR b) p)) (RdG b br ab cap (manyR b top (partR b) p)):=
 elm_of (E:=El.part) (T:=93) (e:=95) (size:=3) rfl (by decide) (by decide) (fun h=>en113 h) h0 h1 (fun z' w' q hz hq=>FnP.va (part_of (hb.mono hz) hl hq) (by simp)) hb hl hp
theorem items_of {top:Int} (h0:0 <= top) (h1:top <= 12000) (hb:SlR El.byte z (.slice ab b.length cap) b) (hl:b.length <= 1000000) (hp:p <= b.length) :
  FnP 117 #[.pointer (some ⟨br,0,none⟩),.int .i64 top,.func (.func 118) #[.pointer (some ⟨br,0,none⟩)] #[]] z [rdB br ab b.length cap p] w (RdR b br ab cap (relL El.item) (manyR b top (itemR b) p)) (RdG b br ab cap (manyR b top (itemR b) p)):=
 elm_of (E:=El.item) (T:=96) (e:=98) (size:=2) rfl (by decide) (by decide) (fun h=>en117 h) h0 h1 (fun z' w' q hz hq=>FnP.va (item_of (hb.mono hz) hl hq) (by simp)) hb hl hp
theorem dec2_of {bv:Nat} (hat:At z bv 0 [.pointer (some ⟨br,0,none⟩)]) (hb:SlR El.byte z (.slice ab b.length cap) b) (hl:b.length <= 1000000) (hp:p <= b.length) :
  FnP 112 #[.pointer (some ⟨bv,0,none⟩)] z [rdB br ab b.length cap p] w (RdR b br ab cap (relE (El.sl El.part)) (manyR b 100 (partR b) p)) (RdG b br ab cap (manyR b 100 (partR b) p)):=FnP.intro fun hS=>en112 (by
 unfold vc112;haveI:Fz z bv 0 [.pointer (some ⟨br,0,none⟩)]:=⟨hat⟩
 (repeat (refine fV_ld1 ?_));refine CVP_rd (first:=#[]) hS (parts_of' (br:=br) (top:=100) (by decide) (by decide) hb hl hp) (by simp) ?_ ?_
 ·rintro z1 w1 v x q hz1 h1 hq hv hS1
  exact ⟨_,_,hS1,x,q,h1,hq,relL_E _ _ _ hv,rfl⟩
 ·rintro z1 w1 e q hz1 h1 hS1
  exact ⟨_,_,hS1,e,q,h1,rfl,rfl⟩)
theorem dec3_of {bv:Nat} (hat:At z bv 0 [.pointer (some ⟨br,0,none⟩)]) (hb:SlR El.byte z (.slice ab b.length cap) b) (hl:b.length <= 1000000) (hp:p <= b.length) :
  FnP 116 #[.pointer (some ⟨bv,0,none⟩)] z [rdB br ab b.length cap p] w (RdR b br ab cap (relE (El.sl El.item)) (manyR b 10000 (itemR b) p)) (RdG b br ab cap (manyR b 10000 (itemR b) p)):=FnP.intro fun hS=>en116 (by
 unfold vc116;haveI:Fz z bv 0 [.pointer (some ⟨br,0,none⟩)]:=⟨hat⟩
 (repeat (refine fV_ld1 ?_));refine CVP_rd (first:=#[]) hS (items_of (br:=br) (top:=10000) (by decide) (by decide) hb hl hp) (by simp) ?_ ?_
 ·rintro z1 w1 v x q hz1 h1 hq hv hS1
  exact ⟨_,_,hS1,x,q,h1,hq,relL_E _ _ _ hv,rfl⟩
 ·rintro z1 w1 e q hz1 h1 hS1
  exact ⟨_,_,hS1,e,q,h1,rfl,rfl⟩)
theorem tmpls_of {bv:Nat} (hat:At z bv 0 [.pointer (some ⟨br,0,none⟩)]) (hb:SlR El.byte z (.slice ab b.length cap) b) (hl:b.length <= 1000000) (hp:p <= b.length) :
  FnP 111 #[.pointer (some ⟨br,0,none⟩),.int .i64 3000,.func (.func 112) #[] #[.pointer (some ⟨bv,0,none⟩)]] z [rdB br ab b.length cap p] w (RdR b br ab cap (relL (El.sl El.part)) (manyR b 3000 (manyR b 100 (partR b)) p)) (RdG b br ab cap (manyR b 3000 (manyR b 100 (partR b)) p)):=
 elm_of (E:=El.sl El.part) (T:=23) (e:=93) (size:=1) rfl (by decide) (by decide) (fun h=>en111 h) (by decide) (by decide) (fun z' w' q hz hq=>FnP.va (dec2_of (hat.mono hz) (hb.mono hz) hl hq) (by simp)) hb hl hp
theorem lists_of {bv:Nat} (hat:At z bv 0 [.pointer (some ⟨br,0,none⟩)]) (hb:SlR El.byte z (.slice ab b.length cap) b) (hl:b.length <= 1000000) (hp:p <= b.length) :
  FnP 115 #[.pointer (some ⟨br,0,none⟩),.int .i64 3000,.func (.func 116) #[] #[.pointer (some ⟨bv,0,none⟩)]] z [rdB br ab b.length cap p] w (RdR b br ab cap (relL (El.sl El.item)) (manyR b 3000 (manyR b 10000 (itemR b)) p)) (RdG b br ab cap (manyR b 3000 (manyR b 10000 (itemR b)) p)):=
 elm_of (E:=El.sl El.item) (T:=24) (e:=96) (size:=1) rfl (by decide) (by decide) (fun h=>en115 h) (by decide) (by decide) (fun z' w' q hz hq=>FnP.va (dec3_of (hat.mono hz) (hb.mono hz) hl hq) (by simp)) hb hl hp
end
end
section
open Go Q Go.RowKit
theorem torn_close {w0 w:World} {z0 z:Z} {B0 F:Bl} {K:World->Prop} {b2 b3 b4 e:Nat} {x1 x2 x3 x4 x5 x6:Value} {i j:Int}
  (hS:Res w0 z0 B0 w z ((b2,.cells [x1,x2,x3,x4,x5,x6].toArray 28 (0,0)) :: (b3,.cells [.int .i64 i].toArray 3 (0,0)) :: (b4,.cells [.int .i64 j].toArray 31 (0,0)) :: F))
  (hk:∀ w',Res w0 z0 B0 w' z ((b2,.cells [nilS,nilS,nilS,nilS,nilS,nilS].toArray 28 (0,0)) :: (b3,.cells [.int .i64 (e:Nat)].toArray 3 (0,0)) :: (b4,.cells [.int .i64 2].toArray 31 (0,0)) :: F)->K w') :
  ClW (.func (.func 106) #[] #[.pointer (some ⟨b2,0,none⟩),.pointer (some ⟨b3,0,none⟩),.pointer (some ⟨b4,0,none⟩)]) (.panicking (tornP e)) w K:=en106 (by
 unfold vc106;refine ⟨_,_,neq_if (TyIf.of (by kernel_rfl)) _,?_⟩;refine Cond_t ?_;refine ⟨_,_,ta_own (by kernel_rfl) _,?_⟩;(repeat (refine V_run ?_));refine iV_al ?_;intro b5 w5 hb5 hS5;refine iU_st ?_;intro w6 hS6;intro K0 hK0;refine V_run ?_;refine Cond_f ?_;refine hK0 _ fun _=>?_
 (repeat (first | (refine iDr ?_; intro _ _) | refine PV_run ?_ | (refine iU_st ?_; intro _ _) | refine iHV_1 ?_ | refine iRI_1 ?_));rename_i hS7;exact hk _ (hS7.keep [.at b2,.at b3,.at b4,.bl F] |> fun h=>by simpa using h))
theorem calm_close {w:World} {K:World->Prop} {t0 t1 t2:Value} (hk:K w):ClW (.func (.func 106) #[] #[t0,t1,t2]) .returning w K:=er106 (by
 unfold vc106;refine ⟨_,_,neq_no (TyIf.of (by kernel_rfl)) _,?_⟩;exact Cond_f hk)
theorem decO_e {b:List UInt8} {e:Nat} (h:¬ 400000 < b.length) (hd:decM b = .error e):decO b = (noCode,((e:Nat):Int),2):=by unfold decO; rw [if_neg h,hd]
theorem decO_o {b:List UInt8} {c:CodeM} {q:Nat} (h:¬ 400000 < b.length) (hd:decM b = .ok (c,q)):decO b = if (checkM c).1 = 0 then (c,0,0) else (noCode,0,(checkM c).1):=by unfold decO; rw [if_neg h,hd]
theorem decode_of {z:Z} {w:World} {v:Value} {b:List UInt8} (hb:SlR El.byte z v b) (hl:b.length <= 1000000):Fn1 37 #[v] z w fun z' r=>∃ v1 v2 v3 v4 v5 v6,CodeR z' (.agg [v1,v2,v3,v4,v5,v6].toArray) (decO b).1/\r = .tuple #[.agg [v1,v2,v3,v4,v5,v6].toArray,.int .i64 (decO b).2.1,.int .i64 (decO b).2.2]:=Fn1.intro fun hS=>en37 (by
 unfold vc37;generalize hRR:(fun (v:Value) (w':World)=>∃ z' L',Res w z [] w' z' L'/\∃ v1 v2 v3 v4 v5 v6,CodeR z' (.agg [v1,v2,v3,v4,v5,v6].toArray) (decO b).1/\v = .tuple #[.agg [v1,v2,v3,v4,v5,v6].toArray,.int .i64 (decO b).2.1,.int .i64 (decO b).2.2]) = RR;have hR:∀ z' w' L' v1 v2 v3 v4 v5 v6 c p e,Res w z [] w' z' L'->decO b = (c,p,e)->CodeR z' (.agg [v1,v2,v3,v4,v5,v6].toArray) c->RR (.tuple #[.agg [v1,v2,v3,v4,v5,v6].toArray,.int .i64 p,.int .i64 e]) w':=fun z' w' L' v1 v2 v3 v4 v5 v6 c p e k he hc=>by rw [<- hRR,he]; exact ⟨_,_,k,_,_,_,_,_,_,hc,rfl⟩
 clear hRR;obtain ⟨_,a,cap,rfl,hcap,hel⟩:=hb.form;refine iV_al ?_;intro b2 w1 hb2 hS1;refine iV_al ?_;intro b3 w2 hb3 hS2;refine iV_al ?_;intro b4 w3 hb4 hS3;clear hS hS1 hS2;generalize hPP:(fun (c:List PanicEntry) (w:World)=>ClW (.func (.func 106) #[] #[.pointer (some ⟨b2,0,none⟩),.pointer (some ⟨b3,0,none⟩),.pointer (some ⟨b4,0,none⟩)]) (.panicking c) w fun w=>CW 28 (.pointer (some ⟨b2,0,none⟩)) w fun t1002=>CW 3 (.pointer (some ⟨b3,0,none⟩)) w fun t1003=>CW 31 (.pointer (some ⟨b4,0,none⟩)) w fun t1004=>RR (.tuple #[t1002,t1003,t1004]) w) = PP;(repeat (refine V_run ?_));refine Cond_d (fun h=>?_) (fun h=>?_)
 ·(repeat (first | refine V_run ?_ | (refine iU_st ?_; intro _ _) | refine iHV_1 ?_ | refine iHV_N ?_))
  exact hR _ _ _ _ _ _ _ _ _ _ _ _ (by assumption) (decO_long (by omega)) codeR_no
 have hlong:¬ 400000 < b.length:=by omega
 (repeat (refine V_run ?_));refine iV_bx ?_;intro br w4 hbr hS4;refine iV_al ?_;intro bv w5 hbv hS5;refine iU_st ?_;intro w6 hS6;clear hS3 hS4 hS5;obtain ⟨zc,hzc,hS7,hatv⟩:=hS6.frz bv;clear hS6;generalize hLL:[(br,Obj.cells [Value.slice a b.length cap,Value.int .i64 0].toArray 177 (0,0)),(b4,Obj.cells [Value.int .i64 0].toArray 31 (0,0)),(b3,Obj.cells [Value.int .i64 0].toArray 3 (0,0)),(b2,Obj.cells [nilS,nilS,nilS,nilS,nilS,nilS].toArray 28 (0,0))] = LL;have hS7':Res w z [] w6 zc LL:=by rw [<- hLL]; exact hS7
 have hS8:Res w6 zc LL w6 zc [(br,Obj.cells [Value.slice a b.length cap,Value.int .i64 0].toArray 177 (0,0)),(b4,Obj.cells [Value.int .i64 0].toArray 31 (0,0)),(b3,Obj.cells [Value.int .i64 0].toArray 3 (0,0)),(b2,Obj.cells [nilS,nilS,nilS,nilS,nilS,nilS].toArray 28 (0,0))]:=by rw [hLL]; exact hS7'.self
 have hR2:∀ z' w' L' v1 v2 v3 v4 v5 v6 c p e,Res w6 zc LL w' z' L'->decO b = (c,p,e)->CodeR z' (.agg [v1,v2,v3,v4,v5,v6].toArray) c->RR (.tuple #[.agg [v1,v2,v3,v4,v5,v6].toArray,.int .i64 p,.int .i64 e]) w':=fun z' w' L' v1 v2 v3 v4 v5 v6 c p e k he hc=>hR _ _ _ _ _ _ _ _ _ _ _ _ (hS7'.comp k) he hc
 clear hS7 hLL;have hP2:∀ (e:Nat) z' w' x1 x2 x3 x4 x5 x6 F,Res w6 zc LL w' z' ((b2,.cells [x1,x2,x3,x4,x5,x6].toArray 28 (0,0)) :: (b3,.cells [.int .i64 0].toArray 3 (0,0)) :: (b4,.cells [.int .i64 0].toArray 31 (0,0)) :: F)->decM b = .error e->PP (tornP e) w':=by
  intro e z' w' x1 x2 x3 x4 x5 x6 F hSp hde;rw [<- hPP];refine torn_close hSp ?_;intro w'' hSq;clear hSp hS8;(repeat (first | refine iHV_1 ?_ | refine iHV_N ?_));exact hR2 _ _ _ _ _ _ _ _ _ _ _ _ (by assumption) (decO_e hlong hde) codeR_no
 clear hPP hR;haveI:Fz zc bv 0 [.pointer (some ⟨br,0,none⟩)]:=⟨hatv⟩
 replace hb:=hb.mono hzc;clear h;(repeat (refine fV_ld1 ?_));refine CVP_more (p:=0) hS8 (Nat.zero_le _) hl ?_ ?_
 rotate_left
 ·intro hx z' w' hz' hS'
  have hb0:b = []:=List.eq_nil_of_length_eq_zero (by omega);refine hP2 _ _ _ _ _ _ _ _ _ _ (hS'.keep [.at b2,.at b3,.at b4]) ?_;subst hb0
  rfl
 intro hx z9 w9 hz9 hS9;clear hS8;obtain ⟨x,tl,hbx⟩:∃ x tl,b = x :: tl:=by
  cases b with
  | nil=>simp at hx
  | cons x tl=>exact ⟨x,tl,rfl⟩
 have hx0:b[0]? = some x:=by rw [hbx]; rfl
 have hpos:0 < b.length:=by omega
 have hd0:decM b = if x ≠ 81 then .error 0 else
  andR (manyR b 3000 (strR b) 1) fun c1 p1=>andR (manyR b 3000 (manyR b 100 (partR b)) p1) fun c2 p2=>andR (manyR b 3000 (manyR b 10000 (itemR b)) p2) fun c3 p3=>
  andR (manyR b 3000 (spotR b) p3) fun c4 p4=>andR (manyR b 100 (strR b) p4) fun c5 p5=>andR (manyR b 12000 (insR b) p5) fun c6 p6=>
  if p6 < b.length then .error b.length else .ok (⟨c1,c2,c3,c4,c5,c6⟩,p6):=by rw [hbx]; rfl
 obtain ⟨_,_,_,hve,_,hel⟩:=hb.form
 cases hve
 obtain ⟨bb,off,_,rfl,rfl,hatx⟩:=hel 0 x hx0;haveI:InR 0 (b.length:Nat):=⟨by decide,by omega⟩
 haveI:Fz zc bb (off + Int.toNat 0 * 1) [.int .u8 x.toNat]:=⟨hatx⟩
 (repeat (first | (refine iDr ?_; intro _ _) | refine PV_run ?_ | refine fHV_ld1 ?_));rename_i hS9b;clear hS9;refine CVP_fail (e:=0) hS9b ?_ ?_
 rotate_left
 ·intro hc z' w' hz' hS'
  have hc:=of_decide_eq_false hc;refine hP2 _ _ _ _ _ _ _ _ _ _ (hS'.keep [.at b2,.at b3,.at b4]) ?_;rw [hd0,if_pos];rintro rfl
  exact hc rfl
 intro hc z9c w9c hz9c hS9c;have hc:=of_decide_eq_true hc;have hx81:x = 81:=by
  apply UInt8.toNat_inj.1
  have h81:(81:UInt8).toNat = 81:=rfl;omega
 rw [if_neg (by simp [hx81])] at hd0;clear hS9b;(repeat (first | refine V_run ?_ | (refine iU_st ?_; intro _ _) | refine fRI_1 ?_ | refine fV_ld1 ?_));rename_i hS10;clear hS9c;have h1len:1 <= b.length:=hpos;refine CVP_rd (first:=#[]) hS10 (strs_of (br:=br) (top:=3000) (by decide) (by decide) (hb.mono (by (repeat (exact Res.zle (by assumption))))) hl h1len) (by simp) ?_ ?_
 rotate_left
 ·rintro z' w' e q hz' h1 hS'
  exact hP2 e _ _ _ _ _ _ _ _ _ (hS'.keep [.at b2,.at b3,.at b4]) (by rw [hd0]; simp only [andR,h1])
 rintro zs1 ws1 y1 l1 q1 hzs1 h1 hq1 hv1 hSs1
 rw [h1] at hd0;simp only [andR] at hd0;clear hS10 h1;obtain ⟨as1,cs1,rfl,_⟩:=SlR.form2 hv1;(repeat (first | refine V_run ?_ | (refine iU_st ?_; intro _ _) | refine fV_ld1 ?_));rename_i hSt1;clear hSs1;refine CVP_rd (first:=#[]) hSt1 (tmpls_of (br:=br) (hatv.mono (by (repeat (exact Res.zle (by assumption))))) (hb.mono (by (repeat (exact Res.zle (by assumption))))) hl hq1) (by simp) ?_ ?_
 rotate_left
 ·rintro z' w' e q hz' h1 hS'
  exact hP2 e _ _ _ _ _ _ _ _ _ (hS'.keep [.at b2,.at b3,.at b4]) (by rw [hd0]; simp only [andR,h1])
 rintro zs2 ws2 y2 l2 q2 hzs2 h1 hq2 hv2 hSs2
 rw [h1] at hd0;simp only [andR] at hd0;clear hSt1 h1;obtain ⟨as2,cs2,rfl,_⟩:=SlR.form2 hv2;(repeat (first | refine V_run ?_ | (refine iU_st ?_; intro _ _) | refine fV_ld1 ?_));rename_i hSt2;clear hSs2;refine CVP_rd (first:=#[]) hSt2 (lists_of (br:=br) (hatv.mono (by (repeat (exact Res.zle (by assumption))))) (hb.mono (by (repeat (exact Res.zle (by assumption))))) hl hq2) (by simp) ?_ ?_
 rotate_left
 ·rintro z' w' e q hz' h1 hS'
  exact hP2 e _ _ _ _ _ _ _ _ _ (hS'.keep [.at b2,.at b3,.at b4]) (by rw [hd0]; simp only [andR,h1])
 rintro zs3 ws3 y3 l3 q3 hzs3 h1 hq3 hv3 hSs3
 rw [h1] at hd0;simp only [andR] at hd0;clear hSt2 h1;obtain ⟨as3,cs3,rfl,_⟩:=SlR.form2 hv3;(repeat (first | refine V_run ?_ | (refine iU_st ?_; intro _ _) | refine fV_ld1 ?_));rename_i hSt3;clear hSs3;refine CVP_rd (first:=#[]) hSt3 (spots_of (br:=br) (top:=3000) (by decide) (by decide) (hb.mono (by (repeat (exact Res.zle (by assumption))))) hl hq3) (by simp) ?_ ?_
 rotate_left
 ·rintro z' w' e q hz' h1 hS'
  exact hP2 e _ _ _ _ _ _ _ _ _ (hS'.keep [.at b2,.at b3,.at b4]) (by rw [hd0]; simp only [andR,h1])
 rintro zs4 ws4 y4 l4 q4 hzs4 h1 hq4 hv4 hSs4
 rw [h1] at hd0;simp only [andR] at hd0;clear hSt3 h1;obtain ⟨as4,cs4,rfl,_⟩:=SlR.form2 hv4;(repeat (first | refine V_run ?_ | (refine iU_st ?_; intro _ _) | refine fV_ld1 ?_));rename_i hSt4;clear hSs4;refine CVP_rd (first:=#[]) hSt4 (strs_of (br:=br) (top:=100) (by decide) (by decide) (hb.mono (by (repeat (exact Res.zle (by assumption))))) hl hq4) (by simp) ?_ ?_
 rotate_left
 ·rintro z' w' e q hz' h1 hS'
  exact hP2 e _ _ _ _ _ _ _ _ _ (hS'.keep [.at b2,.at b3,.at b4]) (by rw [hd0]; simp only [andR,h1])
 rintro zs5 ws5 y5 l5 q5 hzs5 h1 hq5 hv5 hSs5
 rw [h1] at hd0;simp only [andR] at hd0;clear hSt4 h1;obtain ⟨as5,cs5,rfl,_⟩:=SlR.form2 hv5;(repeat (first | refine V_run ?_ | (refine iU_st ?_; intro _ _) | refine fV_ld1 ?_));rename_i hSt5;clear hSs5;refine CVP_rd (first:=#[]) hSt5 (inss_of (br:=br) (top:=12000) (by decide) (by decide) (hb.mono (by (repeat (exact Res.zle (by assumption))))) hl hq5) (by simp) ?_ ?_
 rotate_left
 ·rintro z' w' e q hz' h1 hS'
  exact hP2 e _ _ _ _ _ _ _ _ _ (hS'.keep [.at b2,.at b3,.at b4]) (by rw [hd0]; simp only [andR,h1])
 rintro zs6 ws6 y6 l6 q6 hzs6 h1 hq6 hv6 hSs6
 rw [h1] at hd0;simp only [andR] at hd0;clear hSt5 h1;obtain ⟨as6,cs6,rfl,_⟩:=SlR.form2 hv6;(repeat (first | (refine iDr ?_; intro _ _) | refine V_run ?_ | refine PV_run ?_ | (refine iU_st ?_; intro _ _) | refine iHV_1 ?_ | refine fHV_ld1 ?_));rename_i hSt6;clear hSs6;refine CVP_fail hSt6 ?_ ?_
 rotate_left
 ·intro hc z' w' hz' hS'
  have hc:=of_decide_eq_false hc;rw [if_pos (by omega)] at hd0;exact hP2 _ _ _ _ _ _ _ _ _ _ (hS'.keep [.at b2,.at b3,.at b4]) hd0
 intro hc z12 w12 hz12 hS12;have hc:=of_decide_eq_true hc;rw [if_neg (by omega)] at hd0;clear hSt6;have hcode:CodeR z12 (.agg [.slice as1 l1.length cs1,.slice as2 l2.length cs2,.slice as3 l3.length cs3,.slice as4 l4.length cs4,.slice as5 l5.length cs5,.slice as6 l6.length cs6].toArray) ⟨l1,l2,l3,l4,l5,l6⟩:=
  ⟨_,_,_,_,_,_,rfl,SlR.mono hv1 (by (repeat (first | assumption | refine Le.trans ?_ (by assumption:Le _ _)))),SlR.mono hv2 (by (repeat (first | assumption | refine Le.trans ?_ (by assumption:Le _ _)))),SlR.mono hv3 (by (repeat (first | assumption | refine Le.trans ?_ (by assumption:Le _ _)))),SlR.mono hv4 (by (repeat (first | assumption | refine Le.trans ?_ (by assumption:Le _ _)))),SlR.mono hv5 (by (repeat (first | assumption | refine Le.trans ?_ (by assumption:Le _ _)))),SlR.mono hv6 (by (repeat (assumption)))⟩
 have hdo:=decO_o hlong hd0;generalize (⟨l1,l2,l3,l4,l5,l6⟩:CodeM) = c at hcode hdo;(repeat (first | refine iV_ldN ?_ | refine iRI_1 ?_ | refine fRI_1 ?_));refine CVP_may (CV_1 (check_of hcode) ?_);rintro z13 w13 v13 hz13 hS13 rfl
 clear hS12;(repeat (refine V_run ?_));refine Cond_n (fun hck=>?_) (fun hck=>?_)
 ·have hck:¬ (checkM c).1 = 0:=by simpa using hck
  rw [if_neg hck] at hdo;(repeat (first | refine V_run ?_ | (refine iU_st ?_; intro _ _)));refine calm_close ?_;(repeat (first | refine iHV_1 ?_ | refine iHV_N ?_));exact hR2 _ _ _ _ _ _ _ _ _ _ _ _ (by assumption) hdo codeR_no
 ·have hck:(checkM c).1 = 0:=by simpa using hck
  rw [if_pos hck] at hdo;(repeat (first | refine iV_ldN ?_ | (refine iU_st ?_; intro _ _)));refine calm_close ?_;(repeat (first | refine iHV_1 ?_ | refine iHV_N ?_));exact hR2 _ _ _ _ _ _ _ _ _ _ _ _ (by assumption) hdo (hcode.mono (by (repeat (assumption)))))
end
section
open Go Q Go.RowKit
end
section
open Go Q Go.RowKit
end
section
open Go Q Go.RowKit
theorem sameParts_of {z:Z} {w:World} {v u:Value} {l m:List PartM} (hv:SlR El.part z v l) (hu:SlR El.part z u m):Fn1 70 #[v,u] z w fun _ r=>∃ b,r = .bool b/\(b = true ↔ l = m):=Fn1.intro fun hS=>en70 (by
 unfold vc70;obtain ⟨hb1,a1,c1,rfl,_,hel1⟩:=hv.form;obtain ⟨hb2,a2,c2,rfl,_,hel2⟩:=hu.form;refine V_run ?_;refine V_run ?_;refine V_run ?_;refine Cond_nd (fun h=>?_) (fun h=>?_)
 ·exact ⟨_,_,hS,false,rfl,by simp; intro e; rw [e] at h; omega⟩
 have hlm:l.length = m.length:=by omega
 refine LoopR1 (fun (k:Nat) x=>x = .int .i64 k/\k <= l.length/\∀ i,i < k->l[i]? = m[i]?) (fun k=>l.length - k) 0 ⟨rfl,Nat.zero_le _,fun i hi=>by omega⟩ ?_;rintro I M k x w1 z1 m1 ⟨rfl,hk,hall⟩ hz1 hS1 back
 clear hS;refine V_run ?_;refine V_run ?_;refine Cond_d (fun h=>?_) (fun h=>?_)
 ·have hk1:k < l.length:=by omega
  have hk2:k < m.length:=by omega
  obtain ⟨b,off,cs,rfl,hr,hat⟩:=hel1 _ _ (List.getElem?_eq_getElem hk1);obtain ⟨b',off',cs',rfl,hr',hat'⟩:=hel2 _ _ (List.getElem?_eq_getElem hk2);have hr:=hr.1;have hr':=hr'.1
  cases hr; cases hr'
  haveI:InR (k:Int) (l.length:Nat):=⟨by omega,by omega⟩
  haveI:InR (k:Int) (m.length:Nat):=⟨by omega,by omega⟩
  haveI:InI ((k:Int) + 1):=⟨by simp only [big] at hb1; omega⟩
  haveI:Fz z b (off + (k:Int).toNat * 3) l[k].cells:=⟨hat⟩
  haveI:Fz z b' (off' + (k:Int).toNat * 3) m[k].cells:=⟨hat'⟩
  have g1:l[k]? = some l[k]:=List.getElem?_eq_getElem hk1;have g2:m[k]? = some m[k]:=List.getElem?_eq_getElem hk2;generalize l[k] = p at *;generalize m[k] = q at *;(repeat (first | (refine iDr ?_; intro _ _) | refine PV_run ?_ | refine fHV_ldN ?_));have hpq:(decide (p.kind = q.kind) && (decide (p.text = q.text) && (decide (p.n = q.n) && true))) = true ↔ p = q:=by cases p; cases q; simp
  refine Cond_n (fun h3=>?_) (fun h3=>?_)
  ·refine ⟨_,_,‹_›,false,rfl,?_⟩
   have:¬ p = q:=fun e=>by rw [hpq.2 e] at h3; cases h3
   constructor
   ·intro e; cases e
   ·intro e; subst e; rw [g1] at g2; cases g2; exact absurd rfl this
  ·refine V_run ?_
   refine back (k + 1) _ _ _ ⟨by simp,by omega,fun i hi=>?_⟩ (Le.refl _) (by assumption) (by omega)
   rcases Nat.lt_or_eq_of_le (Nat.le_of_lt_succ hi) with hi | hi
   ·exact hall i hi
   ·subst hi; rw [g1,g2,hpq.1 h3]
 ·refine ⟨_,_,hS1,true,rfl,?_⟩
  simp only [true_iff]
  apply List.ext_getElem?
  intro i
  by_cases hi:i < k
  ·exact hall i hi
  ·rw [List.getElem?_eq_none (by omega),List.getElem?_eq_none (by omega)])
theorem sameItems_of {z:Z} {w:World} {v u:Value} {l m:List ItemM} (hv:SlR El.item z v l) (hu:SlR El.item z u m):Fn1 71 #[v,u] z w fun _ r=>∃ b,r = .bool b/\(b = true ↔ l = m):=Fn1.intro fun hS=>en71 (by
 unfold vc71;obtain ⟨hb1,a1,c1,rfl,_,hel1⟩:=hv.form;obtain ⟨hb2,a2,c2,rfl,_,hel2⟩:=hu.form;refine V_run ?_;refine V_run ?_;refine V_run ?_;refine Cond_nd (fun h=>?_) (fun h=>?_)
 ·exact ⟨_,_,hS,false,rfl,by simp; intro e; rw [e] at h; omega⟩
 have hlm:l.length = m.length:=by omega
 refine LoopR1 (fun (k:Nat) x=>x = .int .i64 k/\k <= l.length/\∀ i,i < k->l[i]? = m[i]?) (fun k=>l.length - k) 0 ⟨rfl,Nat.zero_le _,fun i hi=>by omega⟩ ?_;rintro I M k x w1 z1 m1 ⟨rfl,hk,hall⟩ hz1 hS1 back
 clear hS;refine V_run ?_;refine V_run ?_;refine Cond_d (fun h=>?_) (fun h=>?_)
 ·have hk1:k < l.length:=by omega
  have hk2:k < m.length:=by omega
  obtain ⟨b,off,cs,rfl,hr,hat⟩:=hel1 _ _ (List.getElem?_eq_getElem hk1);obtain ⟨b',off',cs',rfl,hr',hat'⟩:=hel2 _ _ (List.getElem?_eq_getElem hk2);have hr:=hr.1;have hr':=hr'.1
  cases hr; cases hr'
  haveI:InR (k:Int) (l.length:Nat):=⟨by omega,by omega⟩
  haveI:InR (k:Int) (m.length:Nat):=⟨by omega,by omega⟩
  haveI:InI ((k:Int) + 1):=⟨by simp only [big] at hb1; omega⟩
  haveI:Fz z b (off + (k:Int).toNat * 2) l[k].cells:=⟨hat⟩
  haveI:Fz z b' (off' + (k:Int).toNat * 2) m[k].cells:=⟨hat'⟩
  have g1:l[k]? = some l[k]:=List.getElem?_eq_getElem hk1;have g2:m[k]? = some m[k]:=List.getElem?_eq_getElem hk2;generalize l[k] = p at *;generalize m[k] = q at *;(repeat (first | (refine iDr ?_; intro _ _) | refine PV_run ?_ | refine fHV_ldN ?_));have hpq:(decide (p.name = q.name) && (p.via == q.via && true)) = true ↔ p = q:=by cases p; cases q; simp
  refine Cond_n (fun h3=>?_) (fun h3=>?_)
  ·refine ⟨_,_,‹_›,false,rfl,?_⟩
   have:¬ p = q:=fun e=>by rw [hpq.2 e] at h3; cases h3
   constructor
   ·intro e; cases e
   ·intro e; subst e; rw [g1] at g2; cases g2; exact absurd rfl this
  ·refine V_run ?_
   refine back (k + 1) _ _ _ ⟨by simp,by omega,fun i hi=>?_⟩ (Le.refl _) (by assumption) (by omega)
   rcases Nat.lt_or_eq_of_le (Nat.le_of_lt_succ hi) with hi | hi
   ·exact hall i hi
   ·subst hi; rw [g1,g2,hpq.1 h3]
 ·refine ⟨_,_,hS1,true,rfl,?_⟩
  simp only [true_iff]
  apply List.ext_getElem?
  intro i
  by_cases hi:i < k
  ·exact hall i hi
  ·rw [List.getElem?_eq_none (by omega),List.getElem?_eq_none (by omega)])
theorem sameStrings_of {z:Z} {w:World} {v u:Value} {l m:List ByteArray} (hv:SlR El.str z v l) (hu:SlR El.str z u m):Fn1 72 #[v,u] z w fun _ r=>∃ b,r = .bool b/\(b = true ↔ l = m):=Fn1.intro fun hS=>en72 (by
 unfold vc72;obtain ⟨hb1,a1,c1,rfl,_,hel1⟩:=hv.form;obtain ⟨hb2,a2,c2,rfl,_,hel2⟩:=hu.form;refine V_run ?_;refine V_run ?_;refine V_run ?_;refine Cond_nd (fun h=>?_) (fun h=>?_)
 ·exact ⟨_,_,hS,false,rfl,by simp; intro e; rw [e] at h; omega⟩
 have hlm:l.length = m.length:=by omega
 refine LoopR1 (fun (k:Nat) x=>x = .int .i64 k/\k <= l.length/\∀ i,i < k->l[i]? = m[i]?) (fun k=>l.length - k) 0 ⟨rfl,Nat.zero_le _,fun i hi=>by omega⟩ ?_;rintro I M k x w1 z1 m1 ⟨rfl,hk,hall⟩ hz1 hS1 back
 clear hS;refine V_run ?_;refine V_run ?_;refine Cond_d (fun h=>?_) (fun h=>?_)
 ·have hk1:k < l.length:=by omega
  have hk2:k < m.length:=by omega
  obtain ⟨b,off,cs,rfl,hr,hat⟩:=hel1 _ _ (List.getElem?_eq_getElem hk1);obtain ⟨b',off',cs',rfl,hr',hat'⟩:=hel2 _ _ (List.getElem?_eq_getElem hk2);have hr:=hr.1;have hr':=hr'.1
  cases hr; cases hr'
  haveI:InR (k:Int) (l.length:Nat):=⟨by omega,by omega⟩
  haveI:InR (k:Int) (m.length:Nat):=⟨by omega,by omega⟩
  haveI:InI ((k:Int) + 1):=⟨by simp only [big] at hb1; omega⟩
  haveI:Fz z b (off + (k:Int).toNat * 1) [.string l[k]]:=⟨hat⟩
  haveI:Fz z b' (off' + (k:Int).toNat * 1) [.string m[k]]:=⟨hat'⟩
  have g1:l[k]? = some l[k]:=List.getElem?_eq_getElem hk1;have g2:m[k]? = some m[k]:=List.getElem?_eq_getElem hk2;generalize l[k] = p at *;generalize m[k] = q at *;(repeat (first | (refine iDr ?_; intro _ _) | refine PV_run ?_ | refine fHV_ld1 ?_));have hpq:(decide (p = q)) = true ↔ p = q:=by simp
  refine Cond_n (fun h3=>?_) (fun h3=>?_)
  ·refine ⟨_,_,‹_›,false,rfl,?_⟩
   have:¬ p = q:=fun e=>by rw [hpq.2 e] at h3; cases h3
   constructor
   ·intro e; cases e
   ·intro e; subst e; rw [g1] at g2; cases g2; exact absurd rfl this
  ·refine V_run ?_
   refine back (k + 1) _ _ _ ⟨by simp,by omega,fun i hi=>?_⟩ (Le.refl _) (by assumption) (by omega)
   rcases Nat.lt_or_eq_of_le (Nat.le_of_lt_succ hi) with hi | hi
   ·exact hall i hi
   ·subst hi; rw [g1,g2,hpq.1 h3]
 ·refine ⟨_,_,hS1,true,rfl,?_⟩
  simp only [true_iff]
  apply List.ext_getElem?
  intro i
  by_cases hi:i < k
  ·exact hall i hi
  ·rw [List.getElem?_eq_none (by omega),List.getElem?_eq_none (by omega)])
theorem ext_take {α:Type} {l m:List α} {k:Nat} (hk:k = l.length) (hlm:l.length = m.length) (h:∀ i,i < k->l[i]? = m[i]?):l = m:=by
 apply List.ext_getElem?
 intro i
 by_cases hi:i < k
 ·exact h i hi
 ·rw [List.getElem?_eq_none (by omega),List.getElem?_eq_none (by omega)]
theorem refSame_of {z:Z} {w:World} {v u:Value} {c d:CodeM} (hc:CodeR z v c) (hd:CodeR z u d):Fn1 21 #[v,u] z w fun _ r=>∃ b,r = .bool b/\(b = true ↔ c = d):=Fn1.intro fun hS=>en21 (by
 unfold vc21;obtain ⟨a1,a2,a3,a4,a5,a6,k1,k2,k3,k4,k5,k6,rfl,h1,h2,h3,h4,h5,h6⟩:=hc.form;obtain ⟨p1,p2,p3,p4,p5,p6,q1,q2,q3,q4,q5,q6,rfl,g1,g2,g3,g4,g5,g6⟩:=hd.form;refine iV_bx ?_;intro bc w1 hbc hS1;refine iV_bx ?_;intro bd w2 hbd hS2;clear hS1;obtain ⟨z3,hz3,hS3,hatc⟩:=hS2.frz bc;obtain ⟨zc,hzc',hS4,hatd⟩:=hS3.frz bd;have hatc:=hatc.mono hzc';have hzc:=hz3.trans hzc';generalize hRR:(fun (v:Value) (w':World)=>∃ z' L',Res w z [] w' z' L'/\∃ b,v = .bool b/\(b = true ↔ c = d)) = RR;have hR:∀ z' w' L' b,Res w2 zc [] w' z' L'->(b = true ↔ c = d)->RR (.bool b) w':=fun z' w' L' b k e=>by rw [<- hRR]; exact ⟨z',L',hS4.comp k,b,rfl,e⟩
 clear hRR;have hS5:=hS4.self;clear hS hS2 hS3 hS4;have hcd:c = d ↔ c.consts = d.consts/\c.tmpls = d.tmpls/\c.lists = d.lists/\c.labels = d.labels/\c.slots = d.slots/\c.ins = d.ins:=by cases c; cases d; simp
 haveI:Fz zc bc 0 [.slice a1 c.consts.length k1]:=⟨hatc.fld (i:=0) rfl rfl⟩
 haveI:Fz zc bd 0 [.slice p1 d.consts.length q1]:=⟨hatd.fld (i:=0) rfl rfl⟩
 haveI:Fz zc bc 1 [.slice a2 c.tmpls.length k2]:=⟨hatc.fld (i:=1) rfl rfl⟩
 haveI:Fz zc bd 1 [.slice p2 d.tmpls.length q2]:=⟨hatd.fld (i:=1) rfl rfl⟩
 haveI:Fz zc bc 2 [.slice a3 c.lists.length k3]:=⟨hatc.fld (i:=2) rfl rfl⟩
 haveI:Fz zc bd 2 [.slice p3 d.lists.length q3]:=⟨hatd.fld (i:=2) rfl rfl⟩
 haveI:Fz zc bc 3 [.slice a4 c.labels.length k4]:=⟨hatc.fld (i:=3) rfl rfl⟩
 haveI:Fz zc bd 3 [.slice p4 d.labels.length q4]:=⟨hatd.fld (i:=3) rfl rfl⟩
 haveI:Fz zc bc 4 [.slice a5 c.slots.length k5]:=⟨hatc.fld (i:=4) rfl rfl⟩
 haveI:Fz zc bd 4 [.slice p5 d.slots.length q5]:=⟨hatd.fld (i:=4) rfl rfl⟩
 haveI:Fz zc bc 5 [.slice a6 c.ins.length k6]:=⟨hatc.fld (i:=5) rfl rfl⟩
 haveI:Fz zc bd 5 [.slice p6 d.ins.length q6]:=⟨hatd.fld (i:=5) rfl rfl⟩
 have hno:∀ z' w' L',Res w2 zc [] w' z' L'->¬ c = d->RR (.bool false) w':=fun z' w' L' k e=>hR z' w' L' false k ⟨fun h=>(by cases h),fun h=>absurd h e⟩
 (repeat (first | refine V_run ?_ | (refine JGB ?_; intro _ _ _ _) | refine fV_ld1 ?_));simp only [Bool.cond_true_left,Bool.or_assoc];rename_i hS6;clear hS5;refine Cond_b (fun e=>?_) (fun e=>?_)
 ·refine hno _ _ _ hS6 fun h=>?_
  subst h;simp at e
 simp only [Bool.or_eq_false_iff,Bool.not_eq_false',decide_eq_true_eq] at e;have l1:c.tmpls.length = d.tmpls.length:=by omega
 have l2:c.lists.length = d.lists.length:=by omega
 have l3:c.labels.length = d.labels.length:=by omega
 have l4:c.ins.length = d.ins.length:=by omega
 clear e;refine LoopR1 (fun (k:Nat) x=>x = .int .i64 k/\k <= c.tmpls.length/\∀ i,i < k->c.tmpls[i]? = d.tmpls[i]?) (fun k=>c.tmpls.length - k) 0 ⟨rfl,Nat.zero_le _,fun i hi=>by omega⟩ ?_;rintro I M k x w7 z7 m ⟨rfl,hk,hall⟩ hz7 hS7 back
 clear hS6;obtain ⟨hbx,_,_,e1,_,hel1⟩:=h2.form
 cases e1
 obtain ⟨hby,_,_,e2,_,hel2⟩:=g2.form
 cases e2
 (repeat (first | refine V_run ?_ | refine fV_ld1 ?_));refine Cond_d (fun h=>?_) (fun h=>?_)
 ·have hk1:k < c.tmpls.length:=by omega
  have hk2:k < d.tmpls.length:=by omega
  haveI:InR (k:Int) (c.tmpls.length:Nat):=⟨by omega,by omega⟩
  haveI:InR (k:Int) (d.tmpls.length:Nat):=⟨by omega,by omega⟩
  haveI:InI ((k:Int) + 1):=⟨by simp only [big] at hbx; omega⟩
  have i1:c.tmpls[k]? = some c.tmpls[k]:=List.getElem?_eq_getElem hk1;have i2:d.tmpls[k]? = some d.tmpls[k]:=List.getElem?_eq_getElem hk2;generalize c.tmpls[k] = p at *;generalize d.tmpls[k] = q at *;obtain ⟨b,off,cs,rfl,hr,hat⟩:=hel1 _ _ i1;obtain ⟨b',off',cs',rfl,hr',hat'⟩:=hel2 _ _ i2;obtain ⟨v1,rfl,hv1⟩:=hr;obtain ⟨v2,rfl,hv2⟩:=hr';obtain ⟨_,x1,y1,rfl,_,_⟩:=hv1.form;obtain ⟨_,x2,y2,rfl,_,_⟩:=hv2.form;haveI:Fz zc b (off + (k:Int).toNat * 1) [.slice x1 p.length y1]:=⟨hat.mono hzc⟩
  haveI:Fz zc b' (off' + (k:Int).toNat * 1) [.slice x2 q.length y2]:=⟨hat'.mono hzc⟩
  (repeat (first | (refine iDr ?_; intro _ _) | refine PV_run ?_ | refine fHV_ld1 ?_));rename_i hSx;refine CV_1 (sameParts_of (hv1.mono (hzc.trans hSx.zle)) (hv2.mono (hzc.trans hSx.zle))) ?_;rintro zy wy vy hzy hSy ⟨b5,rfl,hb5⟩
  clear hSx;(repeat (first | refine PV_run ?_ | refine fRI_1 ?_));refine Cond_n (fun h3=>?_) (fun h3=>?_)
  ·refine hno _ _ _ hSy fun h=>?_
   subst h;rw [i1] at i2; cases i2;rw [hb5.2 rfl] at h3; cases h3
  ·(repeat (refine V_run ?_))
   refine back (k + 1) _ _ _ ⟨by simp,by omega,fun i hi=>?_⟩ (by (repeat (assumption))) (by assumption) (by omega)
   rcases Nat.lt_or_eq_of_le (Nat.le_of_lt_succ hi) with hi | hi
   ·exact hall i hi
   ·subst hi; rw [i1,i2,hb5.1 h3]
 have eq_tmpls:c.tmpls = d.tmpls:=ext_take (k:=k) (by omega) (by omega) hall;clear back hall h;refine LoopR1 (fun (k:Nat) x=>x = .int .i64 k/\k <= c.lists.length/\∀ i,i < k->c.lists[i]? = d.lists[i]?) (fun k=>c.lists.length - k) 0 ⟨rfl,Nat.zero_le _,fun i hi=>by omega⟩ ?_;rintro I M k x w8 z8 m ⟨rfl,hk,hall⟩ hz8 hS8 back
 clear hS7;obtain ⟨hbx,_,_,e1,_,hel1⟩:=h3.form
 cases e1
 obtain ⟨hby,_,_,e2,_,hel2⟩:=g3.form
 cases e2
 (repeat (first | refine V_run ?_ | refine fV_ld1 ?_));refine Cond_d (fun h=>?_) (fun h=>?_)
 ·have hk1:k < c.lists.length:=by omega
  have hk2:k < d.lists.length:=by omega
  haveI:InR (k:Int) (c.lists.length:Nat):=⟨by omega,by omega⟩
  haveI:InR (k:Int) (d.lists.length:Nat):=⟨by omega,by omega⟩
  haveI:InI ((k:Int) + 1):=⟨by simp only [big] at hbx; omega⟩
  have i1:c.lists[k]? = some c.lists[k]:=List.getElem?_eq_getElem hk1;have i2:d.lists[k]? = some d.lists[k]:=List.getElem?_eq_getElem hk2;generalize c.lists[k] = p at *;generalize d.lists[k] = q at *;obtain ⟨b,off,cs,rfl,hr,hat⟩:=hel1 _ _ i1;obtain ⟨b',off',cs',rfl,hr',hat'⟩:=hel2 _ _ i2;obtain ⟨v1,rfl,hv1⟩:=hr;obtain ⟨v2,rfl,hv2⟩:=hr';obtain ⟨_,x1,y1,rfl,_,_⟩:=hv1.form;obtain ⟨_,x2,y2,rfl,_,_⟩:=hv2.form;haveI:Fz zc b (off + (k:Int).toNat * 1) [.slice x1 p.length y1]:=⟨hat.mono hzc⟩
  haveI:Fz zc b' (off' + (k:Int).toNat * 1) [.slice x2 q.length y2]:=⟨hat'.mono hzc⟩
  (repeat (first | (refine iDr ?_; intro _ _) | refine PV_run ?_ | refine fHV_ld1 ?_));rename_i hSx;refine CV_1 (sameItems_of (hv1.mono (hzc.trans hSx.zle)) (hv2.mono (hzc.trans hSx.zle))) ?_;rintro zy wy vy hzy hSy ⟨b5,rfl,hb5⟩
  clear hSx;(repeat (first | refine PV_run ?_ | refine fRI_1 ?_));refine Cond_n (fun h3=>?_) (fun h3=>?_)
  ·refine hno _ _ _ hSy fun h=>?_
   subst h;rw [i1] at i2; cases i2;rw [hb5.2 rfl] at h3; cases h3
  ·(repeat (refine V_run ?_))
   refine back (k + 1) _ _ _ ⟨by simp,by omega,fun i hi=>?_⟩ (by (repeat (assumption))) (by assumption) (by omega)
   rcases Nat.lt_or_eq_of_le (Nat.le_of_lt_succ hi) with hi | hi
   ·exact hall i hi
   ·subst hi; rw [i1,i2,hb5.1 h3]
 have eq_lists:c.lists = d.lists:=ext_take (k:=k) (by omega) (by omega) hall;clear back hall h;refine LoopR1 (fun (k:Nat) x=>x = .int .i64 k/\k <= c.labels.length/\∀ i,i < k->c.labels[i]? = d.labels[i]?) (fun k=>c.labels.length - k) 0 ⟨rfl,Nat.zero_le _,fun i hi=>by omega⟩ ?_;rintro I M k x w9 z9 m ⟨rfl,hk,hall⟩ hz9 hS9 back
 clear hS8;obtain ⟨hbx,_,_,e1,_,hel1⟩:=h4.form
 cases e1
 obtain ⟨hby,_,_,e2,_,hel2⟩:=g4.form
 cases e2
 (repeat (first | refine V_run ?_ | refine fV_ld1 ?_));refine Cond_d (fun h=>?_) (fun h=>?_)
 ·have hk1:k < c.labels.length:=by omega
  have hk2:k < d.labels.length:=by omega
  haveI:InR (k:Int) (c.labels.length:Nat):=⟨by omega,by omega⟩
  haveI:InR (k:Int) (d.labels.length:Nat):=⟨by omega,by omega⟩
  haveI:InI ((k:Int) + 1):=⟨by simp only [big] at hbx; omega⟩
  have i1:c.labels[k]? = some c.labels[k]:=List.getElem?_eq_getElem hk1;have i2:d.labels[k]? = some d.labels[k]:=List.getElem?_eq_getElem hk2;generalize c.labels[k] = p at *;generalize d.labels[k] = q at *;obtain ⟨b,off,cs,rfl,hr,hat⟩:=hel1 _ _ i1;obtain ⟨b',off',cs',rfl,hr',hat'⟩:=hel2 _ _ i2;have hr:=hr.1;have hr':=hr'.1
  cases hr; cases hr'
  haveI:Fz zc b (off + (k:Int).toNat * 2) p.cells:=⟨hat.mono hzc⟩
  haveI:Fz zc b' (off' + (k:Int).toNat * 2) q.cells:=⟨hat'.mono hzc⟩
  (repeat (first | (refine iDr ?_; intro _ _) | refine PV_run ?_ | refine fHV_ldN ?_ | refine fHV_ld1 ?_));have hpq:(decide (p.name = q.name) && (decide (p.at_ = q.at_) && true)) = true ↔ p = q:=by cases p; cases q; simp
  refine Cond_n (fun h3=>?_) (fun h3=>?_)
  ·refine hno _ _ _ ‹Res w2 zc [] _ _ _› fun h=>?_
   subst h;rw [i1] at i2; cases i2;rw [hpq.2 rfl] at h3; cases h3
  ·(repeat (refine V_run ?_))
   refine back (k + 1) _ _ _ ⟨by simp,by omega,fun i hi=>?_⟩ (by (repeat (exact Le.refl _))) (by assumption) (by omega)
   rcases Nat.lt_or_eq_of_le (Nat.le_of_lt_succ hi) with hi | hi
   ·exact hall i hi
   ·subst hi; rw [i1,i2,hpq.1 h3]
 have eq_labels:c.labels = d.labels:=ext_take (k:=k) (by omega) (by omega) hall;clear back hall h;refine LoopR1 (fun (k:Nat) x=>x = .int .i64 k/\k <= c.ins.length/\∀ i,i < k->c.ins[i]? = d.ins[i]?) (fun k=>c.ins.length - k) 0 ⟨rfl,Nat.zero_le _,fun i hi=>by omega⟩ ?_;rintro I M k x w10 z10 m ⟨rfl,hk,hall⟩ hz10 hS10 back
 clear hS9;obtain ⟨hbx,_,_,e1,_,hel1⟩:=h6.form
 cases e1
 obtain ⟨hby,_,_,e2,_,hel2⟩:=g6.form
 cases e2
 (repeat (first | refine V_run ?_ | refine fV_ld1 ?_));refine Cond_d (fun h=>?_) (fun h=>?_)
 ·have hk1:k < c.ins.length:=by omega
  have hk2:k < d.ins.length:=by omega
  haveI:InR (k:Int) (c.ins.length:Nat):=⟨by omega,by omega⟩
  haveI:InR (k:Int) (d.ins.length:Nat):=⟨by omega,by omega⟩
  haveI:InI ((k:Int) + 1):=⟨by simp only [big] at hbx; omega⟩
  have i1:c.ins[k]? = some c.ins[k]:=List.getElem?_eq_getElem hk1;have i2:d.ins[k]? = some d.ins[k]:=List.getElem?_eq_getElem hk2;generalize c.ins[k] = p at *;generalize d.ins[k] = q at *;obtain ⟨b,off,cs,rfl,hr,hat⟩:=hel1 _ _ i1;obtain ⟨b',off',cs',rfl,hr',hat'⟩:=hel2 _ _ i2;have hr:=hr;have hr':=hr'
  cases hr; cases hr'
  haveI:Fz zc b (off + (k:Int).toNat * 4) p.cells:=⟨hat.mono hzc⟩
  haveI:Fz zc b' (off' + (k:Int).toNat * 4) q.cells:=⟨hat'.mono hzc⟩
  (repeat (first | (refine iDr ?_; intro _ _) | refine PV_run ?_ | refine fHV_ldN ?_ | refine fHV_ld1 ?_));have hpq:(decide (p.op = q.op) && (decide (p.a = q.a) && (decide (p.b = q.b) && (decide (p.c = q.c) && true)))) = true ↔ p = q:=by cases p; cases q; simp
  refine Cond_n (fun h3=>?_) (fun h3=>?_)
  ·refine hno _ _ _ ‹Res w2 zc [] _ _ _› fun h=>?_
   subst h;rw [i1] at i2; cases i2;rw [hpq.2 rfl] at h3; cases h3
  ·(repeat (refine V_run ?_))
   refine back (k + 1) _ _ _ ⟨by simp,by omega,fun i hi=>?_⟩ (by (repeat (exact Le.refl _))) (by assumption) (by omega)
   rcases Nat.lt_or_eq_of_le (Nat.le_of_lt_succ hi) with hi | hi
   ·exact hall i hi
   ·subst hi; rw [i1,i2,hpq.1 h3]
 have eq_ins:c.ins = d.ins:=ext_take (k:=k) (by omega) (by omega) hall;clear back hall h;(repeat (first | refine V_run ?_ | refine fV_ld1 ?_));refine CV_1 (sameStrings_of (h1.mono (hzc.trans hS10.zle)) (g1.mono (hzc.trans hS10.zle))) ?_;rintro z11 w11 v11 hz11 hS11 ⟨b1,rfl,hb1⟩
 clear hS10;intro Ka hKa;have ma:∀ z' w' L' b,Res w2 zc [] w' z' L'->(b = true ↔ c = d)->Ka [.bool b] w':=fun z' w' L' b k e=>hKa _ _ fun _=>hR _ _ _ _ k e
 clear hKa;refine Cond_b (fun e=>?_) (fun e=>?_)
 ·(repeat (first | refine V_run ?_ | refine fV_ld1 ?_))
  refine CV_1 (sameStrings_of (h5.mono (hzc.trans hS11.zle)) (g5.mono (hzc.trans hS11.zle))) ?_;rintro z12 w12 v12 hz12 hS12 ⟨b2,rfl,hb2⟩
  refine ma _ _ _ _ hS12 ?_;rw [hb2,hcd];exact ⟨fun h=>⟨hb1.1 e,eq_tmpls,eq_lists,eq_labels,h,eq_ins⟩,fun h=>h.2.2.2.2.1⟩
 ·refine ma _ _ _ _ hS11 ⟨fun h=>(by cases h),fun h=>?_⟩
  rw [hb1.2 (by rw [h])] at e; cases e)
end
section
open Go Q Go.RowKit
instance {n s:Int}:Pu 34 #[.int .i64 n,.int .i64 s,.int .i64 400000] (.bool (manyM n s 400000)):=manyI ⟨by omega⟩
theorem sameBytes_of {z:Z} {w:World} {v u:Value} {l:List UInt8} (hv:SlR El.byte z v l) (hu:SlR El.byte z u l):Fn1 39 #[v,u] z w fun _ r=>r = .bool true:=Fn1.intro fun hS=>en39 (by
 unfold vc39;refine ⟨_,_,run_cvs hv hS.sub,?_⟩;refine ⟨_,_,run_cvs hu hS.sub,?_⟩;refine V_run ?_;exact ⟨_,_,hS,by rw [decide_eq_true rfl]⟩)
theorem lawBytes {z:Z} {w:World} {v u:Value} {c:CodeM} {b:List UInt8} [ht:Tab z] (hc:CodeR z v c) (hb:SlR El.byte z u b):Fn1 10 #[v,u] z w fun _ r=>r = .bool true:=Fn1.intro fun hS=>en10 (by
 unfold vc10;obtain ⟨a1,a2,a3,a4,a5,a6,k1,k2,k3,k4,k5,k6,rfl,h1,h2,h3,h4,h5,h6⟩:=hc.form;obtain ⟨_,ua,ucap,rfl,hcap,_⟩:=hb.form;refine iV_bx ?_;intro bc w1 hbc hS1;obtain ⟨zc,hzc,hS2,hatc⟩:=hS1.frz bc;generalize hRR:(fun (v:Value) (w':World)=>∃ z' L',Res w z [] w' z' L'/\v = .bool true) = RR;have hR:∀ z' w' L' b,Res w1 zc [] w' z' L'->b = true->RR (.bool b) w':=fun z' w' L' b k e=>by rw [<- hRR,e]; exact ⟨z',L',hS2.comp k,rfl⟩
 clear hRR;have hS5:=hS2.self;clear hS hS1 hS2;haveI:Tab zc:=ht.le hzc;have hcc:=hc.mono hzc;have hbb:=hb.mono hzc;haveI:Fz zc bc 0 (codeVs a1 a2 a3 a4 a5 a6 k1 k2 k3 k4 k5 k6 c):=⟨hatc⟩
 refine CV_puz ?_;intro z6 w6 hz6 hS6;clear hS5;refine fV_ldN ?_;refine CV_1 (few_of (hcc.mono hS6.zle)) ?_;rintro z7 w7 v7 hz7 hS7 ⟨few,rfl⟩
 clear hS6;refine V_run ?_;intro Ka hKa;have ma:∀ x z' w',Le zc z'->(x = false->b.length <= 1000000)->Res w1 zc [] w' z' []->Ka [.bool x] w':=by
  intro x z8 w8 hz8 hlen hS8;refine hKa _ _ fun _=>?_
  clear hKa hS7;refine Cond_b (fun _=>hR _ _ _ _ hS8 rfl) (fun hx=>?_);have hlen:=hlen hx;refine fV_ldN ?_;refine CV_1 (encode_of (hcc.mono hS8.zle)) ?_;rintro z9 w9 v9 hz9 hS9 ⟨vb,rfl,hvb⟩
  clear hS8;obtain ⟨av,cv,rfl,_⟩:=SlR.form2 hvb;refine V_run ?_;refine V_run ?_;refine fV_ldN ?_;refine CV_1 (refEnc_of (hcc.mono hS9.zle)) ?_;rintro z10 w10 v10 hz10 hS10 ⟨vb2,rfl,hvb2⟩
  clear hS9;obtain ⟨av2,cv2,rfl,_⟩:=SlR.form2 hvb2;refine iV_al ?_;intro b8 w11 hb8 hS11;refine iU_st ?_;intro w12 hS12;clear hS10 hS11;refine CV_1 (decode_of (hbb.mono hS12.zle) hlen) ?_;rintro z13 w13 v13 hz13 hS13 ⟨d1,d2,d3,d4,d5,d6,hd,rfl⟩
  clear hS12;refine V_run ?_;refine V_run ?_;refine V_run ?_;obtain ⟨x1,x2,x3,x4,x5,x6,y1,y2,y3,y4,y5,y6,hdv,_,_,_,_,_,_⟩:=hd.form
  cases hdv
  refine iV_al ?_;intro b9 w14 hb9 hS14;refine iU_st ?_;intro w15 hS15;clear hS13 hS14;refine CV_1 (refDec_of (hbb.mono hS15.zle) hlen) ?_;rintro z16 w16 v16 hz16 hS16 ⟨n1,n2,n3,n4,n5,n6,hn,rfl⟩
  clear hS15;obtain ⟨p1,p2,p3,p4,p5,p6,q1,q2,q3,q4,q5,q6,hnv,_,_,_,_,_,_⟩:=hn.form
  cases hnv
  refine iV_al ?_;intro b12 w17 hb12 hS17;refine iU_st ?_;intro w18 hS18;clear hS16 hS17;(repeat (first | refine V_run ?_ | refine iV_ldN ?_));refine CV_1 (refSame_of (hd.mono (by (repeat (assumption)))) (hn.mono (by (repeat (exact Le.refl _))))) ?_;rintro z19 w19 v19 hz19 hS19 ⟨b1,rfl,hb1⟩
  have hb1:=hb1.2 rfl;subst hb1;clear hS18;refine fun Kb hKb=>?_
  have mb:Kb [.bool true] w19:=by
   refine hKb _ _ fun _=>?_
   clear hKb;intro K1 hK1;refine Cond_is rfl ?_;(repeat (first | refine V_run ?_ | refine iV_ld1 ?_));rename_i w20 hS20;refine CV_1 (sameBytes_of (hvb.mono (by (repeat (first | assumption | refine Le.trans ?_ (by assumption:Le _ _))))) (hvb2.mono (by (repeat (first | assumption | refine Le.trans ?_ (by assumption:Le _ _)))))) ?_;rintro z21 w21 v21 hz21 hS21 rfl
   clear hS20;refine hK1 _ _ fun _=>?_
   clear hK1;intro K2 hK2;refine Cond_is rfl ?_;(repeat (first | refine V_run ?_ | refine iV_ld1 ?_));refine hK2 _ _ fun _=>?_
   clear hK2;intro K3 hK3;refine Cond_is (by simp) ?_;(repeat (first | refine V_run ?_ | refine iV_ld1 ?_));refine hK3 _ _ fun _=>?_
   clear hK3;intro K4 hK4;refine Cond_is (by simp) ?_;(repeat (first | refine V_run ?_ | refine iV_ld1 ?_));refine hK4 _ _ fun _=>?_
   exact hR _ _ _ _ (by assumption) (by simp)
  clear hKb;(repeat (refine Cond_t ?_));exact mb
 clear hKa;refine Cond_b (fun h=>?_) (fun h=>?_)
 ·exact ma true _ _ hS7.zle (fun h=>by cases h) hS7
 ·(repeat (first | refine V_run ?_ | (refine CV_pu ?_; intro _ _ _ _)))
  rename_i hS8;refine ma _ _ _ hS8.zle (fun h=>?_) hS8;unfold manyM at h;simp only [Bool.or_eq_false_iff,Bool.and_eq_false_iff,decide_eq_false_iff_not] at h;omega)
end
end Go.Proofs.YtbeelfopmkbllaaGreatDoor
