/- Texts joined: C79, E12, D1, D2, D3, D4, D5, D6, E13, E14, Q22, Q23, E1, E2, E3, E4, E5, E6, E7, E8, E9, E10, E11, E15, E16. -/
import Derived.Test.YtbeelfopmkbllaaGreatDoorM5
import Derived.Test.YtbeelfopmkbllaaGreatDoorM4
import Derived.Laws.IdiomStrings
import Derived.Laws.BytesArg
import Derived.Shelf.LaysC
import Derived.Shelf.Strconv.AtoiAll
set_option linter.unusedSimpArgs false
set_option linter.unusedVariables false
set_option linter.unusedSectionVars false
set_option maxRecDepth 20000
set_option synthInstance.maxHeartbeats 4000000
set_option synthInstance.maxSize 20000
set_option maxHeartbeats 2000000
namespace Go.Proofs.YtbeelfopmkbllaaGreatDoor
section
open Go Q Go.RowKit
def grpR (b:List UInt8) (from_:Nat):Nat->Nat->Nat->Nat->Except Nat (Nat × Nat)
 | 0,_,_,_=>.error from_
 | f + 1,k,u,p=>match b[p]? with
  | none=>.error b.length
  | some x=>if k = 6 \/ (0 < k/\x.toNat = 0) then .error from_ else
   if x.toNat < 128 then .ok (u + x.toNat % 128 * 128 ^ k,p + 1) else grpR b from_ f (k + 1) (u + x.toNat % 128 * 128 ^ k) (p + 1)
def unzig (u:Nat):Int:=if u % 2 = 1 then -(((u + 1) / 2:Nat):Int) else ((u / 2:Nat):Int)
def numR (b:List UInt8) (lo hi:Int) (p:Nat):Except Nat (Int × Nat):=
 match grpR b p 7 0 0 p with
 | .error e=>.error e
 | .ok (u,q)=>if inB (unzig u) lo hi = true then .ok (unzig u,q) else .error p
abbrev far:Int:=1099511627776
def anyR (b:List UInt8) (p:Nat):Except Nat (Int × Nat):=numR b (-far) far p
def andR {α β:Type} (x:Except Nat (α × Nat)) (f:α->Nat->Except Nat (β × Nat)):Except Nat (β × Nat):=
 match x with
 | .error e=>.error e
 | .ok (a,p)=>f a p
def strR (b:List UInt8) (p:Nat):Except Nat (ByteArray × Nat):=
 andR (numR b 0 1000 p) fun n q=>if n > (b.length:Int) - q then .error b.length else .ok (⟨((b.drop q).take n.toNat).toArray⟩,q + n.toNat)
def seqR {α:Type} (f:Nat->Except Nat (α × Nat)):Nat->Nat->Except Nat (List α × Nat)
 | 0,p=>.ok ([],p)
 | n + 1,p=>andR (f p) fun x q=>andR (seqR f n q) fun l r=>.ok (x :: l,r)
def manyR {α:Type} (b:List UInt8) (top:Int) (f:Nat->Except Nat (α × Nat)) (p:Nat):Except Nat (List α × Nat):=
 andR (numR b 0 top p) fun n q=>seqR f n.toNat q
def partR (b:List UInt8) (p:Nat):Except Nat (PartM × Nat):=andR (anyR b p) fun k q=>andR (strR b q) fun t r=>andR (anyR b r) fun n s=>.ok (⟨k,t,n⟩,s)
def itemR (b:List UInt8) (p:Nat):Except Nat (ItemM × Nat):=andR (numR b 0 1 p) fun v q=>andR (strR b q) fun t r=>.ok (⟨t,decide (v = 1)⟩,r)
def spotR (b:List UInt8) (p:Nat):Except Nat (SpotM × Nat):=andR (anyR b p) fun a q=>andR (strR b q) fun t r=>.ok (⟨t,a⟩,r)
def insR (b:List UInt8) (p:Nat):Except Nat (InsM × Nat):=andR (anyR b p) fun o q=>andR (anyR b q) fun x r=>andR (anyR b r) fun y s=>andR (anyR b s) fun v t=>.ok (⟨o,x,y,v⟩,t)
def decM (b:List UInt8):Except Nat (CodeM × Nat):=
 match b with
 | []=>.error 0
 | x :: _=>if x ≠ 81 then .error 0 else
  andR (manyR b 3000 (strR b) 1) fun c1 p1=>andR (manyR b 3000 (manyR b 100 (partR b)) p1) fun c2 p2=>andR (manyR b 3000 (manyR b 10000 (itemR b)) p2) fun c3 p3=>
  andR (manyR b 3000 (spotR b) p3) fun c4 p4=>andR (manyR b 100 (strR b) p4) fun c5 p5=>andR (manyR b 12000 (insR b) p5) fun c6 p6=>
  if p6 < b.length then .error b.length else .ok (⟨c1,c2,c3,c4,c5,c6⟩,p6)
end
section
open Go Q Go.RowKit
theorem unzig_zig (n:Int):unzig (zig n) = n:=by
 unfold unzig zig
 by_cases h:n < 0
 ·rw [if_pos h,if_pos (by omega)]; omega
 ·rw [if_neg h,if_neg (by omega)]; omega
theorem zig_unzig (u:Nat):zig (unzig u) = u:=by
 unfold unzig zig
 by_cases h:u % 2 = 1
 ·rw [if_pos h,if_pos (by omega)]; omega
 ·rw [if_neg h,if_neg (by omega)]; omega
theorem drop_cons {b:List UInt8} {p:Nat} {x:UInt8} {l:List UInt8} (h:b.drop p = x :: l):b[p]? = some x/\b.drop (p + 1) = l/\p < b.length:=by
 have hp:p < b.length:=by
  rcases Nat.lt_or_ge p b.length with hp | hp
  ·exact hp
  ·rw [List.drop_of_length_le hp] at h; cases h
 rw [List.drop_eq_getElem_cons hp] at h;obtain ⟨h1,h2⟩:=List.cons.inj h;exact ⟨by rw [List.getElem?_eq_getElem hp,h1],h2,hp⟩
theorem grp_small {F m:Nat} (h:m < 128):grp F m = [UInt8.ofNat m]:=by
 cases F with
 | zero=>rfl
 | succ F=>rw [grp,if_neg (by omega)]
theorem grp_fwd (b:List UInt8) (fr:Nat):∀ (d k m u p F:Nat) (rest:List UInt8),d + k = 6->m < 128 ^ d->(0 < k->0 < m)->d <= F->b.drop p = grp F m ++ rest->grpR b fr (d + 1) k u p = .ok (u + m * 128 ^ k,p + (grp F m).length)
 | 0,k,m,u,p,F,rest,hd,hm,hk,hF,h=>by
  have:m = 0:=by simpa using hm
  have:=hk (by omega);omega
 | d + 1,k,m,u,p,F,rest,hd,hm,hk,hF,h=>by
  rw [grpR]
  by_cases hs:m < 128
  ·rw [grp_small hs] at h ⊢
   obtain ⟨h1,_,_⟩:=drop_cons h;have hx:(UInt8.ofNat m).toNat = m:=by simp; omega
   rw [h1];simp only [hx];rw [if_neg (by
     rintro (e | ⟨e1,e2⟩); · omega
     · have:=hk e1; omega),if_pos hs,Nat.mod_eq_of_lt hs]
   rfl
  ·obtain ⟨F,rfl⟩:∃ F',F = F' + 1:=⟨F - 1,by omega⟩
   have hg:grp (F + 1) m = UInt8.ofNat (m % 128 + 128) :: grp F (m / 128):=by rw [grp,if_pos (by omega)]
   rw [hg] at h ⊢;obtain ⟨h1,h2,_⟩:=drop_cons h;have hx:(UInt8.ofNat (m % 128 + 128)).toNat = m % 128 + 128:=by simp; omega
   rw [h1];simp only [hx];have hk6:k ≠ 6:=by omega
   rw [if_neg (by rintro (e | ⟨e1,e2⟩) <;> omega),if_neg (by omega)];have hdiv:m / 128 < 128 ^ d:=by
    rw [Nat.div_lt_iff_lt_mul (by decide)];rw [Nat.pow_succ] at hm;exact hm
   rw [grp_fwd b fr d (k + 1) (m / 128) _ (p + 1) F rest (by omega) hdiv (fun _=>by omega) (by omega) h2];have e1:(m % 128 + 128) % 128 = m % 128:=by omega
   have e2:m * 128 ^ k = m % 128 * 128 ^ k + m / 128 * 128 ^ (k + 1):=by
    rw [Nat.pow_succ,<- Nat.mul_assoc,Nat.mul_right_comm,<- Nat.add_mul]
    congr 1
    omega
   rw [e1,List.length_cons]
   congr 2
   ·omega
   ·omega
theorem grp_bwd (b:List UInt8) (fr:Nat):∀ (d k u p u' q F:Nat),d + k = 6->d <= F->grpR b fr (d + 1) k u p = .ok (u',q)->∃ m,u' = u + m * 128 ^ k/\b.drop p = grp F m ++ b.drop q/\q <= b.length/\(0 < k->0 < m)
 | 0,k,u,p,u',q,F,hd,hF,h=>by
  rw [grpR] at h
  cases hb:b[p]? with
  | none=>rw [hb] at h; cases h
  | some x=>rw [hb] at h; simp only at h; rw [if_pos (.inl (by omega))] at h; cases h
 | d + 1,k,u,p,u',q,F,hd,hF,h=>by
  rw [grpR] at h
  cases hb:b[p]? with
  | none=>rw [hb] at h; cases h
  | some x=>
   rw [hb] at h;simp only at h;have hp:=(List.getElem?_eq_some_iff.1 hb).1;have hdr:b.drop p = x :: b.drop (p + 1):=by
    rw [List.drop_eq_getElem_cons hp,(List.getElem?_eq_some_iff.1 hb).2]
   split at h
   ·cases h
   ·rename_i hne
    split at h
    ·rename_i hx
     simp only [Except.ok.injEq,Prod.mk.injEq] at h;obtain ⟨rfl,rfl⟩:=h;refine ⟨x.toNat,by rw [Nat.mod_eq_of_lt hx],?_,by omega,fun hk=>by omega⟩;rw [hdr,grp_small hx];simp
    ·rename_i hx
     obtain ⟨m,h1,h2,h3,h4⟩:=grp_bwd b fr d (k + 1) _ (p + 1) u' q (F - 1) (by omega) (by omega) h;have hxl:=x.toNat_lt;have hm:=h4 (by omega);refine ⟨x.toNat % 128 + 128 * m,?_,?_,h3,fun _=>by omega⟩
     ·rw [h1,Nat.pow_succ,Nat.add_mul,Nat.mul_assoc,Nat.add_assoc]
      congr 2
      rw [Nat.mul_comm (128 ^ k) 128,<- Nat.mul_assoc,Nat.mul_comm m 128,Nat.mul_assoc]
     ·obtain ⟨F,rfl⟩:∃ F',F = F' + 1:=⟨F - 1,by omega⟩
      rw [hdr,grp,if_pos (by omega),h2,show (x.toNat % 128 + 128 * m) % 128 + 128 = x.toNat by omega,show (x.toNat % 128 + 128 * m) / 128 = m by omega];simp
structure Cod {α:Type} (b:List UInt8) (f:α->List UInt8) (g:Nat->Except Nat (α × Nat)) (ok:α->Prop):Prop where
 fwd:∀ x p rest,ok x->b.drop p = f x ++ rest->g p = .ok (x,p + (f x).length)
 bwd:∀ x p q,g p = .ok (x,q)->b.drop p = f x ++ b.drop q/\q <= b.length
theorem num_cod (b:List UInt8) (lo hi:Int) (h0:-far <= lo) (h1:hi <= far):Cod b numM (numR b lo hi) (fun n=>lo <= n/\n <= hi) where
 fwd:=fun n p rest hn h=>by
  have hz:zig n < 128 ^ 6:=by
   rw [show (128:Nat) ^ 6 = 4398046511104 by decide];unfold zig;simp only [far] at h0 h1
   split <;> omega
  unfold numR;rw [grp_fwd b p 6 0 (zig n) 0 p 9 rest rfl hz (fun h=>by omega) (by omega) h];simp only [Nat.pow_zero,Nat.mul_one,Nat.zero_add,unzig_zig];rw [if_pos (by simp [inB]; omega)]
  rfl
 bwd:=fun n p q h=>by
  unfold numR at h
  cases hg:grpR b p 7 0 0 p with
  | error e=>rw [hg] at h; cases h
  | ok x=>
   obtain ⟨u,q'⟩:=x;rw [hg] at h;simp only at h
   split at h
   ·simp only [Except.ok.injEq,Prod.mk.injEq] at h
    obtain ⟨rfl,rfl⟩:=h;obtain ⟨m,h1,h2,h3,_⟩:=grp_bwd b p 6 0 0 p u q' 9 rfl (by omega) hg;have hu:u = m:=by simpa using h1
    subst hu;exact ⟨by rw [h2]; unfold numM; rw [zig_unzig],h3⟩
   ·cases h
theorem Cod.bind {α β:Type} {b:List UInt8} {f:α->List UInt8} {g:Nat->Except Nat (α × Nat)} {ok:α->Prop} {f2:α->β->List UInt8} {g2:α->Nat->Except Nat (β × Nat)} {ok2:β->Prop} {key:β->α}
  (h:Cod b f g ok) (h2:∀ a,(∀ x p rest,ok2 x->key x = a->b.drop p = f2 a x ++ rest->g2 a p = .ok (x,p + (f2 a x).length))/\(∀ x p q,g2 a p = .ok (x,q)->b.drop p = f2 a x ++ b.drop q/\q <= b.length/\key x = a)) (hk:∀ x,ok2 x->ok (key x)) :
  Cod b (fun x=>f (key x) ++ f2 (key x) x) (fun p=>andR (g p) g2) ok2 where
 fwd:=fun x p rest hx he=>by
  rw [List.append_assoc] at he;have h1:=h.fwd (key x) p _ (hk x hx) he;have hd:b.drop (p + (f (key x)).length) = f2 (key x) x ++ rest:=by
   rw [<- List.drop_drop,he,List.drop_left']
   rfl
  unfold andR;rw [h1];simp only;rw [(h2 (key x)).1 x _ rest hx rfl hd,List.length_append,Nat.add_assoc]
 bwd:=fun x p q he=>by
  unfold andR at he
  cases hg:g p with
  | error e=>rw [hg] at he; cases he
  | ok y=>
   obtain ⟨a,r⟩:=y;rw [hg] at he;simp only at he;obtain ⟨h3,h4,h5⟩:=(h2 a).2 x r q he;subst h5;have h6:=(h.bwd _ _ _ hg).1;exact ⟨by rw [h6,h3,List.append_assoc],h4⟩
end
section
open Go Q Go.RowKit
abbrev fK (p:Nat->Bool) (k:Nat):List Nat:=(List.range k).filter p
theorem fK_succ {p:Nat->Bool} {k:Nat}:fK p (k + 1) = fK p k ++ (if p k = true then [k] else []):=by
 rw [fK,List.range_succ,List.filter_append]
 cases h:p k <;> simp [h]
theorem fK_mem {p:Nat->Bool} {k x:Nat}:x ∈ fK p k ↔ x < k/\p x = true:=by
 rw [List.mem_filter,List.mem_range]
theorem fK_get {p:Nat->Bool} {i:Nat} (hp:p i = true):∀ {n:Nat},i < n->(fK p n)[(fK p i).length]? = some i
 | 0,h=>absurd h (by omega)
 | n + 1,h=>by
  rw [fK_succ]
  by_cases hi:i = n
  ·subst hi
   rw [if_pos hp,List.getElem?_append_right (by omega),Nat.sub_self]; rfl
  ·have ih:=fK_get hp (n:=n) (by omega)
   have hl:(fK p i).length < (fK p n).length:=by
    rcases Nat.lt_or_ge (fK p i).length (fK p n).length with h | h
    ·exact h
    ·rw [List.getElem?_eq_none h] at ih; cases ih
   rw [List.getElem?_append_left hl]; exact ih
theorem fK_lt {p:Nat->Bool} {i n:Nat} (hp:p i = true) (h:i < n):(fK p i).length < (fK p n).length:=by
 have ih:=fK_get hp h
 rcases Nat.lt_or_ge (fK p i).length (fK p n).length with h | h
 ·exact h
 ·rw [List.getElem?_eq_none h] at ih; cases ih
theorem fK_nodup {p:Nat->Bool} {n:Nat}:(fK p n).Nodup:=List.nodup_range.filter _
theorem fK_idx {p:Nat->Bool} {n j i:Nat} (h:(fK p n)[j]? = some i):i < n/\p i = true/\(fK p i).length = j:=by
 have hm:=fK_mem.1 (List.mem_of_getElem? h);refine ⟨hm.1,hm.2,?_⟩;have h2:=fK_get hm.2 hm.1;have hl:=fK_lt hm.2 hm.1;exact (List.getElem?_inj hl fK_nodup).1 (by rw [h2,h])
theorem fK_next {p:Nat->Bool} {i:Nat}:(fK p (i + 1)).length = (fK p i).length + if p i = true then 1 else 0:=by
 rw [fK_succ,List.length_append]; split <;> rfl
theorem fK_mono {p:Nat->Bool} {i:Nat}:∀ {j:Nat},i <= j->(fK p i).length <= (fK p j).length
 | 0,h=>by rw [show i = 0 by omega]; exact Nat.le_refl _
 | j + 1,h=>by
  rw [fK_next]
  rcases Nat.lt_or_ge j i with h2 | h2
  ·rw [show i = j + 1 by omega,fK_next]; exact Nat.le_refl _
  ·have:=fK_mono (p:=p) h2; omega
theorem fK_le {p:Nat->Bool} {n:Nat}:(fK p n).length <= n:=by
 have:=List.length_filter_le p (List.range n);rw [List.length_range] at this; exact this
theorem fK_all {p:Nat->Bool} {n:Nat} (h:∀ i,i < n->p i = true):fK p n = List.range n:=by
 unfold fK;rw [List.filter_eq_self];intro a ha;exact h a (List.mem_range.1 ha)
theorem pick_len {α:Type} {xs:List α}:∀ {ks:List Nat},(∀ k ∈ ks,k < xs.length)->(pickK xs ks).length = ks.length
 | [],_=>rfl
 | k :: ks,h=>by
  have hk:=h k List.mem_cons_self;have:=pick_len (xs:=xs) (ks:=ks) fun x hx=>h x (List.mem_cons_of_mem _ hx)
  unfold pickK at this ⊢;rw [List.filterMap_cons,List.getElem?_eq_getElem hk];simp [this]
theorem pick_get {α:Type} {xs:List α}:∀ {ks:List Nat},(∀ k ∈ ks,k < xs.length)->∀ j:Nat,(pickK xs ks)[j]? = (ks[j]?).bind fun i=>xs[i]?
 | [],_,j=>by simp [pickK]
 | k :: ks,h,j=>by
  have hk:=h k List.mem_cons_self;have ih:=pick_get (xs:=xs) (ks:=ks) fun x hx=>h x (List.mem_cons_of_mem _ hx)
  unfold pickK at ih ⊢;rw [List.filterMap_cons,List.getElem?_eq_getElem hk]
  cases j with
  | zero=>simp [List.getElem?_eq_getElem hk]
  | succ j=>simpa using ih j
theorem pick_mem {α:Type} {xs:List α} {ks:List Nat} {x:α} (h:x ∈ pickK xs ks):x ∈ xs:=by
 unfold pickK at h;obtain ⟨i,_,hi⟩:=List.mem_filterMap.1 h;exact List.mem_of_getElem? hi
theorem pick_at {α:Type} {xs:List α} {p:Nat->Bool} {i:Nat} (hp:p i = true) (hi:i < xs.length):(pickK xs (fK p xs.length))[(fK p i).length]? = xs[i]?:=by
 rw [pick_get fun k hk=>(fK_mem.1 hk).1,fK_get hp hi]; rfl
theorem kept_lt {S:List Int} {n k:Nat} (h:k ∈ keptI S n):k < n:=(fK_mem.1 h).1
end
section
open Go Q Go.RowKit
def usG (u:UsM) (q:Int):List Int:=if q = 1 then u.s1 else if q = 2 then u.s2 else u.s3
theorem mem_insK' {S:List Int} {x y:Int}:y ∈ insK S x ↔ y ∈ S \/ y = x:=by
 rw [mem_ins]; exact Or.comm
theorem mem_markU {u:UsM} {k n q x:Int} (hq:q = 1 \/ q = 2 \/ q = 3):x ∈ usG (markU u k n) q ↔ x ∈ usG u q \/ (clsM k = q/\x = n):=by
 unfold markU usG
 rcases hq with rfl | rfl | rfl <;> by_cases h1:clsM k = 1 <;> by_cases h2:clsM k = 2 <;> by_cases h3:clsM k = 3 <;> simp [h1,h2,h3,mem_insK']
theorem mem_mark3 {u:UsM} {i:InsM} {q x:Int} (hq:q = 1 \/ q = 2 \/ q = 3):x ∈ usG (markK i 3 u) q ↔ x ∈ usG u q \/ ∃ k:Nat,k < 3/\clsM (kindM i k) = q/\x = fldM i k:=by
 rw [markK_succ,mem_markU hq,markK_succ,mem_markU hq,markK_succ,mem_markU hq,show markK i 0 u = u from rfl];constructor
 ·rintro (((h | h) | h) | h)
  ·exact .inl h
  ·exact .inr ⟨0,by omega,h⟩
  ·exact .inr ⟨1,by omega,h⟩
  ·exact .inr ⟨2,by omega,h⟩
 ·rintro (h | ⟨k,hk,h⟩)
  ·exact .inl (.inl (.inl h))
  ·match k,hk with
   | 0,_=>exact .inl (.inl (.inr h))
   | 1,_=>exact .inl (.inr h)
   | 2,_=>exact .inr h
theorem mem_uses {c:CodeM} {k:Nat} {q x:Int} (hq:q = 1 \/ q = 2 \/ q = 3):x ∈ usG (usesK c k) q ↔ ∃ j,j < k/\rcAt c j = true/\∃ f:Nat,f < 3/\clsM (kindM (insAt c j) f) = q/\x = fldM (insAt c j) f:=by
 induction k with
 | zero=>
  constructor
  ·intro h
   have:usG (usesK c 0) q = []:=by unfold usesK rK usG; simp
   rw [this] at h; cases h
  ·rintro ⟨j,hj,_⟩; omega
 | succ k ih=>
  rw [usesK_succ]
  by_cases hr:rcAt c k = true
  ·rw [if_pos hr,mem_mark3 hq,ih]
   constructor
   ·rintro (⟨j,h1,h2⟩ | h)
    ·exact ⟨j,by omega,h2⟩
    ·exact ⟨k,by omega,hr,h⟩
   ·rintro ⟨j,h1,h2,h3⟩
    by_cases e:j = k
    ·subst e; exact .inr h3
    ·exact .inl ⟨j,by omega,h2,h3⟩
  ·rw [if_neg hr,ih]
   constructor
   ·rintro ⟨j,h1,h2⟩; exact ⟨j,by omega,h2⟩
   ·rintro ⟨j,h1,h2,h3⟩
    by_cases e:j = k
    ·subst e; exact absurd h2 hr
    ·exact ⟨j,by omega,h2,h3⟩
theorem uses_of {c:CodeM} {j f:Nat} {q:Int} (hq:q = 1 \/ q = 2 \/ q = 3) (hj:j < c.ins.length) (hr:rcAt c j = true) (hf:f < 3) (hc:clsM (kindM (insAt c j) f) = q):fldM (insAt c j) f ∈ usG (usesM c) q:=
 (mem_uses hq).2 ⟨j,hj,hr,f,hf,hc,rfl⟩
theorem kind0_of {i:InsM} (h:¬ (i.op = 12 \/ i.op = 21)):kindM i 0 = (formAt i.op).k0:=by
 unfold kindM;rw [if_neg (by simp [h]),if_neg (by simp),if_pos rfl]
theorem kind1_of {i:InsM} (h:¬ i.op = 19):kindM i 1 = (formAt i.op).k1:=by
 unfold kindM;rw [if_neg (by simp [h]),if_neg (by simp),if_neg (by decide),if_pos rfl]
theorem kind2_of {i:InsM} (h:¬ i.op = 22):kindM i 2 = (formAt i.op).k2:=by
 unfold kindM;rw [if_neg (by simp),if_neg (by simp [h]),if_neg (by decide),if_neg (by decide)]
theorem kind0_19 {i:InsM} (h:i.op = 19):kindM i 0 = 15:=by
 rw [kind0_of (by omega),h]; decide +kernel
theorem newIns_eq {c:CodeM} {i:InsM}:newIns c i = ⟨i.op,renewM c (kindM i 0) i.a,renewM c (kindM i 1) i.b,renewM c (kindM i 2) i.c⟩:=by
 have ha:i.op = 19->renewM c (kindM i 0) i.a = i.a:=fun e=>by
  rw [kind0_19 e]; rfl
 unfold newIns;rw [renewK_succ,renewK_succ,renewK_succ]
 show setFld (setFld (setFld i 0 _) 1 _) 2 _ = _
 have e0:renewK c i 0 = i:=rfl;rw [e0];have f0:fldM i ((0:Nat):Int) = i.a:=rfl;rw [f0];generalize hA:renewM c (kindM i ((0:Nat):Int)) i.a = A;have hA':renewM c (kindM i 0) i.a = A:=hA;have s0:setFld i ((0:Nat):Int) A = ⟨i.op,A,i.b,i.c⟩:=rfl;rw [s0];have k1:kindM ⟨i.op,A,i.b,i.c⟩ ((1:Nat):Int) = kindM i 1:=by
  unfold kindM
  by_cases e:i.op = 19
  ·have:A = i.a:=by rw [<- hA']; exact ha e
   rw [this]; rfl
  ·simp [e]
 rw [k1];have f1:fldM ⟨i.op,A,i.b,i.c⟩ ((1:Nat):Int) = i.b:=rfl;rw [f1];generalize hB:renewM c (kindM i 1) i.b = B;have s1:setFld ⟨i.op,A,i.b,i.c⟩ ((1:Nat):Int) B = ⟨i.op,A,B,i.c⟩:=rfl;rw [s1];have k2:kindM ⟨i.op,A,B,i.c⟩ ((2:Nat):Int) = kindM i 2:=by
  unfold kindM; simp
 rw [k2];have f2:fldM ⟨i.op,A,B,i.c⟩ ((2:Nat):Int) = i.c:=rfl;rw [f2]
 rfl
theorem pos_at {α:Type} {xs:List α} {S:List Int} {n:Int} (h0:0 <= n) (h1:n < xs.length) (hm:n ∈ S) :
  0 <= posM S xs.length n/\posM S xs.length n < (pickK xs (keptI S xs.length)).length/\(pickK xs (keptI S xs.length))[(posM S xs.length n).toNat]? = xs[n.toNat]?/\posM S xs.length n = ((keptI S n.toNat).length:Int):=by
 have hm':memK S n = true:=memK_iff.2 hm;have hp:posM S xs.length n = ((keptI S n.toNat).length:Int):=by
  unfold posM;rw [if_neg (by omega),if_pos ⟨h0,h1,hm'⟩]
 have hp2:(fun i:Nat=>memK S (i:Int)) n.toNat = true:=by
  show memK S ((n.toNat:Nat):Int) = true
  rw [show ((n.toNat:Nat):Int) = n by omega]; exact hm'
 have hg:(pickK xs (keptI S xs.length))[(keptI S n.toNat).length]? = xs[n.toNat]?:=pick_at (p:=fun i=>memK S (i:Int)) hp2 (by omega);rw [hp];refine ⟨by omega,?_,by rw [Int.toNat_natCast]; exact hg,rfl⟩
 rcases Nat.lt_or_ge (keptI S n.toNat).length (pickK xs (keptI S xs.length)).length with h | h
 ·omega
 ·rw [List.getElem?_eq_none h,List.getElem?_eq_getElem (show n.toNat < xs.length by omega)] at hg; cases hg
theorem named_new {c:CodeM} {n:Int} {p:ByteArray->Bool} (h:namedM c n p = true) (hm:n ∈ (usesM c).s1):namedM (trimOk c) (posM (usesM c).s1 c.consts.length n) p = true:=by
 unfold namedM at h ⊢;rw [Bool.and_eq_true,inB_iff] at h ⊢;obtain ⟨⟨h0,h1⟩,h2⟩:=h;obtain ⟨p0,p1,p2,_⟩:=pos_at (xs:=c.consts) h0 (by omega) hm;have hl:(trimOk c).consts = pickK c.consts (keptI (usesM c).s1 c.consts.length):=rfl;rw [hl];refine ⟨⟨p0,by omega⟩,?_⟩;rw [List.getD_eq_getElem?_getD,p2,<- List.getD_eq_getElem?_getD]; exact h2
theorem renew_cls1 {c:CodeM} {k n:Int} (h:clsM k = 1):renewM c k n = posM (usesM c).s1 c.consts.length n:=by
 unfold renewM;have h':=h;unfold clsM at h;have:k = 2 \/ k = 3 \/ k = 4 \/ k = 5 \/ k = 6 \/ k = 7 \/ k = 8:=by
  apply Classical.byContradiction
  intro hh;rw [if_neg hh] at h;(repeat' split at h) <;> cases h
 rw [if_neg (by omega),if_neg (by omega),if_neg (by omega),if_pos h']
theorem posM_neg {S:List Int} {n:Nat}:posM S n (-1) = -1:=by unfold posM; rw [if_pos rfl]
theorem good_new {c:CodeM} {k n:Int} (h:goodM c k n = true) (hu:∀ q,clsM k = q->(q = 1 \/ q = 2 \/ q = 3)->n ∈ usG (usesM c) q) (hpl:k = 13->0 <= (atM c).getD n.toNat 0/\(atM c).getD n.toNat 0 < (trimOk c).ins.length):goodM (trimOk c) k (renewM c k n) = true:=by
 by_cases hc:clsM k = 1
 ·have hm:n ∈ (usesM c).s1:=hu 1 hc (.inl rfl)
  rw [renew_cls1 hc];have hk:k = 2 \/ k = 3 \/ k = 4 \/ k = 5 \/ k = 6 \/ k = 7 \/ k = 8:=by
   unfold clsM at hc
   apply Classical.byContradiction
   intro hh;rw [if_neg hh] at hc;(repeat' split at hc) <;> cases hc
  rcases hk with rfl | rfl | rfl | rfl | rfl | rfl | rfl
  ·exact named_new (p:=fun _=>true) h hm
  ·exact named_new (p:=kindIs 2) h hm
  ·exact named_new (p:=kindIs 3) h hm
  ·exact named_new (p:=kindIs 4) h hm
  ·exact named_new (p:=varB) h hm
  ·have h':(namedM c n (kindIs 2) || namedM c n (kindIs 4)) = true:=h
   show (namedM (trimOk c) _ (kindIs 2) || namedM (trimOk c) _ (kindIs 4)) = true
   rw [Bool.or_eq_true] at h' ⊢;exact h'.imp (fun e=>named_new e hm) (fun e=>named_new e hm)
  ·have h':(decide (n = -1) || namedM c n fun _=>true) = true:=h
   show (decide (_ = -1) || namedM (trimOk c) _ fun _=>true) = true
   rw [Bool.or_eq_true,decide_eq_true_eq] at h' ⊢;exact h'.imp (fun e=>by rw [e,posM_neg]) (fun e=>named_new e hm)
 by_cases h13:k = 13
 ·subst h13
  have hp:=hpl rfl;have e:renewM c 13 n = (atM c).getD n.toNat 0:=rfl;rw [e]
  show inB _ 0 _ = true
  rw [inB_iff]; omega
 by_cases h10:k = 10
 ·subst h10
  have hm:n ∈ (usesM c).s2:=hu 2 rfl (.inr (.inl rfl));have h':inB n 0 ((c.tmpls.length:Int) - 1) = true:=h;rw [inB_iff] at h';obtain ⟨p0,p1,_,_⟩:=pos_at (xs:=c.tmpls) h'.1 (by omega) hm
  show inB (posM (usesM c).s2 c.tmpls.length n) 0 (((pickK c.tmpls (keptI (usesM c).s2 c.tmpls.length)).length:Int) - 1) = true
  rw [inB_iff]; omega
 by_cases h11:k = 11
 ·subst h11
  have hm:n ∈ (usesM c).s3:=hu 3 rfl (.inr (.inr rfl));have h':inB n 0 ((c.lists.length:Int) - 1) = true:=h;rw [inB_iff] at h';obtain ⟨p0,p1,_,_⟩:=pos_at (xs:=c.lists) h'.1 (by omega) hm
  show inB (posM (usesM c).s3 c.lists.length n) 0 (((pickK c.lists (keptI (usesM c).s3 c.lists.length)).length:Int) - 1) = true
  rw [inB_iff]; omega
 by_cases h12:k = 12
 ·subst h12
  have hm:n ∈ (usesM c).s3:=hu 3 rfl (.inr (.inr rfl));have h':(decide (n = -1) || inB n 0 ((c.lists.length:Int) - 1)) = true:=h
  show (decide (posM (usesM c).s3 c.lists.length n = -1) || inB (posM (usesM c).s3 c.lists.length n) 0 (((pickK c.lists (keptI (usesM c).s3 c.lists.length)).length:Int) - 1)) = true
  rw [Bool.or_eq_true,decide_eq_true_eq,inB_iff] at h' ⊢
  rcases h' with h' | h'
  ·exact .inl (by rw [h',posM_neg])
  ·obtain ⟨p0,p1,_,_⟩:=pos_at (xs:=c.lists) h'.1 (by omega) hm
   exact .inr ⟨p0,by omega⟩
 have e:renewM c k n = n:=by
  unfold renewM;rw [if_neg h13,if_neg h10,if_neg (by omega),if_neg hc]
 rw [e];have hk:¬ (k = 2 \/ k = 3 \/ k = 4 \/ k = 5 \/ k = 6 \/ k = 7 \/ k = 8):=fun hh=>hc (by unfold clsM; rw [if_pos hh])
 unfold goodM at h ⊢;rw [if_neg (show ¬ k = 8 by omega),if_neg (show ¬ k = 2 by omega),if_neg (show ¬ k = 3 by omega),if_neg (show ¬ k = 4 by omega),if_neg (show ¬ k = 5 by omega),if_neg (show ¬ k = 6 by omega),if_neg (show ¬ k = 7 by omega),if_neg h10,if_neg h12,if_neg h11,if_neg h13] at h ⊢;exact h
end
section
open Go Q Go.RowKit
structure Ok (c:CodeM):Prop where
 lim:limitsM c = true
 par:partsM c = true
 rt:∀ i ∈ c.ins,rightM c i = true
 fin:(formAt (lastI c).op).final = true
theorem Ok.pos {c:CodeM} (h:Ok c):0 < c.ins.length:=parts_pos h.par
theorem Ok.nb {c:CodeM} (h:Ok c):reachBad c = false:=reachBad_ok h.lim h.par
theorem insAt_get {c:CodeM} {a:Nat} (h:a < c.ins.length):c.ins[a]? = some (insAt c a):=by rw [insAt,List.getD_eq_getElem?_getD,List.getElem?_eq_getElem h]; rfl
theorem Ok.rat {c:CodeM} (h:Ok c) {a:Nat} (ha:a < c.ins.length):rightM c (insAt c a) = true:=h.rt _ (List.mem_of_getElem? (insAt_get ha))
def phi (c:CodeM) (i:Nat):Nat:=(rK c i).length
def newN (c:CodeM):Nat:=(rK c c.ins.length).length
theorem rc_lt {c:CodeM} (h:Ok c) {i:Nat} (hr:rcAt c i = true):i < c.ins.length:=by
 have hl:=reachM_len h.nb
 apply Classical.byContradiction
 intro hge;unfold rcAt at hr;rw [List.getD_eq_getElem?_getD,List.getElem?_eq_none (by omega)] at hr
 cases hr
theorem phi_lt {c:CodeM} (h:Ok c) {i:Nat} (hr:rcAt c i = true):phi c i < newN c:=fK_lt hr (rc_lt h hr)
theorem newLen {c:CodeM}:(trimOk c).ins.length = newN c:=by
 show ((rK c c.ins.length).map _).length = _
 rw [List.length_map]; rfl
theorem ins_new {c:CodeM} (h:Ok c) {i:Nat} (hr:rcAt c i = true):insAt (trimOk c) (phi c i) = newIns c (insAt c i):=by
 unfold insAt;rw [List.getD_eq_getElem?_getD]
 show ((((rK c c.ins.length).map fun j=>newIns c (insAt c j))[phi c i]?).getD noIns) = _
 rw [List.getElem?_map,show (rK c c.ins.length)[phi c i]? = some i from fK_get hr (rc_lt h hr)]
 rfl
theorem newAt_rc {c:CodeM} {i:Nat} (hr:rcAt c i = true):newAt c i = (phi c i:Int):=by unfold newAt; rw [if_pos hr]; rfl
theorem atM_get {c:CodeM} {i:Nat} (h:i < c.ins.length):(atM c).getD i 0 = newAt c i:=by
 unfold atM;rw [List.getD_eq_getElem?_getD,List.getElem?_map,List.getElem?_range h]; rfl
theorem psi_ex {c:CodeM} {j:Nat} (hj:j < newN c):∃ i,i < c.ins.length/\rcAt c i = true/\phi c i = j:=by
 have hj':j < (rK c c.ins.length).length:=hj;obtain ⟨h1,h2,h3⟩:=fK_idx (List.getElem?_eq_getElem hj');exact ⟨_,h1,h2,h3⟩
theorem Ok.step {c:CodeM} (h:Ok c) {a n:Nat} (hr:rcAt c a = true) (hn:n ∈ toL c a):rcAt c n = true:=(reach_spec h.nb).2.1 a hr n hn
theorem Ok.root {c:CodeM} (h:Ok c) {x:Nat} (hx:x ∈ rootsM c):rcAt c x = true:=(reach_spec h.nb).2.2 x hx
theorem Ok.root0 {c:CodeM} (h:Ok c):rcAt c 0 = true:=h.root (by simp [rootsM,rootsK])
theorem label_root {c:CodeM} (h:Ok c) {s:SpotM} (hs:s ∈ c.labels):s.at_.toNat ∈ rootsM c:=by
 have hin:=labels_in h.par s hs;unfold rootsM rootsK;rw [List.take_length];refine List.mem_cons_of_mem _ (List.mem_map.2 ⟨s,List.mem_filter.2 ⟨hs,?_⟩,rfl⟩);rw [rootOk,inB_iff]; omega
theorem notlast {c:CodeM} (h:Ok c) {a:Nat} (ha:a < c.ins.length) (hf:(formAt (insAt c a).op).final = false):a + 1 < c.ins.length:=by
 apply Classical.byContradiction
 intro hge;have:=h.fin;unfold lastI at this;rw [show c.ins.length - 1 = a by omega,hf] at this
 cases this
theorem place_good {c:CodeM} {i:InsM} (h:rightM c i = true) (hj:jumpOp i = true):(formAt i.op).k0 = 13/\0 <= i.a/\i.a < c.ins.length:=by
 have hk:(formAt i.op).k0 = 13:=by
  unfold jumpOp at hj;simp only [Bool.or_eq_true,decide_eq_true_eq] at hj
  rcases hj with e | e | e <;> rw [e] <;> decide +kernel
 unfold rightM at h;simp only [Bool.and_eq_true] at h;have h2:=h.2.1;rw [hk] at h2;have:goodM c 13 i.a = inB i.a 0 ((c.ins.length:Int) - 1):=rfl;rw [this,inB_iff] at h2;exact ⟨hk,h2.1,by omega⟩
theorem jump_lead {c:CodeM} {a:Nat} (hj:jumpOp (insAt c a) = true) (h0:0 <= (insAt c a).a) (h1:(insAt c a).a < c.ins.length):(insAt c a).a.toNat ∈ toL c a:=by
 unfold toL leadsM lead2;rw [if_pos (by rw [Bool.and_eq_true,inB_iff]; exact ⟨hj,by omega,by omega⟩)];simp
theorem newN_pos {c:CodeM} (h:Ok c):0 < newN c:=by have:=phi_lt h h.root0; omega
theorem phi_le {c:CodeM} {i:Nat}:phi c i <= i:=fK_le
theorem newN_le {c:CodeM}:newN c <= c.ins.length:=fK_le
end
section
open Go Q Go.RowKit
theorem kind_form {i:InsM}:(kindM i 0 = (formAt i.op).k0 \/ (formAt i.op).k0 = 23)/\(kindM i 1 = (formAt i.op).k1 \/ (formAt i.op).k1 = 23)/\(kindM i 2 = (formAt i.op).k2 \/ (formAt i.op).k2 = 23):=by
 have f12:(formAt 12).k0 = 23:=by decide +kernel
 have f21:(formAt 21).k0 = 23:=by decide +kernel
 have f19:(formAt 19).k1 = 23:=by decide +kernel
 have f22:(formAt 22).k2 = 23:=by decide +kernel
 refine ⟨?_,?_,?_⟩
 ·unfold kindM
  by_cases e:i.op = 12 \/ i.op = 21
  ·right; rcases e with e | e <;> rw [e] <;> assumption
  ·left
   rw [if_neg (by simp [e]),if_neg (by simp),if_pos rfl]
 ·unfold kindM
  by_cases e:i.op = 19
  ·right; rw [e]; exact f19
  ·left
   rw [if_neg (by simp [e]),if_neg (by simp),if_neg (by decide),if_pos rfl]
 ·unfold kindM
  by_cases e:i.op = 22
  ·right; rw [e]; exact f22
  ·left
   rw [if_neg (by simp),if_neg (by simp [e]),if_neg (by decide),if_neg (by decide)]
theorem good23 {c:CodeM} {n:Int}:goodM c 23 n = true:=by
 show rangedM 23 n = true
 rfl
theorem form13 {n:Int}:(formAt n).k1 ≠ 13/\(formAt n).k2 ≠ 13/\((formAt n).k0 = 13->n = 23 \/ n = 24 \/ n = 30):=by
 unfold formAt
 split
 ·have h:∀ k:Fin 47,(formL.getD k.val noForm).k1 ≠ 13/\(formL.getD k.val noForm).k2 ≠ 13/\((formL.getD k.val noForm).k0 = 13->((k.val:Nat):Int) = 23 \/ ((k.val:Nat):Int) = 24 \/ ((k.val:Nat):Int) = 30):=by decide +kernel
  have hk:1 <= n/\n <= 46:=by
   have:=‹opOk n = true›
   unfold opOk at this
   simpa using this
  have:=h ⟨n.toNat,by omega⟩;simp only at this;rw [show ((n.toNat:Nat):Int) = n by omega] at this;exact this
 ·exact ⟨by decide,by decide,fun h=>absurd h (by decide)⟩
theorem jump_of {i:InsM} {k:Nat} (hk:k < 3) (h:kindM i k = 13):k = 0/\jumpOp i = true:=by
 obtain ⟨f1,f2,f0⟩:=@form13 i.op;unfold kindM at h
 split at h
 ·cases h
 ·split at h
  ·cases h
  ·match k,hk with
   | 0,_=>
    rw [if_pos (by rfl)] at h;refine ⟨rfl,?_⟩;have:=f0 h;unfold jumpOp
    simpa using this
   | 1,_=>rw [if_neg (by decide),if_pos (by rfl)] at h; exact absurd h f1
   | 2,_=>rw [if_neg (by decide),if_neg (by decide)] at h; exact absurd h f2
theorem good_fld {c:CodeM} (h:Ok c) {a:Nat} (hr:rcAt c a = true) {k:Nat} (hk:k < 3) (hg:goodM c (kindM (insAt c a) k) (fldM (insAt c a) k) = true) :
  goodM (trimOk c) (kindM (insAt c a) k) (renewM c (kindM (insAt c a) k) (fldM (insAt c a) k)) = true:=by
 have ha:=rc_lt h hr;refine good_new hg (fun q hq hq'=>uses_of hq' ha hr hk hq) (fun h13=>?_);obtain ⟨rfl,hj⟩:=jump_of hk h13;obtain ⟨_,h0,h1⟩:=place_good (h.rat ha) hj;have hf:fldM (insAt c a) ((0:Nat):Int) = (insAt c a).a:=rfl;rw [hf,newLen,atM_get (by omega)];have hr1:=h.step hr (jump_lead hj h0 h1);rw [newAt_rc hr1];have:=phi_lt h hr1;omega
theorem special_new {c:CodeM} (h:Ok c) {a:Nat} (hr:rcAt c a = true) (hs:specialM c (insAt c a) = true) (hg0:opOk (insAt c a).op = true):specialM (trimOk c) (newIns c (insAt c a)) = true:=by
 have ha:=rc_lt h hr;have hfld:=fun k hk hg=>good_fld h hr (k:=k) hk hg
 have hu:=fun (f:Nat) hf hc=>uses_of (c:=c) (j:=a) (f:=f) (q:=1) (.inl rfl) ha hr hf hc
 rw [newIns_eq];generalize hi:insAt c a = i at *;unfold specialM at hs ⊢;simp only;have neg23:∀ n,renewM c 23 n = n:=fun n=>rfl
 have neg15:∀ n,renewM c 15 n = n:=fun n=>rfl
 have neg14:∀ n,renewM c 14 n = n:=fun n=>rfl
 by_cases e1:i.op = 12 \/ i.op = 21
 ·rw [if_pos e1] at hs ⊢
  have k0:kindM i 0 = 2:=by unfold kindM; rw [if_pos (.inl ⟨e1,rfl⟩)]
  have k2:kindM i 2 = 14:=by
   rw [kind2_of (by omega)]
   rcases e1 with e | e <;> rw [e] <;> decide +kernel
  rw [k0,k2,neg14,renew_cls1 rfl];exact named_new hs (hu 0 (by omega) (by show clsM (kindM i 0) = 1; rw [k0]; rfl))
 rw [if_neg e1] at hs ⊢
 by_cases e2:i.op = 19
 ·rw [if_pos e2] at hs ⊢
  have k0:kindM i 0 = 15:=kind0_19 e2;rw [k0,neg15]
  by_cases ea:i.a = 1
  ·have k1:kindM i 1 = 2:=by unfold kindM; rw [if_pos (.inr ⟨e2,rfl,ea⟩)]
   rw [ea] at hs ⊢;have hg:goodM c 2 i.b = true:=by simpa using hs
   have:=hfld 1 (by omega) (by show goodM c (kindM i 1) i.b = true; rw [k1]; exact hg);have h3:goodM (trimOk c) 2 (renewM c 2 i.b) = true:=by
    have h4:goodM (trimOk c) (kindM i 1) (renewM c (kindM i 1) i.b) = true:=this;rw [k1] at h4; exact h4
   rw [k1,h3]; simp
  ·have k1:kindM i 1 = 23:=by
    unfold kindM; rw [if_neg (by simp [ea,e1]),if_neg (by simp [e2]),if_neg (by decide),if_pos rfl,e2]; decide +kernel
   rw [k1,neg23]
   simpa [ea] using hs
 rw [if_neg e2] at hs ⊢
 by_cases e3:i.op = 22
 ·rw [if_pos e3] at hs ⊢
  have k0:kindM i 0 = 23:=by rw [kind0_of (by omega),e3]; decide +kernel
  have k1:kindM i 1 = 15:=by rw [kind1_of (by omega),e3]; decide +kernel
  have k2:kindM i 2 = 8:=by unfold kindM; rw [if_neg (by simp [e3]),if_pos ⟨e3,rfl⟩]
  rw [k0,k1,k2,neg23,neg15];rw [Bool.and_eq_true] at hs ⊢;refine ⟨hs.1,?_⟩;have h2:=hs.2;rw [Bool.or_eq_true,decide_eq_true_eq,Bool.and_eq_true] at h2 ⊢
  rcases h2 with h2 | ⟨h2,h3⟩
  ·left; rw [h2,renew_cls1 rfl,posM_neg]
  ·right
   refine ⟨h2,?_⟩;rw [renew_cls1 rfl];exact named_new (p:=kindIs 2) h3 (hu 2 (by omega) (by show clsM (kindM i 2) = 1; rw [k2]; rfl))
 rw [if_neg e3]
theorem right_new {c:CodeM} (h:Ok c) {a:Nat} (hr:rcAt c a = true):rightM (trimOk c) (newIns c (insAt c a)) = true:=by
 have ha:=rc_lt h hr;have hrt:=h.rat ha;unfold rightM at hrt ⊢;simp only [Bool.and_eq_true] at hrt ⊢;obtain ⟨h0,h1,h2,h3,h4⟩:=hrt;have hop:(newIns c (insAt c a)).op = (insAt c a).op:=by rw [newIns_eq]
 obtain ⟨q0,q1,q2⟩:=@kind_form (insAt c a);rw [hop];refine ⟨h0,?_,?_,?_,special_new h hr h4 h0⟩
 ·rcases q0 with q | q
  ·have:=good_fld h hr (k:=0) (by omega) (by show goodM c (kindM (insAt c a) 0) (insAt c a).a = true; rw [q]; exact h1)
   have h5:goodM (trimOk c) (kindM (insAt c a) 0) (renewM c (kindM (insAt c a) 0) (insAt c a).a) = true:=this;rw [newIns_eq,<- q]; exact h5
  ·rw [q]; exact good23
 ·rcases q1 with q | q
  ·have:=good_fld h hr (k:=1) (by omega) (by show goodM c (kindM (insAt c a) 1) (insAt c a).b = true; rw [q]; exact h2)
   have h5:goodM (trimOk c) (kindM (insAt c a) 1) (renewM c (kindM (insAt c a) 1) (insAt c a).b) = true:=this;rw [newIns_eq,<- q]; exact h5
  ·rw [q]; exact good23
 ·rcases q2 with q | q
  ·have:=good_fld h hr (k:=2) (by omega) (by show goodM c (kindM (insAt c a) 2) (insAt c a).c = true; rw [q]; exact h3)
   have h5:goodM (trimOk c) (kindM (insAt c a) 2) (renewM c (kindM (insAt c a) 2) (insAt c a).c) = true:=this;rw [newIns_eq,<- q]; exact h5
  ·rw [q]; exact good23
theorem right_all {c:CodeM} (h:Ok c):∀ i ∈ (trimOk c).ins,rightM (trimOk c) i = true:=by
 intro i hi;obtain ⟨j,hj,rfl⟩:=List.mem_map.1 (show i ∈ (rK c c.ins.length).map fun j=>newIns c (insAt c j) from hi);exact right_new h (fK_mem.1 hj).2
theorem labs_new {c:CodeM} (h:Ok c):∀ (l:List SpotM) (last:Nat),(∀ s ∈ l,s ∈ c.labels)->(last = 0 \/ rcAt c last = true)->(allS (labS c.ins.length) (last:Int) l).1 = true ->
  (allS (labS (newN c)) (phi c last:Int) (l.map fun s=>⟨s.name,(atM c).getD s.at_.toNat 0⟩)).1 = true
 | [],_,_,_,_=>rfl
 | s :: l,last,hm,hl,ha=>by
  have hs:=hm s List.mem_cons_self;have hin:=labels_in h.par s hs;have hr:=h.root (label_root h hs);have hat:(atM c).getD s.at_.toNat 0 = (phi c s.at_.toNat:Int):=by rw [atM_get (by omega),newAt_rc hr]
  rw [allS_cons,show labS c.ins.length last s = ((labS c.ins.length last s).1,(labS c.ins.length last s).2) from rfl] at ha;rw [List.map_cons,allS_cons]
  cases h1:(labS c.ins.length last s).1 with
  | false=>rw [h1] at ha; cases ha
  | true=>
   rw [h1] at ha;simp only at ha;simp only [labS,Bool.and_eq_true,inB_iff] at h1;have hmax:max (last:Int) s.at_ = ((s.at_.toNat:Nat):Int):=by omega
   simp only [labS,hmax] at ha;have hle:phi c last <= phi c s.at_.toNat:=fK_mono (by omega);have hlt:=phi_lt h hr;have e:labS (newN c) (phi c last:Int) ⟨s.name,(atM c).getD s.at_.toNat 0⟩ = (true,(phi c s.at_.toNat:Int)):=by
    unfold labS;simp only [hat]
    congr 1
    ·rw [h1.1,Bool.true_and,inB_iff]; omega
    ·omega
   rw [e];exact labs_new h l s.at_.toNat (fun x hx=>hm x (List.mem_cons_of_mem _ hx)) (.inr hr) ha
theorem parts_new {c:CodeM} (h:Ok c):partsM (trimOk c) = true:=by
 have hp:=h.par;unfold partsM at hp ⊢;simp only [Bool.and_eq_true,Bool.not_eq_true',decide_eq_false_iff_not,List.all_eq_true] at hp ⊢;obtain ⟨h1,h2,h3,h4,h5,h6⟩:=hp;refine ⟨by rw [newLen]; have:=newN_pos h; omega,fun x hx=>h2 x (pick_mem hx),fun x hx=>h3 x (pick_mem hx),fun x hx=>h4 x (pick_mem hx),?_,h6⟩;rw [newLen];have:=labs_new h c.labels 0 (fun _ hs=>hs) (.inl rfl) h5;have e0:phi c 0 = 0:=by have:=@phi_le c 0; omega
 rw [e0] at this;exact this
theorem limits_new {c:CodeM} (h:Ok c):limitsM (trimOk c) = true:=by
 have hl:=h.lim;have hb:=limits_bd hl;unfold limitsM at hl ⊢;simp only [Bool.and_eq_true,List.all_eq_true] at hl ⊢;obtain ⟨h1,h2,h3,h4,h5⟩:=hl;refine ⟨?_,fun x hx=>h2 x (pick_mem hx),fun x hx=>h3 x (pick_mem hx),fun x hx=>h4 x (pick_mem hx),?_⟩
 ·have pl:∀ {α:Type} (xs:List α) (S:List Int),(pickK xs (keptI S xs.length)).length <= xs.length:=fun xs S=>by
   rw [pick_len fun k hk=>kept_lt hk]; exact keptI_len
  have e1:=pl c.consts (usesM c).s1;have e2:=pl c.tmpls (usesM c).s2;have e3:=pl c.lists (usesM c).s3;have e4:(trimOk c).labels.length = c.labels.length:=by show (c.labels.map _).length = _; rw [List.length_map]
  have e5:=@newN_le c;intro p hp;unfold sizesL at hp;have f1:(trimOk c).consts = pickK c.consts (keptI (usesM c).s1 c.consts.length):=rfl;have f2:(trimOk c).tmpls = pickK c.tmpls (keptI (usesM c).s2 c.tmpls.length):=rfl;have f3:(trimOk c).lists = pickK c.lists (keptI (usesM c).s3 c.lists.length):=rfl;have f5:(trimOk c).slots = c.slots:=rfl;rw [newLen,e4,f1,f2,f3,f5] at hp;simp only [List.mem_cons,List.not_mem_nil,or_false] at hp
  rcases hp with rfl | rfl | rfl | rfl | rfl | rfl <;> simp only [decide_eq_true_eq] <;> omega
 ·intro s hs
  obtain ⟨s0,hs0,rfl⟩:=List.mem_map.1 (show s ∈ c.labels.map fun s=>(⟨s.name,(atM c).getD s.at_.toNat 0⟩:SpotM) from hs);exact h5 s0 hs0
theorem final_new {c:CodeM} (h:Ok c):(formAt (lastI (trimOk c)).op).final = true:=by
 have hp:=newN_pos h;obtain ⟨i,hi,hr,he⟩:=psi_ex (c:=c) (j:=newN c - 1) (by omega);unfold lastI;rw [newLen,<- he,ins_new h hr];have hop:(newIns c (insAt c i)).op = (insAt c i).op:=by rw [newIns_eq]
 rw [hop]
 cases hf:(formAt (insAt c i).op).final with
 | true=>rfl
 | false=>
  exfalso
  have h1:=notlast h hi hf;have hr1:rcAt c (i + 1) = true:=h.step hr (by
   unfold toL leadsM lead1;rw [if_pos (by rw [hf]; simpa using h1)]; simp)
  have h2:=phi_lt h hr1;have h3:phi c (i + 1) = phi c i + 1:=by
   show (fK (rcAt c) (i + 1)).length = (fK (rcAt c) i).length + 1
   rw [fK_next,if_pos hr]
  omega
theorem Ok.new {c:CodeM} (h:Ok c):Ok (trimOk c):=⟨limits_new h,parts_new h,right_all h,final_new h⟩
end
section
open Go Q Go.RowKit
end
section
open Go Q Go.RowKit
structure Tight (c:CodeM):Prop where
 ok:Ok c
 all:∀ j,j < c.ins.length->rcAt c j = true
 u1:∀ p:Nat,p < c.consts.length->(p:Int) ∈ (usesM c).s1
 u2:∀ p:Nat,p < c.tmpls.length->(p:Int) ∈ (usesM c).s2
 u3:∀ p:Nat,p < c.lists.length->(p:Int) ∈ (usesM c).s3
theorem Tight.at_ {c:CodeM} (h:Tight c) {j:Nat} (hj:j < c.ins.length):(atM c).getD j 0 = j:=by
 rw [atM_get hj,newAt_rc (h.all j hj)];unfold phi rK;rw [show (List.range j).filter (rcAt c) = fK (rcAt c) j from rfl,fK_all fun i hi=>h.all i (by omega),List.length_range]
end
section
open Go Q Go.RowKit
theorem drop_app {b f rest:List UInt8} {p:Nat} (h:b.drop p = f ++ rest):b.drop (p + f.length) = rest:=by
 rw [<- List.drop_drop,h,List.drop_left']
 rfl
theorem str_cod (b:List UInt8):Cod b strM (strR b) (fun s=>s.size <= 1000) where
 fwd:=fun s p rest hs h=>by
  unfold strM at h;rw [List.append_assoc] at h;have h1:=(num_cod b 0 1000 (by decide) (by decide)).fwd (s.size:Int) p _ ⟨by omega,by omega⟩ h;have h2:=drop_app h;have hlen:(numM (s.size:Int)).length + p + s.size <= b.length:=by
   have:=congrArg List.length h2;rw [List.length_drop,List.length_append,<- size_bytes] at this;have h3:=congrArg List.length h;simp only [List.length_drop,List.length_append,<- size_bytes] at h3;have h4:0 < (numM (s.size:Int)).length \/ (numM (s.size:Int)).length = 0:=by omega
   by_cases hp:p <= b.length
   ·omega
   ·have:0 < (numM (s.size:Int)).length:=by unfold numM; rw [grp]; split <;> simp
    omega
  unfold strR andR;rw [h1];simp only;rw [if_neg (by omega),Int.toNat_natCast,h2];have ht:(bytes s ++ rest).take s.size = bytes s:=by rw [List.take_left']; exact (size_bytes s).symm
  rw [ht];unfold strM;rw [List.length_append,<- size_bytes,Nat.add_assoc]
 bwd:=fun s p q h=>by
  unfold strR andR at h
  cases hn:numR b 0 1000 p with
  | error e=>rw [hn] at h; cases h
  | ok x=>
   obtain ⟨n,r⟩:=x;rw [hn] at h;simp only at h;obtain ⟨h1,h2⟩:=(num_cod b 0 1000 (by decide) (by decide)).bwd _ _ _ hn;have hm:0 <= n/\n <= 1000:=by
    unfold numR at hn
    split at hn
    ·cases hn
    ·split at hn
     ·rename_i hin
      simp only [Except.ok.injEq,Prod.mk.injEq] at hn;rw [<- hn.1]
      simpa [inB] using hin
     ·cases hn
   split at h
   ·cases h
   ·rename_i hle
    simp only [Except.ok.injEq,Prod.mk.injEq] at h;obtain ⟨rfl,rfl⟩:=h;refine ⟨?_,by omega⟩;have hb:bytes (⟨((b.drop r).take n.toNat).toArray⟩:ByteArray) = (b.drop r).take n.toNat:=List.toList_toArray;have hsz:(⟨((b.drop r).take n.toNat).toArray⟩:ByteArray).size = n.toNat:=by
     show ((b.drop r).take n.toNat).length = n.toNat
     rw [List.length_take,List.length_drop]; omega
    unfold strM;rw [hsz,hb,h1,<- List.drop_drop,List.append_assoc,List.take_append_drop,Int.toNat_of_nonneg hm.1]
theorem seq_cod {α:Type} {b:List UInt8} {f:α->List UInt8} {g:Nat->Except Nat (α × Nat)} {ok:α->Prop} (h:Cod b f g ok):∀ (n:Nat),(∀ (l:List α) p rest,(∀ x ∈ l,ok x)->l.length = n->b.drop p = l.flatMap f ++ rest->seqR g n p = .ok (l,p + (l.flatMap f).length)) /\
  (∀ (l:List α) p q,p <= b.length->seqR g n p = .ok (l,q)->b.drop p = l.flatMap f ++ b.drop q/\q <= b.length/\l.length = n)
 | 0=>⟨fun l p rest _ hl _=>by
   have:l = []:=List.eq_nil_of_length_eq_zero hl;subst this
   rfl,fun l p q hp h=>by
   simp only [seqR,Except.ok.injEq,Prod.mk.injEq] at h;obtain ⟨rfl,rfl⟩:=h;exact ⟨by simp,hp,rfl⟩⟩
 | n + 1=>⟨fun l p rest hok hl he=>by
   cases l with
   | nil=>cases hl
   | cons x l=>
    rw [List.flatMap_cons,List.append_assoc] at he;have h1:=h.fwd x p _ (hok x List.mem_cons_self) he;have h2:=(seq_cod h n).1 l _ rest (fun y hy=>hok y (List.mem_cons_of_mem _ hy)) (by simpa using hl) (drop_app he);simp only [seqR,andR,h1,h2,List.flatMap_cons,List.length_append,Nat.add_assoc],
   fun l p q hp he=>by
   simp only [seqR,andR] at he
   cases hg:g p with
   | error e=>rw [hg] at he; cases he
   | ok y=>
    obtain ⟨a,r⟩:=y;rw [hg] at he;simp only at he;obtain ⟨h1,h2⟩:=h.bwd _ _ _ hg
    cases hs:seqR g n r with
    | error e=>rw [hs] at he; cases he
    | ok z=>
     obtain ⟨l',q'⟩:=z;rw [hs] at he;simp only [Except.ok.injEq,Prod.mk.injEq] at he;obtain ⟨rfl,rfl⟩:=he;obtain ⟨h3,h4,h5⟩:=(seq_cod h n).2 l' r q' h2 hs;exact ⟨by rw [h1,h3,List.flatMap_cons,List.append_assoc],h4,by simp [h5]⟩⟩
theorem many_cod {α:Type} {b:List UInt8} {f:α->List UInt8} {g:Nat->Except Nat (α × Nat)} {ok:α->Prop} (h:Cod b f g ok) {top:Int} (ht:top <= far):Cod b (fun l:List α=>numM l.length ++ l.flatMap f) (manyR b top g) (fun l=>(l.length:Int) <= top/\∀ x ∈ l,ok x) where
 fwd:=fun l p rest hl he=>by
  rw [List.append_assoc] at he;have h1:=(num_cod b 0 top (by decide) ht).fwd (l.length:Int) p _ ⟨by omega,by omega⟩ he;have h2:=(seq_cod h l.length).1 l _ rest hl.2 rfl (drop_app he);simp only [manyR,andR,h1,Int.toNat_natCast,h2,List.length_append,Nat.add_assoc]
 bwd:=fun l p q he=>by
  simp only [manyR,andR] at he
  cases hn:numR b 0 top p with
  | error e=>rw [hn] at he; cases he
  | ok x=>
   obtain ⟨n,r⟩:=x;rw [hn] at he;simp only at he;obtain ⟨h1,h2⟩:=(num_cod b 0 top (by decide) ht).bwd _ _ _ hn;obtain ⟨h3,h4,h5⟩:=(seq_cod h n.toNat).2 l r q h2 he;have hm:0 <= n:=by
    unfold numR at hn
    split at hn
    ·cases hn
    ·split at hn
     ·rename_i hin
      simp only [Except.ok.injEq,Prod.mk.injEq] at hn;rw [<- hn.1];have:=hin;simp [inB] at this;omega
     ·cases hn
   refine ⟨?_,h4⟩;rw [h1,h3,List.append_assoc,show (l.length:Int) = n by omega]
def Far (n:Int):Prop:=-far <= n/\n <= far
theorem any_cod (b:List UInt8):Cod b numM (anyR b) Far:=num_cod b (-far) far (by decide) (by decide)
theorem Cod.last {α β:Type} {b:List UInt8} {f:α->List UInt8} {g:Nat->Except Nat (α × Nat)} {ok:α->Prop} {mk:α->β} {key:β->α} (h:Cod b f g ok) (hk:∀ a,key (mk a) = a) {P:β->Prop} (hm:∀ x,P x->mk (key x) = x) :
  (∀ x p rest,(P x/\ok (key x))->b.drop p = f (key x) ++ rest->andR (g p) (fun a q=>.ok (mk a,q)) = .ok (x,p + (f (key x)).length))/\(∀ x p q,andR (g p) (fun a q=>.ok (mk a,q)) = .ok (x,q)->b.drop p = f (key x) ++ b.drop q/\q <= b.length/\∃ a,x = mk a):=by
 refine ⟨fun x p rest hx he=>?_,fun x p q he=>?_⟩
 ·simp only [andR,h.fwd _ _ _ hx.2 he,hm x hx.1]
 ·simp only [andR] at he
  cases hg:g p with
  | error e=>rw [hg] at he; cases he
  | ok y=>
   obtain ⟨a,r⟩:=y;rw [hg] at he;simp only [Except.ok.injEq,Prod.mk.injEq] at he;obtain ⟨rfl,rfl⟩:=he;rw [hk];obtain ⟨h1,h2⟩:=h.bwd _ _ _ hg;exact ⟨h1,h2,a,rfl⟩
end
section
open Go Q Go.RowKit
theorem num_mem' {b:List UInt8} {lo hi:Int} {p q:Nat} {n:Int} (h:numR b lo hi p = .ok (n,q)):lo <= n/\n <= hi:=by
 unfold numR at h
 split at h
 ·cases h
 ·split at h
  ·rename_i hi'
   cases h
   simpa [inB] using hi'
  ·cases h
theorem part_cod (b:List UInt8):Cod b partB (partR b) (fun x=>Far x.kind/\x.text.size <= 1000/\Far x.n) where
 fwd:=fun x p rest hok he=>by
  obtain ⟨k1,k2,k3⟩:=hok;unfold partB at he;simp only [List.append_assoc] at he;have d0:=he;have e1:=(any_cod b).fwd x.kind _ _ k1 d0;have d1:=drop_app d0;have e2:=(str_cod b).fwd x.text _ _ k2 d1;have d2:=drop_app d1;have e3:=(any_cod b).fwd x.n _ _ k3 d2;have d3:=drop_app d2;simp only [partR,andR,e1,e2,e3];simp only [partB,List.length_append,Nat.add_assoc]
 bwd:=fun x p q he=>by
  simp only [partR,andR] at he
  cases h1:anyR b p with
  | error e=>rw [h1] at he; cases he
  | ok y1=>
   obtain ⟨v1,q1⟩:=y1;rw [h1] at he;simp only at he;obtain ⟨e1,l1⟩:=(any_cod b).bwd _ _ _ h1
   cases h2:strR b q1 with
   | error e=>rw [h2] at he; cases he
   | ok y2=>
    obtain ⟨v2,q2⟩:=y2;rw [h2] at he;simp only at he;obtain ⟨e2,l2⟩:=(str_cod b).bwd _ _ _ h2
    cases h3:anyR b q2 with
    | error e=>rw [h3] at he; cases he
    | ok y3=>
     obtain ⟨v3,q3⟩:=y3;rw [h3] at he;simp only at he;obtain ⟨e3,l3⟩:=(any_cod b).bwd _ _ _ h3;simp only [Except.ok.injEq,Prod.mk.injEq] at he;obtain ⟨rfl,rfl⟩:=he;refine ⟨?_,l3⟩;unfold partB;simp only [List.append_assoc];rw [e1,e2,e3]
theorem item_cod (b:List UInt8):Cod b itemB (itemR b) (fun x=>x.name.size <= 1000) where
 fwd:=fun x p rest hok he=>by
  have k2:=hok;have k1:0 <= (if x.via = true then (1:Int) else 0)/\(if x.via = true then (1:Int) else 0) <= 1:=by split <;> omega
  unfold itemB at he;simp only [List.append_assoc] at he;have d0:=he;have e1:=(num_cod b 0 1 (by decide) (by decide)).fwd (if x.via = true then 1 else 0) _ _ k1 d0;have d1:=drop_app d0;have e2:=(str_cod b).fwd x.name _ _ k2 d1;have d2:=drop_app d1;simp only [itemR,andR,e1,e2];simp only [itemB,List.length_append,Nat.add_assoc];obtain ⟨nm,via⟩:=x
  cases via <;> rfl
 bwd:=fun x p q he=>by
  simp only [itemR,andR] at he
  cases h1:numR b 0 1 p with
  | error e=>rw [h1] at he; cases he
  | ok y1=>
   obtain ⟨v1,q1⟩:=y1;rw [h1] at he;simp only at he;obtain ⟨e1,l1⟩:=(num_cod b 0 1 (by decide) (by decide)).bwd _ _ _ h1
   cases h2:strR b q1 with
   | error e=>rw [h2] at he; cases he
   | ok y2=>
    obtain ⟨v2,q2⟩:=y2;rw [h2] at he;simp only at he;obtain ⟨e2,l2⟩:=(str_cod b).bwd _ _ _ h2;simp only [Except.ok.injEq,Prod.mk.injEq] at he;obtain ⟨rfl,rfl⟩:=he;refine ⟨?_,l2⟩;have hv:v1 = 0 \/ v1 = 1:=by have:=num_mem' h1; omega
    have hv1:(if decide (v1 = 1) = true then (1:Int) else 0) = v1:=by rcases hv with rfl | rfl <;> rfl
    unfold itemB;simp only [hv1,List.append_assoc];rw [e1,e2]
theorem spot_cod (b:List UInt8):Cod b spotB (spotR b) (fun x=>Far x.at_/\x.name.size <= 1000) where
 fwd:=fun x p rest hok he=>by
  obtain ⟨k1,k2⟩:=hok;unfold spotB at he;simp only [List.append_assoc] at he;have d0:=he;have e1:=(any_cod b).fwd x.at_ _ _ k1 d0;have d1:=drop_app d0;have e2:=(str_cod b).fwd x.name _ _ k2 d1;have d2:=drop_app d1;simp only [spotR,andR,e1,e2];simp only [spotB,List.length_append,Nat.add_assoc]
 bwd:=fun x p q he=>by
  simp only [spotR,andR] at he
  cases h1:anyR b p with
  | error e=>rw [h1] at he; cases he
  | ok y1=>
   obtain ⟨v1,q1⟩:=y1;rw [h1] at he;simp only at he;obtain ⟨e1,l1⟩:=(any_cod b).bwd _ _ _ h1
   cases h2:strR b q1 with
   | error e=>rw [h2] at he; cases he
   | ok y2=>
    obtain ⟨v2,q2⟩:=y2;rw [h2] at he;simp only at he;obtain ⟨e2,l2⟩:=(str_cod b).bwd _ _ _ h2;simp only [Except.ok.injEq,Prod.mk.injEq] at he;obtain ⟨rfl,rfl⟩:=he;refine ⟨?_,l2⟩;unfold spotB;simp only [List.append_assoc];rw [e1,e2]
theorem ins_cod (b:List UInt8):Cod b insB (insR b) (fun x=>Far x.op/\Far x.a/\Far x.b/\Far x.c) where
 fwd:=fun x p rest hok he=>by
  obtain ⟨k1,k2,k3,k4⟩:=hok;unfold insB at he;simp only [List.append_assoc] at he;have d0:=he;have e1:=(any_cod b).fwd x.op _ _ k1 d0;have d1:=drop_app d0;have e2:=(any_cod b).fwd x.a _ _ k2 d1;have d2:=drop_app d1;have e3:=(any_cod b).fwd x.b _ _ k3 d2;have d3:=drop_app d2;have e4:=(any_cod b).fwd x.c _ _ k4 d3;have d4:=drop_app d3;simp only [insR,andR,e1,e2,e3,e4];simp only [insB,List.length_append,Nat.add_assoc]
 bwd:=fun x p q he=>by
  simp only [insR,andR] at he
  cases h1:anyR b p with
  | error e=>rw [h1] at he; cases he
  | ok y1=>
   obtain ⟨v1,q1⟩:=y1;rw [h1] at he;simp only at he;obtain ⟨e1,l1⟩:=(any_cod b).bwd _ _ _ h1
   cases h2:anyR b q1 with
   | error e=>rw [h2] at he; cases he
   | ok y2=>
    obtain ⟨v2,q2⟩:=y2;rw [h2] at he;simp only at he;obtain ⟨e2,l2⟩:=(any_cod b).bwd _ _ _ h2
    cases h3:anyR b q2 with
    | error e=>rw [h3] at he; cases he
    | ok y3=>
     obtain ⟨v3,q3⟩:=y3;rw [h3] at he;simp only at he;obtain ⟨e3,l3⟩:=(any_cod b).bwd _ _ _ h3
     cases h4:anyR b q3 with
     | error e=>rw [h4] at he; cases he
     | ok y4=>
      obtain ⟨v4,q4⟩:=y4;rw [h4] at he;simp only at he;obtain ⟨e4,l4⟩:=(any_cod b).bwd _ _ _ h4;simp only [Except.ok.injEq,Prod.mk.injEq] at he;obtain ⟨rfl,rfl⟩:=he;refine ⟨?_,l4⟩;unfold insB;simp only [List.append_assoc];rw [e1,e2,e3,e4]
theorem tmpl_cod (b:List UInt8):Cod b tmplE (manyR b 100 (partR b)) (fun l=>(l.length:Int) <= 100/\∀ x ∈ l,Far x.kind/\x.text.size <= 1000/\Far x.n):=many_cod (part_cod b) (by decide)
theorem list_cod (b:List UInt8):Cod b listE (manyR b 10000 (itemR b)) (fun l=>(l.length:Int) <= 10000/\∀ x ∈ l,x.name.size <= 1000):=many_cod (item_cod b) (by decide)
theorem small_far {n:Int} (h:-1000000000 <= n/\n <= 1000000000):Far n:=by unfold Far far; omega
theorem dec_enc {c:CodeM} (h:SmallC c):decM (encM c) = .ok (c,(encM c).length):=by
 obtain ⟨n1,n2,n3,n4,n5,n6⟩:=h.num;have hE:encM c = 81 :: (numM c.consts.length ++ (c.consts.flatMap strM ++ (numM c.tmpls.length ++ (c.tmpls.flatMap tmplE ++ (numM c.lists.length ++ (c.lists.flatMap listE ++ (numM c.labels.length ++ (c.labels.flatMap spotB ++ (numM c.slots.length ++ (c.slots.flatMap strM ++ (numM c.ins.length ++ (c.ins.flatMap insB)))))))))))):=by
  unfold encM; simp only [List.append_assoc,List.cons_append,List.nil_append]
 generalize hb:encM c = b at hE;have hdec:decM b = andR (manyR b 3000 (strR b) 1) fun c1 p1=>andR (manyR b 3000 (manyR b 100 (partR b)) p1) fun c2 p2=>andR (manyR b 3000 (manyR b 10000 (itemR b)) p2) fun c3 p3=>
  andR (manyR b 3000 (spotR b) p3) fun c4 p4=>andR (manyR b 100 (strR b) p4) fun c5 p5=>andR (manyR b 12000 (insR b) p5) fun c6 p6=>
  if p6 < b.length then .error b.length else .ok ((⟨c1,c2,c3,c4,c5,c6⟩:CodeM),p6):=by rw [hE]; rfl
 have d0:b.drop 1 = (numM c.consts.length ++ c.consts.flatMap strM) ++ ((numM c.tmpls.length ++ c.tmpls.flatMap tmplE) ++ ((numM c.lists.length ++ c.lists.flatMap listE) ++ ((numM c.labels.length ++ c.labels.flatMap spotB) ++ ((numM c.slots.length ++ c.slots.flatMap strM) ++ ((numM c.ins.length ++ c.ins.flatMap insB) ++ []))))):=by
  conv=>lhs; arg 2; rw [hE]
  simp only [List.drop_succ_cons,List.drop_zero,List.append_assoc,List.append_nil]
 have e1:=(many_cod (str_cod b) (top:=3000) (by decide)).fwd c.consts 1 _ ⟨by omega,h.consts⟩ d0;have d1:=drop_app d0;have e2:=(many_cod (tmpl_cod b) (top:=3000) (by decide)).fwd c.tmpls _ _ ⟨by omega,fun l hl=>⟨by have:=(h.tmpls l hl).1; omega,fun p hp=>by
  have:=part_small ((h.tmpls l hl).2 p hp);exact ⟨small_far (by omega),by omega,small_far (by omega)⟩⟩⟩ d1
 have d2:=drop_app d1;have e3:=(many_cod (list_cod b) (top:=3000) (by decide)).fwd c.lists _ _ ⟨by omega,fun l hl=>⟨by have:=(h.lists l hl).1; omega,fun p hp=>by have:=(h.lists l hl).2 p hp; omega⟩⟩ d2;have d3:=drop_app d2;have e4:=(many_cod (spot_cod b) (top:=3000) (by decide)).fwd c.labels _ _ ⟨by omega,fun s hs=>by
  have:=h.labels s hs;exact ⟨small_far (by omega),this.2⟩⟩ d3
 have d4:=drop_app d3;have e5:=(many_cod (str_cod b) (top:=100) (by decide)).fwd c.slots _ _ ⟨by omega,fun s hs=>by have:=h.slots s hs; omega⟩ d4;have d5:=drop_app d4;have e6:=(many_cod (ins_cod b) (top:=12000) (by decide)).fwd c.ins _ _ ⟨by omega,fun i hi=>by
  have:=h.ins i hi;exact ⟨small_far (by omega),small_far (by omega),small_far (by omega),small_far (by omega)⟩⟩ d5
 have d6:=drop_app d5;have hlen:=List.drop_eq_nil_iff.1 d6;rw [hdec];simp only [andR,e1,e2,e3,e4,e5,e6];rw [if_neg (by omega)];have hle:1 + (numM c.consts.length ++ c.consts.flatMap strM).length + (numM c.tmpls.length ++ c.tmpls.flatMap tmplE).length + (numM c.lists.length ++ c.lists.flatMap listE).length + (numM c.labels.length ++ c.labels.flatMap spotB).length + (numM c.slots.length ++ c.slots.flatMap strM).length + (numM c.ins.length ++ c.ins.flatMap insB).length = b.length:=by
  have:=congrArg List.length hE;simp only [List.length_cons,List.length_append] at this ⊢;omega
 exact congrArg _ (Prod.ext rfl hle)
theorem enc_dec {b:List UInt8} {c:CodeM} {q:Nat} (h:decM b = .ok (c,q)):encM c = b:=by
 cases b with
 | nil=>cases h
 | cons x tl=>
  have hdec:decM (x :: tl) = if x ≠ 81 then .error 0 else andR (manyR (x :: tl) 3000 (strR (x :: tl)) 1) fun c1 p1=>andR (manyR (x :: tl) 3000 (manyR (x :: tl) 100 (partR (x :: tl))) p1) fun c2 p2=>andR (manyR (x :: tl) 3000 (manyR (x :: tl) 10000 (itemR (x :: tl))) p2) fun c3 p3=>
   andR (manyR (x :: tl) 3000 (spotR (x :: tl)) p3) fun c4 p4=>andR (manyR (x :: tl) 100 (strR (x :: tl)) p4) fun c5 p5=>andR (manyR (x :: tl) 12000 (insR (x :: tl)) p5) fun c6 p6=>
   if p6 < (x :: tl).length then .error (x :: tl).length else .ok ((⟨c1,c2,c3,c4,c5,c6⟩:CodeM),p6):=rfl
  have hb1:(x :: tl).drop 1 = tl:=rfl;have hb0:x :: tl = [x] ++ (x :: tl).drop 1:=rfl;generalize hb:x :: tl = b at h hdec hb1 hb0;rw [hdec] at h
  split at h
  ·cases h
  ·rename_i hx
   have hx:x = 81:=Decidable.byContradiction hx;subst hx;simp only [andR] at h
   cases h1:manyR b 3000 (strR b) 1 with
   | error e=>rw [h1] at h; cases h
   | ok y1=>
    obtain ⟨c1,q1⟩:=y1;rw [h1] at h;simp only at h;obtain ⟨e1,_⟩:=(many_cod (str_cod b) (top:=3000) (by decide)).bwd _ _ _ h1
    cases h2:manyR b 3000 (manyR b 100 (partR b)) q1 with
    | error e=>rw [h2] at h; cases h
    | ok y2=>
     obtain ⟨c2,q2⟩:=y2;rw [h2] at h;simp only at h;obtain ⟨e2,_⟩:=(many_cod (tmpl_cod b) (top:=3000) (by decide)).bwd _ _ _ h2
     cases h3:manyR b 3000 (manyR b 10000 (itemR b)) q2 with
     | error e=>rw [h3] at h; cases h
     | ok y3=>
      obtain ⟨c3,q3⟩:=y3;rw [h3] at h;simp only at h;obtain ⟨e3,_⟩:=(many_cod (list_cod b) (top:=3000) (by decide)).bwd _ _ _ h3
      cases h4:manyR b 3000 (spotR b) q3 with
      | error e=>rw [h4] at h; cases h
      | ok y4=>
       obtain ⟨c4,q4⟩:=y4;rw [h4] at h;simp only at h;obtain ⟨e4,_⟩:=(many_cod (spot_cod b) (top:=3000) (by decide)).bwd _ _ _ h4
       cases h5:manyR b 100 (strR b) q4 with
       | error e=>rw [h5] at h; cases h
       | ok y5=>
        obtain ⟨c5,q5⟩:=y5;rw [h5] at h;simp only at h;obtain ⟨e5,_⟩:=(many_cod (str_cod b) (top:=100) (by decide)).bwd _ _ _ h5
        cases h6:manyR b 12000 (insR b) q5 with
        | error e=>rw [h6] at h; cases h
        | ok y6=>
         obtain ⟨c6,q6⟩:=y6;rw [h6] at h;simp only at h;obtain ⟨e6,l6⟩:=(many_cod (ins_cod b) (top:=12000) (by decide)).bwd _ _ _ h6
         split at h
         ·cases h
         ·rename_i hlt
          simp only [Except.ok.injEq,Prod.mk.injEq] at h;obtain ⟨rfl,rfl⟩:=h;rw [List.drop_of_length_le (by omega:b.length <= q6)] at e6;unfold encM;rw [hb0,e1,e2,e3,e4,e5,e6];simp only [List.append_assoc,List.append_nil]
end
section
open Go Q Go.RowKit
theorem retKP_mono {K K':Value->World->Prop} {Pn Pn':PnT} (hk:∀ v w,K v w->K' v w) (hp:∀ c w,Pn c w->Pn' c w):∀ e w,retKP K Pn e w->retKP K' Pn' e w
 | .returned v,w,h=>hk _ _ h
 | .panicked c,w,h=>hp _ _ h
 | .outgrown,_,h=>h.elim
theorem CVP_mono {f:Value} {args:Array Value} {w:World} {K K':Value->World->Prop} {Pn Pn':PnT} (h:CVP Pn f args w K) (hk:∀ v w,K v w->K' v w) (hp:∀ c w,Pn c w->Pn' c w):CVP Pn' f args w K':=by
 unfold CVP CallVP at h ⊢
 split at h
 ·exact hk _ _ h
 ·exact Calls.mono h (retKP_mono hk hp)
 ·exact RoundIn.mono h (retKP_mono hk hp)
 ·exact h.elim
theorem CVP_may {f:Value} {args:Array Value} {w:World} {K:Value->World->Prop} {Pn:PnT} (h:CV f args w K):CVP Pn f args w K:=CallV.may h
theorem PanW_intro {Pn:PnT} {t:TypeId} {v:Value} {w:World} (h:Pn [{ v:=.iface t v,recovered:=false }] w):PanW Pn (.iface t v) w:=⟨t,v,rfl,h⟩
def FnP (f:FuncId) (args:Array Value) (z:Z) (B:Bl) (w:World) (R:Z->Bl->Value->Prop) (G:Z->Bl->List PanicEntry->Prop):Prop:=
 Own w z B->Calls Tryz.prog f args w (retKP (fun v w'=>∃ z' B',Res w z B w' z' B'/\R z' B' v) (fun c w'=>∃ z' B',Res w z B w' z' B'/\G z' B' c))
def VaP (f:Value) (args:Array Value) (z:Z) (B:Bl) (w:World) (R:Z->Bl->Value->Prop) (G:Z->Bl->List PanicEntry->Prop):Prop:=
 Own w z B->CVP (fun c w'=>∃ z' B',Res w z B w' z' B'/\G z' B' c) f args w (fun v w'=>∃ z' B',Res w z B w' z' B'/\R z' B' v)
theorem CVP_enter {f:FuncId} [he:Enters f] {first args cap args':Array Value} {w:World} {K:Value->World->Prop} {Pn:PnT} (ha:first ++ args ++ cap = args') (h:Calls Tryz.prog f args' w (retKP K Pn)) :
  CVP Pn (.func (.func f) first cap) args w K:=by
 subst ha;have:(callSem (.func (.func f) first cap) args).run Tryz.prog w = .ok (.enter f (first ++ args ++ cap)) w:=by
  simp only [callSem,Deferred.ofValue,pure_bind,invoke];exact he.h _ _
 unfold CVP CallVP;rw [this];exact h
section
variable {w0 w:World} {z0 z:Z} {B0 B L F:Bl} {f:FuncId} {args args' first cap:Array Value} {K:Value->World->Prop} {Pn:PnT} {R:Z->Bl->Value->Prop} {G:Z->Bl->List PanicEntry->Prop}
theorem CVP_fn [Enters f] (hS:Res w0 z0 B0 w z (B ++ F)) (h:FnP f args' z B w R G) (ha:first ++ args ++ cap = args') (hK:∀ z' B' w' v,Le z z'->Res w0 z0 B0 w' z' (B' ++ F)->R z' B' v->K v w')
  (hP:∀ z' B' w' c,Le z z'->Res w0 z0 B0 w' z' (B' ++ F)->G z' B' c->Pn c w'):CVP Pn (.func (.func f) first cap) args w K:=by
 refine CVP_enter ha ?_;refine Calls.mono (h hS.own) (retKP_mono ?_ ?_)
 ·rintro v w' ⟨z',B',h1,h2⟩
  exact hK z' B' w' v h1.zle (hS.step h1) h2
 ·rintro c w' ⟨z',B',h1,h2⟩
  exact hP z' B' w' c h1.zle (hS.step h1) h2
theorem CVP_va {g:Value} (hS:Res w0 z0 B0 w z (B ++ F)) (h:VaP g args z B w R G) (hK:∀ z' B' w' v,Le z z'->Res w0 z0 B0 w' z' (B' ++ F)->R z' B' v->K v w')
  (hP:∀ z' B' w' c,Le z z'->Res w0 z0 B0 w' z' (B' ++ F)->G z' B' c->Pn c w'):CVP Pn g args w K:=by
 refine CVP_mono (h hS.own) ?_ ?_
 ·rintro v w' ⟨z',B',h1,h2⟩
  exact hK z' B' w' v h1.zle (hS.step h1) h2
 ·rintro c w' ⟨z',B',h1,h2⟩
  exact hP z' B' w' c h1.zle (hS.step h1) h2
theorem FnP.va [Enters f] (h:FnP f args' z B w R G) (ha:first ++ args ++ cap = args'):VaP (.func (.func f) first cap) args z B w R G:=
 fun ho=>CVP_enter ha (h ho)
theorem FnP.intro (h:Res w z B w z B->Calls Tryz.prog f args w (retKP (fun v w'=>∃ z' B',Res w z B w' z' B'/\R z' B' v) (fun c w'=>∃ z' B',Res w z B w' z' B'/\G z' B' c))):FnP f args z B w R G:=fun ho=>h ho
end
end
section
open Go Q Go.RowKit
theorem Fn.mono {f:FuncId} {args:Array Value} {z:Z} {B:Bl} {w:World} {R R':Z->Bl->Value->Prop} (h:Fn f args z B w R) (hr:∀ z' B' v,R z' B' v->R' z' B' v):Fn f args z B w R':=
 fun ho=>(h ho).mono (retK.mono fun v w' ⟨z',B',h1,h2⟩=>⟨z',B',h1,hr _ _ _ h2⟩)
theorem FnP.mono {f:FuncId} {args:Array Value} {z:Z} {B:Bl} {w:World} {R R':Z->Bl->Value->Prop} {G G':Z->Bl->List PanicEntry->Prop} (h:FnP f args z B w R G) (hr:∀ z' B' v,R z' B' v->R' z' B' v) (hg:∀ z' B' c,G z' B' c->G' z' B' c):FnP f args z B w R' G':=
 fun ho=>Calls.mono (h ho) (retKP_mono (fun v w' ⟨z',B',h1,h2⟩=>⟨z',B',h1,hr _ _ _ h2⟩) (fun c w' ⟨z',B',h1,h2⟩=>⟨z',B',h1,hg _ _ _ h2⟩))
theorem CVP_pu {w0 w:World} {z0 z:Z} {B0 L:Bl} {K:Value->World->Prop} {Pn:PnT} [hS:Res w0 z0 B0 w z L] {f:FuncId} [Enters f] {args:Array Value} {v:Value} [g:Pu f args v] (hk:∀ z' w',Le z z'->Res w0 z0 B0 w' z' L->K v w'):CVP Pn (.func (.func f) #[] #[]) args w K:=
 CVP_may (CV_pu hk)
section
variable {w0 w:World} {z0 z z':Z} {B0 B L:Bl} {α:Type} {E:El α} {us cs:List Value} {xs:List α} {x:α}
structure Lsl (E:El α) (z:Z) (us:List Value) (xs:List α):Prop where
 len:us.length = xs.length * E.size
 at_:∀ (i:Nat) (x:α),xs[i]? = some x->∃ cs,E.rel z cs x/\∀ (j:Nat) (v:Value),cs[j]? = some v->us[i * E.size + j]? = some v
theorem Lsl.nil:Lsl E z [] []:=⟨by simp,fun i x h=>by simp at h⟩
theorem Lsl.mono (h:Lsl E z us xs) (hz:Le z z'):Lsl E z' us xs:=⟨h.len,fun i x hx=>let ⟨cs,h1,h2⟩:=h.at_ i x hx; ⟨cs,E.mono h1 hz,h2⟩⟩
theorem Lsl.push (h:Lsl E z us xs) (hx:E.rel z cs x):Lsl E z (us ++ cs) (xs ++ [x]):=by
 have hc:=E.len hx;refine ⟨by rw [List.length_append,List.length_append,h.len,hc,Nat.add_mul]; simp,fun i y hy=>?_⟩
 by_cases hi:i < xs.length
 ·rw [List.getElem?_append_left hi] at hy
  obtain ⟨ds,h1,h2⟩:=h.at_ i y hy;refine ⟨ds,h1,fun j v hv=>?_⟩;have:=h2 j v hv;rw [List.getElem?_append_left (List.getElem?_eq_some_iff.1 this).1];exact this
 ·have hle:xs.length <= i:=by omega
  rw [List.getElem?_append_right hle] at hy;have hi0:i = xs.length:=by
   have:=(List.getElem?_eq_some_iff.1 hy).1;simp at this;omega
  subst hi0;simp only [Nat.sub_self,List.getElem?_cons_zero,Option.some.injEq] at hy;subst hy;refine ⟨cs,hx,fun j v hv=>?_⟩;rw [List.getElem?_append_right (by rw [h.len]; omega),h.len,Nat.add_sub_cancel_left];exact hv
theorem Res.freezeL {e:Nat} {v:Value} (hS:Res w0 z0 B0 w z (B ++ L)) (ho:OwnSl e E.size B v xs.length us) (hl:Lsl E z us xs) (hb:xs.length <= big):∃ z',Le z z'/\Res w0 z0 B0 w z' L/\SlR E z' v xs:=by
 rcases ho.2 with ⟨rfl,rfl,h0⟩ | ⟨b,cap,sp,rfl,rfl,h1,h2,h3⟩
 ·have:xs = []:=List.eq_nil_of_length_eq_zero h0
  subst this;exact ⟨z,Le.refl _,hS,SlR.nil⟩
 ·refine ⟨_,Res.freeze_le hS,Res.freeze hS,some ⟨b,0,none⟩,cap,rfl,h1,hb,fun _=>⟨b,0,rfl,fun j x hx=>?_⟩⟩
  obtain ⟨cs,g1,g2⟩:=hl.at_ j x hx;refine ⟨cs,E.mono g1 (Res.freeze_le hS),_,_,_,if_pos rfl,fun q v hv=>?_⟩;have:=g2 q v hv;simp only [Nat.zero_add,List.getElem?_toArray];rw [List.getElem?_append_left (List.getElem?_eq_some_iff.1 this).1];exact this
end
theorem OwnSl.room {e size n:Nat} {B:Bl} {v:Value} {xs:List Value} (h:OwnSl e size B v n xs):∃ a cap,v = .slice a n cap/\n <= cap:=h.form
instance {t e n len cap b off:Nat} {l h:Int} {k k':IntKind} [g:TySlice t e n] [hl:InR l (h + 1)] [hr:InR h (cap + 1)]:Run (sl t (.slice (some ⟨b,off,none⟩) len cap) (some (.int k l)) (some (.int k' h)) none) (.slice (some ⟨b,if cap = l.toNat then off else off + l.toNat * n,none⟩) (h.toNat - l.toNat) (cap - l.toNat)):=⟨fun w=>by
 have h1:l <= h:=by have:=hl.h1; omega
 have h2:h <= cap:=by have:=hr.h1; omega
 have hh:((h.toNat:Nat):Int) = h:=Int.toNat_of_nonneg hr.h0;simp only [sl,Instr.sliceAt,Sem.run_bind,g.und,Result.andThen_ok,Instr.slice,Instr.sliceBounds,run_pure,Instr.sliceBound,asIntOf,pure_bind,hl.h0,hr.h0,h1,h2,hh,and_self,if_true,g.size,Option.map_some,add_addr,Option.isSome_none,Bool.false_eq_true,if_false]
 split <;> rfl⟩
theorem SlR.sub {α:Type} {E:El α} {z:Z} {b off cap l h s:Nat} {xs:List α} (hx:SlR E z (.slice (some ⟨b,off,none⟩) xs.length cap) xs) (hs:E.size = s) (hl:l <= h) (hh:h <= xs.length) :
  SlR E z (.slice (some ⟨b,if cap = l then off else off + l * s,none⟩) (h - l) (cap - l)) ((xs.drop l).take (h - l)):=
 SlR.take (hx.drop hs (by omega)) (by rw [List.length_drop]; omega)
class TyIf (t:TypeId):Prop where
 und:∃ ms,Tryz.prog.underlying t = some (.interface ms)
theorem TyIf.of {t:TypeId} (h:(match Tryz.prog.underlying t with | some (.interface _)=>true | _=>false) = true):TyIf t:=⟨by
 split at h
 ·rename_i ms hu; exact ⟨ms,hu⟩
 ·cases h⟩
theorem equalIn_if {d t u:Nat} {v:Value} (g:TyIf t) (w:World):(Op.equalIn (d + 1) t (.iface u v) .nilIface).run Tryz.prog w = .ok false w:=by
 obtain ⟨ms,h⟩:=g.und;unfold Op.equalIn;simp only [Sem.run_bind,run_underlying h,Result.andThen_ok]
 rfl
theorem equalIn_no {d t:Nat} (g:TyIf t) (w:World):(Op.equalIn (d + 1) t .nilIface .nilIface).run Tryz.prog w = .ok true w:=by
 obtain ⟨ms,h⟩:=g.und;unfold Op.equalIn;simp only [Sem.run_bind,run_underlying h,Result.andThen_ok]
 rfl
theorem neq_if {t u:Nat} {x:Operand} {v:Value} (g:TyIf t) (w:World):(eq .neq t x (.const .nilIface) (.iface u v) .nilIface).run Tryz.prog w = .ok (.bool true) w:=by
 have h:(Op.equalIn Op.maxDepth t (.iface u v) .nilIface).run Tryz.prog w = .ok false w:=equalIn_if (d:=9999) g w;simp only [eq,eqGuard,binOp,Op.equal,Sem.run_bind,Bool.not_true,Bool.false_eq_true,if_false,Bool.or_true,if_true,run_pure,Result.andThen_ok,ite_self,h]
 rfl
theorem neq_no {t:Nat} {x:Operand} (g:TyIf t) (w:World):(eq .neq t x (.const .nilIface) .nilIface .nilIface).run Tryz.prog w = .ok (.bool false) w:=by
 have h:(Op.equalIn Op.maxDepth t .nilIface .nilIface).run Tryz.prog w = .ok true w:=equalIn_no (d:=9999) g w;simp only [eq,eqGuard,binOp,Op.equal,Sem.run_bind,Bool.not_true,Bool.false_eq_true,if_false,Bool.or_true,if_true,run_pure,Result.andThen_ok,ite_self,h]
theorem eql_if {t u:Nat} {x:Operand} {v:Value} (g:TyIf t) (w:World):(eq .eql t x (.const .nilIface) (.iface u v) .nilIface).run Tryz.prog w = .ok (.bool false) w:=by
 have h:(Op.equalIn Op.maxDepth t (.iface u v) .nilIface).run Tryz.prog w = .ok false w:=equalIn_if (d:=9999) g w;simp only [eq,eqGuard,binOp,Op.equal,Sem.run_bind,Bool.not_true,Bool.false_eq_true,if_false,Bool.or_true,if_true,run_pure,Result.andThen_ok,ite_self,h]
theorem eql_no {t:Nat} {x:Operand} (g:TyIf t) (w:World):(eq .eql t x (.const .nilIface) .nilIface .nilIface).run Tryz.prog w = .ok (.bool true) w:=by
 have h:(Op.equalIn Op.maxDepth t .nilIface .nilIface).run Tryz.prog w = .ok true w:=equalIn_no (d:=9999) g w;simp only [eq,eqGuard,binOp,Op.equal,Sem.run_bind,Bool.not_true,Bool.false_eq_true,if_false,Bool.or_true,if_true,run_pure,Result.andThen_ok,ite_self,h]
theorem ta_own {t u:Nat} {v:Value} (h:(match Tryz.prog.underlying u with | some (.interface _)=>false | some _=>true | none=>false) = true) (w:World):(ta (.iface u v) t u true).run Tryz.prog w = .ok (.tuple [v,.bool true].toArray) w:=by
 split at h
 ·cases h
 ·rename_i d hn hu
  simp only [ta,Instr.typeAssert,Sem.run_bind,run_underlying hu,Result.andThen_ok]
  cases d <;> first | (exact absurd rfl (hn _)) | simp [Sem.run]
 ·cases h
theorem shl_ok {t:Nat} {a c:Int} (h0:0 <= c) (h1:c <= 64) (w:World):(bi .shl t (.int .i64 a) (.int .i64 c)).run Tryz.prog w = .ok (.int .i64 (IntKind.i64.wrap (a * 2 ^ c.toNat))) w:=by
 simp only [bi,binOp,Op.shift];rw [if_neg (by omega)];have:min c.toNat IntKind.i64.bits = c.toNat:=by
   have:IntKind.i64.bits = 64:=rfl;omega
 simp only [this]
 rfl
theorem orI_ok {t:Nat} {a b:Int} (w:World):(bi .or t (.int .i64 a) (.int .i64 b)).run Tryz.prog w = .ok (.int .i64 (bits .or .i64 a b)) w:=rfl
theorem or_add {m y k:Nat} (hm:m < 2 ^ k) (hs:m + y * 2 ^ k < 2 ^ 63):bits .or .i64 (m:Int) ((y * 2 ^ k:Nat):Int) = ((m + y * 2 ^ k:Nat):Int):=by
 have h1:(BitVec.ofInt 64 (m:Int)).toNat = m:=by rw [BitVec.toNat_ofInt]; omega
 have h2:(BitVec.ofInt 64 ((y * 2 ^ k:Nat):Int)).toNat = y * 2 ^ k:=by rw [BitVec.toNat_ofInt]; omega
 have key:(BitVec.ofInt 64 (m:Int) ||| BitVec.ofInt 64 ((y * 2 ^ k:Nat):Int)).toNat = m + y * 2 ^ k:=by
  rw [BitVec.toNat_or,h1,h2,Nat.or_comm,<- Nat.shiftLeft_eq,<- Nat.shiftLeft_add_eq_or_of_lt hm];omega
 show IntKind.i64.wrap ((BitVec.ofInt 64 (m:Int) ||| BitVec.ofInt 64 ((y * 2 ^ k:Nat):Int)).toNat:Nat) = _
 rw [key];exact wrap_in (by unfold inI; omega)
end
section
open Go Q Go.RowKit
def preB (s p:ByteArray):Bool:=bif decide ((s.size:Int) ≥ p.size) then decide (s.extract 0 p.size = p) else false
instance {s p:ByteArray}:Pu 267 #[.string s,.string p] (.bool (preB s p)):=⟨fun z w=>Fn1.intro fun hS=>en267 (by
 unfold vc267;refine V_run ?_;refine V_run ?_;refine V_run ?_;intro K0 hK0;refine Cond_d (fun h=>?_) (fun h=>?_)
 ·haveI:InR (p.size:Int) ((s.size:Int) + 1):=⟨by omega,by omega⟩
  (repeat (refine V_run ?_));refine hK0 _ _ fun _=>?_
  exact ⟨_,_,‹_›,by unfold preB; rw [decide_eq_true h]; simp⟩
 ·refine hK0 _ _ fun _=>?_
  exact ⟨_,_,‹_›,by unfold preB; rw [decide_eq_false h]; rfl⟩)⟩
instance {s p:ByteArray}:Pu 239 #[.string s,.string p] (.bool (preB s p)):=⟨fun z w=>Fn1.intro fun hS=>en239 (by
 unfold vc239;(repeat (refine CV_pu ?_; intro _ _ _ _));exact ⟨_,_,‹_›,rfl⟩)⟩
theorem preB_size {s p:ByteArray} (h:preB s p = true):p.size <= s.size:=by
 unfold preB at h
 by_cases hh:(s.size:Int) ≥ p.size
 ·omega
 ·rw [decide_eq_false hh] at h; cases h
def cutPre (s p:ByteArray):Value:=if preB s p = true then .tuple #[.string (s.extract p.size s.size),.bool true] else .tuple #[.string s,.bool false]
instance {s p:ByteArray}:Pu 269 #[.string s,.string p] (cutPre s p):=⟨fun z w=>Fn1.intro fun hS=>en269 (by
 unfold vc269;(repeat (first | refine V_run ?_ | (refine CV_pu ?_; intro _ _ _ _)));refine Cond_n (fun h=>?_) (fun h=>?_)
 ·exact ⟨_,_,‹_›,by unfold cutPre; rw [if_neg (by rw [h]; simp)]⟩
 ·have:=preB_size h
  haveI:InR (p.size:Int) ((s.size:Int) + 1):=⟨by omega,by omega⟩
  (repeat (refine V_run ?_));exact ⟨_,_,‹_›,by unfold cutPre; rw [if_pos h]; simp⟩)⟩
instance {s p:ByteArray}:Pu 241 #[.string s,.string p] (cutPre s p):=⟨fun z w=>Fn1.intro fun hS=>en241 (by
 unfold vc241;refine CV_pu ?_;intro z1 w1 hz1 hS1;unfold cutPre
 split
 ·(repeat (refine V_run ?_))
  exact ⟨_,_,‹_›,rfl⟩
 ·(repeat (refine V_run ?_))
  exact ⟨_,_,‹_›,rfl⟩)⟩
def trimP (s p:ByteArray):ByteArray:=if preB s p = true then s.extract p.size s.size else s
instance {s p:ByteArray}:Pu 273 #[.string s,.string p] (.string (trimP s p)):=⟨fun z w=>Fn1.intro fun hS=>en273 (by
 unfold vc273;(repeat (refine CV_pu ?_; intro _ _ _ _));refine Cond_b (fun h=>?_) (fun h=>?_)
 ·have:=preB_size h
  haveI:InR (p.size:Int) ((s.size:Int) + 1):=⟨by omega,by omega⟩
  (repeat (refine V_run ?_));exact ⟨_,_,‹_›,by unfold trimP; rw [if_pos h]; simp⟩
 ·exact ⟨_,_,‹_›,by unfold trimP; rw [if_neg (by rw [h]; simp)]⟩)⟩
instance {s p:ByteArray}:Pu 244 #[.string s,.string p] (.string (trimP s p)):=⟨fun z w=>Fn1.intro fun hS=>en244 (by
 unfold vc244;(repeat (refine CV_pu ?_; intro _ _ _ _));exact ⟨_,_,‹_›,rfl⟩)⟩
def cutSuf (s:ByteArray) (c:UInt8):Value:=if lastB s c = true then .tuple #[.string (s.extract 0 (s.size - 1)),.bool true] else .tuple #[.string s,.bool false]
theorem lastB_pos {s:ByteArray} {c:UInt8} (h:lastB s c = true):0 < s.size:=by
 unfold lastB at h;have h:=of_decide_eq_true h;rw [size_bytes]
 cases hb:bytes s with
 | nil=>rw [hb] at h; cases h
 | cons x l=>simp
instance {s:ByteArray} {c:UInt8} [hs:Sm s]:Pu 270 #[.string s,.string (b1 c)] (cutSuf s c):=⟨fun z w=>Fn1.intro fun hS=>en270 (by
 unfold vc270;(repeat (first | refine V_run ?_ | (refine CV_pu ?_; intro _ _ _ _)));refine Cond_n (fun h=>?_) (fun h=>?_)
 ·exact ⟨_,_,‹_›,by unfold cutSuf; rw [if_neg (by rw [h]; simp)]⟩
 ·have h0:=lastB_pos h
  have h1:(b1 c).size = 1:=rfl;have hsm:=hs.h;simp only [big] at hsm;simp only [h1];haveI:InI ((s.size:Int) - ((1:Nat):Int)):=⟨by omega⟩
  haveI:InR ((s.size:Int) - ((1:Nat):Int)) ((s.size:Int) + 1):=⟨by omega,by omega⟩
  (repeat (refine V_run ?_));exact ⟨_,_,‹_›,by unfold cutSuf; rw [if_pos h,show ((s.size:Int) - 1).toNat = s.size - 1 by omega]⟩)⟩
instance {s:ByteArray} {c:UInt8} [hs:Sm s]:Pu 242 #[.string s,.string (b1 c)] (cutSuf s c):=⟨fun z w=>Fn1.intro fun hS=>en242 (by
 unfold vc242;refine CV_pu ?_;intro z1 w1 hz1 hS1;unfold cutSuf
 split
 ·(repeat (refine V_run ?_))
  exact ⟨_,_,‹_›,rfl⟩
 ·(repeat (refine V_run ?_))
  exact ⟨_,_,‹_›,rfl⟩)⟩
theorem writeByte {b:Nat} {B:Bl} {xs:List Value} {c:UInt8} {z:Z} {w:World} (hB:BuOk b B xs) (hn:xs.length + 1 <= room) :
  Fn 268 #[.pointer (some ⟨b,0,none⟩),.int .u8 c.toNat] z B w fun _ B' r=>BuOk b B' (xs ++ [.int .u8 c.toNat])/\r = .nilIface:=Fn.intro fun hS=>en268 (by
 unfold vc268;obtain ⟨p,v,Bb,rfl,hp,ho⟩:=hB.h;refine CV_fn (B:=[(b,buO p v)]) (F:=Bb) hS (copyCheck hp) (by simp) ?_;rintro z1 B1 w1 v1 hz1 hS1 ⟨rfl,rfl⟩
 obtain ⟨a,cap,rfl,hcap⟩:=ho.form;have hS1':Res w z _ w1 z1 ((b,buO (some ⟨b,0,none⟩) (.slice a xs.length cap)) :: Bb):=hS1;clear hS1;(repeat (first | refine V_run ?_ | refine iV_ld1 ?_));refine V_push hS1' ho (by simp only [room] at hn ⊢; omega) (by omega) (by omega) ?_;intro B' v' w2 ho' hS3;obtain ⟨a',cap',rfl,hcap'⟩:=ho'.form;clear hS1';(repeat (first | refine V_run ?_ | (refine iU_st ?_; intro _ _)));rename_i hSe;refine ⟨_,_,(hSe.bringB b),⟨_,_,_,rfl,.inr rfl,?_⟩,rfl⟩;rw [show (xs ++ [Value.int .u8 (c.toNat:Int)]).length = xs.length + 1 by simp]
 simpa using ho')
end
section
open Go Q Go.RowKit
theorem bt_get {s:ByteArray} {k:Nat} {c:UInt8} (h:(bytes s)[k]? = some c):bt s (k:Int) = (c.toNat:Int):=by
 unfold bt;rw [Int.toNat_natCast,List.getD_eq_getElem?_getD,show s.data.toList[k]? = some c from h]
 rfl
theorem u8_eq {c d:UInt8}:((c.toNat:Int) = (d.toNat:Int)) ↔ c = d:=by
 constructor
 ·intro h; exact UInt8.toNat_inj.1 (by omega)
 ·rintro rfl; rfl
def litS:Bool->List UInt8->List UInt8->Option (List UInt8 × List UInt8)
 | false,_,[]=>none
 | true,acc,[]=>some (acc,[])
 | false,acc,c :: t=>if c = 34 then litS true acc t else litS false (acc ++ [c]) t
 | true,acc,c :: t=>if c = 34 then litS false (acc ++ [34]) t else some (acc,c :: t)
abbrev strL (l:List UInt8):Value:=.string ⟨l.toArray⟩
def litV:Option (List UInt8 × List UInt8)->Value
 | none=>.tuple #[.string ⟨#[]⟩,.string ⟨#[]⟩,.bool false]
 | some (a,r)=>.tuple #[strL a,strL r,.bool true]
theorem ext_drop {s:ByteArray} {k:Nat}:s.extract k s.size = ⟨((bytes s).drop k).toArray⟩:=by
 apply ByteArray.ext
 apply Array.toList_inj.1
 have:=bytes_from s k;rw [List.toList_toArray];exact this
theorem literal_of {z:Z} {w:World} {s:ByteArray} (hs:s.size <= 1000000):Fn1 240 #[.string s] z w fun _ r=>r = litV (litS false [] ((bytes s).drop 1)):=Fn1.intro fun hS=>en240 (by
 unfold vc240;generalize hRR:(fun (v:Value) (w':World)=>∃ z' L',Res w z [] w' z' L'/\v = litV (litS false [] ((bytes s).drop 1))) = RR;have hR:∀ z' w' L' r,Res w z [] w' z' L'->r = litV (litS false [] ((bytes s).drop 1))->RR r w':=fun z' w' L' r k e=>by rw [<- hRR]; exact ⟨_,_,k,e⟩
 clear hRR;generalize hX:litS false [] ((bytes s).drop 1) = X at hR;refine iV_al ?_;intro bb w1 hbb hS1;clear hS;have hB0:BuOk bb [(bb,buO none (.slice none 0 0))] (Lib.byteCells []):=BuOk.new;have hsl:s.size = (bytes s).length:=size_bytes s;refine LoopG1 (fun (p:Nat × List UInt8) x w'=>x = .int .i64 p.1/\p.2.length <= p.1/\p.1 <= s.size + 1/\litS false p.2 ((bytes s).drop p.1) = X/\∃ B' z',Le z z'/\BuOk bb B' (Lib.byteCells p.2)/\Res w z [] w' z' B') (fun p=>s.size + 1 - p.1) (1,[]) ⟨rfl,Nat.zero_le _,by omega,hX,_,z,Le.refl _,hB0,hS1⟩ ?_;rintro I M ⟨k,acc⟩ x w2 m ⟨rfl,hal,hk,he,B2,z2,hz2,hB2,hS2⟩ back
 simp only at hal hk he hB2;dsimp only;clear hS1 hB0 hX;refine V_run ?_;refine V_run ?_;refine Cond_d (fun h=>?_) (fun h=>?_)
 ·have hlt:k < s.size:=by omega
  have hlt':k < (bytes s).length:=by omega
  have hc:(bytes s)[k]? = some (bytes s)[k]:=List.getElem?_eq_getElem hlt';rw [List.drop_eq_getElem_cons hlt'] at he;generalize (bytes s)[k] = c at hc he;haveI:InStr s (k:Int):=⟨by omega,by omega⟩
  haveI:InI ((k:Int) + 1):=⟨by omega⟩
  intro K0 hK0;have mk:∀ (j:Nat) acc' w' z' B',acc'.length <= j + 1->k <= j->j < s.size->litS false acc' ((bytes s).drop (j + 1)) = X->Le z z'->BuOk bb B' (Lib.byteCells acc')->Res w z [] w' z' B'->K0 [.int .i64 j] w':=by
   intro j acc' w' z' B' h1 h2 h3 h4 h5 h6 h7;refine hK0 _ _ fun _=>?_
   haveI:InI ((j:Int) + 1):=⟨by omega⟩
   refine V_run ?_;exact back (j + 1,acc') _ _ ⟨by simp,h1,by simp only; omega,h4,B',z',h5,h6,h7⟩ (by simp only; omega)
  clear hK0 back;have fin:∀ w' z' B',Le z z'->BuOk bb B' (Lib.byteCells acc)->Res w z [] w' z' B'->X = some (acc,(bytes s).drop (k + 1))->Dr w' fun w=>PV (bi .add 3 (.int .i64 (k:Nat)) (.int .i64 1)) fun t39=>PV (sl 9 (.string s) (some t39) none none) fun t40=>
    CV (.func (.func 132) #[] #[]) #[.pointer (some ⟨bb,0,none⟩)] w fun t36 w=>RR (.tuple #[t36,t40,.bool true]) w:=by
   intro w' z' B' hz' hB' hS' hX;haveI:InR ((k:Int) + 1) ((s.size:Int) + 1):=⟨by omega,by omega⟩
   (repeat (first | (refine iDr ?_; intro _ _) | refine PV_run ?_));rename_i hS3;refine CV_fn (B:=B') (F:=[]) (by simpa using hS3) (builderString hB' (by simp only [room]; omega)) (by simp) ?_;rintro z4 B4 w4 v4 hz4 hS4 ⟨rfl,rfl⟩
   refine hR _ _ _ _ hS4 ?_;rw [hX,litV,show ((k:Int) + 1).toNat = k + 1 by omega,ext_drop]
  refine V_run ?_;rw [bt_get hc];refine V_run ?_;refine Cond_n (fun hn=>?_) (fun hn=>?_)
  ·have hn:c ≠ 34:=fun e=>by subst e; simp at hn
   have he':litS false (acc ++ [c]) ((bytes s).drop (k + 1)) = X:=by rw [<- he,litS,if_neg hn]
   refine V_run ?_;rw [bt_get hc];refine CV_fn (B:=B2) (F:=[]) (by simpa using hS2) (writeByte (c:=c) hB2 (by rw [Lib.byteCells_length]; simp only [room]; omega)) (by simp) ?_;rintro z4 B4 w4 v4 hz4 hS4 ⟨hB4,rfl⟩
   refine mk k (acc ++ [c]) w4 z4 B4 (by simp; omega) (Nat.le_refl _) hlt he' (by (repeat (exact Res.zle (by assumption)))) ?_ (by simpa using hS4);rw [Lib.byteCells_append];exact hB4
  ·have hn:c = 34:=u8_eq.1 (by simpa using hn)
   subst hn;have he':litS true acc ((bytes s).drop (k + 1)) = X:=by rw [<- he,litS,if_pos rfl]
   refine V_run ?_;refine V_run ?_;refine V_run ?_;intro K1 hK1;refine Cond_d (fun h2=>?_) (fun h2=>?_)
   ·have hlt2:k + 1 < (bytes s).length:=by omega
    have hd:(bytes s)[k + 1]? = some (bytes s)[k + 1]:=List.getElem?_eq_getElem hlt2;have hdr:(bytes s).drop (k + 1) = (bytes s)[k + 1] :: (bytes s).drop (k + 2):=List.drop_eq_getElem_cons hlt2;rw [hdr] at he';generalize (bytes s)[k + 1] = d at hd he' hdr;haveI:InStr s ((k:Int) + 1):=⟨by omega,by omega⟩
    refine V_run ?_;refine V_run ?_;rw [show ((k:Int) + 1) = ((k + 1:Nat):Int) by omega,bt_get hd];refine V_run ?_;refine hK1 _ _ fun _=>?_
    refine Cond_d (fun h3=>?_) (fun h3=>?_)
    ·have h3:d = 34:=u8_eq.1 (by simpa using h3)
     subst h3;have he2:litS false (acc ++ [34]) ((bytes s).drop (k + 1 + 1)) = X:=by rw [<- he',litS,if_pos rfl]
     refine CV_fn (B:=B2) (F:=[]) (by simpa using hS2) (writeByte (c:=34) hB2 (by rw [Lib.byteCells_length]; simp only [room]; omega)) (by simp) ?_;rintro z4 B4 w4 v4 hz4 hS4 ⟨hB4,rfl⟩
     refine V_run ?_;rw [show ((k:Int) + 1) = ((k + 1:Nat):Int) by omega];refine mk (k + 1) (acc ++ [34]) w4 z4 B4 (by simp; omega) (by omega) (by omega) he2 (by (repeat (exact Res.zle (by assumption)))) ?_ (by simpa using hS4);rw [Lib.byteCells_append];exact hB4
    ·have h3:d ≠ 34:=fun e=>by subst e; exact h3 rfl
     rw [litS,if_neg h3,<- hdr] at he';exact fin _ _ _ hz2 hB2 hS2 he'.symm
   ·refine hK1 _ _ fun _=>?_
    refine Cond_f ?_;have hdr:(bytes s).drop (k + 1) = []:=List.drop_of_length_le (by omega);rw [hdr,litS] at he';exact fin _ _ _ hz2 hB2 hS2 (by rw [hdr]; exact he'.symm)
 ·rw [List.drop_of_length_le (by omega),litS] at he
  subst he;exact hR _ _ _ _ hS2 rfl)
end
section
open Go Q Go.RowKit
structure WordM where
 s:ByteArray
 lit:Bool
abbrev WordM.cells (x:WordM):List Value:=[.string x.s,.bool x.lit]
abbrev WordM.v (x:WordM):Value:=.agg x.cells.toArray
def El.word:El WordM where
 size:=2
 rel:=fun _ cs x=>cs = x.cells
 mono:=fun h _=>h
 len:=fun h=>by rw [h]; rfl
 pos:=by decide
def tokM (bare:Bool) (s:List UInt8):Option (WordM × List UInt8):=
 if s.head? = some 34/\bare = false then match litS false [] (s.drop 1) with
  | none=>none
  | some (x,r)=>if r ≠ []/\r.head? ≠ some 32 then none else some (⟨⟨x.toArray⟩,true⟩,r)
 else if s.takeWhile (· ≠ 32) = [] then none else some (⟨⟨(s.takeWhile (· ≠ 32)).toArray⟩,false⟩,s.dropWhile (· ≠ 32))
def wordsM (bare:Bool):Nat->List UInt8->Option (List WordM)
 | 0,_=>none
 | f + 1,s=>match tokM bare s with
  | none=>none
  | some (t,r)=>if r = [] then some [t] else if r.drop 1 = [] then none else (wordsM bare f (r.drop 1)).map (t :: ·)
def listP:ByteArray:=⟨#[108,105,115,116,32]⟩
def nameP:ByteArray:=⟨#[110,97,109,101,32]⟩
def bareB (s:ByteArray):Bool:=bif preB s listP then true else preB s nameP
def wordsL (s:ByteArray):Option (List WordM):=wordsM (bareB s) (s.size + 1) (bytes s)
theorem litS_len:∀ (l:List UInt8) (q:Bool) (acc a r:List UInt8),litS q acc l = some (a,r)->r.length <= l.length/\a.length <= acc.length + l.length
 | [],false,acc,a,r,h=>by simp [litS] at h
 | [],true,acc,a,r,h=>by simp only [litS,Option.some.injEq,Prod.mk.injEq] at h; obtain ⟨rfl,rfl⟩:=h; simp
 | c :: t,false,acc,a,r,h=>by
  rw [litS] at h
  split at h
  ·have:=litS_len t true acc a r h; simp only [List.length_cons]; omega
  ·have:=litS_len t false (acc ++ [c]) a r h; simp only [List.length_cons,List.length_append,List.length_nil] at this ⊢; omega
 | c :: t,true,acc,a,r,h=>by
  rw [litS] at h
  split at h
  ·have:=litS_len t false (acc ++ [34]) a r h; simp only [List.length_cons,List.length_append,List.length_nil] at this ⊢; omega
  ·simp only [Option.some.injEq,Prod.mk.injEq] at h; obtain ⟨rfl,rfl⟩:=h; simp
theorem tokM_len {bare:Bool} {s r:List UInt8} {t:WordM} (h:tokM bare s = some (t,r)):r.length < s.length/\t.s.size <= s.length:=by
 unfold tokM at h
 split at h
 ·rename_i h0
  cases s with
  | nil=>simp at h0
  | cons c l=>
   split at h
   ·cases h
   ·rename_i x r' hl
    split at h
    ·cases h
    ·simp only [Option.some.injEq,Prod.mk.injEq] at h
     obtain ⟨rfl,rfl⟩:=h;have:=litS_len _ _ _ _ _ hl;simp only [List.drop_succ_cons,List.drop_zero,List.length_nil,List.length_cons] at this ⊢;have h2:(ByteArray.mk x.toArray).size = x.length:=rfl;rw [h2];omega
 ·split at h
  ·cases h
  ·rename_i h0
   simp only [Option.some.injEq,Prod.mk.injEq] at h;obtain ⟨rfl,rfl⟩:=h;have h1:(s.takeWhile (· ≠ 32) ++ s.dropWhile (· ≠ 32)).length = s.length:=by rw [List.takeWhile_append_dropWhile]
   have h2:(ByteArray.mk (s.takeWhile (· ≠ 32)).toArray).size = (s.takeWhile (· ≠ 32)).length:=rfl;have h3:0 < (s.takeWhile (· ≠ 32)).length:=List.length_pos_iff.2 h0;rw [List.length_append] at h1;exact ⟨by omega,by rw [h2]; omega⟩
theorem preB_q (s:ByteArray):preB s ⟨#[34]⟩ = decide ((bytes s).head? = some 34):=by
 unfold preB;have h1:(⟨#[34]⟩:ByteArray).size = 1:=rfl;rw [h1]
 cases hb:bytes s with
 | nil=>
  have:s.size = 0:=by rw [size_bytes,hb]; rfl
  rw [this]
  rfl
 | cons c l=>
  have hsz:s.size = l.length + 1:=by rw [size_bytes,hb]; rfl
  rw [decide_eq_true (by omega:(s.size:Int) ≥ ((1:Nat):Int)),cond_true];have he:bytes (s.extract 0 1) = [c]:=by rw [bytes_extract,hb]; rfl
  by_cases hc:c = 34
  ·subst hc
   rw [decide_eq_true (by rfl:(34 :: l:List UInt8).head? = some 34)];refine decide_eq_true ?_
   apply ByteArray.ext
   apply Array.toList_inj.1
   exact he
  ·rw [decide_eq_false (by simp [hc]:¬ (c :: l:List UInt8).head? = some 34)]
   refine decide_eq_false fun e=>?_
   rw [e] at he;have he':[(34:UInt8)] = [c]:=he;exact hc (List.cons.inj he').1.symm
theorem cut_one {s:ByteArray} {c:UInt8}:∃ r x,cutV s c = .tuple #[.string ⟨((bytes s).takeWhile (· ≠ c)).toArray⟩,r,x]:=by
 unfold cutV;have hidx:cutAt s c = fidx (· == c) (bytes s):=rfl;unfold fidx at hidx;have htw:∀ (l:List UInt8),(match l.findIdx? (· == c) with | some k=>l.take k | none=>l) = l.takeWhile (· ≠ c):=by
  intro l
  induction l with
  | nil=>rfl
  | cons y l ih=>
   rw [List.findIdx?_cons,List.takeWhile_cons]
   by_cases hy:y = c
   ·subst hy; simp
   ·have h1:(y == c) = false:=by simp [hy]
    rw [h1];simp only [Bool.false_eq_true,if_false,ne_eq,hy,not_false_eq_true,decide_true,if_true];rw [<- ih]
    cases l.findIdx? (· == c) <;> simp
 have h:=htw (bytes s)
 cases hf:(bytes s).findIdx? (· == c) with
 | none=>
  rw [hf] at hidx h;simp only at hidx h;rw [if_neg (by rw [hidx]; decide),<- h];exact ⟨_,_,rfl⟩
 | some k=>
  rw [hf] at hidx h;simp only at hidx h;rw [if_pos (by rw [hidx]; omega)];refine ⟨.string (s.extract ((cutAt s c).toNat + 1) s.size),.bool true,?_⟩;rw [<- h];have:s.extract 0 (cutAt s c).toNat = ⟨((bytes s).take k).toArray⟩:=by
   apply ByteArray.ext
   apply Array.toList_inj.1
   have:=bytes_extract s 0 k;rw [hidx,Int.toNat_natCast,List.toList_toArray];simp
  rw [this]
end
section
open Go Q Go.RowKit
def WordsR (z:Z) (r:Value) (X:Option (List WordM)):Prop:=
 match X with
 | none=>r = .tuple #[.slice none 0 0,.bool false]
 | some l=>∃ v,r = .tuple #[v,.bool true]/\SlR El.word z v l
theorem drop_while {s:List UInt8} {c:UInt8}:s.drop (s.takeWhile (· ≠ c)).length = s.dropWhile (· ≠ c):=by
 have h:s = s.takeWhile (· ≠ c) ++ s.dropWhile (· ≠ c):=(List.takeWhile_append_dropWhile).symm
 conv=>lhs; arg 2; rw [h]
 rw [List.drop_left']
 rfl
theorem head_while {s:List UInt8} {c:UInt8} (h:s.dropWhile (· ≠ c) ≠ []):(s.dropWhile (· ≠ c)).head? = some c:=by
 induction s with
 | nil=>exact absurd rfl h
 | cons x l ih=>
  rw [List.dropWhile_cons] at h ⊢
  split
  ·rename_i hx; rw [if_pos hx] at h; exact ih h
  ·rename_i hx
   simp only [ne_eq,decide_not,Bool.not_eq_true',decide_eq_false_iff_not,Decidable.not_not] at hx;rw [hx]; rfl
theorem str_nil {s:ByteArray}:(s = ⟨#[]⟩) ↔ bytes s = []:=by
 constructor
 ·rintro rfl; rfl
 ·intro h
  apply ByteArray.ext
  apply Array.toList_inj.1
  exact h
theorem words_of {z:Z} {w:World} {s:ByteArray} (hs:s.size <= 1000000):Fn1 192 #[.string s] z w fun z' r=>WordsR z' r (wordsL s):=Fn1.intro fun hS=>en192 (by
 unfold vc192;generalize hRR:(fun (v:Value) (w':World)=>∃ z' L',Res w z [] w' z' L'/\WordsR z' v (wordsL s)) = RR;have hR:∀ z' w' L' r,Res w z [] w' z' L'->WordsR z' r (wordsL s)->RR r w':=fun z' w' L' r k e=>by rw [<- hRR]; exact ⟨_,_,k,e⟩
 clear hRR;have hX:wordsL s = wordsM (bareB s) (s.size + 1) (bytes s):=rfl;generalize wordsL s = X at hR hX;refine CV_pu ?_;intro z1 w1 hz1 hS1;clear hS;intro Ka hKa;have ma:∀ z' w',Le z z'->Res w z [] w' z' []->Ka [.bool (bareB s)] w':=by
  intro z2 w2 hz2 hS2;refine hKa _ _ fun _=>?_
  clear hKa hS1;generalize bareB s = bare at hX;refine LoopG2 (fun (p:List WordM × ByteArray × Nat) x y w'=>y = .string p.2.1/\p.2.1.size < p.2.2/\p.2.2 <= s.size + 1/\p.2.1.size + p.1.length <= s.size/\X = (wordsM bare p.2.2 (bytes p.2.1)).map (p.1 ++ ·)/\∃ B us z',Le z2 z'/\OwnSl 268 2 B x p.1.length us/\Lsl El.word z' us p.1/\Res w z [] w' z' B) (fun p=>p.2.2) ([],s,s.size + 1) ⟨rfl,by simp,by simp,by simp,by simp [hX],[],[],z2,Le.refl _,OwnSl.nil,Lsl.nil,hS2⟩ ?_;rintro I M ⟨l,t,f⟩ x y w3 m ⟨rfl,hf,hfs,hln,he,B,us,z3,hz3,ho,hls,hS3⟩ back
  simp only at hf hfs hln he ho hls;dsimp only;clear hS2 hX;obtain ⟨f,rfl⟩:∃ f',f = f' + 1:=⟨f - 1,by omega⟩
  rw [wordsM] at he;have ht:t.size <= 1000000:=by omega
  have htl:t.size = (bytes t).length:=size_bytes t;intro Kb hKb;have mb:∀ tok (r:List UInt8) v' B' us' z' w',tokM bare (bytes t) = some (tok,r)->OwnSl 268 2 B' v' (l.length + 1) us'->Lsl El.word z' us' (l ++ [tok])->Le z3 z'->Res w z [] w' z' B'->Kb [v',strL r] w':=by
   intro tok r v' B' us' z' w' h1 h2 h3 h4 h5;refine hKb _ _ _ fun _=>?_
   clear hKb hS3;have hr:=(tokM_len h1).1;rw [h1] at he;simp only at he;obtain ⟨av,cv,rfl,_⟩:=h2.form;refine V_run ?_;refine Cond_d (fun hn=>?_) (fun hn=>?_)
   ·have hrn:r = []:=str_nil.1 hn
    rw [if_pos hrn] at he;obtain ⟨z6,hz6,hS6,hv⟩:=Res.freezeL (E:=El.word) (e:=268) (xs:=l ++ [tok]) (h5.bring B') (by rw [List.length_append]; exact h2) h3 (by simp only [List.length_append,List.length_cons,List.length_nil,big]; omega);refine hR _ _ _ _ hS6 ?_;rw [he];exact ⟨_,rfl,hv⟩
   ·have hrn:¬ r = []:=fun e=>hn (str_nil.2 e)
    rw [if_neg hrn] at he;have hrs:(⟨r.toArray⟩:ByteArray).size = r.length:=rfl;have hrp:0 < r.length:=List.length_pos_iff.2 hrn;haveI:InR 1 (((⟨r.toArray⟩:ByteArray).size:Int) + 1):=⟨by decide,by rw [hrs]; omega⟩
    refine V_run ?_;rw [show (1:Int).toNat = 1 from rfl,ext_drop,show bytes (⟨r.toArray⟩:ByteArray) = r from List.toList_toArray];refine V_run ?_;have hds:(⟨(r.drop 1).toArray⟩:ByteArray).size = (r.drop 1).length:=rfl;refine Cond_d (fun hm=>?_) (fun hm=>?_)
    ·have hm:r.drop 1 = []:=str_nil.1 hm
     rw [if_pos hm] at he;exact hR _ _ _ _ h5 (by rw [he]; exact rfl)
    ·have hm:¬ r.drop 1 = []:=fun e=>hm (str_nil.2 e)
     rw [if_neg hm] at he;refine back (l ++ [tok],⟨(r.drop 1).toArray⟩,f) _ _ _ ⟨rfl,?_,by show f <= s.size + 1; omega,?_,?_,B',us',z',by (repeat (first | assumption | refine Le.trans ?_ (by assumption:Le _ _))),by rw [List.length_append]; exact h2,h3,h5⟩ (by show f < f + 1; omega)
     ·show (⟨(r.drop 1).toArray⟩:ByteArray).size < f
      rw [hds,List.length_drop]; omega
     ·show (⟨(r.drop 1).toArray⟩:ByteArray).size + (l ++ [tok]).length <= s.size
      rw [hds,List.length_drop,List.length_append]; simp only [List.length_cons,List.length_nil]; omega
     ·rw [he]
      simp only;rw [show bytes (⟨(r.drop 1).toArray⟩:ByteArray) = r.drop 1 from List.toList_toArray]
      cases wordsM bare f (r.drop 1) <;> simp
  have bad:tokM bare (bytes t) = none->∀ z' w',Res w z [] w' z' B->RR (.tuple #[.slice none 0 0,.bool false]) w':=by
   intro h z' w' hS';rw [h] at he;exact hR _ _ _ _ hS' (by rw [he]; exact rfl)
  clear hKb hR back;have push:∀ (y:ByteArray) (lit:Bool) z' w' (K:Value->World->Prop),Le z3 z'->Res w z [] w' z' B->(∀ v' B' us' w'',OwnSl 268 2 B' v' (l.length + 1) us'->Lsl El.word z' us' (l ++ [⟨y,lit⟩])->Res w z [] w'' z' B'->K v' w'') ->
    V (bd 268 #[(0,.string y),(1,.bool lit)]) w' fun t43 w=>V (bs 263 1 #[(0,t43)]) w fun t44 w=>V (Builtin.append_ #[263,263] 263 #[x,t44]) w K:=by
   intro y lit z' w' K hz' hS' hk;refine V_run ?_;refine V_push hS' ho (by simp only [room]; omega) (by simp only [room]; omega) (by omega) ?_;intro B' v' w2 ho' hS'';rw [List.append_nil] at hS'';exact hk _ _ _ _ ho' ((hls.mono hz').push rfl) hS''
  haveI:Sm t:=⟨by simp only [big]; omega⟩
  (repeat (first | refine JB ?_ | (refine CV_pu ?_; intro _ _ _ _)));rename_i hS4;clear hS3;rw [preB_q];have hcond:∀ h,(bif decide ((bytes t).head? = some 34) then !bare else false) = h->(h = true ↔ ((bytes t).head? = some 34/\bare = false)):=by
   intro h e;subst e
   by_cases h1:(bytes t).head? = some 34
   ·rw [decide_eq_true h1]; simp [h1]
   ·rw [decide_eq_false h1]; simp [h1]
  refine Cond_b (fun hq=>?_) (fun hq=>?_)
  ·have hq:=(hcond _ hq).1 rfl
   clear hcond;refine CV_1 (literal_of ht) ?_;rintro z5 w5 v5 hz5 hS5 rfl
   clear hS4;have htok:tokM bare (bytes t) = match litS false [] ((bytes t).drop 1) with
     | none=>none
     | some (x,r)=>if r ≠ []/\r.head? ≠ some 32 then none else some (⟨⟨x.toArray⟩,true⟩,r):=by unfold tokM; exact if_pos hq
   cases hL:litS false [] ((bytes t).drop 1) with
   | none=>
    rw [hL] at htok;simp only [litV];(repeat (refine V_run ?_));intro K1 hK1;refine Cond_is rfl ?_;refine hK1 _ _ fun _=>?_
    refine Cond_is rfl ?_;exact bad htok _ _ (by assumption)
   | some y=>
    obtain ⟨y,r⟩:=y;rw [hL] at htok;simp only at htok;simp only [litV];refine V_run ?_;refine V_run ?_;refine V_run ?_;refine V_run ?_;have good:¬ (r ≠ []/\r.head? ≠ some 32)->V (bd 268 #[(0,strL y),(1,.bool true)]) w5 fun t43 w=>V (bs 263 1 #[(0,t43)]) w fun t44 w=>V (Builtin.append_ #[263,263] 263 #[x,t44]) w fun t45 w=>Kb [t45,strL r] w:=by
     intro hn;rw [if_neg hn] at htok;exact push _ _ z5 w5 _ (by (repeat (first | assumption | refine Le.trans ?_ (by assumption:Le _ _)))) hS5 fun v' B' us' w'' h1 h2 h3=>mb _ r _ _ _ z5 _ htok h1 h2 (by (repeat (first | assumption | refine Le.trans ?_ (by assumption:Le _ _)))) h3
    intro K1 hK1;refine Cond_not rfl ?_;refine V_run ?_;intro K2 hK2;refine Cond_n (fun hr=>?_) (fun hr=>?_)
    ·have hr:r ≠ []:=fun e=>by subst e; simp at hr
     obtain ⟨c,r',rfl⟩:∃ c r',r = c :: r':=by
      cases r with
      | nil=>exact absurd rfl hr
      | cons c r'=>exact ⟨c,r',rfl⟩
     haveI:InStr (⟨(c :: r').toArray⟩:ByteArray) 0:=⟨by decide,by show (0:Int) < (((c :: r').length:Nat):Int); simp⟩
     refine V_run ?_;rw [show bt (⟨(c :: r').toArray⟩:ByteArray) 0 = (c.toNat:Int) from bt_get (k:=0) rfl];refine V_run ?_;refine hK2 _ _ fun _=>?_
     refine hK1 _ _ fun _=>?_
     refine Cond_n (fun h32=>?_) (fun h32=>?_)
     ·have h32:c ≠ 32:=fun e=>by subst e; simp at h32
      rw [if_pos ⟨by simp,by simpa using h32⟩] at htok;exact bad htok _ _ hS5
     ·have h32:c = 32:=u8_eq.1 (by simpa using h32)
      exact good fun hh=>hh.2 (by rw [h32]; rfl)
    ·have hr:r = []:=by simpa using hr
     refine hK2 _ _ fun _=>?_
     refine hK1 _ _ fun _=>?_
     refine Cond_f ?_;exact good fun hh=>hh.1 hr
  ·have hq:¬ ((bytes t).head? = some 34/\bare = false):=fun h=>by have:=(hcond _ rfl).2 h; rw [hq] at this; cases this
   clear hcond;refine CV_pu ?_;intro z5 w5 hz5 hS5;clear hS4;obtain ⟨r1,x1,hcut⟩:=cut_one (s:=t) (c:=32);rw [hcut];have htok:tokM bare (bytes t) = if (bytes t).takeWhile (· ≠ 32) = [] then none else some (⟨⟨((bytes t).takeWhile (· ≠ 32)).toArray⟩,false⟩,(bytes t).dropWhile (· ≠ 32)):=by unfold tokM; rw [if_neg hq]
   have hdw:=drop_while (s:=bytes t) (c:=32);have hle:((bytes t).takeWhile (· ≠ 32)).length <= t.size:=by rw [htl]; exact (List.takeWhile_sublist _).length_le
   generalize (bytes t).takeWhile (· ≠ 32) = one at *;generalize (bytes t).dropWhile (· ≠ 32) = rest at *;refine V_run ?_;refine V_run ?_;refine V_run ?_;refine V_run ?_;refine Cond_d (fun h1=>?_) (fun h1=>?_)
   ·rw [if_pos (str_nil.1 h1)] at htok
    exact bad htok _ _ hS5
   ·rw [if_neg fun e=>h1 (str_nil.2 e)] at htok
    refine push _ _ z5 w5 _ (by (repeat (first | assumption | refine Le.trans ?_ (by assumption:Le _ _)))) hS5 fun v' B' us' w'' h1 h2 h3=>?_
    have hsz:(⟨one.toArray⟩:ByteArray).size = one.length:=rfl;refine V_run ?_;haveI:InR ((⟨one.toArray⟩:ByteArray).size:Int) ((t.size:Int) + 1):=⟨by omega,by rw [hsz]; omega⟩
    refine V_run ?_;rw [hsz,Int.toNat_natCast,ext_drop,hdw];exact mb _ _ _ _ _ z5 _ htok h1 h2 (by (repeat (first | assumption | refine Le.trans ?_ (by assumption:Le _ _)))) h3
 clear hKa;refine Cond_b (fun h=>?_) (fun h=>?_)
 ·have:=ma _ _ hS1.zle hS1
  rw [show bareB s = true by unfold bareB; rw [show preB s listP = true from h]; rfl] at this;exact this
 ·refine CV_pu ?_
  intro z2 w2 hz2 hS2;have:=ma _ _ hS2.zle hS2;rw [show bareB s = preB s nameP by unfold bareB; rw [show preB s listP = false from h]; rfl] at this;exact this)
end
section
open Go Q Go.RowKit Go.Shelf
def atoiRen:Go.Shelf.Ren:=⟨fun | 172=>243 | 244=>271 | 245=>272 | 247=>283 | 279=>284 | 280=>285 | 281=>286 | 282=>287 | 287=>293 | 316=>294 | 171=>187 | 205=>295 | 321=>298 | 322=>299 | 243=>237 | 246=>263 | 283=>278 | 284=>279 | 285=>280 | 286=>281 | 129=>289 | 317=>288 | 318=>290 | 319=>291 | 320=>292 | 337=>296 | 338=>297 | n=>n,fun | 9=>9 | 3=>3 | 75=>201 | 76=>202 | 4=>4 | 5=>5 | 167=>317 | 37=>55 | 0=>0 | 85=>318 | 2=>2 | 168=>320 | 53=>309 | 175=>331 | 46=>247 | 210=>334 | 127=>261 | 145=>340 | 143=>338 | 21=>21 | 171=>308 | 173=>312 | 212=>328 | 51=>314 | 20=>20 | 213=>329 | 232=>341 | 233=>342 | 80=>181 | n=>n,fun | 15=>4 | 16=>5 | 17=>3 | 18=>6 | 19=>7 | n=>n⟩
theorem atoiLays:Go.Proofs.LaysC.n172 Tryz.prog atoiRen:={
 mixed:=by kernel_rfl
 f129:=Tryz.func289.trans (congrArg some (by kernel_rfl))
 f171:=Tryz.func187.trans (congrArg some (by kernel_rfl))
 f172:=Tryz.func243.trans (congrArg some (by kernel_rfl))
 f205:=Tryz.func295.trans (congrArg some (by kernel_rfl))
 f243:=Tryz.func237.trans (congrArg some (by kernel_rfl))
 f244:=Tryz.func271.trans (congrArg some (by kernel_rfl))
 f245:=Tryz.func272.trans (congrArg some (by kernel_rfl))
 f246:=Tryz.func263.trans (congrArg some (by kernel_rfl))
 f247:=Tryz.func283.trans (congrArg some (by kernel_rfl))
 f279:=Tryz.func284.trans (congrArg some (by kernel_rfl))
 f280:=Tryz.func285.trans (congrArg some (by kernel_rfl))
 f281:=Tryz.func286.trans (congrArg some (by kernel_rfl))
 f282:=Tryz.func287.trans (congrArg some (by kernel_rfl))
 f283:=Tryz.func278.trans (congrArg some (by kernel_rfl))
 f284:=Tryz.func279.trans (congrArg some (by kernel_rfl))
 f285:=Tryz.func280.trans (congrArg some (by kernel_rfl))
 f286:=Tryz.func281.trans (congrArg some (by kernel_rfl))
 f287:=Tryz.func293.trans (congrArg some (by kernel_rfl))
 f316:=Tryz.func294.trans (congrArg some (by kernel_rfl))
 f317:=Tryz.func288.trans (congrArg some (by kernel_rfl))
 f318:=Tryz.func290.trans (congrArg some (by kernel_rfl))
 f319:=Tryz.func291.trans (congrArg some (by kernel_rfl))
 f320:=Tryz.func292.trans (congrArg some (by kernel_rfl))
 f321:=Tryz.func298.trans (congrArg some (by kernel_rfl))
 f322:=Tryz.func299.trans (congrArg some (by kernel_rfl))
 f337:=Tryz.func296.trans (congrArg some (by kernel_rfl))
 f338:=Tryz.func297.trans (congrArg some (by kernel_rfl))
 t0:=Tryz.underlying0
 a0:=Tryz.isAgg0
 z0:=Tryz.sizeOf0
 v0:=Tryz.zeroValue0
 t2:=Tryz.underlying2
 a2:=Tryz.isAgg2
 z2:=Tryz.sizeOf2
 v2:=Tryz.zeroValue2
 t3:=Tryz.underlying3
 a3:=Tryz.isAgg3
 z3:=Tryz.sizeOf3
 v3:=Tryz.zeroValue3
 t4:=Tryz.underlying4
 a4:=Tryz.isAgg4
 z4:=Tryz.sizeOf4
 v4:=Tryz.zeroValue4
 t5:=Tryz.underlying5
 a5:=Tryz.isAgg5
 z5:=Tryz.sizeOf5
 v5:=Tryz.zeroValue5
 t9:=Tryz.underlying9
 a9:=Tryz.isAgg9
 z9:=Tryz.sizeOf9
 v9:=Tryz.zeroValue9
 t20:=Tryz.underlying20
 a20:=Tryz.isAgg20
 z20:=Tryz.sizeOf20
 v20:=Tryz.zeroValue20
 t21:=Tryz.underlying21
 a21:=Tryz.isAgg21
 z21:=Tryz.sizeOf21
 v21:=Tryz.zeroValue21
 t37:=Tryz.underlying55
 a37:=Tryz.isAgg55
 z37:=Tryz.sizeOf55
 v37:=Tryz.zeroValue55
 t46:=Tryz.underlying247
 a46:=Tryz.isAgg247
 z46:=Tryz.sizeOf247
 v46:=Tryz.zeroValue247
 t51:=Tryz.underlying314
 a51:=Tryz.isAgg314
 z51:=Tryz.sizeOf314
 v51:=Tryz.zeroValue314
 t53:=Tryz.underlying309
 a53:=Tryz.isAgg309
 z53:=Tryz.sizeOf309
 v53:=Tryz.zeroValue309
 t75:=Tryz.underlying201
 a75:=Tryz.isAgg201
 z75:=Tryz.sizeOf201
 v75:=Tryz.zeroValue201
 t76:=Tryz.underlying202
 a76:=Tryz.isAgg202
 z76:=Tryz.sizeOf202
 v76:=Tryz.zeroValue202
 t85:=Tryz.underlying318
 a85:=Tryz.isAgg318
 z85:=Tryz.sizeOf318
 v85:=Tryz.zeroValue318
 t127:=Tryz.underlying261
 a127:=Tryz.isAgg261
 z127:=Tryz.sizeOf261
 v127:=Tryz.zeroValue261
 t143:=Tryz.underlying338
 a143:=Tryz.isAgg338
 z143:=Tryz.sizeOf338
 v143:=Tryz.zeroValue338
 t145:=Tryz.underlying340
 a145:=Tryz.isAgg340
 z145:=Tryz.sizeOf340
 v145:=Tryz.zeroValue340
 t167:=Tryz.underlying317
 a167:=Tryz.isAgg317
 z167:=Tryz.sizeOf317
 v167:=Tryz.zeroValue317
 t168:=Tryz.underlying320
 a168:=Tryz.isAgg320
 z168:=Tryz.sizeOf320
 v168:=Tryz.zeroValue320
 t171:=Tryz.underlying308
 a171:=Tryz.isAgg308
 z171:=Tryz.sizeOf308
 v171:=Tryz.zeroValue308
 t173:=Tryz.underlying312
 a173:=Tryz.isAgg312
 z173:=Tryz.sizeOf312
 v173:=Tryz.zeroValue312
 t175:=Tryz.underlying331
 a175:=Tryz.isAgg331
 z175:=Tryz.sizeOf331
 v175:=Tryz.zeroValue331
 t210:=Tryz.underlying334
 a210:=Tryz.isAgg334
 z210:=Tryz.sizeOf334
 v210:=Tryz.zeroValue334
 t212:=Tryz.underlying328
 a212:=Tryz.isAgg328
 z212:=Tryz.sizeOf328
 v212:=Tryz.zeroValue328
 t213:=Tryz.underlying329
 a213:=Tryz.isAgg329
 z213:=Tryz.sizeOf329
 t232:=Tryz.underlying341
 a232:=Tryz.isAgg341
 z232:=Tryz.sizeOf341
 v232:=Tryz.zeroValue341
 t233:=Tryz.underlying342
 a233:=Tryz.isAgg342
 z233:=Tryz.sizeOf342
 v233:=Tryz.zeroValue342
 g15:=by kernel_rfl
 g16:=by kernel_rfl
 g17:=by kernel_rfl
 g18:=by kernel_rfl
 g19:=by kernel_rfl
 t80:=Tryz.underlying181
 a80:=Tryz.isAgg181
 z80:=Tryz.sizeOf181
 v80:=Tryz.zeroValue181
 i0:=by kernel_rfl
 i2:=by kernel_rfl
 i3:=by kernel_rfl
 i4:=by kernel_rfl
 i5:=by kernel_rfl
 i9:=by kernel_rfl
 i20:=by kernel_rfl
 i21:=by kernel_rfl
 i37:=by kernel_rfl
 i46:=by kernel_rfl
 i51:=by kernel_rfl
 i53:=by kernel_rfl
 i75:=by kernel_rfl
 i76:=by kernel_rfl
 i80:=by kernel_rfl
 i85:=by kernel_rfl
 i127:=by kernel_rfl
 i143:=by kernel_rfl
 i145:=by kernel_rfl
 i167:=by kernel_rfl
 i168:=by kernel_rfl
 i171:=by kernel_rfl
 i173:=by kernel_rfl
 i175:=by kernel_rfl
 i210:=by kernel_rfl
 i212:=by kernel_rfl
 i232:=by kernel_rfl
 i233:=by kernel_rfl
 m15:=by kernel_rfl
 m16:=by kernel_rfl
 m17:=by kernel_rfl
 m18:=by kernel_rfl
 m19:=by kernel_rfl
 c0:=by kernel_rfl
 c2:=by kernel_rfl
 c3:=by kernel_rfl
 c4:=by kernel_rfl
 c5:=by kernel_rfl
 c9:=by kernel_rfl
 c20:=by kernel_rfl
 c21:=by kernel_rfl
 c37:=by kernel_rfl
 c46:=by kernel_rfl
 c51:=by kernel_rfl
 c53:=by kernel_rfl
 c75:=by kernel_rfl
 c76:=by kernel_rfl
 c80:=by kernel_rfl
 c85:=by kernel_rfl
 c127:=by kernel_rfl
 c143:=by kernel_rfl
 c145:=by kernel_rfl
 c167:=by kernel_rfl
 c168:=by kernel_rfl
 c171:=by kernel_rfl
 c173:=by kernel_rfl
 c175:=by kernel_rfl
 c210:=by kernel_rfl
 c212:=by kernel_rfl
 c213:=by kernel_rfl
 c232:=by kernel_rfl
 c233:=by kernel_rfl }
class Errs (z:Z):Prop where
 h:∀ w,Sub z w->(∃ ev,w.cell? ⟨atoiRen.g 15,0,none⟩ = some ev/\(ev = .nilIface \/ ∃ te pe,ev = .iface te pe))/\(∃ ev,w.cell? ⟨atoiRen.g 16,0,none⟩ = some ev/\(ev = .nilIface \/ ∃ te pe,ev = .iface te pe))
theorem Errs.le {z z':Z} (h:Errs z) (hz:Le z z'):Errs z':=⟨fun w hw=>h.h w fun b o hb=>hw b o (hz b o hb)⟩
theorem below_res {w w':World} {z:Z} (h:Own w z []) (hb:Below w.heap.size w w'):Res w z [] w' z []:=
 ⟨hb.os,hb.tape,hb.output,hb.size,fun b hlt _=>hb.block b hlt,fun b o hz=>by rw [hb.block b (lt_of_get (h.sub b o hz))]; exact h.sub b o hz,Le.refl _,fun b hb=>.inl hb,fun p hp=>(by cases hp),.nil⟩
theorem bytes_res {w:World} {z:Z} {e:TypeId} {s:ByteArray} (h:Own w z []):Res w z [] (Lib.bytesWorld w e s) z []:=by
 rw [bytesWorld_eq];exact (Res.new (Res.drew h) _).drop
def AtoiR (s:ByteArray) (r:Value):Prop:=(∃ v,Lib.atoiAll (bytes s) = .ok v/\r = .tuple #[.int .i64 v,.nilIface]) \/ ((∀ v,Lib.atoiAll (bytes s) ≠ .ok v)/\∃ n t p,r = .tuple #[.int .i64 n,.iface t p])
theorem atoi_of {z:Z} {w:World} {s:ByteArray} [he:Errs z] (hs:s.size <= 1000000):Fn1 243 #[.string s] z w fun _ r=>AtoiR s r:=fun ho=>by
 obtain ⟨⟨e1,h1,h2⟩,⟨e3,h3,h4⟩⟩:=he.h w ho.sub
 rcases hA:Lib.atoiAll (bytes s) with v | _ | _
 ·refine (Any.strconv_Atoi_ok atoiLays s (by omega) v hA w).mono ?_
  rintro e w' ⟨rfl,rfl | ⟨t,rfl⟩⟩
  ·exact ⟨z,ho,.inl ⟨v,hA,rfl⟩⟩
  ·exact ⟨z,bytes_res ho,.inl ⟨v,hA,rfl⟩⟩
 ·refine (Any.strconv_Atoi_syntax atoiLays s (by omega) hA e1 w h1 h2).mono ?_
  rintro e w' ⟨N,rfl,_,_,hb⟩
  exact ⟨z,below_res ho hb,.inr ⟨fun v hv=>(by rw [hA] at hv; cases hv),_,_,_,rfl⟩⟩
 ·refine (Any.strconv_Atoi_range atoiLays s (by omega) hA e3 w h3 h4).mono ?_
  rintro e w' ⟨N,rfl,_,_,hb⟩
  exact ⟨z,below_res ho hb,.inr ⟨fun v hv=>(by rw [hA] at hv; cases hv),_,_,_,rfl⟩⟩
def numW (x:WordM):Option Int:=if x.lit = true then none else match Lib.atoiAll (bytes x.s) with
 | .ok v=>if (trimP x.s ⟨#[45]⟩).size <= 15 then some v else none
 | _=>none
def NumR (x:WordM) (r:Value):Prop:=∃ n,r = .tuple #[.int .i64 n,.bool (numW x).isSome]/\∀ v,numW x = some v->n = v
theorem number_of {z:Z} {w:World} {x:WordM} [he:Errs z] (hs:x.s.size <= 1000000):Fn1 196 #[x.v] z w fun _ r=>NumR x r:=Fn1.intro fun hS=>en196 (by
 unfold vc196;refine iV_bx ?_;intro b1 w1 hb1 hS1;clear hS;(repeat (first | refine V_run ?_ | refine iV_ld1 ?_));refine CV_1 (atoi_of hs) ?_;rintro z2 w2 v2 hz2 hS2 (⟨v,hA,rfl⟩ | ⟨hA,n,t,p,rfl⟩)
 ·clear hS1
  (repeat (refine V_run ?_));refine ⟨_,_,eql_no (TyIf.of (by kernel_rfl)) _,?_⟩;intro K0 hK0;refine Cond_t ?_;(repeat (first | refine V_run ?_ | refine iV_ld1 ?_));refine hK0 _ _ fun _=>?_
  clear hK0;intro K1 hK1;refine Cond_n (fun h=>?_) (fun h=>?_)
  ·(repeat (first | refine V_run ?_ | refine iV_ld1 ?_ | (refine CV_pu ?_; intro _ _ _ _)))
   refine hK1 _ _ fun _=>?_
   refine ⟨_,_,‹_›,v,?_,?_⟩
   ·unfold numW
    rw [h,if_neg (by simp),hA];simp only
    by_cases hc:(trimP x.s ⟨#[45]⟩).size <= 15
    ·rw [if_pos hc,decide_eq_true (by omega)]; rfl
    ·rw [if_neg hc,decide_eq_false (by omega)]; rfl
   ·intro v' hv'
    unfold numW at hv';rw [h,if_neg (by simp),hA] at hv';simp only at hv'
    split at hv'
    ·exact Option.some.inj hv'
    ·cases hv'
  ·refine hK1 _ _ fun _=>?_
   have hn:numW x = none:=by unfold numW; rw [if_pos h]
   exact ⟨_,_,hS2,v,by rw [hn]; rfl,fun v' hv'=>by rw [hn] at hv'; cases hv'⟩
 ·clear hS1
  (repeat (refine V_run ?_));refine ⟨_,_,eql_if (TyIf.of (by kernel_rfl)) _,?_⟩;intro K0 hK0;refine Cond_f ?_;refine hK0 _ _ fun _=>?_
  intro K1 hK1;refine Cond_f ?_;refine hK1 _ _ fun _=>?_
  have hn:numW x = none:=by
   unfold numW
   split
   ·rfl
   ·split
    ·rename_i v hv; exact absurd hv (hA v)
    ·rfl
  exact ⟨_,_,hS2,n,by rw [hn]; rfl,fun v' hv'=>by rw [hn] at hv'; cases hv'⟩)
end
section
open Go Q Go.RowKit
def wText:ByteArray:=⟨#[116,101,120,116]⟩
def wTmpl:ByteArray:=⟨#[116,109,112,108]⟩
def wList:ByteArray:=⟨#[108,105,115,116]⟩
def wLabel:ByteArray:=⟨#[108,97,98,101,108]⟩
def wName:ByteArray:=⟨#[110,97,109,101]⟩
def kindS (s:ByteArray):Int:=if s = wName then 4 else if s = wLabel then 3 else if s = wList then 2 else if s = wTmpl then 1 else if s = wText then 0 else 5
def kindW (x:WordM):Int:=if x.lit = true then 5 else kindS x.s
theorem kindOf_of {z:Z} {w:World} {x:WordM}:Fn1 193 #[x.v] z w fun _ r=>r = .int .i64 (kindW x):=Fn1.intro fun hS=>en193 (by
 unfold vc193;refine iV_bx ?_;intro b1 w1 hb1 hS1;clear hS;refine kV_mm Value.string ?_;intro bm w2 hbm hS2;clear hS1;refine kU_mu (mk:=Value.string) ?_;intro w3 hS3;refine kU_mu (mk:=Value.string) ?_;intro w4 hS4;refine kU_mu (mk:=Value.string) ?_;intro w5 hS5;refine kU_mu (mk:=Value.string) ?_;intro w6 hS6;refine kU_mu (mk:=Value.string) ?_;intro w7 hS7;clear hS2 hS3 hS4 hS5 hS6;(repeat (first | refine V_run ?_ | refine iV_ld1 ?_));refine kV_lk (mk:=Value.string) (zv:=.int .i64 0) ?_;simp only [getK_up,getK_nil,if_true];have hq:∀ q:Option Value,q = (if x.s = ⟨#[110,97,109,101]⟩ then some (Value.int .i64 4) else if x.s = ⟨#[108,97,98,101,108]⟩ then some (Value.int .i64 3) else if x.s = ⟨#[108,105,115,116]⟩ then some (Value.int .i64 2) else if x.s = ⟨#[116,109,112,108]⟩ then some (Value.int .i64 1) else if x.s = ⟨#[116,101,120,116]⟩ then some (Value.int .i64 0) else none) ->
   q = some (.int .i64 (kindS x.s)) \/ (q = none/\kindS x.s = 5):=by
  rintro q rfl
  unfold kindS wName wLabel wList wTmpl wText
  split
  ·exact .inl rfl
  ·split
   ·exact .inl rfl
   ·split
    ·exact .inl rfl
    ·split
     ·exact .inl rfl
     ·split
      ·exact .inl rfl
      ·exact .inr ⟨rfl,rfl⟩
 generalize hQ:(if x.s = ⟨#[110,97,109,101]⟩ then some (Value.int .i64 4) else if x.s = ⟨#[108,97,98,101,108]⟩ then some (Value.int .i64 3) else if x.s = ⟨#[108,105,115,116]⟩ then some (Value.int .i64 2) else if x.s = ⟨#[116,109,112,108]⟩ then some (Value.int .i64 1) else if x.s = ⟨#[116,101,120,116]⟩ then some (Value.int .i64 0) else none) = q
 rcases hq q hQ.symm with rfl | ⟨rfl,h5⟩
 ·clear hq hQ
  refine V_run ?_;refine V_run ?_;intro K0 hK0;refine Cond_is rfl ?_;(repeat (first | refine V_run ?_ | refine iV_ld1 ?_));refine hK0 _ _ fun _=>?_
  refine Cond_n (fun h=>?_) (fun h=>?_)
  ·exact ⟨_,_,‹_›,by unfold kindW; rw [if_neg (by rw [h]; simp)]; rfl⟩
  ·exact ⟨_,_,‹_›,by unfold kindW; rw [if_pos h]⟩
 ·clear hq hQ
  refine V_run ?_;refine V_run ?_;intro K0 hK0;refine Cond_not rfl ?_;refine hK0 _ _ fun _=>?_
  refine Cond_f ?_;exact ⟨_,_,‹_›,by unfold kindW; rw [h5]; simp⟩)
def tmplW:List WordM->Option (List PartM)
 | []=>some []
 | [_]=>none
 | [_,_]=>none
 | a :: b :: c :: l=>match numW a,numW c with
  | some k,some n=>if b.lit = true then (tmplW l).map (⟨k,b.s,n⟩ :: ·) else none
  | _,_=>none
def OptR {α:Type} (E:El α) (z:Z) (r:Value) (X:Option (List α)):Prop:=
 match X with
 | none=>r = .tuple #[.slice none 0 0,.bool false]
 | some l=>∃ v,r = .tuple #[v,.bool true]/\SlR E z v l
theorem tmplW_mod:∀ (k:Nat) (l:List WordM),l.length = k->l.length % 3 ≠ 0->tmplW l = none
 | _,[],_,h=>absurd rfl h
 | _,[_],_,_=>rfl
 | _,[_,_],_,_=>rfl
 | k,a :: b :: c :: l,hk,h=>by
  simp only [List.length_cons] at hk h;have:=tmplW_mod l.length l rfl (by omega);rw [tmplW]
  split
  ·split
   ·rw [this]; rfl
   ·rfl
  ·rfl
theorem tmplOf_of {z:Z} {w:World} {v:Value} {l:List WordM} [he:Errs z] (hv:SlR El.word z v l) (hl:l.length <= 1000000) (hs:∀ x ∈ l,x.s.size <= 1000000):Fn1 194 #[v] z w fun z' r=>OptR El.part z' r (tmplW l):=Fn1.intro fun hS=>en194 (by
 unfold vc194;generalize hRR:(fun (v:Value) (w':World)=>∃ z' L',Res w z [] w' z' L'/\OptR El.part z' v (tmplW l)) = RR;have hR:∀ z' w' L' r,Res w z [] w' z' L'->OptR El.part z' r (tmplW l)->RR r w':=fun z' w' L' r k e=>by rw [<- hRR]; exact ⟨_,_,k,e⟩
 clear hRR;obtain ⟨_,a,cap,rfl,hcap,hel⟩:=hv.form;haveI:InR 0 3:=⟨by decide,by decide⟩
 refine V_run ?_;refine V_run ?_;have hrem:(l.length:Int).tmod 3 = ((l.length % 3:Nat):Int):=by rw [Int.tmod_eq_emod_of_nonneg (by omega)]; omega
 rw [hrem];refine V_run ?_;refine Cond_n (fun h=>?_) (fun h=>?_)
 ·have h:=of_decide_eq_false h
  exact hR _ _ _ _ hS (by rw [tmplW_mod _ l rfl (by omega)]; exact rfl)
 have h3:=of_decide_eq_true h;have h3:l.length % 3 = 0:=by omega
 clear h;generalize hX:tmplW l = X at hR;refine LoopG2 (fun (p:List PartM × Nat) x y w'=>y = .int .i64 ((3 * p.2:Nat):Int)/\p.1.length = p.2/\3 * p.2 <= l.length/\X = (tmplW (l.drop (3 * p.2))).map (p.1 ++ ·)/\∃ B us z',Le z z'/\OwnSl 95 3 B x p.1.length us/\Lsl El.part z' us p.1/\Res w z [] w' z' B) (fun p=>l.length - 3 * p.2) ([],0) ⟨rfl,rfl,by simp,by simp [hX],[],[],z,Le.refl _,OwnSl.nil,Lsl.nil,hS⟩ ?_;rintro I M ⟨acc,k⟩ x y w3 m ⟨rfl,hk,hk3,hx,B,us,z3,hz3,ho,hls,hS3⟩ back
 simp only at hk hk3 hx ho hls;dsimp only;clear hS hX;refine V_run ?_;refine V_run ?_;refine Cond_d (fun h=>?_) (fun h=>?_)
 ·have hlt:3 * k + 2 < l.length:=by omega
  obtain ⟨x0,hx0⟩:∃ x0,l[3 * k]? = some x0:=⟨_,List.getElem?_eq_getElem (by omega)⟩
  obtain ⟨x1,hx1⟩:∃ x1,l[3 * k + 1]? = some x1:=⟨_,List.getElem?_eq_getElem (by omega)⟩
  obtain ⟨x2,hx2⟩:∃ x2,l[3 * k + 2]? = some x2:=⟨_,List.getElem?_eq_getElem (by omega)⟩
  have hdr:l.drop (3 * k) = x0 :: x1 :: x2 :: l.drop (3 * (k + 1)):=by
   obtain ⟨q0,e0⟩:=List.getElem?_eq_some_iff.1 hx0;obtain ⟨q1,e1⟩:=List.getElem?_eq_some_iff.1 hx1;obtain ⟨q2,e2⟩:=List.getElem?_eq_some_iff.1 hx2;rw [List.drop_eq_getElem_cons q0,e0,List.drop_eq_getElem_cons q1,e1,List.drop_eq_getElem_cons q2,e2,show 3 * k + 2 + 1 = 3 * (k + 1) by omega]
  rw [hdr,tmplW] at hx;obtain ⟨bb,off,_,rfl,rfl,hat0⟩:=hel _ _ hx0;obtain ⟨bb1,off1,_,hb1,rfl,hat1⟩:=hel _ _ hx1
  cases hb1
  obtain ⟨bb2,off2,_,hb2,rfl,hat2⟩:=hel _ _ hx2
  cases hb2
  have s0:=hs x0 (List.mem_of_getElem? hx0);have s2:=hs x2 (List.mem_of_getElem? hx2);haveI:InR ((3 * k:Nat):Int) (l.length:Nat):=⟨by omega,by omega⟩
  haveI:InI (((3 * k:Nat):Int) + 2):=⟨by omega⟩
  haveI:InI (((3 * k:Nat):Int) + 1):=⟨by omega⟩
  haveI:InI (((3 * k:Nat):Int) + 3):=⟨by omega⟩
  haveI:InR (((3 * k:Nat):Int) + 2) (l.length:Nat):=⟨by omega,by omega⟩
  haveI:InR (((3 * k:Nat):Int) + 1) (l.length:Nat):=⟨by omega,by omega⟩
  haveI:Fz z bb (off + (((3 * k:Nat):Int)).toNat * 2) x0.cells:=⟨by rw [Int.toNat_natCast]; exact hat0⟩
  haveI:Fz z bb (off + ((((3 * k:Nat):Int)) + 2).toNat * 2) x2.cells:=⟨by rw [show (((3 * k:Nat):Int) + 2).toNat = 3 * k + 2 by omega]; exact hat2⟩
  haveI:Fz z bb (off + ((((3 * k:Nat):Int)) + 1).toNat * 2) [.string x1.s]:=⟨by rw [show (((3 * k:Nat):Int) + 1).toNat = 3 * k + 1 by omega]; exact hat1.fld (i:=0) rfl rfl⟩
  haveI:Fz z bb (off + ((((3 * k:Nat):Int)) + 1).toNat * 2 + 1) [.bool x1.lit]:=⟨by rw [show (((3 * k:Nat):Int) + 1).toNat = 3 * k + 1 by omega]; exact hat1.fld (i:=1) rfl rfl⟩
  haveI he3:Errs z3:=he.le hz3;(repeat (first | refine V_run ?_ | refine fV_ldN ?_));refine CV_1 (number_of s0) ?_;rintro z4 w4 v4 hz4 hS4 ⟨n0,rfl,hn0⟩
  haveI he4:Errs z4:=he3.le hz4;clear hS3;(repeat (first | refine V_run ?_ | refine fV_ldN ?_));refine CV_1 (number_of s2) ?_;rintro z5 w5 v5 hz5 hS5 ⟨n2,rfl,hn2⟩
  clear hS4;(repeat (first | refine V_run ?_ | refine JB ?_ | (refine JGB ?_; intro _ _ _ _)));rename_i hS6;clear hS5;refine Cond_b (fun h=>?_) (fun h=>?_)
  ·refine hR _ _ _ _ hS6 ?_
   have:X = none:=by
    rw [hx]
    cases h0:numW x0 with
    | none=>rfl
    | some u=>
     cases h2:numW x2 with
     | none=>rfl
     | some v=>
      rw [h0,h2] at h;have hb:x1.lit = false:=by simpa using h
      simp only [hb]
      rfl
   rw [this]; exact rfl
  ·cases h0:numW x0 with
   | none=>rw [h0] at h; simp at h
   | some u=>
    cases h2:numW x2 with
    | none=>rw [h0,h2] at h; simp at h
    | some v=>
     rw [h0,h2] at h hx;have hb:x1.lit = true:=by simpa using h
     simp only [hb,if_true] at hx;have e0:=hn0 u h0;have e2:=hn2 v h2;subst e0 e2;clear h;(repeat (first | refine V_run ?_ | refine fV_ld1 ?_));refine V_push hS6 ho (by simp only [room]; omega) (by simp only [room]; omega) (by omega) ?_;intro B7 v7 w7 ho7 hS7;rw [List.append_nil] at hS7;refine V_run ?_;rw [show ((3 * k:Nat):Int) + 3 = ((3 * (k + 1):Nat):Int) by omega];have hsz1:=hs x1 (List.mem_of_getElem? hx1);refine back (acc ++ [⟨n0,x1.s,n2⟩],k + 1) _ _ _ ⟨rfl,by simp [hk],by simp only; omega,?_,B7,_,_,by (repeat (exact Res.zle (by assumption))),by rw [List.length_append]; exact ho7,(hls.mono (by (repeat (first | assumption | refine Le.trans ?_ (by assumption:Le _ _))))).push ⟨rfl,by show x1.s.size <= big; simp only [big]; omega⟩,hS7⟩ (by simp only; omega);rw [hx]
     cases tmplW (l.drop (3 * (k + 1))) <;> simp
 ·rw [List.drop_of_length_le (by omega),tmplW] at hx
  obtain ⟨z4,hz4,hS4,hv4⟩:=Res.freezeL (E:=El.part) (e:=95) (xs:=acc) (hS3.bring B) ho hls (by simp only [big]; omega);refine hR _ _ _ _ hS4 ?_;rw [hx];exact ⟨_,rfl,by simpa using hv4⟩)
def itemOfW (x:WordM):ItemM:=if preB x.s (b1 40) = true/\lastB (x.s.extract 1 x.s.size) 41 = true then ⟨x.s.extract 1 x.s.size |> fun t=>t.extract 0 (t.size - 1),true⟩ else ⟨x.s,false⟩
def listW:List WordM->Option (List ItemM)
 | []=>some []
 | x :: l=>if x.lit = true then none else (listW l).map (itemOfW x :: ·)
theorem listOf_of {z:Z} {w:World} {v:Value} {l:List WordM} (hv:SlR El.word z v l) (hl:l.length <= 1000000) (hs:∀ x ∈ l,x.s.size <= 1000000):Fn1 195 #[v] z w fun z' r=>OptR El.item z' r (listW l):=Fn1.intro fun hS=>en195 (by
 unfold vc195;generalize hRR:(fun (v:Value) (w':World)=>∃ z' L',Res w z [] w' z' L'/\OptR El.item z' v (listW l)) = RR;have hR:∀ z' w' L' r,Res w z [] w' z' L'->OptR El.item z' r (listW l)->RR r w':=fun z' w' L' r k e=>by rw [<- hRR]; exact ⟨_,_,k,e⟩
 clear hRR;obtain ⟨_,a,cap,rfl,hcap,hel⟩:=hv.form;refine V_run ?_;generalize hX:listW l = X at hR;refine LoopG2 (fun (p:List ItemM) x y w'=>y = .int .i64 (p.length:Nat)/\p.length <= l.length/\X = (listW (l.drop p.length)).map (p ++ ·)/\∃ B us z',Le z z'/\OwnSl 98 2 B x p.length us/\Lsl El.item z' us p/\Res w z [] w' z' B) (fun p=>l.length - p.length) [] ⟨rfl,Nat.zero_le _,by simp [hX],[],[],z,Le.refl _,OwnSl.nil,Lsl.nil,hS⟩ ?_;rintro I M acc x y w3 m ⟨rfl,hk,hx,B,us,z3,hz3,ho,hls,hS3⟩ back
 clear hS hX;refine V_run ?_;refine Cond_d (fun h=>?_) (fun h=>?_)
 ·have hlt:acc.length < l.length:=by omega
  have hc:l[acc.length]? = some l[acc.length]:=List.getElem?_eq_getElem hlt;rw [List.drop_eq_getElem_cons hlt,listW] at hx;generalize l[acc.length] = c at hc hx;obtain ⟨bb,off,_,rfl,rfl,hat⟩:=hel _ _ hc;have hsz:=hs c (List.mem_of_getElem? hc);haveI:InR (acc.length:Int) (l.length:Nat):=⟨by omega,by omega⟩
  haveI:InI ((acc.length:Int) + 1):=⟨by omega⟩
  haveI:Fz z bb (off + (acc.length:Int).toNat * 2) c.cells:=⟨by rw [Int.toNat_natCast]; exact hat⟩
  intro K0 hK0;have mk:∀ (it:ItemM) v' B' us' z' w',c.lit = false->itemOfW c = it->Le z3 z'->OwnSl 98 2 B' v' (acc.length + 1) us'->Lsl El.item z' us' (acc ++ [it])->Res w z [] w' z' B'->K0 [v'] w':=by
   intro it v' B' us' z' w' h0 h1 h2 h3 h4 h5;refine hK0 _ _ fun _=>?_
   refine V_run ?_;refine back (acc ++ [it]) _ _ _ ⟨by simp,by simp; omega,?_,B',us',z',by (repeat (exact Res.zle (by assumption))),by rw [List.length_append]; exact h3,h4,h5⟩ (by simp; omega);rw [hx,h0,if_neg (by simp),h1,List.length_append];simp only [List.length_cons,List.length_nil,Nat.zero_add]
   cases listW (l.drop (acc.length + 1)) <;> simp
  clear hK0 back;have push:∀ (it:ItemM) z' w' (L:Bl),c.lit = false->itemOfW c = it->it.name.size <= 1000000->Le z3 z'->Res w z [] w' z' (L ++ B)->V (bs 96 1 #[(0,it.v)]) w' fun t36 w=>V (Builtin.append_ #[96,96] 96 #[x,t36]) w fun t37 w=>K0 [t37] w:=by
   intro it z' w' L h0 h1 h2 hz' hS';refine V_push (R:=L) (gb:=⟨by simpa using (List.perm_append_comm (l₁:=L) (l₂:=B))⟩) hS' ho (by simp only [room]; omega) (by simp only [room]; omega) (by omega) ?_;intro B7 v7 w7 ho7 hS7;exact mk it _ _ _ z' _ h0 h1 hz' ho7 ((hls.mono hz').push ⟨rfl,by simp only [big]; omega⟩) (hS7.keep [.bl B7] |> fun h=>by simpa using h)
  (repeat (first | refine V_run ?_ | refine fV_ldN ?_));refine iV_al ?_;intro b6 w4 hb6 hS4;refine iU_st ?_;intro w5 hS5;clear hS3 hS4;(repeat (first | refine V_run ?_ | refine iV_ld1 ?_));refine Cond_b (fun hlit=>?_) (fun hlit=>?_)
  ·rw [if_pos hlit] at hx
   exact hR _ _ _ _ hS5 (by rw [hx]; exact rfl)
  (repeat (first | refine V_run ?_ | refine iV_ld1 ?_ | (refine CV_pu ?_; intro _ _ _ _)));rename_i hS6;clear hS5
  by_cases hp:preB c.s (b1 40) = true
  ·rw [show cutPre c.s (b1 40) = .tuple #[.string (c.s.extract 1 c.s.size),.bool true] by unfold cutPre; rw [if_pos hp]; rfl]
   have hse:(c.s.extract 1 c.s.size).size <= c.s.size:=by simp
   haveI:Sm (c.s.extract 1 c.s.size):=⟨by simp only [big]; omega⟩
   refine V_run ?_;refine V_run ?_;refine CV_pu ?_;intro z7 w7 hz7 hS7;clear hS6
   by_cases hq:lastB (c.s.extract 1 c.s.size) 41 = true
   ·rw [show cutSuf (c.s.extract 1 c.s.size) 41 = .tuple #[.string ((c.s.extract 1 c.s.size).extract 0 ((c.s.extract 1 c.s.size).size - 1)),.bool true] by unfold cutSuf; rw [if_pos hq]]
    refine V_run ?_;refine V_run ?_;intro K1 hK1;refine Cond_t ?_;refine hK1 _ _ fun _=>?_
    refine Cond_t ?_;refine V_run ?_;exact push ⟨(c.s.extract 1 c.s.size).extract 0 ((c.s.extract 1 c.s.size).size - 1),true⟩ z7 _ [_] hlit (by unfold itemOfW; rw [if_pos ⟨hp,hq⟩]) (by simp; omega) (by (repeat (first | assumption | refine Le.trans ?_ (by assumption:Le _ _)))) hS7
   ·rw [show cutSuf (c.s.extract 1 c.s.size) 41 = .tuple #[.string (c.s.extract 1 c.s.size),.bool false] by unfold cutSuf; rw [if_neg hq]]
    refine V_run ?_;refine V_run ?_;intro K1 hK1;refine Cond_t ?_;refine hK1 _ _ fun _=>?_
    refine Cond_f ?_;(repeat (first | refine V_run ?_ | refine iV_ld1 ?_));exact push ⟨c.s,false⟩ z7 _ [_] hlit (by unfold itemOfW; rw [if_neg fun h=>hq h.2]) hsz (by (repeat (first | assumption | refine Le.trans ?_ (by assumption:Le _ _)))) hS7
  ·rw [show cutPre c.s (b1 40) = .tuple #[.string c.s,.bool false] by unfold cutPre; rw [if_neg hp]]
   haveI:Sm c.s:=⟨by simp only [big]; omega⟩
   refine V_run ?_;refine V_run ?_;refine CV_pu ?_;intro z7 w7 hz7 hS7;clear hS6;have hsuf:∃ r b,cutSuf c.s 41 = .tuple #[r,.bool b]:=by
    unfold cutSuf
    split
    ·exact ⟨_,_,rfl⟩
    ·exact ⟨_,_,rfl⟩
   obtain ⟨r,bq,hsuf⟩:=hsuf;rw [hsuf];refine V_run ?_;refine V_run ?_;intro K1 hK1;refine Cond_f ?_;refine hK1 _ _ fun _=>?_
   refine Cond_f ?_;(repeat (first | refine V_run ?_ | refine iV_ld1 ?_));exact push ⟨c.s,false⟩ z7 _ [_] hlit (by unfold itemOfW; rw [if_neg fun h=>hp h.1]) hsz (by (repeat (first | assumption | refine Le.trans ?_ (by assumption:Le _ _)))) hS7
 ·rw [List.drop_of_length_le (by omega),listW] at hx
  obtain ⟨z4,hz4,hS4,hv4⟩:=Res.freezeL (E:=El.item) (e:=98) (xs:=acc) (hS3.bring B) ho hls (by simp only [big]; omega);refine hR _ _ _ _ hS4 ?_;rw [hx];exact ⟨_,rfl,by simpa using hv4⟩)
end
section
open Go Q Go.RowKit
def numsW:List WordM->Option (List Int)
 | []=>some []
 | x :: l=>match numW x with
  | none=>none
  | some n=>(numsW l).map (n :: ·)
def opFrom (s:ByteArray):List FormM->Nat->Option Nat
 | [],_=>none
 | f :: l,k=>if f.name = s/\0 < k then some k else opFrom s l (k + 1)
def insOfW (s:ByteArray) (l:List WordM):Option InsM:=
 if 3 < l.length then none else match numsW l with
  | none=>none
  | some ns=>match opFrom s formL 0 with
   | none=>none
   | some k=>some ⟨k,ns.getD 0 0,ns.getD 1 0,ns.getD 2 0⟩
def insOV:Option InsM->Value
 | none=>.tuple #[.agg [.int .i64 0,.int .i64 0,.int .i64 0,.int .i64 0].toArray,.bool false]
 | some i=>.tuple #[i.v,.bool true]
theorem V_ixN' {w:World} {t n e s:Nat} [g:TyArr t n e s] [ga:TyAgg e s] [gs:TySize e s] {l vs:List Value} {i:Int} {k:IntKind} {K:Value->World->Prop} (h0:0 <= i) (h1:i < n) (he:l.toArray.extract (i.toNat * s) (i.toNat * s + s) = vs.toArray) (hk:K (.agg vs.toArray) w):V (ix t (.agg l.toArray) (.int k i)) w K:=
 ⟨_,w,by
  simp only [ix,Instr.index,asIntOf,pure_bind,Sem.run_bind,g.und,g.size,Result.andThen_ok,h0,h1,and_self,if_true];rw [run_partN,he],hk⟩
theorem formL_len:formL.length = 47:=by decide +kernel
theorem cond_and' {a c:Bool} (h:(bif a then c else false) = true):a = true/\c = true:=by cases a <;> simp_all
theorem insOf_of {z:Z} {w:World} {v:Value} {s:ByteArray} {l:List WordM} [he:Errs z] (hv:SlR El.word z v l) (hl:l.length <= 1000000) (hs:∀ x ∈ l,x.s.size <= 1000000):Fn1 197 #[.string s,v] z w fun _ r=>r = insOV (insOfW s l):=Fn1.intro fun hS=>en197 (by
 unfold vc197;generalize hRR:(fun (v:Value) (w':World)=>∃ z' L',Res w z [] w' z' L'/\v = insOV (insOfW s l)) = RR;have hR:∀ z' w' L' r,Res w z [] w' z' L'->r = insOV (insOfW s l)->RR r w':=fun z' w' L' r k e=>by rw [<- hRR]; exact ⟨_,_,k,e⟩
 clear hRR;obtain ⟨_,a,cap,rfl,hcap,hel⟩:=hv.form;refine iV_al ?_;intro b4 w1 hb4 hS1;clear hS;refine V_run ?_;refine V_run ?_;refine Cond_d (fun h=>?_) (fun h=>?_)
 ·(repeat (first | refine V_run ?_ | (refine iU_st ?_; intro _ _) | refine iHV_N ?_))
  exact hR _ _ _ _ (by assumption) (by unfold insOfW; rw [if_pos (by omega)]; rfl)
 have hl3:l.length <= 3:=by omega
 have hins:insOfW s l = match numsW l with
  | none=>none
  | some ns=>match opFrom s formL 0 with
   | none=>none
   | some k=>some ⟨k,ns.getD 0 0,ns.getD 1 0,ns.getD 2 0⟩:=by unfold insOfW; rw [if_neg (by omega)]
 generalize insOfW s l = X at hR hins;refine iV_al ?_;intro b6 w2 hb6 hS2;clear hS1 h;refine V_run ?_;refine LoopG1 (fun (ns:List Int) x w'=>x = .int .i64 (ns.length:Nat)/\ns.length <= l.length/\numsW l = (numsW (l.drop ns.length)).map (ns ++ ·)/\∃ z',Le z z'/\Res w z [] w' z' [(b6,.cells [.int .i64 (ns.getD 0 0),.int .i64 (ns.getD 1 0),.int .i64 (ns.getD 2 0)].toArray 100 (0,0)),(b4,.cells [.int .i64 0,.int .i64 0,.int .i64 0,.int .i64 0].toArray 38 (0,0))]) (fun ns=>l.length - ns.length) [] ⟨rfl,Nat.zero_le _,by simp,z,Le.refl _,hS2⟩ ?_;rintro I M ns x w3 m ⟨rfl,hk,hn,z3,hz3,hS3⟩ back
 clear hS2;refine V_run ?_;refine Cond_d (fun h=>?_) (fun h=>?_)
 ·have hlt:ns.length < l.length:=by omega
  have hc:l[ns.length]? = some l[ns.length]:=List.getElem?_eq_getElem hlt;rw [List.drop_eq_getElem_cons hlt,numsW] at hn;generalize l[ns.length] = c at hc hn;obtain ⟨bb,off,_,rfl,rfl,hat⟩:=hel _ _ hc;have hsz:=hs c (List.mem_of_getElem? hc);haveI:InR (ns.length:Int) (l.length:Nat):=⟨by omega,by omega⟩
  haveI:InR (ns.length:Int) (3:Nat):=⟨by omega,by omega⟩
  haveI:MulI (ns.length:Int) 1 ns.length:=⟨by simp,by omega⟩
  haveI:InI ((ns.length:Int) + 1):=⟨by omega⟩
  haveI:Fz z bb (off + (ns.length:Int).toNat * 2) c.cells:=⟨by rw [Int.toNat_natCast]; exact hat⟩
  haveI:SetN [Value.int .i64 (ns.getD 0 0),Value.int .i64 (ns.getD 1 0),Value.int .i64 (ns.getD 2 0)] ns.length [Value.int .i64 0] ([Value.int .i64 (ns.getD 0 0),Value.int .i64 (ns.getD 1 0),Value.int .i64 (ns.getD 2 0)].set ns.length (Value.int .i64 0)):=SetN.at_ (by show ns.length < 3; omega);(repeat (first | refine V_run ?_ | refine fV_ldN ?_));refine iV_al ?_;intro b8 w4 hb8 hS4;refine iU_st ?_;intro w5 hS5;clear hS3 hS4;haveI:Errs z3:=he.le hz3;(repeat (refine iV_ldN ?_));refine CV_1 (number_of hsz) ?_;rintro z6 w6 v6 hz6 hS6 ⟨n,rfl,hn6⟩
  clear hS5;refine V_run ?_;refine V_run ?_;refine V_run ?_;refine Cond_n (fun h1=>?_) (fun h1=>?_)
  ·have hnone:numW c = none:=by cases hc':numW c with
    | none=>rfl
    | some u=>rw [hc'] at h1; cases h1
   (repeat (first | refine V_run ?_ | (refine iU_st ?_; intro _ _) | refine iHV_N ?_));refine hR _ _ _ _ (by assumption) ?_;rw [hins,hn,hnone]
   rfl
  ·obtain ⟨u,hu⟩:∃ u,numW c = some u:=Option.isSome_iff_exists.1 h1
   have:=hn6 u hu;subst this;rw [hu] at hn;simp only at hn;refine V_run ?_;haveI:SetN [Value.int .i64 (ns.getD 0 0),Value.int .i64 (ns.getD 1 0),Value.int .i64 (ns.getD 2 0)] ns.length [Value.int .i64 n] ([Value.int .i64 (ns.getD 0 0),Value.int .i64 (ns.getD 1 0),Value.int .i64 (ns.getD 2 0)].set ns.length (Value.int .i64 n)):=SetN.at_ (by show ns.length < 3; omega);refine iU_st ?_;intro w7 hS7;refine V_run ?_;have hset:[Value.int .i64 (ns.getD 0 0),Value.int .i64 (ns.getD 1 0),Value.int .i64 (ns.getD 2 0)].set ns.length (Value.int .i64 n) = [Value.int .i64 ((ns ++ [n]).getD 0 0),Value.int .i64 ((ns ++ [n]).getD 1 0),Value.int .i64 ((ns ++ [n]).getD 2 0)]:=by
    match ns,(by omega:ns.length < 3) with
    | [],_=>rfl
    | [x0],_=>rfl
    | [x0,x1],_=>rfl
   have hS8:=hS7.keep [.at b6,.at b4];rw [hset] at hS8;refine back (ns ++ [n]) _ _ ⟨by simp,by simp; omega,?_,z6,by (repeat (exact Res.zle (by assumption))),hS8⟩ (by simp; omega);rw [hn,List.length_append];simp only [List.length_cons,List.length_nil,Nat.zero_add]
   cases numsW (l.drop (ns.length + 1)) <;> simp
 ·rw [List.drop_of_length_le (by omega),numsW] at hn
  simp only [Option.map_some,List.append_nil] at hn;rw [hn] at hins;simp only at hins;clear back h hk hn;(repeat (refine CV_pu ?_; intro _ _ _ _));rename_i hS4;clear hS3;generalize ns.getD 0 0 = n0 at *;generalize ns.getD 1 0 = n1 at *;generalize ns.getD 2 0 = n2 at *;refine LoopR1 (fun (j:Nat) x=>x = .int .i64 j/\j <= 47/\opFrom s formL 0 = opFrom s (formL.drop j) j) (fun j=>47 - j) 0 ⟨rfl,by omega,rfl⟩ ?_;rintro J N j x w5 z5 m5 ⟨rfl,hj,hop⟩ hz5 hS5 back
  clear hS4;refine V_run ?_;refine Cond_d (fun h=>?_) (fun h=>?_)
  ·have hjl:j < formL.length:=by rw [formL_len]; omega
   have hf:formL[j]? = some formL[j]:=List.getElem?_eq_getElem hjl;rw [List.drop_eq_getElem_cons hjl,opFrom] at hop;generalize formL[j] = f at hf hop;haveI:InI ((j:Int) + 1):=⟨by omega⟩
   refine V_ixN' (n:=47) (s:=8) (e:=102) (vs:=f.cells) (by omega) (by omega) (flat_extract (f:=FormM.cells) (n:=8) (fun x=>rfl) (by rw [Int.toNat_natCast]; exact hf)) ?_;dsimp only [FormM.cells];(repeat (first | refine V_run ?_ | refine iV_ld1 ?_ | (refine iV_bx ?_; intro _ _ _ _) | (refine iU_st ?_; intro _ _) | refine JB ?_));rename_i hS6;clear hS5;refine Cond_b (fun h2=>?_) (fun h2=>?_)
   ·have h2:=cond_and' h2
    have e1:=of_decide_eq_true h2.1;have e2:=of_decide_eq_true h2.2;rw [if_pos ⟨e1,by omega⟩] at hop;rw [hop] at hins;simp only at hins;haveI:InR 0 (3:Nat):=⟨by decide,by decide⟩
    haveI:InR 1 (3:Nat):=⟨by decide,by decide⟩
    haveI:InR 2 (3:Nat):=⟨by decide,by decide⟩
    (repeat (first | refine V_run ?_ | refine iV_ld1 ?_ | (refine iU_st ?_; intro _ _) | refine iHV_N ?_));exact hR _ _ _ _ (by assumption) (by rw [hins]; rfl)
   ·have hno:¬ (f.name = s/\0 < j):=fun e=>by
     rw [decide_eq_true e.1,decide_eq_true (by omega:(j:Int) > 0)] at h2
     cases h2
    rw [if_neg hno] at hop;refine V_run ?_;exact back (j + 1) _ _ _ ⟨by simp,by omega,hop⟩ (by (repeat (exact Le.refl _))) (hS6.keep [.at b6,.at b4]) (by omega)
  ·have hj47:j = 47:=by omega
   subst hj47;rw [List.drop_of_length_le (by rw [formL_len]; omega),opFrom] at hop;rw [hop] at hins;simp only at hins;(repeat (first | refine V_run ?_ | (refine iU_st ?_; intro _ _) | refine iHV_N ?_));exact hR _ _ _ _ (by assumption) (by rw [hins]; rfl))
end
section
open Go Q Go.RowKit
theorem foldl_sum {α:Type} {f:ByteArray->α->ByteArray} {g:α->Nat}:∀ (l:List α) (s:ByteArray),(∀ s x,x ∈ l->(f s x).size <= s.size + g x)->(l.foldl f s).size <= s.size + (l.map g).sum
 | [],s,h=>by simp
 | x :: l,s,h=>by
  have h1:=foldl_sum l (f s x) fun s y hy=>h s y (List.mem_cons_of_mem _ hy)
  have h2:=h s x List.mem_cons_self;rw [List.foldl_cons,List.map_cons,List.sum_cons];omega
theorem sum_split {α:Type} (g:α->Nat) (l:List α) (k:Nat) (x:α) (hx:l[k]? = some x):((l.take k).map g).sum + g x <= (l.map g).sum:=by
 induction l generalizing k with
 | nil=>simp at hx
 | cons y l ih=>
  cases k with
  | zero=>simp at hx; subst hx; simp
  | succ k=>
   have:=ih k (by simpa using hx);simp only [List.take_succ_cons,List.map_cons,List.sum_cons];omega
theorem quotedB_le {s:ByteArray} (h:s.size <= 1000000):(quotedB s).size <= 3 * s.size + 10:=by
 have:=quotedB_size (s:=s);omega
theorem tmplStep_le {s:ByteArray} {p:PartM} (h1:InI p.kind) (h2:InI p.n) (h3:p.text.size <= 1000000):sizes [s,itoaB p.kind,quotedB p.text,itoaB p.n] <= s.size + (3 * p.text.size + 60)/\(tmplStep s p).size <= s.size + (3 * p.text.size + 60):=by
 have a:=itoaB_size h1;have b:=itoaB_size h2;have c:=quotedB_le h3;have d:sizes [s,itoaB p.kind,quotedB p.text,itoaB p.n] <= s.size + (3 * p.text.size + 52):=by simp only [sizes,List.map_cons,List.map_nil,List.sum_cons,List.sum_nil]; omega
 have e:=joinB_size [s,itoaB p.kind,quotedB p.text,itoaB p.n];simp only [List.length_cons,List.length_nil] at e;exact ⟨by omega,by rw [tmplStep]; omega⟩
theorem tmplLine_gen {z:Z} {w:World} {v:Value} {l:List PartM} [ht:Tab z] (hv:SlR El.part z v l) (hl:(l.map fun p=>3 * p.text.size + 60).sum <= 900000000) (hp:∀ p ∈ l,InI p.kind/\InI p.n/\p.text.size <= 1000000) :
  Fn1 128 #[v] z w fun _ r=>r = .string (tmplT l):=Fn1.intro fun hS=>en128 (by
 unfold vc128;obtain ⟨_,a,cap,rfl,hcap,hel⟩:=hv.form;refine V_run ?_;refine LoopR2 (fun k s i=>i = .int .i64 (k:Nat)/\k <= l.length/\s = .string ((l.take k).foldl tmplStep ⟨#[116,109,112,108]⟩)) (fun k=>l.length - k) 0 ⟨rfl,Nat.zero_le _,rfl⟩ ?_;rintro I M k u v w1 z1 m ⟨rfl,hk,rfl⟩ hz1 hS1 back
 clear hS;refine V_run ?_;refine Cond_d (fun h=>?_) (fun h=>?_)
 ·have hlt:k < l.length:=by omega
  have hi:=List.getElem?_eq_getElem hlt;obtain ⟨i1,i2,i3⟩:=hp _ (List.getElem_mem hlt);have hlen:=foldl_sum (f:=tmplStep) (g:=fun p=>3 * p.text.size + 60) (l.take k) ⟨#[116,109,112,108]⟩ fun s x hx=>(tmplStep_le (hp _ (List.mem_of_mem_take hx)).1 (hp _ (List.mem_of_mem_take hx)).2.1 (hp _ (List.mem_of_mem_take hx)).2.2).2
  have hsp:=sum_split (fun p:PartM=>3 * p.text.size + 60) l k _ hi;rw [show (⟨#[116,109,112,108]⟩:ByteArray).size = 4 from rfl] at hlen;have htf:=take_fold (f:=tmplStep) (s:=⟨#[116,109,112,108]⟩) hlt;generalize hs:(l.take k).foldl tmplStep ⟨#[116,109,112,108]⟩ = s at back hlen htf ⊢;have hll:=hv.form.1;simp only [big] at hll;haveI:InI l[k].kind:=i1;haveI:InI l[k].n:=i2;haveI i3:Brief l[k].text:=⟨i3⟩
  have hts:=tmplStep_le (s:=s) i1 i2 i3.h;haveI:InR (k:Int) (l.length:Nat):=⟨by omega,by omega⟩
  haveI:InI ((k:Int) + 1):=⟨by omega⟩
  obtain ⟨b,off,cs,rfl,⟨rfl,_⟩,hat⟩:=hel _ _ hi;haveI:Fz z b (off + (k:Int).toNat * 3) l[k].cells:=⟨by rw [Int.toNat_natCast]; exact hat⟩
  (repeat (first | (refine iDr ?_; intro _ _) | refine V_run ?_ | refine PV_run ?_ | (refine iV_bx ?_; intro _ _ _ _) | (refine iU_st ?_; intro _ _) | refine iHV_1 ?_ | refine iRI_1 ?_ | (refine CV_pu ?_; intro _ _ _ _) | (refine CV_puz ?_; intro _ _ _ _) | refine fV_ldN ?_));refine V_words (out:=[_,_,_,_]) [s,itoaB l[k].kind,quotedB l[k].text,itoaB l[k].n] rfl rfl (by omega) (by omega) ?_;intro z2 w2 hz2 hS2;refine V_run ?_;exact back (k + 1) _ _ _ _ ⟨by simp,by omega,by rw [htf]; rfl⟩ (by (repeat (first | assumption | refine Le.trans ?_ (by assumption:Le _ _)))) hS2.drop (by omega)
 ·have hk2:k = l.length:=by omega
  subst hk2;rw [List.take_length];exact ⟨_,_,hS1,rfl⟩)
theorem listStep_le {s:ByteArray} {x:ItemM}:sizes [s,if x.via = true then b1 40 ++ x.name ++ b1 41 else x.name] <= s.size + (x.name.size + 10)/\(listStep s x).size <= s.size + (x.name.size + 10):=by
 have d:sizes [s,if x.via = true then b1 40 ++ x.name ++ b1 41 else x.name] <= s.size + (x.name.size + 2):=by
  simp only [sizes,List.map_cons,List.map_nil,List.sum_cons,List.sum_nil]
  split
  ·rw [ByteArray.size_append,ByteArray.size_append,show (b1 40).size = 1 from rfl,show (b1 41).size = 1 from rfl]; omega
  ·omega
 have e:=joinB_size [s,if x.via = true then b1 40 ++ x.name ++ b1 41 else x.name];simp only [List.length_cons,List.length_nil] at e;exact ⟨by omega,by rw [listStep]; omega⟩
theorem listLine_gen {z:Z} {w:World} {v:Value} {l:List ItemM} (hv:SlR El.item z v l) (hl:(l.map fun x=>x.name.size + 10).sum <= 900000000) :
  Fn1 129 #[v] z w fun _ r=>r = .string (listT l):=Fn1.intro fun hS=>en129 (by
 unfold vc129;obtain ⟨hll,a,cap,rfl,hcap,hel⟩:=hv.form;simp only [big] at hll;refine V_run ?_;refine LoopR2 (fun k s i=>i = .int .i64 (k:Nat)/\k <= l.length/\s = .string ((l.take k).foldl listStep ⟨#[108,105,115,116]⟩)) (fun k=>l.length - k) 0 ⟨rfl,Nat.zero_le _,rfl⟩ ?_;rintro I M k u v w1 z1 m ⟨rfl,hk,rfl⟩ hz1 hS1 back
 clear hS;refine V_run ?_;refine Cond_d (fun h=>?_) (fun h=>?_)
 ·have hlt:k < l.length:=by omega
  have hi:=List.getElem?_eq_getElem hlt;have hlen:=foldl_sum (f:=listStep) (g:=fun x=>x.name.size + 10) (l.take k) ⟨#[108,105,115,116]⟩ fun s x hx=>listStep_le.2
  have hsp:=sum_split (fun x:ItemM=>x.name.size + 10) l k _ hi;rw [show (⟨#[108,105,115,116]⟩:ByteArray).size = 4 from rfl] at hlen;have htf:=take_fold (f:=listStep) (s:=⟨#[108,105,115,116]⟩) hlt;generalize hs:(l.take k).foldl listStep ⟨#[108,105,115,116]⟩ = s at back hlen htf ⊢;have hts:=(listStep_le (s:=s) (x:=l[k])).1;haveI:InR (k:Int) (l.length:Nat):=⟨by omega,by omega⟩
  haveI:InI ((k:Int) + 1):=⟨by omega⟩
  obtain ⟨b,off,cs,rfl,⟨rfl,_⟩,hat⟩:=hel _ _ hi;generalize hxx:l[k] = x at hts hat htf hsp;obtain ⟨nm,via⟩:=x;simp only at hts hsp;haveI:Fz z b (off + (k:Int).toNat * 2) (ItemM.cells ⟨nm,via⟩):=⟨by rw [Int.toNat_natCast]; exact hat⟩
  haveI:Cat (b1 40) nm:=⟨by rw [show (b1 40).size = 1 from rfl]; omega⟩
  haveI:Cat (b1 40 ++ nm) (b1 41):=⟨by rw [ByteArray.size_append,show (b1 40).size = 1 from rfl,show (b1 41).size = 1 from rfl]; omega⟩
  intro K hK;have main:∀ w' z' L',Le z1 z'->Res w z [] w' z' L'->K [.string (listStep s ⟨nm,via⟩)] w':=by
   intro w' z' L' hz' hS';refine hK _ _ fun _=>?_
   refine V_run ?_;exact back (k + 1) _ _ _ _ ⟨by simp,by omega,by rw [htf]⟩ hz' hS'.drop (by omega)
  clear hK back;(repeat (first | refine V_run ?_ | refine iV_ld1 ?_ | (refine iV_bx ?_; intro _ _ _ _) | (refine iU_st ?_; intro _ _) | refine fV_ldN ?_))
  cases via
  ·(repeat (first | refine V_run ?_ | refine iV_ld1 ?_ | refine Cond_f ?_))
   refine V_words (out:=[_,_]) [s,nm] rfl rfl (by omega) (Nat.le_trans (by simpa using hts) (by omega:s.size + (nm.size + 10) <= 1000000000)) ?_;intro z2 w2 hz2 hS2;exact main _ _ _ (by (repeat (assumption))) hS2
  ·(repeat (first | refine V_run ?_ | refine iV_ld1 ?_ | refine Cond_t ?_))
   refine V_words (out:=[_,_]) [s,b1 40 ++ nm ++ b1 41] rfl rfl (by omega) (Nat.le_trans (by simpa using hts) (by omega:s.size + (nm.size + 10) <= 1000000000)) ?_;intro z2 w2 hz2 hS2;exact main _ _ _ (by (repeat (assumption))) hS2
 ·have hk2:k = l.length:=by omega
  subst hk2;rw [List.take_length];exact ⟨_,_,hS1,rfl⟩)
end
section
open Go Q Go.RowKit
theorem litS_sum:∀ (l:List UInt8) (q:Bool) (acc a r:List UInt8),litS q acc l = some (a,r)->a.length + r.length <= acc.length + l.length
 | [],false,acc,a,r,h=>by simp [litS] at h
 | [],true,acc,a,r,h=>by simp only [litS,Option.some.injEq,Prod.mk.injEq] at h; obtain ⟨rfl,rfl⟩:=h; simp
 | c :: t,false,acc,a,r,h=>by
  rw [litS] at h
  split at h
  ·have:=litS_sum t true acc a r h; simp only [List.length_cons]; omega
  ·have:=litS_sum t false (acc ++ [c]) a r h; simp only [List.length_cons,List.length_append,List.length_nil] at this ⊢; omega
 | c :: t,true,acc,a,r,h=>by
  rw [litS] at h
  split at h
  ·have:=litS_sum t false (acc ++ [34]) a r h; simp only [List.length_cons,List.length_append,List.length_nil] at this ⊢; omega
  ·simp only [Option.some.injEq,Prod.mk.injEq] at h; obtain ⟨rfl,rfl⟩:=h; simp
theorem tokM_sum {bare:Bool} {s r:List UInt8} {t:WordM} (h:tokM bare s = some (t,r)):t.s.size + r.length <= s.length:=by
 unfold tokM at h
 split at h
 ·split at h
  ·cases h
  ·rename_i x r' hl
   split at h
   ·cases h
   ·simp only [Option.some.injEq,Prod.mk.injEq] at h
    obtain ⟨rfl,rfl⟩:=h;have:=litS_sum _ _ _ _ _ hl;have h2:(ByteArray.mk x.toArray).size = x.length:=rfl;rw [h2];simp only [List.length_drop,List.length_nil] at this;omega
 ·split at h
  ·cases h
  ·simp only [Option.some.injEq,Prod.mk.injEq] at h
   obtain ⟨rfl,rfl⟩:=h;have h1:(s.takeWhile (· ≠ 32) ++ s.dropWhile (· ≠ 32)).length = s.length:=by rw [List.takeWhile_append_dropWhile]
   have h2:(ByteArray.mk (s.takeWhile (· ≠ 32)).toArray).size = (s.takeWhile (· ≠ 32)).length:=rfl;rw [List.length_append] at h1;rw [h2]; omega
theorem wordsM_sum {bare:Bool}:∀ (f:Nat) (s:List UInt8) (l:List WordM),wordsM bare f s = some l->(l.map (·.s.size)).sum <= s.length/\l.length <= s.length/\l ≠ []
 | 0,s,l,h=>by cases h
 | f + 1,s,l,h=>by
  rw [wordsM] at h
  cases ht:tokM bare s with
  | none=>rw [ht] at h; cases h
  | some x=>
   obtain ⟨t,r⟩:=x;rw [ht] at h;simp only at h;have h1:=tokM_sum ht;have h2:=tokM_len ht
   split at h
   ·simp only [Option.some.injEq] at h
    subst h;simp;omega
   ·split at h
    ·cases h
    ·cases hw:wordsM bare f (r.drop 1) with
     | none=>rw [hw] at h; cases h
     | some l'=>
      rw [hw] at h;simp only [Option.map_some,Option.some.injEq] at h;subst h;have:=wordsM_sum f _ _ hw;simp only [List.length_drop] at this;simp only [List.map_cons,List.sum_cons,List.length_cons,ne_eq,reduceCtorEq,not_false_eq_true,and_true];omega
theorem le_sum {α:Type} (g:α->Nat):∀ (l:List α) (x:α),x ∈ l->g x <= (l.map g).sum
 | y :: l,x,h=>by
  rcases List.mem_cons.1 h with rfl | h
  ·simp
  ·have:=le_sum g l x h; simp; omega
theorem wordsL_sum {s:ByteArray} {l:List WordM} (h:wordsL s = some l):(l.map (·.s.size)).sum <= s.size/\l.length <= s.size/\l ≠ []:=by
 have:=wordsM_sum _ _ _ h
 rwa [<- size_bytes] at this
theorem numW_in {x:WordM} {v:Int} (h:numW x = some v):InI v:=by
 unfold numW at h
 split at h
 ·cases h
 ·split at h
  ·rename_i u hu
   split at h
   ·cases h
    have:=Lib.atoiAll_bounds hu;exact ⟨by omega⟩
   ·cases h
  ·cases h
theorem tmplW_sum:∀ (k:Nat) (ws:List WordM) (ps:List PartM),ws.length = k->tmplW ws = some ps->(ps.map (·.text.size)).sum <= (ws.map (·.s.size)).sum/\ps.length <= ws.length/\∀ p ∈ ps,InI p.kind/\InI p.n
 | _,[],ps,_,h=>by simp only [tmplW,Option.some.injEq] at h; subst h; simp
 | _,[_],ps,_,h=>by cases h
 | _,[_,_],ps,_,h=>by cases h
 | k,a :: b :: c :: l,ps,hk,h=>by
  rw [tmplW] at h
  split at h
  ·rename_i u v hu hv
   split at h
   ·cases ht:tmplW l with
    | none=>rw [ht] at h; cases h
    | some qs=>
     rw [ht] at h;simp only [Option.map_some,Option.some.injEq] at h;subst h;have:=tmplW_sum l.length l qs rfl ht;simp only [List.map_cons,List.sum_cons,List.length_cons,List.mem_cons,forall_eq_or_imp];refine ⟨by omega,by omega,⟨numW_in hu,numW_in hv⟩,this.2.2⟩
   ·cases h
  ·cases h
termination_by k=>k
decreasing_by simp only [List.length_cons] at hk; omega
theorem itemOfW_size (x:WordM):(itemOfW x).name.size <= x.s.size:=by
 unfold itemOfW
 split
 ·simp; omega
 ·exact Nat.le_refl _
theorem listW_sum:∀ (ws:List WordM) (l:List ItemM),listW ws = some l->(l.map (·.name.size)).sum <= (ws.map (·.s.size)).sum/\l.length = ws.length
 | [],l,h=>by simp only [listW,Option.some.injEq] at h; subst h; simp
 | x :: ws,l,h=>by
  rw [listW] at h
  split at h
  ·cases h
  ·cases ht:listW ws with
   | none=>rw [ht] at h; cases h
   | some l'=>
    rw [ht] at h;simp only [Option.map_some,Option.some.injEq] at h;subst h;have:=listW_sum ws l' ht;have h2:=itemOfW_size x;simp only [List.map_cons,List.sum_cons,List.length_cons];omega
theorem sum_lin {α:Type} (g:α->Nat) (a b:Nat):∀ l:List α,(l.map fun x=>a * g x + b).sum = a * (l.map g).sum + l.length * b
 | []=>by simp
 | x :: l=>by
  have:=sum_lin g a b l;simp only [List.map_cons,List.sum_cons,List.length_cons,this,Nat.mul_add,Nat.add_mul];omega
def lineM (c:CodeM) (kind:Int) (s:ByteArray):Option (CodeM × Int):=
 match wordsL s with
 | none=>none
 | some []=>none
 | some (x :: rest)=>
  if kindW x < kind \/ x.lit = true then none else
  if kindW x = 0 then match rest with
   | [y]=>if y.lit = true/\constT y.s = s then some ({ c with consts:=c.consts ++ [y.s] },0) else none
   | _=>none
  else if kindW x = 1 then match tmplW rest with
   | some t=>if tmplT t = s then some ({ c with tmpls:=c.tmpls ++ [t] },1) else none
   | none=>none
  else if kindW x = 2 then match listW rest with
   | some t=>if listT t = s then some ({ c with lists:=c.lists ++ [t] },2) else none
   | none=>none
  else if kindW x = 3 then match rest with
   | [y,u]=>match numW y with
    | some n=>if u.lit = true/\labelT ⟨u.s,n⟩ = s then some ({ c with labels:=c.labels ++ [⟨u.s,n⟩] },3) else none
    | none=>none
   | _=>none
  else if kindW x = 4 then match rest with
   | [y]=>if y.lit = false then some ({ c with slots:=c.slots ++ [y.s] },4) else none
   | _=>none
  else match insOfW x.s rest with
   | some i=>if insT i = s then some ({ c with ins:=c.ins ++ [i] },kindW x) else none
   | none=>none
end
section
open Go Q Go.RowKit
def ReadC (br:Nat) (z:Z) (c:CodeM) (kind:Int) (B:Bl):Prop:=∃ v1 v2 v3 v4 v5 v6 B1 B2 B3 B4 B5 B6 u1 u2 u3 u4 u5 u6,
 B = (br,.cells [v1,v2,v3,v4,v5,v6,.int .i64 kind].toArray 212 (0,0)) :: (B1 ++ (B2 ++ (B3 ++ (B4 ++ (B5 ++ (B6 ++ [])))))) /\
 OwnSl 9 1 B1 v1 c.consts.length u1/\Lsl El.str z u1 c.consts/\OwnSl 93 1 B2 v2 c.tmpls.length u2/\Lsl (El.sl El.part) z u2 c.tmpls/\OwnSl 96 1 B3 v3 c.lists.length u3/\Lsl (El.sl El.item) z u3 c.lists /\
 OwnSl 54 2 B4 v4 c.labels.length u4/\Lsl El.spot z u4 c.labels/\OwnSl 9 1 B5 v5 c.slots.length u5/\Lsl El.str z u5 c.slots/\OwnSl 38 4 B6 v6 c.ins.length u6/\Lsl El.ins z u6 c.ins
def FewC (c:CodeM) (n:Nat):Prop:=c.consts.length <= n/\c.tmpls.length <= n/\c.lists.length <= n/\c.labels.length <= n/\c.slots.length <= n/\c.ins.length <= n
theorem SlR.form2' {α:Type} {E:El α} {z:Z} {v:Value} {xs:List α} (h:SlR E z v xs):∃ a c,v = .slice a xs.length c/\xs.length <= c:=let ⟨_,a,c,h1,h2,_⟩:=h.form; ⟨a,c,h1,h2⟩
theorem V_pushR {w0 w:World} {z0 z:Z} {B0 B L R:Bl} {K1:Value->World->Prop} {t e size bytes n:Nat} {v u:Value} {us xs:List Value} [g:TyApp t e size bytes] [gs:TySlice t e size] [gz:TyFill e size] [gc:CellsOf u us] [gl:LenIs us size] [go:Ones us]
  (hS:Res w0 z0 B0 w z L) (ho:OwnSl e size B v n xs) [gb:BringL L B R] (hb:(n + 1) * bytes <= room) (hb2:n + 1 <= room) (hsz:size <= 1000)
  (hk:∀ s w1 b,Res w0 z0 B0 w1 z ((b,.cells us.toArray e (0,0)) :: L)->(∀ K,(∀ B' v' w',OwnSl e size B' v' (n + 1) (xs ++ us)->Res w0 z0 B0 w' z (B' ++ R)->K v' w')->V (Builtin.append_ #[t,t] t #[v,s]) w1 K)->K1 s w1):V (bs t 1 #[(0,u)]) w K1:=by
 refine V_bs (parts:=[(0,u)]) rfl (by omega) ?_;intro b w1 hb1 hS1;rw [List.append_nil] at hS1;refine hk _ _ b hS1 fun K hK=>?_
 have hat:At (hp w1) b 0 us:=⟨_,_,_,(hS1.mem _ List.mem_cons_self).1,fun j v hv=>by simpa using hv⟩
 have hS2:Res w0 z0 B0 w1 z (B ++ R):=(hS1.sublist (List.sublist_cons_self _ _)).perm gb.h;exact V_app (B:=B) (m:=1) hS2 ho hat (by rw [gl.h]; omega) go.h (by omega) hb hb2 hK
theorem numsW_in:∀ (l:List WordM) (ns:List Int),numsW l = some ns->∀ n ∈ ns,InI n
 | [],ns,h=>by simp only [numsW,Option.some.injEq] at h; subst h; simp
 | x :: l,ns,h=>by
  rw [numsW] at h
  cases hx:numW x with
  | none=>rw [hx] at h; cases h
  | some v=>
   rw [hx] at h;simp only at h
   cases hl:numsW l with
   | none=>rw [hl] at h; cases h
   | some ns'=>
    rw [hl] at h;simp only [Option.map_some,Option.some.injEq] at h;subst h;intro n hn
    rcases List.mem_cons.1 hn with rfl | hn
    ·exact numW_in hx
    ·exact numsW_in l ns' hl n hn
theorem getD_in {ns:List Int} (h:∀ n ∈ ns,InI n) (k:Nat):InI (ns.getD k 0):=by
 rw [List.getD_eq_getElem?_getD]
 cases hk:ns[k]? with
 | none=>exact ⟨by simp⟩
 | some n=>exact h n (List.mem_of_getElem? hk)
theorem insOfW_in {s:ByteArray} {l:List WordM} {i:InsM} (h:insOfW s l = some i):InI i.a/\InI i.b/\InI i.c:=by
 unfold insOfW at h
 split at h
 ·cases h
 ·split at h
  ·cases h
  ·rename_i ns hns
   split at h
   ·cases h
   ·simp only [Option.some.injEq] at h
    subst h;have:=numsW_in l ns hns;exact ⟨getD_in this 0,getD_in this 1,getD_in this 2⟩
def LineR (br:Nat) (c:CodeM) (kind:Int) (s:ByteArray) (z:Z) (B:Bl) (r:Value):Prop:=
 match lineM c kind s with
 | none=>r = .bool false/\∃ vs,B = [(br,.cells vs 212 (0,0))]
 | some (c',k')=>r = .bool true/\ReadC br z c' k' B
theorem readLine_of {z:Z} {w:World} {br:Nat} {B:Bl} {c:CodeM} {kind:Int} {s:ByteArray} [ht:Tab z] [he:Errs z] (hB:ReadC br z c kind B) (hs:s.size <= 1000000) (hc:FewC c 1000000) :
  Fn 135 #[.pointer (some ⟨br,0,none⟩),.string s] z B w (fun z' B' r=>LineR br c kind s z' B' r):=Fn.intro fun hS=>en135 (by
 unfold vc135;obtain ⟨v1,v2,v3,v4,v5,v6,B1,B2,B3,B4,B5,B6,u1,u2,u3,u4,u5,u6,rfl,o1,l1,o2,l2,o3,l3,o4,l4,o5,l5,o6,l6⟩:=hB;obtain ⟨c1,c2,c3,c4,c5,c6⟩:=hc;generalize hRR:(fun (v:Value) (w':World)=>∃ z' B',Res w z ((br,.cells [v1,v2,v3,v4,v5,v6,.int .i64 kind].toArray 212 (0,0)) :: (B1 ++ (B2 ++ (B3 ++ (B4 ++ (B5 ++ (B6 ++ []))))))) w' z' B'/\LineR br c kind s z' B' v) = RR;generalize hLL:(br,.cells [v1,v2,v3,v4,v5,v6,.int .i64 kind].toArray 212 (0,0)) :: (B1 ++ (B2 ++ (B3 ++ (B4 ++ (B5 ++ (B6 ++ [])))))) = LL at hRR;have hS0:Res w z LL w z ((br,.cells [v1,v2,v3,v4,v5,v6,.int .i64 kind].toArray 212 (0,0)) :: (B1 ++ (B2 ++ (B3 ++ (B4 ++ (B5 ++ (B6 ++ []))))))):=by rw [<- hLL]; exact hS
 have hN:∀ z' w' vs (L':Bl),lineM c kind s = none->Res w z LL w' z' ((br,.cells vs 212 (0,0)) :: L')->RR (.bool false) w':=fun z' w' vs L' h k=>by
  rw [<- hRR];refine ⟨z',_,k.sublist (List.sublist_append_left [_] L'),?_⟩;unfold LineR;rw [h];exact ⟨rfl,_,rfl⟩
 have hY:∀ z' w' B' c' k',lineM c kind s = some (c',k')->ReadC br z' c' k' B'->Res w z LL w' z' B'->RR (.bool true) w':=fun z' w' B' c' k' h h2 k=>by
  rw [<- hRR];refine ⟨z',_,k,?_⟩;unfold LineR;rw [h];exact ⟨rfl,h2⟩
 clear hS hRR hLL;refine CV_1 (words_of hs) ?_;rintro z1 w1 wv hz1 hS1 hW
 clear hS0;have hlm:lineM c kind s = match wordsL s with
   | none=>none
   | some []=>none
   | some (x :: rest)=>
    if kindW x < kind \/ x.lit = true then none else
    if kindW x = 0 then match rest with
     | [y]=>if y.lit = true/\constT y.s = s then some ({ c with consts:=c.consts ++ [y.s] },0) else none
     | _=>none
    else if kindW x = 1 then match tmplW rest with
     | some t=>if tmplT t = s then some ({ c with tmpls:=c.tmpls ++ [t] },1) else none
     | none=>none
    else if kindW x = 2 then match listW rest with
     | some t=>if listT t = s then some ({ c with lists:=c.lists ++ [t] },2) else none
     | none=>none
    else if kindW x = 3 then match rest with
     | [y,u]=>match numW y with
      | some n=>if u.lit = true/\labelT ⟨u.s,n⟩ = s then some ({ c with labels:=c.labels ++ [⟨u.s,n⟩] },3) else none
      | none=>none
     | _=>none
    else if kindW x = 4 then match rest with
     | [y]=>if y.lit = false then some ({ c with slots:=c.slots ++ [y.s] },4) else none
     | _=>none
    else match insOfW x.s rest with
     | some i=>if insT i = s then some ({ c with ins:=c.ins ++ [i] },kindW x) else none
     | none=>none:=rfl
 cases hwl:wordsL s with
 | none=>
  rw [hwl] at hW hlm;have hW:wv = .tuple #[.slice none 0 0,.bool false]:=hW;subst hW;(repeat (first | refine V_run ?_ | refine Cond_t ?_));exact hN _ _ _ _ hlm (by assumption)
 | some l=>
  rw [hwl] at hW hlm;obtain ⟨hsum,hlen,hne⟩:=wordsL_sum hwl;obtain ⟨v,rfl,hv⟩:∃ v,wv = .tuple #[v,.bool true]/\SlR El.word z1 v l:=hW;obtain ⟨x,rest,rfl⟩:∃ x rest,l = x :: rest:=by
   cases l with
   | nil=>exact absurd rfl hne
   | cons x rest=>exact ⟨x,rest,rfl⟩
  simp only at hlm;generalize lineM c kind s = X at hlm hN hY
  -- the words lie in frozen memory: from here on
  have hz0:=hS1.zle;have hS2:=hS1.self;generalize hL2:(br,Obj.cells [v1,v2,v3,v4,v5,v6,.int .i64 kind].toArray 212 (0,0)) :: (B1 ++ (B2 ++ (B3 ++ (B4 ++ (B5 ++ (B6 ++ [])))))) = LL2 at hS1;have hS3:Res w1 z1 LL2 w1 z1 ((br,Obj.cells [v1,v2,v3,v4,v5,v6,.int .i64 kind].toArray 212 (0,0)) :: (B1 ++ (B2 ++ (B3 ++ (B4 ++ (B5 ++ (B6 ++ []))))))):=by rw [<- hL2]; exact hS2
  replace hN:∀ z' w' vs (L':Bl),X = none->Res w1 z1 LL2 w' z' ((br,.cells vs 212 (0,0)) :: L')->RR (.bool false) w':=fun z' w' vs L' h k=>hN _ _ _ _ h (hS1.comp k)
  replace hY:∀ z' w' B' c' k',X = some (c',k')->ReadC br z' c' k' B'->Res w1 z1 LL2 w' z' B'->RR (.bool true) w':=fun z' w' B' c' k' h h2 k=>hY _ _ _ _ _ h h2 (hS1.comp k)
  clear hS1 hS2 hL2;replace l1:=l1.mono hz0;replace l2:=l2.mono hz0;replace l3:=l3.mono hz0;replace l4:=l4.mono hz0;replace l5:=l5.mono hz0;replace l6:=l6.mono hz0;haveI:Tab z1:=ht.le hz0;haveI:Errs z1:=he.le hz0;obtain ⟨_,av,cap,hvv,hcap,hel⟩:=hv.form
  cases hvv
  obtain ⟨bb,off,_,rfl,rfl,hat⟩:=hel 0 x rfl;have hrest:=SlR.drop (k:=1) (s:=2) hv rfl (by simp);rw [show (x :: rest).drop 1 = rest from rfl] at hrest;simp only [List.length_cons,Nat.add_sub_cancel] at hrest hcap hlen;simp only [List.map_cons,List.sum_cons] at hsum;haveI:InR 0 (((x :: rest).length:Nat):Int):=⟨by decide,by simp⟩
  haveI:InR 1 ((((x :: rest).length:Nat):Int) + 1):=⟨by decide,by simp; omega⟩
  haveI:Fz z1 bb (off + Int.toNat 0 * 2) x.cells:=⟨hat⟩
  (repeat (first | (refine iDr ?_; intro _ _) | refine V_run ?_ | refine PV_run ?_ | refine Cond_f ?_ | refine fHV_ldN ?_));refine CV_1 kindOf_of ?_;rintro z4 w4 kv hz4 hS4 rfl
  clear hS3;haveI:Fz z1 bb (off + Int.toNat 0 * 2) [.string x.s]:=⟨hat.fld (i:=0) rfl rfl⟩
  haveI:Fz z1 bb (off + Int.toNat 0 * 2 + 1) [.bool x.lit]:=⟨hat.fld (i:=1) rfl rfl⟩
  simp only [show Int.toNat 1 = 1 from rfl,List.length_cons,Nat.add_sub_cancel];generalize (if cap = 1 then off else off + 1 * 2) = off2 at hrest ⊢;(repeat (first | refine V_run ?_ | refine iV_ld1 ?_ | (refine JGB ?_; intro _ _ _ _)));rename_i hS5;clear hS4;have fin:∀ (P:Prop) [Decidable P] c' k' z' w' vs T,X = (if P then some (c',k') else none)->ReadC br z' c' k' ((br,.cells vs 212 (0,0)) :: T)->Res w1 z1 LL2 w' z' ((br,.cells vs 212 (0,0)) :: T)->RR (.bool (decide P)) w':=by
   intro P _ c' k' z' w' vs T h1 h2 h3
   by_cases hP:P
   ·rw [if_pos hP] at h1; rw [decide_eq_true hP]; exact hY _ _ _ _ _ h1 h2 h3
   ·rw [if_neg hP] at h1; rw [decide_eq_false hP]; exact hN _ _ _ _ h1 h3
  have hwz:∀ y ∈ rest,y.s.size <= 1000000:=fun y hy=>by have:=le_sum (fun y:WordM=>y.s.size) rest y hy; omega
  refine Cond_b (fun hq=>?_) (fun hq=>?_)
  ·refine hN _ _ _ _ ?_ hS5
   rw [hlm,if_pos]
   by_cases h1:kindW x < kind
   ·exact .inl h1
   ·rw [decide_eq_false h1] at hq; exact .inr hq
  have hq1:¬ (kindW x < kind \/ x.lit = true):=by
   rintro (h1 | h1)
   ·rw [decide_eq_true h1] at hq; cases hq
   ·rw [h1] at hq; cases hd:decide (kindW x < kind) <;> rw [hd] at hq <;> cases hq
  rw [if_neg hq1] at hlm;clear hq hq1;(repeat (first | refine V_run ?_ | (refine iU_st ?_; intro _ _)));rename_i hS6;clear hS5;refine Cond_d (fun h0=>?_) (fun h0=>?_)
  ·rw [if_pos h0] at hlm
   rw [h0] at hS6;refine V_run ?_;refine V_run ?_;intro K0 hK0;refine Cond_n (fun hlen1=>?_) (fun hlen1=>?_)
   ·refine hK0 _ _ fun _=>?_
    refine Cond_t ?_;refine hN _ _ _ _ ?_ hS6;rw [hlm]
    match rest,hlen1 with
    | [],_=>rfl
    | [y],h=>simp at h
    | _ :: _ :: _,_=>rfl
   ·obtain ⟨y,rfl⟩:∃ y,rest = [y]:=by
     match rest,hlen1 with
     | [],h=>simp at h
     | [y],_=>exact ⟨y,rfl⟩
     | _ :: _ :: _,h=>simp at h; omega
    simp only at hlm;have hys:=hwz y List.mem_cons_self;obtain ⟨cs0,rfl,haty⟩:=hrest.get (i:=0) rfl;haveI:InR 0 (([y].length:Nat):Int):=⟨by decide,by simp⟩
    haveI:Fz z1 bb (off2 + Int.toNat 0 * 2) [.string y.s]:=⟨haty.fld (i:=0) rfl rfl⟩
    haveI:Fz z1 bb (off2 + Int.toNat 0 * 2 + 1) [.bool y.lit]:=⟨haty.fld (i:=1) rfl rfl⟩
    haveI:Brief y.s:=⟨hys⟩
    (repeat (first | refine V_run ?_ | refine fV_ld1 ?_));refine hK0 _ _ fun _=>?_
    refine Cond_n (fun hlit=>?_) (fun hlit=>?_)
    ·refine hN _ _ _ _ ?_ hS6
     rw [hlm,if_neg (by rw [hlit]; simp)]
    ·(repeat (first | (refine iDr ?_; intro _ _) | refine PV_run ?_ | refine iHV_1 ?_ | refine fHV_ld1 ?_))
     rename_i hS7;clear hS6;refine V_pushR (e:=9) (size:=1) (xs:=u1) (v:=v1) hS7 o1 (by simp only [room]; omega) (by simp only [room]; omega) (by omega) ?_;intro s8 w8 b8 hS8 happ;(repeat (refine iRI_1 ?_));refine happ _ ?_;intro B9 v9 w9 o9 hS9;obtain ⟨a9,k9,rfl,_⟩:=o9.form;clear hS7 hS8 happ;(repeat (first | refine V_run ?_ | refine PV_run ?_ | (refine iU_st ?_; intro _ _) | (refine CV_pu ?_; intro _ _ _ _) | refine fV_ld1 ?_));refine V_words (out:=[_,_]) [⟨#[116,101,120,116]⟩,quotedB y.s] rfl rfl (by omega) (by have:=(constT_size hys).1; omega) ?_;intro z10 w10 hz10 hS10;refine V_run ?_;have hS11:=hS10.keep [.at br,.bl B9,.bl B2,.bl B3,.bl B4,.bl B5,.bl B6];refine fin _ { c with consts:=c.consts ++ [y.s] } 0 _ _ _ _ ?_ ⟨_,_,_,_,_,_,B9,B2,B3,B4,B5,B6,_,u2,u3,u4,u5,u6,rfl,by rw [List.length_append]; exact o9,(l1.mono (by (repeat (exact Res.zle (by assumption))))).push ⟨rfl,by simp only [big]; omega⟩,o2,l2.mono (by (repeat (exact Res.zle (by assumption)))),o3,l3.mono (by (repeat (exact Res.zle (by assumption)))),o4,l4.mono (by (repeat (exact Res.zle (by assumption)))),o5,l5.mono (by (repeat (exact Res.zle (by assumption)))),o6,l6.mono (by (repeat (exact Res.zle (by assumption))))⟩ hS11;rw [hlm,hlit];simp only [true_and]
     rfl
  rw [if_neg h0] at hlm;(repeat (refine V_run ?_));refine Cond_d (fun h1=>?_) (fun h1=>?_)
  ·rw [if_pos h1] at hlm
   rw [h1] at hS6;haveI:Errs _:=(inferInstance:Errs z1).le (show Le z1 _ from hS6.zle);refine CV_1 (tmplOf_of (hrest.mono (by (repeat (exact Res.zle (by assumption))))) (by omega) hwz) ?_;rintro z8 w8 tv hz8 hS8 hT
   haveI:Tab z8:=(inferInstance:Tab z1).le hS8.zle;clear hS6
   cases hw:tmplW rest with
   | none=>
    rw [hw] at hT hlm;have hT:tv = .tuple #[.slice none 0 0,.bool false]:=hT;subst hT;(repeat (first | refine V_run ?_ | refine iV_ld1 ?_));refine V_push hS8 o2 (by simp only [room]; omega) (by simp only [room]; omega) (by omega) ?_;intro B9 v9 w9 o9 hS9;obtain ⟨a9,k9,rfl,_⟩:=o9.form;(repeat (first | refine V_run ?_ | (refine iU_st ?_; intro _ _)));rename_i hS10;intro K0 hK0;refine Cond_f ?_;refine hK0 _ _ fun _=>?_
    exact hN _ _ _ [] hlm (hS10.keep [.at br])
   | some tt=>
    rw [hw] at hT hlm;obtain ⟨tv,rfl,hvt⟩:∃ v,tv = .tuple #[v,.bool true]/\SlR El.part z8 v tt:=hT;obtain ⟨at_,ct_,rfl,_⟩:=SlR.form2' hvt;simp only at hlm;(repeat (first | refine V_run ?_ | refine iV_ld1 ?_));refine V_push hS8 o2 (by simp only [room]; omega) (by simp only [room]; omega) (by omega) ?_;intro B9 v9 w9 o9 hS9;obtain ⟨a9,k9,rfl,_⟩:=o9.form;(repeat (first | refine V_run ?_ | (refine iU_st ?_; intro _ _)));rename_i hS10;intro K0 hK0;refine Cond_t ?_;have hts:=tmplW_sum _ _ _ rfl hw;have hlin:=sum_lin (fun p:PartM=>p.text.size) 3 60 tt;refine CV_1 (tmplLine_gen (hvt.mono (by (repeat (exact Le.refl _)))) (by omega) (fun p hp=>⟨(hts.2.2 p hp).1,(hts.2.2 p hp).2,by have:=le_sum (fun p:PartM=>p.text.size) tt p hp; omega⟩)) ?_;rintro z11 w11 v11 hz11 hS11 rfl
    refine V_run ?_;refine hK0 _ _ fun _=>?_
    have hS12:=hS11.keep [.at br,.bl B1,.bl B9,.bl B3,.bl B4,.bl B5,.bl B6];exact fin _ { c with tmpls:=c.tmpls ++ [tt] } 1 z11 w11 _ _ hlm ⟨_,_,_,_,_,_,B1,B9,B3,B4,B5,B6,u1,_,u3,u4,u5,u6,rfl,o1,l1.mono (by (repeat (exact Res.zle (by assumption)))),by rw [List.length_append]; exact o9,(l2.mono (by (repeat (exact Res.zle (by assumption))))).push ⟨_,rfl,hvt.mono (by (repeat (assumption)))⟩,o3,l3.mono (by (repeat (exact Res.zle (by assumption)))),o4,l4.mono (by (repeat (exact Res.zle (by assumption)))),o5,l5.mono (by (repeat (exact Res.zle (by assumption)))),o6,l6.mono (by (repeat (exact Res.zle (by assumption))))⟩ hS12
  rw [if_neg h1] at hlm;(repeat (refine V_run ?_));refine Cond_d (fun h2=>?_) (fun h2=>?_)
  ·rw [if_pos h2] at hlm
   rw [h2] at hS6;refine CV_1 (listOf_of (hrest.mono (by (repeat (exact Res.zle (by assumption))))) (by omega) hwz) ?_;rintro z8 w8 tv hz8 hS8 hT
   haveI:Tab z8:=(inferInstance:Tab z1).le hS8.zle;clear hS6
   cases hw:listW rest with
   | none=>
    rw [hw] at hT hlm;have hT:tv = .tuple #[.slice none 0 0,.bool false]:=hT;subst hT;(repeat (first | refine V_run ?_ | refine iV_ld1 ?_));refine V_push hS8 o3 (by simp only [room]; omega) (by simp only [room]; omega) (by omega) ?_;intro B9 v9 w9 o9 hS9;obtain ⟨a9,k9,rfl,_⟩:=o9.form;(repeat (first | refine V_run ?_ | (refine iU_st ?_; intro _ _)));rename_i hS10;intro K0 hK0;refine Cond_f ?_;refine hK0 _ _ fun _=>?_
    exact hN _ _ _ [] hlm (hS10.keep [.at br])
   | some tt=>
    rw [hw] at hT hlm;obtain ⟨tv,rfl,hvt⟩:∃ v,tv = .tuple #[v,.bool true]/\SlR El.item z8 v tt:=hT;obtain ⟨at_,ct_,rfl,_⟩:=SlR.form2' hvt;simp only at hlm;(repeat (first | refine V_run ?_ | refine iV_ld1 ?_));refine V_push hS8 o3 (by simp only [room]; omega) (by simp only [room]; omega) (by omega) ?_;intro B9 v9 w9 o9 hS9;obtain ⟨a9,k9,rfl,_⟩:=o9.form;(repeat (first | refine V_run ?_ | (refine iU_st ?_; intro _ _)));rename_i hS10;intro K0 hK0;refine Cond_t ?_;have hts:=listW_sum _ _ hw;have hlin:=sum_lin (fun p:ItemM=>p.name.size) 1 10 tt;simp only [Nat.one_mul] at hlin;refine CV_1 (listLine_gen (hvt.mono (by (repeat (exact Le.refl _)))) (by omega)) ?_;rintro z11 w11 v11 hz11 hS11 rfl
    refine V_run ?_;refine hK0 _ _ fun _=>?_
    have hS12:=hS11.keep [.at br,.bl B1,.bl B2,.bl B9,.bl B4,.bl B5,.bl B6];exact fin _ { c with lists:=c.lists ++ [tt] } 2 z11 w11 _ _ hlm ⟨_,_,_,_,_,_,B1,B2,B9,B4,B5,B6,u1,u2,_,u4,u5,u6,rfl,o1,l1.mono (by (repeat (exact Res.zle (by assumption)))),o2,l2.mono (by (repeat (exact Res.zle (by assumption)))),by rw [List.length_append]; exact o9,(l3.mono (by (repeat (exact Res.zle (by assumption))))).push ⟨_,rfl,hvt.mono (by (repeat (assumption)))⟩,o4,l4.mono (by (repeat (exact Res.zle (by assumption)))),o5,l5.mono (by (repeat (exact Res.zle (by assumption)))),o6,l6.mono (by (repeat (exact Res.zle (by assumption))))⟩ hS12
  rw [if_neg h2] at hlm;(repeat (refine V_run ?_));refine Cond_d (fun h3=>?_) (fun h3=>?_)
  ·rw [if_pos h3] at hlm
   rw [h3] at hS6;refine V_run ?_;refine V_run ?_;intro K0 hK0;refine Cond_n (fun hlen1=>?_) (fun hlen1=>?_)
   ·refine hK0 _ _ fun _=>?_
    refine Cond_t ?_;refine hN _ _ _ _ ?_ hS6;rw [hlm]
    match rest,hlen1 with
    | [],_=>rfl
    | [_],_=>rfl
    | [_,_],h=>simp at h
    | _ :: _ :: _ :: _,_=>rfl
   ·obtain ⟨y,u,rfl⟩:∃ y u,rest = [y,u]:=by
     match rest,hlen1 with
     | [],h=>simp at h
     | [_],h=>simp at h
     | [y,u],_=>exact ⟨y,u,rfl⟩
     | _ :: _ :: _ :: _,h=>simp at h; omega
    simp only at hlm;have hys:=hwz y List.mem_cons_self;have hus:=hwz u (List.mem_cons_of_mem _ List.mem_cons_self);obtain ⟨_,rfl,haty⟩:=hrest.get (i:=0) rfl;obtain ⟨_,rfl,hatu⟩:=hrest.get (i:=1) rfl;haveI:InR 0 (([y,u].length:Nat):Int):=⟨by decide,by simp⟩
    haveI:InR 1 (([y,u].length:Nat):Int):=⟨by decide,by simp⟩
    haveI:Fz z1 bb (off2 + Int.toNat 0 * 2) y.cells:=⟨haty⟩
    haveI:Fz z1 bb (off2 + Int.toNat 1 * 2) [.string u.s]:=⟨hatu.fld (i:=0) rfl rfl⟩
    haveI:Fz z1 bb (off2 + Int.toNat 1 * 2 + 1) [.bool u.lit]:=⟨hatu.fld (i:=1) rfl rfl⟩
    (repeat (first | refine V_run ?_ | refine fV_ld1 ?_));refine hK0 _ _ fun _=>?_
    clear hK0;refine Cond_n (fun hlit=>?_) (fun hlit=>?_)
    ·refine hN _ _ _ _ ?_ hS6
     rw [hlm]
     cases numW y with
     | none=>rfl
     | some n=>simp only; rw [if_neg (by rw [hlit]; simp)]
    ·haveI:Errs _:=(inferInstance:Errs z1).le (show Le z1 _ from hS6.zle)
     (repeat (first | refine V_run ?_ | refine fV_ldN ?_));refine CV_1 (number_of hys) ?_;rintro z8 w8 v8 hz8 hS8 ⟨n,rfl,hn⟩
     haveI:Tab z8:=(inferInstance:Tab z1).le hS8.zle;clear hS6;(repeat (first | refine V_run ?_ | refine fV_ld1 ?_));refine iV_al ?_;intro bt w9 hbt hS9;refine iU_st ?_;intro w10 hS10;clear hS8 hS9;(repeat (first | (refine iDr ?_; intro _ _) | refine PV_run ?_ | refine iHV_1 ?_ | refine iHV_N ?_));rename_i hS11;clear hS10;refine V_pushR (e:=54) (size:=2) (xs:=u4) (v:=v4) hS11 o4 (by simp only [room]; omega) (by simp only [room]; omega) (by omega) ?_;intro s12 w12 b12 hS12 happ;(repeat (refine iRI_1 ?_));refine happ _ ?_;intro B9 v9 w13 o9 hS13;obtain ⟨a9,k9,rfl,_⟩:=o9.form;clear hS11 hS12 happ;(repeat (first | refine PV_run ?_ | (refine iU_st ?_; intro _ _)));rename_i hS14;clear hS13;intro K1 hK1
     cases hnum:numW y with
     | none=>
      rw [hnum] at hlm;refine Cond_f ?_;refine hK1 _ _ fun _=>?_
      exact hN _ _ _ [] hlm (hS14.keep [.at br])
     | some n'=>
      rw [hnum] at hlm;have:=hn n' hnum;subst this;refine Cond_t ?_;(repeat (refine iV_ldN ?_));refine CV_1 (labelLine_of (s:=⟨u.s,n⟩) (numW_in hnum) hus) ?_;rintro z15 w15 v15 hz15 hS15 rfl
      refine V_run ?_;refine hK1 _ _ fun _=>?_
      have hS16:=hS15.keep [.at br,.bl B1,.bl B2,.bl B3,.bl B9,.bl B5,.bl B6];refine fin _ { c with labels:=c.labels ++ [⟨u.s,n⟩] } 3 z15 w15 _ _ ?_ ⟨_,_,_,_,_,_,B1,B2,B3,B9,B5,B6,u1,u2,u3,_,u5,u6,rfl,o1,l1.mono (by (repeat (exact Res.zle (by assumption)))),o2,l2.mono (by (repeat (exact Res.zle (by assumption)))),o3,l3.mono (by (repeat (exact Res.zle (by assumption)))),by rw [List.length_append]; exact o9,(l4.mono (by (repeat (exact Res.zle (by assumption))))).push ⟨rfl,by show u.s.size <= big; simp only [big]; omega⟩,o5,l5.mono (by (repeat (exact Res.zle (by assumption)))),o6,l6.mono (by (repeat (exact Res.zle (by assumption))))⟩ hS16;rw [hlm,hlit];simp only [true_and]
  rw [if_neg h3] at hlm;(repeat (refine V_run ?_));refine Cond_d (fun h4=>?_) (fun h4=>?_)
  ·rw [if_pos h4] at hlm
   rw [h4] at hS6;refine V_run ?_;refine V_run ?_;intro K0 hK0;refine Cond_n (fun hlen1=>?_) (fun hlen1=>?_)
   ·refine hK0 _ _ fun _=>?_
    refine Cond_t ?_;refine hN _ _ _ _ ?_ hS6;rw [hlm]
    match rest,hlen1 with
    | [],_=>rfl
    | [y],h=>simp at h
    | _ :: _ :: _,_=>rfl
   ·obtain ⟨y,rfl⟩:∃ y,rest = [y]:=by
     match rest,hlen1 with
     | [],h=>simp at h
     | [y],_=>exact ⟨y,rfl⟩
     | _ :: _ :: _,h=>simp at h; omega
    simp only at hlm;have hys:=hwz y List.mem_cons_self;obtain ⟨cs0,rfl,haty⟩:=hrest.get (i:=0) rfl;haveI:InR 0 (([y].length:Nat):Int):=⟨by decide,by simp⟩
    haveI:Fz z1 bb (off2 + Int.toNat 0 * 2) [.string y.s]:=⟨haty.fld (i:=0) rfl rfl⟩
    haveI:Fz z1 bb (off2 + Int.toNat 0 * 2 + 1) [.bool y.lit]:=⟨haty.fld (i:=1) rfl rfl⟩
    (repeat (first | refine V_run ?_ | refine fV_ld1 ?_));refine hK0 _ _ fun _=>?_
    clear hK0;refine Cond_b (fun hlit=>?_) (fun hlit=>?_)
    ·refine hN _ _ _ _ ?_ hS6
     rw [hlm,if_neg (by rw [hlit]; simp)]
    ·(repeat (first | (refine iDr ?_; intro _ _) | refine PV_run ?_ | refine iHV_1 ?_ | refine fHV_ld1 ?_))
     rename_i hS7;clear hS6;refine V_pushR (e:=9) (size:=1) (xs:=u5) (v:=v5) hS7 o5 (by simp only [room]; omega) (by simp only [room]; omega) (by omega) ?_;intro s8 w8 b8 hS8 happ;(repeat (refine iRI_1 ?_));refine happ _ ?_;intro B9 v9 w9 o9 hS9;obtain ⟨a9,k9,rfl,_⟩:=o9.form;clear hS7 hS8 happ;(repeat (first | refine PV_run ?_ | (refine iU_st ?_; intro _ _)));rename_i hS10;have hS11:=hS10.keep [.at br,.bl B1,.bl B2,.bl B3,.bl B4,.bl B9,.bl B6];refine hY _ _ _ { c with slots:=c.slots ++ [y.s] } 4 ?_ ⟨_,_,_,_,_,_,B1,B2,B3,B4,B9,B6,u1,u2,u3,u4,_,u6,rfl,o1,l1.mono (by (repeat (exact Res.zle (by assumption)))),o2,l2.mono (by (repeat (exact Res.zle (by assumption)))),o3,l3.mono (by (repeat (exact Res.zle (by assumption)))),o4,l4.mono (by (repeat (exact Res.zle (by assumption)))),by rw [List.length_append]; exact o9,(l5.mono (by (repeat (exact Res.zle (by assumption))))).push ⟨rfl,by simp only [big]; omega⟩,o6,l6.mono (by (repeat (exact Res.zle (by assumption))))⟩ hS11;rw [hlm,if_pos hlit]
  rw [if_neg h4] at hlm;(repeat (first | refine V_run ?_ | refine fV_ld1 ?_));refine CV_1 (insOf_of (he:=(inferInstance:Errs z1).le hS6.zle) (hrest.mono (by (repeat (exact Res.zle (by assumption))))) (by omega) hwz) ?_;rintro z8 w8 v8 hz8 hS8 rfl
  haveI:Tab z8:=(inferInstance:Tab z1).le hS8.zle;clear hS6
  cases hw:insOfW x.s rest with
  | none=>
   rw [hw] at hlm;simp only [insOV];(repeat (refine V_run ?_));refine iV_al ?_;intro bt w9 hbt hS9;refine iU_st ?_;intro w10 hS10;clear hS8 hS9;(repeat (first | (refine iDr ?_; intro _ _) | refine PV_run ?_ | refine iHV_1 ?_ | refine iHV_N ?_));rename_i hS11;clear hS10;refine V_pushR (e:=38) (size:=4) (xs:=u6) (v:=v6) hS11 o6 (by simp only [room]; omega) (by simp only [room]; omega) (by omega) ?_;intro s12 w12 b12 hS12 happ;(repeat (refine iRI_1 ?_));refine happ _ ?_;intro B9 v9 w13 o9 hS13;obtain ⟨a9,k9,rfl,_⟩:=o9.form;clear hS11 hS12 happ;(repeat (first | refine PV_run ?_ | (refine iU_st ?_; intro _ _)));rename_i hS14;intro K1 hK1;refine Cond_f ?_;refine hK1 _ _ fun _=>?_
   exact hN _ _ _ [] hlm (hS14.keep [.at br])
  | some i=>
   rw [hw] at hlm;simp only at hlm;obtain ⟨i1,i2,i3⟩:=insOfW_in hw;simp only [insOV];(repeat (refine V_run ?_));refine iV_al ?_;intro bt w9 hbt hS9;refine iU_st ?_;intro w10 hS10;clear hS8 hS9;(repeat (first | (refine iDr ?_; intro _ _) | refine PV_run ?_ | refine iHV_1 ?_ | refine iHV_N ?_));rename_i hS11;clear hS10;refine V_pushR (e:=38) (size:=4) (xs:=u6) (v:=v6) hS11 o6 (by simp only [room]; omega) (by simp only [room]; omega) (by omega) ?_;intro s12 w12 b12 hS12 happ;(repeat (refine iRI_1 ?_));refine happ _ ?_;intro B9 v9 w13 o9 hS13;obtain ⟨a9,k9,rfl,_⟩:=o9.form;clear hS11 hS12 happ;(repeat (first | refine PV_run ?_ | (refine iU_st ?_; intro _ _)));rename_i hS14;clear hS13;intro K1 hK1;refine Cond_t ?_;(repeat (refine iV_ldN ?_));refine CV_1 (insLine_of (i:=i) i1 i2 i3) ?_;rintro z15 w15 v15 hz15 hS15 rfl
   refine V_run ?_;refine hK1 _ _ fun _=>?_
   have hS16:=hS15.keep [.at br,.bl B1,.bl B2,.bl B3,.bl B4,.bl B5,.bl B9];exact fin _ { c with ins:=c.ins ++ [i] } (kindW x) z15 w15 _ _ hlm ⟨_,_,_,_,_,_,B1,B2,B3,B4,B5,B9,u1,u2,u3,u4,u5,_,rfl,o1,l1.mono (by (repeat (exact Res.zle (by assumption)))),o2,l2.mono (by (repeat (exact Res.zle (by assumption)))),o3,l3.mono (by (repeat (exact Res.zle (by assumption)))),o4,l4.mono (by (repeat (exact Res.zle (by assumption)))),o5,l5.mono (by (repeat (exact Res.zle (by assumption)))),by rw [List.length_append]; exact o9,(l6.mono (by (repeat (exact Res.zle (by assumption))))).push rfl⟩ hS16)
end
section
open Go Q Go.RowKit
theorem cut_all {s:ByteArray} {c:UInt8}:((bytes s).dropWhile (· ≠ c) = []/\∃ r,cutV s c = .tuple #[.string ⟨((bytes s).takeWhile (· ≠ c)).toArray⟩,r,.bool false]) \/
  ((bytes s).dropWhile (· ≠ c) ≠ []/\cutV s c = .tuple #[.string ⟨((bytes s).takeWhile (· ≠ c)).toArray⟩,.string ⟨(((bytes s).dropWhile (· ≠ c)).drop 1).toArray⟩,.bool true]):=by
 have hidx:cutAt s c = fidx (· == c) (bytes s):=rfl;unfold fidx at hidx;have htw:∀ (l:List UInt8),match l.findIdx? (· == c) with | some k=>l.takeWhile (· ≠ c) = l.take k/\l.dropWhile (· ≠ c) = l.drop k/\l.drop k ≠ [] | none=>l.takeWhile (· ≠ c) = l/\l.dropWhile (· ≠ c) = []:=by
  intro l
  induction l with
  | nil=>exact ⟨rfl,rfl⟩
  | cons y l ih=>
   rw [List.findIdx?_cons,List.takeWhile_cons,List.dropWhile_cons]
   by_cases hy:y = c
   ·subst hy; simp
   ·have h1:(y == c) = false:=by simp [hy]
    rw [h1];simp only [Bool.false_eq_true,if_false,ne_eq,hy,not_false_eq_true,decide_true,if_true]
    revert ih
    cases l.findIdx? (· == c) with
    | none=>intro ih; exact ⟨congrArg _ ih.1,ih.2⟩
    | some k=>intro ih; exact ⟨congrArg _ ih.1,ih.2.1,ih.2.2⟩
 have h:=htw (bytes s)
 cases hf:(bytes s).findIdx? (· == c) with
 | none=>
  rw [hf] at hidx h;simp only at hidx h;refine .inl ⟨h.2,.string ⟨#[]⟩,?_⟩;unfold cutV;rw [if_neg (by rw [hidx]; decide),h.1]
 | some k=>
  rw [hf] at hidx h;simp only at hidx h;refine .inr ⟨by rw [h.2.1]; exact h.2.2,?_⟩;unfold cutV;rw [if_pos (by rw [hidx]; omega),h.1,h.2.1,hidx,Int.toNat_natCast,List.drop_drop,ext_drop];have:s.extract 0 k = ⟨((bytes s).take k).toArray⟩:=by
   apply ByteArray.ext
   apply Array.toList_inj.1
   have:=bytes_extract s 0 k;rw [List.toList_toArray];simp
  rw [this]
def readM:Nat->CodeM->Int->Nat->List UInt8->Except Nat CodeM
 | 0,_,_,n,_=>.error n
 | f + 1,c,kind,n,s=>
  if s = [] then .ok c else
  if s.dropWhile (· ≠ 10) = [] then .error n else
  match lineM c kind ⟨(s.takeWhile (· ≠ 10)).toArray⟩ with
  | none=>.error n
  | some (c',k')=>readM f c' k' (n + 1) ((s.dropWhile (· ≠ 10)).drop 1)
def readO (s:ByteArray):CodeM × Int × Int:=
 if 400000 < s.size then (noCode,0,3) else match readM (s.size + 1) noCode 0 0 (bytes s) with
  | .error n=>(noCode,((n:Nat):Int),2)
  | .ok c=>if (checkM c).1 = 0 then (c,0,0) else (noCode,0,(checkM c).1)
theorem lineM_few {c c':CodeM} {kind k':Int} {s:ByteArray} {n:Nat} (h:lineM c kind s = some (c',k')) (hc:FewC c n):FewC c' (n + 1):=by
 obtain ⟨h1,h2,h3,h4,h5,h6⟩:=hc;unfold lineM at h
 split at h
 ·cases h
 ·cases h
 ·repeat' (split at h)
  all_goals cases h
  all_goals (refine ⟨?_,?_,?_,?_,?_,?_⟩ <;> (simp only [List.length_append,List.length_cons,List.length_nil]; omega))
theorem ReadC.code {w0 w:World} {z0 z:Z} {B0 B L:Bl} {br:Nat} {c:CodeM} {kind:Int} (hS:Res w0 z0 B0 w z (B ++ L)) (h:ReadC br z c kind B) (hc:FewC c 1000000) :
  ∃ z' v1 v2 v3 v4 v5 v6,Le z z'/\Res w0 z0 B0 w z' ((br,.cells [v1,v2,v3,v4,v5,v6,.int .i64 kind].toArray 212 (0,0)) :: L)/\CodeR z' (.agg [v1,v2,v3,v4,v5,v6].toArray) c:=by
 obtain ⟨v1,v2,v3,v4,v5,v6,B1,B2,B3,B4,B5,B6,u1,u2,u3,u4,u5,u6,rfl,o1,l1,o2,l2,o3,l3,o4,l4,o5,l5,o6,l6⟩:=h;obtain ⟨c1,c2,c3,c4,c5,c6⟩:=hc;simp only [List.cons_append,List.append_assoc,List.nil_append] at hS;obtain ⟨z1,hz1,hS1,g1⟩:=Res.freezeL (E:=El.str) (e:=9) (xs:=c.consts) (hS.bring B1) o1 l1 (by simp only [big]; omega);obtain ⟨z2,hz2,hS2,g2⟩:=Res.freezeL (E:=(El.sl El.part)) (e:=93) (xs:=c.tmpls) (hS1.bring B2) o2 (l2.mono (by (repeat (assumption)))) (by simp only [big]; omega);obtain ⟨z3,hz3,hS3,g3⟩:=Res.freezeL (E:=(El.sl El.item)) (e:=96) (xs:=c.lists) (hS2.bring B3) o3 (l3.mono (by (repeat (first | assumption | refine Le.trans ?_ (by assumption:Le _ _))))) (by simp only [big]; omega);obtain ⟨z4,hz4,hS4,g4⟩:=Res.freezeL (E:=El.spot) (e:=54) (xs:=c.labels) (hS3.bring B4) o4 (l4.mono (by (repeat (first | assumption | refine Le.trans ?_ (by assumption:Le _ _))))) (by simp only [big]; omega);obtain ⟨z5,hz5,hS5,g5⟩:=Res.freezeL (E:=El.str) (e:=9) (xs:=c.slots) (hS4.bring B5) o5 (l5.mono (by (repeat (first | assumption | refine Le.trans ?_ (by assumption:Le _ _))))) (by simp only [big]; omega);obtain ⟨z6,hz6,hS6,g6⟩:=Res.freezeL (E:=El.ins) (e:=38) (xs:=c.ins) (hS5.bring B6) o6 (l6.mono (by (repeat (first | assumption | refine Le.trans ?_ (by assumption:Le _ _))))) (by simp only [big]; omega);exact ⟨z6,v1,v2,v3,v4,v5,v6,by (repeat (first | assumption | refine Le.trans ?_ (by assumption:Le _ _))),hS6,_,_,_,_,_,_,rfl,g1.mono (by (repeat (first | assumption | refine Le.trans ?_ (by assumption:Le _ _)))),g2.mono (by (repeat (first | assumption | refine Le.trans ?_ (by assumption:Le _ _)))),g3.mono (by (repeat (first | assumption | refine Le.trans ?_ (by assumption:Le _ _)))),g4.mono (by (repeat (first | assumption | refine Le.trans ?_ (by assumption:Le _ _)))),g5.mono (by (repeat (assumption))),g6⟩
theorem read_of {z:Z} {w:World} {s:ByteArray} [ht:Tab z] [he:Errs z] (hs:s.size <= 1000000):Fn1 42 #[.string s] z w fun z' r=>∃ v1 v2 v3 v4 v5 v6,CodeR z' (.agg [v1,v2,v3,v4,v5,v6].toArray) (readO s).1/\r = .tuple #[.agg [v1,v2,v3,v4,v5,v6].toArray,.int .i64 (readO s).2.1,.int .i64 (readO s).2.2]:=Fn1.intro fun hS=>en42 (by
 unfold vc42;generalize hRR:(fun (v:Value) (w':World)=>∃ z' L',Res w z [] w' z' L'/\∃ v1 v2 v3 v4 v5 v6,CodeR z' (.agg [v1,v2,v3,v4,v5,v6].toArray) (readO s).1/\v = .tuple #[.agg [v1,v2,v3,v4,v5,v6].toArray,.int .i64 (readO s).2.1,.int .i64 (readO s).2.2]) = RR;have hR:∀ z' w' L' v1 v2 v3 v4 v5 v6 c p e,Res w z [] w' z' L'->readO s = (c,p,e)->CodeR z' (.agg [v1,v2,v3,v4,v5,v6].toArray) c->RR (.tuple #[.agg [v1,v2,v3,v4,v5,v6].toArray,.int .i64 p,.int .i64 e]) w':=fun z' w' L' v1 v2 v3 v4 v5 v6 c p e k h hc=>by rw [<- hRR,h]; exact ⟨_,_,k,_,_,_,_,_,_,hc,rfl⟩
 clear hRR;have hno:∀ z,CodeR z (.agg [nilS,nilS,nilS,nilS,nilS,nilS].toArray) noCode:=fun z=>⟨_,_,_,_,_,_,rfl,SlR.nil,SlR.nil,SlR.nil,SlR.nil,SlR.nil,SlR.nil⟩
 refine iV_al ?_;intro b2 w1 hb2 hS1;clear hS;refine V_run ?_;refine V_run ?_;refine Cond_d (fun h=>?_) (fun h=>?_)
 ·(repeat (first | refine V_run ?_ | (refine iU_st ?_; intro _ _) | refine iHV_N ?_))
  exact hR _ _ _ _ _ _ _ _ _ _ _ _ (by assumption) (by unfold readO; rw [if_pos (by omega)]) (hno _)
 have hro:readO s = match readM (s.size + 1) noCode 0 0 (bytes s) with
  | .error n=>(noCode,((n:Nat):Int),2)
  | .ok c=>if (checkM c).1 = 0 then (c,0,0) else (noCode,0,(checkM c).1):=by unfold readO; rw [if_neg (by omega)]
 refine iV_al ?_;intro br w2 hbr hS2;clear hS1;have hB0:ReadC br z noCode 0 [(br,.cells [nilS,nilS,nilS,nilS,nilS,nilS,.int .i64 0].toArray 212 (0,0))]:=⟨_,_,_,_,_,_,[],[],[],[],[],[],[],[],[],[],[],[],rfl,OwnSl.nil,Lsl.nil,OwnSl.nil,Lsl.nil,OwnSl.nil,Lsl.nil,OwnSl.nil,Lsl.nil,OwnSl.nil,Lsl.nil,OwnSl.nil,Lsl.nil⟩
 generalize hX:readM (s.size + 1) noCode 0 0 (bytes s) = X at hro;refine LoopG2 (fun (p:CodeM × Int × Nat × ByteArray × Nat) x y w'=>x = .string p.2.2.2.1/\y = .int .i64 (p.2.2.1:Nat)/\FewC p.1 p.2.2.1/\p.2.2.1 + p.2.2.2.1.size <= s.size/\p.2.2.2.1.size < p.2.2.2.2/\X = readM p.2.2.2.2 p.1 p.2.1 p.2.2.1 (bytes p.2.2.2.1)/\∃ B' z',Le z z'/\ReadC br z' p.1 p.2.1 B'/\Res w z [] w' z' (B' ++ [(b2,.cells [nilS,nilS,nilS,nilS,nilS,nilS].toArray 28 (0,0))])) (fun p=>p.2.2.2.2) (noCode,0,0,s,s.size + 1)
  ⟨rfl,rfl,⟨Nat.le_refl _,Nat.le_refl _,Nat.le_refl _,Nat.le_refl _,Nat.le_refl _,Nat.le_refl _⟩,by simp,by simp,hX.symm,_,z,Le.refl _,hB0,hS2⟩ ?_
 rintro I M ⟨c,kind,n,t,f⟩ x y w3 m ⟨rfl,rfl,hfew,hnt,hf,hx,B',z3,hz3,hB,hS3⟩ back
 simp only at hfew hnt hf hx hB;dsimp only;clear hS2 hB0 hX;obtain ⟨f,rfl⟩:∃ f',f = f' + 1:=⟨f - 1,by omega⟩
 rw [readM] at hx;have htl:t.size = (bytes t).length:=size_bytes t;refine V_run ?_;refine Cond_n (fun hne=>?_) (fun hne=>?_)
 ·have hne:¬ bytes t = []:=fun e=>by rw [decide_eq_true (str_nil.2 e)] at hne; cases hne
  rw [if_neg hne] at hx;haveI:Sm t:=⟨by simp only [big]; omega⟩
  haveI:InI ((n:Int) + 1):=⟨by omega⟩
  have bad:X = .error n->∀ z' w' (L':Bl),Res w z [] w' z' (L' ++ [(b2,.cells [nilS,nilS,nilS,nilS,nilS,nilS].toArray 28 (0,0))])->V (bd 28 #[]) w' fun t33 w=>U (st 28 (.pointer (some ⟨b2,0,none⟩)) t33) w fun w=>CW 28 (.pointer (some ⟨b2,0,none⟩)) w fun t1002=>RR (.tuple #[t1002,.int .i64 (n:Nat),.int .i64 2]) w:=by
   intro h z' w' L' hS';have hS'':=hS'.keep [.at b2];clear hS' hS3;(repeat (first | refine V_run ?_ | (refine iU_st ?_; intro _ _) | refine iHV_N ?_));exact hR _ _ _ _ _ _ _ _ _ _ _ _ (by assumption) (by rw [hro,h]) (hno _)
  refine CV_pu ?_;intro z4 w4 hz4 hS4;clear hS3;have htw:((bytes t).takeWhile (· ≠ 10)).length <= t.size:=by rw [htl]; exact (List.takeWhile_sublist _).length_le
  have hdw:((bytes t).takeWhile (· ≠ 10)).length + ((bytes t).dropWhile (· ≠ 10)).length = t.size:=by rw [<- List.length_append,List.takeWhile_append_dropWhile,htl]
  rcases cut_all (s:=t) (c:=10) with ⟨hd,r,hc⟩ | ⟨hd,hc⟩
  ·rw [hc]
   rw [if_pos hd] at hx;(repeat (refine V_run ?_));intro K0 hK0;refine Cond_is rfl ?_;refine hK0 _ _ fun _=>?_
   refine Cond_is rfl ?_;exact bad hx _ _ _ (by assumption)
  ·rw [hc]
   rw [if_neg hd] at hx;generalize hone:(⟨((bytes t).takeWhile (· ≠ 10)).toArray⟩:ByteArray) = one at hx ⊢;have hos:one.size <= 1000000:=by
    rw [<- hone];have:(⟨((bytes t).takeWhile (· ≠ 10)).toArray⟩:ByteArray).size = ((bytes t).takeWhile (· ≠ 10)).length:=rfl;omega
   have hdp:0 < ((bytes t).dropWhile (· ≠ 10)).length:=List.length_pos_iff.2 hd;refine V_run ?_;refine V_run ?_;refine V_run ?_;refine V_run ?_;intro K0 hK0;refine Cond_not rfl ?_;haveI:Tab z4:=ht.le hS4.zle;haveI:Errs z4:=he.le hS4.zle;have hB4:ReadC br z4 c kind B':=by
    obtain ⟨v1,v2,v3,v4,v5,v6,B1,B2,B3,B4,B5,B6,u1,u2,u3,u4,u5,u6,e,o1,l1,o2,l2,o3,l3,o4,l4,o5,l5,o6,l6⟩:=hB;exact ⟨v1,v2,v3,v4,v5,v6,B1,B2,B3,B4,B5,B6,u1,u2,u3,u4,u5,u6,e,o1,l1.mono hz4,o2,l2.mono hz4,o3,l3.mono hz4,o4,l4.mono hz4,o5,l5.mono hz4,o6,l6.mono hz4⟩
   have hfew6:FewC c 1000000:=by
    obtain ⟨h1,h2,h3,h4,h5,h6⟩:=hfew;exact ⟨by omega,by omega,by omega,by omega,by omega,by omega⟩
   refine CV_fn (B:=B') (F:=[(b2,.cells [nilS,nilS,nilS,nilS,nilS,nilS].toArray 28 (0,0))]) hS4 (readLine_of hB4 hos hfew6) (by simp) ?_;rintro z5 B5 w5 v5 hz5 hS5 hline
   clear hS4;unfold LineR at hline
   cases hlm:lineM c kind one with
   | none=>
    rw [hlm] at hline hx;obtain ⟨rfl,vs,rfl⟩:=hline;refine V_run ?_;refine hK0 _ _ fun _=>?_
    refine Cond_is rfl ?_;exact bad hx _ _ _ hS5
   | some ck=>
    obtain ⟨c',k'⟩:=ck;rw [hlm] at hline hx;obtain ⟨rfl,hB5⟩:=hline;simp only at hx;refine V_run ?_;refine hK0 _ _ fun _=>?_
    refine Cond_not rfl ?_;refine V_run ?_;have hrs:(⟨(((bytes t).dropWhile (· ≠ 10)).drop 1).toArray⟩:ByteArray).size = (((bytes t).dropWhile (· ≠ 10)).drop 1).length:=rfl;refine back (c',k',n + 1,⟨(((bytes t).dropWhile (· ≠ 10)).drop 1).toArray⟩,f) _ _ _ ⟨rfl,by simp,lineM_few hlm hfew,?_,?_,?_,B5,z5,by (repeat (exact Res.zle (by assumption))),hB5,hS5⟩ (by show f < f + 1; omega)
    ·show n + 1 + (⟨(((bytes t).dropWhile (· ≠ 10)).drop 1).toArray⟩:ByteArray).size <= s.size
     rw [hrs,List.length_drop]; omega
    ·show (⟨(((bytes t).dropWhile (· ≠ 10)).drop 1).toArray⟩:ByteArray).size < f
     rw [hrs,List.length_drop]; omega
    ·show X = readM f c' k' (n + 1) (bytes ⟨(((bytes t).dropWhile (· ≠ 10)).drop 1).toArray⟩)
     rw [hx,show bytes (⟨(((bytes t).dropWhile (· ≠ 10)).drop 1).toArray⟩:ByteArray) = ((bytes t).dropWhile (· ≠ 10)).drop 1 from List.toList_toArray]
 ·have hne:bytes t = []:=str_nil.1 (of_decide_eq_true hne)
  rw [if_pos hne] at hx;rw [hx] at hro;simp only at hro;have hfew6:FewC c 1000000:=by
   obtain ⟨h1,h2,h3,h4,h5,h6⟩:=hfew;exact ⟨by omega,by omega,by omega,by omega,by omega,by omega⟩
  obtain ⟨z4,v1,v2,v3,v4,v5,v6,hz4,hS4,hcode⟩:=hB.code hS3 hfew6;obtain ⟨a1,a2,a3,a4,a5,a6,k1,k2,k3,k4,k5,k6,hvv,_⟩:=hcode.form
  cases hvv
  clear hS3 back;(repeat (first | refine V_run ?_ | refine iV_ldN ?_));refine CV_1 (check_of (hcode.mono (by (repeat (exact Le.refl _))))) ?_;rintro z5 w5 v5 hz5 hS5 rfl
  clear hS4;(repeat (refine V_run ?_));refine Cond_n (fun hck=>?_) (fun hck=>?_)
  ·have hck:¬ (checkM c).1 = 0:=by simpa using hck
   rw [if_neg hck] at hro;(repeat (first | refine V_run ?_ | (refine iU_st ?_; intro _ _) | refine iHV_N ?_));exact hR _ _ _ _ _ _ _ _ _ _ _ _ (by assumption) hro (hno _)
  ·have hck:(checkM c).1 = 0:=by simpa using hck
   rw [if_pos hck] at hro;(repeat (first | refine V_run ?_ | refine iV_ldN ?_ | (refine iU_st ?_; intro _ _) | refine iHV_N ?_));exact hR _ _ _ _ _ _ _ _ _ _ _ _ (by assumption) hro (hcode.mono (by (repeat (assumption)))))
end
section
open Go Q Go.RowKit
theorem dig_toNat {k:Nat} (h:k < 10):(UInt8.ofNat (48 + k)).toNat = 48 + k:=by
 rw [UInt8.toNat_ofNat']; omega
theorem dig_mem (u:Nat):∀ c ∈ Lib.decDigits u,48 <= c.toNat/\c.toNat <= 57:=by
 induction u using Nat.strongRecOn with
 | _ u ih=>
  intro c hc;rw [Lib.decDigits] at hc
  split at hc
  ·rename_i h
   rw [List.mem_singleton] at hc;rw [hc,dig_toNat h];omega
  ·rename_i h
   rcases List.mem_append.1 hc with hc | hc
   ·exact ih _ (by omega) c hc
   ·rw [List.mem_singleton] at hc
    rw [hc,dig_toNat (by omega)];omega
theorem dig_ne (u:Nat):Lib.decDigits u ≠ []:=by
 rw [Lib.decDigits]
 split
 ·simp
 ·simp
theorem digs_le:∀ (k u:Nat),u < 10 ^ (k + 1)->(Lib.decDigits u).length <= k + 1
 | k,u,h=>by
  rw [Lib.decDigits]
  split
  ·simp
  ·rename_i h2
   match k,h with
   | 0,h=>simp at h; omega
   | k + 1,h=>
    have:=digs_le k (u / 10) (by rw [Nat.pow_succ] at h; omega);rw [List.length_append];simp only [List.length_cons,List.length_nil];omega
theorem parse_dig (u:Nat) (h:u <= 1000000000000):∀ r,Lib.parseUint10 0 (Lib.decDigits u ++ r) = Lib.parseUint10 u r:=by
 induction u using Nat.strongRecOn with
 | _ u ih=>
  intro r;rw [Lib.decDigits]
  split
  ·rename_i h2
   rw [List.singleton_append,Lib.parseUint10,dig_toNat h2,if_pos (by omega),if_neg (by omega),if_neg (by omega)]
   congr 1
   omega
  ·rename_i h2
   rw [List.append_assoc,ih _ (by omega) (by omega),List.singleton_append,Lib.parseUint10,dig_toNat (by omega),if_pos (by omega),if_neg (by omega),if_neg (by omega)]
   congr 1
   omega
theorem parseMag_dig {u:Nat} (h:u <= 1000000000000):Lib.parseMag (Lib.decDigits u) = .ok u:=by
 unfold Lib.parseMag;rw [if_neg (dig_ne u)];have:=parse_dig u h [];rw [List.append_nil] at this;rw [this]
 rfl
theorem atoi_itoa {n:Int} (h1:-1000000000 <= n) (h2:n <= 1000000000):Lib.atoiAll (Lib.itoa n) = .ok n:=by
 unfold Lib.itoa
 split
 ·rename_i h
  unfold Lib.atoiAll;simp only [show (45:UInt8).toNat = 45 from rfl,or_true,if_true];rw [parseMag_dig (by omega)];simp only [not_true_eq_false,false_and,if_false,true_and,if_true];rw [if_neg (by omega)]
  congr 1
  omega
 ·rename_i h
  have hm:=dig_mem n.toNat;have hp:=parseMag_dig (u:=n.toNat) (by omega)
  cases hd:Lib.decDigits n.toNat with
  | nil=>exact absurd hd (dig_ne _)
  | cons c r=>
   rw [hd] at hm hp;have hc:=hm c List.mem_cons_self;unfold Lib.atoiAll;simp only;rw [if_neg (by omega),hp];simp only;rw [if_neg (by omega),if_neg (by omega),if_neg (by omega)]
   congr 1
   omega
theorem itoa_mem (n:Int):∀ c ∈ Lib.itoa n,c = 45 \/ (48 <= c.toNat/\c.toNat <= 57):=by
 intro c hc;unfold Lib.itoa at hc
 split at hc
 ·rcases List.mem_cons.1 hc with rfl | hc
  ·exact .inl rfl
  ·exact .inr (dig_mem _ c hc)
 ·exact .inr (dig_mem _ c hc)
theorem itoa_ne (n:Int):Lib.itoa n ≠ []:=by
 unfold Lib.itoa
 split
 ·simp
 ·exact dig_ne _
theorem itoa_len {n:Int} (h1:-1000000000 <= n) (h2:n <= 1000000000):(Lib.itoa n).length <= 11:=by
 unfold Lib.itoa
 split
 ·have:=digs_le 9 n.natAbs (by omega)
  simp only [List.length_cons];omega
 ·have:=digs_le 9 n.toNat (by omega)
  omega
def Bare (c:UInt8):Prop:=c ≠ 32/\c ≠ 10
theorem itoa_bare (n:Int):∀ c ∈ Lib.itoa n,Bare c/\c ≠ 34:=by
 intro c hc
 rcases itoa_mem n c hc with rfl | h
 ·exact ⟨⟨by decide,by decide⟩,by decide⟩
 ·refine ⟨⟨?_,?_⟩,?_⟩ <;> rintro rfl <;> revert h <;> decide
theorem bytes_itoaB (n:Int):bytes (itoaB n) = Lib.itoa n:=rfl
theorem trimP_le (s p:ByteArray):(trimP s p).size <= s.size:=by
 unfold trimP;(repeat' split) <;> simp
theorem numW_itoa {n:Int} (h1:-1000000000 <= n) (h2:n <= 1000000000):numW ⟨itoaB n,false⟩ = some n:=by
 unfold numW;simp only [Bool.false_eq_true,if_false];rw [bytes_itoaB,atoi_itoa h1 h2];simp only;have h3:=trimP_le (itoaB n) ⟨#[45]⟩;have h4:(itoaB n).size = (Lib.itoa n).length:=rfl;have:=itoa_len h1 h2;rw [if_pos (by omega)]
end
section
open Go Q Go.RowKit
theorem ba_inj {a b:ByteArray} (h:bytes a = bytes b):a = b:=ByteArray.ext (Array.toList_inj.1 h)
theorem bytes_mk (l:List UInt8):bytes ⟨l.toArray⟩ = l:=by simp
theorem bytes_add (a b:ByteArray):bytes (a ++ b) = bytes a ++ bytes b:=by simp
def escL (l:List UInt8):List UInt8:=l.flatMap fun c=>if c = 34 then [34,34] else [c]
theorem replL_esc:∀ (l:List UInt8) (k:Nat),l.count 34 <= k->replL 34 [34,34] k l = escL l
 | [],k,_=>by cases k <;> rfl
 | x :: l,0,h=>by
  have h0:(x :: l).count 34 = 0:=by omega
  rw [replL_zero];have h1:x ≠ 34:=by rintro rfl; rw [List.count_cons_self] at h0; omega
  have h2:l.count 34 <= 0:=by rw [List.count_cons_of_ne h1] at h0; omega
  have h3:=replL_esc l 0 h2;rw [replL_zero] at h3;rw [escL,List.flatMap_cons,if_neg h1,<- escL,<- h3]
  rfl
 | x :: l,k + 1,h=>by
  rw [replL,escL,List.flatMap_cons,<- escL]
  by_cases h1:x = 34
  ·subst h1
   rw [List.count_cons_self] at h;rw [if_pos rfl,if_pos rfl,replL_esc l k (by omega)]
  ·rw [List.count_cons_of_ne h1] at h
   rw [if_neg h1,if_neg h1,replL_esc l (k + 1) h]
   rfl
theorem bytes_quoted (s:ByteArray):bytes (quotedB s) = 34 :: (escL (bytes s) ++ [34]):=by
 have e:replK s 34 (-1) = (bytes s).count 34:=by unfold replK; rw [if_pos (by omega)]
 rw [quotedB,bytes_add,bytes_add,replB,bytes_mk,e];have:=replL_esc (bytes s) _ (Nat.le_refl _)
 show ([34] ++ replL 34 [34,34] ((bytes s).count 34) (bytes s)) ++ [34] = _
 rw [this];simp
theorem litS_esc:∀ (l acc r:List UInt8),r.head? ≠ some 34->litS false acc (escL l ++ 34 :: r) = some (acc ++ l,r)
 | [],acc,r,h=>by
  show litS false acc (34 :: r) = _
  rw [litS,if_pos rfl]
  cases r with
  | nil=>simp [litS]
  | cons c r=>rw [litS,if_neg (by simpa using h)]; simp
 | x :: l,acc,r,h=>by
  rw [escL,List.flatMap_cons,<- escL]
  by_cases h1:x = 34
  ·subst h1
   rw [if_pos rfl]
   show litS false acc (34 :: 34 :: (escL l ++ 34 :: r)) = _
   rw [litS,if_pos rfl,litS,if_pos rfl,litS_esc l _ r h];simp
  ·rw [if_neg h1]
   show litS false acc (x :: (escL l ++ 34 :: r)) = _
   rw [litS,if_neg h1,litS_esc l _ r h];simp
theorem takeW_app {l r:List UInt8} {c:UInt8} (h:c ∉ l) (hr:r = [] \/ r.head? = some c):(l ++ r).takeWhile (· ≠ c) = l/\(l ++ r).dropWhile (· ≠ c) = r:=by
 induction l with
 | nil=>
  rcases hr with rfl | hr
  ·exact ⟨rfl,rfl⟩
  ·cases r with
   | nil=>simp at hr
   | cons d r=>
    simp only [List.head?_cons,Option.some.injEq] at hr;subst hr;simp
 | cons x l ih=>
  have h1:x ≠ c:=fun e=>h (e ▸ List.mem_cons_self)
  have h2:=ih fun hm=>h (List.mem_cons_of_mem _ hm)
  rw [List.cons_append,List.takeWhile_cons,List.dropWhile_cons];simp only [ne_eq,h1,not_false_eq_true,decide_true,if_true];exact ⟨by rw [<- h2.1]; rw [h2.1,h2.1],h2.2⟩
def prW (w:WordM):ByteArray:=if w.lit = true then quotedB w.s else w.s
def GoodW (b:Bool) (w:WordM):Prop:=if w.lit = true then b = false else bytes w.s ≠ []/\32 ∉ bytes w.s/\(b = true \/ (bytes w.s).head? ≠ some 34)
theorem prW_ne {b:Bool} {w:WordM} (h:GoodW b w):bytes (prW w) ≠ []:=by
 unfold prW;unfold GoodW at h
 split
 ·rw [bytes_quoted]; simp
 ·rename_i h1
  rw [if_neg h1] at h;exact h.1
theorem tok_print {b:Bool} {w:WordM} {r:List UInt8} (h:GoodW b w) (hr:r = [] \/ r.head? = some 32):tokM b (bytes (prW w) ++ r) = some (w,r):=by
 obtain ⟨s,lit⟩:=w;unfold GoodW at h
 cases lit with
 | true=>
  simp only [if_true] at h;subst h;simp only [prW,if_true];rw [bytes_quoted];unfold tokM;rw [if_pos ⟨by simp,rfl⟩];have e:(34 :: (escL (bytes s) ++ [34]) ++ r).drop 1 = escL (bytes s) ++ 34 :: r:=by simp
  rw [e,litS_esc _ _ _ (by rcases hr with rfl | hr <;> simp_all)];simp only;rw [if_neg (by rintro ⟨h1,h2⟩; rcases hr with hr | hr <;> contradiction)]
  rfl
 | false=>
  simp only [Bool.false_eq_true,if_false] at h;obtain ⟨h1,h2,h3⟩:=h;simp only [prW,Bool.false_eq_true,if_false];unfold tokM;have ht:=takeW_app h2 hr;rw [if_neg,ht.1,ht.2,if_neg h1];rintro ⟨e1,e2⟩
  rcases h3 with h3 | h3
  ·rw [h3] at e2; cases e2
  ·cases hb:bytes s with
   | nil=>exact h1 hb
   | cons c l=>
    rw [hb] at e1 h3;exact h3 (by simpa using e1)
theorem joinW_cons2 (x y:ByteArray) (r:List ByteArray):joinW (x :: y :: r) = bytes x ++ 32 :: joinW (y :: r):=by
 simp [joinW]
theorem joinW_one (x:ByteArray):joinW [x] = bytes x:=by simp [joinW]
theorem words_print {b:Bool}:∀ (ws:List WordM) (f:Nat),ws ≠ []->(∀ w ∈ ws,GoodW b w)->(joinW (ws.map prW)).length < f->wordsM b f (joinW (ws.map prW)) = some ws
 | [],f,h,_,_=>absurd rfl h
 | [w],f,_,h,hf=>by
  obtain ⟨f,rfl⟩:∃ g,f = g + 1:=⟨f - 1,by omega⟩
  rw [List.map_cons,List.map_nil,joinW_one,wordsM];have:=tok_print (r:=[]) (h w List.mem_cons_self) (.inl rfl);rw [List.append_nil] at this;rw [this];simp
 | w :: v :: ws,f,_,h,hf=>by
  obtain ⟨f,rfl⟩:∃ g,f = g + 1:=⟨f - 1,by omega⟩
  rw [List.map_cons,List.map_cons,joinW_cons2] at hf ⊢;rw [wordsM,tok_print (h w List.mem_cons_self) (.inr rfl)];simp only;have hne:joinW (prW v :: ws.map prW) ≠ []:=by
   have:=prW_ne (h v (List.mem_cons_of_mem _ List.mem_cons_self));rw [joinW];intro e;exact this (List.append_eq_nil_iff.1 e).1
  rw [if_neg (by simp)];simp only [List.drop_succ_cons,List.drop_zero];rw [if_neg hne];have:=words_print (v :: ws) f (by simp) (fun x hx=>h x (List.mem_cons_of_mem _ hx)) (by
   rw [List.length_append,List.length_cons] at hf;rw [List.map_cons];omega)
  rw [List.map_cons] at this;rw [this]
  rfl
theorem wordsL_print {s:ByteArray} {ws:List WordM} (h0:ws ≠ []) (h:∀ w ∈ ws,GoodW (bareB s) w) (hs:bytes s = joinW (ws.map prW)):wordsL s = some ws:=by
 unfold wordsL;rw [hs];exact words_print ws _ h0 h (by rw [size_bytes,hs]; omega)
theorem preB_word {s p:ByteArray} {q:List UInt8} (hp:bytes p = q ++ [32]) (hq:32 ∉ q) (h:preB s p = true):(bytes s).takeWhile (· ≠ 32) = q:=by
 unfold preB at h
 cases hd:decide ((s.size:Int) ≥ p.size) with
 | false=>rw [hd] at h; cases h
 | true=>
  rw [hd,cond_true] at h;have h1:s.extract 0 p.size = p:=of_decide_eq_true h;have h2:=bytes_extract s 0 p.size;rw [h1,hp,List.drop_zero] at h2;have h3:bytes s = q ++ 32 :: (bytes s).drop (p.size - 0):=by
   conv=>lhs; rw [<- List.take_append_drop (p.size - 0) (bytes s),<- h2]
   simp
  rw [h3];exact (takeW_app hq (.inr rfl)).1
theorem bareB_word {s:ByteArray} (h:bareB s = true):(bytes s).takeWhile (· ≠ 32) = [108,105,115,116] \/ (bytes s).takeWhile (· ≠ 32) = [110,97,109,101]:=by
 unfold bareB at h
 cases hl:preB s listP with
 | true=>exact .inl (preB_word rfl (by decide) hl)
 | false=>
  rw [hl,cond_false] at h;exact .inr (preB_word rfl (by decide) h)
theorem bareB_no {s:ByteArray} {w:WordM} {ws:List WordM} (hw:bytes w.s ≠ []/\32 ∉ bytes w.s) (hl:w.lit = false) (hs:bytes s = joinW ((w :: ws).map prW)) (h1:bytes w.s ≠ [108,105,115,116]) (h2:bytes w.s ≠ [110,97,109,101]):bareB s = false:=by
 cases hb:bareB s with
 | false=>rfl
 | true=>
  have:=bareB_word hb;have e:(bytes s).takeWhile (· ≠ 32) = bytes w.s:=by
   rw [hs,List.map_cons,joinW];have:prW w = w.s:=by unfold prW; rw [hl]; rfl
   rw [this];refine (takeW_app hw.2 ?_).1
   cases ws with
   | nil=>exact .inl rfl
   | cons v ws=>exact .inr (by simp)
  rw [e] at this
  rcases this with h | h <;> contradiction
end
end Go.Proofs.YtbeelfopmkbllaaGreatDoor
