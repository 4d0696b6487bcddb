/- Texts joined: C9, C10, C11, C12, Q19, C13, C14, Q20, C15, C16, Q21, C17, C18, C19, C20, C21, C22, C23, C24, C25, C26, C27, C28. -/
import Derived.Test.YtbeelfopmkbllaaGreatDoorM3
import Derived.Lib.MakeNoZero
import Derived.Laws.CopyRow
set_option linter.unusedSimpArgs false
set_option linter.unusedVariables false
set_option linter.unusedSectionVars false
set_option maxRecDepth 20000
set_option maxHeartbeats 1000000
set_option synthInstance.maxHeartbeats 4000000
set_option synthInstance.maxSize 20000
namespace Go.Proofs.YtbeelfopmkbllaaGreatDoor
open Go Q Go.RowKit
open _root_.List
section
instance:ke 276 (Extern.BytealgMakeNoZero.makeNoZero #[3] #[55]):=⟨fun _ _=>by kernel_rfl⟩
instance {t e n ty len cap:Nat} {a:Option Addr} [g:bF t e n]:Run (Builtin.cap_ #[t] ty #[.slice a len cap]) (.int .i64 cap):=⟨fun w=>by
 simp [Builtin.cap_,Sem.run_bind,g.und,goInt]⟩
theorem De {f:FuncId} {e:Array Value->Sem Value} [he:ke f e] {args:Array Value} {w w':World} {v:Value} {K:RP} (h:(e args).run Tryz.prog w = .ok v w') (hk:K v w'):CV (.func (.func f) #[] #[]) args w K:=by
 have:(dK (.func (.func f) #[] #[]) args).run Tryz.prog w = .ok (.value v) w':=by
  simp only [dK,Deferred.ofValue,pure_bind,invoke];have hh:=he.h (#[] ++ args ++ #[]) w;simp only [Array.empty_append,Array.append_empty] at hh ⊢;rw [hh];simp only [Sem.run_bind,h,Result.andThen_ok]
  rfl
 unfold CV CallV;rw [this];exact hk
theorem yG {b:Nat} {p:Option Addr} {n:Nat} {z:Z} {w:World} (hp:p = none \/ p = some ⟨b,0,none⟩) (hn:n <= room) :
  Fn 261 #[.pointer (some ⟨b,0,none⟩),.int .i64 n] z [(b,buO p (.slice none 0 0))] w fun _ B' r=>BuOk b B' []/\r = .tuple #[]:=Fn.intro fun hS=>en261 (by
 unfold vc261;simp only [room] at hn;haveI:InI ((2:Int) * ((0:Nat):Int)):=⟨by omega⟩
 haveI:InI ((2:Int) * ((0:Nat):Int) + (n:Int)):=⟨by omega⟩
 (repeat (first | (refine iDr ?_; intro _ _) | refine aK ?_ | refine aW ?_));rename_i w1 hS1;obtain ⟨cs,hr,h1,h2⟩:=Lib.run_makeNoZero (P:=Tryz.prog) w1 #[3] 55 5 (by kernel_rfl) n (by omega);rw [show (2:Int) * ((0:Nat):Int) + (n:Int) = n by omega];refine De (e:=Extern.BytealgMakeNoZero.makeNoZero #[3] #[55]) hr ?_;have hS2:Res w z [(b,buO p (.slice none 0 0))] (w1.drew.drew.alloc (.cells cs 5)) z [(w1.heap.size,.cells cs.toList.toArray 5 (0,0)),(b,buO p (.slice none 0 0))]:=by
  have:=Res.new (Res.drew (Res.drew hS1)) (.cells cs.toList.toArray 5 (0,0));rw [Array.toArray_toList] at this ⊢;exact this
 clear hS hS1;haveI:InR ((0:Nat):Int) ((cs.size:Int) + 1):=⟨by omega,by omega⟩
 (repeat (first | refine aA ?_ | refine aK ?_ | refine aE ?_ | refine bN ?_));refine ⟨_,_,run_copy_nil Tryz.prog _ 55 55 3 5 _ _ _ (by kernel_rfl) (by kernel_rfl),?_⟩;(repeat (first | refine aA ?_ | (refine aF ?_; intro _ _)));rename_i hSe;refine ⟨_,_,hSe.bringB b,⟨_,_,_,rfl,hp,?_⟩,rfl⟩;refine ⟨rfl,.inr ⟨_,_,cs.toList,rfl,rfl,Nat.zero_le _,h2 (by simp only [maxLen]; omega),by simp⟩⟩)
end
section
theorem CJ {b:Nat} {p:Option Addr} {n:Int} {z:Z} {w:World} (hp:p = none \/ p = some ⟨b,0,none⟩) (h0:0 <= n) (hn:n <= 140737488355328) :
  Fn 235 #[.pointer (some ⟨b,0,none⟩),.int .i64 n] z [(b,buO p (.slice none 0 0))] w fun _ B' r=>BuOk b B' []/\r = .tuple #[]:=Fn.intro fun hS=>en235 (by
 unfold vc235;refine bO (B:=[(b,buO p (.slice none 0 0))]) (F:=[]) (by simpa using hS) (nW hp) (by simp) ?_;rintro z1 B1 w1 v1 hz1 hS1 ⟨rfl,rfl⟩
 rw [append_nil] at hS1;clear hS;haveI:InI (((0:Nat):Int) - ((0:Nat):Int)):=⟨by omega⟩
 (repeat (first | refine aA ?_ | (refine J0 ?_; intro _ _)));refine aC (fun h=>?_) (fun h=>?_)
 ·omega
 (repeat (first | (refine iDr ?_; intro _ _) | refine aK ?_ | refine aW ?_ | refine K0 ?_));have hS2:=‹Res w z _ _ _ _›
 refine aC (fun h=>?_) (fun h=>?_)
 ·obtain ⟨m,rfl⟩:∃ m:Nat,n = m:=⟨n.toNat,by omega⟩
  refine bO (B:=[(b,buO (some ⟨b,0,none⟩) (.slice none 0 0))]) (F:=[]) (by simpa using hS2) (yG (n:=m) (.inr rfl) (by simp only [room]; omega)) (by simp) ?_;rintro z3 B3 w3 v3 hz3 hS3 ⟨hB3,rfl⟩
  rw [append_nil] at hS3;exact ⟨_,_,hS3,hB3,rfl⟩
 ·exact ⟨_,_,hS2,⟨_,_,[],rfl,.inr rfl,OwnSl.nil⟩,rfl⟩)
end
section
def eD (c:UInt8) (t:List UInt8):Nat->List UInt8->List UInt8
 | _,[]=>[]
 | 0,l=>l
 | k + 1,x :: l=>if x = c then t ++ eD c t k l else x :: eD c t (k + 1) l
def gN (s:ByteArray) (c:UInt8) (n:Int):Nat:=if n < 0 then (bytes s).count c else min n.toNat ((bytes s).count c)
def fT (s:ByteArray) (c:UInt8) (t:ByteArray) (n:Int):ByteArray:=⟨(eD c (bytes t) (gN s c n) (bytes s)).toArray⟩
theorem fX (c:UInt8) (t l:List UInt8):eD c t 0 l = l:=by cases l <;> rfl
theorem pK {c:UInt8} {t:List UInt8} {k:Nat}:∀ {l:List UInt8} {i:Nat},l.findIdx? (· == c) = some i->eD c t (k + 1) l = l.take i ++ t ++ eD c t k (l.drop (i + 1))
 | [],i,h=>by cases h
 | x :: l,i,h=>by
  rw [findIdx?_cons] at h
  by_cases hx:x = c
  ·subst hx
   simp at h;subst h;simp [eD]
  ·have hx':(x == c) = false:=by simpa using hx
   rw [hx'] at h;simp only [Bool.false_eq_true,if_false,Option.map_eq_some_iff] at h;obtain ⟨j,h1,rfl⟩:=h;simp only [eD,if_neg hx];rw [pK h1];simp
theorem gY {c:UInt8} {t:List UInt8}:∀ (l:List UInt8) (k:Nat),(eD c t k l).length <= l.length + k * t.length
 | [],k=>by simp [eD]
 | x :: l,0=>by rw [fX]; simp
 | x :: l,k + 1=>by
  simp only [eD]
  split
  ·have:=gY (c:=c) (t:=t) l k
   rw [length_append,length_cons,Nat.add_mul,Nat.one_mul]; omega
  ·have:=gY (c:=c) (t:=t) l (k + 1)
   simp only [length_cons]; omega
theorem bB (s:ByteArray) (i j:Nat):bytes (s.extract i j) = ((bytes s).drop i).take (j - i):=by
 show (s.extract i j).data.toList = _
 rw [ByteArray.data_extract,Array.toList_extract,extract_eq_take_drop]
theorem df (s:ByteArray) (i:Nat):bytes (s.extract i s.size) = (bytes s).drop i:=by
 rw [bB,take_of_length_le (by simp)]
theorem qU (s:ByteArray) (i:Nat):Lib.strCells (s.extract i s.size) = Lib.byteCells ((bytes s).drop i):=by
 rw [Lib.strCells_eq]; exact congrArg _ (df s i)
instance {t:Nat} {s:ByteArray} {l h:Int} {k k':IntKind} [g:kM t] [hl:InR l (h + 1)] [hr:InR h (s.size + 1)]:Run (sl t (.string s) (some (.int k l)) (some (.int k' h)) none) (.string (s.extract l.toNat h.toNat)):=⟨fun w=>by
 have h1:h <= s.size:=by have:=hr.h1; omega
 have h2:l <= h:=by have:=hl.h1; omega
 have h3:l.toNat <= h.toNat:=by omega
 have h4:(l.toNat:Int) <= (h.toNat:Int):=by omega
 have h5:(h.toNat:Int) = h:=by have:=hr.h0; omega
 simp only [sl,Instr.sliceAt,Sem.run_bind,g.und,Result.andThen_ok,Instr.slice,Instr.sliceBounds,bv,Instr.sliceBound,asIntOf,pure_bind,hr.h0,hl.h0,h1,h2,h3,h4,h5,and_self,if_true,Option.isSome_none,Bool.false_eq_true,if_false]⟩
theorem qd {c:UInt8} {l:List UInt8} (h:0 < l.count c):∃ j,l.findIdx? (· == c) = some j/\j < l.length/\(l.drop (j + 1)).count c + 1 = l.count c:=by
 induction l with
 | nil=>simp at h
 | cons x l ih=>
  rw [findIdx?_cons]
  by_cases hx:x = c
  ·subst hx; exact ⟨0,by simp,by simp,by simp⟩
  ·have hx':(x == c) = false:=by simpa using hx
   rw [count_cons,hx'] at h;obtain ⟨j,h1,h2,h3⟩:=ih (by simpa using h);exact ⟨j + 1,by rw [hx',h1]; rfl,by simpa using h2,by rw [count_cons,hx']; simpa using h3⟩
class xH (s:ByteArray) (c:UInt8) (t:ByteArray) (n:Int):Prop where
 ne:b1 c ≠ t
 n0:n ≠ 0
 sz:s.size + (bytes s).count c * t.size <= 140737488355328
instance {s:ByteArray} {c:UInt8} {t:ByteArray} {n:Int} [h:xH s c t n]:Pu 236 #[.string s,.string (b1 c),.string t,.int .i64 n] (.string (fT s c t n)):=⟨fun z w=>Fn1.intro fun hS=>en236 (by
 unfold vc236;(repeat (first | refine aA ?_ | refine JB ?_));refine aO (fun h1=>?_) (fun h1=>?_)
 ·have:=h.ne; have:=h.n0; simp_all
 skip
 intro K hK;have hc0:(bytes s).count c <= s.size:=by rw [aI]; exact count_le_length
 have hsz:=h.sz;have main:∀ (k:Nat) z3 w3,Le z z3->Res w z [] w3 z3 []->0 < k->k <= (bytes s).count c->k = gN s c n->K [.int .i64 k] w3:=by
  intro k z3 w3 hz3 hS3 hk0 hkc hk;refine hK _ _ fun _=>?_
  have hkt:k * t.size <= (bytes s).count c * t.size:=Nat.mul_le_mul_right _ hkc;have hmul:(k:Int) * ((t.size:Int) - 1) = ((k * t.size:Nat):Int) - k:=by rw [Int.mul_sub,Int.mul_one]; simp
  haveI:InI ((t.size:Int) - 1):=⟨by
   have:1 * t.size <= k * t.size:=Nat.mul_le_mul_right _ hk0;omega⟩
  haveI:InI ((k:Int) * ((t.size:Int) - 1)):=⟨by rw [hmul]; omega⟩
  haveI:InI ((s.size:Int) + (k:Int) * ((t.size:Int) - 1)):=⟨by rw [hmul]; omega⟩
  clear hS;(repeat (first | refine aA ?_ | (refine aP ?_; intro _ _ _ _)));rename_i b w4 hb hS4;refine bO (B:=[(b,buO none (.slice none 0 0))]) (F:=[]) (by simpa using hS4) (CJ (n:=(s.size:Int) + (k:Int) * ((t.size:Int) - 1)) (.inl rfl) (by rw [hmul]; omega) (by rw [hmul]; omega)) (by simp) ?_;rintro z5 B5 w5 v5 hz5 hS5 ⟨hB5,rfl⟩
  rw [append_nil] at hS5;clear hS3 hS4;intro K0 hK0;have fin0:∀ (st:Nat) (ys:List UInt8) z6 w6 B6,Res w z [] w6 z6 B6->BuOk b B6 (Lib.byteCells ys)->st <= s.size->eD c (bytes t) k (bytes s) = ys ++ (bytes s).drop st->K0 [.int .i64 st] w6:=by
   intro st ys z6 w6 B6 hS6 hB6 hst hys;refine hK0 _ _ fun _=>?_
   haveI:InR (st:Int) (s.size + 1):=⟨by omega,by omega⟩
   clear hS5;(repeat (refine aA ?_));have hlen:=gY (c:=c) (t:=bytes t) (bytes s) k;rw [<- aI,<- aI] at hlen;have hly:ys.length + (s.size - st) <= 140737488355328:=by
    rw [hys,length_append,length_drop,<- aI] at hlen;omega
   refine bO (B:=B6) (F:=[]) (by simpa using hS6) (dz hB6 (by
    rw [Lib.byteCells_length,aI,df]; simp only [length_drop,room]; rw [<- aI]; omega)) (by simp) ?_
   rintro z7 B7 w7 v7 hz7 hS7 ⟨hB7,rfl⟩
   rw [append_nil] at hS7;rw [qU,<- Lib.byteCells_append] at hB7;rw [<- hys] at hB7;refine bO (B:=B7) (F:=[]) (by simpa using hS7) (ft hB7 (by simp only [room]; omega)) (by simp) ?_;rintro z8 B8 w8 v8 hz8 hS8 ⟨rfl,rfl⟩
   exact ⟨_,_,hS8,by rw [fT,hk]⟩
  (repeat (first | refine aA ?_ | refine ah ?_));refine ee (fun (p:Nat × Nat × List UInt8) x y w'=>x = .int .i64 p.2.1/\y = .int .i64 p.1/\p.1 <= k/\p.2.1 <= s.size/\eD c (bytes t) k (bytes s) = p.2.2 ++ eD c (bytes t) (k - p.1) ((bytes s).drop p.2.1)/\k - p.1 <= ((bytes s).drop p.2.1).count c/\∃ z' B',Res w z [] w' z' B'/\BuOk b B' (Lib.byteCells p.2.2)) (fun p=>k - p.1) (0,0,[]) ⟨rfl,rfl,Nat.zero_le _,Nat.zero_le _,rfl,by simpa using hkc,_,_,hS5,hB5⟩ ?_;rintro I M ⟨i,st,ys⟩ x y w6 m ⟨rfl,rfl,h2,h3,h4,h5,z6,B6,hS6,hB6⟩ back
  simp only at h2 h3 h4 h5 hB6;clear hS5;(repeat (refine aA ?_));refine aC (fun hi=>?_) (fun hi=>?_)
  ·have hcnt:0 < ((bytes s).drop st).count c:=by omega
   obtain ⟨j,hj1,hj2,hj3⟩:=qd hcnt;have hjl:st + j < s.size:=by rw [length_drop,<- aI] at hj2; omega
   have hf:eo (fun x=>x == c) (bytes (s.extract (st:Int).toNat s.size)) = (j:Int):=by
    rw [Int.toNat_natCast,df]; unfold eo; rw [hj1]
   haveI:InR (st:Int) (s.size + 1):=⟨by omega,by omega⟩
   haveI:InI ((st:Int) + (j:Int)):=⟨by omega⟩
   haveI:InI ((st:Int) + (j:Int) + 1):=⟨by omega⟩
   haveI:InI ((i:Int) + 1):=⟨by omega⟩
   haveI:InR (st:Int) ((st:Int) + (j:Int) + 1):=⟨by omega,by omega⟩
   haveI:InR ((st:Int) + (j:Int)) (s.size + 1):=⟨by omega,by omega⟩
   (repeat (first | refine aA ?_ | (refine aN ?_; intro _ _ _ _)));rw [hf];(repeat (refine aA ?_));rename_i z7 w7 hz7 hS7;clear hS6;dsimp only;have hk1:k - i = (k - (i + 1)) + 1:=by omega
   rw [hk1,pK hj1,drop_drop,show st + (j + 1) = st + j + 1 by omega] at h4;have hlen:=gY (c:=c) (t:=bytes t) (bytes s) k;rw [<- aI,<- aI,h4,length_append,length_append,length_append] at hlen;have ht1:bytes (s.extract (st:Int).toNat ((st:Int) + (j:Int)).toNat) = ((bytes s).drop st).take j:=by
    rw [bB,show (st:Int).toNat = st by omega,show ((st:Int) + (j:Int)).toNat - st = j by omega]
   have hsz1:(s.extract (st:Int).toNat ((st:Int) + (j:Int)).toNat).size = (((bytes s).drop st).take j).length:=by rw [aI,ht1]
   have htl:(bytes t).length = t.size:=(aI t).symm;refine bO (B:=B6) (F:=[]) (by simpa using hS7) (dz hB6 (by rw [Lib.byteCells_length,hsz1]; simp only [room]; omega)) (by simp) ?_;rintro z8 B8 w8 v8 hz8 hS8 ⟨hB8,rfl⟩
   rw [append_nil] at hS8;rw [Lib.strCells_eq,show (s.extract (st:Int).toNat ((st:Int) + (j:Int)).toNat).data.toList = _ from ht1,<- Lib.byteCells_append] at hB8;refine bO (B:=B8) (F:=[]) (by simpa using hS8) (dz (s:=t) hB8 (by rw [Lib.byteCells_length,length_append]; simp only [room]; omega)) (by simp) ?_;rintro z9 B9 w9 v9 hz9 hS9 ⟨hB9,rfl⟩
   rw [append_nil] at hS9;rw [Lib.strCells_eq,<- Lib.byteCells_append] at hB9;clear hS7 hS8;(repeat (refine aA ?_));refine back (i + 1,st + j + 1,ys ++ ((bytes s).drop st).take j ++ bytes t) _ _ _ ⟨by simp,by simp,by simp only; omega,by simp only; omega,?_,?_,_,_,hS9,hB9⟩ (by simp only; omega)
   ·simp only
    rw [h4];simp only [append_assoc]
   ·simp only
    rw [drop_drop,show st + (j + 1) = st + j + 1 by omega] at hj3;omega
  ·exact fin0 st ys _ _ _ hS6 hB6 h3 (by rw [h4,show k - i = 0 by omega,fX])
 refine aN ?_;intro z3 w3 hz3 hS3;clear hS;refine aA ?_;refine aC (fun h2=>?_) (fun h2=>?_)
 ·refine ⟨_,_,hS3,?_⟩
  have h0:(bytes s).count c = 0:=by omega
  have hk:gN s c n = 0:=by unfold gN; rw [h0]; split <;> simp
  rw [fT,hk,fX]
 ·have hpos:0 < (bytes s).count c:=by omega
  have hn0:=h.n0;(repeat (first | refine aA ?_ | refine JB ?_));refine aO (fun h3=>?_) (fun h3=>?_)
  ·refine main _ _ _ hz3 hS3 hpos (Nat.le_refl _) ?_
   unfold gN
   by_cases hn:n < 0
   ·rw [if_pos hn]
   ·rw [decide_eq_false hn] at h3; simp only [cond_false,decide_eq_true_eq,decide_eq_false_iff_not] at h3
    rw [if_neg hn]; omega
  ·by_cases hn:n < 0
   ·simp [hn] at h3
   ·rw [decide_eq_false hn] at h3; simp only [cond_false,decide_eq_true_eq,decide_eq_false_iff_not] at h3
    obtain ⟨m,rfl⟩:∃ m:Nat,n = m:=⟨n.toNat,by omega⟩
    exact main m _ _ hz3 hS3 (by omega) (by omega) (by unfold gN; rw [if_neg hn]; omega))⟩
end
section
theorem tA (s:ByteArray) (i j:Nat):(s.extract i j).size <= s.size:=by rw [ByteArray.size_extract]; omega
def ir (s:ByteArray):ByteArray:=s.extract 0 (cj s 69).toNat
def dr (s:ByteArray):ByteArray:=s.extract ((cj s 69).toNat + 1) s.size
def kE (s:ByteArray):Bool:=decide (0 <= cj s 69) && (decide (2 <= (dr s).size) && ((decide (bt (dr s) 0 = 43) || decide (bt (dr s) 0 = 45)) && (decide ((bytes (ir s)).count 46 < 2) && (fq (fT (ir s) 46 ⟨#[]⟩ 1) && fq ((dr s).extract 1 (dr s).size)))))
class gH (s:ByteArray):Prop where
 h:s.size <= 1000000
instance {s:ByteArray} [h:gH s]:Sm s:=⟨by have:=h.h; simp only [big]; omega⟩
instance {s:ByteArray} {i j:Nat} [h:gH s]:gH (s.extract i j):=⟨Nat.le_trans (tA s i j) h.h⟩
instance {s:ByteArray} [h:gH s]:gH (ir s):=inferInstanceAs (gH (s.extract _ _))
instance {s:ByteArray} [h:gH s]:gH (dr s):=inferInstanceAs (gH (s.extract _ _))
instance {s:ByteArray} [h:gH s]:xH s 46 ⟨#[]⟩ 1:=⟨by intro e; have:=congrArg ByteArray.size e; exact absurd this (by decide),by decide,by have:=h.h; show s.size + (bytes s).count 46 * 0 <= _; omega⟩
instance {s:ByteArray} [h:gH s]:gH (fT s 46 ⟨#[]⟩ 1):=⟨by
 have:=gY (c:=46) (t:=[]) (bytes s) (gN s 46 1);have h2:=h.h;rw [aI]
 show (eD 46 [] (gN s 46 1) (bytes s)).toArray.toList.length <= _
 simp at this ⊢;omega⟩
instance {s:ByteArray} [hs:gH s]:Pu 222 #[.string s] (.bool (kE s)):=⟨fun z w=>Fn1.intro fun hS=>en222 (by
 unfold vc222;refine aN ?_;intro z1 w1 hz1 hS1;clear hS;unfold oU
 by_cases hc:0 <= cj s 69
 ·rw [if_pos hc,show s.extract 0 (cj s 69).toNat = ir s from rfl,show s.extract ((cj s 69).toNat + 1) s.size = dr s from rfl]
  (repeat (first | refine aA ?_ | refine JB ?_ | (refine J1 ?_; intro _ _)));refine aO (fun h1=>?_) (fun h1=>?_)
  ·have h2:¬ 2 <= (dr s).size:=by simp at h1; omega
   (repeat (first | refine ah ?_ | refine K1 ?_));exact ⟨_,_,‹_›,by simp [kE,h2]⟩
  ·have h2:2 <= (dr s).size:=by simp at h1; omega
   haveI:dI (dr s) 0:=⟨by decide,by omega⟩
   haveI:InR (1:Int) ((dr s).size + 1):=⟨by decide,by omega⟩
   (repeat (first | refine aA ?_ | refine JB ?_ | refine K1 ?_));refine aO (fun h3=>?_) (fun h3=>?_)
   ·refine ⟨_,_,‹_›,?_⟩
    rw [kE,decide_eq_true hc,decide_eq_true h2]
    revert h3
    cases decide (bt (dr s) 0 = 43) <;> cases decide (bt (dr s) 0 = 45) <;> simp
   ·(repeat (first | refine aA ?_ | (refine JC ?_; intro _ _ _ _) | (refine aN ?_; intro _ _ _ _)))
    refine ⟨_,_,‹_›,?_⟩;rw [kE,decide_eq_true hc,decide_eq_true h2];rw [show decide ((((bytes (ir s)).count 46:Nat):Int) < 2) = decide ((bytes (ir s)).count 46 < 2) from decide_eq_decide.2 (by omega),show (Int.toNat 1) = 1 from rfl]
    revert h3
    cases decide (bt (dr s) 0 = 43) <;> cases decide (bt (dr s) 0 = 45) <;> cases decide ((bytes (ir s)).count 46 < 2) <;> cases fq (fT (ir s) 46 ⟨#[]⟩ 1) <;> simp
 ·rw [if_neg hc]
  (repeat (first | refine aA ?_ | refine ah ?_ | refine JB ?_ | (refine J1 ?_; intro _ _) | refine K1 ?_));exact ⟨_,_,‹_›,by simp [kE,hc]⟩)⟩
def aY (s:ByteArray):Int:=
 if !inB s.size 1 40 || (!((bytes s).all kg) && !kE s) then 0
 else if inB (bt s 0) 48 57 || decide (bt s 0 = 46) then 1
 else if (bytes s).count 46 = 0 then 2 else if (bytes s).count 46 = 1/\ez s 46 = true then 3 else 4
instance {s:ByteArray}:Pu 156 #[.string s] (.int .i64 (aY s)):=⟨fun z w=>Fn1.intro fun hS=>en156 (by
 unfold vc156;(repeat (first | refine aA ?_ | (refine aN ?_; intro _ _ _ _)));intro K hK;have main:∀ (c:Bool) z3 w3,Le z z3->Res w z [] w3 z3 []->c = (!inB s.size 1 40 || (!((bytes s).all kg) && !kE s))->K [.bool c] w3:=by
  intro c z3 w3 hz3 hS3 hc;refine hK _ _ fun _=>?_
  clear hS;refine aO (fun h=>?_) (fun h=>?_)
  ·exact ⟨_,_,hS3,by rw [aY,<- hc,if_pos h]⟩
  ·have hin:inB s.size 1 40 = true:=by rw [h] at hc; cases hh:inB s.size 1 40 with
    | true=>rfl
    | false=>rw [hh] at hc; simp at hc
   have hin':=inB_iff.1 hin;haveI:dI s 0:=⟨by decide,by omega⟩
   haveI:gH s:=⟨by omega⟩
   (repeat (first | refine aA ?_ | refine JB ?_ | (refine aN ?_; intro _ _ _ _)));have hw:IntKind.i64.wrap (bt s 0) = bt s 0:=hU (by have:=AO s 0; unfold inI; omega);rw [hw];have hnot:¬ ((!inB s.size 1 40 || (!((bytes s).all kg) && !kE s)) = true):=by rw [<- hc,h]; simp
   refine aO (fun h4=>?_) (fun h4=>?_)
   ·refine ⟨_,_,‹_›,?_⟩
    rw [aY,if_neg hnot,if_pos (by revert h4; cases inB (bt s 0) 48 57 <;> simp)]
   ·have h5:¬ ((inB (bt s 0) 48 57 || decide (bt s 0 = 46)) = true):=by revert h4; cases inB (bt s 0) 48 57 <;> simp
    (repeat (refine aA ?_));refine aC (fun h6=>?_) (fun h6=>?_)
    ·exact ⟨_,_,‹_›,by rw [aY,if_neg hnot,if_neg h5,if_pos (by omega)]⟩
    ·(repeat (first | refine aA ?_ | (refine JC ?_; intro _ _ _ _)))
     refine aO (fun h7=>?_) (fun h7=>?_)
     ·refine ⟨_,_,‹_›,?_⟩
      have h8:(bytes s).count 46 = 1/\ez s 46 = true:=by
       by_cases e:(bytes s).count 46 = 1
       ·rw [decide_eq_true (by omega)] at h7; exact ⟨e,h7⟩
       ·rw [decide_eq_false (by omega)] at h7; cases h7
      rw [aY,if_neg hnot,if_neg h5,if_neg (by omega),if_pos h8]
     ·refine ⟨_,_,‹_›,?_⟩
      have h8:¬ ((bytes s).count 46 = 1/\ez s 46 = true):=by
       rintro ⟨e,e2⟩
       rw [decide_eq_true (by omega),e2] at h7; cases h7
      rw [aY,if_neg hnot,if_neg h5,if_neg (by omega),if_neg h8]
 refine aU (fun h=>?_) (fun h=>?_)
 ·exact main _ _ _ (by (repeat (assumption))) ‹_› (by rw [h]; rfl)
 ·have hin':=inB_iff.1 h
  haveI:gH s:=⟨by omega⟩
  refine AY (by simp only [big]; omega) ?_;intro z5 w5 v5 hz5 hS5 hv;refine ap (mV (E:=El.byte) (p:=kg) hv (fun z' w' cs x _ _ hr=>?_)) ?_
  ·cases hr
   exact (inferInstance:PuV (.func (.func 220) #[] #[]) #[.int .u8 x.toNat] (.bool (kg x))).h z' w'
  ·rintro z6 w6 v6 hle6 hS6 rfl
   (repeat (first | refine aA ?_ | (refine JC ?_; intro _ _ _ _)));rename_i hSe;exact main _ _ _ (by (repeat (exact Res.zle (by assumption)))) hSe (by rw [h]; cases (bytes s).all kg <;> cases kE s <;> rfl))⟩
def jh (s:ByteArray):Bool:=decide (aY s > 1)
instance {s:ByteArray}:Pu 153 #[.string s] (.bool (jh s)):=⟨fun z w=>Fn1.intro fun hS=>en153 (by
 unfold vc153;(repeat (first | refine aA ?_ | (refine aN ?_; intro _ _ _ _)));exact ⟨_,_,‹_›,rfl⟩)⟩
end
section
class PuZ (z0:Z) (f:FuncId) (args:Array Value) (v:outParam Value):Prop where
 h:∀ z w,Le z0 z->Fn1 f args z w fun _ v'=>v' = v
section
variable {w0 w w':World} {z0 z z':Z} {B0 B B' L F:Bl} {b:Nat} {o:Obj} {C:Obj->Bl} {x y:Bool}
theorem cE {K:RP} [hS:Res w0 z0 B0 w z L] {f:FuncId} [aD f] {args:Array Value} {v:Value} [g:PuZ z0 f args v] (hk:∀ z' w',Le z z'->Res w0 z0 B0 w' z' L->K v w'):CV (.func (.func f) #[] #[]) args w K:=
 we hS (g.h z w hS.zle) (by simp) fun z' w' v' h1 h2 h3=>by subst h3; exact hk z' w' h1 h2
instance (priority:=900) PC.callz {f:FuncId} {args:Array Value} {v:Value} {G:(LP)->RP} [hS:Res w0 z0 B0 w z L] [aD f] [g:PuZ z0 f args v] [h:∀ q:mo w0 z0 B0 z L,PC (fun K=>G K v q.w) w0 z0 B0 q.z' L x] :
  PC (fun K=>CV (.func (.func f) #[] #[]) args w (G K)) w0 z0 B0 z L x:=⟨fun K hK=>cE fun z' w' hz hS'=>(h ⟨z',w',hz,hS'⟩).h K fun z'' w'' hz' hS''=>hK z'' w'' (hz.trans hz') hS''⟩
theorem cZ {A:Prop} [hS:Res w0 z0 B0 w z L] {t:TypeId} [g:am t] {off:Nat} {v:Value} [h:Fz z0 b off [v]] (ha:A):aM (ld t (.pointer (some ⟨b,off,none⟩))) w v/\A:=⟨lq ((h.h.mono hS.zle).world hS.sub),ha⟩
end
structure xM (w0:World) (z0:Z) (B0:Bl) (z:Z) (L:Bl) (t:TypeId) (vs:List Value) where
 b:Nat
 w:World
 res:Res w0 z0 B0 w z ((b,.cells vs.toArray t (0,0)) :: L)
instance {w0:World} {z0 z:Z} {B0 L:Bl} {t:TypeId} {vs:List Value} {q:xM w0 z0 B0 z L t vs}:Res w0 z0 B0 q.w z ((q.b,.cells vs.toArray t (0,0)) :: L):=q.res
section
variable {w0 w w':World} {z0 z z':Z} {B0 B B' L F:Bl} {b:Nat} {o:Obj} {C:Obj->Bl} {x y:Bool}
end
instance {t u:Nat} {a b:Int}:Run (Builtin.max_ #[t,t] u #[.int .i64 a,.int .i64 b]) (.int .i64 (max a b)):=⟨fun w=>by
 have h:(if b > a then b else a) = max a b:=by rw [Int.max_def]; split <;> split <;> omega
 simp only [Builtin.max_,foldlM_cons,foldlM_nil,Builtin.max2,h,pure_bind]
 rfl⟩
instance {l:List Value} {v:Value} [g:Get l 0 v]:At1 l 0 v:=⟨by decide,g.h⟩
instance {l:List Value} {v:Value} [g:Get l 1 v]:At1 l 1 v:=⟨by decide,g.h⟩
instance {l:List Value} {v:Value} [g:Get l 2 v]:At1 l 2 v:=⟨by decide,g.h⟩
instance {n:Nat}:InR 0 ((n + 1:Nat):Int):=⟨by decide,by omega⟩
instance {n:Nat}:InR 1 ((n + 2:Nat):Int):=⟨by decide,by omega⟩
instance {n:Nat}:InR 2 ((n + 3:Nat):Int):=⟨by decide,by omega⟩
instance:InI (0 + 1):=⟨by decide⟩
instance:InI (1 + 1):=⟨by decide⟩
instance:InI (2 + 1):=⟨by decide⟩
section
variable {α:Type} {w0 w:World} {z0 z:Z} {B0 L:Bl}
theorem bG [hS:Res w0 z0 B0 w z L] (Inv:α->Value->Prop) (μ:α->Nat) {body:(LP)->(LN)->Value->World->Nat->Prop} {x0:Value} (a0:α) (h0:Inv a0 x0)
  (hs:∀ I M a x w' z' m,Inv a x->Le z z'->Res w0 z0 B0 w' z' L->(∀ a' x' w'' z'',Inv a' x'->Le z' z''->Res w0 z0 B0 w'' z'' L->μ a' < μ a->I [x'] w''/\M [x'] w'' < m)->body I M x w' m) :
  ∃ (I:LP) (M:LN),I [x0] w/\∀ _:Env,∀ x,∀ w,I [x] w->∀ m,m = M [x] w->body I M x w m:=
 cC (fun a x w'=>Inv a x/\∃ z',Le z z'/\Res w0 z0 B0 w' z' L) μ a0 ⟨h0,z,Le.refl _,hS⟩ (fun I M a x w' m ⟨h1,z',h2,h3⟩ back=>hs I M a x w' z' m h1 h2 h3 fun a' x' w'' z'' h4 h5 h6 h7=>back a' x' w'' ⟨h4,z'',h2.trans h5,h6⟩ h7)
theorem kN [hS:Res w0 z0 B0 w z L] (Inv:α->Value->Value->Prop) (μ:α->Nat) {body:(LP)->(LN)->Value->Value->World->Nat->Prop} {x0 y0:Value} (a0:α) (h0:Inv a0 x0 y0)
  (hs:∀ I M a x y w' z' m,Inv a x y->Le z z'->Res w0 z0 B0 w' z' L->(∀ a' x' y' w'' z'',Inv a' x' y'->Le z' z''->Res w0 z0 B0 w'' z'' L->μ a' < μ a->I [x',y'] w''/\M [x',y'] w'' < m)->body I M x y w' m) :
  ∃ (I:LP) (M:LN),I [x0,y0] w/\∀ _:Env,∀ x,∀ y,∀ w,I [x,y] w->∀ m,m = M [x,y] w->body I M x y w m:=
 ee (fun a x y w'=>Inv a x y/\∃ z',Le z z'/\Res w0 z0 B0 w' z' L) μ a0 ⟨h0,z,Le.refl _,hS⟩ (fun I M a x y w' m ⟨h1,z',h2,h3⟩ back=>hs I M a x y w' z' m h1 h2 h3 fun a' x' y' w'' z'' h4 h5 h6 h7=>back a' x' y' w'' ⟨h4,z'',h2.trans h5,h6⟩ h7)
theorem Cw [hS:Res w0 z0 B0 w z L] (Inv:α->Value->Value->Value->Prop) (μ:α->Nat) {body:(LP)->(LN)->Value->Value->Value->World->Nat->Prop} {x0 y0 u0:Value} (a0:α) (h0:Inv a0 x0 y0 u0)
  (hs:∀ I M a x y u w' z' m,Inv a x y u->Le z z'->Res w0 z0 B0 w' z' L->(∀ a' x' y' u' w'' z'',Inv a' x' y' u'->Le z' z''->Res w0 z0 B0 w'' z'' L->μ a' < μ a->I [x',y',u'] w''/\M [x',y',u'] w'' < m)->body I M x y u w' m) :
  ∃ (I:LP) (M:LN),I [x0,y0,u0] w/\∀ _:Env,∀ x,∀ y,∀ u,∀ w,I [x,y,u] w->∀ m,m = M [x,y,u] w->body I M x y u w m:=
 Aa (fun a x y u w'=>Inv a x y u/\∃ z',Le z z'/\Res w0 z0 B0 w' z' L) μ a0 ⟨h0,z,Le.refl _,hS⟩ (fun I M a x y u w' m ⟨h1,z',h2,h3⟩ back=>hs I M a x y u w' z' m h1 h2 h3 fun a' x' y' u' w'' z'' h4 h5 h6 h7=>back a' x' y' u' w'' ⟨h4,z'',h2.trans h5,h6⟩ h7)
end
class mq {κ:Type} [DecidableEq κ] (k:Nat) (mk:κ->Value):Prop where
 same:∃ d,(∀ w,(underlying k).run Tryz.prog w = .ok d w)/\∀ a b,Instr.sameNow d (mk a) (mk b) = some (decide (a = b))
 check:∀ e n w,(Instr.checkKey e 10000 k (mk n)).run Tryz.prog w = .ok () w
 bits:∀ a,Instr.sameBits 10000 (mk a) (mk a) = true
theorem rh (a b:ByteArray):(a == b) = decide (a = b):=by
 have h1:(a == b) = (a.data == b.data):=by cases a; cases b; rfl
 rw [h1,Bool.eq_iff_iff];simp only [beq_iff_eq,decide_eq_true_eq];exact ⟨fun h=>by cases a; cases b; simp_all,fun h=>by rw [h]⟩
theorem tE (d:Nat) {k:Nat} [gk:kM k] (e:Bool) (n:ByteArray) (w:World):(Instr.checkKey e (d + 1) k (.string n)).run Tryz.prog w = .ok () w:=by
 simp only [Instr.checkKey,Sem.run_bind,gk.und,Result.andThen_ok]
 rfl
instance {k:Nat} [gk:kM k]:mq k Value.string where
 same:=⟨.string,gk.und,fun a b=>by simp only [Instr.sameNow,rh]⟩
 check:=fun e n w=>tE 9999 e n w
 bits:=fun a=>by simp only [Instr.sameBits,rh,decide_true]
instance {k:Nat} {kd:IntKind} [gk:gR k kd]:mq k (Value.int kd) where
 same:=⟨.int kd,gk.und,fun a b=>by simp only [Instr.sameNow,if_true,Bool.beq_eq_decide_eq]⟩
 check:=fun e n w=>jS e n w
 bits:=fun a=>by simp [Instr.sameBits]
section
variable {κ:Type} [DecidableEq κ]
def ent (mk:κ->Value) (l:List (κ × Value)):List MapEntry:=l.zipIdx.map fun p=>{ key:=mk p.1.1,val:=p.1.2,born:=p.2 }
def mK (mk:κ->Value) (l:List (κ × Value)):Obj:=.map (ent mk l).toArray l.length
def atK (l:List (κ × Value)) (n:κ):Option (Nat × Value):=(l.findIdx? fun p=>decide (p.1 = n)).bind fun m=>(l[m]?).map fun p=>(m,p.2)
def fD (l:List (κ × Value)) (n:κ):Option Value:=(atK l n).map (·.2)
def upK (l:List (κ × Value)) (n:κ) (v:Value):List (κ × Value):=match atK l n with | some p=>l.set p.1 (n,v) | none=>l ++ [(n,v)]
theorem AE {mk:κ->Value} {d:TypeDesc} (hd:∀ a b,Instr.sameNow d (mk a) (mk b) = some (decide (a = b))) (n:κ):∀ (l:List (κ × Value)) (j i:Nat),
  Instr.findNow d (mk n) ((l.zipIdx j).map fun p=>({ key:=mk p.1.1,val:=p.1.2,born:=p.2 }:MapEntry)) i = some ((l.findIdx? fun p=>decide (p.1 = n)).bind fun m=>(l[m]?).map fun p=>(i + m,p.2)):=by
 intro l
 induction l with
 | nil=>intro j i; rfl
 | cons p l ih=>
  intro j i;simp only [zipIdx_cons,map_cons,Instr.findNow,hd];rw [findIdx?_cons]
  by_cases h:p.1 = n
  ·subst h; simp
  ·have h':¬ n = p.1:=fun e=>h e.symm
   simp only [decide_eq_false h,decide_eq_false h',Bool.false_eq_true,if_false,ih (j + 1) (i + 1)]
   cases l.findIdx? (fun p=>decide (p.1 = n)) with
   | none=>rfl
   | some m=>simp [Nat.add_comm,Nat.add_left_comm,Nat.add_assoc]
theorem ua {k:Nat} {mk:κ->Value} [g:mq k mk] (n:κ) (l:List (κ × Value)) (w:World):(Instr.findKey k (mk n) (ent mk l)).run Tryz.prog w = .ok (atK l n) w:=by
 obtain ⟨d,h1,h2⟩:=g.same;simp only [Instr.findKey,Sem.run_bind,h1,Result.andThen_ok,ent,AE h2 n l 0 0,Nat.zero_add]
 rfl
theorem pz (n:κ):fD ([]:List (κ × Value)) n = none:=rfl
theorem kZ (l:List (κ × Value)) (n:κ):fD l n = (l.find? fun p=>decide (p.1 = n)).map (·.2):=by
 unfold fD atK
 induction l with
 | nil=>rfl
 | cons p l ih=>
  rw [findIdx?_cons,find?_cons]
  cases h:decide (p.1 = n) with
  | true=>simp
  | false=>
   simp only [Bool.false_eq_true,if_false];rw [<- ih]
   cases l.findIdx? (fun p=>decide (p.1 = n)) <;> simp [Function.comp_def]
theorem qK {l:List (κ × Value)} {n:κ} {p:Nat × Value} (h:atK l n = some p):l[p.1]? = some (n,p.2)/\∀ j,j < p.1->∀ q,l[j]? = some q->q.1 ≠ n:=by
 unfold atK at h;obtain ⟨m,h1,h2⟩:=Option.bind_eq_some_iff.1 h;obtain ⟨q,h3,h4⟩:=Option.map_eq_some_iff.1 h2;rw [findIdx?_eq_some_iff_getElem] at h1;obtain ⟨hlt,h5,h6⟩:=h1;subst h4;have hq:l[m] = q:=by rw [getElem?_eq_getElem hlt] at h3; exact Option.some.inj h3
 refine ⟨?_,fun j hj q' hq'=>?_⟩
 ·simp only [hq,decide_eq_true_eq] at h5
  rw [h3,<- h5]
 ·have:=h6 j hj
  rw [getElem?_eq_getElem (by simp only at hj; omega)] at hq'
  cases hq'
  simpa using this
theorem yH {l:List (κ × Value)} {n:κ}:atK l n = none->∀ p ∈ l,p.1 ≠ n:=by
 intro h p hp e;have h2:fD l n = none:=by unfold fD; rw [h]; rfl
 rw [kZ] at h2;have h3:=Option.map_eq_none_iff.1 h2;rw [find?_eq_none] at h3;exact h3 p hp (by simpa using e)
theorem oc {l:List (κ × Value)} {n m:κ} {v:Value}:fD (upK l n v) m = if m = n then some v else fD l m:=by
 unfold upK
 cases h:atK l n with
 | none=>
  simp only [kZ,find?_append]
  by_cases hm:m = n
  ·subst hm
   have:l.find? (fun p=>decide (p.1 = m)) = none:=List.find?_eq_none.2 fun p hp=>by simpa using yH h p hp
   rw [this,if_pos rfl]; simp
  ·have h':¬ n = m:=fun e=>hm e.symm
   rw [if_neg hm];simp [h']
 | some p=>
  obtain ⟨h1,h2⟩:=qK h;simp only [kZ];have hlt:=(List.getElem?_eq_some_iff.1 h1).1;have hs:l = l.take p.1 ++ (n,p.2) :: l.drop (p.1 + 1):=by
   rw [<- (List.getElem?_eq_some_iff.1 h1).2,<- drop_eq_getElem_cons hlt,take_append_drop]
  have hset:l.set p.1 (n,v) = l.take p.1 ++ (n,v) :: l.drop (p.1 + 1):=List.set_eq_take_append_cons_drop.trans (if_pos hlt);rw [hset]
  conv=>rhs; rw [hs]
  simp only [find?_append,find?_cons]
  by_cases hm:m = n
  ·subst hm
   have:(l.take p.1).find? (fun p=>decide (p.1 = m)) = none:=List.find?_eq_none.2 fun q hq=>by
    obtain ⟨j,hj⟩:=List.mem_iff_getElem?.1 hq;have hjl:=(List.getElem?_eq_some_iff.1 hj).1;rw [length_take] at hjl;rw [getElem?_take_of_lt (by omega)] at hj
    simpa using h2 j (by omega) q hj
   simp [this]
  ·have h':¬ n = m:=fun e=>hm e.symm
   simp [hm,h']
theorem Bg {mk:κ->Value} {l:List (κ × Value)} {i:Nat} {n:κ} {v:Value} (hi:i < l.length):(ent mk l).toArray.modify i (fun e=>{ e with key:=mk n,val:=v }) = (ent mk (l.set i (n,v))).toArray:=by
 apply Array.ext_getElem?
 intro j;rw [Array.getElem?_modify];simp only [getElem?_toArray,ent,getElem?_map,getElem?_zipIdx,Nat.zero_add]
 by_cases hj:i = j
 ·subst hj
  simp [hi]
 ·rw [if_neg hj,getElem?_set_ne hj]
end
section
variable {κ:Type} [DecidableEq κ] {w0 w w':World} {z0 z z':Z} {B0 B B' L F:Bl} {b:Nat} {o:Obj} {C:Obj->Bl} {K:RP}
theorem pk [hS:Res w0 z0 B0 w z L] {t:TypeId} (mk:κ->Value) (hk:∀ b w',w0.heap.size <= b->Res w0 z0 B0 w' z ((b,mK mk []) :: L)->K (.map (some b)) w'):V (mm t none) w K:=by
 refine ⟨_,_,?_,hk w.heap.size _ hS.size (hS.new (mK mk []))⟩;simp only [mm,Instr.makeMap,Sem.run_bind,newObj,Sem.run,Result.andThen_ok]
 rfl
theorem Am {t k e:Nat} {mk:κ->Value} [g:fA t k e] [gk:mq k mk] {n:κ} {v:Value} {l:List (κ × Value)} (hat:w.heap[b]? = some (mK mk l)) :
  (mu t (.map (some b)) (mk n) v).run Tryz.prog w = .ok () { w with heap:=w.heap.setIfInBounds b (mK mk (upK l n v)) }:=by
 simp only [mu,Instr.mapUpdate,Sem.run_bind,g.und,Result.andThen_ok];rw [jM hat (by intros; simp [mK])];simp only [mK,Result.andThen_ok,Sem.run_bind,gk.check,ua];unfold upK
 cases h:atK l n with
 | none=>
  simp only;rw [lC hat (by intros; simp [mK])];simp [ent,zipIdx_append]
 | some p=>
  obtain ⟨h1,h2⟩:=qK h;have hlt:=(List.getElem?_eq_some_iff.1 h1).1;have hkey:(((ent mk l).toArray[p.1]?).map (·.key)).getD (mk n) = mk n:=by
   simp [ent,h1]
  simp only [hkey,Instr.keyThatStays,gk.bits,if_true,bv,Result.andThen_ok,Sem.run_bind];rw [lC hat (by intros; simp [mK]),Bg hlt];simp
theorem jX {K:World->Prop} [hS:Res w0 z0 B0 w z L] {t k e:Nat} {mk:κ->Value} [g:fA t k e] [gk:mq k mk] {n:κ} {v:Value} {l:List (κ × Value)} [gb:Blk L b (mK mk l) C]
  (hk:∀ w',Res w0 z0 B0 w' z (C (mK mk (upK l n v)))->K w'):U (mu t (.map (some b)) (mk n) v) w K:=
 ⟨_,Am (Res.at_ (g:=gb) hS),hk _ (Res.set (g:=gb) hS (mK mk (upK l n v)) rfl)⟩
theorem ll {t k e:Nat} {mk:κ->Value} [g:fA t k e] [gk:mq k mk] {n:κ} {zv:Value} {l:List (κ × Value)} (hat:w.heap[b]? = some (mK mk l)) (hz:∀ w,(zeroValue e).run Tryz.prog w = .ok zv w) (c:Bool) :
  (lk t (.map (some b)) (mk n) c).run Tryz.prog w = .ok (if c then .tuple #[(fD l n).getD zv,.bool (fD l n).isSome] else (fD l n).getD zv) w:=by
 simp only [lk,Instr.lookup,Sem.run_bind,g.und,Result.andThen_ok];rw [jM hat (by intros; simp [mK])];simp only [mK,Result.andThen_ok,Sem.run_bind,gk.check,ua,bv];unfold fD
 cases h:atK l n with
 | none=>simp only [Sem.run_bind,hz,Result.andThen_ok,bv]; rfl
 | some p=>simp only [bv,Result.andThen_ok]; rfl
theorem wx [hS:Res w0 z0 B0 w z L] {t k e:Nat} {mk:κ->Value} {zv:Value} [g:fA t k e] [gk:mq k mk] [gz:jZ e zv] {n:κ} {l:List (κ × Value)} [gb:Blk L b (mK mk l) C] {c:Bool}
  (hk:K (if c then .tuple #[(fD l n).getD zv,.bool (fD l n).isSome] else (fD l n).getD zv) w):V (lk t (.map (some b)) (mk n) c) w K:=⟨_,w,ll (Res.at_ (g:=gb) hS) gz.h c,hk⟩
theorem Ch {K:Value->Prop} [hS:Res w0 z0 B0 w z L] {t k e:Nat} {mk:κ->Value} {zv:Value} [g:fA t k e] [gk:mq k mk] [gz:jZ e zv] {n:κ} {l:List (κ × Value)} [gb:Blk L b (mK mk l) C] {c:Bool}
  (hk:K (if c then .tuple #[(fD l n).getD zv,.bool (fD l n).isSome] else (fD l n).getD zv)):HV (lk t (.map (some b)) (mk n) c) w K:=⟨_,ll (Res.at_ (g:=gb) hS) gz.h c,hk⟩
end
end
section
class fQ (z0:Z) (v:Value) (c:outParam aH):Prop where
 h:CodeR z0 v c
theorem CodeR.form {z:Z} {v:Value} {c:aH} (h:CodeR z v c):∃ a1 a2 a3 a4 a5 a6 k1 k2 k3 k4 k5 k6,v = .agg [.slice a1 c.consts.length k1,.slice a2 c.tmpls.length k2,.slice a3 c.lists.length k3,.slice a4 c.labels.length k4,.slice a5 c.slots.length k5,.slice a6 c.ins.length k6].toArray /\
  SlR El.str z (.slice a1 c.consts.length k1) c.consts/\SlR (El.sl El.part) z (.slice a2 c.tmpls.length k2) c.tmpls/\SlR (El.sl El.item) z (.slice a3 c.lists.length k3) c.lists/\SlR El.spot z (.slice a4 c.labels.length k4) c.labels/\SlR El.str z (.slice a5 c.slots.length k5) c.slots/\SlR El.ins z (.slice a6 c.ins.length k6) c.ins:=by
 obtain ⟨v1,v2,v3,v4,v5,v6,rfl,h1,h2,h3,h4,h5,h6⟩:=h.h;obtain ⟨_,a1,k1,rfl,_,_⟩:=h1.form;obtain ⟨_,a2,k2,rfl,_,_⟩:=h2.form;obtain ⟨_,a3,k3,rfl,_,_⟩:=h3.form;obtain ⟨_,a4,k4,rfl,_,_⟩:=h4.form;obtain ⟨_,a5,k5,rfl,_,_⟩:=h5.form;obtain ⟨_,a6,k6,rfl,_,_⟩:=h6.form;exact ⟨a1,a2,a3,a4,a5,a6,k1,k2,k3,k4,k5,k6,rfl,h1,h2,h3,h4,h5,h6⟩
theorem SlR.big {α:Type} {E:El α} {z:Z} {v:Value} {xs:List α} (h:SlR E z v xs):xs.length <= big:=h.form.1
theorem dJ {n:Nat} (h:n <= big):InI ((n:Int) - 1):=⟨by simp only [Go.Proofs.YtbeelfopmkbllaaGreatDoor.big] at h; omega⟩
def bR (c:aH) (n:Int) (p:ByteArray->Bool):Bool:=inB n 0 ((c.consts.length:Int) - 1) && p (c.consts.getD n.toNat ⟨#[]⟩)
theorem named {z:Z} {w:World} {v fv:Value} {c:aH} {n:Int} {p:ByteArray->Bool} (hc:CodeR z v c) (hf:∀ z' w' s,Le z z'->s ∈ c.consts->Va1 fv #[.string s] z' w' fun _ r=>r = .bool (p s)) :
  Fn1 228 #[v,.int .i64 n,fv] z w fun _ r=>r = .bool (bR c n p):=Fn1.intro fun hS=>en228 (by
 unfold vc228;obtain ⟨a1,a2,a3,a4,a5,a6,k1,k2,k3,k4,k5,k6,rfl,h1,h2,h3,h4,h5,h6⟩:=hc.form;haveI:=dJ h1.big;(repeat (first | refine aA ?_ | refine aE ?_ | (refine aP ?_; intro _ _ _ _) | (refine J1 ?_; intro _ _) | (refine aN ?_; intro _ _ _ _)));refine aO (fun h=>?_) (fun h=>?_)
 ·have hn:=inB_iff.1 h
  haveI:InR n (c.consts.length:Nat):=⟨by omega,by omega⟩
  have hlt:n.toNat < c.consts.length:=by omega
  obtain ⟨_,a,k,he,hk,hel⟩:=h1.form
  cases he
  obtain ⟨b,off,cs,rfl,⟨rfl,hs⟩,hat⟩:=hel _ _ (getElem?_eq_getElem hlt);(repeat (first | refine aA ?_ | refine aE ?_));rename_i hS2;refine bL (hat.mono hS2.zle) ?_;refine Ah hS2 (hf _ _ _ hS2.zle (getElem_mem hlt)) ?_;rintro z3 w3 v3 hz3 hS3 rfl
  (repeat (refine K1 ?_));exact ci (by rw [bR,h,getD_eq_getElem?_getD,getElem?_eq_getElem hlt]; rfl)
 ·(repeat (refine K1 ?_))
  exact ci (by rw [bR,h]; rfl))
theorem puV {f:Value} {args:Array Value} {v:Value} [g:PuV f args v] {z:Z} {w:World}:Va1 f args z w fun _ v'=>v' = v:=g.h z w
theorem uV {z:Z} {w:World} {k:Int}:Fn1 225 #[.int .i64 k] z w fun z' v=>∃ b,v = .func (.func 226) #[] #[.pointer (some ⟨b,0,none⟩)]/\At z' b 0 [.int .i64 k]:=Fn1.intro fun hS=>en225 (by
 unfold vc225;refine aP ?_;intro b w1 hb hS1;exact ⟨_,_,hS1.freeze,b,rfl,_,_,_,if_pos rfl,fun j u hu=>by simpa using hu⟩)
theorem px {z:Z} {w:World} {b:Nat} {k:Int} {s:ByteArray} (ha:At z b 0 [.int .i64 k]):Va1 (.func (.func 226) #[] #[.pointer (some ⟨b,0,none⟩)]) #[.string s] z w fun _ r=>r = .bool (decide (aY s = k)):=
 Fn1.va (args':=#[.string s,.pointer (some ⟨b,0,none⟩)]) (Fn1.intro fun hS=>en226 (by
  unfold vc226;haveI:Fz z b 0 [.int .i64 k]:=⟨ha⟩
  (repeat (first | (refine iDr ?_; intro _ _) | refine aK ?_ | (refine aN ?_; intro _ _ _ _) | refine cZ ?_ | refine bz ?_));rename_i hS2;exact ⟨_,_,hS2,rfl⟩)) (by simp)
instance {s:ByteArray}:Pu 227 #[.string s] (.bool true):=⟨fun z w=>Fn1.intro fun hS=>en227 (by
 unfold vc227;exact ⟨_,_,hS,rfl⟩)⟩
def eF (k:Int) (s:ByteArray):Bool:=decide (aY s = k)
def bJ (c:aH) (kind n:Int):Bool:=
 if kind = 1 then inB n 1 20000 else if kind = 8 then (decide (n = -1) || bR c n fun _=>true) else if kind = 2 then bR c n fun _=>true
 else if kind = 3 then bR c n (eF 2) else if kind = 4 then bR c n (eF 3) else if kind = 5 then bR c n (eF 4) else if kind = 6 then bR c n jh
 else if kind = 7 then (bR c n (eF 2) || bR c n (eF 4)) else if kind = 9 then inB n 0 ((c.slots.length:Int) - 1) else if kind = 10 then inB n 0 ((c.tmpls.length:Int) - 1)
 else if kind = 12 then (decide (n = -1) || inB n 0 ((c.lists.length:Int) - 1)) else if kind = 11 then inB n 0 ((c.lists.length:Int) - 1) else if kind = 13 then inB n 0 ((c.ins.length:Int) - 1) else cW kind n
theorem BU {z:Z} {w:World} {v:Value} {c:aH} {kind n:Int} (hc:CodeR z v c):Fn1 157 #[v,.int .i64 kind,.int .i64 n] z w fun _ r=>r = .bool (bJ c kind n):=Fn1.intro fun hS=>en157 (by
 unfold vc157;obtain ⟨a1,a2,a3,a4,a5,a6,k1,k2,k3,k4,k5,k6,rfl,h1,h2,h3,h4,h5,h6⟩:=hc.form;have hc':=hc;haveI:=dJ h2.big;haveI:=dJ h3.big;haveI:=dJ h5.big;haveI:=dJ h6.big;refine aP ?_;intro b w1 hb hS1;clear hS;intro Ka hKa;have main0:∀ r,bJ c kind n = r->r = inB n 0 ((c.lists.length:Int) - 1)->Ka [] w1:=by
  intro r hr he;refine hKa _ fun _=>?_
  (repeat (first | refine aA ?_ | refine aE ?_ | (refine aN ?_; intro _ _ _ _)));rename_i hS2;exact ⟨_,_,hS2,by rw [hr,he]⟩
 clear hKa;intro Kb hKb;have main1:bJ c kind n = bR c n (fun _=>true)->Kb [] w1:=by
  intro hr;refine hKb _ fun _=>?_
  (repeat (refine ae ?_));refine ap (named (p:=fun _=>true) hc (fun z' w' s hz hs=>puV)) ?_;rintro z3 w3 v3 hz3 hS3 rfl
  exact ⟨_,_,hS3,by rw [hr]⟩
 clear hKb;(repeat (refine aA ?_));refine aC (fun e1=>?_) (fun e1=>?_)
 ·(repeat (refine aN ?_; intro _ _ _ _))
  rename_i hS2;exact ⟨_,_,hS2,by rw [bJ,if_pos e1]⟩
 (repeat (refine aA ?_));refine aC (fun e2=>?_) (fun e2=>?_)
 ·(repeat (refine aA ?_))
  refine aC (fun e3=>?_) (fun e3=>?_)
  ·exact ⟨_,_,hS1,by rw [bJ,if_neg e1,if_pos e2,decide_eq_true e3]; rfl⟩
  ·exact main1 (by rw [bJ,if_neg e1,if_pos e2,decide_eq_false e3]; rfl)
 (repeat (refine aA ?_));refine aC (fun e3=>?_) (fun e3=>?_)
 ·exact main1 (by rw [bJ,if_neg e1,if_neg e2,if_pos e3])
 (repeat (refine aA ?_));refine aC (fun e4=>?_) (fun e4=>?_)
 ·(repeat (first | (refine iDr ?_; intro _ _) | refine aq ?_))
  refine ap uV ?_;rintro z3 w3 v3 hz3 hS3 ⟨b3,rfl,hb3⟩
  (repeat (refine uS ?_));refine ap (named (p:=eF 2) (hc.mono hS3.zle) (fun z' w' s hz hs=>px (hb3.mono hz))) ?_;rintro z4 w4 v4 hz4 hS4 rfl
  exact ⟨_,_,hS4,by rw [bJ,if_neg e1,if_neg e2,if_neg e3,if_pos e4]⟩
 (repeat (refine aA ?_));refine aC (fun e5=>?_) (fun e5=>?_)
 ·(repeat (first | (refine iDr ?_; intro _ _) | refine aq ?_))
  refine ap uV ?_;rintro z3 w3 v3 hz3 hS3 ⟨b3,rfl,hb3⟩
  (repeat (refine uS ?_));refine ap (named (p:=eF 3) (hc.mono hS3.zle) (fun z' w' s hz hs=>px (hb3.mono hz))) ?_;rintro z4 w4 v4 hz4 hS4 rfl
  exact ⟨_,_,hS4,by rw [bJ,if_neg e1,if_neg e2,if_neg e3,if_neg e4,if_pos e5]⟩
 (repeat (refine aA ?_));refine aC (fun e6=>?_) (fun e6=>?_)
 ·(repeat (first | (refine iDr ?_; intro _ _) | refine aq ?_))
  refine ap uV ?_;rintro z3 w3 v3 hz3 hS3 ⟨b3,rfl,hb3⟩
  (repeat (refine uS ?_));refine ap (named (p:=eF 4) (hc.mono hS3.zle) (fun z' w' s hz hs=>px (hb3.mono hz))) ?_;rintro z4 w4 v4 hz4 hS4 rfl
  exact ⟨_,_,hS4,by rw [bJ,if_neg e1,if_neg e2,if_neg e3,if_neg e4,if_neg e5,if_pos e6]⟩
 (repeat (refine aA ?_));refine aC (fun e7=>?_) (fun e7=>?_)
 ·(repeat (refine ae ?_))
  refine ap (named (p:=jh) hc (fun z' w' s hz hs=>puV)) ?_;rintro z4 w4 v4 hz4 hS4 rfl
  exact ⟨_,_,hS4,by rw [bJ,if_neg e1,if_neg e2,if_neg e3,if_neg e4,if_neg e5,if_neg e6,if_pos e7]⟩
 (repeat (refine aA ?_));refine aC (fun e8=>?_) (fun e8=>?_)
 ·(repeat (first | (refine iDr ?_; intro _ _) | refine aq ?_ | (refine J1 ?_; intro _ _)))
  refine ap uV ?_;rintro z3 w3 v3 hz3 hS3 ⟨b3,rfl,hb3⟩
  (repeat (refine uS ?_));refine ap (named (p:=eF 2) (hc.mono hS3.zle) (fun z' w' s hz hs=>px (hb3.mono hz))) ?_;rintro z4 w4 v4 hz4 hS4 rfl
  have he:bJ c kind n = (bR c n (eF 2) || bR c n (eF 4)):=by rw [bJ,if_neg e1,if_neg e2,if_neg e3,if_neg e4,if_neg e5,if_neg e6,if_neg e7,if_pos e8]
  refine aO (fun e9=>?_) (fun e9=>?_)
  ·(repeat (refine K1 ?_))
   exact ⟨_,_,hS4,by rw [he,e9]; rfl⟩
  ·(repeat (refine aq ?_))
   refine ap uV ?_;rintro z5 w5 v5 hz5 hS5 ⟨b5,rfl,hb5⟩
   (repeat (refine uS ?_));refine ap (named (p:=eF 4) (hc.mono hS5.zle) (fun z' w' s hz hs=>px (hb5.mono hz))) ?_;rintro z6 w6 v6 hz6 hS6 rfl
   (repeat (refine K1 ?_));exact ⟨_,_,hS6,by rw [he,e9]; rfl⟩
 (repeat (refine aA ?_));refine aC (fun e9=>?_) (fun e9=>?_)
 ·(repeat (first | refine aA ?_ | refine aE ?_ | (refine aN ?_; intro _ _ _ _)))
  rename_i hS2;exact ⟨_,_,hS2,by rw [bJ,if_neg e1,if_neg e2,if_neg e3,if_neg e4,if_neg e5,if_neg e6,if_neg e7,if_neg e8,if_pos e9]⟩
 (repeat (refine aA ?_));refine aC (fun e10=>?_) (fun e10=>?_)
 ·(repeat (first | refine aA ?_ | refine aE ?_ | (refine aN ?_; intro _ _ _ _)))
  rename_i hS2;exact ⟨_,_,hS2,by rw [bJ,if_neg e1,if_neg e2,if_neg e3,if_neg e4,if_neg e5,if_neg e6,if_neg e7,if_neg e8,if_neg e9,if_pos e10]⟩
 (repeat (refine aA ?_));refine aC (fun e11=>?_) (fun e11=>?_)
 ·(repeat (refine aA ?_))
  refine aC (fun e12=>?_) (fun e12=>?_)
  ·exact ⟨_,_,hS1,by rw [bJ,if_neg e1,if_neg e2,if_neg e3,if_neg e4,if_neg e5,if_neg e6,if_neg e7,if_neg e8,if_neg e9,if_neg e10,if_pos e11,decide_eq_true e12]; rfl⟩
  ·exact main0 _ rfl (by rw [bJ,if_neg e1,if_neg e2,if_neg e3,if_neg e4,if_neg e5,if_neg e6,if_neg e7,if_neg e8,if_neg e9,if_neg e10,if_pos e11,decide_eq_false e12]; rfl)
 (repeat (refine aA ?_));refine aC (fun e12=>?_) (fun e12=>?_)
 ·exact main0 _ rfl (by rw [bJ,if_neg e1,if_neg e2,if_neg e3,if_neg e4,if_neg e5,if_neg e6,if_neg e7,if_neg e8,if_neg e9,if_neg e10,if_neg e11,if_pos e12])
 (repeat (refine aA ?_));refine aC (fun e13=>?_) (fun e13=>?_)
 ·(repeat (first | refine aA ?_ | refine aE ?_ | (refine aN ?_; intro _ _ _ _)))
  rename_i hS2;exact ⟨_,_,hS2,by rw [bJ,if_neg e1,if_neg e2,if_neg e3,if_neg e4,if_neg e5,if_neg e6,if_neg e7,if_neg e8,if_neg e9,if_neg e10,if_neg e11,if_neg e12,if_pos e13]⟩
 ·(repeat (refine aN ?_; intro _ _ _ _))
  rename_i hS2;exact ⟨_,_,hS2,by rw [bJ,if_neg e1,if_neg e2,if_neg e3,if_neg e4,if_neg e5,if_neg e6,if_neg e7,if_neg e8,if_neg e9,if_neg e10,if_neg e11,if_neg e12,if_neg e13]⟩)
instance {z:Z} {v:Value} {c:aH} {kind n:Int} [hc:fQ z v c]:PuZ z 157 #[v,.int .i64 kind,.int .i64 n] (.bool (bJ c kind n)):=⟨fun z' w hz=>BU (hc.h.mono hz)⟩
end
section
def rI (n:Int) (s:ByteArray):Bool:=decide (n = 1) || !decide (aY s = 0)
theorem yt {z:Z} {w:World} {b:Nat} {i:InsM} {s:ByteArray} (ha:At z b 0 i.cells):Va1 (.func (.func 229) #[] #[.pointer (some ⟨b,0,none⟩)]) #[.string s] z w fun _ r=>r = .bool (rI i.c s):=
 Fn1.va (args':=#[.string s,.pointer (some ⟨b,0,none⟩)]) (Fn1.intro fun hS=>en229 (by
  unfold vc229;haveI:Fz z b 3 [.int .i64 i.c]:=⟨ha.fld (i:=3) rfl rfl⟩
  (repeat (first | refine aA ?_ | (refine JC ?_; intro _ _ _ _) | refine aL ?_));exact ci (by unfold rI; cases decide (i.c = 1) <;> rfl))) (by simp)
def cS (c:aH) (i:InsM):Bool:=
 if i.op = 12 \/ i.op = 21 then bR c i.a (rI i.c) else if i.op = 19 then ((!decide (i.a = 1) && decide (i.b = 0)) || (decide (i.a = 1) && bJ c 2 i.b))
 else if i.op = 22 then (!(!inB i.a 0 5 || (decide (i.b = 2) && (decide (i.a = 3) || decide (i.a = 5)))) && (decide (i.c = -1) || (!decide (i.b = 0) && bJ c 3 i.c))) else true
theorem vG {z:Z} {w:World} {v:Value} {c:aH} {i:InsM} (hc:CodeR z v c):Fn1 158 #[v,i.v] z w fun _ r=>r = .bool (cS c i):=Fn1.intro fun hS=>en158 (by
 unfold vc158;obtain ⟨a1,a2,a3,a4,a5,a6,k1,k2,k3,k4,k5,k6,rfl,h1,h2,h3,h4,h5,h6⟩:=hc.form;haveI:fQ z _ c:=⟨hc⟩
 dsimp only [InsM.v,InsM.cells];refine aP ?_;intro b1 w1 hb1 hS1;refine aP ?_;intro b2 w2 hb2 hS2;clear hS hS1;(repeat (first | refine aA ?_ | refine aE ?_ | refine JB ?_));refine aO (fun e1=>?_) (fun e1=>?_)
 ·have e:i.op = 12 \/ i.op = 21:=by by_cases e:i.op = 12 <;> simp [e] at e1 ⊢; exact e1
  (repeat (first | refine aA ?_ | refine aE ?_ | refine ae ?_));have hf:=(hS2.bringB b2).freeze;have hle:=(hS2.bringB b2).freeze_le;refine ap (named (p:=rI i.c) ((hc.mono hS2.zle).mono hle) (fun z' w' s hz hs=>yt ?_)) ?_
  ·exact ⟨_,_,_,hz _ _ (if_pos rfl),fun j u hu=>by simpa using hu⟩
  ·rintro z4 w4 v4 hz4 hS4 rfl
   exact ci (by rw [cS,if_pos e])
 have e:¬ (i.op = 12 \/ i.op = 21):=by by_cases e:i.op = 12 <;> simp [e] at e1 ⊢; exact e1
 (repeat (refine aA ?_));refine aC (fun e2=>?_) (fun e2=>?_)
 ·(repeat (first | refine aA ?_ | refine aE ?_ | (refine JC ?_; intro _ _ _ _)))
  exact ci (by rw [cS,if_neg e,if_pos e2]; cases decide (i.a = 1) <;> cases decide (i.b = 0) <;> rfl)
 (repeat (refine aA ?_));refine aC (fun e3=>?_) (fun e3=>?_)
 ·(repeat (first | refine aA ?_ | refine aE ?_ | (refine JC ?_; intro _ _ _ _) | (refine aN ?_; intro _ _ _ _)))
  refine aO (fun e4=>?_) (fun e4=>?_)
  ·exact ci (by rw [cS,if_neg e,if_neg e2,if_pos e3]; revert e4; cases inB i.a 0 5 <;> cases decide (i.b = 2) <;> cases decide (i.a = 3) <;> cases decide (i.a = 5) <;> simp)
  ·(repeat (first | refine aA ?_ | refine aE ?_ | (refine JC ?_; intro _ _ _ _)))
   exact ci (by rw [cS,if_neg e,if_neg e2,if_pos e3]; revert e4; cases inB i.a 0 5 <;> cases decide (i.b = 2) <;> cases decide (i.a = 3) <;> cases decide (i.a = 5) <;> cases decide (i.c = -1) <;> cases decide (i.b = 0) <;> simp)
 ·skip
  exact ci (by rw [cS,if_neg e,if_neg e2,if_neg e3]))
instance {z:Z} {v:Value} {c:aH} {i:InsM} [hc:fQ z v c]:PuZ z 158 #[v,i.v] (.bool (cS c i)):=⟨fun z' w hz=>vG (hc.h.mono hz)⟩
def bX (c:aH) (i:InsM):Bool:=cO i.op && (bJ c (aG i.op).k0 i.a && (bJ c (aG i.op).k1 i.b && (bJ c (aG i.op).k2 i.c && cS c i)))
theorem zE {z:Z} {w:World} {v:Value} {c:aH} {i:InsM} (hc:CodeR z v c):Fn1 48 #[v,i.v] z w fun _ r=>r = .bool (bX c i):=Fn1.intro fun hS=>en48 (by
 unfold vc48;obtain ⟨a1,a2,a3,a4,a5,a6,k1,k2,k3,k4,k5,k6,rfl,h1,h2,h3,h4,h5,h6⟩:=hc.form;haveI:fQ z _ c:=⟨hc⟩
 (repeat (first | refine aA ?_ | refine ae ?_ | (refine aP ?_; intro _ _ _ _) | (refine aF ?_; intro _ _) | (refine aN ?_; intro _ _ _ _)));refine aU (fun e=>?_) (fun e=>?_)
 ·exact ci (by rw [bX,e]; rfl)
 (repeat (first | refine aA ?_ | refine aE ?_));refine bG (fun (k:Int) x=>x = .int .i64 k/\0 <= k/\k <= 3/\(1 <= k->bJ c (aG i.op).k0 i.a = true)/\(2 <= k->bJ c (aG i.op).k1 i.b = true)/\(3 <= k->bJ c (aG i.op).k2 i.c = true)) (fun k=>(3 - k).toNat) 0 ⟨rfl,by omega,by omega,by omega,by omega,by omega⟩ ?_;rintro I M k x w3 z3 m ⟨rfl,gp,g0,g1,g2,g3⟩ hz3 hS3 back
 refine aA ?_;have:k = 0 \/ k = 1 \/ k = 2 \/ k = 3:=by omega
 rcases this with rfl | rfl | rfl | rfl
 ·refine bC rfl ?_
  (repeat (first | (refine iDr ?_; intro _ _) | refine aA ?_ | refine aK ?_ | refine aW ?_ | refine aq ?_ | (refine cE ?_; intro _ _ _ _)));refine aU (fun h=>?_) (fun h=>?_)
  ·exact ci (by rw [bX,e,h]; rfl)
  ·(repeat (refine aA ?_))
   rename_i hS4;exact back 1 _ _ _ ⟨rfl,by omega,by omega,fun _=>h,by omega,by omega⟩ (by (repeat (assumption))) hS4 (by omega)
 ·refine bC rfl ?_
  (repeat (first | (refine iDr ?_; intro _ _) | refine aA ?_ | refine aK ?_ | refine aW ?_ | refine aq ?_ | (refine cE ?_; intro _ _ _ _)));refine aU (fun h=>?_) (fun h=>?_)
  ·exact ci (by rw [bX,e,g1 (by omega),h]; rfl)
  ·(repeat (refine aA ?_))
   rename_i hS4;exact back 2 _ _ _ ⟨rfl,by omega,by omega,fun _=>g1 (by omega),fun _=>h,by omega⟩ (by (repeat (assumption))) hS4 (by omega)
 ·refine bC rfl ?_
  (repeat (first | (refine iDr ?_; intro _ _) | refine aA ?_ | refine aK ?_ | refine aW ?_ | refine aq ?_ | (refine cE ?_; intro _ _ _ _)));refine aU (fun h=>?_) (fun h=>?_)
  ·exact ci (by rw [bX,e,g1 (by omega),g2 (by omega),h]; rfl)
  ·(repeat (refine aA ?_))
   rename_i hS4;exact back 3 _ _ _ ⟨rfl,by omega,by omega,fun _=>g1 (by omega),fun _=>g2 (by omega),fun _=>h⟩ (by (repeat (assumption))) hS4 (by omega)
 ·refine dk rfl ?_
  (repeat (first | refine ae ?_ | (refine cE ?_; intro _ _ _ _)));exact ci (by rw [bX,e,g1 (by omega),g2 (by omega),g3 (by omega)]; rfl))
instance {z:Z} {v:Value} {c:aH} {i:InsM} [hc:fQ z v c]:PuZ z 48 #[v,i.v] (.bool (bX c i)):=⟨fun z' w hz=>zE (hc.h.mono hz)⟩
end
section
structure Now (w0:World) (z0:Z) (B0:Bl) (z:Z) (L:Bl) where
 w:World
 res:Res w0 z0 B0 w z L
class PG {α:Type} (inj:α->Value) (F:(LP)->Prop) (w0:outParam World) (z0:outParam Z) (B0:outParam Bl) (z:outParam Z) (L:outParam Bl) (x:outParam α):Prop where
 h:∀ K:LP,(∀ z' w',Le z z'->Res w0 z0 B0 w' z' L->K [inj x] w')->F K
class PW (G:Prop) (R:RP) (w0:outParam World) (z0:outParam Z) (B0:outParam Bl) (v:outParam Value):Prop where
 h:(∀ z' w' L',Res w0 z0 B0 w' z' L'->R v w')->G
section
variable {w0 w w':World} {z0 z z':Z} {B0 B B' L F:Bl} {b:Nat} {o:Obj} {C:Obj->Bl}
instance PG.val {α:Type} {inj:α->Value} {x:α} {s:Sem Value} {v:Value} [g:Run s v] {G:(LP)->RP} [h:PG inj (fun K=>G K v w) w0 z0 B0 z L x]:PG inj (fun K=>V s w (G K)) w0 z0 B0 z L x:=⟨fun K hK=>aA (h.h K hK)⟩
instance PW.val {R:RP} {v0:Value} {s:Sem Value} {v:Value} [g:Run s v] {G:RP} [h:PW (G v w) R w0 z0 B0 v0]:PW (V s w G) R w0 z0 B0 v0:=⟨fun hK=>aA (h.h hK)⟩
instance PG.hval {α:Type} {inj:α->Value} {x:α} {s:Sem Value} {v:Value} [g:Run s v] {G:(LP)->Value->Prop} [h:PG inj (fun K=>G K v) w0 z0 B0 z L x]:PG inj (fun K=>HV s w (G K)) w0 z0 B0 z L x:=⟨fun K hK=>Ac (h.h K hK)⟩
instance PW.hval {R:RP} {v0:Value} {s:Sem Value} {v:Value} [g:Run s v] {G:Value->Prop} [h:PW (G v) R w0 z0 B0 v0]:PW (HV s w G) R w0 z0 B0 v0:=⟨fun hK=>Ac (h.h hK)⟩
instance PG.ld1 {α:Type} {inj:α->Value} {x:α} {t off:Nat} {v:Value} {l:List Value} {ty:TypeId} {fr:Nat × Nat} [hS:Res w0 z0 B0 w z L] [g:am t] [Blk L b (.cells l.toArray ty fr) C] [Get l off v] {G:(LP)->RP} [h:PG inj (fun K=>G K v w) w0 z0 B0 z L x]:PG inj (fun K=>V (ld t (.pointer (some ⟨b,off,none⟩))) w (G K)) w0 z0 B0 z L x:=⟨fun K hK=>tJ hS (h.h K hK)⟩
instance PW.ld1 {R:RP} {v0:Value} {t off:Nat} {v:Value} {l:List Value} {ty:TypeId} {fr:Nat × Nat} [hS:Res w0 z0 B0 w z L] [g:am t] [Blk L b (.cells l.toArray ty fr) C] [Get l off v] {G:RP} [h:PW (G v w) R w0 z0 B0 v0]:PW (V (ld t (.pointer (some ⟨b,off,none⟩))) w G) R w0 z0 B0 v0:=⟨fun hK=>tJ hS (h.h hK)⟩
instance (priority:=900) PG.fld1 {α:Type} {inj:α->Value} {x:α} {t off:Nat} {v:Value} [hS:Res w0 z0 B0 w z L] [g:am t] [gf:Fz z0 b off [v]] {G:(LP)->RP} [h:PG inj (fun K=>G K v w) w0 z0 B0 z L x]:PG inj (fun K=>V (ld t (.pointer (some ⟨b,off,none⟩))) w (G K)) w0 z0 B0 z L x:=⟨fun K hK=>aL (h.h K hK)⟩
instance (priority:=900) PW.fld1 {R:RP} {v0:Value} {t off:Nat} {v:Value} [hS:Res w0 z0 B0 w z L] [g:am t] [gf:Fz z0 b off [v]] {G:RP} [h:PW (G v w) R w0 z0 B0 v0]:PW (V (ld t (.pointer (some ⟨b,off,none⟩))) w G) R w0 z0 B0 v0:=⟨fun hK=>aL (h.h hK)⟩
instance PG.nil {α:Type} {inj:α->Value} {x:α} {a:Addr} {G:(LP)->Value->Prop} [h:PG inj (fun K=>G K (.pointer (some a))) w0 z0 B0 z L x]:PG inj (fun K=>aa (.pointer (some a)) (G K)) w0 z0 B0 z L x:=⟨fun K hK=>gZ (h.h K hK)⟩
instance PG.call {α:Type} {inj:α->Value} {x:α} {f:FuncId} {args:Array Value} {v:Value} [hS:Res w0 z0 B0 w z L] [aD f] [g:Pu f args v] {G:(LP)->RP} [h:∀ q:mo w0 z0 B0 z L,PG inj (fun K=>G K v q.w) w0 z0 B0 q.z' L x]:PG inj (fun K=>CV (.func (.func f) #[] #[]) args w (G K)) w0 z0 B0 z L x:=⟨fun K hK=>aN fun z' w' hz hS'=>(h ⟨z',w',hz,hS'⟩).h K fun z'' w'' hz' hS''=>hK z'' w'' (hz.trans hz') hS''⟩
instance PW.call {R:RP} {v0:Value} {f:FuncId} {args:Array Value} {v:Value} [hS:Res w0 z0 B0 w z L] [aD f] [g:Pu f args v] {G:RP} [h:∀ q:mo w0 z0 B0 z L,PW (G v q.w) R w0 z0 B0 v0]:PW (CV (.func (.func f) #[] #[]) args w G) R w0 z0 B0 v0:=⟨fun hK=>aN fun z' w' hz hS'=>(h ⟨z',w',hz,hS'⟩).h hK⟩
instance (priority:=900) PG.callz {α:Type} {inj:α->Value} {x:α} {f:FuncId} {args:Array Value} {v:Value} [hS:Res w0 z0 B0 w z L] [aD f] [g:PuZ z0 f args v] {G:(LP)->RP} [h:∀ q:mo w0 z0 B0 z L,PG inj (fun K=>G K v q.w) w0 z0 B0 q.z' L x]:PG inj (fun K=>CV (.func (.func f) #[] #[]) args w (G K)) w0 z0 B0 z L x:=⟨fun K hK=>cE fun z' w' hz hS'=>(h ⟨z',w',hz,hS'⟩).h K fun z'' w'' hz' hS''=>hK z'' w'' (hz.trans hz') hS''⟩
instance (priority:=900) PW.callz {R:RP} {v0:Value} {f:FuncId} {args:Array Value} {v:Value} [hS:Res w0 z0 B0 w z L] [aD f] [g:PuZ z0 f args v] {G:RP} [h:∀ q:mo w0 z0 B0 z L,PW (G v q.w) R w0 z0 B0 v0]:PW (CV (.func (.func f) #[] #[]) args w G) R w0 z0 B0 v0:=⟨fun hK=>cE fun z' w' hz hS'=>(h ⟨z',w',hz,hS'⟩).h hK⟩
instance PW.bx {R:RP} {v0:Value} {t:TypeId} {v:Value} {vs:List Value} [hS:Res w0 z0 B0 w z L] [g:cQ v vs] {G:RP} [h:∀ q:xM w0 z0 B0 z L t vs,PW (G (.pointer (some ⟨q.b,0,none⟩)) q.w) R w0 z0 B0 v0]:PW (V (bx t v) w G) R w0 z0 B0 v0:=⟨fun hK=>Da (g:=g) hS fun b w' _ hS'=>(h ⟨b,w',hS'⟩).h hK⟩
instance PG.al {α:Type} {inj:α->Value} {x:α} {t:TypeId} {vs:List Value} [hS:Res w0 z0 B0 w z L] [g:bD t vs] {G:(LP)->RP} [h:∀ q:xM w0 z0 B0 z L t vs,PG inj (fun K=>G K (.pointer (some ⟨q.b,0,none⟩)) q.w) w0 z0 B0 z ((q.b,.cells vs.toArray t (0,0)) :: L) x]:PG inj (fun K=>V (al t) w (G K)) w0 z0 B0 z L x:=⟨fun K hK=>Bt (g:=g) hS fun b w' _ hS'=>(h ⟨b,w',hS'⟩).h K fun z'' w'' hz hS''=>hK z'' w'' hz (hS''.sublist (sublist_cons_self _ _))⟩
instance PW.al {R:RP} {v0:Value} {t:TypeId} {vs:List Value} [hS:Res w0 z0 B0 w z L] [g:bD t vs] {G:RP} [h:∀ q:xM w0 z0 B0 z L t vs,PW (G (.pointer (some ⟨q.b,0,none⟩)) q.w) R w0 z0 B0 v0]:PW (V (al t) w G) R w0 z0 B0 v0:=⟨fun hK=>Bt (g:=g) hS fun b w' _ hS'=>(h ⟨b,w',hS'⟩).h hK⟩
instance PW.st {R:RP} {v0:Value} {t n off:Nat} {v:Value} {vs l l':List Value} {ty:TypeId} [hS:Res w0 z0 B0 w z L] [g:Blk L b (.cells l.toArray ty (0,0)) C] [gs:aR t n] [gc:cQ v vs] [go:tL vs] [hn:hG vs n] [gl:SetN l off vs l'] {G:World->Prop} [h:∀ q:Now w0 z0 B0 z (C (.cells l'.toArray ty (0,0))),PW (G q.w) R w0 z0 B0 v0]:PW (U (st t (.pointer (some ⟨b,off,none⟩)) v) w G) R w0 z0 B0 v0:=⟨fun hK=>Bu (C:=C) hS hn.h fun w' hS'=>(h ⟨w',hS'⟩).h hK⟩
instance PG.lit {α:Type} {inj:α->Value} {x:α} [hS:Res w0 z0 B0 w z L]:PG inj (fun K=>K [inj x] w) w0 z0 B0 z L x:=⟨fun _ h=>h _ _ (Le.refl _) hS⟩
instance PW.lit {R:RP} {v:Value} [hS:Res w0 z0 B0 w z L]:PW (R v w) R w0 z0 B0 v:=⟨fun h=>h _ _ _ hS⟩
instance PG.cond {α:Type} {inj:α->Value} {x y:α} {A A':(LP)->Prop} {c:Bool} [h1:PG inj A w0 z0 B0 z L x] [h2:PG inj A' w0 z0 B0 z L y]:PG inj (fun K=>aB (.bool c) (A K) (A' K)) w0 z0 B0 z L (bif c then x else y):=
 ⟨fun K hK=>⟨c,rfl,fun hb=>h1.h K (by subst hb; exact hK),fun hb=>h2.h K (by subst hb; exact hK)⟩⟩
instance PW.cond {R:RP} {A A':Prop} {v v':Value} {c:Bool} [h1:PW A R w0 z0 B0 v] [h2:PW A' R w0 z0 B0 v']:PW (aB (.bool c) A A') R w0 z0 B0 (bif c then v else v'):=
 ⟨fun hK=>⟨c,rfl,fun hb=>h1.h (by subst hb; exact hK),fun hb=>h2.h (by subst hb; exact hK)⟩⟩
instance (priority:=1000) PW.joinB {R:RP} {v:Value} {x:Bool} {H:RP} {body:(LP)->Prop} [h1:PG Value.bool body w0 z0 B0 z L x] [h2:∀ q:mo w0 z0 B0 z L,PW (H (Value.bool x) q.w) R w0 z0 B0 v] :
  PW (∀ K1:LP,(∀ t w,(∀ _:Env,H t w)->K1 [t] w)->body K1) R w0 z0 B0 v:=
 ⟨fun hK K1 hK1=>h1.h K1 fun z' w' hz hS=>hK1 _ _ fun _=>(h2 ⟨z',w',hz,hS⟩).h hK⟩
theorem JGB {x:Bool} {rest:RP} {body:(LP)->Prop} [g:PG Value.bool body w0 z0 B0 z L x] (h:∀ z' w',Le z z'->Res w0 z0 B0 w' z' L->rest (.bool x) w'):∀ K:LP,(∀ t w,(∀ _:Env,rest t w)->K [t] w)->body K:=
 fun K hK=>g.h K fun z' w' hz hS=>hK _ _ fun _=>h z' w' hz hS
theorem JGI {x:Int} {rest:RP} {body:(LP)->Prop} [g:PG (Value.int .i64) body w0 z0 B0 z L x] (h:∀ z' w',Le z z'->Res w0 z0 B0 w' z' L->rest (.int .i64 x) w'):∀ K:LP,(∀ t w,(∀ _:Env,rest t w)->K [t] w)->body K:=
 fun K hK=>g.h K fun z' w' hz hS=>hK _ _ fun _=>h z' w' hz hS
section
variable {κ:Type} [DecidableEq κ]
class rr (l:List (κ × Value)) (n:κ) (zv:Value) (v:outParam Value):Prop where
 h:(fD l n).getD zv = v
theorem DX {K:RP} [hS:Res w0 z0 B0 w z L] {t k e:Nat} {mk:κ->Value} {zv v:Value} [g:fA t k e] [gk:mq k mk] [gz:jZ e zv] {n:κ} {l:List (κ × Value)} [gb:Blk L b (mK mk l) C] [gv:rr l n zv v]
  (hk:K v w):V (lk t (.map (some b)) (mk n) false) w K:=wx (C:=C) (mk:=mk) (zv:=zv) (by rw [<- gv.h] at hk; exact hk)
def hM {κ:Type} (h:List κ):List (κ × Value):=h.map fun x=>(x,.bool true)
def dp (h:List κ) (s:κ):Bool:=h.any fun x=>decide (x = s)
theorem memK_iff {h:List κ} {s:κ}:dp h s = true ↔ s ∈ h:=by simp [dp]
def dv (h:List κ) (s:κ):List κ:=bif dp h s then h else h ++ [s]
theorem py (h:List κ) (s:κ):fD (hM h) s = if dp h s then some (.bool true) else none:=by
 rw [kZ];unfold hM dp
 induction h with
 | nil=>rfl
 | cons x h ih=>
  simp only [map_cons,find?_cons,any_cons]
  by_cases e:x = s
  ·subst e; simp
  ·simp only [decide_eq_false e,Bool.false_or]
   exact ih
instance {h:List κ} {s:κ}:rr (hM h) s (.bool false) (.bool (dp h s)):=⟨by rw [py]; cases dp h s <;> rfl⟩
theorem rz (h:List κ) (s:κ):upK (hM h) s (.bool true) = hM (dv h s):=by
 unfold upK;have hg:=py h s;unfold fD at hg
 cases ha:atK (hM h) s with
 | none=>
  rw [ha] at hg;have:dp h s = false:=by cases hm:dp h s with
   | false=>rfl
   | true=>rw [hm] at hg; cases hg
  simp [dv,this,hM]
 | some p=>
  rw [ha] at hg;have hm:dp h s = true:=by cases hm:dp h s with
   | true=>rfl
   | false=>rw [hm] at hg; cases hg
  obtain ⟨h1,_⟩:=qK ha;rw [dv,hm];simp only [cond_true];refine ext_getElem? fun j=>?_
  rw [getElem?_set]
  split
  ·rename_i hj
   subst hj;have hlt:=(List.getElem?_eq_some_iff.1 h1).1;rw [if_pos hlt,h1];rw [hm] at hg;simp only [Option.map_some,if_true,Option.some.injEq] at hg;rw [hg]
  ·rfl
theorem BC {h:List κ} {s x:κ}:x ∈ dv h s ↔ x = s \/ x ∈ h:=by
 unfold dv
 cases hm:dp h s with
 | true=>simp only [cond_true]; exact ⟨.inr,fun h'=>h'.elim (fun e=>e ▸ memK_iff.1 hm) id⟩
 | false=>simp [or_comm]
end
instance PG.lkS {α:Type} {inj:α->Value} {x:α} {t k e:Nat} {zv v:Value} {G:(LP)->RP} [hS:Res w0 z0 B0 w z L] [g:fA t k e] [gk:kM k] [gz:jZ e zv] {n:ByteArray} {l:List (ByteArray × Value)} [gb:Blk L b (mK Value.string l) C] [gv:rr l n zv v] [h:PG inj (fun K=>G K v w) w0 z0 B0 z L x] :
  PG inj (fun K=>V (lk t (.map (some b)) (.string n) false) w (G K)) w0 z0 B0 z L x:=⟨fun K hK=>DX (C:=C) (mk:=Value.string) (zv:=zv) (h.h K hK)⟩
theorem Ck (spec:List It) {L':Bl} {R:Z->Bl->Prop} [hS:Res w0 z0 B0 w z L] [g:Keep L spec L'] (h:R z L'):∃ z' B',Res w0 z0 B0 w z' B'/\R z' B':=⟨z,L',hS.keep spec,h⟩
theorem cF {R:RP} {v v':Value} [hS:Res w0 z0 B0 w z L] (hR:∀ z' w' L',Res w0 z0 B0 w' z' L'->R v w') (h:v' = v):R v' w:=by subst h; exact hR _ _ _ hS
theorem fnW {f:FuncId} {args:Array Value} {v v':Value} {G:(RP)->Prop} (en:∀ {R:RP},G R->Calls Tryz.prog f args w (retK R)) (g:Res w z [] w z []->∀ R,PW (G R) R w z [] v) (h:v = v'):Fn1 f args z w fun _ r=>r = v':=
 Fn1.intro fun hS=>en ((g hS _).h fun z' w' L' hS'=>⟨z',L',hS',h⟩)
theorem fnA {f:FuncId} {args:Array Value} {v:Value} {G:(RP)->Prop} (en:∀ {R:RP},G R->Calls Tryz.prog f args w (retK R)) (g:Res w z [] w z []->∀ R:RP,(∀ z' w' L',Res w z [] w' z' L'->R v w')->G R):Fn1 f args z w fun _ r=>r = v:=
 Fn1.intro fun hS=>en (g hS _ fun z' w' L' hS'=>⟨z',L',hS',rfl⟩)
theorem Ds {G:Prop} {R:RP} {v v':Value} (hS:Res w0 z0 B0 w z L) (g:Res w z L w z L->PW G R w z L v) (h:v = v') (hR:∀ z' w' L',Res w0 z0 B0 w' z' L'->R v' w'):G:=by
 subst h;have hS':Res w0 z0 B0 w z (L ++ []):=by simpa using hS
 exact (g hS'.own).h fun z' w' L' k=>hR z' w' (L' ++ []) (hS'.step k)
theorem Res.rebase {R:RP} {v:Value} (hS:Res w0 z0 B0 w z L) (hR:∀ z' w' L',Res w0 z0 B0 w' z' L'->R v w'):Res w z L w z L/\∀ z' w' L',Res w z L w' z' L'->R v w':=by
 have hS':Res w0 z0 B0 w z (L ++ []):=by simpa using hS
 exact ⟨hS'.own,fun z' w' L' k=>hR z' w' (L' ++ []) (hS'.step k)⟩
theorem Res.frz (b:Nat) {cs:List Value} {t:TypeId} {fr:Nat × Nat} {R:Bl} (h:Res w0 z0 B0 w z L) [g:BringB L b (.cells cs.toArray t fr) R]:∃ z',Le z z'/\Res w0 z0 B0 w z' R/\At z' b 0 cs:=
 ⟨_,(h.bringB b).freeze_le,(h.bringB b).freeze,_,_,_,if_pos rfl,fun j u hu=>by simpa using hu⟩
end
end
section
def gO (p:PartM):Bool:=
 if p.kind = 1 then jh p.text && decide (p.n = 0) else if p.kind = 3 then cg p.text && decide (p.n = 0)
 else if p.kind = 4 \/ p.kind = 8 \/ p.kind = 9 \/ p.kind = 10 then decide (aY p.text = 2) && decide (p.n = 0)
 else if p.kind = 5 \/ p.kind = 6 \/ p.kind = 7 then decide (p.text = ⟨#[]⟩) && inB p.n 0 999999999
 else if p.kind = 2 \/ p.kind = 11 then decide (p.text = ⟨#[]⟩) && decide (p.n = 0) else false
instance {p:PartM}:Pu 149 #[p.v] (.bool (gO p)):=⟨fun z w=>fnW en149 (fun hS R=>by unfold vc149; exact inferInstance) (by
 unfold gO;simp only [Bool.cond_eq_ite,decide_eq_true_eq];(repeat' split) <;> simp_all)⟩
class wZ (i s:Nat) (o:outParam Nat):Prop where
 h:i * s = o
instance {s:Nat}:wZ 0 s 0:=⟨Nat.zero_mul s⟩
instance {s:Nat}:wZ 1 s s:=⟨Nat.one_mul s⟩
instance:wZ 2 2 4:=⟨rfl⟩
instance:wZ 3 2 6:=⟨rfl⟩
instance:wZ 4 2 8:=⟨rfl⟩
instance:wZ 5 2 10:=⟨rfl⟩
class xJ (s:Nat) (cells:List Value) (parts:List (Nat × Value)) (out:outParam (List Value)):Prop where
 h:Instr.fill (fun i=>some (i * s,s)) cells.toArray parts = some out.toArray
instance {s:Nat} {cells:List Value}:xJ s cells [] cells:=⟨rfl⟩
instance {s off:Nat} {cells cells' out vs:List Value} {i:Nat} {v:Value} {parts:List (Nat × Value)} [gm:wZ i s off] [gc:cQ v vs] [gl:hG vs s] [gs:SetN cells off vs cells'] [gf:xJ s cells' parts out]:xJ s cells ((i,v) :: parts) out:=⟨by
 unfold Instr.fill;have hb:=gs.bound;have hl:=gl.h;have hb':¬ (i * s + s > cells.length):=by rw [gm.h]; omega
 simp only [gc.h,size_toArray,hl,ne_eq,not_true_eq_false,decide_false,Bool.false_or,decide_eq_true_eq,hb',if_false];have:(vs.toArray.zipIdx.foldl (fun cs (x:Value × Nat)=>cs.setIfInBounds (i * s + x.2) x.1) cells.toArray) = cells'.toArray:=by
  rw [<- Array.foldl_toList,Array.toList_zipIdx,kB,Nat.add_zero,gm.h,gs.eq]
 rw [this];exact gf.h⟩
instance (priority:=800) {t n e s:Nat} {zs out:List Value} {parts:List (Nat × Value)} [g:ja t n e s] [gz:bD t zs] [gf:xJ s zs parts out]:Run (bd t parts.toArray) (.agg out.toArray):=⟨fun w=>by
 obtain ⟨v,h1,h2⟩:=gz.h;simp only [bd,Instr.build,Sem.run_bind,h2,Result.andThen_ok,g.und,g.size,h1,gf.h]
 rfl⟩
instance:mn 2 2 4:=⟨rfl,by decide⟩
instance:mn 3 2 6:=⟨rfl,by decide⟩
instance:mn 4 2 8:=⟨rfl,by decide⟩
instance:mn 5 2 10:=⟨rfl,by decide⟩
instance (priority:=800) {t n e s o:Nat} [g:ja t n e s] [ga:bn e s] [gs:aR e s] {l vs:List Value} {i:Int} {k:IntKind} [gi:InR i n] [gm:mn i s o] [gn:GetN l o s vs]:Run (ix t (.agg l.toArray) (.int k i)) (.agg vs.toArray):=⟨fun w=>by
 simp only [ix,Instr.index,asIntOf,pure_bind,Sem.run_bind,g.und,g.size,Result.andThen_ok,gi.h0,gi.h1,and_self,if_true,gm.h];rw [nB,gn.eq]⟩
instance:InR 3 ((6:Nat):Int):=⟨by decide,by decide⟩
instance:InR 4 ((6:Nat):Int):=⟨by decide,by decide⟩
instance:InR 5 ((6:Nat):Int):=⟨by decide,by decide⟩
instance:InI (3 + 1):=⟨by decide⟩
instance:InI (4 + 1):=⟨by decide⟩
instance:InI (5 + 1):=⟨by decide⟩
def bU (s:ByteArray):Bool:=decide (s.size <= 1000)
instance {s:ByteArray}:Pu 137 #[.string s] (.bool (bU s)):=⟨fun z w=>fnW en137 (fun hS R=>by unfold vc137; exact inferInstance) (by unfold bU; congr 1; exact decide_eq_decide.2 (by omega))⟩
def kj (l:List PartM):Bool:=decide (l.length <= 100) && l.all fun p=>bU p.text
def mJ (l:List ItemM):Bool:=decide (l.length <= 10000)
abbrev jm:Value:=.func (.func 137) #[] #[]
theorem zo {z:Z} {w:World} {b:Nat} {p:PartM} (ha:At z b 0 [jm]):Va1 (.func (.func 141) #[] #[.pointer (some ⟨b,0,none⟩)]) #[p.v] z w fun _ r=>r = .bool (bU p.text):=
 haveI:Fz z b 0 [jm]:=⟨ha⟩
 Fn1.va (args':=#[p.v,.pointer (some ⟨b,0,none⟩)]) (fnW en141 (fun hS R=>by unfold vc141; exact inferInstance) rfl) (by simp)
theorem BM {z:Z} {w:World} {b:Nat} {v:Value} {l:List PartM} (ha:At z b 0 [jm]) (hv:SlR El.part z v l):Va1 (.func (.func 139) #[] #[.pointer (some ⟨b,0,none⟩)]) #[v] z w fun _ r=>r = .bool (kj l):=
 Fn1.va (args':=#[v,.pointer (some ⟨b,0,none⟩)]) (Fn1.intro fun hS=>en139 (by
  unfold vc139;obtain ⟨_,a,k,rfl,_,_⟩:=hv.form;(repeat (first | refine aA ?_ | (refine J1 ?_; intro _ _)));refine aC (fun h=>?_) (fun h=>?_)
  ·refine ap (mV (E:=El.part) (p:=fun p=>bU p.text) hv (fun z' w' cs x _ hz hr=>?_)) ?_
   ·obtain ⟨rfl,_⟩:=hr
    exact zo (ha.mono hz)
   ·rintro z5 w5 v5 hle5 hS5 rfl
    (repeat (refine K1 ?_));exact ci (by rw [kj,decide_eq_true (by omega)]; rfl)
  ·(repeat (refine K1 ?_))
   exact ci (by rw [kj,decide_eq_false (by omega)]; rfl))) (by simp)
theorem BL {z:Z} {w:World} {v:Value} {l:List ItemM} (hv:SlR El.item z v l):Va1 (.func (.func 144) #[] #[]) #[v] z w fun _ r=>r = .bool (mJ l):=by
 obtain ⟨_,a,k,rfl,_,_⟩:=hv.form;refine Fn1.va (args':=#[.slice a l.length k]) (fnW en144 (fun hS R=>by unfold vc144; exact inferInstance) ?_) (by simp);unfold mJ; congr 1; exact decide_eq_decide.2 (by omega)
theorem BK {z:Z} {w:World} {b:Nat} {p:SpotM} (ha:At z b 0 [jm]):Va1 (.func (.func 146) #[] #[.pointer (some ⟨b,0,none⟩)]) #[p.v] z w fun _ r=>r = .bool (bU p.name):=
 haveI:Fz z b 0 [jm]:=⟨ha⟩
 Fn1.va (args':=#[p.v,.pointer (some ⟨b,0,none⟩)]) (fnW en146 (fun hS R=>by unfold vc146; exact inferInstance) rfl) (by simp)
def dM (c:aH):List (Int × Int):=[(c.consts.length,3000),(c.tmpls.length,3000),(c.lists.length,3000),(c.labels.length,3000),(c.slots.length,100),(c.ins.length,12000)]
def bH (c:aH):Bool:=(dM c).all (fun p=>decide (p.1 <= p.2)) && (c.tmpls.all kj && (c.consts.all bU && (c.lists.all mJ && c.labels.all fun s=>bU s.name)))
theorem xv {z:Z} {w:World} {v:Value} {c:aH} (hc:CodeR z v c):Fn1 46 #[v] z w fun _ r=>r = .bool (bH c):=fnA en46 (by
 intro hS R hR;unfold vc46;have hR':∀ z' w' L',Res w z [] w' z' L'->∀ b,b = bH c->R (.bool b) w':=fun z' w' L' h b e=>by subst e; exact hR z' w' L' h
 obtain ⟨a1,a2,a3,a4,a5,a6,k1,k2,k3,k4,k5,k6,rfl,h1,h2,h3,h4,h5,h6⟩:=hc.form;refine aP ?_;intro bc w1 hbc hS1;refine ak ?_;intro bs w2 hbs hS2;(repeat (first | refine aA ?_ | refine aE ?_ | refine ae ?_ | (refine aP ?_; intro _ _ _ _) | (refine aF ?_; intro _ _)));refine bG (fun (k:Int) x=>x = .int .i64 k/\0 <= k/\k <= 6/\(dM c).all (fun p=>decide (p.1 <= p.2)) = ((dM c).drop k.toNat).all (fun p=>decide (p.1 <= p.2))) (fun k=>(6 - k).toNat) 0 ⟨rfl,by omega,by omega,rfl⟩ ?_;rintro I M k x w3 z3 m ⟨rfl,gp,g0,g1⟩ hz3 hS3 back
 refine aA ?_;have:k = 0 \/ k = 1 \/ k = 2 \/ k = 3 \/ k = 4 \/ k = 5 \/ k = 6:=by omega
 rcases this with rfl | rfl | rfl | rfl | rfl | rfl | rfl
 ·refine bC rfl ?_
  (repeat (first | refine aA ?_ | refine aE ?_ | (refine aP ?_; intro _ _ _ _) | (refine aF ?_; intro _ _)));rename_i hS4;refine aC (fun h=>?_) (fun h=>?_)
  ·exact hR' _ _ _ hS4 _ (by rw [bH,g1,show ((dM c).drop (Int.toNat 0)).all (fun p=>decide (p.1 <= p.2)) = false from by simp [dM]; omega]; rfl)
  ·(repeat (refine aA ?_))
   exact back 1 _ _ _ ⟨rfl,by omega,by omega,by rw [g1]; show (decide ((c.consts.length:Int) <= 3000) && _) = _; rw [decide_eq_true (by omega),Bool.true_and]; rfl⟩ (by (repeat (exact Le.refl _))) (hS4.sublist (sublist_cons_self _ _)) (by omega)
 ·refine bC rfl ?_
  (repeat (first | refine aA ?_ | refine aE ?_ | (refine aP ?_; intro _ _ _ _) | (refine aF ?_; intro _ _)));rename_i hS4;refine aC (fun h=>?_) (fun h=>?_)
  ·exact hR' _ _ _ hS4 _ (by rw [bH,g1,show ((dM c).drop (Int.toNat 1)).all (fun p=>decide (p.1 <= p.2)) = false from by simp [dM]; omega]; rfl)
  ·(repeat (refine aA ?_))
   exact back 2 _ _ _ ⟨rfl,by omega,by omega,by rw [g1]; show (decide ((c.tmpls.length:Int) <= 3000) && _) = _; rw [decide_eq_true (by omega),Bool.true_and]; rfl⟩ (by (repeat (exact Le.refl _))) (hS4.sublist (sublist_cons_self _ _)) (by omega)
 ·refine bC rfl ?_
  (repeat (first | refine aA ?_ | refine aE ?_ | (refine aP ?_; intro _ _ _ _) | (refine aF ?_; intro _ _)));rename_i hS4;refine aC (fun h=>?_) (fun h=>?_)
  ·exact hR' _ _ _ hS4 _ (by rw [bH,g1,show ((dM c).drop (Int.toNat 2)).all (fun p=>decide (p.1 <= p.2)) = false from by simp [dM]; omega]; rfl)
  ·(repeat (refine aA ?_))
   exact back 3 _ _ _ ⟨rfl,by omega,by omega,by rw [g1]; show (decide ((c.lists.length:Int) <= 3000) && _) = _; rw [decide_eq_true (by omega),Bool.true_and]; rfl⟩ (by (repeat (exact Le.refl _))) (hS4.sublist (sublist_cons_self _ _)) (by omega)
 ·refine bC rfl ?_
  (repeat (first | refine aA ?_ | refine aE ?_ | (refine aP ?_; intro _ _ _ _) | (refine aF ?_; intro _ _)));rename_i hS4;refine aC (fun h=>?_) (fun h=>?_)
  ·exact hR' _ _ _ hS4 _ (by rw [bH,g1,show ((dM c).drop (Int.toNat 3)).all (fun p=>decide (p.1 <= p.2)) = false from by simp [dM]; omega]; rfl)
  ·(repeat (refine aA ?_))
   exact back 4 _ _ _ ⟨rfl,by omega,by omega,by rw [g1]; show (decide ((c.labels.length:Int) <= 3000) && _) = _; rw [decide_eq_true (by omega),Bool.true_and]; rfl⟩ (by (repeat (exact Le.refl _))) (hS4.sublist (sublist_cons_self _ _)) (by omega)
 ·refine bC rfl ?_
  (repeat (first | refine aA ?_ | refine aE ?_ | (refine aP ?_; intro _ _ _ _) | (refine aF ?_; intro _ _)));rename_i hS4;refine aC (fun h=>?_) (fun h=>?_)
  ·exact hR' _ _ _ hS4 _ (by rw [bH,g1,show ((dM c).drop (Int.toNat 4)).all (fun p=>decide (p.1 <= p.2)) = false from by simp [dM]; omega]; rfl)
  ·(repeat (refine aA ?_))
   exact back 5 _ _ _ ⟨rfl,by omega,by omega,by rw [g1]; show (decide ((c.slots.length:Int) <= 100) && _) = _; rw [decide_eq_true (by omega),Bool.true_and]; rfl⟩ (by (repeat (exact Le.refl _))) (hS4.sublist (sublist_cons_self _ _)) (by omega)
 ·refine bC rfl ?_
  (repeat (first | refine aA ?_ | refine aE ?_ | (refine aP ?_; intro _ _ _ _) | (refine aF ?_; intro _ _)));rename_i hS4;refine aC (fun h=>?_) (fun h=>?_)
  ·exact hR' _ _ _ hS4 _ (by rw [bH,g1,show ((dM c).drop (Int.toNat 5)).all (fun p=>decide (p.1 <= p.2)) = false from by simp [dM]; omega]; rfl)
  ·(repeat (refine aA ?_))
   exact back 6 _ _ _ ⟨rfl,by omega,by omega,by rw [g1]; show (decide ((c.ins.length:Int) <= 12000) && _) = _; rw [decide_eq_true (by omega),Bool.true_and]; rfl⟩ (by (repeat (exact Le.refl _))) (hS4.sublist (sublist_cons_self _ _)) (by omega)
 refine dk rfl ?_;have hsz:(dM c).all (fun p=>decide (p.1 <= p.2)) = true:=g1;clear back hS hS1 hS2;obtain ⟨zf,hzf,hS5,hat⟩:=hS3.frz bs;clear hS3;have hz5:=hz3.trans hzf;haveI:Fz zf bs 0 [jm]:=⟨hat⟩
 haveI:PuZ zf 138 #[.slice a2 c.tmpls.length k2,.func (.func 139) #[] #[.pointer (some ⟨bs,0,none⟩)]] (.bool (c.tmpls.all kj)):=⟨fun z' w' hz=>mV (E:=El.sl El.part) (p:=kj) (h2.mono (hz5.trans hz)) fun z'' w'' cs x hm hz' hr=>by
   obtain ⟨v,rfl,hv⟩:=hr;exact BM (hat.mono (hz.trans hz')) hv⟩
 haveI:PuZ zf 142 #[.slice a1 c.consts.length k1,jm] (.bool (c.consts.all bU)):=⟨fun z' w' hz=>mV (E:=El.str) (p:=bU) (h1.mono (hz5.trans hz)) fun z'' w'' cs x hm hz' hr=>by
   obtain ⟨rfl,_⟩:=hr;exact (puV:Va1 jm #[.string x] z'' w'' _)⟩
 haveI:PuZ zf 143 #[.slice a3 c.lists.length k3,.func (.func 144) #[] #[]] (.bool (c.lists.all mJ)):=⟨fun z' w' hz=>mV (E:=El.sl El.item) (p:=mJ) (h3.mono (hz5.trans hz)) fun z'' w'' cs x hm hz' hr=>by
   obtain ⟨v,rfl,hv⟩:=hr;exact BL hv⟩
 haveI:PuZ zf 145 #[.slice a4 c.labels.length k4,.func (.func 146) #[] #[.pointer (some ⟨bs,0,none⟩)]] (.bool (c.labels.all fun s=>bU s.name)):=⟨fun z' w' hz=>mV (E:=El.spot) (p:=fun s=>bU s.name) (h4.mono (hz5.trans hz)) fun z'' w'' cs x hm hz' hr=>by
   obtain ⟨rfl,_⟩:=hr;exact BK (hat.mono (hz.trans hz'))⟩
 refine Ds hS5 (fun hS6=>inferInstance) ?_ hR;rw [bH,hsz]
 cases c.tmpls.all kj <;> cases c.consts.all bU <;> cases c.lists.all mJ <;> rfl)
end
section
def ic (l:List PartM):Bool:=l.all gO
def gQ (l:List ItemM):Bool:=decide (0 < l.length) && l.all fun x=>jh x.name
def eV (n:Nat) (last:Int) (s:SpotM):Bool × Int:=(cg s.name && inB s.at_ last ((n:Int) - 1),max last s.at_)
def jJ (h:List ByteArray) (s:ByteArray):Bool × List ByteArray:=(decide (aY s = 2) && !dp h s,dv h s)
def dR (c:aH):Bool:=!decide (c.ins.length = 0) && (c.consts.all cg && (c.tmpls.all ic && (c.lists.all gQ && ((dx (eV c.ins.length) 0 c.labels).1 && (dx jJ [] c.slots).1))))
theorem Ce {z:Z} {w:World} {v:Value} {l:List PartM} (hv:SlR El.part z v l):Va1 (.func (.func 148) #[] #[]) #[v] z w fun _ r=>r = .bool (ic l):=by
 haveI:PuZ z 140 #[v,.func (.func 149) #[] #[]] (.bool (l.all gO)):=⟨fun z' w' hz=>mV (E:=El.part) (p:=gO) (hv.mono hz) fun z'' w'' cs x hm hz' hr=>by
  obtain ⟨rfl,_⟩:=hr;exact (puV:Va1 (.func (.func 149) #[] #[]) #[x.v] z'' w'' _)⟩
 exact Fn1.va (args':=#[v]) (fnW en148 (fun hS R=>by unfold vc148; exact inferInstance) rfl) (by simp)
instance {x:ItemM}:Pu 152 #[x.v] (.bool (jh x.name)):=⟨fun z w=>fnW en152 (fun hS R=>by unfold vc152; exact inferInstance) rfl⟩
theorem Cd {z:Z} {w:World} {v:Value} {l:List ItemM} (hv:SlR El.item z v l):Va1 (.func (.func 150) #[] #[]) #[v] z w fun _ r=>r = .bool (gQ l):=by
 obtain ⟨_,a,k,rfl,_,_⟩:=hv.form;haveI:PuZ z 151 #[.slice a l.length k,.func (.func 152) #[] #[]] (.bool (l.all fun x=>jh x.name)):=⟨fun z' w' hz=>mV (E:=El.item) (p:=fun x=>jh x.name) (hv.mono hz) fun z'' w'' cs x hm hz' hr=>by
  obtain ⟨rfl,_⟩:=hr;exact (puV:Va1 (.func (.func 152) #[] #[]) #[x.v] z'' w'' _)⟩
 refine Fn1.va (args':=#[.slice a l.length k]) (fnW en150 (fun hS R=>by unfold vc150; exact inferInstance) ?_) (by simp);unfold gQ
 by_cases h:0 < l.length
 ·rw [decide_eq_true h,decide_eq_true (by omega)]; rfl
 ·rw [decide_eq_false h,decide_eq_false (by omega)]; rfl
abbrev wu (n:Int):Obj:=.cells [.int .i64 n].toArray 3 (0,0)
theorem Cc {z:Z} {w:World} {b4 bc n:Nat} {v1 v2 v3 v4 v5:Value} {a:Option Addr} {k:Nat} {s:SpotM} {last:Int} (hn:n <= big) (ha:At z bc 0 [v1,v2,v3,v4,v5,.slice a n k]) :
  Va (.func (.func 154) #[] #[.pointer (some ⟨b4,0,none⟩),.pointer (some ⟨bc,0,none⟩)]) #[s.v] z [(b4,wu last)] w fun _ B' r=>r = .bool (eV n last s).1/\B' = [(b4,wu (eV n last s).2)]:=
 Fn.va (args':=#[s.v,.pointer (some ⟨b4,0,none⟩),.pointer (some ⟨bc,0,none⟩)]) (Fn.intro fun hS=>en154 (by
  unfold vc154;haveI:=dJ hn;haveI:Fz z bc 5 [.slice a n k]:=⟨ha.fld (i:=5) rfl rfl⟩
  refine aP ?_;intro b1 w1 hb1 hS1;clear hS;(repeat (first | refine aA ?_ | refine aE ?_ | (refine aF ?_; intro _ _) | (refine JGB ?_; intro _ _ _ _) | (refine aN ?_; intro _ _ _ _)));dsimp only;exact Ck [.at b4] ⟨by rw [eV]; cases cg s.name <;> rfl,rfl⟩)) (by simp)
abbrev BT (h:List ByteArray):Obj:=mK Value.string (hM h)
theorem Cb {z:Z} {w:World} {b6 bm:Nat} {s:ByteArray} {h:List ByteArray} :
  Va (.func (.func 155) #[] #[.pointer (some ⟨b6,0,none⟩)]) #[.string s] z [(b6,.cells [.map (some bm)].toArray 231 (0,0)),(bm,BT h)] w fun _ B' r=>r = .bool (jJ h s).1/\B' = [(b6,.cells [.map (some bm)].toArray 231 (0,0)),(bm,BT (jJ h s).2)]:=
 Fn.va (args':=#[.string s,.pointer (some ⟨b6,0,none⟩)]) (Fn.intro fun hS=>en155 (by
  unfold vc155;haveI:jZ 8 (.bool false):=⟨fun _=>by kernel_rfl⟩
  (repeat (first | refine aA ?_ | refine aE ?_ | (refine JGB ?_; intro _ _ _ _) | (refine aN ?_; intro _ _ _ _)));refine jX (mk:=Value.string) ?_;intro w2 hS2;rw [rz] at hS2;refine ⟨_,_,hS2,?_,rfl⟩;rw [jJ]; cases decide (aY s = 2) <;> rfl)) (by simp)
theorem zZ {z:Z} {w:World} {v:Value} {c:aH} (hc:CodeR z v c):Fn1 47 #[v] z w fun _ r=>r = .bool (dR c):=fnA en47 (by
 intro hS R hR;unfold vc47;obtain ⟨a1,a2,a3,a4,a5,a6,k1,k2,k3,k4,k5,k6,rfl,h1,h2,h3,h4,h5,h6⟩:=hc.form;refine aP ?_;intro bc w1 hbc hS1;obtain ⟨zc,hzc,hS2,hat⟩:=hS1.frz bc;clear hS hS1;obtain ⟨hS3,hR3⟩:=hS2.rebase hR;clear hS2 hR;haveI:Fz zc bc 0 [.slice a1 c.consts.length k1]:=⟨hat.fld (i:=0) rfl rfl⟩
 haveI:Fz zc bc 1 [.slice a2 c.tmpls.length k2]:=⟨hat.fld (i:=1) rfl rfl⟩
 haveI:Fz zc bc 2 [.slice a3 c.lists.length k3]:=⟨hat.fld (i:=2) rfl rfl⟩
 haveI:Fz zc bc 3 [.slice a4 c.labels.length k4]:=⟨hat.fld (i:=3) rfl rfl⟩
 haveI:Fz zc bc 4 [.slice a5 c.slots.length k5]:=⟨hat.fld (i:=4) rfl rfl⟩
 haveI:Fz zc bc 5 [.slice a6 c.ins.length k6]:=⟨hat.fld (i:=5) rfl rfl⟩
 haveI:PuZ zc 138 #[.slice a2 c.tmpls.length k2,.func (.func 148) #[] #[]] (.bool (c.tmpls.all ic)):=⟨fun z' w' hz=>mV (E:=El.sl El.part) (p:=ic) (h2.mono (hzc.trans hz)) fun z'' w'' cs x hm hz' hr=>by
  obtain ⟨v,rfl,hv⟩:=hr;exact Ce hv⟩
 haveI:PuZ zc 142 #[.slice a1 c.consts.length k1,.func (.func 147) #[] #[]] (.bool (c.consts.all cg)):=⟨fun z' w' hz=>mV (E:=El.str) (p:=cg) (h1.mono (hzc.trans hz)) fun z'' w'' cs x hm hz' hr=>by
  obtain ⟨rfl,_⟩:=hr;exact (puV:Va1 (.func (.func 147) #[] #[]) #[.string x] z'' w'' _)⟩
 haveI:PuZ zc 143 #[.slice a3 c.lists.length k3,.func (.func 150) #[] #[]] (.bool (c.lists.all gQ)):=⟨fun z' w' hz=>mV (E:=El.sl El.item) (p:=gQ) (h3.mono (hzc.trans hz)) fun z'' w'' cs x hm hz' hr=>by
  obtain ⟨v,rfl,hv⟩:=hr;exact Cd hv⟩
 (repeat (first | refine aA ?_ | (refine JGB ?_; intro _ _ _ _) | refine aL ?_));refine aO (fun e=>?_) (fun e=>?_)
 ·refine cF hR3 ?_
  rw [dR]
  revert e
  rw [show decide ((c.ins.length:Int) = 0) = decide (c.ins.length = 0) from decide_eq_decide.2 (by omega)]
  cases decide (c.ins.length = 0) <;> cases c.consts.all cg <;> cases c.tmpls.all ic <;> simp
 ·have e1:dR c = (c.lists.all gQ && ((dx (eV c.ins.length) 0 c.labels).1 && (dx jJ [] c.slots).1)):=by
   rw [dR]
   revert e
   rw [show decide ((c.ins.length:Int) = 0) = decide (c.ins.length = 0) from decide_eq_decide.2 (by omega)]
   cases decide (c.ins.length = 0) <;> cases c.consts.all cg <;> cases c.tmpls.all ic <;> simp
  (repeat (first | refine aA ?_ | (refine aP ?_; intro _ _ _ _) | (refine aF ?_; intro _ _) | (refine cE ?_; intro _ _ _ _) | refine aL ?_));rename_i b4 _ _ _ w5 hS5;refine bO (B:=[(b4,wu 0)]) (F:=[]) (by simpa using hS5) ((inferInstance:Fam El.spot 145 nY).h (σ:=Int) (fun s=>[(b4,wu s)]) (eV c.ins.length) 0 (h4.mono (hzc.trans hS5.zle)) (fun z' w' s cs x hm hz hr=>by
   obtain ⟨rfl,_⟩:=hr;exact Cc h6.big (hat.mono (hS5.zle.trans hz)))) (by simp) ?_
  rintro z6 B6 w6 v6 hz6 hS6 ⟨rfl,rfl⟩
  rw [append_nil] at hS6;refine pk (mk:=Value.string) ?_;intro bm w7 hbm hS7;refine ak ?_;intro b6 w8 hb6 hS8;clear hS7;(repeat (first | refine aA ?_ | (refine aF ?_; intro _ _) | refine aL ?_));rename_i w9 hS9;have hS10:=hS9.keep [.at b6,.at bm];clear hS9 hS8 hS6 hS3;refine bO (B:=[(b6,.cells [.map (some bm)].toArray 231 (0,0)),(bm,BT [])]) (F:=[]) (by rw [append_nil]; exact hS10) ((inferInstance:Fam El.str 142 se).h (σ:=List ByteArray) (fun h=>[(b6,.cells [.map (some bm)].toArray 231 (0,0)),(bm,BT h)]) jJ [] (h5.mono (hzc.trans hS10.zle)) (fun z' w' s cs x hm hz hr=>by
   obtain ⟨rfl,_⟩:=hr;exact Cb)) (by simp) ?_
  rintro z11 B11 w11 v11 hz11 hS11 ⟨rfl,rfl⟩
  rw [append_nil] at hS11;(repeat (refine JB ?_));exact cF hR3 (by rw [e1]; cases c.lists.all gQ <;> cases (dx (eV c.ins.length) 0 c.labels).1 <;> rfl))
end
section
theorem CN {f:FuncId} [he:aD f] {first args cap args':Array Value} {w:World} {K:RP} (ha:first ++ args ++ cap = args') (h:Calls Tryz.prog f args' w (retK K)):CE (.func (.func f) first cap) args w K:=by
 subst ha;have:(dK (.func (.func f) first cap) args).run Tryz.prog w = .ok (.enter f (first ++ args ++ cap)) w:=by
  simp only [dK,Deferred.ofValue,pure_bind,invoke];exact he.h _ _
 unfold CE CallE;rw [this];exact h
theorem Res.rf {w0 w w1:World} {z0 z:Z} {B0 L:Bl} {r l:Nat} {lp:Loop} (h:Res w0 z0 B0 w z L) (hn:qQ w w1 r l lp):Res w0 z0 B0 w1 z ((l,dC lp .ready none) :: (r,.deferred (some [])) :: L):=by
 obtain ⟨rfl,rfl,rfl⟩:=hn;have:=Res.new (Res.new h (.deferred (some []))) (dC lp .ready none)
 simpa using this
theorem su {w0 w:World} {z0 z:Z} {B0 L:Bl} {C:Obj->Bl} {l:Nat} {lp:Loop} {K:World->Prop} [hS:Res w0 z0 B0 w z L] [g:Blk L l (dC lp .ready none) C] (hk:∀ w',Res w0 z0 B0 w' z (C (dC lp .busy none))->K w'):lg l lp w K:=⟨Res.at_ (g:=g) hS,hk _ (Res.set (g:=g) hS _ rfl)⟩
theorem uT {w0 w:World} {z0 z:Z} {B0 L:Bl} {C:Obj->Bl} {l:Nat} {lp:Loop} {st:LoopState} {pend jump:Option Code} {K:RP} [hS:Res w0 z0 B0 w z L] [g:Blk L l (dC lp st pend) C] (hk:∀ w',Res w0 z0 B0 w' z (C (dC lp (if jump.isNone then .ready else .done) jump))->K (.bool jump.isNone) w'):qR l lp jump w K:=⟨⟨st,pend,Res.at_ (g:=g) hS⟩,hk _ (Res.set (g:=g) hS _ rfl)⟩
theorem pw {w0 w:World} {z0 z:Z} {B0 L:Bl} {C:Obj->Bl} {l:Nat} {lp:Loop} {st:LoopState} {pend:Option Code} {Kn Kr:World->Prop} {kes:List (Nat × (World->Prop))} [hS:Res w0 z0 B0 w z L] [g:Blk L l (dC lp st pend) C] (hst:st ≠ .busy) (hk:∀ w',Res w0 z0 B0 w' z (C (dC lp .exhausted pend))->uL pend Kn Kr kes w'):qP l lp w Kn Kr kes:=⟨st,pend,Res.at_ (g:=g) hS,hst,hk _ (Res.set (g:=g) hS _ rfl)⟩
def bQ (rs:List Nat):Bl:=rs.map fun r=>(r,.deferred (some []))
theorem nQ {w0:World} {z0 z:Z} {B0 L:Bl} {K:World->Prop}:∀ (rs:List Nat) {w:World},Res w0 z0 B0 w z (bQ rs ++ L)->(∀ w',Res w0 z0 B0 w' z L->K w')->gS rs w K
 | [],w,h,hk=>hk w (by simpa [bQ] using h)
 | r :: rs,w,h,hk=>by
  have h':Res w0 z0 B0 w z ((r,.deferred (some [])) :: (bQ rs ++ L)):=h;refine ⟨(h'.mem _ mem_cons_self).1,?_⟩;exact nQ rs ((h'.put (.deferred none) rfl).sublist (sublist_cons_self _ _)) hk
theorem CK {A:Prop} {w0 w:World} {z0 z:Z} {B0 L:Bl} {b:Nat} [hS:Res w0 z0 B0 w z L] {t n:TypeId} [g:bn t n] [gs:aR t n] {off:Nat} {vs:List Value} [h:Fz z0 b off vs] [hl:hG vs n] (ha:A):aM (ld t (.pointer (some ⟨b,off,none⟩))) w (.agg vs.toArray)/\A:=⟨lm ((h.h.mono hS.zle).world hS.sub) hl.h,ha⟩
section
variable {w0 w w':World} {z0 z z':Z} {B0 B B' L F:Bl} {b:Nat} {o:Obj} {C:Obj->Bl}
theorem BV {K:Value->Prop} [hS:Res w0 z0 B0 w z L] {t k e:Nat} {kd:IntKind} {zv v:Value} [g:fA t k e] [gk:gR k kd] [gz:jZ e zv] {n:Int} {l:List (Int × Value)} [gb:Blk L b (mK (Value.int kd) l) C] [gv:rr l n zv v]
  (hk:K v):HV (lk t (.map (some b)) (.int kd n) false) w K:=Ch (C:=C) (mk:=Value.int kd) (zv:=zv) (by rw [if_neg (by simp),gv.h]; exact hk)
theorem xB {A:Prop} [hS:Res w0 z0 B0 w z L] {t k e:Nat} {kd:IntKind} {zv v:Value} [g:fA t k e] [gk:gR k kd] [gz:jZ e zv] {n:Int} {l:List (Int × Value)} [gb:Blk L b (mK (Value.int kd) l) C] [gv:rr l n zv v]
  (hk:A):aM (lk t (.map (some b)) (.int kd n) false) w v/\A:=by
 have:=ll (t:=t) (k:=k) (e:=e) (mk:=Value.int kd) (n:=n) (l:=l) (Res.at_ (g:=gb) hS) gz.h false;rw [if_neg (by simp),gv.h] at this;exact ⟨this,hk⟩
theorem Res.comp {L':Bl} (h:Res w0 z0 B0 w z L) (k:Res w z L w' z' L'):Res w0 z0 B0 w' z' L':=by
 have h':Res w0 z0 B0 w z (L ++ []):=by simpa using h
 simpa using h'.step k
theorem Res.self (h:Res w0 z0 B0 w z L):Res w z L w z L:=by
 have h':Res w0 z0 B0 w z (L ++ []):=by simpa using h
 exact h'.own
theorem pQ (B G xs T:Bl):(B ++ (G ++ (xs ++ T))).Perm (G ++ (xs ++ (B ++ T))):=
 (perm_append_comm_assoc B G (xs ++ T)).trans ((perm_append_comm_assoc B xs T).append_left G)
theorem SetN.at_ {l:List Value} {k:Nat} {u:Value} (h:k < l.length):SetN l k [u] (l.set k u) where
 len:=by simp
 bound:=by simp; omega
 inn:=fun j v hv=>by
  cases j with
  | zero=>simp at hv; subst hv; simp [h]
  | succ j=>simp at hv
 out:=fun j hj=>by simp only [length_singleton] at hj; rw [getElem?_set_ne (by omega)]
theorem OwnSl.pop {e n:Nat} {B:Bl} {v u:Value} {xs:List Value} (h:OwnSl e 1 B v (n + 1) (xs ++ [u])):∃ bo cap C,v = .slice (some ⟨bo,0,none⟩) (n + 1) cap/\n + 1 <= cap/\B = [(bo,.cells C e (0,0))]/\C[n]? = some u/\OwnSl e 1 B (.slice (some ⟨bo,0,none⟩) n cap) n xs:=by
 rcases h.2 with ⟨_,_,h0⟩ | ⟨b,cap,sp,rfl,rfl,h1,h2,h3⟩
 ·omega
 ·have hl:=h.1
  have hxn:xs.length = n:=by simp at hl; omega
  refine ⟨b,cap,_,rfl,h1,rfl,?_,by omega,.inr ⟨b,cap,u :: sp,by simp,rfl,by omega,h2,?_⟩⟩
  ·simp [<- hxn]
  ·simp at h3 ⊢; omega
end
theorem cb {w0 w:World} {z0 z:Z} {B0 B L R:Bl} {K:RP} {t e size bytes n:Nat} {v u:Value} {us xs:List Value} [g:fP t e size bytes] [gs:bF t e size] [gz:eb e size] [gc:cQ u us] [gl:hG us size] [go:tL us]
  (hS:Res w0 z0 B0 w z L) (ho:OwnSl e size B v n xs) [gb:BringL L B R] (hb:(n + 1) * bytes <= room) (hb2:n + 1 <= room) (hsz:size <= 1000)
  (hk:∀ B' v' w',OwnSl e size B' v' (n + 1) (xs ++ us)->Res w0 z0 B0 w' z (B' ++ R)->K v' w'):V (bs t 1 #[(0,u)]) w fun s w=>V (Builtin.append_ #[t,t] t #[v,s]) w K:=by
 refine je (parts:=[(0,u)]) rfl (by omega) ?_;intro b w1 hb1 hS1;rw [append_nil] at hS1;have hat:At (hp w1) b 0 us:=⟨_,_,_,(hS1.mem _ mem_cons_self).1,fun j v hv=>by simpa using hv⟩
 have hS2:Res w0 z0 B0 w1 z (B ++ R):=(hS1.sublist (sublist_cons_self _ _)).perm gb.h;refine xG (B:=B) (m:=1) hS2 ho hat (by rw [gl.h]; omega) go.h (by omega) hb hb2 ?_;exact hk
end
section
structure DepM where
 stack:Int
 loops:Int
deriving DecidableEq
abbrev DepM.cells (s:DepM):List Value:=[.int .i64 s.stack,.int .i64 s.loops]
abbrev DepM.v (s:DepM):Value:=.agg s.cells.toArray
def rg (i:InsM) (s:DepM):Bool:=
 if i.op = 31 then decide (s.stack = 0) && decide (s.loops > 0) else if i.op = 1 \/ i.op = 2 then decide (s.stack = 0) else if i.op = 30 \/ i.op = 32 then decide (s.loops > 0) else true
instance {i:InsM} {s:DepM}:Pu 161 #[i.v,s.v] (.bool (rg i s)):=⟨fun z w=>fnW en161 (fun hS R=>by unfold vc161; exact inferInstance) (by
 unfold rg;simp only [Bool.cond_eq_ite,decide_eq_true_eq];(repeat' split) <;> simp_all)⟩
class Db (i:InsM):Prop where
 a:i.op = 33->0 <= i.a/\i.a <= 40
class Low (s:DepM):Prop where
 h:0 <= s.stack/\s.stack <= 200/\0 <= s.loops/\s.loops <= 40
theorem qA {n:Int}:0 <= (aG n).pops/\(aG n).pops <= 2/\0 <= (aG n).pushes/\(aG n).pushes <= 1/\0 <= (aG n).loop/\(aG n).loop <= 1:=by
 have key:formL.all (fun f=>decide (0 <= f.pops/\f.pops <= 2/\0 <= f.pushes/\f.pushes <= 1/\0 <= f.loop/\f.loop <= 1)) = true:=by decide +kernel
 have h0:0 <= noForm.pops/\noForm.pops <= 2/\0 <= noForm.pushes/\noForm.pushes <= 1/\0 <= noForm.loop/\noForm.loop <= 1:=by decide
 by_cases h:cO n = true
 ·have:=mem_of_getElem? (uW h)
  have:=List.all_eq_true.1 key _ this
  simpa using this
 ·unfold aG
  rw [if_neg h];exact h0
theorem ik {k lo hi n:Int} (h:rngTab.find? (fun p=>p.1 == k) = some (k,lo,hi)) (h2:cW k n = true):lo <= n/\n <= hi:=by
 unfold cW at h2;rw [h] at h2;exact inB_iff.1 h2
theorem nU (i:InsM):0 <= (dX i).pops/\(dX i).pops <= 20/\0 <= (dX i).pushes/\(dX i).pushes <= 1:=by
 unfold dX
 by_cases h:(cO i.op && cU i) = true
 ·rw [if_pos h]
  simp only [Bool.and_eq_true] at h;have hf:=@qA i.op;have h2:=h.2;refine ⟨?_,?_,hf.2.2.1,hf.2.2.2.1⟩
  all_goals
   simp only [cA];unfold cU at h2;have hr:=jq i.b;have hw:IntKind.i64.wrap 0 = 0:=rfl;have hw1:IntKind.i64.wrap 1 = 1:=rfl
   split
   ·rename_i e; rw [if_pos e] at h2; have:=ik (k:=16) (lo:=0) (hi:=10) rfl h2; omega
   rename_i e; rw [if_neg e] at h2
   split
   ·rename_i e; rw [if_pos e] at h2
    have:=ik (k:=15) (lo:=0) (hi:=2) rfl h2;have:i.a = 0 \/ i.a = 1 \/ i.a = 2:=by omega
    rcases this with e | e | e <;> rw [e] <;> decide
   rename_i e; rw [if_neg e] at h2
   split
   ·omega
   rename_i e; rw [if_neg e] at h2
   split
   ·rename_i e; rw [if_pos e] at h2; simp only [Bool.and_eq_true] at h2
    have:=ik (k:=14) (lo:=0) (hi:=1) rfl h2.2
    split <;> omega
   rename_i e; rw [if_neg e] at h2
   split
   ·split <;> omega
   rename_i e; rw [if_neg e] at h2
   split
   ·rename_i e; rw [if_pos e] at h2; have:=ik (k:=14) (lo:=0) (hi:=1) rfl h2; omega
   ·omega
 ·rw [if_neg h]; decide
def gV (i:InsM) (s:DepM) (jumps:Bool):DepM:=
 ⟨s.stack + ((dX i).pushes - (dX i).pops),s.loops + (aG i.op).loop - (if i.op = 30/\jumps = true then 1 else if i.op = 33 then i.a else 0)⟩
theorem yX {i:InsM} {s:DepM} {j:Bool} (ht:Db i) (hl:Low s) {z:Z} {w:World}:Fn1 162 #[i.v,s.v,.bool j] z w fun _ r=>r = (gV i s j).v:=fnA en162 (by
 intro hS R hR;have he:=nU i;have hf:=@qA i.op;obtain ⟨l1,l2,l3,l4⟩:=hl.h;haveI:InI ((dX i).pushes - (dX i).pops):=⟨by omega⟩
 haveI:InI (s.stack + ((dX i).pushes - (dX i).pops)):=⟨by omega⟩
 haveI:InI (s.loops + (aG i.op).loop):=⟨by omega⟩
 haveI:InI (s.loops + (aG i.op).loop - 1):=⟨by omega⟩
 unfold vc162;(repeat (first | refine aA ?_ | refine aE ?_ | refine ae ?_ | (refine aP ?_; intro _ _ _ _) | (refine aF ?_; intro _ _) | refine JB ?_ | (refine J0 ?_; intro _ _) | (refine aN ?_; intro _ _ _ _)));refine aO (fun e=>?_) (fun e=>?_)
 ·have e2:i.op = 30/\j = true:=by by_cases h:i.op = 30 <;> simp [h] at e ⊢; exact e
  (repeat (first | refine aA ?_ | refine aE ?_ | refine ae ?_ | (refine aF ?_; intro _ _) | refine aq ?_ | refine K0 ?_));exact cF hR (by rw [gV,if_pos e2])
 ·have e2:¬ (i.op = 30/\j = true):=by by_cases h:i.op = 30 <;> simp [h] at e ⊢; exact e
  (repeat (first | refine aA ?_ | refine aE ?_));refine aC (fun e3=>?_) (fun e3=>?_)
  ·have ha:=ht.a e3
   haveI:InI (s.loops + (aG i.op).loop - i.a):=⟨by omega⟩
   (repeat (first | refine aA ?_ | refine aE ?_ | refine ae ?_ | (refine aF ?_; intro _ _) | refine aq ?_ | refine K0 ?_));exact cF hR (by rw [gV,if_neg e2,if_pos e3])
  ·(repeat (first | refine ae ?_ | (refine aF ?_; intro _ _) | refine aq ?_ | refine K0 ?_))
   exact cF hR (by rw [gV,if_neg e2,if_neg e3,Int.sub_zero]))
end
section
def du (l:List Nat):List Value:=l.map fun n:Nat=>.int .i64 (n:Int)
theorem cP {a b:List Nat}:du (a ++ b) = du a ++ du b:=by simp [du]
def jp (c:aH) (s:SpotM):Bool:=inB s.at_ 0 ((c.ins.length:Int) - 1)
def iL (c:aH) (k:Nat):List Nat:=0 :: ((c.labels.take k).filter (jp c)).map fun s=>s.at_.toNat
def bP (c:aH):List Nat:=iL c c.labels.length
theorem kT {c:aH} {k:Nat}:(iL c k).length <= k + 1:=by
 have:=length_filter_le (jp c) (c.labels.take k);rw [length_take] at this;simp only [iL,length_cons,length_map]; omega
theorem np {c:aH} {k:Nat} (h:k < c.labels.length):iL c (k + 1) = iL c k ++ (if jp c c.labels[k] then [c.labels[k].at_.toNat] else []):=by
 unfold iL;rw [<- take_append_getElem h,filter_append,map_append]
 cases hr:jp c c.labels[k] <;> simp [hr]
theorem tZ {z:Z} {w:World} {v:Value} {c:aH} (hc:CodeR z v c) (hl:c.labels.length <= 3000):Fn 73 #[v] z [] w fun z' B' r=>OwnSl 3 1 B' r (bP c).length (du (bP c)):=Fn.intro fun hS=>en73 (by
 unfold vc73;obtain ⟨a1,a2,a3,a4,a5,a6,k1,k2,k3,k4,k5,k6,rfl,h1,h2,h3,h4,h5,h6⟩:=hc.form;haveI:=dJ h6.big;refine aP ?_;intro bc w1 hbc hS1;refine je (parts:=[(0,_)]) rfl (by omega) ?_;intro br w2 hbr hS2;clear hS hS1;(repeat (first | refine aA ?_ | refine aE ?_));refine ee (fun (k:Nat) x y w'=>y = .int .i64 k/\k <= c.labels.length/\∃ B' z',Le z z'/\OwnSl 3 1 B' x (iL c k).length (du (iL c k))/\Res w z [] w' z' (B' ++ [(bc,.cells [.slice a1 c.consts.length k1,.slice a2 c.tmpls.length k2,.slice a3 c.lists.length k3,.slice a4 c.labels.length k4,.slice a5 c.slots.length k5,.slice a6 c.ins.length k6].toArray 28 (0,0))])) (fun k=>c.labels.length - k) 0
  ⟨rfl,by omega,[(br,.cells ([Value.int .i64 0] ++ []).toArray 3 (0,0))],_,Le.refl _,⟨rfl,.inr ⟨br,1,[],rfl,rfl,Nat.le_refl 1,by decide,rfl⟩⟩,hS2⟩ ?_
 rintro I M k x y w3 m ⟨rfl,hk,B3,z3,hz3,ho,hS3⟩ back
 clear hS2;(repeat (refine aA ?_));refine aC (fun h=>?_) (fun h=>?_)
 ·have hlt:k < c.labels.length:=by omega
  haveI:InR (k:Int) (c.labels.length:Nat):=⟨by omega,by omega⟩
  haveI:InI ((k:Int) + 1):=⟨by omega⟩
  intro K hK;obtain ⟨_,a,kk,he,_,hel⟩:=h4.form
  cases he
  obtain ⟨b,off,cs,rfl,⟨rfl,hs⟩,hat⟩:=hel k _ (getElem?_eq_getElem hlt);have hlen:=@kT c k;(repeat (refine aA ?_));refine kz (n:=2) (vs:=c.labels[k].cells) (hat.mono hz3) rfl ?_;(repeat (first | refine aA ?_ | refine aE ?_ | (refine aP ?_; intro _ _ _ _) | (refine aF ?_; intro _ _) | (refine aN ?_; intro _ _ _ _)));refine aO (fun e=>?_) (fun e=>?_)
  ·have e2:jp c c.labels[k] = true:=e
   have e3:=inB_iff.1 e;have hat2:((c.labels[k].at_.toNat:Nat):Int) = c.labels[k].at_:=by omega
   (repeat (first | refine aA ?_ | refine aE ?_));rename_i hS4;refine cb hS4 ho (by simp only [room]; omega) (by simp only [room]; omega) (by decide) ?_;intro B5 v5 w5 ho5 hS5;refine hK _ _ fun _=>?_
   (repeat (refine aA ?_));refine back (k + 1) _ _ _ ⟨by simp,by omega,B5,_,?_,?_,hS5.keep [.bl B5,.at bc]⟩ (by omega)
   ·(repeat (exact Res.zle (by assumption)))
   ·rw [np hlt,if_pos e2,cP]
    simpa [du,hat2] using ho5
  ·have e2:¬ jp c c.labels[k] = true:=by rw [show jp c c.labels[k] = false from e]; simp
   rename_i hS4;refine hK _ _ fun _=>?_
   (repeat (refine aA ?_));refine back (k + 1) _ _ _ ⟨by simp,by omega,B3,_,?_,?_,hS4.keep [.bl B3,.at bc]⟩ (by omega)
   ·(repeat (exact Res.zle (by assumption)))
   ·rw [np hlt,if_neg e2,append_nil]
    exact ho
 ·have:k = c.labels.length:=by omega
  subst this;exact ⟨_,_,hS3.keep [.bl B3],by simpa [bP] using ho⟩)
end
section
def cX (i:InsM):Bool:=decide (i.op = 23) || (decide (i.op = 24) || decide (i.op = 30))
def ey (n at_:Nat) (i:InsM):List (Nat × Bool):=if (!(aG i.op).final && decide (at_ + 1 < n)) = true then [(at_ + 1,false)] else []
def jW (n:Nat) (i:InsM):List (Nat × Bool):=if (cX i && inB i.a 0 ((n:Int) - 1)) = true then [(i.a.toNat,true)] else []
def dD (n at_:Nat) (i:InsM):List (Nat × Bool):=ey n at_ i ++ jW n i
theorem uJ {z:Z} {w:World} {vs:List Value} {at_:Int}:Fn1 74 #[.agg vs.toArray,.int .i64 at_] z w fun z' r=>∃ b1 b2,r = .func (.func 173) #[] #[.pointer (some ⟨b1,0,none⟩),.pointer (some ⟨b2,0,none⟩)]/\At z' b1 0 vs/\At z' b2 0 [.int .i64 at_]:=Fn1.intro fun hS=>en74 (by
 unfold vc74;refine aP ?_;intro b1 w1 hb1 hS1;refine aP ?_;intro b2 w2 hb2 hS2;obtain ⟨z3,hz3,hS3,h3⟩:=hS2.frz b2;obtain ⟨z4,hz4,hS4,h4⟩:=hS3.frz b1;exact ⟨_,_,hS4,b1,b2,rfl,h4,h3.mono hz4⟩)
abbrev dq (a1 a2 a3 a4 a5 a6:Option Addr) (k1 k2 k3 k4 k5 k6:Nat) (c:aH):List Value:=[.slice a1 c.consts.length k1,.slice a2 c.tmpls.length k2,.slice a3 c.lists.length k3,.slice a4 c.labels.length k4,.slice a5 c.slots.length k5,.slice a6 c.ins.length k6]
theorem rQ {z:Z} {w:World} {L:Bl} {b1 b2:Nat} {yv:Value} {K:RP} {c:aH} {at_:Nat} {i:InsM} {a1 a2 a3 a4 a5 a6:Option Addr} {k1 k2 k3 k4 k5 k6:Nat} (hS:Res w z L w z L) (h6:SlR El.ins z (.slice a6 c.ins.length k6) c.ins)
  (g1:At z b1 0 (dq a1 a2 a3 a4 a5 a6 k1 k2 k3 k4 k5 k6 c)) (g2:At z b2 0 [.int .i64 (at_:Int)]) (hi:c.ins[at_]? = some i)
  (J:Nat->Z->Bl->Prop) (Jf:Z->Bl->Prop) (hm:∀ k z' z'' L',Le z' z''->J k z' L'->J k z'' L') (h0:J 0 z L)
  (body:∀ k x b,(dD c.ins.length at_ i)[k]? = some (x,b)->∀ z' w' G L' (K':RP),Le z z'->Res w z L w' z' (G ++ L')->J k z' L'->(∀ z'' w'' L'',Le z' z''->Res w z L w'' z'' (G ++ L'')->J (k + 1) z'' L''->K' (.bool true) w'')->(∀ z'' w'' L'',Le z' z''->Res w z L w'' z'' (G ++ L'')->Jf z'' L''->K' (.bool false) w'')->CV yv #[.int .i64 (x:Int),.bool b] w' K')
  (hend:∀ z' w' L',Le z z'->Res w z L w' z' L'->J (dD c.ins.length at_ i).length z' L'->K (.tuple #[]) w') (hstop:∀ z' w' L',Le z z'->Res w z L w' z' L'->Jf z' L'->K (.tuple #[]) w') :
  CE (.func (.func 173) #[] #[.pointer (some ⟨b1,0,none⟩),.pointer (some ⟨b2,0,none⟩)]) #[yv] w K:=by
 refine CN (args':=#[yv,.pointer (some ⟨b1,0,none⟩),.pointer (some ⟨b2,0,none⟩)]) (by simp) (en173 ?_);unfold vc173;have hlt:=(List.getElem?_eq_some_iff.1 hi).1;have hbig:=h6.big;haveI:=dJ hbig;haveI:InR (at_:Int) (c.ins.length:Nat):=⟨by omega,by omega⟩
 haveI:InI ((at_:Int) + 1):=⟨by simp only [big] at hbig; omega⟩
 haveI:Fz z b1 5 [.slice a6 c.ins.length k6]:=⟨g1.fld (i:=5) rfl rfl⟩
 haveI:Fz z b2 0 [.int .i64 (at_:Int)]:=⟨g2⟩
 obtain ⟨_,a,kk,he,_,hel⟩:=h6.form
 cases he
 obtain ⟨b,off,cs,rfl,rfl,hat⟩:=hel _ _ hi;(repeat (first | refine aA ?_ | refine aL ?_));refine kz (n:=4) (vs:=i.cells) hat rfl ?_;refine ak ?_;intro b3 w3 hb3 hS3;refine aF ?_;intro w4 hS4;refine ae ?_;refine aN ?_;intro z5 w5 hz5 hS5;refine aA ?_;refine aA ?_;refine ak ?_;intro b6 w6 hb6 hS6;refine aF ?_;intro w7 hS7;clear hS3 hS4 hS5 hS6;(repeat (first | refine aA ?_ | refine aE ?_ | (refine JGB ?_; intro _ _ _ _)));rename_i z8 w8 hz8 hS8;clear hS7;intro Ka hKa;have cont:∀ z' w' L',Le z8 z'->Res w z L w' z' ([(b6,.cells (aG i.op).cells.toArray 102 (0,0)),(b3,.cells i.cells.toArray 38 (0,0))] ++ L')->J (ey c.ins.length at_ i).length z' L'->Ka [.bool false] w':=by
  intro z' w' L' hz' hS9 hJ;refine hKa _ _ fun _=>?_
  clear hS8 hKa hS;simp only [cons_append,nil_append] at hS9;refine aj ?_;(repeat (first | refine aA ?_ | refine aE ?_ | (refine JC ?_; intro _ _ _ _) | (refine JGB ?_; intro _ _ _ _)));rename_i z10 w10 hz10 hS10;clear hS9;have hz10':Le z' z10:=by (repeat (first | assumption | refine Le.trans ?_ (by assumption:Le _ _)))
  have hz':=hz5.trans (hz8.trans (hz'.trans hz10'));have hjo:(bif bif bif decide (i.op = 23) then true else decide (i.op = 24) then true else decide (i.op = 30) then inB i.a 0 ((c.ins.length:Int) - 1) else false) = (cX i && inB i.a 0 ((c.ins.length:Int) - 1)):=by
   unfold cX; cases decide (i.op = 23) <;> cases decide (i.op = 24) <;> cases decide (i.op = 30) <;> rfl
  rw [hjo];refine aO (fun e=>?_) (fun e=>?_)
  ·have hin:inB i.a 0 ((c.ins.length:Int) - 1) = true:=by revert e; cases cX i <;> simp
   have hin':=inB_iff.1 hin;have hl2:jW c.ins.length i = [(i.a.toNat,true)]:=by rw [jW,if_pos e]
   (repeat (first | refine aA ?_ | refine aE ?_));have hb:=body (ey c.ins.length at_ i).length i.a.toNat true (by rw [dD,hl2,getElem?_append_right (Nat.le_refl _),Nat.sub_self]; rfl) _ _ [(b6,.cells (aG i.op).cells.toArray 102 (0,0)),(b3,.cells i.cells.toArray 38 (0,0))] L' (fun v w'=>K (.tuple #[]) w') hz' hS10 (hm _ _ _ _ hz10' hJ)
    (fun z'' w'' L'' hz'' hS'' hJ''=>hend z'' w'' L'' (hz'.trans hz'') ((hS''.sublist (sublist_append_right _ _))) (by rw [dD,hl2,length_append]; exact hJ''))
    (fun z'' w'' L'' hz'' hS'' hJ''=>hstop z'' w'' L'' (hz'.trans hz'') ((hS''.sublist (sublist_append_right _ _))) hJ'')
   rw [show ((i.a.toNat:Nat):Int) = i.a by omega] at hb;exact hb
  ·have hl2:jW c.ins.length i = []:=by rw [jW,if_neg (by rw [e]; simp)]
   exact hend z10 w10 L' hz' (hS10.sublist (sublist_append_right [_,_] _)) (by rw [dD,hl2,append_nil]; exact hm _ _ _ _ hz10' hJ)
 have hfi:(bif !(aG i.op).final then decide ((at_:Int) + 1 < (c.ins.length:Int)) else false) = (!(aG i.op).final && decide (at_ + 1 < c.ins.length)):=by
  rw [show decide ((at_:Int) + 1 < (c.ins.length:Int)) = decide (at_ + 1 < c.ins.length) from decide_eq_decide.2 (by omega)]
  cases (aG i.op).final <;> rfl
 rw [hfi];refine aO (fun e=>?_) (fun e=>?_)
 ·have hl1:ey c.ins.length at_ i = [(at_ + 1,false)]:=by rw [ey,if_pos e]
  (repeat (first | refine aA ?_ | refine aL ?_));have hb:=body 0 (at_ + 1) false (by rw [dD,hl1]; rfl) _ _ [(b6,.cells (aG i.op).cells.toArray 102 (0,0)),(b3,.cells i.cells.toArray 38 (0,0))] L (fun v w'=>V (un .not v) w' fun t33 w=>Ka [t33] w) (hz5.trans hz8) hS8 (hm _ _ _ _ (hz5.trans hz8) h0)
   (fun z'' w'' L'' hz'' hS'' hJ''=>by
    refine aA ?_;exact cont z'' w'' L'' hz'' hS'' (by rw [hl1]; exact hJ''))
   (fun z'' w'' L'' hz'' hS'' hJ''=>by
    refine aA ?_;refine hKa _ _ fun _=>ah ?_
    exact hstop z'' w'' L'' ((hz5.trans hz8).trans hz'') (hS''.sublist (sublist_append_right _ _)) hJ'')
  exact hb
 ·have hl1:ey c.ins.length at_ i = []:=by rw [ey,if_neg (by rw [e]; simp)]
  exact cont z8 w8 L (Le.refl _) hS8 (by rw [hl1]; exact hm _ _ _ _ (hz5.trans hz8) h0)
end
section
structure DpM where
 kn:List (Option DepM)
 open_:List Nat
def cB (d:DpM) (at_:Nat) (s:DepM):Bool × DpM:=match d.kn.getD at_ none with
 | some was=>(decide (was = s),d)
 | none=>(inB s.stack 0 200 && inB s.loops 0 40,⟨d.kn.set at_ (some s),d.open_ ++ [at_]⟩)
def KnR (l:List (Int × Value)) (kn:List (Option DepM)):Prop:=∀ n:Int,fD l n = if 0 <= n then (kn.getD n.toNat none).map DepM.v else none
theorem KnR.up {l:List (Int × Value)} {kn:List (Option DepM)} (h:KnR l kn) {at_:Nat} (ha:at_ < kn.length) {s:DepM}:KnR (upK l (at_:Int) s.v) (kn.set at_ (some s)):=fun n=>by
 rw [oc,h n]
 by_cases hn:n = (at_:Int)
 ·subst hn
  rw [if_pos rfl,if_pos (by omega),getD_eq_getElem?_getD,Int.toNat_natCast,getElem?_set_self ha]
  rfl
 ·rw [if_neg hn]
  by_cases h0:0 <= n
  ·rw [if_pos h0,if_pos h0,getD_eq_getElem?_getD,getD_eq_getElem?_getD,getElem?_set_ne (by omega)]
  ·rw [if_neg h0,if_neg h0]
def DpR (b5 b6:Nat) (B:Bl) (d:DpM):Prop:=∃ bm l v Bo,B = (b5,.cells [.map (some bm)].toArray 236 (0,0)) :: (bm,mK (Value.int .i64) l) :: (b6,.cells [v].toArray 45 (0,0)) :: Bo/\KnR l d.kn/\OwnSl 3 1 Bo v d.open_.length (du d.open_)
instance:jZ 238 (.agg [.int .i64 0,.int .i64 0].toArray):=⟨fun _=>by kernel_rfl⟩
theorem Cp {a b:DepM}:(decide (a.stack = b.stack) && (decide (a.loops = b.loops) && true)) = decide (a = b):=by
 cases a; cases b
 simp only [DepM.mk.injEq,Bool.and_true];rw [Bool.decide_and]
theorem xE {z:Z} {w:World} {b5 b6 at_:Nat} {s:DepM} {B:Bl} {d:DpM} (hd:DpR b5 b6 B d) (ha:at_ < d.kn.length) (ho:d.open_.length <= 20000) :
  Va (.func (.func 160) #[] #[.pointer (some ⟨b5,0,none⟩),.pointer (some ⟨b6,0,none⟩)]) #[.int .i64 (at_:Int),s.v] z B w fun _ B' r=>r = .bool (cB d at_ s).1/\DpR b5 b6 B' (cB d at_ s).2:=
 Fn.va (args':=#[.int .i64 (at_:Int),s.v,.pointer (some ⟨b5,0,none⟩),.pointer (some ⟨b6,0,none⟩)]) (Fn.intro fun hS=>en160 (by
  unfold vc160;obtain ⟨bm,l,v,Bo,rfl,hkn,hown⟩:=hd;obtain ⟨av,cv,rfl,_⟩:=hown.form;have hk:=hkn (at_:Int);rw [if_pos (by omega),Int.toNat_natCast] at hk;have hd':cB d at_ s = cB d at_ s:=rfl
  conv at hd'=>rhs; unfold cB
  (repeat (first | refine aE ?_ | (refine aP ?_; intro _ _ _ _)));refine wx (mk:=Value.int .i64) (zv:=.agg [.int .i64 0,.int .i64 0].toArray) ?_;rw [if_pos rfl,hk]
  cases h:d.kn.getD at_ none with
  | some was=>
   rw [h] at hd';simp only at hd';dsimp only [Option.map,Option.getD,Option.isSome];(repeat (first | refine aA ?_ | refine ae ?_ | (refine aP ?_; intro _ _ _ _) | (refine aF ?_; intro _ _) | refine ah ?_));rw [hd'];exact Ck [.at b5,.at bm,.at b6,.bl Bo] ⟨by rw [<- Cp],bm,l,_,Bo,by rw [append_nil],hkn,hown⟩
  | none=>
   rw [h] at hd';simp only at hd';dsimp only [Option.map,Option.getD,Option.isSome];(repeat (first | refine aA ?_ | refine aE ?_ | refine ae ?_ | (refine aP ?_; intro _ _ _ _) | (refine aF ?_; intro _ _) | refine aj ?_));refine jX (mk:=Value.int .i64) ?_;intro w2 hS2;(repeat (refine aE ?_));refine cb hS2 hown (by simp only [room]; omega) (by simp only [room]; omega) (by decide) ?_;intro B5 v5 w5 ho5 hS5;obtain ⟨a5,cap5,rfl,_⟩:=ho5.form;clear hS2 hS;(repeat (first | refine aA ?_ | refine aE ?_ | (refine aF ?_; intro _ _) | (refine JC ?_; intro _ _ _ _) | (refine aN ?_; intro _ _ _ _)));rw [hd'];refine Ck [.at b5,.at bm,.at b6,.bl B5] ⟨by cases inB s.stack 0 200 <;> rfl,bm,_,_,B5,by rw [append_nil],hkn.up ha,?_⟩;simp only [length_append,cP];exact ho5)) (by simp)
end
section
def DT:InsM:=⟨0,0,0,0⟩
def ca:List (Nat × DepM)->DpM->Option DpM
 | [],d=>some d
 | p :: l,d=>if (cB d p.1 p.2).1 then ca l (cB d p.1 p.2).2 else none
def aX (c:aH) (at_:Nat):InsM:=c.ins.getD at_ DT
def gu (kn:List (Option DepM)) (at_:Nat):DepM:=(kn.getD at_ none).getD ⟨0,0⟩
def pB (c:aH) (kn:List (Option DepM)) (at_:Nat):Bool:=
 !rg (aX c at_) (gu kn at_) || (decide ((gu kn at_).stack < (dX (aX c at_)).pops) || (decide ((aX c at_).op = 33) && decide ((gu kn at_).loops < (aX c at_).a)))
def iP (c:aH) (kn:List (Option DepM)) (at_:Nat):List (Nat × DepM):=(dD c.ins.length at_ (aX c at_)).map fun p=>(p.1,gV (aX c at_) (gu kn at_) p.2)
def pC (c:aH) (d:DpM) (at_:Nat):Option DpM:=if pB c d.kn at_ then none else ca (iP c d.kn at_) d
def qV (c:aH):Nat->DpM->Option (List (Option DepM))
 | 0,d=>some d.kn
 | f + 1,d=>match d.open_.getLast? with
  | none=>some d.kn
  | some at_=>match pC c ⟨d.kn,d.open_.dropLast⟩ at_ with
   | none=>none
   | some d'=>qV c f d'
def gC (c:aH):DpM:=⟨replicate c.ins.length none,[]⟩
def eC (c:aH):List (Nat × DepM):=(bP c).map fun n=>(n,⟨0,0⟩)
def bK (c:aH):Option (List (Option DepM)):=match ca (eC c) (gC c) with
 | none=>none
 | some d=>qV c (2 * c.ins.length + 1) d
structure lZ (n:Nat) (d:DpM):Prop where
 len:d.kn.length = n
 low:∀ a s,d.kn.getD a none = some s->Low s
 op:∀ a ∈ d.open_,a < n/\∃ s,d.kn.getD a none = some s
 size:d.open_.length + d.kn.count none <= n
def iQ (d:DpM):Nat:=d.open_.length + 2 * d.kn.count none
theorem yQ {α:Type} [BEq α] [LawfulBEq α] {l:List (Option α)} {k:Nat} {s:α} (hk:k < l.length) (h:l.getD k none = none):(l.set k (some s)).count none + 1 = l.count none:=by
 have h2:l[k] = none:=by rw [getD_eq_getElem?_getD,getElem?_eq_getElem hk] at h; exact h
 have hs:l = l.take k ++ none :: l.drop (k + 1):=by
  rw [<- h2,<- drop_eq_getElem_cons hk,take_append_drop]
 rw [set_eq_take_append_cons_drop,if_pos hk]
 conv=>rhs; rw [hs]
 simp [count_append,count_cons];omega
instance:BEq DepM:=instBEqOfDecidableEq
theorem mh {n:Nat} {d:DpM} {at_:Nat} {s:DepM} (h:lZ n d) (ha:at_ < n) (hc:(cB d at_ s).1 = true):lZ n (cB d at_ s).2/\iQ (cB d at_ s).2 <= iQ d/\∀ a u,d.kn.getD a none = some u->(cB d at_ s).2.kn.getD a none = some u:=by
 unfold cB at hc ⊢;have hl:=h.len
 cases hk:d.kn.getD at_ none with
 | some was=>exact ⟨h,Nat.le_refl _,fun a u hu=>hu⟩
 | none=>
  rw [hk] at hc;simp only [Bool.and_eq_true] at hc;have h1:=inB_iff.1 hc.1;have h2:=inB_iff.1 hc.2;have hcnt:=yQ (s:=s) (by omega:at_ < d.kn.length) hk;have hget:∀ a,(d.kn.set at_ (some s)).getD a none = if a = at_ then some s else d.kn.getD a none:=fun a=>by
   rw [getD_eq_getElem?_getD,getD_eq_getElem?_getD]
   by_cases e:a = at_
   ·subst e; rw [if_pos rfl,getElem?_set_self (by omega)]; rfl
   ·rw [if_neg e,getElem?_set_ne (fun x=>e x.symm)]
  refine ⟨⟨by simp [hl],fun a u hu=>?_,fun a hm=>?_,?_⟩,?_,fun a u hu=>?_⟩
  ·simp only [hget] at hu
   by_cases e:a = at_
   ·rw [if_pos e] at hu; cases hu; exact ⟨by omega⟩
   ·rw [if_neg e] at hu; exact h.low a u hu
  ·simp only [hget]
   rcases List.mem_append.1 hm with hm | hm
   ·obtain ⟨h3,u,h4⟩:=h.op a hm
    refine ⟨h3,?_⟩
    by_cases e:a = at_
    ·exact ⟨s,if_pos e⟩
    ·exact ⟨u,by rw [if_neg e]; exact h4⟩
   ·simp only [mem_singleton] at hm
    exact ⟨by omega,s,if_pos hm⟩
  ·have:=h.size
   simp only [length_append,length_singleton];omega
  ·unfold iQ
   simp only [length_append,length_singleton];omega
  ·simp only [hget]
   rw [if_neg (fun e=>by rw [e,hk] at hu; cases hu)];exact hu
theorem qE {n:Nat}:∀ {l:List (Nat × DepM)} {d d':DpM},lZ n d->(∀ p ∈ l,p.1 < n)->ca l d = some d'->lZ n d'/\iQ d' <= iQ d
 | [],d,d',h,_,hc=>by cases hc; exact ⟨h,Nat.le_refl _⟩
 | p :: l,d,d',h,hl,hc=>by
  unfold ca at hc
  by_cases e:(cB d p.1 p.2).1 = true
  ·rw [if_pos e] at hc
   obtain ⟨h1,h2,_⟩:=mh h (hl p mem_cons_self) e;obtain ⟨h3,h4⟩:=qE h1 (fun q hq=>hl q (mem_cons_of_mem _ hq)) hc;exact ⟨h3,Nat.le_trans h4 h2⟩
  ·rw [if_neg e] at hc; cases hc
theorem rR {n at_:Nat} {i:InsM}:∀ p ∈ dD n at_ i,p.1 < n:=by
 intro p hp;unfold dD ey jW at hp
 rcases List.mem_append.1 hp with hp | hp
 ·split at hp
  ·rename_i e; simp only [Bool.and_eq_true,decide_eq_true_eq] at e; simp at hp; subst hp; exact e.2
  ·cases hp
 ·split at hp
  ·rename_i e; simp only [Bool.and_eq_true] at e; have:=inB_iff.1 e.2; simp at hp; subst hp; simp only; omega
  ·cases hp
theorem gX {c:aH} (h:0 < c.ins.length):∀ a ∈ bP c,a < c.ins.length:=by
 intro a ha;unfold bP iL at ha
 rcases List.mem_cons.1 ha with rfl | ha
 ·exact h
 ·obtain ⟨s,hs,rfl⟩:=List.mem_map.1 ha
  have:=(List.mem_filter.1 hs).2;have:=inB_iff.1 this;omega
theorem ob {c:aH}:lZ c.ins.length (gC c):=by
 have hg:∀ a,(replicate c.ins.length (none:Option DepM)).getD a none = none:=fun a=>by
  rw [getD_eq_getElem?_getD,getElem?_replicate]; split <;> rfl
 refine ⟨by simp [gC],fun a s hs=>?_,fun a ha=>by simp [gC] at ha,by simp [gC]⟩;rw [gC,hg] at hs; cases hs
theorem zX {n:Nat} {kn:List (Option DepM)} {l:List Nat} {at_:Nat} (h:lZ n ⟨kn,l ++ [at_]⟩):lZ n ⟨kn,l⟩/\iQ ⟨kn,l⟩ + 1 = iQ ⟨kn,l ++ [at_]⟩/\at_ < n/\∃ s,kn.getD at_ none = some s/\Low s:=by
 have hop:=h.op at_ (by simp);obtain ⟨h1,s,h2⟩:=hop;refine ⟨⟨h.len,h.low,fun a ha=>h.op a (by simp [ha]),?_⟩,?_,h1,s,h2,h.low _ _ h2⟩
 ·have:=h.size; simp only [length_append,length_singleton] at this; simp only; omega
 ·unfold iQ; simp only [length_append,length_singleton]; omega
theorem wl {c:aH} {i:InsM} (h:bX c i = true):Db i:=⟨fun e=>by
 unfold bX at h;simp only [Bool.and_eq_true] at h;have hk:(aG i.op).k0 = 20:=by rw [e]; decide +kernel
 have h2:=h.2.1;rw [hk] at h2;have h3:bJ c 20 i.a = cW 20 i.a:=by simp [bJ]
 rw [h3] at h2;have:=ik (k:=20) (lo:=1) (hi:=40) rfl h2;omega⟩
end
section
def ay (o:Option DepM):Int:=match o with | some s=>s.stack | none=>-1
def az (o:Option DepM):Int:=match o with | some s=>s.loops | none=>-1
def rv (z:Z) (v:Value) (o:Option (List (Option DepM))):Prop:=match o with
 | none=>v = .tuple #[.slice none 0 0,.slice none 0 0,.bool false]
 | some kn=>∃ v1 v2,v = .tuple #[v1,v2,.bool true]/\SlR El.int z v1 (kn.map ay)/\SlR El.int z v2 (kn.map az)
abbrev oS (b2 b3 b4:Nat):Bl:=[(b4,.cells [.bool false].toArray 4 (0,0)),(b3,.cells [.slice none 0 0].toArray 45 (0,0)),(b2,.cells [.slice none 0 0].toArray 45 (0,0))]
theorem DpR.pop {b5 b6:Nat} {B:Bl} {kn:List (Option DepM)} {l:List Nat} {at_:Nat} (h:DpR b5 b6 B ⟨kn,l ++ [at_]⟩):∃ (bm:Nat) (m:List (Int × Value)) (bo cap:Nat) (C:List Value),B = [(b5,.cells [.map (some bm)].toArray 236 (0,0)),(bm,mK (Value.int .i64) m),(b6,.cells [.slice (some ⟨bo,0,none⟩) (l.length + 1) cap].toArray 45 (0,0)),(bo,.cells C.toArray 3 (0,0))] /\
  l.length + 1 <= cap/\C[l.length]? = some (.int .i64 (at_:Int))/\KnR m kn/\DpR b5 b6 [(b5,.cells [.map (some bm)].toArray 236 (0,0)),(bm,mK (Value.int .i64) m),(b6,.cells [.slice (some ⟨bo,0,none⟩) l.length cap].toArray 45 (0,0)),(bo,.cells C.toArray 3 (0,0))] ⟨kn,l⟩:=by
 obtain ⟨bm,m,v,Bo,rfl,hkn,ho⟩:=h;simp only [length_append,length_singleton,cP] at ho;obtain ⟨bo,cap,C,rfl,hc,rfl,hC,ho'⟩:=OwnSl.pop (u:=.int .i64 (at_:Int)) ho;exact ⟨bm,m,bo,cap,C.toList,rfl,hc,by simpa using hC,hkn,bm,m,_,_,rfl,hkn,ho'⟩
def gq (l:List Nat):List Int:=l.map fun n:Nat=>(n:Int)
theorem vz (l:List Nat):(gq l).flatMap (fun x=>[Value.int .i64 x]) = du l:=by
 induction l with
 | nil=>rfl
 | cons a l ih=>simp only [gq,map_cons,flatMap_cons,du] at ih ⊢; rw [ih]; rfl
theorem gj (l:List Nat):(gq l).length = l.length:=by simp [gq]
theorem lS {w0 w:World} {z0 z:Z} {B0 B L:Bl} {v:Value} {l:List Nat} (hS:Res w0 z0 B0 w z (B ++ L)) (ho:OwnSl 3 1 B v l.length (du l)) (hb:l.length <= big):∃ z',Le z z'/\Res w0 z0 B0 w z' L/\SlR El.int z' v (gq l):=
 Res.freezeSl (E:=El.int) (e:=3) (f:=fun x=>[Value.int .i64 x]) hS (by rw [gj,vz]; exact ho) (by rw [gj]; exact hb) (fun _=>rfl) (fun z x _=>rfl)
theorem cI {p:Nat × DepM} {l:List (Nat × DepM)} {d:DpM}:ca (p :: l) d = if (cB d p.1 p.2).1 then ca l (cB d p.1 p.2).2 else none:=rfl
theorem zr {n:Nat}:KnR [] (replicate n none):=fun m=>by
 rw [pz]
 split
 ·rw [getD_eq_getElem?_getD,getElem?_replicate]; split <;> rfl
 ·rfl
def eh (f:Option DepM->Int) (kn:List (Option DepM)) (k:Nat):List Value:=(kn.take k).map (fun o=>Value.int .i64 (f o)) ++ replicate (kn.length - k) (.int .i64 0)
theorem gx {f:Option DepM->Int} {kn:List (Option DepM)} {k:Nat} (h:k <= kn.length):(eh f kn k).length = kn.length:=by simp [eh]; omega
theorem jC {f:Option DepM->Int} {kn:List (Option DepM)}:eh f kn 0 = replicate kn.length (.int .i64 0):=by simp [eh]
theorem jD {f:Option DepM->Int} {kn:List (Option DepM)}:eh f kn kn.length = (kn.map f).flatMap fun x=>[Value.int .i64 x]:=by
 simp only [eh,take_length,Nat.sub_self,replicate_zero,append_nil]
 induction kn with
 | nil=>rfl
 | cons a l ih=>simp only [map_cons,flatMap_cons,ih]; rfl
theorem qL {f:Option DepM->Int} {kn:List (Option DepM)} {k:Nat} (h:k < kn.length):(eh f kn k).set k (.int .i64 (f (kn.getD k none))) = eh f kn (k + 1):=by
 unfold eh;have hl:((kn.take k).map (fun o=>Value.int .i64 (f o))).length = k:=by simp; omega
 rw [set_append_right _ _ (by omega),hl,Nat.sub_self,show kn.length - k = (kn.length - (k + 1)) + 1 by omega,replicate_succ,set_cons_zero,<- take_append_getElem h,map_append,getD_eq_getElem?_getD,getElem?_eq_getElem h,append_assoc]
 rfl
theorem oh {n:Nat}:((List.range (n * 1)).map fun i=>([Value.int .i64 0]:List Value)[i % ([Value.int .i64 0]:List Value).length]!) = replicate n (.int .i64 0):=by
 rw [Nat.mul_one];refine ext_getElem? fun j=>?_
 simp only [getElem?_map,getElem?_range,getElem?_replicate,length_singleton,Nat.mod_one]
 by_cases h:j < n
 ·simp [h]
 ·simp [h]
theorem rc {z:Z} {w:World} {v:Value} {c:aH} (hc:CodeR z v c) (hl:c.labels.length <= 3000) (hi0:0 < c.ins.length) (hi:c.ins.length <= 12000) (hr:∀ i ∈ c.ins,bX c i = true) :
  Fn1 50 #[v] z w fun z' r=>rv z' r (bK c):=Fn1.intro fun hS=>en50 (by
 unfold vc50;obtain ⟨a1,a2,a3,a4,a5,a6,k1,k2,k3,k4,k5,k6,rfl,h1,h2,h3,h4,h5,h6⟩:=hc.form;have hR:∀ z' w' L' r,Res w z [] w' z' L'->rv z' r (bK c)->∃ z'' L'',Res w z [] w' z'' L''/\rv z'' r (bK c):=fun z' w' L' r h1 h2=>⟨z',L',h1,h2⟩
 generalize hRR:(fun (v:Value) (w':World)=>∃ z' L',Res w z [] w' z' L'/\rv z' v (bK c)) = RR;have hR:∀ z' w' L' r,Res w z [] w' z' L'->rv z' r (bK c)->RR r w':=fun z' w' L' r h1 h2=>by rw [<- hRR]; exact ⟨z',L',h1,h2⟩
 clear hRR;refine aP ?_;intro bc w1 hbc hS1;refine ak ?_;intro b2 w2 hb2 hS2;refine ak ?_;intro b3 w3 hb3 hS3;refine ak ?_;intro b4 w4 hb4 hS4;refine pk (mk:=Value.int .i64) ?_;intro bm w5 hbm hS5;refine ak ?_;intro b5 w6 hb5 hS6;refine aF ?_;intro w7 hS7;refine ak ?_;intro b6 w8 hb6 hS8;refine ak ?_;intro b7 w9 hb7 hS9;refine aF ?_;intro w10 hS10;clear hS1 hS2 hS3 hS4 hS5 hS6 hS7 hS8 hS9;obtain ⟨z11,hz11,hS11,hat7⟩:=hS10.frz b7;obtain ⟨z12,hz12,hS12,hatc⟩:=hS11.frz bc;have hat7:=hat7.mono hz12;have hz:=hz11.trans hz12;clear hS10 hS11 hz11 hz12 hS;have hS13:=hS12.keep [.at b5,.at bm,.at b6,.at b4,.at b3,.at b2];clear hS12;obtain ⟨hS14,_⟩:=hS13.rebase (v:=undef) (R:=fun _ _=>True) (fun _ _ _ _=>trivial);have hR2:∀ z' w' L' r,Res w10 z12 [(b5,.cells [.map (some bm)].toArray 236 (0,0)),(bm,mK (Value.int .i64) []),(b6,.cells [.slice none 0 0].toArray 45 (0,0)),(b4,.cells [.bool false].toArray 4 (0,0)),(b3,.cells [.slice none 0 0].toArray 45 (0,0)),(b2,.cells [.slice none 0 0].toArray 45 (0,0))] w' z' L'->rv z' r (bK c)->RR r w':=fun z' w' L' r k hd=>by
  have hS':Res w z [] w10 z12 ([(b5,.cells [.map (some bm)].toArray 236 (0,0)),(bm,mK (Value.int .i64) []),(b6,.cells [.slice none 0 0].toArray 45 (0,0)),(b4,.cells [.bool false].toArray 4 (0,0)),(b3,.cells [.slice none 0 0].toArray 45 (0,0)),(b2,.cells [.slice none 0 0].toArray 45 (0,0))] ++ []):=hS13;exact hR _ _ _ _ (hS'.step k) hd
 clear hS13 hR;generalize hB00:[(b5,Obj.cells [Value.map (some bm)].toArray 236 (0,0)),(bm,mK (Value.int .i64) []),(b6,.cells [.slice none 0 0].toArray 45 (0,0)),(b4,.cells [.bool false].toArray 4 (0,0)),(b3,.cells [.slice none 0 0].toArray 45 (0,0)),(b2,.cells [.slice none 0 0].toArray 45 (0,0))] = B00 at *;have hS15:Res w10 z12 B00 w10 z12 ([(b5,Obj.cells [Value.map (some bm)].toArray 236 (0,0)),(bm,mK (Value.int .i64) []),(b6,.cells [.slice none 0 0].toArray 45 (0,0))] ++ oS b2 b3 b4):=by rw [<- hB00] at hS14 ⊢; exact hS14
 clear hS14 hB00;haveI:Fz z12 bc 0 (dq a1 a2 a3 a4 a5 a6 k1 k2 k3 k4 k5 k6 c):=⟨hatc⟩
 haveI:Fz z12 bc 5 [.slice a6 c.ins.length k6]:=⟨hatc.fld (i:=5) rfl rfl⟩
 haveI:Fz z12 b7 0 [.func (.func 160) #[] #[.pointer (some ⟨b5,0,none⟩),.pointer (some ⟨b6,0,none⟩)]]:=⟨hat7⟩
 refine bV ?_;refine qT (fun hle=>tZ ((hc.mono hz).mono hle) hl) ?_;rintro z16 B16 w16 v16 hz16 hS16 ho16
 have hrl:(bP c).length <= 3001:=Nat.le_trans kT (by omega);obtain ⟨z17,hz17,hS17,hv17⟩:=lS hS16 ho16 (by simp only [big]; omega);clear hS16 ho16 hS15;have hz17:=hz16.trans hz17;obtain ⟨_,ar,kr,rfl,_,hel⟩:=hv17.form;rw [gj];(repeat (refine aA ?_));have hdl:(eC c).length = (bP c).length:=by simp [eC]
 refine cC (fun (p:Nat × DpM) x w'=>x = .int .i64 p.1/\p.1 <= (bP c).length/\ca (eC c) (gC c) = ca ((eC c).drop p.1) p.2/\lZ c.ins.length p.2/\∃ B' z',Le z17 z'/\DpR b5 b6 B' p.2/\Res w10 z12 B00 w' z' (B' ++ oS b2 b3 b4)) (fun p=>(bP c).length - p.1) (0,gC c)
  ⟨rfl,by omega,rfl,ob,_,_,Le.refl _,⟨bm,[],_,[],rfl,zr,OwnSl.nil⟩,hS17⟩ ?_
 rintro I M ⟨k,d⟩ x w18 m ⟨rfl,hk,hcm,hinv,B18,z18,hz18,hD,hS18⟩ back
 simp only at hk hcm hinv hD;clear hS17;(repeat (refine aA ?_));refine aC (fun h=>?_) (fun h=>?_)
 ·have hlt:k < (bP c).length:=by omega
  have hlt2:k < (eC c).length:=by omega
  haveI:InR (k:Int) ((bP c).length:Nat):=⟨by omega,by omega⟩
  haveI:InI ((k:Int) + 1):=⟨by omega⟩
  obtain ⟨b,off,cs,rfl,rfl,hat⟩:=hel k (((bP c)[k]:Nat):Int) (by simp [gq,getElem?_eq_getElem hlt]);(repeat (refine aA ?_));refine bL (hat.mono hz18) ?_;(repeat (first | refine aA ?_ | refine aL ?_));have hroot:=gX hi0 _ (getElem_mem hlt);have hsz:=hinv.size;refine oQ (B:=B18) (F:=oS b2 b3 b4) hS18 (xE (s:=⟨0,0⟩) hD (by rw [hinv.len]; exact hroot) (by omega)) ?_;rintro z19 B19 w19 v19 hz19 hS19 ⟨rfl,hD19⟩
  rw [drop_eq_getElem_cons hlt2,show (eC c)[k] = ((bP c)[k],⟨0,0⟩) by simp [eC]] at hcm;rw [cI] at hcm;simp only at hcm;clear hS18;(repeat (refine aA ?_));refine aU (fun e=>?_) (fun e=>?_)
  ·(repeat (first | (refine aF ?_; intro _ _) | refine aW ?_))
   rename_i hS20;refine hR2 _ _ _ _ hS20 ?_;rw [bK,hcm,e]; rfl
  ·(repeat (refine aA ?_))
   obtain ⟨h20,_,_⟩:=mh hinv hroot e;refine back (k + 1,_) _ _ ⟨by simp,by simp only; omega,by rw [hcm,if_pos e],h20,B19,z19,hz18.trans hz19,hD19,hS19⟩ (by simp only; omega)
 ·have hk2:k = (bP c).length:=by omega
  rw [drop_of_length_le (by omega)] at hcm;have hcm2:ca (eC c) (gC c) = some d:=hcm;obtain ⟨hid,hmd⟩:=qE ob (fun p hp=>by
   obtain ⟨a,ha,rfl⟩:=List.mem_map.1 hp;exact gX hi0 _ ha) hcm2
  have hm0:iQ (gC c) = 2 * c.ins.length:=by simp [iQ,gC]
  clear hcm back hv17 hel;refine cC (fun (p:Nat × DpM × List Nat) x w'=>dV x = p.2.2/\bK c = qV c p.1 p.2.1/\iQ p.2.1 < p.1/\lZ c.ins.length p.2.1/\∃ B' z',Le z17 z'/\DpR b5 b6 B' p.2.1/\Res w10 z12 B00 w' z' (B' ++ (bQ p.2.2 ++ oS b2 b3 b4))) (fun p=>p.1) (2 * c.ins.length + 1,d,[])
   ⟨rfl,by rw [bK,hcm2],by simp only; omega,hid,B18,z18,hz18,hD,hS18⟩ ?_
  clear hS18 hcm2 hid hmd hD hinv h hz18;rintro I1 M1 ⟨f,d1,rs⟩ x w20 m1 ⟨hmx,hrun,hmea,hinv,B20,z20,hz20,hD,hS20⟩ back
  simp only at hmx hrun hmea hinv hD hS20;obtain ⟨kn,op⟩:=d1;have hf:f = (f - 1) + 1:=by omega
  rcases eq_nil_or_concat op with rfl | ⟨l,at_,rfl⟩
  ·obtain ⟨bm,mm_,v,Bo,rfl,hkn,ho⟩:=hD
   obtain ⟨av,cv,rfl,_⟩:=ho.form;simp only [cons_append,nil_append] at hS20;simp only at hkn hinv;have hlen:kn.length = c.ins.length:=hinv.len;(repeat (first | refine aA ?_ | refine aE ?_ | refine aj ?_));intro Ka hKa;have main:∀ b18 b19 w22 z22,Le z20 z22->Res w10 z12 B00 w22 z22 ((b18,.cells (eh ay kn 0).toArray 3 (0,0)) :: (b19,.cells (eh az kn 0).toArray 3 (0,0)) :: (b5,.cells [.map (some bm)].toArray 236 (0,0)) :: (bm,mK (Value.int .i64) mm_) :: (b6,.cells [.slice av 0 cv].toArray 45 (0,0)) :: (Bo ++ (bQ rs ++ oS b2 b3 b4)))->Ka [.slice (some ⟨b18,0,none⟩) c.ins.length c.ins.length,.slice (some ⟨b19,0,none⟩) c.ins.length c.ins.length] w22:=by
    intro b18 b19 w22 z22 hz22 hS22;refine hKa _ _ _ fun _=>?_
    clear hKa hS20;(repeat (first | refine aA ?_ | refine aL ?_));refine cC (fun (k:Nat) y w'=>y = .int .i64 k/\k <= c.ins.length/\∃ z',Le z20 z'/\Res w10 z12 B00 w' z' ((b18,.cells (eh ay kn k).toArray 3 (0,0)) :: (b19,.cells (eh az kn k).toArray 3 (0,0)) :: (b5,.cells [.map (some bm)].toArray 236 (0,0)) :: (bm,mK (Value.int .i64) mm_) :: (b6,.cells [.slice av 0 cv].toArray 45 (0,0)) :: (Bo ++ (bQ rs ++ oS b2 b3 b4)))) (fun k=>c.ins.length - k) 0 ⟨rfl,by omega,z22,hz22,hS22⟩ ?_;rintro I2 M2 k y w23 m2 ⟨rfl,hk,z23,hz23,hS23⟩ back2
    clear hS22;(repeat (refine aA ?_));refine aC (fun h=>?_) (fun h=>?_)
    ·have hlt:k < c.ins.length:=by omega
     haveI:InR (k:Int) (c.ins.length:Nat):=⟨by omega,by omega⟩
     haveI:InI ((k:Int) + 1):=⟨by omega⟩
     have e1:(k:Int).toNat * 1 = k:=by omega
     have hs1:=fun f u=>SetN.at_ (l:=eh f kn k) (k:=k) (u:=u) (by rw [gx (by omega)]; omega)
     haveI:SetN (eh ay kn k) ((k:Int).toNat * 1) [.int .i64 (-1)] ((eh ay kn k).set k (.int .i64 (-1))):=by rw [e1]; exact hs1 _ _
     haveI:SetN (eh az kn k) ((k:Int).toNat * 1) [.int .i64 (-1)] ((eh az kn k).set k (.int .i64 (-1))):=by rw [e1]; exact hs1 _ _
     (repeat (first | refine aA ?_ | refine aE ?_ | (refine aF ?_; intro _ _) | (refine J0 ?_; intro _ _)));refine wx (mk:=Value.int .i64) (zv:=.agg [.int .i64 0,.int .i64 0].toArray) ?_;rw [if_pos rfl,hkn (k:Int),if_pos (by omega),Int.toNat_natCast];have hst:=qL (f:=ay) (kn:=kn) (k:=k) (by omega);have hlt':=qL (f:=az) (kn:=kn) (k:=k) (by omega)
     cases hg:kn.getD k none with
     | none=>
      rw [hg] at hst hlt';simp only [ay,az] at hst hlt';dsimp only [Option.map,Option.getD,Option.isSome];(repeat (first | refine aA ?_ | (refine aP ?_; intro _ _ _ _) | (refine aF ?_; intro _ _) | refine aj ?_ | refine K0 ?_));rename_i hSe;rw [hst,hlt'] at hSe;refine back2 (k + 1) _ _ ⟨by simp,by omega,_,hz23,hSe.sublist (sublist_cons_self _ _)⟩ (by omega)
     | some s=>
      rw [hg] at hst hlt';simp only [ay,az] at hst hlt';dsimp only [Option.map,Option.getD,Option.isSome];have hs2:=fun f (u u':Value)=>SetN.at_ (l:=(eh f kn k).set k u) (k:=k) (u:=u') (by rw [length_set,gx (by omega)]; omega)
      haveI:SetN ((eh ay kn k).set k (.int .i64 (-1))) ((k:Int).toNat * 1) [.int .i64 s.stack] (eh ay kn (k + 1)):=by have h9:=hs2 ay (.int .i64 (-1)) (.int .i64 s.stack); rw [set_set,hst] at h9; rw [e1]; exact h9
      haveI:SetN ((eh az kn k).set k (.int .i64 (-1))) ((k:Int).toNat * 1) [.int .i64 s.loops] (eh az kn (k + 1)):=by have h9:=hs2 az (.int .i64 (-1)) (.int .i64 s.loops); rw [set_set,hlt'] at h9; rw [e1]; exact h9
      (repeat (first | (refine iDr ?_; intro _ _) | refine aA ?_ | refine aK ?_ | (refine aP ?_; intro _ _ _ _) | (refine aF ?_; intro _ _) | refine aW ?_ | refine bN ?_ | refine ah ?_ | refine K0 ?_));rename_i hSe;refine back2 (k + 1) _ _ ⟨by simp,by omega,_,hz23,hSe.sublist (sublist_cons_self _ _)⟩ (by omega)
    ·have hkn2:k = kn.length:=by omega
     subst hkn2;rw [jD,jD] at hS23;(repeat (refine aF ?_; intro _ _));rename_i w24 hS24;rw [hmx];refine nQ rs (hS24.bring (bQ rs)) ?_;intro w25 hS25;(repeat (refine aW ?_));have hS26:=hS25.bringB b18;obtain ⟨z27,hz27,hS27,hv1⟩:=Res.freezeSl (E:=El.int) (e:=3) (B:=[(b18,_)]) (v:=.slice (some ⟨b18,0,none⟩) (kn.map ay).length kn.length) (xs:=kn.map ay) (f:=fun x=>[Value.int .i64 x]) hS26 ⟨by rw [<- jD,gx (Nat.le_refl _),length_map]; exact (Nat.mul_one _).symm,.inr ⟨b18,kn.length,[],by rw [append_nil],rfl,by simp,by simp only [maxLen]; omega,by rw [append_nil,<- jD,gx (Nat.le_refl _)]; exact (Nat.mul_one _).symm⟩⟩ (by simp only [length_map,big]; omega) (fun _=>rfl) (fun z x _=>rfl);have hS28:=hS27.bringB b19;obtain ⟨z29,hz29,hS29,hv2⟩:=Res.freezeSl (E:=El.int) (e:=3) (B:=[(b19,_)]) (v:=.slice (some ⟨b19,0,none⟩) (kn.map az).length kn.length) (xs:=kn.map az) (f:=fun x=>[Value.int .i64 x]) hS28 ⟨by rw [<- jD,gx (Nat.le_refl _),length_map]; exact (Nat.mul_one _).symm,.inr ⟨b19,kn.length,[],by rw [append_nil],rfl,by simp,by simp only [maxLen]; omega,by rw [append_nil,<- jD,gx (Nat.le_refl _)]; exact (Nat.mul_one _).symm⟩⟩ (by simp only [length_map,big]; omega) (fun _=>rfl) (fun z x _=>rfl);rw [length_map,hlen] at hv1 hv2;refine hR2 _ _ _ _ hS29 ?_;rw [hrun,hf];exact ⟨_,_,rfl,hv1.mono hz29,hv2⟩
   clear hKa;have hms:∀ (w':World) (L':Bl) (K:RP),Res w10 z12 B00 w' z20 L'->(∀ b w'',Res w10 z12 B00 w'' z20 ((b,.cells (replicate kn.length (.int .i64 0)).toArray 3 (0,0)) :: L')->K (.slice (some ⟨b,0,none⟩) c.ins.length c.ins.length) w'')->V (ms 45 (.int .i64 (c.ins.length:Int)) (.int .i64 (c.ins.length:Int))) w' K:=by
    intro w' L' K hSx hk;refine uR (by omega) (by omega) ?_;intro b w'' _ hSy;rw [oh,<- hlen] at hSy;exact hk b w'' hSy
   (repeat (first | (refine iDr ?_; intro _ _) | refine aK ?_ | refine bz ?_));refine ⟨?_,?_⟩
   ·refine hms _ _ _ ‹_› ?_
    intro b18 w23 hS23;(repeat (refine cZ ?_));refine hms _ _ _ hS23 ?_;intro b19 w24 hS24;(repeat (refine cZ ?_));exact main b18 b19 _ _ (Le.refl _) (by rw [jC,jC]; exact hS24.perm (.swap _ _ _))
   ·refine hms _ _ _ ‹_› ?_
    intro b19 w23 hS23;(repeat (refine cZ ?_));refine hms _ _ _ hS23 ?_;intro b18 w24 hS24;(repeat (refine cZ ?_));exact main b18 b19 _ _ (Le.refl _) (by rw [jC,jC]; exact hS24)
  ·rw [concat_eq_append] at *
   obtain ⟨bm,mm_,bo,cap,C,rfl,hcap,hC,hkn,hD2⟩:=hD.pop;obtain ⟨hip,hmp,hlt,s,hks,hlow⟩:=zX hinv;simp only [cons_append,nil_append] at hS20;have e0:((l.length + 1:Nat):Int) - 1 = (l.length:Int):=by omega
   have hsz:=hinv.size;simp only [length_append,length_singleton] at hsz;haveI:InI (((l.length + 1:Nat):Int) - 1):=⟨by omega⟩
   haveI:InR (l.length:Int) ((l.length + 1:Nat):Int):=⟨by omega,by omega⟩
   haveI:InR (l.length:Int) ((cap:Int) + 1):=⟨by omega,by omega⟩
   haveI:Get C ((l.length:Int).toNat * 1) (.int .i64 (at_:Int)):=⟨by simpa using hC⟩
   (repeat (first | refine aA ?_ | refine aE ?_));refine aC (fun _=>?_) (fun hn=>absurd hn (by omega));(repeat (first | refine aA ?_ | refine aE ?_));simp only [e0];(repeat (first | refine aA ?_ | refine aE ?_));simp only [e0];(repeat (first | refine aA ?_ | (refine aF ?_; intro _ _)));rename_i w21 hS21;simp only [Int.toNat_natCast] at hS21;clear hS20;intro Ka hKa;have hi2:c.ins[at_]? = some (aX c at_):=by rw [aX,getD_eq_getElem?_getD,getElem?_eq_getElem hlt]; rfl
   have hs2:gu kn at_ = s:=by unfold gu; rw [hks]; rfl
   obtain ⟨_,ai,ki,he,_,heli⟩:=h6.form
   cases he
   obtain ⟨be,offe,cse,rfl,rfl,hate⟩:=heli _ _ hi2;have hgk:rr mm_ (at_:Int) (.agg [.int .i64 0,.int .i64 0].toArray) s.v:=⟨by rw [hkn (at_:Int),if_pos (by omega),Int.toNat_natCast,hks]; rfl⟩
   generalize hii:aX c at_ = i at *;have main:∀ b11 b12 w22 z22,Le z20 z22->Res w10 z12 B00 w22 z22 ((b11,.cells i.cells.toArray 38 (0,0)) :: (b12,.cells s.cells.toArray 238 (0,0)) :: (b5,.cells [.map (some bm)].toArray 236 (0,0)) :: (bm,mK (Value.int .i64) mm_) :: (b6,.cells [.slice (some ⟨bo,0,none⟩) l.length cap].toArray 45 (0,0)) :: (bo,.cells C.toArray 3 (0,0)) :: (bQ rs ++ oS b2 b3 b4))->Ka [.pointer (some ⟨b11,0,none⟩),.pointer (some ⟨b12,0,none⟩)] w22:=by
    intro b11 b12 w22 z22 hz22 hS22;refine hKa _ _ _ fun _=>?_
    clear hKa hS21;(repeat (first | refine aA ?_ | refine ae ?_ | (refine JC ?_; intro _ _ _ _) | (refine aN ?_; intro _ _ _ _)));rename_i z23 w23 hz23 hS23;have hz23':Le z20 z23:=by (repeat (first | assumption | refine Le.trans ?_ (by assumption:Le _ _)))
    clear hS22 hz22 hz23;have hst:(bif bif !rg i s then true else decide (s.stack < (dX i).pops) then true else bif decide (i.op = 33) then decide (s.loops < i.a) else false) = pB c kn at_:=by
     rw [pB,hii,hs2]; cases rg i s <;> cases decide (s.stack < (dX i).pops) <;> cases decide (i.op = 33) <;> rfl
    have hrun2:qV c f ⟨kn,l ++ [at_]⟩ = match pC c ⟨kn,l⟩ at_ with | none=>none | some d'=>qV c (f - 1) d':=by
     rw [hf];simp only [qV,getLast?_concat,dropLast_concat]
     rfl
    rw [hst];refine aO (fun e=>?_) (fun e=>?_)
    ·have hnone:bK c = none:=by rw [hrun,hrun2,pC,if_pos e]
     (repeat (refine aF ?_; intro _ _));rename_i w24 hS24;rw [hmx];refine nQ rs (hS24.bring (bQ rs)) ?_;intro w25 hS25;(repeat (refine aW ?_));exact hR2 _ _ _ _ hS25 (by rw [hnone]; rfl)
    ·have hstep:pC c ⟨kn,l⟩ at_ = ca (iP c kn at_) ⟨kn,l⟩:=by rw [pC,if_neg (by rw [e]; simp)]
     (repeat (refine bV ?_));refine ap uJ ?_;rintro z24 w24 v24 hz24 hS24 ⟨bl1,bl2,rfl,hbl1,hbl2⟩
     clear hS23;intro lp r0 l0 w26 hnew hyp;have hS26:=hS24.rf hnew;clear hS24 hnew;have hO:=hS26.self;have hzz:=hz.trans (hz17.trans (hz20.trans (hz23'.trans hz24)));have hz12':Le z12 z24:=hz17.trans (hz20.trans (hz23'.trans hz24));haveI:Fz z24 b7 0 [.func (.func 160) #[] #[.pointer (some ⟨b5,0,none⟩),.pointer (some ⟨b6,0,none⟩)]]:=⟨hat7.mono hz12'⟩
     refine rQ (i:=i) hO (h6.mono hzz) hbl1 hbl2 hi2
      (fun k z' L'=>∃ d' B',ca (iP c kn at_) ⟨kn,l⟩ = ca ((iP c kn at_).drop k) d'/\lZ c.ins.length d'/\iQ d' <= iQ ⟨kn,l⟩/\DpR b5 b6 B' d'/\L' = (l0,dC lp .ready none) :: (r0,.deferred (some [])) :: (b11,.cells i.cells.toArray 38 (0,0)) :: (b12,.cells s.cells.toArray 238 (0,0)) :: (B' ++ (bQ rs ++ oS b2 b3 b4)))
      (fun z' L'=>ca (iP c kn at_) ⟨kn,l⟩ = none/\∃ B',L' = (l0,dC lp .done (some .ret)) :: (r0,.deferred (some [])) :: (b11,.cells i.cells.toArray 38 (0,0)) :: (b12,.cells s.cells.toArray 238 (0,0)) :: (B' ++ (bQ rs ++ oS b2 b3 b4)))
      (fun _ _ _ _ _ h=>h) ⟨⟨kn,l⟩,_,rfl,hip,Nat.le_refl _,hD2,rfl⟩ ?_ ?_ ?_
     ·rintro k x b hk z27 w27 G _ K' hz27 hS27 ⟨d',B',hcm,hinv',hmea',hD',rfl⟩ back' fail'
      have hk2:(iP c kn at_)[k]? = some (x,gV i s b):=by rw [iP,hii,hs2,getElem?_map,hk]; rfl
      have hkl:=(List.getElem?_eq_some_iff.1 hk2).1;have hxlt:x < c.ins.length:=rR (x,b) (mem_of_getElem? hk);rw [drop_eq_getElem_cons hkl,(List.getElem?_eq_some_iff.1 hk2).2,cI] at hcm;refine hyp _ _ _ _ ?_ (Res.at_ (b:=l0) hS27);refine su ?_;intro w28 hS28;clear hS27;(repeat (first | (refine iDr ?_; intro _ _) | refine aq ?_ | refine bz ?_));refine ap (yX (wl (hr i (mem_of_getElem? hi2))) hlow) ?_;rintro z29 w29 v29 hz29 hS29 rfl
      (repeat (refine cZ ?_));have hsz':=hinv'.size;refine oQ (B:=B') (hS29.bring B') (xE (s:=gV i s b) hD' (by rw [hinv'.len]; exact hxlt) (by omega)) ?_;rintro z30 B30 w30 v30 hz30 hS30 ⟨rfl,hD30⟩
      clear hS29 hS28;(repeat (refine aK ?_));refine aU (fun e2=>?_) (fun e2=>?_)
      ·(repeat (refine aF ?_; intro _ _))
       refine uT (st:=.busy) (pend:=none) ?_;intro w31 hS31;refine fail' _ _ _ ?_ (hS31.perm (pQ _ _ [_,_,_,_] _)) ⟨?_,B30,rfl⟩
       ·(repeat (first | assumption | refine Le.trans ?_ (by assumption:Le _ _)))
       ·rw [hcm,e2]; rfl
      ·refine uT (st:=.busy) (pend:=none) ?_
       intro w31 hS31;have hci:=mh hinv' hxlt e2;refine back' _ _ _ ?_ (hS31.perm (pQ _ _ [_,_,_,_] _)) ⟨_,B30,?_,hci.1,Nat.le_trans hci.2.1 hmea',hD30,rfl⟩
       ·(repeat (first | assumption | refine Le.trans ?_ (by assumption:Le _ _)))
       ·rw [hcm,if_pos e2]
     ·rintro z27 w27 _ hz27 hS27 ⟨d',B',hcm,hinv',hmea',hD',rfl⟩
      refine pw (st:=.ready) (by intro h; cases h) ?_;intro w28 hS28;rw [drop_of_length_le (by simp [iP,hii])] at hcm;have hcm2:ca (iP c kn at_) ⟨kn,l⟩ = some d':=hcm;refine back (f - 1,d',r0 :: rs) _ _ ⟨by rw [ew,hmx],?_,by simp only; omega,hinv',B',z27,?_,hD',?_⟩ (by simp only; omega)
      ·rw [hrun,hrun2,hstep,hcm2]
      ·exact hz20.trans (hz23'.trans (hz24.trans hz27))
      ·exact (hS26.comp hS28).keep [.bl B',.at r0,.bl (bQ rs),.bl (oS b2 b3 b4)]
     ·rintro z27 w27 _ hz27 hS27 ⟨hcm,B',rfl⟩
      refine pw (st:=.done) (pend:=some .ret) (by intro h; cases h) ?_;intro w28 hS28;dsimp only [uL];rw [ew,hmx];refine nQ (r0 :: rs) (L:=oS b2 b3 b4) (hS28.keep [.at r0,.bl (bQ rs),.bl (oS b2 b3 b4)]) ?_;intro w29 hS29;(repeat (refine aW ?_));exact hR2 _ _ _ _ (hS26.comp hS29) (by rw [hrun,hrun2,hstep,hcm]; rfl)
   haveI:Fz z12 be (offe + (at_:Int).toNat * 4) i.cells:=⟨hate.mono hz⟩
   haveI:InR (at_:Int) (c.ins.length:Nat):=⟨by omega,by omega⟩
   clear hKa;(repeat (first | (refine iDr ?_; intro _ _) | refine aK ?_ | refine aW ?_ | refine BV ?_ | refine jO ?_ | refine bz ?_));refine ⟨?_,?_⟩
   ·(repeat (first | (refine aP ?_; intro _ _ _ _) | (refine aF ?_; intro _ _) | refine bN ?_ | refine cZ ?_ | refine CK ?_ | refine xB ?_))
    rename_i hSe;exact main _ _ _ _ (Le.refl _) (hSe.perm (.swap _ _ _))
   ·(repeat (first | (refine aP ?_; intro _ _ _ _) | (refine aF ?_; intro _ _) | refine bN ?_ | refine cZ ?_ | refine CK ?_ | refine xB ?_))
    rename_i hSe;exact main _ _ _ _ (Le.refl _) hSe)
end
section
instance {z:Z} {v:Value} {c:aH} [hc:fQ z v c]:PuZ z 46 #[v] (.bool (bH c)):=⟨fun z' w hz=>xv (hc.h.mono hz)⟩
instance {z:Z} {v:Value} {c:aH} [hc:fQ z v c]:PuZ z 47 #[v] (.bool (dR c)):=⟨fun z' w hz=>zZ (hc.h.mono hz)⟩
def iX (c:aH):Int:=eo (fun i=>!bX c i) c.ins
def gA (c:aH):InsM:=aX c (c.ins.length - 1)
def ag (c:aH):Int × Int:=
 if bH c = false then (3,0) else if dR c = false then (1,0) else if 0 <= iX c then (1,iX c) else if (aG (gA c).op).final = false then (2,(c.ins.length:Int) - 1)
 else match bK c with | none=>(12,0) | some _=>(0,0)
abbrev ckV (p:Int × Int):Value:=.tuple #[.int .i64 p.1,.int .i64 p.2]
theorem dW {c:aH} (h:bH c = true):c.consts.length <= 3000/\c.tmpls.length <= 3000/\c.lists.length <= 3000/\c.labels.length <= 3000/\c.slots.length <= 100/\c.ins.length <= 12000:=by
 unfold bH at h;simp only [Bool.and_eq_true] at h;have h1:=h.1;simp only [dM,all_cons,all_nil,Bool.and_eq_true,decide_eq_true_eq] at h1;omega
theorem im {c:aH} (h:dR c = true):0 < c.ins.length:=by
 unfold dR at h;simp only [Bool.and_eq_true,Bool.not_eq_true',decide_eq_false_iff_not] at h;omega
theorem mj {z:Z} {w:World} {v:Value} {c:aH} (hc:CodeR z v c):Fn1 15 #[v] z w fun _ r=>r = ckV (ag c):=fnA en15 (by
 intro hS R hR;unfold vc15;obtain ⟨a1,a2,a3,a4,a5,a6,k1,k2,k3,k4,k5,k6,rfl,h1,h2,h3,h4,h5,h6⟩:=hc.form;haveI:fQ z _ c:=⟨hc⟩
 have hbig:=h6.big;refine aP ?_;intro bc w1 hbc hS1;clear hS;(repeat (first | refine aA ?_ | refine ae ?_ | (refine cE ?_; intro _ _ _ _)));refine aU (fun e1=>?_) (fun e1=>?_)
 ·exact cF hR (by rw [ag,if_pos e1])
 have n1:¬ bH c = false:=by rw [e1]; simp
 (repeat (first | refine aA ?_ | refine ae ?_ | (refine cE ?_; intro _ _ _ _)));refine aU (fun e2=>?_) (fun e2=>?_)
 ·exact cF hR (by rw [ag,if_neg n1,if_pos e2])
 have n2:¬ dR c = false:=by rw [e2]; simp
 have hbd:=dW e1;have hpos:=im e2;(repeat (first | refine aA ?_ | refine aE ?_));rename_i z3 w3 hz3 hS3;have hz3':Le z z3:=by (repeat (exact Res.zle (by assumption)))
 refine cC (fun (k:Nat) x w'=>x = .int .i64 k/\k <= c.ins.length/\(∀ j i,j < k->c.ins[j]? = some i->bX c i = true)/\∃ z',Le z z'/\Res w z [] w' z' [(bc,.cells (dq a1 a2 a3 a4 a5 a6 k1 k2 k3 k4 k5 k6 c).toArray 28 (0,0))]) (fun k=>c.ins.length - k) 0 ⟨rfl,by omega,fun j i hj=>absurd hj (by omega),z3,hz3',hS3⟩ ?_;rintro I M k x w4 m ⟨rfl,hk,hall,z4,hz4,hS4⟩ back
 clear hS3 hS1;obtain ⟨_,ai,ki,he,_,hel⟩:=h6.form
 cases he
 (repeat (refine aA ?_));refine aC (fun h=>?_) (fun h=>?_)
 ·have hlt:k < c.ins.length:=by omega
  have hi:=getElem?_eq_getElem hlt;haveI:InR (k:Int) (c.ins.length:Nat):=⟨by omega,by omega⟩
  haveI:InI ((k:Int) + 1):=⟨by omega⟩
  obtain ⟨b,off,cs,rfl,rfl,hat⟩:=hel _ _ hi;haveI:Fz z b (off + (k:Int).toNat * 4) c.ins[k].cells:=⟨hat⟩
  (repeat (first | refine aA ?_ | refine ae ?_ | (refine aP ?_; intro _ _ _ _) | (refine aF ?_; intro _ _) | (refine cE ?_; intro _ _ _ _) | refine bV ?_));refine aU (fun e3=>?_) (fun e3=>?_)
  ·refine cF hR ?_
   have hf:iX c = (k:Int):=iz (x:=c.ins[k]) (fun j y hj hy=>by rw [hall j y hj hy]; rfl) hi (by rw [e3]; rfl);rw [ag,if_neg n1,if_neg n2,if_pos (by omega),hf]
  ·(repeat (refine aA ?_))
   rename_i hS5;refine back (k + 1) _ _ ⟨by simp,by omega,fun j i hj hji=>?_,_,?_,hS5.keep [.at bc]⟩ (by omega)
   ·rcases Nat.lt_or_eq_of_le (Nat.le_of_lt_succ hj) with hj | hj
    ·exact hall j i hj hji
    ·subst hj; rw [hi] at hji; cases hji; exact e3
   ·(repeat (exact Res.zle (by assumption)))
 ·have hall':∀ i ∈ c.ins,bX c i = true:=fun i hm=>by
   obtain ⟨j,hj⟩:=List.mem_iff_getElem?.1 hm;exact hall j i (by have:=(List.getElem?_eq_some_iff.1 hj).1; omega) hj
  have hf:iX c = -1:=nT (fun i y hm=>by rw [hall' y (mem_of_getElem? hm)]; rfl);have n3:¬ 0 <= iX c:=by rw [hf]; decide
  have e0:(c.ins.length:Int) - 1 = ((c.ins.length - 1:Nat):Int):=by omega
  haveI:InI ((c.ins.length:Int) - 1):=⟨by omega⟩
  haveI:InR ((c.ins.length - 1:Nat):Int) (c.ins.length:Nat):=⟨by omega,by omega⟩
  have hi:c.ins[c.ins.length - 1]? = some (gA c):=by rw [gA,aX,getD_eq_getElem?_getD,getElem?_eq_getElem (by omega)]; rfl
  obtain ⟨b,off,cs,rfl,rfl,hat⟩:=hel _ _ hi;haveI:Fz z b (off + ((c.ins.length - 1:Nat):Int).toNat * 4) (gA c).cells:=⟨hat⟩
  (repeat (first | refine aA ?_ | refine aE ?_));simp only [e0];(repeat (first | refine aA ?_ | refine aE ?_ | (refine aP ?_; intro _ _ _ _) | (refine aF ?_; intro _ _) | (refine aN ?_; intro _ _ _ _) | refine bV ?_));refine aU (fun e4=>?_) (fun e4=>?_)
  ·exact cF hR (by rw [ag,if_neg n1,if_neg n2,if_neg n3,if_pos e4,e0])
  have n4:¬ (aG (gA c).op).final = false:=by rw [e4]; simp
  (repeat (refine ae ?_));rename_i hS5;refine ap (rc (hc.mono hS5.zle) hbd.2.2.2.1 hpos hbd.2.2.2.2.2 hall') ?_;rintro z6 w6 v6 hz6 hS6 hd
  have hck:ag c = match bK c with | none=>(12,0) | some _=>(0,0):=by rw [ag,if_neg n1,if_neg n2,if_neg n3,if_neg n4]
  cases hdm:bK c with
  | none=>
   rw [hdm] at hd hck
   cases hd
   (repeat (first | refine aA ?_ | refine ah ?_));exact cF hR (by rw [hck])
  | some kn=>
   rw [hdm] at hd hck;obtain ⟨v1,v2,rfl,_,_⟩:=hd;(repeat (first | refine aA ?_ | refine aj ?_));exact cF hR (by rw [hck]))
instance {z:Z} {v:Value} {c:aH} [hc:fQ z v c]:PuZ z 15 #[v] (ckV (ag c)):=⟨fun z' w hz=>mj (hc.h.mono hz)⟩
theorem gG {c:aH} (h:(ag c).1 = 0):ag c = (0,0)/\bH c = true/\dR c = true/\(∀ i ∈ c.ins,bX c i = true)/\(aG (gA c).op).final = true/\∃ kn,bK c = some kn:=by
 unfold ag at h ⊢
 by_cases e1:bH c = false
 ·rw [if_pos e1] at h; cases h
 rw [if_neg e1] at h ⊢
 by_cases e2:dR c = false
 ·rw [if_pos e2] at h; cases h
 rw [if_neg e2] at h ⊢
 by_cases e3:0 <= iX c
 ·rw [if_pos e3] at h; cases h
 rw [if_neg e3] at h ⊢
 by_cases e4:(aG (gA c).op).final = false
 ·rw [if_pos e4] at h; cases h
 rw [if_neg e4] at h ⊢
 cases hd:bK c with
 | none=>rw [hd] at h; cases h
 | some kn=>
  refine ⟨rfl,by simpa using e1,by simpa using e2,fun i hi=>?_,by simpa using e4,kn,rfl⟩;have:eo (fun i=>!bX c i) c.ins < 0:=by unfold iX at e3; omega
  unfold eo at this
  cases hf:c.ins.findIdx? (fun i=>!bX c i) with
  | none=>rw [findIdx?_eq_none_iff] at hf; simpa using hf i hi
  | some j=>rw [hf] at this; simp only at this; omega
def CA (z:Z) (v:Value) (c:aH):Prop:=∃ v1 v2,v = .tuple #[v1,v2,.int .i64 (ag c).1]/\SlR El.int z v1 (if (ag c).1 = 0 then ((bK c).getD []).map ay else [])/\SlR El.int z v2 (if (ag c).1 = 0 then ((bK c).getD []).map az else [])
theorem wL {z:Z} {w:World} {v:Value} {c:aH} (hc:CodeR z v c):Fn1 23 #[v] z w fun z' r=>CA z' r c:=Fn1.intro fun hS=>en23 (by
 unfold vc23;obtain ⟨a1,a2,a3,a4,a5,a6,k1,k2,k3,k4,k5,k6,rfl,h1,h2,h3,h4,h5,h6⟩:=hc.form;haveI:fQ z _ c:=⟨hc⟩
 (repeat (first | refine aA ?_ | refine ae ?_ | (refine aP ?_; intro _ _ _ _) | (refine cE ?_; intro _ _ _ _)));rename_i z5 w5 hz5 hS5;refine eO (fun e1=>?_) (fun e1=>?_)
 ·exact ⟨_,_,hS5,_,_,rfl,by rw [if_neg e1]; exact SlR.nil,by rw [if_neg e1]; exact SlR.nil⟩
 ·obtain ⟨e0,hl,hp,hr,_,kn,hd⟩:=gG e1
  have hbd:=dW hl;(repeat (refine ae ?_));refine ap (rc (hc.mono hS5.zle) hbd.2.2.2.1 (im hp) hbd.2.2.2.2.2 hr) ?_;rintro z6 w6 v6 hz6 hS6 hdd
  rw [hd] at hdd;obtain ⟨v1,v2,rfl,g1,g2⟩:=hdd;(repeat (refine aA ?_));exact ⟨_,_,hS6,v1,v2,by rw [e1],by rw [if_pos e1,hd]; exact g1,by rw [if_pos e1,hd]; exact g2⟩)
end
section
theorem AB {out:List Nat} {x:Nat}:(dv out x).length <= out.length + 1:=by
 unfold dv; cases dp out x <;> simp
def gP (c:aH) (at_:Nat):List Nat:=(dD c.ins.length at_ (aX c at_)).foldl (fun out p=>dv out p.1) []
def mE (c:aH) (at_:Int):Bool:=decide (c.ins.length > 12000) || (decide (c.labels.length > 3000) || !inB at_ 0 ((c.ins.length:Int) - 1))
def ny (c:aH) (at_:Int):List Nat:=if mE c at_ = true then [] else gP c at_.toNat
theorem pf {n at_:Nat} {i:InsM}:(dD n at_ i).length <= 2:=by
 unfold dD ey jW
 split <;> split <;> simp
theorem yL {l:List (Nat × Bool)} {k:Nat}:((l.take k).foldl (fun out p=>dv out p.1) []).length <= k:=by
 induction k generalizing l with
 | zero=>simp
 | succ k ih=>
  by_cases h:k < l.length
  ·rw [<- take_append_getElem h,foldl_append]
   simp only [foldl_cons,foldl_nil];have:=@ih l;have:=@AB ((l.take k).foldl (fun out p=>dv out p.1) []) l[k].1;omega
  ·rw [take_of_length_le (by omega)]
   have:=@ih l;rw [take_of_length_le (by omega)] at this;omega
end
section
structure RcM where
 set:List Bool
 open_:List Nat
def toL (c:aH) (at_:Nat):List Nat:=(dD c.ins.length at_ (aX c at_)).map fun p=>p.1
def jl (c:aH) (r:RcM) (at_:Nat):RcM:=if r.set.getD at_ false = true then r else ⟨r.set.set at_ true,r.open_ ++ toL c at_⟩
def sI (c:aH):Nat->RcM->List Bool
 | 0,r=>r.set
 | f + 1,r=>match r.open_.getLast? with
  | none=>r.set
  | some at_=>sI c f (jl c ⟨r.set,r.open_.dropLast⟩ at_)
def fx (c:aH):Bool:=decide (c.ins.length > 12000) || (decide (c.labels.length > 3000) || decide (c.ins.length = 0))
def iO (c:aH):List Bool:=if fx c = true then [] else sI c ((bP c).length + 3 * c.ins.length + 1) ⟨replicate c.ins.length false,bP c⟩
structure Ab (n:Nat) (r:RcM):Prop where
 len:r.set.length = n
 op:∀ a ∈ r.open_,a < n
 size:r.open_.length + 2 * r.set.count false <= 3001 + 2 * n
def uA (r:RcM):Nat:=r.open_.length + 3 * r.set.count false
theorem wM {l:List Bool} {k:Nat} (hk:k < l.length) (h:l.getD k false = false):(l.set k true).count false + 1 = l.count false:=by
 have h2:l[k] = false:=by rw [getD_eq_getElem?_getD,getElem?_eq_getElem hk] at h; exact h
 have hs:l = l.take k ++ false :: l.drop (k + 1):=by
  rw [<- h2,<- drop_eq_getElem_cons hk,take_append_drop]
 rw [set_eq_take_append_cons_drop,if_pos hk]
 conv=>rhs; rw [hs]
 simp [count_append,count_cons];omega
theorem wj {c:aH} {a:Nat}:(toL c a).length <= 2:=by unfold toL; rw [length_map]; exact pf
theorem vC {c:aH} {a:Nat}:∀ x ∈ toL c a,x < c.ins.length:=fun x hx=>by
 obtain ⟨p,hp,rfl⟩:=List.mem_map.1 hx;exact rR p hp
theorem Di {n:Nat} {s:List Bool} {l:List Nat} {a:Nat} (h:Ab n ⟨s,l ++ [a]⟩):Ab n ⟨s,l⟩/\uA ⟨s,l⟩ + 1 = uA ⟨s,l ++ [a]⟩/\a < n:=by
 refine ⟨⟨h.len,fun x hx=>h.op x (by simp [hx]),?_⟩,?_,h.op a (by simp)⟩
 ·have:=h.size; simp only [length_append,length_singleton] at this; simp only; omega
 ·unfold uA; simp only [length_append,length_singleton]; omega
theorem xW {c:aH} {r:RcM} {a:Nat} (h:Ab c.ins.length r) (ha:a < c.ins.length):Ab c.ins.length (jl c r a)/\uA (jl c r a) <= uA r:=by
 unfold jl
 by_cases e:r.set.getD a false = true
 ·rw [if_pos e]; exact ⟨h,Nat.le_refl _⟩
 ·rw [if_neg e]
  have hc:=wM (by rw [h.len]; exact ha) (by simpa using e);have ht:=@wj c a;refine ⟨⟨by simp [h.len],fun x hx=>?_,?_⟩,?_⟩
  ·rcases List.mem_append.1 hx with hx | hx
   ·exact h.op x hx
   ·exact vC x hx
  ·have:=h.size; simp only [length_append]; omega
  ·unfold uA; simp only [length_append]; omega
def eY (l:List Bool):List Value:=l.map Value.bool
theorem kJ (l:List Bool):l.flatMap (fun x=>[Value.bool x]) = eY l:=by
 induction l with
 | nil=>rfl
 | cons a l ih=>simp only [flatMap_cons,eY,map_cons] at ih ⊢; rw [ih]; rfl
theorem lX (l:List Bool):(eY l).length = l.length:=by simp [eY]
theorem xN {n:Nat}:((List.range (n * 1)).map fun i=>([Value.bool false]:List Value)[i % ([Value.bool false]:List Value).length]!) = eY (replicate n false):=by
 rw [Nat.mul_one];refine ext_getElem? fun j=>?_
 simp only [eY,getElem?_map,getElem?_range,getElem?_replicate,length_singleton,Nat.mod_one]
 by_cases h:j < n
 ·simp [h]
 ·simp [h]
theorem zK {z:Z} {w:World} {v:Value} {c:aH} (hc:CodeR z v c):Fn1 22 #[v] z w fun z' r=>SlR El.bool z' r (iO c):=Fn1.intro fun hS=>en22 (by
 unfold vc22;obtain ⟨a1,a2,a3,a4,a5,a6,k1,k2,k3,k4,k5,k6,rfl,h1,h2,h3,h4,h5,h6⟩:=hc.form;refine aP ?_;intro bc w1 hbc hS1;obtain ⟨zc,hzc,hS2,hatc⟩:=hS1.frz bc;generalize hRR:(fun (v:Value) (w':World)=>∃ z' L',Res w z [] w' z' L'/\SlR El.bool z' v (iO c)) = RR;have hR:∀ z' w' L' r,Res w1 zc [] w' z' L'->SlR El.bool z' r (iO c)->RR r w':=fun z' w' L' r k hd=>by rw [<- hRR]; exact ⟨z',L',hS2.comp k,hd⟩
 clear hRR;have hS3:=hS2.self;clear hS hS1 hS2;haveI:Fz zc bc 0 (dq a1 a2 a3 a4 a5 a6 k1 k2 k3 k4 k5 k6 c):=⟨hatc⟩
 haveI:Fz zc bc 3 [.slice a4 c.labels.length k4]:=⟨hatc.fld (i:=3) rfl rfl⟩
 haveI:Fz zc bc 5 [.slice a6 c.ins.length k6]:=⟨hatc.fld (i:=5) rfl rfl⟩
 (repeat (first | refine aA ?_ | (refine JGB ?_; intro _ _ _ _) | refine aL ?_));rename_i z4 w4 hz4 hS4;have hz4':Le zc z4:=by (repeat (exact Res.zle (by assumption)))
 clear hS3;have hbad:(bif bif decide ((c.ins.length:Int) > 12000) then true else decide ((c.labels.length:Int) > 3000) then true else decide ((c.ins.length:Int) = 0)) = fx c:=by
  rw [fx,show decide ((c.ins.length:Int) > 12000) = decide (c.ins.length > 12000) from decide_eq_decide.2 (by omega),show decide ((c.labels.length:Int) > 3000) = decide (c.labels.length > 3000) from decide_eq_decide.2 (by omega),show decide ((c.ins.length:Int) = 0) = decide (c.ins.length = 0) from decide_eq_decide.2 (by omega)]
  cases decide (c.ins.length > 12000) <;> cases decide (c.labels.length > 3000) <;> rfl
 rw [hbad];refine aO (fun e=>?_) (fun e=>?_)
 ·exact hR _ _ _ _ hS4 (by rw [iO,if_pos e]; exact SlR.nil)
 have hrm:iO c = sI c ((bP c).length + 3 * c.ins.length + 1) ⟨replicate c.ins.length false,bP c⟩:=by rw [iO,if_neg (by rw [e]; simp)]
 have hbd:c.ins.length <= 12000/\c.labels.length <= 3000/\0 < c.ins.length:=by
  rw [fx] at e;simp only [Bool.or_eq_false_iff,decide_eq_false_iff_not] at e;omega
 clear hbad e;(repeat (first | refine aA ?_ | refine aL ?_));refine uR (by omega) (by omega) ?_;intro bs w5 hbs hS5;rw [xN] at hS5;clear hS4;(repeat (refine bV ?_));refine qT (fun hle=>tZ ((hc.mono hzc).mono hle) hbd.2.1) ?_;rintro z6 B6 w6 v6 hz6 hS6 ho6
 have hrl:(bP c).length <= 3001:=Nat.le_trans kT (by omega);obtain ⟨av6,cv6,rfl,_⟩:=ho6.form;refine ak ?_;intro b4 w7 hb4 hS7;clear hS5 hS6;(repeat (refine aF ?_; intro _ _));rename_i w8 hS8;have hS9:=hS8.keep [.at bs,.at b4,.bl B6];clear hS7 hS8;have hz6':=hz4'.trans hz6;refine cC (fun (p:Nat × RcM × List Nat) x w'=>dV x = p.2.2/\iO c = sI c p.1 p.2.1/\uA p.2.1 < p.1/\Ab c.ins.length p.2.1/\∃ B' v' z',Le z6 z'/\OwnSl 3 1 B' v' p.2.1.open_.length (du p.2.1.open_)/\Res w1 zc [] w' z' ((bs,.cells (eY p.2.1.set).toArray 4 (0,0)) :: (b4,.cells [v'].toArray 45 (0,0)) :: (B' ++ bQ p.2.2))) (fun p=>p.1) ((bP c).length + 3 * c.ins.length + 1,⟨replicate c.ins.length false,bP c⟩,[])
  ⟨rfl,hrm,by simp [uA],⟨by simp,gX hbd.2.2,by simp; omega⟩,B6,_,z6,Le.refl _,ho6,hS9⟩ ?_
 rintro I M ⟨f,r,rs⟩ x w10 m ⟨hmx,hrun,hmea,hinv,B10,v10,z10,hz10,ho,hS10⟩ back
 simp only at hmx hrun hmea hinv ho hS10;obtain ⟨s,op⟩:=r;simp only at ho hS10;clear hS9 ho6;have hf:f = (f - 1) + 1:=by omega
 have hlen:s.length = c.ins.length:=hinv.len;have hsz:=hinv.size;simp only at hsz
 rcases eq_nil_or_concat op with rfl | ⟨l,a,rfl⟩
 ·obtain ⟨av,cv,rfl,_⟩:=ho.form
  (repeat (first | refine aA ?_ | refine aE ?_ | refine aj ?_));rw [hmx];refine nQ rs (hS10.bring (bQ rs)) ?_;intro w11 hS11;have hS12:=hS11.bringB bs;obtain ⟨z13,hz13,hS13,hv⟩:=Res.freezeSl (E:=El.bool) (e:=4) (B:=[(bs,_)]) (v:=.slice (some ⟨bs,0,none⟩) s.length s.length) (xs:=s) (f:=fun x=>[Value.bool x]) hS12 ⟨by rw [kJ,lX]; exact (Nat.mul_one _).symm,.inr ⟨bs,s.length,[],by rw [kJ,append_nil],rfl,Nat.le_refl _,by simp only [maxLen]; omega,by rw [kJ,append_nil,lX]; exact (Nat.mul_one _).symm⟩⟩ (by simp only [big]; omega) (fun _=>rfl) (fun z x _=>rfl);rw [hlen] at hv;refine hR _ _ _ _ hS13 ?_;rw [hrun,hf];exact hv
 ·rw [concat_eq_append] at *
  obtain ⟨hip,hmp,hlt⟩:=Di hinv;simp only [length_append,length_singleton,cP] at ho;obtain ⟨bo,cap,C,rfl,hcap,rfl,hC,ho2⟩:=OwnSl.pop (u:=.int .i64 (a:Int)) ho;obtain ⟨C,rfl⟩:∃ D:List Value,C = D.toArray:=⟨C.toList,by simp⟩
  simp only [cons_append,nil_append] at hS10;have e0:((l.length + 1:Nat):Int) - 1 = (l.length:Int):=by omega
  simp only [length_append,length_singleton] at hsz;haveI:InI (((l.length + 1:Nat):Int) - 1):=⟨by omega⟩
  haveI:InR (l.length:Int) ((l.length + 1:Nat):Int):=⟨by omega,by omega⟩
  haveI:InR (l.length:Int) ((cap:Int) + 1):=⟨by omega,by omega⟩
  haveI:Get C ((l.length:Int).toNat * 1) (.int .i64 (a:Int)):=⟨by simpa using hC⟩
  haveI:InR (a:Int) (c.ins.length:Nat):=⟨by omega,by omega⟩
  have e1:(a:Int).toNat * 1 = a:=by omega
  haveI:Get (eY s) ((a:Int).toNat * 1) (.bool (s.getD a false)):=⟨by rw [e1,eY,getElem?_map,getD_eq_getElem?_getD,getElem?_eq_getElem (by omega)]; rfl⟩
  haveI:SetN (eY s) ((a:Int).toNat * 1) [.bool true] (eY (s.set a true)):=by
   have:=SetN.at_ (l:=eY s) (k:=a) (u:=.bool true) (by rw [lX]; omega);rw [e1,show eY (s.set a true) = (eY s).set a (.bool true) by simp [eY,map_set]]; exact this
  have hrun2:sI c f ⟨s,l ++ [a]⟩ = sI c (f - 1) (jl c ⟨s,l⟩ a):=by
   rw [hf];simp only [sI,getLast?_concat,dropLast_concat]
   rfl
  (repeat (first | refine aA ?_ | refine aE ?_));refine aC (fun _=>?_) (fun hn=>absurd hn (by omega));(repeat (first | refine aA ?_ | refine aE ?_));simp only [e0];(repeat (first | refine aA ?_ | refine aE ?_));simp only [e0];(repeat (first | refine aA ?_ | refine aE ?_ | (refine aF ?_; intro _ _)));rename_i w11 hS11;simp only [Int.toNat_natCast] at hS11;clear hS10;refine aO (fun e=>?_) (fun e=>?_)
  ·refine back (f - 1,⟨s,l⟩,rs) _ _ ⟨hmx,?_,by simp only; omega,hip,[(bo,.cells C.toArray 3 (0,0))],_,z10,hz10,ho2,hS11⟩ (by simp only; omega)
   rw [hrun,hrun2,jl,if_pos e]
  ·have hst:jl c ⟨s,l⟩ a = ⟨s.set a true,l ++ toL c a⟩:=by rw [jl,if_neg (by rw [e]; simp)]
   obtain ⟨hin2,hme2⟩:=xW (c:=c) hip hlt;rw [hst] at hin2 hme2;have hi2:c.ins[a]? = some (aX c a):=by rw [aX,getD_eq_getElem?_getD,getElem?_eq_getElem hlt]; rfl
   (repeat (first | refine aA ?_ | (refine aF ?_; intro _ _) | refine bV ?_));refine ap uJ ?_;rintro z12 w12 v12 hz12 hS12 ⟨bl1,bl2,rfl,hbl1,hbl2⟩
   clear hS11;intro lp r0 l0 w13 hnew hyp;have hS13:=hS12.rf hnew;clear hS12 hnew;have hO:=hS13.self;have hll:(toL c a).length = (dD c.ins.length a (aX c a)).length:=by simp [toL]
   have htl:=@wj c a;have hll2:=hin2.size;refine rQ (i:=aX c a) hO (h6.mono (hzc.trans (hz6'.trans (hz10.trans hz12)))) hbl1 hbl2 hi2
    (fun k z' L'=>∃ v B,OwnSl 3 1 B v (l ++ (toL c a).take k).length (du (l ++ (toL c a).take k))/\L' = (l0,dC lp .ready none) :: (r0,.deferred (some [])) :: (bs,.cells (eY (s.set a true)).toArray 4 (0,0)) :: (b4,.cells [v].toArray 45 (0,0)) :: (B ++ bQ rs))
    (fun _ _=>False) (fun _ _ _ _ _ h=>h) ⟨_,[(bo,.cells C.toArray 3 (0,0))],by rw [take_zero,append_nil]; exact ho2,rfl⟩ ?_ ?_ ?_
   ·rintro k y b hk z14 w14 G _ K' hz14 hS14 ⟨v,B,ho3,rfl⟩ back' fail
    have hkl:=(List.getElem?_eq_some_iff.1 hk).1;have hk2:k < (toL c a).length:=by omega
    have hky:(toL c a)[k] = y:=by simp only [toL,getElem_map,(List.getElem?_eq_some_iff.1 hk).2]
    obtain ⟨av,cv,rfl,_⟩:=ho3.form;refine hyp _ _ _ _ ?_ (Res.at_ (b:=l0) hS14);refine su ?_;intro w15 hS15;clear hS14;have hlk:(l ++ (toL c a).take k).length <= l.length + 2:=by rw [length_append,length_take]; omega
    (repeat (refine aE ?_));refine cb hS15 ho3 (by simp only [room]; omega) (by simp only [room]; omega) (by decide) ?_;intro B16 v16 w16 ho16 hS16;obtain ⟨a16,c16,rfl,_⟩:=ho16.form;clear hS15;(repeat (refine aF ?_; intro _ _));refine uT (st:=.busy) (pend:=none) ?_;intro w17 hS17;refine back' _ _ _ ?_ (hS17.perm (pQ _ _ [_,_,_,_] _)) ⟨_,B16,?_,rfl⟩
    ·(repeat (exact Le.refl _))
    ·have hlen3:(l ++ List.take k (toL c a) ++ [y]).length = (l ++ List.take k (toL c a)).length + 1:=length_append
     rw [<- take_append_getElem hk2,hky,<- append_assoc,hlen3,cP];exact ho16
   ·rintro z14 w14 _ hz14 hS14 ⟨v,B,ho3,rfl⟩
    rw [<- hll,take_of_length_le (Nat.le_refl _)] at ho3;refine pw (st:=.ready) (by intro h; cases h) ?_;intro w15 hS15;refine back (f - 1,⟨s.set a true,l ++ toL c a⟩,r0 :: rs) _ _ ⟨by rw [ew,hmx],by rw [hrun,hrun2,hst],by simp only; omega,hin2,B,v,z14,?_,ho3,?_⟩ (by simp only; omega)
    ·exact hz10.trans (hz12.trans hz14)
    ·have hS16:=(hS13.comp hS15).keep [.at bs,.at b4,.bl B,.at r0,.bl (bQ rs)]
     simpa [bQ] using hS16
   ·intro _ _ _ _ _ hf
    exact hf.elim)
end
section
def eE (i:InsM) (k:Int):Int:=
 if ((i.op = 12 \/ i.op = 21)/\k = 0) \/ (i.op = 19/\k = 1/\i.a = 1) then 2 else if i.op = 22/\k = 2 then 8 else if k = 0 then (aG i.op).k0 else if k = 1 then (aG i.op).k1 else (aG i.op).k2
theorem Dc {w0:World} {z0 z:Z} {B0 L:Bl} {x y:Int} {rest:RP} {body:(LP)->Prop} [g:PG (Value.int .i64) body w0 z0 B0 z L x] (hx:x = y) (h:∀ z' w',Le z z'->Res w0 z0 B0 w' z' L->rest (.int .i64 y) w'):∀ K:LP,(∀ t w,(∀ _:Env,rest t w)->K [t] w)->body K:=by subst hx; exact JGI h
theorem nv {z:Z} {w:World} {p:Option Addr}:Fn1 61 #[.pointer p] z w fun z' r=>∃ b1,r = .func (.func 172) #[] #[.pointer (some ⟨b1,0,none⟩)]/\At z' b1 0 [.pointer p]:=Fn1.intro fun hS=>en61 (by
 unfold vc61;refine aP ?_;intro b1 w1 hb1 hS1;obtain ⟨z3,hz3,hS3,h3⟩:=hS1.frz b1;exact ⟨_,_,hS3,b1,rfl,h3⟩)
theorem lz {z:Z} {w:World} {L:Bl} {b1 bb:Nat} {yv:Value} {K:RP} {i:InsM} (hS:Res w z ((bb,.cells i.cells.toArray 38 (0,0)) :: L) w z ((bb,.cells i.cells.toArray 38 (0,0)) :: L)) (g1:At z b1 0 [.pointer (some ⟨bb,0,none⟩)])
  (J:Int->InsM->Z->Bl->Prop) (hm:∀ k i' z' z'' L',Le z' z''->J k i' z' L'->J k i' z'' L') (h0:J 0 i z L)
  (body:∀ k:Int,0 <= k->k < 3->∀ i' z' w' G L' (K':RP),i'.op = i.op->Le z z'->Res w z ((bb,.cells i.cells.toArray 38 (0,0)) :: L) w' z' (G ++ ((bb,.cells i'.cells.toArray 38 (0,0)) :: L'))->J k i' z' L' ->
   (∀ i'' z'' w'' L'',i''.op = i.op->Le z' z''->Res w z ((bb,.cells i.cells.toArray 38 (0,0)) :: L) w'' z'' (G ++ ((bb,.cells i''.cells.toArray 38 (0,0)) :: L''))->J (k + 1) i'' z'' L''->K' (.bool true) w'')->CV yv #[.int .i64 (eE i' k),.pointer (some ⟨bb,k.toNat + 1,none⟩)] w' K')
  (hend:∀ i' z' w' L',i'.op = i.op->Le z z'->Res w z ((bb,.cells i.cells.toArray 38 (0,0)) :: L) w' z' ((bb,.cells i'.cells.toArray 38 (0,0)) :: L')->J 3 i' z' L'->K (.tuple #[]) w') :
  CE (.func (.func 172) #[] #[.pointer (some ⟨b1,0,none⟩)]) #[yv] w K:=by
 refine CN (args':=#[yv,.pointer (some ⟨b1,0,none⟩)]) (by simp) (en172 ?_);unfold vc172;haveI:Fz z b1 0 [.pointer (some ⟨bb,0,none⟩)]:=⟨g1⟩
 refine aL ?_;refine gZ ?_;refine ae ?_;refine aN ?_;intro z5 w5 hz5 hS5;refine aA ?_;refine aA ?_;refine ak ?_;intro b3 w6 hb3 hS6;refine aF ?_;intro w7 hS7;clear hS5 hS6;(repeat (first | (refine iDr ?_; intro _ _) | refine aK ?_ | refine bz ?_));rename_i w8 hS8;clear hS7;refine cC (fun (p:Int × InsM) x w'=>x = .int .i64 p.1/\0 <= p.1/\p.1 <= 3/\p.2.op = i.op/\∃ z' L',Le z z'/\Res w z ((bb,.cells i.cells.toArray 38 (0,0)) :: L) w' z' ((b3,.cells (aG i.op).cells.toArray 102 (0,0)) :: (bb,.cells p.2.cells.toArray 38 (0,0)) :: L')/\J p.1 p.2 z' L') (fun p=>(3 - p.1).toNat) (0,i) ⟨rfl,by simp,by simp,rfl,z5,L,hz5,hS8,hm _ _ _ _ _ hz5 h0⟩ ?_;rintro I M ⟨k,i'⟩ x w9 m ⟨rfl,gp,g3,ho,z9,L9,hz9,hS9,hJ⟩ back
 simp only at gp g3 ho hS9 hJ;clear hS8 hS;refine aA ?_;have hkk:k = 0 \/ k = 1 \/ k = 2 \/ k = 3:=by omega
 rcases hkk with rfl | rfl | rfl | rfl
 ·refine bC rfl ?_
  dsimp only;(repeat (first | refine aA ?_ | refine aE ?_));intro Kq hKq;have main:∀ kd z11 w11,Le z9 z11->Res w z ((bb,.cells i.cells.toArray 38 (0,0)) :: L) w11 z11 ((b3,.cells (aG i.op).cells.toArray 102 (0,0)) :: (bb,.cells i'.cells.toArray 38 (0,0)) :: L9)->kd = eE i' 0->Kq [.int .i64 kd] w11:=by
   rintro kd z11 w11 hz11 hS11 rfl
   refine hKq _ _ fun _=>?_
   have hb:=body 0 (by omega) (by omega) i' z11 w11 [(b3,.cells (aG i.op).cells.toArray 102 (0,0))] L9 (fun v w'=>V (un .not v) w' fun t80 w=>aB t80 (K (.tuple #[]) w) (V (bi .add 3 (.int .i64 0) (.int .i64 1)) w fun t81 w=>I [t81] w/\M [t81] w < m)) ho (hz9.trans hz11) hS11 (hm _ _ _ _ _ hz11 hJ)
    (fun i'' z'' w'' L'' ho'' hz'' hS'' hJ''=>by
     refine aA ?_;refine aj ?_;refine aA ?_;exact back (1,i'') _ _ ⟨rfl,by simp,by simp,ho'',z'',L'',(hz9.trans hz11).trans hz'',hS'',hJ''⟩ (by simp))
   exact hb
  clear hKq back;intro Kr hKr;have main2:∀ b z11 w11,Le z9 z11->Res w z ((bb,.cells i.cells.toArray 38 (0,0)) :: L) w11 z11 ((b3,.cells (aG i.op).cells.toArray 102 (0,0)) :: (bb,.cells i'.cells.toArray 38 (0,0)) :: L9)->b = decide (((i'.op = 12 \/ i'.op = 21)/\(0:Int) = 0) \/ (i'.op = 19/\(0:Int) = 1/\i'.a = 1))->Kr [.bool b] w11:=by
   rintro b z11 w11 hz11 hS11 rfl
   refine hKr _ _ fun _=>?_
   clear hS9;refine aC (fun e=>?_) (fun e=>?_)
   ·exact main _ _ _ hz11 hS11 (by rw [eE,if_pos e])
   ·(repeat (first | refine aA ?_ | refine aE ?_ | refine JB ?_ | refine aL ?_))
    refine aO (fun e2=>?_) (fun e2=>?_)
    ·exact main _ _ _ hz11 hS11 (by rw [eE,if_neg e]; simp only [Bool.cond_eq_ite,decide_eq_true_eq] at e2; simp_all)
    ·exact main _ _ _ hz11 hS11 (by rw [eE,if_neg e]; simp only [Bool.cond_eq_ite,decide_eq_true_eq] at e2; simp_all)
  clear hKr main;(repeat (first | refine aA ?_ | refine aE ?_ | refine JB ?_ | (refine JGB ?_; intro _ _ _ _) | refine aL ?_));rename_i z12 w12 hz12 hS12;have hz12':Le z9 z12:=by (repeat (assumption))
  clear hS9;refine aO (fun e=>?_) (fun e=>?_)
  ·exact main2 _ _ _ hz12' hS12 (by simp only [Bool.cond_eq_ite,decide_eq_true_eq] at e ⊢; (repeat' split) <;> simp_all)
  ·(repeat (first | refine aA ?_ | refine aE ?_ | refine JB ?_ | (refine JGB ?_; intro _ _ _ _) | refine aL ?_))
   rename_i z13 w13 hz13 hS13;have hz13':Le z9 z13:=by (repeat (first | assumption | refine Le.trans ?_ (by assumption:Le _ _)))
   exact main2 _ _ _ hz13' hS13 (by simp only [Bool.cond_eq_ite,decide_eq_true_eq] at e ⊢; (repeat' split) <;> simp_all)
 ·refine bC rfl ?_
  dsimp only;(repeat (first | refine aA ?_ | refine aE ?_));intro Kq hKq;have main:∀ kd z11 w11,Le z9 z11->Res w z ((bb,.cells i.cells.toArray 38 (0,0)) :: L) w11 z11 ((b3,.cells (aG i.op).cells.toArray 102 (0,0)) :: (bb,.cells i'.cells.toArray 38 (0,0)) :: L9)->kd = eE i' 1->Kq [.int .i64 kd] w11:=by
   rintro kd z11 w11 hz11 hS11 rfl
   refine hKq _ _ fun _=>?_
   have hb:=body 1 (by omega) (by omega) i' z11 w11 [(b3,.cells (aG i.op).cells.toArray 102 (0,0))] L9 (fun v w'=>V (un .not v) w' fun t80 w=>aB t80 (K (.tuple #[]) w) (V (bi .add 3 (.int .i64 1) (.int .i64 1)) w fun t81 w=>I [t81] w/\M [t81] w < m)) ho (hz9.trans hz11) hS11 (hm _ _ _ _ _ hz11 hJ)
    (fun i'' z'' w'' L'' ho'' hz'' hS'' hJ''=>by
     refine aA ?_;refine aj ?_;refine aA ?_;exact back (2,i'') _ _ ⟨rfl,by simp,by simp,ho'',z'',L'',(hz9.trans hz11).trans hz'',hS'',hJ''⟩ (by simp))
   exact hb
  clear hKq back;intro Kr hKr;have main2:∀ b z11 w11,Le z9 z11->Res w z ((bb,.cells i.cells.toArray 38 (0,0)) :: L) w11 z11 ((b3,.cells (aG i.op).cells.toArray 102 (0,0)) :: (bb,.cells i'.cells.toArray 38 (0,0)) :: L9)->b = decide (((i'.op = 12 \/ i'.op = 21)/\(1:Int) = 0) \/ (i'.op = 19/\(1:Int) = 1/\i'.a = 1))->Kr [.bool b] w11:=by
   rintro b z11 w11 hz11 hS11 rfl
   refine hKr _ _ fun _=>?_
   clear hS9;refine aC (fun e=>?_) (fun e=>?_)
   ·exact main _ _ _ hz11 hS11 (by rw [eE,if_pos e])
   ·(repeat (first | refine aA ?_ | refine aE ?_ | refine JB ?_ | refine aL ?_))
    refine aO (fun e2=>?_) (fun e2=>?_)
    ·exact main _ _ _ hz11 hS11 (by rw [eE,if_neg e]; simp only [Bool.cond_eq_ite,decide_eq_true_eq] at e2; simp_all)
    ·exact main _ _ _ hz11 hS11 (by rw [eE,if_neg e]; simp only [Bool.cond_eq_ite,decide_eq_true_eq] at e2; simp_all)
  clear hKr main;(repeat (first | refine aA ?_ | refine aE ?_ | refine JB ?_ | (refine JGB ?_; intro _ _ _ _) | refine aL ?_));rename_i z12 w12 hz12 hS12;have hz12':Le z9 z12:=by (repeat (assumption))
  clear hS9;refine aO (fun e=>?_) (fun e=>?_)
  ·exact main2 _ _ _ hz12' hS12 (by simp only [Bool.cond_eq_ite,decide_eq_true_eq] at e ⊢; (repeat' split) <;> simp_all)
  ·(repeat (first | refine aA ?_ | refine aE ?_ | refine JB ?_ | (refine JGB ?_; intro _ _ _ _) | refine aL ?_))
   rename_i z13 w13 hz13 hS13;have hz13':Le z9 z13:=by (repeat (first | assumption | refine Le.trans ?_ (by assumption:Le _ _)))
   exact main2 _ _ _ hz13' hS13 (by simp only [Bool.cond_eq_ite,decide_eq_true_eq] at e ⊢; (repeat' split) <;> simp_all)
 ·refine bC rfl ?_
  dsimp only;(repeat (first | refine aA ?_ | refine aE ?_));intro Kq hKq;have main:∀ kd z11 w11,Le z9 z11->Res w z ((bb,.cells i.cells.toArray 38 (0,0)) :: L) w11 z11 ((b3,.cells (aG i.op).cells.toArray 102 (0,0)) :: (bb,.cells i'.cells.toArray 38 (0,0)) :: L9)->kd = eE i' 2->Kq [.int .i64 kd] w11:=by
   rintro kd z11 w11 hz11 hS11 rfl
   refine hKq _ _ fun _=>?_
   have hb:=body 2 (by omega) (by omega) i' z11 w11 [(b3,.cells (aG i.op).cells.toArray 102 (0,0))] L9 (fun v w'=>V (un .not v) w' fun t80 w=>aB t80 (K (.tuple #[]) w) (V (bi .add 3 (.int .i64 2) (.int .i64 1)) w fun t81 w=>I [t81] w/\M [t81] w < m)) ho (hz9.trans hz11) hS11 (hm _ _ _ _ _ hz11 hJ)
    (fun i'' z'' w'' L'' ho'' hz'' hS'' hJ''=>by
     refine aA ?_;refine aj ?_;refine aA ?_;exact back (3,i'') _ _ ⟨rfl,by simp,by simp,ho'',z'',L'',(hz9.trans hz11).trans hz'',hS'',hJ''⟩ (by simp))
   exact hb
  clear hKq back;intro Kr hKr;have main2:∀ b z11 w11,Le z9 z11->Res w z ((bb,.cells i.cells.toArray 38 (0,0)) :: L) w11 z11 ((b3,.cells (aG i.op).cells.toArray 102 (0,0)) :: (bb,.cells i'.cells.toArray 38 (0,0)) :: L9)->b = decide (((i'.op = 12 \/ i'.op = 21)/\(2:Int) = 0) \/ (i'.op = 19/\(2:Int) = 1/\i'.a = 1))->Kr [.bool b] w11:=by
   rintro b z11 w11 hz11 hS11 rfl
   refine hKr _ _ fun _=>?_
   clear hS9;refine aC (fun e=>?_) (fun e=>?_)
   ·exact main _ _ _ hz11 hS11 (by rw [eE,if_pos e])
   ·(repeat (first | refine aA ?_ | refine aE ?_ | refine JB ?_ | refine aL ?_))
    refine aO (fun e2=>?_) (fun e2=>?_)
    ·exact main _ _ _ hz11 hS11 (by rw [eE,if_neg e]; simp only [Bool.cond_eq_ite,decide_eq_true_eq] at e2; simp_all)
    ·exact main _ _ _ hz11 hS11 (by rw [eE,if_neg e]; simp only [Bool.cond_eq_ite,decide_eq_true_eq] at e2; simp_all)
  clear hKr main;(repeat (first | refine aA ?_ | refine aE ?_ | refine JB ?_ | (refine JGB ?_; intro _ _ _ _) | refine aL ?_));rename_i z12 w12 hz12 hS12;have hz12':Le z9 z12:=by (repeat (assumption))
  clear hS9;refine aO (fun e=>?_) (fun e=>?_)
  ·exact main2 _ _ _ hz12' hS12 (by simp only [Bool.cond_eq_ite,decide_eq_true_eq] at e ⊢; (repeat' split) <;> simp_all)
  ·(repeat (first | refine aA ?_ | refine aE ?_ | refine JB ?_ | (refine JGB ?_; intro _ _ _ _) | refine aL ?_))
   rename_i z13 w13 hz13 hS13;have hz13':Le z9 z13:=by (repeat (first | assumption | refine Le.trans ?_ (by assumption:Le _ _)))
   exact main2 _ _ _ hz13' hS13 (by simp only [Bool.cond_eq_ite,decide_eq_true_eq] at e ⊢; (repeat' split) <;> simp_all)
 ·refine dk rfl ?_
  exact hend i' z9 w9 L9 ho hz9 (hS9.sublist (sublist_cons_self _ _)) hJ
end
section
instance {r:Option Nat} {x y:Operand}:Run (eq .neq 115 x y (.map r) (.map none)) (.bool r.isSome):=⟨fun w=>by
 have h:∀ d:Nat,(Op.equalIn (d + 1) 115 (.map r) (.map none)).run Tryz.prog w = .ok r.isNone w:=fun d=>by
  have hu:∀ w,(underlying 115).run Tryz.prog w = .ok (.map 3 4) w:=fun _=>by kernel_rfl
  simp only [Op.equalIn,Sem.run_bind,hu,Result.andThen_ok]
  cases r <;> rfl
 have:=h 9999;simp only [eq,eqGuard,binOp,Op.equal,Op.maxDepth,Sem.run_bind];simp [this]⟩
def jR (k:Int):Int:=if k = 2 \/ k = 3 \/ k = 4 \/ k = 5 \/ k = 6 \/ k = 7 \/ k = 8 then 1 else if k = 10 then 2 else if k = 11 \/ k = 12 then 3 else 0
def ofR (k:Int) (a b c:Nat):Option Nat:=if jR k = 1 then some a else if jR k = 2 then some b else if jR k = 3 then some c else none
instance {k:Int} {a b c:Nat}:Pu 62 #[.agg [.map (some a),.map (some b),.map (some c)].toArray,.int .i64 k] (.map (ofR k a b c)):=⟨fun z w=>fnW en62 (fun hS R=>by unfold vc62; exact inferInstance) (by
 unfold ofR jR;simp only [Bool.cond_eq_ite,decide_eq_true_eq];(repeat' split) <;> simp_all)⟩
theorem CO {w0 w:World} {z0 z:Z} {B0 L:Bl} {K:RP} [hS:Res w0 z0 B0 w z L] {m:Nat} {S:List Int} {n:Int} {zm:Z} (hm:zm m = some (mK (Value.int .i64) (hM S))) (hz:Le zm z) (hk:K (.bool (dp S n)) w):V (lk 115 (.map (some m)) (.int .i64 n) false) w K:=by
 refine ⟨_,w,ll (k:=3) (e:=4) (mk:=Value.int .i64) (zv:=.bool false) (hS.sub _ _ (hz _ _ hm)) (fun _=>by kernel_rfl) false,?_⟩;rw [if_neg (by simp),py]
 cases h:dp S n <;> rw [h] at hk <;> exact hk
def yd (S T:Nat) (R:RP) (w:World) (t0 t1:Value):Prop:=
 V (mm 124 none) w fun t10 w=>U (mu 124 t10 (.int .i64 (-1)) (.int .i64 (-1))) w fun w=>V (Builtin.len_ #[S] 3 #[t0]) w fun t13 w=>∃ (I0:LP) (M0:LN),I0 [(.slice none 0 0),(.int .i64 0)] w/\∀ g:Env,∀ t6,∀ t14,∀ w,I0 [t6,t14] w->∀ m0,m0 = M0 [t6,t14] w ->
 V (bi .lss 3 t14 t13) w fun t15 w=>aB t15
 (∀ K0:LP,(∀ t6a,∀ w,(∀ g:Env,
 V (bi .add 3 t14 (.int .i64 1)) w fun t30 w=>
 I0 [t6a,t30] w/\M0 [t6a,t30] w < m0)->K0 [t6a] w) ->
 V (ia S t0 t14) w fun t17 w=>V (ld T t17) w fun t18 w=>V (lk 115 t1 t14 false) w fun t21 w=>aB t21
 (V (Builtin.len_ #[S] 3 #[t6]) w fun t25 w=>U (mu 124 t10 t14 t25) w fun w=>V (bs S 1 #[(0,t18)]) w fun t28 w=>V (Builtin.append_ #[S,S] S #[t6,t28]) w fun t29 w=>K0 [t29] w)
 (K0 [t6] w))
 (R (.tuple #[t6,t10]) w)
def bf (S:List Int) (n:Nat):List Nat:=(List.range n).filter fun i=>dp S (i:Int)
theorem pj {S:List Int} {n:Nat}:bf S (n + 1) = bf S n ++ (if dp S (n:Int) = true then [n] else []):=by
 unfold bf;rw [range_succ,filter_append]
 cases h:dp S (n:Int) <;> simp [h]
theorem kY {S:List Int} {n:Nat}:(bf S n).length <= n:=by
 have:=length_filter_le (fun i:Nat=>dp S (i:Int)) (List.range n);rw [length_range] at this; exact this
def kh (S:List Int) (k:Nat) (n:Int):Option Value:=if n = -1 then some (.int .i64 (-1)) else if 0 <= n/\n < k/\dp S n = true then some (.int .i64 ((bf S n.toNat).length:Int)) else none
structure KeptR {α:Type} (E:El α) (z:Z) (xs:List α) (ks:List Nat) (us:List Value):Prop where
 len:us.length = ks.length
 one:∀ u ∈ us,gB u = true
 at_:∀ (j:Nat) i,ks[j]? = some i->∃ u x,us[j]? = some u/\xs[i]? = some x/\E.rel z [u] x
theorem KeptR.mono {α:Type} {E:El α} {z z':Z} {xs:List α} {ks:List Nat} {us:List Value} (h:KeptR E z xs ks us) (hz:Le z z'):KeptR E z' xs ks us:=
 ⟨h.len,h.one,fun j i hi=>let ⟨u,x,h1,h2,h3⟩:=h.at_ j i hi; ⟨u,x,h1,h2,E.mono h3 hz⟩⟩
theorem sE {α:Type} {E:El α} {S T bytes fi:Nat} [g:fP S T 1 bytes] [gs:bF S T 1] [gz:eb T 1] [go:am T] (hE:E.size = 1) (hone:∀ z cs x,E.rel z cs x->∃ u,cs = [u]/\gB u = true) (hbytes:bytes <= 1000)
  (h1:∀ {R:RP} {w:World} {t0 t1:Value},yd S T R w t0 t1->Calls Tryz.prog fi #[t0,t1] w (retK R)) {z:Z} {w:World} {v:Value} {xs:List α} {m:Nat} {St:List Int} (hx:SlR E z v xs) (hm:z m = some (mK (Value.int .i64) (hM St))) (hl:xs.length <= 1000000) :
  Fn fi #[v,.map (some m)] z [] w fun z' B' r=>∃ sl mp Bs l us,r = .tuple #[sl,.map (some mp)]/\B' = Bs ++ [(mp,mK (Value.int .i64) l)]/\OwnSl T 1 Bs sl (bf St xs.length).length us/\KeptR E z' xs (bf St xs.length) us/\∀ n,fD l n = kh St xs.length n:=Fn.intro fun hS=>h1 (by
 unfold yd;obtain ⟨_,a,cap,rfl,_,hel⟩:=hx.form;refine pk (mk:=Value.int .i64) ?_;intro mp w1 hmp hS1;refine jX (mk:=Value.int .i64) ?_;intro w2 hS2;clear hS hS1;refine aA ?_;refine ee (fun (k:Nat) x y w'=>y = .int .i64 k/\k <= xs.length/\∃ z' Bs l us,Le z z'/\OwnSl T 1 Bs x (bf St k).length us/\KeptR E z' xs (bf St k) us/\(∀ n,fD l n = kh St k n)/\Res w z [] w' z' (Bs ++ [(mp,mK (Value.int .i64) l)])) (fun k=>xs.length - k) 0
  ⟨rfl,by omega,z,[],_,[],Le.refl _,OwnSl.nil,⟨rfl,by simp,fun j i hi=>by simp [bf] at hi⟩,fun n=>?_,hS2⟩ ?_
 ·rw [oc,pz,kh]
  by_cases e:n = -1
  ·rw [if_pos e,if_pos e]
  ·rw [if_neg e,if_neg e,if_neg (by omega)]
 rintro I M k x y w3 mm_ ⟨rfl,hk,z3,Bs,l,us,hz3,ho,hkr,hlk,hS3⟩ back
 clear hS2;obtain ⟨ax,cx,rfl,_⟩:=ho.form;refine aA ?_;refine aC (fun h=>?_) (fun h=>?_)
 ·have hlt:k < xs.length:=by omega
  obtain ⟨b,off,cs,rfl,hr,hat⟩:=hel _ _ (getElem?_eq_getElem hlt);obtain ⟨u,rfl,hu1⟩:=hone _ _ _ hr;haveI:InR (k:Int) xs.length:=⟨by omega,by omega⟩
  haveI:InI ((k:Int) + 1):=⟨by omega⟩
  intro K hK;refine aA ?_;refine bL (v:=u) (by have:=hat.mono hz3; rw [hE] at this; simpa using this) ?_;refine CO hm hz3 ?_;have hkl:=@kY St k;refine aO (fun e=>?_) (fun e=>?_)
  ·refine aA ?_
   refine jX (mk:=Value.int .i64) ?_;intro w4 hS4;haveI:cQ u [u]:=⟨by cases u <;> first | rfl | (cases hu1; done)⟩
   haveI:tL [u]:=⟨fun v hv=>by simp at hv; subst hv; exact hu1⟩
   have hbb:((bf St k).length + 1) * bytes <= 1000000 * 1000:=Nat.mul_le_mul (by omega) hbytes;refine cb hS4 ho (by simp only [room]; omega) (by simp only [room]; omega) (by decide) ?_;intro B5 v5 w5 ho5 hS5;refine hK _ _ fun _=>?_
   refine aA ?_;have hks:bf St (k + 1) = bf St k ++ [k]:=by rw [pj,if_pos e]
   refine back (k + 1) _ _ _ ⟨by simp,by omega,z3,B5,_,us ++ [u],hz3,by rw [hks,length_append]; exact ho5,⟨by rw [hks]; simp [hkr.len],fun v hv=>?_,fun j i hi=>?_⟩,fun n=>?_,hS5⟩ (by omega)
   ·rcases List.mem_append.1 hv with hv | hv
    ·exact hkr.one v hv
    ·simp at hv; subst hv; exact hu1
   ·rw [hks] at hi
    by_cases hj:j < (bf St k).length
    ·rw [getElem?_append_left hj] at hi
     obtain ⟨u',x',g1,g2,g3⟩:=hkr.at_ j i hi;exact ⟨u',x',by rw [getElem?_append_left (List.getElem?_eq_some_iff.1 g1).1]; exact g1,g2,g3⟩
    ·have hj2:j = (bf St k).length:=by
      have:=(List.getElem?_eq_some_iff.1 hi).1;simp at this; omega
     subst hj2;rw [getElem?_append_right (Nat.le_refl _),Nat.sub_self] at hi;simp at hi;subst hi;exact ⟨u,xs[k],by rw [getElem?_append_right (by rw [hkr.len]; exact Nat.le_refl _),hkr.len,Nat.sub_self]; rfl,getElem?_eq_getElem hlt,E.mono hr hz3⟩
   ·rw [oc,hlk n,kh,kh]
    by_cases e1:n = (k:Int)
    ·subst e1
     rw [if_pos rfl,if_neg (by omega),if_pos ⟨by omega,by omega,e⟩,Int.toNat_natCast]
    ·rw [if_neg e1]
     by_cases e2:n = -1
     ·rw [if_pos e2,if_pos e2]
     ·rw [if_neg e2,if_neg e2]
      by_cases e3:0 <= n/\n < k/\dp St n = true
      ·rw [if_pos e3,if_pos ⟨e3.1,by omega,e3.2.2⟩]
      ·rw [if_neg e3,if_neg (fun c=>e3 ⟨c.1,by omega,c.2.2⟩)]
  ·refine hK _ _ fun _=>?_
   refine aA ?_;have hks:bf St (k + 1) = bf St k:=by rw [pj,if_neg (by rw [e]; simp),append_nil]
   refine back (k + 1) _ _ _ ⟨by simp,by omega,z3,Bs,l,us,hz3,by rw [hks]; exact ho,by rw [hks]; exact hkr,fun n=>?_,hS3⟩ (by omega);rw [hlk n,kh,kh]
   by_cases e2:n = -1
   ·rw [if_pos e2,if_pos e2]
   ·rw [if_neg e2,if_neg e2]
    by_cases e3:0 <= n/\n < k/\dp St n = true
    ·rw [if_pos e3,if_pos ⟨e3.1,by omega,e3.2.2⟩]
    ·rw [if_neg e3,if_neg (fun c=>e3 ⟨c.1,by
      have:n ≠ k:=fun c2=>by rw [c2,e] at c; simp at c
      omega,c.2.2⟩)]
 ·have hk2:k = xs.length:=by omega
  subst hk2;exact ⟨_,_,hS3,_,mp,Bs,l,us,rfl,rfl,ho,hkr,hlk⟩)
def wh (S:Nat) (R:RP) (w:World) (t0:Value):Prop:=
 V (eq .eql S (.tmp 3) (.const (.slice none 0 0)) t0 (.slice none 0 0)) w fun t4 w=>aB t4
 (R (.slice none 0 0) w)
 (V (bs S 0 #[]) w fun t5 w=>V (Builtin.append_ #[S,S] S #[t5,t0]) w fun t7 w=>
 R t7 w)
theorem qG {α:Type} {E:El α} {S e n bytes fi:Nat} [g:fP S e n bytes] [gs:bF S e n] [gz:eb e n] (hE:E.size = n) (f:α->List Value) (hf:∀ z cs x,E.rel z cs x->cs = f x) (hr:∀ z z' cs x,E.rel z cs x->E.rel z' (f x) x) (hn:∀ x,(f x).length = n) (hone:∀ x,∀ u ∈ f x,gB u = true) (hbytes:bytes <= 1000)
  (h1:∀ {R:RP} {w:World} {t0:Value},wh S R w t0->Calls Tryz.prog fi #[t0] w (retK R)) {z:Z} {w:World} {v:Value} {xs:List α} (hx:SlR E z v xs) (hb:xs.length <= 1000000):Fn1 fi #[v] z w fun z' r=>SlR E z' r xs:=Fn1.intro fun hS=>h1 (by
 unfold wh;have hx':=hx;obtain ⟨a,cap,rfl,hc,hbig,hel⟩:=hx;refine aA ?_
 cases a with
 | none=>
  have:xs = []:=by
   by_cases hn:xs = []
   ·exact hn
   ·obtain ⟨b,off,h,_⟩:=hel hn; cases h
  subst this;refine ah ?_;exact ⟨_,_,hS,SlR.nil⟩
 | some a=>
  refine aj ?_;refine je rfl (by omega) ?_;intro b w1 hb1 hS1
  by_cases hne:xs = []
  ·subst hne
   refine Cu (xs:=[]) (sp:=[]) hS1 (by simp) (by simp) (by omega) ?_;exact ⟨_,_,hS1,some ⟨b,0,none⟩,0,rfl,Nat.le_refl _,by simp,fun h=>absurd rfl h⟩
  ·obtain ⟨b',off,cap',hv,_,hat⟩:=hx'.all f (fun z cs x h=>hf z cs x h) hne
   cases hv
   have hpos:0 < xs.length:=List.length_pos_iff.2 hne;have hbb:(0 + xs.length) * bytes <= 1000000 * 1000:=Nat.mul_le_mul (by omega) hbytes;refine xG (B:=[(b,.cells [].toArray e (0,0))]) (L:=[]) (n:=0) (xs:=[]) (news:=xs.flatMap f) hS1 ⟨by simp,.inr ⟨b,0,[],rfl,rfl,by omega,by simp [maxLen],by simp⟩⟩ (hat.world hS1.sub) (uY (f:=f) hn xs) (fun u hu=>?_) hpos (by simp only [room]; omega) (by simp only [room]; omega) ?_
   ·obtain ⟨x,_,hx⟩:=List.mem_flatMap.1 hu
    exact hone x u hx
   ·intro B2 v2 w2 ho2 hS2
    rw [Nat.zero_add,nil_append] at ho2;obtain ⟨z3,hz3,hS3,hv3⟩:=Res.freezeSl (E:=E) (e:=e) (f:=f) hS2 (by rw [hE]; exact ho2) hbig (fun x=>by rw [hn,hE]) (fun z' x hm=>by
     obtain ⟨j,hj⟩:=List.mem_iff_getElem?.1 hm;obtain ⟨b3,off3,_,h6⟩:=hel hne;obtain ⟨cs,h7,_⟩:=h6 j x hj;exact hr _ _ _ _ h7)
    exact ⟨_,_,hS3,hv3⟩)
theorem wN {z:Z} {w:World} {v:Value} {xs:List PartM} (hx:SlR El.part z v xs) (hb:xs.length <= 1000000):Fn1 67 #[v] z w fun z' r=>SlR El.part z' r xs:=
 qG (E:=El.part) (n:=3) rfl PartM.cells (fun z cs x h=>h.1) (fun z z' cs x h=>⟨rfl,h.2⟩) (fun _=>rfl) (fun x u hu=>by simp only [PartM.cells,mem_cons,not_mem_nil,or_false] at hu; rcases hu with rfl | rfl | rfl <;> rfl) (by decide) (fun h=>en67 h) hx hb
theorem wO {z:Z} {w:World} {v:Value} {xs:List ItemM} (hx:SlR El.item z v xs) (hb:xs.length <= 1000000):Fn1 68 #[v] z w fun z' r=>SlR El.item z' r xs:=
 qG (E:=El.item) (n:=2) rfl ItemM.cells (fun z cs x h=>h.1) (fun z z' cs x h=>⟨rfl,h.2⟩) (fun _=>rfl) (fun x u hu=>by simp only [ItemM.cells,mem_cons,not_mem_nil,or_false] at hu; rcases hu with rfl | rfl <;> rfl) (by decide) (fun h=>en68 h) hx hb
theorem yT {z:Z} {w:World} {v:Value} {xs:List ByteArray} (hx:SlR El.str z v xs) (hb:xs.length <= 1000000):Fn1 69 #[v] z w fun z' r=>SlR El.str z' r xs:=
 qG (E:=El.str) (n:=1) rfl (fun x=>[.string x]) (fun z cs x h=>h.1) (fun z z' cs x h=>⟨rfl,h.2⟩) (fun _=>rfl) (fun x u hu=>by simp only [mem_cons,not_mem_nil,or_false] at hu; subst hu; rfl) (by decide) (fun h=>en69 h) hx hb
theorem yu {z:Z} {w:World} {v:Value} {xs:List ByteArray} {m:Nat} {St:List Int} (hx:SlR El.str z v xs) (hm:z m = some (mK (Value.int .i64) (hM St))) (hl:xs.length <= 1000000) :
  Fn 63 #[v,.map (some m)] z [] w fun z' B' r=>∃ sl mp Bs l us,r = .tuple #[sl,.map (some mp)]/\B' = Bs ++ [(mp,mK (Value.int .i64) l)]/\OwnSl 9 1 Bs sl (bf St xs.length).length us/\KeptR El.str z' xs (bf St xs.length) us/\∀ n,fD l n = kh St xs.length n:=
 sE (E:=El.str) rfl (fun z cs x h=>⟨_,h.1,rfl⟩) (by decide) (fun h=>en63 h) hx hm hl
theorem xY {z:Z} {w:World} {v:Value} {xs:List (List PartM)} {m:Nat} {St:List Int} (hx:SlR (El.sl El.part) z v xs) (hm:z m = some (mK (Value.int .i64) (hM St))) (hl:xs.length <= 1000000) :
  Fn 64 #[v,.map (some m)] z [] w fun z' B' r=>∃ sl mp Bs l us,r = .tuple #[sl,.map (some mp)]/\B' = Bs ++ [(mp,mK (Value.int .i64) l)]/\OwnSl 93 1 Bs sl (bf St xs.length).length us/\KeptR (El.sl El.part) z' xs (bf St xs.length) us/\∀ n,fD l n = kh St xs.length n:=
 sE (E:=El.sl El.part) rfl (fun z cs x h=>by
  obtain ⟨v,rfl,hv⟩:=h;obtain ⟨_,a,k,rfl,_,_⟩:=hv.form;exact ⟨_,rfl,rfl⟩) (by decide) (fun h=>en64 h) hx hm hl
theorem xZ {z:Z} {w:World} {v:Value} {xs:List (List ItemM)} {m:Nat} {St:List Int} (hx:SlR (El.sl El.item) z v xs) (hm:z m = some (mK (Value.int .i64) (hM St))) (hl:xs.length <= 1000000) :
  Fn 65 #[v,.map (some m)] z [] w fun z' B' r=>∃ sl mp Bs l us,r = .tuple #[sl,.map (some mp)]/\B' = Bs ++ [(mp,mK (Value.int .i64) l)]/\OwnSl 96 1 Bs sl (bf St xs.length).length us/\KeptR (El.sl El.item) z' xs (bf St xs.length) us/\∀ n,fD l n = kh St xs.length n:=
 sE (E:=El.sl El.item) rfl (fun z cs x h=>by
  obtain ⟨v,rfl,hv⟩:=h;obtain ⟨_,a,k,rfl,_,_⟩:=hv.form;exact ⟨_,rfl,rfl⟩) (by decide) (fun h=>en65 h) hx hm hl
end
section
def qY (c:aH) (i:Nat):Bool:=(iO c).getD i false
def rK (c:aH) (k:Nat):List Nat:=(List.range k).filter (qY c)
theorem sc {c:aH} {k:Nat}:rK c (k + 1) = rK c k ++ (if qY c k = true then [k] else []):=by
 unfold rK;rw [range_succ,filter_append]
 cases h:qY c k <;> simp [h]
theorem zQ {c:aH} {k:Nat}:(rK c k).length <= k:=by
 have:=length_filter_le (qY c) (List.range k);rw [length_range] at this; exact this
def nz (c:aH) (i:Nat):Int:=if qY c i = true then ((rK c i).length:Int) else -1
def atV (c:aH) (k:Nat):List Value:=(List.range k).map (fun i=>Value.int .i64 (nz c i)) ++ replicate (c.ins.length - k) (.int .i64 0)
theorem og {c:aH} {k:Nat} (h:k <= c.ins.length):(atV c k).length = c.ins.length:=by simp [atV]; omega
theorem Bp {c:aH} {k:Nat} (h:k < c.ins.length):(atV c k).set k (.int .i64 (nz c k)) = atV c (k + 1):=by
 unfold atV;have hl:((List.range k).map (fun i=>Value.int .i64 (nz c i))).length = k:=by simp
 rw [set_append_right _ _ (by omega),hl,Nat.sub_self,show c.ins.length - k = (c.ins.length - (k + 1)) + 1 by omega,replicate_succ,set_cons_zero,range_succ,map_append,append_assoc]
 rfl
def atM (c:aH):List Int:=(List.range c.ins.length).map (nz c)
theorem tG {c:aH}:atV c c.ins.length = (atM c).flatMap fun x=>[Value.int .i64 x]:=by
 unfold atV atM;simp only [Nat.sub_self,replicate_zero,append_nil];generalize List.range c.ins.length = l
 induction l with
 | nil=>rfl
 | cons a l ih=>simp only [map_cons,flatMap_cons,ih]; rfl
structure UsM where
 s1:List Int
 s2:List Int
 s3:List Int
def oA (u:UsM) (kind n:Int):UsM:=if jR kind = 1 then ⟨dv u.s1 n,u.s2,u.s3⟩ else if jR kind = 2 then ⟨u.s1,dv u.s2 n,u.s3⟩ else if jR kind = 3 then ⟨u.s1,u.s2,dv u.s3 n⟩ else u
def kC (i:InsM) (k:Int):Int:=if k = 0 then i.a else if k = 1 then i.b else i.c
def ko (i:InsM) (k:Nat) (u:UsM):UsM:=(List.range k).foldl (fun u (j:Nat)=>oA u (eE i j) (kC i j)) u
theorem ve {i:InsM} {k:Nat} {u:UsM}:ko i (k + 1) u = oA (ko i k u) (eE i k) (kC i k):=by
 unfold ko; rw [range_succ,foldl_append]; rfl
def ib (c:aH) (k:Nat):UsM:=(rK c k).foldl (fun u j=>ko (aX c j) 3 u) ⟨[],[],[]⟩
theorem ox {c:aH} {k:Nat}:ib c (k + 1) = if qY c k = true then ko (aX c k) 3 (ib c k) else ib c k:=by
 unfold ib;rw [sc,foldl_append]
 cases qY c k <;> rfl
def cp (c:aH):UsM:=ib c c.ins.length
def xi (S:List Int) (n:Nat) (i:Int):Int:=if i = -1 then -1 else if 0 <= i/\i < n/\dp S i = true then ((bf S i.toNat).length:Int) else 0
theorem zW {S:List Int} {n:Nat} {i:Int}:(kh S n i).getD (.int .i64 0) = .int .i64 (xi S n i):=by
 unfold kh xi
 split
 ·rfl
 ·split <;> rfl
def iM (c:aH) (kind n:Int):Int:=
 if kind = 13 then (atM c).getD n.toNat 0 else if kind = 10 then xi (cp c).s2 c.tmpls.length n else if kind = 11 \/ kind = 12 then xi (cp c).s3 c.lists.length n else if jR kind = 1 then xi (cp c).s1 c.consts.length n else n
def lD (i:InsM) (k n:Int):InsM:=if k = 0 then { i with a:=n } else if k = 1 then { i with b:=n } else { i with c:=n }
def da (c:aH) (i:InsM) (k:Nat):InsM:=(List.range k).foldl (fun i (j:Nat)=>lD i j (iM c (eE i j) (kC i j))) i
theorem renewK_succ {c:aH} {i:InsM} {k:Nat}:da c i (k + 1) = lD (da c i k) k (iM c (eE (da c i k) k) (kC (da c i k) k)):=by
 unfold da; rw [range_succ,foldl_append]; rfl
def lM (c:aH) (i:InsM):InsM:=da c i 3
def gh {α:Type} (xs:List α) (ks:List Nat):List α:=ks.filterMap fun i=>xs[i]?
def bT (c:aH):aH where
 consts:=gh c.consts (bf (cp c).s1 c.consts.length)
 tmpls:=gh c.tmpls (bf (cp c).s2 c.tmpls.length)
 lists:=gh c.lists (bf (cp c).s3 c.lists.length)
 labels:=c.labels.map fun s=>⟨s.name,(atM c).getD s.at_.toNat 0⟩
 slots:=c.slots
 ins:=(rK c c.ins.length).map fun j=>lM c (aX c j)
def dU:aH:=⟨[],[],[],[],[],[]⟩
def ng (c:aH):aH:=if (ag c).1 = 0 then bT c else dU
def vB (c:aH):List Int:=if (ag c).1 = 0 then atM c else []
theorem qz {c:aH}:∀ (f:Nat) (r:RcM),(∀ a ∈ r.open_,a < r.set.length)->r.set.length = c.ins.length->(sI c f r).length = c.ins.length
 | 0,r,_,h=>h
 | f + 1,r,ho,h=>by
  unfold sI
  cases hl:r.open_.getLast? with
  | none=>exact h
  | some a=>
   simp only;have hlen:(jl c ⟨r.set,r.open_.dropLast⟩ a).set.length = c.ins.length:=by unfold jl; split <;> simp [h]
   refine qz f _ (fun x hx=>?_) hlen;rw [hlen];unfold jl at hx
   split at hx
   ·have:=ho x (dropLast_subset _ hx); omega
   ·rcases List.mem_append.1 hx with hx | hx
    ·have:=ho x (dropLast_subset _ hx); omega
    ·exact vC x hx
theorem vR {c:aH} (h:fx c = false):(iO c).length = c.ins.length:=by
 rw [iO,if_neg (by rw [h]; simp)];have hpos:0 < c.ins.length:=by
  rw [fx] at h;simp only [Bool.or_eq_false_iff,decide_eq_false_iff_not] at h;omega
 refine qz _ _ (fun a ha=>?_) (by simp);simp only [length_replicate];exact gX hpos a ha
theorem tn {c:aH} (h1:bH c = true) (h2:dR c = true):fx c = false:=by
 have:=dW h1;have:=im h2;rw [fx];simp only [Bool.or_eq_false_iff,decide_eq_false_iff_not];omega
theorem ww {n:Nat}:∀ {l:List SpotM} {last:Int},0 <= last->(dx (eV n) last l).1 = true->∀ s ∈ l,0 <= s.at_/\s.at_ < n
 | [],_,_,_,s,hs=>by cases hs
 | x :: l,last,h0,h,s,hs=>by
  rw [eM,show eV n last x = ((eV n last x).1,(eV n last x).2) from rfl] at h
  cases hx:(eV n last x).1 with
  | false=>rw [hx] at h; cases h
  | true=>
   rw [hx] at h;simp only [eV,Bool.and_eq_true] at hx;have hin:=inB_iff.1 hx.2
   rcases List.mem_cons.1 hs with rfl | hs
   ·omega
   ·exact ww (last:=(eV n last x).2) (by simp only [eV]; omega) h s hs
theorem nM {c:aH} (h:dR c = true):∀ s ∈ c.labels,0 <= s.at_/\s.at_ < c.ins.length:=by
 unfold dR at h;simp only [Bool.and_eq_true] at h;exact ww (by decide) h.2.2.2.2.1
theorem zY {c:aH} {i i':InsM} {k:Int} (h:bX c i = true) (ho:i'.op = i.op) (h0:k = 0 \/ k = 1 \/ k = 2) (hk:eE i' k = 13):0 <= kC i k/\kC i k < c.ins.length:=by
 unfold bX at h;simp only [Bool.and_eq_true] at h;have key:∀ n,bJ c 13 n = true->0 <= n/\n < c.ins.length:=fun n hn=>by
  have:bJ c 13 n = inB n 0 ((c.ins.length:Int) - 1):=by simp [bJ]
  rw [this] at hn;have:=inB_iff.1 hn;omega
 unfold eE at hk;rw [ho] at hk
 split at hk
 ·cases hk
 split at hk
 ·cases hk
 rcases h0 with rfl | rfl | rfl
 ·rw [if_pos rfl] at hk; rw [hk] at h; exact key _ h.2.1
 ·rw [if_neg (by decide),if_pos rfl] at hk; rw [hk] at h; exact key _ h.2.2.1
 ·rw [if_neg (by decide),if_neg (by decide)] at hk; rw [hk] at h; exact key _ h.2.2.2.1
end
end Go.Proofs.YtbeelfopmkbllaaGreatDoor
