/- Texts joined: C11, C12, Q19, C13, C14, Q20, C15, C16, Q21, C17, C18, C19, C20, C21, C22, C23, C24, C25, C26, C27, C28. -/
import Derived.Test.YtbeelfopmkbllaaGreatDoorM3
set_option linter.unusedSimpArgs false
set_option linter.unusedVariables false
set_option linter.unusedSectionVars false
set_option maxRecDepth 20000
set_option synthInstance.maxHeartbeats 4000000
set_option synthInstance.maxSize 20000
set_option maxHeartbeats 1000000
namespace Go.Proofs.YtbeelfopmkbllaaGreatDoor
section
open Go Q Go.RowKit
def replL (c:UInt8) (t:List UInt8):Nat->List UInt8->List UInt8
 | _,[]=>[]
 | 0,l=>l
 | k + 1,x :: l=>if x = c then t ++ replL c t k l else x :: replL c t (k + 1) l
def replK (s:ByteArray) (c:UInt8) (n:Int):Nat:=if n < 0 then (bytes s).count c else min n.toNat ((bytes s).count c)
def replB (s:ByteArray) (c:UInt8) (t:ByteArray) (n:Int):ByteArray:=⟨(replL c (bytes t) (replK s c n) (bytes s)).toArray⟩
theorem replL_zero (c:UInt8) (t l:List UInt8):replL c t 0 l = l:=by cases l <;> rfl
theorem replL_step {c:UInt8} {t:List UInt8} {k:Nat}:∀ {l:List UInt8} {i:Nat},l.findIdx? (· == c) = some i->replL c t (k + 1) l = l.take i ++ t ++ replL c t k (l.drop (i + 1))
 | [],i,h=>by cases h
 | x :: l,i,h=>by
  rw [List.findIdx?_cons] at h
  by_cases hx:x = c
  ·subst hx
   simp at h;subst h;simp [replL]
  ·have hx':(x == c) = false:=by simpa using hx
   rw [hx'] at h;simp only [Bool.false_eq_true,if_false,Option.map_eq_some_iff] at h;obtain ⟨j,h1,rfl⟩:=h;simp only [replL,if_neg hx];rw [replL_step h1];simp
theorem replL_len {c:UInt8} {t:List UInt8}:∀ (l:List UInt8) (k:Nat),(replL c t k l).length <= l.length + k * t.length
 | [],k=>by simp [replL]
 | x :: l,0=>by rw [replL_zero]; simp
 | x :: l,k + 1=>by
  simp only [replL]
  split
  ·have:=replL_len (c:=c) (t:=t) l k
   rw [List.length_append,List.length_cons,Nat.add_mul,Nat.one_mul]; omega
  ·have:=replL_len (c:=c) (t:=t) l (k + 1)
   simp only [List.length_cons]; omega
theorem bytes_extract (s:ByteArray) (i j:Nat):bytes (s.extract i j) = ((bytes s).drop i).take (j - i):=by
 show (s.extract i j).data.toList = _
 rw [ByteArray.data_extract,Array.toList_extract,List.extract_eq_take_drop]
theorem bytes_from (s:ByteArray) (i:Nat):bytes (s.extract i s.size) = (bytes s).drop i:=by
 rw [bytes_extract,List.take_of_length_le (by simp)]
theorem strCells_from (s:ByteArray) (i:Nat):Lib.strCells (s.extract i s.size) = Lib.byteCells ((bytes s).drop i):=by
 rw [Lib.strCells_eq]; exact congrArg _ (bytes_from s i)
instance {t:Nat} {s:ByteArray} {l h:Int} {k k':IntKind} [g:TyStr t] [hl:InR l (h + 1)] [hr:InR h (s.size + 1)]:Run (sl t (.string s) (some (.int k l)) (some (.int k' h)) none) (.string (s.extract l.toNat h.toNat)):=⟨fun w=>by
 have h1:h <= s.size:=by have:=hr.h1; omega
 have h2:l <= h:=by have:=hl.h1; omega
 have h3:l.toNat <= h.toNat:=by omega
 have h4:(l.toNat:Int) <= (h.toNat:Int):=by omega
 have h5:(h.toNat:Int) = h:=by have:=hr.h0; omega
 simp only [sl,Instr.sliceAt,Sem.run_bind,g.und,Result.andThen_ok,Instr.slice,Instr.sliceBounds,run_pure,Instr.sliceBound,asIntOf,pure_bind,hr.h0,hl.h0,h1,h2,h3,h4,h5,and_self,if_true,Option.isSome_none,Bool.false_eq_true,if_false]⟩
theorem findIdx_count {c:UInt8} {l:List UInt8} (h:0 < l.count c):∃ j,l.findIdx? (· == c) = some j/\j < l.length/\(l.drop (j + 1)).count c + 1 = l.count c:=by
 induction l with
 | nil=>simp at h
 | cons x l ih=>
  rw [List.findIdx?_cons]
  by_cases hx:x = c
  ·subst hx; exact ⟨0,by simp,by simp,by simp⟩
  ·have hx':(x == c) = false:=by simpa using hx
   rw [List.count_cons,hx'] at h;obtain ⟨j,h1,h2,h3⟩:=ih (by simpa using h);exact ⟨j + 1,by rw [hx',h1]; rfl,by simpa using h2,by rw [List.count_cons,hx']; simpa using h3⟩
class RepOk (s:ByteArray) (c:UInt8) (t:ByteArray) (n:Int):Prop where
 ne:b1 c ≠ t
 n0:n ≠ 0
 sz:s.size + (bytes s).count c * t.size <= 140737488355328
instance {s:ByteArray} {c:UInt8} {t:ByteArray} {n:Int} [h:RepOk s c t n]:Pu 236 #[.string s,.string (b1 c),.string t,.int .i64 n] (.string (replB s c t n)):=⟨fun z w=>Fn1.intro fun hS=>en236 (by
 unfold vc236;(repeat (first | refine V_run ?_ | refine JB ?_));refine Cond_b (fun h1=>?_) (fun h1=>?_)
 ·have:=h.ne; have:=h.n0; simp_all
 skip
 intro K hK;have hc0:(bytes s).count c <= s.size:=by rw [size_bytes]; exact List.count_le_length
 have hsz:=h.sz;have main:∀ (k:Nat) z3 w3,Le z z3->Res w z [] w3 z3 []->0 < k->k <= (bytes s).count c->k = replK s c n->K [.int .i64 k] w3:=by
  intro k z3 w3 hz3 hS3 hk0 hkc hk;refine hK _ _ fun _=>?_
  have hkt:k * t.size <= (bytes s).count c * t.size:=Nat.mul_le_mul_right _ hkc;have hmul:(k:Int) * ((t.size:Int) - 1) = ((k * t.size:Nat):Int) - k:=by rw [Int.mul_sub,Int.mul_one]; simp
  haveI:InI ((t.size:Int) - 1):=⟨by
   have:1 * t.size <= k * t.size:=Nat.mul_le_mul_right _ hk0;omega⟩
  haveI:InI ((k:Int) * ((t.size:Int) - 1)):=⟨by rw [hmul]; omega⟩
  haveI:InI ((s.size:Int) + (k:Int) * ((t.size:Int) - 1)):=⟨by rw [hmul]; omega⟩
  clear hS;(repeat (first | refine V_run ?_ | (refine iV_bx ?_; intro _ _ _ _)));rename_i b w4 hb hS4;refine CV_fn (B:=[(b,buO none (.slice none 0 0))]) (F:=[]) (by simpa using hS4) (growB (n:=(s.size:Int) + (k:Int) * ((t.size:Int) - 1)) (.inl rfl) (by rw [hmul]; omega) (by rw [hmul]; omega)) (by simp) ?_;rintro z5 B5 w5 v5 hz5 hS5 ⟨hB5,rfl⟩
  rw [List.append_nil] at hS5;clear hS3 hS4;intro K0 hK0;have fin0:∀ (st:Nat) (ys:List UInt8) z6 w6 B6,Res w z [] w6 z6 B6->BuOk b B6 (Lib.byteCells ys)->st <= s.size->replL c (bytes t) k (bytes s) = ys ++ (bytes s).drop st->K0 [.int .i64 st] w6:=by
   intro st ys z6 w6 B6 hS6 hB6 hst hys;refine hK0 _ _ fun _=>?_
   haveI:InR (st:Int) (s.size + 1):=⟨by omega,by omega⟩
   clear hS5;(repeat (refine V_run ?_));have hlen:=replL_len (c:=c) (t:=bytes t) (bytes s) k;rw [<- size_bytes,<- size_bytes] at hlen;have hly:ys.length + (s.size - st) <= 140737488355328:=by
    rw [hys,List.length_append,List.length_drop,<- size_bytes] at hlen;omega
   refine CV_fn (B:=B6) (F:=[]) (by simpa using hS6) (writeString hB6 (by
    rw [Lib.byteCells_length,size_bytes,bytes_from]; simp only [List.length_drop,room]; rw [<- size_bytes]; omega)) (by simp) ?_
   rintro z7 B7 w7 v7 hz7 hS7 ⟨hB7,rfl⟩
   rw [List.append_nil] at hS7;rw [strCells_from,<- Lib.byteCells_append] at hB7;rw [<- hys] at hB7;refine CV_fn (B:=B7) (F:=[]) (by simpa using hS7) (builderString hB7 (by simp only [room]; omega)) (by simp) ?_;rintro z8 B8 w8 v8 hz8 hS8 ⟨rfl,rfl⟩
   exact ⟨_,_,hS8,by rw [replB,hk]⟩
  (repeat (first | refine V_run ?_ | refine Cond_t ?_));refine LoopG2 (fun (p:Nat × Nat × List UInt8) x y w'=>x = .int .i64 p.2.1/\y = .int .i64 p.1/\p.1 <= k/\p.2.1 <= s.size/\replL c (bytes t) k (bytes s) = p.2.2 ++ replL c (bytes t) (k - p.1) ((bytes s).drop p.2.1)/\k - p.1 <= ((bytes s).drop p.2.1).count c/\∃ z' B',Res w z [] w' z' B'/\BuOk b B' (Lib.byteCells p.2.2)) (fun p=>k - p.1) (0,0,[]) ⟨rfl,rfl,Nat.zero_le _,Nat.zero_le _,rfl,by simpa using hkc,_,_,hS5,hB5⟩ ?_;rintro I M ⟨i,st,ys⟩ x y w6 m ⟨rfl,rfl,h2,h3,h4,h5,z6,B6,hS6,hB6⟩ back
  simp only at h2 h3 h4 h5 hB6;clear hS5;(repeat (refine V_run ?_));refine Cond_d (fun hi=>?_) (fun hi=>?_)
  ·have hcnt:0 < ((bytes s).drop st).count c:=by omega
   obtain ⟨j,hj1,hj2,hj3⟩:=findIdx_count hcnt;have hjl:st + j < s.size:=by rw [List.length_drop,<- size_bytes] at hj2; omega
   have hf:fidx (fun x=>x == c) (bytes (s.extract (st:Int).toNat s.size)) = (j:Int):=by
    rw [Int.toNat_natCast,bytes_from]; unfold fidx; rw [hj1]
   haveI:InR (st:Int) (s.size + 1):=⟨by omega,by omega⟩
   haveI:InI ((st:Int) + (j:Int)):=⟨by omega⟩
   haveI:InI ((st:Int) + (j:Int) + 1):=⟨by omega⟩
   haveI:InI ((i:Int) + 1):=⟨by omega⟩
   haveI:InR (st:Int) ((st:Int) + (j:Int) + 1):=⟨by omega,by omega⟩
   haveI:InR ((st:Int) + (j:Int)) (s.size + 1):=⟨by omega,by omega⟩
   (repeat (first | refine V_run ?_ | (refine CV_pu ?_; intro _ _ _ _)));rw [hf];(repeat (refine V_run ?_));rename_i z7 w7 hz7 hS7;clear hS6;dsimp only;have hk1:k - i = (k - (i + 1)) + 1:=by omega
   rw [hk1,replL_step hj1,List.drop_drop,show st + (j + 1) = st + j + 1 by omega] at h4;have hlen:=replL_len (c:=c) (t:=bytes t) (bytes s) k;rw [<- size_bytes,<- size_bytes,h4,List.length_append,List.length_append,List.length_append] at hlen;have ht1:bytes (s.extract (st:Int).toNat ((st:Int) + (j:Int)).toNat) = ((bytes s).drop st).take j:=by
    rw [bytes_extract,show (st:Int).toNat = st by omega,show ((st:Int) + (j:Int)).toNat - st = j by omega]
   have hsz1:(s.extract (st:Int).toNat ((st:Int) + (j:Int)).toNat).size = (((bytes s).drop st).take j).length:=by rw [size_bytes,ht1]
   have htl:(bytes t).length = t.size:=(size_bytes t).symm;refine CV_fn (B:=B6) (F:=[]) (by simpa using hS7) (writeString hB6 (by rw [Lib.byteCells_length,hsz1]; simp only [room]; omega)) (by simp) ?_;rintro z8 B8 w8 v8 hz8 hS8 ⟨hB8,rfl⟩
   rw [List.append_nil] at hS8;rw [Lib.strCells_eq,show (s.extract (st:Int).toNat ((st:Int) + (j:Int)).toNat).data.toList = _ from ht1,<- Lib.byteCells_append] at hB8;refine CV_fn (B:=B8) (F:=[]) (by simpa using hS8) (writeString (s:=t) hB8 (by rw [Lib.byteCells_length,List.length_append]; simp only [room]; omega)) (by simp) ?_;rintro z9 B9 w9 v9 hz9 hS9 ⟨hB9,rfl⟩
   rw [List.append_nil] at hS9;rw [Lib.strCells_eq,<- Lib.byteCells_append] at hB9;clear hS7 hS8;(repeat (refine V_run ?_));refine back (i + 1,st + j + 1,ys ++ ((bytes s).drop st).take j ++ bytes t) _ _ _ ⟨by simp,by simp,by simp only; omega,by simp only; omega,?_,?_,_,_,hS9,hB9⟩ (by simp only; omega)
   ·simp only
    rw [h4];simp only [List.append_assoc]
   ·simp only
    rw [List.drop_drop,show st + (j + 1) = st + j + 1 by omega] at hj3;omega
  ·exact fin0 st ys _ _ _ hS6 hB6 h3 (by rw [h4,show k - i = 0 by omega,replL_zero])
 refine CV_pu ?_;intro z3 w3 hz3 hS3;clear hS;refine V_run ?_;refine Cond_d (fun h2=>?_) (fun h2=>?_)
 ·refine ⟨_,_,hS3,?_⟩
  have h0:(bytes s).count c = 0:=by omega
  have hk:replK s c n = 0:=by unfold replK; rw [h0]; split <;> simp
  rw [replB,hk,replL_zero]
 ·have hpos:0 < (bytes s).count c:=by omega
  have hn0:=h.n0;(repeat (first | refine V_run ?_ | refine JB ?_));refine Cond_b (fun h3=>?_) (fun h3=>?_)
  ·refine main _ _ _ hz3 hS3 hpos (Nat.le_refl _) ?_
   unfold replK
   by_cases hn:n < 0
   ·rw [if_pos hn]
   ·rw [decide_eq_false hn] at h3; simp only [cond_false,decide_eq_true_eq,decide_eq_false_iff_not] at h3
    rw [if_neg hn]; omega
  ·by_cases hn:n < 0
   ·simp [hn] at h3
   ·rw [decide_eq_false hn] at h3; simp only [cond_false,decide_eq_true_eq,decide_eq_false_iff_not] at h3
    obtain ⟨m,rfl⟩:∃ m:Nat,n = m:=⟨n.toNat,by omega⟩
    exact main m _ _ hz3 hS3 (by omega) (by omega) (by unfold replK; rw [if_neg hn]; omega))⟩
end
section
open Go Q Go.RowKit
theorem extract_size (s:ByteArray) (i j:Nat):(s.extract i j).size <= s.size:=by rw [ByteArray.size_extract]; omega
def headE (s:ByteArray):ByteArray:=s.extract 0 (cutAt s 69).toNat
def tailE (s:ByteArray):ByteArray:=s.extract ((cutAt s 69).toNat + 1) s.size
def expB (s:ByteArray):Bool:=decide (0 <= cutAt s 69) && (decide (2 <= (tailE s).size) && ((decide (bt (tailE s) 0 = 43) || decide (bt (tailE s) 0 = 45)) && (decide ((bytes (headE s)).count 46 < 2) && (digitsB (replB (headE s) 46 ⟨#[]⟩ 1) && digitsB ((tailE s).extract 1 (tailE s).size)))))
class Short (s:ByteArray):Prop where
 h:s.size <= 1000000
instance {s:ByteArray} [h:Short s]:Sm s:=⟨by have:=h.h; simp only [big]; omega⟩
instance {s:ByteArray} {i j:Nat} [h:Short s]:Short (s.extract i j):=⟨Nat.le_trans (extract_size s i j) h.h⟩
instance {s:ByteArray} [h:Short s]:Short (headE s):=inferInstanceAs (Short (s.extract _ _))
instance {s:ByteArray} [h:Short s]:Short (tailE s):=inferInstanceAs (Short (s.extract _ _))
instance {s:ByteArray} [h:Short s]:RepOk s 46 ⟨#[]⟩ 1:=⟨by intro e; have:=congrArg ByteArray.size e; exact absurd this (by decide),by decide,by have:=h.h; show s.size + (bytes s).count 46 * 0 <= _; omega⟩
instance {s:ByteArray} [h:Short s]:Short (replB s 46 ⟨#[]⟩ 1):=⟨by
 have:=replL_len (c:=46) (t:=[]) (bytes s) (replK s 46 1);have h2:=h.h;rw [size_bytes]
 show (replL 46 [] (replK s 46 1) (bytes s)).toArray.toList.length <= _
 simp at this ⊢;omega⟩
instance {s:ByteArray} [hs:Short s]:Pu 222 #[.string s] (.bool (expB s)):=⟨fun z w=>Fn1.intro fun hS=>en222 (by
 unfold vc222;refine CV_pu ?_;intro z1 w1 hz1 hS1;clear hS;unfold cutV
 by_cases hc:0 <= cutAt s 69
 ·rw [if_pos hc,show s.extract 0 (cutAt s 69).toNat = headE s from rfl,show s.extract ((cutAt s 69).toNat + 1) s.size = tailE s from rfl]
  (repeat (first | refine V_run ?_ | refine JB ?_ | (refine J1 ?_; intro _ _)));refine Cond_b (fun h1=>?_) (fun h1=>?_)
  ·have h2:¬ 2 <= (tailE s).size:=by simp at h1; omega
   (repeat (first | refine Cond_t ?_ | refine K1 ?_));exact ⟨_,_,‹_›,by simp [expB,h2]⟩
  ·have h2:2 <= (tailE s).size:=by simp at h1; omega
   haveI:InStr (tailE s) 0:=⟨by decide,by omega⟩
   haveI:InR (1:Int) ((tailE s).size + 1):=⟨by decide,by omega⟩
   (repeat (first | refine V_run ?_ | refine JB ?_ | refine K1 ?_));refine Cond_b (fun h3=>?_) (fun h3=>?_)
   ·refine ⟨_,_,‹_›,?_⟩
    rw [expB,decide_eq_true hc,decide_eq_true h2]
    revert h3
    cases decide (bt (tailE s) 0 = 43) <;> cases decide (bt (tailE s) 0 = 45) <;> simp
   ·(repeat (first | refine V_run ?_ | (refine JC ?_; intro _ _ _ _) | (refine CV_pu ?_; intro _ _ _ _)))
    refine ⟨_,_,‹_›,?_⟩;rw [expB,decide_eq_true hc,decide_eq_true h2];rw [show decide ((((bytes (headE s)).count 46:Nat):Int) < 2) = decide ((bytes (headE s)).count 46 < 2) from decide_eq_decide.2 (by omega),show (Int.toNat 1) = 1 from rfl]
    revert h3
    cases decide (bt (tailE s) 0 = 43) <;> cases decide (bt (tailE s) 0 = 45) <;> cases decide ((bytes (headE s)).count 46 < 2) <;> cases digitsB (replB (headE s) 46 ⟨#[]⟩ 1) <;> simp
 ·rw [if_neg hc]
  (repeat (first | refine V_run ?_ | refine Cond_t ?_ | refine JB ?_ | (refine J1 ?_; intro _ _) | refine K1 ?_));exact ⟨_,_,‹_›,by simp [expB,hc]⟩)⟩
def symKind (s:ByteArray):Int:=
 if !inB s.size 1 40 || (!((bytes s).all symC) && !expB s) then 0
 else if inB (bt s 0) 48 57 || decide (bt s 0 = 46) then 1
 else if (bytes s).count 46 = 0 then 2 else if (bytes s).count 46 = 1/\lastB s 46 = true then 3 else 4
instance {s:ByteArray}:Pu 156 #[.string s] (.int .i64 (symKind s)):=⟨fun z w=>Fn1.intro fun hS=>en156 (by
 unfold vc156;(repeat (first | refine V_run ?_ | (refine CV_pu ?_; intro _ _ _ _)));intro K hK;have main:∀ (c:Bool) z3 w3,Le z z3->Res w z [] w3 z3 []->c = (!inB s.size 1 40 || (!((bytes s).all symC) && !expB s))->K [.bool c] w3:=by
  intro c z3 w3 hz3 hS3 hc;refine hK _ _ fun _=>?_
  clear hS;refine Cond_b (fun h=>?_) (fun h=>?_)
  ·exact ⟨_,_,hS3,by rw [symKind,<- hc,if_pos h]⟩
  ·have hin:inB s.size 1 40 = true:=by rw [h] at hc; cases hh:inB s.size 1 40 with
    | true=>rfl
    | false=>rw [hh] at hc; simp at hc
   have hin':=inB_iff.1 hin;haveI:InStr s 0:=⟨by decide,by omega⟩
   haveI:Short s:=⟨by omega⟩
   (repeat (first | refine V_run ?_ | refine JB ?_ | (refine CV_pu ?_; intro _ _ _ _)));have hw:IntKind.i64.wrap (bt s 0) = bt s 0:=wrap_in (by have:=bt_range s 0; unfold inI; omega);rw [hw];have hnot:¬ ((!inB s.size 1 40 || (!((bytes s).all symC) && !expB s)) = true):=by rw [<- hc,h]; simp
   refine Cond_b (fun h4=>?_) (fun h4=>?_)
   ·refine ⟨_,_,‹_›,?_⟩
    rw [symKind,if_neg hnot,if_pos (by revert h4; cases inB (bt s 0) 48 57 <;> simp)]
   ·have h5:¬ ((inB (bt s 0) 48 57 || decide (bt s 0 = 46)) = true):=by revert h4; cases inB (bt s 0) 48 57 <;> simp
    (repeat (refine V_run ?_));refine Cond_d (fun h6=>?_) (fun h6=>?_)
    ·exact ⟨_,_,‹_›,by rw [symKind,if_neg hnot,if_neg h5,if_pos (by omega)]⟩
    ·(repeat (first | refine V_run ?_ | (refine JC ?_; intro _ _ _ _)))
     refine Cond_b (fun h7=>?_) (fun h7=>?_)
     ·refine ⟨_,_,‹_›,?_⟩
      have h8:(bytes s).count 46 = 1/\lastB s 46 = true:=by
       by_cases e:(bytes s).count 46 = 1
       ·rw [decide_eq_true (by omega)] at h7; exact ⟨e,h7⟩
       ·rw [decide_eq_false (by omega)] at h7; cases h7
      rw [symKind,if_neg hnot,if_neg h5,if_neg (by omega),if_pos h8]
     ·refine ⟨_,_,‹_›,?_⟩
      have h8:¬ ((bytes s).count 46 = 1/\lastB s 46 = true):=by
       rintro ⟨e,e2⟩
       rw [decide_eq_true (by omega),e2] at h7; cases h7
      rw [symKind,if_neg hnot,if_neg h5,if_neg (by omega),if_neg h8]
 refine Cond_n (fun h=>?_) (fun h=>?_)
 ·exact main _ _ _ (by (repeat (assumption))) ‹_› (by rw [h]; rfl)
 ·have hin':=inB_iff.1 h
  haveI:Short s:=⟨by omega⟩
  refine V_cvb (by simp only [big]; omega) ?_;intro z5 w5 v5 hz5 hS5 hv;refine CV_1 (fam1 (E:=El.byte) (p:=symC) hv (fun z' w' cs x _ _ hr=>?_)) ?_
  ·cases hr
   exact (inferInstance:PuV (.func (.func 220) #[] #[]) #[.int .u8 x.toNat] (.bool (symC x))).h z' w'
  ·rintro z6 w6 v6 hle6 hS6 rfl
   (repeat (first | refine V_run ?_ | (refine JC ?_; intro _ _ _ _)));rename_i hSe;exact main _ _ _ (by (repeat (exact Res.zle (by assumption)))) hSe (by rw [h]; cases (bytes s).all symC <;> cases expB s <;> rfl))⟩
def varB (s:ByteArray):Bool:=decide (symKind s > 1)
instance {s:ByteArray}:Pu 153 #[.string s] (.bool (varB s)):=⟨fun z w=>Fn1.intro fun hS=>en153 (by
 unfold vc153;(repeat (first | refine V_run ?_ | (refine CV_pu ?_; intro _ _ _ _)));exact ⟨_,_,‹_›,rfl⟩)⟩
end
section
open Go Q Go.RowKit
class PuZ (z0:Z) (f:FuncId) (args:Array Value) (v:outParam Value):Prop where
 h:∀ z w,Le z0 z->Fn1 f args z w fun _ v'=>v' = v
section
variable {w0 w w':World} {z0 z z':Z} {B0 B B' L F:Bl} {b:Nat} {o:Obj} {C:Obj->Bl} {x y:Bool}
theorem CV_puz {K:Value->World->Prop} [hS:Res w0 z0 B0 w z L] {f:FuncId} [Enters f] {args:Array Value} {v:Value} [g:PuZ z0 f args v] (hk:∀ z' w',Le z z'->Res w0 z0 B0 w' z' L->K v w'):CV (.func (.func f) #[] #[]) args w K:=
 CV_fn1 hS (g.h z w hS.zle) (by simp) fun z' w' v' h1 h2 h3=>by subst h3; exact hk z' w' h1 h2
instance (priority:=900) PC.callz {f:FuncId} {args:Array Value} {v:Value} {G:(List Value->World->Prop)->Value->World->Prop} [hS:Res w0 z0 B0 w z L] [Enters f] [g:PuZ z0 f args v] [h:∀ q:Later w0 z0 B0 z L,PC (fun K=>G K v q.w) w0 z0 B0 q.z' L x] :
  PC (fun K=>CV (.func (.func f) #[] #[]) args w (G K)) w0 z0 B0 z L x:=⟨fun K hK=>CV_puz fun z' w' hz hS'=>(h ⟨z',w',hz,hS'⟩).h K fun z'' w'' hz' hS''=>hK z'' w'' (hz.trans hz') hS''⟩
theorem fRI_1 {A:Prop} [hS:Res w0 z0 B0 w z L] {t:TypeId} [g:TyOne t] {off:Nat} {v:Value} [h:Fz z0 b off [v]] (ha:A):RunIs (ld t (.pointer (some ⟨b,off,none⟩))) w v/\A:=⟨run_ld1 ((h.h.mono hS.zle).world hS.sub),ha⟩
end
structure Boxed (w0:World) (z0:Z) (B0:Bl) (z:Z) (L:Bl) (t:TypeId) (vs:List Value) where
 b:Nat
 w:World
 res:Res w0 z0 B0 w z ((b,.cells vs.toArray t (0,0)) :: L)
instance {w0:World} {z0 z:Z} {B0 L:Bl} {t:TypeId} {vs:List Value} {q:Boxed w0 z0 B0 z L t vs}:Res w0 z0 B0 q.w z ((q.b,.cells vs.toArray t (0,0)) :: L):=q.res
section
variable {w0 w w':World} {z0 z z':Z} {B0 B B' L F:Bl} {b:Nat} {o:Obj} {C:Obj->Bl} {x y:Bool}
instance PC.bx {t:TypeId} {v:Value} {vs:List Value} {G:(List Value->World->Prop)->Value->World->Prop} [hS:Res w0 z0 B0 w z L] [g:CellsOf v vs] [h:∀ q:Boxed w0 z0 B0 z L t vs,PC (fun K=>G K (.pointer (some ⟨q.b,0,none⟩)) q.w) w0 z0 B0 z ((q.b,.cells vs.toArray t (0,0)) :: L) x] :
  PC (fun K=>V (bx t v) w (G K)) w0 z0 B0 z L x:=⟨fun K hK=>V_bx (g:=g) hS fun b w' _ hS'=>(h ⟨b,w',hS'⟩).h K fun z'' w'' hz hS''=>hK z'' w'' hz (hS''.sublist (List.sublist_cons_self _ _))⟩
end
instance {t u:Nat} {a b:Int}:Run (Builtin.max_ #[t,t] u #[.int .i64 a,.int .i64 b]) (.int .i64 (max a b)):=⟨fun w=>by
 have h:(if b > a then b else a) = max a b:=by rw [Int.max_def]; split <;> split <;> omega
 simp only [Builtin.max_,List.foldlM_cons,List.foldlM_nil,Builtin.max2,h,pure_bind]
 rfl⟩
instance {l:List Value} {v:Value} [g:Get l 0 v]:At1 l 0 v:=⟨by decide,g.h⟩
instance {l:List Value} {v:Value} [g:Get l 1 v]:At1 l 1 v:=⟨by decide,g.h⟩
instance {l:List Value} {v:Value} [g:Get l 2 v]:At1 l 2 v:=⟨by decide,g.h⟩
instance {n:Nat}:InR 0 ((n + 1:Nat):Int):=⟨by decide,by omega⟩
instance {n:Nat}:InR 1 ((n + 2:Nat):Int):=⟨by decide,by omega⟩
instance {n:Nat}:InR 2 ((n + 3:Nat):Int):=⟨by decide,by omega⟩
instance:InI (0 + 1):=⟨by decide⟩
instance:InI (1 + 1):=⟨by decide⟩
instance:InI (2 + 1):=⟨by decide⟩
section
variable {α:Type} {w0 w:World} {z0 z:Z} {B0 L:Bl}
theorem LoopR1 [hS:Res w0 z0 B0 w z L] (Inv:α->Value->Prop) (μ:α->Nat) {body:(List Value->World->Prop)->(List Value->World->Nat)->Value->World->Nat->Prop} {x0:Value} (a0:α) (h0:Inv a0 x0)
  (hs:∀ I M a x w' z' m,Inv a x->Le z z'->Res w0 z0 B0 w' z' L->(∀ a' x' w'' z'',Inv a' x'->Le z' z''->Res w0 z0 B0 w'' z'' L->μ a' < μ a->I [x'] w''/\M [x'] w'' < m)->body I M x w' m) :
  ∃ (I:List Value->World->Prop) (M:List Value->World->Nat),I [x0] w/\∀ _:Env,∀ x,∀ w,I [x] w->∀ m,m = M [x] w->body I M x w m:=
 LoopG1 (fun a x w'=>Inv a x/\∃ z',Le z z'/\Res w0 z0 B0 w' z' L) μ a0 ⟨h0,z,Le.refl _,hS⟩ (fun I M a x w' m ⟨h1,z',h2,h3⟩ back=>hs I M a x w' z' m h1 h2 h3 fun a' x' w'' z'' h4 h5 h6 h7=>back a' x' w'' ⟨h4,z'',h2.trans h5,h6⟩ h7)
theorem LoopR2 [hS:Res w0 z0 B0 w z L] (Inv:α->Value->Value->Prop) (μ:α->Nat) {body:(List Value->World->Prop)->(List Value->World->Nat)->Value->Value->World->Nat->Prop} {x0 y0:Value} (a0:α) (h0:Inv a0 x0 y0)
  (hs:∀ I M a x y w' z' m,Inv a x y->Le z z'->Res w0 z0 B0 w' z' L->(∀ a' x' y' w'' z'',Inv a' x' y'->Le z' z''->Res w0 z0 B0 w'' z'' L->μ a' < μ a->I [x',y'] w''/\M [x',y'] w'' < m)->body I M x y w' m) :
  ∃ (I:List Value->World->Prop) (M:List Value->World->Nat),I [x0,y0] w/\∀ _:Env,∀ x,∀ y,∀ w,I [x,y] w->∀ m,m = M [x,y] w->body I M x y w m:=
 LoopG2 (fun a x y w'=>Inv a x y/\∃ z',Le z z'/\Res w0 z0 B0 w' z' L) μ a0 ⟨h0,z,Le.refl _,hS⟩ (fun I M a x y w' m ⟨h1,z',h2,h3⟩ back=>hs I M a x y w' z' m h1 h2 h3 fun a' x' y' w'' z'' h4 h5 h6 h7=>back a' x' y' w'' ⟨h4,z'',h2.trans h5,h6⟩ h7)
end
class KeyTy {κ:Type} [DecidableEq κ] (k:Nat) (mk:κ->Value):Prop where
 same:∃ d,(∀ w,(underlying k).run Tryz.prog w = .ok d w)/\∀ a b,Instr.sameNow d (mk a) (mk b) = some (decide (a = b))
 check:∀ e n w,(Instr.checkKey e 10000 k (mk n)).run Tryz.prog w = .ok () w
 bits:∀ a,Instr.sameBits 10000 (mk a) (mk a) = true
theorem bytes_beq (a b:ByteArray):(a == b) = decide (a = b):=by
 have h1:(a == b) = (a.data == b.data):=by cases a; cases b; rfl
 rw [h1,Bool.eq_iff_iff];simp only [beq_iff_eq,decide_eq_true_eq];exact ⟨fun h=>by cases a; cases b; simp_all,fun h=>by rw [h]⟩
theorem checkKey_str (d:Nat) {k:Nat} [gk:TyStr k] (e:Bool) (n:ByteArray) (w:World):(Instr.checkKey e (d + 1) k (.string n)).run Tryz.prog w = .ok () w:=by
 simp only [Instr.checkKey,Sem.run_bind,gk.und,Result.andThen_ok]
 rfl
instance {k:Nat} [gk:TyStr k]:KeyTy k Value.string where
 same:=⟨.string,gk.und,fun a b=>by simp only [Instr.sameNow,bytes_beq]⟩
 check:=fun e n w=>checkKey_str 9999 e n w
 bits:=fun a=>by simp only [Instr.sameBits,bytes_beq,decide_true]
instance {k:Nat} {kd:IntKind} [gk:TyInt k kd]:KeyTy k (Value.int kd) where
 same:=⟨.int kd,gk.und,fun a b=>by simp only [Instr.sameNow,if_true,Bool.beq_eq_decide_eq]⟩
 check:=fun e n w=>checkKey_run e n w
 bits:=fun a=>by simp [Instr.sameBits]
section
variable {κ:Type} [DecidableEq κ]
def ent (mk:κ->Value) (l:List (κ × Value)):List MapEntry:=l.zipIdx.map fun p=>{ key:=mk p.1.1,val:=p.1.2,born:=p.2 }
def mK (mk:κ->Value) (l:List (κ × Value)):Obj:=.map (ent mk l).toArray l.length
def atK (l:List (κ × Value)) (n:κ):Option (Nat × Value):=(l.findIdx? fun p=>decide (p.1 = n)).bind fun m=>(l[m]?).map fun p=>(m,p.2)
def getK (l:List (κ × Value)) (n:κ):Option Value:=(atK l n).map (·.2)
def upK (l:List (κ × Value)) (n:κ) (v:Value):List (κ × Value):=match atK l n with | some p=>l.set p.1 (n,v) | none=>l ++ [(n,v)]
theorem findNowK {mk:κ->Value} {d:TypeDesc} (hd:∀ a b,Instr.sameNow d (mk a) (mk b) = some (decide (a = b))) (n:κ):∀ (l:List (κ × Value)) (j i:Nat),
  Instr.findNow d (mk n) ((l.zipIdx j).map fun p=>({ key:=mk p.1.1,val:=p.1.2,born:=p.2 }:MapEntry)) i = some ((l.findIdx? fun p=>decide (p.1 = n)).bind fun m=>(l[m]?).map fun p=>(i + m,p.2)):=by
 intro l
 induction l with
 | nil=>intro j i; rfl
 | cons p l ih=>
  intro j i;simp only [List.zipIdx_cons,List.map_cons,Instr.findNow,hd];rw [List.findIdx?_cons]
  by_cases h:p.1 = n
  ·subst h; simp
  ·have h':¬ n = p.1:=fun e=>h e.symm
   simp only [decide_eq_false h,decide_eq_false h',Bool.false_eq_true,if_false,ih (j + 1) (i + 1)]
   cases l.findIdx? (fun p=>decide (p.1 = n)) with
   | none=>rfl
   | some m=>simp [Nat.add_comm,Nat.add_left_comm,Nat.add_assoc]
theorem findKeyK {k:Nat} {mk:κ->Value} [g:KeyTy k mk] (n:κ) (l:List (κ × Value)) (w:World):(Instr.findKey k (mk n) (ent mk l)).run Tryz.prog w = .ok (atK l n) w:=by
 obtain ⟨d,h1,h2⟩:=g.same;simp only [Instr.findKey,Sem.run_bind,h1,Result.andThen_ok,ent,findNowK h2 n l 0 0,Nat.zero_add]
 rfl
theorem getK_nil (n:κ):getK ([]:List (κ × Value)) n = none:=rfl
theorem getK_find (l:List (κ × Value)) (n:κ):getK l n = (l.find? fun p=>decide (p.1 = n)).map (·.2):=by
 unfold getK atK
 induction l with
 | nil=>rfl
 | cons p l ih=>
  rw [List.findIdx?_cons,List.find?_cons]
  cases h:decide (p.1 = n) with
  | true=>simp
  | false=>
   simp only [Bool.false_eq_true,if_false];rw [<- ih]
   cases l.findIdx? (fun p=>decide (p.1 = n)) <;> simp [Function.comp_def]
theorem atK_some {l:List (κ × Value)} {n:κ} {p:Nat × Value} (h:atK l n = some p):l[p.1]? = some (n,p.2)/\∀ j,j < p.1->∀ q,l[j]? = some q->q.1 ≠ n:=by
 unfold atK at h;obtain ⟨m,h1,h2⟩:=Option.bind_eq_some_iff.1 h;obtain ⟨q,h3,h4⟩:=Option.map_eq_some_iff.1 h2;rw [List.findIdx?_eq_some_iff_getElem] at h1;obtain ⟨hlt,h5,h6⟩:=h1;subst h4;have hq:l[m] = q:=by rw [List.getElem?_eq_getElem hlt] at h3; exact Option.some.inj h3
 refine ⟨?_,fun j hj q' hq'=>?_⟩
 ·simp only [hq,decide_eq_true_eq] at h5
  rw [h3,<- h5]
 ·have:=h6 j hj
  rw [List.getElem?_eq_getElem (by simp only at hj; omega)] at hq'
  cases hq'
  simpa using this
theorem getK_none {l:List (κ × Value)} {n:κ}:atK l n = none->∀ p ∈ l,p.1 ≠ n:=by
 intro h p hp e;have h2:getK l n = none:=by unfold getK; rw [h]; rfl
 rw [getK_find] at h2;have h3:=Option.map_eq_none_iff.1 h2;rw [List.find?_eq_none] at h3;exact h3 p hp (by simpa using e)
theorem getK_up {l:List (κ × Value)} {n m:κ} {v:Value}:getK (upK l n v) m = if m = n then some v else getK l m:=by
 unfold upK
 cases h:atK l n with
 | none=>
  simp only [getK_find,List.find?_append]
  by_cases hm:m = n
  ·subst hm
   have:l.find? (fun p=>decide (p.1 = m)) = none:=List.find?_eq_none.2 fun p hp=>by simpa using getK_none h p hp
   rw [this,if_pos rfl]; simp
  ·have h':¬ n = m:=fun e=>hm e.symm
   rw [if_neg hm];simp [h']
 | some p=>
  obtain ⟨h1,h2⟩:=atK_some h;simp only [getK_find];have hlt:=(List.getElem?_eq_some_iff.1 h1).1;have hs:l = l.take p.1 ++ (n,p.2) :: l.drop (p.1 + 1):=by
   rw [<- (List.getElem?_eq_some_iff.1 h1).2,<- List.drop_eq_getElem_cons hlt,List.take_append_drop]
  have hset:l.set p.1 (n,v) = l.take p.1 ++ (n,v) :: l.drop (p.1 + 1):=List.set_eq_take_append_cons_drop.trans (if_pos hlt);rw [hset]
  conv=>rhs; rw [hs]
  simp only [List.find?_append,List.find?_cons]
  by_cases hm:m = n
  ·subst hm
   have:(l.take p.1).find? (fun p=>decide (p.1 = m)) = none:=List.find?_eq_none.2 fun q hq=>by
    obtain ⟨j,hj⟩:=List.mem_iff_getElem?.1 hq;have hjl:=(List.getElem?_eq_some_iff.1 hj).1;rw [List.length_take] at hjl;rw [List.getElem?_take_of_lt (by omega)] at hj
    simpa using h2 j (by omega) q hj
   simp [this]
  ·have h':¬ n = m:=fun e=>hm e.symm
   simp [hm,h']
theorem ent_set {mk:κ->Value} {l:List (κ × Value)} {i:Nat} {n:κ} {v:Value} (hi:i < l.length):(ent mk l).toArray.modify i (fun e=>{ e with key:=mk n,val:=v }) = (ent mk (l.set i (n,v))).toArray:=by
 apply Array.ext_getElem?
 intro j;rw [Array.getElem?_modify];simp only [List.getElem?_toArray,ent,List.getElem?_map,List.getElem?_zipIdx,Nat.zero_add]
 by_cases hj:i = j
 ·subst hj
  simp [hi]
 ·rw [if_neg hj,List.getElem?_set_ne hj]
end
section
variable {κ:Type} [DecidableEq κ] {w0 w w':World} {z0 z z':Z} {B0 B B' L F:Bl} {b:Nat} {o:Obj} {C:Obj->Bl} {K:Value->World->Prop}
theorem kV_mm [hS:Res w0 z0 B0 w z L] {t:TypeId} (mk:κ->Value) (hk:∀ b w',w0.heap.size <= b->Res w0 z0 B0 w' z ((b,mK mk []) :: L)->K (.map (some b)) w'):V (mm t none) w K:=by
 refine ⟨_,_,?_,hk w.heap.size _ hS.size (hS.new (mK mk []))⟩;simp only [mm,Instr.makeMap,Sem.run_bind,newObj,Sem.run,Result.andThen_ok]
 rfl
theorem run_muK {t k e:Nat} {mk:κ->Value} [g:TyMap t k e] [gk:KeyTy k mk] {n:κ} {v:Value} {l:List (κ × Value)} (hat:w.heap[b]? = some (mK mk l)) :
  (mu t (.map (some b)) (mk n) v).run Tryz.prog w = .ok () { w with heap:=w.heap.setIfInBounds b (mK mk (upK l n v)) }:=by
 simp only [mu,Instr.mapUpdate,Sem.run_bind,g.und,Result.andThen_ok];rw [getObj_run hat (by intros; simp [mK])];simp only [mK,Result.andThen_ok,Sem.run_bind,gk.check,findKeyK];unfold upK
 cases h:atK l n with
 | none=>
  simp only;rw [setObj_run hat (by intros; simp [mK])];simp [ent,List.zipIdx_append]
 | some p=>
  obtain ⟨h1,h2⟩:=atK_some h;have hlt:=(List.getElem?_eq_some_iff.1 h1).1;have hkey:(((ent mk l).toArray[p.1]?).map (·.key)).getD (mk n) = mk n:=by
   simp [ent,h1]
  simp only [hkey,Instr.keyThatStays,gk.bits,if_true,run_pure,Result.andThen_ok,Sem.run_bind];rw [setObj_run hat (by intros; simp [mK]),ent_set hlt];simp
theorem kU_mu {K:World->Prop} [hS:Res w0 z0 B0 w z L] {t k e:Nat} {mk:κ->Value} [g:TyMap t k e] [gk:KeyTy k mk] {n:κ} {v:Value} {l:List (κ × Value)} [gb:Blk L b (mK mk l) C]
  (hk:∀ w',Res w0 z0 B0 w' z (C (mK mk (upK l n v)))->K w'):U (mu t (.map (some b)) (mk n) v) w K:=
 ⟨_,run_muK (Res.at_ (g:=gb) hS),hk _ (Res.set (g:=gb) hS (mK mk (upK l n v)) rfl)⟩
theorem run_lkK {t k e:Nat} {mk:κ->Value} [g:TyMap t k e] [gk:KeyTy k mk] {n:κ} {zv:Value} {l:List (κ × Value)} (hat:w.heap[b]? = some (mK mk l)) (hz:∀ w,(zeroValue e).run Tryz.prog w = .ok zv w) (c:Bool) :
  (lk t (.map (some b)) (mk n) c).run Tryz.prog w = .ok (if c then .tuple #[(getK l n).getD zv,.bool (getK l n).isSome] else (getK l n).getD zv) w:=by
 simp only [lk,Instr.lookup,Sem.run_bind,g.und,Result.andThen_ok];rw [getObj_run hat (by intros; simp [mK])];simp only [mK,Result.andThen_ok,Sem.run_bind,gk.check,findKeyK,run_pure];unfold getK
 cases h:atK l n with
 | none=>simp only [Sem.run_bind,hz,Result.andThen_ok,run_pure]; rfl
 | some p=>simp only [run_pure,Result.andThen_ok]; rfl
theorem kV_lk [hS:Res w0 z0 B0 w z L] {t k e:Nat} {mk:κ->Value} {zv:Value} [g:TyMap t k e] [gk:KeyTy k mk] [gz:ZeroV e zv] {n:κ} {l:List (κ × Value)} [gb:Blk L b (mK mk l) C] {c:Bool}
  (hk:K (if c then .tuple #[(getK l n).getD zv,.bool (getK l n).isSome] else (getK l n).getD zv) w):V (lk t (.map (some b)) (mk n) c) w K:=⟨_,w,run_lkK (Res.at_ (g:=gb) hS) gz.h c,hk⟩
theorem kHV_lk {K:Value->Prop} [hS:Res w0 z0 B0 w z L] {t k e:Nat} {mk:κ->Value} {zv:Value} [g:TyMap t k e] [gk:KeyTy k mk] [gz:ZeroV e zv] {n:κ} {l:List (κ × Value)} [gb:Blk L b (mK mk l) C] {c:Bool}
  (hk:K (if c then .tuple #[(getK l n).getD zv,.bool (getK l n).isSome] else (getK l n).getD zv)):HV (lk t (.map (some b)) (mk n) c) w K:=⟨_,run_lkK (Res.at_ (g:=gb) hS) gz.h c,hk⟩
end
end
section
open Go Q Go.RowKit
class CodeZ (z0:Z) (v:Value) (c:outParam CodeM):Prop where
 h:CodeR z0 v c
theorem CodeR.form {z:Z} {v:Value} {c:CodeM} (h:CodeR z v c):∃ a1 a2 a3 a4 a5 a6 k1 k2 k3 k4 k5 k6,v = .agg [.slice a1 c.consts.length k1,.slice a2 c.tmpls.length k2,.slice a3 c.lists.length k3,.slice a4 c.labels.length k4,.slice a5 c.slots.length k5,.slice a6 c.ins.length k6].toArray /\
  SlR El.str z (.slice a1 c.consts.length k1) c.consts/\SlR (El.sl El.part) z (.slice a2 c.tmpls.length k2) c.tmpls/\SlR (El.sl El.item) z (.slice a3 c.lists.length k3) c.lists/\SlR El.spot z (.slice a4 c.labels.length k4) c.labels/\SlR El.str z (.slice a5 c.slots.length k5) c.slots/\SlR El.ins z (.slice a6 c.ins.length k6) c.ins:=by
 obtain ⟨v1,v2,v3,v4,v5,v6,rfl,h1,h2,h3,h4,h5,h6⟩:=h.h;obtain ⟨_,a1,k1,rfl,_,_⟩:=h1.form;obtain ⟨_,a2,k2,rfl,_,_⟩:=h2.form;obtain ⟨_,a3,k3,rfl,_,_⟩:=h3.form;obtain ⟨_,a4,k4,rfl,_,_⟩:=h4.form;obtain ⟨_,a5,k5,rfl,_,_⟩:=h5.form;obtain ⟨_,a6,k6,rfl,_,_⟩:=h6.form;exact ⟨a1,a2,a3,a4,a5,a6,k1,k2,k3,k4,k5,k6,rfl,h1,h2,h3,h4,h5,h6⟩
theorem SlR.big {α:Type} {E:El α} {z:Z} {v:Value} {xs:List α} (h:SlR E z v xs):xs.length <= big:=h.form.1
theorem inI_len {n:Nat} (h:n <= big):InI ((n:Int) - 1):=⟨by simp only [Go.Proofs.YtbeelfopmkbllaaGreatDoor.big] at h; omega⟩
def namedM (c:CodeM) (n:Int) (p:ByteArray->Bool):Bool:=inB n 0 ((c.consts.length:Int) - 1) && p (c.consts.getD n.toNat ⟨#[]⟩)
theorem named {z:Z} {w:World} {v fv:Value} {c:CodeM} {n:Int} {p:ByteArray->Bool} (hc:CodeR z v c) (hf:∀ z' w' s,Le z z'->s ∈ c.consts->Va1 fv #[.string s] z' w' fun _ r=>r = .bool (p s)) :
  Fn1 228 #[v,.int .i64 n,fv] z w fun _ r=>r = .bool (namedM c n p):=Fn1.intro fun hS=>en228 (by
 unfold vc228;obtain ⟨a1,a2,a3,a4,a5,a6,k1,k2,k3,k4,k5,k6,rfl,h1,h2,h3,h4,h5,h6⟩:=hc.form;haveI:=inI_len h1.big;(repeat (first | refine V_run ?_ | refine iV_ld1 ?_ | (refine iV_bx ?_; intro _ _ _ _) | (refine J1 ?_; intro _ _) | (refine CV_pu ?_; intro _ _ _ _)));refine Cond_b (fun h=>?_) (fun h=>?_)
 ·have hn:=inB_iff.1 h
  haveI:InR n (c.consts.length:Nat):=⟨by omega,by omega⟩
  have hlt:n.toNat < c.consts.length:=by omega
  obtain ⟨_,a,k,he,hk,hel⟩:=h1.form
  cases he
  obtain ⟨b,off,cs,rfl,⟨rfl,hs⟩,hat⟩:=hel _ _ (List.getElem?_eq_getElem hlt);(repeat (first | refine V_run ?_ | refine iV_ld1 ?_));rename_i hS2;refine zV_ld1 (hat.mono hS2.zle) ?_;refine CV_va1 hS2 (hf _ _ _ hS2.zle (List.getElem_mem hlt)) ?_;rintro z3 w3 v3 hz3 hS3 rfl
  (repeat (refine K1 ?_));exact ret_eq (by rw [namedM,h,List.getD_eq_getElem?_getD,List.getElem?_eq_getElem hlt]; rfl)
 ·(repeat (refine K1 ?_))
  exact ret_eq (by rw [namedM,h]; rfl))
theorem Va1.mono {f:Value} {args:Array Value} {z:Z} {w:World} {R R':Z->Value->Prop} (h:Va1 f args z w R) (hr:∀ z' v,R z' v->R' z' v):Va1 f args z w R':=fun ho=>CallV.mono (h ho) fun v w' ⟨z',h1,h2⟩=>⟨z',h1,hr _ _ h2⟩
theorem puV {f:Value} {args:Array Value} {v:Value} [g:PuV f args v] {z:Z} {w:World}:Va1 f args z w fun _ v'=>v' = v:=g.h z w
theorem good1 {z:Z} {w:World} {k:Int}:Fn1 225 #[.int .i64 k] z w fun z' v=>∃ b,v = .func (.func 226) #[] #[.pointer (some ⟨b,0,none⟩)]/\At z' b 0 [.int .i64 k]:=Fn1.intro fun hS=>en225 (by
 unfold vc225;refine iV_bx ?_;intro b w1 hb hS1;exact ⟨_,_,hS1.freeze,b,rfl,_,_,_,if_pos rfl,fun j u hu=>by simpa using hu⟩)
theorem good11 {z:Z} {w:World} {b:Nat} {k:Int} {s:ByteArray} (ha:At z b 0 [.int .i64 k]):Va1 (.func (.func 226) #[] #[.pointer (some ⟨b,0,none⟩)]) #[.string s] z w fun _ r=>r = .bool (decide (symKind s = k)):=
 Fn1.va (args':=#[.string s,.pointer (some ⟨b,0,none⟩)]) (Fn1.intro fun hS=>en226 (by
  unfold vc226;haveI:Fz z b 0 [.int .i64 k]:=⟨ha⟩
  (repeat (first | (refine iDr ?_; intro _ _) | refine PV_run ?_ | (refine CV_pu ?_; intro _ _ _ _) | refine fRI_1 ?_ | refine fHV_ld1 ?_));rename_i hS2;exact ⟨_,_,hS2,rfl⟩)) (by simp)
instance {s:ByteArray}:Pu 227 #[.string s] (.bool true):=⟨fun z w=>Fn1.intro fun hS=>en227 (by
 unfold vc227;exact ⟨_,_,hS,rfl⟩)⟩
def kindIs (k:Int) (s:ByteArray):Bool:=decide (symKind s = k)
def goodM (c:CodeM) (kind n:Int):Bool:=
 if kind = 1 then inB n 1 20000 else if kind = 8 then (decide (n = -1) || namedM c n fun _=>true) else if kind = 2 then namedM c n fun _=>true
 else if kind = 3 then namedM c n (kindIs 2) else if kind = 4 then namedM c n (kindIs 3) else if kind = 5 then namedM c n (kindIs 4) else if kind = 6 then namedM c n varB
 else if kind = 7 then (namedM c n (kindIs 2) || namedM c n (kindIs 4)) else if kind = 9 then inB n 0 ((c.slots.length:Int) - 1) else if kind = 10 then inB n 0 ((c.tmpls.length:Int) - 1)
 else if kind = 12 then (decide (n = -1) || inB n 0 ((c.lists.length:Int) - 1)) else if kind = 11 then inB n 0 ((c.lists.length:Int) - 1) else if kind = 13 then inB n 0 ((c.ins.length:Int) - 1) else rangedM kind n
theorem good_of {z:Z} {w:World} {v:Value} {c:CodeM} {kind n:Int} (hc:CodeR z v c):Fn1 157 #[v,.int .i64 kind,.int .i64 n] z w fun _ r=>r = .bool (goodM c kind n):=Fn1.intro fun hS=>en157 (by
 unfold vc157;obtain ⟨a1,a2,a3,a4,a5,a6,k1,k2,k3,k4,k5,k6,rfl,h1,h2,h3,h4,h5,h6⟩:=hc.form;have hc':=hc;haveI:=inI_len h2.big;haveI:=inI_len h3.big;haveI:=inI_len h5.big;haveI:=inI_len h6.big;refine iV_bx ?_;intro b w1 hb hS1;clear hS;intro Ka hKa;have main0:∀ r,goodM c kind n = r->r = inB n 0 ((c.lists.length:Int) - 1)->Ka [] w1:=by
  intro r hr he;refine hKa _ fun _=>?_
  (repeat (first | refine V_run ?_ | refine iV_ld1 ?_ | (refine CV_pu ?_; intro _ _ _ _)));rename_i hS2;exact ⟨_,_,hS2,by rw [hr,he]⟩
 clear hKa;intro Kb hKb;have main1:goodM c kind n = namedM c n (fun _=>true)->Kb [] w1:=by
  intro hr;refine hKb _ fun _=>?_
  (repeat (refine iV_ldN ?_));refine CV_1 (named (p:=fun _=>true) hc (fun z' w' s hz hs=>puV)) ?_;rintro z3 w3 v3 hz3 hS3 rfl
  exact ⟨_,_,hS3,by rw [hr]⟩
 clear hKb;(repeat (refine V_run ?_));refine Cond_d (fun e1=>?_) (fun e1=>?_)
 ·(repeat (refine CV_pu ?_; intro _ _ _ _))
  rename_i hS2;exact ⟨_,_,hS2,by rw [goodM,if_pos e1]⟩
 (repeat (refine V_run ?_));refine Cond_d (fun e2=>?_) (fun e2=>?_)
 ·(repeat (refine V_run ?_))
  refine Cond_d (fun e3=>?_) (fun e3=>?_)
  ·exact ⟨_,_,hS1,by rw [goodM,if_neg e1,if_pos e2,decide_eq_true e3]; rfl⟩
  ·exact main1 (by rw [goodM,if_neg e1,if_pos e2,decide_eq_false e3]; rfl)
 (repeat (refine V_run ?_));refine Cond_d (fun e3=>?_) (fun e3=>?_)
 ·exact main1 (by rw [goodM,if_neg e1,if_neg e2,if_pos e3])
 (repeat (refine V_run ?_));refine Cond_d (fun e4=>?_) (fun e4=>?_)
 ·(repeat (first | (refine iDr ?_; intro _ _) | refine iHV_N ?_))
  refine CV_1 good1 ?_;rintro z3 w3 v3 hz3 hS3 ⟨b3,rfl,hb3⟩
  (repeat (refine iRI_N ?_));refine CV_1 (named (p:=kindIs 2) (hc.mono hS3.zle) (fun z' w' s hz hs=>good11 (hb3.mono hz))) ?_;rintro z4 w4 v4 hz4 hS4 rfl
  exact ⟨_,_,hS4,by rw [goodM,if_neg e1,if_neg e2,if_neg e3,if_pos e4]⟩
 (repeat (refine V_run ?_));refine Cond_d (fun e5=>?_) (fun e5=>?_)
 ·(repeat (first | (refine iDr ?_; intro _ _) | refine iHV_N ?_))
  refine CV_1 good1 ?_;rintro z3 w3 v3 hz3 hS3 ⟨b3,rfl,hb3⟩
  (repeat (refine iRI_N ?_));refine CV_1 (named (p:=kindIs 3) (hc.mono hS3.zle) (fun z' w' s hz hs=>good11 (hb3.mono hz))) ?_;rintro z4 w4 v4 hz4 hS4 rfl
  exact ⟨_,_,hS4,by rw [goodM,if_neg e1,if_neg e2,if_neg e3,if_neg e4,if_pos e5]⟩
 (repeat (refine V_run ?_));refine Cond_d (fun e6=>?_) (fun e6=>?_)
 ·(repeat (first | (refine iDr ?_; intro _ _) | refine iHV_N ?_))
  refine CV_1 good1 ?_;rintro z3 w3 v3 hz3 hS3 ⟨b3,rfl,hb3⟩
  (repeat (refine iRI_N ?_));refine CV_1 (named (p:=kindIs 4) (hc.mono hS3.zle) (fun z' w' s hz hs=>good11 (hb3.mono hz))) ?_;rintro z4 w4 v4 hz4 hS4 rfl
  exact ⟨_,_,hS4,by rw [goodM,if_neg e1,if_neg e2,if_neg e3,if_neg e4,if_neg e5,if_pos e6]⟩
 (repeat (refine V_run ?_));refine Cond_d (fun e7=>?_) (fun e7=>?_)
 ·(repeat (refine iV_ldN ?_))
  refine CV_1 (named (p:=varB) hc (fun z' w' s hz hs=>puV)) ?_;rintro z4 w4 v4 hz4 hS4 rfl
  exact ⟨_,_,hS4,by rw [goodM,if_neg e1,if_neg e2,if_neg e3,if_neg e4,if_neg e5,if_neg e6,if_pos e7]⟩
 (repeat (refine V_run ?_));refine Cond_d (fun e8=>?_) (fun e8=>?_)
 ·(repeat (first | (refine iDr ?_; intro _ _) | refine iHV_N ?_ | (refine J1 ?_; intro _ _)))
  refine CV_1 good1 ?_;rintro z3 w3 v3 hz3 hS3 ⟨b3,rfl,hb3⟩
  (repeat (refine iRI_N ?_));refine CV_1 (named (p:=kindIs 2) (hc.mono hS3.zle) (fun z' w' s hz hs=>good11 (hb3.mono hz))) ?_;rintro z4 w4 v4 hz4 hS4 rfl
  have he:goodM c kind n = (namedM c n (kindIs 2) || namedM c n (kindIs 4)):=by rw [goodM,if_neg e1,if_neg e2,if_neg e3,if_neg e4,if_neg e5,if_neg e6,if_neg e7,if_pos e8]
  refine Cond_b (fun e9=>?_) (fun e9=>?_)
  ·(repeat (refine K1 ?_))
   exact ⟨_,_,hS4,by rw [he,e9]; rfl⟩
  ·(repeat (refine iHV_N ?_))
   refine CV_1 good1 ?_;rintro z5 w5 v5 hz5 hS5 ⟨b5,rfl,hb5⟩
   (repeat (refine iRI_N ?_));refine CV_1 (named (p:=kindIs 4) (hc.mono hS5.zle) (fun z' w' s hz hs=>good11 (hb5.mono hz))) ?_;rintro z6 w6 v6 hz6 hS6 rfl
   (repeat (refine K1 ?_));exact ⟨_,_,hS6,by rw [he,e9]; rfl⟩
 (repeat (refine V_run ?_));refine Cond_d (fun e9=>?_) (fun e9=>?_)
 ·(repeat (first | refine V_run ?_ | refine iV_ld1 ?_ | (refine CV_pu ?_; intro _ _ _ _)))
  rename_i hS2;exact ⟨_,_,hS2,by rw [goodM,if_neg e1,if_neg e2,if_neg e3,if_neg e4,if_neg e5,if_neg e6,if_neg e7,if_neg e8,if_pos e9]⟩
 (repeat (refine V_run ?_));refine Cond_d (fun e10=>?_) (fun e10=>?_)
 ·(repeat (first | refine V_run ?_ | refine iV_ld1 ?_ | (refine CV_pu ?_; intro _ _ _ _)))
  rename_i hS2;exact ⟨_,_,hS2,by rw [goodM,if_neg e1,if_neg e2,if_neg e3,if_neg e4,if_neg e5,if_neg e6,if_neg e7,if_neg e8,if_neg e9,if_pos e10]⟩
 (repeat (refine V_run ?_));refine Cond_d (fun e11=>?_) (fun e11=>?_)
 ·(repeat (refine V_run ?_))
  refine Cond_d (fun e12=>?_) (fun e12=>?_)
  ·exact ⟨_,_,hS1,by rw [goodM,if_neg e1,if_neg e2,if_neg e3,if_neg e4,if_neg e5,if_neg e6,if_neg e7,if_neg e8,if_neg e9,if_neg e10,if_pos e11,decide_eq_true e12]; rfl⟩
  ·exact main0 _ rfl (by rw [goodM,if_neg e1,if_neg e2,if_neg e3,if_neg e4,if_neg e5,if_neg e6,if_neg e7,if_neg e8,if_neg e9,if_neg e10,if_pos e11,decide_eq_false e12]; rfl)
 (repeat (refine V_run ?_));refine Cond_d (fun e12=>?_) (fun e12=>?_)
 ·exact main0 _ rfl (by rw [goodM,if_neg e1,if_neg e2,if_neg e3,if_neg e4,if_neg e5,if_neg e6,if_neg e7,if_neg e8,if_neg e9,if_neg e10,if_neg e11,if_pos e12])
 (repeat (refine V_run ?_));refine Cond_d (fun e13=>?_) (fun e13=>?_)
 ·(repeat (first | refine V_run ?_ | refine iV_ld1 ?_ | (refine CV_pu ?_; intro _ _ _ _)))
  rename_i hS2;exact ⟨_,_,hS2,by rw [goodM,if_neg e1,if_neg e2,if_neg e3,if_neg e4,if_neg e5,if_neg e6,if_neg e7,if_neg e8,if_neg e9,if_neg e10,if_neg e11,if_neg e12,if_pos e13]⟩
 ·(repeat (refine CV_pu ?_; intro _ _ _ _))
  rename_i hS2;exact ⟨_,_,hS2,by rw [goodM,if_neg e1,if_neg e2,if_neg e3,if_neg e4,if_neg e5,if_neg e6,if_neg e7,if_neg e8,if_neg e9,if_neg e10,if_neg e11,if_neg e12,if_neg e13]⟩)
instance {z:Z} {v:Value} {c:CodeM} {kind n:Int} [hc:CodeZ z v c]:PuZ z 157 #[v,.int .i64 kind,.int .i64 n] (.bool (goodM c kind n)):=⟨fun z' w hz=>good_of (hc.h.mono hz)⟩
end
section
open Go Q Go.RowKit
def litOr (n:Int) (s:ByteArray):Bool:=decide (n = 1) || !decide (symKind s = 0)
theorem special1 {z:Z} {w:World} {b:Nat} {i:InsM} {s:ByteArray} (ha:At z b 0 i.cells):Va1 (.func (.func 229) #[] #[.pointer (some ⟨b,0,none⟩)]) #[.string s] z w fun _ r=>r = .bool (litOr i.c s):=
 Fn1.va (args':=#[.string s,.pointer (some ⟨b,0,none⟩)]) (Fn1.intro fun hS=>en229 (by
  unfold vc229;haveI:Fz z b 3 [.int .i64 i.c]:=⟨ha.fld (i:=3) rfl rfl⟩
  (repeat (first | refine V_run ?_ | (refine JC ?_; intro _ _ _ _) | refine fV_ld1 ?_));exact ret_eq (by unfold litOr; cases decide (i.c = 1) <;> rfl))) (by simp)
def specialM (c:CodeM) (i:InsM):Bool:=
 if i.op = 12 \/ i.op = 21 then namedM c i.a (litOr i.c) else if i.op = 19 then ((!decide (i.a = 1) && decide (i.b = 0)) || (decide (i.a = 1) && goodM c 2 i.b))
 else if i.op = 22 then (!(!inB i.a 0 5 || (decide (i.b = 2) && (decide (i.a = 3) || decide (i.a = 5)))) && (decide (i.c = -1) || (!decide (i.b = 0) && goodM c 3 i.c))) else true
theorem special_of {z:Z} {w:World} {v:Value} {c:CodeM} {i:InsM} (hc:CodeR z v c):Fn1 158 #[v,i.v] z w fun _ r=>r = .bool (specialM c i):=Fn1.intro fun hS=>en158 (by
 unfold vc158;obtain ⟨a1,a2,a3,a4,a5,a6,k1,k2,k3,k4,k5,k6,rfl,h1,h2,h3,h4,h5,h6⟩:=hc.form;haveI:CodeZ z _ c:=⟨hc⟩
 dsimp only [InsM.v,InsM.cells];refine iV_bx ?_;intro b1 w1 hb1 hS1;refine iV_bx ?_;intro b2 w2 hb2 hS2;clear hS hS1;(repeat (first | refine V_run ?_ | refine iV_ld1 ?_ | refine JB ?_));refine Cond_b (fun e1=>?_) (fun e1=>?_)
 ·have e:i.op = 12 \/ i.op = 21:=by by_cases e:i.op = 12 <;> simp [e] at e1 ⊢; exact e1
  (repeat (first | refine V_run ?_ | refine iV_ld1 ?_ | refine iV_ldN ?_));have hf:=(hS2.bringB b2).freeze;have hle:=(hS2.bringB b2).freeze_le;refine CV_1 (named (p:=litOr i.c) ((hc.mono hS2.zle).mono hle) (fun z' w' s hz hs=>special1 ?_)) ?_
  ·exact ⟨_,_,_,hz _ _ (if_pos rfl),fun j u hu=>by simpa using hu⟩
  ·rintro z4 w4 v4 hz4 hS4 rfl
   exact ret_eq (by rw [specialM,if_pos e])
 have e:¬ (i.op = 12 \/ i.op = 21):=by by_cases e:i.op = 12 <;> simp [e] at e1 ⊢; exact e1
 (repeat (refine V_run ?_));refine Cond_d (fun e2=>?_) (fun e2=>?_)
 ·(repeat (first | refine V_run ?_ | refine iV_ld1 ?_ | (refine JC ?_; intro _ _ _ _)))
  exact ret_eq (by rw [specialM,if_neg e,if_pos e2]; cases decide (i.a = 1) <;> cases decide (i.b = 0) <;> rfl)
 (repeat (refine V_run ?_));refine Cond_d (fun e3=>?_) (fun e3=>?_)
 ·(repeat (first | refine V_run ?_ | refine iV_ld1 ?_ | (refine JC ?_; intro _ _ _ _) | (refine CV_pu ?_; intro _ _ _ _)))
  refine Cond_b (fun e4=>?_) (fun e4=>?_)
  ·exact ret_eq (by rw [specialM,if_neg e,if_neg e2,if_pos e3]; revert e4; cases inB i.a 0 5 <;> cases decide (i.b = 2) <;> cases decide (i.a = 3) <;> cases decide (i.a = 5) <;> simp)
  ·(repeat (first | refine V_run ?_ | refine iV_ld1 ?_ | (refine JC ?_; intro _ _ _ _)))
   exact ret_eq (by rw [specialM,if_neg e,if_neg e2,if_pos e3]; revert e4; cases inB i.a 0 5 <;> cases decide (i.b = 2) <;> cases decide (i.a = 3) <;> cases decide (i.a = 5) <;> cases decide (i.c = -1) <;> cases decide (i.b = 0) <;> simp)
 ·skip
  exact ret_eq (by rw [specialM,if_neg e,if_neg e2,if_neg e3]))
instance {z:Z} {v:Value} {c:CodeM} {i:InsM} [hc:CodeZ z v c]:PuZ z 158 #[v,i.v] (.bool (specialM c i)):=⟨fun z' w hz=>special_of (hc.h.mono hz)⟩
def rightM (c:CodeM) (i:InsM):Bool:=opOk i.op && (goodM c (formAt i.op).k0 i.a && (goodM c (formAt i.op).k1 i.b && (goodM c (formAt i.op).k2 i.c && specialM c i)))
theorem right_of {z:Z} {w:World} {v:Value} {c:CodeM} {i:InsM} (hc:CodeR z v c):Fn1 48 #[v,i.v] z w fun _ r=>r = .bool (rightM c i):=Fn1.intro fun hS=>en48 (by
 unfold vc48;obtain ⟨a1,a2,a3,a4,a5,a6,k1,k2,k3,k4,k5,k6,rfl,h1,h2,h3,h4,h5,h6⟩:=hc.form;haveI:CodeZ z _ c:=⟨hc⟩
 (repeat (first | refine V_run ?_ | refine iV_ldN ?_ | (refine iV_bx ?_; intro _ _ _ _) | (refine iU_st ?_; intro _ _) | (refine CV_pu ?_; intro _ _ _ _)));refine Cond_n (fun e=>?_) (fun e=>?_)
 ·exact ret_eq (by rw [rightM,e]; rfl)
 (repeat (first | refine V_run ?_ | refine iV_ld1 ?_));refine LoopR1 (fun (k:Int) x=>x = .int .i64 k/\0 <= k/\k <= 3/\(1 <= k->goodM c (formAt i.op).k0 i.a = true)/\(2 <= k->goodM c (formAt i.op).k1 i.b = true)/\(3 <= k->goodM c (formAt i.op).k2 i.c = true)) (fun k=>(3 - k).toNat) 0 ⟨rfl,by omega,by omega,by omega,by omega,by omega⟩ ?_;rintro I M k x w3 z3 m ⟨rfl,gp,g0,g1,g2,g3⟩ hz3 hS3 back
 refine V_run ?_;have:k = 0 \/ k = 1 \/ k = 2 \/ k = 3:=by omega
 rcases this with rfl | rfl | rfl | rfl
 ·refine Cond_is rfl ?_
  (repeat (first | (refine iDr ?_; intro _ _) | refine V_run ?_ | refine PV_run ?_ | refine iHV_1 ?_ | refine iHV_N ?_ | (refine CV_puz ?_; intro _ _ _ _)));refine Cond_n (fun h=>?_) (fun h=>?_)
  ·exact ret_eq (by rw [rightM,e,h]; rfl)
  ·(repeat (refine V_run ?_))
   rename_i hS4;exact back 1 _ _ _ ⟨rfl,by omega,by omega,fun _=>h,by omega,by omega⟩ (by (repeat (assumption))) hS4 (by omega)
 ·refine Cond_is rfl ?_
  (repeat (first | (refine iDr ?_; intro _ _) | refine V_run ?_ | refine PV_run ?_ | refine iHV_1 ?_ | refine iHV_N ?_ | (refine CV_puz ?_; intro _ _ _ _)));refine Cond_n (fun h=>?_) (fun h=>?_)
  ·exact ret_eq (by rw [rightM,e,g1 (by omega),h]; rfl)
  ·(repeat (refine V_run ?_))
   rename_i hS4;exact back 2 _ _ _ ⟨rfl,by omega,by omega,fun _=>g1 (by omega),fun _=>h,by omega⟩ (by (repeat (assumption))) hS4 (by omega)
 ·refine Cond_is rfl ?_
  (repeat (first | (refine iDr ?_; intro _ _) | refine V_run ?_ | refine PV_run ?_ | refine iHV_1 ?_ | refine iHV_N ?_ | (refine CV_puz ?_; intro _ _ _ _)));refine Cond_n (fun h=>?_) (fun h=>?_)
  ·exact ret_eq (by rw [rightM,e,g1 (by omega),g2 (by omega),h]; rfl)
  ·(repeat (refine V_run ?_))
   rename_i hS4;exact back 3 _ _ _ ⟨rfl,by omega,by omega,fun _=>g1 (by omega),fun _=>g2 (by omega),fun _=>h⟩ (by (repeat (assumption))) hS4 (by omega)
 ·refine Cond_not rfl ?_
  (repeat (first | refine iV_ldN ?_ | (refine CV_puz ?_; intro _ _ _ _)));exact ret_eq (by rw [rightM,e,g1 (by omega),g2 (by omega),g3 (by omega)]; rfl))
instance {z:Z} {v:Value} {c:CodeM} {i:InsM} [hc:CodeZ z v c]:PuZ z 48 #[v,i.v] (.bool (rightM c i)):=⟨fun z' w hz=>right_of (hc.h.mono hz)⟩
end
section
open Go Q Go.RowKit
structure Now (w0:World) (z0:Z) (B0:Bl) (z:Z) (L:Bl) where
 w:World
 res:Res w0 z0 B0 w z L
class PG {α:Type} (inj:α->Value) (F:(List Value->World->Prop)->Prop) (w0:outParam World) (z0:outParam Z) (B0:outParam Bl) (z:outParam Z) (L:outParam Bl) (x:outParam α):Prop where
 h:∀ K:List Value->World->Prop,(∀ z' w',Le z z'->Res w0 z0 B0 w' z' L->K [inj x] w')->F K
class PW (G:Prop) (R:Value->World->Prop) (w0:outParam World) (z0:outParam Z) (B0:outParam Bl) (v:outParam Value):Prop where
 h:(∀ z' w' L',Res w0 z0 B0 w' z' L'->R v w')->G
section
variable {w0 w w':World} {z0 z z':Z} {B0 B B' L F:Bl} {b:Nat} {o:Obj} {C:Obj->Bl}
instance PG.val {α:Type} {inj:α->Value} {x:α} {s:Sem Value} {v:Value} [g:Run s v] {G:(List Value->World->Prop)->Value->World->Prop} [h:PG inj (fun K=>G K v w) w0 z0 B0 z L x]:PG inj (fun K=>V s w (G K)) w0 z0 B0 z L x:=⟨fun K hK=>V_run (h.h K hK)⟩
instance PW.val {R:Value->World->Prop} {v0:Value} {s:Sem Value} {v:Value} [g:Run s v] {G:Value->World->Prop} [h:PW (G v w) R w0 z0 B0 v0]:PW (V s w G) R w0 z0 B0 v0:=⟨fun hK=>V_run (h.h hK)⟩
instance PG.hval {α:Type} {inj:α->Value} {x:α} {s:Sem Value} {v:Value} [g:Run s v] {G:(List Value->World->Prop)->Value->Prop} [h:PG inj (fun K=>G K v) w0 z0 B0 z L x]:PG inj (fun K=>HV s w (G K)) w0 z0 B0 z L x:=⟨fun K hK=>HV_run (h.h K hK)⟩
instance PW.hval {R:Value->World->Prop} {v0:Value} {s:Sem Value} {v:Value} [g:Run s v] {G:Value->Prop} [h:PW (G v) R w0 z0 B0 v0]:PW (HV s w G) R w0 z0 B0 v0:=⟨fun hK=>HV_run (h.h hK)⟩
instance PG.ld1 {α:Type} {inj:α->Value} {x:α} {t off:Nat} {v:Value} {l:List Value} {ty:TypeId} {fr:Nat × Nat} [hS:Res w0 z0 B0 w z L] [g:TyOne t] [Blk L b (.cells l.toArray ty fr) C] [Get l off v] {G:(List Value->World->Prop)->Value->World->Prop} [h:PG inj (fun K=>G K v w) w0 z0 B0 z L x]:PG inj (fun K=>V (ld t (.pointer (some ⟨b,off,none⟩))) w (G K)) w0 z0 B0 z L x:=⟨fun K hK=>V_ldL1 hS (h.h K hK)⟩
instance PW.ld1 {R:Value->World->Prop} {v0:Value} {t off:Nat} {v:Value} {l:List Value} {ty:TypeId} {fr:Nat × Nat} [hS:Res w0 z0 B0 w z L] [g:TyOne t] [Blk L b (.cells l.toArray ty fr) C] [Get l off v] {G:Value->World->Prop} [h:PW (G v w) R w0 z0 B0 v0]:PW (V (ld t (.pointer (some ⟨b,off,none⟩))) w G) R w0 z0 B0 v0:=⟨fun hK=>V_ldL1 hS (h.h hK)⟩
instance PG.ldN {α:Type} {inj:α->Value} {x:α} {t n off:Nat} {vs:List Value} {l:List Value} {ty:TypeId} {fr:Nat × Nat} [hS:Res w0 z0 B0 w z L] [g:TyAgg t n] [gs:TySize t n] [Blk L b (.cells l.toArray ty fr) C] [gn:GetN l off n vs] {G:(List Value->World->Prop)->Value->World->Prop} [h:PG inj (fun K=>G K (.agg vs.toArray) w) w0 z0 B0 z L x]:PG inj (fun K=>V (ld t (.pointer (some ⟨b,off,none⟩))) w (G K)) w0 z0 B0 z L x:=⟨fun K hK=>V_ldLN hS (h.h K hK)⟩
instance PW.ldN {R:Value->World->Prop} {v0:Value} {t n off:Nat} {vs:List Value} {l:List Value} {ty:TypeId} {fr:Nat × Nat} [hS:Res w0 z0 B0 w z L] [g:TyAgg t n] [gs:TySize t n] [Blk L b (.cells l.toArray ty fr) C] [gn:GetN l off n vs] {G:Value->World->Prop} [h:PW (G (.agg vs.toArray) w) R w0 z0 B0 v0]:PW (V (ld t (.pointer (some ⟨b,off,none⟩))) w G) R w0 z0 B0 v0:=⟨fun hK=>V_ldLN hS (h.h hK)⟩
instance (priority:=900) PG.fld1 {α:Type} {inj:α->Value} {x:α} {t off:Nat} {v:Value} [hS:Res w0 z0 B0 w z L] [g:TyOne t] [gf:Fz z0 b off [v]] {G:(List Value->World->Prop)->Value->World->Prop} [h:PG inj (fun K=>G K v w) w0 z0 B0 z L x]:PG inj (fun K=>V (ld t (.pointer (some ⟨b,off,none⟩))) w (G K)) w0 z0 B0 z L x:=⟨fun K hK=>fV_ld1 (h.h K hK)⟩
instance (priority:=900) PW.fld1 {R:Value->World->Prop} {v0:Value} {t off:Nat} {v:Value} [hS:Res w0 z0 B0 w z L] [g:TyOne t] [gf:Fz z0 b off [v]] {G:Value->World->Prop} [h:PW (G v w) R w0 z0 B0 v0]:PW (V (ld t (.pointer (some ⟨b,off,none⟩))) w G) R w0 z0 B0 v0:=⟨fun hK=>fV_ld1 (h.h hK)⟩
instance PG.nil {α:Type} {inj:α->Value} {x:α} {a:Addr} {G:(List Value->World->Prop)->Value->Prop} [h:PG inj (fun K=>G K (.pointer (some a))) w0 z0 B0 z L x]:PG inj (fun K=>NilW (.pointer (some a)) (G K)) w0 z0 B0 z L x:=⟨fun K hK=>NilW_some (h.h K hK)⟩
instance PW.nil {R:Value->World->Prop} {v0:Value} {a:Addr} {G:Value->Prop} [h:PW (G (.pointer (some a))) R w0 z0 B0 v0]:PW (NilW (.pointer (some a)) G) R w0 z0 B0 v0:=⟨fun hK=>NilW_some (h.h hK)⟩
instance PG.call {α:Type} {inj:α->Value} {x:α} {f:FuncId} {args:Array Value} {v:Value} [hS:Res w0 z0 B0 w z L] [Enters f] [g:Pu f args v] {G:(List Value->World->Prop)->Value->World->Prop} [h:∀ q:Later w0 z0 B0 z L,PG inj (fun K=>G K v q.w) w0 z0 B0 q.z' L x]:PG inj (fun K=>CV (.func (.func f) #[] #[]) args w (G K)) w0 z0 B0 z L x:=⟨fun K hK=>CV_pu fun z' w' hz hS'=>(h ⟨z',w',hz,hS'⟩).h K fun z'' w'' hz' hS''=>hK z'' w'' (hz.trans hz') hS''⟩
instance PW.call {R:Value->World->Prop} {v0:Value} {f:FuncId} {args:Array Value} {v:Value} [hS:Res w0 z0 B0 w z L] [Enters f] [g:Pu f args v] {G:Value->World->Prop} [h:∀ q:Later w0 z0 B0 z L,PW (G v q.w) R w0 z0 B0 v0]:PW (CV (.func (.func f) #[] #[]) args w G) R w0 z0 B0 v0:=⟨fun hK=>CV_pu fun z' w' hz hS'=>(h ⟨z',w',hz,hS'⟩).h hK⟩
instance (priority:=900) PG.callz {α:Type} {inj:α->Value} {x:α} {f:FuncId} {args:Array Value} {v:Value} [hS:Res w0 z0 B0 w z L] [Enters f] [g:PuZ z0 f args v] {G:(List Value->World->Prop)->Value->World->Prop} [h:∀ q:Later w0 z0 B0 z L,PG inj (fun K=>G K v q.w) w0 z0 B0 q.z' L x]:PG inj (fun K=>CV (.func (.func f) #[] #[]) args w (G K)) w0 z0 B0 z L x:=⟨fun K hK=>CV_puz fun z' w' hz hS'=>(h ⟨z',w',hz,hS'⟩).h K fun z'' w'' hz' hS''=>hK z'' w'' (hz.trans hz') hS''⟩
instance (priority:=900) PW.callz {R:Value->World->Prop} {v0:Value} {f:FuncId} {args:Array Value} {v:Value} [hS:Res w0 z0 B0 w z L] [Enters f] [g:PuZ z0 f args v] {G:Value->World->Prop} [h:∀ q:Later w0 z0 B0 z L,PW (G v q.w) R w0 z0 B0 v0]:PW (CV (.func (.func f) #[] #[]) args w G) R w0 z0 B0 v0:=⟨fun hK=>CV_puz fun z' w' hz hS'=>(h ⟨z',w',hz,hS'⟩).h hK⟩
instance PG.bx {α:Type} {inj:α->Value} {x:α} {t:TypeId} {v:Value} {vs:List Value} [hS:Res w0 z0 B0 w z L] [g:CellsOf v vs] {G:(List Value->World->Prop)->Value->World->Prop} [h:∀ q:Boxed w0 z0 B0 z L t vs,PG inj (fun K=>G K (.pointer (some ⟨q.b,0,none⟩)) q.w) w0 z0 B0 z ((q.b,.cells vs.toArray t (0,0)) :: L) x]:PG inj (fun K=>V (bx t v) w (G K)) w0 z0 B0 z L x:=⟨fun K hK=>V_bx (g:=g) hS fun b w' _ hS'=>(h ⟨b,w',hS'⟩).h K fun z'' w'' hz hS''=>hK z'' w'' hz (hS''.sublist (List.sublist_cons_self _ _))⟩
instance PW.bx {R:Value->World->Prop} {v0:Value} {t:TypeId} {v:Value} {vs:List Value} [hS:Res w0 z0 B0 w z L] [g:CellsOf v vs] {G:Value->World->Prop} [h:∀ q:Boxed w0 z0 B0 z L t vs,PW (G (.pointer (some ⟨q.b,0,none⟩)) q.w) R w0 z0 B0 v0]:PW (V (bx t v) w G) R w0 z0 B0 v0:=⟨fun hK=>V_bx (g:=g) hS fun b w' _ hS'=>(h ⟨b,w',hS'⟩).h hK⟩
instance PG.al {α:Type} {inj:α->Value} {x:α} {t:TypeId} {vs:List Value} [hS:Res w0 z0 B0 w z L] [g:TyZero t vs] {G:(List Value->World->Prop)->Value->World->Prop} [h:∀ q:Boxed w0 z0 B0 z L t vs,PG inj (fun K=>G K (.pointer (some ⟨q.b,0,none⟩)) q.w) w0 z0 B0 z ((q.b,.cells vs.toArray t (0,0)) :: L) x]:PG inj (fun K=>V (al t) w (G K)) w0 z0 B0 z L x:=⟨fun K hK=>V_al (g:=g) hS fun b w' _ hS'=>(h ⟨b,w',hS'⟩).h K fun z'' w'' hz hS''=>hK z'' w'' hz (hS''.sublist (List.sublist_cons_self _ _))⟩
instance PW.al {R:Value->World->Prop} {v0:Value} {t:TypeId} {vs:List Value} [hS:Res w0 z0 B0 w z L] [g:TyZero t vs] {G:Value->World->Prop} [h:∀ q:Boxed w0 z0 B0 z L t vs,PW (G (.pointer (some ⟨q.b,0,none⟩)) q.w) R w0 z0 B0 v0]:PW (V (al t) w G) R w0 z0 B0 v0:=⟨fun hK=>V_al (g:=g) hS fun b w' _ hS'=>(h ⟨b,w',hS'⟩).h hK⟩
instance PW.st {R:Value->World->Prop} {v0:Value} {t n off:Nat} {v:Value} {vs l l':List Value} {ty:TypeId} [hS:Res w0 z0 B0 w z L] [g:Blk L b (.cells l.toArray ty (0,0)) C] [gs:TySize t n] [gc:CellsOf v vs] [go:Ones vs] [hn:LenIs vs n] [gl:SetN l off vs l'] {G:World->Prop} [h:∀ q:Now w0 z0 B0 z (C (.cells l'.toArray ty (0,0))),PW (G q.w) R w0 z0 B0 v0]:PW (U (st t (.pointer (some ⟨b,off,none⟩)) v) w G) R w0 z0 B0 v0:=⟨fun hK=>U_st (C:=C) hS hn.h fun w' hS'=>(h ⟨w',hS'⟩).h hK⟩
instance PG.lit {α:Type} {inj:α->Value} {x:α} [hS:Res w0 z0 B0 w z L]:PG inj (fun K=>K [inj x] w) w0 z0 B0 z L x:=⟨fun _ h=>h _ _ (Le.refl _) hS⟩
instance PW.lit {R:Value->World->Prop} {v:Value} [hS:Res w0 z0 B0 w z L]:PW (R v w) R w0 z0 B0 v:=⟨fun h=>h _ _ _ hS⟩
instance PG.cond {α:Type} {inj:α->Value} {x y:α} {A A':(List Value->World->Prop)->Prop} {c:Bool} [h1:PG inj A w0 z0 B0 z L x] [h2:PG inj A' w0 z0 B0 z L y]:PG inj (fun K=>CondW (.bool c) (A K) (A' K)) w0 z0 B0 z L (bif c then x else y):=
 ⟨fun K hK=>⟨c,rfl,fun hb=>h1.h K (by subst hb; exact hK),fun hb=>h2.h K (by subst hb; exact hK)⟩⟩
instance PW.cond {R:Value->World->Prop} {A A':Prop} {v v':Value} {c:Bool} [h1:PW A R w0 z0 B0 v] [h2:PW A' R w0 z0 B0 v']:PW (CondW (.bool c) A A') R w0 z0 B0 (bif c then v else v'):=
 ⟨fun hK=>⟨c,rfl,fun hb=>h1.h (by subst hb; exact hK),fun hb=>h2.h (by subst hb; exact hK)⟩⟩
instance (priority:=1000) PW.joinB {R:Value->World->Prop} {v:Value} {x:Bool} {H:Value->World->Prop} {body:(List Value->World->Prop)->Prop} [h1:PG Value.bool body w0 z0 B0 z L x] [h2:∀ q:Later w0 z0 B0 z L,PW (H (Value.bool x) q.w) R w0 z0 B0 v] :
  PW (∀ K1:List Value->World->Prop,(∀ t w,(∀ _:Env,H t w)->K1 [t] w)->body K1) R w0 z0 B0 v:=
 ⟨fun hK K1 hK1=>h1.h K1 fun z' w' hz hS=>hK1 _ _ fun _=>(h2 ⟨z',w',hz,hS⟩).h hK⟩
theorem JGB {x:Bool} {rest:Value->World->Prop} {body:(List Value->World->Prop)->Prop} [g:PG Value.bool body w0 z0 B0 z L x] (h:∀ z' w',Le z z'->Res w0 z0 B0 w' z' L->rest (.bool x) w'):∀ K:List Value->World->Prop,(∀ t w,(∀ _:Env,rest t w)->K [t] w)->body K:=
 fun K hK=>g.h K fun z' w' hz hS=>hK _ _ fun _=>h z' w' hz hS
theorem JGI {x:Int} {rest:Value->World->Prop} {body:(List Value->World->Prop)->Prop} [g:PG (Value.int .i64) body w0 z0 B0 z L x] (h:∀ z' w',Le z z'->Res w0 z0 B0 w' z' L->rest (.int .i64 x) w'):∀ K:List Value->World->Prop,(∀ t w,(∀ _:Env,rest t w)->K [t] w)->body K:=
 fun K hK=>g.h K fun z' w' hz hS=>hK _ _ fun _=>h z' w' hz hS
section
variable {κ:Type} [DecidableEq κ]
class GetKV (l:List (κ × Value)) (n:κ) (zv:Value) (v:outParam Value):Prop where
 h:(getK l n).getD zv = v
theorem gV_lk {K:Value->World->Prop} [hS:Res w0 z0 B0 w z L] {t k e:Nat} {mk:κ->Value} {zv v:Value} [g:TyMap t k e] [gk:KeyTy k mk] [gz:ZeroV e zv] {n:κ} {l:List (κ × Value)} [gb:Blk L b (mK mk l) C] [gv:GetKV l n zv v]
  (hk:K v w):V (lk t (.map (some b)) (mk n) false) w K:=kV_lk (C:=C) (mk:=mk) (zv:=zv) (by rw [<- gv.h] at hk; exact hk)
def setK {κ:Type} (h:List κ):List (κ × Value):=h.map fun x=>(x,.bool true)
def memK (h:List κ) (s:κ):Bool:=h.any fun x=>decide (x = s)
theorem memK_iff {h:List κ} {s:κ}:memK h s = true ↔ s ∈ h:=by simp [memK]
def insK (h:List κ) (s:κ):List κ:=bif memK h s then h else h ++ [s]
theorem getK_set (h:List κ) (s:κ):getK (setK h) s = if memK h s then some (.bool true) else none:=by
 rw [getK_find];unfold setK memK
 induction h with
 | nil=>rfl
 | cons x h ih=>
  simp only [List.map_cons,List.find?_cons,List.any_cons]
  by_cases e:x = s
  ·subst e; simp
  ·simp only [decide_eq_false e,Bool.false_or]
   exact ih
instance {h:List κ} {s:κ}:GetKV (setK h) s (.bool false) (.bool (memK h s)):=⟨by rw [getK_set]; cases memK h s <;> rfl⟩
theorem up_set (h:List κ) (s:κ):upK (setK h) s (.bool true) = setK (insK h s):=by
 unfold upK;have hg:=getK_set h s;unfold getK at hg
 cases ha:atK (setK h) s with
 | none=>
  rw [ha] at hg;have:memK h s = false:=by cases hm:memK h s with
   | false=>rfl
   | true=>rw [hm] at hg; cases hg
  simp [insK,this,setK]
 | some p=>
  rw [ha] at hg;have hm:memK h s = true:=by cases hm:memK h s with
   | true=>rfl
   | false=>rw [hm] at hg; cases hg
  obtain ⟨h1,_⟩:=atK_some ha;rw [insK,hm];simp only [cond_true];refine List.ext_getElem? fun j=>?_
  rw [List.getElem?_set]
  split
  ·rename_i hj
   subst hj;have hlt:=(List.getElem?_eq_some_iff.1 h1).1;rw [if_pos hlt,h1];rw [hm] at hg;simp only [Option.map_some,if_true,Option.some.injEq] at hg;rw [hg]
  ·rfl
theorem mem_ins {h:List κ} {s x:κ}:x ∈ insK h s ↔ x = s \/ x ∈ h:=by
 unfold insK
 cases hm:memK h s with
 | true=>simp only [cond_true]; exact ⟨.inr,fun h'=>h'.elim (fun e=>e ▸ memK_iff.1 hm) id⟩
 | false=>simp [or_comm]
end
instance PG.lkS {α:Type} {inj:α->Value} {x:α} {t k e:Nat} {zv v:Value} {G:(List Value->World->Prop)->Value->World->Prop} [hS:Res w0 z0 B0 w z L] [g:TyMap t k e] [gk:TyStr k] [gz:ZeroV e zv] {n:ByteArray} {l:List (ByteArray × Value)} [gb:Blk L b (mK Value.string l) C] [gv:GetKV l n zv v] [h:PG inj (fun K=>G K v w) w0 z0 B0 z L x] :
  PG inj (fun K=>V (lk t (.map (some b)) (.string n) false) w (G K)) w0 z0 B0 z L x:=⟨fun K hK=>gV_lk (C:=C) (mk:=Value.string) (zv:=zv) (h.h K hK)⟩
theorem finK (spec:List It) {L':Bl} {R:Z->Bl->Prop} [hS:Res w0 z0 B0 w z L] [g:Keep L spec L'] (h:R z L'):∃ z' B',Res w0 z0 B0 w z' B'/\R z' B':=⟨z,L',hS.keep spec,h⟩
theorem finW {R:Value->World->Prop} {v v':Value} [hS:Res w0 z0 B0 w z L] (hR:∀ z' w' L',Res w0 z0 B0 w' z' L'->R v w') (h:v' = v):R v' w:=by subst h; exact hR _ _ _ hS
theorem fnW {f:FuncId} {args:Array Value} {v v':Value} {G:(Value->World->Prop)->Prop} (en:∀ {R:Value->World->Prop},G R->Calls Tryz.prog f args w (retK R)) (g:Res w z [] w z []->∀ R,PW (G R) R w z [] v) (h:v = v'):Fn1 f args z w fun _ r=>r = v':=
 Fn1.intro fun hS=>en ((g hS _).h fun z' w' L' hS'=>⟨z',L',hS',h⟩)
theorem fnA {f:FuncId} {args:Array Value} {v:Value} {G:(Value->World->Prop)->Prop} (en:∀ {R:Value->World->Prop},G R->Calls Tryz.prog f args w (retK R)) (g:Res w z [] w z []->∀ R:Value->World->Prop,(∀ z' w' L',Res w z [] w' z' L'->R v w')->G R):Fn1 f args z w fun _ r=>r = v:=
 Fn1.intro fun hS=>en (g hS _ fun z' w' L' hS'=>⟨z',L',hS',rfl⟩)
theorem PWat {G:Prop} {R:Value->World->Prop} {v v':Value} (hS:Res w0 z0 B0 w z L) (g:Res w z L w z L->PW G R w z L v) (h:v = v') (hR:∀ z' w' L',Res w0 z0 B0 w' z' L'->R v' w'):G:=by
 subst h;have hS':Res w0 z0 B0 w z (L ++ []):=by simpa using hS
 exact (g hS'.own).h fun z' w' L' k=>hR z' w' (L' ++ []) (hS'.step k)
theorem Res.rebase {R:Value->World->Prop} {v:Value} (hS:Res w0 z0 B0 w z L) (hR:∀ z' w' L',Res w0 z0 B0 w' z' L'->R v w'):Res w z L w z L/\∀ z' w' L',Res w z L w' z' L'->R v w':=by
 have hS':Res w0 z0 B0 w z (L ++ []):=by simpa using hS
 exact ⟨hS'.own,fun z' w' L' k=>hR z' w' (L' ++ []) (hS'.step k)⟩
theorem Res.frz (b:Nat) {cs:List Value} {t:TypeId} {fr:Nat × Nat} {R:Bl} (h:Res w0 z0 B0 w z L) [g:BringB L b (.cells cs.toArray t fr) R]:∃ z',Le z z'/\Res w0 z0 B0 w z' R/\At z' b 0 cs:=
 ⟨_,(h.bringB b).freeze_le,(h.bringB b).freeze,_,_,_,if_pos rfl,fun j u hu=>by simpa using hu⟩
end
end
section
open Go Q Go.RowKit
def partM (p:PartM):Bool:=
 if p.kind = 1 then varB p.text && decide (p.n = 0) else if p.kind = 3 then validB p.text && decide (p.n = 0)
 else if p.kind = 4 \/ p.kind = 8 \/ p.kind = 9 \/ p.kind = 10 then decide (symKind p.text = 2) && decide (p.n = 0)
 else if p.kind = 5 \/ p.kind = 6 \/ p.kind = 7 then decide (p.text = ⟨#[]⟩) && inB p.n 0 999999999
 else if p.kind = 2 \/ p.kind = 11 then decide (p.text = ⟨#[]⟩) && decide (p.n = 0) else false
instance {p:PartM}:Pu 149 #[p.v] (.bool (partM p)):=⟨fun z w=>fnW en149 (fun hS R=>by unfold vc149; exact inferInstance) (by
 unfold partM;simp only [Bool.cond_eq_ite,decide_eq_true_eq];(repeat' split) <;> simp_all)⟩
class MulN (i s:Nat) (o:outParam Nat):Prop where
 h:i * s = o
instance {s:Nat}:MulN 0 s 0:=⟨Nat.zero_mul s⟩
instance {s:Nat}:MulN 1 s s:=⟨Nat.one_mul s⟩
instance:MulN 2 2 4:=⟨rfl⟩
instance:MulN 3 2 6:=⟨rfl⟩
instance:MulN 4 2 8:=⟨rfl⟩
instance:MulN 5 2 10:=⟨rfl⟩
class FillG (s:Nat) (cells:List Value) (parts:List (Nat × Value)) (out:outParam (List Value)):Prop where
 h:Instr.fill (fun i=>some (i * s,s)) cells.toArray parts = some out.toArray
instance {s:Nat} {cells:List Value}:FillG s cells [] cells:=⟨rfl⟩
instance {s off:Nat} {cells cells' out vs:List Value} {i:Nat} {v:Value} {parts:List (Nat × Value)} [gm:MulN i s off] [gc:CellsOf v vs] [gl:LenIs vs s] [gs:SetN cells off vs cells'] [gf:FillG s cells' parts out]:FillG s cells ((i,v) :: parts) out:=⟨by
 unfold Instr.fill;have hb:=gs.bound;have hl:=gl.h;have hb':¬ (i * s + s > cells.length):=by rw [gm.h]; omega
 simp only [gc.h,List.size_toArray,hl,ne_eq,not_true_eq_false,decide_false,Bool.false_or,decide_eq_true_eq,hb',if_false];have:(vs.toArray.zipIdx.foldl (fun cs (x:Value × Nat)=>cs.setIfInBounds (i * s + x.2) x.1) cells.toArray) = cells'.toArray:=by
  rw [<- Array.foldl_toList,Array.toList_zipIdx,fold_set,Nat.add_zero,gm.h,gs.eq]
 rw [this];exact gf.h⟩
instance (priority:=800) {t n e s:Nat} {zs out:List Value} {parts:List (Nat × Value)} [g:TyArr t n e s] [gz:TyZero t zs] [gf:FillG s zs parts out]:Run (bd t parts.toArray) (.agg out.toArray):=⟨fun w=>by
 obtain ⟨v,h1,h2⟩:=gz.h;simp only [bd,Instr.build,Sem.run_bind,h2,Result.andThen_ok,g.und,g.size,h1,gf.h]
 rfl⟩
instance:MulI 2 2 4:=⟨rfl,by decide⟩
instance:MulI 3 2 6:=⟨rfl,by decide⟩
instance:MulI 4 2 8:=⟨rfl,by decide⟩
instance:MulI 5 2 10:=⟨rfl,by decide⟩
instance (priority:=800) {t n e s o:Nat} [g:TyArr t n e s] [ga:TyAgg e s] [gs:TySize e s] {l vs:List Value} {i:Int} {k:IntKind} [gi:InR i n] [gm:MulI i s o] [gn:GetN l o s vs]:Run (ix t (.agg l.toArray) (.int k i)) (.agg vs.toArray):=⟨fun w=>by
 simp only [ix,Instr.index,asIntOf,pure_bind,Sem.run_bind,g.und,g.size,Result.andThen_ok,gi.h0,gi.h1,and_self,if_true,gm.h];rw [run_partN,gn.eq]⟩
instance:InR 3 ((6:Nat):Int):=⟨by decide,by decide⟩
instance:InR 4 ((6:Nat):Int):=⟨by decide,by decide⟩
instance:InR 5 ((6:Nat):Int):=⟨by decide,by decide⟩
instance:InI (3 + 1):=⟨by decide⟩
instance:InI (4 + 1):=⟨by decide⟩
instance:InI (5 + 1):=⟨by decide⟩
def shortB (s:ByteArray):Bool:=decide (s.size <= 1000)
instance {s:ByteArray}:Pu 137 #[.string s] (.bool (shortB s)):=⟨fun z w=>fnW en137 (fun hS R=>by unfold vc137; exact inferInstance) (by unfold shortB; congr 1; exact decide_eq_decide.2 (by omega))⟩
def lim2 (l:List PartM):Bool:=decide (l.length <= 100) && l.all fun p=>shortB p.text
def lim3 (l:List ItemM):Bool:=decide (l.length <= 10000)
abbrev shortV:Value:=.func (.func 137) #[] #[]
theorem limits21 {z:Z} {w:World} {b:Nat} {p:PartM} (ha:At z b 0 [shortV]):Va1 (.func (.func 141) #[] #[.pointer (some ⟨b,0,none⟩)]) #[p.v] z w fun _ r=>r = .bool (shortB p.text):=
 haveI:Fz z b 0 [shortV]:=⟨ha⟩
 Fn1.va (args':=#[p.v,.pointer (some ⟨b,0,none⟩)]) (fnW en141 (fun hS R=>by unfold vc141; exact inferInstance) rfl) (by simp)
theorem limits2 {z:Z} {w:World} {b:Nat} {v:Value} {l:List PartM} (ha:At z b 0 [shortV]) (hv:SlR El.part z v l):Va1 (.func (.func 139) #[] #[.pointer (some ⟨b,0,none⟩)]) #[v] z w fun _ r=>r = .bool (lim2 l):=
 Fn1.va (args':=#[v,.pointer (some ⟨b,0,none⟩)]) (Fn1.intro fun hS=>en139 (by
  unfold vc139;obtain ⟨_,a,k,rfl,_,_⟩:=hv.form;(repeat (first | refine V_run ?_ | (refine J1 ?_; intro _ _)));refine Cond_d (fun h=>?_) (fun h=>?_)
  ·refine CV_1 (fam1 (E:=El.part) (p:=fun p=>shortB p.text) hv (fun z' w' cs x _ hz hr=>?_)) ?_
   ·obtain ⟨rfl,_⟩:=hr
    exact limits21 (ha.mono hz)
   ·rintro z5 w5 v5 hle5 hS5 rfl
    (repeat (refine K1 ?_));exact ret_eq (by rw [lim2,decide_eq_true (by omega)]; rfl)
  ·(repeat (refine K1 ?_))
   exact ret_eq (by rw [lim2,decide_eq_false (by omega)]; rfl))) (by simp)
theorem limits3 {z:Z} {w:World} {v:Value} {l:List ItemM} (hv:SlR El.item z v l):Va1 (.func (.func 144) #[] #[]) #[v] z w fun _ r=>r = .bool (lim3 l):=by
 obtain ⟨_,a,k,rfl,_,_⟩:=hv.form;refine Fn1.va (args':=#[.slice a l.length k]) (fnW en144 (fun hS R=>by unfold vc144; exact inferInstance) ?_) (by simp);unfold lim3; congr 1; exact decide_eq_decide.2 (by omega)
theorem limits4 {z:Z} {w:World} {b:Nat} {p:SpotM} (ha:At z b 0 [shortV]):Va1 (.func (.func 146) #[] #[.pointer (some ⟨b,0,none⟩)]) #[p.v] z w fun _ r=>r = .bool (shortB p.name):=
 haveI:Fz z b 0 [shortV]:=⟨ha⟩
 Fn1.va (args':=#[p.v,.pointer (some ⟨b,0,none⟩)]) (fnW en146 (fun hS R=>by unfold vc146; exact inferInstance) rfl) (by simp)
def sizesL (c:CodeM):List (Int × Int):=[(c.consts.length,3000),(c.tmpls.length,3000),(c.lists.length,3000),(c.labels.length,3000),(c.slots.length,100),(c.ins.length,12000)]
def limitsM (c:CodeM):Bool:=(sizesL c).all (fun p=>decide (p.1 <= p.2)) && (c.tmpls.all lim2 && (c.consts.all shortB && (c.lists.all lim3 && c.labels.all fun s=>shortB s.name)))
theorem limits_of {z:Z} {w:World} {v:Value} {c:CodeM} (hc:CodeR z v c):Fn1 46 #[v] z w fun _ r=>r = .bool (limitsM c):=fnA en46 (by
 intro hS R hR;unfold vc46;have hR':∀ z' w' L',Res w z [] w' z' L'->∀ b,b = limitsM c->R (.bool b) w':=fun z' w' L' h b e=>by subst e; exact hR z' w' L' h
 obtain ⟨a1,a2,a3,a4,a5,a6,k1,k2,k3,k4,k5,k6,rfl,h1,h2,h3,h4,h5,h6⟩:=hc.form;refine iV_bx ?_;intro bc w1 hbc hS1;refine iV_al ?_;intro bs w2 hbs hS2;(repeat (first | refine V_run ?_ | refine iV_ld1 ?_ | refine iV_ldN ?_ | (refine iV_bx ?_; intro _ _ _ _) | (refine iU_st ?_; intro _ _)));refine LoopR1 (fun (k:Int) x=>x = .int .i64 k/\0 <= k/\k <= 6/\(sizesL c).all (fun p=>decide (p.1 <= p.2)) = ((sizesL c).drop k.toNat).all (fun p=>decide (p.1 <= p.2))) (fun k=>(6 - k).toNat) 0 ⟨rfl,by omega,by omega,rfl⟩ ?_;rintro I M k x w3 z3 m ⟨rfl,gp,g0,g1⟩ hz3 hS3 back
 refine V_run ?_;have:k = 0 \/ k = 1 \/ k = 2 \/ k = 3 \/ k = 4 \/ k = 5 \/ k = 6:=by omega
 rcases this with rfl | rfl | rfl | rfl | rfl | rfl | rfl
 ·refine Cond_is rfl ?_
  (repeat (first | refine V_run ?_ | refine iV_ld1 ?_ | (refine iV_bx ?_; intro _ _ _ _) | (refine iU_st ?_; intro _ _)));rename_i hS4;refine Cond_d (fun h=>?_) (fun h=>?_)
  ·exact hR' _ _ _ hS4 _ (by rw [limitsM,g1,show ((sizesL c).drop (Int.toNat 0)).all (fun p=>decide (p.1 <= p.2)) = false from by simp [sizesL]; omega]; rfl)
  ·(repeat (refine V_run ?_))
   exact back 1 _ _ _ ⟨rfl,by omega,by omega,by rw [g1]; show (decide ((c.consts.length:Int) <= 3000) && _) = _; rw [decide_eq_true (by omega),Bool.true_and]; rfl⟩ (by (repeat (exact Le.refl _))) (hS4.sublist (List.sublist_cons_self _ _)) (by omega)
 ·refine Cond_is rfl ?_
  (repeat (first | refine V_run ?_ | refine iV_ld1 ?_ | (refine iV_bx ?_; intro _ _ _ _) | (refine iU_st ?_; intro _ _)));rename_i hS4;refine Cond_d (fun h=>?_) (fun h=>?_)
  ·exact hR' _ _ _ hS4 _ (by rw [limitsM,g1,show ((sizesL c).drop (Int.toNat 1)).all (fun p=>decide (p.1 <= p.2)) = false from by simp [sizesL]; omega]; rfl)
  ·(repeat (refine V_run ?_))
   exact back 2 _ _ _ ⟨rfl,by omega,by omega,by rw [g1]; show (decide ((c.tmpls.length:Int) <= 3000) && _) = _; rw [decide_eq_true (by omega),Bool.true_and]; rfl⟩ (by (repeat (exact Le.refl _))) (hS4.sublist (List.sublist_cons_self _ _)) (by omega)
 ·refine Cond_is rfl ?_
  (repeat (first | refine V_run ?_ | refine iV_ld1 ?_ | (refine iV_bx ?_; intro _ _ _ _) | (refine iU_st ?_; intro _ _)));rename_i hS4;refine Cond_d (fun h=>?_) (fun h=>?_)
  ·exact hR' _ _ _ hS4 _ (by rw [limitsM,g1,show ((sizesL c).drop (Int.toNat 2)).all (fun p=>decide (p.1 <= p.2)) = false from by simp [sizesL]; omega]; rfl)
  ·(repeat (refine V_run ?_))
   exact back 3 _ _ _ ⟨rfl,by omega,by omega,by rw [g1]; show (decide ((c.lists.length:Int) <= 3000) && _) = _; rw [decide_eq_true (by omega),Bool.true_and]; rfl⟩ (by (repeat (exact Le.refl _))) (hS4.sublist (List.sublist_cons_self _ _)) (by omega)
 ·refine Cond_is rfl ?_
  (repeat (first | refine V_run ?_ | refine iV_ld1 ?_ | (refine iV_bx ?_; intro _ _ _ _) | (refine iU_st ?_; intro _ _)));rename_i hS4;refine Cond_d (fun h=>?_) (fun h=>?_)
  ·exact hR' _ _ _ hS4 _ (by rw [limitsM,g1,show ((sizesL c).drop (Int.toNat 3)).all (fun p=>decide (p.1 <= p.2)) = false from by simp [sizesL]; omega]; rfl)
  ·(repeat (refine V_run ?_))
   exact back 4 _ _ _ ⟨rfl,by omega,by omega,by rw [g1]; show (decide ((c.labels.length:Int) <= 3000) && _) = _; rw [decide_eq_true (by omega),Bool.true_and]; rfl⟩ (by (repeat (exact Le.refl _))) (hS4.sublist (List.sublist_cons_self _ _)) (by omega)
 ·refine Cond_is rfl ?_
  (repeat (first | refine V_run ?_ | refine iV_ld1 ?_ | (refine iV_bx ?_; intro _ _ _ _) | (refine iU_st ?_; intro _ _)));rename_i hS4;refine Cond_d (fun h=>?_) (fun h=>?_)
  ·exact hR' _ _ _ hS4 _ (by rw [limitsM,g1,show ((sizesL c).drop (Int.toNat 4)).all (fun p=>decide (p.1 <= p.2)) = false from by simp [sizesL]; omega]; rfl)
  ·(repeat (refine V_run ?_))
   exact back 5 _ _ _ ⟨rfl,by omega,by omega,by rw [g1]; show (decide ((c.slots.length:Int) <= 100) && _) = _; rw [decide_eq_true (by omega),Bool.true_and]; rfl⟩ (by (repeat (exact Le.refl _))) (hS4.sublist (List.sublist_cons_self _ _)) (by omega)
 ·refine Cond_is rfl ?_
  (repeat (first | refine V_run ?_ | refine iV_ld1 ?_ | (refine iV_bx ?_; intro _ _ _ _) | (refine iU_st ?_; intro _ _)));rename_i hS4;refine Cond_d (fun h=>?_) (fun h=>?_)
  ·exact hR' _ _ _ hS4 _ (by rw [limitsM,g1,show ((sizesL c).drop (Int.toNat 5)).all (fun p=>decide (p.1 <= p.2)) = false from by simp [sizesL]; omega]; rfl)
  ·(repeat (refine V_run ?_))
   exact back 6 _ _ _ ⟨rfl,by omega,by omega,by rw [g1]; show (decide ((c.ins.length:Int) <= 12000) && _) = _; rw [decide_eq_true (by omega),Bool.true_and]; rfl⟩ (by (repeat (exact Le.refl _))) (hS4.sublist (List.sublist_cons_self _ _)) (by omega)
 refine Cond_not rfl ?_;have hsz:(sizesL c).all (fun p=>decide (p.1 <= p.2)) = true:=g1;clear back hS hS1 hS2;obtain ⟨zf,hzf,hS5,hat⟩:=hS3.frz bs;clear hS3;have hz5:=hz3.trans hzf;haveI:Fz zf bs 0 [shortV]:=⟨hat⟩
 haveI:PuZ zf 138 #[.slice a2 c.tmpls.length k2,.func (.func 139) #[] #[.pointer (some ⟨bs,0,none⟩)]] (.bool (c.tmpls.all lim2)):=⟨fun z' w' hz=>fam1 (E:=El.sl El.part) (p:=lim2) (h2.mono (hz5.trans hz)) fun z'' w'' cs x hm hz' hr=>by
   obtain ⟨v,rfl,hv⟩:=hr;exact limits2 (hat.mono (hz.trans hz')) hv⟩
 haveI:PuZ zf 142 #[.slice a1 c.consts.length k1,shortV] (.bool (c.consts.all shortB)):=⟨fun z' w' hz=>fam1 (E:=El.str) (p:=shortB) (h1.mono (hz5.trans hz)) fun z'' w'' cs x hm hz' hr=>by
   obtain ⟨rfl,_⟩:=hr;exact (puV:Va1 shortV #[.string x] z'' w'' _)⟩
 haveI:PuZ zf 143 #[.slice a3 c.lists.length k3,.func (.func 144) #[] #[]] (.bool (c.lists.all lim3)):=⟨fun z' w' hz=>fam1 (E:=El.sl El.item) (p:=lim3) (h3.mono (hz5.trans hz)) fun z'' w'' cs x hm hz' hr=>by
   obtain ⟨v,rfl,hv⟩:=hr;exact limits3 hv⟩
 haveI:PuZ zf 145 #[.slice a4 c.labels.length k4,.func (.func 146) #[] #[.pointer (some ⟨bs,0,none⟩)]] (.bool (c.labels.all fun s=>shortB s.name)):=⟨fun z' w' hz=>fam1 (E:=El.spot) (p:=fun s=>shortB s.name) (h4.mono (hz5.trans hz)) fun z'' w'' cs x hm hz' hr=>by
   obtain ⟨rfl,_⟩:=hr;exact limits4 (hat.mono (hz.trans hz'))⟩
 refine PWat hS5 (fun hS6=>inferInstance) ?_ hR;rw [limitsM,hsz]
 cases c.tmpls.all lim2 <;> cases c.consts.all shortB <;> cases c.lists.all lim3 <;> rfl)
end
section
open Go Q Go.RowKit
def tmplB (l:List PartM):Bool:=l.all partM
def listB (l:List ItemM):Bool:=decide (0 < l.length) && l.all fun x=>varB x.name
def labS (n:Nat) (last:Int) (s:SpotM):Bool × Int:=(validB s.name && inB s.at_ last ((n:Int) - 1),max last s.at_)
def sloS (h:List ByteArray) (s:ByteArray):Bool × List ByteArray:=(decide (symKind s = 2) && !memK h s,insK h s)
def partsM (c:CodeM):Bool:=!decide (c.ins.length = 0) && (c.consts.all validB && (c.tmpls.all tmplB && (c.lists.all listB && ((allS (labS c.ins.length) 0 c.labels).1 && (allS sloS [] c.slots).1))))
theorem parts1 {z:Z} {w:World} {v:Value} {l:List PartM} (hv:SlR El.part z v l):Va1 (.func (.func 148) #[] #[]) #[v] z w fun _ r=>r = .bool (tmplB l):=by
 haveI:PuZ z 140 #[v,.func (.func 149) #[] #[]] (.bool (l.all partM)):=⟨fun z' w' hz=>fam1 (E:=El.part) (p:=partM) (hv.mono hz) fun z'' w'' cs x hm hz' hr=>by
  obtain ⟨rfl,_⟩:=hr;exact (puV:Va1 (.func (.func 149) #[] #[]) #[x.v] z'' w'' _)⟩
 exact Fn1.va (args':=#[v]) (fnW en148 (fun hS R=>by unfold vc148; exact inferInstance) rfl) (by simp)
instance {x:ItemM}:Pu 152 #[x.v] (.bool (varB x.name)):=⟨fun z w=>fnW en152 (fun hS R=>by unfold vc152; exact inferInstance) rfl⟩
theorem parts2 {z:Z} {w:World} {v:Value} {l:List ItemM} (hv:SlR El.item z v l):Va1 (.func (.func 150) #[] #[]) #[v] z w fun _ r=>r = .bool (listB l):=by
 obtain ⟨_,a,k,rfl,_,_⟩:=hv.form;haveI:PuZ z 151 #[.slice a l.length k,.func (.func 152) #[] #[]] (.bool (l.all fun x=>varB x.name)):=⟨fun z' w' hz=>fam1 (E:=El.item) (p:=fun x=>varB x.name) (hv.mono hz) fun z'' w'' cs x hm hz' hr=>by
  obtain ⟨rfl,_⟩:=hr;exact (puV:Va1 (.func (.func 152) #[] #[]) #[x.v] z'' w'' _)⟩
 refine Fn1.va (args':=#[.slice a l.length k]) (fnW en150 (fun hS R=>by unfold vc150; exact inferInstance) ?_) (by simp);unfold listB
 by_cases h:0 < l.length
 ·rw [decide_eq_true h,decide_eq_true (by omega)]; rfl
 ·rw [decide_eq_false h,decide_eq_false (by omega)]; rfl
abbrev lastO (n:Int):Obj:=.cells [.int .i64 n].toArray 3 (0,0)
theorem parts3 {z:Z} {w:World} {b4 bc n:Nat} {v1 v2 v3 v4 v5:Value} {a:Option Addr} {k:Nat} {s:SpotM} {last:Int} (hn:n <= big) (ha:At z bc 0 [v1,v2,v3,v4,v5,.slice a n k]) :
  Va (.func (.func 154) #[] #[.pointer (some ⟨b4,0,none⟩),.pointer (some ⟨bc,0,none⟩)]) #[s.v] z [(b4,lastO last)] w fun _ B' r=>r = .bool (labS n last s).1/\B' = [(b4,lastO (labS n last s).2)]:=
 Fn.va (args':=#[s.v,.pointer (some ⟨b4,0,none⟩),.pointer (some ⟨bc,0,none⟩)]) (Fn.intro fun hS=>en154 (by
  unfold vc154;haveI:=inI_len hn;haveI:Fz z bc 5 [.slice a n k]:=⟨ha.fld (i:=5) rfl rfl⟩
  refine iV_bx ?_;intro b1 w1 hb1 hS1;clear hS;(repeat (first | refine V_run ?_ | refine iV_ld1 ?_ | (refine iU_st ?_; intro _ _) | (refine JGB ?_; intro _ _ _ _) | (refine CV_pu ?_; intro _ _ _ _)));dsimp only;exact finK [.at b4] ⟨by rw [labS]; cases validB s.name <;> rfl,rfl⟩)) (by simp)
abbrev hadO (h:List ByteArray):Obj:=mK Value.string (setK h)
theorem parts4 {z:Z} {w:World} {b6 bm:Nat} {s:ByteArray} {h:List ByteArray} :
  Va (.func (.func 155) #[] #[.pointer (some ⟨b6,0,none⟩)]) #[.string s] z [(b6,.cells [.map (some bm)].toArray 231 (0,0)),(bm,hadO h)] w fun _ B' r=>r = .bool (sloS h s).1/\B' = [(b6,.cells [.map (some bm)].toArray 231 (0,0)),(bm,hadO (sloS h s).2)]:=
 Fn.va (args':=#[.string s,.pointer (some ⟨b6,0,none⟩)]) (Fn.intro fun hS=>en155 (by
  unfold vc155;haveI:ZeroV 8 (.bool false):=⟨fun _=>by kernel_rfl⟩
  (repeat (first | refine V_run ?_ | refine iV_ld1 ?_ | (refine JGB ?_; intro _ _ _ _) | (refine CV_pu ?_; intro _ _ _ _)));refine kU_mu (mk:=Value.string) ?_;intro w2 hS2;rw [up_set] at hS2;refine ⟨_,_,hS2,?_,rfl⟩;rw [sloS]; cases decide (symKind s = 2) <;> rfl)) (by simp)
theorem parts_of {z:Z} {w:World} {v:Value} {c:CodeM} (hc:CodeR z v c):Fn1 47 #[v] z w fun _ r=>r = .bool (partsM c):=fnA en47 (by
 intro hS R hR;unfold vc47;obtain ⟨a1,a2,a3,a4,a5,a6,k1,k2,k3,k4,k5,k6,rfl,h1,h2,h3,h4,h5,h6⟩:=hc.form;refine iV_bx ?_;intro bc w1 hbc hS1;obtain ⟨zc,hzc,hS2,hat⟩:=hS1.frz bc;clear hS hS1;obtain ⟨hS3,hR3⟩:=hS2.rebase hR;clear hS2 hR;haveI:Fz zc bc 0 [.slice a1 c.consts.length k1]:=⟨hat.fld (i:=0) rfl rfl⟩
 haveI:Fz zc bc 1 [.slice a2 c.tmpls.length k2]:=⟨hat.fld (i:=1) rfl rfl⟩
 haveI:Fz zc bc 2 [.slice a3 c.lists.length k3]:=⟨hat.fld (i:=2) rfl rfl⟩
 haveI:Fz zc bc 3 [.slice a4 c.labels.length k4]:=⟨hat.fld (i:=3) rfl rfl⟩
 haveI:Fz zc bc 4 [.slice a5 c.slots.length k5]:=⟨hat.fld (i:=4) rfl rfl⟩
 haveI:Fz zc bc 5 [.slice a6 c.ins.length k6]:=⟨hat.fld (i:=5) rfl rfl⟩
 haveI:PuZ zc 138 #[.slice a2 c.tmpls.length k2,.func (.func 148) #[] #[]] (.bool (c.tmpls.all tmplB)):=⟨fun z' w' hz=>fam1 (E:=El.sl El.part) (p:=tmplB) (h2.mono (hzc.trans hz)) fun z'' w'' cs x hm hz' hr=>by
  obtain ⟨v,rfl,hv⟩:=hr;exact parts1 hv⟩
 haveI:PuZ zc 142 #[.slice a1 c.consts.length k1,.func (.func 147) #[] #[]] (.bool (c.consts.all validB)):=⟨fun z' w' hz=>fam1 (E:=El.str) (p:=validB) (h1.mono (hzc.trans hz)) fun z'' w'' cs x hm hz' hr=>by
  obtain ⟨rfl,_⟩:=hr;exact (puV:Va1 (.func (.func 147) #[] #[]) #[.string x] z'' w'' _)⟩
 haveI:PuZ zc 143 #[.slice a3 c.lists.length k3,.func (.func 150) #[] #[]] (.bool (c.lists.all listB)):=⟨fun z' w' hz=>fam1 (E:=El.sl El.item) (p:=listB) (h3.mono (hzc.trans hz)) fun z'' w'' cs x hm hz' hr=>by
  obtain ⟨v,rfl,hv⟩:=hr;exact parts2 hv⟩
 (repeat (first | refine V_run ?_ | (refine JGB ?_; intro _ _ _ _) | refine fV_ld1 ?_));refine Cond_b (fun e=>?_) (fun e=>?_)
 ·refine finW hR3 ?_
  rw [partsM]
  revert e
  rw [show decide ((c.ins.length:Int) = 0) = decide (c.ins.length = 0) from decide_eq_decide.2 (by omega)]
  cases decide (c.ins.length = 0) <;> cases c.consts.all validB <;> cases c.tmpls.all tmplB <;> simp
 ·have e1:partsM c = (c.lists.all listB && ((allS (labS c.ins.length) 0 c.labels).1 && (allS sloS [] c.slots).1)):=by
   rw [partsM]
   revert e
   rw [show decide ((c.ins.length:Int) = 0) = decide (c.ins.length = 0) from decide_eq_decide.2 (by omega)]
   cases decide (c.ins.length = 0) <;> cases c.consts.all validB <;> cases c.tmpls.all tmplB <;> simp
  (repeat (first | refine V_run ?_ | (refine iV_bx ?_; intro _ _ _ _) | (refine iU_st ?_; intro _ _) | (refine CV_puz ?_; intro _ _ _ _) | refine fV_ld1 ?_));rename_i b4 _ _ _ w5 hS5;refine CV_fn (B:=[(b4,lastO 0)]) (F:=[]) (by simpa using hS5) ((inferInstance:Fam El.spot 145 aggN).h (σ:=Int) (fun s=>[(b4,lastO s)]) (labS c.ins.length) 0 (h4.mono (hzc.trans hS5.zle)) (fun z' w' s cs x hm hz hr=>by
   obtain ⟨rfl,_⟩:=hr;exact parts3 h6.big (hat.mono (hS5.zle.trans hz)))) (by simp) ?_
  rintro z6 B6 w6 v6 hz6 hS6 ⟨rfl,rfl⟩
  rw [List.append_nil] at hS6;refine kV_mm (mk:=Value.string) ?_;intro bm w7 hbm hS7;refine iV_al ?_;intro b6 w8 hb6 hS8;clear hS7;(repeat (first | refine V_run ?_ | (refine iU_st ?_; intro _ _) | refine fV_ld1 ?_));rename_i w9 hS9;have hS10:=hS9.keep [.at b6,.at bm];clear hS9 hS8 hS6 hS3;refine CV_fn (B:=[(b6,.cells [.map (some bm)].toArray 231 (0,0)),(bm,hadO [])]) (F:=[]) (by rw [List.append_nil]; exact hS10) ((inferInstance:Fam El.str 142 one1).h (σ:=List ByteArray) (fun h=>[(b6,.cells [.map (some bm)].toArray 231 (0,0)),(bm,hadO h)]) sloS [] (h5.mono (hzc.trans hS10.zle)) (fun z' w' s cs x hm hz hr=>by
   obtain ⟨rfl,_⟩:=hr;exact parts4)) (by simp) ?_
  rintro z11 B11 w11 v11 hz11 hS11 ⟨rfl,rfl⟩
  rw [List.append_nil] at hS11;(repeat (refine JB ?_));exact finW hR3 (by rw [e1]; cases c.lists.all listB <;> cases (allS (labS c.ins.length) 0 c.labels).1 <;> rfl))
end
section
open Go Q Go.RowKit
theorem CE_fn {f:FuncId} [he:Enters f] {first args cap args':Array Value} {w:World} {K:Value->World->Prop} (ha:first ++ args ++ cap = args') (h:Calls Tryz.prog f args' w (retK K)):CE (.func (.func f) first cap) args w K:=by
 subst ha;have:(callSem (.func (.func f) first cap) args).run Tryz.prog w = .ok (.enter f (first ++ args ++ cap)) w:=by
  simp only [callSem,Deferred.ofValue,pure_bind,invoke];exact he.h _ _
 unfold CE CallE;rw [this];exact h
theorem Res.rf {w0 w w1:World} {z0 z:Z} {B0 L:Bl} {r l:Nat} {lp:Loop} (h:Res w0 z0 B0 w z L) (hn:NewRF w w1 r l lp):Res w0 z0 B0 w1 z ((l,lobj lp .ready none) :: (r,.deferred (some [])) :: L):=by
 obtain ⟨rfl,rfl,rfl⟩:=hn;have:=Res.new (Res.new h (.deferred (some []))) (lobj lp .ready none)
 simpa using this
theorem iBegin {w0 w:World} {z0 z:Z} {B0 L:Bl} {C:Obj->Bl} {l:Nat} {lp:Loop} {K:World->Prop} [hS:Res w0 z0 B0 w z L] [g:Blk L l (lobj lp .ready none) C] (hk:∀ w',Res w0 z0 B0 w' z (C (lobj lp .busy none))->K w'):BeginW l lp w K:=⟨Res.at_ (g:=g) hS,hk _ (Res.set (g:=g) hS _ rfl)⟩
theorem iEnd {w0 w:World} {z0 z:Z} {B0 L:Bl} {C:Obj->Bl} {l:Nat} {lp:Loop} {st:LoopState} {pend jump:Option Code} {K:Value->World->Prop} [hS:Res w0 z0 B0 w z L] [g:Blk L l (lobj lp st pend) C] (hk:∀ w',Res w0 z0 B0 w' z (C (lobj lp (if jump.isNone then .ready else .done) jump))->K (.bool jump.isNone) w'):EndW l lp jump w K:=⟨⟨st,pend,Res.at_ (g:=g) hS⟩,hk _ (Res.set (g:=g) hS _ rfl)⟩
theorem iRfEnd {w0 w:World} {z0 z:Z} {B0 L:Bl} {C:Obj->Bl} {l:Nat} {lp:Loop} {st:LoopState} {pend:Option Code} {Kn Kr:World->Prop} {kes:List (Nat × (World->Prop))} [hS:Res w0 z0 B0 w z L] [g:Blk L l (lobj lp st pend) C] (hst:st ≠ .busy) (hk:∀ w',Res w0 z0 B0 w' z (C (lobj lp .exhausted pend))->jumpK pend Kn Kr kes w'):RfEnd l lp w Kn Kr kes:=⟨st,pend,Res.at_ (g:=g) hS,hst,hk _ (Res.set (g:=g) hS _ rfl)⟩
def markB (rs:List Nat):Bl:=rs.map fun r=>(r,.deferred (some []))
theorem iTakes {w0:World} {z0 z:Z} {B0 L:Bl} {K:World->Prop}:∀ (rs:List Nat) {w:World},Res w0 z0 B0 w z (markB rs ++ L)->(∀ w',Res w0 z0 B0 w' z L->K w')->TakeW rs w K
 | [],w,h,hk=>hk w (by simpa [markB] using h)
 | r :: rs,w,h,hk=>by
  have h':Res w0 z0 B0 w z ((r,.deferred (some [])) :: (markB rs ++ L)):=h;refine ⟨(h'.mem _ List.mem_cons_self).1,?_⟩;exact iTakes rs ((h'.put (.deferred none) rfl).sublist (List.sublist_cons_self _ _)) hk
theorem fRI_N {A:Prop} {w0 w:World} {z0 z:Z} {B0 L:Bl} {b:Nat} [hS:Res w0 z0 B0 w z L] {t n:TypeId} [g:TyAgg t n] [gs:TySize t n] {off:Nat} {vs:List Value} [h:Fz z0 b off vs] [hl:LenIs vs n] (ha:A):RunIs (ld t (.pointer (some ⟨b,off,none⟩))) w (.agg vs.toArray)/\A:=⟨run_ldN ((h.h.mono hS.zle).world hS.sub) hl.h,ha⟩
section
variable {w0 w w':World} {z0 z z':Z} {B0 B B' L F:Bl} {b:Nat} {o:Obj} {C:Obj->Bl}
theorem gHV_lkI {K:Value->Prop} [hS:Res w0 z0 B0 w z L] {t k e:Nat} {kd:IntKind} {zv v:Value} [g:TyMap t k e] [gk:TyInt k kd] [gz:ZeroV e zv] {n:Int} {l:List (Int × Value)} [gb:Blk L b (mK (Value.int kd) l) C] [gv:GetKV l n zv v]
  (hk:K v):HV (lk t (.map (some b)) (.int kd n) false) w K:=kHV_lk (C:=C) (mk:=Value.int kd) (zv:=zv) (by rw [if_neg (by simp),gv.h]; exact hk)
theorem gRI_lkI {A:Prop} [hS:Res w0 z0 B0 w z L] {t k e:Nat} {kd:IntKind} {zv v:Value} [g:TyMap t k e] [gk:TyInt k kd] [gz:ZeroV e zv] {n:Int} {l:List (Int × Value)} [gb:Blk L b (mK (Value.int kd) l) C] [gv:GetKV l n zv v]
  (hk:A):RunIs (lk t (.map (some b)) (.int kd n) false) w v/\A:=by
 have:=run_lkK (t:=t) (k:=k) (e:=e) (mk:=Value.int kd) (n:=n) (l:=l) (Res.at_ (g:=gb) hS) gz.h false;rw [if_neg (by simp),gv.h] at this;exact ⟨this,hk⟩
theorem Res.comp {L':Bl} (h:Res w0 z0 B0 w z L) (k:Res w z L w' z' L'):Res w0 z0 B0 w' z' L':=by
 have h':Res w0 z0 B0 w z (L ++ []):=by simpa using h
 simpa using h'.step k
theorem Res.self (h:Res w0 z0 B0 w z L):Res w z L w z L:=by
 have h':Res w0 z0 B0 w z (L ++ []):=by simpa using h
 exact h'.own
theorem perm_mid (B G xs T:Bl):(B ++ (G ++ (xs ++ T))).Perm (G ++ (xs ++ (B ++ T))):=
 (List.perm_append_comm_assoc B G (xs ++ T)).trans ((List.perm_append_comm_assoc B xs T).append_left G)
theorem SetN.at_ {l:List Value} {k:Nat} {u:Value} (h:k < l.length):SetN l k [u] (l.set k u) where
 len:=by simp
 bound:=by simp; omega
 inn:=fun j v hv=>by
  cases j with
  | zero=>simp at hv; subst hv; simp [h]
  | succ j=>simp at hv
 out:=fun j hj=>by simp only [List.length_singleton] at hj; rw [List.getElem?_set_ne (by omega)]
theorem OwnSl.pop {e n:Nat} {B:Bl} {v u:Value} {xs:List Value} (h:OwnSl e 1 B v (n + 1) (xs ++ [u])):∃ bo cap C,v = .slice (some ⟨bo,0,none⟩) (n + 1) cap/\n + 1 <= cap/\B = [(bo,.cells C e (0,0))]/\C[n]? = some u/\OwnSl e 1 B (.slice (some ⟨bo,0,none⟩) n cap) n xs:=by
 rcases h.2 with ⟨_,_,h0⟩ | ⟨b,cap,sp,rfl,rfl,h1,h2,h3⟩
 ·omega
 ·have hl:=h.1
  have hxn:xs.length = n:=by simp at hl; omega
  refine ⟨b,cap,_,rfl,h1,rfl,?_,by omega,.inr ⟨b,cap,u :: sp,by simp,rfl,by omega,h2,?_⟩⟩
  ·simp [<- hxn]
  ·simp at h3 ⊢; omega
end
theorem V_push {w0 w:World} {z0 z:Z} {B0 B L R:Bl} {K:Value->World->Prop} {t e size bytes n:Nat} {v u:Value} {us xs:List Value} [g:TyApp t e size bytes] [gs:TySlice t e size] [gz:TyFill e size] [gc:CellsOf u us] [gl:LenIs us size] [go:Ones us]
  (hS:Res w0 z0 B0 w z L) (ho:OwnSl e size B v n xs) [gb:BringL L B R] (hb:(n + 1) * bytes <= room) (hb2:n + 1 <= room) (hsz:size <= 1000)
  (hk:∀ B' v' w',OwnSl e size B' v' (n + 1) (xs ++ us)->Res w0 z0 B0 w' z (B' ++ R)->K v' w'):V (bs t 1 #[(0,u)]) w fun s w=>V (Builtin.append_ #[t,t] t #[v,s]) w K:=by
 refine V_bs (parts:=[(0,u)]) rfl (by omega) ?_;intro b w1 hb1 hS1;rw [List.append_nil] at hS1;have hat:At (hp w1) b 0 us:=⟨_,_,_,(hS1.mem _ List.mem_cons_self).1,fun j v hv=>by simpa using hv⟩
 have hS2:Res w0 z0 B0 w1 z (B ++ R):=(hS1.sublist (List.sublist_cons_self _ _)).perm gb.h;refine V_app (B:=B) (m:=1) hS2 ho hat (by rw [gl.h]; omega) go.h (by omega) hb hb2 ?_;exact hk
end
section
open Go Q Go.RowKit
structure DepM where
 stack:Int
 loops:Int
deriving DecidableEq
abbrev DepM.cells (s:DepM):List Value:=[.int .i64 s.stack,.int .i64 s.loops]
abbrev DepM.v (s:DepM):Value:=.agg s.cells.toArray
def calmM (i:InsM) (s:DepM):Bool:=
 if i.op = 31 then decide (s.stack = 0) && decide (s.loops > 0) else if i.op = 1 \/ i.op = 2 then decide (s.stack = 0) else if i.op = 30 \/ i.op = 32 then decide (s.loops > 0) else true
instance {i:InsM} {s:DepM}:Pu 161 #[i.v,s.v] (.bool (calmM i s)):=⟨fun z w=>fnW en161 (fun hS R=>by unfold vc161; exact inferInstance) (by
 unfold calmM;simp only [Bool.cond_eq_ite,decide_eq_true_eq];(repeat' split) <;> simp_all)⟩
class Tame (i:InsM):Prop where
 a:i.op = 33->0 <= i.a/\i.a <= 40
class Low (s:DepM):Prop where
 h:0 <= s.stack/\s.stack <= 200/\0 <= s.loops/\s.loops <= 40
theorem form_small {n:Int}:0 <= (formAt n).pops/\(formAt n).pops <= 2/\0 <= (formAt n).pushes/\(formAt n).pushes <= 1/\0 <= (formAt n).loop/\(formAt n).loop <= 1:=by
 have key:formL.all (fun f=>decide (0 <= f.pops/\f.pops <= 2/\0 <= f.pushes/\f.pushes <= 1/\0 <= f.loop/\f.loop <= 1)) = true:=by decide +kernel
 have h0:0 <= noForm.pops/\noForm.pops <= 2/\0 <= noForm.pushes/\noForm.pushes <= 1/\0 <= noForm.loop/\noForm.loop <= 1:=by decide
 by_cases h:opOk n = true
 ·have:=List.mem_of_getElem? (formL_at h)
  have:=List.all_eq_true.1 key _ this
  simpa using this
 ·unfold formAt
  rw [if_neg h];exact h0
theorem ranged_in {k lo hi n:Int} (h:rngTab.find? (fun p=>p.1 == k) = some (k,lo,hi)) (h2:rangedM k n = true):lo <= n/\n <= hi:=by
 unfold rangedM at h2;rw [h] at h2;exact inB_iff.1 h2
theorem eff_small (i:InsM):0 <= (effM i).pops/\(effM i).pops <= 20/\0 <= (effM i).pushes/\(effM i).pushes <= 1:=by
 unfold effM
 by_cases h:(opOk i.op && effOk i) = true
 ·rw [if_pos h]
  simp only [Bool.and_eq_true] at h;have hf:=@form_small i.op;have h2:=h.2;refine ⟨?_,?_,hf.2.2.1,hf.2.2.2.1⟩
  all_goals
   simp only [effPops];unfold effOk at h2;have hr:=repsM_range i.b;have hw:IntKind.i64.wrap 0 = 0:=rfl;have hw1:IntKind.i64.wrap 1 = 1:=rfl
   split
   ·rename_i e; rw [if_pos e] at h2; have:=ranged_in (k:=16) (lo:=0) (hi:=10) rfl h2; omega
   rename_i e; rw [if_neg e] at h2
   split
   ·rename_i e; rw [if_pos e] at h2
    have:=ranged_in (k:=15) (lo:=0) (hi:=2) rfl h2;have:i.a = 0 \/ i.a = 1 \/ i.a = 2:=by omega
    rcases this with e | e | e <;> rw [e] <;> decide
   rename_i e; rw [if_neg e] at h2
   split
   ·omega
   rename_i e; rw [if_neg e] at h2
   split
   ·rename_i e; rw [if_pos e] at h2; simp only [Bool.and_eq_true] at h2
    have:=ranged_in (k:=14) (lo:=0) (hi:=1) rfl h2.2
    split <;> omega
   rename_i e; rw [if_neg e] at h2
   split
   ·split <;> omega
   rename_i e; rw [if_neg e] at h2
   split
   ·rename_i e; rw [if_pos e] at h2; have:=ranged_in (k:=14) (lo:=0) (hi:=1) rfl h2; omega
   ·omega
 ·rw [if_neg h]; decide
def behindM (i:InsM) (s:DepM) (jumps:Bool):DepM:=
 ⟨s.stack + ((effM i).pushes - (effM i).pops),s.loops + (formAt i.op).loop - (if i.op = 30/\jumps = true then 1 else if i.op = 33 then i.a else 0)⟩
theorem behind_of {i:InsM} {s:DepM} {j:Bool} (ht:Tame i) (hl:Low s) {z:Z} {w:World}:Fn1 162 #[i.v,s.v,.bool j] z w fun _ r=>r = (behindM i s j).v:=fnA en162 (by
 intro hS R hR;have he:=eff_small i;have hf:=@form_small i.op;obtain ⟨l1,l2,l3,l4⟩:=hl.h;haveI:InI ((effM i).pushes - (effM i).pops):=⟨by omega⟩
 haveI:InI (s.stack + ((effM i).pushes - (effM i).pops)):=⟨by omega⟩
 haveI:InI (s.loops + (formAt i.op).loop):=⟨by omega⟩
 haveI:InI (s.loops + (formAt i.op).loop - 1):=⟨by omega⟩
 unfold vc162;(repeat (first | refine V_run ?_ | refine iV_ld1 ?_ | refine iV_ldN ?_ | (refine iV_bx ?_; intro _ _ _ _) | (refine iU_st ?_; intro _ _) | refine JB ?_ | (refine J0 ?_; intro _ _) | (refine CV_pu ?_; intro _ _ _ _)));refine Cond_b (fun e=>?_) (fun e=>?_)
 ·have e2:i.op = 30/\j = true:=by by_cases h:i.op = 30 <;> simp [h] at e ⊢; exact e
  (repeat (first | refine V_run ?_ | refine iV_ld1 ?_ | refine iV_ldN ?_ | (refine iU_st ?_; intro _ _) | refine iHV_N ?_ | refine K0 ?_));exact finW hR (by rw [behindM,if_pos e2])
 ·have e2:¬ (i.op = 30/\j = true):=by by_cases h:i.op = 30 <;> simp [h] at e ⊢; exact e
  (repeat (first | refine V_run ?_ | refine iV_ld1 ?_));refine Cond_d (fun e3=>?_) (fun e3=>?_)
  ·have ha:=ht.a e3
   haveI:InI (s.loops + (formAt i.op).loop - i.a):=⟨by omega⟩
   (repeat (first | refine V_run ?_ | refine iV_ld1 ?_ | refine iV_ldN ?_ | (refine iU_st ?_; intro _ _) | refine iHV_N ?_ | refine K0 ?_));exact finW hR (by rw [behindM,if_neg e2,if_pos e3])
  ·(repeat (first | refine iV_ldN ?_ | (refine iU_st ?_; intro _ _) | refine iHV_N ?_ | refine K0 ?_))
   exact finW hR (by rw [behindM,if_neg e2,if_neg e3,Int.sub_zero]))
end
section
open Go Q Go.RowKit
def intsV (l:List Nat):List Value:=l.map fun n:Nat=>.int .i64 (n:Int)
theorem intsV_append {a b:List Nat}:intsV (a ++ b) = intsV a ++ intsV b:=by simp [intsV]
def rootOk (c:CodeM) (s:SpotM):Bool:=inB s.at_ 0 ((c.ins.length:Int) - 1)
def rootsK (c:CodeM) (k:Nat):List Nat:=0 :: ((c.labels.take k).filter (rootOk c)).map fun s=>s.at_.toNat
def rootsM (c:CodeM):List Nat:=rootsK c c.labels.length
theorem rootsK_le {c:CodeM} {k:Nat}:(rootsK c k).length <= k + 1:=by
 have:=List.length_filter_le (rootOk c) (c.labels.take k);rw [List.length_take] at this;simp only [rootsK,List.length_cons,List.length_map]; omega
theorem rootsK_succ {c:CodeM} {k:Nat} (h:k < c.labels.length):rootsK c (k + 1) = rootsK c k ++ (if rootOk c c.labels[k] then [c.labels[k].at_.toNat] else []):=by
 unfold rootsK;rw [<- List.take_append_getElem h,List.filter_append,List.map_append]
 cases hr:rootOk c c.labels[k] <;> simp [hr]
theorem roots_of {z:Z} {w:World} {v:Value} {c:CodeM} (hc:CodeR z v c) (hl:c.labels.length <= 3000):Fn 73 #[v] z [] w fun z' B' r=>OwnSl 3 1 B' r (rootsM c).length (intsV (rootsM c)):=Fn.intro fun hS=>en73 (by
 unfold vc73;obtain ⟨a1,a2,a3,a4,a5,a6,k1,k2,k3,k4,k5,k6,rfl,h1,h2,h3,h4,h5,h6⟩:=hc.form;haveI:=inI_len h6.big;refine iV_bx ?_;intro bc w1 hbc hS1;refine V_bs (parts:=[(0,_)]) rfl (by omega) ?_;intro br w2 hbr hS2;clear hS hS1;(repeat (first | refine V_run ?_ | refine iV_ld1 ?_));refine LoopG2 (fun (k:Nat) x y w'=>y = .int .i64 k/\k <= c.labels.length/\∃ B' z',Le z z'/\OwnSl 3 1 B' x (rootsK c k).length (intsV (rootsK c k))/\Res w z [] w' z' (B' ++ [(bc,.cells [.slice a1 c.consts.length k1,.slice a2 c.tmpls.length k2,.slice a3 c.lists.length k3,.slice a4 c.labels.length k4,.slice a5 c.slots.length k5,.slice a6 c.ins.length k6].toArray 28 (0,0))])) (fun k=>c.labels.length - k) 0
  ⟨rfl,by omega,[(br,.cells ([Value.int .i64 0] ++ []).toArray 3 (0,0))],_,Le.refl _,⟨rfl,.inr ⟨br,1,[],rfl,rfl,Nat.le_refl 1,by decide,rfl⟩⟩,hS2⟩ ?_
 rintro I M k x y w3 m ⟨rfl,hk,B3,z3,hz3,ho,hS3⟩ back
 clear hS2;(repeat (refine V_run ?_));refine Cond_d (fun h=>?_) (fun h=>?_)
 ·have hlt:k < c.labels.length:=by omega
  haveI:InR (k:Int) (c.labels.length:Nat):=⟨by omega,by omega⟩
  haveI:InI ((k:Int) + 1):=⟨by omega⟩
  intro K hK;obtain ⟨_,a,kk,he,_,hel⟩:=h4.form
  cases he
  obtain ⟨b,off,cs,rfl,⟨rfl,hs⟩,hat⟩:=hel k _ (List.getElem?_eq_getElem hlt);have hlen:=@rootsK_le c k;(repeat (refine V_run ?_));refine zV_ldN (n:=2) (vs:=c.labels[k].cells) (hat.mono hz3) rfl ?_;(repeat (first | refine V_run ?_ | refine iV_ld1 ?_ | (refine iV_bx ?_; intro _ _ _ _) | (refine iU_st ?_; intro _ _) | (refine CV_pu ?_; intro _ _ _ _)));refine Cond_b (fun e=>?_) (fun e=>?_)
  ·have e2:rootOk c c.labels[k] = true:=e
   have e3:=inB_iff.1 e;have hat2:((c.labels[k].at_.toNat:Nat):Int) = c.labels[k].at_:=by omega
   (repeat (first | refine V_run ?_ | refine iV_ld1 ?_));rename_i hS4;refine V_push hS4 ho (by simp only [room]; omega) (by simp only [room]; omega) (by decide) ?_;intro B5 v5 w5 ho5 hS5;refine hK _ _ fun _=>?_
   (repeat (refine V_run ?_));refine back (k + 1) _ _ _ ⟨by simp,by omega,B5,_,?_,?_,hS5.keep [.bl B5,.at bc]⟩ (by omega)
   ·(repeat (exact Res.zle (by assumption)))
   ·rw [rootsK_succ hlt,if_pos e2,intsV_append]
    simpa [intsV,hat2] using ho5
  ·have e2:¬ rootOk c c.labels[k] = true:=by rw [show rootOk c c.labels[k] = false from e]; simp
   rename_i hS4;refine hK _ _ fun _=>?_
   (repeat (refine V_run ?_));refine back (k + 1) _ _ _ ⟨by simp,by omega,B3,_,?_,?_,hS4.keep [.bl B3,.at bc]⟩ (by omega)
   ·(repeat (exact Res.zle (by assumption)))
   ·rw [rootsK_succ hlt,if_neg e2,List.append_nil]
    exact ho
 ·have:k = c.labels.length:=by omega
  subst this;exact ⟨_,_,hS3.keep [.bl B3],by simpa [rootsM] using ho⟩)
end
section
open Go Q Go.RowKit
def jumpOp (i:InsM):Bool:=decide (i.op = 23) || (decide (i.op = 24) || decide (i.op = 30))
def lead1 (n at_:Nat) (i:InsM):List (Nat × Bool):=if (!(formAt i.op).final && decide (at_ + 1 < n)) = true then [(at_ + 1,false)] else []
def lead2 (n:Nat) (i:InsM):List (Nat × Bool):=if (jumpOp i && inB i.a 0 ((n:Int) - 1)) = true then [(i.a.toNat,true)] else []
def leadsM (n at_:Nat) (i:InsM):List (Nat × Bool):=lead1 n at_ i ++ lead2 n i
theorem leads_of {z:Z} {w:World} {vs:List Value} {at_:Int}:Fn1 74 #[.agg vs.toArray,.int .i64 at_] z w fun z' r=>∃ b1 b2,r = .func (.func 173) #[] #[.pointer (some ⟨b1,0,none⟩),.pointer (some ⟨b2,0,none⟩)]/\At z' b1 0 vs/\At z' b2 0 [.int .i64 at_]:=Fn1.intro fun hS=>en74 (by
 unfold vc74;refine iV_bx ?_;intro b1 w1 hb1 hS1;refine iV_bx ?_;intro b2 w2 hb2 hS2;obtain ⟨z3,hz3,hS3,h3⟩:=hS2.frz b2;obtain ⟨z4,hz4,hS4,h4⟩:=hS3.frz b1;exact ⟨_,_,hS4,b1,b2,rfl,h4,h3.mono hz4⟩)
abbrev codeVs (a1 a2 a3 a4 a5 a6:Option Addr) (k1 k2 k3 k4 k5 k6:Nat) (c:CodeM):List Value:=[.slice a1 c.consts.length k1,.slice a2 c.tmpls.length k2,.slice a3 c.lists.length k3,.slice a4 c.labels.length k4,.slice a5 c.slots.length k5,.slice a6 c.ins.length k6]
theorem leads_gen {z:Z} {w:World} {L:Bl} {b1 b2:Nat} {yv:Value} {K:Value->World->Prop} {c:CodeM} {at_:Nat} {i:InsM} {a1 a2 a3 a4 a5 a6:Option Addr} {k1 k2 k3 k4 k5 k6:Nat} (hS:Res w z L w z L) (h6:SlR El.ins z (.slice a6 c.ins.length k6) c.ins)
  (g1:At z b1 0 (codeVs a1 a2 a3 a4 a5 a6 k1 k2 k3 k4 k5 k6 c)) (g2:At z b2 0 [.int .i64 (at_:Int)]) (hi:c.ins[at_]? = some i)
  (J:Nat->Z->Bl->Prop) (Jf:Z->Bl->Prop) (hm:∀ k z' z'' L',Le z' z''->J k z' L'->J k z'' L') (h0:J 0 z L)
  (body:∀ k x b,(leadsM c.ins.length at_ i)[k]? = some (x,b)->∀ z' w' G L' (K':Value->World->Prop),Le z z'->Res w z L w' z' (G ++ L')->J k z' L'->(∀ z'' w'' L'',Le z' z''->Res w z L w'' z'' (G ++ L'')->J (k + 1) z'' L''->K' (.bool true) w'')->(∀ z'' w'' L'',Le z' z''->Res w z L w'' z'' (G ++ L'')->Jf z'' L''->K' (.bool false) w'')->CV yv #[.int .i64 (x:Int),.bool b] w' K')
  (hend:∀ z' w' L',Le z z'->Res w z L w' z' L'->J (leadsM c.ins.length at_ i).length z' L'->K (.tuple #[]) w') (hstop:∀ z' w' L',Le z z'->Res w z L w' z' L'->Jf z' L'->K (.tuple #[]) w') :
  CE (.func (.func 173) #[] #[.pointer (some ⟨b1,0,none⟩),.pointer (some ⟨b2,0,none⟩)]) #[yv] w K:=by
 refine CE_fn (args':=#[yv,.pointer (some ⟨b1,0,none⟩),.pointer (some ⟨b2,0,none⟩)]) (by simp) (en173 ?_);unfold vc173;have hlt:=(List.getElem?_eq_some_iff.1 hi).1;have hbig:=h6.big;haveI:=inI_len hbig;haveI:InR (at_:Int) (c.ins.length:Nat):=⟨by omega,by omega⟩
 haveI:InI ((at_:Int) + 1):=⟨by simp only [big] at hbig; omega⟩
 haveI:Fz z b1 5 [.slice a6 c.ins.length k6]:=⟨g1.fld (i:=5) rfl rfl⟩
 haveI:Fz z b2 0 [.int .i64 (at_:Int)]:=⟨g2⟩
 obtain ⟨_,a,kk,he,_,hel⟩:=h6.form
 cases he
 obtain ⟨b,off,cs,rfl,rfl,hat⟩:=hel _ _ hi;(repeat (first | refine V_run ?_ | refine fV_ld1 ?_));refine zV_ldN (n:=4) (vs:=i.cells) hat rfl ?_;refine iV_al ?_;intro b3 w3 hb3 hS3;refine iU_st ?_;intro w4 hS4;refine iV_ldN ?_;refine CV_pu ?_;intro z5 w5 hz5 hS5;refine V_run ?_;refine V_run ?_;refine iV_al ?_;intro b6 w6 hb6 hS6;refine iU_st ?_;intro w7 hS7;clear hS3 hS4 hS5 hS6;(repeat (first | refine V_run ?_ | refine iV_ld1 ?_ | (refine JGB ?_; intro _ _ _ _)));rename_i z8 w8 hz8 hS8;clear hS7;intro Ka hKa;have cont:∀ z' w' L',Le z8 z'->Res w z L w' z' ([(b6,.cells (formAt i.op).cells.toArray 102 (0,0)),(b3,.cells i.cells.toArray 38 (0,0))] ++ L')->J (lead1 c.ins.length at_ i).length z' L'->Ka [.bool false] w':=by
  intro z' w' L' hz' hS9 hJ;refine hKa _ _ fun _=>?_
  clear hS8 hKa hS;simp only [List.cons_append,List.nil_append] at hS9;refine Cond_f ?_;(repeat (first | refine V_run ?_ | refine iV_ld1 ?_ | (refine JC ?_; intro _ _ _ _) | (refine JGB ?_; intro _ _ _ _)));rename_i z10 w10 hz10 hS10;clear hS9;have hz10':Le z' z10:=by (repeat (first | assumption | refine Le.trans ?_ (by assumption:Le _ _)))
  have hz':=hz5.trans (hz8.trans (hz'.trans hz10'));have hjo:(bif bif bif decide (i.op = 23) then true else decide (i.op = 24) then true else decide (i.op = 30) then inB i.a 0 ((c.ins.length:Int) - 1) else false) = (jumpOp i && inB i.a 0 ((c.ins.length:Int) - 1)):=by
   unfold jumpOp; cases decide (i.op = 23) <;> cases decide (i.op = 24) <;> cases decide (i.op = 30) <;> rfl
  rw [hjo];refine Cond_b (fun e=>?_) (fun e=>?_)
  ·have hin:inB i.a 0 ((c.ins.length:Int) - 1) = true:=by revert e; cases jumpOp i <;> simp
   have hin':=inB_iff.1 hin;have hl2:lead2 c.ins.length i = [(i.a.toNat,true)]:=by rw [lead2,if_pos e]
   (repeat (first | refine V_run ?_ | refine iV_ld1 ?_));have hb:=body (lead1 c.ins.length at_ i).length i.a.toNat true (by rw [leadsM,hl2,List.getElem?_append_right (Nat.le_refl _),Nat.sub_self]; rfl) _ _ [(b6,.cells (formAt i.op).cells.toArray 102 (0,0)),(b3,.cells i.cells.toArray 38 (0,0))] L' (fun v w'=>K (.tuple #[]) w') hz' hS10 (hm _ _ _ _ hz10' hJ)
    (fun z'' w'' L'' hz'' hS'' hJ''=>hend z'' w'' L'' (hz'.trans hz'') ((hS''.sublist (List.sublist_append_right _ _))) (by rw [leadsM,hl2,List.length_append]; exact hJ''))
    (fun z'' w'' L'' hz'' hS'' hJ''=>hstop z'' w'' L'' (hz'.trans hz'') ((hS''.sublist (List.sublist_append_right _ _))) hJ'')
   rw [show ((i.a.toNat:Nat):Int) = i.a by omega] at hb;exact hb
  ·have hl2:lead2 c.ins.length i = []:=by rw [lead2,if_neg (by rw [e]; simp)]
   exact hend z10 w10 L' hz' (hS10.sublist (List.sublist_append_right [_,_] _)) (by rw [leadsM,hl2,List.append_nil]; exact hm _ _ _ _ hz10' hJ)
 have hfi:(bif !(formAt i.op).final then decide ((at_:Int) + 1 < (c.ins.length:Int)) else false) = (!(formAt i.op).final && decide (at_ + 1 < c.ins.length)):=by
  rw [show decide ((at_:Int) + 1 < (c.ins.length:Int)) = decide (at_ + 1 < c.ins.length) from decide_eq_decide.2 (by omega)]
  cases (formAt i.op).final <;> rfl
 rw [hfi];refine Cond_b (fun e=>?_) (fun e=>?_)
 ·have hl1:lead1 c.ins.length at_ i = [(at_ + 1,false)]:=by rw [lead1,if_pos e]
  (repeat (first | refine V_run ?_ | refine fV_ld1 ?_));have hb:=body 0 (at_ + 1) false (by rw [leadsM,hl1]; rfl) _ _ [(b6,.cells (formAt i.op).cells.toArray 102 (0,0)),(b3,.cells i.cells.toArray 38 (0,0))] L (fun v w'=>V (un .not v) w' fun t33 w=>Ka [t33] w) (hz5.trans hz8) hS8 (hm _ _ _ _ (hz5.trans hz8) h0)
   (fun z'' w'' L'' hz'' hS'' hJ''=>by
    refine V_run ?_;exact cont z'' w'' L'' hz'' hS'' (by rw [hl1]; exact hJ''))
   (fun z'' w'' L'' hz'' hS'' hJ''=>by
    refine V_run ?_;refine hKa _ _ fun _=>Cond_t ?_
    exact hstop z'' w'' L'' ((hz5.trans hz8).trans hz'') (hS''.sublist (List.sublist_append_right _ _)) hJ'')
  exact hb
 ·have hl1:lead1 c.ins.length at_ i = []:=by rw [lead1,if_neg (by rw [e]; simp)]
  exact cont z8 w8 L (Le.refl _) hS8 (by rw [hl1]; exact hm _ _ _ _ (hz5.trans hz8) h0)
end
section
open Go Q Go.RowKit
structure DpM where
 kn:List (Option DepM)
 open_:List Nat
def comeM (d:DpM) (at_:Nat) (s:DepM):Bool × DpM:=match d.kn.getD at_ none with
 | some was=>(decide (was = s),d)
 | none=>(inB s.stack 0 200 && inB s.loops 0 40,⟨d.kn.set at_ (some s),d.open_ ++ [at_]⟩)
def KnR (l:List (Int × Value)) (kn:List (Option DepM)):Prop:=∀ n:Int,getK l n = if 0 <= n then (kn.getD n.toNat none).map DepM.v else none
theorem KnR.up {l:List (Int × Value)} {kn:List (Option DepM)} (h:KnR l kn) {at_:Nat} (ha:at_ < kn.length) {s:DepM}:KnR (upK l (at_:Int) s.v) (kn.set at_ (some s)):=fun n=>by
 rw [getK_up,h n]
 by_cases hn:n = (at_:Int)
 ·subst hn
  rw [if_pos rfl,if_pos (by omega),List.getD_eq_getElem?_getD,Int.toNat_natCast,List.getElem?_set_self ha]
  rfl
 ·rw [if_neg hn]
  by_cases h0:0 <= n
  ·rw [if_pos h0,if_pos h0,List.getD_eq_getElem?_getD,List.getD_eq_getElem?_getD,List.getElem?_set_ne (by omega)]
  ·rw [if_neg h0,if_neg h0]
def DpR (b5 b6:Nat) (B:Bl) (d:DpM):Prop:=∃ bm l v Bo,B = (b5,.cells [.map (some bm)].toArray 236 (0,0)) :: (bm,mK (Value.int .i64) l) :: (b6,.cells [v].toArray 45 (0,0)) :: Bo/\KnR l d.kn/\OwnSl 3 1 Bo v d.open_.length (intsV d.open_)
instance:ZeroV 238 (.agg [.int .i64 0,.int .i64 0].toArray):=⟨fun _=>by kernel_rfl⟩
theorem dep_eq {a b:DepM}:(decide (a.stack = b.stack) && (decide (a.loops = b.loops) && true)) = decide (a = b):=by
 cases a; cases b
 simp only [DepM.mk.injEq,Bool.and_true];rw [Bool.decide_and]
theorem come_of {z:Z} {w:World} {b5 b6 at_:Nat} {s:DepM} {B:Bl} {d:DpM} (hd:DpR b5 b6 B d) (ha:at_ < d.kn.length) (ho:d.open_.length <= 20000) :
  Va (.func (.func 160) #[] #[.pointer (some ⟨b5,0,none⟩),.pointer (some ⟨b6,0,none⟩)]) #[.int .i64 (at_:Int),s.v] z B w fun _ B' r=>r = .bool (comeM d at_ s).1/\DpR b5 b6 B' (comeM d at_ s).2:=
 Fn.va (args':=#[.int .i64 (at_:Int),s.v,.pointer (some ⟨b5,0,none⟩),.pointer (some ⟨b6,0,none⟩)]) (Fn.intro fun hS=>en160 (by
  unfold vc160;obtain ⟨bm,l,v,Bo,rfl,hkn,hown⟩:=hd;obtain ⟨av,cv,rfl,_⟩:=hown.form;have hk:=hkn (at_:Int);rw [if_pos (by omega),Int.toNat_natCast] at hk;have hd':comeM d at_ s = comeM d at_ s:=rfl
  conv at hd'=>rhs; unfold comeM
  (repeat (first | refine iV_ld1 ?_ | (refine iV_bx ?_; intro _ _ _ _)));refine kV_lk (mk:=Value.int .i64) (zv:=.agg [.int .i64 0,.int .i64 0].toArray) ?_;rw [if_pos rfl,hk]
  cases h:d.kn.getD at_ none with
  | some was=>
   rw [h] at hd';simp only at hd';dsimp only [Option.map,Option.getD,Option.isSome];(repeat (first | refine V_run ?_ | refine iV_ldN ?_ | (refine iV_bx ?_; intro _ _ _ _) | (refine iU_st ?_; intro _ _) | refine Cond_t ?_));rw [hd'];exact finK [.at b5,.at bm,.at b6,.bl Bo] ⟨by rw [<- dep_eq],bm,l,_,Bo,by rw [List.append_nil],hkn,hown⟩
  | none=>
   rw [h] at hd';simp only at hd';dsimp only [Option.map,Option.getD,Option.isSome];(repeat (first | refine V_run ?_ | refine iV_ld1 ?_ | refine iV_ldN ?_ | (refine iV_bx ?_; intro _ _ _ _) | (refine iU_st ?_; intro _ _) | refine Cond_f ?_));refine kU_mu (mk:=Value.int .i64) ?_;intro w2 hS2;(repeat (refine iV_ld1 ?_));refine V_push hS2 hown (by simp only [room]; omega) (by simp only [room]; omega) (by decide) ?_;intro B5 v5 w5 ho5 hS5;obtain ⟨a5,cap5,rfl,_⟩:=ho5.form;clear hS2 hS;(repeat (first | refine V_run ?_ | refine iV_ld1 ?_ | (refine iU_st ?_; intro _ _) | (refine JC ?_; intro _ _ _ _) | (refine CV_pu ?_; intro _ _ _ _)));rw [hd'];refine finK [.at b5,.at bm,.at b6,.bl B5] ⟨by cases inB s.stack 0 200 <;> rfl,bm,_,_,B5,by rw [List.append_nil],hkn.up ha,?_⟩;simp only [List.length_append,intsV_append];exact ho5)) (by simp)
end
section
open Go Q Go.RowKit
def noIns:InsM:=⟨0,0,0,0⟩
def comesM:List (Nat × DepM)->DpM->Option DpM
 | [],d=>some d
 | p :: l,d=>if (comeM d p.1 p.2).1 then comesM l (comeM d p.1 p.2).2 else none
def insAt (c:CodeM) (at_:Nat):InsM:=c.ins.getD at_ noIns
def depAt (kn:List (Option DepM)) (at_:Nat):DepM:=(kn.getD at_ none).getD ⟨0,0⟩
def stopsM (c:CodeM) (kn:List (Option DepM)) (at_:Nat):Bool:=
 !calmM (insAt c at_) (depAt kn at_) || (decide ((depAt kn at_).stack < (effM (insAt c at_)).pops) || (decide ((insAt c at_).op = 33) && decide ((depAt kn at_).loops < (insAt c at_).a)))
def nextsM (c:CodeM) (kn:List (Option DepM)) (at_:Nat):List (Nat × DepM):=(leadsM c.ins.length at_ (insAt c at_)).map fun p=>(p.1,behindM (insAt c at_) (depAt kn at_) p.2)
def stepD (c:CodeM) (d:DpM) (at_:Nat):Option DpM:=if stopsM c d.kn at_ then none else comesM (nextsM c d.kn at_) d
def runD (c:CodeM):Nat->DpM->Option (List (Option DepM))
 | 0,d=>some d.kn
 | f + 1,d=>match d.open_.getLast? with
  | none=>some d.kn
  | some at_=>match stepD c ⟨d.kn,d.open_.dropLast⟩ at_ with
   | none=>none
   | some d'=>runD c f d'
def initD (c:CodeM):DpM:=⟨List.replicate c.ins.length none,[]⟩
def rootsD (c:CodeM):List (Nat × DepM):=(rootsM c).map fun n=>(n,⟨0,0⟩)
def depthsM (c:CodeM):Option (List (Option DepM)):=match comesM (rootsD c) (initD c) with
 | none=>none
 | some d=>runD c (2 * c.ins.length + 1) d
structure InvD (n:Nat) (d:DpM):Prop where
 len:d.kn.length = n
 low:∀ a s,d.kn.getD a none = some s->Low s
 op:∀ a ∈ d.open_,a < n/\∃ s,d.kn.getD a none = some s
 size:d.open_.length + d.kn.count none <= n
def meaD (d:DpM):Nat:=d.open_.length + 2 * d.kn.count none
theorem count_set {α:Type} [BEq α] [LawfulBEq α] {l:List (Option α)} {k:Nat} {s:α} (hk:k < l.length) (h:l.getD k none = none):(l.set k (some s)).count none + 1 = l.count none:=by
 have h2:l[k] = none:=by rw [List.getD_eq_getElem?_getD,List.getElem?_eq_getElem hk] at h; exact h
 have hs:l = l.take k ++ none :: l.drop (k + 1):=by
  rw [<- h2,<- List.drop_eq_getElem_cons hk,List.take_append_drop]
 rw [List.set_eq_take_append_cons_drop,if_pos hk]
 conv=>rhs; rw [hs]
 simp [List.count_append,List.count_cons];omega
instance:BEq DepM:=instBEqOfDecidableEq
theorem comeInv {n:Nat} {d:DpM} {at_:Nat} {s:DepM} (h:InvD n d) (ha:at_ < n) (hc:(comeM d at_ s).1 = true):InvD n (comeM d at_ s).2/\meaD (comeM d at_ s).2 <= meaD d/\∀ a u,d.kn.getD a none = some u->(comeM d at_ s).2.kn.getD a none = some u:=by
 unfold comeM at hc ⊢;have hl:=h.len
 cases hk:d.kn.getD at_ none with
 | some was=>exact ⟨h,Nat.le_refl _,fun a u hu=>hu⟩
 | none=>
  rw [hk] at hc;simp only [Bool.and_eq_true] at hc;have h1:=inB_iff.1 hc.1;have h2:=inB_iff.1 hc.2;have hcnt:=count_set (s:=s) (by omega:at_ < d.kn.length) hk;have hget:∀ a,(d.kn.set at_ (some s)).getD a none = if a = at_ then some s else d.kn.getD a none:=fun a=>by
   rw [List.getD_eq_getElem?_getD,List.getD_eq_getElem?_getD]
   by_cases e:a = at_
   ·subst e; rw [if_pos rfl,List.getElem?_set_self (by omega)]; rfl
   ·rw [if_neg e,List.getElem?_set_ne (fun x=>e x.symm)]
  refine ⟨⟨by simp [hl],fun a u hu=>?_,fun a hm=>?_,?_⟩,?_,fun a u hu=>?_⟩
  ·simp only [hget] at hu
   by_cases e:a = at_
   ·rw [if_pos e] at hu; cases hu; exact ⟨by omega⟩
   ·rw [if_neg e] at hu; exact h.low a u hu
  ·simp only [hget]
   rcases List.mem_append.1 hm with hm | hm
   ·obtain ⟨h3,u,h4⟩:=h.op a hm
    refine ⟨h3,?_⟩
    by_cases e:a = at_
    ·exact ⟨s,if_pos e⟩
    ·exact ⟨u,by rw [if_neg e]; exact h4⟩
   ·simp only [List.mem_singleton] at hm
    exact ⟨by omega,s,if_pos hm⟩
  ·have:=h.size
   simp only [List.length_append,List.length_singleton];omega
  ·unfold meaD
   simp only [List.length_append,List.length_singleton];omega
  ·simp only [hget]
   rw [if_neg (fun e=>by rw [e,hk] at hu; cases hu)];exact hu
theorem comesInv {n:Nat}:∀ {l:List (Nat × DepM)} {d d':DpM},InvD n d->(∀ p ∈ l,p.1 < n)->comesM l d = some d'->InvD n d'/\meaD d' <= meaD d
 | [],d,d',h,_,hc=>by cases hc; exact ⟨h,Nat.le_refl _⟩
 | p :: l,d,d',h,hl,hc=>by
  unfold comesM at hc
  by_cases e:(comeM d p.1 p.2).1 = true
  ·rw [if_pos e] at hc
   obtain ⟨h1,h2,_⟩:=comeInv h (hl p List.mem_cons_self) e;obtain ⟨h3,h4⟩:=comesInv h1 (fun q hq=>hl q (List.mem_cons_of_mem _ hq)) hc;exact ⟨h3,Nat.le_trans h4 h2⟩
  ·rw [if_neg e] at hc; cases hc
theorem leadsM_lt {n at_:Nat} {i:InsM}:∀ p ∈ leadsM n at_ i,p.1 < n:=by
 intro p hp;unfold leadsM lead1 lead2 at hp
 rcases List.mem_append.1 hp with hp | hp
 ·split at hp
  ·rename_i e; simp only [Bool.and_eq_true,decide_eq_true_eq] at e; simp at hp; subst hp; exact e.2
  ·cases hp
 ·split at hp
  ·rename_i e; simp only [Bool.and_eq_true] at e; have:=inB_iff.1 e.2; simp at hp; subst hp; simp only; omega
  ·cases hp
theorem rootsM_lt {c:CodeM} (h:0 < c.ins.length):∀ a ∈ rootsM c,a < c.ins.length:=by
 intro a ha;unfold rootsM rootsK at ha
 rcases List.mem_cons.1 ha with rfl | ha
 ·exact h
 ·obtain ⟨s,hs,rfl⟩:=List.mem_map.1 ha
  have:=(List.mem_filter.1 hs).2;have:=inB_iff.1 this;omega
theorem initInv {c:CodeM}:InvD c.ins.length (initD c):=by
 have hg:∀ a,(List.replicate c.ins.length (none:Option DepM)).getD a none = none:=fun a=>by
  rw [List.getD_eq_getElem?_getD,List.getElem?_replicate]; split <;> rfl
 refine ⟨by simp [initD],fun a s hs=>?_,fun a ha=>by simp [initD] at ha,by simp [initD]⟩;rw [initD,hg] at hs; cases hs
theorem popInv {n:Nat} {kn:List (Option DepM)} {l:List Nat} {at_:Nat} (h:InvD n ⟨kn,l ++ [at_]⟩):InvD n ⟨kn,l⟩/\meaD ⟨kn,l⟩ + 1 = meaD ⟨kn,l ++ [at_]⟩/\at_ < n/\∃ s,kn.getD at_ none = some s/\Low s:=by
 have hop:=h.op at_ (by simp);obtain ⟨h1,s,h2⟩:=hop;refine ⟨⟨h.len,h.low,fun a ha=>h.op a (by simp [ha]),?_⟩,?_,h1,s,h2,h.low _ _ h2⟩
 ·have:=h.size; simp only [List.length_append,List.length_singleton] at this; simp only; omega
 ·unfold meaD; simp only [List.length_append,List.length_singleton]; omega
theorem tame_of {c:CodeM} {i:InsM} (h:rightM c i = true):Tame i:=⟨fun e=>by
 unfold rightM at h;simp only [Bool.and_eq_true] at h;have hk:(formAt i.op).k0 = 20:=by rw [e]; decide +kernel
 have h2:=h.2.1;rw [hk] at h2;have h3:goodM c 20 i.a = rangedM 20 i.a:=by simp [goodM]
 rw [h3] at h2;have:=ranged_in (k:=20) (lo:=1) (hi:=40) rfl h2;omega⟩
end
section
open Go Q Go.RowKit
def stackV (o:Option DepM):Int:=match o with | some s=>s.stack | none=>-1
def loopsV (o:Option DepM):Int:=match o with | some s=>s.loops | none=>-1
def DepsR (z:Z) (v:Value) (o:Option (List (Option DepM))):Prop:=match o with
 | none=>v = .tuple #[.slice none 0 0,.slice none 0 0,.bool false]
 | some kn=>∃ v1 v2,v = .tuple #[v1,v2,.bool true]/\SlR El.int z v1 (kn.map stackV)/\SlR El.int z v2 (kn.map loopsV)
abbrev resB (b2 b3 b4:Nat):Bl:=[(b4,.cells [.bool false].toArray 4 (0,0)),(b3,.cells [.slice none 0 0].toArray 45 (0,0)),(b2,.cells [.slice none 0 0].toArray 45 (0,0))]
theorem DpR.pop {b5 b6:Nat} {B:Bl} {kn:List (Option DepM)} {l:List Nat} {at_:Nat} (h:DpR b5 b6 B ⟨kn,l ++ [at_]⟩):∃ (bm:Nat) (m:List (Int × Value)) (bo cap:Nat) (C:List Value),B = [(b5,.cells [.map (some bm)].toArray 236 (0,0)),(bm,mK (Value.int .i64) m),(b6,.cells [.slice (some ⟨bo,0,none⟩) (l.length + 1) cap].toArray 45 (0,0)),(bo,.cells C.toArray 3 (0,0))] /\
  l.length + 1 <= cap/\C[l.length]? = some (.int .i64 (at_:Int))/\KnR m kn/\DpR b5 b6 [(b5,.cells [.map (some bm)].toArray 236 (0,0)),(bm,mK (Value.int .i64) m),(b6,.cells [.slice (some ⟨bo,0,none⟩) l.length cap].toArray 45 (0,0)),(bo,.cells C.toArray 3 (0,0))] ⟨kn,l⟩:=by
 obtain ⟨bm,m,v,Bo,rfl,hkn,ho⟩:=h;simp only [List.length_append,List.length_singleton,intsV_append] at ho;obtain ⟨bo,cap,C,rfl,hc,rfl,hC,ho'⟩:=OwnSl.pop (u:=.int .i64 (at_:Int)) ho;exact ⟨bm,m,bo,cap,C.toList,rfl,hc,by simpa using hC,hkn,bm,m,_,_,rfl,hkn,ho'⟩
def ofNats (l:List Nat):List Int:=l.map fun n:Nat=>(n:Int)
theorem intsV_flat (l:List Nat):(ofNats l).flatMap (fun x=>[Value.int .i64 x]) = intsV l:=by
 induction l with
 | nil=>rfl
 | cons a l ih=>simp only [ofNats,List.map_cons,List.flatMap_cons,intsV] at ih ⊢; rw [ih]; rfl
theorem ofNats_len (l:List Nat):(ofNats l).length = l.length:=by simp [ofNats]
theorem freezeInts {w0 w:World} {z0 z:Z} {B0 B L:Bl} {v:Value} {l:List Nat} (hS:Res w0 z0 B0 w z (B ++ L)) (ho:OwnSl 3 1 B v l.length (intsV l)) (hb:l.length <= big):∃ z',Le z z'/\Res w0 z0 B0 w z' L/\SlR El.int z' v (ofNats l):=
 Res.freezeSl (E:=El.int) (e:=3) (f:=fun x=>[Value.int .i64 x]) hS (by rw [ofNats_len,intsV_flat]; exact ho) (by rw [ofNats_len]; exact hb) (fun _=>rfl) (fun z x _=>rfl)
theorem comesM_cons {p:Nat × DepM} {l:List (Nat × DepM)} {d:DpM}:comesM (p :: l) d = if (comeM d p.1 p.2).1 then comesM l (comeM d p.1 p.2).2 else none:=rfl
theorem knR_init {n:Nat}:KnR [] (List.replicate n none):=fun m=>by
 rw [getK_nil]
 split
 ·rw [List.getD_eq_getElem?_getD,List.getElem?_replicate]; split <;> rfl
 ·rfl
def arrV (f:Option DepM->Int) (kn:List (Option DepM)) (k:Nat):List Value:=(kn.take k).map (fun o=>Value.int .i64 (f o)) ++ List.replicate (kn.length - k) (.int .i64 0)
theorem arrV_len {f:Option DepM->Int} {kn:List (Option DepM)} {k:Nat} (h:k <= kn.length):(arrV f kn k).length = kn.length:=by simp [arrV]; omega
theorem arrV_zero {f:Option DepM->Int} {kn:List (Option DepM)}:arrV f kn 0 = List.replicate kn.length (.int .i64 0):=by simp [arrV]
theorem arrV_end {f:Option DepM->Int} {kn:List (Option DepM)}:arrV f kn kn.length = (kn.map f).flatMap fun x=>[Value.int .i64 x]:=by
 simp only [arrV,List.take_length,Nat.sub_self,List.replicate_zero,List.append_nil]
 induction kn with
 | nil=>rfl
 | cons a l ih=>simp only [List.map_cons,List.flatMap_cons,ih]; rfl
theorem arrV_set {f:Option DepM->Int} {kn:List (Option DepM)} {k:Nat} (h:k < kn.length):(arrV f kn k).set k (.int .i64 (f (kn.getD k none))) = arrV f kn (k + 1):=by
 unfold arrV;have hl:((kn.take k).map (fun o=>Value.int .i64 (f o))).length = k:=by simp; omega
 rw [List.set_append_right _ _ (by omega),hl,Nat.sub_self,show kn.length - k = (kn.length - (k + 1)) + 1 by omega,List.replicate_succ,List.set_cons_zero,<- List.take_append_getElem h,List.map_append,List.getD_eq_getElem?_getD,List.getElem?_eq_getElem h,List.append_assoc]
 rfl
theorem zeros_eq {n:Nat}:((List.range (n * 1)).map fun i=>([Value.int .i64 0]:List Value)[i % ([Value.int .i64 0]:List Value).length]!) = List.replicate n (.int .i64 0):=by
 rw [Nat.mul_one];refine List.ext_getElem? fun j=>?_
 simp only [List.getElem?_map,List.getElem?_range,List.getElem?_replicate,List.length_singleton,Nat.mod_one]
 by_cases h:j < n
 ·simp [h]
 ·simp [h]
theorem depths_of {z:Z} {w:World} {v:Value} {c:CodeM} (hc:CodeR z v c) (hl:c.labels.length <= 3000) (hi0:0 < c.ins.length) (hi:c.ins.length <= 12000) (hr:∀ i ∈ c.ins,rightM c i = true) :
  Fn1 50 #[v] z w fun z' r=>DepsR z' r (depthsM c):=Fn1.intro fun hS=>en50 (by
 unfold vc50;obtain ⟨a1,a2,a3,a4,a5,a6,k1,k2,k3,k4,k5,k6,rfl,h1,h2,h3,h4,h5,h6⟩:=hc.form;have hR:∀ z' w' L' r,Res w z [] w' z' L'->DepsR z' r (depthsM c)->∃ z'' L'',Res w z [] w' z'' L''/\DepsR z'' r (depthsM c):=fun z' w' L' r h1 h2=>⟨z',L',h1,h2⟩
 generalize hRR:(fun (v:Value) (w':World)=>∃ z' L',Res w z [] w' z' L'/\DepsR z' v (depthsM c)) = RR;have hR:∀ z' w' L' r,Res w z [] w' z' L'->DepsR z' r (depthsM c)->RR r w':=fun z' w' L' r h1 h2=>by rw [<- hRR]; exact ⟨z',L',h1,h2⟩
 clear hRR;refine iV_bx ?_;intro bc w1 hbc hS1;refine iV_al ?_;intro b2 w2 hb2 hS2;refine iV_al ?_;intro b3 w3 hb3 hS3;refine iV_al ?_;intro b4 w4 hb4 hS4;refine kV_mm (mk:=Value.int .i64) ?_;intro bm w5 hbm hS5;refine iV_al ?_;intro b5 w6 hb5 hS6;refine iU_st ?_;intro w7 hS7;refine iV_al ?_;intro b6 w8 hb6 hS8;refine iV_al ?_;intro b7 w9 hb7 hS9;refine iU_st ?_;intro w10 hS10;clear hS1 hS2 hS3 hS4 hS5 hS6 hS7 hS8 hS9;obtain ⟨z11,hz11,hS11,hat7⟩:=hS10.frz b7;obtain ⟨z12,hz12,hS12,hatc⟩:=hS11.frz bc;have hat7:=hat7.mono hz12;have hz:=hz11.trans hz12;clear hS10 hS11 hz11 hz12 hS;have hS13:=hS12.keep [.at b5,.at bm,.at b6,.at b4,.at b3,.at b2];clear hS12;obtain ⟨hS14,_⟩:=hS13.rebase (v:=undef) (R:=fun _ _=>True) (fun _ _ _ _=>trivial);have hR2:∀ z' w' L' r,Res w10 z12 [(b5,.cells [.map (some bm)].toArray 236 (0,0)),(bm,mK (Value.int .i64) []),(b6,.cells [.slice none 0 0].toArray 45 (0,0)),(b4,.cells [.bool false].toArray 4 (0,0)),(b3,.cells [.slice none 0 0].toArray 45 (0,0)),(b2,.cells [.slice none 0 0].toArray 45 (0,0))] w' z' L'->DepsR z' r (depthsM c)->RR r w':=fun z' w' L' r k hd=>by
  have hS':Res w z [] w10 z12 ([(b5,.cells [.map (some bm)].toArray 236 (0,0)),(bm,mK (Value.int .i64) []),(b6,.cells [.slice none 0 0].toArray 45 (0,0)),(b4,.cells [.bool false].toArray 4 (0,0)),(b3,.cells [.slice none 0 0].toArray 45 (0,0)),(b2,.cells [.slice none 0 0].toArray 45 (0,0))] ++ []):=hS13;exact hR _ _ _ _ (hS'.step k) hd
 clear hS13 hR;generalize hB00:[(b5,Obj.cells [Value.map (some bm)].toArray 236 (0,0)),(bm,mK (Value.int .i64) []),(b6,.cells [.slice none 0 0].toArray 45 (0,0)),(b4,.cells [.bool false].toArray 4 (0,0)),(b3,.cells [.slice none 0 0].toArray 45 (0,0)),(b2,.cells [.slice none 0 0].toArray 45 (0,0))] = B00 at *;have hS15:Res w10 z12 B00 w10 z12 ([(b5,Obj.cells [Value.map (some bm)].toArray 236 (0,0)),(bm,mK (Value.int .i64) []),(b6,.cells [.slice none 0 0].toArray 45 (0,0))] ++ resB b2 b3 b4):=by rw [<- hB00] at hS14 ⊢; exact hS14
 clear hS14 hB00;haveI:Fz z12 bc 0 (codeVs a1 a2 a3 a4 a5 a6 k1 k2 k3 k4 k5 k6 c):=⟨hatc⟩
 haveI:Fz z12 bc 5 [.slice a6 c.ins.length k6]:=⟨hatc.fld (i:=5) rfl rfl⟩
 haveI:Fz z12 b7 0 [.func (.func 160) #[] #[.pointer (some ⟨b5,0,none⟩),.pointer (some ⟨b6,0,none⟩)]]:=⟨hat7⟩
 refine fV_ldN ?_;refine CV_fn0 (fun hle=>roots_of ((hc.mono hz).mono hle) hl) ?_;rintro z16 B16 w16 v16 hz16 hS16 ho16
 have hrl:(rootsM c).length <= 3001:=Nat.le_trans rootsK_le (by omega);obtain ⟨z17,hz17,hS17,hv17⟩:=freezeInts hS16 ho16 (by simp only [big]; omega);clear hS16 ho16 hS15;have hz17:=hz16.trans hz17;obtain ⟨_,ar,kr,rfl,_,hel⟩:=hv17.form;rw [ofNats_len];(repeat (refine V_run ?_));have hdl:(rootsD c).length = (rootsM c).length:=by simp [rootsD]
 refine LoopG1 (fun (p:Nat × DpM) x w'=>x = .int .i64 p.1/\p.1 <= (rootsM c).length/\comesM (rootsD c) (initD c) = comesM ((rootsD c).drop p.1) p.2/\InvD c.ins.length p.2/\∃ B' z',Le z17 z'/\DpR b5 b6 B' p.2/\Res w10 z12 B00 w' z' (B' ++ resB b2 b3 b4)) (fun p=>(rootsM c).length - p.1) (0,initD c)
  ⟨rfl,by omega,rfl,initInv,_,_,Le.refl _,⟨bm,[],_,[],rfl,knR_init,OwnSl.nil⟩,hS17⟩ ?_
 rintro I M ⟨k,d⟩ x w18 m ⟨rfl,hk,hcm,hinv,B18,z18,hz18,hD,hS18⟩ back
 simp only at hk hcm hinv hD;clear hS17;(repeat (refine V_run ?_));refine Cond_d (fun h=>?_) (fun h=>?_)
 ·have hlt:k < (rootsM c).length:=by omega
  have hlt2:k < (rootsD c).length:=by omega
  haveI:InR (k:Int) ((rootsM c).length:Nat):=⟨by omega,by omega⟩
  haveI:InI ((k:Int) + 1):=⟨by omega⟩
  obtain ⟨b,off,cs,rfl,rfl,hat⟩:=hel k (((rootsM c)[k]:Nat):Int) (by simp [ofNats,List.getElem?_eq_getElem hlt]);(repeat (refine V_run ?_));refine zV_ld1 (hat.mono hz18) ?_;(repeat (first | refine V_run ?_ | refine fV_ld1 ?_));have hroot:=rootsM_lt hi0 _ (List.getElem_mem hlt);have hsz:=hinv.size;refine CV_va (B:=B18) (F:=resB b2 b3 b4) hS18 (come_of (s:=⟨0,0⟩) hD (by rw [hinv.len]; exact hroot) (by omega)) ?_;rintro z19 B19 w19 v19 hz19 hS19 ⟨rfl,hD19⟩
  rw [List.drop_eq_getElem_cons hlt2,show (rootsD c)[k] = ((rootsM c)[k],⟨0,0⟩) by simp [rootsD]] at hcm;rw [comesM_cons] at hcm;simp only at hcm;clear hS18;(repeat (refine V_run ?_));refine Cond_n (fun e=>?_) (fun e=>?_)
  ·(repeat (first | (refine iU_st ?_; intro _ _) | refine iHV_1 ?_))
   rename_i hS20;refine hR2 _ _ _ _ hS20 ?_;rw [depthsM,hcm,e]; rfl
  ·(repeat (refine V_run ?_))
   obtain ⟨h20,_,_⟩:=comeInv hinv hroot e;refine back (k + 1,_) _ _ ⟨by simp,by simp only; omega,by rw [hcm,if_pos e],h20,B19,z19,hz18.trans hz19,hD19,hS19⟩ (by simp only; omega)
 ·have hk2:k = (rootsM c).length:=by omega
  rw [List.drop_of_length_le (by omega)] at hcm;have hcm2:comesM (rootsD c) (initD c) = some d:=hcm;obtain ⟨hid,hmd⟩:=comesInv initInv (fun p hp=>by
   obtain ⟨a,ha,rfl⟩:=List.mem_map.1 hp;exact rootsM_lt hi0 _ ha) hcm2
  have hm0:meaD (initD c) = 2 * c.ins.length:=by simp [meaD,initD]
  clear hcm back hv17 hel;refine LoopG1 (fun (p:Nat × DpM × List Nat) x w'=>marks x = p.2.2/\depthsM c = runD c p.1 p.2.1/\meaD p.2.1 < p.1/\InvD c.ins.length p.2.1/\∃ B' z',Le z17 z'/\DpR b5 b6 B' p.2.1/\Res w10 z12 B00 w' z' (B' ++ (markB p.2.2 ++ resB b2 b3 b4))) (fun p=>p.1) (2 * c.ins.length + 1,d,[])
   ⟨rfl,by rw [depthsM,hcm2],by simp only; omega,hid,B18,z18,hz18,hD,hS18⟩ ?_
  clear hS18 hcm2 hid hmd hD hinv h hz18;rintro I1 M1 ⟨f,d1,rs⟩ x w20 m1 ⟨hmx,hrun,hmea,hinv,B20,z20,hz20,hD,hS20⟩ back
  simp only at hmx hrun hmea hinv hD hS20;obtain ⟨kn,op⟩:=d1;have hf:f = (f - 1) + 1:=by omega
  rcases List.eq_nil_or_concat op with rfl | ⟨l,at_,rfl⟩
  ·obtain ⟨bm,mm_,v,Bo,rfl,hkn,ho⟩:=hD
   obtain ⟨av,cv,rfl,_⟩:=ho.form;simp only [List.cons_append,List.nil_append] at hS20;simp only at hkn hinv;have hlen:kn.length = c.ins.length:=hinv.len;(repeat (first | refine V_run ?_ | refine iV_ld1 ?_ | refine Cond_f ?_));intro Ka hKa;have main:∀ b18 b19 w22 z22,Le z20 z22->Res w10 z12 B00 w22 z22 ((b18,.cells (arrV stackV kn 0).toArray 3 (0,0)) :: (b19,.cells (arrV loopsV kn 0).toArray 3 (0,0)) :: (b5,.cells [.map (some bm)].toArray 236 (0,0)) :: (bm,mK (Value.int .i64) mm_) :: (b6,.cells [.slice av 0 cv].toArray 45 (0,0)) :: (Bo ++ (markB rs ++ resB b2 b3 b4)))->Ka [.slice (some ⟨b18,0,none⟩) c.ins.length c.ins.length,.slice (some ⟨b19,0,none⟩) c.ins.length c.ins.length] w22:=by
    intro b18 b19 w22 z22 hz22 hS22;refine hKa _ _ _ fun _=>?_
    clear hKa hS20;(repeat (first | refine V_run ?_ | refine fV_ld1 ?_));refine LoopG1 (fun (k:Nat) y w'=>y = .int .i64 k/\k <= c.ins.length/\∃ z',Le z20 z'/\Res w10 z12 B00 w' z' ((b18,.cells (arrV stackV kn k).toArray 3 (0,0)) :: (b19,.cells (arrV loopsV kn k).toArray 3 (0,0)) :: (b5,.cells [.map (some bm)].toArray 236 (0,0)) :: (bm,mK (Value.int .i64) mm_) :: (b6,.cells [.slice av 0 cv].toArray 45 (0,0)) :: (Bo ++ (markB rs ++ resB b2 b3 b4)))) (fun k=>c.ins.length - k) 0 ⟨rfl,by omega,z22,hz22,hS22⟩ ?_;rintro I2 M2 k y w23 m2 ⟨rfl,hk,z23,hz23,hS23⟩ back2
    clear hS22;(repeat (refine V_run ?_));refine Cond_d (fun h=>?_) (fun h=>?_)
    ·have hlt:k < c.ins.length:=by omega
     haveI:InR (k:Int) (c.ins.length:Nat):=⟨by omega,by omega⟩
     haveI:InI ((k:Int) + 1):=⟨by omega⟩
     have e1:(k:Int).toNat * 1 = k:=by omega
     have hs1:=fun f u=>SetN.at_ (l:=arrV f kn k) (k:=k) (u:=u) (by rw [arrV_len (by omega)]; omega)
     haveI:SetN (arrV stackV kn k) ((k:Int).toNat * 1) [.int .i64 (-1)] ((arrV stackV kn k).set k (.int .i64 (-1))):=by rw [e1]; exact hs1 _ _
     haveI:SetN (arrV loopsV kn k) ((k:Int).toNat * 1) [.int .i64 (-1)] ((arrV loopsV kn k).set k (.int .i64 (-1))):=by rw [e1]; exact hs1 _ _
     (repeat (first | refine V_run ?_ | refine iV_ld1 ?_ | (refine iU_st ?_; intro _ _) | (refine J0 ?_; intro _ _)));refine kV_lk (mk:=Value.int .i64) (zv:=.agg [.int .i64 0,.int .i64 0].toArray) ?_;rw [if_pos rfl,hkn (k:Int),if_pos (by omega),Int.toNat_natCast];have hst:=arrV_set (f:=stackV) (kn:=kn) (k:=k) (by omega);have hlt':=arrV_set (f:=loopsV) (kn:=kn) (k:=k) (by omega)
     cases hg:kn.getD k none with
     | none=>
      rw [hg] at hst hlt';simp only [stackV,loopsV] at hst hlt';dsimp only [Option.map,Option.getD,Option.isSome];(repeat (first | refine V_run ?_ | (refine iV_bx ?_; intro _ _ _ _) | (refine iU_st ?_; intro _ _) | refine Cond_f ?_ | refine K0 ?_));rename_i hSe;rw [hst,hlt'] at hSe;refine back2 (k + 1) _ _ ⟨by simp,by omega,_,hz23,hSe.sublist (List.sublist_cons_self _ _)⟩ (by omega)
     | some s=>
      rw [hg] at hst hlt';simp only [stackV,loopsV] at hst hlt';dsimp only [Option.map,Option.getD,Option.isSome];have hs2:=fun f (u u':Value)=>SetN.at_ (l:=(arrV f kn k).set k u) (k:=k) (u:=u') (by rw [List.length_set,arrV_len (by omega)]; omega)
      haveI:SetN ((arrV stackV kn k).set k (.int .i64 (-1))) ((k:Int).toNat * 1) [.int .i64 s.stack] (arrV stackV kn (k + 1)):=by have h9:=hs2 stackV (.int .i64 (-1)) (.int .i64 s.stack); rw [List.set_set,hst] at h9; rw [e1]; exact h9
      haveI:SetN ((arrV loopsV kn k).set k (.int .i64 (-1))) ((k:Int).toNat * 1) [.int .i64 s.loops] (arrV loopsV kn (k + 1)):=by have h9:=hs2 loopsV (.int .i64 (-1)) (.int .i64 s.loops); rw [List.set_set,hlt'] at h9; rw [e1]; exact h9
      (repeat (first | (refine iDr ?_; intro _ _) | refine V_run ?_ | refine PV_run ?_ | (refine iV_bx ?_; intro _ _ _ _) | (refine iU_st ?_; intro _ _) | refine iHV_1 ?_ | refine iRI_1 ?_ | refine Cond_t ?_ | refine K0 ?_));rename_i hSe;refine back2 (k + 1) _ _ ⟨by simp,by omega,_,hz23,hSe.sublist (List.sublist_cons_self _ _)⟩ (by omega)
    ·have hkn2:k = kn.length:=by omega
     subst hkn2;rw [arrV_end,arrV_end] at hS23;(repeat (refine iU_st ?_; intro _ _));rename_i w24 hS24;rw [hmx];refine iTakes rs (hS24.bring (markB rs)) ?_;intro w25 hS25;(repeat (refine iHV_1 ?_));have hS26:=hS25.bringB b18;obtain ⟨z27,hz27,hS27,hv1⟩:=Res.freezeSl (E:=El.int) (e:=3) (B:=[(b18,_)]) (v:=.slice (some ⟨b18,0,none⟩) (kn.map stackV).length kn.length) (xs:=kn.map stackV) (f:=fun x=>[Value.int .i64 x]) hS26 ⟨by rw [<- arrV_end,arrV_len (Nat.le_refl _),List.length_map]; exact (Nat.mul_one _).symm,.inr ⟨b18,kn.length,[],by rw [List.append_nil],rfl,by simp,by simp only [maxLen]; omega,by rw [List.append_nil,<- arrV_end,arrV_len (Nat.le_refl _)]; exact (Nat.mul_one _).symm⟩⟩ (by simp only [List.length_map,big]; omega) (fun _=>rfl) (fun z x _=>rfl);have hS28:=hS27.bringB b19;obtain ⟨z29,hz29,hS29,hv2⟩:=Res.freezeSl (E:=El.int) (e:=3) (B:=[(b19,_)]) (v:=.slice (some ⟨b19,0,none⟩) (kn.map loopsV).length kn.length) (xs:=kn.map loopsV) (f:=fun x=>[Value.int .i64 x]) hS28 ⟨by rw [<- arrV_end,arrV_len (Nat.le_refl _),List.length_map]; exact (Nat.mul_one _).symm,.inr ⟨b19,kn.length,[],by rw [List.append_nil],rfl,by simp,by simp only [maxLen]; omega,by rw [List.append_nil,<- arrV_end,arrV_len (Nat.le_refl _)]; exact (Nat.mul_one _).symm⟩⟩ (by simp only [List.length_map,big]; omega) (fun _=>rfl) (fun z x _=>rfl);rw [List.length_map,hlen] at hv1 hv2;refine hR2 _ _ _ _ hS29 ?_;rw [hrun,hf];exact ⟨_,_,rfl,hv1.mono hz29,hv2⟩
   clear hKa;have hms:∀ (w':World) (L':Bl) (K:Value->World->Prop),Res w10 z12 B00 w' z20 L'->(∀ b w'',Res w10 z12 B00 w'' z20 ((b,.cells (List.replicate kn.length (.int .i64 0)).toArray 3 (0,0)) :: L')->K (.slice (some ⟨b,0,none⟩) c.ins.length c.ins.length) w'')->V (ms 45 (.int .i64 (c.ins.length:Int)) (.int .i64 (c.ins.length:Int))) w' K:=by
    intro w' L' K hSx hk;refine iV_ms (by omega) (by omega) ?_;intro b w'' _ hSy;rw [zeros_eq,<- hlen] at hSy;exact hk b w'' hSy
   (repeat (first | (refine iDr ?_; intro _ _) | refine PV_run ?_ | refine fHV_ld1 ?_));refine ⟨?_,?_⟩
   ·refine hms _ _ _ ‹_› ?_
    intro b18 w23 hS23;(repeat (refine fRI_1 ?_));refine hms _ _ _ hS23 ?_;intro b19 w24 hS24;(repeat (refine fRI_1 ?_));exact main b18 b19 _ _ (Le.refl _) (by rw [arrV_zero,arrV_zero]; exact hS24.perm (.swap _ _ _))
   ·refine hms _ _ _ ‹_› ?_
    intro b19 w23 hS23;(repeat (refine fRI_1 ?_));refine hms _ _ _ hS23 ?_;intro b18 w24 hS24;(repeat (refine fRI_1 ?_));exact main b18 b19 _ _ (Le.refl _) (by rw [arrV_zero,arrV_zero]; exact hS24)
  ·rw [List.concat_eq_append] at *
   obtain ⟨bm,mm_,bo,cap,C,rfl,hcap,hC,hkn,hD2⟩:=hD.pop;obtain ⟨hip,hmp,hlt,s,hks,hlow⟩:=popInv hinv;simp only [List.cons_append,List.nil_append] at hS20;have e0:((l.length + 1:Nat):Int) - 1 = (l.length:Int):=by omega
   have hsz:=hinv.size;simp only [List.length_append,List.length_singleton] at hsz;haveI:InI (((l.length + 1:Nat):Int) - 1):=⟨by omega⟩
   haveI:InR (l.length:Int) ((l.length + 1:Nat):Int):=⟨by omega,by omega⟩
   haveI:InR (l.length:Int) ((cap:Int) + 1):=⟨by omega,by omega⟩
   haveI:Get C ((l.length:Int).toNat * 1) (.int .i64 (at_:Int)):=⟨by simpa using hC⟩
   (repeat (first | refine V_run ?_ | refine iV_ld1 ?_));refine Cond_d (fun _=>?_) (fun hn=>absurd hn (by omega));(repeat (first | refine V_run ?_ | refine iV_ld1 ?_));simp only [e0];(repeat (first | refine V_run ?_ | refine iV_ld1 ?_));simp only [e0];(repeat (first | refine V_run ?_ | (refine iU_st ?_; intro _ _)));rename_i w21 hS21;simp only [Int.toNat_natCast] at hS21;clear hS20;intro Ka hKa;have hi2:c.ins[at_]? = some (insAt c at_):=by rw [insAt,List.getD_eq_getElem?_getD,List.getElem?_eq_getElem hlt]; rfl
   have hs2:depAt kn at_ = s:=by unfold depAt; rw [hks]; rfl
   obtain ⟨_,ai,ki,he,_,heli⟩:=h6.form
   cases he
   obtain ⟨be,offe,cse,rfl,rfl,hate⟩:=heli _ _ hi2;have hgk:GetKV mm_ (at_:Int) (.agg [.int .i64 0,.int .i64 0].toArray) s.v:=⟨by rw [hkn (at_:Int),if_pos (by omega),Int.toNat_natCast,hks]; rfl⟩
   generalize hii:insAt c at_ = i at *;have main:∀ b11 b12 w22 z22,Le z20 z22->Res w10 z12 B00 w22 z22 ((b11,.cells i.cells.toArray 38 (0,0)) :: (b12,.cells s.cells.toArray 238 (0,0)) :: (b5,.cells [.map (some bm)].toArray 236 (0,0)) :: (bm,mK (Value.int .i64) mm_) :: (b6,.cells [.slice (some ⟨bo,0,none⟩) l.length cap].toArray 45 (0,0)) :: (bo,.cells C.toArray 3 (0,0)) :: (markB rs ++ resB b2 b3 b4))->Ka [.pointer (some ⟨b11,0,none⟩),.pointer (some ⟨b12,0,none⟩)] w22:=by
    intro b11 b12 w22 z22 hz22 hS22;refine hKa _ _ _ fun _=>?_
    clear hKa hS21;(repeat (first | refine V_run ?_ | refine iV_ldN ?_ | (refine JC ?_; intro _ _ _ _) | (refine CV_pu ?_; intro _ _ _ _)));rename_i z23 w23 hz23 hS23;have hz23':Le z20 z23:=by (repeat (first | assumption | refine Le.trans ?_ (by assumption:Le _ _)))
    clear hS22 hz22 hz23;have hst:(bif bif !calmM i s then true else decide (s.stack < (effM i).pops) then true else bif decide (i.op = 33) then decide (s.loops < i.a) else false) = stopsM c kn at_:=by
     rw [stopsM,hii,hs2]; cases calmM i s <;> cases decide (s.stack < (effM i).pops) <;> cases decide (i.op = 33) <;> rfl
    have hrun2:runD c f ⟨kn,l ++ [at_]⟩ = match stepD c ⟨kn,l⟩ at_ with | none=>none | some d'=>runD c (f - 1) d':=by
     rw [hf];simp only [runD,List.getLast?_concat,List.dropLast_concat]
     rfl
    rw [hst];refine Cond_b (fun e=>?_) (fun e=>?_)
    ·have hnone:depthsM c = none:=by rw [hrun,hrun2,stepD,if_pos e]
     (repeat (refine iU_st ?_; intro _ _));rename_i w24 hS24;rw [hmx];refine iTakes rs (hS24.bring (markB rs)) ?_;intro w25 hS25;(repeat (refine iHV_1 ?_));exact hR2 _ _ _ _ hS25 (by rw [hnone]; rfl)
    ·have hstep:stepD c ⟨kn,l⟩ at_ = comesM (nextsM c kn at_) ⟨kn,l⟩:=by rw [stepD,if_neg (by rw [e]; simp)]
     (repeat (refine fV_ldN ?_));refine CV_1 leads_of ?_;rintro z24 w24 v24 hz24 hS24 ⟨bl1,bl2,rfl,hbl1,hbl2⟩
     clear hS23;intro lp r0 l0 w26 hnew hyp;have hS26:=hS24.rf hnew;clear hS24 hnew;have hO:=hS26.self;have hzz:=hz.trans (hz17.trans (hz20.trans (hz23'.trans hz24)));have hz12':Le z12 z24:=hz17.trans (hz20.trans (hz23'.trans hz24));haveI:Fz z24 b7 0 [.func (.func 160) #[] #[.pointer (some ⟨b5,0,none⟩),.pointer (some ⟨b6,0,none⟩)]]:=⟨hat7.mono hz12'⟩
     refine leads_gen (i:=i) hO (h6.mono hzz) hbl1 hbl2 hi2
      (fun k z' L'=>∃ d' B',comesM (nextsM c kn at_) ⟨kn,l⟩ = comesM ((nextsM c kn at_).drop k) d'/\InvD c.ins.length d'/\meaD d' <= meaD ⟨kn,l⟩/\DpR b5 b6 B' d'/\L' = (l0,lobj lp .ready none) :: (r0,.deferred (some [])) :: (b11,.cells i.cells.toArray 38 (0,0)) :: (b12,.cells s.cells.toArray 238 (0,0)) :: (B' ++ (markB rs ++ resB b2 b3 b4)))
      (fun z' L'=>comesM (nextsM c kn at_) ⟨kn,l⟩ = none/\∃ B',L' = (l0,lobj lp .done (some .ret)) :: (r0,.deferred (some [])) :: (b11,.cells i.cells.toArray 38 (0,0)) :: (b12,.cells s.cells.toArray 238 (0,0)) :: (B' ++ (markB rs ++ resB b2 b3 b4)))
      (fun _ _ _ _ _ h=>h) ⟨⟨kn,l⟩,_,rfl,hip,Nat.le_refl _,hD2,rfl⟩ ?_ ?_ ?_
     ·rintro k x b hk z27 w27 G _ K' hz27 hS27 ⟨d',B',hcm,hinv',hmea',hD',rfl⟩ back' fail'
      have hk2:(nextsM c kn at_)[k]? = some (x,behindM i s b):=by rw [nextsM,hii,hs2,List.getElem?_map,hk]; rfl
      have hkl:=(List.getElem?_eq_some_iff.1 hk2).1;have hxlt:x < c.ins.length:=leadsM_lt (x,b) (List.mem_of_getElem? hk);rw [List.drop_eq_getElem_cons hkl,(List.getElem?_eq_some_iff.1 hk2).2,comesM_cons] at hcm;refine hyp _ _ _ _ ?_ (Res.at_ (b:=l0) hS27);refine iBegin ?_;intro w28 hS28;clear hS27;(repeat (first | (refine iDr ?_; intro _ _) | refine iHV_N ?_ | refine fHV_ld1 ?_));refine CV_1 (behind_of (tame_of (hr i (List.mem_of_getElem? hi2))) hlow) ?_;rintro z29 w29 v29 hz29 hS29 rfl
      (repeat (refine fRI_1 ?_));have hsz':=hinv'.size;refine CV_va (B:=B') (hS29.bring B') (come_of (s:=behindM i s b) hD' (by rw [hinv'.len]; exact hxlt) (by omega)) ?_;rintro z30 B30 w30 v30 hz30 hS30 ⟨rfl,hD30⟩
      clear hS29 hS28;(repeat (refine PV_run ?_));refine Cond_n (fun e2=>?_) (fun e2=>?_)
      ·(repeat (refine iU_st ?_; intro _ _))
       refine iEnd (st:=.busy) (pend:=none) ?_;intro w31 hS31;refine fail' _ _ _ ?_ (hS31.perm (perm_mid _ _ [_,_,_,_] _)) ⟨?_,B30,rfl⟩
       ·(repeat (first | assumption | refine Le.trans ?_ (by assumption:Le _ _)))
       ·rw [hcm,e2]; rfl
      ·refine iEnd (st:=.busy) (pend:=none) ?_
       intro w31 hS31;have hci:=comeInv hinv' hxlt e2;refine back' _ _ _ ?_ (hS31.perm (perm_mid _ _ [_,_,_,_] _)) ⟨_,B30,?_,hci.1,Nat.le_trans hci.2.1 hmea',hD30,rfl⟩
       ·(repeat (first | assumption | refine Le.trans ?_ (by assumption:Le _ _)))
       ·rw [hcm,if_pos e2]
     ·rintro z27 w27 _ hz27 hS27 ⟨d',B',hcm,hinv',hmea',hD',rfl⟩
      refine iRfEnd (st:=.ready) (by intro h; cases h) ?_;intro w28 hS28;rw [List.drop_of_length_le (by simp [nextsM,hii])] at hcm;have hcm2:comesM (nextsM c kn at_) ⟨kn,l⟩ = some d':=hcm;refine back (f - 1,d',r0 :: rs) _ _ ⟨by rw [marks_iface,hmx],?_,by simp only; omega,hinv',B',z27,?_,hD',?_⟩ (by simp only; omega)
      ·rw [hrun,hrun2,hstep,hcm2]
      ·exact hz20.trans (hz23'.trans (hz24.trans hz27))
      ·exact (hS26.comp hS28).keep [.bl B',.at r0,.bl (markB rs),.bl (resB b2 b3 b4)]
     ·rintro z27 w27 _ hz27 hS27 ⟨hcm,B',rfl⟩
      refine iRfEnd (st:=.done) (pend:=some .ret) (by intro h; cases h) ?_;intro w28 hS28;dsimp only [jumpK];rw [marks_iface,hmx];refine iTakes (r0 :: rs) (L:=resB b2 b3 b4) (hS28.keep [.at r0,.bl (markB rs),.bl (resB b2 b3 b4)]) ?_;intro w29 hS29;(repeat (refine iHV_1 ?_));exact hR2 _ _ _ _ (hS26.comp hS29) (by rw [hrun,hrun2,hstep,hcm]; rfl)
   haveI:Fz z12 be (offe + (at_:Int).toNat * 4) i.cells:=⟨hate.mono hz⟩
   haveI:InR (at_:Int) (c.ins.length:Nat):=⟨by omega,by omega⟩
   clear hKa;(repeat (first | (refine iDr ?_; intro _ _) | refine PV_run ?_ | refine iHV_1 ?_ | refine gHV_lkI ?_ | refine fHV_ldN ?_ | refine fHV_ld1 ?_));refine ⟨?_,?_⟩
   ·(repeat (first | (refine iV_bx ?_; intro _ _ _ _) | (refine iU_st ?_; intro _ _) | refine iRI_1 ?_ | refine fRI_1 ?_ | refine fRI_N ?_ | refine gRI_lkI ?_))
    rename_i hSe;exact main _ _ _ _ (Le.refl _) (hSe.perm (.swap _ _ _))
   ·(repeat (first | (refine iV_bx ?_; intro _ _ _ _) | (refine iU_st ?_; intro _ _) | refine iRI_1 ?_ | refine fRI_1 ?_ | refine fRI_N ?_ | refine gRI_lkI ?_))
    rename_i hSe;exact main _ _ _ _ (Le.refl _) hSe)
end
section
open Go Q Go.RowKit
instance {z:Z} {v:Value} {c:CodeM} [hc:CodeZ z v c]:PuZ z 46 #[v] (.bool (limitsM c)):=⟨fun z' w hz=>limits_of (hc.h.mono hz)⟩
instance {z:Z} {v:Value} {c:CodeM} [hc:CodeZ z v c]:PuZ z 47 #[v] (.bool (partsM c)):=⟨fun z' w hz=>parts_of (hc.h.mono hz)⟩
def badIdx (c:CodeM):Int:=fidx (fun i=>!rightM c i) c.ins
def lastI (c:CodeM):InsM:=insAt c (c.ins.length - 1)
def checkM (c:CodeM):Int × Int:=
 if limitsM c = false then (3,0) else if partsM c = false then (1,0) else if 0 <= badIdx c then (1,badIdx c) else if (formAt (lastI c).op).final = false then (2,(c.ins.length:Int) - 1)
 else match depthsM c with | none=>(12,0) | some _=>(0,0)
abbrev ckV (p:Int × Int):Value:=.tuple #[.int .i64 p.1,.int .i64 p.2]
theorem limits_bd {c:CodeM} (h:limitsM c = true):c.consts.length <= 3000/\c.tmpls.length <= 3000/\c.lists.length <= 3000/\c.labels.length <= 3000/\c.slots.length <= 100/\c.ins.length <= 12000:=by
 unfold limitsM at h;simp only [Bool.and_eq_true] at h;have h1:=h.1;simp only [sizesL,List.all_cons,List.all_nil,Bool.and_eq_true,decide_eq_true_eq] at h1;omega
theorem parts_pos {c:CodeM} (h:partsM c = true):0 < c.ins.length:=by
 unfold partsM at h;simp only [Bool.and_eq_true,Bool.not_eq_true',decide_eq_false_iff_not] at h;omega
theorem check_of {z:Z} {w:World} {v:Value} {c:CodeM} (hc:CodeR z v c):Fn1 15 #[v] z w fun _ r=>r = ckV (checkM c):=fnA en15 (by
 intro hS R hR;unfold vc15;obtain ⟨a1,a2,a3,a4,a5,a6,k1,k2,k3,k4,k5,k6,rfl,h1,h2,h3,h4,h5,h6⟩:=hc.form;haveI:CodeZ z _ c:=⟨hc⟩
 have hbig:=h6.big;refine iV_bx ?_;intro bc w1 hbc hS1;clear hS;(repeat (first | refine V_run ?_ | refine iV_ldN ?_ | (refine CV_puz ?_; intro _ _ _ _)));refine Cond_n (fun e1=>?_) (fun e1=>?_)
 ·exact finW hR (by rw [checkM,if_pos e1])
 have n1:¬ limitsM c = false:=by rw [e1]; simp
 (repeat (first | refine V_run ?_ | refine iV_ldN ?_ | (refine CV_puz ?_; intro _ _ _ _)));refine Cond_n (fun e2=>?_) (fun e2=>?_)
 ·exact finW hR (by rw [checkM,if_neg n1,if_pos e2])
 have n2:¬ partsM c = false:=by rw [e2]; simp
 have hbd:=limits_bd e1;have hpos:=parts_pos e2;(repeat (first | refine V_run ?_ | refine iV_ld1 ?_));rename_i z3 w3 hz3 hS3;have hz3':Le z z3:=by (repeat (exact Res.zle (by assumption)))
 refine LoopG1 (fun (k:Nat) x w'=>x = .int .i64 k/\k <= c.ins.length/\(∀ j i,j < k->c.ins[j]? = some i->rightM c i = true)/\∃ z',Le z z'/\Res w z [] w' z' [(bc,.cells (codeVs a1 a2 a3 a4 a5 a6 k1 k2 k3 k4 k5 k6 c).toArray 28 (0,0))]) (fun k=>c.ins.length - k) 0 ⟨rfl,by omega,fun j i hj=>absurd hj (by omega),z3,hz3',hS3⟩ ?_;rintro I M k x w4 m ⟨rfl,hk,hall,z4,hz4,hS4⟩ back
 clear hS3 hS1;obtain ⟨_,ai,ki,he,_,hel⟩:=h6.form
 cases he
 (repeat (refine V_run ?_));refine Cond_d (fun h=>?_) (fun h=>?_)
 ·have hlt:k < c.ins.length:=by omega
  have hi:=List.getElem?_eq_getElem hlt;haveI:InR (k:Int) (c.ins.length:Nat):=⟨by omega,by omega⟩
  haveI:InI ((k:Int) + 1):=⟨by omega⟩
  obtain ⟨b,off,cs,rfl,rfl,hat⟩:=hel _ _ hi;haveI:Fz z b (off + (k:Int).toNat * 4) c.ins[k].cells:=⟨hat⟩
  (repeat (first | refine V_run ?_ | refine iV_ldN ?_ | (refine iV_bx ?_; intro _ _ _ _) | (refine iU_st ?_; intro _ _) | (refine CV_puz ?_; intro _ _ _ _) | refine fV_ldN ?_));refine Cond_n (fun e3=>?_) (fun e3=>?_)
  ·refine finW hR ?_
   have hf:badIdx c = (k:Int):=fidx_some (x:=c.ins[k]) (fun j y hj hy=>by rw [hall j y hj hy]; rfl) hi (by rw [e3]; rfl);rw [checkM,if_neg n1,if_neg n2,if_pos (by omega),hf]
  ·(repeat (refine V_run ?_))
   rename_i hS5;refine back (k + 1) _ _ ⟨by simp,by omega,fun j i hj hji=>?_,_,?_,hS5.keep [.at bc]⟩ (by omega)
   ·rcases Nat.lt_or_eq_of_le (Nat.le_of_lt_succ hj) with hj | hj
    ·exact hall j i hj hji
    ·subst hj; rw [hi] at hji; cases hji; exact e3
   ·(repeat (exact Res.zle (by assumption)))
 ·have hall':∀ i ∈ c.ins,rightM c i = true:=fun i hm=>by
   obtain ⟨j,hj⟩:=List.mem_iff_getElem?.1 hm;exact hall j i (by have:=(List.getElem?_eq_some_iff.1 hj).1; omega) hj
  have hf:badIdx c = -1:=fidx_none (fun i y hm=>by rw [hall' y (List.mem_of_getElem? hm)]; rfl);have n3:¬ 0 <= badIdx c:=by rw [hf]; decide
  have e0:(c.ins.length:Int) - 1 = ((c.ins.length - 1:Nat):Int):=by omega
  haveI:InI ((c.ins.length:Int) - 1):=⟨by omega⟩
  haveI:InR ((c.ins.length - 1:Nat):Int) (c.ins.length:Nat):=⟨by omega,by omega⟩
  have hi:c.ins[c.ins.length - 1]? = some (lastI c):=by rw [lastI,insAt,List.getD_eq_getElem?_getD,List.getElem?_eq_getElem (by omega)]; rfl
  obtain ⟨b,off,cs,rfl,rfl,hat⟩:=hel _ _ hi;haveI:Fz z b (off + ((c.ins.length - 1:Nat):Int).toNat * 4) (lastI c).cells:=⟨hat⟩
  (repeat (first | refine V_run ?_ | refine iV_ld1 ?_));simp only [e0];(repeat (first | refine V_run ?_ | refine iV_ld1 ?_ | (refine iV_bx ?_; intro _ _ _ _) | (refine iU_st ?_; intro _ _) | (refine CV_pu ?_; intro _ _ _ _) | refine fV_ldN ?_));refine Cond_n (fun e4=>?_) (fun e4=>?_)
  ·exact finW hR (by rw [checkM,if_neg n1,if_neg n2,if_neg n3,if_pos e4,e0])
  have n4:¬ (formAt (lastI c).op).final = false:=by rw [e4]; simp
  (repeat (refine iV_ldN ?_));rename_i hS5;refine CV_1 (depths_of (hc.mono hS5.zle) hbd.2.2.2.1 hpos hbd.2.2.2.2.2 hall') ?_;rintro z6 w6 v6 hz6 hS6 hd
  have hck:checkM c = match depthsM c with | none=>(12,0) | some _=>(0,0):=by rw [checkM,if_neg n1,if_neg n2,if_neg n3,if_neg n4]
  cases hdm:depthsM c with
  | none=>
   rw [hdm] at hd hck
   cases hd
   (repeat (first | refine V_run ?_ | refine Cond_t ?_));exact finW hR (by rw [hck])
  | some kn=>
   rw [hdm] at hd hck;obtain ⟨v1,v2,rfl,_,_⟩:=hd;(repeat (first | refine V_run ?_ | refine Cond_f ?_));exact finW hR (by rw [hck]))
instance {z:Z} {v:Value} {c:CodeM} [hc:CodeZ z v c]:PuZ z 15 #[v] (ckV (checkM c)):=⟨fun z' w hz=>check_of (hc.h.mono hz)⟩
theorem check_ok {c:CodeM} (h:(checkM c).1 = 0):checkM c = (0,0)/\limitsM c = true/\partsM c = true/\(∀ i ∈ c.ins,rightM c i = true)/\(formAt (lastI c).op).final = true/\∃ kn,depthsM c = some kn:=by
 unfold checkM at h ⊢
 by_cases e1:limitsM c = false
 ·rw [if_pos e1] at h; cases h
 rw [if_neg e1] at h ⊢
 by_cases e2:partsM c = false
 ·rw [if_pos e2] at h; cases h
 rw [if_neg e2] at h ⊢
 by_cases e3:0 <= badIdx c
 ·rw [if_pos e3] at h; cases h
 rw [if_neg e3] at h ⊢
 by_cases e4:(formAt (lastI c).op).final = false
 ·rw [if_pos e4] at h; cases h
 rw [if_neg e4] at h ⊢
 cases hd:depthsM c with
 | none=>rw [hd] at h; cases h
 | some kn=>
  refine ⟨rfl,by simpa using e1,by simpa using e2,fun i hi=>?_,by simpa using e4,kn,rfl⟩;have:fidx (fun i=>!rightM c i) c.ins < 0:=by unfold badIdx at e3; omega
  unfold fidx at this
  cases hf:c.ins.findIdx? (fun i=>!rightM c i) with
  | none=>rw [List.findIdx?_eq_none_iff] at hf; simpa using hf i hi
  | some j=>rw [hf] at this; simp only at this; omega
def DepthsR (z:Z) (v:Value) (c:CodeM):Prop:=∃ v1 v2,v = .tuple #[v1,v2,.int .i64 (checkM c).1]/\SlR El.int z v1 (if (checkM c).1 = 0 then ((depthsM c).getD []).map stackV else [])/\SlR El.int z v2 (if (checkM c).1 = 0 then ((depthsM c).getD []).map loopsV else [])
theorem depthsX_of {z:Z} {w:World} {v:Value} {c:CodeM} (hc:CodeR z v c):Fn1 23 #[v] z w fun z' r=>DepthsR z' r c:=Fn1.intro fun hS=>en23 (by
 unfold vc23;obtain ⟨a1,a2,a3,a4,a5,a6,k1,k2,k3,k4,k5,k6,rfl,h1,h2,h3,h4,h5,h6⟩:=hc.form;haveI:CodeZ z _ c:=⟨hc⟩
 (repeat (first | refine V_run ?_ | refine iV_ldN ?_ | (refine iV_bx ?_; intro _ _ _ _) | (refine CV_puz ?_; intro _ _ _ _)));rename_i z5 w5 hz5 hS5;refine Cond_nd (fun e1=>?_) (fun e1=>?_)
 ·exact ⟨_,_,hS5,_,_,rfl,by rw [if_neg e1]; exact SlR.nil,by rw [if_neg e1]; exact SlR.nil⟩
 ·obtain ⟨e0,hl,hp,hr,_,kn,hd⟩:=check_ok e1
  have hbd:=limits_bd hl;(repeat (refine iV_ldN ?_));refine CV_1 (depths_of (hc.mono hS5.zle) hbd.2.2.2.1 (parts_pos hp) hbd.2.2.2.2.2 hr) ?_;rintro z6 w6 v6 hz6 hS6 hdd
  rw [hd] at hdd;obtain ⟨v1,v2,rfl,g1,g2⟩:=hdd;(repeat (refine V_run ?_));exact ⟨_,_,hS6,v1,v2,by rw [e1],by rw [if_pos e1,hd]; exact g1,by rw [if_pos e1,hd]; exact g2⟩)
end
section
open Go Q Go.RowKit
theorem insK_len {out:List Nat} {x:Nat}:(insK out x).length <= out.length + 1:=by
 unfold insK; cases memK out x <;> simp
def nextL (c:CodeM) (at_:Nat):List Nat:=(leadsM c.ins.length at_ (insAt c at_)).foldl (fun out p=>insK out p.1) []
theorem leadsM_len {n at_:Nat} {i:InsM}:(leadsM n at_ i).length <= 2:=by
 unfold leadsM lead1 lead2
 split <;> split <;> simp
theorem foldT_len {l:List (Nat × Bool)} {k:Nat}:((l.take k).foldl (fun out p=>insK out p.1) []).length <= k:=by
 induction k generalizing l with
 | zero=>simp
 | succ k ih=>
  by_cases h:k < l.length
  ·rw [<- List.take_append_getElem h,List.foldl_append]
   simp only [List.foldl_cons,List.foldl_nil];have:=@ih l;have:=@insK_len ((l.take k).foldl (fun out p=>insK out p.1) []) l[k].1;omega
  ·rw [List.take_of_length_le (by omega)]
   have:=@ih l;rw [List.take_of_length_le (by omega)] at this;omega
end
section
open Go Q Go.RowKit
structure RcM where
 set:List Bool
 open_:List Nat
def toL (c:CodeM) (at_:Nat):List Nat:=(leadsM c.ins.length at_ (insAt c at_)).map fun p=>p.1
def stepR (c:CodeM) (r:RcM) (at_:Nat):RcM:=if r.set.getD at_ false = true then r else ⟨r.set.set at_ true,r.open_ ++ toL c at_⟩
def runR (c:CodeM):Nat->RcM->List Bool
 | 0,r=>r.set
 | f + 1,r=>match r.open_.getLast? with
  | none=>r.set
  | some at_=>runR c f (stepR c ⟨r.set,r.open_.dropLast⟩ at_)
def reachBad (c:CodeM):Bool:=decide (c.ins.length > 12000) || (decide (c.labels.length > 3000) || decide (c.ins.length = 0))
def reachM (c:CodeM):List Bool:=if reachBad c = true then [] else runR c ((rootsM c).length + 3 * c.ins.length + 1) ⟨List.replicate c.ins.length false,rootsM c⟩
structure InvR (n:Nat) (r:RcM):Prop where
 len:r.set.length = n
 op:∀ a ∈ r.open_,a < n
 size:r.open_.length + 2 * r.set.count false <= 3001 + 2 * n
def meaR (r:RcM):Nat:=r.open_.length + 3 * r.set.count false
theorem countF_set {l:List Bool} {k:Nat} (hk:k < l.length) (h:l.getD k false = false):(l.set k true).count false + 1 = l.count false:=by
 have h2:l[k] = false:=by rw [List.getD_eq_getElem?_getD,List.getElem?_eq_getElem hk] at h; exact h
 have hs:l = l.take k ++ false :: l.drop (k + 1):=by
  rw [<- h2,<- List.drop_eq_getElem_cons hk,List.take_append_drop]
 rw [List.set_eq_take_append_cons_drop,if_pos hk]
 conv=>rhs; rw [hs]
 simp [List.count_append,List.count_cons];omega
theorem toL_len {c:CodeM} {a:Nat}:(toL c a).length <= 2:=by unfold toL; rw [List.length_map]; exact leadsM_len
theorem toL_lt {c:CodeM} {a:Nat}:∀ x ∈ toL c a,x < c.ins.length:=fun x hx=>by
 obtain ⟨p,hp,rfl⟩:=List.mem_map.1 hx;exact leadsM_lt p hp
theorem popR {n:Nat} {s:List Bool} {l:List Nat} {a:Nat} (h:InvR n ⟨s,l ++ [a]⟩):InvR n ⟨s,l⟩/\meaR ⟨s,l⟩ + 1 = meaR ⟨s,l ++ [a]⟩/\a < n:=by
 refine ⟨⟨h.len,fun x hx=>h.op x (by simp [hx]),?_⟩,?_,h.op a (by simp)⟩
 ·have:=h.size; simp only [List.length_append,List.length_singleton] at this; simp only; omega
 ·unfold meaR; simp only [List.length_append,List.length_singleton]; omega
theorem stepR_inv {c:CodeM} {r:RcM} {a:Nat} (h:InvR c.ins.length r) (ha:a < c.ins.length):InvR c.ins.length (stepR c r a)/\meaR (stepR c r a) <= meaR r:=by
 unfold stepR
 by_cases e:r.set.getD a false = true
 ·rw [if_pos e]; exact ⟨h,Nat.le_refl _⟩
 ·rw [if_neg e]
  have hc:=countF_set (by rw [h.len]; exact ha) (by simpa using e);have ht:=@toL_len c a;refine ⟨⟨by simp [h.len],fun x hx=>?_,?_⟩,?_⟩
  ·rcases List.mem_append.1 hx with hx | hx
   ·exact h.op x hx
   ·exact toL_lt x hx
  ·have:=h.size; simp only [List.length_append]; omega
  ·unfold meaR; simp only [List.length_append]; omega
def boolsV (l:List Bool):List Value:=l.map Value.bool
theorem boolsV_flat (l:List Bool):l.flatMap (fun x=>[Value.bool x]) = boolsV l:=by
 induction l with
 | nil=>rfl
 | cons a l ih=>simp only [List.flatMap_cons,boolsV,List.map_cons] at ih ⊢; rw [ih]; rfl
theorem boolsV_len (l:List Bool):(boolsV l).length = l.length:=by simp [boolsV]
theorem zerosB_eq {n:Nat}:((List.range (n * 1)).map fun i=>([Value.bool false]:List Value)[i % ([Value.bool false]:List Value).length]!) = boolsV (List.replicate n false):=by
 rw [Nat.mul_one];refine List.ext_getElem? fun j=>?_
 simp only [boolsV,List.getElem?_map,List.getElem?_range,List.getElem?_replicate,List.length_singleton,Nat.mod_one]
 by_cases h:j < n
 ·simp [h]
 ·simp [h]
theorem reach_of {z:Z} {w:World} {v:Value} {c:CodeM} (hc:CodeR z v c):Fn1 22 #[v] z w fun z' r=>SlR El.bool z' r (reachM c):=Fn1.intro fun hS=>en22 (by
 unfold vc22;obtain ⟨a1,a2,a3,a4,a5,a6,k1,k2,k3,k4,k5,k6,rfl,h1,h2,h3,h4,h5,h6⟩:=hc.form;refine iV_bx ?_;intro bc w1 hbc hS1;obtain ⟨zc,hzc,hS2,hatc⟩:=hS1.frz bc;generalize hRR:(fun (v:Value) (w':World)=>∃ z' L',Res w z [] w' z' L'/\SlR El.bool z' v (reachM c)) = RR;have hR:∀ z' w' L' r,Res w1 zc [] w' z' L'->SlR El.bool z' r (reachM c)->RR r w':=fun z' w' L' r k hd=>by rw [<- hRR]; exact ⟨z',L',hS2.comp k,hd⟩
 clear hRR;have hS3:=hS2.self;clear hS hS1 hS2;haveI:Fz zc bc 0 (codeVs a1 a2 a3 a4 a5 a6 k1 k2 k3 k4 k5 k6 c):=⟨hatc⟩
 haveI:Fz zc bc 3 [.slice a4 c.labels.length k4]:=⟨hatc.fld (i:=3) rfl rfl⟩
 haveI:Fz zc bc 5 [.slice a6 c.ins.length k6]:=⟨hatc.fld (i:=5) rfl rfl⟩
 (repeat (first | refine V_run ?_ | (refine JGB ?_; intro _ _ _ _) | refine fV_ld1 ?_));rename_i z4 w4 hz4 hS4;have hz4':Le zc z4:=by (repeat (exact Res.zle (by assumption)))
 clear hS3;have hbad:(bif bif decide ((c.ins.length:Int) > 12000) then true else decide ((c.labels.length:Int) > 3000) then true else decide ((c.ins.length:Int) = 0)) = reachBad c:=by
  rw [reachBad,show decide ((c.ins.length:Int) > 12000) = decide (c.ins.length > 12000) from decide_eq_decide.2 (by omega),show decide ((c.labels.length:Int) > 3000) = decide (c.labels.length > 3000) from decide_eq_decide.2 (by omega),show decide ((c.ins.length:Int) = 0) = decide (c.ins.length = 0) from decide_eq_decide.2 (by omega)]
  cases decide (c.ins.length > 12000) <;> cases decide (c.labels.length > 3000) <;> rfl
 rw [hbad];refine Cond_b (fun e=>?_) (fun e=>?_)
 ·exact hR _ _ _ _ hS4 (by rw [reachM,if_pos e]; exact SlR.nil)
 have hrm:reachM c = runR c ((rootsM c).length + 3 * c.ins.length + 1) ⟨List.replicate c.ins.length false,rootsM c⟩:=by rw [reachM,if_neg (by rw [e]; simp)]
 have hbd:c.ins.length <= 12000/\c.labels.length <= 3000/\0 < c.ins.length:=by
  rw [reachBad] at e;simp only [Bool.or_eq_false_iff,decide_eq_false_iff_not] at e;omega
 clear hbad e;(repeat (first | refine V_run ?_ | refine fV_ld1 ?_));refine iV_ms (by omega) (by omega) ?_;intro bs w5 hbs hS5;rw [zerosB_eq] at hS5;clear hS4;(repeat (refine fV_ldN ?_));refine CV_fn0 (fun hle=>roots_of ((hc.mono hzc).mono hle) hbd.2.1) ?_;rintro z6 B6 w6 v6 hz6 hS6 ho6
 have hrl:(rootsM c).length <= 3001:=Nat.le_trans rootsK_le (by omega);obtain ⟨av6,cv6,rfl,_⟩:=ho6.form;refine iV_al ?_;intro b4 w7 hb4 hS7;clear hS5 hS6;(repeat (refine iU_st ?_; intro _ _));rename_i w8 hS8;have hS9:=hS8.keep [.at bs,.at b4,.bl B6];clear hS7 hS8;have hz6':=hz4'.trans hz6;refine LoopG1 (fun (p:Nat × RcM × List Nat) x w'=>marks x = p.2.2/\reachM c = runR c p.1 p.2.1/\meaR p.2.1 < p.1/\InvR c.ins.length p.2.1/\∃ B' v' z',Le z6 z'/\OwnSl 3 1 B' v' p.2.1.open_.length (intsV p.2.1.open_)/\Res w1 zc [] w' z' ((bs,.cells (boolsV p.2.1.set).toArray 4 (0,0)) :: (b4,.cells [v'].toArray 45 (0,0)) :: (B' ++ markB p.2.2))) (fun p=>p.1) ((rootsM c).length + 3 * c.ins.length + 1,⟨List.replicate c.ins.length false,rootsM c⟩,[])
  ⟨rfl,hrm,by simp [meaR],⟨by simp,rootsM_lt hbd.2.2,by simp; omega⟩,B6,_,z6,Le.refl _,ho6,hS9⟩ ?_
 rintro I M ⟨f,r,rs⟩ x w10 m ⟨hmx,hrun,hmea,hinv,B10,v10,z10,hz10,ho,hS10⟩ back
 simp only at hmx hrun hmea hinv ho hS10;obtain ⟨s,op⟩:=r;simp only at ho hS10;clear hS9 ho6;have hf:f = (f - 1) + 1:=by omega
 have hlen:s.length = c.ins.length:=hinv.len;have hsz:=hinv.size;simp only at hsz
 rcases List.eq_nil_or_concat op with rfl | ⟨l,a,rfl⟩
 ·obtain ⟨av,cv,rfl,_⟩:=ho.form
  (repeat (first | refine V_run ?_ | refine iV_ld1 ?_ | refine Cond_f ?_));rw [hmx];refine iTakes rs (hS10.bring (markB rs)) ?_;intro w11 hS11;have hS12:=hS11.bringB bs;obtain ⟨z13,hz13,hS13,hv⟩:=Res.freezeSl (E:=El.bool) (e:=4) (B:=[(bs,_)]) (v:=.slice (some ⟨bs,0,none⟩) s.length s.length) (xs:=s) (f:=fun x=>[Value.bool x]) hS12 ⟨by rw [boolsV_flat,boolsV_len]; exact (Nat.mul_one _).symm,.inr ⟨bs,s.length,[],by rw [boolsV_flat,List.append_nil],rfl,Nat.le_refl _,by simp only [maxLen]; omega,by rw [boolsV_flat,List.append_nil,boolsV_len]; exact (Nat.mul_one _).symm⟩⟩ (by simp only [big]; omega) (fun _=>rfl) (fun z x _=>rfl);rw [hlen] at hv;refine hR _ _ _ _ hS13 ?_;rw [hrun,hf];exact hv
 ·rw [List.concat_eq_append] at *
  obtain ⟨hip,hmp,hlt⟩:=popR hinv;simp only [List.length_append,List.length_singleton,intsV_append] at ho;obtain ⟨bo,cap,C,rfl,hcap,rfl,hC,ho2⟩:=OwnSl.pop (u:=.int .i64 (a:Int)) ho;obtain ⟨C,rfl⟩:∃ D:List Value,C = D.toArray:=⟨C.toList,by simp⟩
  simp only [List.cons_append,List.nil_append] at hS10;have e0:((l.length + 1:Nat):Int) - 1 = (l.length:Int):=by omega
  simp only [List.length_append,List.length_singleton] at hsz;haveI:InI (((l.length + 1:Nat):Int) - 1):=⟨by omega⟩
  haveI:InR (l.length:Int) ((l.length + 1:Nat):Int):=⟨by omega,by omega⟩
  haveI:InR (l.length:Int) ((cap:Int) + 1):=⟨by omega,by omega⟩
  haveI:Get C ((l.length:Int).toNat * 1) (.int .i64 (a:Int)):=⟨by simpa using hC⟩
  haveI:InR (a:Int) (c.ins.length:Nat):=⟨by omega,by omega⟩
  have e1:(a:Int).toNat * 1 = a:=by omega
  haveI:Get (boolsV s) ((a:Int).toNat * 1) (.bool (s.getD a false)):=⟨by rw [e1,boolsV,List.getElem?_map,List.getD_eq_getElem?_getD,List.getElem?_eq_getElem (by omega)]; rfl⟩
  haveI:SetN (boolsV s) ((a:Int).toNat * 1) [.bool true] (boolsV (s.set a true)):=by
   have:=SetN.at_ (l:=boolsV s) (k:=a) (u:=.bool true) (by rw [boolsV_len]; omega);rw [e1,show boolsV (s.set a true) = (boolsV s).set a (.bool true) by simp [boolsV,List.map_set]]; exact this
  have hrun2:runR c f ⟨s,l ++ [a]⟩ = runR c (f - 1) (stepR c ⟨s,l⟩ a):=by
   rw [hf];simp only [runR,List.getLast?_concat,List.dropLast_concat]
   rfl
  (repeat (first | refine V_run ?_ | refine iV_ld1 ?_));refine Cond_d (fun _=>?_) (fun hn=>absurd hn (by omega));(repeat (first | refine V_run ?_ | refine iV_ld1 ?_));simp only [e0];(repeat (first | refine V_run ?_ | refine iV_ld1 ?_));simp only [e0];(repeat (first | refine V_run ?_ | refine iV_ld1 ?_ | (refine iU_st ?_; intro _ _)));rename_i w11 hS11;simp only [Int.toNat_natCast] at hS11;clear hS10;refine Cond_b (fun e=>?_) (fun e=>?_)
  ·refine back (f - 1,⟨s,l⟩,rs) _ _ ⟨hmx,?_,by simp only; omega,hip,[(bo,.cells C.toArray 3 (0,0))],_,z10,hz10,ho2,hS11⟩ (by simp only; omega)
   rw [hrun,hrun2,stepR,if_pos e]
  ·have hst:stepR c ⟨s,l⟩ a = ⟨s.set a true,l ++ toL c a⟩:=by rw [stepR,if_neg (by rw [e]; simp)]
   obtain ⟨hin2,hme2⟩:=stepR_inv (c:=c) hip hlt;rw [hst] at hin2 hme2;have hi2:c.ins[a]? = some (insAt c a):=by rw [insAt,List.getD_eq_getElem?_getD,List.getElem?_eq_getElem hlt]; rfl
   (repeat (first | refine V_run ?_ | (refine iU_st ?_; intro _ _) | refine fV_ldN ?_));refine CV_1 leads_of ?_;rintro z12 w12 v12 hz12 hS12 ⟨bl1,bl2,rfl,hbl1,hbl2⟩
   clear hS11;intro lp r0 l0 w13 hnew hyp;have hS13:=hS12.rf hnew;clear hS12 hnew;have hO:=hS13.self;have hll:(toL c a).length = (leadsM c.ins.length a (insAt c a)).length:=by simp [toL]
   have htl:=@toL_len c a;have hll2:=hin2.size;refine leads_gen (i:=insAt c a) hO (h6.mono (hzc.trans (hz6'.trans (hz10.trans hz12)))) hbl1 hbl2 hi2
    (fun k z' L'=>∃ v B,OwnSl 3 1 B v (l ++ (toL c a).take k).length (intsV (l ++ (toL c a).take k))/\L' = (l0,lobj lp .ready none) :: (r0,.deferred (some [])) :: (bs,.cells (boolsV (s.set a true)).toArray 4 (0,0)) :: (b4,.cells [v].toArray 45 (0,0)) :: (B ++ markB rs))
    (fun _ _=>False) (fun _ _ _ _ _ h=>h) ⟨_,[(bo,.cells C.toArray 3 (0,0))],by rw [List.take_zero,List.append_nil]; exact ho2,rfl⟩ ?_ ?_ ?_
   ·rintro k y b hk z14 w14 G _ K' hz14 hS14 ⟨v,B,ho3,rfl⟩ back' fail
    have hkl:=(List.getElem?_eq_some_iff.1 hk).1;have hk2:k < (toL c a).length:=by omega
    have hky:(toL c a)[k] = y:=by simp only [toL,List.getElem_map,(List.getElem?_eq_some_iff.1 hk).2]
    obtain ⟨av,cv,rfl,_⟩:=ho3.form;refine hyp _ _ _ _ ?_ (Res.at_ (b:=l0) hS14);refine iBegin ?_;intro w15 hS15;clear hS14;have hlk:(l ++ (toL c a).take k).length <= l.length + 2:=by rw [List.length_append,List.length_take]; omega
    (repeat (refine iV_ld1 ?_));refine V_push hS15 ho3 (by simp only [room]; omega) (by simp only [room]; omega) (by decide) ?_;intro B16 v16 w16 ho16 hS16;obtain ⟨a16,c16,rfl,_⟩:=ho16.form;clear hS15;(repeat (refine iU_st ?_; intro _ _));refine iEnd (st:=.busy) (pend:=none) ?_;intro w17 hS17;refine back' _ _ _ ?_ (hS17.perm (perm_mid _ _ [_,_,_,_] _)) ⟨_,B16,?_,rfl⟩
    ·(repeat (exact Le.refl _))
    ·have hlen3:(l ++ List.take k (toL c a) ++ [y]).length = (l ++ List.take k (toL c a)).length + 1:=List.length_append
     rw [<- List.take_append_getElem hk2,hky,<- List.append_assoc,hlen3,intsV_append];exact ho16
   ·rintro z14 w14 _ hz14 hS14 ⟨v,B,ho3,rfl⟩
    rw [<- hll,List.take_of_length_le (Nat.le_refl _)] at ho3;refine iRfEnd (st:=.ready) (by intro h; cases h) ?_;intro w15 hS15;refine back (f - 1,⟨s.set a true,l ++ toL c a⟩,r0 :: rs) _ _ ⟨by rw [marks_iface,hmx],by rw [hrun,hrun2,hst],by simp only; omega,hin2,B,v,z14,?_,ho3,?_⟩ (by simp only; omega)
    ·exact hz10.trans (hz12.trans hz14)
    ·have hS16:=(hS13.comp hS15).keep [.at bs,.at b4,.bl B,.at r0,.bl (markB rs)]
     simpa [markB] using hS16
   ·intro _ _ _ _ _ hf
    exact hf.elim)
end
section
open Go Q Go.RowKit
def kindM (i:InsM) (k:Int):Int:=
 if ((i.op = 12 \/ i.op = 21)/\k = 0) \/ (i.op = 19/\k = 1/\i.a = 1) then 2 else if i.op = 22/\k = 2 then 8 else if k = 0 then (formAt i.op).k0 else if k = 1 then (formAt i.op).k1 else (formAt i.op).k2
theorem JGIe {w0:World} {z0 z:Z} {B0 L:Bl} {x y:Int} {rest:Value->World->Prop} {body:(List Value->World->Prop)->Prop} [g:PG (Value.int .i64) body w0 z0 B0 z L x] (hx:x = y) (h:∀ z' w',Le z z'->Res w0 z0 B0 w' z' L->rest (.int .i64 y) w'):∀ K:List Value->World->Prop,(∀ t w,(∀ _:Env,rest t w)->K [t] w)->body K:=by subst hx; exact JGI h
theorem operands_of {z:Z} {w:World} {p:Option Addr}:Fn1 61 #[.pointer p] z w fun z' r=>∃ b1,r = .func (.func 172) #[] #[.pointer (some ⟨b1,0,none⟩)]/\At z' b1 0 [.pointer p]:=Fn1.intro fun hS=>en61 (by
 unfold vc61;refine iV_bx ?_;intro b1 w1 hb1 hS1;obtain ⟨z3,hz3,hS3,h3⟩:=hS1.frz b1;exact ⟨_,_,hS3,b1,rfl,h3⟩)
theorem operands_gen {z:Z} {w:World} {L:Bl} {b1 bb:Nat} {yv:Value} {K:Value->World->Prop} {i:InsM} (hS:Res w z ((bb,.cells i.cells.toArray 38 (0,0)) :: L) w z ((bb,.cells i.cells.toArray 38 (0,0)) :: L)) (g1:At z b1 0 [.pointer (some ⟨bb,0,none⟩)])
  (J:Int->InsM->Z->Bl->Prop) (hm:∀ k i' z' z'' L',Le z' z''->J k i' z' L'->J k i' z'' L') (h0:J 0 i z L)
  (body:∀ k:Int,0 <= k->k < 3->∀ i' z' w' G L' (K':Value->World->Prop),i'.op = i.op->Le z z'->Res w z ((bb,.cells i.cells.toArray 38 (0,0)) :: L) w' z' (G ++ ((bb,.cells i'.cells.toArray 38 (0,0)) :: L'))->J k i' z' L' ->
   (∀ i'' z'' w'' L'',i''.op = i.op->Le z' z''->Res w z ((bb,.cells i.cells.toArray 38 (0,0)) :: L) w'' z'' (G ++ ((bb,.cells i''.cells.toArray 38 (0,0)) :: L''))->J (k + 1) i'' z'' L''->K' (.bool true) w'')->CV yv #[.int .i64 (kindM i' k),.pointer (some ⟨bb,k.toNat + 1,none⟩)] w' K')
  (hend:∀ i' z' w' L',i'.op = i.op->Le z z'->Res w z ((bb,.cells i.cells.toArray 38 (0,0)) :: L) w' z' ((bb,.cells i'.cells.toArray 38 (0,0)) :: L')->J 3 i' z' L'->K (.tuple #[]) w') :
  CE (.func (.func 172) #[] #[.pointer (some ⟨b1,0,none⟩)]) #[yv] w K:=by
 refine CE_fn (args':=#[yv,.pointer (some ⟨b1,0,none⟩)]) (by simp) (en172 ?_);unfold vc172;haveI:Fz z b1 0 [.pointer (some ⟨bb,0,none⟩)]:=⟨g1⟩
 refine fV_ld1 ?_;refine NilW_some ?_;refine iV_ldN ?_;refine CV_pu ?_;intro z5 w5 hz5 hS5;refine V_run ?_;refine V_run ?_;refine iV_al ?_;intro b3 w6 hb3 hS6;refine iU_st ?_;intro w7 hS7;clear hS5 hS6;(repeat (first | (refine iDr ?_; intro _ _) | refine PV_run ?_ | refine fHV_ld1 ?_));rename_i w8 hS8;clear hS7;refine LoopG1 (fun (p:Int × InsM) x w'=>x = .int .i64 p.1/\0 <= p.1/\p.1 <= 3/\p.2.op = i.op/\∃ z' L',Le z z'/\Res w z ((bb,.cells i.cells.toArray 38 (0,0)) :: L) w' z' ((b3,.cells (formAt i.op).cells.toArray 102 (0,0)) :: (bb,.cells p.2.cells.toArray 38 (0,0)) :: L')/\J p.1 p.2 z' L') (fun p=>(3 - p.1).toNat) (0,i) ⟨rfl,by simp,by simp,rfl,z5,L,hz5,hS8,hm _ _ _ _ _ hz5 h0⟩ ?_;rintro I M ⟨k,i'⟩ x w9 m ⟨rfl,gp,g3,ho,z9,L9,hz9,hS9,hJ⟩ back
 simp only at gp g3 ho hS9 hJ;clear hS8 hS;refine V_run ?_;have hkk:k = 0 \/ k = 1 \/ k = 2 \/ k = 3:=by omega
 rcases hkk with rfl | rfl | rfl | rfl
 ·refine Cond_is rfl ?_
  dsimp only;(repeat (first | refine V_run ?_ | refine iV_ld1 ?_));intro Kq hKq;have main:∀ kd z11 w11,Le z9 z11->Res w z ((bb,.cells i.cells.toArray 38 (0,0)) :: L) w11 z11 ((b3,.cells (formAt i.op).cells.toArray 102 (0,0)) :: (bb,.cells i'.cells.toArray 38 (0,0)) :: L9)->kd = kindM i' 0->Kq [.int .i64 kd] w11:=by
   rintro kd z11 w11 hz11 hS11 rfl
   refine hKq _ _ fun _=>?_
   have hb:=body 0 (by omega) (by omega) i' z11 w11 [(b3,.cells (formAt i.op).cells.toArray 102 (0,0))] L9 (fun v w'=>V (un .not v) w' fun t80 w=>CondW t80 (K (.tuple #[]) w) (V (bi .add 3 (.int .i64 0) (.int .i64 1)) w fun t81 w=>I [t81] w/\M [t81] w < m)) ho (hz9.trans hz11) hS11 (hm _ _ _ _ _ hz11 hJ)
    (fun i'' z'' w'' L'' ho'' hz'' hS'' hJ''=>by
     refine V_run ?_;refine Cond_f ?_;refine V_run ?_;exact back (1,i'') _ _ ⟨rfl,by simp,by simp,ho'',z'',L'',(hz9.trans hz11).trans hz'',hS'',hJ''⟩ (by simp))
   exact hb
  clear hKq back;intro Kr hKr;have main2:∀ b z11 w11,Le z9 z11->Res w z ((bb,.cells i.cells.toArray 38 (0,0)) :: L) w11 z11 ((b3,.cells (formAt i.op).cells.toArray 102 (0,0)) :: (bb,.cells i'.cells.toArray 38 (0,0)) :: L9)->b = decide (((i'.op = 12 \/ i'.op = 21)/\(0:Int) = 0) \/ (i'.op = 19/\(0:Int) = 1/\i'.a = 1))->Kr [.bool b] w11:=by
   rintro b z11 w11 hz11 hS11 rfl
   refine hKr _ _ fun _=>?_
   clear hS9;refine Cond_d (fun e=>?_) (fun e=>?_)
   ·exact main _ _ _ hz11 hS11 (by rw [kindM,if_pos e])
   ·(repeat (first | refine V_run ?_ | refine iV_ld1 ?_ | refine JB ?_ | refine fV_ld1 ?_))
    refine Cond_b (fun e2=>?_) (fun e2=>?_)
    ·exact main _ _ _ hz11 hS11 (by rw [kindM,if_neg e]; simp only [Bool.cond_eq_ite,decide_eq_true_eq] at e2; simp_all)
    ·exact main _ _ _ hz11 hS11 (by rw [kindM,if_neg e]; simp only [Bool.cond_eq_ite,decide_eq_true_eq] at e2; simp_all)
  clear hKr main;(repeat (first | refine V_run ?_ | refine iV_ld1 ?_ | refine JB ?_ | (refine JGB ?_; intro _ _ _ _) | refine fV_ld1 ?_));rename_i z12 w12 hz12 hS12;have hz12':Le z9 z12:=by (repeat (assumption))
  clear hS9;refine Cond_b (fun e=>?_) (fun e=>?_)
  ·exact main2 _ _ _ hz12' hS12 (by simp only [Bool.cond_eq_ite,decide_eq_true_eq] at e ⊢; (repeat' split) <;> simp_all)
  ·(repeat (first | refine V_run ?_ | refine iV_ld1 ?_ | refine JB ?_ | (refine JGB ?_; intro _ _ _ _) | refine fV_ld1 ?_))
   rename_i z13 w13 hz13 hS13;have hz13':Le z9 z13:=by (repeat (first | assumption | refine Le.trans ?_ (by assumption:Le _ _)))
   exact main2 _ _ _ hz13' hS13 (by simp only [Bool.cond_eq_ite,decide_eq_true_eq] at e ⊢; (repeat' split) <;> simp_all)
 ·refine Cond_is rfl ?_
  dsimp only;(repeat (first | refine V_run ?_ | refine iV_ld1 ?_));intro Kq hKq;have main:∀ kd z11 w11,Le z9 z11->Res w z ((bb,.cells i.cells.toArray 38 (0,0)) :: L) w11 z11 ((b3,.cells (formAt i.op).cells.toArray 102 (0,0)) :: (bb,.cells i'.cells.toArray 38 (0,0)) :: L9)->kd = kindM i' 1->Kq [.int .i64 kd] w11:=by
   rintro kd z11 w11 hz11 hS11 rfl
   refine hKq _ _ fun _=>?_
   have hb:=body 1 (by omega) (by omega) i' z11 w11 [(b3,.cells (formAt i.op).cells.toArray 102 (0,0))] L9 (fun v w'=>V (un .not v) w' fun t80 w=>CondW t80 (K (.tuple #[]) w) (V (bi .add 3 (.int .i64 1) (.int .i64 1)) w fun t81 w=>I [t81] w/\M [t81] w < m)) ho (hz9.trans hz11) hS11 (hm _ _ _ _ _ hz11 hJ)
    (fun i'' z'' w'' L'' ho'' hz'' hS'' hJ''=>by
     refine V_run ?_;refine Cond_f ?_;refine V_run ?_;exact back (2,i'') _ _ ⟨rfl,by simp,by simp,ho'',z'',L'',(hz9.trans hz11).trans hz'',hS'',hJ''⟩ (by simp))
   exact hb
  clear hKq back;intro Kr hKr;have main2:∀ b z11 w11,Le z9 z11->Res w z ((bb,.cells i.cells.toArray 38 (0,0)) :: L) w11 z11 ((b3,.cells (formAt i.op).cells.toArray 102 (0,0)) :: (bb,.cells i'.cells.toArray 38 (0,0)) :: L9)->b = decide (((i'.op = 12 \/ i'.op = 21)/\(1:Int) = 0) \/ (i'.op = 19/\(1:Int) = 1/\i'.a = 1))->Kr [.bool b] w11:=by
   rintro b z11 w11 hz11 hS11 rfl
   refine hKr _ _ fun _=>?_
   clear hS9;refine Cond_d (fun e=>?_) (fun e=>?_)
   ·exact main _ _ _ hz11 hS11 (by rw [kindM,if_pos e])
   ·(repeat (first | refine V_run ?_ | refine iV_ld1 ?_ | refine JB ?_ | refine fV_ld1 ?_))
    refine Cond_b (fun e2=>?_) (fun e2=>?_)
    ·exact main _ _ _ hz11 hS11 (by rw [kindM,if_neg e]; simp only [Bool.cond_eq_ite,decide_eq_true_eq] at e2; simp_all)
    ·exact main _ _ _ hz11 hS11 (by rw [kindM,if_neg e]; simp only [Bool.cond_eq_ite,decide_eq_true_eq] at e2; simp_all)
  clear hKr main;(repeat (first | refine V_run ?_ | refine iV_ld1 ?_ | refine JB ?_ | (refine JGB ?_; intro _ _ _ _) | refine fV_ld1 ?_));rename_i z12 w12 hz12 hS12;have hz12':Le z9 z12:=by (repeat (assumption))
  clear hS9;refine Cond_b (fun e=>?_) (fun e=>?_)
  ·exact main2 _ _ _ hz12' hS12 (by simp only [Bool.cond_eq_ite,decide_eq_true_eq] at e ⊢; (repeat' split) <;> simp_all)
  ·(repeat (first | refine V_run ?_ | refine iV_ld1 ?_ | refine JB ?_ | (refine JGB ?_; intro _ _ _ _) | refine fV_ld1 ?_))
   rename_i z13 w13 hz13 hS13;have hz13':Le z9 z13:=by (repeat (first | assumption | refine Le.trans ?_ (by assumption:Le _ _)))
   exact main2 _ _ _ hz13' hS13 (by simp only [Bool.cond_eq_ite,decide_eq_true_eq] at e ⊢; (repeat' split) <;> simp_all)
 ·refine Cond_is rfl ?_
  dsimp only;(repeat (first | refine V_run ?_ | refine iV_ld1 ?_));intro Kq hKq;have main:∀ kd z11 w11,Le z9 z11->Res w z ((bb,.cells i.cells.toArray 38 (0,0)) :: L) w11 z11 ((b3,.cells (formAt i.op).cells.toArray 102 (0,0)) :: (bb,.cells i'.cells.toArray 38 (0,0)) :: L9)->kd = kindM i' 2->Kq [.int .i64 kd] w11:=by
   rintro kd z11 w11 hz11 hS11 rfl
   refine hKq _ _ fun _=>?_
   have hb:=body 2 (by omega) (by omega) i' z11 w11 [(b3,.cells (formAt i.op).cells.toArray 102 (0,0))] L9 (fun v w'=>V (un .not v) w' fun t80 w=>CondW t80 (K (.tuple #[]) w) (V (bi .add 3 (.int .i64 2) (.int .i64 1)) w fun t81 w=>I [t81] w/\M [t81] w < m)) ho (hz9.trans hz11) hS11 (hm _ _ _ _ _ hz11 hJ)
    (fun i'' z'' w'' L'' ho'' hz'' hS'' hJ''=>by
     refine V_run ?_;refine Cond_f ?_;refine V_run ?_;exact back (3,i'') _ _ ⟨rfl,by simp,by simp,ho'',z'',L'',(hz9.trans hz11).trans hz'',hS'',hJ''⟩ (by simp))
   exact hb
  clear hKq back;intro Kr hKr;have main2:∀ b z11 w11,Le z9 z11->Res w z ((bb,.cells i.cells.toArray 38 (0,0)) :: L) w11 z11 ((b3,.cells (formAt i.op).cells.toArray 102 (0,0)) :: (bb,.cells i'.cells.toArray 38 (0,0)) :: L9)->b = decide (((i'.op = 12 \/ i'.op = 21)/\(2:Int) = 0) \/ (i'.op = 19/\(2:Int) = 1/\i'.a = 1))->Kr [.bool b] w11:=by
   rintro b z11 w11 hz11 hS11 rfl
   refine hKr _ _ fun _=>?_
   clear hS9;refine Cond_d (fun e=>?_) (fun e=>?_)
   ·exact main _ _ _ hz11 hS11 (by rw [kindM,if_pos e])
   ·(repeat (first | refine V_run ?_ | refine iV_ld1 ?_ | refine JB ?_ | refine fV_ld1 ?_))
    refine Cond_b (fun e2=>?_) (fun e2=>?_)
    ·exact main _ _ _ hz11 hS11 (by rw [kindM,if_neg e]; simp only [Bool.cond_eq_ite,decide_eq_true_eq] at e2; simp_all)
    ·exact main _ _ _ hz11 hS11 (by rw [kindM,if_neg e]; simp only [Bool.cond_eq_ite,decide_eq_true_eq] at e2; simp_all)
  clear hKr main;(repeat (first | refine V_run ?_ | refine iV_ld1 ?_ | refine JB ?_ | (refine JGB ?_; intro _ _ _ _) | refine fV_ld1 ?_));rename_i z12 w12 hz12 hS12;have hz12':Le z9 z12:=by (repeat (assumption))
  clear hS9;refine Cond_b (fun e=>?_) (fun e=>?_)
  ·exact main2 _ _ _ hz12' hS12 (by simp only [Bool.cond_eq_ite,decide_eq_true_eq] at e ⊢; (repeat' split) <;> simp_all)
  ·(repeat (first | refine V_run ?_ | refine iV_ld1 ?_ | refine JB ?_ | (refine JGB ?_; intro _ _ _ _) | refine fV_ld1 ?_))
   rename_i z13 w13 hz13 hS13;have hz13':Le z9 z13:=by (repeat (first | assumption | refine Le.trans ?_ (by assumption:Le _ _)))
   exact main2 _ _ _ hz13' hS13 (by simp only [Bool.cond_eq_ite,decide_eq_true_eq] at e ⊢; (repeat' split) <;> simp_all)
 ·refine Cond_not rfl ?_
  exact hend i' z9 w9 L9 ho hz9 (hS9.sublist (List.sublist_cons_self _ _)) hJ
end
section
open Go Q Go.RowKit
instance {r:Option Nat} {x y:Operand}:Run (eq .neq 115 x y (.map r) (.map none)) (.bool r.isSome):=⟨fun w=>by
 have h:∀ d:Nat,(Op.equalIn (d + 1) 115 (.map r) (.map none)).run Tryz.prog w = .ok r.isNone w:=fun d=>by
  have hu:∀ w,(underlying 115).run Tryz.prog w = .ok (.map 3 4) w:=fun _=>by kernel_rfl
  simp only [Op.equalIn,Sem.run_bind,hu,Result.andThen_ok]
  cases r <;> rfl
 have:=h 9999;simp only [eq,eqGuard,binOp,Op.equal,Op.maxDepth,Sem.run_bind];simp [this]⟩
def clsM (k:Int):Int:=if k = 2 \/ k = 3 \/ k = 4 \/ k = 5 \/ k = 6 \/ k = 7 \/ k = 8 then 1 else if k = 10 then 2 else if k = 11 \/ k = 12 then 3 else 0
def ofR (k:Int) (a b c:Nat):Option Nat:=if clsM k = 1 then some a else if clsM k = 2 then some b else if clsM k = 3 then some c else none
instance {k:Int} {a b c:Nat}:Pu 62 #[.agg [.map (some a),.map (some b),.map (some c)].toArray,.int .i64 k] (.map (ofR k a b c)):=⟨fun z w=>fnW en62 (fun hS R=>by unfold vc62; exact inferInstance) (by
 unfold ofR clsM;simp only [Bool.cond_eq_ite,decide_eq_true_eq];(repeat' split) <;> simp_all)⟩
theorem zV_lkS {w0 w:World} {z0 z:Z} {B0 L:Bl} {K:Value->World->Prop} [hS:Res w0 z0 B0 w z L] {m:Nat} {S:List Int} {n:Int} {zm:Z} (hm:zm m = some (mK (Value.int .i64) (setK S))) (hz:Le zm z) (hk:K (.bool (memK S n)) w):V (lk 115 (.map (some m)) (.int .i64 n) false) w K:=by
 refine ⟨_,w,run_lkK (k:=3) (e:=4) (mk:=Value.int .i64) (zv:=.bool false) (hS.sub _ _ (hz _ _ hm)) (fun _=>by kernel_rfl) false,?_⟩;rw [if_neg (by simp),getK_set]
 cases h:memK S n <;> rw [h] at hk <;> exact hk
def vcSift (S T:Nat) (R:Value->World->Prop) (w:World) (t0 t1:Value):Prop:=
 V (mm 124 none) w fun t10 w=>U (mu 124 t10 (.int .i64 (-1)) (.int .i64 (-1))) w fun w=>V (Builtin.len_ #[S] 3 #[t0]) w fun t13 w=>∃ (I0:List Value->World->Prop) (M0:List Value->World->Nat),I0 [(.slice none 0 0),(.int .i64 0)] w/\∀ g:Env,∀ t6,∀ t14,∀ w,I0 [t6,t14] w->∀ m0,m0 = M0 [t6,t14] w ->
 V (bi .lss 3 t14 t13) w fun t15 w=>CondW t15
 (∀ K0:List Value->World->Prop,(∀ t6a,∀ w,(∀ g:Env,
 V (bi .add 3 t14 (.int .i64 1)) w fun t30 w=>
 I0 [t6a,t30] w/\M0 [t6a,t30] w < m0)->K0 [t6a] w) ->
 V (ia S t0 t14) w fun t17 w=>V (ld T t17) w fun t18 w=>V (lk 115 t1 t14 false) w fun t21 w=>CondW t21
 (V (Builtin.len_ #[S] 3 #[t6]) w fun t25 w=>U (mu 124 t10 t14 t25) w fun w=>V (bs S 1 #[(0,t18)]) w fun t28 w=>V (Builtin.append_ #[S,S] S #[t6,t28]) w fun t29 w=>K0 [t29] w)
 (K0 [t6] w))
 (R (.tuple #[t6,t10]) w)
def keptI (S:List Int) (n:Nat):List Nat:=(List.range n).filter fun i=>memK S (i:Int)
theorem keptI_succ {S:List Int} {n:Nat}:keptI S (n + 1) = keptI S n ++ (if memK S (n:Int) = true then [n] else []):=by
 unfold keptI;rw [List.range_succ,List.filter_append]
 cases h:memK S (n:Int) <;> simp [h]
theorem keptI_len {S:List Int} {n:Nat}:(keptI S n).length <= n:=by
 have:=List.length_filter_le (fun i:Nat=>memK S (i:Int)) (List.range n);rw [List.length_range] at this; exact this
def posK (S:List Int) (k:Nat) (n:Int):Option Value:=if n = -1 then some (.int .i64 (-1)) else if 0 <= n/\n < k/\memK S n = true then some (.int .i64 ((keptI S n.toNat).length:Int)) else none
structure KeptR {α:Type} (E:El α) (z:Z) (xs:List α) (ks:List Nat) (us:List Value):Prop where
 len:us.length = ks.length
 one:∀ u ∈ us,isOne u = true
 at_:∀ (j:Nat) i,ks[j]? = some i->∃ u x,us[j]? = some u/\xs[i]? = some x/\E.rel z [u] x
theorem KeptR.mono {α:Type} {E:El α} {z z':Z} {xs:List α} {ks:List Nat} {us:List Value} (h:KeptR E z xs ks us) (hz:Le z z'):KeptR E z' xs ks us:=
 ⟨h.len,h.one,fun j i hi=>let ⟨u,x,h1,h2,h3⟩:=h.at_ j i hi; ⟨u,x,h1,h2,E.mono h3 hz⟩⟩
theorem sift_ok {α:Type} {E:El α} {S T bytes fi:Nat} [g:TyApp S T 1 bytes] [gs:TySlice S T 1] [gz:TyFill T 1] [go:TyOne T] (hE:E.size = 1) (hone:∀ z cs x,E.rel z cs x->∃ u,cs = [u]/\isOne u = true) (hbytes:bytes <= 1000)
  (h1:∀ {R:Value->World->Prop} {w:World} {t0 t1:Value},vcSift S T R w t0 t1->Calls Tryz.prog fi #[t0,t1] w (retK R)) {z:Z} {w:World} {v:Value} {xs:List α} {m:Nat} {St:List Int} (hx:SlR E z v xs) (hm:z m = some (mK (Value.int .i64) (setK St))) (hl:xs.length <= 1000000) :
  Fn fi #[v,.map (some m)] z [] w fun z' B' r=>∃ sl mp Bs l us,r = .tuple #[sl,.map (some mp)]/\B' = Bs ++ [(mp,mK (Value.int .i64) l)]/\OwnSl T 1 Bs sl (keptI St xs.length).length us/\KeptR E z' xs (keptI St xs.length) us/\∀ n,getK l n = posK St xs.length n:=Fn.intro fun hS=>h1 (by
 unfold vcSift;obtain ⟨_,a,cap,rfl,_,hel⟩:=hx.form;refine kV_mm (mk:=Value.int .i64) ?_;intro mp w1 hmp hS1;refine kU_mu (mk:=Value.int .i64) ?_;intro w2 hS2;clear hS hS1;refine V_run ?_;refine LoopG2 (fun (k:Nat) x y w'=>y = .int .i64 k/\k <= xs.length/\∃ z' Bs l us,Le z z'/\OwnSl T 1 Bs x (keptI St k).length us/\KeptR E z' xs (keptI St k) us/\(∀ n,getK l n = posK St k n)/\Res w z [] w' z' (Bs ++ [(mp,mK (Value.int .i64) l)])) (fun k=>xs.length - k) 0
  ⟨rfl,by omega,z,[],_,[],Le.refl _,OwnSl.nil,⟨rfl,by simp,fun j i hi=>by simp [keptI] at hi⟩,fun n=>?_,hS2⟩ ?_
 ·rw [getK_up,getK_nil,posK]
  by_cases e:n = -1
  ·rw [if_pos e,if_pos e]
  ·rw [if_neg e,if_neg e,if_neg (by omega)]
 rintro I M k x y w3 mm_ ⟨rfl,hk,z3,Bs,l,us,hz3,ho,hkr,hlk,hS3⟩ back
 clear hS2;obtain ⟨ax,cx,rfl,_⟩:=ho.form;refine V_run ?_;refine Cond_d (fun h=>?_) (fun h=>?_)
 ·have hlt:k < xs.length:=by omega
  obtain ⟨b,off,cs,rfl,hr,hat⟩:=hel _ _ (List.getElem?_eq_getElem hlt);obtain ⟨u,rfl,hu1⟩:=hone _ _ _ hr;haveI:InR (k:Int) xs.length:=⟨by omega,by omega⟩
  haveI:InI ((k:Int) + 1):=⟨by omega⟩
  intro K hK;refine V_run ?_;refine zV_ld1 (v:=u) (by have:=hat.mono hz3; rw [hE] at this; simpa using this) ?_;refine zV_lkS hm hz3 ?_;have hkl:=@keptI_len St k;refine Cond_b (fun e=>?_) (fun e=>?_)
  ·refine V_run ?_
   refine kU_mu (mk:=Value.int .i64) ?_;intro w4 hS4;haveI:CellsOf u [u]:=⟨by cases u <;> first | rfl | (cases hu1; done)⟩
   haveI:Ones [u]:=⟨fun v hv=>by simp at hv; subst hv; exact hu1⟩
   have hbb:((keptI St k).length + 1) * bytes <= 1000000 * 1000:=Nat.mul_le_mul (by omega) hbytes;refine V_push hS4 ho (by simp only [room]; omega) (by simp only [room]; omega) (by decide) ?_;intro B5 v5 w5 ho5 hS5;refine hK _ _ fun _=>?_
   refine V_run ?_;have hks:keptI St (k + 1) = keptI St k ++ [k]:=by rw [keptI_succ,if_pos e]
   refine back (k + 1) _ _ _ ⟨by simp,by omega,z3,B5,_,us ++ [u],hz3,by rw [hks,List.length_append]; exact ho5,⟨by rw [hks]; simp [hkr.len],fun v hv=>?_,fun j i hi=>?_⟩,fun n=>?_,hS5⟩ (by omega)
   ·rcases List.mem_append.1 hv with hv | hv
    ·exact hkr.one v hv
    ·simp at hv; subst hv; exact hu1
   ·rw [hks] at hi
    by_cases hj:j < (keptI St k).length
    ·rw [List.getElem?_append_left hj] at hi
     obtain ⟨u',x',g1,g2,g3⟩:=hkr.at_ j i hi;exact ⟨u',x',by rw [List.getElem?_append_left (List.getElem?_eq_some_iff.1 g1).1]; exact g1,g2,g3⟩
    ·have hj2:j = (keptI St k).length:=by
      have:=(List.getElem?_eq_some_iff.1 hi).1;simp at this; omega
     subst hj2;rw [List.getElem?_append_right (Nat.le_refl _),Nat.sub_self] at hi;simp at hi;subst hi;exact ⟨u,xs[k],by rw [List.getElem?_append_right (by rw [hkr.len]; exact Nat.le_refl _),hkr.len,Nat.sub_self]; rfl,List.getElem?_eq_getElem hlt,E.mono hr hz3⟩
   ·rw [getK_up,hlk n,posK,posK]
    by_cases e1:n = (k:Int)
    ·subst e1
     rw [if_pos rfl,if_neg (by omega),if_pos ⟨by omega,by omega,e⟩,Int.toNat_natCast]
    ·rw [if_neg e1]
     by_cases e2:n = -1
     ·rw [if_pos e2,if_pos e2]
     ·rw [if_neg e2,if_neg e2]
      by_cases e3:0 <= n/\n < k/\memK St n = true
      ·rw [if_pos e3,if_pos ⟨e3.1,by omega,e3.2.2⟩]
      ·rw [if_neg e3,if_neg (fun c=>e3 ⟨c.1,by omega,c.2.2⟩)]
  ·refine hK _ _ fun _=>?_
   refine V_run ?_;have hks:keptI St (k + 1) = keptI St k:=by rw [keptI_succ,if_neg (by rw [e]; simp),List.append_nil]
   refine back (k + 1) _ _ _ ⟨by simp,by omega,z3,Bs,l,us,hz3,by rw [hks]; exact ho,by rw [hks]; exact hkr,fun n=>?_,hS3⟩ (by omega);rw [hlk n,posK,posK]
   by_cases e2:n = -1
   ·rw [if_pos e2,if_pos e2]
   ·rw [if_neg e2,if_neg e2]
    by_cases e3:0 <= n/\n < k/\memK St n = true
    ·rw [if_pos e3,if_pos ⟨e3.1,by omega,e3.2.2⟩]
    ·rw [if_neg e3,if_neg (fun c=>e3 ⟨c.1,by
      have:n ≠ k:=fun c2=>by rw [c2,e] at c; simp at c
      omega,c.2.2⟩)]
 ·have hk2:k = xs.length:=by omega
  subst hk2;exact ⟨_,_,hS3,_,mp,Bs,l,us,rfl,rfl,ho,hkr,hlk⟩)
def vcClone (S:Nat) (R:Value->World->Prop) (w:World) (t0:Value):Prop:=
 V (eq .eql S (.tmp 3) (.const (.slice none 0 0)) t0 (.slice none 0 0)) w fun t4 w=>CondW t4
 (R (.slice none 0 0) w)
 (V (bs S 0 #[]) w fun t5 w=>V (Builtin.append_ #[S,S] S #[t5,t0]) w fun t7 w=>
 R t7 w)
theorem clone_of {α:Type} {E:El α} {S e n bytes fi:Nat} [g:TyApp S e n bytes] [gs:TySlice S e n] [gz:TyFill e n] (hE:E.size = n) (f:α->List Value) (hf:∀ z cs x,E.rel z cs x->cs = f x) (hr:∀ z z' cs x,E.rel z cs x->E.rel z' (f x) x) (hn:∀ x,(f x).length = n) (hone:∀ x,∀ u ∈ f x,isOne u = true) (hbytes:bytes <= 1000)
  (h1:∀ {R:Value->World->Prop} {w:World} {t0:Value},vcClone S R w t0->Calls Tryz.prog fi #[t0] w (retK R)) {z:Z} {w:World} {v:Value} {xs:List α} (hx:SlR E z v xs) (hb:xs.length <= 1000000):Fn1 fi #[v] z w fun z' r=>SlR E z' r xs:=Fn1.intro fun hS=>h1 (by
 unfold vcClone;have hx':=hx;obtain ⟨a,cap,rfl,hc,hbig,hel⟩:=hx;refine V_run ?_
 cases a with
 | none=>
  have:xs = []:=by
   by_cases hn:xs = []
   ·exact hn
   ·obtain ⟨b,off,h,_⟩:=hel hn; cases h
  subst this;refine Cond_t ?_;exact ⟨_,_,hS,SlR.nil⟩
 | some a=>
  refine Cond_f ?_;refine V_bs rfl (by omega) ?_;intro b w1 hb1 hS1
  by_cases hne:xs = []
  ·subst hne
   refine V_app0 (xs:=[]) (sp:=[]) hS1 (by simp) (by simp) (by omega) ?_;exact ⟨_,_,hS1,some ⟨b,0,none⟩,0,rfl,Nat.le_refl _,by simp,fun h=>absurd rfl h⟩
  ·obtain ⟨b',off,cap',hv,_,hat⟩:=hx'.all f (fun z cs x h=>hf z cs x h) hne
   cases hv
   have hpos:0 < xs.length:=List.length_pos_iff.2 hne;have hbb:(0 + xs.length) * bytes <= 1000000 * 1000:=Nat.mul_le_mul (by omega) hbytes;refine V_app (B:=[(b,.cells [].toArray e (0,0))]) (L:=[]) (n:=0) (xs:=[]) (news:=xs.flatMap f) hS1 ⟨by simp,.inr ⟨b,0,[],rfl,rfl,by omega,by simp [maxLen],by simp⟩⟩ (hat.world hS1.sub) (flat_len (f:=f) hn xs) (fun u hu=>?_) hpos (by simp only [room]; omega) (by simp only [room]; omega) ?_
   ·obtain ⟨x,_,hx⟩:=List.mem_flatMap.1 hu
    exact hone x u hx
   ·intro B2 v2 w2 ho2 hS2
    rw [Nat.zero_add,List.nil_append] at ho2;obtain ⟨z3,hz3,hS3,hv3⟩:=Res.freezeSl (E:=E) (e:=e) (f:=f) hS2 (by rw [hE]; exact ho2) hbig (fun x=>by rw [hn,hE]) (fun z' x hm=>by
     obtain ⟨j,hj⟩:=List.mem_iff_getElem?.1 hm;obtain ⟨b3,off3,_,h6⟩:=hel hne;obtain ⟨cs,h7,_⟩:=h6 j x hj;exact hr _ _ _ _ h7)
    exact ⟨_,_,hS3,hv3⟩)
theorem cloneParts {z:Z} {w:World} {v:Value} {xs:List PartM} (hx:SlR El.part z v xs) (hb:xs.length <= 1000000):Fn1 67 #[v] z w fun z' r=>SlR El.part z' r xs:=
 clone_of (E:=El.part) (n:=3) rfl PartM.cells (fun z cs x h=>h.1) (fun z z' cs x h=>⟨rfl,h.2⟩) (fun _=>rfl) (fun x u hu=>by simp only [PartM.cells,List.mem_cons,List.not_mem_nil,or_false] at hu; rcases hu with rfl | rfl | rfl <;> rfl) (by decide) (fun h=>en67 h) hx hb
theorem cloneItems {z:Z} {w:World} {v:Value} {xs:List ItemM} (hx:SlR El.item z v xs) (hb:xs.length <= 1000000):Fn1 68 #[v] z w fun z' r=>SlR El.item z' r xs:=
 clone_of (E:=El.item) (n:=2) rfl ItemM.cells (fun z cs x h=>h.1) (fun z z' cs x h=>⟨rfl,h.2⟩) (fun _=>rfl) (fun x u hu=>by simp only [ItemM.cells,List.mem_cons,List.not_mem_nil,or_false] at hu; rcases hu with rfl | rfl <;> rfl) (by decide) (fun h=>en68 h) hx hb
theorem cloneStrs {z:Z} {w:World} {v:Value} {xs:List ByteArray} (hx:SlR El.str z v xs) (hb:xs.length <= 1000000):Fn1 69 #[v] z w fun z' r=>SlR El.str z' r xs:=
 clone_of (E:=El.str) (n:=1) rfl (fun x=>[.string x]) (fun z cs x h=>h.1) (fun z z' cs x h=>⟨rfl,h.2⟩) (fun _=>rfl) (fun x u hu=>by simp only [List.mem_cons,List.not_mem_nil,or_false] at hu; subst hu; rfl) (by decide) (fun h=>en69 h) hx hb
theorem siftStrs {z:Z} {w:World} {v:Value} {xs:List ByteArray} {m:Nat} {St:List Int} (hx:SlR El.str z v xs) (hm:z m = some (mK (Value.int .i64) (setK St))) (hl:xs.length <= 1000000) :
  Fn 63 #[v,.map (some m)] z [] w fun z' B' r=>∃ sl mp Bs l us,r = .tuple #[sl,.map (some mp)]/\B' = Bs ++ [(mp,mK (Value.int .i64) l)]/\OwnSl 9 1 Bs sl (keptI St xs.length).length us/\KeptR El.str z' xs (keptI St xs.length) us/\∀ n,getK l n = posK St xs.length n:=
 sift_ok (E:=El.str) rfl (fun z cs x h=>⟨_,h.1,rfl⟩) (by decide) (fun h=>en63 h) hx hm hl
theorem siftTmpls {z:Z} {w:World} {v:Value} {xs:List (List PartM)} {m:Nat} {St:List Int} (hx:SlR (El.sl El.part) z v xs) (hm:z m = some (mK (Value.int .i64) (setK St))) (hl:xs.length <= 1000000) :
  Fn 64 #[v,.map (some m)] z [] w fun z' B' r=>∃ sl mp Bs l us,r = .tuple #[sl,.map (some mp)]/\B' = Bs ++ [(mp,mK (Value.int .i64) l)]/\OwnSl 93 1 Bs sl (keptI St xs.length).length us/\KeptR (El.sl El.part) z' xs (keptI St xs.length) us/\∀ n,getK l n = posK St xs.length n:=
 sift_ok (E:=El.sl El.part) rfl (fun z cs x h=>by
  obtain ⟨v,rfl,hv⟩:=h;obtain ⟨_,a,k,rfl,_,_⟩:=hv.form;exact ⟨_,rfl,rfl⟩) (by decide) (fun h=>en64 h) hx hm hl
theorem siftLists {z:Z} {w:World} {v:Value} {xs:List (List ItemM)} {m:Nat} {St:List Int} (hx:SlR (El.sl El.item) z v xs) (hm:z m = some (mK (Value.int .i64) (setK St))) (hl:xs.length <= 1000000) :
  Fn 65 #[v,.map (some m)] z [] w fun z' B' r=>∃ sl mp Bs l us,r = .tuple #[sl,.map (some mp)]/\B' = Bs ++ [(mp,mK (Value.int .i64) l)]/\OwnSl 96 1 Bs sl (keptI St xs.length).length us/\KeptR (El.sl El.item) z' xs (keptI St xs.length) us/\∀ n,getK l n = posK St xs.length n:=
 sift_ok (E:=El.sl El.item) rfl (fun z cs x h=>by
  obtain ⟨v,rfl,hv⟩:=h;obtain ⟨_,a,k,rfl,_,_⟩:=hv.form;exact ⟨_,rfl,rfl⟩) (by decide) (fun h=>en65 h) hx hm hl
end
section
open Go Q Go.RowKit
def rcAt (c:CodeM) (i:Nat):Bool:=(reachM c).getD i false
def rK (c:CodeM) (k:Nat):List Nat:=(List.range k).filter (rcAt c)
theorem rK_succ {c:CodeM} {k:Nat}:rK c (k + 1) = rK c k ++ (if rcAt c k = true then [k] else []):=by
 unfold rK;rw [List.range_succ,List.filter_append]
 cases h:rcAt c k <;> simp [h]
theorem rK_len {c:CodeM} {k:Nat}:(rK c k).length <= k:=by
 have:=List.length_filter_le (rcAt c) (List.range k);rw [List.length_range] at this; exact this
def newAt (c:CodeM) (i:Nat):Int:=if rcAt c i = true then ((rK c i).length:Int) else -1
def atV (c:CodeM) (k:Nat):List Value:=(List.range k).map (fun i=>Value.int .i64 (newAt c i)) ++ List.replicate (c.ins.length - k) (.int .i64 0)
theorem atV_len {c:CodeM} {k:Nat} (h:k <= c.ins.length):(atV c k).length = c.ins.length:=by simp [atV]; omega
theorem atV_set {c:CodeM} {k:Nat} (h:k < c.ins.length):(atV c k).set k (.int .i64 (newAt c k)) = atV c (k + 1):=by
 unfold atV;have hl:((List.range k).map (fun i=>Value.int .i64 (newAt c i))).length = k:=by simp
 rw [List.set_append_right _ _ (by omega),hl,Nat.sub_self,show c.ins.length - k = (c.ins.length - (k + 1)) + 1 by omega,List.replicate_succ,List.set_cons_zero,List.range_succ,List.map_append,List.append_assoc]
 rfl
def atM (c:CodeM):List Int:=(List.range c.ins.length).map (newAt c)
theorem atV_end {c:CodeM}:atV c c.ins.length = (atM c).flatMap fun x=>[Value.int .i64 x]:=by
 unfold atV atM;simp only [Nat.sub_self,List.replicate_zero,List.append_nil];generalize List.range c.ins.length = l
 induction l with
 | nil=>rfl
 | cons a l ih=>simp only [List.map_cons,List.flatMap_cons,ih]; rfl
structure UsM where
 s1:List Int
 s2:List Int
 s3:List Int
def markU (u:UsM) (kind n:Int):UsM:=if clsM kind = 1 then ⟨insK u.s1 n,u.s2,u.s3⟩ else if clsM kind = 2 then ⟨u.s1,insK u.s2 n,u.s3⟩ else if clsM kind = 3 then ⟨u.s1,u.s2,insK u.s3 n⟩ else u
def fldM (i:InsM) (k:Int):Int:=if k = 0 then i.a else if k = 1 then i.b else i.c
def markK (i:InsM) (k:Nat) (u:UsM):UsM:=(List.range k).foldl (fun u (j:Nat)=>markU u (kindM i j) (fldM i j)) u
theorem markK_succ {i:InsM} {k:Nat} {u:UsM}:markK i (k + 1) u = markU (markK i k u) (kindM i k) (fldM i k):=by
 unfold markK; rw [List.range_succ,List.foldl_append]; rfl
def usesK (c:CodeM) (k:Nat):UsM:=(rK c k).foldl (fun u j=>markK (insAt c j) 3 u) ⟨[],[],[]⟩
theorem usesK_succ {c:CodeM} {k:Nat}:usesK c (k + 1) = if rcAt c k = true then markK (insAt c k) 3 (usesK c k) else usesK c k:=by
 unfold usesK;rw [rK_succ,List.foldl_append]
 cases rcAt c k <;> rfl
def usesM (c:CodeM):UsM:=usesK c c.ins.length
def posM (S:List Int) (n:Nat) (i:Int):Int:=if i = -1 then -1 else if 0 <= i/\i < n/\memK S i = true then ((keptI S i.toNat).length:Int) else 0
theorem posK_get {S:List Int} {n:Nat} {i:Int}:(posK S n i).getD (.int .i64 0) = .int .i64 (posM S n i):=by
 unfold posK posM
 split
 ·rfl
 ·split <;> rfl
def renewM (c:CodeM) (kind n:Int):Int:=
 if kind = 13 then (atM c).getD n.toNat 0 else if kind = 10 then posM (usesM c).s2 c.tmpls.length n else if kind = 11 \/ kind = 12 then posM (usesM c).s3 c.lists.length n else if clsM kind = 1 then posM (usesM c).s1 c.consts.length n else n
def setFld (i:InsM) (k n:Int):InsM:=if k = 0 then { i with a:=n } else if k = 1 then { i with b:=n } else { i with c:=n }
def renewK (c:CodeM) (i:InsM) (k:Nat):InsM:=(List.range k).foldl (fun i (j:Nat)=>setFld i j (renewM c (kindM i j) (fldM i j))) i
theorem renewK_succ {c:CodeM} {i:InsM} {k:Nat}:renewK c i (k + 1) = setFld (renewK c i k) k (renewM c (kindM (renewK c i k) k) (fldM (renewK c i k) k)):=by
 unfold renewK; rw [List.range_succ,List.foldl_append]; rfl
def newIns (c:CodeM) (i:InsM):InsM:=renewK c i 3
def pickK {α:Type} (xs:List α) (ks:List Nat):List α:=ks.filterMap fun i=>xs[i]?
def trimOk (c:CodeM):CodeM where
 consts:=pickK c.consts (keptI (usesM c).s1 c.consts.length)
 tmpls:=pickK c.tmpls (keptI (usesM c).s2 c.tmpls.length)
 lists:=pickK c.lists (keptI (usesM c).s3 c.lists.length)
 labels:=c.labels.map fun s=>⟨s.name,(atM c).getD s.at_.toNat 0⟩
 slots:=c.slots
 ins:=(rK c c.ins.length).map fun j=>newIns c (insAt c j)
def noCode:CodeM:=⟨[],[],[],[],[],[]⟩
def trimM (c:CodeM):CodeM:=if (checkM c).1 = 0 then trimOk c else noCode
def trimAt (c:CodeM):List Int:=if (checkM c).1 = 0 then atM c else []
theorem reach_len {c:CodeM}:∀ (f:Nat) (r:RcM),(∀ a ∈ r.open_,a < r.set.length)->r.set.length = c.ins.length->(runR c f r).length = c.ins.length
 | 0,r,_,h=>h
 | f + 1,r,ho,h=>by
  unfold runR
  cases hl:r.open_.getLast? with
  | none=>exact h
  | some a=>
   simp only;have hlen:(stepR c ⟨r.set,r.open_.dropLast⟩ a).set.length = c.ins.length:=by unfold stepR; split <;> simp [h]
   refine reach_len f _ (fun x hx=>?_) hlen;rw [hlen];unfold stepR at hx
   split at hx
   ·have:=ho x (List.dropLast_subset _ hx); omega
   ·rcases List.mem_append.1 hx with hx | hx
    ·have:=ho x (List.dropLast_subset _ hx); omega
    ·exact toL_lt x hx
theorem reachM_len {c:CodeM} (h:reachBad c = false):(reachM c).length = c.ins.length:=by
 rw [reachM,if_neg (by rw [h]; simp)];have hpos:0 < c.ins.length:=by
  rw [reachBad] at h;simp only [Bool.or_eq_false_iff,decide_eq_false_iff_not] at h;omega
 refine reach_len _ _ (fun a ha=>?_) (by simp);simp only [List.length_replicate];exact rootsM_lt hpos a ha
theorem reachBad_ok {c:CodeM} (h1:limitsM c = true) (h2:partsM c = true):reachBad c = false:=by
 have:=limits_bd h1;have:=parts_pos h2;rw [reachBad];simp only [Bool.or_eq_false_iff,decide_eq_false_iff_not];omega
theorem labs_in {n:Nat}:∀ {l:List SpotM} {last:Int},0 <= last->(allS (labS n) last l).1 = true->∀ s ∈ l,0 <= s.at_/\s.at_ < n
 | [],_,_,_,s,hs=>by cases hs
 | x :: l,last,h0,h,s,hs=>by
  rw [allS_cons,show labS n last x = ((labS n last x).1,(labS n last x).2) from rfl] at h
  cases hx:(labS n last x).1 with
  | false=>rw [hx] at h; cases h
  | true=>
   rw [hx] at h;simp only [labS,Bool.and_eq_true] at hx;have hin:=inB_iff.1 hx.2
   rcases List.mem_cons.1 hs with rfl | hs
   ·omega
   ·exact labs_in (last:=(labS n last x).2) (by simp only [labS]; omega) h s hs
theorem labels_in {c:CodeM} (h:partsM c = true):∀ s ∈ c.labels,0 <= s.at_/\s.at_ < c.ins.length:=by
 unfold partsM at h;simp only [Bool.and_eq_true] at h;exact labs_in (by decide) h.2.2.2.2.1
theorem place_in {c:CodeM} {i i':InsM} {k:Int} (h:rightM c i = true) (ho:i'.op = i.op) (h0:k = 0 \/ k = 1 \/ k = 2) (hk:kindM i' k = 13):0 <= fldM i k/\fldM i k < c.ins.length:=by
 unfold rightM at h;simp only [Bool.and_eq_true] at h;have key:∀ n,goodM c 13 n = true->0 <= n/\n < c.ins.length:=fun n hn=>by
  have:goodM c 13 n = inB n 0 ((c.ins.length:Int) - 1):=by simp [goodM]
  rw [this] at hn;have:=inB_iff.1 hn;omega
 unfold kindM at hk;rw [ho] at hk
 split at hk
 ·cases hk
 split at hk
 ·cases hk
 rcases h0 with rfl | rfl | rfl
 ·rw [if_pos rfl] at hk; rw [hk] at h; exact key _ h.2.1
 ·rw [if_neg (by decide),if_pos rfl] at hk; rw [hk] at h; exact key _ h.2.2.1
 ·rw [if_neg (by decide),if_neg (by decide)] at hk; rw [hk] at h; exact key _ h.2.2.2.1
end
end Go.Proofs.YtbeelfopmkbllaaGreatDoor
