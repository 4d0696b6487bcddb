/- Texts joined: E17, E18, E19, E20, E21, C80, C81, C82, C83, C84, C85, C86, C89, C90, C87, C88, C91, C92, C47, C64, C65, C93, E22, K1, K2, K3. -/
import Derived.Test.YtbeelfopmkbllaaGreatDoorM6
import Derived.Test.YtbeelfopmkbllaaGreatDoorM5
import Derived.Test.YtbeelfopmkbllaaGreatDoorRows
import Derived.WalkKit
import Derived.ProofKit
import Derived.OpenShut
import Derived.Carry
import Derived.Deep.Slices
import Derived.ChangeMaps5
import Derived.LaidMore
import Derived.Lay
set_option linter.unusedSimpArgs false
set_option linter.unusedVariables false
set_option linter.unusedSectionVars false
set_option maxHeartbeats 4000000
set_option maxRecDepth 100000
set_option synthInstance.maxHeartbeats 4000000
set_option synthInstance.maxSize 20000
namespace Go.Proofs.YtbeelfopmkbllaaGreatDoor
section
open Go Q Go.RowKit
theorem exp_head {s:ByteArray} (h:expB s = true):inB (bt s 0) 48 57 = true \/ bt s 0 = 46:=by
 unfold expB at h;simp only [Bool.and_eq_true] at h;have hd:=h.2.2.2.2.1;unfold digitsB at hd;simp only [Bool.and_eq_true,Bool.not_eq_true',decide_eq_false_iff_not,List.all_eq_true] at hd;have e1:bytes (replB (headE s) 46 ⟨#[]⟩ 1) = replL 46 [] (replK (headE s) 46 1) (bytes (headE s)):=by rw [replB,bytes_mk]
 have e2:bytes (headE s) = (bytes s).take (cutAt s 69).toNat:=by rw [headE,bytes_extract]; simp
 cases hb:bytes s with
 | nil=>
  rw [hb,List.take_nil] at e2;rw [e2] at e1;have:bytes (replB (headE s) 46 ⟨#[]⟩ 1) = []:=by rw [e1]; cases replK (headE s) 46 1 <;> rfl
  exact absurd (ba_inj this) hd.1
 | cons c l=>
  have hc:bt s 0 = (c.toNat:Int):=bt_get (k:=0) (by rw [hb]; rfl);rw [hc]
  cases hk:(cutAt s 69).toNat with
  | zero=>
   rw [hk,List.take_zero] at e2;rw [e2] at e1;have:bytes (replB (headE s) 46 ⟨#[]⟩ 1) = []:=by rw [e1]; cases replK (headE s) 46 1 <;> rfl
   exact absurd (ba_inj this) hd.1
  | succ k=>
   rw [hk,hb,List.take_succ_cons] at e2
   by_cases h46:c = 46
   ·subst h46; exact .inr rfl
   ·left
    have:c ∈ bytes (replB (headE s) 46 ⟨#[]⟩ 1):=by
     rw [e1,e2]
     cases replK (headE s) 46 1 with
     | zero=>rw [replL_zero]; exact List.mem_cons_self
     | succ j=>rw [replL,if_neg h46]; exact List.mem_cons_self
    exact hd.2 c this
theorem sym_bytes {s:ByteArray} (h:symKind s > 1):bytes s ≠ []/\∀ c ∈ bytes s,symC c = true:=by
 unfold symKind at h
 split at h
 ·omega
 ·rename_i h1
  split at h
  ·omega
  ·rename_i h2
   simp only [Bool.or_eq_true,Bool.and_eq_true,Bool.not_eq_true',not_or,not_and,decide_eq_true_eq] at h1 h2;have h3:inB s.size 1 40 = true:=by simpa using h1.1
   refine ⟨fun e=>?_,?_⟩
   ·rw [size_bytes,e] at h3; revert h3; decide
   ·cases ha:(bytes s).all symC with
    | true=>exact List.all_eq_true.1 ha
    | false=>
     have:=h1.2 ha;have he:expB s = true:=by simpa using this
     rcases exp_head he with h | h
     ·exact absurd h h2.1
     ·exact absurd h h2.2
theorem symC_no {c:UInt8} (h:symC c = true):c ≠ 32/\c ≠ 34/\c ≠ 40/\c ≠ 10:=by
 refine ⟨?_,?_,?_,?_⟩ <;> rintro rfl <;> revert h <;> decide
def NoNl (s:ByteArray):Prop:=10 ∉ bytes s
theorem sym_word {s:ByteArray} (h:symKind s > 1) (b:Bool):GoodW b ⟨s,false⟩/\NoNl s:=by
 obtain ⟨h1,h2⟩:=sym_bytes h;refine ⟨?_,fun h10=>(symC_no (h2 _ h10)).2.2.2 rfl⟩;unfold GoodW;rw [if_neg Bool.false_ne_true];refine ⟨h1,fun h32=>(symC_no (h2 _ h32)).1 rfl,.inr fun e=>?_⟩
 cases hb:bytes s with
 | nil=>exact h1 hb
 | cons c l=>
  rw [hb] at e h2;simp only [List.head?_cons,Option.some.injEq] at e;exact (symC_no (h2 c List.mem_cons_self)).2.1 e
theorem valid_nl {s:ByteArray} (h:validB s = true):NoNl s:=by
 unfold validB at h;simp only [Bool.and_eq_true,List.all_eq_true] at h;intro h10;have:=h.2 10 h10
 revert this
 decide
theorem num_word (n:Int) (b:Bool):GoodW b ⟨itoaB n,false⟩/\NoNl (itoaB n):=by
 have h:=itoa_bare n;refine ⟨?_,fun h10=>(h 10 h10).1.2 rfl⟩;unfold GoodW;rw [if_neg Bool.false_ne_true];refine ⟨itoa_ne n,fun h32=>(h 32 h32).1.1 rfl,.inr fun e=>?_⟩
 cases hb:Lib.itoa n with
 | nil=>exact itoa_ne n hb
 | cons c l=>
  rw [bytes_itoaB,hb] at e;rw [hb] at h;simp only [List.head?_cons,Option.some.injEq] at e;exact (h c List.mem_cons_self).2 e
theorem lit_word (s:ByteArray):GoodW false ⟨s,true⟩:=by unfold GoodW; rw [if_pos rfl]
theorem escL_nl {l:List UInt8} (h:10 ∉ l):10 ∉ escL l:=by
 intro h10;obtain ⟨c,hc,h2⟩:=List.mem_flatMap.1 h10
 split at h2
 ·revert h2; decide
 ·rw [List.mem_singleton] at h2; exact h (h2 ▸ hc)
theorem prW_nl {w:WordM} (h:NoNl w.s):NoNl (prW w):=by
 unfold prW
 split
 ·unfold NoNl
  rw [bytes_quoted];intro h10
  rcases List.mem_cons.1 h10 with h1 | h1
  ·revert h1; decide
  ·rcases List.mem_append.1 h1 with h1 | h1
   ·exact escL_nl h h1
   ·revert h1; decide
 ·exact h
theorem joinW_nl:∀ {l:List ByteArray},(∀ x ∈ l,NoNl x)->10 ∉ joinW l
 | [],_=>by simp [joinW]
 | x :: l,h=>by
  rw [joinW];intro h10
  rcases List.mem_append.1 h10 with h1 | h1
  ·exact h x List.mem_cons_self h1
  ·obtain ⟨y,hy,h2⟩:=List.mem_flatMap.1 h1
   rcases List.mem_cons.1 h2 with h2 | h2
   ·revert h2; decide
   ·exact h y (List.mem_cons_of_mem _ hy) h2
def moreW (ws:List WordM):List UInt8:=ws.flatMap fun w=>32 :: bytes (prW w)
theorem joinW_more (w:WordM) (ws:List WordM):joinW ((w :: ws).map prW) = bytes (prW w) ++ moreW ws:=by
 rw [List.map_cons,joinW,List.flatMap_map]; rfl
theorem moreW_app (a b:List WordM):moreW (a ++ b) = moreW a ++ moreW b:=List.flatMap_append
theorem fold_more {α:Type} {f:ByteArray->α->ByteArray} {g:α->List WordM} (h:∀ s x,bytes (f s x) = bytes s ++ moreW (g x)):∀ (l:List α) (s:ByteArray),bytes (l.foldl f s) = bytes s ++ moreW (l.flatMap g)
 | [],s=>by simp [moreW]
 | x :: l,s=>by rw [List.foldl_cons,fold_more h l,h,List.flatMap_cons,moreW_app,List.append_assoc]
structure LineOf (s:ByteArray) (ws:List WordM):Prop where
 eq:bytes s = joinW (ws.map prW)
 ne:ws ≠ []
 good:∀ w ∈ ws,GoodW (bareB s) w/\NoNl w.s
theorem LineOf.words {s:ByteArray} {ws:List WordM} (h:LineOf s ws):wordsL s = some ws:=wordsL_print h.ne (fun w hw=>(h.good w hw).1) h.eq
theorem LineOf.nl {s:ByteArray} {ws:List WordM} (h:LineOf s ws):10 ∉ bytes s:=by
 rw [h.eq];refine joinW_nl fun x hx=>?_
 obtain ⟨w,hw,rfl⟩:=List.mem_map.1 hx;exact prW_nl (h.good w hw).2
theorem LineOf.plain {s t:ByteArray} {ws:List WordM} (he:bytes s = bytes t ++ moreW ws) (h1:bytes t ≠ []/\32 ∉ bytes t) (h2:(bytes t).head? ≠ some 34) (h3:10 ∉ bytes t) (h4:bytes t ≠ [108,105,115,116]) (h5:bytes t ≠ [110,97,109,101]) (hw:∀ w ∈ ws,GoodW false w/\NoNl w.s):LineOf s (⟨t,false⟩ :: ws):=by
 have he':bytes s = joinW ((⟨t,false⟩ :: ws:List WordM).map prW):=by rw [joinW_more,he]; rfl
 have hb:bareB s = false:=bareB_no (w:=⟨t,false⟩) h1 rfl he' h4 h5;refine ⟨he',by simp,?_⟩;rw [hb];intro w hm
 rcases List.mem_cons.1 hm with rfl | hm
 ·refine ⟨?_,h3⟩
  unfold GoodW;rw [if_neg Bool.false_ne_true];exact ⟨h1.1,h1.2,.inr h2⟩
 ·exact hw w hm
end
section
open Go Q Go.RowKit
theorem bytes_joinB (l:List ByteArray):bytes (joinB l) = joinW l:=by rw [joinB,bytes_mk]
def constWs (s:ByteArray):List WordM:=[⟨s,true⟩]
theorem const_line {s:ByteArray} (h:NoNl s):LineOf (constT s) (⟨wText,false⟩ :: constWs s):=
 LineOf.plain (by rw [constT,bytes_joinB]; simp [joinW,moreW,constWs,prW,wText]) (by decide) (by decide) (by decide) (by decide) (by decide) (by simp only [constWs,List.mem_singleton,forall_eq]; exact ⟨lit_word s,h⟩)
def tmplWs (p:PartM):List WordM:=[⟨itoaB p.kind,false⟩,⟨p.text,true⟩,⟨itoaB p.n,false⟩]
theorem tmpl_line {l:List PartM} (h:∀ p ∈ l,NoNl p.text):LineOf (tmplT l) (⟨wTmpl,false⟩ :: l.flatMap tmplWs):=
 LineOf.plain (by
  rw [tmplT,fold_more (g:=tmplWs) fun s x=>by rw [tmplStep,bytes_joinB]; simp [joinW,moreW,tmplWs,prW]]
  rfl) (by decide) (by decide) (by decide) (by decide) (by decide) (by
  intro w hw;obtain ⟨p,hp,hw⟩:=List.mem_flatMap.1 hw;simp only [tmplWs,List.mem_cons,List.not_mem_nil,or_false] at hw
  rcases hw with rfl | rfl | rfl
  ·exact num_word _ _
  ·exact ⟨lit_word _,h p hp⟩
  ·exact num_word _ _)
def itemT (x:ItemM):ByteArray:=if x.via = true then b1 40 ++ x.name ++ b1 41 else x.name
def listWs (x:ItemM):List WordM:=[⟨itemT x,false⟩]
theorem item_word {x:ItemM} (h:symKind x.name > 1) (b:Bool):GoodW b ⟨itemT x,false⟩/\NoNl (itemT x):=by
 unfold itemT
 split
 ·obtain ⟨h1,h2⟩:=sym_bytes h
  have e:bytes (b1 40 ++ x.name ++ b1 41) = 40 :: (bytes x.name ++ [41]):=by rw [bytes_add,bytes_add]; rfl
  refine ⟨?_,?_⟩
  ·unfold GoodW
   rw [if_neg Bool.false_ne_true];simp only [e];refine ⟨by simp,?_,.inr (by simp)⟩;intro h32;simp only [List.mem_cons,List.mem_append,List.not_mem_nil,or_false] at h32
   rcases h32 with h | h | h
   ·revert h; decide
   ·exact (symC_no (h2 _ h)).1 rfl
   ·revert h; decide
  ·unfold NoNl
   rw [e];intro h32;simp only [List.mem_cons,List.mem_append,List.not_mem_nil,or_false] at h32
   rcases h32 with h | h | h
   ·revert h; decide
   ·exact (symC_no (h2 _ h)).2.2.2 rfl
   ·revert h; decide
 ·exact sym_word h b
theorem list_line {l:List ItemM} (h:∀ x ∈ l,symKind x.name > 1):LineOf (listT l) (⟨wList,false⟩ :: l.flatMap listWs):=by
 have e:bytes (listT l) = joinW ((⟨wList,false⟩ :: l.flatMap listWs:List WordM).map prW):=by
  rw [listT,fold_more (g:=listWs) fun s x=>by rw [listStep,bytes_joinB]; simp [joinW,moreW,listWs,prW,itemT],joinW_more]
  rfl
 refine ⟨e,by simp,fun w hw=>?_⟩
 rcases List.mem_cons.1 hw with rfl | hw
 ·refine ⟨?_,by unfold NoNl; decide⟩
  unfold GoodW;rw [if_neg Bool.false_ne_true];exact ⟨by decide,by decide,.inr (by decide)⟩
 ·obtain ⟨x,hx,hw⟩:=List.mem_flatMap.1 hw
  simp only [listWs,List.mem_singleton] at hw;subst hw;exact item_word (h x hx) _
def labelWs (s:SpotM):List WordM:=[⟨itoaB s.at_,false⟩,⟨s.name,true⟩]
theorem label_line {s:SpotM} (h:NoNl s.name):LineOf (labelT s) (⟨wLabel,false⟩ :: labelWs s):=
 LineOf.plain (by rw [labelT,bytes_joinB]; simp [joinW,moreW,labelWs,prW,wLabel]) (by decide) (by decide) (by decide) (by decide) (by decide) (by
  intro w hw;simp only [labelWs,List.mem_cons,List.not_mem_nil,or_false] at hw
  rcases hw with rfl | rfl
  ·exact num_word _ _
  ·exact ⟨lit_word _,h⟩)
theorem name_line {s:ByteArray} (h:symKind s > 1):LineOf (nameT s) [⟨wName,false⟩,⟨s,false⟩]:=by
 have e:bytes (nameT s) = joinW (([⟨wName,false⟩,⟨s,false⟩]:List WordM).map prW):=by
  rw [nameT,bytes_joinB]; rfl
 refine ⟨e,by simp,fun w hw=>?_⟩
 rcases List.mem_cons.1 hw with rfl | hw
 ·refine ⟨?_,by unfold NoNl; decide⟩
  unfold GoodW;rw [if_neg Bool.false_ne_true];exact ⟨by decide,by decide,.inr (by decide)⟩
 ·rw [List.mem_singleton] at hw
  subst hw;exact sym_word h _
theorem opWord {n:Int} (h1:1 <= n) (h2:n <= 46):(bytes (formAt n).name ≠ []/\32 ∉ bytes (formAt n).name)/\(bytes (formAt n).name).head? ≠ some 34/\10 ∉ bytes (formAt n).name/\kindS (formAt n).name = 5/\opFrom (formAt n).name formL 0 = some n.toNat:=by
 have h:∀ k:Fin 47,0 < k.val->(bytes (formAt (k.val:Int)).name ≠ []/\32 ∉ bytes (formAt (k.val:Int)).name)/\(bytes (formAt (k.val:Int)).name).head? ≠ some 34/\10 ∉ bytes (formAt (k.val:Int)).name/\kindS (formAt (k.val:Int)).name = 5/\opFrom (formAt (k.val:Int)).name formL 0 = some k.val:=by decide +kernel
 have:=h ⟨n.toNat,by omega⟩ (by show 0 < n.toNat; omega);rw [show ((n.toNat:Nat):Int) = n by omega] at this;exact this
def insWs (i:InsM):List WordM:=(insW3 i).map fun n=>⟨itoaB n,false⟩
theorem ins_line {i:InsM} (h1:1 <= i.op) (h2:i.op <= 46):LineOf (insT i) (⟨(formAt i.op).name,false⟩ :: insWs i):=by
 obtain ⟨w1,w2,w3,w4,w5⟩:=opWord h1 h2;refine LineOf.plain ?_ w1 w2 w3 ?_ ?_ ?_
 ·rw [insT,fold_more (g:=fun n=>[⟨itoaB n,false⟩]) fun s x=>by rw [wordStep,bytes_joinB]; simp [joinW,moreW,prW]]
  rw [insWs,<- List.map_eq_flatMap]
 ·intro e
  rw [ba_inj (b:=wList) e] at w4
  revert w4
  decide
 ·intro e
  rw [ba_inj (b:=wName) e] at w4
  revert w4
  decide
 ·intro w hw
  obtain ⟨n,_,rfl⟩:=List.mem_map.1 hw;exact num_word _ _
end
section
open Go Q Go.RowKit
theorem preB_b1 (s:ByteArray) (d:UInt8):preB s (b1 d) = decide ((bytes s).head? = some d):=by
 unfold preB;have h1:(b1 d).size = 1:=rfl;rw [h1]
 cases hb:bytes s with
 | nil=>
  have:s.size = 0:=by rw [size_bytes,hb]; rfl
  rw [this]
  rfl
 | cons c l=>
  have hsz:s.size = l.length + 1:=by rw [size_bytes,hb]; rfl
  rw [decide_eq_true (by omega:(s.size:Int) ≥ ((1:Nat):Int)),cond_true];have he:bytes (s.extract 0 1) = [c]:=by rw [bytes_extract,hb]; rfl
  rw [decide_eq_decide];constructor
  ·intro e
   rw [e] at he;have:[d] = [c]:=he;rw [(List.cons.inj this).1]; rfl
  ·intro e
   simp only [List.head?_cons,Option.some.injEq] at e;exact ba_inj (by rw [he,e])
theorem item_back {x:ItemM} (h:symKind x.name > 1):itemOfW ⟨itemT x,false⟩ = x:=by
 obtain ⟨h1,h2⟩:=sym_bytes h;obtain ⟨nm,via⟩:=x;unfold itemOfW;rw [preB_b1]
 cases via with
 | true=>
  have e:bytes (itemT ⟨nm,true⟩) = 40 :: (bytes nm ++ [41]):=by unfold itemT; rw [if_pos rfl,bytes_add,bytes_add]; rfl
  have e2:bytes ((itemT ⟨nm,true⟩).extract 1 (itemT ⟨nm,true⟩).size) = bytes nm ++ [41]:=by rw [bytes_from,e]; rfl
  have e3:lastB ((itemT ⟨nm,true⟩).extract 1 (itemT ⟨nm,true⟩).size) 41 = true:=by unfold lastB; rw [e2]; simp
  rw [if_pos ⟨by rw [e]; rfl,e3⟩];simp only [ItemM.mk.injEq,and_true]
  apply ba_inj
  rw [bytes_extract,e2,size_bytes,e2];simp
 | false=>
  have e:itemT ⟨nm,false⟩ = nm:=rfl;rw [e,if_neg];rintro ⟨h3,_⟩
  have h3:=of_decide_eq_true h3
  cases hb:bytes nm with
  | nil=>exact h1 hb
  | cons c l=>
   rw [hb] at h3 h2;simp only [List.head?_cons,Option.some.injEq] at h3;exact (symC_no (h2 c List.mem_cons_self)).2.2.1 h3
theorem listW_back:∀ {l:List ItemM},(∀ x ∈ l,symKind x.name > 1)->listW (l.flatMap listWs) = some l
 | [],_=>rfl
 | x :: l,h=>by
  rw [List.flatMap_cons]
  show listW (⟨itemT x,false⟩ :: l.flatMap listWs) = _
  rw [listW,if_neg Bool.false_ne_true,listW_back fun y hy=>h y (List.mem_cons_of_mem _ hy),item_back (h x List.mem_cons_self)]
  rfl
def Num9 (n:Int):Prop:=-1000000000 <= n/\n <= 1000000000
theorem tmplW_back:∀ {l:List PartM},(∀ p ∈ l,Num9 p.kind/\Num9 p.n)->tmplW (l.flatMap tmplWs) = some l
 | [],_=>rfl
 | x :: l,h=>by
  have hx:=h x List.mem_cons_self;rw [List.flatMap_cons]
  show tmplW (⟨itoaB x.kind,false⟩ :: ⟨x.text,true⟩ :: ⟨itoaB x.n,false⟩ :: l.flatMap tmplWs) = _
  rw [tmplW,numW_itoa hx.1.1 hx.1.2,numW_itoa hx.2.1 hx.2.2];simp only [if_true];rw [tmplW_back fun y hy=>h y (List.mem_cons_of_mem _ hy)]
  rfl
theorem numsW_back:∀ {l:List Int},(∀ n ∈ l,Num9 n)->numsW (l.map fun n=>⟨itoaB n,false⟩) = some l
 | [],_=>rfl
 | x :: l,h=>by
  have hx:=h x List.mem_cons_self;rw [List.map_cons,numsW,numW_itoa hx.1 hx.2];simp only;rw [numsW_back fun y hy=>h y (List.mem_cons_of_mem _ hy)]
  rfl
theorem insW3_get (i:InsM):(insW3 i).getD 0 0 = i.a/\(insW3 i).getD 1 0 = i.b/\(insW3 i).getD 2 0 = i.c/\(insW3 i).length <= 3:=by
 obtain ⟨op,a,b,c⟩:=i;simp only [insW3,stripK,List.getD_cons_zero,List.getD_cons_succ];(repeat' split) <;> simp_all
theorem insOf_back {i:InsM} (h1:1 <= i.op) (h2:i.op <= 46) (ha:Num9 i.a) (hb:Num9 i.b) (hc:Num9 i.c):insOfW (formAt i.op).name (insWs i) = some i:=by
 obtain ⟨e1,e2,e3,e4⟩:=insW3_get i;unfold insOfW;rw [if_neg (by rw [insWs,List.length_map]; omega),insWs,numsW_back (by
  intro n hn;have:=List.mem_of_mem_take hn;simp only [List.mem_cons,List.not_mem_nil,or_false] at this
  rcases this with rfl | rfl | rfl <;> assumption)]
 simp only;rw [(opWord h1 h2).2.2.2.2];simp only [e1,e2,e3];obtain ⟨op,a,b,c⟩:=i;simp only [Option.some.injEq,InsM.mk.injEq,and_true];simp only at h1;omega
theorem line_const {c:CodeM} {kind:Int} {s:ByteArray} (hk:kind <= 0) (h:NoNl s):lineM c kind (constT s) = some ({ c with consts:=c.consts ++ [s] },0):=by
 unfold lineM;rw [(const_line h).words];have e:kindW ⟨wText,false⟩ = 0:=by decide
 simp only [e,constWs];rw [if_neg (by simp; omega),if_pos trivial,if_pos ⟨trivial,trivial⟩]
theorem line_tmpl {c:CodeM} {kind:Int} {l:List PartM} (hk:kind <= 1) (h:∀ p ∈ l,NoNl p.text/\Num9 p.kind/\Num9 p.n):lineM c kind (tmplT l) = some ({ c with tmpls:=c.tmpls ++ [l] },1):=by
 unfold lineM;rw [(tmpl_line fun p hp=>(h p hp).1).words];have e:kindW ⟨wTmpl,false⟩ = 1:=by decide
 simp only [e];rw [if_neg (by simp; omega),if_neg (by decide),if_pos trivial,tmplW_back fun p hp=>(h p hp).2];simp only;rw [if_pos trivial]
theorem line_list {c:CodeM} {kind:Int} {l:List ItemM} (hk:kind <= 2) (h:∀ x ∈ l,symKind x.name > 1):lineM c kind (listT l) = some ({ c with lists:=c.lists ++ [l] },2):=by
 unfold lineM;rw [(list_line h).words];have e:kindW ⟨wList,false⟩ = 2:=by decide
 simp only [e];rw [if_neg (by simp; omega),if_neg (by decide),if_neg (by decide),if_pos trivial,listW_back h];simp only;rw [if_pos trivial]
theorem line_label {c:CodeM} {kind:Int} {s:SpotM} (hk:kind <= 3) (h:NoNl s.name) (hn:Num9 s.at_):lineM c kind (labelT s) = some ({ c with labels:=c.labels ++ [s] },3):=by
 unfold lineM;rw [(label_line h).words];have e:kindW ⟨wLabel,false⟩ = 3:=by decide
 simp only [e,labelWs];rw [if_neg (by simp; omega),if_neg (by decide),if_neg (by decide),if_neg (by decide),if_pos trivial,numW_itoa hn.1 hn.2];simp only [true_and,if_true]
theorem line_name {c:CodeM} {kind:Int} {s:ByteArray} (hk:kind <= 4) (h:symKind s > 1):lineM c kind (nameT s) = some ({ c with slots:=c.slots ++ [s] },4):=by
 unfold lineM;rw [(name_line h).words];have e:kindW ⟨wName,false⟩ = 4:=by decide
 simp only [e];rw [if_neg (by simp; omega),if_neg (by decide),if_neg (by decide),if_neg (by decide),if_neg (by decide),if_pos trivial,if_pos trivial]
theorem line_ins {c:CodeM} {kind:Int} {i:InsM} (hk:kind <= 5) (h1:1 <= i.op) (h2:i.op <= 46) (ha:Num9 i.a) (hb:Num9 i.b) (hc:Num9 i.c):lineM c kind (insT i) = some ({ c with ins:=c.ins ++ [i] },5):=by
 unfold lineM;rw [(ins_line h1 h2).words];have e:kindW ⟨(formAt i.op).name,false⟩ = 5:=by
  unfold kindW;rw [if_neg Bool.false_ne_true];exact (opWord h1 h2).2.2.2.1
 simp only [e];rw [if_neg (by simp; omega),if_neg (by decide),if_neg (by decide),if_neg (by decide),if_neg (by decide),if_neg (by decide),insOf_back h1 h2 ha hb hc];simp only;rw [if_pos trivial]
end
section
open Go Q Go.RowKit
theorem read_step {f n:Nat} {c c':CodeM} {kind k':Int} {s:ByteArray} {rest:List UInt8} (hl:lineM c kind s = some (c',k')) (hn:10 ∉ bytes s):readM (f + 1) c kind n (lineB s ++ rest) = readM f c' k' (n + 1) rest:=by
 have e:lineB s ++ rest = bytes s ++ 10 :: rest:=by rw [lineB,List.append_assoc]; rfl
 have ht:=takeW_app (r:=10 :: rest) hn (.inr rfl);rw [e,readM,ht.1,ht.2,if_neg (by simp),if_neg (by simp)];rw [show (⟨(bytes s).toArray⟩:ByteArray) = s from ba_inj (bytes_mk _),hl]
 rfl
theorem read_rows {α:Type} {pr:α->ByteArray} {add:CodeM->List α->CodeM} {k:Int} (hadd:∀ c x l,add (add c [x]) l = add c (x :: l)) (hnil:∀ c,add c [] = c):∀ (l:List α) (f n:Nat) (c:CodeM) (kind:Int) (rest:List UInt8),kind <= k ->
  (∀ x ∈ l,∀ c kind,kind <= k->lineM c kind (pr x) = some (add c [x],k)/\10 ∉ bytes (pr x))->(l.flatMap (fun x=>lineB (pr x)) ++ rest).length < f ->
  ∃ f' n' k',rest.length < f'/\k' <= k/\readM f c kind n (l.flatMap (fun x=>lineB (pr x)) ++ rest) = readM f' (add c l) k' n' rest
 | [],f,n,c,kind,rest,hk,_,hf=>⟨f,n,kind,by simpa using hf,hk,by rw [hnil]; rfl⟩
 | x :: l,f,n,c,kind,rest,hk,h,hf=>by
  obtain ⟨f,rfl⟩:∃ g,f = g + 1:=⟨f - 1,by omega⟩
  obtain ⟨h1,h2⟩:=h x List.mem_cons_self c kind hk;rw [List.flatMap_cons,List.append_assoc] at hf ⊢;rw [read_step h1 h2];have hl:0 < (lineB (pr x)).length:=by rw [lineB]; simp
  obtain ⟨f',n',k',a1,a2,a3⟩:=read_rows hadd hnil l f (n + 1) (add c [x]) k rest (Int.le_refl _) (fun y hy=>h y (List.mem_cons_of_mem _ hy)) (by rw [List.length_append] at hf; omega);exact ⟨f',n',k',a1,a2,by rw [a3,hadd]⟩
structure TextC (c:CodeM):Prop where
 consts:∀ s ∈ c.consts,NoNl s
 tmpls:∀ l ∈ c.tmpls,∀ p ∈ l,NoNl p.text/\Num9 p.kind/\Num9 p.n
 lists:∀ l ∈ c.lists,∀ x ∈ l,symKind x.name > 1
 labels:∀ s ∈ c.labels,NoNl s.name/\Num9 s.at_
 slots:∀ s ∈ c.slots,symKind s > 1
 ins:∀ i ∈ c.ins,(1 <= i.op/\i.op <= 46)/\Num9 i.a/\Num9 i.b/\Num9 i.c
theorem read_text {c:CodeM} (h:TextC c):readM ((textL c).length + 1) noCode 0 0 (textL c) = .ok c:=by
 have e:textL c = c.consts.flatMap (fun s=>lineB (constT s)) ++ (c.tmpls.flatMap (fun l=>lineB (tmplT l)) ++ (c.lists.flatMap (fun l=>lineB (listT l)) ++ (c.labels.flatMap (fun s=>lineB (labelT s)) ++ (c.slots.flatMap (fun s=>lineB (nameT s)) ++ (c.ins.flatMap (fun i=>lineB (insT i)) ++ []))))):=by simp only [textL,List.append_nil]
 obtain ⟨f1,n1,k1,a1,b1,c1⟩:=read_rows (pr:=constT) (add:=fun c l=>{ c with consts:=c.consts ++ l }) (k:=0) (fun c x l=>by simp) (fun c=>by simp) c.consts ((textL c).length + 1) 0 noCode 0 (c.tmpls.flatMap (fun l=>lineB (tmplT l)) ++ (c.lists.flatMap (fun l=>lineB (listT l)) ++ (c.labels.flatMap (fun s=>lineB (labelT s)) ++ (c.slots.flatMap (fun s=>lineB (nameT s)) ++ (c.ins.flatMap (fun i=>lineB (insT i)) ++ []))))) (by omega)
  (fun x hx c' kind hk=>⟨line_const hk (h.consts x hx),(const_line (h.consts x hx)).nl⟩) (by rw [<- e]; omega)
 obtain ⟨f2,n2,k2,a2,b2,c2⟩:=read_rows (pr:=tmplT) (add:=fun c l=>{ c with tmpls:=c.tmpls ++ l }) (k:=1) (fun c x l=>by simp) (fun c=>by simp) c.tmpls f1 n1 { noCode with consts:=noCode.consts ++ c.consts } k1 (c.lists.flatMap (fun l=>lineB (listT l)) ++ (c.labels.flatMap (fun s=>lineB (labelT s)) ++ (c.slots.flatMap (fun s=>lineB (nameT s)) ++ (c.ins.flatMap (fun i=>lineB (insT i)) ++ [])))) (by omega)
  (fun x hx c' kind hk=>⟨line_tmpl hk (h.tmpls x hx),(tmpl_line fun p hp=>(h.tmpls x hx p hp).1).nl⟩) a1
 obtain ⟨f3,n3,k3,a3,b3,c3⟩:=read_rows (pr:=listT) (add:=fun c l=>{ c with lists:=c.lists ++ l }) (k:=2) (fun c x l=>by simp) (fun c=>by simp) c.lists f2 n2 { noCode with consts:=noCode.consts ++ c.consts,tmpls:=noCode.tmpls ++ c.tmpls } k2 (c.labels.flatMap (fun s=>lineB (labelT s)) ++ (c.slots.flatMap (fun s=>lineB (nameT s)) ++ (c.ins.flatMap (fun i=>lineB (insT i)) ++ []))) (by omega)
  (fun x hx c' kind hk=>⟨line_list hk (h.lists x hx),(list_line (h.lists x hx)).nl⟩) a2
 obtain ⟨f4,n4,k4,a4,b4,c4⟩:=read_rows (pr:=labelT) (add:=fun c l=>{ c with labels:=c.labels ++ l }) (k:=3) (fun c x l=>by simp) (fun c=>by simp) c.labels f3 n3 { noCode with consts:=noCode.consts ++ c.consts,tmpls:=noCode.tmpls ++ c.tmpls,lists:=noCode.lists ++ c.lists } k3 (c.slots.flatMap (fun s=>lineB (nameT s)) ++ (c.ins.flatMap (fun i=>lineB (insT i)) ++ [])) (by omega)
  (fun x hx c' kind hk=>⟨line_label hk (h.labels x hx).1 (h.labels x hx).2,(label_line (h.labels x hx).1).nl⟩) a3
 obtain ⟨f5,n5,k5,a5,b5,c5⟩:=read_rows (pr:=nameT) (add:=fun c l=>{ c with slots:=c.slots ++ l }) (k:=4) (fun c x l=>by simp) (fun c=>by simp) c.slots f4 n4 { noCode with consts:=noCode.consts ++ c.consts,tmpls:=noCode.tmpls ++ c.tmpls,lists:=noCode.lists ++ c.lists,labels:=noCode.labels ++ c.labels } k4 (c.ins.flatMap (fun i=>lineB (insT i)) ++ []) (by omega)
  (fun x hx c' kind hk=>⟨line_name hk (h.slots x hx),(name_line (h.slots x hx)).nl⟩) a4
 obtain ⟨f6,n6,k6,a6,b6,c6⟩:=read_rows (pr:=insT) (add:=fun c l=>{ c with ins:=c.ins ++ l }) (k:=5) (fun c x l=>by simp) (fun c=>by simp) c.ins f5 n5 { noCode with consts:=noCode.consts ++ c.consts,tmpls:=noCode.tmpls ++ c.tmpls,lists:=noCode.lists ++ c.lists,labels:=noCode.labels ++ c.labels,slots:=noCode.slots ++ c.slots } k5 [] (by omega)
  (fun x hx c' kind hk=>by
   obtain ⟨⟨h1,h2⟩,h3,h4,h5⟩:=h.ins x hx;exact ⟨line_ins hk h1 h2 h3 h4 h5,(ins_line h1 h2).nl⟩) a5
 rw [<- e] at c1;rw [c1];refine c2.trans (c3.trans (c4.trans (c5.trans (c6.trans ?_))));obtain ⟨f,rfl⟩:∃ g,f6 = g + 1:=⟨f6 - 1,by simp only [List.length_nil] at a6; omega⟩
 rw [readM,if_pos rfl];simp [noCode]
theorem textC_of {c:CodeM} (h:(checkM c).1 = 0):TextC c:=by
 obtain ⟨e,hl,hp,hr,_⟩:=check_ok h;have hs:=small_of hl hp hr;unfold partsM at hp;simp only [Bool.and_eq_true,List.all_eq_true] at hp;obtain ⟨_,p1,p2,p3,p4,p5⟩:=hp;refine ⟨fun s hs'=>valid_nl (p1 s hs'),fun l hl' p hpp=>?_,fun l hl' x hx=>?_,fun s hs'=>⟨valid_nl (labs_valid p4 s hs'),?_⟩,fun s hs'=>?_,fun i hi=>?_⟩
 ·have h1:=(hs.tmpls l hl').2 p hpp
  have h2:=part_small h1;refine ⟨?_,by unfold Num9; omega,by unfold Num9; omega⟩;unfold partM at h1
  split at h1
  ·simp only [Bool.and_eq_true,varB,decide_eq_true_eq] at h1
   exact (sym_word h1.1 false).2
  ·split at h1
   ·simp only [Bool.and_eq_true] at h1
    exact valid_nl h1.1
   ·split at h1
    ·simp only [Bool.and_eq_true,decide_eq_true_eq] at h1
     exact (sym_word (by omega) false).2
    ·split at h1
     ·simp only [Bool.and_eq_true,decide_eq_true_eq] at h1
      rw [h1.1]; unfold NoNl; decide
     ·split at h1
      ·simp only [Bool.and_eq_true,decide_eq_true_eq] at h1
       rw [h1.1]; unfold NoNl; decide
      ·cases h1
 ·have:=p3 l hl'
  unfold listB at this;simp only [Bool.and_eq_true,List.all_eq_true,varB,decide_eq_true_eq] at this;exact this.2 x hx
 ·have:=(hs.labels s hs').1
  unfold Num9; omega
 ·have:=allS_slots p5 s hs'
  omega
 ·have:=hs.ins i hi
  unfold Num9;refine ⟨⟨this.1,this.2.1⟩,?_,?_,?_⟩ <;> omega
theorem read_back {c:CodeM} (h:(checkM c).1 = 0) (hs:(textB c).size <= 400000):readO (textB c) = (c,0,0):=by
 have e:bytes (textB c) = textL c:=by rw [textB,if_pos h,bytes_mk]
 unfold readO;rw [if_neg (by omega),e,size_bytes,e,read_text (textC_of h)];simp only;rw [if_pos h]
end
section
open Go Q Go.RowKit
theorem dropW_head {c d:UInt8} {r:List UInt8}:∀ {l:List UInt8},l.dropWhile (· ≠ c) = d :: r->d = c
 | [],h=>by cases h
 | x :: l,h=>by
  rw [List.dropWhile_cons] at h
  split at h
  ·exact dropW_head h
  ·rename_i hx
   rw [<- (List.cons.inj h).1]
   simpa using hx
def Upto (c:CodeM) (k:Int):Prop:=(k < 1->c.tmpls = [])/\(k < 2->c.lists = [])/\(k < 3->c.labels = [])/\(k < 4->c.slots = [])/\(k < 5->c.ins = [])
theorem kindW_le (x:WordM):0 <= kindW x/\kindW x <= 5:=by
 unfold kindW kindS;(repeat' split) <;> omega
theorem tok_plain {b:Bool} {s r:List UInt8} {t:WordM} (h:tokM b s = some (t,r)) (hl:t.lit = false):s = bytes t.s ++ r/\(r = [] \/ r.head? = some 32):=by
 unfold tokM at h
 split at h
 ·split at h
  ·cases h
  ·split at h
   ·cases h
   ·simp only [Option.some.injEq,Prod.mk.injEq] at h
    obtain ⟨rfl,_⟩:=h
    cases hl
 ·split at h
  ·cases h
  ·simp only [Option.some.injEq,Prod.mk.injEq] at h
   obtain ⟨rfl,rfl⟩:=h;refine ⟨by rw [bytes_mk,List.takeWhile_append_dropWhile],?_⟩
   cases hd:s.dropWhile (· ≠ 32) with
   | nil=>exact .inl rfl
   | cons c l=>
    right
    rw [dropW_head hd]; rfl
theorem words_two {b:Bool} {f:Nat} {s:List UInt8} {x y:WordM} (h:wordsM b f s = some [x,y]) (hx:x.lit = false) (hy:y.lit = false):s = bytes x.s ++ 32 :: bytes y.s:=by
 cases f with
 | zero=>cases h
 | succ f=>
  rw [wordsM] at h
  split at h
  ·cases h
  ·rename_i t r ht
   split at h
   ·simp at h
   ·rename_i hr
    split at h
    ·cases h
    ·cases hw:wordsM b f (r.drop 1) with
     | none=>rw [hw] at h; cases h
     | some l=>
      rw [hw] at h;simp only [Option.map_some,Option.some.injEq,List.cons.injEq] at h;obtain ⟨rfl,rfl⟩:=h;obtain ⟨e1,e2⟩:=tok_plain ht hx
      rcases e2 with e2 | e2
      ·exact absurd e2 hr
      ·cases r with
       | nil=>cases e2
       | cons c r=>
        simp only [List.head?_cons,Option.some.injEq] at e2;subst e2;simp only [List.drop_succ_cons,List.drop_zero] at hw;rw [e1]
        congr 2
        cases f with
        | zero=>cases hw
        | succ f=>
         rw [wordsM] at hw
         split at hw
         ·cases hw
         ·rename_i t r2 ht2
          split at hw
          ·simp only [Option.some.injEq,List.cons.injEq,and_true] at hw
           subst hw;rename_i hr2;subst hr2;have:=(tok_plain ht2 hy).1;rw [List.append_nil] at this;exact this
          ·split at hw
           ·cases hw
           ·cases hw2:wordsM b f (r2.drop 1) with
            | none=>rw [hw2] at hw; cases hw
            | some l=>
             rw [hw2] at hw;simp only [Option.map_some,Option.some.injEq,List.cons.injEq] at hw;obtain ⟨rfl,rfl⟩:=hw;exact absurd hw2 (by
              cases f with
              | zero=>simp [wordsM]
              | succ f=>
               rw [wordsM]
               split
               ·simp
               ·split
                ·simp
                ·split
                 ·simp
                 ·cases wordsM b f _ <;> simp)
theorem line_sound {c c':CodeM} {kind k':Int} {s:ByteArray} (h:lineM c kind s = some (c',k')) (hu:Upto c kind):textL c' = textL c ++ lineB s/\Upto c' k':=by
 unfold lineM at h
 split at h
 ·cases h
 ·cases h
 ·rename_i x rest hw
  split at h
  ·cases h
  ·rename_i hk
   have hk1:kind <= kindW x:=by
    have:=fun e=>hk (.inl e)
    omega
   have hlit:x.lit = false:=by
    cases hl:x.lit with
    | false=>rfl
    | true=>exact absurd (.inr hl) hk
   obtain ⟨u1,u2,u3,u4,u5⟩:=hu
   split at h
   ·rename_i h0
    rw [h0] at hk1
    split at h
    ·split at h
     ·rename_i hh
      simp only [Option.some.injEq,Prod.mk.injEq] at h;obtain ⟨rfl,rfl⟩:=h;rw [<- hh.2];refine ⟨?_,fun _=>u1 (by omega),fun _=>u2 (by omega),fun _=>u3 (by omega),fun _=>u4 (by omega),fun _=>u5 (by omega)⟩;simp only [textL,u1 (by omega),u2 (by omega),u3 (by omega),u4 (by omega),u5 (by omega)];simp
     ·cases h
    ·cases h
   ·split at h
    ·rename_i h0 h1
     rw [h1] at hk1
     split at h
     ·split at h
      ·rename_i hh
       simp only [Option.some.injEq,Prod.mk.injEq] at h;obtain ⟨rfl,rfl⟩:=h;rw [<- hh];refine ⟨?_,fun h=>by omega,fun _=>u2 (by omega),fun _=>u3 (by omega),fun _=>u4 (by omega),fun _=>u5 (by omega)⟩;simp only [textL,u2 (by omega),u3 (by omega),u4 (by omega),u5 (by omega)];simp
      ·cases h
     ·cases h
    ·split at h
     ·rename_i h0 h1 h2
      rw [h2] at hk1
      split at h
      ·split at h
       ·rename_i hh
        simp only [Option.some.injEq,Prod.mk.injEq] at h;obtain ⟨rfl,rfl⟩:=h;rw [<- hh];refine ⟨?_,fun h=>by omega,fun h=>by omega,fun _=>u3 (by omega),fun _=>u4 (by omega),fun _=>u5 (by omega)⟩;simp only [textL,u3 (by omega),u4 (by omega),u5 (by omega)];simp
       ·cases h
      ·cases h
     ·split at h
      ·rename_i h0 h1 h2 h3
       rw [h3] at hk1
       split at h
       ·split at h
        ·split at h
         ·rename_i hh
          simp only [Option.some.injEq,Prod.mk.injEq] at h;obtain ⟨rfl,rfl⟩:=h;rw [<- hh.2];refine ⟨?_,fun h=>by omega,fun h=>by omega,fun h=>by omega,fun _=>u4 (by omega),fun _=>u5 (by omega)⟩;simp only [textL,u4 (by omega),u5 (by omega)];simp
         ·cases h
        ·cases h
       ·cases h
      ·split at h
       ·rename_i h0 h1 h2 h3 h4
        rw [h4] at hk1
        split at h
        ·rename_i y
         split at h
         ·rename_i hh
          simp only [Option.some.injEq,Prod.mk.injEq] at h;obtain ⟨rfl,rfl⟩:=h;refine ⟨?_,fun h=>by omega,fun h=>by omega,fun h=>by omega,fun h=>by omega,fun _=>u5 (by omega)⟩;have hx4:x.s = wName:=by
           unfold kindW kindS at h4;rw [hlit,if_neg Bool.false_ne_true] at h4
           revert h4
           (repeat' split) <;> first | (intro; assumption) | (intro h; omega)
          have hs:nameT y.s = s:=ba_inj (by
           have:=words_two hw hlit hh;rw [this,hx4,nameT,bytes_joinB];simp [joinW,wName])
          simp only [textL,u5 (by omega)];simp [hs]
         ·cases h
        ·cases h
       ·split at h
        ·split at h
         ·rename_i hh
          simp only [Option.some.injEq,Prod.mk.injEq] at h;obtain ⟨rfl,rfl⟩:=h;have:=kindW_le x;rw [<- hh];refine ⟨?_,fun h=>by omega,fun h=>by omega,fun h=>by omega,fun h=>by omega,fun h=>by omega⟩;simp only [textL];simp
         ·cases h
        ·cases h
theorem read_sound:∀ (f n:Nat) (c c':CodeM) (kind:Int) (s:List UInt8),readM f c kind n s = .ok c'->Upto c kind->textL c' = textL c ++ s
 | 0,n,c,c',kind,s,h,_=>by cases h
 | f + 1,n,c,c',kind,s,h,hu=>by
  rw [readM] at h
  split at h
  ·rename_i hs
   injection h with h
   rw [h,hs,List.append_nil]
  ·split at h
   ·cases h
   ·rename_i h0 hd
    split at h
    ·cases h
    ·rename_i c1 k1 hl
     obtain ⟨e1,e2⟩:=line_sound hl hu;have:=read_sound f (n + 1) c1 c' k1 _ h e2;rw [this,e1,List.append_assoc]
     congr 1
     rw [lineB,bytes_mk,List.append_assoc]
     conv=>rhs; rw [<- List.takeWhile_append_dropWhile (p:=(· ≠ (10:UInt8))) (l:=s)]
     congr 1
     cases hq:s.dropWhile (· ≠ 10) with
     | nil=>exact absurd hq hd
     | cons d l=>
      rw [dropW_head hq]
      rfl
theorem read_ok {s:ByteArray} {c:CodeM} {n:Int} (h:readO s = (c,n,0)):(checkM c).1 = 0/\textB c = s/\n = 0:=by
 unfold readO at h
 split at h
 ·simp at h
 ·split at h
  ·simp at h
  ·rename_i c1 hr
   split at h
   ·rename_i hc
    simp only [Prod.mk.injEq,and_true] at h;obtain ⟨rfl,rfl⟩:=h;refine ⟨hc,?_,rfl⟩;have:=read_sound _ _ _ _ _ _ hr ⟨fun _=>rfl,fun _=>rfl,fun _=>rfl,fun _=>rfl,fun _=>rfl⟩;rw [textB,if_pos hc]
    apply ba_inj
    rw [bytes_mk,this]
    rfl
   ·rename_i hc
    simp only [Prod.mk.injEq] at h;exact absurd h.2.2 hc
end
section
open Go Q Go.RowKit
end
section
open Go Q Go.RowKit
end
section
open Go Q Go.RowKit
theorem pow_le {k:Nat} (h:k <= 7):128 ^ k <= 562949953421312:=by
 have:(128:Nat) ^ k <= 128 ^ 7:=Nat.pow_le_pow_right (by decide) h;rw [show (128:Nat) ^ 7 = 562949953421312 by decide] at this;exact this
end
section
open Go Q Go.RowKit
end
section
open Go Q Go.RowKit
abbrev St:=Except Nat Nat
def Ag {α:Type} (x:α × St) (y:Except Nat (α × Nat)):Prop:=match y with
 | .ok (a,q)=>x = (a,.ok q)
 | .error e=>x.2 = .error e
structure Rd {α:Type} (f:St->α × St) (g:Nat->Except Nat (α × Nat)):Prop where
 ok:∀ p,Ag (f (.ok p)) (g p)
 er:∀ e,(f (.error e)).2 = .error e
theorem Rd.bind {α β:Type} {f:St->α × St} {g:Nat->Except Nat (α × Nat)} {f2:α->St->β × St} {g2:α->Nat->Except Nat (β × Nat)} (h:Rd f g) (h2:∀ a,Rd (f2 a) (g2 a)):Rd (fun st=>f2 (f st).1 (f st).2) (fun p=>andR (g p) g2) where
 ok:=fun p=>by
  have:=h.ok p;unfold andR
  cases hg:g p with
  | error e=>rw [hg] at this; simp only [Ag] at this ⊢; rw [this]; exact (h2 _).er e
  | ok x=>obtain ⟨a,q⟩:=x; rw [hg] at this; simp only [Ag] at this; simp only [this]; exact (h2 a).ok q
 er:=fun e=>by rw [h.er e]; exact (h2 _).er e
theorem Rd.pure {α:Type} (a:α):Rd (fun st=>(a,st)) (fun p=>.ok (a,p)):=⟨fun p=>rfl,fun e=>rfl⟩
end
section
open Go Q Go.RowKit
section
variable {w0 w:World} {z0 z:Z} {B0 L F:Bl} {K:Value->World->Prop} {bs cap:Nat} {ab:Option Addr} {b:List UInt8} {p bad:Int} {st:St}
end
theorem run_cvs {z:Z} {w:World} {v:Value} {l:List UInt8} (hv:SlR El.byte z v l) (hs:Sub z w):(cv 55 9 v).run Tryz.prog w = .ok (.string ⟨l.toArray⟩) w:=by
 obtain ⟨_,a,cap,rfl,_,hel⟩:=hv.form
 cases a with
 | none=>
  have:l = []:=by
   cases l with
   | nil=>rfl
   | cons x l=>obtain ⟨_,_,_,h,_⟩:=hel 0 x rfl; cases h
  subst this;exact run_convert_bytes_nil (P:=Tryz.prog) w 55 5 (by kernel_rfl) (by kernel_rfl) 0 cap 9 (by kernel_rfl)
 | some a=>
  refine run_convert_bytes_back (P:=Tryz.prog) w 55 9 5 a cap l (by kernel_rfl) (by kernel_rfl) (by kernel_rfl) fun j hj=>?_
  obtain ⟨bb,off,cs,h1,h2,h3⟩:=hel j _ (List.getElem?_eq_getElem hj)
  cases h1
  cases h2
  have:=(h3.world hs).cell (j:=0) (v:=.int .u8 (l[j].toNat:Int)) rfl;rw [add_addr]
  simpa [El.byte] using this
theorem num_mem {b:List UInt8} {lo hi:Int} {p q:Nat} {n:Int} (h:numR b lo hi p = .ok (n,q)):lo <= n/\n <= hi:=by
 unfold numR at h
 cases hg:grpR b p 7 0 0 p with
 | error e=>rw [hg] at h; cases h
 | ok x=>
  obtain ⟨u,q'⟩:=x;rw [hg] at h;simp only at h
  split at h
  ·rename_i hi'
   cases h
   simpa [inB] using hi'
  ·cases h
end
section
open Go Q Go.RowKit
theorem num_lt {b:List UInt8} {lo hi:Int} {p q:Nat} {n:Int} (h:numR b lo hi p = .ok (n,q)):p < b.length:=by
 unfold numR at h;rw [grpR] at h
 cases hb:b[p]? with
 | none=>rw [hb] at h; cases h
 | some x=>exact (List.getElem?_eq_some_iff.1 hb).1
section
variable {w0 w:World} {z0 z:Z} {B0 L F:Bl} {K:Value->World->Prop} {bs cap:Nat} {ab:Option Addr} {b:List UInt8} {p bad:Int} {st:St}
end
section
variable {α:Type}
end
end
section
open Go Q Go.RowKit
def notIface:TypeDesc->Bool
 | .interface _=>false
 | _=>true
theorem mi_ok {t:TypeId} {v:Value} {w:World} (h:(Tryz.prog.underlying t).any notIface = true):(mi t v).run Tryz.prog w = .ok (.iface t v) w:=by
 obtain ⟨d,hd,hn⟩:∃ d,Tryz.prog.underlying t = some d/\notIface d = true:=by
  cases hu:Tryz.prog.underlying t with
  | none=>rw [hu] at h; cases h
  | some d=>rw [hu] at h; exact ⟨d,rfl,h⟩
 simp only [mi,Instr.makeInterface,Sem.run_bind,run_underlying hd,Result.andThen_ok]
 cases d <;> first | rfl | cases hn
def tornP (e:Nat):List PanicEntry:=[{ v:=.iface 173 (.agg [.int .i64 (e:Nat)].toArray),recovered:=false }]
abbrev rdB (br:Nat) (ab:Option Addr) (n cap:Nat) (p:Int):Nat × Obj:=(br,.cells [.slice ab n cap,.int .i64 p].toArray 177 (0,0))
def RdR {α:Type} (b:List UInt8) (br:Nat) (ab:Option Addr) (cap:Nat) (rel:Z->Value->α->Prop) (g:Except Nat (α × Nat)):Z->Bl->Value->Prop:=
 fun z' B' r=>∃ x q,g = .ok (x,q)/\q <= b.length/\rel z' r x/\B' = [rdB br ab b.length cap (q:Nat)]
def RdG {α:Type} (b:List UInt8) (br:Nat) (ab:Option Addr) (cap:Nat) (g:Except Nat (α × Nat)):Z->Bl->List PanicEntry->Prop:=
 fun z' B' c=>∃ e q,g = .error e/\c = tornP e/\B' = [rdB br ab b.length cap (q:Nat)]
section
variable {w0 w:World} {z0 z:Z} {B0 L F:Bl} {K:Value->World->Prop} {Pn:PnT} {br cap:Nat} {ab:Option Addr} {b:List UInt8} {p:Nat}
theorem fail_of {v:Value} {x:Bool} {e:Nat}:FnP 108 #[v,.bool x,.int .i64 (e:Nat)] z [] w (fun z' B' r=>x = true/\r = .tuple #[]/\B' = []) (fun z' B' c=>x = false/\c = tornP e/\B' = []):=FnP.intro fun hS=>en108 (by
 unfold vc108;(repeat (refine V_run ?_));refine Cond_b (fun h=>?_) (fun h=>?_)
 ·(repeat (refine V_run ?_))
  refine ⟨_,_,mi_ok (by kernel_rfl),?_⟩;exact PanW_intro ⟨_,_,hS,by simpa using h,rfl,rfl⟩
 ·exact ⟨_,_,hS,by simpa using h,rfl,rfl⟩)
theorem CVP_fail {v:Value} {x:Bool} {e:Nat} (hS:Res w0 z0 B0 w z L) (hk:x = true->∀ z' w',Le z z'->Res w0 z0 B0 w' z' L->K (.tuple #[]) w') (hp:x = false->∀ z' w',Le z z'->Res w0 z0 B0 w' z' L->Pn (tornP e) w') :
  CVP Pn (.func (.func 108) #[] #[]) #[v,.bool x,.int .i64 (e:Nat)] w K:=by
 refine CVP_fn (B:=[]) (F:=L) hS (fail_of (v:=v) (x:=x) (e:=e)) (by simp) ?_ ?_
 ·rintro z' B' w' v' hz hS' ⟨hx,rfl,rfl⟩
  exact hk hx _ _ hz hS'
 ·rintro z' B' w' c hz hS' ⟨hx,rfl,rfl⟩
  exact hp hx _ _ hz hS'
theorem more_of {n:Int} (hp:p <= b.length) (hl:b.length <= 1000000):FnP 107 #[.pointer (some ⟨br,0,none⟩),.int .i64 n] z [rdB br ab b.length cap p] w
  (fun z' B' r=>n <= (b.length:Int) - p/\r = .tuple #[]/\B' = [rdB br ab b.length cap p]) (fun z' B' c=>¬ n <= (b.length:Int) - p/\c = tornP b.length/\B' = [rdB br ab b.length cap p]):=FnP.intro fun hS=>en107 (by
 unfold vc107;haveI:InI ((b.length:Int) - (p:Int)):=⟨by omega⟩
 (repeat (first | (refine iDr ?_; intro _ _) | refine PV_run ?_ | refine iHV_1 ?_));rename_i hS1;refine CVP_fail hS1 ?_ ?_
 ·intro hx z' w' hz hS2
  (repeat (refine iRI_1 ?_));exact ⟨_,_,hS2,of_decide_eq_true hx,rfl,rfl⟩
 ·intro hx z' w' hz hS2
  exact ⟨_,_,hS2,of_decide_eq_false hx,rfl,rfl⟩)
theorem CVP_more {n:Int} (hS:Res w0 z0 B0 w z L) [gb:BringB L br (.cells [.slice ab b.length cap,.int .i64 p].toArray 177 (0,0)) F] (hp:p <= b.length) (hl:b.length <= 1000000)
  (hk:n <= (b.length:Int) - p->∀ z' w',Le z z'->Res w0 z0 B0 w' z' (rdB br ab b.length cap p :: F)->K (.tuple #[]) w') (hpn:¬ n <= (b.length:Int) - p->∀ z' w',Le z z'->Res w0 z0 B0 w' z' (rdB br ab b.length cap p :: F)->Pn (tornP b.length) w') :
  CVP Pn (.func (.func 107) #[] #[]) #[.pointer (some ⟨br,0,none⟩),.int .i64 n] w K:=by
 refine CVP_fn (B:=[rdB br ab b.length cap p]) (F:=F) (hS.bringB br) (more_of (n:=n) hp hl) (by simp) ?_ ?_
 ·rintro z' B' w' v' hz hS' ⟨hx,rfl,rfl⟩
  exact hk hx _ _ hz hS'
 ·rintro z' B' w' c hz hS' ⟨hx,rfl,rfl⟩
  exact hpn hx _ _ hz hS'
theorem CVP_rd {α:Type} {f:FuncId} [Enters f] {first args args':Array Value} {rel:Z->Value->α->Prop} {g:Except Nat (α × Nat)} (hS:Res w0 z0 B0 w z L) [gb:BringB L br (.cells [.slice ab b.length cap,.int .i64 p].toArray 177 (0,0)) F]
  (h:FnP f args' z [rdB br ab b.length cap p] w (RdR b br ab cap rel g) (RdG b br ab cap g)) (ha:first ++ args ++ #[] = args')
  (hk:∀ z' w' v x q,Le z z'->g = .ok (x,q)->q <= b.length->rel z' v x->Res w0 z0 B0 w' z' (rdB br ab b.length cap (q:Nat) :: F)->K v w')
  (hpn:∀ z' w' e q,Le z z'->g = .error e->Res w0 z0 B0 w' z' (rdB br ab b.length cap (q:Nat) :: F)->Pn (tornP e) w') :
  CVP Pn (.func (.func f) first #[]) args w K:=by
 refine CVP_fn (B:=[rdB br ab b.length cap p]) (F:=F) (hS.bringB br) h ha ?_ ?_
 ·rintro z' B' w' v' hz hS' ⟨x,q,h1,h2,h3,rfl⟩
  exact hk _ _ _ _ _ hz h1 h2 h3 hS'
 ·rintro z' B' w' c hz hS' ⟨e,q,h1,rfl,rfl⟩
  exact hpn _ _ _ _ hz h1 hS'
end
def relI:Z->Value->Int->Prop:=fun _ v n=>v = .int .i64 n
def relS:Z->Value->ByteArray->Prop:=fun _ v s=>v = .string s/\s.size <= big
section
variable {w:World} {z:Z} {br cap:Nat} {ab:Option Addr} {b:List UInt8} {p:Nat}
theorem int_of (hb:SlR El.byte z (.slice ab b.length cap) b) (hl:b.length <= 1000000) (hp:p <= b.length) :
  FnP 179 #[.pointer (some ⟨br,0,none⟩)] z [rdB br ab b.length cap p] w (RdR b br ab cap relI (numR b (-far) far p)) (RdG b br ab cap (numR b (-far) far p)):=FnP.intro fun hS=>en179 (by
 unfold vc179;generalize hRR:(fun (v:Value) (w':World)=>∃ z' B',Res w z [rdB br ab b.length cap p] w' z' B'/\RdR b br ab cap relI (numR b (-far) far p) z' B' v) = RR;generalize hPP:(fun (c:List PanicEntry) (w':World)=>∃ z' B',Res w z [rdB br ab b.length cap p] w' z' B'/\RdG b br ab cap (numR b (-far) far p) z' B' c) = PP;have hR:∀ z' w' n (q:Nat),Res w z [rdB br ab b.length cap p] w' z' [rdB br ab b.length cap q]->numR b (-far) far p = .ok (n,q)->q <= b.length->RR (.int .i64 n) w':=fun z' w' n q k h1 h2=>by rw [<- hRR]; exact ⟨_,_,k,n,q,h1,h2,rfl,rfl⟩
 have hP:∀ z' w' (e q:Nat),Res w z [rdB br ab b.length cap p] w' z' [rdB br ab b.length cap q]->numR b (-far) far p = .error e->PP (tornP e) w':=fun z' w' e q k h1=>by rw [<- hPP]; exact ⟨_,_,k,e,q,h1,rfl,rfl⟩
 clear hRR hPP;obtain ⟨_,_,_,hve,_,hel⟩:=hb.form
 cases hve
 have hnum:numR b (-far) far p = match grpR b p 7 0 0 p with
   | .error e=>.error e
   | .ok (u,q)=>if inB (unzig u) (-far) far = true then .ok (unzig u,q) else .error p:=rfl
 generalize hX:grpR b p 7 0 0 p = X at hnum;generalize numR b (-far) far p = G at hnum hR hP;refine NilW_some ?_;(repeat (first | refine V_run ?_ | refine iV_ld1 ?_));intro Ka hKa;have ma:∀ (u q:Nat) w' z',Res w z [rdB br ab b.length cap p] w' z' [rdB br ab b.length cap q]->u < 562949953421312->q <= b.length->(X = .ok (u,q) \/ (X = .error p/\4398046511104 <= u))->Ka [.int .i64 u] w':=by
  intro u q w1 z1 hS1 hu hq hXu;refine hKa _ _ fun _=>?_
  clear hKa hS hX;haveI:InR 0 2:=⟨by decide,by decide⟩
  haveI:InI (u:Int):=⟨by omega⟩
  haveI:InI ((u:Int) + 1):=⟨by omega⟩
  have hquo:(u:Int).tdiv 2 = ((u / 2:Nat):Int):=by rw [Int.tdiv_eq_ediv_of_nonneg (by omega)]; omega
  have hrem:(u:Int).tmod 2 = ((u % 2:Nat):Int):=by rw [Int.tmod_eq_emod_of_nonneg (by omega)]; omega
  refine V_run ?_;intro Kb hKb;have mb:∀ n:Int,n = unzig u->Kb [.int .i64 n] w1:=by
   rintro n rfl
   refine hKb _ _ fun _=>?_
   clear hKb;refine CVP_pu ?_;intro z2 w2 hz2 hS2;refine CVP_fail hS2 ?_ ?_
   ·intro hx z3 w3 hz3 hS3
    refine hR _ _ _ q hS3 ?_ hq
    rcases hXu with rfl | ⟨rfl,hu2⟩
    ·rw [hnum]; exact if_pos hx
    ·exfalso
     have:=inB_iff.1 hx;unfold unzig at this
     split at this <;> omega
   ·intro hx z3 w3 hz3 hS3
    refine hP _ _ p q hS3 ?_
    rcases hXu with rfl | ⟨rfl,hu2⟩
    ·rw [hnum]; exact if_neg (by rw [hx]; simp)
    ·rw [hnum]
  clear hKb;refine V_run ?_;rw [hrem,hquo];(repeat (refine V_run ?_));refine Cond_d (fun e=>?_) (fun e=>?_)
  ·have hw1:IntKind.i64.wrap (0 - ((u:Int) + 1)) = -((u:Int) + 1):=by rw [wrap_in (by unfold inI; omega)]; omega
   have hw2:(-((u:Int) + 1)).tdiv 2 = -(((u + 1) / 2:Nat):Int):=by rw [Int.neg_tdiv,Int.tdiv_eq_ediv_of_nonneg (by omega)]; omega
   (repeat (refine V_run ?_));rw [hw1,hw2,wrap_in (by unfold inI; omega)];refine mb _ ?_;unfold unzig;rw [if_pos (by omega)]
  ·refine mb _ ?_
   unfold unzig;rw [if_neg (by omega)]
 clear hKa;refine LoopG2 (fun (s:Nat × Nat × Nat) x y w'=>x = .int .i64 (s.2.1:Nat)/\y = .int .i64 (s.1:Nat)/\s.1 <= 6/\s.2.1 < 128 ^ s.1/\s.2.2 <= b.length/\grpR b p (7 - s.1) s.1 s.2.1 s.2.2 = X/\∃ z',Le z z'/\Res w z [rdB br ab b.length cap p] w' z' [rdB br ab b.length cap (s.2.2:Nat)]) (fun s=>7 - s.1) (0,0,p) ⟨rfl,rfl,by simp,by simp,hp,hX,z,Le.refl _,hS⟩ ?_;rintro I M ⟨k,u,q⟩ x y w1 m ⟨rfl,rfl,hk,hu,hq,hg,z1,hz1,hS1⟩ back
 simp only at hk hu hq hg hS1;dsimp only;clear hS hX;have hp7:=pow_le (k:=k) (by omega);have hfu:7 - k = (7 - (k + 1)) + 1:=by omega
 rw [hfu,grpR] at hg;refine V_run ?_;refine Cond_is (decide_eq_true (by omega)) ?_;refine CVP_more hS1 hq hl ?_ ?_
 rotate_left
 ·intro hx z2 w2 hz2 hS2
  have hn:b[q]? = none:=List.getElem?_eq_none (by omega);rw [hn] at hg;simp only at hg;subst hg;exact hP _ _ _ q hS2 hnum
 intro hx z2 w2 hz2 hS2;have hqlt:q < b.length:=by omega
 have hbq:b[q]? = some b[q]:=List.getElem?_eq_getElem hqlt;rw [hbq] at hg;simp only at hg;obtain ⟨bb,off,cs,rfl,hcs,hat⟩:=hel _ _ hbq
 cases hcs
 generalize b[q] = x at *;have hx:=x.toNat_lt;haveI:InR (q:Int) (b.length:Nat):=⟨by omega,by omega⟩
 haveI:InI ((q:Int) + 1):=⟨by omega⟩
 haveI:Fz z bb (off + (q:Int).toNat * 1) [.int .u8 (x.toNat:Nat)]:=⟨by rw [Int.toNat_natCast]; exact hat⟩
 clear hS1;have hxw:IntKind.i64.wrap ((x.toNat:Nat):Int) = ((x.toNat:Nat):Int):=wrap_in (by unfold inI; omega);haveI:InI (7 * (k:Int)):=⟨by omega⟩
 haveI:InI ((k:Int) + 1):=⟨by omega⟩
 refine iDr ?_;intro w3 hS3;clear hS2;(repeat (first | refine V_run ?_ | refine PV_run ?_ | refine iV_ld1 ?_ | (refine iU_st ?_; intro _ _) | refine iHV_1 ?_ | refine iRI_1 ?_ | refine fHV_ld1 ?_));rename_i w4 hS4;simp only [hxw];have hpk:2 ^ (7 * k) = 128 ^ k:=by rw [Nat.pow_mul]
 have hmul:x.toNat % 128 * 128 ^ k <= 127 * 128 ^ k:=Nat.mul_le_mul_right _ (by omega);have hp6:128 ^ k <= 4398046511104:=by
  have:(128:Nat) ^ k <= 128 ^ 6:=Nat.pow_le_pow_right (by decide) hk;rw [show (128:Nat) ^ 6 = 4398046511104 by decide] at this;exact this
 have hsh:IntKind.i64.wrap ((x.toNat:Int) % 128 * 2 ^ (7 * (k:Int)).toNat) = ((x.toNat % 128 * 2 ^ (7 * k):Nat):Int):=by
  rw [show (7 * (k:Int)).toNat = 7 * k by omega,show (x.toNat:Int) % 128 * 2 ^ (7 * k) = ((x.toNat % 128 * 2 ^ (7 * k):Nat):Int) by rw [Int.natCast_mul,Int.natCast_pow,Int.natCast_emod]; rfl];exact wrap_in (by rw [hpk]; unfold inI; omega)
 refine ⟨_,_,shl_ok (by omega) (by omega) _,?_⟩;rw [hsh];refine ⟨_,_,orI_ok _,?_⟩;rw [or_add (k:=7 * k) (by rw [hpk]; exact hu) (by rw [hpk]; omega),hpk];have hps:128 ^ (k + 1) = 128 ^ k * 128:=rfl;refine V_run ?_;refine Cond_d (fun h1=>?_) (fun h1=>?_)
 ·(repeat (first | refine V_run ?_ | refine JB ?_))
  refine CVP_fail hS4 ?_ ?_
  ·intro hc z6 w6 hz6 hS6
   refine ma (u + x.toNat % 128 * 128 ^ k) (q + 1) _ _ (by simpa using hS6) (by omega) (by omega) ?_;have hc':k = 0 \/ 0 < x.toNat:=by
    rcases Nat.eq_zero_or_pos k with h | h
    ·exact .inl h
    ·right
     have:(decide ((k:Int) = 0)) = false:=decide_eq_false (by omega);rw [this] at hc
     simpa using hc
   by_cases h6:k = 6
   ·right
    subst h6;refine ⟨by rw [<- hg,if_pos (.inl rfl)],?_⟩;have:x.toNat % 128 = x.toNat:=Nat.mod_eq_of_lt (by omega);have h1:1 * 128 ^ 6 <= x.toNat % 128 * 128 ^ 6:=Nat.mul_le_mul_right _ (by omega);rw [show (1:Nat) * 128 ^ 6 = 4398046511104 by decide] at h1;omega
   ·left
    rw [<- hg,if_neg (by omega),if_pos (by omega)]
  ·intro hc z6 w6 hz6 hS6
   have hk0:¬ k = 0/\x.toNat = 0:=by
    by_cases h:k = 0
    ·subst h; simp at hc
    ·have:(decide ((k:Int) = 0)) = false:=decide_eq_false (by omega)
     rw [this] at hc;refine ⟨h,?_⟩;have:=of_decide_eq_false (by simpa using hc:decide ((x.toNat:Int) > 0) = false);omega
   rw [if_pos (.inr ⟨by omega,hk0.2⟩)] at hg;subst hg;exact hP _ _ p (q + 1) (by simpa using hS6) hnum
 ·refine V_run ?_
  refine CVP_fail hS4 ?_ ?_
  ·intro hc z6 w6 hz6 hS6
   have hc:=of_decide_eq_true hc;rw [if_neg (by omega),if_neg (by omega)] at hg;refine V_run ?_;exact back (k + 1,u + x.toNat % 128 * 128 ^ k,q + 1) _ _ _ ⟨rfl,by simp,by simp only; omega,by simp only; omega,by simp only; omega,hg,_,hS6.zle,by simpa using hS6⟩ (by simp only; omega)
  ·intro hc z6 w6 hz6 hS6
   have hc:=of_decide_eq_false hc;rw [if_pos (.inl (by omega))] at hg;subst hg;exact hP _ _ p (q + 1) (by simpa using hS6) hnum)
theorem num_narrow (b:List UInt8) (p:Nat) {lo hi:Int} (h0:-far <= lo) (h1:hi <= far):numR b lo hi p = match numR b (-far) far p with
  | .error e=>.error e
  | .ok (n,q)=>if inB n lo hi = true then .ok (n,q) else .error p:=by
 unfold numR
 cases grpR b p 7 0 0 p with
 | error e=>rfl
 | ok x=>
  obtain ⟨u,q⟩:=x;simp only
  by_cases h:inB (unzig u) (-far) far = true
  ·rw [if_pos h]
  ·rw [if_neg h,if_neg]
   intro hh;refine h (inB_iff.2 ?_);have:=inB_iff.1 hh;omega
theorem many_of {top:Int} (ht:top <= far) (hb:SlR El.byte z (.slice ab b.length cap) b) (hl:b.length <= 1000000) (hp:p <= b.length) :
  FnP 178 #[.pointer (some ⟨br,0,none⟩),.int .i64 top] z [rdB br ab b.length cap p] w (RdR b br ab cap relI (numR b 0 top p)) (RdG b br ab cap (numR b 0 top p)):=FnP.intro fun hS=>en178 (by
 unfold vc178;have hn:=num_narrow b p (lo:=0) (hi:=top) (by decide) ht;refine NilW_some ?_;(repeat (first | refine V_run ?_ | refine iV_ld1 ?_));refine CVP_rd (first:=#[]) hS (int_of (br:=br) hb hl hp) (by simp) ?_ ?_
 ·rintro z1 w1 v n q hz1 h1 hq rfl hS1
  rw [h1] at hn;simp only at hn;refine CVP_pu ?_;intro z2 w2 hz2 hS2;refine CVP_fail hS2 ?_ ?_
  ·intro hx z3 w3 hz3 hS3
   rw [if_pos hx] at hn;exact ⟨_,_,hS3,n,q,hn,hq,rfl,rfl⟩
  ·intro hx z3 w3 hz3 hS3
   rw [if_neg (by rw [hx]; simp)] at hn;exact ⟨_,_,hS3,p,q,hn,rfl,rfl⟩
 ·rintro z1 w1 e q hz1 h1 hS1
  rw [h1] at hn;simp only at hn;exact ⟨_,_,hS1,e,q,hn,rfl,rfl⟩)
theorem str_of' (hb:SlR El.byte z (.slice ab b.length cap) b) (hl:b.length <= 1000000) (hp:p <= b.length) :
  FnP 110 #[.pointer (some ⟨br,0,none⟩)] z [rdB br ab b.length cap p] w (RdR b br ab cap relS (strR b p)) (RdG b br ab cap (strR b p)):=FnP.intro fun hS=>en110 (by
 unfold vc110;refine CVP_rd (first:=#[]) hS (many_of (br:=br) (top:=1000) (by decide) hb hl hp) (by simp) ?_ ?_
 rotate_left
 ·rintro z1 w1 e q hz1 h1 hS1
  exact ⟨_,_,hS1,e,q,by simp only [strR,andR,h1],rfl,rfl⟩
 rintro z1 w1 v n q hz1 h1 hq rfl hS1
 have hm:=num_mem h1;have hlt:=num_lt h1;have hstr:strR b p = if n > (b.length:Int) - q then .error b.length else .ok (⟨((b.drop q).take n.toNat).toArray⟩,q + n.toNat):=by simp only [strR,andR,h1]
 refine CVP_more hS1 hq hl ?_ ?_
 rotate_left
 ·intro hx z2 w2 hz2 hS2
  rw [if_pos (by omega)] at hstr;exact ⟨_,_,hS2,b.length,q,hstr,rfl,rfl⟩
 intro hx z2 w2 hz2 hS2;rw [if_neg (by omega)] at hstr;clear hS hS1;obtain ⟨n,rfl⟩:∃ m:Nat,n = (m:Int):=⟨n.toNat,by omega⟩
 obtain ⟨_,_,_,hve,hcap,hel⟩:=hb.form
 cases hve
 obtain ⟨bb,off,_,rfl,_,_⟩:=hel 0 _ (List.getElem?_eq_getElem (by omega:0 < b.length));haveI:InI ((q:Int) + (n:Int)):=⟨by omega⟩
 haveI:InR (q:Int) ((q:Int) + (n:Int) + 1):=⟨by omega,by omega⟩
 haveI:InR ((q:Int) + (n:Int)) ((cap:Int) + 1):=⟨by omega,by omega⟩
 (repeat (first | (refine iDr ?_; intro _ _) | refine PV_run ?_ | refine iHV_1 ?_));rename_i hS3;have hsub:=SlR.sub (l:=q) (h:=q + n) (s:=1) hb rfl (by omega) (by omega);rw [show ((q:Int) + (n:Int)).toNat = q + n by omega,show ((q:Int)).toNat = q by omega];refine ⟨_,_,run_cvs (hsub.mono hS3.zle) hS3.sub,?_⟩;(repeat (first | refine V_run ?_ | refine iV_ld1 ?_ | (refine iU_st ?_; intro _ _) | refine iRI_1 ?_));rename_i hS4;rw [show (((q + n - q:Nat)) = n) by omega];refine ⟨_,_,hS4,_,q + n,hstr,by omega,⟨by simp,?_⟩,by simp⟩;have:(ByteArray.mk ((b.drop q).take n).toArray).size = ((b.drop q).take n).length:=rfl;simp only [Int.toNat_natCast,this,List.length_take,List.length_drop,big];omega)
end
end
section
open Go Q Go.RowKit
def relE {α:Type} (E:El α):Z->Value->α->Prop:=fun z v x=>∃ cs,v.cells = cs.toArray/\(∀ u ∈ cs,isOne u = true)/\E.rel z cs x
def relL {α:Type} (E:El α):Z->Value->List α->Prop:=fun z v xs=>SlR E z v xs
section
variable {w:World} {z:Z} {br cap:Nat} {ab:Option Addr} {b:List UInt8} {p:Nat}
theorem part_of (hb:SlR El.byte z (.slice ab b.length cap) b) (hl:b.length <= 1000000) (hp:p <= b.length) :
  FnP 114 #[.pointer (some ⟨br,0,none⟩)] z [rdB br ab b.length cap p] w (RdR b br ab cap (relE El.part) (partR b p)) (RdG b br ab cap (partR b p)):=FnP.intro fun hS=>en114 (by
 unfold vc114;refine iV_al ?_;intro b2 w1 hb2 hS1;refine CVP_rd (first:=#[]) hS1 (int_of (br:=br) hb hl hp) (by simp) ?_ ?_
 rotate_left
 ·rintro z2 w2 e q hz2 h2 hS2
  exact ⟨_,_,hS2.keep [.at br],e,q,by simp only [partR,anyR,andR,h2],rfl,rfl⟩
 rintro z2 w2 v k q2 hz2 h2 hq2 rfl hS2
 (repeat (refine V_run ?_));refine iV_al ?_;intro bt w3 hbt hS3;refine iU_st ?_;intro w4 hS4;clear hS hS1 hS2 hS3;refine CVP_rd (first:=#[]) hS4 (str_of' (br:=br) (hb.mono hS4.zle) hl hq2) (by simp) ?_ ?_
 rotate_left
 ·rintro z5 w5 e q hz5 h5 hS5
  exact ⟨_,_,hS5.keep [.at br],e,q,by simp only [partR,anyR,andR,h2,h5],rfl,rfl⟩
 rintro z5 w5 v s q5 hz5 h5 hq5 ⟨rfl,hs⟩ hS5
 clear hS4;(repeat (first | refine V_run ?_ | (refine iU_st ?_; intro _ _)));rename_i hS6;refine CVP_rd (first:=#[]) hS6 (int_of (br:=br) (hb.mono hS6.zle) hl hq5) (by simp) ?_ ?_
 rotate_left
 ·rintro z7 w7 e q hz7 h7 hS7
  exact ⟨_,_,hS7.keep [.at br],e,q,by simp only [partR,anyR,andR,h2,h5,h7],rfl,rfl⟩
 rintro z7 w7 v n q7 hz7 h7 hq7 rfl hS7
 clear hS5 hS6;(repeat (first | refine V_run ?_ | refine iV_ldN ?_ | (refine iU_st ?_; intro _ _) | refine iHV_N ?_));rename_i hS8;exact ⟨_,_,hS8.keep [.at br],⟨k,s,n⟩,q7,by simp only [partR,anyR,andR,h2,h5,h7],hq7,⟨_,rfl,fun u hu=>by simp at hu; rcases hu with rfl | rfl | rfl <;> rfl,rfl,hs⟩,rfl⟩)
theorem item_of (hb:SlR El.byte z (.slice ab b.length cap) b) (hl:b.length <= 1000000) (hp:p <= b.length) :
  FnP 118 #[.pointer (some ⟨br,0,none⟩)] z [rdB br ab b.length cap p] w (RdR b br ab cap (relE El.item) (itemR b p)) (RdG b br ab cap (itemR b p)):=FnP.intro fun hS=>en118 (by
 unfold vc118;refine iV_al ?_;intro b2 w1 hb2 hS1;refine CVP_rd (first:=#[]) hS1 (many_of (br:=br) (top:=1) (by decide) hb hl hp) (by simp) ?_ ?_
 rotate_left
 ·rintro z2 w2 e q hz2 h2 hS2
  exact ⟨_,_,hS2.keep [.at br],e,q,by simp only [itemR,andR,h2],rfl,rfl⟩
 rintro z2 w2 v k q2 hz2 h2 hq2 rfl hS2
 (repeat (refine V_run ?_));refine iV_al ?_;intro bt w3 hbt hS3;refine iU_st ?_;intro w4 hS4;clear hS hS1 hS2 hS3;refine CVP_rd (first:=#[]) hS4 (str_of' (br:=br) (hb.mono hS4.zle) hl hq2) (by simp) ?_ ?_
 rotate_left
 ·rintro z5 w5 e q hz5 h5 hS5
  exact ⟨_,_,hS5.keep [.at br],e,q,by simp only [itemR,andR,h2,h5],rfl,rfl⟩
 rintro z5 w5 v s q5 hz5 h5 hq5 ⟨rfl,hs⟩ hS5
 clear hS4;(repeat (first | refine V_run ?_ | refine iV_ldN ?_ | (refine iU_st ?_; intro _ _) | refine iHV_N ?_));rename_i hS6;exact ⟨_,_,hS6.keep [.at br],⟨s,decide (k = 1)⟩,q5,by simp only [itemR,andR,h2,h5],hq5,⟨_,rfl,fun u hu=>by simp at hu; rcases hu with rfl | rfl <;> rfl,rfl,hs⟩,rfl⟩)
theorem spot_of (hb:SlR El.byte z (.slice ab b.length cap) b) (hl:b.length <= 1000000) (hp:p <= b.length) :
  FnP 120 #[.pointer (some ⟨br,0,none⟩)] z [rdB br ab b.length cap p] w (RdR b br ab cap (relE El.spot) (spotR b p)) (RdG b br ab cap (spotR b p)):=FnP.intro fun hS=>en120 (by
 unfold vc120;refine iV_al ?_;intro b2 w1 hb2 hS1;refine CVP_rd (first:=#[]) hS1 (int_of (br:=br) hb hl hp) (by simp) ?_ ?_
 rotate_left
 ·rintro z2 w2 e q hz2 h2 hS2
  exact ⟨_,_,hS2.keep [.at br],e,q,by simp only [spotR,anyR,andR,h2],rfl,rfl⟩
 rintro z2 w2 v k q2 hz2 h2 hq2 rfl hS2
 (repeat (refine V_run ?_));refine iV_al ?_;intro bt w3 hbt hS3;refine iU_st ?_;intro w4 hS4;clear hS hS1 hS2 hS3;refine CVP_rd (first:=#[]) hS4 (str_of' (br:=br) (hb.mono hS4.zle) hl hq2) (by simp) ?_ ?_
 rotate_left
 ·rintro z5 w5 e q hz5 h5 hS5
  exact ⟨_,_,hS5.keep [.at br],e,q,by simp only [spotR,anyR,andR,h2,h5],rfl,rfl⟩
 rintro z5 w5 v s q5 hz5 h5 hq5 ⟨rfl,hs⟩ hS5
 clear hS4;(repeat (first | refine V_run ?_ | refine iV_ldN ?_ | (refine iU_st ?_; intro _ _) | refine iHV_N ?_));rename_i hS6;exact ⟨_,_,hS6.keep [.at br],⟨s,k⟩,q5,by simp only [spotR,anyR,andR,h2,h5],hq5,⟨_,rfl,fun u hu=>by simp at hu; rcases hu with rfl | rfl <;> rfl,rfl,hs⟩,rfl⟩)
theorem ins_of (hb:SlR El.byte z (.slice ab b.length cap) b) (hl:b.length <= 1000000) (hp:p <= b.length) :
  FnP 122 #[.pointer (some ⟨br,0,none⟩)] z [rdB br ab b.length cap p] w (RdR b br ab cap (relE El.ins) (insR b p)) (RdG b br ab cap (insR b p)):=FnP.intro fun hS=>en122 (by
 unfold vc122;refine iV_al ?_;intro b2 w1 hb2 hS1;refine CVP_rd (first:=#[]) hS1 (int_of (br:=br) hb hl hp) (by simp) ?_ ?_
 rotate_left
 ·rintro z2 w2 e q hz2 h2 hS2
  exact ⟨_,_,hS2.keep [.at br],e,q,by simp only [insR,anyR,andR,h2],rfl,rfl⟩
 rintro z2 w2 v n1 q2 hz2 h2 hq2 rfl hS2
 (repeat (refine V_run ?_));refine iV_al ?_;intro bt w3 hbt hS3;refine iU_st ?_;intro w4 hS4;clear hS hS1 hS2 hS3;refine CVP_rd (first:=#[]) hS4 (int_of (br:=br) (hb.mono hS4.zle) hl hq2) (by simp) ?_ ?_
 rotate_left
 ·rintro z5 w5 e q hz5 h5 hS5
  exact ⟨_,_,hS5.keep [.at br],e,q,by simp only [insR,anyR,andR,h2,h5],rfl,rfl⟩
 rintro z5 w5 v n2 q5 hz5 h5 hq5 rfl hS5
 clear hS4;(repeat (first | refine V_run ?_ | (refine iU_st ?_; intro _ _)));rename_i hS6;refine CVP_rd (first:=#[]) hS6 (int_of (br:=br) (hb.mono hS6.zle) hl hq5) (by simp) ?_ ?_
 rotate_left
 ·rintro z7 w7 e q hz7 h7 hS7
  exact ⟨_,_,hS7.keep [.at br],e,q,by simp only [insR,anyR,andR,h2,h5,h7],rfl,rfl⟩
 rintro z7 w7 v n3 q7 hz7 h7 hq7 rfl hS7
 clear hS5 hS6;(repeat (first | refine V_run ?_ | (refine iU_st ?_; intro _ _)));rename_i hS8;refine CVP_rd (first:=#[]) hS8 (int_of (br:=br) (hb.mono hS8.zle) hl hq7) (by simp) ?_ ?_
 rotate_left
 ·rintro z9 w9 e q hz9 h9 hS9
  exact ⟨_,_,hS9.keep [.at br],e,q,by simp only [insR,anyR,andR,h2,h5,h7,h9],rfl,rfl⟩
 rintro z9 w9 v n4 q9 hz9 h9 hq9 rfl hS9
 clear hS7 hS8;(repeat (first | refine V_run ?_ | refine iV_ldN ?_ | (refine iU_st ?_; intro _ _) | refine iHV_N ?_));rename_i hS10;exact ⟨_,_,hS10.keep [.at br],⟨n1,n2,n3,n4⟩,q9,by simp only [insR,anyR,andR,h2,h5,h7,h9],hq9,⟨_,rfl,fun u hu=>by simp at hu; rcases hu with rfl | rfl | rfl | rfl <;> rfl,rfl⟩,rfl⟩)
end
def vcElm (T:Nat) (R:Value->World->Prop) (Pn:PnT) (w:World) (t0 t1 t2:Value):Prop:=
 CVP Pn (.func (.func 178) #[] #[]) #[t0,t1] w fun t11 w=>∃ (I0:List Value->World->Prop) (M0:List Value->World->Nat),I0 [(.slice none 0 0),(.int .i64 0)] w/\∀ g:Env,∀ t8,∀ t13,∀ w,I0 [t8,t13] w->∀ m0,m0 = M0 [t8,t13] w ->
 V (bi .lss 3 t13 t11) w fun t14 w=>CondW t14
 (CVP Pn t2 #[] w fun t17 w=>V (bs T 1 #[(0,t17)]) w fun t18 w=>V (Builtin.append_ #[T,T] T #[t8,t18]) w fun t19 w=>V (bi .add 3 t13 (.int .i64 1)) w fun t20 w=>
 I0 [t19,t20] w/\M0 [t19,t20] w < m0)
 (R t8 w)
section
variable {w:World} {z:Z} {br cap:Nat} {ab:Option Addr} {b:List UInt8} {p:Nat}
theorem elm_of {α:Type} {E:El α} {T e size bytes fe:Nat} [TyApp T e size bytes] [TySlice T e size] [TyFill e size] (hE:E.size = size) (hsz:size <= 1000) (hby:bytes <= 1000)
  (hen:∀ {R:Value->World->Prop} {Pn:PnT} {w:World} {t0 t1 t2:Value},vcElm T R Pn w t0 t1 t2->Calls Tryz.prog fe #[t0,t1,t2] w (retKP R Pn)) {top:Int} (ht0:0 <= top) (ht:top <= 12000) {fv:Value} {g:Nat->Except Nat (α × Nat)}
  (hf:∀ z' w' q,Le z z'->q <= b.length->VaP fv #[] z' [rdB br ab b.length cap (q:Nat)] w' (RdR b br ab cap (relE E) (g q)) (RdG b br ab cap (g q))) (hb:SlR El.byte z (.slice ab b.length cap) b) (hl:b.length <= 1000000) (hp:p <= b.length) :
  FnP fe #[.pointer (some ⟨br,0,none⟩),.int .i64 top,fv] z [rdB br ab b.length cap p] w (RdR b br ab cap (relL E) (manyR b top g p)) (RdG b br ab cap (manyR b top g p)):=FnP.intro fun hS=>hen (by
 unfold vcElm;refine CVP_rd (first:=#[]) hS (many_of (br:=br) (top:=top) (by simp only [far]; omega) hb hl hp) (by simp) ?_ ?_
 rotate_left
 ·rintro z2 w2 er q hz2 h2 hS2
  exact ⟨_,_,hS2,er,q,by simp only [manyR,andR,h2],rfl,rfl⟩
 rintro z2 w2 v n q2 hz2 h2 hq2 rfl hS2
 have hm:=num_mem h2;have hmany:manyR b top g p = seqR g n.toNat q2:=by simp only [manyR,andR,h2]
 rw [hmany];clear hS hmany h2;generalize hX:seqR g n.toNat q2 = X;refine LoopG2 (fun (s:List α × Nat) x y w'=>y = .int .i64 s.1.length/\s.1.length <= n.toNat/\s.2 <= b.length/\X = andR (seqR g (n.toNat - s.1.length) s.2) (fun l' r=>.ok (s.1 ++ l',r))/\∃ B us z',Le z2 z'/\OwnSl e size B x s.1.length us/\Lsl E z' us s.1/\Res w z [rdB br ab b.length cap p] w' z' (rdB br ab b.length cap (s.2:Nat) :: B)) (fun s=>n.toNat - s.1.length) ([],q2) ⟨rfl,Nat.zero_le _,hq2,?_,[],[],z2,Le.refl _,OwnSl.nil,Lsl.nil,hS2⟩ ?_
 ·rw [<- hX]
  simp only [List.length_nil,Nat.sub_zero,List.nil_append];unfold andR
  cases seqR g n.toNat q2 <;> rfl
 clear hX hS2 hq2;rintro I M ⟨l,q⟩ x y w3 m ⟨rfl,hk,hq,hx,B,us,z3,hz3,ho,hls,hS3⟩ back
 simp only at hk hq hx ho hls hS3;dsimp only;refine V_run ?_;refine Cond_d (fun h=>?_) (fun h=>?_)
 ·rw [show n.toNat - l.length = (n.toNat - (l.length + 1)) + 1 by omega,seqR] at hx
  refine CVP_va (B:=[rdB br ab b.length cap (q:Nat)]) (F:=B) hS3 (hf _ _ q (hz2.trans hz3) hq) ?_ ?_
  rotate_left
  ·rintro z4 B4 w4 c hz4 hS4 ⟨er,q',h4,rfl,rfl⟩
   have hS4':Res w z [rdB br ab b.length cap p] w4 z4 (rdB br ab b.length cap (q':Nat) :: B):=hS4;refine ⟨_,_,hS4'.keep [.at br],er,q',?_,rfl,rfl⟩;rw [hx,h4]
   rfl
  rintro z4 B4 w4 v4 hz4 hS4 ⟨y,q',h4,hq4,⟨cs,hcs,hone,hrel⟩,rfl⟩
  haveI:CellsOf v4 cs:=⟨hcs⟩
  haveI:LenIs cs size:=⟨by rw [E.len hrel,hE]⟩
  haveI:Ones cs:=⟨hone⟩
  haveI:InI ((l.length:Int) + 1):=⟨by omega⟩
  have hS4':Res w z [rdB br ab b.length cap p] w4 z4 (rdB br ab b.length cap (q':Nat) :: B):=hS4;refine V_push hS4' ho (by simp only [room]; have:(l.length + 1) * bytes <= (l.length + 1) * 1000:=Nat.mul_le_mul_left _ hby; omega) (by simp only [room]; omega) hsz ?_;intro B5 v5 w5 ho5 hS5;have hS6:=hS5.keep [.at br,.bl B5];rw [List.append_nil] at hS6;refine V_run ?_;refine back (l ++ [y],q') _ _ _ ⟨by simp,by simp; omega,hq4,?_,B5,_,z4,by (repeat (first | assumption | refine Le.trans ?_ (by assumption:Le _ _))),by rw [List.length_append]; exact ho5,(hls.mono hz4).push hrel,hS6⟩ (by simp; omega);rw [hx,h4];simp only [andR,List.length_append,List.length_cons,List.length_nil,Nat.zero_add]
  cases seqR g (n.toNat - (l.length + 1)) q' with
  | error e=>rfl
  | ok a=>simp
 ·have hend:n.toNat - l.length = 0:=by omega
  rw [hend] at hx;obtain ⟨z4,hz4,hS4,hv⟩:=Res.freezeL (E:=E) (e:=e) (hS3.bring B) (by rw [hE]; exact ho) hls (by simp only [big]; omega);exact ⟨_,_,hS4,l,q,by rw [hx]; simp [seqR,andR],hq,hv,rfl⟩)
end
end
section
open Go Q Go.RowKit
theorem SlR.form2 {α:Type} {E:El α} {z:Z} {v:Value} {xs:List α} (h:SlR E z v xs):∃ a c,v = .slice a xs.length c/\xs.length <= c:=let ⟨_,a,c,h1,h2,_⟩:=h.form; ⟨a,c,h1,h2⟩
end
section
open Go Q Go.RowKit
def decO (b:List UInt8):CodeM × Int × Int:=
 if 400000 < b.length then (noCode,0,3) else match decM b with
  | .error e=>(noCode,((e:Nat):Int),2)
  | .ok (c,_)=>if (checkM c).1 = 0 then (c,0,0) else (noCode,0,(checkM c).1)
theorem decO_long {b:List UInt8} (h:400000 < b.length):decO b = (noCode,0,3):=by unfold decO; rw [if_pos h]
theorem codeR_no {z:Z}:CodeR z (.agg [nilS,nilS,nilS,nilS,nilS,nilS].toArray) noCode:=⟨_,_,_,_,_,_,rfl,SlR.nil,SlR.nil,SlR.nil,SlR.nil,SlR.nil,SlR.nil⟩
end
section
open Go Q Go.RowKit
section
variable {w:World} {z:Z} {br cap:Nat} {ab:Option Addr} {b:List UInt8} {p:Nat}
theorem RdR.mono {α:Type} {rel rel':Z->Value->α->Prop} {g:Except Nat (α × Nat)} (h:∀ z v x,rel z v x->rel' z v x):∀ z' B' r,RdR b br ab cap rel g z' B' r->RdR b br ab cap rel' g z' B' r:=
 fun z' B' r ⟨x,q,h1,h2,h3,h4⟩=>⟨x,q,h1,h2,h _ _ _ h3,h4⟩
theorem relS_E:∀ z v x,relS z v x->relE El.str z v x:=fun z v x ⟨h1,h2⟩=>⟨[.string x],by rw [h1]; rfl,fun u hu=>by simp at hu; subst hu; rfl,rfl,h2⟩
theorem relL_E {α:Type} {E:El α}:∀ z v (x:List α),relL E z v x->relE (El.sl E) z v x:=fun z v x h=>by
 obtain ⟨a,c,rfl,_⟩:=SlR.form2 h;exact ⟨[.slice a x.length c],rfl,fun u hu=>by simp at hu; subst hu; rfl,_,rfl,h⟩
theorem strs_of {top:Int} (h0:0 <= top) (h1:top <= 12000) (hb:SlR El.byte z (.slice ab b.length cap) b) (hl:b.length <= 1000000) (hp:p <= b.length) :
  FnP 109 #[.pointer (some ⟨br,0,none⟩),.int .i64 top,.func (.func 110) #[.pointer (some ⟨br,0,none⟩)] #[]] z [rdB br ab b.length cap p] w (RdR b br ab cap (relL El.str) (manyR b top (strR b) p)) (RdG b br ab cap (manyR b top (strR b) p)):=
 elm_of (E:=El.str) (T:=22) (e:=9) (size:=1) rfl (by decide) (by decide) (fun h=>en109 h) h0 h1 (fun z' w' q hz hq=>FnP.va (FnP.mono (str_of' (hb.mono hz) hl hq) (RdR.mono relS_E) (fun _ _ _ h=>h)) (by simp)) hb hl hp
theorem spots_of {top:Int} (h0:0 <= top) (h1:top <= 12000) (hb:SlR El.byte z (.slice ab b.length cap) b) (hl:b.length <= 1000000) (hp:p <= b.length) :
  FnP 119 #[.pointer (some ⟨br,0,none⟩),.int .i64 top,.func (.func 120) #[.pointer (some ⟨br,0,none⟩)] #[]] z [rdB br ab b.length cap p] w (RdR b br ab cap (relL El.spot) (manyR b top (spotR b) p)) (RdG b br ab cap (manyR b top (spotR b) p)):=
 elm_of (E:=El.spot) (T:=25) (e:=54) (size:=2) rfl (by decide) (by decide) (fun h=>en119 h) h0 h1 (fun z' w' q hz hq=>FnP.va (spot_of (hb.mono hz) hl hq) (by simp)) hb hl hp
theorem inss_of {top:Int} (h0:0 <= top) (h1:top <= 12000) (hb:SlR El.byte z (.slice ab b.length cap) b) (hl:b.length <= 1000000) (hp:p <= b.length) :
  FnP 121 #[.pointer (some ⟨br,0,none⟩),.int .i64 top,.func (.func 122) #[.pointer (some ⟨br,0,none⟩)] #[]] z [rdB br ab b.length cap p] w (RdR b br ab cap (relL El.ins) (manyR b top (insR b) p)) (RdG b br ab cap (manyR b top (insR b) p)):=
 elm_of (E:=El.ins) (T:=26) (e:=38) (size:=4) rfl (by decide) (by decide) (fun h=>en121 h) h0 h1 (fun z' w' q hz hq=>FnP.va (ins_of (hb.mono hz) hl hq) (by simp)) hb hl hp
theorem parts_of' {top:Int} (h0:0 <= top) (h1:top <= 12000) (hb:SlR El.byte z (.slice ab b.length cap) b) (hl:b.length <= 1000000) (hp:p <= b.length) :
  FnP 113 #[.pointer (some ⟨br,0,none⟩),.int .i64 top,.func (.func 114) #[.pointer (some ⟨br,0,none⟩)] #[]] z [rdB br ab b.length cap p] w (RdR b br ab cap (relL El.part) (manyR b top (partR b) p)) (RdG b br ab cap (manyR b top (partR b) p)):=
 elm_of (E:=El.part) (T:=93) (e:=95) (size:=3) rfl (by decide) (by decide) (fun h=>en113 h) h0 h1 (fun z' w' q hz hq=>FnP.va (part_of (hb.mono hz) hl hq) (by simp)) hb hl hp
theorem items_of {top:Int} (h0:0 <= top) (h1:top <= 12000) (hb:SlR El.byte z (.slice ab b.length cap) b) (hl:b.length <= 1000000) (hp:p <= b.length) :
  FnP 117 #[.pointer (some ⟨br,0,none⟩),.int .i64 top,.func (.func 118) #[.pointer (some ⟨br,0,none⟩)] #[]] z [rdB br ab b.length cap p] w (RdR b br ab cap (relL El.item) (manyR b top (itemR b) p)) (RdG b br ab cap (manyR b top (itemR b) p)):=
 elm_of (E:=El.item) (T:=96) (e:=98) (size:=2) rfl (by decide) (by decide) (fun h=>en117 h) h0 h1 (fun z' w' q hz hq=>FnP.va (item_of (hb.mono hz) hl hq) (by simp)) hb hl hp
theorem dec2_of {bv:Nat} (hat:At z bv 0 [.pointer (some ⟨br,0,none⟩)]) (hb:SlR El.byte z (.slice ab b.length cap) b) (hl:b.length <= 1000000) (hp:p <= b.length) :
  FnP 112 #[.pointer (some ⟨bv,0,none⟩)] z [rdB br ab b.length cap p] w (RdR b br ab cap (relE (El.sl El.part)) (manyR b 100 (partR b) p)) (RdG b br ab cap (manyR b 100 (partR b) p)):=FnP.intro fun hS=>en112 (by
 unfold vc112;haveI:Fz z bv 0 [.pointer (some ⟨br,0,none⟩)]:=⟨hat⟩
 (repeat (refine fV_ld1 ?_));refine CVP_rd (first:=#[]) hS (parts_of' (br:=br) (top:=100) (by decide) (by decide) hb hl hp) (by simp) ?_ ?_
 ·rintro z1 w1 v x q hz1 h1 hq hv hS1
  exact ⟨_,_,hS1,x,q,h1,hq,relL_E _ _ _ hv,rfl⟩
 ·rintro z1 w1 e q hz1 h1 hS1
  exact ⟨_,_,hS1,e,q,h1,rfl,rfl⟩)
theorem dec3_of {bv:Nat} (hat:At z bv 0 [.pointer (some ⟨br,0,none⟩)]) (hb:SlR El.byte z (.slice ab b.length cap) b) (hl:b.length <= 1000000) (hp:p <= b.length) :
  FnP 116 #[.pointer (some ⟨bv,0,none⟩)] z [rdB br ab b.length cap p] w (RdR b br ab cap (relE (El.sl El.item)) (manyR b 10000 (itemR b) p)) (RdG b br ab cap (manyR b 10000 (itemR b) p)):=FnP.intro fun hS=>en116 (by
 unfold vc116;haveI:Fz z bv 0 [.pointer (some ⟨br,0,none⟩)]:=⟨hat⟩
 (repeat (refine fV_ld1 ?_));refine CVP_rd (first:=#[]) hS (items_of (br:=br) (top:=10000) (by decide) (by decide) hb hl hp) (by simp) ?_ ?_
 ·rintro z1 w1 v x q hz1 h1 hq hv hS1
  exact ⟨_,_,hS1,x,q,h1,hq,relL_E _ _ _ hv,rfl⟩
 ·rintro z1 w1 e q hz1 h1 hS1
  exact ⟨_,_,hS1,e,q,h1,rfl,rfl⟩)
theorem tmpls_of {bv:Nat} (hat:At z bv 0 [.pointer (some ⟨br,0,none⟩)]) (hb:SlR El.byte z (.slice ab b.length cap) b) (hl:b.length <= 1000000) (hp:p <= b.length) :
  FnP 111 #[.pointer (some ⟨br,0,none⟩),.int .i64 3000,.func (.func 112) #[] #[.pointer (some ⟨bv,0,none⟩)]] z [rdB br ab b.length cap p] w (RdR b br ab cap (relL (El.sl El.part)) (manyR b 3000 (manyR b 100 (partR b)) p)) (RdG b br ab cap (manyR b 3000 (manyR b 100 (partR b)) p)):=
 elm_of (E:=El.sl El.part) (T:=23) (e:=93) (size:=1) rfl (by decide) (by decide) (fun h=>en111 h) (by decide) (by decide) (fun z' w' q hz hq=>FnP.va (dec2_of (hat.mono hz) (hb.mono hz) hl hq) (by simp)) hb hl hp
theorem lists_of {bv:Nat} (hat:At z bv 0 [.pointer (some ⟨br,0,none⟩)]) (hb:SlR El.byte z (.slice ab b.length cap) b) (hl:b.length <= 1000000) (hp:p <= b.length) :
  FnP 115 #[.pointer (some ⟨br,0,none⟩),.int .i64 3000,.func (.func 116) #[] #[.pointer (some ⟨bv,0,none⟩)]] z [rdB br ab b.length cap p] w (RdR b br ab cap (relL (El.sl El.item)) (manyR b 3000 (manyR b 10000 (itemR b)) p)) (RdG b br ab cap (manyR b 3000 (manyR b 10000 (itemR b)) p)):=
 elm_of (E:=El.sl El.item) (T:=24) (e:=96) (size:=1) rfl (by decide) (by decide) (fun h=>en115 h) (by decide) (by decide) (fun z' w' q hz hq=>FnP.va (dec3_of (hat.mono hz) (hb.mono hz) hl hq) (by simp)) hb hl hp
end
end
section
open Go Q Go.RowKit
theorem torn_close {w0 w:World} {z0 z:Z} {B0 F:Bl} {K:World->Prop} {b2 b3 b4 e:Nat} {x1 x2 x3 x4 x5 x6:Value} {i j:Int}
  (hS:Res w0 z0 B0 w z ((b2,.cells [x1,x2,x3,x4,x5,x6].toArray 28 (0,0)) :: (b3,.cells [.int .i64 i].toArray 3 (0,0)) :: (b4,.cells [.int .i64 j].toArray 31 (0,0)) :: F))
  (hk:∀ w',Res w0 z0 B0 w' z ((b2,.cells [nilS,nilS,nilS,nilS,nilS,nilS].toArray 28 (0,0)) :: (b3,.cells [.int .i64 (e:Nat)].toArray 3 (0,0)) :: (b4,.cells [.int .i64 2].toArray 31 (0,0)) :: F)->K w') :
  ClW (.func (.func 106) #[] #[.pointer (some ⟨b2,0,none⟩),.pointer (some ⟨b3,0,none⟩),.pointer (some ⟨b4,0,none⟩)]) (.panicking (tornP e)) w K:=en106 (by
 unfold vc106;refine ⟨_,_,neq_if (TyIf.of (by kernel_rfl)) _,?_⟩;refine Cond_t ?_;refine ⟨_,_,ta_own (by kernel_rfl) _,?_⟩;(repeat (refine V_run ?_));refine iV_al ?_;intro b5 w5 hb5 hS5;refine iU_st ?_;intro w6 hS6;intro K0 hK0;refine V_run ?_;refine Cond_f ?_;refine hK0 _ fun _=>?_
 (repeat (first | (refine iDr ?_; intro _ _) | refine PV_run ?_ | (refine iU_st ?_; intro _ _) | refine iHV_1 ?_ | refine iRI_1 ?_));rename_i hS7;exact hk _ (hS7.keep [.at b2,.at b3,.at b4,.bl F] |> fun h=>by simpa using h))
theorem calm_close {w:World} {K:World->Prop} {t0 t1 t2:Value} (hk:K w):ClW (.func (.func 106) #[] #[t0,t1,t2]) .returning w K:=er106 (by
 unfold vc106;refine ⟨_,_,neq_no (TyIf.of (by kernel_rfl)) _,?_⟩;exact Cond_f hk)
theorem decO_e {b:List UInt8} {e:Nat} (h:¬ 400000 < b.length) (hd:decM b = .error e):decO b = (noCode,((e:Nat):Int),2):=by unfold decO; rw [if_neg h,hd]
theorem decO_o {b:List UInt8} {c:CodeM} {q:Nat} (h:¬ 400000 < b.length) (hd:decM b = .ok (c,q)):decO b = if (checkM c).1 = 0 then (c,0,0) else (noCode,0,(checkM c).1):=by unfold decO; rw [if_neg h,hd]
theorem decode_of {z:Z} {w:World} {v:Value} {b:List UInt8} (hb:SlR El.byte z v b) (hl:b.length <= 1000000):Fn1 37 #[v] z w fun z' r=>∃ v1 v2 v3 v4 v5 v6,CodeR z' (.agg [v1,v2,v3,v4,v5,v6].toArray) (decO b).1/\r = .tuple #[.agg [v1,v2,v3,v4,v5,v6].toArray,.int .i64 (decO b).2.1,.int .i64 (decO b).2.2]:=Fn1.intro fun hS=>en37 (by
 unfold vc37;generalize hRR:(fun (v:Value) (w':World)=>∃ z' L',Res w z [] w' z' L'/\∃ v1 v2 v3 v4 v5 v6,CodeR z' (.agg [v1,v2,v3,v4,v5,v6].toArray) (decO b).1/\v = .tuple #[.agg [v1,v2,v3,v4,v5,v6].toArray,.int .i64 (decO b).2.1,.int .i64 (decO b).2.2]) = RR;have hR:∀ z' w' L' v1 v2 v3 v4 v5 v6 c p e,Res w z [] w' z' L'->decO b = (c,p,e)->CodeR z' (.agg [v1,v2,v3,v4,v5,v6].toArray) c->RR (.tuple #[.agg [v1,v2,v3,v4,v5,v6].toArray,.int .i64 p,.int .i64 e]) w':=fun z' w' L' v1 v2 v3 v4 v5 v6 c p e k he hc=>by rw [<- hRR,he]; exact ⟨_,_,k,_,_,_,_,_,_,hc,rfl⟩
 clear hRR;obtain ⟨_,a,cap,rfl,hcap,hel⟩:=hb.form;refine iV_al ?_;intro b2 w1 hb2 hS1;refine iV_al ?_;intro b3 w2 hb3 hS2;refine iV_al ?_;intro b4 w3 hb4 hS3;clear hS hS1 hS2;generalize hPP:(fun (c:List PanicEntry) (w:World)=>ClW (.func (.func 106) #[] #[.pointer (some ⟨b2,0,none⟩),.pointer (some ⟨b3,0,none⟩),.pointer (some ⟨b4,0,none⟩)]) (.panicking c) w fun w=>CW 28 (.pointer (some ⟨b2,0,none⟩)) w fun t1002=>CW 3 (.pointer (some ⟨b3,0,none⟩)) w fun t1003=>CW 31 (.pointer (some ⟨b4,0,none⟩)) w fun t1004=>RR (.tuple #[t1002,t1003,t1004]) w) = PP;(repeat (refine V_run ?_));refine Cond_d (fun h=>?_) (fun h=>?_)
 ·(repeat (first | refine V_run ?_ | (refine iU_st ?_; intro _ _) | refine iHV_1 ?_ | refine iHV_N ?_))
  exact hR _ _ _ _ _ _ _ _ _ _ _ _ (by assumption) (decO_long (by omega)) codeR_no
 have hlong:¬ 400000 < b.length:=by omega
 (repeat (refine V_run ?_));refine iV_bx ?_;intro br w4 hbr hS4;refine iV_al ?_;intro bv w5 hbv hS5;refine iU_st ?_;intro w6 hS6;clear hS3 hS4 hS5;obtain ⟨zc,hzc,hS7,hatv⟩:=hS6.frz bv;clear hS6;generalize hLL:[(br,Obj.cells [Value.slice a b.length cap,Value.int .i64 0].toArray 177 (0,0)),(b4,Obj.cells [Value.int .i64 0].toArray 31 (0,0)),(b3,Obj.cells [Value.int .i64 0].toArray 3 (0,0)),(b2,Obj.cells [nilS,nilS,nilS,nilS,nilS,nilS].toArray 28 (0,0))] = LL;have hS7':Res w z [] w6 zc LL:=by rw [<- hLL]; exact hS7
 have hS8:Res w6 zc LL w6 zc [(br,Obj.cells [Value.slice a b.length cap,Value.int .i64 0].toArray 177 (0,0)),(b4,Obj.cells [Value.int .i64 0].toArray 31 (0,0)),(b3,Obj.cells [Value.int .i64 0].toArray 3 (0,0)),(b2,Obj.cells [nilS,nilS,nilS,nilS,nilS,nilS].toArray 28 (0,0))]:=by rw [hLL]; exact hS7'.self
 have hR2:∀ z' w' L' v1 v2 v3 v4 v5 v6 c p e,Res w6 zc LL w' z' L'->decO b = (c,p,e)->CodeR z' (.agg [v1,v2,v3,v4,v5,v6].toArray) c->RR (.tuple #[.agg [v1,v2,v3,v4,v5,v6].toArray,.int .i64 p,.int .i64 e]) w':=fun z' w' L' v1 v2 v3 v4 v5 v6 c p e k he hc=>hR _ _ _ _ _ _ _ _ _ _ _ _ (hS7'.comp k) he hc
 clear hS7 hLL;have hP2:∀ (e:Nat) z' w' x1 x2 x3 x4 x5 x6 F,Res w6 zc LL w' z' ((b2,.cells [x1,x2,x3,x4,x5,x6].toArray 28 (0,0)) :: (b3,.cells [.int .i64 0].toArray 3 (0,0)) :: (b4,.cells [.int .i64 0].toArray 31 (0,0)) :: F)->decM b = .error e->PP (tornP e) w':=by
  intro e z' w' x1 x2 x3 x4 x5 x6 F hSp hde;rw [<- hPP];refine torn_close hSp ?_;intro w'' hSq;clear hSp hS8;(repeat (first | refine iHV_1 ?_ | refine iHV_N ?_));exact hR2 _ _ _ _ _ _ _ _ _ _ _ _ (by assumption) (decO_e hlong hde) codeR_no
 clear hPP hR;haveI:Fz zc bv 0 [.pointer (some ⟨br,0,none⟩)]:=⟨hatv⟩
 replace hb:=hb.mono hzc;clear h;(repeat (refine fV_ld1 ?_));refine CVP_more (p:=0) hS8 (Nat.zero_le _) hl ?_ ?_
 rotate_left
 ·intro hx z' w' hz' hS'
  have hb0:b = []:=List.eq_nil_of_length_eq_zero (by omega);refine hP2 _ _ _ _ _ _ _ _ _ _ (hS'.keep [.at b2,.at b3,.at b4]) ?_;subst hb0
  rfl
 intro hx z9 w9 hz9 hS9;clear hS8;obtain ⟨x,tl,hbx⟩:∃ x tl,b = x :: tl:=by
  cases b with
  | nil=>simp at hx
  | cons x tl=>exact ⟨x,tl,rfl⟩
 have hx0:b[0]? = some x:=by rw [hbx]; rfl
 have hpos:0 < b.length:=by omega
 have hd0:decM b = if x ≠ 81 then .error 0 else
  andR (manyR b 3000 (strR b) 1) fun c1 p1=>andR (manyR b 3000 (manyR b 100 (partR b)) p1) fun c2 p2=>andR (manyR b 3000 (manyR b 10000 (itemR b)) p2) fun c3 p3=>
  andR (manyR b 3000 (spotR b) p3) fun c4 p4=>andR (manyR b 100 (strR b) p4) fun c5 p5=>andR (manyR b 12000 (insR b) p5) fun c6 p6=>
  if p6 < b.length then .error b.length else .ok (⟨c1,c2,c3,c4,c5,c6⟩,p6):=by rw [hbx]; rfl
 obtain ⟨_,_,_,hve,_,hel⟩:=hb.form
 cases hve
 obtain ⟨bb,off,_,rfl,rfl,hatx⟩:=hel 0 x hx0;haveI:InR 0 (b.length:Nat):=⟨by decide,by omega⟩
 haveI:Fz zc bb (off + Int.toNat 0 * 1) [.int .u8 x.toNat]:=⟨hatx⟩
 (repeat (first | (refine iDr ?_; intro _ _) | refine PV_run ?_ | refine fHV_ld1 ?_));rename_i hS9b;clear hS9;refine CVP_fail (e:=0) hS9b ?_ ?_
 rotate_left
 ·intro hc z' w' hz' hS'
  have hc:=of_decide_eq_false hc;refine hP2 _ _ _ _ _ _ _ _ _ _ (hS'.keep [.at b2,.at b3,.at b4]) ?_;rw [hd0,if_pos];rintro rfl
  exact hc rfl
 intro hc z9c w9c hz9c hS9c;have hc:=of_decide_eq_true hc;have hx81:x = 81:=by
  apply UInt8.toNat_inj.1
  have h81:(81:UInt8).toNat = 81:=rfl;omega
 rw [if_neg (by simp [hx81])] at hd0;clear hS9b;(repeat (first | refine V_run ?_ | (refine iU_st ?_; intro _ _) | refine fRI_1 ?_ | refine fV_ld1 ?_));rename_i hS10;clear hS9c;have h1len:1 <= b.length:=hpos;refine CVP_rd (first:=#[]) hS10 (strs_of (br:=br) (top:=3000) (by decide) (by decide) (hb.mono (by (repeat (exact Res.zle (by assumption))))) hl h1len) (by simp) ?_ ?_
 rotate_left
 ·rintro z' w' e q hz' h1 hS'
  exact hP2 e _ _ _ _ _ _ _ _ _ (hS'.keep [.at b2,.at b3,.at b4]) (by rw [hd0]; simp only [andR,h1])
 rintro zs1 ws1 y1 l1 q1 hzs1 h1 hq1 hv1 hSs1
 rw [h1] at hd0;simp only [andR] at hd0;clear hS10 h1;obtain ⟨as1,cs1,rfl,_⟩:=SlR.form2 hv1;(repeat (first | refine V_run ?_ | (refine iU_st ?_; intro _ _) | refine fV_ld1 ?_));rename_i hSt1;clear hSs1;refine CVP_rd (first:=#[]) hSt1 (tmpls_of (br:=br) (hatv.mono (by (repeat (exact Res.zle (by assumption))))) (hb.mono (by (repeat (exact Res.zle (by assumption))))) hl hq1) (by simp) ?_ ?_
 rotate_left
 ·rintro z' w' e q hz' h1 hS'
  exact hP2 e _ _ _ _ _ _ _ _ _ (hS'.keep [.at b2,.at b3,.at b4]) (by rw [hd0]; simp only [andR,h1])
 rintro zs2 ws2 y2 l2 q2 hzs2 h1 hq2 hv2 hSs2
 rw [h1] at hd0;simp only [andR] at hd0;clear hSt1 h1;obtain ⟨as2,cs2,rfl,_⟩:=SlR.form2 hv2;(repeat (first | refine V_run ?_ | (refine iU_st ?_; intro _ _) | refine fV_ld1 ?_));rename_i hSt2;clear hSs2;refine CVP_rd (first:=#[]) hSt2 (lists_of (br:=br) (hatv.mono (by (repeat (exact Res.zle (by assumption))))) (hb.mono (by (repeat (exact Res.zle (by assumption))))) hl hq2) (by simp) ?_ ?_
 rotate_left
 ·rintro z' w' e q hz' h1 hS'
  exact hP2 e _ _ _ _ _ _ _ _ _ (hS'.keep [.at b2,.at b3,.at b4]) (by rw [hd0]; simp only [andR,h1])
 rintro zs3 ws3 y3 l3 q3 hzs3 h1 hq3 hv3 hSs3
 rw [h1] at hd0;simp only [andR] at hd0;clear hSt2 h1;obtain ⟨as3,cs3,rfl,_⟩:=SlR.form2 hv3;(repeat (first | refine V_run ?_ | (refine iU_st ?_; intro _ _) | refine fV_ld1 ?_));rename_i hSt3;clear hSs3;refine CVP_rd (first:=#[]) hSt3 (spots_of (br:=br) (top:=3000) (by decide) (by decide) (hb.mono (by (repeat (exact Res.zle (by assumption))))) hl hq3) (by simp) ?_ ?_
 rotate_left
 ·rintro z' w' e q hz' h1 hS'
  exact hP2 e _ _ _ _ _ _ _ _ _ (hS'.keep [.at b2,.at b3,.at b4]) (by rw [hd0]; simp only [andR,h1])
 rintro zs4 ws4 y4 l4 q4 hzs4 h1 hq4 hv4 hSs4
 rw [h1] at hd0;simp only [andR] at hd0;clear hSt3 h1;obtain ⟨as4,cs4,rfl,_⟩:=SlR.form2 hv4;(repeat (first | refine V_run ?_ | (refine iU_st ?_; intro _ _) | refine fV_ld1 ?_));rename_i hSt4;clear hSs4;refine CVP_rd (first:=#[]) hSt4 (strs_of (br:=br) (top:=100) (by decide) (by decide) (hb.mono (by (repeat (exact Res.zle (by assumption))))) hl hq4) (by simp) ?_ ?_
 rotate_left
 ·rintro z' w' e q hz' h1 hS'
  exact hP2 e _ _ _ _ _ _ _ _ _ (hS'.keep [.at b2,.at b3,.at b4]) (by rw [hd0]; simp only [andR,h1])
 rintro zs5 ws5 y5 l5 q5 hzs5 h1 hq5 hv5 hSs5
 rw [h1] at hd0;simp only [andR] at hd0;clear hSt4 h1;obtain ⟨as5,cs5,rfl,_⟩:=SlR.form2 hv5;(repeat (first | refine V_run ?_ | (refine iU_st ?_; intro _ _) | refine fV_ld1 ?_));rename_i hSt5;clear hSs5;refine CVP_rd (first:=#[]) hSt5 (inss_of (br:=br) (top:=12000) (by decide) (by decide) (hb.mono (by (repeat (exact Res.zle (by assumption))))) hl hq5) (by simp) ?_ ?_
 rotate_left
 ·rintro z' w' e q hz' h1 hS'
  exact hP2 e _ _ _ _ _ _ _ _ _ (hS'.keep [.at b2,.at b3,.at b4]) (by rw [hd0]; simp only [andR,h1])
 rintro zs6 ws6 y6 l6 q6 hzs6 h1 hq6 hv6 hSs6
 rw [h1] at hd0;simp only [andR] at hd0;clear hSt5 h1;obtain ⟨as6,cs6,rfl,_⟩:=SlR.form2 hv6;(repeat (first | (refine iDr ?_; intro _ _) | refine V_run ?_ | refine PV_run ?_ | (refine iU_st ?_; intro _ _) | refine iHV_1 ?_ | refine fHV_ld1 ?_));rename_i hSt6;clear hSs6;refine CVP_fail hSt6 ?_ ?_
 rotate_left
 ·intro hc z' w' hz' hS'
  have hc:=of_decide_eq_false hc;rw [if_pos (by omega)] at hd0;exact hP2 _ _ _ _ _ _ _ _ _ _ (hS'.keep [.at b2,.at b3,.at b4]) hd0
 intro hc z12 w12 hz12 hS12;have hc:=of_decide_eq_true hc;rw [if_neg (by omega)] at hd0;clear hSt6;have hcode:CodeR z12 (.agg [.slice as1 l1.length cs1,.slice as2 l2.length cs2,.slice as3 l3.length cs3,.slice as4 l4.length cs4,.slice as5 l5.length cs5,.slice as6 l6.length cs6].toArray) ⟨l1,l2,l3,l4,l5,l6⟩:=
  ⟨_,_,_,_,_,_,rfl,SlR.mono hv1 (by (repeat (first | assumption | refine Le.trans ?_ (by assumption:Le _ _)))),SlR.mono hv2 (by (repeat (first | assumption | refine Le.trans ?_ (by assumption:Le _ _)))),SlR.mono hv3 (by (repeat (first | assumption | refine Le.trans ?_ (by assumption:Le _ _)))),SlR.mono hv4 (by (repeat (first | assumption | refine Le.trans ?_ (by assumption:Le _ _)))),SlR.mono hv5 (by (repeat (first | assumption | refine Le.trans ?_ (by assumption:Le _ _)))),SlR.mono hv6 (by (repeat (assumption)))⟩
 have hdo:=decO_o hlong hd0;generalize (⟨l1,l2,l3,l4,l5,l6⟩:CodeM) = c at hcode hdo;(repeat (first | refine iV_ldN ?_ | refine iRI_1 ?_ | refine fRI_1 ?_));refine CVP_may (CV_1 (check_of hcode) ?_);rintro z13 w13 v13 hz13 hS13 rfl
 clear hS12;(repeat (refine V_run ?_));refine Cond_n (fun hck=>?_) (fun hck=>?_)
 ·have hck:¬ (checkM c).1 = 0:=by simpa using hck
  rw [if_neg hck] at hdo;(repeat (first | refine V_run ?_ | (refine iU_st ?_; intro _ _)));refine calm_close ?_;(repeat (first | refine iHV_1 ?_ | refine iHV_N ?_));exact hR2 _ _ _ _ _ _ _ _ _ _ _ _ (by assumption) hdo codeR_no
 ·have hck:(checkM c).1 = 0:=by simpa using hck
  rw [if_pos hck] at hdo;(repeat (first | refine iV_ldN ?_ | (refine iU_st ?_; intro _ _)));refine calm_close ?_;(repeat (first | refine iHV_1 ?_ | refine iHV_N ?_));exact hR2 _ _ _ _ _ _ _ _ _ _ _ _ (by assumption) hdo (hcode.mono (by (repeat (assumption)))))
end
section
open Go Q Go.RowKit
end
section
open Go Q Go.RowKit
end
section
open Go Q Go.RowKit
theorem sameParts_of {z:Z} {w:World} {v u:Value} {l m:List PartM} (hv:SlR El.part z v l) (hu:SlR El.part z u m):Fn1 70 #[v,u] z w fun _ r=>∃ b,r = .bool b/\(b = true ↔ l = m):=Fn1.intro fun hS=>en70 (by
 unfold vc70;obtain ⟨hb1,a1,c1,rfl,_,hel1⟩:=hv.form;obtain ⟨hb2,a2,c2,rfl,_,hel2⟩:=hu.form;refine V_run ?_;refine V_run ?_;refine V_run ?_;refine Cond_nd (fun h=>?_) (fun h=>?_)
 ·exact ⟨_,_,hS,false,rfl,by simp; intro e; rw [e] at h; omega⟩
 have hlm:l.length = m.length:=by omega
 refine LoopR1 (fun (k:Nat) x=>x = .int .i64 k/\k <= l.length/\∀ i,i < k->l[i]? = m[i]?) (fun k=>l.length - k) 0 ⟨rfl,Nat.zero_le _,fun i hi=>by omega⟩ ?_;rintro I M k x w1 z1 m1 ⟨rfl,hk,hall⟩ hz1 hS1 back
 clear hS;refine V_run ?_;refine V_run ?_;refine Cond_d (fun h=>?_) (fun h=>?_)
 ·have hk1:k < l.length:=by omega
  have hk2:k < m.length:=by omega
  obtain ⟨b,off,cs,rfl,hr,hat⟩:=hel1 _ _ (List.getElem?_eq_getElem hk1);obtain ⟨b',off',cs',rfl,hr',hat'⟩:=hel2 _ _ (List.getElem?_eq_getElem hk2);have hr:=hr.1;have hr':=hr'.1
  cases hr; cases hr'
  haveI:InR (k:Int) (l.length:Nat):=⟨by omega,by omega⟩
  haveI:InR (k:Int) (m.length:Nat):=⟨by omega,by omega⟩
  haveI:InI ((k:Int) + 1):=⟨by simp only [big] at hb1; omega⟩
  haveI:Fz z b (off + (k:Int).toNat * 3) l[k].cells:=⟨hat⟩
  haveI:Fz z b' (off' + (k:Int).toNat * 3) m[k].cells:=⟨hat'⟩
  have g1:l[k]? = some l[k]:=List.getElem?_eq_getElem hk1;have g2:m[k]? = some m[k]:=List.getElem?_eq_getElem hk2;generalize l[k] = p at *;generalize m[k] = q at *;(repeat (first | (refine iDr ?_; intro _ _) | refine PV_run ?_ | refine fHV_ldN ?_));have hpq:(decide (p.kind = q.kind) && (decide (p.text = q.text) && (decide (p.n = q.n) && true))) = true ↔ p = q:=by cases p; cases q; simp
  refine Cond_n (fun h3=>?_) (fun h3=>?_)
  ·refine ⟨_,_,‹_›,false,rfl,?_⟩
   have:¬ p = q:=fun e=>by rw [hpq.2 e] at h3; cases h3
   constructor
   ·intro e; cases e
   ·intro e; subst e; rw [g1] at g2; cases g2; exact absurd rfl this
  ·refine V_run ?_
   refine back (k + 1) _ _ _ ⟨by simp,by omega,fun i hi=>?_⟩ (Le.refl _) (by assumption) (by omega)
   rcases Nat.lt_or_eq_of_le (Nat.le_of_lt_succ hi) with hi | hi
   ·exact hall i hi
   ·subst hi; rw [g1,g2,hpq.1 h3]
 ·refine ⟨_,_,hS1,true,rfl,?_⟩
  simp only [true_iff]
  apply List.ext_getElem?
  intro i
  by_cases hi:i < k
  ·exact hall i hi
  ·rw [List.getElem?_eq_none (by omega),List.getElem?_eq_none (by omega)])
theorem sameItems_of {z:Z} {w:World} {v u:Value} {l m:List ItemM} (hv:SlR El.item z v l) (hu:SlR El.item z u m):Fn1 71 #[v,u] z w fun _ r=>∃ b,r = .bool b/\(b = true ↔ l = m):=Fn1.intro fun hS=>en71 (by
 unfold vc71;obtain ⟨hb1,a1,c1,rfl,_,hel1⟩:=hv.form;obtain ⟨hb2,a2,c2,rfl,_,hel2⟩:=hu.form;refine V_run ?_;refine V_run ?_;refine V_run ?_;refine Cond_nd (fun h=>?_) (fun h=>?_)
 ·exact ⟨_,_,hS,false,rfl,by simp; intro e; rw [e] at h; omega⟩
 have hlm:l.length = m.length:=by omega
 refine LoopR1 (fun (k:Nat) x=>x = .int .i64 k/\k <= l.length/\∀ i,i < k->l[i]? = m[i]?) (fun k=>l.length - k) 0 ⟨rfl,Nat.zero_le _,fun i hi=>by omega⟩ ?_;rintro I M k x w1 z1 m1 ⟨rfl,hk,hall⟩ hz1 hS1 back
 clear hS;refine V_run ?_;refine V_run ?_;refine Cond_d (fun h=>?_) (fun h=>?_)
 ·have hk1:k < l.length:=by omega
  have hk2:k < m.length:=by omega
  obtain ⟨b,off,cs,rfl,hr,hat⟩:=hel1 _ _ (List.getElem?_eq_getElem hk1);obtain ⟨b',off',cs',rfl,hr',hat'⟩:=hel2 _ _ (List.getElem?_eq_getElem hk2);have hr:=hr.1;have hr':=hr'.1
  cases hr; cases hr'
  haveI:InR (k:Int) (l.length:Nat):=⟨by omega,by omega⟩
  haveI:InR (k:Int) (m.length:Nat):=⟨by omega,by omega⟩
  haveI:InI ((k:Int) + 1):=⟨by simp only [big] at hb1; omega⟩
  haveI:Fz z b (off + (k:Int).toNat * 2) l[k].cells:=⟨hat⟩
  haveI:Fz z b' (off' + (k:Int).toNat * 2) m[k].cells:=⟨hat'⟩
  have g1:l[k]? = some l[k]:=List.getElem?_eq_getElem hk1;have g2:m[k]? = some m[k]:=List.getElem?_eq_getElem hk2;generalize l[k] = p at *;generalize m[k] = q at *;(repeat (first | (refine iDr ?_; intro _ _) | refine PV_run ?_ | refine fHV_ldN ?_));have hpq:(decide (p.name = q.name) && (p.via == q.via && true)) = true ↔ p = q:=by cases p; cases q; simp
  refine Cond_n (fun h3=>?_) (fun h3=>?_)
  ·refine ⟨_,_,‹_›,false,rfl,?_⟩
   have:¬ p = q:=fun e=>by rw [hpq.2 e] at h3; cases h3
   constructor
   ·intro e; cases e
   ·intro e; subst e; rw [g1] at g2; cases g2; exact absurd rfl this
  ·refine V_run ?_
   refine back (k + 1) _ _ _ ⟨by simp,by omega,fun i hi=>?_⟩ (Le.refl _) (by assumption) (by omega)
   rcases Nat.lt_or_eq_of_le (Nat.le_of_lt_succ hi) with hi | hi
   ·exact hall i hi
   ·subst hi; rw [g1,g2,hpq.1 h3]
 ·refine ⟨_,_,hS1,true,rfl,?_⟩
  simp only [true_iff]
  apply List.ext_getElem?
  intro i
  by_cases hi:i < k
  ·exact hall i hi
  ·rw [List.getElem?_eq_none (by omega),List.getElem?_eq_none (by omega)])
theorem sameStrings_of {z:Z} {w:World} {v u:Value} {l m:List ByteArray} (hv:SlR El.str z v l) (hu:SlR El.str z u m):Fn1 72 #[v,u] z w fun _ r=>∃ b,r = .bool b/\(b = true ↔ l = m):=Fn1.intro fun hS=>en72 (by
 unfold vc72;obtain ⟨hb1,a1,c1,rfl,_,hel1⟩:=hv.form;obtain ⟨hb2,a2,c2,rfl,_,hel2⟩:=hu.form;refine V_run ?_;refine V_run ?_;refine V_run ?_;refine Cond_nd (fun h=>?_) (fun h=>?_)
 ·exact ⟨_,_,hS,false,rfl,by simp; intro e; rw [e] at h; omega⟩
 have hlm:l.length = m.length:=by omega
 refine LoopR1 (fun (k:Nat) x=>x = .int .i64 k/\k <= l.length/\∀ i,i < k->l[i]? = m[i]?) (fun k=>l.length - k) 0 ⟨rfl,Nat.zero_le _,fun i hi=>by omega⟩ ?_;rintro I M k x w1 z1 m1 ⟨rfl,hk,hall⟩ hz1 hS1 back
 clear hS;refine V_run ?_;refine V_run ?_;refine Cond_d (fun h=>?_) (fun h=>?_)
 ·have hk1:k < l.length:=by omega
  have hk2:k < m.length:=by omega
  obtain ⟨b,off,cs,rfl,hr,hat⟩:=hel1 _ _ (List.getElem?_eq_getElem hk1);obtain ⟨b',off',cs',rfl,hr',hat'⟩:=hel2 _ _ (List.getElem?_eq_getElem hk2);have hr:=hr.1;have hr':=hr'.1
  cases hr; cases hr'
  haveI:InR (k:Int) (l.length:Nat):=⟨by omega,by omega⟩
  haveI:InR (k:Int) (m.length:Nat):=⟨by omega,by omega⟩
  haveI:InI ((k:Int) + 1):=⟨by simp only [big] at hb1; omega⟩
  haveI:Fz z b (off + (k:Int).toNat * 1) [.string l[k]]:=⟨hat⟩
  haveI:Fz z b' (off' + (k:Int).toNat * 1) [.string m[k]]:=⟨hat'⟩
  have g1:l[k]? = some l[k]:=List.getElem?_eq_getElem hk1;have g2:m[k]? = some m[k]:=List.getElem?_eq_getElem hk2;generalize l[k] = p at *;generalize m[k] = q at *;(repeat (first | (refine iDr ?_; intro _ _) | refine PV_run ?_ | refine fHV_ld1 ?_));have hpq:(decide (p = q)) = true ↔ p = q:=by simp
  refine Cond_n (fun h3=>?_) (fun h3=>?_)
  ·refine ⟨_,_,‹_›,false,rfl,?_⟩
   have:¬ p = q:=fun e=>by rw [hpq.2 e] at h3; cases h3
   constructor
   ·intro e; cases e
   ·intro e; subst e; rw [g1] at g2; cases g2; exact absurd rfl this
  ·refine V_run ?_
   refine back (k + 1) _ _ _ ⟨by simp,by omega,fun i hi=>?_⟩ (Le.refl _) (by assumption) (by omega)
   rcases Nat.lt_or_eq_of_le (Nat.le_of_lt_succ hi) with hi | hi
   ·exact hall i hi
   ·subst hi; rw [g1,g2,hpq.1 h3]
 ·refine ⟨_,_,hS1,true,rfl,?_⟩
  simp only [true_iff]
  apply List.ext_getElem?
  intro i
  by_cases hi:i < k
  ·exact hall i hi
  ·rw [List.getElem?_eq_none (by omega),List.getElem?_eq_none (by omega)])
theorem ext_take {α:Type} {l m:List α} {k:Nat} (hk:k = l.length) (hlm:l.length = m.length) (h:∀ i,i < k->l[i]? = m[i]?):l = m:=by
 apply List.ext_getElem?
 intro i
 by_cases hi:i < k
 ·exact h i hi
 ·rw [List.getElem?_eq_none (by omega),List.getElem?_eq_none (by omega)]
theorem refSame_of {z:Z} {w:World} {v u:Value} {c d:CodeM} (hc:CodeR z v c) (hd:CodeR z u d):Fn1 21 #[v,u] z w fun _ r=>∃ b,r = .bool b/\(b = true ↔ c = d):=Fn1.intro fun hS=>en21 (by
 unfold vc21;obtain ⟨a1,a2,a3,a4,a5,a6,k1,k2,k3,k4,k5,k6,rfl,h1,h2,h3,h4,h5,h6⟩:=hc.form;obtain ⟨p1,p2,p3,p4,p5,p6,q1,q2,q3,q4,q5,q6,rfl,g1,g2,g3,g4,g5,g6⟩:=hd.form;refine iV_bx ?_;intro bc w1 hbc hS1;refine iV_bx ?_;intro bd w2 hbd hS2;clear hS1;obtain ⟨z3,hz3,hS3,hatc⟩:=hS2.frz bc;obtain ⟨zc,hzc',hS4,hatd⟩:=hS3.frz bd;have hatc:=hatc.mono hzc';have hzc:=hz3.trans hzc';generalize hRR:(fun (v:Value) (w':World)=>∃ z' L',Res w z [] w' z' L'/\∃ b,v = .bool b/\(b = true ↔ c = d)) = RR;have hR:∀ z' w' L' b,Res w2 zc [] w' z' L'->(b = true ↔ c = d)->RR (.bool b) w':=fun z' w' L' b k e=>by rw [<- hRR]; exact ⟨z',L',hS4.comp k,b,rfl,e⟩
 clear hRR;have hS5:=hS4.self;clear hS hS2 hS3 hS4;have hcd:c = d ↔ c.consts = d.consts/\c.tmpls = d.tmpls/\c.lists = d.lists/\c.labels = d.labels/\c.slots = d.slots/\c.ins = d.ins:=by cases c; cases d; simp
 haveI:Fz zc bc 0 [.slice a1 c.consts.length k1]:=⟨hatc.fld (i:=0) rfl rfl⟩
 haveI:Fz zc bd 0 [.slice p1 d.consts.length q1]:=⟨hatd.fld (i:=0) rfl rfl⟩
 haveI:Fz zc bc 1 [.slice a2 c.tmpls.length k2]:=⟨hatc.fld (i:=1) rfl rfl⟩
 haveI:Fz zc bd 1 [.slice p2 d.tmpls.length q2]:=⟨hatd.fld (i:=1) rfl rfl⟩
 haveI:Fz zc bc 2 [.slice a3 c.lists.length k3]:=⟨hatc.fld (i:=2) rfl rfl⟩
 haveI:Fz zc bd 2 [.slice p3 d.lists.length q3]:=⟨hatd.fld (i:=2) rfl rfl⟩
 haveI:Fz zc bc 3 [.slice a4 c.labels.length k4]:=⟨hatc.fld (i:=3) rfl rfl⟩
 haveI:Fz zc bd 3 [.slice p4 d.labels.length q4]:=⟨hatd.fld (i:=3) rfl rfl⟩
 haveI:Fz zc bc 4 [.slice a5 c.slots.length k5]:=⟨hatc.fld (i:=4) rfl rfl⟩
 haveI:Fz zc bd 4 [.slice p5 d.slots.length q5]:=⟨hatd.fld (i:=4) rfl rfl⟩
 haveI:Fz zc bc 5 [.slice a6 c.ins.length k6]:=⟨hatc.fld (i:=5) rfl rfl⟩
 haveI:Fz zc bd 5 [.slice p6 d.ins.length q6]:=⟨hatd.fld (i:=5) rfl rfl⟩
 have hno:∀ z' w' L',Res w2 zc [] w' z' L'->¬ c = d->RR (.bool false) w':=fun z' w' L' k e=>hR z' w' L' false k ⟨fun h=>(by cases h),fun h=>absurd h e⟩
 (repeat (first | refine V_run ?_ | (refine JGB ?_; intro _ _ _ _) | refine fV_ld1 ?_));simp only [Bool.cond_true_left,Bool.or_assoc];rename_i hS6;clear hS5;refine Cond_b (fun e=>?_) (fun e=>?_)
 ·refine hno _ _ _ hS6 fun h=>?_
  subst h;simp at e
 simp only [Bool.or_eq_false_iff,Bool.not_eq_false',decide_eq_true_eq] at e;have l1:c.tmpls.length = d.tmpls.length:=by omega
 have l2:c.lists.length = d.lists.length:=by omega
 have l3:c.labels.length = d.labels.length:=by omega
 have l4:c.ins.length = d.ins.length:=by omega
 clear e;refine LoopR1 (fun (k:Nat) x=>x = .int .i64 k/\k <= c.tmpls.length/\∀ i,i < k->c.tmpls[i]? = d.tmpls[i]?) (fun k=>c.tmpls.length - k) 0 ⟨rfl,Nat.zero_le _,fun i hi=>by omega⟩ ?_;rintro I M k x w7 z7 m ⟨rfl,hk,hall⟩ hz7 hS7 back
 clear hS6;obtain ⟨hbx,_,_,e1,_,hel1⟩:=h2.form
 cases e1
 obtain ⟨hby,_,_,e2,_,hel2⟩:=g2.form
 cases e2
 (repeat (first | refine V_run ?_ | refine fV_ld1 ?_));refine Cond_d (fun h=>?_) (fun h=>?_)
 ·have hk1:k < c.tmpls.length:=by omega
  have hk2:k < d.tmpls.length:=by omega
  haveI:InR (k:Int) (c.tmpls.length:Nat):=⟨by omega,by omega⟩
  haveI:InR (k:Int) (d.tmpls.length:Nat):=⟨by omega,by omega⟩
  haveI:InI ((k:Int) + 1):=⟨by simp only [big] at hbx; omega⟩
  have i1:c.tmpls[k]? = some c.tmpls[k]:=List.getElem?_eq_getElem hk1;have i2:d.tmpls[k]? = some d.tmpls[k]:=List.getElem?_eq_getElem hk2;generalize c.tmpls[k] = p at *;generalize d.tmpls[k] = q at *;obtain ⟨b,off,cs,rfl,hr,hat⟩:=hel1 _ _ i1;obtain ⟨b',off',cs',rfl,hr',hat'⟩:=hel2 _ _ i2;obtain ⟨v1,rfl,hv1⟩:=hr;obtain ⟨v2,rfl,hv2⟩:=hr';obtain ⟨_,x1,y1,rfl,_,_⟩:=hv1.form;obtain ⟨_,x2,y2,rfl,_,_⟩:=hv2.form;haveI:Fz zc b (off + (k:Int).toNat * 1) [.slice x1 p.length y1]:=⟨hat.mono hzc⟩
  haveI:Fz zc b' (off' + (k:Int).toNat * 1) [.slice x2 q.length y2]:=⟨hat'.mono hzc⟩
  (repeat (first | (refine iDr ?_; intro _ _) | refine PV_run ?_ | refine fHV_ld1 ?_));rename_i hSx;refine CV_1 (sameParts_of (hv1.mono (hzc.trans hSx.zle)) (hv2.mono (hzc.trans hSx.zle))) ?_;rintro zy wy vy hzy hSy ⟨b5,rfl,hb5⟩
  clear hSx;(repeat (first | refine PV_run ?_ | refine fRI_1 ?_));refine Cond_n (fun h3=>?_) (fun h3=>?_)
  ·refine hno _ _ _ hSy fun h=>?_
   subst h;rw [i1] at i2; cases i2;rw [hb5.2 rfl] at h3; cases h3
  ·(repeat (refine V_run ?_))
   refine back (k + 1) _ _ _ ⟨by simp,by omega,fun i hi=>?_⟩ (by (repeat (assumption))) (by assumption) (by omega)
   rcases Nat.lt_or_eq_of_le (Nat.le_of_lt_succ hi) with hi | hi
   ·exact hall i hi
   ·subst hi; rw [i1,i2,hb5.1 h3]
 have eq_tmpls:c.tmpls = d.tmpls:=ext_take (k:=k) (by omega) (by omega) hall;clear back hall h;refine LoopR1 (fun (k:Nat) x=>x = .int .i64 k/\k <= c.lists.length/\∀ i,i < k->c.lists[i]? = d.lists[i]?) (fun k=>c.lists.length - k) 0 ⟨rfl,Nat.zero_le _,fun i hi=>by omega⟩ ?_;rintro I M k x w8 z8 m ⟨rfl,hk,hall⟩ hz8 hS8 back
 clear hS7;obtain ⟨hbx,_,_,e1,_,hel1⟩:=h3.form
 cases e1
 obtain ⟨hby,_,_,e2,_,hel2⟩:=g3.form
 cases e2
 (repeat (first | refine V_run ?_ | refine fV_ld1 ?_));refine Cond_d (fun h=>?_) (fun h=>?_)
 ·have hk1:k < c.lists.length:=by omega
  have hk2:k < d.lists.length:=by omega
  haveI:InR (k:Int) (c.lists.length:Nat):=⟨by omega,by omega⟩
  haveI:InR (k:Int) (d.lists.length:Nat):=⟨by omega,by omega⟩
  haveI:InI ((k:Int) + 1):=⟨by simp only [big] at hbx; omega⟩
  have i1:c.lists[k]? = some c.lists[k]:=List.getElem?_eq_getElem hk1;have i2:d.lists[k]? = some d.lists[k]:=List.getElem?_eq_getElem hk2;generalize c.lists[k] = p at *;generalize d.lists[k] = q at *;obtain ⟨b,off,cs,rfl,hr,hat⟩:=hel1 _ _ i1;obtain ⟨b',off',cs',rfl,hr',hat'⟩:=hel2 _ _ i2;obtain ⟨v1,rfl,hv1⟩:=hr;obtain ⟨v2,rfl,hv2⟩:=hr';obtain ⟨_,x1,y1,rfl,_,_⟩:=hv1.form;obtain ⟨_,x2,y2,rfl,_,_⟩:=hv2.form;haveI:Fz zc b (off + (k:Int).toNat * 1) [.slice x1 p.length y1]:=⟨hat.mono hzc⟩
  haveI:Fz zc b' (off' + (k:Int).toNat * 1) [.slice x2 q.length y2]:=⟨hat'.mono hzc⟩
  (repeat (first | (refine iDr ?_; intro _ _) | refine PV_run ?_ | refine fHV_ld1 ?_));rename_i hSx;refine CV_1 (sameItems_of (hv1.mono (hzc.trans hSx.zle)) (hv2.mono (hzc.trans hSx.zle))) ?_;rintro zy wy vy hzy hSy ⟨b5,rfl,hb5⟩
  clear hSx;(repeat (first | refine PV_run ?_ | refine fRI_1 ?_));refine Cond_n (fun h3=>?_) (fun h3=>?_)
  ·refine hno _ _ _ hSy fun h=>?_
   subst h;rw [i1] at i2; cases i2;rw [hb5.2 rfl] at h3; cases h3
  ·(repeat (refine V_run ?_))
   refine back (k + 1) _ _ _ ⟨by simp,by omega,fun i hi=>?_⟩ (by (repeat (assumption))) (by assumption) (by omega)
   rcases Nat.lt_or_eq_of_le (Nat.le_of_lt_succ hi) with hi | hi
   ·exact hall i hi
   ·subst hi; rw [i1,i2,hb5.1 h3]
 have eq_lists:c.lists = d.lists:=ext_take (k:=k) (by omega) (by omega) hall;clear back hall h;refine LoopR1 (fun (k:Nat) x=>x = .int .i64 k/\k <= c.labels.length/\∀ i,i < k->c.labels[i]? = d.labels[i]?) (fun k=>c.labels.length - k) 0 ⟨rfl,Nat.zero_le _,fun i hi=>by omega⟩ ?_;rintro I M k x w9 z9 m ⟨rfl,hk,hall⟩ hz9 hS9 back
 clear hS8;obtain ⟨hbx,_,_,e1,_,hel1⟩:=h4.form
 cases e1
 obtain ⟨hby,_,_,e2,_,hel2⟩:=g4.form
 cases e2
 (repeat (first | refine V_run ?_ | refine fV_ld1 ?_));refine Cond_d (fun h=>?_) (fun h=>?_)
 ·have hk1:k < c.labels.length:=by omega
  have hk2:k < d.labels.length:=by omega
  haveI:InR (k:Int) (c.labels.length:Nat):=⟨by omega,by omega⟩
  haveI:InR (k:Int) (d.labels.length:Nat):=⟨by omega,by omega⟩
  haveI:InI ((k:Int) + 1):=⟨by simp only [big] at hbx; omega⟩
  have i1:c.labels[k]? = some c.labels[k]:=List.getElem?_eq_getElem hk1;have i2:d.labels[k]? = some d.labels[k]:=List.getElem?_eq_getElem hk2;generalize c.labels[k] = p at *;generalize d.labels[k] = q at *;obtain ⟨b,off,cs,rfl,hr,hat⟩:=hel1 _ _ i1;obtain ⟨b',off',cs',rfl,hr',hat'⟩:=hel2 _ _ i2;have hr:=hr.1;have hr':=hr'.1
  cases hr; cases hr'
  haveI:Fz zc b (off + (k:Int).toNat * 2) p.cells:=⟨hat.mono hzc⟩
  haveI:Fz zc b' (off' + (k:Int).toNat * 2) q.cells:=⟨hat'.mono hzc⟩
  (repeat (first | (refine iDr ?_; intro _ _) | refine PV_run ?_ | refine fHV_ldN ?_ | refine fHV_ld1 ?_));have hpq:(decide (p.name = q.name) && (decide (p.at_ = q.at_) && true)) = true ↔ p = q:=by cases p; cases q; simp
  refine Cond_n (fun h3=>?_) (fun h3=>?_)
  ·refine hno _ _ _ ‹Res w2 zc [] _ _ _› fun h=>?_
   subst h;rw [i1] at i2; cases i2;rw [hpq.2 rfl] at h3; cases h3
  ·(repeat (refine V_run ?_))
   refine back (k + 1) _ _ _ ⟨by simp,by omega,fun i hi=>?_⟩ (by (repeat (exact Le.refl _))) (by assumption) (by omega)
   rcases Nat.lt_or_eq_of_le (Nat.le_of_lt_succ hi) with hi | hi
   ·exact hall i hi
   ·subst hi; rw [i1,i2,hpq.1 h3]
 have eq_labels:c.labels = d.labels:=ext_take (k:=k) (by omega) (by omega) hall;clear back hall h;refine LoopR1 (fun (k:Nat) x=>x = .int .i64 k/\k <= c.ins.length/\∀ i,i < k->c.ins[i]? = d.ins[i]?) (fun k=>c.ins.length - k) 0 ⟨rfl,Nat.zero_le _,fun i hi=>by omega⟩ ?_;rintro I M k x w10 z10 m ⟨rfl,hk,hall⟩ hz10 hS10 back
 clear hS9;obtain ⟨hbx,_,_,e1,_,hel1⟩:=h6.form
 cases e1
 obtain ⟨hby,_,_,e2,_,hel2⟩:=g6.form
 cases e2
 (repeat (first | refine V_run ?_ | refine fV_ld1 ?_));refine Cond_d (fun h=>?_) (fun h=>?_)
 ·have hk1:k < c.ins.length:=by omega
  have hk2:k < d.ins.length:=by omega
  haveI:InR (k:Int) (c.ins.length:Nat):=⟨by omega,by omega⟩
  haveI:InR (k:Int) (d.ins.length:Nat):=⟨by omega,by omega⟩
  haveI:InI ((k:Int) + 1):=⟨by simp only [big] at hbx; omega⟩
  have i1:c.ins[k]? = some c.ins[k]:=List.getElem?_eq_getElem hk1;have i2:d.ins[k]? = some d.ins[k]:=List.getElem?_eq_getElem hk2;generalize c.ins[k] = p at *;generalize d.ins[k] = q at *;obtain ⟨b,off,cs,rfl,hr,hat⟩:=hel1 _ _ i1;obtain ⟨b',off',cs',rfl,hr',hat'⟩:=hel2 _ _ i2;have hr:=hr;have hr':=hr'
  cases hr; cases hr'
  haveI:Fz zc b (off + (k:Int).toNat * 4) p.cells:=⟨hat.mono hzc⟩
  haveI:Fz zc b' (off' + (k:Int).toNat * 4) q.cells:=⟨hat'.mono hzc⟩
  (repeat (first | (refine iDr ?_; intro _ _) | refine PV_run ?_ | refine fHV_ldN ?_ | refine fHV_ld1 ?_));have hpq:(decide (p.op = q.op) && (decide (p.a = q.a) && (decide (p.b = q.b) && (decide (p.c = q.c) && true)))) = true ↔ p = q:=by cases p; cases q; simp
  refine Cond_n (fun h3=>?_) (fun h3=>?_)
  ·refine hno _ _ _ ‹Res w2 zc [] _ _ _› fun h=>?_
   subst h;rw [i1] at i2; cases i2;rw [hpq.2 rfl] at h3; cases h3
  ·(repeat (refine V_run ?_))
   refine back (k + 1) _ _ _ ⟨by simp,by omega,fun i hi=>?_⟩ (by (repeat (exact Le.refl _))) (by assumption) (by omega)
   rcases Nat.lt_or_eq_of_le (Nat.le_of_lt_succ hi) with hi | hi
   ·exact hall i hi
   ·subst hi; rw [i1,i2,hpq.1 h3]
 have eq_ins:c.ins = d.ins:=ext_take (k:=k) (by omega) (by omega) hall;clear back hall h;(repeat (first | refine V_run ?_ | refine fV_ld1 ?_));refine CV_1 (sameStrings_of (h1.mono (hzc.trans hS10.zle)) (g1.mono (hzc.trans hS10.zle))) ?_;rintro z11 w11 v11 hz11 hS11 ⟨b1,rfl,hb1⟩
 clear hS10;intro Ka hKa;have ma:∀ z' w' L' b,Res w2 zc [] w' z' L'->(b = true ↔ c = d)->Ka [.bool b] w':=fun z' w' L' b k e=>hKa _ _ fun _=>hR _ _ _ _ k e
 clear hKa;refine Cond_b (fun e=>?_) (fun e=>?_)
 ·(repeat (first | refine V_run ?_ | refine fV_ld1 ?_))
  refine CV_1 (sameStrings_of (h5.mono (hzc.trans hS11.zle)) (g5.mono (hzc.trans hS11.zle))) ?_;rintro z12 w12 v12 hz12 hS12 ⟨b2,rfl,hb2⟩
  refine ma _ _ _ _ hS12 ?_;rw [hb2,hcd];exact ⟨fun h=>⟨hb1.1 e,eq_tmpls,eq_lists,eq_labels,h,eq_ins⟩,fun h=>h.2.2.2.2.1⟩
 ·refine ma _ _ _ _ hS11 ⟨fun h=>(by cases h),fun h=>?_⟩
  rw [hb1.2 (by rw [h])] at e; cases e)
end
section
open Go Q Go.RowKit
instance {n s:Int}:Pu 34 #[.int .i64 n,.int .i64 s,.int .i64 400000] (.bool (manyM n s 400000)):=manyI ⟨by omega⟩
theorem sameBytes_of {z:Z} {w:World} {v u:Value} {l:List UInt8} (hv:SlR El.byte z v l) (hu:SlR El.byte z u l):Fn1 39 #[v,u] z w fun _ r=>r = .bool true:=Fn1.intro fun hS=>en39 (by
 unfold vc39;refine ⟨_,_,run_cvs hv hS.sub,?_⟩;refine ⟨_,_,run_cvs hu hS.sub,?_⟩;refine V_run ?_;exact ⟨_,_,hS,by rw [decide_eq_true rfl]⟩)
end
section
open Go Q Go.RowKit
theorem read_law {s:ByteArray} (h:(readO s).2.2 = 0):textE (readO s).1 = 0/\textB (readO s).1 = s:=by
 have e:readO s = ((readO s).1,(readO s).2.1,0):=by rw [<- h]
 obtain ⟨h1,h2,_⟩:=read_ok e;exact ⟨by rw [textE]; exact h1,h2⟩
theorem dec_law {b:List UInt8} (h:(decO b).2.2 = 0):encE (decO b).1 = 0/\encB (decO b).1 = b:=by
 unfold decO at h ⊢
 split
 ·rename_i h1
  rw [if_pos h1] at h;exact absurd h (by decide)
 ·rename_i h1
  rw [if_neg h1] at h
  split
  ·rename_i hd
   rw [hd] at h;have h:(2:Int) = 0:=h;omega
  ·rename_i c q hd
   rw [hd] at h;simp only at h
   split
   ·rename_i hc
    have:=enc_dec hd;unfold encE encB;simp only;rw [if_pos hc,if_pos hc,this,if_neg h1,if_neg h1];exact ⟨rfl,rfl⟩
   ·rename_i hc
    rw [if_neg hc] at h;exact absurd h hc
theorem dec_law2 {c:CodeM} (hc:(checkM c).1 = 0) (h:encE c = 0):decO (encB c) = (c,0,0):=by
 unfold encE at h;rw [if_pos hc] at h;have hl:¬ (encM c).length > 400000:=fun h1=>by rw [if_pos h1] at h; exact absurd h (by decide)
 obtain ⟨_,h1,h2,h3,_⟩:=check_ok hc;have:=dec_enc (small_of h1 h2 h3);unfold decO encB;rw [if_pos hc,if_neg hl,if_neg hl,this];simp only;rw [if_pos hc]
theorem enc_is {c:CodeM} (hc:(checkM c).1 = 0):encE c = 0 \/ encE c = 3:=by
 unfold encE;rw [if_pos hc]
 split
 ·exact .inr rfl
 ·exact .inl rfl
theorem lawValid_of {z:Z} {w:World} {v:Value} {c:CodeM} (hc:CodeR z v c):Fn1 19 #[v] z w fun _ r=>∃ b,r = .bool b/\(b = true->(checkM c).1 = 0):=Fn1.intro fun hS=>en19 (by
 unfold vc19;obtain ⟨a1,a2,a3,a4,a5,a6,k1,k2,k3,k4,k5,k6,rfl,h1,h2,h3,h4,h5,h6⟩:=hc.form;refine iV_bx ?_;intro bc w1 hbc hS1;obtain ⟨zc,hzc,hS2,hatc⟩:=hS1.frz bc;haveI:Fz zc bc 0 (codeVs a1 a2 a3 a4 a5 a6 k1 k2 k3 k4 k5 k6 c):=⟨hatc⟩
 have hS5:=hS2.self;clear hS hS1;refine fV_ldN ?_;refine CV_1 (few_of (hc.mono (by (repeat (assumption))))) ?_;rintro z7 w7 v7 hz7 hS7 ⟨few,rfl⟩
 clear hS5;refine V_run ?_;refine Cond_b (fun h=>?_) (fun h=>?_)
 ·exact ⟨_,_,hS2.comp hS7,_,rfl,fun h=>by cases h⟩
 ·refine fV_ldN ?_
  refine CV_1 (check_of (hc.mono (by (repeat (first | assumption | refine Le.trans ?_ (by assumption:Le _ _)))))) ?_;rintro z8 w8 v8 hz8 hS8 rfl
  clear hS7;refine V_run ?_;refine V_run ?_;refine V_run ?_;exact ⟨_,_,hS2.comp hS8,_,rfl,fun h=>of_decide_eq_true h⟩)
theorem lawReadsBack {z:Z} {w:World} {v u:Value} {c:CodeM} {s:ByteArray} {b:List UInt8} [ht:Tab z] [he:Errs z] (hc:CodeR z v c) (hb:SlR El.byte z u b):Fn1 12 #[v,.string s,u] z w fun _ r=>r = .bool true:=Fn1.intro fun hS=>en12 (by
 unfold vc12;obtain ⟨a1,a2,a3,a4,a5,a6,k1,k2,k3,k4,k5,k6,rfl,h1,h2,h3,h4,h5,h6⟩:=hc.form;obtain ⟨_,ua,ucap,rfl,hcap,_⟩:=hb.form;refine iV_bx ?_;intro bc w1 hbc hS1;obtain ⟨zc,hzc,hS2,hatc⟩:=hS1.frz bc;generalize hRR:(fun (v:Value) (w':World)=>∃ z' L',Res w z [] w' z' L'/\v = .bool true) = RR;have hR:∀ z' w' L' b,Res w1 zc [] w' z' L'->b = true->RR (.bool b) w':=fun z' w' L' b k e=>by rw [<- hRR,e]; exact ⟨z',L',hS2.comp k,rfl⟩
 clear hRR;have hS5:=hS2.self;clear hS hS1 hS2;haveI:Tab zc:=ht.le hzc;haveI:Errs zc:=he.le hzc;have hcc:=hc.mono hzc;have hbb:=hb.mono hzc;haveI:Fz zc bc 0 (codeVs a1 a2 a3 a4 a5 a6 k1 k2 k3 k4 k5 k6 c):=⟨hatc⟩
 refine CV_puz ?_;intro z6 w6 hz6 hS6;clear hS5;refine V_run ?_;refine CV_pu ?_;intro z7 w7 hz7 hS7;clear hS6;intro Ka hKa;have ma:∀ x z' w',Le zc z'->(x = false->s.size <= 1000000/\b.length <= 1000000)->Res w1 zc [] w' z' []->Ka [.bool x] w':=by
  intro x z8 w8 hz8 hlen hS8;refine hKa _ _ fun _=>?_
  clear hKa hS7;refine Cond_b (fun _=>hR _ _ _ _ hS8 rfl) (fun hx=>?_);obtain ⟨hl1,hl2⟩:=hlen hx;haveI:Tab z8:=Tab.le ‹_› hz8;haveI:Errs z8:=Errs.le ‹_› hz8;refine CV_1 (read_of hl1) ?_;rintro z9 w9 v9 hz9 hS9 ⟨d1,d2,d3,d4,d5,d6,hd,rfl⟩
  clear hS8;refine V_run ?_;refine V_run ?_;refine V_run ?_;obtain ⟨x1,x2,x3,x4,x5,x6,y1,y2,y3,y4,y5,y6,hdv,_,_,_,_,_,_⟩:=hd.form
  cases hdv
  refine iV_al ?_;intro b9 w10 hb9 hS10;refine iU_st ?_;intro w11 hS11;clear hS9 hS10;intro Kb hKb;have mb:∀ z' w' L',Res w1 zc [] w' z' L'->Le z9 z'->Kb [] w':=by
   intro z12 w12 L12 hS12 hz12;refine hKb _ fun _=>?_
   clear hKb hS11 hd;haveI:Tab z12:=Tab.le ‹_› (Le.trans (Le.trans hz8 hz9) hz12);have hbz:=hbb.mono (Le.trans (Le.trans hz8 hz9) hz12);have hcz:=hcc.mono (Le.trans (Le.trans hz8 hz9) hz12);refine CV_1 (decode_of hbz hl2) ?_;rintro z15 w15 v15 hz15 hS15 ⟨g1,g2,g3,g4,g5,g6,hg,rfl⟩
   clear hS12;refine V_run ?_;refine V_run ?_;refine V_run ?_;obtain ⟨p1,p2,p3,p4,p5,p6,q1,q2,q3,q4,q5,q6,hgv,_,_,_,_,_,_⟩:=hg.form
   cases hgv
   refine iV_al ?_;intro b16 w16 hb16 hS16;refine iU_st ?_;intro w17 hS17;clear hS15 hS16;intro Kc hKc;have mc:∀ z' w' L',Res w1 zc [] w' z' L'->Le z15 z'->Kc [] w':=by
    intro z18 w18 L18 hS18 hz18;refine hKc _ fun _=>?_
    clear hKc hS17 hg;have hcz:=hcz.mono (Le.trans hz15 hz18);haveI:Tab z18:=Tab.le (z:=z12) ‹_› (Le.trans hz15 hz18);haveI:Errs z18:=Errs.le (z:=z8) ‹_› (Le.trans hz9 (Le.trans hz12 (Le.trans hz15 hz18)));refine fV_ldN ?_;refine CV_1 (lawValid_of hcz) ?_;rintro z19 w19 v19 hz19 hS19 ⟨ok,rfl,hok⟩
    clear hS18;refine V_run ?_;refine Cond_b (fun _=>hR _ _ _ _ hS19 rfl) (fun hx=>?_);have hok:=hok (by simpa using hx);have hcz:=hcz.mono hz19;haveI:Tab z19:=Tab.le (z:=z18) ‹_› hz19;refine fV_ldN ?_;refine CV_1 (text_of hcz) ?_;rintro z20 w20 v20 hz20 hS20 rfl
    clear hS19;refine V_run ?_;refine V_run ?_;refine fV_ldN ?_;refine CV_1 (encode_of (hcz.mono hz20)) ?_;rintro z21 w21 v21 hz21 hS21 ⟨vb,rfl,hvb⟩
    clear hS20;obtain ⟨av,cv,rfl,_⟩:=SlR.form2 hvb;refine V_run ?_;refine V_run ?_;rw [show textE c = 0 from hok];refine V_run ?_;intro Kd hKd;have md:Kd [.bool false] w21:=by
     refine hKd _ _ fun _=>?_
     clear hKd;refine Cond_b (fun h=>(by cases h)) (fun _=>?_);intro Ke hKe;have me:∀ z' w' L',Res w1 zc [] w' z' L'->Le z21 z'->Ke [] w':=by
      intro z22 w22 L22 hS22 hz22;refine hKe _ fun _=>?_
      clear hKe hS21;intro Kf hKf;have mf:∀ z' w' L',Res w1 zc [] w' z' L'->Kf [] w':=fun z' w' L' h=>hKf _ fun _=>hR _ _ _ _ h rfl
      clear hKf;refine V_run ?_;refine Cond_d (fun e0=>?_) (fun _=>mf _ _ _ hS22);have hvz:=hvb.mono hz22;have hel:(encB c).length <= 1000000:=by
       unfold encB;(repeat' split) <;> first | omega | simp
      refine CV_1 (decode_of hvz hel) ?_;rw [dec_law2 hok e0];rintro z23 w23 v23 hz23 hS23 ⟨o1,o2,o3,o4,o5,o6,ho,rfl⟩
      clear hS22;refine V_run ?_;refine V_run ?_;refine V_run ?_;obtain ⟨p1,p2,p3,p4,p5,p6,q1,q2,q3,q4,q5,q6,hov,_,_,_,_,_,_⟩:=ho.form
      cases hov
      refine iV_al ?_;intro b24 w24 hb24 hS24;refine iU_st ?_;intro w25 hS25;clear hS23 hS24;(repeat (first | refine iV_ldN ?_ | refine fV_ldN ?_));refine CV_1 (refSame_of ho (hcz.mono (by (repeat (first | assumption | refine Le.trans ?_ (by assumption:Le _ _)))))) ?_;rintro z26 w26 v26 hz26 hS26 ⟨b1,rfl,hb1⟩
      have hb1:=hb1.2 rfl;subst hb1;clear hS25;refine V_run ?_;intro K1 hK1;refine Cond_b (fun h=>absurd h (by simp)) (fun _=>?_);refine V_run ?_;refine hK1 _ _ fun _=>?_
      refine Cond_b (fun h=>(by cases h)) (fun _=>?_);exact mf _ _ _ hS26
     clear hKe;refine V_run ?_;refine V_run ?_;refine Cond_d (fun hle=>?_) (fun _=>me _ _ _ hS21 (Le.refl _));haveI:Tab z21:=Tab.le (z:=z19) ‹_› (Le.trans hz20 hz21);haveI:Errs z21:=Errs.le (z:=z18) ‹_› (Le.trans hz19 (Le.trans hz20 hz21));refine CV_1 (read_of (by omega)) ?_;rw [read_back hok (by omega)];rintro z23 w23 v23 hz23 hS23 ⟨o1,o2,o3,o4,o5,o6,ho,rfl⟩
     clear hS21;refine V_run ?_;refine V_run ?_;refine V_run ?_;obtain ⟨p1,p2,p3,p4,p5,p6,q1,q2,q3,q4,q5,q6,hov,_,_,_,_,_,_⟩:=ho.form
     cases hov
     refine iV_al ?_;intro b24 w24 hb24 hS24;refine iU_st ?_;intro w25 hS25;clear hS23 hS24;(repeat (first | refine iV_ldN ?_ | refine fV_ldN ?_));refine CV_1 (refSame_of ho (hcz.mono (by (repeat (first | assumption | refine Le.trans ?_ (by assumption:Le _ _)))))) ?_;rintro z26 w26 v26 hz26 hS26 ⟨b1,rfl,hb1⟩
     have hb1:=hb1.2 rfl;subst hb1;clear hS25;refine V_run ?_;intro K1 hK1;refine Cond_b (fun h=>absurd h (by simp)) (fun _=>?_);refine V_run ?_;refine hK1 _ _ fun _=>?_
     refine Cond_b (fun h=>(by cases h)) (fun _=>?_);exact me _ _ _ hS26 (Le.trans hz23 hz26)
    clear hKd;refine Cond_b (fun h=>absurd h (by simp)) (fun _=>?_);refine V_run ?_;intro K1 hK1;have m1:K1 [.bool false] w21:=hK1 _ _ fun _=>md
    clear hK1;refine Cond_b (fun h=>?_) (fun _=>m1);refine V_run ?_;have h3:encE c = 3:=(enc_is hok).resolve_left fun e=>by rw [e] at h; simp at h
    rw [show (!decide (encE c = 3)) = false by rw [h3]; rfl];exact m1
   clear hKc;refine V_run ?_;refine Cond_d (fun e0=>?_) (fun e0=>mc _ _ _ hS17 (Le.refl _));obtain ⟨e1,e2⟩:=dec_law e0;(repeat (refine iV_ldN ?_));refine CV_1 (encode_of hg) ?_;rintro z19 w19 v19 hz19 hS19 ⟨vb,rfl,hvb⟩
   clear hS17;rw [e1];rw [e2] at hvb;obtain ⟨av,cv,rfl,_⟩:=SlR.form2 hvb;refine V_run ?_;refine V_run ?_;refine V_run ?_;intro K1 hK1;refine Cond_b (fun h=>absurd h (by simp)) (fun _=>?_);refine CV_1 (sameBytes_of hvb (hbz.mono (Le.trans hz15 hz19))) ?_;rintro z20 w20 v20 hz20 hS20 rfl
   clear hS19;refine V_run ?_;refine hK1 _ _ fun _=>?_
   refine Cond_b (fun h=>(by cases h)) (fun _=>?_);exact mc _ _ _ hS20 (Le.trans hz19 hz20)
  clear hKb;refine V_run ?_;refine Cond_d (fun e0=>?_) (fun e0=>mb _ _ _ hS11 (Le.refl _));obtain ⟨e1,e2⟩:=read_law e0;haveI:Tab z9:=Tab.le ‹_› hz9;(repeat (refine iV_ldN ?_));refine CV_1 (text_of hd) ?_;rintro z14 w14 v14 hz14 hS14 rfl
  clear hS11;rw [e1,e2];refine V_run ?_;refine V_run ?_;refine V_run ?_;intro K1 hK1;refine Cond_b (fun h=>absurd h (by simp)) (fun _=>?_);refine V_run ?_;refine hK1 _ _ fun _=>?_
  refine Cond_b (fun h=>absurd h (by simp)) (fun _=>?_);exact mb _ _ _ hS14 hz14
 clear hKa;refine Cond_b (fun h=>?_) (fun h=>?_)
 ·exact ma true _ _ hS7.zle (fun h=>by cases h) hS7
 ·(repeat (first | refine V_run ?_ | (refine CV_pu ?_; intro _ _ _ _)))
  rename_i hS8;refine ma _ _ _ hS8.zle (fun h2=>?_) hS8;unfold manyM at h h2;simp only [Bool.or_eq_false_iff,Bool.and_eq_false_iff,decide_eq_false_iff_not] at h h2;omega)
end
section
open Go Q Go.RowKit Go.ChangeShapes Go.WideShapes Go.ChangeAt
theorem at_of_cells {w:World} {base n:Nat} {a:Addr} {cs:List Value} (h:w.cells? base a n = some cs) (hn:0 < n):a.spot = none/\cs.length = n/\At (hp w) a.block a.off cs:=by
 obtain ⟨_,hl,hc⟩:=World.cells?_some h;have h0:=hc 0 hn;rw [addr_add0] at h0;have hlt:0 < cs.length:=by omega
 rw [List.getElem?_eq_getElem hlt] at h0;unfold World.cell? at h0
 split at h0
 ·rename_i c ty fr hb
  have hs:a.spot = none:=by
   cases hsp:a.spot with
   | none=>rfl
   | some x=>rw [hsp] at h0; simp at h0
  refine ⟨hs,hl,c,ty,fr,hb,fun j v hv=>?_⟩;have hj:=(List.getElem?_eq_some_iff.1 hv).1;have:=hc j (by omega);obtain ⟨ab,ao,asp⟩:=a;simp only at hs hb;subst hs;rw [add_addr,hv] at this;unfold World.cell? at this;simp only [hb,Option.isSome_none] at this
  simpa using this
 ·cases h0
theorem ownK:ownKnob Tryz.prog.godebug = none:=by kernel_rfl
theorem laidOutP:laidOutB Tryz.prog = true:=by kernel_rfl
theorem own_start (w:World):Own w (hp w) []:=Own.mk' (fun _ _ h=>h) (fun _ h=>by cases h) List.nodup_nil
theorem u4:Tryz.prog.underlying 4 = some .bool:=by kernel_rfl
theorem u5:Tryz.prog.underlying 5 = some (.int .u8):=by kernel_rfl
theorem u3:Tryz.prog.underlying 3 = some (.int .i64):=by kernel_rfl
theorem u9:Tryz.prog.underlying 9 = some .string:=by kernel_rfl
section
variable {H:Type} {enc:TypeId × Value->H} {P:Program}
def Stays (P:Program) (t:TypeId):Prop:=P.readableRec t = true/\t < P.types.size
theorem trodAll_stays (hl:laidOutB P = true) {W W':World} {sp:Nat->Bool} (hB:Below W.heap.size W W') :
  ∀ {ts:List TypeId} {vs:List Value} {ds:List (DataW H)} {ps:List MemPlace},(∀ t ∈ ts,Stays P t)->DataW.TrodAll enc P W 0 (fun _=>true) true ts vs ds ps->(∀ p ∈ ps,p.block < W.heap.size)->(∀ p ∈ ps,sp p.block = true)->DataW.TrodAll enc P W' 0 sp true ts vs ds ps
 | [],[],[],_,_,h,_,_=>h
 | _ :: _,_ :: _,_ :: _,_,hT,⟨p,q,h1,h2,e⟩,hlt,hs=>⟨p,q,
   WideElems.Trod_stays hl (hT _ List.mem_cons_self).1 (hT _ List.mem_cons_self).2 h1 (fun x hx=>hB.same (hlt x (by rw [e]; exact List.mem_append_left _ hx))) (fun x hx=>hs x (by rw [e]; exact List.mem_append_left _ hx)),
   trodAll_stays hl hB (fun t ht=>hT t (List.mem_cons_of_mem _ ht)) h2 (fun x hx=>hlt x (by rw [e]; exact List.mem_append_right _ hx)) (fun x hx=>hs x (by rw [e]; exact List.mem_append_right _ hx)),e⟩
theorem post_law (hl:laidOutB P = true) {f:Func} {s:ChangeSpec} {apart fresh handsOn again:Bool} {W W':World} {args:Array Value} {ds gs:List (DataW H)} {before:List MemPlace} {tb:TypeId}
  (hW:DataW.Whole enc P f.params.toList s.vars apart W args.toList ds gs before) (hB:Below W.heap.size W W')
  (hr:f.resultTypes = #[tb]) (hu:P.underlying tb = some .bool) (hT:∀ t ∈ f.params.toList,Stays P t) (hv:s.vars = [])
  (h1:(s.fn H (ds ++ gs)).results = [.lit (.bool true)]) (h2:(s.fn H (ds ++ gs)).args = ds) (h3:(s.fn H (ds ++ gs)).vars = []) :
  s.post enc P f apart fresh handsOn again W args (.bool true) W':=by
 have hlt:=hW.lt;obtain ⟨pa,pv,hA,hV,rfl,hz,hn⟩:=id hW;rw [hv] at hV;obtain ⟨rfl,rfl⟩:=trodVars_none hV;have hargs:∀ sp:Nat->Bool,(∀ p ∈ pa,sp p.block = true)->DataW.TrodAll enc P W' 0 sp true f.params.toList args.toList (s.fn H (ds ++ [])).args pa:=fun sp hsp=>by
  rw [h2]; exact trodAll_stays hl hB hT hA (fun p hp=>hlt p (by simpa using hp)) hsp
 have hres:∀ (b:Nat) (sp:Nat->Bool) (hd:Bool),DataW.TrodAll enc P W' b sp hd f.resultTypes.toList ((Value.bool true).resultList f.resultTypes.size) (s.fn H (ds ++ [])).results []:=fun b sp hd=>by
  rw [h1,hr]; exact trodAll_cons_mk (shut_bool hu _) trodAll_mk0
 have hvars:∀ sp:Nat->Bool,DataW.TrodVars enc P W' sp s.vars (s.fn H (ds ++ [])).vars []:=fun sp=>by rw [hv,h3]; rfl
 have hold:∀ p ∈ pa,(fun b=>decide (b < W.heap.size)) p.block = true:=fun p hp=>by simpa using hlt p (by simpa using hp)
 refine ⟨ds,[],pa ++ [],[],pa,[],hW,hres _ _ _,hargs _ hold,hvars _,hB.frame _,fun _=>⟨?_,_,_,([] ++ pa) ++ [],⟨[] ++ pa,[],trodAll_append (hargs _ (fun _ _=>rfl)) (hres _ _ _),hvars _,rfl,?_,?_⟩,?_⟩⟩
 ·exact ok_one hr rfl (okWide_bool_mk hu _)
 ·intro b off hp
  have hp':MemPlace.cell b off ∈ pa ++ []:=by simpa using hp
  rw [hB.frozen (p:=⟨b,off,none⟩) (hlt _ hp')];exact hz b off hp'
 ·intro ha
  simpa using hn ha
 ·intro p hp _
  simpa using hp
end
theorem post_fn1 {H:Type} {enc:TypeId × Value->H} {k:FuncId} {f:Func} {s:ChangeSpec} {apart fresh handsOn again:Bool} {W:World} {args:Array Value} {ds gs:List (DataW H)} {before:List MemPlace}
  (hW:DataW.Whole enc Tryz.prog f.params.toList s.vars apart W args.toList ds gs before)
  (hc:Fn1 k args (hp W) W fun _ r=>r = .bool true)
  (hr:f.resultTypes = #[4]) (hT:∀ t ∈ f.params.toList,Stays Tryz.prog t) (hv:s.vars = [])
  (h1:(s.fn H (ds ++ gs)).results = [.lit (.bool true)]) (h2:(s.fn H (ds ++ gs)).args = ds) (h3:(s.fn H (ds ++ gs)).vars = []) :
  Calls Tryz.prog k args W fun e W'=>∃ v,e = .returned v/\s.post enc Tryz.prog f apart fresh handsOn again W args v W':=by
 refine (hc (own_start W)).mono fun e W' he=>?_
 cases e with
 | returned v=>
  obtain ⟨z',hR,rfl⟩:=he;exact ⟨_,rfl,post_law laidOutP hW hR.below hr u4 hT hv h1 h2 h3⟩
 | _=>exact he.elim
section
variable {H:Type} {enc:TypeId × Value->H} {w:World} {base:Nat} {spare:Nat->Bool} {held:Bool}
theorem fieldAt' {t:TypeId} (hu:Tryz.prog.underlying t = some (.struct (fieldsOf t))) {i ty off:Nat} (hi:((fieldsOf t).toList.map fun f=>(f.type,f.offset))[i]? = some (ty,off)):∃ f,(fieldsOf t)[i]? = some f/\f.type = ty/\f.offset = off:=by
 rw [List.getElem?_map] at hi;obtain ⟨f,h1,h2⟩:=Option.map_eq_some_iff.1 hi;simp only [Prod.mk.injEq] at h2;exact ⟨f,by simpa using h1,h2.1,h2.2⟩
theorem sl_read {α:Type} [Inhabited α] {E:El α} {t e:TypeId} (hu:Tryz.prog.underlying t = some (.slice e)) (hc:Tryz.prog.cellsOf e = E.size) (rd:∀ n cs x,DataW.trod enc Tryz.prog w base spare held n e cs = some x->∃ a,E.rel (hp w) cs a)
  {n:Nat} {v:Value} {x:DataW H × List MemPlace} (h:DataW.trod enc Tryz.prog w base spare held n t [v] = some x):∃ l:List α,SlR E (hp w) v l:=by
 rcases Go.Deep.open_slice hu h with ⟨h0,_⟩ | ⟨a,len,cap,m,n',D,Pl,h0,hb,hlc,hcm,hm,_,hel⟩
 ·simp at h0; subst h0; exact ⟨[],SlR.nil⟩
 ·simp at h0; subst h0
  rw [hc] at hel;have hlm:len <= m:=by rw [hm]; split <;> omega
  have key:∀ i,i < len->∃ (o:α) (cs:List Value),E.rel (hp w) cs o/\(i = 0->a.spot = none)/\At (hp w) a.block (a.off + i * E.size) cs:=fun i hi=>by
   obtain ⟨cs,h1,h2⟩:=hel i (by omega);obtain ⟨o,ho⟩:=rd _ _ _ h2;obtain ⟨g1,g2,g3⟩:=at_of_cells h1 E.pos;obtain ⟨ab,ao,asp⟩:=a;unfold Addr.add at g1 g3
   by_cases hz:i * E.size = 0
   ·simp only [hz,if_true] at g1 g3
    exact ⟨o,cs,ho,fun _=>g1,by rw [hz]; exact g3⟩
   ·simp only [hz,if_false] at g1 g3
    exact ⟨o,cs,ho,fun h0=>absurd (by rw [h0]; simp) hz,g3⟩
  classical
  let f:Nat->α:=fun i=>if hi:i < len then Classical.choose (key i hi) else default
  have hf:∀ i,i < len->∃ cs:List Value,E.rel (hp w) cs (f i)/\(i = 0->a.spot = none)/\At (hp w) a.block (a.off + i * E.size) cs:=fun i hi=>by
   simp only [f,dif_pos hi]; exact Classical.choose_spec (key i hi)
  refine ⟨(List.range len).map f,some a,cap,by simp,by simpa using hlc,by simp only [List.length_map,List.length_range,big]; simp only [maxLen] at hcm; omega,fun hn=>?_⟩;have hpos:0 < len:=by
   rcases Nat.eq_zero_or_pos len with h0 | h0
   ·subst h0; simp at hn
   ·exact h0
  obtain ⟨ab,ao,asp⟩:=a;obtain ⟨_,_,hsp,_⟩:=hf 0 hpos;have hsp:=hsp rfl;simp only at hsp;subst hsp;refine ⟨ab,ao,rfl,fun i x hx=>?_⟩;rw [List.getElem?_map] at hx;obtain ⟨k,h1,rfl⟩:=Option.map_eq_some_iff.1 hx;have hk:=List.getElem?_eq_some_iff.1 h1;obtain ⟨hlt,rfl⟩:=hk;simp only [List.getElem_range,List.length_range] at hlt ⊢;obtain ⟨cs,q1,_,q2⟩:=hf i hlt;exact ⟨cs,q1,q2⟩
instance:Inhabited PartM:=⟨⟨0,⟨#[]⟩,0⟩⟩
instance:Inhabited ItemM:=⟨⟨⟨#[]⟩,false⟩⟩
instance:Inhabited SpotM:=⟨⟨⟨#[]⟩,0⟩⟩
instance:Inhabited InsM:=⟨⟨0,0,0,0⟩⟩
theorem part_read {n:Nat} {cs:List Value} {x:DataW H × List MemPlace} (h:DataW.trod enc Tryz.prog w base spare held n 95 cs = some x):∃ o:PartM,El.part.rel (hp w) cs o:=by
 have hu:Tryz.prog.underlying 95 = some (.struct (fieldsOf 95)):=by kernel_rfl
 obtain ⟨xs,m,_,_,hl,hxl,hf⟩:=DataW.trod_struct hu h;have hc4:Tryz.prog.cellsOf 95 = 3:=by kernel_rfl
 rw [hc4] at hl;obtain ⟨f0,a0,b0,c0⟩:=fieldAt' hu (i:=0) (ty:=3) (off:=0) (by kernel_rfl);have h0:=hf 0 f0 a0;obtain ⟨f1,a1,b1,c1⟩:=fieldAt' hu (i:=1) (ty:=9) (off:=1) (by kernel_rfl);have h1:=hf 1 f1 a1;obtain ⟨f2,a2,b2,c2⟩:=fieldAt' hu (i:=2) (ty:=3) (off:=2) (by kernel_rfl);have h2:=hf 2 f2 a2;have hsz:(fieldsOf 95).size = 3:=by kernel_rfl
 rw [hsz] at hxl;rw [b0,c0,show Tryz.prog.cellsOf 3 = 1 by kernel_rfl] at h0;rw [b1,c1,show Tryz.prog.cellsOf 9 = 1 by kernel_rfl] at h1;rw [b2,c2,show Tryz.prog.cellsOf 3 = 1 by kernel_rfl] at h2
 match xs,hxl,cs,hl with
 | [x0,x1,x2],_,[v0,v1,v2],_=>
  obtain ⟨m0,g0,_⟩:=DataW.trod_int u3 (x:=x0) (by simpa using h0);obtain ⟨m1,g1,_,hs⟩:=DataW.trod_string u9 (x:=x1) (by simpa using h1);obtain ⟨m2,g2,_⟩:=DataW.trod_int u3 (x:=x2) (by simpa using h2);simp at g0 g1 g2;subst g0; subst g1; subst g2;exact ⟨⟨m0,m1,m2⟩,rfl,hs⟩
theorem item_read {n:Nat} {cs:List Value} {x:DataW H × List MemPlace} (h:DataW.trod enc Tryz.prog w base spare held n 98 cs = some x):∃ o:ItemM,El.item.rel (hp w) cs o:=by
 have hu:Tryz.prog.underlying 98 = some (.struct (fieldsOf 98)):=by kernel_rfl
 obtain ⟨xs,m,_,_,hl,hxl,hf⟩:=DataW.trod_struct hu h;have hc4:Tryz.prog.cellsOf 98 = 2:=by kernel_rfl
 rw [hc4] at hl;obtain ⟨f0,a0,b0,c0⟩:=fieldAt' hu (i:=0) (ty:=9) (off:=0) (by kernel_rfl);have h0:=hf 0 f0 a0;obtain ⟨f1,a1,b1,c1⟩:=fieldAt' hu (i:=1) (ty:=4) (off:=1) (by kernel_rfl);have h1:=hf 1 f1 a1;have hsz:(fieldsOf 98).size = 2:=by kernel_rfl
 rw [hsz] at hxl;rw [b0,c0,show Tryz.prog.cellsOf 9 = 1 by kernel_rfl] at h0;rw [b1,c1,show Tryz.prog.cellsOf 4 = 1 by kernel_rfl] at h1
 match xs,hxl,cs,hl with
 | [x0,x1],_,[v0,v1],_=>
  obtain ⟨m0,g0,_,hs⟩:=DataW.trod_string u9 (x:=x0) (by simpa using h0);obtain ⟨m1,g1,_⟩:=DataW.trod_bool u4 (x:=x1) (by simpa using h1);simp at g0 g1;subst g0; subst g1;exact ⟨⟨m0,m1⟩,rfl,hs⟩
theorem spot_read {n:Nat} {cs:List Value} {x:DataW H × List MemPlace} (h:DataW.trod enc Tryz.prog w base spare held n 54 cs = some x):∃ o:SpotM,El.spot.rel (hp w) cs o:=by
 have hu:Tryz.prog.underlying 54 = some (.struct (fieldsOf 54)):=by kernel_rfl
 obtain ⟨xs,m,_,_,hl,hxl,hf⟩:=DataW.trod_struct hu h;have hc4:Tryz.prog.cellsOf 54 = 2:=by kernel_rfl
 rw [hc4] at hl;obtain ⟨f0,a0,b0,c0⟩:=fieldAt' hu (i:=0) (ty:=9) (off:=0) (by kernel_rfl);have h0:=hf 0 f0 a0;obtain ⟨f1,a1,b1,c1⟩:=fieldAt' hu (i:=1) (ty:=3) (off:=1) (by kernel_rfl);have h1:=hf 1 f1 a1;have hsz:(fieldsOf 54).size = 2:=by kernel_rfl
 rw [hsz] at hxl;rw [b0,c0,show Tryz.prog.cellsOf 9 = 1 by kernel_rfl] at h0;rw [b1,c1,show Tryz.prog.cellsOf 3 = 1 by kernel_rfl] at h1
 match xs,hxl,cs,hl with
 | [x0,x1],_,[v0,v1],_=>
  obtain ⟨m0,g0,_,hs⟩:=DataW.trod_string u9 (x:=x0) (by simpa using h0);obtain ⟨m1,g1,_⟩:=DataW.trod_int u3 (x:=x1) (by simpa using h1);simp at g0 g1;subst g0; subst g1;exact ⟨⟨m0,m1⟩,rfl,hs⟩
theorem ins_read {n:Nat} {cs:List Value} {x:DataW H × List MemPlace} (h:DataW.trod enc Tryz.prog w base spare held n 38 cs = some x):∃ o:InsM,El.ins.rel (hp w) cs o:=by
 have hu:Tryz.prog.underlying 38 = some (.struct (fieldsOf 38)):=by kernel_rfl
 obtain ⟨xs,m,_,_,hl,hxl,hf⟩:=DataW.trod_struct hu h;have hc4:Tryz.prog.cellsOf 38 = 4:=by kernel_rfl
 rw [hc4] at hl;obtain ⟨f0,a0,b0,c0⟩:=fieldAt' hu (i:=0) (ty:=3) (off:=0) (by kernel_rfl);have h0:=hf 0 f0 a0;obtain ⟨f1,a1,b1,c1⟩:=fieldAt' hu (i:=1) (ty:=3) (off:=1) (by kernel_rfl);have h1:=hf 1 f1 a1;obtain ⟨f2,a2,b2,c2⟩:=fieldAt' hu (i:=2) (ty:=3) (off:=2) (by kernel_rfl);have h2:=hf 2 f2 a2;obtain ⟨f3,a3,b3,c3⟩:=fieldAt' hu (i:=3) (ty:=3) (off:=3) (by kernel_rfl);have h3:=hf 3 f3 a3;have hsz:(fieldsOf 38).size = 4:=by kernel_rfl
 rw [hsz] at hxl;rw [b0,c0,show Tryz.prog.cellsOf 3 = 1 by kernel_rfl] at h0;rw [b1,c1,show Tryz.prog.cellsOf 3 = 1 by kernel_rfl] at h1;rw [b2,c2,show Tryz.prog.cellsOf 3 = 1 by kernel_rfl] at h2;rw [b3,c3,show Tryz.prog.cellsOf 3 = 1 by kernel_rfl] at h3
 match xs,hxl,cs,hl with
 | [x0,x1,x2,x3],_,[v0,v1,v2,v3],_=>
  obtain ⟨m0,g0,_⟩:=DataW.trod_int u3 (x:=x0) (by simpa using h0);obtain ⟨m1,g1,_⟩:=DataW.trod_int u3 (x:=x1) (by simpa using h1);obtain ⟨m2,g2,_⟩:=DataW.trod_int u3 (x:=x2) (by simpa using h2);obtain ⟨m3,g3,_⟩:=DataW.trod_int u3 (x:=x3) (by simpa using h3);simp at g0 g1 g2 g3;subst g0; subst g1; subst g2; subst g3;exact ⟨⟨m0,m1,m2,m3⟩,rfl⟩
theorem str_read {n:Nat} {cs:List Value} {x:DataW H × List MemPlace} (h:DataW.trod enc Tryz.prog w base spare held n 9 cs = some x):∃ o:ByteArray,El.str.rel (hp w) cs o:=by
 obtain ⟨s,g,_,hs⟩:=DataW.trod_string u9 h;exact ⟨s,g,hs⟩
theorem one_of_slice {n t e:Nat} {cs:List Value} {x:DataW H × List MemPlace} (hu:Tryz.prog.underlying t = some (.slice e)) (h:DataW.trod enc Tryz.prog w base spare held n t cs = some x):∃ v,cs = [v]:=by
 rcases Go.Deep.open_slice hu h with ⟨h0,_⟩ | ⟨a,len,cap,m,n',D,Pl,h0,_⟩ <;> exact ⟨_,h0⟩
theorem parts_read {n:Nat} {cs:List Value} {x:DataW H × List MemPlace} (h:DataW.trod enc Tryz.prog w base spare held n 93 cs = some x):∃ o:List PartM,(El.sl El.part).rel (hp w) cs o:=by
 obtain ⟨v,rfl⟩:=one_of_slice (e:=95) (by kernel_rfl) h;obtain ⟨l,hl⟩:=sl_read (E:=El.part) (e:=95) (by kernel_rfl) (by kernel_rfl) (fun _ _ _=>part_read) h;exact ⟨l,v,rfl,hl⟩
theorem items_read {n:Nat} {cs:List Value} {x:DataW H × List MemPlace} (h:DataW.trod enc Tryz.prog w base spare held n 96 cs = some x):∃ o:List ItemM,(El.sl El.item).rel (hp w) cs o:=by
 obtain ⟨v,rfl⟩:=one_of_slice (e:=98) (by kernel_rfl) h;obtain ⟨l,hl⟩:=sl_read (E:=El.item) (e:=98) (by kernel_rfl) (by kernel_rfl) (fun _ _ _=>item_read) h;exact ⟨l,v,rfl,hl⟩
theorem u28:Tryz.prog.underlying 28 = some (.struct (fieldsOf 28)):=by kernel_rfl
theorem codeArg {r:Reach} {b0 n:Nat} {v:Value} {x:DataW H × List MemPlace} (hval:Value.okWide Tryz.prog w r b0 28 v) (h:DataW.trod enc Tryz.prog w base spare held n 28 v.cells.toList = some x):∃ c:CodeM,CodeR (hp w) v c:=by
 obtain ⟨xs,m,_,_,hl,hxl,hf⟩:=DataW.trod_struct u28 h;have hc4:Tryz.prog.cellsOf 28 = 6:=by kernel_rfl
 rw [hc4] at hl;obtain ⟨f0,a0,b0,c0⟩:=fieldAt' u28 (i:=0) (ty:=22) (off:=0) (by kernel_rfl);have h0:=hf 0 f0 a0;obtain ⟨f1,a1,b1,c1⟩:=fieldAt' u28 (i:=1) (ty:=23) (off:=1) (by kernel_rfl);have h1:=hf 1 f1 a1;obtain ⟨f2,a2,b2,c2⟩:=fieldAt' u28 (i:=2) (ty:=24) (off:=2) (by kernel_rfl);have h2:=hf 2 f2 a2;obtain ⟨f3,a3,b3,c3⟩:=fieldAt' u28 (i:=3) (ty:=25) (off:=3) (by kernel_rfl);have h3:=hf 3 f3 a3;obtain ⟨f4,a4,b4,c4⟩:=fieldAt' u28 (i:=4) (ty:=22) (off:=4) (by kernel_rfl);have h4:=hf 4 f4 a4;obtain ⟨f5,a5,b5,c5⟩:=fieldAt' u28 (i:=5) (ty:=26) (off:=5) (by kernel_rfl);have h5:=hf 5 f5 a5;have hsz:(fieldsOf 28).size = 6:=by kernel_rfl
 rw [hsz] at hxl;rw [b0,c0,show Tryz.prog.cellsOf 22 = 1 by kernel_rfl] at h0;rw [b1,c1,show Tryz.prog.cellsOf 23 = 1 by kernel_rfl] at h1;rw [b2,c2,show Tryz.prog.cellsOf 24 = 1 by kernel_rfl] at h2;rw [b3,c3,show Tryz.prog.cellsOf 25 = 1 by kernel_rfl] at h3;rw [b4,c4,show Tryz.prog.cellsOf 22 = 1 by kernel_rfl] at h4;rw [b5,c5,show Tryz.prog.cellsOf 26 = 1 by kernel_rfl] at h5;have hv:∃ cs,v = .agg cs:=by
  simp only [Value.okWide,u28] at hval;exact ⟨_,hval.choose_spec.1⟩
 obtain ⟨cs,rfl⟩:=hv;obtain ⟨l,rfl⟩:∃ l:List Value,cs = l.toArray:=⟨cs.toList,by simp⟩
 simp only [Value.cells] at hl h0 h1 h2 h3 h4 h5
 match xs,hxl,l,hl with
 | [x0,x1,x2,x3,x4,x5],_,[v0,v1,v2,v3,v4,v5],_=>
  obtain ⟨l0,g0⟩:=sl_read (E:=El.str) (e:=9) (by kernel_rfl) (by kernel_rfl) (fun _ _ _=>str_read) (x:=x0) (v:=v0) (by simpa using h0);obtain ⟨l1,g1⟩:=sl_read (E:=El.sl El.part) (e:=93) (by kernel_rfl) (by kernel_rfl) (fun _ _ _=>parts_read) (x:=x1) (v:=v1) (by simpa using h1);obtain ⟨l2,g2⟩:=sl_read (E:=El.sl El.item) (e:=96) (by kernel_rfl) (by kernel_rfl) (fun _ _ _=>items_read) (x:=x2) (v:=v2) (by simpa using h2);obtain ⟨l3,g3⟩:=sl_read (E:=El.spot) (e:=54) (by kernel_rfl) (by kernel_rfl) (fun _ _ _=>spot_read) (x:=x3) (v:=v3) (by simpa using h3);obtain ⟨l4,g4⟩:=sl_read (E:=El.str) (e:=9) (by kernel_rfl) (by kernel_rfl) (fun _ _ _=>str_read) (x:=x4) (v:=v4) (by simpa using h4);obtain ⟨l5,g5⟩:=sl_read (E:=El.ins) (e:=38) (by kernel_rfl) (by kernel_rfl) (fun _ _ _=>ins_read) (x:=x5) (v:=v5) (by simpa using h5);exact ⟨⟨l0,l1,l2,l3,l4,l5⟩,v0,v1,v2,v3,v4,v5,rfl,g0,g1,g2,g3,g4,g5⟩
end
theorem stays9:Stays Tryz.prog 9:=⟨by kernel_rfl,of_decide_eq_true (by kernel_rfl)⟩
theorem stays28:Stays Tryz.prog 28:=⟨by kernel_rfl,of_decide_eq_true (by kernel_rfl)⟩
theorem tab_start {W:World} (h:Lib.TabIs Tryz.prog W "internal/strconv.uint64pow10" .u64 Lib.pow10Tab):Tab (hp W):=⟨fun w hw=>by
 unfold Lib.TabIs World.var? at *
 cases hg:Tryz.prog.globalNamed "internal/strconv.uint64pow10" with
 | none=>simp [hg] at h
 | some g=>
  simp only [hg,Option.bind_some] at h ⊢
  cases ho:W.heap[g]? with
  | none=>rw [ho] at h; simp at h
  | some o=>rw [hw g o ho,<- ho]; exact h⟩
theorem laidVars_tab {P:Program} {W:World} {name:String} {k:IntKind} {zs:List Int} {rest:List (String × DataW Unit)} {ps:List MemPlace} {g:Nat} {t e:TypeId} {n:Nat}
  (hg:P.globalNamed name = some g) (hty:(P.globals[g]?).map (·.type) = some t) (ht:P.underlying t = some (.array n e)) (he:P.underlying e = some (.int k)) (hce:P.cellsOf e = 1) (hct:P.cellsOf t = n)
  (h:DataW.LaidVars P W ((name,Lib.tabData k zs) :: rest) ps):Lib.TabIs P W name k zs:=by
 obtain ⟨g',t',cs,fuel,p,q,hg',ht',hvar,hd,_,_⟩:=h;obtain rfl:=Option.some.inj (hg.symm.trans hg');obtain rfl:=Option.some.inj (hty.symm.trans ht');unfold Lib.TabIs;rw [hvar,<- Lib.cells_of_tab ht he hce hct hd]
theorem tab_of {W:World} {a b:String × DataW Unit} {rest:List (String × DataW Unit)} (h:laidMet Tryz.prog (a :: b :: ("internal/strconv.uint64pow10",Rows.laid_internal_strconv_uint64pow10) :: rest) W):Lib.TabIs Tryz.prog W "internal/strconv.uint64pow10" .u64 Lib.pow10Tab:=by
 obtain ⟨ps,hv,_⟩:=h;obtain ⟨a1,b1⟩:=a;obtain ⟨a2,b2⟩:=b;obtain ⟨_,_,_,_,_,_,_,_,_,_,hv,_⟩:=hv;obtain ⟨_,_,_,_,_,_,_,_,_,_,hv,_⟩:=hv;exact laidVars_tab (g:=3) (t:=328) (n:=20) (e:=309) (by kernel_rfl) (by kernel_rfl) (by kernel_rfl) (by kernel_rfl) (by kernel_rfl) (by kernel_rfl) (show DataW.LaidVars Tryz.prog W (("internal/strconv.uint64pow10",Lib.tabData .u64 Lib.pow10Tab) :: rest) _ from hv)
end
section
open Go Q Go.RowKit Go.ChangeShapes Go.WideShapes Go.ChangeAt
theorem u55:Tryz.prog.underlying 55 = some (.slice 5):=by kernel_rfl
theorem stays55:Stays Tryz.prog 55:=⟨by kernel_rfl,of_decide_eq_true (by kernel_rfl)⟩
section
variable {H:Type} {enc:TypeId × Value->H} {w:World} {base:Nat} {spare:Nat->Bool} {held:Bool}
theorem byte_read {n:Nat} {cs:List Value} {x:DataW H × List MemPlace} (h:DataW.trod enc Tryz.prog w base spare held n 5 cs = some x):∃ o:UInt8,El.byte.rel (hp w) cs o:=by
 obtain ⟨o,g,_,ho⟩:=DataW.trod_int u5 h;have ho':0 <= o/\o <= 255:=by simpa [Lit.wf,IntKind.min,IntKind.max,IntKind.signed,IntKind.bits] using ho
 refine ⟨UInt8.ofNat o.toNat,?_⟩
 show cs = [.int .u8 ((UInt8.ofNat o.toNat).toNat:Nat)]
 rw [g,UInt8.toNat_ofNat',Nat.mod_eq_of_lt (by omega)]
 congr 2
 omega
theorem u8s_read {n:Nat} {v:Value} {x:DataW H × List MemPlace} (h:DataW.trod enc Tryz.prog w base spare held n 55 [v] = some x):∃ l:List UInt8,SlR El.byte (hp w) v l:=
 sl_read (E:=El.byte) (e:=5) u55 (by kernel_rfl) (fun _ _ _=>byte_read) h
end
end
section
open Go Q Go.RowKit
theorem trod_iface {H:Type} {enc:TypeId × Value->H} {P:Program} {w:World} {sp:Nat->Bool} {fuel:Nat} {t:TypeId} {cs:List Value} {nm:String} {x:DataW H} {p:List MemPlace} (ht:∃ ms,P.underlying t = some (.interface ms))
  (h:DataW.trod enc P w 0 sp false fuel t cs = some (.iface nm x,p)):∃ u v,cs = [.iface u v]:=by
 obtain ⟨ms,ht⟩:=ht
 cases fuel with
 | zero=>cases h
 | succ fuel=>
  unfold DataW.trod at h;rw [ht] at h
  split at h <;> rename_i h1 <;> first | (cases h1; done) | skip
  all_goals first | (simp at h; done) | exact ⟨_,_,rfl⟩
theorem laidVars_iface {P:Program} {W:World} {name nm:String} {x:DataW Unit} {rest:List (String × DataW Unit)} {ps:List MemPlace} {g:Nat} {t:TypeId}
  (hg:P.globalNamed name = some g) (hty:(P.globals[g]?).map (·.type) = some t) (ht:∃ ms,P.underlying t = some (.interface ms))
  (h:DataW.LaidVars P W ((name,.iface nm x) :: rest) ps):∃ ev,W.cell? ⟨g,0,none⟩ = some ev/\∃ u v,ev = .iface u v:=by
 obtain ⟨g',t',cs,fuel,p,q,hg',ht',hvar,hd,_,_⟩:=h;obtain rfl:=Option.some.inj (hty.symm.trans (by rw [Option.some.inj (hg.symm.trans hg')]; exact ht'));obtain ⟨u,v,e⟩:=trod_iface ht hd;have:=World.var?_cell hg hvar 0;refine ⟨.iface u v,?_,u,v,rfl⟩;rw [this,<- Array.getElem?_toList,e]
 rfl
theorem cell_hp {W w:World} {g:Nat} {ev:Value} (h:W.cell? ⟨g,0,none⟩ = some ev) (hw:Sub (hp W) w):w.cell? ⟨g,0,none⟩ = some ev:=by
 unfold World.cell? at h ⊢
 cases ho:W.heap[g]? with
 | none=>simp [ho] at h
 | some o=>rw [ho] at h; rw [hw g o ho]; exact h
theorem errs_of {W:World} {a b c d:String × DataW Unit} {rest:List (String × DataW Unit)} (h:laidMet Tryz.prog (a :: b :: c :: d :: ("strconv.ErrRange",Rows.laid_strconv_ErrRange) :: ("strconv.ErrSyntax",Rows.laid_strconv_ErrSyntax) :: rest) W):Errs (hp W):=by
 obtain ⟨ps,hv,_⟩:=h;obtain ⟨a1,b1⟩:=a;obtain ⟨a2,b2⟩:=b;obtain ⟨a3,b3⟩:=c;obtain ⟨a4,b4⟩:=d;obtain ⟨_,_,_,_,_,_,_,_,_,_,hv,_⟩:=hv;obtain ⟨_,_,_,_,_,_,_,_,_,_,hv,_⟩:=hv;obtain ⟨_,_,_,_,_,_,_,_,_,_,hv,_⟩:=hv;obtain ⟨_,_,_,_,_,_,_,_,_,_,hv,_⟩:=hv;have hv2:=hv;obtain ⟨_,_,_,_,_,_,_,_,_,_,hv2,_⟩:=hv2;have hi:∃ ms,Tryz.prog.underlying 201 = some (.interface ms):=⟨_,Tryz.underlying201⟩
 obtain ⟨e5,c5,u5,v5,r5⟩:=laidVars_iface (g:=5) (t:=201) (by kernel_rfl) (by kernel_rfl) hi (show DataW.LaidVars Tryz.prog W (("strconv.ErrRange",.iface _ _) :: _) _ from hv);obtain ⟨e4,c4,u4,v4,r4⟩:=laidVars_iface (g:=4) (t:=201) (by kernel_rfl) (by kernel_rfl) hi (show DataW.LaidVars Tryz.prog W (("strconv.ErrSyntax",.iface _ _) :: _) _ from hv2);exact ⟨fun w hw=>⟨⟨e4,cell_hp c4 hw,.inr ⟨u4,v4,r4⟩⟩,⟨e5,cell_hp c5 hw,.inr ⟨u5,v5,r5⟩⟩⟩⟩
end
end Go.Proofs.YtbeelfopmkbllaaGreatDoor
