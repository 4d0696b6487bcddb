/- Texts joined: Q7, Q8, Q9, Q10, Q11, Q12, Q13, Q14, Ty, Q15, Q16, Q17, C1, C2, Q18, C3, C4, C5, C6, C7, C8, C9, C10. -/
import Derived.Test.YtbeelfopmkbllaaGreatDoorM0
import Derived.Below
import Derived.Laws.AppendOwn
import Derived.IntWalk
import GoSem.Extern.BytealgIndexByte
import Derived.Test.YtbeelfopmkbllaaGreatDoorM2
import Derived.Laws.Bits128
import Derived.Laws.Shifts
import Derived.Lib.Bytealg
import Derived.Lib.ConvBytes
import Derived.Lib.Builder
import Derived.Lib.AppendStr
import Derived.Lib.UnsafeStr
import Derived.Lib.MakeNoZero
import Derived.Laws.CopyRow
set_option linter.unusedSimpArgs false
set_option linter.unusedVariables false
set_option linter.unusedSectionVars false
set_option maxRecDepth 100000
set_option maxHeartbeats 1000000
namespace Go.Proofs.YtbeelfopmkbllaaGreatDoor
section
open Go Q Go.RowKit
abbrev Z:=Nat->Option Obj
abbrev Bl:=List (Nat × Obj)
def Sub (z:Z) (w:World):Prop:=∀ b o,z b = some o->w.heap[b]? = some o
def Le (z z':Z):Prop:=∀ b o,z b = some o->z' b = some o
theorem Le.refl (z:Z):Le z z:=fun _ _ h=>h
theorem Le.trans {a b c:Z} (h:Le a b) (h':Le b c):Le a c:=fun _ _ hh=>h' _ _ (h _ _ hh)
def ids (B:Bl):List Nat:=B.map (·.1)
class Res (w0:outParam World) (z0:outParam Z) (B0:outParam Bl) (w:World) (z:outParam Z) (L:outParam Bl):Prop where
 os:w.os = w0.os
 tape:w.tape = w0.tape
 output:w.output = w0.output
 size:w0.heap.size <= w.heap.size
 base:∀ b,b < w0.heap.size->b ∉ ids B0->w.heap[b]? = w0.heap[b]?
 sub:Sub z w
 zle:Le z0 z
 znew:∀ b,z b ≠ none->z0 b ≠ none \/ w0.heap.size <= b \/ b ∈ ids B0
 mem:∀ p ∈ L,w.heap[p.1]? = some p.2/\z p.1 = none/\(w0.heap.size <= p.1 \/ p.1 ∈ ids B0)
 nodup:(ids L).Nodup
abbrev Own (w:World) (z:Z) (B:Bl):Prop:=Res w z B w z B
theorem mem_ids {B:Bl} {p:Nat × Obj} (h:p ∈ B):p.1 ∈ ids B:=List.mem_map.2 ⟨p,h,rfl⟩
theorem Own.mk' {w:World} {z:Z} {B:Bl} (h1:Sub z w) (h2:∀ p ∈ B,w.heap[p.1]? = some p.2/\z p.1 = none) (h3:(ids B).Nodup):Own w z B:=
 ⟨rfl,rfl,rfl,Nat.le_refl _,fun _ _ _=>rfl,h1,Le.refl _,fun b h=>.inl h,fun p hp=>⟨(h2 p hp).1,(h2 p hp).2,.inr (mem_ids hp)⟩,h3⟩
theorem lt_of_get {w:World} {b:Nat} {o:Obj} (h:w.heap[b]? = some o):b < w.heap.size:=(Array.getElem?_eq_some_iff.1 h).1
section
variable {w0 w w':World} {z0 z z':Z} {B0 B B' L F:Bl} {b:Nat} {o:Obj}
theorem Res.drop (h:Res w0 z0 B0 w z L):Res w0 z0 B0 w z []:={ h with mem:=fun _ hp=>(by cases hp),nodup:=.nil }
theorem Res.sublist (h:Res w0 z0 B0 w z L) {L':Bl} (hs:L'.Sublist L):Res w0 z0 B0 w z L':=
 { h with mem:=fun p hp=>h.mem p (hs.subset hp),nodup:=(hs.map _).nodup h.nodup }
theorem Res.perm (h:Res w0 z0 B0 w z L) {L':Bl} (hs:L.Perm L'):Res w0 z0 B0 w z L':=
 { h with mem:=fun p hp=>h.mem p (hs.mem_iff.2 hp),nodup:=(hs.map _).nodup_iff.1 h.nodup }
theorem Res.own (h:Res w0 z0 B0 w z (B ++ F)):Own w z B:=
 Own.mk' h.sub (fun p hp=>⟨(h.mem p (List.mem_append_left _ hp)).1,(h.mem p (List.mem_append_left _ hp)).2.1⟩) (by
  have:=h.nodup;simp only [ids,List.map_append] at this;exact (List.nodup_append.1 this).1)
theorem Res.step (h:Res w0 z0 B0 w z (B ++ F)) (k:Res w z B w' z' B'):Res w0 z0 B0 w' z' (B' ++ F) where
 os:=k.os.trans h.os
 tape:=k.tape.trans h.tape
 output:=k.output.trans h.output
 size:=Nat.le_trans h.size k.size
 base:=fun b hb hn=>by
  have hb':b < w.heap.size:=Nat.lt_of_lt_of_le hb h.size;rw [k.base b hb' fun hB=>?_,h.base b hb hn];obtain ⟨p,hp,rfl⟩:=List.mem_map.1 hB
  rcases (h.mem p (List.mem_append_left _ hp)).2.2 with hh | hh
  ·omega
  ·exact hn hh
 sub:=k.sub
 zle:=h.zle.trans k.zle
 znew:=fun b hb=>by
  rcases k.znew b hb with hh | hh | hh
  ·exact h.znew b hh
  ·exact .inr (.inl (Nat.le_trans h.size hh))
  ·obtain ⟨p,hp,rfl⟩:=List.mem_map.1 hh
   exact .inr (h.mem p (List.mem_append_left _ hp)).2.2
 mem:=fun p hp=>by
  rcases List.mem_append.1 hp with hp | hp
  ·obtain ⟨h1,h2,h3⟩:=k.mem p hp
   refine ⟨h1,h2,?_⟩
   rcases h3 with hh | hh
   ·exact .inl (Nat.le_trans h.size hh)
   ·obtain ⟨q,hq,hqp⟩:=List.mem_map.1 hh
    rw [<- hqp];exact (h.mem q (List.mem_append_left _ hq)).2.2
  ·obtain ⟨h1,h2,h3⟩:=h.mem p (List.mem_append_right _ hp)
   have hlt:=lt_of_get h1;have hnB:p.1 ∉ ids B:=fun hB=>by
    have:=h.nodup;simp only [ids,List.map_append] at this;exact (List.nodup_append.1 this).2.2 _ hB _ (mem_ids hp) rfl
   refine ⟨by rw [k.base _ hlt hnB]; exact h1,?_,h3⟩
   cases hz:z' p.1 with
   | none=>rfl
   | some o=>
    rcases k.znew p.1 (by rw [hz]; simp) with hh | hh | hh
    ·exact absurd h2 hh
    ·omega
    ·exact absurd hh hnB
 nodup:=by
  simp only [ids,List.map_append];refine List.nodup_append.2 ⟨k.nodup,?_,fun a ha b hb hab=>?_⟩
  ·have:=h.nodup
   simp only [ids,List.map_append] at this;exact (List.nodup_append.1 this).2.1
  ·subst hab
   obtain ⟨p,hp,rfl⟩:=List.mem_map.1 ha;obtain ⟨q,hq,hqp⟩:=List.mem_map.1 hb;have hq':=h.mem q (List.mem_append_right _ hq)
   rcases (k.mem p hp).2.2 with hh | hh
   ·have:=lt_of_get hq'.1
    omega
   ·have:=h.nodup
    simp only [ids,List.map_append] at this;exact (List.nodup_append.1 this).2.2 _ hh _ (mem_ids hq) hqp.symm
theorem Res.call1 (h:Res w0 z0 B0 w z L) (k:Res w z [] w' z' []):Res w0 z0 B0 w' z' L:=Res.step (B:=[]) (B':=[]) h k
theorem Res.new (h:Res w0 z0 B0 w z L) (o:Obj):Res w0 z0 B0 { w with heap:=w.heap.push o } z ((w.heap.size,o) :: L):=by
 refine Res.step (B:=[]) (B':=[(w.heap.size,o)]) h ⟨rfl,rfl,rfl,by simp,fun b hb _=>?_,fun b o' hz=>?_,Le.refl _,fun b hb=>.inl hb,fun p hp=>?_,by simp [ids]⟩
 ·simp [Array.getElem?_push,Nat.ne_of_lt hb]
 ·have:=lt_of_get (h.sub b o' hz)
  simp [Array.getElem?_push,Nat.ne_of_lt this];exact h.sub b o' hz
 ·simp only [List.mem_singleton] at hp
  subst hp;refine ⟨by simp,?_,.inl (Nat.le_refl _)⟩
  cases hz:z w.heap.size with
  | none=>rfl
  | some o'=>have:=lt_of_get (h.sub _ _ hz); omega
theorem Res.put (h:Res w0 z0 B0 w z ((b,o) :: L)) (o':Obj) {wn:World} (hw:wn = { w with heap:=w.heap.setIfInBounds b o' }):Res w0 z0 B0 wn z ((b,o') :: L):=by
 subst hw;have hb:=h.mem (b,o) List.mem_cons_self;have hlt:=lt_of_get hb.1;have hk:Own w z [(b,o)]:=Res.own (F:=L) h;refine Res.step (B:=[(b,o)]) (B':=[(b,o')]) h ⟨rfl,rfl,rfl,by simp,fun c hc hn=>?_,fun c o'' hz=>?_,Le.refl _,fun c hc=>.inl hc,fun p hp=>?_,by simp [ids]⟩
 ·have:b ≠ c:=fun e=>hn (by simp [ids,e])
  simp [Array.getElem?_setIfInBounds_ne this]
 ·have:b ≠ c:=fun e=>by rw [e] at hb; rw [hb.2.1] at hz; cases hz
  simp [Array.getElem?_setIfInBounds_ne this];exact h.sub c o'' hz
 ·simp only [List.mem_singleton] at hp
  subst hp;exact ⟨by simp [hlt],hb.2.1,.inr (by simp [ids])⟩
theorem Res.freeze (h:Res w0 z0 B0 w z ((b,o) :: L)):Res w0 z0 B0 w (fun c=>if c = b then some o else z c) L:=by
 have hb:=h.mem (b,o) List.mem_cons_self;refine { h with sub:=fun c o' hc=>?_,zle:=fun c o' hc=>?_,znew:=fun c hc=>?_,mem:=fun p hp=>?_,nodup:=?_ }
 ·by_cases hcb:c = b
  ·simp only [hcb,if_true,Option.some.injEq] at hc; subst hc; rw [hcb]; exact hb.1
  ·simp only [hcb,if_false] at hc; exact h.sub c o' hc
 ·by_cases hcb:c = b
  ·have:=h.zle c o' hc; rw [hcb,hb.2.1] at this; cases this
  ·simp only [hcb,if_false]; exact h.zle c o' hc
 ·by_cases hcb:c = b
  ·rw [hcb]; exact .inr hb.2.2
  ·simp only [hcb,if_false] at hc; exact h.znew c hc
 ·have hp':=h.mem p (List.mem_cons_of_mem _ hp)
  have hne:p.1 ≠ b:=fun e=>by
   have:=h.nodup;simp only [ids,List.map_cons,List.nodup_cons] at this;exact this.1 (e ▸ mem_ids hp)
  exact ⟨hp'.1,by simp only [hne,if_false]; exact hp'.2.1,hp'.2.2⟩
 ·have:=h.nodup
  simp only [ids,List.map_cons,List.nodup_cons] at this;exact this.2
theorem Res.freeze_le (h:Res w0 z0 B0 w z ((b,o) :: L)):Le z (fun c=>if c = b then some o else z c):=fun c o' hc=>by
 by_cases hcb:c = b
 ·rw [hcb,(h.mem (b,o) List.mem_cons_self).2.1] at hc; cases hc
 ·simp only [hcb,if_false]; exact hc
theorem Res.drew (h:Res w0 z0 B0 w z L):Res w0 z0 B0 { w with drawn:=w.drawn + 1 } z L:={ h with }
theorem Res.below (h:Res w0 z0 [] w z L):Below w0.heap.size w0 w:=⟨h.os,h.tape,h.output,h.size,fun b hb=>h.base b hb (by simp [ids])⟩
end
def Fn1 (f:FuncId) (args:Array Value) (z:Z) (w:World) (R:Z->Value->Prop):Prop:=
 Own w z []->Calls Tryz.prog f args w (retK fun v w'=>∃ z',Res w z [] w' z' []/\R z' v)
def Fn (f:FuncId) (args:Array Value) (z:Z) (B:Bl) (w:World) (R:Z->Bl->Value->Prop):Prop:=
 Own w z B->Calls Tryz.prog f args w (retK fun v w'=>∃ z' B',Res w z B w' z' B'/\R z' B' v)
def Va1 (f:Value) (args:Array Value) (z:Z) (w:World) (R:Z->Value->Prop):Prop:=
 Own w z []->CV f args w (fun v w'=>∃ z',Res w z [] w' z' []/\R z' v)
def Va (f:Value) (args:Array Value) (z:Z) (B:Bl) (w:World) (R:Z->Bl->Value->Prop):Prop:=
 Own w z B->CV f args w (fun v w'=>∃ z' B',Res w z B w' z' B'/\R z' B' v)
class Enters (f:FuncId):Prop where
 h:∀ args w,(callFunc f args).run Tryz.prog w = .ok (.enter f args) w
theorem CV_enter {f:FuncId} [he:Enters f] {first args cap args':Array Value} {w:World} {K:Value->World->Prop} (ha:first ++ args ++ cap = args') (h:Calls Tryz.prog f args' w (retK K)) :
  CV (.func (.func f) first cap) args w K:=by
 subst ha;have:(callSem (.func (.func f) first cap) args).run Tryz.prog w = .ok (.enter f (first ++ args ++ cap)) w:=by
  simp only [callSem,Deferred.ofValue,pure_bind,invoke];exact he.h _ _
 unfold CV CallV;rw [this];exact h
section
variable {w0 w:World} {z0 z:Z} {B0 B L F:Bl} {f:FuncId} {args args' first cap:Array Value} {K:Value->World->Prop}
theorem CV_fn1 [Enters f] (hS:Res w0 z0 B0 w z L) {R:Z->Value->Prop} (h:Fn1 f args' z w R) (ha:first ++ args ++ cap = args') (hK:∀ z' w' v,Le z z'->Res w0 z0 B0 w' z' L->R z' v->K v w') :
  CV (.func (.func f) first cap) args w K:=by
 refine CV_enter ha ?_;refine Calls.mono (h (Res.own (B:=[]) hS)) ?_;refine retK.mono ?_;rintro v w' ⟨z',h1,h2⟩
 exact hK z' w' v h1.zle (hS.call1 h1) h2
theorem CV_fn [Enters f] (hS:Res w0 z0 B0 w z (B ++ F)) {R:Z->Bl->Value->Prop} (h:Fn f args' z B w R) (ha:first ++ args ++ cap = args') (hK:∀ z' B' w' v,Le z z'->Res w0 z0 B0 w' z' (B' ++ F)->R z' B' v->K v w') :
  CV (.func (.func f) first cap) args w K:=by
 refine CV_enter ha ?_;refine Calls.mono (h hS.own) ?_;refine retK.mono ?_;rintro v w' ⟨z',B',h1,h2⟩
 exact hK z' B' w' v h1.zle (hS.step h1) h2
theorem CV_va1 {g:Value} (hS:Res w0 z0 B0 w z L) {R:Z->Value->Prop} (h:Va1 g args z w R) (hK:∀ z' w' v,Le z z'->Res w0 z0 B0 w' z' L->R z' v->K v w'):CV g args w K:=by
 refine CallV.mono (h (Res.own (B:=[]) hS)) ?_;rintro v w' ⟨z',h1,h2⟩
 exact hK z' w' v h1.zle (hS.call1 h1) h2
theorem CV_va {g:Value} (hS:Res w0 z0 B0 w z (B ++ F)) {R:Z->Bl->Value->Prop} (h:Va g args z B w R) (hK:∀ z' B' w' v,Le z z'->Res w0 z0 B0 w' z' (B' ++ F)->R z' B' v->K v w'):CV g args w K:=by
 refine CallV.mono (h hS.own) ?_;rintro v w' ⟨z',B',h1,h2⟩
 exact hK z' B' w' v h1.zle (hS.step h1) h2
theorem Fn1.va [Enters f] {R:Z->Value->Prop} (h:Fn1 f args' z w R) (ha:first ++ args ++ cap = args'):Va1 (.func (.func f) first cap) args z w R:=
 fun ho=>CV_enter ha (h ho)
theorem Fn.va [Enters f] {R:Z->Bl->Value->Prop} (h:Fn f args' z B w R) (ha:first ++ args ++ cap = args'):Va (.func (.func f) first cap) args z B w R:=
 fun ho=>CV_enter ha (h ho)
end
end
section
open Go Q Go.RowKit
class Get (l:List Value) (i:Nat) (v:outParam Value):Prop where
 h:l[i]? = some v
instance (priority:=900) Get.tail {x:Value} {l:List Value} {i:Nat} {v:Value} [g:Get l i v]:Get (x :: l) (i + 1) v:=⟨by simpa using g.h⟩
instance Get.head {v:Value} {l:List Value}:Get (v :: l) 0 v:=⟨rfl⟩
class GetN (l:List Value) (i n:Nat) (vs:outParam (List Value)):Prop where
 len:vs.length = n
 h:∀ j v,vs[j]? = some v->l[i + j]? = some v
instance GetN.nil {l:List Value}:GetN l 0 0 []:=⟨rfl,fun j v h=>by simp at h⟩
instance GetN.cons {x:Value} {l vs:List Value} {n:Nat} [g:GetN l 0 n vs]:GetN (x :: l) 0 (n + 1) (x :: vs):=⟨by simp [g.len],fun j v h=>by
 cases j with
 | zero=>simpa using h
 | succ j=>have:=g.h j v (by simpa using h); simpa [Nat.add_comm,Nat.add_assoc] using this⟩
instance (priority:=900) GetN.skip {x:Value} {l vs:List Value} {i n:Nat} [g:GetN l i n vs]:GetN (x :: l) (i + 1) n vs:=⟨g.len,fun j v h=>by
 have:=g.h j v h;rw [show i + 1 + j = (i + j) + 1 by omega]
 simpa using this⟩
class SetN (l:List Value) (i:Nat) (vs:List Value) (l':outParam (List Value)):Prop where
 len:l'.length = l.length
 bound:i + vs.length <= l.length
 inn:∀ j v,vs[j]? = some v->l'[i + j]? = some v
 out:∀ k,k < i \/ i + vs.length <= k->l'[k]? = l[k]?
instance SetN.nil {l:List Value}:SetN l 0 [] l:=⟨rfl,by simp,fun j v h=>by simp at h,fun _ _=>rfl⟩
instance SetN.cons {x v:Value} {l vs l':List Value} [g:SetN l 0 vs l']:SetN (x :: l) 0 (v :: vs) (v :: l') where
 len:=by simp [g.len]
 bound:=by have:=g.bound; simp at this ⊢; omega
 inn:=fun j u h=>by
  cases j with
  | zero=>simpa using h
  | succ j=>have:=g.inn j u (by simpa using h); simpa [Nat.add_comm,Nat.add_assoc] using this
 out:=fun k hk=>by
  cases k with
  | zero=>simp at hk
  | succ k=>simpa using g.out k (.inr (by simp at hk; omega))
instance (priority:=900) SetN.skip {x:Value} {l vs l':List Value} {i:Nat} [g:SetN l i vs l']:SetN (x :: l) (i + 1) vs (x :: l') where
 len:=by simp [g.len]
 bound:=by have:=g.bound; simp at this ⊢; omega
 inn:=fun j u h=>by
  rw [show i + 1 + j = (i + j) + 1 by omega]
  simpa using g.inn j u h
 out:=fun k hk=>by
  cases k with
  | zero=>rfl
  | succ k=>simpa using g.out k (by omega)
class CellsOf (v:Value) (vs:outParam (List Value)):Prop where
 h:v.cells = vs.toArray
instance {l:List Value}:CellsOf (.agg l.toArray) l:=⟨rfl⟩
instance {k:IntKind} {n:Int}:CellsOf (.int k n) [.int k n]:=⟨rfl⟩
instance {b:Bool}:CellsOf (.bool b) [.bool b]:=⟨rfl⟩
instance {s:ByteArray}:CellsOf (.string s) [.string s]:=⟨rfl⟩
instance {a:Option Addr}:CellsOf (.pointer a) [.pointer a]:=⟨rfl⟩
instance {a:Option Addr} {n c:Nat}:CellsOf (.slice a n c) [.slice a n c]:=⟨rfl⟩
instance {r:Option Nat}:CellsOf (.map r) [.map r]:=⟨rfl⟩
instance {fn:Go.Fn} {a c:Array Value}:CellsOf (.func fn a c) [.func fn a c]:=⟨rfl⟩
def isOne:Value->Bool
 | .agg _=>false
 | .tuple _=>false
 | _=>true
class Ones (vs:List Value):Prop where
 h:∀ v ∈ vs,isOne v = true
instance:Ones []:=⟨fun _ h=>by cases h⟩
class One (v:Value):Prop where
 h:isOne v = true
instance {k:IntKind} {n:Int}:One (.int k n):=⟨rfl⟩
instance {b:Bool}:One (.bool b):=⟨rfl⟩
instance {s:ByteArray}:One (.string s):=⟨rfl⟩
instance {a:Option Addr}:One (.pointer a):=⟨rfl⟩
instance {a:Option Addr} {n c:Nat}:One (.slice a n c):=⟨rfl⟩
instance {r:Option Nat}:One (.map r):=⟨rfl⟩
instance {fn:Go.Fn} {a c:Array Value}:One (.func fn a c):=⟨rfl⟩
instance {v:Value} {vs:List Value} [a:One v] [b:Ones vs]:Ones (v :: vs):=⟨fun u hu=>by
 rcases List.mem_cons.1 hu with rfl | hu
 ·exact a.h
 ·exact b.h u hu⟩
class Blk (L:Bl) (b:Nat) (o:outParam Obj) (C:outParam (Obj->Bl)):Prop where
 h:L.Perm ((b,o) :: (C o).tail) \/ True
 perm:∃ R:Bl,L.Perm ((b,o) :: R)/\∀ o',(C o').Perm ((b,o') :: R)
instance Blk.head {b:Nat} {o:Obj} {L:Bl}:Blk ((b,o) :: L) b o (fun o'=>(b,o') :: L):=⟨.inr trivial,L,.refl _,fun _=>.refl _⟩
instance (priority:=900) Blk.tail {b:Nat} {o:Obj} {L:Bl} {C:Obj->Bl} {p:Nat × Obj} [g:Blk L b o C]:Blk (p :: L) b o (fun o'=>p :: C o'):=⟨.inr trivial,by
 obtain ⟨R,h1,h2⟩:=g.perm;exact ⟨p :: R,(h1.cons p).trans (.swap _ _ _),fun o'=>((h2 o').cons p).trans (.swap _ _ _)⟩⟩
instance (priority:=800) Blk.app {b:Nat} {o:Obj} {A L:Bl} {C:Obj->Bl} [g:Blk L b o C]:Blk (A ++ L) b o (fun o'=>A ++ C o'):=⟨.inr trivial,by
 obtain ⟨R,h1,h2⟩:=g.perm;exact ⟨A ++ R,(h1.append_left A).trans List.perm_middle,fun o'=>((h2 o').append_left A).trans List.perm_middle⟩⟩
section
variable {w0 w w':World} {z0 z z':Z} {B0 B B' L F:Bl} {b:Nat} {o:Obj} {C:Obj->Bl} {K:Value->World->Prop}
theorem Res.at_ (h:Res w0 z0 B0 w z L) [g:Blk L b o C]:w.heap[b]? = some o:=by
 obtain ⟨R,h1,_⟩:=g.perm;exact (h.mem (b,o) (h1.mem_iff.2 List.mem_cons_self)).1
theorem Res.set (h:Res w0 z0 B0 w z L) [g:Blk L b o C] (o':Obj) {wn:World} (hw:wn = { w with heap:=w.heap.setIfInBounds b o' }):Res w0 z0 B0 wn z (C o'):=by
 obtain ⟨R,h1,h2⟩:=g.perm;exact (Res.put (h.perm h1) o' hw).perm (h2 o').symm
theorem Res.ge (h:Res w0 z0 B0 w z L) [g:Blk L b o C]:w0.heap.size <= b \/ b ∈ ids B0:=by
 obtain ⟨R,h1,_⟩:=g.perm;exact (h.mem (b,o) (h1.mem_iff.2 List.mem_cons_self)).2.2
def At (h:Nat->Option Obj) (b off:Nat) (vs:List Value):Prop:=∃ c ty fr,h b = some (.cells c ty fr)/\∀ j v,vs[j]? = some v->c[off + j]? = some v
abbrev hp (w:World):Nat->Option Obj:=fun b=>w.heap[b]?
theorem At.mono {z z':Z} {off:Nat} {vs:List Value} (h:At z b off vs) (hz:Le z z'):At z' b off vs:=let ⟨c,ty,fr,h1,h2⟩:=h; ⟨c,ty,fr,hz _ _ h1,h2⟩
theorem At.world {off:Nat} {vs:List Value} (h:At z b off vs) (hs:Sub z w):At (hp w) b off vs:=let ⟨c,ty,fr,h1,h2⟩:=h; ⟨c,ty,fr,hs _ _ h1,h2⟩
theorem At.cell {off:Nat} {vs:List Value} (h:At (hp w) b off vs) {j:Nat} {v:Value} (hv:vs[j]? = some v):w.cell? ⟨b,off + j,none⟩ = some v:=by
 obtain ⟨c,ty,fr,h1,h2⟩:=h;unfold World.cell?;simp only [show w.heap[b]? = _ from h1,Option.isSome_none];exact h2 j v hv
theorem Res.atN (h:Res w0 z0 B0 w z L) {l:List Value} {ty:TypeId} {fr:Nat × Nat} [g:Blk L b (.cells l.toArray ty fr) C] {off n:Nat} {vs:List Value} [gn:GetN l off n vs]:At (hp w) b off vs:=
 ⟨_,_,_,h.at_ (C:=C),fun j v hv=>by simpa using gn.h j v hv⟩
theorem Res.at1 (h:Res w0 z0 B0 w z L) {l:List Value} {ty:TypeId} {fr:Nat × Nat} [g:Blk L b (.cells l.toArray ty fr) C] {off:Nat} {v:Value} [gn:Get l off v]:At (hp w) b off [v]:=
 ⟨_,_,_,h.at_ (C:=C),fun j u hu=>by
  cases j with
  | zero=>simp at hu; subst hu; simpa using gn.h
  | succ j=>simp at hu⟩
theorem add_addr (b off i:Nat):(⟨b,off,none⟩:Addr).add i = ⟨b,off + i,none⟩:=by
 unfold Addr.add
 split
 ·rename_i h; subst h; rfl
 ·rfl
end
class TyOne (t:TypeId):Prop where
 agg:∀ w,(isAgg t).run Tryz.prog w = .ok false w
class TyAgg (t:TypeId) (n:outParam Nat):Prop where
 agg:∀ w,(isAgg t).run Tryz.prog w = .ok true w
class TySize (t:TypeId) (n:outParam Nat):Prop where
 size:∀ w,(sizeOf t).run Tryz.prog w = .ok n w
class TyZero (t:TypeId) (zs:outParam (List Value)):Prop where
 h:∃ v,v.cells = zs.toArray/\∀ w,(zeroValue t).run Tryz.prog w = .ok v w
class TySlice (t:TypeId) (e n:outParam Nat):Prop where
 und:∀ w,(underlying t).run Tryz.prog w = .ok (.slice e) w
 size:∀ w,(sizeOf e).run Tryz.prog w = .ok n w
class TyInt (t:TypeId) (k:outParam IntKind):Prop where
 und:∀ w,(underlying t).run Tryz.prog w = .ok (.int k) w
class TyStr (t:TypeId):Prop where
 und:∀ w,(underlying t).run Tryz.prog w = .ok .string w
class TyBool (t:TypeId):Prop where
 und:∀ w,(underlying t).run Tryz.prog w = .ok .bool w
class Fld (s i:Nat) (off:outParam Nat):Prop where
 h:∀ a w,(Instr.fieldAt s (.pointer (some a)) i).run Tryz.prog w = .ok (.pointer (some (a.add off))) w
class TyStruct (t:TypeId) (zs:outParam (List Value)) (places:outParam (List (Nat × Nat))):Prop where
 h:∀ (parts:Array (Nat × Value)) w,(Instr.build t parts).run Tryz.prog w = Sem.run Tryz.prog (match Instr.fill (places.toArray[·]?) zs.toArray parts.toList with | some cells=>pure (.agg cells) | _=>stuck "build: no such field, or a part of the wrong size") w
class Run (s:Sem Value) (v:outParam Value):Prop where
 h:∀ w,s.run Tryz.prog w = .ok v w
section
variable {w0 w w':World} {z0 z z':Z} {B0 B B' L F:Bl} {b:Nat} {o:Obj} {C:Obj->Bl} {K:Value->World->Prop}
theorem V_run {s:Sem Value} {v:Value} [g:Run s v] (h:K v w):V s w K:=⟨v,w,g.h w,h⟩
theorem PV_run {s:Sem Value} {v:Value} {K:Value->Prop} [g:Run s v] (h:K v):PV s K:=⟨v,g.h,h⟩
theorem loadCells_run {off n:Nat} {vs:List Value} (h:At (hp w) b off vs) (hl:vs.length = n):(loadCells ⟨b,off,none⟩ n).run Tryz.prog w = .ok vs.toArray w:=by
 have key:∀ (m i:Nat) (acc:Array Value),i + m = vs.length->(loadCellsFrom ⟨b,off,none⟩ i m acc).run Tryz.prog w = .ok (acc ++ (vs.drop i).toArray) w:=by
  intro m
  induction m with
  | zero=>intro i acc hi; simp only [loadCellsFrom]; rw [List.drop_of_length_le (by omega)]; simp [Sem.run]
  | succ m ih=>
   intro i acc hi;have hlt:i < vs.length:=by omega
   simp only [loadCellsFrom,Sem.run_bind,load,add_addr,Sem.run,h.cell (List.getElem?_eq_getElem hlt),Result.andThen_ok];rw [ih (i + 1) _ (by omega),List.drop_eq_getElem_cons hlt];simp
 unfold loadCells;rw [key n 0 #[] (by omega)];simp
theorem V_ld1 {t:TypeId} [g:TyOne t] {off:Nat} {v:Value} (h:At (hp w) b off [v]) (hk:K v w):V (ld t (.pointer (some ⟨b,off,none⟩))) w K:=by
 refine ⟨v,w,?_,hk⟩;have:=h.cell (j:=0) (v:=v) rfl;simp only [ld,Instr.loadAt,Instr.sureAddr,pure_bind,loadVar,Sem.run_bind,g.agg,Result.andThen_ok,Bool.false_eq_true,if_false,load,Sem.run];simp only [Nat.add_zero] at this;rw [this]
theorem V_ldN {t n:Nat} [g:TyAgg t n] [gs:TySize t n] {off:Nat} {vs:List Value} (h:At (hp w) b off vs) (hl:vs.length = n) (hk:K (.agg vs.toArray) w):V (ld t (.pointer (some ⟨b,off,none⟩))) w K:=by
 refine ⟨_,w,?_,hk⟩;simp only [ld,Instr.loadAt,Instr.sureAddr,pure_bind,loadVar,Sem.run_bind,g.agg,Result.andThen_ok,if_true,gs.size,loadCells_run h hl]
 rfl
theorem V_ldL1 (hS:Res w0 z0 B0 w z L) {t:TypeId} [g:TyOne t] {off:Nat} {v:Value} {l:List Value} {ty:TypeId} {fr:Nat × Nat} [Blk L b (.cells l.toArray ty fr) C] [Get l off v] (hk:K v w):V (ld t (.pointer (some ⟨b,off,none⟩))) w K:=
 V_ld1 hS.at1 hk
theorem V_ldLN (hS:Res w0 z0 B0 w z L) {t n:Nat} [g:TyAgg t n] [gs:TySize t n] {off:Nat} {vs:List Value} {l:List Value} {ty:TypeId} {fr:Nat × Nat} [Blk L b (.cells l.toArray ty fr) C] [gn:GetN l off n vs] (hk:K (.agg vs.toArray) w):V (ld t (.pointer (some ⟨b,off,none⟩))) w K:=
 V_ldN (Res.atN (gn:=gn) hS) gn.len hk
theorem V_al (hS:Res w0 z0 B0 w z L) {t:TypeId} {zs:List Value} [g:TyZero t zs] (hk:∀ b w',w0.heap.size <= b->Res w0 z0 B0 w' z ((b,.cells zs.toArray t (0,0)) :: L)->K (.pointer (some ⟨b,0,none⟩)) w'):V (al t) w K:=by
 obtain ⟨v,h1,h2⟩:=g.h;refine ⟨_,_,?_,hk w.heap.size _ hS.size (hS.new (.cells zs.toArray t (0,0)))⟩;simp only [al,Instr.alloc,Sem.run_bind,h2,Result.andThen_ok,newVar,newRow,newObj,Sem.run,h1]
 rfl
theorem V_bx (hS:Res w0 z0 B0 w z L) {t:TypeId} {v:Value} {vs:List Value} [g:CellsOf v vs] (hk:∀ b w',w0.heap.size <= b->Res w0 z0 B0 w' z ((b,.cells vs.toArray t (0,0)) :: L)->K (.pointer (some ⟨b,0,none⟩)) w'):V (bx t v) w K:=by
 refine ⟨_,_,?_,hk w.heap.size _ hS.size (hS.new (.cells vs.toArray t (0,0)))⟩;simp only [bx,Instr.box,Sem.run_bind,newVar,newRow,newObj,Sem.run,Result.andThen_ok,g.h]
 rfl
def setL:List Value->Nat->List Value->List Value
 | l,_,[]=>l
 | l,i,v :: vs=>setL (l.set i v) (i + 1) vs
theorem setL_get:∀ (vs l:List Value) (i k:Nat),i + vs.length <= l.length->(setL l i vs)[k]? = if i <= k/\k < i + vs.length then vs[k - i]? else l[k]?
 | [],l,i,k,_=>by simp only [setL,List.length_nil,Nat.add_zero]; rw [if_neg (by omega)]
 | v :: vs,l,i,k,hb=>by
  simp only [List.length_cons] at hb;simp only [setL,List.length_cons];rw [setL_get vs (l.set i v) (i + 1) k (by simp; omega)]
  by_cases h1:i + 1 <= k/\k < i + 1 + vs.length
  ·rw [if_pos h1,if_pos (by omega),show k - i = (k - (i + 1)) + 1 by omega,List.getElem?_cons_succ]
  ·rw [if_neg h1]
   by_cases h2:k = i
   ·subst h2; rw [if_pos (by omega),Nat.sub_self,List.getElem?_set_self (by omega)]; rfl
   ·rw [if_neg (by omega),List.getElem?_set_ne (fun e=>h2 e.symm)]
theorem SetN.eq {l vs l':List Value} {i:Nat} (g:SetN l i vs l'):setL l i vs = l':=by
 refine List.ext_getElem? fun k=>?_
 rw [setL_get vs l i k g.bound]
 split
 ·rename_i h
  have hlt:k - i < vs.length:=by omega
  rw [List.getElem?_eq_getElem hlt];have:=g.inn (k - i) _ (List.getElem?_eq_getElem hlt);rw [show i + (k - i) = k by omega] at this;exact this.symm
 ·rename_i h; exact (g.out k (by omega)).symm
theorem heap_set_self {w:World} {b:Nat} {o:Obj} (h:w.heap[b]? = some o):w.heap.setIfInBounds b o = w.heap:=by
 apply Array.ext_getElem?
 intro i;rw [Array.getElem?_setIfInBounds]
 split
 ·rename_i hb; subst hb; rw [if_pos (lt_of_get h),h]
 ·rfl
theorem storeCells_run {ty:TypeId}:∀ (vs l:List Value) (w:World) (off i:Nat),w.heap[b]? = some (.cells l.toArray ty (0,0))->off + i + vs.length <= l.length->(∀ v ∈ vs,isOne v = true) ->
  (storeCells ⟨b,off,none⟩ vs i).run Tryz.prog w = .ok () { w with heap:=w.heap.setIfInBounds b (.cells (setL l (off + i) vs).toArray ty (0,0)) }
 | [],l,w,off,i,h,_,_=>by
  simp only [storeCells,setL,heap_set_self h]
  rfl
 | v :: vs,l,w,off,i,h,hb,ho=>by
  simp only [List.length_cons] at hb;have hv:=ho v List.mem_cons_self;have hcell:w.cell? ⟨b,off + i,none⟩ = some (l[off + i]'(by omega)):=by
   unfold World.cell?;simp only [h,Option.isSome_none];simp [List.getElem?_eq_getElem (show off + i < l.length by omega)]
  have hfr:w.frozen? ⟨b,off + i,none⟩ = false:=by
   unfold World.frozen?;simp [h]
  have hset:w.setCell ⟨b,off + i,none⟩ v = { w with heap:=w.heap.setIfInBounds b (.cells (l.set (off + i) v).toArray ty (0,0)) }:=by
   unfold World.setCell
   congr 1
   apply Array.ext_getElem?
   intro j;rw [Array.getElem?_modify,Array.getElem?_setIfInBounds]
   by_cases hj:b = j
   ·subst hj
    have hb':=(Array.getElem?_eq_some_iff.1 h).2;simp [lt_of_get h,hb']
   ·simp [hj]
  have hrun:(store ⟨b,off + i,none⟩ v).run Tryz.prog w = .ok () { w with heap:=w.heap.setIfInBounds b (.cells (l.set (off + i) v).toArray ty (0,0)) }:=by
   rw [<- hset];unfold store
   cases v <;> simp only [isOne] at hv <;> first | (cases hv; done) | (unfold Sem.run; simp [hcell,hfr,Sem.run])
  simp only [storeCells,add_addr,Sem.run_bind,hrun,Result.andThen_ok];rw [storeCells_run (ty:=ty) vs (l.set (off + i) v) _ off (i + 1) (by simp [lt_of_get h]) (by simp; omega) (fun u hu=>ho u (List.mem_cons_of_mem _ hu))];simp only [Array.setIfInBounds_setIfInBounds,setL,Nat.add_assoc]
theorem U_st {K:World->Prop} (hS:Res w0 z0 B0 w z L) {t n off:Nat} {v:Value} {vs l l':List Value} {ty:TypeId} [g:Blk L b (.cells l.toArray ty (0,0)) C] [gs:TySize t n] [gc:CellsOf v vs] [go:Ones vs] (hn:vs.length = n) [gl:SetN l off vs l']
  (hk:∀ w',Res w0 z0 B0 w' z (C (.cells l'.toArray ty (0,0)))->K w'):U (st t (.pointer (some ⟨b,off,none⟩)) v) w K:=by
 refine ⟨_,?_,hk _ (Res.set (g:=g) hS (.cells l'.toArray ty (0,0)) rfl)⟩;have hsz:v.cells.size = n:=by rw [gc.h]; simpa using hn
 simp only [st,Instr.storeAt,Instr.sureAddr,pure_bind,storeVar,Sem.run_bind,gs.size,Result.andThen_ok,hsz,ne_eq,not_true_eq_false,if_false];rw [gc.h,storeCells_run vs l w off 0 (Res.at_ (g:=g) hS) (by have:=gl.bound; omega) go.h];rw [Nat.add_zero,gl.eq]
theorem CW_N {t n:Nat} [g:TyAgg t n] [gs:TySize t n] {off:Nat} {vs:List Value} {K:Value->Prop} (h:At (hp w) b off vs) (hl:vs.length = n) (hk:K (.agg vs.toArray)):CW t (.pointer (some ⟨b,off,none⟩)) w K:=by
 refine ⟨_,?_,hk⟩;simp only [loadVar,Sem.run_bind,g.agg,Result.andThen_ok,if_true,gs.size,loadCells_run h hl]
 rfl
end
end
section
open Go Q Go.RowKit
class TyArr (t:TypeId) (n e s:outParam Nat):Prop where
 und:∀ w,(underlying t).run Tryz.prog w = .ok (.array n e) w
 size:∀ w,(sizeOf e).run Tryz.prog w = .ok s w
class TyMap (t:TypeId) (k e:outParam Nat):Prop where
 und:∀ w,(underlying t).run Tryz.prog w = .ok (.map k e) w
class TyApp (t:TypeId) (e size bytes:outParam Nat):Prop where
 und:Tryz.prog.underlying t = some (.slice e)
 info:∃ z:Value,(Tryz.prog.info? e).map (fun i=>(i.zero,i.size,i.bytes)) = some (some z,size,bytes)/\z.cells.size = size
 pos:0 < size
theorem GetN.eq {l vs:List Value} {i n:Nat} (g:GetN l i n vs):(l.toArray.extract i (i + n)) = vs.toArray:=by
 apply Array.toList_inj.1
 simp only [Array.toList_extract,List.extract_eq_take_drop];refine List.ext_getElem? fun j=>?_
 simp only [Nat.add_sub_cancel_left];rw [List.getElem?_take]
 split
 ·rename_i hj
  have hlt:j < vs.length:=by rw [g.len]; exact hj
  rw [List.getElem?_drop,List.getElem?_eq_getElem hlt];exact g.h j _ (List.getElem?_eq_getElem hlt)
 ·rename_i hj
  rw [List.getElem?_eq_none (by rw [g.len]; omega)]
theorem toList_eq (s:ByteArray):s.toList = s.data.toList:=by
 have key:∀ (k i:Nat) (r:List UInt8),s.size - i = k->ByteArray.toList.loop s i r = r.reverse ++ s.data.toList.drop i:=by
  intro k
  induction k with
  | zero=>
   intro i r hk;unfold ByteArray.toList.loop;have:¬ i < s.size:=by omega
   rw [if_neg this,List.drop_of_length_le (by simp [<- ByteArray.size_data] at *; omega)];simp
  | succ k ih=>
   intro i r hk;unfold ByteArray.toList.loop;have hlt:i < s.size:=by omega
   rw [if_pos hlt,ih (i + 1) _ (by omega)];have hl:i < s.data.toList.length:=by simpa using hlt
   rw [List.drop_eq_getElem_cons hl];simp only [List.reverse_cons,List.append_assoc,List.cons_append,List.nil_append]
   congr 2
   have:s.get! i = s.data[i]'(by simpa using hl):=by
    show s.data[i]! = _
    rw [getElem!_pos s.data i (by simpa using hl)]
   rw [this]; simp
 unfold ByteArray.toList;rw [key s.size 0 [] rfl];simp
theorem str_eq (a b:ByteArray):(a.toList == b.toList) = decide (a = b):=by
 rw [toList_eq,toList_eq]
 by_cases h:a = b
 ·subst h; simp
 ·rw [decide_eq_false h,beq_eq_false_iff_ne]
  intro hh
  apply h
  cases a; cases b
  simp only at hh;rw [Array.toList_inj.1 hh]
theorem equalIn_bool (d:Nat) {t:Nat} {a b:Bool} [g:TyBool t] (w:World):(Op.equalIn (d + 1) t (.bool a) (.bool b)).run Tryz.prog w = .ok (a == b) w:=by
 simp only [Op.equalIn,Sem.run_bind,g.und,Result.andThen_ok]
 rfl
class AddN (a b:Nat) (c:outParam Nat):Prop where
 h:a + b = c
instance (priority:=500) {a b:Nat}:AddN a b (a + b):=⟨rfl⟩
instance (priority:=600) {a:Nat}:AddN 0 a a:=⟨Nat.zero_add a⟩
instance (priority:=700) {a:Nat}:AddN a 0 a:=⟨rfl⟩
instance {s i off b o c:Nat} [g:Fld s i off] [ga:AddN o off c]:Run (fa s (.pointer (some ⟨b,o,none⟩)) i) (.pointer (some ⟨b,c,none⟩)):=⟨fun w=>by rw [<- ga.h,<- add_addr]; exact g.h _ w⟩
instance {t e n ty len cap:Nat} {a:Option Addr} [g:TySlice t e n]:Run (Builtin.len_ #[t] ty #[.slice a len cap]) (.int .i64 len):=⟨fun w=>by
 simp [Builtin.len_,Sem.run_bind,g.und,goInt]⟩
instance {t ty:Nat} {s:ByteArray} [g:TyStr t]:Run (Builtin.len_ #[t] ty #[.string s]) (.int .i64 s.size):=⟨fun w=>by
 simp [Builtin.len_,Sem.run_bind,g.und,goInt]⟩
instance {b:Bool}:Run (un .not (.bool b)) (.bool (!b)):=⟨fun _=>rfl⟩
instance {k:IntKind} {n:Int}:Run (un .neg (.int k n)) (.int k (k.wrap (0 - n))):=⟨fun _=>rfl⟩
instance {t:Nat} {k:IntKind} {a b:Int}:Run (bi .lss t (.int k a) (.int k b)) (.bool (decide (a < b))):=⟨fun _=>by simp [bi,binOp,Op.intCmp]⟩
instance {t:Nat} {k:IntKind} {a b:Int}:Run (bi .leq t (.int k a) (.int k b)) (.bool (decide (a <= b))):=⟨fun _=>by simp [bi,binOp,Op.intCmp]⟩
instance {t:Nat} {k:IntKind} {a b:Int}:Run (bi .gtr t (.int k a) (.int k b)) (.bool (decide (a > b))):=⟨fun _=>by simp [bi,binOp,Op.intCmp]⟩
instance {t:Nat} {k:IntKind} {a b:Int}:Run (bi .geq t (.int k a) (.int k b)) (.bool (decide (a ≥ b))):=⟨fun _=>by simp [bi,binOp,Op.intCmp]⟩
instance {t:Nat} {k:IntKind} {a b:Int} {x y:Operand}:Run (eq .eql t x y (.int k a) (.int k b)) (.bool (decide (a = b))):=⟨fun _=>by
 simp [eq,eqGuard,binOp,Op.intCmp]; exact Bool.beq_eq_decide_eq a b⟩
instance {t:Nat} {k:IntKind} {a b:Int} {x y:Operand}:Run (eq .neq t x y (.int k a) (.int k b)) (.bool (!decide (a = b))):=⟨fun _=>by
 simp [eq,eqGuard,binOp,Op.intCmp,bne]; exact Bool.beq_eq_decide_eq a b⟩
instance {t:Nat} {a b:ByteArray} {x y:Operand}:Run (eq .eql t x y (.string a) (.string b)) (.bool (decide (a = b))):=⟨fun _=>by
 simp [eq,eqGuard,binOp,Op.stringOp,str_eq]⟩
instance {t:Nat} {a b:ByteArray} {x y:Operand}:Run (eq .neq t x y (.string a) (.string b)) (.bool (!decide (a = b))):=⟨fun _=>by
 simp [eq,eqGuard,binOp,Op.stringOp,str_eq]⟩
instance {l:List Value} {i:Nat} {v:Value} [g:Get l i v]:Run (ex (.tuple l.toArray) i) v:=⟨fun w=>by simp [ex,Instr.extract,g.h]⟩
instance {a b:Nat} {k kk k':IntKind} {n:Int} [g:TyInt a k] [g':TyInt b k']:Run (cv a b (.int kk n)) (.int k' (k'.wrap n)):=⟨fun w=>by
 simp [cv,convert,Sem.run_bind,g.und,g'.und,Conv.intToInt]⟩
class LenIs (l:List Value) (n:Nat):Prop where
 h:l.length = n
instance:LenIs [] 0:=⟨rfl⟩
instance {v:Value} {l:List Value} {n:Nat} [g:LenIs l n]:LenIs (v :: l) (n + 1):=⟨by simp [g.h]⟩
class FillB (places:List (Nat × Nat)) (cells:List Value) (parts:List (Nat × Value)) (out:outParam (List Value)):Prop where
 h:Instr.fill (places[·]?) cells.toArray parts = some out.toArray
class GetP (l:List (Nat × Nat)) (i:Nat) (a b:outParam Nat):Prop where
 h:l[i]? = some (a,b)
instance {a b:Nat} {l:List (Nat × Nat)}:GetP ((a,b) :: l) 0 a b:=⟨rfl⟩
instance (priority:=900) {p:Nat × Nat} {a b i:Nat} {l:List (Nat × Nat)} [g:GetP l i a b]:GetP (p :: l) (i + 1) a b:=⟨by simpa using g.h⟩
instance {places:List (Nat × Nat)} {cells:List Value}:FillB places cells [] cells:=⟨rfl⟩
theorem fold_set:∀ (vs l:List Value) (off i:Nat),((vs.zipIdx i).foldl (fun (cs:Array Value) (p:Value × Nat)=>cs.setIfInBounds (off + p.2) p.1) l.toArray) = (setL l (off + i) vs).toArray
 | [],l,off,i=>rfl
 | v :: vs,l,off,i=>by
  simp only [List.zipIdx_cons,List.foldl_cons,setL];rw [show (l.toArray.setIfInBounds (off + i) v) = (l.set (off + i) v).toArray by simp];rw [fold_set vs (l.set (off + i) v) off (i + 1)]
  rfl
instance {places:List (Nat × Nat)} {cells cells' out vs:List Value} {i off n:Nat} {v:Value} {parts:List (Nat × Value)} [gp:GetP places i off n] [gc:CellsOf v vs] [gs:SetN cells off vs cells'] [gn:LenIs vs n] [gf:FillB places cells' parts out] :
  FillB places cells ((i,v) :: parts) out:=⟨by
 have hn:=gn.h;unfold Instr.fill;simp only [gp.h,gc.h,List.size_toArray,hn];have hb:=gs.bound;rw [hn] at hb;have hb':¬ (off + n > cells.length):=by omega
 simp only [ne_eq,not_true_eq_false,decide_false,Bool.false_or,decide_eq_true_eq,hb',if_false];have:(vs.toArray.zipIdx.foldl (fun cs (x:Value × Nat)=>cs.setIfInBounds (off + x.2) x.1) cells.toArray) = cells'.toArray:=by
  rw [<- Array.foldl_toList,Array.toList_zipIdx,fold_set,Nat.add_zero,gs.eq]
 rw [this];exact gf.h⟩
instance {t:Nat} {zs out:List Value} {places:List (Nat × Nat)} {parts:List (Nat × Value)} [g:TyStruct t zs places] [gf:FillB places zs parts out]:Run (bd t parts.toArray) (.agg out.toArray):=⟨fun w=>by
 rw [show bd t parts.toArray = Instr.build t parts.toArray from rfl,g.h];have:(fun x:Nat=>(places.toArray)[x]?) = (fun x:Nat=>places[x]?):=by funext x; simp
 rw [this,gf.h]
 rfl⟩
section tests
variable {A B:Prop} {b:Bool} {p:Prop} [Decidable p]
theorem Cond_t (h:A):CondW (.bool true) A B:=⟨true,rfl,fun _=>h,fun hh=>(by cases hh)⟩
theorem Cond_f (h:B):CondW (.bool false) A B:=⟨false,rfl,fun hh=>(by cases hh),fun _=>h⟩
theorem Cond_b (h1:b = true->A) (h2:b = false->B):CondW (.bool b) A B:=⟨b,rfl,h1,h2⟩
theorem Cond_d (h1:p->A) (h2:¬ p->B):CondW (.bool (decide p)) A B:=⟨_,rfl,fun h=>h1 (of_decide_eq_true h),fun h=>h2 (of_decide_eq_false h)⟩
theorem Cond_nd (h1:¬ p->A) (h2:p->B):CondW (.bool (!decide p)) A B:=⟨_,rfl,fun h=>h1 (by simpa using h),fun h=>h2 (by simpa using h)⟩
theorem Cond_n (h1:b = false->A) (h2:b = true->B):CondW (.bool (!b)) A B:=⟨_,rfl,fun h=>h1 (by simpa using h),fun h=>h2 (by simpa using h)⟩
theorem Cond_is (h:b = true) (h1:A):CondW (.bool b) A B:=⟨b,rfl,fun _=>h1,fun hh=>(by rw [h] at hh; cases hh)⟩
theorem Cond_not (h:b = false) (h1:B):CondW (.bool b) A B:=⟨b,rfl,fun hh=>by (rw [h] at hh; cases hh),fun _=>h1⟩
end tests
section
variable {w0 w w':World} {z0 z z':Z} {B0 B B' L F:Bl} {b:Nat} {o:Obj} {C:Obj->Bl} {K:Value->World->Prop}
theorem Dr_intro {K:World->Prop} (hS:Res w0 z0 B0 w z L) (hk:∀ w',Res w0 z0 B0 w' z L->K w'):Dr w K:=hk _ hS.drew
theorem run_ld1 {t:TypeId} [g:TyOne t] {off:Nat} {v:Value} (h:At (hp w) b off [v]):(ld t (.pointer (some ⟨b,off,none⟩))).run Tryz.prog w = .ok v w:=by
 obtain ⟨v',w',h1,h2,h3⟩:=V_ld1 (t:=t) (K:=fun v' w'=>v' = v/\w' = w) h ⟨rfl,rfl⟩;rw [h1,h2,h3]
theorem run_ldN {t n:Nat} [g:TyAgg t n] [gs:TySize t n] {off:Nat} {vs:List Value} (h:At (hp w) b off vs) (hl:vs.length = n):(ld t (.pointer (some ⟨b,off,none⟩))).run Tryz.prog w = .ok (.agg vs.toArray) w:=by
 obtain ⟨v',w',h1,h2,h3⟩:=V_ldN (t:=t) (K:=fun v' w'=>v' = .agg vs.toArray/\w' = w) h hl ⟨rfl,rfl⟩;rw [h1,h2,h3]
theorem HV_of {s:Sem Value} {v:Value} {K:Value->Prop} (h:s.run Tryz.prog w = .ok v w) (hk:K v):HV s w K:=⟨v,h,hk⟩
theorem HV_run {s:Sem Value} {v:Value} {K:Value->Prop} [g:Run s v] (h:K v):HV s w K:=⟨v,g.h w,h⟩
theorem HV_ldL1 (hS:Res w0 z0 B0 w z L) {K:Value->Prop} {t:TypeId} [g:TyOne t] {off:Nat} {v:Value} {l:List Value} {ty:TypeId} {fr:Nat × Nat} [Blk L b (.cells l.toArray ty fr) C] [Get l off v] (hk:K v):HV (ld t (.pointer (some ⟨b,off,none⟩))) w K:=
 HV_of (run_ld1 hS.at1) hk
theorem HV_ldLN (hS:Res w0 z0 B0 w z L) {K:Value->Prop} {t n:Nat} [g:TyAgg t n] [gs:TySize t n] {off:Nat} {vs:List Value} {l:List Value} {ty:TypeId} {fr:Nat × Nat} [Blk L b (.cells l.toArray ty fr) C] [gn:GetN l off n vs] (hk:K (.agg vs.toArray)):HV (ld t (.pointer (some ⟨b,off,none⟩))) w K:=
 HV_of (run_ldN (Res.atN (gn:=gn) hS) gn.len) hk
theorem RunIs_ldL1 (hS:Res w0 z0 B0 w z L) {t:TypeId} [g:TyOne t] {off:Nat} {v:Value} {l:List Value} {ty:TypeId} {fr:Nat × Nat} [Blk L b (.cells l.toArray ty fr) C] [Get l off v]:RunIs (ld t (.pointer (some ⟨b,off,none⟩))) w v:=
 run_ld1 hS.at1
theorem RunIs_ldLN (hS:Res w0 z0 B0 w z L) {t n:Nat} [g:TyAgg t n] [gs:TySize t n] {off:Nat} {vs:List Value} {l:List Value} {ty:TypeId} {fr:Nat × Nat} [Blk L b (.cells l.toArray ty fr) C] [gn:GetN l off n vs]:RunIs (ld t (.pointer (some ⟨b,off,none⟩))) w (.agg vs.toArray):=
 run_ldN (Res.atN (gn:=gn) hS) gn.len
theorem NilW_some {a:Addr} {K:Value->Prop} (h:K (.pointer (some a))):NilW (.pointer (some a)) K:=h
def inI (n:Int):Prop:=-9223372036854775808 <= n/\n <= 9223372036854775807
theorem wrap_in {n:Int} (h:inI n):IntKind.i64.wrap n = n:=IntWalk.i64_in n h
end
end
section
open Go Q Go.RowKit
class JK0 (K:List Value->World->Prop) (rest:outParam (World->Prop)):Prop where
 h:∀ w,rest w->K [] w
class JK1 (K:List Value->World->Prop) (rest:outParam (Value->World->Prop)):Prop where
 h:∀ a w,rest a w->K [a] w
class JK2 (K:List Value->World->Prop) (rest:outParam (Value->Value->World->Prop)):Prop where
 h:∀ a b w,rest a b w->K [a,b] w
section
variable {body:(List Value->World->Prop)->Prop} {K:List Value->World->Prop} {a b c d:Value} {w:World}
theorem J0 {rest:World->Prop} (h:∀ K,JK0 K rest->body K):∀ K:List Value->World->Prop,(∀ w,(∀ _:Env,rest w)->K [] w)->body K:=fun K hK=>h K ⟨fun w r=>hK w fun _=>r⟩
theorem J1 {rest:Value->World->Prop} (h:∀ K,JK1 K rest->body K):∀ K:List Value->World->Prop,(∀ a w,(∀ _:Env,rest a w)->K [a] w)->body K:=fun K hK=>h K ⟨fun a w r=>hK a w fun _=>r⟩
theorem K0 {rest:World->Prop} [g:JK0 K rest] (h:rest w):K [] w:=g.h w h
theorem K1 {rest:Value->World->Prop} [g:JK1 K rest] (h:rest a w):K [a] w:=g.h a w h
theorem K2 {rest:Value->Value->World->Prop} [g:JK2 K rest] (h:rest a b w):K [a,b] w:=g.h a b w h
end
section
variable {w0 w w':World} {z0 z z':Z} {B0 B B' L F:Bl} {b:Nat} {o:Obj} {C:Obj->Bl} {K:Value->World->Prop}
theorem iV_ld1 [hS:Res w0 z0 B0 w z L] {t:TypeId} [g:TyOne t] {off:Nat} {v:Value} {l:List Value} {ty:TypeId} {fr:Nat × Nat} [Blk L b (.cells l.toArray ty fr) C] [Get l off v] (hk:K v w):V (ld t (.pointer (some ⟨b,off,none⟩))) w K:=V_ldL1 hS hk
theorem iV_ldN [hS:Res w0 z0 B0 w z L] {t n:Nat} [g:TyAgg t n] [gs:TySize t n] {off:Nat} {vs:List Value} {l:List Value} {ty:TypeId} {fr:Nat × Nat} [Blk L b (.cells l.toArray ty fr) C] [gn:GetN l off n vs] (hk:K (.agg vs.toArray) w):V (ld t (.pointer (some ⟨b,off,none⟩))) w K:=V_ldLN hS hk
theorem iV_al [hS:Res w0 z0 B0 w z L] {t:TypeId} {zs:List Value} [g:TyZero t zs] (hk:∀ b w',w0.heap.size <= b->Res w0 z0 B0 w' z ((b,.cells zs.toArray t (0,0)) :: L)->K (.pointer (some ⟨b,0,none⟩)) w'):V (al t) w K:=V_al hS hk
theorem iV_bx [hS:Res w0 z0 B0 w z L] {t:TypeId} {v:Value} {vs:List Value} [g:CellsOf v vs] (hk:∀ b w',w0.heap.size <= b->Res w0 z0 B0 w' z ((b,.cells vs.toArray t (0,0)) :: L)->K (.pointer (some ⟨b,0,none⟩)) w'):V (bx t v) w K:=V_bx hS hk
theorem iU_st {K:World->Prop} [hS:Res w0 z0 B0 w z L] {t n off:Nat} {v:Value} {vs l l':List Value} {ty:TypeId} [g:Blk L b (.cells l.toArray ty (0,0)) C] [gs:TySize t n] [gc:CellsOf v vs] [go:Ones vs] [hn:LenIs vs n] [gl:SetN l off vs l']
  (hk:∀ w',Res w0 z0 B0 w' z (C (.cells l'.toArray ty (0,0)))->K w'):U (st t (.pointer (some ⟨b,off,none⟩)) v) w K:=U_st (C:=C) hS hn.h hk
theorem iHV_1 [hS:Res w0 z0 B0 w z L] {K:Value->Prop} {t:TypeId} [g:TyOne t] {off:Nat} {v:Value} {l:List Value} {ty:TypeId} {fr:Nat × Nat} [Blk L b (.cells l.toArray ty fr) C] [Get l off v] (hk:K v):HV (ld t (.pointer (some ⟨b,off,none⟩))) w K:=HV_ldL1 hS hk
theorem iHV_N [hS:Res w0 z0 B0 w z L] {K:Value->Prop} {t n:Nat} [g:TyAgg t n] [gs:TySize t n] {off:Nat} {vs:List Value} {l:List Value} {ty:TypeId} {fr:Nat × Nat} [Blk L b (.cells l.toArray ty fr) C] [gn:GetN l off n vs] (hk:K (.agg vs.toArray)):HV (ld t (.pointer (some ⟨b,off,none⟩))) w K:=HV_ldLN hS hk
theorem iRI_1 {A:Prop} [hS:Res w0 z0 B0 w z L] {t:TypeId} [g:TyOne t] {off:Nat} {v:Value} {l:List Value} {ty:TypeId} {fr:Nat × Nat} [Blk L b (.cells l.toArray ty fr) C] [Get l off v] (h:A):RunIs (ld t (.pointer (some ⟨b,off,none⟩))) w v/\A:=⟨RunIs_ldL1 hS,h⟩
theorem iRI_N {A:Prop} [hS:Res w0 z0 B0 w z L] {t n:Nat} [g:TyAgg t n] [gs:TySize t n] {off:Nat} {vs:List Value} {l:List Value} {ty:TypeId} {fr:Nat × Nat} [Blk L b (.cells l.toArray ty fr) C] [gn:GetN l off n vs] (h:A):RunIs (ld t (.pointer (some ⟨b,off,none⟩))) w (.agg vs.toArray)/\A:=⟨RunIs_ldLN hS,h⟩
theorem iDr {K:World->Prop} [hS:Res w0 z0 B0 w z L] (hk:∀ w',Res w0 z0 B0 w' z L->K w'):Dr w K:=Dr_intro hS hk
theorem zV_ld1 [hS:Res w0 z0 B0 w z L] {t:TypeId} [g:TyOne t] {off:Nat} {v:Value} (h:At z b off [v]) (hk:K v w):V (ld t (.pointer (some ⟨b,off,none⟩))) w K:=V_ld1 (h.world hS.sub) hk
theorem zV_ldN [hS:Res w0 z0 B0 w z L] {t n:Nat} [g:TyAgg t n] [gs:TySize t n] {off:Nat} {vs:List Value} (h:At z b off vs) (hl:vs.length = n) (hk:K (.agg vs.toArray) w):V (ld t (.pointer (some ⟨b,off,none⟩))) w K:=V_ldN (h.world hS.sub) hl hk
theorem zHV_ld1 [hS:Res w0 z0 B0 w z L] {K:Value->Prop} {t:TypeId} [g:TyOne t] {off:Nat} {v:Value} (h:At z b off [v]) (hk:K v):HV (ld t (.pointer (some ⟨b,off,none⟩))) w K:=HV_of (run_ld1 (h.world hS.sub)) hk
theorem zHV_ldN [hS:Res w0 z0 B0 w z L] {K:Value->Prop} {t n:Nat} [g:TyAgg t n] [gs:TySize t n] {off:Nat} {vs:List Value} (h:At z b off vs) (hl:vs.length = n) (hk:K (.agg vs.toArray)):HV (ld t (.pointer (some ⟨b,off,none⟩))) w K:=HV_of (run_ldN (h.world hS.sub) hl) hk
theorem At.sub {off i n:Nat} {vs us:List Value} [g:GetN vs i n us] (h:At z b off vs):At z b (off + i) us:=by
 obtain ⟨c,ty,fr,h1,h2⟩:=h;exact ⟨c,ty,fr,h1,fun j v hj=>by rw [Nat.add_assoc]; exact h2 _ v (g.h j v hj)⟩
class Pu (f:FuncId) (args:Array Value) (v:outParam Value):Prop where
 h:∀ z w,Fn1 f args z w fun _ v'=>v' = v
theorem CV_pu [hS:Res w0 z0 B0 w z L] {f:FuncId} [Enters f] {args:Array Value} {v:Value} [g:Pu f args v] (hk:∀ z' w',Le z z'->Res w0 z0 B0 w' z' L->K v w'):CV (.func (.func f) #[] #[]) args w K:=
 CV_fn1 hS (g.h z w) (by simp) fun z' w' v' h1 h2 h3=>by subst h3; exact hk z' w' h1 h2
theorem CV_1 [hS:Res w0 z0 B0 w z L] {f:FuncId} [Enters f] {args:Array Value} {R:Z->Value->Prop} (h:Fn1 f args z w R) (hk:∀ z' w' v,Le z z'->Res w0 z0 B0 w' z' L->R z' v->K v w'):CV (.func (.func f) #[] #[]) args w K:=
 CV_fn1 hS h (by simp) hk
theorem Fn1.intro {f:FuncId} {args:Array Value} {R:Z->Value->Prop} (h:Res w z [] w z []->Calls Tryz.prog f args w (retK fun v w'=>∃ z' L',Res w z [] w' z' L'/\R z' v)):Fn1 f args z w R:=
 fun ho=>(h ho).mono (retK.mono fun v w' ⟨z',L',h1,h2⟩=>⟨z',h1.drop,h2⟩)
theorem Fn.intro {f:FuncId} {args:Array Value} {R:Z->Bl->Value->Prop} (h:Res w z B w z B->Calls Tryz.prog f args w (retK fun v w'=>∃ z' B',Res w z B w' z' B'/\R z' B' v)):Fn f args z B w R:=h
theorem Fn1.mono {f:FuncId} {args:Array Value} {R R':Z->Value->Prop} (h:Fn1 f args z w R) (hr:∀ z' v,R z' v->R' z' v):Fn1 f args z w R':=
 fun ho=>(h ho).mono (retK.mono fun v w' ⟨z',h1,h2⟩=>⟨z',h1,hr _ _ h2⟩)
theorem fin {R:Z->Bl->Value->Prop} {v:Value} [hS:Res w0 z0 B0 w z L] (h:R z L v):∃ z' L',Res w0 z0 B0 w z' L'/\R z' L' v:=⟨z,L,hS,h⟩
end
class InStr (s:ByteArray) (i:Int):Prop where
 h0:0 <= i
 h1:i < s.size
class InR (i n:Int):Prop where
 h0:0 <= i
 h1:i < n
class InI (n:Int):Prop where
 h:-9223372036854775808 <= n/\n <= 9223372036854775807
def bt (s:ByteArray) (i:Int):Int:=((s.data.toList.getD i.toNat 0).toNat:Int)
theorem bt_range (s:ByteArray) (i:Int):0 <= bt s i/\bt s i <= 255:=by
 unfold bt;have:=(s.data.toList.getD i.toNat 0).toNat_lt;omega
instance {t:Nat} [g:TyStr t] {s:ByteArray} {i:Int} {k:IntKind} [hi:InStr s i]:Run (ix t (.string s) (.int k i)) (.int .u8 (bt s i)):=⟨fun w=>by
 have h1:i.toNat < s.size:=by have:=hi.h1; have:=hi.h0; omega
 simp only [ix,Instr.index,asIntOf,pure_bind,Sem.run_bind,g.und,Result.andThen_ok,hi.h0,if_true];rw [getElem?_pos s i.toNat h1];have:bt s i = ((s[i.toNat]'h1).toNat:Int):=by
  unfold bt;rw [List.getD_eq_getElem?_getD,List.getElem?_eq_getElem (by simpa using h1)]
  rfl
 rw [this]
 rfl⟩
instance {b t e s n cap off o:Nat} [g:TySlice t e s] {i:Int} {k:IntKind} [hi:InR i n] [ho:AddN off (i.toNat * s) o]:Run (ia t (.slice (some ⟨b,off,none⟩) n cap) (.int k i)) (.pointer (some ⟨b,o,none⟩)):=⟨fun w=>by
 rw [<- ho.h];simp only [ia,Instr.indexAt,asIntOf,pure_bind,Sem.run_bind,g.und,g.size,Result.andThen_ok,hi.h0,hi.h1,and_self,if_true,add_addr]
 rfl⟩
instance {t:Nat} {a b:Int} [h:InI (a + b)]:Run (bi .add t (.int .i64 a) (.int .i64 b)) (.int .i64 (a + b)):=⟨fun w=>by simp [bi,binOp,Op.intArith,wrap_in h.h]⟩
instance {t:Nat} {a b:Int} [h:InI (a - b)]:Run (bi .sub t (.int .i64 a) (.int .i64 b)) (.int .i64 (a - b)):=⟨fun w=>by simp [bi,binOp,Op.intArith,wrap_in h.h]⟩
instance {t:Nat} {a b:Int} [h:InI (a * b)]:Run (bi .mul t (.int .i64 a) (.int .i64 b)) (.int .i64 (a * b)):=⟨fun w=>by simp [bi,binOp,Op.intArith,wrap_in h.h]⟩
class PB (F:(List Value->World->Prop)->Prop) (w:outParam World) (x:outParam Bool):Prop where
 h:∀ K:List Value->World->Prop,K [.bool x] w->F K
instance PB.lit {w:World} {x:Bool}:PB (fun K=>K [.bool x] w) w x:=⟨fun _ h=>h⟩
instance PB.val {w:World} {x:Bool} {s:Sem Value} {v:Value} {G:(List Value->World->Prop)->Value->World->Prop} [g:Run s v] [h:PB (fun K=>G K v w) w x]:PB (fun K=>V s w (G K)) w x:=
 ⟨fun K hK=>V_run (h.h K hK)⟩
instance PB.cond {w:World} {x y b:Bool} {A B:(List Value->World->Prop)->Prop} [h1:PB A w x] [h2:PB B w y]:PB (fun K=>CondW (.bool b) (A K) (B K)) w (bif b then x else y):=
 ⟨fun K hK=>⟨b,rfl,fun hb=>h1.h K (by subst hb; exact hK),fun hb=>h2.h K (by subst hb; exact hK)⟩⟩
instance PB.join {w:World} {x y:Bool} {H:(List Value->World->Prop)->Value->World->Prop} {body:(List Value->World->Prop)->(List Value->World->Prop)->Prop} [h1:∀ K,PB (body K) w x] [h2:PB (fun K=>H K (.bool x) w) w y] :
  PB (fun K=>∀ K1:List Value->World->Prop,(∀ t w,(∀ _:Env,H K t w)->K1 [t] w)->body K K1) w y:=
 ⟨fun K hK K1 hK1=>(h1 K).h K1 (hK1 _ _ fun _=>h2.h K hK)⟩
theorem JB {w:World} {x:Bool} {rest:Value->World->Prop} {body:(List Value->World->Prop)->Prop} [g:PB body w x] (h:rest (.bool x) w):∀ K:List Value->World->Prop,(∀ t w,(∀ _:Env,rest t w)->K [t] w)->body K:=
 fun K hK=>g.h K (hK _ _ fun _=>h)
end
section
open Go Q Go.RowKit
noncomputable def leastOf (p:Nat->Prop):Nat:=by
 classical exact if h:∃ n,p n/\∀ m,p m->n <= m then Classical.choose h else 0
theorem least_exists {p:Nat->Prop} (h:∃ n,p n):∃ n,p n/\∀ m,p m->n <= m:=by
 obtain ⟨n,hn⟩:=h
 induction n using Nat.strongRecOn with
 | _ n ih=>
  by_cases hx:∃ m,m < n/\p m
  ·obtain ⟨m,hm,hp⟩:=hx; exact ih m hm hp
  ·exact ⟨n,hn,fun m hm=>Nat.le_of_not_lt fun hlt=>hx ⟨m,hlt,hm⟩⟩
theorem leastOf_spec {p:Nat->Prop} (h:∃ n,p n):p (leastOf p)/\∀ m,p m->leastOf p <= m:=by
 have h':=least_exists h;unfold leastOf;rw [dif_pos h'];exact Classical.choose_spec h'
section
variable {α:Type}
theorem loop_core (Inv:α->List Value->World->Prop) (μ:α->Nat) {body:(List Value->World->Prop)->(List Value->World->Nat)->List Value->World->Nat->Prop} {l0:List Value} {w:World} (a0:α) (h0:Inv a0 l0 w)
  (hs:∀ I M a l w m,Inv a l w->(∀ a' l' w',Inv a' l' w'->μ a' < μ a->I l' w'/\M l' w' < m)->body I M l w m) :
  ∃ (I:List Value->World->Prop) (M:List Value->World->Nat),I l0 w/\∀ l w,I l w->∀ m,m = M l w->body I M l w m:=by
 refine ⟨fun l w=>∃ a,Inv a l w,fun l w=>leastOf fun m=>∃ a,Inv a l w/\μ a = m,⟨a0,h0⟩,?_⟩;rintro l w ⟨a,ha⟩ m rfl
 obtain ⟨⟨a1,h1,h2⟩,h3⟩:=leastOf_spec (p:=fun m=>∃ a,Inv a l w/\μ a = m) ⟨μ a,a,ha,rfl⟩;refine hs _ _ a1 l w _ h1 fun a' l' w' h4 h5=>⟨⟨a',h4⟩,?_⟩
 exact Nat.lt_of_le_of_lt ((leastOf_spec (p:=fun m=>∃ a,Inv a l' w'/\μ a = m) ⟨μ a',a',h4,rfl⟩).2 _ ⟨a',h4,rfl⟩) (Nat.lt_of_lt_of_eq h5 h2)
theorem LoopG1 (Inv:α->Value->World->Prop) (μ:α->Nat) {body:(List Value->World->Prop)->(List Value->World->Nat)->Value->World->Nat->Prop} {x0:Value} {w:World} (a0:α) (h0:Inv a0 x0 w)
  (hs:∀ I M a x w m,Inv a x w->(∀ a' x' w',Inv a' x' w'->μ a' < μ a->I [x'] w'/\M [x'] w' < m)->body I M x w m) :
  ∃ (I:List Value->World->Prop) (M:List Value->World->Nat),I [x0] w/\∀ _:Env,∀ x,∀ w,I [x] w->∀ m,m = M [x] w->body I M x w m:=by
 obtain ⟨I,M,h1,h2⟩:=loop_core (fun a l w=>∃ x,l = [x]/\Inv a x w) μ (body:=fun I M l w m=>∀ x,l = [x]->body I M x w m) a0 ⟨x0,rfl,h0⟩ (fun I M a l w m ⟨x,h3,h4⟩ h5 y hy=>by
  rw [hy] at h3; cases h3;exact hs I M a y w m h4 fun a' x' w' h6 h7=>h5 a' [x'] w' ⟨x',rfl,h6⟩ h7)
 exact ⟨I,M,h1,fun _ x w h m hm=>h2 [x] w h m hm x rfl⟩
theorem LoopG2 (Inv:α->Value->Value->World->Prop) (μ:α->Nat) {body:(List Value->World->Prop)->(List Value->World->Nat)->Value->Value->World->Nat->Prop} {x0 y0:Value} {w:World} (a0:α) (h0:Inv a0 x0 y0 w)
  (hs:∀ I M a x y w m,Inv a x y w->(∀ a' x' y' w',Inv a' x' y' w'->μ a' < μ a->I [x',y'] w'/\M [x',y'] w' < m)->body I M x y w m) :
  ∃ (I:List Value->World->Prop) (M:List Value->World->Nat),I [x0,y0] w/\∀ _:Env,∀ x,∀ y,∀ w,I [x,y] w->∀ m,m = M [x,y] w->body I M x y w m:=by
 obtain ⟨I,M,h1,h2⟩:=loop_core (fun a l w=>∃ x y,l = [x,y]/\Inv a x y w) μ (body:=fun I M l w m=>∀ x y,l = [x,y]->body I M x y w m) a0 ⟨x0,y0,rfl,h0⟩ (fun I M a l w m ⟨x,y,h3,h4⟩ h5 x' y' hy=>by
  rw [hy] at h3; cases h3;exact hs I M a x' y' w m h4 fun a' x'' y'' w' h6 h7=>h5 a' [x'',y''] w' ⟨x'',y'',rfl,h6⟩ h7)
 exact ⟨I,M,h1,fun _ x y w h m hm=>h2 [x,y] w h m hm x y rfl⟩
end
structure El (α:Type) where
 size:Nat
 rel:Z->List Value->α->Prop
 mono:∀ {z z' cs x},rel z cs x->Le z z'->rel z' cs x
 len:∀ {z cs x},rel z cs x->cs.length = size
 pos:0 < size
abbrev big:Nat:=9223372036854775807
abbrev room:Nat:=140737488355328
def SlR {α:Type} (E:El α) (z:Z) (v:Value) (xs:List α):Prop:=
 ∃ a cap,v = .slice a xs.length cap/\xs.length <= cap/\xs.length <= big/\(xs ≠ []->∃ b off,a = some ⟨b,off,none⟩/\∀ i x,xs[i]? = some x->∃ cs,E.rel z cs x/\At z b (off + i * E.size) cs)
section
variable {α:Type} {E:El α} {z z':Z} {v:Value} {xs:List α}
theorem SlR.mono (h:SlR E z v xs) (hz:Le z z'):SlR E z' v xs:=by
 obtain ⟨a,cap,h1,h2,h3,h4⟩:=h;refine ⟨a,cap,h1,h2,h3,fun hn=>?_⟩;obtain ⟨b,off,h5,h6⟩:=h4 hn;exact ⟨b,off,h5,fun i x hx=>let ⟨cs,h7,h8⟩:=h6 i x hx; ⟨cs,E.mono h7 hz,h8.mono hz⟩⟩
theorem SlR.nil:SlR E z (.slice none 0 0) []:=⟨none,0,rfl,Nat.le_refl _,by simp,fun h=>absurd rfl h⟩
theorem SlR.form (h:SlR E z v xs):xs.length <= big/\∃ a cap,v = .slice a xs.length cap/\xs.length <= cap/\∀ i x,xs[i]? = some x->∃ b off cs,a = some ⟨b,off,none⟩/\E.rel z cs x/\At z b (off + i * E.size) cs:=by
 obtain ⟨a,cap,h1,h2,h3,h4⟩:=h;refine ⟨h3,a,cap,h1,h2,fun i x hx=>?_⟩;obtain ⟨b,off,h5,h6⟩:=h4 (by intro hn; rw [hn] at hx; simp at hx);obtain ⟨cs,h7,h8⟩:=h6 i x hx;exact ⟨b,off,cs,h5,h7,h8⟩
def El.sl (E:El α):El (List α) where
 size:=1
 rel:=fun z cs xs=>∃ v,cs = [v]/\SlR E z v xs
 mono:=fun ⟨v,h1,h2⟩ hz=>⟨v,h1,h2.mono hz⟩
 len:=fun ⟨v,h1,_⟩=>by rw [h1]; rfl
 pos:=by decide
end
def El.int:El Int where
 size:=1
 rel:=fun _ cs x=>cs = [.int .i64 x]
 mono:=fun h _=>h
 len:=fun h=>by rw [h]; rfl
 pos:=by decide
def El.str:El ByteArray where
 size:=1
 rel:=fun _ cs x=>cs = [.string x]/\x.size <= big
 mono:=fun h _=>h
 len:=fun h=>by rw [h.1]; rfl
 pos:=by decide
def El.bool:El Bool where
 size:=1
 rel:=fun _ cs x=>cs = [.bool x]
 mono:=fun h _=>h
 len:=fun h=>by rw [h]; rfl
 pos:=by decide
def OwnSl (e size:Nat) (B:Bl) (v:Value) (n:Nat) (xs:List Value):Prop:=
 xs.length = n * size/\((B = []/\v = .slice none 0 0/\n = 0) \/ ∃ b cap sp,B = [(b,.cells (xs ++ sp).toArray e (0,0))]/\v = .slice (some ⟨b,0,none⟩) n cap/\n <= cap/\cap <= maxLen/\(xs ++ sp).length = cap * size)
theorem OwnSl.nil {e size:Nat}:OwnSl e size [] (.slice none 0 0) 0 []:=⟨by simp,.inl ⟨rfl,rfl,rfl⟩⟩
theorem OwnSl.form {e size n:Nat} {B:Bl} {v:Value} {xs:List Value} (h:OwnSl e size B v n xs):∃ a cap,v = .slice a n cap/\n <= cap:=by
 rcases h.2 with ⟨_,rfl,rfl⟩ | ⟨b,cap,sp,_,rfl,h1,_⟩
 ·exact ⟨none,0,rfl,Nat.le_refl _⟩
 ·exact ⟨_,cap,rfl,h1⟩
section
variable {w0 w w':World} {z0 z z':Z} {B0 B B' L F:Bl} {K:Value->World->Prop}
theorem setRow_eq {w:World} {b:Nat} {c cs:Array Value} {t:TypeId} {fr:Nat × Nat} (h:w.heap[b]? = some (.cells c t fr)):w.setRow b cs = { w with heap:=w.heap.setIfInBounds b (.cells cs t fr) }:=by
 unfold World.setRow
 congr 1
 apply Array.ext_getElem?
 intro j;rw [Array.getElem?_modify,Array.getElem?_setIfInBounds]
 by_cases hj:b = j
 ·subst hj
  have hb':=(Array.getElem?_eq_some_iff.1 h).2;simp [lt_of_get h,hb']
 ·simp [hj]
theorem oneCell'_of {v:Value} (h:isOne v = true):v.oneCell' = true:=by cases v <;> first | rfl | cases h
theorem V_app {t ty e size bytes:Nat} [g:TyApp t e size bytes] {v:Value} {n m c b' off':Nat} {xs news:List Value} (hS:Res w0 z0 B0 w z (B ++ L)) (ho:OwnSl e size B v n xs)
  (hn:At (hp w) b' off' news) (hl:news.length = m * size) (h1:∀ u ∈ news,isOne u = true) (hm:0 < m) (hb:(n + m) * bytes <= room) (hb2:n + m <= room)
  (hk:∀ B' v' w',OwnSl e size B' v' (n + m) (xs ++ news)->Res w0 z0 B0 w' z (B' ++ L)->K v' w'):V (Builtin.append_ #[t,t] ty #[v,.slice (some ⟨b',off',none⟩) m c]) w K:=by
 obtain ⟨zv,hinfo,hzs⟩:=g.info;obtain ⟨i,hi,hz⟩:=Option.map_eq_some_iff.1 hinfo;simp only [Prod.mk.injEq] at hz;obtain ⟨hz0,hz1,hz2⟩:=hz;have hnews:∀ j u,news[j]? = some u->w.cell? ((⟨b',off',none⟩:Addr).add j) = some u:=fun j u hu=>by rw [add_addr]; exact hn.cell hu
 have hlen:(xs ++ news).length = (n + m) * size:=by rw [List.length_append,ho.1,hl,Nat.add_mul]
 simp only [room] at hb hb2;have hmax:n + m <= maxLen:=by simp only [maxLen]; omega
 have h63:((n + m:Nat):Int) <= 9223372036854775807:=by simp only [maxLen] at hmax; omega
 have grown:∀ (old:Nat) (w1:World),w1 = w.drew.alloc (.cells (xs.toArray ++ news.toArray ++ Builtin.zeroCells zv.cells (grownCap w (n + m) old e - (n + m))) e) ->
   Res w0 z0 B0 w1 z ((w.heap.size,.cells (xs ++ news ++ (Builtin.zeroCells zv.cells (grownCap w (n + m) old e - (n + m))).toList).toArray e (0,0)) :: (B ++ L)):=fun old w1 hw1=>by
  subst hw1;have:=Res.new (Res.drew hS) (.cells (xs ++ news ++ (Builtin.zeroCells zv.cells (grownCap w (n + m) old e - (n + m))).toList).toArray e (0,0));have he:(xs.toArray ++ news.toArray ++ Builtin.zeroCells zv.cells (grownCap w (n + m) old e - (n + m))) = (xs ++ news ++ (Builtin.zeroCells zv.cells (grownCap w (n + m) old e - (n + m))).toList).toArray:=by
   apply Array.toList_inj.1; simp
  rw [he];exact this
 have own':∀ (old:Nat),OwnSl e size [(w.heap.size,.cells (xs ++ news ++ (Builtin.zeroCells zv.cells (grownCap w (n + m) old e - (n + m))).toList).toArray e (0,0))] (.slice (some ⟨w.heap.size,0,none⟩) (n + m) (grownCap w (n + m) old e)) (n + m) (xs ++ news):=fun old=>by
  have hge:=grownCap_ge w (n + m) old e;refine ⟨hlen,.inr ⟨_,_,_,rfl,rfl,hge,grownCap_le_maxLen w (n + m) old e hmax,?_⟩⟩;rw [List.length_append,hlen,Array.length_toList,size_zeroCells,hzs,<- Nat.add_mul]
  congr 1
  omega
 rcases ho.2 with ⟨rfl,rfl,rfl⟩ | ⟨b,cap,sp,rfl,rfl,hcap,hcm,hsz⟩
 ·have hx0:xs = []:=List.eq_nil_of_length_eq_zero (by have:=ho.1; simpa using this)
  subst hx0;have hr:=run_append_nil (P:=Tryz.prog) w t ty e i zv g.und hi hz0 ⟨b',off',none⟩ m c news (by rw [hz1]; exact hl) hnews hm (by simpa using h63) (by rw [hz2]; simp only [Nat.zero_add] at hb; omega);refine ⟨_,_,hr,?_⟩;have h5:=grown 0 _ rfl;have h6:=own' 0;simp only [Nat.zero_add] at h5 h6;exact hk _ _ _ (by simpa using h6) (by simpa using h5)
 ·by_cases hroom:n + m <= cap
  ·have hat:=hS.mem (b,.cells (xs ++ sp).toArray e (0,0)) (by simp)
   have hfit:n * i.size + news.length <= (xs ++ sp).toArray.size:=by
    rw [hz1,hl,<- Nat.add_mul]; simp only [List.size_toArray,hsz]; exact Nat.mul_le_mul_right _ hroom
   have hr:=run_append_room (P:=Tryz.prog) w t ty e i g.und hi b n cap (xs ++ sp).toArray hat.1 ⟨b',off',none⟩ m c news (by rw [hz1]; exact hl) hnews (fun u hu=>oneCell'_of (h1 u hu)) hroom hfit;refine ⟨_,_,hr,?_⟩;rw [setRow_eq hat.1];have e1:(xs ++ sp).take (n * i.size) = xs:=by rw [hz1,<- ho.1]; exact List.take_left
   have hnew:((xs ++ sp).toArray.toList.take (n * i.size) ++ news ++ (xs ++ sp).toArray.toList.drop (n * i.size + news.length)) = xs ++ news ++ sp.drop news.length:=by
    simp only [e1];rw [hz1,<- ho.1,List.drop_append,List.drop_of_length_le (by omega)];simp
   rw [hnew];refine hk [(b,.cells (xs ++ news ++ sp.drop news.length).toArray e (0,0))] _ _ ⟨hlen,.inr ⟨b,cap,sp.drop news.length,rfl,rfl,hroom,hcm,?_⟩⟩ (Res.put hS _ rfl);rw [List.length_append,hlen,List.length_drop];have:sp.length = cap * size - n * size:=by rw [<- hsz,List.length_append,ho.1]; omega
   rw [this,hl,Nat.add_mul];have:(n + m) * size <= cap * size:=Nat.mul_le_mul_right _ hroom;rw [Nat.add_mul] at this;omega
  ·have hat:=hS.mem (b,.cells (xs ++ sp).toArray e (0,0)) (by simp)
   have holds:∀ j u,xs[j]? = some u->w.cell? ((⟨b,0,none⟩:Addr).add j) = some u:=fun j u hu=>by
    rw [add_addr];refine At.cell (vs:=xs) ⟨_,_,_,hat.1,fun j u hu=>?_⟩ hu;simp only [Nat.zero_add,List.getElem?_toArray];rw [List.getElem?_append_left (List.getElem?_eq_some_iff.1 hu).1];exact hu
   have hr:=run_append_grow (P:=Tryz.prog) w t ty e i zv g.und hi hz0 ⟨b,0,none⟩ n cap xs (by rw [hz1]; exact ho.1) holds ⟨b',off',none⟩ m c news (by rw [hz1]; exact hl) hnews (by omega) h63 (growslice_fits (by omega) (by rw [hz2]; exact hb));refine ⟨_,_,hr,hk _ _ _ (own' cap) ((grown cap _ rfl).sublist ?_)⟩;simp
theorem run_pure {α:Type} (a:α) (w:World):(pure a:Sem α).run Tryz.prog w = .ok a w:=rfl
class FillS (size i:Nat) (parts:List (Nat × Value)) (out:outParam (List Value)) (n:outParam Nat):Prop where
 h:n = i + parts.length/\out.length = parts.length * size/\(∀ pre rest:List Value,pre.length = i * size->rest.length = parts.length * size->Instr.fill (fun i=>some (i * size,size)) (pre ++ rest).toArray parts = some (pre ++ out).toArray)
instance {size i:Nat}:FillS size i [] [] i:=⟨rfl,by simp,fun pre rest _ hr=>by
 have:rest = []:=List.eq_nil_of_length_eq_zero (by simpa using hr);subst this; rfl⟩
theorem setL_append (vs pre rest:List Value) (h:vs.length <= rest.length):setL (pre ++ rest) pre.length vs = pre ++ vs ++ rest.drop vs.length:=by
 refine List.ext_getElem? fun k=>?_
 rw [setL_get _ _ _ _ (by simp; omega)]
 by_cases h1:k < pre.length
 ·rw [if_neg (by omega),List.getElem?_append_left h1,List.append_assoc,List.getElem?_append_left h1]
 ·by_cases h2:k - pre.length < vs.length
  ·rw [if_pos (by omega),List.append_assoc,List.getElem?_append_right (by omega:pre.length <= k),List.getElem?_append_left h2]
  ·rw [if_neg (by omega),List.append_assoc,List.getElem?_append_right (by omega:pre.length <= k),List.getElem?_append_right (by omega:pre.length <= k),List.getElem?_append_right (by omega:vs.length <= k - pre.length),List.getElem?_drop]
   congr 1; omega
instance {size i n:Nat} {v:Value} {vs out:List Value} {parts:List (Nat × Value)} [gc:CellsOf v vs] [gl:LenIs vs size] [gf:FillS size (i + 1) parts out n]:FillS size i ((i,v) :: parts) (vs ++ out) n:=by
 obtain ⟨h1,h2,h3⟩:=gf.h;have hv:=gl.h;refine ⟨by simp; omega,by simp [h2,hv,Nat.add_mul]; omega,fun pre rest hp hr=>?_⟩;have hr':rest.length = parts.length * size + size:=by simpa [Nat.add_mul] using hr
 unfold Instr.fill;have hcs:¬ (i * size + size > (pre ++ rest).length):=by rw [List.length_append,hp,hr']; omega
 simp only [gc.h,List.size_toArray,hv,ne_eq,not_true_eq_false,decide_false,Bool.false_or,decide_eq_true_eq,hcs,if_false];have hfold:(vs.toArray.zipIdx.foldl (fun (cs:Array Value) (x:Value × Nat)=>cs.setIfInBounds (i * size + x.2) x.1) (pre ++ rest).toArray) = (pre ++ vs ++ rest.drop size).toArray:=by
  have:=fold_set vs (pre ++ rest) (i * size) 0;rw [Nat.add_zero,<- hp,setL_append _ _ _ (by omega),hv,hp] at this;rw [<- Array.foldl_toList,Array.toList_zipIdx];exact this
 rw [hfold,h3 (pre ++ vs) (rest.drop size) (by simp [hp,hv,Nat.add_mul]) (by simp [hr'])];simp
class TyFill (e size:Nat):Prop where
 zero:∃ v:Value,v.cells.size = size/\∀ w,(zeroValue e).run Tryz.prog w = .ok v w
theorem V_bs {t e size n k:Nat} {parts:List (Nat × Value)} {out:List Value} [hS:Res w0 z0 B0 w z L] [g:TySlice t e size] [gz:TyFill e size] [gf:FillS size 0 parts out n] (hn:k = n) (hsz:n * size <= 16777216)
  (hk:∀ b w',w0.heap.size <= b->Res w0 z0 B0 w' z ((b,.cells out.toArray e (0,0)) :: L)->K (.slice (some ⟨b,0,none⟩) n n) w'):V (bs t k parts.toArray) w K:=by
 subst hn;obtain ⟨zv,hz1,hz2⟩:=gz.zero;obtain ⟨h1,h2,h3⟩:=gf.h;simp only [Nat.zero_add] at h1;have hfill:∀ base:List Value,base.length = k * size->Instr.fill (fun i=>some (i * size,size)) base.toArray parts = some out.toArray:=fun base hb=>by
  have:=h3 [] base (by simp) (by rw [hb,h1])
  simpa using this
 refine ⟨_,_,?_,hk w.heap.size _ hS.size (hS.new (.cells out.toArray e (0,0)))⟩;have hle:¬ (k * size > 2 ^ 24):=by omega
 simp only [bs,Instr.buildSlice,Sem.run_bind,g.und,g.size,Result.andThen_ok,hle,if_false]
 by_cases h0:k * size = 0
 ·have hb:=hfill (((Array.range (k * size)).map fun i=>(#[]:Array Value)[i % (#[]:Array Value).size]!).toList) (by simp)
  simp only [Array.toArray_toList] at hb;simp only [h0,if_true,Sem.run_bind,run_pure,Result.andThen_ok] at hb ⊢;simp only [hb,newRow,newObj,Sem.run_bind]
  rfl
 ·have hb:=hfill (((Array.range (k * size)).map fun i=>zv.cells[i % zv.cells.size]!).toList) (by simp)
  simp only [Array.toArray_toList] at hb;simp only [h0,if_false,Sem.run_bind,hz2,Result.andThen_ok,run_pure,hb,newRow,newObj]
  rfl
end
end
section
open Go Q Go.RowKit
section
variable {w0 w w':World} {z0 z z':Z} {B0 B B' L F:Bl} {b:Nat} {o:Obj} {C:Obj->Bl} {K:Value->World->Prop}
theorem getObj_run {w:World} {b:Nat} {o:Obj} (h:w.heap[b]? = some o) (hn:∀ c e fr,o ≠ .cells c e fr):(getObj b).run Tryz.prog w = .ok o w:=by
 unfold getObj
 cases o <;> first | exact absurd rfl (hn _ _ _) | (simp only [Sem.run,h])
theorem setObj_run {w:World} {b:Nat} {o o':Obj} (h:w.heap[b]? = some o) (hn:∀ c e fr,o ≠ .cells c e fr):(setObj b o').run Tryz.prog w = .ok () { w with heap:=w.heap.setIfInBounds b o' }:=by
 unfold setObj
 cases o <;> first | exact absurd rfl (hn _ _ _) | (simp only [Sem.run,h])
end
def fidx {α:Type} (p:α->Bool) (xs:List α):Int:=match xs.findIdx? p with | some i=>i | none=>-1
theorem fidx_some {α:Type} {p:α->Bool} {xs:List α} {k:Nat} {x:α} (h:∀ i y,i < k->xs[i]? = some y->p y = false) (hx:xs[k]? = some x) (hp:p x = true):fidx p xs = k:=by
 have:xs.findIdx? p = some k:=by
  rw [List.findIdx?_eq_some_iff_getElem];obtain ⟨hlt,rfl⟩:=List.getElem?_eq_some_iff.1 hx;exact ⟨hlt,hp,fun j hj=>by simpa using h j _ hj (List.getElem?_eq_getElem (by omega))⟩
 unfold fidx;rw [this]
theorem fidx_none {α:Type} {p:α->Bool} {xs:List α} (h:∀ (i:Nat) y,xs[i]? = some y->p y = false):fidx p xs = -1:=by
 have:xs.findIdx? p = none:=by
  rw [List.findIdx?_eq_none_iff];intro x hx;obtain ⟨i,hi⟩:=List.mem_iff_getElem?.1 hx;exact h i x hi
 unfold fidx;rw [this]
theorem fidx_neg {α:Type} {p:α->Bool} {xs:List α}:fidx p xs < 0 ↔ xs.any p = false:=by
 unfold fidx
 cases h:xs.findIdx? p with
 | none=>
  simp only [List.findIdx?_eq_none_iff] at h;simp only [Int.reduceNeg,Int.reduceLT,List.any_eq_false,true_iff];intro x hx; simp [h x hx]
 | some i=>
  rw [List.findIdx?_eq_some_iff_getElem] at h;obtain ⟨hlt,hp,_⟩:=h;constructor
  ·intro hh; simp only at hh; omega
  ·intro hh; rw [List.any_eq_false] at hh; exact absurd hp (hh _ (List.getElem_mem hlt))
theorem fidx_ge {α:Type} {p:α->Bool} {xs:List α}:(decide (fidx p xs ≥ 0)) = xs.any p:=by
 cases h:xs.any p with
 | false=>rw [decide_eq_false]; have:=(fidx_neg (p:=p) (xs:=xs)).2 h; omega
 | true=>rw [decide_eq_true]; have:=(fidx_neg (p:=p) (xs:=xs)); rw [h] at this; simp at this; exact this
class EntersX (f:FuncId) (e:outParam (Array Value->Sem Value)):Prop where
 h:∀ args w,(callFunc f args).run Tryz.prog w = Sem.run Tryz.prog (do pure (Next.value (<- e args))) w
theorem CV_x {f:FuncId} {e:Array Value->Sem Value} [he:EntersX f e] {args:Array Value} {w:World} {v:Value} {K:Value->World->Prop} (h:(e args).run Tryz.prog w = .ok v w) (hk:K v w):CV (.func (.func f) #[] #[]) args w K:=by
 have:(callSem (.func (.func f) #[] #[]) args).run Tryz.prog w = .ok (.value v) w:=by
  simp only [callSem,Deferred.ofValue,pure_bind,invoke];have hh:=he.h (#[] ++ args ++ #[]) w;simp only [Array.empty_append,Array.append_empty] at hh ⊢;rw [hh];simp only [Sem.run_bind,h,Result.andThen_ok]
  rfl
 unfold CV CallV;rw [this];exact hk
end
section
open Go Q Go.RowKit
section
variable {w0 w w':World} {z0 z z':Z} {B0 B B' L F:Bl} {b:Nat} {o:Obj} {C:Obj->Bl} {K:Value->World->Prop}
theorem addr_add0 (a:Addr):a.add 0 = a:=by
 unfold Addr.add;simp
theorem map_add0 (a:Option Addr):a.map (·.add 0) = a:=by cases a <;> simp [addr_add0]
instance {t e n len cap:Nat} {a:Option Addr} {h:Int} {k:IntKind} [g:TySlice t e n] [hr:InR h (cap + 1)]:Run (sl t (.slice a len cap) none (some (.int k h)) none) (.slice a h.toNat cap):=⟨fun w=>by
 have h1:h <= cap:=by have:=hr.h1; omega
 simp only [sl,Instr.sliceAt,Sem.run_bind,g.und,Result.andThen_ok,Instr.slice,Instr.sliceBounds,run_pure,Instr.sliceBound,asIntOf,pure_bind,hr.h0,h1,and_self,if_true,g.size,Nat.zero_mul,map_add0,Nat.sub_zero,ite_self]⟩
instance {t e n len cap b off:Nat} {l:Int} {k:IntKind} [g:TySlice t e n] [hr:InR l (len + 1)]:Run (sl t (.slice (some ⟨b,off,none⟩) len cap) (some (.int k l)) none none) (.slice (some ⟨b,if cap = l.toNat then off else off + l.toNat * n,none⟩) (len - l.toNat) (cap - l.toNat)):=⟨fun w=>by
 have h1:l <= len:=by have:=hr.h1; omega
 simp only [sl,Instr.sliceAt,Sem.run_bind,g.und,Result.andThen_ok,Instr.slice,Instr.sliceBounds,run_pure,Instr.sliceBound,asIntOf,pure_bind,hr.h0,h1,and_self,if_true,g.size,Option.map_some,add_addr,Option.isSome_none,Bool.false_eq_true,if_false]
 split <;> rfl⟩
instance {t:Nat} {s:ByteArray} {l:Int} {k:IntKind} [g:TyStr t] [hr:InR l (s.size + 1)]:Run (sl t (.string s) (some (.int k l)) none none) (.string (s.extract l.toNat s.size)):=⟨fun w=>by
 have h1:l <= s.size:=by have:=hr.h1; omega
 simp only [sl,Instr.sliceAt,Sem.run_bind,g.und,Result.andThen_ok,Instr.slice,Instr.sliceBounds,run_pure,Instr.sliceBound,asIntOf,pure_bind,hr.h0,h1,and_self,if_true,Option.isSome_none,Bool.false_eq_true,if_false]⟩
theorem run_part1 {t:Nat} [g:TyOne t] {cs:Array Value} {off:Nat} {v:Value} (h:cs[off]? = some v) (w:World):(part t cs off).run Tryz.prog w = .ok v w:=by
 simp only [part,Sem.run_bind,g.agg,Result.andThen_ok,Bool.false_eq_true,if_false,h]
 rfl
theorem run_partN {t n:Nat} [g:TyAgg t n] [gs:TySize t n] {cs:Array Value} {off:Nat} (w:World):(part t cs off).run Tryz.prog w = .ok (.agg (cs.extract off (off + n))) w:=by
 simp only [part,Sem.run_bind,g.agg,gs.size,Result.andThen_ok,if_true]
 rfl
class At1 (l:List Value) (i:Int) (v:outParam Value):Prop where
 h0:0 <= i
 h:l[i.toNat]? = some v
instance {t n e:Nat} [g:TyArr t n e 1] [ge:TyOne e] {l:List Value} {i:Int} {k:IntKind} {v:Value} [hl:LenIs l n] [hv:At1 l i v]:Run (ix t (.agg l.toArray) (.int k i)) v:=⟨fun w=>by
 have h1:i < n:=by
  have h0:=hv.h0;have:=(List.getElem?_eq_some_iff.1 hv.h).1;rw [hl.h] at this; omega
 simp only [ix,Instr.index,asIntOf,pure_bind,Sem.run_bind,g.und,g.size,Result.andThen_ok,hv.h0,h1,and_self,if_true,Nat.mul_one];exact run_part1 (by simpa using hv.h) w⟩
class EqIn (d t:Nat) (v v':Value) (r:outParam Bool):Prop where
 h:∀ w,(Op.equalIn d t v v').run Tryz.prog w = .ok r w
instance {d t:Nat} {a b:Bool} [g:TyBool t]:EqIn (d + 1) t (.bool a) (.bool b) (a == b):=⟨fun w=>equalIn_bool d w⟩
instance {d t:Nat} {k kk:IntKind} {a b:Int} [g:TyInt t kk]:EqIn (d + 1) t (.int k a) (.int k b) (decide (a = b)):=⟨fun w=>by
 simp only [Op.equalIn,Sem.run_bind,g.und,Result.andThen_ok,if_true];rw [Bool.beq_eq_decide_eq]
 rfl⟩
instance {d t:Nat} {a b:ByteArray} [g:TyStr t]:EqIn (d + 1) t (.string a) (.string b) (decide (a = b)):=⟨fun w=>by
 simp only [Op.equalIn,Sem.run_bind,g.und,Result.andThen_ok];have h1:(a == b) = (a.data == b.data):=by cases a; cases b; rfl
 have:(a == b) = decide (a = b):=by
  rw [h1,Bool.eq_iff_iff];simp only [beq_iff_eq,decide_eq_true_eq];exact ⟨fun h=>by cases a; cases b; simp_all,fun h=>by rw [h]⟩
 rw [this]
 rfl⟩
noncomputable def fieldsOf (t:Nat):Array Field:=match Tryz.prog.underlying t with | some (.struct f)=>f | _=>#[]
class TyEqS (t:TypeId) (fs:outParam (List (Nat × Nat))):Prop where
 und:∃ fields:Array Field,(∀ w,(underlying t).run Tryz.prog w = .ok (.struct fields) w)/\fields.toList.map (fun f=>(f.type,f.offset)) = fs/\fields.toList.all (fun f=>f.name != "_") = true
 stood:Tryz.prog.stoodInHeld t = false
 guard:Tryz.prog.eqGuardType Tryz.prog.depth t = false
class Part (t:Nat) (l:List Value) (off:Nat) (v:outParam Value):Prop where
 h:∀ w,(part t l.toArray off).run Tryz.prog w = .ok v w
instance {t off:Nat} {l:List Value} {v:Value} [g:TyOne t] [gg:Get l off v]:Part t l off v:=⟨fun w=>run_part1 (by simpa using gg.h) w⟩
class EqFs (d:Nat) (fs:List (Nat × Nat)) (l l':List Value) (r:outParam Bool):Prop where
 h:∀ w,∀ fields:List Field,fields.map (fun f=>(f.type,f.offset)) = fs->fields.all (fun f=>f.name != "_") = true ->
  ∃ x:Option Bool,(forIn (m:=Sem) fields ((none,()):Option Bool × Unit) (fun (f:Field) (_:Option Bool × Unit)=>
   if f.name ≠ "_" then (part f.type l.toArray f.offset >>= fun u=>part f.type l'.toArray f.offset >>= fun u'=>Op.equalIn d f.type u u' >>= fun r=>if (!r) = true then pure (ForInStep.done (some false,())) else pure (ForInStep.yield (none,())))
   else pure (ForInStep.yield (none,())))).run Tryz.prog w = .ok (x,()) w/\r = (match x with | none=>true | some y=>y)
instance {d:Nat} {l l':List Value}:EqFs d [] l l' true:=⟨fun w fields h _=>by
 have:fields = []:=by simpa using h
 subst this;exact ⟨none,rfl,rfl⟩⟩
instance {d t off:Nat} {fs:List (Nat × Nat)} {l l':List Value} {v v':Value} {a r:Bool} [p:Part t l off v] [p':Part t l' off v'] [e:EqIn d t v v' a] [g:EqFs d fs l l' r]:EqFs d ((t,off) :: fs) l l' (a && r):=⟨fun w fields h hn=>by
 cases fields with
 | nil=>simp at h
 | cons f fields=>
  simp only [List.map_cons,List.cons.injEq,Prod.mk.injEq] at h;obtain ⟨⟨rfl,rfl⟩,h3⟩:=h;simp only [List.all_cons,Bool.and_eq_true,bne_iff_ne] at hn;obtain ⟨x,h4,h5⟩:=g.h w fields h3 hn.2;simp only [List.forIn_cons,Sem.run_bind,ne_eq,hn.1,not_false_eq_true,if_true,p.h,p'.h,e.h,Result.andThen_ok]
  cases a with
  | false=>exact ⟨some false,rfl,rfl⟩
  | true=>
   refine ⟨x,?_,by simpa using h5⟩;simp only [Bool.not_true,Bool.false_eq_true,if_false,run_pure,Result.andThen_ok];exact h4⟩
instance {d t:Nat} {l l':List Value} {fs:List (Nat × Nat)} {r:Bool} [g:TyEqS t fs] [e:EqFs d fs l l' r]:EqIn (d + 1) t (.agg l.toArray) (.agg l'.toArray) r:=⟨fun w=>by
 obtain ⟨fields,h1,h2,h3⟩:=g.und;obtain ⟨x,h4,h5⟩:=e.h w fields.toList h2 h3;simp only [Op.equalIn,Sem.run_bind,h1,Result.andThen_ok,program,Sem.run,g.stood,Bool.false_eq_true,if_false];rw [<- Array.forIn_toList];rw [h4,h5]
 cases x <;> rfl⟩
instance {t:Nat} {l l':List Value} {fs:List (Nat × Nat)} {r:Bool} {x y:Operand} [g:TyEqS t fs] [e:EqFs 9999 fs l l' r]:Run (eq .eql t x y (.agg l.toArray) (.agg l'.toArray)) (.bool r):=⟨fun w=>by
 have h:(Op.equalIn Op.maxDepth t (.agg l.toArray) (.agg l'.toArray)).run Tryz.prog w = .ok r w:=(inferInstance:EqIn (9999 + 1) t (.agg l.toArray) (.agg l'.toArray) r).h w;simp [eq,eqGuard,binOp,Op.equal,Sem.run_bind,h,program,Sem.run,g.guard]⟩
instance {t:Nat} {l l':List Value} {fs:List (Nat × Nat)} {r:Bool} {x y:Operand} [g:TyEqS t fs] [e:EqFs 9999 fs l l' r]:Run (eq .neq t x y (.agg l.toArray) (.agg l'.toArray)) (.bool (!r)):=⟨fun w=>by
 have h:(Op.equalIn Op.maxDepth t (.agg l.toArray) (.agg l'.toArray)).run Tryz.prog w = .ok r w:=(inferInstance:EqIn (9999 + 1) t (.agg l.toArray) (.agg l'.toArray) r).h w;simp [eq,eqGuard,binOp,Op.equal,Sem.run_bind,h,program,Sem.run,g.guard]⟩
theorem equalIn_nil (d:Nat) {t e n len cap:Nat} {a:Option Addr} [g:TySlice t e n] (w:World):(Op.equalIn (d + 1) t (.slice a len cap) (.slice none 0 0)).run Tryz.prog w = .ok a.isNone w:=by
 simp only [Op.equalIn,Sem.run_bind,g.und,Result.andThen_ok]
 cases a <;> rfl
theorem equal_nil {t e n len cap:Nat} {a:Option Addr} [g:TySlice t e n] (w:World):(Op.equalIn Op.maxDepth t (.slice a len cap) (.slice none 0 0)).run Tryz.prog w = .ok a.isNone w:=equalIn_nil 9999 w
instance {t e n len cap:Nat} {a:Option Addr} {x y:Operand} [g:TySlice t e n]:Run (eq .eql t x y (.slice a len cap) (.slice none 0 0)) (.bool a.isNone):=⟨fun w=>by
 simp [eq,eqGuard,binOp,Op.equal,Sem.run_bind,equal_nil,Sem.run]⟩
def mO (kd:IntKind) (l:List (Int × Value)):Obj:=.map (l.zipIdx.map fun p=>({ key:=.int kd p.1.1,val:=p.1.2,born:=p.2 }:MapEntry)).toArray l.length
theorem iV_mm [hS:Res w0 z0 B0 w z L] {t k e:Nat} {kd:IntKind} [g:TyMap t k e] [gk:TyInt k kd] (hk:∀ b w',w0.heap.size <= b->Res w0 z0 B0 w' z ((b,mO kd []) :: L)->K (.map (some b)) w'):V (mm t none) w K:=by
 refine ⟨_,_,?_,hk w.heap.size _ hS.size (hS.new (mO kd []))⟩;simp only [mm,Instr.makeMap,Sem.run_bind,newObj,Sem.run,Result.andThen_ok]
 rfl
theorem findNow_from (kd:IntKind) (k:Int) (d:TypeDesc) (hd:d = .int kd):∀ (l:List (Int × Value)) (j i:Nat),Instr.findNow d (.int kd k) ((l.zipIdx j).map fun p=>({ key:=.int kd p.1.1,val:=p.1.2,born:=p.2 }:MapEntry)) i = some ((l.findIdx? (·.1 == k)).bind fun m=>(l[m]?).map fun p=>(i + m,p.2)):=by
 subst hd;intro l
 induction l with
 | nil=>intro j i; rfl
 | cons p l ih=>
  intro j i;simp only [List.zipIdx_cons,List.map_cons,Instr.findNow,Instr.sameNow,if_true];rw [List.findIdx?_cons]
  by_cases h:k = p.1
  ·subst h; simp
  ·have h1:(k == p.1) = false:=by simpa using h
   have h2:(p.1 == k) = false:=by simpa using fun e=>h e.symm
   simp only [h1,h2,Bool.false_eq_true,if_false,ih (j + 1) (i + 1)]
   cases l.findIdx? (·.1 == k) with
   | none=>rfl
   | some m=>simp [Nat.add_comm,Nat.add_left_comm,Nat.add_assoc]
theorem findKey_run {k:Nat} {kd:IntKind} [gk:TyInt k kd] (n:Int) (l:List (Int × Value)) (w:World) :
  (Instr.findKey k (.int kd n) (l.zipIdx.map fun p=>({ key:=.int kd p.1.1,val:=p.1.2,born:=p.2 }:MapEntry))).run Tryz.prog w = .ok ((l.findIdx? (·.1 == n)).bind fun m=>(l[m]?).map fun p=>(m,p.2)) w:=by
 simp only [Instr.findKey,Sem.run_bind,gk.und,Result.andThen_ok,findNow_from kd n _ rfl,Nat.zero_add]
 rfl
theorem checkKey_from (d:Nat) {k:Nat} {kd:IntKind} [gk:TyInt k kd] (e:Bool) (n:Int) (w:World):(Instr.checkKey e (d + 1) k (.int kd n)).run Tryz.prog w = .ok () w:=by
 simp only [Instr.checkKey,Sem.run_bind,gk.und,Result.andThen_ok]
 rfl
theorem checkKey_run {k:Nat} {kd:IntKind} [gk:TyInt k kd] (e:Bool) (n:Int) (w:World):(Instr.checkKey e 10000 k (.int kd n)).run Tryz.prog w = .ok () w:=checkKey_from 9999 e n w
theorem iU_mu {K:World->Prop} [hS:Res w0 z0 B0 w z L] {t k e:Nat} {kd:IntKind} [g:TyMap t k e] [gk:TyInt k kd] {n:Int} {v:Value} {l:List (Int × Value)} [gb:Blk L b (mO kd l) C] (hne:∀ p ∈ l,p.1 ≠ n)
  (hk:∀ w',Res w0 z0 B0 w' z (C (mO kd (l ++ [(n,v)])))->K w'):U (mu t (.map (some b)) (.int kd n) v) w K:=by
 refine ⟨_,?_,hk _ (Res.set (g:=gb) hS (mO kd (l ++ [(n,v)])) rfl)⟩;have hat:=Res.at_ (g:=gb) hS;have hno:l.findIdx? (·.1 == n) = none:=by
  rw [List.findIdx?_eq_none_iff]; intro p hp; simpa using hne p hp
 simp only [mu,Instr.mapUpdate,Sem.run_bind,g.und,Result.andThen_ok];rw [getObj_run hat (by intros; simp [mO])];simp only [mO,Result.andThen_ok,Sem.run_bind,checkKey_run,findKey_run,hno,Option.bind_none];rw [setObj_run hat (by intros; simp [mO])];simp [List.zipIdx_append]
def lkF (l:List (Int × Value)) (n:Int) (z:Value):Value × Bool:=match l.find? (·.1 == n) with | some p=>(p.2,true) | none=>(z,false)
theorem find_idx (l:List (Int × Value)) (n:Int):((l.findIdx? (·.1 == n)).bind fun m=>(l[m]?).map fun p=>(m,p.2)).map (·.2) = (l.find? (·.1 == n)).map (·.2):=by
 induction l with
 | nil=>rfl
 | cons p l ih=>
  rw [List.findIdx?_cons,List.find?_cons]
  cases h:p.1 == n with
  | true=>simp
  | false=>
   simp only [Bool.false_eq_true,if_false];rw [<- ih]
   cases l.findIdx? (·.1 == n) <;> simp [Function.comp_def]
theorem run_lk [hS:Res w0 z0 B0 w z L] {t k e:Nat} {kd:IntKind} [g:TyMap t k e] [gk:TyInt k kd] {n:Int} {zv:Value} {l:List (Int × Value)} [gb:Blk L b (mO kd l) C] (hz:∀ w,(zeroValue e).run Tryz.prog w = .ok zv w) (c:Bool) :
  (lk t (.map (some b)) (.int kd n) c).run Tryz.prog w = .ok (if c then .tuple #[(lkF l n zv).1,.bool (lkF l n zv).2] else (lkF l n zv).1) w:=by
 have hat:=Res.at_ (g:=gb) hS;simp only [lk,Instr.lookup,Sem.run_bind,g.und,Result.andThen_ok];rw [getObj_run hat (by intros; simp [mO])];simp only [mO,Result.andThen_ok,Sem.run_bind,checkKey_run,findKey_run,run_pure];have:=find_idx l n
 cases h:((l.findIdx? (·.1 == n)).bind fun m=>(l[m]?).map fun p=>(m,p.2)) with
 | none=>
  rw [h] at this;simp only [Option.map_none] at this;have h2:l.find? (·.1 == n) = none:=by cases hh:l.find? (·.1 == n) <;> simp_all
  simp only [lkF,h2,Sem.run_bind,hz,Result.andThen_ok,run_pure]
 | some q=>
  rw [h] at this;simp only [Option.map_some] at this;obtain ⟨p,h2,h3⟩:=Option.map_eq_some_iff.1 this.symm;simp only [lkF,h2,h3,Sem.run_bind,run_pure,Result.andThen_ok]
theorem iV_ms [hS:Res w0 z0 B0 w z L] {t e size n bytes:Nat} {k k':IntKind} {zs:List Value} [g:TyApp t e size bytes] [gs:TySlice t e size] [gz:TyZero e zs] [gl:LenIs zs size] (hn:n * bytes <= 1048576) (hn2:n <= 1048576)
  (hk:∀ b w',w0.heap.size <= b->Res w0 z0 B0 w' z ((b,.cells ((List.range (n * size)).map fun i=>zs[i % zs.length]!).toArray e (0,0)) :: L)->K (.slice (some ⟨b,0,none⟩) n n) w'):V (ms t (.int k n) (.int k' n)) w K:=by
 obtain ⟨zv,hinfo,hzs⟩:=g.info;obtain ⟨i,hi,hz⟩:=Option.map_eq_some_iff.1 hinfo;simp only [Prod.mk.injEq] at hz;obtain ⟨hz0,hz1,hz2⟩:=hz;obtain ⟨zv',hc,hr⟩:=gz.h;have hwr:IntKind.i64.wrap n = n:=wrap_in ⟨by omega,by omega⟩;refine ⟨_,_,?_,hk w.heap.size _ hS.size (hS.new (.cells ((List.range (n * size)).map fun i=>zs[i % zs.length]!).toArray e (0,0)))⟩;have hty:(typeInfo e).run Tryz.prog w = .ok i w:=by
  simp [typeInfo,Sem.run_bind,program,Sem.run,hi]
 have hsm:¬ ((bytes:Int) * n > 2 ^ 48):=by
  have:((n * bytes:Nat):Int) <= 1048576:=by omega
  rw [Int.natCast_mul,Int.mul_comm] at this;omega
 have hask:¬ (n * bytes > roomBytes):=by simp only [roomBytes]; omega
 simp only [ms,Instr.makeSlice,Sem.run_bind,gs.und,gs.size,Result.andThen_ok,asInt,asIntOf,pure_bind,run_pure,hty,hz2,hwr];have h0:¬ ((n:Int) < 0):=by omega
 simp only [h0,decide_false,Bool.false_or,Int.lt_irrefl,gt_iff_lt,hsm,decide_eq_true_eq,or_self,if_false,Bool.false_eq_true,askRoom,Int.toNat_natCast,Sem.run_bind];simp only [gt_iff_lt] at hask;simp only [hask,if_false,run_pure,Result.andThen_ok,gs.size]
 by_cases hz:n * size = 0
 ·have e1:(Array.map (fun x=>(#[]:Array Value)[x % (#[]:Array Value).size]!) (Array.range 0)) = ((List.range 0).map fun i=>zs[i % zs.length]!).toArray:=by
   apply Array.toList_inj.1
   simp
  simp only [hz,if_true,newRow,newObj,Sem.run_bind];rw [e1]
  rfl
 ·simp only [hz,if_false,newRow,newObj,Sem.run_bind,hr,Result.andThen_ok,hc]
  have:(Array.map (fun x=>zs.toArray[x % zs.toArray.size]!) (Array.range (n * size))) = ((List.range (n * size)).map fun i=>zs[i % zs.length]!).toArray:=by
   apply Array.toList_inj.1
   simp
  rw [this]
  rfl
end
end
section
open Go Q Go.RowKit
class PC (F:(List Value->World->Prop)->Prop) (w0:outParam World) (z0:outParam Z) (B0:outParam Bl) (z:outParam Z) (L:outParam Bl) (x:outParam Bool):Prop where
 h:∀ K:List Value->World->Prop,(∀ z' w',Le z z'->Res w0 z0 B0 w' z' L->K [.bool x] w')->F K
structure Later (w0:World) (z0:Z) (B0:Bl) (z:Z) (L:Bl) where
 z':Z
 w:World
 le:Le z z'
 res:Res w0 z0 B0 w z' L
instance {w0:World} {z0 z:Z} {B0 L:Bl} {q:Later w0 z0 B0 z L}:Res w0 z0 B0 q.w q.z' L:=q.res
section
variable {w0 w w':World} {z0 z z':Z} {B0 B B' L F:Bl} {b:Nat} {o:Obj} {C:Obj->Bl} {x y:Bool}
instance PC.lit [hS:Res w0 z0 B0 w z L]:PC (fun K=>K [.bool x] w) w0 z0 B0 z L x:=⟨fun _ h=>h _ _ (Le.refl _) hS⟩
instance PC.val {s:Sem Value} {v:Value} {G:(List Value->World->Prop)->Value->World->Prop} [g:Run s v] [h:PC (fun K=>G K v w) w0 z0 B0 z L x]:PC (fun K=>V s w (G K)) w0 z0 B0 z L x:=
 ⟨fun K hK=>V_run (h.h K hK)⟩
instance PC.ld1 {t off:Nat} {v:Value} {l:List Value} {ty:TypeId} {fr:Nat × Nat} {G:(List Value->World->Prop)->Value->World->Prop} [hS:Res w0 z0 B0 w z L] [g:TyOne t] [Blk L b (.cells l.toArray ty fr) C] [Get l off v] [h:PC (fun K=>G K v w) w0 z0 B0 z L x] :
  PC (fun K=>V (ld t (.pointer (some ⟨b,off,none⟩))) w (G K)) w0 z0 B0 z L x:=⟨fun K hK=>V_ldL1 hS (h.h K hK)⟩
instance PC.ldN {t n off:Nat} {vs:List Value} {l:List Value} {ty:TypeId} {fr:Nat × Nat} {G:(List Value->World->Prop)->Value->World->Prop} [hS:Res w0 z0 B0 w z L] [g:TyAgg t n] [gs:TySize t n] [Blk L b (.cells l.toArray ty fr) C] [gn:GetN l off n vs] [h:PC (fun K=>G K (.agg vs.toArray) w) w0 z0 B0 z L x] :
  PC (fun K=>V (ld t (.pointer (some ⟨b,off,none⟩))) w (G K)) w0 z0 B0 z L x:=⟨fun K hK=>V_ldLN hS (h.h K hK)⟩
instance PC.call {f:FuncId} {args:Array Value} {v:Value} {G:(List Value->World->Prop)->Value->World->Prop} [hS:Res w0 z0 B0 w z L] [Enters f] [g:Pu f args v] [h:∀ q:Later w0 z0 B0 z L,PC (fun K=>G K v q.w) w0 z0 B0 q.z' L x] :
  PC (fun K=>CV (.func (.func f) #[] #[]) args w (G K)) w0 z0 B0 z L x:=⟨fun K hK=>CV_pu fun z' w' hz hS'=>(h ⟨z',w',hz,hS'⟩).h K fun z'' w'' hz' hS''=>hK z'' w'' (hz.trans hz') hS''⟩
class LkV (l:List (Int × Value)) (n:Int) (zv:Value) (v:outParam Value):Prop where
 h:(lkF l n zv).1 = v
class ZeroV (e:TypeId) (zv:outParam Value):Prop where
 h:∀ w,(zeroValue e).run Tryz.prog w = .ok zv w
theorem iV_lkv {K:Value->World->Prop} [hS:Res w0 z0 B0 w z L] {t k e:Nat} {kd:IntKind} {zv v:Value} [g:TyMap t k e] [gk:TyInt k kd] [gz:ZeroV e zv] {n:Int} {l:List (Int × Value)} [gb:Blk L b (mO kd l) C] [gv:LkV l n zv v]
  (hk:K v w):V (lk t (.map (some b)) (.int kd n) false) w K:=⟨_,w,run_lk (gb:=gb) gz.h false,by rw [<- gv.h] at hk; exact hk⟩
instance PC.lk {t k e:Nat} {kd:IntKind} {zv v:Value} {G:(List Value->World->Prop)->Value->World->Prop} [hS:Res w0 z0 B0 w z L] [g:TyMap t k e] [gk:TyInt k kd] [gz:ZeroV e zv] {n:Int} {l:List (Int × Value)} [gb:Blk L b (mO kd l) C] [gv:LkV l n zv v] [h:PC (fun K=>G K v w) w0 z0 B0 z L x] :
  PC (fun K=>V (Go.Proofs.YtbeelfopmkbllaaGreatDoor.lk t (.map (some b)) (.int kd n) false) w (G K)) w0 z0 B0 z L x:=⟨fun K hK=>iV_lkv (C:=C) (h.h K hK)⟩
instance PC.cond {A A':(List Value->World->Prop)->Prop} {c:Bool} [h1:PC A w0 z0 B0 z L x] [h2:PC A' w0 z0 B0 z L y]:PC (fun K=>CondW (.bool c) (A K) (A' K)) w0 z0 B0 z L (bif c then x else y):=
 ⟨fun K hK=>⟨c,rfl,fun hb=>h1.h K (by subst hb; exact hK),fun hb=>h2.h K (by subst hb; exact hK)⟩⟩
instance PC.join {H:(List Value->World->Prop)->Value->World->Prop} {body:(List Value->World->Prop)->(List Value->World->Prop)->Prop} [h1:∀ K,PC (body K) w0 z0 B0 z L x] [h2:∀ q:Later w0 z0 B0 z L,PC (fun K=>H K (.bool x) q.w) w0 z0 B0 q.z' L y] :
  PC (fun K=>∀ K1:List Value->World->Prop,(∀ t w,(∀ _:Env,H K t w)->K1 [t] w)->body K K1) w0 z0 B0 z L y:=
 ⟨fun K hK K1 hK1=>(h1 K).h K1 fun z' w' hz hS=>hK1 _ _ fun _=>(h2 ⟨z',w',hz,hS⟩).h K fun z'' w'' hz' hS'=>hK z'' w'' (hz.trans hz') hS'⟩
theorem JC {rest:Value->World->Prop} {body:(List Value->World->Prop)->Prop} [g:PC body w0 z0 B0 z L x] (h:∀ z' w',Le z z'->Res w0 z0 B0 w' z' L->rest (.bool x) w'):∀ K:List Value->World->Prop,(∀ t w,(∀ _:Env,rest t w)->K [t] w)->body K:=
 fun K hK=>g.h K fun z' w' hz hS=>hK _ _ fun _=>h z' w' hz hS
class Fz (z:Z) (b off:Nat) (vs:outParam (List Value)):Prop where
 h:At z b off vs
theorem fV_ld1 {K:Value->World->Prop} [hS:Res w0 z0 B0 w z L] {t:TypeId} [g:TyOne t] {off:Nat} {v:Value} [h:Fz z0 b off [v]] (hk:K v w):V (ld t (.pointer (some ⟨b,off,none⟩))) w K:=zV_ld1 (h.h.mono hS.zle) hk
theorem fV_ldN {K:Value->World->Prop} [hS:Res w0 z0 B0 w z L] {t n:Nat} [g:TyAgg t n] [gs:TySize t n] {off:Nat} {vs:List Value} [h:Fz z0 b off vs] [hl:LenIs vs n] (hk:K (.agg vs.toArray) w):V (ld t (.pointer (some ⟨b,off,none⟩))) w K:=zV_ldN (h.h.mono hS.zle) hl.h hk
theorem fHV_ld1 {K:Value->Prop} [hS:Res w0 z0 B0 w z L] {t:TypeId} [g:TyOne t] {off:Nat} {v:Value} [h:Fz z0 b off [v]] (hk:K v):HV (ld t (.pointer (some ⟨b,off,none⟩))) w K:=zHV_ld1 (h.h.mono hS.zle) hk
theorem fHV_ldN {K:Value->Prop} [hS:Res w0 z0 B0 w z L] {t n:Nat} [g:TyAgg t n] [gs:TySize t n] {off:Nat} {vs:List Value} [h:Fz z0 b off vs] [hl:LenIs vs n] (hk:K (.agg vs.toArray)):HV (ld t (.pointer (some ⟨b,off,none⟩))) w K:=zHV_ldN (h.h.mono hS.zle) hl.h hk
end
end
section
open Go Q
instance:TyOne 3:=⟨fun _=>by kernel_rfl⟩
instance:TySize 3 1:=⟨fun _=>by kernel_rfl⟩
instance:ZeroV 3 (.int .i64 0):=⟨fun _=>by kernel_rfl⟩
instance:TyZero 3 [(.int .i64 0)]:=⟨(.int .i64 0),rfl,fun _=>by kernel_rfl⟩
instance:TyInt 3 .i64:=⟨fun _=>by kernel_rfl⟩
instance:TyOne 4:=⟨fun _=>by kernel_rfl⟩
instance:TySize 4 1:=⟨fun _=>by kernel_rfl⟩
instance:ZeroV 4 (.bool false):=⟨fun _=>by kernel_rfl⟩
instance:TyZero 4 [(.bool false)]:=⟨(.bool false),rfl,fun _=>by kernel_rfl⟩
instance:TyBool 4:=⟨fun _=>by kernel_rfl⟩
instance:TyOne 5:=⟨fun _=>by kernel_rfl⟩
instance:TyInt 5 .u8:=⟨fun _=>by kernel_rfl⟩
instance:TyOne 9:=⟨fun _=>by kernel_rfl⟩
instance:TySize 9 1:=⟨fun _=>by kernel_rfl⟩
instance:TyStr 9:=⟨fun _=>by kernel_rfl⟩
instance:TyOne 22:=⟨fun _=>by kernel_rfl⟩
instance:TySize 22 1:=⟨fun _=>by kernel_rfl⟩
instance:TySlice 22 9 1:=⟨fun _=>by kernel_rfl,fun _=>by kernel_rfl⟩
instance:TyFill 9 1:=⟨(.string ⟨#[]⟩),rfl,fun _=>by kernel_rfl⟩
instance:TyApp 22 9 1 16:=⟨by kernel_rfl,⟨(.string ⟨#[]⟩),by kernel_rfl,rfl⟩,by decide⟩
instance:TyOne 23:=⟨fun _=>by kernel_rfl⟩
instance:TySize 23 1:=⟨fun _=>by kernel_rfl⟩
instance:TySlice 23 93 1:=⟨fun _=>by kernel_rfl,fun _=>by kernel_rfl⟩
instance:TyFill 93 1:=⟨(.slice none 0 0),rfl,fun _=>by kernel_rfl⟩
instance:TyApp 23 93 1 24:=⟨by kernel_rfl,⟨(.slice none 0 0),by kernel_rfl,rfl⟩,by decide⟩
instance:TyOne 24:=⟨fun _=>by kernel_rfl⟩
instance:TySize 24 1:=⟨fun _=>by kernel_rfl⟩
instance:TySlice 24 96 1:=⟨fun _=>by kernel_rfl,fun _=>by kernel_rfl⟩
instance:TyFill 96 1:=⟨(.slice none 0 0),rfl,fun _=>by kernel_rfl⟩
instance:TyApp 24 96 1 24:=⟨by kernel_rfl,⟨(.slice none 0 0),by kernel_rfl,rfl⟩,by decide⟩
instance:TyOne 25:=⟨fun _=>by kernel_rfl⟩
instance:TySize 25 1:=⟨fun _=>by kernel_rfl⟩
instance:TySlice 25 54 2:=⟨fun _=>by kernel_rfl,fun _=>by kernel_rfl⟩
instance:TyFill 54 2:=⟨(.agg #[(.string ⟨#[]⟩),(.int .i64 0)]),rfl,fun _=>by kernel_rfl⟩
instance:TyApp 25 54 2 24:=⟨by kernel_rfl,⟨(.agg #[(.string ⟨#[]⟩),(.int .i64 0)]),by kernel_rfl,rfl⟩,by decide⟩
instance:TyOne 26:=⟨fun _=>by kernel_rfl⟩
instance:TySize 26 1:=⟨fun _=>by kernel_rfl⟩
instance:TySlice 26 38 4:=⟨fun _=>by kernel_rfl,fun _=>by kernel_rfl⟩
instance:TyFill 38 4:=⟨(.agg #[(.int .i64 0),(.int .i64 0),(.int .i64 0),(.int .i64 0)]),rfl,fun _=>by kernel_rfl⟩
instance:TyApp 26 38 4 32:=⟨by kernel_rfl,⟨(.agg #[(.int .i64 0),(.int .i64 0),(.int .i64 0),(.int .i64 0)]),by kernel_rfl,rfl⟩,by decide⟩
instance:TyAgg 28 6:=⟨fun _=>by kernel_rfl⟩
instance:TySize 28 6:=⟨fun _=>by kernel_rfl⟩
instance:TyZero 28 [(.slice none 0 0),(.slice none 0 0),(.slice none 0 0),(.slice none 0 0),(.slice none 0 0),(.slice none 0 0)]:=⟨(.agg #[(.slice none 0 0),(.slice none 0 0),(.slice none 0 0),(.slice none 0 0),(.slice none 0 0),(.slice none 0 0)]),rfl,fun _=>by kernel_rfl⟩
instance:Fld 28 0 0:=⟨fun _ _=>by kernel_rfl⟩
instance:Fld 28 1 1:=⟨fun _ _=>by kernel_rfl⟩
instance:Fld 28 2 2:=⟨fun _ _=>by kernel_rfl⟩
instance:Fld 28 3 3:=⟨fun _ _=>by kernel_rfl⟩
instance:Fld 28 4 4:=⟨fun _ _=>by kernel_rfl⟩
instance:Fld 28 5 5:=⟨fun _ _=>by kernel_rfl⟩
instance:TyStruct 28 [(.slice none 0 0),(.slice none 0 0),(.slice none 0 0),(.slice none 0 0),(.slice none 0 0),(.slice none 0 0)] [(0,1),(1,1),(2,1),(3,1),(4,1),(5,1)]:=⟨fun _ _=>by kernel_rfl⟩
instance:TyOne 31:=⟨fun _=>by kernel_rfl⟩
instance:TySize 31 1:=⟨fun _=>by kernel_rfl⟩
instance:TyZero 31 [(.int .i64 0)]:=⟨(.int .i64 0),rfl,fun _=>by kernel_rfl⟩
instance:TyAgg 38 4:=⟨fun _=>by kernel_rfl⟩
instance:TySize 38 4:=⟨fun _=>by kernel_rfl⟩
instance:TyZero 38 [(.int .i64 0),(.int .i64 0),(.int .i64 0),(.int .i64 0)]:=⟨(.agg #[(.int .i64 0),(.int .i64 0),(.int .i64 0),(.int .i64 0)]),rfl,fun _=>by kernel_rfl⟩
instance:Fld 38 0 0:=⟨fun _ _=>by kernel_rfl⟩
instance:Fld 38 1 1:=⟨fun _ _=>by kernel_rfl⟩
instance:Fld 38 2 2:=⟨fun _ _=>by kernel_rfl⟩
instance:Fld 38 3 3:=⟨fun _ _=>by kernel_rfl⟩
instance:TyStruct 38 [(.int .i64 0),(.int .i64 0),(.int .i64 0),(.int .i64 0)] [(0,1),(1,1),(2,1),(3,1)]:=⟨fun _ _=>by kernel_rfl⟩
instance:TyEqS 38 [(3,0),(3,1),(3,2),(3,3)]:=⟨⟨fieldsOf 38,fun _=>by kernel_rfl,by kernel_rfl,by kernel_rfl⟩,by kernel_rfl,by kernel_rfl⟩
instance:TyOne 45:=⟨fun _=>by kernel_rfl⟩
instance:TySize 45 1:=⟨fun _=>by kernel_rfl⟩
instance:TyZero 45 [(.slice none 0 0)]:=⟨(.slice none 0 0),rfl,fun _=>by kernel_rfl⟩
instance:TySlice 45 3 1:=⟨fun _=>by kernel_rfl,fun _=>by kernel_rfl⟩
instance:TyFill 3 1:=⟨(.int .i64 0),rfl,fun _=>by kernel_rfl⟩
instance:TyApp 45 3 1 8:=⟨by kernel_rfl,⟨(.int .i64 0),by kernel_rfl,rfl⟩,by decide⟩
instance:TySlice 49 4 1:=⟨fun _=>by kernel_rfl,fun _=>by kernel_rfl⟩
instance:TyApp 49 4 1 1:=⟨by kernel_rfl,⟨(.bool false),by kernel_rfl,rfl⟩,by decide⟩
instance:TyAgg 54 2:=⟨fun _=>by kernel_rfl⟩
instance:TySize 54 2:=⟨fun _=>by kernel_rfl⟩
instance:TyZero 54 [(.string ⟨#[]⟩),(.int .i64 0)]:=⟨(.agg #[(.string ⟨#[]⟩),(.int .i64 0)]),rfl,fun _=>by kernel_rfl⟩
instance:Fld 54 0 0:=⟨fun _ _=>by kernel_rfl⟩
instance:Fld 54 1 1:=⟨fun _ _=>by kernel_rfl⟩
instance:TyStruct 54 [(.string ⟨#[]⟩),(.int .i64 0)] [(0,1),(1,1)]:=⟨fun _ _=>by kernel_rfl⟩
instance:TyEqS 54 [(9,0),(3,1)]:=⟨⟨fieldsOf 54,fun _=>by kernel_rfl,by kernel_rfl,by kernel_rfl⟩,by kernel_rfl,by kernel_rfl⟩
instance:TyOne 55:=⟨fun _=>by kernel_rfl⟩
instance:TySize 55 1:=⟨fun _=>by kernel_rfl⟩
instance:TySlice 55 5 1:=⟨fun _=>by kernel_rfl,fun _=>by kernel_rfl⟩
instance:TyFill 5 1:=⟨(.int .u8 0),rfl,fun _=>by kernel_rfl⟩
instance:TyApp 55 5 1 1:=⟨by kernel_rfl,⟨(.int .u8 0),by kernel_rfl,rfl⟩,by decide⟩
instance:TyOne 93:=⟨fun _=>by kernel_rfl⟩
instance:TySize 93 1:=⟨fun _=>by kernel_rfl⟩
instance:TySlice 93 95 3:=⟨fun _=>by kernel_rfl,fun _=>by kernel_rfl⟩
instance:TyFill 95 3:=⟨(.agg #[(.int .i64 0),(.string ⟨#[]⟩),(.int .i64 0)]),rfl,fun _=>by kernel_rfl⟩
instance:TyApp 93 95 3 32:=⟨by kernel_rfl,⟨(.agg #[(.int .i64 0),(.string ⟨#[]⟩),(.int .i64 0)]),by kernel_rfl,rfl⟩,by decide⟩
instance:TyAgg 95 3:=⟨fun _=>by kernel_rfl⟩
instance:TySize 95 3:=⟨fun _=>by kernel_rfl⟩
instance:TyZero 95 [(.int .i64 0),(.string ⟨#[]⟩),(.int .i64 0)]:=⟨(.agg #[(.int .i64 0),(.string ⟨#[]⟩),(.int .i64 0)]),rfl,fun _=>by kernel_rfl⟩
instance:Fld 95 0 0:=⟨fun _ _=>by kernel_rfl⟩
instance:Fld 95 1 1:=⟨fun _ _=>by kernel_rfl⟩
instance:Fld 95 2 2:=⟨fun _ _=>by kernel_rfl⟩
instance:TyStruct 95 [(.int .i64 0),(.string ⟨#[]⟩),(.int .i64 0)] [(0,1),(1,1),(2,1)]:=⟨fun _ _=>by kernel_rfl⟩
instance:TyEqS 95 [(3,0),(9,1),(3,2)]:=⟨⟨fieldsOf 95,fun _=>by kernel_rfl,by kernel_rfl,by kernel_rfl⟩,by kernel_rfl,by kernel_rfl⟩
instance:TyOne 96:=⟨fun _=>by kernel_rfl⟩
instance:TySize 96 1:=⟨fun _=>by kernel_rfl⟩
instance:TySlice 96 98 2:=⟨fun _=>by kernel_rfl,fun _=>by kernel_rfl⟩
instance:TyFill 98 2:=⟨(.agg #[(.string ⟨#[]⟩),(.bool false)]),rfl,fun _=>by kernel_rfl⟩
instance:TyApp 96 98 2 24:=⟨by kernel_rfl,⟨(.agg #[(.string ⟨#[]⟩),(.bool false)]),by kernel_rfl,rfl⟩,by decide⟩
instance:TyAgg 98 2:=⟨fun _=>by kernel_rfl⟩
instance:TySize 98 2:=⟨fun _=>by kernel_rfl⟩
instance:TyZero 98 [(.string ⟨#[]⟩),(.bool false)]:=⟨(.agg #[(.string ⟨#[]⟩),(.bool false)]),rfl,fun _=>by kernel_rfl⟩
instance:Fld 98 0 0:=⟨fun _ _=>by kernel_rfl⟩
instance:Fld 98 1 1:=⟨fun _ _=>by kernel_rfl⟩
instance:TyStruct 98 [(.string ⟨#[]⟩),(.bool false)] [(0,1),(1,1)]:=⟨fun _ _=>by kernel_rfl⟩
instance:TyEqS 98 [(9,0),(4,1)]:=⟨⟨fieldsOf 98,fun _=>by kernel_rfl,by kernel_rfl,by kernel_rfl⟩,by kernel_rfl,by kernel_rfl⟩
instance:TyZero 100 [(.int .i64 0),(.int .i64 0),(.int .i64 0)]:=⟨(.agg #[(.int .i64 0),(.int .i64 0),(.int .i64 0)]),rfl,fun _=>by kernel_rfl⟩
instance:TyArr 100 3 3 1:=⟨fun _=>by kernel_rfl,fun _=>by kernel_rfl⟩
instance:TyAgg 102 8:=⟨fun _=>by kernel_rfl⟩
instance:TySize 102 8:=⟨fun _=>by kernel_rfl⟩
instance:TyZero 102 [(.string ⟨#[]⟩),(.int .i64 0),(.int .i64 0),(.int .i64 0),(.int .i64 0),(.int .i64 0),(.int .i64 0),(.bool false)]:=⟨(.agg #[(.string ⟨#[]⟩),(.int .i64 0),(.int .i64 0),(.int .i64 0),(.int .i64 0),(.int .i64 0),(.int .i64 0),(.bool false)]),rfl,fun _=>by kernel_rfl⟩
instance:Fld 102 0 0:=⟨fun _ _=>by kernel_rfl⟩
instance:Fld 102 1 1:=⟨fun _ _=>by kernel_rfl⟩
instance:Fld 102 2 4:=⟨fun _ _=>by kernel_rfl⟩
instance:Fld 102 3 5:=⟨fun _ _=>by kernel_rfl⟩
instance:Fld 102 4 6:=⟨fun _ _=>by kernel_rfl⟩
instance:Fld 102 5 7:=⟨fun _ _=>by kernel_rfl⟩
instance:TyStruct 102 [(.string ⟨#[]⟩),(.int .i64 0),(.int .i64 0),(.int .i64 0),(.int .i64 0),(.int .i64 0),(.int .i64 0),(.bool false)] [(0,1),(1,3),(4,1),(5,1),(6,1),(7,1)]:=⟨fun _ _=>by kernel_rfl⟩
instance:TyOne 115:=⟨fun _=>by kernel_rfl⟩
instance:TyMap 115 3 4:=⟨fun _=>by kernel_rfl⟩
instance:TyAgg 117 3:=⟨fun _=>by kernel_rfl⟩
instance:TySize 117 3:=⟨fun _=>by kernel_rfl⟩
instance:TyZero 117 [(.map none),(.map none),(.map none)]:=⟨(.agg #[(.map none),(.map none),(.map none)]),rfl,fun _=>by kernel_rfl⟩
instance:Fld 117 0 0:=⟨fun _ _=>by kernel_rfl⟩
instance:Fld 117 1 1:=⟨fun _ _=>by kernel_rfl⟩
instance:Fld 117 2 2:=⟨fun _ _=>by kernel_rfl⟩
instance:TyStruct 117 [(.map none),(.map none),(.map none)] [(0,1),(1,1),(2,1)]:=⟨fun _ _=>by kernel_rfl⟩
instance:TyOne 121:=⟨fun _=>by kernel_rfl⟩
instance:TyOne 122:=⟨fun _=>by kernel_rfl⟩
instance:TyOne 124:=⟨fun _=>by kernel_rfl⟩
instance:TySize 124 1:=⟨fun _=>by kernel_rfl⟩
instance:TyZero 124 [(.map none)]:=⟨(.map none),rfl,fun _=>by kernel_rfl⟩
instance:TyMap 124 3 3:=⟨fun _=>by kernel_rfl⟩
instance:TyOne 131:=⟨fun _=>by kernel_rfl⟩
instance:TySize 131 1:=⟨fun _=>by kernel_rfl⟩
instance:TyZero 131 [.nilFunc]:=⟨.nilFunc,rfl,fun _=>by kernel_rfl⟩
instance:TyOne 144:=⟨fun _=>by kernel_rfl⟩
instance:TyOne 154:=⟨fun _=>by kernel_rfl⟩
instance:TySize 154 1:=⟨fun _=>by kernel_rfl⟩
instance:TyZero 154 [(.pointer none)]:=⟨(.pointer none),rfl,fun _=>by kernel_rfl⟩
instance:Fld 156 0 0:=⟨fun _ _=>by kernel_rfl⟩
instance:TyStruct 156 [(.slice none 0 0)] [(0,1)]:=⟨fun _ _=>by kernel_rfl⟩
instance:TySize 173 1:=⟨fun _=>by kernel_rfl⟩
instance:TyZero 173 [(.int .i64 0)]:=⟨(.agg #[(.int .i64 0)]),rfl,fun _=>by kernel_rfl⟩
instance:Fld 173 0 0:=⟨fun _ _=>by kernel_rfl⟩
instance:TyStruct 173 [(.int .i64 0)] [(0,1)]:=⟨fun _ _=>by kernel_rfl⟩
instance:TyOne 175:=⟨fun _=>by kernel_rfl⟩
instance:TySize 175 1:=⟨fun _=>by kernel_rfl⟩
instance:TyZero 175 [(.pointer none)]:=⟨(.pointer none),rfl,fun _=>by kernel_rfl⟩
instance:Fld 177 0 0:=⟨fun _ _=>by kernel_rfl⟩
instance:Fld 177 1 1:=⟨fun _ _=>by kernel_rfl⟩
instance:TyStruct 177 [(.slice none 0 0),(.int .i64 0)] [(0,1),(1,1)]:=⟨fun _ _=>by kernel_rfl⟩
instance:TyOne 197:=⟨fun _=>by kernel_rfl⟩
instance:TySize 197 1:=⟨fun _=>by kernel_rfl⟩
instance:TyZero 199 [(.pointer none),(.slice none 0 0)]:=⟨(.agg #[(.pointer none),(.slice none 0 0)]),rfl,fun _=>by kernel_rfl⟩
instance:Fld 199 0 0:=⟨fun _ _=>by kernel_rfl⟩
instance:Fld 199 1 1:=⟨fun _ _=>by kernel_rfl⟩
instance:TyZero 212 [(.slice none 0 0),(.slice none 0 0),(.slice none 0 0),(.slice none 0 0),(.slice none 0 0),(.slice none 0 0),(.int .i64 0)]:=⟨(.agg #[(.slice none 0 0),(.slice none 0 0),(.slice none 0 0),(.slice none 0 0),(.slice none 0 0),(.slice none 0 0),(.int .i64 0)]),rfl,fun _=>by kernel_rfl⟩
instance:Fld 212 0 0:=⟨fun _ _=>by kernel_rfl⟩
instance:Fld 212 1 6:=⟨fun _ _=>by kernel_rfl⟩
instance:TyOne 215:=⟨fun _=>by kernel_rfl⟩
instance:TySize 215 1:=⟨fun _=>by kernel_rfl⟩
instance:TyZero 215 [.nilFunc]:=⟨.nilFunc,rfl,fun _=>by kernel_rfl⟩
instance:TyAgg 219 2:=⟨fun _=>by kernel_rfl⟩
instance:TySize 219 2:=⟨fun _=>by kernel_rfl⟩
instance:TyZero 219 [(.int .i64 0),(.int .i64 0)]:=⟨(.agg #[(.int .i64 0),(.int .i64 0)]),rfl,fun _=>by kernel_rfl⟩
instance:TyArr 219 2 3 1:=⟨fun _=>by kernel_rfl,fun _=>by kernel_rfl⟩
instance:TyAgg 220 12:=⟨fun _=>by kernel_rfl⟩
instance:TySize 220 12:=⟨fun _=>by kernel_rfl⟩
instance:TyZero 220 [(.int .i64 0),(.int .i64 0),(.int .i64 0),(.int .i64 0),(.int .i64 0),(.int .i64 0),(.int .i64 0),(.int .i64 0),(.int .i64 0),(.int .i64 0),(.int .i64 0),(.int .i64 0)]:=⟨(.agg #[(.int .i64 0),(.int .i64 0),(.int .i64 0),(.int .i64 0),(.int .i64 0),(.int .i64 0),(.int .i64 0),(.int .i64 0),(.int .i64 0),(.int .i64 0),(.int .i64 0),(.int .i64 0)]),rfl,fun _=>by kernel_rfl⟩
instance:TyArr 220 6 219 2:=⟨fun _=>by kernel_rfl,fun _=>by kernel_rfl⟩
instance:TyOne 223:=⟨fun _=>by kernel_rfl⟩
instance:TyOne 224:=⟨fun _=>by kernel_rfl⟩
instance:TyOne 227:=⟨fun _=>by kernel_rfl⟩
instance:TyOne 230:=⟨fun _=>by kernel_rfl⟩
instance:TyOne 231:=⟨fun _=>by kernel_rfl⟩
instance:TySize 231 1:=⟨fun _=>by kernel_rfl⟩
instance:TyZero 231 [(.map none)]:=⟨(.map none),rfl,fun _=>by kernel_rfl⟩
instance:TyMap 231 9 4:=⟨fun _=>by kernel_rfl⟩
instance:TyArr 234 47 102 8:=⟨fun _=>by kernel_rfl,fun _=>by kernel_rfl⟩
instance:TyOne 236:=⟨fun _=>by kernel_rfl⟩
instance:TySize 236 1:=⟨fun _=>by kernel_rfl⟩
instance:TyZero 236 [(.map none)]:=⟨(.map none),rfl,fun _=>by kernel_rfl⟩
instance:TyMap 236 3 238:=⟨fun _=>by kernel_rfl⟩
instance:TyAgg 238 2:=⟨fun _=>by kernel_rfl⟩
instance:TySize 238 2:=⟨fun _=>by kernel_rfl⟩
instance:Fld 238 0 0:=⟨fun _ _=>by kernel_rfl⟩
instance:Fld 238 1 1:=⟨fun _ _=>by kernel_rfl⟩
instance:TyStruct 238 [(.int .i64 0),(.int .i64 0)] [(0,1),(1,1)]:=⟨fun _ _=>by kernel_rfl⟩
instance:TyEqS 238 [(3,0),(3,1)]:=⟨⟨fieldsOf 238,fun _=>by kernel_rfl,by kernel_rfl,by kernel_rfl⟩,by kernel_rfl,by kernel_rfl⟩
instance:TyOne 240:=⟨fun _=>by kernel_rfl⟩
instance:TySize 240 1:=⟨fun _=>by kernel_rfl⟩
instance:TyZero 240 [.nilFunc]:=⟨.nilFunc,rfl,fun _=>by kernel_rfl⟩
instance:TyMap 245 3 219:=⟨fun _=>by kernel_rfl⟩
instance:TyOne 249:=⟨fun _=>by kernel_rfl⟩
instance:TyZero 251 [(.pointer none),(.pointer none),(.pointer none)]:=⟨(.agg #[(.pointer none),(.pointer none),(.pointer none)]),rfl,fun _=>by kernel_rfl⟩
instance:TyArr 251 3 122 1:=⟨fun _=>by kernel_rfl,fun _=>by kernel_rfl⟩
instance:TySlice 263 268 2:=⟨fun _=>by kernel_rfl,fun _=>by kernel_rfl⟩
instance:TyFill 268 2:=⟨(.agg #[(.string ⟨#[]⟩),(.bool false)]),rfl,fun _=>by kernel_rfl⟩
instance:TyApp 263 268 2 24:=⟨by kernel_rfl,⟨(.agg #[(.string ⟨#[]⟩),(.bool false)]),by kernel_rfl,rfl⟩,by decide⟩
instance:TyAgg 268 2:=⟨fun _=>by kernel_rfl⟩
instance:TySize 268 2:=⟨fun _=>by kernel_rfl⟩
instance:TyZero 268 [(.string ⟨#[]⟩),(.bool false)]:=⟨(.agg #[(.string ⟨#[]⟩),(.bool false)]),rfl,fun _=>by kernel_rfl⟩
instance:Fld 268 0 0:=⟨fun _ _=>by kernel_rfl⟩
instance:Fld 268 1 1:=⟨fun _ _=>by kernel_rfl⟩
instance:TyStruct 268 [(.string ⟨#[]⟩),(.bool false)] [(0,1),(1,1)]:=⟨fun _ _=>by kernel_rfl⟩
instance:TyOne 280:=⟨fun _=>by kernel_rfl⟩
instance:TyMap 290 9 3:=⟨fun _=>by kernel_rfl⟩
instance:Enters 13:=⟨fun _ _=>by kernel_rfl⟩
instance:Enters 14:=⟨fun _ _=>by kernel_rfl⟩
instance:Enters 15:=⟨fun _ _=>by kernel_rfl⟩
instance:Enters 17:=⟨fun _ _=>by kernel_rfl⟩
instance:Enters 19:=⟨fun _ _=>by kernel_rfl⟩
instance:Enters 20:=⟨fun _ _=>by kernel_rfl⟩
instance:Enters 21:=⟨fun _ _=>by kernel_rfl⟩
instance:Enters 22:=⟨fun _ _=>by kernel_rfl⟩
instance:Enters 23:=⟨fun _ _=>by kernel_rfl⟩
instance:Enters 30:=⟨fun _ _=>by kernel_rfl⟩
instance:Enters 34:=⟨fun _ _=>by kernel_rfl⟩
instance:Enters 35:=⟨fun _ _=>by kernel_rfl⟩
instance:Enters 37:=⟨fun _ _=>by kernel_rfl⟩
instance:Enters 39:=⟨fun _ _=>by kernel_rfl⟩
instance:Enters 40:=⟨fun _ _=>by kernel_rfl⟩
instance:Enters 42:=⟨fun _ _=>by kernel_rfl⟩
instance:Enters 44:=⟨fun _ _=>by kernel_rfl⟩
instance:Enters 45:=⟨fun _ _=>by kernel_rfl⟩
instance:Enters 46:=⟨fun _ _=>by kernel_rfl⟩
instance:Enters 47:=⟨fun _ _=>by kernel_rfl⟩
instance:Enters 48:=⟨fun _ _=>by kernel_rfl⟩
instance:Enters 49:=⟨fun _ _=>by kernel_rfl⟩
instance:Enters 50:=⟨fun _ _=>by kernel_rfl⟩
instance:Enters 56:=⟨fun _ _=>by kernel_rfl⟩
instance:Enters 57:=⟨fun _ _=>by kernel_rfl⟩
instance:Enters 61:=⟨fun _ _=>by kernel_rfl⟩
instance:Enters 62:=⟨fun _ _=>by kernel_rfl⟩
instance:Enters 63:=⟨fun _ _=>by kernel_rfl⟩
instance:Enters 64:=⟨fun _ _=>by kernel_rfl⟩
instance:Enters 65:=⟨fun _ _=>by kernel_rfl⟩
instance:Enters 66:=⟨fun _ _=>by kernel_rfl⟩
instance:Enters 67:=⟨fun _ _=>by kernel_rfl⟩
instance:Enters 68:=⟨fun _ _=>by kernel_rfl⟩
instance:Enters 69:=⟨fun _ _=>by kernel_rfl⟩
instance:Enters 70:=⟨fun _ _=>by kernel_rfl⟩
instance:Enters 71:=⟨fun _ _=>by kernel_rfl⟩
instance:Enters 72:=⟨fun _ _=>by kernel_rfl⟩
instance:Enters 73:=⟨fun _ _=>by kernel_rfl⟩
instance:Enters 74:=⟨fun _ _=>by kernel_rfl⟩
instance:Enters 75:=⟨fun _ _=>by kernel_rfl⟩
instance:Enters 76:=⟨fun _ _=>by kernel_rfl⟩
instance:Enters 77:=⟨fun _ _=>by kernel_rfl⟩
instance:Enters 91:=⟨fun _ _=>by kernel_rfl⟩
instance:Enters 92:=⟨fun _ _=>by kernel_rfl⟩
instance:Enters 93:=⟨fun _ _=>by kernel_rfl⟩
instance:Enters 94:=⟨fun _ _=>by kernel_rfl⟩
instance:Enters 95:=⟨fun _ _=>by kernel_rfl⟩
instance:Enters 96:=⟨fun _ _=>by kernel_rfl⟩
instance:Enters 97:=⟨fun _ _=>by kernel_rfl⟩
instance:Enters 98:=⟨fun _ _=>by kernel_rfl⟩
instance:Enters 99:=⟨fun _ _=>by kernel_rfl⟩
instance:Enters 100:=⟨fun _ _=>by kernel_rfl⟩
instance:Enters 101:=⟨fun _ _=>by kernel_rfl⟩
instance:Enters 102:=⟨fun _ _=>by kernel_rfl⟩
instance:Enters 103:=⟨fun _ _=>by kernel_rfl⟩
instance:Enters 104:=⟨fun _ _=>by kernel_rfl⟩
instance:Enters 107:=⟨fun _ _=>by kernel_rfl⟩
instance:Enters 108:=⟨fun _ _=>by kernel_rfl⟩
instance:Enters 109:=⟨fun _ _=>by kernel_rfl⟩
instance:Enters 110:=⟨fun _ _=>by kernel_rfl⟩
instance:Enters 111:=⟨fun _ _=>by kernel_rfl⟩
instance:Enters 112:=⟨fun _ _=>by kernel_rfl⟩
instance:Enters 113:=⟨fun _ _=>by kernel_rfl⟩
instance:Enters 114:=⟨fun _ _=>by kernel_rfl⟩
instance:Enters 115:=⟨fun _ _=>by kernel_rfl⟩
instance:Enters 116:=⟨fun _ _=>by kernel_rfl⟩
instance:Enters 117:=⟨fun _ _=>by kernel_rfl⟩
instance:Enters 118:=⟨fun _ _=>by kernel_rfl⟩
instance:Enters 119:=⟨fun _ _=>by kernel_rfl⟩
instance:Enters 120:=⟨fun _ _=>by kernel_rfl⟩
instance:Enters 121:=⟨fun _ _=>by kernel_rfl⟩
instance:Enters 122:=⟨fun _ _=>by kernel_rfl⟩
instance:Enters 124:=⟨fun _ _=>by kernel_rfl⟩
instance:Enters 125:=⟨fun _ _=>by kernel_rfl⟩
instance:Enters 126:=⟨fun _ _=>by kernel_rfl⟩
instance:Enters 127:=⟨fun _ _=>by kernel_rfl⟩
instance:Enters 128:=⟨fun _ _=>by kernel_rfl⟩
instance:Enters 129:=⟨fun _ _=>by kernel_rfl⟩
instance:Enters 130:=⟨fun _ _=>by kernel_rfl⟩
instance:Enters 131:=⟨fun _ _=>by kernel_rfl⟩
instance:Enters 132:=⟨fun _ _=>by kernel_rfl⟩
instance:Enters 134:=⟨fun _ _=>by kernel_rfl⟩
instance:Enters 135:=⟨fun _ _=>by kernel_rfl⟩
instance:Enters 137:=⟨fun _ _=>by kernel_rfl⟩
instance:Enters 138:=⟨fun _ _=>by kernel_rfl⟩
instance:Enters 139:=⟨fun _ _=>by kernel_rfl⟩
instance:Enters 140:=⟨fun _ _=>by kernel_rfl⟩
instance:Enters 141:=⟨fun _ _=>by kernel_rfl⟩
instance:Enters 142:=⟨fun _ _=>by kernel_rfl⟩
instance:Enters 143:=⟨fun _ _=>by kernel_rfl⟩
instance:Enters 144:=⟨fun _ _=>by kernel_rfl⟩
instance:Enters 145:=⟨fun _ _=>by kernel_rfl⟩
instance:Enters 146:=⟨fun _ _=>by kernel_rfl⟩
instance:Enters 147:=⟨fun _ _=>by kernel_rfl⟩
instance:Enters 148:=⟨fun _ _=>by kernel_rfl⟩
instance:Enters 149:=⟨fun _ _=>by kernel_rfl⟩
instance:Enters 150:=⟨fun _ _=>by kernel_rfl⟩
instance:Enters 151:=⟨fun _ _=>by kernel_rfl⟩
instance:Enters 152:=⟨fun _ _=>by kernel_rfl⟩
instance:Enters 153:=⟨fun _ _=>by kernel_rfl⟩
instance:Enters 154:=⟨fun _ _=>by kernel_rfl⟩
instance:Enters 155:=⟨fun _ _=>by kernel_rfl⟩
instance:Enters 156:=⟨fun _ _=>by kernel_rfl⟩
instance:Enters 157:=⟨fun _ _=>by kernel_rfl⟩
instance:Enters 158:=⟨fun _ _=>by kernel_rfl⟩
instance:Enters 159:=⟨fun _ _=>by kernel_rfl⟩
instance:Enters 160:=⟨fun _ _=>by kernel_rfl⟩
instance:Enters 161:=⟨fun _ _=>by kernel_rfl⟩
instance:Enters 162:=⟨fun _ _=>by kernel_rfl⟩
instance:Enters 168:=⟨fun _ _=>by kernel_rfl⟩
instance:Enters 169:=⟨fun _ _=>by kernel_rfl⟩
instance:Enters 170:=⟨fun _ _=>by kernel_rfl⟩
instance:Enters 171:=⟨fun _ _=>by kernel_rfl⟩
instance:Enters 172:=⟨fun _ _=>by kernel_rfl⟩
instance:Enters 173:=⟨fun _ _=>by kernel_rfl⟩
instance:Enters 174:=⟨fun _ _=>by kernel_rfl⟩
instance:Enters 175:=⟨fun _ _=>by kernel_rfl⟩
instance:Enters 178:=⟨fun _ _=>by kernel_rfl⟩
instance:Enters 179:=⟨fun _ _=>by kernel_rfl⟩
instance:Enters 184:=⟨fun _ _=>by kernel_rfl⟩
instance:Enters 185:=⟨fun _ _=>by kernel_rfl⟩
instance:Enters 186:=⟨fun _ _=>by kernel_rfl⟩
instance:Enters 187:=⟨fun _ _=>by kernel_rfl⟩
instance:Enters 191:=⟨fun _ _=>by kernel_rfl⟩
instance:Enters 192:=⟨fun _ _=>by kernel_rfl⟩
instance:Enters 193:=⟨fun _ _=>by kernel_rfl⟩
instance:Enters 194:=⟨fun _ _=>by kernel_rfl⟩
instance:Enters 195:=⟨fun _ _=>by kernel_rfl⟩
instance:Enters 196:=⟨fun _ _=>by kernel_rfl⟩
instance:Enters 197:=⟨fun _ _=>by kernel_rfl⟩
instance:Enters 206:=⟨fun _ _=>by kernel_rfl⟩
instance:Enters 207:=⟨fun _ _=>by kernel_rfl⟩
instance:Enters 208:=⟨fun _ _=>by kernel_rfl⟩
instance:Enters 209:=⟨fun _ _=>by kernel_rfl⟩
instance:Enters 210:=⟨fun _ _=>by kernel_rfl⟩
instance:Enters 211:=⟨fun _ _=>by kernel_rfl⟩
instance:Enters 212:=⟨fun _ _=>by kernel_rfl⟩
instance:Enters 213:=⟨fun _ _=>by kernel_rfl⟩
instance:Enters 214:=⟨fun _ _=>by kernel_rfl⟩
instance:Enters 215:=⟨fun _ _=>by kernel_rfl⟩
instance:Enters 216:=⟨fun _ _=>by kernel_rfl⟩
instance:Enters 217:=⟨fun _ _=>by kernel_rfl⟩
instance:Enters 218:=⟨fun _ _=>by kernel_rfl⟩
instance:Enters 219:=⟨fun _ _=>by kernel_rfl⟩
instance:Enters 220:=⟨fun _ _=>by kernel_rfl⟩
instance:Enters 221:=⟨fun _ _=>by kernel_rfl⟩
instance:Enters 222:=⟨fun _ _=>by kernel_rfl⟩
instance:Enters 223:=⟨fun _ _=>by kernel_rfl⟩
instance:Enters 224:=⟨fun _ _=>by kernel_rfl⟩
instance:Enters 225:=⟨fun _ _=>by kernel_rfl⟩
instance:Enters 226:=⟨fun _ _=>by kernel_rfl⟩
instance:Enters 227:=⟨fun _ _=>by kernel_rfl⟩
instance:Enters 228:=⟨fun _ _=>by kernel_rfl⟩
instance:Enters 229:=⟨fun _ _=>by kernel_rfl⟩
instance:Enters 232:=⟨fun _ _=>by kernel_rfl⟩
instance:Enters 233:=⟨fun _ _=>by kernel_rfl⟩
instance:Enters 235:=⟨fun _ _=>by kernel_rfl⟩
instance:Enters 236:=⟨fun _ _=>by kernel_rfl⟩
instance:Enters 238:=⟨fun _ _=>by kernel_rfl⟩
instance:Enters 239:=⟨fun _ _=>by kernel_rfl⟩
instance:Enters 240:=⟨fun _ _=>by kernel_rfl⟩
instance:Enters 241:=⟨fun _ _=>by kernel_rfl⟩
instance:Enters 242:=⟨fun _ _=>by kernel_rfl⟩
instance:Enters 243:=⟨fun _ _=>by kernel_rfl⟩
instance:Enters 244:=⟨fun _ _=>by kernel_rfl⟩
instance:Enters 246:=⟨fun _ _=>by kernel_rfl⟩
instance:Enters 247:=⟨fun _ _=>by kernel_rfl⟩
instance:Enters 248:=⟨fun _ _=>by kernel_rfl⟩
instance:Enters 249:=⟨fun _ _=>by kernel_rfl⟩
instance:Enters 250:=⟨fun _ _=>by kernel_rfl⟩
instance:Enters 251:=⟨fun _ _=>by kernel_rfl⟩
instance:Enters 252:=⟨fun _ _=>by kernel_rfl⟩
instance:Enters 253:=⟨fun _ _=>by kernel_rfl⟩
instance:Enters 254:=⟨fun _ _=>by kernel_rfl⟩
instance:Enters 255:=⟨fun _ _=>by kernel_rfl⟩
instance:Enters 258:=⟨fun _ _=>by kernel_rfl⟩
instance:Enters 259:=⟨fun _ _=>by kernel_rfl⟩
instance:Enters 260:=⟨fun _ _=>by kernel_rfl⟩
instance:Enters 261:=⟨fun _ _=>by kernel_rfl⟩
instance:Enters 267:=⟨fun _ _=>by kernel_rfl⟩
instance:Enters 268:=⟨fun _ _=>by kernel_rfl⟩
instance:Enters 269:=⟨fun _ _=>by kernel_rfl⟩
instance:Enters 270:=⟨fun _ _=>by kernel_rfl⟩
instance:Enters 273:=⟨fun _ _=>by kernel_rfl⟩
instance:Enters 274:=⟨fun _ _=>by kernel_rfl⟩
instance:EntersX 275 Extern.BytealgIndexByte.indexByte:=⟨fun _ _=>by kernel_rfl⟩
end
section
open Go Q Go.RowKit
section
variable {w0 w w':World} {z0 z z':Z} {B0 B B' L F:Bl} {b:Nat} {o:Obj} {C:Obj->Bl} {K:Value->World->Prop}
theorem V_app0 {t ty e size bytes:Nat} [g:TyApp t e size bytes] {b n cap c:Nat} {a:Option Addr} {xs sp:List Value} (hS:Res w0 z0 B0 w z ((b,.cells (xs ++ sp).toArray e (0,0)) :: L)) (hl:(xs ++ sp).length = cap * size) (hx:xs.length = n * size) (hc:n <= cap)
  (hk:K (.slice (some ⟨b,0,none⟩) n cap) w):V (Builtin.append_ #[t,t] ty #[.slice (some ⟨b,0,none⟩) n cap,.slice a 0 c]) w K:=by
 obtain ⟨zv,hinfo,hzs⟩:=g.info;obtain ⟨i,hi,hz⟩:=Option.map_eq_some_iff.1 hinfo;simp only [Prod.mk.injEq] at hz;obtain ⟨hz0,hz1,hz2⟩:=hz;have hat:=hS.mem (b,.cells (xs ++ sp).toArray e (0,0)) (by simp);have hfit:n * i.size + 0 <= (xs ++ sp).toArray.size:=by rw [hz1,Nat.add_zero]; simp only [List.size_toArray,hl]; exact Nat.mul_le_mul_right _ hc
 cases a with
 | some a=>
  have hr:=run_append_room (P:=Tryz.prog) w t ty e i g.und hi b n cap (xs ++ sp).toArray hat.1 a 0 c [] (by simp) (by simp) (by simp) (by omega) hfit;refine ⟨_,_,hr,?_⟩;rw [setRow_eq hat.1];have:((xs ++ sp).toArray.toList.take (n * i.size) ++ [] ++ (xs ++ sp).toArray.toList.drop (n * i.size + ([]:List Value).length)).toArray = (xs ++ sp).toArray:=by simp
  rw [this,heap_set_self hat.1];exact hk
 | none=>
  have h0:Builtin.lenOf (.slice none 0 c) = pure 0:=rfl;have hu:∀ w,(underlying t).run Tryz.prog w = .ok (.slice e) w:=fun w=>run_underlying g.und w
  refine ⟨.slice (some ⟨b,0,none⟩) n cap,w,?_,hk⟩;have hs0:∀ (a:Addr) w,(storeCells a [] 0).run Tryz.prog w = .ok () w:=fun a w=>rfl
  simp [Builtin.append_,run_underlying g.und,sizeOf,typeInfo,hi,Builtin.lenOf,hc,Builtin.firstCells,Sem.run_bind,program,Sem.run,hs0]
theorem SlR.all {α:Type} {E:El α} {v:Value} {xs:List α} (f:α->List Value) (h:SlR E z v xs) (hf:∀ z cs x,E.rel z cs x->cs = f x) (hn:xs ≠ []):∃ b off cap,v = .slice (some ⟨b,off,none⟩) xs.length cap/\xs.length <= big/\At z b off (xs.flatMap f):=by
 obtain ⟨a,cap,rfl,h2,h3,h4⟩:=h;obtain ⟨b,off,rfl,h6⟩:=h4 hn;refine ⟨b,off,cap,rfl,h3,?_⟩;have hobj:∃ c ty fr,z b = some (.cells c ty fr):=by
  cases xs with
  | nil=>exact absurd rfl hn
  | cons x xs=>
   obtain ⟨cs,_,c,ty,fr,h7,_⟩:=h6 0 x rfl;exact ⟨c,ty,fr,h7⟩
 obtain ⟨c,ty,fr,hc⟩:=hobj;refine ⟨c,ty,fr,hc,?_⟩;have key:∀ (l:List α) (k:Nat),(∀ i x,l[i]? = some x->(f x).length = E.size/\∀ j v,(f x)[j]? = some v->c[off + (k + i) * E.size + j]? = some v)->∀ j v,(l.flatMap f)[j]? = some v->c[off + k * E.size + j]? = some v:=by
  intro l
  induction l with
  | nil=>intro k _ j v hv; simp at hv
  | cons x l ih=>
   intro k hl j v hv;rw [List.flatMap_cons] at hv;obtain ⟨h8,h9⟩:=hl 0 x rfl
   by_cases hj:j < (f x).length
   ·rw [List.getElem?_append_left hj] at hv
    simpa using h9 j v hv
   ·rw [List.getElem?_append_right (by omega)] at hv
    have:=ih (k + 1) (fun i y hy=>by
     have:=hl (i + 1) y (by simpa using hy);rw [show k + 1 + i = k + (i + 1) by omega];exact this) (j - (f x).length) v hv
    rw [h8,Nat.add_mul] at this;rw [<- this]
    congr 1
    omega
 intro j v hv;have:=key xs 0 (fun i x hx=>by
  obtain ⟨cs,h7,c',ty',fr',h8,h9⟩:=h6 i x hx;rw [hc] at h8
  cases h8
  have hl:=E.len h7;rw [hf _ _ _ h7] at h9 hl;exact ⟨hl,fun j v hv=>by rw [Nat.zero_add]; exact h9 j v hv⟩) j v hv
 simpa using this
theorem flat_len {α:Type} {f:α->List Value} {n:Nat} (hf:∀ x,(f x).length = n) (xs:List α):(xs.flatMap f).length = xs.length * n:=by
 induction xs with
 | nil=>simp
 | cons x xs ih=>rw [List.flatMap_cons,List.length_append,ih,hf,List.length_cons,Nat.add_mul]; omega
theorem flat_get {α:Type} {f:α->List Value} {n:Nat} (hf:∀ x,(f x).length = n) {xs:List α} {i:Nat} {x:α} (hx:xs[i]? = some x) (j:Nat) (v:Value) (hv:(f x)[j]? = some v):(xs.flatMap f)[i * n + j]? = some v:=by
 induction xs generalizing i with
 | nil=>simp at hx
 | cons y xs ih=>
  rw [List.flatMap_cons];have hj:=(List.getElem?_eq_some_iff.1 hv).1
  cases i with
  | zero=>
   simp at hx; subst hx;rw [Nat.zero_mul,Nat.zero_add,List.getElem?_append_left hj];exact hv
  | succ i=>
   rw [List.getElem?_append_right (by rw [hf,Nat.add_mul]; omega),hf,show (i + 1) * n + j - n = i * n + j by rw [Nat.add_mul]; omega];exact ih (by simpa using hx)
theorem Res.freezeSl {α:Type} {E:El α} {e:Nat} {v:Value} {xs:List α} {f:α->List Value} (h:Res w0 z0 B0 w z (B ++ L)) (ho:OwnSl e E.size B v xs.length (xs.flatMap f)) (hb:xs.length <= big) (hf:∀ x,(f x).length = E.size) (hr:∀ z x,x ∈ xs->E.rel z (f x) x) :
  ∃ z',Le z z'/\Res w0 z0 B0 w z' L/\SlR E z' v xs:=by
 rcases ho.2 with ⟨rfl,rfl,h0⟩ | ⟨b,cap,sp,rfl,rfl,h1,h2,h3⟩
 ·have:xs = []:=List.eq_nil_of_length_eq_zero h0
  subst this;exact ⟨z,Le.refl _,h,SlR.nil⟩
 ·refine ⟨_,Res.freeze_le h,Res.freeze h,some ⟨b,0,none⟩,cap,rfl,h1,hb,fun _=>⟨b,0,rfl,fun i x hx=>⟨f x,hr _ _ (List.mem_of_getElem? hx),_,_,_,if_pos rfl,fun j v hv=>?_⟩⟩⟩
  have:=flat_get hf hx j v hv;have hlt:=(List.getElem?_eq_some_iff.1 this).1;simp only [Nat.zero_add,List.getElem?_toArray];rw [List.getElem?_append_left hlt];exact this
theorem CV_fn0 [hS:Res w0 z0 B0 w z L] {f:FuncId} [Enters f] {args:Array Value} {R:Z->Bl->Value->Prop} (h:Le z0 z->Fn f args z [] w R) (hk:∀ z' B' w' v,Le z z'->Res w0 z0 B0 w' z' (B' ++ L)->R z' B' v->K v w') :
  CV (.func (.func f) #[] #[]) args w K:=CV_fn (B:=[]) hS (h hS.zle) (by simp) hk
instance (priority:=550) {a i j:Nat}:AddN (a + i) j (a + (i + j)):=⟨Nat.add_assoc a i j⟩
instance {ps l:List Value} {i:Nat} {v:Value} [g:Get l i v]:Get (ps ++ l) (ps.length + i) v:=⟨by rw [List.getElem?_append_right (by omega),Nat.add_sub_cancel_left]; exact g.h⟩
instance {ps l vs:List Value} {i n:Nat} [g:GetN l i n vs]:GetN (ps ++ l) (ps.length + i) n vs:=⟨g.len,fun j v h=>by rw [List.getElem?_append_right (by omega),show ps.length + i + j - ps.length = i + j by omega]; exact g.h j v h⟩
instance {ps l vs:List Value} {n:Nat} [g:GetN l 0 n vs]:GetN (ps ++ l) ps.length n vs:=⟨g.len,fun j v h=>by
 have:=g.h j v h;rw [Nat.zero_add] at this;rw [List.getElem?_append_right (by omega),Nat.add_sub_cancel_left]; exact this⟩
theorem SetN.behind {ps l vs l':List Value} {i:Nat} (g:SetN l i vs l'):SetN (ps ++ l) (ps.length + i) vs (ps ++ l') where
 len:=by simp [g.len]
 bound:=by have:=g.bound; simp; omega
 inn:=fun j v h=>by rw [List.getElem?_append_right (by omega),show ps.length + i + j - ps.length = i + j by omega]; exact g.inn j v h
 out:=fun k hk=>by
  by_cases hp:k < ps.length
  ·rw [List.getElem?_append_left hp,List.getElem?_append_left hp]
  ·rw [List.getElem?_append_right (by omega),List.getElem?_append_right (by omega)]
   exact g.out _ (by omega)
instance {ps l vs l':List Value} [g:SetN l 0 vs l']:SetN (ps ++ l) ps.length vs (ps ++ l'):=g.behind
end
end
section
open Go Q Go.RowKit
inductive It
 | bl (B:Bl)
 | at (b:Nat)
class BringL (L B:Bl) (R:outParam Bl):Prop where
 h:L.Perm (B ++ R)
instance BringL.here {B R:Bl}:BringL (B ++ R) B R:=⟨.refl _⟩
instance (priority:=950) BringL.all {B:Bl}:BringL B B []:=⟨by simp⟩
instance (priority:=900) BringL.cons {L B R:Bl} {p:Nat × Obj} [g:BringL L B R]:BringL (p :: L) B (p :: R):=⟨(g.h.cons p).trans List.perm_middle.symm⟩
instance (priority:=800) BringL.app {A L B R:Bl} [g:BringL L B R]:BringL (A ++ L) B (A ++ R):=⟨by
 refine (g.h.append_left A).trans ?_;rw [<- List.append_assoc,<- List.append_assoc];exact List.perm_append_comm.append_right R⟩
class BringB (L:Bl) (b:Nat) (o:outParam Obj) (R:outParam Bl):Prop where
 h:L.Perm ((b,o) :: R)
instance BringB.here {b:Nat} {o:Obj} {R:Bl}:BringB ((b,o) :: R) b o R:=⟨.refl _⟩
instance (priority:=900) BringB.cons {L R:Bl} {b:Nat} {o:Obj} {p:Nat × Obj} [g:BringB L b o R]:BringB (p :: L) b o (p :: R):=⟨(g.h.cons p).trans (.swap _ _ _)⟩
instance (priority:=800) BringB.app {A L R:Bl} {b:Nat} {o:Obj} [g:BringB L b o R]:BringB (A ++ L) b o (A ++ R):=⟨(g.h.append_left A).trans List.perm_middle⟩
class Keep (L:Bl) (spec:List It) (L':outParam Bl):Prop where
 h:∃ R,L.Perm (L' ++ R)
instance Keep.nil {L:Bl}:Keep L [] []:=⟨L,by simp⟩
instance Keep.bl {L B R T:Bl} {spec:List It} [g:BringL L B R] [k:Keep R spec T]:Keep L (.bl B :: spec) (B ++ T):=⟨by
 obtain ⟨X,hX⟩:=k.h;exact ⟨X,g.h.trans (by rw [List.append_assoc]; exact hX.append_left B)⟩⟩
instance Keep.at {L R T:Bl} {b:Nat} {o:Obj} {spec:List It} [g:BringB L b o R] [k:Keep R spec T]:Keep L (.at b :: spec) ((b,o) :: T):=⟨by
 obtain ⟨X,hX⟩:=k.h;exact ⟨X,g.h.trans (hX.cons _)⟩⟩
section
variable {w0 w:World} {z0 z:Z} {B0 L L':Bl}
theorem Res.keep (spec:List It) (h:Res w0 z0 B0 w z L) [g:Keep L spec L']:Res w0 z0 B0 w z L':=by
 obtain ⟨R,hR⟩:=g.h;exact (h.perm hR).sublist (List.sublist_append_left _ _)
theorem Res.bring (B:Bl) {R:Bl} (h:Res w0 z0 B0 w z L) [g:BringL L B R]:Res w0 z0 B0 w z (B ++ R):=h.perm g.h
theorem Res.bringB (b:Nat) {o:Obj} {R:Bl} (h:Res w0 z0 B0 w z L) [g:BringB L b o R]:Res w0 z0 B0 w z ((b,o) :: R):=h.perm g.h
end
end
section
open Go Q Go.RowKit
class LdE (T n:Nat) (vf:outParam (List Value->Value)):Prop where
 h:∀ (w:World) (b off:Nat) (cs:List Value),cs.length = n->At (hp w) b off cs->(ld T (.pointer (some ⟨b,off,none⟩))).run Tryz.prog w = .ok (vf cs) w
def one1 (cs:List Value):Value:=cs.headD undef
def aggN (cs:List Value):Value:=.agg cs.toArray
instance {T:Nat} [g:TyOne T]:LdE T 1 one1:=⟨fun w b off cs hl h=>by
 cases cs with
 | nil=>cases hl
 | cons v cs=>
  have:cs = []:=List.eq_nil_of_length_eq_zero (by simpa using hl);subst this;exact run_ld1 h⟩
instance {T n:Nat} [g:TyAgg T n] [gs:TySize T n]:LdE T n aggN:=⟨fun w b off cs hl h=>run_ldN h hl⟩
section
variable {α σ:Type}
def runS (step:σ->α->Bool × σ):Nat->σ->List α->Int × σ
 | _,s,[]=>(-1,s)
 | i,s,x :: l=>match step s x with
  | (true,s')=>(i,s')
  | (false,s')=>runS step (i + 1) s' l
theorem runS_cons {step:σ->α->Bool × σ} {i:Nat} {s:σ} {x:α} {l:List α}:runS step i s (x :: l) = match step s x with | (true,s')=>((i:Int),s') | (false,s')=>runS step (i + 1) s' l:=rfl
theorem runS_ge {step:σ->α->Bool × σ}:∀ (l:List α) (i:Nat) (s:σ),-1 <= (runS step i s l).1/\(runS step i s l).1 < i + l.length
 | [],i,s=>⟨by simp [runS],by simp [runS]; omega⟩
 | x :: l,i,s=>by
  rw [runS_cons]
  split
  ·simp; omega
  ·rename_i s' h
   have:=runS_ge l (i + 1) s' (step:=step);simp at this ⊢; omega
def allS (step:σ->α->Bool × σ):σ->List α->Bool × σ
 | s,[]=>(true,s)
 | s,x :: l=>match step s x with
  | (true,s')=>allS step s' l
  | (false,s')=>(false,s')
theorem allS_cons {step:σ->α->Bool × σ} {s:σ} {x:α} {l:List α}:allS step s (x :: l) = match step s x with | (true,s')=>allS step s' l | (false,s')=>(false,s'):=rfl
def notS (step:σ->α->Bool × σ):σ->α->Bool × σ:=fun s x=>(!(step s x).1,(step s x).2)
theorem runS_not {step:σ->α->Bool × σ}:∀ (l:List α) (i:Nat) (s:σ),(!decide ((runS (notS step) i s l).1 ≥ 0)) = (allS step s l).1/\(runS (notS step) i s l).2 = (allS step s l).2
 | [],i,s=>by simp [runS,allS]
 | x :: l,i,s=>by
  rw [runS_cons,allS_cons,show notS step s x = (!(step s x).1,(step s x).2) from rfl]
  rcases step s x with ⟨r,s'⟩
  cases r with
  | false=>simp
  | true=>exact runS_not l (i + 1) s'
def pureS (p:α->Bool):Unit->α->Bool × Unit:=fun s x=>(p x,s)
theorem allS_pure {p:α->Bool}:∀ (l:List α),(allS (pureS p) () l).1 = l.all p
 | []=>rfl
 | x :: l=>by
  rw [allS_cons,show pureS p () x = (p x,()) from rfl]
  cases h:p x with
  | false=>simp [h]
  | true=>simpa [h] using allS_pure l
end
def vcIdx (I S T:Nat) (R:Value->World->Prop) (w:World) (t0 t1:Value):Prop:=
 V (Builtin.len_ #[S] I #[t0]) w fun t7 w=>∃ (I0:List Value->World->Prop) (M0:List Value->World->Nat),I0 [(.int .i64 0)] w/\∀ g:Env,∀ t8,∀ w,I0 [t8] w->∀ m0,m0 = M0 [t8] w ->
 V (bi .lss I t8 t7) w fun t9 w=>CondW t9
 (V (ia S t0 t8) w fun t14 w=>V (ld T t14) w fun t15 w=>CV t1 #[t15] w fun t16 w=>CondW t16
 (R t8 w)
 (V (bi .add I t8 (.int .i64 1)) w fun t18 w=>
 I0 [t18] w/\M0 [t18] w < m0))
 (R (.int .i64 (-1)) w)
section
variable {α σ:Type} {E:El α} {z:Z} {w:World}
theorem vcIdx_ok {I S T e n:Nat} {vf:List Value->Value} [g:TySlice S e n] [gl:LdE T n vf] (hn:E.size = n) {fv v:Value} {xs:List α} (Bf:σ->Bl) (step:σ->α->Bool × σ) (s0:σ) (hx:SlR E z v xs)
  (hf:∀ z' w' s cs x,x ∈ xs->Le z z'->E.rel z' cs x->Va fv #[vf cs] z' (Bf s) w' fun _ B' r=>r = .bool (step s x).1/\B' = Bf (step s x).2) (hS:Res w z (Bf s0) w z (Bf s0)) :
  vcIdx I S T (fun r w'=>∃ z' B',Res w z (Bf s0) w' z' B'/\r = .int .i64 (runS step 0 s0 xs).1/\B' = Bf (runS step 0 s0 xs).2) w v fv:=by
 obtain ⟨hb,a,cap,rfl,hc,hel⟩:=hx.form;unfold vcIdx;refine V_run ?_;refine LoopG1 (fun (p:Nat × σ) x w'=>x = .int .i64 p.1/\p.1 <= xs.length/\runS step 0 s0 xs = runS step p.1 p.2 (xs.drop p.1)/\∃ z',Le z z'/\Res w z (Bf s0) w' z' (Bf p.2)) (fun p=>xs.length - p.1) (0,s0) ⟨rfl,by omega,rfl,z,Le.refl _,hS⟩ ?_;rintro I0 M ⟨i,s⟩ x w2 m ⟨rfl,h1,h2,z2,hz2,hS2⟩ back
 simp only at h1 h2 hS2;refine V_run ?_;refine Cond_d (fun h=>?_) (fun h=>?_)
 ·have hlt:i < xs.length:=by omega
  obtain ⟨b,off,cs,rfl,hr,hat⟩:=hel i _ (List.getElem?_eq_getElem hlt);haveI:InR (i:Int) xs.length:=⟨by omega,by omega⟩
  haveI:InI ((i:Int) + 1):=⟨by simp only [big] at hb; omega⟩
  refine V_run ?_;refine ⟨_,_,gl.h w2 _ _ cs (by rw [E.len hr,hn]) (by simp only [Int.toNat_natCast,<- hn]; exact (hat.mono hz2).world hS2.sub),?_⟩;refine CV_va (B:=Bf s) (F:=[]) (by simpa using hS2) (hf _ _ _ _ _ (List.getElem_mem hlt) hz2 (E.mono hr hz2)) ?_;rintro z4 B4 w4 v4 hle hS4 ⟨rfl,rfl⟩
  rw [List.append_nil] at hS4;rw [List.drop_eq_getElem_cons hlt] at h2;rw [runS_cons] at h2
  rcases hst:step s xs[i] with ⟨r,s'⟩
  rw [hst] at h2 hS4;refine Cond_b (fun h'=>?_) (fun h'=>?_)
  ·simp only at h'; subst h'
   simp only at h2;exact ⟨_,_,hS4,by rw [show runS step 0 s0 xs = _ from h2],by rw [show runS step 0 s0 xs = _ from h2]⟩
  ·simp only at h'; subst h'
   simp only at h2;refine V_run ?_;exact back (i + 1,s') _ _ ⟨by simp,by simp only; omega,h2,z4,hz2.trans hle,hS4⟩ (by simp only; omega)
 ·have hd:xs.drop i = []:=List.drop_of_length_le (by omega)
  rw [hd] at h2;exact ⟨_,_,hS2,by rw [h2]; rfl,by rw [h2]; rfl⟩
def vcCon (I f:Nat) (R:Value->World->Prop) (w:World) (t0 t1:Value):Prop:=
 CV (.func (.func f) #[] #[]) #[t0,t1] w fun t7 w=>V (bi .geq I t7 (.int .i64 0)) w fun t8 w=>
 R t8 w
def vcEv (FT g h:Nat) (R:Value->World->Prop) (w:World) (t0 t1:Value):Prop:=
 V (bx FT t1) w fun t3 w=>CV (.func (.func g) #[] #[]) #[t0,(.func (.func h) #[] #[t3])] w fun t7 w=>V (un .not t7) w fun t8 w=>
 R t8 w
def vcNot1 (FT:Nat) (R:Value->World->Prop) (w:World) (t0 t1:Value):Prop:=
 V (ld FT t1) w fun t4 w=>CV t4 #[t0] w fun t6 w=>V (un .not t6) w fun t7 w=>
 R t7 w
def vcNotN (FT T:Nat) (R:Value->World->Prop) (w:World) (t0 t1:Value):Prop:=
 V (bx T t0) w fun t2 w=>V (ld FT t1) w fun t4 w=>V (ld T t2) w fun t5 w=>CV t4 #[t5] w fun t6 w=>V (un .not t6) w fun t7 w=>
 R t7 w
theorem con_ok {I S T e n fi fc:Nat} {vf:List Value->Value} [g:TySlice S e n] [gl:LdE T n vf] (hn:E.size = n) [Enters fi]
  (h1:∀ {R:Value->World->Prop} {w:World} {t0 t1:Value},vcIdx I S T R w t0 t1->Calls Tryz.prog fi #[t0,t1] w (retK R))
  (h2:∀ {R:Value->World->Prop} {w:World} {t0 t1:Value},vcCon I fi R w t0 t1->Calls Tryz.prog fc #[t0,t1] w (retK R))
  {fv v:Value} {xs:List α} (Bf:σ->Bl) (step:σ->α->Bool × σ) (s0:σ) (hx:SlR E z v xs)
  (hf:∀ z' w' s cs x,x ∈ xs->Le z z'->E.rel z' cs x->Va fv #[vf cs] z' (Bf s) w' fun _ B' r=>r = .bool (step s x).1/\B' = Bf (step s x).2) :
  Fn fc #[v,fv] z (Bf s0) w fun _ B' r=>r = .bool (decide ((runS step 0 s0 xs).1 ≥ 0))/\B' = Bf (runS step 0 s0 xs).2:=Fn.intro fun hS=>h2 (by
 unfold vcCon;refine CV_fn (B:=Bf s0) (F:=[]) (by simpa using hS) (R:=fun _ B' r=>r = .int .i64 (runS step 0 s0 xs).1/\B' = Bf (runS step 0 s0 xs).2) (Fn.intro fun hS'=>h1 (vcIdx_ok hn Bf step s0 hx hf hS')) (by simp) ?_;rintro z' B' w' v' hle hS' ⟨rfl,rfl⟩
 rw [List.append_nil] at hS';refine V_run ?_;exact ⟨_,_,hS',rfl,rfl⟩)
theorem fn_not1 {FT fn:Nat} [TyOne FT] (h:∀ {R:Value->World->Prop} {w:World} {t0 t1:Value},vcNot1 FT R w t0 t1->Calls Tryz.prog fn #[t0,t1] w (retK R)) {B B1:Bl} {b:Nat} {fv u:Value} {r:Bool}
  (hat:At z b 0 [fv]) (hv:∀ w',Va fv #[u] z B w' fun _ B' v=>v = .bool r/\B' = B1):Fn fn #[u,.pointer (some ⟨b,0,none⟩)] z B w fun _ B' v=>v = .bool (!r)/\B' = B1:=Fn.intro fun hS=>h (by
 unfold vcNot1;refine zV_ld1 hat ?_;refine CV_va (B:=B) (F:=[]) (by simpa using hS) (hv _) ?_;rintro z' B' w' v' hle hS' ⟨rfl,rfl⟩
 rw [List.append_nil] at hS';refine V_run ?_;exact ⟨_,_,hS',rfl,rfl⟩)
theorem fn_notN {FT fn T n:Nat} [TyOne FT] [TyAgg T n] [TySize T n] (h:∀ {R:Value->World->Prop} {w:World} {t0 t1:Value},vcNotN FT T R w t0 t1->Calls Tryz.prog fn #[t0,t1] w (retK R)) {B B1:Bl} {b:Nat} {fv:Value} {cs:List Value} (hl:cs.length = n) {r:Bool}
  (hat:At z b 0 [fv]) (hv:∀ w',Va fv #[aggN cs] z B w' fun _ B' v=>v = .bool r/\B' = B1):Fn fn #[aggN cs,.pointer (some ⟨b,0,none⟩)] z B w fun _ B' v=>v = .bool (!r)/\B' = B1:=Fn.intro fun hS=>h (by
 unfold vcNotN aggN;refine iV_bx ?_;intro b2 w1 hb2 hS1;refine zV_ld1 hat ?_;have h2:At (hp w1) b2 0 cs:=⟨_,_,_,(hS1.mem _ List.mem_cons_self).1,fun j u hu=>by simpa using hu⟩
 refine V_ldN h2 hl ?_;refine CV_va (B:=B) (F:=[(b2,.cells cs.toArray T (0,0))]) (hS1.perm (by simpa using (List.perm_append_comm (l₁:=[(b2,Obj.cells cs.toArray T (0,0))]) (l₂:=B)))) (hv _) ?_;rintro z' B' w' v' hle hS' ⟨rfl,rfl⟩
 refine V_run ?_;exact ⟨_,_,hS'.sublist (List.sublist_append_left _ _),rfl,rfl⟩)
class Fam {α:Type} (E:El α) (fe:Nat) (vf:outParam (List Value->Value)):Prop where
 h:∀ {σ:Type} {z:Z} {w:World} {f:Go.Fn} {a c:Array Value} {v:Value} {xs:List α} (Bf:σ->Bl) (step:σ->α->Bool × σ) (s0:σ),SlR E z v xs ->
  (∀ z' w' s cs x,x ∈ xs->Le z z'->E.rel z' cs x->Va (.func f a c) #[vf cs] z' (Bf s) w' fun _ B' r=>r = .bool (step s x).1/\B' = Bf (step s x).2) ->
  Fn fe #[v,.func f a c] z (Bf s0) w fun _ B' r=>r = .bool (allS step s0 xs).1/\B' = Bf (allS step s0 xs).2
theorem fam_of {I S T e n fi fc fe fn FT:Nat} {vf:List Value->Value} [g:TySlice S e n] [gl:LdE T n vf] (hn:E.size = n) [Enters fi] [Enters fc] [Enters fn]
  (h1:∀ {R:Value->World->Prop} {w:World} {t0 t1:Value},vcIdx I S T R w t0 t1->Calls Tryz.prog fi #[t0,t1] w (retK R))
  (h2:∀ {R:Value->World->Prop} {w:World} {t0 t1:Value},vcCon I fi R w t0 t1->Calls Tryz.prog fc #[t0,t1] w (retK R))
  (h3:∀ {R:Value->World->Prop} {w:World} {t0 t1:Value},vcEv FT fc fn R w t0 t1->Calls Tryz.prog fe #[t0,t1] w (retK R))
  (h4:∀ {w:World} {z:Z} {B B1:Bl} {b:Nat} {cs:List Value} {fv:Value} {r:Bool},cs.length = n->At z b 0 [fv]->(∀ w',Va fv #[vf cs] z B w' fun _ B' v=>v = .bool r/\B' = B1) ->
   Fn fn #[vf cs,.pointer (some ⟨b,0,none⟩)] z B w fun _ B' v=>v = .bool (!r)/\B' = B1):Fam E fe vf where
 h:=fun {σ z w f a c v xs} Bf step s0 hx hf=>Fn.intro fun hS=>h3 (by
  unfold vcEv;refine iV_bx ?_;intro b0 w1 hb0 hS1;have hS2:=hS1.freeze;have hz:=hS1.freeze_le;refine CV_fn (args':=#[v,.func (.func fn) #[] #[.pointer (some ⟨b0,0,none⟩)]]) (B:=Bf s0) (F:=[]) (by simpa using hS2) (con_ok hn h1 h2 Bf (notS step) s0 (hx.mono hz) (fun z' w' s cs x hxm hz' hr=>?_)) (by simp) ?_
  ·refine Fn.va (h4 (b:=b0) (by rw [E.len hr,hn]) ?_ (fun w''=>hf z' w'' s cs x hxm (hz.trans hz') hr)) (by simp)
   exact ⟨_,_,_,hz' _ _ (if_pos rfl),fun j u hu=>by simpa using hu⟩
  ·rintro z' B' w' v' hle hS' ⟨rfl,rfl⟩
   rw [List.append_nil] at hS';have:=runS_not (step:=step) xs 0 s0;refine V_run ?_;exact ⟨_,_,hS',by rw [this.1],by rw [this.2]⟩)
theorem fam1 {fe:Nat} {vf:List Value->Value} [gf:Fam E fe vf] {f:Go.Fn} {a c:Array Value} {v:Value} {xs:List α} {p:α->Bool} (hx:SlR E z v xs)
  (hf:∀ z' w' cs x,x ∈ xs->Le z z'->E.rel z' cs x->Va1 (.func f a c) #[vf cs] z' w' fun _ r=>r = .bool (p x)) :
  Fn1 fe #[v,.func f a c] z w fun _ r=>r = .bool (xs.all p):=fun ho=>
 (gf.h (σ:=Unit) (fun _=>[]) (pureS p) () hx (fun z' w' s cs x hm hz hr ho=>CallV.mono (hf z' w' cs x hm hz hr ho) (fun v w'' ⟨z'',h1,h2⟩=>⟨z'',[],h1,h2,rfl⟩)) ho).mono
  (retK.mono fun v w' ⟨z',B',h1,h2,h3⟩=>⟨z',h1.drop,by rw [h2,allS_pure]⟩)
end
end
section
open Go Q Go.RowKit
theorem ret_eq {w0 w:World} {z0 z:Z} {L:Bl} {v v':Value} [hS:Res w0 z0 [] w z L] (h:v = v'):∃ z' L',Res w0 z0 [] w z' L'/\v = v':=⟨z,L,hS,h⟩
abbrev bytes (s:ByteArray):List UInt8:=s.data.toList
theorem size_bytes (s:ByteArray):s.size = (bytes s).length:=by simp
class PuV (f:Value) (args:Array Value) (v:outParam Value):Prop where
 h:∀ z w,Va1 f args z w fun _ v'=>v' = v
instance {f:FuncId} [Enters f] {args:Array Value} {v:Value} [g:Pu f args v]:PuV (.func (.func f) #[] #[]) args v:=⟨fun z w=>(g.h z w).va (by simp)⟩
structure PartM where
 kind:Int
 text:ByteArray
 n:Int
structure ItemM where
 name:ByteArray
 via:Bool
structure SpotM where
 name:ByteArray
 at_:Int
structure InsM where
 op:Int
 a:Int
 b:Int
 c:Int
structure CodeM where
 consts:List ByteArray
 tmpls:List (List PartM)
 lists:List (List ItemM)
 labels:List SpotM
 slots:List ByteArray
 ins:List InsM
abbrev PartM.cells (t:PartM):List Value:=[.int .i64 t.kind,.string t.text,.int .i64 t.n]
abbrev ItemM.cells (t:ItemM):List Value:=[.string t.name,.bool t.via]
abbrev SpotM.cells (t:SpotM):List Value:=[.string t.name,.int .i64 t.at_]
abbrev InsM.cells (t:InsM):List Value:=[.int .i64 t.op,.int .i64 t.a,.int .i64 t.b,.int .i64 t.c]
abbrev PartM.v (t:PartM):Value:=.agg t.cells.toArray
abbrev ItemM.v (t:ItemM):Value:=.agg t.cells.toArray
abbrev SpotM.v (t:SpotM):Value:=.agg t.cells.toArray
abbrev InsM.v (t:InsM):Value:=.agg t.cells.toArray
def El.part:El PartM where
 size:=3
 rel:=fun _ cs x=>cs = x.cells/\x.text.size <= big
 mono:=fun h _=>h
 len:=fun h=>by rw [h.1]; rfl
 pos:=by decide
def El.item:El ItemM where
 size:=2
 rel:=fun _ cs x=>cs = x.cells/\x.name.size <= big
 mono:=fun h _=>h
 len:=fun h=>by rw [h.1]; rfl
 pos:=by decide
def El.spot:El SpotM where
 size:=2
 rel:=fun _ cs x=>cs = x.cells/\x.name.size <= big
 mono:=fun h _=>h
 len:=fun h=>by rw [h.1]; rfl
 pos:=by decide
def El.ins:El InsM where
 size:=4
 rel:=fun _ cs x=>cs = x.cells
 mono:=fun h _=>h
 len:=fun h=>by rw [h]; rfl
 pos:=by decide
def El.byte:El UInt8 where
 size:=1
 rel:=fun _ cs x=>cs = [.int .u8 x.toNat]
 mono:=fun h _=>h
 len:=fun h=>by rw [h]; rfl
 pos:=by decide
structure CodeR (z:Z) (v:Value) (c:CodeM):Prop where
 h:∃ v1 v2 v3 v4 v5 v6,v = .agg #[v1,v2,v3,v4,v5,v6]/\SlR El.str z v1 c.consts/\SlR (El.sl El.part) z v2 c.tmpls/\SlR (El.sl El.item) z v3 c.lists/\SlR El.spot z v4 c.labels/\SlR El.str z v5 c.slots/\SlR El.ins z v6 c.ins
theorem CodeR.mono {z z':Z} {v:Value} {c:CodeM} (h:CodeR z v c) (hz:Le z z'):CodeR z' v c:=by
 obtain ⟨v1,v2,v3,v4,v5,v6,h0,h1,h2,h3,h4,h5,h6⟩:=h.h;exact ⟨v1,v2,v3,v4,v5,v6,h0,h1.mono hz,h2.mono hz,h3.mono hz,h4.mono hz,h5.mono hz,h6.mono hz⟩
instance:Fam (El.sl El.part) 138 one1:=fam_of (I:=3) (S:=23) (T:=93) (n:=1) (fi:=246) (fc:=206) (fn:=207) (FT:=224) rfl (fun h=>en246 h) (fun h=>en206 h) (fun h=>en138 h) (fun _ hat hv=>fn_not1 (fun h=>en207 h) hat hv)
instance:Fam El.part 140 aggN:=fam_of (I:=3) (S:=93) (T:=95) (n:=3) (fi:=247) (fc:=208) (fn:=209) (FT:=223) rfl (fun h=>en247 h) (fun h=>en208 h) (fun h=>en140 h) (fun hl hat hv=>fn_notN (fun h=>en209 h) hl hat hv)
instance:Fam El.str 142 one1:=fam_of (I:=3) (S:=22) (T:=9) (n:=1) (fi:=248) (fc:=210) (fn:=211) (FT:=215) rfl (fun h=>en248 h) (fun h=>en210 h) (fun h=>en142 h) (fun _ hat hv=>fn_not1 (fun h=>en211 h) hat hv)
instance:Fam (El.sl El.item) 143 one1:=fam_of (I:=3) (S:=24) (T:=96) (n:=1) (fi:=249) (fc:=212) (fn:=213) (FT:=227) rfl (fun h=>en249 h) (fun h=>en212 h) (fun h=>en143 h) (fun _ hat hv=>fn_not1 (fun h=>en213 h) hat hv)
instance:Fam El.item 151 aggN:=fam_of (I:=3) (S:=96) (T:=98) (n:=2) (fi:=252) (fc:=218) (fn:=219) (FT:=230) rfl (fun h=>en252 h) (fun h=>en218 h) (fun h=>en151 h) (fun hl hat hv=>fn_notN (fun h=>en219 h) hl hat hv)
instance:Fam El.spot 145 aggN:=fam_of (I:=3) (S:=25) (T:=54) (n:=2) (fi:=77) (fc:=214) (fn:=215) (FT:=144) rfl (fun h=>en77 h) (fun h=>en214 h) (fun h=>en145 h) (fun hl hat hv=>fn_notN (fun h=>en215 h) hl hat hv)
instance:Fam El.int 170 one1:=fam_of (I:=3) (S:=45) (T:=3) (n:=1) (fi:=260) (fc:=232) (fn:=233) (FT:=249) rfl (fun h=>en260 h) (fun h=>en232 h) (fun h=>en170 h) (fun _ hat hv=>fn_not1 (fun h=>en233 h) hat hv)
instance:Fam El.byte 216 one1:=fam_of (I:=3) (S:=55) (T:=5) (n:=1) (fi:=274) (fc:=250) (fn:=251) (FT:=280) rfl (fun h=>en274 h) (fun h=>en250 h) (fun h=>en216 h) (fun _ hat hv=>fn_not1 (fun h=>en251 h) hat hv)
end
section
open Go Q Go.RowKit
structure FormM where
 name:ByteArray
 k0:Int
 k1:Int
 k2:Int
 pops:Int
 pushes:Int
 loop:Int
 final:Bool
abbrev FormM.cells (f:FormM):List Value:=[.string f.name,.int .i64 f.k0,.int .i64 f.k1,.int .i64 f.k2,.int .i64 f.pops,.int .i64 f.pushes,.int .i64 f.loop,.bool f.final]
abbrev FormM.v (f:FormM):Value:=.agg f.cells.toArray
def noForm:FormM:=⟨⟨#[]⟩,0,0,0,0,0,0,false⟩
def formL:List FormM:=[noForm,
 ⟨⟨#[99,108,97,117,115,101]⟩,1,2,15,0,0,0,false⟩,
 ⟨⟨#[100,111,110,101]⟩,0,0,0,0,0,0,false⟩,
 ⟨⟨#[99,111,110,115,116]⟩,2,0,0,0,1,0,false⟩,
 ⟨⟨#[109,105,115,115]⟩,0,0,0,0,1,0,false⟩,
 ⟨⟨#[118,97,114]⟩,3,0,0,0,1,0,false⟩,
 ⟨⟨#[115,108,111,116]⟩,9,0,0,0,1,0,false⟩,
 ⟨⟨#[115,116,101,109]⟩,4,0,0,0,1,0,false⟩,
 ⟨⟨#[99,111,109,112]⟩,5,0,0,0,1,0,false⟩,
 ⟨⟨#[112,101,101,107]⟩,6,0,0,0,1,0,false⟩,
 ⟨⟨#[98,105,110]⟩,17,0,0,2,1,0,false⟩,
 ⟨⟨#[117,110]⟩,18,0,0,1,1,0,false⟩,
 ⟨⟨#[102,117,110]⟩,23,16,14,0,1,0,false⟩,
 ⟨⟨#[116,101,108,108]⟩,0,0,0,1,1,0,false⟩,
 ⟨⟨#[112,111,112]⟩,0,0,0,1,0,0,false⟩,
 ⟨⟨#[115,101,116]⟩,6,0,0,1,0,0,false⟩,
 ⟨⟨#[112,117,116]⟩,9,0,0,1,0,0,false⟩,
 ⟨⟨#[100,114,111,112]⟩,11,0,0,0,0,0,false⟩,
 ⟨⟨#[112,114,111,99]⟩,12,0,0,0,0,0,false⟩,
 ⟨⟨#[97,100,100,114]⟩,15,23,0,0,0,0,false⟩,
 ⟨⟨#[99,109,100]⟩,8,0,0,1,0,0,false⟩,
 ⟨⟨#[115,117,98]⟩,23,16,14,0,0,0,false⟩,
 ⟨⟨#[116,114,97,112]⟩,23,15,23,0,0,0,false⟩,
 ⟨⟨#[106,117,109,112]⟩,13,0,0,0,0,0,true⟩,
 ⟨⟨#[102,97,108,115,101]⟩,13,0,0,1,0,0,false⟩,
 ⟨⟨#[112,108,117,115]⟩,0,0,0,1,1,0,false⟩,
 ⟨⟨#[119,104,111,108,101]⟩,0,0,0,1,1,0,false⟩,
 ⟨⟨#[111,118,101,114]⟩,7,22,0,1,0,1,false⟩,
 ⟨⟨#[99,111,117,110,116]⟩,0,0,0,1,0,1,false⟩,
 ⟨⟨#[108,111,111,112]⟩,0,0,0,0,0,1,false⟩,
 ⟨⟨#[116,101,115,116]⟩,13,0,0,0,0,0,false⟩,
 ⟨⟨#[116,117,114,110]⟩,1,2,0,0,0,0,false⟩,
 ⟨⟨#[98,121]⟩,0,0,0,0,0,0,false⟩,
 ⟨⟨#[111,117,116]⟩,20,0,0,0,0,0,false⟩,
 ⟨⟨#[105,110,116,101,114,112]⟩,0,0,0,1,0,0,false⟩,
 ⟨⟨#[110,117,109,101,114,105,99]⟩,15,14,0,0,0,0,false⟩,
 ⟨⟨#[112,97,114,115,101]⟩,10,19,14,0,0,0,false⟩,
 ⟨⟨#[112,117,115,104]⟩,0,0,0,1,0,0,false⟩,
 ⟨⟨#[113,117,101,117,101]⟩,0,0,0,1,0,0,false⟩,
 ⟨⟨#[115,97,121]⟩,0,0,0,1,0,0,false⟩,
 ⟨⟨#[101,120,105,116]⟩,14,0,0,0,0,0,true⟩,
 ⟨⟨#[114,101,116]⟩,14,0,0,0,0,0,true⟩,
 ⟨⟨#[115,105,103,110,97,108]⟩,2,0,0,0,0,0,true⟩,
 ⟨⟨#[115,105,103,118,97,108]⟩,0,0,0,1,0,0,true⟩,
 ⟨⟨#[116,114,97,99,101]⟩,2,0,0,0,0,0,false⟩,
 ⟨⟨#[114,97,105,115,101]⟩,21,0,0,0,0,0,true⟩,
 ⟨⟨#[101,110,100]⟩,0,0,0,0,0,0,true⟩]
def formsC:List Value:=formL.flatMap FormM.cells
def opOk (n:Int):Bool:=decide (1 <= n) && decide (n <= 46)
def formAt (n:Int):FormM:=if opOk n then formL.getD n.toNat noForm else noForm
theorem V_alN {w0 w:World} {z0 z:Z} {B0 L:Bl} {K:Value->World->Prop} [hS:Res w0 z0 B0 w z L] {t n:Nat} (g:∃ zs,TyZero t zs/\zs.length = n)
  (hk:∀ b w' (zs:List Value),zs.length = n->w0.heap.size <= b->Res w0 z0 B0 w' z ((b,.cells zs.toArray t (0,0)) :: L)->K (.pointer (some ⟨b,0,none⟩)) w'):V (al t) w K:=by
 obtain ⟨zs,h1,h2⟩:=g;exact V_al (g:=h1) hS fun b w' hb hS'=>hk b w' zs h2 hb hS'
theorem SetN.whole {l vs:List Value} (h:l.length = vs.length):SetN l 0 vs vs where
 len:=h.symm
 bound:=by omega
 inn:=fun j v hj=>by rw [Nat.zero_add]; exact hj
 out:=fun k hk=>by rw [List.getElem?_eq_none (by omega),List.getElem?_eq_none (by omega)]
theorem formsC_len:formsC.length = 376:=by decide +kernel
theorem formsC_one:∀ u ∈ formsC,isOne u = true:=by
 have:formsC.all isOne = true:=by decide +kernel
 exact List.all_eq_true.1 this
class FillF (cells:List Value) (parts:List (Nat × Value)) (out:outParam (List Value)):Prop where
 h:Instr.fill (fun i=>some (i * 1,1)) cells.toArray parts = some out.toArray
instance {cells:List Value}:FillF cells [] cells:=⟨rfl⟩
instance {cells cells' out:List Value} {i:Nat} {v u:Value} {parts:List (Nat × Value)} [gc:CellsOf v [u]] [gs:SetN cells i [u] cells'] [gf:FillF cells' parts out]:FillF cells ((i,v) :: parts) out:=⟨by
 unfold Instr.fill;have hb:=gs.bound;simp only [List.length_singleton] at hb;have hb':¬ (i * 1 + 1 > cells.length):=by omega
 simp only [gc.h,List.size_toArray,List.length_singleton,ne_eq,not_true_eq_false,decide_false,Bool.false_or,hb',if_false];have:([u].toArray.zipIdx.foldl (fun cs (x:Value × Nat)=>cs.setIfInBounds (i * 1 + x.2) x.1) cells.toArray) = cells'.toArray:=by
  rw [<- Array.foldl_toList,Array.toList_zipIdx,fold_set,Nat.add_zero,Nat.mul_one,gs.eq]
 rw [this];exact gf.h⟩
instance (priority:=1100) {t n e:Nat} {zs out:List Value} {parts:List (Nat × Value)} [g:TyArr t n e 1] [gz:TyZero t zs] [gf:FillF zs parts out]:Run (bd t parts.toArray) (.agg out.toArray):=⟨fun w=>by
 obtain ⟨v,h1,h2⟩:=gz.h;simp only [bd,Instr.build,Sem.run_bind,h2,Result.andThen_ok,g.und,g.size,h1,gf.h]
 rfl⟩
theorem zero234:∃ zs,TyZero 234 zs/\zs.length = 376:=⟨(List.replicate 47 noForm.cells).flatten,⟨.agg ((List.replicate 47 noForm.cells).flatten).toArray,rfl,fun _=>by kernel_rfl⟩,by decide +kernel⟩
instance:TyAgg 234 376:=⟨fun _=>by kernel_rfl⟩
instance:TySize 234 376:=⟨fun _=>by kernel_rfl⟩
instance:Pu 159 #[] (.agg formsC.toArray):=⟨fun z w=>Fn1.intro fun hS=>en159 (by
 unfold vc159;refine V_alN zero234 ?_;intro b w1 zs hzs hb hS1;(repeat (refine V_run ?_));refine ⟨.agg formsC.toArray,w1,by kernel_rfl,?_⟩;refine U_st (vs:=formsC) (n:=376) (l:=zs) (l':=formsC) (go:=⟨formsC_one⟩) (gl:=SetN.whole (hzs.trans formsC_len.symm)) hS1 formsC_len ?_;intro w2 hS2;refine CW_N (n:=376) (vs:=formsC) ⟨_,_,_,(hS2.mem _ List.mem_cons_self).1,fun j u hu=>by rw [Nat.zero_add]; simpa using hu⟩ formsC_len ?_;exact ret_eq rfl)⟩
theorem flat_extract {α:Type} {f:α->List Value} {n:Nat} (hf:∀ x,(f x).length = n) {xs:List α} {i:Nat} {x:α} (hx:xs[i]? = some x):(xs.flatMap f).toArray.extract (i * n) (i * n + n) = (f x).toArray:=by
 refine GetN.eq ⟨hf x,fun j v hv=>flat_get hf hx j v hv⟩
theorem V_ixN {t n e s:Nat} [g:TyArr t n e s] [ga:TyAgg e s] [gs:TySize e s] {l vs:List Value} {i:Int} {k:IntKind} {K:Value->Prop} (h0:0 <= i) (h1:i < n) (he:l.toArray.extract (i.toNat * s) (i.toNat * s + s) = vs.toArray) (hk:K (.agg vs.toArray)):PV (ix t (.agg l.toArray) (.int k i)) K:=
 ⟨_,fun w=>by
  simp only [ix,Instr.index,asIntOf,pure_bind,Sem.run_bind,g.und,g.size,Result.andThen_ok,h0,h1,and_self,if_true];rw [run_partN,he],hk⟩
theorem formL_at {n:Int} (h:opOk n = true):formL[n.toNat]? = some (formAt n):=by
 simp only [opOk,Bool.and_eq_true,decide_eq_true_eq] at h;have hl:n.toNat < formL.length:=by
   have:formL.length = 47:=by decide +kernel
   omega
 unfold formAt opOk;rw [List.getElem?_eq_getElem hl,if_pos (by simp; omega),List.getD_eq_getElem?_getD,List.getElem?_eq_getElem hl]; rfl
instance {i:InsM}:Pu 49 #[i.v] (.tuple #[(formAt i.op).v,.bool (opOk i.op)]):=⟨fun z w=>Fn1.intro fun hS=>en49 (by
 unfold vc49;dsimp only [InsM.v,InsM.cells];(repeat (first | refine V_run ?_ | refine iV_ld1 ?_ | (refine iV_bx ?_; intro _ _ _ _) | (refine JC ?_; intro _ _ _ _)));refine Cond_b (fun h=>?_) (fun h=>?_)
 ·have hb:opOk i.op = false:=by revert h; unfold opOk; by_cases h1:i.op < 1 <;> simp [h1] <;> omega
  (repeat (first | refine V_run ?_ | (refine iU_st ?_; intro _ _) | refine iHV_N ?_));exact ret_eq (by rw [hb,formAt,hb]; rfl)
 ·have hb:opOk i.op = true:=by revert h; unfold opOk; by_cases h1:i.op < 1 <;> simp [h1] <;> omega
  have hb':=hb;simp only [opOk,Bool.and_eq_true,decide_eq_true_eq] at hb';(repeat (first | (refine iDr ?_; intro _ _) | refine PV_run ?_ | refine iHV_1 ?_ | refine iRI_1 ?_ | (refine CV_pu ?_; intro _ _ _ _)));refine V_ixN (n:=47) (s:=8) (e:=102) (vs:=(formAt i.op).cells) (by omega) (by omega) (flat_extract (f:=FormM.cells) (n:=8) (fun x=>rfl) (formL_at hb)) ?_;dsimp only [FormM.cells];(repeat (first | (refine iU_st ?_; intro _ _) | refine iHV_N ?_));exact ret_eq (by rw [hb]))⟩
end
section
open Go Q Go.RowKit
section
variable {w0 w w':World} {z0 z z':Z} {B0 B B' L F:Bl} {K:Value->World->Prop}
end
section
variable {w0 w:World} {z0 z z1:Z} {B0 L:Bl} {b:Nat}
theorem At.fld {h:Nat->Option Obj} {off i o:Nat} {v:Value} {vs:List Value} (ha:At h b off vs) (hv:vs[i]? = some v) (ho:o = off + i):At h b o [v]:=by
 obtain ⟨c,ty,fr,g1,g2⟩:=ha;refine ⟨c,ty,fr,g1,fun j u hu=>?_⟩
 cases j with
 | zero=>simp at hu; subst hu; subst ho; exact g2 i v hv
 | succ j=>simp at hu
end
theorem SlR.take {α:Type} {E:El α} {z:Z} {a:Option Addr} {n cap k:Nat} {xs:List α} (h:SlR E z (.slice a n cap) xs) (hk:k <= xs.length):SlR E z (.slice a k cap) (xs.take k):=by
 obtain ⟨a',cap',h1,h2,h3,h4⟩:=h
 cases h1
 have hl:(xs.take k).length = k:=by rw [List.length_take]; omega
 refine ⟨a,cap,by rw [hl],by omega,by omega,fun hne=>?_⟩;have hx:xs ≠ []:=by intro e; rw [e] at hne; simp at hne
 obtain ⟨b,off,h5,h6⟩:=h4 hx;refine ⟨b,off,h5,fun i x hi=>h6 i x ?_⟩;have hlt:=(List.getElem?_eq_some_iff.1 hi).1;rw [hl] at hlt;rw [List.getElem?_take_of_lt hlt] at hi;exact hi
theorem SlR.drop {α:Type} {E:El α} {z:Z} {b off n cap k s:Nat} {xs:List α} (h:SlR E z (.slice (some ⟨b,off,none⟩) n cap) xs) (hs:E.size = s) (hk:k <= xs.length):SlR E z (.slice (some ⟨b,if cap = k then off else off + k * s,none⟩) (n - k) (cap - k)) (xs.drop k):=by
 obtain ⟨a',cap',h1,h2,h3,h4⟩:=h
 cases h1
 subst hs;refine ⟨_,cap - k,by rw [List.length_drop],by rw [List.length_drop]; omega,by rw [List.length_drop]; omega,fun hne=>?_⟩;have hkl:k < xs.length:=by
  rcases Nat.lt_or_ge k xs.length with hh | hh
  ·exact hh
  ·exact absurd (List.drop_of_length_le hh) hne
 have hx:xs ≠ []:=by intro e; rw [e] at hkl; simp at hkl
 obtain ⟨b',off',h5,h6⟩:=h4 hx
 cases h5
 refine ⟨b,off + k * E.size,by rw [if_neg (by omega)],fun i x hi=>?_⟩;rw [List.getElem?_drop] at hi;obtain ⟨cs,h7,h8⟩:=h6 _ x hi;exact ⟨cs,h7,by rw [Nat.add_assoc,<- Nat.add_mul]; exact h8⟩
theorem SlR.get {α:Type} {E:El α} {z:Z} {b off n cap i:Nat} {xs:List α} {x:α} (h:SlR E z (.slice (some ⟨b,off,none⟩) n cap) xs) (hx:xs[i]? = some x):∃ cs,E.rel z cs x/\At z b (off + i * E.size) cs:=by
 obtain ⟨hb,a,cap',h1,hc,hel⟩:=h.form;obtain ⟨b',off',cs,h2,h3,h4⟩:=hel i x hx
 cases h1
 cases h2
 exact ⟨cs,h3,h4⟩
instance {t:Nat} {s:ByteArray} {h:Int} {k:IntKind} [g:TyStr t] [hr:InR h (s.size + 1)]:Run (sl t (.string s) none (some (.int k h)) none) (.string (s.extract 0 h.toNat)):=⟨fun w=>by
 have h1:h <= s.size:=by have:=hr.h1; omega
 simp only [sl,Instr.sliceAt,Sem.run_bind,g.und,Result.andThen_ok,Instr.slice,Instr.sliceBounds,run_pure,Instr.sliceBound,asIntOf,pure_bind,hr.h0,h1,and_self,if_true,Option.isSome_none,Bool.false_eq_true,if_false]⟩
class MulI (i:Int) (s:Nat) (o:outParam Nat):Prop where
 h:i.toNat * s = o
 h0:0 <= i
instance {s:Nat}:MulI 0 s 0:=⟨Nat.zero_mul s,by decide⟩
instance {s:Nat}:MulI 1 s s:=⟨Nat.one_mul s,by decide⟩
instance:MulI 2 1 2:=⟨rfl,by decide⟩
instance {b t e s n off m o:Nat} [g:TyArr t n e s] {i:Int} {k:IntKind} [hi:InR i n] [hm:MulI i s m] [ho:AddN off m o]:Run (ia t (.pointer (some ⟨b,off,none⟩)) (.int k i)) (.pointer (some ⟨b,o,none⟩)):=⟨fun w=>by
 rw [<- ho.h,<- hm.h];simp only [ia,Instr.indexAt,Instr.sureAddr,asIntOf,pure_bind,Sem.run_bind,g.und,g.size,Result.andThen_ok,hi.h0,hi.h1,and_self,if_true,add_addr]
 rfl⟩
instance {t:Nat} {a b:Int} [h:InR 0 b] [g:InI a]:Run (bi .quo t (.int .i64 a) (.int .i64 b)) (.int .i64 (a.tdiv b)):=⟨fun w=>by
 have h1:b ≠ 0:=by have:=h.h1; omega
 have h2:=IntWalk.i64_quo' a b (by have:=g.h; have:=h.h1; omega);simp [bi,binOp,Op.intDiv,h1,h2]⟩
instance (priority:=500) {t:Nat} {a b:Int} [h:InR 0 b]:Run (bi .quo t (.int .i64 a) (.int .i64 b)) (.int .i64 (IntKind.i64.wrap (a.tdiv b))):=⟨fun w=>by
 have h1:b ≠ 0:=by have:=h.h1; omega
 simp [bi,binOp,Op.intDiv,h1]⟩
instance {t:Nat} {a b:Int} [h:InR 0 b]:Run (bi .rem t (.int .i64 a) (.int .i64 b)) (.int .i64 (a.tmod b)):=⟨fun w=>by
 have h1:b ≠ 0:=by have:=h.h1; omega
 simp [bi,binOp,Op.intDiv,h1]⟩
theorem shr_ok {t:Nat} {a c:Int} (h0:0 <= c) (h1:c <= 64) (w:World):(bi .shr t (.int .i64 a) (.int .u64 c)).run Tryz.prog w = .ok (.int .i64 (a / 2 ^ c.toNat)) w:=by
 simp only [bi,binOp,Op.shift];rw [if_neg (by omega)];have:min c.toNat IntKind.i64.bits = c.toNat:=by
   have:IntKind.i64.bits = 64:=rfl;omega
 simp only [this];rw [Int.fdiv_eq_ediv_of_nonneg _ (by exact Int.le_of_lt (Int.pow_pos (by decide)))]
 rfl
instance {t:Nat} {a:Int}:Run (bi .shr t (.int .i64 a) (.int .u64 2)) (.int .i64 (a / 4)):=⟨fun w=>shr_ok (by decide) (by decide) w⟩
instance {t:Nat} {a:Int}:Run (bi .shr t (.int .i64 a) (.int .u64 4)) (.int .i64 (a / 16)):=⟨fun w=>shr_ok (by decide) (by decide) w⟩
instance {t:Nat} {a:Int}:Run (bi .shr t (.int .i64 a) (.int .u64 6)) (.int .i64 (a / 64)):=⟨fun w=>shr_ok (by decide) (by decide) w⟩
instance {t:Nat} {a:Int}:Run (bi .shr t (.int .i64 a) (.int .u64 7)) (.int .i64 (a / 128)):=⟨fun w=>shr_ok (by decide) (by decide) w⟩
theorem i64_mask (n:Int) (k:Nat) (hk:k < 63):bits .and .i64 n ((2 ^ k - 1:Nat):Int) = n % 2 ^ k:=by
 have hp:2 ^ k <= 2 ^ 62:=Nat.pow_le_pow_right (by decide) (by omega);have hp0:0 < 2 ^ k:=Nat.pow_pos (by decide);have h127:(BitVec.ofInt 64 ((2 ^ k - 1:Nat):Int)).toNat = 2 ^ k - 1:=by
  rw [BitVec.toNat_ofInt];omega
 have key:(BitVec.ofInt 64 n &&& BitVec.ofInt 64 ((2 ^ k - 1:Nat):Int)).toNat = (n % ((2 ^ 64:Nat):Int)).toNat % 2 ^ k:=by
  rw [BitVec.toNat_and,BitVec.toNat_ofInt,h127,Nat.and_two_pow_sub_one_eq_mod]
 show IntKind.i64.wrap ((BitVec.ofInt 64 n &&& BitVec.ofInt 64 ((2 ^ k - 1:Nat):Int)).toNat:Nat) = n % 2 ^ k
 rw [key,IntKind.wrap_i64];have h1:((n % ((2 ^ 64:Nat):Int)).toNat % 2 ^ k:Nat) < 2 ^ k:=Nat.mod_lt _ hp0;have h2:(((n % ((2 ^ 64:Nat):Int)).toNat % 2 ^ k:Nat):Int) = n % 2 ^ k:=by
  rw [Int.natCast_emod,Int.toNat_of_nonneg (Int.emod_nonneg _ (by decide))];have:((2 ^ k:Nat):Int) ∣ ((2 ^ 64:Nat):Int):=Int.natCast_dvd_natCast.2 (Nat.pow_dvd_pow 2 (by omega));rw [Int.emod_emod_of_dvd _ this];simp
 rw [<- h2];omega
theorem and_ok {t:Nat} {a b:Int} (w:World):(bi .and t (.int .i64 a) (.int .i64 b)).run Tryz.prog w = .ok (.int .i64 (bits .and .i64 a b)) w:=rfl
instance {t:Nat} {a:Int}:Run (bi .and t (.int .i64 a) (.int .i64 3)) (.int .i64 (a % 4)):=⟨fun w=>by rw [and_ok]; congr 2; exact i64_mask a 2 (by decide)⟩
instance {t:Nat} {a:Int}:Run (bi .and t (.int .i64 a) (.int .i64 127)) (.int .i64 (a % 128)):=⟨fun w=>by rw [and_ok]; congr 2; exact i64_mask a 7 (by decide)⟩
end
section
open Go Q Go.RowKit
def inB (n lo hi:Int):Bool:=decide (lo <= n) && decide (n <= hi)
theorem inB_iff {n lo hi:Int}:inB n lo hi = true ↔ lo <= n/\n <= hi:=by simp [inB]
instance {n lo hi:Int}:Pu 75 #[.int .i64 n,.int .i64 lo,.int .i64 hi] (.bool (inB n lo hi)):=⟨fun z w=>Fn1.intro fun hS=>en75 (by
 unfold vc75;(repeat (first | refine V_run ?_ | refine JB ?_));exact ret_eq (by unfold inB; cases decide (lo <= n) <;> rfl))⟩
theorem indexI {v:Value} {xs:List Int} {c:Int} {z:Z} {w:World} (hx:SlR El.int z v xs):Fn1 174 #[v,.int .i64 c] z w fun _ r=>r = .int .i64 (fidx (fun x=>decide (c = x)) xs):=Fn1.intro fun hS=>en174 (by
 unfold vc174;obtain ⟨hb,a,cap,rfl,hc,hel⟩:=hx.form;(repeat (refine V_run ?_));refine LoopG1 (fun (i:Nat) x w'=>x = .int .i64 i/\i <= xs.length/\(∀ j y,j < i->xs[j]? = some y->decide (c = y) = false)/\∃ z',Res w z [] w' z' []) (fun i=>xs.length - i) 0 ⟨rfl,by omega,fun j y h=>absurd h (by omega),z,hS⟩ ?_;rintro I M i x w2 m ⟨rfl,h1,h2,z2,hS2⟩ back
 (repeat (refine V_run ?_));refine Cond_d (fun h=>?_) (fun h=>?_)
 ·have hlt:i < xs.length:=by omega
  obtain ⟨b,off,cs,rfl,rfl,hat⟩:=hel i _ (List.getElem?_eq_getElem hlt);haveI:InR (i:Int) xs.length:=⟨by omega,by omega⟩
  haveI:InI ((i:Int) + 1):=⟨by simp only [big] at hb; omega⟩
  haveI:Fz z b (off + (i:Int).toNat * 1) [.int .i64 xs[i]]:=⟨by rw [Int.toNat_natCast]; exact hat⟩
  (repeat (first | refine V_run ?_ | refine fV_ld1 ?_));refine Cond_d (fun h'=>?_) (fun h'=>?_)
  ·exact ⟨_,_,hS2,by rw [fidx_some (p:=fun x=>decide (c = x)) h2 (List.getElem?_eq_getElem hlt) (by simpa using h')]⟩
  ·(repeat (refine V_run ?_))
   refine back (i + 1) _ _ ⟨by simp,by omega,fun j y' hj hjy=>?_,z2,hS2⟩ (by omega)
   by_cases hji:j = i
   ·subst hji; rw [List.getElem?_eq_getElem hlt] at hjy; cases hjy; exact decide_eq_false h'
   ·exact h2 j y' (by omega) hjy
 ·skip
  exact ⟨_,_,hS2,by rw [fidx_none fun j y hy=>h2 j y (by have:=(List.getElem?_eq_some_iff.1 hy).1; omega) hy]⟩)
theorem containsI {v:Value} {xs:List Int} {c:Int} {z:Z} {w:World} (hx:SlR El.int z v xs):Fn1 76 #[v,.int .i64 c] z w fun _ r=>r = .bool (xs.any fun x=>decide (c = x)):=Fn1.intro fun hS=>en76 (by
 unfold vc76;refine CV_1 (indexI hx) ?_;rintro z' w' v hle hS' rfl
 (repeat (refine V_run ?_));exact ⟨_,_,‹_›,by rw [fidx_ge]⟩)
def repRun:List Int->List Int->Int
 | pre,[]=>pre.length
 | pre,k :: l=>if k = 0 then (if (k :: l).all (fun x=>decide (x = 0)) then pre.length else -1) else if pre.any (fun x=>decide (k = x)) then -1 else repRun (pre ++ [k]) l
def repK (n:Int):List Int:=[n % 4,n / 4 % 4,n / 16 % 4]
def repsM (n:Int):Int:=if n / 64 = 0 then repRun [] (repK n) else -1
instance {n:Int}:Pu 171 #[.int .i64 n] (.bool (decide (n = 0))):=⟨fun z w=>Fn1.intro fun hS=>en171 (by
 unfold vc171;(repeat (refine V_run ?_));exact ret_eq rfl)⟩
instance {n:Int}:Pu 57 #[.int .i64 n] (.int .i64 (repsM n)):=⟨fun z w=>Fn1.intro fun hS=>en57 (by
 unfold vc57;(repeat (refine V_run ?_));refine V_bs (n:=3) rfl (by decide) ?_;intro b w1 hb hS1;have hS2:=hS1.freeze;have hle:=hS1.freeze_le;have hsl:SlR El.int (fun c=>if c = b then some (Obj.cells ([Value.int IntKind.i64 (n % 4)] ++ ([Value.int IntKind.i64 (n / 4 % 4)] ++ ([Value.int IntKind.i64 (n / 16 % 4)] ++ []))).toArray 3 (0,0)) else z c) (.slice (some ⟨b,0,none⟩) 3 3) (repK n):=by
  refine ⟨_,3,rfl,Nat.le_refl 3,(by show 3 <= big; decide),fun _=>⟨b,0,rfl,fun i x hx=>⟨_,rfl,_,_,_,if_pos rfl,fun j v hv=>?_⟩⟩⟩;have hj:j = 0:=by have:=(List.getElem?_eq_some_iff.1 hv).1; simp at this; exact this
  subst hj;simp only [List.getElem?_cons_zero,Option.some.injEq] at hv;subst hv;have hi:i < 3:=(List.getElem?_eq_some_iff.1 hx).1;have:i = 0 \/ i = 1 \/ i = 2:=by omega
  rcases this with rfl | rfl | rfl <;> (simp [repK] at hx; subst hx; rfl)
 generalize (fun c=>if c = b then some (Obj.cells ([Value.int IntKind.i64 (n % 4)] ++ ([Value.int IntKind.i64 (n / 4 % 4)] ++ ([Value.int IntKind.i64 (n / 16 % 4)] ++ []))).toArray 3 (0,0)) else z c) = z1 at hS2 hle hsl;have hK:(repK n).length = 3:=rfl;generalize hkk:repK n = ks at hsl hK;refine LoopG1 (fun (p:Nat) x w'=>x = .int .i64 p/\p <= 3/\repRun [] ks = repRun (ks.take p) (ks.drop p)/\∃ z',Le z1 z'/\Res w z [] w' z' []) (fun p=>3 - p) 0 ⟨rfl,by omega,rfl,z1,Le.refl _,hS2⟩ ?_;rintro I M p x w2 m ⟨rfl,h1,h2,z2,hz2,hS3⟩ back
 clear hS1 hS2;have hsl2:=hsl.mono hz2;(repeat (refine V_run ?_));intro K hJ;have main:∀ (c:Bool) z3 w3,Le z2 z3->Res w z [] w3 z3 []->(c = true->∃ k,p < 3/\ks[p]? = some k/\k ≠ 0)->(c = false->p = 3 \/ ks[p]? = some 0)->K [.bool c] w3:=by
  intro c z3 w3 hz3 hS4 ht hf;refine hJ _ _ fun _=>?_
  have hsl3:=hsl2.mono hz3;refine Cond_b (fun hc=>?_) (fun hc=>?_)
  ·obtain ⟨k,hp,hk,hk0⟩:=ht hc
   haveI:InR (p:Int) (((3:Nat):Int) + 1):=⟨by omega,by omega⟩
   haveI:InR (p:Int) ((3:Nat):Int):=⟨by omega,by omega⟩
   haveI:InI ((p:Int) + 1):=⟨by omega⟩
   (repeat (first | (refine iDr ?_; intro _ _) | refine PV_run ?_));obtain ⟨cs,rfl,hat⟩:=hsl3.get hk;rw [Nat.zero_add] at hat;refine zHV_ld1 hat ?_;refine CV_1 (containsI (hsl3.take (k:=p) (by omega))) ?_;rintro z5 w5 v5 hle5 hS5 rfl
   rw [List.drop_eq_getElem_cons (by omega:p < ks.length)] at h2;have hkk':ks[p]'(by omega) = k:=by rw [List.getElem?_eq_getElem (by omega)] at hk; exact Option.some.inj hk
   simp only [repRun,hkk',if_neg hk0] at h2;refine Cond_b (fun h'=>?_) (fun h'=>?_)
   ·refine ⟨_,_,hS5,?_⟩
    rw [if_pos h'] at h2;rw [repsM,hkk,h2]; simp
   ·(repeat (refine V_run ?_))
    refine back (p + 1) _ _ ⟨by simp,by omega,?_,_,(hz2.trans hz3).trans hle5,hS5⟩ (by omega);rw [h2,if_neg (by rw [h']; simp),<- hkk',List.take_append_getElem]
  ·have hend:repRun [] ks = if (ks.drop p).all (fun x=>decide (x = 0)) then (p:Int) else -1:=by
    rw [h2];have hlen:((ks.take p).length:Int) = p:=by rw [List.length_take]; omega
    rcases hf hc with hp | hp
    ·rw [List.drop_of_length_le (by omega:ks.length <= p)]
     simp only [repRun,hlen,List.all_nil,if_true]
    ·have hlt:=(List.getElem?_eq_some_iff.1 hp).1
     have h0:ks[p] = 0:=(List.getElem?_eq_some_iff.1 hp).2;rw [List.drop_eq_getElem_cons hlt];simp only [repRun,if_pos h0,hlen]
   haveI:InR (p:Int) (((3:Nat):Int) + 1):=⟨by omega,by omega⟩
   (repeat (first | refine V_run ?_ | (refine J1 ?_; intro _ _)));refine Cond_nd (fun h=>?_) (fun h=>?_)
   ·(repeat (first | refine Cond_t ?_ | refine K1 ?_))
    exact ⟨_,_,‹_›,by rw [repsM,if_neg h]⟩
   ·(repeat (refine V_run ?_))
    have hd:=hsl3.drop (k:=p) (s:=1) rfl (by omega);refine CV_1 (fam1 (E:=El.int) (p:=fun x=>decide (x = 0)) hd (fun z' w' cs x _ _ hr=>?_)) ?_
    ·cases hr
     exact (inferInstance:PuV (.func (.func 171) #[] #[]) #[.int .i64 x] (.bool (decide (x = 0)))).h _ _
    ·rintro z5 w5 v5 hle5 hS5 rfl
     (repeat (first | refine V_run ?_ | refine K1 ?_));refine Cond_n (fun h'=>?_) (fun h'=>?_)
     ·exact ⟨_,_,hS5,by rw [repsM,if_pos h,hkk,hend,h']; simp⟩
     ·exact ⟨_,_,hS5,by rw [repsM,if_pos h,hkk,hend,h']; simp⟩
 refine Cond_d (fun h=>?_) (fun h=>?_)
 ·have hp:p < 3:=by omega
  haveI:InR (p:Int) ((3:Nat):Int):=⟨by omega,by omega⟩
  (repeat (refine V_run ?_));obtain ⟨cs,rfl,hat⟩:=hsl2.get (List.getElem?_eq_getElem (by omega:p < ks.length));rw [Nat.zero_add] at hat;refine zV_ld1 hat ?_;(repeat (refine V_run ?_));refine main _ _ _ (Le.refl _) hS3 (fun hc=>⟨_,hp,List.getElem?_eq_getElem (by omega),by simpa using hc⟩) (fun hc=>.inr ?_);rw [List.getElem?_eq_getElem (by omega)]
  simpa using hc
 ·exact main _ _ _ (Le.refl _) hS3 (fun hc=>by cases hc) (fun _=>.inl (by omega)))⟩
end
section
open Go Q Go.RowKit
theorem binOps {z:Z} {w:World}:Fn1 168 #[] z w fun _ v=>∃ a cap,v = .slice a 24 cap:=Fn1.intro fun hS=>en168 (by
 unfold vc168;refine V_bs (n:=24) rfl (by decide) ?_;intro b w1 hb hS1;exact ⟨_,_,hS1,_,_,rfl⟩)
theorem unOps {z:Z} {w:World}:Fn1 169 #[] z w fun _ v=>∃ a cap,v = .slice a 3 cap:=Fn1.intro fun hS=>en169 (by
 unfold vc169;refine V_bs (n:=3) rfl (by decide) ?_;intro b w1 hb hS1;exact ⟨_,_,hS1,_,_,rfl⟩)
def rngTab:List (Int × Int × Int):=[(0,0,0),(14,0,1),(15,0,2),(16,0,10),(17,1,24),(18,1,3),(19,1,6),(20,1,40),(21,1,99)]
def rangedM (kind n:Int):Bool:=match rngTab.find? (·.1 == kind) with
 | some p=>inB n p.2.1 p.2.2
 | none=>decide (kind = 23) || (decide (kind = 22) && decide (repsM n ≥ 0))
abbrev rngV (p:Int × Int × Int):Int × Value:=(p.1,.agg [Value.int .i64 p.2.1,.int .i64 p.2.2].toArray)
theorem lkF_map {α:Type} (l:List α) (k:α->Int) (v:α->Value) (n:Int) (zv:Value):lkF (l.map fun x=>(k x,v x)) n zv = match l.find? (fun x=>k x == n) with | some x=>(v x,true) | none=>(zv,false):=by
 induction l with
 | nil=>rfl
 | cons x l ih=>
  unfold lkF at ih ⊢;simp only [List.map_cons,List.find?_cons]
  cases h:k x == n with
  | true=>rfl
  | false=>exact ih
instance {kind n:Int}:Pu 56 #[.int .i64 kind,.int .i64 n] (.bool (rangedM kind n)):=⟨fun z w=>Fn1.intro fun hS=>en56 (by
 unfold vc56;(repeat (first | refine V_run ?_ | (refine iV_mm ?_; intro _ _ _ _)));refine iU_mu (by simp) ?_;intro w2 hS2;(repeat (refine V_run ?_));refine iU_mu (by simp) ?_;intro w3 hS3;(repeat (refine V_run ?_));refine iU_mu (by simp) ?_;intro w4 hS4;(repeat (refine V_run ?_));refine iU_mu (by simp) ?_;intro w5 hS5
 skip
 refine CV_1 binOps ?_;rintro z6 w6 v6 hle6 hS6 ⟨a6,c6,rfl⟩
 (repeat (refine V_run ?_));refine iU_mu (by simp) ?_;intro w7 hS7;refine CV_1 unOps ?_;rintro z8 w8 v8 hle8 hS8 ⟨a8,c8,rfl⟩
 (repeat (refine V_run ?_));refine iU_mu (by simp) ?_;intro w9 hS9;(repeat (refine V_run ?_));refine iU_mu (by simp) ?_;intro w10 hS10;(repeat (refine V_run ?_));refine iU_mu (by simp) ?_;intro w11 hS11;(repeat (refine V_run ?_));refine iU_mu (by simp) ?_;intro w12 hS12;have hS13:Res w z [] w12 z8 [(_,mO .i64 (rngTab.map fun p=>(p.1,(rngV p).2)))]:=hS12;clear hS2 hS3 hS4 hS5 hS6 hS7 hS8 hS9 hS10 hS11 hS12;refine ⟨_,_,run_lk (zv:=.agg [Value.int .i64 0,.int .i64 0].toArray) (fun _=>by kernel_rfl) true,?_⟩;rw [if_pos rfl,lkF_map rngTab (fun p=>p.1) (fun p=>(rngV p).2)];unfold rangedM
 cases hf:rngTab.find? (fun p=>p.1 == kind) with
 | some p=>
  dsimp only [rngV];haveI:InR (0:Int) ((2:Nat):Int):=⟨by omega,by omega⟩
  haveI:InR (1:Int) ((2:Nat):Int):=⟨by omega,by omega⟩
  (repeat (first | refine V_run ?_ | refine iV_ld1 ?_ | (refine iV_bx ?_; intro _ _ _ _) | (refine iU_st ?_; intro _ _) | refine Cond_t ?_ | (refine CV_pu ?_; intro _ _ _ _)));exact ret_eq rfl
 | none=>
  (repeat (first | refine V_run ?_ | (refine iV_bx ?_; intro _ _ _ _) | (refine iU_st ?_; intro _ _) | refine Cond_f ?_ | (refine JC ?_; intro _ _ _ _)));exact ret_eq (by cases decide (kind = 23) <;> cases decide (kind = 22) <;> rfl))⟩
theorem repRun_range:∀ (l pre:List Int),-1 <= repRun pre l/\repRun pre l <= pre.length + l.length
 | [],pre=>by simp only [repRun]; omega
 | k :: l,pre=>by
  simp only [repRun]
  split
  ·split <;> omega
  ·split
   ·omega
   ·have:=repRun_range l (pre ++ [k])
    simp only [List.length_append,List.length_cons,List.length_nil] at this ⊢;omega
theorem repsM_range (n:Int):-1 <= repsM n/\repsM n <= 3:=by
 unfold repsM
 split
 ·exact repRun_range (repK n) []
 ·omega
def effOk (i:InsM):Bool:=
 if i.op = 12 \/ i.op = 21 then rangedM 16 i.b else if i.op = 19 then rangedM 15 i.a else if i.op = 27 then decide (repsM i.b ≥ 0) else if i.op = 35 then rangedM 15 i.a && rangedM 14 i.b
 else if i.op = 36 then rangedM 19 i.b else if i.op = 40 \/ i.op = 41 then rangedM 14 i.a else true
def effPops (i:InsM):Int:=
 if i.op = 12 \/ i.op = 21 then i.b else if i.op = 19 then IntKind.i64.wrap (i.a.tdiv 2) else if i.op = 27 then 1 + repsM i.b else if i.op = 35 then (if i.a < 2 then i.b else (formAt i.op).pops)
 else if i.op = 36 then (if i.b = 6 then 1 else (formAt i.op).pops) else if i.op = 40 \/ i.op = 41 then i.a else (formAt i.op).pops
structure EffM where
 pops:Int
 pushes:Int
 e:Int
def effM (i:InsM):EffM:=if opOk i.op && effOk i then ⟨effPops i,(formAt i.op).pushes,0⟩ else ⟨0,0,1⟩
abbrev EffM.v (e:EffM):Value:=.tuple [.int .i64 e.pops,.int .i64 e.pushes,.int .i64 e.e].toArray
instance {i:InsM}:Pu 17 #[i.v] (effM i).v:=⟨fun z w=>Fn1.intro fun hS=>en17 (by
 unfold vc17;dsimp only [InsM.v,InsM.cells,FormM.v,FormM.cells];haveI:InI (1 + repsM i.b):=⟨by have:=repsM_range i.b; omega⟩
 (repeat (first | refine V_run ?_ | refine iV_ldN ?_ | (refine iV_bx ?_; intro _ _ _ _) | (refine iU_st ?_; intro _ _) | (refine CV_pu ?_; intro _ _ _ _)));rename_i b1 w1 hb1 hS1 z2 w2 hle2 hS2 b2 w3 hb2 hS3 w4 hS4;refine Cond_n (fun h=>?_) (fun h=>?_)
 ·exact ⟨_,_,hS4,by simp [effM,h]⟩
 intro K hJ;have main:∀ (is:Bool) (n:Int) z5 w5,Res w z [] w5 z5 [(b2,.cells [.string (formAt i.op).name,.int .i64 (formAt i.op).k0,.int .i64 (formAt i.op).k1,.int .i64 (formAt i.op).k2,.int .i64 n,.int .i64 (formAt i.op).pushes,.int .i64 (formAt i.op).loop,.bool (formAt i.op).final].toArray 102 (0,0)),(b1,.cells [.int .i64 i.op,.int .i64 i.a,.int .i64 i.b,.int .i64 i.c].toArray 38 (0,0))]->is = effOk i->n = effPops i->K [.bool is] w5:=by
  intro is n z5 w5 hS5 his hn;refine hJ _ _ fun _=>?_
  (repeat (refine V_run ?_));refine Cond_n (fun h'=>?_) (fun h'=>?_)
  ·exact ⟨_,_,hS5,by rw [effM,h,<- his,h']; rfl⟩
  ·(repeat (first | (refine iDr ?_; intro _ _) | refine PV_run ?_ | refine iHV_1 ?_))
   exact ⟨_,_,‹_›,by rw [effM,h,<- his,h',hn]; rfl⟩
 (repeat (first | refine V_run ?_ | refine iV_ld1 ?_ | refine JB ?_));refine Cond_b (fun h1=>?_) (fun h1=>?_)
 ·have h12:i.op = 12 \/ i.op = 21:=by by_cases e:i.op = 12 <;> simp [e] at h1 ⊢; exact h1
  (repeat (first | (refine iDr ?_; intro _ _) | refine PV_run ?_ | (refine iU_st ?_; intro _ _) | refine iHV_1 ?_ | refine iRI_1 ?_ | (refine CV_pu ?_; intro _ _ _ _)));rename_i hSe;exact main _ _ _ _ hSe (by rw [effOk,if_pos h12]) (by rw [effPops,if_pos h12])
 have h12:¬ (i.op = 12 \/ i.op = 21):=by by_cases e:i.op = 12 <;> simp [e] at h1 ⊢; exact h1
 (repeat (refine V_run ?_));refine Cond_d (fun h2=>?_) (fun h2=>?_)
 ·haveI:InR (0:Int) 2:=⟨by decide,by decide⟩
  (repeat (first | (refine iDr ?_; intro _ _) | refine PV_run ?_ | (refine iU_st ?_; intro _ _) | refine iHV_1 ?_ | refine iRI_1 ?_ | (refine CV_pu ?_; intro _ _ _ _)));rename_i hSe;exact main _ _ _ _ hSe (by rw [effOk,if_neg h12,if_pos h2]) (by rw [effPops,if_neg h12,if_pos h2])
 (repeat (refine V_run ?_));refine Cond_d (fun h3=>?_) (fun h3=>?_)
 ·(repeat (first | (refine iDr ?_; intro _ _) | refine PV_run ?_ | (refine iU_st ?_; intro _ _) | refine iHV_1 ?_ | refine iRI_1 ?_ | (refine CV_pu ?_; intro _ _ _ _)))
  rename_i hSe;exact main _ _ _ _ hSe (by rw [effOk,if_neg h12,if_neg h2,if_pos h3]) (by rw [effPops,if_neg h12,if_neg h2,if_pos h3])
 (repeat (refine V_run ?_));refine Cond_d (fun h4=>?_) (fun h4=>?_)
 ·(repeat (first | refine V_run ?_ | refine iV_ld1 ?_ | (refine JC ?_; intro _ _ _ _) | (refine CV_pu ?_; intro _ _ _ _)))
  refine Cond_d (fun h5=>?_) (fun h5=>?_)
  ·(repeat (first | refine V_run ?_ | refine iV_ld1 ?_ | (refine iU_st ?_; intro _ _)))
   rename_i hSe;exact main _ _ _ _ hSe (by rw [effOk,if_neg h12,if_neg h2,if_neg h3,if_pos h4]; cases rangedM 15 i.a <;> rfl) (by rw [effPops,if_neg h12,if_neg h2,if_neg h3,if_pos h4,if_pos h5])
  ·skip
   rename_i hSe;exact main _ _ _ _ hSe (by rw [effOk,if_neg h12,if_neg h2,if_neg h3,if_pos h4]; cases rangedM 15 i.a <;> rfl) (by rw [effPops,if_neg h12,if_neg h2,if_neg h3,if_pos h4,if_neg h5])
 (repeat (refine V_run ?_));refine Cond_d (fun h5=>?_) (fun h5=>?_)
 ·(repeat (first | refine V_run ?_ | refine iV_ld1 ?_ | (refine CV_pu ?_; intro _ _ _ _)))
  refine Cond_d (fun h6=>?_) (fun h6=>?_)
  ·(repeat (first | refine V_run ?_ | (refine iU_st ?_; intro _ _)))
   rename_i hSe;exact main _ _ _ _ hSe (by rw [effOk,if_neg h12,if_neg h2,if_neg h3,if_neg h4,if_pos h5]) (by rw [effPops,if_neg h12,if_neg h2,if_neg h3,if_neg h4,if_pos h5,if_pos h6])
  ·skip
   rename_i hSe;exact main _ _ _ _ hSe (by rw [effOk,if_neg h12,if_neg h2,if_neg h3,if_neg h4,if_pos h5]) (by rw [effPops,if_neg h12,if_neg h2,if_neg h3,if_neg h4,if_pos h5,if_neg h6])
 (repeat (refine JB ?_));refine Cond_b (fun h6=>?_) (fun h6=>?_)
 ·have h46:i.op = 40 \/ i.op = 41:=by by_cases e:i.op = 40 <;> simp [e] at h6 ⊢; exact h6
  (repeat (first | (refine iDr ?_; intro _ _) | refine PV_run ?_ | (refine iU_st ?_; intro _ _) | refine iHV_1 ?_ | refine iRI_1 ?_ | (refine CV_pu ?_; intro _ _ _ _)));rename_i hSe;exact main _ _ _ _ hSe (by rw [effOk,if_neg h12,if_neg h2,if_neg h3,if_neg h4,if_neg h5,if_pos h46]) (by rw [effPops,if_neg h12,if_neg h2,if_neg h3,if_neg h4,if_neg h5,if_pos h46])
 ·have h46:¬ (i.op = 40 \/ i.op = 41):=by by_cases e:i.op = 40 <;> simp [e] at h6 ⊢; exact h6
  skip
  exact main _ _ _ _ hS4 (by rw [effOk,if_neg h12,if_neg h2,if_neg h3,if_neg h4,if_neg h5,if_neg h46,h]) (by rw [effPops,if_neg h12,if_neg h2,if_neg h3,if_neg h4,if_neg h5,if_neg h46]))⟩
end
section
open Go Q Go.RowKit
instance:EntersX 257 Extern.BytealgCount.count:=⟨fun _ _=>by kernel_rfl⟩
theorem indexByte_fidx (l:List UInt8) (c:UInt8):Lib.indexByte l c = fidx (· == c) l:=by
 induction l with
 | nil=>rfl
 | cons b l ih=>
  unfold Lib.indexByte;rw [ih];unfold fidx;rw [List.findIdx?_cons]
  cases hb:b == c with
  | true=>simp
  | false=>
   cases h:l.findIdx? (· == c) with
   | none=>simp
   | some i=>
    simp
instance {s:ByteArray} {c:Int}:Pu 253 #[.string s,.int .u8 c] (.int .i64 (fidx (· == c.toNat.toUInt8) (bytes s))):=⟨fun z w=>Fn1.intro fun hS=>en253 (by
 unfold vc253;refine CV_x (Lib.run_indexByteString s c w) ?_;exact ⟨z,[],hS,by rw [indexByte_fidx]⟩)⟩
instance {s:ByteArray} {c:Int}:Pu 221 #[.string s,.int .u8 c] (.int .i64 (fidx (· == c.toNat.toUInt8) (bytes s))):=⟨fun z w=>Fn1.intro fun hS=>en221 (by
 unfold vc221;(repeat (refine CV_pu ?_; intro _ _ _ _));exact ⟨_,_,‹_›,rfl⟩)⟩
abbrev b1 (c:UInt8):ByteArray:=⟨#[c]⟩
instance (priority:=1100) {t ty:Nat} {c:UInt8} [g:TyStr t]:Run (Builtin.len_ #[t] ty #[.string (b1 c)]) (.int .i64 1):=⟨fun w=>(inferInstance:Run (Builtin.len_ #[t] ty #[.string (b1 c)]) (.int .i64 (b1 c).size)).h w⟩
theorem bt_b1 (c:UInt8):bt (b1 c) 0 = c.toNat:=rfl
theorem u8_back (c:UInt8):((c.toNat:Int)).toNat.toUInt8 = c:=by simp
instance {c:UInt8}:InStr (b1 c) 0:=⟨by decide,by show (0:Int) < ((1:Nat):Int); decide⟩
instance {s:ByteArray} {c:UInt8}:Pu 238 #[.string s,.string (b1 c)] (.int .i64 (fidx (· == c) (bytes s))):=⟨fun z w=>Fn1.intro fun hS=>en238 (by
 unfold vc238;have hsz:(b1 c).size = 1:=rfl;(repeat (first | refine V_run ?_ | refine JB ?_));refine Cond_b (fun h=>?_) (fun h=>?_)
 ·have h:b1 c = s:=by simpa using h
  subst h;refine ⟨_,_,hS,?_⟩;have:=fidx_some (p:=(· == c)) (xs:=bytes (b1 c)) (k:=0) (x:=c) (fun i y hi=>by omega) rfl (by simp);rw [this]; rfl
 ·(repeat (first | refine V_run ?_ | refine Cond_t ?_ | (refine CV_pu ?_; intro _ _ _ _)))
  exact ⟨_,_,‹_›,by rw [bt_b1,u8_back]⟩)⟩
instance {s:ByteArray} {c:UInt8}:Pu 258 #[.string s,.string (b1 c)] (.int .i64 (fidx (· == c) (bytes s))):=⟨fun z w=>Fn1.intro fun hS=>en258 (by
 unfold vc258;(repeat (refine CV_pu ?_; intro _ _ _ _));exact ⟨_,_,‹_›,rfl⟩)⟩
instance {s:ByteArray} {c:UInt8}:Pu 223 #[.string s,.string (b1 c)] (.int .i64 ((bytes s).count c)):=⟨fun z w=>Fn1.intro fun hS=>en223 (by
 unfold vc223;have hsz:(b1 c).size = 1:=rfl;(repeat (first | refine V_run ?_ | refine Cond_t ?_ | refine Cond_f ?_));have hrun:=Lib.run_countString (P:=Tryz.prog) s (bt (b1 c) 0) w;rw [show (bt (b1 c) 0).toNat.toUInt8 = c by rw [bt_b1,u8_back]] at hrun;have hc:Lib.countByte s.data.toList c = (bytes s).count c:=rfl;rw [hc] at hrun;refine CV_x (e:=Extern.BytealgCount.count) (v:=.int .i64 ((bytes s).count c)) ?_ ?_
 ·generalize (bytes s).count c = n at hrun ⊢
  exact hrun
 ·exact ⟨z,[],hS,rfl⟩)⟩
def cutAt (s:ByteArray) (c:UInt8):Int:=fidx (· == c) (bytes s)
abbrev cutV (s:ByteArray) (c:UInt8):Value:=if 0 <= cutAt s c then .tuple #[.string (s.extract 0 (cutAt s c).toNat),.string (s.extract ((cutAt s c).toNat + 1) s.size),.bool true] else .tuple #[.string s,.string ⟨#[]⟩,.bool false]
theorem fidx_range {α:Type} {p:α->Bool} {xs:List α}:-1 <= fidx p xs/\fidx p xs < xs.length \/ xs = []/\fidx p xs = -1:=by
 unfold fidx
 cases h:xs.findIdx? p with
 | none=>cases xs with
  | nil=>exact .inr ⟨rfl,rfl⟩
  | cons x l=>left; simp; omega
 | some i=>
  rw [List.findIdx?_eq_some_iff_getElem] at h;obtain ⟨hlt,_⟩:=h
  left; simp; omega
class Sm (s:ByteArray):Prop where
 h:s.size <= big
instance {s:ByteArray} {c:UInt8} [hs:Sm s]:Pu 191 #[.string s,.string (b1 c)] (cutV s c):=⟨fun z w=>Fn1.intro fun hS=>en191 (by
 unfold vc191;(repeat (first | refine V_run ?_ | (refine CV_pu ?_; intro _ _ _ _)));refine Cond_d (fun h=>?_) (fun h=>?_)
 ·have h0:0 <= cutAt s c:=h
  have h1:cutAt s c < s.size:=by
   rcases fidx_range (p:=(· == c)) (xs:=bytes s) with hr | ⟨hr,hr2⟩
   ·have:=size_bytes s; unfold cutAt; omega
   ·unfold cutAt at h0; omega
  have hb:=hs.h;simp only [big] at hb;haveI:InR (cutAt s c) (s.size + 1):=⟨by omega,by omega⟩
  haveI:InR (cutAt s c + 1) (s.size + 1):=⟨by omega,by omega⟩
  haveI:InI (cutAt s c + 1):=⟨by omega⟩
  have e:fidx (fun x=>x == c) (bytes s) = cutAt s c:=rfl;rw [e];(repeat (first | (refine iDr ?_; intro _ _) | refine PV_run ?_));refine ⟨_,_,‹_›,?_⟩;rw [cutV,if_pos h0];have:(cutAt s c + 1).toNat = (cutAt s c).toNat + 1:=by omega
  rw [this]
 ·have h0:¬ 0 <= cutAt s c:=h
  exact ⟨_,_,‹_›,by rw [cutV,if_neg h0]⟩)⟩
end
section
open Go Q Go.RowKit
theorem bytesWorld_eq (w:World) (e:TypeId) (s:ByteArray):Lib.bytesWorld w e s = { w with drawn:=w.drawn + 1,heap:=w.heap.push (.cells (Lib.bytesCells w e s) e ((Lib.bytesCells w e s).size,(Lib.bytesCells w e s).size + 1)) }:=by
 have hh:(Lib.bytesWorld w e s).heap = w.heap.push (.cells (Lib.bytesCells w e s) e ((Lib.bytesCells w e s).size,(Lib.bytesCells w e s).size + 1)):=by
  apply Array.ext_getElem?
  intro j;rw [Array.getElem?_push]
  by_cases h1:j = w.heap.size
  ·subst h1; rw [Lib.bytesWorld_at_new,if_pos rfl]
  ·rw [if_neg h1]
   by_cases h2:j < w.heap.size
   ·exact Lib.bytesWorld_at_old w e s j h2
   ·rw [Array.getElem?_eq_none (by rw [Lib.bytesWorld_size]; omega),Array.getElem?_eq_none (by omega)]
 rw [show Lib.bytesWorld w e s = { Lib.bytesWorld w e s with heap:=(Lib.bytesWorld w e s).heap } from rfl,hh]
 rfl
theorem V_cvb {w0 w:World} {z0 z:Z} {B0 L:Bl} {K:Value->World->Prop} [hS:Res w0 z0 B0 w z L] {s:ByteArray} (hs:s.size <= big)
  (hk:∀ z' w' v,Le z z'->Res w0 z0 B0 w' z' L->SlR El.byte z' v (bytes s)->K v w'):V (cv 9 55 (.string s)) w K:=by
 refine ⟨_,_,Lib.run_convert_string_bytes (u:=.string) (e:=5) w 9 55 s (by kernel_rfl) (by kernel_rfl) (by kernel_rfl),?_⟩;rw [bytesWorld_eq];have h1:=Res.new (Res.drew hS) (.cells (Lib.bytesCells w 5 s) 5 ((Lib.bytesCells w 5 s).size,(Lib.bytesCells w 5 s).size + 1));have h2:=Res.freeze h1;refine hk _ _ _ (Res.freeze_le h1) h2 ⟨_,_,by rw [<- size_bytes],by rw [<- size_bytes]; exact grownCap_ge w s.size 0 5,by rw [<- size_bytes]; exact hs,fun _=>⟨_,0,rfl,fun i x hx=>⟨_,rfl,_,_,_,if_pos rfl,fun j v hv=>?_⟩⟩⟩;have hj:j = 0:=by have:=(List.getElem?_eq_some_iff.1 hv).1; simpa using this
 subst hj;simp only [List.getElem?_cons_zero,Option.some.injEq] at hv;subst hv;have hi:=(List.getElem?_eq_some_iff.1 hx).1;have hx':s.data[i]? = some x:=by rw [<- Array.getElem?_toList]; exact hx
 show (Lib.bytesCells w 5 s)[0 + i * 1 + 0]? = _
 unfold Lib.bytesCells;rw [show 0 + i * 1 + 0 = i by omega,Array.getElem?_append_left (by simpa using hi),Array.getElem?_map,hx']
 rfl
def validB (s:ByteArray):Bool:=decide (s.size <= 1000) && (bytes s).all fun c=>inB c.toNat 32 126
instance {c:Int}:Pu 217 #[.int .u8 c] (.bool (inB (IntKind.i64.wrap c) 32 126)):=⟨fun z w=>Fn1.intro fun hS=>en217 (by
 unfold vc217;(repeat (first | refine V_run ?_ | (refine CV_pu ?_; intro _ _ _ _)));exact ⟨_,_,‹_›,rfl⟩)⟩
theorem wrap_u8 (c:UInt8):IntKind.i64.wrap (c.toNat:Int) = c.toNat:=wrap_in (by have:=c.toNat_lt; unfold inI; omega)
instance {s:ByteArray}:Pu 147 #[.string s] (.bool (validB s)):=⟨fun z w=>Fn1.intro fun hS=>en147 (by
 unfold vc147;(repeat (first | refine V_run ?_ | (refine J1 ?_; intro _ _)));refine Cond_d (fun h=>?_) (fun h=>?_)
 ·have hs:s.size <= 1000:=by omega
  refine V_cvb (by simp only [big]; omega) ?_;intro z1 w1 v1 hz1 hS1 hv;refine CV_1 (fam1 (E:=El.byte) (p:=fun c=>inB c.toNat 32 126) hv (fun z' w' cs x _ _ hr=>?_)) ?_
  ·cases hr
   have:=(inferInstance:PuV (.func (.func 217) #[] #[]) #[.int .u8 x.toNat] (.bool (inB (IntKind.i64.wrap x.toNat) 32 126))).h z' w';rw [wrap_u8] at this;exact this
  ·rintro z5 w5 v5 hle5 hS5 rfl
   (repeat (refine K1 ?_));exact ⟨_,_,hS5,by simp [validB,hs]⟩
 ·have hs:¬ s.size <= 1000:=by omega
  (repeat (refine K1 ?_));exact ⟨_,_,‹_›,by simp [validB,hs]⟩)⟩
def digC (c:UInt8):Bool:=inB c.toNat 48 57
def digitsB (s:ByteArray):Bool:=!decide (s = ⟨#[]⟩) && (bytes s).all digC
instance {c:Int}:Pu 255 #[.int .u8 c] (.bool (inB (IntKind.i64.wrap c) 48 57)):=⟨fun z w=>Fn1.intro fun hS=>en255 (by
 unfold vc255;(repeat (first | refine V_run ?_ | (refine CV_pu ?_; intro _ _ _ _)));exact ⟨_,_,‹_›,rfl⟩)⟩
instance {s:ByteArray} [hs:Sm s]:Pu 254 #[.string s] (.bool (digitsB s)):=⟨fun z w=>Fn1.intro fun hS=>en254 (by
 unfold vc254;(repeat (first | refine V_run ?_ | (refine J1 ?_; intro _ _)));refine Cond_nd (fun h=>?_) (fun h=>?_)
 ·refine V_cvb hs.h ?_
  intro z1 w1 v1 hz1 hS1 hv;refine CV_1 (fam1 (E:=El.byte) (p:=digC) hv (fun z' w' cs x _ _ hr=>?_)) ?_
  ·cases hr
   have:=(inferInstance:PuV (.func (.func 255) #[] #[]) #[.int .u8 x.toNat] (.bool (inB (IntKind.i64.wrap x.toNat) 48 57))).h z' w';rw [wrap_u8] at this;exact this
  ·rintro z5 w5 v5 hle5 hS5 rfl
   (repeat (refine K1 ?_));exact ⟨_,_,hS5,by simp [digitsB,h]⟩
 ·(repeat (refine K1 ?_))
  exact ⟨_,_,‹_›,by simp [digitsB,h]⟩)⟩
abbrev odd4:ByteArray:=⟨#[46,95,33,63]⟩
def symC (c:UInt8):Bool:=inB c.toNat 65 90 || (inB c.toNat 48 57 || decide (fidx (· == c) (bytes odd4) ≥ 0))
instance {c:UInt8}:Pu 220 #[.int .u8 c.toNat] (.bool (symC c)):=⟨fun z w=>Fn1.intro fun hS=>en220 (by
 unfold vc220;(repeat (first | refine V_run ?_ | (refine JC ?_; intro _ _ _ _) | (refine CV_pu ?_; intro _ _ _ _)));refine ⟨_,_,‹_›,?_⟩;rw [wrap_u8,u8_back];unfold symC
 cases inB c.toNat 65 90 <;> cases inB c.toNat 48 57 <;> rfl)⟩
def lastB (s:ByteArray) (c:UInt8):Bool:=decide ((bytes s).getLast? = some c)
theorem extract_last {s:ByteArray} {c:UInt8} (h:1 <= s.size):decide (s.extract (s.size - 1) s.size = b1 c) = lastB s c:=by
 have hb:bytes (s.extract (s.size - 1) s.size) = (bytes s).drop (s.size - 1):=by
  show (s.extract (s.size - 1) s.size).data.toList = _
  rw [ByteArray.data_extract,Array.toList_extract,List.extract_eq_take_drop,List.take_of_length_le (by simp)]
 have hl:(bytes s).drop (s.size - 1) = [(bytes s)[s.size - 1]'(by simp; omega)]:=by
  rw [List.drop_eq_getElem_cons (by simp; omega),List.drop_of_length_le (by simp; omega)]
 unfold lastB;rw [List.getLast?_eq_getElem?,<- size_bytes,List.getElem?_eq_getElem (by simp; omega)];refine decide_eq_decide.2 ⟨fun e=>?_,fun e=>?_⟩
 ·have:=congrArg bytes e
  rw [hb,hl,show bytes (b1 c) = [c] from rfl] at this
  simpa using this
 ·have h2:bytes (s.extract (s.size - 1) s.size) = bytes (b1 c):=by rw [hb,hl,show bytes (b1 c) = [c] from rfl]; simpa using e
  generalize s.extract (s.size - 1) s.size = u at h2
  cases u with | mk d=>
   have:d = #[c]:=by rw [<- Array.toList_inj]; exact h2
   rw [this]
instance {s:ByteArray} {c:UInt8} [hs:Sm s]:Pu 259 #[.string s,.string (b1 c)] (.bool (lastB s c)):=⟨fun z w=>Fn1.intro fun hS=>en259 (by
 unfold vc259;(repeat (first | refine V_run ?_ | (refine J1 ?_; intro _ _)));refine Cond_d (fun h=>?_) (fun h=>?_)
 ·have hb:=hs.h
  simp only [big] at hb;haveI:InI ((s.size:Int) - 1):=⟨by omega⟩
  haveI:InR ((s.size:Int) - 1) (s.size + 1):=⟨by omega,by omega⟩
  (repeat (first | refine V_run ?_ | refine K1 ?_));refine ⟨_,_,‹_›,?_⟩;rw [show ((s.size:Int) - 1).toNat = s.size - 1 by omega,extract_last (by omega)]
 ·(repeat (refine K1 ?_))
  refine ⟨_,_,‹_›,?_⟩;have:bytes s = []:=List.eq_nil_of_length_eq_zero (by rw [<- size_bytes]; omega);rw [lastB,this]; rfl)⟩
instance {s:ByteArray} {c:UInt8} [hs:Sm s]:Pu 224 #[.string s,.string (b1 c)] (.bool (lastB s c)):=⟨fun z w=>Fn1.intro fun hS=>en224 (by
 unfold vc224;(repeat (refine CV_pu ?_; intro _ _ _ _));exact ⟨_,_,‹_›,rfl⟩)⟩
instance {s:ByteArray} {c:UInt8} [hs:Sm s]:Pu 134 #[.string s,.string (b1 c)] (cutV s c):=⟨fun z w=>Fn1.intro fun hS=>en134 (by
 unfold vc134;refine CV_pu ?_;intro z1 w1 hz1 hS1;unfold cutV
 split
 ·(repeat (refine V_run ?_))
  exact ⟨_,_,hS1,rfl⟩
 ·(repeat (refine V_run ?_))
  exact ⟨_,_,hS1,rfl⟩)⟩
end
section
open Go Q Go.RowKit
instance:EntersX 234 Extern.AbiNoEscape.same:=⟨fun _ _=>by kernel_rfl⟩
abbrev buO (p:Option Addr) (v:Value):Obj:=.cells [.pointer p,v].toArray 199 (0,0)
instance {a:Option Addr} {x y:Operand}:Run (eq .eql 197 x y (.pointer a) (.pointer none)) (.bool a.isNone):=⟨fun w=>by
 have h:∀ d:Nat,(Op.equalIn (d + 1) 197 (.pointer a) (.pointer none)).run Tryz.prog w = .ok a.isNone w:=fun d=>by
  have hu:Tryz.prog.underlying 197 = some (.pointer 199):=by kernel_rfl
  cases a <;> simp [Op.equalIn,run_underlying hu]
 have:=h 9999;simp only [eq,eqGuard,binOp,Op.equal,Op.maxDepth,Sem.run_bind];simp [this]⟩
instance {b off:Nat} {x y:Operand}:Run (eq .neq 197 x y (.pointer (some ⟨b,off,none⟩)) (.pointer (some ⟨b,off,none⟩))) (.bool false):=⟨fun w=>by
 have hu:Tryz.prog.underlying 197 = some (.pointer 199):=by kernel_rfl
 have hi:∃ j,Tryz.prog.info? 199 = some j:=by
  have:(Tryz.prog.info? 199).isSome = true:=by kernel_rfl
  exact Option.isSome_iff_exists.1 this
 obtain ⟨j,hj⟩:=hi;have:=Lib.run_neq_ptr_same (w:=w) (⟨b,off,none⟩:Addr) hu hj;simp only [eq,eqGuard,Sem.run_bind]
 simpa using this⟩
theorem copyCheck {b:Nat} {p:Option Addr} {v:Value} {z:Z} {w:World} (hp:p = none \/ p = some ⟨b,0,none⟩):Fn 184 #[.pointer (some ⟨b,0,none⟩)] z [(b,buO p v)] w fun _ B' r=>r = .tuple #[]/\B' = [(b,buO (some ⟨b,0,none⟩) v)]:=Fn.intro fun hS=>en184 (by
 unfold vc184;(repeat (first | refine V_run ?_ | refine iV_ld1 ?_))
 rcases hp with rfl | rfl
 ·refine Cond_t ?_
  have hat:w.heap[b]? = some (buO none v):=(hS.mem _ List.mem_cons_self).1;have hsh:w.shape? b = some (199,2):=by unfold World.shape?; rw [hat]; rfl
  have hi:∃ j,Tryz.prog.info? 199 = some j/\j.size ≠ 0:=by
   have:(Tryz.prog.info? 199).any (fun j=>j.size != 0) = true:=by kernel_rfl
   cases h:Tryz.prog.info? 199 with
   | none=>rw [h] at this; cases this
   | some j=>rw [h] at this; exact ⟨j,rfl,by simpa using this⟩
  obtain ⟨j,hj,hj0⟩:=hi;refine ⟨_,_,Lib.run_to_unsafe (w:=w) (t:=199) (⟨b,0,none⟩:Addr) (by kernel_rfl) (by kernel_rfl) hj hj0 hsh (show 0 < 2 by decide),?_⟩;refine CV_x (e:=Extern.AbiNoEscape.same) (Lib.run_noEscape w _) ?_;refine ⟨_,_,Lib.run_from_unsafe (w:=w) (u:=199) (⟨b,0,none⟩:Addr) (by kernel_rfl) (by kernel_rfl) hj hsh (by kernel_rfl),?_⟩;(repeat (first | refine V_run ?_ | (refine iU_st ?_; intro _ _)));exact ⟨_,_,‹_›,rfl,rfl⟩
 ·refine Cond_f ?_
  (repeat (first | refine V_run ?_ | refine iV_ld1 ?_ | refine Cond_f ?_));exact ⟨_,_,hS,rfl,rfl⟩)
section
variable {w0 w w':World} {z0 z z':Z} {B0 B B' L F:Bl} {K:Value->World->Prop}
theorem V_appS {t u ty e bytes:Nat} [g:TyApp t e 1 bytes] (hu:Tryz.prog.underlying u = some .string) {v:Value} {n:Nat} {xs:List Value} {s:ByteArray} (hS:Res w0 z0 B0 w z (B ++ L)) (ho:OwnSl e 1 B v n xs)
  (hb:(n + s.size) * bytes <= room) (hb2:n + s.size <= room)
  (hk:∀ B' v' w',OwnSl e 1 B' v' (n + s.size) (xs ++ Lib.strCells s)->Res w0 z0 B0 w' z (B' ++ L)->K v' w'):V (Builtin.append_ #[t,u] ty #[v,.string s]) w K:=by
 obtain ⟨zv,hinfo,hzs⟩:=g.info;obtain ⟨i,hi,hz⟩:=Option.map_eq_some_iff.1 hinfo;simp only [Prod.mk.injEq] at hz;obtain ⟨hz0,hz1,hz2⟩:=hz;have hlen:(xs ++ Lib.strCells s).length = (n + s.size) * 1:=by rw [List.length_append,ho.1,Lib.strCells_length]; omega
 simp only [room] at hb hb2;have hmax:n + s.size <= maxLen:=by simp only [maxLen]; omega
 have h63:((n + s.size:Nat):Int) <= 9223372036854775807:=by omega
 have grown:∀ (old:Nat) (w1:World),w1 = w.drew.alloc (.cells (xs.toArray ++ (Lib.strCells s).toArray ++ Builtin.zeroCells zv.cells (grownCap w (n + s.size) old e - (n + s.size))) e) ->
   Res w0 z0 B0 w1 z ((w.heap.size,.cells (xs ++ Lib.strCells s ++ (Builtin.zeroCells zv.cells (grownCap w (n + s.size) old e - (n + s.size))).toList).toArray e (0,0)) :: (B ++ L)):=fun old w1 hw1=>by
  subst hw1;have:=Res.new (Res.drew hS) (.cells (xs ++ Lib.strCells s ++ (Builtin.zeroCells zv.cells (grownCap w (n + s.size) old e - (n + s.size))).toList).toArray e (0,0));have he:(xs.toArray ++ (Lib.strCells s).toArray ++ Builtin.zeroCells zv.cells (grownCap w (n + s.size) old e - (n + s.size))) = (xs ++ Lib.strCells s ++ (Builtin.zeroCells zv.cells (grownCap w (n + s.size) old e - (n + s.size))).toList).toArray:=by
   apply Array.toList_inj.1; simp
  rw [he];exact this
 have own':∀ (old:Nat),OwnSl e 1 [(w.heap.size,.cells (xs ++ Lib.strCells s ++ (Builtin.zeroCells zv.cells (grownCap w (n + s.size) old e - (n + s.size))).toList).toArray e (0,0))] (.slice (some ⟨w.heap.size,0,none⟩) (n + s.size) (grownCap w (n + s.size) old e)) (n + s.size) (xs ++ Lib.strCells s):=fun old=>by
  have hge:=grownCap_ge w (n + s.size) old e;refine ⟨hlen,.inr ⟨_,_,_,rfl,rfl,hge,grownCap_le_maxLen w (n + s.size) old e hmax,?_⟩⟩;rw [List.length_append,hlen,Array.length_toList,size_zeroCells,hzs,<- Nat.add_mul]
  congr 1
  omega
 rcases ho.2 with ⟨rfl,rfl,rfl⟩ | ⟨b,cap,sp,rfl,rfl,hcap,hcm,hsz⟩
 ·have hx0:xs = []:=List.eq_nil_of_length_eq_zero (by have:=ho.1; simpa using this)
  subst hx0
  by_cases h0:s.size = 0
  ·have hs0:Lib.strCells s = []:=List.eq_nil_of_length_eq_zero (by rw [Lib.strCells_length]; exact h0)
   refine ⟨.slice none 0 0,w,?_,hk [] _ _ ?_ hS⟩
   ·have hf:=Lib.run_firstCells_string (P:=Tryz.prog) w 1 s
    rw [h0] at hf;simp [Builtin.append_,run_underlying g.und,run_underlying hu,sizeOf,typeInfo,hi,hz1,Builtin.lenOf,h0,hf]
   ·rw [h0,hs0]; exact OwnSl.nil
  ·have hr:=run_append_nil_string (P:=Tryz.prog) w t u ty e i zv g.und hu hi hz0 s (by omega) (by simpa using h63) (by rw [hz2]; simp only [Nat.zero_add] at hb; omega)
   refine ⟨_,_,hr,?_⟩;have h5:=grown 0 _ rfl;have h6:=own' 0;simp only [Nat.zero_add] at h5 h6;have he:s.data.map (fun b=>Value.int .u8 b.toNat) = (Lib.strCells s).toArray:=Array.ext' (by simp [Lib.strCells]);rw [he];exact hk _ _ _ (by simpa using h6) (by simpa using h5)
 ·by_cases hroom:n + s.size <= cap
  ·have hat:=hS.mem (b,.cells (xs ++ sp).toArray e (0,0)) (by simp)
   have hxl:xs.length = n:=by have:=ho.1; omega
   have hr:=Lib.run_append_room_string (P:=Tryz.prog) w t u ty e i g.und hu hi hz1 b n cap (xs ++ sp).toArray hat.1 s hroom (by simp only [List.size_toArray,hsz]; omega);refine ⟨_,_,hr,?_⟩;rw [setRow_eq hat.1];have hnew:((xs ++ sp).toArray.toList.take n ++ Lib.strCells s ++ (xs ++ sp).toArray.toList.drop (n + s.size)) = xs ++ Lib.strCells s ++ sp.drop s.size:=by
    simp only [<- hxl,List.take_left,List.drop_append,List.drop_of_length_le (Nat.le_add_right xs.length s.size)];simp
   rw [hnew];refine hk [(b,.cells (xs ++ Lib.strCells s ++ sp.drop s.size).toArray e (0,0))] _ _ ⟨hlen,.inr ⟨b,cap,sp.drop s.size,rfl,rfl,hroom,hcm,?_⟩⟩ (Res.put hS _ rfl);rw [List.length_append,hlen,List.length_drop];have:sp.length = cap * 1 - n:=by rw [<- hsz,List.length_append,hxl]; omega
   omega
  ·have hat:=hS.mem (b,.cells (xs ++ sp).toArray e (0,0)) (by simp)
   have holds:∀ j u,xs[j]? = some u->w.cell? ((⟨b,0,none⟩:Addr).add j) = some u:=fun j u hu=>by
    rw [add_addr];refine At.cell (vs:=xs) ⟨_,_,_,hat.1,fun j u hu=>?_⟩ hu;simp only [Nat.zero_add,List.getElem?_toArray];rw [List.getElem?_append_left (List.getElem?_eq_some_iff.1 hu).1];exact hu
   have hr:=Lib.run_append_grow_string (P:=Tryz.prog) w t u ty e i zv g.und hu hi hz0 ⟨b,0,none⟩ n cap xs (by rw [hz1]; exact ho.1) holds s (by omega) h63 (growslice_fits (by omega) (by rw [hz2]; exact hb));refine ⟨_,_,hr,hk _ _ _ (own' cap) ((grown cap _ rfl).sublist ?_)⟩;simp
end
end
section
open Go Q Go.RowKit
structure BuOk (b:Nat) (B:Bl) (xs:List Value):Prop where
 h:∃ p v Bb,B = (b,buO p v) :: Bb/\(p = none \/ p = some ⟨b,0,none⟩)/\OwnSl 5 1 Bb v xs.length xs
theorem BuOk.new {b:Nat}:BuOk b [(b,buO none (.slice none 0 0))] []:=⟨_,_,[],rfl,.inl rfl,OwnSl.nil⟩
theorem writeString {b:Nat} {B:Bl} {xs:List Value} {s:ByteArray} {z:Z} {w:World} (hB:BuOk b B xs) (hn:xs.length + s.size <= room) :
  Fn 125 #[.pointer (some ⟨b,0,none⟩),.string s] z B w fun _ B' r=>BuOk b B' (xs ++ Lib.strCells s)/\r = .tuple #[.int .i64 s.size,.nilIface]:=Fn.intro fun hS=>en125 (by
 unfold vc125;obtain ⟨p,v,Bb,rfl,hp,ho⟩:=hB.h;refine CV_fn (B:=[(b,buO p v)]) (F:=Bb) hS (copyCheck hp) (by simp) ?_;rintro z1 B1 w1 v1 hz1 hS1 ⟨rfl,rfl⟩
 obtain ⟨a,cap,rfl,hcap⟩:=ho.form;have hS1':Res w z _ w1 z1 ((b,buO (some ⟨b,0,none⟩) (.slice a xs.length cap)) :: Bb):=hS1;have hS2:=hS1'.bring Bb;clear hS1 hS1';(repeat (first | refine V_run ?_ | refine iV_ld1 ?_));refine V_appS (t:=55) (u:=9) (bytes:=1) (by kernel_rfl) hS2 ho (by omega) hn ?_;intro B' v' w2 ho' hS3;obtain ⟨a',cap',rfl,hcap'⟩:=ho'.form;clear hS2;(repeat (first | refine V_run ?_ | (refine iU_st ?_; intro _ _)));rename_i hSe;refine ⟨_,_,(hSe.bringB b),⟨_,_,_,rfl,.inr rfl,?_⟩,rfl⟩;rw [show (xs ++ Lib.strCells s).length = xs.length + s.size by rw [List.length_append,Lib.strCells_length]]
 simpa using ho')
theorem freeze_eq {w:World} {g n:Nat} {c:Array Value} {e:TypeId} (h:w.heap[g]? = some (.cells c e (0,0))) (hn:n ≠ 0):w.freeze ⟨g,0,none⟩ n = { w with heap:=w.heap.setIfInBounds g (.cells c e (0,n)) }:=by
 unfold World.freeze;rw [if_neg hn]
 congr 1
 apply Array.ext_getElem?
 intro j;rw [Array.getElem?_modify,Array.getElem?_setIfInBounds]
 by_cases hj:g = j
 ·subst hj
  rw [if_pos rfl,if_pos rfl,if_pos (lt_of_get h),h];simp
 ·rw [if_neg hj,if_neg hj]
theorem builderString {b:Nat} {B:Bl} {l:List UInt8} {z:Z} {w:World} (hB:BuOk b B (Lib.byteCells l)) (hl:l.length <= room) :
  Fn 132 #[.pointer (some ⟨b,0,none⟩)] z B w fun _ B' r=>B' = []/\r = .string ⟨l.toArray⟩:=Fn.intro fun hS=>en132 (by
 unfold vc132;obtain ⟨p,v,Bb,rfl,hp,ho⟩:=hB.h;obtain ⟨a,cap,rfl,hcap⟩:=ho.form;(repeat (first | (refine iDr ?_; intro _ _) | refine PV_run ?_ | refine iHV_1 ?_));rename_i w9 hSe;have hbl:(Lib.byteCells l).length = l.length:=Lib.byteCells_length l
 rcases ho.2 with ⟨rfl,hv,h0⟩ | ⟨g,cap',sp,rfl,hv,h1,h2,h3⟩
 ·have ha:a = none:=(Value.slice.inj hv).1
  subst ha;have hl0:l = []:=List.eq_nil_of_length_eq_zero (by omega);subst hl0;refine ⟨_,_,Lib.run_unsafeSliceData_nil _ _ _ _ _,?_⟩;(repeat (refine iRI_1 ?_));refine ⟨_,_,Lib.run_unsafeString_none _ _ _ _ _,?_⟩;(repeat (refine iRI_1 ?_));exact ⟨_,_,hSe.drop,rfl,rfl⟩
 ·have ha:a = some ⟨g,0,none⟩:=(Value.slice.inj hv).1
  have hc:cap' = cap:=(Value.slice.inj hv).2.2.symm;subst ha hc;have hgm:=hSe.mem (g,.cells (Lib.byteCells l ++ sp).toArray 5 (0,0)) (by simp);have hg1:w9.heap[g]? = some (.cells (Lib.byteCells l ++ sp).toArray 5 (0,0)):=hgm.1;have hsh:∀ w2:World,w2.heap[g]? = some (.cells (Lib.byteCells l ++ sp).toArray 5 (0,0))->w2.shape? g = some (5,cap'):=fun w2 h=>by
   unfold World.shape?;rw [h];simp only [List.size_toArray,h3,Nat.mul_one]
  by_cases hcap0:cap' = 0
  ·subst hcap0
   have hl0:l = []:=List.eq_nil_of_length_eq_zero (by omega);subst hl0;refine ⟨_,_,Lib.run_unsafeSliceData_zero _ _ _ 5 (by kernel_rfl) _ _ _ (hsh _ hg1),?_⟩;have hS9:Res w z _ (w9.alloc (.view ⟨g,0,none⟩ 5)) z _:=hSe.new (.view ⟨g,0,none⟩ 5);clear hSe hS;(repeat (refine iRI_1 ?_));refine ⟨_,_,Lib.run_unsafeString_none _ _ _ _ _,?_⟩;(repeat (refine iRI_1 ?_));exact ⟨_,_,hS9.drop,rfl,rfl⟩
  ·refine ⟨_,_,Lib.run_unsafeSliceData_row _ _ _ _ _ _ hcap0,?_⟩
   (repeat (refine iRI_1 ?_));rw [hbl] at hSe ⊢
   by_cases hl0:l = []
   ·subst hl0
    refine ⟨_,_,Lib.run_unsafeString_none _ _ _ _ _,?_⟩;(repeat (refine iRI_1 ?_));exact ⟨_,_,hSe.drop,rfl,rfl⟩
   ·refine ⟨_,_,Lib.run_unsafeString_row (e:=5) _ _ _ _ (by kernel_rfl) (by kernel_rfl) g cap' (hsh _ hg1) l hl0 (by omega) (by simp only [room] at hl; omega) (fun j x hx=>?_),?_⟩
    ·rw [add_addr]
     refine At.cell (vs:=Lib.byteCells l) ⟨_,_,_,hg1,fun j u hu=>?_⟩ (by unfold Lib.byteCells; rw [List.getElem?_map,hx]; rfl);simp only [Nat.zero_add,List.getElem?_toArray];rw [List.getElem?_append_left (List.getElem?_eq_some_iff.1 hu).1];exact hu
    ·rw [freeze_eq hg1 (by simpa using hl0)]
     have hS8:=Res.set (b:=g) hSe (.cells (Lib.byteCells l ++ sp).toArray 5 (0,l.length)) rfl;clear hSe hS;(repeat (refine iRI_1 ?_));exact ⟨_,_,hS8.drop,rfl,rfl⟩)
end
section
open Go Q Go.RowKit
instance:EntersX 276 (Extern.BytealgMakeNoZero.makeNoZero #[3] #[55]):=⟨fun _ _=>by kernel_rfl⟩
instance {t e n ty len cap:Nat} {a:Option Addr} [g:TySlice t e n]:Run (Builtin.cap_ #[t] ty #[.slice a len cap]) (.int .i64 cap):=⟨fun w=>by
 simp [Builtin.cap_,Sem.run_bind,g.und,goInt]⟩
theorem CV_xw {f:FuncId} {e:Array Value->Sem Value} [he:EntersX f e] {args:Array Value} {w w':World} {v:Value} {K:Value->World->Prop} (h:(e args).run Tryz.prog w = .ok v w') (hk:K v w'):CV (.func (.func f) #[] #[]) args w K:=by
 have:(callSem (.func (.func f) #[] #[]) args).run Tryz.prog w = .ok (.value v) w':=by
  simp only [callSem,Deferred.ofValue,pure_bind,invoke];have hh:=he.h (#[] ++ args ++ #[]) w;simp only [Array.empty_append,Array.append_empty] at hh ⊢;rw [hh];simp only [Sem.run_bind,h,Result.andThen_ok]
  rfl
 unfold CV CallV;rw [this];exact hk
theorem growFresh {b:Nat} {p:Option Addr} {n:Nat} {z:Z} {w:World} (hp:p = none \/ p = some ⟨b,0,none⟩) (hn:n <= room) :
  Fn 261 #[.pointer (some ⟨b,0,none⟩),.int .i64 n] z [(b,buO p (.slice none 0 0))] w fun _ B' r=>BuOk b B' []/\r = .tuple #[]:=Fn.intro fun hS=>en261 (by
 unfold vc261;simp only [room] at hn;haveI:InI ((2:Int) * ((0:Nat):Int)):=⟨by omega⟩
 haveI:InI ((2:Int) * ((0:Nat):Int) + (n:Int)):=⟨by omega⟩
 (repeat (first | (refine iDr ?_; intro _ _) | refine PV_run ?_ | refine iHV_1 ?_));rename_i w1 hS1;obtain ⟨cs,hr,h1,h2⟩:=Lib.run_makeNoZero (P:=Tryz.prog) w1 #[3] 55 5 (by kernel_rfl) n (by omega);rw [show (2:Int) * ((0:Nat):Int) + (n:Int) = n by omega];refine CV_xw (e:=Extern.BytealgMakeNoZero.makeNoZero #[3] #[55]) hr ?_;have hS2:Res w z [(b,buO p (.slice none 0 0))] (w1.drew.drew.alloc (.cells cs 5)) z [(w1.heap.size,.cells cs.toList.toArray 5 (0,0)),(b,buO p (.slice none 0 0))]:=by
  have:=Res.new (Res.drew (Res.drew hS1)) (.cells cs.toList.toArray 5 (0,0));rw [Array.toArray_toList] at this ⊢;exact this
 clear hS hS1;haveI:InR ((0:Nat):Int) ((cs.size:Int) + 1):=⟨by omega,by omega⟩
 (repeat (first | refine V_run ?_ | refine PV_run ?_ | refine iV_ld1 ?_ | refine iRI_1 ?_));refine ⟨_,_,run_copy_nil Tryz.prog _ 55 55 3 5 _ _ _ (by kernel_rfl) (by kernel_rfl),?_⟩;(repeat (first | refine V_run ?_ | (refine iU_st ?_; intro _ _)));rename_i hSe;refine ⟨_,_,hSe.bringB b,⟨_,_,_,rfl,hp,?_⟩,rfl⟩;refine ⟨rfl,.inr ⟨_,_,cs.toList,rfl,rfl,Nat.zero_le _,h2 (by simp only [maxLen]; omega),by simp⟩⟩)
end
section
open Go Q Go.RowKit
theorem growB {b:Nat} {p:Option Addr} {n:Int} {z:Z} {w:World} (hp:p = none \/ p = some ⟨b,0,none⟩) (h0:0 <= n) (hn:n <= 140737488355328) :
  Fn 235 #[.pointer (some ⟨b,0,none⟩),.int .i64 n] z [(b,buO p (.slice none 0 0))] w fun _ B' r=>BuOk b B' []/\r = .tuple #[]:=Fn.intro fun hS=>en235 (by
 unfold vc235;refine CV_fn (B:=[(b,buO p (.slice none 0 0))]) (F:=[]) (by simpa using hS) (copyCheck hp) (by simp) ?_;rintro z1 B1 w1 v1 hz1 hS1 ⟨rfl,rfl⟩
 rw [List.append_nil] at hS1;clear hS;haveI:InI (((0:Nat):Int) - ((0:Nat):Int)):=⟨by omega⟩
 (repeat (first | refine V_run ?_ | (refine J0 ?_; intro _ _)));refine Cond_d (fun h=>?_) (fun h=>?_)
 ·omega
 (repeat (first | (refine iDr ?_; intro _ _) | refine PV_run ?_ | refine iHV_1 ?_ | refine K0 ?_));have hS2:=‹Res w z _ _ _ _›
 refine Cond_d (fun h=>?_) (fun h=>?_)
 ·obtain ⟨m,rfl⟩:∃ m:Nat,n = m:=⟨n.toNat,by omega⟩
  refine CV_fn (B:=[(b,buO (some ⟨b,0,none⟩) (.slice none 0 0))]) (F:=[]) (by simpa using hS2) (growFresh (n:=m) (.inr rfl) (by simp only [room]; omega)) (by simp) ?_;rintro z3 B3 w3 v3 hz3 hS3 ⟨hB3,rfl⟩
  rw [List.append_nil] at hS3;exact ⟨_,_,hS3,hB3,rfl⟩
 ·exact ⟨_,_,hS2,⟨_,_,[],rfl,.inr rfl,OwnSl.nil⟩,rfl⟩)
end
end Go.Proofs.YtbeelfopmkbllaaGreatDoor
