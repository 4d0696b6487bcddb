/- Texts joined: Q7, Q8, Q9, Q10, Q11, Q12, Q13, Q14, Ty, Q15, Q16, Q17, Q18, Q19, Q20, Q21, Q22, Q23, N1, N2, N3, N4, N5, N6, N7, N8. -/
import Derived.Test.YtmideenmlhbdjaaGreatDoorM0
import Derived.Below
import Derived.Laws.AppendOwn
import Derived.IntWalk
import GoSem.Extern.BytealgIndexByte
import Derived.Laws.Bits128
import Derived.Laws.Shifts
import Derived.Laws.IdiomStrings
import Derived.Laws.BytesArg
import Derived.Lib.ItoaNum
set_option linter.unusedSimpArgs false
set_option linter.unusedVariables false
set_option linter.unusedSectionVars false
set_option maxRecDepth 100000
set_option synthInstance.maxHeartbeats 400000
set_option synthInstance.maxSize 2000
set_option maxHeartbeats 1000000
namespace Go.Proofs.YtmideenmlhbdjaaGreatDoor
section
open Go Q Go.RowKit
abbrev Z:=Nat->Option Obj
abbrev Bl:=List (Nat × Obj)
def Sub (z:Z) (w:World):Prop:=∀ b o,z b = some o->w.heap[b]? = some o
def Le (z z':Z):Prop:=∀ b o,z b = some o->z' b = some o
theorem Le.refl (z:Z):Le z z:=fun _ _ h=>h
theorem Le.trans {a b c:Z} (h:Le a b) (h':Le b c):Le a c:=fun _ _ hh=>h' _ _ (h _ _ hh)
def ids (B:Bl):List Nat:=B.map (·.1)
class Res (w0:outParam World) (z0:outParam Z) (B0:outParam Bl) (w:World) (z:outParam Z) (L:outParam Bl):Prop where
 os:w.os = w0.os
 tape:w.tape = w0.tape
 output:w.output = w0.output
 size:w0.heap.size <= w.heap.size
 base:∀ b,b < w0.heap.size->b ∉ ids B0->w.heap[b]? = w0.heap[b]?
 sub:Sub z w
 zle:Le z0 z
 znew:∀ b,z b ≠ none->z0 b ≠ none \/ w0.heap.size <= b \/ b ∈ ids B0
 mem:∀ p ∈ L,w.heap[p.1]? = some p.2/\z p.1 = none/\(w0.heap.size <= p.1 \/ p.1 ∈ ids B0)
 nodup:(ids L).Nodup
abbrev Own (w:World) (z:Z) (B:Bl):Prop:=Res w z B w z B
theorem mem_ids {B:Bl} {p:Nat × Obj} (h:p ∈ B):p.1 ∈ ids B:=List.mem_map.2 ⟨p,h,rfl⟩
theorem Own.mk' {w:World} {z:Z} {B:Bl} (h1:Sub z w) (h2:∀ p ∈ B,w.heap[p.1]? = some p.2/\z p.1 = none) (h3:(ids B).Nodup):Own w z B:=
 ⟨rfl,rfl,rfl,Nat.le_refl _,fun _ _ _=>rfl,h1,Le.refl _,fun b h=>.inl h,fun p hp=>⟨(h2 p hp).1,(h2 p hp).2,.inr (mem_ids hp)⟩,h3⟩
theorem lt_of_get {w:World} {b:Nat} {o:Obj} (h:w.heap[b]? = some o):b < w.heap.size:=(Array.getElem?_eq_some_iff.1 h).1
section
variable {w0 w w':World} {z0 z z':Z} {B0 B B' L F:Bl} {b:Nat} {o:Obj}
theorem Res.drop (h:Res w0 z0 B0 w z L):Res w0 z0 B0 w z []:={ h with mem:=fun _ hp=>(by cases hp),nodup:=.nil }
theorem Res.sublist (h:Res w0 z0 B0 w z L) {L':Bl} (hs:L'.Sublist L):Res w0 z0 B0 w z L':=
 { h with mem:=fun p hp=>h.mem p (hs.subset hp),nodup:=(hs.map _).nodup h.nodup }
theorem Res.perm (h:Res w0 z0 B0 w z L) {L':Bl} (hs:L.Perm L'):Res w0 z0 B0 w z L':=
 { h with mem:=fun p hp=>h.mem p (hs.mem_iff.2 hp),nodup:=(hs.map _).nodup_iff.1 h.nodup }
theorem Res.own (h:Res w0 z0 B0 w z (B ++ F)):Own w z B:=
 Own.mk' h.sub (fun p hp=>⟨(h.mem p (List.mem_append_left _ hp)).1,(h.mem p (List.mem_append_left _ hp)).2.1⟩) (by
  have:=h.nodup;simp only [ids,List.map_append] at this;exact (List.nodup_append.1 this).1)
theorem Res.step (h:Res w0 z0 B0 w z (B ++ F)) (k:Res w z B w' z' B'):Res w0 z0 B0 w' z' (B' ++ F) where
 os:=k.os.trans h.os
 tape:=k.tape.trans h.tape
 output:=k.output.trans h.output
 size:=Nat.le_trans h.size k.size
 base:=fun b hb hn=>by
  have hb':b < w.heap.size:=Nat.lt_of_lt_of_le hb h.size;rw [k.base b hb' fun hB=>?_,h.base b hb hn];obtain ⟨p,hp,rfl⟩:=List.mem_map.1 hB
  rcases (h.mem p (List.mem_append_left _ hp)).2.2 with hh | hh
  ·omega
  ·exact hn hh
 sub:=k.sub
 zle:=h.zle.trans k.zle
 znew:=fun b hb=>by
  rcases k.znew b hb with hh | hh | hh
  ·exact h.znew b hh
  ·exact .inr (.inl (Nat.le_trans h.size hh))
  ·obtain ⟨p,hp,rfl⟩:=List.mem_map.1 hh
   exact .inr (h.mem p (List.mem_append_left _ hp)).2.2
 mem:=fun p hp=>by
  rcases List.mem_append.1 hp with hp | hp
  ·obtain ⟨h1,h2,h3⟩:=k.mem p hp
   refine ⟨h1,h2,?_⟩
   rcases h3 with hh | hh
   ·exact .inl (Nat.le_trans h.size hh)
   ·obtain ⟨q,hq,hqp⟩:=List.mem_map.1 hh
    rw [<- hqp];exact (h.mem q (List.mem_append_left _ hq)).2.2
  ·obtain ⟨h1,h2,h3⟩:=h.mem p (List.mem_append_right _ hp)
   have hlt:=lt_of_get h1;have hnB:p.1 ∉ ids B:=fun hB=>by
    have:=h.nodup;simp only [ids,List.map_append] at this;exact (List.nodup_append.1 this).2.2 _ hB _ (mem_ids hp) rfl
   refine ⟨by rw [k.base _ hlt hnB]; exact h1,?_,h3⟩
   cases hz:z' p.1 with
   | none=>rfl
   | some o=>
    rcases k.znew p.1 (by rw [hz]; simp) with hh | hh | hh
    ·exact absurd h2 hh
    ·omega
    ·exact absurd hh hnB
 nodup:=by
  simp only [ids,List.map_append];refine List.nodup_append.2 ⟨k.nodup,?_,fun a ha b hb hab=>?_⟩
  ·have:=h.nodup
   simp only [ids,List.map_append] at this;exact (List.nodup_append.1 this).2.1
  ·subst hab
   obtain ⟨p,hp,rfl⟩:=List.mem_map.1 ha;obtain ⟨q,hq,hqp⟩:=List.mem_map.1 hb;have hq':=h.mem q (List.mem_append_right _ hq)
   rcases (k.mem p hp).2.2 with hh | hh
   ·have:=lt_of_get hq'.1
    omega
   ·have:=h.nodup
    simp only [ids,List.map_append] at this;exact (List.nodup_append.1 this).2.2 _ hh _ (mem_ids hq) hqp.symm
theorem Res.call1 (h:Res w0 z0 B0 w z L) (k:Res w z [] w' z' []):Res w0 z0 B0 w' z' L:=Res.step (B:=[]) (B':=[]) h k
theorem Res.new (h:Res w0 z0 B0 w z L) (o:Obj):Res w0 z0 B0 { w with heap:=w.heap.push o } z ((w.heap.size,o) :: L):=by
 refine Res.step (B:=[]) (B':=[(w.heap.size,o)]) h ⟨rfl,rfl,rfl,by simp,fun b hb _=>?_,fun b o' hz=>?_,Le.refl _,fun b hb=>.inl hb,fun p hp=>?_,by simp [ids]⟩
 ·simp [Array.getElem?_push,Nat.ne_of_lt hb]
 ·have:=lt_of_get (h.sub b o' hz)
  simp [Array.getElem?_push,Nat.ne_of_lt this];exact h.sub b o' hz
 ·simp only [List.mem_singleton] at hp
  subst hp;refine ⟨by simp,?_,.inl (Nat.le_refl _)⟩
  cases hz:z w.heap.size with
  | none=>rfl
  | some o'=>have:=lt_of_get (h.sub _ _ hz); omega
theorem Res.put (h:Res w0 z0 B0 w z ((b,o) :: L)) (o':Obj) {wn:World} (hw:wn = { w with heap:=w.heap.setIfInBounds b o' }):Res w0 z0 B0 wn z ((b,o') :: L):=by
 subst hw;have hb:=h.mem (b,o) List.mem_cons_self;have hlt:=lt_of_get hb.1;have hk:Own w z [(b,o)]:=Res.own (F:=L) h;refine Res.step (B:=[(b,o)]) (B':=[(b,o')]) h ⟨rfl,rfl,rfl,by simp,fun c hc hn=>?_,fun c o'' hz=>?_,Le.refl _,fun c hc=>.inl hc,fun p hp=>?_,by simp [ids]⟩
 ·have:b ≠ c:=fun e=>hn (by simp [ids,e])
  simp [Array.getElem?_setIfInBounds_ne this]
 ·have:b ≠ c:=fun e=>by rw [e] at hb; rw [hb.2.1] at hz; cases hz
  simp [Array.getElem?_setIfInBounds_ne this];exact h.sub c o'' hz
 ·simp only [List.mem_singleton] at hp
  subst hp;exact ⟨by simp [hlt],hb.2.1,.inr (by simp [ids])⟩
theorem Res.freeze (h:Res w0 z0 B0 w z ((b,o) :: L)):Res w0 z0 B0 w (fun c=>if c = b then some o else z c) L:=by
 have hb:=h.mem (b,o) List.mem_cons_self;refine { h with sub:=fun c o' hc=>?_,zle:=fun c o' hc=>?_,znew:=fun c hc=>?_,mem:=fun p hp=>?_,nodup:=?_ }
 ·by_cases hcb:c = b
  ·simp only [hcb,if_true,Option.some.injEq] at hc; subst hc; rw [hcb]; exact hb.1
  ·simp only [hcb,if_false] at hc; exact h.sub c o' hc
 ·by_cases hcb:c = b
  ·have:=h.zle c o' hc; rw [hcb,hb.2.1] at this; cases this
  ·simp only [hcb,if_false]; exact h.zle c o' hc
 ·by_cases hcb:c = b
  ·rw [hcb]; exact .inr hb.2.2
  ·simp only [hcb,if_false] at hc; exact h.znew c hc
 ·have hp':=h.mem p (List.mem_cons_of_mem _ hp)
  have hne:p.1 ≠ b:=fun e=>by
   have:=h.nodup;simp only [ids,List.map_cons,List.nodup_cons] at this;exact this.1 (e ▸ mem_ids hp)
  exact ⟨hp'.1,by simp only [hne,if_false]; exact hp'.2.1,hp'.2.2⟩
 ·have:=h.nodup
  simp only [ids,List.map_cons,List.nodup_cons] at this;exact this.2
theorem Res.freeze_le (h:Res w0 z0 B0 w z ((b,o) :: L)):Le z (fun c=>if c = b then some o else z c):=fun c o' hc=>by
 by_cases hcb:c = b
 ·rw [hcb,(h.mem (b,o) List.mem_cons_self).2.1] at hc; cases hc
 ·simp only [hcb,if_false]; exact hc
theorem Res.drew (h:Res w0 z0 B0 w z L):Res w0 z0 B0 { w with drawn:=w.drawn + 1 } z L:={ h with }
theorem Res.below (h:Res w0 z0 [] w z L):Below w0.heap.size w0 w:=⟨h.os,h.tape,h.output,h.size,fun b hb=>h.base b hb (by simp [ids])⟩
end
def Fn1 (f:FuncId) (args:Array Value) (z:Z) (w:World) (R:Z->Value->Prop):Prop:=
 Own w z []->Calls Tryz.prog f args w (retK fun v w'=>∃ z',Res w z [] w' z' []/\R z' v)
def Fn (f:FuncId) (args:Array Value) (z:Z) (B:Bl) (w:World) (R:Z->Bl->Value->Prop):Prop:=
 Own w z B->Calls Tryz.prog f args w (retK fun v w'=>∃ z' B',Res w z B w' z' B'/\R z' B' v)
class Enters (f:FuncId):Prop where
 h:∀ args w,(callFunc f args).run Tryz.prog w = .ok (.enter f args) w
theorem CV_enter {f:FuncId} [he:Enters f] {first args cap args':Array Value} {w:World} {K:Value->World->Prop} (ha:first ++ args ++ cap = args') (h:Calls Tryz.prog f args' w (retK K)) :
  CV (.func (.func f) first cap) args w K:=by
 subst ha;have:(callSem (.func (.func f) first cap) args).run Tryz.prog w = .ok (.enter f (first ++ args ++ cap)) w:=by
  simp only [callSem,Deferred.ofValue,pure_bind,invoke];exact he.h _ _
 unfold CV CallV;rw [this];exact h
section
variable {w0 w:World} {z0 z:Z} {B0 B L F:Bl} {f:FuncId} {args args' first cap:Array Value} {K:Value->World->Prop}
theorem CV_fn1 [Enters f] (hS:Res w0 z0 B0 w z L) {R:Z->Value->Prop} (h:Fn1 f args' z w R) (ha:first ++ args ++ cap = args') (hK:∀ z' w' v,Le z z'->Res w0 z0 B0 w' z' L->R z' v->K v w') :
  CV (.func (.func f) first cap) args w K:=by
 refine CV_enter ha ?_;refine Calls.mono (h (Res.own (B:=[]) hS)) ?_;refine retK.mono ?_;rintro v w' ⟨z',h1,h2⟩
 exact hK z' w' v h1.zle (hS.call1 h1) h2
theorem CV_fn [Enters f] (hS:Res w0 z0 B0 w z (B ++ F)) {R:Z->Bl->Value->Prop} (h:Fn f args' z B w R) (ha:first ++ args ++ cap = args') (hK:∀ z' B' w' v,Le z z'->Res w0 z0 B0 w' z' (B' ++ F)->R z' B' v->K v w') :
  CV (.func (.func f) first cap) args w K:=by
 refine CV_enter ha ?_;refine Calls.mono (h hS.own) ?_;refine retK.mono ?_;rintro v w' ⟨z',B',h1,h2⟩
 exact hK z' B' w' v h1.zle (hS.step h1) h2
end
end
section
open Go Q Go.RowKit
class Get (l:List Value) (i:Nat) (v:outParam Value):Prop where
 h:l[i]? = some v
instance (priority:=900) Get.tail {x:Value} {l:List Value} {i:Nat} {v:Value} [g:Get l i v]:Get (x :: l) (i + 1) v:=⟨by simpa using g.h⟩
instance Get.head {v:Value} {l:List Value}:Get (v :: l) 0 v:=⟨rfl⟩
class GetN (l:List Value) (i n:Nat) (vs:outParam (List Value)):Prop where
 len:vs.length = n
 h:∀ j v,vs[j]? = some v->l[i + j]? = some v
instance GetN.nil {l:List Value}:GetN l 0 0 []:=⟨rfl,fun j v h=>by simp at h⟩
instance GetN.cons {x:Value} {l vs:List Value} {n:Nat} [g:GetN l 0 n vs]:GetN (x :: l) 0 (n + 1) (x :: vs):=⟨by simp [g.len],fun j v h=>by
 cases j with
 | zero=>simpa using h
 | succ j=>have:=g.h j v (by simpa using h); simpa [Nat.add_comm,Nat.add_assoc] using this⟩
class SetN (l:List Value) (i:Nat) (vs:List Value) (l':outParam (List Value)):Prop where
 len:l'.length = l.length
 bound:i + vs.length <= l.length
 inn:∀ j v,vs[j]? = some v->l'[i + j]? = some v
 out:∀ k,k < i \/ i + vs.length <= k->l'[k]? = l[k]?
instance SetN.nil {l:List Value}:SetN l 0 [] l:=⟨rfl,by simp,fun j v h=>by simp at h,fun _ _=>rfl⟩
instance SetN.cons {x v:Value} {l vs l':List Value} [g:SetN l 0 vs l']:SetN (x :: l) 0 (v :: vs) (v :: l') where
 len:=by simp [g.len]
 bound:=by have:=g.bound; simp at this ⊢; omega
 inn:=fun j u h=>by
  cases j with
  | zero=>simpa using h
  | succ j=>have:=g.inn j u (by simpa using h); simpa [Nat.add_comm,Nat.add_assoc] using this
 out:=fun k hk=>by
  cases k with
  | zero=>simp at hk
  | succ k=>simpa using g.out k (.inr (by simp at hk; omega))
instance (priority:=900) SetN.skip {x:Value} {l vs l':List Value} {i:Nat} [g:SetN l i vs l']:SetN (x :: l) (i + 1) vs (x :: l') where
 len:=by simp [g.len]
 bound:=by have:=g.bound; simp at this ⊢; omega
 inn:=fun j u h=>by
  rw [show i + 1 + j = (i + j) + 1 by omega]
  simpa using g.inn j u h
 out:=fun k hk=>by
  cases k with
  | zero=>rfl
  | succ k=>simpa using g.out k (by omega)
class CellsOf (v:Value) (vs:outParam (List Value)):Prop where
 h:v.cells = vs.toArray
instance {l:List Value}:CellsOf (.agg l.toArray) l:=⟨rfl⟩
instance {k:IntKind} {n:Int}:CellsOf (.int k n) [.int k n]:=⟨rfl⟩
instance {b:Bool}:CellsOf (.bool b) [.bool b]:=⟨rfl⟩
instance {s:ByteArray}:CellsOf (.string s) [.string s]:=⟨rfl⟩
instance {a:Option Addr}:CellsOf (.pointer a) [.pointer a]:=⟨rfl⟩
instance {a:Option Addr} {n c:Nat}:CellsOf (.slice a n c) [.slice a n c]:=⟨rfl⟩
instance {fn:Go.Fn} {a c:Array Value}:CellsOf (.func fn a c) [.func fn a c]:=⟨rfl⟩
def isOne:Value->Bool
 | .agg _=>false
 | .tuple _=>false
 | _=>true
class Ones (vs:List Value):Prop where
 h:∀ v ∈ vs,isOne v = true
instance:Ones []:=⟨fun _ h=>by cases h⟩
class One (v:Value):Prop where
 h:isOne v = true
instance {k:IntKind} {n:Int}:One (.int k n):=⟨rfl⟩
instance {b:Bool}:One (.bool b):=⟨rfl⟩
instance {s:ByteArray}:One (.string s):=⟨rfl⟩
instance {a:Option Addr}:One (.pointer a):=⟨rfl⟩
instance {a:Option Addr} {n c:Nat}:One (.slice a n c):=⟨rfl⟩
instance {fn:Go.Fn} {a c:Array Value}:One (.func fn a c):=⟨rfl⟩
instance {v:Value} {vs:List Value} [a:One v] [b:Ones vs]:Ones (v :: vs):=⟨fun u hu=>by
 rcases List.mem_cons.1 hu with rfl | hu
 ·exact a.h
 ·exact b.h u hu⟩
class Blk (L:Bl) (b:Nat) (o:outParam Obj) (C:outParam (Obj->Bl)):Prop where
 h:L.Perm ((b,o) :: (C o).tail) \/ True
 perm:∃ R:Bl,L.Perm ((b,o) :: R)/\∀ o',(C o').Perm ((b,o') :: R)
instance Blk.head {b:Nat} {o:Obj} {L:Bl}:Blk ((b,o) :: L) b o (fun o'=>(b,o') :: L):=⟨.inr trivial,L,.refl _,fun _=>.refl _⟩
instance (priority:=900) Blk.tail {b:Nat} {o:Obj} {L:Bl} {C:Obj->Bl} {p:Nat × Obj} [g:Blk L b o C]:Blk (p :: L) b o (fun o'=>p :: C o'):=⟨.inr trivial,by
 obtain ⟨R,h1,h2⟩:=g.perm;exact ⟨p :: R,(h1.cons p).trans (.swap _ _ _),fun o'=>((h2 o').cons p).trans (.swap _ _ _)⟩⟩
instance (priority:=800) Blk.app {b:Nat} {o:Obj} {A L:Bl} {C:Obj->Bl} [g:Blk L b o C]:Blk (A ++ L) b o (fun o'=>A ++ C o'):=⟨.inr trivial,by
 obtain ⟨R,h1,h2⟩:=g.perm;exact ⟨A ++ R,(h1.append_left A).trans List.perm_middle,fun o'=>((h2 o').append_left A).trans List.perm_middle⟩⟩
section
variable {w0 w w':World} {z0 z z':Z} {B0 B B' L F:Bl} {b:Nat} {o:Obj} {C:Obj->Bl} {K:Value->World->Prop}
theorem Res.at_ (h:Res w0 z0 B0 w z L) [g:Blk L b o C]:w.heap[b]? = some o:=by
 obtain ⟨R,h1,_⟩:=g.perm;exact (h.mem (b,o) (h1.mem_iff.2 List.mem_cons_self)).1
theorem Res.set (h:Res w0 z0 B0 w z L) [g:Blk L b o C] (o':Obj) {wn:World} (hw:wn = { w with heap:=w.heap.setIfInBounds b o' }):Res w0 z0 B0 wn z (C o'):=by
 obtain ⟨R,h1,h2⟩:=g.perm;exact (Res.put (h.perm h1) o' hw).perm (h2 o').symm
def At (h:Nat->Option Obj) (b off:Nat) (vs:List Value):Prop:=∃ c ty fr,h b = some (.cells c ty fr)/\∀ j v,vs[j]? = some v->c[off + j]? = some v
abbrev hp (w:World):Nat->Option Obj:=fun b=>w.heap[b]?
theorem At.mono {z z':Z} {off:Nat} {vs:List Value} (h:At z b off vs) (hz:Le z z'):At z' b off vs:=let ⟨c,ty,fr,h1,h2⟩:=h; ⟨c,ty,fr,hz _ _ h1,h2⟩
theorem At.world {off:Nat} {vs:List Value} (h:At z b off vs) (hs:Sub z w):At (hp w) b off vs:=let ⟨c,ty,fr,h1,h2⟩:=h; ⟨c,ty,fr,hs _ _ h1,h2⟩
theorem At.cell {off:Nat} {vs:List Value} (h:At (hp w) b off vs) {j:Nat} {v:Value} (hv:vs[j]? = some v):w.cell? ⟨b,off + j,none⟩ = some v:=by
 obtain ⟨c,ty,fr,h1,h2⟩:=h;unfold World.cell?;simp only [show w.heap[b]? = _ from h1,Option.isSome_none];exact h2 j v hv
theorem Res.atN (h:Res w0 z0 B0 w z L) {l:List Value} {ty:TypeId} {fr:Nat × Nat} [g:Blk L b (.cells l.toArray ty fr) C] {off n:Nat} {vs:List Value} [gn:GetN l off n vs]:At (hp w) b off vs:=
 ⟨_,_,_,h.at_ (C:=C),fun j v hv=>by simpa using gn.h j v hv⟩
theorem Res.at1 (h:Res w0 z0 B0 w z L) {l:List Value} {ty:TypeId} {fr:Nat × Nat} [g:Blk L b (.cells l.toArray ty fr) C] {off:Nat} {v:Value} [gn:Get l off v]:At (hp w) b off [v]:=
 ⟨_,_,_,h.at_ (C:=C),fun j u hu=>by
  cases j with
  | zero=>simp at hu; subst hu; simpa using gn.h
  | succ j=>simp at hu⟩
theorem add_addr (b off i:Nat):(⟨b,off,none⟩:Addr).add i = ⟨b,off + i,none⟩:=by
 unfold Addr.add
 split
 ·rename_i h; subst h; rfl
 ·rfl
end
class TyOne (t:TypeId):Prop where
 agg:∀ w,(isAgg t).run Tryz.prog w = .ok false w
class TyAgg (t:TypeId) (n:outParam Nat):Prop where
 agg:∀ w,(isAgg t).run Tryz.prog w = .ok true w
class TySize (t:TypeId) (n:outParam Nat):Prop where
 size:∀ w,(sizeOf t).run Tryz.prog w = .ok n w
class TyZero (t:TypeId) (zs:outParam (List Value)):Prop where
 h:∃ v,v.cells = zs.toArray/\∀ w,(zeroValue t).run Tryz.prog w = .ok v w
class TySlice (t:TypeId) (e n:outParam Nat):Prop where
 und:∀ w,(underlying t).run Tryz.prog w = .ok (.slice e) w
 size:∀ w,(sizeOf e).run Tryz.prog w = .ok n w
class TyInt (t:TypeId) (k:outParam IntKind):Prop where
 und:∀ w,(underlying t).run Tryz.prog w = .ok (.int k) w
class TyStr (t:TypeId):Prop where
 und:∀ w,(underlying t).run Tryz.prog w = .ok .string w
class TyBool (t:TypeId):Prop where
 und:∀ w,(underlying t).run Tryz.prog w = .ok .bool w
class Fld (s i:Nat) (off:outParam Nat):Prop where
 h:∀ a w,(Instr.fieldAt s (.pointer (some a)) i).run Tryz.prog w = .ok (.pointer (some (a.add off))) w
class TyStruct (t:TypeId) (zs:outParam (List Value)) (places:outParam (List (Nat × Nat))):Prop where
 h:∀ (parts:Array (Nat × Value)) w,(Instr.build t parts).run Tryz.prog w = Sem.run Tryz.prog (match Instr.fill (places.toArray[·]?) zs.toArray parts.toList with | some cells=>pure (.agg cells) | _=>stuck "build: no such field, or a part of the wrong size") w
class Run (s:Sem Value) (v:outParam Value):Prop where
 h:∀ w,s.run Tryz.prog w = .ok v w
section
variable {w0 w w':World} {z0 z z':Z} {B0 B B' L F:Bl} {b:Nat} {o:Obj} {C:Obj->Bl} {K:Value->World->Prop}
theorem V_run {s:Sem Value} {v:Value} [g:Run s v] (h:K v w):V s w K:=⟨v,w,g.h w,h⟩
theorem PV_run {s:Sem Value} {v:Value} {K:Value->Prop} [g:Run s v] (h:K v):PV s K:=⟨v,g.h,h⟩
theorem loadCells_run {off n:Nat} {vs:List Value} (h:At (hp w) b off vs) (hl:vs.length = n):(loadCells ⟨b,off,none⟩ n).run Tryz.prog w = .ok vs.toArray w:=by
 have key:∀ (m i:Nat) (acc:Array Value),i + m = vs.length->(loadCellsFrom ⟨b,off,none⟩ i m acc).run Tryz.prog w = .ok (acc ++ (vs.drop i).toArray) w:=by
  intro m
  induction m with
  | zero=>intro i acc hi; simp only [loadCellsFrom]; rw [List.drop_of_length_le (by omega)]; simp [Sem.run]
  | succ m ih=>
   intro i acc hi;have hlt:i < vs.length:=by omega
   simp only [loadCellsFrom,Sem.run_bind,load,add_addr,Sem.run,h.cell (List.getElem?_eq_getElem hlt),Result.andThen_ok];rw [ih (i + 1) _ (by omega),List.drop_eq_getElem_cons hlt];simp
 unfold loadCells;rw [key n 0 #[] (by omega)];simp
theorem V_ld1 {t:TypeId} [g:TyOne t] {off:Nat} {v:Value} (h:At (hp w) b off [v]) (hk:K v w):V (ld t (.pointer (some ⟨b,off,none⟩))) w K:=by
 refine ⟨v,w,?_,hk⟩;have:=h.cell (j:=0) (v:=v) rfl;simp only [ld,Instr.loadAt,Instr.sureAddr,pure_bind,loadVar,Sem.run_bind,g.agg,Result.andThen_ok,Bool.false_eq_true,if_false,load,Sem.run];simp only [Nat.add_zero] at this;rw [this]
theorem V_ldN {t n:Nat} [g:TyAgg t n] [gs:TySize t n] {off:Nat} {vs:List Value} (h:At (hp w) b off vs) (hl:vs.length = n) (hk:K (.agg vs.toArray) w):V (ld t (.pointer (some ⟨b,off,none⟩))) w K:=by
 refine ⟨_,w,?_,hk⟩;simp only [ld,Instr.loadAt,Instr.sureAddr,pure_bind,loadVar,Sem.run_bind,g.agg,Result.andThen_ok,if_true,gs.size,loadCells_run h hl]
 rfl
theorem V_ldL1 (hS:Res w0 z0 B0 w z L) {t:TypeId} [g:TyOne t] {off:Nat} {v:Value} {l:List Value} {ty:TypeId} {fr:Nat × Nat} [Blk L b (.cells l.toArray ty fr) C] [Get l off v] (hk:K v w):V (ld t (.pointer (some ⟨b,off,none⟩))) w K:=
 V_ld1 hS.at1 hk
theorem V_ldLN (hS:Res w0 z0 B0 w z L) {t n:Nat} [g:TyAgg t n] [gs:TySize t n] {off:Nat} {vs:List Value} {l:List Value} {ty:TypeId} {fr:Nat × Nat} [Blk L b (.cells l.toArray ty fr) C] [gn:GetN l off n vs] (hk:K (.agg vs.toArray) w):V (ld t (.pointer (some ⟨b,off,none⟩))) w K:=
 V_ldN (Res.atN (gn:=gn) hS) gn.len hk
theorem V_al (hS:Res w0 z0 B0 w z L) {t:TypeId} {zs:List Value} [g:TyZero t zs] (hk:∀ b w',w0.heap.size <= b->Res w0 z0 B0 w' z ((b,.cells zs.toArray t (0,0)) :: L)->K (.pointer (some ⟨b,0,none⟩)) w'):V (al t) w K:=by
 obtain ⟨v,h1,h2⟩:=g.h;refine ⟨_,_,?_,hk w.heap.size _ hS.size (hS.new (.cells zs.toArray t (0,0)))⟩;simp only [al,Instr.alloc,Sem.run_bind,h2,Result.andThen_ok,newVar,newRow,newObj,Sem.run,h1]
 rfl
theorem V_bx (hS:Res w0 z0 B0 w z L) {t:TypeId} {v:Value} {vs:List Value} [g:CellsOf v vs] (hk:∀ b w',w0.heap.size <= b->Res w0 z0 B0 w' z ((b,.cells vs.toArray t (0,0)) :: L)->K (.pointer (some ⟨b,0,none⟩)) w'):V (bx t v) w K:=by
 refine ⟨_,_,?_,hk w.heap.size _ hS.size (hS.new (.cells vs.toArray t (0,0)))⟩;simp only [bx,Instr.box,Sem.run_bind,newVar,newRow,newObj,Sem.run,Result.andThen_ok,g.h]
 rfl
def setL:List Value->Nat->List Value->List Value
 | l,_,[]=>l
 | l,i,v :: vs=>setL (l.set i v) (i + 1) vs
theorem setL_get:∀ (vs l:List Value) (i k:Nat),i + vs.length <= l.length->(setL l i vs)[k]? = if i <= k/\k < i + vs.length then vs[k - i]? else l[k]?
 | [],l,i,k,_=>by simp only [setL,List.length_nil,Nat.add_zero]; rw [if_neg (by omega)]
 | v :: vs,l,i,k,hb=>by
  simp only [List.length_cons] at hb;simp only [setL,List.length_cons];rw [setL_get vs (l.set i v) (i + 1) k (by simp; omega)]
  by_cases h1:i + 1 <= k/\k < i + 1 + vs.length
  ·rw [if_pos h1,if_pos (by omega),show k - i = (k - (i + 1)) + 1 by omega,List.getElem?_cons_succ]
  ·rw [if_neg h1]
   by_cases h2:k = i
   ·subst h2; rw [if_pos (by omega),Nat.sub_self,List.getElem?_set_self (by omega)]; rfl
   ·rw [if_neg (by omega),List.getElem?_set_ne (fun e=>h2 e.symm)]
theorem SetN.eq {l vs l':List Value} {i:Nat} (g:SetN l i vs l'):setL l i vs = l':=by
 refine List.ext_getElem? fun k=>?_
 rw [setL_get vs l i k g.bound]
 split
 ·rename_i h
  have hlt:k - i < vs.length:=by omega
  rw [List.getElem?_eq_getElem hlt];have:=g.inn (k - i) _ (List.getElem?_eq_getElem hlt);rw [show i + (k - i) = k by omega] at this;exact this.symm
 ·rename_i h; exact (g.out k (by omega)).symm
theorem heap_set_self {w:World} {b:Nat} {o:Obj} (h:w.heap[b]? = some o):w.heap.setIfInBounds b o = w.heap:=by
 apply Array.ext_getElem?
 intro i;rw [Array.getElem?_setIfInBounds]
 split
 ·rename_i hb; subst hb; rw [if_pos (lt_of_get h),h]
 ·rfl
theorem storeCells_run {ty:TypeId}:∀ (vs l:List Value) (w:World) (off i:Nat),w.heap[b]? = some (.cells l.toArray ty (0,0))->off + i + vs.length <= l.length->(∀ v ∈ vs,isOne v = true) ->
  (storeCells ⟨b,off,none⟩ vs i).run Tryz.prog w = .ok () { w with heap:=w.heap.setIfInBounds b (.cells (setL l (off + i) vs).toArray ty (0,0)) }
 | [],l,w,off,i,h,_,_=>by
  simp only [storeCells,setL,heap_set_self h]
  rfl
 | v :: vs,l,w,off,i,h,hb,ho=>by
  simp only [List.length_cons] at hb;have hv:=ho v List.mem_cons_self;have hcell:w.cell? ⟨b,off + i,none⟩ = some (l[off + i]'(by omega)):=by
   unfold World.cell?;simp only [h,Option.isSome_none];simp [List.getElem?_eq_getElem (show off + i < l.length by omega)]
  have hfr:w.frozen? ⟨b,off + i,none⟩ = false:=by
   unfold World.frozen?;simp [h]
  have hset:w.setCell ⟨b,off + i,none⟩ v = { w with heap:=w.heap.setIfInBounds b (.cells (l.set (off + i) v).toArray ty (0,0)) }:=by
   unfold World.setCell
   congr 1
   apply Array.ext_getElem?
   intro j;rw [Array.getElem?_modify,Array.getElem?_setIfInBounds]
   by_cases hj:b = j
   ·subst hj
    have hb':=(Array.getElem?_eq_some_iff.1 h).2;simp [lt_of_get h,hb']
   ·simp [hj]
  have hrun:(store ⟨b,off + i,none⟩ v).run Tryz.prog w = .ok () { w with heap:=w.heap.setIfInBounds b (.cells (l.set (off + i) v).toArray ty (0,0)) }:=by
   rw [<- hset];unfold store
   cases v <;> simp only [isOne] at hv <;> first | (cases hv; done) | (unfold Sem.run; simp [hcell,hfr,Sem.run])
  simp only [storeCells,add_addr,Sem.run_bind,hrun,Result.andThen_ok];rw [storeCells_run (ty:=ty) vs (l.set (off + i) v) _ off (i + 1) (by simp [lt_of_get h]) (by simp; omega) (fun u hu=>ho u (List.mem_cons_of_mem _ hu))];simp only [Array.setIfInBounds_setIfInBounds,setL,Nat.add_assoc]
theorem U_st {K:World->Prop} (hS:Res w0 z0 B0 w z L) {t n off:Nat} {v:Value} {vs l l':List Value} {ty:TypeId} [g:Blk L b (.cells l.toArray ty (0,0)) C] [gs:TySize t n] [gc:CellsOf v vs] [go:Ones vs] (hn:vs.length = n) [gl:SetN l off vs l']
  (hk:∀ w',Res w0 z0 B0 w' z (C (.cells l'.toArray ty (0,0)))->K w'):U (st t (.pointer (some ⟨b,off,none⟩)) v) w K:=by
 refine ⟨_,?_,hk _ (Res.set (g:=g) hS (.cells l'.toArray ty (0,0)) rfl)⟩;have hsz:v.cells.size = n:=by rw [gc.h]; simpa using hn
 simp only [st,Instr.storeAt,Instr.sureAddr,pure_bind,storeVar,Sem.run_bind,gs.size,Result.andThen_ok,hsz,ne_eq,not_true_eq_false,if_false];rw [gc.h,storeCells_run vs l w off 0 (Res.at_ (g:=g) hS) (by have:=gl.bound; omega) go.h];rw [Nat.add_zero,gl.eq]
theorem CW_1 {t:TypeId} [g:TyOne t] {off:Nat} {v:Value} {K:Value->Prop} (h:At (hp w) b off [v]) (hk:K v):CW t (.pointer (some ⟨b,off,none⟩)) w K:=by
 refine ⟨v,?_,hk⟩;have:=h.cell (j:=0) (v:=v) rfl;simp only [loadVar,Sem.run_bind,g.agg,Result.andThen_ok,Bool.false_eq_true,if_false,load,Sem.run];simp only [Nat.add_zero] at this;rw [this]
theorem CW_N {t n:Nat} [g:TyAgg t n] [gs:TySize t n] {off:Nat} {vs:List Value} {K:Value->Prop} (h:At (hp w) b off vs) (hl:vs.length = n) (hk:K (.agg vs.toArray)):CW t (.pointer (some ⟨b,off,none⟩)) w K:=by
 refine ⟨_,?_,hk⟩;simp only [loadVar,Sem.run_bind,g.agg,Result.andThen_ok,if_true,gs.size,loadCells_run h hl]
 rfl
theorem CW_L1 (hS:Res w0 z0 B0 w z L) {t:TypeId} [g:TyOne t] {off:Nat} {v:Value} {l:List Value} {ty:TypeId} {fr:Nat × Nat} {K:Value->Prop} [Blk L b (.cells l.toArray ty fr) C] [Get l off v] (hk:K v):CW t (.pointer (some ⟨b,off,none⟩)) w K:=
 CW_1 hS.at1 hk
theorem CW_LN (hS:Res w0 z0 B0 w z L) {t n:Nat} [g:TyAgg t n] [gs:TySize t n] {off:Nat} {vs:List Value} {l:List Value} {ty:TypeId} {fr:Nat × Nat} {K:Value->Prop} [Blk L b (.cells l.toArray ty fr) C] [gn:GetN l off n vs] (hk:K (.agg vs.toArray)):CW t (.pointer (some ⟨b,off,none⟩)) w K:=
 CW_N (Res.atN (gn:=gn) hS) gn.len hk
end
end
section
open Go Q Go.RowKit
class TyArr (t:TypeId) (n e s:outParam Nat):Prop where
 und:∀ w,(underlying t).run Tryz.prog w = .ok (.array n e) w
 size:∀ w,(sizeOf e).run Tryz.prog w = .ok s w
class TyMap (t:TypeId) (k e:outParam Nat):Prop where
 und:∀ w,(underlying t).run Tryz.prog w = .ok (.map k e) w
class TyApp (t:TypeId) (e size bytes:outParam Nat):Prop where
 und:Tryz.prog.underlying t = some (.slice e)
 info:∃ z:Value,(Tryz.prog.info? e).map (fun i=>(i.zero,i.size,i.bytes)) = some (some z,size,bytes)/\z.cells.size = size
 pos:0 < size
class Fld1 (s i:Nat) (off:outParam Nat):Prop where
 h:∀ cs w,(Instr.field s (.agg cs) i).run Tryz.prog w = Sem.run Tryz.prog (match cs[off]? with | some v=>pure v | none=>stuck "part: no such cell") w
theorem toList_eq (s:ByteArray):s.toList = s.data.toList:=by
 have key:∀ (k i:Nat) (r:List UInt8),s.size - i = k->ByteArray.toList.loop s i r = r.reverse ++ s.data.toList.drop i:=by
  intro k
  induction k with
  | zero=>
   intro i r hk;unfold ByteArray.toList.loop;have:¬ i < s.size:=by omega
   rw [if_neg this,List.drop_of_length_le (by simp [<- ByteArray.size_data] at *; omega)];simp
  | succ k ih=>
   intro i r hk;unfold ByteArray.toList.loop;have hlt:i < s.size:=by omega
   rw [if_pos hlt,ih (i + 1) _ (by omega)];have hl:i < s.data.toList.length:=by simpa using hlt
   rw [List.drop_eq_getElem_cons hl];simp only [List.reverse_cons,List.append_assoc,List.cons_append,List.nil_append]
   congr 2
   have:s.get! i = s.data[i]'(by simpa using hl):=by
    show s.data[i]! = _
    rw [getElem!_pos s.data i (by simpa using hl)]
   rw [this]; simp
 unfold ByteArray.toList;rw [key s.size 0 [] rfl];simp
theorem str_eq (a b:ByteArray):(a.toList == b.toList) = decide (a = b):=by
 rw [toList_eq,toList_eq]
 by_cases h:a = b
 ·subst h; simp
 ·rw [decide_eq_false h,beq_eq_false_iff_ne]
  intro hh
  apply h
  cases a; cases b
  simp only at hh;rw [Array.toList_inj.1 hh]
theorem equalIn_bool (d:Nat) {t:Nat} {a b:Bool} [g:TyBool t] (w:World):(Op.equalIn (d + 1) t (.bool a) (.bool b)).run Tryz.prog w = .ok (a == b) w:=by
 simp only [Op.equalIn,Sem.run_bind,g.und,Result.andThen_ok]
 rfl
theorem equal_bool {t:Nat} {a b:Bool} [g:TyBool t] (w:World):(Op.equalIn Op.maxDepth t (.bool a) (.bool b)).run Tryz.prog w = .ok (a == b) w:=equalIn_bool 9999 w
class AddN (a b:Nat) (c:outParam Nat):Prop where
 h:a + b = c
instance (priority:=500) {a b:Nat}:AddN a b (a + b):=⟨rfl⟩
instance (priority:=600) {a:Nat}:AddN 0 a a:=⟨Nat.zero_add a⟩
instance (priority:=700) {a:Nat}:AddN a 0 a:=⟨rfl⟩
instance {s i off b o c:Nat} [g:Fld s i off] [ga:AddN o off c]:Run (fa s (.pointer (some ⟨b,o,none⟩)) i) (.pointer (some ⟨b,c,none⟩)):=⟨fun w=>by rw [<- ga.h,<- add_addr]; exact g.h _ w⟩
instance {s i off:Nat} {l:List Value} {v:Value} [g:Fld1 s i off] [gg:Get l off v]:Run (fl s (.agg l.toArray) i) v:=⟨fun w=>by rw [show fl s (.agg l.toArray) i = Instr.field s (.agg l.toArray) i from rfl,g.h]; simp [gg.h]⟩
instance {t e n ty len cap:Nat} {a:Option Addr} [g:TySlice t e n]:Run (Builtin.len_ #[t] ty #[.slice a len cap]) (.int .i64 len):=⟨fun w=>by
 simp [Builtin.len_,Sem.run_bind,g.und,goInt]⟩
instance {t ty:Nat} {s:ByteArray} [g:TyStr t]:Run (Builtin.len_ #[t] ty #[.string s]) (.int .i64 s.size):=⟨fun w=>by
 simp [Builtin.len_,Sem.run_bind,g.und,goInt]⟩
instance {b:Bool}:Run (un .not (.bool b)) (.bool (!b)):=⟨fun _=>rfl⟩
instance {k:IntKind} {n:Int}:Run (un .neg (.int k n)) (.int k (k.wrap (0 - n))):=⟨fun _=>rfl⟩
instance {t:Nat} {k:IntKind} {a b:Int}:Run (bi .lss t (.int k a) (.int k b)) (.bool (decide (a < b))):=⟨fun _=>by simp [bi,binOp,Op.intCmp]⟩
instance {t:Nat} {k:IntKind} {a b:Int}:Run (bi .leq t (.int k a) (.int k b)) (.bool (decide (a <= b))):=⟨fun _=>by simp [bi,binOp,Op.intCmp]⟩
instance {t:Nat} {k:IntKind} {a b:Int}:Run (bi .gtr t (.int k a) (.int k b)) (.bool (decide (a > b))):=⟨fun _=>by simp [bi,binOp,Op.intCmp]⟩
instance {t:Nat} {k:IntKind} {a b:Int}:Run (bi .geq t (.int k a) (.int k b)) (.bool (decide (a ≥ b))):=⟨fun _=>by simp [bi,binOp,Op.intCmp]⟩
instance {t:Nat} {k:IntKind} {a b:Int} {x y:Operand}:Run (eq .eql t x y (.int k a) (.int k b)) (.bool (decide (a = b))):=⟨fun _=>by
 simp [eq,eqGuard,binOp,Op.intCmp]; exact Bool.beq_eq_decide_eq a b⟩
instance {t:Nat} {k:IntKind} {a b:Int} {x y:Operand}:Run (eq .neq t x y (.int k a) (.int k b)) (.bool (!decide (a = b))):=⟨fun _=>by
 simp [eq,eqGuard,binOp,Op.intCmp,bne]; exact Bool.beq_eq_decide_eq a b⟩
instance {t:Nat} {a b:ByteArray} {x y:Operand}:Run (eq .eql t x y (.string a) (.string b)) (.bool (decide (a = b))):=⟨fun _=>by
 simp [eq,eqGuard,binOp,Op.stringOp,str_eq]⟩
instance {t:Nat} {a b:ByteArray} {x y:Operand}:Run (eq .neq t x y (.string a) (.string b)) (.bool (!decide (a = b))):=⟨fun _=>by
 simp [eq,eqGuard,binOp,Op.stringOp,str_eq]⟩
instance {t:Nat} {a b:Bool} {x y:Operand} [g:TyBool t]:Run (eq .eql t x y (.bool a) (.bool b)) (.bool (a == b)):=⟨fun w=>by
 simp only [eq,eqGuard,binOp,Op.equal,Sem.run_bind,equal_bool,Result.andThen_ok]
 rfl⟩
instance {t:Nat} {a b:Bool} {x y:Operand} [g:TyBool t]:Run (eq .neq t x y (.bool a) (.bool b)) (.bool (!(a == b))):=⟨fun w=>by
 simp only [eq,eqGuard,binOp,Op.equal,Sem.run_bind,equal_bool,Result.andThen_ok]
 rfl⟩
instance {l:List Value} {i:Nat} {v:Value} [g:Get l i v]:Run (ex (.tuple l.toArray) i) v:=⟨fun w=>by simp [ex,Instr.extract,g.h]⟩
instance {a b:Nat} {k kk k':IntKind} {n:Int} [g:TyInt a k] [g':TyInt b k']:Run (cv a b (.int kk n)) (.int k' (k'.wrap n)):=⟨fun w=>by
 simp [cv,convert,Sem.run_bind,g.und,g'.und,Conv.intToInt]⟩
class LenIs (l:List Value) (n:Nat):Prop where
 h:l.length = n
instance:LenIs [] 0:=⟨rfl⟩
instance {v:Value} {l:List Value} {n:Nat} [g:LenIs l n]:LenIs (v :: l) (n + 1):=⟨by simp [g.h]⟩
class FillB (places:List (Nat × Nat)) (cells:List Value) (parts:List (Nat × Value)) (out:outParam (List Value)):Prop where
 h:Instr.fill (places[·]?) cells.toArray parts = some out.toArray
class GetP (l:List (Nat × Nat)) (i:Nat) (a b:outParam Nat):Prop where
 h:l[i]? = some (a,b)
instance {a b:Nat} {l:List (Nat × Nat)}:GetP ((a,b) :: l) 0 a b:=⟨rfl⟩
instance (priority:=900) {p:Nat × Nat} {a b i:Nat} {l:List (Nat × Nat)} [g:GetP l i a b]:GetP (p :: l) (i + 1) a b:=⟨by simpa using g.h⟩
instance {places:List (Nat × Nat)} {cells:List Value}:FillB places cells [] cells:=⟨rfl⟩
theorem fold_set:∀ (vs l:List Value) (off i:Nat),((vs.zipIdx i).foldl (fun (cs:Array Value) (p:Value × Nat)=>cs.setIfInBounds (off + p.2) p.1) l.toArray) = (setL l (off + i) vs).toArray
 | [],l,off,i=>rfl
 | v :: vs,l,off,i=>by
  simp only [List.zipIdx_cons,List.foldl_cons,setL];rw [show (l.toArray.setIfInBounds (off + i) v) = (l.set (off + i) v).toArray by simp];rw [fold_set vs (l.set (off + i) v) off (i + 1)]
  rfl
instance {places:List (Nat × Nat)} {cells cells' out vs:List Value} {i off n:Nat} {v:Value} {parts:List (Nat × Value)} [gp:GetP places i off n] [gc:CellsOf v vs] [gs:SetN cells off vs cells'] [gn:LenIs vs n] [gf:FillB places cells' parts out] :
  FillB places cells ((i,v) :: parts) out:=⟨by
 have hn:=gn.h;unfold Instr.fill;simp only [gp.h,gc.h,List.size_toArray,hn];have hb:=gs.bound;rw [hn] at hb;have hb':¬ (off + n > cells.length):=by omega
 simp only [ne_eq,not_true_eq_false,decide_false,Bool.false_or,decide_eq_true_eq,hb',if_false];have:(vs.toArray.zipIdx.foldl (fun cs (x:Value × Nat)=>cs.setIfInBounds (off + x.2) x.1) cells.toArray) = cells'.toArray:=by
  rw [<- Array.foldl_toList,Array.toList_zipIdx,fold_set,Nat.add_zero,gs.eq]
 rw [this];exact gf.h⟩
instance {t:Nat} {zs out:List Value} {places:List (Nat × Nat)} {parts:List (Nat × Value)} [g:TyStruct t zs places] [gf:FillB places zs parts out]:Run (bd t parts.toArray) (.agg out.toArray):=⟨fun w=>by
 rw [show bd t parts.toArray = Instr.build t parts.toArray from rfl,g.h];have:(fun x:Nat=>(places.toArray)[x]?) = (fun x:Nat=>places[x]?):=by funext x; simp
 rw [this,gf.h]
 rfl⟩
section tests
variable {A B:Prop} {b:Bool} {p:Prop} [Decidable p]
theorem Cond_t (h:A):CondW (.bool true) A B:=⟨true,rfl,fun _=>h,fun hh=>(by cases hh)⟩
theorem Cond_f (h:B):CondW (.bool false) A B:=⟨false,rfl,fun hh=>(by cases hh),fun _=>h⟩
theorem Cond_b (h1:b = true->A) (h2:b = false->B):CondW (.bool b) A B:=⟨b,rfl,h1,h2⟩
theorem Cond_d (h1:p->A) (h2:¬ p->B):CondW (.bool (decide p)) A B:=⟨_,rfl,fun h=>h1 (of_decide_eq_true h),fun h=>h2 (of_decide_eq_false h)⟩
theorem Cond_nd (h1:¬ p->A) (h2:p->B):CondW (.bool (!decide p)) A B:=⟨_,rfl,fun h=>h1 (by simpa using h),fun h=>h2 (by simpa using h)⟩
theorem Cond_n (h1:b = false->A) (h2:b = true->B):CondW (.bool (!b)) A B:=⟨_,rfl,fun h=>h1 (by simpa using h),fun h=>h2 (by simpa using h)⟩
theorem Cond_is (h:b = true) (h1:A):CondW (.bool b) A B:=⟨b,rfl,fun _=>h1,fun hh=>(by rw [h] at hh; cases hh)⟩
theorem Cond_not (h:b = false) (h1:B):CondW (.bool b) A B:=⟨b,rfl,fun hh=>by (rw [h] at hh; cases hh),fun _=>h1⟩
theorem Pk_b {x y:Value} {K:Value->Prop} (h:K (bif b then x else y)):Pk (.bool b) x y K:=h
end tests
section
variable {w0 w w':World} {z0 z z':Z} {B0 B B' L F:Bl} {b:Nat} {o:Obj} {C:Obj->Bl} {K:Value->World->Prop}
theorem Dr_intro {K:World->Prop} (hS:Res w0 z0 B0 w z L) (hk:∀ w',Res w0 z0 B0 w' z L->K w'):Dr w K:=hk _ hS.drew
theorem run_ld1 {t:TypeId} [g:TyOne t] {off:Nat} {v:Value} (h:At (hp w) b off [v]):(ld t (.pointer (some ⟨b,off,none⟩))).run Tryz.prog w = .ok v w:=by
 obtain ⟨v',w',h1,h2,h3⟩:=V_ld1 (t:=t) (K:=fun v' w'=>v' = v/\w' = w) h ⟨rfl,rfl⟩;rw [h1,h2,h3]
theorem run_ldN {t n:Nat} [g:TyAgg t n] [gs:TySize t n] {off:Nat} {vs:List Value} (h:At (hp w) b off vs) (hl:vs.length = n):(ld t (.pointer (some ⟨b,off,none⟩))).run Tryz.prog w = .ok (.agg vs.toArray) w:=by
 obtain ⟨v',w',h1,h2,h3⟩:=V_ldN (t:=t) (K:=fun v' w'=>v' = .agg vs.toArray/\w' = w) h hl ⟨rfl,rfl⟩;rw [h1,h2,h3]
theorem HV_of {s:Sem Value} {v:Value} {K:Value->Prop} (h:s.run Tryz.prog w = .ok v w) (hk:K v):HV s w K:=⟨v,h,hk⟩
theorem HV_run {s:Sem Value} {v:Value} {K:Value->Prop} [g:Run s v] (h:K v):HV s w K:=⟨v,g.h w,h⟩
theorem HV_ldL1 (hS:Res w0 z0 B0 w z L) {K:Value->Prop} {t:TypeId} [g:TyOne t] {off:Nat} {v:Value} {l:List Value} {ty:TypeId} {fr:Nat × Nat} [Blk L b (.cells l.toArray ty fr) C] [Get l off v] (hk:K v):HV (ld t (.pointer (some ⟨b,off,none⟩))) w K:=
 HV_of (run_ld1 hS.at1) hk
theorem HV_ldLN (hS:Res w0 z0 B0 w z L) {K:Value->Prop} {t n:Nat} [g:TyAgg t n] [gs:TySize t n] {off:Nat} {vs:List Value} {l:List Value} {ty:TypeId} {fr:Nat × Nat} [Blk L b (.cells l.toArray ty fr) C] [gn:GetN l off n vs] (hk:K (.agg vs.toArray)):HV (ld t (.pointer (some ⟨b,off,none⟩))) w K:=
 HV_of (run_ldN (Res.atN (gn:=gn) hS) gn.len) hk
theorem RunIs_ldL1 (hS:Res w0 z0 B0 w z L) {t:TypeId} [g:TyOne t] {off:Nat} {v:Value} {l:List Value} {ty:TypeId} {fr:Nat × Nat} [Blk L b (.cells l.toArray ty fr) C] [Get l off v]:RunIs (ld t (.pointer (some ⟨b,off,none⟩))) w v:=
 run_ld1 hS.at1
theorem RunIs_ldLN (hS:Res w0 z0 B0 w z L) {t n:Nat} [g:TyAgg t n] [gs:TySize t n] {off:Nat} {vs:List Value} {l:List Value} {ty:TypeId} {fr:Nat × Nat} [Blk L b (.cells l.toArray ty fr) C] [gn:GetN l off n vs]:RunIs (ld t (.pointer (some ⟨b,off,none⟩))) w (.agg vs.toArray):=
 run_ldN (Res.atN (gn:=gn) hS) gn.len
theorem NilW_some {a:Addr} {K:Value->Prop} (h:K (.pointer (some a))):NilW (.pointer (some a)) K:=h
def inI (n:Int):Prop:=-9223372036854775808 <= n/\n <= 9223372036854775807
theorem wrap_in {n:Int} (h:inI n):IntKind.i64.wrap n = n:=IntWalk.i64_in n h
end
end
section
open Go Q Go.RowKit
class JK0 (K:List Value->World->Prop) (rest:outParam (World->Prop)):Prop where
 h:∀ w,rest w->K [] w
class JK1 (K:List Value->World->Prop) (rest:outParam (Value->World->Prop)):Prop where
 h:∀ a w,rest a w->K [a] w
class JK2 (K:List Value->World->Prop) (rest:outParam (Value->Value->World->Prop)):Prop where
 h:∀ a b w,rest a b w->K [a,b] w
class JK3 (K:List Value->World->Prop) (rest:outParam (Value->Value->Value->World->Prop)):Prop where
 h:∀ a b c w,rest a b c w->K [a,b,c] w
class JK4 (K:List Value->World->Prop) (rest:outParam (Value->Value->Value->Value->World->Prop)):Prop where
 h:∀ a b c d w,rest a b c d w->K [a,b,c,d] w
section
variable {body:(List Value->World->Prop)->Prop} {K:List Value->World->Prop} {a b c d:Value} {w:World}
theorem J0 {rest:World->Prop} (h:∀ K,JK0 K rest->body K):∀ K:List Value->World->Prop,(∀ w,(∀ _:Env,rest w)->K [] w)->body K:=fun K hK=>h K ⟨fun w r=>hK w fun _=>r⟩
theorem J1 {rest:Value->World->Prop} (h:∀ K,JK1 K rest->body K):∀ K:List Value->World->Prop,(∀ a w,(∀ _:Env,rest a w)->K [a] w)->body K:=fun K hK=>h K ⟨fun a w r=>hK a w fun _=>r⟩
theorem J2 {rest:Value->Value->World->Prop} (h:∀ K,JK2 K rest->body K):∀ K:List Value->World->Prop,(∀ a b w,(∀ _:Env,rest a b w)->K [a,b] w)->body K:=fun K hK=>h K ⟨fun a b w r=>hK a b w fun _=>r⟩
theorem J3 {rest:Value->Value->Value->World->Prop} (h:∀ K,JK3 K rest->body K):∀ K:List Value->World->Prop,(∀ a b c w,(∀ _:Env,rest a b c w)->K [a,b,c] w)->body K:=fun K hK=>h K ⟨fun a b c w r=>hK a b c w fun _=>r⟩
theorem J4 {rest:Value->Value->Value->Value->World->Prop} (h:∀ K,JK4 K rest->body K):∀ K:List Value->World->Prop,(∀ a b c d w,(∀ _:Env,rest a b c d w)->K [a,b,c,d] w)->body K:=fun K hK=>h K ⟨fun a b c d w r=>hK a b c d w fun _=>r⟩
theorem K0 {rest:World->Prop} [g:JK0 K rest] (h:rest w):K [] w:=g.h w h
theorem K1 {rest:Value->World->Prop} [g:JK1 K rest] (h:rest a w):K [a] w:=g.h a w h
theorem K2 {rest:Value->Value->World->Prop} [g:JK2 K rest] (h:rest a b w):K [a,b] w:=g.h a b w h
theorem K3 {rest:Value->Value->Value->World->Prop} [g:JK3 K rest] (h:rest a b c w):K [a,b,c] w:=g.h a b c w h
theorem K4 {rest:Value->Value->Value->Value->World->Prop} [g:JK4 K rest] (h:rest a b c d w):K [a,b,c,d] w:=g.h a b c d w h
end
section
variable {w0 w w':World} {z0 z z':Z} {B0 B B' L F:Bl} {b:Nat} {o:Obj} {C:Obj->Bl} {K:Value->World->Prop}
theorem iV_ld1 [hS:Res w0 z0 B0 w z L] {t:TypeId} [g:TyOne t] {off:Nat} {v:Value} {l:List Value} {ty:TypeId} {fr:Nat × Nat} [Blk L b (.cells l.toArray ty fr) C] [Get l off v] (hk:K v w):V (ld t (.pointer (some ⟨b,off,none⟩))) w K:=V_ldL1 hS hk
theorem iV_ldN [hS:Res w0 z0 B0 w z L] {t n:Nat} [g:TyAgg t n] [gs:TySize t n] {off:Nat} {vs:List Value} {l:List Value} {ty:TypeId} {fr:Nat × Nat} [Blk L b (.cells l.toArray ty fr) C] [gn:GetN l off n vs] (hk:K (.agg vs.toArray) w):V (ld t (.pointer (some ⟨b,off,none⟩))) w K:=V_ldLN hS hk
theorem iV_al [hS:Res w0 z0 B0 w z L] {t:TypeId} {zs:List Value} [g:TyZero t zs] (hk:∀ b w',w0.heap.size <= b->Res w0 z0 B0 w' z ((b,.cells zs.toArray t (0,0)) :: L)->K (.pointer (some ⟨b,0,none⟩)) w'):V (al t) w K:=V_al hS hk
theorem iV_bx [hS:Res w0 z0 B0 w z L] {t:TypeId} {v:Value} {vs:List Value} [g:CellsOf v vs] (hk:∀ b w',w0.heap.size <= b->Res w0 z0 B0 w' z ((b,.cells vs.toArray t (0,0)) :: L)->K (.pointer (some ⟨b,0,none⟩)) w'):V (bx t v) w K:=V_bx hS hk
theorem iU_st {K:World->Prop} [hS:Res w0 z0 B0 w z L] {t n off:Nat} {v:Value} {vs l l':List Value} {ty:TypeId} [g:Blk L b (.cells l.toArray ty (0,0)) C] [gs:TySize t n] [gc:CellsOf v vs] [go:Ones vs] [hn:LenIs vs n] [gl:SetN l off vs l']
  (hk:∀ w',Res w0 z0 B0 w' z (C (.cells l'.toArray ty (0,0)))->K w'):U (st t (.pointer (some ⟨b,off,none⟩)) v) w K:=U_st (C:=C) hS hn.h hk
theorem iCW_1 [hS:Res w0 z0 B0 w z L] {t:TypeId} [g:TyOne t] {off:Nat} {v:Value} {l:List Value} {ty:TypeId} {fr:Nat × Nat} {K:Value->Prop} [Blk L b (.cells l.toArray ty fr) C] [Get l off v] (hk:K v):CW t (.pointer (some ⟨b,off,none⟩)) w K:=CW_L1 hS hk
theorem iCW_N [hS:Res w0 z0 B0 w z L] {t n:Nat} [g:TyAgg t n] [gs:TySize t n] {off:Nat} {vs:List Value} {l:List Value} {ty:TypeId} {fr:Nat × Nat} {K:Value->Prop} [Blk L b (.cells l.toArray ty fr) C] [gn:GetN l off n vs] (hk:K (.agg vs.toArray)):CW t (.pointer (some ⟨b,off,none⟩)) w K:=CW_LN hS hk
theorem iHV_1 [hS:Res w0 z0 B0 w z L] {K:Value->Prop} {t:TypeId} [g:TyOne t] {off:Nat} {v:Value} {l:List Value} {ty:TypeId} {fr:Nat × Nat} [Blk L b (.cells l.toArray ty fr) C] [Get l off v] (hk:K v):HV (ld t (.pointer (some ⟨b,off,none⟩))) w K:=HV_ldL1 hS hk
theorem iHV_N [hS:Res w0 z0 B0 w z L] {K:Value->Prop} {t n:Nat} [g:TyAgg t n] [gs:TySize t n] {off:Nat} {vs:List Value} {l:List Value} {ty:TypeId} {fr:Nat × Nat} [Blk L b (.cells l.toArray ty fr) C] [gn:GetN l off n vs] (hk:K (.agg vs.toArray)):HV (ld t (.pointer (some ⟨b,off,none⟩))) w K:=HV_ldLN hS hk
theorem iRI_1 {A:Prop} [hS:Res w0 z0 B0 w z L] {t:TypeId} [g:TyOne t] {off:Nat} {v:Value} {l:List Value} {ty:TypeId} {fr:Nat × Nat} [Blk L b (.cells l.toArray ty fr) C] [Get l off v] (h:A):RunIs (ld t (.pointer (some ⟨b,off,none⟩))) w v/\A:=⟨RunIs_ldL1 hS,h⟩
theorem iRI_N {A:Prop} [hS:Res w0 z0 B0 w z L] {t n:Nat} [g:TyAgg t n] [gs:TySize t n] {off:Nat} {vs:List Value} {l:List Value} {ty:TypeId} {fr:Nat × Nat} [Blk L b (.cells l.toArray ty fr) C] [gn:GetN l off n vs] (h:A):RunIs (ld t (.pointer (some ⟨b,off,none⟩))) w (.agg vs.toArray)/\A:=⟨RunIs_ldLN hS,h⟩
theorem iDr {K:World->Prop} [hS:Res w0 z0 B0 w z L] (hk:∀ w',Res w0 z0 B0 w' z L->K w'):Dr w K:=Dr_intro hS hk
theorem zV_ld1 [hS:Res w0 z0 B0 w z L] {t:TypeId} [g:TyOne t] {off:Nat} {v:Value} (h:At z b off [v]) (hk:K v w):V (ld t (.pointer (some ⟨b,off,none⟩))) w K:=V_ld1 (h.world hS.sub) hk
theorem zV_ldN [hS:Res w0 z0 B0 w z L] {t n:Nat} [g:TyAgg t n] [gs:TySize t n] {off:Nat} {vs:List Value} (h:At z b off vs) (hl:vs.length = n) (hk:K (.agg vs.toArray) w):V (ld t (.pointer (some ⟨b,off,none⟩))) w K:=V_ldN (h.world hS.sub) hl hk
theorem zHV_ld1 [hS:Res w0 z0 B0 w z L] {K:Value->Prop} {t:TypeId} [g:TyOne t] {off:Nat} {v:Value} (h:At z b off [v]) (hk:K v):HV (ld t (.pointer (some ⟨b,off,none⟩))) w K:=HV_of (run_ld1 (h.world hS.sub)) hk
theorem zHV_ldN [hS:Res w0 z0 B0 w z L] {K:Value->Prop} {t n:Nat} [g:TyAgg t n] [gs:TySize t n] {off:Nat} {vs:List Value} (h:At z b off vs) (hl:vs.length = n) (hk:K (.agg vs.toArray)):HV (ld t (.pointer (some ⟨b,off,none⟩))) w K:=HV_of (run_ldN (h.world hS.sub) hl) hk
theorem At.sub {off i n:Nat} {vs us:List Value} [g:GetN vs i n us] (h:At z b off vs):At z b (off + i) us:=by
 obtain ⟨c,ty,fr,h1,h2⟩:=h;exact ⟨c,ty,fr,h1,fun j v hj=>by rw [Nat.add_assoc]; exact h2 _ v (g.h j v hj)⟩
class Pu (f:FuncId) (args:Array Value) (v:outParam Value):Prop where
 h:∀ z w,Fn1 f args z w fun _ v'=>v' = v
theorem CV_pu [hS:Res w0 z0 B0 w z L] {f:FuncId} [Enters f] {args:Array Value} {v:Value} [g:Pu f args v] (hk:∀ z' w',Le z z'->Res w0 z0 B0 w' z' L->K v w'):CV (.func (.func f) #[] #[]) args w K:=
 CV_fn1 hS (g.h z w) (by simp) fun z' w' v' h1 h2 h3=>by subst h3; exact hk z' w' h1 h2
theorem CV_1 [hS:Res w0 z0 B0 w z L] {f:FuncId} [Enters f] {args:Array Value} {R:Z->Value->Prop} (h:Fn1 f args z w R) (hk:∀ z' w' v,Le z z'->Res w0 z0 B0 w' z' L->R z' v->K v w'):CV (.func (.func f) #[] #[]) args w K:=
 CV_fn1 hS h (by simp) hk
theorem Fn1.intro {f:FuncId} {args:Array Value} {R:Z->Value->Prop} (h:Res w z [] w z []->Calls Tryz.prog f args w (retK fun v w'=>∃ z' L',Res w z [] w' z' L'/\R z' v)):Fn1 f args z w R:=
 fun ho=>(h ho).mono (retK.mono fun v w' ⟨z',L',h1,h2⟩=>⟨z',h1.drop,h2⟩)
theorem Fn.intro {f:FuncId} {args:Array Value} {R:Z->Bl->Value->Prop} (h:Res w z B w z B->Calls Tryz.prog f args w (retK fun v w'=>∃ z' B',Res w z B w' z' B'/\R z' B' v)):Fn f args z B w R:=h
theorem Fn1.mono {f:FuncId} {args:Array Value} {R R':Z->Value->Prop} (h:Fn1 f args z w R) (hr:∀ z' v,R z' v->R' z' v):Fn1 f args z w R':=
 fun ho=>(h ho).mono (retK.mono fun v w' ⟨z',h1,h2⟩=>⟨z',h1,hr _ _ h2⟩)
theorem fin {R:Z->Bl->Value->Prop} {v:Value} [hS:Res w0 z0 B0 w z L] (h:R z L v):∃ z' L',Res w0 z0 B0 w z' L'/\R z' L' v:=⟨z,L,hS,h⟩
end
class InStr (s:ByteArray) (i:Int):Prop where
 h0:0 <= i
 h1:i < s.size
class InR (i n:Int):Prop where
 h0:0 <= i
 h1:i < n
class InI (n:Int):Prop where
 h:-9223372036854775808 <= n/\n <= 9223372036854775807
def bt (s:ByteArray) (i:Int):Int:=((s.data.toList.getD i.toNat 0).toNat:Int)
instance {t:Nat} [g:TyStr t] {s:ByteArray} {i:Int} {k:IntKind} [hi:InStr s i]:Run (ix t (.string s) (.int k i)) (.int .u8 (bt s i)):=⟨fun w=>by
 have h1:i.toNat < s.size:=by have:=hi.h1; have:=hi.h0; omega
 simp only [ix,Instr.index,asIntOf,pure_bind,Sem.run_bind,g.und,Result.andThen_ok,hi.h0,if_true];rw [getElem?_pos s i.toNat h1];have:bt s i = ((s[i.toNat]'h1).toNat:Int):=by
  unfold bt;rw [List.getD_eq_getElem?_getD,List.getElem?_eq_getElem (by simpa using h1)]
  rfl
 rw [this]
 rfl⟩
instance {b t e s n cap off o:Nat} [g:TySlice t e s] {i:Int} {k:IntKind} [hi:InR i n] [ho:AddN off (i.toNat * s) o]:Run (ia t (.slice (some ⟨b,off,none⟩) n cap) (.int k i)) (.pointer (some ⟨b,o,none⟩)):=⟨fun w=>by
 rw [<- ho.h];simp only [ia,Instr.indexAt,asIntOf,pure_bind,Sem.run_bind,g.und,g.size,Result.andThen_ok,hi.h0,hi.h1,and_self,if_true,add_addr]
 rfl⟩
instance {t:Nat} {a b:Int} [h:InI (a + b)]:Run (bi .add t (.int .i64 a) (.int .i64 b)) (.int .i64 (a + b)):=⟨fun w=>by simp [bi,binOp,Op.intArith,wrap_in h.h]⟩
instance {t:Nat} {a b:Int} [h:InI (a - b)]:Run (bi .sub t (.int .i64 a) (.int .i64 b)) (.int .i64 (a - b)):=⟨fun w=>by simp [bi,binOp,Op.intArith,wrap_in h.h]⟩
instance {t:Nat} {a b:Int} [h:InI (a * b)]:Run (bi .mul t (.int .i64 a) (.int .i64 b)) (.int .i64 (a * b)):=⟨fun w=>by simp [bi,binOp,Op.intArith,wrap_in h.h]⟩
class PB (F:(List Value->World->Prop)->Prop) (w:outParam World) (x:outParam Bool):Prop where
 h:∀ K:List Value->World->Prop,K [.bool x] w->F K
instance PB.lit {w:World} {x:Bool}:PB (fun K=>K [.bool x] w) w x:=⟨fun _ h=>h⟩
instance PB.val {w:World} {x:Bool} {s:Sem Value} {v:Value} {G:(List Value->World->Prop)->Value->World->Prop} [g:Run s v] [h:PB (fun K=>G K v w) w x]:PB (fun K=>V s w (G K)) w x:=
 ⟨fun K hK=>V_run (h.h K hK)⟩
instance PB.cond {w:World} {x y b:Bool} {A B:(List Value->World->Prop)->Prop} [h1:PB A w x] [h2:PB B w y]:PB (fun K=>CondW (.bool b) (A K) (B K)) w (bif b then x else y):=
 ⟨fun K hK=>⟨b,rfl,fun hb=>h1.h K (by subst hb; exact hK),fun hb=>h2.h K (by subst hb; exact hK)⟩⟩
instance PB.join {w:World} {x y:Bool} {H:(List Value->World->Prop)->Value->World->Prop} {body:(List Value->World->Prop)->(List Value->World->Prop)->Prop} [h1:∀ K,PB (body K) w x] [h2:PB (fun K=>H K (.bool x) w) w y] :
  PB (fun K=>∀ K1:List Value->World->Prop,(∀ t w,(∀ _:Env,H K t w)->K1 [t] w)->body K K1) w y:=
 ⟨fun K hK K1 hK1=>(h1 K).h K1 (hK1 _ _ fun _=>h2.h K hK)⟩
theorem JB {w:World} {x:Bool} {rest:Value->World->Prop} {body:(List Value->World->Prop)->Prop} [g:PB body w x] (h:rest (.bool x) w):∀ K:List Value->World->Prop,(∀ t w,(∀ _:Env,rest t w)->K [t] w)->body K:=
 fun K hK=>g.h K (hK _ _ fun _=>h)
end
section
open Go Q Go.RowKit
noncomputable def leastOf (p:Nat->Prop):Nat:=by
 classical exact if h:∃ n,p n/\∀ m,p m->n <= m then Classical.choose h else 0
theorem least_exists {p:Nat->Prop} (h:∃ n,p n):∃ n,p n/\∀ m,p m->n <= m:=by
 obtain ⟨n,hn⟩:=h
 induction n using Nat.strongRecOn with
 | _ n ih=>
  by_cases hx:∃ m,m < n/\p m
  ·obtain ⟨m,hm,hp⟩:=hx; exact ih m hm hp
  ·exact ⟨n,hn,fun m hm=>Nat.le_of_not_lt fun hlt=>hx ⟨m,hlt,hm⟩⟩
theorem leastOf_spec {p:Nat->Prop} (h:∃ n,p n):p (leastOf p)/\∀ m,p m->leastOf p <= m:=by
 have h':=least_exists h;unfold leastOf;rw [dif_pos h'];exact Classical.choose_spec h'
section
variable {α:Type}
theorem loop_core (Inv:α->List Value->World->Prop) (μ:α->Nat) {body:(List Value->World->Prop)->(List Value->World->Nat)->List Value->World->Nat->Prop} {l0:List Value} {w:World} (a0:α) (h0:Inv a0 l0 w)
  (hs:∀ I M a l w m,Inv a l w->(∀ a' l' w',Inv a' l' w'->μ a' < μ a->I l' w'/\M l' w' < m)->body I M l w m) :
  ∃ (I:List Value->World->Prop) (M:List Value->World->Nat),I l0 w/\∀ l w,I l w->∀ m,m = M l w->body I M l w m:=by
 refine ⟨fun l w=>∃ a,Inv a l w,fun l w=>leastOf fun m=>∃ a,Inv a l w/\μ a = m,⟨a0,h0⟩,?_⟩;rintro l w ⟨a,ha⟩ m rfl
 obtain ⟨⟨a1,h1,h2⟩,h3⟩:=leastOf_spec (p:=fun m=>∃ a,Inv a l w/\μ a = m) ⟨μ a,a,ha,rfl⟩;refine hs _ _ a1 l w _ h1 fun a' l' w' h4 h5=>⟨⟨a',h4⟩,?_⟩
 exact Nat.lt_of_le_of_lt ((leastOf_spec (p:=fun m=>∃ a,Inv a l' w'/\μ a = m) ⟨μ a',a',h4,rfl⟩).2 _ ⟨a',h4,rfl⟩) (Nat.lt_of_lt_of_eq h5 h2)
theorem LoopG0 (Inv:α->World->Prop) (μ:α->Nat) {body:(List Value->World->Prop)->(List Value->World->Nat)->World->Nat->Prop} {w:World} (a0:α) (h0:Inv a0 w)
  (hs:∀ I M a w m,Inv a w->(∀ a' w',Inv a' w'->μ a' < μ a->I [] w'/\M [] w' < m)->body I M w m) :
  ∃ (I:List Value->World->Prop) (M:List Value->World->Nat),I [] w/\∀ _:Env,∀ w,I [] w->∀ m,m = M [] w->body I M w m:=by
 obtain ⟨I,M,h1,h2⟩:=loop_core (fun a l w=>l = []/\Inv a w) μ (body:=fun I M l w m=>l = []->body I M w m) a0 ⟨rfl,h0⟩ (fun I M a l w m ⟨h3,h4⟩ h5 _=>hs I M a w m h4 fun a' w' h6 h7=>h5 a' [] w' ⟨rfl,h6⟩ h7);exact ⟨I,M,h1,fun _ w h m hm=>h2 [] w h m hm rfl⟩
theorem LoopG1 (Inv:α->Value->World->Prop) (μ:α->Nat) {body:(List Value->World->Prop)->(List Value->World->Nat)->Value->World->Nat->Prop} {x0:Value} {w:World} (a0:α) (h0:Inv a0 x0 w)
  (hs:∀ I M a x w m,Inv a x w->(∀ a' x' w',Inv a' x' w'->μ a' < μ a->I [x'] w'/\M [x'] w' < m)->body I M x w m) :
  ∃ (I:List Value->World->Prop) (M:List Value->World->Nat),I [x0] w/\∀ _:Env,∀ x,∀ w,I [x] w->∀ m,m = M [x] w->body I M x w m:=by
 obtain ⟨I,M,h1,h2⟩:=loop_core (fun a l w=>∃ x,l = [x]/\Inv a x w) μ (body:=fun I M l w m=>∀ x,l = [x]->body I M x w m) a0 ⟨x0,rfl,h0⟩ (fun I M a l w m ⟨x,h3,h4⟩ h5 y hy=>by
  rw [hy] at h3; cases h3;exact hs I M a y w m h4 fun a' x' w' h6 h7=>h5 a' [x'] w' ⟨x',rfl,h6⟩ h7)
 exact ⟨I,M,h1,fun _ x w h m hm=>h2 [x] w h m hm x rfl⟩
theorem LoopG2 (Inv:α->Value->Value->World->Prop) (μ:α->Nat) {body:(List Value->World->Prop)->(List Value->World->Nat)->Value->Value->World->Nat->Prop} {x0 y0:Value} {w:World} (a0:α) (h0:Inv a0 x0 y0 w)
  (hs:∀ I M a x y w m,Inv a x y w->(∀ a' x' y' w',Inv a' x' y' w'->μ a' < μ a->I [x',y'] w'/\M [x',y'] w' < m)->body I M x y w m) :
  ∃ (I:List Value->World->Prop) (M:List Value->World->Nat),I [x0,y0] w/\∀ _:Env,∀ x,∀ y,∀ w,I [x,y] w->∀ m,m = M [x,y] w->body I M x y w m:=by
 obtain ⟨I,M,h1,h2⟩:=loop_core (fun a l w=>∃ x y,l = [x,y]/\Inv a x y w) μ (body:=fun I M l w m=>∀ x y,l = [x,y]->body I M x y w m) a0 ⟨x0,y0,rfl,h0⟩ (fun I M a l w m ⟨x,y,h3,h4⟩ h5 x' y' hy=>by
  rw [hy] at h3; cases h3;exact hs I M a x' y' w m h4 fun a' x'' y'' w' h6 h7=>h5 a' [x'',y''] w' ⟨x'',y'',rfl,h6⟩ h7)
 exact ⟨I,M,h1,fun _ x y w h m hm=>h2 [x,y] w h m hm x y rfl⟩
theorem LoopG3 (Inv:α->Value->Value->Value->World->Prop) (μ:α->Nat) {body:(List Value->World->Prop)->(List Value->World->Nat)->Value->Value->Value->World->Nat->Prop} {x0 y0 u0:Value} {w:World} (a0:α) (h0:Inv a0 x0 y0 u0 w)
  (hs:∀ I M a x y u w m,Inv a x y u w->(∀ a' x' y' u' w',Inv a' x' y' u' w'->μ a' < μ a->I [x',y',u'] w'/\M [x',y',u'] w' < m)->body I M x y u w m) :
  ∃ (I:List Value->World->Prop) (M:List Value->World->Nat),I [x0,y0,u0] w/\∀ _:Env,∀ x,∀ y,∀ u,∀ w,I [x,y,u] w->∀ m,m = M [x,y,u] w->body I M x y u w m:=by
 obtain ⟨I,M,h1,h2⟩:=loop_core (fun a l w=>∃ x y u,l = [x,y,u]/\Inv a x y u w) μ (body:=fun I M l w m=>∀ x y u,l = [x,y,u]->body I M x y u w m) a0 ⟨x0,y0,u0,rfl,h0⟩ (fun I M a l w m ⟨x,y,u,h3,h4⟩ h5 x' y' u' hy=>by
  rw [hy] at h3; cases h3;exact hs I M a x' y' u' w m h4 fun a' x'' y'' u'' w' h6 h7=>h5 a' [x'',y'',u''] w' ⟨x'',y'',u'',rfl,h6⟩ h7)
 exact ⟨I,M,h1,fun _ x y u w h m hm=>h2 [x,y,u] w h m hm x y u rfl⟩
end
structure El (α:Type) where
 size:Nat
 rel:Z->List Value->α->Prop
 mono:∀ {z z' cs x},rel z cs x->Le z z'->rel z' cs x
 len:∀ {z cs x},rel z cs x->cs.length = size
 pos:0 < size
abbrev big:Nat:=9223372036854775807
abbrev room:Nat:=140737488355328
def SlR {α:Type} (E:El α) (z:Z) (v:Value) (xs:List α):Prop:=
 ∃ a cap,v = .slice a xs.length cap/\xs.length <= cap/\xs.length <= big/\(xs ≠ []->∃ b off,a = some ⟨b,off,none⟩/\∀ i x,xs[i]? = some x->∃ cs,E.rel z cs x/\At z b (off + i * E.size) cs)
section
variable {α:Type} {E:El α} {z z':Z} {v:Value} {xs:List α}
theorem SlR.mono (h:SlR E z v xs) (hz:Le z z'):SlR E z' v xs:=by
 obtain ⟨a,cap,h1,h2,h3,h4⟩:=h;refine ⟨a,cap,h1,h2,h3,fun hn=>?_⟩;obtain ⟨b,off,h5,h6⟩:=h4 hn;exact ⟨b,off,h5,fun i x hx=>let ⟨cs,h7,h8⟩:=h6 i x hx; ⟨cs,E.mono h7 hz,h8.mono hz⟩⟩
theorem SlR.nil:SlR E z (.slice none 0 0) []:=⟨none,0,rfl,Nat.le_refl _,by simp,fun h=>absurd rfl h⟩
theorem SlR.form (h:SlR E z v xs):xs.length <= big/\∃ a cap,v = .slice a xs.length cap/\xs.length <= cap/\∀ i x,xs[i]? = some x->∃ b off cs,a = some ⟨b,off,none⟩/\E.rel z cs x/\At z b (off + i * E.size) cs:=by
 obtain ⟨a,cap,h1,h2,h3,h4⟩:=h;refine ⟨h3,a,cap,h1,h2,fun i x hx=>?_⟩;obtain ⟨b,off,h5,h6⟩:=h4 (by intro hn; rw [hn] at hx; simp at hx);obtain ⟨cs,h7,h8⟩:=h6 i x hx;exact ⟨b,off,cs,h5,h7,h8⟩
def El.sl (E:El α):El (List α) where
 size:=1
 rel:=fun z cs xs=>∃ v,cs = [v]/\SlR E z v xs
 mono:=fun ⟨v,h1,h2⟩ hz=>⟨v,h1,h2.mono hz⟩
 len:=fun ⟨v,h1,_⟩=>by rw [h1]; rfl
 pos:=by decide
end
def El.int:El Int where
 size:=1
 rel:=fun _ cs x=>cs = [.int .i64 x]
 mono:=fun h _=>h
 len:=fun h=>by rw [h]; rfl
 pos:=by decide
def El.str:El ByteArray where
 size:=1
 rel:=fun _ cs x=>cs = [.string x]/\x.size <= big
 mono:=fun h _=>h
 len:=fun h=>by rw [h.1]; rfl
 pos:=by decide
def El.bool:El Bool where
 size:=1
 rel:=fun _ cs x=>cs = [.bool x]
 mono:=fun h _=>h
 len:=fun h=>by rw [h]; rfl
 pos:=by decide
def OwnSl (e size:Nat) (B:Bl) (v:Value) (n:Nat) (xs:List Value):Prop:=
 xs.length = n * size/\((B = []/\v = .slice none 0 0/\n = 0) \/ ∃ b cap sp,B = [(b,.cells (xs ++ sp).toArray e (0,0))]/\v = .slice (some ⟨b,0,none⟩) n cap/\n <= cap/\cap <= maxLen/\(xs ++ sp).length = cap * size)
theorem OwnSl.nil {e size:Nat}:OwnSl e size [] (.slice none 0 0) 0 []:=⟨by simp,.inl ⟨rfl,rfl,rfl⟩⟩
theorem OwnSl.form {e size n:Nat} {B:Bl} {v:Value} {xs:List Value} (h:OwnSl e size B v n xs):∃ a cap,v = .slice a n cap/\n <= cap:=by
 rcases h.2 with ⟨_,rfl,rfl⟩ | ⟨b,cap,sp,_,rfl,h1,_⟩
 ·exact ⟨none,0,rfl,Nat.le_refl _⟩
 ·exact ⟨_,cap,rfl,h1⟩
section
variable {w0 w w':World} {z0 z z':Z} {B0 B B' L F:Bl} {K:Value->World->Prop}
theorem setRow_eq {w:World} {b:Nat} {c cs:Array Value} {t:TypeId} {fr:Nat × Nat} (h:w.heap[b]? = some (.cells c t fr)):w.setRow b cs = { w with heap:=w.heap.setIfInBounds b (.cells cs t fr) }:=by
 unfold World.setRow
 congr 1
 apply Array.ext_getElem?
 intro j;rw [Array.getElem?_modify,Array.getElem?_setIfInBounds]
 by_cases hj:b = j
 ·subst hj
  have hb':=(Array.getElem?_eq_some_iff.1 h).2;simp [lt_of_get h,hb']
 ·simp [hj]
theorem oneCell'_of {v:Value} (h:isOne v = true):v.oneCell' = true:=by cases v <;> first | rfl | cases h
theorem V_app {t ty e size bytes:Nat} [g:TyApp t e size bytes] {v:Value} {n m c b' off':Nat} {xs news:List Value} (hS:Res w0 z0 B0 w z (B ++ L)) (ho:OwnSl e size B v n xs)
  (hn:At (hp w) b' off' news) (hl:news.length = m * size) (h1:∀ u ∈ news,isOne u = true) (hm:0 < m) (hb:(n + m) * bytes <= room) (hb2:n + m <= room)
  (hk:∀ B' v' w',OwnSl e size B' v' (n + m) (xs ++ news)->Res w0 z0 B0 w' z (B' ++ L)->K v' w'):V (Builtin.append_ #[t,t] ty #[v,.slice (some ⟨b',off',none⟩) m c]) w K:=by
 obtain ⟨zv,hinfo,hzs⟩:=g.info;obtain ⟨i,hi,hz⟩:=Option.map_eq_some_iff.1 hinfo;simp only [Prod.mk.injEq] at hz;obtain ⟨hz0,hz1,hz2⟩:=hz;have hnews:∀ j u,news[j]? = some u->w.cell? ((⟨b',off',none⟩:Addr).add j) = some u:=fun j u hu=>by rw [add_addr]; exact hn.cell hu
 have hlen:(xs ++ news).length = (n + m) * size:=by rw [List.length_append,ho.1,hl,Nat.add_mul]
 simp only [room] at hb hb2;have hmax:n + m <= maxLen:=by simp only [maxLen]; omega
 have h63:((n + m:Nat):Int) <= 9223372036854775807:=by simp only [maxLen] at hmax; omega
 have grown:∀ (old:Nat) (w1:World),w1 = w.drew.alloc (.cells (xs.toArray ++ news.toArray ++ Builtin.zeroCells zv.cells (grownCap w (n + m) old e - (n + m))) e) ->
   Res w0 z0 B0 w1 z ((w.heap.size,.cells (xs ++ news ++ (Builtin.zeroCells zv.cells (grownCap w (n + m) old e - (n + m))).toList).toArray e (0,0)) :: (B ++ L)):=fun old w1 hw1=>by
  subst hw1;have:=Res.new (Res.drew hS) (.cells (xs ++ news ++ (Builtin.zeroCells zv.cells (grownCap w (n + m) old e - (n + m))).toList).toArray e (0,0));have he:(xs.toArray ++ news.toArray ++ Builtin.zeroCells zv.cells (grownCap w (n + m) old e - (n + m))) = (xs ++ news ++ (Builtin.zeroCells zv.cells (grownCap w (n + m) old e - (n + m))).toList).toArray:=by
   apply Array.toList_inj.1; simp
  rw [he];exact this
 have own':∀ (old:Nat),OwnSl e size [(w.heap.size,.cells (xs ++ news ++ (Builtin.zeroCells zv.cells (grownCap w (n + m) old e - (n + m))).toList).toArray e (0,0))] (.slice (some ⟨w.heap.size,0,none⟩) (n + m) (grownCap w (n + m) old e)) (n + m) (xs ++ news):=fun old=>by
  have hge:=grownCap_ge w (n + m) old e;refine ⟨hlen,.inr ⟨_,_,_,rfl,rfl,hge,grownCap_le_maxLen w (n + m) old e hmax,?_⟩⟩;rw [List.length_append,hlen,Array.length_toList,size_zeroCells,hzs,<- Nat.add_mul]
  congr 1
  omega
 rcases ho.2 with ⟨rfl,rfl,rfl⟩ | ⟨b,cap,sp,rfl,rfl,hcap,hcm,hsz⟩
 ·have hx0:xs = []:=List.eq_nil_of_length_eq_zero (by have:=ho.1; simpa using this)
  subst hx0;have hr:=run_append_nil (P:=Tryz.prog) w t ty e i zv g.und hi hz0 ⟨b',off',none⟩ m c news (by rw [hz1]; exact hl) hnews hm (by simpa using h63) (by rw [hz2]; simp only [Nat.zero_add] at hb; omega);refine ⟨_,_,hr,?_⟩;have h5:=grown 0 _ rfl;have h6:=own' 0;simp only [Nat.zero_add] at h5 h6;exact hk _ _ _ (by simpa using h6) (by simpa using h5)
 ·by_cases hroom:n + m <= cap
  ·have hat:=hS.mem (b,.cells (xs ++ sp).toArray e (0,0)) (by simp)
   have hfit:n * i.size + news.length <= (xs ++ sp).toArray.size:=by
    rw [hz1,hl,<- Nat.add_mul]; simp only [List.size_toArray,hsz]; exact Nat.mul_le_mul_right _ hroom
   have hr:=run_append_room (P:=Tryz.prog) w t ty e i g.und hi b n cap (xs ++ sp).toArray hat.1 ⟨b',off',none⟩ m c news (by rw [hz1]; exact hl) hnews (fun u hu=>oneCell'_of (h1 u hu)) hroom hfit;refine ⟨_,_,hr,?_⟩;rw [setRow_eq hat.1];have e1:(xs ++ sp).take (n * i.size) = xs:=by rw [hz1,<- ho.1]; exact List.take_left
   have hnew:((xs ++ sp).toArray.toList.take (n * i.size) ++ news ++ (xs ++ sp).toArray.toList.drop (n * i.size + news.length)) = xs ++ news ++ sp.drop news.length:=by
    simp only [e1];rw [hz1,<- ho.1,List.drop_append,List.drop_of_length_le (by omega)];simp
   rw [hnew];refine hk [(b,.cells (xs ++ news ++ sp.drop news.length).toArray e (0,0))] _ _ ⟨hlen,.inr ⟨b,cap,sp.drop news.length,rfl,rfl,hroom,hcm,?_⟩⟩ (Res.put hS _ rfl);rw [List.length_append,hlen,List.length_drop];have:sp.length = cap * size - n * size:=by rw [<- hsz,List.length_append,ho.1]; omega
   rw [this,hl,Nat.add_mul];have:(n + m) * size <= cap * size:=Nat.mul_le_mul_right _ hroom;rw [Nat.add_mul] at this;omega
  ·have hat:=hS.mem (b,.cells (xs ++ sp).toArray e (0,0)) (by simp)
   have holds:∀ j u,xs[j]? = some u->w.cell? ((⟨b,0,none⟩:Addr).add j) = some u:=fun j u hu=>by
    rw [add_addr];refine At.cell (vs:=xs) ⟨_,_,_,hat.1,fun j u hu=>?_⟩ hu;simp only [Nat.zero_add,List.getElem?_toArray];rw [List.getElem?_append_left (List.getElem?_eq_some_iff.1 hu).1];exact hu
   have hr:=run_append_grow (P:=Tryz.prog) w t ty e i zv g.und hi hz0 ⟨b,0,none⟩ n cap xs (by rw [hz1]; exact ho.1) holds ⟨b',off',none⟩ m c news (by rw [hz1]; exact hl) hnews (by omega) h63 (growslice_fits (by omega) (by rw [hz2]; exact hb));refine ⟨_,_,hr,hk _ _ _ (own' cap) ((grown cap _ rfl).sublist ?_)⟩;simp
theorem run_pure {α:Type} (a:α) (w:World):(pure a:Sem α).run Tryz.prog w = .ok a w:=rfl
class FillS (size i:Nat) (parts:List (Nat × Value)) (out:outParam (List Value)) (n:outParam Nat):Prop where
 h:n = i + parts.length/\out.length = parts.length * size/\(∀ pre rest:List Value,pre.length = i * size->rest.length = parts.length * size->Instr.fill (fun i=>some (i * size,size)) (pre ++ rest).toArray parts = some (pre ++ out).toArray)
instance {size i:Nat}:FillS size i [] [] i:=⟨rfl,by simp,fun pre rest _ hr=>by
 have:rest = []:=List.eq_nil_of_length_eq_zero (by simpa using hr);subst this; rfl⟩
theorem setL_append (vs pre rest:List Value) (h:vs.length <= rest.length):setL (pre ++ rest) pre.length vs = pre ++ vs ++ rest.drop vs.length:=by
 refine List.ext_getElem? fun k=>?_
 rw [setL_get _ _ _ _ (by simp; omega)]
 by_cases h1:k < pre.length
 ·rw [if_neg (by omega),List.getElem?_append_left h1,List.append_assoc,List.getElem?_append_left h1]
 ·by_cases h2:k - pre.length < vs.length
  ·rw [if_pos (by omega),List.append_assoc,List.getElem?_append_right (by omega:pre.length <= k),List.getElem?_append_left h2]
  ·rw [if_neg (by omega),List.append_assoc,List.getElem?_append_right (by omega:pre.length <= k),List.getElem?_append_right (by omega:pre.length <= k),List.getElem?_append_right (by omega:vs.length <= k - pre.length),List.getElem?_drop]
   congr 1; omega
instance {size i n:Nat} {v:Value} {vs out:List Value} {parts:List (Nat × Value)} [gc:CellsOf v vs] [gl:LenIs vs size] [gf:FillS size (i + 1) parts out n]:FillS size i ((i,v) :: parts) (vs ++ out) n:=by
 obtain ⟨h1,h2,h3⟩:=gf.h;have hv:=gl.h;refine ⟨by simp; omega,by simp [h2,hv,Nat.add_mul]; omega,fun pre rest hp hr=>?_⟩;have hr':rest.length = parts.length * size + size:=by simpa [Nat.add_mul] using hr
 unfold Instr.fill;have hcs:¬ (i * size + size > (pre ++ rest).length):=by rw [List.length_append,hp,hr']; omega
 simp only [gc.h,List.size_toArray,hv,ne_eq,not_true_eq_false,decide_false,Bool.false_or,decide_eq_true_eq,hcs,if_false];have hfold:(vs.toArray.zipIdx.foldl (fun (cs:Array Value) (x:Value × Nat)=>cs.setIfInBounds (i * size + x.2) x.1) (pre ++ rest).toArray) = (pre ++ vs ++ rest.drop size).toArray:=by
  have:=fold_set vs (pre ++ rest) (i * size) 0;rw [Nat.add_zero,<- hp,setL_append _ _ _ (by omega),hv,hp] at this;rw [<- Array.foldl_toList,Array.toList_zipIdx];exact this
 rw [hfold,h3 (pre ++ vs) (rest.drop size) (by simp [hp,hv,Nat.add_mul]) (by simp [hr'])];simp
class TyFill (e size:Nat):Prop where
 zero:∃ v:Value,v.cells.size = size/\∀ w,(zeroValue e).run Tryz.prog w = .ok v w
theorem V_bs {t e size n k:Nat} {parts:List (Nat × Value)} {out:List Value} [hS:Res w0 z0 B0 w z L] [g:TySlice t e size] [gz:TyFill e size] [gf:FillS size 0 parts out n] (hn:k = n) (hsz:n * size <= 16777216)
  (hk:∀ b w',w0.heap.size <= b->Res w0 z0 B0 w' z ((b,.cells out.toArray e (0,0)) :: L)->K (.slice (some ⟨b,0,none⟩) n n) w'):V (bs t k parts.toArray) w K:=by
 subst hn;obtain ⟨zv,hz1,hz2⟩:=gz.zero;obtain ⟨h1,h2,h3⟩:=gf.h;simp only [Nat.zero_add] at h1;have hfill:∀ base:List Value,base.length = k * size->Instr.fill (fun i=>some (i * size,size)) base.toArray parts = some out.toArray:=fun base hb=>by
  have:=h3 [] base (by simp) (by rw [hb,h1])
  simpa using this
 refine ⟨_,_,?_,hk w.heap.size _ hS.size (hS.new (.cells out.toArray e (0,0)))⟩;have hle:¬ (k * size > 2 ^ 24):=by omega
 simp only [bs,Instr.buildSlice,Sem.run_bind,g.und,g.size,Result.andThen_ok,hle,if_false]
 by_cases h0:k * size = 0
 ·have hb:=hfill (((Array.range (k * size)).map fun i=>(#[]:Array Value)[i % (#[]:Array Value).size]!).toList) (by simp)
  simp only [Array.toArray_toList] at hb;simp only [h0,if_true,Sem.run_bind,run_pure,Result.andThen_ok] at hb ⊢;simp only [hb,newRow,newObj,Sem.run_bind]
  rfl
 ·have hb:=hfill (((Array.range (k * size)).map fun i=>zv.cells[i % zv.cells.size]!).toList) (by simp)
  simp only [Array.toArray_toList] at hb;simp only [h0,if_false,Sem.run_bind,hz2,Result.andThen_ok,run_pure,hb,newRow,newObj]
  rfl
end
end
section
open Go Q Go.RowKit
section
variable {w0 w w':World} {z0 z z':Z} {B0 B B' L F:Bl} {b:Nat} {o:Obj} {C:Obj->Bl} {K:Value->World->Prop}
theorem getObj_run {w:World} {b:Nat} {o:Obj} (h:w.heap[b]? = some o) (hn:∀ c e fr,o ≠ .cells c e fr):(getObj b).run Tryz.prog w = .ok o w:=by
 unfold getObj
 cases o <;> first | exact absurd rfl (hn _ _ _) | (simp only [Sem.run,h])
theorem setObj_run {w:World} {b:Nat} {o o':Obj} (h:w.heap[b]? = some o) (hn:∀ c e fr,o ≠ .cells c e fr):(setObj b o').run Tryz.prog w = .ok () { w with heap:=w.heap.setIfInBounds b o' }:=by
 unfold setObj
 cases o <;> first | exact absurd rfl (hn _ _ _) | (simp only [Sem.run,h])
end
def fidx {α:Type} (p:α->Bool) (xs:List α):Int:=match xs.findIdx? p with | some i=>i | none=>-1
theorem fidx_neg {α:Type} {p:α->Bool} {xs:List α}:fidx p xs < 0 ↔ xs.any p = false:=by
 unfold fidx
 cases h:xs.findIdx? p with
 | none=>
  simp only [List.findIdx?_eq_none_iff] at h;simp only [Int.reduceNeg,Int.reduceLT,List.any_eq_false,true_iff];intro x hx; simp [h x hx]
 | some i=>
  rw [List.findIdx?_eq_some_iff_getElem] at h;obtain ⟨hlt,hp,_⟩:=h;constructor
  ·intro hh; simp only at hh; omega
  ·intro hh; rw [List.any_eq_false] at hh; exact absurd hp (hh _ (List.getElem_mem hlt))
theorem fidx_ge {α:Type} {p:α->Bool} {xs:List α}:(decide (fidx p xs ≥ 0)) = xs.any p:=by
 cases h:xs.any p with
 | false=>rw [decide_eq_false]; have:=(fidx_neg (p:=p) (xs:=xs)).2 h; omega
 | true=>rw [decide_eq_true]; have:=(fidx_neg (p:=p) (xs:=xs)); rw [h] at this; simp at this; exact this
class EntersX (f:FuncId) (e:outParam (Array Value->Sem Value)):Prop where
 h:∀ args w,(callFunc f args).run Tryz.prog w = Sem.run Tryz.prog (do pure (Next.value (<- e args))) w
theorem CV_x {f:FuncId} {e:Array Value->Sem Value} [he:EntersX f e] {args:Array Value} {w:World} {v:Value} {K:Value->World->Prop} (h:(e args).run Tryz.prog w = .ok v w) (hk:K v w):CV (.func (.func f) #[] #[]) args w K:=by
 have:(callSem (.func (.func f) #[] #[]) args).run Tryz.prog w = .ok (.value v) w:=by
  simp only [callSem,Deferred.ofValue,pure_bind,invoke];have hh:=he.h (#[] ++ args ++ #[]) w;simp only [Array.empty_append,Array.append_empty] at hh ⊢;rw [hh];simp only [Sem.run_bind,h,Result.andThen_ok]
  rfl
 unfold CV CallV;rw [this];exact hk
end
section
open Go Q Go.RowKit
section
variable {w0 w w':World} {z0 z z':Z} {B0 B B' L F:Bl} {b:Nat} {o:Obj} {C:Obj->Bl} {K:Value->World->Prop}
theorem addr_add0 (a:Addr):a.add 0 = a:=by
 unfold Addr.add;simp
theorem map_add0 (a:Option Addr):a.map (·.add 0) = a:=by cases a <;> simp [addr_add0]
instance {t e n len cap:Nat} {a:Option Addr} {h:Int} {k:IntKind} [g:TySlice t e n] [hr:InR h (cap + 1)]:Run (sl t (.slice a len cap) none (some (.int k h)) none) (.slice a h.toNat cap):=⟨fun w=>by
 have h1:h <= cap:=by have:=hr.h1; omega
 simp only [sl,Instr.sliceAt,Sem.run_bind,g.und,Result.andThen_ok,Instr.slice,Instr.sliceBounds,run_pure,Instr.sliceBound,asIntOf,pure_bind,hr.h0,h1,and_self,if_true,g.size,Nat.zero_mul,map_add0,Nat.sub_zero,ite_self]⟩
instance {t e n len cap b off:Nat} {l:Int} {k:IntKind} [g:TySlice t e n] [hr:InR l (len + 1)]:Run (sl t (.slice (some ⟨b,off,none⟩) len cap) (some (.int k l)) none none) (.slice (some ⟨b,if cap = l.toNat then off else off + l.toNat * n,none⟩) (len - l.toNat) (cap - l.toNat)):=⟨fun w=>by
 have h1:l <= len:=by have:=hr.h1; omega
 simp only [sl,Instr.sliceAt,Sem.run_bind,g.und,Result.andThen_ok,Instr.slice,Instr.sliceBounds,run_pure,Instr.sliceBound,asIntOf,pure_bind,hr.h0,h1,and_self,if_true,g.size,Option.map_some,add_addr,Option.isSome_none,Bool.false_eq_true,if_false]
 split <;> rfl⟩
instance {t:Nat} {s:ByteArray} {l:Int} {k:IntKind} [g:TyStr t] [hr:InR l (s.size + 1)]:Run (sl t (.string s) (some (.int k l)) none none) (.string (s.extract l.toNat s.size)):=⟨fun w=>by
 have h1:l <= s.size:=by have:=hr.h1; omega
 simp only [sl,Instr.sliceAt,Sem.run_bind,g.und,Result.andThen_ok,Instr.slice,Instr.sliceBounds,run_pure,Instr.sliceBound,asIntOf,pure_bind,hr.h0,h1,and_self,if_true,Option.isSome_none,Bool.false_eq_true,if_false]⟩
theorem run_part1 {t:Nat} [g:TyOne t] {cs:Array Value} {off:Nat} {v:Value} (h:cs[off]? = some v) (w:World):(part t cs off).run Tryz.prog w = .ok v w:=by
 simp only [part,Sem.run_bind,g.agg,Result.andThen_ok,Bool.false_eq_true,if_false,h]
 rfl
class EqIn (d t:Nat) (v v':Value) (r:outParam Bool):Prop where
 h:∀ w,(Op.equalIn d t v v').run Tryz.prog w = .ok r w
instance {d t:Nat} {a b:Bool} [g:TyBool t]:EqIn (d + 1) t (.bool a) (.bool b) (a == b):=⟨fun w=>equalIn_bool d w⟩
instance {d t:Nat} {k kk:IntKind} {a b:Int} [g:TyInt t kk]:EqIn (d + 1) t (.int k a) (.int k b) (decide (a = b)):=⟨fun w=>by
 simp only [Op.equalIn,Sem.run_bind,g.und,Result.andThen_ok,if_true];rw [Bool.beq_eq_decide_eq]
 rfl⟩
instance {d t:Nat} {a b:ByteArray} [g:TyStr t]:EqIn (d + 1) t (.string a) (.string b) (decide (a = b)):=⟨fun w=>by
 simp only [Op.equalIn,Sem.run_bind,g.und,Result.andThen_ok];have h1:(a == b) = (a.data == b.data):=by cases a; cases b; rfl
 have:(a == b) = decide (a = b):=by
  rw [h1,Bool.eq_iff_iff];simp only [beq_iff_eq,decide_eq_true_eq];exact ⟨fun h=>by cases a; cases b; simp_all,fun h=>by rw [h]⟩
 rw [this]
 rfl⟩
noncomputable def fieldsOf (t:Nat):Array Field:=match Tryz.prog.underlying t with | some (.struct f)=>f | _=>#[]
class TyEqS (t:TypeId) (fs:outParam (List (Nat × Nat))):Prop where
 und:∃ fields:Array Field,(∀ w,(underlying t).run Tryz.prog w = .ok (.struct fields) w)/\fields.toList.map (fun f=>(f.type,f.offset)) = fs/\fields.toList.all (fun f=>f.name != "_") = true
 stood:Tryz.prog.stoodInHeld t = false
 guard:Tryz.prog.eqGuardType Tryz.prog.depth t = false
class Part (t:Nat) (l:List Value) (off:Nat) (v:outParam Value):Prop where
 h:∀ w,(part t l.toArray off).run Tryz.prog w = .ok v w
instance {t off:Nat} {l:List Value} {v:Value} [g:TyOne t] [gg:Get l off v]:Part t l off v:=⟨fun w=>run_part1 (by simpa using gg.h) w⟩
class EqFs (d:Nat) (fs:List (Nat × Nat)) (l l':List Value) (r:outParam Bool):Prop where
 h:∀ w,∀ fields:List Field,fields.map (fun f=>(f.type,f.offset)) = fs->fields.all (fun f=>f.name != "_") = true ->
  ∃ x:Option Bool,(forIn (m:=Sem) fields ((none,()):Option Bool × Unit) (fun (f:Field) (_:Option Bool × Unit)=>
   if f.name ≠ "_" then (part f.type l.toArray f.offset >>= fun u=>part f.type l'.toArray f.offset >>= fun u'=>Op.equalIn d f.type u u' >>= fun r=>if (!r) = true then pure (ForInStep.done (some false,())) else pure (ForInStep.yield (none,())))
   else pure (ForInStep.yield (none,())))).run Tryz.prog w = .ok (x,()) w/\r = (match x with | none=>true | some y=>y)
instance {d:Nat} {l l':List Value}:EqFs d [] l l' true:=⟨fun w fields h _=>by
 have:fields = []:=by simpa using h
 subst this;exact ⟨none,rfl,rfl⟩⟩
instance {d t off:Nat} {fs:List (Nat × Nat)} {l l':List Value} {v v':Value} {a r:Bool} [p:Part t l off v] [p':Part t l' off v'] [e:EqIn d t v v' a] [g:EqFs d fs l l' r]:EqFs d ((t,off) :: fs) l l' (a && r):=⟨fun w fields h hn=>by
 cases fields with
 | nil=>simp at h
 | cons f fields=>
  simp only [List.map_cons,List.cons.injEq,Prod.mk.injEq] at h;obtain ⟨⟨rfl,rfl⟩,h3⟩:=h;simp only [List.all_cons,Bool.and_eq_true,bne_iff_ne] at hn;obtain ⟨x,h4,h5⟩:=g.h w fields h3 hn.2;simp only [List.forIn_cons,Sem.run_bind,ne_eq,hn.1,not_false_eq_true,if_true,p.h,p'.h,e.h,Result.andThen_ok]
  cases a with
  | false=>exact ⟨some false,rfl,rfl⟩
  | true=>
   refine ⟨x,?_,by simpa using h5⟩;simp only [Bool.not_true,Bool.false_eq_true,if_false,run_pure,Result.andThen_ok];exact h4⟩
instance {d t:Nat} {l l':List Value} {fs:List (Nat × Nat)} {r:Bool} [g:TyEqS t fs] [e:EqFs d fs l l' r]:EqIn (d + 1) t (.agg l.toArray) (.agg l'.toArray) r:=⟨fun w=>by
 obtain ⟨fields,h1,h2,h3⟩:=g.und;obtain ⟨x,h4,h5⟩:=e.h w fields.toList h2 h3;simp only [Op.equalIn,Sem.run_bind,h1,Result.andThen_ok,program,Sem.run,g.stood,Bool.false_eq_true,if_false];rw [<- Array.forIn_toList];rw [h4,h5]
 cases x <;> rfl⟩
instance {t:Nat} {l l':List Value} {fs:List (Nat × Nat)} {r:Bool} {x y:Operand} [g:TyEqS t fs] [e:EqFs 9999 fs l l' r]:Run (eq .eql t x y (.agg l.toArray) (.agg l'.toArray)) (.bool r):=⟨fun w=>by
 have h:(Op.equalIn Op.maxDepth t (.agg l.toArray) (.agg l'.toArray)).run Tryz.prog w = .ok r w:=(inferInstance:EqIn (9999 + 1) t (.agg l.toArray) (.agg l'.toArray) r).h w;simp [eq,eqGuard,binOp,Op.equal,Sem.run_bind,h,program,Sem.run,g.guard]⟩
instance {t:Nat} {l l':List Value} {fs:List (Nat × Nat)} {r:Bool} {x y:Operand} [g:TyEqS t fs] [e:EqFs 9999 fs l l' r]:Run (eq .neq t x y (.agg l.toArray) (.agg l'.toArray)) (.bool (!r)):=⟨fun w=>by
 have h:(Op.equalIn Op.maxDepth t (.agg l.toArray) (.agg l'.toArray)).run Tryz.prog w = .ok r w:=(inferInstance:EqIn (9999 + 1) t (.agg l.toArray) (.agg l'.toArray) r).h w;simp [eq,eqGuard,binOp,Op.equal,Sem.run_bind,h,program,Sem.run,g.guard]⟩
def mO (kd:IntKind) (l:List (Int × Value)):Obj:=.map (l.zipIdx.map fun p=>({ key:=.int kd p.1.1,val:=p.1.2,born:=p.2 }:MapEntry)).toArray l.length
theorem iV_mm [hS:Res w0 z0 B0 w z L] {t k e:Nat} {kd:IntKind} [g:TyMap t k e] [gk:TyInt k kd] (hk:∀ b w',w0.heap.size <= b->Res w0 z0 B0 w' z ((b,mO kd []) :: L)->K (.map (some b)) w'):V (mm t none) w K:=by
 refine ⟨_,_,?_,hk w.heap.size _ hS.size (hS.new (mO kd []))⟩;simp only [mm,Instr.makeMap,Sem.run_bind,newObj,Sem.run,Result.andThen_ok]
 rfl
theorem findNow_from (kd:IntKind) (k:Int) (d:TypeDesc) (hd:d = .int kd):∀ (l:List (Int × Value)) (j i:Nat),Instr.findNow d (.int kd k) ((l.zipIdx j).map fun p=>({ key:=.int kd p.1.1,val:=p.1.2,born:=p.2 }:MapEntry)) i = some ((l.findIdx? (·.1 == k)).bind fun m=>(l[m]?).map fun p=>(i + m,p.2)):=by
 subst hd;intro l
 induction l with
 | nil=>intro j i; rfl
 | cons p l ih=>
  intro j i;simp only [List.zipIdx_cons,List.map_cons,Instr.findNow,Instr.sameNow,if_true];rw [List.findIdx?_cons]
  by_cases h:k = p.1
  ·subst h; simp
  ·have h1:(k == p.1) = false:=by simpa using h
   have h2:(p.1 == k) = false:=by simpa using fun e=>h e.symm
   simp only [h1,h2,Bool.false_eq_true,if_false,ih (j + 1) (i + 1)]
   cases l.findIdx? (·.1 == k) with
   | none=>rfl
   | some m=>simp [Nat.add_comm,Nat.add_left_comm,Nat.add_assoc]
theorem findKey_run {k:Nat} {kd:IntKind} [gk:TyInt k kd] (n:Int) (l:List (Int × Value)) (w:World) :
  (Instr.findKey k (.int kd n) (l.zipIdx.map fun p=>({ key:=.int kd p.1.1,val:=p.1.2,born:=p.2 }:MapEntry))).run Tryz.prog w = .ok ((l.findIdx? (·.1 == n)).bind fun m=>(l[m]?).map fun p=>(m,p.2)) w:=by
 simp only [Instr.findKey,Sem.run_bind,gk.und,Result.andThen_ok,findNow_from kd n _ rfl,Nat.zero_add]
 rfl
theorem checkKey_from (d:Nat) {k:Nat} {kd:IntKind} [gk:TyInt k kd] (e:Bool) (n:Int) (w:World):(Instr.checkKey e (d + 1) k (.int kd n)).run Tryz.prog w = .ok () w:=by
 simp only [Instr.checkKey,Sem.run_bind,gk.und,Result.andThen_ok]
 rfl
theorem checkKey_run {k:Nat} {kd:IntKind} [gk:TyInt k kd] (e:Bool) (n:Int) (w:World):(Instr.checkKey e 10000 k (.int kd n)).run Tryz.prog w = .ok () w:=checkKey_from 9999 e n w
def lkF (l:List (Int × Value)) (n:Int) (z:Value):Value × Bool:=match l.find? (·.1 == n) with | some p=>(p.2,true) | none=>(z,false)
theorem find_idx (l:List (Int × Value)) (n:Int):((l.findIdx? (·.1 == n)).bind fun m=>(l[m]?).map fun p=>(m,p.2)).map (·.2) = (l.find? (·.1 == n)).map (·.2):=by
 induction l with
 | nil=>rfl
 | cons p l ih=>
  rw [List.findIdx?_cons,List.find?_cons]
  cases h:p.1 == n with
  | true=>simp
  | false=>
   simp only [Bool.false_eq_true,if_false];rw [<- ih]
   cases l.findIdx? (·.1 == n) <;> simp [Function.comp_def]
theorem run_lk [hS:Res w0 z0 B0 w z L] {t k e:Nat} {kd:IntKind} [g:TyMap t k e] [gk:TyInt k kd] {n:Int} {zv:Value} {l:List (Int × Value)} [gb:Blk L b (mO kd l) C] (hz:∀ w,(zeroValue e).run Tryz.prog w = .ok zv w) (c:Bool) :
  (lk t (.map (some b)) (.int kd n) c).run Tryz.prog w = .ok (if c then .tuple #[(lkF l n zv).1,.bool (lkF l n zv).2] else (lkF l n zv).1) w:=by
 have hat:=Res.at_ (g:=gb) hS;simp only [lk,Instr.lookup,Sem.run_bind,g.und,Result.andThen_ok];rw [getObj_run hat (by intros; simp [mO])];simp only [mO,Result.andThen_ok,Sem.run_bind,checkKey_run,findKey_run,run_pure];have:=find_idx l n
 cases h:((l.findIdx? (·.1 == n)).bind fun m=>(l[m]?).map fun p=>(m,p.2)) with
 | none=>
  rw [h] at this;simp only [Option.map_none] at this;have h2:l.find? (·.1 == n) = none:=by cases hh:l.find? (·.1 == n) <;> simp_all
  simp only [lkF,h2,Sem.run_bind,hz,Result.andThen_ok,run_pure]
 | some q=>
  rw [h] at this;simp only [Option.map_some] at this;obtain ⟨p,h2,h3⟩:=Option.map_eq_some_iff.1 this.symm;simp only [lkF,h2,h3,Sem.run_bind,run_pure,Result.andThen_ok]
theorem iV_ms [hS:Res w0 z0 B0 w z L] {t e size n bytes:Nat} {k k':IntKind} {zs:List Value} [g:TyApp t e size bytes] [gs:TySlice t e size] [gz:TyZero e zs] [gl:LenIs zs size] (hn:n * bytes <= 1048576) (hn2:n <= 1048576)
  (hk:∀ b w',w0.heap.size <= b->Res w0 z0 B0 w' z ((b,.cells ((List.range (n * size)).map fun i=>zs[i % zs.length]!).toArray e (0,0)) :: L)->K (.slice (some ⟨b,0,none⟩) n n) w'):V (ms t (.int k n) (.int k' n)) w K:=by
 obtain ⟨zv,hinfo,hzs⟩:=g.info;obtain ⟨i,hi,hz⟩:=Option.map_eq_some_iff.1 hinfo;simp only [Prod.mk.injEq] at hz;obtain ⟨hz0,hz1,hz2⟩:=hz;obtain ⟨zv',hc,hr⟩:=gz.h;have hwr:IntKind.i64.wrap n = n:=wrap_in ⟨by omega,by omega⟩;refine ⟨_,_,?_,hk w.heap.size _ hS.size (hS.new (.cells ((List.range (n * size)).map fun i=>zs[i % zs.length]!).toArray e (0,0)))⟩;have hty:(typeInfo e).run Tryz.prog w = .ok i w:=by
  simp [typeInfo,Sem.run_bind,program,Sem.run,hi]
 have hsm:¬ ((bytes:Int) * n > 2 ^ 48):=by
  have:((n * bytes:Nat):Int) <= 1048576:=by omega
  rw [Int.natCast_mul,Int.mul_comm] at this;omega
 have hask:¬ (n * bytes > roomBytes):=by simp only [roomBytes]; omega
 simp only [ms,Instr.makeSlice,Sem.run_bind,gs.und,gs.size,Result.andThen_ok,asInt,asIntOf,pure_bind,run_pure,hty,hz2,hwr];have h0:¬ ((n:Int) < 0):=by omega
 simp only [h0,decide_false,Bool.false_or,Int.lt_irrefl,gt_iff_lt,hsm,decide_eq_true_eq,or_self,if_false,Bool.false_eq_true,askRoom,Int.toNat_natCast,Sem.run_bind];simp only [gt_iff_lt] at hask;simp only [hask,if_false,run_pure,Result.andThen_ok,gs.size]
 by_cases hz:n * size = 0
 ·have e1:(Array.map (fun x=>(#[]:Array Value)[x % (#[]:Array Value).size]!) (Array.range 0)) = ((List.range 0).map fun i=>zs[i % zs.length]!).toArray:=by
   apply Array.toList_inj.1
   simp
  simp only [hz,if_true,newRow,newObj,Sem.run_bind];rw [e1]
  rfl
 ·simp only [hz,if_false,newRow,newObj,Sem.run_bind,hr,Result.andThen_ok,hc]
  have:(Array.map (fun x=>zs.toArray[x % zs.toArray.size]!) (Array.range (n * size))) = ((List.range (n * size)).map fun i=>zs[i % zs.length]!).toArray:=by
   apply Array.toList_inj.1
   simp
  rw [this]
  rfl
end
end
section
open Go Q Go.RowKit
class PC (F:(List Value->World->Prop)->Prop) (w0:outParam World) (z0:outParam Z) (B0:outParam Bl) (z:outParam Z) (L:outParam Bl) (x:outParam Bool):Prop where
 h:∀ K:List Value->World->Prop,(∀ z' w',Le z z'->Res w0 z0 B0 w' z' L->K [.bool x] w')->F K
structure Later (w0:World) (z0:Z) (B0:Bl) (z:Z) (L:Bl) where
 z':Z
 w:World
 le:Le z z'
 res:Res w0 z0 B0 w z' L
instance {w0:World} {z0 z:Z} {B0 L:Bl} {q:Later w0 z0 B0 z L}:Res w0 z0 B0 q.w q.z' L:=q.res
section
variable {w0 w w':World} {z0 z z':Z} {B0 B B' L F:Bl} {b:Nat} {o:Obj} {C:Obj->Bl} {x y:Bool}
instance PC.lit [hS:Res w0 z0 B0 w z L]:PC (fun K=>K [.bool x] w) w0 z0 B0 z L x:=⟨fun _ h=>h _ _ (Le.refl _) hS⟩
instance PC.val {s:Sem Value} {v:Value} {G:(List Value->World->Prop)->Value->World->Prop} [g:Run s v] [h:PC (fun K=>G K v w) w0 z0 B0 z L x]:PC (fun K=>V s w (G K)) w0 z0 B0 z L x:=
 ⟨fun K hK=>V_run (h.h K hK)⟩
instance PC.ld1 {t off:Nat} {v:Value} {l:List Value} {ty:TypeId} {fr:Nat × Nat} {G:(List Value->World->Prop)->Value->World->Prop} [hS:Res w0 z0 B0 w z L] [g:TyOne t] [Blk L b (.cells l.toArray ty fr) C] [Get l off v] [h:PC (fun K=>G K v w) w0 z0 B0 z L x] :
  PC (fun K=>V (ld t (.pointer (some ⟨b,off,none⟩))) w (G K)) w0 z0 B0 z L x:=⟨fun K hK=>V_ldL1 hS (h.h K hK)⟩
instance PC.ldN {t n off:Nat} {vs:List Value} {l:List Value} {ty:TypeId} {fr:Nat × Nat} {G:(List Value->World->Prop)->Value->World->Prop} [hS:Res w0 z0 B0 w z L] [g:TyAgg t n] [gs:TySize t n] [Blk L b (.cells l.toArray ty fr) C] [gn:GetN l off n vs] [h:PC (fun K=>G K (.agg vs.toArray) w) w0 z0 B0 z L x] :
  PC (fun K=>V (ld t (.pointer (some ⟨b,off,none⟩))) w (G K)) w0 z0 B0 z L x:=⟨fun K hK=>V_ldLN hS (h.h K hK)⟩
instance PC.call {f:FuncId} {args:Array Value} {v:Value} {G:(List Value->World->Prop)->Value->World->Prop} [hS:Res w0 z0 B0 w z L] [Enters f] [g:Pu f args v] [h:∀ q:Later w0 z0 B0 z L,PC (fun K=>G K v q.w) w0 z0 B0 q.z' L x] :
  PC (fun K=>CV (.func (.func f) #[] #[]) args w (G K)) w0 z0 B0 z L x:=⟨fun K hK=>CV_pu fun z' w' hz hS'=>(h ⟨z',w',hz,hS'⟩).h K fun z'' w'' hz' hS''=>hK z'' w'' (hz.trans hz') hS''⟩
class LkV (l:List (Int × Value)) (n:Int) (zv:Value) (v:outParam Value):Prop where
 h:(lkF l n zv).1 = v
class ZeroV (e:TypeId) (zv:outParam Value):Prop where
 h:∀ w,(zeroValue e).run Tryz.prog w = .ok zv w
theorem iV_lkv {K:Value->World->Prop} [hS:Res w0 z0 B0 w z L] {t k e:Nat} {kd:IntKind} {zv v:Value} [g:TyMap t k e] [gk:TyInt k kd] [gz:ZeroV e zv] {n:Int} {l:List (Int × Value)} [gb:Blk L b (mO kd l) C] [gv:LkV l n zv v]
  (hk:K v w):V (lk t (.map (some b)) (.int kd n) false) w K:=⟨_,w,run_lk (gb:=gb) gz.h false,by rw [<- gv.h] at hk; exact hk⟩
instance PC.lk {t k e:Nat} {kd:IntKind} {zv v:Value} {G:(List Value->World->Prop)->Value->World->Prop} [hS:Res w0 z0 B0 w z L] [g:TyMap t k e] [gk:TyInt k kd] [gz:ZeroV e zv] {n:Int} {l:List (Int × Value)} [gb:Blk L b (mO kd l) C] [gv:LkV l n zv v] [h:PC (fun K=>G K v w) w0 z0 B0 z L x] :
  PC (fun K=>V (Go.Proofs.YtmideenmlhbdjaaGreatDoor.lk t (.map (some b)) (.int kd n) false) w (G K)) w0 z0 B0 z L x:=⟨fun K hK=>iV_lkv (C:=C) (h.h K hK)⟩
instance PC.cond {A A':(List Value->World->Prop)->Prop} {c:Bool} [h1:PC A w0 z0 B0 z L x] [h2:PC A' w0 z0 B0 z L y]:PC (fun K=>CondW (.bool c) (A K) (A' K)) w0 z0 B0 z L (bif c then x else y):=
 ⟨fun K hK=>⟨c,rfl,fun hb=>h1.h K (by subst hb; exact hK),fun hb=>h2.h K (by subst hb; exact hK)⟩⟩
instance PC.join {H:(List Value->World->Prop)->Value->World->Prop} {body:(List Value->World->Prop)->(List Value->World->Prop)->Prop} [h1:∀ K,PC (body K) w0 z0 B0 z L x] [h2:∀ q:Later w0 z0 B0 z L,PC (fun K=>H K (.bool x) q.w) w0 z0 B0 q.z' L y] :
  PC (fun K=>∀ K1:List Value->World->Prop,(∀ t w,(∀ _:Env,H K t w)->K1 [t] w)->body K K1) w0 z0 B0 z L y:=
 ⟨fun K hK K1 hK1=>(h1 K).h K1 fun z' w' hz hS=>hK1 _ _ fun _=>(h2 ⟨z',w',hz,hS⟩).h K fun z'' w'' hz' hS'=>hK z'' w'' (hz.trans hz') hS'⟩
theorem JC {rest:Value->World->Prop} {body:(List Value->World->Prop)->Prop} [g:PC body w0 z0 B0 z L x] (h:∀ z' w',Le z z'->Res w0 z0 B0 w' z' L->rest (.bool x) w'):∀ K:List Value->World->Prop,(∀ t w,(∀ _:Env,rest t w)->K [t] w)->body K:=
 fun K hK=>g.h K fun z' w' hz hS=>hK _ _ fun _=>h z' w' hz hS
class Fz (z:Z) (b off:Nat) (vs:outParam (List Value)):Prop where
 h:At z b off vs
theorem fV_ld1 {K:Value->World->Prop} [hS:Res w0 z0 B0 w z L] {t:TypeId} [g:TyOne t] {off:Nat} {v:Value} [h:Fz z0 b off [v]] (hk:K v w):V (ld t (.pointer (some ⟨b,off,none⟩))) w K:=zV_ld1 (h.h.mono hS.zle) hk
theorem fV_ldN {K:Value->World->Prop} [hS:Res w0 z0 B0 w z L] {t n:Nat} [g:TyAgg t n] [gs:TySize t n] {off:Nat} {vs:List Value} [h:Fz z0 b off vs] [hl:LenIs vs n] (hk:K (.agg vs.toArray) w):V (ld t (.pointer (some ⟨b,off,none⟩))) w K:=zV_ldN (h.h.mono hS.zle) hl.h hk
theorem fHV_ld1 {K:Value->Prop} [hS:Res w0 z0 B0 w z L] {t:TypeId} [g:TyOne t] {off:Nat} {v:Value} [h:Fz z0 b off [v]] (hk:K v):HV (ld t (.pointer (some ⟨b,off,none⟩))) w K:=zHV_ld1 (h.h.mono hS.zle) hk
theorem fHV_ldN {K:Value->Prop} [hS:Res w0 z0 B0 w z L] {t n:Nat} [g:TyAgg t n] [gs:TySize t n] {off:Nat} {vs:List Value} [h:Fz z0 b off vs] [hl:LenIs vs n] (hk:K (.agg vs.toArray)):HV (ld t (.pointer (some ⟨b,off,none⟩))) w K:=zHV_ldN (h.h.mono hS.zle) hl.h hk
end
end
section
open Go Q
instance:TyOne 3:=⟨fun _=>by kernel_rfl⟩
instance:TySize 3 1:=⟨fun _=>by kernel_rfl⟩
instance:TyZero 3 [(.int .i64 0)]:=⟨(.int .i64 0),rfl,fun _=>by kernel_rfl⟩
instance:TyInt 3 .i64:=⟨fun _=>by kernel_rfl⟩
instance:TyOne 4:=⟨fun _=>by kernel_rfl⟩
instance:TySize 4 1:=⟨fun _=>by kernel_rfl⟩
instance:TyZero 4 [(.bool false)]:=⟨(.bool false),rfl,fun _=>by kernel_rfl⟩
instance:TyBool 4:=⟨fun _=>by kernel_rfl⟩
instance:TyOne 5:=⟨fun _=>by kernel_rfl⟩
instance:TyInt 5 .u8:=⟨fun _=>by kernel_rfl⟩
instance:TyOne 9:=⟨fun _=>by kernel_rfl⟩
instance:TySize 9 1:=⟨fun _=>by kernel_rfl⟩
instance:TyStr 9:=⟨fun _=>by kernel_rfl⟩
instance:TyAgg 23 3:=⟨fun _=>by kernel_rfl⟩
instance:TySize 23 3:=⟨fun _=>by kernel_rfl⟩
instance:TyZero 23 [(.bool false),(.string ⟨#[]⟩),(.int .i64 0)]:=⟨(.agg #[(.bool false),(.string ⟨#[]⟩),(.int .i64 0)]),rfl,fun _=>by kernel_rfl⟩
instance:Fld 23 0 0:=⟨fun _ _=>by kernel_rfl⟩
instance:Fld 23 1 1:=⟨fun _ _=>by kernel_rfl⟩
instance:Fld 23 2 2:=⟨fun _ _=>by kernel_rfl⟩
instance:TyStruct 23 [(.bool false),(.string ⟨#[]⟩),(.int .i64 0)] [(0,1),(1,1),(2,1)]:=⟨fun _ _=>by kernel_rfl⟩
instance:TyEqS 23 [(4,0),(9,1),(3,2)]:=⟨⟨fieldsOf 23,fun _=>by kernel_rfl,by kernel_rfl,by kernel_rfl⟩,by kernel_rfl,by kernel_rfl⟩
instance:Fld1 23 1 1:=⟨fun _ _=>by kernel_rfl⟩
instance:TyOne 26:=⟨fun _=>by kernel_rfl⟩
instance:TySize 26 1:=⟨fun _=>by kernel_rfl⟩
instance:TyZero 26 [(.int .i64 0)]:=⟨(.int .i64 0),rfl,fun _=>by kernel_rfl⟩
instance:TyAgg 30 2:=⟨fun _=>by kernel_rfl⟩
instance:TySize 30 2:=⟨fun _=>by kernel_rfl⟩
instance:Fld 30 0 0:=⟨fun _ _=>by kernel_rfl⟩
instance:Fld 30 1 1:=⟨fun _ _=>by kernel_rfl⟩
instance:TyStruct 30 [(.string ⟨#[]⟩),(.string ⟨#[]⟩)] [(0,1),(1,1)]:=⟨fun _ _=>by kernel_rfl⟩
instance:TyEqS 30 [(9,0),(9,1)]:=⟨⟨fieldsOf 30,fun _=>by kernel_rfl,by kernel_rfl,by kernel_rfl⟩,by kernel_rfl,by kernel_rfl⟩
instance:TyAgg 39 3:=⟨fun _=>by kernel_rfl⟩
instance:TySize 39 3:=⟨fun _=>by kernel_rfl⟩
instance:Fld 39 0 0:=⟨fun _ _=>by kernel_rfl⟩
instance:Fld 39 1 1:=⟨fun _ _=>by kernel_rfl⟩
instance:Fld 39 2 2:=⟨fun _ _=>by kernel_rfl⟩
instance:TyStruct 39 [(.int .i64 0),(.int .i64 0),(.int .i64 0)] [(0,1),(1,1),(2,1)]:=⟨fun _ _=>by kernel_rfl⟩
instance:TyOne 60:=⟨fun _=>by kernel_rfl⟩
instance:TySize 60 1:=⟨fun _=>by kernel_rfl⟩
instance:TyZero 60 [(.slice none 0 0)]:=⟨(.slice none 0 0),rfl,fun _=>by kernel_rfl⟩
instance:TySlice 60 5 1:=⟨fun _=>by kernel_rfl,fun _=>by kernel_rfl⟩
instance:TyFill 5 1:=⟨(.int .u8 0),rfl,fun _=>by kernel_rfl⟩
instance:TyApp 60 5 1 1:=⟨by kernel_rfl,⟨(.int .u8 0),by kernel_rfl,rfl⟩,by decide⟩
instance:TySlice 64 23 3:=⟨fun _=>by kernel_rfl,fun _=>by kernel_rfl⟩
instance:TyFill 23 3:=⟨(.agg #[(.bool false),(.string ⟨#[]⟩),(.int .i64 0)]),rfl,fun _=>by kernel_rfl⟩
instance:TyApp 64 23 3 32:=⟨by kernel_rfl,⟨(.agg #[(.bool false),(.string ⟨#[]⟩),(.int .i64 0)]),by kernel_rfl,rfl⟩,by decide⟩
instance:ZeroV 107 .nilFunc:=⟨fun _=>by kernel_rfl⟩
instance:Fld 114 0 0:=⟨fun _ _=>by kernel_rfl⟩
instance:Fld 114 1 1:=⟨fun _ _=>by kernel_rfl⟩
instance:TyStruct 114 [(.string ⟨#[]⟩),(.int .i64 0)] [(0,1),(1,1)]:=⟨fun _ _=>by kernel_rfl⟩
instance:TyOne 115:=⟨fun _=>by kernel_rfl⟩
instance:TySize 115 1:=⟨fun _=>by kernel_rfl⟩
instance:TyZero 115 [.nilFunc]:=⟨.nilFunc,rfl,fun _=>by kernel_rfl⟩
instance:TyArr 118 256 4 1:=⟨fun _=>by kernel_rfl,fun _=>by kernel_rfl⟩
instance:ZeroV 125 .nilFunc:=⟨fun _=>by kernel_rfl⟩
instance:TyMap 127 9 125:=⟨fun _=>by kernel_rfl⟩
instance:TyMap 130 9 107:=⟨fun _=>by kernel_rfl⟩
instance:Fld 136 0 0:=⟨fun _ _=>by kernel_rfl⟩
instance:TyStruct 136 [(.int .i64 0),(.int .i64 0),(.int .i64 0)] [(0,3)]:=⟨fun _ _=>by kernel_rfl⟩
instance:TySlice 138 9 1:=⟨fun _=>by kernel_rfl,fun _=>by kernel_rfl⟩
instance:TyFill 9 1:=⟨(.string ⟨#[]⟩),rfl,fun _=>by kernel_rfl⟩
instance:TyOne 159:=⟨fun _=>by kernel_rfl⟩
instance:TySize 159 1:=⟨fun _=>by kernel_rfl⟩
instance:TyZero 159 [.nilFunc]:=⟨.nilFunc,rfl,fun _=>by kernel_rfl⟩
instance:TySlice 166 3 1:=⟨fun _=>by kernel_rfl,fun _=>by kernel_rfl⟩
instance:TyApp 166 3 1 8:=⟨by kernel_rfl,⟨(.int .i64 0),by kernel_rfl,rfl⟩,by decide⟩
instance:TyOne 167:=⟨fun _=>by kernel_rfl⟩
instance:TySize 167 1:=⟨fun _=>by kernel_rfl⟩
instance:TyZero 169 [(.pointer none),(.slice none 0 0)]:=⟨(.agg #[(.pointer none),(.slice none 0 0)]),rfl,fun _=>by kernel_rfl⟩
instance:Fld 169 0 0:=⟨fun _ _=>by kernel_rfl⟩
instance:Fld 169 1 1:=⟨fun _ _=>by kernel_rfl⟩
instance:TyInt 170 .u64:=⟨fun _=>by kernel_rfl⟩
instance:Enters 18:=⟨fun _ _=>by kernel_rfl⟩
instance:Enters 19:=⟨fun _ _=>by kernel_rfl⟩
instance:Enters 21:=⟨fun _ _=>by kernel_rfl⟩
instance:Enters 23:=⟨fun _ _=>by kernel_rfl⟩
instance:Enters 25:=⟨fun _ _=>by kernel_rfl⟩
instance:Enters 27:=⟨fun _ _=>by kernel_rfl⟩
instance:Enters 29:=⟨fun _ _=>by kernel_rfl⟩
instance:Enters 31:=⟨fun _ _=>by kernel_rfl⟩
instance:Enters 33:=⟨fun _ _=>by kernel_rfl⟩
instance:Enters 35:=⟨fun _ _=>by kernel_rfl⟩
instance:Enters 38:=⟨fun _ _=>by kernel_rfl⟩
instance:Enters 39:=⟨fun _ _=>by kernel_rfl⟩
instance:Enters 40:=⟨fun _ _=>by kernel_rfl⟩
instance:Enters 41:=⟨fun _ _=>by kernel_rfl⟩
instance:Enters 42:=⟨fun _ _=>by kernel_rfl⟩
instance:Enters 43:=⟨fun _ _=>by kernel_rfl⟩
instance:Enters 44:=⟨fun _ _=>by kernel_rfl⟩
instance:Enters 45:=⟨fun _ _=>by kernel_rfl⟩
instance:Enters 46:=⟨fun _ _=>by kernel_rfl⟩
instance:Enters 47:=⟨fun _ _=>by kernel_rfl⟩
instance:Enters 55:=⟨fun _ _=>by kernel_rfl⟩
instance:Enters 57:=⟨fun _ _=>by kernel_rfl⟩
instance:Enters 59:=⟨fun _ _=>by kernel_rfl⟩
instance:Enters 61:=⟨fun _ _=>by kernel_rfl⟩
instance:Enters 62:=⟨fun _ _=>by kernel_rfl⟩
instance:Enters 63:=⟨fun _ _=>by kernel_rfl⟩
instance:Enters 64:=⟨fun _ _=>by kernel_rfl⟩
instance:Enters 65:=⟨fun _ _=>by kernel_rfl⟩
instance:Enters 66:=⟨fun _ _=>by kernel_rfl⟩
instance:Enters 71:=⟨fun _ _=>by kernel_rfl⟩
instance:Enters 73:=⟨fun _ _=>by kernel_rfl⟩
instance:Enters 75:=⟨fun _ _=>by kernel_rfl⟩
instance:Enters 76:=⟨fun _ _=>by kernel_rfl⟩
instance:Enters 77:=⟨fun _ _=>by kernel_rfl⟩
instance:Enters 78:=⟨fun _ _=>by kernel_rfl⟩
instance:Enters 79:=⟨fun _ _=>by kernel_rfl⟩
instance:Enters 80:=⟨fun _ _=>by kernel_rfl⟩
instance:Enters 81:=⟨fun _ _=>by kernel_rfl⟩
instance:Enters 84:=⟨fun _ _=>by kernel_rfl⟩
instance:Enters 85:=⟨fun _ _=>by kernel_rfl⟩
instance:Enters 86:=⟨fun _ _=>by kernel_rfl⟩
instance:Enters 87:=⟨fun _ _=>by kernel_rfl⟩
instance:Enters 88:=⟨fun _ _=>by kernel_rfl⟩
instance:Enters 89:=⟨fun _ _=>by kernel_rfl⟩
instance:Enters 90:=⟨fun _ _=>by kernel_rfl⟩
instance:Enters 94:=⟨fun _ _=>by kernel_rfl⟩
instance:Enters 95:=⟨fun _ _=>by kernel_rfl⟩
instance:Enters 102:=⟨fun _ _=>by kernel_rfl⟩
instance:Enters 106:=⟨fun _ _=>by kernel_rfl⟩
instance:Enters 107:=⟨fun _ _=>by kernel_rfl⟩
instance:Enters 108:=⟨fun _ _=>by kernel_rfl⟩
instance:Enters 109:=⟨fun _ _=>by kernel_rfl⟩
instance:Enters 110:=⟨fun _ _=>by kernel_rfl⟩
instance:Enters 111:=⟨fun _ _=>by kernel_rfl⟩
instance:Enters 114:=⟨fun _ _=>by kernel_rfl⟩
instance:Enters 115:=⟨fun _ _=>by kernel_rfl⟩
instance:Enters 116:=⟨fun _ _=>by kernel_rfl⟩
instance:Enters 117:=⟨fun _ _=>by kernel_rfl⟩
instance:Enters 118:=⟨fun _ _=>by kernel_rfl⟩
instance:Enters 119:=⟨fun _ _=>by kernel_rfl⟩
instance:Enters 125:=⟨fun _ _=>by kernel_rfl⟩
instance:Enters 128:=⟨fun _ _=>by kernel_rfl⟩
instance:Enters 129:=⟨fun _ _=>by kernel_rfl⟩
instance:Enters 130:=⟨fun _ _=>by kernel_rfl⟩
instance:Enters 131:=⟨fun _ _=>by kernel_rfl⟩
instance:Enters 132:=⟨fun _ _=>by kernel_rfl⟩
instance:Enters 138:=⟨fun _ _=>by kernel_rfl⟩
instance:Enters 140:=⟨fun _ _=>by kernel_rfl⟩
instance:Enters 141:=⟨fun _ _=>by kernel_rfl⟩
instance:Enters 142:=⟨fun _ _=>by kernel_rfl⟩
instance:Enters 146:=⟨fun _ _=>by kernel_rfl⟩
instance:Enters 149:=⟨fun _ _=>by kernel_rfl⟩
instance:Enters 150:=⟨fun _ _=>by kernel_rfl⟩
instance:Enters 151:=⟨fun _ _=>by kernel_rfl⟩
instance:Enters 152:=⟨fun _ _=>by kernel_rfl⟩
instance:Enters 153:=⟨fun _ _=>by kernel_rfl⟩
instance:Enters 157:=⟨fun _ _=>by kernel_rfl⟩
instance:Enters 158:=⟨fun _ _=>by kernel_rfl⟩
instance:Enters 159:=⟨fun _ _=>by kernel_rfl⟩
instance:Enters 160:=⟨fun _ _=>by kernel_rfl⟩
instance:Enters 161:=⟨fun _ _=>by kernel_rfl⟩
instance:Enters 162:=⟨fun _ _=>by kernel_rfl⟩
instance:Enters 163:=⟨fun _ _=>by kernel_rfl⟩
instance:Enters 164:=⟨fun _ _=>by kernel_rfl⟩
instance:Enters 165:=⟨fun _ _=>by kernel_rfl⟩
instance:Enters 166:=⟨fun _ _=>by kernel_rfl⟩
instance:Enters 167:=⟨fun _ _=>by kernel_rfl⟩
instance:Enters 168:=⟨fun _ _=>by kernel_rfl⟩
instance:Enters 169:=⟨fun _ _=>by kernel_rfl⟩
instance:Enters 170:=⟨fun _ _=>by kernel_rfl⟩
instance:Enters 171:=⟨fun _ _=>by kernel_rfl⟩
instance:Enters 173:=⟨fun _ _=>by kernel_rfl⟩
instance:Enters 174:=⟨fun _ _=>by kernel_rfl⟩
instance:Enters 175:=⟨fun _ _=>by kernel_rfl⟩
instance:Enters 177:=⟨fun _ _=>by kernel_rfl⟩
instance:Enters 178:=⟨fun _ _=>by kernel_rfl⟩
instance:Enters 179:=⟨fun _ _=>by kernel_rfl⟩
instance:Enters 180:=⟨fun _ _=>by kernel_rfl⟩
instance:Enters 181:=⟨fun _ _=>by kernel_rfl⟩
instance:Enters 182:=⟨fun _ _=>by kernel_rfl⟩
instance:Enters 188:=⟨fun _ _=>by kernel_rfl⟩
instance:Enters 189:=⟨fun _ _=>by kernel_rfl⟩
instance:Enters 193:=⟨fun _ _=>by kernel_rfl⟩
instance:Enters 194:=⟨fun _ _=>by kernel_rfl⟩
instance:Enters 195:=⟨fun _ _=>by kernel_rfl⟩
instance:Enters 196:=⟨fun _ _=>by kernel_rfl⟩
instance:Enters 197:=⟨fun _ _=>by kernel_rfl⟩
instance:Enters 198:=⟨fun _ _=>by kernel_rfl⟩
instance:Enters 199:=⟨fun _ _=>by kernel_rfl⟩
instance:Enters 200:=⟨fun _ _=>by kernel_rfl⟩
instance:Enters 202:=⟨fun _ _=>by kernel_rfl⟩
instance:Enters 203:=⟨fun _ _=>by kernel_rfl⟩
instance:Enters 207:=⟨fun _ _=>by kernel_rfl⟩
instance:EntersX 217 Extern.BytealgIndexByte.indexByte:=⟨fun _ _=>by kernel_rfl⟩
end
section
open Go Q Go.RowKit
section
variable {w0 w w':World} {z0 z z':Z} {B0 B B' L F:Bl} {b:Nat} {o:Obj} {C:Obj->Bl} {K:Value->World->Prop}
theorem flat_get {α:Type} {f:α->List Value} {n:Nat} (hf:∀ x,(f x).length = n) {xs:List α} {i:Nat} {x:α} (hx:xs[i]? = some x) (j:Nat) (v:Value) (hv:(f x)[j]? = some v):(xs.flatMap f)[i * n + j]? = some v:=by
 induction xs generalizing i with
 | nil=>simp at hx
 | cons y xs ih=>
  rw [List.flatMap_cons];have hj:=(List.getElem?_eq_some_iff.1 hv).1
  cases i with
  | zero=>
   simp at hx; subst hx;rw [Nat.zero_mul,Nat.zero_add,List.getElem?_append_left hj];exact hv
  | succ i=>
   rw [List.getElem?_append_right (by rw [hf,Nat.add_mul]; omega),hf,show (i + 1) * n + j - n = i * n + j by rw [Nat.add_mul]; omega];exact ih (by simpa using hx)
theorem Res.freezeSl {α:Type} {E:El α} {e:Nat} {v:Value} {xs:List α} {f:α->List Value} (h:Res w0 z0 B0 w z (B ++ L)) (ho:OwnSl e E.size B v xs.length (xs.flatMap f)) (hb:xs.length <= big) (hf:∀ x,(f x).length = E.size) (hr:∀ z x,x ∈ xs->E.rel z (f x) x) :
  ∃ z',Le z z'/\Res w0 z0 B0 w z' L/\SlR E z' v xs:=by
 rcases ho.2 with ⟨rfl,rfl,h0⟩ | ⟨b,cap,sp,rfl,rfl,h1,h2,h3⟩
 ·have:xs = []:=List.eq_nil_of_length_eq_zero h0
  subst this;exact ⟨z,Le.refl _,h,SlR.nil⟩
 ·refine ⟨_,Res.freeze_le h,Res.freeze h,some ⟨b,0,none⟩,cap,rfl,h1,hb,fun _=>⟨b,0,rfl,fun i x hx=>⟨f x,hr _ _ (List.mem_of_getElem? hx),_,_,_,if_pos rfl,fun j v hv=>?_⟩⟩⟩
  have:=flat_get hf hx j v hv;have hlt:=(List.getElem?_eq_some_iff.1 this).1;simp only [Nat.zero_add,List.getElem?_toArray];rw [List.getElem?_append_left hlt];exact this
theorem SetN.behind {ps l vs l':List Value} {i:Nat} (g:SetN l i vs l'):SetN (ps ++ l) (ps.length + i) vs (ps ++ l') where
 len:=by simp [g.len]
 bound:=by have:=g.bound; simp; omega
 inn:=fun j v h=>by rw [List.getElem?_append_right (by omega),show ps.length + i + j - ps.length = i + j by omega]; exact g.inn j v h
 out:=fun k hk=>by
  by_cases hp:k < ps.length
  ·rw [List.getElem?_append_left hp,List.getElem?_append_left hp]
  ·rw [List.getElem?_append_right (by omega),List.getElem?_append_right (by omega)]
   exact g.out _ (by omega)
end
end
section
open Go Q Go.RowKit
inductive It
 | bl (B:Bl)
 | at (b:Nat)
class BringL (L B:Bl) (R:outParam Bl):Prop where
 h:L.Perm (B ++ R)
instance (priority:=950) BringL.all {B:Bl}:BringL B B []:=⟨by simp⟩
instance (priority:=900) BringL.cons {L B R:Bl} {p:Nat × Obj} [g:BringL L B R]:BringL (p :: L) B (p :: R):=⟨(g.h.cons p).trans List.perm_middle.symm⟩
class BringB (L:Bl) (b:Nat) (o:outParam Obj) (R:outParam Bl):Prop where
 h:L.Perm ((b,o) :: R)
instance BringB.here {b:Nat} {o:Obj} {R:Bl}:BringB ((b,o) :: R) b o R:=⟨.refl _⟩
instance (priority:=900) BringB.cons {L R:Bl} {b:Nat} {o:Obj} {p:Nat × Obj} [g:BringB L b o R]:BringB (p :: L) b o (p :: R):=⟨(g.h.cons p).trans (.swap _ _ _)⟩
instance (priority:=800) BringB.app {A L R:Bl} {b:Nat} {o:Obj} [g:BringB L b o R]:BringB (A ++ L) b o (A ++ R):=⟨(g.h.append_left A).trans List.perm_middle⟩
class Keep (L:Bl) (spec:List It) (L':outParam Bl):Prop where
 h:∃ R,L.Perm (L' ++ R)
instance Keep.nil {L:Bl}:Keep L [] []:=⟨L,by simp⟩
instance Keep.bl {L B R T:Bl} {spec:List It} [g:BringL L B R] [k:Keep R spec T]:Keep L (.bl B :: spec) (B ++ T):=⟨by
 obtain ⟨X,hX⟩:=k.h;exact ⟨X,g.h.trans (by rw [List.append_assoc]; exact hX.append_left B)⟩⟩
instance Keep.at {L R T:Bl} {b:Nat} {o:Obj} {spec:List It} [g:BringB L b o R] [k:Keep R spec T]:Keep L (.at b :: spec) ((b,o) :: T):=⟨by
 obtain ⟨X,hX⟩:=k.h;exact ⟨X,g.h.trans (hX.cons _)⟩⟩
section
variable {w0 w:World} {z0 z:Z} {B0 L L':Bl}
theorem Res.keep (spec:List It) (h:Res w0 z0 B0 w z L) [g:Keep L spec L']:Res w0 z0 B0 w z L':=by
 obtain ⟨R,hR⟩:=g.h;exact (h.perm hR).sublist (List.sublist_append_left _ _)
theorem Res.bring (B:Bl) {R:Bl} (h:Res w0 z0 B0 w z L) [g:BringL L B R]:Res w0 z0 B0 w z (B ++ R):=h.perm g.h
theorem Res.bringB (b:Nat) {o:Obj} {R:Bl} (h:Res w0 z0 B0 w z L) [g:BringB L b o R]:Res w0 z0 B0 w z ((b,o) :: R):=h.perm g.h
end
end
section
open Go Q Go.RowKit
section
variable {α σ:Type}
end
section
variable {α σ:Type} {E:El α} {z:Z} {w:World}
end
end
section
open Go Q Go.RowKit
section
variable {w0 w w':World} {z0 z z':Z} {B0 B B' L F:Bl} {K:Value->World->Prop}
end
section
variable {w0 w:World} {z0 z z1:Z} {B0 L:Bl} {b:Nat}
end
theorem SlR.take {α:Type} {E:El α} {z:Z} {a:Option Addr} {n cap k:Nat} {xs:List α} (h:SlR E z (.slice a n cap) xs) (hk:k <= xs.length):SlR E z (.slice a k cap) (xs.take k):=by
 obtain ⟨a',cap',h1,h2,h3,h4⟩:=h
 cases h1
 have hl:(xs.take k).length = k:=by rw [List.length_take]; omega
 refine ⟨a,cap,by rw [hl],by omega,by omega,fun hne=>?_⟩;have hx:xs ≠ []:=by intro e; rw [e] at hne; simp at hne
 obtain ⟨b,off,h5,h6⟩:=h4 hx;refine ⟨b,off,h5,fun i x hi=>h6 i x ?_⟩;have hlt:=(List.getElem?_eq_some_iff.1 hi).1;rw [hl] at hlt;rw [List.getElem?_take_of_lt hlt] at hi;exact hi
theorem SlR.drop {α:Type} {E:El α} {z:Z} {b off n cap k s:Nat} {xs:List α} (h:SlR E z (.slice (some ⟨b,off,none⟩) n cap) xs) (hs:E.size = s) (hk:k <= xs.length):SlR E z (.slice (some ⟨b,if cap = k then off else off + k * s,none⟩) (n - k) (cap - k)) (xs.drop k):=by
 obtain ⟨a',cap',h1,h2,h3,h4⟩:=h
 cases h1
 subst hs;refine ⟨_,cap - k,by rw [List.length_drop],by rw [List.length_drop]; omega,by rw [List.length_drop]; omega,fun hne=>?_⟩;have hkl:k < xs.length:=by
  rcases Nat.lt_or_ge k xs.length with hh | hh
  ·exact hh
  ·exact absurd (List.drop_of_length_le hh) hne
 have hx:xs ≠ []:=by intro e; rw [e] at hkl; simp at hkl
 obtain ⟨b',off',h5,h6⟩:=h4 hx
 cases h5
 refine ⟨b,off + k * E.size,by rw [if_neg (by omega)],fun i x hi=>?_⟩;rw [List.getElem?_drop] at hi;obtain ⟨cs,h7,h8⟩:=h6 _ x hi;exact ⟨cs,h7,by rw [Nat.add_assoc,<- Nat.add_mul]; exact h8⟩
theorem SlR.get {α:Type} {E:El α} {z:Z} {b off n cap i:Nat} {xs:List α} {x:α} (h:SlR E z (.slice (some ⟨b,off,none⟩) n cap) xs) (hx:xs[i]? = some x):∃ cs,E.rel z cs x/\At z b (off + i * E.size) cs:=by
 obtain ⟨hb,a,cap',h1,hc,hel⟩:=h.form;obtain ⟨b',off',cs,h2,h3,h4⟩:=hel i x hx
 cases h1
 cases h2
 exact ⟨cs,h3,h4⟩
instance {t:Nat} {s:ByteArray} {h:Int} {k:IntKind} [g:TyStr t] [hr:InR h (s.size + 1)]:Run (sl t (.string s) none (some (.int k h)) none) (.string (s.extract 0 h.toNat)):=⟨fun w=>by
 have h1:h <= s.size:=by have:=hr.h1; omega
 simp only [sl,Instr.sliceAt,Sem.run_bind,g.und,Result.andThen_ok,Instr.slice,Instr.sliceBounds,run_pure,Instr.sliceBound,asIntOf,pure_bind,hr.h0,h1,and_self,if_true,Option.isSome_none,Bool.false_eq_true,if_false]⟩
class MulI (i:Int) (s:Nat) (o:outParam Nat):Prop where
 h:i.toNat * s = o
 h0:0 <= i
instance {b t e s n off m o:Nat} [g:TyArr t n e s] {i:Int} {k:IntKind} [hi:InR i n] [hm:MulI i s m] [ho:AddN off m o]:Run (ia t (.pointer (some ⟨b,off,none⟩)) (.int k i)) (.pointer (some ⟨b,o,none⟩)):=⟨fun w=>by
 rw [<- ho.h,<- hm.h];simp only [ia,Instr.indexAt,Instr.sureAddr,asIntOf,pure_bind,Sem.run_bind,g.und,g.size,Result.andThen_ok,hi.h0,hi.h1,and_self,if_true,add_addr]
 rfl⟩
instance {t:Nat} {a b:Int} [h:InR 0 b] [g:InI a]:Run (bi .quo t (.int .i64 a) (.int .i64 b)) (.int .i64 (a.tdiv b)):=⟨fun w=>by
 have h1:b ≠ 0:=by have:=h.h1; omega
 have h2:=IntWalk.i64_quo' a b (by have:=g.h; have:=h.h1; omega);simp [bi,binOp,Op.intDiv,h1,h2]⟩
instance (priority:=500) {t:Nat} {a b:Int} [h:InR 0 b]:Run (bi .quo t (.int .i64 a) (.int .i64 b)) (.int .i64 (IntKind.i64.wrap (a.tdiv b))):=⟨fun w=>by
 have h1:b ≠ 0:=by have:=h.h1; omega
 simp [bi,binOp,Op.intDiv,h1]⟩
instance {t:Nat} {a b:Int} [h:InR 0 b]:Run (bi .rem t (.int .i64 a) (.int .i64 b)) (.int .i64 (a.tmod b)):=⟨fun w=>by
 have h1:b ≠ 0:=by have:=h.h1; omega
 simp [bi,binOp,Op.intDiv,h1]⟩
end
section
open Go Q Go.RowKit
class PuZ (z0:Z) (f:FuncId) (args:Array Value) (v:outParam Value):Prop where
 h:∀ z w,Le z0 z->Fn1 f args z w fun _ v'=>v' = v
section
variable {w0 w w':World} {z0 z z':Z} {B0 B B' L F:Bl} {b:Nat} {o:Obj} {C:Obj->Bl} {x y:Bool}
theorem CV_puz {K:Value->World->Prop} [hS:Res w0 z0 B0 w z L] {f:FuncId} [Enters f] {args:Array Value} {v:Value} [g:PuZ z0 f args v] (hk:∀ z' w',Le z z'->Res w0 z0 B0 w' z' L->K v w'):CV (.func (.func f) #[] #[]) args w K:=
 CV_fn1 hS (g.h z w hS.zle) (by simp) fun z' w' v' h1 h2 h3=>by subst h3; exact hk z' w' h1 h2
instance (priority:=900) PC.callz {f:FuncId} {args:Array Value} {v:Value} {G:(List Value->World->Prop)->Value->World->Prop} [hS:Res w0 z0 B0 w z L] [Enters f] [g:PuZ z0 f args v] [h:∀ q:Later w0 z0 B0 z L,PC (fun K=>G K v q.w) w0 z0 B0 q.z' L x] :
  PC (fun K=>CV (.func (.func f) #[] #[]) args w (G K)) w0 z0 B0 z L x:=⟨fun K hK=>CV_puz fun z' w' hz hS'=>(h ⟨z',w',hz,hS'⟩).h K fun z'' w'' hz' hS''=>hK z'' w'' (hz.trans hz') hS''⟩
theorem fRI_1 {A:Prop} [hS:Res w0 z0 B0 w z L] {t:TypeId} [g:TyOne t] {off:Nat} {v:Value} [h:Fz z0 b off [v]] (ha:A):RunIs (ld t (.pointer (some ⟨b,off,none⟩))) w v/\A:=⟨run_ld1 ((h.h.mono hS.zle).world hS.sub),ha⟩
end
structure Boxed (w0:World) (z0:Z) (B0:Bl) (z:Z) (L:Bl) (t:TypeId) (vs:List Value) where
 b:Nat
 w:World
 res:Res w0 z0 B0 w z ((b,.cells vs.toArray t (0,0)) :: L)
instance {w0:World} {z0 z:Z} {B0 L:Bl} {t:TypeId} {vs:List Value} {q:Boxed w0 z0 B0 z L t vs}:Res w0 z0 B0 q.w z ((q.b,.cells vs.toArray t (0,0)) :: L):=q.res
section
variable {w0 w w':World} {z0 z z':Z} {B0 B B' L F:Bl} {b:Nat} {o:Obj} {C:Obj->Bl} {x y:Bool}
end
instance {t u:Nat} {a b:Int}:Run (Builtin.max_ #[t,t] u #[.int .i64 a,.int .i64 b]) (.int .i64 (max a b)):=⟨fun w=>by
 have h:(if b > a then b else a) = max a b:=by rw [Int.max_def]; split <;> split <;> omega
 simp only [Builtin.max_,List.foldlM_cons,List.foldlM_nil,Builtin.max2,h,pure_bind]
 rfl⟩
instance {t u:Nat} {a b:Int}:Run (Builtin.min_ #[t,t] u #[.int .i64 a,.int .i64 b]) (.int .i64 (min a b)):=⟨fun w=>by
 have h:(if b < a then b else a) = min a b:=by rw [Int.min_def]; split <;> split <;> omega
 simp only [Builtin.min_,List.foldlM_cons,List.foldlM_nil,Builtin.min2,h,pure_bind]
 rfl⟩
section
variable {α:Type} {w0 w:World} {z0 z:Z} {B0 L:Bl}
theorem LoopR2 [hS:Res w0 z0 B0 w z L] (Inv:α->Value->Value->Prop) (μ:α->Nat) {body:(List Value->World->Prop)->(List Value->World->Nat)->Value->Value->World->Nat->Prop} {x0 y0:Value} (a0:α) (h0:Inv a0 x0 y0)
  (hs:∀ I M a x y w' z' m,Inv a x y->Le z z'->Res w0 z0 B0 w' z' L->(∀ a' x' y' w'' z'',Inv a' x' y'->Le z' z''->Res w0 z0 B0 w'' z'' L->μ a' < μ a->I [x',y'] w''/\M [x',y'] w'' < m)->body I M x y w' m) :
  ∃ (I:List Value->World->Prop) (M:List Value->World->Nat),I [x0,y0] w/\∀ _:Env,∀ x,∀ y,∀ w,I [x,y] w->∀ m,m = M [x,y] w->body I M x y w m:=
 LoopG2 (fun a x y w'=>Inv a x y/\∃ z',Le z z'/\Res w0 z0 B0 w' z' L) μ a0 ⟨h0,z,Le.refl _,hS⟩ (fun I M a x y w' m ⟨h1,z',h2,h3⟩ back=>hs I M a x y w' z' m h1 h2 h3 fun a' x' y' w'' z'' h4 h5 h6 h7=>back a' x' y' w'' ⟨h4,z'',h2.trans h5,h6⟩ h7)
end
class KeyTy {κ:Type} [DecidableEq κ] (k:Nat) (mk:κ->Value):Prop where
 same:∃ d,(∀ w,(underlying k).run Tryz.prog w = .ok d w)/\∀ a b,Instr.sameNow d (mk a) (mk b) = some (decide (a = b))
 check:∀ e n w,(Instr.checkKey e 10000 k (mk n)).run Tryz.prog w = .ok () w
 bits:∀ a,Instr.sameBits 10000 (mk a) (mk a) = true
theorem bytes_beq (a b:ByteArray):(a == b) = decide (a = b):=by
 have h1:(a == b) = (a.data == b.data):=by cases a; cases b; rfl
 rw [h1,Bool.eq_iff_iff];simp only [beq_iff_eq,decide_eq_true_eq];exact ⟨fun h=>by cases a; cases b; simp_all,fun h=>by rw [h]⟩
theorem checkKey_str (d:Nat) {k:Nat} [gk:TyStr k] (e:Bool) (n:ByteArray) (w:World):(Instr.checkKey e (d + 1) k (.string n)).run Tryz.prog w = .ok () w:=by
 simp only [Instr.checkKey,Sem.run_bind,gk.und,Result.andThen_ok]
 rfl
instance {k:Nat} [gk:TyStr k]:KeyTy k Value.string where
 same:=⟨.string,gk.und,fun a b=>by simp only [Instr.sameNow,bytes_beq]⟩
 check:=fun e n w=>checkKey_str 9999 e n w
 bits:=fun a=>by simp only [Instr.sameBits,bytes_beq,decide_true]
instance {k:Nat} {kd:IntKind} [gk:TyInt k kd]:KeyTy k (Value.int kd) where
 same:=⟨.int kd,gk.und,fun a b=>by simp only [Instr.sameNow,if_true,Bool.beq_eq_decide_eq]⟩
 check:=fun e n w=>checkKey_run e n w
 bits:=fun a=>by simp [Instr.sameBits]
section
variable {κ:Type} [DecidableEq κ]
def ent (mk:κ->Value) (l:List (κ × Value)):List MapEntry:=l.zipIdx.map fun p=>{ key:=mk p.1.1,val:=p.1.2,born:=p.2 }
def mK (mk:κ->Value) (l:List (κ × Value)):Obj:=.map (ent mk l).toArray l.length
def atK (l:List (κ × Value)) (n:κ):Option (Nat × Value):=(l.findIdx? fun p=>decide (p.1 = n)).bind fun m=>(l[m]?).map fun p=>(m,p.2)
def getK (l:List (κ × Value)) (n:κ):Option Value:=(atK l n).map (·.2)
def upK (l:List (κ × Value)) (n:κ) (v:Value):List (κ × Value):=match atK l n with | some p=>l.set p.1 (n,v) | none=>l ++ [(n,v)]
theorem findNowK {mk:κ->Value} {d:TypeDesc} (hd:∀ a b,Instr.sameNow d (mk a) (mk b) = some (decide (a = b))) (n:κ):∀ (l:List (κ × Value)) (j i:Nat),
  Instr.findNow d (mk n) ((l.zipIdx j).map fun p=>({ key:=mk p.1.1,val:=p.1.2,born:=p.2 }:MapEntry)) i = some ((l.findIdx? fun p=>decide (p.1 = n)).bind fun m=>(l[m]?).map fun p=>(i + m,p.2)):=by
 intro l
 induction l with
 | nil=>intro j i; rfl
 | cons p l ih=>
  intro j i;simp only [List.zipIdx_cons,List.map_cons,Instr.findNow,hd];rw [List.findIdx?_cons]
  by_cases h:p.1 = n
  ·subst h; simp
  ·have h':¬ n = p.1:=fun e=>h e.symm
   simp only [decide_eq_false h,decide_eq_false h',Bool.false_eq_true,if_false,ih (j + 1) (i + 1)]
   cases l.findIdx? (fun p=>decide (p.1 = n)) with
   | none=>rfl
   | some m=>simp [Nat.add_comm,Nat.add_left_comm,Nat.add_assoc]
theorem findKeyK {k:Nat} {mk:κ->Value} [g:KeyTy k mk] (n:κ) (l:List (κ × Value)) (w:World):(Instr.findKey k (mk n) (ent mk l)).run Tryz.prog w = .ok (atK l n) w:=by
 obtain ⟨d,h1,h2⟩:=g.same;simp only [Instr.findKey,Sem.run_bind,h1,Result.andThen_ok,ent,findNowK h2 n l 0 0,Nat.zero_add]
 rfl
theorem getK_find (l:List (κ × Value)) (n:κ):getK l n = (l.find? fun p=>decide (p.1 = n)).map (·.2):=by
 unfold getK atK
 induction l with
 | nil=>rfl
 | cons p l ih=>
  rw [List.findIdx?_cons,List.find?_cons]
  cases h:decide (p.1 = n) with
  | true=>simp
  | false=>
   simp only [Bool.false_eq_true,if_false];rw [<- ih]
   cases l.findIdx? (fun p=>decide (p.1 = n)) <;> simp [Function.comp_def]
theorem atK_some {l:List (κ × Value)} {n:κ} {p:Nat × Value} (h:atK l n = some p):l[p.1]? = some (n,p.2)/\∀ j,j < p.1->∀ q,l[j]? = some q->q.1 ≠ n:=by
 unfold atK at h;obtain ⟨m,h1,h2⟩:=Option.bind_eq_some_iff.1 h;obtain ⟨q,h3,h4⟩:=Option.map_eq_some_iff.1 h2;rw [List.findIdx?_eq_some_iff_getElem] at h1;obtain ⟨hlt,h5,h6⟩:=h1;subst h4;have hq:l[m] = q:=by rw [List.getElem?_eq_getElem hlt] at h3; exact Option.some.inj h3
 refine ⟨?_,fun j hj q' hq'=>?_⟩
 ·simp only [hq,decide_eq_true_eq] at h5
  rw [h3,<- h5]
 ·have:=h6 j hj
  rw [List.getElem?_eq_getElem (by simp only at hj; omega)] at hq'
  cases hq'
  simpa using this
theorem ent_set {mk:κ->Value} {l:List (κ × Value)} {i:Nat} {n:κ} {v:Value} (hi:i < l.length):(ent mk l).toArray.modify i (fun e=>{ e with key:=mk n,val:=v }) = (ent mk (l.set i (n,v))).toArray:=by
 apply Array.ext_getElem?
 intro j;rw [Array.getElem?_modify];simp only [List.getElem?_toArray,ent,List.getElem?_map,List.getElem?_zipIdx,Nat.zero_add]
 by_cases hj:i = j
 ·subst hj
  simp [hi]
 ·rw [if_neg hj,List.getElem?_set_ne hj]
end
section
variable {κ:Type} [DecidableEq κ] {w0 w w':World} {z0 z z':Z} {B0 B B' L F:Bl} {b:Nat} {o:Obj} {C:Obj->Bl} {K:Value->World->Prop}
theorem kV_mm [hS:Res w0 z0 B0 w z L] {t:TypeId} (mk:κ->Value) (hk:∀ b w',w0.heap.size <= b->Res w0 z0 B0 w' z ((b,mK mk []) :: L)->K (.map (some b)) w'):V (mm t none) w K:=by
 refine ⟨_,_,?_,hk w.heap.size _ hS.size (hS.new (mK mk []))⟩;simp only [mm,Instr.makeMap,Sem.run_bind,newObj,Sem.run,Result.andThen_ok]
 rfl
theorem run_muK {t k e:Nat} {mk:κ->Value} [g:TyMap t k e] [gk:KeyTy k mk] {n:κ} {v:Value} {l:List (κ × Value)} (hat:w.heap[b]? = some (mK mk l)) :
  (mu t (.map (some b)) (mk n) v).run Tryz.prog w = .ok () { w with heap:=w.heap.setIfInBounds b (mK mk (upK l n v)) }:=by
 simp only [mu,Instr.mapUpdate,Sem.run_bind,g.und,Result.andThen_ok];rw [getObj_run hat (by intros; simp [mK])];simp only [mK,Result.andThen_ok,Sem.run_bind,gk.check,findKeyK];unfold upK
 cases h:atK l n with
 | none=>
  simp only;rw [setObj_run hat (by intros; simp [mK])];simp [ent,List.zipIdx_append]
 | some p=>
  obtain ⟨h1,h2⟩:=atK_some h;have hlt:=(List.getElem?_eq_some_iff.1 h1).1;have hkey:(((ent mk l).toArray[p.1]?).map (·.key)).getD (mk n) = mk n:=by
   simp [ent,h1]
  simp only [hkey,Instr.keyThatStays,gk.bits,if_true,run_pure,Result.andThen_ok,Sem.run_bind];rw [setObj_run hat (by intros; simp [mK]),ent_set hlt];simp
theorem kU_mu {K:World->Prop} [hS:Res w0 z0 B0 w z L] {t k e:Nat} {mk:κ->Value} [g:TyMap t k e] [gk:KeyTy k mk] {n:κ} {v:Value} {l:List (κ × Value)} [gb:Blk L b (mK mk l) C]
  (hk:∀ w',Res w0 z0 B0 w' z (C (mK mk (upK l n v)))->K w'):U (mu t (.map (some b)) (mk n) v) w K:=
 ⟨_,run_muK (Res.at_ (g:=gb) hS),hk _ (Res.set (g:=gb) hS (mK mk (upK l n v)) rfl)⟩
theorem run_lkK {t k e:Nat} {mk:κ->Value} [g:TyMap t k e] [gk:KeyTy k mk] {n:κ} {zv:Value} {l:List (κ × Value)} (hat:w.heap[b]? = some (mK mk l)) (hz:∀ w,(zeroValue e).run Tryz.prog w = .ok zv w) (c:Bool) :
  (lk t (.map (some b)) (mk n) c).run Tryz.prog w = .ok (if c then .tuple #[(getK l n).getD zv,.bool (getK l n).isSome] else (getK l n).getD zv) w:=by
 simp only [lk,Instr.lookup,Sem.run_bind,g.und,Result.andThen_ok];rw [getObj_run hat (by intros; simp [mK])];simp only [mK,Result.andThen_ok,Sem.run_bind,gk.check,findKeyK,run_pure];unfold getK
 cases h:atK l n with
 | none=>simp only [Sem.run_bind,hz,Result.andThen_ok,run_pure]; rfl
 | some p=>simp only [run_pure,Result.andThen_ok]; rfl
theorem kV_lk [hS:Res w0 z0 B0 w z L] {t k e:Nat} {mk:κ->Value} {zv:Value} [g:TyMap t k e] [gk:KeyTy k mk] [gz:ZeroV e zv] {n:κ} {l:List (κ × Value)} [gb:Blk L b (mK mk l) C] {c:Bool}
  (hk:K (if c then .tuple #[(getK l n).getD zv,.bool (getK l n).isSome] else (getK l n).getD zv) w):V (lk t (.map (some b)) (mk n) c) w K:=⟨_,w,run_lkK (Res.at_ (g:=gb) hS) gz.h c,hk⟩
theorem kHV_lk {K:Value->Prop} [hS:Res w0 z0 B0 w z L] {t k e:Nat} {mk:κ->Value} {zv:Value} [g:TyMap t k e] [gk:KeyTy k mk] [gz:ZeroV e zv] {n:κ} {l:List (κ × Value)} [gb:Blk L b (mK mk l) C] {c:Bool}
  (hk:K (if c then .tuple #[(getK l n).getD zv,.bool (getK l n).isSome] else (getK l n).getD zv)):HV (lk t (.map (some b)) (mk n) c) w K:=⟨_,run_lkK (Res.at_ (g:=gb) hS) gz.h c,hk⟩
end
end
section
open Go Q Go.RowKit
structure Now (w0:World) (z0:Z) (B0:Bl) (z:Z) (L:Bl) where
 w:World
 res:Res w0 z0 B0 w z L
class PG {α:Type} (inj:α->Value) (F:(List Value->World->Prop)->Prop) (w0:outParam World) (z0:outParam Z) (B0:outParam Bl) (z:outParam Z) (L:outParam Bl) (x:outParam α):Prop where
 h:∀ K:List Value->World->Prop,(∀ z' w',Le z z'->Res w0 z0 B0 w' z' L->K [inj x] w')->F K
class PW (G:Prop) (R:Value->World->Prop) (w0:outParam World) (z0:outParam Z) (B0:outParam Bl) (v:outParam Value):Prop where
 h:(∀ z' w' L',Res w0 z0 B0 w' z' L'->R v w')->G
section
variable {w0 w w':World} {z0 z z':Z} {B0 B B' L F:Bl} {b:Nat} {o:Obj} {C:Obj->Bl}
instance PG.val {α:Type} {inj:α->Value} {x:α} {s:Sem Value} {v:Value} [g:Run s v] {G:(List Value->World->Prop)->Value->World->Prop} [h:PG inj (fun K=>G K v w) w0 z0 B0 z L x]:PG inj (fun K=>V s w (G K)) w0 z0 B0 z L x:=⟨fun K hK=>V_run (h.h K hK)⟩
instance PW.val {R:Value->World->Prop} {v0:Value} {s:Sem Value} {v:Value} [g:Run s v] {G:Value->World->Prop} [h:PW (G v w) R w0 z0 B0 v0]:PW (V s w G) R w0 z0 B0 v0:=⟨fun hK=>V_run (h.h hK)⟩
instance PG.hval {α:Type} {inj:α->Value} {x:α} {s:Sem Value} {v:Value} [g:Run s v] {G:(List Value->World->Prop)->Value->Prop} [h:PG inj (fun K=>G K v) w0 z0 B0 z L x]:PG inj (fun K=>HV s w (G K)) w0 z0 B0 z L x:=⟨fun K hK=>HV_run (h.h K hK)⟩
instance PW.hval {R:Value->World->Prop} {v0:Value} {s:Sem Value} {v:Value} [g:Run s v] {G:Value->Prop} [h:PW (G v) R w0 z0 B0 v0]:PW (HV s w G) R w0 z0 B0 v0:=⟨fun hK=>HV_run (h.h hK)⟩
instance PG.ld1 {α:Type} {inj:α->Value} {x:α} {t off:Nat} {v:Value} {l:List Value} {ty:TypeId} {fr:Nat × Nat} [hS:Res w0 z0 B0 w z L] [g:TyOne t] [Blk L b (.cells l.toArray ty fr) C] [Get l off v] {G:(List Value->World->Prop)->Value->World->Prop} [h:PG inj (fun K=>G K v w) w0 z0 B0 z L x]:PG inj (fun K=>V (ld t (.pointer (some ⟨b,off,none⟩))) w (G K)) w0 z0 B0 z L x:=⟨fun K hK=>V_ldL1 hS (h.h K hK)⟩
instance PW.ld1 {R:Value->World->Prop} {v0:Value} {t off:Nat} {v:Value} {l:List Value} {ty:TypeId} {fr:Nat × Nat} [hS:Res w0 z0 B0 w z L] [g:TyOne t] [Blk L b (.cells l.toArray ty fr) C] [Get l off v] {G:Value->World->Prop} [h:PW (G v w) R w0 z0 B0 v0]:PW (V (ld t (.pointer (some ⟨b,off,none⟩))) w G) R w0 z0 B0 v0:=⟨fun hK=>V_ldL1 hS (h.h hK)⟩
instance PG.pk {α:Type} {inj:α->Value} {x:α} {c:Bool} {v v':Value} {G:(List Value->World->Prop)->Value->Prop} [h:PG inj (fun K=>G K (bif c then v else v')) w0 z0 B0 z L x]:PG inj (fun K=>Pk (.bool c) v v' (G K)) w0 z0 B0 z L x:=⟨fun K hK=>Pk_b (h.h K hK)⟩
instance PW.pk {R:Value->World->Prop} {v0:Value} {c:Bool} {v v':Value} {G:Value->Prop} [h:PW (G (bif c then v else v')) R w0 z0 B0 v0]:PW (Pk (.bool c) v v' G) R w0 z0 B0 v0:=⟨fun hK=>Pk_b (h.h hK)⟩
instance PW.bx {R:Value->World->Prop} {v0:Value} {t:TypeId} {v:Value} {vs:List Value} [hS:Res w0 z0 B0 w z L] [g:CellsOf v vs] {G:Value->World->Prop} [h:∀ q:Boxed w0 z0 B0 z L t vs,PW (G (.pointer (some ⟨q.b,0,none⟩)) q.w) R w0 z0 B0 v0]:PW (V (bx t v) w G) R w0 z0 B0 v0:=⟨fun hK=>V_bx (g:=g) hS fun b w' _ hS'=>(h ⟨b,w',hS'⟩).h hK⟩
instance PG.al {α:Type} {inj:α->Value} {x:α} {t:TypeId} {vs:List Value} [hS:Res w0 z0 B0 w z L] [g:TyZero t vs] {G:(List Value->World->Prop)->Value->World->Prop} [h:∀ q:Boxed w0 z0 B0 z L t vs,PG inj (fun K=>G K (.pointer (some ⟨q.b,0,none⟩)) q.w) w0 z0 B0 z ((q.b,.cells vs.toArray t (0,0)) :: L) x]:PG inj (fun K=>V (al t) w (G K)) w0 z0 B0 z L x:=⟨fun K hK=>V_al (g:=g) hS fun b w' _ hS'=>(h ⟨b,w',hS'⟩).h K fun z'' w'' hz hS''=>hK z'' w'' hz (hS''.sublist (List.sublist_cons_self _ _))⟩
instance PW.al {R:Value->World->Prop} {v0:Value} {t:TypeId} {vs:List Value} [hS:Res w0 z0 B0 w z L] [g:TyZero t vs] {G:Value->World->Prop} [h:∀ q:Boxed w0 z0 B0 z L t vs,PW (G (.pointer (some ⟨q.b,0,none⟩)) q.w) R w0 z0 B0 v0]:PW (V (al t) w G) R w0 z0 B0 v0:=⟨fun hK=>V_al (g:=g) hS fun b w' _ hS'=>(h ⟨b,w',hS'⟩).h hK⟩
instance PW.st {R:Value->World->Prop} {v0:Value} {t n off:Nat} {v:Value} {vs l l':List Value} {ty:TypeId} [hS:Res w0 z0 B0 w z L] [g:Blk L b (.cells l.toArray ty (0,0)) C] [gs:TySize t n] [gc:CellsOf v vs] [go:Ones vs] [hn:LenIs vs n] [gl:SetN l off vs l'] {G:World->Prop} [h:∀ q:Now w0 z0 B0 z (C (.cells l'.toArray ty (0,0))),PW (G q.w) R w0 z0 B0 v0]:PW (U (st t (.pointer (some ⟨b,off,none⟩)) v) w G) R w0 z0 B0 v0:=⟨fun hK=>U_st (C:=C) hS hn.h fun w' hS'=>(h ⟨w',hS'⟩).h hK⟩
instance PG.lit {α:Type} {inj:α->Value} {x:α} [hS:Res w0 z0 B0 w z L]:PG inj (fun K=>K [inj x] w) w0 z0 B0 z L x:=⟨fun _ h=>h _ _ (Le.refl _) hS⟩
instance PW.lit {R:Value->World->Prop} {v:Value} [hS:Res w0 z0 B0 w z L]:PW (R v w) R w0 z0 B0 v:=⟨fun h=>h _ _ _ hS⟩
instance PG.cond {α:Type} {inj:α->Value} {x y:α} {A A':(List Value->World->Prop)->Prop} {c:Bool} [h1:PG inj A w0 z0 B0 z L x] [h2:PG inj A' w0 z0 B0 z L y]:PG inj (fun K=>CondW (.bool c) (A K) (A' K)) w0 z0 B0 z L (bif c then x else y):=
 ⟨fun K hK=>⟨c,rfl,fun hb=>h1.h K (by subst hb; exact hK),fun hb=>h2.h K (by subst hb; exact hK)⟩⟩
instance (priority:=1000) PG.joinB {α:Type} {inj:α->Value} {y:α} {x:Bool} {H:(List Value->World->Prop)->Value->World->Prop} {body:(List Value->World->Prop)->(List Value->World->Prop)->Prop} [h1:∀ K,PG Value.bool (body K) w0 z0 B0 z L x] [h2:∀ q:Later w0 z0 B0 z L,PG inj (fun K=>H K (Value.bool x) q.w) w0 z0 B0 q.z' L y] :
  PG inj (fun K=>∀ K1:List Value->World->Prop,(∀ t w,(∀ _:Env,H K t w)->K1 [t] w)->body K K1) w0 z0 B0 z L y:=
 ⟨fun K hK K1 hK1=>(h1 K).h K1 fun z' w' hz hS=>hK1 _ _ fun _=>(h2 ⟨z',w',hz,hS⟩).h K fun z'' w'' hz' hS'=>hK z'' w'' (hz.trans hz') hS'⟩
instance (priority:=1000) PW.joinB {R:Value->World->Prop} {v:Value} {x:Bool} {H:Value->World->Prop} {body:(List Value->World->Prop)->Prop} [h1:PG Value.bool body w0 z0 B0 z L x] [h2:∀ q:Later w0 z0 B0 z L,PW (H (Value.bool x) q.w) R w0 z0 B0 v] :
  PW (∀ K1:List Value->World->Prop,(∀ t w,(∀ _:Env,H t w)->K1 [t] w)->body K1) R w0 z0 B0 v:=
 ⟨fun hK K1 hK1=>h1.h K1 fun z' w' hz hS=>hK1 _ _ fun _=>(h2 ⟨z',w',hz,hS⟩).h hK⟩
theorem JGB {x:Bool} {rest:Value->World->Prop} {body:(List Value->World->Prop)->Prop} [g:PG Value.bool body w0 z0 B0 z L x] (h:∀ z' w',Le z z'->Res w0 z0 B0 w' z' L->rest (.bool x) w'):∀ K:List Value->World->Prop,(∀ t w,(∀ _:Env,rest t w)->K [t] w)->body K:=
 fun K hK=>g.h K fun z' w' hz hS=>hK _ _ fun _=>h z' w' hz hS
section
variable {κ:Type} [DecidableEq κ]
class GetKV (l:List (κ × Value)) (n:κ) (zv:Value) (v:outParam Value):Prop where
 h:(getK l n).getD zv = v
theorem gV_lk {K:Value->World->Prop} [hS:Res w0 z0 B0 w z L] {t k e:Nat} {mk:κ->Value} {zv v:Value} [g:TyMap t k e] [gk:KeyTy k mk] [gz:ZeroV e zv] {n:κ} {l:List (κ × Value)} [gb:Blk L b (mK mk l) C] [gv:GetKV l n zv v]
  (hk:K v w):V (lk t (.map (some b)) (mk n) false) w K:=kV_lk (C:=C) (mk:=mk) (zv:=zv) (by rw [<- gv.h] at hk; exact hk)
end
theorem fnW {f:FuncId} {args:Array Value} {v v':Value} {G:(Value->World->Prop)->Prop} (en:∀ {R:Value->World->Prop},G R->Calls Tryz.prog f args w (retK R)) (g:Res w z [] w z []->∀ R,PW (G R) R w z [] v) (h:v = v'):Fn1 f args z w fun _ r=>r = v':=
 Fn1.intro fun hS=>en ((g hS _).h fun z' w' L' hS'=>⟨z',L',hS',h⟩)
end
end
section
open Go Q Go.RowKit
theorem CE_fn {f:FuncId} [he:Enters f] {first args cap args':Array Value} {w:World} {K:Value->World->Prop} (ha:first ++ args ++ cap = args') (h:Calls Tryz.prog f args' w (retK K)):CE (.func (.func f) first cap) args w K:=by
 subst ha;have:(callSem (.func (.func f) first cap) args).run Tryz.prog w = .ok (.enter f (first ++ args ++ cap)) w:=by
  simp only [callSem,Deferred.ofValue,pure_bind,invoke];exact he.h _ _
 unfold CE CallE;rw [this];exact h
theorem Res.rf {w0 w w1:World} {z0 z:Z} {B0 L:Bl} {r l:Nat} {lp:Loop} (h:Res w0 z0 B0 w z L) (hn:NewRF w w1 r l lp):Res w0 z0 B0 w1 z ((l,lobj lp .ready none) :: (r,.deferred (some [])) :: L):=by
 obtain ⟨rfl,rfl,rfl⟩:=hn;have:=Res.new (Res.new h (.deferred (some []))) (lobj lp .ready none)
 simpa using this
theorem iBegin {w0 w:World} {z0 z:Z} {B0 L:Bl} {C:Obj->Bl} {l:Nat} {lp:Loop} {K:World->Prop} [hS:Res w0 z0 B0 w z L] [g:Blk L l (lobj lp .ready none) C] (hk:∀ w',Res w0 z0 B0 w' z (C (lobj lp .busy none))->K w'):BeginW l lp w K:=⟨Res.at_ (g:=g) hS,hk _ (Res.set (g:=g) hS _ rfl)⟩
theorem iEnd {w0 w:World} {z0 z:Z} {B0 L:Bl} {C:Obj->Bl} {l:Nat} {lp:Loop} {st:LoopState} {pend jump:Option Code} {K:Value->World->Prop} [hS:Res w0 z0 B0 w z L] [g:Blk L l (lobj lp st pend) C] (hk:∀ w',Res w0 z0 B0 w' z (C (lobj lp (if jump.isNone then .ready else .done) jump))->K (.bool jump.isNone) w'):EndW l lp jump w K:=⟨⟨st,pend,Res.at_ (g:=g) hS⟩,hk _ (Res.set (g:=g) hS _ rfl)⟩
theorem iRfEnd {w0 w:World} {z0 z:Z} {B0 L:Bl} {C:Obj->Bl} {l:Nat} {lp:Loop} {st:LoopState} {pend:Option Code} {Kn Kr:World->Prop} {kes:List (Nat × (World->Prop))} [hS:Res w0 z0 B0 w z L] [g:Blk L l (lobj lp st pend) C] (hst:st ≠ .busy) (hk:∀ w',Res w0 z0 B0 w' z (C (lobj lp .exhausted pend))->jumpK pend Kn Kr kes w'):RfEnd l lp w Kn Kr kes:=⟨st,pend,Res.at_ (g:=g) hS,hst,hk _ (Res.set (g:=g) hS _ rfl)⟩
theorem iTake {w0 w:World} {z0 z:Z} {B0 L:Bl} {C:Obj->Bl} {r:Nat} {K:World->Prop} [hS:Res w0 z0 B0 w z L] [g:Blk L r (.deferred (some [])) C] (hk:∀ w',Res w0 z0 B0 w' z (C (.deferred none))->K w'):Take1 r w K:=⟨Res.at_ (g:=g) hS,hk _ (Res.set (g:=g) hS _ rfl)⟩
theorem fRI_N {A:Prop} {w0 w:World} {z0 z:Z} {B0 L:Bl} {b:Nat} [hS:Res w0 z0 B0 w z L] {t n:TypeId} [g:TyAgg t n] [gs:TySize t n] {off:Nat} {vs:List Value} [h:Fz z0 b off vs] [hl:LenIs vs n] (ha:A):RunIs (ld t (.pointer (some ⟨b,off,none⟩))) w (.agg vs.toArray)/\A:=⟨run_ldN ((h.h.mono hS.zle).world hS.sub) hl.h,ha⟩
section
variable {w0 w w':World} {z0 z z':Z} {B0 B B' L F:Bl} {b:Nat} {o:Obj} {C:Obj->Bl}
theorem gV_lkI {K:Value->World->Prop} [hS:Res w0 z0 B0 w z L] {t k e:Nat} {kd:IntKind} {zv v:Value} [g:TyMap t k e] [gk:TyInt k kd] [gz:ZeroV e zv] {n:Int} {l:List (Int × Value)} [gb:Blk L b (mK (Value.int kd) l) C] [gv:GetKV l n zv v]
  (hk:K v w):V (lk t (.map (some b)) (.int kd n) false) w K:=gV_lk (C:=C) (mk:=Value.int kd) (zv:=zv) hk
theorem gHV_lkI {K:Value->Prop} [hS:Res w0 z0 B0 w z L] {t k e:Nat} {kd:IntKind} {zv v:Value} [g:TyMap t k e] [gk:TyInt k kd] [gz:ZeroV e zv] {n:Int} {l:List (Int × Value)} [gb:Blk L b (mK (Value.int kd) l) C] [gv:GetKV l n zv v]
  (hk:K v):HV (lk t (.map (some b)) (.int kd n) false) w K:=kHV_lk (C:=C) (mk:=Value.int kd) (zv:=zv) (by rw [if_neg (by simp),gv.h]; exact hk)
theorem gRI_lkI {A:Prop} [hS:Res w0 z0 B0 w z L] {t k e:Nat} {kd:IntKind} {zv v:Value} [g:TyMap t k e] [gk:TyInt k kd] [gz:ZeroV e zv] {n:Int} {l:List (Int × Value)} [gb:Blk L b (mK (Value.int kd) l) C] [gv:GetKV l n zv v]
  (hk:A):RunIs (lk t (.map (some b)) (.int kd n) false) w v/\A:=by
 have:=run_lkK (t:=t) (k:=k) (e:=e) (mk:=Value.int kd) (n:=n) (l:=l) (Res.at_ (g:=gb) hS) gz.h false;rw [if_neg (by simp),gv.h] at this;exact ⟨this,hk⟩
theorem Res.comp {L':Bl} (h:Res w0 z0 B0 w z L) (k:Res w z L w' z' L'):Res w0 z0 B0 w' z' L':=by
 have h':Res w0 z0 B0 w z (L ++ []):=by simpa using h
 simpa using h'.step k
theorem Res.self (h:Res w0 z0 B0 w z L):Res w z L w z L:=by
 have h':Res w0 z0 B0 w z (L ++ []):=by simpa using h
 exact h'.own
theorem SetN.at_ {l:List Value} {k:Nat} {u:Value} (h:k < l.length):SetN l k [u] (l.set k u) where
 len:=by simp
 bound:=by simp; omega
 inn:=fun j v hv=>by
  cases j with
  | zero=>simp at hv; subst hv; simp [h]
  | succ j=>simp at hv
 out:=fun j hj=>by simp only [List.length_singleton] at hj; rw [List.getElem?_set_ne (by omega)]
end
theorem V_push {w0 w:World} {z0 z:Z} {B0 B L R:Bl} {K:Value->World->Prop} {t e size bytes n:Nat} {v u:Value} {us xs:List Value} [g:TyApp t e size bytes] [gs:TySlice t e size] [gz:TyFill e size] [gc:CellsOf u us] [gl:LenIs us size] [go:Ones us]
  (hS:Res w0 z0 B0 w z L) (ho:OwnSl e size B v n xs) [gb:BringL L B R] (hb:(n + 1) * bytes <= room) (hb2:n + 1 <= room) (hsz:size <= 1000)
  (hk:∀ B' v' w',OwnSl e size B' v' (n + 1) (xs ++ us)->Res w0 z0 B0 w' z (B' ++ R)->K v' w'):V (bs t 1 #[(0,u)]) w fun s w=>V (Builtin.append_ #[t,t] t #[v,s]) w K:=by
 refine V_bs (parts:=[(0,u)]) rfl (by omega) ?_;intro b w1 hb1 hS1;rw [List.append_nil] at hS1;have hat:At (hp w1) b 0 us:=⟨_,_,_,(hS1.mem _ List.mem_cons_self).1,fun j v hv=>by simpa using hv⟩
 have hS2:Res w0 z0 B0 w1 z (B ++ R):=(hS1.sublist (List.sublist_cons_self _ _)).perm gb.h;refine V_app (B:=B) (m:=1) hS2 ho hat (by rw [gl.h]; omega) go.h (by omega) hb hb2 ?_;exact hk
end
section
open Go Q Go.RowKit
theorem retKP_mono {K K':Value->World->Prop} {Pn Pn':PnT} (hk:∀ v w,K v w->K' v w) (hp:∀ c w,Pn c w->Pn' c w):∀ e w,retKP K Pn e w->retKP K' Pn' e w
 | .returned v,w,h=>hk _ _ h
 | .panicked c,w,h=>hp _ _ h
 | .outgrown,_,h=>h.elim
theorem CVP_may {f:Value} {args:Array Value} {w:World} {K:Value->World->Prop} {Pn:PnT} (h:CV f args w K):CVP Pn f args w K:=CallV.may h
theorem PanW_intro {Pn:PnT} {t:TypeId} {v:Value} {w:World} (h:Pn [{ v:=.iface t v,recovered:=false }] w):PanW Pn (.iface t v) w:=⟨t,v,rfl,h⟩
def FnP (f:FuncId) (args:Array Value) (z:Z) (B:Bl) (w:World) (R:Z->Bl->Value->Prop) (G:Z->Bl->List PanicEntry->Prop):Prop:=
 Own w z B->Calls Tryz.prog f args w (retKP (fun v w'=>∃ z' B',Res w z B w' z' B'/\R z' B' v) (fun c w'=>∃ z' B',Res w z B w' z' B'/\G z' B' c))
theorem CVP_enter {f:FuncId} [he:Enters f] {first args cap args':Array Value} {w:World} {K:Value->World->Prop} {Pn:PnT} (ha:first ++ args ++ cap = args') (h:Calls Tryz.prog f args' w (retKP K Pn)) :
  CVP Pn (.func (.func f) first cap) args w K:=by
 subst ha;have:(callSem (.func (.func f) first cap) args).run Tryz.prog w = .ok (.enter f (first ++ args ++ cap)) w:=by
  simp only [callSem,Deferred.ofValue,pure_bind,invoke];exact he.h _ _
 unfold CVP CallVP;rw [this];exact h
section
variable {w0 w:World} {z0 z:Z} {B0 B L F:Bl} {f:FuncId} {args args' first cap:Array Value} {K:Value->World->Prop} {Pn:PnT} {R:Z->Bl->Value->Prop} {G:Z->Bl->List PanicEntry->Prop}
theorem CVP_fn [Enters f] (hS:Res w0 z0 B0 w z (B ++ F)) (h:FnP f args' z B w R G) (ha:first ++ args ++ cap = args') (hK:∀ z' B' w' v,Le z z'->Res w0 z0 B0 w' z' (B' ++ F)->R z' B' v->K v w')
  (hP:∀ z' B' w' c,Le z z'->Res w0 z0 B0 w' z' (B' ++ F)->G z' B' c->Pn c w'):CVP Pn (.func (.func f) first cap) args w K:=by
 refine CVP_enter ha ?_;refine Calls.mono (h hS.own) (retKP_mono ?_ ?_)
 ·rintro v w' ⟨z',B',h1,h2⟩
  exact hK z' B' w' v h1.zle (hS.step h1) h2
 ·rintro c w' ⟨z',B',h1,h2⟩
  exact hP z' B' w' c h1.zle (hS.step h1) h2
theorem FnP.intro (h:Res w z B w z B->Calls Tryz.prog f args w (retKP (fun v w'=>∃ z' B',Res w z B w' z' B'/\R z' B' v) (fun c w'=>∃ z' B',Res w z B w' z' B'/\G z' B' c))):FnP f args z B w R G:=fun ho=>h ho
end
end
section
open Go Q Go.RowKit
theorem CVP_pu {w0 w:World} {z0 z:Z} {B0 L:Bl} {K:Value->World->Prop} {Pn:PnT} [hS:Res w0 z0 B0 w z L] {f:FuncId} [Enters f] {args:Array Value} {v:Value} [g:Pu f args v] (hk:∀ z' w',Le z z'->Res w0 z0 B0 w' z' L->K v w'):CVP Pn (.func (.func f) #[] #[]) args w K:=
 CVP_may (CV_pu hk)
section
variable {w0 w:World} {z0 z z':Z} {B0 B L:Bl} {α:Type} {E:El α} {us cs:List Value} {xs:List α} {x:α}
structure Lsl (E:El α) (z:Z) (us:List Value) (xs:List α):Prop where
 len:us.length = xs.length * E.size
 at_:∀ (i:Nat) (x:α),xs[i]? = some x->∃ cs,E.rel z cs x/\∀ (j:Nat) (v:Value),cs[j]? = some v->us[i * E.size + j]? = some v
theorem Lsl.push (h:Lsl E z us xs) (hx:E.rel z cs x):Lsl E z (us ++ cs) (xs ++ [x]):=by
 have hc:=E.len hx;refine ⟨by rw [List.length_append,List.length_append,h.len,hc,Nat.add_mul]; simp,fun i y hy=>?_⟩
 by_cases hi:i < xs.length
 ·rw [List.getElem?_append_left hi] at hy
  obtain ⟨ds,h1,h2⟩:=h.at_ i y hy;refine ⟨ds,h1,fun j v hv=>?_⟩;have:=h2 j v hv;rw [List.getElem?_append_left (List.getElem?_eq_some_iff.1 this).1];exact this
 ·have hle:xs.length <= i:=by omega
  rw [List.getElem?_append_right hle] at hy;have hi0:i = xs.length:=by
   have:=(List.getElem?_eq_some_iff.1 hy).1;simp at this;omega
  subst hi0;simp only [Nat.sub_self,List.getElem?_cons_zero,Option.some.injEq] at hy;subst hy;refine ⟨cs,hx,fun j v hv=>?_⟩;rw [List.getElem?_append_right (by rw [h.len]; omega),h.len,Nat.add_sub_cancel_left];exact hv
end
theorem OwnSl.room {e size n:Nat} {B:Bl} {v:Value} {xs:List Value} (h:OwnSl e size B v n xs):∃ a cap,v = .slice a n cap/\n <= cap:=h.form
theorem SlR.sub {α:Type} {E:El α} {z:Z} {b off cap l h s:Nat} {xs:List α} (hx:SlR E z (.slice (some ⟨b,off,none⟩) xs.length cap) xs) (hs:E.size = s) (hl:l <= h) (hh:h <= xs.length) :
  SlR E z (.slice (some ⟨b,if cap = l then off else off + l * s,none⟩) (h - l) (cap - l)) ((xs.drop l).take (h - l)):=
 SlR.take (hx.drop hs (by omega)) (by rw [List.length_drop]; omega)
class TyIf (t:TypeId):Prop where
 und:∃ ms,Tryz.prog.underlying t = some (.interface ms)
theorem TyIf.of {t:TypeId} (h:(match Tryz.prog.underlying t with | some (.interface _)=>true | _=>false) = true):TyIf t:=⟨by
 split at h
 ·rename_i ms hu; exact ⟨ms,hu⟩
 ·cases h⟩
theorem equalIn_if {d t u:Nat} {v:Value} (g:TyIf t) (w:World):(Op.equalIn (d + 1) t (.iface u v) .nilIface).run Tryz.prog w = .ok false w:=by
 obtain ⟨ms,h⟩:=g.und;unfold Op.equalIn;simp only [Sem.run_bind,run_underlying h,Result.andThen_ok]
 rfl
theorem equalIn_no {d t:Nat} (g:TyIf t) (w:World):(Op.equalIn (d + 1) t .nilIface .nilIface).run Tryz.prog w = .ok true w:=by
 obtain ⟨ms,h⟩:=g.und;unfold Op.equalIn;simp only [Sem.run_bind,run_underlying h,Result.andThen_ok]
 rfl
theorem neq_if {t u:Nat} {x:Operand} {v:Value} (g:TyIf t) (w:World):(eq .neq t x (.const .nilIface) (.iface u v) .nilIface).run Tryz.prog w = .ok (.bool true) w:=by
 have h:(Op.equalIn Op.maxDepth t (.iface u v) .nilIface).run Tryz.prog w = .ok false w:=equalIn_if (d:=9999) g w;simp only [eq,eqGuard,binOp,Op.equal,Sem.run_bind,Bool.not_true,Bool.false_eq_true,if_false,Bool.or_true,if_true,run_pure,Result.andThen_ok,ite_self,h]
 rfl
theorem neq_no {t:Nat} {x:Operand} (g:TyIf t) (w:World):(eq .neq t x (.const .nilIface) .nilIface .nilIface).run Tryz.prog w = .ok (.bool false) w:=by
 have h:(Op.equalIn Op.maxDepth t .nilIface .nilIface).run Tryz.prog w = .ok true w:=equalIn_no (d:=9999) g w;simp only [eq,eqGuard,binOp,Op.equal,Sem.run_bind,Bool.not_true,Bool.false_eq_true,if_false,Bool.or_true,if_true,run_pure,Result.andThen_ok,ite_self,h]
theorem ta_own {t u:Nat} {v:Value} (h:(match Tryz.prog.underlying u with | some (.interface _)=>false | some _=>true | none=>false) = true) (w:World):(ta (.iface u v) t u true).run Tryz.prog w = .ok (.tuple [v,.bool true].toArray) w:=by
 split at h
 ·cases h
 ·rename_i d hn hu
  simp only [ta,Instr.typeAssert,Sem.run_bind,run_underlying hu,Result.andThen_ok]
  cases d <;> first | (exact absurd rfl (hn _)) | simp [Sem.run]
 ·cases h
end
section
open Go Q Go.RowKit
def Dg (l:List UInt8):Prop:=∀ c ∈ l,48 <= c.toNat/\c.toNat <= 57
def valF (a:Nat) (c:UInt8):Nat:=10 * a + (c.toNat - 48)
def valL (l:List UInt8):Nat:=l.foldl valF 0
abbrev digL (n:Nat):List UInt8:=Lib.decDigits n
theorem foldl_val (l:List UInt8):∀ a,l.foldl valF a = a * 10 ^ l.length + valL l:=by
 induction l with
 | nil=>intro a; simp [valL]
 | cons c l ih=>
  intro a;have h1:=ih (valF a c);have h2:=ih (valF 0 c);simp only [List.foldl_cons,List.length_cons,valL] at h1 h2 ⊢;rw [h1,h2,Nat.pow_succ];unfold valF;have e:(10 * a + (c.toNat - 48)) * 10 ^ l.length = a * (10 ^ l.length * 10) + (10 * 0 + (c.toNat - 48)) * 10 ^ l.length:=by
   rw [Nat.add_mul,Nat.mul_zero,Nat.zero_add]
   congr 1
   rw [Nat.mul_comm 10 a,Nat.mul_assoc,Nat.mul_comm 10]
  omega
theorem valL_app (l m:List UInt8):valL (l ++ m) = valL l * 10 ^ m.length + valL m:=by
 unfold valL;rw [List.foldl_append,foldl_val m]
 rfl
theorem valL_cons (c:UInt8) (l:List UInt8):valL (c :: l) = (c.toNat - 48) * 10 ^ l.length + valL l:=by
 have:=valL_app [c] l;simp only [List.singleton_append] at this;rw [this];simp [valL,valF]
theorem valL_snoc (l:List UInt8) (c:UInt8):valL (l ++ [c]) = 10 * valL l + (c.toNat - 48):=by
 unfold valL;rw [List.foldl_append]
 rfl
theorem Dg.nil:Dg []:=fun _ h=>by cases h
theorem Dg.app {l m:List UInt8} (h:Dg l) (h':Dg m):Dg (l ++ m):=fun c hc=>by
 rcases List.mem_append.1 hc with hc | hc
 ·exact h c hc
 ·exact h' c hc
theorem Dg.left {l m:List UInt8} (h:Dg (l ++ m)):Dg l:=fun c hc=>h c (List.mem_append_left _ hc)
theorem Dg.right {l m:List UInt8} (h:Dg (l ++ m)):Dg m:=fun c hc=>h c (List.mem_append_right _ hc)
theorem Dg.take {l:List UInt8} (h:Dg l) (k:Nat):Dg (l.take k):=fun c hc=>h c (List.mem_of_mem_take hc)
theorem Dg.drop {l:List UInt8} (h:Dg l) (k:Nat):Dg (l.drop k):=fun c hc=>h c (List.mem_of_mem_drop hc)
theorem dg_nat {k:Nat} (h:k < 10):(UInt8.ofNat (48 + k)).toNat = 48 + k:=by rw [UInt8.toNat_ofNat']; omega
theorem Dg.one {k:Nat} (h:k < 10):Dg [UInt8.ofNat (48 + k)]:=fun c hc=>by
 rw [List.mem_singleton] at hc;rw [hc,dg_nat h];omega
theorem val_lt (l:List UInt8) (h:Dg l):valL l < 10 ^ l.length:=by
 induction l with
 | nil=>simp [valL]
 | cons c l ih=>
  have h1:=ih fun d hd=>h d (List.mem_cons_of_mem _ hd)
  have h2:=h c List.mem_cons_self;rw [valL_cons,List.length_cons,Nat.pow_succ];have:(c.toNat - 48) * 10 ^ l.length <= 9 * 10 ^ l.length:=Nat.mul_le_mul_right _ (by omega);omega
theorem dig_rec (u:Nat):digL u = if u < 10 then [UInt8.ofNat (48 + u)] else digL (u / 10) ++ [UInt8.ofNat (48 + u % 10)]:=by
 rw [digL,Lib.decDigits]
 split <;> rfl
theorem digL_dg (u:Nat):Dg (digL u):=by
 induction u using Nat.strongRecOn with
 | _ u ih=>
  rw [dig_rec]
  split
  ·exact Dg.one ‹_›
  ·exact (ih _ (by omega)).app (Dg.one (by omega))
theorem digL_ne (u:Nat):digL u ≠ []:=by
 rw [dig_rec]
 split <;> simp
theorem valL_dig (u:Nat):valL (digL u) = u:=by
 induction u using Nat.strongRecOn with
 | _ u ih=>
  rw [dig_rec]
  split
  ·rename_i h
   simp only [valL,List.foldl_cons,List.foldl_nil,valF,dg_nat h];omega
  ·rw [valL_snoc,ih _ (by omega),dg_nat (by omega)]
   omega
theorem digL_0:digL 0 = [48]:=by rw [dig_rec]; rfl
theorem digL_lt {u:Nat} (h:u < 10):digL u = [UInt8.ofNat (48 + u)]:=by rw [dig_rec,if_pos h]
theorem digL_push {a d:Nat} (ha:0 < a) (hd:d < 10):digL (10 * a + d) = digL a ++ [UInt8.ofNat (48 + d)]:=by
 rw [dig_rec,if_neg (by omega),show (10 * a + d) / 10 = a by omega,show (10 * a + d) % 10 = d by omega]
theorem u8_of {c:UInt8} (h:48 <= c.toNat/\c.toNat <= 57):UInt8.ofNat (48 + (c.toNat - 48)) = c:=by
 rw [show 48 + (c.toNat - 48) = c.toNat by omega];exact UInt8.ofNat_toNat
theorem digL_fold:∀ (t:List UInt8) (a:Nat),Dg t->0 < a->digL (t.foldl valF a) = digL a ++ t/\0 < t.foldl valF a
 | [],a,_,h=>⟨by simp,h⟩
 | c :: t,a,hd,h=>by
  have hc:=hd c List.mem_cons_self;obtain ⟨h1,h2⟩:=digL_fold t (valF a c) (fun d hm=>hd d (List.mem_cons_of_mem _ hm)) (by unfold valF; omega);refine ⟨?_,h2⟩;rw [List.foldl_cons,h1];unfold valF;rw [digL_push h (by omega),u8_of hc,List.append_assoc]
  rfl
theorem digL_val {l:List UInt8} (hd:Dg l) (hne:l ≠ []) (h0:l.head? ≠ some 48 \/ l = [48]):digL (valL l) = l/\(l ≠ [48]->0 < valL l):=by
 cases l with
 | nil=>exact absurd rfl hne
 | cons c t=>
  by_cases hc:c = 48
  ·subst hc
   rcases h0 with h0 | h0
   ·exact absurd rfl h0
   ·rw [h0]
    exact ⟨digL_0,fun h=>absurd rfl h⟩
  ·have h1:=hd c List.mem_cons_self
   have h2:c.toNat ≠ 48:=fun e=>hc (UInt8.toNat_inj.1 e)
   have e:valL (c :: t) = t.foldl valF (c.toNat - 48):=by
    unfold valL;rw [List.foldl_cons]
    congr 1
    simp [valF]
   obtain ⟨h3,h4⟩:=digL_fold t (c.toNat - 48) (fun d hm=>hd d (List.mem_cons_of_mem _ hm)) (by omega);rw [e];refine ⟨?_,fun _=>h4⟩;rw [h3,digL_lt (by omega),u8_of h1]
   rfl
theorem digL_head {u:Nat} (h:0 < u):(digL u).head? ≠ some 48:=by
 induction u using Nat.strongRecOn with
 | _ u ih=>
  rw [dig_rec]
  split
  ·rename_i h1
   intro e;simp only [List.head?_cons,Option.some.injEq] at e;have:=dg_nat h1;rw [e] at this;have h2:(48:UInt8).toNat = 48:=rfl;omega
  ·have:=ih (u / 10) (by omega) (by omega)
   cases hd:digL (u / 10) with
   | nil=>exact absurd hd (digL_ne _)
   | cons c r=>rw [hd] at this; exact this
theorem digL_inj {a b:Nat} (h:digL a = digL b):a = b:=by rw [<- valL_dig a,h,valL_dig]
abbrev lenD (u:Nat):Nat:=(digL u).length
theorem lenD_pos (u:Nat):0 < lenD u:=List.length_pos_iff.2 (digL_ne u)
theorem lt_lenD (u:Nat):u < 10 ^ lenD u:=by
 have:=val_lt _ (digL_dg u)
 rwa [valL_dig] at this
theorem ge_lenD {u:Nat} (h:0 < u):10 ^ (lenD u - 1) <= u:=by
 induction u using Nat.strongRecOn with
 | _ u ih=>
  unfold lenD;rw [dig_rec]
  split
  ·simp only [List.length_singleton,Nat.sub_self,Nat.pow_zero]; omega
  ·have:=ih (u / 10) (by omega) (by omega)
   have hp:=lenD_pos (u / 10);unfold lenD at this hp;rw [List.length_append,List.length_singleton,Nat.add_sub_cancel];have e:(digL (u / 10)).length = (digL (u / 10)).length - 1 + 1:=by omega
   rw [e,Nat.pow_succ];omega
theorem lenD_le {u k:Nat} (hk:0 < k):lenD u <= k ↔ u < 10 ^ k:=by
 constructor
 ·intro h
  exact Nat.lt_of_lt_of_le (lt_lenD u) (Nat.pow_le_pow_right (by omega) h)
 ·intro h
  by_cases h0:u = 0
  ·subst h0; unfold lenD; rw [digL_0]; exact hk
  ·have h1:=ge_lenD (u:=u) (by omega)
   have h2:10 ^ (lenD u - 1) < 10 ^ k:=Nat.lt_of_le_of_lt h1 h;have h3:=(Nat.pow_lt_pow_iff_right (by omega:1 < 10)).1 h2;omega
theorem lenD_mono {a b:Nat} (h:a <= b):lenD a <= lenD b:=(lenD_le (lenD_pos b)).2 (Nat.lt_of_le_of_lt h (lt_lenD b))
theorem valL_zeros (k:Nat) (l:List UInt8):valL (List.replicate k 48 ++ l) = valL l:=by
 induction k with
 | zero=>rfl
 | succ k ih=>
  rw [List.replicate_succ,List.cons_append,valL_cons,ih];simp
theorem valL_rep (k:Nat):valL (List.replicate k 48) = 0:=by
 have:=valL_zeros k [];rw [List.append_nil] at this;rw [this]; rfl
theorem dg_rep (k:Nat):Dg (List.replicate k 48):=fun c hc=>by
 rw [(List.mem_replicate.1 hc).2]; decide
theorem valL_shift (l:List UInt8) (k:Nat):valL (l ++ List.replicate k 48) = valL l * 10 ^ k:=by
 rw [valL_app,valL_rep,List.length_replicate,Nat.add_zero]
theorem digL_shift {n k:Nat} (h:0 < n):digL (n * 10 ^ k) = digL n ++ List.replicate k 48:=by
 induction k with
 | zero=>simp
 | succ k ih=>
  have hp:0 < n * 10 ^ k:=Nat.mul_pos h (Nat.pow_pos (by omega));rw [show n * 10 ^ (k + 1) = 10 * (n * 10 ^ k) + 0 by rw [Nat.pow_succ]; simp [Nat.mul_comm,Nat.mul_left_comm,Nat.mul_assoc],digL_push hp (by omega),ih,List.append_assoc]
  congr 1
  rw [List.replicate_succ']
  rfl
theorem tw_all {α:Type} {p:α->Bool}:∀ {l:List α} {c:α},c ∈ l.takeWhile p->p c = true
 | [],c,h=>by cases h
 | x :: l,c,h=>by
  rw [List.takeWhile_cons] at h
  split at h
  ·rcases List.mem_cons.1 h with rfl | h
   ·assumption
   ·exact tw_all h
  ·cases h
theorem dw_head {α:Type} {p:α->Bool}:∀ {l r:List α} {c:α},l.dropWhile p = c :: r->p c = false
 | [],r,c,h=>by cases h
 | x :: l,r,c,h=>by
  rw [List.dropWhile_cons] at h
  split at h
  ·exact dw_head h
  ·rename_i hx
   rw [<- (List.cons.inj h).1]
   simpa using hx
def stripL (l:List UInt8):List UInt8:=match l.dropWhile (· == 48) with | []=>[48] | r=>r
theorem stripL_val {l:List UInt8} (h:Dg l):stripL l = digL (valL l):=by
 unfold stripL;have hsplit:l = l.takeWhile (· == 48) ++ l.dropWhile (· == 48):=List.takeWhile_append_dropWhile.symm;have hrep:l.takeWhile (· == 48) = List.replicate (l.takeWhile (· == 48)).length 48:=by
  refine List.eq_replicate_iff.2 ⟨rfl,fun c hc=>?_⟩
  simpa using tw_all hc
 have hv:valL l = valL (l.dropWhile (· == 48)):=by
  conv=>lhs; rw [hsplit,hrep]
  exact valL_zeros _ _
 have hd:Dg (l.dropWhile (· == 48)):=fun c hc=>h c ((List.dropWhile_sublist _).subset hc)
 have hhead:∀ c r,l.dropWhile (· == 48) = c :: r->c ≠ 48:=fun c r e=>by simpa using dw_head e
 rw [hv];generalize l.dropWhile (· == 48) = m at hd hhead
 cases m with
 | nil=>rw [show valL [] = 0 from rfl,digL_0]
 | cons c r=>exact (digL_val hd (by simp) (.inl (by simpa using hhead c r rfl))).1.symm
theorem dig_less {a b:Nat} (h:lenD a < lenD b):a < b:=by
 rcases Nat.lt_or_ge a b with h1 | h1
 ·exact h1
 ·have:=lenD_mono h1; omega
end
section
open Go Q Go.RowKit
structure Nm where
 s:Bool
 m:Nat
 e:Int
deriving DecidableEq
def nz:Nm:=⟨false,0,0⟩
def Nm.C (n:Nm):Prop:=n.m = 0->n = nz
def mkN (s:Bool) (m:Nat) (e:Int):Nm:=if m = 0 then nz else ⟨s,m,e⟩
def adjN (n:Nm):Int:=n.e + lenD n.m - 1
def fitsN (n:Nm):Bool:=decide (n.m = 0) || (decide (-999 <= adjN n) && decide (adjN n <= 999))
def roundN (n:Nm) (d:Nat):Nm:=
 if lenD n.m <= d then n else
 if (n.m / 10 ^ (lenD n.m - d) + if 5 <= n.m / 10 ^ (lenD n.m - d - 1) % 10 then 1 else 0) < 10 ^ d then
  ⟨n.s,n.m / 10 ^ (lenD n.m - d) + (if 5 <= n.m / 10 ^ (lenD n.m - d - 1) % 10 then 1 else 0),n.e + (lenD n.m - d:Nat)⟩
 else ⟨n.s,(n.m / 10 ^ (lenD n.m - d) + (if 5 <= n.m / 10 ^ (lenD n.m - d - 1) % 10 then 1 else 0)) / 10,n.e + (lenD n.m - d:Nat) + 1⟩
def negN (n:Nm):Nm:=mkN (!n.s) n.m n.e
def upN (n:Nm) (E:Int):Nat:=n.m * 10 ^ (n.e - E).toNat
def addedN (a b:Nm):Nm:=
 if a.s = b.s then mkN a.s (upN a (min a.e b.e) + upN b (min a.e b.e)) (min a.e b.e)
 else if upN b (min a.e b.e) <= upN a (min a.e b.e) then mkN a.s (upN a (min a.e b.e) - upN b (min a.e b.e)) (min a.e b.e)
 else mkN b.s (upN b (min a.e b.e) - upN a (min a.e b.e)) (min a.e b.e)
def plusN (a b:Nm):Nm:=if a.m = 0 then b else if b.m = 0 then a else addedN a b
def mulN (a b:Nm):Nm:=mkN (a.s != b.s) (a.m * b.m) (a.e + b.e)
theorem C_nz:Nm.C nz:=fun _=>rfl
theorem C_mk (s:Bool) (m:Nat) (e:Int):(mkN s m e).C:=by
 unfold mkN
 split
 ·exact C_nz
 ·rename_i h; exact fun h'=>absurd h' h
theorem mk_self {n:Nm} (h:n.C):mkN n.s n.m n.e = n:=by
 unfold mkN
 split
 ·rename_i h0; exact (h h0).symm
 ·rfl
theorem mk_m (s:Bool) (m:Nat) (e:Int):(mkN s m e).m = m:=by
 unfold mkN
 split
 ·rename_i h; rw [h]; rfl
 ·rfl
theorem mk_s {s:Bool} {m:Nat} {e:Int} (h:m ≠ 0):mkN s m e = ⟨s,m,e⟩:=if_neg h
theorem C_neg (n:Nm):(negN n).C:=C_mk _ _ _
theorem C_added (a b:Nm):(addedN a b).C:=by
 unfold addedN;(repeat' split) <;> exact C_mk _ _ _
theorem C_plus {a b:Nm} (ha:a.C) (hb:b.C):(plusN a b).C:=by
 unfold plusN
 split
 ·exact hb
 ·split
  ·exact ha
  ·exact C_added a b
theorem C_mul (a b:Nm):(mulN a b).C:=C_mk _ _ _
def svN (n:Nm) (E:Int):Int:=if n.s then -(upN n E:Int) else (upN n E:Int)
theorem up_0 {n:Nm} (h:n.m = 0) (E:Int):upN n E = 0:=by unfold upN; rw [h,Nat.zero_mul]
theorem sv_0 {n:Nm} (h:n.m = 0) (E:Int):svN n E = 0:=by unfold svN; rw [up_0 h]; split <;> rfl
theorem pow_pos' (k:Nat):0 < 10 ^ k:=Nat.pow_pos (by omega)
theorem up_shift (n:Nm) {E F:Int} (h:F <= E) (he:E <= n.e):upN n F = upN n E * 10 ^ (E - F).toNat:=by
 unfold upN;rw [Nat.mul_assoc,<- Nat.pow_add]
 congr 2
 omega
theorem sv_shift (n:Nm) {E F:Int} (h:F <= E) (he:E <= n.e):svN n F = svN n E * ((10 ^ (E - F).toNat:Nat):Int):=by
 unfold svN;rw [up_shift n h he,Int.natCast_mul]
 split
 ·rw [Int.neg_mul]
 ·rfl
theorem up_pos {n:Nm} (h:n.m ≠ 0) (E:Int):0 < upN n E:=Nat.mul_pos (by omega) (pow_pos' _)
theorem up_ne {n:Nm} {E:Int}:upN n E = 0 ↔ n.m = 0:=⟨fun h=>by
 rcases Nat.eq_zero_or_pos n.m with h0 | h0
 ·exact h0
 ·have:=up_pos (n:=n) (by omega) E; omega,fun h=>up_0 h E⟩
theorem sv_zero {n:Nm} {E:Int}:svN n E = 0 ↔ n.m = 0:=by
 rw [<- up_ne (E:=E)];unfold svN
 split <;> omega
theorem sv_mk (s:Bool) (m:Nat) {e E:Int} (h:E <= e):svN (mkN s m e) E = (if s then -(m:Int) else (m:Int)) * ((10 ^ (e - E).toNat:Nat):Int):=by
 by_cases h0:m = 0
 ·subst h0
  rw [sv_0 (mk_m _ _ _)]
  split <;> simp
 ·rw [mk_s h0]
  unfold svN upN;rw [Int.natCast_mul]
  split
  ·rw [Int.neg_mul]
  ·rfl
theorem sv_neg (n:Nm) {E:Int} (h:E <= n.e):svN (negN n) E = - svN n E:=by
 unfold negN;rw [sv_mk _ _ h];unfold svN upN;rw [Int.natCast_mul]
 cases n.s <;> simp [Int.neg_mul]
theorem sv_added {a b:Nm} {E:Int} (h:E <= min a.e b.e):svN (addedN a b) E = svN a E + svN b E:=by
 have ha:min a.e b.e <= a.e:=Int.min_le_left _ _;have hb:min a.e b.e <= b.e:=Int.min_le_right _ _;rw [sv_shift a h ha,sv_shift b h hb,<- Int.add_mul];unfold addedN;generalize min a.e b.e = F at *
 split
 ·rename_i hs
  rw [sv_mk _ _ h]
  congr 1
  unfold svN;rw [hs]
  split <;> omega
 ·rename_i hs
  split
  ·rename_i hle
   rw [sv_mk _ _ h]
   congr 1
   unfold svN
   revert hs
   cases a.s <;> cases b.s <;> simp <;> omega
  ·rename_i hle
   rw [sv_mk _ _ h]
   congr 1
   unfold svN
   revert hs
   cases a.s <;> cases b.s <;> simp <;> omega
theorem sv_plus {a b:Nm} {E:Int} (ha:E <= a.e) (hb:E <= b.e):svN (plusN a b) E = svN a E + svN b E:=by
 unfold plusN
 split
 ·rename_i h; rw [sv_0 h]; omega
 ·split
  ·rename_i h; rw [sv_0 h]; omega
  ·exact sv_added (by omega)
theorem sv_mul {a b:Nm} {E F:Int} (ha:E <= a.e) (hb:F <= b.e):svN (mulN a b) (E + F) = svN a E * svN b F:=by
 unfold mulN;rw [sv_mk _ _ (by omega)];unfold svN upN;have e:(a.e + b.e - (E + F)).toNat = (a.e - E).toNat + (b.e - F).toNat:=by omega
 rw [e,Nat.pow_add];simp only [Int.natCast_mul]
 cases a.s <;> cases b.s <;> simp [Int.mul_comm,Int.mul_assoc,Int.mul_left_comm,Int.neg_mul,Int.mul_neg]
theorem exp_mk_ge {s:Bool} {m:Nat} {e E:Int} (h:E <= e) (h0:E <= 0):E <= (mkN s m e).e:=by
 unfold mkN
 split
 ·exact h0
 ·exact h
theorem exp_plus {a b:Nm} {E:Int} (ha:E <= a.e) (hb:E <= b.e) (h0:E <= 0):E <= (plusN a b).e:=by
 unfold plusN addedN;(repeat' split) <;> first | assumption | exact exp_mk_ge (by omega) h0
theorem exp_mul {a b:Nm} {E F:Int} (ha:E <= a.e) (hb:F <= b.e) (h0:E + F <= 0):E + F <= (mulN a b).e:=by
 unfold mulN;exact exp_mk_ge (by omega) h0
def sameN (a b:Nm):Prop:=∃ E,E <= a.e/\E <= b.e/\svN a E = svN b E
theorem sameN.at_ {a b:Nm} (h:sameN a b) {F:Int} (ha:F <= a.e) (hb:F <= b.e):svN a F = svN b F:=by
 obtain ⟨E,e1,e2,e3⟩:=h
 by_cases hF:F <= E
 ·rw [sv_shift a hF e1,sv_shift b hF e2,e3]
 ·have h1:=sv_shift a (E:=F) (F:=E) (by omega) ha
  have h2:=sv_shift b (E:=F) (F:=E) (by omega) hb;rw [h1,h2] at e3;exact Int.eq_of_mul_eq_mul_right (by have:=pow_pos' (F - E).toNat; omega) e3
theorem sameN.refl (a:Nm):sameN a a:=⟨a.e,Int.le_refl _,Int.le_refl _,rfl⟩
theorem sameN.symm {a b:Nm} (h:sameN a b):sameN b a:=let ⟨E,h1,h2,h3⟩:=h; ⟨E,h2,h1,h3.symm⟩
theorem sameN.trans {a b c:Nm} (h:sameN a b) (h':sameN b c):sameN a c:=by
 refine ⟨min a.e (min b.e c.e),by omega,by omega,?_⟩;rw [h.at_ (by omega) (by omega),h'.at_ (by omega) (by omega)]
end
section
open Go Q Go.RowKit
theorem lenD_mul (a b:Nat):lenD (a * b) <= lenD a + lenD b:=by
 refine (lenD_le (by have:=lenD_pos a; omega)).2 ?_;rw [Nat.pow_add];exact Nat.mul_lt_mul'' (lt_lenD a) (lt_lenD b)
theorem lenD_lt {a k:Nat} (hk:0 < k) (h:a < 10 ^ k):lenD a <= k:=(lenD_le hk).2 h
theorem round_id {n:Nm} {d:Nat} (h:lenD n.m <= d):roundN n d = n:=if_pos h
def finN (n:Nm) (d:Nat):Except Int Nm:=if fitsN (roundN n d) = true then .ok (roundN n d) else .error 8
theorem fin_ok {n:Nm} {d:Nat} (h:lenD n.m <= d) (hf:fitsN n = true):finN n d = .ok n:=by
 unfold finN;rw [round_id h,if_pos hf]
structure Fr (n:Nm) (lo hi:Int) (V:Nat):Prop where
 c:n.C
 lo_:lo <= n.e
 hi_:n.e <= hi
 up:upN n lo < V
theorem Fr.m {n:Nm} {lo hi:Int} {V:Nat} (h:Fr n lo hi V):n.m < V:=by
 have:=h.up;unfold upN at this;exact Nat.lt_of_le_of_lt (Nat.le_mul_of_pos_right _ (pow_pos' _)) this
theorem Fr.mono {n:Nm} {lo hi lo' hi':Int} {V V':Nat} (h:Fr n lo hi V) (h1:lo = lo') (h2:hi <= hi') (h3:V <= V'):Fr n lo' hi' V':=by
 subst h1;exact ⟨h.c,h.lo_,by have:=h.hi_; omega,by have:=h.up; omega⟩
theorem Fr.of {n:Nm} {lo hi:Int} {k:Nat} (hc:n.C) (hm:n.m < 10 ^ k) (h1:lo <= n.e) (h2:n.e <= hi):Fr n lo hi (10 ^ (k + (hi - lo).toNat)):=by
 refine ⟨hc,h1,h2,?_⟩;unfold upN;rw [Nat.pow_add];have h3:10 ^ (n.e - lo).toNat <= 10 ^ (hi - lo).toNat:=Nat.pow_le_pow_right (by omega) (by omega);exact Nat.lt_of_le_of_lt (Nat.mul_le_mul_left _ h3) (Nat.mul_lt_mul_of_pos_right hm (pow_pos' _))
theorem up_abs (n:Nm) (E:Int):(upN n E:Int) = (svN n E).natAbs:=by
 unfold svN
 split <;> omega
theorem Fr.neg {n:Nm} {lo hi:Int} {V:Nat} (h:Fr n lo hi V) (h0:lo <= 0) (h1:0 <= hi):Fr (negN n) lo hi V:=by
 refine ⟨C_neg n,exp_mk_ge h.lo_ h0,?_,?_⟩
 ·unfold negN mkN
  have:=h.hi_
  split
  ·exact h1
  ·exact this
 ·have h2:=up_abs (negN n) lo
  rw [sv_neg n h.lo_,Int.natAbs_neg,<- up_abs] at h2;have:=h.up;omega
theorem exp_plus_le {a b:Nm} {hi:Int} (ha:a.e <= hi) (hb:b.e <= hi) (h0:0 <= hi):(plusN a b).e <= hi:=by
 unfold plusN addedN mkN;(repeat' split) <;> first | assumption | (show min _ _ <= _; omega)
theorem Fr.plus {a b:Nm} {lo hi:Int} {V W:Nat} (ha:Fr a lo hi V) (hb:Fr b lo hi W) (h0:lo <= 0) (h1:0 <= hi):Fr (plusN a b) lo hi (V + W):=by
 refine ⟨C_plus ha.c hb.c,exp_plus ha.lo_ hb.lo_ h0,exp_plus_le ha.hi_ hb.hi_ h1,?_⟩;have h2:=up_abs (plusN a b) lo;rw [sv_plus ha.lo_ hb.lo_] at h2;have h3:=up_abs a lo;have h4:=up_abs b lo;have h5:=ha.up;have h6:=hb.up;omega
theorem Fr.mul {a b:Nm} {lo hi lo' hi':Int} {V W:Nat} (ha:Fr a lo hi V) (hb:Fr b lo' hi' W) (h0:lo + lo' <= 0) (h1:0 <= hi + hi'):Fr (mulN a b) (lo + lo') (hi + hi') (V * W):=by
 refine ⟨C_mul a b,exp_mul ha.lo_ hb.lo_ h0,?_,?_⟩
 ·unfold mulN mkN
  have:=ha.hi_;have:=hb.hi_
  split
  ·exact h1
  ·show a.e + b.e <= _; omega
 ·have h2:=up_abs (mulN a b) (lo + lo')
  rw [sv_mul ha.lo_ hb.lo_,Int.natAbs_mul,Int.natCast_mul,<- up_abs,<- up_abs,<- Int.natCast_mul] at h2;have:=Nat.mul_lt_mul'' ha.up hb.up;omega
theorem added_comm (a b:Nm):addedN a b = addedN b a:=by
 unfold addedN;rw [Int.min_comm b.e a.e]
 by_cases hs:a.s = b.s
 ·rw [if_pos hs,if_pos hs.symm,hs,Nat.add_comm]
 ·rw [if_neg hs,if_neg (show ¬ b.s = a.s from fun e=>hs e.symm)]
  by_cases h1:upN b (min a.e b.e) <= upN a (min a.e b.e)
  ·rw [if_pos h1]
   by_cases h2:upN a (min a.e b.e) <= upN b (min a.e b.e)
   ·rw [if_pos h2,show upN a (min a.e b.e) - upN b (min a.e b.e) = 0 by omega,show upN b (min a.e b.e) - upN a (min a.e b.e) = 0 by omega]
    rfl
   ·rw [if_neg h2]
  ·rw [if_neg h1,if_pos (by omega)]
theorem plus_comm {a b:Nm} (ha:a.C) (hb:b.C):plusN a b = plusN b a:=by
 unfold plusN
 by_cases h1:a.m = 0
 ·by_cases h2:b.m = 0
  ·rw [if_pos h1,if_pos h2,ha h1,hb h2]
  ·rw [if_pos h1,if_neg h2,if_pos h1]
 ·by_cases h2:b.m = 0
  ·rw [if_neg h1,if_pos h2,if_pos h2]
  ·rw [if_neg h1,if_neg h2,if_neg h2,if_neg h1,added_comm]
theorem mul_comm' (a b:Nm):mulN a b = mulN b a:=by
 unfold mulN;rw [Nat.mul_comm,Int.add_comm]
 congr 1
 cases a.s <;> cases b.s <;> rfl
theorem plus_zero {a:Nm} (ha:a.C):plusN a nz = a:=by
 unfold plusN
 split
 ·rename_i h; exact (ha h).symm
 ·rw [if_pos (show nz.m = 0 from rfl)]
def oneN:Nm:=⟨false,1,0⟩
theorem mul_one' {a:Nm} (ha:a.C):mulN a oneN = a:=by
 have:(a.s != false) = a.s:=by cases a.s <;> rfl
 unfold mulN oneN;simp only [this,Nat.mul_one,Int.add_zero];exact mk_self ha
theorem plus_assoc {a b c:Nm}:sameN (plusN (plusN a b) c) (plusN a (plusN b c)):=by
 have hE:∃ E:Int,E <= a.e/\E <= b.e/\E <= c.e/\E <= 0:=⟨min (min a.e b.e) (min c.e 0),by omega,by omega,by omega,by omega⟩
 obtain ⟨E,h1,h2,h3,h4⟩:=hE;have h5:=exp_plus h1 h2 h4;have h6:=exp_plus h2 h3 h4;refine ⟨E,exp_plus h5 h3 h4,exp_plus h1 h6 h4,?_⟩;rw [sv_plus h5 h3,sv_plus h1 h2,sv_plus h1 h6,sv_plus h2 h3];omega
theorem mul_plus {a b c:Nm}:sameN (mulN a (plusN b c)) (plusN (mulN a b) (mulN a c)):=by
 have hE:∃ E:Int,E <= a.e/\E <= b.e/\E <= c.e/\E <= 0:=⟨min (min a.e b.e) (min c.e 0),by omega,by omega,by omega,by omega⟩
 obtain ⟨E,h1,h2,h3,h4⟩:=hE;have h5:=exp_plus h2 h3 h4;have h6:=exp_mul h1 h2 (by omega);have h7:=exp_mul h1 h3 (by omega);refine ⟨E + E,exp_mul h1 h5 (by omega),exp_plus h6 h7 (by omega),?_⟩;rw [sv_mul h1 h5,sv_plus h2 h3,sv_plus h6 h7,sv_mul h1 h2,sv_mul h1 h3,Int.mul_add]
theorem mul_plus_len {a b c:Nm}:lenD (plusN (mulN a b) (mulN a c)).m <= max (lenD a.m + lenD (plusN b c).m) (max (lenD a.m + lenD b.m) (lenD a.m + lenD c.m)):=by
 by_cases hb:(mulN a b).m = 0
 ·rw [show plusN (mulN a b) (mulN a c) = mulN a c from if_pos hb]
  have:(mulN a c).m = a.m * c.m:=mk_m _ _ _;rw [this];have:=lenD_mul a.m c.m;omega
 ·by_cases hc:(mulN a c).m = 0
  ·rw [show plusN (mulN a b) (mulN a c) = mulN a b by unfold plusN; rw [if_neg hb,if_pos hc]]
   have:(mulN a b).m = a.m * b.m:=mk_m _ _ _;rw [this];have:=lenD_mul a.m b.m;omega
  ·have e1:(mulN a b).m = a.m * b.m:=mk_m _ _ _
   have e2:(mulN a c).m = a.m * c.m:=mk_m _ _ _;rw [e1] at hb;rw [e2] at hc;have hb0:b.m ≠ 0:=fun e=>hb (by rw [e,Nat.mul_zero])
   have hc0:c.m ≠ 0:=fun e=>hc (by rw [e,Nat.mul_zero])
   have m1:mulN a b = ⟨a.s != b.s,a.m * b.m,a.e + b.e⟩:=mk_s hb;have m2:mulN a c = ⟨a.s != c.s,a.m * c.m,a.e + c.e⟩:=mk_s hc;have e3:(plusN (mulN a b) (mulN a c)).m = a.m * (plusN b c).m:=by
    have p1:plusN (mulN a b) (mulN a c) = addedN (mulN a b) (mulN a c):=by unfold plusN; rw [e1,e2,if_neg hb,if_neg hc]
    have p2:plusN b c = addedN b c:=by unfold plusN; rw [if_neg hb0,if_neg hc0]
    have hmin:min (a.e + b.e) (a.e + c.e) = a.e + min b.e c.e:=by omega
    have u1:upN (mulN a b) (a.e + min b.e c.e) = a.m * upN b (min b.e c.e):=by
     rw [m1]; unfold upN; simp only [Nat.mul_assoc]; congr 3; omega
    have u2:upN (mulN a c) (a.e + min b.e c.e) = a.m * upN c (min b.e c.e):=by
     rw [m2]; unfold upN; simp only [Nat.mul_assoc]; congr 3; omega
    rw [p1,p2];unfold addedN;rw [show (mulN a b).e = a.e + b.e by rw [m1],show (mulN a c).e = a.e + c.e by rw [m2],hmin,u1,u2];have hs:((mulN a b).s = (mulN a c).s) ↔ b.s = c.s:=by
     rw [m1,m2]; cases a.s <;> cases b.s <;> cases c.s <;> simp
    have ha0:0 < a.m:=by
     rcases Nat.eq_zero_or_pos a.m with h | h
     ·exact absurd (by rw [h,Nat.zero_mul]) hb
     ·exact h
    by_cases h1:b.s = c.s
    ·rw [if_pos (hs.2 h1),if_pos h1,mk_m,mk_m,Nat.mul_add]
    ·rw [if_neg fun e=>h1 (hs.1 e),if_neg h1]
     by_cases h2:upN c (min b.e c.e) <= upN b (min b.e c.e)
     ·rw [if_pos (Nat.mul_le_mul_left _ h2),if_pos h2,mk_m,mk_m,Nat.mul_sub]
     ·rw [if_neg fun e=>h2 (Nat.le_of_mul_le_mul_left e ha0),if_neg h2,mk_m,mk_m,Nat.mul_sub]
   rw [e3];have:=lenD_mul a.m (plusN b c).m;omega
end
section
open Go Q Go.RowKit
def rq (m d:Nat):Nat:=m / 10 ^ (lenD m - d) + if 5 <= m / 10 ^ (lenD m - d - 1) % 10 then 1 else 0
theorem round_big {n:Nm} {d:Nat} (h:d < lenD n.m):roundN n d = if rq n.m d < 10 ^ d then ⟨n.s,rq n.m d,n.e + (lenD n.m - d:Nat)⟩ else ⟨n.s,rq n.m d / 10,n.e + (lenD n.m - d:Nat) + 1⟩:=by
 unfold roundN;rw [if_neg (by omega)]
 rfl
theorem q_bounds {m d:Nat} (hd:0 < d) (h:d < lenD m):10 ^ (d - 1) <= m / 10 ^ (lenD m - d)/\m / 10 ^ (lenD m - d) < 10 ^ d:=by
 have h0:0 < m:=by
  rcases Nat.eq_zero_or_pos m with e | e
  ·rw [e] at h
   have:lenD 0 = 1:=by show (digL 0).length = 1; rw [digL_0]; rfl
   omega
  ·exact e
 have h1:=ge_lenD h0;have h2:=lt_lenD m;refine ⟨(Nat.le_div_iff_mul_le (pow_pos' _)).2 ?_,(Nat.div_lt_iff_lt_mul (pow_pos' _)).2 ?_⟩
 ·rw [<- Nat.pow_add,show d - 1 + (lenD m - d) = lenD m - 1 by omega]; exact h1
 ·rw [<- Nat.pow_add,show d + (lenD m - d) = lenD m by omega]; exact h2
theorem rq_bounds {m d:Nat} (hd:0 < d) (h:d < lenD m):10 ^ (d - 1) <= rq m d/\rq m d <= 10 ^ d:=by
 have:=q_bounds hd h;unfold rq
 split <;> omega
theorem half_iff {m k:Nat} (hk:0 < k):5 <= m / 10 ^ (k - 1) % 10 ↔ 10 ^ k <= 2 * (m % 10 ^ k):=by
 obtain ⟨j,rfl⟩:∃ j,k = j + 1:=⟨k - 1,by omega⟩
 rw [Nat.add_sub_cancel,Nat.pow_succ];have h1:m % (10 ^ j * 10) = m % 10 ^ j + 10 ^ j * (m / 10 ^ j % 10):=Nat.mod_mul;have hp:=pow_pos' j;have h2:=Nat.mod_lt m hp;have h3:m / 10 ^ j % 10 < 10:=Nat.mod_lt _ (by omega);rw [h1];generalize m / 10 ^ j % 10 = r at *;generalize m % 10 ^ j = u at *;generalize 10 ^ j = p at *;constructor
 ·intro h
  have:p * 5 <= p * r:=Nat.mul_le_mul_left _ h;omega
 ·intro h
  rcases Nat.lt_or_ge r 5 with h4 | h4
  ·have:p * r <= p * 4:=Nat.mul_le_mul_left _ (by omega)
   omega
  ·exact h4
theorem rq_near {m d:Nat} (h:d < lenD m):2 * (rq m d * 10 ^ (lenD m - d)) <= 2 * m + 10 ^ (lenD m - d)/\2 * m < 2 * (rq m d * 10 ^ (lenD m - d)) + 10 ^ (lenD m - d):=by
 have hk:0 < lenD m - d:=by omega
 have h1:=half_iff (m:=m) hk;have h2:=Nat.div_add_mod m (10 ^ (lenD m - d));have h3:=Nat.mod_lt m (pow_pos' (lenD m - d));unfold rq;generalize lenD m - d = k at *;rw [Nat.mul_comm] at h2
 split
 ·rename_i h5
  have:=h1.1 h5;rw [Nat.add_mul,Nat.one_mul];omega
 ·rename_i h5
  have:¬ 10 ^ k <= 2 * (m % 10 ^ k):=fun e=>h5 (h1.2 e)
  rw [Nat.add_zero];omega
theorem lenD_pow (k:Nat):lenD (10 ^ k) = k + 1:=by
 have h1:=lenD_lt (a:=10 ^ k) (k:=k + 1) (by omega) (Nat.pow_lt_pow_right (by omega) (by omega));have h2:=lt_lenD (10 ^ k);have h3:=(Nat.pow_lt_pow_iff_right (by omega:1 < 10)).1 h2;omega
theorem round_carry {m d:Nat} (hd:0 < d) (h:d < lenD m) (hc:¬ rq m d < 10 ^ d):rq m d = 10 ^ d/\rq m d / 10 = 10 ^ (d - 1):=by
 have h1:=rq_bounds hd h;have e:rq m d = 10 ^ d:=by omega
 refine ⟨e,?_⟩;rw [e];obtain ⟨j,rfl⟩:∃ j,d = j + 1:=⟨d - 1,by omega⟩
 rw [Nat.pow_succ,Nat.mul_div_cancel _ (by omega),Nat.add_sub_cancel]
theorem lenD_eq {u d:Nat} (hd:0 < d) (h1:10 ^ (d - 1) <= u) (h2:u < 10 ^ d):lenD u = d:=by
 have h3:=lenD_lt hd h2;have h4:=Nat.lt_of_le_of_lt h1 (lt_lenD u);have h5:=(Nat.pow_lt_pow_iff_right (by omega:1 < 10)).1 h4;omega
theorem round_len {n:Nm} {d:Nat} (hd:0 < d):lenD (roundN n d).m <= d:=by
 by_cases h:lenD n.m <= d
 ·rw [round_id h]; exact h
 ·have h:d < lenD n.m:=by omega
  rw [round_big h]
  split
  ·rename_i h1
   exact lenD_lt hd h1
  ·rename_i h1
   show lenD (rq n.m d / 10) <= d
   rw [(round_carry hd h h1).2,lenD_pow];omega
theorem round_m0 {n:Nm} {d:Nat} (hd:0 < d):(roundN n d).m = 0 ↔ n.m = 0:=by
 by_cases h:lenD n.m <= d
 ·rw [round_id h]
 ·have h:d < lenD n.m:=by omega
  have h1:=rq_bounds hd h;have hp:=pow_pos' (d - 1);have hn:n.m ≠ 0:=fun e=>by
   rw [e] at h;have:lenD 0 = 1:=by show (digL 0).length = 1; rw [digL_0]; rfl
   omega
  rw [round_big h]
  split
  ·show rq n.m d = 0 ↔ _; omega
  ·rename_i hc
   have:=(round_carry hd h hc).2
   show rq n.m d / 10 = 0 ↔ _; omega
theorem C_round {n:Nm} {d:Nat} (hd:0 < d) (hc:n.C):(roundN n d).C:=by
 intro h0;have h1:=hc ((round_m0 hd).1 h0);rw [h1];exact round_id (by show (digL 0).length <= d; rw [digL_0]; exact hd)
theorem round_s (n:Nm) (d:Nat):(roundN n d).s = n.s:=by
 unfold roundN;(repeat' split) <;> rfl
theorem round_exp (n:Nm) (d:Nat):n.e <= (roundN n d).e:=by
 by_cases h:lenD n.m <= d
 ·rw [round_id h]; exact Int.le_refl _
 ·rw [round_big (by omega)]
  split
  ·show n.e <= n.e + _; omega
  ·show n.e <= n.e + _ + 1; omega
theorem round_up {n:Nm} {d:Nat} (hd:0 < d) (h:d < lenD n.m):upN (roundN n d) n.e = rq n.m d * 10 ^ (lenD n.m - d):=by
 rw [round_big h]
 split
 ·unfold upN
  simp only
  congr 2
  omega
 ·rename_i hc
  obtain ⟨h1,h2⟩:=round_carry hd h hc;unfold upN;simp only;rw [h2,h1,<- Nat.pow_add,<- Nat.pow_add]
  congr 1
  omega
theorem round_neg {n:Nm} {d:Nat} (hd:0 < d) (hc:n.C):roundN (negN n) d = negN (roundN n d):=by
 by_cases h0:n.m = 0
 ·rw [hc h0]
  have e:negN nz = nz:=rfl;have hl:lenD nz.m <= d:=by show (digL 0).length <= d; rw [digL_0]; exact hd
  rw [e,round_id hl,e]
 ·have e1:negN n = ⟨!n.s,n.m,n.e⟩:=mk_s h0
  have h1:(roundN n d).m ≠ 0:=fun e=>h0 ((round_m0 hd).1 e)
  have e2:negN (roundN n d) = ⟨!(roundN n d).s,(roundN n d).m,(roundN n d).e⟩:=mk_s h1;rw [e2,e1];unfold roundN;simp only;(repeat' split) <;> rfl
theorem adj_round {n:Nm} {d:Nat} (hd:0 < d):adjN (roundN n d) = adjN n \/ adjN (roundN n d) = adjN n + 1:=by
 by_cases h:lenD n.m <= d
 ·rw [round_id h]; exact .inl rfl
 ·have h:d < lenD n.m:=by omega
  have h1:=rq_bounds hd h;rw [round_big h]
  split
  ·rename_i h2
   have:=lenD_eq hd h1.1 h2
   left
   show n.e + _ + (lenD (rq n.m d):Int) - 1 = n.e + (lenD n.m:Int) - 1
   omega
  ·rename_i hc
   have:=(round_carry hd h hc).2;have h3:=lenD_pow (d - 1)
   right
   show n.e + _ + 1 + (lenD (rq n.m d / 10):Int) - 1 = n.e + (lenD n.m:Int) - 1 + 1
   rw [this,h3];omega
theorem lenD_shift {m:Nat} (h:0 < m) (k:Nat):lenD (m * 10 ^ k) = lenD m + k:=by
 show (digL (m * 10 ^ k)).length = _
 rw [digL_shift h,List.length_append,List.length_replicate]
theorem round_shift {s:Bool} {m k d:Nat} {e:Int} (hd:0 < d) (hm:0 < m):sameN (roundN ⟨s,m * 10 ^ k,e⟩ d) (roundN ⟨s,m,e + k⟩ d):=by
 have hl:=lenD_shift hm k;have hself:sameN ⟨s,m * 10 ^ k,e⟩ ⟨s,m,e + k⟩:=by
  refine ⟨e,Int.le_refl _,by show e <= e + _; omega,?_⟩;unfold svN upN;simp only;rw [show (e - e).toNat = 0 by omega,show (e + (k:Int) - e).toNat = k by omega,Nat.pow_zero,Nat.mul_one]
 by_cases h1:lenD (m * 10 ^ k) <= d
 ·rw [round_id h1,round_id (show lenD (Nm.m ⟨s,m,e + k⟩) <= d by show lenD m <= d; omega)]
  exact hself
 ·have h1:d < lenD (m * 10 ^ k):=by omega
  by_cases h2:lenD m <= d
  ·rw [round_id (show lenD (Nm.m ⟨s,m,e + k⟩) <= d from h2)]
   refine sameN.trans ?_ hself;have hj:lenD (m * 10 ^ k) - d <= k:=by omega
   have hmod:∀ j,j <= k->(m * 10 ^ k) % 10 ^ j = 0:=fun j hj=>by
    obtain ⟨i,rfl⟩:∃ i,k = i + j:=⟨k - j,by omega⟩
    rw [Nat.pow_add,<- Nat.mul_assoc];exact Nat.mul_mod_left _ _
   have hr:rq (m * 10 ^ k) d * 10 ^ (lenD (m * 10 ^ k) - d) = m * 10 ^ k:=by
    have hnh:¬ 5 <= (m * 10 ^ k) / 10 ^ (lenD (m * 10 ^ k) - d - 1) % 10:=by
     rw [half_iff (by omega),hmod _ hj];have:=pow_pos' (lenD (m * 10 ^ k) - d);omega
    unfold rq;rw [if_neg hnh,Nat.add_zero];exact Nat.div_mul_cancel (Nat.dvd_of_mod_eq_zero (hmod _ hj))
   refine ⟨e,round_exp _ _,Int.le_refl _,?_⟩;have hu:=round_up (n:=⟨s,m * 10 ^ k,e⟩) hd h1;unfold svN;rw [round_s];simp only at hu;rw [hu,hr];unfold upN;simp only;rw [show (e - e).toNat = 0 by omega,Nat.pow_zero,Nat.mul_one]
  ·have h2:d < lenD m:=by omega
   have hrq:rq (m * 10 ^ k) d = rq m d:=by
    unfold rq;rw [hl,show lenD m + k - d = k + (lenD m - d) by omega,show k + (lenD m - d) - 1 = k + (lenD m - d - 1) by omega];rw [Nat.pow_add,Nat.pow_add,<- Nat.div_div_eq_div_mul,<- Nat.div_div_eq_div_mul,Nat.mul_div_cancel _ (pow_pos' k)]
   have he:roundN ⟨s,m * 10 ^ k,e⟩ d = roundN ⟨s,m,e + k⟩ d:=by
    rw [round_big (n:=⟨s,m * 10 ^ k,e⟩) h1,round_big (n:=⟨s,m,e + k⟩) h2];simp only;rw [hrq,hl,show ((lenD m + k - d:Nat):Int) = (k:Int) + (lenD m - d:Nat) by omega,<- Int.add_assoc]
   rw [he];exact sameN.refl _
end
section
open Go Q Go.RowKit
def bareM (m:Nat):Nat × Nat:=if h:m ≠ 0/\m % 10 = 0 then ((bareM (m / 10)).1,(bareM (m / 10)).2 + 1) else (m,0)
termination_by m
decreasing_by all_goals omega
theorem bareM_no {m:Nat} (h:¬ (m ≠ 0/\m % 10 = 0)):bareM m = (m,0):=by rw [bareM,dif_neg h]
theorem bareM_yes {m:Nat} (h:m ≠ 0/\m % 10 = 0):bareM m = ((bareM (m / 10)).1,(bareM (m / 10)).2 + 1):=by
 conv=>lhs; rw [bareM,dif_pos h]
theorem bareM_eq (m:Nat):m = (bareM m).1 * 10 ^ (bareM m).2:=by
 induction m using Nat.strongRecOn with
 | _ m ih=>
  by_cases h:m ≠ 0/\m % 10 = 0
  ·have:=ih (m / 10) (by omega)
   rw [bareM_yes h];simp only;rw [Nat.pow_succ,<- Nat.mul_assoc,<- this];omega
  ·rw [bareM_no h]; simp
theorem bareM_last {m:Nat} (h:m ≠ 0):(bareM m).1 % 10 ≠ 0:=by
 induction m using Nat.strongRecOn with
 | _ m ih=>
  by_cases h1:m ≠ 0/\m % 10 = 0
  ·rw [bareM_yes h1]
   exact ih (m / 10) (by omega) (by omega)
  ·rw [bareM_no h1]
   simp only;omega
theorem bareM_pos {m:Nat} (h:m ≠ 0):0 < (bareM m).1:=by
 have:=bareM_last h;omega
theorem lenD_bare {m:Nat} (h:m ≠ 0):lenD m = lenD (bareM m).1 + (bareM m).2:=by
 have:=bareM_eq m
 conv=>lhs; rw [this]
 exact lenD_shift (bareM_pos h) _
def bareN (n:Nm):Nm:=if n.m = 0 then nz else ⟨n.s,(bareM n.m).1,n.e + (bareM n.m).2⟩
theorem C_bare (n:Nm):(bareN n).C:=by
 unfold bareN
 split
 ·exact C_nz
 ·rename_i h
  intro h0;have:=bareM_pos h;simp only at h0;omega
theorem bare_same {n:Nm} (hc:n.C):sameN (bareN n) n:=by
 by_cases h:n.m = 0
 ·have:bareN n = n:=by unfold bareN; rw [if_pos h,hc h]
  rw [this]; exact sameN.refl _
 ·unfold bareN
  rw [if_neg h];refine ⟨n.e,by show n.e <= n.e + _; omega,Int.le_refl _,?_⟩;unfold svN upN;simp only;rw [show (n.e + ((bareM n.m).2:Int) - n.e).toNat = (bareM n.m).2 by omega,<- bareM_eq,show (n.e - n.e).toNat = 0 by omega,Nat.pow_zero,Nat.mul_one]
theorem tens {p q i j:Nat} (hp:p % 10 ≠ 0) (hq:q % 10 ≠ 0) (h:p * 10 ^ i = q * 10 ^ j):i = j/\p = q:=by
 rcases Nat.lt_trichotomy i j with h1 | h1 | h1
 ·obtain ⟨k,rfl⟩:∃ k,j = i + (k + 1):=⟨j - i - 1,by omega⟩
  rw [Nat.pow_add,Nat.mul_comm (10 ^ i),<- Nat.mul_assoc] at h;have:=Nat.eq_of_mul_eq_mul_right (pow_pos' i) h;rw [Nat.pow_succ,<- Nat.mul_assoc] at this;exact absurd (by rw [this]; exact Nat.mul_mod_left _ _) hp
 ·subst h1
  exact ⟨rfl,Nat.eq_of_mul_eq_mul_right (pow_pos' i) h⟩
 ·obtain ⟨k,rfl⟩:∃ k,i = j + (k + 1):=⟨i - j - 1,by omega⟩
  rw [Nat.pow_add,Nat.mul_comm (10 ^ j),<- Nat.mul_assoc] at h;have:=Nat.eq_of_mul_eq_mul_right (pow_pos' j) h;rw [Nat.pow_succ,<- Nat.mul_assoc] at this;exact absurd (by rw [<- this]; exact Nat.mul_mod_left _ _) hq
theorem same_iff {a b:Nm} (ha:a.m ≠ 0) (hb:b.m ≠ 0):sameN a b ↔ a.s = b.s/\(bareM a.m).1 = (bareM b.m).1/\a.e + lenD a.m = b.e + lenD b.m:=by
 have la:=lenD_bare ha;have lb:=lenD_bare hb;have ea:=bareM_eq a.m;have eb:=bareM_eq b.m;have pa:=bareM_last ha;have pb:=bareM_last hb;constructor
 ·rintro ⟨E,h1,h2,h3⟩
  have u1:0 < upN a E:=up_pos ha E;have u2:0 < upN b E:=up_pos hb E;have hs:a.s = b.s/\upN a E = upN b E:=by
   unfold svN at h3
   cases hsa:a.s <;> cases hsb:b.s <;> rw [hsa,hsb] at h3 <;> simp at h3 ⊢ <;> omega
  obtain ⟨hs,hu⟩:=hs;unfold upN at hu;rw [ea,eb,Nat.mul_assoc,Nat.mul_assoc,<- Nat.pow_add,<- Nat.pow_add] at hu;obtain ⟨k1,k2⟩:=tens pa pb hu;refine ⟨hs,k2,?_⟩;rw [la,lb,k2];omega
 ·rintro ⟨hs,hp,he⟩
  rw [la,lb,hp] at he;refine ⟨min a.e b.e,by omega,by omega,?_⟩;have:upN a (min a.e b.e) = upN b (min a.e b.e):=by
   unfold upN;rw [ea,eb,hp,Nat.mul_assoc,Nat.mul_assoc,<- Nat.pow_add,<- Nat.pow_add]
   congr 2
   omega
  unfold svN;rw [hs,this]
theorem same_zero {a b:Nm} (h:sameN a b):a.m = 0 ↔ b.m = 0:=by
 obtain ⟨E,_,_,h3⟩:=h;rw [<- sv_zero (E:=E),<- sv_zero (n:=b) (E:=E),h3]
theorem bare_form {n:Nm} (h:n.m ≠ 0):n = ⟨n.s,(bareM n.m).1 * 10 ^ (bareM n.m).2,n.e⟩:=by
 obtain ⟨s,m,e⟩:=n;simp only;rw [<- bareM_eq]
theorem round_bare {n:Nm} {d:Nat} (hd:0 < d) (h:n.m ≠ 0):sameN (roundN n d) (roundN (bareN n) d):=by
 have e1:bareN n = ⟨n.s,(bareM n.m).1,n.e + (bareM n.m).2⟩:=by unfold bareN; rw [if_neg h]
 rw [e1]
 conv=>lhs; rw [bare_form h]
 exact round_shift hd (bareM_pos h)
theorem round_same {a b:Nm} {d:Nat} (hd:0 < d) (ca:a.C) (cb:b.C) (h:sameN a b):sameN (roundN a d) (roundN b d):=by
 by_cases ha:a.m = 0
 ·have hb:=(same_zero h).1 ha
  rw [ca ha,cb hb];exact sameN.refl _
 ·have hb:b.m ≠ 0:=fun e=>ha ((same_zero h).2 e)
  obtain ⟨h1,h2,h3⟩:=(same_iff ha hb).1 h;have la:=lenD_bare ha;have lb:=lenD_bare hb;have e:bareN a = bareN b:=by
   unfold bareN;rw [if_neg ha,if_neg hb,h1,h2]
   congr 1
   rw [la,lb,h2] at h3;omega
  have r1:=round_bare hd ha;have r2:=round_bare hd hb;rw [e] at r1;exact r1.trans r2.symm
def scN (a b:Nm) (d:Nat):Nat:=d + lenD b.m + 1 - lenD a.m
def quoQ (a b:Nm) (d:Nat):Nat:=a.m * 10 ^ scN a b d / b.m
def quoR (a b:Nm) (d:Nat):Nat:=a.m * 10 ^ scN a b d % b.m
def quoN (a b:Nm) (d q:Nat):Except Int Nm:=match finN (mkN (a.s != b.s) q (a.e - b.e - scN a b d)) d with
 | .ok n=>.ok (bareN n)
 | .error e=>.error e
def wholeN (a b:Nm) (d:Nat):Except Int (Nm × Nm):=
 if adjN a - adjN b > d/\a.m ≠ 0 then .error 10 else
 if adjN a < adjN b then .ok (nz,mkN a.s (upN a (min a.e b.e)) (min a.e b.e)) else
 if lenD (upN a (min a.e b.e) / upN b (min a.e b.e)) <= d then .ok (mkN (a.s != b.s) (upN a (min a.e b.e) / upN b (min a.e b.e)) 0,mkN a.s (upN a (min a.e b.e) % upN b (min a.e b.e)) (min a.e b.e)) else .error 10
def powN (a:Nm):Nat->Nm
 | 0=>oneN
 | k + 1=>mulN (powN a k) a
theorem C_one:oneN.C:=fun h=>by cases h
theorem C_pow (a:Nm):∀ k,(powN a k).C
 | 0=>C_one
 | k + 1=>C_mul _ _
theorem mul_mk_l (s:Bool) (m:Nat) (e:Int) (b:Nm):mulN (mkN s m e) b = mkN (s != b.s) (m * b.m) (e + b.e):=by
 by_cases h:m = 0
 ·subst h
  unfold mulN;rw [mk_m,Nat.zero_mul];unfold mkN;rw [if_pos rfl,if_pos rfl]
 ·rw [mk_s h]; rfl
theorem mul_mk_r (a:Nm) (s:Bool) (m:Nat) (e:Int):mulN a (mkN s m e) = mkN (a.s != s) (a.m * m) (a.e + e):=by
 rw [mul_comm',mul_mk_l,Nat.mul_comm,Int.add_comm]
 congr 1
 cases a.s <;> cases s <;> rfl
theorem mul_assoc_eq (a b c:Nm):mulN (mulN a b) c = mulN a (mulN b c):=by
 show mulN (mkN _ _ _) c = mulN a (mkN _ _ _)
 rw [mul_mk_l,mul_mk_r,Nat.mul_assoc,Int.add_assoc]
 congr 1
 cases a.s <;> cases b.s <;> cases c.s <;> rfl
theorem one_mul' {a:Nm} (ha:a.C):mulN oneN a = a:=by rw [mul_comm',mul_one' ha]
theorem pow_add' {a:Nm} (ha:a.C) (i:Nat):∀ j,mulN (powN a i) (powN a j) = powN a (i + j)
 | 0=>mul_one' (C_pow a i)
 | j + 1=>by
  show mulN (powN a i) (mulN (powN a j) a) = mulN (powN a (i + j)) a
  rw [<- mul_assoc_eq,pow_add' ha i j]
theorem pow_one' {a:Nm} (ha:a.C):powN a 1 = a:=one_mul' ha
theorem pow_m (a:Nm):∀ k,(powN a k).m = a.m ^ k
 | 0=>rfl
 | k + 1=>by
  show (mkN _ _ _).m = _
  rw [mk_m,pow_m a k,Nat.pow_succ]
end
section
open Go Q Go.RowKit
def sgnN (n:Nm):Int:=if n.m = 0 then 0 else if n.s then -1 else 1
theorem sgn_sv (n:Nm) (E:Int):sgnN n = (svN n E).sign:=by
 unfold sgnN
 by_cases h:n.m = 0
 ·rw [if_pos h,sv_0 h]; rfl
 ·rw [if_neg h]
  have:=up_pos h E;unfold svN
  split
  ·rw [Int.sign_neg,Int.sign_eq_one_of_pos (by omega)]
  ·rw [Int.sign_eq_one_of_pos (by omega)]
theorem neg_e {n:Nm} (h:n.C):(negN n).e = n.e:=by
 by_cases h0:n.m = 0
 ·rw [h h0]; rfl
 ·have:negN n = ⟨!n.s,n.m,n.e⟩:=mk_s h0
  rw [this]
def difN (a b:Nm):Int:=sgnN (addedN a (negN b))
theorem dif_sv {a b:Nm} (hb:b.C) {E:Int} (h1:E <= a.e) (h2:E <= b.e):difN a b = (svN a E - svN b E).sign:=by
 unfold difN;rw [sgn_sv _ E,sv_added (by rw [neg_e hb]; omega),sv_neg b h2,Int.sub_eq_add_neg]
theorem sign_lt {x:Int}:x.sign < 0 ↔ x < 0:=by
 rcases Int.lt_trichotomy x 0 with h | h | h
 ·rw [Int.sign_eq_neg_one_of_neg h]; omega
 ·subst h; simp
 ·rw [Int.sign_eq_one_of_pos h]; omega
theorem sign_0 {x:Int}:x.sign = 0 ↔ x = 0:=Int.sign_eq_zero_iff_zero
theorem sign_range (x:Int):-1 <= x.sign/\x.sign <= 1:=by
 rcases Int.lt_trichotomy x 0 with h | h | h
 ·rw [Int.sign_eq_neg_one_of_neg h]; omega
 ·subst h; simp
 ·rw [Int.sign_eq_one_of_pos h]; omega
theorem dif_anti {a b:Nm} (ha:a.C) (hb:b.C):difN a b = - difN b a:=by
 rw [dif_sv hb (E:=min a.e b.e) (by omega) (by omega),dif_sv ha (E:=min a.e b.e) (by omega) (by omega),<- Int.sign_neg]
 congr 1
 omega
theorem dif_range (a b:Nm):-1 <= difN a b/\difN a b <= 1:=by
 unfold difN;rw [sgn_sv _ 0];exact sign_range _
theorem dif_same {a b:Nm} (hb:b.C) (h:sameN a b):difN a b = 0:=by
 obtain ⟨E,h1,h2,h3⟩:=h;rw [dif_sv hb h1 h2,h3,Int.sub_self]
 rfl
theorem dif_lt {a b:Nm} (hb:b.C) {E:Int} (h1:E <= a.e) (h2:E <= b.e):difN a b < 0 ↔ svN a E < svN b E:=by
 rw [dif_sv hb h1 h2,sign_lt]; omega
theorem dif_eq {a b:Nm} (hb:b.C) {E:Int} (h1:E <= a.e) (h2:E <= b.e):difN a b = 0 ↔ svN a E = svN b E:=by
 rw [dif_sv hb h1 h2,sign_0]; omega
theorem dif_trans {a b c:Nm} (hb:b.C) (hc:c.C):(difN a b > 0 \/ difN b c > 0) \/ difN a c <= 0/\(difN a b = 0/\difN b c = 0 \/ difN a c < 0 \/ difN a c = 0/\difN a b = 0/\difN b c = 0):=by
 have hE:∃ E:Int,E <= a.e/\E <= b.e/\E <= c.e:=⟨min a.e (min b.e c.e),by omega,by omega,by omega⟩
 obtain ⟨E,h1,h2,h3⟩:=hE;have l1:=dif_lt hb h1 h2;have l2:=dif_lt hc h2 h3;have l3:=dif_lt hc h1 h3;have e1:=dif_eq hb h1 h2;have e2:=dif_eq hc h2 h3;have e3:=dif_eq hc h1 h3;have r1:=dif_range a b;have r2:=dif_range b c;have r3:=dif_range a c;omega
theorem whole_exact {a b:Nm} {E:Int} (hb:b.m ≠ 0) (hE:E = min a.e b.e) (q r:Nat) (hq:q = upN a E / upN b E) (hr:r = upN a E % upN b E) :
  ∀ F:Int,F <= E->F <= 0->svN b F * svN (mkN (a.s != b.s) q 0) 0 + svN (mkN a.s r E) F = svN a F:=by
 intro F h1 h2;have ha:E <= a.e:=by omega
 have hbe:E <= b.e:=by omega
 have hub:=up_pos hb E;have hdm:=Nat.div_add_mod (upN a E) (upN b E);rw [<- hq,<- hr] at hdm;rw [sv_mk _ _ (Int.le_refl 0),sv_mk _ _ h1,sv_shift a h1 ha,sv_shift b h1 hbe];have hp:=pow_pos' (E - F).toNat;unfold svN;rw [show (0 - 0:Int).toNat = 0 from rfl,Nat.pow_zero,Int.natCast_one,Int.mul_one];have hdi:(upN b E:Int) * (q:Int) + (r:Int) = (upN a E:Int):=by exact_mod_cast hdm
 rw [<- hdi];generalize (upN b E:Int) = y;generalize ((10 ^ (E - F).toNat:Nat):Int) = t;generalize (q:Int) = q';generalize (r:Int) = r'
 cases a.s <;> cases b.s <;> simp [Int.add_mul,Int.mul_add,Int.neg_mul,Int.mul_neg,Int.mul_comm,Int.mul_left_comm,Int.mul_assoc,Int.neg_add]
end
section
open Go Q Go.RowKit
structure NumM where
 neg:Bool
 digits:ByteArray
 exp:Int
def digB (m:Nat):ByteArray:=⟨(digL m).toArray⟩
def Nm.num (n:Nm):NumM:=⟨n.s,digB n.m,n.e⟩
def noNum:NumM:=⟨false,⟨#[]⟩,0⟩
def dgOk (l:List UInt8):Bool:=!l.isEmpty && l.all (fun c=>decide (48 <= c.toNat) && decide (c.toNat <= 57)) && (decide (l.head? ≠ some 48) || decide (l = [48]))
def nmOf (x:NumM):Option Nm:=
 if dgOk x.digits.data.toList = true/\x.digits.data.toList.length <= 1000/\((valL x.digits.data.toList = 0/\x.neg = false/\x.exp = 0) \/ (valL x.digits.data.toList ≠ 0/\fitsN ⟨x.neg,valL x.digits.data.toList,x.exp⟩ = true)) then some ⟨x.neg,valL x.digits.data.toList,x.exp⟩ else none
structure OkN (n:Nm):Prop where
 c:n.C
 len:lenD n.m <= 1000
 fit:fitsN n = true
theorem dgOk_iff {l:List UInt8}:dgOk l = true ↔ l ≠ []/\Dg l/\(l.head? ≠ some 48 \/ l = [48]):=by
 unfold dgOk Dg;simp only [Bool.and_eq_true,Bool.not_eq_true',List.isEmpty_eq_false_iff,List.all_eq_true,decide_eq_true_eq,Bool.or_eq_true,and_assoc]
theorem dgOk_dig (m:Nat):dgOk (digL m) = true:=by
 rw [dgOk_iff];refine ⟨digL_ne m,digL_dg m,?_⟩
 by_cases h:m = 0
 ·right; rw [h,digL_0]
 ·left; exact digL_head (by omega)
theorem digB_list (m:Nat):(digB m).data.toList = digL m:=by simp [digB]
theorem nmOf_some {x:NumM} {n:Nm} (h:nmOf x = some n):x = n.num/\OkN n:=by
 unfold nmOf at h
 split at h
 ·rename_i hc
  obtain ⟨h1,h2,h3⟩:=hc;obtain ⟨g1,g2,g3⟩:=dgOk_iff.1 h1;have hv:=(digL_val g2 g1 g3).1;simp only [Option.some.injEq] at h;subst h;refine ⟨?_,?_,?_,?_⟩
  ·obtain ⟨neg,digits,exp⟩:=x
   unfold Nm.num;simp only [NumM.mk.injEq,true_and,and_true];unfold digB;simp only at hv;rw [hv]
  ·intro h0
   simp only at h0
   rcases h3 with ⟨_,e1,e2⟩ | ⟨e1,_⟩
   ·unfold nz
    rw [e1,e2,h0]
   ·exact absurd h0 e1
  ·show (digL _).length <= 1000
   rw [hv]; exact h2
  ·rcases h3 with ⟨e0,_,_⟩ | ⟨_,e1⟩
   ·unfold fitsN
    simp only [e0,decide_true,Bool.true_or]
   ·exact e1
 ·cases h
theorem nmOf_num {n:Nm} (h:OkN n):nmOf n.num = some n:=by
 have e:n.num.digits.data.toList = digL n.m:=digB_list n.m;unfold nmOf;rw [e,valL_dig];refine if_pos ⟨dgOk_dig _,h.len,?_⟩
 by_cases h0:n.m = 0
 ·left
  have:=h.c h0;refine ⟨h0,?_,?_⟩
  ·show n.s = false; rw [this]; rfl
  ·show n.e = 0; rw [this]; rfl
 ·exact .inr ⟨h0,h.fit⟩
theorem ok_nz:OkN nz:=⟨C_nz,by show (digL 0).length <= 1000; rw [digL_0]; decide,rfl⟩
theorem num_inj {a b:Nm} (h:a.num = b.num):a = b:=by
 obtain ⟨s,m,e⟩:=a;obtain ⟨s',m',e'⟩:=b;unfold Nm.num at h;simp only [NumM.mk.injEq] at h;obtain ⟨rfl,h2,rfl⟩:=h;have:=congrArg (fun b:ByteArray=>b.data.toList) h2;simp only [digB_list] at this;rw [digL_inj this]
abbrev ResN:=Except Int Nm
def wideD (d:Int):Bool:=decide (1 <= d) && decide (d <= 40)
def opd1 (x:NumM) (d:Int):ResN:=match nmOf x with
 | none=>.error 1
 | some n=>if wideD d = true then finN n d.toNat else .error 1
def opd2 (x y:NumM) (d:Int):Except Int (Nm × Nm):=match nmOf x,nmOf y with
 | some a,some b=>if wideD d = true then match finN a d.toNat,finN b d.toNat with
  | .ok a',.ok b'=>.ok (a',b')
  | _,_=>.error 8
  else .error 1
 | _,_=>.error 1
def bindE {α β:Type} (x:Except Int α) (f:α->Except Int β):Except Int β:=match x with
 | .error e=>.error e
 | .ok a=>f a
def addR (x y:NumM) (d:Int):ResN:=bindE (opd2 x y d) fun p=>finN (plusN p.1 p.2) d.toNat
def subR (x y:NumM) (d:Int):ResN:=bindE (opd2 x y d) fun p=>finN (plusN p.1 (negN p.2)) d.toNat
def mulR (x y:NumM) (d:Int):ResN:=bindE (opd2 x y d) fun p=>finN (mulN p.1 p.2) d.toNat
def divR (x y:NumM) (d:Int):Except Int (Nm × Nat × Nat):=bindE (opd2 x y d) fun p=>
 if p.2.m = 0 then .error 9 else bindE (quoN p.1 p.2 d.toNat (quoQ p.1 p.2 d.toNat)) fun n=>.ok (n,quoQ p.1 p.2 d.toNat,quoR p.1 p.2 d.toNat)
def wholeR (x y:NumM) (d:Int):Except Int (Nm × Nm):=bindE (opd2 x y d) fun p=>
 if p.2.m = 0 then .error 9 else wholeN p.1 p.2 d.toNat
def idivR (x y:NumM) (d:Int):ResN:=bindE (wholeR x y d) fun p=>finN p.1 d.toNat
def remR (x y:NumM) (d:Int):ResN:=bindE (wholeR x y d) fun p=>finN p.2 d.toNat
def powR (x:NumM) (n d:Int):ResN:=if n < -100 \/ 100 < n then .error 1 else bindE (opd1 x d) fun a=>
 if 0 <= n then finN (powN a n.toNat) d.toNat else if a.m = 0 then .error 9 else quoN oneN (powN a (-n).toNat) d.toNat (quoQ oneN (powN a (-n).toNat) d.toNat)
structure SetM where
 digits:Int
 fuzz:Int
 form:Int
def setOk (s:SetM):Bool:=decide (1 <= s.digits) && decide (s.digits <= 40) && decide (0 <= s.fuzz) && decide (s.fuzz < s.digits) && (decide (s.form = 0) || decide (s.form = 1))
def cmpR (x y:NumM) (s:SetM):Except Int Int:=if setOk s = false then .error 1 else bindE (opd2 x y (s.digits - s.fuzz)) fun p=>.ok (difN p.1 p.2)
def intR (x:NumM) (d:Int):Except Int Int:=match nmOf x with
 | none=>.error 1
 | some n=>if wideD d = false then .error 1 else
  if (bareN n).e < 0 \/ (bareN n).e + lenD (bareN n).m > d then .error 10 else
  if lenD ((bareN n).m) + (bareN n).e.toNat > 9 then .error 8 else .ok (svN (bareN n) 0)
end
section
open Go Q Go.RowKit
def dgB (c:UInt8):Bool:=decide (48 <= c.toNat) && decide (c.toNat <= 57)
abbrev zerosL (k:Nat):List UInt8:=List.replicate k 48
def plainL (n:Nm):List UInt8:=
 if 0 <= n.e then digL n.m ++ zerosL n.e.toNat else
 (zerosL (1 - n.e - lenD n.m).toNat ++ digL n.m).take (((zerosL (1 - n.e - lenD n.m).toNat ++ digL n.m).length:Int) + n.e).toNat ++
 46 :: (zerosL (1 - n.e - lenD n.m).toNat ++ digL n.m).drop (((zerosL (1 - n.e - lenD n.m).toNat ++ digL n.m).length:Int) + n.e).toNat
def expoT (x:Int):List UInt8:=69 :: (if x < 0 then 45 else 43) :: digL x.natAbs
def expoL (n:Nm) (k:Nat):List UInt8:=
 (digL n.m ++ zerosL (k - lenD n.m)).take k ++ ((if k < (digL n.m ++ zerosL (k - lenD n.m)).length then 46 :: (digL n.m ++ zerosL (k - lenD n.m)).drop k else []) ++ expoT (adjN n - k + 1))
def toldL (n:Nm) (s:SetM):List UInt8:=
 (if n.s = true then [45] else []) ++
 (if n.m = 0 \/ (adjN n < s.digits/\-2 * s.digits <= n.e) then plainL n else
  if s.form = 1 then expoL n ((adjN n) % 3 + 1).toNat else expoL n 1)
def bl (l:List UInt8):List UInt8:=l.dropWhile (· == 32)
def sgB (l:List UInt8):Bool:=decide (l.head? = some 43) || decide (l.head? = some 45)
def unS (l:List UInt8):List UInt8:=if sgB l = true then l.drop 1 else l
def dgs (l:List UInt8):List UInt8:=l.takeWhile dgB
def rst (l:List UInt8):List UInt8:=l.dropWhile dgB
def expR (l:List UInt8):Option (Int × List UInt8):=
 if l.head? = some 69 \/ l.head? = some 101 then
  if dgs (unS (l.drop 1)) = [] then none else some ((if (l.drop 1).head? = some 45 then -(valL (dgs (unS (l.drop 1))):Int) else (valL (dgs (unS (l.drop 1))):Int)),rst (unS (l.drop 1)))
 else some (0,l)
def fitO (n:Nm):Option Nm:=if fitsN n = true then some n else none
def readL (l:List UInt8):Option Nm:=
 let a:=bl l
 let b:=bl (unS a)
 let c:=rst b
 let p:=if c.head? = some 46 then dgs (c.drop 1) else []
 let d:=if c.head? = some 46 then rst (c.drop 1) else c
 if dgs b ++ p = [] then none else
 match expR d with
 | none=>none
 | some (x,r)=>if bl r = [] then fitO (mkN (decide (a.head? = some 45)) (valL (dgs b ++ p)) (x - p.length)) else none
theorem dgB_iff {c:UInt8}:dgB c = true ↔ 48 <= c.toNat/\c.toNat <= 57:=by unfold dgB; simp
theorem dgs_app {w r:List UInt8} (h:Dg w) (hr:∀ c t,r = c :: t->dgB c = false):dgs (w ++ r) = w/\rst (w ++ r) = r:=by
 unfold dgs rst
 induction w with
 | nil=>
  cases r with
  | nil=>exact ⟨rfl,rfl⟩
  | cons c t=>
   have:=hr c t rfl;simp [this]
 | cons c w ih=>
  have hc:dgB c = true:=dgB_iff.2 (h c List.mem_cons_self);have:=ih fun d hd=>h d (List.mem_cons_of_mem _ hd)
  rw [List.cons_append,List.takeWhile_cons,List.dropWhile_cons,hc];simp only [if_true];exact ⟨by rw [this.1],this.2⟩
theorem dgs_all {w:List UInt8} (h:Dg w):dgs w = w/\rst w = []:=by
 have:=dgs_app (r:=[]) h (fun c t e=>by cases e)
 rwa [List.append_nil] at this
theorem bl_dg {c:UInt8} {t:List UInt8} (h:dgB c = true):bl (c :: t) = c :: t:=by
 unfold bl;rw [List.dropWhile_cons];have:(c == 32) = false:=by
  cases hc:c == 32 with
  | false=>rfl
  | true=>have:=eq_of_beq hc; subst this; revert h; decide
 rw [this]
 rfl
theorem unS_dg {c:UInt8} {t:List UInt8} (h:dgB c = true):unS (c :: t) = c :: t:=by
 unfold unS sgB;have h1:c ≠ 43:=by rintro rfl; revert h; decide
 have h2:c ≠ 45:=by rintro rfl; revert h; decide
 simp [h1,h2]
theorem read_head {s:Bool} {c:UInt8} {t:List UInt8} (h:dgB c = true) :
  bl (unS (bl ((if s = true then [45] else []) ++ c :: t))) = c :: t/\(decide ((bl ((if s = true then [45] else []) ++ c :: t)).head? = some 45)) = s:=by
 cases s with
 | false=>
  have e:(if false = true then [45] else []:List UInt8) ++ c :: t = c :: t:=rfl;rw [e,bl_dg h,unS_dg h,bl_dg h];refine ⟨rfl,?_⟩;have h2:c ≠ 45:=by rintro rfl; revert h; decide
  simp [h2]
 | true=>
  have e:(if true = true then [45] else []:List UInt8) ++ c :: t = 45 :: c :: t:=rfl;have e2:bl (45 :: c :: t) = 45 :: c :: t:=by unfold bl; rw [List.dropWhile_cons]; rfl
  have e3:unS (45 :: c :: t) = c :: t:=by unfold unS sgB; simp
  rw [e,e2,e3,bl_dg h];exact ⟨rfl,rfl⟩
theorem expR_told (x:Int):expR (expoT x) = some (x,[]):=by
 unfold expR expoT;rw [if_pos (.inl rfl)];have e1:List.drop 1 (69 :: (if x < 0 then 45 else 43) :: digL x.natAbs:List UInt8) = (if x < 0 then 45 else 43) :: digL x.natAbs:=rfl;have e2:unS ((if x < 0 then 45 else 43) :: digL x.natAbs) = digL x.natAbs:=by
  unfold unS sgB
  split <;> simp
 rw [e1,e2,(dgs_all (digL_dg _)).1,(dgs_all (digL_dg _)).2,if_neg (digL_ne _),valL_dig]
 congr 2
 by_cases h:x < 0
 ·simp [h]; omega
 ·simp [h]; omega
theorem bl_nil:bl [] = []:=rfl
theorem read_form {s:Bool} {w p:List UInt8} {x:Int} {tail:List UInt8} (hw:Dg w) (hne:w ≠ []) (hp:Dg p)
  (ht:(tail = []/\x = 0) \/ tail = expoT x) (dot:Bool) (hdot:dot = false->p = []) :
  readL ((if s = true then [45] else []) ++ (w ++ ((if dot = true then 46 :: p else []) ++ tail))) = fitO (mkN s (valL (w ++ p)) (x - p.length)):=by
 have htail:∀ c t,tail = c :: t->dgB c = false:=by
  intro c t e
  rcases ht with ⟨rfl,_⟩ | rfl
  ·cases e
  ·unfold expoT at e
   rw [<- (List.cons.inj e).1]
   decide
 have hx:expR tail = some (x,[]):=by
  rcases ht with ⟨rfl,rfl⟩ | rfl
  ·rfl
  ·exact expR_told x
 have hh:tail.head? ≠ some 46:=by
  rcases ht with ⟨rfl,_⟩ | rfl
  ·simp
  ·unfold expoT; simp
 cases w with
 | nil=>exact absurd rfl hne
 | cons c w=>
  have hc:dgB c = true:=dgB_iff.2 (hw c List.mem_cons_self);obtain ⟨r1,r2⟩:=read_head (s:=s) (c:=c) (t:=w ++ ((if dot = true then 46 :: p else []) ++ tail)) hc;rw [List.cons_append];unfold readL;simp only [r1,r2];have e0:c :: (w ++ ((if dot = true then 46 :: p else []) ++ tail)) = (c :: w) ++ ((if dot = true then 46 :: p else []) ++ tail):=rfl;rw [e0]
  cases dot with
  | false=>
   have hp0:=hdot rfl;subst hp0;have e1:(if false = true then 46 :: ([]:List UInt8) else []) ++ tail = tail:=rfl;rw [e1];obtain ⟨d1,d2⟩:=dgs_app hw htail;rw [d1,d2,if_neg hh,if_neg hh,List.append_nil,if_neg (by simp),hx];simp only [bl_nil,if_true]
  | true=>
   have e1:(if true = true then 46 :: p else []) ++ tail = 46 :: (p ++ tail):=rfl;rw [e1];obtain ⟨d1,d2⟩:=dgs_app (r:=46 :: (p ++ tail)) hw (fun c t e=>by rw [<- (List.cons.inj e).1]; decide);obtain ⟨d3,d4⟩:=dgs_app hp htail;rw [d1,d2,if_pos (show (46 :: (p ++ tail)).head? = some 46 from rfl),if_pos (show (46 :: (p ++ tail)).head? = some 46 from rfl),List.drop_succ_cons,List.drop_zero,d3,d4,if_neg (by simp),hx];simp only [bl_nil,if_true]
theorem fit_of {n:Nm} (h:fitsN n = true):fitO n = some n:=if_pos h
theorem mk_shift {n:Nm} (h:OkN n) (j:Nat):∃ n',fitO (mkN n.s (n.m * 10 ^ j) (n.e - j)) = some n'/\sameN n n'/\n'.C:=by
 by_cases h0:n.m = 0
 ·have hn:=h.c h0
  have e:mkN n.s (n.m * 10 ^ j) (n.e - j) = nz:=by rw [h0,Nat.zero_mul]; rfl
  rw [e,hn];exact ⟨nz,rfl,sameN.refl _,C_nz⟩
 ·have hp:n.m * 10 ^ j ≠ 0:=by have:=Nat.mul_pos (Nat.pos_of_ne_zero h0) (pow_pos' j); omega
  have hl:=lenD_shift (Nat.pos_of_ne_zero h0) j;rw [mk_s hp];have hf:=h.fit;have ha:adjN ⟨n.s,n.m * 10 ^ j,n.e - j⟩ = adjN n:=by
   unfold adjN;simp only;rw [hl];omega
  have:fitsN ⟨n.s,n.m * 10 ^ j,n.e - j⟩ = true:=by
   unfold fitsN at hf ⊢;rw [ha];rw [decide_eq_false h0,Bool.false_or] at hf;rw [hf,Bool.or_true]
  refine ⟨_,fit_of this,⟨n.e - j,by omega,Int.le_refl _,?_⟩,fun e=>absurd e hp⟩;unfold svN upN;simp only;rw [show (n.e - (n.e - (j:Int))).toNat = j by omega,show (n.e - (j:Int) - (n.e - (j:Int))).toNat = 0 by omega,Nat.pow_zero,Nat.mul_one]
theorem read_told {n:Nm} {s:SetM} (h:OkN n):∃ n',readL (toldL n s) = some n'/\sameN n n'/\n'.C:=by
 have hlen:(digL n.m).length = lenD n.m:=rfl;have expo:∀ k,0 < k->∃ n',readL ((if n.s = true then [45] else []) ++ expoL n k) = some n'/\sameN n n'/\n'.C:=by
  intro k hk;unfold expoL;have hd:Dg (digL n.m ++ zerosL (k - lenD n.m)):=(digL_dg _).app (dg_rep _);have hl:(digL n.m ++ zerosL (k - lenD n.m)).length = lenD n.m + (k - lenD n.m):=by rw [List.length_append,List.length_replicate]
  have hv:valL (digL n.m ++ zerosL (k - lenD n.m)) = n.m * 10 ^ (k - lenD n.m):=by rw [valL_shift,valL_dig]
  have hlp:=lenD_pos n.m;generalize hds:digL n.m ++ zerosL (k - lenD n.m) = ds at *;have hdrop:decide (k < ds.length) = false->ds.drop k = []:=fun e=>List.drop_of_length_le (by have:=of_decide_eq_false e; omega)
  have:=read_form (s:=n.s) (w:=ds.take k) (p:=ds.drop k) (x:=adjN n - k + 1) (tail:=expoT (adjN n - k + 1)) (hd.take k) (fun e=>by have:=congrArg List.length e; rw [List.length_take,List.length_nil] at this; omega) (hd.drop k) (.inr rfl) (decide (k < ds.length)) hdrop;simp only [decide_eq_true_eq] at this;rw [this,List.take_append_drop,hv,List.length_drop,hl];have e:adjN n - (k:Int) + 1 - ((lenD n.m + (k - lenD n.m) - k:Nat):Int) = n.e - ((k - lenD n.m:Nat):Int):=by unfold adjN; omega
  rw [e];exact mk_shift h _
 unfold toldL
 by_cases hc:n.m = 0 \/ (adjN n < s.digits/\-2 * s.digits <= n.e)
 ·rw [if_pos hc]
  unfold plainL
  by_cases he:0 <= n.e
  ·rw [if_pos he]
   have:=read_form (s:=n.s) (w:=digL n.m ++ zerosL n.e.toNat) (p:=[]) (x:=0) (tail:=[]) ((digL_dg _).app (dg_rep _)) (by simp [digL_ne]) Dg.nil (.inl ⟨rfl,rfl⟩) false (fun _=>rfl);simp only [Bool.false_eq_true,if_false,List.append_nil,List.nil_append,List.length_nil] at this;rw [this,valL_shift,valL_dig];have:=mk_shift h n.e.toNat;rw [show n.e - (n.e.toNat:Int) = 0 by omega] at this
   simpa using this
  ·rw [if_neg he]
   have hl:(zerosL (1 - n.e - lenD n.m).toNat ++ digL n.m).length = (1 - n.e - lenD n.m).toNat + lenD n.m:=by rw [List.length_append,List.length_replicate]
   have hd:Dg (zerosL (1 - n.e - lenD n.m).toNat ++ digL n.m):=(dg_rep _).app (digL_dg _);have hv:valL (zerosL (1 - n.e - lenD n.m).toNat ++ digL n.m) = n.m:=by rw [valL_zeros,valL_dig]
   generalize zerosL (1 - n.e - lenD n.m).toNat ++ digL n.m = ds at *;have hlp:=lenD_pos n.m;generalize hat:((ds.length:Int) + n.e).toNat = at_ at *;have:=read_form (s:=n.s) (w:=ds.take at_) (p:=ds.drop at_) (x:=0) (tail:=[]) (hd.take _) (fun e=>by have:=congrArg List.length e; rw [List.length_take,List.length_nil] at this; omega) (hd.drop _) (.inl ⟨rfl,rfl⟩) true (fun e=>by cases e);simp only [if_true,List.append_nil] at this;rw [this,List.take_append_drop,hv,List.length_drop];have e:(0:Int) - ((ds.length - at_:Nat):Int) = n.e - ((0:Nat):Int):=by omega
   rw [e];have:=mk_shift h 0;rw [Nat.pow_zero,Nat.mul_one] at this;exact this
 ·rw [if_neg hc]
  by_cases hf:s.form = 1
  ·rw [if_pos hf]; exact expo _ (by omega)
  ·rw [if_neg hf]; exact expo 1 (by omega)
end
end Go.Proofs.YtmideenmlhbdjaaGreatDoor
