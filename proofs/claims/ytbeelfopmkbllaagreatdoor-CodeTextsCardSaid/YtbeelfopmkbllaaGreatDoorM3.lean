/- Texts joined: Q7, Q8, Q9, Q10, Q11, Q12, Q13, Q14, Ty, Q15, Q16, Q17, C1, C2, Q18, C3, C4, C5, C6, C7, C8. -/
import Derived.Test.YtbeelfopmkbllaaGreatDoorM0
import Derived.Below
import Derived.Laws.AppendOwn
import Derived.IntWalk
import GoSem.Extern.BytealgIndexByte
import Derived.Test.YtbeelfopmkbllaaGreatDoorM2
import Derived.Laws.Bits128
import Derived.Laws.Shifts
import Derived.Lib.Bytealg
import Derived.Lib.ConvBytes
import Derived.Lib.Builder
import Derived.Lib.AppendStr
import Derived.Lib.UnsafeStr
set_option linter.unusedSimpArgs false
set_option linter.unusedVariables false
set_option linter.unusedSectionVars false
set_option maxRecDepth 100000
namespace Go.Proofs.YtbeelfopmkbllaaGreatDoor
open Go Q Go.RowKit
open _root_.List
abbrev RP:=Value->World->Prop
section
abbrev Z:=Nat->Option Obj
abbrev Bl:=List (Nat × Obj)
def Sub (z:Z) (w:World):Prop:=∀ b o,z b = some o->w.heap[b]? = some o
def Le (z z':Z):Prop:=∀ b o,z b = some o->z' b = some o
theorem Le.refl (z:Z):Le z z:=fun _ _ h=>h
theorem Le.trans {a b c:Z} (h:Le a b) (h':Le b c):Le a c:=fun _ _ hh=>h' _ _ (h _ _ hh)
def ids (B:Bl):List Nat:=B.map (·.1)
class Res (w0:outParam World) (z0:outParam Z) (B0:outParam Bl) (w:World) (z:outParam Z) (L:outParam Bl):Prop where
 os:w.os = w0.os
 tape:w.tape = w0.tape
 output:w.output = w0.output
 size:w0.heap.size <= w.heap.size
 base:∀ b,b < w0.heap.size->b ∉ ids B0->w.heap[b]? = w0.heap[b]?
 sub:Sub z w
 zle:Le z0 z
 znew:∀ b,z b ≠ none->z0 b ≠ none \/ w0.heap.size <= b \/ b ∈ ids B0
 mem:∀ p ∈ L,w.heap[p.1]? = some p.2/\z p.1 = none/\(w0.heap.size <= p.1 \/ p.1 ∈ ids B0)
 nodup:(ids L).Nodup
abbrev Own (w:World) (z:Z) (B:Bl):Prop:=Res w z B w z B
theorem oZ {B:Bl} {p:Nat × Obj} (h:p ∈ B):p.1 ∈ ids B:=List.mem_map.2 ⟨p,h,rfl⟩
theorem Own.mk' {w:World} {z:Z} {B:Bl} (h1:Sub z w) (h2:∀ p ∈ B,w.heap[p.1]? = some p.2/\z p.1 = none) (h3:(ids B).Nodup):Own w z B:=
 ⟨rfl,rfl,rfl,Nat.le_refl _,fun _ _ _=>rfl,h1,Le.refl _,fun b h=>.inl h,fun p hp=>⟨(h2 p hp).1,(h2 p hp).2,.inr (oZ hp)⟩,h3⟩
theorem co {w:World} {b:Nat} {o:Obj} (h:w.heap[b]? = some o):b < w.heap.size:=(Array.getElem?_eq_some_iff.1 h).1
section
variable {w0 w w':World} {z0 z z':Z} {B0 B B' L F:Bl} {b:Nat} {o:Obj}
theorem Res.drop (h:Res w0 z0 B0 w z L):Res w0 z0 B0 w z []:={ h with mem:=fun _ hp=>(by cases hp),nodup:=.nil }
theorem Res.sublist (h:Res w0 z0 B0 w z L) {L':Bl} (hs:L'.Sublist L):Res w0 z0 B0 w z L':=
 { h with mem:=fun p hp=>h.mem p (hs.subset hp),nodup:=(hs.map _).nodup h.nodup }
theorem Res.perm (h:Res w0 z0 B0 w z L) {L':Bl} (hs:L.Perm L'):Res w0 z0 B0 w z L':=
 { h with mem:=fun p hp=>h.mem p (hs.mem_iff.2 hp),nodup:=(hs.map _).nodup_iff.1 h.nodup }
theorem Res.own (h:Res w0 z0 B0 w z (B ++ F)):Own w z B:=
 Own.mk' h.sub (fun p hp=>⟨(h.mem p (mem_append_left _ hp)).1,(h.mem p (mem_append_left _ hp)).2.1⟩) (by
  have:=h.nodup;simp only [ids,map_append] at this;exact (List.nodup_append.1 this).1)
theorem Res.step (h:Res w0 z0 B0 w z (B ++ F)) (k:Res w z B w' z' B'):Res w0 z0 B0 w' z' (B' ++ F) where
 os:=k.os.trans h.os
 tape:=k.tape.trans h.tape
 output:=k.output.trans h.output
 size:=Nat.le_trans h.size k.size
 base:=fun b hb hn=>by
  have hb':b < w.heap.size:=Nat.lt_of_lt_of_le hb h.size;rw [k.base b hb' fun hB=>?_,h.base b hb hn];obtain ⟨p,hp,rfl⟩:=List.mem_map.1 hB
  rcases (h.mem p (mem_append_left _ hp)).2.2 with hh | hh
  ·omega
  ·exact hn hh
 sub:=k.sub
 zle:=h.zle.trans k.zle
 znew:=fun b hb=>by
  rcases k.znew b hb with hh | hh | hh
  ·exact h.znew b hh
  ·exact .inr (.inl (Nat.le_trans h.size hh))
  ·obtain ⟨p,hp,rfl⟩:=List.mem_map.1 hh
   exact .inr (h.mem p (mem_append_left _ hp)).2.2
 mem:=fun p hp=>by
  rcases List.mem_append.1 hp with hp | hp
  ·obtain ⟨h1,h2,h3⟩:=k.mem p hp
   refine ⟨h1,h2,?_⟩
   rcases h3 with hh | hh
   ·exact .inl (Nat.le_trans h.size hh)
   ·obtain ⟨q,hq,hqp⟩:=List.mem_map.1 hh
    rw [<- hqp];exact (h.mem q (mem_append_left _ hq)).2.2
  ·obtain ⟨h1,h2,h3⟩:=h.mem p (mem_append_right _ hp)
   have hlt:=co h1;have hnB:p.1 ∉ ids B:=fun hB=>by
    have:=h.nodup;simp only [ids,map_append] at this;exact (List.nodup_append.1 this).2.2 _ hB _ (oZ hp) rfl
   refine ⟨by rw [k.base _ hlt hnB]; exact h1,?_,h3⟩
   cases hz:z' p.1 with
   | none=>rfl
   | some o=>
    rcases k.znew p.1 (by rw [hz]; simp) with hh | hh | hh
    ·exact absurd h2 hh
    ·omega
    ·exact absurd hh hnB
 nodup:=by
  simp only [ids,map_append];refine List.nodup_append.2 ⟨k.nodup,?_,fun a ha b hb hab=>?_⟩
  ·have:=h.nodup
   simp only [ids,map_append] at this;exact (List.nodup_append.1 this).2.1
  ·subst hab
   obtain ⟨p,hp,rfl⟩:=List.mem_map.1 ha;obtain ⟨q,hq,hqp⟩:=List.mem_map.1 hb;have hq':=h.mem q (mem_append_right _ hq)
   rcases (k.mem p hp).2.2 with hh | hh
   ·have:=co hq'.1
    omega
   ·have:=h.nodup
    simp only [ids,map_append] at this;exact (List.nodup_append.1 this).2.2 _ hh _ (oZ hq) hqp.symm
theorem Res.call1 (h:Res w0 z0 B0 w z L) (k:Res w z [] w' z' []):Res w0 z0 B0 w' z' L:=Res.step (B:=[]) (B':=[]) h k
theorem Res.new (h:Res w0 z0 B0 w z L) (o:Obj):Res w0 z0 B0 { w with heap:=w.heap.push o } z ((w.heap.size,o) :: L):=by
 refine Res.step (B:=[]) (B':=[(w.heap.size,o)]) h ⟨rfl,rfl,rfl,by simp,fun b hb _=>?_,fun b o' hz=>?_,Le.refl _,fun b hb=>.inl hb,fun p hp=>?_,by simp [ids]⟩
 ·simp [Array.getElem?_push,Nat.ne_of_lt hb]
 ·have:=co (h.sub b o' hz)
  simp [Array.getElem?_push,Nat.ne_of_lt this];exact h.sub b o' hz
 ·simp only [mem_singleton] at hp
  subst hp;refine ⟨by simp,?_,.inl (Nat.le_refl _)⟩
  cases hz:z w.heap.size with
  | none=>rfl
  | some o'=>have:=co (h.sub _ _ hz); omega
theorem Res.put (h:Res w0 z0 B0 w z ((b,o) :: L)) (o':Obj) {wn:World} (hw:wn = { w with heap:=w.heap.setIfInBounds b o' }):Res w0 z0 B0 wn z ((b,o') :: L):=by
 subst hw;have hb:=h.mem (b,o) mem_cons_self;have hlt:=co hb.1;have hk:Own w z [(b,o)]:=Res.own (F:=L) h;refine Res.step (B:=[(b,o)]) (B':=[(b,o')]) h ⟨rfl,rfl,rfl,by simp,fun c hc hn=>?_,fun c o'' hz=>?_,Le.refl _,fun c hc=>.inl hc,fun p hp=>?_,by simp [ids]⟩
 ·have:b ≠ c:=fun e=>hn (by simp [ids,e])
  simp [Array.getElem?_setIfInBounds_ne this]
 ·have:b ≠ c:=fun e=>by rw [e] at hb; rw [hb.2.1] at hz; cases hz
  simp [Array.getElem?_setIfInBounds_ne this];exact h.sub c o'' hz
 ·simp only [mem_singleton] at hp
  subst hp;exact ⟨by simp [hlt],hb.2.1,.inr (by simp [ids])⟩
theorem Res.freeze (h:Res w0 z0 B0 w z ((b,o) :: L)):Res w0 z0 B0 w (fun c=>if c = b then some o else z c) L:=by
 have hb:=h.mem (b,o) mem_cons_self;refine { h with sub:=fun c o' hc=>?_,zle:=fun c o' hc=>?_,znew:=fun c hc=>?_,mem:=fun p hp=>?_,nodup:=?_ }
 ·by_cases hcb:c = b
  ·simp only [hcb,if_true,Option.some.injEq] at hc; subst hc; rw [hcb]; exact hb.1
  ·simp only [hcb,if_false] at hc; exact h.sub c o' hc
 ·by_cases hcb:c = b
  ·have:=h.zle c o' hc; rw [hcb,hb.2.1] at this; cases this
  ·simp only [hcb,if_false]; exact h.zle c o' hc
 ·by_cases hcb:c = b
  ·rw [hcb]; exact .inr hb.2.2
  ·simp only [hcb,if_false] at hc; exact h.znew c hc
 ·have hp':=h.mem p (mem_cons_of_mem _ hp)
  have hne:p.1 ≠ b:=fun e=>by
   have:=h.nodup;simp only [ids,map_cons,nodup_cons] at this;exact this.1 (e ▸ oZ hp)
  exact ⟨hp'.1,by simp only [hne,if_false]; exact hp'.2.1,hp'.2.2⟩
 ·have:=h.nodup
  simp only [ids,map_cons,nodup_cons] at this;exact this.2
theorem Res.freeze_le (h:Res w0 z0 B0 w z ((b,o) :: L)):Le z (fun c=>if c = b then some o else z c):=fun c o' hc=>by
 by_cases hcb:c = b
 ·rw [hcb,(h.mem (b,o) mem_cons_self).2.1] at hc; cases hc
 ·simp only [hcb,if_false]; exact hc
theorem Res.drew (h:Res w0 z0 B0 w z L):Res w0 z0 B0 { w with drawn:=w.drawn + 1 } z L:={ h with }
theorem Res.below (h:Res w0 z0 [] w z L):Below w0.heap.size w0 w:=⟨h.os,h.tape,h.output,h.size,fun b hb=>h.base b hb (by simp [ids])⟩
end
def Fn1 (f:FuncId) (args:Array Value) (z:Z) (w:World) (R:Z->Value->Prop):Prop:=
 Own w z []->Calls Tryz.prog f args w (retK fun v w'=>∃ z',Res w z [] w' z' []/\R z' v)
def Fn (f:FuncId) (args:Array Value) (z:Z) (B:Bl) (w:World) (R:Z->Bl->Value->Prop):Prop:=
 Own w z B->Calls Tryz.prog f args w (retK fun v w'=>∃ z' B',Res w z B w' z' B'/\R z' B' v)
def Va1 (f:Value) (args:Array Value) (z:Z) (w:World) (R:Z->Value->Prop):Prop:=
 Own w z []->CV f args w (fun v w'=>∃ z',Res w z [] w' z' []/\R z' v)
def Va (f:Value) (args:Array Value) (z:Z) (B:Bl) (w:World) (R:Z->Bl->Value->Prop):Prop:=
 Own w z B->CV f args w (fun v w'=>∃ z' B',Res w z B w' z' B'/\R z' B' v)
class aD (f:FuncId):Prop where
 h:∀ args w,(callFunc f args).run Tryz.prog w = .ok (.enter f args) w
theorem mr {f:FuncId} [he:aD f] {first args cap args':Array Value} {w:World} {K:RP} (ha:first ++ args ++ cap = args') (h:Calls Tryz.prog f args' w (retK K)) :
  CV (.func (.func f) first cap) args w K:=by
 subst ha;have:(dK (.func (.func f) first cap) args).run Tryz.prog w = .ok (.enter f (first ++ args ++ cap)) w:=by
  simp only [dK,Deferred.ofValue,pure_bind,invoke];exact he.h _ _
 unfold CV CallV;rw [this];exact h
section
variable {w0 w:World} {z0 z:Z} {B0 B L F:Bl} {f:FuncId} {args args' first cap:Array Value} {K:RP}
theorem we [aD f] (hS:Res w0 z0 B0 w z L) {R:Z->Value->Prop} (h:Fn1 f args' z w R) (ha:first ++ args ++ cap = args') (hK:∀ z' w' v,Le z z'->Res w0 z0 B0 w' z' L->R z' v->K v w') :
  CV (.func (.func f) first cap) args w K:=by
 refine mr ha ?_;refine Calls.mono (h (Res.own (B:=[]) hS)) ?_;refine retK.mono ?_;rintro v w' ⟨z',h1,h2⟩
 exact hK z' w' v h1.zle (hS.call1 h1) h2
theorem bO [aD f] (hS:Res w0 z0 B0 w z (B ++ F)) {R:Z->Bl->Value->Prop} (h:Fn f args' z B w R) (ha:first ++ args ++ cap = args') (hK:∀ z' B' w' v,Le z z'->Res w0 z0 B0 w' z' (B' ++ F)->R z' B' v->K v w') :
  CV (.func (.func f) first cap) args w K:=by
 refine mr ha ?_;refine Calls.mono (h hS.own) ?_;refine retK.mono ?_;rintro v w' ⟨z',B',h1,h2⟩
 exact hK z' B' w' v h1.zle (hS.step h1) h2
theorem Ah {g:Value} (hS:Res w0 z0 B0 w z L) {R:Z->Value->Prop} (h:Va1 g args z w R) (hK:∀ z' w' v,Le z z'->Res w0 z0 B0 w' z' L->R z' v->K v w'):CV g args w K:=by
 refine CallV.mono (h (Res.own (B:=[]) hS)) ?_;rintro v w' ⟨z',h1,h2⟩
 exact hK z' w' v h1.zle (hS.call1 h1) h2
theorem oQ {g:Value} (hS:Res w0 z0 B0 w z (B ++ F)) {R:Z->Bl->Value->Prop} (h:Va g args z B w R) (hK:∀ z' B' w' v,Le z z'->Res w0 z0 B0 w' z' (B' ++ F)->R z' B' v->K v w'):CV g args w K:=by
 refine CallV.mono (h hS.own) ?_;rintro v w' ⟨z',B',h1,h2⟩
 exact hK z' B' w' v h1.zle (hS.step h1) h2
theorem Fn1.va [aD f] {R:Z->Value->Prop} (h:Fn1 f args' z w R) (ha:first ++ args ++ cap = args'):Va1 (.func (.func f) first cap) args z w R:=
 fun ho=>mr ha (h ho)
theorem Fn.va [aD f] {R:Z->Bl->Value->Prop} (h:Fn f args' z B w R) (ha:first ++ args ++ cap = args'):Va (.func (.func f) first cap) args z B w R:=
 fun ho=>mr ha (h ho)
end
end
section
class Get (l:List Value) (i:Nat) (v:outParam Value):Prop where
 h:l[i]? = some v
instance (priority:=900) Get.tail {x:Value} {l:List Value} {i:Nat} {v:Value} [g:Get l i v]:Get (x :: l) (i + 1) v:=⟨by simpa using g.h⟩
instance Get.head {v:Value} {l:List Value}:Get (v :: l) 0 v:=⟨rfl⟩
class GetN (l:List Value) (i n:Nat) (vs:outParam (List Value)):Prop where
 len:vs.length = n
 h:∀ j v,vs[j]? = some v->l[i + j]? = some v
instance GetN.nil {l:List Value}:GetN l 0 0 []:=⟨rfl,fun j v h=>by simp at h⟩
instance GetN.cons {x:Value} {l vs:List Value} {n:Nat} [g:GetN l 0 n vs]:GetN (x :: l) 0 (n + 1) (x :: vs):=⟨by simp [g.len],fun j v h=>by
 cases j with
 | zero=>simpa using h
 | succ j=>have:=g.h j v (by simpa using h); simpa [Nat.add_comm,Nat.add_assoc] using this⟩
instance (priority:=900) GetN.skip {x:Value} {l vs:List Value} {i n:Nat} [g:GetN l i n vs]:GetN (x :: l) (i + 1) n vs:=⟨g.len,fun j v h=>by
 have:=g.h j v h;rw [show i + 1 + j = (i + j) + 1 by omega]
 simpa using this⟩
class SetN (l:List Value) (i:Nat) (vs:List Value) (l':outParam (List Value)):Prop where
 len:l'.length = l.length
 bound:i + vs.length <= l.length
 inn:∀ j v,vs[j]? = some v->l'[i + j]? = some v
 out:∀ k,k < i \/ i + vs.length <= k->l'[k]? = l[k]?
instance SetN.nil {l:List Value}:SetN l 0 [] l:=⟨rfl,by simp,fun j v h=>by simp at h,fun _ _=>rfl⟩
instance SetN.cons {x v:Value} {l vs l':List Value} [g:SetN l 0 vs l']:SetN (x :: l) 0 (v :: vs) (v :: l') where
 len:=by simp [g.len]
 bound:=by have:=g.bound; simp at this ⊢; omega
 inn:=fun j u h=>by
  cases j with
  | zero=>simpa using h
  | succ j=>have:=g.inn j u (by simpa using h); simpa [Nat.add_comm,Nat.add_assoc] using this
 out:=fun k hk=>by
  cases k with
  | zero=>simp at hk
  | succ k=>simpa using g.out k (.inr (by simp at hk; omega))
instance (priority:=900) SetN.skip {x:Value} {l vs l':List Value} {i:Nat} [g:SetN l i vs l']:SetN (x :: l) (i + 1) vs (x :: l') where
 len:=by simp [g.len]
 bound:=by have:=g.bound; simp at this ⊢; omega
 inn:=fun j u h=>by
  rw [show i + 1 + j = (i + j) + 1 by omega]
  simpa using g.inn j u h
 out:=fun k hk=>by
  cases k with
  | zero=>rfl
  | succ k=>simpa using g.out k (by omega)
class cQ (v:Value) (vs:outParam (List Value)):Prop where
 h:v.cells = vs.toArray
instance {l:List Value}:cQ (.agg l.toArray) l:=⟨rfl⟩
instance {k:IntKind} {n:Int}:cQ (.int k n) [.int k n]:=⟨rfl⟩
instance {b:Bool}:cQ (.bool b) [.bool b]:=⟨rfl⟩
instance {s:ByteArray}:cQ (.string s) [.string s]:=⟨rfl⟩
instance {a:Option Addr}:cQ (.pointer a) [.pointer a]:=⟨rfl⟩
instance {a:Option Addr} {n c:Nat}:cQ (.slice a n c) [.slice a n c]:=⟨rfl⟩
instance {r:Option Nat}:cQ (.map r) [.map r]:=⟨rfl⟩
instance {fn:Go.Fn} {a c:Array Value}:cQ (.func fn a c) [.func fn a c]:=⟨rfl⟩
def gB:Value->Bool
 | .agg _=>false
 | .tuple _=>false
 | _=>true
class tL (vs:List Value):Prop where
 h:∀ v ∈ vs,gB v = true
instance:tL []:=⟨fun _ h=>by cases h⟩
class One (v:Value):Prop where
 h:gB v = true
instance {k:IntKind} {n:Int}:One (.int k n):=⟨rfl⟩
instance {b:Bool}:One (.bool b):=⟨rfl⟩
instance {s:ByteArray}:One (.string s):=⟨rfl⟩
instance {a:Option Addr}:One (.pointer a):=⟨rfl⟩
instance {a:Option Addr} {n c:Nat}:One (.slice a n c):=⟨rfl⟩
instance {r:Option Nat}:One (.map r):=⟨rfl⟩
instance {fn:Go.Fn} {a c:Array Value}:One (.func fn a c):=⟨rfl⟩
instance {v:Value} {vs:List Value} [a:One v] [b:tL vs]:tL (v :: vs):=⟨fun u hu=>by
 rcases List.mem_cons.1 hu with rfl | hu
 ·exact a.h
 ·exact b.h u hu⟩
class Blk (L:Bl) (b:Nat) (o:outParam Obj) (C:outParam (Obj->Bl)):Prop where
 h:L.Perm ((b,o) :: (C o).tail) \/ True
 perm:∃ R:Bl,L.Perm ((b,o) :: R)/\∀ o',(C o').Perm ((b,o') :: R)
instance Blk.head {b:Nat} {o:Obj} {L:Bl}:Blk ((b,o) :: L) b o (fun o'=>(b,o') :: L):=⟨.inr trivial,L,.refl _,fun _=>.refl _⟩
instance (priority:=900) Blk.tail {b:Nat} {o:Obj} {L:Bl} {C:Obj->Bl} {p:Nat × Obj} [g:Blk L b o C]:Blk (p :: L) b o (fun o'=>p :: C o'):=⟨.inr trivial,by
 obtain ⟨R,h1,h2⟩:=g.perm;exact ⟨p :: R,(h1.cons p).trans (.swap _ _ _),fun o'=>((h2 o').cons p).trans (.swap _ _ _)⟩⟩
instance (priority:=800) Blk.app {b:Nat} {o:Obj} {A L:Bl} {C:Obj->Bl} [g:Blk L b o C]:Blk (A ++ L) b o (fun o'=>A ++ C o'):=⟨.inr trivial,by
 obtain ⟨R,h1,h2⟩:=g.perm;exact ⟨A ++ R,(h1.append_left A).trans perm_middle,fun o'=>((h2 o').append_left A).trans perm_middle⟩⟩
section
variable {w0 w w':World} {z0 z z':Z} {B0 B B' L F:Bl} {b:Nat} {o:Obj} {C:Obj->Bl} {K:RP}
theorem Res.at_ (h:Res w0 z0 B0 w z L) [g:Blk L b o C]:w.heap[b]? = some o:=by
 obtain ⟨R,h1,_⟩:=g.perm;exact (h.mem (b,o) (h1.mem_iff.2 mem_cons_self)).1
theorem Res.set (h:Res w0 z0 B0 w z L) [g:Blk L b o C] (o':Obj) {wn:World} (hw:wn = { w with heap:=w.heap.setIfInBounds b o' }):Res w0 z0 B0 wn z (C o'):=by
 obtain ⟨R,h1,h2⟩:=g.perm;exact (Res.put (h.perm h1) o' hw).perm (h2 o').symm
theorem Res.ge (h:Res w0 z0 B0 w z L) [g:Blk L b o C]:w0.heap.size <= b \/ b ∈ ids B0:=by
 obtain ⟨R,h1,_⟩:=g.perm;exact (h.mem (b,o) (h1.mem_iff.2 mem_cons_self)).2.2
def At (h:Nat->Option Obj) (b off:Nat) (vs:List Value):Prop:=∃ c ty fr,h b = some (.cells c ty fr)/\∀ j v,vs[j]? = some v->c[off + j]? = some v
abbrev hp (w:World):Nat->Option Obj:=fun b=>w.heap[b]?
theorem At.mono {z z':Z} {off:Nat} {vs:List Value} (h:At z b off vs) (hz:Le z z'):At z' b off vs:=let ⟨c,ty,fr,h1,h2⟩:=h; ⟨c,ty,fr,hz _ _ h1,h2⟩
theorem At.world {off:Nat} {vs:List Value} (h:At z b off vs) (hs:Sub z w):At (hp w) b off vs:=let ⟨c,ty,fr,h1,h2⟩:=h; ⟨c,ty,fr,hs _ _ h1,h2⟩
theorem At.cell {off:Nat} {vs:List Value} (h:At (hp w) b off vs) {j:Nat} {v:Value} (hv:vs[j]? = some v):w.cell? ⟨b,off + j,none⟩ = some v:=by
 obtain ⟨c,ty,fr,h1,h2⟩:=h;unfold World.cell?;simp only [show w.heap[b]? = _ from h1,Option.isSome_none];exact h2 j v hv
theorem Res.atN (h:Res w0 z0 B0 w z L) {l:List Value} {ty:TypeId} {fr:Nat × Nat} [g:Blk L b (.cells l.toArray ty fr) C] {off n:Nat} {vs:List Value} [gn:GetN l off n vs]:At (hp w) b off vs:=
 ⟨_,_,_,h.at_ (C:=C),fun j v hv=>by simpa using gn.h j v hv⟩
theorem Res.at1 (h:Res w0 z0 B0 w z L) {l:List Value} {ty:TypeId} {fr:Nat × Nat} [g:Blk L b (.cells l.toArray ty fr) C] {off:Nat} {v:Value} [gn:Get l off v]:At (hp w) b off [v]:=
 ⟨_,_,_,h.at_ (C:=C),fun j u hu=>by
  cases j with
  | zero=>simp at hu; subst hu; simpa using gn.h
  | succ j=>simp at hu⟩
theorem dj (b off i:Nat):(⟨b,off,none⟩:Addr).add i = ⟨b,off + i,none⟩:=by
 unfold Addr.add
 split
 ·rename_i h; subst h; rfl
 ·rfl
end
class am (t:TypeId):Prop where
 agg:∀ w,(isAgg t).run Tryz.prog w = .ok false w
class bn (t:TypeId) (n:outParam Nat):Prop where
 agg:∀ w,(isAgg t).run Tryz.prog w = .ok true w
class aR (t:TypeId) (n:outParam Nat):Prop where
 size:∀ w,(sizeOf t).run Tryz.prog w = .ok n w
class bD (t:TypeId) (zs:outParam (List Value)):Prop where
 h:∃ v,v.cells = zs.toArray/\∀ w,(zeroValue t).run Tryz.prog w = .ok v w
class bF (t:TypeId) (e n:outParam Nat):Prop where
 und:∀ w,(underlying t).run Tryz.prog w = .ok (.slice e) w
 size:∀ w,(sizeOf e).run Tryz.prog w = .ok n w
class gR (t:TypeId) (k:outParam IntKind):Prop where
 und:∀ w,(underlying t).run Tryz.prog w = .ok (.int k) w
class kM (t:TypeId):Prop where
 und:∀ w,(underlying t).run Tryz.prog w = .ok .string w
class wV (t:TypeId):Prop where
 und:∀ w,(underlying t).run Tryz.prog w = .ok .bool w
class Fld (s i:Nat) (off:outParam Nat):Prop where
 h:∀ a w,(Instr.fieldAt s (.pointer (some a)) i).run Tryz.prog w = .ok (.pointer (some (a.add off))) w
class cN (t:TypeId) (zs:outParam (List Value)) (places:outParam (List (Nat × Nat))):Prop where
 h:∀ (parts:Array (Nat × Value)) w,(Instr.build t parts).run Tryz.prog w = Sem.run Tryz.prog (match Instr.fill (places.toArray[·]?) zs.toArray parts.toList with | some cells=>pure (.agg cells) | _=>stuck "build: no such field, or a part of the wrong size") w
class Run (s:Sem Value) (v:outParam Value):Prop where
 h:∀ w,s.run Tryz.prog w = .ok v w
section
variable {w0 w w':World} {z0 z z':Z} {B0 B B' L F:Bl} {b:Nat} {o:Obj} {C:Obj->Bl} {K:RP}
theorem aA {s:Sem Value} {v:Value} [g:Run s v] (h:K v w):V s w K:=⟨v,w,g.h w,h⟩
theorem aK {s:Sem Value} {v:Value} {K:Value->Prop} [g:Run s v] (h:K v):PV s K:=⟨v,g.h,h⟩
theorem kp {off n:Nat} {vs:List Value} (h:At (hp w) b off vs) (hl:vs.length = n):(loadCells ⟨b,off,none⟩ n).run Tryz.prog w = .ok vs.toArray w:=by
 have key:∀ (m i:Nat) (acc:Array Value),i + m = vs.length->(loadCellsFrom ⟨b,off,none⟩ i m acc).run Tryz.prog w = .ok (acc ++ (vs.drop i).toArray) w:=by
  intro m
  induction m with
  | zero=>intro i acc hi; simp only [loadCellsFrom]; rw [drop_of_length_le (by omega)]; simp [Sem.run]
  | succ m ih=>
   intro i acc hi;have hlt:i < vs.length:=by omega
   simp only [loadCellsFrom,Sem.run_bind,load,dj,Sem.run,h.cell (getElem?_eq_getElem hlt),Result.andThen_ok];rw [ih (i + 1) _ (by omega),drop_eq_getElem_cons hlt];simp
 unfold loadCells;rw [key n 0 #[] (by omega)];simp
theorem AX {t:TypeId} [g:am t] {off:Nat} {v:Value} (h:At (hp w) b off [v]) (hk:K v w):V (ld t (.pointer (some ⟨b,off,none⟩))) w K:=by
 refine ⟨v,w,?_,hk⟩;have:=h.cell (j:=0) (v:=v) rfl;simp only [ld,Instr.loadAt,Instr.sureAddr,pure_bind,loadVar,Sem.run_bind,g.agg,Result.andThen_ok,Bool.false_eq_true,if_false,load,Sem.run];simp only [Nat.add_zero] at this;rw [this]
theorem ut {t n:Nat} [g:bn t n] [gs:aR t n] {off:Nat} {vs:List Value} (h:At (hp w) b off vs) (hl:vs.length = n) (hk:K (.agg vs.toArray) w):V (ld t (.pointer (some ⟨b,off,none⟩))) w K:=by
 refine ⟨_,w,?_,hk⟩;simp only [ld,Instr.loadAt,Instr.sureAddr,pure_bind,loadVar,Sem.run_bind,g.agg,Result.andThen_ok,if_true,gs.size,kp h hl]
 rfl
theorem tJ (hS:Res w0 z0 B0 w z L) {t:TypeId} [g:am t] {off:Nat} {v:Value} {l:List Value} {ty:TypeId} {fr:Nat × Nat} [Blk L b (.cells l.toArray ty fr) C] [Get l off v] (hk:K v w):V (ld t (.pointer (some ⟨b,off,none⟩))) w K:=
 AX hS.at1 hk
theorem AW (hS:Res w0 z0 B0 w z L) {t n:Nat} [g:bn t n] [gs:aR t n] {off:Nat} {vs:List Value} {l:List Value} {ty:TypeId} {fr:Nat × Nat} [Blk L b (.cells l.toArray ty fr) C] [gn:GetN l off n vs] (hk:K (.agg vs.toArray) w):V (ld t (.pointer (some ⟨b,off,none⟩))) w K:=
 ut (Res.atN (gn:=gn) hS) gn.len hk
theorem Bt (hS:Res w0 z0 B0 w z L) {t:TypeId} {zs:List Value} [g:bD t zs] (hk:∀ b w',w0.heap.size <= b->Res w0 z0 B0 w' z ((b,.cells zs.toArray t (0,0)) :: L)->K (.pointer (some ⟨b,0,none⟩)) w'):V (al t) w K:=by
 obtain ⟨v,h1,h2⟩:=g.h;refine ⟨_,_,?_,hk w.heap.size _ hS.size (hS.new (.cells zs.toArray t (0,0)))⟩;simp only [al,Instr.alloc,Sem.run_bind,h2,Result.andThen_ok,newVar,newRow,newObj,Sem.run,h1]
 rfl
theorem Da (hS:Res w0 z0 B0 w z L) {t:TypeId} {v:Value} {vs:List Value} [g:cQ v vs] (hk:∀ b w',w0.heap.size <= b->Res w0 z0 B0 w' z ((b,.cells vs.toArray t (0,0)) :: L)->K (.pointer (some ⟨b,0,none⟩)) w'):V (bx t v) w K:=by
 refine ⟨_,_,?_,hk w.heap.size _ hS.size (hS.new (.cells vs.toArray t (0,0)))⟩;simp only [bx,Instr.box,Sem.run_bind,newVar,newRow,newObj,Sem.run,Result.andThen_ok,g.h]
 rfl
def pG:List Value->Nat->List Value->List Value
 | l,_,[]=>l
 | l,i,v :: vs=>pG (l.set i v) (i + 1) vs
theorem pF:∀ (vs l:List Value) (i k:Nat),i + vs.length <= l.length->(pG l i vs)[k]? = if i <= k/\k < i + vs.length then vs[k - i]? else l[k]?
 | [],l,i,k,_=>by simp only [pG,length_nil,Nat.add_zero]; rw [if_neg (by omega)]
 | v :: vs,l,i,k,hb=>by
  simp only [length_cons] at hb;simp only [pG,length_cons];rw [pF vs (l.set i v) (i + 1) k (by simp; omega)]
  by_cases h1:i + 1 <= k/\k < i + 1 + vs.length
  ·rw [if_pos h1,if_pos (by omega),show k - i = (k - (i + 1)) + 1 by omega,getElem?_cons_succ]
  ·rw [if_neg h1]
   by_cases h2:k = i
   ·subst h2; rw [if_pos (by omega),Nat.sub_self,getElem?_set_self (by omega)]; rfl
   ·rw [if_neg (by omega),getElem?_set_ne (fun e=>h2 e.symm)]
theorem SetN.eq {l vs l':List Value} {i:Nat} (g:SetN l i vs l'):pG l i vs = l':=by
 refine ext_getElem? fun k=>?_
 rw [pF vs l i k g.bound]
 split
 ·rename_i h
  have hlt:k - i < vs.length:=by omega
  rw [getElem?_eq_getElem hlt];have:=g.inn (k - i) _ (getElem?_eq_getElem hlt);rw [show i + (k - i) = k by omega] at this;exact this.symm
 ·rename_i h; exact (g.out k (by omega)).symm
theorem kt {w:World} {b:Nat} {o:Obj} (h:w.heap[b]? = some o):w.heap.setIfInBounds b o = w.heap:=by
 apply Array.ext_getElem?
 intro i;rw [Array.getElem?_setIfInBounds]
 split
 ·rename_i hb; subst hb; rw [if_pos (co h),h]
 ·rfl
theorem jk {ty:TypeId}:∀ (vs l:List Value) (w:World) (off i:Nat),w.heap[b]? = some (.cells l.toArray ty (0,0))->off + i + vs.length <= l.length->(∀ v ∈ vs,gB v = true) ->
  (storeCells ⟨b,off,none⟩ vs i).run Tryz.prog w = .ok () { w with heap:=w.heap.setIfInBounds b (.cells (pG l (off + i) vs).toArray ty (0,0)) }
 | [],l,w,off,i,h,_,_=>by
  simp only [storeCells,pG,kt h]
  rfl
 | v :: vs,l,w,off,i,h,hb,ho=>by
  simp only [length_cons] at hb;have hv:=ho v mem_cons_self;have hcell:w.cell? ⟨b,off + i,none⟩ = some (l[off + i]'(by omega)):=by
   unfold World.cell?;simp only [h,Option.isSome_none];simp [getElem?_eq_getElem (show off + i < l.length by omega)]
  have hfr:w.frozen? ⟨b,off + i,none⟩ = false:=by
   unfold World.frozen?;simp [h]
  have hset:w.setCell ⟨b,off + i,none⟩ v = { w with heap:=w.heap.setIfInBounds b (.cells (l.set (off + i) v).toArray ty (0,0)) }:=by
   unfold World.setCell
   congr 1
   apply Array.ext_getElem?
   intro j;rw [Array.getElem?_modify,Array.getElem?_setIfInBounds]
   by_cases hj:b = j
   ·subst hj
    have hb':=(Array.getElem?_eq_some_iff.1 h).2;simp [co h,hb']
   ·simp [hj]
  have hrun:(store ⟨b,off + i,none⟩ v).run Tryz.prog w = .ok () { w with heap:=w.heap.setIfInBounds b (.cells (l.set (off + i) v).toArray ty (0,0)) }:=by
   rw [<- hset];unfold store
   cases v <;> simp only [gB] at hv <;> first | (cases hv; done) | (unfold Sem.run; simp [hcell,hfr,Sem.run])
  simp only [storeCells,dj,Sem.run_bind,hrun,Result.andThen_ok];rw [jk (ty:=ty) vs (l.set (off + i) v) _ off (i + 1) (by simp [co h]) (by simp; omega) (fun u hu=>ho u (mem_cons_of_mem _ hu))];simp only [Array.setIfInBounds_setIfInBounds,pG,Nat.add_assoc]
theorem Bu {K:World->Prop} (hS:Res w0 z0 B0 w z L) {t n off:Nat} {v:Value} {vs l l':List Value} {ty:TypeId} [g:Blk L b (.cells l.toArray ty (0,0)) C] [gs:aR t n] [gc:cQ v vs] [go:tL vs] (hn:vs.length = n) [gl:SetN l off vs l']
  (hk:∀ w',Res w0 z0 B0 w' z (C (.cells l'.toArray ty (0,0)))->K w'):U (st t (.pointer (some ⟨b,off,none⟩)) v) w K:=by
 refine ⟨_,?_,hk _ (Res.set (g:=g) hS (.cells l'.toArray ty (0,0)) rfl)⟩;have hsz:v.cells.size = n:=by rw [gc.h]; simpa using hn
 simp only [st,Instr.storeAt,Instr.sureAddr,pure_bind,storeVar,Sem.run_bind,gs.size,Result.andThen_ok,hsz,ne_eq,not_true_eq_false,if_false];rw [gc.h,jk vs l w off 0 (Res.at_ (g:=g) hS) (by have:=gl.bound; omega) go.h];rw [Nat.add_zero,gl.eq]
theorem Du {t n:Nat} [g:bn t n] [gs:aR t n] {off:Nat} {vs:List Value} {K:Value->Prop} (h:At (hp w) b off vs) (hl:vs.length = n) (hk:K (.agg vs.toArray)):CW t (.pointer (some ⟨b,off,none⟩)) w K:=by
 refine ⟨_,?_,hk⟩;simp only [loadVar,Sem.run_bind,g.agg,Result.andThen_ok,if_true,gs.size,kp h hl]
 rfl
end
end
section
class ja (t:TypeId) (n e s:outParam Nat):Prop where
 und:∀ w,(underlying t).run Tryz.prog w = .ok (.array n e) w
 size:∀ w,(sizeOf e).run Tryz.prog w = .ok s w
class fA (t:TypeId) (k e:outParam Nat):Prop where
 und:∀ w,(underlying t).run Tryz.prog w = .ok (.map k e) w
class fP (t:TypeId) (e size bytes:outParam Nat):Prop where
 und:Tryz.prog.underlying t = some (.slice e)
 info:∃ z:Value,(Tryz.prog.info? e).map (fun i=>(i.zero,i.size,i.bytes)) = some (some z,size,bytes)/\z.cells.size = size
 pos:0 < size
class Cy (s i:Nat) (off:outParam Nat):Prop where
 h:∀ cs w,(Instr.field s (.agg cs) i).run Tryz.prog w = Sem.run Tryz.prog (match cs[off]? with | some v=>pure v | none=>stuck "part: no such cell") w
theorem GetN.eq {l vs:List Value} {i n:Nat} (g:GetN l i n vs):(l.toArray.extract i (i + n)) = vs.toArray:=by
 apply Array.toList_inj.1
 simp only [Array.toList_extract,extract_eq_take_drop];refine ext_getElem? fun j=>?_
 simp only [Nat.add_sub_cancel_left];rw [getElem?_take]
 split
 ·rename_i hj
  have hlt:j < vs.length:=by rw [g.len]; exact hj
  rw [getElem?_drop,getElem?_eq_getElem hlt];exact g.h j _ (getElem?_eq_getElem hlt)
 ·rename_i hj
  rw [getElem?_eq_none (by rw [g.len]; omega)]
theorem qo (s:ByteArray):s.toList = s.data.toList:=by
 have key:∀ (k i:Nat) (r:List UInt8),s.size - i = k->ByteArray.toList.loop s i r = r.reverse ++ s.data.toList.drop i:=by
  intro k
  induction k with
  | zero=>
   intro i r hk;unfold ByteArray.toList.loop;have:¬ i < s.size:=by omega
   rw [if_neg this,drop_of_length_le (by simp [<- ByteArray.size_data] at *; omega)];simp
  | succ k ih=>
   intro i r hk;unfold ByteArray.toList.loop;have hlt:i < s.size:=by omega
   rw [if_pos hlt,ih (i + 1) _ (by omega)];have hl:i < s.data.toList.length:=by simpa using hlt
   rw [drop_eq_getElem_cons hl];simp only [reverse_cons,append_assoc,cons_append,nil_append]
   congr 2
   have:s.get! i = s.data[i]'(by simpa using hl):=by
    show s.data[i]! = _
    rw [getElem!_pos s.data i (by simpa using hl)]
   rw [this]; simp
 unfold ByteArray.toList;rw [key s.size 0 [] rfl];simp
theorem yq (a b:ByteArray):(a.toList == b.toList) = decide (a = b):=by
 rw [qo,qo]
 by_cases h:a = b
 ·subst h; simp
 ·rw [decide_eq_false h,beq_eq_false_iff_ne]
  intro hh
  apply h
  cases a; cases b
  simp only at hh;rw [Array.toList_inj.1 hh]
theorem tC (d:Nat) {t:Nat} {a b:Bool} [g:wV t] (w:World):(Op.equalIn (d + 1) t (.bool a) (.bool b)).run Tryz.prog w = .ok (a == b) w:=by
 simp only [Op.equalIn,Sem.run_bind,g.und,Result.andThen_ok]
 rfl
class nb (a b:Nat) (c:outParam Nat):Prop where
 h:a + b = c
instance (priority:=500) {a b:Nat}:nb a b (a + b):=⟨rfl⟩
instance (priority:=600) {a:Nat}:nb 0 a a:=⟨Nat.zero_add a⟩
instance (priority:=700) {a:Nat}:nb a 0 a:=⟨rfl⟩
instance {s i off b o c:Nat} [g:Fld s i off] [ga:nb o off c]:Run (fa s (.pointer (some ⟨b,o,none⟩)) i) (.pointer (some ⟨b,c,none⟩)):=⟨fun w=>by rw [<- ga.h,<- dj]; exact g.h _ w⟩
instance {s i off:Nat} {l:List Value} {v:Value} [g:Cy s i off] [gg:Get l off v]:Run (fl s (.agg l.toArray) i) v:=⟨fun w=>by rw [show fl s (.agg l.toArray) i = Instr.field s (.agg l.toArray) i from rfl,g.h]; simp [gg.h]⟩
instance {t e n ty len cap:Nat} {a:Option Addr} [g:bF t e n]:Run (Builtin.len_ #[t] ty #[.slice a len cap]) (.int .i64 len):=⟨fun w=>by
 simp [Builtin.len_,Sem.run_bind,g.und,goInt]⟩
instance {t ty:Nat} {s:ByteArray} [g:kM t]:Run (Builtin.len_ #[t] ty #[.string s]) (.int .i64 s.size):=⟨fun w=>by
 simp [Builtin.len_,Sem.run_bind,g.und,goInt]⟩
instance {b:Bool}:Run (un .not (.bool b)) (.bool (!b)):=⟨fun _=>rfl⟩
instance {k:IntKind} {n:Int}:Run (un .neg (.int k n)) (.int k (k.wrap (0 - n))):=⟨fun _=>rfl⟩
instance {t:Nat} {k:IntKind} {a b:Int}:Run (bi .lss t (.int k a) (.int k b)) (.bool (decide (a < b))):=⟨fun _=>by simp [bi,binOp,Op.intCmp]⟩
instance {t:Nat} {k:IntKind} {a b:Int}:Run (bi .leq t (.int k a) (.int k b)) (.bool (decide (a <= b))):=⟨fun _=>by simp [bi,binOp,Op.intCmp]⟩
instance {t:Nat} {k:IntKind} {a b:Int}:Run (bi .gtr t (.int k a) (.int k b)) (.bool (decide (a > b))):=⟨fun _=>by simp [bi,binOp,Op.intCmp]⟩
instance {t:Nat} {k:IntKind} {a b:Int}:Run (bi .geq t (.int k a) (.int k b)) (.bool (decide (a ≥ b))):=⟨fun _=>by simp [bi,binOp,Op.intCmp]⟩
instance {t:Nat} {k:IntKind} {a b:Int} {x y:Operand}:Run (eq .eql t x y (.int k a) (.int k b)) (.bool (decide (a = b))):=⟨fun _=>by
 simp [eq,eqGuard,binOp,Op.intCmp]; exact Bool.beq_eq_decide_eq a b⟩
instance {t:Nat} {k:IntKind} {a b:Int} {x y:Operand}:Run (eq .neq t x y (.int k a) (.int k b)) (.bool (!decide (a = b))):=⟨fun _=>by
 simp [eq,eqGuard,binOp,Op.intCmp,bne]; exact Bool.beq_eq_decide_eq a b⟩
instance {t:Nat} {a b:ByteArray} {x y:Operand}:Run (eq .eql t x y (.string a) (.string b)) (.bool (decide (a = b))):=⟨fun _=>by
 simp [eq,eqGuard,binOp,Op.stringOp,yq]⟩
instance {t:Nat} {a b:ByteArray} {x y:Operand}:Run (eq .neq t x y (.string a) (.string b)) (.bool (!decide (a = b))):=⟨fun _=>by
 simp [eq,eqGuard,binOp,Op.stringOp,yq]⟩
instance {l:List Value} {i:Nat} {v:Value} [g:Get l i v]:Run (ex (.tuple l.toArray) i) v:=⟨fun w=>by simp [ex,Instr.extract,g.h]⟩
instance {a b:Nat} {k kk k':IntKind} {n:Int} [g:gR a k] [g':gR b k']:Run (cv a b (.int kk n)) (.int k' (k'.wrap n)):=⟨fun w=>by
 simp [cv,convert,Sem.run_bind,g.und,g'.und,Conv.intToInt]⟩
class hG (l:List Value) (n:Nat):Prop where
 h:l.length = n
instance:hG [] 0:=⟨rfl⟩
instance {v:Value} {l:List Value} {n:Nat} [g:hG l n]:hG (v :: l) (n + 1):=⟨by simp [g.h]⟩
class xL (places:List (Nat × Nat)) (cells:List Value) (parts:List (Nat × Value)) (out:outParam (List Value)):Prop where
 h:Instr.fill (places[·]?) cells.toArray parts = some out.toArray
class Bz (l:List (Nat × Nat)) (i:Nat) (a b:outParam Nat):Prop where
 h:l[i]? = some (a,b)
instance {a b:Nat} {l:List (Nat × Nat)}:Bz ((a,b) :: l) 0 a b:=⟨rfl⟩
instance (priority:=900) {p:Nat × Nat} {a b i:Nat} {l:List (Nat × Nat)} [g:Bz l i a b]:Bz (p :: l) (i + 1) a b:=⟨by simpa using g.h⟩
instance {places:List (Nat × Nat)} {cells:List Value}:xL places cells [] cells:=⟨rfl⟩
theorem kB:∀ (vs l:List Value) (off i:Nat),((vs.zipIdx i).foldl (fun (cs:Array Value) (p:Value × Nat)=>cs.setIfInBounds (off + p.2) p.1) l.toArray) = (pG l (off + i) vs).toArray
 | [],l,off,i=>rfl
 | v :: vs,l,off,i=>by
  simp only [zipIdx_cons,foldl_cons,pG];rw [show (l.toArray.setIfInBounds (off + i) v) = (l.set (off + i) v).toArray by simp];rw [kB vs (l.set (off + i) v) off (i + 1)]
  rfl
instance {places:List (Nat × Nat)} {cells cells' out vs:List Value} {i off n:Nat} {v:Value} {parts:List (Nat × Value)} [gp:Bz places i off n] [gc:cQ v vs] [gs:SetN cells off vs cells'] [gn:hG vs n] [gf:xL places cells' parts out] :
  xL places cells ((i,v) :: parts) out:=⟨by
 have hn:=gn.h;unfold Instr.fill;simp only [gp.h,gc.h,size_toArray,hn];have hb:=gs.bound;rw [hn] at hb;have hb':¬ (off + n > cells.length):=by omega
 simp only [ne_eq,not_true_eq_false,decide_false,Bool.false_or,decide_eq_true_eq,hb',if_false];have:(vs.toArray.zipIdx.foldl (fun cs (x:Value × Nat)=>cs.setIfInBounds (off + x.2) x.1) cells.toArray) = cells'.toArray:=by
  rw [<- Array.foldl_toList,Array.toList_zipIdx,kB,Nat.add_zero,gs.eq]
 rw [this];exact gf.h⟩
instance {t:Nat} {zs out:List Value} {places:List (Nat × Nat)} {parts:List (Nat × Value)} [g:cN t zs places] [gf:xL places zs parts out]:Run (bd t parts.toArray) (.agg out.toArray):=⟨fun w=>by
 rw [show bd t parts.toArray = Instr.build t parts.toArray from rfl,g.h];have:(fun x:Nat=>(places.toArray)[x]?) = (fun x:Nat=>places[x]?):=by funext x; simp
 rw [this,gf.h]
 rfl⟩
section tests
variable {A B:Prop} {b:Bool} {p:Prop} [Decidable p]
theorem ah (h:A):aB (.bool true) A B:=⟨true,rfl,fun _=>h,fun hh=>(by cases hh)⟩
theorem aj (h:B):aB (.bool false) A B:=⟨false,rfl,fun hh=>(by cases hh),fun _=>h⟩
theorem aO (h1:b = true->A) (h2:b = false->B):aB (.bool b) A B:=⟨b,rfl,h1,h2⟩
theorem aC (h1:p->A) (h2:¬ p->B):aB (.bool (decide p)) A B:=⟨_,rfl,fun h=>h1 (of_decide_eq_true h),fun h=>h2 (of_decide_eq_false h)⟩
theorem eO (h1:¬ p->A) (h2:p->B):aB (.bool (!decide p)) A B:=⟨_,rfl,fun h=>h1 (by simpa using h),fun h=>h2 (by simpa using h)⟩
theorem aU (h1:b = false->A) (h2:b = true->B):aB (.bool (!b)) A B:=⟨_,rfl,fun h=>h1 (by simpa using h),fun h=>h2 (by simpa using h)⟩
theorem bC (h:b = true) (h1:A):aB (.bool b) A B:=⟨b,rfl,fun _=>h1,fun hh=>(by rw [h] at hh; cases hh)⟩
theorem dk (h:b = false) (h1:B):aB (.bool b) A B:=⟨b,rfl,fun hh=>by (rw [h] at hh; cases hh),fun _=>h1⟩
end tests
section
variable {w0 w w':World} {z0 z z':Z} {B0 B B' L F:Bl} {b:Nat} {o:Obj} {C:Obj->Bl} {K:RP}
theorem Ad {K:World->Prop} (hS:Res w0 z0 B0 w z L) (hk:∀ w',Res w0 z0 B0 w' z L->K w'):Dr w K:=hk _ hS.drew
theorem lq {t:TypeId} [g:am t] {off:Nat} {v:Value} (h:At (hp w) b off [v]):(ld t (.pointer (some ⟨b,off,none⟩))).run Tryz.prog w = .ok v w:=by
 obtain ⟨v',w',h1,h2,h3⟩:=AX (t:=t) (K:=fun v' w'=>v' = v/\w' = w) h ⟨rfl,rfl⟩;rw [h1,h2,h3]
theorem lm {t n:Nat} [g:bn t n] [gs:aR t n] {off:Nat} {vs:List Value} (h:At (hp w) b off vs) (hl:vs.length = n):(ld t (.pointer (some ⟨b,off,none⟩))).run Tryz.prog w = .ok (.agg vs.toArray) w:=by
 obtain ⟨v',w',h1,h2,h3⟩:=ut (t:=t) (K:=fun v' w'=>v' = .agg vs.toArray/\w' = w) h hl ⟨rfl,rfl⟩;rw [h1,h2,h3]
theorem xI {s:Sem Value} {v:Value} {K:Value->Prop} (h:s.run Tryz.prog w = .ok v w) (hk:K v):HV s w K:=⟨v,h,hk⟩
theorem Ac {s:Sem Value} {v:Value} {K:Value->Prop} [g:Run s v] (h:K v):HV s w K:=⟨v,g.h w,h⟩
theorem Bx (hS:Res w0 z0 B0 w z L) {K:Value->Prop} {t:TypeId} [g:am t] {off:Nat} {v:Value} {l:List Value} {ty:TypeId} {fr:Nat × Nat} [Blk L b (.cells l.toArray ty fr) C] [Get l off v] (hk:K v):HV (ld t (.pointer (some ⟨b,off,none⟩))) w K:=
 xI (lq hS.at1) hk
theorem Bw (hS:Res w0 z0 B0 w z L) {K:Value->Prop} {t n:Nat} [g:bn t n] [gs:aR t n] {off:Nat} {vs:List Value} {l:List Value} {ty:TypeId} {fr:Nat × Nat} [Blk L b (.cells l.toArray ty fr) C] [gn:GetN l off n vs] (hk:K (.agg vs.toArray)):HV (ld t (.pointer (some ⟨b,off,none⟩))) w K:=
 xI (lm (Res.atN (gn:=gn) hS) gn.len) hk
theorem wX (hS:Res w0 z0 B0 w z L) {t:TypeId} [g:am t] {off:Nat} {v:Value} {l:List Value} {ty:TypeId} {fr:Nat × Nat} [Blk L b (.cells l.toArray ty fr) C] [Get l off v]:aM (ld t (.pointer (some ⟨b,off,none⟩))) w v:=
 lq hS.at1
theorem wW (hS:Res w0 z0 B0 w z L) {t n:Nat} [g:bn t n] [gs:aR t n] {off:Nat} {vs:List Value} {l:List Value} {ty:TypeId} {fr:Nat × Nat} [Blk L b (.cells l.toArray ty fr) C] [gn:GetN l off n vs]:aM (ld t (.pointer (some ⟨b,off,none⟩))) w (.agg vs.toArray):=
 lm (Res.atN (gn:=gn) hS) gn.len
theorem gZ {a:Addr} {K:Value->Prop} (h:K (.pointer (some a))):aa (.pointer (some a)) K:=h
def inI (n:Int):Prop:=-9223372036854775808 <= n/\n <= 9223372036854775807
theorem hU {n:Int} (h:inI n):IntKind.i64.wrap n = n:=IntWalk.i64_in n h
end
end
section
class JK0 (K:LP) (rest:outParam (World->Prop)):Prop where
 h:∀ w,rest w->K [] w
class JK1 (K:LP) (rest:outParam (RP)):Prop where
 h:∀ a w,rest a w->K [a] w
class JK2 (K:LP) (rest:outParam (Value->RP)):Prop where
 h:∀ a b w,rest a b w->K [a,b] w
class JK3 (K:LP) (rest:outParam (Value->Value->RP)):Prop where
 h:∀ a b c w,rest a b c w->K [a,b,c] w
class JK4 (K:LP) (rest:outParam (Value->Value->Value->RP)):Prop where
 h:∀ a b c d w,rest a b c d w->K [a,b,c,d] w
section
variable {body:(LP)->Prop} {K:LP} {a b c d:Value} {w:World}
theorem J0 {rest:World->Prop} (h:∀ K,JK0 K rest->body K):∀ K:LP,(∀ w,(∀ _:Env,rest w)->K [] w)->body K:=fun K hK=>h K ⟨fun w r=>hK w fun _=>r⟩
theorem J1 {rest:RP} (h:∀ K,JK1 K rest->body K):∀ K:LP,(∀ a w,(∀ _:Env,rest a w)->K [a] w)->body K:=fun K hK=>h K ⟨fun a w r=>hK a w fun _=>r⟩
theorem K0 {rest:World->Prop} [g:JK0 K rest] (h:rest w):K [] w:=g.h w h
theorem K1 {rest:RP} [g:JK1 K rest] (h:rest a w):K [a] w:=g.h a w h
theorem K2 {rest:Value->RP} [g:JK2 K rest] (h:rest a b w):K [a,b] w:=g.h a b w h
theorem K3 {rest:Value->Value->RP} [g:JK3 K rest] (h:rest a b c w):K [a,b,c] w:=g.h a b c w h
theorem K4 {rest:Value->Value->Value->RP} [g:JK4 K rest] (h:rest a b c d w):K [a,b,c,d] w:=g.h a b c d w h
end
section
variable {w0 w w':World} {z0 z z':Z} {B0 B B' L F:Bl} {b:Nat} {o:Obj} {C:Obj->Bl} {K:RP}
theorem aE [hS:Res w0 z0 B0 w z L] {t:TypeId} [g:am t] {off:Nat} {v:Value} {l:List Value} {ty:TypeId} {fr:Nat × Nat} [Blk L b (.cells l.toArray ty fr) C] [Get l off v] (hk:K v w):V (ld t (.pointer (some ⟨b,off,none⟩))) w K:=tJ hS hk
theorem ae [hS:Res w0 z0 B0 w z L] {t n:Nat} [g:bn t n] [gs:aR t n] {off:Nat} {vs:List Value} {l:List Value} {ty:TypeId} {fr:Nat × Nat} [Blk L b (.cells l.toArray ty fr) C] [gn:GetN l off n vs] (hk:K (.agg vs.toArray) w):V (ld t (.pointer (some ⟨b,off,none⟩))) w K:=AW hS hk
theorem ak [hS:Res w0 z0 B0 w z L] {t:TypeId} {zs:List Value} [g:bD t zs] (hk:∀ b w',w0.heap.size <= b->Res w0 z0 B0 w' z ((b,.cells zs.toArray t (0,0)) :: L)->K (.pointer (some ⟨b,0,none⟩)) w'):V (al t) w K:=Bt hS hk
theorem aP [hS:Res w0 z0 B0 w z L] {t:TypeId} {v:Value} {vs:List Value} [g:cQ v vs] (hk:∀ b w',w0.heap.size <= b->Res w0 z0 B0 w' z ((b,.cells vs.toArray t (0,0)) :: L)->K (.pointer (some ⟨b,0,none⟩)) w'):V (bx t v) w K:=Da hS hk
theorem aF {K:World->Prop} [hS:Res w0 z0 B0 w z L] {t n off:Nat} {v:Value} {vs l l':List Value} {ty:TypeId} [g:Blk L b (.cells l.toArray ty (0,0)) C] [gs:aR t n] [gc:cQ v vs] [go:tL vs] [hn:hG vs n] [gl:SetN l off vs l']
  (hk:∀ w',Res w0 z0 B0 w' z (C (.cells l'.toArray ty (0,0)))->K w'):U (st t (.pointer (some ⟨b,off,none⟩)) v) w K:=Bu (C:=C) hS hn.h hk
theorem aW [hS:Res w0 z0 B0 w z L] {K:Value->Prop} {t:TypeId} [g:am t] {off:Nat} {v:Value} {l:List Value} {ty:TypeId} {fr:Nat × Nat} [Blk L b (.cells l.toArray ty fr) C] [Get l off v] (hk:K v):HV (ld t (.pointer (some ⟨b,off,none⟩))) w K:=Bx hS hk
theorem aq [hS:Res w0 z0 B0 w z L] {K:Value->Prop} {t n:Nat} [g:bn t n] [gs:aR t n] {off:Nat} {vs:List Value} {l:List Value} {ty:TypeId} {fr:Nat × Nat} [Blk L b (.cells l.toArray ty fr) C] [gn:GetN l off n vs] (hk:K (.agg vs.toArray)):HV (ld t (.pointer (some ⟨b,off,none⟩))) w K:=Bw hS hk
theorem bN {A:Prop} [hS:Res w0 z0 B0 w z L] {t:TypeId} [g:am t] {off:Nat} {v:Value} {l:List Value} {ty:TypeId} {fr:Nat × Nat} [Blk L b (.cells l.toArray ty fr) C] [Get l off v] (h:A):aM (ld t (.pointer (some ⟨b,off,none⟩))) w v/\A:=⟨wX hS,h⟩
theorem uS {A:Prop} [hS:Res w0 z0 B0 w z L] {t n:Nat} [g:bn t n] [gs:aR t n] {off:Nat} {vs:List Value} {l:List Value} {ty:TypeId} {fr:Nat × Nat} [Blk L b (.cells l.toArray ty fr) C] [gn:GetN l off n vs] (h:A):aM (ld t (.pointer (some ⟨b,off,none⟩))) w (.agg vs.toArray)/\A:=⟨wW hS,h⟩
theorem iDr {K:World->Prop} [hS:Res w0 z0 B0 w z L] (hk:∀ w',Res w0 z0 B0 w' z L->K w'):Dr w K:=Ad hS hk
theorem bL [hS:Res w0 z0 B0 w z L] {t:TypeId} [g:am t] {off:Nat} {v:Value} (h:At z b off [v]) (hk:K v w):V (ld t (.pointer (some ⟨b,off,none⟩))) w K:=AX (h.world hS.sub) hk
theorem kz [hS:Res w0 z0 B0 w z L] {t n:Nat} [g:bn t n] [gs:aR t n] {off:Nat} {vs:List Value} (h:At z b off vs) (hl:vs.length = n) (hk:K (.agg vs.toArray) w):V (ld t (.pointer (some ⟨b,off,none⟩))) w K:=ut (h.world hS.sub) hl hk
theorem fh [hS:Res w0 z0 B0 w z L] {K:Value->Prop} {t:TypeId} [g:am t] {off:Nat} {v:Value} (h:At z b off [v]) (hk:K v):HV (ld t (.pointer (some ⟨b,off,none⟩))) w K:=xI (lq (h.world hS.sub)) hk
theorem wf [hS:Res w0 z0 B0 w z L] {K:Value->Prop} {t n:Nat} [g:bn t n] [gs:aR t n] {off:Nat} {vs:List Value} (h:At z b off vs) (hl:vs.length = n) (hk:K (.agg vs.toArray)):HV (ld t (.pointer (some ⟨b,off,none⟩))) w K:=xI (lm (h.world hS.sub) hl) hk
theorem At.sub {off i n:Nat} {vs us:List Value} [g:GetN vs i n us] (h:At z b off vs):At z b (off + i) us:=by
 obtain ⟨c,ty,fr,h1,h2⟩:=h;exact ⟨c,ty,fr,h1,fun j v hj=>by rw [Nat.add_assoc]; exact h2 _ v (g.h j v hj)⟩
class Pu (f:FuncId) (args:Array Value) (v:outParam Value):Prop where
 h:∀ z w,Fn1 f args z w fun _ v'=>v' = v
theorem aN [hS:Res w0 z0 B0 w z L] {f:FuncId} [aD f] {args:Array Value} {v:Value} [g:Pu f args v] (hk:∀ z' w',Le z z'->Res w0 z0 B0 w' z' L->K v w'):CV (.func (.func f) #[] #[]) args w K:=
 we hS (g.h z w) (by simp) fun z' w' v' h1 h2 h3=>by subst h3; exact hk z' w' h1 h2
theorem ap [hS:Res w0 z0 B0 w z L] {f:FuncId} [aD f] {args:Array Value} {R:Z->Value->Prop} (h:Fn1 f args z w R) (hk:∀ z' w' v,Le z z'->Res w0 z0 B0 w' z' L->R z' v->K v w'):CV (.func (.func f) #[] #[]) args w K:=
 we hS h (by simp) hk
theorem Fn1.intro {f:FuncId} {args:Array Value} {R:Z->Value->Prop} (h:Res w z [] w z []->Calls Tryz.prog f args w (retK fun v w'=>∃ z' L',Res w z [] w' z' L'/\R z' v)):Fn1 f args z w R:=
 fun ho=>(h ho).mono (retK.mono fun v w' ⟨z',L',h1,h2⟩=>⟨z',h1.drop,h2⟩)
theorem Fn.intro {f:FuncId} {args:Array Value} {R:Z->Bl->Value->Prop} (h:Res w z B w z B->Calls Tryz.prog f args w (retK fun v w'=>∃ z' B',Res w z B w' z' B'/\R z' B' v)):Fn f args z B w R:=h
theorem fin {R:Z->Bl->Value->Prop} {v:Value} [hS:Res w0 z0 B0 w z L] (h:R z L v):∃ z' L',Res w0 z0 B0 w z' L'/\R z' L' v:=⟨z,L,hS,h⟩
end
class dI (s:ByteArray) (i:Int):Prop where
 h0:0 <= i
 h1:i < s.size
class InR (i n:Int):Prop where
 h0:0 <= i
 h1:i < n
class InI (n:Int):Prop where
 h:-9223372036854775808 <= n/\n <= 9223372036854775807
def bt (s:ByteArray) (i:Int):Int:=((s.data.toList.getD i.toNat 0).toNat:Int)
theorem AO (s:ByteArray) (i:Int):0 <= bt s i/\bt s i <= 255:=by
 unfold bt;have:=(s.data.toList.getD i.toNat 0).toNat_lt;omega
instance {t:Nat} [g:kM t] {s:ByteArray} {i:Int} {k:IntKind} [hi:dI s i]:Run (ix t (.string s) (.int k i)) (.int .u8 (bt s i)):=⟨fun w=>by
 have h1:i.toNat < s.size:=by have:=hi.h1; have:=hi.h0; omega
 simp only [ix,Instr.index,asIntOf,pure_bind,Sem.run_bind,g.und,Result.andThen_ok,hi.h0,if_true];rw [getElem?_pos s i.toNat h1];have:bt s i = ((s[i.toNat]'h1).toNat:Int):=by
  unfold bt;rw [getD_eq_getElem?_getD,getElem?_eq_getElem (by simpa using h1)]
  rfl
 rw [this]
 rfl⟩
instance {b t e s n cap off o:Nat} [g:bF t e s] {i:Int} {k:IntKind} [hi:InR i n] [ho:nb off (i.toNat * s) o]:Run (ia t (.slice (some ⟨b,off,none⟩) n cap) (.int k i)) (.pointer (some ⟨b,o,none⟩)):=⟨fun w=>by
 rw [<- ho.h];simp only [ia,Instr.indexAt,asIntOf,pure_bind,Sem.run_bind,g.und,g.size,Result.andThen_ok,hi.h0,hi.h1,and_self,if_true,dj]
 rfl⟩
instance {t:Nat} {a b:Int} [h:InI (a + b)]:Run (bi .add t (.int .i64 a) (.int .i64 b)) (.int .i64 (a + b)):=⟨fun w=>by simp [bi,binOp,Op.intArith,hU h.h]⟩
instance {t:Nat} {a b:Int} [h:InI (a - b)]:Run (bi .sub t (.int .i64 a) (.int .i64 b)) (.int .i64 (a - b)):=⟨fun w=>by simp [bi,binOp,Op.intArith,hU h.h]⟩
instance {t:Nat} {a b:Int} [h:InI (a * b)]:Run (bi .mul t (.int .i64 a) (.int .i64 b)) (.int .i64 (a * b)):=⟨fun w=>by simp [bi,binOp,Op.intArith,hU h.h]⟩
class PB (F:(LP)->Prop) (w:outParam World) (x:outParam Bool):Prop where
 h:∀ K:LP,K [.bool x] w->F K
instance PB.lit {w:World} {x:Bool}:PB (fun K=>K [.bool x] w) w x:=⟨fun _ h=>h⟩
instance PB.val {w:World} {x:Bool} {s:Sem Value} {v:Value} {G:(LP)->RP} [g:Run s v] [h:PB (fun K=>G K v w) w x]:PB (fun K=>V s w (G K)) w x:=
 ⟨fun K hK=>aA (h.h K hK)⟩
instance PB.cond {w:World} {x y b:Bool} {A B:(LP)->Prop} [h1:PB A w x] [h2:PB B w y]:PB (fun K=>aB (.bool b) (A K) (B K)) w (bif b then x else y):=
 ⟨fun K hK=>⟨b,rfl,fun hb=>h1.h K (by subst hb; exact hK),fun hb=>h2.h K (by subst hb; exact hK)⟩⟩
instance PB.join {w:World} {x y:Bool} {H:(LP)->RP} {body:(LP)->(LP)->Prop} [h1:∀ K,PB (body K) w x] [h2:PB (fun K=>H K (.bool x) w) w y] :
  PB (fun K=>∀ K1:LP,(∀ t w,(∀ _:Env,H K t w)->K1 [t] w)->body K K1) w y:=
 ⟨fun K hK K1 hK1=>(h1 K).h K1 (hK1 _ _ fun _=>h2.h K hK)⟩
theorem JB {w:World} {x:Bool} {rest:RP} {body:(LP)->Prop} [g:PB body w x] (h:rest (.bool x) w):∀ K:LP,(∀ t w,(∀ _:Env,rest t w)->K [t] w)->body K:=
 fun K hK=>g.h K (hK _ _ fun _=>h)
end
section
noncomputable def leastOf (p:Nat->Prop):Nat:=by
 classical exact if h:∃ n,p n/\∀ m,p m->n <= m then Classical.choose h else 0
theorem sm {p:Nat->Prop} (h:∃ n,p n):∃ n,p n/\∀ m,p m->n <= m:=by
 obtain ⟨n,hn⟩:=h
 induction n using Nat.strongRecOn with
 | _ n ih=>
  by_cases hx:∃ m,m < n/\p m
  ·obtain ⟨m,hm,hp⟩:=hx; exact ih m hm hp
  ·exact ⟨n,hn,fun m hm=>Nat.le_of_not_lt fun hlt=>hx ⟨m,hlt,hm⟩⟩
theorem mL {p:Nat->Prop} (h:∃ n,p n):p (leastOf p)/\∀ m,p m->leastOf p <= m:=by
 have h':=sm h;unfold leastOf;rw [dif_pos h'];exact Classical.choose_spec h'
section
variable {α:Type}
theorem kX (Inv:α->LP) (μ:α->Nat) {body:(LP)->(LN)->List Value->World->Nat->Prop} {l0:List Value} {w:World} (a0:α) (h0:Inv a0 l0 w)
  (hs:∀ I M a l w m,Inv a l w->(∀ a' l' w',Inv a' l' w'->μ a' < μ a->I l' w'/\M l' w' < m)->body I M l w m) :
  ∃ (I:LP) (M:LN),I l0 w/\∀ l w,I l w->∀ m,m = M l w->body I M l w m:=by
 refine ⟨fun l w=>∃ a,Inv a l w,fun l w=>leastOf fun m=>∃ a,Inv a l w/\μ a = m,⟨a0,h0⟩,?_⟩;rintro l w ⟨a,ha⟩ m rfl
 obtain ⟨⟨a1,h1,h2⟩,h3⟩:=mL (p:=fun m=>∃ a,Inv a l w/\μ a = m) ⟨μ a,a,ha,rfl⟩;refine hs _ _ a1 l w _ h1 fun a' l' w' h4 h5=>⟨⟨a',h4⟩,?_⟩
 exact Nat.lt_of_le_of_lt ((mL (p:=fun m=>∃ a,Inv a l' w'/\μ a = m) ⟨μ a',a',h4,rfl⟩).2 _ ⟨a',h4,rfl⟩) (Nat.lt_of_lt_of_eq h5 h2)
theorem Cx (Inv:α->World->Prop) (μ:α->Nat) {body:(LP)->(LN)->World->Nat->Prop} {w:World} (a0:α) (h0:Inv a0 w)
  (hs:∀ I M a w m,Inv a w->(∀ a' w',Inv a' w'->μ a' < μ a->I [] w'/\M [] w' < m)->body I M w m) :
  ∃ (I:LP) (M:LN),I [] w/\∀ _:Env,∀ w,I [] w->∀ m,m = M [] w->body I M w m:=by
 obtain ⟨I,M,h1,h2⟩:=kX (fun a l w=>l = []/\Inv a w) μ (body:=fun I M l w m=>l = []->body I M w m) a0 ⟨rfl,h0⟩ (fun I M a l w m ⟨h3,h4⟩ h5 _=>hs I M a w m h4 fun a' w' h6 h7=>h5 a' [] w' ⟨rfl,h6⟩ h7);exact ⟨I,M,h1,fun _ w h m hm=>h2 [] w h m hm rfl⟩
theorem cC (Inv:α->RP) (μ:α->Nat) {body:(LP)->(LN)->Value->World->Nat->Prop} {x0:Value} {w:World} (a0:α) (h0:Inv a0 x0 w)
  (hs:∀ I M a x w m,Inv a x w->(∀ a' x' w',Inv a' x' w'->μ a' < μ a->I [x'] w'/\M [x'] w' < m)->body I M x w m) :
  ∃ (I:LP) (M:LN),I [x0] w/\∀ _:Env,∀ x,∀ w,I [x] w->∀ m,m = M [x] w->body I M x w m:=by
 obtain ⟨I,M,h1,h2⟩:=kX (fun a l w=>∃ x,l = [x]/\Inv a x w) μ (body:=fun I M l w m=>∀ x,l = [x]->body I M x w m) a0 ⟨x0,rfl,h0⟩ (fun I M a l w m ⟨x,h3,h4⟩ h5 y hy=>by
  rw [hy] at h3; cases h3;exact hs I M a y w m h4 fun a' x' w' h6 h7=>h5 a' [x'] w' ⟨x',rfl,h6⟩ h7)
 exact ⟨I,M,h1,fun _ x w h m hm=>h2 [x] w h m hm x rfl⟩
theorem ee (Inv:α->Value->RP) (μ:α->Nat) {body:(LP)->(LN)->Value->Value->World->Nat->Prop} {x0 y0:Value} {w:World} (a0:α) (h0:Inv a0 x0 y0 w)
  (hs:∀ I M a x y w m,Inv a x y w->(∀ a' x' y' w',Inv a' x' y' w'->μ a' < μ a->I [x',y'] w'/\M [x',y'] w' < m)->body I M x y w m) :
  ∃ (I:LP) (M:LN),I [x0,y0] w/\∀ _:Env,∀ x,∀ y,∀ w,I [x,y] w->∀ m,m = M [x,y] w->body I M x y w m:=by
 obtain ⟨I,M,h1,h2⟩:=kX (fun a l w=>∃ x y,l = [x,y]/\Inv a x y w) μ (body:=fun I M l w m=>∀ x y,l = [x,y]->body I M x y w m) a0 ⟨x0,y0,rfl,h0⟩ (fun I M a l w m ⟨x,y,h3,h4⟩ h5 x' y' hy=>by
  rw [hy] at h3; cases h3;exact hs I M a x' y' w m h4 fun a' x'' y'' w' h6 h7=>h5 a' [x'',y''] w' ⟨x'',y'',rfl,h6⟩ h7)
 exact ⟨I,M,h1,fun _ x y w h m hm=>h2 [x,y] w h m hm x y rfl⟩
theorem Aa (Inv:α->Value->Value->RP) (μ:α->Nat) {body:(LP)->(LN)->Value->Value->Value->World->Nat->Prop} {x0 y0 u0:Value} {w:World} (a0:α) (h0:Inv a0 x0 y0 u0 w)
  (hs:∀ I M a x y u w m,Inv a x y u w->(∀ a' x' y' u' w',Inv a' x' y' u' w'->μ a' < μ a->I [x',y',u'] w'/\M [x',y',u'] w' < m)->body I M x y u w m) :
  ∃ (I:LP) (M:LN),I [x0,y0,u0] w/\∀ _:Env,∀ x,∀ y,∀ u,∀ w,I [x,y,u] w->∀ m,m = M [x,y,u] w->body I M x y u w m:=by
 obtain ⟨I,M,h1,h2⟩:=kX (fun a l w=>∃ x y u,l = [x,y,u]/\Inv a x y u w) μ (body:=fun I M l w m=>∀ x y u,l = [x,y,u]->body I M x y u w m) a0 ⟨x0,y0,u0,rfl,h0⟩ (fun I M a l w m ⟨x,y,u,h3,h4⟩ h5 x' y' u' hy=>by
  rw [hy] at h3; cases h3;exact hs I M a x' y' u' w m h4 fun a' x'' y'' u'' w' h6 h7=>h5 a' [x'',y'',u''] w' ⟨x'',y'',u'',rfl,h6⟩ h7)
 exact ⟨I,M,h1,fun _ x y u w h m hm=>h2 [x,y,u] w h m hm x y u rfl⟩
end
structure El (α:Type) where
 size:Nat
 rel:Z->List Value->α->Prop
 mono:∀ {z z' cs x},rel z cs x->Le z z'->rel z' cs x
 len:∀ {z cs x},rel z cs x->cs.length = size
 pos:0 < size
abbrev big:Nat:=9223372036854775807
abbrev room:Nat:=140737488355328
def SlR {α:Type} (E:El α) (z:Z) (v:Value) (xs:List α):Prop:=
 ∃ a cap,v = .slice a xs.length cap/\xs.length <= cap/\xs.length <= big/\(xs ≠ []->∃ b off,a = some ⟨b,off,none⟩/\∀ i x,xs[i]? = some x->∃ cs,E.rel z cs x/\At z b (off + i * E.size) cs)
section
variable {α:Type} {E:El α} {z z':Z} {v:Value} {xs:List α}
theorem SlR.mono (h:SlR E z v xs) (hz:Le z z'):SlR E z' v xs:=by
 obtain ⟨a,cap,h1,h2,h3,h4⟩:=h;refine ⟨a,cap,h1,h2,h3,fun hn=>?_⟩;obtain ⟨b,off,h5,h6⟩:=h4 hn;exact ⟨b,off,h5,fun i x hx=>let ⟨cs,h7,h8⟩:=h6 i x hx; ⟨cs,E.mono h7 hz,h8.mono hz⟩⟩
theorem SlR.nil:SlR E z (.slice none 0 0) []:=⟨none,0,rfl,Nat.le_refl _,by simp,fun h=>absurd rfl h⟩
theorem SlR.form (h:SlR E z v xs):xs.length <= big/\∃ a cap,v = .slice a xs.length cap/\xs.length <= cap/\∀ i x,xs[i]? = some x->∃ b off cs,a = some ⟨b,off,none⟩/\E.rel z cs x/\At z b (off + i * E.size) cs:=by
 obtain ⟨a,cap,h1,h2,h3,h4⟩:=h;refine ⟨h3,a,cap,h1,h2,fun i x hx=>?_⟩;obtain ⟨b,off,h5,h6⟩:=h4 (by intro hn; rw [hn] at hx; simp at hx);obtain ⟨cs,h7,h8⟩:=h6 i x hx;exact ⟨b,off,cs,h5,h7,h8⟩
def El.sl (E:El α):El (List α) where
 size:=1
 rel:=fun z cs xs=>∃ v,cs = [v]/\SlR E z v xs
 mono:=fun ⟨v,h1,h2⟩ hz=>⟨v,h1,h2.mono hz⟩
 len:=fun ⟨v,h1,_⟩=>by rw [h1]; rfl
 pos:=by decide
end
def El.int:El Int where
 size:=1
 rel:=fun _ cs x=>cs = [.int .i64 x]
 mono:=fun h _=>h
 len:=fun h=>by rw [h]; rfl
 pos:=by decide
def El.str:El ByteArray where
 size:=1
 rel:=fun _ cs x=>cs = [.string x]/\x.size <= big
 mono:=fun h _=>h
 len:=fun h=>by rw [h.1]; rfl
 pos:=by decide
def El.bool:El Bool where
 size:=1
 rel:=fun _ cs x=>cs = [.bool x]
 mono:=fun h _=>h
 len:=fun h=>by rw [h]; rfl
 pos:=by decide
def OwnSl (e size:Nat) (B:Bl) (v:Value) (n:Nat) (xs:List Value):Prop:=
 xs.length = n * size/\((B = []/\v = .slice none 0 0/\n = 0) \/ ∃ b cap sp,B = [(b,.cells (xs ++ sp).toArray e (0,0))]/\v = .slice (some ⟨b,0,none⟩) n cap/\n <= cap/\cap <= maxLen/\(xs ++ sp).length = cap * size)
theorem OwnSl.nil {e size:Nat}:OwnSl e size [] (.slice none 0 0) 0 []:=⟨by simp,.inl ⟨rfl,rfl,rfl⟩⟩
theorem OwnSl.form {e size n:Nat} {B:Bl} {v:Value} {xs:List Value} (h:OwnSl e size B v n xs):∃ a cap,v = .slice a n cap/\n <= cap:=by
 rcases h.2 with ⟨_,rfl,rfl⟩ | ⟨b,cap,sp,_,rfl,h1,_⟩
 ·exact ⟨none,0,rfl,Nat.le_refl _⟩
 ·exact ⟨_,cap,rfl,h1⟩
section
variable {w0 w w':World} {z0 z z':Z} {B0 B B' L F:Bl} {K:RP}
theorem nA {w:World} {b:Nat} {c cs:Array Value} {t:TypeId} {fr:Nat × Nat} (h:w.heap[b]? = some (.cells c t fr)):w.setRow b cs = { w with heap:=w.heap.setIfInBounds b (.cells cs t fr) }:=by
 unfold World.setRow
 congr 1
 apply Array.ext_getElem?
 intro j;rw [Array.getElem?_modify,Array.getElem?_setIfInBounds]
 by_cases hj:b = j
 ·subst hj
  have hb':=(Array.getElem?_eq_some_iff.1 h).2;simp [co h,hb']
 ·simp [hj]
theorem tw {v:Value} (h:gB v = true):v.oneCell' = true:=by cases v <;> first | rfl | cases h
theorem xG {t ty e size bytes:Nat} [g:fP t e size bytes] {v:Value} {n m c b' off':Nat} {xs news:List Value} (hS:Res w0 z0 B0 w z (B ++ L)) (ho:OwnSl e size B v n xs)
  (hn:At (hp w) b' off' news) (hl:news.length = m * size) (h1:∀ u ∈ news,gB u = true) (hm:0 < m) (hb:(n + m) * bytes <= room) (hb2:n + m <= room)
  (hk:∀ B' v' w',OwnSl e size B' v' (n + m) (xs ++ news)->Res w0 z0 B0 w' z (B' ++ L)->K v' w'):V (Builtin.append_ #[t,t] ty #[v,.slice (some ⟨b',off',none⟩) m c]) w K:=by
 obtain ⟨zv,hinfo,hzs⟩:=g.info;obtain ⟨i,hi,hz⟩:=Option.map_eq_some_iff.1 hinfo;simp only [Prod.mk.injEq] at hz;obtain ⟨hz0,hz1,hz2⟩:=hz;have hnews:∀ j u,news[j]? = some u->w.cell? ((⟨b',off',none⟩:Addr).add j) = some u:=fun j u hu=>by rw [dj]; exact hn.cell hu
 have hlen:(xs ++ news).length = (n + m) * size:=by rw [length_append,ho.1,hl,Nat.add_mul]
 simp only [room] at hb hb2;have hmax:n + m <= maxLen:=by simp only [maxLen]; omega
 have h63:((n + m:Nat):Int) <= 9223372036854775807:=by simp only [maxLen] at hmax; omega
 have grown:∀ (old:Nat) (w1:World),w1 = w.drew.alloc (.cells (xs.toArray ++ news.toArray ++ Builtin.zeroCells zv.cells (grownCap w (n + m) old e - (n + m))) e) ->
   Res w0 z0 B0 w1 z ((w.heap.size,.cells (xs ++ news ++ (Builtin.zeroCells zv.cells (grownCap w (n + m) old e - (n + m))).toList).toArray e (0,0)) :: (B ++ L)):=fun old w1 hw1=>by
  subst hw1;have:=Res.new (Res.drew hS) (.cells (xs ++ news ++ (Builtin.zeroCells zv.cells (grownCap w (n + m) old e - (n + m))).toList).toArray e (0,0));have he:(xs.toArray ++ news.toArray ++ Builtin.zeroCells zv.cells (grownCap w (n + m) old e - (n + m))) = (xs ++ news ++ (Builtin.zeroCells zv.cells (grownCap w (n + m) old e - (n + m))).toList).toArray:=by
   apply Array.toList_inj.1; simp
  rw [he];exact this
 have own':∀ (old:Nat),OwnSl e size [(w.heap.size,.cells (xs ++ news ++ (Builtin.zeroCells zv.cells (grownCap w (n + m) old e - (n + m))).toList).toArray e (0,0))] (.slice (some ⟨w.heap.size,0,none⟩) (n + m) (grownCap w (n + m) old e)) (n + m) (xs ++ news):=fun old=>by
  have hge:=grownCap_ge w (n + m) old e;refine ⟨hlen,.inr ⟨_,_,_,rfl,rfl,hge,grownCap_le_maxLen w (n + m) old e hmax,?_⟩⟩;rw [length_append,hlen,Array.length_toList,size_zeroCells,hzs,<- Nat.add_mul]
  congr 1
  omega
 rcases ho.2 with ⟨rfl,rfl,rfl⟩ | ⟨b,cap,sp,rfl,rfl,hcap,hcm,hsz⟩
 ·have hx0:xs = []:=eq_nil_of_length_eq_zero (by have:=ho.1; simpa using this)
  subst hx0;have hr:=run_append_nil (P:=Tryz.prog) w t ty e i zv g.und hi hz0 ⟨b',off',none⟩ m c news (by rw [hz1]; exact hl) hnews hm (by simpa using h63) (by rw [hz2]; simp only [Nat.zero_add] at hb; omega);refine ⟨_,_,hr,?_⟩;have h5:=grown 0 _ rfl;have h6:=own' 0;simp only [Nat.zero_add] at h5 h6;exact hk _ _ _ (by simpa using h6) (by simpa using h5)
 ·by_cases hroom:n + m <= cap
  ·have hat:=hS.mem (b,.cells (xs ++ sp).toArray e (0,0)) (by simp)
   have hfit:n * i.size + news.length <= (xs ++ sp).toArray.size:=by
    rw [hz1,hl,<- Nat.add_mul]; simp only [size_toArray,hsz]; exact Nat.mul_le_mul_right _ hroom
   have hr:=run_append_room (P:=Tryz.prog) w t ty e i g.und hi b n cap (xs ++ sp).toArray hat.1 ⟨b',off',none⟩ m c news (by rw [hz1]; exact hl) hnews (fun u hu=>tw (h1 u hu)) hroom hfit;refine ⟨_,_,hr,?_⟩;rw [nA hat.1];have e1:(xs ++ sp).take (n * i.size) = xs:=by rw [hz1,<- ho.1]; exact take_left
   have hnew:((xs ++ sp).toArray.toList.take (n * i.size) ++ news ++ (xs ++ sp).toArray.toList.drop (n * i.size + news.length)) = xs ++ news ++ sp.drop news.length:=by
    simp only [e1];rw [hz1,<- ho.1,drop_append,drop_of_length_le (by omega)];simp
   rw [hnew];refine hk [(b,.cells (xs ++ news ++ sp.drop news.length).toArray e (0,0))] _ _ ⟨hlen,.inr ⟨b,cap,sp.drop news.length,rfl,rfl,hroom,hcm,?_⟩⟩ (Res.put hS _ rfl);rw [length_append,hlen,length_drop];have:sp.length = cap * size - n * size:=by rw [<- hsz,length_append,ho.1]; omega
   rw [this,hl,Nat.add_mul];have:(n + m) * size <= cap * size:=Nat.mul_le_mul_right _ hroom;rw [Nat.add_mul] at this;omega
  ·have hat:=hS.mem (b,.cells (xs ++ sp).toArray e (0,0)) (by simp)
   have holds:∀ j u,xs[j]? = some u->w.cell? ((⟨b,0,none⟩:Addr).add j) = some u:=fun j u hu=>by
    rw [dj];refine At.cell (vs:=xs) ⟨_,_,_,hat.1,fun j u hu=>?_⟩ hu;simp only [Nat.zero_add,getElem?_toArray];rw [getElem?_append_left (List.getElem?_eq_some_iff.1 hu).1];exact hu
   have hr:=run_append_grow (P:=Tryz.prog) w t ty e i zv g.und hi hz0 ⟨b,0,none⟩ n cap xs (by rw [hz1]; exact ho.1) holds ⟨b',off',none⟩ m c news (by rw [hz1]; exact hl) hnews (by omega) h63 (growslice_fits (by omega) (by rw [hz2]; exact hb));refine ⟨_,_,hr,hk _ _ _ (own' cap) ((grown cap _ rfl).sublist ?_)⟩;simp
theorem bv {α:Type} (a:α) (w:World):(pure a:Sem α).run Tryz.prog w = .ok a w:=rfl
class ru (size i:Nat) (parts:List (Nat × Value)) (out:outParam (List Value)) (n:outParam Nat):Prop where
 h:n = i + parts.length/\out.length = parts.length * size/\(∀ pre rest:List Value,pre.length = i * size->rest.length = parts.length * size->Instr.fill (fun i=>some (i * size,size)) (pre ++ rest).toArray parts = some (pre ++ out).toArray)
instance {size i:Nat}:ru size i [] [] i:=⟨rfl,by simp,fun pre rest _ hr=>by
 have:rest = []:=eq_nil_of_length_eq_zero (by simpa using hr);subst this; rfl⟩
theorem tX (vs pre rest:List Value) (h:vs.length <= rest.length):pG (pre ++ rest) pre.length vs = pre ++ vs ++ rest.drop vs.length:=by
 refine ext_getElem? fun k=>?_
 rw [pF _ _ _ _ (by simp; omega)]
 by_cases h1:k < pre.length
 ·rw [if_neg (by omega),getElem?_append_left h1,append_assoc,getElem?_append_left h1]
 ·by_cases h2:k - pre.length < vs.length
  ·rw [if_pos (by omega),append_assoc,getElem?_append_right (by omega:pre.length <= k),getElem?_append_left h2]
  ·rw [if_neg (by omega),append_assoc,getElem?_append_right (by omega:pre.length <= k),getElem?_append_right (by omega:pre.length <= k),getElem?_append_right (by omega:vs.length <= k - pre.length),getElem?_drop]
   congr 1; omega
instance {size i n:Nat} {v:Value} {vs out:List Value} {parts:List (Nat × Value)} [gc:cQ v vs] [gl:hG vs size] [gf:ru size (i + 1) parts out n]:ru size i ((i,v) :: parts) (vs ++ out) n:=by
 obtain ⟨h1,h2,h3⟩:=gf.h;have hv:=gl.h;refine ⟨by simp; omega,by simp [h2,hv,Nat.add_mul]; omega,fun pre rest hp hr=>?_⟩;have hr':rest.length = parts.length * size + size:=by simpa [Nat.add_mul] using hr
 unfold Instr.fill;have hcs:¬ (i * size + size > (pre ++ rest).length):=by rw [length_append,hp,hr']; omega
 simp only [gc.h,size_toArray,hv,ne_eq,not_true_eq_false,decide_false,Bool.false_or,decide_eq_true_eq,hcs,if_false];have hfold:(vs.toArray.zipIdx.foldl (fun (cs:Array Value) (x:Value × Nat)=>cs.setIfInBounds (i * size + x.2) x.1) (pre ++ rest).toArray) = (pre ++ vs ++ rest.drop size).toArray:=by
  have:=kB vs (pre ++ rest) (i * size) 0;rw [Nat.add_zero,<- hp,tX _ _ _ (by omega),hv,hp] at this;rw [<- Array.foldl_toList,Array.toList_zipIdx];exact this
 rw [hfold,h3 (pre ++ vs) (rest.drop size) (by simp [hp,hv,Nat.add_mul]) (by simp [hr'])];simp
class eb (e size:Nat):Prop where
 zero:∃ v:Value,v.cells.size = size/\∀ w,(zeroValue e).run Tryz.prog w = .ok v w
theorem je {t e size n k:Nat} {parts:List (Nat × Value)} {out:List Value} [hS:Res w0 z0 B0 w z L] [g:bF t e size] [gz:eb e size] [gf:ru size 0 parts out n] (hn:k = n) (hsz:n * size <= 16777216)
  (hk:∀ b w',w0.heap.size <= b->Res w0 z0 B0 w' z ((b,.cells out.toArray e (0,0)) :: L)->K (.slice (some ⟨b,0,none⟩) n n) w'):V (bs t k parts.toArray) w K:=by
 subst hn;obtain ⟨zv,hz1,hz2⟩:=gz.zero;obtain ⟨h1,h2,h3⟩:=gf.h;simp only [Nat.zero_add] at h1;have hfill:∀ base:List Value,base.length = k * size->Instr.fill (fun i=>some (i * size,size)) base.toArray parts = some out.toArray:=fun base hb=>by
  have:=h3 [] base (by simp) (by rw [hb,h1])
  simpa using this
 refine ⟨_,_,?_,hk w.heap.size _ hS.size (hS.new (.cells out.toArray e (0,0)))⟩;have hle:¬ (k * size > 2 ^ 24):=by omega
 simp only [bs,Instr.buildSlice,Sem.run_bind,g.und,g.size,Result.andThen_ok,hle,if_false]
 by_cases h0:k * size = 0
 ·have hb:=hfill (((Array.range (k * size)).map fun i=>(#[]:Array Value)[i % (#[]:Array Value).size]!).toList) (by simp)
  simp only [Array.toArray_toList] at hb;simp only [h0,if_true,Sem.run_bind,bv,Result.andThen_ok] at hb ⊢;simp only [hb,newRow,newObj,Sem.run_bind]
  rfl
 ·have hb:=hfill (((Array.range (k * size)).map fun i=>zv.cells[i % zv.cells.size]!).toList) (by simp)
  simp only [Array.toArray_toList] at hb;simp only [h0,if_false,Sem.run_bind,hz2,Result.andThen_ok,bv,hb,newRow,newObj]
  rfl
end
end
section
section
variable {w0 w w':World} {z0 z z':Z} {B0 B B' L F:Bl} {b:Nat} {o:Obj} {C:Obj->Bl} {K:RP}
theorem jM {w:World} {b:Nat} {o:Obj} (h:w.heap[b]? = some o) (hn:∀ c e fr,o ≠ .cells c e fr):(getObj b).run Tryz.prog w = .ok o w:=by
 unfold getObj
 cases o <;> first | exact absurd rfl (hn _ _ _) | (simp only [Sem.run,h])
theorem lC {w:World} {b:Nat} {o o':Obj} (h:w.heap[b]? = some o) (hn:∀ c e fr,o ≠ .cells c e fr):(setObj b o').run Tryz.prog w = .ok () { w with heap:=w.heap.setIfInBounds b o' }:=by
 unfold setObj
 cases o <;> first | exact absurd rfl (hn _ _ _) | (simp only [Sem.run,h])
end
def eo {α:Type} (p:α->Bool) (xs:List α):Int:=match xs.findIdx? p with | some i=>i | none=>-1
theorem iz {α:Type} {p:α->Bool} {xs:List α} {k:Nat} {x:α} (h:∀ i y,i < k->xs[i]? = some y->p y = false) (hx:xs[k]? = some x) (hp:p x = true):eo p xs = k:=by
 have:xs.findIdx? p = some k:=by
  rw [findIdx?_eq_some_iff_getElem];obtain ⟨hlt,rfl⟩:=List.getElem?_eq_some_iff.1 hx;exact ⟨hlt,hp,fun j hj=>by simpa using h j _ hj (getElem?_eq_getElem (by omega))⟩
 unfold eo;rw [this]
theorem nT {α:Type} {p:α->Bool} {xs:List α} (h:∀ (i:Nat) y,xs[i]? = some y->p y = false):eo p xs = -1:=by
 have:xs.findIdx? p = none:=by
  rw [findIdx?_eq_none_iff];intro x hx;obtain ⟨i,hi⟩:=List.mem_iff_getElem?.1 hx;exact h i x hi
 unfold eo;rw [this]
theorem ub {α:Type} {p:α->Bool} {xs:List α}:eo p xs < 0 ↔ xs.any p = false:=by
 unfold eo
 cases h:xs.findIdx? p with
 | none=>
  simp only [findIdx?_eq_none_iff] at h;simp only [Int.reduceNeg,Int.reduceLT,any_eq_false,true_iff];intro x hx; simp [h x hx]
 | some i=>
  rw [findIdx?_eq_some_iff_getElem] at h;obtain ⟨hlt,hp,_⟩:=h;constructor
  ·intro hh; simp only at hh; omega
  ·intro hh; rw [any_eq_false] at hh; exact absurd hp (hh _ (getElem_mem hlt))
theorem xD {α:Type} {p:α->Bool} {xs:List α}:(decide (eo p xs ≥ 0)) = xs.any p:=by
 cases h:xs.any p with
 | false=>rw [decide_eq_false]; have:=(ub (p:=p) (xs:=xs)).2 h; omega
 | true=>rw [decide_eq_true]; have:=(ub (p:=p) (xs:=xs)); rw [h] at this; simp at this; exact this
class ke (f:FuncId) (e:outParam (Array Value->Sem Value)):Prop where
 h:∀ args w,(callFunc f args).run Tryz.prog w = Sem.run Tryz.prog (do pure (Next.value (<- e args))) w
theorem Cz {f:FuncId} {e:Array Value->Sem Value} [he:ke f e] {args:Array Value} {w:World} {v:Value} {K:RP} (h:(e args).run Tryz.prog w = .ok v w) (hk:K v w):CV (.func (.func f) #[] #[]) args w K:=by
 have:(dK (.func (.func f) #[] #[]) args).run Tryz.prog w = .ok (.value v) w:=by
  simp only [dK,Deferred.ofValue,pure_bind,invoke];have hh:=he.h (#[] ++ args ++ #[]) w;simp only [Array.empty_append,Array.append_empty] at hh ⊢;rw [hh];simp only [Sem.run_bind,h,Result.andThen_ok]
  rfl
 unfold CV CallV;rw [this];exact hk
end
section
section
variable {w0 w w':World} {z0 z z':Z} {B0 B B' L F:Bl} {b:Nat} {o:Obj} {C:Obj->Bl} {K:RP}
theorem rp (a:Addr):a.add 0 = a:=by
 unfold Addr.add;simp
theorem zl (a:Option Addr):a.map (·.add 0) = a:=by cases a <;> simp [rp]
instance {t e n len cap:Nat} {a:Option Addr} {h:Int} {k:IntKind} [g:bF t e n] [hr:InR h (cap + 1)]:Run (sl t (.slice a len cap) none (some (.int k h)) none) (.slice a h.toNat cap):=⟨fun w=>by
 have h1:h <= cap:=by have:=hr.h1; omega
 simp only [sl,Instr.sliceAt,Sem.run_bind,g.und,Result.andThen_ok,Instr.slice,Instr.sliceBounds,bv,Instr.sliceBound,asIntOf,pure_bind,hr.h0,h1,and_self,if_true,g.size,Nat.zero_mul,zl,Nat.sub_zero,ite_self]⟩
instance {t e n len cap b off:Nat} {l:Int} {k:IntKind} [g:bF t e n] [hr:InR l (len + 1)]:Run (sl t (.slice (some ⟨b,off,none⟩) len cap) (some (.int k l)) none none) (.slice (some ⟨b,if cap = l.toNat then off else off + l.toNat * n,none⟩) (len - l.toNat) (cap - l.toNat)):=⟨fun w=>by
 have h1:l <= len:=by have:=hr.h1; omega
 simp only [sl,Instr.sliceAt,Sem.run_bind,g.und,Result.andThen_ok,Instr.slice,Instr.sliceBounds,bv,Instr.sliceBound,asIntOf,pure_bind,hr.h0,h1,and_self,if_true,g.size,Option.map_some,dj,Option.isSome_none,Bool.false_eq_true,if_false]
 split <;> rfl⟩
instance {t:Nat} {s:ByteArray} {l:Int} {k:IntKind} [g:kM t] [hr:InR l (s.size + 1)]:Run (sl t (.string s) (some (.int k l)) none none) (.string (s.extract l.toNat s.size)):=⟨fun w=>by
 have h1:l <= s.size:=by have:=hr.h1; omega
 simp only [sl,Instr.sliceAt,Sem.run_bind,g.und,Result.andThen_ok,Instr.slice,Instr.sliceBounds,bv,Instr.sliceBound,asIntOf,pure_bind,hr.h0,h1,and_self,if_true,Option.isSome_none,Bool.false_eq_true,if_false]⟩
theorem qx {t:Nat} [g:am t] {cs:Array Value} {off:Nat} {v:Value} (h:cs[off]? = some v) (w:World):(part t cs off).run Tryz.prog w = .ok v w:=by
 simp only [part,Sem.run_bind,g.agg,Result.andThen_ok,Bool.false_eq_true,if_false,h]
 rfl
theorem nB {t n:Nat} [g:bn t n] [gs:aR t n] {cs:Array Value} {off:Nat} (w:World):(part t cs off).run Tryz.prog w = .ok (.agg (cs.extract off (off + n))) w:=by
 simp only [part,Sem.run_bind,g.agg,gs.size,Result.andThen_ok,if_true]
 rfl
class At1 (l:List Value) (i:Int) (v:outParam Value):Prop where
 h0:0 <= i
 h:l[i.toNat]? = some v
instance {t n e:Nat} [g:ja t n e 1] [ge:am e] {l:List Value} {i:Int} {k:IntKind} {v:Value} [hl:hG l n] [hv:At1 l i v]:Run (ix t (.agg l.toArray) (.int k i)) v:=⟨fun w=>by
 have h1:i < n:=by
  have h0:=hv.h0;have:=(List.getElem?_eq_some_iff.1 hv.h).1;rw [hl.h] at this; omega
 simp only [ix,Instr.index,asIntOf,pure_bind,Sem.run_bind,g.und,g.size,Result.andThen_ok,hv.h0,h1,and_self,if_true,Nat.mul_one];exact qx (by simpa using hv.h) w⟩
class wa (d t:Nat) (v v':Value) (r:outParam Bool):Prop where
 h:∀ w,(Op.equalIn d t v v').run Tryz.prog w = .ok r w
instance {d t:Nat} {a b:Bool} [g:wV t]:wa (d + 1) t (.bool a) (.bool b) (a == b):=⟨fun w=>tC d w⟩
instance {d t:Nat} {k kk:IntKind} {a b:Int} [g:gR t kk]:wa (d + 1) t (.int k a) (.int k b) (decide (a = b)):=⟨fun w=>by
 simp only [Op.equalIn,Sem.run_bind,g.und,Result.andThen_ok,if_true];rw [Bool.beq_eq_decide_eq]
 rfl⟩
instance {d t:Nat} {a b:ByteArray} [g:kM t]:wa (d + 1) t (.string a) (.string b) (decide (a = b)):=⟨fun w=>by
 simp only [Op.equalIn,Sem.run_bind,g.und,Result.andThen_ok];have h1:(a == b) = (a.data == b.data):=by cases a; cases b; rfl
 have:(a == b) = decide (a = b):=by
  rw [h1,Bool.eq_iff_iff];simp only [beq_iff_eq,decide_eq_true_eq];exact ⟨fun h=>by cases a; cases b; simp_all,fun h=>by rw [h]⟩
 rw [this]
 rfl⟩
noncomputable def fieldsOf (t:Nat):Array Field:=match Tryz.prog.underlying t with | some (.struct f)=>f | _=>#[]
class oP (t:TypeId) (fs:outParam (List (Nat × Nat))):Prop where
 und:∃ fields:Array Field,(∀ w,(underlying t).run Tryz.prog w = .ok (.struct fields) w)/\fields.toList.map (fun f=>(f.type,f.offset)) = fs/\fields.toList.all (fun f=>f.name != "_") = true
 stood:Tryz.prog.stoodInHeld t = false
 guard:Tryz.prog.eqGuardType Tryz.prog.depth t = false
class Cv (t:Nat) (l:List Value) (off:Nat) (v:outParam Value):Prop where
 h:∀ w,(part t l.toArray off).run Tryz.prog w = .ok v w
instance {t off:Nat} {l:List Value} {v:Value} [g:am t] [gg:Get l off v]:Cv t l off v:=⟨fun w=>qx (by simpa using gg.h) w⟩
class ya (d:Nat) (fs:List (Nat × Nat)) (l l':List Value) (r:outParam Bool):Prop where
 h:∀ w,∀ fields:List Field,fields.map (fun f=>(f.type,f.offset)) = fs->fields.all (fun f=>f.name != "_") = true ->
  ∃ x:Option Bool,(forIn (m:=Sem) fields ((none,()):Option Bool × Unit) (fun (f:Field) (_:Option Bool × Unit)=>
   if f.name ≠ "_" then (part f.type l.toArray f.offset >>= fun u=>part f.type l'.toArray f.offset >>= fun u'=>Op.equalIn d f.type u u' >>= fun r=>if (!r) = true then pure (ForInStep.done (some false,())) else pure (ForInStep.yield (none,())))
   else pure (ForInStep.yield (none,())))).run Tryz.prog w = .ok (x,()) w/\r = (match x with | none=>true | some y=>y)
instance {d:Nat} {l l':List Value}:ya d [] l l' true:=⟨fun w fields h _=>by
 have:fields = []:=by simpa using h
 subst this;exact ⟨none,rfl,rfl⟩⟩
instance {d t off:Nat} {fs:List (Nat × Nat)} {l l':List Value} {v v':Value} {a r:Bool} [p:Cv t l off v] [p':Cv t l' off v'] [e:wa d t v v' a] [g:ya d fs l l' r]:ya d ((t,off) :: fs) l l' (a && r):=⟨fun w fields h hn=>by
 cases fields with
 | nil=>simp at h
 | cons f fields=>
  simp only [map_cons,List.cons.injEq,Prod.mk.injEq] at h;obtain ⟨⟨rfl,rfl⟩,h3⟩:=h;simp only [all_cons,Bool.and_eq_true,bne_iff_ne] at hn;obtain ⟨x,h4,h5⟩:=g.h w fields h3 hn.2;simp only [forIn_cons,Sem.run_bind,ne_eq,hn.1,not_false_eq_true,if_true,p.h,p'.h,e.h,Result.andThen_ok]
  cases a with
  | false=>exact ⟨some false,rfl,rfl⟩
  | true=>
   refine ⟨x,?_,by simpa using h5⟩;simp only [Bool.not_true,Bool.false_eq_true,if_false,bv,Result.andThen_ok];exact h4⟩
instance {d t:Nat} {l l':List Value} {fs:List (Nat × Nat)} {r:Bool} [g:oP t fs] [e:ya d fs l l' r]:wa (d + 1) t (.agg l.toArray) (.agg l'.toArray) r:=⟨fun w=>by
 obtain ⟨fields,h1,h2,h3⟩:=g.und;obtain ⟨x,h4,h5⟩:=e.h w fields.toList h2 h3;simp only [Op.equalIn,Sem.run_bind,h1,Result.andThen_ok,program,Sem.run,g.stood,Bool.false_eq_true,if_false];rw [<- Array.forIn_toList];rw [h4,h5]
 cases x <;> rfl⟩
instance {t:Nat} {l l':List Value} {fs:List (Nat × Nat)} {r:Bool} {x y:Operand} [g:oP t fs] [e:ya 9999 fs l l' r]:Run (eq .eql t x y (.agg l.toArray) (.agg l'.toArray)) (.bool r):=⟨fun w=>by
 have h:(Op.equalIn Op.maxDepth t (.agg l.toArray) (.agg l'.toArray)).run Tryz.prog w = .ok r w:=(inferInstance:wa (9999 + 1) t (.agg l.toArray) (.agg l'.toArray) r).h w;simp [eq,eqGuard,binOp,Op.equal,Sem.run_bind,h,program,Sem.run,g.guard]⟩
instance {t:Nat} {l l':List Value} {fs:List (Nat × Nat)} {r:Bool} {x y:Operand} [g:oP t fs] [e:ya 9999 fs l l' r]:Run (eq .neq t x y (.agg l.toArray) (.agg l'.toArray)) (.bool (!r)):=⟨fun w=>by
 have h:(Op.equalIn Op.maxDepth t (.agg l.toArray) (.agg l'.toArray)).run Tryz.prog w = .ok r w:=(inferInstance:wa (9999 + 1) t (.agg l.toArray) (.agg l'.toArray) r).h w;simp [eq,eqGuard,binOp,Op.equal,Sem.run_bind,h,program,Sem.run,g.guard]⟩
theorem ud (d:Nat) {t e n len cap:Nat} {a:Option Addr} [g:bF t e n] (w:World):(Op.equalIn (d + 1) t (.slice a len cap) (.slice none 0 0)).run Tryz.prog w = .ok a.isNone w:=by
 simp only [Op.equalIn,Sem.run_bind,g.und,Result.andThen_ok]
 cases a <;> rfl
theorem yN {t e n len cap:Nat} {a:Option Addr} [g:bF t e n] (w:World):(Op.equalIn Op.maxDepth t (.slice a len cap) (.slice none 0 0)).run Tryz.prog w = .ok a.isNone w:=ud 9999 w
instance {t e n len cap:Nat} {a:Option Addr} {x y:Operand} [g:bF t e n]:Run (eq .eql t x y (.slice a len cap) (.slice none 0 0)) (.bool a.isNone):=⟨fun w=>by
 simp [eq,eqGuard,binOp,Op.equal,Sem.run_bind,yN,Sem.run]⟩
def mO (kd:IntKind) (l:List (Int × Value)):Obj:=.map (l.zipIdx.map fun p=>({ key:=.int kd p.1.1,val:=p.1.2,born:=p.2 }:MapEntry)).toArray l.length
theorem DW [hS:Res w0 z0 B0 w z L] {t k e:Nat} {kd:IntKind} [g:fA t k e] [gk:gR k kd] (hk:∀ b w',w0.heap.size <= b->Res w0 z0 B0 w' z ((b,mO kd []) :: L)->K (.map (some b)) w'):V (mm t none) w K:=by
 refine ⟨_,_,?_,hk w.heap.size _ hS.size (hS.new (mO kd []))⟩;simp only [mm,Instr.makeMap,Sem.run_bind,newObj,Sem.run,Result.andThen_ok]
 rfl
theorem sy (kd:IntKind) (k:Int) (d:TypeDesc) (hd:d = .int kd):∀ (l:List (Int × Value)) (j i:Nat),Instr.findNow d (.int kd k) ((l.zipIdx j).map fun p=>({ key:=.int kd p.1.1,val:=p.1.2,born:=p.2 }:MapEntry)) i = some ((l.findIdx? (·.1 == k)).bind fun m=>(l[m]?).map fun p=>(i + m,p.2)):=by
 subst hd;intro l
 induction l with
 | nil=>intro j i; rfl
 | cons p l ih=>
  intro j i;simp only [zipIdx_cons,map_cons,Instr.findNow,Instr.sameNow,if_true];rw [findIdx?_cons]
  by_cases h:k = p.1
  ·subst h; simp
  ·have h1:(k == p.1) = false:=by simpa using h
   have h2:(p.1 == k) = false:=by simpa using fun e=>h e.symm
   simp only [h1,h2,Bool.false_eq_true,if_false,ih (j + 1) (i + 1)]
   cases l.findIdx? (·.1 == k) with
   | none=>rfl
   | some m=>simp [Nat.add_comm,Nat.add_left_comm,Nat.add_assoc]
theorem oI {k:Nat} {kd:IntKind} [gk:gR k kd] (n:Int) (l:List (Int × Value)) (w:World) :
  (Instr.findKey k (.int kd n) (l.zipIdx.map fun p=>({ key:=.int kd p.1.1,val:=p.1.2,born:=p.2 }:MapEntry))).run Tryz.prog w = .ok ((l.findIdx? (·.1 == n)).bind fun m=>(l[m]?).map fun p=>(m,p.2)) w:=by
 simp only [Instr.findKey,Sem.run_bind,gk.und,Result.andThen_ok,sy kd n _ rfl,Nat.zero_add]
 rfl
theorem qg (d:Nat) {k:Nat} {kd:IntKind} [gk:gR k kd] (e:Bool) (n:Int) (w:World):(Instr.checkKey e (d + 1) k (.int kd n)).run Tryz.prog w = .ok () w:=by
 simp only [Instr.checkKey,Sem.run_bind,gk.und,Result.andThen_ok]
 rfl
theorem jS {k:Nat} {kd:IntKind} [gk:gR k kd] (e:Bool) (n:Int) (w:World):(Instr.checkKey e 10000 k (.int kd n)).run Tryz.prog w = .ok () w:=qg 9999 e n w
theorem mS {K:World->Prop} [hS:Res w0 z0 B0 w z L] {t k e:Nat} {kd:IntKind} [g:fA t k e] [gk:gR k kd] {n:Int} {v:Value} {l:List (Int × Value)} [gb:Blk L b (mO kd l) C] (hne:∀ p ∈ l,p.1 ≠ n)
  (hk:∀ w',Res w0 z0 B0 w' z (C (mO kd (l ++ [(n,v)])))->K w'):U (mu t (.map (some b)) (.int kd n) v) w K:=by
 refine ⟨_,?_,hk _ (Res.set (g:=gb) hS (mO kd (l ++ [(n,v)])) rfl)⟩;have hat:=Res.at_ (g:=gb) hS;have hno:l.findIdx? (·.1 == n) = none:=by
  rw [findIdx?_eq_none_iff]; intro p hp; simpa using hne p hp
 simp only [mu,Instr.mapUpdate,Sem.run_bind,g.und,Result.andThen_ok];rw [jM hat (by intros; simp [mO])];simp only [mO,Result.andThen_ok,Sem.run_bind,jS,oI,hno,Option.bind_none];rw [lC hat (by intros; simp [mO])];simp [zipIdx_append]
def lkF (l:List (Int × Value)) (n:Int) (z:Value):Value × Bool:=match l.find? (·.1 == n) with | some p=>(p.2,true) | none=>(z,false)
theorem AD (l:List (Int × Value)) (n:Int):((l.findIdx? (·.1 == n)).bind fun m=>(l[m]?).map fun p=>(m,p.2)).map (·.2) = (l.find? (·.1 == n)).map (·.2):=by
 induction l with
 | nil=>rfl
 | cons p l ih=>
  rw [findIdx?_cons,find?_cons]
  cases h:p.1 == n with
  | true=>simp
  | false=>
   simp only [Bool.false_eq_true,if_false];rw [<- ih]
   cases l.findIdx? (·.1 == n) <;> simp [Function.comp_def]
theorem yx [hS:Res w0 z0 B0 w z L] {t k e:Nat} {kd:IntKind} [g:fA t k e] [gk:gR k kd] {n:Int} {zv:Value} {l:List (Int × Value)} [gb:Blk L b (mO kd l) C] (hz:∀ w,(zeroValue e).run Tryz.prog w = .ok zv w) (c:Bool) :
  (lk t (.map (some b)) (.int kd n) c).run Tryz.prog w = .ok (if c then .tuple #[(lkF l n zv).1,.bool (lkF l n zv).2] else (lkF l n zv).1) w:=by
 have hat:=Res.at_ (g:=gb) hS;simp only [lk,Instr.lookup,Sem.run_bind,g.und,Result.andThen_ok];rw [jM hat (by intros; simp [mO])];simp only [mO,Result.andThen_ok,Sem.run_bind,jS,oI,bv];have:=AD l n
 cases h:((l.findIdx? (·.1 == n)).bind fun m=>(l[m]?).map fun p=>(m,p.2)) with
 | none=>
  rw [h] at this;simp only [Option.map_none] at this;have h2:l.find? (·.1 == n) = none:=by cases hh:l.find? (·.1 == n) <;> simp_all
  simp only [lkF,h2,Sem.run_bind,hz,Result.andThen_ok,bv]
 | some q=>
  rw [h] at this;simp only [Option.map_some] at this;obtain ⟨p,h2,h3⟩:=Option.map_eq_some_iff.1 this.symm;simp only [lkF,h2,h3,Sem.run_bind,bv,Result.andThen_ok]
theorem uR [hS:Res w0 z0 B0 w z L] {t e size n bytes:Nat} {k k':IntKind} {zs:List Value} [g:fP t e size bytes] [gs:bF t e size] [gz:bD e zs] [gl:hG zs size] (hn:n * bytes <= 1048576) (hn2:n <= 1048576)
  (hk:∀ b w',w0.heap.size <= b->Res w0 z0 B0 w' z ((b,.cells ((List.range (n * size)).map fun i=>zs[i % zs.length]!).toArray e (0,0)) :: L)->K (.slice (some ⟨b,0,none⟩) n n) w'):V (ms t (.int k n) (.int k' n)) w K:=by
 obtain ⟨zv,hinfo,hzs⟩:=g.info;obtain ⟨i,hi,hz⟩:=Option.map_eq_some_iff.1 hinfo;simp only [Prod.mk.injEq] at hz;obtain ⟨hz0,hz1,hz2⟩:=hz;obtain ⟨zv',hc,hr⟩:=gz.h;have hwr:IntKind.i64.wrap n = n:=hU ⟨by omega,by omega⟩;refine ⟨_,_,?_,hk w.heap.size _ hS.size (hS.new (.cells ((List.range (n * size)).map fun i=>zs[i % zs.length]!).toArray e (0,0)))⟩;have hty:(typeInfo e).run Tryz.prog w = .ok i w:=by
  simp [typeInfo,Sem.run_bind,program,Sem.run,hi]
 have hsm:¬ ((bytes:Int) * n > 2 ^ 48):=by
  have:((n * bytes:Nat):Int) <= 1048576:=by omega
  rw [Int.natCast_mul,Int.mul_comm] at this;omega
 have hask:¬ (n * bytes > roomBytes):=by simp only [roomBytes]; omega
 simp only [ms,Instr.makeSlice,Sem.run_bind,gs.und,gs.size,Result.andThen_ok,asInt,asIntOf,pure_bind,bv,hty,hz2,hwr];have h0:¬ ((n:Int) < 0):=by omega
 simp only [h0,decide_false,Bool.false_or,Int.lt_irrefl,gt_iff_lt,hsm,decide_eq_true_eq,or_self,if_false,Bool.false_eq_true,askRoom,Int.toNat_natCast,Sem.run_bind];simp only [gt_iff_lt] at hask;simp only [hask,if_false,bv,Result.andThen_ok,gs.size]
 by_cases hz:n * size = 0
 ·have e1:(Array.map (fun x=>(#[]:Array Value)[x % (#[]:Array Value).size]!) (Array.range 0)) = ((List.range 0).map fun i=>zs[i % zs.length]!).toArray:=by
   apply Array.toList_inj.1
   simp
  simp only [hz,if_true,newRow,newObj,Sem.run_bind];rw [e1]
  rfl
 ·simp only [hz,if_false,newRow,newObj,Sem.run_bind,hr,Result.andThen_ok,hc]
  have:(Array.map (fun x=>zs.toArray[x % zs.toArray.size]!) (Array.range (n * size))) = ((List.range (n * size)).map fun i=>zs[i % zs.length]!).toArray:=by
   apply Array.toList_inj.1
   simp
  rw [this]
  rfl
end
end
section
class PC (F:(LP)->Prop) (w0:outParam World) (z0:outParam Z) (B0:outParam Bl) (z:outParam Z) (L:outParam Bl) (x:outParam Bool):Prop where
 h:∀ K:LP,(∀ z' w',Le z z'->Res w0 z0 B0 w' z' L->K [.bool x] w')->F K
structure mo (w0:World) (z0:Z) (B0:Bl) (z:Z) (L:Bl) where
 z':Z
 w:World
 le:Le z z'
 res:Res w0 z0 B0 w z' L
instance {w0:World} {z0 z:Z} {B0 L:Bl} {q:mo w0 z0 B0 z L}:Res w0 z0 B0 q.w q.z' L:=q.res
section
variable {w0 w w':World} {z0 z z':Z} {B0 B B' L F:Bl} {b:Nat} {o:Obj} {C:Obj->Bl} {x y:Bool}
instance PC.lit [hS:Res w0 z0 B0 w z L]:PC (fun K=>K [.bool x] w) w0 z0 B0 z L x:=⟨fun _ h=>h _ _ (Le.refl _) hS⟩
instance PC.val {s:Sem Value} {v:Value} {G:(LP)->RP} [g:Run s v] [h:PC (fun K=>G K v w) w0 z0 B0 z L x]:PC (fun K=>V s w (G K)) w0 z0 B0 z L x:=
 ⟨fun K hK=>aA (h.h K hK)⟩
instance PC.ld1 {t off:Nat} {v:Value} {l:List Value} {ty:TypeId} {fr:Nat × Nat} {G:(LP)->RP} [hS:Res w0 z0 B0 w z L] [g:am t] [Blk L b (.cells l.toArray ty fr) C] [Get l off v] [h:PC (fun K=>G K v w) w0 z0 B0 z L x] :
  PC (fun K=>V (ld t (.pointer (some ⟨b,off,none⟩))) w (G K)) w0 z0 B0 z L x:=⟨fun K hK=>tJ hS (h.h K hK)⟩
instance PC.ldN {t n off:Nat} {vs:List Value} {l:List Value} {ty:TypeId} {fr:Nat × Nat} {G:(LP)->RP} [hS:Res w0 z0 B0 w z L] [g:bn t n] [gs:aR t n] [Blk L b (.cells l.toArray ty fr) C] [gn:GetN l off n vs] [h:PC (fun K=>G K (.agg vs.toArray) w) w0 z0 B0 z L x] :
  PC (fun K=>V (ld t (.pointer (some ⟨b,off,none⟩))) w (G K)) w0 z0 B0 z L x:=⟨fun K hK=>AW hS (h.h K hK)⟩
instance PC.call {f:FuncId} {args:Array Value} {v:Value} {G:(LP)->RP} [hS:Res w0 z0 B0 w z L] [aD f] [g:Pu f args v] [h:∀ q:mo w0 z0 B0 z L,PC (fun K=>G K v q.w) w0 z0 B0 q.z' L x] :
  PC (fun K=>CV (.func (.func f) #[] #[]) args w (G K)) w0 z0 B0 z L x:=⟨fun K hK=>aN fun z' w' hz hS'=>(h ⟨z',w',hz,hS'⟩).h K fun z'' w'' hz' hS''=>hK z'' w'' (hz.trans hz') hS''⟩
class LkV (l:List (Int × Value)) (n:Int) (zv:Value) (v:outParam Value):Prop where
 h:(lkF l n zv).1 = v
class jZ (e:TypeId) (zv:outParam Value):Prop where
 h:∀ w,(zeroValue e).run Tryz.prog w = .ok zv w
theorem Cj {K:RP} [hS:Res w0 z0 B0 w z L] {t k e:Nat} {kd:IntKind} {zv v:Value} [g:fA t k e] [gk:gR k kd] [gz:jZ e zv] {n:Int} {l:List (Int × Value)} [gb:Blk L b (mO kd l) C] [gv:LkV l n zv v]
  (hk:K v w):V (lk t (.map (some b)) (.int kd n) false) w K:=⟨_,w,yx (gb:=gb) gz.h false,by rw [<- gv.h] at hk; exact hk⟩
instance PC.lk {t k e:Nat} {kd:IntKind} {zv v:Value} {G:(LP)->RP} [hS:Res w0 z0 B0 w z L] [g:fA t k e] [gk:gR k kd] [gz:jZ e zv] {n:Int} {l:List (Int × Value)} [gb:Blk L b (mO kd l) C] [gv:LkV l n zv v] [h:PC (fun K=>G K v w) w0 z0 B0 z L x] :
  PC (fun K=>V (Go.Proofs.YtbeelfopmkbllaaGreatDoor.lk t (.map (some b)) (.int kd n) false) w (G K)) w0 z0 B0 z L x:=⟨fun K hK=>Cj (C:=C) (h.h K hK)⟩
instance PC.cond {A A':(LP)->Prop} {c:Bool} [h1:PC A w0 z0 B0 z L x] [h2:PC A' w0 z0 B0 z L y]:PC (fun K=>aB (.bool c) (A K) (A' K)) w0 z0 B0 z L (bif c then x else y):=
 ⟨fun K hK=>⟨c,rfl,fun hb=>h1.h K (by subst hb; exact hK),fun hb=>h2.h K (by subst hb; exact hK)⟩⟩
instance PC.join {H:(LP)->RP} {body:(LP)->(LP)->Prop} [h1:∀ K,PC (body K) w0 z0 B0 z L x] [h2:∀ q:mo w0 z0 B0 z L,PC (fun K=>H K (.bool x) q.w) w0 z0 B0 q.z' L y] :
  PC (fun K=>∀ K1:LP,(∀ t w,(∀ _:Env,H K t w)->K1 [t] w)->body K K1) w0 z0 B0 z L y:=
 ⟨fun K hK K1 hK1=>(h1 K).h K1 fun z' w' hz hS=>hK1 _ _ fun _=>(h2 ⟨z',w',hz,hS⟩).h K fun z'' w'' hz' hS'=>hK z'' w'' (hz.trans hz') hS'⟩
theorem JC {rest:RP} {body:(LP)->Prop} [g:PC body w0 z0 B0 z L x] (h:∀ z' w',Le z z'->Res w0 z0 B0 w' z' L->rest (.bool x) w'):∀ K:LP,(∀ t w,(∀ _:Env,rest t w)->K [t] w)->body K:=
 fun K hK=>g.h K fun z' w' hz hS=>hK _ _ fun _=>h z' w' hz hS
class Fz (z:Z) (b off:Nat) (vs:outParam (List Value)):Prop where
 h:At z b off vs
theorem aL {K:RP} [hS:Res w0 z0 B0 w z L] {t:TypeId} [g:am t] {off:Nat} {v:Value} [h:Fz z0 b off [v]] (hk:K v w):V (ld t (.pointer (some ⟨b,off,none⟩))) w K:=bL (h.h.mono hS.zle) hk
theorem bV {K:RP} [hS:Res w0 z0 B0 w z L] {t n:Nat} [g:bn t n] [gs:aR t n] {off:Nat} {vs:List Value} [h:Fz z0 b off vs] [hl:hG vs n] (hk:K (.agg vs.toArray) w):V (ld t (.pointer (some ⟨b,off,none⟩))) w K:=kz (h.h.mono hS.zle) hl.h hk
theorem bz {K:Value->Prop} [hS:Res w0 z0 B0 w z L] {t:TypeId} [g:am t] {off:Nat} {v:Value} [h:Fz z0 b off [v]] (hk:K v):HV (ld t (.pointer (some ⟨b,off,none⟩))) w K:=fh (h.h.mono hS.zle) hk
theorem jO {K:Value->Prop} [hS:Res w0 z0 B0 w z L] {t n:Nat} [g:bn t n] [gs:aR t n] {off:Nat} {vs:List Value} [h:Fz z0 b off vs] [hl:hG vs n] (hk:K (.agg vs.toArray)):HV (ld t (.pointer (some ⟨b,off,none⟩))) w K:=wf (h.h.mono hS.zle) hl.h hk
end
end
section
open Go Q
instance:am 3:=⟨fun _=>by kernel_rfl⟩
instance:aR 3 1:=⟨fun _=>by kernel_rfl⟩
instance:jZ 3 (.int .i64 0):=⟨fun _=>by kernel_rfl⟩
instance:bD 3 [(.int .i64 0)]:=⟨(.int .i64 0),rfl,fun _=>by kernel_rfl⟩
instance:gR 3 .i64:=⟨fun _=>by kernel_rfl⟩
instance:am 4:=⟨fun _=>by kernel_rfl⟩
instance:aR 4 1:=⟨fun _=>by kernel_rfl⟩
instance:jZ 4 (.bool false):=⟨fun _=>by kernel_rfl⟩
instance:bD 4 [(.bool false)]:=⟨(.bool false),rfl,fun _=>by kernel_rfl⟩
instance:wV 4:=⟨fun _=>by kernel_rfl⟩
instance:am 5:=⟨fun _=>by kernel_rfl⟩
instance:gR 5 .u8:=⟨fun _=>by kernel_rfl⟩
instance:am 9:=⟨fun _=>by kernel_rfl⟩
instance:aR 9 1:=⟨fun _=>by kernel_rfl⟩
instance:kM 9:=⟨fun _=>by kernel_rfl⟩
instance:am 22:=⟨fun _=>by kernel_rfl⟩
instance:aR 22 1:=⟨fun _=>by kernel_rfl⟩
instance:bF 22 9 1:=⟨fun _=>by kernel_rfl,fun _=>by kernel_rfl⟩
instance:eb 9 1:=⟨(.string ⟨#[]⟩),rfl,fun _=>by kernel_rfl⟩
instance:fP 22 9 1 16:=⟨by kernel_rfl,⟨(.string ⟨#[]⟩),by kernel_rfl,rfl⟩,by decide⟩
instance:am 23:=⟨fun _=>by kernel_rfl⟩
instance:aR 23 1:=⟨fun _=>by kernel_rfl⟩
instance:bF 23 93 1:=⟨fun _=>by kernel_rfl,fun _=>by kernel_rfl⟩
instance:eb 93 1:=⟨(.slice none 0 0),rfl,fun _=>by kernel_rfl⟩
instance:fP 23 93 1 24:=⟨by kernel_rfl,⟨(.slice none 0 0),by kernel_rfl,rfl⟩,by decide⟩
instance:am 24:=⟨fun _=>by kernel_rfl⟩
instance:aR 24 1:=⟨fun _=>by kernel_rfl⟩
instance:bF 24 96 1:=⟨fun _=>by kernel_rfl,fun _=>by kernel_rfl⟩
instance:eb 96 1:=⟨(.slice none 0 0),rfl,fun _=>by kernel_rfl⟩
instance:fP 24 96 1 24:=⟨by kernel_rfl,⟨(.slice none 0 0),by kernel_rfl,rfl⟩,by decide⟩
instance:am 25:=⟨fun _=>by kernel_rfl⟩
instance:aR 25 1:=⟨fun _=>by kernel_rfl⟩
instance:bF 25 54 2:=⟨fun _=>by kernel_rfl,fun _=>by kernel_rfl⟩
instance:eb 54 2:=⟨(.agg #[(.string ⟨#[]⟩),(.int .i64 0)]),rfl,fun _=>by kernel_rfl⟩
instance:fP 25 54 2 24:=⟨by kernel_rfl,⟨(.agg #[(.string ⟨#[]⟩),(.int .i64 0)]),by kernel_rfl,rfl⟩,by decide⟩
instance:am 26:=⟨fun _=>by kernel_rfl⟩
instance:aR 26 1:=⟨fun _=>by kernel_rfl⟩
instance:bF 26 38 4:=⟨fun _=>by kernel_rfl,fun _=>by kernel_rfl⟩
instance:eb 38 4:=⟨(.agg #[(.int .i64 0),(.int .i64 0),(.int .i64 0),(.int .i64 0)]),rfl,fun _=>by kernel_rfl⟩
instance:fP 26 38 4 32:=⟨by kernel_rfl,⟨(.agg #[(.int .i64 0),(.int .i64 0),(.int .i64 0),(.int .i64 0)]),by kernel_rfl,rfl⟩,by decide⟩
instance:bn 28 6:=⟨fun _=>by kernel_rfl⟩
instance:aR 28 6:=⟨fun _=>by kernel_rfl⟩
instance:bD 28 [(.slice none 0 0),(.slice none 0 0),(.slice none 0 0),(.slice none 0 0),(.slice none 0 0),(.slice none 0 0)]:=⟨(.agg #[(.slice none 0 0),(.slice none 0 0),(.slice none 0 0),(.slice none 0 0),(.slice none 0 0),(.slice none 0 0)]),rfl,fun _=>by kernel_rfl⟩
instance:Fld 28 0 0:=⟨fun _ _=>by kernel_rfl⟩
instance:Fld 28 1 1:=⟨fun _ _=>by kernel_rfl⟩
instance:Fld 28 2 2:=⟨fun _ _=>by kernel_rfl⟩
instance:Fld 28 3 3:=⟨fun _ _=>by kernel_rfl⟩
instance:Fld 28 4 4:=⟨fun _ _=>by kernel_rfl⟩
instance:Fld 28 5 5:=⟨fun _ _=>by kernel_rfl⟩
instance:cN 28 [(.slice none 0 0),(.slice none 0 0),(.slice none 0 0),(.slice none 0 0),(.slice none 0 0),(.slice none 0 0)] [(0,1),(1,1),(2,1),(3,1),(4,1),(5,1)]:=⟨fun _ _=>by kernel_rfl⟩
instance:am 31:=⟨fun _=>by kernel_rfl⟩
instance:bn 35 2:=⟨fun _=>by kernel_rfl⟩
instance:aR 35 2:=⟨fun _=>by kernel_rfl⟩
instance:bD 35 [(.int .i64 0),(.int .i64 0)]:=⟨(.agg #[(.int .i64 0),(.int .i64 0)]),rfl,fun _=>by kernel_rfl⟩
instance:Fld 35 0 0:=⟨fun _ _=>by kernel_rfl⟩
instance:cN 35 [(.int .i64 0),(.int .i64 0)] [(0,1),(1,1)]:=⟨fun _ _=>by kernel_rfl⟩
instance:bn 38 4:=⟨fun _=>by kernel_rfl⟩
instance:aR 38 4:=⟨fun _=>by kernel_rfl⟩
instance:bD 38 [(.int .i64 0),(.int .i64 0),(.int .i64 0),(.int .i64 0)]:=⟨(.agg #[(.int .i64 0),(.int .i64 0),(.int .i64 0),(.int .i64 0)]),rfl,fun _=>by kernel_rfl⟩
instance:Fld 38 0 0:=⟨fun _ _=>by kernel_rfl⟩
instance:Fld 38 1 1:=⟨fun _ _=>by kernel_rfl⟩
instance:Fld 38 2 2:=⟨fun _ _=>by kernel_rfl⟩
instance:Fld 38 3 3:=⟨fun _ _=>by kernel_rfl⟩
instance:cN 38 [(.int .i64 0),(.int .i64 0),(.int .i64 0),(.int .i64 0)] [(0,1),(1,1),(2,1),(3,1)]:=⟨fun _ _=>by kernel_rfl⟩
instance:oP 38 [(3,0),(3,1),(3,2),(3,3)]:=⟨⟨fieldsOf 38,fun _=>by kernel_rfl,by kernel_rfl,by kernel_rfl⟩,by kernel_rfl,by kernel_rfl⟩
instance:bn 42 3:=⟨fun _=>by kernel_rfl⟩
instance:aR 42 3:=⟨fun _=>by kernel_rfl⟩
instance:bD 42 [(.int .i64 0),(.int .i64 0),(.int .i64 0)]:=⟨(.agg #[(.int .i64 0),(.int .i64 0),(.int .i64 0)]),rfl,fun _=>by kernel_rfl⟩
instance:Fld 42 0 0:=⟨fun _ _=>by kernel_rfl⟩
instance:Fld 42 1 1:=⟨fun _ _=>by kernel_rfl⟩
instance:cN 42 [(.int .i64 0),(.int .i64 0),(.int .i64 0)] [(0,1),(1,1),(2,1)]:=⟨fun _ _=>by kernel_rfl⟩
instance:Cy 42 2 2:=⟨fun _ _=>by kernel_rfl⟩
instance:am 45:=⟨fun _=>by kernel_rfl⟩
instance:aR 45 1:=⟨fun _=>by kernel_rfl⟩
instance:bD 45 [(.slice none 0 0)]:=⟨(.slice none 0 0),rfl,fun _=>by kernel_rfl⟩
instance:bF 45 3 1:=⟨fun _=>by kernel_rfl,fun _=>by kernel_rfl⟩
instance:eb 3 1:=⟨(.int .i64 0),rfl,fun _=>by kernel_rfl⟩
instance:fP 45 3 1 8:=⟨by kernel_rfl,⟨(.int .i64 0),by kernel_rfl,rfl⟩,by decide⟩
instance:bF 49 4 1:=⟨fun _=>by kernel_rfl,fun _=>by kernel_rfl⟩
instance:fP 49 4 1 1:=⟨by kernel_rfl,⟨(.bool false),by kernel_rfl,rfl⟩,by decide⟩
instance:bn 54 2:=⟨fun _=>by kernel_rfl⟩
instance:aR 54 2:=⟨fun _=>by kernel_rfl⟩
instance:bD 54 [(.string ⟨#[]⟩),(.int .i64 0)]:=⟨(.agg #[(.string ⟨#[]⟩),(.int .i64 0)]),rfl,fun _=>by kernel_rfl⟩
instance:Fld 54 0 0:=⟨fun _ _=>by kernel_rfl⟩
instance:Fld 54 1 1:=⟨fun _ _=>by kernel_rfl⟩
instance:cN 54 [(.string ⟨#[]⟩),(.int .i64 0)] [(0,1),(1,1)]:=⟨fun _ _=>by kernel_rfl⟩
instance:oP 54 [(9,0),(3,1)]:=⟨⟨fieldsOf 54,fun _=>by kernel_rfl,by kernel_rfl,by kernel_rfl⟩,by kernel_rfl,by kernel_rfl⟩
instance:am 55:=⟨fun _=>by kernel_rfl⟩
instance:aR 55 1:=⟨fun _=>by kernel_rfl⟩
instance:bF 55 5 1:=⟨fun _=>by kernel_rfl,fun _=>by kernel_rfl⟩
instance:eb 5 1:=⟨(.int .u8 0),rfl,fun _=>by kernel_rfl⟩
instance:fP 55 5 1 1:=⟨by kernel_rfl,⟨(.int .u8 0),by kernel_rfl,rfl⟩,by decide⟩
instance:bn 60 3:=⟨fun _=>by kernel_rfl⟩
instance:aR 60 3:=⟨fun _=>by kernel_rfl⟩
instance:bD 60 [(.slice none 0 0),(.slice none 0 0),(.int .i64 0)]:=⟨(.agg #[(.slice none 0 0),(.slice none 0 0),(.int .i64 0)]),rfl,fun _=>by kernel_rfl⟩
instance:Fld 60 0 0:=⟨fun _ _=>by kernel_rfl⟩
instance:Fld 60 1 1:=⟨fun _ _=>by kernel_rfl⟩
instance:cN 60 [(.slice none 0 0),(.slice none 0 0),(.int .i64 0)] [(0,1),(1,1),(2,1)]:=⟨fun _ _=>by kernel_rfl⟩
instance:Cy 60 2 2:=⟨fun _ _=>by kernel_rfl⟩
instance:bn 78 8:=⟨fun _=>by kernel_rfl⟩
instance:aR 78 8:=⟨fun _=>by kernel_rfl⟩
instance:bD 78 [(.slice none 0 0),(.slice none 0 0),(.slice none 0 0),(.slice none 0 0),(.slice none 0 0),(.slice none 0 0),(.int .i64 0),(.int .i64 0)]:=⟨(.agg #[(.slice none 0 0),(.slice none 0 0),(.slice none 0 0),(.slice none 0 0),(.slice none 0 0),(.slice none 0 0),(.int .i64 0),(.int .i64 0)]),rfl,fun _=>by kernel_rfl⟩
instance:Fld 78 0 0:=⟨fun _ _=>by kernel_rfl⟩
instance:Fld 78 1 6:=⟨fun _ _=>by kernel_rfl⟩
instance:Fld 78 2 7:=⟨fun _ _=>by kernel_rfl⟩
instance:cN 78 [(.slice none 0 0),(.slice none 0 0),(.slice none 0 0),(.slice none 0 0),(.slice none 0 0),(.slice none 0 0),(.int .i64 0),(.int .i64 0)] [(0,6),(6,1),(7,1)]:=⟨fun _ _=>by kernel_rfl⟩
instance:bn 85 2:=⟨fun _=>by kernel_rfl⟩
instance:aR 85 2:=⟨fun _=>by kernel_rfl⟩
instance:bD 85 [(.string ⟨#[]⟩),(.int .i64 0)]:=⟨(.agg #[(.string ⟨#[]⟩),(.int .i64 0)]),rfl,fun _=>by kernel_rfl⟩
instance:Fld 85 0 0:=⟨fun _ _=>by kernel_rfl⟩
instance:Fld 85 1 1:=⟨fun _ _=>by kernel_rfl⟩
instance:cN 85 [(.string ⟨#[]⟩),(.int .i64 0)] [(0,1),(1,1)]:=⟨fun _ _=>by kernel_rfl⟩
instance:am 93:=⟨fun _=>by kernel_rfl⟩
instance:aR 93 1:=⟨fun _=>by kernel_rfl⟩
instance:bF 93 95 3:=⟨fun _=>by kernel_rfl,fun _=>by kernel_rfl⟩
instance:eb 95 3:=⟨(.agg #[(.int .i64 0),(.string ⟨#[]⟩),(.int .i64 0)]),rfl,fun _=>by kernel_rfl⟩
instance:fP 93 95 3 32:=⟨by kernel_rfl,⟨(.agg #[(.int .i64 0),(.string ⟨#[]⟩),(.int .i64 0)]),by kernel_rfl,rfl⟩,by decide⟩
instance:bn 95 3:=⟨fun _=>by kernel_rfl⟩
instance:aR 95 3:=⟨fun _=>by kernel_rfl⟩
instance:bD 95 [(.int .i64 0),(.string ⟨#[]⟩),(.int .i64 0)]:=⟨(.agg #[(.int .i64 0),(.string ⟨#[]⟩),(.int .i64 0)]),rfl,fun _=>by kernel_rfl⟩
instance:Fld 95 0 0:=⟨fun _ _=>by kernel_rfl⟩
instance:Fld 95 1 1:=⟨fun _ _=>by kernel_rfl⟩
instance:Fld 95 2 2:=⟨fun _ _=>by kernel_rfl⟩
instance:cN 95 [(.int .i64 0),(.string ⟨#[]⟩),(.int .i64 0)] [(0,1),(1,1),(2,1)]:=⟨fun _ _=>by kernel_rfl⟩
instance:oP 95 [(3,0),(9,1),(3,2)]:=⟨⟨fieldsOf 95,fun _=>by kernel_rfl,by kernel_rfl,by kernel_rfl⟩,by kernel_rfl,by kernel_rfl⟩
instance:am 96:=⟨fun _=>by kernel_rfl⟩
instance:aR 96 1:=⟨fun _=>by kernel_rfl⟩
instance:bF 96 98 2:=⟨fun _=>by kernel_rfl,fun _=>by kernel_rfl⟩
instance:eb 98 2:=⟨(.agg #[(.string ⟨#[]⟩),(.bool false)]),rfl,fun _=>by kernel_rfl⟩
instance:fP 96 98 2 24:=⟨by kernel_rfl,⟨(.agg #[(.string ⟨#[]⟩),(.bool false)]),by kernel_rfl,rfl⟩,by decide⟩
instance:bn 98 2:=⟨fun _=>by kernel_rfl⟩
instance:aR 98 2:=⟨fun _=>by kernel_rfl⟩
instance:bD 98 [(.string ⟨#[]⟩),(.bool false)]:=⟨(.agg #[(.string ⟨#[]⟩),(.bool false)]),rfl,fun _=>by kernel_rfl⟩
instance:Fld 98 0 0:=⟨fun _ _=>by kernel_rfl⟩
instance:Fld 98 1 1:=⟨fun _ _=>by kernel_rfl⟩
instance:cN 98 [(.string ⟨#[]⟩),(.bool false)] [(0,1),(1,1)]:=⟨fun _ _=>by kernel_rfl⟩
instance:oP 98 [(9,0),(4,1)]:=⟨⟨fieldsOf 98,fun _=>by kernel_rfl,by kernel_rfl,by kernel_rfl⟩,by kernel_rfl,by kernel_rfl⟩
instance:bn 100 3:=⟨fun _=>by kernel_rfl⟩
instance:aR 100 3:=⟨fun _=>by kernel_rfl⟩
instance:bD 100 [(.int .i64 0),(.int .i64 0),(.int .i64 0)]:=⟨(.agg #[(.int .i64 0),(.int .i64 0),(.int .i64 0)]),rfl,fun _=>by kernel_rfl⟩
instance:ja 100 3 3 1:=⟨fun _=>by kernel_rfl,fun _=>by kernel_rfl⟩
instance:bn 102 8:=⟨fun _=>by kernel_rfl⟩
instance:aR 102 8:=⟨fun _=>by kernel_rfl⟩
instance:bD 102 [(.string ⟨#[]⟩),(.int .i64 0),(.int .i64 0),(.int .i64 0),(.int .i64 0),(.int .i64 0),(.int .i64 0),(.bool false)]:=⟨(.agg #[(.string ⟨#[]⟩),(.int .i64 0),(.int .i64 0),(.int .i64 0),(.int .i64 0),(.int .i64 0),(.int .i64 0),(.bool false)]),rfl,fun _=>by kernel_rfl⟩
instance:Fld 102 0 0:=⟨fun _ _=>by kernel_rfl⟩
instance:Fld 102 1 1:=⟨fun _ _=>by kernel_rfl⟩
instance:Fld 102 2 4:=⟨fun _ _=>by kernel_rfl⟩
instance:Fld 102 3 5:=⟨fun _ _=>by kernel_rfl⟩
instance:Fld 102 4 6:=⟨fun _ _=>by kernel_rfl⟩
instance:Fld 102 5 7:=⟨fun _ _=>by kernel_rfl⟩
instance:cN 102 [(.string ⟨#[]⟩),(.int .i64 0),(.int .i64 0),(.int .i64 0),(.int .i64 0),(.int .i64 0),(.int .i64 0),(.bool false)] [(0,1),(1,3),(4,1),(5,1),(6,1),(7,1)]:=⟨fun _ _=>by kernel_rfl⟩
instance:bn 108 10:=⟨fun _=>by kernel_rfl⟩
instance:aR 108 10:=⟨fun _=>by kernel_rfl⟩
instance:bD 108 [(.string ⟨#[]⟩),(.int .i64 0),(.int .i64 0),(.int .i64 0),(.int .i64 0),(.int .i64 0),(.int .i64 0),(.int .i64 0),(.int .i64 0),(.bool false)]:=⟨(.agg #[(.string ⟨#[]⟩),(.int .i64 0),(.int .i64 0),(.int .i64 0),(.int .i64 0),(.int .i64 0),(.int .i64 0),(.int .i64 0),(.int .i64 0),(.bool false)]),rfl,fun _=>by kernel_rfl⟩
instance:Fld 108 0 0:=⟨fun _ _=>by kernel_rfl⟩
instance:Fld 108 1 1:=⟨fun _ _=>by kernel_rfl⟩
instance:Fld 108 2 4:=⟨fun _ _=>by kernel_rfl⟩
instance:Fld 108 3 7:=⟨fun _ _=>by kernel_rfl⟩
instance:Fld 108 4 8:=⟨fun _ _=>by kernel_rfl⟩
instance:Fld 108 5 9:=⟨fun _ _=>by kernel_rfl⟩
instance:cN 108 [(.string ⟨#[]⟩),(.int .i64 0),(.int .i64 0),(.int .i64 0),(.int .i64 0),(.int .i64 0),(.int .i64 0),(.int .i64 0),(.int .i64 0),(.bool false)] [(0,1),(1,3),(4,3),(7,1),(8,1),(9,1)]:=⟨fun _ _=>by kernel_rfl⟩
instance:bF 109 108 10:=⟨fun _=>by kernel_rfl,fun _=>by kernel_rfl⟩
instance:eb 108 10:=⟨(.agg #[(.string ⟨#[]⟩),(.int .i64 0),(.int .i64 0),(.int .i64 0),(.int .i64 0),(.int .i64 0),(.int .i64 0),(.int .i64 0),(.int .i64 0),(.bool false)]),rfl,fun _=>by kernel_rfl⟩
instance:am 115:=⟨fun _=>by kernel_rfl⟩
instance:fA 115 3 4:=⟨fun _=>by kernel_rfl⟩
instance:bn 117 3:=⟨fun _=>by kernel_rfl⟩
instance:aR 117 3:=⟨fun _=>by kernel_rfl⟩
instance:bD 117 [(.map none),(.map none),(.map none)]:=⟨(.agg #[(.map none),(.map none),(.map none)]),rfl,fun _=>by kernel_rfl⟩
instance:Fld 117 0 0:=⟨fun _ _=>by kernel_rfl⟩
instance:Fld 117 1 1:=⟨fun _ _=>by kernel_rfl⟩
instance:Fld 117 2 2:=⟨fun _ _=>by kernel_rfl⟩
instance:cN 117 [(.map none),(.map none),(.map none)] [(0,1),(1,1),(2,1)]:=⟨fun _ _=>by kernel_rfl⟩
instance:am 121:=⟨fun _=>by kernel_rfl⟩
instance:am 122:=⟨fun _=>by kernel_rfl⟩
instance:am 124:=⟨fun _=>by kernel_rfl⟩
instance:aR 124 1:=⟨fun _=>by kernel_rfl⟩
instance:bD 124 [(.map none)]:=⟨(.map none),rfl,fun _=>by kernel_rfl⟩
instance:fA 124 3 3:=⟨fun _=>by kernel_rfl⟩
instance:am 131:=⟨fun _=>by kernel_rfl⟩
instance:aR 131 1:=⟨fun _=>by kernel_rfl⟩
instance:bD 131 [.nilFunc]:=⟨.nilFunc,rfl,fun _=>by kernel_rfl⟩
instance:am 144:=⟨fun _=>by kernel_rfl⟩
instance:am 154:=⟨fun _=>by kernel_rfl⟩
instance:aR 154 1:=⟨fun _=>by kernel_rfl⟩
instance:bD 154 [(.pointer none)]:=⟨(.pointer none),rfl,fun _=>by kernel_rfl⟩
instance:Fld 156 0 0:=⟨fun _ _=>by kernel_rfl⟩
instance:cN 156 [(.slice none 0 0)] [(0,1)]:=⟨fun _ _=>by kernel_rfl⟩
instance:am 197:=⟨fun _=>by kernel_rfl⟩
instance:aR 197 1:=⟨fun _=>by kernel_rfl⟩
instance:bD 199 [(.pointer none),(.slice none 0 0)]:=⟨(.agg #[(.pointer none),(.slice none 0 0)]),rfl,fun _=>by kernel_rfl⟩
instance:Fld 199 0 0:=⟨fun _ _=>by kernel_rfl⟩
instance:Fld 199 1 1:=⟨fun _ _=>by kernel_rfl⟩
instance:bD 212 [(.slice none 0 0),(.slice none 0 0),(.slice none 0 0),(.slice none 0 0),(.slice none 0 0),(.slice none 0 0),(.int .i64 0)]:=⟨(.agg #[(.slice none 0 0),(.slice none 0 0),(.slice none 0 0),(.slice none 0 0),(.slice none 0 0),(.slice none 0 0),(.int .i64 0)]),rfl,fun _=>by kernel_rfl⟩
instance:Fld 212 0 0:=⟨fun _ _=>by kernel_rfl⟩
instance:Fld 212 1 6:=⟨fun _ _=>by kernel_rfl⟩
instance:am 215:=⟨fun _=>by kernel_rfl⟩
instance:aR 215 1:=⟨fun _=>by kernel_rfl⟩
instance:bD 215 [.nilFunc]:=⟨.nilFunc,rfl,fun _=>by kernel_rfl⟩
instance:bn 219 2:=⟨fun _=>by kernel_rfl⟩
instance:aR 219 2:=⟨fun _=>by kernel_rfl⟩
instance:bD 219 [(.int .i64 0),(.int .i64 0)]:=⟨(.agg #[(.int .i64 0),(.int .i64 0)]),rfl,fun _=>by kernel_rfl⟩
instance:ja 219 2 3 1:=⟨fun _=>by kernel_rfl,fun _=>by kernel_rfl⟩
instance:bn 220 12:=⟨fun _=>by kernel_rfl⟩
instance:aR 220 12:=⟨fun _=>by kernel_rfl⟩
instance:bD 220 [(.int .i64 0),(.int .i64 0),(.int .i64 0),(.int .i64 0),(.int .i64 0),(.int .i64 0),(.int .i64 0),(.int .i64 0),(.int .i64 0),(.int .i64 0),(.int .i64 0),(.int .i64 0)]:=⟨(.agg #[(.int .i64 0),(.int .i64 0),(.int .i64 0),(.int .i64 0),(.int .i64 0),(.int .i64 0),(.int .i64 0),(.int .i64 0),(.int .i64 0),(.int .i64 0),(.int .i64 0),(.int .i64 0)]),rfl,fun _=>by kernel_rfl⟩
instance:ja 220 6 219 2:=⟨fun _=>by kernel_rfl,fun _=>by kernel_rfl⟩
instance:am 223:=⟨fun _=>by kernel_rfl⟩
instance:am 224:=⟨fun _=>by kernel_rfl⟩
instance:am 227:=⟨fun _=>by kernel_rfl⟩
instance:am 230:=⟨fun _=>by kernel_rfl⟩
instance:am 231:=⟨fun _=>by kernel_rfl⟩
instance:aR 231 1:=⟨fun _=>by kernel_rfl⟩
instance:bD 231 [(.map none)]:=⟨(.map none),rfl,fun _=>by kernel_rfl⟩
instance:fA 231 9 4:=⟨fun _=>by kernel_rfl⟩
instance:ja 234 47 102 8:=⟨fun _=>by kernel_rfl,fun _=>by kernel_rfl⟩
instance:am 236:=⟨fun _=>by kernel_rfl⟩
instance:aR 236 1:=⟨fun _=>by kernel_rfl⟩
instance:bD 236 [(.map none)]:=⟨(.map none),rfl,fun _=>by kernel_rfl⟩
instance:fA 236 3 238:=⟨fun _=>by kernel_rfl⟩
instance:bn 238 2:=⟨fun _=>by kernel_rfl⟩
instance:aR 238 2:=⟨fun _=>by kernel_rfl⟩
instance:Fld 238 0 0:=⟨fun _ _=>by kernel_rfl⟩
instance:Fld 238 1 1:=⟨fun _ _=>by kernel_rfl⟩
instance:cN 238 [(.int .i64 0),(.int .i64 0)] [(0,1),(1,1)]:=⟨fun _ _=>by kernel_rfl⟩
instance:oP 238 [(3,0),(3,1)]:=⟨⟨fieldsOf 238,fun _=>by kernel_rfl,by kernel_rfl,by kernel_rfl⟩,by kernel_rfl,by kernel_rfl⟩
instance:am 240:=⟨fun _=>by kernel_rfl⟩
instance:aR 240 1:=⟨fun _=>by kernel_rfl⟩
instance:bD 240 [.nilFunc]:=⟨.nilFunc,rfl,fun _=>by kernel_rfl⟩
instance:fA 245 3 219:=⟨fun _=>by kernel_rfl⟩
instance:am 249:=⟨fun _=>by kernel_rfl⟩
instance:bD 251 [(.pointer none),(.pointer none),(.pointer none)]:=⟨(.agg #[(.pointer none),(.pointer none),(.pointer none)]),rfl,fun _=>by kernel_rfl⟩
instance:ja 251 3 122 1:=⟨fun _=>by kernel_rfl,fun _=>by kernel_rfl⟩
instance:bF 263 268 2:=⟨fun _=>by kernel_rfl,fun _=>by kernel_rfl⟩
instance:eb 268 2:=⟨(.agg #[(.string ⟨#[]⟩),(.bool false)]),rfl,fun _=>by kernel_rfl⟩
instance:fP 263 268 2 24:=⟨by kernel_rfl,⟨(.agg #[(.string ⟨#[]⟩),(.bool false)]),by kernel_rfl,rfl⟩,by decide⟩
instance:bn 268 2:=⟨fun _=>by kernel_rfl⟩
instance:aR 268 2:=⟨fun _=>by kernel_rfl⟩
instance:bD 268 [(.string ⟨#[]⟩),(.bool false)]:=⟨(.agg #[(.string ⟨#[]⟩),(.bool false)]),rfl,fun _=>by kernel_rfl⟩
instance:Fld 268 0 0:=⟨fun _ _=>by kernel_rfl⟩
instance:Fld 268 1 1:=⟨fun _ _=>by kernel_rfl⟩
instance:cN 268 [(.string ⟨#[]⟩),(.bool false)] [(0,1),(1,1)]:=⟨fun _ _=>by kernel_rfl⟩
instance:Fld 278 0 0:=⟨fun _ _=>by kernel_rfl⟩
instance:Fld 278 1 1:=⟨fun _ _=>by kernel_rfl⟩
instance:Fld 278 2 2:=⟨fun _ _=>by kernel_rfl⟩
instance:cN 278 [(.string ⟨#[]⟩),(.int .i64 0),(.bool false)] [(0,1),(1,1),(2,1)]:=⟨fun _ _=>by kernel_rfl⟩
instance:am 280:=⟨fun _=>by kernel_rfl⟩
instance:fA 290 9 3:=⟨fun _=>by kernel_rfl⟩
instance:aD 13:=⟨fun _ _=>by kernel_rfl⟩
instance:aD 14:=⟨fun _ _=>by kernel_rfl⟩
instance:aD 15:=⟨fun _ _=>by kernel_rfl⟩
instance:aD 16:=⟨fun _ _=>by kernel_rfl⟩
instance:aD 17:=⟨fun _ _=>by kernel_rfl⟩
instance:aD 18:=⟨fun _ _=>by kernel_rfl⟩
instance:aD 20:=⟨fun _ _=>by kernel_rfl⟩
instance:aD 21:=⟨fun _ _=>by kernel_rfl⟩
instance:aD 22:=⟨fun _ _=>by kernel_rfl⟩
instance:aD 23:=⟨fun _ _=>by kernel_rfl⟩
instance:aD 30:=⟨fun _ _=>by kernel_rfl⟩
instance:aD 31:=⟨fun _ _=>by kernel_rfl⟩
instance:aD 34:=⟨fun _ _=>by kernel_rfl⟩
instance:aD 35:=⟨fun _ _=>by kernel_rfl⟩
instance:aD 40:=⟨fun _ _=>by kernel_rfl⟩
instance:aD 41:=⟨fun _ _=>by kernel_rfl⟩
instance:aD 42:=⟨fun _ _=>by kernel_rfl⟩
instance:aD 43:=⟨fun _ _=>by kernel_rfl⟩
instance:aD 44:=⟨fun _ _=>by kernel_rfl⟩
instance:aD 45:=⟨fun _ _=>by kernel_rfl⟩
instance:aD 46:=⟨fun _ _=>by kernel_rfl⟩
instance:aD 47:=⟨fun _ _=>by kernel_rfl⟩
instance:aD 48:=⟨fun _ _=>by kernel_rfl⟩
instance:aD 49:=⟨fun _ _=>by kernel_rfl⟩
instance:aD 50:=⟨fun _ _=>by kernel_rfl⟩
instance:aD 51:=⟨fun _ _=>by kernel_rfl⟩
instance:aD 52:=⟨fun _ _=>by kernel_rfl⟩
instance:aD 53:=⟨fun _ _=>by kernel_rfl⟩
instance:aD 54:=⟨fun _ _=>by kernel_rfl⟩
instance:aD 55:=⟨fun _ _=>by kernel_rfl⟩
instance:aD 56:=⟨fun _ _=>by kernel_rfl⟩
instance:aD 57:=⟨fun _ _=>by kernel_rfl⟩
instance:aD 58:=⟨fun _ _=>by kernel_rfl⟩
instance:aD 59:=⟨fun _ _=>by kernel_rfl⟩
instance:aD 60:=⟨fun _ _=>by kernel_rfl⟩
instance:aD 61:=⟨fun _ _=>by kernel_rfl⟩
instance:aD 62:=⟨fun _ _=>by kernel_rfl⟩
instance:aD 63:=⟨fun _ _=>by kernel_rfl⟩
instance:aD 64:=⟨fun _ _=>by kernel_rfl⟩
instance:aD 65:=⟨fun _ _=>by kernel_rfl⟩
instance:aD 66:=⟨fun _ _=>by kernel_rfl⟩
instance:aD 67:=⟨fun _ _=>by kernel_rfl⟩
instance:aD 68:=⟨fun _ _=>by kernel_rfl⟩
instance:aD 69:=⟨fun _ _=>by kernel_rfl⟩
instance:aD 70:=⟨fun _ _=>by kernel_rfl⟩
instance:aD 71:=⟨fun _ _=>by kernel_rfl⟩
instance:aD 72:=⟨fun _ _=>by kernel_rfl⟩
instance:aD 73:=⟨fun _ _=>by kernel_rfl⟩
instance:aD 74:=⟨fun _ _=>by kernel_rfl⟩
instance:aD 75:=⟨fun _ _=>by kernel_rfl⟩
instance:aD 76:=⟨fun _ _=>by kernel_rfl⟩
instance:aD 77:=⟨fun _ _=>by kernel_rfl⟩
instance:aD 80:=⟨fun _ _=>by kernel_rfl⟩
instance:aD 91:=⟨fun _ _=>by kernel_rfl⟩
instance:aD 92:=⟨fun _ _=>by kernel_rfl⟩
instance:aD 93:=⟨fun _ _=>by kernel_rfl⟩
instance:aD 94:=⟨fun _ _=>by kernel_rfl⟩
instance:aD 95:=⟨fun _ _=>by kernel_rfl⟩
instance:aD 96:=⟨fun _ _=>by kernel_rfl⟩
instance:aD 97:=⟨fun _ _=>by kernel_rfl⟩
instance:aD 98:=⟨fun _ _=>by kernel_rfl⟩
instance:aD 99:=⟨fun _ _=>by kernel_rfl⟩
instance:aD 100:=⟨fun _ _=>by kernel_rfl⟩
instance:aD 101:=⟨fun _ _=>by kernel_rfl⟩
instance:aD 102:=⟨fun _ _=>by kernel_rfl⟩
instance:aD 103:=⟨fun _ _=>by kernel_rfl⟩
instance:aD 104:=⟨fun _ _=>by kernel_rfl⟩
instance:aD 124:=⟨fun _ _=>by kernel_rfl⟩
instance:aD 125:=⟨fun _ _=>by kernel_rfl⟩
instance:aD 126:=⟨fun _ _=>by kernel_rfl⟩
instance:aD 127:=⟨fun _ _=>by kernel_rfl⟩
instance:aD 128:=⟨fun _ _=>by kernel_rfl⟩
instance:aD 129:=⟨fun _ _=>by kernel_rfl⟩
instance:aD 130:=⟨fun _ _=>by kernel_rfl⟩
instance:aD 131:=⟨fun _ _=>by kernel_rfl⟩
instance:aD 132:=⟨fun _ _=>by kernel_rfl⟩
instance:aD 133:=⟨fun _ _=>by kernel_rfl⟩
instance:aD 134:=⟨fun _ _=>by kernel_rfl⟩
instance:aD 135:=⟨fun _ _=>by kernel_rfl⟩
instance:aD 136:=⟨fun _ _=>by kernel_rfl⟩
instance:aD 137:=⟨fun _ _=>by kernel_rfl⟩
instance:aD 138:=⟨fun _ _=>by kernel_rfl⟩
instance:aD 139:=⟨fun _ _=>by kernel_rfl⟩
instance:aD 140:=⟨fun _ _=>by kernel_rfl⟩
instance:aD 141:=⟨fun _ _=>by kernel_rfl⟩
instance:aD 142:=⟨fun _ _=>by kernel_rfl⟩
instance:aD 143:=⟨fun _ _=>by kernel_rfl⟩
instance:aD 144:=⟨fun _ _=>by kernel_rfl⟩
instance:aD 145:=⟨fun _ _=>by kernel_rfl⟩
instance:aD 146:=⟨fun _ _=>by kernel_rfl⟩
instance:aD 147:=⟨fun _ _=>by kernel_rfl⟩
instance:aD 148:=⟨fun _ _=>by kernel_rfl⟩
instance:aD 149:=⟨fun _ _=>by kernel_rfl⟩
instance:aD 150:=⟨fun _ _=>by kernel_rfl⟩
instance:aD 151:=⟨fun _ _=>by kernel_rfl⟩
instance:aD 152:=⟨fun _ _=>by kernel_rfl⟩
instance:aD 153:=⟨fun _ _=>by kernel_rfl⟩
instance:aD 154:=⟨fun _ _=>by kernel_rfl⟩
instance:aD 155:=⟨fun _ _=>by kernel_rfl⟩
instance:aD 156:=⟨fun _ _=>by kernel_rfl⟩
instance:aD 157:=⟨fun _ _=>by kernel_rfl⟩
instance:aD 158:=⟨fun _ _=>by kernel_rfl⟩
instance:aD 159:=⟨fun _ _=>by kernel_rfl⟩
instance:aD 160:=⟨fun _ _=>by kernel_rfl⟩
instance:aD 161:=⟨fun _ _=>by kernel_rfl⟩
instance:aD 162:=⟨fun _ _=>by kernel_rfl⟩
instance:aD 163:=⟨fun _ _=>by kernel_rfl⟩
instance:aD 164:=⟨fun _ _=>by kernel_rfl⟩
instance:aD 165:=⟨fun _ _=>by kernel_rfl⟩
instance:aD 166:=⟨fun _ _=>by kernel_rfl⟩
instance:aD 167:=⟨fun _ _=>by kernel_rfl⟩
instance:aD 168:=⟨fun _ _=>by kernel_rfl⟩
instance:aD 169:=⟨fun _ _=>by kernel_rfl⟩
instance:aD 170:=⟨fun _ _=>by kernel_rfl⟩
instance:aD 171:=⟨fun _ _=>by kernel_rfl⟩
instance:aD 172:=⟨fun _ _=>by kernel_rfl⟩
instance:aD 173:=⟨fun _ _=>by kernel_rfl⟩
instance:aD 174:=⟨fun _ _=>by kernel_rfl⟩
instance:aD 175:=⟨fun _ _=>by kernel_rfl⟩
instance:aD 184:=⟨fun _ _=>by kernel_rfl⟩
instance:aD 185:=⟨fun _ _=>by kernel_rfl⟩
instance:aD 186:=⟨fun _ _=>by kernel_rfl⟩
instance:aD 187:=⟨fun _ _=>by kernel_rfl⟩
instance:aD 188:=⟨fun _ _=>by kernel_rfl⟩
instance:aD 189:=⟨fun _ _=>by kernel_rfl⟩
instance:aD 190:=⟨fun _ _=>by kernel_rfl⟩
instance:aD 191:=⟨fun _ _=>by kernel_rfl⟩
instance:aD 192:=⟨fun _ _=>by kernel_rfl⟩
instance:aD 193:=⟨fun _ _=>by kernel_rfl⟩
instance:aD 194:=⟨fun _ _=>by kernel_rfl⟩
instance:aD 195:=⟨fun _ _=>by kernel_rfl⟩
instance:aD 196:=⟨fun _ _=>by kernel_rfl⟩
instance:aD 197:=⟨fun _ _=>by kernel_rfl⟩
instance:aD 198:=⟨fun _ _=>by kernel_rfl⟩
instance:aD 199:=⟨fun _ _=>by kernel_rfl⟩
instance:aD 200:=⟨fun _ _=>by kernel_rfl⟩
instance:aD 201:=⟨fun _ _=>by kernel_rfl⟩
instance:aD 202:=⟨fun _ _=>by kernel_rfl⟩
instance:aD 203:=⟨fun _ _=>by kernel_rfl⟩
instance:aD 204:=⟨fun _ _=>by kernel_rfl⟩
instance:aD 205:=⟨fun _ _=>by kernel_rfl⟩
instance:aD 206:=⟨fun _ _=>by kernel_rfl⟩
instance:aD 207:=⟨fun _ _=>by kernel_rfl⟩
instance:aD 208:=⟨fun _ _=>by kernel_rfl⟩
instance:aD 209:=⟨fun _ _=>by kernel_rfl⟩
instance:aD 210:=⟨fun _ _=>by kernel_rfl⟩
instance:aD 211:=⟨fun _ _=>by kernel_rfl⟩
instance:aD 212:=⟨fun _ _=>by kernel_rfl⟩
instance:aD 213:=⟨fun _ _=>by kernel_rfl⟩
instance:aD 214:=⟨fun _ _=>by kernel_rfl⟩
instance:aD 215:=⟨fun _ _=>by kernel_rfl⟩
instance:aD 216:=⟨fun _ _=>by kernel_rfl⟩
instance:aD 217:=⟨fun _ _=>by kernel_rfl⟩
instance:aD 218:=⟨fun _ _=>by kernel_rfl⟩
instance:aD 219:=⟨fun _ _=>by kernel_rfl⟩
instance:aD 220:=⟨fun _ _=>by kernel_rfl⟩
instance:aD 221:=⟨fun _ _=>by kernel_rfl⟩
instance:aD 222:=⟨fun _ _=>by kernel_rfl⟩
instance:aD 223:=⟨fun _ _=>by kernel_rfl⟩
instance:aD 224:=⟨fun _ _=>by kernel_rfl⟩
instance:aD 225:=⟨fun _ _=>by kernel_rfl⟩
instance:aD 226:=⟨fun _ _=>by kernel_rfl⟩
instance:aD 227:=⟨fun _ _=>by kernel_rfl⟩
instance:aD 228:=⟨fun _ _=>by kernel_rfl⟩
instance:aD 229:=⟨fun _ _=>by kernel_rfl⟩
instance:aD 230:=⟨fun _ _=>by kernel_rfl⟩
instance:aD 231:=⟨fun _ _=>by kernel_rfl⟩
instance:aD 232:=⟨fun _ _=>by kernel_rfl⟩
instance:aD 233:=⟨fun _ _=>by kernel_rfl⟩
instance:aD 235:=⟨fun _ _=>by kernel_rfl⟩
instance:aD 236:=⟨fun _ _=>by kernel_rfl⟩
instance:aD 238:=⟨fun _ _=>by kernel_rfl⟩
instance:aD 239:=⟨fun _ _=>by kernel_rfl⟩
instance:aD 240:=⟨fun _ _=>by kernel_rfl⟩
instance:aD 241:=⟨fun _ _=>by kernel_rfl⟩
instance:aD 242:=⟨fun _ _=>by kernel_rfl⟩
instance:aD 243:=⟨fun _ _=>by kernel_rfl⟩
instance:aD 244:=⟨fun _ _=>by kernel_rfl⟩
instance:aD 245:=⟨fun _ _=>by kernel_rfl⟩
instance:aD 246:=⟨fun _ _=>by kernel_rfl⟩
instance:aD 247:=⟨fun _ _=>by kernel_rfl⟩
instance:aD 248:=⟨fun _ _=>by kernel_rfl⟩
instance:aD 249:=⟨fun _ _=>by kernel_rfl⟩
instance:aD 250:=⟨fun _ _=>by kernel_rfl⟩
instance:aD 251:=⟨fun _ _=>by kernel_rfl⟩
instance:aD 252:=⟨fun _ _=>by kernel_rfl⟩
instance:aD 253:=⟨fun _ _=>by kernel_rfl⟩
instance:aD 254:=⟨fun _ _=>by kernel_rfl⟩
instance:aD 255:=⟨fun _ _=>by kernel_rfl⟩
instance:aD 258:=⟨fun _ _=>by kernel_rfl⟩
instance:aD 259:=⟨fun _ _=>by kernel_rfl⟩
instance:aD 260:=⟨fun _ _=>by kernel_rfl⟩
instance:aD 261:=⟨fun _ _=>by kernel_rfl⟩
instance:aD 267:=⟨fun _ _=>by kernel_rfl⟩
instance:aD 268:=⟨fun _ _=>by kernel_rfl⟩
instance:aD 269:=⟨fun _ _=>by kernel_rfl⟩
instance:aD 270:=⟨fun _ _=>by kernel_rfl⟩
instance:aD 273:=⟨fun _ _=>by kernel_rfl⟩
instance:aD 274:=⟨fun _ _=>by kernel_rfl⟩
instance:ke 275 Extern.BytealgIndexByte.indexByte:=⟨fun _ _=>by kernel_rfl⟩
end
section
section
variable {w0 w w':World} {z0 z z':Z} {B0 B B' L F:Bl} {b:Nat} {o:Obj} {C:Obj->Bl} {K:RP}
theorem Cu {t ty e size bytes:Nat} [g:fP t e size bytes] {b n cap c:Nat} {a:Option Addr} {xs sp:List Value} (hS:Res w0 z0 B0 w z ((b,.cells (xs ++ sp).toArray e (0,0)) :: L)) (hl:(xs ++ sp).length = cap * size) (hx:xs.length = n * size) (hc:n <= cap)
  (hk:K (.slice (some ⟨b,0,none⟩) n cap) w):V (Builtin.append_ #[t,t] ty #[.slice (some ⟨b,0,none⟩) n cap,.slice a 0 c]) w K:=by
 obtain ⟨zv,hinfo,hzs⟩:=g.info;obtain ⟨i,hi,hz⟩:=Option.map_eq_some_iff.1 hinfo;simp only [Prod.mk.injEq] at hz;obtain ⟨hz0,hz1,hz2⟩:=hz;have hat:=hS.mem (b,.cells (xs ++ sp).toArray e (0,0)) (by simp);have hfit:n * i.size + 0 <= (xs ++ sp).toArray.size:=by rw [hz1,Nat.add_zero]; simp only [size_toArray,hl]; exact Nat.mul_le_mul_right _ hc
 cases a with
 | some a=>
  have hr:=run_append_room (P:=Tryz.prog) w t ty e i g.und hi b n cap (xs ++ sp).toArray hat.1 a 0 c [] (by simp) (by simp) (by simp) (by omega) hfit;refine ⟨_,_,hr,?_⟩;rw [nA hat.1];have:((xs ++ sp).toArray.toList.take (n * i.size) ++ [] ++ (xs ++ sp).toArray.toList.drop (n * i.size + ([]:List Value).length)).toArray = (xs ++ sp).toArray:=by simp
  rw [this,kt hat.1];exact hk
 | none=>
  have h0:Builtin.lenOf (.slice none 0 c) = pure 0:=rfl;have hu:∀ w,(underlying t).run Tryz.prog w = .ok (.slice e) w:=fun w=>run_underlying g.und w
  refine ⟨.slice (some ⟨b,0,none⟩) n cap,w,?_,hk⟩;have hs0:∀ (a:Addr) w,(storeCells a [] 0).run Tryz.prog w = .ok () w:=fun a w=>rfl
  simp [Builtin.append_,run_underlying g.und,sizeOf,typeInfo,hi,Builtin.lenOf,hc,Builtin.firstCells,Sem.run_bind,program,Sem.run,hs0]
theorem SlR.all {α:Type} {E:El α} {v:Value} {xs:List α} (f:α->List Value) (h:SlR E z v xs) (hf:∀ z cs x,E.rel z cs x->cs = f x) (hn:xs ≠ []):∃ b off cap,v = .slice (some ⟨b,off,none⟩) xs.length cap/\xs.length <= big/\At z b off (xs.flatMap f):=by
 obtain ⟨a,cap,rfl,h2,h3,h4⟩:=h;obtain ⟨b,off,rfl,h6⟩:=h4 hn;refine ⟨b,off,cap,rfl,h3,?_⟩;have hobj:∃ c ty fr,z b = some (.cells c ty fr):=by
  cases xs with
  | nil=>exact absurd rfl hn
  | cons x xs=>
   obtain ⟨cs,_,c,ty,fr,h7,_⟩:=h6 0 x rfl;exact ⟨c,ty,fr,h7⟩
 obtain ⟨c,ty,fr,hc⟩:=hobj;refine ⟨c,ty,fr,hc,?_⟩;have key:∀ (l:List α) (k:Nat),(∀ i x,l[i]? = some x->(f x).length = E.size/\∀ j v,(f x)[j]? = some v->c[off + (k + i) * E.size + j]? = some v)->∀ j v,(l.flatMap f)[j]? = some v->c[off + k * E.size + j]? = some v:=by
  intro l
  induction l with
  | nil=>intro k _ j v hv; simp at hv
  | cons x l ih=>
   intro k hl j v hv;rw [flatMap_cons] at hv;obtain ⟨h8,h9⟩:=hl 0 x rfl
   by_cases hj:j < (f x).length
   ·rw [getElem?_append_left hj] at hv
    simpa using h9 j v hv
   ·rw [getElem?_append_right (by omega)] at hv
    have:=ih (k + 1) (fun i y hy=>by
     have:=hl (i + 1) y (by simpa using hy);rw [show k + 1 + i = k + (i + 1) by omega];exact this) (j - (f x).length) v hv
    rw [h8,Nat.add_mul] at this;rw [<- this]
    congr 1
    omega
 intro j v hv;have:=key xs 0 (fun i x hx=>by
  obtain ⟨cs,h7,c',ty',fr',h8,h9⟩:=h6 i x hx;rw [hc] at h8
  cases h8
  have hl:=E.len h7;rw [hf _ _ _ h7] at h9 hl;exact ⟨hl,fun j v hv=>by rw [Nat.zero_add]; exact h9 j v hv⟩) j v hv
 simpa using this
theorem uY {α:Type} {f:α->List Value} {n:Nat} (hf:∀ x,(f x).length = n) (xs:List α):(xs.flatMap f).length = xs.length * n:=by
 induction xs with
 | nil=>simp
 | cons x xs ih=>rw [flatMap_cons,length_append,ih,hf,length_cons,Nat.add_mul]; omega
theorem uZ {α:Type} {f:α->List Value} {n:Nat} (hf:∀ x,(f x).length = n) {xs:List α} {i:Nat} {x:α} (hx:xs[i]? = some x) (j:Nat) (v:Value) (hv:(f x)[j]? = some v):(xs.flatMap f)[i * n + j]? = some v:=by
 induction xs generalizing i with
 | nil=>simp at hx
 | cons y xs ih=>
  rw [flatMap_cons];have hj:=(List.getElem?_eq_some_iff.1 hv).1
  cases i with
  | zero=>
   simp at hx; subst hx;rw [Nat.zero_mul,Nat.zero_add,getElem?_append_left hj];exact hv
  | succ i=>
   rw [getElem?_append_right (by rw [hf,Nat.add_mul]; omega),hf,show (i + 1) * n + j - n = i * n + j by rw [Nat.add_mul]; omega];exact ih (by simpa using hx)
theorem Res.freezeSl {α:Type} {E:El α} {e:Nat} {v:Value} {xs:List α} {f:α->List Value} (h:Res w0 z0 B0 w z (B ++ L)) (ho:OwnSl e E.size B v xs.length (xs.flatMap f)) (hb:xs.length <= big) (hf:∀ x,(f x).length = E.size) (hr:∀ z x,x ∈ xs->E.rel z (f x) x) :
  ∃ z',Le z z'/\Res w0 z0 B0 w z' L/\SlR E z' v xs:=by
 rcases ho.2 with ⟨rfl,rfl,h0⟩ | ⟨b,cap,sp,rfl,rfl,h1,h2,h3⟩
 ·have:xs = []:=eq_nil_of_length_eq_zero h0
  subst this;exact ⟨z,Le.refl _,h,SlR.nil⟩
 ·refine ⟨_,Res.freeze_le h,Res.freeze h,some ⟨b,0,none⟩,cap,rfl,h1,hb,fun _=>⟨b,0,rfl,fun i x hx=>⟨f x,hr _ _ (mem_of_getElem? hx),_,_,_,if_pos rfl,fun j v hv=>?_⟩⟩⟩
  have:=uZ hf hx j v hv;have hlt:=(List.getElem?_eq_some_iff.1 this).1;simp only [Nat.zero_add,getElem?_toArray];rw [getElem?_append_left hlt];exact this
theorem qT [hS:Res w0 z0 B0 w z L] {f:FuncId} [aD f] {args:Array Value} {R:Z->Bl->Value->Prop} (h:Le z0 z->Fn f args z [] w R) (hk:∀ z' B' w' v,Le z z'->Res w0 z0 B0 w' z' (B' ++ L)->R z' B' v->K v w') :
  CV (.func (.func f) #[] #[]) args w K:=bO (B:=[]) hS (h hS.zle) (by simp) hk
instance (priority:=550) {a i j:Nat}:nb (a + i) j (a + (i + j)):=⟨Nat.add_assoc a i j⟩
instance {ps l:List Value} {i:Nat} {v:Value} [g:Get l i v]:Get (ps ++ l) (ps.length + i) v:=⟨by rw [getElem?_append_right (by omega),Nat.add_sub_cancel_left]; exact g.h⟩
instance {ps l vs:List Value} {i n:Nat} [g:GetN l i n vs]:GetN (ps ++ l) (ps.length + i) n vs:=⟨g.len,fun j v h=>by rw [getElem?_append_right (by omega),show ps.length + i + j - ps.length = i + j by omega]; exact g.h j v h⟩
instance {ps l vs:List Value} {n:Nat} [g:GetN l 0 n vs]:GetN (ps ++ l) ps.length n vs:=⟨g.len,fun j v h=>by
 have:=g.h j v h;rw [Nat.zero_add] at this;rw [getElem?_append_right (by omega),Nat.add_sub_cancel_left]; exact this⟩
theorem SetN.behind {ps l vs l':List Value} {i:Nat} (g:SetN l i vs l'):SetN (ps ++ l) (ps.length + i) vs (ps ++ l') where
 len:=by simp [g.len]
 bound:=by have:=g.bound; simp; omega
 inn:=fun j v h=>by rw [getElem?_append_right (by omega),show ps.length + i + j - ps.length = i + j by omega]; exact g.inn j v h
 out:=fun k hk=>by
  by_cases hp:k < ps.length
  ·rw [getElem?_append_left hp,getElem?_append_left hp]
  ·rw [getElem?_append_right (by omega),getElem?_append_right (by omega)]
   exact g.out _ (by omega)
instance {ps l vs l':List Value} [g:SetN l 0 vs l']:SetN (ps ++ l) ps.length vs (ps ++ l'):=g.behind
end
end
section
inductive It
 | bl (B:Bl)
 | at (b:Nat)
class BringL (L B:Bl) (R:outParam Bl):Prop where
 h:L.Perm (B ++ R)
instance BringL.here {B R:Bl}:BringL (B ++ R) B R:=⟨.refl _⟩
instance (priority:=950) BringL.all {B:Bl}:BringL B B []:=⟨by simp⟩
instance (priority:=900) BringL.cons {L B R:Bl} {p:Nat × Obj} [g:BringL L B R]:BringL (p :: L) B (p :: R):=⟨(g.h.cons p).trans List.perm_middle.symm⟩
instance (priority:=800) BringL.app {A L B R:Bl} [g:BringL L B R]:BringL (A ++ L) B (A ++ R):=⟨by
 refine (g.h.append_left A).trans ?_;rw [<- append_assoc,<- append_assoc];exact List.perm_append_comm.append_right R⟩
class BringB (L:Bl) (b:Nat) (o:outParam Obj) (R:outParam Bl):Prop where
 h:L.Perm ((b,o) :: R)
instance BringB.here {b:Nat} {o:Obj} {R:Bl}:BringB ((b,o) :: R) b o R:=⟨.refl _⟩
instance (priority:=900) BringB.cons {L R:Bl} {b:Nat} {o:Obj} {p:Nat × Obj} [g:BringB L b o R]:BringB (p :: L) b o (p :: R):=⟨(g.h.cons p).trans (.swap _ _ _)⟩
instance (priority:=800) BringB.app {A L R:Bl} {b:Nat} {o:Obj} [g:BringB L b o R]:BringB (A ++ L) b o (A ++ R):=⟨(g.h.append_left A).trans perm_middle⟩
class Keep (L:Bl) (spec:List It) (L':outParam Bl):Prop where
 h:∃ R,L.Perm (L' ++ R)
instance Keep.nil {L:Bl}:Keep L [] []:=⟨L,by simp⟩
instance Keep.bl {L B R T:Bl} {spec:List It} [g:BringL L B R] [k:Keep R spec T]:Keep L (.bl B :: spec) (B ++ T):=⟨by
 obtain ⟨X,hX⟩:=k.h;exact ⟨X,g.h.trans (by rw [append_assoc]; exact hX.append_left B)⟩⟩
instance Keep.at {L R T:Bl} {b:Nat} {o:Obj} {spec:List It} [g:BringB L b o R] [k:Keep R spec T]:Keep L (.at b :: spec) ((b,o) :: T):=⟨by
 obtain ⟨X,hX⟩:=k.h;exact ⟨X,g.h.trans (hX.cons _)⟩⟩
section
variable {w0 w:World} {z0 z:Z} {B0 L L':Bl}
theorem Res.keep (spec:List It) (h:Res w0 z0 B0 w z L) [g:Keep L spec L']:Res w0 z0 B0 w z L':=by
 obtain ⟨R,hR⟩:=g.h;exact (h.perm hR).sublist (sublist_append_left _ _)
theorem Res.bring (B:Bl) {R:Bl} (h:Res w0 z0 B0 w z L) [g:BringL L B R]:Res w0 z0 B0 w z (B ++ R):=h.perm g.h
theorem Res.bringB (b:Nat) {o:Obj} {R:Bl} (h:Res w0 z0 B0 w z L) [g:BringB L b o R]:Res w0 z0 B0 w z ((b,o) :: R):=h.perm g.h
end
end
section
class LdE (T n:Nat) (vf:outParam (List Value->Value)):Prop where
 h:∀ (w:World) (b off:Nat) (cs:List Value),cs.length = n->At (hp w) b off cs->(ld T (.pointer (some ⟨b,off,none⟩))).run Tryz.prog w = .ok (vf cs) w
def se (cs:List Value):Value:=cs.headD undef
def nY (cs:List Value):Value:=.agg cs.toArray
instance {T:Nat} [g:am T]:LdE T 1 se:=⟨fun w b off cs hl h=>by
 cases cs with
 | nil=>cases hl
 | cons v cs=>
  have:cs = []:=eq_nil_of_length_eq_zero (by simpa using hl);subst this;exact lq h⟩
instance {T n:Nat} [g:bn T n] [gs:aR T n]:LdE T n nY:=⟨fun w b off cs hl h=>lm h hl⟩
section
variable {α σ:Type}
def ig (step:σ->α->Bool × σ):Nat->σ->List α->Int × σ
 | _,s,[]=>(-1,s)
 | i,s,x :: l=>match step s x with
  | (true,s')=>(i,s')
  | (false,s')=>ig step (i + 1) s' l
theorem nC {step:σ->α->Bool × σ} {i:Nat} {s:σ} {x:α} {l:List α}:ig step i s (x :: l) = match step s x with | (true,s')=>((i:Int),s') | (false,s')=>ig step (i + 1) s' l:=rfl
theorem Ao {step:σ->α->Bool × σ}:∀ (l:List α) (i:Nat) (s:σ),-1 <= (ig step i s l).1/\(ig step i s l).1 < i + l.length
 | [],i,s=>⟨by simp [ig],by simp [ig]; omega⟩
 | x :: l,i,s=>by
  rw [nC]
  split
  ·simp; omega
  ·rename_i s' h
   have:=Ao l (i + 1) s' (step:=step);simp at this ⊢; omega
def dx (step:σ->α->Bool × σ):σ->List α->Bool × σ
 | s,[]=>(true,s)
 | s,x :: l=>match step s x with
  | (true,s')=>dx step s' l
  | (false,s')=>(false,s')
theorem eM {step:σ->α->Bool × σ} {s:σ} {x:α} {l:List α}:dx step s (x :: l) = match step s x with | (true,s')=>dx step s' l | (false,s')=>(false,s'):=rfl
def BA (step:σ->α->Bool × σ):σ->α->Bool × σ:=fun s x=>(!(step s x).1,(step s x).2)
theorem tY {step:σ->α->Bool × σ}:∀ (l:List α) (i:Nat) (s:σ),(!decide ((ig (BA step) i s l).1 ≥ 0)) = (dx step s l).1/\(ig (BA step) i s l).2 = (dx step s l).2
 | [],i,s=>by simp [ig,dx]
 | x :: l,i,s=>by
  rw [nC,eM,show BA step s x = (!(step s x).1,(step s x).2) from rfl]
  rcases step s x with ⟨r,s'⟩
  cases r with
  | false=>simp
  | true=>exact tY l (i + 1) s'
def zT (p:α->Bool):Unit->α->Bool × Unit:=fun s x=>(p x,s)
theorem rl {p:α->Bool}:∀ (l:List α),(dx (zT p) () l).1 = l.all p
 | []=>rfl
 | x :: l=>by
  rw [eM,show zT p () x = (p x,()) from rfl]
  cases h:p x with
  | false=>simp [h]
  | true=>simpa [h] using rl l
end
def wg (I S T:Nat) (R:RP) (w:World) (t0 t1:Value):Prop:=
 V (Builtin.len_ #[S] I #[t0]) w fun t7 w=>∃ (I0:LP) (M0:LN),I0 [(.int .i64 0)] w/\∀ g:Env,∀ t8,∀ w,I0 [t8] w->∀ m0,m0 = M0 [t8] w ->
 V (bi .lss I t8 t7) w fun t9 w=>aB t9
 (V (ia S t0 t8) w fun t14 w=>V (ld T t14) w fun t15 w=>CV t1 #[t15] w fun t16 w=>aB t16
 (R t8 w)
 (V (bi .add I t8 (.int .i64 1)) w fun t18 w=>
 I0 [t18] w/\M0 [t18] w < m0))
 (R (.int .i64 (-1)) w)
section
variable {α σ:Type} {E:El α} {z:Z} {w:World}
theorem yg {I S T e n:Nat} {vf:List Value->Value} [g:bF S e n] [gl:LdE T n vf] (hn:E.size = n) {fv v:Value} {xs:List α} (Bf:σ->Bl) (step:σ->α->Bool × σ) (s0:σ) (hx:SlR E z v xs)
  (hf:∀ z' w' s cs x,x ∈ xs->Le z z'->E.rel z' cs x->Va fv #[vf cs] z' (Bf s) w' fun _ B' r=>r = .bool (step s x).1/\B' = Bf (step s x).2) (hS:Res w z (Bf s0) w z (Bf s0)) :
  wg I S T (fun r w'=>∃ z' B',Res w z (Bf s0) w' z' B'/\r = .int .i64 (ig step 0 s0 xs).1/\B' = Bf (ig step 0 s0 xs).2) w v fv:=by
 obtain ⟨hb,a,cap,rfl,hc,hel⟩:=hx.form;unfold wg;refine aA ?_;refine cC (fun (p:Nat × σ) x w'=>x = .int .i64 p.1/\p.1 <= xs.length/\ig step 0 s0 xs = ig step p.1 p.2 (xs.drop p.1)/\∃ z',Le z z'/\Res w z (Bf s0) w' z' (Bf p.2)) (fun p=>xs.length - p.1) (0,s0) ⟨rfl,by omega,rfl,z,Le.refl _,hS⟩ ?_;rintro I0 M ⟨i,s⟩ x w2 m ⟨rfl,h1,h2,z2,hz2,hS2⟩ back
 simp only at h1 h2 hS2;refine aA ?_;refine aC (fun h=>?_) (fun h=>?_)
 ·have hlt:i < xs.length:=by omega
  obtain ⟨b,off,cs,rfl,hr,hat⟩:=hel i _ (getElem?_eq_getElem hlt);haveI:InR (i:Int) xs.length:=⟨by omega,by omega⟩
  haveI:InI ((i:Int) + 1):=⟨by simp only [big] at hb; omega⟩
  refine aA ?_;refine ⟨_,_,gl.h w2 _ _ cs (by rw [E.len hr,hn]) (by simp only [Int.toNat_natCast,<- hn]; exact (hat.mono hz2).world hS2.sub),?_⟩;refine oQ (B:=Bf s) (F:=[]) (by simpa using hS2) (hf _ _ _ _ _ (getElem_mem hlt) hz2 (E.mono hr hz2)) ?_;rintro z4 B4 w4 v4 hle hS4 ⟨rfl,rfl⟩
  rw [append_nil] at hS4;rw [drop_eq_getElem_cons hlt] at h2;rw [nC] at h2
  rcases hst:step s xs[i] with ⟨r,s'⟩
  rw [hst] at h2 hS4;refine aO (fun h'=>?_) (fun h'=>?_)
  ·simp only at h'; subst h'
   simp only at h2;exact ⟨_,_,hS4,by rw [show ig step 0 s0 xs = _ from h2],by rw [show ig step 0 s0 xs = _ from h2]⟩
  ·simp only at h'; subst h'
   simp only at h2;refine aA ?_;exact back (i + 1,s') _ _ ⟨by simp,by simp only; omega,h2,z4,hz2.trans hle,hS4⟩ (by simp only; omega)
 ·have hd:xs.drop i = []:=drop_of_length_le (by omega)
  rw [hd] at h2;exact ⟨_,_,hS2,by rw [h2]; rfl,by rw [h2]; rfl⟩
def yh (I f:Nat) (R:RP) (w:World) (t0 t1:Value):Prop:=
 CV (.func (.func f) #[] #[]) #[t0,t1] w fun t7 w=>V (bi .geq I t7 (.int .i64 0)) w fun t8 w=>
 R t8 w
def DE (FT g h:Nat) (R:RP) (w:World) (t0 t1:Value):Prop:=
 V (bx FT t1) w fun t3 w=>CV (.func (.func g) #[] #[]) #[t0,(.func (.func h) #[] #[t3])] w fun t7 w=>V (un .not t7) w fun t8 w=>
 R t8 w
def yf (FT:Nat) (R:RP) (w:World) (t0 t1:Value):Prop:=
 V (ld FT t1) w fun t4 w=>CV t4 #[t0] w fun t6 w=>V (un .not t6) w fun t7 w=>
 R t7 w
def ye (FT T:Nat) (R:RP) (w:World) (t0 t1:Value):Prop:=
 V (bx T t0) w fun t2 w=>V (ld FT t1) w fun t4 w=>V (ld T t2) w fun t5 w=>CV t4 #[t5] w fun t6 w=>V (un .not t6) w fun t7 w=>
 R t7 w
theorem Cr {I S T e n fi fc:Nat} {vf:List Value->Value} [g:bF S e n] [gl:LdE T n vf] (hn:E.size = n) [aD fi]
  (h1:∀ {R:RP} {w:World} {t0 t1:Value},wg I S T R w t0 t1->Calls Tryz.prog fi #[t0,t1] w (retK R))
  (h2:∀ {R:RP} {w:World} {t0 t1:Value},yh I fi R w t0 t1->Calls Tryz.prog fc #[t0,t1] w (retK R))
  {fv v:Value} {xs:List α} (Bf:σ->Bl) (step:σ->α->Bool × σ) (s0:σ) (hx:SlR E z v xs)
  (hf:∀ z' w' s cs x,x ∈ xs->Le z z'->E.rel z' cs x->Va fv #[vf cs] z' (Bf s) w' fun _ B' r=>r = .bool (step s x).1/\B' = Bf (step s x).2) :
  Fn fc #[v,fv] z (Bf s0) w fun _ B' r=>r = .bool (decide ((ig step 0 s0 xs).1 ≥ 0))/\B' = Bf (ig step 0 s0 xs).2:=Fn.intro fun hS=>h2 (by
 unfold yh;refine bO (B:=Bf s0) (F:=[]) (by simpa using hS) (R:=fun _ B' r=>r = .int .i64 (ig step 0 s0 xs).1/\B' = Bf (ig step 0 s0 xs).2) (Fn.intro fun hS'=>h1 (yg hn Bf step s0 hx hf hS')) (by simp) ?_;rintro z' B' w' v' hle hS' ⟨rfl,rfl⟩
 rw [append_nil] at hS';refine aA ?_;exact ⟨_,_,hS',rfl,rfl⟩)
theorem mT {FT fn:Nat} [am FT] (h:∀ {R:RP} {w:World} {t0 t1:Value},yf FT R w t0 t1->Calls Tryz.prog fn #[t0,t1] w (retK R)) {B B1:Bl} {b:Nat} {fv u:Value} {r:Bool}
  (hat:At z b 0 [fv]) (hv:∀ w',Va fv #[u] z B w' fun _ B' v=>v = .bool r/\B' = B1):Fn fn #[u,.pointer (some ⟨b,0,none⟩)] z B w fun _ B' v=>v = .bool (!r)/\B' = B1:=Fn.intro fun hS=>h (by
 unfold yf;refine bL hat ?_;refine oQ (B:=B) (F:=[]) (by simpa using hS) (hv _) ?_;rintro z' B' w' v' hle hS' ⟨rfl,rfl⟩
 rw [append_nil] at hS';refine aA ?_;exact ⟨_,_,hS',rfl,rfl⟩)
theorem sx {FT fn T n:Nat} [am FT] [bn T n] [aR T n] (h:∀ {R:RP} {w:World} {t0 t1:Value},ye FT T R w t0 t1->Calls Tryz.prog fn #[t0,t1] w (retK R)) {B B1:Bl} {b:Nat} {fv:Value} {cs:List Value} (hl:cs.length = n) {r:Bool}
  (hat:At z b 0 [fv]) (hv:∀ w',Va fv #[nY cs] z B w' fun _ B' v=>v = .bool r/\B' = B1):Fn fn #[nY cs,.pointer (some ⟨b,0,none⟩)] z B w fun _ B' v=>v = .bool (!r)/\B' = B1:=Fn.intro fun hS=>h (by
 unfold ye nY;refine aP ?_;intro b2 w1 hb2 hS1;refine bL hat ?_;have h2:At (hp w1) b2 0 cs:=⟨_,_,_,(hS1.mem _ mem_cons_self).1,fun j u hu=>by simpa using hu⟩
 refine ut h2 hl ?_;refine oQ (B:=B) (F:=[(b2,.cells cs.toArray T (0,0))]) (hS1.perm (by simpa using (perm_append_comm (l₁:=[(b2,Obj.cells cs.toArray T (0,0))]) (l₂:=B)))) (hv _) ?_;rintro z' B' w' v' hle hS' ⟨rfl,rfl⟩
 refine aA ?_;exact ⟨_,_,hS'.sublist (sublist_append_left _ _),rfl,rfl⟩)
class Fam {α:Type} (E:El α) (fe:Nat) (vf:outParam (List Value->Value)):Prop where
 h:∀ {σ:Type} {z:Z} {w:World} {f:Go.Fn} {a c:Array Value} {v:Value} {xs:List α} (Bf:σ->Bl) (step:σ->α->Bool × σ) (s0:σ),SlR E z v xs ->
  (∀ z' w' s cs x,x ∈ xs->Le z z'->E.rel z' cs x->Va (.func f a c) #[vf cs] z' (Bf s) w' fun _ B' r=>r = .bool (step s x).1/\B' = Bf (step s x).2) ->
  Fn fe #[v,.func f a c] z (Bf s0) w fun _ B' r=>r = .bool (dx step s0 xs).1/\B' = Bf (dx step s0 xs).2
theorem kD {I S T e n fi fc fe fn FT:Nat} {vf:List Value->Value} [g:bF S e n] [gl:LdE T n vf] (hn:E.size = n) [aD fi] [aD fc] [aD fn]
  (h1:∀ {R:RP} {w:World} {t0 t1:Value},wg I S T R w t0 t1->Calls Tryz.prog fi #[t0,t1] w (retK R))
  (h2:∀ {R:RP} {w:World} {t0 t1:Value},yh I fi R w t0 t1->Calls Tryz.prog fc #[t0,t1] w (retK R))
  (h3:∀ {R:RP} {w:World} {t0 t1:Value},DE FT fc fn R w t0 t1->Calls Tryz.prog fe #[t0,t1] w (retK R))
  (h4:∀ {w:World} {z:Z} {B B1:Bl} {b:Nat} {cs:List Value} {fv:Value} {r:Bool},cs.length = n->At z b 0 [fv]->(∀ w',Va fv #[vf cs] z B w' fun _ B' v=>v = .bool r/\B' = B1) ->
   Fn fn #[vf cs,.pointer (some ⟨b,0,none⟩)] z B w fun _ B' v=>v = .bool (!r)/\B' = B1):Fam E fe vf where
 h:=fun {σ z w f a c v xs} Bf step s0 hx hf=>Fn.intro fun hS=>h3 (by
  unfold DE;refine aP ?_;intro b0 w1 hb0 hS1;have hS2:=hS1.freeze;have hz:=hS1.freeze_le;refine bO (args':=#[v,.func (.func fn) #[] #[.pointer (some ⟨b0,0,none⟩)]]) (B:=Bf s0) (F:=[]) (by simpa using hS2) (Cr hn h1 h2 Bf (BA step) s0 (hx.mono hz) (fun z' w' s cs x hxm hz' hr=>?_)) (by simp) ?_
  ·refine Fn.va (h4 (b:=b0) (by rw [E.len hr,hn]) ?_ (fun w''=>hf z' w'' s cs x hxm (hz.trans hz') hr)) (by simp)
   exact ⟨_,_,_,hz' _ _ (if_pos rfl),fun j u hu=>by simpa using hu⟩
  ·rintro z' B' w' v' hle hS' ⟨rfl,rfl⟩
   rw [append_nil] at hS';have:=tY (step:=step) xs 0 s0;refine aA ?_;exact ⟨_,_,hS',by rw [this.1],by rw [this.2]⟩)
theorem mV {fe:Nat} {vf:List Value->Value} [gf:Fam E fe vf] {f:Go.Fn} {a c:Array Value} {v:Value} {xs:List α} {p:α->Bool} (hx:SlR E z v xs)
  (hf:∀ z' w' cs x,x ∈ xs->Le z z'->E.rel z' cs x->Va1 (.func f a c) #[vf cs] z' w' fun _ r=>r = .bool (p x)) :
  Fn1 fe #[v,.func f a c] z w fun _ r=>r = .bool (xs.all p):=fun ho=>
 (gf.h (σ:=Unit) (fun _=>[]) (zT p) () hx (fun z' w' s cs x hm hz hr ho=>CallV.mono (hf z' w' cs x hm hz hr ho) (fun v w'' ⟨z'',h1,h2⟩=>⟨z'',[],h1,h2,rfl⟩)) ho).mono
  (retK.mono fun v w' ⟨z',B',h1,h2,h3⟩=>⟨z',h1.drop,by rw [h2,rl]⟩)
end
end
section
theorem ci {w0 w:World} {z0 z:Z} {L:Bl} {v v':Value} [hS:Res w0 z0 [] w z L] (h:v = v'):∃ z' L',Res w0 z0 [] w z' L'/\v = v':=⟨z,L,hS,h⟩
abbrev bytes (s:ByteArray):List UInt8:=s.data.toList
theorem aI (s:ByteArray):s.size = (bytes s).length:=by simp
class PuV (f:Value) (args:Array Value) (v:outParam Value):Prop where
 h:∀ z w,Va1 f args z w fun _ v'=>v' = v
instance {f:FuncId} [aD f] {args:Array Value} {v:Value} [g:Pu f args v]:PuV (.func (.func f) #[] #[]) args v:=⟨fun z w=>(g.h z w).va (by simp)⟩
structure PartM where
 kind:Int
 text:ByteArray
 n:Int
structure ItemM where
 name:ByteArray
 via:Bool
structure SpotM where
 name:ByteArray
 at_:Int
structure InsM where
 op:Int
 a:Int
 b:Int
 c:Int
structure aH where
 consts:List ByteArray
 tmpls:List (List PartM)
 lists:List (List ItemM)
 labels:List SpotM
 slots:List ByteArray
 ins:List InsM
abbrev PartM.cells (t:PartM):List Value:=[.int .i64 t.kind,.string t.text,.int .i64 t.n]
abbrev ItemM.cells (t:ItemM):List Value:=[.string t.name,.bool t.via]
abbrev SpotM.cells (t:SpotM):List Value:=[.string t.name,.int .i64 t.at_]
abbrev InsM.cells (t:InsM):List Value:=[.int .i64 t.op,.int .i64 t.a,.int .i64 t.b,.int .i64 t.c]
abbrev PartM.v (t:PartM):Value:=.agg t.cells.toArray
abbrev ItemM.v (t:ItemM):Value:=.agg t.cells.toArray
abbrev SpotM.v (t:SpotM):Value:=.agg t.cells.toArray
abbrev InsM.v (t:InsM):Value:=.agg t.cells.toArray
def El.part:El PartM where
 size:=3
 rel:=fun _ cs x=>cs = x.cells/\x.text.size <= big
 mono:=fun h _=>h
 len:=fun h=>by rw [h.1]; rfl
 pos:=by decide
def El.item:El ItemM where
 size:=2
 rel:=fun _ cs x=>cs = x.cells/\x.name.size <= big
 mono:=fun h _=>h
 len:=fun h=>by rw [h.1]; rfl
 pos:=by decide
def El.spot:El SpotM where
 size:=2
 rel:=fun _ cs x=>cs = x.cells/\x.name.size <= big
 mono:=fun h _=>h
 len:=fun h=>by rw [h.1]; rfl
 pos:=by decide
def El.ins:El InsM where
 size:=4
 rel:=fun _ cs x=>cs = x.cells
 mono:=fun h _=>h
 len:=fun h=>by rw [h]; rfl
 pos:=by decide
def El.byte:El UInt8 where
 size:=1
 rel:=fun _ cs x=>cs = [.int .u8 x.toNat]
 mono:=fun h _=>h
 len:=fun h=>by rw [h]; rfl
 pos:=by decide
structure CodeR (z:Z) (v:Value) (c:aH):Prop where
 h:∃ v1 v2 v3 v4 v5 v6,v = .agg #[v1,v2,v3,v4,v5,v6]/\SlR El.str z v1 c.consts/\SlR (El.sl El.part) z v2 c.tmpls/\SlR (El.sl El.item) z v3 c.lists/\SlR El.spot z v4 c.labels/\SlR El.str z v5 c.slots/\SlR El.ins z v6 c.ins
theorem CodeR.mono {z z':Z} {v:Value} {c:aH} (h:CodeR z v c) (hz:Le z z'):CodeR z' v c:=by
 obtain ⟨v1,v2,v3,v4,v5,v6,h0,h1,h2,h3,h4,h5,h6⟩:=h.h;exact ⟨v1,v2,v3,v4,v5,v6,h0,h1.mono hz,h2.mono hz,h3.mono hz,h4.mono hz,h5.mono hz,h6.mono hz⟩
instance:Fam (El.sl El.part) 138 se:=kD (I:=3) (S:=23) (T:=93) (n:=1) (fi:=246) (fc:=206) (fn:=207) (FT:=224) rfl (fun h=>en246 h) (fun h=>en206 h) (fun h=>en138 h) (fun _ hat hv=>mT (fun h=>en207 h) hat hv)
instance:Fam El.part 140 nY:=kD (I:=3) (S:=93) (T:=95) (n:=3) (fi:=247) (fc:=208) (fn:=209) (FT:=223) rfl (fun h=>en247 h) (fun h=>en208 h) (fun h=>en140 h) (fun hl hat hv=>sx (fun h=>en209 h) hl hat hv)
instance:Fam El.str 142 se:=kD (I:=3) (S:=22) (T:=9) (n:=1) (fi:=248) (fc:=210) (fn:=211) (FT:=215) rfl (fun h=>en248 h) (fun h=>en210 h) (fun h=>en142 h) (fun _ hat hv=>mT (fun h=>en211 h) hat hv)
instance:Fam (El.sl El.item) 143 se:=kD (I:=3) (S:=24) (T:=96) (n:=1) (fi:=249) (fc:=212) (fn:=213) (FT:=227) rfl (fun h=>en249 h) (fun h=>en212 h) (fun h=>en143 h) (fun _ hat hv=>mT (fun h=>en213 h) hat hv)
instance:Fam El.item 151 nY:=kD (I:=3) (S:=96) (T:=98) (n:=2) (fi:=252) (fc:=218) (fn:=219) (FT:=230) rfl (fun h=>en252 h) (fun h=>en218 h) (fun h=>en151 h) (fun hl hat hv=>sx (fun h=>en219 h) hl hat hv)
instance:Fam El.spot 145 nY:=kD (I:=3) (S:=25) (T:=54) (n:=2) (fi:=77) (fc:=214) (fn:=215) (FT:=144) rfl (fun h=>en77 h) (fun h=>en214 h) (fun h=>en145 h) (fun hl hat hv=>sx (fun h=>en215 h) hl hat hv)
instance:Fam El.int 170 se:=kD (I:=3) (S:=45) (T:=3) (n:=1) (fi:=260) (fc:=232) (fn:=233) (FT:=249) rfl (fun h=>en260 h) (fun h=>en232 h) (fun h=>en170 h) (fun _ hat hv=>mT (fun h=>en233 h) hat hv)
instance:Fam El.byte 216 se:=kD (I:=3) (S:=55) (T:=5) (n:=1) (fi:=274) (fc:=250) (fn:=251) (FT:=280) rfl (fun h=>en274 h) (fun h=>en250 h) (fun h=>en216 h) (fun _ hat hv=>mT (fun h=>en251 h) hat hv)
end
section
structure FormM where
 name:ByteArray
 k0:Int
 k1:Int
 k2:Int
 pops:Int
 pushes:Int
 loop:Int
 final:Bool
abbrev FormM.cells (f:FormM):List Value:=[.string f.name,.int .i64 f.k0,.int .i64 f.k1,.int .i64 f.k2,.int .i64 f.pops,.int .i64 f.pushes,.int .i64 f.loop,.bool f.final]
abbrev FormM.v (f:FormM):Value:=.agg f.cells.toArray
def noForm:FormM:=⟨⟨#[]⟩,0,0,0,0,0,0,false⟩
def formL:List FormM:=[noForm,
 ⟨⟨#[99,108,97,117,115,101]⟩,1,2,15,0,0,0,false⟩,
 ⟨⟨#[100,111,110,101]⟩,0,0,0,0,0,0,false⟩,
 ⟨⟨#[99,111,110,115,116]⟩,2,0,0,0,1,0,false⟩,
 ⟨⟨#[109,105,115,115]⟩,0,0,0,0,1,0,false⟩,
 ⟨⟨#[118,97,114]⟩,3,0,0,0,1,0,false⟩,
 ⟨⟨#[115,108,111,116]⟩,9,0,0,0,1,0,false⟩,
 ⟨⟨#[115,116,101,109]⟩,4,0,0,0,1,0,false⟩,
 ⟨⟨#[99,111,109,112]⟩,5,0,0,0,1,0,false⟩,
 ⟨⟨#[112,101,101,107]⟩,6,0,0,0,1,0,false⟩,
 ⟨⟨#[98,105,110]⟩,17,0,0,2,1,0,false⟩,
 ⟨⟨#[117,110]⟩,18,0,0,1,1,0,false⟩,
 ⟨⟨#[102,117,110]⟩,23,16,14,0,1,0,false⟩,
 ⟨⟨#[116,101,108,108]⟩,0,0,0,1,1,0,false⟩,
 ⟨⟨#[112,111,112]⟩,0,0,0,1,0,0,false⟩,
 ⟨⟨#[115,101,116]⟩,6,0,0,1,0,0,false⟩,
 ⟨⟨#[112,117,116]⟩,9,0,0,1,0,0,false⟩,
 ⟨⟨#[100,114,111,112]⟩,11,0,0,0,0,0,false⟩,
 ⟨⟨#[112,114,111,99]⟩,12,0,0,0,0,0,false⟩,
 ⟨⟨#[97,100,100,114]⟩,15,23,0,0,0,0,false⟩,
 ⟨⟨#[99,109,100]⟩,8,0,0,1,0,0,false⟩,
 ⟨⟨#[115,117,98]⟩,23,16,14,0,0,0,false⟩,
 ⟨⟨#[116,114,97,112]⟩,23,15,23,0,0,0,false⟩,
 ⟨⟨#[106,117,109,112]⟩,13,0,0,0,0,0,true⟩,
 ⟨⟨#[102,97,108,115,101]⟩,13,0,0,1,0,0,false⟩,
 ⟨⟨#[112,108,117,115]⟩,0,0,0,1,1,0,false⟩,
 ⟨⟨#[119,104,111,108,101]⟩,0,0,0,1,1,0,false⟩,
 ⟨⟨#[111,118,101,114]⟩,7,22,0,1,0,1,false⟩,
 ⟨⟨#[99,111,117,110,116]⟩,0,0,0,1,0,1,false⟩,
 ⟨⟨#[108,111,111,112]⟩,0,0,0,0,0,1,false⟩,
 ⟨⟨#[116,101,115,116]⟩,13,0,0,0,0,0,false⟩,
 ⟨⟨#[116,117,114,110]⟩,1,2,0,0,0,0,false⟩,
 ⟨⟨#[98,121]⟩,0,0,0,0,0,0,false⟩,
 ⟨⟨#[111,117,116]⟩,20,0,0,0,0,0,false⟩,
 ⟨⟨#[105,110,116,101,114,112]⟩,0,0,0,1,0,0,false⟩,
 ⟨⟨#[110,117,109,101,114,105,99]⟩,15,14,0,0,0,0,false⟩,
 ⟨⟨#[112,97,114,115,101]⟩,10,19,14,0,0,0,false⟩,
 ⟨⟨#[112,117,115,104]⟩,0,0,0,1,0,0,false⟩,
 ⟨⟨#[113,117,101,117,101]⟩,0,0,0,1,0,0,false⟩,
 ⟨⟨#[115,97,121]⟩,0,0,0,1,0,0,false⟩,
 ⟨⟨#[101,120,105,116]⟩,14,0,0,0,0,0,true⟩,
 ⟨⟨#[114,101,116]⟩,14,0,0,0,0,0,true⟩,
 ⟨⟨#[115,105,103,110,97,108]⟩,2,0,0,0,0,0,true⟩,
 ⟨⟨#[115,105,103,118,97,108]⟩,0,0,0,1,0,0,true⟩,
 ⟨⟨#[116,114,97,99,101]⟩,2,0,0,0,0,0,false⟩,
 ⟨⟨#[114,97,105,115,101]⟩,21,0,0,0,0,0,true⟩,
 ⟨⟨#[101,110,100]⟩,0,0,0,0,0,0,true⟩]
def formsC:List Value:=formL.flatMap FormM.cells
def cO (n:Int):Bool:=decide (1 <= n) && decide (n <= 46)
def aG (n:Int):FormM:=if cO n then formL.getD n.toNat noForm else noForm
theorem CM {w0 w:World} {z0 z:Z} {B0 L:Bl} {K:RP} [hS:Res w0 z0 B0 w z L] {t n:Nat} (g:∃ zs,bD t zs/\zs.length = n)
  (hk:∀ b w' (zs:List Value),zs.length = n->w0.heap.size <= b->Res w0 z0 B0 w' z ((b,.cells zs.toArray t (0,0)) :: L)->K (.pointer (some ⟨b,0,none⟩)) w'):V (al t) w K:=by
 obtain ⟨zs,h1,h2⟩:=g;exact Bt (g:=h1) hS fun b w' hb hS'=>hk b w' zs h2 hb hS'
theorem SetN.whole {l vs:List Value} (h:l.length = vs.length):SetN l 0 vs vs where
 len:=h.symm
 bound:=by omega
 inn:=fun j v hj=>by rw [Nat.zero_add]; exact hj
 out:=fun k hk=>by rw [getElem?_eq_none (by omega),getElem?_eq_none (by omega)]
theorem formsC_len:formsC.length = 376:=by decide +kernel
theorem wD:∀ u ∈ formsC,gB u = true:=by
 have:formsC.all gB = true:=by decide +kernel
 exact List.all_eq_true.1 this
class xK (cells:List Value) (parts:List (Nat × Value)) (out:outParam (List Value)):Prop where
 h:Instr.fill (fun i=>some (i * 1,1)) cells.toArray parts = some out.toArray
instance {cells:List Value}:xK cells [] cells:=⟨rfl⟩
instance {cells cells' out:List Value} {i:Nat} {v u:Value} {parts:List (Nat × Value)} [gc:cQ v [u]] [gs:SetN cells i [u] cells'] [gf:xK cells' parts out]:xK cells ((i,v) :: parts) out:=⟨by
 unfold Instr.fill;have hb:=gs.bound;simp only [length_singleton] at hb;have hb':¬ (i * 1 + 1 > cells.length):=by omega
 simp only [gc.h,size_toArray,length_singleton,ne_eq,not_true_eq_false,decide_false,Bool.false_or,hb',if_false];have:([u].toArray.zipIdx.foldl (fun cs (x:Value × Nat)=>cs.setIfInBounds (i * 1 + x.2) x.1) cells.toArray) = cells'.toArray:=by
  rw [<- Array.foldl_toList,Array.toList_zipIdx,kB,Nat.add_zero,Nat.mul_one,gs.eq]
 rw [this];exact gf.h⟩
instance (priority:=1100) {t n e:Nat} {zs out:List Value} {parts:List (Nat × Value)} [g:ja t n e 1] [gz:bD t zs] [gf:xK zs parts out]:Run (bd t parts.toArray) (.agg out.toArray):=⟨fun w=>by
 obtain ⟨v,h1,h2⟩:=gz.h;simp only [bd,Instr.build,Sem.run_bind,h2,Result.andThen_ok,g.und,g.size,h1,gf.h]
 rfl⟩
theorem Ai:∃ zs,bD 234 zs/\zs.length = 376:=⟨(replicate 47 noForm.cells).flatten,⟨.agg ((replicate 47 noForm.cells).flatten).toArray,rfl,fun _=>by kernel_rfl⟩,by decide +kernel⟩
instance:bn 234 376:=⟨fun _=>by kernel_rfl⟩
instance:aR 234 376:=⟨fun _=>by kernel_rfl⟩
instance:Pu 159 #[] (.agg formsC.toArray):=⟨fun z w=>Fn1.intro fun hS=>en159 (by
 unfold vc159;refine CM Ai ?_;intro b w1 zs hzs hb hS1;(repeat (refine aA ?_));refine ⟨.agg formsC.toArray,w1,by kernel_rfl,?_⟩;refine Bu (vs:=formsC) (n:=376) (l:=zs) (l':=formsC) (go:=⟨wD⟩) (gl:=SetN.whole (hzs.trans formsC_len.symm)) hS1 formsC_len ?_;intro w2 hS2;refine Du (n:=376) (vs:=formsC) ⟨_,_,_,(hS2.mem _ mem_cons_self).1,fun j u hu=>by rw [Nat.zero_add]; simpa using hu⟩ formsC_len ?_;exact ci rfl)⟩
theorem mU {α:Type} {f:α->List Value} {n:Nat} (hf:∀ x,(f x).length = n) {xs:List α} {i:Nat} {x:α} (hx:xs[i]? = some x):(xs.flatMap f).toArray.extract (i * n) (i * n + n) = (f x).toArray:=by
 refine GetN.eq ⟨hf x,fun j v hv=>uZ hf hx j v hv⟩
theorem DZ {t n e s:Nat} [g:ja t n e s] [ga:bn e s] [gs:aR e s] {l vs:List Value} {i:Int} {k:IntKind} {K:Value->Prop} (h0:0 <= i) (h1:i < n) (he:l.toArray.extract (i.toNat * s) (i.toNat * s + s) = vs.toArray) (hk:K (.agg vs.toArray)):PV (ix t (.agg l.toArray) (.int k i)) K:=
 ⟨_,fun w=>by
  simp only [ix,Instr.index,asIntOf,pure_bind,Sem.run_bind,g.und,g.size,Result.andThen_ok,h0,h1,and_self,if_true];rw [nB,he],hk⟩
theorem uW {n:Int} (h:cO n = true):formL[n.toNat]? = some (aG n):=by
 simp only [cO,Bool.and_eq_true,decide_eq_true_eq] at h;have hl:n.toNat < formL.length:=by
   have:formL.length = 47:=by decide +kernel
   omega
 unfold aG cO;rw [getElem?_eq_getElem hl,if_pos (by simp; omega),getD_eq_getElem?_getD,getElem?_eq_getElem hl]; rfl
instance {i:InsM}:Pu 49 #[i.v] (.tuple #[(aG i.op).v,.bool (cO i.op)]):=⟨fun z w=>Fn1.intro fun hS=>en49 (by
 unfold vc49;dsimp only [InsM.v,InsM.cells];(repeat (first | refine aA ?_ | refine aE ?_ | (refine aP ?_; intro _ _ _ _) | (refine JC ?_; intro _ _ _ _)));refine aO (fun h=>?_) (fun h=>?_)
 ·have hb:cO i.op = false:=by revert h; unfold cO; by_cases h1:i.op < 1 <;> simp [h1] <;> omega
  (repeat (first | refine aA ?_ | (refine aF ?_; intro _ _) | refine aq ?_));exact ci (by rw [hb,aG,hb]; rfl)
 ·have hb:cO i.op = true:=by revert h; unfold cO; by_cases h1:i.op < 1 <;> simp [h1] <;> omega
  have hb':=hb;simp only [cO,Bool.and_eq_true,decide_eq_true_eq] at hb';(repeat (first | (refine iDr ?_; intro _ _) | refine aK ?_ | refine aW ?_ | refine bN ?_ | (refine aN ?_; intro _ _ _ _)));refine DZ (n:=47) (s:=8) (e:=102) (vs:=(aG i.op).cells) (by omega) (by omega) (mU (f:=FormM.cells) (n:=8) (fun x=>rfl) (uW hb)) ?_;dsimp only [FormM.cells];(repeat (first | (refine aF ?_; intro _ _) | refine aq ?_));exact ci (by rw [hb]))⟩
end
section
section
variable {w0 w w':World} {z0 z z':Z} {B0 B B' L F:Bl} {K:RP}
end
section
variable {w0 w:World} {z0 z z1:Z} {B0 L:Bl} {b:Nat}
theorem At.fld {h:Nat->Option Obj} {off i o:Nat} {v:Value} {vs:List Value} (ha:At h b off vs) (hv:vs[i]? = some v) (ho:o = off + i):At h b o [v]:=by
 obtain ⟨c,ty,fr,g1,g2⟩:=ha;refine ⟨c,ty,fr,g1,fun j u hu=>?_⟩
 cases j with
 | zero=>simp at hu; subst hu; subst ho; exact g2 i v hv
 | succ j=>simp at hu
end
theorem SlR.take {α:Type} {E:El α} {z:Z} {a:Option Addr} {n cap k:Nat} {xs:List α} (h:SlR E z (.slice a n cap) xs) (hk:k <= xs.length):SlR E z (.slice a k cap) (xs.take k):=by
 obtain ⟨a',cap',h1,h2,h3,h4⟩:=h
 cases h1
 have hl:(xs.take k).length = k:=by rw [length_take]; omega
 refine ⟨a,cap,by rw [hl],by omega,by omega,fun hne=>?_⟩;have hx:xs ≠ []:=by intro e; rw [e] at hne; simp at hne
 obtain ⟨b,off,h5,h6⟩:=h4 hx;refine ⟨b,off,h5,fun i x hi=>h6 i x ?_⟩;have hlt:=(List.getElem?_eq_some_iff.1 hi).1;rw [hl] at hlt;rw [getElem?_take_of_lt hlt] at hi;exact hi
theorem SlR.drop {α:Type} {E:El α} {z:Z} {b off n cap k s:Nat} {xs:List α} (h:SlR E z (.slice (some ⟨b,off,none⟩) n cap) xs) (hs:E.size = s) (hk:k <= xs.length):SlR E z (.slice (some ⟨b,if cap = k then off else off + k * s,none⟩) (n - k) (cap - k)) (xs.drop k):=by
 obtain ⟨a',cap',h1,h2,h3,h4⟩:=h
 cases h1
 subst hs;refine ⟨_,cap - k,by rw [length_drop],by rw [length_drop]; omega,by rw [length_drop]; omega,fun hne=>?_⟩;have hkl:k < xs.length:=by
  rcases Nat.lt_or_ge k xs.length with hh | hh
  ·exact hh
  ·exact absurd (drop_of_length_le hh) hne
 have hx:xs ≠ []:=by intro e; rw [e] at hkl; simp at hkl
 obtain ⟨b',off',h5,h6⟩:=h4 hx
 cases h5
 refine ⟨b,off + k * E.size,by rw [if_neg (by omega)],fun i x hi=>?_⟩;rw [getElem?_drop] at hi;obtain ⟨cs,h7,h8⟩:=h6 _ x hi;exact ⟨cs,h7,by rw [Nat.add_assoc,<- Nat.add_mul]; exact h8⟩
theorem SlR.get {α:Type} {E:El α} {z:Z} {b off n cap i:Nat} {xs:List α} {x:α} (h:SlR E z (.slice (some ⟨b,off,none⟩) n cap) xs) (hx:xs[i]? = some x):∃ cs,E.rel z cs x/\At z b (off + i * E.size) cs:=by
 obtain ⟨hb,a,cap',h1,hc,hel⟩:=h.form;obtain ⟨b',off',cs,h2,h3,h4⟩:=hel i x hx
 cases h1
 cases h2
 exact ⟨cs,h3,h4⟩
instance {t:Nat} {s:ByteArray} {h:Int} {k:IntKind} [g:kM t] [hr:InR h (s.size + 1)]:Run (sl t (.string s) none (some (.int k h)) none) (.string (s.extract 0 h.toNat)):=⟨fun w=>by
 have h1:h <= s.size:=by have:=hr.h1; omega
 simp only [sl,Instr.sliceAt,Sem.run_bind,g.und,Result.andThen_ok,Instr.slice,Instr.sliceBounds,bv,Instr.sliceBound,asIntOf,pure_bind,hr.h0,h1,and_self,if_true,Option.isSome_none,Bool.false_eq_true,if_false]⟩
class mn (i:Int) (s:Nat) (o:outParam Nat):Prop where
 h:i.toNat * s = o
 h0:0 <= i
instance {s:Nat}:mn 0 s 0:=⟨Nat.zero_mul s,by decide⟩
instance {s:Nat}:mn 1 s s:=⟨Nat.one_mul s,by decide⟩
instance:mn 2 1 2:=⟨rfl,by decide⟩
instance {b t e s n off m o:Nat} [g:ja t n e s] {i:Int} {k:IntKind} [hi:InR i n] [hm:mn i s m] [ho:nb off m o]:Run (ia t (.pointer (some ⟨b,off,none⟩)) (.int k i)) (.pointer (some ⟨b,o,none⟩)):=⟨fun w=>by
 rw [<- ho.h,<- hm.h];simp only [ia,Instr.indexAt,Instr.sureAddr,asIntOf,pure_bind,Sem.run_bind,g.und,g.size,Result.andThen_ok,hi.h0,hi.h1,and_self,if_true,dj]
 rfl⟩
instance {t:Nat} {a b:Int} [h:InR 0 b] [g:InI a]:Run (bi .quo t (.int .i64 a) (.int .i64 b)) (.int .i64 (a.tdiv b)):=⟨fun w=>by
 have h1:b ≠ 0:=by have:=h.h1; omega
 have h2:=IntWalk.i64_quo' a b (by have:=g.h; have:=h.h1; omega);simp [bi,binOp,Op.intDiv,h1,h2]⟩
instance (priority:=500) {t:Nat} {a b:Int} [h:InR 0 b]:Run (bi .quo t (.int .i64 a) (.int .i64 b)) (.int .i64 (IntKind.i64.wrap (a.tdiv b))):=⟨fun w=>by
 have h1:b ≠ 0:=by have:=h.h1; omega
 simp [bi,binOp,Op.intDiv,h1]⟩
instance {t:Nat} {a b:Int} [h:InR 0 b]:Run (bi .rem t (.int .i64 a) (.int .i64 b)) (.int .i64 (a.tmod b)):=⟨fun w=>by
 have h1:b ≠ 0:=by have:=h.h1; omega
 simp [bi,binOp,Op.intDiv,h1]⟩
theorem sF {t:Nat} {a c:Int} (h0:0 <= c) (h1:c <= 64) (w:World):(bi .shr t (.int .i64 a) (.int .u64 c)).run Tryz.prog w = .ok (.int .i64 (a / 2 ^ c.toNat)) w:=by
 simp only [bi,binOp,Op.shift];rw [if_neg (by omega)];have:min c.toNat IntKind.i64.bits = c.toNat:=by
   have:IntKind.i64.bits = 64:=rfl;omega
 simp only [this];rw [Int.fdiv_eq_ediv_of_nonneg _ (by exact Int.le_of_lt (Int.pow_pos (by decide)))]
 rfl
instance {t:Nat} {a:Int}:Run (bi .shr t (.int .i64 a) (.int .u64 2)) (.int .i64 (a / 4)):=⟨fun w=>sF (by decide) (by decide) w⟩
instance {t:Nat} {a:Int}:Run (bi .shr t (.int .i64 a) (.int .u64 4)) (.int .i64 (a / 16)):=⟨fun w=>sF (by decide) (by decide) w⟩
instance {t:Nat} {a:Int}:Run (bi .shr t (.int .i64 a) (.int .u64 6)) (.int .i64 (a / 64)):=⟨fun w=>sF (by decide) (by decide) w⟩
instance {t:Nat} {a:Int}:Run (bi .shr t (.int .i64 a) (.int .u64 7)) (.int .i64 (a / 128)):=⟨fun w=>sF (by decide) (by decide) w⟩
theorem uU (n:Int) (k:Nat) (hk:k < 63):bits .and .i64 n ((2 ^ k - 1:Nat):Int) = n % 2 ^ k:=by
 have hp:2 ^ k <= 2 ^ 62:=Nat.pow_le_pow_right (by decide) (by omega);have hp0:0 < 2 ^ k:=Nat.pow_pos (by decide);have h127:(BitVec.ofInt 64 ((2 ^ k - 1:Nat):Int)).toNat = 2 ^ k - 1:=by
  rw [BitVec.toNat_ofInt];omega
 have key:(BitVec.ofInt 64 n &&& BitVec.ofInt 64 ((2 ^ k - 1:Nat):Int)).toNat = (n % ((2 ^ 64:Nat):Int)).toNat % 2 ^ k:=by
  rw [BitVec.toNat_and,BitVec.toNat_ofInt,h127,Nat.and_two_pow_sub_one_eq_mod]
 show IntKind.i64.wrap ((BitVec.ofInt 64 n &&& BitVec.ofInt 64 ((2 ^ k - 1:Nat):Int)).toNat:Nat) = n % 2 ^ k
 rw [key,IntKind.wrap_i64];have h1:((n % ((2 ^ 64:Nat):Int)).toNat % 2 ^ k:Nat) < 2 ^ k:=Nat.mod_lt _ hp0;have h2:(((n % ((2 ^ 64:Nat):Int)).toNat % 2 ^ k:Nat):Int) = n % 2 ^ k:=by
  rw [Int.natCast_emod,Int.toNat_of_nonneg (Int.emod_nonneg _ (by decide))];have:((2 ^ k:Nat):Int) ∣ ((2 ^ 64:Nat):Int):=Int.natCast_dvd_natCast.2 (Nat.pow_dvd_pow 2 (by omega));rw [Int.emod_emod_of_dvd _ this];simp
 rw [<- h2];omega
theorem AU {t:Nat} {a b:Int} (w:World):(bi .and t (.int .i64 a) (.int .i64 b)).run Tryz.prog w = .ok (.int .i64 (bits .and .i64 a b)) w:=rfl
instance {t:Nat} {a:Int}:Run (bi .and t (.int .i64 a) (.int .i64 3)) (.int .i64 (a % 4)):=⟨fun w=>by rw [AU]; congr 2; exact uU a 2 (by decide)⟩
instance {t:Nat} {a:Int}:Run (bi .and t (.int .i64 a) (.int .i64 127)) (.int .i64 (a % 128)):=⟨fun w=>by rw [AU]; congr 2; exact uU a 7 (by decide)⟩
end
section
def inB (n lo hi:Int):Bool:=decide (lo <= n) && decide (n <= hi)
theorem inB_iff {n lo hi:Int}:inB n lo hi = true ↔ lo <= n/\n <= hi:=by simp [inB]
theorem iq {n lo hi:Int}:inB n lo hi = false ↔ ¬ (lo <= n/\n <= hi):=by rw [<- inB_iff]; simp
instance {n lo hi:Int}:Pu 75 #[.int .i64 n,.int .i64 lo,.int .i64 hi] (.bool (inB n lo hi)):=⟨fun z w=>Fn1.intro fun hS=>en75 (by
 unfold vc75;(repeat (first | refine aA ?_ | refine JB ?_));exact ci (by unfold inB; cases decide (lo <= n) <;> rfl))⟩
instance {n lo hi:Int}:Pu 59 #[.int .i64 n,.int .i64 lo,.int .i64 hi] (.bool (inB n lo hi)):=⟨fun z w=>Fn1.intro fun hS=>en59 (by
 unfold vc59;(repeat (first | refine aA ?_ | refine JB ?_));exact ci (by unfold inB; by_cases h:lo <= n <;> simp [h]))⟩
theorem Ci {v:Value} {xs:List Int} {c:Int} {z:Z} {w:World} (hx:SlR El.int z v xs):Fn1 174 #[v,.int .i64 c] z w fun _ r=>r = .int .i64 (eo (fun x=>decide (c = x)) xs):=Fn1.intro fun hS=>en174 (by
 unfold vc174;obtain ⟨hb,a,cap,rfl,hc,hel⟩:=hx.form;(repeat (refine aA ?_));refine cC (fun (i:Nat) x w'=>x = .int .i64 i/\i <= xs.length/\(∀ j y,j < i->xs[j]? = some y->decide (c = y) = false)/\∃ z',Res w z [] w' z' []) (fun i=>xs.length - i) 0 ⟨rfl,by omega,fun j y h=>absurd h (by omega),z,hS⟩ ?_;rintro I M i x w2 m ⟨rfl,h1,h2,z2,hS2⟩ back
 (repeat (refine aA ?_));refine aC (fun h=>?_) (fun h=>?_)
 ·have hlt:i < xs.length:=by omega
  obtain ⟨b,off,cs,rfl,rfl,hat⟩:=hel i _ (getElem?_eq_getElem hlt);haveI:InR (i:Int) xs.length:=⟨by omega,by omega⟩
  haveI:InI ((i:Int) + 1):=⟨by simp only [big] at hb; omega⟩
  haveI:Fz z b (off + (i:Int).toNat * 1) [.int .i64 xs[i]]:=⟨by rw [Int.toNat_natCast]; exact hat⟩
  (repeat (first | refine aA ?_ | refine aL ?_));refine aC (fun h'=>?_) (fun h'=>?_)
  ·exact ⟨_,_,hS2,by rw [iz (p:=fun x=>decide (c = x)) h2 (getElem?_eq_getElem hlt) (by simpa using h')]⟩
  ·(repeat (refine aA ?_))
   refine back (i + 1) _ _ ⟨by simp,by omega,fun j y' hj hjy=>?_,z2,hS2⟩ (by omega)
   by_cases hji:j = i
   ·subst hji; rw [getElem?_eq_getElem hlt] at hjy; cases hjy; exact decide_eq_false h'
   ·exact h2 j y' (by omega) hjy
 ·skip
  exact ⟨_,_,hS2,by rw [nT fun j y hy=>h2 j y (by have:=(List.getElem?_eq_some_iff.1 hy).1; omega) hy]⟩)
theorem yR {v:Value} {xs:List Int} {c:Int} {z:Z} {w:World} (hx:SlR El.int z v xs):Fn1 76 #[v,.int .i64 c] z w fun _ r=>r = .bool (xs.any fun x=>decide (c = x)):=Fn1.intro fun hS=>en76 (by
 unfold vc76;refine ap (Ci hx) ?_;rintro z' w' v hle hS' rfl
 (repeat (refine aA ?_));exact ⟨_,_,‹_›,by rw [xD]⟩)
def gK:List Int->List Int->Int
 | pre,[]=>pre.length
 | pre,k :: l=>if k = 0 then (if (k :: l).all (fun x=>decide (x = 0)) then pre.length else -1) else if pre.any (fun x=>decide (k = x)) then -1 else gK (pre ++ [k]) l
def xe (n:Int):List Int:=[n % 4,n / 4 % 4,n / 16 % 4]
def dt (n:Int):Int:=if n / 64 = 0 then gK [] (xe n) else -1
instance {n:Int}:Pu 171 #[.int .i64 n] (.bool (decide (n = 0))):=⟨fun z w=>Fn1.intro fun hS=>en171 (by
 unfold vc171;(repeat (refine aA ?_));exact ci rfl)⟩
instance {n:Int}:Pu 57 #[.int .i64 n] (.int .i64 (dt n)):=⟨fun z w=>Fn1.intro fun hS=>en57 (by
 unfold vc57;(repeat (refine aA ?_));refine je (n:=3) rfl (by decide) ?_;intro b w1 hb hS1;have hS2:=hS1.freeze;have hle:=hS1.freeze_le;have hsl:SlR El.int (fun c=>if c = b then some (Obj.cells ([Value.int IntKind.i64 (n % 4)] ++ ([Value.int IntKind.i64 (n / 4 % 4)] ++ ([Value.int IntKind.i64 (n / 16 % 4)] ++ []))).toArray 3 (0,0)) else z c) (.slice (some ⟨b,0,none⟩) 3 3) (xe n):=by
  refine ⟨_,3,rfl,Nat.le_refl 3,(by show 3 <= big; decide),fun _=>⟨b,0,rfl,fun i x hx=>⟨_,rfl,_,_,_,if_pos rfl,fun j v hv=>?_⟩⟩⟩;have hj:j = 0:=by have:=(List.getElem?_eq_some_iff.1 hv).1; simp at this; exact this
  subst hj;simp only [getElem?_cons_zero,Option.some.injEq] at hv;subst hv;have hi:i < 3:=(List.getElem?_eq_some_iff.1 hx).1;have:i = 0 \/ i = 1 \/ i = 2:=by omega
  rcases this with rfl | rfl | rfl <;> (simp [xe] at hx; subst hx; rfl)
 generalize (fun c=>if c = b then some (Obj.cells ([Value.int IntKind.i64 (n % 4)] ++ ([Value.int IntKind.i64 (n / 4 % 4)] ++ ([Value.int IntKind.i64 (n / 16 % 4)] ++ []))).toArray 3 (0,0)) else z c) = z1 at hS2 hle hsl;have hK:(xe n).length = 3:=rfl;generalize hkk:xe n = ks at hsl hK;refine cC (fun (p:Nat) x w'=>x = .int .i64 p/\p <= 3/\gK [] ks = gK (ks.take p) (ks.drop p)/\∃ z',Le z1 z'/\Res w z [] w' z' []) (fun p=>3 - p) 0 ⟨rfl,by omega,rfl,z1,Le.refl _,hS2⟩ ?_;rintro I M p x w2 m ⟨rfl,h1,h2,z2,hz2,hS3⟩ back
 clear hS1 hS2;have hsl2:=hsl.mono hz2;(repeat (refine aA ?_));intro K hJ;have main:∀ (c:Bool) z3 w3,Le z2 z3->Res w z [] w3 z3 []->(c = true->∃ k,p < 3/\ks[p]? = some k/\k ≠ 0)->(c = false->p = 3 \/ ks[p]? = some 0)->K [.bool c] w3:=by
  intro c z3 w3 hz3 hS4 ht hf;refine hJ _ _ fun _=>?_
  have hsl3:=hsl2.mono hz3;refine aO (fun hc=>?_) (fun hc=>?_)
  ·obtain ⟨k,hp,hk,hk0⟩:=ht hc
   haveI:InR (p:Int) (((3:Nat):Int) + 1):=⟨by omega,by omega⟩
   haveI:InR (p:Int) ((3:Nat):Int):=⟨by omega,by omega⟩
   haveI:InI ((p:Int) + 1):=⟨by omega⟩
   (repeat (first | (refine iDr ?_; intro _ _) | refine aK ?_));obtain ⟨cs,rfl,hat⟩:=hsl3.get hk;rw [Nat.zero_add] at hat;refine fh hat ?_;refine ap (yR (hsl3.take (k:=p) (by omega))) ?_;rintro z5 w5 v5 hle5 hS5 rfl
   rw [drop_eq_getElem_cons (by omega:p < ks.length)] at h2;have hkk':ks[p]'(by omega) = k:=by rw [getElem?_eq_getElem (by omega)] at hk; exact Option.some.inj hk
   simp only [gK,hkk',if_neg hk0] at h2;refine aO (fun h'=>?_) (fun h'=>?_)
   ·refine ⟨_,_,hS5,?_⟩
    rw [if_pos h'] at h2;rw [dt,hkk,h2]; simp
   ·(repeat (refine aA ?_))
    refine back (p + 1) _ _ ⟨by simp,by omega,?_,_,(hz2.trans hz3).trans hle5,hS5⟩ (by omega);rw [h2,if_neg (by rw [h']; simp),<- hkk',take_append_getElem]
  ·have hend:gK [] ks = if (ks.drop p).all (fun x=>decide (x = 0)) then (p:Int) else -1:=by
    rw [h2];have hlen:((ks.take p).length:Int) = p:=by rw [length_take]; omega
    rcases hf hc with hp | hp
    ·rw [drop_of_length_le (by omega:ks.length <= p)]
     simp only [gK,hlen,all_nil,if_true]
    ·have hlt:=(List.getElem?_eq_some_iff.1 hp).1
     have h0:ks[p] = 0:=(List.getElem?_eq_some_iff.1 hp).2;rw [drop_eq_getElem_cons hlt];simp only [gK,if_pos h0,hlen]
   haveI:InR (p:Int) (((3:Nat):Int) + 1):=⟨by omega,by omega⟩
   (repeat (first | refine aA ?_ | (refine J1 ?_; intro _ _)));refine eO (fun h=>?_) (fun h=>?_)
   ·(repeat (first | refine ah ?_ | refine K1 ?_))
    exact ⟨_,_,‹_›,by rw [dt,if_neg h]⟩
   ·(repeat (refine aA ?_))
    have hd:=hsl3.drop (k:=p) (s:=1) rfl (by omega);refine ap (mV (E:=El.int) (p:=fun x=>decide (x = 0)) hd (fun z' w' cs x _ _ hr=>?_)) ?_
    ·cases hr
     exact (inferInstance:PuV (.func (.func 171) #[] #[]) #[.int .i64 x] (.bool (decide (x = 0)))).h _ _
    ·rintro z5 w5 v5 hle5 hS5 rfl
     (repeat (first | refine aA ?_ | refine K1 ?_));refine aU (fun h'=>?_) (fun h'=>?_)
     ·exact ⟨_,_,hS5,by rw [dt,if_pos h,hkk,hend,h']; simp⟩
     ·exact ⟨_,_,hS5,by rw [dt,if_pos h,hkk,hend,h']; simp⟩
 refine aC (fun h=>?_) (fun h=>?_)
 ·have hp:p < 3:=by omega
  haveI:InR (p:Int) ((3:Nat):Int):=⟨by omega,by omega⟩
  (repeat (refine aA ?_));obtain ⟨cs,rfl,hat⟩:=hsl2.get (getElem?_eq_getElem (by omega:p < ks.length));rw [Nat.zero_add] at hat;refine bL hat ?_;(repeat (refine aA ?_));refine main _ _ _ (Le.refl _) hS3 (fun hc=>⟨_,hp,getElem?_eq_getElem (by omega),by simpa using hc⟩) (fun hc=>.inr ?_);rw [getElem?_eq_getElem (by omega)]
  simpa using hc
 ·exact main _ _ _ (Le.refl _) hS3 (fun hc=>by cases hc) (fun _=>.inl (by omega)))⟩
end
section
theorem AQ {z:Z} {w:World}:Fn1 168 #[] z w fun _ v=>∃ a cap,v = .slice a 24 cap:=Fn1.intro fun hS=>en168 (by
 unfold vc168;refine je (n:=24) rfl (by decide) ?_;intro b w1 hb hS1;exact ⟨_,_,hS1,_,_,rfl⟩)
theorem CD {z:Z} {w:World}:Fn1 169 #[] z w fun _ v=>∃ a cap,v = .slice a 3 cap:=Fn1.intro fun hS=>en169 (by
 unfold vc169;refine je (n:=3) rfl (by decide) ?_;intro b w1 hb hS1;exact ⟨_,_,hS1,_,_,rfl⟩)
def rngTab:List (Int × Int × Int):=[(0,0,0),(14,0,1),(15,0,2),(16,0,10),(17,1,24),(18,1,3),(19,1,6),(20,1,40),(21,1,99)]
def cW (kind n:Int):Bool:=match rngTab.find? (·.1 == kind) with
 | some p=>inB n p.2.1 p.2.2
 | none=>decide (kind = 23) || (decide (kind = 22) && decide (dt n ≥ 0))
abbrev CU (p:Int × Int × Int):Int × Value:=(p.1,.agg [Value.int .i64 p.2.1,.int .i64 p.2.2].toArray)
theorem BF {α:Type} (l:List α) (k:α->Int) (v:α->Value) (n:Int) (zv:Value):lkF (l.map fun x=>(k x,v x)) n zv = match l.find? (fun x=>k x == n) with | some x=>(v x,true) | none=>(zv,false):=by
 induction l with
 | nil=>rfl
 | cons x l ih=>
  unfold lkF at ih ⊢;simp only [map_cons,find?_cons]
  cases h:k x == n with
  | true=>rfl
  | false=>exact ih
instance {kind n:Int}:Pu 56 #[.int .i64 kind,.int .i64 n] (.bool (cW kind n)):=⟨fun z w=>Fn1.intro fun hS=>en56 (by
 unfold vc56;(repeat (first | refine aA ?_ | (refine DW ?_; intro _ _ _ _)));refine mS (by simp) ?_;intro w2 hS2;(repeat (refine aA ?_));refine mS (by simp) ?_;intro w3 hS3;(repeat (refine aA ?_));refine mS (by simp) ?_;intro w4 hS4;(repeat (refine aA ?_));refine mS (by simp) ?_;intro w5 hS5
 skip
 refine ap AQ ?_;rintro z6 w6 v6 hle6 hS6 ⟨a6,c6,rfl⟩
 (repeat (refine aA ?_));refine mS (by simp) ?_;intro w7 hS7;refine ap CD ?_;rintro z8 w8 v8 hle8 hS8 ⟨a8,c8,rfl⟩
 (repeat (refine aA ?_));refine mS (by simp) ?_;intro w9 hS9;(repeat (refine aA ?_));refine mS (by simp) ?_;intro w10 hS10;(repeat (refine aA ?_));refine mS (by simp) ?_;intro w11 hS11;(repeat (refine aA ?_));refine mS (by simp) ?_;intro w12 hS12;have hS13:Res w z [] w12 z8 [(_,mO .i64 (rngTab.map fun p=>(p.1,(CU p).2)))]:=hS12;clear hS2 hS3 hS4 hS5 hS6 hS7 hS8 hS9 hS10 hS11 hS12;refine ⟨_,_,yx (zv:=.agg [Value.int .i64 0,.int .i64 0].toArray) (fun _=>by kernel_rfl) true,?_⟩;rw [if_pos rfl,BF rngTab (fun p=>p.1) (fun p=>(CU p).2)];unfold cW
 cases hf:rngTab.find? (fun p=>p.1 == kind) with
 | some p=>
  dsimp only [CU];haveI:InR (0:Int) ((2:Nat):Int):=⟨by omega,by omega⟩
  haveI:InR (1:Int) ((2:Nat):Int):=⟨by omega,by omega⟩
  (repeat (first | refine aA ?_ | refine aE ?_ | (refine aP ?_; intro _ _ _ _) | (refine aF ?_; intro _ _) | refine ah ?_ | (refine aN ?_; intro _ _ _ _)));exact ci rfl
 | none=>
  (repeat (first | refine aA ?_ | (refine aP ?_; intro _ _ _ _) | (refine aF ?_; intro _ _) | refine aj ?_ | (refine JC ?_; intro _ _ _ _)));exact ci (by cases decide (kind = 23) <;> cases decide (kind = 22) <;> rfl))⟩
theorem lr:∀ (l pre:List Int),-1 <= gK pre l/\gK pre l <= pre.length + l.length
 | [],pre=>by simp only [gK]; omega
 | k :: l,pre=>by
  simp only [gK]
  split
  ·split <;> omega
  ·split
   ·omega
   ·have:=lr l (pre ++ [k])
    simp only [length_append,length_cons,length_nil] at this ⊢;omega
theorem jq (n:Int):-1 <= dt n/\dt n <= 3:=by
 unfold dt
 split
 ·exact lr (xe n) []
 ·omega
def cU (i:InsM):Bool:=
 if i.op = 12 \/ i.op = 21 then cW 16 i.b else if i.op = 19 then cW 15 i.a else if i.op = 27 then decide (dt i.b ≥ 0) else if i.op = 35 then cW 15 i.a && cW 14 i.b
 else if i.op = 36 then cW 19 i.b else if i.op = 40 \/ i.op = 41 then cW 14 i.a else true
def cA (i:InsM):Int:=
 if i.op = 12 \/ i.op = 21 then i.b else if i.op = 19 then IntKind.i64.wrap (i.a.tdiv 2) else if i.op = 27 then 1 + dt i.b else if i.op = 35 then (if i.a < 2 then i.b else (aG i.op).pops)
 else if i.op = 36 then (if i.b = 6 then 1 else (aG i.op).pops) else if i.op = 40 \/ i.op = 41 then i.a else (aG i.op).pops
structure EffM where
 pops:Int
 pushes:Int
 e:Int
def dX (i:InsM):EffM:=if cO i.op && cU i then ⟨cA i,(aG i.op).pushes,0⟩ else ⟨0,0,1⟩
abbrev EffM.v (e:EffM):Value:=.tuple [.int .i64 e.pops,.int .i64 e.pushes,.int .i64 e.e].toArray
instance {i:InsM}:Pu 17 #[i.v] (dX i).v:=⟨fun z w=>Fn1.intro fun hS=>en17 (by
 unfold vc17;dsimp only [InsM.v,InsM.cells,FormM.v,FormM.cells];haveI:InI (1 + dt i.b):=⟨by have:=jq i.b; omega⟩
 (repeat (first | refine aA ?_ | refine ae ?_ | (refine aP ?_; intro _ _ _ _) | (refine aF ?_; intro _ _) | (refine aN ?_; intro _ _ _ _)));rename_i b1 w1 hb1 hS1 z2 w2 hle2 hS2 b2 w3 hb2 hS3 w4 hS4;refine aU (fun h=>?_) (fun h=>?_)
 ·exact ⟨_,_,hS4,by simp [dX,h]⟩
 intro K hJ;have main:∀ (is:Bool) (n:Int) z5 w5,Res w z [] w5 z5 [(b2,.cells [.string (aG i.op).name,.int .i64 (aG i.op).k0,.int .i64 (aG i.op).k1,.int .i64 (aG i.op).k2,.int .i64 n,.int .i64 (aG i.op).pushes,.int .i64 (aG i.op).loop,.bool (aG i.op).final].toArray 102 (0,0)),(b1,.cells [.int .i64 i.op,.int .i64 i.a,.int .i64 i.b,.int .i64 i.c].toArray 38 (0,0))]->is = cU i->n = cA i->K [.bool is] w5:=by
  intro is n z5 w5 hS5 his hn;refine hJ _ _ fun _=>?_
  (repeat (refine aA ?_));refine aU (fun h'=>?_) (fun h'=>?_)
  ·exact ⟨_,_,hS5,by rw [dX,h,<- his,h']; rfl⟩
  ·(repeat (first | (refine iDr ?_; intro _ _) | refine aK ?_ | refine aW ?_))
   exact ⟨_,_,‹_›,by rw [dX,h,<- his,h',hn]; rfl⟩
 (repeat (first | refine aA ?_ | refine aE ?_ | refine JB ?_));refine aO (fun h1=>?_) (fun h1=>?_)
 ·have h12:i.op = 12 \/ i.op = 21:=by by_cases e:i.op = 12 <;> simp [e] at h1 ⊢; exact h1
  (repeat (first | (refine iDr ?_; intro _ _) | refine aK ?_ | (refine aF ?_; intro _ _) | refine aW ?_ | refine bN ?_ | (refine aN ?_; intro _ _ _ _)));rename_i hSe;exact main _ _ _ _ hSe (by rw [cU,if_pos h12]) (by rw [cA,if_pos h12])
 have h12:¬ (i.op = 12 \/ i.op = 21):=by by_cases e:i.op = 12 <;> simp [e] at h1 ⊢; exact h1
 (repeat (refine aA ?_));refine aC (fun h2=>?_) (fun h2=>?_)
 ·haveI:InR (0:Int) 2:=⟨by decide,by decide⟩
  (repeat (first | (refine iDr ?_; intro _ _) | refine aK ?_ | (refine aF ?_; intro _ _) | refine aW ?_ | refine bN ?_ | (refine aN ?_; intro _ _ _ _)));rename_i hSe;exact main _ _ _ _ hSe (by rw [cU,if_neg h12,if_pos h2]) (by rw [cA,if_neg h12,if_pos h2])
 (repeat (refine aA ?_));refine aC (fun h3=>?_) (fun h3=>?_)
 ·(repeat (first | (refine iDr ?_; intro _ _) | refine aK ?_ | (refine aF ?_; intro _ _) | refine aW ?_ | refine bN ?_ | (refine aN ?_; intro _ _ _ _)))
  rename_i hSe;exact main _ _ _ _ hSe (by rw [cU,if_neg h12,if_neg h2,if_pos h3]) (by rw [cA,if_neg h12,if_neg h2,if_pos h3])
 (repeat (refine aA ?_));refine aC (fun h4=>?_) (fun h4=>?_)
 ·(repeat (first | refine aA ?_ | refine aE ?_ | (refine JC ?_; intro _ _ _ _) | (refine aN ?_; intro _ _ _ _)))
  refine aC (fun h5=>?_) (fun h5=>?_)
  ·(repeat (first | refine aA ?_ | refine aE ?_ | (refine aF ?_; intro _ _)))
   rename_i hSe;exact main _ _ _ _ hSe (by rw [cU,if_neg h12,if_neg h2,if_neg h3,if_pos h4]; cases cW 15 i.a <;> rfl) (by rw [cA,if_neg h12,if_neg h2,if_neg h3,if_pos h4,if_pos h5])
  ·skip
   rename_i hSe;exact main _ _ _ _ hSe (by rw [cU,if_neg h12,if_neg h2,if_neg h3,if_pos h4]; cases cW 15 i.a <;> rfl) (by rw [cA,if_neg h12,if_neg h2,if_neg h3,if_pos h4,if_neg h5])
 (repeat (refine aA ?_));refine aC (fun h5=>?_) (fun h5=>?_)
 ·(repeat (first | refine aA ?_ | refine aE ?_ | (refine aN ?_; intro _ _ _ _)))
  refine aC (fun h6=>?_) (fun h6=>?_)
  ·(repeat (first | refine aA ?_ | (refine aF ?_; intro _ _)))
   rename_i hSe;exact main _ _ _ _ hSe (by rw [cU,if_neg h12,if_neg h2,if_neg h3,if_neg h4,if_pos h5]) (by rw [cA,if_neg h12,if_neg h2,if_neg h3,if_neg h4,if_pos h5,if_pos h6])
  ·skip
   rename_i hSe;exact main _ _ _ _ hSe (by rw [cU,if_neg h12,if_neg h2,if_neg h3,if_neg h4,if_pos h5]) (by rw [cA,if_neg h12,if_neg h2,if_neg h3,if_neg h4,if_pos h5,if_neg h6])
 (repeat (refine JB ?_));refine aO (fun h6=>?_) (fun h6=>?_)
 ·have h46:i.op = 40 \/ i.op = 41:=by by_cases e:i.op = 40 <;> simp [e] at h6 ⊢; exact h6
  (repeat (first | (refine iDr ?_; intro _ _) | refine aK ?_ | (refine aF ?_; intro _ _) | refine aW ?_ | refine bN ?_ | (refine aN ?_; intro _ _ _ _)));rename_i hSe;exact main _ _ _ _ hSe (by rw [cU,if_neg h12,if_neg h2,if_neg h3,if_neg h4,if_neg h5,if_pos h46]) (by rw [cA,if_neg h12,if_neg h2,if_neg h3,if_neg h4,if_neg h5,if_pos h46])
 ·have h46:¬ (i.op = 40 \/ i.op = 41):=by by_cases e:i.op = 40 <;> simp [e] at h6 ⊢; exact h6
  skip
  exact main _ _ _ _ hS4 (by rw [cU,if_neg h12,if_neg h2,if_neg h3,if_neg h4,if_neg h5,if_neg h46,h]) (by rw [cA,if_neg h12,if_neg h2,if_neg h3,if_neg h4,if_neg h5,if_neg h46]))⟩
end
section
instance:ke 257 Extern.BytealgCount.count:=⟨fun _ _=>by kernel_rfl⟩
theorem pt (l:List UInt8) (c:UInt8):Lib.indexByte l c = eo (· == c) l:=by
 induction l with
 | nil=>rfl
 | cons b l ih=>
  unfold Lib.indexByte;rw [ih];unfold eo;rw [findIdx?_cons]
  cases hb:b == c with
  | true=>simp
  | false=>
   cases h:l.findIdx? (· == c) with
   | none=>simp
   | some i=>
    simp
instance {s:ByteArray} {c:Int}:Pu 253 #[.string s,.int .u8 c] (.int .i64 (eo (· == c.toNat.toUInt8) (bytes s))):=⟨fun z w=>Fn1.intro fun hS=>en253 (by
 unfold vc253;refine Cz (Lib.run_indexByteString s c w) ?_;exact ⟨z,[],hS,by rw [pt]⟩)⟩
instance {s:ByteArray} {c:Int}:Pu 221 #[.string s,.int .u8 c] (.int .i64 (eo (· == c.toNat.toUInt8) (bytes s))):=⟨fun z w=>Fn1.intro fun hS=>en221 (by
 unfold vc221;(repeat (refine aN ?_; intro _ _ _ _));exact ⟨_,_,‹_›,rfl⟩)⟩
abbrev b1 (c:UInt8):ByteArray:=⟨#[c]⟩
instance (priority:=1100) {t ty:Nat} {c:UInt8} [g:kM t]:Run (Builtin.len_ #[t] ty #[.string (b1 c)]) (.int .i64 1):=⟨fun w=>(inferInstance:Run (Builtin.len_ #[t] ty #[.string (b1 c)]) (.int .i64 (b1 c).size)).h w⟩
theorem CL (c:UInt8):bt (b1 c) 0 = c.toNat:=rfl
theorem sA (c:UInt8):((c.toNat:Int)).toNat.toUInt8 = c:=by simp
instance {c:UInt8}:dI (b1 c) 0:=⟨by decide,by show (0:Int) < ((1:Nat):Int); decide⟩
instance {s:ByteArray} {c:UInt8}:Pu 238 #[.string s,.string (b1 c)] (.int .i64 (eo (· == c) (bytes s))):=⟨fun z w=>Fn1.intro fun hS=>en238 (by
 unfold vc238;have hsz:(b1 c).size = 1:=rfl;(repeat (first | refine aA ?_ | refine JB ?_));refine aO (fun h=>?_) (fun h=>?_)
 ·have h:b1 c = s:=by simpa using h
  subst h;refine ⟨_,_,hS,?_⟩;have:=iz (p:=(· == c)) (xs:=bytes (b1 c)) (k:=0) (x:=c) (fun i y hi=>by omega) rfl (by simp);rw [this]; rfl
 ·(repeat (first | refine aA ?_ | refine ah ?_ | (refine aN ?_; intro _ _ _ _)))
  exact ⟨_,_,‹_›,by rw [CL,sA]⟩)⟩
instance {s:ByteArray} {c:UInt8}:Pu 258 #[.string s,.string (b1 c)] (.int .i64 (eo (· == c) (bytes s))):=⟨fun z w=>Fn1.intro fun hS=>en258 (by
 unfold vc258;(repeat (refine aN ?_; intro _ _ _ _));exact ⟨_,_,‹_›,rfl⟩)⟩
instance {s:ByteArray} {c:UInt8}:Pu 223 #[.string s,.string (b1 c)] (.int .i64 ((bytes s).count c)):=⟨fun z w=>Fn1.intro fun hS=>en223 (by
 unfold vc223;have hsz:(b1 c).size = 1:=rfl;(repeat (first | refine aA ?_ | refine ah ?_ | refine aj ?_));have hrun:=Lib.run_countString (P:=Tryz.prog) s (bt (b1 c) 0) w;rw [show (bt (b1 c) 0).toNat.toUInt8 = c by rw [CL,sA]] at hrun;have hc:Lib.countByte s.data.toList c = (bytes s).count c:=rfl;rw [hc] at hrun;refine Cz (e:=Extern.BytealgCount.count) (v:=.int .i64 ((bytes s).count c)) ?_ ?_
 ·generalize (bytes s).count c = n at hrun ⊢
  exact hrun
 ·exact ⟨z,[],hS,rfl⟩)⟩
def cj (s:ByteArray) (c:UInt8):Int:=eo (· == c) (bytes s)
abbrev oU (s:ByteArray) (c:UInt8):Value:=if 0 <= cj s c then .tuple #[.string (s.extract 0 (cj s c).toNat),.string (s.extract ((cj s c).toNat + 1) s.size),.bool true] else .tuple #[.string s,.string ⟨#[]⟩,.bool false]
theorem wF {α:Type} {p:α->Bool} {xs:List α}:-1 <= eo p xs/\eo p xs < xs.length \/ xs = []/\eo p xs = -1:=by
 unfold eo
 cases h:xs.findIdx? p with
 | none=>cases xs with
  | nil=>exact .inr ⟨rfl,rfl⟩
  | cons x l=>left; simp; omega
 | some i=>
  rw [findIdx?_eq_some_iff_getElem] at h;obtain ⟨hlt,_⟩:=h
  left; simp; omega
class Sm (s:ByteArray):Prop where
 h:s.size <= big
instance {s:ByteArray} {c:UInt8} [hs:Sm s]:Pu 191 #[.string s,.string (b1 c)] (oU s c):=⟨fun z w=>Fn1.intro fun hS=>en191 (by
 unfold vc191;(repeat (first | refine aA ?_ | (refine aN ?_; intro _ _ _ _)));refine aC (fun h=>?_) (fun h=>?_)
 ·have h0:0 <= cj s c:=h
  have h1:cj s c < s.size:=by
   rcases wF (p:=(· == c)) (xs:=bytes s) with hr | ⟨hr,hr2⟩
   ·have:=aI s; unfold cj; omega
   ·unfold cj at h0; omega
  have hb:=hs.h;simp only [big] at hb;haveI:InR (cj s c) (s.size + 1):=⟨by omega,by omega⟩
  haveI:InR (cj s c + 1) (s.size + 1):=⟨by omega,by omega⟩
  haveI:InI (cj s c + 1):=⟨by omega⟩
  have e:eo (fun x=>x == c) (bytes s) = cj s c:=rfl;rw [e];(repeat (first | (refine iDr ?_; intro _ _) | refine aK ?_));refine ⟨_,_,‹_›,?_⟩;rw [oU,if_pos h0];have:(cj s c + 1).toNat = (cj s c).toNat + 1:=by omega
  rw [this]
 ·have h0:¬ 0 <= cj s c:=h
  exact ⟨_,_,‹_›,by rw [oU,if_neg h0]⟩)⟩
end
section
theorem kw (w:World) (e:TypeId) (s:ByteArray):Lib.bytesWorld w e s = { w with drawn:=w.drawn + 1,heap:=w.heap.push (.cells (Lib.bytesCells w e s) e ((Lib.bytesCells w e s).size,(Lib.bytesCells w e s).size + 1)) }:=by
 have hh:(Lib.bytesWorld w e s).heap = w.heap.push (.cells (Lib.bytesCells w e s) e ((Lib.bytesCells w e s).size,(Lib.bytesCells w e s).size + 1)):=by
  apply Array.ext_getElem?
  intro j;rw [Array.getElem?_push]
  by_cases h1:j = w.heap.size
  ·subst h1; rw [Lib.bytesWorld_at_new,if_pos rfl]
  ·rw [if_neg h1]
   by_cases h2:j < w.heap.size
   ·exact Lib.bytesWorld_at_old w e s j h2
   ·rw [Array.getElem?_eq_none (by rw [Lib.bytesWorld_size]; omega),Array.getElem?_eq_none (by omega)]
 rw [show Lib.bytesWorld w e s = { Lib.bytesWorld w e s with heap:=(Lib.bytesWorld w e s).heap } from rfl,hh]
 rfl
theorem AY {w0 w:World} {z0 z:Z} {B0 L:Bl} {K:RP} [hS:Res w0 z0 B0 w z L] {s:ByteArray} (hs:s.size <= big)
  (hk:∀ z' w' v,Le z z'->Res w0 z0 B0 w' z' L->SlR El.byte z' v (bytes s)->K v w'):V (cv 9 55 (.string s)) w K:=by
 refine ⟨_,_,Lib.run_convert_string_bytes (u:=.string) (e:=5) w 9 55 s (by kernel_rfl) (by kernel_rfl) (by kernel_rfl),?_⟩;rw [kw];have h1:=Res.new (Res.drew hS) (.cells (Lib.bytesCells w 5 s) 5 ((Lib.bytesCells w 5 s).size,(Lib.bytesCells w 5 s).size + 1));have h2:=Res.freeze h1;refine hk _ _ _ (Res.freeze_le h1) h2 ⟨_,_,by rw [<- aI],by rw [<- aI]; exact grownCap_ge w s.size 0 5,by rw [<- aI]; exact hs,fun _=>⟨_,0,rfl,fun i x hx=>⟨_,rfl,_,_,_,if_pos rfl,fun j v hv=>?_⟩⟩⟩;have hj:j = 0:=by have:=(List.getElem?_eq_some_iff.1 hv).1; simpa using this
 subst hj;simp only [getElem?_cons_zero,Option.some.injEq] at hv;subst hv;have hi:=(List.getElem?_eq_some_iff.1 hx).1;have hx':s.data[i]? = some x:=by rw [<- Array.getElem?_toList]; exact hx
 show (Lib.bytesCells w 5 s)[0 + i * 1 + 0]? = _
 unfold Lib.bytesCells;rw [show 0 + i * 1 + 0 = i by omega,Array.getElem?_append_left (by simpa using hi),Array.getElem?_map,hx']
 rfl
def cg (s:ByteArray):Bool:=decide (s.size <= 1000) && (bytes s).all fun c=>inB c.toNat 32 126
instance {c:Int}:Pu 217 #[.int .u8 c] (.bool (inB (IntKind.i64.wrap c) 32 126)):=⟨fun z w=>Fn1.intro fun hS=>en217 (by
 unfold vc217;(repeat (first | refine aA ?_ | (refine aN ?_; intro _ _ _ _)));exact ⟨_,_,‹_›,rfl⟩)⟩
theorem rx (c:UInt8):IntKind.i64.wrap (c.toNat:Int) = c.toNat:=hU (by have:=c.toNat_lt; unfold inI; omega)
instance {s:ByteArray}:Pu 147 #[.string s] (.bool (cg s)):=⟨fun z w=>Fn1.intro fun hS=>en147 (by
 unfold vc147;(repeat (first | refine aA ?_ | (refine J1 ?_; intro _ _)));refine aC (fun h=>?_) (fun h=>?_)
 ·have hs:s.size <= 1000:=by omega
  refine AY (by simp only [big]; omega) ?_;intro z1 w1 v1 hz1 hS1 hv;refine ap (mV (E:=El.byte) (p:=fun c=>inB c.toNat 32 126) hv (fun z' w' cs x _ _ hr=>?_)) ?_
  ·cases hr
   have:=(inferInstance:PuV (.func (.func 217) #[] #[]) #[.int .u8 x.toNat] (.bool (inB (IntKind.i64.wrap x.toNat) 32 126))).h z' w';rw [rx] at this;exact this
  ·rintro z5 w5 v5 hle5 hS5 rfl
   (repeat (refine K1 ?_));exact ⟨_,_,hS5,by simp [cg,hs]⟩
 ·have hs:¬ s.size <= 1000:=by omega
  (repeat (refine K1 ?_));exact ⟨_,_,‹_›,by simp [cg,hs]⟩)⟩
def qD (c:UInt8):Bool:=inB c.toNat 48 57
def fq (s:ByteArray):Bool:=!decide (s = ⟨#[]⟩) && (bytes s).all qD
instance {c:Int}:Pu 255 #[.int .u8 c] (.bool (inB (IntKind.i64.wrap c) 48 57)):=⟨fun z w=>Fn1.intro fun hS=>en255 (by
 unfold vc255;(repeat (first | refine aA ?_ | (refine aN ?_; intro _ _ _ _)));exact ⟨_,_,‹_›,rfl⟩)⟩
instance {s:ByteArray} [hs:Sm s]:Pu 254 #[.string s] (.bool (fq s)):=⟨fun z w=>Fn1.intro fun hS=>en254 (by
 unfold vc254;(repeat (first | refine aA ?_ | (refine J1 ?_; intro _ _)));refine eO (fun h=>?_) (fun h=>?_)
 ·refine AY hs.h ?_
  intro z1 w1 v1 hz1 hS1 hv;refine ap (mV (E:=El.byte) (p:=qD) hv (fun z' w' cs x _ _ hr=>?_)) ?_
  ·cases hr
   have:=(inferInstance:PuV (.func (.func 255) #[] #[]) #[.int .u8 x.toNat] (.bool (inB (IntKind.i64.wrap x.toNat) 48 57))).h z' w';rw [rx] at this;exact this
  ·rintro z5 w5 v5 hle5 hS5 rfl
   (repeat (refine K1 ?_));exact ⟨_,_,hS5,by simp [fq,h]⟩
 ·(repeat (refine K1 ?_))
  exact ⟨_,_,‹_›,by simp [fq,h]⟩)⟩
abbrev DS:ByteArray:=⟨#[46,95,33,63]⟩
def kg (c:UInt8):Bool:=inB c.toNat 65 90 || (inB c.toNat 48 57 || decide (eo (· == c) (bytes DS) ≥ 0))
instance {c:UInt8}:Pu 220 #[.int .u8 c.toNat] (.bool (kg c)):=⟨fun z w=>Fn1.intro fun hS=>en220 (by
 unfold vc220;(repeat (first | refine aA ?_ | (refine JC ?_; intro _ _ _ _) | (refine aN ?_; intro _ _ _ _)));refine ⟨_,_,‹_›,?_⟩;rw [rx,sA];unfold kg
 cases inB c.toNat 65 90 <;> cases inB c.toNat 48 57 <;> rfl)⟩
def ez (s:ByteArray) (c:UInt8):Bool:=decide ((bytes s).getLast? = some c)
theorem tB {s:ByteArray} {c:UInt8} (h:1 <= s.size):decide (s.extract (s.size - 1) s.size = b1 c) = ez s c:=by
 have hb:bytes (s.extract (s.size - 1) s.size) = (bytes s).drop (s.size - 1):=by
  show (s.extract (s.size - 1) s.size).data.toList = _
  rw [ByteArray.data_extract,Array.toList_extract,extract_eq_take_drop,take_of_length_le (by simp)]
 have hl:(bytes s).drop (s.size - 1) = [(bytes s)[s.size - 1]'(by simp; omega)]:=by
  rw [drop_eq_getElem_cons (by simp; omega),drop_of_length_le (by simp; omega)]
 unfold ez;rw [getLast?_eq_getElem?,<- aI,getElem?_eq_getElem (by simp; omega)];refine decide_eq_decide.2 ⟨fun e=>?_,fun e=>?_⟩
 ·have:=congrArg bytes e
  rw [hb,hl,show bytes (b1 c) = [c] from rfl] at this
  simpa using this
 ·have h2:bytes (s.extract (s.size - 1) s.size) = bytes (b1 c):=by rw [hb,hl,show bytes (b1 c) = [c] from rfl]; simpa using e
  generalize s.extract (s.size - 1) s.size = u at h2
  cases u with | mk d=>
   have:d = #[c]:=by rw [<- Array.toList_inj]; exact h2
   rw [this]
instance {s:ByteArray} {c:UInt8} [hs:Sm s]:Pu 259 #[.string s,.string (b1 c)] (.bool (ez s c)):=⟨fun z w=>Fn1.intro fun hS=>en259 (by
 unfold vc259;(repeat (first | refine aA ?_ | (refine J1 ?_; intro _ _)));refine aC (fun h=>?_) (fun h=>?_)
 ·have hb:=hs.h
  simp only [big] at hb;haveI:InI ((s.size:Int) - 1):=⟨by omega⟩
  haveI:InR ((s.size:Int) - 1) (s.size + 1):=⟨by omega,by omega⟩
  (repeat (first | refine aA ?_ | refine K1 ?_));refine ⟨_,_,‹_›,?_⟩;rw [show ((s.size:Int) - 1).toNat = s.size - 1 by omega,tB (by omega)]
 ·(repeat (refine K1 ?_))
  refine ⟨_,_,‹_›,?_⟩;have:bytes s = []:=eq_nil_of_length_eq_zero (by rw [<- aI]; omega);rw [ez,this]; rfl)⟩
instance {s:ByteArray} {c:UInt8} [hs:Sm s]:Pu 224 #[.string s,.string (b1 c)] (.bool (ez s c)):=⟨fun z w=>Fn1.intro fun hS=>en224 (by
 unfold vc224;(repeat (refine aN ?_; intro _ _ _ _));exact ⟨_,_,‹_›,rfl⟩)⟩
instance {s:ByteArray} {c:UInt8} [hs:Sm s]:Pu 134 #[.string s,.string (b1 c)] (oU s c):=⟨fun z w=>Fn1.intro fun hS=>en134 (by
 unfold vc134;refine aN ?_;intro z1 w1 hz1 hS1;unfold oU
 split
 ·(repeat (refine aA ?_))
  exact ⟨_,_,hS1,rfl⟩
 ·(repeat (refine aA ?_))
  exact ⟨_,_,hS1,rfl⟩)⟩
end
section
instance:ke 234 Extern.AbiNoEscape.same:=⟨fun _ _=>by kernel_rfl⟩
abbrev buO (p:Option Addr) (v:Value):Obj:=.cells [.pointer p,v].toArray 199 (0,0)
instance {a:Option Addr} {x y:Operand}:Run (eq .eql 197 x y (.pointer a) (.pointer none)) (.bool a.isNone):=⟨fun w=>by
 have h:∀ d:Nat,(Op.equalIn (d + 1) 197 (.pointer a) (.pointer none)).run Tryz.prog w = .ok a.isNone w:=fun d=>by
  have hu:Tryz.prog.underlying 197 = some (.pointer 199):=by kernel_rfl
  cases a <;> simp [Op.equalIn,run_underlying hu]
 have:=h 9999;simp only [eq,eqGuard,binOp,Op.equal,Op.maxDepth,Sem.run_bind];simp [this]⟩
instance {b off:Nat} {x y:Operand}:Run (eq .neq 197 x y (.pointer (some ⟨b,off,none⟩)) (.pointer (some ⟨b,off,none⟩))) (.bool false):=⟨fun w=>by
 have hu:Tryz.prog.underlying 197 = some (.pointer 199):=by kernel_rfl
 have hi:∃ j,Tryz.prog.info? 199 = some j:=by
  have:(Tryz.prog.info? 199).isSome = true:=by kernel_rfl
  exact Option.isSome_iff_exists.1 this
 obtain ⟨j,hj⟩:=hi;have:=Lib.run_neq_ptr_same (w:=w) (⟨b,off,none⟩:Addr) hu hj;simp only [eq,eqGuard,Sem.run_bind]
 simpa using this⟩
theorem nW {b:Nat} {p:Option Addr} {v:Value} {z:Z} {w:World} (hp:p = none \/ p = some ⟨b,0,none⟩):Fn 184 #[.pointer (some ⟨b,0,none⟩)] z [(b,buO p v)] w fun _ B' r=>r = .tuple #[]/\B' = [(b,buO (some ⟨b,0,none⟩) v)]:=Fn.intro fun hS=>en184 (by
 unfold vc184;(repeat (first | refine aA ?_ | refine aE ?_))
 rcases hp with rfl | rfl
 ·refine ah ?_
  have hat:w.heap[b]? = some (buO none v):=(hS.mem _ mem_cons_self).1;have hsh:w.shape? b = some (199,2):=by unfold World.shape?; rw [hat]; rfl
  have hi:∃ j,Tryz.prog.info? 199 = some j/\j.size ≠ 0:=by
   have:(Tryz.prog.info? 199).any (fun j=>j.size != 0) = true:=by kernel_rfl
   cases h:Tryz.prog.info? 199 with
   | none=>rw [h] at this; cases this
   | some j=>rw [h] at this; exact ⟨j,rfl,by simpa using this⟩
  obtain ⟨j,hj,hj0⟩:=hi;refine ⟨_,_,Lib.run_to_unsafe (w:=w) (t:=199) (⟨b,0,none⟩:Addr) (by kernel_rfl) (by kernel_rfl) hj hj0 hsh (show 0 < 2 by decide),?_⟩;refine Cz (e:=Extern.AbiNoEscape.same) (Lib.run_noEscape w _) ?_;refine ⟨_,_,Lib.run_from_unsafe (w:=w) (u:=199) (⟨b,0,none⟩:Addr) (by kernel_rfl) (by kernel_rfl) hj hsh (by kernel_rfl),?_⟩;(repeat (first | refine aA ?_ | (refine aF ?_; intro _ _)));exact ⟨_,_,‹_›,rfl,rfl⟩
 ·refine aj ?_
  (repeat (first | refine aA ?_ | refine aE ?_ | refine aj ?_));exact ⟨_,_,hS,rfl,rfl⟩)
section
variable {w0 w w':World} {z0 z z':Z} {B0 B B' L F:Bl} {K:RP}
theorem wU {t u ty e bytes:Nat} [g:fP t e 1 bytes] (hu:Tryz.prog.underlying u = some .string) {v:Value} {n:Nat} {xs:List Value} {s:ByteArray} (hS:Res w0 z0 B0 w z (B ++ L)) (ho:OwnSl e 1 B v n xs)
  (hb:(n + s.size) * bytes <= room) (hb2:n + s.size <= room)
  (hk:∀ B' v' w',OwnSl e 1 B' v' (n + s.size) (xs ++ Lib.strCells s)->Res w0 z0 B0 w' z (B' ++ L)->K v' w'):V (Builtin.append_ #[t,u] ty #[v,.string s]) w K:=by
 obtain ⟨zv,hinfo,hzs⟩:=g.info;obtain ⟨i,hi,hz⟩:=Option.map_eq_some_iff.1 hinfo;simp only [Prod.mk.injEq] at hz;obtain ⟨hz0,hz1,hz2⟩:=hz;have hlen:(xs ++ Lib.strCells s).length = (n + s.size) * 1:=by rw [length_append,ho.1,Lib.strCells_length]; omega
 simp only [room] at hb hb2;have hmax:n + s.size <= maxLen:=by simp only [maxLen]; omega
 have h63:((n + s.size:Nat):Int) <= 9223372036854775807:=by omega
 have grown:∀ (old:Nat) (w1:World),w1 = w.drew.alloc (.cells (xs.toArray ++ (Lib.strCells s).toArray ++ Builtin.zeroCells zv.cells (grownCap w (n + s.size) old e - (n + s.size))) e) ->
   Res w0 z0 B0 w1 z ((w.heap.size,.cells (xs ++ Lib.strCells s ++ (Builtin.zeroCells zv.cells (grownCap w (n + s.size) old e - (n + s.size))).toList).toArray e (0,0)) :: (B ++ L)):=fun old w1 hw1=>by
  subst hw1;have:=Res.new (Res.drew hS) (.cells (xs ++ Lib.strCells s ++ (Builtin.zeroCells zv.cells (grownCap w (n + s.size) old e - (n + s.size))).toList).toArray e (0,0));have he:(xs.toArray ++ (Lib.strCells s).toArray ++ Builtin.zeroCells zv.cells (grownCap w (n + s.size) old e - (n + s.size))) = (xs ++ Lib.strCells s ++ (Builtin.zeroCells zv.cells (grownCap w (n + s.size) old e - (n + s.size))).toList).toArray:=by
   apply Array.toList_inj.1; simp
  rw [he];exact this
 have own':∀ (old:Nat),OwnSl e 1 [(w.heap.size,.cells (xs ++ Lib.strCells s ++ (Builtin.zeroCells zv.cells (grownCap w (n + s.size) old e - (n + s.size))).toList).toArray e (0,0))] (.slice (some ⟨w.heap.size,0,none⟩) (n + s.size) (grownCap w (n + s.size) old e)) (n + s.size) (xs ++ Lib.strCells s):=fun old=>by
  have hge:=grownCap_ge w (n + s.size) old e;refine ⟨hlen,.inr ⟨_,_,_,rfl,rfl,hge,grownCap_le_maxLen w (n + s.size) old e hmax,?_⟩⟩;rw [length_append,hlen,Array.length_toList,size_zeroCells,hzs,<- Nat.add_mul]
  congr 1
  omega
 rcases ho.2 with ⟨rfl,rfl,rfl⟩ | ⟨b,cap,sp,rfl,rfl,hcap,hcm,hsz⟩
 ·have hx0:xs = []:=eq_nil_of_length_eq_zero (by have:=ho.1; simpa using this)
  subst hx0
  by_cases h0:s.size = 0
  ·have hs0:Lib.strCells s = []:=eq_nil_of_length_eq_zero (by rw [Lib.strCells_length]; exact h0)
   refine ⟨.slice none 0 0,w,?_,hk [] _ _ ?_ hS⟩
   ·have hf:=Lib.run_firstCells_string (P:=Tryz.prog) w 1 s
    rw [h0] at hf;simp [Builtin.append_,run_underlying g.und,run_underlying hu,sizeOf,typeInfo,hi,hz1,Builtin.lenOf,h0,hf]
   ·rw [h0,hs0]; exact OwnSl.nil
  ·have hr:=run_append_nil_string (P:=Tryz.prog) w t u ty e i zv g.und hu hi hz0 s (by omega) (by simpa using h63) (by rw [hz2]; simp only [Nat.zero_add] at hb; omega)
   refine ⟨_,_,hr,?_⟩;have h5:=grown 0 _ rfl;have h6:=own' 0;simp only [Nat.zero_add] at h5 h6;have he:s.data.map (fun b=>Value.int .u8 b.toNat) = (Lib.strCells s).toArray:=Array.ext' (by simp [Lib.strCells]);rw [he];exact hk _ _ _ (by simpa using h6) (by simpa using h5)
 ·by_cases hroom:n + s.size <= cap
  ·have hat:=hS.mem (b,.cells (xs ++ sp).toArray e (0,0)) (by simp)
   have hxl:xs.length = n:=by have:=ho.1; omega
   have hr:=Lib.run_append_room_string (P:=Tryz.prog) w t u ty e i g.und hu hi hz1 b n cap (xs ++ sp).toArray hat.1 s hroom (by simp only [size_toArray,hsz]; omega);refine ⟨_,_,hr,?_⟩;rw [nA hat.1];have hnew:((xs ++ sp).toArray.toList.take n ++ Lib.strCells s ++ (xs ++ sp).toArray.toList.drop (n + s.size)) = xs ++ Lib.strCells s ++ sp.drop s.size:=by
    simp only [<- hxl,take_left,drop_append,drop_of_length_le (Nat.le_add_right xs.length s.size)];simp
   rw [hnew];refine hk [(b,.cells (xs ++ Lib.strCells s ++ sp.drop s.size).toArray e (0,0))] _ _ ⟨hlen,.inr ⟨b,cap,sp.drop s.size,rfl,rfl,hroom,hcm,?_⟩⟩ (Res.put hS _ rfl);rw [length_append,hlen,length_drop];have:sp.length = cap * 1 - n:=by rw [<- hsz,length_append,hxl]; omega
   omega
  ·have hat:=hS.mem (b,.cells (xs ++ sp).toArray e (0,0)) (by simp)
   have holds:∀ j u,xs[j]? = some u->w.cell? ((⟨b,0,none⟩:Addr).add j) = some u:=fun j u hu=>by
    rw [dj];refine At.cell (vs:=xs) ⟨_,_,_,hat.1,fun j u hu=>?_⟩ hu;simp only [Nat.zero_add,getElem?_toArray];rw [getElem?_append_left (List.getElem?_eq_some_iff.1 hu).1];exact hu
   have hr:=Lib.run_append_grow_string (P:=Tryz.prog) w t u ty e i zv g.und hu hi hz0 ⟨b,0,none⟩ n cap xs (by rw [hz1]; exact ho.1) holds s (by omega) h63 (growslice_fits (by omega) (by rw [hz2]; exact hb));refine ⟨_,_,hr,hk _ _ _ (own' cap) ((grown cap _ rfl).sublist ?_)⟩;simp
end
end
section
structure BuOk (b:Nat) (B:Bl) (xs:List Value):Prop where
 h:∃ p v Bb,B = (b,buO p v) :: Bb/\(p = none \/ p = some ⟨b,0,none⟩)/\OwnSl 5 1 Bb v xs.length xs
theorem BuOk.new {b:Nat}:BuOk b [(b,buO none (.slice none 0 0))] []:=⟨_,_,[],rfl,.inl rfl,OwnSl.nil⟩
theorem dz {b:Nat} {B:Bl} {xs:List Value} {s:ByteArray} {z:Z} {w:World} (hB:BuOk b B xs) (hn:xs.length + s.size <= room) :
  Fn 125 #[.pointer (some ⟨b,0,none⟩),.string s] z B w fun _ B' r=>BuOk b B' (xs ++ Lib.strCells s)/\r = .tuple #[.int .i64 s.size,.nilIface]:=Fn.intro fun hS=>en125 (by
 unfold vc125;obtain ⟨p,v,Bb,rfl,hp,ho⟩:=hB.h;refine bO (B:=[(b,buO p v)]) (F:=Bb) hS (nW hp) (by simp) ?_;rintro z1 B1 w1 v1 hz1 hS1 ⟨rfl,rfl⟩
 obtain ⟨a,cap,rfl,hcap⟩:=ho.form;have hS1':Res w z _ w1 z1 ((b,buO (some ⟨b,0,none⟩) (.slice a xs.length cap)) :: Bb):=hS1;have hS2:=hS1'.bring Bb;clear hS1 hS1';(repeat (first | refine aA ?_ | refine aE ?_));refine wU (t:=55) (u:=9) (bytes:=1) (by kernel_rfl) hS2 ho (by omega) hn ?_;intro B' v' w2 ho' hS3;obtain ⟨a',cap',rfl,hcap'⟩:=ho'.form;clear hS2;(repeat (first | refine aA ?_ | (refine aF ?_; intro _ _)));rename_i hSe;refine ⟨_,_,(hSe.bringB b),⟨_,_,_,rfl,.inr rfl,?_⟩,rfl⟩;rw [show (xs ++ Lib.strCells s).length = xs.length + s.size by rw [length_append,Lib.strCells_length]]
 simpa using ho')
theorem yI {w:World} {g n:Nat} {c:Array Value} {e:TypeId} (h:w.heap[g]? = some (.cells c e (0,0))) (hn:n ≠ 0):w.freeze ⟨g,0,none⟩ n = { w with heap:=w.heap.setIfInBounds g (.cells c e (0,n)) }:=by
 unfold World.freeze;rw [if_neg hn]
 congr 1
 apply Array.ext_getElem?
 intro j;rw [Array.getElem?_modify,Array.getElem?_setIfInBounds]
 by_cases hj:g = j
 ·subst hj
  rw [if_pos rfl,if_pos rfl,if_pos (co h),h];simp
 ·rw [if_neg hj,if_neg hj]
theorem ft {b:Nat} {B:Bl} {l:List UInt8} {z:Z} {w:World} (hB:BuOk b B (Lib.byteCells l)) (hl:l.length <= room) :
  Fn 132 #[.pointer (some ⟨b,0,none⟩)] z B w fun _ B' r=>B' = []/\r = .string ⟨l.toArray⟩:=Fn.intro fun hS=>en132 (by
 unfold vc132;obtain ⟨p,v,Bb,rfl,hp,ho⟩:=hB.h;obtain ⟨a,cap,rfl,hcap⟩:=ho.form;(repeat (first | (refine iDr ?_; intro _ _) | refine aK ?_ | refine aW ?_));rename_i w9 hSe;have hbl:(Lib.byteCells l).length = l.length:=Lib.byteCells_length l
 rcases ho.2 with ⟨rfl,hv,h0⟩ | ⟨g,cap',sp,rfl,hv,h1,h2,h3⟩
 ·have ha:a = none:=(Value.slice.inj hv).1
  subst ha;have hl0:l = []:=eq_nil_of_length_eq_zero (by omega);subst hl0;refine ⟨_,_,Lib.run_unsafeSliceData_nil _ _ _ _ _,?_⟩;(repeat (refine bN ?_));refine ⟨_,_,Lib.run_unsafeString_none _ _ _ _ _,?_⟩;(repeat (refine bN ?_));exact ⟨_,_,hSe.drop,rfl,rfl⟩
 ·have ha:a = some ⟨g,0,none⟩:=(Value.slice.inj hv).1
  have hc:cap' = cap:=(Value.slice.inj hv).2.2.symm;subst ha hc;have hgm:=hSe.mem (g,.cells (Lib.byteCells l ++ sp).toArray 5 (0,0)) (by simp);have hg1:w9.heap[g]? = some (.cells (Lib.byteCells l ++ sp).toArray 5 (0,0)):=hgm.1;have hsh:∀ w2:World,w2.heap[g]? = some (.cells (Lib.byteCells l ++ sp).toArray 5 (0,0))->w2.shape? g = some (5,cap'):=fun w2 h=>by
   unfold World.shape?;rw [h];simp only [size_toArray,h3,Nat.mul_one]
  by_cases hcap0:cap' = 0
  ·subst hcap0
   have hl0:l = []:=eq_nil_of_length_eq_zero (by omega);subst hl0;refine ⟨_,_,Lib.run_unsafeSliceData_zero _ _ _ 5 (by kernel_rfl) _ _ _ (hsh _ hg1),?_⟩;have hS9:Res w z _ (w9.alloc (.view ⟨g,0,none⟩ 5)) z _:=hSe.new (.view ⟨g,0,none⟩ 5);clear hSe hS;(repeat (refine bN ?_));refine ⟨_,_,Lib.run_unsafeString_none _ _ _ _ _,?_⟩;(repeat (refine bN ?_));exact ⟨_,_,hS9.drop,rfl,rfl⟩
  ·refine ⟨_,_,Lib.run_unsafeSliceData_row _ _ _ _ _ _ hcap0,?_⟩
   (repeat (refine bN ?_));rw [hbl] at hSe ⊢
   by_cases hl0:l = []
   ·subst hl0
    refine ⟨_,_,Lib.run_unsafeString_none _ _ _ _ _,?_⟩;(repeat (refine bN ?_));exact ⟨_,_,hSe.drop,rfl,rfl⟩
   ·refine ⟨_,_,Lib.run_unsafeString_row (e:=5) _ _ _ _ (by kernel_rfl) (by kernel_rfl) g cap' (hsh _ hg1) l hl0 (by omega) (by simp only [room] at hl; omega) (fun j x hx=>?_),?_⟩
    ·rw [dj]
     refine At.cell (vs:=Lib.byteCells l) ⟨_,_,_,hg1,fun j u hu=>?_⟩ (by unfold Lib.byteCells; rw [getElem?_map,hx]; rfl);simp only [Nat.zero_add,getElem?_toArray];rw [getElem?_append_left (List.getElem?_eq_some_iff.1 hu).1];exact hu
    ·rw [yI hg1 (by simpa using hl0)]
     have hS8:=Res.set (b:=g) hSe (.cells (Lib.byteCells l ++ sp).toArray 5 (0,l.length)) rfl;clear hSe hS;(repeat (refine bN ?_));exact ⟨_,_,hS8.drop,rfl,rfl⟩)
end
end Go.Proofs.YtbeelfopmkbllaaGreatDoor
