/- Texts joined: K1, K2. -/
import Derived.Test.YtbeelfopmkbllaaGreatDoorM5
import Derived.Test.YtbeelfopmkbllaaGreatDoorRows
import Derived.WalkKit
import Derived.ProofKit
import Derived.OpenShut
import Derived.Carry
import Derived.Deep.Slices
import Derived.ChangeMaps5
import Derived.LaidMore
import Derived.Lay
set_option linter.unusedSimpArgs false
set_option linter.unusedVariables false
set_option linter.unusedSectionVars false
set_option maxRecDepth 100000
namespace Go.Proofs.YtbeelfopmkbllaaGreatDoor
section
open Go Q Go.RowKit Go.ChangeShapes Go.WideShapes Go.ChangeAt
theorem at_of_cells {w:World} {base n:Nat} {a:Addr} {cs:List Value} (h:w.cells? base a n = some cs) (hn:0 < n):a.spot = none/\cs.length = n/\At (hp w) a.block a.off cs:=by
 obtain ⟨_,hl,hc⟩:=World.cells?_some h;have h0:=hc 0 hn;rw [addr_add0] at h0;have hlt:0 < cs.length:=by omega
 rw [List.getElem?_eq_getElem hlt] at h0;unfold World.cell? at h0
 split at h0
 ·rename_i c ty fr hb
  have hs:a.spot = none:=by
   cases hsp:a.spot with
   | none=>rfl
   | some x=>rw [hsp] at h0; simp at h0
  refine ⟨hs,hl,c,ty,fr,hb,fun j v hv=>?_⟩;have hj:=(List.getElem?_eq_some_iff.1 hv).1;have:=hc j (by omega);obtain ⟨ab,ao,asp⟩:=a;simp only at hs hb;subst hs;rw [add_addr,hv] at this;unfold World.cell? at this;simp only [hb,Option.isSome_none] at this
  simpa using this
 ·cases h0
theorem ownK:ownKnob Tryz.prog.godebug = none:=by kernel_rfl
theorem laidOutP:laidOutB Tryz.prog = true:=by kernel_rfl
theorem own_start (w:World):Own w (hp w) []:=Own.mk' (fun _ _ h=>h) (fun _ h=>by cases h) List.nodup_nil
theorem u4:Tryz.prog.underlying 4 = some .bool:=by kernel_rfl
theorem u5:Tryz.prog.underlying 5 = some (.int .u8):=by kernel_rfl
theorem u3:Tryz.prog.underlying 3 = some (.int .i64):=by kernel_rfl
theorem u9:Tryz.prog.underlying 9 = some .string:=by kernel_rfl
section
variable {H:Type} {enc:TypeId × Value->H} {P:Program}
def Stays (P:Program) (t:TypeId):Prop:=P.readableRec t = true/\t < P.types.size
theorem trodAll_stays (hl:laidOutB P = true) {W W':World} {sp:Nat->Bool} (hB:Below W.heap.size W W') :
  ∀ {ts:List TypeId} {vs:List Value} {ds:List (DataW H)} {ps:List MemPlace},(∀ t ∈ ts,Stays P t)->DataW.TrodAll enc P W 0 (fun _=>true) true ts vs ds ps->(∀ p ∈ ps,p.block < W.heap.size)->(∀ p ∈ ps,sp p.block = true)->DataW.TrodAll enc P W' 0 sp true ts vs ds ps
 | [],[],[],_,_,h,_,_=>h
 | _ :: _,_ :: _,_ :: _,_,hT,⟨p,q,h1,h2,e⟩,hlt,hs=>⟨p,q,
   WideElems.Trod_stays hl (hT _ List.mem_cons_self).1 (hT _ List.mem_cons_self).2 h1 (fun x hx=>hB.same (hlt x (by rw [e]; exact List.mem_append_left _ hx))) (fun x hx=>hs x (by rw [e]; exact List.mem_append_left _ hx)),
   trodAll_stays hl hB (fun t ht=>hT t (List.mem_cons_of_mem _ ht)) h2 (fun x hx=>hlt x (by rw [e]; exact List.mem_append_right _ hx)) (fun x hx=>hs x (by rw [e]; exact List.mem_append_right _ hx)),e⟩
theorem post_law (hl:laidOutB P = true) {f:Func} {s:ChangeSpec} {apart fresh handsOn again:Bool} {W W':World} {args:Array Value} {ds gs:List (DataW H)} {before:List MemPlace} {tb:TypeId}
  (hW:DataW.Whole enc P f.params.toList s.vars apart W args.toList ds gs before) (hB:Below W.heap.size W W')
  (hr:f.resultTypes = #[tb]) (hu:P.underlying tb = some .bool) (hT:∀ t ∈ f.params.toList,Stays P t) (hv:s.vars = [])
  (h1:(s.fn H (ds ++ gs)).results = [.lit (.bool true)]) (h2:(s.fn H (ds ++ gs)).args = ds) (h3:(s.fn H (ds ++ gs)).vars = []) :
  s.post enc P f apart fresh handsOn again W args (.bool true) W':=by
 have hlt:=hW.lt;obtain ⟨pa,pv,hA,hV,rfl,hz,hn⟩:=id hW;rw [hv] at hV;obtain ⟨rfl,rfl⟩:=trodVars_none hV;have hargs:∀ sp:Nat->Bool,(∀ p ∈ pa,sp p.block = true)->DataW.TrodAll enc P W' 0 sp true f.params.toList args.toList (s.fn H (ds ++ [])).args pa:=fun sp hsp=>by
  rw [h2]; exact trodAll_stays hl hB hT hA (fun p hp=>hlt p (by simpa using hp)) hsp
 have hres:∀ (b:Nat) (sp:Nat->Bool) (hd:Bool),DataW.TrodAll enc P W' b sp hd f.resultTypes.toList ((Value.bool true).resultList f.resultTypes.size) (s.fn H (ds ++ [])).results []:=fun b sp hd=>by
  rw [h1,hr]; exact trodAll_cons_mk (shut_bool hu _) trodAll_mk0
 have hvars:∀ sp:Nat->Bool,DataW.TrodVars enc P W' sp s.vars (s.fn H (ds ++ [])).vars []:=fun sp=>by rw [hv,h3]; rfl
 have hold:∀ p ∈ pa,(fun b=>decide (b < W.heap.size)) p.block = true:=fun p hp=>by simpa using hlt p (by simpa using hp)
 refine ⟨ds,[],pa ++ [],[],pa,[],hW,hres _ _ _,hargs _ hold,hvars _,hB.frame _,fun _=>⟨?_,_,_,([] ++ pa) ++ [],⟨[] ++ pa,[],trodAll_append (hargs _ (fun _ _=>rfl)) (hres _ _ _),hvars _,rfl,?_,?_⟩,?_⟩⟩
 ·exact ok_one hr rfl (okWide_bool_mk hu _)
 ·intro b off hp
  have hp':MemPlace.cell b off ∈ pa ++ []:=by simpa using hp
  rw [hB.frozen (p:=⟨b,off,none⟩) (hlt _ hp')];exact hz b off hp'
 ·intro ha
  simpa using hn ha
 ·intro p hp _
  simpa using hp
end
theorem post_fn1 {H:Type} {enc:TypeId × Value->H} {k:FuncId} {f:Func} {s:ChangeSpec} {apart fresh handsOn again:Bool} {W:World} {args:Array Value} {ds gs:List (DataW H)} {before:List MemPlace}
  (hW:DataW.Whole enc Tryz.prog f.params.toList s.vars apart W args.toList ds gs before)
  (hc:Fn1 k args (hp W) W fun _ r=>r = .bool true)
  (hr:f.resultTypes = #[4]) (hT:∀ t ∈ f.params.toList,Stays Tryz.prog t) (hv:s.vars = [])
  (h1:(s.fn H (ds ++ gs)).results = [.lit (.bool true)]) (h2:(s.fn H (ds ++ gs)).args = ds) (h3:(s.fn H (ds ++ gs)).vars = []) :
  Calls Tryz.prog k args W fun e W'=>∃ v,e = .returned v/\s.post enc Tryz.prog f apart fresh handsOn again W args v W':=by
 refine (hc (own_start W)).mono fun e W' he=>?_
 cases e with
 | returned v=>
  obtain ⟨z',hR,rfl⟩:=he;exact ⟨_,rfl,post_law laidOutP hW hR.below hr u4 hT hv h1 h2 h3⟩
 | _=>exact he.elim
section
variable {H:Type} {enc:TypeId × Value->H} {w:World} {base:Nat} {spare:Nat->Bool} {held:Bool}
theorem fieldAt' {t:TypeId} (hu:Tryz.prog.underlying t = some (.struct (fieldsOf t))) {i ty off:Nat} (hi:((fieldsOf t).toList.map fun f=>(f.type,f.offset))[i]? = some (ty,off)):∃ f,(fieldsOf t)[i]? = some f/\f.type = ty/\f.offset = off:=by
 rw [List.getElem?_map] at hi;obtain ⟨f,h1,h2⟩:=Option.map_eq_some_iff.1 hi;simp only [Prod.mk.injEq] at h2;exact ⟨f,by simpa using h1,h2.1,h2.2⟩
theorem sl_read {α:Type} [Inhabited α] {E:El α} {t e:TypeId} (hu:Tryz.prog.underlying t = some (.slice e)) (hc:Tryz.prog.cellsOf e = E.size) (rd:∀ n cs x,DataW.trod enc Tryz.prog w base spare held n e cs = some x->∃ a,E.rel (hp w) cs a)
  {n:Nat} {v:Value} {x:DataW H × List MemPlace} (h:DataW.trod enc Tryz.prog w base spare held n t [v] = some x):∃ l:List α,SlR E (hp w) v l:=by
 rcases Go.Deep.open_slice hu h with ⟨h0,_⟩ | ⟨a,len,cap,m,n',D,Pl,h0,hb,hlc,hcm,hm,_,hel⟩
 ·simp at h0; subst h0; exact ⟨[],SlR.nil⟩
 ·simp at h0; subst h0
  rw [hc] at hel;have hlm:len <= m:=by rw [hm]; split <;> omega
  have key:∀ i,i < len->∃ (o:α) (cs:List Value),E.rel (hp w) cs o/\(i = 0->a.spot = none)/\At (hp w) a.block (a.off + i * E.size) cs:=fun i hi=>by
   obtain ⟨cs,h1,h2⟩:=hel i (by omega);obtain ⟨o,ho⟩:=rd _ _ _ h2;obtain ⟨g1,g2,g3⟩:=at_of_cells h1 E.pos;obtain ⟨ab,ao,asp⟩:=a;unfold Addr.add at g1 g3
   by_cases hz:i * E.size = 0
   ·simp only [hz,if_true] at g1 g3
    exact ⟨o,cs,ho,fun _=>g1,by rw [hz]; exact g3⟩
   ·simp only [hz,if_false] at g1 g3
    exact ⟨o,cs,ho,fun h0=>absurd (by rw [h0]; simp) hz,g3⟩
  classical
  let f:Nat->α:=fun i=>if hi:i < len then Classical.choose (key i hi) else default
  have hf:∀ i,i < len->∃ cs:List Value,E.rel (hp w) cs (f i)/\(i = 0->a.spot = none)/\At (hp w) a.block (a.off + i * E.size) cs:=fun i hi=>by
   simp only [f,dif_pos hi]; exact Classical.choose_spec (key i hi)
  refine ⟨(List.range len).map f,some a,cap,by simp,by simpa using hlc,by simp only [List.length_map,List.length_range,big]; simp only [maxLen] at hcm; omega,fun hn=>?_⟩;have hpos:0 < len:=by
   rcases Nat.eq_zero_or_pos len with h0 | h0
   ·subst h0; simp at hn
   ·exact h0
  obtain ⟨ab,ao,asp⟩:=a;obtain ⟨_,_,hsp,_⟩:=hf 0 hpos;have hsp:=hsp rfl;simp only at hsp;subst hsp;refine ⟨ab,ao,rfl,fun i x hx=>?_⟩;rw [List.getElem?_map] at hx;obtain ⟨k,h1,rfl⟩:=Option.map_eq_some_iff.1 hx;have hk:=List.getElem?_eq_some_iff.1 h1;obtain ⟨hlt,rfl⟩:=hk;simp only [List.getElem_range,List.length_range] at hlt ⊢;obtain ⟨cs,q1,_,q2⟩:=hf i hlt;exact ⟨cs,q1,q2⟩
instance:Inhabited PartM:=⟨⟨0,⟨#[]⟩,0⟩⟩
instance:Inhabited ItemM:=⟨⟨⟨#[]⟩,false⟩⟩
instance:Inhabited SpotM:=⟨⟨⟨#[]⟩,0⟩⟩
instance:Inhabited InsM:=⟨⟨0,0,0,0⟩⟩
theorem part_read {n:Nat} {cs:List Value} {x:DataW H × List MemPlace} (h:DataW.trod enc Tryz.prog w base spare held n 95 cs = some x):∃ o:PartM,El.part.rel (hp w) cs o:=by
 have hu:Tryz.prog.underlying 95 = some (.struct (fieldsOf 95)):=by kernel_rfl
 obtain ⟨xs,m,_,_,hl,hxl,hf⟩:=DataW.trod_struct hu h;have hc4:Tryz.prog.cellsOf 95 = 3:=by kernel_rfl
 rw [hc4] at hl;obtain ⟨f0,a0,b0,c0⟩:=fieldAt' hu (i:=0) (ty:=3) (off:=0) (by kernel_rfl);have h0:=hf 0 f0 a0;obtain ⟨f1,a1,b1,c1⟩:=fieldAt' hu (i:=1) (ty:=9) (off:=1) (by kernel_rfl);have h1:=hf 1 f1 a1;obtain ⟨f2,a2,b2,c2⟩:=fieldAt' hu (i:=2) (ty:=3) (off:=2) (by kernel_rfl);have h2:=hf 2 f2 a2;have hsz:(fieldsOf 95).size = 3:=by kernel_rfl
 rw [hsz] at hxl;rw [b0,c0,show Tryz.prog.cellsOf 3 = 1 by kernel_rfl] at h0;rw [b1,c1,show Tryz.prog.cellsOf 9 = 1 by kernel_rfl] at h1;rw [b2,c2,show Tryz.prog.cellsOf 3 = 1 by kernel_rfl] at h2
 match xs,hxl,cs,hl with
 | [x0,x1,x2],_,[v0,v1,v2],_=>
  obtain ⟨m0,g0,_⟩:=DataW.trod_int u3 (x:=x0) (by simpa using h0);obtain ⟨m1,g1,_,hs⟩:=DataW.trod_string u9 (x:=x1) (by simpa using h1);obtain ⟨m2,g2,_⟩:=DataW.trod_int u3 (x:=x2) (by simpa using h2);simp at g0 g1 g2;subst g0; subst g1; subst g2;exact ⟨⟨m0,m1,m2⟩,rfl,hs⟩
theorem item_read {n:Nat} {cs:List Value} {x:DataW H × List MemPlace} (h:DataW.trod enc Tryz.prog w base spare held n 98 cs = some x):∃ o:ItemM,El.item.rel (hp w) cs o:=by
 have hu:Tryz.prog.underlying 98 = some (.struct (fieldsOf 98)):=by kernel_rfl
 obtain ⟨xs,m,_,_,hl,hxl,hf⟩:=DataW.trod_struct hu h;have hc4:Tryz.prog.cellsOf 98 = 2:=by kernel_rfl
 rw [hc4] at hl;obtain ⟨f0,a0,b0,c0⟩:=fieldAt' hu (i:=0) (ty:=9) (off:=0) (by kernel_rfl);have h0:=hf 0 f0 a0;obtain ⟨f1,a1,b1,c1⟩:=fieldAt' hu (i:=1) (ty:=4) (off:=1) (by kernel_rfl);have h1:=hf 1 f1 a1;have hsz:(fieldsOf 98).size = 2:=by kernel_rfl
 rw [hsz] at hxl;rw [b0,c0,show Tryz.prog.cellsOf 9 = 1 by kernel_rfl] at h0;rw [b1,c1,show Tryz.prog.cellsOf 4 = 1 by kernel_rfl] at h1
 match xs,hxl,cs,hl with
 | [x0,x1],_,[v0,v1],_=>
  obtain ⟨m0,g0,_,hs⟩:=DataW.trod_string u9 (x:=x0) (by simpa using h0);obtain ⟨m1,g1,_⟩:=DataW.trod_bool u4 (x:=x1) (by simpa using h1);simp at g0 g1;subst g0; subst g1;exact ⟨⟨m0,m1⟩,rfl,hs⟩
theorem spot_read {n:Nat} {cs:List Value} {x:DataW H × List MemPlace} (h:DataW.trod enc Tryz.prog w base spare held n 54 cs = some x):∃ o:SpotM,El.spot.rel (hp w) cs o:=by
 have hu:Tryz.prog.underlying 54 = some (.struct (fieldsOf 54)):=by kernel_rfl
 obtain ⟨xs,m,_,_,hl,hxl,hf⟩:=DataW.trod_struct hu h;have hc4:Tryz.prog.cellsOf 54 = 2:=by kernel_rfl
 rw [hc4] at hl;obtain ⟨f0,a0,b0,c0⟩:=fieldAt' hu (i:=0) (ty:=9) (off:=0) (by kernel_rfl);have h0:=hf 0 f0 a0;obtain ⟨f1,a1,b1,c1⟩:=fieldAt' hu (i:=1) (ty:=3) (off:=1) (by kernel_rfl);have h1:=hf 1 f1 a1;have hsz:(fieldsOf 54).size = 2:=by kernel_rfl
 rw [hsz] at hxl;rw [b0,c0,show Tryz.prog.cellsOf 9 = 1 by kernel_rfl] at h0;rw [b1,c1,show Tryz.prog.cellsOf 3 = 1 by kernel_rfl] at h1
 match xs,hxl,cs,hl with
 | [x0,x1],_,[v0,v1],_=>
  obtain ⟨m0,g0,_,hs⟩:=DataW.trod_string u9 (x:=x0) (by simpa using h0);obtain ⟨m1,g1,_⟩:=DataW.trod_int u3 (x:=x1) (by simpa using h1);simp at g0 g1;subst g0; subst g1;exact ⟨⟨m0,m1⟩,rfl,hs⟩
theorem ins_read {n:Nat} {cs:List Value} {x:DataW H × List MemPlace} (h:DataW.trod enc Tryz.prog w base spare held n 38 cs = some x):∃ o:InsM,El.ins.rel (hp w) cs o:=by
 have hu:Tryz.prog.underlying 38 = some (.struct (fieldsOf 38)):=by kernel_rfl
 obtain ⟨xs,m,_,_,hl,hxl,hf⟩:=DataW.trod_struct hu h;have hc4:Tryz.prog.cellsOf 38 = 4:=by kernel_rfl
 rw [hc4] at hl;obtain ⟨f0,a0,b0,c0⟩:=fieldAt' hu (i:=0) (ty:=3) (off:=0) (by kernel_rfl);have h0:=hf 0 f0 a0;obtain ⟨f1,a1,b1,c1⟩:=fieldAt' hu (i:=1) (ty:=3) (off:=1) (by kernel_rfl);have h1:=hf 1 f1 a1;obtain ⟨f2,a2,b2,c2⟩:=fieldAt' hu (i:=2) (ty:=3) (off:=2) (by kernel_rfl);have h2:=hf 2 f2 a2;obtain ⟨f3,a3,b3,c3⟩:=fieldAt' hu (i:=3) (ty:=3) (off:=3) (by kernel_rfl);have h3:=hf 3 f3 a3;have hsz:(fieldsOf 38).size = 4:=by kernel_rfl
 rw [hsz] at hxl;rw [b0,c0,show Tryz.prog.cellsOf 3 = 1 by kernel_rfl] at h0;rw [b1,c1,show Tryz.prog.cellsOf 3 = 1 by kernel_rfl] at h1;rw [b2,c2,show Tryz.prog.cellsOf 3 = 1 by kernel_rfl] at h2;rw [b3,c3,show Tryz.prog.cellsOf 3 = 1 by kernel_rfl] at h3
 match xs,hxl,cs,hl with
 | [x0,x1,x2,x3],_,[v0,v1,v2,v3],_=>
  obtain ⟨m0,g0,_⟩:=DataW.trod_int u3 (x:=x0) (by simpa using h0);obtain ⟨m1,g1,_⟩:=DataW.trod_int u3 (x:=x1) (by simpa using h1);obtain ⟨m2,g2,_⟩:=DataW.trod_int u3 (x:=x2) (by simpa using h2);obtain ⟨m3,g3,_⟩:=DataW.trod_int u3 (x:=x3) (by simpa using h3);simp at g0 g1 g2 g3;subst g0; subst g1; subst g2; subst g3;exact ⟨⟨m0,m1,m2,m3⟩,rfl⟩
theorem str_read {n:Nat} {cs:List Value} {x:DataW H × List MemPlace} (h:DataW.trod enc Tryz.prog w base spare held n 9 cs = some x):∃ o:ByteArray,El.str.rel (hp w) cs o:=by
 obtain ⟨s,g,_,hs⟩:=DataW.trod_string u9 h;exact ⟨s,g,hs⟩
theorem one_of_slice {n t e:Nat} {cs:List Value} {x:DataW H × List MemPlace} (hu:Tryz.prog.underlying t = some (.slice e)) (h:DataW.trod enc Tryz.prog w base spare held n t cs = some x):∃ v,cs = [v]:=by
 rcases Go.Deep.open_slice hu h with ⟨h0,_⟩ | ⟨a,len,cap,m,n',D,Pl,h0,_⟩ <;> exact ⟨_,h0⟩
theorem parts_read {n:Nat} {cs:List Value} {x:DataW H × List MemPlace} (h:DataW.trod enc Tryz.prog w base spare held n 93 cs = some x):∃ o:List PartM,(El.sl El.part).rel (hp w) cs o:=by
 obtain ⟨v,rfl⟩:=one_of_slice (e:=95) (by kernel_rfl) h;obtain ⟨l,hl⟩:=sl_read (E:=El.part) (e:=95) (by kernel_rfl) (by kernel_rfl) (fun _ _ _=>part_read) h;exact ⟨l,v,rfl,hl⟩
theorem items_read {n:Nat} {cs:List Value} {x:DataW H × List MemPlace} (h:DataW.trod enc Tryz.prog w base spare held n 96 cs = some x):∃ o:List ItemM,(El.sl El.item).rel (hp w) cs o:=by
 obtain ⟨v,rfl⟩:=one_of_slice (e:=98) (by kernel_rfl) h;obtain ⟨l,hl⟩:=sl_read (E:=El.item) (e:=98) (by kernel_rfl) (by kernel_rfl) (fun _ _ _=>item_read) h;exact ⟨l,v,rfl,hl⟩
theorem u28:Tryz.prog.underlying 28 = some (.struct (fieldsOf 28)):=by kernel_rfl
theorem codeArg {r:Reach} {b0 n:Nat} {v:Value} {x:DataW H × List MemPlace} (hval:Value.okWide Tryz.prog w r b0 28 v) (h:DataW.trod enc Tryz.prog w base spare held n 28 v.cells.toList = some x):∃ c:CodeM,CodeR (hp w) v c:=by
 obtain ⟨xs,m,_,_,hl,hxl,hf⟩:=DataW.trod_struct u28 h;have hc4:Tryz.prog.cellsOf 28 = 6:=by kernel_rfl
 rw [hc4] at hl;obtain ⟨f0,a0,b0,c0⟩:=fieldAt' u28 (i:=0) (ty:=22) (off:=0) (by kernel_rfl);have h0:=hf 0 f0 a0;obtain ⟨f1,a1,b1,c1⟩:=fieldAt' u28 (i:=1) (ty:=23) (off:=1) (by kernel_rfl);have h1:=hf 1 f1 a1;obtain ⟨f2,a2,b2,c2⟩:=fieldAt' u28 (i:=2) (ty:=24) (off:=2) (by kernel_rfl);have h2:=hf 2 f2 a2;obtain ⟨f3,a3,b3,c3⟩:=fieldAt' u28 (i:=3) (ty:=25) (off:=3) (by kernel_rfl);have h3:=hf 3 f3 a3;obtain ⟨f4,a4,b4,c4⟩:=fieldAt' u28 (i:=4) (ty:=22) (off:=4) (by kernel_rfl);have h4:=hf 4 f4 a4;obtain ⟨f5,a5,b5,c5⟩:=fieldAt' u28 (i:=5) (ty:=26) (off:=5) (by kernel_rfl);have h5:=hf 5 f5 a5;have hsz:(fieldsOf 28).size = 6:=by kernel_rfl
 rw [hsz] at hxl;rw [b0,c0,show Tryz.prog.cellsOf 22 = 1 by kernel_rfl] at h0;rw [b1,c1,show Tryz.prog.cellsOf 23 = 1 by kernel_rfl] at h1;rw [b2,c2,show Tryz.prog.cellsOf 24 = 1 by kernel_rfl] at h2;rw [b3,c3,show Tryz.prog.cellsOf 25 = 1 by kernel_rfl] at h3;rw [b4,c4,show Tryz.prog.cellsOf 22 = 1 by kernel_rfl] at h4;rw [b5,c5,show Tryz.prog.cellsOf 26 = 1 by kernel_rfl] at h5;have hv:∃ cs,v = .agg cs:=by
  simp only [Value.okWide,u28] at hval;exact ⟨_,hval.choose_spec.1⟩
 obtain ⟨cs,rfl⟩:=hv;obtain ⟨l,rfl⟩:∃ l:List Value,cs = l.toArray:=⟨cs.toList,by simp⟩
 simp only [Value.cells] at hl h0 h1 h2 h3 h4 h5
 match xs,hxl,l,hl with
 | [x0,x1,x2,x3,x4,x5],_,[v0,v1,v2,v3,v4,v5],_=>
  obtain ⟨l0,g0⟩:=sl_read (E:=El.str) (e:=9) (by kernel_rfl) (by kernel_rfl) (fun _ _ _=>str_read) (x:=x0) (v:=v0) (by simpa using h0);obtain ⟨l1,g1⟩:=sl_read (E:=El.sl El.part) (e:=93) (by kernel_rfl) (by kernel_rfl) (fun _ _ _=>parts_read) (x:=x1) (v:=v1) (by simpa using h1);obtain ⟨l2,g2⟩:=sl_read (E:=El.sl El.item) (e:=96) (by kernel_rfl) (by kernel_rfl) (fun _ _ _=>items_read) (x:=x2) (v:=v2) (by simpa using h2);obtain ⟨l3,g3⟩:=sl_read (E:=El.spot) (e:=54) (by kernel_rfl) (by kernel_rfl) (fun _ _ _=>spot_read) (x:=x3) (v:=v3) (by simpa using h3);obtain ⟨l4,g4⟩:=sl_read (E:=El.str) (e:=9) (by kernel_rfl) (by kernel_rfl) (fun _ _ _=>str_read) (x:=x4) (v:=v4) (by simpa using h4);obtain ⟨l5,g5⟩:=sl_read (E:=El.ins) (e:=38) (by kernel_rfl) (by kernel_rfl) (fun _ _ _=>ins_read) (x:=x5) (v:=v5) (by simpa using h5);exact ⟨⟨l0,l1,l2,l3,l4,l5⟩,v0,v1,v2,v3,v4,v5,rfl,g0,g1,g2,g3,g4,g5⟩
end
theorem stays28:Stays Tryz.prog 28:=⟨by kernel_rfl,of_decide_eq_true (by kernel_rfl)⟩
theorem tab_start {W:World} (h:Lib.TabIs Tryz.prog W "internal/strconv.uint64pow10" .u64 Lib.pow10Tab):Tab (hp W):=⟨fun w hw=>by
 unfold Lib.TabIs World.var? at *
 cases hg:Tryz.prog.globalNamed "internal/strconv.uint64pow10" with
 | none=>simp [hg] at h
 | some g=>
  simp only [hg,Option.bind_some] at h ⊢
  cases ho:W.heap[g]? with
  | none=>rw [ho] at h; simp at h
  | some o=>rw [hw g o ho,<- ho]; exact h⟩
theorem laidVars_tab {P:Program} {W:World} {name:String} {k:IntKind} {zs:List Int} {rest:List (String × DataW Unit)} {ps:List MemPlace} {g:Nat} {t e:TypeId} {n:Nat}
  (hg:P.globalNamed name = some g) (hty:(P.globals[g]?).map (·.type) = some t) (ht:P.underlying t = some (.array n e)) (he:P.underlying e = some (.int k)) (hce:P.cellsOf e = 1) (hct:P.cellsOf t = n)
  (h:DataW.LaidVars P W ((name,Lib.tabData k zs) :: rest) ps):Lib.TabIs P W name k zs:=by
 obtain ⟨g',t',cs,fuel,p,q,hg',ht',hvar,hd,_,_⟩:=h;obtain rfl:=Option.some.inj (hg.symm.trans hg');obtain rfl:=Option.some.inj (hty.symm.trans ht');unfold Lib.TabIs;rw [hvar,<- Lib.cells_of_tab ht he hce hct hd]
theorem tab_of {W:World} {a b:String × DataW Unit} {rest:List (String × DataW Unit)} (h:laidMet Tryz.prog (a :: b :: ("internal/strconv.uint64pow10",Rows.laid_internal_strconv_uint64pow10) :: rest) W):Lib.TabIs Tryz.prog W "internal/strconv.uint64pow10" .u64 Lib.pow10Tab:=by
 obtain ⟨ps,hv,_⟩:=h;obtain ⟨a1,b1⟩:=a;obtain ⟨a2,b2⟩:=b;obtain ⟨_,_,_,_,_,_,_,_,_,_,hv,_⟩:=hv;obtain ⟨_,_,_,_,_,_,_,_,_,_,hv,_⟩:=hv;exact laidVars_tab (g:=3) (t:=328) (n:=20) (e:=309) (by kernel_rfl) (by kernel_rfl) (by kernel_rfl) (by kernel_rfl) (by kernel_rfl) (by kernel_rfl) (show DataW.LaidVars Tryz.prog W (("internal/strconv.uint64pow10",Lib.tabData .u64 Lib.pow10Tab) :: rest) _ from hv)
end
section
open Go Q Go.RowKit Go.ChangeShapes Go.WideShapes Go.ChangeAt
theorem u55:Tryz.prog.underlying 55 = some (.slice 5):=by kernel_rfl
theorem stays55:Stays Tryz.prog 55:=⟨by kernel_rfl,of_decide_eq_true (by kernel_rfl)⟩
section
variable {H:Type} {enc:TypeId × Value->H} {w:World} {base:Nat} {spare:Nat->Bool} {held:Bool}
theorem byte_read {n:Nat} {cs:List Value} {x:DataW H × List MemPlace} (h:DataW.trod enc Tryz.prog w base spare held n 5 cs = some x):∃ o:UInt8,El.byte.rel (hp w) cs o:=by
 obtain ⟨o,g,_,ho⟩:=DataW.trod_int u5 h;have ho':0 <= o/\o <= 255:=by simpa [Lit.wf,IntKind.min,IntKind.max,IntKind.signed,IntKind.bits] using ho
 refine ⟨UInt8.ofNat o.toNat,?_⟩
 show cs = [.int .u8 ((UInt8.ofNat o.toNat).toNat:Nat)]
 rw [g,UInt8.toNat_ofNat',Nat.mod_eq_of_lt (by omega)]
 congr 2
 omega
theorem u8s_read {n:Nat} {v:Value} {x:DataW H × List MemPlace} (h:DataW.trod enc Tryz.prog w base spare held n 55 [v] = some x):∃ l:List UInt8,SlR El.byte (hp w) v l:=
 sl_read (E:=El.byte) (e:=5) u55 (by kernel_rfl) (fun _ _ _=>byte_read) h
end
end
end Go.Proofs.YtbeelfopmkbllaaGreatDoor
