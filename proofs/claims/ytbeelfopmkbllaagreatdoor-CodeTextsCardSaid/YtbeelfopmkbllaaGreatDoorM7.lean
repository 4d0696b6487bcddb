/- Texts joined: E5, E6, E7, E8, E9, E10, E11, E15, E16, E17, E18, E19, E20, E21, C80, C81, C82, C83, C84, C85, F1, F2, F3, F4, F5, F6, F7, F8, F9, F10, F11, F12. -/
import Derived.Test.YtbeelfopmkbllaaGreatDoorM6
import Derived.Shelf.LaysC
import Derived.Shelf.Strconv.AtoiAll
set_option linter.unusedSimpArgs false
set_option linter.unusedVariables false
set_option linter.unusedSectionVars false
set_option maxRecDepth 20000
set_option synthInstance.maxHeartbeats 4000000
set_option synthInstance.maxSize 20000
set_option maxHeartbeats 2000000
namespace Go.Proofs.YtbeelfopmkbllaaGreatDoor
open Go Q Go.RowKit
open _root_.List
section
open Go Q Go.RowKit Go.Shelf
def atoiRen:Go.Shelf.Ren:=⟨fun | 172=>243 | 244=>271 | 245=>272 | 247=>283 | 279=>284 | 280=>285 | 281=>286 | 282=>287 | 287=>293 | 316=>294 | 171=>187 | 205=>295 | 321=>298 | 322=>299 | 243=>237 | 246=>263 | 283=>278 | 284=>279 | 285=>280 | 286=>281 | 129=>289 | 317=>288 | 318=>290 | 319=>291 | 320=>292 | 337=>296 | 338=>297 | n=>n,fun | 9=>9 | 3=>3 | 75=>201 | 76=>202 | 4=>4 | 5=>5 | 167=>317 | 37=>55 | 0=>0 | 85=>318 | 2=>2 | 168=>320 | 53=>309 | 175=>331 | 46=>247 | 210=>334 | 127=>261 | 145=>340 | 143=>338 | 21=>21 | 171=>308 | 173=>312 | 212=>328 | 51=>314 | 20=>20 | 213=>329 | 232=>341 | 233=>342 | 80=>181 | n=>n,fun | 15=>4 | 16=>5 | 17=>3 | 18=>6 | 19=>7 | n=>n⟩
theorem qJ:Go.Proofs.LaysC.n172 Tryz.prog atoiRen:={
 mixed:=by kernel_rfl
 f129:=Tryz.func289.trans (congrArg some (by kernel_rfl))
 f171:=Tryz.func187.trans (congrArg some (by kernel_rfl))
 f172:=Tryz.func243.trans (congrArg some (by kernel_rfl))
 f205:=Tryz.func295.trans (congrArg some (by kernel_rfl))
 f243:=Tryz.func237.trans (congrArg some (by kernel_rfl))
 f244:=Tryz.func271.trans (congrArg some (by kernel_rfl))
 f245:=Tryz.func272.trans (congrArg some (by kernel_rfl))
 f246:=Tryz.func263.trans (congrArg some (by kernel_rfl))
 f247:=Tryz.func283.trans (congrArg some (by kernel_rfl))
 f279:=Tryz.func284.trans (congrArg some (by kernel_rfl))
 f280:=Tryz.func285.trans (congrArg some (by kernel_rfl))
 f281:=Tryz.func286.trans (congrArg some (by kernel_rfl))
 f282:=Tryz.func287.trans (congrArg some (by kernel_rfl))
 f283:=Tryz.func278.trans (congrArg some (by kernel_rfl))
 f284:=Tryz.func279.trans (congrArg some (by kernel_rfl))
 f285:=Tryz.func280.trans (congrArg some (by kernel_rfl))
 f286:=Tryz.func281.trans (congrArg some (by kernel_rfl))
 f287:=Tryz.func293.trans (congrArg some (by kernel_rfl))
 f316:=Tryz.func294.trans (congrArg some (by kernel_rfl))
 f317:=Tryz.func288.trans (congrArg some (by kernel_rfl))
 f318:=Tryz.func290.trans (congrArg some (by kernel_rfl))
 f319:=Tryz.func291.trans (congrArg some (by kernel_rfl))
 f320:=Tryz.func292.trans (congrArg some (by kernel_rfl))
 f321:=Tryz.func298.trans (congrArg some (by kernel_rfl))
 f322:=Tryz.func299.trans (congrArg some (by kernel_rfl))
 f337:=Tryz.func296.trans (congrArg some (by kernel_rfl))
 f338:=Tryz.func297.trans (congrArg some (by kernel_rfl))
 t0:=Tryz.underlying0
 a0:=Tryz.isAgg0
 z0:=Tryz.sizeOf0
 v0:=Tryz.zeroValue0
 t2:=Tryz.underlying2
 a2:=Tryz.isAgg2
 z2:=Tryz.sizeOf2
 v2:=Tryz.zeroValue2
 t3:=Tryz.underlying3
 a3:=Tryz.isAgg3
 z3:=Tryz.sizeOf3
 v3:=Tryz.zeroValue3
 t4:=Tryz.underlying4
 a4:=Tryz.isAgg4
 z4:=Tryz.sizeOf4
 v4:=Tryz.zeroValue4
 t5:=Tryz.underlying5
 a5:=Tryz.isAgg5
 z5:=Tryz.sizeOf5
 v5:=Tryz.zeroValue5
 t9:=Tryz.underlying9
 a9:=Tryz.isAgg9
 z9:=Tryz.sizeOf9
 v9:=Tryz.zeroValue9
 t20:=Tryz.underlying20
 a20:=Tryz.isAgg20
 z20:=Tryz.sizeOf20
 v20:=Tryz.zeroValue20
 t21:=Tryz.underlying21
 a21:=Tryz.isAgg21
 z21:=Tryz.sizeOf21
 v21:=Tryz.zeroValue21
 t37:=Tryz.underlying55
 a37:=Tryz.isAgg55
 z37:=Tryz.sizeOf55
 v37:=Tryz.zeroValue55
 t46:=Tryz.underlying247
 a46:=Tryz.isAgg247
 z46:=Tryz.sizeOf247
 v46:=Tryz.zeroValue247
 t51:=Tryz.underlying314
 a51:=Tryz.isAgg314
 z51:=Tryz.sizeOf314
 v51:=Tryz.zeroValue314
 t53:=Tryz.underlying309
 a53:=Tryz.isAgg309
 z53:=Tryz.sizeOf309
 v53:=Tryz.zeroValue309
 t75:=Tryz.underlying201
 a75:=Tryz.isAgg201
 z75:=Tryz.sizeOf201
 v75:=Tryz.zeroValue201
 t76:=Tryz.underlying202
 a76:=Tryz.isAgg202
 z76:=Tryz.sizeOf202
 v76:=Tryz.zeroValue202
 t85:=Tryz.underlying318
 a85:=Tryz.isAgg318
 z85:=Tryz.sizeOf318
 v85:=Tryz.zeroValue318
 t127:=Tryz.underlying261
 a127:=Tryz.isAgg261
 z127:=Tryz.sizeOf261
 v127:=Tryz.zeroValue261
 t143:=Tryz.underlying338
 a143:=Tryz.isAgg338
 z143:=Tryz.sizeOf338
 v143:=Tryz.zeroValue338
 t145:=Tryz.underlying340
 a145:=Tryz.isAgg340
 z145:=Tryz.sizeOf340
 v145:=Tryz.zeroValue340
 t167:=Tryz.underlying317
 a167:=Tryz.isAgg317
 z167:=Tryz.sizeOf317
 v167:=Tryz.zeroValue317
 t168:=Tryz.underlying320
 a168:=Tryz.isAgg320
 z168:=Tryz.sizeOf320
 v168:=Tryz.zeroValue320
 t171:=Tryz.underlying308
 a171:=Tryz.isAgg308
 z171:=Tryz.sizeOf308
 v171:=Tryz.zeroValue308
 t173:=Tryz.underlying312
 a173:=Tryz.isAgg312
 z173:=Tryz.sizeOf312
 v173:=Tryz.zeroValue312
 t175:=Tryz.underlying331
 a175:=Tryz.isAgg331
 z175:=Tryz.sizeOf331
 v175:=Tryz.zeroValue331
 t210:=Tryz.underlying334
 a210:=Tryz.isAgg334
 z210:=Tryz.sizeOf334
 v210:=Tryz.zeroValue334
 t212:=Tryz.underlying328
 a212:=Tryz.isAgg328
 z212:=Tryz.sizeOf328
 v212:=Tryz.zeroValue328
 t213:=Tryz.underlying329
 a213:=Tryz.isAgg329
 z213:=Tryz.sizeOf329
 t232:=Tryz.underlying341
 a232:=Tryz.isAgg341
 z232:=Tryz.sizeOf341
 v232:=Tryz.zeroValue341
 t233:=Tryz.underlying342
 a233:=Tryz.isAgg342
 z233:=Tryz.sizeOf342
 v233:=Tryz.zeroValue342
 g15:=by kernel_rfl
 g16:=by kernel_rfl
 g17:=by kernel_rfl
 g18:=by kernel_rfl
 g19:=by kernel_rfl
 t80:=Tryz.underlying181
 a80:=Tryz.isAgg181
 z80:=Tryz.sizeOf181
 v80:=Tryz.zeroValue181
 i0:=by kernel_rfl
 i2:=by kernel_rfl
 i3:=by kernel_rfl
 i4:=by kernel_rfl
 i5:=by kernel_rfl
 i9:=by kernel_rfl
 i20:=by kernel_rfl
 i21:=by kernel_rfl
 i37:=by kernel_rfl
 i46:=by kernel_rfl
 i51:=by kernel_rfl
 i53:=by kernel_rfl
 i75:=by kernel_rfl
 i76:=by kernel_rfl
 i80:=by kernel_rfl
 i85:=by kernel_rfl
 i127:=by kernel_rfl
 i143:=by kernel_rfl
 i145:=by kernel_rfl
 i167:=by kernel_rfl
 i168:=by kernel_rfl
 i171:=by kernel_rfl
 i173:=by kernel_rfl
 i175:=by kernel_rfl
 i210:=by kernel_rfl
 i212:=by kernel_rfl
 i232:=by kernel_rfl
 i233:=by kernel_rfl
 m15:=by kernel_rfl
 m16:=by kernel_rfl
 m17:=by kernel_rfl
 m18:=by kernel_rfl
 m19:=by kernel_rfl
 c0:=by kernel_rfl
 c2:=by kernel_rfl
 c3:=by kernel_rfl
 c4:=by kernel_rfl
 c5:=by kernel_rfl
 c9:=by kernel_rfl
 c20:=by kernel_rfl
 c21:=by kernel_rfl
 c37:=by kernel_rfl
 c46:=by kernel_rfl
 c51:=by kernel_rfl
 c53:=by kernel_rfl
 c75:=by kernel_rfl
 c76:=by kernel_rfl
 c80:=by kernel_rfl
 c85:=by kernel_rfl
 c127:=by kernel_rfl
 c143:=by kernel_rfl
 c145:=by kernel_rfl
 c167:=by kernel_rfl
 c168:=by kernel_rfl
 c171:=by kernel_rfl
 c173:=by kernel_rfl
 c175:=by kernel_rfl
 c210:=by kernel_rfl
 c212:=by kernel_rfl
 c213:=by kernel_rfl
 c232:=by kernel_rfl
 c233:=by kernel_rfl }
class Errs (z:Z):Prop where
 h:∀ w,Sub z w->(∃ ev,w.cell? ⟨atoiRen.g 15,0,none⟩ = some ev/\(ev = .nilIface \/ ∃ te pe,ev = .iface te pe))/\(∃ ev,w.cell? ⟨atoiRen.g 16,0,none⟩ = some ev/\(ev = .nilIface \/ ∃ te pe,ev = .iface te pe))
theorem Errs.le {z z':Z} (h:Errs z) (hz:Le z z'):Errs z':=⟨fun w hw=>h.h w fun b o hb=>hw b o (hz b o hb)⟩
theorem rj {w w':World} {z:Z} (h:Own w z []) (hb:Below w.heap.size w w'):Res w z [] w' z []:=
 ⟨hb.os,hb.tape,hb.output,hb.size,fun b hlt _=>hb.block b hlt,fun b o hz=>by rw [hb.block b (co (h.sub b o hz))]; exact h.sub b o hz,Le.refl _,fun b hb=>.inl hb,fun p hp=>(by cases hp),.nil⟩
theorem yV {w:World} {z:Z} {e:TypeId} {s:ByteArray} (h:Own w z []):Res w z [] (Lib.bytesWorld w e s) z []:=by
 rw [kw];exact (Res.new (Res.drew h) _).drop
def Df (s:ByteArray) (r:Value):Prop:=(∃ v,Lib.atoiAll (bytes s) = .ok v/\r = .tuple #[.int .i64 v,.nilIface]) \/ ((∀ v,Lib.atoiAll (bytes s) ≠ .ok v)/\∃ n t p,r = .tuple #[.int .i64 n,.iface t p])
theorem Bn {z:Z} {w:World} {s:ByteArray} [he:Errs z] (hs:s.size <= 1000000):Fn1 243 #[.string s] z w fun _ r=>Df s r:=fun ho=>by
 obtain ⟨⟨e1,h1,h2⟩,⟨e3,h3,h4⟩⟩:=he.h w ho.sub
 rcases hA:Lib.atoiAll (bytes s) with v | _ | _
 ·refine (Any.strconv_Atoi_ok qJ s (by omega) v hA w).mono ?_
  rintro e w' ⟨rfl,rfl | ⟨t,rfl⟩⟩
  ·exact ⟨z,ho,.inl ⟨v,hA,rfl⟩⟩
  ·exact ⟨z,yV ho,.inl ⟨v,hA,rfl⟩⟩
 ·refine (Any.strconv_Atoi_syntax qJ s (by omega) hA e1 w h1 h2).mono ?_
  rintro e w' ⟨N,rfl,_,_,hb⟩
  exact ⟨z,rj ho hb,.inr ⟨fun v hv=>(by rw [hA] at hv; cases hv),_,_,_,rfl⟩⟩
 ·refine (Any.strconv_Atoi_range qJ s (by omega) hA e3 w h3 h4).mono ?_
  rintro e w' ⟨N,rfl,_,_,hb⟩
  exact ⟨z,rj ho hb,.inr ⟨fun v hv=>(by rw [hA] at hv; cases hv),_,_,_,rfl⟩⟩
def fG (x:WordM):Option Int:=if x.lit = true then none else match Lib.atoiAll (bytes x.s) with
 | .ok v=>if (nf x.s ⟨#[45]⟩).size <= 15 then some v else none
 | _=>none
def Dt (x:WordM) (r:Value):Prop:=∃ n,r = .tuple #[.int .i64 n,.bool (fG x).isSome]/\∀ v,fG x = some v->n = v
theorem kW {z:Z} {w:World} {x:WordM} [he:Errs z] (hs:x.s.size <= 1000000):Fn1 196 #[x.v] z w fun _ r=>Dt x r:=Fn1.intro fun hS=>en196 (by
 unfold vc196;refine aP ?_;intro b1 w1 hb1 hS1;clear hS;(repeat (first | refine aA ?_ | refine aE ?_));refine ap (Bn hs) ?_;rintro z2 w2 v2 hz2 hS2 (⟨v,hA,rfl⟩ | ⟨hA,n,t,p,rfl⟩)
 ·clear hS1
  (repeat (refine aA ?_));refine ⟨_,_,Cm (TyIf.of (by kernel_rfl)) _,?_⟩;intro K0 hK0;refine ah ?_;(repeat (first | refine aA ?_ | refine aE ?_));refine hK0 _ _ fun _=>?_
  clear hK0;intro K1 hK1;refine aU (fun h=>?_) (fun h=>?_)
  ·(repeat (first | refine aA ?_ | refine aE ?_ | (refine aN ?_; intro _ _ _ _)))
   refine hK1 _ _ fun _=>?_
   refine ⟨_,_,‹_›,v,?_,?_⟩
   ·unfold fG
    rw [h,if_neg (by simp),hA];simp only
    by_cases hc:(nf x.s ⟨#[45]⟩).size <= 15
    ·rw [if_pos hc,decide_eq_true (by omega)]; rfl
    ·rw [if_neg hc,decide_eq_false (by omega)]; rfl
   ·intro v' hv'
    unfold fG at hv';rw [h,if_neg (by simp),hA] at hv';simp only at hv'
    split at hv'
    ·exact Option.some.inj hv'
    ·cases hv'
  ·refine hK1 _ _ fun _=>?_
   have hn:fG x = none:=by unfold fG; rw [if_pos h]
   exact ⟨_,_,hS2,v,by rw [hn]; rfl,fun v' hv'=>by rw [hn] at hv'; cases hv'⟩
 ·clear hS1
  (repeat (refine aA ?_));refine ⟨_,_,Cn (TyIf.of (by kernel_rfl)) _,?_⟩;intro K0 hK0;refine aj ?_;refine hK0 _ _ fun _=>?_
  intro K1 hK1;refine aj ?_;refine hK1 _ _ fun _=>?_
  have hn:fG x = none:=by
   unfold fG
   split
   ·rfl
   ·split
    ·rename_i v hv; exact absurd hv (hA v)
    ·rfl
  exact ⟨_,_,hS2,n,by rw [hn]; rfl,fun v' hv'=>by rw [hn] at hv'; cases hv'⟩)
end
section
def jf:ByteArray:=⟨#[116,101,120,116]⟩
def fu:ByteArray:=⟨#[116,109,112,108]⟩
def fS:ByteArray:=⟨#[108,105,115,116]⟩
def gJ:ByteArray:=⟨#[108,97,98,101,108]⟩
def jg:ByteArray:=⟨#[110,97,109,101]⟩
def cH (s:ByteArray):Int:=if s = jg then 4 else if s = gJ then 3 else if s = fS then 2 else if s = fu then 1 else if s = jf then 0 else 5
def cc (x:WordM):Int:=if x.lit = true then 5 else cH x.s
theorem xy {z:Z} {w:World} {x:WordM}:Fn1 193 #[x.v] z w fun _ r=>r = .int .i64 (cc x):=Fn1.intro fun hS=>en193 (by
 unfold vc193;refine aP ?_;intro b1 w1 hb1 hS1;clear hS;refine pk Value.string ?_;intro bm w2 hbm hS2;clear hS1;refine jX (mk:=Value.string) ?_;intro w3 hS3;refine jX (mk:=Value.string) ?_;intro w4 hS4;refine jX (mk:=Value.string) ?_;intro w5 hS5;refine jX (mk:=Value.string) ?_;intro w6 hS6;refine jX (mk:=Value.string) ?_;intro w7 hS7;clear hS2 hS3 hS4 hS5 hS6;(repeat (first | refine aA ?_ | refine aE ?_));refine wx (mk:=Value.string) (zv:=.int .i64 0) ?_;simp only [oc,pz,if_true];have hq:∀ q:Option Value,q = (if x.s = ⟨#[110,97,109,101]⟩ then some (Value.int .i64 4) else if x.s = ⟨#[108,97,98,101,108]⟩ then some (Value.int .i64 3) else if x.s = ⟨#[108,105,115,116]⟩ then some (Value.int .i64 2) else if x.s = ⟨#[116,109,112,108]⟩ then some (Value.int .i64 1) else if x.s = ⟨#[116,101,120,116]⟩ then some (Value.int .i64 0) else none) ->
   q = some (.int .i64 (cH x.s)) \/ (q = none/\cH x.s = 5):=by
  rintro q rfl
  unfold cH jg gJ fS fu jf
  split
  ·exact .inl rfl
  ·split
   ·exact .inl rfl
   ·split
    ·exact .inl rfl
    ·split
     ·exact .inl rfl
     ·split
      ·exact .inl rfl
      ·exact .inr ⟨rfl,rfl⟩
 generalize hQ:(if x.s = ⟨#[110,97,109,101]⟩ then some (Value.int .i64 4) else if x.s = ⟨#[108,97,98,101,108]⟩ then some (Value.int .i64 3) else if x.s = ⟨#[108,105,115,116]⟩ then some (Value.int .i64 2) else if x.s = ⟨#[116,109,112,108]⟩ then some (Value.int .i64 1) else if x.s = ⟨#[116,101,120,116]⟩ then some (Value.int .i64 0) else none) = q
 rcases hq q hQ.symm with rfl | ⟨rfl,h5⟩
 ·clear hq hQ
  refine aA ?_;refine aA ?_;intro K0 hK0;refine bC rfl ?_;(repeat (first | refine aA ?_ | refine aE ?_));refine hK0 _ _ fun _=>?_
  refine aU (fun h=>?_) (fun h=>?_)
  ·exact ⟨_,_,‹_›,by unfold cc; rw [if_neg (by rw [h]; simp)]; rfl⟩
  ·exact ⟨_,_,‹_›,by unfold cc; rw [if_pos h]⟩
 ·clear hq hQ
  refine aA ?_;refine aA ?_;intro K0 hK0;refine dk rfl ?_;refine hK0 _ _ fun _=>?_
  refine aj ?_;exact ⟨_,_,‹_›,by unfold cc; rw [h5]; simp⟩)
def dg:List WordM->Option (List PartM)
 | []=>some []
 | [_]=>none
 | [_,_]=>none
 | a :: b :: c :: l=>match fG a,fG c with
  | some k,some n=>if b.lit = true then (dg l).map (⟨k,b.s,n⟩ :: ·) else none
  | _,_=>none
def yZ {α:Type} (E:El α) (z:Z) (r:Value) (X:Option (List α)):Prop:=
 match X with
 | none=>r = .tuple #[.slice none 0 0,.bool false]
 | some l=>∃ v,r = .tuple #[v,.bool true]/\SlR E z v l
theorem qr:∀ (k:Nat) (l:List WordM),l.length = k->l.length % 3 ≠ 0->dg l = none
 | _,[],_,h=>absurd rfl h
 | _,[_],_,_=>rfl
 | _,[_,_],_,_=>rfl
 | k,a :: b :: c :: l,hk,h=>by
  simp only [length_cons] at hk h;have:=qr l.length l rfl (by omega);rw [dg]
  split
  ·split
   ·rw [this]; rfl
   ·rfl
  ·rfl
theorem xU {z:Z} {w:World} {v:Value} {l:List WordM} [he:Errs z] (hv:SlR El.word z v l) (hl:l.length <= 1000000) (hs:∀ x ∈ l,x.s.size <= 1000000):Fn1 194 #[v] z w fun z' r=>yZ El.part z' r (dg l):=Fn1.intro fun hS=>en194 (by
 unfold vc194;generalize hRR:(fun (v:Value) (w':World)=>∃ z' L',Res w z [] w' z' L'/\yZ El.part z' v (dg l)) = RR;have hR:∀ z' w' L' r,Res w z [] w' z' L'->yZ El.part z' r (dg l)->RR r w':=fun z' w' L' r k e=>by rw [<- hRR]; exact ⟨_,_,k,e⟩
 clear hRR;obtain ⟨_,a,cap,rfl,hcap,hel⟩:=hv.form;haveI:InR 0 3:=⟨by decide,by decide⟩
 refine aA ?_;refine aA ?_;have hrem:(l.length:Int).tmod 3 = ((l.length % 3:Nat):Int):=by rw [Int.tmod_eq_emod_of_nonneg (by omega)]; omega
 rw [hrem];refine aA ?_;refine aU (fun h=>?_) (fun h=>?_)
 ·have h:=of_decide_eq_false h
  exact hR _ _ _ _ hS (by rw [qr _ l rfl (by omega)]; exact rfl)
 have h3:=of_decide_eq_true h;have h3:l.length % 3 = 0:=by omega
 clear h;generalize hX:dg l = X at hR;refine ee (fun (p:List PartM × Nat) x y w'=>y = .int .i64 ((3 * p.2:Nat):Int)/\p.1.length = p.2/\3 * p.2 <= l.length/\X = (dg (l.drop (3 * p.2))).map (p.1 ++ ·)/\∃ B us z',Le z z'/\OwnSl 95 3 B x p.1.length us/\Lsl El.part z' us p.1/\Res w z [] w' z' B) (fun p=>l.length - 3 * p.2) ([],0) ⟨rfl,rfl,by simp,by simp [hX],[],[],z,Le.refl _,OwnSl.nil,Lsl.nil,hS⟩ ?_;rintro I M ⟨acc,k⟩ x y w3 m ⟨rfl,hk,hk3,hx,B,us,z3,hz3,ho,hls,hS3⟩ back
 simp only at hk hk3 hx ho hls;dsimp only;clear hS hX;refine aA ?_;refine aA ?_;refine aC (fun h=>?_) (fun h=>?_)
 ·have hlt:3 * k + 2 < l.length:=by omega
  obtain ⟨x0,hx0⟩:∃ x0,l[3 * k]? = some x0:=⟨_,getElem?_eq_getElem (by omega)⟩
  obtain ⟨x1,hx1⟩:∃ x1,l[3 * k + 1]? = some x1:=⟨_,getElem?_eq_getElem (by omega)⟩
  obtain ⟨x2,hx2⟩:∃ x2,l[3 * k + 2]? = some x2:=⟨_,getElem?_eq_getElem (by omega)⟩
  have hdr:l.drop (3 * k) = x0 :: x1 :: x2 :: l.drop (3 * (k + 1)):=by
   obtain ⟨q0,e0⟩:=List.getElem?_eq_some_iff.1 hx0;obtain ⟨q1,e1⟩:=List.getElem?_eq_some_iff.1 hx1;obtain ⟨q2,e2⟩:=List.getElem?_eq_some_iff.1 hx2;rw [drop_eq_getElem_cons q0,e0,drop_eq_getElem_cons q1,e1,drop_eq_getElem_cons q2,e2,show 3 * k + 2 + 1 = 3 * (k + 1) by omega]
  rw [hdr,dg] at hx;obtain ⟨bb,off,_,rfl,rfl,hat0⟩:=hel _ _ hx0;obtain ⟨bb1,off1,_,hb1,rfl,hat1⟩:=hel _ _ hx1
  cases hb1
  obtain ⟨bb2,off2,_,hb2,rfl,hat2⟩:=hel _ _ hx2
  cases hb2
  have s0:=hs x0 (mem_of_getElem? hx0);have s2:=hs x2 (mem_of_getElem? hx2);haveI:InR ((3 * k:Nat):Int) (l.length:Nat):=⟨by omega,by omega⟩
  haveI:InI (((3 * k:Nat):Int) + 2):=⟨by omega⟩
  haveI:InI (((3 * k:Nat):Int) + 1):=⟨by omega⟩
  haveI:InI (((3 * k:Nat):Int) + 3):=⟨by omega⟩
  haveI:InR (((3 * k:Nat):Int) + 2) (l.length:Nat):=⟨by omega,by omega⟩
  haveI:InR (((3 * k:Nat):Int) + 1) (l.length:Nat):=⟨by omega,by omega⟩
  haveI:Fz z bb (off + (((3 * k:Nat):Int)).toNat * 2) x0.cells:=⟨by rw [Int.toNat_natCast]; exact hat0⟩
  haveI:Fz z bb (off + ((((3 * k:Nat):Int)) + 2).toNat * 2) x2.cells:=⟨by rw [show (((3 * k:Nat):Int) + 2).toNat = 3 * k + 2 by omega]; exact hat2⟩
  haveI:Fz z bb (off + ((((3 * k:Nat):Int)) + 1).toNat * 2) [.string x1.s]:=⟨by rw [show (((3 * k:Nat):Int) + 1).toNat = 3 * k + 1 by omega]; exact hat1.fld (i:=0) rfl rfl⟩
  haveI:Fz z bb (off + ((((3 * k:Nat):Int)) + 1).toNat * 2 + 1) [.bool x1.lit]:=⟨by rw [show (((3 * k:Nat):Int) + 1).toNat = 3 * k + 1 by omega]; exact hat1.fld (i:=1) rfl rfl⟩
  haveI he3:Errs z3:=he.le hz3;(repeat (first | refine aA ?_ | refine bV ?_));refine ap (kW s0) ?_;rintro z4 w4 v4 hz4 hS4 ⟨n0,rfl,hn0⟩
  haveI he4:Errs z4:=he3.le hz4;clear hS3;(repeat (first | refine aA ?_ | refine bV ?_));refine ap (kW s2) ?_;rintro z5 w5 v5 hz5 hS5 ⟨n2,rfl,hn2⟩
  clear hS4;(repeat (first | refine aA ?_ | refine JB ?_ | (refine JGB ?_; intro _ _ _ _)));rename_i hS6;clear hS5;refine aO (fun h=>?_) (fun h=>?_)
  ·refine hR _ _ _ _ hS6 ?_
   have:X = none:=by
    rw [hx]
    cases h0:fG x0 with
    | none=>rfl
    | some u=>
     cases h2:fG x2 with
     | none=>rfl
     | some v=>
      rw [h0,h2] at h;have hb:x1.lit = false:=by simpa using h
      simp only [hb]
      rfl
   rw [this]; exact rfl
  ·cases h0:fG x0 with
   | none=>rw [h0] at h; simp at h
   | some u=>
    cases h2:fG x2 with
    | none=>rw [h0,h2] at h; simp at h
    | some v=>
     rw [h0,h2] at h hx;have hb:x1.lit = true:=by simpa using h
     simp only [hb,if_true] at hx;have e0:=hn0 u h0;have e2:=hn2 v h2;subst e0 e2;clear h;(repeat (first | refine aA ?_ | refine aL ?_));refine cb hS6 ho (by simp only [room]; omega) (by simp only [room]; omega) (by omega) ?_;intro B7 v7 w7 ho7 hS7;rw [append_nil] at hS7;refine aA ?_;rw [show ((3 * k:Nat):Int) + 3 = ((3 * (k + 1):Nat):Int) by omega];have hsz1:=hs x1 (mem_of_getElem? hx1);refine back (acc ++ [⟨n0,x1.s,n2⟩],k + 1) _ _ _ ⟨rfl,by simp [hk],by simp only; omega,?_,B7,_,_,by (repeat (exact Res.zle (by assumption))),by rw [length_append]; exact ho7,(hls.mono (by (repeat (first | assumption | refine Le.trans ?_ (by assumption:Le _ _))))).push ⟨rfl,by show x1.s.size <= big; simp only [big]; omega⟩,hS7⟩ (by simp only; omega);rw [hx]
     cases dg (l.drop (3 * (k + 1))) <;> simp
 ·rw [drop_of_length_le (by omega),dg] at hx
  obtain ⟨z4,hz4,hS4,hv4⟩:=Res.freezeL (E:=El.part) (e:=95) (xs:=acc) (hS3.bring B) ho hls (by simp only [big]; omega);refine hR _ _ _ _ hS4 ?_;rw [hx];exact ⟨_,rfl,by simpa using hv4⟩)
def fp (x:WordM):ItemM:=if fy x.s (b1 40) = true/\ez (x.s.extract 1 x.s.size) 41 = true then ⟨x.s.extract 1 x.s.size |> fun t=>t.extract 0 (t.size - 1),true⟩ else ⟨x.s,false⟩
def eP:List WordM->Option (List ItemM)
 | []=>some []
 | x :: l=>if x.lit = true then none else (eP l).map (fp x :: ·)
theorem xu {z:Z} {w:World} {v:Value} {l:List WordM} (hv:SlR El.word z v l) (hl:l.length <= 1000000) (hs:∀ x ∈ l,x.s.size <= 1000000):Fn1 195 #[v] z w fun z' r=>yZ El.item z' r (eP l):=Fn1.intro fun hS=>en195 (by
 unfold vc195;generalize hRR:(fun (v:Value) (w':World)=>∃ z' L',Res w z [] w' z' L'/\yZ El.item z' v (eP l)) = RR;have hR:∀ z' w' L' r,Res w z [] w' z' L'->yZ El.item z' r (eP l)->RR r w':=fun z' w' L' r k e=>by rw [<- hRR]; exact ⟨_,_,k,e⟩
 clear hRR;obtain ⟨_,a,cap,rfl,hcap,hel⟩:=hv.form;refine aA ?_;generalize hX:eP l = X at hR;refine ee (fun (p:List ItemM) x y w'=>y = .int .i64 (p.length:Nat)/\p.length <= l.length/\X = (eP (l.drop p.length)).map (p ++ ·)/\∃ B us z',Le z z'/\OwnSl 98 2 B x p.length us/\Lsl El.item z' us p/\Res w z [] w' z' B) (fun p=>l.length - p.length) [] ⟨rfl,Nat.zero_le _,by simp [hX],[],[],z,Le.refl _,OwnSl.nil,Lsl.nil,hS⟩ ?_;rintro I M acc x y w3 m ⟨rfl,hk,hx,B,us,z3,hz3,ho,hls,hS3⟩ back
 clear hS hX;refine aA ?_;refine aC (fun h=>?_) (fun h=>?_)
 ·have hlt:acc.length < l.length:=by omega
  have hc:l[acc.length]? = some l[acc.length]:=getElem?_eq_getElem hlt;rw [drop_eq_getElem_cons hlt,eP] at hx;generalize l[acc.length] = c at hc hx;obtain ⟨bb,off,_,rfl,rfl,hat⟩:=hel _ _ hc;have hsz:=hs c (mem_of_getElem? hc);haveI:InR (acc.length:Int) (l.length:Nat):=⟨by omega,by omega⟩
  haveI:InI ((acc.length:Int) + 1):=⟨by omega⟩
  haveI:Fz z bb (off + (acc.length:Int).toNat * 2) c.cells:=⟨by rw [Int.toNat_natCast]; exact hat⟩
  intro K0 hK0;have mk:∀ (it:ItemM) v' B' us' z' w',c.lit = false->fp c = it->Le z3 z'->OwnSl 98 2 B' v' (acc.length + 1) us'->Lsl El.item z' us' (acc ++ [it])->Res w z [] w' z' B'->K0 [v'] w':=by
   intro it v' B' us' z' w' h0 h1 h2 h3 h4 h5;refine hK0 _ _ fun _=>?_
   refine aA ?_;refine back (acc ++ [it]) _ _ _ ⟨by simp,by simp; omega,?_,B',us',z',by (repeat (exact Res.zle (by assumption))),by rw [length_append]; exact h3,h4,h5⟩ (by simp; omega);rw [hx,h0,if_neg (by simp),h1,length_append];simp only [length_cons,length_nil,Nat.zero_add]
   cases eP (l.drop (acc.length + 1)) <;> simp
  clear hK0 back;have push:∀ (it:ItemM) z' w' (L:Bl),c.lit = false->fp c = it->it.name.size <= 1000000->Le z3 z'->Res w z [] w' z' (L ++ B)->V (bs 96 1 #[(0,it.v)]) w' fun t36 w=>V (Builtin.append_ #[96,96] 96 #[x,t36]) w fun t37 w=>K0 [t37] w:=by
   intro it z' w' L h0 h1 h2 hz' hS';refine cb (R:=L) (gb:=⟨by simpa using (perm_append_comm (l₁:=L) (l₂:=B))⟩) hS' ho (by simp only [room]; omega) (by simp only [room]; omega) (by omega) ?_;intro B7 v7 w7 ho7 hS7;exact mk it _ _ _ z' _ h0 h1 hz' ho7 ((hls.mono hz').push ⟨rfl,by simp only [big]; omega⟩) (hS7.keep [.bl B7] |> fun h=>by simpa using h)
  (repeat (first | refine aA ?_ | refine bV ?_));refine ak ?_;intro b6 w4 hb6 hS4;refine aF ?_;intro w5 hS5;clear hS3 hS4;(repeat (first | refine aA ?_ | refine aE ?_));refine aO (fun hlit=>?_) (fun hlit=>?_)
  ·rw [if_pos hlit] at hx
   exact hR _ _ _ _ hS5 (by rw [hx]; exact rfl)
  (repeat (first | refine aA ?_ | refine aE ?_ | (refine aN ?_; intro _ _ _ _)));rename_i hS6;clear hS5
  by_cases hp:fy c.s (b1 40) = true
  ·rw [show jQ c.s (b1 40) = .tuple #[.string (c.s.extract 1 c.s.size),.bool true] by unfold jQ; rw [if_pos hp]; rfl]
   have hse:(c.s.extract 1 c.s.size).size <= c.s.size:=by simp
   haveI:Sm (c.s.extract 1 c.s.size):=⟨by simp only [big]; omega⟩
   refine aA ?_;refine aA ?_;refine aN ?_;intro z7 w7 hz7 hS7;clear hS6
   by_cases hq:ez (c.s.extract 1 c.s.size) 41 = true
   ·rw [show gw (c.s.extract 1 c.s.size) 41 = .tuple #[.string ((c.s.extract 1 c.s.size).extract 0 ((c.s.extract 1 c.s.size).size - 1)),.bool true] by unfold gw; rw [if_pos hq]]
    refine aA ?_;refine aA ?_;intro K1 hK1;refine ah ?_;refine hK1 _ _ fun _=>?_
    refine ah ?_;refine aA ?_;exact push ⟨(c.s.extract 1 c.s.size).extract 0 ((c.s.extract 1 c.s.size).size - 1),true⟩ z7 _ [_] hlit (by unfold fp; rw [if_pos ⟨hp,hq⟩]) (by simp; omega) (by (repeat (first | assumption | refine Le.trans ?_ (by assumption:Le _ _)))) hS7
   ·rw [show gw (c.s.extract 1 c.s.size) 41 = .tuple #[.string (c.s.extract 1 c.s.size),.bool false] by unfold gw; rw [if_neg hq]]
    refine aA ?_;refine aA ?_;intro K1 hK1;refine ah ?_;refine hK1 _ _ fun _=>?_
    refine aj ?_;(repeat (first | refine aA ?_ | refine aE ?_));exact push ⟨c.s,false⟩ z7 _ [_] hlit (by unfold fp; rw [if_neg fun h=>hq h.2]) hsz (by (repeat (first | assumption | refine Le.trans ?_ (by assumption:Le _ _)))) hS7
  ·rw [show jQ c.s (b1 40) = .tuple #[.string c.s,.bool false] by unfold jQ; rw [if_neg hp]]
   haveI:Sm c.s:=⟨by simp only [big]; omega⟩
   refine aA ?_;refine aA ?_;refine aN ?_;intro z7 w7 hz7 hS7;clear hS6;have hsuf:∃ r b,gw c.s 41 = .tuple #[r,.bool b]:=by
    unfold gw
    split
    ·exact ⟨_,_,rfl⟩
    ·exact ⟨_,_,rfl⟩
   obtain ⟨r,bq,hsuf⟩:=hsuf;rw [hsuf];refine aA ?_;refine aA ?_;intro K1 hK1;refine aj ?_;refine hK1 _ _ fun _=>?_
   refine aj ?_;(repeat (first | refine aA ?_ | refine aE ?_));exact push ⟨c.s,false⟩ z7 _ [_] hlit (by unfold fp; rw [if_neg fun h=>hp h.1]) hsz (by (repeat (first | assumption | refine Le.trans ?_ (by assumption:Le _ _)))) hS7
 ·rw [drop_of_length_le (by omega),eP] at hx
  obtain ⟨z4,hz4,hS4,hv4⟩:=Res.freezeL (E:=El.item) (e:=98) (xs:=acc) (hS3.bring B) ho hls (by simp only [big]; omega);refine hR _ _ _ _ hS4 ?_;rw [hx];exact ⟨_,rfl,by simpa using hv4⟩)
end
section
def fz:List WordM->Option (List Int)
 | []=>some []
 | x :: l=>match fG x with
  | none=>none
  | some n=>(fz l).map (n :: ·)
def dT (s:ByteArray):List FormM->Nat->Option Nat
 | [],_=>none
 | f :: l,k=>if f.name = s/\0 < k then some k else dT s l (k + 1)
def em (s:ByteArray) (l:List WordM):Option InsM:=
 if 3 < l.length then none else match fz l with
  | none=>none
  | some ns=>match dT s formL 0 with
   | none=>none
   | some k=>some ⟨k,ns.getD 0 0,ns.getD 1 0,ns.getD 2 0⟩
def uP:Option InsM->Value
 | none=>.tuple #[.agg [.int .i64 0,.int .i64 0,.int .i64 0,.int .i64 0].toArray,.bool false]
 | some i=>.tuple #[i.v,.bool true]
theorem Ct {w:World} {t n e s:Nat} [g:ja t n e s] [ga:bn e s] [gs:aR e s] {l vs:List Value} {i:Int} {k:IntKind} {K:RP} (h0:0 <= i) (h1:i < n) (he:l.toArray.extract (i.toNat * s) (i.toNat * s + s) = vs.toArray) (hk:K (.agg vs.toArray) w):V (ix t (.agg l.toArray) (.int k i)) w K:=
 ⟨_,w,by
  simp only [ix,Instr.index,asIntOf,pure_bind,Sem.run_bind,g.und,g.size,Result.andThen_ok,h0,h1,and_self,if_true];rw [nB,he],hk⟩
theorem iu:formL.length = 47:=by decide +kernel
theorem yS {a c:Bool} (h:(bif a then c else false) = true):a = true/\c = true:=by cases a <;> simp_all
theorem AA {z:Z} {w:World} {v:Value} {s:ByteArray} {l:List WordM} [he:Errs z] (hv:SlR El.word z v l) (hl:l.length <= 1000000) (hs:∀ x ∈ l,x.s.size <= 1000000):Fn1 197 #[.string s,v] z w fun _ r=>r = uP (em s l):=Fn1.intro fun hS=>en197 (by
 unfold vc197;generalize hRR:(fun (v:Value) (w':World)=>∃ z' L',Res w z [] w' z' L'/\v = uP (em s l)) = RR;have hR:∀ z' w' L' r,Res w z [] w' z' L'->r = uP (em s l)->RR r w':=fun z' w' L' r k e=>by rw [<- hRR]; exact ⟨_,_,k,e⟩
 clear hRR;obtain ⟨_,a,cap,rfl,hcap,hel⟩:=hv.form;refine ak ?_;intro b4 w1 hb4 hS1;clear hS;refine aA ?_;refine aA ?_;refine aC (fun h=>?_) (fun h=>?_)
 ·(repeat (first | refine aA ?_ | (refine aF ?_; intro _ _) | refine aq ?_))
  exact hR _ _ _ _ (by assumption) (by unfold em; rw [if_pos (by omega)]; rfl)
 have hl3:l.length <= 3:=by omega
 have hins:em s l = match fz l with
  | none=>none
  | some ns=>match dT s formL 0 with
   | none=>none
   | some k=>some ⟨k,ns.getD 0 0,ns.getD 1 0,ns.getD 2 0⟩:=by unfold em; rw [if_neg (by omega)]
 generalize em s l = X at hR hins;refine ak ?_;intro b6 w2 hb6 hS2;clear hS1 h;refine aA ?_;refine cC (fun (ns:List Int) x w'=>x = .int .i64 (ns.length:Nat)/\ns.length <= l.length/\fz l = (fz (l.drop ns.length)).map (ns ++ ·)/\∃ z',Le z z'/\Res w z [] w' z' [(b6,.cells [.int .i64 (ns.getD 0 0),.int .i64 (ns.getD 1 0),.int .i64 (ns.getD 2 0)].toArray 100 (0,0)),(b4,.cells [.int .i64 0,.int .i64 0,.int .i64 0,.int .i64 0].toArray 38 (0,0))]) (fun ns=>l.length - ns.length) [] ⟨rfl,Nat.zero_le _,by simp,z,Le.refl _,hS2⟩ ?_;rintro I M ns x w3 m ⟨rfl,hk,hn,z3,hz3,hS3⟩ back
 clear hS2;refine aA ?_;refine aC (fun h=>?_) (fun h=>?_)
 ·have hlt:ns.length < l.length:=by omega
  have hc:l[ns.length]? = some l[ns.length]:=getElem?_eq_getElem hlt;rw [drop_eq_getElem_cons hlt,fz] at hn;generalize l[ns.length] = c at hc hn;obtain ⟨bb,off,_,rfl,rfl,hat⟩:=hel _ _ hc;have hsz:=hs c (mem_of_getElem? hc);haveI:InR (ns.length:Int) (l.length:Nat):=⟨by omega,by omega⟩
  haveI:InR (ns.length:Int) (3:Nat):=⟨by omega,by omega⟩
  haveI:mn (ns.length:Int) 1 ns.length:=⟨by simp,by omega⟩
  haveI:InI ((ns.length:Int) + 1):=⟨by omega⟩
  haveI:Fz z bb (off + (ns.length:Int).toNat * 2) c.cells:=⟨by rw [Int.toNat_natCast]; exact hat⟩
  haveI:SetN [Value.int .i64 (ns.getD 0 0),Value.int .i64 (ns.getD 1 0),Value.int .i64 (ns.getD 2 0)] ns.length [Value.int .i64 0] ([Value.int .i64 (ns.getD 0 0),Value.int .i64 (ns.getD 1 0),Value.int .i64 (ns.getD 2 0)].set ns.length (Value.int .i64 0)):=SetN.at_ (by show ns.length < 3; omega);(repeat (first | refine aA ?_ | refine bV ?_));refine ak ?_;intro b8 w4 hb8 hS4;refine aF ?_;intro w5 hS5;clear hS3 hS4;haveI:Errs z3:=he.le hz3;(repeat (refine ae ?_));refine ap (kW hsz) ?_;rintro z6 w6 v6 hz6 hS6 ⟨n,rfl,hn6⟩
  clear hS5;refine aA ?_;refine aA ?_;refine aA ?_;refine aU (fun h1=>?_) (fun h1=>?_)
  ·have hnone:fG c = none:=by cases hc':fG c with
    | none=>rfl
    | some u=>rw [hc'] at h1; cases h1
   (repeat (first | refine aA ?_ | (refine aF ?_; intro _ _) | refine aq ?_));refine hR _ _ _ _ (by assumption) ?_;rw [hins,hn,hnone]
   rfl
  ·obtain ⟨u,hu⟩:∃ u,fG c = some u:=Option.isSome_iff_exists.1 h1
   have:=hn6 u hu;subst this;rw [hu] at hn;simp only at hn;refine aA ?_;haveI:SetN [Value.int .i64 (ns.getD 0 0),Value.int .i64 (ns.getD 1 0),Value.int .i64 (ns.getD 2 0)] ns.length [Value.int .i64 n] ([Value.int .i64 (ns.getD 0 0),Value.int .i64 (ns.getD 1 0),Value.int .i64 (ns.getD 2 0)].set ns.length (Value.int .i64 n)):=SetN.at_ (by show ns.length < 3; omega);refine aF ?_;intro w7 hS7;refine aA ?_;have hset:[Value.int .i64 (ns.getD 0 0),Value.int .i64 (ns.getD 1 0),Value.int .i64 (ns.getD 2 0)].set ns.length (Value.int .i64 n) = [Value.int .i64 ((ns ++ [n]).getD 0 0),Value.int .i64 ((ns ++ [n]).getD 1 0),Value.int .i64 ((ns ++ [n]).getD 2 0)]:=by
    match ns,(by omega:ns.length < 3) with
    | [],_=>rfl
    | [x0],_=>rfl
    | [x0,x1],_=>rfl
   have hS8:=hS7.keep [.at b6,.at b4];rw [hset] at hS8;refine back (ns ++ [n]) _ _ ⟨by simp,by simp; omega,?_,z6,by (repeat (exact Res.zle (by assumption))),hS8⟩ (by simp; omega);rw [hn,length_append];simp only [length_cons,length_nil,Nat.zero_add]
   cases fz (l.drop (ns.length + 1)) <;> simp
 ·rw [drop_of_length_le (by omega),fz] at hn
  simp only [Option.map_some,append_nil] at hn;rw [hn] at hins;simp only at hins;clear back h hk hn;(repeat (refine aN ?_; intro _ _ _ _));rename_i hS4;clear hS3;generalize ns.getD 0 0 = n0 at *;generalize ns.getD 1 0 = n1 at *;generalize ns.getD 2 0 = n2 at *;refine bG (fun (j:Nat) x=>x = .int .i64 j/\j <= 47/\dT s formL 0 = dT s (formL.drop j) j) (fun j=>47 - j) 0 ⟨rfl,by omega,rfl⟩ ?_;rintro J N j x w5 z5 m5 ⟨rfl,hj,hop⟩ hz5 hS5 back
  clear hS4;refine aA ?_;refine aC (fun h=>?_) (fun h=>?_)
  ·have hjl:j < formL.length:=by rw [iu]; omega
   have hf:formL[j]? = some formL[j]:=getElem?_eq_getElem hjl;rw [drop_eq_getElem_cons hjl,dT] at hop;generalize formL[j] = f at hf hop;haveI:InI ((j:Int) + 1):=⟨by omega⟩
   refine Ct (n:=47) (s:=8) (e:=102) (vs:=f.cells) (by omega) (by omega) (mU (f:=FormM.cells) (n:=8) (fun x=>rfl) (by rw [Int.toNat_natCast]; exact hf)) ?_;dsimp only [FormM.cells];(repeat (first | refine aA ?_ | refine aE ?_ | (refine aP ?_; intro _ _ _ _) | (refine aF ?_; intro _ _) | refine JB ?_));rename_i hS6;clear hS5;refine aO (fun h2=>?_) (fun h2=>?_)
   ·have h2:=yS h2
    have e1:=of_decide_eq_true h2.1;have e2:=of_decide_eq_true h2.2;rw [if_pos ⟨e1,by omega⟩] at hop;rw [hop] at hins;simp only at hins;haveI:InR 0 (3:Nat):=⟨by decide,by decide⟩
    haveI:InR 1 (3:Nat):=⟨by decide,by decide⟩
    haveI:InR 2 (3:Nat):=⟨by decide,by decide⟩
    (repeat (first | refine aA ?_ | refine aE ?_ | (refine aF ?_; intro _ _) | refine aq ?_));exact hR _ _ _ _ (by assumption) (by rw [hins]; rfl)
   ·have hno:¬ (f.name = s/\0 < j):=fun e=>by
     rw [decide_eq_true e.1,decide_eq_true (by omega:(j:Int) > 0)] at h2
     cases h2
    rw [if_neg hno] at hop;refine aA ?_;exact back (j + 1) _ _ _ ⟨by simp,by omega,hop⟩ (by (repeat (exact Le.refl _))) (hS6.keep [.at b6,.at b4]) (by omega)
  ·have hj47:j = 47:=by omega
   subst hj47;rw [drop_of_length_le (by rw [iu]; omega),dT] at hop;rw [hop] at hins;simp only at hins;(repeat (first | refine aA ?_ | (refine aF ?_; intro _ _) | refine aq ?_));exact hR _ _ _ _ (by assumption) (by rw [hins]; rfl))
end
section
theorem nS {α:Type} {f:ByteArray->α->ByteArray} {g:α->Nat}:∀ (l:List α) (s:ByteArray),(∀ s x,x ∈ l->(f s x).size <= s.size + g x)->(l.foldl f s).size <= s.size + (l.map g).sum
 | [],s,h=>by simp
 | x :: l,s,h=>by
  have h1:=nS l (f s x) fun s y hy=>h s y (mem_cons_of_mem _ hy)
  have h2:=h s x mem_cons_self;rw [foldl_cons,map_cons,sum_cons];omega
theorem qv {α:Type} (g:α->Nat) (l:List α) (k:Nat) (x:α) (hx:l[k]? = some x):((l.take k).map g).sum + g x <= (l.map g).sum:=by
 induction l generalizing k with
 | nil=>simp at hx
 | cons y l ih=>
  cases k with
  | zero=>simp at hx; subst hx; simp
  | succ k=>
   have:=ih k (by simpa using hx);simp only [take_succ_cons,map_cons,sum_cons];omega
theorem vW {s:ByteArray} (h:s.size <= 1000000):(aZ s).size <= 3 * s.size + 10:=by
 have:=dc (s:=s);omega
theorem ni {s:ByteArray} {p:PartM} (h1:InI p.kind) (h2:InI p.n) (h3:p.text.size <= 1000000):bA [s,ac p.kind,aZ p.text,ac p.n] <= s.size + (3 * p.text.size + 60)/\(cY s p).size <= s.size + (3 * p.text.size + 60):=by
 have a:=dE h1;have b:=dE h2;have c:=vW h3;have d:bA [s,ac p.kind,aZ p.text,ac p.n] <= s.size + (3 * p.text.size + 52):=by simp only [bA,map_cons,map_nil,sum_cons,sum_nil]; omega
 have e:=eG [s,ac p.kind,aZ p.text,ac p.n];simp only [length_cons,length_nil] at e;exact ⟨by omega,by rw [cY]; omega⟩
theorem sB {z:Z} {w:World} {v:Value} {l:List PartM} [ht:Tab z] (hv:SlR El.part z v l) (hl:(l.map fun p=>3 * p.text.size + 60).sum <= 900000000) (hp:∀ p ∈ l,InI p.kind/\InI p.n/\p.text.size <= 1000000) :
  Fn1 128 #[v] z w fun _ r=>r = .string (ep l):=Fn1.intro fun hS=>en128 (by
 unfold vc128;obtain ⟨_,a,cap,rfl,hcap,hel⟩:=hv.form;refine aA ?_;refine kN (fun k s i=>i = .int .i64 (k:Nat)/\k <= l.length/\s = .string ((l.take k).foldl cY ⟨#[116,109,112,108]⟩)) (fun k=>l.length - k) 0 ⟨rfl,Nat.zero_le _,rfl⟩ ?_;rintro I M k u v w1 z1 m ⟨rfl,hk,rfl⟩ hz1 hS1 back
 clear hS;refine aA ?_;refine aC (fun h=>?_) (fun h=>?_)
 ·have hlt:k < l.length:=by omega
  have hi:=getElem?_eq_getElem hlt;obtain ⟨i1,i2,i3⟩:=hp _ (getElem_mem hlt);have hlen:=nS (f:=cY) (g:=fun p=>3 * p.text.size + 60) (l.take k) ⟨#[116,109,112,108]⟩ fun s x hx=>(ni (hp _ (mem_of_mem_take hx)).1 (hp _ (mem_of_mem_take hx)).2.1 (hp _ (mem_of_mem_take hx)).2.2).2
  have hsp:=qv (fun p:PartM=>3 * p.text.size + 60) l k _ hi;rw [show (⟨#[116,109,112,108]⟩:ByteArray).size = 4 from rfl] at hlen;have htf:=gW (f:=cY) (s:=⟨#[116,109,112,108]⟩) hlt;generalize hs:(l.take k).foldl cY ⟨#[116,109,112,108]⟩ = s at back hlen htf ⊢;have hll:=hv.form.1;simp only [big] at hll;haveI:InI l[k].kind:=i1;haveI:InI l[k].n:=i2;haveI i3:ky l[k].text:=⟨i3⟩
  have hts:=ni (s:=s) i1 i2 i3.h;haveI:InR (k:Int) (l.length:Nat):=⟨by omega,by omega⟩
  haveI:InI ((k:Int) + 1):=⟨by omega⟩
  obtain ⟨b,off,cs,rfl,⟨rfl,_⟩,hat⟩:=hel _ _ hi;haveI:Fz z b (off + (k:Int).toNat * 3) l[k].cells:=⟨by rw [Int.toNat_natCast]; exact hat⟩
  (repeat (first | (refine iDr ?_; intro _ _) | refine aA ?_ | refine aK ?_ | (refine aP ?_; intro _ _ _ _) | (refine aF ?_; intro _ _) | refine aW ?_ | refine bN ?_ | (refine aN ?_; intro _ _ _ _) | (refine cE ?_; intro _ _ _ _) | refine bV ?_));refine fN (out:=[_,_,_,_]) [s,ac l[k].kind,aZ l[k].text,ac l[k].n] rfl rfl (by omega) (by omega) ?_;intro z2 w2 hz2 hS2;refine aA ?_;exact back (k + 1) _ _ _ _ ⟨by simp,by omega,by rw [htf]; rfl⟩ (by (repeat (first | assumption | refine Le.trans ?_ (by assumption:Le _ _)))) hS2.drop (by omega)
 ·have hk2:k = l.length:=by omega
  subst hk2;rw [take_length];exact ⟨_,_,hS1,rfl⟩)
theorem listStep_le {s:ByteArray} {x:ItemM}:bA [s,if x.via = true then b1 40 ++ x.name ++ b1 41 else x.name] <= s.size + (x.name.size + 10)/\(cL s x).size <= s.size + (x.name.size + 10):=by
 have d:bA [s,if x.via = true then b1 40 ++ x.name ++ b1 41 else x.name] <= s.size + (x.name.size + 2):=by
  simp only [bA,map_cons,map_nil,sum_cons,sum_nil]
  split
  ·rw [ByteArray.size_append,ByteArray.size_append,show (b1 40).size = 1 from rfl,show (b1 41).size = 1 from rfl]; omega
  ·omega
 have e:=eG [s,if x.via = true then b1 40 ++ x.name ++ b1 41 else x.name];simp only [length_cons,length_nil] at e;exact ⟨by omega,by rw [cL]; omega⟩
theorem si {z:Z} {w:World} {v:Value} {l:List ItemM} (hv:SlR El.item z v l) (hl:(l.map fun x=>x.name.size + 10).sum <= 900000000) :
  Fn1 129 #[v] z w fun _ r=>r = .string (fI l):=Fn1.intro fun hS=>en129 (by
 unfold vc129;obtain ⟨hll,a,cap,rfl,hcap,hel⟩:=hv.form;simp only [big] at hll;refine aA ?_;refine kN (fun k s i=>i = .int .i64 (k:Nat)/\k <= l.length/\s = .string ((l.take k).foldl cL ⟨#[108,105,115,116]⟩)) (fun k=>l.length - k) 0 ⟨rfl,Nat.zero_le _,rfl⟩ ?_;rintro I M k u v w1 z1 m ⟨rfl,hk,rfl⟩ hz1 hS1 back
 clear hS;refine aA ?_;refine aC (fun h=>?_) (fun h=>?_)
 ·have hlt:k < l.length:=by omega
  have hi:=getElem?_eq_getElem hlt;have hlen:=nS (f:=cL) (g:=fun x=>x.name.size + 10) (l.take k) ⟨#[108,105,115,116]⟩ fun s x hx=>listStep_le.2
  have hsp:=qv (fun x:ItemM=>x.name.size + 10) l k _ hi;rw [show (⟨#[108,105,115,116]⟩:ByteArray).size = 4 from rfl] at hlen;have htf:=gW (f:=cL) (s:=⟨#[108,105,115,116]⟩) hlt;generalize hs:(l.take k).foldl cL ⟨#[108,105,115,116]⟩ = s at back hlen htf ⊢;have hts:=(listStep_le (s:=s) (x:=l[k])).1;haveI:InR (k:Int) (l.length:Nat):=⟨by omega,by omega⟩
  haveI:InI ((k:Int) + 1):=⟨by omega⟩
  obtain ⟨b,off,cs,rfl,⟨rfl,_⟩,hat⟩:=hel _ _ hi;generalize hxx:l[k] = x at hts hat htf hsp;obtain ⟨nm,via⟩:=x;simp only at hts hsp;haveI:Fz z b (off + (k:Int).toNat * 2) (ItemM.cells ⟨nm,via⟩):=⟨by rw [Int.toNat_natCast]; exact hat⟩
  haveI:Cat (b1 40) nm:=⟨by rw [show (b1 40).size = 1 from rfl]; omega⟩
  haveI:Cat (b1 40 ++ nm) (b1 41):=⟨by rw [ByteArray.size_append,show (b1 40).size = 1 from rfl,show (b1 41).size = 1 from rfl]; omega⟩
  intro K hK;have main:∀ w' z' L',Le z1 z'->Res w z [] w' z' L'->K [.string (cL s ⟨nm,via⟩)] w':=by
   intro w' z' L' hz' hS';refine hK _ _ fun _=>?_
   refine aA ?_;exact back (k + 1) _ _ _ _ ⟨by simp,by omega,by rw [htf]⟩ hz' hS'.drop (by omega)
  clear hK back;(repeat (first | refine aA ?_ | refine aE ?_ | (refine aP ?_; intro _ _ _ _) | (refine aF ?_; intro _ _) | refine bV ?_))
  cases via
  ·(repeat (first | refine aA ?_ | refine aE ?_ | refine aj ?_))
   refine fN (out:=[_,_]) [s,nm] rfl rfl (by omega) (Nat.le_trans (by simpa using hts) (by omega:s.size + (nm.size + 10) <= 1000000000)) ?_;intro z2 w2 hz2 hS2;exact main _ _ _ (by (repeat (assumption))) hS2
  ·(repeat (first | refine aA ?_ | refine aE ?_ | refine ah ?_))
   refine fN (out:=[_,_]) [s,b1 40 ++ nm ++ b1 41] rfl rfl (by omega) (Nat.le_trans (by simpa using hts) (by omega:s.size + (nm.size + 10) <= 1000000000)) ?_;intro z2 w2 hz2 hS2;exact main _ _ _ (by (repeat (assumption))) hS2
 ·have hk2:k = l.length:=by omega
  subst hk2;rw [take_length];exact ⟨_,_,hS1,rfl⟩)
end
section
theorem mG:∀ (l:List UInt8) (q:Bool) (acc a r:List UInt8),cK q acc l = some (a,r)->a.length + r.length <= acc.length + l.length
 | [],false,acc,a,r,h=>by simp [cK] at h
 | [],true,acc,a,r,h=>by simp only [cK,Option.some.injEq,Prod.mk.injEq] at h; obtain ⟨rfl,rfl⟩:=h; simp
 | c :: t,false,acc,a,r,h=>by
  rw [cK] at h
  split at h
  ·have:=mG t true acc a r h; simp only [length_cons]; omega
  ·have:=mG t false (acc ++ [c]) a r h; simp only [length_cons,length_append,length_nil] at this ⊢; omega
 | c :: t,true,acc,a,r,h=>by
  rw [cK] at h
  split at h
  ·have:=mG t false (acc ++ [34]) a r h; simp only [length_cons,length_append,length_nil] at this ⊢; omega
  ·simp only [Option.some.injEq,Prod.mk.injEq] at h; obtain ⟨rfl,rfl⟩:=h; simp
theorem ym {bare:Bool} {s r:List UInt8} {t:WordM} (h:jb bare s = some (t,r)):t.s.size + r.length <= s.length:=by
 unfold jb at h
 split at h
 ·split at h
  ·cases h
  ·rename_i x r' hl
   split at h
   ·cases h
   ·simp only [Option.some.injEq,Prod.mk.injEq] at h
    obtain ⟨rfl,rfl⟩:=h;have:=mG _ _ _ _ _ hl;have h2:(ByteArray.mk x.toArray).size = x.length:=rfl;rw [h2];simp only [length_drop,length_nil] at this;omega
 ·split at h
  ·cases h
  ·simp only [Option.some.injEq,Prod.mk.injEq] at h
   obtain ⟨rfl,rfl⟩:=h;have h1:(s.takeWhile (· ≠ 32) ++ s.dropWhile (· ≠ 32)).length = s.length:=by rw [takeWhile_append_dropWhile]
   have h2:(ByteArray.mk (s.takeWhile (· ≠ 32)).toArray).size = (s.takeWhile (· ≠ 32)).length:=rfl;rw [length_append] at h1;rw [h2]; omega
theorem oo {bare:Bool}:∀ (f:Nat) (s:List UInt8) (l:List WordM),ce bare f s = some l->(l.map (·.s.size)).sum <= s.length/\l.length <= s.length/\l ≠ []
 | 0,s,l,h=>by cases h
 | f + 1,s,l,h=>by
  rw [ce] at h
  cases ht:jb bare s with
  | none=>rw [ht] at h; cases h
  | some x=>
   obtain ⟨t,r⟩:=x;rw [ht] at h;simp only at h;have h1:=ym ht;have h2:=tS ht
   split at h
   ·simp only [Option.some.injEq] at h
    subst h;simp;omega
   ·split at h
    ·cases h
    ·cases hw:ce bare f (r.drop 1) with
     | none=>rw [hw] at h; cases h
     | some l'=>
      rw [hw] at h;simp only [Option.map_some,Option.some.injEq] at h;subst h;have:=oo f _ _ hw;simp only [length_drop] at this;simp only [map_cons,sum_cons,length_cons,ne_eq,reduceCtorEq,not_false_eq_true,and_true];omega
theorem vt {α:Type} (g:α->Nat):∀ (l:List α) (x:α),x ∈ l->g x <= (l.map g).sum
 | y :: l,x,h=>by
  rcases List.mem_cons.1 h with rfl | h
  ·simp
  ·have:=vt g l x h; simp; omega
theorem uy {s:ByteArray} {l:List WordM} (h:dY s = some l):(l.map (·.s.size)).sum <= s.size/\l.length <= s.size/\l ≠ []:=by
 have:=oo _ _ _ h
 rwa [<- aI] at this
theorem oX {x:WordM} {v:Int} (h:fG x = some v):InI v:=by
 unfold fG at h
 split at h
 ·cases h
 ·split at h
  ·rename_i u hu
   split at h
   ·cases h
    have:=Lib.atoiAll_bounds hu;exact ⟨by omega⟩
   ·cases h
  ·cases h
theorem qp:∀ (k:Nat) (ws:List WordM) (ps:List PartM),ws.length = k->dg ws = some ps->(ps.map (·.text.size)).sum <= (ws.map (·.s.size)).sum/\ps.length <= ws.length/\∀ p ∈ ps,InI p.kind/\InI p.n
 | _,[],ps,_,h=>by simp only [dg,Option.some.injEq] at h; subst h; simp
 | _,[_],ps,_,h=>by cases h
 | _,[_,_],ps,_,h=>by cases h
 | k,a :: b :: c :: l,ps,hk,h=>by
  rw [dg] at h
  split at h
  ·rename_i u v hu hv
   split at h
   ·cases ht:dg l with
    | none=>rw [ht] at h; cases h
    | some qs=>
     rw [ht] at h;simp only [Option.map_some,Option.some.injEq] at h;subst h;have:=qp l.length l qs rfl ht;simp only [map_cons,sum_cons,length_cons,mem_cons,forall_eq_or_imp];refine ⟨by omega,by omega,⟨oX hu,oX hv⟩,this.2.2⟩
   ·cases h
  ·cases h
termination_by k=>k
decreasing_by simp only [length_cons] at hk; omega
theorem sr (x:WordM):(fp x).name.size <= x.s.size:=by
 unfold fp
 split
 ·simp; omega
 ·exact Nat.le_refl _
theorem rJ:∀ (ws:List WordM) (l:List ItemM),eP ws = some l->(l.map (·.name.size)).sum <= (ws.map (·.s.size)).sum/\l.length = ws.length
 | [],l,h=>by simp only [eP,Option.some.injEq] at h; subst h; simp
 | x :: ws,l,h=>by
  rw [eP] at h
  split at h
  ·cases h
  ·cases ht:eP ws with
   | none=>rw [ht] at h; cases h
   | some l'=>
    rw [ht] at h;simp only [Option.map_some,Option.some.injEq] at h;subst h;have:=rJ ws l' ht;have h2:=sr x;simp only [map_cons,sum_cons,length_cons];omega
theorem sC {α:Type} (g:α->Nat) (a b:Nat):∀ l:List α,(l.map fun x=>a * g x + b).sum = a * (l.map g).sum + l.length * b
 | []=>by simp
 | x :: l=>by
  have:=sC g a b l;simp only [map_cons,sum_cons,length_cons,this,Nat.mul_add,Nat.add_mul];omega
def dH (c:aH) (kind:Int) (s:ByteArray):Option (aH × Int):=
 match dY s with
 | none=>none
 | some []=>none
 | some (x :: rest)=>
  if cc x < kind \/ x.lit = true then none else
  if cc x = 0 then match rest with
   | [y]=>if y.lit = true/\eW y.s = s then some ({ c with consts:=c.consts ++ [y.s] },0) else none
   | _=>none
  else if cc x = 1 then match dg rest with
   | some t=>if ep t = s then some ({ c with tmpls:=c.tmpls ++ [t] },1) else none
   | none=>none
  else if cc x = 2 then match eP rest with
   | some t=>if fI t = s then some ({ c with lists:=c.lists ++ [t] },2) else none
   | none=>none
  else if cc x = 3 then match rest with
   | [y,u]=>match fG y with
    | some n=>if u.lit = true/\dd ⟨u.s,n⟩ = s then some ({ c with labels:=c.labels ++ [⟨u.s,n⟩] },3) else none
    | none=>none
   | _=>none
  else if cc x = 4 then match rest with
   | [y]=>if y.lit = false then some ({ c with slots:=c.slots ++ [y.s] },4) else none
   | _=>none
  else match em x.s rest with
   | some i=>if fR i = s then some ({ c with ins:=c.ins ++ [i] },cc x) else none
   | none=>none
end
section
def ReadC (br:Nat) (z:Z) (c:aH) (kind:Int) (B:Bl):Prop:=∃ v1 v2 v3 v4 v5 v6 B1 B2 B3 B4 B5 B6 u1 u2 u3 u4 u5 u6,
 B = (br,.cells [v1,v2,v3,v4,v5,v6,.int .i64 kind].toArray 212 (0,0)) :: (B1 ++ (B2 ++ (B3 ++ (B4 ++ (B5 ++ (B6 ++ [])))))) /\
 OwnSl 9 1 B1 v1 c.consts.length u1/\Lsl El.str z u1 c.consts/\OwnSl 93 1 B2 v2 c.tmpls.length u2/\Lsl (El.sl El.part) z u2 c.tmpls/\OwnSl 96 1 B3 v3 c.lists.length u3/\Lsl (El.sl El.item) z u3 c.lists /\
 OwnSl 54 2 B4 v4 c.labels.length u4/\Lsl El.spot z u4 c.labels/\OwnSl 9 1 B5 v5 c.slots.length u5/\Lsl El.str z u5 c.slots/\OwnSl 38 4 B6 v6 c.ins.length u6/\Lsl El.ins z u6 c.ins
def FewC (c:aH) (n:Nat):Prop:=c.consts.length <= n/\c.tmpls.length <= n/\c.lists.length <= n/\c.labels.length <= n/\c.slots.length <= n/\c.ins.length <= n
theorem SlR.form2' {α:Type} {E:El α} {z:Z} {v:Value} {xs:List α} (h:SlR E z v xs):∃ a c,v = .slice a xs.length c/\xs.length <= c:=let ⟨_,a,c,h1,h2,_⟩:=h.form; ⟨a,c,h1,h2⟩
theorem fO {w0 w:World} {z0 z:Z} {B0 B L R:Bl} {K1:RP} {t e size bytes n:Nat} {v u:Value} {us xs:List Value} [g:fP t e size bytes] [gs:bF t e size] [gz:eb e size] [gc:cQ u us] [gl:hG us size] [go:tL us]
  (hS:Res w0 z0 B0 w z L) (ho:OwnSl e size B v n xs) [gb:BringL L B R] (hb:(n + 1) * bytes <= room) (hb2:n + 1 <= room) (hsz:size <= 1000)
  (hk:∀ s w1 b,Res w0 z0 B0 w1 z ((b,.cells us.toArray e (0,0)) :: L)->(∀ K,(∀ B' v' w',OwnSl e size B' v' (n + 1) (xs ++ us)->Res w0 z0 B0 w' z (B' ++ R)->K v' w')->V (Builtin.append_ #[t,t] t #[v,s]) w1 K)->K1 s w1):V (bs t 1 #[(0,u)]) w K1:=by
 refine je (parts:=[(0,u)]) rfl (by omega) ?_;intro b w1 hb1 hS1;rw [append_nil] at hS1;refine hk _ _ b hS1 fun K hK=>?_
 have hat:At (hp w1) b 0 us:=⟨_,_,_,(hS1.mem _ mem_cons_self).1,fun j v hv=>by simpa using hv⟩
 have hS2:Res w0 z0 B0 w1 z (B ++ R):=(hS1.sublist (sublist_cons_self _ _)).perm gb.h;exact xG (B:=B) (m:=1) hS2 ho hat (by rw [gl.h]; omega) go.h (by omega) hb hb2 hK
theorem tx:∀ (l:List WordM) (ns:List Int),fz l = some ns->∀ n ∈ ns,InI n
 | [],ns,h=>by simp only [fz,Option.some.injEq] at h; subst h; simp
 | x :: l,ns,h=>by
  rw [fz] at h
  cases hx:fG x with
  | none=>rw [hx] at h; cases h
  | some v=>
   rw [hx] at h;simp only at h
   cases hl:fz l with
   | none=>rw [hl] at h; cases h
   | some ns'=>
    rw [hl] at h;simp only [Option.map_some,Option.some.injEq] at h;subst h;intro n hn
    rcases List.mem_cons.1 hn with rfl | hn
    ·exact oX hx
    ·exact tx l ns' hl n hn
theorem sw {ns:List Int} (h:∀ n ∈ ns,InI n) (k:Nat):InI (ns.getD k 0):=by
 rw [getD_eq_getElem?_getD]
 cases hk:ns[k]? with
 | none=>exact ⟨by simp⟩
 | some n=>exact h n (mem_of_getElem? hk)
theorem yE {s:ByteArray} {l:List WordM} {i:InsM} (h:em s l = some i):InI i.a/\InI i.b/\InI i.c:=by
 unfold em at h
 split at h
 ·cases h
 ·split at h
  ·cases h
  ·rename_i ns hns
   split at h
   ·cases h
   ·simp only [Option.some.injEq] at h
    subst h;have:=tx l ns hns;exact ⟨sw this 0,sw this 1,sw this 2⟩
def uv (br:Nat) (c:aH) (kind:Int) (s:ByteArray) (z:Z) (B:Bl) (r:Value):Prop:=
 match dH c kind s with
 | none=>r = .bool false/\∃ vs,B = [(br,.cells vs 212 (0,0))]
 | some (c',k')=>r = .bool true/\ReadC br z c' k' B
theorem tm {z:Z} {w:World} {br:Nat} {B:Bl} {c:aH} {kind:Int} {s:ByteArray} [ht:Tab z] [he:Errs z] (hB:ReadC br z c kind B) (hs:s.size <= 1000000) (hc:FewC c 1000000) :
  Fn 135 #[.pointer (some ⟨br,0,none⟩),.string s] z B w (fun z' B' r=>uv br c kind s z' B' r):=Fn.intro fun hS=>en135 (by
 unfold vc135;obtain ⟨v1,v2,v3,v4,v5,v6,B1,B2,B3,B4,B5,B6,u1,u2,u3,u4,u5,u6,rfl,o1,l1,o2,l2,o3,l3,o4,l4,o5,l5,o6,l6⟩:=hB;obtain ⟨c1,c2,c3,c4,c5,c6⟩:=hc;generalize hRR:(fun (v:Value) (w':World)=>∃ z' B',Res w z ((br,.cells [v1,v2,v3,v4,v5,v6,.int .i64 kind].toArray 212 (0,0)) :: (B1 ++ (B2 ++ (B3 ++ (B4 ++ (B5 ++ (B6 ++ []))))))) w' z' B'/\uv br c kind s z' B' v) = RR;generalize hLL:(br,.cells [v1,v2,v3,v4,v5,v6,.int .i64 kind].toArray 212 (0,0)) :: (B1 ++ (B2 ++ (B3 ++ (B4 ++ (B5 ++ (B6 ++ [])))))) = LL at hRR;have hS0:Res w z LL w z ((br,.cells [v1,v2,v3,v4,v5,v6,.int .i64 kind].toArray 212 (0,0)) :: (B1 ++ (B2 ++ (B3 ++ (B4 ++ (B5 ++ (B6 ++ []))))))):=by rw [<- hLL]; exact hS
 have hN:∀ z' w' vs (L':Bl),dH c kind s = none->Res w z LL w' z' ((br,.cells vs 212 (0,0)) :: L')->RR (.bool false) w':=fun z' w' vs L' h k=>by
  rw [<- hRR];refine ⟨z',_,k.sublist (sublist_append_left [_] L'),?_⟩;unfold uv;rw [h];exact ⟨rfl,_,rfl⟩
 have hY:∀ z' w' B' c' k',dH c kind s = some (c',k')->ReadC br z' c' k' B'->Res w z LL w' z' B'->RR (.bool true) w':=fun z' w' B' c' k' h h2 k=>by
  rw [<- hRR];refine ⟨z',_,k,?_⟩;unfold uv;rw [h];exact ⟨rfl,h2⟩
 clear hS hRR hLL;refine ap (yc hs) ?_;rintro z1 w1 wv hz1 hS1 hW
 clear hS0;have hlm:dH c kind s = match dY s with
   | none=>none
   | some []=>none
   | some (x :: rest)=>
    if cc x < kind \/ x.lit = true then none else
    if cc x = 0 then match rest with
     | [y]=>if y.lit = true/\eW y.s = s then some ({ c with consts:=c.consts ++ [y.s] },0) else none
     | _=>none
    else if cc x = 1 then match dg rest with
     | some t=>if ep t = s then some ({ c with tmpls:=c.tmpls ++ [t] },1) else none
     | none=>none
    else if cc x = 2 then match eP rest with
     | some t=>if fI t = s then some ({ c with lists:=c.lists ++ [t] },2) else none
     | none=>none
    else if cc x = 3 then match rest with
     | [y,u]=>match fG y with
      | some n=>if u.lit = true/\dd ⟨u.s,n⟩ = s then some ({ c with labels:=c.labels ++ [⟨u.s,n⟩] },3) else none
      | none=>none
     | _=>none
    else if cc x = 4 then match rest with
     | [y]=>if y.lit = false then some ({ c with slots:=c.slots ++ [y.s] },4) else none
     | _=>none
    else match em x.s rest with
     | some i=>if fR i = s then some ({ c with ins:=c.ins ++ [i] },cc x) else none
     | none=>none:=rfl
 cases hwl:dY s with
 | none=>
  rw [hwl] at hW hlm;have hW:wv = .tuple #[.slice none 0 0,.bool false]:=hW;subst hW;(repeat (first | refine aA ?_ | refine ah ?_));exact hN _ _ _ _ hlm (by assumption)
 | some l=>
  rw [hwl] at hW hlm;obtain ⟨hsum,hlen,hne⟩:=uy hwl;obtain ⟨v,rfl,hv⟩:∃ v,wv = .tuple #[v,.bool true]/\SlR El.word z1 v l:=hW;obtain ⟨x,rest,rfl⟩:∃ x rest,l = x :: rest:=by
   cases l with
   | nil=>exact absurd rfl hne
   | cons x rest=>exact ⟨x,rest,rfl⟩
  simp only at hlm;generalize dH c kind s = X at hlm hN hY
  -- the words lie in frozen memory: from here on
  have hz0:=hS1.zle;have hS2:=hS1.self;generalize hL2:(br,Obj.cells [v1,v2,v3,v4,v5,v6,.int .i64 kind].toArray 212 (0,0)) :: (B1 ++ (B2 ++ (B3 ++ (B4 ++ (B5 ++ (B6 ++ [])))))) = LL2 at hS1;have hS3:Res w1 z1 LL2 w1 z1 ((br,Obj.cells [v1,v2,v3,v4,v5,v6,.int .i64 kind].toArray 212 (0,0)) :: (B1 ++ (B2 ++ (B3 ++ (B4 ++ (B5 ++ (B6 ++ []))))))):=by rw [<- hL2]; exact hS2
  replace hN:∀ z' w' vs (L':Bl),X = none->Res w1 z1 LL2 w' z' ((br,.cells vs 212 (0,0)) :: L')->RR (.bool false) w':=fun z' w' vs L' h k=>hN _ _ _ _ h (hS1.comp k)
  replace hY:∀ z' w' B' c' k',X = some (c',k')->ReadC br z' c' k' B'->Res w1 z1 LL2 w' z' B'->RR (.bool true) w':=fun z' w' B' c' k' h h2 k=>hY _ _ _ _ _ h h2 (hS1.comp k)
  clear hS1 hS2 hL2;replace l1:=l1.mono hz0;replace l2:=l2.mono hz0;replace l3:=l3.mono hz0;replace l4:=l4.mono hz0;replace l5:=l5.mono hz0;replace l6:=l6.mono hz0;haveI:Tab z1:=ht.le hz0;haveI:Errs z1:=he.le hz0;obtain ⟨_,av,cap,hvv,hcap,hel⟩:=hv.form
  cases hvv
  obtain ⟨bb,off,_,rfl,rfl,hat⟩:=hel 0 x rfl;have hrest:=SlR.drop (k:=1) (s:=2) hv rfl (by simp);rw [show (x :: rest).drop 1 = rest from rfl] at hrest;simp only [length_cons,Nat.add_sub_cancel] at hrest hcap hlen;simp only [map_cons,sum_cons] at hsum;haveI:InR 0 (((x :: rest).length:Nat):Int):=⟨by decide,by simp⟩
  haveI:InR 1 ((((x :: rest).length:Nat):Int) + 1):=⟨by decide,by simp; omega⟩
  haveI:Fz z1 bb (off + Int.toNat 0 * 2) x.cells:=⟨hat⟩
  (repeat (first | (refine iDr ?_; intro _ _) | refine aA ?_ | refine aK ?_ | refine aj ?_ | refine jO ?_));refine ap xy ?_;rintro z4 w4 kv hz4 hS4 rfl
  clear hS3;haveI:Fz z1 bb (off + Int.toNat 0 * 2) [.string x.s]:=⟨hat.fld (i:=0) rfl rfl⟩
  haveI:Fz z1 bb (off + Int.toNat 0 * 2 + 1) [.bool x.lit]:=⟨hat.fld (i:=1) rfl rfl⟩
  simp only [show Int.toNat 1 = 1 from rfl,length_cons,Nat.add_sub_cancel];generalize (if cap = 1 then off else off + 1 * 2) = off2 at hrest ⊢;(repeat (first | refine aA ?_ | refine aE ?_ | (refine JGB ?_; intro _ _ _ _)));rename_i hS5;clear hS4;have fin:∀ (P:Prop) [Decidable P] c' k' z' w' vs T,X = (if P then some (c',k') else none)->ReadC br z' c' k' ((br,.cells vs 212 (0,0)) :: T)->Res w1 z1 LL2 w' z' ((br,.cells vs 212 (0,0)) :: T)->RR (.bool (decide P)) w':=by
   intro P _ c' k' z' w' vs T h1 h2 h3
   by_cases hP:P
   ·rw [if_pos hP] at h1; rw [decide_eq_true hP]; exact hY _ _ _ _ _ h1 h2 h3
   ·rw [if_neg hP] at h1; rw [decide_eq_false hP]; exact hN _ _ _ _ h1 h3
  have hwz:∀ y ∈ rest,y.s.size <= 1000000:=fun y hy=>by have:=vt (fun y:WordM=>y.s.size) rest y hy; omega
  refine aO (fun hq=>?_) (fun hq=>?_)
  ·refine hN _ _ _ _ ?_ hS5
   rw [hlm,if_pos]
   by_cases h1:cc x < kind
   ·exact .inl h1
   ·rw [decide_eq_false h1] at hq; exact .inr hq
  have hq1:¬ (cc x < kind \/ x.lit = true):=by
   rintro (h1 | h1)
   ·rw [decide_eq_true h1] at hq; cases hq
   ·rw [h1] at hq; cases hd:decide (cc x < kind) <;> rw [hd] at hq <;> cases hq
  rw [if_neg hq1] at hlm;clear hq hq1;(repeat (first | refine aA ?_ | (refine aF ?_; intro _ _)));rename_i hS6;clear hS5;refine aC (fun h0=>?_) (fun h0=>?_)
  ·rw [if_pos h0] at hlm
   rw [h0] at hS6;refine aA ?_;refine aA ?_;intro K0 hK0;refine aU (fun hlen1=>?_) (fun hlen1=>?_)
   ·refine hK0 _ _ fun _=>?_
    refine ah ?_;refine hN _ _ _ _ ?_ hS6;rw [hlm]
    match rest,hlen1 with
    | [],_=>rfl
    | [y],h=>simp at h
    | _ :: _ :: _,_=>rfl
   ·obtain ⟨y,rfl⟩:∃ y,rest = [y]:=by
     match rest,hlen1 with
     | [],h=>simp at h
     | [y],_=>exact ⟨y,rfl⟩
     | _ :: _ :: _,h=>simp at h; omega
    simp only at hlm;have hys:=hwz y mem_cons_self;obtain ⟨cs0,rfl,haty⟩:=hrest.get (i:=0) rfl;haveI:InR 0 (([y].length:Nat):Int):=⟨by decide,by simp⟩
    haveI:Fz z1 bb (off2 + Int.toNat 0 * 2) [.string y.s]:=⟨haty.fld (i:=0) rfl rfl⟩
    haveI:Fz z1 bb (off2 + Int.toNat 0 * 2 + 1) [.bool y.lit]:=⟨haty.fld (i:=1) rfl rfl⟩
    haveI:ky y.s:=⟨hys⟩
    (repeat (first | refine aA ?_ | refine aL ?_));refine hK0 _ _ fun _=>?_
    refine aU (fun hlit=>?_) (fun hlit=>?_)
    ·refine hN _ _ _ _ ?_ hS6
     rw [hlm,if_neg (by rw [hlit]; simp)]
    ·(repeat (first | (refine iDr ?_; intro _ _) | refine aK ?_ | refine aW ?_ | refine bz ?_))
     rename_i hS7;clear hS6;refine fO (e:=9) (size:=1) (xs:=u1) (v:=v1) hS7 o1 (by simp only [room]; omega) (by simp only [room]; omega) (by omega) ?_;intro s8 w8 b8 hS8 happ;(repeat (refine bN ?_));refine happ _ ?_;intro B9 v9 w9 o9 hS9;obtain ⟨a9,k9,rfl,_⟩:=o9.form;clear hS7 hS8 happ;(repeat (first | refine aA ?_ | refine aK ?_ | (refine aF ?_; intro _ _) | (refine aN ?_; intro _ _ _ _) | refine aL ?_));refine fN (out:=[_,_]) [⟨#[116,101,120,116]⟩,aZ y.s] rfl rfl (by omega) (by have:=(kG hys).1; omega) ?_;intro z10 w10 hz10 hS10;refine aA ?_;have hS11:=hS10.keep [.at br,.bl B9,.bl B2,.bl B3,.bl B4,.bl B5,.bl B6];refine fin _ { c with consts:=c.consts ++ [y.s] } 0 _ _ _ _ ?_ ⟨_,_,_,_,_,_,B9,B2,B3,B4,B5,B6,_,u2,u3,u4,u5,u6,rfl,by rw [length_append]; exact o9,(l1.mono (by (repeat (exact Res.zle (by assumption))))).push ⟨rfl,by simp only [big]; omega⟩,o2,l2.mono (by (repeat (exact Res.zle (by assumption)))),o3,l3.mono (by (repeat (exact Res.zle (by assumption)))),o4,l4.mono (by (repeat (exact Res.zle (by assumption)))),o5,l5.mono (by (repeat (exact Res.zle (by assumption)))),o6,l6.mono (by (repeat (exact Res.zle (by assumption))))⟩ hS11;rw [hlm,hlit];simp only [true_and]
     rfl
  rw [if_neg h0] at hlm;(repeat (refine aA ?_));refine aC (fun h1=>?_) (fun h1=>?_)
  ·rw [if_pos h1] at hlm
   rw [h1] at hS6;haveI:Errs _:=(inferInstance:Errs z1).le (show Le z1 _ from hS6.zle);refine ap (xU (hrest.mono (by (repeat (exact Res.zle (by assumption))))) (by omega) hwz) ?_;rintro z8 w8 tv hz8 hS8 hT
   haveI:Tab z8:=(inferInstance:Tab z1).le hS8.zle;clear hS6
   cases hw:dg rest with
   | none=>
    rw [hw] at hT hlm;have hT:tv = .tuple #[.slice none 0 0,.bool false]:=hT;subst hT;(repeat (first | refine aA ?_ | refine aE ?_));refine cb hS8 o2 (by simp only [room]; omega) (by simp only [room]; omega) (by omega) ?_;intro B9 v9 w9 o9 hS9;obtain ⟨a9,k9,rfl,_⟩:=o9.form;(repeat (first | refine aA ?_ | (refine aF ?_; intro _ _)));rename_i hS10;intro K0 hK0;refine aj ?_;refine hK0 _ _ fun _=>?_
    exact hN _ _ _ [] hlm (hS10.keep [.at br])
   | some tt=>
    rw [hw] at hT hlm;obtain ⟨tv,rfl,hvt⟩:∃ v,tv = .tuple #[v,.bool true]/\SlR El.part z8 v tt:=hT;obtain ⟨at_,ct_,rfl,_⟩:=SlR.form2' hvt;simp only at hlm;(repeat (first | refine aA ?_ | refine aE ?_));refine cb hS8 o2 (by simp only [room]; omega) (by simp only [room]; omega) (by omega) ?_;intro B9 v9 w9 o9 hS9;obtain ⟨a9,k9,rfl,_⟩:=o9.form;(repeat (first | refine aA ?_ | (refine aF ?_; intro _ _)));rename_i hS10;intro K0 hK0;refine ah ?_;have hts:=qp _ _ _ rfl hw;have hlin:=sC (fun p:PartM=>p.text.size) 3 60 tt;refine ap (sB (hvt.mono (by (repeat (exact Le.refl _)))) (by omega) (fun p hp=>⟨(hts.2.2 p hp).1,(hts.2.2 p hp).2,by have:=vt (fun p:PartM=>p.text.size) tt p hp; omega⟩)) ?_;rintro z11 w11 v11 hz11 hS11 rfl
    refine aA ?_;refine hK0 _ _ fun _=>?_
    have hS12:=hS11.keep [.at br,.bl B1,.bl B9,.bl B3,.bl B4,.bl B5,.bl B6];exact fin _ { c with tmpls:=c.tmpls ++ [tt] } 1 z11 w11 _ _ hlm ⟨_,_,_,_,_,_,B1,B9,B3,B4,B5,B6,u1,_,u3,u4,u5,u6,rfl,o1,l1.mono (by (repeat (exact Res.zle (by assumption)))),by rw [length_append]; exact o9,(l2.mono (by (repeat (exact Res.zle (by assumption))))).push ⟨_,rfl,hvt.mono (by (repeat (assumption)))⟩,o3,l3.mono (by (repeat (exact Res.zle (by assumption)))),o4,l4.mono (by (repeat (exact Res.zle (by assumption)))),o5,l5.mono (by (repeat (exact Res.zle (by assumption)))),o6,l6.mono (by (repeat (exact Res.zle (by assumption))))⟩ hS12
  rw [if_neg h1] at hlm;(repeat (refine aA ?_));refine aC (fun h2=>?_) (fun h2=>?_)
  ·rw [if_pos h2] at hlm
   rw [h2] at hS6;refine ap (xu (hrest.mono (by (repeat (exact Res.zle (by assumption))))) (by omega) hwz) ?_;rintro z8 w8 tv hz8 hS8 hT
   haveI:Tab z8:=(inferInstance:Tab z1).le hS8.zle;clear hS6
   cases hw:eP rest with
   | none=>
    rw [hw] at hT hlm;have hT:tv = .tuple #[.slice none 0 0,.bool false]:=hT;subst hT;(repeat (first | refine aA ?_ | refine aE ?_));refine cb hS8 o3 (by simp only [room]; omega) (by simp only [room]; omega) (by omega) ?_;intro B9 v9 w9 o9 hS9;obtain ⟨a9,k9,rfl,_⟩:=o9.form;(repeat (first | refine aA ?_ | (refine aF ?_; intro _ _)));rename_i hS10;intro K0 hK0;refine aj ?_;refine hK0 _ _ fun _=>?_
    exact hN _ _ _ [] hlm (hS10.keep [.at br])
   | some tt=>
    rw [hw] at hT hlm;obtain ⟨tv,rfl,hvt⟩:∃ v,tv = .tuple #[v,.bool true]/\SlR El.item z8 v tt:=hT;obtain ⟨at_,ct_,rfl,_⟩:=SlR.form2' hvt;simp only at hlm;(repeat (first | refine aA ?_ | refine aE ?_));refine cb hS8 o3 (by simp only [room]; omega) (by simp only [room]; omega) (by omega) ?_;intro B9 v9 w9 o9 hS9;obtain ⟨a9,k9,rfl,_⟩:=o9.form;(repeat (first | refine aA ?_ | (refine aF ?_; intro _ _)));rename_i hS10;intro K0 hK0;refine ah ?_;have hts:=rJ _ _ hw;have hlin:=sC (fun p:ItemM=>p.name.size) 1 10 tt;simp only [Nat.one_mul] at hlin;refine ap (si (hvt.mono (by (repeat (exact Le.refl _)))) (by omega)) ?_;rintro z11 w11 v11 hz11 hS11 rfl
    refine aA ?_;refine hK0 _ _ fun _=>?_
    have hS12:=hS11.keep [.at br,.bl B1,.bl B2,.bl B9,.bl B4,.bl B5,.bl B6];exact fin _ { c with lists:=c.lists ++ [tt] } 2 z11 w11 _ _ hlm ⟨_,_,_,_,_,_,B1,B2,B9,B4,B5,B6,u1,u2,_,u4,u5,u6,rfl,o1,l1.mono (by (repeat (exact Res.zle (by assumption)))),o2,l2.mono (by (repeat (exact Res.zle (by assumption)))),by rw [length_append]; exact o9,(l3.mono (by (repeat (exact Res.zle (by assumption))))).push ⟨_,rfl,hvt.mono (by (repeat (assumption)))⟩,o4,l4.mono (by (repeat (exact Res.zle (by assumption)))),o5,l5.mono (by (repeat (exact Res.zle (by assumption)))),o6,l6.mono (by (repeat (exact Res.zle (by assumption))))⟩ hS12
  rw [if_neg h2] at hlm;(repeat (refine aA ?_));refine aC (fun h3=>?_) (fun h3=>?_)
  ·rw [if_pos h3] at hlm
   rw [h3] at hS6;refine aA ?_;refine aA ?_;intro K0 hK0;refine aU (fun hlen1=>?_) (fun hlen1=>?_)
   ·refine hK0 _ _ fun _=>?_
    refine ah ?_;refine hN _ _ _ _ ?_ hS6;rw [hlm]
    match rest,hlen1 with
    | [],_=>rfl
    | [_],_=>rfl
    | [_,_],h=>simp at h
    | _ :: _ :: _ :: _,_=>rfl
   ·obtain ⟨y,u,rfl⟩:∃ y u,rest = [y,u]:=by
     match rest,hlen1 with
     | [],h=>simp at h
     | [_],h=>simp at h
     | [y,u],_=>exact ⟨y,u,rfl⟩
     | _ :: _ :: _ :: _,h=>simp at h; omega
    simp only at hlm;have hys:=hwz y mem_cons_self;have hus:=hwz u (mem_cons_of_mem _ mem_cons_self);obtain ⟨_,rfl,haty⟩:=hrest.get (i:=0) rfl;obtain ⟨_,rfl,hatu⟩:=hrest.get (i:=1) rfl;haveI:InR 0 (([y,u].length:Nat):Int):=⟨by decide,by simp⟩
    haveI:InR 1 (([y,u].length:Nat):Int):=⟨by decide,by simp⟩
    haveI:Fz z1 bb (off2 + Int.toNat 0 * 2) y.cells:=⟨haty⟩
    haveI:Fz z1 bb (off2 + Int.toNat 1 * 2) [.string u.s]:=⟨hatu.fld (i:=0) rfl rfl⟩
    haveI:Fz z1 bb (off2 + Int.toNat 1 * 2 + 1) [.bool u.lit]:=⟨hatu.fld (i:=1) rfl rfl⟩
    (repeat (first | refine aA ?_ | refine aL ?_));refine hK0 _ _ fun _=>?_
    clear hK0;refine aU (fun hlit=>?_) (fun hlit=>?_)
    ·refine hN _ _ _ _ ?_ hS6
     rw [hlm]
     cases fG y with
     | none=>rfl
     | some n=>simp only; rw [if_neg (by rw [hlit]; simp)]
    ·haveI:Errs _:=(inferInstance:Errs z1).le (show Le z1 _ from hS6.zle)
     (repeat (first | refine aA ?_ | refine bV ?_));refine ap (kW hys) ?_;rintro z8 w8 v8 hz8 hS8 ⟨n,rfl,hn⟩
     haveI:Tab z8:=(inferInstance:Tab z1).le hS8.zle;clear hS6;(repeat (first | refine aA ?_ | refine aL ?_));refine ak ?_;intro bt w9 hbt hS9;refine aF ?_;intro w10 hS10;clear hS8 hS9;(repeat (first | (refine iDr ?_; intro _ _) | refine aK ?_ | refine aW ?_ | refine aq ?_));rename_i hS11;clear hS10;refine fO (e:=54) (size:=2) (xs:=u4) (v:=v4) hS11 o4 (by simp only [room]; omega) (by simp only [room]; omega) (by omega) ?_;intro s12 w12 b12 hS12 happ;(repeat (refine bN ?_));refine happ _ ?_;intro B9 v9 w13 o9 hS13;obtain ⟨a9,k9,rfl,_⟩:=o9.form;clear hS11 hS12 happ;(repeat (first | refine aK ?_ | (refine aF ?_; intro _ _)));rename_i hS14;clear hS13;intro K1 hK1
     cases hnum:fG y with
     | none=>
      rw [hnum] at hlm;refine aj ?_;refine hK1 _ _ fun _=>?_
      exact hN _ _ _ [] hlm (hS14.keep [.at br])
     | some n'=>
      rw [hnum] at hlm;have:=hn n' hnum;subst this;refine ah ?_;(repeat (refine ae ?_));refine ap (mP (s:=⟨u.s,n⟩) (oX hnum) hus) ?_;rintro z15 w15 v15 hz15 hS15 rfl
      refine aA ?_;refine hK1 _ _ fun _=>?_
      have hS16:=hS15.keep [.at br,.bl B1,.bl B2,.bl B3,.bl B9,.bl B5,.bl B6];refine fin _ { c with labels:=c.labels ++ [⟨u.s,n⟩] } 3 z15 w15 _ _ ?_ ⟨_,_,_,_,_,_,B1,B2,B3,B9,B5,B6,u1,u2,u3,_,u5,u6,rfl,o1,l1.mono (by (repeat (exact Res.zle (by assumption)))),o2,l2.mono (by (repeat (exact Res.zle (by assumption)))),o3,l3.mono (by (repeat (exact Res.zle (by assumption)))),by rw [length_append]; exact o9,(l4.mono (by (repeat (exact Res.zle (by assumption))))).push ⟨rfl,by show u.s.size <= big; simp only [big]; omega⟩,o5,l5.mono (by (repeat (exact Res.zle (by assumption)))),o6,l6.mono (by (repeat (exact Res.zle (by assumption))))⟩ hS16;rw [hlm,hlit];simp only [true_and]
  rw [if_neg h3] at hlm;(repeat (refine aA ?_));refine aC (fun h4=>?_) (fun h4=>?_)
  ·rw [if_pos h4] at hlm
   rw [h4] at hS6;refine aA ?_;refine aA ?_;intro K0 hK0;refine aU (fun hlen1=>?_) (fun hlen1=>?_)
   ·refine hK0 _ _ fun _=>?_
    refine ah ?_;refine hN _ _ _ _ ?_ hS6;rw [hlm]
    match rest,hlen1 with
    | [],_=>rfl
    | [y],h=>simp at h
    | _ :: _ :: _,_=>rfl
   ·obtain ⟨y,rfl⟩:∃ y,rest = [y]:=by
     match rest,hlen1 with
     | [],h=>simp at h
     | [y],_=>exact ⟨y,rfl⟩
     | _ :: _ :: _,h=>simp at h; omega
    simp only at hlm;have hys:=hwz y mem_cons_self;obtain ⟨cs0,rfl,haty⟩:=hrest.get (i:=0) rfl;haveI:InR 0 (([y].length:Nat):Int):=⟨by decide,by simp⟩
    haveI:Fz z1 bb (off2 + Int.toNat 0 * 2) [.string y.s]:=⟨haty.fld (i:=0) rfl rfl⟩
    haveI:Fz z1 bb (off2 + Int.toNat 0 * 2 + 1) [.bool y.lit]:=⟨haty.fld (i:=1) rfl rfl⟩
    (repeat (first | refine aA ?_ | refine aL ?_));refine hK0 _ _ fun _=>?_
    clear hK0;refine aO (fun hlit=>?_) (fun hlit=>?_)
    ·refine hN _ _ _ _ ?_ hS6
     rw [hlm,if_neg (by rw [hlit]; simp)]
    ·(repeat (first | (refine iDr ?_; intro _ _) | refine aK ?_ | refine aW ?_ | refine bz ?_))
     rename_i hS7;clear hS6;refine fO (e:=9) (size:=1) (xs:=u5) (v:=v5) hS7 o5 (by simp only [room]; omega) (by simp only [room]; omega) (by omega) ?_;intro s8 w8 b8 hS8 happ;(repeat (refine bN ?_));refine happ _ ?_;intro B9 v9 w9 o9 hS9;obtain ⟨a9,k9,rfl,_⟩:=o9.form;clear hS7 hS8 happ;(repeat (first | refine aK ?_ | (refine aF ?_; intro _ _)));rename_i hS10;have hS11:=hS10.keep [.at br,.bl B1,.bl B2,.bl B3,.bl B4,.bl B9,.bl B6];refine hY _ _ _ { c with slots:=c.slots ++ [y.s] } 4 ?_ ⟨_,_,_,_,_,_,B1,B2,B3,B4,B9,B6,u1,u2,u3,u4,_,u6,rfl,o1,l1.mono (by (repeat (exact Res.zle (by assumption)))),o2,l2.mono (by (repeat (exact Res.zle (by assumption)))),o3,l3.mono (by (repeat (exact Res.zle (by assumption)))),o4,l4.mono (by (repeat (exact Res.zle (by assumption)))),by rw [length_append]; exact o9,(l5.mono (by (repeat (exact Res.zle (by assumption))))).push ⟨rfl,by simp only [big]; omega⟩,o6,l6.mono (by (repeat (exact Res.zle (by assumption))))⟩ hS11;rw [hlm,if_pos hlit]
  rw [if_neg h4] at hlm;(repeat (first | refine aA ?_ | refine aL ?_));refine ap (AA (he:=(inferInstance:Errs z1).le hS6.zle) (hrest.mono (by (repeat (exact Res.zle (by assumption))))) (by omega) hwz) ?_;rintro z8 w8 v8 hz8 hS8 rfl
  haveI:Tab z8:=(inferInstance:Tab z1).le hS8.zle;clear hS6
  cases hw:em x.s rest with
  | none=>
   rw [hw] at hlm;simp only [uP];(repeat (refine aA ?_));refine ak ?_;intro bt w9 hbt hS9;refine aF ?_;intro w10 hS10;clear hS8 hS9;(repeat (first | (refine iDr ?_; intro _ _) | refine aK ?_ | refine aW ?_ | refine aq ?_));rename_i hS11;clear hS10;refine fO (e:=38) (size:=4) (xs:=u6) (v:=v6) hS11 o6 (by simp only [room]; omega) (by simp only [room]; omega) (by omega) ?_;intro s12 w12 b12 hS12 happ;(repeat (refine bN ?_));refine happ _ ?_;intro B9 v9 w13 o9 hS13;obtain ⟨a9,k9,rfl,_⟩:=o9.form;clear hS11 hS12 happ;(repeat (first | refine aK ?_ | (refine aF ?_; intro _ _)));rename_i hS14;intro K1 hK1;refine aj ?_;refine hK1 _ _ fun _=>?_
   exact hN _ _ _ [] hlm (hS14.keep [.at br])
  | some i=>
   rw [hw] at hlm;simp only at hlm;obtain ⟨i1,i2,i3⟩:=yE hw;simp only [uP];(repeat (refine aA ?_));refine ak ?_;intro bt w9 hbt hS9;refine aF ?_;intro w10 hS10;clear hS8 hS9;(repeat (first | (refine iDr ?_; intro _ _) | refine aK ?_ | refine aW ?_ | refine aq ?_));rename_i hS11;clear hS10;refine fO (e:=38) (size:=4) (xs:=u6) (v:=v6) hS11 o6 (by simp only [room]; omega) (by simp only [room]; omega) (by omega) ?_;intro s12 w12 b12 hS12 happ;(repeat (refine bN ?_));refine happ _ ?_;intro B9 v9 w13 o9 hS13;obtain ⟨a9,k9,rfl,_⟩:=o9.form;clear hS11 hS12 happ;(repeat (first | refine aK ?_ | (refine aF ?_; intro _ _)));rename_i hS14;clear hS13;intro K1 hK1;refine ah ?_;(repeat (refine ae ?_));refine ap (pp (i:=i) i1 i2 i3) ?_;rintro z15 w15 v15 hz15 hS15 rfl
   refine aA ?_;refine hK1 _ _ fun _=>?_
   have hS16:=hS15.keep [.at br,.bl B1,.bl B2,.bl B3,.bl B4,.bl B5,.bl B9];exact fin _ { c with ins:=c.ins ++ [i] } (cc x) z15 w15 _ _ hlm ⟨_,_,_,_,_,_,B1,B2,B3,B4,B5,B9,u1,u2,u3,u4,u5,_,rfl,o1,l1.mono (by (repeat (exact Res.zle (by assumption)))),o2,l2.mono (by (repeat (exact Res.zle (by assumption)))),o3,l3.mono (by (repeat (exact Res.zle (by assumption)))),o4,l4.mono (by (repeat (exact Res.zle (by assumption)))),o5,l5.mono (by (repeat (exact Res.zle (by assumption)))),by rw [length_append]; exact o9,(l6.mono (by (repeat (exact Res.zle (by assumption))))).push rfl⟩ hS16)
end
section
theorem Bk {s:ByteArray} {c:UInt8}:((bytes s).dropWhile (· ≠ c) = []/\∃ r,oU s c = .tuple #[.string ⟨((bytes s).takeWhile (· ≠ c)).toArray⟩,r,.bool false]) \/
  ((bytes s).dropWhile (· ≠ c) ≠ []/\oU s c = .tuple #[.string ⟨((bytes s).takeWhile (· ≠ c)).toArray⟩,.string ⟨(((bytes s).dropWhile (· ≠ c)).drop 1).toArray⟩,.bool true]):=by
 have hidx:cj s c = eo (· == c) (bytes s):=rfl;unfold eo at hidx;have htw:∀ (l:List UInt8),match l.findIdx? (· == c) with | some k=>l.takeWhile (· ≠ c) = l.take k/\l.dropWhile (· ≠ c) = l.drop k/\l.drop k ≠ [] | none=>l.takeWhile (· ≠ c) = l/\l.dropWhile (· ≠ c) = []:=by
  intro l
  induction l with
  | nil=>exact ⟨rfl,rfl⟩
  | cons y l ih=>
   rw [findIdx?_cons,takeWhile_cons,dropWhile_cons]
   by_cases hy:y = c
   ·subst hy; simp
   ·have h1:(y == c) = false:=by simp [hy]
    rw [h1];simp only [Bool.false_eq_true,if_false,ne_eq,hy,not_false_eq_true,decide_true,if_true]
    revert ih
    cases l.findIdx? (· == c) with
    | none=>intro ih; exact ⟨congrArg _ ih.1,ih.2⟩
    | some k=>intro ih; exact ⟨congrArg _ ih.1,ih.2.1,ih.2.2⟩
 have h:=htw (bytes s)
 cases hf:(bytes s).findIdx? (· == c) with
 | none=>
  rw [hf] at hidx h;simp only at hidx h;refine .inl ⟨h.2,.string ⟨#[]⟩,?_⟩;unfold oU;rw [if_neg (by rw [hidx]; decide),h.1]
 | some k=>
  rw [hf] at hidx h;simp only at hidx h;refine .inr ⟨by rw [h.2.1]; exact h.2.2,?_⟩;unfold oU;rw [if_pos (by rw [hidx]; omega),h.1,h.2.1,hidx,Int.toNat_natCast,drop_drop,mX];have:s.extract 0 k = ⟨((bytes s).take k).toArray⟩:=by
   apply ByteArray.ext
   apply Array.toList_inj.1
   have:=bB s 0 k;rw [toList_toArray];simp
  rw [this]
def jU:Nat->aH->Int->Nat->List UInt8->Except Nat aH
 | 0,_,_,n,_=>.error n
 | f + 1,c,kind,n,s=>
  if s = [] then .ok c else
  if s.dropWhile (· ≠ 10) = [] then .error n else
  match dH c kind ⟨(s.takeWhile (· ≠ 10)).toArray⟩ with
  | none=>.error n
  | some (c',k')=>jU f c' k' (n + 1) ((s.dropWhile (· ≠ 10)).drop 1)
def es (s:ByteArray):aH × Int × Int:=
 if 400000 < s.size then (dU,0,3) else match jU (s.size + 1) dU 0 0 (bytes s) with
  | .error n=>(dU,((n:Nat):Int),2)
  | .ok c=>if (ag c).1 = 0 then (c,0,0) else (dU,0,(ag c).1)
theorem rO {c c':aH} {kind k':Int} {s:ByteArray} {n:Nat} (h:dH c kind s = some (c',k')) (hc:FewC c n):FewC c' (n + 1):=by
 obtain ⟨h1,h2,h3,h4,h5,h6⟩:=hc;unfold dH at h
 split at h
 ·cases h
 ·cases h
 ·repeat' (split at h)
  all_goals cases h
  all_goals (refine ⟨?_,?_,?_,?_,?_,?_⟩ <;> (simp only [length_append,length_cons,length_nil]; omega))
theorem ReadC.code {w0 w:World} {z0 z:Z} {B0 B L:Bl} {br:Nat} {c:aH} {kind:Int} (hS:Res w0 z0 B0 w z (B ++ L)) (h:ReadC br z c kind B) (hc:FewC c 1000000) :
  ∃ z' v1 v2 v3 v4 v5 v6,Le z z'/\Res w0 z0 B0 w z' ((br,.cells [v1,v2,v3,v4,v5,v6,.int .i64 kind].toArray 212 (0,0)) :: L)/\CodeR z' (.agg [v1,v2,v3,v4,v5,v6].toArray) c:=by
 obtain ⟨v1,v2,v3,v4,v5,v6,B1,B2,B3,B4,B5,B6,u1,u2,u3,u4,u5,u6,rfl,o1,l1,o2,l2,o3,l3,o4,l4,o5,l5,o6,l6⟩:=h;obtain ⟨c1,c2,c3,c4,c5,c6⟩:=hc;simp only [cons_append,append_assoc,nil_append] at hS;obtain ⟨z1,hz1,hS1,g1⟩:=Res.freezeL (E:=El.str) (e:=9) (xs:=c.consts) (hS.bring B1) o1 l1 (by simp only [big]; omega);obtain ⟨z2,hz2,hS2,g2⟩:=Res.freezeL (E:=(El.sl El.part)) (e:=93) (xs:=c.tmpls) (hS1.bring B2) o2 (l2.mono (by (repeat (assumption)))) (by simp only [big]; omega);obtain ⟨z3,hz3,hS3,g3⟩:=Res.freezeL (E:=(El.sl El.item)) (e:=96) (xs:=c.lists) (hS2.bring B3) o3 (l3.mono (by (repeat (first | assumption | refine Le.trans ?_ (by assumption:Le _ _))))) (by simp only [big]; omega);obtain ⟨z4,hz4,hS4,g4⟩:=Res.freezeL (E:=El.spot) (e:=54) (xs:=c.labels) (hS3.bring B4) o4 (l4.mono (by (repeat (first | assumption | refine Le.trans ?_ (by assumption:Le _ _))))) (by simp only [big]; omega);obtain ⟨z5,hz5,hS5,g5⟩:=Res.freezeL (E:=El.str) (e:=9) (xs:=c.slots) (hS4.bring B5) o5 (l5.mono (by (repeat (first | assumption | refine Le.trans ?_ (by assumption:Le _ _))))) (by simp only [big]; omega);obtain ⟨z6,hz6,hS6,g6⟩:=Res.freezeL (E:=El.ins) (e:=38) (xs:=c.ins) (hS5.bring B6) o6 (l6.mono (by (repeat (first | assumption | refine Le.trans ?_ (by assumption:Le _ _))))) (by simp only [big]; omega);exact ⟨z6,v1,v2,v3,v4,v5,v6,by (repeat (first | assumption | refine Le.trans ?_ (by assumption:Le _ _))),hS6,_,_,_,_,_,_,rfl,g1.mono (by (repeat (first | assumption | refine Le.trans ?_ (by assumption:Le _ _)))),g2.mono (by (repeat (first | assumption | refine Le.trans ?_ (by assumption:Le _ _)))),g3.mono (by (repeat (first | assumption | refine Le.trans ?_ (by assumption:Le _ _)))),g4.mono (by (repeat (first | assumption | refine Le.trans ?_ (by assumption:Le _ _)))),g5.mono (by (repeat (assumption))),g6⟩
theorem Au {z:Z} {w:World} {s:ByteArray} [ht:Tab z] [he:Errs z] (hs:s.size <= 1000000):Fn1 42 #[.string s] z w fun z' r=>∃ v1 v2 v3 v4 v5 v6,CodeR z' (.agg [v1,v2,v3,v4,v5,v6].toArray) (es s).1/\r = .tuple #[.agg [v1,v2,v3,v4,v5,v6].toArray,.int .i64 (es s).2.1,.int .i64 (es s).2.2]:=Fn1.intro fun hS=>en42 (by
 unfold vc42;generalize hRR:(fun (v:Value) (w':World)=>∃ z' L',Res w z [] w' z' L'/\∃ v1 v2 v3 v4 v5 v6,CodeR z' (.agg [v1,v2,v3,v4,v5,v6].toArray) (es s).1/\v = .tuple #[.agg [v1,v2,v3,v4,v5,v6].toArray,.int .i64 (es s).2.1,.int .i64 (es s).2.2]) = RR;have hR:∀ z' w' L' v1 v2 v3 v4 v5 v6 c p e,Res w z [] w' z' L'->es s = (c,p,e)->CodeR z' (.agg [v1,v2,v3,v4,v5,v6].toArray) c->RR (.tuple #[.agg [v1,v2,v3,v4,v5,v6].toArray,.int .i64 p,.int .i64 e]) w':=fun z' w' L' v1 v2 v3 v4 v5 v6 c p e k h hc=>by rw [<- hRR,h]; exact ⟨_,_,k,_,_,_,_,_,_,hc,rfl⟩
 clear hRR;have hno:∀ z,CodeR z (.agg [aJ,aJ,aJ,aJ,aJ,aJ].toArray) dU:=fun z=>⟨_,_,_,_,_,_,rfl,SlR.nil,SlR.nil,SlR.nil,SlR.nil,SlR.nil,SlR.nil⟩
 refine ak ?_;intro b2 w1 hb2 hS1;clear hS;refine aA ?_;refine aA ?_;refine aC (fun h=>?_) (fun h=>?_)
 ·(repeat (first | refine aA ?_ | (refine aF ?_; intro _ _) | refine aq ?_))
  exact hR _ _ _ _ _ _ _ _ _ _ _ _ (by assumption) (by unfold es; rw [if_pos (by omega)]) (hno _)
 have hro:es s = match jU (s.size + 1) dU 0 0 (bytes s) with
  | .error n=>(dU,((n:Nat):Int),2)
  | .ok c=>if (ag c).1 = 0 then (c,0,0) else (dU,0,(ag c).1):=by unfold es; rw [if_neg (by omega)]
 refine ak ?_;intro br w2 hbr hS2;clear hS1;have hB0:ReadC br z dU 0 [(br,.cells [aJ,aJ,aJ,aJ,aJ,aJ,.int .i64 0].toArray 212 (0,0))]:=⟨_,_,_,_,_,_,[],[],[],[],[],[],[],[],[],[],[],[],rfl,OwnSl.nil,Lsl.nil,OwnSl.nil,Lsl.nil,OwnSl.nil,Lsl.nil,OwnSl.nil,Lsl.nil,OwnSl.nil,Lsl.nil,OwnSl.nil,Lsl.nil⟩
 generalize hX:jU (s.size + 1) dU 0 0 (bytes s) = X at hro;refine ee (fun (p:aH × Int × Nat × ByteArray × Nat) x y w'=>x = .string p.2.2.2.1/\y = .int .i64 (p.2.2.1:Nat)/\FewC p.1 p.2.2.1/\p.2.2.1 + p.2.2.2.1.size <= s.size/\p.2.2.2.1.size < p.2.2.2.2/\X = jU p.2.2.2.2 p.1 p.2.1 p.2.2.1 (bytes p.2.2.2.1)/\∃ B' z',Le z z'/\ReadC br z' p.1 p.2.1 B'/\Res w z [] w' z' (B' ++ [(b2,.cells [aJ,aJ,aJ,aJ,aJ,aJ].toArray 28 (0,0))])) (fun p=>p.2.2.2.2) (dU,0,0,s,s.size + 1)
  ⟨rfl,rfl,⟨Nat.le_refl _,Nat.le_refl _,Nat.le_refl _,Nat.le_refl _,Nat.le_refl _,Nat.le_refl _⟩,by simp,by simp,hX.symm,_,z,Le.refl _,hB0,hS2⟩ ?_
 rintro I M ⟨c,kind,n,t,f⟩ x y w3 m ⟨rfl,rfl,hfew,hnt,hf,hx,B',z3,hz3,hB,hS3⟩ back
 simp only at hfew hnt hf hx hB;dsimp only;clear hS2 hB0 hX;obtain ⟨f,rfl⟩:∃ f',f = f' + 1:=⟨f - 1,by omega⟩
 rw [jU] at hx;have htl:t.size = (bytes t).length:=aI t;refine aA ?_;refine aU (fun hne=>?_) (fun hne=>?_)
 ·have hne:¬ bytes t = []:=fun e=>by rw [decide_eq_true (str_nil.2 e)] at hne; cases hne
  rw [if_neg hne] at hx;haveI:Sm t:=⟨by simp only [big]; omega⟩
  haveI:InI ((n:Int) + 1):=⟨by omega⟩
  have bad:X = .error n->∀ z' w' (L':Bl),Res w z [] w' z' (L' ++ [(b2,.cells [aJ,aJ,aJ,aJ,aJ,aJ].toArray 28 (0,0))])->V (bd 28 #[]) w' fun t33 w=>U (st 28 (.pointer (some ⟨b2,0,none⟩)) t33) w fun w=>CW 28 (.pointer (some ⟨b2,0,none⟩)) w fun t1002=>RR (.tuple #[t1002,.int .i64 (n:Nat),.int .i64 2]) w:=by
   intro h z' w' L' hS';have hS'':=hS'.keep [.at b2];clear hS' hS3;(repeat (first | refine aA ?_ | (refine aF ?_; intro _ _) | refine aq ?_));exact hR _ _ _ _ _ _ _ _ _ _ _ _ (by assumption) (by rw [hro,h]) (hno _)
  refine aN ?_;intro z4 w4 hz4 hS4;clear hS3;have htw:((bytes t).takeWhile (· ≠ 10)).length <= t.size:=by rw [htl]; exact (takeWhile_sublist _).length_le
  have hdw:((bytes t).takeWhile (· ≠ 10)).length + ((bytes t).dropWhile (· ≠ 10)).length = t.size:=by rw [<- length_append,takeWhile_append_dropWhile,htl]
  rcases Bk (s:=t) (c:=10) with ⟨hd,r,hc⟩ | ⟨hd,hc⟩
  ·rw [hc]
   rw [if_pos hd] at hx;(repeat (refine aA ?_));intro K0 hK0;refine bC rfl ?_;refine hK0 _ _ fun _=>?_
   refine bC rfl ?_;exact bad hx _ _ _ (by assumption)
  ·rw [hc]
   rw [if_neg hd] at hx;generalize hone:(⟨((bytes t).takeWhile (· ≠ 10)).toArray⟩:ByteArray) = one at hx ⊢;have hos:one.size <= 1000000:=by
    rw [<- hone];have:(⟨((bytes t).takeWhile (· ≠ 10)).toArray⟩:ByteArray).size = ((bytes t).takeWhile (· ≠ 10)).length:=rfl;omega
   have hdp:0 < ((bytes t).dropWhile (· ≠ 10)).length:=List.length_pos_iff.2 hd;refine aA ?_;refine aA ?_;refine aA ?_;refine aA ?_;intro K0 hK0;refine dk rfl ?_;haveI:Tab z4:=ht.le hS4.zle;haveI:Errs z4:=he.le hS4.zle;have hB4:ReadC br z4 c kind B':=by
    obtain ⟨v1,v2,v3,v4,v5,v6,B1,B2,B3,B4,B5,B6,u1,u2,u3,u4,u5,u6,e,o1,l1,o2,l2,o3,l3,o4,l4,o5,l5,o6,l6⟩:=hB;exact ⟨v1,v2,v3,v4,v5,v6,B1,B2,B3,B4,B5,B6,u1,u2,u3,u4,u5,u6,e,o1,l1.mono hz4,o2,l2.mono hz4,o3,l3.mono hz4,o4,l4.mono hz4,o5,l5.mono hz4,o6,l6.mono hz4⟩
   have hfew6:FewC c 1000000:=by
    obtain ⟨h1,h2,h3,h4,h5,h6⟩:=hfew;exact ⟨by omega,by omega,by omega,by omega,by omega,by omega⟩
   refine bO (B:=B') (F:=[(b2,.cells [aJ,aJ,aJ,aJ,aJ,aJ].toArray 28 (0,0))]) hS4 (tm hB4 hos hfew6) (by simp) ?_;rintro z5 B5 w5 v5 hz5 hS5 hline
   clear hS4;unfold uv at hline
   cases hlm:dH c kind one with
   | none=>
    rw [hlm] at hline hx;obtain ⟨rfl,vs,rfl⟩:=hline;refine aA ?_;refine hK0 _ _ fun _=>?_
    refine bC rfl ?_;exact bad hx _ _ _ hS5
   | some ck=>
    obtain ⟨c',k'⟩:=ck;rw [hlm] at hline hx;obtain ⟨rfl,hB5⟩:=hline;simp only at hx;refine aA ?_;refine hK0 _ _ fun _=>?_
    refine dk rfl ?_;refine aA ?_;have hrs:(⟨(((bytes t).dropWhile (· ≠ 10)).drop 1).toArray⟩:ByteArray).size = (((bytes t).dropWhile (· ≠ 10)).drop 1).length:=rfl;refine back (c',k',n + 1,⟨(((bytes t).dropWhile (· ≠ 10)).drop 1).toArray⟩,f) _ _ _ ⟨rfl,by simp,rO hlm hfew,?_,?_,?_,B5,z5,by (repeat (exact Res.zle (by assumption))),hB5,hS5⟩ (by show f < f + 1; omega)
    ·show n + 1 + (⟨(((bytes t).dropWhile (· ≠ 10)).drop 1).toArray⟩:ByteArray).size <= s.size
     rw [hrs,length_drop]; omega
    ·show (⟨(((bytes t).dropWhile (· ≠ 10)).drop 1).toArray⟩:ByteArray).size < f
     rw [hrs,length_drop]; omega
    ·show X = jU f c' k' (n + 1) (bytes ⟨(((bytes t).dropWhile (· ≠ 10)).drop 1).toArray⟩)
     rw [hx,show bytes (⟨(((bytes t).dropWhile (· ≠ 10)).drop 1).toArray⟩:ByteArray) = ((bytes t).dropWhile (· ≠ 10)).drop 1 from toList_toArray]
 ·have hne:bytes t = []:=str_nil.1 (of_decide_eq_true hne)
  rw [if_pos hne] at hx;rw [hx] at hro;simp only at hro;have hfew6:FewC c 1000000:=by
   obtain ⟨h1,h2,h3,h4,h5,h6⟩:=hfew;exact ⟨by omega,by omega,by omega,by omega,by omega,by omega⟩
  obtain ⟨z4,v1,v2,v3,v4,v5,v6,hz4,hS4,hcode⟩:=hB.code hS3 hfew6;obtain ⟨a1,a2,a3,a4,a5,a6,k1,k2,k3,k4,k5,k6,hvv,_⟩:=hcode.form
  cases hvv
  clear hS3 back;(repeat (first | refine aA ?_ | refine ae ?_));refine ap (mj (hcode.mono (by (repeat (exact Le.refl _))))) ?_;rintro z5 w5 v5 hz5 hS5 rfl
  clear hS4;(repeat (refine aA ?_));refine aU (fun hck=>?_) (fun hck=>?_)
  ·have hck:¬ (ag c).1 = 0:=by simpa using hck
   rw [if_neg hck] at hro;(repeat (first | refine aA ?_ | (refine aF ?_; intro _ _) | refine aq ?_));exact hR _ _ _ _ _ _ _ _ _ _ _ _ (by assumption) hro (hno _)
  ·have hck:(ag c).1 = 0:=by simpa using hck
   rw [if_pos hck] at hro;(repeat (first | refine aA ?_ | refine ae ?_ | (refine aF ?_; intro _ _) | refine aq ?_));exact hR _ _ _ _ _ _ _ _ _ _ _ _ (by assumption) hro (hcode.mono (by (repeat (assumption)))))
end
section
theorem fg {k:Nat} (h:k < 10):(UInt8.ofNat (48 + k)).toNat = 48 + k:=by
 rw [UInt8.toNat_ofNat']; omega
theorem mZ (u:Nat):∀ c ∈ Lib.decDigits u,48 <= c.toNat/\c.toNat <= 57:=by
 induction u using Nat.strongRecOn with
 | _ u ih=>
  intro c hc;rw [Lib.decDigits] at hc
  split at hc
  ·rename_i h
   rw [mem_singleton] at hc;rw [hc,fg h];omega
  ·rename_i h
   rcases List.mem_append.1 hc with hc | hc
   ·exact ih _ (by omega) c hc
   ·rw [mem_singleton] at hc
    rw [hc,fg (by omega)];omega
theorem lV (u:Nat):Lib.decDigits u ≠ []:=by
 rw [Lib.decDigits]
 split
 ·simp
 ·simp
theorem od:∀ (k u:Nat),u < 10 ^ (k + 1)->(Lib.decDigits u).length <= k + 1
 | k,u,h=>by
  rw [Lib.decDigits]
  split
  ·simp
  ·rename_i h2
   match k,h with
   | 0,h=>simp at h; omega
   | k + 1,h=>
    have:=od k (u / 10) (by rw [Nat.pow_succ] at h; omega);rw [length_append];simp only [length_cons,length_nil];omega
theorem zu (n:Int):∀ c ∈ Lib.itoa n,c = 45 \/ (48 <= c.toNat/\c.toNat <= 57):=by
 intro c hc;unfold Lib.itoa at hc
 split at hc
 ·rcases List.mem_cons.1 hc with rfl | hc
  ·exact .inl rfl
  ·exact .inr (mZ _ c hc)
 ·exact .inr (mZ _ c hc)
theorem sq (n:Int):Lib.itoa n ≠ []:=by
 unfold Lib.itoa
 split
 ·simp
 ·exact lV _
def Dv (c:UInt8):Prop:=c ≠ 32/\c ≠ 10
theorem rT (n:Int):∀ c ∈ Lib.itoa n,Dv c/\c ≠ 34:=by
 intro c hc
 rcases zu n c hc with rfl | h
 ·exact ⟨⟨by decide,by decide⟩,by decide⟩
 ·refine ⟨⟨?_,?_⟩,?_⟩ <;> rintro rfl <;> revert h <;> decide
theorem iG (n:Int):bytes (ac n) = Lib.itoa n:=rfl
end
section
theorem eZ {a b:ByteArray} (h:bytes a = bytes b):a = b:=ByteArray.ext (Array.toList_inj.1 h)
theorem bE (l:List UInt8):bytes ⟨l.toArray⟩ = l:=by simp
theorem bh (a b:ByteArray):bytes (a ++ b) = bytes a ++ bytes b:=by simp
def fK (l:List UInt8):List UInt8:=l.flatMap fun c=>if c = 34 then [34,34] else [c]
theorem kU:∀ (l:List UInt8) (k:Nat),l.count 34 <= k->eD 34 [34,34] k l = fK l
 | [],k,_=>by cases k <;> rfl
 | x :: l,0,h=>by
  have h0:(x :: l).count 34 = 0:=by omega
  rw [fX];have h1:x ≠ 34:=by rintro rfl; rw [count_cons_self] at h0; omega
  have h2:l.count 34 <= 0:=by rw [count_cons_of_ne h1] at h0; omega
  have h3:=kU l 0 h2;rw [fX] at h3;rw [fK,flatMap_cons,if_neg h1,<- fK,<- h3]
  rfl
 | x :: l,k + 1,h=>by
  rw [eD,fK,flatMap_cons,<- fK]
  by_cases h1:x = 34
  ·subst h1
   rw [count_cons_self] at h;rw [if_pos rfl,if_pos rfl,kU l k (by omega)]
  ·rw [count_cons_of_ne h1] at h
   rw [if_neg h1,if_neg h1,kU l (k + 1) h]
   rfl
theorem de (s:ByteArray):bytes (aZ s) = 34 :: (fK (bytes s) ++ [34]):=by
 have e:gN s 34 (-1) = (bytes s).count 34:=by unfold gN; rw [if_pos (by omega)]
 rw [aZ,bh,bh,fT,bE,e];have:=kU (bytes s) _ (Nat.le_refl _)
 show ([34] ++ eD 34 [34,34] ((bytes s).count 34) (bytes s)) ++ [34] = _
 rw [this];simp
theorem mI:∀ (l acc r:List UInt8),r.head? ≠ some 34->cK false acc (fK l ++ 34 :: r) = some (acc ++ l,r)
 | [],acc,r,h=>by
  show cK false acc (34 :: r) = _
  rw [cK,if_pos rfl]
  cases r with
  | nil=>simp [cK]
  | cons c r=>rw [cK,if_neg (by simpa using h)]; simp
 | x :: l,acc,r,h=>by
  rw [fK,flatMap_cons,<- fK]
  by_cases h1:x = 34
  ·subst h1
   rw [if_pos rfl]
   show cK false acc (34 :: 34 :: (fK l ++ 34 :: r)) = _
   rw [cK,if_pos rfl,cK,if_pos rfl,mI l _ r h];simp
  ·rw [if_neg h1]
   show cK false acc (x :: (fK l ++ 34 :: r)) = _
   rw [cK,if_neg h1,mI l _ r h];simp
theorem kR {l r:List UInt8} {c:UInt8} (h:c ∉ l) (hr:r = [] \/ r.head? = some c):(l ++ r).takeWhile (· ≠ c) = l/\(l ++ r).dropWhile (· ≠ c) = r:=by
 induction l with
 | nil=>
  rcases hr with rfl | hr
  ·exact ⟨rfl,rfl⟩
  ·cases r with
   | nil=>simp at hr
   | cons d r=>
    simp only [head?_cons,Option.some.injEq] at hr;subst hr;simp
 | cons x l ih=>
  have h1:x ≠ c:=fun e=>h (e ▸ mem_cons_self)
  have h2:=ih fun hm=>h (mem_cons_of_mem _ hm)
  rw [cons_append,takeWhile_cons,dropWhile_cons];simp only [ne_eq,h1,not_false_eq_true,decide_true,if_true];exact ⟨by rw [<- h2.1]; rw [h2.1,h2.1],h2.2⟩
def prW (w:WordM):ByteArray:=if w.lit = true then aZ w.s else w.s
def fW (b:Bool) (w:WordM):Prop:=if w.lit = true then b = false else bytes w.s ≠ []/\32 ∉ bytes w.s/\(b = true \/ (bytes w.s).head? ≠ some 34)
theorem Ca {b:Bool} {w:WordM} (h:fW b w):bytes (prW w) ≠ []:=by
 unfold prW;unfold fW at h
 split
 ·rw [de]; simp
 ·rename_i h1
  rw [if_neg h1] at h;exact h.1
theorem qm {b:Bool} {w:WordM} {r:List UInt8} (h:fW b w) (hr:r = [] \/ r.head? = some 32):jb b (bytes (prW w) ++ r) = some (w,r):=by
 obtain ⟨s,lit⟩:=w;unfold fW at h
 cases lit with
 | true=>
  simp only [if_true] at h;subst h;simp only [prW,if_true];rw [de];unfold jb;rw [if_pos ⟨by simp,rfl⟩];have e:(34 :: (fK (bytes s) ++ [34]) ++ r).drop 1 = fK (bytes s) ++ 34 :: r:=by simp
  rw [e,mI _ _ _ (by rcases hr with rfl | hr <;> simp_all)];simp only;rw [if_neg (by rintro ⟨h1,h2⟩; rcases hr with hr | hr <;> contradiction)]
  rfl
 | false=>
  simp only [Bool.false_eq_true,if_false] at h;obtain ⟨h1,h2,h3⟩:=h;simp only [prW,Bool.false_eq_true,if_false];unfold jb;have ht:=kR h2 hr;rw [if_neg,ht.1,ht.2,if_neg h1];rintro ⟨e1,e2⟩
  rcases h3 with h3 | h3
  ·rw [h3] at e2; cases e2
  ·cases hb:bytes s with
   | nil=>exact h1 hb
   | cons c l=>
    rw [hb] at e1 h3;exact h3 (by simpa using e1)
theorem uM (x y:ByteArray) (r:List ByteArray):bW (x :: y :: r) = bytes x ++ 32 :: bW (y :: r):=by
 simp [bW]
theorem yA (x:ByteArray):bW [x] = bytes x:=by simp [bW]
theorem nd {b:Bool}:∀ (ws:List WordM) (f:Nat),ws ≠ []->(∀ w ∈ ws,fW b w)->(bW (ws.map prW)).length < f->ce b f (bW (ws.map prW)) = some ws
 | [],f,h,_,_=>absurd rfl h
 | [w],f,_,h,hf=>by
  obtain ⟨f,rfl⟩:∃ g,f = g + 1:=⟨f - 1,by omega⟩
  rw [map_cons,map_nil,yA,ce];have:=qm (r:=[]) (h w mem_cons_self) (.inl rfl);rw [append_nil] at this;rw [this];simp
 | w :: v :: ws,f,_,h,hf=>by
  obtain ⟨f,rfl⟩:∃ g,f = g + 1:=⟨f - 1,by omega⟩
  rw [map_cons,map_cons,uM] at hf ⊢;rw [ce,qm (h w mem_cons_self) (.inr rfl)];simp only;have hne:bW (prW v :: ws.map prW) ≠ []:=by
   have:=Ca (h v (mem_cons_of_mem _ mem_cons_self));rw [bW];intro e;exact this (List.append_eq_nil_iff.1 e).1
  rw [if_neg (by simp)];simp only [drop_succ_cons,drop_zero];rw [if_neg hne];have:=nd (v :: ws) f (by simp) (fun x hx=>h x (mem_cons_of_mem _ hx)) (by
   rw [length_append,length_cons] at hf;rw [map_cons];omega)
  rw [map_cons] at this;rw [this]
  rfl
theorem jI {s:ByteArray} {ws:List WordM} (h0:ws ≠ []) (h:∀ w ∈ ws,fW (fV s) w) (hs:bytes s = bW (ws.map prW)):dY s = some ws:=by
 unfold dY;rw [hs];exact nd ws _ h0 h (by rw [aI,hs]; omega)
theorem rB {s p:ByteArray} {q:List UInt8} (hp:bytes p = q ++ [32]) (hq:32 ∉ q) (h:fy s p = true):(bytes s).takeWhile (· ≠ 32) = q:=by
 unfold fy at h
 cases hd:decide ((s.size:Int) ≥ p.size) with
 | false=>rw [hd] at h; cases h
 | true=>
  rw [hd,cond_true] at h;have h1:s.extract 0 p.size = p:=of_decide_eq_true h;have h2:=bB s 0 p.size;rw [h1,hp,drop_zero] at h2;have h3:bytes s = q ++ 32 :: (bytes s).drop (p.size - 0):=by
   conv=>lhs; rw [<- take_append_drop (p.size - 0) (bytes s),<- h2]
   simp
  rw [h3];exact (kR hq (.inr rfl)).1
theorem wQ {s:ByteArray} (h:fV s = true):(bytes s).takeWhile (· ≠ 32) = [108,105,115,116] \/ (bytes s).takeWhile (· ≠ 32) = [110,97,109,101]:=by
 unfold fV at h
 cases hl:fy s rM with
 | true=>exact .inl (rB rfl (by decide) hl)
 | false=>
  rw [hl,cond_false] at h;exact .inr (rB rfl (by decide) h)
theorem uo {s:ByteArray} {w:WordM} {ws:List WordM} (hw:bytes w.s ≠ []/\32 ∉ bytes w.s) (hl:w.lit = false) (hs:bytes s = bW ((w :: ws).map prW)) (h1:bytes w.s ≠ [108,105,115,116]) (h2:bytes w.s ≠ [110,97,109,101]):fV s = false:=by
 cases hb:fV s with
 | false=>rfl
 | true=>
  have:=wQ hb;have e:(bytes s).takeWhile (· ≠ 32) = bytes w.s:=by
   rw [hs,map_cons,bW];have:prW w = w.s:=by unfold prW; rw [hl]; rfl
   rw [this];refine (kR hw.2 ?_).1
   cases ws with
   | nil=>exact .inl rfl
   | cons v ws=>exact .inr (by simp)
  rw [e] at this
  rcases this with h | h <;> contradiction
end
section
def wY (s:ByteArray):Prop:=10 ∉ bytes s
theorem mC (n:Int) (b:Bool):fW b ⟨ac n,false⟩/\wY (ac n):=by
 have h:=rT n;refine ⟨?_,fun h10=>(h 10 h10).1.2 rfl⟩;unfold fW;rw [if_neg Bool.false_ne_true];refine ⟨sq n,fun h32=>(h 32 h32).1.1 rfl,.inr fun e=>?_⟩
 cases hb:Lib.itoa n with
 | nil=>exact sq n hb
 | cons c l=>
  rw [iG,hb] at e;rw [hb] at h;simp only [head?_cons,Option.some.injEq] at e;exact (h c mem_cons_self).2 e
theorem pb (s:ByteArray):fW false ⟨s,true⟩:=by unfold fW; rw [if_pos rfl]
theorem Bd {l:List UInt8} (h:10 ∉ l):10 ∉ fK l:=by
 intro h10;obtain ⟨c,hc,h2⟩:=List.mem_flatMap.1 h10
 split at h2
 ·revert h2; decide
 ·rw [mem_singleton] at h2; exact h (h2 ▸ hc)
theorem CZ {w:WordM} (h:wY w.s):wY (prW w):=by
 unfold prW
 split
 ·unfold wY
  rw [de];intro h10
  rcases List.mem_cons.1 h10 with h1 | h1
  ·revert h1; decide
  ·rcases List.mem_append.1 h1 with h1 | h1
   ·exact Bd h h1
   ·revert h1; decide
 ·exact h
theorem zt:∀ {l:List ByteArray},(∀ x ∈ l,wY x)->10 ∉ bW l
 | [],_=>by simp [bW]
 | x :: l,h=>by
  rw [bW];intro h10
  rcases List.mem_append.1 h10 with h1 | h1
  ·exact h x mem_cons_self h1
  ·obtain ⟨y,hy,h2⟩:=List.mem_flatMap.1 h1
   rcases List.mem_cons.1 h2 with h2 | h2
   ·revert h2; decide
   ·exact h y (mem_cons_of_mem _ hy) h2
def ba (ws:List WordM):List UInt8:=ws.flatMap fun w=>32 :: bytes (prW w)
theorem lP (w:WordM) (ws:List WordM):bW ((w :: ws).map prW) = bytes (prW w) ++ ba ws:=by
 rw [map_cons,bW,flatMap_map]; rfl
theorem rH (a b:List WordM):ba (a ++ b) = ba a ++ ba b:=flatMap_append
theorem fb {α:Type} {f:ByteArray->α->ByteArray} {g:α->List WordM} (h:∀ s x,bytes (f s x) = bytes s ++ ba (g x)):∀ (l:List α) (s:ByteArray),bytes (l.foldl f s) = bytes s ++ ba (l.flatMap g)
 | [],s=>by simp [ba]
 | x :: l,s=>by rw [foldl_cons,fb h l,h,flatMap_cons,rH,append_assoc]
structure LineOf (s:ByteArray) (ws:List WordM):Prop where
 eq:bytes s = bW (ws.map prW)
 ne:ws ≠ []
 good:∀ w ∈ ws,fW (fV s) w/\wY w.s
theorem LineOf.words {s:ByteArray} {ws:List WordM} (h:LineOf s ws):dY s = some ws:=jI h.ne (fun w hw=>(h.good w hw).1) h.eq
theorem LineOf.nl {s:ByteArray} {ws:List WordM} (h:LineOf s ws):10 ∉ bytes s:=by
 rw [h.eq];refine zt fun x hx=>?_
 obtain ⟨w,hw,rfl⟩:=List.mem_map.1 hx;exact CZ (h.good w hw).2
theorem LineOf.plain {s t:ByteArray} {ws:List WordM} (he:bytes s = bytes t ++ ba ws) (h1:bytes t ≠ []/\32 ∉ bytes t) (h2:(bytes t).head? ≠ some 34) (h3:10 ∉ bytes t) (h4:bytes t ≠ [108,105,115,116]) (h5:bytes t ≠ [110,97,109,101]) (hw:∀ w ∈ ws,fW false w/\wY w.s):LineOf s (⟨t,false⟩ :: ws):=by
 have he':bytes s = bW ((⟨t,false⟩ :: ws:List WordM).map prW):=by rw [lP,he]; rfl
 have hb:fV s = false:=uo (w:=⟨t,false⟩) h1 rfl he' h4 h5;refine ⟨he',by simp,?_⟩;rw [hb];intro w hm
 rcases List.mem_cons.1 hm with rfl | hm
 ·refine ⟨?_,h3⟩
  unfold fW;rw [if_neg Bool.false_ne_true];exact ⟨h1.1,h1.2,.inr h2⟩
 ·exact hw w hm
end
section
theorem bS (l:List ByteArray):bytes (joinB l) = bW l:=by rw [joinB,bE]
def oe (s:ByteArray):List WordM:=[⟨s,true⟩]
def cz (p:PartM):List WordM:=[⟨ac p.kind,false⟩,⟨p.text,true⟩,⟨ac p.n,false⟩]
def mQ (x:ItemM):ByteArray:=if x.via = true then b1 40 ++ x.name ++ b1 41 else x.name
def fH (x:ItemM):List WordM:=[⟨mQ x,false⟩]
def mM (s:SpotM):List WordM:=[⟨ac s.at_,false⟩,⟨s.name,true⟩]
theorem sd {n:Int} (h1:1 <= n) (h2:n <= 46):(bytes (aG n).name ≠ []/\32 ∉ bytes (aG n).name)/\(bytes (aG n).name).head? ≠ some 34/\10 ∉ bytes (aG n).name/\cH (aG n).name = 5/\dT (aG n).name formL 0 = some n.toNat:=by
 have h:∀ k:Fin 47,0 < k.val->(bytes (aG (k.val:Int)).name ≠ []/\32 ∉ bytes (aG (k.val:Int)).name)/\(bytes (aG (k.val:Int)).name).head? ≠ some 34/\10 ∉ bytes (aG (k.val:Int)).name/\cH (aG (k.val:Int)).name = 5/\dT (aG (k.val:Int)).name formL 0 = some k.val:=by decide +kernel
 have:=h ⟨n.toNat,by omega⟩ (by show 0 < n.toNat; omega);rw [show ((n.toNat:Nat):Int) = n by omega] at this;exact this
def po (i:InsM):List WordM:=(dh i).map fun n=>⟨ac n,false⟩
end
section
theorem wm (s:ByteArray) (d:UInt8):fy s (b1 d) = decide ((bytes s).head? = some d):=by
 unfold fy;have h1:(b1 d).size = 1:=rfl;rw [h1]
 cases hb:bytes s with
 | nil=>
  have:s.size = 0:=by rw [aI,hb]; rfl
  rw [this]
  rfl
 | cons c l=>
  have hsz:s.size = l.length + 1:=by rw [aI,hb]; rfl
  rw [decide_eq_true (by omega:(s.size:Int) ≥ ((1:Nat):Int)),cond_true];have he:bytes (s.extract 0 1) = [c]:=by rw [bB,hb]; rfl
  rw [decide_eq_decide];constructor
  ·intro e
   rw [e] at he;have:[d] = [c]:=he;rw [(List.cons.inj this).1]; rfl
  ·intro e
   simp only [head?_cons,Option.some.injEq] at e;exact eZ (by rw [he,e])
theorem rX (i:InsM):(dh i).getD 0 0 = i.a/\(dh i).getD 1 0 = i.b/\(dh i).getD 2 0 = i.c/\(dh i).length <= 3:=by
 obtain ⟨op,a,b,c⟩:=i;simp only [dh,dZ,getD_cons_zero,getD_cons_succ];(repeat' split) <;> simp_all
end
section
end
section
theorem lU {c d:UInt8} {r:List UInt8}:∀ {l:List UInt8},l.dropWhile (· ≠ c) = d :: r->d = c
 | [],h=>by cases h
 | x :: l,h=>by
  rw [dropWhile_cons] at h
  split at h
  ·exact lU h
  ·rename_i hx
   rw [<- (List.cons.inj h).1]
   simpa using hx
theorem qn {b:Bool} {s r:List UInt8} {t:WordM} (h:jb b s = some (t,r)) (hl:t.lit = false):s = bytes t.s ++ r/\(r = [] \/ r.head? = some 32):=by
 unfold jb at h
 split at h
 ·split at h
  ·cases h
  ·split at h
   ·cases h
   ·simp only [Option.some.injEq,Prod.mk.injEq] at h
    obtain ⟨rfl,_⟩:=h
    cases hl
 ·split at h
  ·cases h
  ·simp only [Option.some.injEq,Prod.mk.injEq] at h
   obtain ⟨rfl,rfl⟩:=h;refine ⟨by rw [bE,takeWhile_append_dropWhile],?_⟩
   cases hd:s.dropWhile (· ≠ 32) with
   | nil=>exact .inl rfl
   | cons c l=>
    right
    rw [lU hd]; rfl
theorem xP {b:Bool} {f:Nat} {s:List UInt8} {x y:WordM} (h:ce b f s = some [x,y]) (hx:x.lit = false) (hy:y.lit = false):s = bytes x.s ++ 32 :: bytes y.s:=by
 cases f with
 | zero=>cases h
 | succ f=>
  rw [ce] at h
  split at h
  ·cases h
  ·rename_i t r ht
   split at h
   ·simp at h
   ·rename_i hr
    split at h
    ·cases h
    ·cases hw:ce b f (r.drop 1) with
     | none=>rw [hw] at h; cases h
     | some l=>
      rw [hw] at h;simp only [Option.map_some,Option.some.injEq,List.cons.injEq] at h;obtain ⟨rfl,rfl⟩:=h;obtain ⟨e1,e2⟩:=qn ht hx
      rcases e2 with e2 | e2
      ·exact absurd e2 hr
      ·cases r with
       | nil=>cases e2
       | cons c r=>
        simp only [head?_cons,Option.some.injEq] at e2;subst e2;simp only [drop_succ_cons,drop_zero] at hw;rw [e1]
        congr 2
        cases f with
        | zero=>cases hw
        | succ f=>
         rw [ce] at hw
         split at hw
         ·cases hw
         ·rename_i t r2 ht2
          split at hw
          ·simp only [Option.some.injEq,List.cons.injEq,and_true] at hw
           subst hw;rename_i hr2;subst hr2;have:=(qn ht2 hy).1;rw [append_nil] at this;exact this
          ·split at hw
           ·cases hw
           ·cases hw2:ce b f (r2.drop 1) with
            | none=>rw [hw2] at hw; cases hw
            | some l=>
             rw [hw2] at hw;simp only [Option.map_some,Option.some.injEq,List.cons.injEq] at hw;obtain ⟨rfl,rfl⟩:=hw;exact absurd hw2 (by
              cases f with
              | zero=>simp [ce]
              | succ f=>
               rw [ce]
               split
               ·simp
               ·split
                ·simp
                ·split
                 ·simp
                 ·cases ce b f _ <;> simp)
end
section
end
section
end
section
end
section
end
section
abbrev St:=Except Nat Nat
def Ag {α:Type} (x:α × St) (y:Except Nat (α × Nat)):Prop:=match y with
 | .ok (a,q)=>x = (a,.ok q)
 | .error e=>x.2 = .error e
structure Rd {α:Type} (f:St->α × St) (g:Nat->Except Nat (α × Nat)):Prop where
 ok:∀ p,Ag (f (.ok p)) (g p)
 er:∀ e,(f (.error e)).2 = .error e
theorem Rd.bind {α β:Type} {f:St->α × St} {g:Nat->Except Nat (α × Nat)} {f2:α->St->β × St} {g2:α->Nat->Except Nat (β × Nat)} (h:Rd f g) (h2:∀ a,Rd (f2 a) (g2 a)):Rd (fun st=>f2 (f st).1 (f st).2) (fun p=>tH (g p) g2) where
 ok:=fun p=>by
  have:=h.ok p;unfold tH
  cases hg:g p with
  | error e=>rw [hg] at this; simp only [Ag] at this ⊢; rw [this]; exact (h2 _).er e
  | ok x=>obtain ⟨a,q⟩:=x; rw [hg] at this; simp only [Ag] at this; simp only [this]; exact (h2 a).ok q
 er:=fun e=>by rw [h.er e]; exact (h2 _).er e
theorem Rd.pure {α:Type} (a:α):Rd (fun st=>(a,st)) (fun p=>.ok (a,p)):=⟨fun p=>rfl,fun e=>rfl⟩
end
section
section
variable {w0 w:World} {z0 z:Z} {B0 L F:Bl} {K:RP} {bs cap:Nat} {ab:Option Addr} {b:List UInt8} {p bad:Int} {st:St}
end
theorem An {z:Z} {w:World} {v:Value} {l:List UInt8} (hv:SlR El.byte z v l) (hs:Sub z w):(cv 55 9 v).run Tryz.prog w = .ok (.string ⟨l.toArray⟩) w:=by
 obtain ⟨_,a,cap,rfl,_,hel⟩:=hv.form
 cases a with
 | none=>
  have:l = []:=by
   cases l with
   | nil=>rfl
   | cons x l=>obtain ⟨_,_,_,h,_⟩:=hel 0 x rfl; cases h
  subst this;exact run_convert_bytes_nil (P:=Tryz.prog) w 55 5 (by kernel_rfl) (by kernel_rfl) 0 cap 9 (by kernel_rfl)
 | some a=>
  refine run_convert_bytes_back (P:=Tryz.prog) w 55 9 5 a cap l (by kernel_rfl) (by kernel_rfl) (by kernel_rfl) fun j hj=>?_
  obtain ⟨bb,off,cs,h1,h2,h3⟩:=hel j _ (getElem?_eq_getElem hj)
  cases h1
  cases h2
  have:=(h3.world hs).cell (j:=0) (v:=.int .u8 (l[j].toNat:Int)) rfl;rw [dj]
  simpa [El.byte] using this
end
section
def byV (l:List UInt8):List Value:=l.flatMap fun x=>[.int .u8 x.toNat]
theorem tF (l m:List UInt8):byV (l ++ m) = byV l ++ byV m:=flatMap_append
def OwnBs (B:Bl) (v:Value) (l:List UInt8):Prop:=OwnSl 5 1 B v l.length (byV l)
theorem OwnBs.push {w0 w:World} {z0 z:Z} {B0 B L R:Bl} {K:RP} {v:Value} {l:List UInt8} {c:UInt8} (hS:Res w0 z0 B0 w z L) (ho:OwnBs B v l) [gb:BringL L B R] (hl:l.length <= 100000000)
  (hk:∀ B' v' w',OwnBs B' v' (l ++ [c])->Res w0 z0 B0 w' z (B' ++ R)->K v' w'):V (bs 55 1 #[(0,.int .u8 c.toNat)]) w fun s w=>V (Builtin.append_ #[55,55] 55 #[v,s]) w K:=
 cb (us:=[.int .u8 c.toNat]) hS ho (by simp only [room]; omega) (by simp only [room]; omega) (by omega) fun B' v' w' h1 h2=>hk B' v' w' (by
  unfold OwnBs;rw [tF,length_append];exact h1) h2
theorem OwnBs.str {w0 w:World} {z0 z:Z} {B0 B L:Bl} {K:RP} {v:Value} {l:List UInt8} (hS:Res w0 z0 B0 w z (B ++ L)) (ho:OwnBs B v l) (hl:l.length <= big)
  (hk:∀ z',Le z z'->Res w0 z0 B0 w z' L->K (mz l) w):V (cv 55 9 v) w K:=by
 obtain ⟨z',hz,hR,hv⟩:=Res.freezeSl (E:=El.byte) hS ho hl (fun _=>rfl) fun z x _=>rfl
 exact ⟨_,_,An hv hR.sub,hk z' hz hR⟩
theorem uc (l:List UInt8):(fK l).length <= 2 * l.length:=by
 induction l with
 | nil=>simp [fK]
 | cons x l ih=>
  rw [fK,flatMap_cons,<- fK,length_append,length_cons]
  split <;> simp <;> omega
theorem yM (l:List UInt8) (k:Nat) (c:UInt8) (h:l[k]? = some c):fK (l.take (k + 1)) = fK (l.take k) ++ if c = 34 then [34,34] else [c]:=by
 obtain ⟨hk,e⟩:=List.getElem?_eq_some_iff.1 h;rw [take_succ_eq_append_getElem hk,fK,flatMap_append,e];simp [fK]
instance {s:ByteArray} [h:ky s]:Pu 188 #[.string s] (.string (aZ s)):=⟨fun z w=>Fn1.intro fun hS=>en188 (by
 have hs:=h.h;have hsz:=aI s;unfold vc188;refine je (n:=1) (parts:=[(0,.int .u8 34)]) rfl (by omega) ?_;intro b1 w1 hb1 hS1;have ho1:OwnBs [(b1,.cells ([Value.int .u8 34] ++ []).toArray 5 (0,0))] (.slice (some ⟨b1,0,none⟩) 1 1) [34]:=⟨rfl,.inr ⟨b1,1,[],rfl,rfl,Nat.le_refl _,by simp only [maxLen]; omega,rfl⟩⟩
 refine ee (fun (k:Nat) x y w'=>y = .int .i64 k/\k <= s.size/\∃ B',OwnBs B' x (34 :: fK ((bytes s).take k))/\Res w z [] w' z B') (fun k=>s.size - k) 0 ⟨rfl,Nat.zero_le _,_,ho1,by simpa using hS1⟩ ?_;rintro I M k x y w2 m ⟨rfl,hk,B2,ho2,hS2⟩ back
 clear hS hS1 ho1;refine aA ?_;refine aA ?_;have hle:=uc ((bytes s).take k);rw [length_take] at hle;refine aC (fun hlt=>?_) (fun hge=>?_)
 ·intro K0 hK0
  have hlt:k < s.size:=by omega
  have hget:(bytes s)[k]? = some ((bytes s)[k]'(by omega)):=getElem?_eq_getElem _;generalize hc:(bytes s)[k]'(by omega) = c at hget;have hbt:=eX hget;have hstep:=yM _ _ _ hget;haveI:dI s (k:Int):=⟨by omega,by omega⟩
  refine aA ?_;rw [hbt];have hS2':Res w z [] w2 z (B2 ++ []):=by simpa using hS2
  refine ho2.push hS2' (by simp only [length_cons]; omega) ?_;intro B3 v3 w3 ho3 hS3;have main:∀ B' v' w',OwnBs B' v' (34 :: fK ((bytes s).take (k + 1)))->Res w z [] w' z (B' ++ [])->K0 [v'] w':=by
   intro B' v' w' ho' hS';refine hK0 _ _ fun _=>?_
   haveI:InI ((k:Int) + 1):=⟨by omega⟩
   refine aA ?_;exact back (k + 1) _ _ _ ⟨by simp,by omega,_,ho',by simpa using hS'⟩ (by omega)
  clear hK0;refine aA ?_;rw [hbt];refine aA ?_;refine aC (fun h34=>?_) (fun h34=>?_)
  ·have h34:c = 34:=u8_eq.1 h34
   subst h34;refine ho3.push (c:=34) hS3 (by simp only [length_cons,length_append,length_nil]; omega) ?_;intro B4 v4 w4 ho4 hS4;exact main _ _ _ (by rw [hstep,if_pos rfl]; simpa using ho4) hS4
  ·have h34:c ≠ 34:=fun e=>h34 (by rw [e]; rfl)
   exact main _ _ _ (by rw [hstep,if_neg h34]; simpa using ho3) hS3
 ·have hk2:k = s.size:=by omega
  subst hk2;rw [hsz,take_length] at ho2;have hS2':Res w z [] w2 z (B2 ++ []):=by simpa using hS2
  have hl2:=uc (bytes s);refine ho2.push (c:=34) hS2' (by simp only [length_cons]; omega) ?_;intro B3 v3 w3 ho3 hS3;refine ho3.str hS3 (by simp only [length_cons,length_append,length_nil,big]; omega) ?_;intro z4 hz4 hS4;refine ⟨_,_,hS4,?_⟩;unfold mz
  congr 1
  exact eZ (by rw [de,bE]; rfl))⟩
instance {z0:Z} {n:Int} [ht:Tab z0] [hn:InI n]:PuZ z0 189 #[.int .i64 n] (.string (ac n)):=⟨fun z w hz=>Fn1.intro fun hS=>en189 (by
 unfold vc189;haveI:Tab z:=ht.le hz;refine cE ?_;intro z2 w2 hz2 hS2;exact ⟨_,_,hS2,rfl⟩)⟩
end
section
theorem Ar {n:Int} (h:cO n = true):(bM n).name = (aG n).name:=by
 have h0:=h;simp only [cO,Bool.and_eq_true,decide_eq_true_eq] at h;have hf:∀ k:Fin 47,(rowL.getD k.val nw).name = (formL.getD k.val noForm).name:=by decide +kernel
 have:=hf ⟨n.toNat,by omega⟩;unfold bM aG;rw [if_pos h0,if_pos h0];exact this
theorem ry (s:ByteArray) (n:Int):s ++ b1 32 ++ ac n = cR s n:=eZ (by
 rw [cR,bS,bh,bh];simp only [bW,flatMap_cons,flatMap_nil,append_nil,append_assoc]
 rfl)
theorem qX {z:Z} {w:World} {i:InsM} [ht:Tab z] (ho:cO i.op = true) (h1:InI i.a) (h2:InI i.b) (h3:InI i.c) :
  Fn1 190 #[i.v] z w fun _ r=>r = .string (fR i):=Fn1.intro fun hS=>en190 (by
 have hnm:=nR i.op;have ho':=ho;simp only [cO,Bool.and_eq_true,decide_eq_true_eq] at ho';unfold vc190;dsimp only [InsM.v,InsM.cells];(repeat (first | refine ae ?_ | (refine aP ?_; intro _ _ _ _) | (refine aF ?_; intro _ _) | (refine aN ?_; intro _ _ _ _)));rename_i bx w1 hbx hS1 z2 w2 hz2 hS2 b3 w3 hb3 hS3 w4 hS4;obtain ⟨zf,hzf,hS5,hat⟩:=hS4.frz b3;clear hS hS1 hS2 hS3 hS4;have hi:∀ n ∈ [i.a,i.b,i.c],InI n:=by simp [h1,h2,h3]
 have hel:∀ j x,[i.a,i.b,i.c][j]? = some x->At zf b3 j [.int .i64 x]:=fun j x hx=>by
  match j,hx with
  | 0,hx=>cases hx; exact hat.fld (i:=0) rfl rfl
  | 1,hx=>cases hx; exact hat.fld (i:=1) rfl rfl
  | 2,hx=>cases hx; exact hat.fld (i:=2) rfl rfl
 generalize hl:[i.a,i.b,i.c] = l at hi hel;have hl3:l.length = 3:=by rw [<- hl]; rfl
 have hT:fR i = (l.take (dZ l 3)).foldl cR (aG i.op).name:=by rw [fR,dh,hl]
 refine bG (fun k v=>v = .int .i64 (k:Nat)/\k <= 3/\dZ l k = dZ l 3) (fun k=>k) 3 ⟨rfl,Nat.le_refl _,rfl⟩ ?_;rintro I M k v w7 z7 m ⟨rfl,hk,hst⟩ hz7 hS7 back
 clear hS5;have hel:∀ j x,l[j]? = some x->At z7 b3 j [.int .i64 x]:=fun j x hx=>(hel j x hx).mono hz7
 refine aA ?_;intro K hK;have main:∀ q:Bool,(q = true ↔ 0 < k/\l.getD (k - 1) 0 = 0)->K [.bool q] w7:=by
  intro q hq;refine hK _ _ fun _=>?_
  clear hK
  cases q with
  | true=>
   obtain ⟨hk0,hk1⟩:=hq.1 rfl;haveI:InI ((k:Int) - 1):=⟨by omega⟩
   refine ah ?_;refine aA ?_;exact back (k - 1) _ _ _ ⟨by congr 1; omega,by omega,by rw [pA hk0 hk1,hst]⟩ (Le.refl _) hS7 (by omega)
  | false=>
   have hs:=nj (l:=l) (k:=k) fun e=>by have:=hq.2 e; cases this
   refine aj ?_;clear back;(repeat (first | (refine iDr ?_; intro _ _) | refine aK ?_ | refine aW ?_));rename_i hS8;refine ap oW ?_;rintro z9 w9 v9 hz9 hS9 ⟨br,rfl,hv⟩
   clear hS7 hS8;haveI:InR i.op (47:Nat):=⟨by omega,by omega⟩
   obtain ⟨cs,hr,hatr⟩:=hv.get (sJ ho)
   cases hr
   have hat0:=hatr.fld (i:=0) rfl rfl;(repeat (first | refine aK ?_ | refine bN ?_));refine fh (by simpa [El.row] using hat0) ?_;rw [Ar ho];refine kN (fun j s x=>x = .int .i64 (j:Nat)/\j <= k/\s = .string ((l.take j).foldl cR (aG i.op).name)) (fun j=>k - j) 0 ⟨rfl,Nat.zero_le _,rfl⟩ ?_;rintro I M j u v w10 z10 m ⟨rfl,hj,rfl⟩ hz10 hS10 back
   clear hS9;refine aA ?_;refine aC (fun h=>?_) (fun h=>?_)
   ·have hjl:j < l.length:=by omega
    have hji:=getElem?_eq_getElem hjl;have hat:=hel _ _ hji;haveI i9:InI l[j]:=hi _ (getElem_mem hjl);haveI:InR (j:Int) (3:Nat):=⟨by omega,by omega⟩
    haveI:InI ((j:Int) + 1):=⟨by omega⟩
    haveI:mn (j:Int) 1 j:=⟨by omega,by omega⟩
    have htf:=gW (f:=cR) (s:=(aG i.op).name) hjl;have hlen:=eH (f:=cR) (n:=30) (l.take j) (aG i.op).name fun s x hx=>(fj (hi _ (mem_of_mem_take hx))).2
    rw [length_take,Nat.min_eq_left (by omega)] at hlen;generalize hs:(l.take j).foldl cR (aG i.op).name = s at back hlen htf ⊢;have hts:=dE i9;haveI:Cat s (b1 32):=⟨by have:(b1 32).size = 1:=rfl; omega⟩
    haveI:Cat (s ++ b1 32) (ac l[j]):=⟨by have:(b1 32).size = 1:=rfl; rw [ByteArray.size_append]; omega⟩
    refine aA (v:=.string (s ++ b1 32)) (g:=(inferInstance:Run (bi .add 9 (.string s) (.string (b1 32))) _)) ?_;refine aA ?_;refine bL (by simpa using hat.mono (by (repeat (first | assumption | refine Le.trans ?_ (by assumption:Le _ _))))) ?_;haveI:Tab z10:=Tab.le (z:=z) ‹_› (by (repeat (exact Res.zle (by assumption))));refine cE ?_;intro z11 w11 hz11 hS11;refine aA (v:=.string (s ++ b1 32 ++ ac l[j])) (g:=(inferInstance:Run (bi .add 9 (.string (s ++ b1 32)) (.string (ac l[j]))) _)) ?_;refine aA ?_;exact back (j + 1) _ _ _ _ ⟨by simp,by omega,by rw [htf,ry]⟩ (by (repeat (assumption))) hS11 (by omega)
   ·have hjk:j = k:=by omega
    subst hjk;exact ⟨_,_,hS10,by rw [hT,<- hst,hs]⟩
 clear hK back;refine aC (fun h=>?_) (fun h=>?_)
 ·have hk0:0 < k:=by omega
  have hjl:k - 1 < l.length:=by omega
  have hji:=getElem?_eq_getElem hjl;have hat:=hel _ _ hji;haveI:InI ((k:Int) - 1):=⟨by omega⟩
  haveI:InR ((k:Int) - 1) (3:Nat):=⟨by omega,by omega⟩
  haveI:mn ((k:Int) - 1) 1 (k - 1):=⟨by omega,by omega⟩
  refine aA ?_;refine aA ?_;refine bL (by simpa using hat) ?_;refine aA ?_;refine main _ ?_;rw [decide_eq_true_iff,getD_eq_getElem?_getD,hji];simp [hk0]
 ·exact main false (by simp; omega))
end
section
theorem pX {α:Type} (g:α->List WordM) (l:List α):ba (l.flatMap g) = l.flatMap fun x=>ba (g x):=by
 induction l with
 | nil=>rfl
 | cons x l ih=>rw [flatMap_cons,rH,ih,flatMap_cons]
theorem pc (l:List PartM):bI (ep l) = bytes fu ++ ((l.flatMap fun p=>ba (cz p)) ++ [10]):=by
 rw [bI,ep,fb (g:=cz) fun s x=>by rw [cY,bS]; simp [bW,ba,cz,prW],pX,append_assoc]
 rfl
theorem pd (l:List ItemM):bI (fI l) = bytes fS ++ ((l.flatMap fun p=>ba (fH p)) ++ [10]):=by
 rw [bI,fI,fb (g:=fH) fun s x=>by rw [cL,bS]; simp [bW,ba,fH,prW,mQ],pX,append_assoc]
 rfl
section
variable {w0 w:World} {z0 z:Z} {B0 B L:Bl}
theorem OwnBs.nil:OwnBs [] (.slice none 0 0) []:=OwnSl.nil
theorem OwnBs.add {K:RP} {v:Value} {l:List UInt8} {s:ByteArray} (hS:Res w0 z0 B0 w z (B ++ L)) (ho:OwnBs B v l) (hl:(l ++ bytes s).length <= eL)
  (hk:∀ B' v' w',OwnBs B' v' (l ++ bytes s)->Res w0 z0 B0 w' z (B' ++ L)->K v' w'):V (Builtin.append_ #[55,9] 55 #[v,.string s]) w K:=by
 rw [length_append,<- aI] at hl;simp only [eL] at hl;refine wU (t:=55) (u:=9) (bytes:=1) (by kernel_rfl) hS ho (by simp only [room]; omega) (by simp only [room]; omega) ?_;intro B' v' w' ho' hS';refine hk B' v' w' ?_ hS';unfold OwnBs;have e:Lib.strCells s = byV (bytes s):=by rw [Lib.strCells_eq,<- kI]; rfl
 rw [tF,length_append,<- aI,<- e];exact ho'
theorem OwnBs.add1 {K:RP} {v:Value} {l:List UInt8} {c:UInt8} (hS:Res w0 z0 B0 w z (B ++ L)) (ho:OwnBs B v l) (hl:(l ++ [c]).length <= eL)
  (hk:∀ B' v' w',OwnBs B' v' (l ++ [c])->Res w0 z0 B0 w' z (B' ++ L)->K v' w'):V (bs 55 1 #[(0,.int .u8 c.toNat)]) w fun s w=>V (Builtin.append_ #[55,55] 55 #[v,s]) w K:=by
 rw [length_append] at hl;simp only [eL,length_cons,length_nil] at hl;exact cb (us:=[.int .u8 c.toNat]) hS ho (by simp only [room]; omega) (by simp only [room]; omega) (by omega) fun B' v' w' h1 h2=>hk B' v' w' (by
  unfold OwnBs;rw [tF,length_append];exact h1) h2
theorem kO {α:Type} {xs:List α} {f:α->List UInt8} {total more ys:List UInt8} {v:Value} {body:(LP)->(LN)->Value->Value->World->Nat->Prop} (hS:Res w0 z0 B0 w z (B ++ L)) (ho:OwnBs B v ys) (ht:total = ys ++ (xs.flatMap f ++ more))
  (hs:∀ I M k u w' z' B' us m,k <= xs.length->Le z z'->Res w0 z0 B0 w' z' (B' ++ L)->OwnBs B' u us->total = us ++ ((xs.drop k).flatMap f ++ more) ->
   (∀ (hk:k < xs.length) u'' w'' z'' B'',Le z' z''->Res w0 z0 B0 w'' z'' (B'' ++ L)->OwnBs B'' u'' (us ++ f xs[k])->I [u'',.int .i64 ((k:Int) + 1)] w''/\M [u'',.int .i64 ((k:Int) + 1)] w'' < m)->body I M u (.int .i64 k) w' m) :
  ∃ (I:LP) (M:LN),I [v,.int .i64 0] w/\∀ _:Env,∀ x,∀ y,∀ w,I [x,y] w->∀ m,m = M [x,y] w->body I M x y w m:=
 ee (fun (p:Nat × List UInt8) u x w'=>x = .int .i64 p.1/\p.1 <= xs.length/\total = p.2 ++ ((xs.drop p.1).flatMap f ++ more)/\∃ B' z',Le z z'/\OwnBs B' u p.2/\Res w0 z0 B0 w' z' (B' ++ L)) (fun p=>xs.length - p.1) (0,ys) ⟨rfl,Nat.zero_le _,ht,B,z,Le.refl _,ho,hS⟩ (by
  rintro I M ⟨k,us⟩ u x w' m ⟨rfl,hk,hus,B',z',hz',ho',hS'⟩ back
  refine hs I M k u w' z' B' us m hk hz' hS' ho' hus fun hlt u'' w'' z'' B'' hz'' hS'' ho''=>?_
  refine back (k + 1,us ++ f xs[k]) _ _ _ ⟨by simp,by simp only; omega,?_,B'',z'',hz'.trans hz'',ho'',hS''⟩ (by simp only; omega);simp only at hus ⊢;rw [drop_eq_getElem_cons hlt,flatMap_cons] at hus;rw [hus];simp only [append_assoc])
end
def textS:ByteArray:=⟨#[116,101,120,116,32]⟩
def nameS:ByteArray:=⟨#[110,97,109,101,32]⟩
theorem uH (s:ByteArray):bytes (textS ++ aZ s ++ b1 10) = bI (eW s):=by
 rw [bh,bI,bh,eW,bS];simp only [bW,flatMap_cons,flatMap_nil,append_nil]
 rfl
theorem vo (s:ByteArray):bytes (nameS ++ s ++ b1 10) = bI (km s):=by
 rw [bh,bI,bh,km,bS];simp only [bW,flatMap_cons,flatMap_nil,append_nil]
 rfl
abbrev sp1:ByteArray:=⟨#[32]⟩
theorem xT (p:PartM) (h1:-1000000000 <= p.kind/\p.kind <= 1000000000) (h2:-1000000000 <= p.n/\p.n <= 1000000000) (h3:p.text.size <= 1000000):Cat sp1 (ac p.kind)/\Cat (sp1 ++ ac p.kind) sp1/\Cat (sp1 ++ ac p.kind ++ sp1) (aZ p.text)/\Cat (sp1 ++ ac p.kind ++ sp1 ++ aZ p.text) sp1/\Cat (sp1 ++ ac p.kind ++ sp1 ++ aZ p.text ++ sp1) (ac p.n):=by
 have a:=dE (n:=p.kind) ⟨by omega⟩;have b:=dE (n:=p.n) ⟨by omega⟩;have c:=dc (s:=p.text);have e:sp1.size = 1:=rfl;refine ⟨⟨?_⟩,⟨?_⟩,⟨?_⟩,⟨?_⟩,⟨?_⟩⟩ <;> (try simp only [ByteArray.size_append]) <;> omega
theorem vD (p:PartM):bytes (sp1 ++ ac p.kind ++ sp1 ++ aZ p.text ++ sp1 ++ ac p.n) = ba (cz p):=by
 simp only [bh,ba,cz,prW,flatMap_cons,flatMap_nil,append_nil,append_assoc]
 rfl
abbrev sp2:ByteArray:=⟨#[32,40]⟩
abbrev labelS:ByteArray:=⟨#[108,97,98,101,108,32]⟩
theorem vu (p:SpotM) (h1:0 <= p.at_/\p.at_ < 12000) (h3:p.name.size <= 1000000):Cat labelS (ac p.at_)/\Cat (labelS ++ ac p.at_) sp1/\Cat (labelS ++ ac p.at_ ++ sp1) (aZ p.name)/\Cat (labelS ++ ac p.at_ ++ sp1 ++ aZ p.name) (b1 10):=by
 have a:=dE (n:=p.at_) ⟨by omega⟩;have c:=dc (s:=p.name);have e:sp1.size = 1:=rfl;have e2:labelS.size = 6:=rfl;have e3:(b1 10).size = 1:=rfl;refine ⟨⟨?_⟩,⟨?_⟩,⟨?_⟩,⟨?_⟩⟩ <;> (try simp only [ByteArray.size_append]) <;> omega
theorem uK (p:SpotM):bytes (labelS ++ ac p.at_ ++ sp1 ++ aZ p.name ++ b1 10) = bI (dd p):=by
 rw [bI,dd,bS];simp only [bh,bW,flatMap_cons,flatMap_nil,append_nil,append_assoc]
 rfl
theorem ju {us x more total:List UInt8} (ht:total = us ++ (x ++ more)) (hl:total.length <= eL):(us ++ x).length <= eL:=by
 rw [ht,<- append_assoc,length_append] at hl;omega
theorem vJ {z:Z} {w:World} {v:Value} {c:aH} [ht:Tab z] (hc:CodeR z v c) (hsm:tK c):Fn1 133 #[v] z w fun _ r=>r = mz (ie c):=Fn1.intro fun hS=>en133 (by
 unfold vc133;obtain ⟨a1,a2,a3,a4,a5,a6,k1,k2,k3,k4,k5,k6,rfl,h1,h2,h3,h4,h5,h6⟩:=hc.form;refine aP ?_;intro bc w1 hbc hS1;obtain ⟨zc,hzc,hS2,hatc⟩:=hS1.frz bc;generalize hRR:(fun (v:Value) (w':World)=>∃ z' L',Res w z [] w' z' L'/\v = mz (ie c)) = RR;have hR:∀ z' w' L' v,Res w1 zc [] w' z' L'->v = mz (ie c)->RR v w':=fun z' w' L' v k e=>by rw [<- hRR]; exact ⟨z',L',hS2.comp k,e⟩
 clear hRR;have hS5:=hS2.self;clear hS hS1 hS2;haveI:Fz zc bc 0 [.slice a1 c.consts.length k1]:=⟨hatc.fld (i:=0) rfl rfl⟩
 haveI:Fz zc bc 1 [.slice a2 c.tmpls.length k2]:=⟨hatc.fld (i:=1) rfl rfl⟩
 haveI:Fz zc bc 2 [.slice a3 c.lists.length k3]:=⟨hatc.fld (i:=2) rfl rfl⟩
 haveI:Fz zc bc 3 [.slice a4 c.labels.length k4]:=⟨hatc.fld (i:=3) rfl rfl⟩
 haveI:Fz zc bc 4 [.slice a5 c.slots.length k5]:=⟨hatc.fld (i:=4) rfl rfl⟩
 haveI:Fz zc bc 5 [.slice a6 c.ins.length k6]:=⟨hatc.fld (i:=5) rfl rfl⟩
 haveI:Tab zc:=ht.le hzc;have hlen:=qu hsm;obtain ⟨n1,n2,n3,n4,n5,n6⟩:=hsm.num;generalize htot:ie c = total at hlen hR;have ht0:total = [] ++ ie c:=htot.symm;clear htot;rw [ie] at ht0;refine kO (xs:=c.consts) (B:=[]) (L:=[]) (f:=fun s=>bI (eW s)) hS5 OwnBs.nil ht0 ?_;intro I10 M10 k10 u10 w10 z10 B10 us10 m10 hk10 hz10 hS10 ho10 ht10 back;clear hS5;have hzc10:Le zc z10:=hz10;obtain ⟨_,_,_,e10,_,hel10⟩:=h1.form
 cases e10
 (repeat (first | refine aA ?_ | refine aL ?_));refine aC (fun h=>?_) (fun h=>?_)
 ·have hlt:k10 < c.consts.length:=by omega
  have hi:=getElem?_eq_getElem hlt;have hm:=getElem_mem hlt;have hl1:=cw ht10 hlt;have hpl:=ju hl1 hlen;haveI:InR (k10:Int) (c.consts.length:Nat):=⟨by omega,by omega⟩
  haveI:InI ((k10:Int) + 1):=⟨by omega⟩
  obtain ⟨b,off,cs,rfl,hr,hat⟩:=hel10 _ _ hi;have hatz:=hat.mono (hzc.trans hzc10);obtain ⟨rfl,_⟩:=hr;have hbs:=hsm.consts _ hm;haveI:ky c.consts[k10]:=⟨by omega⟩
  (repeat (first | refine aA ?_ | refine aL ?_));refine bL hatz ?_;refine aN ?_;intro z2 w2 hz2 hS2;clear hS10;have hq:=dc (s:=c.consts[k10]);haveI:Cat textS (aZ c.consts[k10]):=⟨by have:textS.size = 5:=rfl; omega⟩
  haveI:Cat (textS ++ aZ c.consts[k10]) (b1 10):=⟨by have:textS.size = 5:=rfl; have:(b1 10).size = 1:=rfl; rw [ByteArray.size_append]; omega⟩
  refine aA (v:=.string (textS ++ aZ c.consts[k10])) (g:=(inferInstance:Run (bi .add 9 (.string (textS)) (.string (aZ c.consts[k10]))) _)) ?_;refine aA (v:=.string (textS ++ aZ c.consts[k10] ++ b1 10)) (g:=(inferInstance:Run (bi .add 9 (.string (textS ++ aZ c.consts[k10])) (.string (b1 10))) _)) ?_;have he:=uH c.consts[k10];refine OwnBs.add (s:=textS ++ aZ c.consts[k10] ++ b1 10) hS2 ho10 (by rw [he]; exact hpl) ?_;intro B3 v3 w3 ho3 hS3;rw [he] at ho3;refine aA ?_;exact back hlt _ _ _ _ hz2 hS3 ho3
 have hn10:=cy ht10 h;clear back ht10 hel10;refine kO (xs:=c.tmpls) (B:=B10) (L:=[]) (f:=fun s=>bI (ep s)) hS10 ho10 hn10 ?_;intro I20 M20 k20 u20 w20 z20 B20 us20 m20 hk20 hz20 hS20 ho20 ht20 back;clear hS10 ho10 ;have hzc20:Le zc z20:=hzc10.trans hz20;obtain ⟨_,_,_,e20,_,hel20⟩:=h2.form
 cases e20
 (repeat (first | refine aA ?_ | refine aL ?_));refine aC (fun h=>?_) (fun h=>?_)
 ·have hlt:k20 < c.tmpls.length:=by omega
  have hi:=getElem?_eq_getElem hlt;have hm:=getElem_mem hlt;have hl1:=cw ht20 hlt;have hpl:=ju hl1 hlen;haveI:InR (k20:Int) (c.tmpls.length:Nat):=⟨by omega,by omega⟩
  haveI:InI ((k20:Int) + 1):=⟨by omega⟩
  obtain ⟨b,off,cs,rfl,hr,hat⟩:=hel20 _ _ hi;have hatz:=hat.mono (hzc.trans hzc20);obtain ⟨v9,rfl,hv9⟩:=hr;have hbs:=hsm.tmpls _ hm;generalize hl9:c.tmpls[k20] = l9 at hl1 hpl hv9 hbs;obtain ⟨_,a9,cap9,rfl,hcap9,hel9⟩:=hv9.form;rw [pc] at hl1 hpl;rw [<- append_assoc] at hpl;refine OwnBs.add (s:=fu) hS20 ho20 (by rw [length_append] at hpl; omega) ?_;intro B21 v21 w21 ho21 hS21;have hl2:total = (us20 ++ bytes fu) ++ (l9.flatMap (fun p=>ba (cz p)) ++ ([10] ++ ((c.tmpls.drop (k20 + 1)).flatMap (fun s=>bI (ep s)) ++ (c.lists.flatMap (fun l=>bI (fI l)) ++ (c.labels.flatMap (fun s=>bI (dd s)) ++ (c.slots.flatMap (fun s=>bI (km s)) ++ (c.ins.flatMap (fun i=>bI (fR i)) ++ []))))))):=by rw [hl1]; simp only [append_assoc]
  haveI:nb off (Int.toNat (k20:Int) * 1) (off + k20):=⟨by simp⟩
  haveI:Fz zc b (off + k20) [.slice a9 l9.length cap9]:=⟨by have:=hat.mono hzc; simpa [El.sl] using this⟩
  clear hS20 ho20;refine kO (xs:=l9) (B:=B21) (L:=[]) (f:=fun p=>ba (cz p)) hS21 ho21 hl2 ?_;intro I22 M22 k22 u22 w22 z22 B22 us22 m22 hk22 hz22 hS22 ho22 ht22 back2;clear hS21 ho21;(repeat (first | refine aA ?_ | refine aL ?_));refine aC (fun h5=>?_) (fun h5=>?_)
  ·have hlt5:k22 < l9.length:=by omega
   have hi5:=getElem?_eq_getElem hlt5;have hm5:=getElem_mem hlt5;have hl5:=cw ht22 hlt5;have hpl5:=ju hl5 hlen;have hp5:=dB (hbs.2 _ hm5);haveI:InR (k22:Int) (l9.length:Nat):=⟨by omega,by omega⟩
   haveI:InI ((k22:Int) + 1):=⟨by omega⟩
   obtain ⟨b5,off5,cs5,rfl,hr5,hat5⟩:=hel9 _ _ hi5;have hat5:=hat5.mono hzc;generalize hp9:l9[k22] = p5 at hl5 hpl5 hp5 hr5 hat5;obtain ⟨rfl,_⟩:=hr5;haveI:nb off5 (Int.toNat (k22:Int) * 3) (off5 + k22 * 3):=⟨by simp⟩
   haveI:Fz zc b5 (off5 + k22 * 3) p5.cells:=⟨by simpa [El.part] using hat5⟩
   haveI:InI p5.kind:=⟨by omega⟩
   haveI:InI p5.n:=⟨by omega⟩
   haveI:ky p5.text:=⟨by omega⟩
   obtain ⟨i1,i2,i3,i4,i5⟩:=xT p5 (by omega) (by omega) (by omega);(repeat (first | (refine iDr ?_; intro _ _) | refine aA ?_ | refine aK ?_ | (refine aP ?_; intro _ _ _ _) | (refine aF ?_; intro _ _) | refine aW ?_ | refine bN ?_ | (refine aN ?_; intro _ _ _ _) | (refine cE ?_; intro _ _ _ _) | refine bV ?_ | refine aL ?_));rename_i hS25;have he:=vD p5;refine OwnBs.add (s:=sp1 ++ ac p5.kind ++ sp1 ++ aZ p5.text ++ sp1 ++ ac p5.n) (hS25.sublist (sublist_cons_self _ _)) ho22 (by rw [he]; exact hpl5) ?_;intro B26 v26 w26 ho26 hS26;rw [he] at ho26;refine aA ?_;exact back2 hlt5 _ _ _ _ (by (repeat (first | assumption | refine Le.trans ?_ (by assumption:Le _ _)))) hS26 (by rw [hp9]; exact ho26)
  ·have hn22:=cy ht22 h5
   refine OwnBs.add1 (c:=10) hS22 ho22 (by rw [hn22,<- append_assoc,length_append] at hlen; omega) ?_;intro B23 v23 w23 ho23 hS23;refine aA ?_;refine back hlt _ _ _ _ hz22 hS23 ?_;rw [hl9,pc];have:us22 ++ [10] = us20 ++ (bytes fu ++ ((l9.flatMap fun p=>ba (cz p)) ++ [10])):=by
    have h9:=hn22.symm.trans hl2;rw [<- append_assoc us22,<- append_assoc (us20 ++ bytes fu),<- append_assoc (us20 ++ bytes fu ++ _)] at h9;have h9:=append_cancel_right h9;rw [h9];simp only [append_assoc]
   rw [<- this];exact ho23
 have hn20:=cy ht20 h;clear back ht20 hel20;refine kO (xs:=c.lists) (B:=B20) (L:=[]) (f:=fun s=>bI (fI s)) hS20 ho20 hn20 ?_;intro I30 M30 k30 u30 w30 z30 B30 us30 m30 hk30 hz30 hS30 ho30 ht30 back;clear hS20 ho20 ;have hzc30:Le zc z30:=hzc20.trans hz30;obtain ⟨_,_,_,e30,_,hel30⟩:=h3.form
 cases e30
 (repeat (first | refine aA ?_ | refine aL ?_));refine aC (fun h=>?_) (fun h=>?_)
 ·have hlt:k30 < c.lists.length:=by omega
  have hi:=getElem?_eq_getElem hlt;have hm:=getElem_mem hlt;have hl1:=cw ht30 hlt;have hpl:=ju hl1 hlen;haveI:InR (k30:Int) (c.lists.length:Nat):=⟨by omega,by omega⟩
  haveI:InI ((k30:Int) + 1):=⟨by omega⟩
  obtain ⟨b,off,cs,rfl,hr,hat⟩:=hel30 _ _ hi;have hatz:=hat.mono (hzc.trans hzc30);obtain ⟨v9,rfl,hv9⟩:=hr;have hbs:=hsm.lists _ hm;generalize hl9:c.lists[k30] = l9 at hl1 hpl hv9 hbs;obtain ⟨_,a9,cap9,rfl,hcap9,hel9⟩:=hv9.form;rw [pd] at hl1 hpl;rw [<- append_assoc] at hpl;refine OwnBs.add (s:=fS) hS30 ho30 (by rw [length_append] at hpl; omega) ?_;intro B21 v21 w21 ho21 hS21;have hl2:total = (us30 ++ bytes fS) ++ (l9.flatMap (fun p=>ba (fH p)) ++ ([10] ++ ((c.lists.drop (k30 + 1)).flatMap (fun s=>bI (fI s)) ++ (c.labels.flatMap (fun s=>bI (dd s)) ++ (c.slots.flatMap (fun s=>bI (km s)) ++ (c.ins.flatMap (fun i=>bI (fR i)) ++ [])))))):=by rw [hl1]; simp only [append_assoc]
  haveI:nb off (Int.toNat (k30:Int) * 1) (off + k30):=⟨by simp⟩
  haveI:Fz zc b (off + k30) [.slice a9 l9.length cap9]:=⟨by have:=hat.mono hzc; simpa [El.sl] using this⟩
  clear hS30 ho30;refine kO (xs:=l9) (B:=B21) (L:=[]) (f:=fun p=>ba (fH p)) hS21 ho21 hl2 ?_;intro I22 M22 k22 u22 w22 z22 B22 us22 m22 hk22 hz22 hS22 ho22 ht22 back2;clear hS21 ho21;(repeat (first | refine aA ?_ | refine aL ?_));refine aC (fun h5=>?_) (fun h5=>?_)
  ·have hlt5:k22 < l9.length:=by omega
   have hi5:=getElem?_eq_getElem hlt5;have hm5:=getElem_mem hlt5;have hl5:=cw ht22 hlt5;have hpl5:=ju hl5 hlen;have hp5:=hbs.2 _ hm5;haveI:InR (k22:Int) (l9.length:Nat):=⟨by omega,by omega⟩
   haveI:InI ((k22:Int) + 1):=⟨by omega⟩
   obtain ⟨b5,off5,cs5,rfl,hr5,hat5⟩:=hel9 _ _ hi5;have hat5:=hat5.mono hzc;generalize hp9:l9[k22] = p5 at hl5 hpl5 hp5 hr5 hat5;obtain ⟨nm,via⟩:=p5;obtain ⟨rfl,_⟩:=hr5;have hp5:nm.size <= 40:=hp5;haveI:nb off5 (Int.toNat (k22:Int) * 2) (off5 + k22 * 2):=⟨by simp⟩
   have hat5':At zc b5 (off5 + k22 * 2) [.string nm,.bool via]:=by simpa [El.item] using hat5
   haveI:Fz zc b5 (off5 + k22 * 2) [.string nm]:=⟨hat5'.fld (i:=0) rfl rfl⟩
   haveI:Fz zc b5 (off5 + k22 * 2 + 1) [.bool via]:=⟨hat5'.fld (i:=1) rfl rfl⟩
   intro K0 hK0;have main:∀ B' v' w',OwnBs B' v' (us22 ++ ba (fH ⟨nm,via⟩))->Res w1 zc [] w' z22 (B' ++ [])->K0 [v'] w':=by
    intro B' v' w' ho' hS';refine hK0 _ _ fun _=>?_
    refine aA ?_;exact back2 hlt5 _ _ _ _ (Le.refl _) hS' (by rw [hp9]; exact ho')
   clear hK0
   cases via
   ·haveI:Cat sp1 nm:=⟨by have:sp1.size = 1:=rfl; omega⟩
    have he:bytes (sp1 ++ nm) = ba (fH ⟨nm,false⟩):=by
     rw [bh];simp only [ba,fH,prW,mQ,flatMap_cons,flatMap_nil,append_nil,Bool.false_eq_true,if_false]
     rfl
    (repeat (first | refine aA ?_ | refine aj ?_ | refine aL ?_));refine OwnBs.add (s:=sp1 ++ nm) hS22 ho22 (by rw [he]; exact hpl5) ?_;intro B26 v26 w26 ho26 hS26;rw [he] at ho26;exact main _ _ _ ho26 hS26
   ·haveI:Cat sp2 nm:=⟨by have:sp2.size = 2:=rfl; omega⟩
    haveI:Cat (sp2 ++ nm) (b1 41):=⟨by have:sp2.size = 2:=rfl; have:(b1 41).size = 1:=rfl; rw [ByteArray.size_append]; omega⟩
    have he:bytes (sp2 ++ nm ++ b1 41) = ba (fH ⟨nm,true⟩):=by
     rw [bh,bh];simp only [ba,fH,prW,mQ,flatMap_cons,flatMap_nil,append_nil,if_true,Bool.false_eq_true,if_false,bh];simp only [append_assoc]
     rfl
    (repeat (first | refine aA ?_ | refine ah ?_ | refine aL ?_));refine OwnBs.add (s:=sp2 ++ nm ++ b1 41) hS22 ho22 (by rw [he]; exact hpl5) ?_;intro B26 v26 w26 ho26 hS26;rw [he] at ho26;exact main _ _ _ ho26 hS26
  ·have hn22:=cy ht22 h5
   refine OwnBs.add1 (c:=10) hS22 ho22 (by rw [hn22,<- append_assoc,length_append] at hlen; omega) ?_;intro B23 v23 w23 ho23 hS23;refine aA ?_;refine back hlt _ _ _ _ hz22 hS23 ?_;rw [hl9,pd];have:us22 ++ [10] = us30 ++ (bytes fS ++ ((l9.flatMap fun p=>ba (fH p)) ++ [10])):=by
    have h9:=hn22.symm.trans hl2;rw [<- append_assoc us22,<- append_assoc (us30 ++ bytes fS),<- append_assoc (us30 ++ bytes fS ++ _)] at h9;have h9:=append_cancel_right h9;rw [h9];simp only [append_assoc]
   rw [<- this];exact ho23
 have hn30:=cy ht30 h;clear back ht30 hel30;refine kO (xs:=c.labels) (B:=B30) (L:=[]) (f:=fun s=>bI (dd s)) hS30 ho30 hn30 ?_;intro I40 M40 k40 u40 w40 z40 B40 us40 m40 hk40 hz40 hS40 ho40 ht40 back;clear hS30 ho30 ;have hzc40:Le zc z40:=hzc30.trans hz40;obtain ⟨_,_,_,e40,_,hel40⟩:=h4.form
 cases e40
 (repeat (first | refine aA ?_ | refine aL ?_));refine aC (fun h=>?_) (fun h=>?_)
 ·have hlt:k40 < c.labels.length:=by omega
  have hi:=getElem?_eq_getElem hlt;have hm:=getElem_mem hlt;have hl1:=cw ht40 hlt;have hpl:=ju hl1 hlen;haveI:InR (k40:Int) (c.labels.length:Nat):=⟨by omega,by omega⟩
  haveI:InI ((k40:Int) + 1):=⟨by omega⟩
  obtain ⟨b,off,cs,rfl,hr,hat⟩:=hel40 _ _ hi;have hatz:=hat.mono (hzc.trans hzc40);have hbs:=hsm.labels _ hm;have hat:=hat.mono hzc;generalize hp9:c.labels[k40] = p5 at hl1 hpl hr hat hbs;obtain ⟨rfl,_⟩:=hr;haveI:nb off (Int.toNat (k40:Int) * 2) (off + k40 * 2):=⟨by simp⟩
  have hat5':At zc b (off + k40 * 2) p5.cells:=by simpa [El.spot] using hat
  haveI:Fz zc b (off + k40 * 2) [.string p5.name]:=⟨hat5'.fld (i:=0) rfl rfl⟩
  haveI:Fz zc b (off + k40 * 2 + 1) [.int .i64 p5.at_]:=⟨hat5'.fld (i:=1) rfl rfl⟩
  haveI:InI p5.at_:=⟨by omega⟩
  haveI:ky p5.name:=⟨by omega⟩
  obtain ⟨i1,i2,i3,i4⟩:=vu p5 (by omega) (by omega);have he:=uK p5;(repeat (first | (refine iDr ?_; intro _ _) | refine aK ?_ | (refine aN ?_; intro _ _ _ _) | (refine cE ?_; intro _ _ _ _) | refine cZ ?_ | refine bz ?_));rename_i hS44;refine OwnBs.add (s:=labelS ++ ac p5.at_ ++ sp1 ++ aZ p5.name ++ b1 10) hS44 ho40 (by rw [he]; exact hpl) ?_;intro B45 v45 w45 ho45 hS45;rw [he] at ho45;(repeat (first | refine aA ?_ | refine cZ ?_));exact back hlt _ _ _ _ (by (repeat (first | assumption | refine Le.trans ?_ (by assumption:Le _ _)))) hS45 (by rw [hp9]; exact ho45)
 have hn40:=cy ht40 h;clear back ht40 hel40;refine kO (xs:=c.slots) (B:=B40) (L:=[]) (f:=fun s=>bI (km s)) hS40 ho40 hn40 ?_;intro I50 M50 k50 u50 w50 z50 B50 us50 m50 hk50 hz50 hS50 ho50 ht50 back;clear hS40 ho40 ;have hzc50:Le zc z50:=hzc40.trans hz50;obtain ⟨_,_,_,e50,_,hel50⟩:=h5.form
 cases e50
 (repeat (first | refine aA ?_ | refine aL ?_));refine aC (fun h=>?_) (fun h=>?_)
 ·have hlt:k50 < c.slots.length:=by omega
  have hi:=getElem?_eq_getElem hlt;have hm:=getElem_mem hlt;have hl1:=cw ht50 hlt;have hpl:=ju hl1 hlen;haveI:InR (k50:Int) (c.slots.length:Nat):=⟨by omega,by omega⟩
  haveI:InI ((k50:Int) + 1):=⟨by omega⟩
  obtain ⟨b,off,cs,rfl,hr,hat⟩:=hel50 _ _ hi;have hatz:=hat.mono (hzc.trans hzc50);obtain ⟨rfl,_⟩:=hr;have hbs:=hsm.slots _ hm;(repeat (first | refine aA ?_ | refine aL ?_));refine bL hatz ?_;haveI:Cat nameS c.slots[k50]:=⟨by have:nameS.size = 5:=rfl; omega⟩
  haveI:Cat (nameS ++ c.slots[k50]) (b1 10):=⟨by have:nameS.size = 5:=rfl; have:(b1 10).size = 1:=rfl; rw [ByteArray.size_append]; omega⟩
  refine aA (v:=.string (nameS ++ c.slots[k50])) (g:=(inferInstance:Run (bi .add 9 (.string (nameS)) (.string (c.slots[k50]))) _)) ?_;refine aA (v:=.string (nameS ++ c.slots[k50] ++ b1 10)) (g:=(inferInstance:Run (bi .add 9 (.string (nameS ++ c.slots[k50])) (.string (b1 10))) _)) ?_;have he:=vo c.slots[k50];refine OwnBs.add (s:=nameS ++ c.slots[k50] ++ b1 10) hS50 ho50 (by rw [he]; exact hpl) ?_;intro B3 v3 w3 ho3 hS3;rw [he] at ho3;refine aA ?_;exact back hlt _ _ _ _ (Le.refl _) hS3 ho3
 have hn50:=cy ht50 h;clear back ht50 hel50;refine kO (xs:=c.ins) (B:=B50) (L:=[]) (f:=fun s=>bI (fR s)) hS50 ho50 hn50 ?_;intro I60 M60 k60 u60 w60 z60 B60 us60 m60 hk60 hz60 hS60 ho60 ht60 back;clear hS50 ho50 ;have hzc60:Le zc z60:=hzc50.trans hz60;obtain ⟨_,_,_,e60,_,hel60⟩:=h6.form
 cases e60
 (repeat (first | refine aA ?_ | refine aL ?_));refine aC (fun h=>?_) (fun h=>?_)
 ·have hlt:k60 < c.ins.length:=by omega
  have hi:=getElem?_eq_getElem hlt;have hm:=getElem_mem hlt;have hl1:=cw ht60 hlt;have hpl:=ju hl1 hlen;haveI:InR (k60:Int) (c.ins.length:Nat):=⟨by omega,by omega⟩
  haveI:InI ((k60:Int) + 1):=⟨by omega⟩
  obtain ⟨b,off,cs,rfl,hr,hat⟩:=hel60 _ _ hi;have hatz:=hat.mono (hzc.trans hzc60)
  cases hr
  have hbs:=hsm.ins _ hm;(repeat (first | refine aA ?_ | refine aL ?_));refine kz hatz rfl ?_;haveI:Tab z60:=ht.le (hzc.trans hzc60);refine ap (qX (i:=c.ins[k60]) (by simp only [cO,Bool.and_eq_true,decide_eq_true_eq]; omega) ⟨by omega⟩ ⟨by omega⟩ ⟨by omega⟩) ?_;rintro z2 w2 v2 hz2 hS2 rfl
  clear hS60;have hq:=rY (i:=c.ins[k60]) ⟨by omega⟩ ⟨by omega⟩ ⟨by omega⟩;haveI:Cat (fR c.ins[k60]) (b1 10):=⟨by have:(b1 10).size = 1:=rfl; omega⟩
  refine aA (v:=.string (fR c.ins[k60] ++ b1 10)) (g:=(inferInstance:Run (bi .add 9 (.string (fR c.ins[k60])) (.string (b1 10))) _)) ?_;have he:bytes (fR c.ins[k60] ++ b1 10) = bI (fR c.ins[k60]):=bh _ _;refine OwnBs.add (s:=fR c.ins[k60] ++ b1 10) hS2 ho60 (by rw [he]; exact hpl) ?_;intro B3 v3 w3 ho3 hS3;rw [he] at ho3;refine aA ?_;exact back hlt _ _ _ _ hz2 hS3 ho3
 have hn60:=cy ht60 h;clear back ht60 hel60;rw [append_nil] at hn60;subst hn60;refine OwnBs.str hS60 ho60 (by simp only [eL] at hlen; simp only [big]; omega) ?_;intro z70 hz70 hS70;exact hR _ _ _ _ hS70 rfl)
theorem sM {z:Z} {w:World} {v:Value} {c:aH} [ht:Tab z] (hc:CodeR z v c):Fn1 41 #[v] z w fun _ r=>r = .agg [.string (iA c),.int .i64 (lj c)].toArray:=Fn1.intro fun hS=>en41 (by
 unfold vc41;obtain ⟨a1,a2,a3,a4,a5,a6,k1,k2,k3,k4,k5,k6,rfl,h1,h2,h3,h4,h5,h6⟩:=hc.form;generalize hRR:(fun (v:Value) (w':World)=>∃ z' L',Res w z [] w' z' L'/\v = .agg [.string (iA c),.int .i64 (lj c)].toArray) = RR;refine aP ?_;intro bc w1 hbc hS1;obtain ⟨zc,hzc,hS2,hatc⟩:=hS1.frz bc;have hR:∀ z' w' L' s e,Res w1 zc [] w' z' L'->s = iA c->e = lj c->RR (.agg [.string s,.int .i64 e].toArray) w':=fun z' w' L' s e k hs he=>by rw [<- hRR,he,hs]; exact ⟨z',L',hS2.comp k,rfl⟩
 clear hRR;have hS3:=hS2.self;clear hS hS1 hS2;have hcc:=hc.mono hzc;haveI:Fz zc bc 0 (dq a1 a2 a3 a4 a5 a6 k1 k2 k3 k4 k5 k6 c):=⟨hatc⟩
 refine ak ?_;intro b2 w4 hb2 hS4;clear hS3;refine bV ?_;refine ap (nt (hcc.mono hS4.zle)) ?_;rintro z5 w5 v5 hz5 hS5 rfl
 clear hS4;refine ak ?_;intro b3 w6 hb3 hS6;refine aF ?_;intro w7 hS7;clear hS5 hS6;(repeat (first | refine aA ?_ | refine aE ?_));refine aU (fun hck=>?_) (fun hck=>?_)
 ·have hck:¬ (ag c).1 = 0:=by simpa using hck
  (repeat (first | refine aA ?_ | refine aE ?_ | (refine aF ?_; intro _ _) | refine aq ?_));exact hR _ _ _ _ _ (by assumption) (by unfold iA; rw [if_neg hck]) rfl
 have hck:(ag c).1 = 0:=by simpa using hck
 have hok:=DR hck;have hsm:=pD hok.lim hok.par hok.rt;refine bV ?_;haveI:Tab z5:=ht.le (hzc.trans (by (repeat (assumption))));refine ap (vJ (hcc.mono hS7.zle) hsm) ?_;rintro z8 w8 v8 hz8 hS8 rfl
 clear hS7;(repeat (first | refine aA ?_ | (refine aF ?_; intro _ _) | refine aq ?_));exact hR _ _ _ _ _ (by assumption) (by unfold iA; rw [if_pos hck]) (by unfold lj; rw [hck]))
end
section
abbrev cn (b:Nat) (s:ByteArray) (p:Int) (bad:Bool):Nat × Obj:=(b,.cells [.string s,.int .i64 p,.bool bad].toArray 278 (0,0))
def iW (l:List UInt8) (p:Nat) (bad:Bool):Nat × Bool:=if l[p]? = some 32 then (p + 1,bad) else (p,true)
def eI (l:List UInt8) (p:Nat) (bad:Bool):Bool:=bad || decide (p = l.length)
def cG (l:List UInt8) (p:Nat):List UInt8:=(l.drop p).takeWhile (· ≠ 32)
theorem tk {z:Z} {w:World} {b p:Nat} {s:ByteArray} {bad:Bool} (hs:s.size <= 1000000) (hp:p <= s.size) :
  Fn 200 #[.pointer (some ⟨b,0,none⟩)] z [cn b s p bad] w fun z' B' r=>r = .tuple #[]/\B' = [cn b s ((iW (bytes s) p bad).1:Nat) (iW (bytes s) p bad).2]:=Fn.intro fun hS=>en200 (by
 unfold vc200;have hsz:=aI s;haveI:InI ((p:Int) + 1):=⟨by omega⟩
 intro K hK;have m1:∀ q w',Res w z [cn b s p bad] w' z [cn b s p bad]->(q = true ↔ (bytes s)[p]? ≠ some 32)->K [.bool q] w':=by
  intro q w' hS' hq;refine hK _ _ fun _=>?_
  clear hS hK;refine aO (fun h=>?_) (fun h=>?_)
  ·have:=hq.1 h
   (repeat (first | refine aA ?_ | (refine aF ?_; intro _ _)));exact ⟨_,_,‹_›,rfl,by unfold iW; rw [if_neg this]⟩
  ·have:(bytes s)[p]? = some 32:=by
    cases hc:decide ((bytes s)[p]? = some 32) with
    | true=>exact of_decide_eq_true hc
    | false=>have:=hq.2 (of_decide_eq_false hc); rw [h] at this; cases this
   (repeat (first | refine aA ?_ | refine aE ?_ | (refine aF ?_; intro _ _)));exact ⟨_,_,‹_›,rfl,by unfold iW; rw [if_pos this]; simp⟩
 clear hK;(repeat (first | (refine iDr ?_; intro _ _) | refine aK ?_ | refine aW ?_));rename_i hS2;refine aC (fun h=>?_) (fun h=>?_)
 ·exact m1 true _ hS2 ⟨fun _=>by rw [getElem?_eq_none (by omega)]; simp,fun _=>rfl⟩
 ·haveI:dI s (p:Int):=⟨by omega,by omega⟩
  have hget:(bytes s)[p]? = some ((bytes s)[p]'(by omega)):=getElem?_eq_getElem _;have hbt:=eX hget;(repeat (first | refine aK ?_ | refine aW ?_));rw [hbt];refine m1 _ _ ‹_› ?_;rw [hget];simp only [Bool.not_eq_true',decide_eq_false_iff_not,ne_eq,Option.some.injEq,u8_eq];exact not_congr (u8_eq (d:=32)))
theorem tj {z:Z} {w:World} {b p:Nat} {s:ByteArray} {bad:Bool} (hs:s.size <= 1000000) :
  Fn 202 #[.pointer (some ⟨b,0,none⟩)] z [cn b s p bad] w fun z' B' r=>r = .bool (eI (bytes s) p bad)/\B' = [cn b s p bad]:=Fn.intro fun hS=>en202 (by
 unfold vc202;have hsz:=aI s;intro K hK
 cases bad
 ·(repeat (first | (refine iDr ?_; intro _ _) | refine aK ?_ | refine aW ?_ | refine aj ?_))
  refine hK _ _ fun _=>?_
  exact ⟨_,_,‹_›,by unfold eI; rw [hsz,Bool.false_or]; congr 1; exact decide_eq_decide.2 (by omega),rfl⟩
 ·(repeat (first | (refine iDr ?_; intro _ _) | refine aK ?_ | refine aW ?_ | refine ah ?_))
  refine hK _ _ fun _=>?_
  exact ⟨_,_,‹_›,rfl,rfl⟩)
theorem ot {l:List UInt8} {q:Nat} {c:UInt8} (h:l[q]? = some c):cG l q = if c = 32 then [] else c :: cG l (q + 1):=by
 obtain ⟨hq,e⟩:=List.getElem?_eq_some_iff.1 h;unfold cG;rw [drop_eq_getElem_cons hq,e,takeWhile_cons]
 by_cases hc:c = 32
 ·subst hc; simp
 ·simp [hc]
theorem xQ {l:List UInt8} {q:Nat} (h:l.length <= q):cG l q = []:=by unfold cG; rw [drop_of_length_le h]; rfl
theorem mt (l:List UInt8) (p:Nat):p + (cG l p).length <= max p l.length:=by
 unfold cG;have h1:=(takeWhile_prefix (p:=(· ≠ (32:UInt8))) (l:=l.drop p)).length_le;rw [length_drop] at h1;omega
theorem lG {z:Z} {w:World} {b p:Nat} {s:ByteArray} {bad:Bool} (hs:s.size <= 1000000) (hp:p <= s.size) :
  Fn 198 #[.pointer (some ⟨b,0,none⟩)] z [cn b s p bad] w fun z' B' r=>r = mz (cG (bytes s) p)/\B' = [cn b s ((p + (cG (bytes s) p).length:Nat):Int) (bad || decide (cG (bytes s) p = []))]:=Fn.intro fun hS=>en198 (by
 unfold vc198;have hsz:=aI s;(repeat (first | refine aA ?_ | refine aE ?_));refine Cx (fun (q:Nat) w'=>p <= q/\q <= s.size/\p + (cG (bytes s) p).length = q + (cG (bytes s) q).length/\Res w z [cn b s p bad] w' z [cn b s q bad]) (fun q=>s.size - q) p ⟨Nat.le_refl _,hp,rfl,hS⟩ ?_;rintro I M q w1 m ⟨h1,h2,h3,hS1⟩ back
 clear hS;intro K hK;have m1:∀ x w',Res w z [cn b s p bad] w' z [cn b s q bad]->(x = true ↔ ∃ c,(bytes s)[q]? = some c/\c ≠ 32)->K [.bool x] w':=by
  intro x w' hS' hq;refine hK _ _ fun _=>?_
  clear hS1 hK;refine aO (fun h=>?_) (fun h=>?_)
  ·obtain ⟨c,hc,h32⟩:=hq.1 h
   have hst:=ot hc;rw [if_neg h32] at hst;obtain ⟨hql,_⟩:=List.getElem?_eq_some_iff.1 hc;haveI:InI ((q:Int) + 1):=⟨by omega⟩
   (repeat (first | refine aA ?_ | refine aE ?_ | (refine aF ?_; intro _ _)));rename_i hS3;exact back (q + 1) _ ⟨by omega,by omega,by rw [h3,hst,length_cons]; omega,by simpa using hS3⟩ (by omega)
  ·have hend:cG (bytes s) q = []:=by
    cases hc:(bytes s)[q]? with
    | none=>exact xQ (List.getElem?_eq_none_iff.1 hc)
    | some c=>
     rw [ot hc]
     by_cases h32:c = 32
     ·rw [if_pos h32]
     ·have:=hq.2 ⟨c,hc,h32⟩
      rw [h] at this
      cases this
   clear back;rw [hend] at h3;have h3:p + (cG (bytes s) p).length = q:=h3;have hwd:s.extract p q = ⟨(cG (bytes s) p).toArray⟩:=eZ (by
    rw [bB,bE,show q - p = (cG (bytes s) p).length by omega];exact (List.prefix_iff_eq_take.1 (takeWhile_prefix _)).symm)
   haveI:InR (p:Int) ((q:Int) + 1):=⟨by omega,by omega⟩
   haveI:InR (q:Int) ((s.size:Int) + 1):=⟨by omega,by omega⟩
   intro K0 hK0;have m2:∀ bd w',Res w z [cn b s p bad] w' z [cn b s q bd]->bd = (bad || decide (cG (bytes s) p = []))->K0 [] w':=by
    intro bd w' hS4 hbd;refine hK0 _ fun _=>?_
    clear hS' hK0;(repeat (first | (refine iDr ?_; intro _ _) | refine aK ?_ | refine aW ?_));refine ⟨_,_,‹_›,?_,by rw [h3,hbd]⟩;rw [show Int.toNat (p:Int) = p by omega,show Int.toNat (q:Int) = q by omega,hwd]
   clear hK0;(repeat (first | refine aA ?_ | refine aE ?_));refine aC (fun h=>?_) (fun h=>?_)
   ·(repeat (first | refine aA ?_ | (refine aF ?_; intro _ _)))
    refine m2 true _ (by assumption) ?_;have:cG (bytes s) p = []:=eq_nil_of_length_eq_zero (by omega);rw [this]; simp
   ·refine m2 bad _ (by assumption) ?_
    have:¬ cG (bytes s) p = []:=fun e=>by rw [e] at h3; exact h (by simp only [length_nil] at h3; omega)
    rw [decide_eq_false this,Bool.or_false]
 clear hK;(repeat (first | (refine iDr ?_; intro _ _) | refine aK ?_ | refine aW ?_));rename_i hS2;refine aC (fun h=>?_) (fun h=>?_)
 ·haveI:dI s (q:Int):=⟨by omega,by omega⟩
  have hget:(bytes s)[q]? = some ((bytes s)[q]'(by omega)):=getElem?_eq_getElem _;have hbt:=eX hget;(repeat (first | refine aK ?_ | refine aW ?_));rw [hbt];refine m1 _ _ ‹_› ?_;rw [hget];simp only [Bool.not_eq_true',decide_eq_false_iff_not,Option.some.injEq,exists_eq_left'];exact not_congr (u8_eq (d:=32))
 ·exact m1 false _ hS2 ⟨fun h=>(by cases h),fun ⟨c,hc,_⟩=>by
   obtain ⟨hql,_⟩:=List.getElem?_eq_some_iff.1 hc;omega⟩)
end
section
def ip (l:List UInt8) (p:Nat) (bad:Bool):List UInt8 × Nat × Bool:=
 if l[p]? = some 34 then match cK false [] (l.drop (p + 1)) with
  | none=>([],l.length,true)
  | some (x,r)=>(x,l.length - r.length,bad)
 else ([],p,true)
theorem qW {z:Z} {w:World} {b p:Nat} {s:ByteArray} {bad:Bool} (hs:s.size <= 1000000) (hp:p <= s.size) :
  Fn 201 #[.pointer (some ⟨b,0,none⟩)] z [cn b s p bad] w fun z' B' r=>r = mz (ip (bytes s) p bad).1/\B' = [cn b s ((ip (bytes s) p bad).2.1:Nat) (ip (bytes s) p bad).2.2]:=Fn.intro fun hS=>en201 (by
 unfold vc201;have hsz:=aI s;intro K hK;have m1:∀ x w',Res w z [cn b s p bad] w' z [cn b s p bad]->(x = true ↔ (bytes s)[p]? ≠ some 34)->K [.bool x] w':=by
  intro x w' hS' hx;refine hK _ _ fun _=>?_
  clear hK hS;refine aO (fun h=>?_) (fun h=>?_)
  ·have:=hx.1 h
   (repeat (first | refine aA ?_ | (refine aF ?_; intro _ _)));exact ⟨_,_,‹_›,by unfold ip; rw [if_neg this],by unfold ip; rw [if_neg this]⟩
  ·have hq:(bytes s)[p]? = some 34:=by
    cases hc:decide ((bytes s)[p]? = some 34) with
    | true=>exact of_decide_eq_true hc
    | false=>have:=hx.2 (of_decide_eq_false hc); rw [h] at this; cases this
   obtain ⟨hpl,_⟩:=List.getElem?_eq_some_iff.1 hq;haveI:InI ((p:Int) + 1):=⟨by omega⟩
   have hlit:ip (bytes s) p bad = match cK false [] ((bytes s).drop (p + 1)) with
    | none=>([],(bytes s).length,true)
    | some (x,r)=>(x,(bytes s).length - r.length,bad):=by unfold ip; exact if_pos hq
   clear hx hq;generalize hgo:ip (bytes s) p bad = G at hlit;(repeat (first | refine aA ?_ | refine aE ?_ | (refine aF ?_; intro _ _)));rename_i hS2;refine cC (fun (a:Nat × List UInt8) u w'=>a.1 <= s.size/\a.2.length <= a.1/\cK false [] ((bytes s).drop (p + 1)) = cK false a.2 ((bytes s).drop a.1)/\∃ B' z',Le z z'/\OwnBs B' u a.2/\Res w z [cn b s p bad] w' z' (B' ++ [cn b s a.1 bad])) (fun a=>s.size - a.1) (p + 1,[]) ⟨by simp only; omega,by simp,rfl,[],z,Le.refl _,OwnBs.nil,by simpa using hS2⟩ ?_;rintro I M ⟨q,acc⟩ u w1 m ⟨h1,h2,h3,B1,z1,hz1,ho1,hS1⟩ back
   simp only at h1 h2 h3 ho1 hS1;clear hS' hS2;(repeat (first | (refine iDr ?_; intro _ _) | refine aK ?_ | refine aW ?_));rename_i hS3;refine aC (fun h4=>?_) (fun h4=>?_)
   ·haveI:dI s (q:Int):=⟨by omega,by omega⟩
    haveI:InI ((q:Int) + 1):=⟨by omega⟩
    have hql:q < (bytes s).length:=by omega
    have hget:(bytes s)[q]? = some ((bytes s)[q]'hql):=getElem?_eq_getElem _;have hdr:(bytes s).drop q = (bytes s)[q]'hql :: (bytes s).drop (q + 1):=drop_eq_getElem_cons hql;generalize hc:(bytes s)[q]'hql = c at hget hdr;have hbt:=eX hget;rw [hdr,cK] at h3;(repeat (first | refine iDr (fun _ _=>?_) | refine aA ?_ | refine aK ?_ | refine aW ?_ | refine aE ?_ | refine gZ ?_));rename_i hS4;rw [hbt];(repeat (first | refine aA ?_ | refine aE ?_ | refine gZ ?_));refine aF ?_;intro w5 hS5;clear hS1 hS3 hS4;intro K0 hK0;have m2:∀ q' w',q' <= s.size->q < q'->cK false [] ((bytes s).drop (p + 1)) = cK false (acc ++ [c]) ((bytes s).drop q')->Res w z [cn b s p bad] w' z1 (B1 ++ [cn b s (q':Nat) bad])->K0 [] w':=by
     intro q' w' hq1 hq2 hl' hS';refine hK0 _ fun _=>?_
     clear hS5 hK0;refine ho1.push hS' (by omega) ?_;intro B6 v6 w6 ho6 hS6;exact back (q',acc ++ [c]) _ _ ⟨hq1,by simp only [length_append,length_cons,length_nil]; omega,hl',_,_,hz1,ho6,hS6⟩ (by simp only; omega)
    clear hK0;have hS6:Res w z [cn b s p bad] w5 z1 (B1 ++ [cn b s ((q + 1:Nat):Int) bad]):=by simpa using hS5
    clear hS5;refine aA ?_;refine aC (fun h5=>?_) (fun h5=>?_)
    ·have h5:c = 34:=u8_eq.1 h5
     subst h5;rw [if_pos rfl] at h3;intro K1 hK1;have m3:∀ x w',Res w z [cn b s p bad] w' z1 (B1 ++ [cn b s ((q + 1:Nat):Int) bad])->(x = true ↔ (bytes s)[q + 1]? ≠ some 34)->K1 [.bool x] w':=by
      intro x w' hS' hx;refine hK1 _ _ fun _=>?_
      clear hK1 hS6;refine aO (fun h=>?_) (fun h=>?_)
      ·have hne:=hx.1 h
       have hl2:cK true acc ((bytes s).drop (q + 1)) = some (acc,(bytes s).drop (q + 1)):=by
        cases hd2:(bytes s).drop (q + 1) with
        | nil=>rfl
        | cons d l=>
         have:d ≠ 34:=fun e=>hne (by
          have:=congrArg (·[0]?) hd2;simp only [getElem?_drop,Nat.add_zero,getElem?_cons_zero] at this;rw [this,e])
         rw [cK,if_neg this]
       rw [h3,hl2] at hlit;simp only at hlit;refine ho1.str hS' (by simp only [big]; omega) ?_;intro z7 hz7 hS7;refine ⟨_,_,hS7,by rw [hlit],?_⟩;rw [hlit];simp only [length_drop];rw [show (bytes s).length - ((bytes s).length - (q + 1)) = q + 1 by omega]
      ·have hq:(bytes s)[q + 1]? = some 34:=by
        cases hc:decide ((bytes s)[q + 1]? = some 34) with
        | true=>exact of_decide_eq_true hc
        | false=>have:=hx.2 (of_decide_eq_false hc); rw [h] at this; cases this
       obtain ⟨hpl2,e2⟩:=List.getElem?_eq_some_iff.1 hq;have hd2:(bytes s).drop (q + 1) = 34 :: (bytes s).drop (q + 1 + 1):=by rw [drop_eq_getElem_cons hpl2,e2]
       rw [hd2,cK,if_pos rfl] at h3;haveI:InI (((q + 1:Nat):Int) + 1):=⟨by omega⟩
       clear back hx hlit;(repeat (first | refine aA ?_ | refine aE ?_ | refine gZ ?_));refine aF ?_;intro w8 hS8;exact m2 (q + 1 + 1) _ (by omega) (by omega) h3 (by simpa using hS8)
     clear hK1 m2 back;(repeat (first | (refine iDr ?_; intro _ _) | refine aK ?_ | refine aW ?_));rename_i hS9;refine aC (fun h=>?_) (fun h=>?_)
     ·exact m3 true _ hS9 ⟨fun _=>by rw [getElem?_eq_none (by omega)]; simp,fun _=>rfl⟩
     ·haveI:dI s ((q + 1:Nat):Int):=⟨by omega,by omega⟩
      have hget2:(bytes s)[q + 1]? = some ((bytes s)[q + 1]'(by omega)):=getElem?_eq_getElem _;have hbt2:=eX hget2;(repeat (first | refine aK ?_ | refine aW ?_));rw [hbt2];refine m3 _ _ ‹_› ?_;rw [hget2];simp only [Bool.not_eq_true',decide_eq_false_iff_not,ne_eq,Option.some.injEq,u8_eq];exact not_congr (u8_eq (d:=34))
    ·have h5:c ≠ 34:=fun e=>h5 (by rw [e]; rfl)
     rw [if_neg h5] at h3;exact m2 (q + 1) _ (by omega) (by omega) h3 hS6
   ·have hq2:q = (bytes s).length:=by omega
    have hd:(bytes s).drop q = []:=drop_of_length_le (by omega);rw [hd] at h3;have h3:cK false [] ((bytes s).drop (p + 1)) = none:=h3;rw [h3] at hlit;have hS4:=hS3.sublist (sublist_append_right B1 _);clear hS1 hS3 back;(repeat (first | refine aA ?_ | (refine aF ?_; intro _ _)));exact ⟨_,_,‹_›,by rw [hlit],by rw [hlit,hq2]⟩
 clear hK;(repeat (first | (refine iDr ?_; intro _ _) | refine aK ?_ | refine aW ?_));rename_i hS2;refine aC (fun h=>?_) (fun h=>?_)
 ·exact m1 true _ hS2 ⟨fun _=>by rw [getElem?_eq_none (by omega)]; simp,fun _=>rfl⟩
 ·haveI:dI s (p:Int):=⟨by omega,by omega⟩
  have hget:(bytes s)[p]? = some ((bytes s)[p]'(by omega)):=getElem?_eq_getElem _;have hbt:=eX hget;(repeat (first | refine aK ?_ | refine aW ?_));rw [hbt];refine m1 _ _ ‹_› ?_;rw [hget];simp only [Bool.not_eq_true',decide_eq_false_iff_not,ne_eq,Option.some.injEq,u8_eq];exact not_congr (u8_eq (d:=34)))
end
section
def dN:Nat->List UInt8->Option Nat
 | a,[]=>some a
 | a,c :: t=>if c.toNat < 48 \/ 57 < c.toNat then none else dN (10 * a + (c.toNat - 48)) t
def fE (l:List UInt8):Nat:=if 1 < l.length/\l[0]? = some 45 then 1 else 0
def ii (l:List UInt8):Prop:=l.length <= fE l \/ 15 < l.length - fE l \/ (l[fE l]? = some 48/\1 < l.length)
instance {l:List UInt8}:Decidable (ii l):=by unfold ii; infer_instance
def lF (l:List UInt8):Option Int:=if ii l then none else (dN 0 (l.drop (fE l))).map fun n:Nat=>(if fE l = 1 then -(n:Int) else (n:Int):Int)
def rnV:Option Int->Value
 | none=>.tuple #[.int .i64 0,.bool false]
 | some n=>.tuple #[.int .i64 n,.bool true]
theorem yk {c:UInt8} (h1:48 <= c.toNat) (h2:c.toNat <= 57):Run (bi .sub 5 (.int .u8 c.toNat) (.int .u8 48)) (.int .u8 ((c.toNat:Int) - 48)):=⟨fun w=>by
 have h:∀ d:Fin 10,IntKind.u8.wrap ((d.val:Nat):Int) = ((d.val:Nat):Int):=by decide
 have:=h ⟨c.toNat - 48,by omega⟩;simp only at this;rw [show ((c.toNat - 48:Nat):Int) = (c.toNat:Int) - 48 by omega] at this;simp [bi,binOp,Op.intArith,this]⟩
theorem sN {z:Z} {w:World} {s:ByteArray} (hs:s.size <= 1000000):Fn1 245 #[.string s] z w fun _ r=>r = rnV (lF (bytes s)):=Fn1.intro fun hS=>en245 (by
 unfold vc245;have hsz:=aI s;intro K hK;have mi:∀ w',Res w z [] w' z []->K [.int .i64 (fE (bytes s):Nat)] w':=by
  intro w1 hS1;refine hK _ _ fun _=>?_
  clear hK hS;generalize hi:fE (bytes s) = i;have hi1:i <= 1:=by rw [<- hi]; unfold fE; split <;> omega
  haveI:InI ((s.size:Int) - (i:Int)):=⟨by omega⟩
  refine aA ?_;refine aA ?_;intro Ka hKa;have ma:∀ x w',Res w z [] w' z []->(x = true ↔ s.size <= i \/ 15 < s.size - i)->Ka [.bool x] w':=by
   intro x w2 hS2 hx;refine hKa _ _ fun _=>?_
   clear hKa hS1;intro Kb hKb;have mb:∀ x w',Res w z [] w' z []->(x = true ↔ ii (bytes s))->Kb [.bool x] w':=by
    intro x w3 hS3 hx;refine hKb _ _ fun _=>?_
    clear hKb hS2;refine aO (fun h=>?_) (fun h=>?_)
    ·have:=hx.1 h
     exact ⟨_,_,hS3,by unfold lF; rw [if_pos this]; rfl⟩
    ·have hnb:¬ ii (bytes s):=fun e=>by rw [hx.2 e] at h; cases h
     have hb1:i < s.size/\s.size - i <= 15:=by unfold ii at hnb; rw [hi] at hnb; omega
     have hN:lF (bytes s) = (dN 0 ((bytes s).drop i)).map fun n:Nat=>(if i = 1 then -(n:Int) else (n:Int):Int):=by unfold lF; rw [if_neg hnb,hi]
     refine ee (fun (a:Nat × Nat) x y w'=>x = .int .i64 (a.1:Nat)/\y = .int .i64 (a.2:Nat)/\i <= a.2/\a.2 <= s.size/\a.1 < 10 ^ (a.2 - i)/\dN 0 ((bytes s).drop i) = dN a.1 ((bytes s).drop a.2)/\Res w z [] w' z []) (fun a=>s.size - a.2) (0,i) ⟨rfl,rfl,Nat.le_refl _,by simp only; omega,by simp,rfl,hS3⟩ ?_;rintro I M ⟨a,k⟩ x y w4 m ⟨rfl,rfl,h1,h2,h3,h4,hS4⟩ back
     simp only at h1 h2 h3 h4;clear hS3;refine aA ?_;refine aA ?_;have hp15:10 ^ (k - i) <= 10 ^ 15:=Nat.pow_le_pow_right (by omega) (by omega);have ha15:a < 10 ^ 15:=by omega
     refine aC (fun hlt=>?_) (fun hge=>?_)
     ·haveI:dI s (k:Int):=⟨by omega,by omega⟩
      have hkl:k < (bytes s).length:=by omega
      have hget:(bytes s)[k]? = some ((bytes s)[k]'hkl):=getElem?_eq_getElem _;have hdr:(bytes s).drop k = (bytes s)[k]'hkl :: (bytes s).drop (k + 1):=drop_eq_getElem_cons hkl;generalize hc:(bytes s)[k]'hkl = c at hget hdr;have hbt:=eX hget;have hc256:=c.toNat_lt;rw [hdr,dN] at h4;refine aA ?_;rw [hbt];refine aA ?_;intro K1 hK1;have m1:∀ x w',Res w z [] w' z []->(x = true ↔ c.toNat < 48 \/ 57 < c.toNat)->K1 [.bool x] w':=by
       intro x w5 hS5 hx;refine hK1 _ _ fun _=>?_
       clear hK1 hS4;refine aO (fun h=>?_) (fun h=>?_)
       ·rw [if_pos (hx.1 h)] at h4
        exact ⟨_,_,hS5,by rw [hN,h4]; rfl⟩
       ·have hcd:¬ (c.toNat < 48 \/ 57 < c.toNat):=fun e=>by rw [hx.2 e] at h; cases h
        rw [if_neg hcd] at h4;haveI:InI (10 * (a:Int)):=⟨by omega⟩
        haveI:InI ((k:Int) + 1):=⟨by omega⟩
        refine aA ?_;refine aA ?_;rw [hbt];haveI:=yk (c:=c) (by omega) (by omega);refine aA ?_;refine aA ?_;rw [hU (show inI ((c.toNat:Int) - 48) by unfold inI; omega)];have hstep:10 * a + (c.toNat - 48) < 10 ^ (k + 1 - i):=by
         rw [show k + 1 - i = (k - i) + 1 by omega,Nat.pow_succ];omega
        haveI:InI (10 * (a:Int) + ((c.toNat:Int) - 48)):=⟨by omega⟩
        refine aA ?_;refine aA ?_;exact back (10 * a + (c.toNat - 48),k + 1) _ _ _ ⟨by congr 1; simp only; omega,by simp,by simp only; omega,by simp only; omega,hstep,h4,hS5⟩ (by simp only; omega)
      clear hK1;refine aC (fun h=>?_) (fun h=>?_)
      ·exact m1 true _ hS4 ⟨fun _=>.inl (by omega),fun _=>rfl⟩
      ·refine aA ?_
       rw [hbt];refine aA ?_;exact m1 _ _ hS4 (by rw [decide_eq_true_iff]; omega)
     ·have hk:(bytes s).drop k = []:=drop_of_length_le (by omega)
      rw [hk] at h4;have h4:dN 0 ((bytes s).drop i) = some a:=h4;haveI:InI (-(a:Int)):=⟨by omega⟩
      refine aA ?_;refine aC (fun h=>?_) (fun h=>?_)
      ·refine aA ?_
       exact ⟨_,_,hS4,by rw [hN,h4]; simp only [Option.map_some]; rw [if_pos (by omega),hU (by unfold inI; omega),Int.zero_sub]; rfl⟩
      ·exact ⟨_,_,hS4,by rw [hN,h4]; simp only [Option.map_some]; rw [if_neg (by omega)]; rfl⟩
   clear hKb;refine aO (fun h=>?_) (fun h=>?_)
   ·exact mb true _ hS2 ⟨fun _=>by unfold ii; rw [hi]; have:=hx.1 h; omega,fun _=>rfl⟩
   ·have hnx:¬ (s.size <= i \/ 15 < s.size - i):=fun e=>by rw [hx.2 e] at h; cases h
    haveI:dI s (i:Int):=⟨by omega,by omega⟩
    have hget:(bytes s)[i]? = some ((bytes s)[i]'(by omega)):=getElem?_eq_getElem _;have hbt:=eX hget;refine aA ?_;rw [hbt];refine aA ?_;intro K1 hK1;have m1:∀ x w',Res w z [] w' z []->(x = true ↔ ii (bytes s))->K1 [.bool x] w':=fun x w' h1 h2=>hK1 _ _ fun _=>mb x w' h1 h2
    clear hK1;refine aC (fun h=>?_) (fun h=>?_)
    ·refine aA ?_
     refine aA ?_;refine m1 _ _ hS2 ?_;have h48:(bytes s)[i]'(by omega) = 48:=u8_eq.1 h;rw [decide_eq_true_iff];unfold ii;rw [hi,hget,h48];simp only [true_and];omega
    ·refine m1 false _ hS2 ⟨fun h=>(by cases h),fun e=>?_⟩
     unfold ii at e;rw [hi,hget] at e
     rcases e with e | e | ⟨e,_⟩
     ·omega
     ·omega
     ·simp only [Option.some.injEq] at e
      exact absurd (by rw [e]; rfl) h
  clear hKa;refine aC (fun h=>?_) (fun h=>?_)
  ·exact ma true _ hS1 ⟨fun _=>.inl (by omega),fun _=>rfl⟩
  ·refine aA ?_
   refine aA ?_;refine aA ?_;exact ma _ _ hS1 (by rw [decide_eq_true_iff]; omega)
 clear hK;refine aA ?_;refine aA ?_;intro K1 hK1;have m1:∀ x w',Res w z [] w' z []->(x = true ↔ 1 < (bytes s).length/\(bytes s)[0]? = some 45)->K1 [.bool x] w':=by
  intro x w1 hS1 hx;refine hK1 _ _ fun _=>?_
  refine aO (fun h=>?_) (fun h=>?_)
  ·have:=mi w1 hS1
   rw [fE,if_pos (hx.1 h)] at this;exact this
  ·have:=mi w1 hS1
   rw [fE,if_neg (fun e=>by rw [hx.2 e] at h; cases h)] at this;exact this
 clear hK1;refine aC (fun h=>?_) (fun h=>?_)
 ·haveI:dI s 0:=⟨by decide,by omega⟩
  have hget:(bytes s)[0]? = some ((bytes s)[0]'(by omega)):=getElem?_eq_getElem _;have hbt:=eX (k:=0) hget;refine aA ?_;refine aA ?_;refine m1 _ _ hS ?_;rw [show ((0:Nat):Int) = 0 from rfl] at hbt;rw [hbt,hget,decide_eq_true_iff];refine ⟨fun e=>⟨by omega,congrArg some (u8_eq.1 e)⟩,fun e=>?_⟩;have:=e.2;simp only [Option.some.injEq] at this;rw [this]
  rfl
 ·exact m1 false _ hS ⟨fun h=>(by cases h),fun e=>absurd e.1 (by omega)⟩)
end
section
def gM (l:List UInt8) (p:Nat) (bad:Bool):Bool:=bad || decide (cG l p = [])
def iY (l:List UInt8) (p:Nat):Nat:=p + (cG l p).length
theorem ov {l:List UInt8} {p:Nat} (h:p <= l.length):iY l p <= l.length:=by
 have:=mt l p;unfold iY;omega
def ly (l:List UInt8) (p:Nat) (bad:Bool):Int × Bool:=((lF (cG l p)).getD 0,gM l p bad || (lF (cG l p)).isNone)
theorem th {z:Z} {w:World} {b p:Nat} {s:ByteArray} {bad:Bool} (hs:s.size <= 1000000) (hp:p <= s.size) :
  Fn 203 #[.pointer (some ⟨b,0,none⟩)] z [cn b s p bad] w fun z' B' r=>r = .int .i64 (ly (bytes s) p bad).1/\B' = [cn b s (iY (bytes s) p:Nat) (ly (bytes s) p bad).2]:=Fn.intro fun hS=>en203 (by
 unfold vc203;have hsz:=aI s;refine bO (B:=[cn b s p bad]) (F:=[]) (by simpa using hS) (lG hs hp) (by simp) ?_;rintro z3 B3 w3 v3 hz3 hS3 ⟨rfl,rfl⟩
 simp only [append_nil] at hS3;clear hS;have hwl:=mt (bytes s) p;refine ap (sN (s:=⟨(cG (bytes s) p).toArray⟩) (by rw [aI,bE]; omega)) ?_;rintro z4 w4 v4 hz4 hS4 rfl
 clear hS3;rw [bE];have hm:ly (bytes s) p bad = ((lF (cG (bytes s) p)).getD 0,gM (bytes s) p bad || (lF (cG (bytes s) p)).isNone):=rfl;have hS5:Res w z [cn b s p bad] w4 z4 [cn b s (iY (bytes s) p:Nat) (gM (bytes s) p bad)]:=hS4;clear hS4;generalize gM (bytes s) p bad = be at hm hS5;generalize iY (bytes s) p = q at hS5 ⊢;generalize lF (cG (bytes s) p) = o at hm ⊢
 cases o with
 | none=>
  unfold rnV;refine aA ?_;refine aA ?_;intro K hK;have hK':∀ w',Res w z [cn b s p bad] w' z4 [cn b s q true]->K [] w':=fun w' h=>hK _ fun _=>⟨_,_,h,by rw [hm]; rfl,by rw [hm]; simp⟩
  clear hK;(repeat (first | refine aA ?_ | (refine aF ?_; intro _ _) | refine ah ?_));exact hK' _ ‹_›
 | some n=>
  unfold rnV;refine aA ?_;refine aA ?_;intro K hK;have hK':∀ w',Res w z [cn b s p bad] w' z4 [cn b s q be]->K [] w':=fun w' h=>hK _ fun _=>⟨_,_,h,by rw [hm]; rfl,by rw [hm]; simp⟩
  clear hK;(repeat (first | refine aA ?_ | refine aj ?_));exact hK' _ ‹_›)
end
section
def nq (l:List UInt8):Prop:=(2 <= l.length/\l[0]? = some 40)/\l[l.length - 1]? = some 41
instance {l:List UInt8}:Decidable (nq l):=by unfold nq; infer_instance
def dn (l:List UInt8):ItemM:=if nq l then ⟨⟨((l.drop 1).take (l.length - 1 - 1)).toArray⟩,true⟩ else ⟨⟨l.toArray⟩,false⟩
theorem vQ {z:Z} {w:World} {b p:Nat} {s:ByteArray} {bad:Bool} (hs:s.size <= 1000000) (hp:p <= s.size) :
  Fn 204 #[.pointer (some ⟨b,0,none⟩)] z [cn b s p bad] w fun z' B' r=>r = (dn (cG (bytes s) p)).v/\B' = [cn b s (iY (bytes s) p:Nat) (gM (bytes s) p bad)]:=Fn.intro fun hS=>en204 (by
 unfold vc204;have hsz:=aI s;refine ak ?_;intro b2 w2 hb2 hS2;clear hS;refine bO (B:=[cn b s p bad]) (F:=[(b2,.cells [.string ⟨#[]⟩,.bool false].toArray 98 (0,0))]) (hS2.perm (List.Perm.swap _ _ _)) (lG hs hp) (by simp) ?_;rintro z3 B3 w3 v3 hz3 hS3 ⟨rfl,rfl⟩
 clear hS2;have hwl:=mt (bytes s) p;have hS4:Res w z [cn b s p bad] w3 z3 ([cn b s (iY (bytes s) p:Nat) (gM (bytes s) p bad)] ++ [(b2,.cells [.string ⟨#[]⟩,.bool false].toArray 98 (0,0))]):=hS3;clear hS3;generalize hl:cG (bytes s) p = l at hwl ⊢;generalize gM (bytes s) p bad = be at hS4 ⊢;generalize iY (bytes s) p = q at hS4 ⊢;generalize ht:(⟨l.toArray⟩:ByteArray) = t;have hbt:bytes t = l:=by rw [<- ht,bE]
 have htl:t.size = l.length:=by rw [aI,hbt]
 rw [show mz l = Value.string t by rw [<- ht]];haveI:InI ((t.size:Int) - 1):=⟨by omega⟩
 refine aA ?_;refine aA ?_;intro Ka hKa;have ma:∀ x w',Res w z [cn b s p bad] w' z3 ([cn b s q be] ++ [(b2,.cells [.string ⟨#[]⟩,.bool false].toArray 98 (0,0))])->(x = true ↔ (2 <= l.length/\l[0]? = some 40))->Ka [.bool x] w':=by
  intro x w5 hS5 hx;refine hKa _ _ fun _=>?_
  clear hKa hS4;intro Kb hKb;have mb:∀ x w',Res w z [cn b s p bad] w' z3 ([cn b s q be] ++ [(b2,.cells [.string ⟨#[]⟩,.bool false].toArray 98 (0,0))])->(x = true ↔ nq l)->Kb [.bool x] w':=by
   intro x w6 hS6 hx;refine hKb _ _ fun _=>?_
   clear hKb hS5;refine aO (fun h=>?_) (fun h=>?_)
   ·have hv:=hx.1 h
    have hv2:=hv.1.1;haveI:InR (1:Int) ((t.size:Int) - 1 + 1):=⟨by decide,by omega⟩
    haveI:InR ((t.size:Int) - 1) ((t.size:Int) + 1):=⟨by omega,by omega⟩
    (repeat (first | refine aA ?_ | (refine aF ?_; intro _ _) | refine aq ?_));refine ⟨_,_,by (first | assumption | (refine Res.sublist ‹_› ?_; simp)),?_,rfl⟩;unfold dn;rw [if_pos hv];have e:t.extract (Int.toNat 1) ((t.size:Int) - 1).toNat = ⟨((l.drop 1).take (l.length - 1 - 1)).toArray⟩:=eZ (by rw [bE ((l.drop 1).take (l.length - 1 - 1)),bB t,hbt,show Int.toNat 1 = 1 from rfl,show ((t.size:Int) - 1).toNat = l.length - 1 by omega]);rw [e]
   ·have hv:¬ nq l:=fun e=>by rw [hx.2 e] at h; cases h
    (repeat (first | refine aA ?_ | (refine aF ?_; intro _ _) | refine aq ?_));refine ⟨_,_,by (first | assumption | (refine Res.sublist ‹_› ?_; simp)),?_,rfl⟩;unfold dn;rw [if_neg hv,ht]
  clear hKb;refine aO (fun h=>?_) (fun h=>?_)
  ·have hv:=hx.1 h
   have hv2:=hv.1;haveI:dI t ((t.size:Int) - 1):=⟨by omega,by omega⟩
   have hget:(bytes t)[t.size - 1]? = some ((bytes t)[t.size - 1]'(by rw [hbt]; omega)):=getElem?_eq_getElem _;have hb1:=eX hget;generalize (bytes t)[t.size - 1]'(by rw [hbt]; omega) = c at hget hb1;rw [hbt,htl] at hget;rw [show ((t.size - 1:Nat):Int) = (t.size:Int) - 1 by omega] at hb1;refine aA ?_;refine aA ?_;refine aA ?_;rw [hb1];refine aA ?_;refine mb _ _ hS5 ?_;rw [decide_eq_true_iff];unfold nq;rw [hget];exact ⟨fun e=>⟨hv,congrArg some (u8_eq.1 e)⟩,fun e=>by rw [Option.some.inj e.2]; rfl⟩
  ·exact mb false _ hS5 ⟨fun h=>(by cases h),fun e=>by rw [hx.2 e.1] at h; cases h⟩
 clear hKa;refine aC (fun h=>?_) (fun h=>?_)
 ·haveI:dI t 0:=⟨by decide,by omega⟩
  have hget:(bytes t)[0]? = some ((bytes t)[0]'(by rw [hbt]; omega)):=getElem?_eq_getElem _;have hb1:=eX (k:=0) hget;generalize (bytes t)[0]'(by rw [hbt]; omega) = c at hget hb1;rw [hbt] at hget;rw [show ((0:Nat):Int) = 0 from rfl] at hb1;refine aA ?_;rw [hb1];refine aA ?_;refine ma _ _ hS4 ?_;rw [decide_eq_true_iff,hget];exact ⟨fun e=>⟨by omega,congrArg some (u8_eq.1 e)⟩,fun e=>by rw [Option.some.inj e.2]; rfl⟩
 ·exact ma false _ hS4 ⟨fun h=>(by cases h),fun e=>absurd e.1 (by omega)⟩)
end
section
theorem vP {z:Z} {w:World} {s:ByteArray}:Fn1 199 #[.string s] z w fun _ r=>r = .int .i64 (cH s):=Fn1.intro fun hS=>en199 (by
 unfold vc199;have hk:cH s = if s = jf then 0 else if s = fu then 1 else if s = fS then 2 else if s = gJ then 3 else if s = jg then 4 else 5:=by
  unfold cH
  by_cases h1:s = jf
  ·subst h1; decide
  ·by_cases h2:s = fu
   ·subst h2; decide
   ·by_cases h3:s = fS
    ·subst h3; decide
    ·by_cases h4:s = gJ
     ·subst h4; decide
     ·simp only [h1,h2,h3,h4,if_false]
 unfold jf fu fS gJ jg at hk;rw [hk];refine aA ?_;refine aC (fun h=>⟨_,_,hS,by rw [if_pos h]⟩) (fun h1=>?_);rw [if_neg h1];refine aA ?_;refine aC (fun h=>⟨_,_,hS,by rw [if_pos h]⟩) (fun h1=>?_);rw [if_neg h1];refine aA ?_;refine aC (fun h=>⟨_,_,hS,by rw [if_pos h]⟩) (fun h1=>?_);rw [if_neg h1];refine aA ?_;refine aC (fun h=>⟨_,_,hS,by rw [if_pos h]⟩) (fun h1=>?_);rw [if_neg h1];refine aA ?_;refine aC (fun h=>⟨_,_,hS,by rw [if_pos h]⟩) (fun h1=>⟨_,_,hS,by rw [if_neg h1]⟩))
end
section
def opN (s:ByteArray):Nat:=(dT s formL 0).getD 0
theorem yK {k:Nat} (h:k < 47):∃ r,rowL[k]? = some r/\∃ f,formL[k]? = some f/\r.name = f.name:=by
 have hf:∀ k:Fin 47,(rowL.getD k.val nw).name = (formL.getD k.val noForm).name:=by decide +kernel
 have h1:rowL.length = 47:=by decide +kernel
 have h2:=iu;refine ⟨rowL[k]'(by omega),getElem?_eq_getElem _,formL[k]'(by omega),getElem?_eq_getElem _,?_⟩;have:=hf ⟨k,h⟩
 simpa [getD_eq_getElem?_getD,h1,h2,h] using this
theorem zJ {z:Z} {w:World} {s:ByteArray}:Fn1 205 #[.string s] z w fun _ r=>r = .int .i64 (opN s:Nat):=Fn1.intro fun hS=>en205 (by
 unfold vc205;refine ap oW ?_;rintro z1 w1 v1 hz1 hS1 ⟨b,rfl,hv⟩
 clear hS;refine bG (fun k x=>x = .int .i64 (k:Nat)/\1 <= k/\k <= 47/\dT s formL 0 = dT s (formL.drop k) k) (fun k=>47 - k) 1 ⟨rfl,Nat.le_refl _,by omega,?_⟩ ?_
 ·show dT s (noForm :: formL.drop 1) 0 = _
  rw [dT,if_neg (by omega)]
 rintro I M k x w2 z2 m ⟨rfl,h1,h2,h3⟩ hz2 hS2 back
 clear hS1;refine aA ?_;refine aA ?_;refine aC (fun h=>?_) (fun h=>?_)
 ·have hk:k < 47:=by omega
  obtain ⟨r,hr,f,hf,hn⟩:=yK hk;obtain ⟨hkl,hfe⟩:=List.getElem?_eq_some_iff.1 hf;rw [drop_eq_getElem_cons hkl,hfe,dT] at h3;haveI:InR (k:Int) (47:Nat):=⟨by omega,by omega⟩
  haveI:InI ((k:Int) + 1):=⟨by omega⟩
  obtain ⟨cs,hrr,hat⟩:=hv.get hr
  cases hrr
  have hat0:=(hat.mono hz2).fld (i:=0) rfl rfl;(repeat (refine aA ?_));refine bL (by simpa [El.row] using hat0) ?_;refine aA ?_;refine aC (fun e=>?_) (fun e=>?_)
  ·rw [if_pos ⟨by rw [<- hn]; exact e,by omega⟩] at h3
   exact ⟨_,_,hS2,by unfold opN; rw [h3]; rfl⟩
  ·rw [if_neg fun q=>e (by rw [hn]; exact q.1)] at h3
   refine aA ?_;exact back (k + 1) _ _ _ ⟨by simp,by omega,by omega,h3⟩ (Le.refl _) hS2 (by omega)
 ·have hk:formL.drop k = []:=drop_of_length_le (by rw [iu]; omega)
  rw [hk] at h3;exact ⟨_,_,hS2,by unfold opN; rw [h3]; rfl⟩)
end
section
abbrev RdM:=Nat × Bool
def aQ (l:List UInt8) (st:RdM):RdM:=iW l st.1 st.2
def af (l:List UInt8) (st:RdM):ByteArray × RdM:=(⟨(cG l st.1).toArray⟩,iY l st.1,gM l st.1 st.2)
def fY (l:List UInt8) (st:RdM):ByteArray × RdM:=(⟨(ip l st.1 st.2).1.toArray⟩,(ip l st.1 st.2).2)
def fC (l:List UInt8) (st:RdM):Int × RdM:=((ly l st.1 st.2).1,iY l st.1,(ly l st.1 st.2).2)
def eu (l:List UInt8) (st:RdM):ItemM × RdM:=(dn (cG l st.1),iY l st.1,gM l st.1 st.2)
def iC (l:List UInt8) (st:RdM):PartM × RdM:=
 let a:=fC l (aQ l st)
 let b:=fY l (aQ l a.2)
 let c:=fC l (aQ l b.2)
 (⟨a.1,b.1,c.1⟩,c.2)
def eT (l:List UInt8):Nat->RdM->List PartM->List PartM × RdM
 | 0,st,acc=>(acc,st)
 | f + 1,st,acc=>if eI l st.1 st.2 = true then (acc,st) else eT l f (iC l st).2 (acc ++ [(iC l st).1])
def eU (l:List UInt8):Nat->RdM->List ItemM->List ItemM × RdM
 | 0,st,acc=>(acc,st)
 | f + 1,st,acc=>if eI l st.1 st.2 = true then (acc,st) else eU l f (eu l (aQ l st)).2 (acc ++ [(eu l (aQ l st)).1])
def fU (l:List UInt8):Nat->RdM->List Int->List Int × RdM
 | 0,st,acc=>(acc,st)
 | f + 1,st,acc=>if eI l st.1 st.2 = true then (acc,st) else fU l f (fC l (aQ l st)).2 (acc ++ [(fC l (aQ l st)).1])
def jc (l:List UInt8) (st:RdM):Bool:=!st.2 && decide (st.1 = l.length)
def qZ (l:List UInt8) (w:ByteArray) (st:RdM):InsM × RdM:=
 let t:=fU l 3 st []
 (⟨(opN w:Nat),t.1.getD 0 0,t.1.getD 1 0,t.1.getD 2 0⟩,t.2.1,(decide (opN w = 0) || decide (t.1.getLast? = some 0)) || t.2.2)
def dP (c:aH) (kind:Int) (l:List UInt8):aH × Int × Bool:=
 let w:=af l (0,false)
 let k:=cH w.1
 if k < kind then (c,k,false) else
 if k = 0 then ({ c with consts:=c.consts ++ [(fY l (aQ l w.2)).1] },k,jc l (fY l (aQ l w.2)).2)
 else if k = 1 then ({ c with tmpls:=c.tmpls ++ [(eT l (l.length + 2) w.2 []).1] },k,jc l (eT l (l.length + 2) w.2 []).2)
 else if k = 2 then ({ c with lists:=c.lists ++ [(eU l (l.length + 2) w.2 []).1] },k,jc l (eU l (l.length + 2) w.2 []).2)
 else if k = 3 then
  let a:=fC l (aQ l w.2)
  let b:=fY l (aQ l a.2)
  ({ c with labels:=c.labels ++ [⟨b.1,a.1⟩] },k,jc l b.2)
 else if k = 4 then ({ c with slots:=c.slots ++ [(af l (aQ l w.2)).1] },k,jc l (af l (aQ l w.2)).2)
 else ({ c with ins:=c.ins ++ [(qZ l w.1 w.2).1] },k,jc l (qZ l w.1 w.2).2)
theorem aw {l:List UInt8} {st:RdM} (h:st.1 <= l.length):(aQ l st).1 <= l.length:=by
 unfold aQ iW
 split
 ·rename_i h1
  obtain ⟨h2,_⟩:=List.getElem?_eq_some_iff.1 h1;exact h2
 ·exact h
theorem zN {l:List UInt8} {st:RdM} (h:st.1 <= l.length):(af l st).2.1 <= l.length:=ov h
theorem fo {l:List UInt8} {st:RdM} (h:st.1 <= l.length):(fC l st).2.1 <= l.length:=ov h
theorem zR {l:List UInt8} {st:RdM} (h:st.1 <= l.length):(eu l st).2.1 <= l.length:=ov h
theorem sb {l:List UInt8} {st:RdM} (h:st.1 <= l.length):(fY l st).2.1 <= l.length:=by
 unfold fY ip
 split
 ·split
  ·exact Nat.le_refl _
  ·exact Nat.sub_le _ _
 ·exact h
theorem zO {l:List UInt8} {st:RdM} (h:st.1 <= l.length):(iC l st).2.1 <= l.length:=
 fo (aw (sb (aw (fo (aw h)))))
theorem bZ {l:List UInt8} {st:RdM} (h:(aQ l st).2 = false):st.2 = false:=by
 unfold aQ iW at h
 split at h
 ·exact h
 ·cases h
theorem vT {l:List UInt8} {st:RdM} (h:(af l st).2.2 = false):st.2 = false:=by
 simp only [af,gM,Bool.or_eq_false_iff] at h;exact h.1
theorem lJ {l:List UInt8} {st:RdM} (h:(eu l st).2.2 = false):st.2 = false:=by
 simp only [eu,gM,Bool.or_eq_false_iff] at h;exact h.1
theorem dQ {l:List UInt8} {st:RdM} (h:(fC l st).2.2 = false):st.2 = false:=by
 simp only [fC,ly,gM,Bool.or_eq_false_iff] at h;exact h.1.1
theorem il {l:List UInt8} {st:RdM} (h:(fY l st).2.2 = false):st.2 = false:=by
 unfold fY ip at h
 split at h
 ·split at h
  ·cases h
  ·exact h
 ·cases h
theorem jL {l:List UInt8} {st:RdM} (h:(aQ l st).2 = false):(aQ l st).1 = st.1 + 1:=by
 unfold aQ iW at h ⊢
 split at h
 ·rename_i h1; rw [if_pos h1]
 ·cases h
theorem pP (l:List UInt8) (st:RdM):st.1 <= (af l st).2.1:=Nat.le_add_right _ _
theorem Av {l:List UInt8} {st:RdM} (hp:st.1 <= l.length):st.1 <= (fY l st).2.1:=by
 unfold fY ip
 split
 ·rename_i h1
  split
  ·exact hp
  ·rename_i h2
   have:=(io _ _ _ _ _ h2).1;obtain ⟨h3,_⟩:=List.getElem?_eq_some_iff.1 h1;rw [length_drop] at this;simp only;omega
 ·exact Nat.le_refl _
end
section
abbrev rdS (b:Nat) (s:ByteArray) (st:RdM):Nat × Obj:=cn b s (st.1:Nat) st.2
abbrev rdP (b:Nat):Value:=.pointer (some ⟨b,0,none⟩)
section
variable {w0 w:World} {z0 z:Z} {B0 T:Bl} {K:RP} {br:Nat} {s:ByteArray} {st:RdM}
theorem gT (hs:s.size <= 1000000) (hp:st.1 <= (bytes s).length) (hS:Res w0 z0 B0 w z (rdS br s st :: T)) (hk:∀ z' w',Le z z'->Res w0 z0 B0 w' z' (rdS br s (aQ (bytes s) st) :: T)->K (.tuple #[]) w'):CV (.func (.func 200) #[] #[]) #[rdP br] w K:=by
 refine bO (B:=[rdS br s st]) (F:=T) hS (tk hs (by rw [aI]; exact hp)) (by simp) ?_;rintro z' B' w' v hz hS' ⟨rfl,rfl⟩
 exact hk _ _ hz hS'
theorem sZ (hs:s.size <= 1000000) (hS:Res w0 z0 B0 w z (rdS br s st :: T)) (hk:∀ z' w',Le z z'->Res w0 z0 B0 w' z' (rdS br s st :: T)->K (.bool (eI (bytes s) st.1 st.2)) w'):CV (.func (.func 202) #[] #[]) #[rdP br] w K:=by
 refine bO (B:=[rdS br s st]) (F:=T) hS (tj hs) (by simp) ?_;rintro z' B' w' v hz hS' ⟨rfl,rfl⟩
 exact hk _ _ hz hS'
theorem zL (hs:s.size <= 1000000) (hp:st.1 <= (bytes s).length) (hS:Res w0 z0 B0 w z (rdS br s st :: T)) (hk:∀ z' w',Le z z'->Res w0 z0 B0 w' z' (rdS br s (af (bytes s) st).2 :: T)->K (.string (af (bytes s) st).1) w'):CV (.func (.func 198) #[] #[]) #[rdP br] w K:=by
 refine bO (B:=[rdS br s st]) (F:=T) hS (lG hs (by rw [aI]; exact hp)) (by simp) ?_;rintro z' B' w' v hz hS' ⟨rfl,rfl⟩
 exact hk _ _ hz hS'
theorem zM (hs:s.size <= 1000000) (hp:st.1 <= (bytes s).length) (hS:Res w0 z0 B0 w z (rdS br s st :: T)) (hk:∀ z' w',Le z z'->Res w0 z0 B0 w' z' (rdS br s (fY (bytes s) st).2 :: T)->K (.string (fY (bytes s) st).1) w'):CV (.func (.func 201) #[] #[]) #[rdP br] w K:=by
 refine bO (B:=[rdS br s st]) (F:=T) hS (qW hs (by rw [aI]; exact hp)) (by simp) ?_;rintro z' B' w' v hz hS' ⟨rfl,rfl⟩
 exact hk _ _ hz hS'
theorem sY (hs:s.size <= 1000000) (hp:st.1 <= (bytes s).length) (hS:Res w0 z0 B0 w z (rdS br s st :: T)) (hk:∀ z' w',Le z z'->Res w0 z0 B0 w' z' (rdS br s (fC (bytes s) st).2 :: T)->K (.int .i64 (fC (bytes s) st).1) w'):CV (.func (.func 203) #[] #[]) #[rdP br] w K:=by
 refine bO (B:=[rdS br s st]) (F:=T) hS (th hs (by rw [aI]; exact hp)) (by simp) ?_;rintro z' B' w' v hz hS' ⟨rfl,rfl⟩
 exact hk _ _ hz hS'
theorem CX (hs:s.size <= 1000000) (hp:st.1 <= (bytes s).length) (hS:Res w0 z0 B0 w z (rdS br s st :: T)) (hk:∀ z' w',Le z z'->Res w0 z0 B0 w' z' (rdS br s (eu (bytes s) st).2 :: T)->K (eu (bytes s) st).1.v w'):CV (.func (.func 204) #[] #[]) #[rdP br] w K:=by
 refine bO (B:=[rdS br s st]) (F:=T) hS (vQ hs (by rw [aI]; exact hp)) (by simp) ?_;rintro z' B' w' v hz hS' ⟨rfl,rfl⟩
 exact hk _ _ hz hS'
end
def ReadD (bc:Nat) (z:Z) (c:aH) (B:Bl):Prop:=∃ v1 v2 v3 v4 v5 v6 B1 B2 B3 B4 B5 B6 u1 u2 u3 u4 u5 u6,
 B = (bc,.cells [v1,v2,v3,v4,v5,v6].toArray 28 (0,0)) :: (B1 ++ (B2 ++ (B3 ++ (B4 ++ (B5 ++ (B6 ++ [])))))) /\
 OwnSl 9 1 B1 v1 c.consts.length u1/\Lsl El.str z u1 c.consts/\OwnSl 93 1 B2 v2 c.tmpls.length u2/\Lsl (El.sl El.part) z u2 c.tmpls/\OwnSl 96 1 B3 v3 c.lists.length u3/\Lsl (El.sl El.item) z u3 c.lists /\
 OwnSl 54 2 B4 v4 c.labels.length u4/\Lsl El.spot z u4 c.labels/\OwnSl 9 1 B5 v5 c.slots.length u5/\Lsl El.str z u5 c.slots/\OwnSl 38 4 B6 v6 c.ins.length u6/\Lsl El.ins z u6 c.ins
theorem nH (l:List UInt8) (st:RdM):(fY l st).1.size <= l.length:=by
 have:(fY l st).1.size = (ip l st.1 st.2).1.length:=rfl;rw [this];unfold ip
 split
 ·split
  ·simp
  ·rename_i h2
   have:=(io _ _ _ _ _ h2).2;rw [length_drop,length_nil] at this;simp only;omega
 ·simp
theorem ou (l:List UInt8) (p:Nat):(cG l p).length <= l.length:=by
 unfold cG;have h1:=(takeWhile_prefix (p:=(· ≠ (32:UInt8))) (l:=l.drop p)).length_le;rw [length_drop] at h1;omega
theorem vS (l:List UInt8) (st:RdM):(af l st).1.size <= l.length:=ou l st.1
theorem vV (l:List UInt8) (st:RdM):(eu l st).1.name.size <= l.length:=by
 have:=ou l st.1;unfold eu dn
 split
 ·show ((cG l st.1).drop 1 |>.take _).length <= _
  rw [length_take,length_drop];omega
 ·exact this
theorem vU (l:List UInt8) (st:RdM):(iC l st).1.text.size <= l.length:=nH _ _
theorem zP {l:List UInt8} {st:RdM} (hp:st.1 <= l.length) (h:(iC l st).2.2 = false):st.1 + 1 <= (iC l st).2.1:=by
 have h5:=bZ (dQ h);have h4:=il h5;have h3:=bZ h4;have h2:=dQ h3;have e1:=jL h2;have e2:=jL h4;have e3:=jL (dQ h);have p1:=fo (aw hp);have p2:=aw p1;have g1:=pP l (aQ l st);have g2:=Av p2;have g3:=pP l (aQ l (fY l (aQ l (fC l (aQ l st)).2)).2)
 show st.1 + 1 <= (fC l (aQ l (fY l (aQ l (fC l (aQ l st)).2)).2)).2.1
 have k1:(fC l (aQ l st)).2.1 = (af l (aQ l st)).2.1:=rfl;have k2:(fC l (aQ l (fY l (aQ l (fC l (aQ l st)).2)).2)).2.1 = (af l (aQ l (fY l (aQ l (fC l (aQ l st)).2)).2)).2.1:=rfl;omega
theorem zS {l:List UInt8} {st:RdM} (h:(eu l (aQ l st)).2.2 = false):st.1 + 1 <= (eu l (aQ l st)).2.1:=by
 have e1:=jL (lJ h);have g1:=pP l (aQ l st);have k1:(eu l (aQ l st)).2.1 = (af l (aQ l st)).2.1:=rfl;omega
theorem rG {l:List UInt8} {st:RdM} (hp:st.1 <= l.length) (h:eI l st.1 st.2 = false):st.2 = false/\st.1 < l.length:=by
 unfold eI at h;simp only [Bool.or_eq_false_iff,decide_eq_false_iff_not] at h;exact ⟨h.1,by omega⟩
end
end Go.Proofs.YtbeelfopmkbllaaGreatDoor
