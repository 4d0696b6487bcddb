/- Texts joined: C29, C30, C31, C32, C33, C34, C35, C36, C37, C38, C39, C40, C41, C42, C43, C44. -/
import Derived.Test.YtbeelfopmkbllaaGreatDoorM4
import Derived.Shelf.Strconv.Itoa3
import Derived.Shelf.LaysM
import Derived.Lib.ItoaLen
set_option linter.unusedSimpArgs false
set_option linter.unusedVariables false
set_option linter.unusedSectionVars false
set_option maxRecDepth 20000
set_option synthInstance.maxHeartbeats 4000000
set_option synthInstance.maxSize 20000
set_option maxHeartbeats 1000000
namespace Go.Proofs.YtbeelfopmkbllaaGreatDoor
open Go Q Go.RowKit
open _root_.List
section
def CP (R:RP) (w:World) (t1 t2 t8 t9 t205a:Value):Prop:=
(V (fa 28 t1 3) w fun t178 w=>V (ld 25 t178) w fun t179 w=>V (Builtin.len_ #[25] 3 #[t179]) w fun t180 w=>∃ (I4:LP) (M4:LN),I4 [(.int .i64 0)] w/\∀ g:Env,∀ t181,∀ w,I4 [t181] w->∀ m4,m4 = M4 [t181] w ->
 V (bi .lss 3 t181 t180) w fun t182 w=>aB t182
 (V (ia 25 t179 t181) w fun t183 w=>V (ld 54 t183) w fun t184 w=>V (al 54) w fun t27 w=>U (st 54 t27 t184) w fun w=>Dr w fun w=>PV (fa 28 t9 3) fun t185=>HV (ld 25 t185) w fun t186=>PV (fa 54 t27 0) fun t187=>HV (ld 9 t187) w fun t188=>HV (ld 45 t8) w fun t189=>PV (fa 54 t27 1) fun t190=>HV (ld 3 t190) w fun t191=>PV (ia 45 t189 t191) fun t192=>HV (ld 3 t192) w fun t193=>PV (bd 54 #[(0,t188),(1,t193)]) fun t194=>V (bs 25 1 #[(0,t194)]) w fun t195 w=>aM (ld 3 t192) w t193/\aM (ld 3 t190) w t191/\aM (ld 45 t8) w t189/\aM (ld 9 t187) w t188/\aM (ld 25 t185) w t186/\(V (Builtin.append_ #[25,25] 25 #[t186,t195]) w fun t196 w=>aM (ld 3 t192) w t193/\aM (ld 3 t190) w t191/\aM (ld 45 t8) w t189/\aM (ld 9 t187) w t188/\(PV (fa 28 t9 3) fun t197=>U (st 25 t197 t196) w fun w=>V (bi .add 3 t181 (.int .i64 1)) w fun t198 w=>
 I4 [t198] w/\M4 [t198] w < m4)))
 (V (fa 28 t1 4) w fun t199 w=>V (ld 22 t199) w fun t200 w=>CV (.func (.func 69) #[] #[]) #[t200] w fun t201 w=>V (fa 28 t9 4) w fun t202 w=>U (st 22 t202 t201) w fun w=>Dr w fun w=>HV (ld 28 t9) w fun t203=>HV (ld 45 t8) w fun t204=>U (st 28 t2 t203) w fun w=>aM (ld 45 t8) w t204/\(gS (dV t205a) w fun w=>CW 28 t2 w fun t1002=>R (.tuple #[t1002,t204,(.int .i64 0)]) w)))
def CQ (R:RP) (w:World) (t1 t2 t8 t9 t205a:Value):Prop:=
(V (fa 28 t9 1) w fun t144 w=>V (ld 23 t144) w fun t145 w=>V (Builtin.len_ #[23] 3 #[t145]) w fun t146 w=>∃ (I2:LP) (M2:LN),I2 [(.int .i64 0)] w/\∀ g:Env,∀ t147,∀ w,I2 [t147] w->∀ m2,m2 = M2 [t147] w ->
 V (bi .lss 3 t147 t146) w fun t148 w=>aB t148
 (Dr w fun w=>PV (fa 28 t9 1) fun t150=>HV (ld 23 t150) w fun t151=>PV (fa 28 t9 1) fun t153=>HV (ld 23 t153) w fun t154=>PV (ia 23 t154 t147) fun t156=>HV (ld 93 t156) w fun t157=>CV (.func (.func 67) #[] #[]) #[t157] w fun t158 w=>aM (ld 23 t153) w t154/\aM (ld 23 t150) w t151/\(PV (ia 23 t151 t147) fun t159=>U (st 93 t159 t158) w fun w=>V (bi .add 3 t147 (.int .i64 1)) w fun t160 w=>
 I2 [t160] w/\M2 [t160] w < m2))
 (V (fa 28 t9 2) w fun t161 w=>V (ld 24 t161) w fun t162 w=>V (Builtin.len_ #[24] 3 #[t162]) w fun t163 w=>∃ (I3:LP) (M3:LN),I3 [(.int .i64 0)] w/\∀ g:Env,∀ t164,∀ w,I3 [t164] w->∀ m3,m3 = M3 [t164] w ->
 V (bi .lss 3 t164 t163) w fun t165 w=>aB t165
 (Dr w fun w=>PV (fa 28 t9 2) fun t167=>HV (ld 24 t167) w fun t168=>PV (fa 28 t9 2) fun t170=>HV (ld 24 t170) w fun t171=>PV (ia 24 t171 t164) fun t173=>HV (ld 96 t173) w fun t174=>CV (.func (.func 68) #[] #[]) #[t174] w fun t175 w=>aM (ld 24 t170) w t171/\aM (ld 24 t167) w t168/\(PV (ia 24 t168 t164) fun t176=>U (st 96 t176 t175) w fun w=>V (bi .add 3 t164 (.int .i64 1)) w fun t177 w=>
 I3 [t177] w/\M3 [t177] w < m3))
 (CP R w t1 t2 t8 t9 t205a)))
def DD (R:RP) (w:World) (t1 t2 t8 t9 t10 t205:Value):Prop:=
(V (al 124) w fun t16 w=>V (al 124) w fun t17 w=>V (al 124) w fun t18 w=>V (fa 28 t1 0) w fun t89 w=>V (ld 22 t89) w fun t90 w=>V (fa 117 t10 0) w fun t91 w=>V (ld 115 t91) w fun t92 w=>CV (.func (.func 63) #[] #[]) #[t90,t92] w fun t93 w=>V (ex t93 0) w fun t94 w=>V (ex t93 1) w fun t95 w=>V (fa 28 t9 0) w fun t96 w=>U (st 22 t96 t94) w fun w=>U (st 124 t16 t95) w fun w=>V (fa 28 t1 1) w fun t98 w=>V (ld 23 t98) w fun t99 w=>V (fa 117 t10 1) w fun t100 w=>V (ld 115 t100) w fun t101 w=>CV (.func (.func 64) #[] #[]) #[t99,t101] w fun t102 w=>V (ex t102 0) w fun t103 w=>V (ex t102 1) w fun t104 w=>V (fa 28 t9 1) w fun t105 w=>U (st 23 t105 t103) w fun w=>U (st 124 t17 t104) w fun w=>V (fa 28 t1 2) w fun t107 w=>V (ld 24 t107) w fun t108 w=>V (fa 117 t10 2) w fun t109 w=>V (ld 115 t109) w fun t110 w=>CV (.func (.func 65) #[] #[]) #[t108,t110] w fun t111 w=>V (ex t111 0) w fun t112 w=>V (ex t111 1) w fun t113 w=>V (fa 28 t9 2) w fun t114 w=>U (st 24 t114 t112) w fun w=>U (st 124 t18 t113) w fun w=>V (al 131) w fun t19 w=>U (st 131 t19 (.func (.func 66) #[] #[t8,t17,t18,t10,t16])) w fun w=>V (fa 28 t9 5) w fun t116 w=>V (ld 26 t116) w fun t117 w=>V (Builtin.len_ #[26] 3 #[t117]) w fun t118 w=>∃ (I1:LP) (M1:LN),I1 [t205,(.int .i64 0)] w/\∀ g:Env,∀ t205a,∀ t119,∀ w,I1 [t205a,t119] w->∀ m1,m1 = M1 [t205a,t119] w ->
 V (bi .lss 3 t119 t118) w fun t120 w=>aB t120
 (V (fa 28 t9 5) w fun t122 w=>V (ld 26 t122) w fun t123 w=>V (ia 26 t123 t119) w fun t125 w=>V (ld 38 t125) w fun t126 w=>V (al 38) w fun t21 w=>U (st 38 t21 t126) w fun w=>CV (.func (.func 61) #[] #[]) #[t21] w fun t127 w=>∀ (lp0:Loop) (r0 l0:Nat) (w1:World),qQ w w1 r0 l0 lp0 ->
 (∀ (w:World) (Kl0:RP),∀ t128,∀ t129,(lg l0 lp0 w fun w=>Dr w fun w=>HV (ld 131 t19) w fun t131=>aa t129 fun t134=>HV (ld 3 t134) w fun t135=>CV t131 #[t128,t135] w fun t136 w=>aa t129 fun t137=>U (st 3 t137 t136) w fun w=>
 qR l0 lp0 none w Kl0)->w.heap[l0]? = some (dC lp0 .ready none)->CV (.func (.yield l0) #[] #[]) #[t128,t129] w Kl0) ->
 CE t127 #[.func (.yield l0) #[] #[]] w1 fun _ w=>qP l0 lp0 w (fun w=>V (fa 28 t9 5) w fun t138 w=>V (ld 26 t138) w fun t139 w=>V (ld 38 t21) w fun t141 w=>V (ia 26 t139 t119) w fun t142 w=>U (st 38 t142 t141) w fun w=>V (bi .add 3 t119 (.int .i64 1)) w fun t143 w=>
 I1 [(.iface r0 t205a),t143] w/\M1 [(.iface r0 t205a),t143] w < m1) (fun w=>
 gS (dV (.iface r0 t205a)) w fun w=>CW 28 t2 w fun t1002=>R (.tuple #[t1002,(.slice none 0 0),(.int .i64 0)]) w) [])
 (CQ R w t1 t2 t8 t9 t205a))
end
section
def rq (z:Z) (r:Value) (c:aH):Prop:=∃ cv av,r = .tuple #[cv,av,.int .i64 (ag c).1]/\CodeR z cv (ng c)/\SlR El.int z av (vB c)
abbrev aJ:Value:=.slice none 0 0
def pS (c:aH) (s:SpotM):SpotM:=⟨s.name,(atM c).getD s.at_.toNat 0⟩
theorem DF {R:RP} {z:Z} {w:World} {c:aH} {bc b2 b8 b9:Nat} {x vat v1 v2 v3 v6:Value} {rs:List Nat} {a1 a2 a3 a4 a5 a6:Option Addr} {k1 k2 k3 k4 k5 k6:Nat}
  (hS:Res w z ((b9,.cells [v1,v2,v3,aJ,aJ,v6].toArray 28 (0,0)) :: (b2,.cells [aJ,aJ,aJ,aJ,aJ,aJ].toArray 28 (0,0)) :: bQ rs) w z ((b9,.cells [v1,v2,v3,aJ,aJ,v6].toArray 28 (0,0)) :: (b2,.cells [aJ,aJ,aJ,aJ,aJ,aJ].toArray 28 (0,0)) :: bQ rs))
  (hR:∀ z' w' L' r,Res w z ((b9,.cells [v1,v2,v3,aJ,aJ,v6].toArray 28 (0,0)) :: (b2,.cells [aJ,aJ,aJ,aJ,aJ,aJ].toArray 28 (0,0)) :: bQ rs) w' z' L'->rq z' r c->R r w') (hmx:dV x = rs) (hck:(ag c).1 = 0)
  (hatc:At z bc 0 (dq a1 a2 a3 a4 a5 a6 k1 k2 k3 k4 k5 k6 c)) (h4:SlR El.spot z (.slice a4 c.labels.length k4) c.labels) (h5:SlR El.str z (.slice a5 c.slots.length k5) c.slots)
  (hat8:At z b8 0 [vat]) (hvat:SlR El.int z vat (atM c)) (g1:SlR El.str z v1 (bT c).consts) (g2:SlR (El.sl El.part) z v2 (bT c).tmpls) (g3:SlR (El.sl El.item) z v3 (bT c).lists) (g6:SlR El.ins z v6 (bT c).ins) :
  CP R w (.pointer (some ⟨bc,0,none⟩)) (.pointer (some ⟨b2,0,none⟩)) (.pointer (some ⟨b8,0,none⟩)) (.pointer (some ⟨b9,0,none⟩)) x:=by
 obtain ⟨e0,hli,hpa,hri,_,_⟩:=gG hck;have hbd:=dW hli;have hlab:=nM hpa;obtain ⟨_,av1,cv1,rfl,_,_⟩:=g1.form;obtain ⟨_,av2,cv2,rfl,_,_⟩:=g2.form;obtain ⟨_,av3,cv3,rfl,_,_⟩:=g3.form;obtain ⟨_,av6,cv6,rfl,_,_⟩:=g6.form;obtain ⟨_,at_,ct,rfl,_,helt⟩:=hvat.form;have hatl:(atM c).length = c.ins.length:=by simp [atM]
 unfold CP;haveI:Fz z bc 3 [.slice a4 c.labels.length k4]:=⟨hatc.fld (i:=3) rfl rfl⟩
 haveI:Fz z bc 4 [.slice a5 c.slots.length k5]:=⟨hatc.fld (i:=4) rfl rfl⟩
 haveI:Fz z b8 0 [.slice at_ (atM c).length ct]:=⟨hat8⟩
 (repeat (first | refine aA ?_ | refine aL ?_));refine cC (fun (k:Nat) y w'=>y = .int .i64 k/\k <= c.labels.length/\∃ vl Bl z',Le z z'/\OwnSl 54 2 Bl vl k ((c.labels.take k).flatMap fun s=>(pS c s).cells)/\Res w z ((b9,.cells [.slice av1 (bT c).consts.length cv1,.slice av2 (bT c).tmpls.length cv2,.slice av3 (bT c).lists.length cv3,aJ,aJ,.slice av6 (bT c).ins.length cv6].toArray 28 (0,0)) :: (b2,.cells [aJ,aJ,aJ,aJ,aJ,aJ].toArray 28 (0,0)) :: bQ rs) w' z' ((b9,.cells [.slice av1 (bT c).consts.length cv1,.slice av2 (bT c).tmpls.length cv2,.slice av3 (bT c).lists.length cv3,vl,aJ,.slice av6 (bT c).ins.length cv6].toArray 28 (0,0)) :: (b2,.cells [aJ,aJ,aJ,aJ,aJ,aJ].toArray 28 (0,0)) :: (Bl ++ bQ rs))) (fun k=>c.labels.length - k) 0 ⟨rfl,by omega,aJ,[],z,Le.refl _,OwnSl.nil,hS⟩ ?_;rintro I M k y w1 m ⟨rfl,hk,vl,Bl,z1,hz1,ho,hS1⟩ back
 obtain ⟨avl,cvl,rfl,_⟩:=ho.form;obtain ⟨_,ai,ki,he,_,hel⟩:=h4.form
 cases he
 (repeat (refine aA ?_));refine aC (fun h=>?_) (fun h=>?_)
 ·have hlt:k < c.labels.length:=by omega
  haveI:InR (k:Int) (c.labels.length:Nat):=⟨by omega,by omega⟩
  haveI:InI ((k:Int) + 1):=⟨by omega⟩
  obtain ⟨b,off,cs,rfl,⟨rfl,hs⟩,hat⟩:=hel _ _ (getElem?_eq_getElem hlt);haveI:Fz z b (off + (k:Int).toNat * 2) (c.labels[k].cells):=⟨hat⟩
  have hin:=hlab _ (getElem_mem hlt);have hal:c.labels[k].at_.toNat < (atM c).length:=by omega
  haveI:InR c.labels[k].at_ ((atM c).length:Nat):=⟨by omega,by omega⟩
  obtain ⟨bt,offt,cst,rfl,rfl,hatt⟩:=helt _ _ (getElem?_eq_getElem hal);haveI:Fz z bt (offt + c.labels[k].at_.toNat * 1) [.int .i64 (atM c)[c.labels[k].at_.toNat]]:=⟨hatt⟩
  (repeat (first | (refine iDr ?_; intro _ _) | refine aA ?_ | refine aK ?_ | (refine aP ?_; intro _ _ _ _) | (refine aF ?_; intro _ _) | refine aW ?_ | refine bV ?_ | refine bz ?_));refine je (parts:=[(0,_)]) rfl (by omega) ?_;intro bl w3 hbl hS3;(repeat (first | refine bN ?_ | refine cZ ?_));have hatl2:At (hp w3) bl 0 (pS c c.labels[k]).cells:=⟨_,_,_,(hS3.mem _ mem_cons_self).1,fun j u hu=>by
   have e:(atM c)[c.labels[k].at_.toNat] = (pS c c.labels[k]).at_:=by rw [pS,getD_eq_getElem?_getD,getElem?_eq_getElem hal]; rfl
   simp only [e];rw [Nat.zero_add];simp only [append_nil,getElem?_toArray];exact hu⟩
  refine xG (B:=Bl) (m:=1) (hS3.bring Bl) ho hatl2 rfl (fun u hu=>by simp only [SpotM.cells,mem_cons,not_mem_nil,or_false] at hu; rcases hu with rfl | rfl <;> rfl) (by omega) (by simp only [room]; omega) (by simp only [room]; omega) ?_;intro B5 v5 w5 ho5 hS5;obtain ⟨a5',c5',rfl,_⟩:=ho5.form;clear hS3;(repeat (first | refine aA ?_ | refine aK ?_ | (refine aF ?_; intro _ _) | refine bN ?_ | refine cZ ?_));rename_i hS6;have hS7:=hS6.keep [.at b9,.at b2,.bl B5,.bl (bQ rs)];rw [append_nil] at hS7;refine back (k + 1) _ _ ⟨by simp,by omega,_,B5,_,hz1,?_,hS7⟩ (by omega);rw [<- take_append_getElem hlt,flatMap_append]
  simpa using ho5
 ·have hk2:k = c.labels.length:=by omega
  subst hk2;rw [take_of_length_le (Nat.le_refl _)] at ho;(repeat (first | refine aA ?_ | refine aL ?_));rename_i hS2;refine ap (yT (h5.mono hz1) (by omega)) ?_;rintro z3 w3 v5 hz3 hS3 hv5
  obtain ⟨_,a5',c5',rfl,_,_⟩:=hv5.form;clear hS2 hS1;(repeat (first | (refine iDr ?_; intro _ _) | refine aA ?_ | (refine aF ?_; intro _ _) | refine aq ?_ | refine cZ ?_ | refine bz ?_));rename_i w4 hS4;rw [hmx];refine nQ rs (hS4.bring (bQ rs)) ?_;intro w6 hS6;(repeat (refine aq ?_));have hS7:=hS6.bring Bl;obtain ⟨z8,hz8,hS8,hv4⟩:=Res.freezeSl (E:=El.spot) (e:=54) (xs:=c.labels.map (pS c)) (f:=SpotM.cells) hS7 (by rw [flatMap_map,length_map]; exact ho) (by rw [length_map]; simp only [big]; omega) (fun _=>rfl) (fun z' s hm=>by
   obtain ⟨s',hm',rfl⟩:=List.mem_map.1 hm;obtain ⟨j,hj⟩:=List.mem_iff_getElem?.1 hm';obtain ⟨_,_,cs,_,⟨_,hsz⟩,_⟩:=hel j s' hj;exact ⟨rfl,hsz⟩)
  have hzz:Le z z8:=by (repeat (exact Res.zle (by assumption)))
  refine hR _ _ _ _ hS8 ⟨_,_,by rw [hck],⟨_,_,_,_,_,_,rfl,?_,?_,?_,?_,?_,?_⟩,?_⟩
  ·rw [ng,if_pos hck]; exact g1.mono hzz
  ·rw [ng,if_pos hck]; exact g2.mono hzz
  ·rw [ng,if_pos hck]; exact g3.mono hzz
  ·rw [ng,if_pos hck]; exact hv4
  ·rw [ng,if_pos hck]; exact hv5.mono hz8
  ·rw [ng,if_pos hck]; exact g6.mono hzz
  ·rw [vB,if_pos hck]; exact hvat.mono hzz
end
section
theorem OwnSl.el {e n k:Nat} {B:Bl} {v:Value} {xs:List Value} (h:OwnSl e 1 B v n xs) (hk:k < n):∃ (b cap:Nat) (C:List Value),v = .slice (some ⟨b,0,none⟩) n cap/\B = [(b,.cells C.toArray e (0,0))]/\k < C.length/\C[k]? = xs[k]?/\∀ u,OwnSl e 1 [(b,.cells (C.set k u).toArray e (0,0))] v n (xs.set k u):=by
 rcases h.2 with ⟨_,_,h0⟩ | ⟨b,cap,sp,rfl,rfl,h1,h2,h3⟩
 ·omega
 ·have hxn:xs.length = n:=by have:=h.1; omega
  refine ⟨b,cap,xs ++ sp,rfl,rfl,by simp; omega,getElem?_append_left (by omega),fun u=>⟨by simp [hxn],.inr ⟨b,cap,sp,?_,rfl,h1,h2,by simp at h3 ⊢; omega⟩⟩⟩;rw [set_append_left _ _ (by omega)]
theorem KeptR.set {α:Type} {E:El α} {z:Z} {xs:List α} {ks:List Nat} {us:List Value} (h:KeptR E z xs ks us) {k i:Nat} {x:α} {u:Value} (hk:ks[k]? = some i) (hx:xs[i]? = some x) (hu:E.rel z [u] x) (h1:gB u = true):KeptR E z xs ks (us.set k u) where
 len:=by rw [length_set]; exact h.len
 one:=fun v hv=>by
  rcases mem_or_eq_of_mem_set hv with hv | rfl
  ·exact h.one v hv
  ·exact h1
 at_:=fun j i' hj=>by
  by_cases e:k = j
  ·subst e
   rw [hk] at hj; cases hj;have hlt:k < us.length:=by rw [h.len]; exact (List.getElem?_eq_some_iff.1 hk).1
   exact ⟨u,x,by rw [getElem?_set_self hlt],hx,hu⟩
  ·obtain ⟨u',x',g1,g2,g3⟩:=h.at_ j i' hj
   exact ⟨u',x',by rw [getElem?_set_ne e]; exact g1,g2,g3⟩
theorem kV {α:Type} {xs:List α}:∀ {ks:List Nat},(∀ i ∈ ks,i < xs.length)->(gh xs ks).length = ks.length/\∀ j:Nat,(gh xs ks)[j]? = (ks[j]?).bind fun i=>xs[i]?
 | [],_=>⟨rfl,fun j=>by simp [gh]⟩
 | i :: ks,h=>by
  have hi:xs[i]? = some (xs[i]'(h i mem_cons_self)):=getElem?_eq_getElem _;have he:gh xs (i :: ks) = xs[i]'(h i mem_cons_self) :: gh xs ks:=by unfold gh; rw [filterMap_cons,hi]
  obtain ⟨h1,h2⟩:=@kV _ xs ks (fun j hj=>h j (mem_cons_of_mem _ hj));rw [he];refine ⟨by simp [h1],fun j=>?_⟩
  cases j with
  | zero=>simp [hi]
  | succ j=>simpa using h2 j
theorem lR {α:Type} {E:El α} {w0 w:World} {z0 z:Z} {B0 B L:Bl} {e:Nat} {sl:Value} {xs:List α} {ks:List Nat} {us:List Value} (hE:E.size = 1) (hS:Res w0 z0 B0 w z (B ++ L)) (ho:OwnSl e 1 B sl ks.length us) (hk:KeptR E z xs ks us) (hb:ks.length <= big) :
  ∃ z',Le z z'/\Res w0 z0 B0 w z' L/\SlR E z' sl (gh xs ks):=by
 have hin:∀ i ∈ ks,i < xs.length:=fun i hi=>by
  obtain ⟨j,hj⟩:=List.mem_iff_getElem?.1 hi;obtain ⟨u,x,_,g2,_⟩:=hk.at_ j i hj;exact (List.getElem?_eq_some_iff.1 g2).1
 obtain ⟨p1,p2⟩:=kV hin
 rcases ho.2 with ⟨rfl,rfl,h0⟩ | ⟨b,cap,sp,rfl,rfl,h1,h2,h3⟩
 ·have:gh xs ks = []:=eq_nil_of_length_eq_zero (by rw [p1]; exact h0)
  rw [this];exact ⟨z,Le.refl _,hS,SlR.nil⟩
 ·refine ⟨_,Res.freeze_le hS,Res.freeze hS,some ⟨b,0,none⟩,cap,by rw [p1],by rw [p1]; exact h1,by rw [p1]; exact hb,fun _=>⟨b,0,rfl,fun j x hx=>?_⟩⟩
  rw [p2] at hx
  cases hks:ks[j]? with
  | none=>rw [hks] at hx; cases hx
  | some i=>
   rw [hks] at hx;obtain ⟨u,x',g1,g2,g3⟩:=hk.at_ j i hks;have hxx:x' = x:=by rw [show (some i).bind (fun i=>xs[i]?) = xs[i]? from rfl,g2] at hx; exact Option.some.inj hx
   subst hxx;refine ⟨[u],E.mono g3 (Res.freeze_le hS),_,_,_,if_pos rfl,fun q v hv=>?_⟩;have hq:q = 0:=by have:=(List.getElem?_eq_some_iff.1 hv).1; simpa using this
   subst hq;simp only [getElem?_cons_zero,Option.some.injEq] at hv;subst hv;rw [hE];simp only [Nat.zero_add,Nat.mul_one,Nat.add_zero,getElem?_toArray];rw [getElem?_append_left (List.getElem?_eq_some_iff.1 g1).1];exact g1
theorem DG {R:RP} {z:Z} {w:World} {c:aH} {bc b2 b8 b9:Nat} {x vat v1 v2 v3 v6:Value} {rs:List Nat} {B2 B3:Bl} {us2 us3:List Value} {a1 a2 a3 a4 a5 a6:Option Addr} {k1 k2 k3 k4 k5 k6:Nat}
  (hS:Res w z ((b9,.cells [v1,v2,v3,aJ,aJ,v6].toArray 28 (0,0)) :: (b2,.cells [aJ,aJ,aJ,aJ,aJ,aJ].toArray 28 (0,0)) :: (B2 ++ (B3 ++ bQ rs))) w z ((b9,.cells [v1,v2,v3,aJ,aJ,v6].toArray 28 (0,0)) :: (b2,.cells [aJ,aJ,aJ,aJ,aJ,aJ].toArray 28 (0,0)) :: (B2 ++ (B3 ++ bQ rs))))
  (hR:∀ z' w' L' r,Res w z ((b9,.cells [v1,v2,v3,aJ,aJ,v6].toArray 28 (0,0)) :: (b2,.cells [aJ,aJ,aJ,aJ,aJ,aJ].toArray 28 (0,0)) :: (B2 ++ (B3 ++ bQ rs))) w' z' L'->rq z' r c->R r w') (hmx:dV x = rs) (hck:(ag c).1 = 0)
  (hatc:At z bc 0 (dq a1 a2 a3 a4 a5 a6 k1 k2 k3 k4 k5 k6 c)) (h2:SlR (El.sl El.part) z (.slice a2 c.tmpls.length k2) c.tmpls) (h3:SlR (El.sl El.item) z (.slice a3 c.lists.length k3) c.lists) (hl2:∀ l ∈ c.tmpls,l.length <= 1000000) (hl3:∀ l ∈ c.lists,l.length <= 1000000)
  (h4:SlR El.spot z (.slice a4 c.labels.length k4) c.labels) (h5:SlR El.str z (.slice a5 c.slots.length k5) c.slots)
  (hat8:At z b8 0 [vat]) (hvat:SlR El.int z vat (atM c)) (g1:SlR El.str z v1 (bT c).consts)
  (o2:OwnSl 93 1 B2 v2 (bf (cp c).s2 c.tmpls.length).length us2) (q2:KeptR (El.sl El.part) z c.tmpls (bf (cp c).s2 c.tmpls.length) us2) (o3:OwnSl 96 1 B3 v3 (bf (cp c).s3 c.lists.length).length us3) (q3:KeptR (El.sl El.item) z c.lists (bf (cp c).s3 c.lists.length) us3)
  (g6:SlR El.ins z v6 (bT c).ins) :
  CQ R w (.pointer (some ⟨bc,0,none⟩)) (.pointer (some ⟨b2,0,none⟩)) (.pointer (some ⟨b8,0,none⟩)) (.pointer (some ⟨b9,0,none⟩)) x:=by
 obtain ⟨e0,hli,hpa,hri,_,_⟩:=gG hck;have hbd:=dW hli;have hn2:=@kY (cp c).s2 c.tmpls.length;have hn3:=@kY (cp c).s3 c.lists.length;obtain ⟨_,av1,cv1,rfl,_,_⟩:=g1.form;obtain ⟨av2,cv2,rfl,_⟩:=o2.form;obtain ⟨av3,cv3,rfl,_⟩:=o3.form;obtain ⟨_,av6,cv6,rfl,_,_⟩:=g6.form;generalize hks2:bf (cp c).s2 c.tmpls.length = ks2 at *;generalize hks3:bf (cp c).s3 c.lists.length = ks3 at *;unfold CQ;generalize hLL:(b9,Obj.cells [Value.slice av1 (bT c).consts.length cv1,.slice av2 ks2.length cv2,.slice av3 ks3.length cv3,aJ,aJ,.slice av6 (bT c).ins.length cv6].toArray 28 (0,0)) :: (b2,.cells [aJ,aJ,aJ,aJ,aJ,aJ].toArray 28 (0,0)) :: (B2 ++ (B3 ++ bQ rs)) = LL at hR;have hS0:Res w z LL w z ((b9,Obj.cells [Value.slice av1 (bT c).consts.length cv1,.slice av2 ks2.length cv2,.slice av3 ks3.length cv3,aJ,aJ,.slice av6 (bT c).ins.length cv6].toArray 28 (0,0)) :: (b2,.cells [aJ,aJ,aJ,aJ,aJ,aJ].toArray 28 (0,0)) :: (B2 ++ (B3 ++ bQ rs))):=by rw [<- hLL]; exact hS
 clear hS hLL;(repeat (first | refine aA ?_ | refine aE ?_));refine cC (fun (k:Nat) y w'=>y = .int .i64 k/\k <= ks2.length/\∃ B us z',Le z z'/\OwnSl 93 1 B (.slice av2 ks2.length cv2) ks2.length us/\KeptR (El.sl El.part) z' c.tmpls ks2 us/\Res w z LL w' z' ((b9,Obj.cells [Value.slice av1 (bT c).consts.length cv1,.slice av2 ks2.length cv2,.slice av3 ks3.length cv3,aJ,aJ,.slice av6 (bT c).ins.length cv6].toArray 28 (0,0)) :: (b2,.cells [aJ,aJ,aJ,aJ,aJ,aJ].toArray 28 (0,0)) :: (B ++ (B3 ++ bQ rs)))) (fun k=>ks2.length - k) 0 ⟨rfl,by omega,B2,us2,z,Le.refl _,o2,q2,hS0⟩ ?_;rintro I M k y w1 m ⟨rfl,hk,B,us,z1,hz1,ho,hq,hS1⟩ back
 clear hS0;(repeat (refine aA ?_));refine aC (fun h=>?_) (fun h=>?_)
 ·have hlt:k < ks2.length:=by omega
  obtain ⟨b,cap,C,hv,rfl,hkC,hCk,hset⟩:=ho.el hlt
  cases hv
  have hki:=getElem?_eq_getElem hlt;obtain ⟨u,l,hu,hl,v,hvv,hsl⟩:=hq.at_ k _ hki
  cases hvv
  obtain ⟨_,au,cu,rfl,_,_⟩:=hsl.form;haveI:InR (k:Int) (ks2.length:Nat):=⟨by omega,by omega⟩
  haveI:InI ((k:Int) + 1):=⟨by omega⟩
  have e1:(k:Int).toNat * 1 = k:=by omega
  haveI:Get C ((k:Int).toNat * 1) (.slice au l.length cu):=⟨by rw [e1,hCk]; exact hu⟩
  simp only [cons_append,nil_append] at hS1;(repeat (first | (refine iDr ?_; intro _ _) | refine aK ?_ | refine aW ?_));rename_i w2 hS2;refine ap (wN hsl (hl2 _ (mem_of_getElem? hl))) ?_;rintro z3 w3 v3 hz3 hS3 hv3
  obtain ⟨_,a3',c3',rfl,_,_⟩:=hv3.form;haveI:SetN C ((k:Int).toNat * 1) [.slice a3' l.length c3'] (C.set k (.slice a3' l.length c3')):=by rw [e1]; exact SetN.at_ hkC
  clear hS2 hS1;(repeat (first | refine aA ?_ | refine aK ?_ | (refine aF ?_; intro _ _) | refine bN ?_));rename_i w4 hS4;exact back (k + 1) _ _ ⟨by simp,by omega,_,_,z3,hz1.trans hz3,hset _,(hq.mono hz3).set hki hl ⟨_,rfl,hv3⟩ rfl,hS4⟩ (by omega)
 clear back;obtain ⟨z2,hz2,hS2,hv2⟩:=lR (E:=El.sl El.part) rfl (hS1.bring B) ho hq (by simp only [big]; omega);clear hS1;have hzz:=hz1.trans hz2;(repeat (first | refine aA ?_ | refine aE ?_));refine cC (fun (k:Nat) y w'=>y = .int .i64 k/\k <= ks3.length/\∃ B us z',Le z2 z'/\OwnSl 96 1 B (.slice av3 ks3.length cv3) ks3.length us/\KeptR (El.sl El.item) z' c.lists ks3 us/\Res w z LL w' z' ((b9,Obj.cells [Value.slice av1 (bT c).consts.length cv1,.slice av2 ks2.length cv2,.slice av3 ks3.length cv3,aJ,aJ,.slice av6 (bT c).ins.length cv6].toArray 28 (0,0)) :: (b2,.cells [aJ,aJ,aJ,aJ,aJ,aJ].toArray 28 (0,0)) :: (B ++ bQ rs))) (fun k=>ks3.length - k) 0 ⟨rfl,by omega,B3,us3,z2,Le.refl _,o3,q3.mono hzz,hS2⟩ ?_;rintro I M k y w1 m ⟨rfl,hk,B,us,z3,hz3,ho,hq,hS1⟩ back
 clear hS2;(repeat (refine aA ?_));refine aC (fun h=>?_) (fun h=>?_)
 ·have hlt:k < ks3.length:=by omega
  obtain ⟨b,cap,C,hv,rfl,hkC,hCk,hset⟩:=ho.el hlt
  cases hv
  have hki:=getElem?_eq_getElem hlt;obtain ⟨u,l,hu,hl,v,hvv,hsl⟩:=hq.at_ k _ hki
  cases hvv
  obtain ⟨_,au,cu,rfl,_,_⟩:=hsl.form;haveI:InR (k:Int) (ks3.length:Nat):=⟨by omega,by omega⟩
  haveI:InI ((k:Int) + 1):=⟨by omega⟩
  have e1:(k:Int).toNat * 1 = k:=by omega
  haveI:Get C ((k:Int).toNat * 1) (.slice au l.length cu):=⟨by rw [e1,hCk]; exact hu⟩
  simp only [cons_append,nil_append] at hS1;(repeat (first | (refine iDr ?_; intro _ _) | refine aK ?_ | refine aW ?_));rename_i w2 hS2;refine ap (wO hsl (hl3 _ (mem_of_getElem? hl))) ?_;rintro z4 w3 v3 hz4 hS3 hv3
  obtain ⟨_,a3',c3',rfl,_,_⟩:=hv3.form;haveI:SetN C ((k:Int).toNat * 1) [.slice a3' l.length c3'] (C.set k (.slice a3' l.length c3')):=by rw [e1]; exact SetN.at_ hkC
  clear hS2 hS1;(repeat (first | refine aA ?_ | refine aK ?_ | (refine aF ?_; intro _ _) | refine bN ?_));rename_i w4 hS4;exact back (k + 1) _ _ ⟨by simp,by omega,_,_,z4,hz3.trans hz4,hset _,(hq.mono hz4).set hki hl ⟨_,rfl,hv3⟩ rfl,hS4⟩ (by omega)
 obtain ⟨z4,hz4,hS4,hv3⟩:=lR (E:=El.sl El.item) rfl (hS1.bring B) ho hq (by simp only [big]; omega);have hz24:=hz3.trans hz4;have hz04:=hzz.trans hz24;have p2:(gh c.tmpls ks2).length = ks2.length:=(kV (fun i hi=>by
  obtain ⟨j,hj⟩:=List.mem_iff_getElem?.1 hi;obtain ⟨u,x,_,g2,_⟩:=q2.at_ j i hj;exact (List.getElem?_eq_some_iff.1 g2).1)).1
 have t2:(bT c).tmpls = gh c.tmpls ks2:=by rw [bT,hks2]
 have t3:(bT c).lists = gh c.lists ks3:=by rw [bT,hks3]
 exact DF hS4.self (fun z' w' L' r k hd=>hR z' w' L' r (hS4.comp k) hd) hmx hck (hatc.mono hz04) (h4.mono hz04) (h5.mono hz04) (hat8.mono hz04) (hvat.mono hz04) (g1.mono hz04) (by rw [t2]; exact hv2.mono hz24) (by rw [t3]; exact hv3) (g6.mono hz04)
end
section
theorem uw {w0 w:World} {z0 z:Z} {B0 L:Bl} {K:RP} [hS:Res w0 z0 B0 w z L] {m k:Nat} {S:List Int} {l:List (Int × Value)} {n:Int} {zm:Z} (hm:zm m = some (mK (Value.int .i64) l)) (hl:∀ n,fD l n = kh S k n) (hz:Le zm z) (hk:K (.int .i64 (xi S k n)) w):V (lk 124 (.map (some m)) (.int .i64 n) false) w K:=by
 refine ⟨_,w,ll (k:=3) (e:=3) (mk:=Value.int .i64) (zv:=.int .i64 0) (hS.sub _ _ (hz _ _ hm)) (fun _=>by kernel_rfl) false,?_⟩;rw [if_neg (by simp),hl,zW];exact hk
structure RenewZ (z:Z) (c:aH) (b8 b10 b16 b17 b18:Nat):Prop where
 h:∃ vat m1 m2 m3 p1 p2 p3 l1 l2 l3,At z b8 0 [vat]/\SlR El.int z vat (atM c)/\At z b10 0 [.map (some m1),.map (some m2),.map (some m3)] /\
  At z b16 0 [.map (some p1)]/\At z b17 0 [.map (some p2)]/\At z b18 0 [.map (some p3)]/\z p1 = some (mK (Value.int .i64) l1)/\z p2 = some (mK (Value.int .i64) l2)/\z p3 = some (mK (Value.int .i64) l3) /\
  (∀ n,fD l1 n = kh (cp c).s1 c.consts.length n)/\(∀ n,fD l2 n = kh (cp c).s2 c.tmpls.length n)/\(∀ n,fD l3 n = kh (cp c).s3 c.lists.length n)
theorem RenewZ.mono {z z':Z} {c:aH} {b8 b10 b16 b17 b18:Nat} (h:RenewZ z c b8 b10 b16 b17 b18) (hz:Le z z'):RenewZ z' c b8 b10 b16 b17 b18:=by
 obtain ⟨vat,m1,m2,m3,p1,p2,p3,l1,l2,l3,h1,h2,h3,h4,h5,h6,h7,h8,h9,h10⟩:=h.h;exact ⟨vat,m1,m2,m3,p1,p2,p3,l1,l2,l3,h1.mono hz,h2.mono hz,h3.mono hz,h4.mono hz,h5.mono hz,h6.mono hz,hz _ _ h7,hz _ _ h8,hz _ _ h9,h10⟩
theorem zG {z:Z} {w:World} {c:aH} {b8 b10 b16 b17 b18:Nat} {kind n:Int} (h:RenewZ z c b8 b10 b16 b17 b18) (hk:kind = 13->0 <= n/\n < c.ins.length) :
  Va1 (.func (.func 66) #[] #[.pointer (some ⟨b8,0,none⟩),.pointer (some ⟨b17,0,none⟩),.pointer (some ⟨b18,0,none⟩),.pointer (some ⟨b10,0,none⟩),.pointer (some ⟨b16,0,none⟩)]) #[.int .i64 kind,.int .i64 n] z w fun _ r=>r = .int .i64 (iM c kind n):=
 Fn1.va (args':=#[.int .i64 kind,.int .i64 n,.pointer (some ⟨b8,0,none⟩),.pointer (some ⟨b17,0,none⟩),.pointer (some ⟨b18,0,none⟩),.pointer (some ⟨b10,0,none⟩),.pointer (some ⟨b16,0,none⟩)]) (fnA en66 (by
  intro hS R hR;unfold vc66;obtain ⟨vat,m1,m2,m3,p1,p2,p3,l1,l2,l3,h1,h2,h3,h4,h5,h6,h7,h8,h9,q1,q2,q3⟩:=h.h;obtain ⟨_,at_,ct,rfl,_,hel⟩:=h2.form;haveI:Fz z b8 0 [.slice at_ (atM c).length ct]:=⟨h1⟩
  haveI:Fz z b10 0 [.map (some m1),.map (some m2),.map (some m3)]:=⟨h3⟩
  haveI:Fz z b16 0 [.map (some p1)]:=⟨h4⟩
  haveI:Fz z b17 0 [.map (some p2)]:=⟨h5⟩
  haveI:Fz z b18 0 [.map (some p3)]:=⟨h6⟩
  have hatl:(atM c).length = c.ins.length:=by simp [atM]
  (repeat (refine aA ?_));refine aC (fun e1=>?_) (fun e1=>?_)
  ·have hin:=hk e1
   have hlt:n.toNat < (atM c).length:=by omega
   haveI:InR n ((atM c).length:Nat):=⟨by omega,by omega⟩
   obtain ⟨b,off,cs,rfl,rfl,hat⟩:=hel _ _ (getElem?_eq_getElem hlt);haveI:Fz z b (off + n.toNat * 1) [.int .i64 (atM c)[n.toNat]]:=⟨hat⟩
   (repeat (first | refine aA ?_ | refine aL ?_));exact cF hR (by rw [iM,if_pos e1,getD_eq_getElem?_getD,getElem?_eq_getElem hlt]; rfl)
  (repeat (refine aA ?_));refine aC (fun e2=>?_) (fun e2=>?_)
  ·(repeat (refine aL ?_))
   refine uw h8 q2 (Le.refl _) ?_;exact cF hR (by rw [iM,if_neg e1,if_pos e2])
  (repeat (refine JB ?_));refine aO (fun e3=>?_) (fun e3=>?_)
  ·have e3':kind = 11 \/ kind = 12:=by by_cases e:kind = 11 <;> simp [e] at e3 ⊢; exact e3
   (repeat (refine aL ?_));refine uw h9 q3 (Le.refl _) ?_;exact cF hR (by rw [iM,if_neg e1,if_neg e2,if_pos e3'])
  ·have e3':¬ (kind = 11 \/ kind = 12):=by by_cases e:kind = 11 <;> simp [e] at e3 ⊢; exact e3
   (repeat (first | refine aA ?_ | (refine aN ?_; intro _ _ _ _) | refine bV ?_));rename_i z5 w5 hz5 hS5;have hof:(ofR kind m1 m2 m3).isSome = decide (jR kind = 1):=by
    unfold ofR jR;rw [if_neg e2,if_neg e3']
    split <;> simp
   rw [hof];refine aC (fun e4=>?_) (fun e4=>?_)
   ·(repeat (refine aL ?_))
    refine uw h7 q1 hz5 ?_;exact cF hR (by rw [iM,if_neg e1,if_neg e2,if_neg e3',if_pos e4])
   ·exact cF hR (by rw [iM,if_neg e1,if_neg e2,if_neg e3',if_neg e4]))) (by simp)
def OwnIns (B:Bl) (v:Value) (l:List InsM):Prop:=OwnSl 38 4 B v l.length (l.flatMap InsM.cells)
theorem pq (l:List InsM):(l.flatMap InsM.cells).length = l.length * 4:=uY (f:=InsM.cells) (fun _=>rfl) l
theorem OwnIns.el {B:Bl} {v:Value} {l:List InsM} {k:Nat} (h:OwnIns B v l) (hk:k < l.length):∃ (b cap:Nat) (C:List Value),v = .slice (some ⟨b,0,none⟩) l.length cap/\B = [(b,.cells C.toArray 38 (0,0))]/\GetN C (k * 4) 4 l[k].cells /\
  ∀ i:InsM,∃ C',SetN C (k * 4) i.cells C'/\OwnIns [(b,.cells C'.toArray 38 (0,0))] v (l.set k i):=by
 rcases h.2 with ⟨_,_,h0⟩ | ⟨b,cap,sp,rfl,rfl,h1,h2,h3⟩
 ·omega
 ·have hs:l = l.take k ++ l[k] :: l.drop (k + 1):=by rw [<- drop_eq_getElem_cons hk,take_append_drop]
  have hl:((l.take k).flatMap InsM.cells).length = k * 4:=by rw [pq,length_take]; omega
  have hf:l.flatMap InsM.cells ++ sp = (l.take k).flatMap InsM.cells ++ (l[k].cells ++ ((l.drop (k + 1)).flatMap InsM.cells ++ sp)):=by
   conv=>lhs; rw [hs]
   simp only [flatMap_append,flatMap_cons,append_assoc]
  refine ⟨b,cap,_,rfl,rfl,?_,fun i=>⟨(l.take k).flatMap InsM.cells ++ (i.cells ++ ((l.drop (k + 1)).flatMap InsM.cells ++ sp)),?_,?_⟩⟩
  ·rw [hf,<- hl]
   exact (inferInstance:GetN ((l.take k).flatMap InsM.cells ++ (Value.int .i64 l[k].op :: .int .i64 l[k].a :: .int .i64 l[k].b :: .int .i64 l[k].c :: ((l.drop (k + 1)).flatMap InsM.cells ++ sp))) ((l.take k).flatMap InsM.cells).length 4 [Value.int .i64 l[k].op,.int .i64 l[k].a,.int .i64 l[k].b,.int .i64 l[k].c])
  ·rw [hf,<- hl]
   exact (inferInstance:SetN ((l.take k).flatMap InsM.cells ++ (Value.int .i64 l[k].op :: .int .i64 l[k].a :: .int .i64 l[k].b :: .int .i64 l[k].c :: ((l.drop (k + 1)).flatMap InsM.cells ++ sp))) ((l.take k).flatMap InsM.cells).length [Value.int .i64 i.op,.int .i64 i.a,.int .i64 i.b,.int .i64 i.c] ((l.take k).flatMap InsM.cells ++ (Value.int .i64 i.op :: .int .i64 i.a :: .int .i64 i.b :: .int .i64 i.c :: ((l.drop (k + 1)).flatMap InsM.cells ++ sp))))
  ·have hset:l.set k i = l.take k ++ i :: l.drop (k + 1):=List.set_eq_take_append_cons_drop.trans (if_pos hk)
   unfold OwnIns;have hfl:(l.set k i).flatMap InsM.cells = (l.take k).flatMap InsM.cells ++ (i.cells ++ (l.drop (k + 1)).flatMap InsM.cells):=by rw [hset]; simp only [flatMap_append,flatMap_cons]
   refine ⟨pq _,.inr ⟨b,cap,sp,?_,by rw [length_set],by rw [length_set]; exact h1,h2,?_⟩⟩
   ·rw [hfl]; simp only [append_assoc]
   ·rw [length_append,pq,length_set]; rw [length_append,pq] at h3; exact h3
end
section
theorem xa {i:InsM} {k n:Int}:(lD i k n).op = i.op:=by unfold lD; split <;> (try split) <;> rfl
theorem vI {c:aH} {i:InsM} {k j:Nat} (h:k <= j) (hj:j < 3):kC (da c i k) j = kC i j:=by
 induction k with
 | zero=>rfl
 | succ k ih=>
  rw [renewK_succ];have:kC (lD (da c i k) k (iM c (eE (da c i k) k) (kC (da c i k) k))) j = kC (da c i k) j:=by
   unfold kC lD;have:k = 0/\j = 1 \/ k = 0/\j = 2 \/ k = 1/\j = 2:=by omega
   rcases this with ⟨rfl,rfl⟩ | ⟨rfl,rfl⟩ | ⟨rfl,rfl⟩ <;> rfl
  rw [this,ih (by omega)]
theorem uX {i:InsM} {k:Int} (h:k = 0 \/ k = 1 \/ k = 2):Get i.cells (k.toNat + 1) (.int .i64 (kC i k)):=⟨by rcases h with rfl | rfl | rfl <;> rfl⟩
theorem BX {i:InsM} {k n:Int} (h:k = 0 \/ k = 1 \/ k = 2):SetN i.cells (k.toNat + 1) [.int .i64 n] (lD i k n).cells:=by
 rcases h with rfl | rfl | rfl
 ·exact (inferInstance:SetN [Value.int .i64 i.op,.int .i64 i.a,.int .i64 i.b,.int .i64 i.c] 1 [.int .i64 n] [Value.int .i64 i.op,.int .i64 n,.int .i64 i.b,.int .i64 i.c])
 ·exact (inferInstance:SetN [Value.int .i64 i.op,.int .i64 i.a,.int .i64 i.b,.int .i64 i.c] 2 [.int .i64 n] [Value.int .i64 i.op,.int .i64 i.a,.int .i64 n,.int .i64 i.c])
 ·exact (inferInstance:SetN [Value.int .i64 i.op,.int .i64 i.a,.int .i64 i.b,.int .i64 i.c] 3 [.int .i64 n] [Value.int .i64 i.op,.int .i64 i.a,.int .i64 i.b,.int .i64 n])
theorem Res.frzO {w0 w:World} {z0 z:Z} {B0 L R:Bl} (b:Nat) {o:Obj} (h:Res w0 z0 B0 w z L) [g:BringB L b o R]:∃ z',Le z z'/\Res w0 z0 B0 w z' R/\z' b = some o:=
 ⟨_,(h.bringB b).freeze_le,(h.bringB b).freeze,if_pos rfl⟩
def lu (c:aH) (l:List InsM) (k:Nat):List InsM:=(l.take k).map (lM c) ++ l.drop k
theorem pM {c:aH} {l:List InsM} {k:Nat} (h:k <= l.length):(lu c l k).length = l.length:=by simp [lu]; omega
theorem zI {c:aH} {l:List InsM} {k:Nat} (h:k < l.length) (h2:k < (lu c l k).length):(lu c l k)[k] = l[k]:=by
 have:(lu c l k)[k]? = some l[k]:=by
  unfold lu;rw [getElem?_append_right (by simp; omega)];simp [Nat.min_eq_left (Nat.le_of_lt h),getElem?_eq_getElem h]
 exact (List.getElem?_eq_some_iff.1 this).2
theorem zH {c:aH} {l:List InsM} {k:Nat} (h:k < l.length):(lu c l k).set k (lM c l[k]) = lu c l (k + 1):=by
 unfold lu;have hl:((l.take k).map (lM c)).length = k:=by simp; omega
 rw [set_append_right _ _ (by omega),hl,Nat.sub_self,drop_eq_getElem_cons h,set_cons_zero,<- take_append_getElem h,map_append,append_assoc]
 rfl
theorem DH {R:RP} {z:Z} {w:World} {c:aH} {bc b2 b8 b9 b10 m1 m2 m3:Nat} {x vat vi:Value} {rs:List Nat} {Bi:Bl} {a1 a2 a3 a4 a5 a6:Option Addr} {k1 k2 k3 k4 k5 k6:Nat}
  (hS:Res w z ((b9,.cells [aJ,aJ,aJ,aJ,aJ,vi].toArray 28 (0,0)) :: (b2,.cells [aJ,aJ,aJ,aJ,aJ,aJ].toArray 28 (0,0)) :: (Bi ++ bQ rs)) w z ((b9,.cells [aJ,aJ,aJ,aJ,aJ,vi].toArray 28 (0,0)) :: (b2,.cells [aJ,aJ,aJ,aJ,aJ,aJ].toArray 28 (0,0)) :: (Bi ++ bQ rs)))
  (hR:∀ z' w' L' r,Res w z ((b9,.cells [aJ,aJ,aJ,aJ,aJ,vi].toArray 28 (0,0)) :: (b2,.cells [aJ,aJ,aJ,aJ,aJ,aJ].toArray 28 (0,0)) :: (Bi ++ bQ rs)) w' z' L'->rq z' r c->R r w') (hmx:dV x = rs) (hck:(ag c).1 = 0)
  (hatc:At z bc 0 (dq a1 a2 a3 a4 a5 a6 k1 k2 k3 k4 k5 k6 c)) (h1:SlR El.str z (.slice a1 c.consts.length k1) c.consts) (h2:SlR (El.sl El.part) z (.slice a2 c.tmpls.length k2) c.tmpls) (h3:SlR (El.sl El.item) z (.slice a3 c.lists.length k3) c.lists) (hl2:∀ l ∈ c.tmpls,l.length <= 1000000) (hl3:∀ l ∈ c.lists,l.length <= 1000000)
  (h4:SlR El.spot z (.slice a4 c.labels.length k4) c.labels) (h5:SlR El.str z (.slice a5 c.slots.length k5) c.slots)
  (hat8:At z b8 0 [vat]) (hvat:SlR El.int z vat (atM c)) (hat10:At z b10 0 [.map (some m1),.map (some m2),.map (some m3)])
  (hm1:z m1 = some (mK (Value.int .i64) (hM (cp c).s1))) (hm2:z m2 = some (mK (Value.int .i64) (hM (cp c).s2))) (hm3:z m3 = some (mK (Value.int .i64) (hM (cp c).s3)))
  (oi:OwnIns Bi vi ((rK c c.ins.length).map (aX c))) :
  DD R w (.pointer (some ⟨bc,0,none⟩)) (.pointer (some ⟨b2,0,none⟩)) (.pointer (some ⟨b8,0,none⟩)) (.pointer (some ⟨b9,0,none⟩)) (.pointer (some ⟨b10,0,none⟩)) x:=by
 obtain ⟨e0,hli,hpa,hri,_,_⟩:=gG hck;have hbd:=dW hli;generalize hLL:(b9,Obj.cells [aJ,aJ,aJ,aJ,aJ,vi].toArray 28 (0,0)) :: (b2,.cells [aJ,aJ,aJ,aJ,aJ,aJ].toArray 28 (0,0)) :: (Bi ++ bQ rs) = LL at hR;have hS0:Res w z LL w z ((b9,Obj.cells [aJ,aJ,aJ,aJ,aJ,vi].toArray 28 (0,0)) :: (b2,.cells [aJ,aJ,aJ,aJ,aJ,aJ].toArray 28 (0,0)) :: (Bi ++ bQ rs)):=by rw [<- hLL]; exact hS
 clear hS hLL;obtain ⟨avi,cvi,rfl,_⟩:=oi.form;have hrl:(List.map (aX c) (rK c c.ins.length)).length = (rK c c.ins.length).length:=length_map _;have hrk:=@zQ c c.ins.length;haveI:Fz z bc 0 [.slice a1 c.consts.length k1]:=⟨hatc.fld (i:=0) rfl rfl⟩
 haveI:Fz z bc 1 [.slice a2 c.tmpls.length k2]:=⟨hatc.fld (i:=1) rfl rfl⟩
 haveI:Fz z bc 2 [.slice a3 c.lists.length k3]:=⟨hatc.fld (i:=2) rfl rfl⟩
 haveI:Fz z b10 0 [.map (some m1)]:=⟨hat10.fld (i:=0) rfl rfl⟩
 haveI:Fz z b10 1 [.map (some m2)]:=⟨hat10.fld (i:=1) rfl rfl⟩
 haveI:Fz z b10 2 [.map (some m3)]:=⟨hat10.fld (i:=2) rfl rfl⟩
 unfold DD;refine ak ?_;intro b16 w1 hb16 hS1;refine ak ?_;intro b17 w2 hb17 hS2;refine ak ?_;intro b18 w3 hb18 hS3;clear hS0 hS1 hS2;(repeat (first | refine aA ?_ | refine aL ?_));refine qT (fun hle=>yu (h1.mono hle) (hle _ _ hm1) (by omega)) ?_;rintro z4 B4 w4 v4 hz4 hS4 ⟨sl1,p1,Bs1,l1,us1,rfl,rfl,o1,q1,hp1⟩
 obtain ⟨as1,cs1,rfl,_⟩:=o1.form;clear hS3;simp only [append_assoc,cons_append,nil_append] at hS4;(repeat (first | refine aA ?_ | (refine aF ?_; intro _ _) | refine aL ?_));refine qT (fun hle=>xY (h2.mono hle) (hle _ _ hm2) (by omega)) ?_;rintro z5 B5 w5 v5 hz5 hS5 ⟨sl2,p2,Bs2,l2,us2,rfl,rfl,o2,q2,hp2⟩
 obtain ⟨as2,cs2,rfl,_⟩:=o2.form;clear hS4;simp only [append_assoc,cons_append,nil_append] at hS5;(repeat (first | refine aA ?_ | (refine aF ?_; intro _ _) | refine aL ?_));refine qT (fun hle=>xZ (h3.mono hle) (hle _ _ hm3) (by omega)) ?_;rintro z6 B6 w6 v6 hz6 hS6 ⟨sl3,p3,Bs3,l3,us3,rfl,rfl,o3,q3,hp3⟩
 obtain ⟨as3,cs3,rfl,_⟩:=o3.form;clear hS5;simp only [append_assoc,cons_append,nil_append] at hS6;(repeat (first | refine aA ?_ | (refine aF ?_; intro _ _)));refine ak ?_;intro b19 w7 hb19 hS7;clear hS6;(repeat (first | refine aA ?_ | refine aE ?_ | (refine aF ?_; intro _ _)));rename_i w8 hS8;clear hS7;have hz46:Le z z6:=by (repeat (exact Res.zle (by assumption)))
 obtain ⟨z9,hz9,hS9,g19⟩:=hS8.frz b19;obtain ⟨z10,hz10,hS10,g18⟩:=hS9.frz b18;obtain ⟨z11,hz11,hS11,g17⟩:=hS10.frz b17;obtain ⟨z12,hz12,hS12,g16⟩:=hS11.frz b16;obtain ⟨z13,hz13,hS13,f1⟩:=hS12.frzO p1;obtain ⟨z14,hz14,hS14,f2⟩:=hS13.frzO p2;obtain ⟨z15,hz15,hS15,f3⟩:=hS14.frzO p3;clear hS8 hS9 hS10 hS11 hS12 hS13 hS14;have y15:=hz15;have y14:=hz14.trans y15;have y13:=hz13.trans y14;have y12:=hz12.trans y13;have y11:=hz11.trans y12;have y10:=hz10.trans y11;have y9:=hz9.trans y10;have y0:=hz46.trans y9;have hren:RenewZ z15 c b8 b10 b16 b17 b18:=⟨_,m1,m2,m3,p1,p2,p3,l1,l2,l3,hat8.mono y0,hvat.mono y0,hat10.mono y0,g16.mono y13,g17.mono y12,g18.mono y11,y14 _ _ f1,y15 _ _ f2,f3,hp1,hp2,hp3⟩
 have g19':=g19.mono y10;have n1:=@kY (cp c).s1 c.consts.length;obtain ⟨z16,hz16,hS16,hv1⟩:=lR (E:=El.str) rfl (hS15.bring Bs1) o1 (q1.mono ((hz5.trans hz6).trans y9)) (by simp only [big]; omega);have t1:(bT c).consts = gh c.consts (bf (cp c).s1 c.consts.length):=rfl;have p1l:(bT c).consts.length = (bf (cp c).s1 c.consts.length).length:=by
  rw [t1];exact (kV (fun i hi=>by
   obtain ⟨j,hj⟩:=List.mem_iff_getElem?.1 hi;obtain ⟨u,x,_,g2,_⟩:=q1.at_ j i hj;exact (List.getElem?_eq_some_iff.1 g2).1)).1
 have hS17:=hS16.keep [.at b9,.at b2,.bl Bi,.bl Bs2,.bl Bs3,.bl (bQ rs)];rw [append_nil] at hS17;clear hS15 hS16;have y16:=y0.trans hz16;have q2':=q2.mono ((hz6.trans y9).trans hz16);have q3':=q3.mono (y9.trans hz16);generalize hl0:List.map (aX c) (rK c c.ins.length) = l0 at *;have hr0:∀ i ∈ l0,bX c i = true:=by
  intro i hi;rw [<- hl0] at hi;obtain ⟨j,hj,rfl⟩:=List.mem_map.1 hi;have hjl:j < c.ins.length:=List.mem_range.1 (List.mem_filter.1 hj).1;refine hri _ (mem_of_getElem? (i:=j) ?_);rw [aX,getD_eq_getElem?_getD,getElem?_eq_getElem hjl]; rfl
 refine ee (fun (p:Nat × List Nat) y1 y2 w'=>dV y1 = p.2/\y2 = .int .i64 p.1/\p.1 <= l0.length/\∃ Bi' z',Le z16 z'/\OwnIns Bi' (.slice avi l0.length cvi) (lu c l0 p.1)/\Res w z LL w' z' ((b9,.cells [.slice as1 (bf (cp c).s1 c.consts.length).length cs1,.slice as2 (bf (cp c).s2 c.tmpls.length).length cs2,.slice as3 (bf (cp c).s3 c.lists.length).length cs3,aJ,aJ,.slice avi l0.length cvi].toArray 28 (0,0)) :: (b2,.cells [aJ,aJ,aJ,aJ,aJ,aJ].toArray 28 (0,0)) :: (Bi' ++ (Bs2 ++ (Bs3 ++ bQ p.2))))) (fun p=>l0.length - p.1) (0,rs) ⟨hmx,rfl,by simp,Bi,z16,Le.refl _,by simpa [lu] using oi,hS17⟩ ?_;rintro I M ⟨k,rs'⟩ x1 y1 w17 m ⟨hmx1,rfl,hk,Bi',z17,hz17,oi',hS18⟩ back
 simp only at hmx1 hk oi' hS18;clear hS17 hmx;(repeat (refine aA ?_));refine aC (fun h=>?_) (fun h=>?_)
 ·have hlt:k < l0.length:=by omega
  have hlt2:k < (lu c l0 k).length:=by rw [pM hk]; exact hlt
  obtain ⟨b,cap,C,hv,rfl,hget,hset⟩:=oi'.el hlt2;rw [zI hlt hlt2] at hget;obtain ⟨C',hC',hoi''⟩:=hset (lM c l0[k]);rw [zH hlt] at hoi'';rw [pM hk] at hv
  cases hv
  have hri0:=hr0 _ (getElem_mem hlt);generalize hi0:l0[k] = i at *;haveI:InR (k:Int) (l0.length:Nat):=⟨by omega,by omega⟩
  haveI:InI ((k:Int) + 1):=⟨by omega⟩
  have e1:(k:Int).toNat * 4 = k * 4:=by omega
  haveI:GetN C ((k:Int).toNat * 4) 4 i.cells:=by rw [e1]; exact hget
  haveI:SetN C ((k:Int).toNat * 4) (lM c i).cells C':=by rw [e1]; exact hC'
  simp only [cons_append,nil_append] at hS18;(repeat (first | refine aA ?_ | refine aE ?_ | refine ae ?_));refine ak ?_;intro b21 w19 hb21 hS19;(repeat (refine aF ?_; intro _ _));rename_i w20 hS20;refine ap nv ?_;rintro z21 w21 v21 hz21 hS21 ⟨bo,rfl,hbo⟩
  clear hS18 hS19 hS20;intro lp r0 l1' w22 hnew hyp;have hS22:=hS21.rf hnew;clear hS21 hnew;have hS23:=hS22.bringB b21;have hO:=hS23.self;have y21:=hz17.trans hz21;haveI:Fz z21 b19 0 [.func (.func 66) #[] #[.pointer (some ⟨b8,0,none⟩),.pointer (some ⟨b17,0,none⟩),.pointer (some ⟨b18,0,none⟩),.pointer (some ⟨b10,0,none⟩),.pointer (some ⟨b16,0,none⟩)]]:=⟨g19'.mono (hz16.trans y21)⟩
  refine lz (i:=i) hO hbo (fun kk i' z' L'=>∃ j:Nat,kk = j/\j <= 3/\i' = da c i j/\L' = (l1',dC lp .ready none) :: (r0,.deferred (some [])) :: (b9,.cells [.slice as1 (bf (cp c).s1 c.consts.length).length cs1,.slice as2 (bf (cp c).s2 c.tmpls.length).length cs2,.slice as3 (bf (cp c).s3 c.lists.length).length cs3,aJ,aJ,.slice (some ⟨b,0,none⟩) l0.length cvi].toArray 28 (0,0)) :: (b2,.cells [aJ,aJ,aJ,aJ,aJ,aJ].toArray 28 (0,0)) :: (b,.cells C.toArray 38 (0,0)) :: (Bs2 ++ (Bs3 ++ bQ rs')))
   (fun _ _ _ _ _ _ h=>h) ⟨0,rfl,by omega,rfl,rfl⟩ ?_ ?_
  ·rintro kk hk0 hk3 i' z24 w24 G L' K' hop hz24 hS24 ⟨j,rfl,hj,rfl,rfl⟩ next
   have hj3:j < 3:=by omega
   have h3:(j:Int) = 0 \/ (j:Int) = 1 \/ (j:Int) = 2:=by omega
   have hfld:kC (da c i j) j = kC i j:=vI (Nat.le_refl _) hj3;refine hyp _ _ _ _ ?_ (Res.at_ (b:=l1') hS24);refine su ?_;intro w25 hS25;clear hS24;haveI:=uX (i:=da c i j) h3;(repeat (first | (refine iDr ?_; intro _ _) | refine aW ?_ | refine bz ?_));rename_i w26 hS26;refine Ah hS26 (zG (kind:=eE (da c i j) j) (hren.mono (hz16.trans (y21.trans hz24))) (fun hk13=>by
    rw [hfld];exact zY hri0 hop h3 hk13)) ?_
   rintro z27 w27 v27 hz27 hS27 rfl
   clear hS25 hS26;haveI:=BX (i:=da c i j) (n:=iM c (eE (da c i j) j) (kC (da c i j) j)) h3;(repeat (refine aF ?_; intro _ _));refine uT (st:=.busy) (pend:=none) ?_;intro w28 hS28;refine next _ _ _ _ ?_ hz27 hS28 ⟨j + 1,by omega,by omega,renewK_succ.symm,rfl⟩;rw [xa]; exact hop
  ·rintro i' z24 w24 L' hop hz24 hS24 ⟨j,hj,hj3,rfl,rfl⟩
   have:j = 3:=by omega
   subst this;refine pw (st:=.ready) (by intro h; cases h) ?_;intro w25 hS25;clear hS24;rw [show da c i 3 = lM c i from rfl] at hS25;(repeat (first | refine aA ?_ | refine aE ?_ | refine ae ?_ | (refine aF ?_; intro _ _)));rename_i w26 hS26;have hS27:=(hS23.comp hS26).keep [.at b9,.at b2,.at b,.bl Bs2,.bl Bs3,.at r0,.bl (bQ rs')];rw [append_nil] at hS27;exact back (k + 1,r0 :: rs') _ _ _ ⟨by rw [ew,hmx1],by simp,by simp only; omega,_,z24,y21.trans hz24,hoi'',hS27⟩ (by simp only; omega)
 ·have hk2:k = l0.length:=by omega
  subst hk2;have hrn:lu c l0 l0.length = (bT c).ins:=by
   rw [lu,take_of_length_le (Nat.le_refl _),drop_of_length_le (Nat.le_refl _),append_nil,<- hl0,map_map]; rfl
  have hoi2:=oi';rw [hrn] at hoi2;have hil:(bT c).ins.length = l0.length:=by rw [<- hrn,pM (Nat.le_refl _)]
  have hS19:=hS18.bring Bi';obtain ⟨z18,hz18,hS20,hv6⟩:=Res.freezeSl (E:=El.ins) (e:=38) (xs:=(bT c).ins) (f:=InsM.cells) hS19 hoi2 (by simp only [big]; omega) (fun _=>rfl) (fun _ _ _=>rfl);have y18:=hz17.trans hz18;have y00:=y16.trans y18;clear hS18 hS19;exact DG hS20.self (fun z' w' L' r kk hd=>hR z' w' L' r (hS20.comp kk) hd) hmx1 hck (hatc.mono y00) (h2.mono y00) (h3.mono y00) hl2 hl3 (h4.mono y00) (h5.mono y00) (hat8.mono y00) (hvat.mono y00) (hv1.mono y18) o2 (q2'.mono y18) o3 (q3'.mono y18) hv6
end
section
theorem BB {z:Z}:CodeR z (.agg [aJ,aJ,aJ,aJ,aJ,aJ].toArray) dU:=⟨_,_,_,_,_,_,rfl,SlR.nil,SlR.nil,SlR.nil,SlR.nil,SlR.nil,SlR.nil⟩
theorem Aj {z:Z} {w:World} {v:Value} {c:aH} (hc:CodeR z v c):Fn1 20 #[v] z w fun z' r=>rq z' r c:=Fn1.intro fun hS=>en20 (by
 unfold vc20;obtain ⟨a1,a2,a3,a4,a5,a6,k1,k2,k3,k4,k5,k6,rfl,h1,h2,h3,h4,h5,h6⟩:=hc.form;refine aP ?_;intro bc w1 hbc hS1;obtain ⟨zc,hzc,hS2,hatc⟩:=hS1.frz bc;generalize hRR:(fun (v:Value) (w':World)=>∃ z' L',Res w z [] w' z' L'/\rq z' v c) = RR;have hR:∀ z' w' L' r,Res w1 zc [] w' z' L'->rq z' r c->RR r w':=fun z' w' L' r k hd=>by rw [<- hRR]; exact ⟨z',L',hS2.comp k,hd⟩
 clear hRR;have hS3:=hS2.self;clear hS hS1 hS2;haveI:fQ zc (.agg (dq a1 a2 a3 a4 a5 a6 k1 k2 k3 k4 k5 k6 c).toArray) c:=⟨hc.mono hzc⟩
 haveI:Fz zc bc 0 (dq a1 a2 a3 a4 a5 a6 k1 k2 k3 k4 k5 k6 c):=⟨hatc⟩
 haveI:Fz zc bc 5 [.slice a6 c.ins.length k6]:=⟨hatc.fld (i:=5) rfl rfl⟩
 refine ak ?_;intro b2 w2 hb2 hS4;clear hS3;(repeat (first | refine aA ?_ | (refine cE ?_; intro _ _ _ _) | refine bV ?_));rename_i z5 w5 hz5 hS5;clear hS4;refine eO (fun e1=>?_) (fun e1=>?_)
 ·(repeat (first | refine aA ?_ | (refine aF ?_; intro _ _) | refine aq ?_))
  rename_i w6 hS6;exact hR _ _ _ _ hS6 ⟨_,_,rfl,by rw [ng,if_neg e1]; exact BB,by rw [vB,if_neg e1]; exact SlR.nil⟩
 obtain ⟨e0,hli,hpa,hri,_,_⟩:=gG e1;have hbd:=dW hli;have hrl:=vR (tn hli hpa);(repeat (refine bV ?_));refine ap (zK ((hc.mono hzc).mono hz5)) ?_;rintro z6 w6 v6 hz6 hS6 hvr
 clear hS5;obtain ⟨_,ar,kr,rfl,_,helr⟩:=hvr.form;rw [hrl];(repeat (first | refine aA ?_ | refine aL ?_));refine uR (by omega) (by omega) ?_;intro bat w7 hbat hS7;rw [oh] at hS7;clear hS6;refine ak ?_;intro b8 w8 hb8 hS8;refine aF ?_;intro w9 hS9;refine ak ?_;intro b9 w10 hb9 hS10;refine pk (mk:=Value.int .i64) ?_;intro m1 w11 hm1 hS11;refine pk (mk:=Value.int .i64) ?_;intro m2 w12 hm2 hS12;refine pk (mk:=Value.int .i64) ?_;intro m3 w13 hm3 hS13;clear hS7 hS8 hS9 hS10 hS11 hS12;refine aA ?_;refine ak ?_;intro b10 w14 hb10 hS14;clear hS13;(repeat (first | refine aA ?_ | (refine aF ?_; intro _ _) | refine aL ?_));rename_i w15 hS15;clear hS14;have hS16:=hS15.keep [.at b9,.at b8,.at b10,.at m1,.at m2,.at m3,.at bat,.at b2];clear hS15;have hz6':=hz5.trans hz6;refine ee (fun (p:Nat × List Nat) y1 y2 w'=>dV y1 = p.2/\y2 = .int .i64 p.1/\p.1 <= c.ins.length/\∃ Bi vi z',Le z6 z'/\OwnIns Bi vi ((rK c p.1).map (aX c))/\Res w1 zc [] w' z' ((b9,.cells [aJ,aJ,aJ,aJ,aJ,vi].toArray 28 (0,0)) :: (b8,.cells [.slice (some ⟨bat,0,none⟩) c.ins.length c.ins.length].toArray 45 (0,0)) :: (b10,.cells [.map (some m1),.map (some m2),.map (some m3)].toArray 117 (0,0)) :: (m1,mK (Value.int .i64) (hM (ib c p.1).s1)) :: (m2,mK (Value.int .i64) (hM (ib c p.1).s2)) :: (m3,mK (Value.int .i64) (hM (ib c p.1).s3)) :: (bat,.cells (atV c p.1).toArray 3 (0,0)) :: (b2,.cells [aJ,aJ,aJ,aJ,aJ,aJ].toArray 28 (0,0)) :: (Bi ++ bQ p.2))) (fun p=>c.ins.length - p.1) (0,[]) ⟨rfl,rfl,by simp,[],aJ,z6,Le.refl _,OwnSl.nil,?_⟩ ?_
 ·have:atV c 0 = replicate c.ins.length (.int .i64 0):=by simp [atV]
  simp only [this];exact hS16
 rintro I M ⟨k,rs⟩ x1 y1 w17 m ⟨hmx,rfl,hk,Bi,vi,z17,hz17,oi,hS17⟩ back
 simp only at hmx hk oi hS17;clear hS16;obtain ⟨avi,cvi,rfl,_⟩:=oi.form;obtain ⟨_,ai,ki,he,_,heli⟩:=h6.form
 cases he
 have hrk:=@zQ c k;have hml:((rK c k).map (aX c)).length = (rK c k).length:=length_map _;(repeat (refine aA ?_));refine aC (fun h=>?_) (fun h=>?_)
 ·have hlt:k < c.ins.length:=by omega
  have hi2:c.ins[k]? = some (aX c k):=by rw [aX,getD_eq_getElem?_getD,getElem?_eq_getElem hlt]; rfl
  obtain ⟨be,offe,cse,rfl,rfl,hate⟩:=heli _ _ hi2;obtain ⟨br,offr,csr,rfl,rfl,hatr⟩:=helr k (qY c k) (by rw [qY,getD_eq_getElem?_getD,getElem?_eq_getElem (by omega)]; rfl);haveI:InR (k:Int) (c.ins.length:Nat):=⟨by omega,by omega⟩
  haveI:InI ((k:Int) + 1):=⟨by omega⟩
  have ek:(k:Int).toNat * 1 = k:=by omega
  haveI:Fz zc be (offe + (k:Int).toNat * 4) (aX c k).cells:=⟨hate.mono hzc⟩
  haveI:SetN (atV c k) ((k:Int).toNat * 1) [.int .i64 (-1)] ((atV c k).set k (.int .i64 (-1))):=by rw [ek]; exact SetN.at_ (by rw [og hk]; exact hlt)
  have hset2:SetN ((atV c k).set k (.int .i64 (-1))) ((k:Int).toNat * 1) [.int .i64 ((rK c k).length:Int)] ((atV c k).set k (.int .i64 ((rK c k).length:Int))):=by
   have h9:=SetN.at_ (l:=(atV c k).set k (.int .i64 (-1))) (k:=k) (u:=.int .i64 ((rK c k).length:Int)) (by rw [length_set,og hk]; exact hlt);rw [set_set] at h9; rw [ek]; exact h9
  have hat1:=Bp (c:=c) hlt;intro K hK;(repeat (first | refine aA ?_ | refine bV ?_));refine ak ?_;intro b12 w18 hb12 hS18;(repeat (first | refine aA ?_ | refine aE ?_ | (refine aF ?_; intro _ _)));rename_i w19 hS19;clear hS17 hS18;refine bL (v:=.bool (qY c k)) (hatr.mono hz17) ?_;refine aA ?_;refine aU (fun e=>?_) (fun e=>?_)
  ·have hnew:nz c k = -1:=by rw [nz,if_neg (by rw [e]; simp)]
   rw [hnew] at hat1;rw [hat1] at hS19;have hr1:rK c (k + 1) = rK c k:=by rw [sc,if_neg (by rw [e]; simp),append_nil]
   have hu1:ib c (k + 1) = ib c k:=by rw [ox,if_neg (by rw [e]; simp)]
   refine hK _ _ fun _=>?_
   (repeat (refine aA ?_));refine back (k + 1,rs) _ _ _ ⟨hmx,by simp,by simp only; omega,Bi,_,z17,hz17,by simp only [hr1]; exact oi,?_⟩ (by simp only; omega);simp only [hu1];exact hS19.sublist (sublist_cons_self _ _)
  have hnew:nz c k = ((rK c k).length:Int):=by rw [nz,if_pos e]
  rw [hnew] at hat1;rw [hat1] at hset2;have hr1:rK c (k + 1) = rK c k ++ [k]:=by rw [sc,if_pos e]
  have hu1:ib c (k + 1) = ko (aX c k) 3 (ib c k):=by rw [ox,if_pos e]
  have hset2':SetN ((atV c k).set k (.int .i64 (-1))) ((k:Int).toNat * 1) [.int .i64 ((((rK c k).map (aX c)).length:Nat):Int)] (atV c (k + 1)):=by rw [hml]; exact hset2
  (repeat (first | refine aA ?_ | refine aE ?_ | (refine aF ?_; intro _ _)));rename_i w20 hS20;clear hS19;refine ap nv ?_;rintro z21 w21 v21 hz21 hS21 ⟨bo,rfl,hbo⟩
  clear hS20;intro lp r0 l1' w22 hnew hyp;have hS22:=hS21.rf hnew;clear hS21 hnew;have hS23:=hS22.bringB b12;have hO:=hS23.self;generalize hii:aX c k = i at *;generalize huu:ib c k = u0 at *;refine lz (i:=i) hO hbo (fun kk i' z' L'=>∃ j:Nat,kk = j/\j <= 3/\i' = i/\L' = (l1',dC lp .ready none) :: (r0,.deferred (some [])) :: (b9,.cells [aJ,aJ,aJ,aJ,aJ,.slice avi ((rK c k).map (aX c)).length cvi].toArray 28 (0,0)) :: (b8,.cells [.slice (some ⟨bat,0,none⟩) c.ins.length c.ins.length].toArray 45 (0,0)) :: (b10,.cells [.map (some m1),.map (some m2),.map (some m3)].toArray 117 (0,0)) :: (m1,mK (Value.int .i64) (hM (ko i j u0).s1)) :: (m2,mK (Value.int .i64) (hM (ko i j u0).s2)) :: (m3,mK (Value.int .i64) (hM (ko i j u0).s3)) :: (bat,.cells (atV c (k + 1)).toArray 3 (0,0)) :: (b2,.cells [aJ,aJ,aJ,aJ,aJ,aJ].toArray 28 (0,0)) :: (Bi ++ bQ rs))
   (fun _ _ _ _ _ _ h=>h) ⟨0,rfl,by omega,rfl,rfl⟩ ?_ ?_
  ·rintro kk hk0 hk3 i' z24 w24 G L' K' hop hz24 hS24 ⟨j,rfl,hj,rfl,rfl⟩ next
   have hj3:j < 3:=by omega
   have h3:(j:Int) = 0 \/ (j:Int) = 1 \/ (j:Int) = 2:=by omega
   refine hyp _ _ _ _ ?_ (Res.at_ (b:=l1') hS24);refine su ?_;intro w25 hS25;clear hS24;haveI:=uX (i:=i') h3;have hmk:=ve (i:=i') (k:=j) (u:=u0);generalize hmu:ko i' j u0 = mu0 at *;generalize hkd:eE i' j = kd at *;generalize hfd:kC i' j = fd at *;(repeat (first | refine aA ?_ | refine ae ?_ | (refine aN ?_; intro _ _ _ _)));rename_i z26 w26 hz26 hS26;clear hS25;have hcl:jR kd = 1 \/ jR kd = 2 \/ jR kd = 3 \/ (jR kd ≠ 1/\jR kd ≠ 2/\jR kd ≠ 3):=by omega
   rcases hcl with e1 | e1 | e1 | ⟨e1,e2,e3⟩
   ·have ho:ofR kd m1 m2 m3 = some m1:=by rw [ofR,if_pos e1]
    rw [ho];refine bC rfl ?_;(repeat (refine aE ?_));refine jX (mk:=Value.int .i64) ?_;intro w27 hS27;rw [rz] at hS27;refine uT (st:=.busy) (pend:=none) ?_;intro w28 hS28;refine next _ _ _ _ rfl hz26 hS28 ⟨j + 1,by omega,by omega,rfl,?_⟩;rw [hmk,oA,if_pos e1]; rfl
   ·have ho:ofR kd m1 m2 m3 = some m2:=by rw [ofR,if_neg (by omega),if_pos e1]
    rw [ho];refine bC rfl ?_;(repeat (refine aE ?_));refine jX (mk:=Value.int .i64) ?_;intro w27 hS27;rw [rz] at hS27;refine uT (st:=.busy) (pend:=none) ?_;intro w28 hS28;refine next _ _ _ _ rfl hz26 hS28 ⟨j + 1,by omega,by omega,rfl,?_⟩;rw [hmk,show oA mu0 kd fd = ⟨mu0.s1,dv mu0.s2 fd,mu0.s3⟩ by unfold oA; rw [if_neg (show ¬ jR kd = 1 by omega),if_pos e1]]; rfl
   ·have ho:ofR kd m1 m2 m3 = some m3:=by rw [ofR,if_neg (by omega),if_neg (by omega),if_pos e1]
    rw [ho];refine bC rfl ?_;(repeat (refine aE ?_));refine jX (mk:=Value.int .i64) ?_;intro w27 hS27;rw [rz] at hS27;refine uT (st:=.busy) (pend:=none) ?_;intro w28 hS28;refine next _ _ _ _ rfl hz26 hS28 ⟨j + 1,by omega,by omega,rfl,?_⟩;rw [hmk,show oA mu0 kd fd = ⟨mu0.s1,mu0.s2,dv mu0.s3 fd⟩ by unfold oA; rw [if_neg (show ¬ jR kd = 1 by omega),if_neg (show ¬ jR kd = 2 by omega),if_pos e1]]; rfl
   ·have ho:ofR kd m1 m2 m3 = none:=by rw [ofR,if_neg e1,if_neg e2,if_neg e3]
    rw [ho];refine dk rfl ?_;refine uT (st:=.busy) (pend:=none) ?_;intro w28 hS28;refine next _ _ _ _ rfl hz26 hS28 ⟨j + 1,by omega,by omega,rfl,?_⟩;rw [hmk,oA,if_neg e1,if_neg e2,if_neg e3]; rfl
  ·rintro i' z24 w24 L' hop hz24 hS24 ⟨j,hj,hj3,rfl,rfl⟩
   have:j = 3:=by omega
   subst this;refine pw (st:=.ready) (by intro h; cases h) ?_;intro w25 hS25;clear hS24;(repeat (first | refine aA ?_ | refine aE ?_ | refine ae ?_));refine cb hS25 oi (by simp only [room]; omega) (by simp only [room]; omega) (by decide) ?_;intro B26 v26 w26 ho26 hS26;obtain ⟨a26,c26,rfl,_⟩:=ho26.form;clear hS25;(repeat (first | refine aA ?_ | (refine aF ?_; intro _ _)));rename_i w27 hS27;have hS28:=(hS23.comp hS27).keep [.at b9,.at b8,.at b10,.at m1,.at m2,.at m3,.at bat,.at b2,.bl B26,.at r0,.bl (bQ rs)];rw [append_nil] at hS28;refine hK _ _ fun _=>?_
   (repeat (refine aA ?_));have hoi':OwnIns B26 (.slice a26 (((rK c k).map (aX c)).length + 1) c26) ((rK c (k + 1)).map (aX c)):=by
    unfold OwnIns;rw [hr1,map_append,map_cons,map_nil,hii,length_append,flatMap_append]
    simpa using ho26
   refine back (k + 1,r0 :: rs) _ _ _ ⟨by rw [ew,hmx],by simp,by simp only; omega,B26,.slice a26 (((rK c k).map (aX c)).length + 1) c26,z24,hz17.trans (hz21.trans hz24),hoi',?_⟩ (by simp only; omega);simp only [hu1];exact hS28
 ·have hk2:k = c.ins.length:=by omega
  subst hk2;rw [tG] at hS17;obtain ⟨z18,hz18,hS18,g8⟩:=hS17.frz b8;obtain ⟨z19,hz19,hS19,g10⟩:=hS18.frz b10;obtain ⟨z20,hz20,hS20,f1⟩:=hS19.frzO m1;obtain ⟨z21,hz21,hS21,f2⟩:=hS20.frzO m2;obtain ⟨z22,hz22,hS22,f3⟩:=hS21.frzO m3;have hatl:(atM c).length = c.ins.length:=by simp [atM]
  obtain ⟨z23,hz23,hS23,hvat⟩:=Res.freezeSl (E:=El.int) (e:=3) (B:=[(bat,_)]) (v:=.slice (some ⟨bat,0,none⟩) (atM c).length c.ins.length) (xs:=atM c) (f:=fun x=>[Value.int .i64 x]) (hS22.bringB bat) ⟨by rw [<- tG,og (Nat.le_refl _),hatl]; exact (Nat.mul_one _).symm,.inr ⟨bat,c.ins.length,[],by rw [append_nil],rfl,by omega,by simp only [maxLen]; omega,by rw [append_nil,<- tG,og (Nat.le_refl _)]; exact (Nat.mul_one _).symm⟩⟩ (by simp only [big]; omega) (fun _=>rfl) (fun z x _=>rfl);rw [hatl] at hvat;have hS24:=hS23.keep [.at b9,.at b2,.bl Bi,.bl (bQ rs)];rw [append_nil] at hS24;have y22:=hz22.trans hz23;have y21:=hz21.trans y22;have y20:=hz20.trans y21;have y19:=hz19.trans y20;have y17:=hz18.trans y19;have yz:Le z z23:=hzc.trans (hz6'.trans (hz17.trans y17));have ylc:Le zc z23:=hz6'.trans (hz17.trans y17);clear hS17 hS18 hS19 hS20 hS21 hS22 hS23;have hl2:∀ l ∈ c.tmpls,l.length <= 1000000:=fun l hl=>by
   have:=hli; unfold bH at this; simp only [Bool.and_eq_true,all_eq_true] at this;have:=this.2.1 l hl; unfold kj at this; simp only [Bool.and_eq_true,decide_eq_true_eq] at this; omega
  have hl3:∀ l ∈ c.lists,l.length <= 1000000:=fun l hl=>by
   have:=hli; unfold bH at this; simp only [Bool.and_eq_true,all_eq_true] at this;have:=this.2.2.2.1 l hl; unfold mJ at this; simp only [decide_eq_true_eq] at this; omega
  exact DH hS24.self (fun z' w' L' r kk hd=>hR _ _ _ _ (hS24.comp kk) hd) hmx e1 (hatc.mono ylc) (h1.mono yz) (h2.mono yz) (h3.mono yz) hl2 hl3 (h4.mono yz) (h5.mono yz) (g8.mono y19) hvat (g10.mono y20) (y21 _ _ f1) (y22 _ _ f2) (hz23 _ _ f3) oi)
end
section
def grp:Nat->Nat->List UInt8
 | 0,m=>[UInt8.ofNat m]
 | f + 1,m=>if 128 <= m then UInt8.ofNat (m % 128 + 128) :: grp f (m / 128) else [UInt8.ofNat m]
theorem xA:∀ {f m:Nat},(grp f m).length <= f + 1
 | 0,_=>by simp [grp]
 | f + 1,m=>by unfold grp; split <;> simp; exact xA
def zig (n:Int):Nat:=if n < 0 then (-2 * n - 1).toNat else (2 * n).toNat
def cr (n:Int):List UInt8:=grp 9 (zig n)
theorem cJ {n:Int}:(cr n).length <= 10:=xA
class Mid (n:Int):Prop where
 h:-4000000000000000000 <= n/\n < 4000000000000000000
def dy (bw:Nat) (B:Bl) (ys:List UInt8):Prop:=∃ v Bv,B = (bw,.cells [v].toArray 156 (0,0)) :: Bv/\OwnSl 5 1 Bv v ys.length (Lib.byteCells ys)
abbrev eL:Nat:=10000000000000
theorem DQ:∀ r:Fin 128,bits .or .i64 ((r:Nat):Int) 128 = ((r:Nat):Int) + 128:=by decide +kernel
theorem DP {t:Nat} {a b:Int} (w:World):(bi .or t (.int .i64 a) (.int .i64 b)).run Tryz.prog w = .ok (.int .i64 (bits .or .i64 a b)) w:=rfl
instance {t:Nat} {m:Int}:Run (bi .or t (.int .i64 (m % 128)) (.int .i64 128)) (.int .i64 (m % 128 + 128)):=⟨fun w=>by
 have h0:0 <= m % 128:=Int.emod_nonneg _ (by decide);have h1:m % 128 < 128:=Int.emod_lt_of_pos _ (by decide);have h:=DQ ⟨(m % 128).toNat,by omega⟩;simp only at h;rw [Int.toNat_of_nonneg h0] at h;rw [DP,h]⟩
theorem wi {n:Nat} (h:n < 256):IntKind.u8.wrap (n:Int) = ((UInt8.ofNat n).toNat:Int):=by
 have h1:(UInt8.ofNat n).toNat = n:=by simp [Nat.mod_eq_of_lt h]
 rw [h1];have:IntKind.u8.wrap (n:Int) = (n:Int) % 256:=rfl;rw [this]; omega
theorem BR {z:Z} {w:World} {bw:Nat} {B:Bl} {ys:List UInt8} {v:Value} {l:List Int} (hB:dy bw B ys) (hv:SlR El.int z v l) (hm:∀ n ∈ l,Mid n) (hb:(ys ++ l.flatMap cr).length <= eL) :
  Fn 175 #[.pointer (some ⟨bw,0,none⟩),v] z B w fun z' B' r=>r = .tuple #[]/\dy bw B' (ys ++ l.flatMap cr):=Fn.intro fun hS=>en175 (by
 unfold vc175;have hbig:=hv.big;simp only [big] at hbig;obtain ⟨_,a,cap,rfl,_,hel⟩:=hv.form;(repeat (refine aA ?_));refine cC (fun (p:Nat × List UInt8) x w'=>x = .int .i64 p.1/\p.1 <= l.length/\ys ++ l.flatMap cr = p.2 ++ (l.drop p.1).flatMap cr/\∃ B' z',Le z z'/\dy bw B' p.2/\Res w z B w' z' B') (fun p=>l.length - p.1) (0,ys) ⟨rfl,by simp,rfl,B,z,Le.refl _,hB,hS⟩ ?_;rintro I M ⟨k,us⟩ x w1 m ⟨rfl,hk,hys,B1,z1,hz1,hB1,hS1⟩ back
 simp only at hk hys hB1;dsimp only;(repeat (refine aA ?_));refine aC (fun h=>?_) (fun h=>?_)
 ·have hlt:k < l.length:=by omega
  haveI:InR (k:Int) (l.length:Nat):=⟨by omega,by omega⟩
  haveI:InI ((k:Int) + 1):=⟨by omega⟩
  obtain ⟨b,off,cs,rfl,rfl,hat⟩:=hel _ _ (getElem?_eq_getElem hlt);have hmid:=(hm _ (getElem_mem hlt)).h;rw [drop_eq_getElem_cons hlt,flatMap_cons] at hys;generalize hn:l[k] = n at *;haveI:Fz z b (off + (k:Int).toNat * 1) [.int .i64 n]:=⟨hat⟩
  haveI:InI (2 * n):=⟨by omega⟩
  have hn2:(-2:Int) * n = -(2 * n):=by rw [Int.neg_mul]
  haveI:InI (-2 * n):=⟨by rw [hn2]; omega⟩
  haveI:InI (-2 * n - 1):=⟨by rw [hn2]; omega⟩
  (repeat (first | refine aA ?_ | refine aL ?_));refine Dc (y:=(zig n:Int)) ?_ ?_
  ·unfold zig
   by_cases e:n < 0
   ·simp only [e,decide_true,cond_true,if_true]; omega
   ·simp only [e,decide_false,cond_false,if_false]; omega
  intro z2 w2 hz2 hS2;clear hS1;refine cC (fun (p:Nat × Nat × List UInt8) x w'=>x = .int .i64 (p.2.1:Int)/\p.2.1 < 128 ^ (p.1 + 1)/\p.1 <= 9/\ys ++ l.flatMap cr = p.2.2 ++ (grp p.1 p.2.1 ++ (l.drop (k + 1)).flatMap cr)/\∃ B' z',Le z1 z'/\dy bw B' p.2.2/\Res w z B w' z' B') (fun p=>p.1) (9,zig n,us) ⟨rfl,?_,Nat.le_refl _,?_,B1,z2,hz2,hB1,hS2⟩ ?_
  ·show zig n < 128 ^ 10
   rw [show (128:Nat) ^ 10 = 1180591620717411303424 by decide];unfold zig; split <;> omega
  ·rw [hys]; rfl
  rintro I1 M1 ⟨f,mm_,us3⟩ x w3 m1 ⟨rfl,hmm,hf9,hys3,B3,z3,hz3,hB3,hS3⟩ back1
  simp only at hmm hys3 hB3 hf9;dsimp only;clear hS2;obtain ⟨v3,Bv,rfl,ho⟩:=hB3;obtain ⟨a3,c3,rfl,_⟩:=ho.form;have hlen3:us3.length + 1 <= eL:=by
   have h1:1 <= (grp f mm_).length:=by unfold grp; split <;> (try split) <;> simp
   have h2:=congrArg List.length hys3;have h3:(us3 ++ (grp f mm_ ++ (l.drop (k + 1)).flatMap cr)).length = us3.length + ((grp f mm_).length + ((l.drop (k + 1)).flatMap cr).length):=by rw [length_append,length_append]
   rw [h3] at h2;omega
  simp only [eL] at hlen3;refine aA ?_;refine aC (fun h4=>?_) (fun h4=>?_)
  ·have hff:f = (f - 1) + 1:=by
    rcases Nat.eq_zero_or_pos f with rfl | hp
    ·simp at hmm; omega
    ·omega
   (repeat (first | refine aA ?_ | refine aE ?_));have hcv:IntKind.u8.wrap ((mm_:Int) % 128 + 128) = ((UInt8.ofNat (mm_ % 128 + 128)).toNat:Int):=by
    rw [show (mm_:Int) % 128 + 128 = ((mm_ % 128 + 128:Nat):Int) by omega];exact wi (by omega)
   rw [hcv];refine cb hS3 ho (by simp only [room]; omega) (by simp only [room]; omega) (by decide) ?_;intro B5 v5 w5 ho5 hS5;obtain ⟨a5,c5,rfl,_⟩:=ho5.form;clear hS3;(repeat (first | refine aA ?_ | (refine aF ?_; intro _ _)));rename_i w6 hS6;have hS7:=hS6.keep [.at bw,.bl B5];rw [append_nil] at hS7;refine back1 (f - 1,mm_ / 128,us3 ++ [UInt8.ofNat (mm_ % 128 + 128)]) _ _ ⟨by simp,?_,by simp only; omega,?_,_,z3,hz3,⟨_,B5,rfl,?_⟩,hS7⟩ (by simp only; omega)
   ·simp only
    rw [<- hff];have:128 ^ (f + 1) = 128 ^ f * 128:=rfl;omega
   ·rw [hys3]
    conv=>lhs; rw [hff,grp]
    rw [if_pos (by omega)];simp only [append_assoc,cons_append,nil_append]
   ·rw [length_append,Lib.byteCells_append]
    exact ho5
  ·(repeat (first | refine aA ?_ | refine aE ?_))
   have hg:grp f mm_ = [UInt8.ofNat mm_]:=by
    cases f with
    | zero=>rfl
    | succ f=>rw [grp,if_neg (by omega)]
   rw [wi (n:=mm_) (by omega)];refine cb hS3 ho (by simp only [room]; omega) (by simp only [room]; omega) (by decide) ?_;intro B5 v5 w5 ho5 hS5;obtain ⟨a5,c5,rfl,_⟩:=ho5.form;clear hS3;(repeat (first | refine aA ?_ | (refine aF ?_; intro _ _)));rename_i w6 hS6;have hS7:=hS6.keep [.at bw,.bl B5];rw [append_nil] at hS7;refine back (k + 1,us3 ++ [UInt8.ofNat mm_]) _ _ ⟨by simp,by simp only; omega,?_,_,z3,hz1.trans hz3,⟨_,B5,rfl,?_⟩,hS7⟩ (by simp only; omega)
   ·rw [hys3,hg]; simp only [append_assoc]
   ·rw [length_append,Lib.byteCells_append]
    exact ho5
 ·have hk2:k = l.length:=by omega
  subst hk2;rw [drop_of_length_le (Nat.le_refl _),flatMap_nil,append_nil] at hys;exact ⟨_,_,hS1,rfl,by rw [hys]; exact hB1⟩)
end
section
theorem pY:∀ l:List Int,(l.map fun x=>Value.int .i64 x) = l.flatMap fun x=>[Value.int .i64 x]
 | []=>rfl
 | a :: l=>by rw [map_cons,flatMap_cons,pY l]; rfl
theorem kL {w0 w:World} {z0 z:Z} {B0 L:Bl} {K:RP} [hS:Res w0 z0 B0 w z L] {k n:Nat} {parts:List (Nat × Value)} {out:List Value} [gf:ru 1 0 parts out n] (l:List Int) (ho:out = l.map fun x=>Value.int .i64 x) (hn:k = n) (hsz:n <= 1000)
  (hk:∀ z' w' v,Le z z'->Res w0 z0 B0 w' z' L->SlR El.int z' v l->K v w'):V (bs 45 k parts.toArray) w K:=by
 refine je hn (by omega) ?_;intro b w1 hb hS1;have hfl:out = l.flatMap fun x=>[Value.int .i64 x]:=by rw [ho]; exact pY l
 have hlen:out.length = n:=by obtain ⟨h1,h2,_⟩:=gf.h; omega
 have hll:l.length = n:=by rw [<- hlen,ho,length_map]
 obtain ⟨z2,hz2,hS2,hv⟩:=Res.freezeSl (E:=El.int) (e:=3) (B:=[(b,_)]) (L:=L) (v:=.slice (some ⟨b,0,none⟩) l.length n) (xs:=l) (f:=fun x=>[Value.int .i64 x]) hS1 ⟨by rw [<- hfl,hlen,hll]; exact (Nat.mul_one _).symm,.inr ⟨b,n,[],by rw [<- hfl,append_nil],rfl,by omega,by simp only [maxLen]; omega,by rw [<- hfl,append_nil,hlen]; exact (Nat.mul_one _).symm⟩⟩ (by simp only [big]; omega) (fun _=>rfl) (fun z x _=>rfl);rw [hll] at hv;exact hk _ _ _ hz2 hS2 hv
theorem Mid.of {n:Int} (h:-1000000000000 <= n/\n <= 1000000000000):Mid n:=⟨by omega⟩
theorem iH {w0 w:World} {z0 z:Z} {B0 L B F:Bl} {K:RP} {bw:Nat} {ys:List UInt8} {v:Value} {l:List Int} (hS:Res w0 z0 B0 w z L) (hB:dy bw B ys) [gb:BringL L B F] (hv:SlR El.int z v l) (hm:∀ n ∈ l,Mid n) (hb:(ys ++ l.flatMap cr).length <= eL)
  (hk:∀ z' B' w',Le z z'->Res w0 z0 B0 w' z' (B' ++ F)->dy bw B' (ys ++ l.flatMap cr)->K (.tuple #[]) w'):CV (.func (.func 175) #[] #[]) #[.pointer (some ⟨bw,0,none⟩),v] w K:=by
 refine bO (B:=B) (F:=F) (hS.bring B) (BR hB hv hm hb) (by simp) ?_;rintro z' B' w' v' hz hS' ⟨rfl,hB'⟩
 exact hk z' B' w' hz hS' hB'
def iK (s:ByteArray):List UInt8:=cr s.size ++ bytes s
theorem yp {z:Z} {w:World} {bw:Nat} {B:Bl} {ys:List UInt8} {s:ByteArray} (hB:dy bw B ys) (hs:s.size <= 1000000) (hb:(ys ++ iK s).length <= eL) :
  Fn 92 #[.pointer (some ⟨bw,0,none⟩),.string s] z B w fun z' B' r=>r = .tuple #[]/\dy bw B' (ys ++ iK s):=Fn.intro fun hS=>en92 (by
 unfold vc92;have hbs:(bytes s).length = s.size:=(aI s).symm;have hb2:(ys ++ cr s.size).length + s.size <= eL:=by unfold iK at hb; rw [<- append_assoc,length_append] at hb; omega
 refine aA ?_;refine kL [(s.size:Int)] rfl rfl (by omega) ?_;intro z1 w1 v1 hz1 hS1 hv1;refine iH (B:=B) hS1 hB hv1 (fun n hn=>by simp at hn; subst hn; exact Mid.of (by omega)) (by simp only [flatMap_cons,flatMap_nil,append_nil]; omega) ?_;intro z2 B2 w2 hz2 hS2 hB2;simp only [flatMap_cons,flatMap_nil,append_nil] at hB2;rw [append_nil] at hS2;obtain ⟨v3,Bv,rfl,ho⟩:=hB2;obtain ⟨a3,c3,rfl,_⟩:=ho.form;simp only [eL] at hb2;(repeat (first | refine aA ?_ | refine aE ?_));refine wU (t:=55) (u:=9) (bytes:=1) (by kernel_rfl) (hS2.bring Bv) ho (by simp only [room]; omega) (by simp only [room]; omega) ?_;intro B5 v5 w5 ho5 hS5;obtain ⟨a5,c5,rfl,_⟩:=ho5.form;(repeat (first | refine aA ?_ | (refine aF ?_; intro _ _)));rename_i w6 hS6;have hS7:=hS6.keep [.at bw,.bl B5];rw [append_nil] at hS7;refine ⟨_,_,hS7,rfl,_,B5,rfl,?_⟩;rw [iK,<- append_assoc,length_append (bs:=bytes s),hbs,Lib.byteCells_append,<- Lib.strCells_eq];exact ho5)
def nu (p:PartM):List UInt8:=cr p.kind ++ (iK p.text ++ cr p.n)
def oG (x:ItemM):List UInt8:=cr (if x.via = true then 1 else 0) ++ iK x.name
def nk (s:SpotM):List UInt8:=cr s.at_ ++ iK s.name
def uQ (i:InsM):List UInt8:=cr i.op ++ (cr i.a ++ (cr i.b ++ cr i.c))
theorem fJ {a b:List UInt8} {n:Nat} (h:(a ++ b).length <= n):a.length <= n:=by rw [length_append] at h; omega
theorem wc {w0 w:World} {z0 z:Z} {B0 L B F:Bl} {K:RP} {bw:Nat} {ys:List UInt8} {s:ByteArray} (hS:Res w0 z0 B0 w z L) (hB:dy bw B ys) [gb:BringL L B F] (hs:s.size <= 1000000) (hb:(ys ++ iK s).length <= eL)
  (hk:∀ z' B' w',Le z z'->Res w0 z0 B0 w' z' (B' ++ F)->dy bw B' (ys ++ iK s)->K (.tuple #[]) w'):CV (.func (.func 92) #[] #[]) #[.pointer (some ⟨bw,0,none⟩),.string s] w K:=by
 refine bO (B:=B) (F:=F) (hS.bring B) (yp hB hs hb) (by simp) ?_;rintro z' B' w' v' hz hS' ⟨rfl,hB'⟩
 exact hk z' B' w' hz hS' hB'
theorem DN {z:Z} {w:World} {bw:Nat} {B:Bl} {ys:List UInt8} {p:PartM} (hB:dy bw B ys) (h1:Mid p.kind) (h2:p.text.size <= 1000000) (h3:Mid p.n) (hb:(ys ++ nu p).length <= eL) :
  Fn 96 #[.pointer (some ⟨bw,0,none⟩),p.v] z B w fun z' B' r=>r = .tuple #[]/\dy bw B' (ys ++ nu p):=Fn.intro fun hS=>en96 (by
 unfold vc96;have e0:ys ++ nu p = ((ys ++ cr p.kind) ++ iK p.text) ++ cr p.n:=by unfold nu; simp only [append_assoc]
 rw [e0] at hb ⊢;refine aP ?_;intro b1 w1 hb1 hS1;clear hS;(repeat (first | refine aA ?_ | refine aE ?_));refine kL [p.kind] rfl rfl (by omega) ?_;intro z2 w2 v2 hz2 hS2 hv2;refine iH (B:=B) hS2 hB hv2 (fun n hn=>by simp at hn; subst hn; exact h1) (by simpa using fJ (fJ hb)) ?_;intro z3 B3 w3 hz3 hS3 hB3;simp only [flatMap_cons,flatMap_nil,append_nil] at hB3;clear hS1 hS2;(repeat (first | refine aA ?_ | refine aE ?_));refine wc (B:=B3) hS3 hB3 h2 (fJ hb) ?_;intro z4 B4 w4 hz4 hS4 hB4;clear hS3;(repeat (first | refine aA ?_ | refine aE ?_));refine kL [p.n] rfl rfl (by omega) ?_;intro z5 w5 v5 hz5 hS5 hv5;refine iH (B:=B4) hS5 hB4 hv5 (fun n hn=>by simp at hn; subst hn; exact h3) (by simpa using hb) ?_;intro z6 B6 w6 hz6 hS6 hB6;simp only [flatMap_cons,flatMap_nil,append_nil] at hB6;exact ⟨_,_,hS6.sublist (sublist_append_left _ _),rfl,hB6⟩)
theorem DV {z:Z} {w:World} {bw:Nat} {B:Bl} {ys:List UInt8} {x:ItemM} (hB:dy bw B ys) (h2:x.name.size <= 1000000) (hb:(ys ++ oG x).length <= eL) :
  Fn 100 #[.pointer (some ⟨bw,0,none⟩),x.v] z B w fun z' B' r=>r = .tuple #[]/\dy bw B' (ys ++ oG x):=Fn.intro fun hS=>en100 (by
 unfold vc100;have e0:ys ++ oG x = (ys ++ cr (if x.via = true then 1 else 0)) ++ iK x.name:=by unfold oG; simp only [append_assoc]
 rw [e0] at hb ⊢;refine aP ?_;intro b1 w1 hb1 hS1;clear hS
 skip
 refine Dc (y:=if x.via = true then 1 else 0) (by cases x.via <;> rfl) ?_;intro z7 w7 hz7 hS7;clear hS1;refine kL [if x.via = true then 1 else 0] rfl rfl (by omega) ?_;intro z2 w2 v2 hz2 hS2 hv2;refine iH (B:=B) hS2 hB hv2 (fun n hn=>by simp at hn; subst hn; exact Mid.of (by split <;> omega)) (by simpa using fJ hb) ?_;intro z3 B3 w3 hz3 hS3 hB3;simp only [flatMap_cons,flatMap_nil,append_nil] at hB3;clear hS7 hS2;(repeat (first | refine aA ?_ | refine aE ?_));refine wc (B:=B3) hS3 hB3 h2 hb ?_;intro z4 B4 w4 hz4 hS4 hB4;exact ⟨_,_,hS4.sublist (sublist_append_left _ _),rfl,hB4⟩)
theorem DJ {z:Z} {w:World} {bw:Nat} {B:Bl} {ys:List UInt8} {s:SpotM} (hB:dy bw B ys) (h1:Mid s.at_) (h2:s.name.size <= 1000000) (hb:(ys ++ nk s).length <= eL) :
  Fn 102 #[.pointer (some ⟨bw,0,none⟩),s.v] z B w fun z' B' r=>r = .tuple #[]/\dy bw B' (ys ++ nk s):=Fn.intro fun hS=>en102 (by
 unfold vc102;have e0:ys ++ nk s = (ys ++ cr s.at_) ++ iK s.name:=by unfold nk; simp only [append_assoc]
 rw [e0] at hb ⊢;refine aP ?_;intro b1 w1 hb1 hS1;clear hS;(repeat (first | refine aA ?_ | refine aE ?_));refine kL [s.at_] rfl rfl (by omega) ?_;intro z2 w2 v2 hz2 hS2 hv2;refine iH (B:=B) hS2 hB hv2 (fun n hn=>by simp at hn; subst hn; exact h1) (by simpa using fJ hb) ?_;intro z3 B3 w3 hz3 hS3 hB3;simp only [flatMap_cons,flatMap_nil,append_nil] at hB3;clear hS1 hS2;(repeat (first | refine aA ?_ | refine aE ?_));refine wc (B:=B3) hS3 hB3 h2 hb ?_;intro z4 B4 w4 hz4 hS4 hB4;exact ⟨_,_,hS4.sublist (sublist_append_left _ _),rfl,hB4⟩)
theorem Dk {z:Z} {w:World} {bw:Nat} {B:Bl} {ys:List UInt8} {i:InsM} (hB:dy bw B ys) (h1:Mid i.op) (h2:Mid i.a) (h3:Mid i.b) (h4:Mid i.c) (hb:(ys ++ uQ i).length <= eL) :
  Fn 104 #[.pointer (some ⟨bw,0,none⟩),i.v] z B w fun z' B' r=>r = .tuple #[]/\dy bw B' (ys ++ uQ i):=Fn.intro fun hS=>en104 (by
 unfold vc104;have e0:uQ i = [i.op,i.a,i.b,i.c].flatMap cr:=by unfold uQ; simp only [flatMap_cons,flatMap_nil,append_nil]
 rw [e0] at hb ⊢;refine aP ?_;intro b1 w1 hb1 hS1;clear hS;(repeat (first | refine aA ?_ | refine aE ?_));refine kL [i.op,i.a,i.b,i.c] rfl rfl (by omega) ?_;intro z2 w2 v2 hz2 hS2 hv2;refine iH (B:=B) hS2 hB hv2 (fun n hn=>by simp at hn; rcases hn with rfl | rfl | rfl | rfl <;> assumption) hb ?_;intro z3 B3 w3 hz3 hS3 hB3;exact ⟨_,_,hS3.sublist (sublist_append_left _ _),rfl,hB3⟩)
end
section
def yj (S T fi:Nat) (R:RP) (w:World) (t0 t1 t2:Value):Prop:=
 V (Builtin.len_ #[S] 3 #[t1]) w fun t10 w=>V (bs 45 1 #[(0,t10)]) w fun t11 w=>CV (.func (.func fi) #[] #[]) #[t0,t11] w fun t12 w=>V (Builtin.len_ #[S] 3 #[t1]) w fun t14 w=>∃ (I0:LP) (M0:LN),I0 [(.int .i64 0)] w/\∀ g:Env,∀ t15,∀ w,I0 [t15] w->∀ m0,m0 = M0 [t15] w ->
 V (bi .lss 3 t15 t14) w fun t16 w=>aB t16
 (V (ia S t1 t15) w fun t17 w=>V (ld T t17) w fun t18 w=>CV t2 #[t18] w fun t21 w=>V (bi .add 3 t15 (.int .i64 1)) w fun t22 w=>
 I0 [t22] w/\M0 [t22] w < m0)
 (R (.tuple #[]) w)
def yi (S T fi:Nat) (R:RP) (w:World) (t0 t1 t2:Value):Prop:=
 V (Builtin.len_ #[S] 3 #[t1]) w fun t10 w=>V (bs 45 1 #[(0,t10)]) w fun t11 w=>CV (.func (.func fi) #[] #[]) #[t0,t11] w fun t12 w=>V (Builtin.len_ #[S] 3 #[t1]) w fun t14 w=>∃ (I0:LP) (M0:LN),I0 [(.int .i64 0)] w/\∀ g:Env,∀ t15,∀ w,I0 [t15] w->∀ m0,m0 = M0 [t15] w ->
 V (bi .lss 3 t15 t14) w fun t16 w=>aB t16
 (V (ia S t1 t15) w fun t17 w=>V (ld T t17) w fun t18 w=>V (al T) w fun t7 w=>U (st T t7 t18) w fun w=>V (ld T t7) w fun t20 w=>CV t2 #[t20] w fun t21 w=>V (bi .add 3 t15 (.int .i64 1)) w fun t22 w=>
 I0 [t22] w/\M0 [t22] w < m0)
 (R (.tuple #[]) w)
def WrF {α:Type} (E:El α) (vf:List Value->Value) (fv:Value) (bw:Nat) (g:α->List UInt8) (xs:List α) (z:Z):Prop:=
 ∀ z' w' B ys x cs,x ∈ xs->Le z z'->E.rel z' cs x->dy bw B ys->(ys ++ g x).length <= eL->Va fv #[vf cs] z' B w' fun _ B' _=>dy bw B' (ys ++ g x)
section
variable {α:Type} {E:El α} {S T n fa:Nat} {z:Z} {w:World} {bw:Nat} {B:Bl} {ys:List UInt8} {v fv:Value} {xs:List α} {g:α->List UInt8}
theorem Cs [gs:bF S T 1] [go:am T] (hE:E.size = 1)
  (h1:∀ {R:RP} {w:World} {t0 t1 t2:Value},yj S T 175 R w t0 t1 t2->Calls Tryz.prog fa #[t0,t1,t2] w (retK R)) (hB:dy bw B ys) (hx:SlR E z v xs) (hl:xs.length <= 1000000) (hf:WrF E se fv bw g xs z) (hb:(ys ++ (cr xs.length ++ xs.flatMap g)).length <= eL) :
  Fn fa #[.pointer (some ⟨bw,0,none⟩),v,fv] z B w fun z' B' r=>r = .tuple #[]/\dy bw B' (ys ++ (cr xs.length ++ xs.flatMap g)):=Fn.intro fun hS=>h1 (by
 unfold yj;obtain ⟨_,a,cap,rfl,_,hel⟩:=hx.form;rw [<- append_assoc] at hb;refine aA ?_;refine kL [(xs.length:Int)] rfl rfl (by omega) ?_;intro z2 w2 v2 hz2 hS2 hv2;refine iH (B:=B) hS2 hB hv2 (fun n hn=>by simp at hn; subst hn; exact Mid.of (by omega)) (by simpa using fJ hb) ?_;intro z3 B3 w3 hz3 hS3 hB3;simp only [flatMap_cons,flatMap_nil,append_nil] at hB3;rw [append_nil] at hS3;refine aA ?_;refine cC (fun (p:Nat × List UInt8) x w'=>x = .int .i64 p.1/\p.1 <= xs.length/\ys ++ cr xs.length ++ xs.flatMap g = p.2 ++ (xs.drop p.1).flatMap g/\∃ B' z',Le z z'/\dy bw B' p.2/\Res w z B w' z' B') (fun p=>xs.length - p.1) (0,ys ++ cr xs.length) ⟨rfl,by simp,rfl,B3,z3,hz2.trans hz3,hB3,hS3⟩ ?_;rintro I M ⟨k,us⟩ x w4 m ⟨rfl,hk,hys,B4,z4,hz4,hB4,hS4⟩ back
 simp only at hk hys hB4;dsimp only;clear hS2 hS3;refine aA ?_;refine aC (fun h=>?_) (fun h=>?_)
 ·have hlt:k < xs.length:=by omega
  haveI:InR (k:Int) (xs.length:Nat):=⟨by omega,by omega⟩
  haveI:InI ((k:Int) + 1):=⟨by omega⟩
  obtain ⟨b,off,cs,rfl,hr,hat⟩:=hel _ _ (getElem?_eq_getElem hlt);have hcl:=E.len hr;rw [hE] at hcl hat;obtain ⟨u,rfl⟩:∃ u,cs = [u]:=by
   cases cs with
   | nil=>cases hcl
   | cons u l=>
    have hl0:l = []:=eq_nil_of_length_eq_zero (by simpa using hcl);exact ⟨u,by rw [hl0]⟩
  rw [drop_eq_getElem_cons hlt,flatMap_cons] at hys;refine aA ?_;refine bL (hat.mono hz4) ?_;refine oQ (B:=B4) (F:=[]) (by rw [append_nil]; exact hS4) (hf _ _ _ us _ _ (getElem_mem hlt) hz4 (E.mono hr hz4) hB4 (by rw [hys,<- append_assoc] at hb; exact fJ hb)) ?_;intro z5 B5 w5 v5 hz5 hS5 hB5;rw [append_nil] at hS5;refine aA ?_;refine back (k + 1,us ++ g xs[k]) _ _ ⟨by simp,by simp only; omega,by simp only [append_assoc] at hys ⊢; exact hys,B5,z5,hz4.trans hz5,hB5,hS5⟩ (by simp only; omega)
 ·have hk2:k = xs.length:=by omega
  subst hk2;rw [drop_of_length_le (Nat.le_refl _),flatMap_nil,append_nil] at hys;exact ⟨_,_,hS4,rfl,by rw [<- append_assoc,hys]; exact hB4⟩)
theorem Br [gs:bF S T n] [ga:bn T n] [gz:aR T n] (hE:E.size = n) (hzero:∃ zs,bD T zs/\zs.length = n) (hone:∀ z cs x,E.rel z cs x->∀ u ∈ cs,gB u = true)
  (h1:∀ {R:RP} {w:World} {t0 t1 t2:Value},yi S T 175 R w t0 t1 t2->Calls Tryz.prog fa #[t0,t1,t2] w (retK R)) (hB:dy bw B ys) (hx:SlR E z v xs) (hl:xs.length <= 1000000) (hf:WrF E nY fv bw g xs z) (hb:(ys ++ (cr xs.length ++ xs.flatMap g)).length <= eL) :
  Fn fa #[.pointer (some ⟨bw,0,none⟩),v,fv] z B w fun z' B' r=>r = .tuple #[]/\dy bw B' (ys ++ (cr xs.length ++ xs.flatMap g)):=Fn.intro fun hS=>h1 (by
 unfold yi;obtain ⟨_,a,cap,rfl,_,hel⟩:=hx.form;rw [<- append_assoc] at hb;refine aA ?_;refine kL [(xs.length:Int)] rfl rfl (by omega) ?_;intro z2 w2 v2 hz2 hS2 hv2;refine iH (B:=B) hS2 hB hv2 (fun n hn=>by simp at hn; subst hn; exact Mid.of (by omega)) (by simpa using fJ hb) ?_;intro z3 B3 w3 hz3 hS3 hB3;simp only [flatMap_cons,flatMap_nil,append_nil] at hB3;rw [append_nil] at hS3;refine aA ?_;refine cC (fun (p:Nat × List UInt8) x w'=>x = .int .i64 p.1/\p.1 <= xs.length/\ys ++ cr xs.length ++ xs.flatMap g = p.2 ++ (xs.drop p.1).flatMap g/\∃ B' z',Le z z'/\dy bw B' p.2/\Res w z B w' z' B') (fun p=>xs.length - p.1) (0,ys ++ cr xs.length) ⟨rfl,by simp,rfl,B3,z3,hz2.trans hz3,hB3,hS3⟩ ?_;rintro I M ⟨k,us⟩ x w4 m ⟨rfl,hk,hys,B4,z4,hz4,hB4,hS4⟩ back
 simp only at hk hys hB4;dsimp only;clear hS2 hS3;refine aA ?_;refine aC (fun h=>?_) (fun h=>?_)
 ·have hlt:k < xs.length:=by omega
  haveI:InR (k:Int) (xs.length:Nat):=⟨by omega,by omega⟩
  haveI:InI ((k:Int) + 1):=⟨by omega⟩
  obtain ⟨b,off,cs,rfl,hr,hat⟩:=hel _ _ (getElem?_eq_getElem hlt);have hcl:=E.len hr;rw [hE] at hcl hat;rw [drop_eq_getElem_cons hlt,flatMap_cons] at hys;refine aA ?_;refine kz (hat.mono hz4) hcl ?_;refine CM hzero ?_;intro b7 w7 zs hzs hb7 hS7;refine Bu (vs:=cs) (n:=n) (l:=zs) (l':=cs) (go:=⟨hone _ _ _ hr⟩) (gl:=SetN.whole (hzs.trans hcl.symm)) hS7 hcl ?_;intro w8 hS8;refine ut (n:=n) (vs:=cs) ⟨_,_,_,(hS8.mem _ mem_cons_self).1,fun j u hu=>by rw [Nat.zero_add]; simpa using hu⟩ hcl ?_;have hS9:=hS8.sublist (sublist_cons_self _ _);refine oQ (B:=B4) (F:=[]) (by rw [append_nil]; exact hS9) (hf _ _ _ us _ _ (getElem_mem hlt) hz4 (E.mono hr hz4) hB4 (by rw [hys,<- append_assoc] at hb; exact fJ hb)) ?_;intro z5 B5 w5 v5 hz5 hS5 hB5;rw [append_nil] at hS5;refine aA ?_;refine back (k + 1,us ++ g xs[k]) _ _ ⟨by simp,by simp only; omega,by simp only [append_assoc] at hys ⊢; exact hys,B5,z5,hz4.trans hz5,hB5,hS5⟩ (by simp only; omega)
 ·have hk2:k = xs.length:=by omega
  subst hk2;rw [drop_of_length_le (Nat.le_refl _),flatMap_nil,append_nil] at hys;exact ⟨_,_,hS4,rfl,by rw [<- append_assoc,hys]; exact hB4⟩)
end
end
section
def qt (l:List PartM):List UInt8:=cr l.length ++ l.flatMap nu
def rN (l:List ItemM):List UInt8:=cr l.length ++ l.flatMap oG
def qf (c:aH):List UInt8:=
 [81] ++ (cr c.consts.length ++ c.consts.flatMap iK) ++ (cr c.tmpls.length ++ c.tmpls.flatMap qt) ++ (cr c.lists.length ++ c.lists.flatMap rN) ++ (cr c.labels.length ++ c.labels.flatMap nk) ++ (cr c.slots.length ++ c.slots.flatMap iK) ++ (cr c.ins.length ++ c.ins.flatMap uQ)
theorem sa {k n:Int} (h:cW k n = true) (hk:k ≠ 23):0 <= n/\n <= 99:=by
 unfold cW at h
 cases hf:rngTab.find? (fun p=>p.1 == k) with
 | some p=>
  rw [hf] at h;have hm:=mem_of_find?_eq_some hf;have ha:rngTab.all (fun p=>decide (0 <= p.2.1/\p.2.2 <= 99)) = true:=by decide +kernel
  have:=List.all_eq_true.1 ha p hm;simp only [decide_eq_true_eq] at this;have:=inB_iff.1 h;omega
 | none=>
  rw [hf] at h;have h':(decide (k = 23) || (decide (k = 22) && decide (dt n ≥ 0))) = true:=h;rw [decide_eq_false hk,Bool.false_or,Bool.and_eq_true] at h';have:=of_decide_eq_true h'.2;unfold dt at this
  split at this
  ·omega
  ·omega
theorem gt {c:aH} (hl:bH c = true) {k n:Int} (h:bJ c k n = true) (hk:k ≠ 23):-1 <= n/\n <= 100000:=by
 have hb:=dW hl;have named_small:∀ p,bR c n p = true->0 <= n/\n <= 3000:=fun p hp=>by
  unfold bR at hp;simp only [Bool.and_eq_true] at hp;have:=inB_iff.1 hp.1;omega
 unfold bJ at h
 by_cases e1:k = 1
 ·rw [if_pos e1] at h; have:=inB_iff.1 h; omega
 rw [if_neg e1] at h
 by_cases e8:k = 8
 ·rw [if_pos e8] at h; rw [Bool.or_eq_true,decide_eq_true_eq] at h; rcases h with h | h
  ·omega
  ·have:=named_small _ h; omega
 rw [if_neg e8] at h
 by_cases e2:k = 2
 ·rw [if_pos e2] at h; have:=named_small _ h; omega
 rw [if_neg e2] at h
 by_cases e3:k = 3
 ·rw [if_pos e3] at h; have:=named_small _ h; omega
 rw [if_neg e3] at h
 by_cases e4:k = 4
 ·rw [if_pos e4] at h; have:=named_small _ h; omega
 rw [if_neg e4] at h
 by_cases e5:k = 5
 ·rw [if_pos e5] at h; have:=named_small _ h; omega
 rw [if_neg e5] at h
 by_cases e6:k = 6
 ·rw [if_pos e6] at h; have:=named_small _ h; omega
 rw [if_neg e6] at h
 by_cases e7:k = 7
 ·rw [if_pos e7] at h; rw [Bool.or_eq_true] at h; rcases h with h | h <;> (have:=named_small _ h; omega)
 rw [if_neg e7] at h
 by_cases e9:k = 9
 ·rw [if_pos e9] at h; have:=inB_iff.1 h; omega
 rw [if_neg e9] at h
 by_cases e10:k = 10
 ·rw [if_pos e10] at h; have:=inB_iff.1 h; omega
 rw [if_neg e10] at h
 by_cases e12:k = 12
 ·rw [if_pos e12] at h; rw [Bool.or_eq_true,decide_eq_true_eq] at h; rcases h with h | h
  ·omega
  ·have:=inB_iff.1 h; omega
 rw [if_neg e12] at h
 by_cases e11:k = 11
 ·rw [if_pos e11] at h; have:=inB_iff.1 h; omega
 rw [if_neg e11] at h
 by_cases e13:k = 13
 ·rw [if_pos e13] at h; have:=inB_iff.1 h; omega
 rw [if_neg e13] at h;have:=sa h hk;omega
theorem xm {n:Int} (h:cO n = true):((aG n).k0 = 23->n = 12 \/ n = 21 \/ n = 22)/\((aG n).k1 = 23->n = 19)/\((aG n).k2 = 23->n = 22):=by
 have key:∀ j:Fin 47,((formL.getD j noForm).k0 = 23->(j:Nat) = 12 \/ (j:Nat) = 21 \/ (j:Nat) = 22)/\((formL.getD j noForm).k1 = 23->(j:Nat) = 19)/\((formL.getD j noForm).k2 = 23->(j:Nat) = 22):=by decide +kernel
 have hh:=h;simp only [cO,Bool.and_eq_true,decide_eq_true_eq] at hh;have hk:=key ⟨n.toNat,by omega⟩;have hf:aG n = formL.getD n.toNat noForm:=by unfold aG; rw [if_pos h]
 rw [hf];simp only at hk;refine ⟨fun e=>?_,fun e=>?_,fun e=>?_⟩
 ·have:=hk.1 e; omega
 ·have:=hk.2.1 e; omega
 ·have:=hk.2.2 e; omega
theorem tc {c:aH} (hl:bH c = true) {i:InsM} (h:bX c i = true):1 <= i.op/\i.op <= 46/\(-1 <= i.a/\i.a <= 100000)/\(-1 <= i.b/\i.b <= 100000)/\(-1 <= i.c/\i.c <= 100000):=by
 have hb:=dW hl;unfold bX at h;simp only [Bool.and_eq_true] at h;obtain ⟨h1,h2,h3,h4,h5⟩:=h;obtain ⟨o1,o2,o3⟩:=xm h1;have hop:=h1;simp only [cO,Bool.and_eq_true,decide_eq_true_eq] at hop;refine ⟨by omega,by omega,?_,?_,?_⟩
 ·by_cases e:(aG i.op).k0 = 23
  ·have:=o1 e
   unfold cS at h5
   by_cases e1:i.op = 12 \/ i.op = 21
   ·rw [if_pos e1] at h5
    unfold bR at h5;simp only [Bool.and_eq_true] at h5;have:=inB_iff.1 h5.1;omega
   ·rw [if_neg e1,if_neg (by omega),if_pos (by omega)] at h5
    simp only [Bool.and_eq_true,Bool.not_eq_true',Bool.or_eq_false_iff,Bool.not_eq_false'] at h5;have:=inB_iff.1 h5.1.1;omega
  ·exact gt hl h2 e
 ·by_cases e:(aG i.op).k1 = 23
  ·have e1:=o2 e
   unfold cS at h5;rw [if_neg (by omega),if_pos e1] at h5;simp only [Bool.or_eq_true,Bool.and_eq_true,decide_eq_true_eq] at h5
   rcases h5 with h5 | h5
   ·omega
   ·exact gt hl h5.2 (by decide)
  ·exact gt hl h3 e
 ·by_cases e:(aG i.op).k2 = 23
  ·have e1:=o3 e
   unfold cS at h5;rw [if_neg (by omega),if_neg (by omega),if_pos e1] at h5;simp only [Bool.or_eq_true,Bool.and_eq_true,decide_eq_true_eq] at h5
   rcases h5.2 with h5 | h5
   ·omega
   ·exact gt hl h5.2 (by decide)
  ·exact gt hl h4 e
theorem oz {s:ByteArray} (h:aY s ≠ 0):s.size <= 40:=by
 unfold aY at h
 by_cases e:(!inB s.size 1 40 || (!((bytes s).all kg) && !kE s)) = true
 ·rw [if_pos e] at h; exact absurd rfl h
 ·simp only [Bool.or_eq_true,not_or,Bool.not_eq_true',Bool.not_eq_false] at e
  have:=inB_iff.1 (by simpa using e.1);omega
theorem tR {s:ByteArray} (h:jh s = true):s.size <= 40:=oz (by unfold jh at h; simp only [decide_eq_true_eq] at h; omega)
theorem lB {s:ByteArray} (h:cg s = true):s.size <= 1000:=by
 unfold cg at h; simp only [Bool.and_eq_true,decide_eq_true_eq] at h; exact h.1
theorem dB {p:PartM} (h:gO p = true):1 <= p.kind/\p.kind <= 11/\p.text.size <= 1000/\0 <= p.n/\p.n <= 999999999:=by
 unfold gO at h
 split at h
 ·simp only [Bool.and_eq_true,decide_eq_true_eq] at h; have:=tR h.1; omega
 split at h
 ·simp only [Bool.and_eq_true,decide_eq_true_eq] at h; have:=lB h.1; omega
 split at h
 ·simp only [Bool.and_eq_true,decide_eq_true_eq] at h; have:=oz (s:=p.text) (by omega); omega
 split at h
 ·simp only [Bool.and_eq_true,decide_eq_true_eq] at h
  have:=inB_iff.1 h.2;have hz:p.text.size = 0:=by rw [h.1]; rfl
  omega
 split at h
 ·simp only [Bool.and_eq_true,decide_eq_true_eq] at h
  have hz:p.text.size = 0:=by rw [h.1]; rfl
  omega
 ·cases h
theorem qM:∀ {l h:List ByteArray},(dx jJ h l).1 = true->∀ s ∈ l,aY s = 2
 | [],_,_,s,hs=>by cases hs
 | x :: l,h,hh,s,hs=>by
  rw [eM,show jJ h x = ((jJ h x).1,(jJ h x).2) from rfl] at hh
  cases hx:(jJ h x).1 with
  | false=>rw [hx] at hh; cases hh
  | true=>
   rw [hx] at hh;simp only [jJ,Bool.and_eq_true,decide_eq_true_eq] at hx
   rcases List.mem_cons.1 hs with rfl | hs
   ·exact hx.1
   ·exact qM hh s hs
theorem pg {n:Nat}:∀ {l:List SpotM} {last:Int},(dx (eV n) last l).1 = true->∀ s ∈ l,cg s.name = true
 | [],_,_,s,hs=>by cases hs
 | x :: l,last,h,s,hs=>by
  rw [eM,show eV n last x = ((eV n last x).1,(eV n last x).2) from rfl] at h
  cases hx:(eV n last x).1 with
  | false=>rw [hx] at h; cases h
  | true=>
   rw [hx] at h;simp only [eV,Bool.and_eq_true] at hx
   rcases List.mem_cons.1 hs with rfl | hs
   ·exact hx.1
   ·exact pg h s hs
structure tK (c:aH):Prop where
 consts:∀ s ∈ c.consts,s.size <= 1000
 tmpls:∀ l ∈ c.tmpls,l.length <= 100/\∀ p ∈ l,gO p = true
 lists:∀ l ∈ c.lists,l.length <= 10000/\∀ x ∈ l,x.name.size <= 40
 labels:∀ s ∈ c.labels,(0 <= s.at_/\s.at_ < 12000)/\s.name.size <= 1000
 slots:∀ s ∈ c.slots,s.size <= 40
 ins:∀ i ∈ c.ins,1 <= i.op/\i.op <= 46/\(-1 <= i.a/\i.a <= 100000)/\(-1 <= i.b/\i.b <= 100000)/\(-1 <= i.c/\i.c <= 100000)
 num:c.consts.length <= 3000/\c.tmpls.length <= 3000/\c.lists.length <= 3000/\c.labels.length <= 3000/\c.slots.length <= 100/\c.ins.length <= 12000
theorem pD {c:aH} (hl:bH c = true) (hp:dR c = true) (hr:∀ i ∈ c.ins,bX c i = true):tK c:=by
 have hb:=dW hl;have hlab:=nM hp;have hl0:=hl;unfold bH at hl;unfold dR at hp;simp only [Bool.and_eq_true,all_eq_true] at hl hp;obtain ⟨_,l2,_,l4,_⟩:=hl;obtain ⟨_,p1,p2,p3,p4,p5⟩:=hp;refine ⟨fun s hs=>lB (p1 s hs),fun l h=>⟨?_,?_⟩,fun l h=>⟨?_,?_⟩,fun s hs=>⟨⟨(hlab s hs).1,?_⟩,lB (pg p4 s hs)⟩,fun s hs=>oz (by rw [qM p5 s hs]; decide),fun i hi=>?_,hb⟩
 ·have:=l2 l h; unfold kj at this; simp only [Bool.and_eq_true,decide_eq_true_eq] at this; exact this.1
 ·have:=p2 l h; unfold ic at this; simpa using this
 ·have:=l4 l h; unfold mJ at this; simpa using this
 ·have:=p3 l h; unfold gQ at this; simp only [Bool.and_eq_true,all_eq_true] at this; exact fun x hx=>tR (this.2 x hx)
 ·have:=(hlab s hs).2; omega
 ·exact tc hl0 (hr i hi)
theorem gU {α:Type} {g:α->List UInt8} {k:Nat}:∀ {xs:List α},(∀ x ∈ xs,(g x).length <= k)->(xs.flatMap g).length <= xs.length * k
 | [],_=>by simp
 | x :: xs,h=>by
  rw [flatMap_cons,length_append,length_cons,Nat.add_mul];have:=h x mem_cons_self;have:=gU (xs:=xs) fun y hy=>h y (mem_cons_of_mem _ hy)
  omega
theorem jj {s:ByteArray}:(iK s).length <= 10 + s.size:=by unfold iK; rw [length_append,<- aI]; have:=@cJ s.size; omega
theorem AG {c:aH} (h:tK c):(qf c).length <= 10000000000:=by
 have hn:=@cJ;have b1:(c.consts.flatMap iK).length <= c.consts.length * 1010:=gU fun s hs=>by have:=h.consts s hs; have:=@jj s; omega
 have b2:(c.tmpls.flatMap qt).length <= c.tmpls.length * 110000:=gU fun l hl=>by
  obtain ⟨g1,g2⟩:=h.tmpls l hl;have:(l.flatMap nu).length <= l.length * 1050:=gU fun p hp=>by
   have:=dB (g2 p hp);have:=@jj p.text;have:=@cJ p.kind;have:=@cJ p.n;unfold nu;simp only [length_append];omega
  have:=@cJ l.length;unfold qt;rw [length_append];have:l.length * 1050 <= 100 * 1050:=Nat.mul_le_mul_right _ g1;omega
 have b3:(c.lists.flatMap rN).length <= c.lists.length * 700000:=gU fun l hl=>by
  obtain ⟨g1,g2⟩:=h.lists l hl;have:(l.flatMap oG).length <= l.length * 60:=gU fun x hx=>by
   have:=g2 x hx;have:=@jj x.name;have:=@cJ (if x.via = true then 1 else 0);unfold oG;simp only [length_append];omega
  have:=@cJ l.length;unfold rN;rw [length_append];have:l.length * 60 <= 10000 * 60:=Nat.mul_le_mul_right _ g1;omega
 have b4:(c.labels.flatMap nk).length <= c.labels.length * 1020:=gU fun s hs=>by
  have:=(h.labels s hs).2;have:=@jj s.name;have:=@cJ s.at_;unfold nk;rw [length_append];omega
 have b5:(c.slots.flatMap iK).length <= c.slots.length * 50:=gU fun s hs=>by have:=h.slots s hs; have:=@jj s; omega
 have b6:(c.ins.flatMap uQ).length <= c.ins.length * 40:=gU fun i hi=>by
  have:=@cJ i.op;have:=@cJ i.a;have:=@cJ i.b;have:=@cJ i.c;unfold uQ;simp only [length_append];omega
 obtain ⟨n1,n2,n3,n4,n5,n6⟩:=h.num;have:=@cJ c.consts.length;have:=@cJ c.tmpls.length;have:=@cJ c.lists.length;have:=@cJ c.labels.length;have:=@cJ c.slots.length;have:=@cJ c.ins.length;unfold qf;simp only [length_append,length_singleton];omega
end
section
theorem WrF.va {α:Type} {E:El α} {vf:List Value->Value} {f:FuncId} [aD f] {bw:Nat} {g:α->List UInt8} {xs:List α} {z:Z}
  (h:∀ z' w' B ys x cs,x ∈ xs->Le z z'->E.rel z' cs x->dy bw B ys->(ys ++ g x).length <= eL->Fn f #[.pointer (some ⟨bw,0,none⟩),vf cs] z' B w' fun _ B' r=>r = .tuple #[]/\dy bw B' (ys ++ g x)):WrF E vf (.func (.func f) #[.pointer (some ⟨bw,0,none⟩)] #[]) bw g xs z:=
 fun z' w' B ys x cs hm hz hr hB hb ho=>CallV.mono (Fn.va (first:=#[.pointer (some ⟨bw,0,none⟩)]) (cap:=#[]) (args':=#[.pointer (some ⟨bw,0,none⟩),vf cs]) (h z' w' B ys x cs hm hz hr hB hb) (by simp) ho) fun v w'' ⟨z'',B'',h1,_,h2⟩=>⟨z'',B'',h1,h2⟩
theorem Dg {bw:Nat} {xs:List ByteArray} {z:Z} (h:∀ s ∈ xs,s.size <= 1000000):WrF El.str se (.func (.func 92) #[.pointer (some ⟨bw,0,none⟩)] #[]) bw iK xs z:=
 WrF.va fun z' w' B ys x cs hm hz hr hB hb=>by obtain ⟨rfl,_⟩:=hr; exact yp hB (h x hm) hb
theorem DB {bw:Nat} {xs:List PartM} {z:Z} (h:∀ p ∈ xs,gO p = true):WrF El.part nY (.func (.func 96) #[.pointer (some ⟨bw,0,none⟩)] #[]) bw nu xs z:=
 WrF.va fun z' w' B ys x cs hm hz hr hB hb=>by
  obtain ⟨rfl,_⟩:=hr;have:=dB (h x hm);exact DN hB (Mid.of (by omega)) (by omega) (Mid.of (by omega)) hb
theorem DC {bw:Nat} {xs:List ItemM} {z:Z} (h:∀ x ∈ xs,x.name.size <= 40):WrF El.item nY (.func (.func 100) #[.pointer (some ⟨bw,0,none⟩)] #[]) bw oG xs z:=
 WrF.va fun z' w' B ys x cs hm hz hr hB hb=>by
  obtain ⟨rfl,_⟩:=hr;have:=h x hm;exact DV hB (by omega) hb
theorem DA {bw:Nat} {xs:List SpotM} {z:Z} (h:∀ s ∈ xs,(0 <= s.at_/\s.at_ < 12000)/\s.name.size <= 1000):WrF El.spot nY (.func (.func 102) #[.pointer (some ⟨bw,0,none⟩)] #[]) bw nk xs z:=
 WrF.va fun z' w' B ys x cs hm hz hr hB hb=>by
  obtain ⟨rfl,_⟩:=hr;have:=h x hm;exact DJ hB (Mid.of (by omega)) (by omega) hb
theorem Dh {bw:Nat} {xs:List InsM} {z:Z} (h:∀ i ∈ xs,1 <= i.op/\i.op <= 46/\(-1 <= i.a/\i.a <= 100000)/\(-1 <= i.b/\i.b <= 100000)/\(-1 <= i.c/\i.c <= 100000)):WrF El.ins nY (.func (.func 104) #[.pointer (some ⟨bw,0,none⟩)] #[]) bw uQ xs z:=
 WrF.va fun z' w' B ys x cs hm hz hr hB hb=>by
  cases hr
  have:=h x hm;exact Dk hB (Mid.of (by omega)) (Mid.of (by omega)) (Mid.of (by omega)) (Mid.of (by omega)) hb
theorem Ay {z:Z} {cs:List Value} {x:PartM} (h:El.part.rel z cs x):∀ u ∈ cs,gB u = true:=by
 obtain ⟨rfl,_⟩:=h; intro u hu; simp only [PartM.cells,mem_cons,not_mem_nil,or_false] at hu; rcases hu with rfl | rfl | rfl <;> rfl
theorem Az {z:Z} {cs:List Value} {x:ItemM} (h:El.item.rel z cs x):∀ u ∈ cs,gB u = true:=by
 obtain ⟨rfl,_⟩:=h; intro u hu; simp only [ItemM.cells,mem_cons,not_mem_nil,or_false] at hu; rcases hu with rfl | rfl <;> rfl
theorem Ax {z:Z} {cs:List Value} {x:SpotM} (h:El.spot.rel z cs x):∀ u ∈ cs,gB u = true:=by
 obtain ⟨rfl,_⟩:=h; intro u hu; simp only [SpotM.cells,mem_cons,not_mem_nil,or_false] at hu; rcases hu with rfl | rfl <;> rfl
theorem Cf {z:Z} {cs:List Value} {x:InsM} (h:El.ins.rel z cs x):∀ u ∈ cs,gB u = true:=by
 cases h; intro u hu; simp only [InsM.cells,mem_cons,not_mem_nil,or_false] at hu; rcases hu with rfl | rfl | rfl | rfl <;> rfl
section
variable {z:Z} {w:World} {bw b6:Nat} {B:Bl} {ys:List UInt8}
theorem AV {v:Value} {xs:List ByteArray} (hB:dy bw B ys) (hx:SlR El.str z v xs) (hl:xs.length <= 1000000) (h:∀ s ∈ xs,s.size <= 1000000) (hb:(ys ++ (cr xs.length ++ xs.flatMap iK)).length <= eL) :
  Fn 91 #[.pointer (some ⟨bw,0,none⟩),v,.func (.func 92) #[.pointer (some ⟨bw,0,none⟩)] #[]] z B w fun z' B' r=>r = .tuple #[]/\dy bw B' (ys ++ (cr xs.length ++ xs.flatMap iK)):=
 Cs (S:=22) (T:=9) (E:=El.str) rfl (fun h=>en91 h) hB hx hl (Dg h) hb
theorem Dn {v:Value} {l:List PartM} (h6:At z b6 0 [.pointer (some ⟨bw,0,none⟩)]) (hv:SlR El.part z v l) (hl:l.length <= 100) (hp:∀ p ∈ l,gO p = true) (hB:dy bw B ys) (hb:(ys ++ qt l).length <= eL) :
  Va (.func (.func 94) #[] #[.pointer (some ⟨b6,0,none⟩)]) #[v] z B w fun _ B' _=>dy bw B' (ys ++ qt l):=
 Fn.va (args':=#[v,.pointer (some ⟨b6,0,none⟩)]) (Fn.intro fun hS=>en94 (by
  unfold vc94;haveI:am 154:=inferInstance;refine bL h6 ?_;refine bL h6 ?_;refine bO (B:=B) (F:=[]) (by rw [append_nil]; exact hS) (Br (S:=93) (T:=95) (n:=3) (E:=El.part) (fa:=95) rfl ⟨_,inferInstance,rfl⟩ (fun _ _ _ h=>Ay h) (fun h=>en95 h) hB hv (by omega) (DB hp) hb) (by simp) ?_;rintro z2 B2 w2 v2 hz2 hS2 ⟨rfl,hB2⟩
  rw [append_nil] at hS2;exact ⟨_,_,hS2,hB2⟩)) (by simp)
theorem Dm {v:Value} {l:List ItemM} (h6:At z b6 0 [.pointer (some ⟨bw,0,none⟩)]) (hv:SlR El.item z v l) (hl:l.length <= 10000) (hp:∀ x ∈ l,x.name.size <= 40) (hB:dy bw B ys) (hb:(ys ++ rN l).length <= eL) :
  Va (.func (.func 98) #[] #[.pointer (some ⟨b6,0,none⟩)]) #[v] z B w fun _ B' _=>dy bw B' (ys ++ rN l):=
 Fn.va (args':=#[v,.pointer (some ⟨b6,0,none⟩)]) (Fn.intro fun hS=>en98 (by
  unfold vc98;refine bL h6 ?_;refine bL h6 ?_;refine bO (B:=B) (F:=[]) (by rw [append_nil]; exact hS) (Br (S:=96) (T:=98) (n:=2) (E:=El.item) (fa:=99) rfl ⟨_,inferInstance,rfl⟩ (fun _ _ _ h=>Az h) (fun h=>en99 h) hB hv (by omega) (DC hp) hb) (by simp) ?_;rintro z2 B2 w2 v2 hz2 hS2 ⟨rfl,hB2⟩
  rw [append_nil] at hS2;exact ⟨_,_,hS2,hB2⟩)) (by simp)
end
def uf (c:aH):Int:=if (ag c).1 = 0 then (if (qf c).length > 400000 then 3 else 0) else (ag c).1
def mY (c:aH):List UInt8:=if (ag c).1 = 0 then (if (qf c).length > 400000 then [] else qf c) else []
theorem kI (l:List UInt8):(l.flatMap fun x=>[Value.int .u8 x.toNat]) = Lib.byteCells l:=by
 induction l with
 | nil=>rfl
 | cons a l ih=>rw [flatMap_cons,ih]; rfl
theorem yO {z:Z} {w:World} {v:Value} {c:aH} (hc:CodeR z v c):Fn1 35 #[v] z w fun z' r=>∃ vb,r = .tuple #[vb,.int .i64 (uf c)]/\SlR El.byte z' vb (mY c):=Fn1.intro fun hS=>en35 (by
 unfold vc35;obtain ⟨a1,a2,a3,a4,a5,a6,k1,k2,k3,k4,k5,k6,rfl,h1,h2,h3,h4,h5,h6⟩:=hc.form;refine aP ?_;intro bc w1 hbc hS1;obtain ⟨zc,hzc,hS2,hatc⟩:=hS1.frz bc;generalize hRR:(fun (v:Value) (w':World)=>∃ z' L',Res w z [] w' z' L'/\∃ vb,v = .tuple #[vb,.int .i64 (uf c)]/\SlR El.byte z' vb (mY c)) = RR;have hR:∀ z' w' L' vb,Res w1 zc [] w' z' L'->SlR El.byte z' vb (mY c)->RR (.tuple #[vb,.int .i64 (uf c)]) w':=fun z' w' L' vb k hd=>by rw [<- hRR]; exact ⟨z',L',hS2.comp k,vb,rfl,hd⟩
 clear hRR;have hS3:=hS2.self;clear hS hS1 hS2;haveI:fQ zc (.agg (dq a1 a2 a3 a4 a5 a6 k1 k2 k3 k4 k5 k6 c).toArray) c:=⟨hc.mono hzc⟩
 refine kz (n:=6) hatc rfl ?_;haveI:Fz zc bc 0 [.slice a1 c.consts.length k1]:=⟨hatc.fld (i:=0) rfl rfl⟩
 haveI:Fz zc bc 1 [.slice a2 c.tmpls.length k2]:=⟨hatc.fld (i:=1) rfl rfl⟩
 haveI:Fz zc bc 2 [.slice a3 c.lists.length k3]:=⟨hatc.fld (i:=2) rfl rfl⟩
 haveI:Fz zc bc 3 [.slice a4 c.labels.length k4]:=⟨hatc.fld (i:=3) rfl rfl⟩
 haveI:Fz zc bc 4 [.slice a5 c.slots.length k5]:=⟨hatc.fld (i:=4) rfl rfl⟩
 haveI:Fz zc bc 5 [.slice a6 c.ins.length k6]:=⟨hatc.fld (i:=5) rfl rfl⟩
 (repeat (first | refine aA ?_ | (refine cE ?_; intro _ _ _ _)));rename_i z5 w5 hz5 hS5;clear hS3;refine eO (fun e1=>?_) (fun e1=>?_)
 ·have:=hR _ _ _ aJ hS5 (by rw [mY,if_neg e1]; exact SlR.nil)
  rw [uf,if_neg e1] at this;exact this
 obtain ⟨e0,hli,hpa,hri,_,_⟩:=gG e1;have hsm:=pD hli hpa hri;have hlen:=AG hsm;obtain ⟨n1,n2,n3,n4,n5,n6⟩:=hsm.num;refine je (parts:=[(0,_)]) rfl (by omega) ?_;intro bb w6 hbb hS6;clear hS5;refine aA ?_;refine aP ?_;intro bw w7 hbw hS7;clear hS6;refine ak ?_;intro b6 w8 hb6 hS8;clear hS7;refine aF ?_;intro w9 hS9;clear hS8;obtain ⟨z10,hz10,hS10,g6⟩:=hS9.frz b6;clear hS9;have hB0:dy bw [(bw,.cells [.slice (some ⟨bb,0,none⟩) 1 1].toArray 156 (0,0)),(bb,.cells ([Value.int .u8 81] ++ []).toArray 5 (0,0))] [81]:=⟨_,_,rfl,rfl,.inr ⟨bb,1,[],rfl,rfl,Nat.le_refl 1,by decide,rfl⟩⟩
 have hS11:Res w1 zc [] w9 z10 [(bw,.cells [.slice (some ⟨bb,0,none⟩) 1 1].toArray 156 (0,0)),(bb,.cells ([Value.int .u8 81] ++ []).toArray 5 (0,0))]:=hS10;clear hS10;generalize hB1:[(bw,Obj.cells [Value.slice (some ⟨bb,0,none⟩) 1 1].toArray 156 (0,0)),(bb,.cells ([Value.int .u8 81] ++ []).toArray 5 (0,0))] = B1 at *;clear hB1;have hS12:=hS11.self;have hR2:∀ z' w' L' vb,Res w9 z10 B1 w' z' L'->SlR El.byte z' vb (mY c)->RR (.tuple #[vb,.int .i64 (uf c)]) w':=fun z' w' L' vb k hd=>hR _ _ _ _ (hS11.comp k) hd
 clear hS11 hR;have hz510:=hz5.trans hz10;have hzz:=hzc.trans hz510;have hatc2:=hatc.mono hz510;haveI:Fz z10 bc 0 [.slice a1 c.consts.length k1]:=⟨hatc2.fld (i:=0) rfl rfl⟩
 haveI:Fz z10 bc 1 [.slice a2 c.tmpls.length k2]:=⟨hatc2.fld (i:=1) rfl rfl⟩
 haveI:Fz z10 bc 2 [.slice a3 c.lists.length k3]:=⟨hatc2.fld (i:=2) rfl rfl⟩
 haveI:Fz z10 bc 3 [.slice a4 c.labels.length k4]:=⟨hatc2.fld (i:=3) rfl rfl⟩
 haveI:Fz z10 bc 4 [.slice a5 c.slots.length k5]:=⟨hatc2.fld (i:=4) rfl rfl⟩
 haveI:Fz z10 bc 5 [.slice a6 c.ins.length k6]:=⟨hatc2.fld (i:=5) rfl rfl⟩
 haveI:Fz z10 b6 0 [.pointer (some ⟨bw,0,none⟩)]:=⟨g6⟩
 have l6:(qf c).length <= eL:=by simp only [eL]; omega
 unfold qf at l6;have l5:=fJ l6;have l4:=fJ l5;have l3:=fJ l4;have l2:=fJ l3;have l1:=fJ l2;(repeat (first | refine aA ?_ | refine aL ?_));refine bO (B:=B1) (F:=[]) (by rw [append_nil]; exact hS12) (AV hB0 (h1.mono hzz) (by omega) (fun s hs=>by have:=hsm.consts s hs; omega) l1) (by simp) ?_;rintro z13 B13 w13 v13 hz13 hS13 ⟨rfl,hB13⟩
 rw [append_nil] at hS13;clear hS12;(repeat (first | refine aA ?_ | refine aL ?_));refine bO (B:=B13) (F:=[]) (by rw [append_nil]; exact hS13) (Cs (S:=23) (T:=93) (E:=El.sl El.part) (g:=qt) rfl (fun h=>en93 h) hB13 (h2.mono (hzz.trans hz13)) (by omega) (fun z' w' B ys x cs hm hz hr hB hb=>by
  obtain ⟨v,rfl,hv⟩:=hr;have:=hsm.tmpls x hm;exact Dn (g6.mono (hz13.trans hz)) hv this.1 this.2 hB hb) l2) (by simp) ?_
 rintro z14 B14 w14 v14 hz14 hS14 ⟨rfl,hB14⟩
 rw [append_nil] at hS14;clear hS13;(repeat (first | refine aA ?_ | refine aL ?_));refine bO (B:=B14) (F:=[]) (by rw [append_nil]; exact hS14) (Cs (S:=24) (T:=96) (E:=El.sl El.item) (g:=rN) rfl (fun h=>en97 h) hB14 (h3.mono (hzz.trans (hz13.trans hz14))) (by omega) (fun z' w' B ys x cs hm hz hr hB hb=>by
  obtain ⟨v,rfl,hv⟩:=hr;have:=hsm.lists x hm;exact Dm (g6.mono ((hz13.trans hz14).trans hz)) hv this.1 this.2 hB hb) l3) (by simp) ?_
 rintro z15 B15 w15 v15 hz15 hS15 ⟨rfl,hB15⟩
 rw [append_nil] at hS15;clear hS14;have y15:=hzz.trans (hz13.trans (hz14.trans hz15));(repeat (first | refine aA ?_ | refine aL ?_));refine bO (B:=B15) (F:=[]) (by rw [append_nil]; exact hS15) (Br (S:=25) (T:=54) (n:=2) (E:=El.spot) (fa:=101) rfl ⟨_,inferInstance,rfl⟩ (fun _ _ _ h=>Ax h) (fun h=>en101 h) hB15 (h4.mono y15) (by omega) (DA hsm.labels) l4) (by simp) ?_;rintro z16 B16 w16 v16 hz16 hS16 ⟨rfl,hB16⟩
 rw [append_nil] at hS16;clear hS15;have y16:=y15.trans hz16;(repeat (first | refine aA ?_ | refine aL ?_));refine bO (B:=B16) (F:=[]) (by rw [append_nil]; exact hS16) (AV hB16 (h5.mono y16) (by omega) (fun s hs=>by have:=hsm.slots s hs; omega) l5) (by simp) ?_;rintro z17 B17 w17 v17 hz17 hS17 ⟨rfl,hB17⟩
 rw [append_nil] at hS17;clear hS16;have y17:=y16.trans hz17;(repeat (first | refine aA ?_ | refine aL ?_));refine bO (B:=B17) (F:=[]) (by rw [append_nil]; exact hS17) (Br (S:=26) (T:=38) (n:=4) (E:=El.ins) (fa:=103) rfl ⟨_,inferInstance,rfl⟩ (fun _ _ _ h=>Cf h) (fun h=>en103 h) hB17 (h6.mono y17) (by omega) (Dh hsm.ins) l6) (by simp) ?_;rintro z18 B18 w18 v18 hz18 hS18 ⟨rfl,hB18⟩
 rw [append_nil] at hS18;clear hS17;have hB19:dy bw B18 (qf c):=hB18;clear hB18;obtain ⟨v19,Bv,rfl,ho⟩:=hB19;obtain ⟨a19,c19,rfl,_⟩:=ho.form;(repeat (first | refine aA ?_ | refine aE ?_ | refine aL ?_));refine aC (fun h=>?_) (fun h=>?_)
 ·have:=hR2 _ _ _ aJ hS18 (by rw [mY,if_pos e1,if_pos (by omega)]; exact SlR.nil)
  rw [uf,if_pos e1,if_pos (by omega)] at this;exact this
 ·(repeat (first | refine aA ?_ | refine aE ?_ | refine aL ?_))
  have hS19:=hS18.bring Bv;obtain ⟨z20,hz20,hS20,hv⟩:=Res.freezeSl (E:=El.byte) (e:=5) (xs:=qf c) (f:=fun x=>[Value.int .u8 x.toNat]) hS19 (by rw [kI]; exact ho) (by simp only [big]; omega) (fun _=>rfl) (fun _ _ _=>rfl);have:=hR2 _ _ _ (.slice a19 (qf c).length c19) hS20 (by rw [mY,if_pos e1,if_neg (by omega)]; exact hv);rw [uf,if_pos e1,if_neg (by omega)] at this;exact this)
end
section
open Go Q Go.RowKit Go.Shelf
def BP:Go.Shelf.Ren:=⟨fun | 171=>187 | 243=>237 | 246=>263 | 283=>278 | 284=>279 | 285=>280 | 286=>281 | 129=>289 | 317=>288 | 318=>290 | 319=>291 | 320=>292 | 337=>296 | 338=>297 | n=>n,fun | 3=>3 | 9=>9 | 2=>2 | 4=>4 | 171=>308 | 0=>0 | 53=>309 | 37=>55 | 5=>5 | 173=>312 | 212=>328 | 51=>314 | 20=>20 | 213=>329 | 46=>247 | 232=>341 | 233=>342 | n=>n,fun | 17=>3 | 18=>6 | 19=>7 | n=>n⟩
theorem zw:Go.Proofs.LaysM.n171 Tryz.prog BP:={
 mixed:=by kernel_rfl
 f129:=Tryz.func289.trans (congrArg some (by kernel_rfl))
 f171:=Tryz.func187.trans (congrArg some (by kernel_rfl))
 f243:=Tryz.func237.trans (congrArg some (by kernel_rfl))
 f246:=Tryz.func263.trans (congrArg some (by kernel_rfl))
 f283:=Tryz.func278.trans (congrArg some (by kernel_rfl))
 f284:=Tryz.func279.trans (congrArg some (by kernel_rfl))
 f285:=Tryz.func280.trans (congrArg some (by kernel_rfl))
 f286:=Tryz.func281.trans (congrArg some (by kernel_rfl))
 f317:=Tryz.func288.trans (congrArg some (by kernel_rfl))
 f318:=Tryz.func290.trans (congrArg some (by kernel_rfl))
 f319:=Tryz.func291.trans (congrArg some (by kernel_rfl))
 f320:=Tryz.func292.trans (congrArg some (by kernel_rfl))
 f337:=Tryz.func296.trans (congrArg some (by kernel_rfl))
 f338:=Tryz.func297.trans (congrArg some (by kernel_rfl))
 t0:=Tryz.underlying0
 a0:=Tryz.isAgg0
 z0:=Tryz.sizeOf0
 v0:=Tryz.zeroValue0
 t2:=Tryz.underlying2
 a2:=Tryz.isAgg2
 z2:=Tryz.sizeOf2
 v2:=Tryz.zeroValue2
 t3:=Tryz.underlying3
 a3:=Tryz.isAgg3
 z3:=Tryz.sizeOf3
 v3:=Tryz.zeroValue3
 t4:=Tryz.underlying4
 a4:=Tryz.isAgg4
 z4:=Tryz.sizeOf4
 v4:=Tryz.zeroValue4
 t5:=Tryz.underlying5
 a5:=Tryz.isAgg5
 z5:=Tryz.sizeOf5
 v5:=Tryz.zeroValue5
 t9:=Tryz.underlying9
 a9:=Tryz.isAgg9
 z9:=Tryz.sizeOf9
 v9:=Tryz.zeroValue9
 t20:=Tryz.underlying20
 a20:=Tryz.isAgg20
 z20:=Tryz.sizeOf20
 v20:=Tryz.zeroValue20
 t37:=Tryz.underlying55
 a37:=Tryz.isAgg55
 z37:=Tryz.sizeOf55
 v37:=Tryz.zeroValue55
 t46:=Tryz.underlying247
 a46:=Tryz.isAgg247
 z46:=Tryz.sizeOf247
 v46:=Tryz.zeroValue247
 t51:=Tryz.underlying314
 a51:=Tryz.isAgg314
 z51:=Tryz.sizeOf314
 v51:=Tryz.zeroValue314
 t53:=Tryz.underlying309
 a53:=Tryz.isAgg309
 z53:=Tryz.sizeOf309
 v53:=Tryz.zeroValue309
 t171:=Tryz.underlying308
 a171:=Tryz.isAgg308
 z171:=Tryz.sizeOf308
 v171:=Tryz.zeroValue308
 t173:=Tryz.underlying312
 a173:=Tryz.isAgg312
 z173:=Tryz.sizeOf312
 v173:=Tryz.zeroValue312
 t212:=Tryz.underlying328
 a212:=Tryz.isAgg328
 z212:=Tryz.sizeOf328
 v212:=Tryz.zeroValue328
 t213:=Tryz.underlying329
 a213:=Tryz.isAgg329
 z213:=Tryz.sizeOf329
 t232:=Tryz.underlying341
 a232:=Tryz.isAgg341
 z232:=Tryz.sizeOf341
 v232:=Tryz.zeroValue341
 t233:=Tryz.underlying342
 a233:=Tryz.isAgg342
 z233:=Tryz.sizeOf342
 v233:=Tryz.zeroValue342
 g17:=by kernel_rfl
 g18:=by kernel_rfl
 g19:=by kernel_rfl
 i0:=by kernel_rfl
 i2:=by kernel_rfl
 i3:=by kernel_rfl
 i4:=by kernel_rfl
 i5:=by kernel_rfl
 i9:=by kernel_rfl
 i20:=by kernel_rfl
 i37:=by kernel_rfl
 i46:=by kernel_rfl
 i51:=by kernel_rfl
 i53:=by kernel_rfl
 i171:=by kernel_rfl
 i173:=by kernel_rfl
 i212:=by kernel_rfl
 i232:=by kernel_rfl
 i233:=by kernel_rfl
 m17:=by kernel_rfl
 m18:=by kernel_rfl
 m19:=by kernel_rfl }
class Tab (z:Z):Prop where
 h:∀ w,Sub z w->Lib.TabIs Tryz.prog w "internal/strconv.uint64pow10" .u64 Lib.pow10Tab
theorem Tab.le {z z':Z} (h:Tab z) (hz:Le z z'):Tab z':=⟨fun w hw=>h.h w fun b o hb=>hw b o (hz b o hb)⟩
def ac (n:Int):ByteArray:=⟨(Lib.itoa n).toArray⟩
theorem dE {n:Int} (h:InI n):(ac n).size <= 21:=by
 have:=Lib.itoa_length_le n (by have:=h.h; omega) (by have:=h.h; omega)
 show (Lib.itoa n).toArray.size <= 21
 simpa using this
theorem AC {w:World} {z:Z} {k:Nat} {os:Array Obj} (h:Own w z []):Res w z [] (Sort.grow (w.drewN k) os) z []:=
 ⟨rfl,rfl,rfl,by simp [Sort.grow,World.drewN],fun b hb _=>by simp [Sort.grow,World.drewN,Array.getElem?_append,hb],fun b o hb=>by
  have h1:=h.sub b o hb;have h2:=co h1;simp only [Sort.grow,World.drewN,Array.getElem?_append,h2,if_true]; exact h1,Le.refl _,fun b hb=>.inl hb,fun p hp=>(by cases hp),.nil⟩
instance {z0:Z} {n:Int} [ht:Tab z0] [hn:InI n]:PuZ z0 187 #[.int .i64 n] (.string (ac n)):=⟨fun z w hz ho=>
 Calls.mono (Any.strconv_Itoa zw n (by have:=hn.h; omega) (by have:=hn.h; omega) w ((ht.le hz).h w ho.sub)) (by
  rintro e w' ⟨rfl,k,os,rfl⟩
  exact ⟨z,AC ho,rfl⟩)⟩
instance {s:ByteArray} {c:UInt8} {t:ByteArray} [h:xH s c t (-1)]:Pu 186 #[.string s,.string (b1 c),.string t] (.string (fT s c t (-1))):=⟨fun z w=>Fn1.intro fun hS=>en186 (by
 unfold vc186;(repeat (refine aN ?_; intro _ _ _ _));exact ⟨_,_,‹_›,rfl⟩)⟩
class Cat (a b:ByteArray):Prop where
 h:a.size + b.size <= 9223372036854775807
instance {t:Nat} {a b:ByteArray} [h:Cat a b]:Run (bi .add t (.string a) (.string b)) (.string (a ++ b)):=⟨fun w=>by
 show (binOp .add t (.string a) (.string b)).run Tryz.prog w = _
 rw [binOp_string_add]; exact run_string_add_sum w a b h.h⟩
def aZ (s:ByteArray):ByteArray:=b1 34 ++ fT s 34 ⟨#[34,34]⟩ (-1) ++ b1 34
theorem pL {s:ByteArray} {c:UInt8} {t:ByteArray}:(fT s c t (-1)).size <= s.size + (bytes s).count c * t.size:=by
 have h:=gY (c:=c) (t:=bytes t) (bytes s) ((bytes s).count c);have e:gN s c (-1) = (bytes s).count c:=by unfold gN; rw [if_pos (by omega)]
 show (eD c (bytes t) (gN s c (-1)) (bytes s)).toArray.size <= _
 rw [e,size_toArray,aI s,aI t];exact h
theorem ku (s:ByteArray) (c:UInt8):(bytes s).count c <= s.size:=by rw [aI]; exact count_le_length
theorem dc {s:ByteArray}:(aZ s).size <= 3 * s.size + 2:=by
 have h1:=pL (s:=s) (c:=34) (t:=⟨#[34,34]⟩);have h2:=ku s 34;have h3:(⟨#[34,34]⟩:ByteArray).size = 2:=rfl;have h4:(b1 34).size = 1:=rfl;rw [h3] at h1
 show ((b1 34 ++ fT s 34 ⟨#[34,34]⟩ (-1)) ++ b1 34).size <= _
 rw [ByteArray.size_append,ByteArray.size_append,h4];omega
class ky (s:ByteArray):Prop where
 h:s.size <= 1000000
instance {s:ByteArray} [h:ky s]:Pu 127 #[.string s] (.string (aZ s)):=⟨fun z w=>Fn1.intro fun hS=>en127 (by
 have h1:=h.h;have h2:=ku s 34;have h3:(⟨#[34,34]⟩:ByteArray).size = 2:=rfl;haveI:xH s 34 ⟨#[34,34]⟩ (-1):=⟨by decide,by omega,by rw [h3]; omega⟩
 unfold vc127;refine aN (v:=.string (fT s 34 ⟨#[34,34]⟩ (-1))) (g:=(inferInstance:Pu 186 #[.string s,.string (b1 34),.string ⟨#[34,34]⟩] _)) ?_;intro z1 w1 hz1 hS1;clear hS;have h4:=pL (s:=s) (c:=34) (t:=⟨#[34,34]⟩);have h5:(b1 34).size = 1:=rfl;rw [h3] at h4;haveI:Cat (b1 34) (fT s 34 ⟨#[34,34]⟩ (-1)):=⟨by omega⟩
 haveI:Cat (b1 34 ++ fT s 34 ⟨#[34,34]⟩ (-1)) (b1 34):=⟨by rw [ByteArray.size_append]; omega⟩
 refine aA (v:=.string (b1 34 ++ fT s 34 ⟨#[34,34]⟩ (-1))) (g:=(inferInstance:Run (bi .add 9 (.string (b1 34)) _) _)) ?_;refine aA (v:=.string (aZ s)) (g:=(inferInstance:Run (bi .add 9 _ (.string (b1 34))) _)) ?_;exact ⟨_,_,hS1,rfl⟩)⟩
def bW:List ByteArray->List UInt8
 | []=>[]
 | x :: r=>bytes x ++ r.flatMap fun y=>32 :: bytes y
def bA (l:List ByteArray):Nat:=(l.map (·.size)).sum
theorem xp {l:List ByteArray} {x:ByteArray} (h:x ∈ l):x.size <= bA l:=by
 induction l with
 | nil=>cases h
 | cons a l ih=>
  simp only [bA,map_cons,sum_cons]
  rcases List.mem_cons.1 h with rfl | h
  ·omega
  ·have:=ih h; simp only [bA] at this; omega
theorem pE (l:List ByteArray) (k:Nat) (h:k < l.length):bA (l.take (k + 1)) = bA (l.take k) + l[k].size:=by
 rw [bA,bA,take_succ_eq_append_getElem h,map_append,sum_append]; simp
theorem fm (l:List ByteArray) (k:Nat):bA (l.take k) <= bA l:=by
 have h:bA l = bA (l.take k) + bA (l.drop k):=by
  conv=>lhs; rw [<- take_append_drop k l]
  rw [bA,map_append,sum_append]; rfl
 omega
theorem CC (l:List ByteArray):(l.flatMap fun y=>32 :: bytes y).length = l.length + bA l:=by
 induction l with
 | nil=>rfl
 | cons a l ih=>rw [flatMap_cons,length_append,ih,length_cons,length_cons,<- aI]; simp only [bA,map_cons,sum_cons]; omega
theorem yB (l:List ByteArray):(bW l).length <= bA l + l.length:=by
 cases l with
 | nil=>simp [bW]
 | cons x r=>rw [bW,length_append,CC,<- aI,length_cons]; simp only [bA,map_cons,sum_cons]; omega
def joinB (l:List ByteArray):ByteArray:=⟨(bW l).toArray⟩
theorem BO {z:Z} {w:World} {v:Value} {l:List ByteArray} (hv:SlR El.str z v l) (hn:l.length <= 1000) (hl:bA l <= 1000000000) :
  Fn1 185 #[v,.string (b1 32)] z w fun _ r=>r = .string (joinB l):=Fn1.intro fun hS=>en185 (by
 unfold vc185;obtain ⟨_,a,cap,rfl,hcap,hel⟩:=hv.form;refine aA ?_;refine aA ?_;refine aC (fun h=>?_) (fun h=>?_)
 ·have:l = []:=eq_nil_of_length_eq_zero (by omega)
  subst this;exact ⟨_,_,hS,rfl⟩
 refine aA ?_;refine aC (fun h1=>?_) (fun h1=>?_)
 ·obtain ⟨x,hx⟩:∃ x,l = [x]:=by
   cases l with
   | nil=>simp at h1
   | cons x r=>exact ⟨x,by rw [eq_nil_of_length_eq_zero (l:=r) (by simp only [length_cons] at h1; omega)]⟩
  subst hx;obtain ⟨b,off,cs,rfl,hr,hat⟩:=hel 0 x rfl;obtain ⟨rfl,_⟩:=hr;haveI:InR 0 (([x]:List ByteArray).length:Nat):=⟨by decide,by simp⟩
  refine aA ?_;refine bL (by simpa using hat) ?_;exact ⟨_,_,hS,by rw [joinB,bW,flatMap_nil,append_nil]⟩
 intro K hK;obtain ⟨x,r,rfl⟩:∃ x r,l = x :: r:=by
  cases l with
  | nil=>exact absurd rfl h
  | cons x r=>exact ⟨x,r,rfl⟩
 obtain ⟨b,off,cs,rfl,hr,hat⟩:=hel 0 x rfl;have hxr:bA (x :: r) = x.size + bA r:=by simp [bA]
 have hlr:(x :: r).length = r.length + 1:=rfl;have hr0:0 < r.length:=by simp only [length_cons] at h1; omega
 rw [hlr] at hn hcap;have main:K [.int .i64 r.length] w:=by
  refine hK _ _ fun _=>?_
  refine aA ?_;refine kN (fun k u v=>v = .int .i64 (k:Nat)/\k <= (x :: r).length/\u = .int .i64 (r.length + bA ((x :: r).take k):Nat)) (fun k=>(x :: r).length - k) 0 ⟨rfl,Nat.zero_le _,by simp [bA]⟩ ?_;rintro I M k u v w1 z1 m ⟨rfl,hk,rfl⟩ hz1 hS1 back
  have hk2:=fm (x :: r) k;refine aA ?_;refine aC (fun h2=>?_) (fun h2=>?_)
  ·have hk1:k < (x :: r).length:=by omega
   obtain ⟨cs1,hr1,hat1⟩:=hv.get (getElem?_eq_getElem hk1);obtain ⟨rfl,_⟩:=hr1;have hst:=pE (x :: r) k hk1;have hst2:=fm (x :: r) (k + 1);haveI:InR (k:Int) ((x :: r).length:Nat):=⟨by omega,by omega⟩
   haveI:InI ((k:Int) + 1):=⟨by omega⟩
   refine aA ?_;refine bL (hat1.mono hz1) ?_;intro K0 hK0;haveI:InI ((9223372036854775807:Int) - ((r.length + bA ((x :: r).take k):Nat):Int)):=⟨by omega⟩
   refine aA ?_;refine aA ?_;refine aA ?_;refine aC (fun h3=>?_) (fun h3=>?_)
   ·omega
   refine hK0 _ fun _=>?_
   haveI:InI (((r.length + bA ((x :: r).take k):Nat):Int) + (((x :: r)[k].size:Nat):Int)):=⟨by omega⟩
   refine aA ?_;refine aA ?_;refine aA ?_;exact back (k + 1) _ _ _ _ ⟨by simp,by omega,by rw [hst]; congr 1; omega⟩ (Le.refl _) hS1 (by omega)
  ·have hk3:k = (x :: r).length:=by omega
   subst hk3;rw [take_length];have htot:r.length + bA (x :: r) <= 2000000000:=by omega
   clear back;refine ak ?_;intro bb w2 hbb hS2;refine bO (B:=[(bb,buO none (.slice none 0 0))]) (F:=[]) (by simpa using hS2) (CJ (n:=((r.length + bA (x :: r):Nat):Int)) (.inl rfl) (by omega) (by omega)) (by simp) ?_;rintro z3 B3 w3 v3 hz3 hS3 ⟨hB3,rfl⟩
   rw [append_nil] at hS3;haveI:InR 0 ((x :: r).length:Nat):=⟨by omega,by omega⟩
   obtain ⟨rfl,_⟩:=hr;have hz03:Le z z3:=hz1.trans hz3;refine aA ?_;refine bL (by simpa using hat.mono hz03) ?_;refine bO (B:=B3) (F:=[]) (by simpa using hS3) (dz (s:=x) hB3 (by simp only [length_nil,room]; omega)) (by simp) ?_;rintro z4 B4 w4 v4 hz4 hS4 ⟨hB4,rfl⟩
   rw [append_nil] at hS4;haveI:InR 1 ((((x :: r).length:Nat):Int) + 1):=⟨by omega,by omega⟩
   have hvd:SlR El.str z (.slice (some ⟨b,if cap = Int.toNat 1 then off else off + Int.toNat 1 * 1,none⟩) ((x :: r).length - Int.toNat 1) (cap - Int.toNat 1)) r:=hv.drop (s:=1) (k:=1) rfl (by omega);refine aA ?_;have hdl:((((x :: r).length:Nat):Int) - 1).toNat = r.length:=by omega
   clear hS1 hS2 hS3 hK;generalize (if cap = Int.toNat 1 then off else off + Int.toNat 1 * 1) = off2 at hvd ⊢;generalize cap - Int.toNat 1 = cap2 at hvd ⊢;rw [show (x :: r).length - Int.toNat 1 = r.length from rfl] at hvd ⊢;have hz04:Le z z4:=hz03.trans hz4;rw [nil_append,Lib.strCells_eq] at hB4;refine aA ?_;refine cC (fun (k:Nat) u w'=>u = .int .i64 k/\k <= r.length/\∃ B' z',Le z z'/\BuOk bb B' (Lib.byteCells (bytes x ++ (r.take k).flatMap fun y=>32 :: bytes y))/\Res w z [] w' z' B') (fun k=>r.length - k) 0 ⟨rfl,Nat.zero_le _,B4,z4,hz04,by simpa using hB4,hS4⟩ ?_;rintro I M k u w5 m ⟨rfl,hk,B5,z5,hz5,hB5,hS5⟩ back
   clear hS4 hB4;have hlen:∀ j,(bytes x ++ (r.take j).flatMap fun y=>32 :: bytes y).length <= 1000002000:=fun j=>by
    have h5:=fm r j;rw [length_append,CC,<- aI,length_take];omega
   have hl5:=hlen k;refine aA ?_;refine aC (fun h6=>?_) (fun h6=>?_)
   ·have hk1:k < r.length:=by omega
    obtain ⟨cs1,hr1,hat1⟩:=hvd.get (getElem?_eq_getElem hk1);obtain ⟨rfl,_⟩:=hr1;have hst:=pE r k hk1;have hst2:=fm r (k + 1);haveI:InR (k:Int) (r.length:Nat):=⟨by omega,by omega⟩
    haveI:InI ((k:Int) + 1):=⟨by omega⟩
    have e1:(b1 32).size = 1:=rfl;refine aA ?_;refine bL (hat1.mono hz5) ?_;refine bO (B:=B5) (F:=[]) (by simpa using hS5) (dz (s:=b1 32) hB5 (by rw [Lib.byteCells_length,e1]; simp only [room]; omega)) (by simp) ?_;rintro z6 B6 w6 v6 hz6 hS6 ⟨hB6,rfl⟩
    rw [append_nil] at hS6;rw [Lib.strCells_eq,<- Lib.byteCells_append] at hB6;have hgs:r[k].size <= 1000000000:=by omega
    refine bO (B:=B6) (F:=[]) (by simpa using hS6) (dz (s:=r[k]) hB6 (by
     rw [Lib.byteCells_length,length_append];have h9:(b1 32).data.toList.length = 1:=rfl;rw [h9]; simp only [room]; omega)) (by simp) ?_
    rintro z7 B7 w7 v7 hz7 hS7 ⟨hB7,rfl⟩
    rw [append_nil] at hS7;rw [Lib.strCells_eq,<- Lib.byteCells_append] at hB7;refine aA ?_;refine back (k + 1) _ _ ⟨by simp,by omega,B7,z7,(hz5.trans hz6).trans hz7,?_,hS7⟩ (by omega);rw [take_succ_eq_append_getElem hk1,flatMap_append,<- append_assoc];simp only [flatMap_cons,flatMap_nil,append_nil];rw [show (32 :: bytes r[k]) = (b1 32).data.toList ++ bytes r[k] from rfl,<- append_assoc];exact hB7
   ·have hk3:k = r.length:=by omega
    subst hk3;rw [take_length] at hB5 hl5;refine bO (B:=B5) (F:=[]) (by simpa using hS5) (ft hB5 (by simp only [room]; omega)) (by simp) ?_;rintro z8 B8 w8 v8 hz8 hS8 ⟨rfl,rfl⟩
    exact ⟨_,_,hS8,rfl⟩
 have hq:((r.length + 1:Nat):Int) - 1 = (r.length:Nat):=by omega
 haveI:InI ((((x :: r).length:Nat):Int) - 1):=⟨by omega⟩
 haveI:InR 0 ((((x :: r).length:Nat):Int) - 1):=⟨by omega,by omega⟩
 have hdiv:(1:Int) < Int.tdiv 9223372036854775807 ((((x :: r).length:Nat):Int) - 1):=by
  rw [Int.tdiv_eq_ediv_of_nonneg (by omega)];have:=Int.ediv_mul_le 9223372036854775807 (b:=(((x :: r).length:Nat):Int) - 1) (by omega);have h2:=Int.lt_ediv_add_one_mul_self 9223372036854775807 (b:=(((x :: r).length:Nat):Int) - 1) (by omega);generalize (9223372036854775807:Int) / ((((x :: r).length:Nat):Int) - 1) = q at *;generalize (((x :: r).length:Nat):Int) - 1 = d at *
  apply Classical.byContradiction
  intro hq1;have hd:d <= 1000:=by omega
  have:(q + 1) * d <= 2 * d:=Int.mul_le_mul_of_nonneg_right (by omega) (by omega);omega
 haveI:InI (9223372036854775807:Int):=⟨by omega⟩
 refine aA ?_;refine aA ?_;refine aC (fun h2=>?_) (fun h2=>?_)
 ·intro K1 hK1
  refine aA ?_;refine aA ?_;refine aA ?_;refine aA ?_;refine aA ?_;refine aC (fun h3=>?_) (fun h3=>?_)
  ·exfalso
   have:(((b1 32).size:Nat):Int) = 1:=rfl;omega
  refine hK1 _ fun _=>?_
  have e1:(((b1 32).size:Nat):Int) = 1:=rfl;haveI:InI ((1:Int) * ((((x :: r).length:Nat):Int) - 1)):=⟨by omega⟩
  haveI:InI (0 + (1:Int) * ((((x :: r).length:Nat):Int) - 1)):=⟨by omega⟩
  refine aA ?_;refine aA ?_;refine aA ?_;refine aA ?_;refine aA ?_;rw [show (0:Int) + 1 * ((((x :: r).length:Nat):Int) - 1) = (r.length:Nat) by rw [hlr]; omega];exact main
 ·exact absurd (show (0:Int) < (((b1 32).size:Nat):Int) by decide) h2)
theorem xz {z:Z} {w:World} {v:Value} {l:List ByteArray} (hv:SlR El.str z v l) (hn:l.length <= 1000) (hl:bA l <= 1000000000) :
  Fn1 126 #[v] z w fun _ r=>r = .string (joinB l):=Fn1.intro fun hS=>en126 (by
 unfold vc126;refine ap (BO hv hn hl) ?_;rintro z1 w1 v1 hz1 hS1 rfl
 exact ⟨_,_,hS1,rfl⟩)
theorem eG (l:List ByteArray):(joinB l).size <= bA l + l.length:=by
 have:=yB l
 show (bW l).toArray.size <= _
 rw [size_toArray]; exact this
theorem nJ:∀ l:List ByteArray,(l.map fun x=>Value.string x) = l.flatMap fun x=>[Value.string x]
 | []=>rfl
 | a :: l=>by rw [map_cons,flatMap_cons,nJ l]; rfl
theorem fN {w0 w:World} {z0 z:Z} {B0 L:Bl} {K:RP} [hS:Res w0 z0 B0 w z L] {k n:Nat} {parts:List (Nat × Value)} {out:List Value} [gf:ru 1 0 parts out n] (l:List ByteArray) (ho:out = l.map fun x=>Value.string x) (hn:k = n) (hsz:n <= 1000) (hl:bA l <= 1000000000)
  (hk:∀ z' w',Le z z'->Res w0 z0 B0 w' z' L->K (.string (joinB l)) w'):V (bs 22 k parts.toArray) w fun t w=>CV (.func (.func 126) #[] #[]) #[t] w K:=by
 refine je hn (by omega) ?_;intro b w1 hb hS1;have hfl:out = l.flatMap fun x=>[Value.string x]:=by rw [ho]; exact nJ l
 have hlen:out.length = n:=by obtain ⟨h1,h2,_⟩:=gf.h; omega
 have hll:l.length = n:=by rw [<- hlen,ho,length_map]
 obtain ⟨z2,hz2,hS2,hv⟩:=Res.freezeSl (E:=El.str) (e:=9) (B:=[(b,_)]) (L:=L) (v:=.slice (some ⟨b,0,none⟩) l.length n) (xs:=l) (f:=fun x=>[Value.string x]) hS1 ⟨by rw [<- hfl,hlen,hll]; exact (Nat.mul_one _).symm,.inr ⟨b,n,[],by rw [<- hfl,append_nil],rfl,by omega,by simp only [maxLen]; omega,by rw [<- hfl,append_nil,hlen]; exact (Nat.mul_one _).symm⟩⟩ (by simp only [big]; omega) (fun _=>rfl) (fun z x hx=>⟨rfl,by have:=xp hx; simp only [big]; omega⟩);rw [hll] at hv;refine ap (xz hv (by omega) hl) ?_;rintro z3 w3 v3 hz3 hS3 rfl
 exact hk _ _ (hz2.trans hz3) hS3
end
section
def cY (s:ByteArray) (p:PartM):ByteArray:=joinB [s,ac p.kind,aZ p.text,ac p.n]
def ep (l:List PartM):ByteArray:=l.foldl cY ⟨#[116,109,112,108]⟩
theorem eH {α:Type} {f:ByteArray->α->ByteArray} {n:Nat}:∀ (l:List α) (s:ByteArray),(∀ s x,x ∈ l->(f s x).size <= s.size + n)->(l.foldl f s).size <= s.size + l.length * n
 | [],s,h=>by simp
 | x :: l,s,h=>by
  have h1:=eH l (f s x) fun s y hy=>h s y (mem_cons_of_mem _ hy)
  have h2:=h s x mem_cons_self;rw [foldl_cons,length_cons,Nat.add_mul,Nat.one_mul];omega
theorem iI {s:ByteArray} {p:PartM} (h1:InI p.kind) (h2:InI p.n) (h3:p.text.size <= 1000000):bA [s,ac p.kind,aZ p.text,ac p.n] <= s.size + 3000050/\(cY s p).size <= s.size + 3000060:=by
 have a:=dE h1;have b:=dE h2;have c:=dc (s:=p.text);have d:bA [s,ac p.kind,aZ p.text,ac p.n] <= s.size + 3000050:=by simp only [bA,map_cons,map_nil,sum_cons,sum_nil]; omega
 have e:=eG [s,ac p.kind,aZ p.text,ac p.n];simp only [length_cons,length_nil] at e;exact ⟨d,by rw [cY]; omega⟩
theorem gW {α:Type} {f:ByteArray->α->ByteArray} {s:ByteArray} {l:List α} {k:Nat} (h:k < l.length):(l.take (k + 1)).foldl f s = f ((l.take k).foldl f s) l[k]:=by
 rw [take_succ_eq_append_getElem h,foldl_append]; rfl
theorem tU {z:Z} {w:World} {v:Value} {l:List PartM} [ht:Tab z] (hv:SlR El.part z v l) (hl:l.length <= 100) (hp:∀ p ∈ l,gO p = true) :
  Fn1 128 #[v] z w fun _ r=>r = .string (ep l):=Fn1.intro fun hS=>en128 (by
 unfold vc128;obtain ⟨_,a,cap,rfl,hcap,hel⟩:=hv.form;refine aA ?_;refine kN (fun k s i=>i = .int .i64 (k:Nat)/\k <= l.length/\s = .string ((l.take k).foldl cY ⟨#[116,109,112,108]⟩)) (fun k=>l.length - k) 0 ⟨rfl,Nat.zero_le _,rfl⟩ ?_;rintro I M k u v w1 z1 m ⟨rfl,hk,rfl⟩ hz1 hS1 back
 clear hS;refine aA ?_;refine aC (fun h=>?_) (fun h=>?_)
 ·have hlt:k < l.length:=by omega
  have hi:=getElem?_eq_getElem hlt;have hpk:=dB (hp _ (getElem_mem hlt));have hlen:=eH (f:=cY) (n:=3000060) (l.take k) ⟨#[116,109,112,108]⟩ fun s x hx=>(iI ⟨by have:=dB (hp _ (mem_of_mem_take hx)); omega⟩ ⟨by have:=dB (hp _ (mem_of_mem_take hx)); omega⟩ (by have:=dB (hp _ (mem_of_mem_take hx)); omega)).2
  rw [length_take,Nat.min_eq_left hk,show (⟨#[116,109,112,108]⟩:ByteArray).size = 4 from rfl] at hlen;generalize hs:(l.take k).foldl cY ⟨#[116,109,112,108]⟩ = s at back hlen ⊢;haveI i1:InI l[k].kind:=⟨by omega⟩
  haveI i2:InI l[k].n:=⟨by omega⟩
  haveI i3:ky l[k].text:=⟨by omega⟩
  have hts:=iI (s:=s) i1 i2 i3.h;haveI:InR (k:Int) (l.length:Nat):=⟨by omega,by omega⟩
  haveI:InI ((k:Int) + 1):=⟨by omega⟩
  obtain ⟨b,off,cs,rfl,⟨rfl,_⟩,hat⟩:=hel _ _ hi;haveI:Fz z b (off + (k:Int).toNat * 3) l[k].cells:=⟨hat⟩
  (repeat (first | (refine iDr ?_; intro _ _) | refine aA ?_ | refine aK ?_ | (refine aP ?_; intro _ _ _ _) | (refine aF ?_; intro _ _) | refine aW ?_ | refine bN ?_ | (refine aN ?_; intro _ _ _ _) | (refine cE ?_; intro _ _ _ _) | refine bV ?_));refine fN (out:=[_,_,_,_]) [s,ac l[k].kind,aZ l[k].text,ac l[k].n] rfl rfl (by omega) (by omega) ?_;intro z2 w2 hz2 hS2;refine aA ?_;exact back (k + 1) _ _ _ _ ⟨by simp,by omega,by rw [gW hlt,hs]; rfl⟩ (by (repeat (first | assumption | refine Le.trans ?_ (by assumption:Le _ _)))) hS2.drop (by omega)
 ·have hk2:k = l.length:=by omega
  subst hk2;rw [take_length];exact ⟨_,_,hS1,rfl⟩)
def cL (s:ByteArray) (x:ItemM):ByteArray:=joinB [s,if x.via = true then b1 40 ++ x.name ++ b1 41 else x.name]
def fI (l:List ItemM):ByteArray:=l.foldl cL ⟨#[108,105,115,116]⟩
theorem iR {s:ByteArray} {x:ItemM} (h:x.name.size <= 40):bA [s,if x.via = true then b1 40 ++ x.name ++ b1 41 else x.name] <= s.size + 42/\(cL s x).size <= s.size + 50:=by
 have d:bA [s,if x.via = true then b1 40 ++ x.name ++ b1 41 else x.name] <= s.size + 42:=by
  simp only [bA,map_cons,map_nil,sum_cons,sum_nil]
  split
  ·rw [ByteArray.size_append,ByteArray.size_append,show (b1 40).size = 1 from rfl,show (b1 41).size = 1 from rfl]; omega
  ·omega
 have e:=eG [s,if x.via = true then b1 40 ++ x.name ++ b1 41 else x.name];simp only [length_cons,length_nil] at e;exact ⟨d,by rw [cL]; omega⟩
theorem uD {z:Z} {w:World} {v:Value} {l:List ItemM} (hv:SlR El.item z v l) (hl:l.length <= 10000) (hp:∀ x ∈ l,x.name.size <= 40) :
  Fn1 129 #[v] z w fun _ r=>r = .string (fI l):=Fn1.intro fun hS=>en129 (by
 unfold vc129;obtain ⟨_,a,cap,rfl,hcap,hel⟩:=hv.form;refine aA ?_;refine kN (fun k s i=>i = .int .i64 (k:Nat)/\k <= l.length/\s = .string ((l.take k).foldl cL ⟨#[108,105,115,116]⟩)) (fun k=>l.length - k) 0 ⟨rfl,Nat.zero_le _,rfl⟩ ?_;rintro I M k u v w1 z1 m ⟨rfl,hk,rfl⟩ hz1 hS1 back
 clear hS;refine aA ?_;refine aC (fun h=>?_) (fun h=>?_)
 ·have hlt:k < l.length:=by omega
  have hi:=getElem?_eq_getElem hlt;have hpk:=hp _ (getElem_mem hlt);have hlen:=eH (f:=cL) (n:=50) (l.take k) ⟨#[108,105,115,116]⟩ fun s x hx=>(iR (hp _ (mem_of_mem_take hx))).2
  rw [length_take,Nat.min_eq_left hk,show (⟨#[108,105,115,116]⟩:ByteArray).size = 4 from rfl] at hlen;have htf:=gW (f:=cL) (s:=⟨#[108,105,115,116]⟩) hlt;generalize hs:(l.take k).foldl cL ⟨#[108,105,115,116]⟩ = s at back hlen htf ⊢;have hts:=(iR (s:=s) hpk).1;haveI:InR (k:Int) (l.length:Nat):=⟨by omega,by omega⟩
  haveI:InI ((k:Int) + 1):=⟨by omega⟩
  obtain ⟨b,off,cs,rfl,⟨rfl,_⟩,hat⟩:=hel _ _ hi;generalize hxx:l[k] = x at hpk hts hat htf;obtain ⟨nm,via⟩:=x;simp only at hpk hts;haveI:Fz z b (off + (k:Int).toNat * 2) (ItemM.cells ⟨nm,via⟩):=⟨hat⟩
  haveI:Cat (b1 40) nm:=⟨by rw [show (b1 40).size = 1 from rfl]; omega⟩
  haveI:Cat (b1 40 ++ nm) (b1 41):=⟨by rw [ByteArray.size_append,show (b1 40).size = 1 from rfl,show (b1 41).size = 1 from rfl]; omega⟩
  intro K hK;have main:∀ w' z' L',Le z1 z'->Res w z [] w' z' L'->K [.string (cL s ⟨nm,via⟩)] w':=by
   intro w' z' L' hz' hS';refine hK _ _ fun _=>?_
   refine aA ?_;exact back (k + 1) _ _ _ _ ⟨by simp,by omega,by rw [htf]⟩ hz' hS'.drop (by omega)
  clear hK back;(repeat (first | refine aA ?_ | refine aE ?_ | (refine aP ?_; intro _ _ _ _) | (refine aF ?_; intro _ _) | refine bV ?_))
  cases via
  ·(repeat (first | refine aA ?_ | refine aE ?_ | refine aj ?_))
   refine fN (out:=[_,_]) [s,nm] rfl rfl (by omega) (Nat.le_trans (by simpa using hts) (by omega:s.size + 42 <= 1000000000)) ?_;intro z2 w2 hz2 hS2;exact main _ _ _ (by (repeat (assumption))) hS2
  ·(repeat (first | refine aA ?_ | refine aE ?_ | refine ah ?_))
   refine fN (out:=[_,_]) [s,b1 40 ++ nm ++ b1 41] rfl rfl (by omega) (Nat.le_trans (by simpa using hts) (by omega:s.size + 42 <= 1000000000)) ?_;intro z2 w2 hz2 hS2;exact main _ _ _ (by (repeat (assumption))) hS2
 ·have hk2:k = l.length:=by omega
  subst hk2;rw [take_length];exact ⟨_,_,hS1,rfl⟩)
def dd (s:SpotM):ByteArray:=joinB [⟨#[108,97,98,101,108]⟩,ac s.at_,aZ s.name]
theorem oE {s:SpotM} (h1:InI s.at_) (h2:s.name.size <= 1000000):bA [⟨#[108,97,98,101,108]⟩,ac s.at_,aZ s.name] <= 3000050/\(dd s).size <= 3000060:=by
 have a:=dE h1;have c:=dc (s:=s.name);have d:bA [⟨#[108,97,98,101,108]⟩,ac s.at_,aZ s.name] <= 3000050:=by
  simp only [bA,map_cons,map_nil,sum_cons,sum_nil,show (⟨#[108,97,98,101,108]⟩:ByteArray).size = 5 from rfl]; omega
 have e:=eG [⟨#[108,97,98,101,108]⟩,ac s.at_,aZ s.name];simp only [length_cons,length_nil] at e;exact ⟨d,by rw [dd]; omega⟩
theorem mP {z:Z} {w:World} {s:SpotM} [ht:Tab z] (h1:InI s.at_) (h2:s.name.size <= 1000000) :
  Fn1 130 #[s.v] z w fun _ r=>r = .string (dd s):=Fn1.intro fun hS=>en130 (by
 unfold vc130;haveI:ky s.name:=⟨h2⟩
 (repeat (first | (refine iDr ?_; intro _ _) | refine aK ?_ | (refine aP ?_; intro _ _ _ _) | refine aW ?_ | refine bN ?_ | (refine aN ?_; intro _ _ _ _) | (refine cE ?_; intro _ _ _ _)));refine fN (out:=[_,_,_]) [⟨#[108,97,98,101,108]⟩,ac s.at_,aZ s.name] rfl rfl (by omega) (by have:=(oE h1 h2).1; omega) ?_;intro z2 w2 hz2 hS2;exact ⟨_,_,hS2,rfl⟩)
def dZ (l:List Int):Nat->Nat
 | 0=>0
 | k + 1=>if l.getD k 0 = 0 then dZ l k else k + 1
def cR (s:ByteArray) (n:Int):ByteArray:=joinB [s,ac n]
def dh (i:InsM):List Int:=[i.a,i.b,i.c].take (dZ [i.a,i.b,i.c] 3)
def fR (i:InsM):ByteArray:=(dh i).foldl cR (aG i.op).name
theorem pA {l:List Int} {k:Nat} (h0:0 < k) (h:l.getD (k - 1) 0 = 0):dZ l (k - 1) = dZ l k:=by
 obtain ⟨j,rfl⟩:∃ j,k = j + 1:=⟨k - 1,by omega⟩
 rw [show j + 1 - 1 = j by omega] at h ⊢
 conv=>rhs; unfold dZ
 rw [if_pos h]
theorem nj {l:List Int} {k:Nat} (h:¬ (0 < k/\l.getD (k - 1) 0 = 0)):dZ l k = k:=by
 cases k with
 | zero=>rfl
 | succ j=>unfold dZ; rw [if_neg fun e=>h ⟨by omega,by simpa using e⟩]
theorem fj {s:ByteArray} {n:Int} (h1:InI n):bA [s,ac n] <= s.size + 21/\(cR s n).size <= s.size + 30:=by
 have a:=dE h1;have d:bA [s,ac n] <= s.size + 21:=by
  simp only [bA,map_cons,map_nil,sum_cons,sum_nil]; omega
 have e:=eG [s,ac n];simp only [length_cons,length_nil] at e;exact ⟨d,by rw [cR]; omega⟩
theorem nR (n:Int):(aG n).name.size <= 20:=by
 unfold aG
 split
 ·have h:∀ k:Fin 47,(formL.getD k.val noForm).name.size <= 20:=by decide +kernel
  have hk:n.toNat < 47:=by
   have:=‹cO n = true›
   unfold cO at this;simp at this;omega
  exact h ⟨n.toNat,hk⟩
 ·decide +kernel
theorem pp {z:Z} {w:World} {i:InsM} [ht:Tab z] (h1:InI i.a) (h2:InI i.b) (h3:InI i.c) :
  Fn1 131 #[i.v] z w fun _ r=>r = .string (fR i):=Fn1.intro fun hS=>en131 (by
 unfold vc131;have hnm:=nR i.op;(repeat (first | refine aA ?_ | refine aE ?_ | refine ae ?_ | (refine aP ?_; intro _ _ _ _) | (refine aF ?_; intro _ _) | (refine aN ?_; intro _ _ _ _)));refine kL [i.a,i.b,i.c] rfl rfl (by omega) ?_;intro z2 w2 v2 hz2 hS2 hv2;obtain ⟨_,a,cap,rfl,hcap,_⟩:=hv2.form;have hi:∀ n ∈ [i.a,i.b,i.c],InI n:=by simp [h1,h2,h3]
 generalize hl:[i.a,i.b,i.c] = l at hv2 hcap hi ⊢;have hl3:l.length = 3:=by rw [<- hl]; rfl
 have hT:fR i = (l.take (dZ l 3)).foldl cR (aG i.op).name:=by rw [fR,dh,hl]
 rename_i b1 w1 hb1 hS1 z3 w3 hz3 hS3 b5 w5 hb5 hS5 w6 hS6 _ hel0;refine bG (fun k v=>v = .slice a k cap/\k <= 3/\dZ l k = dZ l 3) (fun k=>k) 3 ⟨by rw [hl3],Nat.le_refl _,rfl⟩ ?_;rintro I M k v w7 z7 m ⟨rfl,hk,hst⟩ hz7 hS7 back
 clear hS hS2 hS6 hS5 hS3 hS1;have hel:∀ i x,l[i]? = some x->∃ b off,a = some ⟨b,off,none⟩/\At z7 b (off + i * 1) [.int .i64 x]:=fun i x hx=>by
  obtain ⟨b,off,cs,ha,hr,hat⟩:=hel0 i x (by rw [hl]; exact hx)
  cases hr
  exact ⟨b,off,ha,hat.mono hz7⟩
 refine aA ?_;refine aA ?_;intro K hK;have main:∀ q:Bool,(q = true ↔ 0 < k/\l.getD (k - 1) 0 = 0)->K [.bool q] w7:=by
  intro q hq;refine hK _ _ fun _=>?_
  clear hK
  cases q with
  | true=>
   obtain ⟨hk0,hk1⟩:=hq.1 rfl;haveI:InI ((k:Int) - 1):=⟨by omega⟩
   haveI:InR ((k:Int) - 1) ((cap:Nat) + 1):=⟨by omega,by omega⟩
   refine ah ?_;refine aA ?_;refine aA ?_;refine aA ?_;exact back (k - 1) _ _ _ ⟨by rw [show ((k:Int) - 1).toNat = k - 1 by omega],by omega,by rw [pA hk0 hk1,hst]⟩ (Le.refl _) hS7 (by omega)
  | false=>
   have hs:=nj (l:=l) (k:=k) fun e=>by have:=hq.2 e; cases this
   refine aj ?_;clear back;(repeat (first | refine aA ?_ | refine aE ?_));refine kN (fun j s x=>x = .int .i64 (j:Nat)/\j <= k/\s = .string ((l.take j).foldl cR (aG i.op).name)) (fun j=>k - j) 0 ⟨rfl,Nat.zero_le _,rfl⟩ ?_;rintro I M j u v w8 z8 m ⟨rfl,hj,rfl⟩ hz8 hS8 back
   clear hS7;refine aA ?_;refine aC (fun h=>?_) (fun h=>?_)
   ·have hjl:j < l.length:=by omega
    have hji:=getElem?_eq_getElem hjl;obtain ⟨b,off,rfl,hat⟩:=hel _ _ hji;haveI i9:InI l[j]:=hi _ (getElem_mem hjl);haveI:InR (j:Int) (k:Nat):=⟨by omega,by omega⟩
    haveI:InI ((j:Int) + 1):=⟨by omega⟩
    have htf:=gW (f:=cR) (s:=(aG i.op).name) hjl;have hlen:=eH (f:=cR) (n:=30) (l.take j) (aG i.op).name fun s x hx=>(fj (hi _ (mem_of_mem_take hx))).2
    rw [length_take,Nat.min_eq_left (by omega)] at hlen;generalize hs:(l.take j).foldl cR (aG i.op).name = s at back hlen htf ⊢;have hts:=(fj (s:=s) i9).1;refine aA ?_;refine bL (hat.mono hz8) ?_;refine cE ?_;intro z9' w9' hz9' hS9';refine fN (n:=2) (out:=[_,_]) [s,ac l[j]] rfl rfl (by omega) (Nat.le_trans hts (by omega)) ?_;intro z9 w9 hz9 hS9;refine aA ?_;exact back (j + 1) _ _ _ _ ⟨by simp,by omega,by rw [htf]; rfl⟩ (by (repeat (first | assumption | refine Le.trans ?_ (by assumption:Le _ _)))) hS9 (by omega)
   ·have hjk:j = k:=by omega
    subst hjk;exact ⟨_,_,hS8,by rw [hT,<- hst,hs]⟩
 clear hK back;refine aC (fun h=>?_) (fun h=>?_)
 ·have hk0:0 < k:=by omega
  have hjl:k - 1 < l.length:=by omega
  have hji:=getElem?_eq_getElem hjl;obtain ⟨b,off,rfl,hat⟩:=hel _ _ hji;haveI:InI ((k:Int) - 1):=⟨by omega⟩
  haveI:InR ((k:Int) - 1) (k:Nat):=⟨by omega,by omega⟩
  refine aA ?_;refine aA ?_;refine aA ?_;refine bL (by rw [show ((k:Int) - 1).toNat = k - 1 by omega]; exact hat) ?_;refine aA ?_;refine main _ ?_;rw [decide_eq_true_iff,getD_eq_getElem?_getD,hji];simp [hk0]
 ·exact main false (by simp; omega))
end
section
def bI (s:ByteArray):List UInt8:=bytes s ++ [10]
def eW (s:ByteArray):ByteArray:=joinB [⟨#[116,101,120,116]⟩,aZ s]
def km (s:ByteArray):ByteArray:=joinB [⟨#[110,97,109,101]⟩,s]
def ie (c:aH):List UInt8:=
 c.consts.flatMap (fun s=>bI (eW s)) ++ (c.tmpls.flatMap (fun l=>bI (ep l)) ++ (c.lists.flatMap (fun l=>bI (fI l)) ++ (c.labels.flatMap (fun s=>bI (dd s)) ++ (c.slots.flatMap (fun s=>bI (km s)) ++ (c.ins.flatMap (fun i=>bI (fR i)) ++ [])))))
theorem fZ (s:ByteArray):(bI s).length = s.size + 1:=by rw [bI,length_append,<- aI]; rfl
theorem jN {α:Type} {f:α->List UInt8} {n:Nat}:∀ (l:List α),(∀ x ∈ l,(f x).length <= n)->(l.flatMap f).length <= l.length * n
 | [],_=>by simp
 | x :: l,h=>by
  have h1:=jN l fun y hy=>h y (mem_cons_of_mem _ hy)
  have h2:=h x mem_cons_self;rw [flatMap_cons,length_append,length_cons,Nat.add_mul,Nat.one_mul];omega
theorem kG {s:ByteArray} (h:s.size <= 1000000):bA [⟨#[116,101,120,116]⟩,aZ s] <= 3000010/\(eW s).size <= 3000020:=by
 have c:=dc (s:=s);have d:bA [⟨#[116,101,120,116]⟩,aZ s] <= 3000010:=by
  simp only [bA,map_cons,map_nil,sum_cons,sum_nil,show (⟨#[116,101,120,116]⟩:ByteArray).size = 4 from rfl]; omega
 have e:=eG [⟨#[116,101,120,116]⟩,aZ s];simp only [length_cons,length_nil] at e;exact ⟨d,by rw [eW]; omega⟩
theorem pT {s:ByteArray} (h:s.size <= 1000000):bA [⟨#[110,97,109,101]⟩,s] <= 3000010/\(km s).size <= 3000020:=by
 have d:bA [⟨#[110,97,109,101]⟩,s] <= 3000010:=by
  simp only [bA,map_cons,map_nil,sum_cons,sum_nil,show (⟨#[110,97,109,101]⟩:ByteArray).size = 4 from rfl]; omega
 have e:=eG [⟨#[110,97,109,101]⟩,s];simp only [length_cons,length_nil] at e;exact ⟨d,by rw [km]; omega⟩
theorem vE {l:List PartM} (hl:l.length <= 100) (hp:∀ p ∈ l,gO p = true):(ep l).size <= 300006010:=by
 have:=eH (f:=cY) (n:=3000060) l ⟨#[116,109,112,108]⟩ fun s x hx=>(iI ⟨by have:=dB (hp _ hx); omega⟩ ⟨by have:=dB (hp _ hx); omega⟩ (by have:=dB (hp _ hx); omega)).2
 rw [show (⟨#[116,109,112,108]⟩:ByteArray).size = 4 from rfl] at this;have h2:l.length * 3000060 <= 100 * 3000060:=Nat.mul_le_mul_right _ hl;rw [ep]; omega
theorem vm {l:List ItemM} (hl:l.length <= 10000) (hp:∀ x ∈ l,x.name.size <= 40):(fI l).size <= 500010:=by
 have:=eH (f:=cL) (n:=50) l ⟨#[108,105,115,116]⟩ fun s x hx=>(iR (hp _ hx)).2
 rw [show (⟨#[108,105,115,116]⟩:ByteArray).size = 4 from rfl] at this;rw [fI]; omega
theorem rY {i:InsM} (h1:InI i.a) (h2:InI i.b) (h3:InI i.c):(fR i).size <= 110:=by
 have hi:∀ n ∈ dh i,InI n:=fun n hn=>by
  have:=mem_of_mem_take hn;simp only [mem_cons,not_mem_nil,or_false] at this
  rcases this with rfl | rfl | rfl <;> assumption
 have:=eH (f:=cR) (n:=30) (dh i) (aG i.op).name fun s x hx=>(fj (hi _ hx)).2
 have h4:=nR i.op;have h5:(dh i).length <= 3:=by rw [dh,length_take]; simp only [length_cons,length_nil]; omega
 rw [fR]; omega
theorem qu {c:aH} (h:tK c):(ie c).length <= eL:=by
 obtain ⟨n1,n2,n3,n4,n5,n6⟩:=h.num;have l1:=jN (f:=fun s=>bI (eW s)) (n:=3000021) c.consts fun s hs=>by rw [fZ]; have:=(kG (s:=s) (by have:=h.consts s hs; omega)).2; omega
 have l2:=jN (f:=fun s=>bI (ep s)) (n:=300006011) c.tmpls fun s hs=>by rw [fZ]; have:=vE (h.tmpls s hs).1 (h.tmpls s hs).2; omega
 have l3:=jN (f:=fun s=>bI (fI s)) (n:=500011) c.lists fun s hs=>by rw [fZ]; have:=vm (h.lists s hs).1 (h.lists s hs).2; omega
 have l4:=jN (f:=fun s=>bI (dd s)) (n:=3000061) c.labels fun s hs=>by rw [fZ]; have h9:=h.labels s hs; have:=(oE (s:=s) ⟨by omega⟩ (by omega)).2; omega
 have l5:=jN (f:=fun s=>bI (km s)) (n:=3000021) c.slots fun s hs=>by rw [fZ]; have:=(pT (s:=s) (by have:=h.slots s hs; omega)).2; omega
 have l6:=jN (f:=fun s=>bI (fR s)) (n:=111) c.ins fun s hs=>by rw [fZ]; have h9:=h.ins s hs; have:=rY (i:=s) ⟨by omega⟩ ⟨by omega⟩ ⟨by omega⟩; omega
 simp only [ie,length_append,length_nil,eL];have m1:c.consts.length * 3000021 <= 3000 * 3000021:=Nat.mul_le_mul_right _ n1;have m2:c.tmpls.length * 300006011 <= 3000 * 300006011:=Nat.mul_le_mul_right _ n2;have m3:c.lists.length * 500011 <= 3000 * 500011:=Nat.mul_le_mul_right _ n3;have m4:c.labels.length * 3000061 <= 3000 * 3000061:=Nat.mul_le_mul_right _ n4;have m5:c.slots.length * 3000021 <= 100 * 3000021:=Nat.mul_le_mul_right _ n5;have m6:c.ins.length * 111 <= 12000 * 111:=Nat.mul_le_mul_right _ n6;omega
section
variable {w0 w:World} {z0 z:Z} {B0 B:Bl} {bb:Nat} {ys:List UInt8}
theorem BG {s:ByteArray} (hB:BuOk bb B (Lib.byteCells ys)) (hl:(ys ++ bI s).length <= eL) :
  Va (.func (.func 124) #[] #[.pointer (some ⟨bb,0,none⟩)]) #[.string s] z B w fun _ B' _=>BuOk bb B' (Lib.byteCells (ys ++ bI s)):=
 Fn.va (args':=#[.string s,.pointer (some ⟨bb,0,none⟩)]) (Fn.intro fun hS=>en124 (by
  unfold vc124;rw [length_append,fZ] at hl;simp only [eL] at hl;have e1:(b1 10).size = 1:=rfl;haveI:Cat s (b1 10):=⟨by rw [e1]; omega⟩
  refine aA (v:=.string (s ++ b1 10)) (g:=(inferInstance:Run (bi .add 9 _ (.string (b1 10))) _)) ?_;refine bO (B:=B) (F:=[]) (by simpa using hS) (dz (s:=s ++ b1 10) hB (by rw [Lib.byteCells_length,ByteArray.size_append,e1]; simp only [room]; omega)) (by simp) ?_;rintro z7 B7 w7 v7 hz7 hS7 ⟨hB7,rfl⟩
  rw [append_nil] at hS7;rw [Lib.strCells_eq,<- Lib.byteCells_append,show (s ++ b1 10).data.toList = bI s by rw [ByteArray.data_append,Array.toList_append]; rfl] at hB7;exact ⟨_,_,hS7,hB7⟩)) (by simp)
theorem kf {K:RP} {s:ByteArray} {total more:List UInt8} (hS:Res w0 z0 B0 w z B) (hB:BuOk bb B (Lib.byteCells ys)) (ht:total = ys ++ (bI s ++ more)) (hl:total.length <= eL)
  (hk:∀ z' B' w' v,Le z z'->Res w0 z0 B0 w' z' B'->BuOk bb B' (Lib.byteCells (ys ++ bI s))->K v w'):CV (.func (.func 124) #[] #[.pointer (some ⟨bb,0,none⟩)]) #[.string s] w K:=by
 refine oQ (B:=B) (F:=[]) (by simpa using hS) (BG hB (by rw [ht,<- append_assoc,length_append] at hl; omega)) ?_;rintro z7 B7 w7 v7 hz7 hS7 hB7
 rw [append_nil] at hS7;exact hk _ _ _ _ hz7 hS7 hB7
theorem na {α:Type} {xs:List α} {g:α->ByteArray} {total more:List UInt8} {body:(LP)->(LN)->Value->World->Nat->Prop} (hS:Res w0 z0 B0 w z B) (hB:BuOk bb B (Lib.byteCells ys)) (ht:total = ys ++ (xs.flatMap (fun y=>bI (g y)) ++ more))
  (hs:∀ I M k w' z' B' us m,k <= xs.length->Le z z'->Res w0 z0 B0 w' z' B'->BuOk bb B' (Lib.byteCells us)->total = us ++ ((xs.drop k).flatMap (fun y=>bI (g y)) ++ more) ->
   (∀ (hk:k < xs.length) w'' z'' B'',Le z' z''->Res w0 z0 B0 w'' z'' B''->BuOk bb B'' (Lib.byteCells (us ++ bI (g xs[k])))->I [.int .i64 ((k:Int) + 1)] w''/\M [.int .i64 ((k:Int) + 1)] w'' < m)->body I M (.int .i64 k) w' m) :
  ∃ (I:LP) (M:LN),I [.int .i64 0] w/\∀ _:Env,∀ x,∀ w,I [x] w->∀ m,m = M [x] w->body I M x w m:=
 cC (fun (p:Nat × List UInt8) x w'=>x = .int .i64 p.1/\p.1 <= xs.length/\total = p.2 ++ ((xs.drop p.1).flatMap (fun y=>bI (g y)) ++ more)/\∃ B' z',Le z z'/\BuOk bb B' (Lib.byteCells p.2)/\Res w0 z0 B0 w' z' B') (fun p=>xs.length - p.1) (0,ys) ⟨rfl,Nat.zero_le _,ht,B,z,Le.refl _,hB,hS⟩ (by
  rintro I M ⟨k,us⟩ x w' m ⟨rfl,hk,hus,B',z',hz',hB',hS'⟩ back
  refine hs I M k w' z' B' us m hk hz' hS' hB' hus fun hlt w'' z'' B'' hz'' hS'' hB''=>?_
  refine back (k + 1,us ++ bI (g xs[k])) _ _ ⟨by simp,by simp only; omega,?_,B'',z'',hz'.trans hz'',hB'',hS''⟩ (by simp only; omega);simp only at hus ⊢;rw [drop_eq_getElem_cons hlt,flatMap_cons] at hus;rw [hus];simp only [append_assoc])
end
theorem cy {α:Type} {xs:List α} {f:α->List UInt8} {total us more:List UInt8} {k:Nat} (h:total = us ++ ((xs.drop k).flatMap f ++ more)) (hk:¬ (k:Int) < (xs.length:Nat)):total = us ++ more:=by
 rw [drop_of_length_le (by omega)] at h
 simpa using h
theorem cw {α:Type} {xs:List α} {f:α->List UInt8} {total us more:List UInt8} {k:Nat} (h:total = us ++ ((xs.drop k).flatMap f ++ more)) (hk:k < xs.length):total = us ++ (f xs[k] ++ ((xs.drop (k + 1)).flatMap f ++ more)):=by
 rw [drop_eq_getElem_cons hk,flatMap_cons,append_assoc] at h;exact h
def lj (c:aH):Int:=(ag c).1
def iA (c:aH):ByteArray:=if (ag c).1 = 0 then ⟨(ie c).toArray⟩ else ⟨#[]⟩
theorem wk {z:Z} {w:World} {v:Value} {c:aH} [ht:Tab z] (hc:CodeR z v c):Fn1 40 #[v] z w fun _ r=>r = .tuple #[.string (iA c),.int .i64 (lj c)]:=fnA en40 (by
 intro hS R hR;unfold vc40;obtain ⟨a1,a2,a3,a4,a5,a6,k1,k2,k3,k4,k5,k6,rfl,h1,h2,h3,h4,h5,h6⟩:=hc.form;refine aP ?_;intro bc w1 hbc hS1;obtain ⟨zc,hzc,hS2,hatc⟩:=hS1.frz bc;have hR2:∀ z' w' L',Res w1 zc [] w' z' L'->R (.tuple #[.string (iA c),.int .i64 (lj c)]) w':=fun z' w' L' k=>hR _ _ _ (hS2.comp k)
 have hS3:=hS2.self;clear hS hS1 hS2 hR;haveI:Tab zc:=ht.le hzc;haveI:fQ zc (.agg (dq a1 a2 a3 a4 a5 a6 k1 k2 k3 k4 k5 k6 c).toArray) c:=⟨hc.mono hzc⟩
 refine kz (n:=6) hatc rfl ?_;haveI:Fz zc bc 0 [.slice a1 c.consts.length k1]:=⟨hatc.fld (i:=0) rfl rfl⟩
 haveI:Fz zc bc 1 [.slice a2 c.tmpls.length k2]:=⟨hatc.fld (i:=1) rfl rfl⟩
 haveI:Fz zc bc 2 [.slice a3 c.lists.length k3]:=⟨hatc.fld (i:=2) rfl rfl⟩
 haveI:Fz zc bc 3 [.slice a4 c.labels.length k4]:=⟨hatc.fld (i:=3) rfl rfl⟩
 haveI:Fz zc bc 4 [.slice a5 c.slots.length k5]:=⟨hatc.fld (i:=4) rfl rfl⟩
 haveI:Fz zc bc 5 [.slice a6 c.ins.length k6]:=⟨hatc.fld (i:=5) rfl rfl⟩
 (repeat (first | refine aA ?_ | (refine cE ?_; intro _ _ _ _)));rename_i z5 w5 hz5 hS5;clear hS3;refine eO (fun e1=>?_) (fun e1=>?_)
 ·have:=hR2 _ _ _ hS5
  rw [iA,if_neg e1] at this;exact this
 obtain ⟨e0,hli,hpa,hri,_,_⟩:=gG e1;have hsm:=pD hli hpa hri;have hlen:=qu hsm;obtain ⟨n1,n2,n3,n4,n5,n6⟩:=hsm.num;have eB:(.tuple #[.string (iA c),.int .i64 (lj c)]:Value) = .tuple #[.string ⟨(ie c).toArray⟩,.int .i64 0]:=by rw [iA,if_pos e1,lj,e1]
 rw [eB] at hR2;clear eB;generalize htot:ie c = total at hlen hR2;have ht0:total = [] ++ ie c:=htot.symm;clear htot;rw [ie] at ht0;refine ak ?_;intro bb w6 hbb hS6;clear hS5;have hB6:BuOk bb [(bb,buO none (.slice none 0 0))] (Lib.byteCells []):=BuOk.new;have hS6':Res w1 zc [] w6 z5 [(bb,buO none (.slice none 0 0))]:=hS6;generalize [(bb,buO none (.slice none 0 0))] = B6 at hB6 hS6';clear hS6;have hS6:=hS6';clear hS6';(repeat (first | refine aA ?_ | refine aL ?_));refine na (xs:=c.consts) (g:=eW) hS6 hB6 ht0 ?_;intro I10 M10 k10 w10 z10 B10 us10 m10 hk10 hz10 hS10 hB10 ht10 back;clear hS6 hB6;have hzz10:Le z5 z10:=Le.trans (Le.refl _) hz10;have hzc10:Le zc z10:=hz5.trans hzz10;obtain ⟨_,_,_,e10,_,hel10⟩:=h1.form
 cases e10
 refine aA ?_;refine aC (fun h=>?_) (fun h=>?_)
 ·have hlt:k10 < c.consts.length:=by omega
  have hi:=getElem?_eq_getElem hlt;have hm:=getElem_mem hlt;have hl1:=cw ht10 hlt;haveI:InR (k10:Int) (c.consts.length:Nat):=⟨by omega,by omega⟩
  haveI:InI ((k10:Int) + 1):=⟨by omega⟩
  obtain ⟨b,off,cs,rfl,hr,hat⟩:=hel10 _ _ hi;obtain ⟨rfl,_⟩:=hr;have hbs:=hsm.consts _ hm;haveI:ky c.consts[k10]:=⟨by omega⟩
  refine aA ?_;refine bL (hat.mono (hzc.trans hzc10)) ?_;refine aN ?_;intro z2 w2 hz2 hS2;refine fN (n:=2) (out:=[_,_]) [⟨#[116,101,120,116]⟩,aZ c.consts[k10]] rfl rfl (by omega) (Nat.le_trans (kG (by omega)).1 (by omega)) ?_;intro z3 w3 hz3 hS3;refine kf hS3 hB10 hl1 hlen ?_;intro z4 B4 w4 v4 hz4 hS4 hB4;refine aA ?_;exact back hlt _ _ _ (by (repeat (first | assumption | refine Le.trans ?_ (by assumption:Le _ _)))) hS4 hB4
 have hn10:=cy ht10 h;clear back ht10 hel10;(repeat (first | refine aA ?_ | refine aL ?_));refine na (xs:=c.tmpls) (g:=ep) hS10 hB10 hn10 ?_;intro I20 M20 k20 w20 z20 B20 us20 m20 hk20 hz20 hS20 hB20 ht20 back;clear hS10 hB10;have hzz20:Le z5 z20:=Le.trans hzz10 hz20;have hzc20:Le zc z20:=hz5.trans hzz20;obtain ⟨_,_,_,e20,_,hel20⟩:=h2.form
 cases e20
 refine aA ?_;refine aC (fun h=>?_) (fun h=>?_)
 ·have hlt:k20 < c.tmpls.length:=by omega
  have hi:=getElem?_eq_getElem hlt;have hm:=getElem_mem hlt;have hl1:=cw ht20 hlt;haveI:InR (k20:Int) (c.tmpls.length:Nat):=⟨by omega,by omega⟩
  haveI:InI ((k20:Int) + 1):=⟨by omega⟩
  obtain ⟨b,off,cs,rfl,hr,hat⟩:=hel20 _ _ hi;obtain ⟨v9,rfl,hv9⟩:=hr;have hbs:=hsm.tmpls _ hm;haveI:Tab z20:=ht.le (hzc.trans hzc20);refine aA ?_;refine bL (hat.mono (hzc.trans hzc20)) ?_;refine ap (tU (hv9.mono (hzc.trans hzc20)) hbs.1 hbs.2) ?_;rintro z3 w3 v3 hz3 hS3 rfl
  refine kf hS3 hB20 hl1 hlen ?_;intro z4 B4 w4 v4 hz4 hS4 hB4;refine aA ?_;exact back hlt _ _ _ (by (repeat (first | assumption | refine Le.trans ?_ (by assumption:Le _ _)))) hS4 hB4
 have hn20:=cy ht20 h;clear back ht20 hel20;(repeat (first | refine aA ?_ | refine aL ?_));refine na (xs:=c.lists) (g:=fI) hS20 hB20 hn20 ?_;intro I30 M30 k30 w30 z30 B30 us30 m30 hk30 hz30 hS30 hB30 ht30 back;clear hS20 hB20;have hzz30:Le z5 z30:=Le.trans hzz20 hz30;have hzc30:Le zc z30:=hz5.trans hzz30;obtain ⟨_,_,_,e30,_,hel30⟩:=h3.form
 cases e30
 refine aA ?_;refine aC (fun h=>?_) (fun h=>?_)
 ·have hlt:k30 < c.lists.length:=by omega
  have hi:=getElem?_eq_getElem hlt;have hm:=getElem_mem hlt;have hl1:=cw ht30 hlt;haveI:InR (k30:Int) (c.lists.length:Nat):=⟨by omega,by omega⟩
  haveI:InI ((k30:Int) + 1):=⟨by omega⟩
  obtain ⟨b,off,cs,rfl,hr,hat⟩:=hel30 _ _ hi;obtain ⟨v9,rfl,hv9⟩:=hr;have hbs:=hsm.lists _ hm;haveI:Tab z30:=ht.le (hzc.trans hzc30);refine aA ?_;refine bL (hat.mono (hzc.trans hzc30)) ?_;refine ap (uD (hv9.mono (hzc.trans hzc30)) hbs.1 hbs.2) ?_;rintro z3 w3 v3 hz3 hS3 rfl
  refine kf hS3 hB30 hl1 hlen ?_;intro z4 B4 w4 v4 hz4 hS4 hB4;refine aA ?_;exact back hlt _ _ _ (by (repeat (first | assumption | refine Le.trans ?_ (by assumption:Le _ _)))) hS4 hB4
 have hn30:=cy ht30 h;clear back ht30 hel30;(repeat (first | refine aA ?_ | refine aL ?_));refine na (xs:=c.labels) (g:=dd) hS30 hB30 hn30 ?_;intro I40 M40 k40 w40 z40 B40 us40 m40 hk40 hz40 hS40 hB40 ht40 back;clear hS30 hB30;have hzz40:Le z5 z40:=Le.trans hzz30 hz40;have hzc40:Le zc z40:=hz5.trans hzz40;obtain ⟨_,_,_,e40,_,hel40⟩:=h4.form
 cases e40
 refine aA ?_;refine aC (fun h=>?_) (fun h=>?_)
 ·have hlt:k40 < c.labels.length:=by omega
  have hi:=getElem?_eq_getElem hlt;have hm:=getElem_mem hlt;have hl1:=cw ht40 hlt;haveI:InR (k40:Int) (c.labels.length:Nat):=⟨by omega,by omega⟩
  haveI:InI ((k40:Int) + 1):=⟨by omega⟩
  obtain ⟨b,off,cs,rfl,hr,hat⟩:=hel40 _ _ hi;obtain ⟨rfl,_⟩:=hr;have hbs:=hsm.labels _ hm;haveI:Fz zc b (off + (k40:Int).toNat * 2) c.labels[k40].cells:=⟨hat.mono hzc⟩
  (repeat (first | refine aA ?_ | refine ae ?_ | (refine aP ?_; intro _ _ _ _) | (refine aF ?_; intro _ _) | refine bV ?_));rename_i w8 hS8;have hS9:=hS8.keep [.bl B40];rw [append_nil] at hS9;haveI:Tab z40:=ht.le (hzc.trans hzc40);refine ap (mP ⟨by omega⟩ (by omega)) ?_;rintro z3 w3 v3 hz3 hS3 rfl
  have hS3':=hS3.keep [.bl B40];rw [append_nil] at hS3';refine kf hS3' hB40 hl1 hlen ?_;intro z4 B4 w4 v4 hz4 hS4 hB4;refine aA ?_;exact back hlt _ _ _ (by (repeat (first | assumption | refine Le.trans ?_ (by assumption:Le _ _)))) hS4 hB4
 have hn40:=cy ht40 h;clear back ht40 hel40;(repeat (first | refine aA ?_ | refine aL ?_));refine na (xs:=c.slots) (g:=km) hS40 hB40 hn40 ?_;intro I50 M50 k50 w50 z50 B50 us50 m50 hk50 hz50 hS50 hB50 ht50 back;clear hS40 hB40;have hzz50:Le z5 z50:=Le.trans hzz40 hz50;have hzc50:Le zc z50:=hz5.trans hzz50;obtain ⟨_,_,_,e50,_,hel50⟩:=h5.form
 cases e50
 refine aA ?_;refine aC (fun h=>?_) (fun h=>?_)
 ·have hlt:k50 < c.slots.length:=by omega
  have hi:=getElem?_eq_getElem hlt;have hm:=getElem_mem hlt;have hl1:=cw ht50 hlt;haveI:InR (k50:Int) (c.slots.length:Nat):=⟨by omega,by omega⟩
  haveI:InI ((k50:Int) + 1):=⟨by omega⟩
  obtain ⟨b,off,cs,rfl,hr,hat⟩:=hel50 _ _ hi;obtain ⟨rfl,_⟩:=hr;have hbs:=hsm.slots _ hm;refine aA ?_;refine bL (hat.mono (hzc.trans hzc50)) ?_;refine fN (n:=2) (out:=[_,_]) [⟨#[110,97,109,101]⟩,c.slots[k50]] rfl rfl (by omega) (Nat.le_trans (pT (by omega)).1 (by omega)) ?_;intro z3 w3 hz3 hS3;refine kf hS3 hB50 hl1 hlen ?_;intro z4 B4 w4 v4 hz4 hS4 hB4;refine aA ?_;exact back hlt _ _ _ (by (repeat (first | assumption | refine Le.trans ?_ (by assumption:Le _ _)))) hS4 hB4
 have hn50:=cy ht50 h;clear back ht50 hel50;(repeat (first | refine aA ?_ | refine aL ?_));refine na (xs:=c.ins) (g:=fR) hS50 hB50 hn50 ?_;intro I60 M60 k60 w60 z60 B60 us60 m60 hk60 hz60 hS60 hB60 ht60 back;clear hS50 hB50;have hzz60:Le z5 z60:=Le.trans hzz50 hz60;have hzc60:Le zc z60:=hz5.trans hzz60;obtain ⟨_,_,_,e60,_,hel60⟩:=h6.form
 cases e60
 refine aA ?_;refine aC (fun h=>?_) (fun h=>?_)
 ·have hlt:k60 < c.ins.length:=by omega
  have hi:=getElem?_eq_getElem hlt;have hm:=getElem_mem hlt;have hl1:=cw ht60 hlt;haveI:InR (k60:Int) (c.ins.length:Nat):=⟨by omega,by omega⟩
  haveI:InI ((k60:Int) + 1):=⟨by omega⟩
  obtain ⟨b,off,cs,rfl,hr,hat⟩:=hel60 _ _ hi
  cases hr
  have hbs:=hsm.ins _ hm;haveI:Fz zc b (off + (k60:Int).toNat * 4) c.ins[k60].cells:=⟨hat.mono hzc⟩
  (repeat (first | refine aA ?_ | refine ae ?_ | (refine aP ?_; intro _ _ _ _) | (refine aF ?_; intro _ _) | refine bV ?_));rename_i w8 hS8;haveI:Tab z60:=ht.le (hzc.trans hzc60);refine ap (pp ⟨by omega⟩ ⟨by omega⟩ ⟨by omega⟩) ?_;rintro z3 w3 v3 hz3 hS3 rfl
  have hS3':=hS3.keep [.bl B60];rw [append_nil] at hS3';refine kf hS3' hB60 hl1 hlen ?_;intro z4 B4 w4 v4 hz4 hS4 hB4;refine aA ?_;exact back hlt _ _ _ (by (repeat (first | assumption | refine Le.trans ?_ (by assumption:Le _ _)))) hS4 hB4
 have hn60:=cy ht60 h;clear back ht60 hel60;rw [append_nil] at hn60;subst hn60;refine bO (B:=B60) (F:=[]) (by simpa using hS60) (ft hB60 (by simp only [room]; simp only [eL] at hlen; omega)) (by simp) ?_;rintro z8 B8 w8 v8 hz8 hS8 ⟨rfl,rfl⟩
 exact hR2 _ _ _ hS8)
end
section
def sayC:aH:=⟨[⟨#[83,65,89,32,49]⟩,⟨#[49]⟩,⟨#[65]⟩],[],[],[],[],[⟨1,1,0,0⟩,⟨3,1,0,0⟩,⟨13,0,0,0⟩,⟨39,0,0,0⟩,⟨2,0,0,0⟩,⟨46,0,0,0⟩]⟩
def badC:aH:=⟨[⟨#[83,65,89,32,49]⟩,⟨#[49]⟩,⟨#[65]⟩],[],[],[],[],[⟨1,1,0,0⟩,⟨3,1,0,0⟩,⟨39,0,0,0⟩,⟨39,0,0,0⟩,⟨2,0,0,0⟩,⟨46,0,0,0⟩]⟩
def jumpC:aH:=⟨[],[],[],[],[],[⟨23,0,0,0⟩]⟩
theorem kS:(ag sayC).1 = 0:=by decide +kernel
theorem xb:((bK sayC).getD []).map ay = [0,0,1,1,0,0]:=by decide +kernel
theorem xc:((bK sayC).getD []).map az = [0,0,0,0,0,0]:=by decide +kernel
theorem yw:10 < (iA sayC).size/\(iA sayC).extract 0 10 = ⟨#[116,101,120,116,32,34,83,65,89,32]⟩:=by decide +kernel
theorem say_enc:uf sayC = 0/\3 < (mY sayC).length/\(mY sayC)[0]? = some 81/\(mY sayC)[1]? = some 6/\(mY sayC)[2]? = some 10:=by decide +kernel
theorem yY:(ag badC).1 = 12:=by decide +kernel
theorem vw:(ag jumpC).1 = 0:=by decide +kernel
instance {a b c d:Int}:Pu 45 #[.int .i64 a,.int .i64 b,.int .i64 c,.int .i64 d] (InsM.v ⟨a,b,c,d⟩):=⟨fun z w=>Fn1.intro fun hS=>en45 (by
 unfold vc45;(repeat (first | refine aA ?_ | (refine aP ?_; intro _ _ _ _) | (refine aF ?_; intro _ _) | refine aq ?_));exact ⟨_,_,‹_›,rfl⟩)⟩
theorem qw {z:Z} {w:World}:Fn 44 #[] z [] w fun _ B' r=>∃ b1 b2,B' = [(b2,.cells (sayC.ins.flatMap InsM.cells).toArray 38 (0,0)),(b1,.cells (sayC.consts.map Value.string).toArray 9 (0,0))]/\r = .agg #[.slice (some ⟨b1,0,none⟩) 3 3,aJ,aJ,aJ,aJ,.slice (some ⟨b2,0,none⟩) 6 6]:=Fn.intro fun hS=>en44 (by
 unfold vc44;(repeat (refine aP ?_; intro _ _ _ _));refine je rfl (by omega) ?_;intro b1 w1 hb1 hS1;(repeat (refine aN ?_; intro _ _ _ _));refine je rfl (by omega) ?_;intro b2 w2 hb2 hS2;(repeat (first | refine aA ?_ | (refine aF ?_; intro _ _) | refine aq ?_));rename_i w3 hS3;exact ⟨_,_,hS3.keep [.at b2,.at b1],b1,b2,rfl,rfl⟩)
section
variable {w0 w:World} {z0 z:Z} {B0 L:Bl} {b:Nat}
theorem xC {l:List ByteArray} {n:Nat} (hS:Res w0 z0 B0 w z ((b,.cells (l.map Value.string).toArray 9 (0,0)) :: L)) (hn:l.length = n) (h1:n <= 1000) (h2:∀ x ∈ l,x.size <= 1000):∃ z',Le z z'/\Res w0 z0 B0 w z' L/\SlR El.str z' (.slice (some ⟨b,0,none⟩) n n) l:=by
 have hfl:(l.map fun x=>Value.string x) = l.flatMap fun x=>[Value.string x]:=nJ l
 have hlen:(l.map Value.string).length = n:=by rw [length_map,hn]
 obtain ⟨z2,hz2,hS2,hv⟩:=Res.freezeSl (E:=El.str) (e:=9) (B:=[(b,_)]) (L:=L) (v:=.slice (some ⟨b,0,none⟩) l.length n) (xs:=l) (f:=fun x=>[Value.string x]) hS ⟨by rw [<- hfl,hlen,hn]; exact (Nat.mul_one _).symm,.inr ⟨b,n,[],by rw [<- hfl,append_nil],rfl,by omega,by simp only [maxLen]; omega,by rw [<- hfl,append_nil,hlen]; exact (Nat.mul_one _).symm⟩⟩ (by simp only [big]; omega) (fun _=>rfl) (fun z x hx=>⟨rfl,by have:=h2 x hx; simp only [big]; omega⟩);rw [hn] at hv;exact ⟨z2,hz2,hS2,hv⟩
theorem wC {l:List InsM} {n:Nat} (hS:Res w0 z0 B0 w z ((b,.cells (l.flatMap InsM.cells).toArray 38 (0,0)) :: L)) (hn:l.length = n) (h1:n <= 1000):∃ z',Le z z'/\Res w0 z0 B0 w z' L/\SlR El.ins z' (.slice (some ⟨b,0,none⟩) n n) l:=by
 have hlen:(l.flatMap InsM.cells).length = n * 4:=by rw [pq,hn]
 obtain ⟨z2,hz2,hS2,hv⟩:=Res.freezeSl (E:=El.ins) (e:=38) (B:=[(b,_)]) (L:=L) (v:=.slice (some ⟨b,0,none⟩) l.length n) (xs:=l) (f:=InsM.cells) hS ⟨by rw [hlen,hn]; rfl,.inr ⟨b,n,[],by rw [append_nil],rfl,by omega,by simp only [maxLen]; omega,by rw [append_nil,hlen]; rfl⟩⟩ (by simp only [big]; omega) (fun _=>rfl) (fun z x hx=>rfl);rw [hn] at hv;exact ⟨z2,hz2,hS2,hv⟩
end
theorem BW {w0 w:World} {z0 z:Z} {B0 L:Bl} {b:Nat} {l:List Int} {n:Nat} (hS:Res w0 z0 B0 w z ((b,.cells (l.map fun x=>Value.int .i64 x).toArray 3 (0,0)) :: L)) (hn:l.length = n) (h1:n <= 1000):∃ z',Le z z'/\Res w0 z0 B0 w z' L/\SlR El.int z' (.slice (some ⟨b,0,none⟩) n n) l:=by
 have hfl:(l.map fun x=>Value.int .i64 x) = l.flatMap fun x=>[Value.int .i64 x]:=pY l
 have hlen:(l.map fun x=>Value.int .i64 x).length = n:=by rw [length_map,hn]
 obtain ⟨z2,hz2,hS2,hv⟩:=Res.freezeSl (E:=El.int) (e:=3) (B:=[(b,_)]) (L:=L) (v:=.slice (some ⟨b,0,none⟩) l.length n) (xs:=l) (f:=fun x=>[Value.int .i64 x]) hS ⟨by rw [<- hfl,hlen,hn]; exact (Nat.mul_one _).symm,.inr ⟨b,n,[],by rw [<- hfl,append_nil],rfl,by omega,by simp only [maxLen]; omega,by rw [<- hfl,append_nil,hlen]; exact (Nat.mul_one _).symm⟩⟩ (by simp only [big]; omega) (fun _=>rfl) (fun z x hx=>rfl);rw [hn] at hv;exact ⟨z2,hz2,hS2,hv⟩
theorem nn {z:Z} {w:World} {v u:Value} {l m:List Int} (hv:SlR El.int z v l) (hu:SlR El.int z u m):Fn1 30 #[v,u] z w fun _ r=>r = .bool (decide (l = m)):=Fn1.intro fun hS=>en30 (by
 unfold vc30;obtain ⟨hb1,a1,c1,rfl,_,hel1⟩:=hv.form;obtain ⟨hb2,a2,c2,rfl,_,hel2⟩:=hu.form;refine aA ?_;refine aA ?_;refine aA ?_;refine eO (fun h=>?_) (fun h=>?_)
 ·exact ⟨_,_,hS,by rw [decide_eq_false (fun e:l = m=>by rw [e] at h; omega)]⟩
 have hlm:l.length = m.length:=by omega
 refine bG (fun (k:Nat) x=>x = .int .i64 k/\k <= l.length/\∀ i,i < k->l[i]? = m[i]?) (fun k=>l.length - k) 0 ⟨rfl,Nat.zero_le _,fun i hi=>by omega⟩ ?_;rintro I M k x w1 z1 m1 ⟨rfl,hk,hall⟩ hz1 hS1 back
 clear hS;refine aA ?_;refine aA ?_;refine aC (fun h=>?_) (fun h=>?_)
 ·have hk1:k < l.length:=by omega
  have hk2:k < m.length:=by omega
  obtain ⟨b,off,cs,rfl,hr,hat⟩:=hel1 _ _ (getElem?_eq_getElem hk1);obtain ⟨b',off',cs',rfl,hr',hat'⟩:=hel2 _ _ (getElem?_eq_getElem hk2)
  cases hr; cases hr'
  haveI:InR (k:Int) (l.length:Nat):=⟨by omega,by omega⟩
  haveI:InR (k:Int) (m.length:Nat):=⟨by omega,by omega⟩
  haveI:InI ((k:Int) + 1):=⟨by simp only [big] at hb1; omega⟩
  haveI:Fz z b (off + (k:Int).toNat * 1) [.int .i64 l[k]]:=⟨hat⟩
  haveI:Fz z b' (off' + (k:Int).toNat * 1) [.int .i64 m[k]]:=⟨hat'⟩
  (repeat (first | (refine iDr ?_; intro _ _) | refine aK ?_ | refine bz ?_));refine eO (fun h3=>?_) (fun h3=>?_)
  ·exact ⟨_,_,‹_›,by rw [decide_eq_false]; intro e; subst e; exact h3 rfl⟩
  ·refine aA ?_
   refine back (k + 1) _ _ _ ⟨by simp,by omega,fun i hi=>?_⟩ (Le.refl _) (by assumption) (by omega)
   rcases Nat.lt_or_eq_of_le (Nat.le_of_lt_succ hi) with hi | hi
   ·exact hall i hi
   ·subst hi; rw [getElem?_eq_getElem hk1,getElem?_eq_getElem hk2,h3]
 ·have hlm2:l = m:=ext_getElem? fun i=>by
   rcases Nat.lt_or_ge i k with hi | hi
   ·exact hall i hi
   ·rw [getElem?_eq_none (by omega),getElem?_eq_none (by omega)]
  exact ⟨_,_,hS1,by rw [decide_eq_true hlm2]⟩)
theorem Dl (i:InsM):Pu 17 #[i.v] (dX i).v:=inferInstance
theorem Al:SetN (sayC.ins.flatMap InsM.cells) (Int.toNat 2 * 4) (InsM.cells ⟨39,0,0,0⟩) (badC.ins.flatMap InsM.cells):=
 (inferInstance:SetN ([.int .i64 1,.int .i64 1,.int .i64 0,.int .i64 0,.int .i64 3,.int .i64 1,.int .i64 0,.int .i64 0,.int .i64 13,.int .i64 0,.int .i64 0,.int .i64 0,.int .i64 39,.int .i64 0,.int .i64 0,.int .i64 0,.int .i64 2,.int .i64 0,.int .i64 0,.int .i64 0,.int .i64 46,.int .i64 0,.int .i64 0,.int .i64 0]:List Value) 8 [.int .i64 39,.int .i64 0,.int .i64 0,.int .i64 0] [.int .i64 1,.int .i64 1,.int .i64 0,.int .i64 0,.int .i64 3,.int .i64 1,.int .i64 0,.int .i64 0,.int .i64 39,.int .i64 0,.int .i64 0,.int .i64 0,.int .i64 39,.int .i64 0,.int .i64 0,.int .i64 0,.int .i64 2,.int .i64 0,.int .i64 0,.int .i64 0,.int .i64 46,.int .i64 0,.int .i64 0,.int .i64 0])
theorem BS {z:Z} {w:World} [ht:Tab z]:Fn1 13 #[] z w fun _ r=>r = .bool true:=Fn1.intro fun hS=>en13 (by
 unfold vc13;refine bO (B:=[]) (F:=[]) (by simpa using hS) qw (by simp) ?_;rintro z1 B1 w1 v1 hz1 hS1 ⟨b1,b2,rfl,rfl⟩
 rw [append_nil] at hS1;obtain ⟨z2,hz2,hS2,hv2⟩:=wC (n:=6) hS1 rfl (by omega);obtain ⟨z3,hz3,hS3,hv3⟩:=xC (n:=3) hS2 rfl (by omega) (by decide);have hc3:=CodeR.mk ⟨_,_,_,_,_,_,rfl,hv3,SlR.nil,SlR.nil,SlR.nil,SlR.nil,hv2.mono hz3⟩ (c:=sayC);clear hS hS1 hS2;have hz03:Le z z3:=by (repeat (exact Res.zle (by assumption)))
 haveI:Tab z3:=ht.le hz03;(repeat (first | refine ae ?_ | (refine aP ?_; intro _ _ _ _) | (refine aF ?_; intro _ _)));rename_i bt w4 hbt hS4 w5 hS5;clear hS3 hS4;refine ap (wL hc3) ?_;rintro z6 w6 v6 hz6 hS6 ⟨vs,vl,rfl,hvs,hvl⟩
 rw [if_pos kS,xb] at hvs;rw [if_pos kS,xc] at hvl;clear hS5;(repeat (first | refine aA ?_ | refine ae ?_));haveI:Tab z6:=ht.le (hz03.trans hz6);refine ap (wk (hc3.mono hz6)) ?_;rintro z7 w7 v7 hz7 hS7 rfl
 clear hS6;(repeat (first | refine aA ?_ | refine ae ?_));have hz37:=hz6.trans hz7;refine ap (Aj (hc3.mono hz37)) ?_;rintro z8 w8 v8 hz8 hS8 ⟨vc,va,rfl,hvc,hva⟩
 clear hS7;obtain ⟨q1,q2,q3,q4,q5,q6,k1,k2,k3,k4,k5,k6,rfl,g1,_,_,_,_,_⟩:=hvc.form;(repeat (first | refine aA ?_ | refine ae ?_ | (refine aP ?_; intro _ _ _ _) | (refine aF ?_; intro _ _)));rename_i b7 w9 hb7 hS9 w10 hS10;have hz38:=hz37.trans hz8;refine ap (yO (hc3.mono hz38)) ?_;rintro z11 w11 v11 hz11 hS11 ⟨vb,rfl,hvb⟩
 clear hS8 hS9 hS10;(repeat (refine aA ?_));have hS12:=hS11.keep [.at bt,.at b7];refine bO (B:=[]) (F:=_) hS12 qw (by simp) ?_;rintro z13 B13 w13 v13 hz13 hS13 ⟨c1,c2,rfl,rfl⟩
 clear hS11 hS12;have hS14:=hS13;simp only [cons_append,nil_append] at hS14;clear hS13;(repeat (first | (refine iDr ?_; intro _ _) | refine aK ?_ | (refine aP ?_; intro _ _ _ _) | (refine aF ?_; intro _ _) | refine aW ?_ | refine bN ?_ | (refine aN ?_; intro _ _ _ _)));rename_i b12 w15 hb12 hS15 w16 hS16 w17' hS17' z17 w17 hz17 hS17;clear hS14 hS15 hS16 hS17';haveI:=Al;refine aF ?_;intro w18 hS18;clear hS17;(repeat (refine ae ?_));have hS19:=hS18.keep [.at c2,.at c1,.at b12,.at bt,.at b7];clear hS18;obtain ⟨z20,hz20,hS20,hv20⟩:=wC (n:=6) (l:=badC.ins) hS19 rfl (by omega);obtain ⟨z21,hz21,hS21,hv21⟩:=xC (n:=3) (l:=badC.consts) hS20 rfl (by omega) (by decide);clear hS19 hS20;have hc21:=CodeR.mk ⟨_,_,_,_,_,_,rfl,hv21,SlR.nil,SlR.nil,SlR.nil,SlR.nil,hv20.mono hz21⟩ (c:=badC);refine ap (mj hc21) ?_;rintro z22 w22 v22 hz22 hS22 rfl
 clear hS21;(repeat (first | refine aA ?_ | (refine aN ?_; intro _ _ _ _)));rename_i z23 w23 hz23 hS23;clear hS22;refine je (t:=26) rfl (by omega) ?_;intro bj w24 hbj hS24;obtain ⟨z25,hz25,hS25,hv25⟩:=wC (n:=1) (l:=jumpC.ins) hS24 rfl (by omega);clear hS23 hS24;have hc25:=CodeR.mk ⟨_,_,_,_,_,_,rfl,SlR.nil,SlR.nil,SlR.nil,SlR.nil,SlR.nil,hv25⟩ (c:=jumpC);(repeat (refine aA ?_));refine ap (mj hc25) ?_;rintro z26 w26 v26 hz26 hS26 rfl
 clear hS25;(repeat (first | refine aA ?_ | (refine aN ?_; intro _ _ _ _)));rename_i z27 w27 hz27 hS27;clear hS26;refine aN (v:=EffM.v ⟨3,0,0⟩) (g:=Dl ⟨27,0,13,0⟩) ?_;intro z28 w28 hz28 hS28;clear hS27;rw [kS,yY,vw,say_enc.1];simp only [lj,kS];have hz628:Le z6 z28:=hz7.trans <| hz8.trans <| hz11.trans <| hz13.trans <| hz17.trans <| hz20.trans <| hz21.trans <| hz22.trans <| hz23.trans <| hz25.trans <| hz26.trans <| hz27.trans hz28
 have hz1128:Le z11 z28:=hz13.trans <| hz17.trans <| hz20.trans <| hz21.trans <| hz22.trans <| hz23.trans <| hz25.trans <| hz26.trans <| hz27.trans hz28
 refine aA ?_;refine aA ?_;refine aA ?_;refine aA ?_;intro F1 hF1;refine aC (fun _=>?_) (fun h=>absurd (by decide) h);refine kL [0,0,1,1,0,0] rfl rfl (by omega) ?_;intro z30 w30 v30 hz30 hS30 hv30;refine ap (nn (hvs.mono (hz628.trans hz30)) hv30) ?_;rintro z31 w31 v31 hz31 hS31 rfl
 clear hS30 hS28;refine hF1 _ _ fun _=>?_
 clear hF1;intro F2 hF2;refine aC (fun _=>?_) (fun h=>absurd (by decide) h);refine uR (n:=6) (by omega) (by omega) ?_;intro b32 w32 hb32 hS32;obtain ⟨z33,hz33,hS33,hv33⟩:=BW (n:=6) (l:=[0,0,0,0,0,0]) hS32 rfl (by omega);refine ap (nn (hvl.mono (hz628.trans (hz30.trans (hz31.trans hz33)))) hv33) ?_;rintro z34 w34 v34 hz34 hS34 rfl
 clear hS31 hS32 hS33;refine hF2 _ _ fun _=>?_
 clear hF2;intro F3 hF3;refine aC (fun _=>?_) (fun h=>absurd (by decide) h);refine aA ?_;refine hF3 _ _ fun _=>?_
 clear hF3;have hz1134:Le z11 z34:=hz1128.trans <| hz30.trans <| hz31.trans <| hz33.trans hz34
 obtain ⟨hlt,hpre⟩:=yw;obtain ⟨he0,he1,he2,he3,he4⟩:=say_enc;obtain ⟨_,ab,kb,rfl,_,helb⟩:=hvb.form;intro F4 hF4;refine aC (fun _=>?_) (fun h=>absurd (by decide) h);refine aA ?_;refine aA ?_;refine hF4 _ _ fun _=>?_
 clear hF4;intro F5 hF5;refine aC (fun _=>?_) (fun h=>absurd (by omega) h);haveI:InR 10 (((iA sayC).size:Nat) + 1):=⟨by omega,by omega⟩
 refine aA ?_;rw [show (iA sayC).extract 0 (Int.toNat 10) = _ from hpre];refine aA ?_;refine hF5 _ _ fun _=>?_
 clear hF5;refine aA ?_;intro F6 hF6;refine aC (fun _=>?_) (fun h=>absurd (by decide) h);refine aA ?_;refine aE ?_;refine aA ?_;refine aA ?_;refine hF6 _ _ fun _=>?_
 clear hF6;intro F7 hF7;refine aC (fun _=>?_) (fun h=>absurd (by decide) h);refine aA ?_;refine hF7 _ _ fun _=>?_
 clear hF7;intro F8 hF8;refine aC (fun _=>?_) (fun h=>absurd (by decide) h);refine aA ?_;refine aA ?_;refine hF8 _ _ fun _=>?_
 clear hF8;intro F9 hF9;refine aC (fun _=>?_) (fun h=>absurd (by omega) h);obtain ⟨b9,o9,c9,rfl,hr9,hat9⟩:=helb _ _ he2
 cases hr9
 haveI:InR 0 ((mY sayC).length:Nat):=⟨by omega,by omega⟩
 refine aA ?_;refine bL (hat9.mono hz1134) ?_;refine aA ?_;refine hF9 _ _ fun _=>?_
 clear hF9;intro F10 hF10;refine aC (fun _=>?_) (fun h=>absurd (by decide) h);obtain ⟨b10,o10,c10,e10,hr10,hat10⟩:=helb _ _ he3
 cases e10
 cases hr10
 haveI:InR 1 ((mY sayC).length:Nat):=⟨by omega,by omega⟩
 refine aA ?_;refine bL (hat10.mono hz1134) ?_;refine aA ?_;refine hF10 _ _ fun _=>?_
 clear hF10;intro F11 hF11;refine aC (fun _=>?_) (fun h=>absurd (by decide) h);obtain ⟨b11,o11,c11,e11,hr11,hat11⟩:=helb _ _ he4
 cases e11
 cases hr11
 haveI:InR 2 ((mY sayC).length:Nat):=⟨by omega,by omega⟩
 refine aA ?_;refine bL (hat11.mono hz1134) ?_;refine aA ?_;refine hF11 _ _ fun _=>?_
 clear hF11;intro F12 hF12;refine aC (fun _=>?_) (fun h=>absurd (by decide) h);refine hF12 _ _ fun _=>?_
 clear hF12;intro F13 hF13;refine aC (fun _=>?_) (fun h=>absurd (by decide) h);refine aA ?_;refine hF13 _ _ fun _=>?_
 clear hF13;intro F14 hF14;refine aC (fun _=>?_) (fun h=>absurd (by decide) h);refine aA ?_;refine hF14 _ _ fun _=>?_
 clear hF14;intro F15 hF15;refine aC (fun _=>?_) (fun h=>absurd (by decide) h);refine aA ?_;refine hF15 _ _ fun _=>?_
 clear hF15;intro F16 hF16;refine aC (fun _=>?_) (fun h=>absurd (by decide) h);refine aA ?_;refine hF16 _ _ fun _=>?_
 clear hF16;intro F17 hF17;refine aC (fun _=>?_) (fun h=>absurd (by decide) h);refine aA ?_;refine hF17 _ _ fun _=>?_
 clear hF17;exact ⟨_,_,hS34,rfl⟩)
instance {z:Z} [ht:Tab z]:PuZ z 13 #[] (.bool true):=⟨fun z' w hz=>by haveI:=ht.le hz; exact BS⟩
end
section
structure RowM where
 name:ByteArray
 k0:Int
 k1:Int
 k2:Int
 m0:Int
 m1:Int
 m2:Int
 pops:Int
 pushes:Int
 final:Bool
abbrev RowM.cells (f:RowM):List Value:=[.string f.name,.int .i64 f.k0,.int .i64 f.k1,.int .i64 f.k2,.int .i64 f.m0,.int .i64 f.m1,.int .i64 f.m2,.int .i64 f.pops,.int .i64 f.pushes,.bool f.final]
abbrev RowM.v (f:RowM):Value:=.agg f.cells.toArray
def nw:RowM:=⟨⟨#[]⟩,0,0,0,0,0,0,0,0,false⟩
def rowL:List RowM:=[nw,
 ⟨⟨#[99,108,97,117,115,101]⟩,1,2,13,0,0,2,0,0,false⟩,
 ⟨⟨#[100,111,110,101]⟩,0,0,0,0,0,0,0,0,false⟩,
 ⟨⟨#[99,111,110,115,116]⟩,2,0,0,0,0,0,0,1,false⟩,
 ⟨⟨#[109,105,115,115]⟩,0,0,0,0,0,0,0,1,false⟩,
 ⟨⟨#[118,97,114]⟩,3,0,0,0,0,0,0,1,false⟩,
 ⟨⟨#[115,108,111,116]⟩,7,0,0,0,0,0,0,1,false⟩,
 ⟨⟨#[115,116,101,109]⟩,4,0,0,0,0,0,0,1,false⟩,
 ⟨⟨#[99,111,109,112]⟩,5,0,0,0,0,0,0,1,false⟩,
 ⟨⟨#[112,101,101,107]⟩,6,0,0,0,0,0,0,1,false⟩,
 ⟨⟨#[98,105,110]⟩,14,0,0,24,0,0,2,1,false⟩,
 ⟨⟨#[117,110]⟩,14,0,0,3,0,0,1,1,false⟩,
 ⟨⟨#[102,117,110]⟩,15,13,13,0,10,1,0,1,false⟩,
 ⟨⟨#[116,101,108,108]⟩,0,0,0,0,0,0,1,1,false⟩,
 ⟨⟨#[112,111,112]⟩,0,0,0,0,0,0,1,0,false⟩,
 ⟨⟨#[115,101,116]⟩,6,0,0,0,0,0,1,0,false⟩,
 ⟨⟨#[112,117,116]⟩,7,0,0,0,0,0,1,0,false⟩,
 ⟨⟨#[100,114,111,112]⟩,9,0,0,0,0,0,0,0,false⟩,
 ⟨⟨#[112,114,111,99]⟩,10,0,0,0,0,0,0,0,false⟩,
 ⟨⟨#[97,100,100,114]⟩,13,15,0,2,0,0,0,0,false⟩,
 ⟨⟨#[99,109,100]⟩,12,0,0,0,0,0,1,0,false⟩,
 ⟨⟨#[115,117,98]⟩,15,13,13,0,10,1,0,0,false⟩,
 ⟨⟨#[116,114,97,112]⟩,13,13,15,5,2,0,0,0,false⟩,
 ⟨⟨#[106,117,109,112]⟩,11,0,0,0,0,0,0,0,true⟩,
 ⟨⟨#[102,97,108,115,101]⟩,11,0,0,0,0,0,1,0,false⟩,
 ⟨⟨#[112,108,117,115]⟩,0,0,0,0,0,0,1,1,false⟩,
 ⟨⟨#[119,104,111,108,101]⟩,0,0,0,0,0,0,1,1,false⟩,
 ⟨⟨#[111,118,101,114]⟩,6,15,0,0,0,0,1,0,false⟩,
 ⟨⟨#[99,111,117,110,116]⟩,0,0,0,0,0,0,1,0,false⟩,
 ⟨⟨#[108,111,111,112]⟩,0,0,0,0,0,0,0,0,false⟩,
 ⟨⟨#[116,101,115,116]⟩,11,0,0,0,0,0,0,0,false⟩,
 ⟨⟨#[116,117,114,110]⟩,1,2,0,0,0,0,0,0,false⟩,
 ⟨⟨#[98,121]⟩,0,0,0,0,0,0,0,0,false⟩,
 ⟨⟨#[111,117,116]⟩,14,0,0,40,0,0,0,0,false⟩,
 ⟨⟨#[105,110,116,101,114,112]⟩,0,0,0,0,0,0,1,0,false⟩,
 ⟨⟨#[110,117,109,101,114,105,99]⟩,13,13,0,2,1,0,0,0,false⟩,
 ⟨⟨#[112,97,114,115,101]⟩,8,14,13,0,6,1,0,0,false⟩,
 ⟨⟨#[112,117,115,104]⟩,0,0,0,0,0,0,1,0,false⟩,
 ⟨⟨#[113,117,101,117,101]⟩,0,0,0,0,0,0,1,0,false⟩,
 ⟨⟨#[115,97,121]⟩,0,0,0,0,0,0,1,0,false⟩,
 ⟨⟨#[101,120,105,116]⟩,13,0,0,1,0,0,0,0,true⟩,
 ⟨⟨#[114,101,116]⟩,13,0,0,1,0,0,0,0,true⟩,
 ⟨⟨#[115,105,103,110,97,108]⟩,2,0,0,0,0,0,0,0,true⟩,
 ⟨⟨#[115,105,103,118,97,108]⟩,0,0,0,0,0,0,1,0,true⟩,
 ⟨⟨#[116,114,97,99,101]⟩,2,0,0,0,0,0,0,0,false⟩,
 ⟨⟨#[114,97,105,115,101]⟩,14,0,0,99,0,0,0,0,true⟩,
 ⟨⟨#[101,110,100]⟩,0,0,0,0,0,0,0,0,true⟩]
def El.row:El RowM where
 size:=10
 rel:=fun _ cs x=>cs = x.cells
 mono:=fun h _=>h
 len:=fun h=>by rw [h]; rfl
 pos:=by decide
theorem oW {z:Z} {w:World}:Fn1 54 #[] z w fun z' r=>∃ b,r = .slice (some ⟨b,0,none⟩) 47 47/\SlR El.row z' r rowL:=Fn1.intro fun hS=>en54 (by
 unfold vc54;(repeat (refine aA ?_));refine ap AQ ?_;rintro z1 w1 v1 hz1 hS1 ⟨a1,c1,rfl⟩
 clear hS;(repeat (refine aA ?_));refine ap CD ?_;rintro z2 w2 v2 hz2 hS2 ⟨a2,c2,rfl⟩
 clear hS1;(repeat (refine aA ?_));refine je (t:=109) (e:=108) (size:=10) rfl (by omega) ?_;intro b w3 hb hS3;have hS4:Res w z [] w3 z2 ((b,.cells (rowL.flatMap RowM.cells).toArray 108 (0,0)) :: []):=hS3;have hlen:(rowL.flatMap RowM.cells).length = 47 * 10:=by decide +kernel
 have hl:rowL.length = 47:=by decide +kernel
 obtain ⟨z5,hz5,hS5,hv⟩:=Res.freezeSl (E:=El.row) (e:=108) (B:=[(b,_)]) (L:=[]) (v:=.slice (some ⟨b,0,none⟩) rowL.length 47) (xs:=rowL) (f:=RowM.cells) hS4 ⟨by rw [hlen,hl]; rfl,.inr ⟨b,47,[],by rw [append_nil],rfl,by rw [hl]; omega,by simp only [maxLen]; omega,by rw [append_nil,hlen]; rfl⟩⟩ (by rw [hl]; simp only [big]; omega) (fun _=>rfl) (fun z x hx=>rfl);rw [hl] at hv;exact ⟨_,_,hS5,b,rfl,hv⟩)
def bM (n:Int):RowM:=if cO n then rowL.getD n.toNat nw else nw
theorem sJ {n:Int} (h:cO n = true):rowL[n.toNat]? = some (bM n):=by
 have h0:=h;simp only [cO,Bool.and_eq_true,decide_eq_true_eq] at h;have hl:n.toNat < rowL.length:=by
   have:rowL.length = 47:=by decide +kernel
   omega
 unfold bM;rw [getElem?_eq_getElem hl,if_pos h0,getD_eq_getElem?_getD,getElem?_eq_getElem hl]; rfl
instance {i:InsM}:Pu 58 #[i.v] (.tuple #[(bM i.op).v,.bool (cO i.op)]):=⟨fun z w=>Fn1.intro fun hS=>en58 (by
 unfold vc58;dsimp only [InsM.v,InsM.cells];(repeat (first | refine aA ?_ | refine aE ?_ | (refine aP ?_; intro _ _ _ _) | (refine aN ?_; intro _ _ _ _)));refine aU (fun h=>?_) (fun h=>?_)
 ·have hb:cO i.op = false:=h
  (repeat (first | refine aA ?_ | (refine aF ?_; intro _ _) | refine aq ?_));exact ⟨_,_,‹_›,by rw [hb,bM,hb]; rfl⟩
 ·have hb:cO i.op = true:=h
  have hb':=hb;simp only [cO,Bool.and_eq_true,decide_eq_true_eq] at hb';(repeat (first | (refine iDr ?_; intro _ _) | refine aK ?_ | refine aW ?_));rename_i hS5;refine ap oW ?_;rintro z6 w6 v6 hz6 hS6 ⟨b,rfl,hv⟩
  clear hS5;haveI:InR i.op (47:Nat):=⟨by omega,by omega⟩
  obtain ⟨cs,hr,hat⟩:=hv.get (sJ hb)
  cases hr
  (repeat (first | refine aK ?_ | refine bN ?_));refine wf (n:=10) (by simpa [El.row] using hat) rfl ?_;(repeat (first | (refine aF ?_; intro _ _) | refine aq ?_));exact ⟨_,_,‹_›,by rw [hb]⟩)⟩
def eJ:List Int->Nat
 | []=>0
 | x :: l=>if x = 0 then 0 else eJ l + 1
def lI (l:List Int) (n i:Nat):Bool:=(decide (n <= i) && decide (l.getD i 0 ≠ 0)) || (decide (i < n) && (List.range i).any fun j=>decide (l.getD i 0 = l.getD j 0))
def jK (b:Int):Int:=
 if inB b 0 63 = true then
  let l:=[b.tmod 4,(b.tdiv 4).tmod 4,b.tdiv 16]
  if (List.range 3).any (lI l (eJ l)) then -1 else (eJ l:Nat)
 else -1
theorem vM (b:Int):jK b = dt b:=by
 by_cases h:0 <= b/\b <= 63
 ·have hf:∀ k:Fin 64,jK ((k.val:Nat):Int) = dt ((k.val:Nat):Int):=by decide +kernel
  have:=hf ⟨b.toNat,by omega⟩;rw [show ((b.toNat:Nat):Int) = b by omega] at this;exact this
 ·have h1:inB b 0 63 = false:=by unfold inB; by_cases h2:0 <= b <;> simp [h2] <;> omega
  rw [jK,h1,dt,if_neg (by simp),if_neg (by omega)]
theorem nr:∀ (l:List Int) (i:Nat),i < eJ l->l.getD i 0 ≠ 0
 | [],i,h=>by simp [eJ] at h
 | x :: l,i,h=>by
  unfold eJ at h
  split at h
  ·omega
  ·cases i with
   | zero=>simpa
   | succ i=>have:=nr l i (by omega); simpa using this
theorem lw:∀ (l:List Int),l.getD (eJ l) 0 = 0
 | []=>rfl
 | x :: l=>by
  unfold eJ
  split
  ·simpa
  ·have:=lw l; simpa using this
theorem pN:∀ (l:List Int),eJ l <= l.length
 | []=>Nat.le_refl _
 | x :: l=>by
  have:=pN l;unfold eJ
  split <;> simp only [length_cons] <;> omega
instance {b:Int}:Pu 60 #[.int .i64 b] (.int .i64 (dt b)):=⟨fun z w=>Fn1.intro fun hS=>en60 (by
 unfold vc60;rw [<- vM];(repeat (first | refine aA ?_ | (refine aN ?_; intro _ _ _ _)));refine aU (fun h=>?_) (fun h=>?_)
 ·exact ⟨_,_,‹_›,by rw [jK,h]; rfl⟩
 have h':=h;simp only [inB,Bool.and_eq_true,decide_eq_true_eq] at h';haveI:InI b:=⟨by omega⟩
 haveI:InR 0 (4:Int):=⟨by omega,by omega⟩
 haveI:InR 0 (16:Int):=⟨by omega,by omega⟩
 (repeat (refine aA ?_));rename_i z1 w1 hz1 hS1;refine kL [b.tmod 4,(b.tdiv 4).tmod 4,b.tdiv 16] rfl rfl (by omega) ?_;intro z2 w2 v2 hz2 hS2 hv2;clear hS hS1;have hT:jK b = if (List.range 3).any (lI [b.tmod 4,(b.tdiv 4).tmod 4,b.tdiv 16] (eJ [b.tmod 4,(b.tdiv 4).tmod 4,b.tdiv 16])) then -1 else ((eJ [b.tmod 4,(b.tdiv 4).tmod 4,b.tdiv 16]:Nat):Int):=by rw [jK,if_pos h]
 generalize hl:[b.tmod 4,(b.tdiv 4).tmod 4,b.tdiv 16] = l at hv2 hT ⊢;have hl3:l.length = 3:=by rw [<- hl]; rfl
 generalize jK b = res at hT ⊢;clear hl h h';obtain ⟨_,a,cap,rfl,hcap,hel⟩:=hv2.form;have hld:=pN l;rw [hl3] at hld;have hget:∀ i:Nat,i < 3->∃ bb off,a = some ⟨bb,off,none⟩/\At z2 bb (off + i * 1) [.int .i64 (l.getD i 0)]:=fun i hi=>by
  have hi':i < l.length:=by omega
  obtain ⟨bb,off,cs,ha,hr,hat⟩:=hel _ _ (getElem?_eq_getElem hi')
  cases hr
  rw [getD_eq_getElem?_getD,getElem?_eq_getElem hi'];exact ⟨bb,off,ha,hat⟩
 generalize hn:eJ l = n at hT hld;have hres1:∀ i,i < 3->lI l n i = true->res = -1:=fun i hi hb=>by rw [hT,if_pos (List.any_eq_true.2 ⟨i,List.mem_range.2 hi,hb⟩)]
 refine bG (fun (i:Nat) x=>x = .int .i64 i/\i <= n) (fun i=>3 - i) 0 ⟨rfl,Nat.zero_le _⟩ ?_;rintro I M i x w3 z3 m ⟨rfl,hi⟩ hz3 hS3 back
 clear hS2;refine aA ?_;intro K hK;have main:∀ q:Bool,(q = true ↔ i < n)->K [.bool q] w3:=by
  intro q hq;refine hK _ _ fun _=>?_
  clear hK
  cases q with
  | true=>
   have hin:=hq.1 rfl;haveI:InI ((i:Int) + 1):=⟨by omega⟩
   refine ah ?_;refine aA ?_;exact back (i + 1) _ _ _ ⟨by simp,by omega⟩ (Le.refl _) hS3 (by omega)
  | false=>
   have hin:i = n:=by
    have:¬ i < n:=fun e=>by have:=hq.2 e; cases this
    omega
   subst hin;clear back;refine aj ?_;refine bG (fun (k:Nat) x=>x = .int .i64 k/\k <= 3/\∀ k' < k,lI l i k' = false) (fun k=>3 - k) 0 ⟨rfl,Nat.zero_le _,fun k' hk=>by omega⟩ ?_;rintro I2 M2 k x w4 z4 m4 ⟨rfl,hk,hall⟩ hz4 hS4 back
   clear hS3;refine aA ?_;refine aC (fun h=>?_) (fun h=>?_)
   ·have hk3:k < 3:=by omega
    obtain ⟨bb,off,rfl,hat⟩:=hget k hk3;haveI:InR (k:Int) (l.length:Nat):=⟨by omega,by omega⟩
    haveI:InI ((k:Int) + 1):=⟨by omega⟩
    refine aA ?_;intro K2 hK2;have main2:∀ q:Bool,(q = true ↔ i <= k/\l.getD k 0 ≠ 0)->K2 [.bool q] w4:=by
     intro q hq;refine hK2 _ _ fun _=>?_
     clear hK2
     cases q with
     | true=>
      have hb:=hq.1 rfl;exact ah ⟨_,_,hS4,by rw [hres1 k hk3 (by unfold lI; rw [Bool.or_eq_true]; exact .inl (by simp only [Bool.and_eq_true,decide_eq_true_eq]; exact hb))]⟩
     | false=>
      have hnb:¬ (i <= k/\l.getD k 0 ≠ 0):=fun e=>by have:=hq.2 e; cases this
      refine aj ?_;refine bG (fun (j:Nat) x=>x = .int .i64 j/\j <= k/\(k < i->∀ j' < j,l.getD k 0 ≠ l.getD j' 0)) (fun j=>k - j) 0 ⟨rfl,Nat.zero_le _,fun _ j' hj=>by omega⟩ ?_;rintro I3 M3 j x w5 z5 m5 ⟨rfl,hj,hne⟩ hz5 hS5 back3
      clear hS4;refine aA ?_;intro K3 hK3;have main3:∀ q:Bool,(q = true ↔ j < k/\k < i)->K3 [.bool q] w5:=by
       intro q hq;refine hK3 _ _ fun _=>?_
       clear hK3
       cases q with
       | true=>
        obtain ⟨hjk,hki⟩:=hq.1 rfl;obtain ⟨bb',off',e',hat'⟩:=hget j (by omega)
        cases e'
        haveI:InR (j:Int) (l.length:Nat):=⟨by omega,by omega⟩
        haveI:InI ((j:Int) + 1):=⟨by omega⟩
        refine ah ?_;refine iDr ?_;intro w6 hS6;refine aK ?_;refine fh (hat.mono (hz3.trans (hz4.trans hz5))) ?_;refine aK ?_;refine fh (hat'.mono (hz3.trans (hz4.trans hz5))) ?_;refine aK ?_;refine aC (fun h6=>?_) (fun h6=>?_)
        ·exact ⟨_,_,hS6,by rw [hres1 k hk3 (by
          unfold lI;rw [Bool.or_eq_true];refine .inr ?_;rw [Bool.and_eq_true];exact ⟨decide_eq_true hki,List.any_eq_true.2 ⟨j,List.mem_range.2 hjk,decide_eq_true h6⟩⟩)]⟩
        ·refine aA ?_
         refine back3 (j + 1) _ _ _ ⟨by simp,by omega,fun hki j' hj'=>?_⟩ (Le.refl _) hS6 (by omega)
         rcases Nat.lt_or_eq_of_le (Nat.le_of_lt_succ hj') with hj' | hj'
         ·exact hne hki j' hj'
         ·subst hj'; exact h6
       | false=>
        have hx:¬ (j < k/\k < i):=fun e=>by have:=hq.2 e; cases this
        refine aj ?_;refine aA ?_;refine back (k + 1) _ _ _ ⟨by simp,by omega,fun k' hk'=>?_⟩ hz5 hS5 (by omega)
        rcases Nat.lt_or_eq_of_le (Nat.le_of_lt_succ hk') with hk' | hk'
        ·exact hall k' hk'
        ·subst hk'
         unfold lI;rw [Bool.or_eq_false_iff];refine ⟨by rw [<- Bool.not_eq_true,Bool.and_eq_true,decide_eq_true_eq,decide_eq_true_eq]; exact hnb,?_⟩
         by_cases hki:k' < i
         ·rw [<- Bool.not_eq_true,Bool.and_eq_true,any_eq_true]
          rintro ⟨_,j',hj',he⟩
          have hj'':=List.mem_range.1 hj';exact hne hki j' (by omega) (of_decide_eq_true he)
         ·rw [decide_eq_false hki]; rfl
      clear hK3 back3 back;refine aC (fun h5=>?_) (fun h5=>?_)
      ·refine aA ?_
       exact main3 _ (by rw [decide_eq_true_iff]; omega)
      ·exact main3 false (by simp; omega)
    clear hK2 back;refine aC (fun h5=>?_) (fun h5=>?_)
    ·refine aA ?_
     refine bL (hat.mono (hz3.trans hz4)) ?_;refine aA ?_;exact main2 _ (by
      have:i <= k:=by omega
      simp [this])
    ·exact main2 false (by simp; omega)
   ·refine ⟨_,_,hS4,?_⟩
    rw [hT,if_neg];rw [any_eq_true];rintro ⟨k',hk',hb⟩
    rw [hall k' (by have:=List.mem_range.1 hk'; omega)] at hb
    cases hb
 clear hK back;refine aC (fun h=>?_) (fun h=>?_)
 ·obtain ⟨bb,off,rfl,hat⟩:=hget i (by omega)
  haveI:InR (i:Int) (l.length:Nat):=⟨by omega,by omega⟩
  refine aA ?_;refine bL (hat.mono hz3) ?_;refine aA ?_;refine main _ ?_;simp only [Bool.not_eq_true',decide_eq_false_iff_not];constructor
  ·intro hne
   rcases Nat.lt_or_eq_of_le hi with e | e
   ·exact e
   ·exact absurd (by rw [e,<- hn]; exact lw l) hne
  ·intro e
   exact nr l i (by rw [hn]; exact e)
 ·exact main false (by simp; omega))⟩
abbrev DU (e:EffM):Value:=.agg [.int .i64 e.pops,.int .i64 e.pushes,.int .i64 e.e].toArray
theorem nD:∀ n:Int,(bM n).pops = (aG n).pops/\(bM n).pushes = (aG n).pushes/\(bM n).final = (aG n).final:=by
 intro n;unfold bM aG
 split
 ·have h:∀ k:Fin 47,(rowL.getD k.val nw).pops = (formL.getD k.val noForm).pops/\(rowL.getD k.val nw).pushes = (formL.getD k.val noForm).pushes/\(rowL.getD k.val nw).final = (formL.getD k.val noForm).final:=by decide +kernel
  have hk:n.toNat < 47:=by
   have:=‹cO n = true›
   unfold cO at this;simp at this;omega
  exact h ⟨n.toNat,hk⟩
 ·exact ⟨rfl,rfl,rfl⟩
theorem DL (n:Int):cW 16 n = inB n 0 10:=rfl
theorem CF (n:Int):cW 15 n = inB n 0 2:=rfl
theorem CG (n:Int):cW 14 n = inB n 0 1:=rfl
theorem DK (n:Int):cW 19 n = inB n 1 6:=rfl
theorem sP {i:InsM} (z:Z) (w:World):Fn1 18 #[i.v] z w fun _ v=>v = DU (dX i):=fnA en18 (by
 intro hS R hR;unfold vc18;dsimp only [InsM.v,InsM.cells];obtain ⟨hp,hq,_⟩:=nD i.op;haveI:InI (1 + dt i.b):=⟨by have:=jq i.b; omega⟩
 (repeat (first | refine aA ?_ | refine ae ?_ | (refine aP ?_; intro _ _ _ _) | (refine aF ?_; intro _ _) | (refine aN ?_; intro _ _ _ _)));rename_i b1 w1 hb1 hS1 b2 w2 hb2 hS2 z3 w3 hz3 hS3 b3 w4 hb3 hS4 w5 hS5;refine aU (fun h=>?_) (fun h=>?_)
 ·have hm:dX i = ⟨0,0,1⟩:=by rw [dX,h]; rfl
  rw [hm] at hR;(repeat (first | refine aA ?_ | (refine aF ?_; intro _ _) | refine aq ?_));exact cF hR rfl
 (repeat (first | refine aA ?_ | refine aE ?_ | (refine aP ?_; intro _ _ _ _) | (refine aF ?_; intro _ _)));rename_i b5 w6 hb5 hS6 w7 hS7;clear hS hS1 hS2 hS3 hS4 hS5 hS6;intro K hJ;have main:∀ (wr:Bool) (n:Int) z8 w8 (o3:Obj),Res w z [] w8 z8 [(b5,.cells [.int .i64 n,.int .i64 (aG i.op).pushes,.int .i64 0].toArray 42 (0,0)),(b3,o3),(b2,.cells [.int .i64 0,.int .i64 0,.int .i64 0].toArray 42 (0,0)),(b1,.cells [.int .i64 i.op,.int .i64 i.a,.int .i64 i.b,.int .i64 i.c].toArray 38 (0,0))]->wr = !cU i->(cU i = true->n = cA i)->K [.bool wr] w8:=by
  intro wr n z8 w8 o3 hS8 hwr hn;refine hJ _ _ fun _=>?_
  subst hwr;clear hJ hS7;refine aU (fun h'=>?_) (fun h'=>?_)
  ·have hm:dX i = ⟨0,0,1⟩:=by rw [dX,h']; cases cO i.op <;> rfl
   rw [hm] at hR;(repeat (first | refine aA ?_ | (refine aF ?_; intro _ _) | refine aq ?_));exact cF hR rfl
  ·have hm:dX i = ⟨n,(aG i.op).pushes,0⟩:=by rw [dX,h,h',hn h']; rfl
   rw [hm] at hR;(repeat (first | refine ae ?_ | (refine aF ?_; intro _ _) | refine aq ?_));exact cF hR rfl
 simp only [hp,hq] at hS7;clear hJ hR;(repeat (first | refine aA ?_ | refine aE ?_ | refine JB ?_));refine aO (fun h1=>?_) (fun h1=>?_)
 ·have h12:i.op = 12 \/ i.op = 21:=by by_cases e:i.op = 12 <;> simp [e] at h1 ⊢; exact h1
  (repeat (first | refine aA ?_ | refine aE ?_ | (refine aF ?_; intro _ _) | (refine aN ?_; intro _ _ _ _)));rename_i hSe;exact main _ _ _ _ _ hSe (by rw [cU,if_pos h12,DL]) (fun _=>by rw [cA,if_pos h12])
 have h12:¬ (i.op = 12 \/ i.op = 21):=by by_cases e:i.op = 12 <;> simp [e] at h1 ⊢; exact h1
 (repeat (refine aA ?_));refine aC (fun h2=>?_) (fun h2=>?_)
 ·have hf0:(aG i.op).pops = 0:=by rw [h2]; decide +kernel
  have he:cU i = inB i.a 0 2:=by rw [cU,if_neg h12,if_pos h2,CF]
  have hpp:cA i = IntKind.i64.wrap (i.a.tdiv 2):=by rw [cA,if_neg h12,if_pos h2]
  (repeat (first | refine aA ?_ | refine aE ?_ | (refine aN ?_; intro _ _ _ _)));refine aC (fun h3=>?_) (fun h3=>?_)
  ·(repeat (first | refine aA ?_ | (refine aF ?_; intro _ _)))
   rename_i hSe;exact main _ _ _ _ _ hSe (by rw [he]) (fun _=>by rw [hpp,h3]; decide +kernel)
  ·skip
   rename_i hSe;exact main _ _ _ _ _ hSe (by rw [he]) (fun e=>by
    rw [he,inB_iff] at e;rw [hpp,hf0];have:i.a = 0 \/ i.a = 1:=by omega
    rcases this with e | e <;> rw [e] <;> decide +kernel)
 (repeat (refine aA ?_));refine aC (fun h3=>?_) (fun h3=>?_)
 ·(repeat (first | refine aA ?_ | refine aE ?_ | (refine aF ?_; intro _ _) | (refine aN ?_; intro _ _ _ _)))
  rename_i hSe;exact main _ _ _ _ _ hSe (by rw [cU,if_neg h12,if_neg h2,if_pos h3]; by_cases e:dt i.b < 0 <;> simp [e] <;> omega) (fun _=>by rw [cA,if_neg h12,if_neg h2,if_pos h3])
 (repeat (refine aA ?_));refine aC (fun h4=>?_) (fun h4=>?_)
 ·have he:cU i = (inB i.a 0 2 && inB i.b 0 1):=by rw [cU,if_neg h12,if_neg h2,if_neg h3,if_pos h4,CF,CG]
  have hpp:cA i = if i.a < 2 then i.b else (aG i.op).pops:=by rw [cA,if_neg h12,if_neg h2,if_neg h3,if_pos h4]
  (repeat (first | refine aA ?_ | refine aE ?_ | (refine JC ?_; intro _ _ _ _) | (refine aN ?_; intro _ _ _ _)));refine aC (fun h5=>?_) (fun h5=>?_)
  ·(repeat (first | refine aA ?_ | refine aE ?_ | (refine aF ?_; intro _ _)))
   rename_i hSe;exact main _ _ _ _ _ hSe (by rw [he]; cases inB i.a 0 2 <;> rfl) (fun _=>by rw [hpp,if_pos h5])
  ·exact main _ _ _ _ _ (by assumption) (by rw [he]; cases inB i.a 0 2 <;> rfl) (fun _=>by rw [hpp,if_neg h5])
 (repeat (refine aA ?_));refine aC (fun h5=>?_) (fun h5=>?_)
 ·have he:cU i = inB i.b 1 6:=by rw [cU,if_neg h12,if_neg h2,if_neg h3,if_neg h4,if_pos h5,DK]
  have hpp:cA i = if i.b = 6 then 1 else (aG i.op).pops:=by rw [cA,if_neg h12,if_neg h2,if_neg h3,if_neg h4,if_pos h5]
  (repeat (first | refine aA ?_ | refine aE ?_ | (refine aN ?_; intro _ _ _ _)));refine aC (fun h6=>?_) (fun h6=>?_)
  ·(repeat (first | refine aA ?_ | (refine aF ?_; intro _ _)))
   rename_i hSe;exact main _ _ _ _ _ hSe (by rw [he]) (fun _=>by rw [hpp,if_pos h6])
  ·skip
   rename_i hSe;exact main _ _ _ _ _ hSe (by rw [he]) (fun _=>by rw [hpp,if_neg h6])
 (repeat (refine JB ?_));refine aO (fun h6=>?_) (fun h6=>?_)
 ·have h46:i.op = 40 \/ i.op = 41:=by by_cases e:i.op = 40 <;> simp [e] at h6 ⊢; exact h6
  (repeat (first | refine aA ?_ | refine aE ?_ | (refine aF ?_; intro _ _) | (refine aN ?_; intro _ _ _ _)));rename_i hSe;exact main _ _ _ _ _ hSe (by rw [cU,if_neg h12,if_neg h2,if_neg h3,if_neg h4,if_neg h5,if_pos h46,CG]) (fun _=>by rw [cA,if_neg h12,if_neg h2,if_neg h3,if_neg h4,if_neg h5,if_pos h46])
 ·have h46:¬ (i.op = 40 \/ i.op = 41):=by by_cases e:i.op = 40 <;> simp [e] at h6 ⊢; exact h6
  skip
  exact main _ _ _ _ _ hS7 (by rw [cU,if_neg h12,if_neg h2,if_neg h3,if_neg h4,if_neg h5,if_neg h46]; rfl) (fun _=>by rw [cA,if_neg h12,if_neg h2,if_neg h3,if_neg h4,if_neg h5,if_neg h46]))
end
end Go.Proofs.YtbeelfopmkbllaaGreatDoor
