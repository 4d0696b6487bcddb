/- Texts joined: C29, C30, C31, C32, C33, C34, C35, C36, C37, C38, C39, C40, C41, C42, C43, C44, C51, C52, C54, C55, C45, C46, C48, C49, C53, C56, C57, C58, C59, C60, C61, C62, C63, C77, C78. -/
import Derived.Test.YtbeelfopmkbllaaGreatDoorM4
import Derived.Shelf.Strconv.Itoa3
import Derived.Shelf.LaysM
import Derived.Lib.ItoaLen
set_option linter.unusedSimpArgs false
set_option linter.unusedVariables false
set_option linter.unusedSectionVars false
set_option maxRecDepth 20000
set_option synthInstance.maxHeartbeats 4000000
set_option synthInstance.maxSize 20000
set_option maxHeartbeats 2000000
namespace Go.Proofs.YtbeelfopmkbllaaGreatDoor
section
open Go Q Go.RowKit
def vcTd (R:Value->World->Prop) (w:World) (t1 t2 t8 t9 t205a:Value):Prop:=
(V (fa 28 t1 3) w fun t178 w=>V (ld 25 t178) w fun t179 w=>V (Builtin.len_ #[25] 3 #[t179]) w fun t180 w=>∃ (I4:List Value->World->Prop) (M4:List Value->World->Nat),I4 [(.int .i64 0)] w/\∀ g:Env,∀ t181,∀ w,I4 [t181] w->∀ m4,m4 = M4 [t181] w ->
 V (bi .lss 3 t181 t180) w fun t182 w=>CondW t182
 (V (ia 25 t179 t181) w fun t183 w=>V (ld 54 t183) w fun t184 w=>V (al 54) w fun t27 w=>U (st 54 t27 t184) w fun w=>Dr w fun w=>PV (fa 28 t9 3) fun t185=>HV (ld 25 t185) w fun t186=>PV (fa 54 t27 0) fun t187=>HV (ld 9 t187) w fun t188=>HV (ld 45 t8) w fun t189=>PV (fa 54 t27 1) fun t190=>HV (ld 3 t190) w fun t191=>PV (ia 45 t189 t191) fun t192=>HV (ld 3 t192) w fun t193=>PV (bd 54 #[(0,t188),(1,t193)]) fun t194=>V (bs 25 1 #[(0,t194)]) w fun t195 w=>RunIs (ld 3 t192) w t193/\RunIs (ld 3 t190) w t191/\RunIs (ld 45 t8) w t189/\RunIs (ld 9 t187) w t188/\RunIs (ld 25 t185) w t186/\(V (Builtin.append_ #[25,25] 25 #[t186,t195]) w fun t196 w=>RunIs (ld 3 t192) w t193/\RunIs (ld 3 t190) w t191/\RunIs (ld 45 t8) w t189/\RunIs (ld 9 t187) w t188/\(PV (fa 28 t9 3) fun t197=>U (st 25 t197 t196) w fun w=>V (bi .add 3 t181 (.int .i64 1)) w fun t198 w=>
 I4 [t198] w/\M4 [t198] w < m4)))
 (V (fa 28 t1 4) w fun t199 w=>V (ld 22 t199) w fun t200 w=>CV (.func (.func 69) #[] #[]) #[t200] w fun t201 w=>V (fa 28 t9 4) w fun t202 w=>U (st 22 t202 t201) w fun w=>Dr w fun w=>HV (ld 28 t9) w fun t203=>HV (ld 45 t8) w fun t204=>U (st 28 t2 t203) w fun w=>RunIs (ld 45 t8) w t204/\(TakeW (marks t205a) w fun w=>CW 28 t2 w fun t1002=>R (.tuple #[t1002,t204,(.int .i64 0)]) w)))
def vcTc (R:Value->World->Prop) (w:World) (t1 t2 t8 t9 t205a:Value):Prop:=
(V (fa 28 t9 1) w fun t144 w=>V (ld 23 t144) w fun t145 w=>V (Builtin.len_ #[23] 3 #[t145]) w fun t146 w=>∃ (I2:List Value->World->Prop) (M2:List Value->World->Nat),I2 [(.int .i64 0)] w/\∀ g:Env,∀ t147,∀ w,I2 [t147] w->∀ m2,m2 = M2 [t147] w ->
 V (bi .lss 3 t147 t146) w fun t148 w=>CondW t148
 (Dr w fun w=>PV (fa 28 t9 1) fun t150=>HV (ld 23 t150) w fun t151=>PV (fa 28 t9 1) fun t153=>HV (ld 23 t153) w fun t154=>PV (ia 23 t154 t147) fun t156=>HV (ld 93 t156) w fun t157=>CV (.func (.func 67) #[] #[]) #[t157] w fun t158 w=>RunIs (ld 23 t153) w t154/\RunIs (ld 23 t150) w t151/\(PV (ia 23 t151 t147) fun t159=>U (st 93 t159 t158) w fun w=>V (bi .add 3 t147 (.int .i64 1)) w fun t160 w=>
 I2 [t160] w/\M2 [t160] w < m2))
 (V (fa 28 t9 2) w fun t161 w=>V (ld 24 t161) w fun t162 w=>V (Builtin.len_ #[24] 3 #[t162]) w fun t163 w=>∃ (I3:List Value->World->Prop) (M3:List Value->World->Nat),I3 [(.int .i64 0)] w/\∀ g:Env,∀ t164,∀ w,I3 [t164] w->∀ m3,m3 = M3 [t164] w ->
 V (bi .lss 3 t164 t163) w fun t165 w=>CondW t165
 (Dr w fun w=>PV (fa 28 t9 2) fun t167=>HV (ld 24 t167) w fun t168=>PV (fa 28 t9 2) fun t170=>HV (ld 24 t170) w fun t171=>PV (ia 24 t171 t164) fun t173=>HV (ld 96 t173) w fun t174=>CV (.func (.func 68) #[] #[]) #[t174] w fun t175 w=>RunIs (ld 24 t170) w t171/\RunIs (ld 24 t167) w t168/\(PV (ia 24 t168 t164) fun t176=>U (st 96 t176 t175) w fun w=>V (bi .add 3 t164 (.int .i64 1)) w fun t177 w=>
 I3 [t177] w/\M3 [t177] w < m3))
 (vcTd R w t1 t2 t8 t9 t205a)))
def vcTb (R:Value->World->Prop) (w:World) (t1 t2 t8 t9 t10 t205:Value):Prop:=
(V (al 124) w fun t16 w=>V (al 124) w fun t17 w=>V (al 124) w fun t18 w=>V (fa 28 t1 0) w fun t89 w=>V (ld 22 t89) w fun t90 w=>V (fa 117 t10 0) w fun t91 w=>V (ld 115 t91) w fun t92 w=>CV (.func (.func 63) #[] #[]) #[t90,t92] w fun t93 w=>V (ex t93 0) w fun t94 w=>V (ex t93 1) w fun t95 w=>V (fa 28 t9 0) w fun t96 w=>U (st 22 t96 t94) w fun w=>U (st 124 t16 t95) w fun w=>V (fa 28 t1 1) w fun t98 w=>V (ld 23 t98) w fun t99 w=>V (fa 117 t10 1) w fun t100 w=>V (ld 115 t100) w fun t101 w=>CV (.func (.func 64) #[] #[]) #[t99,t101] w fun t102 w=>V (ex t102 0) w fun t103 w=>V (ex t102 1) w fun t104 w=>V (fa 28 t9 1) w fun t105 w=>U (st 23 t105 t103) w fun w=>U (st 124 t17 t104) w fun w=>V (fa 28 t1 2) w fun t107 w=>V (ld 24 t107) w fun t108 w=>V (fa 117 t10 2) w fun t109 w=>V (ld 115 t109) w fun t110 w=>CV (.func (.func 65) #[] #[]) #[t108,t110] w fun t111 w=>V (ex t111 0) w fun t112 w=>V (ex t111 1) w fun t113 w=>V (fa 28 t9 2) w fun t114 w=>U (st 24 t114 t112) w fun w=>U (st 124 t18 t113) w fun w=>V (al 131) w fun t19 w=>U (st 131 t19 (.func (.func 66) #[] #[t8,t17,t18,t10,t16])) w fun w=>V (fa 28 t9 5) w fun t116 w=>V (ld 26 t116) w fun t117 w=>V (Builtin.len_ #[26] 3 #[t117]) w fun t118 w=>∃ (I1:List Value->World->Prop) (M1:List Value->World->Nat),I1 [t205,(.int .i64 0)] w/\∀ g:Env,∀ t205a,∀ t119,∀ w,I1 [t205a,t119] w->∀ m1,m1 = M1 [t205a,t119] w ->
 V (bi .lss 3 t119 t118) w fun t120 w=>CondW t120
 (V (fa 28 t9 5) w fun t122 w=>V (ld 26 t122) w fun t123 w=>V (ia 26 t123 t119) w fun t125 w=>V (ld 38 t125) w fun t126 w=>V (al 38) w fun t21 w=>U (st 38 t21 t126) w fun w=>CV (.func (.func 61) #[] #[]) #[t21] w fun t127 w=>∀ (lp0:Loop) (r0 l0:Nat) (w1:World),NewRF w w1 r0 l0 lp0 ->
 (∀ (w:World) (Kl0:Value->World->Prop),∀ t128,∀ t129,(BeginW l0 lp0 w fun w=>Dr w fun w=>HV (ld 131 t19) w fun t131=>NilW t129 fun t134=>HV (ld 3 t134) w fun t135=>CV t131 #[t128,t135] w fun t136 w=>NilW t129 fun t137=>U (st 3 t137 t136) w fun w=>
 EndW l0 lp0 none w Kl0)->w.heap[l0]? = some (lobj lp0 .ready none)->CV (.func (.yield l0) #[] #[]) #[t128,t129] w Kl0) ->
 CE t127 #[.func (.yield l0) #[] #[]] w1 fun _ w=>RfEnd l0 lp0 w (fun w=>V (fa 28 t9 5) w fun t138 w=>V (ld 26 t138) w fun t139 w=>V (ld 38 t21) w fun t141 w=>V (ia 26 t139 t119) w fun t142 w=>U (st 38 t142 t141) w fun w=>V (bi .add 3 t119 (.int .i64 1)) w fun t143 w=>
 I1 [(.iface r0 t205a),t143] w/\M1 [(.iface r0 t205a),t143] w < m1) (fun w=>
 TakeW (marks (.iface r0 t205a)) w fun w=>CW 28 t2 w fun t1002=>R (.tuple #[t1002,(.slice none 0 0),(.int .i64 0)]) w) [])
 (vcTc R w t1 t2 t8 t9 t205a))
end
section
open Go Q Go.RowKit
def TrimR (z:Z) (r:Value) (c:CodeM):Prop:=∃ cv av,r = .tuple #[cv,av,.int .i64 (checkM c).1]/\CodeR z cv (trimM c)/\SlR El.int z av (trimAt c)
abbrev nilS:Value:=.slice none 0 0
def newLab (c:CodeM) (s:SpotM):SpotM:=⟨s.name,(atM c).getD s.at_.toNat 0⟩
theorem trimD {R:Value->World->Prop} {z:Z} {w:World} {c:CodeM} {bc b2 b8 b9:Nat} {x vat v1 v2 v3 v6:Value} {rs:List Nat} {a1 a2 a3 a4 a5 a6:Option Addr} {k1 k2 k3 k4 k5 k6:Nat}
  (hS:Res w z ((b9,.cells [v1,v2,v3,nilS,nilS,v6].toArray 28 (0,0)) :: (b2,.cells [nilS,nilS,nilS,nilS,nilS,nilS].toArray 28 (0,0)) :: markB rs) w z ((b9,.cells [v1,v2,v3,nilS,nilS,v6].toArray 28 (0,0)) :: (b2,.cells [nilS,nilS,nilS,nilS,nilS,nilS].toArray 28 (0,0)) :: markB rs))
  (hR:∀ z' w' L' r,Res w z ((b9,.cells [v1,v2,v3,nilS,nilS,v6].toArray 28 (0,0)) :: (b2,.cells [nilS,nilS,nilS,nilS,nilS,nilS].toArray 28 (0,0)) :: markB rs) w' z' L'->TrimR z' r c->R r w') (hmx:marks x = rs) (hck:(checkM c).1 = 0)
  (hatc:At z bc 0 (codeVs a1 a2 a3 a4 a5 a6 k1 k2 k3 k4 k5 k6 c)) (h4:SlR El.spot z (.slice a4 c.labels.length k4) c.labels) (h5:SlR El.str z (.slice a5 c.slots.length k5) c.slots)
  (hat8:At z b8 0 [vat]) (hvat:SlR El.int z vat (atM c)) (g1:SlR El.str z v1 (trimOk c).consts) (g2:SlR (El.sl El.part) z v2 (trimOk c).tmpls) (g3:SlR (El.sl El.item) z v3 (trimOk c).lists) (g6:SlR El.ins z v6 (trimOk c).ins) :
  vcTd R w (.pointer (some ⟨bc,0,none⟩)) (.pointer (some ⟨b2,0,none⟩)) (.pointer (some ⟨b8,0,none⟩)) (.pointer (some ⟨b9,0,none⟩)) x:=by
 obtain ⟨e0,hli,hpa,hri,_,_⟩:=check_ok hck;have hbd:=limits_bd hli;have hlab:=labels_in hpa;obtain ⟨_,av1,cv1,rfl,_,_⟩:=g1.form;obtain ⟨_,av2,cv2,rfl,_,_⟩:=g2.form;obtain ⟨_,av3,cv3,rfl,_,_⟩:=g3.form;obtain ⟨_,av6,cv6,rfl,_,_⟩:=g6.form;obtain ⟨_,at_,ct,rfl,_,helt⟩:=hvat.form;have hatl:(atM c).length = c.ins.length:=by simp [atM]
 unfold vcTd;haveI:Fz z bc 3 [.slice a4 c.labels.length k4]:=⟨hatc.fld (i:=3) rfl rfl⟩
 haveI:Fz z bc 4 [.slice a5 c.slots.length k5]:=⟨hatc.fld (i:=4) rfl rfl⟩
 haveI:Fz z b8 0 [.slice at_ (atM c).length ct]:=⟨hat8⟩
 (repeat (first | refine V_run ?_ | refine fV_ld1 ?_));refine LoopG1 (fun (k:Nat) y w'=>y = .int .i64 k/\k <= c.labels.length/\∃ vl Bl z',Le z z'/\OwnSl 54 2 Bl vl k ((c.labels.take k).flatMap fun s=>(newLab c s).cells)/\Res w z ((b9,.cells [.slice av1 (trimOk c).consts.length cv1,.slice av2 (trimOk c).tmpls.length cv2,.slice av3 (trimOk c).lists.length cv3,nilS,nilS,.slice av6 (trimOk c).ins.length cv6].toArray 28 (0,0)) :: (b2,.cells [nilS,nilS,nilS,nilS,nilS,nilS].toArray 28 (0,0)) :: markB rs) w' z' ((b9,.cells [.slice av1 (trimOk c).consts.length cv1,.slice av2 (trimOk c).tmpls.length cv2,.slice av3 (trimOk c).lists.length cv3,vl,nilS,.slice av6 (trimOk c).ins.length cv6].toArray 28 (0,0)) :: (b2,.cells [nilS,nilS,nilS,nilS,nilS,nilS].toArray 28 (0,0)) :: (Bl ++ markB rs))) (fun k=>c.labels.length - k) 0 ⟨rfl,by omega,nilS,[],z,Le.refl _,OwnSl.nil,hS⟩ ?_;rintro I M k y w1 m ⟨rfl,hk,vl,Bl,z1,hz1,ho,hS1⟩ back
 obtain ⟨avl,cvl,rfl,_⟩:=ho.form;obtain ⟨_,ai,ki,he,_,hel⟩:=h4.form
 cases he
 (repeat (refine V_run ?_));refine Cond_d (fun h=>?_) (fun h=>?_)
 ·have hlt:k < c.labels.length:=by omega
  haveI:InR (k:Int) (c.labels.length:Nat):=⟨by omega,by omega⟩
  haveI:InI ((k:Int) + 1):=⟨by omega⟩
  obtain ⟨b,off,cs,rfl,⟨rfl,hs⟩,hat⟩:=hel _ _ (List.getElem?_eq_getElem hlt);haveI:Fz z b (off + (k:Int).toNat * 2) (c.labels[k].cells):=⟨hat⟩
  have hin:=hlab _ (List.getElem_mem hlt);have hal:c.labels[k].at_.toNat < (atM c).length:=by omega
  haveI:InR c.labels[k].at_ ((atM c).length:Nat):=⟨by omega,by omega⟩
  obtain ⟨bt,offt,cst,rfl,rfl,hatt⟩:=helt _ _ (List.getElem?_eq_getElem hal);haveI:Fz z bt (offt + c.labels[k].at_.toNat * 1) [.int .i64 (atM c)[c.labels[k].at_.toNat]]:=⟨hatt⟩
  (repeat (first | (refine iDr ?_; intro _ _) | refine V_run ?_ | refine PV_run ?_ | (refine iV_bx ?_; intro _ _ _ _) | (refine iU_st ?_; intro _ _) | refine iHV_1 ?_ | refine fV_ldN ?_ | refine fHV_ld1 ?_));refine V_bs (parts:=[(0,_)]) rfl (by omega) ?_;intro bl w3 hbl hS3;(repeat (first | refine iRI_1 ?_ | refine fRI_1 ?_));have hatl2:At (hp w3) bl 0 (newLab c c.labels[k]).cells:=⟨_,_,_,(hS3.mem _ List.mem_cons_self).1,fun j u hu=>by
   have e:(atM c)[c.labels[k].at_.toNat] = (newLab c c.labels[k]).at_:=by rw [newLab,List.getD_eq_getElem?_getD,List.getElem?_eq_getElem hal]; rfl
   simp only [e];rw [Nat.zero_add];simp only [List.append_nil,List.getElem?_toArray];exact hu⟩
  refine V_app (B:=Bl) (m:=1) (hS3.bring Bl) ho hatl2 rfl (fun u hu=>by simp only [SpotM.cells,List.mem_cons,List.not_mem_nil,or_false] at hu; rcases hu with rfl | rfl <;> rfl) (by omega) (by simp only [room]; omega) (by simp only [room]; omega) ?_;intro B5 v5 w5 ho5 hS5;obtain ⟨a5',c5',rfl,_⟩:=ho5.form;clear hS3;(repeat (first | refine V_run ?_ | refine PV_run ?_ | (refine iU_st ?_; intro _ _) | refine iRI_1 ?_ | refine fRI_1 ?_));rename_i hS6;have hS7:=hS6.keep [.at b9,.at b2,.bl B5,.bl (markB rs)];rw [List.append_nil] at hS7;refine back (k + 1) _ _ ⟨by simp,by omega,_,B5,_,hz1,?_,hS7⟩ (by omega);rw [<- List.take_append_getElem hlt,List.flatMap_append]
  simpa using ho5
 ·have hk2:k = c.labels.length:=by omega
  subst hk2;rw [List.take_of_length_le (Nat.le_refl _)] at ho;(repeat (first | refine V_run ?_ | refine fV_ld1 ?_));rename_i hS2;refine CV_1 (cloneStrs (h5.mono hz1) (by omega)) ?_;rintro z3 w3 v5 hz3 hS3 hv5
  obtain ⟨_,a5',c5',rfl,_,_⟩:=hv5.form;clear hS2 hS1;(repeat (first | (refine iDr ?_; intro _ _) | refine V_run ?_ | (refine iU_st ?_; intro _ _) | refine iHV_N ?_ | refine fRI_1 ?_ | refine fHV_ld1 ?_));rename_i w4 hS4;rw [hmx];refine iTakes rs (hS4.bring (markB rs)) ?_;intro w6 hS6;(repeat (refine iHV_N ?_));have hS7:=hS6.bring Bl;obtain ⟨z8,hz8,hS8,hv4⟩:=Res.freezeSl (E:=El.spot) (e:=54) (xs:=c.labels.map (newLab c)) (f:=SpotM.cells) hS7 (by rw [List.flatMap_map,List.length_map]; exact ho) (by rw [List.length_map]; simp only [big]; omega) (fun _=>rfl) (fun z' s hm=>by
   obtain ⟨s',hm',rfl⟩:=List.mem_map.1 hm;obtain ⟨j,hj⟩:=List.mem_iff_getElem?.1 hm';obtain ⟨_,_,cs,_,⟨_,hsz⟩,_⟩:=hel j s' hj;exact ⟨rfl,hsz⟩)
  have hzz:Le z z8:=by (repeat (exact Res.zle (by assumption)))
  refine hR _ _ _ _ hS8 ⟨_,_,by rw [hck],⟨_,_,_,_,_,_,rfl,?_,?_,?_,?_,?_,?_⟩,?_⟩
  ·rw [trimM,if_pos hck]; exact g1.mono hzz
  ·rw [trimM,if_pos hck]; exact g2.mono hzz
  ·rw [trimM,if_pos hck]; exact g3.mono hzz
  ·rw [trimM,if_pos hck]; exact hv4
  ·rw [trimM,if_pos hck]; exact hv5.mono hz8
  ·rw [trimM,if_pos hck]; exact g6.mono hzz
  ·rw [trimAt,if_pos hck]; exact hvat.mono hzz
end
section
open Go Q Go.RowKit
theorem OwnSl.el {e n k:Nat} {B:Bl} {v:Value} {xs:List Value} (h:OwnSl e 1 B v n xs) (hk:k < n):∃ (b cap:Nat) (C:List Value),v = .slice (some ⟨b,0,none⟩) n cap/\B = [(b,.cells C.toArray e (0,0))]/\k < C.length/\C[k]? = xs[k]?/\∀ u,OwnSl e 1 [(b,.cells (C.set k u).toArray e (0,0))] v n (xs.set k u):=by
 rcases h.2 with ⟨_,_,h0⟩ | ⟨b,cap,sp,rfl,rfl,h1,h2,h3⟩
 ·omega
 ·have hxn:xs.length = n:=by have:=h.1; omega
  refine ⟨b,cap,xs ++ sp,rfl,rfl,by simp; omega,List.getElem?_append_left (by omega),fun u=>⟨by simp [hxn],.inr ⟨b,cap,sp,?_,rfl,h1,h2,by simp at h3 ⊢; omega⟩⟩⟩;rw [List.set_append_left _ _ (by omega)]
theorem KeptR.set {α:Type} {E:El α} {z:Z} {xs:List α} {ks:List Nat} {us:List Value} (h:KeptR E z xs ks us) {k i:Nat} {x:α} {u:Value} (hk:ks[k]? = some i) (hx:xs[i]? = some x) (hu:E.rel z [u] x) (h1:isOne u = true):KeptR E z xs ks (us.set k u) where
 len:=by rw [List.length_set]; exact h.len
 one:=fun v hv=>by
  rcases List.mem_or_eq_of_mem_set hv with hv | rfl
  ·exact h.one v hv
  ·exact h1
 at_:=fun j i' hj=>by
  by_cases e:k = j
  ·subst e
   rw [hk] at hj; cases hj;have hlt:k < us.length:=by rw [h.len]; exact (List.getElem?_eq_some_iff.1 hk).1
   exact ⟨u,x,by rw [List.getElem?_set_self hlt],hx,hu⟩
  ·obtain ⟨u',x',g1,g2,g3⟩:=h.at_ j i' hj
   exact ⟨u',x',by rw [List.getElem?_set_ne e]; exact g1,g2,g3⟩
theorem pickK_get {α:Type} {xs:List α}:∀ {ks:List Nat},(∀ i ∈ ks,i < xs.length)->(pickK xs ks).length = ks.length/\∀ j:Nat,(pickK xs ks)[j]? = (ks[j]?).bind fun i=>xs[i]?
 | [],_=>⟨rfl,fun j=>by simp [pickK]⟩
 | i :: ks,h=>by
  have hi:xs[i]? = some (xs[i]'(h i List.mem_cons_self)):=List.getElem?_eq_getElem _;have he:pickK xs (i :: ks) = xs[i]'(h i List.mem_cons_self) :: pickK xs ks:=by unfold pickK; rw [List.filterMap_cons,hi]
  obtain ⟨h1,h2⟩:=@pickK_get _ xs ks (fun j hj=>h j (List.mem_cons_of_mem _ hj));rw [he];refine ⟨by simp [h1],fun j=>?_⟩
  cases j with
  | zero=>simp [hi]
  | succ j=>simpa using h2 j
theorem freezeKept {α:Type} {E:El α} {w0 w:World} {z0 z:Z} {B0 B L:Bl} {e:Nat} {sl:Value} {xs:List α} {ks:List Nat} {us:List Value} (hE:E.size = 1) (hS:Res w0 z0 B0 w z (B ++ L)) (ho:OwnSl e 1 B sl ks.length us) (hk:KeptR E z xs ks us) (hb:ks.length <= big) :
  ∃ z',Le z z'/\Res w0 z0 B0 w z' L/\SlR E z' sl (pickK xs ks):=by
 have hin:∀ i ∈ ks,i < xs.length:=fun i hi=>by
  obtain ⟨j,hj⟩:=List.mem_iff_getElem?.1 hi;obtain ⟨u,x,_,g2,_⟩:=hk.at_ j i hj;exact (List.getElem?_eq_some_iff.1 g2).1
 obtain ⟨p1,p2⟩:=pickK_get hin
 rcases ho.2 with ⟨rfl,rfl,h0⟩ | ⟨b,cap,sp,rfl,rfl,h1,h2,h3⟩
 ·have:pickK xs ks = []:=List.eq_nil_of_length_eq_zero (by rw [p1]; exact h0)
  rw [this];exact ⟨z,Le.refl _,hS,SlR.nil⟩
 ·refine ⟨_,Res.freeze_le hS,Res.freeze hS,some ⟨b,0,none⟩,cap,by rw [p1],by rw [p1]; exact h1,by rw [p1]; exact hb,fun _=>⟨b,0,rfl,fun j x hx=>?_⟩⟩
  rw [p2] at hx
  cases hks:ks[j]? with
  | none=>rw [hks] at hx; cases hx
  | some i=>
   rw [hks] at hx;obtain ⟨u,x',g1,g2,g3⟩:=hk.at_ j i hks;have hxx:x' = x:=by rw [show (some i).bind (fun i=>xs[i]?) = xs[i]? from rfl,g2] at hx; exact Option.some.inj hx
   subst hxx;refine ⟨[u],E.mono g3 (Res.freeze_le hS),_,_,_,if_pos rfl,fun q v hv=>?_⟩;have hq:q = 0:=by have:=(List.getElem?_eq_some_iff.1 hv).1; simpa using this
   subst hq;simp only [List.getElem?_cons_zero,Option.some.injEq] at hv;subst hv;rw [hE];simp only [Nat.zero_add,Nat.mul_one,Nat.add_zero,List.getElem?_toArray];rw [List.getElem?_append_left (List.getElem?_eq_some_iff.1 g1).1];exact g1
theorem trimC {R:Value->World->Prop} {z:Z} {w:World} {c:CodeM} {bc b2 b8 b9:Nat} {x vat v1 v2 v3 v6:Value} {rs:List Nat} {B2 B3:Bl} {us2 us3:List Value} {a1 a2 a3 a4 a5 a6:Option Addr} {k1 k2 k3 k4 k5 k6:Nat}
  (hS:Res w z ((b9,.cells [v1,v2,v3,nilS,nilS,v6].toArray 28 (0,0)) :: (b2,.cells [nilS,nilS,nilS,nilS,nilS,nilS].toArray 28 (0,0)) :: (B2 ++ (B3 ++ markB rs))) w z ((b9,.cells [v1,v2,v3,nilS,nilS,v6].toArray 28 (0,0)) :: (b2,.cells [nilS,nilS,nilS,nilS,nilS,nilS].toArray 28 (0,0)) :: (B2 ++ (B3 ++ markB rs))))
  (hR:∀ z' w' L' r,Res w z ((b9,.cells [v1,v2,v3,nilS,nilS,v6].toArray 28 (0,0)) :: (b2,.cells [nilS,nilS,nilS,nilS,nilS,nilS].toArray 28 (0,0)) :: (B2 ++ (B3 ++ markB rs))) w' z' L'->TrimR z' r c->R r w') (hmx:marks x = rs) (hck:(checkM c).1 = 0)
  (hatc:At z bc 0 (codeVs a1 a2 a3 a4 a5 a6 k1 k2 k3 k4 k5 k6 c)) (h2:SlR (El.sl El.part) z (.slice a2 c.tmpls.length k2) c.tmpls) (h3:SlR (El.sl El.item) z (.slice a3 c.lists.length k3) c.lists) (hl2:∀ l ∈ c.tmpls,l.length <= 1000000) (hl3:∀ l ∈ c.lists,l.length <= 1000000)
  (h4:SlR El.spot z (.slice a4 c.labels.length k4) c.labels) (h5:SlR El.str z (.slice a5 c.slots.length k5) c.slots)
  (hat8:At z b8 0 [vat]) (hvat:SlR El.int z vat (atM c)) (g1:SlR El.str z v1 (trimOk c).consts)
  (o2:OwnSl 93 1 B2 v2 (keptI (usesM c).s2 c.tmpls.length).length us2) (q2:KeptR (El.sl El.part) z c.tmpls (keptI (usesM c).s2 c.tmpls.length) us2) (o3:OwnSl 96 1 B3 v3 (keptI (usesM c).s3 c.lists.length).length us3) (q3:KeptR (El.sl El.item) z c.lists (keptI (usesM c).s3 c.lists.length) us3)
  (g6:SlR El.ins z v6 (trimOk c).ins) :
  vcTc R w (.pointer (some ⟨bc,0,none⟩)) (.pointer (some ⟨b2,0,none⟩)) (.pointer (some ⟨b8,0,none⟩)) (.pointer (some ⟨b9,0,none⟩)) x:=by
 obtain ⟨e0,hli,hpa,hri,_,_⟩:=check_ok hck;have hbd:=limits_bd hli;have hn2:=@keptI_len (usesM c).s2 c.tmpls.length;have hn3:=@keptI_len (usesM c).s3 c.lists.length;obtain ⟨_,av1,cv1,rfl,_,_⟩:=g1.form;obtain ⟨av2,cv2,rfl,_⟩:=o2.form;obtain ⟨av3,cv3,rfl,_⟩:=o3.form;obtain ⟨_,av6,cv6,rfl,_,_⟩:=g6.form;generalize hks2:keptI (usesM c).s2 c.tmpls.length = ks2 at *;generalize hks3:keptI (usesM c).s3 c.lists.length = ks3 at *;unfold vcTc;generalize hLL:(b9,Obj.cells [Value.slice av1 (trimOk c).consts.length cv1,.slice av2 ks2.length cv2,.slice av3 ks3.length cv3,nilS,nilS,.slice av6 (trimOk c).ins.length cv6].toArray 28 (0,0)) :: (b2,.cells [nilS,nilS,nilS,nilS,nilS,nilS].toArray 28 (0,0)) :: (B2 ++ (B3 ++ markB rs)) = LL at hR;have hS0:Res w z LL w z ((b9,Obj.cells [Value.slice av1 (trimOk c).consts.length cv1,.slice av2 ks2.length cv2,.slice av3 ks3.length cv3,nilS,nilS,.slice av6 (trimOk c).ins.length cv6].toArray 28 (0,0)) :: (b2,.cells [nilS,nilS,nilS,nilS,nilS,nilS].toArray 28 (0,0)) :: (B2 ++ (B3 ++ markB rs))):=by rw [<- hLL]; exact hS
 clear hS hLL;(repeat (first | refine V_run ?_ | refine iV_ld1 ?_));refine LoopG1 (fun (k:Nat) y w'=>y = .int .i64 k/\k <= ks2.length/\∃ B us z',Le z z'/\OwnSl 93 1 B (.slice av2 ks2.length cv2) ks2.length us/\KeptR (El.sl El.part) z' c.tmpls ks2 us/\Res w z LL w' z' ((b9,Obj.cells [Value.slice av1 (trimOk c).consts.length cv1,.slice av2 ks2.length cv2,.slice av3 ks3.length cv3,nilS,nilS,.slice av6 (trimOk c).ins.length cv6].toArray 28 (0,0)) :: (b2,.cells [nilS,nilS,nilS,nilS,nilS,nilS].toArray 28 (0,0)) :: (B ++ (B3 ++ markB rs)))) (fun k=>ks2.length - k) 0 ⟨rfl,by omega,B2,us2,z,Le.refl _,o2,q2,hS0⟩ ?_;rintro I M k y w1 m ⟨rfl,hk,B,us,z1,hz1,ho,hq,hS1⟩ back
 clear hS0;(repeat (refine V_run ?_));refine Cond_d (fun h=>?_) (fun h=>?_)
 ·have hlt:k < ks2.length:=by omega
  obtain ⟨b,cap,C,hv,rfl,hkC,hCk,hset⟩:=ho.el hlt
  cases hv
  have hki:=List.getElem?_eq_getElem hlt;obtain ⟨u,l,hu,hl,v,hvv,hsl⟩:=hq.at_ k _ hki
  cases hvv
  obtain ⟨_,au,cu,rfl,_,_⟩:=hsl.form;haveI:InR (k:Int) (ks2.length:Nat):=⟨by omega,by omega⟩
  haveI:InI ((k:Int) + 1):=⟨by omega⟩
  have e1:(k:Int).toNat * 1 = k:=by omega
  haveI:Get C ((k:Int).toNat * 1) (.slice au l.length cu):=⟨by rw [e1,hCk]; exact hu⟩
  simp only [List.cons_append,List.nil_append] at hS1;(repeat (first | (refine iDr ?_; intro _ _) | refine PV_run ?_ | refine iHV_1 ?_));rename_i w2 hS2;refine CV_1 (cloneParts hsl (hl2 _ (List.mem_of_getElem? hl))) ?_;rintro z3 w3 v3 hz3 hS3 hv3
  obtain ⟨_,a3',c3',rfl,_,_⟩:=hv3.form;haveI:SetN C ((k:Int).toNat * 1) [.slice a3' l.length c3'] (C.set k (.slice a3' l.length c3')):=by rw [e1]; exact SetN.at_ hkC
  clear hS2 hS1;(repeat (first | refine V_run ?_ | refine PV_run ?_ | (refine iU_st ?_; intro _ _) | refine iRI_1 ?_));rename_i w4 hS4;exact back (k + 1) _ _ ⟨by simp,by omega,_,_,z3,hz1.trans hz3,hset _,(hq.mono hz3).set hki hl ⟨_,rfl,hv3⟩ rfl,hS4⟩ (by omega)
 clear back;obtain ⟨z2,hz2,hS2,hv2⟩:=freezeKept (E:=El.sl El.part) rfl (hS1.bring B) ho hq (by simp only [big]; omega);clear hS1;have hzz:=hz1.trans hz2;(repeat (first | refine V_run ?_ | refine iV_ld1 ?_));refine LoopG1 (fun (k:Nat) y w'=>y = .int .i64 k/\k <= ks3.length/\∃ B us z',Le z2 z'/\OwnSl 96 1 B (.slice av3 ks3.length cv3) ks3.length us/\KeptR (El.sl El.item) z' c.lists ks3 us/\Res w z LL w' z' ((b9,Obj.cells [Value.slice av1 (trimOk c).consts.length cv1,.slice av2 ks2.length cv2,.slice av3 ks3.length cv3,nilS,nilS,.slice av6 (trimOk c).ins.length cv6].toArray 28 (0,0)) :: (b2,.cells [nilS,nilS,nilS,nilS,nilS,nilS].toArray 28 (0,0)) :: (B ++ markB rs))) (fun k=>ks3.length - k) 0 ⟨rfl,by omega,B3,us3,z2,Le.refl _,o3,q3.mono hzz,hS2⟩ ?_;rintro I M k y w1 m ⟨rfl,hk,B,us,z3,hz3,ho,hq,hS1⟩ back
 clear hS2;(repeat (refine V_run ?_));refine Cond_d (fun h=>?_) (fun h=>?_)
 ·have hlt:k < ks3.length:=by omega
  obtain ⟨b,cap,C,hv,rfl,hkC,hCk,hset⟩:=ho.el hlt
  cases hv
  have hki:=List.getElem?_eq_getElem hlt;obtain ⟨u,l,hu,hl,v,hvv,hsl⟩:=hq.at_ k _ hki
  cases hvv
  obtain ⟨_,au,cu,rfl,_,_⟩:=hsl.form;haveI:InR (k:Int) (ks3.length:Nat):=⟨by omega,by omega⟩
  haveI:InI ((k:Int) + 1):=⟨by omega⟩
  have e1:(k:Int).toNat * 1 = k:=by omega
  haveI:Get C ((k:Int).toNat * 1) (.slice au l.length cu):=⟨by rw [e1,hCk]; exact hu⟩
  simp only [List.cons_append,List.nil_append] at hS1;(repeat (first | (refine iDr ?_; intro _ _) | refine PV_run ?_ | refine iHV_1 ?_));rename_i w2 hS2;refine CV_1 (cloneItems hsl (hl3 _ (List.mem_of_getElem? hl))) ?_;rintro z4 w3 v3 hz4 hS3 hv3
  obtain ⟨_,a3',c3',rfl,_,_⟩:=hv3.form;haveI:SetN C ((k:Int).toNat * 1) [.slice a3' l.length c3'] (C.set k (.slice a3' l.length c3')):=by rw [e1]; exact SetN.at_ hkC
  clear hS2 hS1;(repeat (first | refine V_run ?_ | refine PV_run ?_ | (refine iU_st ?_; intro _ _) | refine iRI_1 ?_));rename_i w4 hS4;exact back (k + 1) _ _ ⟨by simp,by omega,_,_,z4,hz3.trans hz4,hset _,(hq.mono hz4).set hki hl ⟨_,rfl,hv3⟩ rfl,hS4⟩ (by omega)
 obtain ⟨z4,hz4,hS4,hv3⟩:=freezeKept (E:=El.sl El.item) rfl (hS1.bring B) ho hq (by simp only [big]; omega);have hz24:=hz3.trans hz4;have hz04:=hzz.trans hz24;have p2:(pickK c.tmpls ks2).length = ks2.length:=(pickK_get (fun i hi=>by
  obtain ⟨j,hj⟩:=List.mem_iff_getElem?.1 hi;obtain ⟨u,x,_,g2,_⟩:=q2.at_ j i hj;exact (List.getElem?_eq_some_iff.1 g2).1)).1
 have t2:(trimOk c).tmpls = pickK c.tmpls ks2:=by rw [trimOk,hks2]
 have t3:(trimOk c).lists = pickK c.lists ks3:=by rw [trimOk,hks3]
 exact trimD hS4.self (fun z' w' L' r k hd=>hR z' w' L' r (hS4.comp k) hd) hmx hck (hatc.mono hz04) (h4.mono hz04) (h5.mono hz04) (hat8.mono hz04) (hvat.mono hz04) (g1.mono hz04) (by rw [t2]; exact hv2.mono hz24) (by rw [t3]; exact hv3) (g6.mono hz04)
end
section
open Go Q Go.RowKit
theorem zV_lkP {w0 w:World} {z0 z:Z} {B0 L:Bl} {K:Value->World->Prop} [hS:Res w0 z0 B0 w z L] {m k:Nat} {S:List Int} {l:List (Int × Value)} {n:Int} {zm:Z} (hm:zm m = some (mK (Value.int .i64) l)) (hl:∀ n,getK l n = posK S k n) (hz:Le zm z) (hk:K (.int .i64 (posM S k n)) w):V (lk 124 (.map (some m)) (.int .i64 n) false) w K:=by
 refine ⟨_,w,run_lkK (k:=3) (e:=3) (mk:=Value.int .i64) (zv:=.int .i64 0) (hS.sub _ _ (hz _ _ hm)) (fun _=>by kernel_rfl) false,?_⟩;rw [if_neg (by simp),hl,posK_get];exact hk
structure RenewZ (z:Z) (c:CodeM) (b8 b10 b16 b17 b18:Nat):Prop where
 h:∃ vat m1 m2 m3 p1 p2 p3 l1 l2 l3,At z b8 0 [vat]/\SlR El.int z vat (atM c)/\At z b10 0 [.map (some m1),.map (some m2),.map (some m3)] /\
  At z b16 0 [.map (some p1)]/\At z b17 0 [.map (some p2)]/\At z b18 0 [.map (some p3)]/\z p1 = some (mK (Value.int .i64) l1)/\z p2 = some (mK (Value.int .i64) l2)/\z p3 = some (mK (Value.int .i64) l3) /\
  (∀ n,getK l1 n = posK (usesM c).s1 c.consts.length n)/\(∀ n,getK l2 n = posK (usesM c).s2 c.tmpls.length n)/\(∀ n,getK l3 n = posK (usesM c).s3 c.lists.length n)
theorem RenewZ.mono {z z':Z} {c:CodeM} {b8 b10 b16 b17 b18:Nat} (h:RenewZ z c b8 b10 b16 b17 b18) (hz:Le z z'):RenewZ z' c b8 b10 b16 b17 b18:=by
 obtain ⟨vat,m1,m2,m3,p1,p2,p3,l1,l2,l3,h1,h2,h3,h4,h5,h6,h7,h8,h9,h10⟩:=h.h;exact ⟨vat,m1,m2,m3,p1,p2,p3,l1,l2,l3,h1.mono hz,h2.mono hz,h3.mono hz,h4.mono hz,h5.mono hz,h6.mono hz,hz _ _ h7,hz _ _ h8,hz _ _ h9,h10⟩
theorem renew_of {z:Z} {w:World} {c:CodeM} {b8 b10 b16 b17 b18:Nat} {kind n:Int} (h:RenewZ z c b8 b10 b16 b17 b18) (hk:kind = 13->0 <= n/\n < c.ins.length) :
  Va1 (.func (.func 66) #[] #[.pointer (some ⟨b8,0,none⟩),.pointer (some ⟨b17,0,none⟩),.pointer (some ⟨b18,0,none⟩),.pointer (some ⟨b10,0,none⟩),.pointer (some ⟨b16,0,none⟩)]) #[.int .i64 kind,.int .i64 n] z w fun _ r=>r = .int .i64 (renewM c kind n):=
 Fn1.va (args':=#[.int .i64 kind,.int .i64 n,.pointer (some ⟨b8,0,none⟩),.pointer (some ⟨b17,0,none⟩),.pointer (some ⟨b18,0,none⟩),.pointer (some ⟨b10,0,none⟩),.pointer (some ⟨b16,0,none⟩)]) (fnA en66 (by
  intro hS R hR;unfold vc66;obtain ⟨vat,m1,m2,m3,p1,p2,p3,l1,l2,l3,h1,h2,h3,h4,h5,h6,h7,h8,h9,q1,q2,q3⟩:=h.h;obtain ⟨_,at_,ct,rfl,_,hel⟩:=h2.form;haveI:Fz z b8 0 [.slice at_ (atM c).length ct]:=⟨h1⟩
  haveI:Fz z b10 0 [.map (some m1),.map (some m2),.map (some m3)]:=⟨h3⟩
  haveI:Fz z b16 0 [.map (some p1)]:=⟨h4⟩
  haveI:Fz z b17 0 [.map (some p2)]:=⟨h5⟩
  haveI:Fz z b18 0 [.map (some p3)]:=⟨h6⟩
  have hatl:(atM c).length = c.ins.length:=by simp [atM]
  (repeat (refine V_run ?_));refine Cond_d (fun e1=>?_) (fun e1=>?_)
  ·have hin:=hk e1
   have hlt:n.toNat < (atM c).length:=by omega
   haveI:InR n ((atM c).length:Nat):=⟨by omega,by omega⟩
   obtain ⟨b,off,cs,rfl,rfl,hat⟩:=hel _ _ (List.getElem?_eq_getElem hlt);haveI:Fz z b (off + n.toNat * 1) [.int .i64 (atM c)[n.toNat]]:=⟨hat⟩
   (repeat (first | refine V_run ?_ | refine fV_ld1 ?_));exact finW hR (by rw [renewM,if_pos e1,List.getD_eq_getElem?_getD,List.getElem?_eq_getElem hlt]; rfl)
  (repeat (refine V_run ?_));refine Cond_d (fun e2=>?_) (fun e2=>?_)
  ·(repeat (refine fV_ld1 ?_))
   refine zV_lkP h8 q2 (Le.refl _) ?_;exact finW hR (by rw [renewM,if_neg e1,if_pos e2])
  (repeat (refine JB ?_));refine Cond_b (fun e3=>?_) (fun e3=>?_)
  ·have e3':kind = 11 \/ kind = 12:=by by_cases e:kind = 11 <;> simp [e] at e3 ⊢; exact e3
   (repeat (refine fV_ld1 ?_));refine zV_lkP h9 q3 (Le.refl _) ?_;exact finW hR (by rw [renewM,if_neg e1,if_neg e2,if_pos e3'])
  ·have e3':¬ (kind = 11 \/ kind = 12):=by by_cases e:kind = 11 <;> simp [e] at e3 ⊢; exact e3
   (repeat (first | refine V_run ?_ | (refine CV_pu ?_; intro _ _ _ _) | refine fV_ldN ?_));rename_i z5 w5 hz5 hS5;have hof:(ofR kind m1 m2 m3).isSome = decide (clsM kind = 1):=by
    unfold ofR clsM;rw [if_neg e2,if_neg e3']
    split <;> simp
   rw [hof];refine Cond_d (fun e4=>?_) (fun e4=>?_)
   ·(repeat (refine fV_ld1 ?_))
    refine zV_lkP h7 q1 hz5 ?_;exact finW hR (by rw [renewM,if_neg e1,if_neg e2,if_neg e3',if_pos e4])
   ·exact finW hR (by rw [renewM,if_neg e1,if_neg e2,if_neg e3',if_neg e4]))) (by simp)
def OwnIns (B:Bl) (v:Value) (l:List InsM):Prop:=OwnSl 38 4 B v l.length (l.flatMap InsM.cells)
theorem insLen (l:List InsM):(l.flatMap InsM.cells).length = l.length * 4:=flat_len (f:=InsM.cells) (fun _=>rfl) l
theorem OwnIns.el {B:Bl} {v:Value} {l:List InsM} {k:Nat} (h:OwnIns B v l) (hk:k < l.length):∃ (b cap:Nat) (C:List Value),v = .slice (some ⟨b,0,none⟩) l.length cap/\B = [(b,.cells C.toArray 38 (0,0))]/\GetN C (k * 4) 4 l[k].cells /\
  ∀ i:InsM,∃ C',SetN C (k * 4) i.cells C'/\OwnIns [(b,.cells C'.toArray 38 (0,0))] v (l.set k i):=by
 rcases h.2 with ⟨_,_,h0⟩ | ⟨b,cap,sp,rfl,rfl,h1,h2,h3⟩
 ·omega
 ·have hs:l = l.take k ++ l[k] :: l.drop (k + 1):=by rw [<- List.drop_eq_getElem_cons hk,List.take_append_drop]
  have hl:((l.take k).flatMap InsM.cells).length = k * 4:=by rw [insLen,List.length_take]; omega
  have hf:l.flatMap InsM.cells ++ sp = (l.take k).flatMap InsM.cells ++ (l[k].cells ++ ((l.drop (k + 1)).flatMap InsM.cells ++ sp)):=by
   conv=>lhs; rw [hs]
   simp only [List.flatMap_append,List.flatMap_cons,List.append_assoc]
  refine ⟨b,cap,_,rfl,rfl,?_,fun i=>⟨(l.take k).flatMap InsM.cells ++ (i.cells ++ ((l.drop (k + 1)).flatMap InsM.cells ++ sp)),?_,?_⟩⟩
  ·rw [hf,<- hl]
   exact (inferInstance:GetN ((l.take k).flatMap InsM.cells ++ (Value.int .i64 l[k].op :: .int .i64 l[k].a :: .int .i64 l[k].b :: .int .i64 l[k].c :: ((l.drop (k + 1)).flatMap InsM.cells ++ sp))) ((l.take k).flatMap InsM.cells).length 4 [Value.int .i64 l[k].op,.int .i64 l[k].a,.int .i64 l[k].b,.int .i64 l[k].c])
  ·rw [hf,<- hl]
   exact (inferInstance:SetN ((l.take k).flatMap InsM.cells ++ (Value.int .i64 l[k].op :: .int .i64 l[k].a :: .int .i64 l[k].b :: .int .i64 l[k].c :: ((l.drop (k + 1)).flatMap InsM.cells ++ sp))) ((l.take k).flatMap InsM.cells).length [Value.int .i64 i.op,.int .i64 i.a,.int .i64 i.b,.int .i64 i.c] ((l.take k).flatMap InsM.cells ++ (Value.int .i64 i.op :: .int .i64 i.a :: .int .i64 i.b :: .int .i64 i.c :: ((l.drop (k + 1)).flatMap InsM.cells ++ sp))))
  ·have hset:l.set k i = l.take k ++ i :: l.drop (k + 1):=List.set_eq_take_append_cons_drop.trans (if_pos hk)
   unfold OwnIns;have hfl:(l.set k i).flatMap InsM.cells = (l.take k).flatMap InsM.cells ++ (i.cells ++ (l.drop (k + 1)).flatMap InsM.cells):=by rw [hset]; simp only [List.flatMap_append,List.flatMap_cons]
   refine ⟨insLen _,.inr ⟨b,cap,sp,?_,by rw [List.length_set],by rw [List.length_set]; exact h1,h2,?_⟩⟩
   ·rw [hfl]; simp only [List.append_assoc]
   ·rw [List.length_append,insLen,List.length_set]; rw [List.length_append,insLen] at h3; exact h3
end
section
open Go Q Go.RowKit
theorem setFld_op {i:InsM} {k n:Int}:(setFld i k n).op = i.op:=by unfold setFld; split <;> (try split) <;> rfl
theorem renewK_fld {c:CodeM} {i:InsM} {k j:Nat} (h:k <= j) (hj:j < 3):fldM (renewK c i k) j = fldM i j:=by
 induction k with
 | zero=>rfl
 | succ k ih=>
  rw [renewK_succ];have:fldM (setFld (renewK c i k) k (renewM c (kindM (renewK c i k) k) (fldM (renewK c i k) k))) j = fldM (renewK c i k) j:=by
   unfold fldM setFld;have:k = 0/\j = 1 \/ k = 0/\j = 2 \/ k = 1/\j = 2:=by omega
   rcases this with ⟨rfl,rfl⟩ | ⟨rfl,rfl⟩ | ⟨rfl,rfl⟩ <;> rfl
  rw [this,ih (by omega)]
theorem fld_cell {i:InsM} {k:Int} (h:k = 0 \/ k = 1 \/ k = 2):Get i.cells (k.toNat + 1) (.int .i64 (fldM i k)):=⟨by rcases h with rfl | rfl | rfl <;> rfl⟩
theorem fld_set {i:InsM} {k n:Int} (h:k = 0 \/ k = 1 \/ k = 2):SetN i.cells (k.toNat + 1) [.int .i64 n] (setFld i k n).cells:=by
 rcases h with rfl | rfl | rfl
 ·exact (inferInstance:SetN [Value.int .i64 i.op,.int .i64 i.a,.int .i64 i.b,.int .i64 i.c] 1 [.int .i64 n] [Value.int .i64 i.op,.int .i64 n,.int .i64 i.b,.int .i64 i.c])
 ·exact (inferInstance:SetN [Value.int .i64 i.op,.int .i64 i.a,.int .i64 i.b,.int .i64 i.c] 2 [.int .i64 n] [Value.int .i64 i.op,.int .i64 i.a,.int .i64 n,.int .i64 i.c])
 ·exact (inferInstance:SetN [Value.int .i64 i.op,.int .i64 i.a,.int .i64 i.b,.int .i64 i.c] 3 [.int .i64 n] [Value.int .i64 i.op,.int .i64 i.a,.int .i64 i.b,.int .i64 n])
theorem Res.frzO {w0 w:World} {z0 z:Z} {B0 L R:Bl} (b:Nat) {o:Obj} (h:Res w0 z0 B0 w z L) [g:BringB L b o R]:∃ z',Le z z'/\Res w0 z0 B0 w z' R/\z' b = some o:=
 ⟨_,(h.bringB b).freeze_le,(h.bringB b).freeze,if_pos rfl⟩
def renK (c:CodeM) (l:List InsM) (k:Nat):List InsM:=(l.take k).map (newIns c) ++ l.drop k
theorem renK_len {c:CodeM} {l:List InsM} {k:Nat} (h:k <= l.length):(renK c l k).length = l.length:=by simp [renK]; omega
theorem renK_get {c:CodeM} {l:List InsM} {k:Nat} (h:k < l.length) (h2:k < (renK c l k).length):(renK c l k)[k] = l[k]:=by
 have:(renK c l k)[k]? = some l[k]:=by
  unfold renK;rw [List.getElem?_append_right (by simp; omega)];simp [Nat.min_eq_left (Nat.le_of_lt h),List.getElem?_eq_getElem h]
 exact (List.getElem?_eq_some_iff.1 this).2
theorem renK_set {c:CodeM} {l:List InsM} {k:Nat} (h:k < l.length):(renK c l k).set k (newIns c l[k]) = renK c l (k + 1):=by
 unfold renK;have hl:((l.take k).map (newIns c)).length = k:=by simp; omega
 rw [List.set_append_right _ _ (by omega),hl,Nat.sub_self,List.drop_eq_getElem_cons h,List.set_cons_zero,<- List.take_append_getElem h,List.map_append,List.append_assoc]
 rfl
theorem trimB {R:Value->World->Prop} {z:Z} {w:World} {c:CodeM} {bc b2 b8 b9 b10 m1 m2 m3:Nat} {x vat vi:Value} {rs:List Nat} {Bi:Bl} {a1 a2 a3 a4 a5 a6:Option Addr} {k1 k2 k3 k4 k5 k6:Nat}
  (hS:Res w z ((b9,.cells [nilS,nilS,nilS,nilS,nilS,vi].toArray 28 (0,0)) :: (b2,.cells [nilS,nilS,nilS,nilS,nilS,nilS].toArray 28 (0,0)) :: (Bi ++ markB rs)) w z ((b9,.cells [nilS,nilS,nilS,nilS,nilS,vi].toArray 28 (0,0)) :: (b2,.cells [nilS,nilS,nilS,nilS,nilS,nilS].toArray 28 (0,0)) :: (Bi ++ markB rs)))
  (hR:∀ z' w' L' r,Res w z ((b9,.cells [nilS,nilS,nilS,nilS,nilS,vi].toArray 28 (0,0)) :: (b2,.cells [nilS,nilS,nilS,nilS,nilS,nilS].toArray 28 (0,0)) :: (Bi ++ markB rs)) w' z' L'->TrimR z' r c->R r w') (hmx:marks x = rs) (hck:(checkM c).1 = 0)
  (hatc:At z bc 0 (codeVs a1 a2 a3 a4 a5 a6 k1 k2 k3 k4 k5 k6 c)) (h1:SlR El.str z (.slice a1 c.consts.length k1) c.consts) (h2:SlR (El.sl El.part) z (.slice a2 c.tmpls.length k2) c.tmpls) (h3:SlR (El.sl El.item) z (.slice a3 c.lists.length k3) c.lists) (hl2:∀ l ∈ c.tmpls,l.length <= 1000000) (hl3:∀ l ∈ c.lists,l.length <= 1000000)
  (h4:SlR El.spot z (.slice a4 c.labels.length k4) c.labels) (h5:SlR El.str z (.slice a5 c.slots.length k5) c.slots)
  (hat8:At z b8 0 [vat]) (hvat:SlR El.int z vat (atM c)) (hat10:At z b10 0 [.map (some m1),.map (some m2),.map (some m3)])
  (hm1:z m1 = some (mK (Value.int .i64) (setK (usesM c).s1))) (hm2:z m2 = some (mK (Value.int .i64) (setK (usesM c).s2))) (hm3:z m3 = some (mK (Value.int .i64) (setK (usesM c).s3)))
  (oi:OwnIns Bi vi ((rK c c.ins.length).map (insAt c))) :
  vcTb R w (.pointer (some ⟨bc,0,none⟩)) (.pointer (some ⟨b2,0,none⟩)) (.pointer (some ⟨b8,0,none⟩)) (.pointer (some ⟨b9,0,none⟩)) (.pointer (some ⟨b10,0,none⟩)) x:=by
 obtain ⟨e0,hli,hpa,hri,_,_⟩:=check_ok hck;have hbd:=limits_bd hli;generalize hLL:(b9,Obj.cells [nilS,nilS,nilS,nilS,nilS,vi].toArray 28 (0,0)) :: (b2,.cells [nilS,nilS,nilS,nilS,nilS,nilS].toArray 28 (0,0)) :: (Bi ++ markB rs) = LL at hR;have hS0:Res w z LL w z ((b9,Obj.cells [nilS,nilS,nilS,nilS,nilS,vi].toArray 28 (0,0)) :: (b2,.cells [nilS,nilS,nilS,nilS,nilS,nilS].toArray 28 (0,0)) :: (Bi ++ markB rs)):=by rw [<- hLL]; exact hS
 clear hS hLL;obtain ⟨avi,cvi,rfl,_⟩:=oi.form;have hrl:(List.map (insAt c) (rK c c.ins.length)).length = (rK c c.ins.length).length:=List.length_map _;have hrk:=@rK_len c c.ins.length;haveI:Fz z bc 0 [.slice a1 c.consts.length k1]:=⟨hatc.fld (i:=0) rfl rfl⟩
 haveI:Fz z bc 1 [.slice a2 c.tmpls.length k2]:=⟨hatc.fld (i:=1) rfl rfl⟩
 haveI:Fz z bc 2 [.slice a3 c.lists.length k3]:=⟨hatc.fld (i:=2) rfl rfl⟩
 haveI:Fz z b10 0 [.map (some m1)]:=⟨hat10.fld (i:=0) rfl rfl⟩
 haveI:Fz z b10 1 [.map (some m2)]:=⟨hat10.fld (i:=1) rfl rfl⟩
 haveI:Fz z b10 2 [.map (some m3)]:=⟨hat10.fld (i:=2) rfl rfl⟩
 unfold vcTb;refine iV_al ?_;intro b16 w1 hb16 hS1;refine iV_al ?_;intro b17 w2 hb17 hS2;refine iV_al ?_;intro b18 w3 hb18 hS3;clear hS0 hS1 hS2;(repeat (first | refine V_run ?_ | refine fV_ld1 ?_));refine CV_fn0 (fun hle=>siftStrs (h1.mono hle) (hle _ _ hm1) (by omega)) ?_;rintro z4 B4 w4 v4 hz4 hS4 ⟨sl1,p1,Bs1,l1,us1,rfl,rfl,o1,q1,hp1⟩
 obtain ⟨as1,cs1,rfl,_⟩:=o1.form;clear hS3;simp only [List.append_assoc,List.cons_append,List.nil_append] at hS4;(repeat (first | refine V_run ?_ | (refine iU_st ?_; intro _ _) | refine fV_ld1 ?_));refine CV_fn0 (fun hle=>siftTmpls (h2.mono hle) (hle _ _ hm2) (by omega)) ?_;rintro z5 B5 w5 v5 hz5 hS5 ⟨sl2,p2,Bs2,l2,us2,rfl,rfl,o2,q2,hp2⟩
 obtain ⟨as2,cs2,rfl,_⟩:=o2.form;clear hS4;simp only [List.append_assoc,List.cons_append,List.nil_append] at hS5;(repeat (first | refine V_run ?_ | (refine iU_st ?_; intro _ _) | refine fV_ld1 ?_));refine CV_fn0 (fun hle=>siftLists (h3.mono hle) (hle _ _ hm3) (by omega)) ?_;rintro z6 B6 w6 v6 hz6 hS6 ⟨sl3,p3,Bs3,l3,us3,rfl,rfl,o3,q3,hp3⟩
 obtain ⟨as3,cs3,rfl,_⟩:=o3.form;clear hS5;simp only [List.append_assoc,List.cons_append,List.nil_append] at hS6;(repeat (first | refine V_run ?_ | (refine iU_st ?_; intro _ _)));refine iV_al ?_;intro b19 w7 hb19 hS7;clear hS6;(repeat (first | refine V_run ?_ | refine iV_ld1 ?_ | (refine iU_st ?_; intro _ _)));rename_i w8 hS8;clear hS7;have hz46:Le z z6:=by (repeat (exact Res.zle (by assumption)))
 obtain ⟨z9,hz9,hS9,g19⟩:=hS8.frz b19;obtain ⟨z10,hz10,hS10,g18⟩:=hS9.frz b18;obtain ⟨z11,hz11,hS11,g17⟩:=hS10.frz b17;obtain ⟨z12,hz12,hS12,g16⟩:=hS11.frz b16;obtain ⟨z13,hz13,hS13,f1⟩:=hS12.frzO p1;obtain ⟨z14,hz14,hS14,f2⟩:=hS13.frzO p2;obtain ⟨z15,hz15,hS15,f3⟩:=hS14.frzO p3;clear hS8 hS9 hS10 hS11 hS12 hS13 hS14;have y15:=hz15;have y14:=hz14.trans y15;have y13:=hz13.trans y14;have y12:=hz12.trans y13;have y11:=hz11.trans y12;have y10:=hz10.trans y11;have y9:=hz9.trans y10;have y0:=hz46.trans y9;have hren:RenewZ z15 c b8 b10 b16 b17 b18:=⟨_,m1,m2,m3,p1,p2,p3,l1,l2,l3,hat8.mono y0,hvat.mono y0,hat10.mono y0,g16.mono y13,g17.mono y12,g18.mono y11,y14 _ _ f1,y15 _ _ f2,f3,hp1,hp2,hp3⟩
 have g19':=g19.mono y10;have n1:=@keptI_len (usesM c).s1 c.consts.length;obtain ⟨z16,hz16,hS16,hv1⟩:=freezeKept (E:=El.str) rfl (hS15.bring Bs1) o1 (q1.mono ((hz5.trans hz6).trans y9)) (by simp only [big]; omega);have t1:(trimOk c).consts = pickK c.consts (keptI (usesM c).s1 c.consts.length):=rfl;have p1l:(trimOk c).consts.length = (keptI (usesM c).s1 c.consts.length).length:=by
  rw [t1];exact (pickK_get (fun i hi=>by
   obtain ⟨j,hj⟩:=List.mem_iff_getElem?.1 hi;obtain ⟨u,x,_,g2,_⟩:=q1.at_ j i hj;exact (List.getElem?_eq_some_iff.1 g2).1)).1
 have hS17:=hS16.keep [.at b9,.at b2,.bl Bi,.bl Bs2,.bl Bs3,.bl (markB rs)];rw [List.append_nil] at hS17;clear hS15 hS16;have y16:=y0.trans hz16;have q2':=q2.mono ((hz6.trans y9).trans hz16);have q3':=q3.mono (y9.trans hz16);generalize hl0:List.map (insAt c) (rK c c.ins.length) = l0 at *;have hr0:∀ i ∈ l0,rightM c i = true:=by
  intro i hi;rw [<- hl0] at hi;obtain ⟨j,hj,rfl⟩:=List.mem_map.1 hi;have hjl:j < c.ins.length:=List.mem_range.1 (List.mem_filter.1 hj).1;refine hri _ (List.mem_of_getElem? (i:=j) ?_);rw [insAt,List.getD_eq_getElem?_getD,List.getElem?_eq_getElem hjl]; rfl
 refine LoopG2 (fun (p:Nat × List Nat) y1 y2 w'=>marks y1 = p.2/\y2 = .int .i64 p.1/\p.1 <= l0.length/\∃ Bi' z',Le z16 z'/\OwnIns Bi' (.slice avi l0.length cvi) (renK c l0 p.1)/\Res w z LL w' z' ((b9,.cells [.slice as1 (keptI (usesM c).s1 c.consts.length).length cs1,.slice as2 (keptI (usesM c).s2 c.tmpls.length).length cs2,.slice as3 (keptI (usesM c).s3 c.lists.length).length cs3,nilS,nilS,.slice avi l0.length cvi].toArray 28 (0,0)) :: (b2,.cells [nilS,nilS,nilS,nilS,nilS,nilS].toArray 28 (0,0)) :: (Bi' ++ (Bs2 ++ (Bs3 ++ markB p.2))))) (fun p=>l0.length - p.1) (0,rs) ⟨hmx,rfl,by simp,Bi,z16,Le.refl _,by simpa [renK] using oi,hS17⟩ ?_;rintro I M ⟨k,rs'⟩ x1 y1 w17 m ⟨hmx1,rfl,hk,Bi',z17,hz17,oi',hS18⟩ back
 simp only at hmx1 hk oi' hS18;clear hS17 hmx;(repeat (refine V_run ?_));refine Cond_d (fun h=>?_) (fun h=>?_)
 ·have hlt:k < l0.length:=by omega
  have hlt2:k < (renK c l0 k).length:=by rw [renK_len hk]; exact hlt
  obtain ⟨b,cap,C,hv,rfl,hget,hset⟩:=oi'.el hlt2;rw [renK_get hlt hlt2] at hget;obtain ⟨C',hC',hoi''⟩:=hset (newIns c l0[k]);rw [renK_set hlt] at hoi'';rw [renK_len hk] at hv
  cases hv
  have hri0:=hr0 _ (List.getElem_mem hlt);generalize hi0:l0[k] = i at *;haveI:InR (k:Int) (l0.length:Nat):=⟨by omega,by omega⟩
  haveI:InI ((k:Int) + 1):=⟨by omega⟩
  have e1:(k:Int).toNat * 4 = k * 4:=by omega
  haveI:GetN C ((k:Int).toNat * 4) 4 i.cells:=by rw [e1]; exact hget
  haveI:SetN C ((k:Int).toNat * 4) (newIns c i).cells C':=by rw [e1]; exact hC'
  simp only [List.cons_append,List.nil_append] at hS18;(repeat (first | refine V_run ?_ | refine iV_ld1 ?_ | refine iV_ldN ?_));refine iV_al ?_;intro b21 w19 hb21 hS19;(repeat (refine iU_st ?_; intro _ _));rename_i w20 hS20;refine CV_1 operands_of ?_;rintro z21 w21 v21 hz21 hS21 ⟨bo,rfl,hbo⟩
  clear hS18 hS19 hS20;intro lp r0 l1' w22 hnew hyp;have hS22:=hS21.rf hnew;clear hS21 hnew;have hS23:=hS22.bringB b21;have hO:=hS23.self;have y21:=hz17.trans hz21;haveI:Fz z21 b19 0 [.func (.func 66) #[] #[.pointer (some ⟨b8,0,none⟩),.pointer (some ⟨b17,0,none⟩),.pointer (some ⟨b18,0,none⟩),.pointer (some ⟨b10,0,none⟩),.pointer (some ⟨b16,0,none⟩)]]:=⟨g19'.mono (hz16.trans y21)⟩
  refine operands_gen (i:=i) hO hbo (fun kk i' z' L'=>∃ j:Nat,kk = j/\j <= 3/\i' = renewK c i j/\L' = (l1',lobj lp .ready none) :: (r0,.deferred (some [])) :: (b9,.cells [.slice as1 (keptI (usesM c).s1 c.consts.length).length cs1,.slice as2 (keptI (usesM c).s2 c.tmpls.length).length cs2,.slice as3 (keptI (usesM c).s3 c.lists.length).length cs3,nilS,nilS,.slice (some ⟨b,0,none⟩) l0.length cvi].toArray 28 (0,0)) :: (b2,.cells [nilS,nilS,nilS,nilS,nilS,nilS].toArray 28 (0,0)) :: (b,.cells C.toArray 38 (0,0)) :: (Bs2 ++ (Bs3 ++ markB rs')))
   (fun _ _ _ _ _ _ h=>h) ⟨0,rfl,by omega,rfl,rfl⟩ ?_ ?_
  ·rintro kk hk0 hk3 i' z24 w24 G L' K' hop hz24 hS24 ⟨j,rfl,hj,rfl,rfl⟩ next
   have hj3:j < 3:=by omega
   have h3:(j:Int) = 0 \/ (j:Int) = 1 \/ (j:Int) = 2:=by omega
   have hfld:fldM (renewK c i j) j = fldM i j:=renewK_fld (Nat.le_refl _) hj3;refine hyp _ _ _ _ ?_ (Res.at_ (b:=l1') hS24);refine iBegin ?_;intro w25 hS25;clear hS24;haveI:=fld_cell (i:=renewK c i j) h3;(repeat (first | (refine iDr ?_; intro _ _) | refine iHV_1 ?_ | refine fHV_ld1 ?_));rename_i w26 hS26;refine CV_va1 hS26 (renew_of (kind:=kindM (renewK c i j) j) (hren.mono (hz16.trans (y21.trans hz24))) (fun hk13=>by
    rw [hfld];exact place_in hri0 hop h3 hk13)) ?_
   rintro z27 w27 v27 hz27 hS27 rfl
   clear hS25 hS26;haveI:=fld_set (i:=renewK c i j) (n:=renewM c (kindM (renewK c i j) j) (fldM (renewK c i j) j)) h3;(repeat (refine iU_st ?_; intro _ _));refine iEnd (st:=.busy) (pend:=none) ?_;intro w28 hS28;refine next _ _ _ _ ?_ hz27 hS28 ⟨j + 1,by omega,by omega,renewK_succ.symm,rfl⟩;rw [setFld_op]; exact hop
  ·rintro i' z24 w24 L' hop hz24 hS24 ⟨j,hj,hj3,rfl,rfl⟩
   have:j = 3:=by omega
   subst this;refine iRfEnd (st:=.ready) (by intro h; cases h) ?_;intro w25 hS25;clear hS24;rw [show renewK c i 3 = newIns c i from rfl] at hS25;(repeat (first | refine V_run ?_ | refine iV_ld1 ?_ | refine iV_ldN ?_ | (refine iU_st ?_; intro _ _)));rename_i w26 hS26;have hS27:=(hS23.comp hS26).keep [.at b9,.at b2,.at b,.bl Bs2,.bl Bs3,.at r0,.bl (markB rs')];rw [List.append_nil] at hS27;exact back (k + 1,r0 :: rs') _ _ _ ⟨by rw [marks_iface,hmx1],by simp,by simp only; omega,_,z24,y21.trans hz24,hoi'',hS27⟩ (by simp only; omega)
 ·have hk2:k = l0.length:=by omega
  subst hk2;have hrn:renK c l0 l0.length = (trimOk c).ins:=by
   rw [renK,List.take_of_length_le (Nat.le_refl _),List.drop_of_length_le (Nat.le_refl _),List.append_nil,<- hl0,List.map_map]; rfl
  have hoi2:=oi';rw [hrn] at hoi2;have hil:(trimOk c).ins.length = l0.length:=by rw [<- hrn,renK_len (Nat.le_refl _)]
  have hS19:=hS18.bring Bi';obtain ⟨z18,hz18,hS20,hv6⟩:=Res.freezeSl (E:=El.ins) (e:=38) (xs:=(trimOk c).ins) (f:=InsM.cells) hS19 hoi2 (by simp only [big]; omega) (fun _=>rfl) (fun _ _ _=>rfl);have y18:=hz17.trans hz18;have y00:=y16.trans y18;clear hS18 hS19;exact trimC hS20.self (fun z' w' L' r kk hd=>hR z' w' L' r (hS20.comp kk) hd) hmx1 hck (hatc.mono y00) (h2.mono y00) (h3.mono y00) hl2 hl3 (h4.mono y00) (h5.mono y00) (hat8.mono y00) (hvat.mono y00) (hv1.mono y18) o2 (q2'.mono y18) o3 (q3'.mono y18) hv6
end
section
open Go Q Go.RowKit
theorem noCodeR {z:Z}:CodeR z (.agg [nilS,nilS,nilS,nilS,nilS,nilS].toArray) noCode:=⟨_,_,_,_,_,_,rfl,SlR.nil,SlR.nil,SlR.nil,SlR.nil,SlR.nil,SlR.nil⟩
theorem trim_of {z:Z} {w:World} {v:Value} {c:CodeM} (hc:CodeR z v c):Fn1 20 #[v] z w fun z' r=>TrimR z' r c:=Fn1.intro fun hS=>en20 (by
 unfold vc20;obtain ⟨a1,a2,a3,a4,a5,a6,k1,k2,k3,k4,k5,k6,rfl,h1,h2,h3,h4,h5,h6⟩:=hc.form;refine iV_bx ?_;intro bc w1 hbc hS1;obtain ⟨zc,hzc,hS2,hatc⟩:=hS1.frz bc;generalize hRR:(fun (v:Value) (w':World)=>∃ z' L',Res w z [] w' z' L'/\TrimR z' v c) = RR;have hR:∀ z' w' L' r,Res w1 zc [] w' z' L'->TrimR z' r c->RR r w':=fun z' w' L' r k hd=>by rw [<- hRR]; exact ⟨z',L',hS2.comp k,hd⟩
 clear hRR;have hS3:=hS2.self;clear hS hS1 hS2;haveI:CodeZ zc (.agg (codeVs a1 a2 a3 a4 a5 a6 k1 k2 k3 k4 k5 k6 c).toArray) c:=⟨hc.mono hzc⟩
 haveI:Fz zc bc 0 (codeVs a1 a2 a3 a4 a5 a6 k1 k2 k3 k4 k5 k6 c):=⟨hatc⟩
 haveI:Fz zc bc 5 [.slice a6 c.ins.length k6]:=⟨hatc.fld (i:=5) rfl rfl⟩
 refine iV_al ?_;intro b2 w2 hb2 hS4;clear hS3;(repeat (first | refine V_run ?_ | (refine CV_puz ?_; intro _ _ _ _) | refine fV_ldN ?_));rename_i z5 w5 hz5 hS5;clear hS4;refine Cond_nd (fun e1=>?_) (fun e1=>?_)
 ·(repeat (first | refine V_run ?_ | (refine iU_st ?_; intro _ _) | refine iHV_N ?_))
  rename_i w6 hS6;exact hR _ _ _ _ hS6 ⟨_,_,rfl,by rw [trimM,if_neg e1]; exact noCodeR,by rw [trimAt,if_neg e1]; exact SlR.nil⟩
 obtain ⟨e0,hli,hpa,hri,_,_⟩:=check_ok e1;have hbd:=limits_bd hli;have hrl:=reachM_len (reachBad_ok hli hpa);(repeat (refine fV_ldN ?_));refine CV_1 (reach_of ((hc.mono hzc).mono hz5)) ?_;rintro z6 w6 v6 hz6 hS6 hvr
 clear hS5;obtain ⟨_,ar,kr,rfl,_,helr⟩:=hvr.form;rw [hrl];(repeat (first | refine V_run ?_ | refine fV_ld1 ?_));refine iV_ms (by omega) (by omega) ?_;intro bat w7 hbat hS7;rw [zeros_eq] at hS7;clear hS6;refine iV_al ?_;intro b8 w8 hb8 hS8;refine iU_st ?_;intro w9 hS9;refine iV_al ?_;intro b9 w10 hb9 hS10;refine kV_mm (mk:=Value.int .i64) ?_;intro m1 w11 hm1 hS11;refine kV_mm (mk:=Value.int .i64) ?_;intro m2 w12 hm2 hS12;refine kV_mm (mk:=Value.int .i64) ?_;intro m3 w13 hm3 hS13;clear hS7 hS8 hS9 hS10 hS11 hS12;refine V_run ?_;refine iV_al ?_;intro b10 w14 hb10 hS14;clear hS13;(repeat (first | refine V_run ?_ | (refine iU_st ?_; intro _ _) | refine fV_ld1 ?_));rename_i w15 hS15;clear hS14;have hS16:=hS15.keep [.at b9,.at b8,.at b10,.at m1,.at m2,.at m3,.at bat,.at b2];clear hS15;have hz6':=hz5.trans hz6;refine LoopG2 (fun (p:Nat × List Nat) y1 y2 w'=>marks y1 = p.2/\y2 = .int .i64 p.1/\p.1 <= c.ins.length/\∃ Bi vi z',Le z6 z'/\OwnIns Bi vi ((rK c p.1).map (insAt c))/\Res w1 zc [] w' z' ((b9,.cells [nilS,nilS,nilS,nilS,nilS,vi].toArray 28 (0,0)) :: (b8,.cells [.slice (some ⟨bat,0,none⟩) c.ins.length c.ins.length].toArray 45 (0,0)) :: (b10,.cells [.map (some m1),.map (some m2),.map (some m3)].toArray 117 (0,0)) :: (m1,mK (Value.int .i64) (setK (usesK c p.1).s1)) :: (m2,mK (Value.int .i64) (setK (usesK c p.1).s2)) :: (m3,mK (Value.int .i64) (setK (usesK c p.1).s3)) :: (bat,.cells (atV c p.1).toArray 3 (0,0)) :: (b2,.cells [nilS,nilS,nilS,nilS,nilS,nilS].toArray 28 (0,0)) :: (Bi ++ markB p.2))) (fun p=>c.ins.length - p.1) (0,[]) ⟨rfl,rfl,by simp,[],nilS,z6,Le.refl _,OwnSl.nil,?_⟩ ?_
 ·have:atV c 0 = List.replicate c.ins.length (.int .i64 0):=by simp [atV]
  simp only [this];exact hS16
 rintro I M ⟨k,rs⟩ x1 y1 w17 m ⟨hmx,rfl,hk,Bi,vi,z17,hz17,oi,hS17⟩ back
 simp only at hmx hk oi hS17;clear hS16;obtain ⟨avi,cvi,rfl,_⟩:=oi.form;obtain ⟨_,ai,ki,he,_,heli⟩:=h6.form
 cases he
 have hrk:=@rK_len c k;have hml:((rK c k).map (insAt c)).length = (rK c k).length:=List.length_map _;(repeat (refine V_run ?_));refine Cond_d (fun h=>?_) (fun h=>?_)
 ·have hlt:k < c.ins.length:=by omega
  have hi2:c.ins[k]? = some (insAt c k):=by rw [insAt,List.getD_eq_getElem?_getD,List.getElem?_eq_getElem hlt]; rfl
  obtain ⟨be,offe,cse,rfl,rfl,hate⟩:=heli _ _ hi2;obtain ⟨br,offr,csr,rfl,rfl,hatr⟩:=helr k (rcAt c k) (by rw [rcAt,List.getD_eq_getElem?_getD,List.getElem?_eq_getElem (by omega)]; rfl);haveI:InR (k:Int) (c.ins.length:Nat):=⟨by omega,by omega⟩
  haveI:InI ((k:Int) + 1):=⟨by omega⟩
  have ek:(k:Int).toNat * 1 = k:=by omega
  haveI:Fz zc be (offe + (k:Int).toNat * 4) (insAt c k).cells:=⟨hate.mono hzc⟩
  haveI:SetN (atV c k) ((k:Int).toNat * 1) [.int .i64 (-1)] ((atV c k).set k (.int .i64 (-1))):=by rw [ek]; exact SetN.at_ (by rw [atV_len hk]; exact hlt)
  have hset2:SetN ((atV c k).set k (.int .i64 (-1))) ((k:Int).toNat * 1) [.int .i64 ((rK c k).length:Int)] ((atV c k).set k (.int .i64 ((rK c k).length:Int))):=by
   have h9:=SetN.at_ (l:=(atV c k).set k (.int .i64 (-1))) (k:=k) (u:=.int .i64 ((rK c k).length:Int)) (by rw [List.length_set,atV_len hk]; exact hlt);rw [List.set_set] at h9; rw [ek]; exact h9
  have hat1:=atV_set (c:=c) hlt;intro K hK;(repeat (first | refine V_run ?_ | refine fV_ldN ?_));refine iV_al ?_;intro b12 w18 hb12 hS18;(repeat (first | refine V_run ?_ | refine iV_ld1 ?_ | (refine iU_st ?_; intro _ _)));rename_i w19 hS19;clear hS17 hS18;refine zV_ld1 (v:=.bool (rcAt c k)) (hatr.mono hz17) ?_;refine V_run ?_;refine Cond_n (fun e=>?_) (fun e=>?_)
  ·have hnew:newAt c k = -1:=by rw [newAt,if_neg (by rw [e]; simp)]
   rw [hnew] at hat1;rw [hat1] at hS19;have hr1:rK c (k + 1) = rK c k:=by rw [rK_succ,if_neg (by rw [e]; simp),List.append_nil]
   have hu1:usesK c (k + 1) = usesK c k:=by rw [usesK_succ,if_neg (by rw [e]; simp)]
   refine hK _ _ fun _=>?_
   (repeat (refine V_run ?_));refine back (k + 1,rs) _ _ _ ⟨hmx,by simp,by simp only; omega,Bi,_,z17,hz17,by simp only [hr1]; exact oi,?_⟩ (by simp only; omega);simp only [hu1];exact hS19.sublist (List.sublist_cons_self _ _)
  have hnew:newAt c k = ((rK c k).length:Int):=by rw [newAt,if_pos e]
  rw [hnew] at hat1;rw [hat1] at hset2;have hr1:rK c (k + 1) = rK c k ++ [k]:=by rw [rK_succ,if_pos e]
  have hu1:usesK c (k + 1) = markK (insAt c k) 3 (usesK c k):=by rw [usesK_succ,if_pos e]
  have hset2':SetN ((atV c k).set k (.int .i64 (-1))) ((k:Int).toNat * 1) [.int .i64 ((((rK c k).map (insAt c)).length:Nat):Int)] (atV c (k + 1)):=by rw [hml]; exact hset2
  (repeat (first | refine V_run ?_ | refine iV_ld1 ?_ | (refine iU_st ?_; intro _ _)));rename_i w20 hS20;clear hS19;refine CV_1 operands_of ?_;rintro z21 w21 v21 hz21 hS21 ⟨bo,rfl,hbo⟩
  clear hS20;intro lp r0 l1' w22 hnew hyp;have hS22:=hS21.rf hnew;clear hS21 hnew;have hS23:=hS22.bringB b12;have hO:=hS23.self;generalize hii:insAt c k = i at *;generalize huu:usesK c k = u0 at *;refine operands_gen (i:=i) hO hbo (fun kk i' z' L'=>∃ j:Nat,kk = j/\j <= 3/\i' = i/\L' = (l1',lobj lp .ready none) :: (r0,.deferred (some [])) :: (b9,.cells [nilS,nilS,nilS,nilS,nilS,.slice avi ((rK c k).map (insAt c)).length cvi].toArray 28 (0,0)) :: (b8,.cells [.slice (some ⟨bat,0,none⟩) c.ins.length c.ins.length].toArray 45 (0,0)) :: (b10,.cells [.map (some m1),.map (some m2),.map (some m3)].toArray 117 (0,0)) :: (m1,mK (Value.int .i64) (setK (markK i j u0).s1)) :: (m2,mK (Value.int .i64) (setK (markK i j u0).s2)) :: (m3,mK (Value.int .i64) (setK (markK i j u0).s3)) :: (bat,.cells (atV c (k + 1)).toArray 3 (0,0)) :: (b2,.cells [nilS,nilS,nilS,nilS,nilS,nilS].toArray 28 (0,0)) :: (Bi ++ markB rs))
   (fun _ _ _ _ _ _ h=>h) ⟨0,rfl,by omega,rfl,rfl⟩ ?_ ?_
  ·rintro kk hk0 hk3 i' z24 w24 G L' K' hop hz24 hS24 ⟨j,rfl,hj,rfl,rfl⟩ next
   have hj3:j < 3:=by omega
   have h3:(j:Int) = 0 \/ (j:Int) = 1 \/ (j:Int) = 2:=by omega
   refine hyp _ _ _ _ ?_ (Res.at_ (b:=l1') hS24);refine iBegin ?_;intro w25 hS25;clear hS24;haveI:=fld_cell (i:=i') h3;have hmk:=markK_succ (i:=i') (k:=j) (u:=u0);generalize hmu:markK i' j u0 = mu0 at *;generalize hkd:kindM i' j = kd at *;generalize hfd:fldM i' j = fd at *;(repeat (first | refine V_run ?_ | refine iV_ldN ?_ | (refine CV_pu ?_; intro _ _ _ _)));rename_i z26 w26 hz26 hS26;clear hS25;have hcl:clsM kd = 1 \/ clsM kd = 2 \/ clsM kd = 3 \/ (clsM kd ≠ 1/\clsM kd ≠ 2/\clsM kd ≠ 3):=by omega
   rcases hcl with e1 | e1 | e1 | ⟨e1,e2,e3⟩
   ·have ho:ofR kd m1 m2 m3 = some m1:=by rw [ofR,if_pos e1]
    rw [ho];refine Cond_is rfl ?_;(repeat (refine iV_ld1 ?_));refine kU_mu (mk:=Value.int .i64) ?_;intro w27 hS27;rw [up_set] at hS27;refine iEnd (st:=.busy) (pend:=none) ?_;intro w28 hS28;refine next _ _ _ _ rfl hz26 hS28 ⟨j + 1,by omega,by omega,rfl,?_⟩;rw [hmk,markU,if_pos e1]; rfl
   ·have ho:ofR kd m1 m2 m3 = some m2:=by rw [ofR,if_neg (by omega),if_pos e1]
    rw [ho];refine Cond_is rfl ?_;(repeat (refine iV_ld1 ?_));refine kU_mu (mk:=Value.int .i64) ?_;intro w27 hS27;rw [up_set] at hS27;refine iEnd (st:=.busy) (pend:=none) ?_;intro w28 hS28;refine next _ _ _ _ rfl hz26 hS28 ⟨j + 1,by omega,by omega,rfl,?_⟩;rw [hmk,show markU mu0 kd fd = ⟨mu0.s1,insK mu0.s2 fd,mu0.s3⟩ by unfold markU; rw [if_neg (show ¬ clsM kd = 1 by omega),if_pos e1]]; rfl
   ·have ho:ofR kd m1 m2 m3 = some m3:=by rw [ofR,if_neg (by omega),if_neg (by omega),if_pos e1]
    rw [ho];refine Cond_is rfl ?_;(repeat (refine iV_ld1 ?_));refine kU_mu (mk:=Value.int .i64) ?_;intro w27 hS27;rw [up_set] at hS27;refine iEnd (st:=.busy) (pend:=none) ?_;intro w28 hS28;refine next _ _ _ _ rfl hz26 hS28 ⟨j + 1,by omega,by omega,rfl,?_⟩;rw [hmk,show markU mu0 kd fd = ⟨mu0.s1,mu0.s2,insK mu0.s3 fd⟩ by unfold markU; rw [if_neg (show ¬ clsM kd = 1 by omega),if_neg (show ¬ clsM kd = 2 by omega),if_pos e1]]; rfl
   ·have ho:ofR kd m1 m2 m3 = none:=by rw [ofR,if_neg e1,if_neg e2,if_neg e3]
    rw [ho];refine Cond_not rfl ?_;refine iEnd (st:=.busy) (pend:=none) ?_;intro w28 hS28;refine next _ _ _ _ rfl hz26 hS28 ⟨j + 1,by omega,by omega,rfl,?_⟩;rw [hmk,markU,if_neg e1,if_neg e2,if_neg e3]; rfl
  ·rintro i' z24 w24 L' hop hz24 hS24 ⟨j,hj,hj3,rfl,rfl⟩
   have:j = 3:=by omega
   subst this;refine iRfEnd (st:=.ready) (by intro h; cases h) ?_;intro w25 hS25;clear hS24;(repeat (first | refine V_run ?_ | refine iV_ld1 ?_ | refine iV_ldN ?_));refine V_push hS25 oi (by simp only [room]; omega) (by simp only [room]; omega) (by decide) ?_;intro B26 v26 w26 ho26 hS26;obtain ⟨a26,c26,rfl,_⟩:=ho26.form;clear hS25;(repeat (first | refine V_run ?_ | (refine iU_st ?_; intro _ _)));rename_i w27 hS27;have hS28:=(hS23.comp hS27).keep [.at b9,.at b8,.at b10,.at m1,.at m2,.at m3,.at bat,.at b2,.bl B26,.at r0,.bl (markB rs)];rw [List.append_nil] at hS28;refine hK _ _ fun _=>?_
   (repeat (refine V_run ?_));have hoi':OwnIns B26 (.slice a26 (((rK c k).map (insAt c)).length + 1) c26) ((rK c (k + 1)).map (insAt c)):=by
    unfold OwnIns;rw [hr1,List.map_append,List.map_cons,List.map_nil,hii,List.length_append,List.flatMap_append]
    simpa using ho26
   refine back (k + 1,r0 :: rs) _ _ _ ⟨by rw [marks_iface,hmx],by simp,by simp only; omega,B26,.slice a26 (((rK c k).map (insAt c)).length + 1) c26,z24,hz17.trans (hz21.trans hz24),hoi',?_⟩ (by simp only; omega);simp only [hu1];exact hS28
 ·have hk2:k = c.ins.length:=by omega
  subst hk2;rw [atV_end] at hS17;obtain ⟨z18,hz18,hS18,g8⟩:=hS17.frz b8;obtain ⟨z19,hz19,hS19,g10⟩:=hS18.frz b10;obtain ⟨z20,hz20,hS20,f1⟩:=hS19.frzO m1;obtain ⟨z21,hz21,hS21,f2⟩:=hS20.frzO m2;obtain ⟨z22,hz22,hS22,f3⟩:=hS21.frzO m3;have hatl:(atM c).length = c.ins.length:=by simp [atM]
  obtain ⟨z23,hz23,hS23,hvat⟩:=Res.freezeSl (E:=El.int) (e:=3) (B:=[(bat,_)]) (v:=.slice (some ⟨bat,0,none⟩) (atM c).length c.ins.length) (xs:=atM c) (f:=fun x=>[Value.int .i64 x]) (hS22.bringB bat) ⟨by rw [<- atV_end,atV_len (Nat.le_refl _),hatl]; exact (Nat.mul_one _).symm,.inr ⟨bat,c.ins.length,[],by rw [List.append_nil],rfl,by omega,by simp only [maxLen]; omega,by rw [List.append_nil,<- atV_end,atV_len (Nat.le_refl _)]; exact (Nat.mul_one _).symm⟩⟩ (by simp only [big]; omega) (fun _=>rfl) (fun z x _=>rfl);rw [hatl] at hvat;have hS24:=hS23.keep [.at b9,.at b2,.bl Bi,.bl (markB rs)];rw [List.append_nil] at hS24;have y22:=hz22.trans hz23;have y21:=hz21.trans y22;have y20:=hz20.trans y21;have y19:=hz19.trans y20;have y17:=hz18.trans y19;have yz:Le z z23:=hzc.trans (hz6'.trans (hz17.trans y17));have ylc:Le zc z23:=hz6'.trans (hz17.trans y17);clear hS17 hS18 hS19 hS20 hS21 hS22 hS23;have hl2:∀ l ∈ c.tmpls,l.length <= 1000000:=fun l hl=>by
   have:=hli; unfold limitsM at this; simp only [Bool.and_eq_true,List.all_eq_true] at this;have:=this.2.1 l hl; unfold lim2 at this; simp only [Bool.and_eq_true,decide_eq_true_eq] at this; omega
  have hl3:∀ l ∈ c.lists,l.length <= 1000000:=fun l hl=>by
   have:=hli; unfold limitsM at this; simp only [Bool.and_eq_true,List.all_eq_true] at this;have:=this.2.2.2.1 l hl; unfold lim3 at this; simp only [decide_eq_true_eq] at this; omega
  exact trimB hS24.self (fun z' w' L' r kk hd=>hR _ _ _ _ (hS24.comp kk) hd) hmx e1 (hatc.mono ylc) (h1.mono yz) (h2.mono yz) (h3.mono yz) hl2 hl3 (h4.mono yz) (h5.mono yz) (g8.mono y19) hvat (g10.mono y20) (y21 _ _ f1) (y22 _ _ f2) (hz23 _ _ f3) oi)
end
section
open Go Q Go.RowKit
def grp:Nat->Nat->List UInt8
 | 0,m=>[UInt8.ofNat m]
 | f + 1,m=>if 128 <= m then UInt8.ofNat (m % 128 + 128) :: grp f (m / 128) else [UInt8.ofNat m]
theorem grp_len:∀ {f m:Nat},(grp f m).length <= f + 1
 | 0,_=>by simp [grp]
 | f + 1,m=>by unfold grp; split <;> simp; exact grp_len
def zig (n:Int):Nat:=if n < 0 then (-2 * n - 1).toNat else (2 * n).toNat
def numM (n:Int):List UInt8:=grp 9 (zig n)
theorem numM_len {n:Int}:(numM n).length <= 10:=grp_len
class Mid (n:Int):Prop where
 h:-4000000000000000000 <= n/\n < 4000000000000000000
def WrOk (bw:Nat) (B:Bl) (ys:List UInt8):Prop:=∃ v Bv,B = (bw,.cells [v].toArray 156 (0,0)) :: Bv/\OwnSl 5 1 Bv v ys.length (Lib.byteCells ys)
abbrev lots:Nat:=10000000000000
theorem or128:∀ r:Fin 128,bits .or .i64 ((r:Nat):Int) 128 = ((r:Nat):Int) + 128:=by decide +kernel
theorem or_ok {t:Nat} {a b:Int} (w:World):(bi .or t (.int .i64 a) (.int .i64 b)).run Tryz.prog w = .ok (.int .i64 (bits .or .i64 a b)) w:=rfl
instance {t:Nat} {m:Int}:Run (bi .or t (.int .i64 (m % 128)) (.int .i64 128)) (.int .i64 (m % 128 + 128)):=⟨fun w=>by
 have h0:0 <= m % 128:=Int.emod_nonneg _ (by decide);have h1:m % 128 < 128:=Int.emod_lt_of_pos _ (by decide);have h:=or128 ⟨(m % 128).toNat,by omega⟩;simp only at h;rw [Int.toNat_of_nonneg h0] at h;rw [or_ok,h]⟩
theorem u8_wrap {n:Nat} (h:n < 256):IntKind.u8.wrap (n:Int) = ((UInt8.ofNat n).toNat:Int):=by
 have h1:(UInt8.ofNat n).toNat = n:=by simp [Nat.mod_eq_of_lt h]
 rw [h1];have:IntKind.u8.wrap (n:Int) = (n:Int) % 256:=rfl;rw [this]; omega
theorem ints_of {z:Z} {w:World} {bw:Nat} {B:Bl} {ys:List UInt8} {v:Value} {l:List Int} (hB:WrOk bw B ys) (hv:SlR El.int z v l) (hm:∀ n ∈ l,Mid n) (hb:(ys ++ l.flatMap numM).length <= lots) :
  Fn 175 #[.pointer (some ⟨bw,0,none⟩),v] z B w fun z' B' r=>r = .tuple #[]/\WrOk bw B' (ys ++ l.flatMap numM):=Fn.intro fun hS=>en175 (by
 unfold vc175;have hbig:=hv.big;simp only [big] at hbig;obtain ⟨_,a,cap,rfl,_,hel⟩:=hv.form;(repeat (refine V_run ?_));refine LoopG1 (fun (p:Nat × List UInt8) x w'=>x = .int .i64 p.1/\p.1 <= l.length/\ys ++ l.flatMap numM = p.2 ++ (l.drop p.1).flatMap numM/\∃ B' z',Le z z'/\WrOk bw B' p.2/\Res w z B w' z' B') (fun p=>l.length - p.1) (0,ys) ⟨rfl,by simp,rfl,B,z,Le.refl _,hB,hS⟩ ?_;rintro I M ⟨k,us⟩ x w1 m ⟨rfl,hk,hys,B1,z1,hz1,hB1,hS1⟩ back
 simp only at hk hys hB1;dsimp only;(repeat (refine V_run ?_));refine Cond_d (fun h=>?_) (fun h=>?_)
 ·have hlt:k < l.length:=by omega
  haveI:InR (k:Int) (l.length:Nat):=⟨by omega,by omega⟩
  haveI:InI ((k:Int) + 1):=⟨by omega⟩
  obtain ⟨b,off,cs,rfl,rfl,hat⟩:=hel _ _ (List.getElem?_eq_getElem hlt);have hmid:=(hm _ (List.getElem_mem hlt)).h;rw [List.drop_eq_getElem_cons hlt,List.flatMap_cons] at hys;generalize hn:l[k] = n at *;haveI:Fz z b (off + (k:Int).toNat * 1) [.int .i64 n]:=⟨hat⟩
  haveI:InI (2 * n):=⟨by omega⟩
  have hn2:(-2:Int) * n = -(2 * n):=by rw [Int.neg_mul]
  haveI:InI (-2 * n):=⟨by rw [hn2]; omega⟩
  haveI:InI (-2 * n - 1):=⟨by rw [hn2]; omega⟩
  (repeat (first | refine V_run ?_ | refine fV_ld1 ?_));refine JGIe (y:=(zig n:Int)) ?_ ?_
  ·unfold zig
   by_cases e:n < 0
   ·simp only [e,decide_true,cond_true,if_true]; omega
   ·simp only [e,decide_false,cond_false,if_false]; omega
  intro z2 w2 hz2 hS2;clear hS1;refine LoopG1 (fun (p:Nat × Nat × List UInt8) x w'=>x = .int .i64 (p.2.1:Int)/\p.2.1 < 128 ^ (p.1 + 1)/\p.1 <= 9/\ys ++ l.flatMap numM = p.2.2 ++ (grp p.1 p.2.1 ++ (l.drop (k + 1)).flatMap numM)/\∃ B' z',Le z1 z'/\WrOk bw B' p.2.2/\Res w z B w' z' B') (fun p=>p.1) (9,zig n,us) ⟨rfl,?_,Nat.le_refl _,?_,B1,z2,hz2,hB1,hS2⟩ ?_
  ·show zig n < 128 ^ 10
   rw [show (128:Nat) ^ 10 = 1180591620717411303424 by decide];unfold zig; split <;> omega
  ·rw [hys]; rfl
  rintro I1 M1 ⟨f,mm_,us3⟩ x w3 m1 ⟨rfl,hmm,hf9,hys3,B3,z3,hz3,hB3,hS3⟩ back1
  simp only at hmm hys3 hB3 hf9;dsimp only;clear hS2;obtain ⟨v3,Bv,rfl,ho⟩:=hB3;obtain ⟨a3,c3,rfl,_⟩:=ho.form;have hlen3:us3.length + 1 <= lots:=by
   have h1:1 <= (grp f mm_).length:=by unfold grp; split <;> (try split) <;> simp
   have h2:=congrArg List.length hys3;have h3:(us3 ++ (grp f mm_ ++ (l.drop (k + 1)).flatMap numM)).length = us3.length + ((grp f mm_).length + ((l.drop (k + 1)).flatMap numM).length):=by rw [List.length_append,List.length_append]
   rw [h3] at h2;omega
  simp only [lots] at hlen3;refine V_run ?_;refine Cond_d (fun h4=>?_) (fun h4=>?_)
  ·have hff:f = (f - 1) + 1:=by
    rcases Nat.eq_zero_or_pos f with rfl | hp
    ·simp at hmm; omega
    ·omega
   (repeat (first | refine V_run ?_ | refine iV_ld1 ?_));have hcv:IntKind.u8.wrap ((mm_:Int) % 128 + 128) = ((UInt8.ofNat (mm_ % 128 + 128)).toNat:Int):=by
    rw [show (mm_:Int) % 128 + 128 = ((mm_ % 128 + 128:Nat):Int) by omega];exact u8_wrap (by omega)
   rw [hcv];refine V_push hS3 ho (by simp only [room]; omega) (by simp only [room]; omega) (by decide) ?_;intro B5 v5 w5 ho5 hS5;obtain ⟨a5,c5,rfl,_⟩:=ho5.form;clear hS3;(repeat (first | refine V_run ?_ | (refine iU_st ?_; intro _ _)));rename_i w6 hS6;have hS7:=hS6.keep [.at bw,.bl B5];rw [List.append_nil] at hS7;refine back1 (f - 1,mm_ / 128,us3 ++ [UInt8.ofNat (mm_ % 128 + 128)]) _ _ ⟨by simp,?_,by simp only; omega,?_,_,z3,hz3,⟨_,B5,rfl,?_⟩,hS7⟩ (by simp only; omega)
   ·simp only
    rw [<- hff];have:128 ^ (f + 1) = 128 ^ f * 128:=rfl;omega
   ·rw [hys3]
    conv=>lhs; rw [hff,grp]
    rw [if_pos (by omega)];simp only [List.append_assoc,List.cons_append,List.nil_append]
   ·rw [List.length_append,Lib.byteCells_append]
    exact ho5
  ·(repeat (first | refine V_run ?_ | refine iV_ld1 ?_))
   have hg:grp f mm_ = [UInt8.ofNat mm_]:=by
    cases f with
    | zero=>rfl
    | succ f=>rw [grp,if_neg (by omega)]
   rw [u8_wrap (n:=mm_) (by omega)];refine V_push hS3 ho (by simp only [room]; omega) (by simp only [room]; omega) (by decide) ?_;intro B5 v5 w5 ho5 hS5;obtain ⟨a5,c5,rfl,_⟩:=ho5.form;clear hS3;(repeat (first | refine V_run ?_ | (refine iU_st ?_; intro _ _)));rename_i w6 hS6;have hS7:=hS6.keep [.at bw,.bl B5];rw [List.append_nil] at hS7;refine back (k + 1,us3 ++ [UInt8.ofNat mm_]) _ _ ⟨by simp,by simp only; omega,?_,_,z3,hz1.trans hz3,⟨_,B5,rfl,?_⟩,hS7⟩ (by simp only; omega)
   ·rw [hys3,hg]; simp only [List.append_assoc]
   ·rw [List.length_append,Lib.byteCells_append]
    exact ho5
 ·have hk2:k = l.length:=by omega
  subst hk2;rw [List.drop_of_length_le (Nat.le_refl _),List.flatMap_nil,List.append_nil] at hys;exact ⟨_,_,hS1,rfl,by rw [hys]; exact hB1⟩)
end
section
open Go Q Go.RowKit
theorem map_flat:∀ l:List Int,(l.map fun x=>Value.int .i64 x) = l.flatMap fun x=>[Value.int .i64 x]
 | []=>rfl
 | a :: l=>by rw [List.map_cons,List.flatMap_cons,map_flat l]; rfl
theorem V_lit {w0 w:World} {z0 z:Z} {B0 L:Bl} {K:Value->World->Prop} [hS:Res w0 z0 B0 w z L] {k n:Nat} {parts:List (Nat × Value)} {out:List Value} [gf:FillS 1 0 parts out n] (l:List Int) (ho:out = l.map fun x=>Value.int .i64 x) (hn:k = n) (hsz:n <= 1000)
  (hk:∀ z' w' v,Le z z'->Res w0 z0 B0 w' z' L->SlR El.int z' v l->K v w'):V (bs 45 k parts.toArray) w K:=by
 refine V_bs hn (by omega) ?_;intro b w1 hb hS1;have hfl:out = l.flatMap fun x=>[Value.int .i64 x]:=by rw [ho]; exact map_flat l
 have hlen:out.length = n:=by obtain ⟨h1,h2,_⟩:=gf.h; omega
 have hll:l.length = n:=by rw [<- hlen,ho,List.length_map]
 obtain ⟨z2,hz2,hS2,hv⟩:=Res.freezeSl (E:=El.int) (e:=3) (B:=[(b,_)]) (L:=L) (v:=.slice (some ⟨b,0,none⟩) l.length n) (xs:=l) (f:=fun x=>[Value.int .i64 x]) hS1 ⟨by rw [<- hfl,hlen,hll]; exact (Nat.mul_one _).symm,.inr ⟨b,n,[],by rw [<- hfl,List.append_nil],rfl,by omega,by simp only [maxLen]; omega,by rw [<- hfl,List.append_nil,hlen]; exact (Nat.mul_one _).symm⟩⟩ (by simp only [big]; omega) (fun _=>rfl) (fun z x _=>rfl);rw [hll] at hv;exact hk _ _ _ hz2 hS2 hv
theorem Mid.of {n:Int} (h:-1000000000000 <= n/\n <= 1000000000000):Mid n:=⟨by omega⟩
theorem CV_ints {w0 w:World} {z0 z:Z} {B0 L B F:Bl} {K:Value->World->Prop} {bw:Nat} {ys:List UInt8} {v:Value} {l:List Int} (hS:Res w0 z0 B0 w z L) (hB:WrOk bw B ys) [gb:BringL L B F] (hv:SlR El.int z v l) (hm:∀ n ∈ l,Mid n) (hb:(ys ++ l.flatMap numM).length <= lots)
  (hk:∀ z' B' w',Le z z'->Res w0 z0 B0 w' z' (B' ++ F)->WrOk bw B' (ys ++ l.flatMap numM)->K (.tuple #[]) w'):CV (.func (.func 175) #[] #[]) #[.pointer (some ⟨bw,0,none⟩),v] w K:=by
 refine CV_fn (B:=B) (F:=F) (hS.bring B) (ints_of hB hv hm hb) (by simp) ?_;rintro z' B' w' v' hz hS' ⟨rfl,hB'⟩
 exact hk z' B' w' hz hS' hB'
def strM (s:ByteArray):List UInt8:=numM s.size ++ bytes s
theorem str_of {z:Z} {w:World} {bw:Nat} {B:Bl} {ys:List UInt8} {s:ByteArray} (hB:WrOk bw B ys) (hs:s.size <= 1000000) (hb:(ys ++ strM s).length <= lots) :
  Fn 92 #[.pointer (some ⟨bw,0,none⟩),.string s] z B w fun z' B' r=>r = .tuple #[]/\WrOk bw B' (ys ++ strM s):=Fn.intro fun hS=>en92 (by
 unfold vc92;have hbs:(bytes s).length = s.size:=(size_bytes s).symm;have hb2:(ys ++ numM s.size).length + s.size <= lots:=by unfold strM at hb; rw [<- List.append_assoc,List.length_append] at hb; omega
 refine V_run ?_;refine V_lit [(s.size:Int)] rfl rfl (by omega) ?_;intro z1 w1 v1 hz1 hS1 hv1;refine CV_ints (B:=B) hS1 hB hv1 (fun n hn=>by simp at hn; subst hn; exact Mid.of (by omega)) (by simp only [List.flatMap_cons,List.flatMap_nil,List.append_nil]; omega) ?_;intro z2 B2 w2 hz2 hS2 hB2;simp only [List.flatMap_cons,List.flatMap_nil,List.append_nil] at hB2;rw [List.append_nil] at hS2;obtain ⟨v3,Bv,rfl,ho⟩:=hB2;obtain ⟨a3,c3,rfl,_⟩:=ho.form;simp only [lots] at hb2;(repeat (first | refine V_run ?_ | refine iV_ld1 ?_));refine V_appS (t:=55) (u:=9) (bytes:=1) (by kernel_rfl) (hS2.bring Bv) ho (by simp only [room]; omega) (by simp only [room]; omega) ?_;intro B5 v5 w5 ho5 hS5;obtain ⟨a5,c5,rfl,_⟩:=ho5.form;(repeat (first | refine V_run ?_ | (refine iU_st ?_; intro _ _)));rename_i w6 hS6;have hS7:=hS6.keep [.at bw,.bl B5];rw [List.append_nil] at hS7;refine ⟨_,_,hS7,rfl,_,B5,rfl,?_⟩;rw [strM,<- List.append_assoc,List.length_append (bs:=bytes s),hbs,Lib.byteCells_append,<- Lib.strCells_eq];exact ho5)
def partB (p:PartM):List UInt8:=numM p.kind ++ (strM p.text ++ numM p.n)
def itemB (x:ItemM):List UInt8:=numM (if x.via = true then 1 else 0) ++ strM x.name
def spotB (s:SpotM):List UInt8:=numM s.at_ ++ strM s.name
def insB (i:InsM):List UInt8:=numM i.op ++ (numM i.a ++ (numM i.b ++ numM i.c))
theorem le_app {a b:List UInt8} {n:Nat} (h:(a ++ b).length <= n):a.length <= n:=by rw [List.length_append] at h; omega
theorem CV_str {w0 w:World} {z0 z:Z} {B0 L B F:Bl} {K:Value->World->Prop} {bw:Nat} {ys:List UInt8} {s:ByteArray} (hS:Res w0 z0 B0 w z L) (hB:WrOk bw B ys) [gb:BringL L B F] (hs:s.size <= 1000000) (hb:(ys ++ strM s).length <= lots)
  (hk:∀ z' B' w',Le z z'->Res w0 z0 B0 w' z' (B' ++ F)->WrOk bw B' (ys ++ strM s)->K (.tuple #[]) w'):CV (.func (.func 92) #[] #[]) #[.pointer (some ⟨bw,0,none⟩),.string s] w K:=by
 refine CV_fn (B:=B) (F:=F) (hS.bring B) (str_of hB hs hb) (by simp) ?_;rintro z' B' w' v' hz hS' ⟨rfl,hB'⟩
 exact hk z' B' w' hz hS' hB'
theorem partW {z:Z} {w:World} {bw:Nat} {B:Bl} {ys:List UInt8} {p:PartM} (hB:WrOk bw B ys) (h1:Mid p.kind) (h2:p.text.size <= 1000000) (h3:Mid p.n) (hb:(ys ++ partB p).length <= lots) :
  Fn 96 #[.pointer (some ⟨bw,0,none⟩),p.v] z B w fun z' B' r=>r = .tuple #[]/\WrOk bw B' (ys ++ partB p):=Fn.intro fun hS=>en96 (by
 unfold vc96;have e0:ys ++ partB p = ((ys ++ numM p.kind) ++ strM p.text) ++ numM p.n:=by unfold partB; simp only [List.append_assoc]
 rw [e0] at hb ⊢;refine iV_bx ?_;intro b1 w1 hb1 hS1;clear hS;(repeat (first | refine V_run ?_ | refine iV_ld1 ?_));refine V_lit [p.kind] rfl rfl (by omega) ?_;intro z2 w2 v2 hz2 hS2 hv2;refine CV_ints (B:=B) hS2 hB hv2 (fun n hn=>by simp at hn; subst hn; exact h1) (by simpa using le_app (le_app hb)) ?_;intro z3 B3 w3 hz3 hS3 hB3;simp only [List.flatMap_cons,List.flatMap_nil,List.append_nil] at hB3;clear hS1 hS2;(repeat (first | refine V_run ?_ | refine iV_ld1 ?_));refine CV_str (B:=B3) hS3 hB3 h2 (le_app hb) ?_;intro z4 B4 w4 hz4 hS4 hB4;clear hS3;(repeat (first | refine V_run ?_ | refine iV_ld1 ?_));refine V_lit [p.n] rfl rfl (by omega) ?_;intro z5 w5 v5 hz5 hS5 hv5;refine CV_ints (B:=B4) hS5 hB4 hv5 (fun n hn=>by simp at hn; subst hn; exact h3) (by simpa using hb) ?_;intro z6 B6 w6 hz6 hS6 hB6;simp only [List.flatMap_cons,List.flatMap_nil,List.append_nil] at hB6;exact ⟨_,_,hS6.sublist (List.sublist_append_left _ _),rfl,hB6⟩)
theorem itemW {z:Z} {w:World} {bw:Nat} {B:Bl} {ys:List UInt8} {x:ItemM} (hB:WrOk bw B ys) (h2:x.name.size <= 1000000) (hb:(ys ++ itemB x).length <= lots) :
  Fn 100 #[.pointer (some ⟨bw,0,none⟩),x.v] z B w fun z' B' r=>r = .tuple #[]/\WrOk bw B' (ys ++ itemB x):=Fn.intro fun hS=>en100 (by
 unfold vc100;have e0:ys ++ itemB x = (ys ++ numM (if x.via = true then 1 else 0)) ++ strM x.name:=by unfold itemB; simp only [List.append_assoc]
 rw [e0] at hb ⊢;refine iV_bx ?_;intro b1 w1 hb1 hS1;clear hS
 skip
 refine JGIe (y:=if x.via = true then 1 else 0) (by cases x.via <;> rfl) ?_;intro z7 w7 hz7 hS7;clear hS1;refine V_lit [if x.via = true then 1 else 0] rfl rfl (by omega) ?_;intro z2 w2 v2 hz2 hS2 hv2;refine CV_ints (B:=B) hS2 hB hv2 (fun n hn=>by simp at hn; subst hn; exact Mid.of (by split <;> omega)) (by simpa using le_app hb) ?_;intro z3 B3 w3 hz3 hS3 hB3;simp only [List.flatMap_cons,List.flatMap_nil,List.append_nil] at hB3;clear hS7 hS2;(repeat (first | refine V_run ?_ | refine iV_ld1 ?_));refine CV_str (B:=B3) hS3 hB3 h2 hb ?_;intro z4 B4 w4 hz4 hS4 hB4;exact ⟨_,_,hS4.sublist (List.sublist_append_left _ _),rfl,hB4⟩)
theorem spotW {z:Z} {w:World} {bw:Nat} {B:Bl} {ys:List UInt8} {s:SpotM} (hB:WrOk bw B ys) (h1:Mid s.at_) (h2:s.name.size <= 1000000) (hb:(ys ++ spotB s).length <= lots) :
  Fn 102 #[.pointer (some ⟨bw,0,none⟩),s.v] z B w fun z' B' r=>r = .tuple #[]/\WrOk bw B' (ys ++ spotB s):=Fn.intro fun hS=>en102 (by
 unfold vc102;have e0:ys ++ spotB s = (ys ++ numM s.at_) ++ strM s.name:=by unfold spotB; simp only [List.append_assoc]
 rw [e0] at hb ⊢;refine iV_bx ?_;intro b1 w1 hb1 hS1;clear hS;(repeat (first | refine V_run ?_ | refine iV_ld1 ?_));refine V_lit [s.at_] rfl rfl (by omega) ?_;intro z2 w2 v2 hz2 hS2 hv2;refine CV_ints (B:=B) hS2 hB hv2 (fun n hn=>by simp at hn; subst hn; exact h1) (by simpa using le_app hb) ?_;intro z3 B3 w3 hz3 hS3 hB3;simp only [List.flatMap_cons,List.flatMap_nil,List.append_nil] at hB3;clear hS1 hS2;(repeat (first | refine V_run ?_ | refine iV_ld1 ?_));refine CV_str (B:=B3) hS3 hB3 h2 hb ?_;intro z4 B4 w4 hz4 hS4 hB4;exact ⟨_,_,hS4.sublist (List.sublist_append_left _ _),rfl,hB4⟩)
theorem insW {z:Z} {w:World} {bw:Nat} {B:Bl} {ys:List UInt8} {i:InsM} (hB:WrOk bw B ys) (h1:Mid i.op) (h2:Mid i.a) (h3:Mid i.b) (h4:Mid i.c) (hb:(ys ++ insB i).length <= lots) :
  Fn 104 #[.pointer (some ⟨bw,0,none⟩),i.v] z B w fun z' B' r=>r = .tuple #[]/\WrOk bw B' (ys ++ insB i):=Fn.intro fun hS=>en104 (by
 unfold vc104;have e0:insB i = [i.op,i.a,i.b,i.c].flatMap numM:=by unfold insB; simp only [List.flatMap_cons,List.flatMap_nil,List.append_nil]
 rw [e0] at hb ⊢;refine iV_bx ?_;intro b1 w1 hb1 hS1;clear hS;(repeat (first | refine V_run ?_ | refine iV_ld1 ?_));refine V_lit [i.op,i.a,i.b,i.c] rfl rfl (by omega) ?_;intro z2 w2 v2 hz2 hS2 hv2;refine CV_ints (B:=B) hS2 hB hv2 (fun n hn=>by simp at hn; rcases hn with rfl | rfl | rfl | rfl <;> assumption) hb ?_;intro z3 B3 w3 hz3 hS3 hB3;exact ⟨_,_,hS3.sublist (List.sublist_append_left _ _),rfl,hB3⟩)
end
section
open Go Q Go.RowKit
def vcAll1 (S T fi:Nat) (R:Value->World->Prop) (w:World) (t0 t1 t2:Value):Prop:=
 V (Builtin.len_ #[S] 3 #[t1]) w fun t10 w=>V (bs 45 1 #[(0,t10)]) w fun t11 w=>CV (.func (.func fi) #[] #[]) #[t0,t11] w fun t12 w=>V (Builtin.len_ #[S] 3 #[t1]) w fun t14 w=>∃ (I0:List Value->World->Prop) (M0:List Value->World->Nat),I0 [(.int .i64 0)] w/\∀ g:Env,∀ t15,∀ w,I0 [t15] w->∀ m0,m0 = M0 [t15] w ->
 V (bi .lss 3 t15 t14) w fun t16 w=>CondW t16
 (V (ia S t1 t15) w fun t17 w=>V (ld T t17) w fun t18 w=>CV t2 #[t18] w fun t21 w=>V (bi .add 3 t15 (.int .i64 1)) w fun t22 w=>
 I0 [t22] w/\M0 [t22] w < m0)
 (R (.tuple #[]) w)
def vcAllN (S T fi:Nat) (R:Value->World->Prop) (w:World) (t0 t1 t2:Value):Prop:=
 V (Builtin.len_ #[S] 3 #[t1]) w fun t10 w=>V (bs 45 1 #[(0,t10)]) w fun t11 w=>CV (.func (.func fi) #[] #[]) #[t0,t11] w fun t12 w=>V (Builtin.len_ #[S] 3 #[t1]) w fun t14 w=>∃ (I0:List Value->World->Prop) (M0:List Value->World->Nat),I0 [(.int .i64 0)] w/\∀ g:Env,∀ t15,∀ w,I0 [t15] w->∀ m0,m0 = M0 [t15] w ->
 V (bi .lss 3 t15 t14) w fun t16 w=>CondW t16
 (V (ia S t1 t15) w fun t17 w=>V (ld T t17) w fun t18 w=>V (al T) w fun t7 w=>U (st T t7 t18) w fun w=>V (ld T t7) w fun t20 w=>CV t2 #[t20] w fun t21 w=>V (bi .add 3 t15 (.int .i64 1)) w fun t22 w=>
 I0 [t22] w/\M0 [t22] w < m0)
 (R (.tuple #[]) w)
def WrF {α:Type} (E:El α) (vf:List Value->Value) (fv:Value) (bw:Nat) (g:α->List UInt8) (xs:List α) (z:Z):Prop:=
 ∀ z' w' B ys x cs,x ∈ xs->Le z z'->E.rel z' cs x->WrOk bw B ys->(ys ++ g x).length <= lots->Va fv #[vf cs] z' B w' fun _ B' _=>WrOk bw B' (ys ++ g x)
section
variable {α:Type} {E:El α} {S T n fa:Nat} {z:Z} {w:World} {bw:Nat} {B:Bl} {ys:List UInt8} {v fv:Value} {xs:List α} {g:α->List UInt8}
theorem all1 [gs:TySlice S T 1] [go:TyOne T] (hE:E.size = 1)
  (h1:∀ {R:Value->World->Prop} {w:World} {t0 t1 t2:Value},vcAll1 S T 175 R w t0 t1 t2->Calls Tryz.prog fa #[t0,t1,t2] w (retK R)) (hB:WrOk bw B ys) (hx:SlR E z v xs) (hl:xs.length <= 1000000) (hf:WrF E one1 fv bw g xs z) (hb:(ys ++ (numM xs.length ++ xs.flatMap g)).length <= lots) :
  Fn fa #[.pointer (some ⟨bw,0,none⟩),v,fv] z B w fun z' B' r=>r = .tuple #[]/\WrOk bw B' (ys ++ (numM xs.length ++ xs.flatMap g)):=Fn.intro fun hS=>h1 (by
 unfold vcAll1;obtain ⟨_,a,cap,rfl,_,hel⟩:=hx.form;rw [<- List.append_assoc] at hb;refine V_run ?_;refine V_lit [(xs.length:Int)] rfl rfl (by omega) ?_;intro z2 w2 v2 hz2 hS2 hv2;refine CV_ints (B:=B) hS2 hB hv2 (fun n hn=>by simp at hn; subst hn; exact Mid.of (by omega)) (by simpa using le_app hb) ?_;intro z3 B3 w3 hz3 hS3 hB3;simp only [List.flatMap_cons,List.flatMap_nil,List.append_nil] at hB3;rw [List.append_nil] at hS3;refine V_run ?_;refine LoopG1 (fun (p:Nat × List UInt8) x w'=>x = .int .i64 p.1/\p.1 <= xs.length/\ys ++ numM xs.length ++ xs.flatMap g = p.2 ++ (xs.drop p.1).flatMap g/\∃ B' z',Le z z'/\WrOk bw B' p.2/\Res w z B w' z' B') (fun p=>xs.length - p.1) (0,ys ++ numM xs.length) ⟨rfl,by simp,rfl,B3,z3,hz2.trans hz3,hB3,hS3⟩ ?_;rintro I M ⟨k,us⟩ x w4 m ⟨rfl,hk,hys,B4,z4,hz4,hB4,hS4⟩ back
 simp only at hk hys hB4;dsimp only;clear hS2 hS3;refine V_run ?_;refine Cond_d (fun h=>?_) (fun h=>?_)
 ·have hlt:k < xs.length:=by omega
  haveI:InR (k:Int) (xs.length:Nat):=⟨by omega,by omega⟩
  haveI:InI ((k:Int) + 1):=⟨by omega⟩
  obtain ⟨b,off,cs,rfl,hr,hat⟩:=hel _ _ (List.getElem?_eq_getElem hlt);have hcl:=E.len hr;rw [hE] at hcl hat;obtain ⟨u,rfl⟩:∃ u,cs = [u]:=by
   cases cs with
   | nil=>cases hcl
   | cons u l=>
    have hl0:l = []:=List.eq_nil_of_length_eq_zero (by simpa using hcl);exact ⟨u,by rw [hl0]⟩
  rw [List.drop_eq_getElem_cons hlt,List.flatMap_cons] at hys;refine V_run ?_;refine zV_ld1 (hat.mono hz4) ?_;refine CV_va (B:=B4) (F:=[]) (by rw [List.append_nil]; exact hS4) (hf _ _ _ us _ _ (List.getElem_mem hlt) hz4 (E.mono hr hz4) hB4 (by rw [hys,<- List.append_assoc] at hb; exact le_app hb)) ?_;intro z5 B5 w5 v5 hz5 hS5 hB5;rw [List.append_nil] at hS5;refine V_run ?_;refine back (k + 1,us ++ g xs[k]) _ _ ⟨by simp,by simp only; omega,by simp only [List.append_assoc] at hys ⊢; exact hys,B5,z5,hz4.trans hz5,hB5,hS5⟩ (by simp only; omega)
 ·have hk2:k = xs.length:=by omega
  subst hk2;rw [List.drop_of_length_le (Nat.le_refl _),List.flatMap_nil,List.append_nil] at hys;exact ⟨_,_,hS4,rfl,by rw [<- List.append_assoc,hys]; exact hB4⟩)
theorem allN [gs:TySlice S T n] [ga:TyAgg T n] [gz:TySize T n] (hE:E.size = n) (hzero:∃ zs,TyZero T zs/\zs.length = n) (hone:∀ z cs x,E.rel z cs x->∀ u ∈ cs,isOne u = true)
  (h1:∀ {R:Value->World->Prop} {w:World} {t0 t1 t2:Value},vcAllN S T 175 R w t0 t1 t2->Calls Tryz.prog fa #[t0,t1,t2] w (retK R)) (hB:WrOk bw B ys) (hx:SlR E z v xs) (hl:xs.length <= 1000000) (hf:WrF E aggN fv bw g xs z) (hb:(ys ++ (numM xs.length ++ xs.flatMap g)).length <= lots) :
  Fn fa #[.pointer (some ⟨bw,0,none⟩),v,fv] z B w fun z' B' r=>r = .tuple #[]/\WrOk bw B' (ys ++ (numM xs.length ++ xs.flatMap g)):=Fn.intro fun hS=>h1 (by
 unfold vcAllN;obtain ⟨_,a,cap,rfl,_,hel⟩:=hx.form;rw [<- List.append_assoc] at hb;refine V_run ?_;refine V_lit [(xs.length:Int)] rfl rfl (by omega) ?_;intro z2 w2 v2 hz2 hS2 hv2;refine CV_ints (B:=B) hS2 hB hv2 (fun n hn=>by simp at hn; subst hn; exact Mid.of (by omega)) (by simpa using le_app hb) ?_;intro z3 B3 w3 hz3 hS3 hB3;simp only [List.flatMap_cons,List.flatMap_nil,List.append_nil] at hB3;rw [List.append_nil] at hS3;refine V_run ?_;refine LoopG1 (fun (p:Nat × List UInt8) x w'=>x = .int .i64 p.1/\p.1 <= xs.length/\ys ++ numM xs.length ++ xs.flatMap g = p.2 ++ (xs.drop p.1).flatMap g/\∃ B' z',Le z z'/\WrOk bw B' p.2/\Res w z B w' z' B') (fun p=>xs.length - p.1) (0,ys ++ numM xs.length) ⟨rfl,by simp,rfl,B3,z3,hz2.trans hz3,hB3,hS3⟩ ?_;rintro I M ⟨k,us⟩ x w4 m ⟨rfl,hk,hys,B4,z4,hz4,hB4,hS4⟩ back
 simp only at hk hys hB4;dsimp only;clear hS2 hS3;refine V_run ?_;refine Cond_d (fun h=>?_) (fun h=>?_)
 ·have hlt:k < xs.length:=by omega
  haveI:InR (k:Int) (xs.length:Nat):=⟨by omega,by omega⟩
  haveI:InI ((k:Int) + 1):=⟨by omega⟩
  obtain ⟨b,off,cs,rfl,hr,hat⟩:=hel _ _ (List.getElem?_eq_getElem hlt);have hcl:=E.len hr;rw [hE] at hcl hat;rw [List.drop_eq_getElem_cons hlt,List.flatMap_cons] at hys;refine V_run ?_;refine zV_ldN (hat.mono hz4) hcl ?_;refine V_alN hzero ?_;intro b7 w7 zs hzs hb7 hS7;refine U_st (vs:=cs) (n:=n) (l:=zs) (l':=cs) (go:=⟨hone _ _ _ hr⟩) (gl:=SetN.whole (hzs.trans hcl.symm)) hS7 hcl ?_;intro w8 hS8;refine V_ldN (n:=n) (vs:=cs) ⟨_,_,_,(hS8.mem _ List.mem_cons_self).1,fun j u hu=>by rw [Nat.zero_add]; simpa using hu⟩ hcl ?_;have hS9:=hS8.sublist (List.sublist_cons_self _ _);refine CV_va (B:=B4) (F:=[]) (by rw [List.append_nil]; exact hS9) (hf _ _ _ us _ _ (List.getElem_mem hlt) hz4 (E.mono hr hz4) hB4 (by rw [hys,<- List.append_assoc] at hb; exact le_app hb)) ?_;intro z5 B5 w5 v5 hz5 hS5 hB5;rw [List.append_nil] at hS5;refine V_run ?_;refine back (k + 1,us ++ g xs[k]) _ _ ⟨by simp,by simp only; omega,by simp only [List.append_assoc] at hys ⊢; exact hys,B5,z5,hz4.trans hz5,hB5,hS5⟩ (by simp only; omega)
 ·have hk2:k = xs.length:=by omega
  subst hk2;rw [List.drop_of_length_le (Nat.le_refl _),List.flatMap_nil,List.append_nil] at hys;exact ⟨_,_,hS4,rfl,by rw [<- List.append_assoc,hys]; exact hB4⟩)
end
end
section
open Go Q Go.RowKit
def tmplE (l:List PartM):List UInt8:=numM l.length ++ l.flatMap partB
def listE (l:List ItemM):List UInt8:=numM l.length ++ l.flatMap itemB
def encM (c:CodeM):List UInt8:=
 [81] ++ (numM c.consts.length ++ c.consts.flatMap strM) ++ (numM c.tmpls.length ++ c.tmpls.flatMap tmplE) ++ (numM c.lists.length ++ c.lists.flatMap listE) ++ (numM c.labels.length ++ c.labels.flatMap spotB) ++ (numM c.slots.length ++ c.slots.flatMap strM) ++ (numM c.ins.length ++ c.ins.flatMap insB)
theorem ranged_small {k n:Int} (h:rangedM k n = true) (hk:k ≠ 23):0 <= n/\n <= 99:=by
 unfold rangedM at h
 cases hf:rngTab.find? (fun p=>p.1 == k) with
 | some p=>
  rw [hf] at h;have hm:=List.mem_of_find?_eq_some hf;have ha:rngTab.all (fun p=>decide (0 <= p.2.1/\p.2.2 <= 99)) = true:=by decide +kernel
  have:=List.all_eq_true.1 ha p hm;simp only [decide_eq_true_eq] at this;have:=inB_iff.1 h;omega
 | none=>
  rw [hf] at h;have h':(decide (k = 23) || (decide (k = 22) && decide (repsM n ≥ 0))) = true:=h;rw [decide_eq_false hk,Bool.false_or,Bool.and_eq_true] at h';have:=of_decide_eq_true h'.2;unfold repsM at this
  split at this
  ·omega
  ·omega
theorem good_small {c:CodeM} (hl:limitsM c = true) {k n:Int} (h:goodM c k n = true) (hk:k ≠ 23):-1 <= n/\n <= 100000:=by
 have hb:=limits_bd hl;have named_small:∀ p,namedM c n p = true->0 <= n/\n <= 3000:=fun p hp=>by
  unfold namedM at hp;simp only [Bool.and_eq_true] at hp;have:=inB_iff.1 hp.1;omega
 unfold goodM at h
 by_cases e1:k = 1
 ·rw [if_pos e1] at h; have:=inB_iff.1 h; omega
 rw [if_neg e1] at h
 by_cases e8:k = 8
 ·rw [if_pos e8] at h; rw [Bool.or_eq_true,decide_eq_true_eq] at h; rcases h with h | h
  ·omega
  ·have:=named_small _ h; omega
 rw [if_neg e8] at h
 by_cases e2:k = 2
 ·rw [if_pos e2] at h; have:=named_small _ h; omega
 rw [if_neg e2] at h
 by_cases e3:k = 3
 ·rw [if_pos e3] at h; have:=named_small _ h; omega
 rw [if_neg e3] at h
 by_cases e4:k = 4
 ·rw [if_pos e4] at h; have:=named_small _ h; omega
 rw [if_neg e4] at h
 by_cases e5:k = 5
 ·rw [if_pos e5] at h; have:=named_small _ h; omega
 rw [if_neg e5] at h
 by_cases e6:k = 6
 ·rw [if_pos e6] at h; have:=named_small _ h; omega
 rw [if_neg e6] at h
 by_cases e7:k = 7
 ·rw [if_pos e7] at h; rw [Bool.or_eq_true] at h; rcases h with h | h <;> (have:=named_small _ h; omega)
 rw [if_neg e7] at h
 by_cases e9:k = 9
 ·rw [if_pos e9] at h; have:=inB_iff.1 h; omega
 rw [if_neg e9] at h
 by_cases e10:k = 10
 ·rw [if_pos e10] at h; have:=inB_iff.1 h; omega
 rw [if_neg e10] at h
 by_cases e12:k = 12
 ·rw [if_pos e12] at h; rw [Bool.or_eq_true,decide_eq_true_eq] at h; rcases h with h | h
  ·omega
  ·have:=inB_iff.1 h; omega
 rw [if_neg e12] at h
 by_cases e11:k = 11
 ·rw [if_pos e11] at h; have:=inB_iff.1 h; omega
 rw [if_neg e11] at h
 by_cases e13:k = 13
 ·rw [if_pos e13] at h; have:=inB_iff.1 h; omega
 rw [if_neg e13] at h;have:=ranged_small h hk;omega
theorem other_ops {n:Int} (h:opOk n = true):((formAt n).k0 = 23->n = 12 \/ n = 21 \/ n = 22)/\((formAt n).k1 = 23->n = 19)/\((formAt n).k2 = 23->n = 22):=by
 have key:∀ j:Fin 47,((formL.getD j noForm).k0 = 23->(j:Nat) = 12 \/ (j:Nat) = 21 \/ (j:Nat) = 22)/\((formL.getD j noForm).k1 = 23->(j:Nat) = 19)/\((formL.getD j noForm).k2 = 23->(j:Nat) = 22):=by decide +kernel
 have hh:=h;simp only [opOk,Bool.and_eq_true,decide_eq_true_eq] at hh;have hk:=key ⟨n.toNat,by omega⟩;have hf:formAt n = formL.getD n.toNat noForm:=by unfold formAt; rw [if_pos h]
 rw [hf];simp only at hk;refine ⟨fun e=>?_,fun e=>?_,fun e=>?_⟩
 ·have:=hk.1 e; omega
 ·have:=hk.2.1 e; omega
 ·have:=hk.2.2 e; omega
theorem right_small {c:CodeM} (hl:limitsM c = true) {i:InsM} (h:rightM c i = true):1 <= i.op/\i.op <= 46/\(-1 <= i.a/\i.a <= 100000)/\(-1 <= i.b/\i.b <= 100000)/\(-1 <= i.c/\i.c <= 100000):=by
 have hb:=limits_bd hl;unfold rightM at h;simp only [Bool.and_eq_true] at h;obtain ⟨h1,h2,h3,h4,h5⟩:=h;obtain ⟨o1,o2,o3⟩:=other_ops h1;have hop:=h1;simp only [opOk,Bool.and_eq_true,decide_eq_true_eq] at hop;refine ⟨by omega,by omega,?_,?_,?_⟩
 ·by_cases e:(formAt i.op).k0 = 23
  ·have:=o1 e
   unfold specialM at h5
   by_cases e1:i.op = 12 \/ i.op = 21
   ·rw [if_pos e1] at h5
    unfold namedM at h5;simp only [Bool.and_eq_true] at h5;have:=inB_iff.1 h5.1;omega
   ·rw [if_neg e1,if_neg (by omega),if_pos (by omega)] at h5
    simp only [Bool.and_eq_true,Bool.not_eq_true',Bool.or_eq_false_iff,Bool.not_eq_false'] at h5;have:=inB_iff.1 h5.1.1;omega
  ·exact good_small hl h2 e
 ·by_cases e:(formAt i.op).k1 = 23
  ·have e1:=o2 e
   unfold specialM at h5;rw [if_neg (by omega),if_pos e1] at h5;simp only [Bool.or_eq_true,Bool.and_eq_true,decide_eq_true_eq] at h5
   rcases h5 with h5 | h5
   ·omega
   ·exact good_small hl h5.2 (by decide)
  ·exact good_small hl h3 e
 ·by_cases e:(formAt i.op).k2 = 23
  ·have e1:=o3 e
   unfold specialM at h5;rw [if_neg (by omega),if_neg (by omega),if_pos e1] at h5;simp only [Bool.or_eq_true,Bool.and_eq_true,decide_eq_true_eq] at h5
   rcases h5.2 with h5 | h5
   ·omega
   ·exact good_small hl h5.2 (by decide)
  ·exact good_small hl h4 e
theorem sym_size {s:ByteArray} (h:symKind s ≠ 0):s.size <= 40:=by
 unfold symKind at h
 by_cases e:(!inB s.size 1 40 || (!((bytes s).all symC) && !expB s)) = true
 ·rw [if_pos e] at h; exact absurd rfl h
 ·simp only [Bool.or_eq_true,not_or,Bool.not_eq_true',Bool.not_eq_false] at e
  have:=inB_iff.1 (by simpa using e.1);omega
theorem var_size {s:ByteArray} (h:varB s = true):s.size <= 40:=sym_size (by unfold varB at h; simp only [decide_eq_true_eq] at h; omega)
theorem valid_size {s:ByteArray} (h:validB s = true):s.size <= 1000:=by
 unfold validB at h; simp only [Bool.and_eq_true,decide_eq_true_eq] at h; exact h.1
theorem part_small {p:PartM} (h:partM p = true):1 <= p.kind/\p.kind <= 11/\p.text.size <= 1000/\0 <= p.n/\p.n <= 999999999:=by
 unfold partM at h
 split at h
 ·simp only [Bool.and_eq_true,decide_eq_true_eq] at h; have:=var_size h.1; omega
 split at h
 ·simp only [Bool.and_eq_true,decide_eq_true_eq] at h; have:=valid_size h.1; omega
 split at h
 ·simp only [Bool.and_eq_true,decide_eq_true_eq] at h; have:=sym_size (s:=p.text) (by omega); omega
 split at h
 ·simp only [Bool.and_eq_true,decide_eq_true_eq] at h
  have:=inB_iff.1 h.2;have hz:p.text.size = 0:=by rw [h.1]; rfl
  omega
 split at h
 ·simp only [Bool.and_eq_true,decide_eq_true_eq] at h
  have hz:p.text.size = 0:=by rw [h.1]; rfl
  omega
 ·cases h
theorem allS_slots:∀ {l h:List ByteArray},(allS sloS h l).1 = true->∀ s ∈ l,symKind s = 2
 | [],_,_,s,hs=>by cases hs
 | x :: l,h,hh,s,hs=>by
  rw [allS_cons,show sloS h x = ((sloS h x).1,(sloS h x).2) from rfl] at hh
  cases hx:(sloS h x).1 with
  | false=>rw [hx] at hh; cases hh
  | true=>
   rw [hx] at hh;simp only [sloS,Bool.and_eq_true,decide_eq_true_eq] at hx
   rcases List.mem_cons.1 hs with rfl | hs
   ·exact hx.1
   ·exact allS_slots hh s hs
theorem labs_valid {n:Nat}:∀ {l:List SpotM} {last:Int},(allS (labS n) last l).1 = true->∀ s ∈ l,validB s.name = true
 | [],_,_,s,hs=>by cases hs
 | x :: l,last,h,s,hs=>by
  rw [allS_cons,show labS n last x = ((labS n last x).1,(labS n last x).2) from rfl] at h
  cases hx:(labS n last x).1 with
  | false=>rw [hx] at h; cases h
  | true=>
   rw [hx] at h;simp only [labS,Bool.and_eq_true] at hx
   rcases List.mem_cons.1 hs with rfl | hs
   ·exact hx.1
   ·exact labs_valid h s hs
structure SmallC (c:CodeM):Prop where
 consts:∀ s ∈ c.consts,s.size <= 1000
 tmpls:∀ l ∈ c.tmpls,l.length <= 100/\∀ p ∈ l,partM p = true
 lists:∀ l ∈ c.lists,l.length <= 10000/\∀ x ∈ l,x.name.size <= 40
 labels:∀ s ∈ c.labels,(0 <= s.at_/\s.at_ < 12000)/\s.name.size <= 1000
 slots:∀ s ∈ c.slots,s.size <= 40
 ins:∀ i ∈ c.ins,1 <= i.op/\i.op <= 46/\(-1 <= i.a/\i.a <= 100000)/\(-1 <= i.b/\i.b <= 100000)/\(-1 <= i.c/\i.c <= 100000)
 num:c.consts.length <= 3000/\c.tmpls.length <= 3000/\c.lists.length <= 3000/\c.labels.length <= 3000/\c.slots.length <= 100/\c.ins.length <= 12000
theorem small_of {c:CodeM} (hl:limitsM c = true) (hp:partsM c = true) (hr:∀ i ∈ c.ins,rightM c i = true):SmallC c:=by
 have hb:=limits_bd hl;have hlab:=labels_in hp;have hl0:=hl;unfold limitsM at hl;unfold partsM at hp;simp only [Bool.and_eq_true,List.all_eq_true] at hl hp;obtain ⟨_,l2,_,l4,_⟩:=hl;obtain ⟨_,p1,p2,p3,p4,p5⟩:=hp;refine ⟨fun s hs=>valid_size (p1 s hs),fun l h=>⟨?_,?_⟩,fun l h=>⟨?_,?_⟩,fun s hs=>⟨⟨(hlab s hs).1,?_⟩,valid_size (labs_valid p4 s hs)⟩,fun s hs=>sym_size (by rw [allS_slots p5 s hs]; decide),fun i hi=>?_,hb⟩
 ·have:=l2 l h; unfold lim2 at this; simp only [Bool.and_eq_true,decide_eq_true_eq] at this; exact this.1
 ·have:=p2 l h; unfold tmplB at this; simpa using this
 ·have:=l4 l h; unfold lim3 at this; simpa using this
 ·have:=p3 l h; unfold listB at this; simp only [Bool.and_eq_true,List.all_eq_true] at this; exact fun x hx=>var_size (this.2 x hx)
 ·have:=(hlab s hs).2; omega
 ·exact right_small hl0 (hr i hi)
theorem flat_le {α:Type} {g:α->List UInt8} {k:Nat}:∀ {xs:List α},(∀ x ∈ xs,(g x).length <= k)->(xs.flatMap g).length <= xs.length * k
 | [],_=>by simp
 | x :: xs,h=>by
  rw [List.flatMap_cons,List.length_append,List.length_cons,Nat.add_mul];have:=h x List.mem_cons_self;have:=flat_le (xs:=xs) fun y hy=>h y (List.mem_cons_of_mem _ hy)
  omega
theorem strM_len {s:ByteArray}:(strM s).length <= 10 + s.size:=by unfold strM; rw [List.length_append,<- size_bytes]; have:=@numM_len s.size; omega
theorem encM_len {c:CodeM} (h:SmallC c):(encM c).length <= 10000000000:=by
 have hn:=@numM_len;have b1:(c.consts.flatMap strM).length <= c.consts.length * 1010:=flat_le fun s hs=>by have:=h.consts s hs; have:=@strM_len s; omega
 have b2:(c.tmpls.flatMap tmplE).length <= c.tmpls.length * 110000:=flat_le fun l hl=>by
  obtain ⟨g1,g2⟩:=h.tmpls l hl;have:(l.flatMap partB).length <= l.length * 1050:=flat_le fun p hp=>by
   have:=part_small (g2 p hp);have:=@strM_len p.text;have:=@numM_len p.kind;have:=@numM_len p.n;unfold partB;simp only [List.length_append];omega
  have:=@numM_len l.length;unfold tmplE;rw [List.length_append];have:l.length * 1050 <= 100 * 1050:=Nat.mul_le_mul_right _ g1;omega
 have b3:(c.lists.flatMap listE).length <= c.lists.length * 700000:=flat_le fun l hl=>by
  obtain ⟨g1,g2⟩:=h.lists l hl;have:(l.flatMap itemB).length <= l.length * 60:=flat_le fun x hx=>by
   have:=g2 x hx;have:=@strM_len x.name;have:=@numM_len (if x.via = true then 1 else 0);unfold itemB;simp only [List.length_append];omega
  have:=@numM_len l.length;unfold listE;rw [List.length_append];have:l.length * 60 <= 10000 * 60:=Nat.mul_le_mul_right _ g1;omega
 have b4:(c.labels.flatMap spotB).length <= c.labels.length * 1020:=flat_le fun s hs=>by
  have:=(h.labels s hs).2;have:=@strM_len s.name;have:=@numM_len s.at_;unfold spotB;rw [List.length_append];omega
 have b5:(c.slots.flatMap strM).length <= c.slots.length * 50:=flat_le fun s hs=>by have:=h.slots s hs; have:=@strM_len s; omega
 have b6:(c.ins.flatMap insB).length <= c.ins.length * 40:=flat_le fun i hi=>by
  have:=@numM_len i.op;have:=@numM_len i.a;have:=@numM_len i.b;have:=@numM_len i.c;unfold insB;simp only [List.length_append];omega
 obtain ⟨n1,n2,n3,n4,n5,n6⟩:=h.num;have:=@numM_len c.consts.length;have:=@numM_len c.tmpls.length;have:=@numM_len c.lists.length;have:=@numM_len c.labels.length;have:=@numM_len c.slots.length;have:=@numM_len c.ins.length;unfold encM;simp only [List.length_append,List.length_singleton];omega
end
section
open Go Q Go.RowKit
theorem WrF.va {α:Type} {E:El α} {vf:List Value->Value} {f:FuncId} [Enters f] {bw:Nat} {g:α->List UInt8} {xs:List α} {z:Z}
  (h:∀ z' w' B ys x cs,x ∈ xs->Le z z'->E.rel z' cs x->WrOk bw B ys->(ys ++ g x).length <= lots->Fn f #[.pointer (some ⟨bw,0,none⟩),vf cs] z' B w' fun _ B' r=>r = .tuple #[]/\WrOk bw B' (ys ++ g x)):WrF E vf (.func (.func f) #[.pointer (some ⟨bw,0,none⟩)] #[]) bw g xs z:=
 fun z' w' B ys x cs hm hz hr hB hb ho=>CallV.mono (Fn.va (first:=#[.pointer (some ⟨bw,0,none⟩)]) (cap:=#[]) (args':=#[.pointer (some ⟨bw,0,none⟩),vf cs]) (h z' w' B ys x cs hm hz hr hB hb) (by simp) ho) fun v w'' ⟨z'',B'',h1,_,h2⟩=>⟨z'',B'',h1,h2⟩
theorem wStr {bw:Nat} {xs:List ByteArray} {z:Z} (h:∀ s ∈ xs,s.size <= 1000000):WrF El.str one1 (.func (.func 92) #[.pointer (some ⟨bw,0,none⟩)] #[]) bw strM xs z:=
 WrF.va fun z' w' B ys x cs hm hz hr hB hb=>by obtain ⟨rfl,_⟩:=hr; exact str_of hB (h x hm) hb
theorem wPart {bw:Nat} {xs:List PartM} {z:Z} (h:∀ p ∈ xs,partM p = true):WrF El.part aggN (.func (.func 96) #[.pointer (some ⟨bw,0,none⟩)] #[]) bw partB xs z:=
 WrF.va fun z' w' B ys x cs hm hz hr hB hb=>by
  obtain ⟨rfl,_⟩:=hr;have:=part_small (h x hm);exact partW hB (Mid.of (by omega)) (by omega) (Mid.of (by omega)) hb
theorem wItem {bw:Nat} {xs:List ItemM} {z:Z} (h:∀ x ∈ xs,x.name.size <= 40):WrF El.item aggN (.func (.func 100) #[.pointer (some ⟨bw,0,none⟩)] #[]) bw itemB xs z:=
 WrF.va fun z' w' B ys x cs hm hz hr hB hb=>by
  obtain ⟨rfl,_⟩:=hr;have:=h x hm;exact itemW hB (by omega) hb
theorem wSpot {bw:Nat} {xs:List SpotM} {z:Z} (h:∀ s ∈ xs,(0 <= s.at_/\s.at_ < 12000)/\s.name.size <= 1000):WrF El.spot aggN (.func (.func 102) #[.pointer (some ⟨bw,0,none⟩)] #[]) bw spotB xs z:=
 WrF.va fun z' w' B ys x cs hm hz hr hB hb=>by
  obtain ⟨rfl,_⟩:=hr;have:=h x hm;exact spotW hB (Mid.of (by omega)) (by omega) hb
theorem wIns {bw:Nat} {xs:List InsM} {z:Z} (h:∀ i ∈ xs,1 <= i.op/\i.op <= 46/\(-1 <= i.a/\i.a <= 100000)/\(-1 <= i.b/\i.b <= 100000)/\(-1 <= i.c/\i.c <= 100000)):WrF El.ins aggN (.func (.func 104) #[.pointer (some ⟨bw,0,none⟩)] #[]) bw insB xs z:=
 WrF.va fun z' w' B ys x cs hm hz hr hB hb=>by
  cases hr
  have:=h x hm;exact insW hB (Mid.of (by omega)) (Mid.of (by omega)) (Mid.of (by omega)) (Mid.of (by omega)) hb
theorem onePart {z:Z} {cs:List Value} {x:PartM} (h:El.part.rel z cs x):∀ u ∈ cs,isOne u = true:=by
 obtain ⟨rfl,_⟩:=h; intro u hu; simp only [PartM.cells,List.mem_cons,List.not_mem_nil,or_false] at hu; rcases hu with rfl | rfl | rfl <;> rfl
theorem oneItem {z:Z} {cs:List Value} {x:ItemM} (h:El.item.rel z cs x):∀ u ∈ cs,isOne u = true:=by
 obtain ⟨rfl,_⟩:=h; intro u hu; simp only [ItemM.cells,List.mem_cons,List.not_mem_nil,or_false] at hu; rcases hu with rfl | rfl <;> rfl
theorem oneSpot {z:Z} {cs:List Value} {x:SpotM} (h:El.spot.rel z cs x):∀ u ∈ cs,isOne u = true:=by
 obtain ⟨rfl,_⟩:=h; intro u hu; simp only [SpotM.cells,List.mem_cons,List.not_mem_nil,or_false] at hu; rcases hu with rfl | rfl <;> rfl
theorem oneIns {z:Z} {cs:List Value} {x:InsM} (h:El.ins.rel z cs x):∀ u ∈ cs,isOne u = true:=by
 cases h; intro u hu; simp only [InsM.cells,List.mem_cons,List.not_mem_nil,or_false] at hu; rcases hu with rfl | rfl | rfl | rfl <;> rfl
section
variable {z:Z} {w:World} {bw b6:Nat} {B:Bl} {ys:List UInt8}
theorem allStr {v:Value} {xs:List ByteArray} (hB:WrOk bw B ys) (hx:SlR El.str z v xs) (hl:xs.length <= 1000000) (h:∀ s ∈ xs,s.size <= 1000000) (hb:(ys ++ (numM xs.length ++ xs.flatMap strM)).length <= lots) :
  Fn 91 #[.pointer (some ⟨bw,0,none⟩),v,.func (.func 92) #[.pointer (some ⟨bw,0,none⟩)] #[]] z B w fun z' B' r=>r = .tuple #[]/\WrOk bw B' (ys ++ (numM xs.length ++ xs.flatMap strM)):=
 all1 (S:=22) (T:=9) (E:=El.str) rfl (fun h=>en91 h) hB hx hl (wStr h) hb
theorem enc1 {v:Value} {l:List PartM} (h6:At z b6 0 [.pointer (some ⟨bw,0,none⟩)]) (hv:SlR El.part z v l) (hl:l.length <= 100) (hp:∀ p ∈ l,partM p = true) (hB:WrOk bw B ys) (hb:(ys ++ tmplE l).length <= lots) :
  Va (.func (.func 94) #[] #[.pointer (some ⟨b6,0,none⟩)]) #[v] z B w fun _ B' _=>WrOk bw B' (ys ++ tmplE l):=
 Fn.va (args':=#[v,.pointer (some ⟨b6,0,none⟩)]) (Fn.intro fun hS=>en94 (by
  unfold vc94;haveI:TyOne 154:=inferInstance;refine zV_ld1 h6 ?_;refine zV_ld1 h6 ?_;refine CV_fn (B:=B) (F:=[]) (by rw [List.append_nil]; exact hS) (allN (S:=93) (T:=95) (n:=3) (E:=El.part) (fa:=95) rfl ⟨_,inferInstance,rfl⟩ (fun _ _ _ h=>onePart h) (fun h=>en95 h) hB hv (by omega) (wPart hp) hb) (by simp) ?_;rintro z2 B2 w2 v2 hz2 hS2 ⟨rfl,hB2⟩
  rw [List.append_nil] at hS2;exact ⟨_,_,hS2,hB2⟩)) (by simp)
theorem enc2 {v:Value} {l:List ItemM} (h6:At z b6 0 [.pointer (some ⟨bw,0,none⟩)]) (hv:SlR El.item z v l) (hl:l.length <= 10000) (hp:∀ x ∈ l,x.name.size <= 40) (hB:WrOk bw B ys) (hb:(ys ++ listE l).length <= lots) :
  Va (.func (.func 98) #[] #[.pointer (some ⟨b6,0,none⟩)]) #[v] z B w fun _ B' _=>WrOk bw B' (ys ++ listE l):=
 Fn.va (args':=#[v,.pointer (some ⟨b6,0,none⟩)]) (Fn.intro fun hS=>en98 (by
  unfold vc98;refine zV_ld1 h6 ?_;refine zV_ld1 h6 ?_;refine CV_fn (B:=B) (F:=[]) (by rw [List.append_nil]; exact hS) (allN (S:=96) (T:=98) (n:=2) (E:=El.item) (fa:=99) rfl ⟨_,inferInstance,rfl⟩ (fun _ _ _ h=>oneItem h) (fun h=>en99 h) hB hv (by omega) (wItem hp) hb) (by simp) ?_;rintro z2 B2 w2 v2 hz2 hS2 ⟨rfl,hB2⟩
  rw [List.append_nil] at hS2;exact ⟨_,_,hS2,hB2⟩)) (by simp)
end
def encE (c:CodeM):Int:=if (checkM c).1 = 0 then (if (encM c).length > 400000 then 3 else 0) else (checkM c).1
def encB (c:CodeM):List UInt8:=if (checkM c).1 = 0 then (if (encM c).length > 400000 then [] else encM c) else []
theorem byteCells_flat (l:List UInt8):(l.flatMap fun x=>[Value.int .u8 x.toNat]) = Lib.byteCells l:=by
 induction l with
 | nil=>rfl
 | cons a l ih=>rw [List.flatMap_cons,ih]; rfl
theorem encode_of {z:Z} {w:World} {v:Value} {c:CodeM} (hc:CodeR z v c):Fn1 35 #[v] z w fun z' r=>∃ vb,r = .tuple #[vb,.int .i64 (encE c)]/\SlR El.byte z' vb (encB c):=Fn1.intro fun hS=>en35 (by
 unfold vc35;obtain ⟨a1,a2,a3,a4,a5,a6,k1,k2,k3,k4,k5,k6,rfl,h1,h2,h3,h4,h5,h6⟩:=hc.form;refine iV_bx ?_;intro bc w1 hbc hS1;obtain ⟨zc,hzc,hS2,hatc⟩:=hS1.frz bc;generalize hRR:(fun (v:Value) (w':World)=>∃ z' L',Res w z [] w' z' L'/\∃ vb,v = .tuple #[vb,.int .i64 (encE c)]/\SlR El.byte z' vb (encB c)) = RR;have hR:∀ z' w' L' vb,Res w1 zc [] w' z' L'->SlR El.byte z' vb (encB c)->RR (.tuple #[vb,.int .i64 (encE c)]) w':=fun z' w' L' vb k hd=>by rw [<- hRR]; exact ⟨z',L',hS2.comp k,vb,rfl,hd⟩
 clear hRR;have hS3:=hS2.self;clear hS hS1 hS2;haveI:CodeZ zc (.agg (codeVs a1 a2 a3 a4 a5 a6 k1 k2 k3 k4 k5 k6 c).toArray) c:=⟨hc.mono hzc⟩
 refine zV_ldN (n:=6) hatc rfl ?_;haveI:Fz zc bc 0 [.slice a1 c.consts.length k1]:=⟨hatc.fld (i:=0) rfl rfl⟩
 haveI:Fz zc bc 1 [.slice a2 c.tmpls.length k2]:=⟨hatc.fld (i:=1) rfl rfl⟩
 haveI:Fz zc bc 2 [.slice a3 c.lists.length k3]:=⟨hatc.fld (i:=2) rfl rfl⟩
 haveI:Fz zc bc 3 [.slice a4 c.labels.length k4]:=⟨hatc.fld (i:=3) rfl rfl⟩
 haveI:Fz zc bc 4 [.slice a5 c.slots.length k5]:=⟨hatc.fld (i:=4) rfl rfl⟩
 haveI:Fz zc bc 5 [.slice a6 c.ins.length k6]:=⟨hatc.fld (i:=5) rfl rfl⟩
 (repeat (first | refine V_run ?_ | (refine CV_puz ?_; intro _ _ _ _)));rename_i z5 w5 hz5 hS5;clear hS3;refine Cond_nd (fun e1=>?_) (fun e1=>?_)
 ·have:=hR _ _ _ nilS hS5 (by rw [encB,if_neg e1]; exact SlR.nil)
  rw [encE,if_neg e1] at this;exact this
 obtain ⟨e0,hli,hpa,hri,_,_⟩:=check_ok e1;have hsm:=small_of hli hpa hri;have hlen:=encM_len hsm;obtain ⟨n1,n2,n3,n4,n5,n6⟩:=hsm.num;refine V_bs (parts:=[(0,_)]) rfl (by omega) ?_;intro bb w6 hbb hS6;clear hS5;refine V_run ?_;refine iV_bx ?_;intro bw w7 hbw hS7;clear hS6;refine iV_al ?_;intro b6 w8 hb6 hS8;clear hS7;refine iU_st ?_;intro w9 hS9;clear hS8;obtain ⟨z10,hz10,hS10,g6⟩:=hS9.frz b6;clear hS9;have hB0:WrOk bw [(bw,.cells [.slice (some ⟨bb,0,none⟩) 1 1].toArray 156 (0,0)),(bb,.cells ([Value.int .u8 81] ++ []).toArray 5 (0,0))] [81]:=⟨_,_,rfl,rfl,.inr ⟨bb,1,[],rfl,rfl,Nat.le_refl 1,by decide,rfl⟩⟩
 have hS11:Res w1 zc [] w9 z10 [(bw,.cells [.slice (some ⟨bb,0,none⟩) 1 1].toArray 156 (0,0)),(bb,.cells ([Value.int .u8 81] ++ []).toArray 5 (0,0))]:=hS10;clear hS10;generalize hB1:[(bw,Obj.cells [Value.slice (some ⟨bb,0,none⟩) 1 1].toArray 156 (0,0)),(bb,.cells ([Value.int .u8 81] ++ []).toArray 5 (0,0))] = B1 at *;clear hB1;have hS12:=hS11.self;have hR2:∀ z' w' L' vb,Res w9 z10 B1 w' z' L'->SlR El.byte z' vb (encB c)->RR (.tuple #[vb,.int .i64 (encE c)]) w':=fun z' w' L' vb k hd=>hR _ _ _ _ (hS11.comp k) hd
 clear hS11 hR;have hz510:=hz5.trans hz10;have hzz:=hzc.trans hz510;have hatc2:=hatc.mono hz510;haveI:Fz z10 bc 0 [.slice a1 c.consts.length k1]:=⟨hatc2.fld (i:=0) rfl rfl⟩
 haveI:Fz z10 bc 1 [.slice a2 c.tmpls.length k2]:=⟨hatc2.fld (i:=1) rfl rfl⟩
 haveI:Fz z10 bc 2 [.slice a3 c.lists.length k3]:=⟨hatc2.fld (i:=2) rfl rfl⟩
 haveI:Fz z10 bc 3 [.slice a4 c.labels.length k4]:=⟨hatc2.fld (i:=3) rfl rfl⟩
 haveI:Fz z10 bc 4 [.slice a5 c.slots.length k5]:=⟨hatc2.fld (i:=4) rfl rfl⟩
 haveI:Fz z10 bc 5 [.slice a6 c.ins.length k6]:=⟨hatc2.fld (i:=5) rfl rfl⟩
 haveI:Fz z10 b6 0 [.pointer (some ⟨bw,0,none⟩)]:=⟨g6⟩
 have l6:(encM c).length <= lots:=by simp only [lots]; omega
 unfold encM at l6;have l5:=le_app l6;have l4:=le_app l5;have l3:=le_app l4;have l2:=le_app l3;have l1:=le_app l2;(repeat (first | refine V_run ?_ | refine fV_ld1 ?_));refine CV_fn (B:=B1) (F:=[]) (by rw [List.append_nil]; exact hS12) (allStr hB0 (h1.mono hzz) (by omega) (fun s hs=>by have:=hsm.consts s hs; omega) l1) (by simp) ?_;rintro z13 B13 w13 v13 hz13 hS13 ⟨rfl,hB13⟩
 rw [List.append_nil] at hS13;clear hS12;(repeat (first | refine V_run ?_ | refine fV_ld1 ?_));refine CV_fn (B:=B13) (F:=[]) (by rw [List.append_nil]; exact hS13) (all1 (S:=23) (T:=93) (E:=El.sl El.part) (g:=tmplE) rfl (fun h=>en93 h) hB13 (h2.mono (hzz.trans hz13)) (by omega) (fun z' w' B ys x cs hm hz hr hB hb=>by
  obtain ⟨v,rfl,hv⟩:=hr;have:=hsm.tmpls x hm;exact enc1 (g6.mono (hz13.trans hz)) hv this.1 this.2 hB hb) l2) (by simp) ?_
 rintro z14 B14 w14 v14 hz14 hS14 ⟨rfl,hB14⟩
 rw [List.append_nil] at hS14;clear hS13;(repeat (first | refine V_run ?_ | refine fV_ld1 ?_));refine CV_fn (B:=B14) (F:=[]) (by rw [List.append_nil]; exact hS14) (all1 (S:=24) (T:=96) (E:=El.sl El.item) (g:=listE) rfl (fun h=>en97 h) hB14 (h3.mono (hzz.trans (hz13.trans hz14))) (by omega) (fun z' w' B ys x cs hm hz hr hB hb=>by
  obtain ⟨v,rfl,hv⟩:=hr;have:=hsm.lists x hm;exact enc2 (g6.mono ((hz13.trans hz14).trans hz)) hv this.1 this.2 hB hb) l3) (by simp) ?_
 rintro z15 B15 w15 v15 hz15 hS15 ⟨rfl,hB15⟩
 rw [List.append_nil] at hS15;clear hS14;have y15:=hzz.trans (hz13.trans (hz14.trans hz15));(repeat (first | refine V_run ?_ | refine fV_ld1 ?_));refine CV_fn (B:=B15) (F:=[]) (by rw [List.append_nil]; exact hS15) (allN (S:=25) (T:=54) (n:=2) (E:=El.spot) (fa:=101) rfl ⟨_,inferInstance,rfl⟩ (fun _ _ _ h=>oneSpot h) (fun h=>en101 h) hB15 (h4.mono y15) (by omega) (wSpot hsm.labels) l4) (by simp) ?_;rintro z16 B16 w16 v16 hz16 hS16 ⟨rfl,hB16⟩
 rw [List.append_nil] at hS16;clear hS15;have y16:=y15.trans hz16;(repeat (first | refine V_run ?_ | refine fV_ld1 ?_));refine CV_fn (B:=B16) (F:=[]) (by rw [List.append_nil]; exact hS16) (allStr hB16 (h5.mono y16) (by omega) (fun s hs=>by have:=hsm.slots s hs; omega) l5) (by simp) ?_;rintro z17 B17 w17 v17 hz17 hS17 ⟨rfl,hB17⟩
 rw [List.append_nil] at hS17;clear hS16;have y17:=y16.trans hz17;(repeat (first | refine V_run ?_ | refine fV_ld1 ?_));refine CV_fn (B:=B17) (F:=[]) (by rw [List.append_nil]; exact hS17) (allN (S:=26) (T:=38) (n:=4) (E:=El.ins) (fa:=103) rfl ⟨_,inferInstance,rfl⟩ (fun _ _ _ h=>oneIns h) (fun h=>en103 h) hB17 (h6.mono y17) (by omega) (wIns hsm.ins) l6) (by simp) ?_;rintro z18 B18 w18 v18 hz18 hS18 ⟨rfl,hB18⟩
 rw [List.append_nil] at hS18;clear hS17;have hB19:WrOk bw B18 (encM c):=hB18;clear hB18;obtain ⟨v19,Bv,rfl,ho⟩:=hB19;obtain ⟨a19,c19,rfl,_⟩:=ho.form;(repeat (first | refine V_run ?_ | refine iV_ld1 ?_ | refine fV_ld1 ?_));refine Cond_d (fun h=>?_) (fun h=>?_)
 ·have:=hR2 _ _ _ nilS hS18 (by rw [encB,if_pos e1,if_pos (by omega)]; exact SlR.nil)
  rw [encE,if_pos e1,if_pos (by omega)] at this;exact this
 ·(repeat (first | refine V_run ?_ | refine iV_ld1 ?_ | refine fV_ld1 ?_))
  have hS19:=hS18.bring Bv;obtain ⟨z20,hz20,hS20,hv⟩:=Res.freezeSl (E:=El.byte) (e:=5) (xs:=encM c) (f:=fun x=>[Value.int .u8 x.toNat]) hS19 (by rw [byteCells_flat]; exact ho) (by simp only [big]; omega) (fun _=>rfl) (fun _ _ _=>rfl);have:=hR2 _ _ _ (.slice a19 (encM c).length c19) hS20 (by rw [encB,if_pos e1,if_neg (by omega)]; exact hv);rw [encE,if_pos e1,if_neg (by omega)] at this;exact this)
end
section
open Go Q Go.RowKit Go.Shelf
def itoaRen:Go.Shelf.Ren:=⟨fun | 171=>187 | 243=>237 | 246=>263 | 283=>278 | 284=>279 | 285=>280 | 286=>281 | 129=>289 | 317=>288 | 318=>290 | 319=>291 | 320=>292 | 337=>296 | 338=>297 | n=>n,fun | 3=>3 | 9=>9 | 2=>2 | 4=>4 | 171=>308 | 0=>0 | 53=>309 | 37=>55 | 5=>5 | 173=>312 | 212=>328 | 51=>314 | 20=>20 | 213=>329 | 46=>247 | 232=>341 | 233=>342 | n=>n,fun | 17=>3 | 18=>6 | 19=>7 | n=>n⟩
theorem itoaLays:Go.Proofs.LaysM.n171 Tryz.prog itoaRen:={
 mixed:=by kernel_rfl
 f129:=Tryz.func289.trans (congrArg some (by kernel_rfl))
 f171:=Tryz.func187.trans (congrArg some (by kernel_rfl))
 f243:=Tryz.func237.trans (congrArg some (by kernel_rfl))
 f246:=Tryz.func263.trans (congrArg some (by kernel_rfl))
 f283:=Tryz.func278.trans (congrArg some (by kernel_rfl))
 f284:=Tryz.func279.trans (congrArg some (by kernel_rfl))
 f285:=Tryz.func280.trans (congrArg some (by kernel_rfl))
 f286:=Tryz.func281.trans (congrArg some (by kernel_rfl))
 f317:=Tryz.func288.trans (congrArg some (by kernel_rfl))
 f318:=Tryz.func290.trans (congrArg some (by kernel_rfl))
 f319:=Tryz.func291.trans (congrArg some (by kernel_rfl))
 f320:=Tryz.func292.trans (congrArg some (by kernel_rfl))
 f337:=Tryz.func296.trans (congrArg some (by kernel_rfl))
 f338:=Tryz.func297.trans (congrArg some (by kernel_rfl))
 t0:=Tryz.underlying0
 a0:=Tryz.isAgg0
 z0:=Tryz.sizeOf0
 v0:=Tryz.zeroValue0
 t2:=Tryz.underlying2
 a2:=Tryz.isAgg2
 z2:=Tryz.sizeOf2
 v2:=Tryz.zeroValue2
 t3:=Tryz.underlying3
 a3:=Tryz.isAgg3
 z3:=Tryz.sizeOf3
 v3:=Tryz.zeroValue3
 t4:=Tryz.underlying4
 a4:=Tryz.isAgg4
 z4:=Tryz.sizeOf4
 v4:=Tryz.zeroValue4
 t5:=Tryz.underlying5
 a5:=Tryz.isAgg5
 z5:=Tryz.sizeOf5
 v5:=Tryz.zeroValue5
 t9:=Tryz.underlying9
 a9:=Tryz.isAgg9
 z9:=Tryz.sizeOf9
 v9:=Tryz.zeroValue9
 t20:=Tryz.underlying20
 a20:=Tryz.isAgg20
 z20:=Tryz.sizeOf20
 v20:=Tryz.zeroValue20
 t37:=Tryz.underlying55
 a37:=Tryz.isAgg55
 z37:=Tryz.sizeOf55
 v37:=Tryz.zeroValue55
 t46:=Tryz.underlying247
 a46:=Tryz.isAgg247
 z46:=Tryz.sizeOf247
 v46:=Tryz.zeroValue247
 t51:=Tryz.underlying314
 a51:=Tryz.isAgg314
 z51:=Tryz.sizeOf314
 v51:=Tryz.zeroValue314
 t53:=Tryz.underlying309
 a53:=Tryz.isAgg309
 z53:=Tryz.sizeOf309
 v53:=Tryz.zeroValue309
 t171:=Tryz.underlying308
 a171:=Tryz.isAgg308
 z171:=Tryz.sizeOf308
 v171:=Tryz.zeroValue308
 t173:=Tryz.underlying312
 a173:=Tryz.isAgg312
 z173:=Tryz.sizeOf312
 v173:=Tryz.zeroValue312
 t212:=Tryz.underlying328
 a212:=Tryz.isAgg328
 z212:=Tryz.sizeOf328
 v212:=Tryz.zeroValue328
 t213:=Tryz.underlying329
 a213:=Tryz.isAgg329
 z213:=Tryz.sizeOf329
 t232:=Tryz.underlying341
 a232:=Tryz.isAgg341
 z232:=Tryz.sizeOf341
 v232:=Tryz.zeroValue341
 t233:=Tryz.underlying342
 a233:=Tryz.isAgg342
 z233:=Tryz.sizeOf342
 v233:=Tryz.zeroValue342
 g17:=by kernel_rfl
 g18:=by kernel_rfl
 g19:=by kernel_rfl
 i0:=by kernel_rfl
 i2:=by kernel_rfl
 i3:=by kernel_rfl
 i4:=by kernel_rfl
 i5:=by kernel_rfl
 i9:=by kernel_rfl
 i20:=by kernel_rfl
 i37:=by kernel_rfl
 i46:=by kernel_rfl
 i51:=by kernel_rfl
 i53:=by kernel_rfl
 i171:=by kernel_rfl
 i173:=by kernel_rfl
 i212:=by kernel_rfl
 i232:=by kernel_rfl
 i233:=by kernel_rfl
 m17:=by kernel_rfl
 m18:=by kernel_rfl
 m19:=by kernel_rfl }
class Tab (z:Z):Prop where
 h:∀ w,Sub z w->Lib.TabIs Tryz.prog w "internal/strconv.uint64pow10" .u64 Lib.pow10Tab
theorem Tab.le {z z':Z} (h:Tab z) (hz:Le z z'):Tab z':=⟨fun w hw=>h.h w fun b o hb=>hw b o (hz b o hb)⟩
def itoaB (n:Int):ByteArray:=⟨(Lib.itoa n).toArray⟩
theorem itoaB_size {n:Int} (h:InI n):(itoaB n).size <= 21:=by
 have:=Lib.itoa_length_le n (by have:=h.h; omega) (by have:=h.h; omega)
 show (Lib.itoa n).toArray.size <= 21
 simpa using this
theorem grow_res {w:World} {z:Z} {k:Nat} {os:Array Obj} (h:Own w z []):Res w z [] (Sort.grow (w.drewN k) os) z []:=
 ⟨rfl,rfl,rfl,by simp [Sort.grow,World.drewN],fun b hb _=>by simp [Sort.grow,World.drewN,Array.getElem?_append,hb],fun b o hb=>by
  have h1:=h.sub b o hb;have h2:=lt_of_get h1;simp only [Sort.grow,World.drewN,Array.getElem?_append,h2,if_true]; exact h1,Le.refl _,fun b hb=>.inl hb,fun p hp=>(by cases hp),.nil⟩
instance {z0:Z} {n:Int} [ht:Tab z0] [hn:InI n]:PuZ z0 187 #[.int .i64 n] (.string (itoaB n)):=⟨fun z w hz ho=>
 Calls.mono (Any.strconv_Itoa itoaLays n (by have:=hn.h; omega) (by have:=hn.h; omega) w ((ht.le hz).h w ho.sub)) (by
  rintro e w' ⟨rfl,k,os,rfl⟩
  exact ⟨z,grow_res ho,rfl⟩)⟩
instance {s:ByteArray} {c:UInt8} {t:ByteArray} [h:RepOk s c t (-1)]:Pu 186 #[.string s,.string (b1 c),.string t] (.string (replB s c t (-1))):=⟨fun z w=>Fn1.intro fun hS=>en186 (by
 unfold vc186;(repeat (refine CV_pu ?_; intro _ _ _ _));exact ⟨_,_,‹_›,rfl⟩)⟩
class Cat (a b:ByteArray):Prop where
 h:a.size + b.size <= 9223372036854775807
instance {t:Nat} {a b:ByteArray} [h:Cat a b]:Run (bi .add t (.string a) (.string b)) (.string (a ++ b)):=⟨fun w=>by
 show (binOp .add t (.string a) (.string b)).run Tryz.prog w = _
 rw [binOp_string_add]; exact run_string_add_sum w a b h.h⟩
def quotedB (s:ByteArray):ByteArray:=b1 34 ++ replB s 34 ⟨#[34,34]⟩ (-1) ++ b1 34
theorem replB_size {s:ByteArray} {c:UInt8} {t:ByteArray}:(replB s c t (-1)).size <= s.size + (bytes s).count c * t.size:=by
 have h:=replL_len (c:=c) (t:=bytes t) (bytes s) ((bytes s).count c);have e:replK s c (-1) = (bytes s).count c:=by unfold replK; rw [if_pos (by omega)]
 show (replL c (bytes t) (replK s c (-1)) (bytes s)).toArray.size <= _
 rw [e,List.size_toArray,size_bytes s,size_bytes t];exact h
theorem count_le_size (s:ByteArray) (c:UInt8):(bytes s).count c <= s.size:=by rw [size_bytes]; exact List.count_le_length
theorem quotedB_size {s:ByteArray}:(quotedB s).size <= 3 * s.size + 2:=by
 have h1:=replB_size (s:=s) (c:=34) (t:=⟨#[34,34]⟩);have h2:=count_le_size s 34;have h3:(⟨#[34,34]⟩:ByteArray).size = 2:=rfl;have h4:(b1 34).size = 1:=rfl;rw [h3] at h1
 show ((b1 34 ++ replB s 34 ⟨#[34,34]⟩ (-1)) ++ b1 34).size <= _
 rw [ByteArray.size_append,ByteArray.size_append,h4];omega
class Brief (s:ByteArray):Prop where
 h:s.size <= 1000000
instance {s:ByteArray} [h:Brief s]:Pu 127 #[.string s] (.string (quotedB s)):=⟨fun z w=>Fn1.intro fun hS=>en127 (by
 have h1:=h.h;have h2:=count_le_size s 34;have h3:(⟨#[34,34]⟩:ByteArray).size = 2:=rfl;haveI:RepOk s 34 ⟨#[34,34]⟩ (-1):=⟨by decide,by omega,by rw [h3]; omega⟩
 unfold vc127;refine CV_pu (v:=.string (replB s 34 ⟨#[34,34]⟩ (-1))) (g:=(inferInstance:Pu 186 #[.string s,.string (b1 34),.string ⟨#[34,34]⟩] _)) ?_;intro z1 w1 hz1 hS1;clear hS;have h4:=replB_size (s:=s) (c:=34) (t:=⟨#[34,34]⟩);have h5:(b1 34).size = 1:=rfl;rw [h3] at h4;haveI:Cat (b1 34) (replB s 34 ⟨#[34,34]⟩ (-1)):=⟨by omega⟩
 haveI:Cat (b1 34 ++ replB s 34 ⟨#[34,34]⟩ (-1)) (b1 34):=⟨by rw [ByteArray.size_append]; omega⟩
 refine V_run (v:=.string (b1 34 ++ replB s 34 ⟨#[34,34]⟩ (-1))) (g:=(inferInstance:Run (bi .add 9 (.string (b1 34)) _) _)) ?_;refine V_run (v:=.string (quotedB s)) (g:=(inferInstance:Run (bi .add 9 _ (.string (b1 34))) _)) ?_;exact ⟨_,_,hS1,rfl⟩)⟩
def joinW:List ByteArray->List UInt8
 | []=>[]
 | x :: r=>bytes x ++ r.flatMap fun y=>32 :: bytes y
def sizes (l:List ByteArray):Nat:=(l.map (·.size)).sum
theorem mem_sizes {l:List ByteArray} {x:ByteArray} (h:x ∈ l):x.size <= sizes l:=by
 induction l with
 | nil=>cases h
 | cons a l ih=>
  simp only [sizes,List.map_cons,List.sum_cons]
  rcases List.mem_cons.1 h with rfl | h
  ·omega
  ·have:=ih h; simp only [sizes] at this; omega
theorem sizes_take (l:List ByteArray) (k:Nat) (h:k < l.length):sizes (l.take (k + 1)) = sizes (l.take k) + l[k].size:=by
 rw [sizes,sizes,List.take_succ_eq_append_getElem h,List.map_append,List.sum_append]; simp
theorem sizes_take_le (l:List ByteArray) (k:Nat):sizes (l.take k) <= sizes l:=by
 have h:sizes l = sizes (l.take k) + sizes (l.drop k):=by
  conv=>lhs; rw [<- List.take_append_drop k l]
  rw [sizes,List.map_append,List.sum_append]; rfl
 omega
theorem wFlat (l:List ByteArray):(l.flatMap fun y=>32 :: bytes y).length = l.length + sizes l:=by
 induction l with
 | nil=>rfl
 | cons a l ih=>rw [List.flatMap_cons,List.length_append,ih,List.length_cons,List.length_cons,<- size_bytes]; simp only [sizes,List.map_cons,List.sum_cons]; omega
theorem joinW_len (l:List ByteArray):(joinW l).length <= sizes l + l.length:=by
 cases l with
 | nil=>simp [joinW]
 | cons x r=>rw [joinW,List.length_append,wFlat,<- size_bytes,List.length_cons]; simp only [sizes,List.map_cons,List.sum_cons]; omega
def joinB (l:List ByteArray):ByteArray:=⟨(joinW l).toArray⟩
theorem join_of {z:Z} {w:World} {v:Value} {l:List ByteArray} (hv:SlR El.str z v l) (hn:l.length <= 1000) (hl:sizes l <= 1000000000) :
  Fn1 185 #[v,.string (b1 32)] z w fun _ r=>r = .string (joinB l):=Fn1.intro fun hS=>en185 (by
 unfold vc185;obtain ⟨_,a,cap,rfl,hcap,hel⟩:=hv.form;refine V_run ?_;refine V_run ?_;refine Cond_d (fun h=>?_) (fun h=>?_)
 ·have:l = []:=List.eq_nil_of_length_eq_zero (by omega)
  subst this;exact ⟨_,_,hS,rfl⟩
 refine V_run ?_;refine Cond_d (fun h1=>?_) (fun h1=>?_)
 ·obtain ⟨x,hx⟩:∃ x,l = [x]:=by
   cases l with
   | nil=>simp at h1
   | cons x r=>exact ⟨x,by rw [List.eq_nil_of_length_eq_zero (l:=r) (by simp only [List.length_cons] at h1; omega)]⟩
  subst hx;obtain ⟨b,off,cs,rfl,hr,hat⟩:=hel 0 x rfl;obtain ⟨rfl,_⟩:=hr;haveI:InR 0 (([x]:List ByteArray).length:Nat):=⟨by decide,by simp⟩
  refine V_run ?_;refine zV_ld1 (by simpa using hat) ?_;exact ⟨_,_,hS,by rw [joinB,joinW,List.flatMap_nil,List.append_nil]⟩
 intro K hK;obtain ⟨x,r,rfl⟩:∃ x r,l = x :: r:=by
  cases l with
  | nil=>exact absurd rfl h
  | cons x r=>exact ⟨x,r,rfl⟩
 obtain ⟨b,off,cs,rfl,hr,hat⟩:=hel 0 x rfl;have hxr:sizes (x :: r) = x.size + sizes r:=by simp [sizes]
 have hlr:(x :: r).length = r.length + 1:=rfl;have hr0:0 < r.length:=by simp only [List.length_cons] at h1; omega
 rw [hlr] at hn hcap;have main:K [.int .i64 r.length] w:=by
  refine hK _ _ fun _=>?_
  refine V_run ?_;refine LoopR2 (fun k u v=>v = .int .i64 (k:Nat)/\k <= (x :: r).length/\u = .int .i64 (r.length + sizes ((x :: r).take k):Nat)) (fun k=>(x :: r).length - k) 0 ⟨rfl,Nat.zero_le _,by simp [sizes]⟩ ?_;rintro I M k u v w1 z1 m ⟨rfl,hk,rfl⟩ hz1 hS1 back
  have hk2:=sizes_take_le (x :: r) k;refine V_run ?_;refine Cond_d (fun h2=>?_) (fun h2=>?_)
  ·have hk1:k < (x :: r).length:=by omega
   obtain ⟨cs1,hr1,hat1⟩:=hv.get (List.getElem?_eq_getElem hk1);obtain ⟨rfl,_⟩:=hr1;have hst:=sizes_take (x :: r) k hk1;have hst2:=sizes_take_le (x :: r) (k + 1);haveI:InR (k:Int) ((x :: r).length:Nat):=⟨by omega,by omega⟩
   haveI:InI ((k:Int) + 1):=⟨by omega⟩
   refine V_run ?_;refine zV_ld1 (hat1.mono hz1) ?_;intro K0 hK0;haveI:InI ((9223372036854775807:Int) - ((r.length + sizes ((x :: r).take k):Nat):Int)):=⟨by omega⟩
   refine V_run ?_;refine V_run ?_;refine V_run ?_;refine Cond_d (fun h3=>?_) (fun h3=>?_)
   ·omega
   refine hK0 _ fun _=>?_
   haveI:InI (((r.length + sizes ((x :: r).take k):Nat):Int) + (((x :: r)[k].size:Nat):Int)):=⟨by omega⟩
   refine V_run ?_;refine V_run ?_;refine V_run ?_;exact back (k + 1) _ _ _ _ ⟨by simp,by omega,by rw [hst]; congr 1; omega⟩ (Le.refl _) hS1 (by omega)
  ·have hk3:k = (x :: r).length:=by omega
   subst hk3;rw [List.take_length];have htot:r.length + sizes (x :: r) <= 2000000000:=by omega
   clear back;refine iV_al ?_;intro bb w2 hbb hS2;refine CV_fn (B:=[(bb,buO none (.slice none 0 0))]) (F:=[]) (by simpa using hS2) (growB (n:=((r.length + sizes (x :: r):Nat):Int)) (.inl rfl) (by omega) (by omega)) (by simp) ?_;rintro z3 B3 w3 v3 hz3 hS3 ⟨hB3,rfl⟩
   rw [List.append_nil] at hS3;haveI:InR 0 ((x :: r).length:Nat):=⟨by omega,by omega⟩
   obtain ⟨rfl,_⟩:=hr;have hz03:Le z z3:=hz1.trans hz3;refine V_run ?_;refine zV_ld1 (by simpa using hat.mono hz03) ?_;refine CV_fn (B:=B3) (F:=[]) (by simpa using hS3) (writeString (s:=x) hB3 (by simp only [List.length_nil,room]; omega)) (by simp) ?_;rintro z4 B4 w4 v4 hz4 hS4 ⟨hB4,rfl⟩
   rw [List.append_nil] at hS4;haveI:InR 1 ((((x :: r).length:Nat):Int) + 1):=⟨by omega,by omega⟩
   have hvd:SlR El.str z (.slice (some ⟨b,if cap = Int.toNat 1 then off else off + Int.toNat 1 * 1,none⟩) ((x :: r).length - Int.toNat 1) (cap - Int.toNat 1)) r:=hv.drop (s:=1) (k:=1) rfl (by omega);refine V_run ?_;have hdl:((((x :: r).length:Nat):Int) - 1).toNat = r.length:=by omega
   clear hS1 hS2 hS3 hK;generalize (if cap = Int.toNat 1 then off else off + Int.toNat 1 * 1) = off2 at hvd ⊢;generalize cap - Int.toNat 1 = cap2 at hvd ⊢;rw [show (x :: r).length - Int.toNat 1 = r.length from rfl] at hvd ⊢;have hz04:Le z z4:=hz03.trans hz4;rw [List.nil_append,Lib.strCells_eq] at hB4;refine V_run ?_;refine LoopG1 (fun (k:Nat) u w'=>u = .int .i64 k/\k <= r.length/\∃ B' z',Le z z'/\BuOk bb B' (Lib.byteCells (bytes x ++ (r.take k).flatMap fun y=>32 :: bytes y))/\Res w z [] w' z' B') (fun k=>r.length - k) 0 ⟨rfl,Nat.zero_le _,B4,z4,hz04,by simpa using hB4,hS4⟩ ?_;rintro I M k u w5 m ⟨rfl,hk,B5,z5,hz5,hB5,hS5⟩ back
   clear hS4 hB4;have hlen:∀ j,(bytes x ++ (r.take j).flatMap fun y=>32 :: bytes y).length <= 1000002000:=fun j=>by
    have h5:=sizes_take_le r j;rw [List.length_append,wFlat,<- size_bytes,List.length_take];omega
   have hl5:=hlen k;refine V_run ?_;refine Cond_d (fun h6=>?_) (fun h6=>?_)
   ·have hk1:k < r.length:=by omega
    obtain ⟨cs1,hr1,hat1⟩:=hvd.get (List.getElem?_eq_getElem hk1);obtain ⟨rfl,_⟩:=hr1;have hst:=sizes_take r k hk1;have hst2:=sizes_take_le r (k + 1);haveI:InR (k:Int) (r.length:Nat):=⟨by omega,by omega⟩
    haveI:InI ((k:Int) + 1):=⟨by omega⟩
    have e1:(b1 32).size = 1:=rfl;refine V_run ?_;refine zV_ld1 (hat1.mono hz5) ?_;refine CV_fn (B:=B5) (F:=[]) (by simpa using hS5) (writeString (s:=b1 32) hB5 (by rw [Lib.byteCells_length,e1]; simp only [room]; omega)) (by simp) ?_;rintro z6 B6 w6 v6 hz6 hS6 ⟨hB6,rfl⟩
    rw [List.append_nil] at hS6;rw [Lib.strCells_eq,<- Lib.byteCells_append] at hB6;have hgs:r[k].size <= 1000000000:=by omega
    refine CV_fn (B:=B6) (F:=[]) (by simpa using hS6) (writeString (s:=r[k]) hB6 (by
     rw [Lib.byteCells_length,List.length_append];have h9:(b1 32).data.toList.length = 1:=rfl;rw [h9]; simp only [room]; omega)) (by simp) ?_
    rintro z7 B7 w7 v7 hz7 hS7 ⟨hB7,rfl⟩
    rw [List.append_nil] at hS7;rw [Lib.strCells_eq,<- Lib.byteCells_append] at hB7;refine V_run ?_;refine back (k + 1) _ _ ⟨by simp,by omega,B7,z7,(hz5.trans hz6).trans hz7,?_,hS7⟩ (by omega);rw [List.take_succ_eq_append_getElem hk1,List.flatMap_append,<- List.append_assoc];simp only [List.flatMap_cons,List.flatMap_nil,List.append_nil];rw [show (32 :: bytes r[k]) = (b1 32).data.toList ++ bytes r[k] from rfl,<- List.append_assoc];exact hB7
   ·have hk3:k = r.length:=by omega
    subst hk3;rw [List.take_length] at hB5 hl5;refine CV_fn (B:=B5) (F:=[]) (by simpa using hS5) (builderString hB5 (by simp only [room]; omega)) (by simp) ?_;rintro z8 B8 w8 v8 hz8 hS8 ⟨rfl,rfl⟩
    exact ⟨_,_,hS8,rfl⟩
 have hq:((r.length + 1:Nat):Int) - 1 = (r.length:Nat):=by omega
 haveI:InI ((((x :: r).length:Nat):Int) - 1):=⟨by omega⟩
 haveI:InR 0 ((((x :: r).length:Nat):Int) - 1):=⟨by omega,by omega⟩
 have hdiv:(1:Int) < Int.tdiv 9223372036854775807 ((((x :: r).length:Nat):Int) - 1):=by
  rw [Int.tdiv_eq_ediv_of_nonneg (by omega)];have:=Int.ediv_mul_le 9223372036854775807 (b:=(((x :: r).length:Nat):Int) - 1) (by omega);have h2:=Int.lt_ediv_add_one_mul_self 9223372036854775807 (b:=(((x :: r).length:Nat):Int) - 1) (by omega);generalize (9223372036854775807:Int) / ((((x :: r).length:Nat):Int) - 1) = q at *;generalize (((x :: r).length:Nat):Int) - 1 = d at *
  apply Classical.byContradiction
  intro hq1;have hd:d <= 1000:=by omega
  have:(q + 1) * d <= 2 * d:=Int.mul_le_mul_of_nonneg_right (by omega) (by omega);omega
 haveI:InI (9223372036854775807:Int):=⟨by omega⟩
 refine V_run ?_;refine V_run ?_;refine Cond_d (fun h2=>?_) (fun h2=>?_)
 ·intro K1 hK1
  refine V_run ?_;refine V_run ?_;refine V_run ?_;refine V_run ?_;refine V_run ?_;refine Cond_d (fun h3=>?_) (fun h3=>?_)
  ·exfalso
   have:(((b1 32).size:Nat):Int) = 1:=rfl;omega
  refine hK1 _ fun _=>?_
  have e1:(((b1 32).size:Nat):Int) = 1:=rfl;haveI:InI ((1:Int) * ((((x :: r).length:Nat):Int) - 1)):=⟨by omega⟩
  haveI:InI (0 + (1:Int) * ((((x :: r).length:Nat):Int) - 1)):=⟨by omega⟩
  refine V_run ?_;refine V_run ?_;refine V_run ?_;refine V_run ?_;refine V_run ?_;rw [show (0:Int) + 1 * ((((x :: r).length:Nat):Int) - 1) = (r.length:Nat) by rw [hlr]; omega];exact main
 ·exact absurd (show (0:Int) < (((b1 32).size:Nat):Int) by decide) h2)
theorem joined_of {z:Z} {w:World} {v:Value} {l:List ByteArray} (hv:SlR El.str z v l) (hn:l.length <= 1000) (hl:sizes l <= 1000000000) :
  Fn1 126 #[v] z w fun _ r=>r = .string (joinB l):=Fn1.intro fun hS=>en126 (by
 unfold vc126;refine CV_1 (join_of hv hn hl) ?_;rintro z1 w1 v1 hz1 hS1 rfl
 exact ⟨_,_,hS1,rfl⟩)
theorem joinB_size (l:List ByteArray):(joinB l).size <= sizes l + l.length:=by
 have:=joinW_len l
 show (joinW l).toArray.size <= _
 rw [List.size_toArray]; exact this
theorem map_flatS:∀ l:List ByteArray,(l.map fun x=>Value.string x) = l.flatMap fun x=>[Value.string x]
 | []=>rfl
 | a :: l=>by rw [List.map_cons,List.flatMap_cons,map_flatS l]; rfl
theorem V_words {w0 w:World} {z0 z:Z} {B0 L:Bl} {K:Value->World->Prop} [hS:Res w0 z0 B0 w z L] {k n:Nat} {parts:List (Nat × Value)} {out:List Value} [gf:FillS 1 0 parts out n] (l:List ByteArray) (ho:out = l.map fun x=>Value.string x) (hn:k = n) (hsz:n <= 1000) (hl:sizes l <= 1000000000)
  (hk:∀ z' w',Le z z'->Res w0 z0 B0 w' z' L->K (.string (joinB l)) w'):V (bs 22 k parts.toArray) w fun t w=>CV (.func (.func 126) #[] #[]) #[t] w K:=by
 refine V_bs hn (by omega) ?_;intro b w1 hb hS1;have hfl:out = l.flatMap fun x=>[Value.string x]:=by rw [ho]; exact map_flatS l
 have hlen:out.length = n:=by obtain ⟨h1,h2,_⟩:=gf.h; omega
 have hll:l.length = n:=by rw [<- hlen,ho,List.length_map]
 obtain ⟨z2,hz2,hS2,hv⟩:=Res.freezeSl (E:=El.str) (e:=9) (B:=[(b,_)]) (L:=L) (v:=.slice (some ⟨b,0,none⟩) l.length n) (xs:=l) (f:=fun x=>[Value.string x]) hS1 ⟨by rw [<- hfl,hlen,hll]; exact (Nat.mul_one _).symm,.inr ⟨b,n,[],by rw [<- hfl,List.append_nil],rfl,by omega,by simp only [maxLen]; omega,by rw [<- hfl,List.append_nil,hlen]; exact (Nat.mul_one _).symm⟩⟩ (by simp only [big]; omega) (fun _=>rfl) (fun z x hx=>⟨rfl,by have:=mem_sizes hx; simp only [big]; omega⟩);rw [hll] at hv;refine CV_1 (joined_of hv (by omega) hl) ?_;rintro z3 w3 v3 hz3 hS3 rfl
 exact hk _ _ (hz2.trans hz3) hS3
end
section
open Go Q Go.RowKit
def tmplStep (s:ByteArray) (p:PartM):ByteArray:=joinB [s,itoaB p.kind,quotedB p.text,itoaB p.n]
def tmplT (l:List PartM):ByteArray:=l.foldl tmplStep ⟨#[116,109,112,108]⟩
theorem foldl_size {α:Type} {f:ByteArray->α->ByteArray} {n:Nat}:∀ (l:List α) (s:ByteArray),(∀ s x,x ∈ l->(f s x).size <= s.size + n)->(l.foldl f s).size <= s.size + l.length * n
 | [],s,h=>by simp
 | x :: l,s,h=>by
  have h1:=foldl_size l (f s x) fun s y hy=>h s y (List.mem_cons_of_mem _ hy)
  have h2:=h s x List.mem_cons_self;rw [List.foldl_cons,List.length_cons,Nat.add_mul,Nat.one_mul];omega
theorem tmplStep_size {s:ByteArray} {p:PartM} (h1:InI p.kind) (h2:InI p.n) (h3:p.text.size <= 1000000):sizes [s,itoaB p.kind,quotedB p.text,itoaB p.n] <= s.size + 3000050/\(tmplStep s p).size <= s.size + 3000060:=by
 have a:=itoaB_size h1;have b:=itoaB_size h2;have c:=quotedB_size (s:=p.text);have d:sizes [s,itoaB p.kind,quotedB p.text,itoaB p.n] <= s.size + 3000050:=by simp only [sizes,List.map_cons,List.map_nil,List.sum_cons,List.sum_nil]; omega
 have e:=joinB_size [s,itoaB p.kind,quotedB p.text,itoaB p.n];simp only [List.length_cons,List.length_nil] at e;exact ⟨d,by rw [tmplStep]; omega⟩
theorem take_fold {α:Type} {f:ByteArray->α->ByteArray} {s:ByteArray} {l:List α} {k:Nat} (h:k < l.length):(l.take (k + 1)).foldl f s = f ((l.take k).foldl f s) l[k]:=by
 rw [List.take_succ_eq_append_getElem h,List.foldl_append]; rfl
theorem tmplLine_of {z:Z} {w:World} {v:Value} {l:List PartM} [ht:Tab z] (hv:SlR El.part z v l) (hl:l.length <= 100) (hp:∀ p ∈ l,partM p = true) :
  Fn1 128 #[v] z w fun _ r=>r = .string (tmplT l):=Fn1.intro fun hS=>en128 (by
 unfold vc128;obtain ⟨_,a,cap,rfl,hcap,hel⟩:=hv.form;refine V_run ?_;refine LoopR2 (fun k s i=>i = .int .i64 (k:Nat)/\k <= l.length/\s = .string ((l.take k).foldl tmplStep ⟨#[116,109,112,108]⟩)) (fun k=>l.length - k) 0 ⟨rfl,Nat.zero_le _,rfl⟩ ?_;rintro I M k u v w1 z1 m ⟨rfl,hk,rfl⟩ hz1 hS1 back
 clear hS;refine V_run ?_;refine Cond_d (fun h=>?_) (fun h=>?_)
 ·have hlt:k < l.length:=by omega
  have hi:=List.getElem?_eq_getElem hlt;have hpk:=part_small (hp _ (List.getElem_mem hlt));have hlen:=foldl_size (f:=tmplStep) (n:=3000060) (l.take k) ⟨#[116,109,112,108]⟩ fun s x hx=>(tmplStep_size ⟨by have:=part_small (hp _ (List.mem_of_mem_take hx)); omega⟩ ⟨by have:=part_small (hp _ (List.mem_of_mem_take hx)); omega⟩ (by have:=part_small (hp _ (List.mem_of_mem_take hx)); omega)).2
  rw [List.length_take,Nat.min_eq_left hk,show (⟨#[116,109,112,108]⟩:ByteArray).size = 4 from rfl] at hlen;generalize hs:(l.take k).foldl tmplStep ⟨#[116,109,112,108]⟩ = s at back hlen ⊢;haveI i1:InI l[k].kind:=⟨by omega⟩
  haveI i2:InI l[k].n:=⟨by omega⟩
  haveI i3:Brief l[k].text:=⟨by omega⟩
  have hts:=tmplStep_size (s:=s) i1 i2 i3.h;haveI:InR (k:Int) (l.length:Nat):=⟨by omega,by omega⟩
  haveI:InI ((k:Int) + 1):=⟨by omega⟩
  obtain ⟨b,off,cs,rfl,⟨rfl,_⟩,hat⟩:=hel _ _ hi;haveI:Fz z b (off + (k:Int).toNat * 3) l[k].cells:=⟨hat⟩
  (repeat (first | (refine iDr ?_; intro _ _) | refine V_run ?_ | refine PV_run ?_ | (refine iV_bx ?_; intro _ _ _ _) | (refine iU_st ?_; intro _ _) | refine iHV_1 ?_ | refine iRI_1 ?_ | (refine CV_pu ?_; intro _ _ _ _) | (refine CV_puz ?_; intro _ _ _ _) | refine fV_ldN ?_));refine V_words (out:=[_,_,_,_]) [s,itoaB l[k].kind,quotedB l[k].text,itoaB l[k].n] rfl rfl (by omega) (by omega) ?_;intro z2 w2 hz2 hS2;refine V_run ?_;exact back (k + 1) _ _ _ _ ⟨by simp,by omega,by rw [take_fold hlt,hs]; rfl⟩ (by (repeat (first | assumption | refine Le.trans ?_ (by assumption:Le _ _)))) hS2.drop (by omega)
 ·have hk2:k = l.length:=by omega
  subst hk2;rw [List.take_length];exact ⟨_,_,hS1,rfl⟩)
def listStep (s:ByteArray) (x:ItemM):ByteArray:=joinB [s,if x.via = true then b1 40 ++ x.name ++ b1 41 else x.name]
def listT (l:List ItemM):ByteArray:=l.foldl listStep ⟨#[108,105,115,116]⟩
theorem listStep_size {s:ByteArray} {x:ItemM} (h:x.name.size <= 40):sizes [s,if x.via = true then b1 40 ++ x.name ++ b1 41 else x.name] <= s.size + 42/\(listStep s x).size <= s.size + 50:=by
 have d:sizes [s,if x.via = true then b1 40 ++ x.name ++ b1 41 else x.name] <= s.size + 42:=by
  simp only [sizes,List.map_cons,List.map_nil,List.sum_cons,List.sum_nil]
  split
  ·rw [ByteArray.size_append,ByteArray.size_append,show (b1 40).size = 1 from rfl,show (b1 41).size = 1 from rfl]; omega
  ·omega
 have e:=joinB_size [s,if x.via = true then b1 40 ++ x.name ++ b1 41 else x.name];simp only [List.length_cons,List.length_nil] at e;exact ⟨d,by rw [listStep]; omega⟩
theorem listLine_of {z:Z} {w:World} {v:Value} {l:List ItemM} (hv:SlR El.item z v l) (hl:l.length <= 10000) (hp:∀ x ∈ l,x.name.size <= 40) :
  Fn1 129 #[v] z w fun _ r=>r = .string (listT l):=Fn1.intro fun hS=>en129 (by
 unfold vc129;obtain ⟨_,a,cap,rfl,hcap,hel⟩:=hv.form;refine V_run ?_;refine LoopR2 (fun k s i=>i = .int .i64 (k:Nat)/\k <= l.length/\s = .string ((l.take k).foldl listStep ⟨#[108,105,115,116]⟩)) (fun k=>l.length - k) 0 ⟨rfl,Nat.zero_le _,rfl⟩ ?_;rintro I M k u v w1 z1 m ⟨rfl,hk,rfl⟩ hz1 hS1 back
 clear hS;refine V_run ?_;refine Cond_d (fun h=>?_) (fun h=>?_)
 ·have hlt:k < l.length:=by omega
  have hi:=List.getElem?_eq_getElem hlt;have hpk:=hp _ (List.getElem_mem hlt);have hlen:=foldl_size (f:=listStep) (n:=50) (l.take k) ⟨#[108,105,115,116]⟩ fun s x hx=>(listStep_size (hp _ (List.mem_of_mem_take hx))).2
  rw [List.length_take,Nat.min_eq_left hk,show (⟨#[108,105,115,116]⟩:ByteArray).size = 4 from rfl] at hlen;have htf:=take_fold (f:=listStep) (s:=⟨#[108,105,115,116]⟩) hlt;generalize hs:(l.take k).foldl listStep ⟨#[108,105,115,116]⟩ = s at back hlen htf ⊢;have hts:=(listStep_size (s:=s) hpk).1;haveI:InR (k:Int) (l.length:Nat):=⟨by omega,by omega⟩
  haveI:InI ((k:Int) + 1):=⟨by omega⟩
  obtain ⟨b,off,cs,rfl,⟨rfl,_⟩,hat⟩:=hel _ _ hi;generalize hxx:l[k] = x at hpk hts hat htf;obtain ⟨nm,via⟩:=x;simp only at hpk hts;haveI:Fz z b (off + (k:Int).toNat * 2) (ItemM.cells ⟨nm,via⟩):=⟨hat⟩
  haveI:Cat (b1 40) nm:=⟨by rw [show (b1 40).size = 1 from rfl]; omega⟩
  haveI:Cat (b1 40 ++ nm) (b1 41):=⟨by rw [ByteArray.size_append,show (b1 40).size = 1 from rfl,show (b1 41).size = 1 from rfl]; omega⟩
  intro K hK;have main:∀ w' z' L',Le z1 z'->Res w z [] w' z' L'->K [.string (listStep s ⟨nm,via⟩)] w':=by
   intro w' z' L' hz' hS';refine hK _ _ fun _=>?_
   refine V_run ?_;exact back (k + 1) _ _ _ _ ⟨by simp,by omega,by rw [htf]⟩ hz' hS'.drop (by omega)
  clear hK back;(repeat (first | refine V_run ?_ | refine iV_ld1 ?_ | (refine iV_bx ?_; intro _ _ _ _) | (refine iU_st ?_; intro _ _) | refine fV_ldN ?_))
  cases via
  ·(repeat (first | refine V_run ?_ | refine iV_ld1 ?_ | refine Cond_f ?_))
   refine V_words (out:=[_,_]) [s,nm] rfl rfl (by omega) (Nat.le_trans (by simpa using hts) (by omega:s.size + 42 <= 1000000000)) ?_;intro z2 w2 hz2 hS2;exact main _ _ _ (by (repeat (assumption))) hS2
  ·(repeat (first | refine V_run ?_ | refine iV_ld1 ?_ | refine Cond_t ?_))
   refine V_words (out:=[_,_]) [s,b1 40 ++ nm ++ b1 41] rfl rfl (by omega) (Nat.le_trans (by simpa using hts) (by omega:s.size + 42 <= 1000000000)) ?_;intro z2 w2 hz2 hS2;exact main _ _ _ (by (repeat (assumption))) hS2
 ·have hk2:k = l.length:=by omega
  subst hk2;rw [List.take_length];exact ⟨_,_,hS1,rfl⟩)
def labelT (s:SpotM):ByteArray:=joinB [⟨#[108,97,98,101,108]⟩,itoaB s.at_,quotedB s.name]
theorem labelT_size {s:SpotM} (h1:InI s.at_) (h2:s.name.size <= 1000000):sizes [⟨#[108,97,98,101,108]⟩,itoaB s.at_,quotedB s.name] <= 3000050/\(labelT s).size <= 3000060:=by
 have a:=itoaB_size h1;have c:=quotedB_size (s:=s.name);have d:sizes [⟨#[108,97,98,101,108]⟩,itoaB s.at_,quotedB s.name] <= 3000050:=by
  simp only [sizes,List.map_cons,List.map_nil,List.sum_cons,List.sum_nil,show (⟨#[108,97,98,101,108]⟩:ByteArray).size = 5 from rfl]; omega
 have e:=joinB_size [⟨#[108,97,98,101,108]⟩,itoaB s.at_,quotedB s.name];simp only [List.length_cons,List.length_nil] at e;exact ⟨d,by rw [labelT]; omega⟩
theorem labelLine_of {z:Z} {w:World} {s:SpotM} [ht:Tab z] (h1:InI s.at_) (h2:s.name.size <= 1000000) :
  Fn1 130 #[s.v] z w fun _ r=>r = .string (labelT s):=Fn1.intro fun hS=>en130 (by
 unfold vc130;haveI:Brief s.name:=⟨h2⟩
 (repeat (first | (refine iDr ?_; intro _ _) | refine PV_run ?_ | (refine iV_bx ?_; intro _ _ _ _) | refine iHV_1 ?_ | refine iRI_1 ?_ | (refine CV_pu ?_; intro _ _ _ _) | (refine CV_puz ?_; intro _ _ _ _)));refine V_words (out:=[_,_,_]) [⟨#[108,97,98,101,108]⟩,itoaB s.at_,quotedB s.name] rfl rfl (by omega) (by have:=(labelT_size h1 h2).1; omega) ?_;intro z2 w2 hz2 hS2;exact ⟨_,_,hS2,rfl⟩)
def stripK (l:List Int):Nat->Nat
 | 0=>0
 | k + 1=>if l.getD k 0 = 0 then stripK l k else k + 1
def wordStep (s:ByteArray) (n:Int):ByteArray:=joinB [s,itoaB n]
def insW3 (i:InsM):List Int:=[i.a,i.b,i.c].take (stripK [i.a,i.b,i.c] 3)
def insT (i:InsM):ByteArray:=(insW3 i).foldl wordStep (formAt i.op).name
theorem stripK_pos {l:List Int} {k:Nat} (h0:0 < k) (h:l.getD (k - 1) 0 = 0):stripK l (k - 1) = stripK l k:=by
 obtain ⟨j,rfl⟩:∃ j,k = j + 1:=⟨k - 1,by omega⟩
 rw [show j + 1 - 1 = j by omega] at h ⊢
 conv=>rhs; unfold stripK
 rw [if_pos h]
theorem stripK_stop {l:List Int} {k:Nat} (h:¬ (0 < k/\l.getD (k - 1) 0 = 0)):stripK l k = k:=by
 cases k with
 | zero=>rfl
 | succ j=>unfold stripK; rw [if_neg fun e=>h ⟨by omega,by simpa using e⟩]
theorem wordStep_size {s:ByteArray} {n:Int} (h1:InI n):sizes [s,itoaB n] <= s.size + 21/\(wordStep s n).size <= s.size + 30:=by
 have a:=itoaB_size h1;have d:sizes [s,itoaB n] <= s.size + 21:=by
  simp only [sizes,List.map_cons,List.map_nil,List.sum_cons,List.sum_nil]; omega
 have e:=joinB_size [s,itoaB n];simp only [List.length_cons,List.length_nil] at e;exact ⟨d,by rw [wordStep]; omega⟩
theorem form_name (n:Int):(formAt n).name.size <= 20:=by
 unfold formAt
 split
 ·have h:∀ k:Fin 47,(formL.getD k.val noForm).name.size <= 20:=by decide +kernel
  have hk:n.toNat < 47:=by
   have:=‹opOk n = true›
   unfold opOk at this;simp at this;omega
  exact h ⟨n.toNat,hk⟩
 ·decide +kernel
theorem insLine_of {z:Z} {w:World} {i:InsM} [ht:Tab z] (h1:InI i.a) (h2:InI i.b) (h3:InI i.c) :
  Fn1 131 #[i.v] z w fun _ r=>r = .string (insT i):=Fn1.intro fun hS=>en131 (by
 unfold vc131;have hnm:=form_name i.op;(repeat (first | refine V_run ?_ | refine iV_ld1 ?_ | refine iV_ldN ?_ | (refine iV_bx ?_; intro _ _ _ _) | (refine iU_st ?_; intro _ _) | (refine CV_pu ?_; intro _ _ _ _)));refine V_lit [i.a,i.b,i.c] rfl rfl (by omega) ?_;intro z2 w2 v2 hz2 hS2 hv2;obtain ⟨_,a,cap,rfl,hcap,_⟩:=hv2.form;have hi:∀ n ∈ [i.a,i.b,i.c],InI n:=by simp [h1,h2,h3]
 generalize hl:[i.a,i.b,i.c] = l at hv2 hcap hi ⊢;have hl3:l.length = 3:=by rw [<- hl]; rfl
 have hT:insT i = (l.take (stripK l 3)).foldl wordStep (formAt i.op).name:=by rw [insT,insW3,hl]
 rename_i b1 w1 hb1 hS1 z3 w3 hz3 hS3 b5 w5 hb5 hS5 w6 hS6 _ hel0;refine LoopR1 (fun k v=>v = .slice a k cap/\k <= 3/\stripK l k = stripK l 3) (fun k=>k) 3 ⟨by rw [hl3],Nat.le_refl _,rfl⟩ ?_;rintro I M k v w7 z7 m ⟨rfl,hk,hst⟩ hz7 hS7 back
 clear hS hS2 hS6 hS5 hS3 hS1;have hel:∀ i x,l[i]? = some x->∃ b off,a = some ⟨b,off,none⟩/\At z7 b (off + i * 1) [.int .i64 x]:=fun i x hx=>by
  obtain ⟨b,off,cs,ha,hr,hat⟩:=hel0 i x (by rw [hl]; exact hx)
  cases hr
  exact ⟨b,off,ha,hat.mono hz7⟩
 refine V_run ?_;refine V_run ?_;intro K hK;have main:∀ q:Bool,(q = true ↔ 0 < k/\l.getD (k - 1) 0 = 0)->K [.bool q] w7:=by
  intro q hq;refine hK _ _ fun _=>?_
  clear hK
  cases q with
  | true=>
   obtain ⟨hk0,hk1⟩:=hq.1 rfl;haveI:InI ((k:Int) - 1):=⟨by omega⟩
   haveI:InR ((k:Int) - 1) ((cap:Nat) + 1):=⟨by omega,by omega⟩
   refine Cond_t ?_;refine V_run ?_;refine V_run ?_;refine V_run ?_;exact back (k - 1) _ _ _ ⟨by rw [show ((k:Int) - 1).toNat = k - 1 by omega],by omega,by rw [stripK_pos hk0 hk1,hst]⟩ (Le.refl _) hS7 (by omega)
  | false=>
   have hs:=stripK_stop (l:=l) (k:=k) fun e=>by have:=hq.2 e; cases this
   refine Cond_f ?_;clear back;(repeat (first | refine V_run ?_ | refine iV_ld1 ?_));refine LoopR2 (fun j s x=>x = .int .i64 (j:Nat)/\j <= k/\s = .string ((l.take j).foldl wordStep (formAt i.op).name)) (fun j=>k - j) 0 ⟨rfl,Nat.zero_le _,rfl⟩ ?_;rintro I M j u v w8 z8 m ⟨rfl,hj,rfl⟩ hz8 hS8 back
   clear hS7;refine V_run ?_;refine Cond_d (fun h=>?_) (fun h=>?_)
   ·have hjl:j < l.length:=by omega
    have hji:=List.getElem?_eq_getElem hjl;obtain ⟨b,off,rfl,hat⟩:=hel _ _ hji;haveI i9:InI l[j]:=hi _ (List.getElem_mem hjl);haveI:InR (j:Int) (k:Nat):=⟨by omega,by omega⟩
    haveI:InI ((j:Int) + 1):=⟨by omega⟩
    have htf:=take_fold (f:=wordStep) (s:=(formAt i.op).name) hjl;have hlen:=foldl_size (f:=wordStep) (n:=30) (l.take j) (formAt i.op).name fun s x hx=>(wordStep_size (hi _ (List.mem_of_mem_take hx))).2
    rw [List.length_take,Nat.min_eq_left (by omega)] at hlen;generalize hs:(l.take j).foldl wordStep (formAt i.op).name = s at back hlen htf ⊢;have hts:=(wordStep_size (s:=s) i9).1;refine V_run ?_;refine zV_ld1 (hat.mono hz8) ?_;refine CV_puz ?_;intro z9' w9' hz9' hS9';refine V_words (n:=2) (out:=[_,_]) [s,itoaB l[j]] rfl rfl (by omega) (Nat.le_trans hts (by omega)) ?_;intro z9 w9 hz9 hS9;refine V_run ?_;exact back (j + 1) _ _ _ _ ⟨by simp,by omega,by rw [htf]; rfl⟩ (by (repeat (first | assumption | refine Le.trans ?_ (by assumption:Le _ _)))) hS9 (by omega)
   ·have hjk:j = k:=by omega
    subst hjk;exact ⟨_,_,hS8,by rw [hT,<- hst,hs]⟩
 clear hK back;refine Cond_d (fun h=>?_) (fun h=>?_)
 ·have hk0:0 < k:=by omega
  have hjl:k - 1 < l.length:=by omega
  have hji:=List.getElem?_eq_getElem hjl;obtain ⟨b,off,rfl,hat⟩:=hel _ _ hji;haveI:InI ((k:Int) - 1):=⟨by omega⟩
  haveI:InR ((k:Int) - 1) (k:Nat):=⟨by omega,by omega⟩
  refine V_run ?_;refine V_run ?_;refine V_run ?_;refine zV_ld1 (by rw [show ((k:Int) - 1).toNat = k - 1 by omega]; exact hat) ?_;refine V_run ?_;refine main _ ?_;rw [decide_eq_true_iff,List.getD_eq_getElem?_getD,hji];simp [hk0]
 ·exact main false (by simp; omega))
end
section
open Go Q Go.RowKit
def lineB (s:ByteArray):List UInt8:=bytes s ++ [10]
def constT (s:ByteArray):ByteArray:=joinB [⟨#[116,101,120,116]⟩,quotedB s]
def nameT (s:ByteArray):ByteArray:=joinB [⟨#[110,97,109,101]⟩,s]
def textL (c:CodeM):List UInt8:=
 c.consts.flatMap (fun s=>lineB (constT s)) ++ (c.tmpls.flatMap (fun l=>lineB (tmplT l)) ++ (c.lists.flatMap (fun l=>lineB (listT l)) ++ (c.labels.flatMap (fun s=>lineB (labelT s)) ++ (c.slots.flatMap (fun s=>lineB (nameT s)) ++ (c.ins.flatMap (fun i=>lineB (insT i)) ++ [])))))
theorem lineB_len (s:ByteArray):(lineB s).length = s.size + 1:=by rw [lineB,List.length_append,<- size_bytes]; rfl
theorem flat_bd {α:Type} {f:α->List UInt8} {n:Nat}:∀ (l:List α),(∀ x ∈ l,(f x).length <= n)->(l.flatMap f).length <= l.length * n
 | [],_=>by simp
 | x :: l,h=>by
  have h1:=flat_bd l fun y hy=>h y (List.mem_cons_of_mem _ hy)
  have h2:=h x List.mem_cons_self;rw [List.flatMap_cons,List.length_append,List.length_cons,Nat.add_mul,Nat.one_mul];omega
theorem constT_size {s:ByteArray} (h:s.size <= 1000000):sizes [⟨#[116,101,120,116]⟩,quotedB s] <= 3000010/\(constT s).size <= 3000020:=by
 have c:=quotedB_size (s:=s);have d:sizes [⟨#[116,101,120,116]⟩,quotedB s] <= 3000010:=by
  simp only [sizes,List.map_cons,List.map_nil,List.sum_cons,List.sum_nil,show (⟨#[116,101,120,116]⟩:ByteArray).size = 4 from rfl]; omega
 have e:=joinB_size [⟨#[116,101,120,116]⟩,quotedB s];simp only [List.length_cons,List.length_nil] at e;exact ⟨d,by rw [constT]; omega⟩
theorem nameT_size {s:ByteArray} (h:s.size <= 1000000):sizes [⟨#[110,97,109,101]⟩,s] <= 3000010/\(nameT s).size <= 3000020:=by
 have d:sizes [⟨#[110,97,109,101]⟩,s] <= 3000010:=by
  simp only [sizes,List.map_cons,List.map_nil,List.sum_cons,List.sum_nil,show (⟨#[110,97,109,101]⟩:ByteArray).size = 4 from rfl]; omega
 have e:=joinB_size [⟨#[110,97,109,101]⟩,s];simp only [List.length_cons,List.length_nil] at e;exact ⟨d,by rw [nameT]; omega⟩
theorem tmplT_size {l:List PartM} (hl:l.length <= 100) (hp:∀ p ∈ l,partM p = true):(tmplT l).size <= 300006010:=by
 have:=foldl_size (f:=tmplStep) (n:=3000060) l ⟨#[116,109,112,108]⟩ fun s x hx=>(tmplStep_size ⟨by have:=part_small (hp _ hx); omega⟩ ⟨by have:=part_small (hp _ hx); omega⟩ (by have:=part_small (hp _ hx); omega)).2
 rw [show (⟨#[116,109,112,108]⟩:ByteArray).size = 4 from rfl] at this;have h2:l.length * 3000060 <= 100 * 3000060:=Nat.mul_le_mul_right _ hl;rw [tmplT]; omega
theorem listT_size {l:List ItemM} (hl:l.length <= 10000) (hp:∀ x ∈ l,x.name.size <= 40):(listT l).size <= 500010:=by
 have:=foldl_size (f:=listStep) (n:=50) l ⟨#[108,105,115,116]⟩ fun s x hx=>(listStep_size (hp _ hx)).2
 rw [show (⟨#[108,105,115,116]⟩:ByteArray).size = 4 from rfl] at this;rw [listT]; omega
theorem insT_size {i:InsM} (h1:InI i.a) (h2:InI i.b) (h3:InI i.c):(insT i).size <= 110:=by
 have hi:∀ n ∈ insW3 i,InI n:=fun n hn=>by
  have:=List.mem_of_mem_take hn;simp only [List.mem_cons,List.not_mem_nil,or_false] at this
  rcases this with rfl | rfl | rfl <;> assumption
 have:=foldl_size (f:=wordStep) (n:=30) (insW3 i) (formAt i.op).name fun s x hx=>(wordStep_size (hi _ hx)).2
 have h4:=form_name i.op;have h5:(insW3 i).length <= 3:=by rw [insW3,List.length_take]; simp only [List.length_cons,List.length_nil]; omega
 rw [insT]; omega
theorem textL_len {c:CodeM} (h:SmallC c):(textL c).length <= lots:=by
 obtain ⟨n1,n2,n3,n4,n5,n6⟩:=h.num;have l1:=flat_bd (f:=fun s=>lineB (constT s)) (n:=3000021) c.consts fun s hs=>by rw [lineB_len]; have:=(constT_size (s:=s) (by have:=h.consts s hs; omega)).2; omega
 have l2:=flat_bd (f:=fun s=>lineB (tmplT s)) (n:=300006011) c.tmpls fun s hs=>by rw [lineB_len]; have:=tmplT_size (h.tmpls s hs).1 (h.tmpls s hs).2; omega
 have l3:=flat_bd (f:=fun s=>lineB (listT s)) (n:=500011) c.lists fun s hs=>by rw [lineB_len]; have:=listT_size (h.lists s hs).1 (h.lists s hs).2; omega
 have l4:=flat_bd (f:=fun s=>lineB (labelT s)) (n:=3000061) c.labels fun s hs=>by rw [lineB_len]; have h9:=h.labels s hs; have:=(labelT_size (s:=s) ⟨by omega⟩ (by omega)).2; omega
 have l5:=flat_bd (f:=fun s=>lineB (nameT s)) (n:=3000021) c.slots fun s hs=>by rw [lineB_len]; have:=(nameT_size (s:=s) (by have:=h.slots s hs; omega)).2; omega
 have l6:=flat_bd (f:=fun s=>lineB (insT s)) (n:=111) c.ins fun s hs=>by rw [lineB_len]; have h9:=h.ins s hs; have:=insT_size (i:=s) ⟨by omega⟩ ⟨by omega⟩ ⟨by omega⟩; omega
 simp only [textL,List.length_append,List.length_nil,lots];have m1:c.consts.length * 3000021 <= 3000 * 3000021:=Nat.mul_le_mul_right _ n1;have m2:c.tmpls.length * 300006011 <= 3000 * 300006011:=Nat.mul_le_mul_right _ n2;have m3:c.lists.length * 500011 <= 3000 * 500011:=Nat.mul_le_mul_right _ n3;have m4:c.labels.length * 3000061 <= 3000 * 3000061:=Nat.mul_le_mul_right _ n4;have m5:c.slots.length * 3000021 <= 100 * 3000021:=Nat.mul_le_mul_right _ n5;have m6:c.ins.length * 111 <= 12000 * 111:=Nat.mul_le_mul_right _ n6;omega
section
variable {w0 w:World} {z0 z:Z} {B0 B:Bl} {bb:Nat} {ys:List UInt8}
theorem line_of {s:ByteArray} (hB:BuOk bb B (Lib.byteCells ys)) (hl:(ys ++ lineB s).length <= lots) :
  Va (.func (.func 124) #[] #[.pointer (some ⟨bb,0,none⟩)]) #[.string s] z B w fun _ B' _=>BuOk bb B' (Lib.byteCells (ys ++ lineB s)):=
 Fn.va (args':=#[.string s,.pointer (some ⟨bb,0,none⟩)]) (Fn.intro fun hS=>en124 (by
  unfold vc124;rw [List.length_append,lineB_len] at hl;simp only [lots] at hl;have e1:(b1 10).size = 1:=rfl;haveI:Cat s (b1 10):=⟨by rw [e1]; omega⟩
  refine V_run (v:=.string (s ++ b1 10)) (g:=(inferInstance:Run (bi .add 9 _ (.string (b1 10))) _)) ?_;refine CV_fn (B:=B) (F:=[]) (by simpa using hS) (writeString (s:=s ++ b1 10) hB (by rw [Lib.byteCells_length,ByteArray.size_append,e1]; simp only [room]; omega)) (by simp) ?_;rintro z7 B7 w7 v7 hz7 hS7 ⟨hB7,rfl⟩
  rw [List.append_nil] at hS7;rw [Lib.strCells_eq,<- Lib.byteCells_append,show (s ++ b1 10).data.toList = lineB s by rw [ByteArray.data_append,Array.toList_append]; rfl] at hB7;exact ⟨_,_,hS7,hB7⟩)) (by simp)
theorem CV_line {K:Value->World->Prop} {s:ByteArray} {total more:List UInt8} (hS:Res w0 z0 B0 w z B) (hB:BuOk bb B (Lib.byteCells ys)) (ht:total = ys ++ (lineB s ++ more)) (hl:total.length <= lots)
  (hk:∀ z' B' w' v,Le z z'->Res w0 z0 B0 w' z' B'->BuOk bb B' (Lib.byteCells (ys ++ lineB s))->K v w'):CV (.func (.func 124) #[] #[.pointer (some ⟨bb,0,none⟩)]) #[.string s] w K:=by
 refine CV_va (B:=B) (F:=[]) (by simpa using hS) (line_of hB (by rw [ht,<- List.append_assoc,List.length_append] at hl; omega)) ?_;rintro z7 B7 w7 v7 hz7 hS7 hB7
 rw [List.append_nil] at hS7;exact hk _ _ _ _ hz7 hS7 hB7
theorem LoopLn {α:Type} {xs:List α} {g:α->ByteArray} {total more:List UInt8} {body:(List Value->World->Prop)->(List Value->World->Nat)->Value->World->Nat->Prop} (hS:Res w0 z0 B0 w z B) (hB:BuOk bb B (Lib.byteCells ys)) (ht:total = ys ++ (xs.flatMap (fun y=>lineB (g y)) ++ more))
  (hs:∀ I M k w' z' B' us m,k <= xs.length->Le z z'->Res w0 z0 B0 w' z' B'->BuOk bb B' (Lib.byteCells us)->total = us ++ ((xs.drop k).flatMap (fun y=>lineB (g y)) ++ more) ->
   (∀ (hk:k < xs.length) w'' z'' B'',Le z' z''->Res w0 z0 B0 w'' z'' B''->BuOk bb B'' (Lib.byteCells (us ++ lineB (g xs[k])))->I [.int .i64 ((k:Int) + 1)] w''/\M [.int .i64 ((k:Int) + 1)] w'' < m)->body I M (.int .i64 k) w' m) :
  ∃ (I:List Value->World->Prop) (M:List Value->World->Nat),I [.int .i64 0] w/\∀ _:Env,∀ x,∀ w,I [x] w->∀ m,m = M [x] w->body I M x w m:=
 LoopG1 (fun (p:Nat × List UInt8) x w'=>x = .int .i64 p.1/\p.1 <= xs.length/\total = p.2 ++ ((xs.drop p.1).flatMap (fun y=>lineB (g y)) ++ more)/\∃ B' z',Le z z'/\BuOk bb B' (Lib.byteCells p.2)/\Res w0 z0 B0 w' z' B') (fun p=>xs.length - p.1) (0,ys) ⟨rfl,Nat.zero_le _,ht,B,z,Le.refl _,hB,hS⟩ (by
  rintro I M ⟨k,us⟩ x w' m ⟨rfl,hk,hus,B',z',hz',hB',hS'⟩ back
  refine hs I M k w' z' B' us m hk hz' hS' hB' hus fun hlt w'' z'' B'' hz'' hS'' hB''=>?_
  refine back (k + 1,us ++ lineB (g xs[k])) _ _ ⟨by simp,by simp only; omega,?_,B'',z'',hz'.trans hz'',hB'',hS''⟩ (by simp only; omega);simp only at hus ⊢;rw [List.drop_eq_getElem_cons hlt,List.flatMap_cons] at hus;rw [hus];simp only [List.append_assoc])
end
theorem loop_end {α:Type} {xs:List α} {f:α->List UInt8} {total us more:List UInt8} {k:Nat} (h:total = us ++ ((xs.drop k).flatMap f ++ more)) (hk:¬ (k:Int) < (xs.length:Nat)):total = us ++ more:=by
 rw [List.drop_of_length_le (by omega)] at h
 simpa using h
theorem loop_one {α:Type} {xs:List α} {f:α->List UInt8} {total us more:List UInt8} {k:Nat} (h:total = us ++ ((xs.drop k).flatMap f ++ more)) (hk:k < xs.length):total = us ++ (f xs[k] ++ ((xs.drop (k + 1)).flatMap f ++ more)):=by
 rw [List.drop_eq_getElem_cons hk,List.flatMap_cons,List.append_assoc] at h;exact h
def textE (c:CodeM):Int:=(checkM c).1
def textB (c:CodeM):ByteArray:=if (checkM c).1 = 0 then ⟨(textL c).toArray⟩ else ⟨#[]⟩
theorem text_of {z:Z} {w:World} {v:Value} {c:CodeM} [ht:Tab z] (hc:CodeR z v c):Fn1 40 #[v] z w fun _ r=>r = .tuple #[.string (textB c),.int .i64 (textE c)]:=fnA en40 (by
 intro hS R hR;unfold vc40;obtain ⟨a1,a2,a3,a4,a5,a6,k1,k2,k3,k4,k5,k6,rfl,h1,h2,h3,h4,h5,h6⟩:=hc.form;refine iV_bx ?_;intro bc w1 hbc hS1;obtain ⟨zc,hzc,hS2,hatc⟩:=hS1.frz bc;have hR2:∀ z' w' L',Res w1 zc [] w' z' L'->R (.tuple #[.string (textB c),.int .i64 (textE c)]) w':=fun z' w' L' k=>hR _ _ _ (hS2.comp k)
 have hS3:=hS2.self;clear hS hS1 hS2 hR;haveI:Tab zc:=ht.le hzc;haveI:CodeZ zc (.agg (codeVs a1 a2 a3 a4 a5 a6 k1 k2 k3 k4 k5 k6 c).toArray) c:=⟨hc.mono hzc⟩
 refine zV_ldN (n:=6) hatc rfl ?_;haveI:Fz zc bc 0 [.slice a1 c.consts.length k1]:=⟨hatc.fld (i:=0) rfl rfl⟩
 haveI:Fz zc bc 1 [.slice a2 c.tmpls.length k2]:=⟨hatc.fld (i:=1) rfl rfl⟩
 haveI:Fz zc bc 2 [.slice a3 c.lists.length k3]:=⟨hatc.fld (i:=2) rfl rfl⟩
 haveI:Fz zc bc 3 [.slice a4 c.labels.length k4]:=⟨hatc.fld (i:=3) rfl rfl⟩
 haveI:Fz zc bc 4 [.slice a5 c.slots.length k5]:=⟨hatc.fld (i:=4) rfl rfl⟩
 haveI:Fz zc bc 5 [.slice a6 c.ins.length k6]:=⟨hatc.fld (i:=5) rfl rfl⟩
 (repeat (first | refine V_run ?_ | (refine CV_puz ?_; intro _ _ _ _)));rename_i z5 w5 hz5 hS5;clear hS3;refine Cond_nd (fun e1=>?_) (fun e1=>?_)
 ·have:=hR2 _ _ _ hS5
  rw [textB,if_neg e1] at this;exact this
 obtain ⟨e0,hli,hpa,hri,_,_⟩:=check_ok e1;have hsm:=small_of hli hpa hri;have hlen:=textL_len hsm;obtain ⟨n1,n2,n3,n4,n5,n6⟩:=hsm.num;have eB:(.tuple #[.string (textB c),.int .i64 (textE c)]:Value) = .tuple #[.string ⟨(textL c).toArray⟩,.int .i64 0]:=by rw [textB,if_pos e1,textE,e1]
 rw [eB] at hR2;clear eB;generalize htot:textL c = total at hlen hR2;have ht0:total = [] ++ textL c:=htot.symm;clear htot;rw [textL] at ht0;refine iV_al ?_;intro bb w6 hbb hS6;clear hS5;have hB6:BuOk bb [(bb,buO none (.slice none 0 0))] (Lib.byteCells []):=BuOk.new;have hS6':Res w1 zc [] w6 z5 [(bb,buO none (.slice none 0 0))]:=hS6;generalize [(bb,buO none (.slice none 0 0))] = B6 at hB6 hS6';clear hS6;have hS6:=hS6';clear hS6';(repeat (first | refine V_run ?_ | refine fV_ld1 ?_));refine LoopLn (xs:=c.consts) (g:=constT) hS6 hB6 ht0 ?_;intro I10 M10 k10 w10 z10 B10 us10 m10 hk10 hz10 hS10 hB10 ht10 back;clear hS6 hB6;have hzz10:Le z5 z10:=Le.trans (Le.refl _) hz10;have hzc10:Le zc z10:=hz5.trans hzz10;obtain ⟨_,_,_,e10,_,hel10⟩:=h1.form
 cases e10
 refine V_run ?_;refine Cond_d (fun h=>?_) (fun h=>?_)
 ·have hlt:k10 < c.consts.length:=by omega
  have hi:=List.getElem?_eq_getElem hlt;have hm:=List.getElem_mem hlt;have hl1:=loop_one ht10 hlt;haveI:InR (k10:Int) (c.consts.length:Nat):=⟨by omega,by omega⟩
  haveI:InI ((k10:Int) + 1):=⟨by omega⟩
  obtain ⟨b,off,cs,rfl,hr,hat⟩:=hel10 _ _ hi;obtain ⟨rfl,_⟩:=hr;have hbs:=hsm.consts _ hm;haveI:Brief c.consts[k10]:=⟨by omega⟩
  refine V_run ?_;refine zV_ld1 (hat.mono (hzc.trans hzc10)) ?_;refine CV_pu ?_;intro z2 w2 hz2 hS2;refine V_words (n:=2) (out:=[_,_]) [⟨#[116,101,120,116]⟩,quotedB c.consts[k10]] rfl rfl (by omega) (Nat.le_trans (constT_size (by omega)).1 (by omega)) ?_;intro z3 w3 hz3 hS3;refine CV_line hS3 hB10 hl1 hlen ?_;intro z4 B4 w4 v4 hz4 hS4 hB4;refine V_run ?_;exact back hlt _ _ _ (by (repeat (first | assumption | refine Le.trans ?_ (by assumption:Le _ _)))) hS4 hB4
 have hn10:=loop_end ht10 h;clear back ht10 hel10;(repeat (first | refine V_run ?_ | refine fV_ld1 ?_));refine LoopLn (xs:=c.tmpls) (g:=tmplT) hS10 hB10 hn10 ?_;intro I20 M20 k20 w20 z20 B20 us20 m20 hk20 hz20 hS20 hB20 ht20 back;clear hS10 hB10;have hzz20:Le z5 z20:=Le.trans hzz10 hz20;have hzc20:Le zc z20:=hz5.trans hzz20;obtain ⟨_,_,_,e20,_,hel20⟩:=h2.form
 cases e20
 refine V_run ?_;refine Cond_d (fun h=>?_) (fun h=>?_)
 ·have hlt:k20 < c.tmpls.length:=by omega
  have hi:=List.getElem?_eq_getElem hlt;have hm:=List.getElem_mem hlt;have hl1:=loop_one ht20 hlt;haveI:InR (k20:Int) (c.tmpls.length:Nat):=⟨by omega,by omega⟩
  haveI:InI ((k20:Int) + 1):=⟨by omega⟩
  obtain ⟨b,off,cs,rfl,hr,hat⟩:=hel20 _ _ hi;obtain ⟨v9,rfl,hv9⟩:=hr;have hbs:=hsm.tmpls _ hm;haveI:Tab z20:=ht.le (hzc.trans hzc20);refine V_run ?_;refine zV_ld1 (hat.mono (hzc.trans hzc20)) ?_;refine CV_1 (tmplLine_of (hv9.mono (hzc.trans hzc20)) hbs.1 hbs.2) ?_;rintro z3 w3 v3 hz3 hS3 rfl
  refine CV_line hS3 hB20 hl1 hlen ?_;intro z4 B4 w4 v4 hz4 hS4 hB4;refine V_run ?_;exact back hlt _ _ _ (by (repeat (first | assumption | refine Le.trans ?_ (by assumption:Le _ _)))) hS4 hB4
 have hn20:=loop_end ht20 h;clear back ht20 hel20;(repeat (first | refine V_run ?_ | refine fV_ld1 ?_));refine LoopLn (xs:=c.lists) (g:=listT) hS20 hB20 hn20 ?_;intro I30 M30 k30 w30 z30 B30 us30 m30 hk30 hz30 hS30 hB30 ht30 back;clear hS20 hB20;have hzz30:Le z5 z30:=Le.trans hzz20 hz30;have hzc30:Le zc z30:=hz5.trans hzz30;obtain ⟨_,_,_,e30,_,hel30⟩:=h3.form
 cases e30
 refine V_run ?_;refine Cond_d (fun h=>?_) (fun h=>?_)
 ·have hlt:k30 < c.lists.length:=by omega
  have hi:=List.getElem?_eq_getElem hlt;have hm:=List.getElem_mem hlt;have hl1:=loop_one ht30 hlt;haveI:InR (k30:Int) (c.lists.length:Nat):=⟨by omega,by omega⟩
  haveI:InI ((k30:Int) + 1):=⟨by omega⟩
  obtain ⟨b,off,cs,rfl,hr,hat⟩:=hel30 _ _ hi;obtain ⟨v9,rfl,hv9⟩:=hr;have hbs:=hsm.lists _ hm;haveI:Tab z30:=ht.le (hzc.trans hzc30);refine V_run ?_;refine zV_ld1 (hat.mono (hzc.trans hzc30)) ?_;refine CV_1 (listLine_of (hv9.mono (hzc.trans hzc30)) hbs.1 hbs.2) ?_;rintro z3 w3 v3 hz3 hS3 rfl
  refine CV_line hS3 hB30 hl1 hlen ?_;intro z4 B4 w4 v4 hz4 hS4 hB4;refine V_run ?_;exact back hlt _ _ _ (by (repeat (first | assumption | refine Le.trans ?_ (by assumption:Le _ _)))) hS4 hB4
 have hn30:=loop_end ht30 h;clear back ht30 hel30;(repeat (first | refine V_run ?_ | refine fV_ld1 ?_));refine LoopLn (xs:=c.labels) (g:=labelT) hS30 hB30 hn30 ?_;intro I40 M40 k40 w40 z40 B40 us40 m40 hk40 hz40 hS40 hB40 ht40 back;clear hS30 hB30;have hzz40:Le z5 z40:=Le.trans hzz30 hz40;have hzc40:Le zc z40:=hz5.trans hzz40;obtain ⟨_,_,_,e40,_,hel40⟩:=h4.form
 cases e40
 refine V_run ?_;refine Cond_d (fun h=>?_) (fun h=>?_)
 ·have hlt:k40 < c.labels.length:=by omega
  have hi:=List.getElem?_eq_getElem hlt;have hm:=List.getElem_mem hlt;have hl1:=loop_one ht40 hlt;haveI:InR (k40:Int) (c.labels.length:Nat):=⟨by omega,by omega⟩
  haveI:InI ((k40:Int) + 1):=⟨by omega⟩
  obtain ⟨b,off,cs,rfl,hr,hat⟩:=hel40 _ _ hi;obtain ⟨rfl,_⟩:=hr;have hbs:=hsm.labels _ hm;haveI:Fz zc b (off + (k40:Int).toNat * 2) c.labels[k40].cells:=⟨hat.mono hzc⟩
  (repeat (first | refine V_run ?_ | refine iV_ldN ?_ | (refine iV_bx ?_; intro _ _ _ _) | (refine iU_st ?_; intro _ _) | refine fV_ldN ?_));rename_i w8 hS8;have hS9:=hS8.keep [.bl B40];rw [List.append_nil] at hS9;haveI:Tab z40:=ht.le (hzc.trans hzc40);refine CV_1 (labelLine_of ⟨by omega⟩ (by omega)) ?_;rintro z3 w3 v3 hz3 hS3 rfl
  have hS3':=hS3.keep [.bl B40];rw [List.append_nil] at hS3';refine CV_line hS3' hB40 hl1 hlen ?_;intro z4 B4 w4 v4 hz4 hS4 hB4;refine V_run ?_;exact back hlt _ _ _ (by (repeat (first | assumption | refine Le.trans ?_ (by assumption:Le _ _)))) hS4 hB4
 have hn40:=loop_end ht40 h;clear back ht40 hel40;(repeat (first | refine V_run ?_ | refine fV_ld1 ?_));refine LoopLn (xs:=c.slots) (g:=nameT) hS40 hB40 hn40 ?_;intro I50 M50 k50 w50 z50 B50 us50 m50 hk50 hz50 hS50 hB50 ht50 back;clear hS40 hB40;have hzz50:Le z5 z50:=Le.trans hzz40 hz50;have hzc50:Le zc z50:=hz5.trans hzz50;obtain ⟨_,_,_,e50,_,hel50⟩:=h5.form
 cases e50
 refine V_run ?_;refine Cond_d (fun h=>?_) (fun h=>?_)
 ·have hlt:k50 < c.slots.length:=by omega
  have hi:=List.getElem?_eq_getElem hlt;have hm:=List.getElem_mem hlt;have hl1:=loop_one ht50 hlt;haveI:InR (k50:Int) (c.slots.length:Nat):=⟨by omega,by omega⟩
  haveI:InI ((k50:Int) + 1):=⟨by omega⟩
  obtain ⟨b,off,cs,rfl,hr,hat⟩:=hel50 _ _ hi;obtain ⟨rfl,_⟩:=hr;have hbs:=hsm.slots _ hm;refine V_run ?_;refine zV_ld1 (hat.mono (hzc.trans hzc50)) ?_;refine V_words (n:=2) (out:=[_,_]) [⟨#[110,97,109,101]⟩,c.slots[k50]] rfl rfl (by omega) (Nat.le_trans (nameT_size (by omega)).1 (by omega)) ?_;intro z3 w3 hz3 hS3;refine CV_line hS3 hB50 hl1 hlen ?_;intro z4 B4 w4 v4 hz4 hS4 hB4;refine V_run ?_;exact back hlt _ _ _ (by (repeat (first | assumption | refine Le.trans ?_ (by assumption:Le _ _)))) hS4 hB4
 have hn50:=loop_end ht50 h;clear back ht50 hel50;(repeat (first | refine V_run ?_ | refine fV_ld1 ?_));refine LoopLn (xs:=c.ins) (g:=insT) hS50 hB50 hn50 ?_;intro I60 M60 k60 w60 z60 B60 us60 m60 hk60 hz60 hS60 hB60 ht60 back;clear hS50 hB50;have hzz60:Le z5 z60:=Le.trans hzz50 hz60;have hzc60:Le zc z60:=hz5.trans hzz60;obtain ⟨_,_,_,e60,_,hel60⟩:=h6.form
 cases e60
 refine V_run ?_;refine Cond_d (fun h=>?_) (fun h=>?_)
 ·have hlt:k60 < c.ins.length:=by omega
  have hi:=List.getElem?_eq_getElem hlt;have hm:=List.getElem_mem hlt;have hl1:=loop_one ht60 hlt;haveI:InR (k60:Int) (c.ins.length:Nat):=⟨by omega,by omega⟩
  haveI:InI ((k60:Int) + 1):=⟨by omega⟩
  obtain ⟨b,off,cs,rfl,hr,hat⟩:=hel60 _ _ hi
  cases hr
  have hbs:=hsm.ins _ hm;haveI:Fz zc b (off + (k60:Int).toNat * 4) c.ins[k60].cells:=⟨hat.mono hzc⟩
  (repeat (first | refine V_run ?_ | refine iV_ldN ?_ | (refine iV_bx ?_; intro _ _ _ _) | (refine iU_st ?_; intro _ _) | refine fV_ldN ?_));rename_i w8 hS8;haveI:Tab z60:=ht.le (hzc.trans hzc60);refine CV_1 (insLine_of ⟨by omega⟩ ⟨by omega⟩ ⟨by omega⟩) ?_;rintro z3 w3 v3 hz3 hS3 rfl
  have hS3':=hS3.keep [.bl B60];rw [List.append_nil] at hS3';refine CV_line hS3' hB60 hl1 hlen ?_;intro z4 B4 w4 v4 hz4 hS4 hB4;refine V_run ?_;exact back hlt _ _ _ (by (repeat (first | assumption | refine Le.trans ?_ (by assumption:Le _ _)))) hS4 hB4
 have hn60:=loop_end ht60 h;clear back ht60 hel60;rw [List.append_nil] at hn60;subst hn60;refine CV_fn (B:=B60) (F:=[]) (by simpa using hS60) (builderString hB60 (by simp only [room]; simp only [lots] at hlen; omega)) (by simp) ?_;rintro z8 B8 w8 v8 hz8 hS8 ⟨rfl,rfl⟩
 exact hR2 _ _ _ hS8)
end
section
open Go Q Go.RowKit
def sayC:CodeM:=⟨[⟨#[83,65,89,32,49]⟩,⟨#[49]⟩,⟨#[65]⟩],[],[],[],[],[⟨1,1,0,0⟩,⟨3,1,0,0⟩,⟨13,0,0,0⟩,⟨39,0,0,0⟩,⟨2,0,0,0⟩,⟨46,0,0,0⟩]⟩
def badC:CodeM:=⟨[⟨#[83,65,89,32,49]⟩,⟨#[49]⟩,⟨#[65]⟩],[],[],[],[],[⟨1,1,0,0⟩,⟨3,1,0,0⟩,⟨39,0,0,0⟩,⟨39,0,0,0⟩,⟨2,0,0,0⟩,⟨46,0,0,0⟩]⟩
def jumpC:CodeM:=⟨[],[],[],[],[],[⟨23,0,0,0⟩]⟩
theorem say_check:(checkM sayC).1 = 0:=by decide +kernel
theorem say_stack:((depthsM sayC).getD []).map stackV = [0,0,1,1,0,0]:=by decide +kernel
theorem say_loops:((depthsM sayC).getD []).map loopsV = [0,0,0,0,0,0]:=by decide +kernel
theorem say_text:10 < (textB sayC).size/\(textB sayC).extract 0 10 = ⟨#[116,101,120,116,32,34,83,65,89,32]⟩:=by decide +kernel
theorem say_enc:encE sayC = 0/\3 < (encB sayC).length/\(encB sayC)[0]? = some 81/\(encB sayC)[1]? = some 6/\(encB sayC)[2]? = some 10:=by decide +kernel
theorem bad_check:(checkM badC).1 = 12:=by decide +kernel
theorem jump_check:(checkM jumpC).1 = 0:=by decide +kernel
instance {a b c d:Int}:Pu 45 #[.int .i64 a,.int .i64 b,.int .i64 c,.int .i64 d] (InsM.v ⟨a,b,c,d⟩):=⟨fun z w=>Fn1.intro fun hS=>en45 (by
 unfold vc45;(repeat (first | refine V_run ?_ | (refine iV_bx ?_; intro _ _ _ _) | (refine iU_st ?_; intro _ _) | refine iHV_N ?_));exact ⟨_,_,‹_›,rfl⟩)⟩
theorem sayOne_of {z:Z} {w:World}:Fn 44 #[] z [] w fun _ B' r=>∃ b1 b2,B' = [(b2,.cells (sayC.ins.flatMap InsM.cells).toArray 38 (0,0)),(b1,.cells (sayC.consts.map Value.string).toArray 9 (0,0))]/\r = .agg #[.slice (some ⟨b1,0,none⟩) 3 3,nilS,nilS,nilS,nilS,.slice (some ⟨b2,0,none⟩) 6 6]:=Fn.intro fun hS=>en44 (by
 unfold vc44;(repeat (refine iV_bx ?_; intro _ _ _ _));refine V_bs rfl (by omega) ?_;intro b1 w1 hb1 hS1;(repeat (refine CV_pu ?_; intro _ _ _ _));refine V_bs rfl (by omega) ?_;intro b2 w2 hb2 hS2;(repeat (first | refine V_run ?_ | (refine iU_st ?_; intro _ _) | refine iHV_N ?_));rename_i w3 hS3;exact ⟨_,_,hS3.keep [.at b2,.at b1],b1,b2,rfl,rfl⟩)
section
variable {w0 w:World} {z0 z:Z} {B0 L:Bl} {b:Nat}
theorem frzStrs {l:List ByteArray} {n:Nat} (hS:Res w0 z0 B0 w z ((b,.cells (l.map Value.string).toArray 9 (0,0)) :: L)) (hn:l.length = n) (h1:n <= 1000) (h2:∀ x ∈ l,x.size <= 1000):∃ z',Le z z'/\Res w0 z0 B0 w z' L/\SlR El.str z' (.slice (some ⟨b,0,none⟩) n n) l:=by
 have hfl:(l.map fun x=>Value.string x) = l.flatMap fun x=>[Value.string x]:=map_flatS l
 have hlen:(l.map Value.string).length = n:=by rw [List.length_map,hn]
 obtain ⟨z2,hz2,hS2,hv⟩:=Res.freezeSl (E:=El.str) (e:=9) (B:=[(b,_)]) (L:=L) (v:=.slice (some ⟨b,0,none⟩) l.length n) (xs:=l) (f:=fun x=>[Value.string x]) hS ⟨by rw [<- hfl,hlen,hn]; exact (Nat.mul_one _).symm,.inr ⟨b,n,[],by rw [<- hfl,List.append_nil],rfl,by omega,by simp only [maxLen]; omega,by rw [<- hfl,List.append_nil,hlen]; exact (Nat.mul_one _).symm⟩⟩ (by simp only [big]; omega) (fun _=>rfl) (fun z x hx=>⟨rfl,by have:=h2 x hx; simp only [big]; omega⟩);rw [hn] at hv;exact ⟨z2,hz2,hS2,hv⟩
theorem frzIns {l:List InsM} {n:Nat} (hS:Res w0 z0 B0 w z ((b,.cells (l.flatMap InsM.cells).toArray 38 (0,0)) :: L)) (hn:l.length = n) (h1:n <= 1000):∃ z',Le z z'/\Res w0 z0 B0 w z' L/\SlR El.ins z' (.slice (some ⟨b,0,none⟩) n n) l:=by
 have hlen:(l.flatMap InsM.cells).length = n * 4:=by rw [insLen,hn]
 obtain ⟨z2,hz2,hS2,hv⟩:=Res.freezeSl (E:=El.ins) (e:=38) (B:=[(b,_)]) (L:=L) (v:=.slice (some ⟨b,0,none⟩) l.length n) (xs:=l) (f:=InsM.cells) hS ⟨by rw [hlen,hn]; rfl,.inr ⟨b,n,[],by rw [List.append_nil],rfl,by omega,by simp only [maxLen]; omega,by rw [List.append_nil,hlen]; rfl⟩⟩ (by simp only [big]; omega) (fun _=>rfl) (fun z x hx=>rfl);rw [hn] at hv;exact ⟨z2,hz2,hS2,hv⟩
end
theorem frzInts {w0 w:World} {z0 z:Z} {B0 L:Bl} {b:Nat} {l:List Int} {n:Nat} (hS:Res w0 z0 B0 w z ((b,.cells (l.map fun x=>Value.int .i64 x).toArray 3 (0,0)) :: L)) (hn:l.length = n) (h1:n <= 1000):∃ z',Le z z'/\Res w0 z0 B0 w z' L/\SlR El.int z' (.slice (some ⟨b,0,none⟩) n n) l:=by
 have hfl:(l.map fun x=>Value.int .i64 x) = l.flatMap fun x=>[Value.int .i64 x]:=map_flat l
 have hlen:(l.map fun x=>Value.int .i64 x).length = n:=by rw [List.length_map,hn]
 obtain ⟨z2,hz2,hS2,hv⟩:=Res.freezeSl (E:=El.int) (e:=3) (B:=[(b,_)]) (L:=L) (v:=.slice (some ⟨b,0,none⟩) l.length n) (xs:=l) (f:=fun x=>[Value.int .i64 x]) hS ⟨by rw [<- hfl,hlen,hn]; exact (Nat.mul_one _).symm,.inr ⟨b,n,[],by rw [<- hfl,List.append_nil],rfl,by omega,by simp only [maxLen]; omega,by rw [<- hfl,List.append_nil,hlen]; exact (Nat.mul_one _).symm⟩⟩ (by simp only [big]; omega) (fun _=>rfl) (fun z x hx=>rfl);rw [hn] at hv;exact ⟨z2,hz2,hS2,hv⟩
theorem sameInts_of {z:Z} {w:World} {v u:Value} {l m:List Int} (hv:SlR El.int z v l) (hu:SlR El.int z u m):Fn1 30 #[v,u] z w fun _ r=>r = .bool (decide (l = m)):=Fn1.intro fun hS=>en30 (by
 unfold vc30;obtain ⟨hb1,a1,c1,rfl,_,hel1⟩:=hv.form;obtain ⟨hb2,a2,c2,rfl,_,hel2⟩:=hu.form;refine V_run ?_;refine V_run ?_;refine V_run ?_;refine Cond_nd (fun h=>?_) (fun h=>?_)
 ·exact ⟨_,_,hS,by rw [decide_eq_false (fun e:l = m=>by rw [e] at h; omega)]⟩
 have hlm:l.length = m.length:=by omega
 refine LoopR1 (fun (k:Nat) x=>x = .int .i64 k/\k <= l.length/\∀ i,i < k->l[i]? = m[i]?) (fun k=>l.length - k) 0 ⟨rfl,Nat.zero_le _,fun i hi=>by omega⟩ ?_;rintro I M k x w1 z1 m1 ⟨rfl,hk,hall⟩ hz1 hS1 back
 clear hS;refine V_run ?_;refine V_run ?_;refine Cond_d (fun h=>?_) (fun h=>?_)
 ·have hk1:k < l.length:=by omega
  have hk2:k < m.length:=by omega
  obtain ⟨b,off,cs,rfl,hr,hat⟩:=hel1 _ _ (List.getElem?_eq_getElem hk1);obtain ⟨b',off',cs',rfl,hr',hat'⟩:=hel2 _ _ (List.getElem?_eq_getElem hk2)
  cases hr; cases hr'
  haveI:InR (k:Int) (l.length:Nat):=⟨by omega,by omega⟩
  haveI:InR (k:Int) (m.length:Nat):=⟨by omega,by omega⟩
  haveI:InI ((k:Int) + 1):=⟨by simp only [big] at hb1; omega⟩
  haveI:Fz z b (off + (k:Int).toNat * 1) [.int .i64 l[k]]:=⟨hat⟩
  haveI:Fz z b' (off' + (k:Int).toNat * 1) [.int .i64 m[k]]:=⟨hat'⟩
  (repeat (first | (refine iDr ?_; intro _ _) | refine PV_run ?_ | refine fHV_ld1 ?_));refine Cond_nd (fun h3=>?_) (fun h3=>?_)
  ·exact ⟨_,_,‹_›,by rw [decide_eq_false]; intro e; subst e; exact h3 rfl⟩
  ·refine V_run ?_
   refine back (k + 1) _ _ _ ⟨by simp,by omega,fun i hi=>?_⟩ (Le.refl _) (by assumption) (by omega)
   rcases Nat.lt_or_eq_of_le (Nat.le_of_lt_succ hi) with hi | hi
   ·exact hall i hi
   ·subst hi; rw [List.getElem?_eq_getElem hk1,List.getElem?_eq_getElem hk2,h3]
 ·have hlm2:l = m:=List.ext_getElem? fun i=>by
   rcases Nat.lt_or_ge i k with hi | hi
   ·exact hall i hi
   ·rw [List.getElem?_eq_none (by omega),List.getElem?_eq_none (by omega)]
  exact ⟨_,_,hS1,by rw [decide_eq_true hlm2]⟩)
theorem heff (i:InsM):Pu 17 #[i.v] (effM i).v:=inferInstance
theorem say_set:SetN (sayC.ins.flatMap InsM.cells) (Int.toNat 2 * 4) (InsM.cells ⟨39,0,0,0⟩) (badC.ins.flatMap InsM.cells):=
 (inferInstance:SetN ([.int .i64 1,.int .i64 1,.int .i64 0,.int .i64 0,.int .i64 3,.int .i64 1,.int .i64 0,.int .i64 0,.int .i64 13,.int .i64 0,.int .i64 0,.int .i64 0,.int .i64 39,.int .i64 0,.int .i64 0,.int .i64 0,.int .i64 2,.int .i64 0,.int .i64 0,.int .i64 0,.int .i64 46,.int .i64 0,.int .i64 0,.int .i64 0]:List Value) 8 [.int .i64 39,.int .i64 0,.int .i64 0,.int .i64 0] [.int .i64 1,.int .i64 1,.int .i64 0,.int .i64 0,.int .i64 3,.int .i64 1,.int .i64 0,.int .i64 0,.int .i64 39,.int .i64 0,.int .i64 0,.int .i64 0,.int .i64 39,.int .i64 0,.int .i64 0,.int .i64 0,.int .i64 2,.int .i64 0,.int .i64 0,.int .i64 0,.int .i64 46,.int .i64 0,.int .i64 0,.int .i64 0])
theorem head_of {z:Z} {w:World} [ht:Tab z]:Fn1 13 #[] z w fun _ r=>r = .bool true:=Fn1.intro fun hS=>en13 (by
 unfold vc13;refine CV_fn (B:=[]) (F:=[]) (by simpa using hS) sayOne_of (by simp) ?_;rintro z1 B1 w1 v1 hz1 hS1 ⟨b1,b2,rfl,rfl⟩
 rw [List.append_nil] at hS1;obtain ⟨z2,hz2,hS2,hv2⟩:=frzIns (n:=6) hS1 rfl (by omega);obtain ⟨z3,hz3,hS3,hv3⟩:=frzStrs (n:=3) hS2 rfl (by omega) (by decide);have hc3:=CodeR.mk ⟨_,_,_,_,_,_,rfl,hv3,SlR.nil,SlR.nil,SlR.nil,SlR.nil,hv2.mono hz3⟩ (c:=sayC);clear hS hS1 hS2;have hz03:Le z z3:=by (repeat (exact Res.zle (by assumption)))
 haveI:Tab z3:=ht.le hz03;(repeat (first | refine iV_ldN ?_ | (refine iV_bx ?_; intro _ _ _ _) | (refine iU_st ?_; intro _ _)));rename_i bt w4 hbt hS4 w5 hS5;clear hS3 hS4;refine CV_1 (depthsX_of hc3) ?_;rintro z6 w6 v6 hz6 hS6 ⟨vs,vl,rfl,hvs,hvl⟩
 rw [if_pos say_check,say_stack] at hvs;rw [if_pos say_check,say_loops] at hvl;clear hS5;(repeat (first | refine V_run ?_ | refine iV_ldN ?_));haveI:Tab z6:=ht.le (hz03.trans hz6);refine CV_1 (text_of (hc3.mono hz6)) ?_;rintro z7 w7 v7 hz7 hS7 rfl
 clear hS6;(repeat (first | refine V_run ?_ | refine iV_ldN ?_));have hz37:=hz6.trans hz7;refine CV_1 (trim_of (hc3.mono hz37)) ?_;rintro z8 w8 v8 hz8 hS8 ⟨vc,va,rfl,hvc,hva⟩
 clear hS7;obtain ⟨q1,q2,q3,q4,q5,q6,k1,k2,k3,k4,k5,k6,rfl,g1,_,_,_,_,_⟩:=hvc.form;(repeat (first | refine V_run ?_ | refine iV_ldN ?_ | (refine iV_bx ?_; intro _ _ _ _) | (refine iU_st ?_; intro _ _)));rename_i b7 w9 hb7 hS9 w10 hS10;have hz38:=hz37.trans hz8;refine CV_1 (encode_of (hc3.mono hz38)) ?_;rintro z11 w11 v11 hz11 hS11 ⟨vb,rfl,hvb⟩
 clear hS8 hS9 hS10;(repeat (refine V_run ?_));have hS12:=hS11.keep [.at bt,.at b7];refine CV_fn (B:=[]) (F:=_) hS12 sayOne_of (by simp) ?_;rintro z13 B13 w13 v13 hz13 hS13 ⟨c1,c2,rfl,rfl⟩
 clear hS11 hS12;have hS14:=hS13;simp only [List.cons_append,List.nil_append] at hS14;clear hS13;(repeat (first | (refine iDr ?_; intro _ _) | refine PV_run ?_ | (refine iV_bx ?_; intro _ _ _ _) | (refine iU_st ?_; intro _ _) | refine iHV_1 ?_ | refine iRI_1 ?_ | (refine CV_pu ?_; intro _ _ _ _)));rename_i b12 w15 hb12 hS15 w16 hS16 w17' hS17' z17 w17 hz17 hS17;clear hS14 hS15 hS16 hS17';haveI:=say_set;refine iU_st ?_;intro w18 hS18;clear hS17;(repeat (refine iV_ldN ?_));have hS19:=hS18.keep [.at c2,.at c1,.at b12,.at bt,.at b7];clear hS18;obtain ⟨z20,hz20,hS20,hv20⟩:=frzIns (n:=6) (l:=badC.ins) hS19 rfl (by omega);obtain ⟨z21,hz21,hS21,hv21⟩:=frzStrs (n:=3) (l:=badC.consts) hS20 rfl (by omega) (by decide);clear hS19 hS20;have hc21:=CodeR.mk ⟨_,_,_,_,_,_,rfl,hv21,SlR.nil,SlR.nil,SlR.nil,SlR.nil,hv20.mono hz21⟩ (c:=badC);refine CV_1 (check_of hc21) ?_;rintro z22 w22 v22 hz22 hS22 rfl
 clear hS21;(repeat (first | refine V_run ?_ | (refine CV_pu ?_; intro _ _ _ _)));rename_i z23 w23 hz23 hS23;clear hS22;refine V_bs (t:=26) rfl (by omega) ?_;intro bj w24 hbj hS24;obtain ⟨z25,hz25,hS25,hv25⟩:=frzIns (n:=1) (l:=jumpC.ins) hS24 rfl (by omega);clear hS23 hS24;have hc25:=CodeR.mk ⟨_,_,_,_,_,_,rfl,SlR.nil,SlR.nil,SlR.nil,SlR.nil,SlR.nil,hv25⟩ (c:=jumpC);(repeat (refine V_run ?_));refine CV_1 (check_of hc25) ?_;rintro z26 w26 v26 hz26 hS26 rfl
 clear hS25;(repeat (first | refine V_run ?_ | (refine CV_pu ?_; intro _ _ _ _)));rename_i z27 w27 hz27 hS27;clear hS26;refine CV_pu (v:=EffM.v ⟨3,0,0⟩) (g:=heff ⟨27,0,13,0⟩) ?_;intro z28 w28 hz28 hS28;clear hS27;rw [say_check,bad_check,jump_check,say_enc.1];simp only [textE,say_check];have hz628:Le z6 z28:=hz7.trans <| hz8.trans <| hz11.trans <| hz13.trans <| hz17.trans <| hz20.trans <| hz21.trans <| hz22.trans <| hz23.trans <| hz25.trans <| hz26.trans <| hz27.trans hz28
 have hz1128:Le z11 z28:=hz13.trans <| hz17.trans <| hz20.trans <| hz21.trans <| hz22.trans <| hz23.trans <| hz25.trans <| hz26.trans <| hz27.trans hz28
 refine V_run ?_;refine V_run ?_;refine V_run ?_;refine V_run ?_;intro F1 hF1;refine Cond_d (fun _=>?_) (fun h=>absurd (by decide) h);refine V_lit [0,0,1,1,0,0] rfl rfl (by omega) ?_;intro z30 w30 v30 hz30 hS30 hv30;refine CV_1 (sameInts_of (hvs.mono (hz628.trans hz30)) hv30) ?_;rintro z31 w31 v31 hz31 hS31 rfl
 clear hS30 hS28;refine hF1 _ _ fun _=>?_
 clear hF1;intro F2 hF2;refine Cond_d (fun _=>?_) (fun h=>absurd (by decide) h);refine iV_ms (n:=6) (by omega) (by omega) ?_;intro b32 w32 hb32 hS32;obtain ⟨z33,hz33,hS33,hv33⟩:=frzInts (n:=6) (l:=[0,0,0,0,0,0]) hS32 rfl (by omega);refine CV_1 (sameInts_of (hvl.mono (hz628.trans (hz30.trans (hz31.trans hz33)))) hv33) ?_;rintro z34 w34 v34 hz34 hS34 rfl
 clear hS31 hS32 hS33;refine hF2 _ _ fun _=>?_
 clear hF2;intro F3 hF3;refine Cond_d (fun _=>?_) (fun h=>absurd (by decide) h);refine V_run ?_;refine hF3 _ _ fun _=>?_
 clear hF3;have hz1134:Le z11 z34:=hz1128.trans <| hz30.trans <| hz31.trans <| hz33.trans hz34
 obtain ⟨hlt,hpre⟩:=say_text;obtain ⟨he0,he1,he2,he3,he4⟩:=say_enc;obtain ⟨_,ab,kb,rfl,_,helb⟩:=hvb.form;intro F4 hF4;refine Cond_d (fun _=>?_) (fun h=>absurd (by decide) h);refine V_run ?_;refine V_run ?_;refine hF4 _ _ fun _=>?_
 clear hF4;intro F5 hF5;refine Cond_d (fun _=>?_) (fun h=>absurd (by omega) h);haveI:InR 10 (((textB sayC).size:Nat) + 1):=⟨by omega,by omega⟩
 refine V_run ?_;rw [show (textB sayC).extract 0 (Int.toNat 10) = _ from hpre];refine V_run ?_;refine hF5 _ _ fun _=>?_
 clear hF5;refine V_run ?_;intro F6 hF6;refine Cond_d (fun _=>?_) (fun h=>absurd (by decide) h);refine V_run ?_;refine iV_ld1 ?_;refine V_run ?_;refine V_run ?_;refine hF6 _ _ fun _=>?_
 clear hF6;intro F7 hF7;refine Cond_d (fun _=>?_) (fun h=>absurd (by decide) h);refine V_run ?_;refine hF7 _ _ fun _=>?_
 clear hF7;intro F8 hF8;refine Cond_d (fun _=>?_) (fun h=>absurd (by decide) h);refine V_run ?_;refine V_run ?_;refine hF8 _ _ fun _=>?_
 clear hF8;intro F9 hF9;refine Cond_d (fun _=>?_) (fun h=>absurd (by omega) h);obtain ⟨b9,o9,c9,rfl,hr9,hat9⟩:=helb _ _ he2
 cases hr9
 haveI:InR 0 ((encB sayC).length:Nat):=⟨by omega,by omega⟩
 refine V_run ?_;refine zV_ld1 (hat9.mono hz1134) ?_;refine V_run ?_;refine hF9 _ _ fun _=>?_
 clear hF9;intro F10 hF10;refine Cond_d (fun _=>?_) (fun h=>absurd (by decide) h);obtain ⟨b10,o10,c10,e10,hr10,hat10⟩:=helb _ _ he3
 cases e10
 cases hr10
 haveI:InR 1 ((encB sayC).length:Nat):=⟨by omega,by omega⟩
 refine V_run ?_;refine zV_ld1 (hat10.mono hz1134) ?_;refine V_run ?_;refine hF10 _ _ fun _=>?_
 clear hF10;intro F11 hF11;refine Cond_d (fun _=>?_) (fun h=>absurd (by decide) h);obtain ⟨b11,o11,c11,e11,hr11,hat11⟩:=helb _ _ he4
 cases e11
 cases hr11
 haveI:InR 2 ((encB sayC).length:Nat):=⟨by omega,by omega⟩
 refine V_run ?_;refine zV_ld1 (hat11.mono hz1134) ?_;refine V_run ?_;refine hF11 _ _ fun _=>?_
 clear hF11;intro F12 hF12;refine Cond_d (fun _=>?_) (fun h=>absurd (by decide) h);refine hF12 _ _ fun _=>?_
 clear hF12;intro F13 hF13;refine Cond_d (fun _=>?_) (fun h=>absurd (by decide) h);refine V_run ?_;refine hF13 _ _ fun _=>?_
 clear hF13;intro F14 hF14;refine Cond_d (fun _=>?_) (fun h=>absurd (by decide) h);refine V_run ?_;refine hF14 _ _ fun _=>?_
 clear hF14;intro F15 hF15;refine Cond_d (fun _=>?_) (fun h=>absurd (by decide) h);refine V_run ?_;refine hF15 _ _ fun _=>?_
 clear hF15;intro F16 hF16;refine Cond_d (fun _=>?_) (fun h=>absurd (by decide) h);refine V_run ?_;refine hF16 _ _ fun _=>?_
 clear hF16;intro F17 hF17;refine Cond_d (fun _=>?_) (fun h=>absurd (by decide) h);refine V_run ?_;refine hF17 _ _ fun _=>?_
 clear hF17;exact ⟨_,_,hS34,rfl⟩)
instance {z:Z} [ht:Tab z]:PuZ z 13 #[] (.bool true):=⟨fun z' w hz=>by haveI:=ht.le hz; exact head_of⟩
end
section
open Go Q Go.RowKit
structure RowM where
 name:ByteArray
 k0:Int
 k1:Int
 k2:Int
 m0:Int
 m1:Int
 m2:Int
 pops:Int
 pushes:Int
 final:Bool
abbrev RowM.cells (f:RowM):List Value:=[.string f.name,.int .i64 f.k0,.int .i64 f.k1,.int .i64 f.k2,.int .i64 f.m0,.int .i64 f.m1,.int .i64 f.m2,.int .i64 f.pops,.int .i64 f.pushes,.bool f.final]
abbrev RowM.v (f:RowM):Value:=.agg f.cells.toArray
def El.row:El RowM where
 size:=10
 rel:=fun _ cs x=>cs = x.cells
 mono:=fun h _=>h
 len:=fun h=>by rw [h]; rfl
 pos:=by decide
end
section
open Go Q Go.RowKit
end
section
open Go Q Go.RowKit
end
section
open Go Q Go.RowKit
end
section
open Go Q Go.RowKit
end
section
open Go Q Go.RowKit
def manyM (n s l:Int):Bool:=(decide (n > s) && decide (n <= l)) || decide (n > l + 20)
theorem manyI {n s l:Int} (h:InI (l + 20)):Pu 34 #[.int .i64 n,.int .i64 s,.int .i64 l] (.bool (manyM n s l)):=⟨fun z w=>fnW en34 (fun hS R=>by unfold vc34; exact inferInstance) (by
 unfold manyM; congr 1; by_cases h1:n > s <;> by_cases h2:n <= l <;> by_cases h3:n > l + 20 <;> simp [h1,h2,h3])⟩
instance {n s:Int}:Pu 34 #[.int .i64 n,.int .i64 s,.int .i64 3000] (.bool (manyM n s 3000)):=manyI ⟨by omega⟩
instance {n s:Int}:Pu 34 #[.int .i64 n,.int .i64 s,.int .i64 100] (.bool (manyM n s 100)):=manyI ⟨by omega⟩
instance {n s:Int}:Pu 34 #[.int .i64 n,.int .i64 s,.int .i64 12000] (.bool (manyM n s 12000)):=manyI ⟨by omega⟩
instance {n s:Int}:Pu 34 #[.int .i64 n,.int .i64 s,.int .i64 10000] (.bool (manyM n s 10000)):=manyI ⟨by omega⟩
theorem few_of {z:Z} {w:World} {v:Value} {c:CodeM} (hc:CodeR z v c):Fn1 14 #[v] z w fun _ r=>∃ b,r = .bool b:=Fn1.intro fun hS=>en14 (by
 unfold vc14;obtain ⟨a1,a2,a3,a4,a5,a6,k1,k2,k3,k4,k5,k6,rfl,h1,h2,h3,h4,h5,h6⟩:=hc.form;refine iV_bx ?_;intro bc w1 hbc hS1;obtain ⟨zc,hzc,hS2,hatc⟩:=hS1.frz bc;generalize hRR:(fun (v:Value) (w':World)=>∃ z' L',Res w z [] w' z' L'/\∃ b,v = .bool b) = RR;have hR:∀ z' w' L' b,Res w1 zc [] w' z' L'->RR (.bool b) w':=fun z' w' L' b k=>by rw [<- hRR]; exact ⟨z',L',hS2.comp k,b,rfl⟩
 clear hRR;have hS3:=hS2.self;clear hS hS1 hS2;haveI:Fz zc bc 0 [.slice a1 c.consts.length k1]:=⟨hatc.fld (i:=0) rfl rfl⟩
 haveI:Fz zc bc 1 [.slice a2 c.tmpls.length k2]:=⟨hatc.fld (i:=1) rfl rfl⟩
 haveI:Fz zc bc 2 [.slice a3 c.lists.length k3]:=⟨hatc.fld (i:=2) rfl rfl⟩
 haveI:Fz zc bc 3 [.slice a4 c.labels.length k4]:=⟨hatc.fld (i:=3) rfl rfl⟩
 haveI:Fz zc bc 4 [.slice a5 c.slots.length k5]:=⟨hatc.fld (i:=4) rfl rfl⟩
 haveI:Fz zc bc 5 [.slice a6 c.ins.length k6]:=⟨hatc.fld (i:=5) rfl rfl⟩
 (repeat (first | refine V_run ?_ | (refine JGB ?_; intro _ _ _ _) | (refine CV_pu ?_; intro _ _ _ _) | refine fV_ld1 ?_));rename_i hS5;refine Cond_b (fun e1=>?_) (fun e1=>?_)
 ·exact hR _ _ _ _ hS5
 refine LoopR1 (fun (k:Nat) x=>x = .int .i64 k/\k <= c.consts.length) (fun k=>c.consts.length - k) 0 ⟨rfl,Nat.zero_le _⟩ ?_;rintro I M k x w6 z6 m ⟨rfl,hk⟩ hz6 hS6 back
 obtain ⟨hb1,_,_,e1,_,hel1⟩:=h1.form
 cases e1
 (repeat (first | refine V_run ?_ | refine fV_ld1 ?_));refine Cond_d (fun h=>?_) (fun h=>?_)
 ·have hlt:k < c.consts.length:=by omega
  obtain ⟨b,off,cs,rfl,⟨rfl,_⟩,hat⟩:=hel1 _ _ (List.getElem?_eq_getElem hlt);haveI:InR (k:Int) (c.consts.length:Nat):=⟨by omega,by omega⟩
  haveI:InI ((k:Int) + 1):=⟨by simp only [big] at hb1; omega⟩
  haveI:Fz zc b (off + (k:Int).toNat * 1) [.string c.consts[k]]:=⟨hat.mono hzc⟩
  (repeat (first | refine V_run ?_ | refine fV_ld1 ?_));refine Cond_d (fun h=>?_) (fun h=>?_)
  ·exact hR _ _ _ _ ‹Res w1 zc [] _ _ _›
  ·(repeat (refine V_run ?_))
   exact back (k + 1) _ _ _ ⟨by simp,by omega⟩ (by (repeat (exact Le.refl _))) (by assumption) (by omega)
 clear back;refine LoopR1 (fun (k:Nat) x=>x = .int .i64 k/\k <= c.tmpls.length) (fun k=>c.tmpls.length - k) 0 ⟨rfl,Nat.zero_le _⟩ ?_;rintro I M k x w7 z7 m ⟨rfl,hk⟩ hz7 hS7 back
 obtain ⟨hb2,_,_,e2,_,hel2⟩:=h2.form
 cases e2
 (repeat (first | refine V_run ?_ | refine fV_ld1 ?_));refine Cond_d (fun h=>?_) (fun h=>?_)
 ·have hlt:k < c.tmpls.length:=by omega
  obtain ⟨b,off,cs,rfl,⟨v9,rfl,hv9⟩,hat⟩:=hel2 _ _ (List.getElem?_eq_getElem hlt);obtain ⟨hb9,a9,c9,rfl,_,hel9⟩:=hv9.form;haveI:InR (k:Int) (c.tmpls.length:Nat):=⟨by omega,by omega⟩
  haveI:InI ((k:Int) + 1):=⟨by simp only [big] at hb2; omega⟩
  haveI:Fz zc b (off + (k:Int).toNat * 1) [.slice a9 c.tmpls[k].length c9]:=⟨hat.mono hzc⟩
  (repeat (first | refine V_run ?_ | (refine CV_pu ?_; intro _ _ _ _) | refine fV_ld1 ?_));rename_i hS8;refine Cond_b (fun h=>?_) (fun h=>?_)
  ·exact hR _ _ _ _ hS8
  refine LoopR1 (fun (j:Nat) x=>x = .int .i64 j/\j <= c.tmpls[k].length) (fun j=>c.tmpls[k].length - j) 0 ⟨rfl,Nat.zero_le _⟩ ?_;rintro I2 M2 j x w9 z9 m2 ⟨rfl,hj⟩ hz9 hS9 back2
  (repeat (first | refine V_run ?_ | refine fV_ld1 ?_));refine Cond_d (fun h=>?_) (fun h=>?_)
  ·have hlt2:j < c.tmpls[k].length:=by omega
   obtain ⟨b2,off2,cs,rfl,⟨rfl,_⟩,hat2⟩:=hel9 _ _ (List.getElem?_eq_getElem hlt2);haveI:InR (j:Int) (c.tmpls[k].length:Nat):=⟨by omega,by omega⟩
   haveI:InI ((j:Int) + 1):=⟨by simp only [big] at hb9; omega⟩
   haveI:Fz zc b2 (off2 + (j:Int).toNat * 3) c.tmpls[k][j].cells:=⟨hat2.mono hzc⟩
   haveI:Fz zc b2 (off2 + (j:Int).toNat * 3 + 1) [.string c.tmpls[k][j].text]:=⟨(hat2.mono hzc).fld (i:=1) rfl rfl⟩
   (repeat (first | refine V_run ?_ | refine fV_ld1 ?_));refine Cond_d (fun h=>?_) (fun h=>?_)
   ·exact hR _ _ _ _ ‹Res w1 zc [] _ _ _›
   ·(repeat (refine V_run ?_))
    exact back2 (j + 1) _ _ _ ⟨by simp,by omega⟩ (by (repeat (exact Le.refl _))) (by assumption) (by omega)
  ·(repeat (refine V_run ?_))
   exact back (k + 1) _ _ z9 ⟨by simp,by omega⟩ (by (repeat (first | assumption | refine Le.trans ?_ (by assumption:Le _ _)))) hS9 (by omega)
 clear back;refine LoopR1 (fun (k:Nat) x=>x = .int .i64 k/\k <= c.lists.length) (fun k=>c.lists.length - k) 0 ⟨rfl,Nat.zero_le _⟩ ?_;rintro I M k x w10 z10 m ⟨rfl,hk⟩ hz10 hS10 back
 obtain ⟨hb3,_,_,e3,_,hel3⟩:=h3.form
 cases e3
 (repeat (first | refine V_run ?_ | refine fV_ld1 ?_));refine Cond_d (fun h=>?_) (fun h=>?_)
 ·have hlt:k < c.lists.length:=by omega
  obtain ⟨b,off,cs,rfl,⟨v9,rfl,hv9⟩,hat⟩:=hel3 _ _ (List.getElem?_eq_getElem hlt);obtain ⟨hb9,a9,c9,rfl,_,hel9⟩:=hv9.form;haveI:InR (k:Int) (c.lists.length:Nat):=⟨by omega,by omega⟩
  haveI:InI ((k:Int) + 1):=⟨by simp only [big] at hb3; omega⟩
  haveI:Fz zc b (off + (k:Int).toNat * 1) [.slice a9 c.lists[k].length c9]:=⟨hat.mono hzc⟩
  (repeat (first | refine V_run ?_ | (refine CV_pu ?_; intro _ _ _ _) | refine fV_ld1 ?_));rename_i hS8;refine Cond_b (fun h=>?_) (fun h=>?_)
  ·exact hR _ _ _ _ hS8
  refine LoopR1 (fun (j:Nat) x=>x = .int .i64 j/\j <= c.lists[k].length) (fun j=>c.lists[k].length - j) 0 ⟨rfl,Nat.zero_le _⟩ ?_;rintro I2 M2 j x w9 z9 m2 ⟨rfl,hj⟩ hz9 hS9 back2
  (repeat (first | refine V_run ?_ | refine fV_ld1 ?_));refine Cond_d (fun h=>?_) (fun h=>?_)
  ·have hlt2:j < c.lists[k].length:=by omega
   obtain ⟨b2,off2,cs,rfl,⟨rfl,_⟩,hat2⟩:=hel9 _ _ (List.getElem?_eq_getElem hlt2);haveI:InR (j:Int) (c.lists[k].length:Nat):=⟨by omega,by omega⟩
   haveI:InI ((j:Int) + 1):=⟨by simp only [big] at hb9; omega⟩
   haveI:Fz zc b2 (off2 + (j:Int).toNat * 2 + 0) [.string c.lists[k][j].name]:=⟨(hat2.mono hzc).fld (i:=0) rfl rfl⟩
   haveI:Fz zc b2 (off2 + (j:Int).toNat * 2) [.string c.lists[k][j].name]:=⟨(hat2.mono hzc).fld (i:=0) rfl rfl⟩
   (repeat (first | refine V_run ?_ | refine fV_ld1 ?_));refine Cond_d (fun h=>?_) (fun h=>?_)
   ·exact hR _ _ _ _ ‹Res w1 zc [] _ _ _›
   ·(repeat (refine V_run ?_))
    exact back2 (j + 1) _ _ _ ⟨by simp,by omega⟩ (by (repeat (exact Le.refl _))) (by assumption) (by omega)
  ·(repeat (refine V_run ?_))
   exact back (k + 1) _ _ z9 ⟨by simp,by omega⟩ (by (repeat (first | assumption | refine Le.trans ?_ (by assumption:Le _ _)))) hS9 (by omega)
 clear back;refine LoopR1 (fun (k:Nat) x=>x = .int .i64 k/\k <= c.labels.length) (fun k=>c.labels.length - k) 0 ⟨rfl,Nat.zero_le _⟩ ?_;rintro I M k x w11 z11 m ⟨rfl,hk⟩ hz11 hS11 back
 obtain ⟨hb4,_,_,e4,_,hel4⟩:=h4.form
 cases e4
 (repeat (first | refine V_run ?_ | refine fV_ld1 ?_));refine Cond_d (fun h=>?_) (fun h=>?_)
 ·have hlt:k < c.labels.length:=by omega
  obtain ⟨b,off,cs,rfl,⟨rfl,_⟩,hat⟩:=hel4 _ _ (List.getElem?_eq_getElem hlt);haveI:InR (k:Int) (c.labels.length:Nat):=⟨by omega,by omega⟩
  haveI:InI ((k:Int) + 1):=⟨by simp only [big] at hb4; omega⟩
  haveI:Fz zc b (off + (k:Int).toNat * 2 + 0) [.string c.labels[k].name]:=⟨(hat.mono hzc).fld (i:=0) rfl rfl⟩
  haveI:Fz zc b (off + (k:Int).toNat * 2) [.string c.labels[k].name]:=⟨(hat.mono hzc).fld (i:=0) rfl rfl⟩
  (repeat (first | refine V_run ?_ | refine fV_ld1 ?_));refine Cond_d (fun h=>?_) (fun h=>?_)
  ·exact hR _ _ _ _ ‹Res w1 zc [] _ _ _›
  ·(repeat (refine V_run ?_))
   exact back (k + 1) _ _ _ ⟨by simp,by omega⟩ (by (repeat (exact Le.refl _))) (by assumption) (by omega)
 ·exact hR _ _ _ _ hS11)
end
section
open Go Q Go.RowKit
theorem mem_insK {out:List Nat} {x y:Nat}:y ∈ insK out x ↔ y ∈ out \/ y = x:=by
 unfold insK
 cases h:memK out x with
 | true=>
  have hx:x ∈ out:=by unfold memK at h; simpa using h
  simp only [cond_true];exact ⟨.inl,fun h=>h.elim id fun e=>e ▸ hx⟩
 | false=>simp
theorem mem_foldK {l:List (Nat × Bool)}:∀ {out:List Nat} {y:Nat},y ∈ l.foldl (fun out p=>insK out p.1) out ↔ y ∈ out \/ y ∈ l.map fun p=>p.1:=by
 induction l with
 | nil=>simp
 | cons p l ih=>
  intro out y;rw [List.foldl_cons,ih,mem_insK];simp only [List.map_cons,List.mem_cons];exact or_assoc
theorem mem_nextL {c:CodeM} {a y:Nat}:y ∈ nextL c a ↔ y ∈ toL c a:=by
 unfold nextL toL;rw [mem_foldK]; simp
theorem getD_set {l:List Bool} {a x:Nat} (ha:a < l.length):(l.set a true).getD x false = true ↔ x = a \/ l.getD x false = true:=by
 rw [List.getD_eq_getElem?_getD,List.getD_eq_getElem?_getD,List.getElem?_set]
 by_cases h:a = x
 ·subst h; simp [ha]
 ·rw [if_neg h]
  exact ⟨.inr,fun e=>e.elim (fun e=>absurd e.symm h) id⟩
theorem runR_closed {c:CodeM}:∀ (f:Nat) (r:RcM),InvR c.ins.length r->meaR r <= f->(∀ a,r.set.getD a false = true->∀ n ∈ toL c a,r.set.getD n false = true \/ n ∈ r.open_) ->
  (runR c f r).length = c.ins.length/\(∀ a,(runR c f r).getD a false = true->∀ n ∈ toL c a,(runR c f r).getD n false = true)/\(∀ x,r.set.getD x false = true \/ x ∈ r.open_->(runR c f r).getD x false = true)
 | 0,r,h,hm,hc=>by
  have h0:r.open_ = []:=List.eq_nil_of_length_eq_zero (by unfold meaR at hm; omega);rw [h0] at hc;refine ⟨h.len,fun a ha n hn=>(hc a ha n hn).elim id fun e=>(by cases e),fun x hx=>?_⟩;rw [h0] at hx;exact hx.elim id fun e=>(by cases e)
 | f + 1,r,h,hm,hc=>by
  unfold runR
  cases hl:r.open_.getLast? with
  | none=>
   have h0:r.open_ = []:=List.getLast?_eq_none_iff.1 hl;rw [h0] at hc;refine ⟨h.len,fun a ha n hn=>(hc a ha n hn).elim id fun e=>(by cases e),fun x hx=>?_⟩;rw [h0] at hx;exact hx.elim id fun e=>(by cases e)
  | some a=>
   obtain ⟨l,hla⟩:=List.getLast?_eq_some_iff.1 hl;obtain ⟨s,o⟩:=r;simp only at hla hc hl;subst hla;obtain ⟨h1,h2,h3⟩:=popR h;obtain ⟨h4,h5⟩:=stepR_inv (c:=c) h1 h3;have hd:(l ++ [a]).dropLast = l:=by simp
   simp only [hd];have hsl:s.length = c.ins.length:=h.len;have ih:=runR_closed f (stepR c ⟨s,l⟩ a) h4 (by omega) (by
    unfold stepR
    by_cases e:s.getD a false = true
    ·rw [if_pos e]
     intro b hb n hn
     rcases hc b hb n hn with h | h
     ·exact .inl h
     ·rcases List.mem_append.1 h with h | h
      ·exact .inr h
      ·rw [List.mem_singleton.1 h]; exact .inl e
    ·rw [if_neg e]
     intro b hb n hn;simp only at hb ⊢;rw [getD_set (by omega)] at hb ⊢;rw [List.mem_append]
     rcases hb with rfl | hb
     ·exact .inr (.inr hn)
     ·rcases hc b hb n hn with h | h
      ·exact .inl (.inr h)
      ·rcases List.mem_append.1 h with h | h
       ·exact .inr (.inl h)
       ·exact .inl (.inl (List.mem_singleton.1 h)))
   refine ⟨ih.1,ih.2.1,fun x hx=>ih.2.2 x ?_⟩;unfold stepR
   by_cases e:s.getD a false = true
   ·rw [if_pos e]
    rcases hx with h | h
    ·exact .inl h
    ·rcases List.mem_append.1 h with h | h
     ·exact .inr h
     ·rw [List.mem_singleton.1 h]; exact .inl e
   ·rw [if_neg e]
    simp only;rw [getD_set (by omega),List.mem_append]
    rcases hx with h | h
    ·exact .inl (.inr h)
    ·rcases List.mem_append.1 h with h | h
     ·exact .inr (.inl h)
     ·exact .inl (.inl (List.mem_singleton.1 h))
theorem runR_least {c:CodeM} {S:Nat->Prop} (hS:∀ a,S a->∀ n ∈ toL c a,S n):∀ (f:Nat) (r:RcM),r.set.length = c.ins.length->(∀ a ∈ r.open_,a < c.ins.length)->(∀ a,r.set.getD a false = true->S a)->(∀ a ∈ r.open_,S a)->∀ a,(runR c f r).getD a false = true->S a
 | 0,r,_,_,h1,_,a,ha=>h1 a ha
 | f + 1,r,h0,hlt,h1,h2,a,ha=>by
  unfold runR at ha
  cases hl:r.open_.getLast? with
  | none=>rw [hl] at ha; exact h1 a ha
  | some b=>
   rw [hl] at ha;obtain ⟨l,hla⟩:=List.getLast?_eq_some_iff.1 hl;obtain ⟨s,o⟩:=r;simp only at hla h1 h2 ha hlt h0;subst hla;have hd:(l ++ [b]).dropLast = l:=by simp
   simp only [hd] at ha;have hb:S b:=h2 b (by simp);have hbl:b < c.ins.length:=hlt b (by simp);refine runR_least hS f (stepR c ⟨s,l⟩ b) ?_ ?_ ?_ ?_ a ha
   all_goals unfold stepR
   ·by_cases e:s.getD b false = true
    ·rw [if_pos e]; exact h0
    ·rw [if_neg e]; simpa using h0
   ·by_cases e:s.getD b false = true
    ·rw [if_pos e]; exact fun x hx=>hlt x (by simp; exact .inl hx)
    ·rw [if_neg e]
     intro x hx
     rcases List.mem_append.1 hx with hx | hx
     ·exact hlt x (by simp; exact .inl hx)
     ·exact toL_lt x hx
   ·by_cases e:s.getD b false = true
    ·rw [if_pos e]; exact h1
    ·rw [if_neg e]
     intro x hx;simp only at hx;rw [getD_set (by omega)] at hx
     rcases hx with rfl | hx
     ·exact hb
     ·exact h1 x hx
   ·by_cases e:s.getD b false = true
    ·rw [if_pos e]; exact fun x hx=>h2 x (by simp; exact .inl hx)
    ·rw [if_neg e]
     intro x hx
     rcases List.mem_append.1 hx with hx | hx
     ·exact h2 x (by simp; exact .inl hx)
     ·exact hS b hb x hx
theorem reachBad_iff {c:CodeM}:reachBad c = false ↔ c.ins.length <= 12000/\c.labels.length <= 3000/\c.ins.length ≠ 0:=by
 unfold reachBad;simp only [Bool.or_eq_false_iff,decide_eq_false_iff_not];omega
theorem startR_inv {c:CodeM} (h:reachBad c = false):InvR c.ins.length ⟨List.replicate c.ins.length false,rootsM c⟩/\meaR ⟨List.replicate c.ins.length false,rootsM c⟩ <= (rootsM c).length + 3 * c.ins.length + 1:=by
 obtain ⟨h1,h2,h3⟩:=reachBad_iff.1 h;have hr:=rootsK_le (c:=c) (k:=c.labels.length);refine ⟨⟨by simp,fun a ha=>?_,?_⟩,?_⟩
 ·unfold rootsM rootsK at ha
  rcases List.mem_cons.1 ha with rfl | ha
  ·omega
  ·obtain ⟨p,hp,rfl⟩:=List.mem_map.1 ha
   have:=(List.mem_filter.1 hp).2;rw [rootOk,inB_iff] at this;omega
 ·simp only [List.count_replicate_self]
  have:(rootsM c).length <= c.labels.length + 1:=hr;omega
 ·unfold meaR; simp only [List.count_replicate_self]; omega
theorem reach_spec {c:CodeM} (h:reachBad c = false):(reachM c).length = c.ins.length/\(∀ a,(reachM c).getD a false = true->∀ n ∈ toL c a,(reachM c).getD n false = true)/\(∀ x ∈ rootsM c,(reachM c).getD x false = true):=by
 obtain ⟨h1,h2⟩:=startR_inv h;have:=runR_closed _ _ h1 h2 (fun a ha=>by
  simp only [List.getD_eq_getElem?_getD,List.getElem?_replicate] at ha
  split at ha <;> simp at ha)
 unfold reachM;rw [h,if_neg (by simp)];exact ⟨this.1,this.2.1,fun x hx=>this.2.2 x (.inr hx)⟩
end
section
open Go Q Go.RowKit
def OkD (c:CodeM) (kn:List (Option DepM)) (a:Nat):Prop:=stopsM c kn a = false/\∀ p ∈ nextsM c kn a,kn.getD p.1 none = some p.2
theorem OkD.mono {c:CodeM} {kn kn':List (Option DepM)} {a:Nat} {s:DepM} (h:OkD c kn a) (hs:kn.getD a none = some s) (hk:∀ b u,kn.getD b none = some u->kn'.getD b none = some u):OkD c kn' a:=by
 have e:depAt kn' a = depAt kn a:=by unfold depAt; rw [hs,hk a s hs]
 refine ⟨?_,fun p hp=>?_⟩
 ·have:=h.1; unfold stopsM at this ⊢; rw [e]; exact this
 ·unfold nextsM at hp; rw [e] at hp; exact hk _ _ (h.2 p hp)
end
section
open Go Q Go.RowKit
end
section
open Go Q Go.RowKit
end
section
open Go Q Go.RowKit
end
section
open Go Q Go.RowKit
end
section
open Go Q Go.RowKit
end
section
open Go Q Go.RowKit
end
section
open Go Q Go.RowKit
end
section
open Go Q Go.RowKit
structure RchI (c:CodeM) (r:RcM):Prop where
 len:r.set.length = c.ins.length
 op:∀ a ∈ r.open_,a < c.ins.length
 size:r.open_.length + 2 * r.set.count false <= 3001 + 2 * c.ins.length
 cl:∀ a,r.set.getD a false = true->∀ x ∈ toL c a,r.set.getD x false = true \/ x ∈ r.open_
 sub:∀ a,r.set.getD a false = true->(reachM c).getD a false = true
 subo:∀ a ∈ r.open_,(reachM c).getD a false = true
 root:∀ x ∈ rootsM c,r.set.getD x false = true \/ x ∈ r.open_
theorem nextL_len {c:CodeM} {a:Nat}:(nextL c a).length <= 2:=by
 have:=@foldT_len (leadsM c.ins.length a (insAt c a)) 2;unfold nextL;rw [List.take_of_length_le leadsM_len] at this;exact this
theorem RchI.pop {c:CodeM} {s:List Bool} {l:List Nat} {a:Nat} (h:RchI c ⟨s,l ++ [a]⟩) (hs:s.getD a false = true):RchI c ⟨s,l⟩:=by
 have hin:∀ x,(s.getD x false = true \/ x ∈ l ++ [a])->(s.getD x false = true \/ x ∈ l):=fun x hx=>by
  rcases hx with hx | hx
  ·exact .inl hx
  ·rcases List.mem_append.1 hx with hx | hx
   ·exact .inr hx
   ·rw [List.mem_singleton.1 hx]; exact .inl hs
 refine ⟨h.len,fun x hx=>h.op x (by simp [hx]),?_,fun b hb x hx=>hin x (h.cl b hb x hx),h.sub,fun x hx=>h.subo x (by simp [hx]),fun x hx=>hin x (h.root x hx)⟩;have:=h.size; simp only [List.length_append,List.length_singleton] at this; simp only; omega
theorem RchI.step {c:CodeM} {s:List Bool} {l:List Nat} {a:Nat} (hb:reachBad c = false) (h:RchI c ⟨s,l ++ [a]⟩) (hs:s.getD a false = false):RchI c ⟨s.set a true,l ++ nextL c a⟩/\meaR ⟨s.set a true,l ++ nextL c a⟩ < meaR ⟨s,l ++ [a]⟩:=by
 have hlt:=h.op a (by simp);have hsl:s.length = c.ins.length:=h.len;have hc:=countF_set (l:=s) (by omega) hs;have hn:=@nextL_len c a;have ha:=h.subo a (by simp);have hget:∀ x,(s.set a true).getD x false = true ↔ x = a \/ s.getD x false = true:=fun x=>getD_set (by omega)
 have hin:∀ x,(s.getD x false = true \/ x ∈ l ++ [a])->((s.set a true).getD x false = true \/ x ∈ l ++ nextL c a):=fun x hx=>by
  rw [hget,List.mem_append]
  rcases hx with hx | hx
  ·exact .inl (.inr hx)
  ·rcases List.mem_append.1 hx with hx | hx
   ·exact .inr (.inl hx)
   ·exact .inl (.inl (List.mem_singleton.1 hx))
 have hsz:=h.size;simp only [List.length_append,List.length_singleton] at hsz;refine ⟨⟨by simpa using hsl,fun x hx=>?_,?_,fun b hb2 x hx=>?_,fun b hb2=>?_,fun x hx=>?_,fun x hx=>hin x (h.root x hx)⟩,?_⟩
 ·rcases List.mem_append.1 hx with hx | hx
  ·exact h.op x (by simp [hx])
  ·exact toL_lt x (mem_nextL.1 hx)
 ·simp only [List.length_append]; omega
 ·simp only at hb2
  rw [hget] at hb2
  rcases hb2 with rfl | hb2
  ·exact .inr (List.mem_append_right _ (mem_nextL.2 hx))
  ·exact hin x (h.cl b hb2 x hx)
 ·simp only at hb2
  rw [hget] at hb2
  rcases hb2 with rfl | hb2
  ·exact ha
  ·exact h.sub b hb2
 ·rcases List.mem_append.1 hx with hx | hx
  ·exact h.subo x (by simp [hx])
  ·exact (reach_spec hb).2.1 a ha x (mem_nextL.1 hx)
 ·unfold meaR; simp only [List.length_append,List.length_singleton]; omega
theorem RchI.fin {c:CodeM} {s:List Bool} (hb:reachBad c = false) (h:RchI c ⟨s,[]⟩):s = reachM c:=by
 have hl:=(reach_spec hb).1;have hsl:s.length = c.ins.length:=h.len;have key:∀ a,(reachM c).getD a false = true->s.getD a false = true:=by
  unfold reachM;rw [hb,if_neg (by simp)];obtain ⟨hi,_⟩:=startR_inv hb;refine runR_least (S:=fun a=>s.getD a false = true) (fun a ha n hn=>(h.cl a ha n hn).elim id fun e=>by cases e) _ _ hi.len hi.op (fun a ha=>?_) (fun a ha=>(h.root a ha).elim id fun e=>by cases e);simp only [List.getD_eq_getElem?_getD,List.getElem?_replicate] at ha
  split at ha <;> simp at ha
 apply List.ext_getElem?
 intro i
 by_cases hi:i < c.ins.length
 ·have h1:=h.sub i
  have h2:=key i;simp only at h1;rw [List.getD_eq_getElem?_getD,List.getD_eq_getElem?_getD,List.getElem?_eq_getElem (by omega),List.getElem?_eq_getElem (by omega)] at h1 h2;rw [List.getElem?_eq_getElem (by omega),List.getElem?_eq_getElem (by omega)];simp only [Option.getD_some] at h1 h2
  congr 1
  rw [Bool.eq_iff_iff];exact ⟨h1,h2⟩
 ·rw [List.getElem?_eq_none (by omega),List.getElem?_eq_none (by omega)]
end
section
open Go Q Go.RowKit
end
section
open Go Q Go.RowKit
end
section
open Go Q Go.RowKit
end
section
open Go Q Go.RowKit
end
end Go.Proofs.YtbeelfopmkbllaaGreatDoor
