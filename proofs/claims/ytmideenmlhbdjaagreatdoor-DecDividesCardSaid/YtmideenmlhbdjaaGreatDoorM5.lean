/- Texts joined: W47, W48, W49, W50, W51, W52, W53, W54, W55, W56, W57, W58, W59, W60, W61, W62, W63, W64, W65, W66, W67, W68, W69, W70, W71, W72, W73. -/
import Derived.Test.YtmideenmlhbdjaaGreatDoorM4
import Derived.Shelf.LaysM
import Derived.Shelf.Strconv.Atoi
import Derived.Shelf.Strconv.Itoa3
import Derived.Lib.ItoaLen
import Derived.Lib.Bytealg
set_option linter.unusedSimpArgs false
set_option linter.unusedVariables false
set_option linter.unusedSectionVars false
set_option maxRecDepth 20000
set_option synthInstance.maxHeartbeats 4000000
set_option synthInstance.maxSize 20000
set_option maxHeartbeats 1000000
set_option exponentiation.threshold 2000
namespace Go.Proofs.YtmideenmlhbdjaaGreatDoor
section
open Go Q Go.RowKit
abbrev IntO:=Except Int Int
def oN:IntO->Int
 | .ok n=>n
 | .error _=>0
def oE:IntO->Int
 | .ok _=>0
 | .error e=>e
abbrev ordV (r:IntO):Value:=.tuple #[.int .i64 (oN r),.int .i64 (oE r)]
theorem sign_of {z:Z} {w:World} {n:Nm} (h:n.C):Fn1 86 #[n.num.v] z w fun _ r=>r = .int .i64 (sgnN n):=Fn1.intro fun hS=>en86 (by
 unfold vc86;rw [num_mk];(repeat (first | (refine iDr ?_; intro _ _) | refine V_run ?_ | refine PV_run ?_ | refine HV_run ?_ | refine iV_ld1 ?_ | refine iV_ldN ?_ | (refine iV_bx ?_; intro _ _ _ _) | (refine iV_al ?_; intro _ _ _ _) | (refine iV_mm ?_; intro _ _ _ _) | (refine iU_st ?_; intro _ _) | refine iHV_1 ?_ | refine iHV_N ?_ | refine iRI_1 ?_ | refine iRI_N ?_ | refine Cond_t ?_ | refine Cond_f ?_ | refine JB ?_ | (refine JC ?_; intro _ _ _ _) | (refine JGB ?_; intro _ _ _ _) | refine K1 ?_ | refine K0 ?_ | refine K2 ?_ | refine K3 ?_ | refine K4 ?_ | (refine CV_pu ?_; intro _ _ _ _) | (refine CV_puz ?_; intro _ _ _ _) | refine fRI_1 ?_ | refine fRI_N ?_ | refine gHV_lkI ?_ | refine gRI_lkI ?_ | refine gV_lkI ?_ | refine fV_ldN ?_ | refine fV_ld1 ?_ | refine fHV_ldN ?_ | refine fHV_ld1 ?_ | refine NilW_some ?_ | refine iCW_1 ?_ | refine iCW_N ?_ | refine Pk_b ?_));rw [lit_zero h];refine Cond_d (fun h1=>?_) (fun h1=>?_)
 ·exact ⟨_,_,‹_›,by rw [sgnN,if_pos h1]⟩
 ·(repeat (first | (refine iDr ?_; intro _ _) | refine V_run ?_ | refine PV_run ?_ | refine HV_run ?_ | refine iV_ld1 ?_ | refine iV_ldN ?_ | (refine iV_bx ?_; intro _ _ _ _) | (refine iV_al ?_; intro _ _ _ _) | (refine iV_mm ?_; intro _ _ _ _) | (refine iU_st ?_; intro _ _) | refine iHV_1 ?_ | refine iHV_N ?_ | refine iRI_1 ?_ | refine iRI_N ?_ | refine Cond_t ?_ | refine Cond_f ?_ | refine JB ?_ | (refine JC ?_; intro _ _ _ _) | (refine JGB ?_; intro _ _ _ _) | refine K1 ?_ | refine K0 ?_ | refine K2 ?_ | refine K3 ?_ | refine K4 ?_ | (refine CV_pu ?_; intro _ _ _ _) | (refine CV_puz ?_; intro _ _ _ _) | refine fRI_1 ?_ | refine fRI_N ?_ | refine gHV_lkI ?_ | refine gRI_lkI ?_ | refine gV_lkI ?_ | refine fV_ldN ?_ | refine fV_ld1 ?_ | refine fHV_ldN ?_ | refine fHV_ld1 ?_ | refine NilW_some ?_ | refine iCW_1 ?_ | refine iCW_N ?_ | refine Pk_b ?_))
  refine Cond_b (fun h2=>?_) (fun h2=>?_)
  ·exact ⟨_,_,‹_›,by rw [sgnN,if_neg h1,if_pos h2]⟩
  ·exact ⟨_,_,‹_›,by rw [sgnN,if_neg h1,if_neg (by rw [h2]; simp)]⟩)
theorem set_d {s:SetM} (h:setOk s = true):1 <= s.digits/\s.digits <= 40/\0 <= s.fuzz/\s.fuzz < s.digits:=by
 unfold setOk at h;simp only [Bool.and_eq_true,decide_eq_true_eq] at h;exact ⟨h.1.1.1.1,h.1.1.1.2,h.1.1.2,h.1.2⟩
instance {x y:NumM} {s:SetM} [hx:Sm x.digits] [hy:Sm y.digits]:Pu 27 #[x.v,y.v,s.v] (ordV (cmpR x y s)):=⟨fun z w=>Fn1.intro fun hS=>en27 (by
 unfold vc27;generalize hRR:(fun (v:Value) (w':World)=>∃ z' L',Res w z [] w' z' L'/\v = ordV (cmpR x y s)) = RR;have hR:∀ z' w' L' r,Res w z [] w' z' L'->cmpR x y s = r->RR (ordV r) w':=fun z' w' L' r k e=>by rw [<- hRR]; exact ⟨_,_,k,by rw [e]⟩
 clear hRR;(repeat (first | (refine iDr ?_; intro _ _) | refine V_run ?_ | refine PV_run ?_ | refine HV_run ?_ | refine iV_ld1 ?_ | refine iV_ldN ?_ | (refine iV_bx ?_; intro _ _ _ _) | (refine iV_al ?_; intro _ _ _ _) | (refine iV_mm ?_; intro _ _ _ _) | (refine iU_st ?_; intro _ _) | refine iHV_1 ?_ | refine iHV_N ?_ | refine iRI_1 ?_ | refine iRI_N ?_ | refine Cond_t ?_ | refine Cond_f ?_ | refine JB ?_ | (refine JC ?_; intro _ _ _ _) | (refine JGB ?_; intro _ _ _ _) | refine K1 ?_ | refine K0 ?_ | refine K2 ?_ | refine K3 ?_ | refine K4 ?_ | (refine CV_pu ?_; intro _ _ _ _) | (refine CV_puz ?_; intro _ _ _ _) | refine fRI_1 ?_ | refine fRI_N ?_ | refine gHV_lkI ?_ | refine gRI_lkI ?_ | refine gV_lkI ?_ | refine fV_ldN ?_ | refine fV_ld1 ?_ | refine fHV_ldN ?_ | refine fHV_ld1 ?_ | refine NilW_some ?_ | refine iCW_1 ?_ | refine iCW_N ?_ | refine Pk_b ?_));refine Cond_b (fun h=>?_) (fun h=>?_)
 ·refine hR _ _ _ (.error 1) ‹_› ?_
  unfold cmpR
  cases hs:setOk s with
  | false=>rfl
  | true=>
   rw [if_neg (by simp)];unfold opd2
   cases h1:nmOf x with
   | none=>rfl
   | some a=>
    cases h2:nmOf y with
    | none=>rfl
    | some b=>rw [h1,h2,hs] at h; cases h
 have hs:setOk s = true:=by
  cases hs:setOk s with
  | true=>rfl
  | false=>rw [hs] at h; revert h; cases (nmOf x).isSome <;> cases (nmOf y).isSome <;> intro h <;> cases h
 obtain ⟨d1,d2,d3,d4⟩:=set_d hs;have hC:cmpR x y s = bindE (opd2 x y (s.digits - s.fuzz)) fun p=>.ok (difN p.1 p.2):=by rw [cmpR,if_neg (by rw [hs]; simp)]
 haveI:InI (s.digits - s.fuzz):=⟨by omega⟩
 (repeat (first | (refine iDr ?_; intro _ _) | refine V_run ?_ | refine PV_run ?_ | refine HV_run ?_ | refine iV_ld1 ?_ | refine iV_ldN ?_ | (refine iV_bx ?_; intro _ _ _ _) | (refine iV_al ?_; intro _ _ _ _) | (refine iV_mm ?_; intro _ _ _ _) | (refine iU_st ?_; intro _ _) | refine iHV_1 ?_ | refine iHV_N ?_ | refine iRI_1 ?_ | refine iRI_N ?_ | refine Cond_t ?_ | refine Cond_f ?_ | refine JB ?_ | (refine JC ?_; intro _ _ _ _) | (refine JGB ?_; intro _ _ _ _) | refine K1 ?_ | refine K0 ?_ | refine K2 ?_ | refine K3 ?_ | refine K4 ?_ | (refine CV_pu ?_; intro _ _ _ _) | (refine CV_puz ?_; intro _ _ _ _) | refine fRI_1 ?_ | refine fRI_N ?_ | refine gHV_lkI ?_ | refine gRI_lkI ?_ | refine gV_lkI ?_ | refine fV_ldN ?_ | refine fV_ld1 ?_ | refine fHV_ldN ?_ | refine fHV_ld1 ?_ | refine NilW_some ?_ | refine iCW_1 ?_ | refine iCW_N ?_ | refine Pk_b ?_));refine V_asked2 (d:=s.digits - s.fuzz) ?_ ?_
 ·intro e z1 w1 h1 h2 hz1 hS1
  (repeat (first | (refine iDr ?_; intro _ _) | refine V_run ?_ | refine PV_run ?_ | refine HV_run ?_ | refine iV_ld1 ?_ | refine iV_ldN ?_ | (refine iV_bx ?_; intro _ _ _ _) | (refine iV_al ?_; intro _ _ _ _) | (refine iV_mm ?_; intro _ _ _ _) | (refine iU_st ?_; intro _ _) | refine iHV_1 ?_ | refine iHV_N ?_ | refine iRI_1 ?_ | refine iRI_N ?_ | refine Cond_t ?_ | refine Cond_f ?_ | refine JB ?_ | (refine JC ?_; intro _ _ _ _) | (refine JGB ?_; intro _ _ _ _) | refine K1 ?_ | refine K0 ?_ | refine K2 ?_ | refine K3 ?_ | refine K4 ?_ | (refine CV_pu ?_; intro _ _ _ _) | (refine CV_puz ?_; intro _ _ _ _) | refine fRI_1 ?_ | refine fRI_N ?_ | refine gHV_lkI ?_ | refine gRI_lkI ?_ | refine gV_lkI ?_ | refine fV_ldN ?_ | refine fV_ld1 ?_ | refine fHV_ldN ?_ | refine fHV_ld1 ?_ | refine NilW_some ?_ | refine iCW_1 ?_ | refine iCW_N ?_ | refine Pk_b ?_));rw [decide_eq_false h2];refine Cond_t ?_;exact hR _ _ _ (.error e) ‹_› (by rw [hC,h1]; rfl)
 ·intro a b bb off cap z1 w1 h1 hz1 hS1 g1 g2
  obtain ⟨k,hk,hk1,hk2,ha,hb,_⟩:=opd2_k h1;have hO:=hS1.self;haveI:Fz z1 bb off a.num.cells:=⟨g1⟩
  haveI:Fz z1 bb (off + 3) b.num.cells:=⟨g2⟩
  haveI:AddN off ((0:Int).toNat * 3) off:=⟨rfl⟩
  haveI:AddN off ((1:Int).toNat * 3) (off + 3):=⟨rfl⟩
  haveI:InR 0 2:=⟨by decide,by decide⟩
  haveI:InR 1 2:=⟨by decide,by decide⟩
  haveI:Pu 87 #[a.num.v,(negN b).num.v] (addedN a (negN b)).num.v:=⟨fun z w=>added_of ((bn_ok ha).mono (by omega)) ((bn_neg (by omega) (bn_ok hb)).mono (by omega))⟩
  haveI:Pu 86 #[(addedN a (negN b)).num.v] (.int .i64 (difN a b)):=⟨fun z w=>sign_of (C_added _ _)⟩
  have hR2:∀ z' w' L',Res w1 z1 _ w' z' L'->RR (ordV (.ok (difN a b))) w':=fun z' w' L' k=>hR _ _ _ _ (hS1.comp k) (by rw [hC,h1]; rfl)
  clear hS1 hR;(repeat (first | (refine iDr ?_; intro _ _) | refine V_run ?_ | refine PV_run ?_ | refine HV_run ?_ | refine iV_ld1 ?_ | refine iV_ldN ?_ | (refine iV_bx ?_; intro _ _ _ _) | (refine iV_al ?_; intro _ _ _ _) | (refine iV_mm ?_; intro _ _ _ _) | (refine iU_st ?_; intro _ _) | refine iHV_1 ?_ | refine iHV_N ?_ | refine iRI_1 ?_ | refine iRI_N ?_ | refine Cond_t ?_ | refine Cond_f ?_ | refine JB ?_ | (refine JC ?_; intro _ _ _ _) | (refine JGB ?_; intro _ _ _ _) | refine K1 ?_ | refine K0 ?_ | refine K2 ?_ | refine K3 ?_ | refine K4 ?_ | (refine CV_pu ?_; intro _ _ _ _) | (refine CV_puz ?_; intro _ _ _ _) | refine fRI_1 ?_ | refine fRI_N ?_ | refine gHV_lkI ?_ | refine gRI_lkI ?_ | refine gV_lkI ?_ | refine fV_ldN ?_ | refine fV_ld1 ?_ | refine fHV_ldN ?_ | refine fHV_ld1 ?_ | refine NilW_some ?_ | refine iCW_1 ?_ | refine iCW_N ?_ | refine Pk_b ?_));exact hR2 _ _ _ ‹_›)⟩
end
section
open Go Q Go.RowKit Go.Shelf
def atoiRen:Go.Shelf.Ren:=⟨fun | 172=>90 | 244=>147 | 245=>148 | 247=>183 | 279=>184 | 280=>185 | 281=>186 | 282=>187 | 287=>204 | 316=>205 | 171=>189 | 205=>206 | 321=>215 | 322=>216 | 243=>208 | 246=>218 | 283=>219 | 284=>220 | 285=>221 | 286=>222 | 129=>224 | 317=>223 | 318=>225 | 319=>226 | 320=>227 | 337=>228 | 338=>229 | n=>n,fun | 9=>9 | 3=>3 | 75=>104 | 76=>105 | 4=>4 | 5=>5 | 167=>174 | 37=>60 | 0=>0 | 85=>175 | 2=>2 | 168=>177 | 53=>188 | 175=>191 | 46=>170 | 210=>194 | 127=>184 | 145=>208 | 143=>206 | 21=>21 | 171=>210 | 173=>213 | 212=>216 | 51=>185 | 20=>20 | 213=>217 | 232=>220 | 233=>221 | 80=>160 | n=>n,fun | 15=>0 | 16=>1 | 17=>5 | 18=>6 | 19=>7 | n=>n⟩
theorem atoiLays:Go.Proofs.Lays.n172 Tryz.prog atoiRen:={
 mixed:=by kernel_rfl
 f129:=Tryz.func224.trans (congrArg some (by kernel_rfl))
 f171:=Tryz.func189.trans (congrArg some (by kernel_rfl))
 f172:=Tryz.func90.trans (congrArg some (by kernel_rfl))
 f205:=Tryz.func206.trans (congrArg some (by kernel_rfl))
 f243:=Tryz.func208.trans (congrArg some (by kernel_rfl))
 f244:=Tryz.func147.trans (congrArg some (by kernel_rfl))
 f245:=Tryz.func148.trans (congrArg some (by kernel_rfl))
 f246:=Tryz.func218.trans (congrArg some (by kernel_rfl))
 f247:=Tryz.func183.trans (congrArg some (by kernel_rfl))
 f279:=Tryz.func184.trans (congrArg some (by kernel_rfl))
 f280:=Tryz.func185.trans (congrArg some (by kernel_rfl))
 f281:=Tryz.func186.trans (congrArg some (by kernel_rfl))
 f282:=Tryz.func187.trans (congrArg some (by kernel_rfl))
 f283:=Tryz.func219.trans (congrArg some (by kernel_rfl))
 f284:=Tryz.func220.trans (congrArg some (by kernel_rfl))
 f285:=Tryz.func221.trans (congrArg some (by kernel_rfl))
 f286:=Tryz.func222.trans (congrArg some (by kernel_rfl))
 f287:=Tryz.func204.trans (congrArg some (by kernel_rfl))
 f316:=Tryz.func205.trans (congrArg some (by kernel_rfl))
 f317:=Tryz.func223.trans (congrArg some (by kernel_rfl))
 f318:=Tryz.func225.trans (congrArg some (by kernel_rfl))
 f319:=Tryz.func226.trans (congrArg some (by kernel_rfl))
 f320:=Tryz.func227.trans (congrArg some (by kernel_rfl))
 f321:=Tryz.func215.trans (congrArg some (by kernel_rfl))
 f322:=Tryz.func216.trans (congrArg some (by kernel_rfl))
 f337:=Tryz.func228.trans (congrArg some (by kernel_rfl))
 f338:=Tryz.func229.trans (congrArg some (by kernel_rfl))
 t0:=Tryz.underlying0
 a0:=Tryz.isAgg0
 z0:=Tryz.sizeOf0
 v0:=Tryz.zeroValue0
 t2:=Tryz.underlying2
 a2:=Tryz.isAgg2
 z2:=Tryz.sizeOf2
 v2:=Tryz.zeroValue2
 t3:=Tryz.underlying3
 a3:=Tryz.isAgg3
 z3:=Tryz.sizeOf3
 v3:=Tryz.zeroValue3
 t4:=Tryz.underlying4
 a4:=Tryz.isAgg4
 z4:=Tryz.sizeOf4
 v4:=Tryz.zeroValue4
 t5:=Tryz.underlying5
 a5:=Tryz.isAgg5
 z5:=Tryz.sizeOf5
 v5:=Tryz.zeroValue5
 t9:=Tryz.underlying9
 a9:=Tryz.isAgg9
 z9:=Tryz.sizeOf9
 v9:=Tryz.zeroValue9
 t20:=Tryz.underlying20
 a20:=Tryz.isAgg20
 z20:=Tryz.sizeOf20
 v20:=Tryz.zeroValue20
 t21:=Tryz.underlying21
 a21:=Tryz.isAgg21
 z21:=Tryz.sizeOf21
 v21:=Tryz.zeroValue21
 t37:=Tryz.underlying60
 a37:=Tryz.isAgg60
 z37:=Tryz.sizeOf60
 v37:=Tryz.zeroValue60
 t46:=Tryz.underlying170
 a46:=Tryz.isAgg170
 z46:=Tryz.sizeOf170
 v46:=Tryz.zeroValue170
 t51:=Tryz.underlying185
 a51:=Tryz.isAgg185
 z51:=Tryz.sizeOf185
 v51:=Tryz.zeroValue185
 t53:=Tryz.underlying188
 a53:=Tryz.isAgg188
 z53:=Tryz.sizeOf188
 v53:=Tryz.zeroValue188
 t75:=Tryz.underlying104
 a75:=Tryz.isAgg104
 z75:=Tryz.sizeOf104
 v75:=Tryz.zeroValue104
 t76:=Tryz.underlying105
 a76:=Tryz.isAgg105
 z76:=Tryz.sizeOf105
 v76:=Tryz.zeroValue105
 t85:=Tryz.underlying175
 a85:=Tryz.isAgg175
 z85:=Tryz.sizeOf175
 v85:=Tryz.zeroValue175
 t127:=Tryz.underlying184
 a127:=Tryz.isAgg184
 z127:=Tryz.sizeOf184
 v127:=Tryz.zeroValue184
 t143:=Tryz.underlying206
 a143:=Tryz.isAgg206
 z143:=Tryz.sizeOf206
 v143:=Tryz.zeroValue206
 t145:=Tryz.underlying208
 a145:=Tryz.isAgg208
 z145:=Tryz.sizeOf208
 v145:=Tryz.zeroValue208
 t167:=Tryz.underlying174
 a167:=Tryz.isAgg174
 z167:=Tryz.sizeOf174
 v167:=Tryz.zeroValue174
 t168:=Tryz.underlying177
 a168:=Tryz.isAgg177
 z168:=Tryz.sizeOf177
 v168:=Tryz.zeroValue177
 t171:=Tryz.underlying210
 a171:=Tryz.isAgg210
 z171:=Tryz.sizeOf210
 v171:=Tryz.zeroValue210
 t173:=Tryz.underlying213
 a173:=Tryz.isAgg213
 z173:=Tryz.sizeOf213
 v173:=Tryz.zeroValue213
 t175:=Tryz.underlying191
 a175:=Tryz.isAgg191
 z175:=Tryz.sizeOf191
 v175:=Tryz.zeroValue191
 t210:=Tryz.underlying194
 a210:=Tryz.isAgg194
 z210:=Tryz.sizeOf194
 v210:=Tryz.zeroValue194
 t212:=Tryz.underlying216
 a212:=Tryz.isAgg216
 z212:=Tryz.sizeOf216
 v212:=Tryz.zeroValue216
 t213:=Tryz.underlying217
 a213:=Tryz.isAgg217
 z213:=Tryz.sizeOf217
 t232:=Tryz.underlying220
 a232:=Tryz.isAgg220
 z232:=Tryz.sizeOf220
 v232:=Tryz.zeroValue220
 t233:=Tryz.underlying221
 a233:=Tryz.isAgg221
 z233:=Tryz.sizeOf221
 v233:=Tryz.zeroValue221
 g15:=by kernel_rfl
 g16:=by kernel_rfl
 g17:=by kernel_rfl
 g18:=by kernel_rfl
 g19:=by kernel_rfl }
def itoaRen:Go.Shelf.Ren:=⟨fun | 171=>189 | 243=>208 | 246=>218 | 283=>219 | 284=>220 | 285=>221 | 286=>222 | 129=>224 | 317=>223 | 318=>225 | 319=>226 | 320=>227 | 337=>228 | 338=>229 | n=>n,fun | 3=>3 | 9=>9 | 2=>2 | 4=>4 | 171=>210 | 0=>0 | 53=>188 | 37=>60 | 5=>5 | 173=>213 | 212=>216 | 51=>185 | 20=>20 | 213=>217 | 46=>170 | 232=>220 | 233=>221 | n=>n,fun | 17=>5 | 18=>6 | 19=>7 | n=>n⟩
theorem itoaLays:Go.Proofs.LaysM.n171 Tryz.prog itoaRen:={
 mixed:=by kernel_rfl
 f129:=Tryz.func224.trans (congrArg some (by kernel_rfl))
 f171:=Tryz.func189.trans (congrArg some (by kernel_rfl))
 f243:=Tryz.func208.trans (congrArg some (by kernel_rfl))
 f246:=Tryz.func218.trans (congrArg some (by kernel_rfl))
 f283:=Tryz.func219.trans (congrArg some (by kernel_rfl))
 f284:=Tryz.func220.trans (congrArg some (by kernel_rfl))
 f285:=Tryz.func221.trans (congrArg some (by kernel_rfl))
 f286:=Tryz.func222.trans (congrArg some (by kernel_rfl))
 f317:=Tryz.func223.trans (congrArg some (by kernel_rfl))
 f318:=Tryz.func225.trans (congrArg some (by kernel_rfl))
 f319:=Tryz.func226.trans (congrArg some (by kernel_rfl))
 f320:=Tryz.func227.trans (congrArg some (by kernel_rfl))
 f337:=Tryz.func228.trans (congrArg some (by kernel_rfl))
 f338:=Tryz.func229.trans (congrArg some (by kernel_rfl))
 t0:=Tryz.underlying0
 a0:=Tryz.isAgg0
 z0:=Tryz.sizeOf0
 v0:=Tryz.zeroValue0
 t2:=Tryz.underlying2
 a2:=Tryz.isAgg2
 z2:=Tryz.sizeOf2
 v2:=Tryz.zeroValue2
 t3:=Tryz.underlying3
 a3:=Tryz.isAgg3
 z3:=Tryz.sizeOf3
 v3:=Tryz.zeroValue3
 t4:=Tryz.underlying4
 a4:=Tryz.isAgg4
 z4:=Tryz.sizeOf4
 v4:=Tryz.zeroValue4
 t5:=Tryz.underlying5
 a5:=Tryz.isAgg5
 z5:=Tryz.sizeOf5
 v5:=Tryz.zeroValue5
 t9:=Tryz.underlying9
 a9:=Tryz.isAgg9
 z9:=Tryz.sizeOf9
 v9:=Tryz.zeroValue9
 t20:=Tryz.underlying20
 a20:=Tryz.isAgg20
 z20:=Tryz.sizeOf20
 v20:=Tryz.zeroValue20
 t37:=Tryz.underlying60
 a37:=Tryz.isAgg60
 z37:=Tryz.sizeOf60
 v37:=Tryz.zeroValue60
 t46:=Tryz.underlying170
 a46:=Tryz.isAgg170
 z46:=Tryz.sizeOf170
 v46:=Tryz.zeroValue170
 t51:=Tryz.underlying185
 a51:=Tryz.isAgg185
 z51:=Tryz.sizeOf185
 v51:=Tryz.zeroValue185
 t53:=Tryz.underlying188
 a53:=Tryz.isAgg188
 z53:=Tryz.sizeOf188
 v53:=Tryz.zeroValue188
 t171:=Tryz.underlying210
 a171:=Tryz.isAgg210
 z171:=Tryz.sizeOf210
 v171:=Tryz.zeroValue210
 t173:=Tryz.underlying213
 a173:=Tryz.isAgg213
 z173:=Tryz.sizeOf213
 v173:=Tryz.zeroValue213
 t212:=Tryz.underlying216
 a212:=Tryz.isAgg216
 z212:=Tryz.sizeOf216
 v212:=Tryz.zeroValue216
 t213:=Tryz.underlying217
 a213:=Tryz.isAgg217
 z213:=Tryz.sizeOf217
 t232:=Tryz.underlying220
 a232:=Tryz.isAgg220
 z232:=Tryz.sizeOf220
 v232:=Tryz.zeroValue220
 t233:=Tryz.underlying221
 a233:=Tryz.isAgg221
 z233:=Tryz.sizeOf221
 v233:=Tryz.zeroValue221
 g17:=by kernel_rfl
 g18:=by kernel_rfl
 g19:=by kernel_rfl
 i0:=by kernel_rfl
 i2:=by kernel_rfl
 i3:=by kernel_rfl
 i4:=by kernel_rfl
 i5:=by kernel_rfl
 i9:=by kernel_rfl
 i20:=by kernel_rfl
 i37:=by kernel_rfl
 i46:=by kernel_rfl
 i51:=by kernel_rfl
 i53:=by kernel_rfl
 i171:=by kernel_rfl
 i173:=by kernel_rfl
 i212:=by kernel_rfl
 i232:=by kernel_rfl
 i233:=by kernel_rfl
 m17:=by kernel_rfl
 m18:=by kernel_rfl
 m19:=by kernel_rfl }
end
section
open Go Q Go.RowKit Go.Shelf
class Tab (z:Z):Prop where
 h:∀ w,Sub z w->Lib.TabIs Tryz.prog w "internal/strconv.uint64pow10" .u64 Lib.pow10Tab
theorem Tab.le {z z':Z} (h:Tab z) (hz:Le z z'):Tab z':=⟨fun w hw=>h.h w fun b o hb=>hw b o (hz b o hb)⟩
theorem grow_res {w:World} {z:Z} {k:Nat} {os:Array Obj} (h:Own w z []):Res w z [] (Sort.grow (w.drewN k) os) z []:=
 ⟨rfl,rfl,rfl,by simp [Sort.grow,World.drewN],fun b hb _=>by simp [Sort.grow,World.drewN,Array.getElem?_append,hb],fun b o hb=>by
  have h1:=h.sub b o hb;have h2:=lt_of_get h1;simp only [Sort.grow,World.drewN,Array.getElem?_append,h2,if_true]; exact h1,Le.refl _,fun b hb=>.inl hb,fun p hp=>(by cases hp),.nil⟩
class Nn (n:Int):Prop where
 h:0 <= n/\n <= 9223372036854775807
instance {z0:Z} {n:Int} [ht:Tab z0] [hn:Nn n]:PuZ z0 189 #[.int .i64 n] (.string (digB n.toNat)):=⟨fun z w hz ho=>
 Calls.mono (Any.strconv_Itoa itoaLays n (by have:=hn.h; omega) (by have:=hn.h; omega) w ((ht.le hz).h w ho.sub)) (by
  rintro e w' ⟨rfl,k,os,rfl⟩
  refine ⟨z,grow_res ho,?_⟩;have:=hn.h;rw [show Lib.itoa n = Lib.decDigits n.toNat by unfold Lib.itoa; rw [if_neg (by omega)]]
  rfl)⟩
theorem joinB3 (x y z:ByteArray):joinB e0 [x,y,z] = x ++ y ++ z:=by
 refine ba_inj ?_;have e:bytes e0 = []:=rfl;rw [joinB,bytes_mk,joinW,bytes_add,bytes_add];simp [e]
theorem joinB4 (x y z u:ByteArray):joinB e0 [x,y,z,u] = x ++ y ++ z ++ u:=by
 refine ba_inj ?_;have e:bytes e0 = []:=rfl;rw [joinB,bytes_mk,joinW,bytes_add,bytes_add,bytes_add];simp [e]
theorem sizes3 (x y z:ByteArray):sizes [x,y,z] = x.size + y.size + z.size:=by
 simp only [sizes,List.map_cons,List.map_nil,List.sum_cons,List.sum_nil]; omega
theorem sizes4 (x y z u:ByteArray):sizes [x,y,z,u] = x.size + y.size + z.size + u.size:=by
 simp only [sizes,List.map_cons,List.map_nil,List.sum_cons,List.sum_nil]; omega
theorem size_ext (s:ByteArray) (i:Nat) (h:i <= s.size):(s.extract 0 i).size = i/\(s.extract i s.size).size = s.size - i:=by
 constructor
 ·rw [size_bytes,bytes_to,List.length_take,<- size_bytes]; omega
 ·rw [size_bytes,bytes_from,List.length_drop,<- size_bytes]
theorem plain_of {z:Z} {w:World} {n:Nm} (hB:Bn n 4000):Fn1 89 #[n.num.v] z w fun _ r=>r = .string (strB (plainL n)):=Fn1.intro fun hS=>en89 (by
 unfold vc89;have h1:=hB.len;have h2:=hB.lo;have h3:=hB.hi;have hpos:=lenD_pos n.m;rw [num_mk];(repeat (first | (refine iDr ?_; intro _ _) | refine V_run ?_ | refine PV_run ?_ | refine HV_run ?_ | refine iV_ld1 ?_ | refine iV_ldN ?_ | (refine iV_bx ?_; intro _ _ _ _) | (refine iV_al ?_; intro _ _ _ _) | (refine iV_mm ?_; intro _ _ _ _) | (refine iU_st ?_; intro _ _) | refine iHV_1 ?_ | refine iHV_N ?_ | refine iRI_1 ?_ | refine iRI_N ?_ | refine Cond_t ?_ | refine Cond_f ?_ | refine JB ?_ | (refine JC ?_; intro _ _ _ _) | (refine JGB ?_; intro _ _ _ _) | refine K1 ?_ | refine K0 ?_ | refine K2 ?_ | refine K3 ?_ | refine K4 ?_ | (refine CV_pu ?_; intro _ _ _ _) | (refine CV_puz ?_; intro _ _ _ _) | refine fRI_1 ?_ | refine fRI_N ?_ | refine gHV_lkI ?_ | refine gRI_lkI ?_ | refine gV_lkI ?_ | refine fV_ldN ?_ | refine fV_ld1 ?_ | refine fHV_ldN ?_ | refine fHV_ld1 ?_ | refine NilW_some ?_ | refine iCW_1 ?_ | refine iCW_N ?_ | refine Pk_b ?_));refine Cond_d (fun h=>?_) (fun h=>?_)
 ·haveI:Cnt n.e:=⟨by omega,by omega⟩
  (repeat (first | (refine iDr ?_; intro _ _) | refine V_run ?_ | refine PV_run ?_ | refine HV_run ?_ | refine iV_ld1 ?_ | refine iV_ldN ?_ | (refine iV_bx ?_; intro _ _ _ _) | (refine iV_al ?_; intro _ _ _ _) | (refine iV_mm ?_; intro _ _ _ _) | (refine iU_st ?_; intro _ _) | refine iHV_1 ?_ | refine iHV_N ?_ | refine iRI_1 ?_ | refine iRI_N ?_ | refine Cond_t ?_ | refine Cond_f ?_ | refine JB ?_ | (refine JC ?_; intro _ _ _ _) | (refine JGB ?_; intro _ _ _ _) | refine K1 ?_ | refine K0 ?_ | refine K2 ?_ | refine K3 ?_ | refine K4 ?_ | (refine CV_pu ?_; intro _ _ _ _) | (refine CV_puz ?_; intro _ _ _ _) | refine fRI_1 ?_ | refine fRI_N ?_ | refine gHV_lkI ?_ | refine gRI_lkI ?_ | refine gV_lkI ?_ | refine fV_ldN ?_ | refine fV_ld1 ?_ | refine fHV_ldN ?_ | refine fHV_ld1 ?_ | refine NilW_some ?_ | refine iCW_1 ?_ | refine iCW_N ?_ | refine Pk_b ?_));refine V_cat [digB n.m,zerosB n.e] rfl rfl (by omega) (by rw [sizes2]; omega) ?_;intro z4 w4 hz4 hS4;refine ⟨_,_,hS4,?_⟩;rw [joinB2,plainL,if_pos (by omega)];refine congrArg Value.string (ba_inj ?_);rw [bytes_add,bytes_digB,zerosB,bytes_mk,bytes_mk]
 ·have hle:¬ 0 <= n.e:=by omega
  obtain ⟨K,hK⟩:∃ K:Nat,K = (1 - n.e - (lenD n.m:Int)).toNat:=⟨_,rfl⟩
  have e1:max 0 (1 - n.e - ((digB n.m).size:Int)) = (K:Int):=by rw [size_digB]; omega
  haveI:InI (1 - n.e):=⟨by omega⟩
  haveI:InI (1 - n.e - ((digB n.m).size:Int)):=⟨by rw [size_digB]; omega⟩
  haveI:Cnt (K:Int):=⟨by omega,by omega⟩
  (repeat (first | (refine iDr ?_; intro _ _) | refine V_run ?_ | refine PV_run ?_ | refine HV_run ?_ | refine iV_ld1 ?_ | refine iV_ldN ?_ | (refine iV_bx ?_; intro _ _ _ _) | (refine iV_al ?_; intro _ _ _ _) | (refine iV_mm ?_; intro _ _ _ _) | (refine iU_st ?_; intro _ _) | refine iHV_1 ?_ | refine iHV_N ?_ | refine iRI_1 ?_ | refine iRI_N ?_ | refine Cond_t ?_ | refine Cond_f ?_ | refine JB ?_ | (refine JC ?_; intro _ _ _ _) | (refine JGB ?_; intro _ _ _ _) | refine K1 ?_ | refine K0 ?_ | refine K2 ?_ | refine K3 ?_ | refine K4 ?_ | (refine CV_pu ?_; intro _ _ _ _) | (refine CV_puz ?_; intro _ _ _ _) | refine fRI_1 ?_ | refine fRI_N ?_ | refine gHV_lkI ?_ | refine gRI_lkI ?_ | refine gV_lkI ?_ | refine fV_ldN ?_ | refine fV_ld1 ?_ | refine fHV_ldN ?_ | refine fHV_ld1 ?_ | refine NilW_some ?_ | refine iCW_1 ?_ | refine iCW_N ?_ | refine Pk_b ?_));rw [e1];(repeat (first | (refine iDr ?_; intro _ _) | refine V_run ?_ | refine PV_run ?_ | refine HV_run ?_ | refine iV_ld1 ?_ | refine iV_ldN ?_ | (refine iV_bx ?_; intro _ _ _ _) | (refine iV_al ?_; intro _ _ _ _) | (refine iV_mm ?_; intro _ _ _ _) | (refine iU_st ?_; intro _ _) | refine iHV_1 ?_ | refine iHV_N ?_ | refine iRI_1 ?_ | refine iRI_N ?_ | refine Cond_t ?_ | refine Cond_f ?_ | refine JB ?_ | (refine JC ?_; intro _ _ _ _) | (refine JGB ?_; intro _ _ _ _) | refine K1 ?_ | refine K0 ?_ | refine K2 ?_ | refine K3 ?_ | refine K4 ?_ | (refine CV_pu ?_; intro _ _ _ _) | (refine CV_puz ?_; intro _ _ _ _) | refine fRI_1 ?_ | refine fRI_N ?_ | refine gHV_lkI ?_ | refine gRI_lkI ?_ | refine gV_lkI ?_ | refine fV_ldN ?_ | refine fV_ld1 ?_ | refine fHV_ldN ?_ | refine fHV_ld1 ?_ | refine NilW_some ?_ | refine iCW_1 ?_ | refine iCW_N ?_ | refine Pk_b ?_));refine V_strs [zerosB (K:Int),digB n.m] rfl rfl (by omega) (by simp only [sizes,List.map_cons,List.map_nil,List.sum_cons,List.sum_nil,size_digB,size_zeros]; omega) ?_;intro v4 z4 hz4 w4 hS4 hv4;(repeat (first | (refine iDr ?_; intro _ _) | refine V_run ?_ | refine PV_run ?_ | refine HV_run ?_ | refine iV_ld1 ?_ | refine iV_ldN ?_ | (refine iV_bx ?_; intro _ _ _ _) | (refine iV_al ?_; intro _ _ _ _) | (refine iV_mm ?_; intro _ _ _ _) | (refine iU_st ?_; intro _ _) | refine iHV_1 ?_ | refine iHV_N ?_ | refine iRI_1 ?_ | refine iRI_N ?_ | refine Cond_t ?_ | refine Cond_f ?_ | refine JB ?_ | (refine JC ?_; intro _ _ _ _) | (refine JGB ?_; intro _ _ _ _) | refine K1 ?_ | refine K0 ?_ | refine K2 ?_ | refine K3 ?_ | refine K4 ?_ | (refine CV_pu ?_; intro _ _ _ _) | (refine CV_puz ?_; intro _ _ _ _) | refine fRI_1 ?_ | refine fRI_N ?_ | refine gHV_lkI ?_ | refine gRI_lkI ?_ | refine gV_lkI ?_ | refine fV_ldN ?_ | refine fV_ld1 ?_ | refine fHV_ldN ?_ | refine fHV_ld1 ?_ | refine NilW_some ?_ | refine iCW_1 ?_ | refine iCW_N ?_ | refine Pk_b ?_));refine CV_1 (joined_of hv4 (by simp) (by simp only [sizes,List.map_cons,List.map_nil,List.sum_cons,List.sum_nil,size_digB,size_zeros]; omega)) ?_;rintro z5 w5 v5 hz5 hS5 rfl
  rw [joinB2];clear hS4;have hD:bytes (zerosB (K:Int) ++ digB n.m) = zerosL K ++ digL n.m:=by rw [bytes_add,bytes_digB,zerosB,bytes_mk,Int.toNat_natCast]
  have hDs:(zerosB (K:Int) ++ digB n.m).size = K + lenD n.m:=by rw [ByteArray.size_append,size_digB,size_zeros,Int.toNat_natCast]
  generalize zerosB (K:Int) ++ digB n.m = D at *;obtain ⟨A,hA⟩:∃ A:Nat,(D.size:Int) + n.e = (A:Int):=⟨((D.size:Int) + n.e).toNat,by omega⟩
  haveI:InI ((D.size:Int) + n.e):=⟨by omega⟩
  haveI:InR (A:Int) ((D.size:Int) + 1):=⟨by omega,by omega⟩
  haveI:InR (A:Int) (D.size + 1:Nat):=⟨by omega,by omega⟩
  (repeat (first | (refine iDr ?_; intro _ _) | refine V_run ?_ | refine PV_run ?_ | refine HV_run ?_ | refine iV_ld1 ?_ | refine iV_ldN ?_ | (refine iV_bx ?_; intro _ _ _ _) | (refine iV_al ?_; intro _ _ _ _) | (refine iV_mm ?_; intro _ _ _ _) | (refine iU_st ?_; intro _ _) | refine iHV_1 ?_ | refine iHV_N ?_ | refine iRI_1 ?_ | refine iRI_N ?_ | refine Cond_t ?_ | refine Cond_f ?_ | refine JB ?_ | (refine JC ?_; intro _ _ _ _) | (refine JGB ?_; intro _ _ _ _) | refine K1 ?_ | refine K0 ?_ | refine K2 ?_ | refine K3 ?_ | refine K4 ?_ | (refine CV_pu ?_; intro _ _ _ _) | (refine CV_puz ?_; intro _ _ _ _) | refine fRI_1 ?_ | refine fRI_N ?_ | refine gHV_lkI ?_ | refine gRI_lkI ?_ | refine gV_lkI ?_ | refine fV_ldN ?_ | refine fV_ld1 ?_ | refine fHV_ldN ?_ | refine fHV_ld1 ?_ | refine NilW_some ?_ | refine iCW_1 ?_ | refine iCW_N ?_ | refine Pk_b ?_));rw [hA];(repeat (first | (refine iDr ?_; intro _ _) | refine V_run ?_ | refine PV_run ?_ | refine HV_run ?_ | refine iV_ld1 ?_ | refine iV_ldN ?_ | (refine iV_bx ?_; intro _ _ _ _) | (refine iV_al ?_; intro _ _ _ _) | (refine iV_mm ?_; intro _ _ _ _) | (refine iU_st ?_; intro _ _) | refine iHV_1 ?_ | refine iHV_N ?_ | refine iRI_1 ?_ | refine iRI_N ?_ | refine Cond_t ?_ | refine Cond_f ?_ | refine JB ?_ | (refine JC ?_; intro _ _ _ _) | (refine JGB ?_; intro _ _ _ _) | refine K1 ?_ | refine K0 ?_ | refine K2 ?_ | refine K3 ?_ | refine K4 ?_ | (refine CV_pu ?_; intro _ _ _ _) | (refine CV_puz ?_; intro _ _ _ _) | refine fRI_1 ?_ | refine fRI_N ?_ | refine gHV_lkI ?_ | refine gRI_lkI ?_ | refine gV_lkI ?_ | refine fV_ldN ?_ | refine fV_ld1 ?_ | refine fHV_ldN ?_ | refine fHV_ld1 ?_ | refine NilW_some ?_ | refine iCW_1 ?_ | refine iCW_N ?_ | refine Pk_b ?_));rw [Int.toNat_natCast];have hsz:=size_ext D A (by omega);refine V_cat [D.extract 0 A,⟨#[46]⟩,D.extract A D.size] rfl rfl (by omega) (by rw [sizes3]; have:(⟨#[46]⟩:ByteArray).size = 1:=rfl; omega) ?_;intro z6 w6 hz6 hS6;refine ⟨_,_,hS6,?_⟩;rw [joinB3,plainL,if_neg hle,<- hK];refine congrArg Value.string (ba_inj ?_);have hl:((((zerosL K ++ digL n.m).length:Nat):Int) + n.e).toNat = A:=by rw [<- hD,<- size_bytes]; omega
  show bytes (D.extract 0 A ++ ⟨#[46]⟩ ++ D.extract A D.size) = _
  rw [bytes_add,bytes_add,bytes_to,bytes_from,hD,hl,List.append_assoc,bytes_mk]
  rfl)
theorem expo_len (n:Nm) (k:Nat):(expoL n k).length <= 2 * lenD n.m + 2 * k + lenD (adjN n - k + 1).natAbs + 3:=by
 have e:∀ u,lenD u = (digL u).length:=fun _=>rfl
 simp only [e];unfold expoL expoT;rw [List.length_append,List.length_append,List.length_take]
 split
 ·simp only [List.length_cons,List.length_drop,List.length_append,List.length_replicate,e]; omega
 ·simp only [List.length_cons,List.length_nil,List.length_append,List.length_replicate,e]; omega
theorem exponential_of {z0 z:Z} {w:World} {n:Nm} {k:Nat} [ht:Tab z0] (hz:Le z0 z) (hB:Bn n 4000) (hk:1 <= k) (hk3:k <= 3):Fn1 152 #[n.num.v,.int .i64 k] z w fun _ r=>r = .string (strB (expoL n k)):=Fn1.intro fun hS=>en152 (by
 haveI ht':Tab z:=ht.le hz;unfold vc152;have h1:=hB.len;have h2:=hB.lo;have h3:=hB.hi;have hpos:=lenD_pos n.m;have hj:=adj_bn hB;haveI:Pu 151 #[.agg (litN n).toArray] (.int .i64 (adjN n)):=⟨fun z w=>adj_of (hB.mono (by omega))⟩
 rw [num_mk];obtain ⟨K,hK⟩:∃ K:Nat,K = k - lenD n.m:=⟨_,rfl⟩
 have e1:max 0 ((k:Int) - ((digB n.m).size:Int)) = (K:Int):=by rw [size_digB]; omega
 haveI:InI ((k:Int) - ((digB n.m).size:Int)):=⟨by rw [size_digB]; omega⟩
 haveI:Cnt (K:Int):=⟨by omega,by omega⟩
 refine iV_bx ?_;intro c1 w1 hc1 hS1;clear hS;(repeat (first | (refine iDr ?_; intro _ _) | refine V_run ?_ | refine PV_run ?_ | refine HV_run ?_ | refine iV_ld1 ?_ | refine iV_ldN ?_ | (refine iV_bx ?_; intro _ _ _ _) | (refine iV_al ?_; intro _ _ _ _) | (refine iV_mm ?_; intro _ _ _ _) | (refine iU_st ?_; intro _ _) | refine iHV_1 ?_ | refine iHV_N ?_ | refine iRI_1 ?_ | refine iRI_N ?_ | refine Cond_t ?_ | refine Cond_f ?_ | refine JB ?_ | (refine JC ?_; intro _ _ _ _) | (refine JGB ?_; intro _ _ _ _) | refine K1 ?_ | refine K0 ?_ | refine K2 ?_ | refine K3 ?_ | refine K4 ?_ | (refine CV_pu ?_; intro _ _ _ _) | (refine CV_puz ?_; intro _ _ _ _) | refine fRI_1 ?_ | refine fRI_N ?_ | refine gHV_lkI ?_ | refine gRI_lkI ?_ | refine gV_lkI ?_ | refine fV_ldN ?_ | refine fV_ld1 ?_ | refine fHV_ldN ?_ | refine fHV_ld1 ?_ | refine NilW_some ?_ | refine iCW_1 ?_ | refine iCW_N ?_ | refine Pk_b ?_));rw [e1];(repeat (first | (refine iDr ?_; intro _ _) | refine V_run ?_ | refine PV_run ?_ | refine HV_run ?_ | refine iV_ld1 ?_ | refine iV_ldN ?_ | (refine iV_bx ?_; intro _ _ _ _) | (refine iV_al ?_; intro _ _ _ _) | (refine iV_mm ?_; intro _ _ _ _) | (refine iU_st ?_; intro _ _) | refine iHV_1 ?_ | refine iHV_N ?_ | refine iRI_1 ?_ | refine iRI_N ?_ | refine Cond_t ?_ | refine Cond_f ?_ | refine JB ?_ | (refine JC ?_; intro _ _ _ _) | (refine JGB ?_; intro _ _ _ _) | refine K1 ?_ | refine K0 ?_ | refine K2 ?_ | refine K3 ?_ | refine K4 ?_ | (refine CV_pu ?_; intro _ _ _ _) | (refine CV_puz ?_; intro _ _ _ _) | refine fRI_1 ?_ | refine fRI_N ?_ | refine gHV_lkI ?_ | refine gRI_lkI ?_ | refine gV_lkI ?_ | refine fV_ldN ?_ | refine fV_ld1 ?_ | refine fHV_ldN ?_ | refine fHV_ld1 ?_ | refine NilW_some ?_ | refine iCW_1 ?_ | refine iCW_N ?_ | refine Pk_b ?_));refine V_strs [digB n.m,zerosB (K:Int)] rfl rfl (by omega) (by rw [sizes2]; omega) ?_;intro v4 z4 hz4 w4 hS4 hv4;(repeat (first | (refine iDr ?_; intro _ _) | refine V_run ?_ | refine PV_run ?_ | refine HV_run ?_ | refine iV_ld1 ?_ | refine iV_ldN ?_ | (refine iV_bx ?_; intro _ _ _ _) | (refine iV_al ?_; intro _ _ _ _) | (refine iV_mm ?_; intro _ _ _ _) | (refine iU_st ?_; intro _ _) | refine iHV_1 ?_ | refine iHV_N ?_ | refine iRI_1 ?_ | refine iRI_N ?_ | refine Cond_t ?_ | refine Cond_f ?_ | refine JB ?_ | (refine JC ?_; intro _ _ _ _) | (refine JGB ?_; intro _ _ _ _) | refine K1 ?_ | refine K0 ?_ | refine K2 ?_ | refine K3 ?_ | refine K4 ?_ | (refine CV_pu ?_; intro _ _ _ _) | (refine CV_puz ?_; intro _ _ _ _) | refine fRI_1 ?_ | refine fRI_N ?_ | refine gHV_lkI ?_ | refine gRI_lkI ?_ | refine gV_lkI ?_ | refine fV_ldN ?_ | refine fV_ld1 ?_ | refine fHV_ldN ?_ | refine fHV_ld1 ?_ | refine NilW_some ?_ | refine iCW_1 ?_ | refine iCW_N ?_ | refine Pk_b ?_));refine CV_1 (joined_of hv4 (by simp) (by rw [sizes2]; omega)) ?_;rintro z5 w5 v5 hz5 hS5 rfl
 rw [joinB2];clear hS4;have hD:bytes (digB n.m ++ zerosB (K:Int)) = digL n.m ++ zerosL K:=by rw [bytes_add,bytes_digB,zerosB,bytes_mk,Int.toNat_natCast]
 have hDs:(digB n.m ++ zerosB (K:Int)).size = lenD n.m + K:=by rw [ByteArray.size_append,size_digB,size_zeros,Int.toNat_natCast]
 generalize digB n.m ++ zerosB (K:Int) = D at *;obtain ⟨X,hX⟩:∃ X:Int,X = adjN n - (k:Int) + 1:=⟨_,rfl⟩
 haveI:InI (adjN n - (k:Int)):=⟨by omega⟩
 haveI:InI (adjN n - (k:Int) + 1):=⟨by omega⟩
 haveI:InR (k:Int) ((D.size:Int) + 1):=⟨by omega,by omega⟩
 haveI:InR (k:Int) (D.size + 1:Nat):=⟨by omega,by omega⟩
 (repeat (first | (refine iDr ?_; intro _ _) | refine V_run ?_ | refine PV_run ?_ | refine HV_run ?_ | refine iV_ld1 ?_ | refine iV_ldN ?_ | (refine iV_bx ?_; intro _ _ _ _) | (refine iV_al ?_; intro _ _ _ _) | (refine iV_mm ?_; intro _ _ _ _) | (refine iU_st ?_; intro _ _) | refine iHV_1 ?_ | refine iHV_N ?_ | refine iRI_1 ?_ | refine iRI_N ?_ | refine Cond_t ?_ | refine Cond_f ?_ | refine JB ?_ | (refine JC ?_; intro _ _ _ _) | (refine JGB ?_; intro _ _ _ _) | refine K1 ?_ | refine K0 ?_ | refine K2 ?_ | refine K3 ?_ | refine K4 ?_ | (refine CV_pu ?_; intro _ _ _ _) | (refine CV_puz ?_; intro _ _ _ _) | refine fRI_1 ?_ | refine fRI_N ?_ | refine gHV_lkI ?_ | refine gRI_lkI ?_ | refine gV_lkI ?_ | refine fV_ldN ?_ | refine fV_ld1 ?_ | refine fHV_ldN ?_ | refine fHV_ld1 ?_ | refine NilW_some ?_ | refine iCW_1 ?_ | refine iCW_N ?_ | refine Pk_b ?_));rename_i hS6;clear hS5;rw [Int.toNat_natCast,<- hX];have hsz:=size_ext D k (by omega);intro K0 hK0;have h1s:∀ c,(⟨#[c]⟩:ByteArray).size = 1:=fun _=>rfl
 have main:∀ w' z' T,T = (if k < D.size then D.extract 0 k ++ ⟨#[46]⟩ ++ D.extract k D.size else D.extract 0 k)->Res w z [] w' z' [(c1,.cells (litN n).toArray 23 (0,0))]->K0 [.string T] w':=by
  intro w' z' T hT hS';refine hK0 _ _ fun _=>?_
  clear hK0 hS6;have hTs:T.size <= 5000:=by
   rw [hT]
   split
   ·rw [ByteArray.size_append,ByteArray.size_append,h1s]; omega
   ·omega
  have hTb:bytes T = (digL n.m ++ zerosL K).take k ++ (if k < (digL n.m ++ zerosL K).length then 46 :: (digL n.m ++ zerosL K).drop k else []):=by
   rw [hT,<- hD,<- size_bytes]
   split
   ·rw [bytes_add,bytes_add,bytes_to,bytes_from,List.append_assoc]; rfl
   ·rw [bytes_to,List.append_nil]
  have hmx:max X (IntKind.i64.wrap (0 - X)) = (X.natAbs:Int):=by
   rw [wrap_in (by unfold inI; omega)]; omega
  haveI:Nn (X.natAbs:Int):=⟨by omega⟩
  have hXl:lenD X.natAbs <= 10:=lenD_lt (by omega) (by
    have:(10:Nat) ^ 10 = 10000000000:=by decide
    omega)
  intro K1 hK1;have m2:∀ c,c = (if X < 0 then 45 else 43:UInt8)->K1 [.string ⟨#[c]⟩] w':=by
   intro c hc;refine hK1 _ _ fun _=>?_
   refine V_run ?_;refine V_run ?_;rw [hmx];refine CV_puz ?_;intro z8 w8 hz8 hS8;rw [Int.toNat_natCast];refine V_cat [T,⟨#[69]⟩,⟨#[c]⟩,digB X.natAbs] rfl rfl (by omega) (by rw [sizes4,size_digB,h1s,h1s]; omega) ?_;intro z9 w9 hz9 hS9;refine ⟨_,_,hS9,?_⟩;rw [joinB4];refine congrArg Value.string (ba_inj ?_)
   show bytes (T ++ ⟨#[69]⟩ ++ ⟨#[c]⟩ ++ digB X.natAbs) = _
   rw [bytes_add,bytes_add,bytes_add,hTb,bytes_digB,bytes_mk,expoL,expoT,<- hX,hc,<- hK];simp
   rfl
  clear hK1;refine V_run ?_;refine Cond_d (fun h=>?_) (fun h=>?_)
  ·exact m2 45 (by rw [if_pos h])
  ·exact m2 43 (by rw [if_neg h])
 clear hK0;refine V_run ?_;refine V_run ?_;refine Cond_d (fun h=>?_) (fun h=>?_)
 ·have hlt:k < D.size:=by omega
  refine V_run ?_;rw [Int.toNat_natCast];refine V_cat [D.extract 0 k,⟨#[46]⟩,D.extract k D.size] rfl rfl (by omega) (by rw [sizes3,h1s]; omega) ?_;intro z7 w7 hz7 hS7;exact main _ _ _ (by rw [joinB3,if_pos hlt]) hS7
 ·exact main _ _ _ (by rw [if_neg (by omega)]) hS6)
end
section
open Go Q Go.RowKit Go.Shelf
theorem lenD_10 {u:Nat} (h:u <= 1000000000):lenD u <= 10:=by
 refine lenD_lt (by omega) ?_;have:(10:Nat) ^ 10 = 10000000000:=by decide
 omega
theorem tmod3 (s:Int):(s.tmod 3 + 3).tmod 3 = s % 3:=by
 rw [Int.tmod_eq_emod_of_nonneg (by have:=Int.lt_tmod_of_pos s (show (0:Int) < 3 by decide); omega)];rw [Int.tmod_eq_emod]
 split <;> omega
theorem plain_len {n:Nm} (hB:Bn n 4000):(plainL n).length <= 20000:=by
 have h1:(digL n.m).length <= 4000:=hB.len;have h2:=hB.lo;have h3:=hB.hi;unfold plainL
 split
 ·simp only [List.length_append,List.length_replicate]; omega
 ·rw [List.length_append,List.length_take]
  simp only [List.length_cons,List.length_drop,List.length_append,List.length_replicate];omega
def bodyL (n:Nm) (s:SetM):List UInt8:=if n.m = 0 \/ (adjN n < s.digits/\-2 * s.digits <= n.e) then plainL n else
  if s.form = 1 then expoL n ((adjN n) % 3 + 1).toNat else expoL n 1
theorem told_eq (n:Nm) (s:SetM):toldL n s = (if n.s = true then [45] else []) ++ bodyL n s:=rfl
theorem told_of {z0 z:Z} {w:World} {n:Nm} {s:SetM} [ht:Tab z0] (hz:Le z0 z) (hB:Bn n 4000) (hs:setOk s = true):Fn1 102 #[n.num.v,s.v] z w fun _ r=>r = .string (strB (toldL n s)):=Fn1.intro fun hS=>en102 (by
 haveI ht':Tab z:=ht.le hz;unfold vc102;obtain ⟨d1,d2,d3,d4⟩:=set_d hs;have h1:=hB.len;have h2:=hB.lo;have h3:=hB.hi;have hj:=adj_bn hB;haveI:Pu 151 #[.agg (litN n).toArray] (.int .i64 (adjN n)):=⟨fun z w=>adj_of (hB.mono (by omega))⟩
 haveI:InI (-2 * s.digits):=⟨by omega⟩
 rw [num_mk];refine iV_bx ?_;intro c1 w1 hc1 hS1;refine iV_bx ?_;intro c2 w2 hc2 hS2;clear hS hS1;(repeat (first | (refine iDr ?_; intro _ _) | refine V_run ?_ | refine PV_run ?_ | refine HV_run ?_ | refine iV_ld1 ?_ | refine iV_ldN ?_ | (refine iV_bx ?_; intro _ _ _ _) | (refine iV_al ?_; intro _ _ _ _) | (refine iV_mm ?_; intro _ _ _ _) | (refine iU_st ?_; intro _ _) | refine iHV_1 ?_ | refine iHV_N ?_ | refine iRI_1 ?_ | refine iRI_N ?_ | refine Cond_t ?_ | refine Cond_f ?_ | refine JB ?_ | (refine JC ?_; intro _ _ _ _) | (refine JGB ?_; intro _ _ _ _) | refine K1 ?_ | refine K0 ?_ | refine K2 ?_ | refine K3 ?_ | refine K4 ?_ | (refine CV_pu ?_; intro _ _ _ _) | (refine CV_puz ?_; intro _ _ _ _) | refine fRI_1 ?_ | refine fRI_N ?_ | refine gHV_lkI ?_ | refine gRI_lkI ?_ | refine gV_lkI ?_ | refine fV_ldN ?_ | refine fV_ld1 ?_ | refine fHV_ldN ?_ | refine fHV_ld1 ?_ | refine NilW_some ?_ | refine iCW_1 ?_ | refine iCW_N ?_ | refine Pk_b ?_));rename_i hS3;clear hS2;intro K0 hK0;have main:∀ w' z' l,l = bodyL n s->Res w z [] w' z' [(c2,.cells s.cells.toArray 39 (0,0)),(c1,.cells (litN n).toArray 23 (0,0))]->K0 [.string (strB l)] w':=by
  intro w' z' l hl hS';refine hK0 _ _ fun _=>?_
  clear hK0 hS3;intro K1 hK1;have hll:l.length <= 1000000:=by
   rw [hl,bodyL];have hp:=plain_len hB
   split
   ·omega
   ·split
    ·have:=expo_len n ((adjN n) % 3 + 1).toNat
     have h5:lenD (adjN n - (((adjN n) % 3 + 1).toNat:Nat) + 1).natAbs <= 10:=lenD_10 (by omega);omega
    ·have:=expo_len n 1
     have h5:lenD (adjN n - ((1:Nat):Int) + 1).natAbs <= 10:=lenD_10 (by omega);omega
  haveI:Cat ⟨#[45]⟩ (strB l):=⟨by rw [size_bytes (strB l),bytes_mk]; have:(⟨#[45]⟩:ByteArray).size = 1:=rfl; omega⟩
  refine V_run ?_;refine iV_ld1 ?_;refine Cond_b (fun h=>?_) (fun h=>?_)
  ·refine V_run ?_
   refine hK1 _ _ fun _=>?_
   refine ⟨_,_,hS',?_⟩;refine congrArg Value.string (ba_inj ?_);rw [bytes_add,bytes_mk,told_eq,if_pos h,hl]
  ·refine hK1 _ _ fun _=>?_
   refine ⟨_,_,hS',?_⟩;rw [told_eq,if_neg (by rw [h]; simp),hl,List.nil_append]
 clear hK0;intro K1 hK1;have m2:∀ w' z' (c:Bool),(c = true ↔ (n.m = 0 \/ (adjN n < s.digits/\-2 * s.digits <= n.e)))->Res w z [] w' z' [(c2,.cells s.cells.toArray 39 (0,0)),(c1,.cells (litN n).toArray 23 (0,0))]->K1 [.bool c] w':=by
  intro w' z' c hc hS';refine hK1 _ _ fun _=>?_
  clear hK1 hS3;refine Cond_b (fun h=>?_) (fun h=>?_)
  ·haveI:Pu 89 #[.agg (litN n).toArray] (.string (strB (plainL n))):=⟨fun z w=>plain_of hB⟩
   (repeat (first | (refine iDr ?_; intro _ _) | refine V_run ?_ | refine PV_run ?_ | refine HV_run ?_ | refine iV_ld1 ?_ | refine iV_ldN ?_ | (refine iV_bx ?_; intro _ _ _ _) | (refine iV_al ?_; intro _ _ _ _) | (refine iV_mm ?_; intro _ _ _ _) | (refine iU_st ?_; intro _ _) | refine iHV_1 ?_ | refine iHV_N ?_ | refine iRI_1 ?_ | refine iRI_N ?_ | refine Cond_t ?_ | refine Cond_f ?_ | refine JB ?_ | (refine JC ?_; intro _ _ _ _) | (refine JGB ?_; intro _ _ _ _) | refine K1 ?_ | refine K0 ?_ | refine K2 ?_ | refine K3 ?_ | refine K4 ?_ | (refine CV_pu ?_; intro _ _ _ _) | (refine CV_puz ?_; intro _ _ _ _) | refine fRI_1 ?_ | refine fRI_N ?_ | refine gHV_lkI ?_ | refine gRI_lkI ?_ | refine gV_lkI ?_ | refine fV_ldN ?_ | refine fV_ld1 ?_ | refine fHV_ldN ?_ | refine fHV_ld1 ?_ | refine NilW_some ?_ | refine iCW_1 ?_ | refine iCW_N ?_ | refine Pk_b ?_));exact main _ _ _ (by rw [bodyL,if_pos (hc.1 h)]) ‹_›
  ·have hno:¬ (n.m = 0 \/ (adjN n < s.digits/\-2 * s.digits <= n.e)):=fun h4=>by rw [hc.2 h4] at h; cases h
   haveI hex:∀ k:Nat,1 <= k->k <= 3->PuZ z 152 #[.agg (litN n).toArray,.int .i64 (k:Int)] (.string (strB (expoL n k))):=fun k g1 g2=>⟨fun z w hz=>exponential_of hz hB g1 g2⟩
   (repeat (first | (refine iDr ?_; intro _ _) | refine V_run ?_ | refine PV_run ?_ | refine HV_run ?_ | refine iV_ld1 ?_ | refine iV_ldN ?_ | (refine iV_bx ?_; intro _ _ _ _) | (refine iV_al ?_; intro _ _ _ _) | (refine iV_mm ?_; intro _ _ _ _) | (refine iU_st ?_; intro _ _) | refine iHV_1 ?_ | refine iHV_N ?_ | refine iRI_1 ?_ | refine iRI_N ?_ | refine Cond_t ?_ | refine Cond_f ?_ | refine JB ?_ | (refine JC ?_; intro _ _ _ _) | (refine JGB ?_; intro _ _ _ _) | refine K1 ?_ | refine K0 ?_ | refine K2 ?_ | refine K3 ?_ | refine K4 ?_ | (refine CV_pu ?_; intro _ _ _ _) | (refine CV_puz ?_; intro _ _ _ _) | refine fRI_1 ?_ | refine fRI_N ?_ | refine gHV_lkI ?_ | refine gRI_lkI ?_ | refine gV_lkI ?_ | refine fV_ldN ?_ | refine fV_ld1 ?_ | refine fHV_ldN ?_ | refine fHV_ld1 ?_ | refine NilW_some ?_ | refine iCW_1 ?_ | refine iCW_N ?_ | refine Pk_b ?_));refine Cond_d (fun h4=>?_) (fun h4=>?_)
   ·have hr0:=Int.emod_nonneg (adjN n) (show (3:Int) ≠ 0 by decide)
    have hr3:=Int.emod_lt_of_pos (adjN n) (show (0:Int) < 3 by decide);have hm1:=Int.lt_tmod_of_pos (adjN n) (show (0:Int) < 3 by decide);have hm2:=Int.tmod_lt_of_pos (adjN n) (show (0:Int) < 3 by decide);obtain ⟨k,hk⟩:∃ k:Nat,adjN n % 3 + 1 = (k:Int):=⟨(adjN n % 3 + 1).toNat,by omega⟩
    haveI:InR 0 3:=⟨by decide,by decide⟩
    haveI:InI (adjN n):=⟨by omega⟩
    haveI:InI ((adjN n).tmod 3 + 3):=⟨by omega⟩
    haveI:InI (adjN n % 3 + 1):=⟨by omega⟩
    haveI:=hex k (by omega) (by omega);refine iV_ldN ?_;refine V_run ?_;refine V_run ?_;refine V_run ?_;rw [tmod3];refine V_run ?_;rw [hk];(repeat (first | (refine iDr ?_; intro _ _) | refine V_run ?_ | refine PV_run ?_ | refine HV_run ?_ | refine iV_ld1 ?_ | refine iV_ldN ?_ | (refine iV_bx ?_; intro _ _ _ _) | (refine iV_al ?_; intro _ _ _ _) | (refine iV_mm ?_; intro _ _ _ _) | (refine iU_st ?_; intro _ _) | refine iHV_1 ?_ | refine iHV_N ?_ | refine iRI_1 ?_ | refine iRI_N ?_ | refine Cond_t ?_ | refine Cond_f ?_ | refine JB ?_ | (refine JC ?_; intro _ _ _ _) | (refine JGB ?_; intro _ _ _ _) | refine K1 ?_ | refine K0 ?_ | refine K2 ?_ | refine K3 ?_ | refine K4 ?_ | (refine CV_pu ?_; intro _ _ _ _) | (refine CV_puz ?_; intro _ _ _ _) | refine fRI_1 ?_ | refine fRI_N ?_ | refine gHV_lkI ?_ | refine gRI_lkI ?_ | refine gV_lkI ?_ | refine fV_ldN ?_ | refine fV_ld1 ?_ | refine fHV_ldN ?_ | refine fHV_ld1 ?_ | refine NilW_some ?_ | refine iCW_1 ?_ | refine iCW_N ?_ | refine Pk_b ?_));exact main _ _ _ (by rw [bodyL,if_neg hno,if_pos h4,hk,Int.toNat_natCast]) ‹_›
   ·haveI:PuZ z 152 #[.agg (litN n).toArray,.int .i64 1] (.string (strB (expoL n 1))):=hex 1 (by omega) (by omega)
    (repeat (first | (refine iDr ?_; intro _ _) | refine V_run ?_ | refine PV_run ?_ | refine HV_run ?_ | refine iV_ld1 ?_ | refine iV_ldN ?_ | (refine iV_bx ?_; intro _ _ _ _) | (refine iV_al ?_; intro _ _ _ _) | (refine iV_mm ?_; intro _ _ _ _) | (refine iU_st ?_; intro _ _) | refine iHV_1 ?_ | refine iHV_N ?_ | refine iRI_1 ?_ | refine iRI_N ?_ | refine Cond_t ?_ | refine Cond_f ?_ | refine JB ?_ | (refine JC ?_; intro _ _ _ _) | (refine JGB ?_; intro _ _ _ _) | refine K1 ?_ | refine K0 ?_ | refine K2 ?_ | refine K3 ?_ | refine K4 ?_ | (refine CV_pu ?_; intro _ _ _ _) | (refine CV_puz ?_; intro _ _ _ _) | refine fRI_1 ?_ | refine fRI_N ?_ | refine gHV_lkI ?_ | refine gRI_lkI ?_ | refine gV_lkI ?_ | refine fV_ldN ?_ | refine fV_ld1 ?_ | refine fHV_ldN ?_ | refine fHV_ld1 ?_ | refine NilW_some ?_ | refine iCW_1 ?_ | refine iCW_N ?_ | refine Pk_b ?_));exact main _ _ _ (by rw [bodyL,if_neg hno,if_neg h4]) ‹_›
 clear hK1;(repeat (first | (refine iDr ?_; intro _ _) | refine V_run ?_ | refine PV_run ?_ | refine HV_run ?_ | refine iV_ld1 ?_ | refine iV_ldN ?_ | (refine iV_bx ?_; intro _ _ _ _) | (refine iV_al ?_; intro _ _ _ _) | (refine iV_mm ?_; intro _ _ _ _) | (refine iU_st ?_; intro _ _) | refine iHV_1 ?_ | refine iHV_N ?_ | refine iRI_1 ?_ | refine iRI_N ?_ | refine Cond_t ?_ | refine Cond_f ?_ | refine JB ?_ | (refine JC ?_; intro _ _ _ _) | (refine JGB ?_; intro _ _ _ _) | refine K1 ?_ | refine K0 ?_ | refine K2 ?_ | refine K3 ?_ | refine K4 ?_ | (refine CV_pu ?_; intro _ _ _ _) | (refine CV_puz ?_; intro _ _ _ _) | refine fRI_1 ?_ | refine fRI_N ?_ | refine gHV_lkI ?_ | refine gRI_lkI ?_ | refine gV_lkI ?_ | refine fV_ldN ?_ | refine fV_ld1 ?_ | refine fHV_ldN ?_ | refine fHV_ld1 ?_ | refine NilW_some ?_ | refine iCW_1 ?_ | refine iCW_N ?_ | refine Pk_b ?_));rw [lit_zero hB.c];refine Cond_d (fun h=>?_) (fun h=>?_)
 ·exact m2 _ _ _ (by simp [h]) ‹_›
 ·(repeat (first | (refine iDr ?_; intro _ _) | refine V_run ?_ | refine PV_run ?_ | refine HV_run ?_ | refine iV_ld1 ?_ | refine iV_ldN ?_ | (refine iV_bx ?_; intro _ _ _ _) | (refine iV_al ?_; intro _ _ _ _) | (refine iV_mm ?_; intro _ _ _ _) | (refine iU_st ?_; intro _ _) | refine iHV_1 ?_ | refine iHV_N ?_ | refine iRI_1 ?_ | refine iRI_N ?_ | refine Cond_t ?_ | refine Cond_f ?_ | refine JB ?_ | (refine JC ?_; intro _ _ _ _) | (refine JGB ?_; intro _ _ _ _) | refine K1 ?_ | refine K0 ?_ | refine K2 ?_ | refine K3 ?_ | refine K4 ?_ | (refine CV_pu ?_; intro _ _ _ _) | (refine CV_puz ?_; intro _ _ _ _) | refine fRI_1 ?_ | refine fRI_N ?_ | refine gHV_lkI ?_ | refine gRI_lkI ?_ | refine gV_lkI ?_ | refine fV_ldN ?_ | refine fV_ld1 ?_ | refine fHV_ldN ?_ | refine fHV_ld1 ?_ | refine NilW_some ?_ | refine iCW_1 ?_ | refine iCW_N ?_ | refine Pk_b ?_))
  refine Cond_d (fun h5=>?_) (fun h5=>?_)
  ·(repeat (first | (refine iDr ?_; intro _ _) | refine V_run ?_ | refine PV_run ?_ | refine HV_run ?_ | refine iV_ld1 ?_ | refine iV_ldN ?_ | (refine iV_bx ?_; intro _ _ _ _) | (refine iV_al ?_; intro _ _ _ _) | (refine iV_mm ?_; intro _ _ _ _) | (refine iU_st ?_; intro _ _) | refine iHV_1 ?_ | refine iHV_N ?_ | refine iRI_1 ?_ | refine iRI_N ?_ | refine Cond_t ?_ | refine Cond_f ?_ | refine JB ?_ | (refine JC ?_; intro _ _ _ _) | (refine JGB ?_; intro _ _ _ _) | refine K1 ?_ | refine K0 ?_ | refine K2 ?_ | refine K3 ?_ | refine K4 ?_ | (refine CV_pu ?_; intro _ _ _ _) | (refine CV_puz ?_; intro _ _ _ _) | refine fRI_1 ?_ | refine fRI_N ?_ | refine gHV_lkI ?_ | refine gRI_lkI ?_ | refine gV_lkI ?_ | refine fV_ldN ?_ | refine fV_ld1 ?_ | refine fHV_ldN ?_ | refine fHV_ld1 ?_ | refine NilW_some ?_ | refine iCW_1 ?_ | refine iCW_N ?_ | refine Pk_b ?_))
   exact m2 _ _ _ (by simp [h,h5]) ‹_›
  ·exact m2 _ _ _ (by simp [h,h5]) ‹_›)
def tellR (x:NumM) (s:SetM):List UInt8 × Int:=match nmOf x with
 | none=>([],1)
 | some n=>if setOk s = true then (toldL n s,0) else ([],1)
instance {z0:Z} {x:NumM} {s:SetM} [ht:Tab z0] [hx:Sm x.digits]:PuZ z0 35 #[x.v,s.v] (.tuple #[.string (strB (tellR x s).1),.int .i64 (tellR x s).2]):=⟨fun z w hz=>Fn1.intro fun hS=>en35 (by
 unfold vc35;generalize hG:tellR x s = G
 by_cases hg:(∃ n,nmOf x = some n)/\setOk s = true
 ·obtain ⟨⟨n,hn⟩,hs⟩:=hg
  obtain ⟨rfl,hok⟩:=nmOf_some hn;have hV:G = (toldL n s,0):=by rw [<- hG,tellR,hn]; exact if_pos hs
  haveI ht':Tab z:=ht.le hz;haveI:PuZ z 102 #[n.num.v,s.v] (.string (strB (toldL n s))):=⟨fun z w hz=>told_of hz ((bn_ok hok).mono (by omega)) hs⟩
  (repeat (first | (refine iDr ?_; intro _ _) | refine V_run ?_ | refine PV_run ?_ | refine HV_run ?_ | refine iV_ld1 ?_ | refine iV_ldN ?_ | (refine iV_bx ?_; intro _ _ _ _) | (refine iV_al ?_; intro _ _ _ _) | (refine iV_mm ?_; intro _ _ _ _) | (refine iU_st ?_; intro _ _) | refine iHV_1 ?_ | refine iHV_N ?_ | refine iRI_1 ?_ | refine iRI_N ?_ | refine Cond_t ?_ | refine Cond_f ?_ | refine JB ?_ | (refine JC ?_; intro _ _ _ _) | (refine JGB ?_; intro _ _ _ _) | refine K1 ?_ | refine K0 ?_ | refine K2 ?_ | refine K3 ?_ | refine K4 ?_ | (refine CV_pu ?_; intro _ _ _ _) | (refine CV_puz ?_; intro _ _ _ _) | refine fRI_1 ?_ | refine fRI_N ?_ | refine gHV_lkI ?_ | refine gRI_lkI ?_ | refine gV_lkI ?_ | refine fV_ldN ?_ | refine fV_ld1 ?_ | refine fHV_ldN ?_ | refine fHV_ld1 ?_ | refine NilW_some ?_ | refine iCW_1 ?_ | refine iCW_N ?_ | refine Pk_b ?_));rw [hn,hs];refine Cond_f ?_;(repeat (first | (refine iDr ?_; intro _ _) | refine V_run ?_ | refine PV_run ?_ | refine HV_run ?_ | refine iV_ld1 ?_ | refine iV_ldN ?_ | (refine iV_bx ?_; intro _ _ _ _) | (refine iV_al ?_; intro _ _ _ _) | (refine iV_mm ?_; intro _ _ _ _) | (refine iU_st ?_; intro _ _) | refine iHV_1 ?_ | refine iHV_N ?_ | refine iRI_1 ?_ | refine iRI_N ?_ | refine Cond_t ?_ | refine Cond_f ?_ | refine JB ?_ | (refine JC ?_; intro _ _ _ _) | (refine JGB ?_; intro _ _ _ _) | refine K1 ?_ | refine K0 ?_ | refine K2 ?_ | refine K3 ?_ | refine K4 ?_ | (refine CV_pu ?_; intro _ _ _ _) | (refine CV_puz ?_; intro _ _ _ _) | refine fRI_1 ?_ | refine fRI_N ?_ | refine gHV_lkI ?_ | refine gRI_lkI ?_ | refine gV_lkI ?_ | refine fV_ldN ?_ | refine fV_ld1 ?_ | refine fHV_ldN ?_ | refine fHV_ld1 ?_ | refine NilW_some ?_ | refine iCW_1 ?_ | refine iCW_N ?_ | refine Pk_b ?_));exact ⟨_,_,‹_›,by rw [hV]⟩
 ·have hV:G = ([],1):=by
   rw [<- hG,tellR]
   cases h1:nmOf x with
   | none=>rfl
   | some n=>exact if_neg fun hs=>hg ⟨⟨n,h1⟩,hs⟩
  (repeat (first | (refine iDr ?_; intro _ _) | refine V_run ?_ | refine PV_run ?_ | refine HV_run ?_ | refine iV_ld1 ?_ | refine iV_ldN ?_ | (refine iV_bx ?_; intro _ _ _ _) | (refine iV_al ?_; intro _ _ _ _) | (refine iV_mm ?_; intro _ _ _ _) | (refine iU_st ?_; intro _ _) | refine iHV_1 ?_ | refine iHV_N ?_ | refine iRI_1 ?_ | refine iRI_N ?_ | refine Cond_t ?_ | refine Cond_f ?_ | refine JB ?_ | (refine JC ?_; intro _ _ _ _) | (refine JGB ?_; intro _ _ _ _) | refine K1 ?_ | refine K0 ?_ | refine K2 ?_ | refine K3 ?_ | refine K4 ?_ | (refine CV_pu ?_; intro _ _ _ _) | (refine CV_puz ?_; intro _ _ _ _) | refine fRI_1 ?_ | refine fRI_N ?_ | refine gHV_lkI ?_ | refine gRI_lkI ?_ | refine gV_lkI ?_ | refine fV_ldN ?_ | refine fV_ld1 ?_ | refine fHV_ldN ?_ | refine fHV_ld1 ?_ | refine NilW_some ?_ | refine iCW_1 ?_ | refine iCW_N ?_ | refine Pk_b ?_));refine Cond_is ?_ ?_
  ·cases h1:nmOf x with
   | none=>rfl
   | some n=>
    cases hs:setOk s with
    | false=>rfl
    | true=>exact absurd ⟨⟨n,h1⟩,hs⟩ hg
  ·exact ⟨_,_,‹_›,by rw [hV]⟩)⟩
end
section
open Go Q Go.RowKit Go.Shelf
theorem decFrom_val:∀ (l:List UInt8) (a:Nat),Dg l->Lib.decFrom a l = some (l.foldl valF a)
 | [],a,_=>rfl
 | c :: l,a,h=>by
  have hc:=h c List.mem_cons_self;unfold Lib.decFrom;have e:Lib.digitVal c = some (c.toNat - 48):=by unfold Lib.digitVal; rw [if_pos hc]
  rw [e];simp only;rw [decFrom_val l _ fun d hd=>h d (List.mem_cons_of_mem _ hd),List.foldl_cons,valF,Nat.mul_comm]
theorem atoi_val {l:List UInt8} (h:Dg l) (hne:l ≠ []):Lib.atoi l = some (valL l:Int):=by
 cases l with
 | nil=>exact absurd rfl hne
 | cons c r=>
  have hc:=h c List.mem_cons_self;have h1:(c == 45) = false:=by
   cases hb:c == 45 with
   | false=>rfl
   | true=>
     have:c = 45:=by simpa using hb
     subst this; exact absurd hc.1 (by decide)
  have h2:(c == 43) = false:=by
   cases hb:c == 43 with
   | false=>rfl
   | true=>
     have:c = 43:=by simpa using hb
     subst this; exact absurd hc.1 (by decide)
  unfold Lib.atoi;simp only [h1,h2,Bool.false_eq_true,if_false];unfold Lib.decNat;rw [if_neg (by simp),decFrom_val _ _ h]
  rfl
theorem bytesWorld_eq (w:World) (e:TypeId) (s:ByteArray):Lib.bytesWorld w e s = { w with drawn:=w.drawn + 1,heap:=w.heap.push (.cells (Lib.bytesCells w e s) e ((Lib.bytesCells w e s).size,(Lib.bytesCells w e s).size + 1)) }:=by
 have hh:(Lib.bytesWorld w e s).heap = w.heap.push (.cells (Lib.bytesCells w e s) e ((Lib.bytesCells w e s).size,(Lib.bytesCells w e s).size + 1)):=by
  apply Array.ext_getElem?
  intro j;rw [Array.getElem?_push]
  by_cases h1:j = w.heap.size
  ·subst h1; rw [Lib.bytesWorld_at_new,if_pos rfl]
  ·rw [if_neg h1]
   by_cases h2:j < w.heap.size
   ·exact Lib.bytesWorld_at_old w e s j h2
   ·rw [Array.getElem?_eq_none (by rw [Lib.bytesWorld_size]; omega),Array.getElem?_eq_none (by omega)]
 rw [show Lib.bytesWorld w e s = { Lib.bytesWorld w e s with heap:=(Lib.bytesWorld w e s).heap } from rfl,hh]
 rfl
theorem bytes_res {w:World} {z:Z} {e:TypeId} {s:ByteArray} (h:Own w z []):Res w z [] (Lib.bytesWorld w e s) z []:=by
 rw [bytesWorld_eq];exact (Res.new (Res.drew h) _).drop
class Few (s:ByteArray):Prop where
 h:Dg (bytes s)
 ne:bytes s ≠ []
 n:s.size <= 18
instance {s:ByteArray} [h:Few s]:Pu 90 #[.string s] (.tuple #[.int .i64 (valL (bytes s):Nat),.nilIface]):=⟨fun z w ho=>
 Calls.mono (Any.strconv_Atoi atoiLays s _ h.n (atoi_val h.h h.ne) w) (by
  rintro e w' ⟨rfl,t,rfl⟩
  exact ⟨z,bytes_res ho,rfl⟩)⟩
theorem bytes_strB (l:List UInt8):bytes (strB l) = l:=bytes_mk l
instance {x:NumM} {d:Int} [hx:Sm x.digits]:Pu 29 #[x.v,.int .i64 d] (ordV (intR x d)):=⟨fun z w=>Fn1.intro fun hS=>en29 (by
 unfold vc29;generalize hG:intR x d = G
 by_cases hg:(∃ n,nmOf x = some n)/\wideD d = true
 ·obtain ⟨⟨n,hn⟩,hw⟩:=hg
  obtain ⟨rfl,hok⟩:=nmOf_some hn;obtain ⟨k,rfl,hk1,hk2⟩:=wide_nat hw;have hB:=bn_ok hok;have hbb:=bn_bare2 (by omega) hB hok.len;have l1:=hbb.len;have l2:=hbb.lo;have l3:=hbb.hi;have hV:intR n.num (k:Int) = if (bareN n).e < 0 \/ (bareN n).e + lenD (bareN n).m > (k:Int) then .error 10 else
   if lenD ((bareN n).m) + (bareN n).e.toNat > 9 then .error 8 else .ok (svN (bareN n) 0):=by
   unfold intR;rw [hn];simp only;rw [if_neg (by rw [hw]; simp)]
  rw [hV] at hG;haveI:Pu 88 #[n.num.v] (.agg (litN (bareN n)).toArray):=⟨fun z w=>bare_of (hB.mono (by omega))⟩
  have hnd:(∃ m,nmOf n.num = some m):=⟨n,hn⟩
  have hsz:((digB (bareN n).m).size:Int) = (lenD (bareN n).m:Int):=by rw [size_digB]
  generalize bareN n = N at *;haveI:InI (N.e + ((digB N.m).size:Int)):=⟨by omega⟩
  (repeat (first | (refine iDr ?_; intro _ _) | refine V_run ?_ | refine PV_run ?_ | refine HV_run ?_ | refine iV_ld1 ?_ | refine iV_ldN ?_ | (refine iV_bx ?_; intro _ _ _ _) | (refine iV_al ?_; intro _ _ _ _) | (refine iV_mm ?_; intro _ _ _ _) | (refine iU_st ?_; intro _ _) | refine iHV_1 ?_ | refine iHV_N ?_ | refine iRI_1 ?_ | refine iRI_N ?_ | refine Cond_t ?_ | refine Cond_f ?_ | refine JB ?_ | (refine JC ?_; intro _ _ _ _) | (refine JGB ?_; intro _ _ _ _) | refine K1 ?_ | refine K0 ?_ | refine K2 ?_ | refine K3 ?_ | refine K4 ?_ | (refine CV_pu ?_; intro _ _ _ _) | (refine CV_puz ?_; intro _ _ _ _) | refine fRI_1 ?_ | refine fRI_N ?_ | refine gHV_lkI ?_ | refine gRI_lkI ?_ | refine gV_lkI ?_ | refine fV_ldN ?_ | refine fV_ld1 ?_ | refine fHV_ldN ?_ | refine fHV_ld1 ?_ | refine NilW_some ?_ | refine iCW_1 ?_ | refine iCW_N ?_ | refine Pk_b ?_));rw [hn];refine Cond_not (by
   show (bif bif !true then true else decide ((k:Int) < 1) then true else decide ((k:Int) > 40)) = false
   rw [decide_eq_false (p:=(k:Int) < 1) (by omega),decide_eq_false (p:=(k:Int) > 40) (by omega)]; rfl) ?_
  (repeat (first | (refine iDr ?_; intro _ _) | refine V_run ?_ | refine PV_run ?_ | refine HV_run ?_ | refine iV_ld1 ?_ | refine iV_ldN ?_ | (refine iV_bx ?_; intro _ _ _ _) | (refine iV_al ?_; intro _ _ _ _) | (refine iV_mm ?_; intro _ _ _ _) | (refine iU_st ?_; intro _ _) | refine iHV_1 ?_ | refine iHV_N ?_ | refine iRI_1 ?_ | refine iRI_N ?_ | refine Cond_t ?_ | refine Cond_f ?_ | refine JB ?_ | (refine JC ?_; intro _ _ _ _) | (refine JGB ?_; intro _ _ _ _) | refine K1 ?_ | refine K0 ?_ | refine K2 ?_ | refine K3 ?_ | refine K4 ?_ | (refine CV_pu ?_; intro _ _ _ _) | (refine CV_puz ?_; intro _ _ _ _) | refine fRI_1 ?_ | refine fRI_N ?_ | refine gHV_lkI ?_ | refine gRI_lkI ?_ | refine gV_lkI ?_ | refine fV_ldN ?_ | refine fV_ld1 ?_ | refine fHV_ldN ?_ | refine fHV_ld1 ?_ | refine NilW_some ?_ | refine iCW_1 ?_ | refine iCW_N ?_ | refine Pk_b ?_));rw [hsz]
  by_cases h1:N.e < 0 \/ N.e + lenD N.m > (k:Int)
  ·rw [if_pos h1] at hG
   refine Cond_is (by
    rcases h1 with h1 | h1
    ·rw [decide_eq_true h1]; rfl
    ·rw [decide_eq_true (p:=N.e + (lenD N.m:Int) > (k:Int)) h1]; cases decide (N.e < 0) <;> rfl) ?_
   exact ⟨_,_,‹_›,by rw [<- hG]; rfl⟩
  ·rw [if_neg h1] at hG
   have h1a:0 <= N.e:=by omega
   have h1b:N.e + lenD N.m <= (k:Int):=by omega
   haveI:Pu 89 #[.agg (litN N).toArray] (.string (strB (plainL N))):=⟨fun z w=>plain_of (hbb.mono (by omega))⟩
   refine Cond_not (by rw [decide_eq_false (p:=N.e < 0) (by omega),decide_eq_false (p:=N.e + (lenD N.m:Int) > (k:Int)) (by omega)]; rfl) ?_;have hpl:plainL N = digL N.m ++ zerosL N.e.toNat:=by rw [plainL,if_pos h1a]
   have hps:((strB (plainL N)).size:Int) = (lenD N.m:Int) + N.e:=by
    rw [size_bytes,bytes_strB,hpl,List.length_append,List.length_replicate,show (digL N.m).length = lenD N.m from rfl]; omega
   (repeat (first | (refine iDr ?_; intro _ _) | refine V_run ?_ | refine PV_run ?_ | refine HV_run ?_ | refine iV_ld1 ?_ | refine iV_ldN ?_ | (refine iV_bx ?_; intro _ _ _ _) | (refine iV_al ?_; intro _ _ _ _) | (refine iV_mm ?_; intro _ _ _ _) | (refine iU_st ?_; intro _ _) | refine iHV_1 ?_ | refine iHV_N ?_ | refine iRI_1 ?_ | refine iRI_N ?_ | refine Cond_t ?_ | refine Cond_f ?_ | refine JB ?_ | (refine JC ?_; intro _ _ _ _) | (refine JGB ?_; intro _ _ _ _) | refine K1 ?_ | refine K0 ?_ | refine K2 ?_ | refine K3 ?_ | refine K4 ?_ | (refine CV_pu ?_; intro _ _ _ _) | (refine CV_puz ?_; intro _ _ _ _) | refine fRI_1 ?_ | refine fRI_N ?_ | refine gHV_lkI ?_ | refine gRI_lkI ?_ | refine gV_lkI ?_ | refine fV_ldN ?_ | refine fV_ld1 ?_ | refine fHV_ldN ?_ | refine fHV_ld1 ?_ | refine NilW_some ?_ | refine iCW_1 ?_ | refine iCW_N ?_ | refine Pk_b ?_));rw [hps];refine Cond_d (fun h2=>?_) (fun h2=>?_)
   ·rw [if_pos (by omega)] at hG
    exact ⟨_,_,‹_›,by rw [<- hG]; rfl⟩
   ·rw [if_neg (by omega)] at hG
    have hdp:Dg (plainL N):=by rw [hpl]; exact (digL_dg _).app (dg_rep _)
    have hval:valL (plainL N) = N.m * 10 ^ N.e.toNat:=by rw [hpl,valL_shift,valL_dig]
    haveI:Few (strB (plainL N)):=⟨by rw [bytes_strB]; exact hdp,by rw [bytes_strB,hpl]; exact fun e=>digL_ne N.m (List.append_eq_nil_iff.1 e).1,by omega⟩
    have hvl:N.m * 10 ^ N.e.toNat < 10 ^ 18:=by
     have:=val_lt _ hdp;rw [hval] at this;refine Nat.lt_of_lt_of_le this (tens_le ?_);rw [<- bytes_strB (plainL N),<- size_bytes]; omega
    have hb18:(10:Nat) ^ 18 = 1000000000000000000:=by decide
    have hsv:svN N 0 = if N.s = true then -((N.m * 10 ^ N.e.toNat:Nat):Int) else ((N.m * 10 ^ N.e.toNat:Nat):Int):=by
     unfold svN upN;rw [Int.sub_zero]
    rw [hsv] at hG;refine CV_pu ?_;intro z5 w5 hz5 hS5;rw [bytes_strB,hval];generalize N.m * 10 ^ N.e.toNat = v at *;(repeat (first | (refine iDr ?_; intro _ _) | refine V_run ?_ | refine PV_run ?_ | refine HV_run ?_ | refine iV_ld1 ?_ | refine iV_ldN ?_ | (refine iV_bx ?_; intro _ _ _ _) | (refine iV_al ?_; intro _ _ _ _) | (refine iV_mm ?_; intro _ _ _ _) | (refine iU_st ?_; intro _ _) | refine iHV_1 ?_ | refine iHV_N ?_ | refine iRI_1 ?_ | refine iRI_N ?_ | refine Cond_t ?_ | refine Cond_f ?_ | refine JB ?_ | (refine JC ?_; intro _ _ _ _) | (refine JGB ?_; intro _ _ _ _) | refine K1 ?_ | refine K0 ?_ | refine K2 ?_ | refine K3 ?_ | refine K4 ?_ | (refine CV_pu ?_; intro _ _ _ _) | (refine CV_puz ?_; intro _ _ _ _) | refine fRI_1 ?_ | refine fRI_N ?_ | refine gHV_lkI ?_ | refine gRI_lkI ?_ | refine gV_lkI ?_ | refine fV_ldN ?_ | refine fV_ld1 ?_ | refine fHV_ldN ?_ | refine fHV_ld1 ?_ | refine NilW_some ?_ | refine iCW_1 ?_ | refine iCW_N ?_ | refine Pk_b ?_));intro K0 hK0;refine V_run ?_;refine iV_ld1 ?_;refine Cond_b (fun h3=>?_) (fun h3=>?_)
    ·refine V_run ?_
     refine hK0 _ _ fun _=>?_
     rw [show IntKind.i64.wrap (0 - (v:Int)) = -(v:Int) from by rw [wrap_in (by unfold inI; omega)]; omega];exact ⟨_,_,hS5,by rw [<- hG,if_pos h3]; rfl⟩
    ·refine hK0 _ _ fun _=>?_
     exact ⟨_,_,hS5,by rw [<- hG,if_neg (by rw [h3]; simp)]; rfl⟩
 ·have hV:intR x d = .error 1:=by
   unfold intR
   cases h1:nmOf x with
   | none=>rfl
   | some n=>
    simp only
    cases hw:wideD d with
    | false=>rfl
    | true=>exact absurd ⟨⟨n,h1⟩,hw⟩ hg
  rw [hV] at hG;(repeat (first | (refine iDr ?_; intro _ _) | refine V_run ?_ | refine PV_run ?_ | refine HV_run ?_ | refine iV_ld1 ?_ | refine iV_ldN ?_ | (refine iV_bx ?_; intro _ _ _ _) | (refine iV_al ?_; intro _ _ _ _) | (refine iV_mm ?_; intro _ _ _ _) | (refine iU_st ?_; intro _ _) | refine iHV_1 ?_ | refine iHV_N ?_ | refine iRI_1 ?_ | refine iRI_N ?_ | refine Cond_t ?_ | refine Cond_f ?_ | refine JB ?_ | (refine JC ?_; intro _ _ _ _) | (refine JGB ?_; intro _ _ _ _) | refine K1 ?_ | refine K0 ?_ | refine K2 ?_ | refine K3 ?_ | refine K4 ?_ | (refine CV_pu ?_; intro _ _ _ _) | (refine CV_puz ?_; intro _ _ _ _) | refine fRI_1 ?_ | refine fRI_N ?_ | refine gHV_lkI ?_ | refine gRI_lkI ?_ | refine gV_lkI ?_ | refine fV_ldN ?_ | refine fV_ld1 ?_ | refine fHV_ldN ?_ | refine fHV_ld1 ?_ | refine NilW_some ?_ | refine iCW_1 ?_ | refine iCW_N ?_ | refine Pk_b ?_));refine Cond_is ?_ ?_
  ·cases h1:nmOf x with
   | none=>rfl
   | some n=>
    have hw:wideD d = false:=by
     cases hw:wideD d with
     | false=>rfl
     | true=>exact absurd ⟨⟨n,h1⟩,hw⟩ hg
    unfold wideD at hw
    by_cases h2:d < 1
    ·rw [decide_eq_true h2]; rfl
    ·have h3:d > 40:=by
      apply Classical.byContradiction
      intro hc;rw [decide_eq_true (p:=1 <= d) (by omega),decide_eq_true (p:=d <= 40) (by omega)] at hw
      cases hw
     rw [decide_eq_false h2,decide_eq_true h3]; rfl
  ·exact ⟨_,_,‹_›,by rw [<- hG]; rfl⟩)⟩
end
section
open Go Q Go.RowKit Go.Shelf
end
section
open Go Q Go.RowKit Go.Shelf
theorem indexByte_fidx (l:List UInt8) (c:UInt8):Lib.indexByte l c = fidx (· == c) l:=by
 induction l with
 | nil=>rfl
 | cons b l ih=>
  unfold Lib.indexByte;rw [ih];unfold fidx;rw [List.findIdx?_cons]
  cases hb:b == c with
  | true=>simp
  | false=>
   cases h:l.findIdx? (· == c) with
   | none=>simp
   | some i=>
    simp
instance {s:ByteArray} {c:Int}:Pu 207 #[.string s,.int .u8 c] (.int .i64 (fidx (· == c.toNat.toUInt8) (bytes s))):=⟨fun z w=>Fn1.intro fun hS=>en207 (by
 unfold vc207;refine CV_x (Lib.run_indexByteString s c w) ?_;exact ⟨z,[],hS,by rw [indexByte_fidx]⟩)⟩
instance {s:ByteArray} {c:Int}:Pu 188 #[.string s,.int .u8 c] (.int .i64 (fidx (· == c.toNat.toUInt8) (bytes s))):=⟨fun z w=>Fn1.intro fun hS=>en188 (by
 unfold vc188;(repeat (first | (refine iDr ?_; intro _ _) | refine V_run ?_ | refine PV_run ?_ | refine HV_run ?_ | refine iV_ld1 ?_ | refine iV_ldN ?_ | (refine iV_bx ?_; intro _ _ _ _) | (refine iV_al ?_; intro _ _ _ _) | (refine iV_mm ?_; intro _ _ _ _) | (refine iU_st ?_; intro _ _) | refine iHV_1 ?_ | refine iHV_N ?_ | refine iRI_1 ?_ | refine iRI_N ?_ | refine Cond_t ?_ | refine Cond_f ?_ | refine JB ?_ | (refine JC ?_; intro _ _ _ _) | (refine JGB ?_; intro _ _ _ _) | (refine J1 ?_; intro _ _) | (refine J0 ?_; intro _ _) | (refine J2 ?_; intro _ _) | (refine J3 ?_; intro _ _) | (refine J4 ?_; intro _ _) | refine K1 ?_ | refine K0 ?_ | refine K2 ?_ | refine K3 ?_ | refine K4 ?_ | (refine CV_pu ?_; intro _ _ _ _) | (refine CV_puz ?_; intro _ _ _ _) | refine fRI_1 ?_ | refine fRI_N ?_ | refine gHV_lkI ?_ | refine gRI_lkI ?_ | refine gV_lkI ?_ | refine fV_ldN ?_ | refine fV_ld1 ?_ | refine fHV_ldN ?_ | refine fHV_ld1 ?_ | refine NilW_some ?_ | refine iCW_1 ?_ | refine iCW_N ?_ | refine Pk_b ?_));exact ⟨_,_,‹_›,rfl⟩)⟩
theorem u8_back (c:UInt8):((c.toNat:Int)).toNat.toUInt8 = c:=by simp
def memB (t:ByteArray) (c:UInt8):Bool:=(bytes t).any (· == c)
theorem idx_mem (t:ByteArray) (c:UInt8):decide (fidx (· == ((c.toNat:Int)).toNat.toUInt8) (bytes t) ≥ 0) = memB t c:=by
 rw [u8_back,fidx_ge]; rfl
abbrev rdB (br:Nat) (s:ByteArray) (k:Nat):Nat × Obj:=(br,.cells [.string s,.int .i64 (k:Nat)].toArray 114 (0,0))
def RdS (br:Nat) (s:ByteArray) (m:List UInt8) (B:Bl):Prop:=∃ k,k <= s.size/\(bytes s).drop k = m/\B = [rdB br s k]
theorem tw_take {p:UInt8->Bool} {m:List UInt8} {j:Nat} (h:∀ c ∈ m.take j,p c = true) (hn:∀ c r,m.drop j = c :: r->p c = false):m.takeWhile p = m.take j/\m.dropWhile p = m.drop j:=by
 induction m generalizing j with
 | nil=>simp
 | cons c m ih=>
  cases j with
  | zero=>
   have:=hn c m rfl;simp [this]
  | succ j=>
   have hc:=h c (by simp);obtain ⟨h1,h2⟩:=ih (j:=j) (fun d hd=>h d (by simp [hd])) (fun d r hd=>hn d r (by simpa using hd));simp [hc,h1,h2]
theorem span_of {z:Z} {w:World} {br:Nat} {s t:ByteArray} {m:List UInt8} {B:Bl} (hs:s.size <= 1000000) (hB:RdS br s m B) :
  Fn 149 #[.pointer (some ⟨br,0,none⟩),.string t] z B w fun _ B' r=>r = .string (strB (m.takeWhile (memB t)))/\RdS br s (m.dropWhile (memB t)) B':=Fn.intro fun hS=>en149 (by
 unfold vc149;obtain ⟨k,hk,hm,rfl⟩:=hB;have hsz:=size_bytes s;refine NilW_some ?_;refine V_run ?_;refine iV_ld1 ?_;refine LoopG0 (fun (j:Nat) w'=>k + j <= s.size/\(∀ c ∈ m.take j,memB t c = true)/\∃ z',Res w z [rdB br s k] w' z' [rdB br s (k + j)]) (fun j=>s.size - (k + j)) 0 ⟨hk,by simp,z,hS⟩ ?_;clear hS;rintro I M j w2 m2 ⟨hj,hall,z2,hS2⟩ back
 intro K0 hK0;have hdj:m.drop j = (bytes s).drop (k + j):=by rw [<- hm,List.drop_drop]
 have stop:∀ w' z',(∀ c r,m.drop j = c :: r->memB t c = false)->Res w z [rdB br s k] w' z' [rdB br s (k + j)]->K0 [.bool false] w':=by
  intro w' z' hno hS';refine hK0 _ _ fun _=>?_
  clear hK0 hS2;refine Cond_f ?_;obtain ⟨t1,t2⟩:=tw_take hall hno;haveI:InR (k:Int) (((k + j:Nat):Int) + 1):=⟨by omega,by omega⟩
  haveI:InR ((k + j:Nat):Int) ((s.size:Int) + 1):=⟨by omega,by omega⟩
  (repeat (first | (refine iDr ?_; intro _ _) | refine V_run ?_ | refine PV_run ?_ | refine HV_run ?_ | refine iV_ld1 ?_ | refine iV_ldN ?_ | (refine iV_bx ?_; intro _ _ _ _) | (refine iV_al ?_; intro _ _ _ _) | (refine iV_mm ?_; intro _ _ _ _) | (refine iU_st ?_; intro _ _) | refine iHV_1 ?_ | refine iHV_N ?_ | refine iRI_1 ?_ | refine iRI_N ?_ | refine Cond_t ?_ | refine Cond_f ?_ | refine JB ?_ | (refine JC ?_; intro _ _ _ _) | (refine JGB ?_; intro _ _ _ _) | refine K1 ?_ | refine K0 ?_ | refine K2 ?_ | refine K3 ?_ | refine K4 ?_ | (refine CV_pu ?_; intro _ _ _ _) | (refine CV_puz ?_; intro _ _ _ _) | refine fRI_1 ?_ | refine fRI_N ?_ | refine gHV_lkI ?_ | refine gRI_lkI ?_ | refine gV_lkI ?_ | refine fV_ldN ?_ | refine fV_ld1 ?_ | refine fHV_ldN ?_ | refine fHV_ld1 ?_ | refine NilW_some ?_ | refine iCW_1 ?_ | refine iCW_N ?_ | refine Pk_b ?_));refine ⟨_,_,‹_›,?_,k + j,hj,?_,rfl⟩
  ·refine congrArg Value.string (ba_inj ?_)
   rw [Int.toNat_natCast,Int.toNat_natCast,bytes_extract,t1,hm,show k + j - k = j by omega,bytes_strB]
  ·rw [t2,hdj]
 (repeat (first | (refine iDr ?_; intro _ _) | refine V_run ?_ | refine PV_run ?_ | refine HV_run ?_ | refine iV_ld1 ?_ | refine iV_ldN ?_ | (refine iV_bx ?_; intro _ _ _ _) | (refine iV_al ?_; intro _ _ _ _) | (refine iV_mm ?_; intro _ _ _ _) | (refine iU_st ?_; intro _ _) | refine iHV_1 ?_ | refine iHV_N ?_ | refine iRI_1 ?_ | refine iRI_N ?_ | refine Cond_t ?_ | refine Cond_f ?_ | refine JB ?_ | (refine JC ?_; intro _ _ _ _) | (refine JGB ?_; intro _ _ _ _) | refine K1 ?_ | refine K0 ?_ | refine K2 ?_ | refine K3 ?_ | refine K4 ?_ | (refine CV_pu ?_; intro _ _ _ _) | (refine CV_puz ?_; intro _ _ _ _) | refine fRI_1 ?_ | refine fRI_N ?_ | refine gHV_lkI ?_ | refine gRI_lkI ?_ | refine gV_lkI ?_ | refine fV_ldN ?_ | refine fV_ld1 ?_ | refine fHV_ldN ?_ | refine fHV_ld1 ?_ | refine NilW_some ?_ | refine iCW_1 ?_ | refine iCW_N ?_ | refine Pk_b ?_));rename_i hS3;clear hS2;refine Cond_d (fun h=>?_) (fun h=>?_)
 ·have hlt:k + j < (bytes s).length:=by omega
  have hg:(bytes s)[k + j]? = some (bytes s)[k + j]:=List.getElem?_eq_getElem hlt;have hd:m.drop j = (bytes s)[k + j] :: (bytes s).drop (k + j + 1):=by rw [hdj,List.drop_eq_getElem_cons hlt]
  generalize (bytes s)[k + j] = c at *;haveI:InStr s ((k + j:Nat):Int):=⟨by omega,by omega⟩
  (repeat (first | (refine iDr ?_; intro _ _) | refine V_run ?_ | refine PV_run ?_ | refine HV_run ?_ | refine iV_ld1 ?_ | refine iV_ldN ?_ | (refine iV_bx ?_; intro _ _ _ _) | (refine iV_al ?_; intro _ _ _ _) | (refine iV_mm ?_; intro _ _ _ _) | (refine iU_st ?_; intro _ _) | refine iHV_1 ?_ | refine iHV_N ?_ | refine iRI_1 ?_ | refine iRI_N ?_ | refine Cond_t ?_ | refine Cond_f ?_ | refine JB ?_ | (refine JC ?_; intro _ _ _ _) | (refine JGB ?_; intro _ _ _ _) | refine K1 ?_ | refine K0 ?_ | refine K2 ?_ | refine K3 ?_ | refine K4 ?_ | (refine CV_pu ?_; intro _ _ _ _) | (refine CV_puz ?_; intro _ _ _ _) | refine fRI_1 ?_ | refine fRI_N ?_ | refine gHV_lkI ?_ | refine gRI_lkI ?_ | refine gV_lkI ?_ | refine fV_ldN ?_ | refine fV_ld1 ?_ | refine fHV_ldN ?_ | refine fHV_ld1 ?_ | refine NilW_some ?_ | refine iCW_1 ?_ | refine iCW_N ?_ | refine Pk_b ?_));rename_i hS4;clear hS3;rw [bt_get hg,idx_mem]
  cases hc:memB t c with
  | false=>exact stop _ _ (fun d r hdr=>by rw [hd] at hdr; cases hdr; exact hc) hS4
  | true=>
   refine hK0 _ _ fun _=>?_
   clear hK0 stop;refine Cond_t ?_;haveI:InI (((k + j:Nat):Int) + 1):=⟨by omega⟩
   (repeat (first | (refine iDr ?_; intro _ _) | refine V_run ?_ | refine PV_run ?_ | refine HV_run ?_ | refine iV_ld1 ?_ | refine iV_ldN ?_ | (refine iV_bx ?_; intro _ _ _ _) | (refine iV_al ?_; intro _ _ _ _) | (refine iV_mm ?_; intro _ _ _ _) | (refine iU_st ?_; intro _ _) | refine iHV_1 ?_ | refine iHV_N ?_ | refine iRI_1 ?_ | refine iRI_N ?_ | refine Cond_t ?_ | refine Cond_f ?_ | refine JB ?_ | (refine JC ?_; intro _ _ _ _) | (refine JGB ?_; intro _ _ _ _) | refine K1 ?_ | refine K0 ?_ | refine K2 ?_ | refine K3 ?_ | refine K4 ?_ | (refine CV_pu ?_; intro _ _ _ _) | (refine CV_puz ?_; intro _ _ _ _) | refine fRI_1 ?_ | refine fRI_N ?_ | refine gHV_lkI ?_ | refine gRI_lkI ?_ | refine gV_lkI ?_ | refine fV_ldN ?_ | refine fV_ld1 ?_ | refine fHV_ldN ?_ | refine fHV_ld1 ?_ | refine NilW_some ?_ | refine iCW_1 ?_ | refine iCW_N ?_ | refine Pk_b ?_));rename_i hS5;refine back (j + 1) _ ⟨by omega,?_,_,hS5⟩ (by omega);intro d hdm;have hjl:j < m.length:=by
    apply Classical.byContradiction
    intro hcc;rw [List.drop_of_length_le (by omega)] at hd
    cases hd
   rw [List.take_succ_eq_append_getElem hjl] at hdm
   rcases List.mem_append.1 hdm with hdm | hdm
   ·exact hall d hdm
   ·rw [List.drop_eq_getElem_cons hjl] at hd
    have:=(List.cons.inj hd).1;rw [List.mem_singleton.1 hdm,this]; exact hc
 ·refine stop _ _ (fun c r hdr=>?_) hS3
  rw [hdj,List.drop_of_length_le (by omega)] at hdr
  cases hdr)
def oneS (t:ByteArray):List UInt8->ByteArray
 | []=>⟨#[]⟩
 | c :: _=>if memB t c = true then b1 c else ⟨#[]⟩
def oneD (t:ByteArray):List UInt8->List UInt8
 | []=>[]
 | c :: r=>if memB t c = true then r else c :: r
theorem one_of' {z:Z} {w:World} {br:Nat} {s t:ByteArray} {m:List UInt8} {B:Bl} (hs:s.size <= 1000000) (hB:RdS br s m B) :
  Fn 150 #[.pointer (some ⟨br,0,none⟩),.string t] z B w fun _ B' r=>r = .string (oneS t m)/\RdS br s (oneD t m) B':=Fn.intro fun hS=>en150 (by
 unfold vc150;obtain ⟨k,hk,hm,rfl⟩:=hB;have hsz:=size_bytes s;intro K0 hK0;have no:∀ w' z',(oneS t m = ⟨#[]⟩/\oneD t m = m)->Res w z [rdB br s k] w' z' [rdB br s k]->K0 [.bool false] w':=by
  intro w' z' ⟨h1,h2⟩ hS';refine hK0 _ _ fun _=>?_
  refine Cond_f ?_;exact ⟨_,_,hS',by rw [h1],k,hk,by rw [h2,hm],rfl⟩
 (repeat (first | (refine iDr ?_; intro _ _) | refine V_run ?_ | refine PV_run ?_ | refine HV_run ?_ | refine iV_ld1 ?_ | refine iV_ldN ?_ | (refine iV_bx ?_; intro _ _ _ _) | (refine iV_al ?_; intro _ _ _ _) | (refine iV_mm ?_; intro _ _ _ _) | (refine iU_st ?_; intro _ _) | refine iHV_1 ?_ | refine iHV_N ?_ | refine iRI_1 ?_ | refine iRI_N ?_ | refine Cond_t ?_ | refine Cond_f ?_ | refine JB ?_ | (refine JC ?_; intro _ _ _ _) | (refine JGB ?_; intro _ _ _ _) | refine K1 ?_ | refine K0 ?_ | refine K2 ?_ | refine K3 ?_ | refine K4 ?_ | (refine CV_pu ?_; intro _ _ _ _) | (refine CV_puz ?_; intro _ _ _ _) | refine fRI_1 ?_ | refine fRI_N ?_ | refine gHV_lkI ?_ | refine gRI_lkI ?_ | refine gV_lkI ?_ | refine fV_ldN ?_ | refine fV_ld1 ?_ | refine fHV_ldN ?_ | refine fHV_ld1 ?_ | refine NilW_some ?_ | refine iCW_1 ?_ | refine iCW_N ?_ | refine Pk_b ?_));rename_i hS3;clear hS;refine Cond_d (fun h=>?_) (fun h=>?_)
 ·have hlt:k < (bytes s).length:=by omega
  have hg:(bytes s)[k]? = some (bytes s)[k]:=List.getElem?_eq_getElem hlt;have hd:m = (bytes s)[k] :: (bytes s).drop (k + 1):=by rw [<- hm,List.drop_eq_getElem_cons hlt]
  have hone:=one_of hlt;generalize (bytes s)[k] = c at *;haveI:InStr s (k:Int):=⟨by omega,by omega⟩
  (repeat (first | (refine iDr ?_; intro _ _) | refine V_run ?_ | refine PV_run ?_ | refine HV_run ?_ | refine iV_ld1 ?_ | refine iV_ldN ?_ | (refine iV_bx ?_; intro _ _ _ _) | (refine iV_al ?_; intro _ _ _ _) | (refine iV_mm ?_; intro _ _ _ _) | (refine iU_st ?_; intro _ _) | refine iHV_1 ?_ | refine iHV_N ?_ | refine iRI_1 ?_ | refine iRI_N ?_ | refine Cond_t ?_ | refine Cond_f ?_ | refine JB ?_ | (refine JC ?_; intro _ _ _ _) | (refine JGB ?_; intro _ _ _ _) | refine K1 ?_ | refine K0 ?_ | refine K2 ?_ | refine K3 ?_ | refine K4 ?_ | (refine CV_pu ?_; intro _ _ _ _) | (refine CV_puz ?_; intro _ _ _ _) | refine fRI_1 ?_ | refine fRI_N ?_ | refine gHV_lkI ?_ | refine gRI_lkI ?_ | refine gV_lkI ?_ | refine fV_ldN ?_ | refine fV_ld1 ?_ | refine fHV_ldN ?_ | refine fHV_ld1 ?_ | refine NilW_some ?_ | refine iCW_1 ?_ | refine iCW_N ?_ | refine Pk_b ?_));rename_i hS4;clear hS3;rw [bt_get hg,idx_mem]
  cases hc:memB t c with
  | false=>exact no _ _ (by rw [hd]; simp [oneS,oneD,hc]) hS4
  | true=>
   refine hK0 _ _ fun _=>?_
   clear hK0 no;refine Cond_t ?_;haveI:InI ((k:Int) + 1):=⟨by omega⟩
   haveI:InI ((k:Int) + 1 - 1):=⟨by omega⟩
   haveI:InR ((k:Int) + 1 - 1) ((k:Int) + 1 + 1):=⟨by omega,by omega⟩
   haveI:InR ((k:Int) + 1) ((s.size:Int) + 1):=⟨by omega,by omega⟩
   (repeat (first | (refine iDr ?_; intro _ _) | refine V_run ?_ | refine PV_run ?_ | refine HV_run ?_ | refine iV_ld1 ?_ | refine iV_ldN ?_ | (refine iV_bx ?_; intro _ _ _ _) | (refine iV_al ?_; intro _ _ _ _) | (refine iV_mm ?_; intro _ _ _ _) | (refine iU_st ?_; intro _ _) | refine iHV_1 ?_ | refine iHV_N ?_ | refine iRI_1 ?_ | refine iRI_N ?_ | refine Cond_t ?_ | refine Cond_f ?_ | refine JB ?_ | (refine JC ?_; intro _ _ _ _) | (refine JGB ?_; intro _ _ _ _) | refine K1 ?_ | refine K0 ?_ | refine K2 ?_ | refine K3 ?_ | refine K4 ?_ | (refine CV_pu ?_; intro _ _ _ _) | (refine CV_puz ?_; intro _ _ _ _) | refine fRI_1 ?_ | refine fRI_N ?_ | refine gHV_lkI ?_ | refine gRI_lkI ?_ | refine gV_lkI ?_ | refine fV_ldN ?_ | refine fV_ld1 ?_ | refine fHV_ldN ?_ | refine fHV_ld1 ?_ | refine NilW_some ?_ | refine iCW_1 ?_ | refine iCW_N ?_ | refine Pk_b ?_));rename_i hS5;refine ⟨_,_,hS5,?_,k + 1,by omega,?_,rfl⟩
   ·rw [show ((k:Int) + 1 - 1).toNat = k by omega,show ((k:Int) + 1).toNat = k + 1 by omega,hone,hd]
    simp [oneS,hc]
   ·rw [hd]; simp [oneD,hc]
 ·refine no _ _ ?_ hS3
  have:m = []:=by rw [<- hm,List.drop_of_length_le (by omega)]
  rw [this]; exact ⟨rfl,rfl⟩)
end
section
open Go Q Go.RowKit Go.Shelf
def notIface:TypeDesc->Bool
 | .interface _=>false
 | _=>true
theorem mi_ok {t:TypeId} {v:Value} {w:World} (h:(Tryz.prog.underlying t).any notIface = true):(mi t v).run Tryz.prog w = .ok (.iface t v) w:=by
 obtain ⟨d,hd,hn⟩:∃ d,Tryz.prog.underlying t = some d/\notIface d = true:=by
  cases hu:Tryz.prog.underlying t with
  | none=>rw [hu] at h; cases h
  | some d=>rw [hu] at h; exact ⟨d,rfl,h⟩
 simp only [mi,Instr.makeInterface,Sem.run_bind,run_underlying hd,Result.andThen_ok]
 cases d <;> first | rfl | cases hn
instance:TyStruct 109 [] []:=⟨fun _ _=>by kernel_rfl⟩
instance:TyZero 109 []:=⟨(.agg #[]),rfl,fun _=>by kernel_rfl⟩
instance:TySize 109 0:=⟨fun _=>by kernel_rfl⟩
def badP:List PanicEntry:=[{ v:=.iface 109 (.agg #[]),recovered:=false }]
theorem must_of {z:Z} {w:World} {b:Bool}:FnP 94 #[.bool b] z [] w (fun z' B' r=>b = true/\r = .tuple #[]/\B' = []) (fun z' B' c=>b = false/\c = badP/\B' = []):=FnP.intro fun hS=>en94 (by
 unfold vc94;refine V_run ?_;refine Cond_n (fun h=>?_) (fun h=>?_)
 ·refine V_run ?_
  refine ⟨_,_,mi_ok (by kernel_rfl),?_⟩;exact PanW_intro ⟨_,_,hS,h,rfl,rfl⟩
 ·exact ⟨_,_,hS,h,rfl,rfl⟩)
section
variable {w0 w:World} {z0 z:Z} {B0 L F:Bl} {K:Value->World->Prop} {Pn:PnT} {br:Nat} {s t:ByteArray} {m:List UInt8}
theorem CVP_must {b:Bool} [hS:Res w0 z0 B0 w z L] (hk:b = true->∀ z' w',Le z z'->Res w0 z0 B0 w' z' L->K (.tuple #[]) w') (hp:b = false->∀ z' w',Le z z'->Res w0 z0 B0 w' z' L->Pn badP w') :
  CVP Pn (.func (.func 94) #[] #[]) #[.bool b] w K:=by
 refine CVP_fn (B:=[]) (F:=L) hS (must_of (b:=b)) (by simp) ?_ ?_
 ·rintro z' B' w' v' hz hS' ⟨hx,rfl,rfl⟩
  exact hk hx _ _ hz hS'
 ·rintro z' B' w' c hz hS' ⟨hx,rfl,rfl⟩
  exact hp hx _ _ hz hS'
theorem CVP_span {B:Bl} (hS:Res w0 z0 B0 w z (B ++ F)) (hs:s.size <= 1000000) (hB:RdS br s m B)
  (hk:∀ z' w' B',Le z z'->Res w0 z0 B0 w' z' (B' ++ F)->RdS br s (m.dropWhile (memB t)) B'->K (.string (strB (m.takeWhile (memB t)))) w') :
  CVP Pn (.func (.func 149) #[] #[]) #[.pointer (some ⟨br,0,none⟩),.string t] w K:=by
 refine CVP_may (CV_fn hS (span_of (t:=t) hs hB) (by simp) ?_);rintro z' B' w' v hz hS' ⟨rfl,hB'⟩
 exact hk _ _ _ hz hS' hB'
theorem CVP_one {B:Bl} (hS:Res w0 z0 B0 w z (B ++ F)) (hs:s.size <= 1000000) (hB:RdS br s m B)
  (hk:∀ z' w' B',Le z z'->Res w0 z0 B0 w' z' (B' ++ F)->RdS br s (oneD t m) B'->K (.string (oneS t m)) w') :
  CVP Pn (.func (.func 150) #[] #[]) #[.pointer (some ⟨br,0,none⟩),.string t] w K:=by
 refine CVP_may (CV_fn hS (one_of' (t:=t) hs hB) (by simp) ?_);rintro z' B' w' v hz hS' ⟨rfl,hB'⟩
 exact hk _ _ _ hz hS' hB'
end
theorem mem_1 (d:UInt8):memB (b1 d) = (· == d):=by
 funext c
 show (d == c || false) = (c == d)
 rw [Bool.or_false];exact Bool.beq_comm
theorem mem_10:memB tenB = dgB:=by
 funext c
 have h:∀ n:Fin 256,memB tenB (UInt8.ofNat n.val) = dgB (UInt8.ofNat n.val):=by decide +kernel
 have:=h ⟨c.toNat,c.toNat_lt⟩
 simpa using this
theorem mem_pm (c:UInt8):memB ⟨#[43,45]⟩ c = (decide (c = 43) || decide (c = 45)):=by
 have h:∀ n:Fin 256,memB ⟨#[43,45]⟩ (UInt8.ofNat n.val) = (decide (UInt8.ofNat n.val = 43) || decide (UInt8.ofNat n.val = 45)):=by decide +kernel
 have:=h ⟨c.toNat,c.toNat_lt⟩
 simpa using this
theorem mem_eE (c:UInt8):memB ⟨#[101,69]⟩ c = (decide (c = 69) || decide (c = 101)):=by
 have h:∀ n:Fin 256,memB ⟨#[101,69]⟩ (UInt8.ofNat n.val) = (decide (UInt8.ofNat n.val = 69) || decide (UInt8.ofNat n.val = 101)):=by decide +kernel
 have:=h ⟨c.toNat,c.toNat_lt⟩
 simpa using this
theorem one_pm (m:List UInt8):oneD ⟨#[43,45]⟩ m = unS m/\decide (oneS ⟨#[43,45]⟩ m = ⟨#[45]⟩) = decide (m.head? = some 45):=by
 cases m with
 | nil=>exact ⟨rfl,rfl⟩
 | cons c r=>
  have hc:=mem_pm c;unfold unS sgB
  show (if memB ⟨#[43,45]⟩ c = true then r else c :: r) = _/\decide ((if memB ⟨#[43,45]⟩ c = true then b1 c else ⟨#[]⟩) = _) = _
  rw [hc]
  by_cases h1:c = 43
  ·subst h1; exact ⟨rfl,rfl⟩
  ·by_cases h2:c = 45
   ·subst h2; exact ⟨rfl,rfl⟩
   ·simp only [h1,h2,decide_false,Bool.or_false,Bool.false_eq_true,if_false,List.head?_cons,Option.some.injEq,true_and]
    rfl
theorem one_dot (m:List UInt8):oneD ⟨#[46]⟩ m = (if m.head? = some 46 then m.drop 1 else m)/\decide (oneS ⟨#[46]⟩ m = ⟨#[]⟩) = !decide (m.head? = some 46):=by
 cases m with
 | nil=>exact ⟨rfl,rfl⟩
 | cons c r=>
  have hc:memB ⟨#[46]⟩ c = (c == 46):=congrFun (mem_1 46) c
  show (if memB ⟨#[46]⟩ c = true then r else c :: r) = _/\decide ((if memB ⟨#[46]⟩ c = true then b1 c else ⟨#[]⟩) = _) = _
  rw [hc]
  by_cases h1:c = 46
  ·subst h1; exact ⟨rfl,rfl⟩
  ·simp [h1]
theorem one_eE (m:List UInt8):oneD ⟨#[101,69]⟩ m = (if m.head? = some 69 \/ m.head? = some 101 then m.drop 1 else m)/\decide (oneS ⟨#[101,69]⟩ m = ⟨#[]⟩) = !decide (m.head? = some 69 \/ m.head? = some 101):=by
 cases m with
 | nil=>exact ⟨rfl,rfl⟩
 | cons c r=>
  have hc:=mem_eE c
  show (if memB ⟨#[101,69]⟩ c = true then r else c :: r) = _/\decide ((if memB ⟨#[101,69]⟩ c = true then b1 c else ⟨#[]⟩) = _) = _
  rw [hc]
  by_cases h1:c = 69
  ·subst h1; exact ⟨rfl,rfl⟩
  ·by_cases h2:c = 101
   ·subst h2; exact ⟨rfl,rfl⟩
   ·simp [h1,h2]
theorem dgs_dg (m:List UInt8):Dg (dgs m):=fun c hc=>dgB_iff.1 (tw_all hc)
theorem dgs_len (m:List UInt8):(dgs m).length <= m.length:=by
 unfold dgs;exact (List.takeWhile_prefix _).length_le
theorem bl_len (m:List UInt8):(bl m).length <= m.length:=(List.dropWhile_suffix _).length_le
theorem unS_len (m:List UInt8):(unS m).length <= m.length:=by
 unfold unS
 split
 ·rw [List.length_drop]; omega
 ·omega
def exp6 (v:Nat):Nat:=valL ((digL v).take (min (digL v).length 6))
theorem exp6_lt (v:Nat):exp6 v < 1000000:=by
 have:=val_lt _ ((digL_dg v).take (min (digL v).length 6));unfold exp6;refine Nat.lt_of_lt_of_le this ?_;have:(10:Nat) ^ 6 = 1000000:=by decide
 rw [<- this];refine tens_le ?_;rw [List.length_take]; omega
end
section
open Go Q Go.RowKit Go.Shelf
theorem rang_num' {n:Nm} (hc:n.C) (h1:-10000000 <= n.e/\n.e <= 10000000) (h2:lenD n.m <= 10000):rangW n.num = fitsN n:=by
 rw [rangW,num_zero hc,adjW_in (x:=n.num) (by show _ <= n.e/\n.e <= _; omega) (by show (digB n.m).size <= _; rw [size_digB]; omega)]
 show (_ || (decide (-999 <= n.e + ((digB n.m).size:Int) - 1) && decide (n.e + ((digB n.m).size:Int) - 1 <= 999))) = _
 rw [size_digB]; rfl
def readT (s:Bool) (w p:List UInt8) (d:List UInt8):Option Nm:=
 if w ++ p = [] then none else
 match expR d with
 | none=>none
 | some (x,r)=>if bl r = [] then fitO (mkN s (valL (w ++ p)) (x - p.length)) else none
theorem readL_T (l:List UInt8):readL l = readT (decide ((bl l).head? = some 45)) (dgs (bl (unS (bl l)))) (if (rst (bl (unS (bl l)))).head? = some 46 then dgs ((rst (bl (unS (bl l)))).drop 1) else []) (if (rst (bl (unS (bl l)))).head? = some 46 then rst ((rst (bl (unS (bl l)))).drop 1) else rst (bl (unS (bl l)))):=rfl
theorem size_strB (l:List UInt8):(strB l).size = l.length:=by rw [size_bytes,bytes_strB]
theorem str_app (a b:List UInt8):strB a ++ strB b = strB (a ++ b):=ba_inj (by rw [bytes_add])
theorem str_e {l:List UInt8}:strB l = ⟨#[]⟩ ↔ l = []:=⟨fun h=>by have:=congrArg bytes h; rwa [bytes_strB] at this,fun h=>by rw [h]⟩
theorem mk_c {s:Bool} {v:Nat} {e:Int}:(mkN s v e).C:=by
 by_cases h:v = 0
 ·subst h; exact C_nz
 ·rw [mk_s h]; exact fun e=>absurd e h
theorem rdNumber_of {z:Z} {w:World} {br:Nat} {s:ByteArray} (hs:s.size <= 1000) :
  FnP 95 #[.pointer (some ⟨br,0,none⟩)] z [rdB br s 0] w (fun _ B' r=>∃ n,readL (bytes s) = some n/\r = n.num.v/\B' = []) (fun _ B' c=>readL (bytes s) = none/\c = badP/\B' = []):=FnP.intro fun hS=>en95 (by
 unfold vc95;have hsz:=size_bytes s;have hs':s.size <= 1000000:=by omega
 refine iV_al ?_;intro b2 w1 hb2 hS1;have hS2:Res w z [rdB br s 0] w1 z ([rdB br s 0] ++ [(b2,.cells [.bool false,.string ⟨#[]⟩,.int .i64 0].toArray 23 (0,0))]):=hS1.keep [.at br,.at b2];clear hS hS1;refine CVP_span hS2 hs' ⟨0,by omega,rfl,rfl⟩ ?_;intro z3 w3 B3 hz3 hS3 hB3;clear hS2;rw [mem_1] at hB3;refine CVP_one hS3 hs' hB3 ?_;intro z4 w4 B4 hz4 hS4 hB4;clear hS3 hB3;rw [(one_pm _).1] at hB4;refine V_run ?_;rw [(one_pm _).2];refine CVP_span hS4 hs' hB4 ?_;intro z5 w5 B5 hz5 hS5 hB5;clear hS4 hB4;rw [mem_1] at hB5;refine CVP_span (t:=tenB) hS5 hs' hB5 ?_;intro z6 w6 B6 hz6 hS6 hB6;clear hS5 hB5;rw [mem_10] at hB6 ⊢;have hread:=readL_T (bytes s);have hlen:(bl (unS (bl (bytes s)))).length <= (bytes s).length:=Nat.le_trans (bl_len _) (Nat.le_trans (unS_len _) (bl_len _));have hlb:(rst (bl (unS (bl (bytes s))))).length + (dgs (bl (unS (bl (bytes s))))).length = (bl (unS (bl (bytes s)))).length:=by
  have:=congrArg List.length (List.takeWhile_append_dropWhile (p:=dgB) (l:=bl (unS (bl (bytes s)))));rw [List.length_append] at this;unfold rst dgs; omega
 change RdS br s (rst (bl (unS (bl (bytes s))))) B6 at hB6
 intro K0 hK0;have main:∀ w' z' B' p d,Res w z [rdB br s 0] w' z' (B' ++ [(b2,.cells [.bool false,.string ⟨#[]⟩,.int .i64 0].toArray 23 (0,0))])->RdS br s d B'->Dg p ->
   p.length + d.length <= (rst (bl (unS (bl (bytes s))))).length ->
   readL (bytes s) = readT (decide ((bl (bytes s)).head? = some 45)) (dgs (bl (unS (bl (bytes s))))) p d->K0 [.string (strB p)] w':=by
  intro w' z' B' p d hS' hB' hp hpl hrd;refine hK0 _ _ fun _=>?_
  clear hK0 hS6 hB6;rw [show ((bytes s).drop 0).dropWhile (fun x=>x == 32) = bl (bytes s) from rfl];rw [show ((bl (bytes s) |> unS).dropWhile (fun x=>x == 32)).takeWhile dgB = dgs (bl (unS (bl (bytes s)))) from rfl];have hdw:Dg (dgs (bl (unS (bl (bytes s))))):=dgs_dg _;have e6:(strB p).size = p.length:=size_strB p;generalize dgs (bl (unS (bl (bytes s)))) = dw at *;generalize decide ((bl (bytes s)).head? = some 45) = sg at *;rw [hrd];clear hrd hread;haveI:Cat (strB dw) (strB p):=⟨by rw [size_strB,size_strB]; omega⟩
  refine V_run ?_;rw [str_app];refine V_run ?_;refine CVP_must ?_ ?_
  rotate_left
  ·intro hx z' w' hz' hS''
   refine ⟨_,[],hS''.keep [],?_,rfl,rfl⟩;unfold readT;rw [if_pos (str_e.1 (by simpa using hx))]
  intro hx z7 w7 hz7 hS7;clear hS';have hne:dw ++ p ≠ []:=fun e=>by rw [str_e.2 e] at hx; simp at hx
  clear hx;intro K1 hK1;have main2:∀ w' z' B' (x x6:Int) r,Res w z [rdB br s 0] w' z' (B' ++ [(b2,.cells [.bool false,.string ⟨#[]⟩,.int .i64 0].toArray 23 (0,0))])->RdS br s r B' ->
    expR d = some (x,r)->(-999999 <= x6/\x6 <= 999999)->(x = x6 \/ (9999 <= x/\9999 <= x6) \/ (x <= -9999/\x6 <= -9999))->K1 [.int .i64 x6] w':=by
   intro w' z' B' x x6 r hS' hB' hxr hx6 hrel;refine hK1 _ _ fun _=>?_
   clear hK1 hS7;refine CVP_span hS' hs' hB' ?_;intro z8 w8 B8 hz8 hS8 hB8;clear hS' hB';rw [mem_1] at hB8
   change RdS br s (bl r) B8 at hB8
   obtain ⟨k,hk,hkd,rfl⟩:=hB8;have hS8:Res w z [rdB br s 0] w8 z8 [rdB br s k,(b2,.cells [.bool false,.string ⟨#[]⟩,.int .i64 0].toArray 23 (0,0))]:=hS8;(repeat (first | (refine iDr ?_; intro _ _) | refine V_run ?_ | refine PV_run ?_ | refine HV_run ?_ | refine iV_ld1 ?_ | refine iV_ldN ?_ | (refine iV_bx ?_; intro _ _ _ _) | (refine iV_al ?_; intro _ _ _ _) | (refine iV_mm ?_; intro _ _ _ _) | (refine iU_st ?_; intro _ _) | refine iHV_1 ?_ | refine iHV_N ?_ | refine iRI_1 ?_ | refine iRI_N ?_ | refine Cond_t ?_ | refine Cond_f ?_ | refine JB ?_ | (refine JC ?_; intro _ _ _ _) | (refine JGB ?_; intro _ _ _ _) | refine K1 ?_ | refine K0 ?_ | refine K2 ?_ | refine K3 ?_ | refine K4 ?_ | (refine CV_pu ?_; intro _ _ _ _) | (refine CV_puz ?_; intro _ _ _ _) | refine fRI_1 ?_ | refine fRI_N ?_ | refine gHV_lkI ?_ | refine gRI_lkI ?_ | refine gV_lkI ?_ | refine fV_ldN ?_ | refine fV_ld1 ?_ | refine fHV_ldN ?_ | refine fHV_ld1 ?_ | refine NilW_some ?_ | refine iCW_1 ?_ | refine iCW_N ?_ | refine Pk_b ?_));rename_i hS8';clear hS8;refine CVP_must ?_ ?_
   rotate_left
   ·intro hx z' w' hz' hS''
    refine ⟨_,[],hS''.keep [],?_,rfl,rfl⟩;unfold readT;rw [if_neg hne,hxr]
    show (if bl r = [] then _ else none) = none
    rw [if_neg];intro e;rw [<- hkd,List.drop_eq_nil_iff] at e;have:=of_decide_eq_false hx;omega
   intro hx z9 w9 hz9 hS9;clear hS8';have hbl:bl r = []:=by
    have:=of_decide_eq_true hx;rw [<- hkd,List.drop_eq_nil_iff];omega
   have hrd:readT sg dw p d = fitO (mkN sg (valL (dw ++ p)) (x6 - p.length)):=by
    unfold readT;rw [if_neg hne,hxr]
    show (if bl r = [] then _ else none) = _
    rw [if_pos hbl];have hv:=val_lt (dw ++ p) (hdw.app hp);refine fit_cap (Nat.lt_of_lt_of_le hv (tens_le (by rw [List.length_append]; omega))) (by omega) hrel
   rw [hrd];clear hrd hx;have hv:=val_lt (dw ++ p) (hdw.app hp);haveI:InI (x6 - ((strB p).size:Int)):=⟨by omega⟩
   (repeat (first | (refine iDr ?_; intro _ _) | refine V_run ?_ | refine PV_run ?_ | refine HV_run ?_ | refine iV_ld1 ?_ | refine iV_ldN ?_ | (refine iV_bx ?_; intro _ _ _ _) | (refine iV_al ?_; intro _ _ _ _) | (refine iV_mm ?_; intro _ _ _ _) | (refine iU_st ?_; intro _ _) | refine iHV_1 ?_ | refine iHV_N ?_ | refine iRI_1 ?_ | refine iRI_N ?_ | refine Cond_t ?_ | refine Cond_f ?_ | refine JB ?_ | (refine JC ?_; intro _ _ _ _) | (refine JGB ?_; intro _ _ _ _) | refine K1 ?_ | refine K0 ?_ | refine K2 ?_ | refine K3 ?_ | refine K4 ?_ | (refine CV_pu ?_; intro _ _ _ _) | (refine CV_puz ?_; intro _ _ _ _) | refine fRI_1 ?_ | refine fRI_N ?_ | refine gHV_lkI ?_ | refine gRI_lkI ?_ | refine gV_lkI ?_ | refine fV_ldN ?_ | refine fV_ld1 ?_ | refine fHV_ldN ?_ | refine fHV_ld1 ?_ | refine NilW_some ?_ | refine iCW_1 ?_ | refine iCW_N ?_ | refine Pk_b ?_));rw [str_app];refine CVP_may (CV_1 (number_of (by rw [bytes_strB]; exact hdw.app hp)) ?_);rintro z10 w10 v10 hz10 hS10 rfl
   clear hS9;rw [bytes_strB,e6];refine iV_al ?_;intro b9 w11 hb9 hS11;clear hS10;generalize hN:mkN sg (valL (dw ++ p)) (x6 - p.length) = N;have hl1:lenD N.m <= 10000:=by
    rw [<- hN]
    by_cases h0:valL (dw ++ p) = 0
    ·rw [h0]; show lenD 0 <= _; rw [lenD_small (by omega)]; omega
    ·rw [mk_s h0]
     have:=lenD_lt (k:=1001) (by omega) (Nat.lt_of_lt_of_le hv (tens_le (by rw [List.length_append]; omega)))
     show lenD (valL _) <= _
     omega
   have he1:-10000000 <= N.e/\N.e <= 10000000:=by
    rw [<- hN]
    by_cases h0:valL (dw ++ p) = 0
    ·rw [h0]; show -10000000 <= (0:Int)/\(0:Int) <= _; omega
    ·rw [mk_s h0]
     show -10000000 <= x6 - _/\x6 - _ <= _
     omega
   have hrg:=rang_num' (n:=N) (by rw [<- hN]; exact mk_c) he1 hl1;(repeat (first | (refine iDr ?_; intro _ _) | refine V_run ?_ | refine PV_run ?_ | refine HV_run ?_ | refine iV_ld1 ?_ | refine iV_ldN ?_ | (refine iV_bx ?_; intro _ _ _ _) | (refine iV_al ?_; intro _ _ _ _) | (refine iV_mm ?_; intro _ _ _ _) | (refine iU_st ?_; intro _ _) | refine iHV_1 ?_ | refine iHV_N ?_ | refine iRI_1 ?_ | refine iRI_N ?_ | refine Cond_t ?_ | refine Cond_f ?_ | refine JB ?_ | (refine JC ?_; intro _ _ _ _) | (refine JGB ?_; intro _ _ _ _) | refine K1 ?_ | refine K0 ?_ | refine K2 ?_ | refine K3 ?_ | refine K4 ?_ | (refine CV_pu ?_; intro _ _ _ _) | (refine CV_puz ?_; intro _ _ _ _) | refine fRI_1 ?_ | refine fRI_N ?_ | refine gHV_lkI ?_ | refine gRI_lkI ?_ | refine gV_lkI ?_ | refine fV_ldN ?_ | refine fV_ld1 ?_ | refine fHV_ldN ?_ | refine fHV_ld1 ?_ | refine NilW_some ?_ | refine iCW_1 ?_ | refine iCW_N ?_ | refine Pk_b ?_));refine CVP_pu (g:=(inferInstance:Pu 146 #[N.num.v] (.bool (rangW N.num)))) ?_;intro z12 w12 hz12 hS12;rw [hrg];refine CVP_must ?_ ?_
   rotate_left
   ·intro hx z' w' hz' hS''
    refine ⟨_,[],hS''.keep [],?_,rfl,rfl⟩;unfold fitO;rw [hx]; rfl
   intro hx z13 w13 hz13 hS13;clear hS12;(repeat (first | (refine iDr ?_; intro _ _) | refine V_run ?_ | refine PV_run ?_ | refine HV_run ?_ | refine iV_ld1 ?_ | refine iV_ldN ?_ | (refine iV_bx ?_; intro _ _ _ _) | (refine iV_al ?_; intro _ _ _ _) | (refine iV_mm ?_; intro _ _ _ _) | (refine iU_st ?_; intro _ _) | refine iHV_1 ?_ | refine iHV_N ?_ | refine iRI_1 ?_ | refine iRI_N ?_ | refine Cond_t ?_ | refine Cond_f ?_ | refine JB ?_ | (refine JC ?_; intro _ _ _ _) | (refine JGB ?_; intro _ _ _ _) | refine K1 ?_ | refine K0 ?_ | refine K2 ?_ | refine K3 ?_ | refine K4 ?_ | (refine CV_pu ?_; intro _ _ _ _) | (refine CV_puz ?_; intro _ _ _ _) | refine fRI_1 ?_ | refine fRI_N ?_ | refine gHV_lkI ?_ | refine gRI_lkI ?_ | refine gV_lkI ?_ | refine fV_ldN ?_ | refine fV_ld1 ?_ | refine fHV_ldN ?_ | refine fHV_ld1 ?_ | refine NilW_some ?_ | refine iCW_1 ?_ | refine iCW_N ?_ | refine Pk_b ?_));refine ⟨_,[],Res.keep [] ‹_›,N,?_,rfl,rfl⟩;unfold fitO;rw [if_pos hx]
  clear hK1;refine CVP_one hS7 hs' hB' ?_;intro z8 w8 B8 hz8 hS8 hB8;clear hS7 hB';rw [(one_eE _).1] at hB8;refine V_run ?_;rw [(one_eE _).2,Bool.not_not];refine Cond_d (fun h=>?_) (fun h=>?_)
  rotate_left
  ·rw [if_neg h] at hB8
   refine main2 _ _ _ 0 0 _ hS8 hB8 ?_ (by omega) (.inl rfl);unfold expR;rw [if_neg h]
  rw [if_pos h] at hB8;refine CVP_one hS8 hs' hB8 ?_;intro z9 w9 B9 hz9 hS9 hB9;clear hS8 hB8;rw [(one_pm _).1] at hB9;refine V_run ?_;rw [(one_pm _).2];refine CVP_span (t:=tenB) hS9 hs' hB9 ?_;intro z10 w10 B10 hz10 hS10 hB10;clear hS9 hB9;rw [mem_10] at hB10 ⊢;have hxp:expR d = if dgs (unS (d.drop 1)) = [] then none else some ((if (d.drop 1).head? = some 45 then -(valL (dgs (unS (d.drop 1))):Int) else (valL (dgs (unS (d.drop 1))):Int)),rst (unS (d.drop 1))):=by unfold expR; rw [if_pos h]
  change RdS br s (rst (unS (d.drop 1))) B10 at hB10
  rw [show (unS (d.drop 1)).takeWhile dgB = dgs (unS (d.drop 1)) from rfl];have hdd:Dg (dgs (unS (d.drop 1))):=dgs_dg _;generalize dgs (unS (d.drop 1)) = dd at *;generalize rst (unS (d.drop 1)) = r at *;refine V_run ?_;refine CVP_must ?_ ?_
  rotate_left
  ·intro hx z' w' hz' hS''
   refine ⟨_,[],hS''.keep [],?_,rfl,rfl⟩;unfold readT;rw [if_neg hne,hxp,if_pos (str_e.1 (by simpa using hx))]
  intro hx z11 w11 hz11 hS11;clear hS10;have hne2:dd ≠ []:=fun e=>by rw [str_e.2 e] at hx; simp at hx
  rw [if_neg hne2] at hxp;refine CVP_pu ?_;intro z12 w12 hz12 hS12;clear hS11;rw [stripB_val (by rw [bytes_strB]; exact hdd),bytes_strB];have h6:=exp6_lt (valL dd);have hf:=first6 (valL dd)
  change exp6 (valL dd) = valL dd \/ (9999 <= exp6 (valL dd)/\_) at hf
  have hlp:=lenD_pos (valL dd);generalize valL dd = v at *;have e7:(digB v).size = lenD v:=size_digB v;haveI:InR (min ((digB v).size:Int) 6) (((digB v).size:Int) + 1):=⟨by omega,by omega⟩
  have e8:bytes ((digB v).extract 0 (min ((digB v).size:Int) 6).toNat) = (digL v).take (min (digL v).length 6):=by
   rw [bytes_to,bytes_digB,e7]
   congr 1
   show _ = min (lenD v) 6
   omega
  haveI:Few ((digB v).extract 0 (min ((digB v).size:Int) 6).toNat):=by
   refine ⟨?_,?_,?_⟩
   ·rw [e8]; exact (digL_dg v).take _
   ·rw [e8]
    intro e;have:=congrArg List.length e;rw [List.length_take,List.length_nil] at this;have:(digL v).length = lenD v:=rfl;omega
   ·rw [size_bytes,e8,List.length_take]; omega
  (repeat (first | (refine iDr ?_; intro _ _) | refine V_run ?_ | refine PV_run ?_ | refine HV_run ?_ | refine iV_ld1 ?_ | refine iV_ldN ?_ | (refine iV_bx ?_; intro _ _ _ _) | (refine iV_al ?_; intro _ _ _ _) | (refine iV_mm ?_; intro _ _ _ _) | (refine iU_st ?_; intro _ _) | refine iHV_1 ?_ | refine iHV_N ?_ | refine iRI_1 ?_ | refine iRI_N ?_ | refine Cond_t ?_ | refine Cond_f ?_ | refine JB ?_ | (refine JC ?_; intro _ _ _ _) | (refine JGB ?_; intro _ _ _ _) | refine K1 ?_ | refine K0 ?_ | refine K2 ?_ | refine K3 ?_ | refine K4 ?_ | (refine CV_pu ?_; intro _ _ _ _) | (refine CV_puz ?_; intro _ _ _ _) | refine fRI_1 ?_ | refine fRI_N ?_ | refine gHV_lkI ?_ | refine gRI_lkI ?_ | refine gV_lkI ?_ | refine fV_ldN ?_ | refine fV_ld1 ?_ | refine fHV_ldN ?_ | refine fHV_ld1 ?_ | refine NilW_some ?_ | refine iCW_1 ?_ | refine iCW_N ?_ | refine Pk_b ?_));refine CVP_pu ?_;intro z13 w13 hz13 hS13;clear hS12;rw [e8]
  change V (ex (.tuple #[.int .i64 (exp6 v:Nat),_]) 0) _ _
  generalize exp6 v = x6 at *;(repeat (first | (refine iDr ?_; intro _ _) | refine V_run ?_ | refine PV_run ?_ | refine HV_run ?_ | refine iV_ld1 ?_ | refine iV_ldN ?_ | (refine iV_bx ?_; intro _ _ _ _) | (refine iV_al ?_; intro _ _ _ _) | (refine iV_mm ?_; intro _ _ _ _) | (refine iU_st ?_; intro _ _) | refine iHV_1 ?_ | refine iHV_N ?_ | refine iRI_1 ?_ | refine iRI_N ?_ | refine Cond_t ?_ | refine Cond_f ?_ | refine JB ?_ | (refine JC ?_; intro _ _ _ _) | (refine JGB ?_; intro _ _ _ _) | refine K1 ?_ | refine K0 ?_ | refine K2 ?_ | refine K3 ?_ | refine K4 ?_ | (refine CV_pu ?_; intro _ _ _ _) | (refine CV_puz ?_; intro _ _ _ _) | refine fRI_1 ?_ | refine fRI_N ?_ | refine gHV_lkI ?_ | refine gRI_lkI ?_ | refine gV_lkI ?_ | refine fV_ldN ?_ | refine fV_ld1 ?_ | refine fHV_ldN ?_ | refine fHV_ld1 ?_ | refine NilW_some ?_ | refine iCW_1 ?_ | refine iCW_N ?_ | refine Pk_b ?_));refine Cond_d (fun hg=>?_) (fun hg=>?_)
  ·rw [if_pos hg] at hxp
   (repeat (first | (refine iDr ?_; intro _ _) | refine V_run ?_ | refine PV_run ?_ | refine HV_run ?_ | refine iV_ld1 ?_ | refine iV_ldN ?_ | (refine iV_bx ?_; intro _ _ _ _) | (refine iV_al ?_; intro _ _ _ _) | (refine iV_mm ?_; intro _ _ _ _) | (refine iU_st ?_; intro _ _) | refine iHV_1 ?_ | refine iHV_N ?_ | refine iRI_1 ?_ | refine iRI_N ?_ | refine Cond_t ?_ | refine Cond_f ?_ | refine JB ?_ | (refine JC ?_; intro _ _ _ _) | (refine JGB ?_; intro _ _ _ _) | refine K1 ?_ | refine K0 ?_ | refine K2 ?_ | refine K3 ?_ | refine K4 ?_ | (refine CV_pu ?_; intro _ _ _ _) | (refine CV_puz ?_; intro _ _ _ _) | refine fRI_1 ?_ | refine fRI_N ?_ | refine gHV_lkI ?_ | refine gRI_lkI ?_ | refine gV_lkI ?_ | refine fV_ldN ?_ | refine fV_ld1 ?_ | refine fHV_ldN ?_ | refine fHV_ld1 ?_ | refine NilW_some ?_ | refine iCW_1 ?_ | refine iCW_N ?_ | refine Pk_b ?_));rw [show IntKind.i64.wrap (0 - (x6:Int)) = -(x6:Int) by show wrp _ = _; rw [wrp_in (n:=0 - (x6:Int)) (by omega)]; omega];exact main2 _ _ _ _ _ _ hS13 hB10 hxp (by omega) (by omega)
  ·rw [if_neg hg] at hxp
   exact main2 _ _ _ _ _ _ hS13 hB10 hxp (by omega) (by omega)
 clear hK0;refine CVP_one hS6 hs' hB6 ?_;intro z7 w7 B7 hz7 hS7 hB7;clear hS6 hB6;rw [(one_dot _).1] at hB7;refine V_run ?_;rw [(one_dot _).2,Bool.not_not];refine Cond_d (fun h=>?_) (fun h=>?_)
 ·rw [if_pos h] at hB7 hread
  refine CVP_span (t:=tenB) hS7 hs' hB7 ?_;intro z8 w8 B8 hz8 hS8 hB8;rw [mem_10] at hB8 ⊢;rw [if_pos h] at hread;refine main _ _ _ _ _ hS8 hB8 (dgs_dg _) ?_ hread;have:=congrArg List.length (List.takeWhile_append_dropWhile (p:=dgB) (l:=(rst (bl (unS (bl (bytes s))))).drop 1));rw [List.length_append,List.length_drop] at this;unfold rst dgs at *;omega
 ·rw [if_neg h] at hB7 hread
  rw [if_neg h] at hread;exact main _ _ _ [] _ hS7 hB7 Dg.nil (by rw [List.length_nil]; omega) hread)
end
section
open Go Q Go.RowKit Go.Shelf
def readV (o:Option Nm):Value:=
 match o with
 | some n=>.tuple #[n.num.v,.int .i64 0]
 | none=>.tuple #[(⟨false,⟨#[]⟩,0⟩:NumM).v,.int .i64 2]
theorem rdClose {w0 w:World} {z0 z:Z} {B0 F:Bl} {K:World->Prop} {b2 b3:Nat} {x1 x2 x3:Value} {i:Int}
  (hS:Res w0 z0 B0 w z ((b2,.cells [x1,x2,x3].toArray 23 (0,0)) :: (b3,.cells [.int .i64 i].toArray 26 (0,0)) :: F))
  (hk:∀ w',Res w0 z0 B0 w' z ((b2,.cells [.bool false,.string ⟨#[]⟩,.int .i64 0].toArray 23 (0,0)) :: (b3,.cells [.int .i64 2].toArray 26 (0,0)) :: F)->K w') :
  ClW (.func (.func 93) #[] #[.pointer (some ⟨b2,0,none⟩),.pointer (some ⟨b3,0,none⟩)]) (.panicking badP) w K:=en93 (by
 unfold vc93;refine ⟨_,_,neq_if (TyIf.of (by kernel_rfl)) _,?_⟩;refine Cond_t ?_;intro K0 hK0;refine ⟨_,_,ta_own (by kernel_rfl) _,?_⟩;(repeat (first | (refine iDr ?_; intro _ _) | refine V_run ?_ | refine PV_run ?_ | refine HV_run ?_ | refine iV_ld1 ?_ | refine iV_ldN ?_ | (refine iV_mm ?_; intro _ _ _ _) | (refine iU_st ?_; intro _ _) | refine iHV_1 ?_ | refine iHV_N ?_ | refine iRI_1 ?_ | refine iRI_N ?_ | refine Cond_t ?_ | refine Cond_f ?_ | refine JB ?_ | (refine JC ?_; intro _ _ _ _) | (refine JGB ?_; intro _ _ _ _) | (refine J1 ?_; intro _ _) | (refine J0 ?_; intro _ _) | (refine J2 ?_; intro _ _) | (refine J3 ?_; intro _ _) | (refine J4 ?_; intro _ _) | refine K1 ?_ | refine K0 ?_ | refine K2 ?_ | refine K3 ?_ | refine K4 ?_ | (refine CV_pu ?_; intro _ _ _ _) | (refine CV_puz ?_; intro _ _ _ _) | refine fRI_1 ?_ | refine fRI_N ?_ | refine gHV_lkI ?_ | refine gRI_lkI ?_ | refine gV_lkI ?_ | refine fV_ldN ?_ | refine fV_ld1 ?_ | refine fHV_ldN ?_ | refine fHV_ld1 ?_ | refine NilW_some ?_ | refine iCW_1 ?_ | refine iCW_N ?_ | refine Pk_b ?_));refine iV_al ?_;intro b5 w5 hb5 hS5;clear hS;refine iU_st ?_;intro w6 hS6;clear hS5;refine V_run ?_;refine Cond_f ?_;refine hK0 _ fun _=>?_
 clear hK0;(repeat (first | (refine iDr ?_; intro _ _) | refine V_run ?_ | refine PV_run ?_ | refine HV_run ?_ | refine iV_ld1 ?_ | refine iV_ldN ?_ | (refine iV_bx ?_; intro _ _ _ _) | (refine iV_al ?_; intro _ _ _ _) | (refine iV_mm ?_; intro _ _ _ _) | (refine iU_st ?_; intro _ _) | refine iHV_1 ?_ | refine iHV_N ?_ | refine iRI_1 ?_ | refine iRI_N ?_ | refine Cond_t ?_ | refine Cond_f ?_ | refine JB ?_ | (refine JC ?_; intro _ _ _ _) | (refine JGB ?_; intro _ _ _ _) | refine K1 ?_ | refine K0 ?_ | refine K2 ?_ | refine K3 ?_ | refine K4 ?_ | (refine CV_pu ?_; intro _ _ _ _) | (refine CV_puz ?_; intro _ _ _ _) | refine fRI_1 ?_ | refine fRI_N ?_ | refine gHV_lkI ?_ | refine gRI_lkI ?_ | refine gV_lkI ?_ | refine fV_ldN ?_ | refine fV_ld1 ?_ | refine fHV_ldN ?_ | refine fHV_ld1 ?_ | refine NilW_some ?_ | refine iCW_1 ?_ | refine iCW_N ?_ | refine Pk_b ?_));rename_i hS7;exact hk _ (hS7.keep [.at b2,.at b3,.bl F] |> fun h=>by simpa using h))
theorem rdCalm {w:World} {K:World->Prop} {t0 t1:Value} (hk:K w):ClW (.func (.func 93) #[] #[t0,t1]) .returning w K:=er93 (by
 unfold vc93;refine ⟨_,_,neq_no (TyIf.of (by kernel_rfl)) _,?_⟩;exact Cond_f hk)
instance {s:ByteArray}:Pu 31 #[.string s] (readV (readO (bytes s))):=⟨fun z w=>Fn1.intro fun hS=>en31 (by
 unfold vc31;have hsz:=size_bytes s;generalize hG:readO (bytes s) = G;refine iV_al ?_;intro b2 w1 hb2 hS1;refine iV_al ?_;intro b3 w2 hb3 hS2;clear hS hS1;generalize hPP:(fun (c:List PanicEntry) (w':World)=>ClW (.func (.func 93) #[] #[.pointer (some ⟨b2,0,none⟩),.pointer (some ⟨b3,0,none⟩)]) (.panicking c) w' fun w'=>CW 23 (.pointer (some ⟨b2,0,none⟩)) w' fun t1002=>CW 26 (.pointer (some ⟨b3,0,none⟩)) w' fun t1003=>(fun v w'=>∃ z' L',Res w z [] w' z' L'/\v = readV G) (.tuple #[t1002,t1003]) w') = PP;have torn:∀ z' w' F,Res w z [] w' z' ((b2,.cells [.bool false,.string ⟨#[]⟩,.int .i64 0].toArray 23 (0,0)) :: (b3,.cells [.int .i64 0].toArray 26 (0,0)) :: F)->G = none->PP badP w':=by
  intro z' w' F hS' hn;rw [<- hPP];refine rdClose hS' ?_;intro w'' hS'';clear hS';(repeat (first | (refine iDr ?_; intro _ _) | refine V_run ?_ | refine PV_run ?_ | refine HV_run ?_ | refine iV_ld1 ?_ | refine iV_ldN ?_ | (refine iV_bx ?_; intro _ _ _ _) | (refine iV_al ?_; intro _ _ _ _) | (refine iV_mm ?_; intro _ _ _ _) | (refine iU_st ?_; intro _ _) | refine iHV_1 ?_ | refine iHV_N ?_ | refine iRI_1 ?_ | refine iRI_N ?_ | refine Cond_t ?_ | refine Cond_f ?_ | refine JB ?_ | (refine JC ?_; intro _ _ _ _) | (refine JGB ?_; intro _ _ _ _) | refine K1 ?_ | refine K0 ?_ | refine K2 ?_ | refine K3 ?_ | refine K4 ?_ | (refine CV_pu ?_; intro _ _ _ _) | (refine CV_puz ?_; intro _ _ _ _) | refine fRI_1 ?_ | refine fRI_N ?_ | refine gHV_lkI ?_ | refine gRI_lkI ?_ | refine gV_lkI ?_ | refine fV_ldN ?_ | refine fV_ld1 ?_ | refine fHV_ldN ?_ | refine fHV_ld1 ?_ | refine NilW_some ?_ | refine iCW_1 ?_ | refine iCW_N ?_ | refine Pk_b ?_));exact ⟨_,_,‹_›,by rw [hn]; rfl⟩
 have hPP2:=hPP;clear hPP2;(repeat (first | (refine iDr ?_; intro _ _) | refine V_run ?_ | refine PV_run ?_ | refine HV_run ?_ | refine iV_ld1 ?_ | refine iV_ldN ?_ | (refine iV_bx ?_; intro _ _ _ _) | (refine iV_al ?_; intro _ _ _ _) | (refine iV_mm ?_; intro _ _ _ _) | (refine iU_st ?_; intro _ _) | refine iHV_1 ?_ | refine iHV_N ?_ | refine iRI_1 ?_ | refine iRI_N ?_ | refine Cond_t ?_ | refine Cond_f ?_ | refine JB ?_ | (refine JC ?_; intro _ _ _ _) | (refine JGB ?_; intro _ _ _ _) | refine K1 ?_ | refine K0 ?_ | refine K2 ?_ | refine K3 ?_ | refine K4 ?_ | (refine CV_pu ?_; intro _ _ _ _) | (refine CV_puz ?_; intro _ _ _ _) | refine fRI_1 ?_ | refine fRI_N ?_ | refine gHV_lkI ?_ | refine gRI_lkI ?_ | refine gV_lkI ?_ | refine fV_ldN ?_ | refine fV_ld1 ?_ | refine fHV_ldN ?_ | refine fHV_ld1 ?_ | refine NilW_some ?_ | refine iCW_1 ?_ | refine iCW_N ?_ | refine Pk_b ?_));refine CVP_must ?_ ?_
 rotate_left
 ·intro hx z' w' hz' hS'
  refine torn _ _ [] (hS'.keep [.at b2,.at b3]) ?_;rw [<- hG];unfold readO;rw [if_pos (by have:=of_decide_eq_false hx; omega)]
 intro hx z3 w3 hz3 hS3;clear hS2;have hx:=of_decide_eq_true hx;have hrd:readO (bytes s) = readL (bytes s):=by unfold readO; rw [if_neg (by omega)]
 rw [hrd] at hG;refine V_run ?_;refine iV_bx ?_;intro br w4 hbr hS4;clear hS3;have hS5:Res w z [] w4 z3 ([rdB br s 0] ++ [(b3,.cells [.int .i64 0].toArray 26 (0,0)),(b2,.cells [.bool false,.string ⟨#[]⟩,.int .i64 0].toArray 23 (0,0))]):=hS4;clear hS4;refine CVP_fn hS5 (rdNumber_of (by omega)) (by simp) ?_ ?_
 rotate_left
 ·rintro z' B' w' c hz' hS' ⟨h1,rfl,rfl⟩
  exact torn _ _ [] (hS'.keep [.at b2,.at b3]) (by rw [<- hG,h1])
 rintro z6 B6 w6 v6 hz6 hS6 ⟨n,h1,rfl,rfl⟩
 clear hS5;have hS6:Res w z [] w6 z6 [(b3,.cells [.int .i64 0].toArray 26 (0,0)),(b2,.cells [.bool false,.string ⟨#[]⟩,.int .i64 0].toArray 23 (0,0))]:=hS6;(repeat (first | (refine iDr ?_; intro _ _) | refine V_run ?_ | refine PV_run ?_ | refine HV_run ?_ | refine iV_ld1 ?_ | refine iV_ldN ?_ | (refine iV_bx ?_; intro _ _ _ _) | (refine iV_al ?_; intro _ _ _ _) | (refine iV_mm ?_; intro _ _ _ _) | (refine iU_st ?_; intro _ _) | refine iHV_1 ?_ | refine iHV_N ?_ | refine iRI_1 ?_ | refine iRI_N ?_ | refine Cond_t ?_ | refine Cond_f ?_ | refine JB ?_ | (refine JC ?_; intro _ _ _ _) | (refine JGB ?_; intro _ _ _ _) | refine K1 ?_ | refine K0 ?_ | refine K2 ?_ | refine K3 ?_ | refine K4 ?_ | (refine CV_pu ?_; intro _ _ _ _) | (refine CV_puz ?_; intro _ _ _ _) | refine fRI_1 ?_ | refine fRI_N ?_ | refine gHV_lkI ?_ | refine gRI_lkI ?_ | refine gV_lkI ?_ | refine fV_ldN ?_ | refine fV_ld1 ?_ | refine fHV_ldN ?_ | refine fHV_ld1 ?_ | refine NilW_some ?_ | refine iCW_1 ?_ | refine iCW_N ?_ | refine Pk_b ?_));refine rdCalm ?_;(repeat (first | (refine iDr ?_; intro _ _) | refine V_run ?_ | refine PV_run ?_ | refine HV_run ?_ | refine iV_ld1 ?_ | refine iV_ldN ?_ | (refine iV_bx ?_; intro _ _ _ _) | (refine iV_al ?_; intro _ _ _ _) | (refine iV_mm ?_; intro _ _ _ _) | (refine iU_st ?_; intro _ _) | refine iHV_1 ?_ | refine iHV_N ?_ | refine iRI_1 ?_ | refine iRI_N ?_ | refine Cond_t ?_ | refine Cond_f ?_ | refine JB ?_ | (refine JC ?_; intro _ _ _ _) | (refine JGB ?_; intro _ _ _ _) | refine K1 ?_ | refine K0 ?_ | refine K2 ?_ | refine K3 ?_ | refine K4 ?_ | (refine CV_pu ?_; intro _ _ _ _) | (refine CV_puz ?_; intro _ _ _ _) | refine fRI_1 ?_ | refine fRI_N ?_ | refine gHV_lkI ?_ | refine gRI_lkI ?_ | refine gV_lkI ?_ | refine fV_ldN ?_ | refine fV_ld1 ?_ | refine fHV_ldN ?_ | refine fHV_ld1 ?_ | refine NilW_some ?_ | refine iCW_1 ?_ | refine iCW_N ?_ | refine Pk_b ?_));exact ⟨_,_,‹_›,by rw [<- hG,h1]; rfl⟩)⟩
end
section
open Go Q Go.RowKit Go.Shelf
end
section
open Go Q Go.RowKit Go.Shelf
def rdR:Option Nm->ResN
 | some n=>.ok n
 | none=>.error 2
end
section
open Go Q Go.RowKit
abbrev s64:ByteArray:=⟨#[32,32,32,32,32,32,32,32,32,32,32,32,32,32,32,32,32,32,32,32,32,32,32,32,32,32,32,32,32,32,32,32,32,32,32,32,32,32,32,32,32,32,32,32,32,32,32,32,32,32,32,32,32,32,32,32,32,32,32,32,32,32,32,32,32,32,32,32,32,32,32,32,32,32,32,32,32,32,32,32,32,32,32,32,32,32,32,32,32,32,32,32,32,32,32,32,32,32,32,32,32,32,32,32,32,32,32,32,32,32,32,32,32,32,32,32,32,32,32,32,32,32,32,32,32,32,32,32]⟩
theorem s64_eq:bytes s64 = blanks 128:=by decide +kernel
def blanksB (n:Int):ByteArray:=strB (blanks n.toNat)
theorem pre_s64:(bif decide ((s64.size:Int) ≥ (b1 32).size) then decide (s64.extract 0 (b1 32).size = b1 32) else false) = true:=by decide +kernel
instance {n:Int} [h:Cnt n]:Pu 142 #[.string (b1 32),.int .i64 n] (.string (blanksB n)):=⟨fun z w=>Fn1.intro fun hS=>en142 (by
 unfold vc142;have h0:=h.h0;have h1:=h.h1;generalize hRR:(fun (v:Value) (w':World)=>∃ z' L',Res w z [] w' z' L'/\v = .string (blanksB n)) = RR;have hR:∀ z' w' L' r,Res w z [] w' z' L'->r = .string (blanksB n)->RR r w':=fun z' w' L' r k e=>by rw [<- hRR]; exact ⟨_,_,k,e⟩
 clear hRR;refine V_run ?_;refine Cond_d (fun h2=>?_) (fun h2=>?_)
 ·have h2:n = 0:=by simpa using h2
  subst h2;exact hR _ _ _ _ hS rfl
 have h2:n ≠ 0:=by simpa using h2
 refine V_run ?_;refine Cond_d (fun h3=>?_) (fun h3=>?_)
 ·have h3:n = 1:=by simpa using h3
  subst h3;exact hR _ _ _ _ hS rfl
 have h3:n ≠ 1:=by simpa using h3
 intro K0 hK0;refine V_run ?_;refine Cond_d (fun h4=>?_) (fun h4=>?_)
 ·omega
 refine hK0 _ fun _=>?_
 clear hK0;refine V_run ?_;refine V_run ?_;refine V_run ?_;rw [u_wrap (a:=n) (by omega) (by omega),u_wrap (a:=1) (by omega) (by omega)];refine CV_pu ?_;intro z1 w1 hz1 hS1;clear hS;refine V_run ?_;refine V_run ?_;intro K1 hK1;refine V_run ?_;intro K2 hK2;refine Cond_d (fun h5=>?_) (fun h5=>?_)
 ·omega
 refine V_run ?_;refine hK2 _ _ fun _=>?_
 refine Cond_d (fun h5=>?_) (fun h5=>?_)
 ·omega
 refine hK1 _ fun _=>?_
 clear hK1 hK2 K0 K1 K2;refine V_run ?_;rw [wrap_in (show inI n by unfold inI; omega)];refine V_run ?_;refine V_run ?_;refine Cond_f ?_;intro K3 hK3;refine V_run ?_;rw [bt_b1];intro K4 hK4;refine V_run ?_;refine Cz (by decide) ?_;refine hK4 _ _ fun _=>?_
 clear hK4;refine Cz (by decide) ?_;have hB:∀ w' z',Res w z [] w' z' []->K3 [] w':=by
  intro w' z' hS';refine hK3 _ fun _=>?_
  clear hK3;intro K0 hK0;have hC:∀ (m:Int) w' z',1 <= m->m <= 1000000->Res w z [] w' z' []->K0 [.int .i64 m] w':=by
   intro m w' z' hm1 hm2 hS';refine hK0 _ _ fun _=>?_
   clear hK0 hS1;refine iV_al ?_;intro bb w2 hbb hS2;clear hS';refine CV_fn (B:=[(bb,buO none (.slice none 0 0))]) (F:=[]) (by simpa using hS2) (growB (.inl rfl) h0 (by omega)) (by simp) ?_;rintro z3 B3 w3 v3 hz3 hS3 ⟨hB3,rfl⟩
   clear hS2;refine CV_fn (B:=B3) (F:=[]) (by simpa using hS3) (writeString1 (s:=b1 32) hB3 (by show 0 + 1 <= room; simp only [room]; omega) (by decide)) (by simp) ?_;rintro z4 B4 w4 v4 hz4 hS4 ⟨hB4,rfl⟩
   clear hS3;have hB4:BuF bb B4 (Lib.byteCells (blanks 1)):=hB4;refine LoopG0 (fun (k:Nat) w'=>1 <= k/\k <= n.toNat/\∃ B' z',BuF bb B' (Lib.byteCells (blanks k))/\Res w z [] w' z' B') (fun k=>n.toNat - k) 1 ⟨by omega,by omega,_,_,hB4,by simpa using hS4⟩ ?_;clear hB4 hS4;rintro I M k w5 m5 ⟨hk1,hk2,B5,z5,hB5,hS5⟩ back
   have hlen:(Lib.byteCells (blanks k)).length = k:=by rw [Lib.byteCells_length]; simp
   refine CV_fn (B:=B5) (F:=[]) (by simpa using hS5) (builderLenF hB5) (by simp) ?_;rintro z6 B6 w6 v6 hz6 hS6 ⟨rfl,rfl⟩
   rw [List.append_nil] at hS6;rw [hlen];clear hS5;refine V_run ?_;refine Cond_d (fun h6=>?_) (fun h6=>?_)
   ·refine CV_fn (B:=B6) (F:=[]) (by simpa using hS6) (builderLenF hB5) (by simp) ?_
    rintro z7 B7 w7 v7 hz7 hS7 ⟨rfl,rfl⟩
    clear hS6;rw [List.append_nil] at hS7;rw [hlen];haveI:InI (n - (k:Int)):=⟨by omega⟩
    refine V_run ?_;refine CV_fn (B:=B7) (F:=[]) (by simpa using hS7) (builderLenF hB5) (by simp) ?_;rintro z8 B8 w8 v8 hz8 hS8 ⟨rfl,rfl⟩
    clear hS7;rw [List.append_nil] at hS8;rw [hlen];refine V_run ?_;obtain ⟨c,hc⟩:∃ c:Nat,min (min (n - (k:Int)) (k:Int)) m = (c:Int):=⟨(min (min (n - (k:Int)) (k:Int)) m).toNat,by omega⟩
    have hc1:1 <= c:=by omega
    have hck:c <= k:=by omega
    have hcn:k + c <= n.toNat:=by omega
    rw [hc];refine CV_fn (B:=B8) (F:=[]) (by simpa using hS8) (builderStringF (l:=blanks k) hB5 (by intro e; have:=congrArg List.length e; rw [List.length_replicate] at this; simp at this; omega) (by rw [List.length_replicate]; simp only [room]; omega)) (by simp) ?_;rintro z9 B9 w9 v9 hz9 hS9 ⟨hB9,rfl⟩
    clear hS8;rw [List.append_nil] at hS9;haveI:InR (c:Int) (((⟨(blanks k).toArray⟩:ByteArray).size:Int) + 1):=⟨by omega,by rw [size_bytes,bytes_mk,List.length_replicate]; omega⟩
    refine V_run ?_;have hx:bytes ((⟨(blanks k).toArray⟩:ByteArray).extract 0 (c:Int).toNat) = blanks c:=by
     rw [bytes_to,bytes_mk,Int.toNat_natCast,List.take_replicate,Nat.min_eq_left hck]
    refine CV_fn (B:=B9) (F:=[]) (by simpa using hS9) (writeStringF hB9 (by rw [hlen,size_bytes,hx,List.length_replicate]; simp only [room]; omega)) (by simp) ?_;rintro z10 B10 w10 v10 hz10 hS10 ⟨hB10,rfl⟩
    clear hS9;rw [strCells_bytes,hx,<- Lib.byteCells_append,List.replicate_append_replicate] at hB10;exact back (k + c) _ ⟨by omega,hcn,B10,z10,hB10,by simpa using hS10⟩ (by omega)
   ·refine CV_fn (B:=B6) (F:=[]) (by simpa using hS6) (builderStringF (l:=blanks k) hB5 (by intro e; have:=congrArg List.length e; rw [List.length_replicate] at this; simp at this; omega) (by rw [List.length_replicate]; simp only [room]; omega)) (by simp) ?_
    rintro z9 B9 w9 v9 hz9 hS9 ⟨hB9,rfl⟩
    refine hR _ _ _ _ hS9 ?_;rw [blanksB,show n.toNat = k by omega]
  refine V_run ?_;refine Cond_d (fun h5=>?_) (fun h5=>?_)
  ·refine V_run ?_
   haveI:InR (0:Int) 1:=⟨by omega,by omega⟩
   refine V_run ?_;refine V_run ?_;rw [show IntKind.i64.wrap ((8192:Int).tdiv 1) = 8192 from by decide];haveI:InI ((8192:Int) * 1):=⟨by decide⟩
   refine V_run ?_;refine V_run ?_;refine Cond_f ?_;exact hC 8192 _ _ (by omega) (by omega) hS'
  ·exact hC n _ _ (by omega) (by omega) hS'
 clear hK3;refine V_run ?_;intro K5 hK5;refine Cond_d (fun h5=>?_) (fun h5=>?_)
 ·refine CV_pu ?_
  intro z5 w5 hz5 hS5;refine hK5 _ _ fun _=>?_
  refine Cz pre_s64 ?_;haveI:InR n ((s64.size:Int) + 1):=⟨by omega,by show n < ((128:Nat):Int) + 1; omega⟩
  refine V_run ?_;refine hR _ _ _ _ hS5 ?_;refine congrArg Value.string (ba_inj ?_);rw [blanksB,bytes_mk];refine (bytes_to _ _).trans ?_;rw [s64_eq,blanks,blanks,List.take_replicate]
  congr 1
  omega
 refine hK5 _ _ fun _=>Cond_f ?_
 clear hK5;refine V_run ?_;intro K6 hK6;refine pk (pre_no (d:=45) rfl (by decide)) fun w6 z6 hz6 hS6=>hK6 _ _ fun _=>Cond_f ?_
 clear hS1 hK6;refine V_run ?_;intro K7 hK7;refine pk (pre_no (d:=48) rfl (by decide)) fun w7 z7 hz7 hS7=>hK7 _ _ fun _=>Cond_f ?_
 clear hS6 hK7;refine V_run ?_;intro K8 hK8;refine pk (pre_no (d:=61) rfl (by decide)) fun w9 z9 hz9 hS9=>hK8 _ _ fun _=>Cond_f ?_
 clear hS7 hK8;refine V_run ?_;intro K9 hK9;refine pk (pre_no (d:=9) rfl (by decide)) fun w10 z10 hz10 hS10=>hK9 _ _ fun _=>Cond_f ?_
 exact hB _ _ hS10)⟩
end
section
open Go Q Go.RowKit Go.Shelf
instance {b:Bool}:Pu 117 #[.bool b] (.string (strB (truthL b))):=⟨fun z w=>Fn1.intro fun hS=>en117 (by
 unfold vc117;refine Cond_b (fun h=>?_) (fun h=>?_)
 ·exact ⟨_,_,hS,by rw [h]; rfl⟩
 ·exact ⟨_,_,hS,by rw [h]; rfl⟩)⟩
def codeI (e:Int):Int:=if e = 0 then 0 else codeE e
instance {e:Int}:Pu 119 #[.int .i64 e] (.int .i64 (codeI e)):=⟨fun z w=>Fn1.intro fun hS=>en119 (by
 unfold vc119;refine V_run ?_;refine Cond_d (fun h=>?_) (fun h=>?_)
 ·exact ⟨_,_,hS,by rw [codeI,if_pos h]⟩
 ·refine V_run ?_
  refine Cond_d (fun h2=>?_) (fun h2=>?_)
  ·exact ⟨_,_,hS,by rw [codeI,if_neg h,codeE,if_pos h2]⟩
  ·exact ⟨_,_,hS,by rw [codeI,if_neg h,codeE,if_neg h2]⟩)⟩
instance:Lt7 32:=⟨by decide⟩
class Ltx (s:ByteArray):Prop where
 h:s.size <= 500000
theorem trim_bl (s:ByteArray):lefB 32 (rigB 32 s) = strB (stripBl (bytes s)):=by
 unfold lefB rigB rigL stripBl;rw [bytes_strB]
theorem stripBl_len (l:List UInt8):(stripBl l).length <= l.length:=by
 unfold stripBl;refine Nat.le_trans (List.dropWhile_suffix _).length_le ?_;rw [List.length_reverse];refine Nat.le_trans (List.dropWhile_suffix _).length_le ?_;rw [List.length_reverse];exact Nat.le_refl _
instance {a b:ByteArray} [ha:Ltx a] [hb:Ltx b]:Pu 118 #[.string a,.string b] (.int .i64 (strC (bytes a) (bytes b))):=⟨fun z w=>Fn1.intro fun hS=>en118 (by
 unfold vc118;have h1:=ha.h;have h2:=hb.h;have e1:=size_bytes a;have e2:=size_bytes b;haveI:Sm a:=⟨by simp only [big]; omega⟩
 haveI:Sm b:=⟨by simp only [big]; omega⟩
 refine CV_pu ?_;intro z1 w1 hz1 hS1;refine CV_pu ?_;intro z2 w2 hz2 hS2;clear hS hS1;rw [trim_bl,trim_bl];unfold strC;have l1:=stripBl_len (bytes a);have l2:=stripBl_len (bytes b);generalize stripBl (bytes a) = p at *;generalize stripBl (bytes b) = q at *;have s1:=size_strB p;have s2:=size_strB q;obtain ⟨n,hn⟩:∃ n:Nat,n = max p.length q.length:=⟨_,rfl⟩
 rw [<- hn];have hmax:max ((strB p).size:Int) ((strB q).size:Int) = (n:Int):=by omega
 refine V_run ?_;refine V_run ?_;refine V_run ?_;rw [hmax];haveI:InI ((n:Int) - ((strB p).size:Int)):=⟨by omega⟩
 haveI:InI ((n:Int) - ((strB q).size:Int)):=⟨by omega⟩
 haveI:Cnt ((n:Int) - ((strB p).size:Int)):=⟨by omega,by omega⟩
 haveI:Cnt ((n:Int) - ((strB q).size:Int)):=⟨by omega,by omega⟩
 have b1s:(blanksB ((n:Int) - ((strB p).size:Int))).size = n - p.length:=by rw [blanksB,size_strB,List.length_replicate]; omega
 have b2s:(blanksB ((n:Int) - ((strB q).size:Int))).size = n - q.length:=by rw [blanksB,size_strB,List.length_replicate]; omega
 (repeat (first | (refine iDr ?_; intro _ _) | refine V_run ?_ | refine PV_run ?_ | refine HV_run ?_ | refine iV_ld1 ?_ | refine iV_ldN ?_ | (refine iV_bx ?_; intro _ _ _ _) | (refine iV_al ?_; intro _ _ _ _) | (refine iV_mm ?_; intro _ _ _ _) | (refine iU_st ?_; intro _ _) | refine iHV_1 ?_ | refine iHV_N ?_ | refine iRI_1 ?_ | refine iRI_N ?_ | refine Cond_t ?_ | refine Cond_f ?_ | refine JB ?_ | (refine JC ?_; intro _ _ _ _) | (refine JGB ?_; intro _ _ _ _) | refine K1 ?_ | refine K0 ?_ | refine K2 ?_ | refine K3 ?_ | refine K4 ?_ | (refine CV_pu ?_; intro _ _ _ _) | (refine CV_puz ?_; intro _ _ _ _) | refine fRI_1 ?_ | refine fRI_N ?_ | refine gHV_lkI ?_ | refine gRI_lkI ?_ | refine gV_lkI ?_ | refine fV_ldN ?_ | refine fV_ld1 ?_ | refine fHV_ldN ?_ | refine fHV_ld1 ?_ | refine NilW_some ?_ | refine iCW_1 ?_ | refine iCW_N ?_ | refine Pk_b ?_));rename_i hS3;clear hS2;refine V_cat [strB p,blanksB ((n:Int) - ((strB p).size:Int))] rfl rfl (by omega) (by simp only [sizes,List.map_cons,List.map_nil,List.sum_cons,List.sum_nil]; omega) ?_;intro z4 w4 hz4 hS4;clear hS3;(repeat (first | (refine iDr ?_; intro _ _) | refine V_run ?_ | refine PV_run ?_ | refine HV_run ?_ | refine iV_ld1 ?_ | refine iV_ldN ?_ | (refine iV_bx ?_; intro _ _ _ _) | (refine iV_al ?_; intro _ _ _ _) | (refine iV_mm ?_; intro _ _ _ _) | (refine iU_st ?_; intro _ _) | refine iHV_1 ?_ | refine iHV_N ?_ | refine iRI_1 ?_ | refine iRI_N ?_ | refine Cond_t ?_ | refine Cond_f ?_ | refine JB ?_ | (refine JC ?_; intro _ _ _ _) | (refine JGB ?_; intro _ _ _ _) | refine K1 ?_ | refine K0 ?_ | refine K2 ?_ | refine K3 ?_ | refine K4 ?_ | (refine CV_pu ?_; intro _ _ _ _) | (refine CV_puz ?_; intro _ _ _ _) | refine fRI_1 ?_ | refine fRI_N ?_ | refine gHV_lkI ?_ | refine gRI_lkI ?_ | refine gV_lkI ?_ | refine fV_ldN ?_ | refine fV_ld1 ?_ | refine fHV_ldN ?_ | refine fHV_ld1 ?_ | refine NilW_some ?_ | refine iCW_1 ?_ | refine iCW_N ?_ | refine Pk_b ?_));rename_i hS5;clear hS4;refine V_cat [strB q,blanksB ((n:Int) - ((strB q).size:Int))] rfl rfl (by omega) (by simp only [sizes,List.map_cons,List.map_nil,List.sum_cons,List.sum_nil]; omega) ?_;intro z6 w6 hz6 hS6;clear hS5;(repeat (first | (refine iDr ?_; intro _ _) | refine V_run ?_ | refine PV_run ?_ | refine HV_run ?_ | refine iV_ld1 ?_ | refine iV_ldN ?_ | (refine iV_bx ?_; intro _ _ _ _) | (refine iV_al ?_; intro _ _ _ _) | (refine iV_mm ?_; intro _ _ _ _) | (refine iU_st ?_; intro _ _) | refine iHV_1 ?_ | refine iHV_N ?_ | refine iRI_1 ?_ | refine iRI_N ?_ | refine Cond_t ?_ | refine Cond_f ?_ | refine JB ?_ | (refine JC ?_; intro _ _ _ _) | (refine JGB ?_; intro _ _ _ _) | refine K1 ?_ | refine K0 ?_ | refine K2 ?_ | refine K3 ?_ | refine K4 ?_ | (refine CV_pu ?_; intro _ _ _ _) | (refine CV_puz ?_; intro _ _ _ _) | refine fRI_1 ?_ | refine fRI_N ?_ | refine gHV_lkI ?_ | refine gRI_lkI ?_ | refine gV_lkI ?_ | refine fV_ldN ?_ | refine fV_ld1 ?_ | refine fHV_ldN ?_ | refine fHV_ld1 ?_ | refine NilW_some ?_ | refine iCW_1 ?_ | refine iCW_N ?_ | refine Pk_b ?_))
 refine ⟨_,_,‹_›,?_⟩;rw [joinB2,joinB2,bytes_add,bytes_add,bytes_strB,bytes_strB,blanksB,blanksB,bytes_strB,bytes_strB,show ((n:Int) - ((strB p).size:Int)).toNat = n - p.length by omega,show ((n:Int) - ((strB q).size:Int)).toNat = n - q.length by omega]
 rfl)⟩
end
section
open Go Q Go.RowKit Go.Shelf
theorem fin_okN {n m:Nm} {d:Nat} (hd:0 < d) (hd2:d <= 1000) (hc:n.C) (h:finN n d = .ok m):OkN m:=by
 unfold finN at h
 split at h
 ·rename_i hf
  cases h
  exact ⟨C_round hd hc,Nat.le_trans (round_len hd) hd2,hf⟩
 ·cases h
theorem quo_okN {a b n:Nm} {d q:Nat} (hd:0 < d) (hd2:d <= 1000) (h:quoN a b d q = .ok n):OkN n:=by
 unfold quoN at h
 split at h
 ·rename_i m hm
  cases h
  exact bare_ok (fin_okN hd hd2 (C_mk _ _ _) hm)
 ·cases h
theorem whole_C {a b p q:Nm} {d:Nat} (h:wholeN a b d = .ok (p,q)):p.C/\q.C:=by
 unfold wholeN at h;(repeat' split at h) <;> first | (cases h; exact ⟨C_nz,C_mk _ _ _⟩) | (cases h; exact ⟨C_mk _ _ _,C_mk _ _ _⟩) | cases h
theorem bind_ok {α β:Type} {x:Except Int α} {f:α->Except Int β} {y:β} (h:bindE x f = .ok y):∃ a,x = .ok a/\f a = .ok y:=by
 unfold bindE at h
 split at h
 ·cases h
 ·exact ⟨_,rfl,h⟩
theorem opd_2 {x y:NumM} {d:Int} {p:Nm × Nm} (h:opd2 x y d = .ok p):∃ k:Nat,d = (k:Int)/\0 < k/\k <= 40/\OkN p.1/\OkN p.2:=by
 obtain ⟨a,b⟩:=p;obtain ⟨k,h1,h2,h3,h4,h5,_⟩:=opd2_k h;exact ⟨k,h1,h2,h3,h4,h5⟩
theorem add_ok {x y:NumM} {d:Int} {n:Nm} (h:addR x y d = .ok n):OkN n:=by
 obtain ⟨p,h1,h2⟩:=bind_ok h;obtain ⟨k,rfl,h3,h4,h5,h6⟩:=opd_2 h1;exact fin_okN h3 (by omega) (C_plus h5.c h6.c) h2
theorem sub_ok {x y:NumM} {d:Int} {n:Nm} (h:subR x y d = .ok n):OkN n:=by
 obtain ⟨p,h1,h2⟩:=bind_ok h;obtain ⟨k,rfl,h3,h4,h5,h6⟩:=opd_2 h1;exact fin_okN h3 (by omega) (C_plus h5.c (C_neg _)) h2
theorem mul_ok {x y:NumM} {d:Int} {n:Nm} (h:mulR x y d = .ok n):OkN n:=by
 obtain ⟨p,h1,h2⟩:=bind_ok h;obtain ⟨k,rfl,h3,h4,h5,h6⟩:=opd_2 h1;exact fin_okN h3 (by omega) (C_mul _ _) h2
theorem div_ok {x y:NumM} {d:Int} {r:Nm × Nat × Nat} (h:divR x y d = .ok r):OkN r.1:=by
 obtain ⟨p,h1,h2⟩:=bind_ok h;obtain ⟨k,rfl,h3,h4,h5,h6⟩:=opd_2 h1
 split at h2
 ·cases h2
 ·obtain ⟨n,g1,g2⟩:=bind_ok h2
  cases g2
  exact quo_okN h3 (by omega) g1
theorem wholeR_ok {x y:NumM} {d:Int} {r:Nm × Nm} (h:wholeR x y d = .ok r):r.1.C/\r.2.C/\∃ k:Nat,d = (k:Int)/\0 < k/\k <= 40:=by
 obtain ⟨p,h1,h2⟩:=bind_ok h;obtain ⟨k,rfl,h3,h4,h5,h6⟩:=opd_2 h1
 split at h2
 ·cases h2
 ·obtain ⟨a,b⟩:=r
  have:=whole_C h2;exact ⟨this.1,this.2,k,rfl,h3,h4⟩
theorem idiv_ok {x y:NumM} {d:Int} {n:Nm} (h:idivR x y d = .ok n):OkN n:=by
 obtain ⟨p,h1,h2⟩:=bind_ok h;obtain ⟨g1,g2,k,rfl,h3,h4⟩:=wholeR_ok h1;exact fin_okN h3 (by omega) g1 h2
theorem rem_ok {x y:NumM} {d:Int} {n:Nm} (h:remR x y d = .ok n):OkN n:=by
 obtain ⟨p,h1,h2⟩:=bind_ok h;obtain ⟨g1,g2,k,rfl,h3,h4⟩:=wholeR_ok h1;exact fin_okN h3 (by omega) g2 h2
theorem pow_ok {x:NumM} {e d:Int} {n:Nm} (h:powR x e d = .ok n):OkN n:=by
 unfold powR at h
 split at h
 ·cases h
 ·obtain ⟨a,h1,h2⟩:=bind_ok h
  obtain ⟨k,rfl,h3,h4,h5,_⟩:=opd1_k h1
  split at h2
  ·exact fin_okN h3 (by omega) (C_pow _ _) h2
  ·split at h2
   ·cases h2
   ·exact quo_okN h3 (by omega) h2
theorem calc_ok {k:Nat} {x y:Nm} {d:Int} {n:Nm} (h:calcR k x y d = .ok n):OkN n:=by
 unfold calcR at h
 split at h
 ·exact add_ok h
 split at h
 ·exact sub_ok h
 split at h
 ·exact mul_ok h
 split at h
 ·unfold divNR at h
  split at h
  ·cases h
  ·rename_i p hp
   cases h
   exact div_ok hp
 split at h
 ·exact idiv_ok h
 split at h
 ·exact rem_ok h
 unfold powNR at h
 split at h
 ·cases h
 ·split at h
  ·cases h
  ·exact pow_ok h
theorem lenD_val {w:List UInt8} (hw:Dg w) (h:w.length <= 1000):lenD (valL w) <= 1000:=by
 rcases Nat.eq_zero_or_pos w.length with h0 | h0
 ·have:w = []:=List.eq_nil_of_length_eq_zero h0
  subst this
  show lenD 0 <= 1000
  rw [lenD_small (by omega)]; omega
 ·have:=lenD_lt h0 (val_lt w hw)
  omega
theorem readT_ok {sg:Bool} {w p d:List UInt8} {n:Nm} (hw:Dg w) (hp:Dg p) (hl:w.length + p.length <= 1000) (h:readT sg w p d = some n):OkN n:=by
 unfold readT at h
 split at h
 ·cases h
 split at h
 ·cases h
 split at h
 ·unfold fitO at h
  split at h
  ·rename_i hf
   cases h
   refine ⟨mk_c,?_,hf⟩;have hl:(w ++ p).length <= 1000:=by rw [List.length_append]; exact hl
   have:=lenD_val (hw.app hp) hl
   by_cases h0:valL (w ++ p) = 0
   ·rw [h0]; show lenD 0 <= 1000; rw [lenD_small (by omega)]; omega
   ·rw [mk_s h0]; exact this
  ·cases h
 ·cases h
theorem dg_rst (l:List UInt8):(dgs l).length + (rst l).length = l.length:=by
 have:=congrArg List.length (List.takeWhile_append_dropWhile (p:=dgB) (l:=l));rw [List.length_append] at this;exact this
theorem readO_ok {l:List UInt8} {n:Nm} (h:readO l = some n):OkN n:=by
 unfold readO at h
 split at h
 ·cases h
 ·rename_i hl
  rw [readL_T] at h;have e1:=bl_len l;have e2:=unS_len (bl l);have e3:=bl_len (unS (bl l));have e4:=dg_rst (bl (unS (bl l)));refine readT_ok (dgs_dg _) ?_ ?_ h
  ·split
   ·exact dgs_dg _
   ·exact Dg.nil
  ·split
   ·have e5:=dgs_len ((rst (bl (unS (bl l)))).drop 1)
    rw [List.length_drop] at e5;omega
   ·rw [List.length_nil]; omega
theorem sm_ok {n:Nm} (h:OkN n):Sm n.num.digits:=⟨by
 show (digB n.m).size <= _
 rw [size_digB];have:=h.len;simp only [big]; omega⟩
end
section
open Go Q Go.RowKit Go.Shelf
instance {x y:NumM} {s:SetM} [hx:Sm x.digits] [hy:Sm y.digits]:Pu 158 #[s.v,x.v,y.v] (resV (addR x y s.digits)):=⟨fun z w=>Fn1.intro fun hS=>en158 (by
 unfold vc158;(repeat (first | (refine iDr ?_; intro _ _) | refine V_run ?_ | refine PV_run ?_ | refine HV_run ?_ | refine iV_ld1 ?_ | refine iV_ldN ?_ | (refine iV_bx ?_; intro _ _ _ _) | (refine iV_al ?_; intro _ _ _ _) | (refine iV_mm ?_; intro _ _ _ _) | (refine iU_st ?_; intro _ _) | refine iHV_1 ?_ | refine iHV_N ?_ | refine iRI_1 ?_ | refine iRI_N ?_ | refine Cond_t ?_ | refine Cond_f ?_ | refine JB ?_ | (refine JC ?_; intro _ _ _ _) | (refine JGB ?_; intro _ _ _ _) | refine K1 ?_ | refine K0 ?_ | refine K2 ?_ | refine K3 ?_ | refine K4 ?_ | (refine CV_pu ?_; intro _ _ _ _) | (refine CV_puz ?_; intro _ _ _ _) | refine fRI_1 ?_ | refine fRI_N ?_ | refine gHV_lkI ?_ | refine gRI_lkI ?_ | refine gV_lkI ?_ | refine fV_ldN ?_ | refine fV_ld1 ?_ | refine fHV_ldN ?_ | refine fHV_ld1 ?_ | refine NilW_some ?_ | refine iCW_1 ?_ | refine iCW_N ?_ | refine Pk_b ?_));exact ⟨_,_,‹_›,rfl⟩)⟩
instance {x y:NumM} {s:SetM} [hx:Sm x.digits] [hy:Sm y.digits]:Pu 159 #[s.v,x.v,y.v] (resV (subR x y s.digits)):=⟨fun z w=>Fn1.intro fun hS=>en159 (by
 unfold vc159;(repeat (first | (refine iDr ?_; intro _ _) | refine V_run ?_ | refine PV_run ?_ | refine HV_run ?_ | refine iV_ld1 ?_ | refine iV_ldN ?_ | (refine iV_bx ?_; intro _ _ _ _) | (refine iV_al ?_; intro _ _ _ _) | (refine iV_mm ?_; intro _ _ _ _) | (refine iU_st ?_; intro _ _) | refine iHV_1 ?_ | refine iHV_N ?_ | refine iRI_1 ?_ | refine iRI_N ?_ | refine Cond_t ?_ | refine Cond_f ?_ | refine JB ?_ | (refine JC ?_; intro _ _ _ _) | (refine JGB ?_; intro _ _ _ _) | refine K1 ?_ | refine K0 ?_ | refine K2 ?_ | refine K3 ?_ | refine K4 ?_ | (refine CV_pu ?_; intro _ _ _ _) | (refine CV_puz ?_; intro _ _ _ _) | refine fRI_1 ?_ | refine fRI_N ?_ | refine gHV_lkI ?_ | refine gRI_lkI ?_ | refine gV_lkI ?_ | refine fV_ldN ?_ | refine fV_ld1 ?_ | refine fHV_ldN ?_ | refine fHV_ld1 ?_ | refine NilW_some ?_ | refine iCW_1 ?_ | refine iCW_N ?_ | refine Pk_b ?_));exact ⟨_,_,‹_›,rfl⟩)⟩
instance {x y:NumM} {s:SetM} [hx:Sm x.digits] [hy:Sm y.digits]:Pu 160 #[s.v,x.v,y.v] (resV (mulR x y s.digits)):=⟨fun z w=>Fn1.intro fun hS=>en160 (by
 unfold vc160;(repeat (first | (refine iDr ?_; intro _ _) | refine V_run ?_ | refine PV_run ?_ | refine HV_run ?_ | refine iV_ld1 ?_ | refine iV_ldN ?_ | (refine iV_bx ?_; intro _ _ _ _) | (refine iV_al ?_; intro _ _ _ _) | (refine iV_mm ?_; intro _ _ _ _) | (refine iU_st ?_; intro _ _) | refine iHV_1 ?_ | refine iHV_N ?_ | refine iRI_1 ?_ | refine iRI_N ?_ | refine Cond_t ?_ | refine Cond_f ?_ | refine JB ?_ | (refine JC ?_; intro _ _ _ _) | (refine JGB ?_; intro _ _ _ _) | refine K1 ?_ | refine K0 ?_ | refine K2 ?_ | refine K3 ?_ | refine K4 ?_ | (refine CV_pu ?_; intro _ _ _ _) | (refine CV_puz ?_; intro _ _ _ _) | refine fRI_1 ?_ | refine fRI_N ?_ | refine gHV_lkI ?_ | refine gRI_lkI ?_ | refine gV_lkI ?_ | refine fV_ldN ?_ | refine fV_ld1 ?_ | refine fHV_ldN ?_ | refine fHV_ld1 ?_ | refine NilW_some ?_ | refine iCW_1 ?_ | refine iCW_N ?_ | refine Pk_b ?_));exact ⟨_,_,‹_›,rfl⟩)⟩
instance {x y:NumM} {s:SetM} [hx:Sm x.digits] [hy:Sm y.digits]:Pu 162 #[s.v,x.v,y.v] (resV (idivR x y s.digits)):=⟨fun z w=>Fn1.intro fun hS=>en162 (by
 unfold vc162;(repeat (first | (refine iDr ?_; intro _ _) | refine V_run ?_ | refine PV_run ?_ | refine HV_run ?_ | refine iV_ld1 ?_ | refine iV_ldN ?_ | (refine iV_bx ?_; intro _ _ _ _) | (refine iV_al ?_; intro _ _ _ _) | (refine iV_mm ?_; intro _ _ _ _) | (refine iU_st ?_; intro _ _) | refine iHV_1 ?_ | refine iHV_N ?_ | refine iRI_1 ?_ | refine iRI_N ?_ | refine Cond_t ?_ | refine Cond_f ?_ | refine JB ?_ | (refine JC ?_; intro _ _ _ _) | (refine JGB ?_; intro _ _ _ _) | refine K1 ?_ | refine K0 ?_ | refine K2 ?_ | refine K3 ?_ | refine K4 ?_ | (refine CV_pu ?_; intro _ _ _ _) | (refine CV_puz ?_; intro _ _ _ _) | refine fRI_1 ?_ | refine fRI_N ?_ | refine gHV_lkI ?_ | refine gRI_lkI ?_ | refine gV_lkI ?_ | refine fV_ldN ?_ | refine fV_ld1 ?_ | refine fHV_ldN ?_ | refine fHV_ld1 ?_ | refine NilW_some ?_ | refine iCW_1 ?_ | refine iCW_N ?_ | refine Pk_b ?_));exact ⟨_,_,‹_›,rfl⟩)⟩
instance {x y:NumM} {s:SetM} [hx:Sm x.digits] [hy:Sm y.digits]:Pu 163 #[s.v,x.v,y.v] (resV (remR x y s.digits)):=⟨fun z w=>Fn1.intro fun hS=>en163 (by
 unfold vc163;(repeat (first | (refine iDr ?_; intro _ _) | refine V_run ?_ | refine PV_run ?_ | refine HV_run ?_ | refine iV_ld1 ?_ | refine iV_ldN ?_ | (refine iV_bx ?_; intro _ _ _ _) | (refine iV_al ?_; intro _ _ _ _) | (refine iV_mm ?_; intro _ _ _ _) | (refine iU_st ?_; intro _ _) | refine iHV_1 ?_ | refine iHV_N ?_ | refine iRI_1 ?_ | refine iRI_N ?_ | refine Cond_t ?_ | refine Cond_f ?_ | refine JB ?_ | (refine JC ?_; intro _ _ _ _) | (refine JGB ?_; intro _ _ _ _) | refine K1 ?_ | refine K0 ?_ | refine K2 ?_ | refine K3 ?_ | refine K4 ?_ | (refine CV_pu ?_; intro _ _ _ _) | (refine CV_puz ?_; intro _ _ _ _) | refine fRI_1 ?_ | refine fRI_N ?_ | refine gHV_lkI ?_ | refine gRI_lkI ?_ | refine gV_lkI ?_ | refine fV_ldN ?_ | refine fV_ld1 ?_ | refine fHV_ldN ?_ | refine fHV_ld1 ?_ | refine NilW_some ?_ | refine iCW_1 ?_ | refine iCW_N ?_ | refine Pk_b ?_));exact ⟨_,_,‹_›,rfl⟩)⟩
theorem div_res {x y:NumM} {d:Int}:numE (divNR x y d) = dN (divR x y d)/\errE (divNR x y d) = dE (divR x y d):=by
 unfold divNR
 cases divR x y d with
 | error e=>exact ⟨rfl,rfl⟩
 | ok p=>exact ⟨rfl,rfl⟩
instance {x y:NumM} {s:SetM} [hx:Sm x.digits] [hy:Sm y.digits]:Pu 161 #[s.v,x.v,y.v] (resV (divNR x y s.digits)):=⟨fun z w=>Fn1.intro fun hS=>en161 (by
 unfold vc161;(repeat (first | (refine iDr ?_; intro _ _) | refine V_run ?_ | refine PV_run ?_ | refine HV_run ?_ | refine iV_ld1 ?_ | refine iV_ldN ?_ | (refine iV_bx ?_; intro _ _ _ _) | (refine iV_al ?_; intro _ _ _ _) | (refine iV_mm ?_; intro _ _ _ _) | (refine iU_st ?_; intro _ _) | refine iHV_1 ?_ | refine iHV_N ?_ | refine iRI_1 ?_ | refine iRI_N ?_ | refine Cond_t ?_ | refine Cond_f ?_ | refine JB ?_ | (refine JC ?_; intro _ _ _ _) | (refine JGB ?_; intro _ _ _ _) | refine K1 ?_ | refine K0 ?_ | refine K2 ?_ | refine K3 ?_ | refine K4 ?_ | (refine CV_pu ?_; intro _ _ _ _) | (refine CV_puz ?_; intro _ _ _ _) | refine fRI_1 ?_ | refine fRI_N ?_ | refine gHV_lkI ?_ | refine gRI_lkI ?_ | refine gV_lkI ?_ | refine fV_ldN ?_ | refine fV_ld1 ?_ | refine fHV_ldN ?_ | refine fHV_ld1 ?_ | refine NilW_some ?_ | refine iCW_1 ?_ | refine iCW_N ?_ | refine Pk_b ?_));exact ⟨_,_,‹_›,by rw [resV,div_res.1,div_res.2]⟩)⟩
def powX (x y:NumM) (d:Int):ResN:=match intR y d with
 | .error e=>.error e
 | .ok n=>if n < -100 \/ 100 < n then .error 8 else powR x n d
theorem int_e {x:NumM} {d:Int} {e:Int} (h:intR x d = .error e):e ≠ 0:=by
 unfold intR at h;(repeat' split at h) <;> first | (cases h; decide) | cases h
instance {x y:NumM} {s:SetM} [hx:Sm x.digits] [hy:Sm y.digits]:Pu 164 #[s.v,x.v,y.v] (resV (powX x y s.digits)):=⟨fun z w=>Fn1.intro fun hS=>en164 (by
 unfold vc164;unfold powX;have hi:=@int_e y s.digits;(repeat (first | (refine iDr ?_; intro _ _) | refine V_run ?_ | refine PV_run ?_ | refine HV_run ?_ | refine iV_ld1 ?_ | refine iV_ldN ?_ | (refine iV_bx ?_; intro _ _ _ _) | (refine iV_al ?_; intro _ _ _ _) | (refine iV_mm ?_; intro _ _ _ _) | (refine iU_st ?_; intro _ _) | refine iHV_1 ?_ | refine iHV_N ?_ | refine iRI_1 ?_ | refine iRI_N ?_ | refine Cond_t ?_ | refine Cond_f ?_ | refine JB ?_ | (refine JC ?_; intro _ _ _ _) | (refine JGB ?_; intro _ _ _ _) | refine K1 ?_ | refine K0 ?_ | refine K2 ?_ | refine K3 ?_ | refine K4 ?_ | (refine CV_pu ?_; intro _ _ _ _) | (refine CV_puz ?_; intro _ _ _ _) | refine fRI_1 ?_ | refine fRI_N ?_ | refine gHV_lkI ?_ | refine gRI_lkI ?_ | refine gV_lkI ?_ | refine fV_ldN ?_ | refine fV_ld1 ?_ | refine fHV_ldN ?_ | refine fHV_ld1 ?_ | refine NilW_some ?_ | refine iCW_1 ?_ | refine iCW_N ?_ | refine Pk_b ?_));generalize intR y s.digits = I at *
 cases I with
 | error e=>
  refine Cond_nd (fun h=>?_) (fun h=>?_)
  ·(repeat (first | (refine iDr ?_; intro _ _) | refine V_run ?_ | refine PV_run ?_ | refine HV_run ?_ | refine iV_ld1 ?_ | refine iV_ldN ?_ | (refine iV_bx ?_; intro _ _ _ _) | (refine iV_al ?_; intro _ _ _ _) | (refine iV_mm ?_; intro _ _ _ _) | (refine iU_st ?_; intro _ _) | refine iHV_1 ?_ | refine iHV_N ?_ | refine iRI_1 ?_ | refine iRI_N ?_ | refine Cond_t ?_ | refine Cond_f ?_ | refine JB ?_ | (refine JC ?_; intro _ _ _ _) | (refine JGB ?_; intro _ _ _ _) | refine K1 ?_ | refine K0 ?_ | refine K2 ?_ | refine K3 ?_ | refine K4 ?_ | (refine CV_pu ?_; intro _ _ _ _) | (refine CV_puz ?_; intro _ _ _ _) | refine fRI_1 ?_ | refine fRI_N ?_ | refine gHV_lkI ?_ | refine gRI_lkI ?_ | refine gV_lkI ?_ | refine fV_ldN ?_ | refine fV_ld1 ?_ | refine fHV_ldN ?_ | refine fHV_ld1 ?_ | refine NilW_some ?_ | refine iCW_1 ?_ | refine iCW_N ?_ | refine Pk_b ?_))
   exact ⟨_,_,‹_›,rfl⟩
  ·exact absurd h (hi rfl)
 | ok n=>
  refine Cond_nd (fun h=>?_) (fun h=>?_)
  ·exact absurd rfl h
  ·(repeat (first | (refine iDr ?_; intro _ _) | refine V_run ?_ | refine PV_run ?_ | refine HV_run ?_ | refine iV_ld1 ?_ | refine iV_ldN ?_ | (refine iV_bx ?_; intro _ _ _ _) | (refine iV_al ?_; intro _ _ _ _) | (refine iV_mm ?_; intro _ _ _ _) | (refine iU_st ?_; intro _ _) | refine iHV_1 ?_ | refine iHV_N ?_ | refine iRI_1 ?_ | refine iRI_N ?_ | refine Cond_t ?_ | refine Cond_f ?_ | refine JB ?_ | (refine JC ?_; intro _ _ _ _) | (refine JGB ?_; intro _ _ _ _) | refine K1 ?_ | refine K0 ?_ | refine K2 ?_ | refine K3 ?_ | refine K4 ?_ | (refine CV_pu ?_; intro _ _ _ _) | (refine CV_puz ?_; intro _ _ _ _) | refine fRI_1 ?_ | refine fRI_N ?_ | refine gHV_lkI ?_ | refine gRI_lkI ?_ | refine gV_lkI ?_ | refine fV_ldN ?_ | refine fV_ld1 ?_ | refine fHV_ldN ?_ | refine fHV_ld1 ?_ | refine NilW_some ?_ | refine iCW_1 ?_ | refine iCW_N ?_ | refine Pk_b ?_))
   refine Cond_b (fun h=>?_) (fun h=>?_)
   ·(repeat (first | (refine iDr ?_; intro _ _) | refine V_run ?_ | refine PV_run ?_ | refine HV_run ?_ | refine iV_ld1 ?_ | refine iV_ldN ?_ | (refine iV_bx ?_; intro _ _ _ _) | (refine iV_al ?_; intro _ _ _ _) | (refine iV_mm ?_; intro _ _ _ _) | (refine iU_st ?_; intro _ _) | refine iHV_1 ?_ | refine iHV_N ?_ | refine iRI_1 ?_ | refine iRI_N ?_ | refine Cond_t ?_ | refine Cond_f ?_ | refine JB ?_ | (refine JC ?_; intro _ _ _ _) | (refine JGB ?_; intro _ _ _ _) | refine K1 ?_ | refine K0 ?_ | refine K2 ?_ | refine K3 ?_ | refine K4 ?_ | (refine CV_pu ?_; intro _ _ _ _) | (refine CV_puz ?_; intro _ _ _ _) | refine fRI_1 ?_ | refine fRI_N ?_ | refine gHV_lkI ?_ | refine gRI_lkI ?_ | refine gV_lkI ?_ | refine fV_ldN ?_ | refine fV_ld1 ?_ | refine fHV_ldN ?_ | refine fHV_ld1 ?_ | refine NilW_some ?_ | refine iCW_1 ?_ | refine iCW_N ?_ | refine Pk_b ?_))
    refine ⟨_,_,‹_›,?_⟩;have:n < -100 \/ 100 < n:=by
     change (bif decide (n < -100) then true else decide (n > 100)) = true at h
     simpa using h
    simp only [this,if_true]
    rfl
   ·(repeat (first | (refine iDr ?_; intro _ _) | refine V_run ?_ | refine PV_run ?_ | refine HV_run ?_ | refine iV_ld1 ?_ | refine iV_ldN ?_ | (refine iV_bx ?_; intro _ _ _ _) | (refine iV_al ?_; intro _ _ _ _) | (refine iV_mm ?_; intro _ _ _ _) | (refine iU_st ?_; intro _ _) | refine iHV_1 ?_ | refine iHV_N ?_ | refine iRI_1 ?_ | refine iRI_N ?_ | refine Cond_t ?_ | refine Cond_f ?_ | refine JB ?_ | (refine JC ?_; intro _ _ _ _) | (refine JGB ?_; intro _ _ _ _) | refine K1 ?_ | refine K0 ?_ | refine K2 ?_ | refine K3 ?_ | refine K4 ?_ | (refine CV_pu ?_; intro _ _ _ _) | (refine CV_puz ?_; intro _ _ _ _) | refine fRI_1 ?_ | refine fRI_N ?_ | refine gHV_lkI ?_ | refine gRI_lkI ?_ | refine gV_lkI ?_ | refine fV_ldN ?_ | refine fV_ld1 ?_ | refine fHV_ldN ?_ | refine fHV_ld1 ?_ | refine NilW_some ?_ | refine iCW_1 ?_ | refine iCW_N ?_ | refine Pk_b ?_))
    refine ⟨_,_,‹_›,?_⟩;have:¬ (n < -100 \/ 100 < n):=by
     change (bif decide (n < -100) then true else decide (n > 100)) = false at h
     simp at h; omega
    simp only [this,if_false]
    rfl)⟩
instance {n:Int}:Pu 165 #[.int .i64 n] (.bool (decide (n = 0))):=⟨fun z w=>Fn1.intro fun hS=>en165 (by
 unfold vc165;(repeat (first | (refine iDr ?_; intro _ _) | refine V_run ?_ | refine PV_run ?_ | refine HV_run ?_ | refine iV_ld1 ?_ | refine iV_ldN ?_ | (refine iV_bx ?_; intro _ _ _ _) | (refine iV_al ?_; intro _ _ _ _) | (refine iV_mm ?_; intro _ _ _ _) | (refine iU_st ?_; intro _ _) | refine iHV_1 ?_ | refine iHV_N ?_ | refine iRI_1 ?_ | refine iRI_N ?_ | refine Cond_t ?_ | refine Cond_f ?_ | refine JB ?_ | (refine JC ?_; intro _ _ _ _) | (refine JGB ?_; intro _ _ _ _) | refine K1 ?_ | refine K0 ?_ | refine K2 ?_ | refine K3 ?_ | refine K4 ?_ | (refine CV_pu ?_; intro _ _ _ _) | (refine CV_puz ?_; intro _ _ _ _) | refine fRI_1 ?_ | refine fRI_N ?_ | refine gHV_lkI ?_ | refine gRI_lkI ?_ | refine gV_lkI ?_ | refine fV_ldN ?_ | refine fV_ld1 ?_ | refine fHV_ldN ?_ | refine fHV_ld1 ?_ | refine NilW_some ?_ | refine iCW_1 ?_ | refine iCW_N ?_ | refine Pk_b ?_));exact ⟨_,_,‹_›,rfl⟩)⟩
instance {n:Int}:Pu 166 #[.int .i64 n] (.bool (!decide (n = 0))):=⟨fun z w=>Fn1.intro fun hS=>en166 (by
 unfold vc166;(repeat (first | (refine iDr ?_; intro _ _) | refine V_run ?_ | refine PV_run ?_ | refine HV_run ?_ | refine iV_ld1 ?_ | refine iV_ldN ?_ | (refine iV_bx ?_; intro _ _ _ _) | (refine iV_al ?_; intro _ _ _ _) | (refine iV_mm ?_; intro _ _ _ _) | (refine iU_st ?_; intro _ _) | refine iHV_1 ?_ | refine iHV_N ?_ | refine iRI_1 ?_ | refine iRI_N ?_ | refine Cond_t ?_ | refine Cond_f ?_ | refine JB ?_ | (refine JC ?_; intro _ _ _ _) | (refine JGB ?_; intro _ _ _ _) | refine K1 ?_ | refine K0 ?_ | refine K2 ?_ | refine K3 ?_ | refine K4 ?_ | (refine CV_pu ?_; intro _ _ _ _) | (refine CV_puz ?_; intro _ _ _ _) | refine fRI_1 ?_ | refine fRI_N ?_ | refine gHV_lkI ?_ | refine gRI_lkI ?_ | refine gV_lkI ?_ | refine fV_ldN ?_ | refine fV_ld1 ?_ | refine fHV_ldN ?_ | refine fHV_ld1 ?_ | refine NilW_some ?_ | refine iCW_1 ?_ | refine iCW_N ?_ | refine Pk_b ?_));exact ⟨_,_,‹_›,rfl⟩)⟩
instance {n:Int}:Pu 167 #[.int .i64 n] (.bool (decide (n > 0))):=⟨fun z w=>Fn1.intro fun hS=>en167 (by
 unfold vc167;(repeat (first | (refine iDr ?_; intro _ _) | refine V_run ?_ | refine PV_run ?_ | refine HV_run ?_ | refine iV_ld1 ?_ | refine iV_ldN ?_ | (refine iV_bx ?_; intro _ _ _ _) | (refine iV_al ?_; intro _ _ _ _) | (refine iV_mm ?_; intro _ _ _ _) | (refine iU_st ?_; intro _ _) | refine iHV_1 ?_ | refine iHV_N ?_ | refine iRI_1 ?_ | refine iRI_N ?_ | refine Cond_t ?_ | refine Cond_f ?_ | refine JB ?_ | (refine JC ?_; intro _ _ _ _) | (refine JGB ?_; intro _ _ _ _) | refine K1 ?_ | refine K0 ?_ | refine K2 ?_ | refine K3 ?_ | refine K4 ?_ | (refine CV_pu ?_; intro _ _ _ _) | (refine CV_puz ?_; intro _ _ _ _) | refine fRI_1 ?_ | refine fRI_N ?_ | refine gHV_lkI ?_ | refine gRI_lkI ?_ | refine gV_lkI ?_ | refine fV_ldN ?_ | refine fV_ld1 ?_ | refine fHV_ldN ?_ | refine fHV_ld1 ?_ | refine NilW_some ?_ | refine iCW_1 ?_ | refine iCW_N ?_ | refine Pk_b ?_));exact ⟨_,_,‹_›,rfl⟩)⟩
instance {n:Int}:Pu 168 #[.int .i64 n] (.bool (decide (n < 0))):=⟨fun z w=>Fn1.intro fun hS=>en168 (by
 unfold vc168;(repeat (first | (refine iDr ?_; intro _ _) | refine V_run ?_ | refine PV_run ?_ | refine HV_run ?_ | refine iV_ld1 ?_ | refine iV_ldN ?_ | (refine iV_bx ?_; intro _ _ _ _) | (refine iV_al ?_; intro _ _ _ _) | (refine iV_mm ?_; intro _ _ _ _) | (refine iU_st ?_; intro _ _) | refine iHV_1 ?_ | refine iHV_N ?_ | refine iRI_1 ?_ | refine iRI_N ?_ | refine Cond_t ?_ | refine Cond_f ?_ | refine JB ?_ | (refine JC ?_; intro _ _ _ _) | (refine JGB ?_; intro _ _ _ _) | refine K1 ?_ | refine K0 ?_ | refine K2 ?_ | refine K3 ?_ | refine K4 ?_ | (refine CV_pu ?_; intro _ _ _ _) | (refine CV_puz ?_; intro _ _ _ _) | refine fRI_1 ?_ | refine fRI_N ?_ | refine gHV_lkI ?_ | refine gRI_lkI ?_ | refine gV_lkI ?_ | refine fV_ldN ?_ | refine fV_ld1 ?_ | refine fHV_ldN ?_ | refine fHV_ld1 ?_ | refine NilW_some ?_ | refine iCW_1 ?_ | refine iCW_N ?_ | refine Pk_b ?_));exact ⟨_,_,‹_›,rfl⟩)⟩
instance {n:Int}:Pu 169 #[.int .i64 n] (.bool (decide (n ≥ 0))):=⟨fun z w=>Fn1.intro fun hS=>en169 (by
 unfold vc169;(repeat (first | (refine iDr ?_; intro _ _) | refine V_run ?_ | refine PV_run ?_ | refine HV_run ?_ | refine iV_ld1 ?_ | refine iV_ldN ?_ | (refine iV_bx ?_; intro _ _ _ _) | (refine iV_al ?_; intro _ _ _ _) | (refine iV_mm ?_; intro _ _ _ _) | (refine iU_st ?_; intro _ _) | refine iHV_1 ?_ | refine iHV_N ?_ | refine iRI_1 ?_ | refine iRI_N ?_ | refine Cond_t ?_ | refine Cond_f ?_ | refine JB ?_ | (refine JC ?_; intro _ _ _ _) | (refine JGB ?_; intro _ _ _ _) | refine K1 ?_ | refine K0 ?_ | refine K2 ?_ | refine K3 ?_ | refine K4 ?_ | (refine CV_pu ?_; intro _ _ _ _) | (refine CV_puz ?_; intro _ _ _ _) | refine fRI_1 ?_ | refine fRI_N ?_ | refine gHV_lkI ?_ | refine gRI_lkI ?_ | refine gV_lkI ?_ | refine fV_ldN ?_ | refine fV_ld1 ?_ | refine fHV_ldN ?_ | refine fHV_ld1 ?_ | refine NilW_some ?_ | refine iCW_1 ?_ | refine iCW_N ?_ | refine Pk_b ?_));exact ⟨_,_,‹_›,rfl⟩)⟩
instance {n:Int}:Pu 170 #[.int .i64 n] (.bool (decide (n <= 0))):=⟨fun z w=>Fn1.intro fun hS=>en170 (by
 unfold vc170;(repeat (first | (refine iDr ?_; intro _ _) | refine V_run ?_ | refine PV_run ?_ | refine HV_run ?_ | refine iV_ld1 ?_ | refine iV_ldN ?_ | (refine iV_bx ?_; intro _ _ _ _) | (refine iV_al ?_; intro _ _ _ _) | (refine iV_mm ?_; intro _ _ _ _) | (refine iU_st ?_; intro _ _) | refine iHV_1 ?_ | refine iHV_N ?_ | refine iRI_1 ?_ | refine iRI_N ?_ | refine Cond_t ?_ | refine Cond_f ?_ | refine JB ?_ | (refine JC ?_; intro _ _ _ _) | (refine JGB ?_; intro _ _ _ _) | refine K1 ?_ | refine K0 ?_ | refine K2 ?_ | refine K3 ?_ | refine K4 ?_ | (refine CV_pu ?_; intro _ _ _ _) | (refine CV_puz ?_; intro _ _ _ _) | refine fRI_1 ?_ | refine fRI_N ?_ | refine gHV_lkI ?_ | refine gRI_lkI ?_ | refine gV_lkI ?_ | refine fV_ldN ?_ | refine fV_ld1 ?_ | refine fHV_ldN ?_ | refine fHV_ld1 ?_ | refine NilW_some ?_ | refine iCW_1 ?_ | refine iCW_N ?_ | refine Pk_b ?_));exact ⟨_,_,‹_›,rfl⟩)⟩
abbrev fnv (f:FuncId):Value:=.func (.func f) #[] #[]
def opF (k:Nat):FuncId:=if k = 0 then 158 else if k = 1 then 159 else if k = 2 then 160 else if k = 3 then 161 else if k = 4 then 162 else if k = 5 then 163 else 164
def cmF (k:Nat):FuncId:=if k = 0 then 165 else if k = 1 then 166 else if k = 2 then 167 else if k = 3 then 168 else if k = 4 then 169 else 170
def opsL:List (ByteArray × Value):=[(⟨#[43]⟩,fnv (opF 0)),(⟨#[45]⟩,fnv (opF 1)),(⟨#[42]⟩,fnv (opF 2)),(⟨#[47]⟩,fnv (opF 3)),(⟨#[37]⟩,fnv (opF 4)),(⟨#[47,47]⟩,fnv (opF 5)),(⟨#[42,42]⟩,fnv (opF 6))]
def cmsL:List (ByteArray × Value):=[(⟨#[61]⟩,fnv (cmF 0)),(⟨#[92,61]⟩,fnv (cmF 1)),(⟨#[62]⟩,fnv (cmF 2)),(⟨#[60]⟩,fnv (cmF 3)),(⟨#[62,61]⟩,fnv (cmF 4)),(⟨#[60,61]⟩,fnv (cmF 5))]
theorem operations_of {z:Z} {w:World}:Fn 115 #[] z [] w fun _ B' r=>∃ b,r = .map (some b)/\B' = [(b,mK Value.string opsL)]:=Fn.intro fun hS=>en115 (by
 unfold vc115;refine kV_mm Value.string ?_;intro b w1 hb hS1;clear hS;refine kU_mu (mk:=Value.string) ?_;intro w2 hS2;clear hS1;refine kU_mu (mk:=Value.string) ?_;intro w3 hS3;clear hS2;refine kU_mu (mk:=Value.string) ?_;intro w4 hS4;clear hS3;refine kU_mu (mk:=Value.string) ?_;intro w5 hS5;clear hS4;refine kU_mu (mk:=Value.string) ?_;intro w6 hS6;clear hS5;refine kU_mu (mk:=Value.string) ?_;intro w7 hS7;clear hS6;refine kU_mu (mk:=Value.string) ?_;intro w8 hS8;clear hS7;exact ⟨_,_,hS8,b,rfl,rfl⟩)
theorem comparisons_of {z:Z} {w:World}:Fn 116 #[] z [] w fun _ B' r=>∃ b,r = .map (some b)/\B' = [(b,mK Value.string cmsL)]:=Fn.intro fun hS=>en116 (by
 unfold vc116;refine kV_mm Value.string ?_;intro b w1 hb hS1;clear hS;refine kU_mu (mk:=Value.string) ?_;intro w2 hS2;clear hS1;refine kU_mu (mk:=Value.string) ?_;intro w3 hS3;clear hS2;refine kU_mu (mk:=Value.string) ?_;intro w4 hS4;clear hS3;refine kU_mu (mk:=Value.string) ?_;intro w5 hS5;clear hS4;refine kU_mu (mk:=Value.string) ?_;intro w6 hS6;clear hS5;refine kU_mu (mk:=Value.string) ?_;intro w7 hS7;clear hS6;exact ⟨_,_,hS7,b,rfl,rfl⟩)
end
section
open Go Q Go.RowKit Go.Shelf
theorem getK_no {l:List (ByteArray × Value)} {n:ByteArray} (h:∀ p ∈ l,p.1 ≠ n):getK l n = none:=by
 rw [getK_find,List.find?_eq_none.2]
 ·rfl
 ·intro p hp
  have:=h p hp
  simpa using this
theorem getK_ops (op:ByteArray):getK opsL op = (arIx (bytes op)).map fun k=>fnv (opF k):=by
 unfold arIx
 by_cases h0:bytes op = [43]
 ·have:op = ⟨#[43]⟩:=ba_inj h0
  subst this; rfl
 by_cases h1:bytes op = [45]
 ·have:op = ⟨#[45]⟩:=ba_inj h1
  subst this; rfl
 by_cases h2:bytes op = [42]
 ·have:op = ⟨#[42]⟩:=ba_inj h2
  subst this; rfl
 by_cases h3:bytes op = [47]
 ·have:op = ⟨#[47]⟩:=ba_inj h3
  subst this; rfl
 by_cases h4:bytes op = [37]
 ·have:op = ⟨#[37]⟩:=ba_inj h4
  subst this; rfl
 by_cases h5:bytes op = [47,47]
 ·have:op = ⟨#[47,47]⟩:=ba_inj h5
  subst this; rfl
 by_cases h6:bytes op = [42,42]
 ·have:op = ⟨#[42,42]⟩:=ba_inj h6
  subst this; rfl
 rw [if_neg h0,if_neg h1,if_neg h2,if_neg h3,if_neg h4,if_neg h5,if_neg h6];refine getK_no fun p hp e=>?_
 simp only [opsL,List.mem_cons,List.mem_nil_iff,or_false] at hp;subst e
 rcases hp with rfl | rfl | rfl | rfl | rfl | rfl | rfl
 ·exact h0 rfl
 ·exact h1 rfl
 ·exact h2 rfl
 ·exact h3 rfl
 ·exact h4 rfl
 ·exact h5 rfl
 ·exact h6 rfl
theorem getK_cms (op:ByteArray):getK cmsL op = (cmIx (bytes op)).map fun k=>fnv (cmF k):=by
 unfold cmIx
 by_cases h0:bytes op = [61]
 ·have:op = ⟨#[61]⟩:=ba_inj h0
  subst this; rfl
 by_cases h1:bytes op = [92,61]
 ·have:op = ⟨#[92,61]⟩:=ba_inj h1
  subst this; rfl
 by_cases h2:bytes op = [62]
 ·have:op = ⟨#[62]⟩:=ba_inj h2
  subst this; rfl
 by_cases h3:bytes op = [60]
 ·have:op = ⟨#[60]⟩:=ba_inj h3
  subst this; rfl
 by_cases h4:bytes op = [62,61]
 ·have:op = ⟨#[62,61]⟩:=ba_inj h4
  subst this; rfl
 by_cases h5:bytes op = [60,61]
 ·have:op = ⟨#[60,61]⟩:=ba_inj h5
  subst this; rfl
 rw [if_neg h0,if_neg h1,if_neg h2,if_neg h3,if_neg h4,if_neg h5];refine getK_no fun p hp e=>?_
 simp only [cmsL,List.mem_cons,List.mem_nil_iff,or_false] at hp;subst e
 rcases hp with rfl | rfl | rfl | rfl | rfl | rfl
 ·exact h0 rfl
 ·exact h1 rfl
 ·exact h2 rfl
 ·exact h3 rfl
 ·exact h4 rfl
 ·exact h5 rfl
theorem cmIx_lt {l:List UInt8} {k:Nat} (h:cmIx l = some k):k < 6:=by
 unfold cmIx at h;(repeat' split at h) <;> first | (cases h; decide) | cases h
theorem arIx_lt {l:List UInt8} {k:Nat} (h:arIx l = some k):k < 7:=by
 unfold arIx at h;(repeat' split at h) <;> first | (cases h; decide) | cases h
section
variable {w0 w:World} {z0 z:Z} {B0 L:Bl} {K:Value->World->Prop}
theorem cm_call [hS:Res w0 z0 B0 w z L] {k:Nat} {n:Int} (hk:k < 6) (h:∀ z' w',Le z z'->Res w0 z0 B0 w' z' L->K (.bool (holdsN k n)) w'):CV (fnv (cmF k)) #[.int .i64 n] w K:=by
 obtain rfl | rfl | rfl | rfl | rfl | rfl:k = 0 \/ k = 1 \/ k = 2 \/ k = 3 \/ k = 4 \/ k = 5:=by omega
 ·change CV (.func (.func 165) #[] #[]) _ _ _
  exact CV_pu (hS:=hS) (g:=(inferInstance:Pu 165 #[.int .i64 n] _)) h
 ·change CV (.func (.func 166) #[] #[]) _ _ _
  exact CV_pu (hS:=hS) (g:=(inferInstance:Pu 166 #[.int .i64 n] _)) h
 ·change CV (.func (.func 167) #[] #[]) _ _ _
  exact CV_pu (hS:=hS) (g:=(inferInstance:Pu 167 #[.int .i64 n] _)) h
 ·change CV (.func (.func 168) #[] #[]) _ _ _
  exact CV_pu (hS:=hS) (g:=(inferInstance:Pu 168 #[.int .i64 n] _)) h
 ·change CV (.func (.func 169) #[] #[]) _ _ _
  exact CV_pu (hS:=hS) (g:=(inferInstance:Pu 169 #[.int .i64 n] _)) h
 ·change CV (.func (.func 170) #[] #[]) _ _ _
  exact CV_pu (hS:=hS) (g:=(inferInstance:Pu 170 #[.int .i64 n] _)) h
theorem ar_call [hS:Res w0 z0 B0 w z L] {k:Nat} {x y:Nm} {s:SetM} [hx:Sm x.num.digits] [hy:Sm y.num.digits] (hk:k < 7) (h:∀ z' w',Le z z'->Res w0 z0 B0 w' z' L->K (resV (calcR k x y s.digits)) w'):CV (fnv (opF k)) #[s.v,x.num.v,y.num.v] w K:=by
 obtain rfl | rfl | rfl | rfl | rfl | rfl | rfl:k = 0 \/ k = 1 \/ k = 2 \/ k = 3 \/ k = 4 \/ k = 5 \/ k = 6:=by omega
 ·change CV (.func (.func 158) #[] #[]) _ _ _
  exact CV_pu (hS:=hS) (g:=(inferInstance:Pu 158 #[s.v,x.num.v,y.num.v] _)) h
 ·change CV (.func (.func 159) #[] #[]) _ _ _
  exact CV_pu (hS:=hS) (g:=(inferInstance:Pu 159 #[s.v,x.num.v,y.num.v] _)) h
 ·change CV (.func (.func 160) #[] #[]) _ _ _
  exact CV_pu (hS:=hS) (g:=(inferInstance:Pu 160 #[s.v,x.num.v,y.num.v] _)) h
 ·change CV (.func (.func 161) #[] #[]) _ _ _
  exact CV_pu (hS:=hS) (g:=(inferInstance:Pu 161 #[s.v,x.num.v,y.num.v] _)) h
 ·change CV (.func (.func 162) #[] #[]) _ _ _
  exact CV_pu (hS:=hS) (g:=(inferInstance:Pu 162 #[s.v,x.num.v,y.num.v] _)) h
 ·change CV (.func (.func 163) #[] #[]) _ _ _
  exact CV_pu (hS:=hS) (g:=(inferInstance:Pu 163 #[s.v,x.num.v,y.num.v] _)) h
 ·change CV (.func (.func 164) #[] #[]) _ _ _
  exact CV_pu (hS:=hS) (g:=(inferInstance:Pu 164 #[s.v,x.num.v,y.num.v] _)) h
end
theorem readV_res (o:Option Nm):readV o = resV (rdR o):=by cases o <;> rfl
instance (priority:=2000) {s:ByteArray}:Pu 31 #[.string s] (resV (rdR (readO (bytes s)))):=by
 rw [<- readV_res]; infer_instance
abbrev opV (o:OpOut):Value:=.tuple #[.string (strB o.s),.int .i64 o.code,.int .i64 o.e]
theorem cmp_e {x y:NumM} {s:SetM} {e:Int} (h:cmpR x y s = .error e):e ≠ 0:=by
 unfold cmpR at h
 split at h
 ·cases h; decide
 ·unfold bindE at h
  split at h
  ·rename_i e' he
   cases h
   rcases opd2_e he with rfl | rfl <;> decide
  ·cases h
theorem bind_e {α β:Type} {x:Except Int α} {f:α->Except Int β} {e:Int} (h:bindE x f = .error e) (h1:∀ e,x = .error e->e ≠ 0) (h2:∀ a e,f a = .error e->e ≠ 0):e ≠ 0:=by
 unfold bindE at h
 split at h
 ·cases h; exact h1 _ rfl
 ·exact h2 _ _ h
theorem fin_z {n:Nm} {d:Nat} {e:Int} (h:finN n d = .error e):e ≠ 0:=by
 unfold finN at h
 split at h
 ·cases h
 ·cases h; decide
theorem opd2_n {x y:NumM} {d:Int}:∀ e,opd2 x y d = .error e->e ≠ 0:=by
 intro e h
 rcases opd2_e h with rfl | rfl <;> decide
theorem quo_e' {a b:Nm} {d q:Nat} {e:Int} (h:quoN a b d q = .error e):e ≠ 0:=by
 unfold quoN at h
 split at h
 ·cases h
 ·rename_i he
  cases h
  exact fin_z he
theorem whole_e' {a b:Nm} {d:Nat} {e:Int} (h:wholeN a b d = .error e):e ≠ 0:=by
 unfold wholeN at h;(repeat' split at h) <;> first | (cases h; decide) | cases h
theorem wholeR_e {x y:NumM} {d:Int}:∀ e,wholeR x y d = .error e->e ≠ 0:=by
 intro e h;refine bind_e h opd2_n fun a e h=>?_
 split at h
 ·cases h; decide
 ·exact whole_e' h
theorem div_z {x y:NumM} {d:Int} {e:Int} (h:divR x y d = .error e):e ≠ 0:=by
 refine bind_e h opd2_n fun a e h=>?_
 split at h
 ·cases h; decide
 ·exact bind_e h (fun e h=>quo_e' h) (fun a e h=>by cases h)
theorem opd1_z {x:NumM} {d:Int}:∀ e,opd1 x d = .error e->e ≠ 0:=by
 intro e h;unfold opd1 at h
 split at h
 ·cases h; decide
 ·split at h
  ·exact fin_z h
  ·cases h; decide
theorem pow_e {x:NumM} {n d:Int} {e:Int} (h:powR x n d = .error e):e ≠ 0:=by
 unfold powR at h
 split at h
 ·cases h; decide
 ·refine bind_e h opd1_z fun a e h=>?_
  split at h
  ·exact fin_z h
  ·split at h
   ·cases h; decide
   ·exact quo_e' h
theorem calc_e {k:Nat} {x y:Nm} {d:Int} {e:Int} (h:calcR k x y d = .error e):e ≠ 0:=by
 unfold calcR at h
 split at h
 ·exact bind_e h opd2_n fun a e h=>fin_z h
 split at h
 ·exact bind_e h opd2_n fun a e h=>fin_z h
 split at h
 ·exact bind_e h opd2_n fun a e h=>fin_z h
 split at h
 ·unfold divNR at h
  split at h
  ·rename_i he
   cases h
   exact div_z he
  ·cases h
 split at h
 ·exact bind_e h wholeR_e fun a e h=>fin_z h
 split at h
 ·exact bind_e h wholeR_e fun a e h=>fin_z h
 unfold powNR at h
 split at h
 ·rename_i he
  cases h
  exact int_e he
 ·split at h
  ·cases h; decide
  ·exact pow_e h
instance {z0:Z} {op a b:ByteArray} {s:SetM} [ht:Tab z0] [ha:Ltx a] [hb:Ltx b]:PuZ z0 47 #[.string op,.string a,.string b,s.v] (opV (opR (bytes op) (bytes a) (bytes b) s)):=⟨fun z w hz=>Fn1.intro fun hS=>en47 (by
 unfold vc47;generalize hG:opR (bytes op) (bytes a) (bytes b) s = G;unfold opR at hG;refine iV_bx ?_;intro b7 w1 hb7 hS1;generalize hRR:(fun (v:Value) (w':World)=>∃ z' L',Res w z [] w' z' L'/\v = opV G) = RR;have hR:∀ w' z' L' o v,Res w z [] w' z' L'->o = G->v = opV o->RR v w':=fun w' z' L' o v k e e2=>by rw [<- hRR]; exact ⟨_,_,k,by rw [e2,e]⟩
 clear hRR hS;refine CV_fn (B:=[]) (F:=[(b7,.cells s.cells.toArray 39 (0,0))]) (by simpa using hS1) operations_of (by simp) ?_;rintro z2 B2 w2 v2 hz2 hS2 ⟨bo,rfl,rfl⟩
 clear hS1;have hS2:Res w z [] w2 z2 [(bo,mK Value.string opsL),(b7,.cells s.cells.toArray 39 (0,0))]:=hS2;refine kV_lk (mk:=Value.string) (l:=opsL) ?_;rw [getK_ops];simp only [if_true];refine V_run ?_;refine V_run ?_;refine CV_fn (B:=[]) (F:=[(bo,mK Value.string opsL),(b7,.cells s.cells.toArray 39 (0,0))]) (by simpa using hS2) comparisons_of (by simp) ?_;rintro z3 B3 w3 v3 hz3 hS3 ⟨bc,rfl,rfl⟩
 clear hS2;have hS3:Res w z [] w3 z3 [(bc,mK Value.string cmsL),(bo,mK Value.string opsL),(b7,.cells s.cells.toArray 39 (0,0))]:=hS3;refine kV_lk (mk:=Value.string) (l:=cmsL) ?_;rw [getK_cms];simp only [if_true];have hS4:Res w z [] w3 z3 [(b7,.cells s.cells.toArray 39 (0,0))]:=hS3.keep [.at b7];clear hS3
 cases hs:setOk s with
 | false=>
  rw [hs] at hG;haveI:Pu 85 #[s.v] (.bool false):=by rw [<- hs]; infer_instance
  (repeat (first | (refine iDr ?_; intro _ _) | refine V_run ?_ | refine PV_run ?_ | refine HV_run ?_ | refine iV_ld1 ?_ | refine iV_ldN ?_ | (refine iV_bx ?_; intro _ _ _ _) | (refine iV_al ?_; intro _ _ _ _) | (refine iV_mm ?_; intro _ _ _ _) | (refine iU_st ?_; intro _ _) | refine iHV_1 ?_ | refine iHV_N ?_ | refine iRI_1 ?_ | refine iRI_N ?_ | refine Cond_t ?_ | refine Cond_f ?_ | refine JB ?_ | (refine JC ?_; intro _ _ _ _) | (refine JGB ?_; intro _ _ _ _) | refine K1 ?_ | refine K0 ?_ | refine K2 ?_ | refine K3 ?_ | refine K4 ?_ | (refine CV_pu ?_; intro _ _ _ _) | (refine CV_puz ?_; intro _ _ _ _) | refine fRI_1 ?_ | refine fRI_N ?_ | refine gHV_lkI ?_ | refine gRI_lkI ?_ | refine gV_lkI ?_ | refine fV_ldN ?_ | refine fV_ld1 ?_ | refine fHV_ldN ?_ | refine fHV_ld1 ?_ | refine NilW_some ?_ | refine iCW_1 ?_ | refine iCW_N ?_ | refine Pk_b ?_));exact hR _ _ _ _ _ ‹_› hG rfl
 | true=>
 rw [hs] at hG;simp only [Bool.true_eq_false,if_false] at hG;haveI:Pu 85 #[s.v] (.bool true):=by rw [<- hs]; infer_instance
 have hca:=@cm_ar (bytes op);have hok1:=@readO_ok (bytes a);have hok2:=@readO_ok (bytes b);have hcl:=@cmIx_lt (bytes op);have hal:=@arIx_lt (bytes op);generalize cmIx (bytes op) = cm at *;generalize arIx (bytes op) = ar at *
 cases cm with
 | none=>
  cases ar with
  | none=>
   (repeat (first | (refine iDr ?_; intro _ _) | refine V_run ?_ | refine PV_run ?_ | refine HV_run ?_ | refine iV_ld1 ?_ | refine iV_ldN ?_ | (refine iV_bx ?_; intro _ _ _ _) | (refine iV_al ?_; intro _ _ _ _) | (refine iV_mm ?_; intro _ _ _ _) | (refine iU_st ?_; intro _ _) | refine iHV_1 ?_ | refine iHV_N ?_ | refine iRI_1 ?_ | refine iRI_N ?_ | refine Cond_t ?_ | refine Cond_f ?_ | refine JB ?_ | (refine JC ?_; intro _ _ _ _) | (refine JGB ?_; intro _ _ _ _) | refine K1 ?_ | refine K0 ?_ | refine K2 ?_ | refine K3 ?_ | refine K4 ?_ | (refine CV_pu ?_; intro _ _ _ _) | (refine CV_puz ?_; intro _ _ _ _) | refine fRI_1 ?_ | refine fRI_N ?_ | refine gHV_lkI ?_ | refine gRI_lkI ?_ | refine gV_lkI ?_ | refine fV_ldN ?_ | refine fV_ld1 ?_ | refine fHV_ldN ?_ | refine fHV_ld1 ?_ | refine NilW_some ?_ | refine iCW_1 ?_ | refine iCW_N ?_ | refine Pk_b ?_));exact hR _ _ _ _ _ ‹_› hG rfl
  | some k=>
   simp only at hG;(repeat (first | (refine iDr ?_; intro _ _) | refine V_run ?_ | refine PV_run ?_ | refine HV_run ?_ | refine iV_ld1 ?_ | refine iV_ldN ?_ | (refine iV_bx ?_; intro _ _ _ _) | (refine iV_al ?_; intro _ _ _ _) | (refine iV_mm ?_; intro _ _ _ _) | (refine iU_st ?_; intro _ _) | refine iHV_1 ?_ | refine iHV_N ?_ | refine iRI_1 ?_ | refine iRI_N ?_ | refine Cond_t ?_ | refine Cond_f ?_ | refine JB ?_ | (refine JC ?_; intro _ _ _ _) | (refine JGB ?_; intro _ _ _ _) | refine K1 ?_ | refine K0 ?_ | refine K2 ?_ | refine K3 ?_ | refine K4 ?_ | (refine CV_pu ?_; intro _ _ _ _) | (refine CV_puz ?_; intro _ _ _ _) | refine fRI_1 ?_ | refine fRI_N ?_ | refine gHV_lkI ?_ | refine gRI_lkI ?_ | refine gV_lkI ?_ | refine fV_ldN ?_ | refine fV_ld1 ?_ | refine fHV_ldN ?_ | refine fHV_ld1 ?_ | refine NilW_some ?_ | refine iCW_1 ?_ | refine iCW_N ?_ | refine Pk_b ?_));rename_i hS9;clear hS4;generalize readO (bytes a) = oa at *;generalize readO (bytes b) = ob at *
   cases oa with
   | none=>
    refine Cond_t ?_;exact hR _ _ _ _ _ hS9 hG rfl
   | some x=>
   cases ob with
   | none=>
    refine Cond_t ?_;exact hR _ _ _ _ _ hS9 hG rfl
   | some y=>
   refine Cond_f ?_;have hk:=hal rfl;simp only at hG;haveI:Sm x.num.digits:=sm_ok (hok1 rfl);haveI:Sm y.num.digits:=sm_ok (hok2 rfl);simp only [rdR,numE] at hS9;have hce:=@calc_e k x y s.digits;have hco:=@calc_ok k x y s.digits;(repeat (first | (refine iDr ?_; intro _ _) | refine V_run ?_ | refine PV_run ?_ | refine HV_run ?_ | refine iV_ld1 ?_ | refine iV_ldN ?_ | (refine iV_bx ?_; intro _ _ _ _) | (refine iV_al ?_; intro _ _ _ _) | (refine iV_mm ?_; intro _ _ _ _) | (refine iU_st ?_; intro _ _) | refine iHV_1 ?_ | refine iHV_N ?_ | refine iRI_1 ?_ | refine iRI_N ?_ | refine Cond_t ?_ | refine Cond_f ?_ | refine JB ?_ | (refine JC ?_; intro _ _ _ _) | (refine JGB ?_; intro _ _ _ _) | refine K1 ?_ | refine K0 ?_ | refine K2 ?_ | refine K3 ?_ | refine K4 ?_ | (refine CV_pu ?_; intro _ _ _ _) | (refine CV_puz ?_; intro _ _ _ _) | refine fRI_1 ?_ | refine fRI_N ?_ | refine gHV_lkI ?_ | refine gRI_lkI ?_ | refine gV_lkI ?_ | refine fV_ldN ?_ | refine fV_ld1 ?_ | refine fHV_ldN ?_ | refine fHV_ld1 ?_ | refine NilW_some ?_ | refine iCW_1 ?_ | refine iCW_N ?_ | refine Pk_b ?_));refine ar_call hk ?_;intro z10 w10 hz10 hS10;clear hS9;generalize calcR k x y s.digits = r at *
   cases r with
   | error e=>
    have:=hce rfl;(repeat (first | (refine iDr ?_; intro _ _) | refine V_run ?_ | refine PV_run ?_ | refine HV_run ?_ | refine iV_ld1 ?_ | refine iV_ldN ?_ | (refine iV_bx ?_; intro _ _ _ _) | (refine iV_al ?_; intro _ _ _ _) | (refine iV_mm ?_; intro _ _ _ _) | (refine iU_st ?_; intro _ _) | refine iHV_1 ?_ | refine iHV_N ?_ | refine iRI_1 ?_ | refine iRI_N ?_ | refine Cond_t ?_ | refine Cond_f ?_ | refine JB ?_ | (refine JC ?_; intro _ _ _ _) | (refine JGB ?_; intro _ _ _ _) | refine K1 ?_ | refine K0 ?_ | refine K2 ?_ | refine K3 ?_ | refine K4 ?_ | (refine CV_pu ?_; intro _ _ _ _) | (refine CV_puz ?_; intro _ _ _ _) | refine fRI_1 ?_ | refine fRI_N ?_ | refine gHV_lkI ?_ | refine gRI_lkI ?_ | refine gV_lkI ?_ | refine fV_ldN ?_ | refine fV_ld1 ?_ | refine fHV_ldN ?_ | refine fHV_ld1 ?_ | refine NilW_some ?_ | refine iCW_1 ?_ | refine iCW_N ?_ | refine Pk_b ?_));refine Cond_nd (fun h=>?_) (fun h=>?_)
    ·(repeat (first | (refine iDr ?_; intro _ _) | refine V_run ?_ | refine PV_run ?_ | refine HV_run ?_ | refine iV_ld1 ?_ | refine iV_ldN ?_ | (refine iV_bx ?_; intro _ _ _ _) | (refine iV_al ?_; intro _ _ _ _) | (refine iV_mm ?_; intro _ _ _ _) | (refine iU_st ?_; intro _ _) | refine iHV_1 ?_ | refine iHV_N ?_ | refine iRI_1 ?_ | refine iRI_N ?_ | refine Cond_t ?_ | refine Cond_f ?_ | refine JB ?_ | (refine JC ?_; intro _ _ _ _) | (refine JGB ?_; intro _ _ _ _) | refine K1 ?_ | refine K0 ?_ | refine K2 ?_ | refine K3 ?_ | refine K4 ?_ | (refine CV_pu ?_; intro _ _ _ _) | (refine CV_puz ?_; intro _ _ _ _) | refine fRI_1 ?_ | refine fRI_N ?_ | refine gHV_lkI ?_ | refine gRI_lkI ?_ | refine gV_lkI ?_ | refine fV_ldN ?_ | refine fV_ld1 ?_ | refine fHV_ldN ?_ | refine fHV_ld1 ?_ | refine NilW_some ?_ | refine iCW_1 ?_ | refine iCW_N ?_ | refine Pk_b ?_))
     refine hR _ _ _ _ _ ‹_› hG ?_;unfold opV;rw [show codeI (errE (.error e)) = codeE e from if_neg this]
    ·exact absurd h this
   | ok n=>
    have hn:=hco rfl;(repeat (first | (refine iDr ?_; intro _ _) | refine V_run ?_ | refine PV_run ?_ | refine HV_run ?_ | refine iV_ld1 ?_ | refine iV_ldN ?_ | (refine iV_bx ?_; intro _ _ _ _) | (refine iV_al ?_; intro _ _ _ _) | (refine iV_mm ?_; intro _ _ _ _) | (refine iU_st ?_; intro _ _) | refine iHV_1 ?_ | refine iHV_N ?_ | refine iRI_1 ?_ | refine iRI_N ?_ | refine Cond_t ?_ | refine Cond_f ?_ | refine JB ?_ | (refine JC ?_; intro _ _ _ _) | (refine JGB ?_; intro _ _ _ _) | refine K1 ?_ | refine K0 ?_ | refine K2 ?_ | refine K3 ?_ | refine K4 ?_ | (refine CV_pu ?_; intro _ _ _ _) | (refine CV_puz ?_; intro _ _ _ _) | refine fRI_1 ?_ | refine fRI_N ?_ | refine gHV_lkI ?_ | refine gRI_lkI ?_ | refine gV_lkI ?_ | refine fV_ldN ?_ | refine fV_ld1 ?_ | refine fHV_ldN ?_ | refine fHV_ld1 ?_ | refine NilW_some ?_ | refine iCW_1 ?_ | refine iCW_N ?_ | refine Pk_b ?_));rename_i hS11;clear hS10;refine CV_1 (told_of (z0:=z0) (n:=n) (s:=s) (by (repeat (first | assumption | exact Le.refl _ | exact Res.zle (by assumption) | refine Le.trans ?_ (by assumption:Le _ _)))) ((bn_ok hn).mono (by omega)) hs) ?_;rintro z12 w12 v12 hz12 hS12 rfl
    clear hS11;exact hR _ _ _ _ _ hS12 hG rfl
 | some k=>
  obtain rfl:=hca rfl;simp only at hG;(repeat (first | (refine iDr ?_; intro _ _) | refine V_run ?_ | refine PV_run ?_ | refine HV_run ?_ | refine iV_ld1 ?_ | refine iV_ldN ?_ | (refine iV_bx ?_; intro _ _ _ _) | (refine iV_al ?_; intro _ _ _ _) | (refine iV_mm ?_; intro _ _ _ _) | (refine iU_st ?_; intro _ _) | refine iHV_1 ?_ | refine iHV_N ?_ | refine iRI_1 ?_ | refine iRI_N ?_ | refine Cond_t ?_ | refine Cond_f ?_ | refine JB ?_ | (refine JC ?_; intro _ _ _ _) | (refine JGB ?_; intro _ _ _ _) | refine K1 ?_ | refine K0 ?_ | refine K2 ?_ | refine K3 ?_ | refine K4 ?_ | (refine CV_pu ?_; intro _ _ _ _) | (refine CV_puz ?_; intro _ _ _ _) | refine fRI_1 ?_ | refine fRI_N ?_ | refine gHV_lkI ?_ | refine gRI_lkI ?_ | refine gV_lkI ?_ | refine fV_ldN ?_ | refine fV_ld1 ?_ | refine fHV_ldN ?_ | refine fHV_ld1 ?_ | refine NilW_some ?_ | refine iCW_1 ?_ | refine iCW_N ?_ | refine Pk_b ?_));rename_i hS9;clear hS4;have hk:=hcl rfl;have fin:∀ (x y:Nm) ,x = y->True:=fun _ _ _=>trivial
  have str:∀ w' z' L',Res w z [] w' z' L'->(⟨truthL (holdsN k (strC (bytes a) (bytes b))),0,0⟩:OpOut) = G->CV (.func (.func 118) #[] #[]) #[.string a,.string b] w' fun t68 w=>CV (fnv (cmF k)) #[t68] w fun t69 w=>CV (.func (.func 117) #[] #[]) #[t69] w fun t70 w=>RR (.tuple #[t70,.int .i64 0,.int .i64 0]) w:=by
   intro w' z' L' hS' hG;clear hS9;(repeat (first | (refine iDr ?_; intro _ _) | refine V_run ?_ | refine PV_run ?_ | refine HV_run ?_ | refine iV_ld1 ?_ | refine iV_ldN ?_ | (refine iV_bx ?_; intro _ _ _ _) | (refine iV_al ?_; intro _ _ _ _) | (refine iV_mm ?_; intro _ _ _ _) | (refine iU_st ?_; intro _ _) | refine iHV_1 ?_ | refine iHV_N ?_ | refine iRI_1 ?_ | refine iRI_N ?_ | refine Cond_t ?_ | refine Cond_f ?_ | refine JB ?_ | (refine JC ?_; intro _ _ _ _) | (refine JGB ?_; intro _ _ _ _) | refine K1 ?_ | refine K0 ?_ | refine K2 ?_ | refine K3 ?_ | refine K4 ?_ | (refine CV_pu ?_; intro _ _ _ _) | (refine CV_puz ?_; intro _ _ _ _) | refine fRI_1 ?_ | refine fRI_N ?_ | refine gHV_lkI ?_ | refine gRI_lkI ?_ | refine gV_lkI ?_ | refine fV_ldN ?_ | refine fV_ld1 ?_ | refine fHV_ldN ?_ | refine fHV_ld1 ?_ | refine NilW_some ?_ | refine iCW_1 ?_ | refine iCW_N ?_ | refine Pk_b ?_));rename_i hS10;clear hS';refine cm_call hk ?_;intro z11 w11 hz11 hS11;clear hS10;(repeat (first | (refine iDr ?_; intro _ _) | refine V_run ?_ | refine PV_run ?_ | refine HV_run ?_ | refine iV_ld1 ?_ | refine iV_ldN ?_ | (refine iV_bx ?_; intro _ _ _ _) | (refine iV_al ?_; intro _ _ _ _) | (refine iV_mm ?_; intro _ _ _ _) | (refine iU_st ?_; intro _ _) | refine iHV_1 ?_ | refine iHV_N ?_ | refine iRI_1 ?_ | refine iRI_N ?_ | refine Cond_t ?_ | refine Cond_f ?_ | refine JB ?_ | (refine JC ?_; intro _ _ _ _) | (refine JGB ?_; intro _ _ _ _) | refine K1 ?_ | refine K0 ?_ | refine K2 ?_ | refine K3 ?_ | refine K4 ?_ | (refine CV_pu ?_; intro _ _ _ _) | (refine CV_puz ?_; intro _ _ _ _) | refine fRI_1 ?_ | refine fRI_N ?_ | refine gHV_lkI ?_ | refine gRI_lkI ?_ | refine gV_lkI ?_ | refine fV_ldN ?_ | refine fV_ld1 ?_ | refine fHV_ldN ?_ | refine fHV_ld1 ?_ | refine NilW_some ?_ | refine iCW_1 ?_ | refine iCW_N ?_ | refine Pk_b ?_));exact hR _ _ _ _ _ ‹_› hG rfl
  generalize readO (bytes a) = oa at *;generalize readO (bytes b) = ob at *
  cases oa with
  | none=>
   refine Cond_t ?_;exact str _ _ _ hS9 hG
  | some x=>
  cases ob with
  | none=>
   refine Cond_t ?_;exact str _ _ _ hS9 hG
  | some y=>
  refine Cond_f ?_;clear str;simp only at hG;haveI:Sm x.num.digits:=sm_ok (hok1 rfl);haveI:Sm y.num.digits:=sm_ok (hok2 rfl);simp only [rdR,numE] at hS9;have hce:=@cmp_e x.num y.num s;(repeat (first | (refine iDr ?_; intro _ _) | refine V_run ?_ | refine PV_run ?_ | refine HV_run ?_ | refine iV_ld1 ?_ | refine iV_ldN ?_ | (refine iV_bx ?_; intro _ _ _ _) | (refine iV_al ?_; intro _ _ _ _) | (refine iV_mm ?_; intro _ _ _ _) | (refine iU_st ?_; intro _ _) | refine iHV_1 ?_ | refine iHV_N ?_ | refine iRI_1 ?_ | refine iRI_N ?_ | refine Cond_t ?_ | refine Cond_f ?_ | refine JB ?_ | (refine JC ?_; intro _ _ _ _) | (refine JGB ?_; intro _ _ _ _) | refine K1 ?_ | refine K0 ?_ | refine K2 ?_ | refine K3 ?_ | refine K4 ?_ | (refine CV_pu ?_; intro _ _ _ _) | (refine CV_puz ?_; intro _ _ _ _) | refine fRI_1 ?_ | refine fRI_N ?_ | refine gHV_lkI ?_ | refine gRI_lkI ?_ | refine gV_lkI ?_ | refine fV_ldN ?_ | refine fV_ld1 ?_ | refine fHV_ldN ?_ | refine fHV_ld1 ?_ | refine NilW_some ?_ | refine iCW_1 ?_ | refine iCW_N ?_ | refine Pk_b ?_));rename_i hS10;clear hS9;generalize cmpR x.num y.num s = r at *
  cases r with
  | error e=>
   have:=hce rfl;refine Cond_nd (fun h=>?_) (fun h=>?_)
   ·(repeat (first | (refine iDr ?_; intro _ _) | refine V_run ?_ | refine PV_run ?_ | refine HV_run ?_ | refine iV_ld1 ?_ | refine iV_ldN ?_ | (refine iV_bx ?_; intro _ _ _ _) | (refine iV_al ?_; intro _ _ _ _) | (refine iV_mm ?_; intro _ _ _ _) | (refine iU_st ?_; intro _ _) | refine iHV_1 ?_ | refine iHV_N ?_ | refine iRI_1 ?_ | refine iRI_N ?_ | refine Cond_t ?_ | refine Cond_f ?_ | refine JB ?_ | (refine JC ?_; intro _ _ _ _) | (refine JGB ?_; intro _ _ _ _) | refine K1 ?_ | refine K0 ?_ | refine K2 ?_ | refine K3 ?_ | refine K4 ?_ | (refine CV_pu ?_; intro _ _ _ _) | (refine CV_puz ?_; intro _ _ _ _) | refine fRI_1 ?_ | refine fRI_N ?_ | refine gHV_lkI ?_ | refine gRI_lkI ?_ | refine gV_lkI ?_ | refine fV_ldN ?_ | refine fV_ld1 ?_ | refine fHV_ldN ?_ | refine fHV_ld1 ?_ | refine NilW_some ?_ | refine iCW_1 ?_ | refine iCW_N ?_ | refine Pk_b ?_))
    refine hR _ _ _ _ _ ‹_› hG ?_;unfold opV;rw [show codeI (oE (.error e)) = codeE e from if_neg this]
   ·exact absurd h this
  | ok n=>
   refine Cond_nd (fun h=>?_) (fun h=>?_)
   ·exact absurd rfl h
   ·refine cm_call (n:=n) hk ?_
    intro z11 w11 hz11 hS11;clear hS10;(repeat (first | (refine iDr ?_; intro _ _) | refine V_run ?_ | refine PV_run ?_ | refine HV_run ?_ | refine iV_ld1 ?_ | refine iV_ldN ?_ | (refine iV_bx ?_; intro _ _ _ _) | (refine iV_al ?_; intro _ _ _ _) | (refine iV_mm ?_; intro _ _ _ _) | (refine iU_st ?_; intro _ _) | refine iHV_1 ?_ | refine iHV_N ?_ | refine iRI_1 ?_ | refine iRI_N ?_ | refine Cond_t ?_ | refine Cond_f ?_ | refine JB ?_ | (refine JC ?_; intro _ _ _ _) | (refine JGB ?_; intro _ _ _ _) | refine K1 ?_ | refine K0 ?_ | refine K2 ?_ | refine K3 ?_ | refine K4 ?_ | (refine CV_pu ?_; intro _ _ _ _) | (refine CV_puz ?_; intro _ _ _ _) | refine fRI_1 ?_ | refine fRI_N ?_ | refine gHV_lkI ?_ | refine gRI_lkI ?_ | refine gV_lkI ?_ | refine fV_ldN ?_ | refine fV_ld1 ?_ | refine fHV_ldN ?_ | refine fHV_ld1 ?_ | refine NilW_some ?_ | refine iCW_1 ?_ | refine iCW_N ?_ | refine Pk_b ?_));exact hR _ _ _ _ _ ‹_› hG rfl)⟩
end
section
open Go Q Go.RowKit Go.Shelf
end
section
open Go Q Go.RowKit Go.Shelf
end
section
open Go Q Go.RowKit Go.Shelf
end
section
open Go Q Go.RowKit Go.Shelf
end
section
open Go Q Go.RowKit Go.Shelf
end
section
open Go Q Go.RowKit Go.Shelf
instance {b:Bool} {d:ByteArray} {e:Int}:Pu 61 #[.bool b,.string d,.int .i64 e] (.agg [.bool b,.string d,.int .i64 e].toArray):=⟨fun z w=>Fn1.intro fun hS=>en61 (by
 unfold vc61;(repeat (first | (refine iDr ?_; intro _ _) | refine V_run ?_ | refine PV_run ?_ | refine HV_run ?_ | refine iV_ld1 ?_ | refine iV_ldN ?_ | (refine iV_bx ?_; intro _ _ _ _) | (refine iV_al ?_; intro _ _ _ _) | (refine iV_mm ?_; intro _ _ _ _) | (refine iU_st ?_; intro _ _) | refine iHV_1 ?_ | refine iHV_N ?_ | refine iRI_1 ?_ | refine iRI_N ?_ | refine Cond_t ?_ | refine Cond_f ?_ | refine JB ?_ | (refine JC ?_; intro _ _ _ _) | (refine JGB ?_; intro _ _ _ _) | refine K1 ?_ | refine K0 ?_ | refine K2 ?_ | refine K3 ?_ | refine K4 ?_ | (refine CV_pu ?_; intro _ _ _ _) | (refine CV_puz ?_; intro _ _ _ _) | refine fRI_1 ?_ | refine fRI_N ?_ | refine gHV_lkI ?_ | refine gRI_lkI ?_ | refine gV_lkI ?_ | refine fV_ldN ?_ | refine fV_ld1 ?_ | refine fHV_ldN ?_ | refine fHV_ld1 ?_ | refine NilW_some ?_ | refine iCW_1 ?_ | refine iCW_N ?_ | refine Pk_b ?_));exact ⟨_,_,‹_›,rfl⟩)⟩
abbrev nineS:SetM:=⟨9,0,0⟩
instance:Pu 62 #[] nineS.v:=⟨fun z w=>Fn1.intro fun hS=>en62 (by
 unfold vc62;(repeat (first | (refine iDr ?_; intro _ _) | refine V_run ?_ | refine PV_run ?_ | refine HV_run ?_ | refine iV_ld1 ?_ | refine iV_ldN ?_ | (refine iV_bx ?_; intro _ _ _ _) | (refine iV_al ?_; intro _ _ _ _) | (refine iV_mm ?_; intro _ _ _ _) | (refine iU_st ?_; intro _ _) | refine iHV_1 ?_ | refine iHV_N ?_ | refine iRI_1 ?_ | refine iRI_N ?_ | refine Cond_t ?_ | refine Cond_f ?_ | refine JB ?_ | (refine JC ?_; intro _ _ _ _) | (refine JGB ?_; intro _ _ _ _) | refine K1 ?_ | refine K0 ?_ | refine K2 ?_ | refine K3 ?_ | refine K4 ?_ | (refine CV_pu ?_; intro _ _ _ _) | (refine CV_puz ?_; intro _ _ _ _) | refine fRI_1 ?_ | refine fRI_N ?_ | refine gHV_lkI ?_ | refine gRI_lkI ?_ | refine gV_lkI ?_ | refine fV_ldN ?_ | refine fV_ld1 ?_ | refine fHV_ldN ?_ | refine fHV_ld1 ?_ | refine NilW_some ?_ | refine iCW_1 ?_ | refine iCW_N ?_ | refine Pk_b ?_));exact ⟨_,_,‹_›,rfl⟩)⟩
theorem opZ {z0:Z} {op a b:ByteArray} {s:SetM} [ht:Tab z0] [ha:Ltx a] [hb:Ltx b]:PuZ z0 47 #[.string op,.string a,.string b,s.v] (opV (opR (bytes op) (bytes a) (bytes b) s)):=inferInstance
class OpIs (a o b want:ByteArray):Prop where
 h:opR (bytes o) (bytes a) (bytes b) nineS = ⟨bytes want,0,0⟩
instance {z0:Z} {a o b want:ByteArray} [ht:Tab z0] [ha:Ltx a] [hb:Ltx b] [h:OpIs a o b want]:PuZ z0 63 #[.string a,.string o,.string b,.string want] (.bool true):=⟨fun z w hz=>Fn1.intro fun hS=>en63 (by
 unfold vc63;haveI:Tab z:=ht.le hz;haveI:PuZ z 47 #[.string o,.string a,.string b,nineS.v] (.tuple #[.string want,.int .i64 0,.int .i64 0]):=by
  have:=opZ (z0:=z) (op:=o) (a:=a) (b:=b) (s:=nineS);rw [h.h] at this;have e:strB (bytes want) = want:=strB_bytes want;rw [opV,e] at this;exact this
 (repeat (first | (refine iDr ?_; intro _ _) | refine V_run ?_ | refine PV_run ?_ | refine HV_run ?_ | refine iV_ld1 ?_ | refine iV_ldN ?_ | (refine iV_bx ?_; intro _ _ _ _) | (refine iV_al ?_; intro _ _ _ _) | (refine iV_mm ?_; intro _ _ _ _) | (refine iU_st ?_; intro _ _) | refine iHV_1 ?_ | refine iHV_N ?_ | refine iRI_1 ?_ | refine iRI_N ?_ | refine Cond_t ?_ | refine Cond_f ?_ | refine JB ?_ | (refine JC ?_; intro _ _ _ _) | (refine JGB ?_; intro _ _ _ _) | refine K1 ?_ | refine K0 ?_ | refine K2 ?_ | refine K3 ?_ | refine K4 ?_ | (refine CV_pu ?_; intro _ _ _ _) | (refine CV_puz ?_; intro _ _ _ _) | refine fRI_1 ?_ | refine fRI_N ?_ | refine gHV_lkI ?_ | refine gRI_lkI ?_ | refine gV_lkI ?_ | refine fV_ldN ?_ | refine fV_ld1 ?_ | refine fHV_ldN ?_ | refine fHV_ld1 ?_ | refine NilW_some ?_ | refine iCW_1 ?_ | refine iCW_N ?_ | refine Pk_b ?_));exact ⟨_,_,‹_›,by simp⟩)⟩
instance:OpIs ⟨#[49,46,50,48]⟩ ⟨#[43]⟩ ⟨#[48,46,51,48]⟩ ⟨#[49,46,53,48]⟩:=⟨by kernel_rfl⟩
instance:OpIs ⟨#[49,46,53]⟩ ⟨#[42]⟩ ⟨#[50]⟩ ⟨#[51,46,48]⟩:=⟨by kernel_rfl⟩
instance:OpIs ⟨#[49]⟩ ⟨#[47]⟩ ⟨#[51]⟩ ⟨#[48,46,51,51,51,51,51,51,51,51,51]⟩:=⟨by kernel_rfl⟩
instance:OpIs ⟨#[55]⟩ ⟨#[37]⟩ ⟨#[45,50]⟩ ⟨#[45,51]⟩:=⟨by kernel_rfl⟩
instance:OpIs ⟨#[45,55]⟩ ⟨#[47,47]⟩ ⟨#[50]⟩ ⟨#[45,49]⟩:=⟨by kernel_rfl⟩
instance:OpIs ⟨#[50]⟩ ⟨#[42,42]⟩ ⟨#[45,51]⟩ ⟨#[48,46,49,50,53]⟩:=⟨by kernel_rfl⟩
instance:OpIs ⟨#[49,48,48,48,48,48,48,48,48,48]⟩ ⟨#[43]⟩ ⟨#[49]⟩ ⟨#[49,46,48,48,48,48,48,48,48,48,69,43,57]⟩:=⟨by kernel_rfl⟩
instance:OpIs ⟨#[32,49,46,48,32]⟩ ⟨#[61]⟩ ⟨#[49]⟩ ⟨#[49]⟩:=⟨by kernel_rfl⟩
instance:OpIs ⟨#[97,32]⟩ ⟨#[61]⟩ ⟨#[97]⟩ ⟨#[49]⟩:=⟨by kernel_rfl⟩
instance:OpIs ⟨#[97]⟩ ⟨#[60]⟩ ⟨#[98]⟩ ⟨#[49]⟩:=⟨by kernel_rfl⟩
end
section
open Go Q Go.RowKit Go.Shelf
theorem readI {s:ByteArray}:Pu 31 #[.string s] (resV (rdR (readO (bytes s)))):=inferInstance
theorem roundI {x:NumM} {d:Int} [hx:Sm x.digits]:Pu 40 #[x.v,.int .i64 d] (resV (opd1 x d)):=inferInstance
theorem divI {x y:NumM} {d:Int} [hx:Sm x.digits] [hy:Sm y.digits]:Pu 46 #[x.v,y.v,.int .i64 d] (divV (divR x y d)):=inferInstance
theorem tellZ {z0:Z} {x:NumM} {s:SetM} [ht:Tab z0] [hx:Sm x.digits]:PuZ z0 35 #[x.v,s.v] (.tuple #[.string (strB (tellR x s).1),.int .i64 (tellR x s).2]):=inferInstance
instance {c:UInt8}:Sm ⟨#[c]⟩:=⟨by show 1 <= big; decide⟩
instance {c d:UInt8}:Sm ⟨#[c,d]⟩:=⟨by show 2 <= big; decide⟩
instance {c0:UInt8}:Ltx ⟨#[c0]⟩:=⟨by show 1 <= 500000; decide⟩
instance {c0 c1:UInt8}:Ltx ⟨#[c0,c1]⟩:=⟨by show 2 <= 500000; decide⟩
instance {c0 c1 c2:UInt8}:Ltx ⟨#[c0,c1,c2]⟩:=⟨by show 3 <= 500000; decide⟩
instance {c0 c1 c2 c3:UInt8}:Ltx ⟨#[c0,c1,c2,c3]⟩:=⟨by show 4 <= 500000; decide⟩
instance {c0 c1 c2 c3 c4:UInt8}:Ltx ⟨#[c0,c1,c2,c3,c4]⟩:=⟨by show 5 <= 500000; decide⟩
instance {c0 c1 c2 c3 c4 c5 c6 c7 c8 c9:UInt8}:Ltx ⟨#[c0,c1,c2,c3,c4,c5,c6,c7,c8,c9]⟩:=⟨by show 10 <= 500000; decide⟩
instance sane_pu {z0:Z} [ht:Tab z0]:PuZ z0 18 #[] (.bool true):=⟨fun z w hz=>Fn1.intro fun hS=>en18 (by
 unfold vc18;haveI:Tab z:=ht.le hz;haveI:Pu 31 #[.string ⟨#[32,32,45,32,48,49,50,46,53,48,101,49]⟩] (.tuple #[.agg [.bool true,.string ⟨#[49,50,53,48]⟩,.int .i64 (-1)].toArray,.int .i64 0]):=by
  have:=readI (s:=⟨#[32,32,45,32,48,49,50,46,53,48,101,49]⟩);rw [show resV (rdR (readO (bytes ⟨#[32,32,45,32,48,49,50,46,53,48,101,49]⟩))) = .tuple #[.agg [.bool true,.string ⟨#[49,50,53,48]⟩,.int .i64 (-1)].toArray,.int .i64 0] by kernel_rfl] at this;exact this
 haveI:Pu 31 #[.string ⟨#[49,69,49,48,48,48]⟩] (.tuple #[.agg [.bool false,.string ⟨#[]⟩,.int .i64 0].toArray,.int .i64 2]):=by
  have:=readI (s:=⟨#[49,69,49,48,48,48]⟩);rw [show resV (rdR (readO (bytes ⟨#[49,69,49,48,48,48]⟩))) = .tuple #[.agg [.bool false,.string ⟨#[]⟩,.int .i64 0].toArray,.int .i64 2] by kernel_rfl] at this;exact this
 have tellE:∀ (d w:ByteArray) (e f:Int) [Sm d],(strB (tellR ⟨false,d,e⟩ ⟨9,0,f⟩).1) = w->(tellR ⟨false,d,e⟩ ⟨9,0,f⟩).2 = 0->PuZ z 35 #[.agg [.bool false,.string d,.int .i64 e].toArray,.agg [.int .i64 9,.int .i64 0,.int .i64 f].toArray] (.tuple #[.string w,.int .i64 0]):=by
  intro d w e f hd h1 h2;have:=tellZ (z0:=z) (x:=⟨false,d,e⟩) (s:=⟨9,0,f⟩);rw [h1,h2] at this;exact this
 haveI:=tellE ⟨#[49,53]⟩ ⟨#[49,46,53,69,43,57]⟩ 8 0 (by kernel_rfl) (by kernel_rfl);haveI:=tellE ⟨#[49]⟩ ⟨#[49,48,69,43,57]⟩ 10 1 (by kernel_rfl) (by kernel_rfl);haveI:=tellE ⟨#[53]⟩ ⟨#[48,46,48,48,48,48,48,48,48,48,48,48,48,48,48,48,48,48,48,53]⟩ (-18) 0 (by kernel_rfl) (by kernel_rfl);haveI:=tellE ⟨#[53]⟩ ⟨#[53,69,45,49,57]⟩ (-19) 0 (by kernel_rfl) (by kernel_rfl);haveI:Pu 40 #[.agg [.bool false,.string ⟨#[57,57,57,53]⟩,.int .i64 0].toArray,.int .i64 3] (.tuple #[.agg [.bool false,.string ⟨#[49,48,48]⟩,.int .i64 2].toArray,.int .i64 0]):=by
  haveI:Sm (⟨false,⟨#[57,57,57,53]⟩,0⟩:NumM).digits:=⟨by show 4 <= big; decide⟩
  have:=roundI (x:=⟨false,⟨#[57,57,57,53]⟩,0⟩) (d:=3);rw [show resV (opd1 ⟨false,⟨#[57,57,57,53]⟩,0⟩ 3) = .tuple #[.agg [.bool false,.string ⟨#[49,48,48]⟩,.int .i64 2].toArray,.int .i64 0] by kernel_rfl] at this;exact this
 haveI:Pu 46 #[.agg [.bool false,.string ⟨#[50]⟩,.int .i64 0].toArray,.agg [.bool false,.string ⟨#[51]⟩,.int .i64 0].toArray,.int .i64 3] (.tuple #[.agg [.bool false,.string ⟨#[54,54,55]⟩,.int .i64 (-3)].toArray,.agg [.string ⟨#[54,54,54,54]⟩,.string ⟨#[50]⟩].toArray,.int .i64 0]):=by
  haveI:Sm (⟨false,⟨#[50]⟩,0⟩:NumM).digits:=⟨by show 1 <= big; decide⟩
  haveI:Sm (⟨false,⟨#[51]⟩,0⟩:NumM).digits:=⟨by show 1 <= big; decide⟩
  have:=divI (x:=⟨false,⟨#[50]⟩,0⟩) (y:=⟨false,⟨#[51]⟩,0⟩) (d:=3);rw [show divV (divR ⟨false,⟨#[50]⟩,0⟩ ⟨false,⟨#[51]⟩,0⟩ 3) = .tuple #[.agg [.bool false,.string ⟨#[54,54,55]⟩,.int .i64 (-3)].toArray,.agg [.string ⟨#[54,54,54,54]⟩,.string ⟨#[50]⟩].toArray,.int .i64 0] by kernel_rfl] at this;exact this
 (repeat (first | (refine iDr ?_; intro _ _) | refine V_run ?_ | refine PV_run ?_ | refine HV_run ?_ | refine iV_ld1 ?_ | refine iV_ldN ?_ | (refine iV_bx ?_; intro _ _ _ _) | (refine iV_al ?_; intro _ _ _ _) | (refine iV_mm ?_; intro _ _ _ _) | (refine iU_st ?_; intro _ _) | refine iHV_1 ?_ | refine iHV_N ?_ | refine iRI_1 ?_ | refine iRI_N ?_ | refine Cond_t ?_ | refine Cond_f ?_ | refine JB ?_ | (refine JC ?_; intro _ _ _ _) | (refine JGB ?_; intro _ _ _ _) | refine K1 ?_ | refine K0 ?_ | refine K2 ?_ | refine K3 ?_ | refine K4 ?_ | (refine CV_pu ?_; intro _ _ _ _) | (refine CV_puz ?_; intro _ _ _ _) | refine fRI_1 ?_ | refine fRI_N ?_ | refine gHV_lkI ?_ | refine gRI_lkI ?_ | refine gV_lkI ?_ | refine fV_ldN ?_ | refine fV_ld1 ?_ | refine fHV_ldN ?_ | refine fHV_ld1 ?_ | refine NilW_some ?_ | refine iCW_1 ?_ | refine iCW_N ?_ | refine Pk_b ?_));(repeat (first | (refine iDr ?_; intro _ _) | refine V_run ?_ | refine PV_run ?_ | refine HV_run ?_ | refine iV_ld1 ?_ | refine iV_ldN ?_ | (refine iV_bx ?_; intro _ _ _ _) | (refine iV_al ?_; intro _ _ _ _) | (refine iV_mm ?_; intro _ _ _ _) | (refine iU_st ?_; intro _ _) | refine iHV_1 ?_ | refine iHV_N ?_ | refine iRI_1 ?_ | refine iRI_N ?_ | refine Cond_t ?_ | refine Cond_f ?_ | refine JB ?_ | (refine JC ?_; intro _ _ _ _) | (refine JGB ?_; intro _ _ _ _) | (refine J1 ?_; intro _ _) | (refine J0 ?_; intro _ _) | (refine J2 ?_; intro _ _) | (refine J3 ?_; intro _ _) | (refine J4 ?_; intro _ _) | refine K1 ?_ | refine K0 ?_ | refine K2 ?_ | refine K3 ?_ | refine K4 ?_ | (refine CV_pu ?_; intro _ _ _ _) | (refine CV_puz ?_; intro _ _ _ _) | refine fRI_1 ?_ | refine fRI_N ?_ | refine gHV_lkI ?_ | refine gRI_lkI ?_ | refine gV_lkI ?_ | refine fV_ldN ?_ | refine fV_ld1 ?_ | refine fHV_ldN ?_ | refine fHV_ld1 ?_ | refine NilW_some ?_ | refine iCW_1 ?_ | refine iCW_N ?_ | refine Pk_b ?_));exact ⟨_,_,‹_›,by kernel_rfl⟩)⟩
end
section
open Go Q Go.RowKit Go.Shelf
end
section
open Go Q Go.RowKit Go.Shelf
theorem div_sm {x y:NumM} {d:Int}:Sm (dN (divR x y d)).digits/\Sm (dQ (divR x y d))/\Sm (dR (divR x y d)):=by
 have h0:(0:Nat) <= big:=Nat.zero_le _
 cases h:divR x y d with
 | error e=>exact ⟨⟨h0⟩,⟨h0⟩,⟨h0⟩⟩
 | ok r=>
  have hok:=div_ok h;obtain ⟨p,h1,h2⟩:=bind_ok h;obtain ⟨k,rfl,h3,h4,h5,h6⟩:=opd_2 h1
  split at h2
  ·cases h2
  ·rename_i hb
   obtain ⟨n,g1,g2⟩:=bind_ok h2
   cases g2
   have la:=h5.len;have lb:=h6.len;have hsc:=sc_le (a:=p.1) (b:=p.2) (k:=k);have hql:=quo_len (a:=p.1) (b:=p.2) (k:=k);refine ⟨sm_ok hok,⟨?_⟩,⟨?_⟩⟩
   ·show (digB (quoQ p.1 p.2 ((k:Int)).toNat)).size <= big
    rw [size_digB,Int.toNat_natCast];simp only [big]; omega
   ·show (digB (quoR p.1 p.2 ((k:Int)).toNat)).size <= big
    rw [size_digB];have:quoR p.1 p.2 ((k:Int)).toNat < p.2.m:=Nat.mod_lt _ (Nat.pos_of_ne_zero hb);have:=lenD_mono (Nat.le_of_lt this);simp only [big]; omega
end
section
open Go Q Go.RowKit Go.Shelf
theorem digB_inj {a b:Nat}:digB a = digB b ↔ a = b:=by
 refine ⟨fun h=>?_,fun h=>by rw [h]⟩;have:=congrArg (fun s=>valL (bytes s)) h
 simpa only [val_digB] using this
theorem digB_ne (m:Nat):digB m ≠ ⟨#[]⟩:=fun e=>digL_ne m (by rw [<- bytes_digB,e])
noncomputable def sameQ (a b:Nm):Bool:=@decide (sameN a b) (Classical.propDecidable _)
theorem sameQ_iff {a b:Nm}:sameQ a b = true ↔ sameN a b:=by unfold sameQ; exact @decide_eq_true_iff _ (Classical.propDecidable _)
theorem same_00 {a b:Nm} (ha:a.m = 0) (hb:b.m = 0):sameN a b:=⟨min a.e b.e,by omega,by omega,by rw [sv_zero.2 ha,sv_zero.2 hb]⟩
theorem same_of {z:Z} {w:World} {a b:Nm} (ha:Bn a 300000) (hb:Bn b 300000):Fn1 38 #[a.num.v,b.num.v] z w fun _ r=>r = .bool (sameQ a b):=Fn1.intro fun hS=>en38 (by
 unfold vc38;have h1:=ha.len;have h2:=hb.len;have h3:=ha.lo;have h4:=ha.hi;have h5:=hb.lo;have h6:=hb.hi;haveI:Sm a.num.digits:=⟨by show (digB a.m).size <= big; rw [size_digB]; simp only [big]; omega⟩
 haveI:Sm b.num.digits:=⟨by show (digB b.m).size <= big; rw [size_digB]; simp only [big]; omega⟩
 have s1:a.num.digits.size = lenD a.m:=size_digB a.m;have s2:b.num.digits.size = lenD b.m:=size_digB b.m;have e1:a.num.exp = a.e:=rfl;have e2:b.num.exp = b.e:=rfl;haveI:InI (a.num.exp + (a.num.digits.size:Int)):=⟨by omega⟩
 haveI:InI (b.num.exp + (b.num.digits.size:Int)):=⟨by omega⟩
 have r1:rigB 48 a.num.digits = if a.m = 0 then ⟨#[]⟩ else digB (bareM a.m).1:=rig_dig a.m;have r2:rigB 48 b.num.digits = if b.m = 0 then ⟨#[]⟩ else digB (bareM b.m).1:=rig_dig b.m;(repeat (first | (refine iDr ?_; intro _ _) | refine V_run ?_ | refine PV_run ?_ | refine HV_run ?_ | refine iV_ld1 ?_ | refine iV_ldN ?_ | (refine iV_bx ?_; intro _ _ _ _) | (refine iV_al ?_; intro _ _ _ _) | (refine iV_mm ?_; intro _ _ _ _) | (refine iU_st ?_; intro _ _) | refine iHV_1 ?_ | refine iHV_N ?_ | refine iRI_1 ?_ | refine iRI_N ?_ | refine Cond_t ?_ | refine Cond_f ?_ | refine JB ?_ | (refine JC ?_; intro _ _ _ _) | (refine JGB ?_; intro _ _ _ _) | refine K1 ?_ | refine K0 ?_ | refine K2 ?_ | refine K3 ?_ | refine K4 ?_ | (refine CV_pu ?_; intro _ _ _ _) | (refine CV_puz ?_; intro _ _ _ _) | refine fRI_1 ?_ | refine fRI_N ?_ | refine gHV_lkI ?_ | refine gRI_lkI ?_ | refine gV_lkI ?_ | refine fV_ldN ?_ | refine fV_ld1 ?_ | refine fHV_ldN ?_ | refine fHV_ld1 ?_ | refine NilW_some ?_ | refine iCW_1 ?_ | refine iCW_N ?_ | refine Pk_b ?_));rw [r1,r2];have fin:∀ c z' w' L',(c = true ↔ sameN a b)->Res w z [] w' z' L'->∃ z' L',Res w z [] w' z' L'/\Value.bool c = .bool (sameQ a b):=fun c z' w' L' e k=>⟨z',L',k,by
  refine congrArg Value.bool ?_;rw [Bool.eq_iff_iff,e,sameQ_iff]⟩
 refine Cond_b (fun h=>?_) (fun h=>?_)
 ·(repeat (first | (refine iDr ?_; intro _ _) | refine V_run ?_ | refine PV_run ?_ | refine HV_run ?_ | refine iV_ld1 ?_ | refine iV_ldN ?_ | (refine iV_bx ?_; intro _ _ _ _) | (refine iV_al ?_; intro _ _ _ _) | (refine iV_mm ?_; intro _ _ _ _) | (refine iU_st ?_; intro _ _) | refine iHV_1 ?_ | refine iHV_N ?_ | refine iRI_1 ?_ | refine iRI_N ?_ | refine Cond_t ?_ | refine Cond_f ?_ | refine JB ?_ | (refine JC ?_; intro _ _ _ _) | (refine JGB ?_; intro _ _ _ _) | refine K1 ?_ | refine K0 ?_ | refine K2 ?_ | refine K3 ?_ | refine K4 ?_ | (refine CV_pu ?_; intro _ _ _ _) | (refine CV_puz ?_; intro _ _ _ _) | refine fRI_1 ?_ | refine fRI_N ?_ | refine gHV_lkI ?_ | refine gRI_lkI ?_ | refine gV_lkI ?_ | refine fV_ldN ?_ | refine fV_ld1 ?_ | refine fHV_ldN ?_ | refine fHV_ld1 ?_ | refine NilW_some ?_ | refine iCW_1 ?_ | refine iCW_N ?_ | refine Pk_b ?_))
  refine fin _ _ _ _ ?_ ‹_›
  by_cases ha0:a.m = 0
  ·by_cases hb0:b.m = 0
   ·simp [ha0,hb0,same_00]
   ·simp only [ha0,hb0,if_true,if_false,decide_eq_true_eq]
    refine ⟨fun e=>absurd e.symm (digB_ne _),fun e=>absurd ((same_zero e).1 ha0) hb0⟩
  ·by_cases hb0:b.m = 0
   ·simp only [ha0,hb0,if_true,if_false,decide_eq_true_eq]
    refine ⟨fun e=>absurd e (digB_ne _),fun e=>absurd ((same_zero e).2 hb0) ha0⟩
   ·simp [ha0,hb0,digB_ne] at h
 ·have h0:a.m ≠ 0/\b.m ≠ 0:=by
   refine ⟨fun e=>?_,fun e=>?_⟩
   ·simp [e] at h
   ·simp [e] at h
  simp only [h0.1,h0.2,if_false];(repeat (first | (refine iDr ?_; intro _ _) | refine V_run ?_ | refine PV_run ?_ | refine HV_run ?_ | refine iV_ld1 ?_ | refine iV_ldN ?_ | (refine iV_bx ?_; intro _ _ _ _) | (refine iV_al ?_; intro _ _ _ _) | (refine iV_mm ?_; intro _ _ _ _) | (refine iU_st ?_; intro _ _) | refine iHV_1 ?_ | refine iHV_N ?_ | refine iRI_1 ?_ | refine iRI_N ?_ | refine Cond_t ?_ | refine Cond_f ?_ | refine JB ?_ | (refine JC ?_; intro _ _ _ _) | (refine JGB ?_; intro _ _ _ _) | refine K1 ?_ | refine K0 ?_ | refine K2 ?_ | refine K3 ?_ | refine K4 ?_ | (refine CV_pu ?_; intro _ _ _ _) | (refine CV_puz ?_; intro _ _ _ _) | refine fRI_1 ?_ | refine fRI_N ?_ | refine gHV_lkI ?_ | refine gRI_lkI ?_ | refine gV_lkI ?_ | refine fV_ldN ?_ | refine fV_ld1 ?_ | refine fHV_ldN ?_ | refine fHV_ld1 ?_ | refine NilW_some ?_ | refine iCW_1 ?_ | refine iCW_N ?_ | refine Pk_b ?_));refine fin _ _ _ _ ?_ ‹_›;rw [same_iff h0.1 h0.2,<- s1,<- s2,<- e1,<- e2];have hd:decide (digB (bareM a.m).1 = digB (bareM b.m).1) = decide ((bareM a.m).1 = (bareM b.m).1):=decide_eq_decide.2 digB_inj;rw [hd]
  show (bif (bif a.s == b.s then _ else _) then _ else _) = true ↔ _
  cases a.s <;> cases b.s <;> simp [Bool.cond_eq_ite])
def validM (d:Int) (l:List NumM):Bool:=l.all (fun x=>(nmOf x).isSome) && wideD d
theorem valid_of {z:Z} {w:World} {v:Value} {l:List NumM} {d:Int} (hv:SlR El.num z v l) (hl:l.length <= 1000) (hs:∀ x ∈ l,x.digits.size <= big):Fn1 39 #[.int .i64 d,v] z w fun _ r=>r = .bool (validM d l):=Fn1.intro fun hS=>en39 (by
 unfold vc39;obtain ⟨hb,a,cap,rfl,hc,hel⟩:=hv.form;refine V_run ?_;refine LoopG1 (fun (k:Nat) x w'=>x = .int .i64 k/\k <= l.length/\(∀ x ∈ l.take k,(nmOf x).isSome = true)/\∃ z',Le z z'/\Res w z [] w' z' []) (fun k=>l.length - k) 0 ⟨rfl,Nat.zero_le _,by simp,z,Le.refl _,hS⟩ ?_;clear hS;rintro I M k x w2 m ⟨rfl,hk,hall,z2,hz2,hS2⟩ back
 refine V_run ?_;refine Cond_d (fun h=>?_) (fun h=>?_)
 ·have hlt:k < l.length:=by omega
  have hg:l[k]? = some l[k]:=List.getElem?_eq_getElem hlt;have hm:=List.getElem_mem hlt;have htk:l.take (k + 1) = l.take k ++ [l[k]]:=List.take_succ_eq_append_getElem hlt;obtain ⟨b,off,cs,rfl,rfl,hat⟩:=hel k _ hg;generalize l[k] = x at *;haveI:InR (k:Int) (l.length:Nat):=⟨by omega,by omega⟩
  haveI:Sm x.digits:=⟨hs x hm⟩
  refine V_run ?_;rw [Int.toNat_natCast];refine zV_ldN (hat.mono hz2) rfl ?_;haveI:InI ((k:Int) + 1):=⟨by omega⟩
  have hval:(bif decide ((x.digits.size:Int) > 1100) then true else !decide (chkE x = 0)) = !(nmOf x).isSome:=by
   unfold chkE
   cases hx:nmOf x with
   | none=>cases decide ((x.digits.size:Int) > 1100) <;> rfl
   | some n=>
    have:=(nm_yes (x:=x) (by rw [hx]; rfl)).2.1;have h2:decide ((x.digits.size:Int) > 1100) = false:=decide_eq_false (by rw [size_bytes]; omega);rw [h2]; rfl
  (repeat (first | (refine iDr ?_; intro _ _) | refine V_run ?_ | refine PV_run ?_ | refine HV_run ?_ | refine iV_ld1 ?_ | refine iV_ldN ?_ | (refine iV_bx ?_; intro _ _ _ _) | (refine iV_al ?_; intro _ _ _ _) | (refine iV_mm ?_; intro _ _ _ _) | (refine iU_st ?_; intro _ _) | refine iHV_1 ?_ | refine iHV_N ?_ | refine iRI_1 ?_ | refine iRI_N ?_ | refine Cond_t ?_ | refine Cond_f ?_ | refine JB ?_ | (refine JC ?_; intro _ _ _ _) | (refine JGB ?_; intro _ _ _ _) | refine K1 ?_ | refine K0 ?_ | refine K2 ?_ | refine K3 ?_ | refine K4 ?_ | (refine CV_pu ?_; intro _ _ _ _) | (refine CV_puz ?_; intro _ _ _ _) | refine fRI_1 ?_ | refine fRI_N ?_ | refine gHV_lkI ?_ | refine gRI_lkI ?_ | refine gV_lkI ?_ | refine fV_ldN ?_ | refine fV_ld1 ?_ | refine fHV_ldN ?_ | refine fHV_ld1 ?_ | refine NilW_some ?_ | refine iCW_1 ?_ | refine iCW_N ?_ | refine Pk_b ?_));rename_i hS3;clear hS2;rw [hval];refine Cond_n (fun h2=>?_) (fun h2=>?_)
  ·refine ⟨_,_,hS3,?_⟩
   rw [validM,show l.all (fun x=>(nmOf x).isSome) = false from List.all_eq_false.2 ⟨x,hm,by rw [h2]; simp⟩]
   rfl
  ·refine V_run ?_
   refine back (k + 1) _ _ ⟨rfl,by omega,?_,_,?_,hS3.drop⟩ (by omega)
   ·intro y hy
    rw [htk] at hy
    rcases List.mem_append.1 hy with hy | hy
    ·exact hall y hy
    ·rw [List.mem_singleton.1 hy]; exact h2
   ·exact hS3.zle
 ·have hkl:k = l.length:=by omega
  subst hkl;rw [List.take_length] at hall;(repeat (first | (refine iDr ?_; intro _ _) | refine V_run ?_ | refine PV_run ?_ | refine HV_run ?_ | refine iV_ld1 ?_ | refine iV_ldN ?_ | (refine iV_bx ?_; intro _ _ _ _) | (refine iV_al ?_; intro _ _ _ _) | (refine iV_mm ?_; intro _ _ _ _) | (refine iU_st ?_; intro _ _) | refine iHV_1 ?_ | refine iHV_N ?_ | refine iRI_1 ?_ | refine iRI_N ?_ | refine Cond_t ?_ | refine Cond_f ?_ | refine JB ?_ | (refine JC ?_; intro _ _ _ _) | (refine JGB ?_; intro _ _ _ _) | refine K1 ?_ | refine K0 ?_ | refine K2 ?_ | refine K3 ?_ | refine K4 ?_ | (refine CV_pu ?_; intro _ _ _ _) | (refine CV_puz ?_; intro _ _ _ _) | refine fRI_1 ?_ | refine fRI_N ?_ | refine gHV_lkI ?_ | refine gRI_lkI ?_ | refine gV_lkI ?_ | refine fV_ldN ?_ | refine fV_ld1 ?_ | refine fHV_ldN ?_ | refine fHV_ld1 ?_ | refine NilW_some ?_ | refine iCW_1 ?_ | refine iCW_N ?_ | refine Pk_b ?_));refine ⟨_,_,‹_›,?_⟩;rw [validM,List.all_eq_true.2 hall];unfold wideD
  cases h1:decide (d ≥ 1) <;> simp_all)
section
variable {w0 w:World} {z0 z:Z} {B0 L:Bl} {K:Value->World->Prop}
theorem V_valid1 {x:NumM} {d:Int} [hS:Res w0 z0 B0 w z L] [hx:Sm x.digits] (hk:∀ z' w',Le z z'->Res w0 z0 B0 w' z' L->K (.bool (validM d [x])) w') :
  V (bs 64 1 #[(0,x.v)]) w fun t w=>CV (.func (.func 39) #[] #[]) #[.int .i64 d,t] w K:=by
 refine V_nums (parts:=[(0,x.v)]) [x] rfl rfl rfl (by omega) ?_;intro v z1 hz1 w1 hS1 hv;refine CV_1 (valid_of (d:=d) hv (by simp) (by
  intro u hu;rw [List.mem_singleton.1 hu]; exact hx.h)) ?_
 rintro z2 w2 r hz2 hS2 rfl
 exact hk _ _ (hz1.trans hz2) hS2
theorem V_valid3 {x y u:NumM} {d:Int} [hS:Res w0 z0 B0 w z L] [hx:Sm x.digits] [hy:Sm y.digits] [hu:Sm u.digits] (hk:∀ z' w',Le z z'->Res w0 z0 B0 w' z' L->K (.bool (validM d [x,y,u])) w') :
  V (bs 64 3 #[(0,x.v),(1,y.v),(2,u.v)]) w fun t w=>CV (.func (.func 39) #[] #[]) #[.int .i64 d,t] w K:=by
 refine V_nums (parts:=[(0,x.v),(1,y.v),(2,u.v)]) [x,y,u] rfl rfl rfl (by omega) ?_;intro v z1 hz1 w1 hS1 hv;refine CV_1 (valid_of (d:=d) hv (by simp) (by
  intro t ht
  rcases List.mem_cons.1 ht with rfl | ht
  ·exact hx.h
  rcases List.mem_cons.1 ht with rfl | ht
  ·exact hy.h
  rw [List.mem_singleton.1 ht]; exact hu.h)) ?_
 rintro z2 w2 r hz2 hS2 rfl
 exact hk _ _ (hz1.trans hz2) hS2
end
instance {x:NumM}:Pu 41 #[x.v] (oppM x).v:=⟨fun z w=>Fn1.intro fun hS=>en41 (by
 unfold vc41;(repeat (first | (refine iDr ?_; intro _ _) | refine V_run ?_ | refine PV_run ?_ | refine HV_run ?_ | refine iV_ld1 ?_ | refine iV_ldN ?_ | (refine iV_bx ?_; intro _ _ _ _) | (refine iV_al ?_; intro _ _ _ _) | (refine iV_mm ?_; intro _ _ _ _) | (refine iU_st ?_; intro _ _) | refine iHV_1 ?_ | refine iHV_N ?_ | refine iRI_1 ?_ | refine iRI_N ?_ | refine Cond_t ?_ | refine Cond_f ?_ | refine JB ?_ | (refine JC ?_; intro _ _ _ _) | (refine JGB ?_; intro _ _ _ _) | refine K1 ?_ | refine K0 ?_ | refine K2 ?_ | refine K3 ?_ | refine K4 ?_ | (refine CV_pu ?_; intro _ _ _ _) | (refine CV_puz ?_; intro _ _ _ _) | refine fRI_1 ?_ | refine fRI_N ?_ | refine gHV_lkI ?_ | refine gRI_lkI ?_ | refine gV_lkI ?_ | refine fV_ldN ?_ | refine fV_ld1 ?_ | refine fHV_ldN ?_ | refine fHV_ld1 ?_ | refine NilW_some ?_ | refine iCW_1 ?_ | refine iCW_N ?_ | refine Pk_b ?_));refine ⟨_,_,‹_›,?_⟩;unfold oppM
 cases x.neg <;> rfl)⟩
theorem opp_of {n:Nm} (h:n.C):Pu 41 #[n.num.v] (negN n).num.v:=by
 have:=(inferInstance:Pu 41 #[n.num.v] _)
 rw [opp_num h] at this;exact this
end
end Go.Proofs.YtmideenmlhbdjaaGreatDoor
