/- Texts joined: W70, W71, K1. -/
import Derived.Test.YtmideenmlhbdjaaGreatDoorM5
import Derived.Test.YtmideenmlhbdjaaGreatDoorRows
import Derived.WalkKit
import Derived.ProofKit
import Derived.OpenShut
import Derived.Carry
import Derived.Deep.Slices
import Derived.ChangeMaps5
import Derived.LaidMore
import Derived.Lay
set_option linter.unusedSimpArgs false
set_option linter.unusedVariables false
set_option linter.unusedSectionVars false
set_option maxRecDepth 100000
set_option synthInstance.maxHeartbeats 4000000
set_option synthInstance.maxSize 20000
set_option maxHeartbeats 1000000
namespace Go.Proofs.YtmideenmlhbdjaaGreatDoor
section
open Go Q Go.RowKit Go.Shelf
theorem readI {s:ByteArray}:Pu 31 #[.string s] (resV (rdR (readO (bytes s)))):=inferInstance
theorem roundI {x:NumM} {d:Int} [hx:Sm x.digits]:Pu 40 #[x.v,.int .i64 d] (resV (opd1 x d)):=inferInstance
theorem divI {x y:NumM} {d:Int} [hx:Sm x.digits] [hy:Sm y.digits]:Pu 46 #[x.v,y.v,.int .i64 d] (divV (divR x y d)):=inferInstance
theorem tellZ {z0:Z} {x:NumM} {s:SetM} [ht:Tab z0] [hx:Sm x.digits]:PuZ z0 35 #[x.v,s.v] (.tuple #[.string (strB (tellR x s).1),.int .i64 (tellR x s).2]):=inferInstance
instance {c:UInt8}:Sm ⟨#[c]⟩:=⟨by show 1 <= big; decide⟩
instance {c d:UInt8}:Sm ⟨#[c,d]⟩:=⟨by show 2 <= big; decide⟩
instance {c0:UInt8}:Ltx ⟨#[c0]⟩:=⟨by show 1 <= 500000; decide⟩
instance {c0 c1:UInt8}:Ltx ⟨#[c0,c1]⟩:=⟨by show 2 <= 500000; decide⟩
instance {c0 c1 c2:UInt8}:Ltx ⟨#[c0,c1,c2]⟩:=⟨by show 3 <= 500000; decide⟩
instance {c0 c1 c2 c3:UInt8}:Ltx ⟨#[c0,c1,c2,c3]⟩:=⟨by show 4 <= 500000; decide⟩
instance {c0 c1 c2 c3 c4:UInt8}:Ltx ⟨#[c0,c1,c2,c3,c4]⟩:=⟨by show 5 <= 500000; decide⟩
instance {c0 c1 c2 c3 c4 c5 c6 c7 c8 c9:UInt8}:Ltx ⟨#[c0,c1,c2,c3,c4,c5,c6,c7,c8,c9]⟩:=⟨by show 10 <= 500000; decide⟩
instance sane_pu {z0:Z} [ht:Tab z0]:PuZ z0 18 #[] (.bool true):=⟨fun z w hz=>Fn1.intro fun hS=>en18 (by
 unfold vc18;haveI:Tab z:=ht.le hz;haveI:Pu 31 #[.string ⟨#[32,32,45,32,48,49,50,46,53,48,101,49]⟩] (.tuple #[.agg [.bool true,.string ⟨#[49,50,53,48]⟩,.int .i64 (-1)].toArray,.int .i64 0]):=by
  have:=readI (s:=⟨#[32,32,45,32,48,49,50,46,53,48,101,49]⟩);rw [show resV (rdR (readO (bytes ⟨#[32,32,45,32,48,49,50,46,53,48,101,49]⟩))) = .tuple #[.agg [.bool true,.string ⟨#[49,50,53,48]⟩,.int .i64 (-1)].toArray,.int .i64 0] by kernel_rfl] at this;exact this
 haveI:Pu 31 #[.string ⟨#[49,69,49,48,48,48]⟩] (.tuple #[.agg [.bool false,.string ⟨#[]⟩,.int .i64 0].toArray,.int .i64 2]):=by
  have:=readI (s:=⟨#[49,69,49,48,48,48]⟩);rw [show resV (rdR (readO (bytes ⟨#[49,69,49,48,48,48]⟩))) = .tuple #[.agg [.bool false,.string ⟨#[]⟩,.int .i64 0].toArray,.int .i64 2] by kernel_rfl] at this;exact this
 have tellE:∀ (d w:ByteArray) (e f:Int) [Sm d],(strB (tellR ⟨false,d,e⟩ ⟨9,0,f⟩).1) = w->(tellR ⟨false,d,e⟩ ⟨9,0,f⟩).2 = 0->PuZ z 35 #[.agg [.bool false,.string d,.int .i64 e].toArray,.agg [.int .i64 9,.int .i64 0,.int .i64 f].toArray] (.tuple #[.string w,.int .i64 0]):=by
  intro d w e f hd h1 h2;have:=tellZ (z0:=z) (x:=⟨false,d,e⟩) (s:=⟨9,0,f⟩);rw [h1,h2] at this;exact this
 haveI:=tellE ⟨#[49,53]⟩ ⟨#[49,46,53,69,43,57]⟩ 8 0 (by kernel_rfl) (by kernel_rfl);haveI:=tellE ⟨#[49]⟩ ⟨#[49,48,69,43,57]⟩ 10 1 (by kernel_rfl) (by kernel_rfl);haveI:=tellE ⟨#[53]⟩ ⟨#[48,46,48,48,48,48,48,48,48,48,48,48,48,48,48,48,48,48,48,53]⟩ (-18) 0 (by kernel_rfl) (by kernel_rfl);haveI:=tellE ⟨#[53]⟩ ⟨#[53,69,45,49,57]⟩ (-19) 0 (by kernel_rfl) (by kernel_rfl);haveI:Pu 40 #[.agg [.bool false,.string ⟨#[57,57,57,53]⟩,.int .i64 0].toArray,.int .i64 3] (.tuple #[.agg [.bool false,.string ⟨#[49,48,48]⟩,.int .i64 2].toArray,.int .i64 0]):=by
  haveI:Sm (⟨false,⟨#[57,57,57,53]⟩,0⟩:NumM).digits:=⟨by show 4 <= big; decide⟩
  have:=roundI (x:=⟨false,⟨#[57,57,57,53]⟩,0⟩) (d:=3);rw [show resV (opd1 ⟨false,⟨#[57,57,57,53]⟩,0⟩ 3) = .tuple #[.agg [.bool false,.string ⟨#[49,48,48]⟩,.int .i64 2].toArray,.int .i64 0] by kernel_rfl] at this;exact this
 haveI:Pu 46 #[.agg [.bool false,.string ⟨#[50]⟩,.int .i64 0].toArray,.agg [.bool false,.string ⟨#[51]⟩,.int .i64 0].toArray,.int .i64 3] (.tuple #[.agg [.bool false,.string ⟨#[54,54,55]⟩,.int .i64 (-3)].toArray,.agg [.string ⟨#[54,54,54,54]⟩,.string ⟨#[50]⟩].toArray,.int .i64 0]):=by
  haveI:Sm (⟨false,⟨#[50]⟩,0⟩:NumM).digits:=⟨by show 1 <= big; decide⟩
  haveI:Sm (⟨false,⟨#[51]⟩,0⟩:NumM).digits:=⟨by show 1 <= big; decide⟩
  have:=divI (x:=⟨false,⟨#[50]⟩,0⟩) (y:=⟨false,⟨#[51]⟩,0⟩) (d:=3);rw [show divV (divR ⟨false,⟨#[50]⟩,0⟩ ⟨false,⟨#[51]⟩,0⟩ 3) = .tuple #[.agg [.bool false,.string ⟨#[54,54,55]⟩,.int .i64 (-3)].toArray,.agg [.string ⟨#[54,54,54,54]⟩,.string ⟨#[50]⟩].toArray,.int .i64 0] by kernel_rfl] at this;exact this
 (repeat (first | (refine iDr ?_; intro _ _) | refine V_run ?_ | refine PV_run ?_ | refine HV_run ?_ | refine iV_ld1 ?_ | refine iV_ldN ?_ | (refine iV_bx ?_; intro _ _ _ _) | (refine iV_al ?_; intro _ _ _ _) | (refine iV_mm ?_; intro _ _ _ _) | (refine iU_st ?_; intro _ _) | refine iHV_1 ?_ | refine iHV_N ?_ | refine iRI_1 ?_ | refine iRI_N ?_ | refine Cond_t ?_ | refine Cond_f ?_ | refine JB ?_ | (refine JC ?_; intro _ _ _ _) | (refine JGB ?_; intro _ _ _ _) | refine K1 ?_ | refine K0 ?_ | refine K2 ?_ | refine K3 ?_ | refine K4 ?_ | (refine CV_pu ?_; intro _ _ _ _) | (refine CV_puz ?_; intro _ _ _ _) | refine fRI_1 ?_ | refine fRI_N ?_ | refine gHV_lkI ?_ | refine gRI_lkI ?_ | refine gV_lkI ?_ | refine fV_ldN ?_ | refine fV_ld1 ?_ | refine fHV_ldN ?_ | refine fHV_ld1 ?_ | refine NilW_some ?_ | refine iCW_1 ?_ | refine iCW_N ?_ | refine Pk_b ?_));(repeat (first | (refine iDr ?_; intro _ _) | refine V_run ?_ | refine PV_run ?_ | refine HV_run ?_ | refine iV_ld1 ?_ | refine iV_ldN ?_ | (refine iV_bx ?_; intro _ _ _ _) | (refine iV_al ?_; intro _ _ _ _) | (refine iV_mm ?_; intro _ _ _ _) | (refine iU_st ?_; intro _ _) | refine iHV_1 ?_ | refine iHV_N ?_ | refine iRI_1 ?_ | refine iRI_N ?_ | refine Cond_t ?_ | refine Cond_f ?_ | refine JB ?_ | (refine JC ?_; intro _ _ _ _) | (refine JGB ?_; intro _ _ _ _) | (refine J1 ?_; intro _ _) | (refine J0 ?_; intro _ _) | (refine J2 ?_; intro _ _) | (refine J3 ?_; intro _ _) | (refine J4 ?_; intro _ _) | refine K1 ?_ | refine K0 ?_ | refine K2 ?_ | refine K3 ?_ | refine K4 ?_ | (refine CV_pu ?_; intro _ _ _ _) | (refine CV_puz ?_; intro _ _ _ _) | refine fRI_1 ?_ | refine fRI_N ?_ | refine gHV_lkI ?_ | refine gRI_lkI ?_ | refine gV_lkI ?_ | refine fV_ldN ?_ | refine fV_ld1 ?_ | refine fHV_ldN ?_ | refine fHV_ld1 ?_ | refine NilW_some ?_ | refine iCW_1 ?_ | refine iCW_N ?_ | refine Pk_b ?_));exact ⟨_,_,‹_›,by kernel_rfl⟩)⟩
end
section
open Go Q Go.RowKit Go.Shelf
instance {x y:NumM}:Pu 17 #[x.v,y.v] (.bool (decide ((x.digits.size:Int) <= 1100) && decide ((y.digits.size:Int) <= 1100))):=⟨fun z w=>Fn1.intro fun hS=>en17 (by
 unfold vc17;(repeat (first | (refine iDr ?_; intro _ _) | refine V_run ?_ | refine PV_run ?_ | refine HV_run ?_ | refine iV_ld1 ?_ | refine iV_ldN ?_ | (refine iV_bx ?_; intro _ _ _ _) | (refine iV_al ?_; intro _ _ _ _) | (refine iV_mm ?_; intro _ _ _ _) | (refine iU_st ?_; intro _ _) | refine iHV_1 ?_ | refine iHV_N ?_ | refine iRI_1 ?_ | refine iRI_N ?_ | refine Cond_t ?_ | refine Cond_f ?_ | refine JB ?_ | (refine JC ?_; intro _ _ _ _) | (refine JGB ?_; intro _ _ _ _) | refine K1 ?_ | refine K0 ?_ | refine K2 ?_ | refine K3 ?_ | refine K4 ?_ | (refine CV_pu ?_; intro _ _ _ _) | (refine CV_puz ?_; intro _ _ _ _) | refine fRI_1 ?_ | refine fRI_N ?_ | refine gHV_lkI ?_ | refine gRI_lkI ?_ | refine gV_lkI ?_ | refine fV_ldN ?_ | refine fV_ld1 ?_ | refine fHV_ldN ?_ | refine fHV_ld1 ?_ | refine NilW_some ?_ | refine iCW_1 ?_ | refine iCW_N ?_ | refine Pk_b ?_));exact ⟨_,_,‹_›,by cases decide ((x.digits.size:Int) <= 1100) <;> rfl⟩)⟩
theorem law_powers {z:Z} {w:World} {x:NumM} {n d:Int} [hx:Sm x.digits] [ht:Tab z]:Fn1 4 #[x.v,.int .i64 n,.int .i64 d] z w fun _ r=>r = .bool true:=Fn1.intro fun hS=>en4 (by
 unfold vc4;(repeat (first | (refine iDr ?_; intro _ _) | refine V_run ?_ | refine PV_run ?_ | refine HV_run ?_ | refine iV_ld1 ?_ | refine iV_ldN ?_ | (refine iV_bx ?_; intro _ _ _ _) | (refine iV_al ?_; intro _ _ _ _) | (refine iV_mm ?_; intro _ _ _ _) | (refine iU_st ?_; intro _ _) | refine iHV_1 ?_ | refine iHV_N ?_ | refine iRI_1 ?_ | refine iRI_N ?_ | refine Cond_t ?_ | refine Cond_f ?_ | refine JB ?_ | (refine JC ?_; intro _ _ _ _) | (refine JGB ?_; intro _ _ _ _) | refine K1 ?_ | refine K0 ?_ | refine K2 ?_ | refine K3 ?_ | refine K4 ?_ | (refine CV_pu ?_; intro _ _ _ _) | (refine CV_puz ?_; intro _ _ _ _) | refine fRI_1 ?_ | refine fRI_N ?_ | refine gHV_lkI ?_ | refine gRI_lkI ?_ | refine gV_lkI ?_ | refine fV_ldN ?_ | refine fV_ld1 ?_ | refine fHV_ldN ?_ | refine fHV_ld1 ?_ | refine NilW_some ?_ | refine iCW_1 ?_ | refine iCW_N ?_ | refine Pk_b ?_));refine Cond_n (fun h=>?_) (fun h=>?_)
 ·(repeat (first | (refine iDr ?_; intro _ _) | refine V_run ?_ | refine PV_run ?_ | refine HV_run ?_ | refine iV_ld1 ?_ | refine iV_ldN ?_ | (refine iV_bx ?_; intro _ _ _ _) | (refine iV_al ?_; intro _ _ _ _) | (refine iV_mm ?_; intro _ _ _ _) | (refine iU_st ?_; intro _ _) | refine iHV_1 ?_ | refine iHV_N ?_ | refine iRI_1 ?_ | refine iRI_N ?_ | refine Cond_t ?_ | refine Cond_f ?_ | refine JB ?_ | (refine JC ?_; intro _ _ _ _) | (refine JGB ?_; intro _ _ _ _) | refine K1 ?_ | refine K0 ?_ | refine K2 ?_ | refine K3 ?_ | refine K4 ?_ | (refine CV_pu ?_; intro _ _ _ _) | (refine CV_puz ?_; intro _ _ _ _) | refine fRI_1 ?_ | refine fRI_N ?_ | refine gHV_lkI ?_ | refine gRI_lkI ?_ | refine gV_lkI ?_ | refine fV_ldN ?_ | refine fV_ld1 ?_ | refine fHV_ldN ?_ | refine fHV_ld1 ?_ | refine NilW_some ?_ | refine iCW_1 ?_ | refine iCW_N ?_ | refine Pk_b ?_))
  exact ⟨_,_,‹_›,rfl⟩
 ·(repeat (first | (refine iDr ?_; intro _ _) | refine V_run ?_ | refine PV_run ?_ | refine HV_run ?_ | refine iV_ld1 ?_ | refine iV_ldN ?_ | (refine iV_bx ?_; intro _ _ _ _) | (refine iV_al ?_; intro _ _ _ _) | (refine iV_mm ?_; intro _ _ _ _) | (refine iU_st ?_; intro _ _) | refine iHV_1 ?_ | refine iHV_N ?_ | refine iRI_1 ?_ | refine iRI_N ?_ | refine Cond_t ?_ | refine Cond_f ?_ | refine JB ?_ | (refine JC ?_; intro _ _ _ _) | (refine JGB ?_; intro _ _ _ _) | refine K1 ?_ | refine K0 ?_ | refine K2 ?_ | refine K3 ?_ | refine K4 ?_ | (refine CV_pu ?_; intro _ _ _ _) | (refine CV_puz ?_; intro _ _ _ _) | refine fRI_1 ?_ | refine fRI_N ?_ | refine gHV_lkI ?_ | refine gRI_lkI ?_ | refine gV_lkI ?_ | refine fV_ldN ?_ | refine fV_ld1 ?_ | refine fHV_ldN ?_ | refine fHV_ld1 ?_ | refine NilW_some ?_ | refine iCW_1 ?_ | refine iCW_N ?_ | refine Pk_b ?_))
  exact ⟨_,_,‹_›,by simp⟩)
end
section
open Go Q Go.RowKit Go.ChangeShapes Go.WideShapes Go.ChangeAt
theorem ownK:ownKnob Tryz.prog.godebug = none:=by kernel_rfl
theorem laidOutP:laidOutB Tryz.prog = true:=by kernel_rfl
theorem own_start (w:World):Own w (hp w) []:=Own.mk' (fun _ _ h=>h) (fun _ h=>by cases h) List.nodup_nil
theorem u4:Tryz.prog.underlying 4 = some .bool:=by kernel_rfl
theorem u3:Tryz.prog.underlying 3 = some (.int .i64):=by kernel_rfl
theorem u9:Tryz.prog.underlying 9 = some .string:=by kernel_rfl
section
variable {H:Type} {enc:TypeId × Value->H} {P:Program}
def Stays (P:Program) (t:TypeId):Prop:=P.readableRec t = true/\t < P.types.size
theorem trodAll_stays (hl:laidOutB P = true) {W W':World} {sp:Nat->Bool} (hB:Below W.heap.size W W') :
  ∀ {ts:List TypeId} {vs:List Value} {ds:List (DataW H)} {ps:List MemPlace},(∀ t ∈ ts,Stays P t)->DataW.TrodAll enc P W 0 (fun _=>true) true ts vs ds ps->(∀ p ∈ ps,p.block < W.heap.size)->(∀ p ∈ ps,sp p.block = true)->DataW.TrodAll enc P W' 0 sp true ts vs ds ps
 | [],[],[],_,_,h,_,_=>h
 | _ :: _,_ :: _,_ :: _,_,hT,⟨p,q,h1,h2,e⟩,hlt,hs=>⟨p,q,
   WideElems.Trod_stays hl (hT _ List.mem_cons_self).1 (hT _ List.mem_cons_self).2 h1 (fun x hx=>hB.same (hlt x (by rw [e]; exact List.mem_append_left _ hx))) (fun x hx=>hs x (by rw [e]; exact List.mem_append_left _ hx)),
   trodAll_stays hl hB (fun t ht=>hT t (List.mem_cons_of_mem _ ht)) h2 (fun x hx=>hlt x (by rw [e]; exact List.mem_append_right _ hx)) (fun x hx=>hs x (by rw [e]; exact List.mem_append_right _ hx)),e⟩
theorem post_law (hl:laidOutB P = true) {f:Func} {s:ChangeSpec} {apart fresh handsOn again:Bool} {W W':World} {args:Array Value} {ds gs:List (DataW H)} {before:List MemPlace} {tb:TypeId}
  (hW:DataW.Whole enc P f.params.toList s.vars apart W args.toList ds gs before) (hB:Below W.heap.size W W')
  (hr:f.resultTypes = #[tb]) (hu:P.underlying tb = some .bool) (hT:∀ t ∈ f.params.toList,Stays P t) (hv:s.vars = [])
  (h1:(s.fn H (ds ++ gs)).results = [.lit (.bool true)]) (h2:(s.fn H (ds ++ gs)).args = ds) (h3:(s.fn H (ds ++ gs)).vars = []) :
  s.post enc P f apart fresh handsOn again W args (.bool true) W':=by
 have hlt:=hW.lt;obtain ⟨pa,pv,hA,hV,rfl,hz,hn⟩:=id hW;rw [hv] at hV;obtain ⟨rfl,rfl⟩:=trodVars_none hV;have hargs:∀ sp:Nat->Bool,(∀ p ∈ pa,sp p.block = true)->DataW.TrodAll enc P W' 0 sp true f.params.toList args.toList (s.fn H (ds ++ [])).args pa:=fun sp hsp=>by
  rw [h2]; exact trodAll_stays hl hB hT hA (fun p hp=>hlt p (by simpa using hp)) hsp
 have hres:∀ (b:Nat) (sp:Nat->Bool) (hd:Bool),DataW.TrodAll enc P W' b sp hd f.resultTypes.toList ((Value.bool true).resultList f.resultTypes.size) (s.fn H (ds ++ [])).results []:=fun b sp hd=>by
  rw [h1,hr]; exact trodAll_cons_mk (shut_bool hu _) trodAll_mk0
 have hvars:∀ sp:Nat->Bool,DataW.TrodVars enc P W' sp s.vars (s.fn H (ds ++ [])).vars []:=fun sp=>by rw [hv,h3]; rfl
 have hold:∀ p ∈ pa,(fun b=>decide (b < W.heap.size)) p.block = true:=fun p hp=>by simpa using hlt p (by simpa using hp)
 refine ⟨ds,[],pa ++ [],[],pa,[],hW,hres _ _ _,hargs _ hold,hvars _,hB.frame _,fun _=>⟨?_,_,_,([] ++ pa) ++ [],⟨[] ++ pa,[],trodAll_append (hargs _ (fun _ _=>rfl)) (hres _ _ _),hvars _,rfl,?_,?_⟩,?_⟩⟩
 ·exact ok_one hr rfl (okWide_bool_mk hu _)
 ·intro b off hp
  have hp':MemPlace.cell b off ∈ pa ++ []:=by simpa using hp
  rw [hB.frozen (p:=⟨b,off,none⟩) (hlt _ hp')];exact hz b off hp'
 ·intro ha
  simpa using hn ha
 ·intro p hp _
  simpa using hp
end
theorem post_fn1 {H:Type} {enc:TypeId × Value->H} {k:FuncId} {f:Func} {s:ChangeSpec} {apart fresh handsOn again:Bool} {W:World} {args:Array Value} {ds gs:List (DataW H)} {before:List MemPlace}
  (hW:DataW.Whole enc Tryz.prog f.params.toList s.vars apart W args.toList ds gs before)
  (hc:Fn1 k args (hp W) W fun _ r=>r = .bool true)
  (hr:f.resultTypes = #[4]) (hT:∀ t ∈ f.params.toList,Stays Tryz.prog t) (hv:s.vars = [])
  (h1:(s.fn H (ds ++ gs)).results = [.lit (.bool true)]) (h2:(s.fn H (ds ++ gs)).args = ds) (h3:(s.fn H (ds ++ gs)).vars = []) :
  Calls Tryz.prog k args W fun e W'=>∃ v,e = .returned v/\s.post enc Tryz.prog f apart fresh handsOn again W args v W':=by
 refine (hc (own_start W)).mono fun e W' he=>?_
 cases e with
 | returned v=>
  obtain ⟨z',hR,rfl⟩:=he;exact ⟨_,rfl,post_law laidOutP hW hR.below hr u4 hT hv h1 h2 h3⟩
 | _=>exact he.elim
section
variable {H:Type} {enc:TypeId × Value->H} {w:World} {base:Nat} {spare:Nat->Bool} {held:Bool}
theorem fieldAt' {t:TypeId} (hu:Tryz.prog.underlying t = some (.struct (fieldsOf t))) {i ty off:Nat} (hi:((fieldsOf t).toList.map fun f=>(f.type,f.offset))[i]? = some (ty,off)):∃ f,(fieldsOf t)[i]? = some f/\f.type = ty/\f.offset = off:=by
 rw [List.getElem?_map] at hi;obtain ⟨f,h1,h2⟩:=Option.map_eq_some_iff.1 hi;simp only [Prod.mk.injEq] at h2;exact ⟨f,by simpa using h1,h2.1,h2.2⟩
theorem unum:Tryz.prog.underlying 23 = some (.struct (fieldsOf 23)):=by kernel_rfl
theorem num_read {n:Nat} {cs:List Value} {x:DataW H × List MemPlace} (h:DataW.trod enc Tryz.prog w base spare held n 23 cs = some x):∃ o:NumM,cs = o.cells/\o.digits.size <= maxLen:=by
 obtain ⟨xs,m,_,_,hl,hxl,hf⟩:=DataW.trod_struct unum h;have hc4:Tryz.prog.cellsOf 23 = 3:=by kernel_rfl
 rw [hc4] at hl;obtain ⟨f0,a0,b0,c0⟩:=fieldAt' unum (i:=0) (ty:=4) (off:=0) (by kernel_rfl);have h0:=hf 0 f0 a0;obtain ⟨f1,a1,b1,c1⟩:=fieldAt' unum (i:=1) (ty:=9) (off:=1) (by kernel_rfl);have h1:=hf 1 f1 a1;obtain ⟨f2,a2,b2,c2⟩:=fieldAt' unum (i:=2) (ty:=3) (off:=2) (by kernel_rfl);have h2:=hf 2 f2 a2;have hsz:(fieldsOf 23).size = 3:=by kernel_rfl
 rw [hsz] at hxl;rw [b0,c0,show Tryz.prog.cellsOf 4 = 1 by kernel_rfl] at h0;rw [b1,c1,show Tryz.prog.cellsOf 9 = 1 by kernel_rfl] at h1;rw [b2,c2,show Tryz.prog.cellsOf 3 = 1 by kernel_rfl] at h2
 match xs,hxl,cs,hl with
 | [x0,x1,x2],_,[v0,v1,v2],_=>
  obtain ⟨m0,g0,_⟩:=DataW.trod_bool u4 (x:=x0) (by simpa using h0);obtain ⟨m1,g1,_,hs1⟩:=DataW.trod_string u9 (x:=x1) (by simpa using h1);obtain ⟨m2,g2,_⟩:=DataW.trod_int u3 (x:=x2) (by simpa using h2);simp at g0 g1 g2;subst g0; subst g1; subst g2;exact ⟨⟨m0,m1,m2⟩,rfl,hs1⟩
theorem numArg {r:Reach} {b0 n:Nat} {v:Value} {x:DataW H × List MemPlace} (hval:Value.okWide Tryz.prog w r b0 23 v) (h:DataW.trod enc Tryz.prog w base spare held n 23 v.cells.toList = some x):∃ o:NumM,v = o.v/\Sm o.digits:=by
 have hv:∃ cs,v = .agg cs:=by
  simp only [Value.okWide,unum] at hval;exact ⟨_,hval.choose_spec.1⟩
 obtain ⟨cs,rfl⟩:=hv;obtain ⟨o,ho,hs⟩:=num_read h
 cases cs with
 | mk l=>
  simp only [Value.cells] at ho;exact ⟨o,by rw [ho],⟨by simp only [big]; simp only [maxLen] at hs; omega⟩⟩
end
theorem stays_3:Stays Tryz.prog 3:=⟨by kernel_rfl,of_decide_eq_true (by kernel_rfl)⟩
theorem stays_num:Stays Tryz.prog 23:=⟨by kernel_rfl,of_decide_eq_true (by kernel_rfl)⟩
theorem tab_start {W:World} (h:Lib.TabIs Tryz.prog W "internal/strconv.uint64pow10" .u64 Lib.pow10Tab):Tab (hp W):=⟨fun w hw=>by
 unfold Lib.TabIs World.var? at *
 cases hg:Tryz.prog.globalNamed "internal/strconv.uint64pow10" with
 | none=>simp [hg] at h
 | some g=>
  simp only [hg,Option.bind_some] at h ⊢
  cases ho:W.heap[g]? with
  | none=>rw [ho] at h; simp at h
  | some o=>rw [hw g o ho,<- ho]; exact h⟩
theorem laidVars_tab {P:Program} {W:World} {name:String} {k:IntKind} {zs:List Int} {rest:List (String × DataW Unit)} {ps:List MemPlace} {g:Nat} {t e:TypeId} {n:Nat}
  (hg:P.globalNamed name = some g) (hty:(P.globals[g]?).map (·.type) = some t) (ht:P.underlying t = some (.array n e)) (he:P.underlying e = some (.int k)) (hce:P.cellsOf e = 1) (hct:P.cellsOf t = n)
  (h:DataW.LaidVars P W ((name,Lib.tabData k zs) :: rest) ps):Lib.TabIs P W name k zs:=by
 obtain ⟨g',t',cs,fuel,p,q,hg',ht',hvar,hd,_,_⟩:=h;obtain rfl:=Option.some.inj (hg.symm.trans hg');obtain rfl:=Option.some.inj (hty.symm.trans ht');unfold Lib.TabIs;rw [hvar,<- Lib.cells_of_tab ht he hce hct hd]
theorem tab_of {W:World} {a b:String × DataW Unit} {rest:List (String × DataW Unit)} (h:laidMet Tryz.prog (a :: b :: ("internal/strconv.uint64pow10",Rows.laid_internal_strconv_uint64pow10) :: rest) W):Lib.TabIs Tryz.prog W "internal/strconv.uint64pow10" .u64 Lib.pow10Tab:=by
 obtain ⟨ps,hv,_⟩:=h;obtain ⟨a1,b1⟩:=a;obtain ⟨a2,b2⟩:=b;obtain ⟨_,_,_,_,_,_,_,_,_,_,hv,_⟩:=hv;obtain ⟨_,_,_,_,_,_,_,_,_,_,hv,_⟩:=hv;exact laidVars_tab (g:=5) (t:=216) (n:=20) (e:=188) (by kernel_rfl) (by kernel_rfl) (by kernel_rfl) (by kernel_rfl) (by kernel_rfl) (by kernel_rfl) (show DataW.LaidVars Tryz.prog W (("internal/strconv.uint64pow10",Lib.tabData .u64 Lib.pow10Tab) :: rest) _ from hv)
end
end Go.Proofs.YtmideenmlhbdjaaGreatDoor
