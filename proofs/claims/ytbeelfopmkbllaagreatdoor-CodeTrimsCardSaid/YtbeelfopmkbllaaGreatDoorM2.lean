/- Texts joined: VC. -/
import Derived.Test.YtbeelfopmkbllaaGreatDoorM1
set_option linter.unusedSimpArgs false
set_option linter.unusedVariables false
set_option linter.unusedSectionVars false
set_option maxRecDepth 100000
namespace Go.Proofs.YtbeelfopmkbllaaGreatDoor
section
open Go Q
variable {R:Value->World->Prop} {w:World} {t0 t1 t2 t3 t4 t5 t6:Value}
def an157:Ann:=(sD 2 (sD 1 (sD 1 (.seq (sD 1 (.one (.seq (.one (.seqJ [] ([6] ++ rgN 10 78) (.one (.seq (.one (.seq (.one (.seq (.one (.seq (.one (.seq (.one (.seq (.one (.seq (.one (.seq (.one (.seqJ [] ([6] ++ rgN 10 30) (.one (.seq (.one (.seq (.one (.seq (.seq (cD 2 lf lf) (.seq (cD 2 lf lf) (.seq (cD 2 lf lf) (.seq (cD 2 lf lf) (.seq (cD 2 lf lf) (.seq (cD 2 lf lf) (.seq (cD 2 lf lf) (.seq (cD 2 lf lf) (.seq (cD 2 lf lf) (.seq (cD 2 lf lf) (.seq (cD 2 lf lf) (.seq (cD 2 lf lf) (cD 2 lf lf))))))))))))) lf)) (.seq (sD 3 lf) lf))) (cD 2 (sD 1 lf) lf))) (.seq (sD 5 lf) lf))) (.seq (.seq (.draw (.hold 0 (.take 1 (.take 2 (e1 3 (e1 4 (.take 5 .done))))))) lf) lf))) (.seq (.seq (.draw (.hold 0 (.take 1 (.take 2 (e1 3 (e1 4 (.take 5 .done))))))) lf) lf))) (.seq (.seq (.draw (.hold 0 (.take 1 (.take 2 (e1 3 (e1 4 (.take 5 .done))))))) lf) lf))) (.seq (sD 4 lf) lf))) (.seq (.seqJ [6] ([6] ++ rgN 62 12) (.draw (.hold 0 (.take 1 (.take 2 (e1 3 (e1 4 (.take 5 (.split 67 (tkN 6 7 .done) (.hold 6 (.take 7 (.take 8 (e1 9 (e1 10 (.take 11 (.take 12 .done))))))))))))))) lf) lf))) (.seq (sD 7 lf) lf))) (.seq (sD 7 lf) lf))) (cD 2 (sD 1 lf) lf))) (.seq (sD 7 lf) lf))) (.seq (sD 7 lf) lf)))) (sD 4 lf)))))
def vc157 (R:Value->World->Prop) (w:World) (l c b:Value):Prop:=
 V (bx 28 l) w fun a w=>
 ∀ K0:LP,(∀ w,(∀ g:Env,
 V (fa 28 a 2) w fun n w=>
 V (ld 24 n) w fun o w=>
 V (ln 24 o) w fun p w=>
 V (bi .sub 3 p (.int .i64 1)) w fun q w=>
 CV (.func (.func 75) #[] #[]) #[b,(.int .i64 0),q] w fun r w=>
 R r w)->K0 [] w) ->
 ∀ K1:LP,(∀ w,(∀ g:Env,
 V (ld 28 a) w fun s w=>
 CV (.func (.func 228) #[] #[]) #[s,b,(.func (.func 227) #[] #[])] w fun t w=>
 R t w)->K1 [] w) ->
 V (ec .eql 3 9 c (.int .i64 1)) w fun u w=>
 CondW u
 (CV (.func (.func 75) #[] #[]) #[b,(.int .i64 1),(.int .i64 20000)] w fun v w=>
 R v w)
 (V (ec .eql 3 9 c (.int .i64 8)) w fun x w=>
 CondW x
 (V (ec .eql 3 38 b (.int .i64 (-1))) w fun y w=>
 CondW y
 (R (.bool true) w)
 (K1 [] w))
 (V (ec .eql 3 9 c (.int .i64 2)) w fun z w=>
 CondW z
 (K1 [] w)
 (V (ec .eql 3 9 c (.int .i64 3)) w fun a0 w=>
 CondW a0
 (Dr w fun w=>
 HV (ld 28 a) w fun d=>
 CV (.func (.func 225) #[] #[]) #[(.int .i64 2)] w fun b0 w=>
 RunIs (ld 28 a) w d/\(CV (.func (.func 228) #[] #[]) #[d,b,b0] w fun c0 w=>
 R c0 w))
 (V (ec .eql 3 9 c (.int .i64 4)) w fun d0 w=>
 CondW d0
 (Dr w fun w=>
 HV (ld 28 a) w fun f=>
 CV (.func (.func 225) #[] #[]) #[(.int .i64 3)] w fun f0 w=>
 RunIs (ld 28 a) w f/\(CV (.func (.func 228) #[] #[]) #[f,b,f0] w fun h0 w=>
 R h0 w))
 (V (ec .eql 3 9 c (.int .i64 5)) w fun i0 w=>
 CondW i0
 (Dr w fun w=>
 HV (ld 28 a) w fun h=>
 CV (.func (.func 225) #[] #[]) #[(.int .i64 4)] w fun j0 w=>
 RunIs (ld 28 a) w h/\(CV (.func (.func 228) #[] #[]) #[h,b,j0] w fun k0 w=>
 R k0 w))
 (V (ec .eql 3 9 c (.int .i64 6)) w fun l0 w=>
 CondW l0
 (V (ld 28 a) w fun n0 w=>
 CV (.func (.func 228) #[] #[]) #[n0,b,(.func (.func 153) #[] #[])] w fun o0 w=>
 R o0 w)
 (V (ec .eql 3 9 c (.int .i64 7)) w fun p0 w=>
 CondW p0
 (∀ K2:LP,(∀ i,∀ w,(∀ g:Env,
 R i w)->K2 [i] w) ->
 Dr w fun w=>
 HV (ld 28 a) w fun j=>
 CV (.func (.func 225) #[] #[]) #[(.int .i64 2)] w fun q0 w=>
 RunIs (ld 28 a) w j/\(CV (.func (.func 228) #[] #[]) #[j,b,q0] w fun r0 w=>
 CondW r0
 (K2 [(.bool true)] w)
 (HV (ld 28 a) w fun k=>
 CV (.func (.func 225) #[] #[]) #[(.int .i64 4)] w fun s0 w=>
 RunIs (ld 28 a) w k/\(CV (.func (.func 228) #[] #[]) #[k,b,s0] w fun u0 w=>
 K2 [u0] w))))
 (V (ec .eql 3 9 c (.int .i64 9)) w fun v0 w=>
 CondW v0
 (V (fa 28 a 4) w fun x0 w=>
 V (ld 22 x0) w fun y0 w=>
 V (ln 22 y0) w fun z0 w=>
 V (bi .sub 3 z0 (.int .i64 1)) w fun a1 w=>
 CV (.func (.func 75) #[] #[]) #[b,(.int .i64 0),a1] w fun b1 w=>
 R b1 w)
 (V (ec .eql 3 9 c (.int .i64 10)) w fun c1 w=>
 CondW c1
 (V (fa 28 a 1) w fun d1 w=>
 V (ld 23 d1) w fun f1 w=>
 V (ln 23 f1) w fun h1 w=>
 V (bi .sub 3 h1 (.int .i64 1)) w fun i1 w=>
 CV (.func (.func 75) #[] #[]) #[b,(.int .i64 0),i1] w fun j1 w=>
 R j1 w)
 (V (ec .eql 3 9 c (.int .i64 12)) w fun k1 w=>
 CondW k1
 (V (ec .eql 3 86 b (.int .i64 (-1))) w fun l1 w=>
 CondW l1
 (R (.bool true) w)
 (K0 [] w))
 (V (ec .eql 3 9 c (.int .i64 11)) w fun n1 w=>
 CondW n1
 (K0 [] w)
 (V (ec .eql 3 9 c (.int .i64 13)) w fun o1 w=>
 CondW o1
 (V (fa 28 a 5) w fun p1 w=>
 V (ld 26 p1) w fun q1 w=>
 V (ln 26 q1) w fun r1 w=>
 V (bi .sub 3 r1 (.int .i64 1)) w fun s1 w=>
 CV (.func (.func 75) #[] #[]) #[b,(.int .i64 0),s1] w fun u1 w=>
 R u1 w)
 (CV (.func (.func 56) #[] #[]) #[c,b] w fun v1 w=>
 R v1 w)))))))))))))
theorem en157 (h:vc157 R w t0 t1 t2):Calls Tryz.prog 157 #[t0,t1,t2] w (retK R):=enE ⟨by kernel_rfl,by kernel_rfl⟩ (by kernel_rfl:enterW Tryz.prog Tryz.f157 an157 [t0,t1,t2] w R = _) h
def an158:Ann:=(sD 3 (.seq (sD 2 (.one (.seqJ [7] [7,8,9] (cD 2 lf (oD 2)) (.cond (sD 6 lf) (cD 2 (.seq (.reg (opn 4 (.join [24] [21,22,23,24] (.split 20 (opn 4 .done) (opn 4 .done)) (opn 1 (.join [35] (rgN 26 10) (.split 25 (opn 10 .done) (opn 4 (.join [34] [30,31,32,33,34] (.split 29 (opn 5 .done) (opn 5 .done)) (opn 1 .done)))) (opn 1 .done)))))) lf) (cD 2 (.seq (.seq (.reg (opn 5 (.join [56] (rgN 43 14) (.split 42 (opn 14 .done) (opn 4 (.join [55] (rgN 47 9) (.split 46 (opn 4 (.join [54] [51,52,53,54] (.split 50 (opn 4 .done) (opn 4 .done)) (opn 1 .done))) (opn 9 .done)) (opn 1 .done)))) .done))) (.cond (sD 1 lf) lf)) (.seq (.reg (opn 4 (.join [70] (rgN 61 10) (.split 60 (opn 10 .done) (opn 4 (.join [69] [65,66,67,68,69] (.split 64 (opn 5 .done) (opn 5 .done)) (opn 1 .done)))) (opn 1 .done)))) lf)) lf)))))) (sD 1 lf)))
def vc158 (R:Value->World->Prop) (w:World) (q r:Value):Prop:=
 V (bx 28 q) w fun c w=>
 V (bx 38 r) w fun a w=>
 V (fa 38 a 0) w fun s w=>
 V (ld 3 s) w fun b w=>
 ∀ K0:LP,(∀ d,∀ w,(∀ g:Env,
 CondW d
 (V (ld 28 c) w fun t w=>
 V (fa 38 a 1) w fun u w=>
 V (ld 3 u) w fun v w=>
 CV (.func (.func 228) #[] #[]) #[t,v,(.func (.func 229) #[] #[a])] w fun x w=>
 R x w)
 (V (ec .eql 3 6 b (.int .i64 19)) w fun y w=>
 CondW y
 (V (fa 38 a 1) w fun z w=>
 V (ld 3 z) w fun a0 w=>
 V (ec .neq 3 18 a0 (.int .i64 1)) w fun b0 w=>
 ∀ K0:LP,(∀ f,∀ w,(∀ g:Env,
 ∀ K0:LP,(∀ h,∀ w,(∀ g:Env,
 R h w)->K0 [h] w) ->
 CondW f
 (K0 [(.bool true)] w)
 (V (fa 38 a 1) w fun c0 w=>
 V (ld 3 c0) w fun d0 w=>
 V (ec .eql 3 27 d0 (.int .i64 1)) w fun f0 w=>
 ∀ K1:LP,(∀ i,∀ w,(∀ g:Env,
 K0 [i] w)->K1 [i] w) ->
 CondW f0
 (V (ld 28 c) w fun h0 w=>
 V (fa 38 a 2) w fun i0 w=>
 V (ld 3 i0) w fun j0 w=>
 CV (.func (.func 157) #[] #[]) #[h0,(.int .i64 2),j0] w fun k0 w=>
 K1 [k0] w)
 (K1 [(.bool false)] w)))->K0 [f] w) ->
 CondW b0
 (V (fa 38 a 2) w fun l0 w=>
 V (ld 3 l0) w fun n0 w=>
 V (ec .eql 3 22 n0 (.int .i64 0)) w fun o0 w=>
 K0 [o0] w)
 (K0 [(.bool false)] w))
 (V (ec .eql 3 6 b (.int .i64 22)) w fun p0 w=>
 CondW p0
 (V (fa 38 a 1) w fun q0 w=>
 V (ld 3 q0) w fun r0 w=>
 CV (.func (.func 75) #[] #[]) #[r0,(.int .i64 0),(.int .i64 5)] w fun s0 w=>
 V (un .not s0) w fun u0 w=>
 ∀ K0:LP,(∀ j,∀ w,(∀ g:Env,
 CondW j
 (R (.bool false) w)
 (V (fa 38 a 3) w fun v0 w=>
 V (ld 3 v0) w fun x0 w=>
 V (ec .eql 3 58 x0 (.int .i64 (-1))) w fun y0 w=>
 ∀ K0:LP,(∀ k,∀ w,(∀ g:Env,
 R k w)->K0 [k] w) ->
 CondW y0
 (K0 [(.bool true)] w)
 (V (fa 38 a 2) w fun z0 w=>
 V (ld 3 z0) w fun a1 w=>
 V (ec .neq 3 62 a1 (.int .i64 0)) w fun b1 w=>
 ∀ K1:LP,(∀ l,∀ w,(∀ g:Env,
 K0 [l] w)->K1 [l] w) ->
 CondW b1
 (V (ld 28 c) w fun c1 w=>
 V (fa 38 a 3) w fun d1 w=>
 V (ld 3 d1) w fun f1 w=>
 CV (.func (.func 157) #[] #[]) #[c1,(.int .i64 3),f1] w fun h1 w=>
 K1 [h1] w)
 (K1 [(.bool false)] w))))->K0 [j] w) ->
 CondW u0
 (K0 [(.bool true)] w)
 (V (fa 38 a 2) w fun i1 w=>
 V (ld 3 i1) w fun j1 w=>
 V (ec .eql 3 44 j1 (.int .i64 2)) w fun k1 w=>
 ∀ K1:LP,(∀ n,∀ w,(∀ g:Env,
 K0 [n] w)->K1 [n] w) ->
 CondW k1
 (V (fa 38 a 1) w fun l1 w=>
 V (ld 3 l1) w fun n1 w=>
 V (ec .eql 3 48 n1 (.int .i64 3)) w fun o1 w=>
 ∀ K2:LP,(∀ o,∀ w,(∀ g:Env,
 K1 [o] w)->K2 [o] w) ->
 CondW o1
 (K2 [(.bool true)] w)
 (V (fa 38 a 1) w fun p1 w=>
 V (ld 3 p1) w fun q1 w=>
 V (ec .eql 3 52 q1 (.int .i64 5)) w fun r1 w=>
 K2 [r1] w))
 (K1 [(.bool false)] w)))
 (R (.bool true) w))))->K0 [d] w) ->
 V (ec .eql 3 6 b (.int .i64 12)) w fun p w=>
 CondW p
 (K0 [p] w)
 (V (ec .eql 3 6 b (.int .i64 21)) w fun s1 w=>
 K0 [s1] w)
theorem en158 (h:vc158 R w t0 t1):Calls Tryz.prog 158 #[t0,t1] w (retK R):=enE ⟨by kernel_rfl,by kernel_rfl⟩ (by kernel_rfl:enterW Tryz.prog Tryz.f158 an158 [t0,t1] w R = _) h
def an159:Ann:=(sD 1 (sD 79 lf))
def vc159 (R:Value->World->Prop) (w:World):Prop:=
 V (al 234) w fun a w=>
 V (bd 100 #[(0,(.int .i64 1)),(1,(.int .i64 2)),(2,(.int .i64 15))]) w fun b w=>
 V (bd 102 #[(0,(.string ⟨#[99,108,97,117,115,101]⟩)),(1,b)]) w fun c w=>
 V (bd 102 #[(0,(.string ⟨#[100,111,110,101]⟩))]) w fun d w=>
 V (bd 100 #[(0,(.int .i64 2))]) w fun f w=>
 V (bd 102 #[(0,(.string ⟨#[99,111,110,115,116]⟩)),(1,f),(3,(.int .i64 1))]) w fun h w=>
 V (bd 102 #[(0,(.string ⟨#[109,105,115,115]⟩)),(3,(.int .i64 1))]) w fun i w=>
 V (bd 100 #[(0,(.int .i64 3))]) w fun j w=>
 V (bd 102 #[(0,(.string ⟨#[118,97,114]⟩)),(1,j),(3,(.int .i64 1))]) w fun k w=>
 V (bd 100 #[(0,(.int .i64 9))]) w fun l w=>
 V (bd 102 #[(0,(.string ⟨#[115,108,111,116]⟩)),(1,l),(3,(.int .i64 1))]) w fun n w=>
 V (bd 100 #[(0,(.int .i64 4))]) w fun o w=>
 V (bd 102 #[(0,(.string ⟨#[115,116,101,109]⟩)),(1,o),(3,(.int .i64 1))]) w fun p w=>
 V (bd 100 #[(0,(.int .i64 5))]) w fun q w=>
 V (bd 102 #[(0,(.string ⟨#[99,111,109,112]⟩)),(1,q),(3,(.int .i64 1))]) w fun r w=>
 V (bd 100 #[(0,(.int .i64 6))]) w fun s w=>
 V (bd 102 #[(0,(.string ⟨#[112,101,101,107]⟩)),(1,s),(3,(.int .i64 1))]) w fun t w=>
 V (bd 100 #[(0,(.int .i64 17))]) w fun u w=>
 V (bd 102 #[(0,(.string ⟨#[98,105,110]⟩)),(1,u),(2,(.int .i64 2)),(3,(.int .i64 1))]) w fun v w=>
 V (bd 100 #[(0,(.int .i64 18))]) w fun x w=>
 V (bd 102 #[(0,(.string ⟨#[117,110]⟩)),(1,x),(2,(.int .i64 1)),(3,(.int .i64 1))]) w fun y w=>
 V (bd 100 #[(0,(.int .i64 23)),(1,(.int .i64 16)),(2,(.int .i64 14))]) w fun z w=>
 V (bd 102 #[(0,(.string ⟨#[102,117,110]⟩)),(1,z),(3,(.int .i64 1))]) w fun a0 w=>
 V (bd 102 #[(0,(.string ⟨#[116,101,108,108]⟩)),(2,(.int .i64 1)),(3,(.int .i64 1))]) w fun b0 w=>
 V (bd 102 #[(0,(.string ⟨#[112,111,112]⟩)),(2,(.int .i64 1))]) w fun c0 w=>
 V (bd 100 #[(0,(.int .i64 6))]) w fun d0 w=>
 V (bd 102 #[(0,(.string ⟨#[115,101,116]⟩)),(1,d0),(2,(.int .i64 1))]) w fun f0 w=>
 V (bd 100 #[(0,(.int .i64 9))]) w fun h0 w=>
 V (bd 102 #[(0,(.string ⟨#[112,117,116]⟩)),(1,h0),(2,(.int .i64 1))]) w fun i0 w=>
 V (bd 100 #[(0,(.int .i64 11))]) w fun j0 w=>
 V (bd 102 #[(0,(.string ⟨#[100,114,111,112]⟩)),(1,j0)]) w fun k0 w=>
 V (bd 100 #[(0,(.int .i64 12))]) w fun l0 w=>
 V (bd 102 #[(0,(.string ⟨#[112,114,111,99]⟩)),(1,l0)]) w fun n0 w=>
 V (bd 100 #[(0,(.int .i64 15)),(1,(.int .i64 23))]) w fun o0 w=>
 V (bd 102 #[(0,(.string ⟨#[97,100,100,114]⟩)),(1,o0)]) w fun p0 w=>
 V (bd 100 #[(0,(.int .i64 8))]) w fun q0 w=>
 V (bd 102 #[(0,(.string ⟨#[99,109,100]⟩)),(1,q0),(2,(.int .i64 1))]) w fun r0 w=>
 V (bd 100 #[(0,(.int .i64 23)),(1,(.int .i64 16)),(2,(.int .i64 14))]) w fun s0 w=>
 V (bd 102 #[(0,(.string ⟨#[115,117,98]⟩)),(1,s0)]) w fun u0 w=>
 V (bd 100 #[(0,(.int .i64 23)),(1,(.int .i64 15)),(2,(.int .i64 23))]) w fun v0 w=>
 V (bd 102 #[(0,(.string ⟨#[116,114,97,112]⟩)),(1,v0)]) w fun x0 w=>
 V (bd 100 #[(0,(.int .i64 13))]) w fun y0 w=>
 V (bd 102 #[(0,(.string ⟨#[106,117,109,112]⟩)),(1,y0),(5,(.bool true))]) w fun z0 w=>
 V (bd 100 #[(0,(.int .i64 13))]) w fun a1 w=>
 V (bd 102 #[(0,(.string ⟨#[102,97,108,115,101]⟩)),(1,a1),(2,(.int .i64 1))]) w fun b1 w=>
 V (bd 102 #[(0,(.string ⟨#[112,108,117,115]⟩)),(2,(.int .i64 1)),(3,(.int .i64 1))]) w fun c1 w=>
 V (bd 102 #[(0,(.string ⟨#[119,104,111,108,101]⟩)),(2,(.int .i64 1)),(3,(.int .i64 1))]) w fun d1 w=>
 V (bd 100 #[(0,(.int .i64 7)),(1,(.int .i64 22))]) w fun f1 w=>
 V (bd 102 #[(0,(.string ⟨#[111,118,101,114]⟩)),(1,f1),(2,(.int .i64 1)),(4,(.int .i64 1))]) w fun h1 w=>
 V (bd 102 #[(0,(.string ⟨#[99,111,117,110,116]⟩)),(2,(.int .i64 1)),(4,(.int .i64 1))]) w fun i1 w=>
 V (bd 102 #[(0,(.string ⟨#[108,111,111,112]⟩)),(4,(.int .i64 1))]) w fun j1 w=>
 V (bd 100 #[(0,(.int .i64 13))]) w fun k1 w=>
 V (bd 102 #[(0,(.string ⟨#[116,101,115,116]⟩)),(1,k1)]) w fun l1 w=>
 V (bd 100 #[(0,(.int .i64 1)),(1,(.int .i64 2))]) w fun n1 w=>
 V (bd 102 #[(0,(.string ⟨#[116,117,114,110]⟩)),(1,n1)]) w fun o1 w=>
 V (bd 102 #[(0,(.string ⟨#[98,121]⟩))]) w fun p1 w=>
 V (bd 100 #[(0,(.int .i64 20))]) w fun q1 w=>
 V (bd 102 #[(0,(.string ⟨#[111,117,116]⟩)),(1,q1)]) w fun r1 w=>
 V (bd 102 #[(0,(.string ⟨#[105,110,116,101,114,112]⟩)),(2,(.int .i64 1))]) w fun s1 w=>
 V (bd 100 #[(0,(.int .i64 15)),(1,(.int .i64 14))]) w fun u1 w=>
 V (bd 102 #[(0,(.string ⟨#[110,117,109,101,114,105,99]⟩)),(1,u1)]) w fun v1 w=>
 V (bd 100 #[(0,(.int .i64 10)),(1,(.int .i64 19)),(2,(.int .i64 14))]) w fun x1 w=>
 V (bd 102 #[(0,(.string ⟨#[112,97,114,115,101]⟩)),(1,x1)]) w fun y1 w=>
 V (bd 102 #[(0,(.string ⟨#[112,117,115,104]⟩)),(2,(.int .i64 1))]) w fun z1 w=>
 V (bd 102 #[(0,(.string ⟨#[113,117,101,117,101]⟩)),(2,(.int .i64 1))]) w fun a2 w=>
 V (bd 102 #[(0,(.string ⟨#[115,97,121]⟩)),(2,(.int .i64 1))]) w fun b2 w=>
 V (bd 100 #[(0,(.int .i64 14))]) w fun c2 w=>
 V (bd 102 #[(0,(.string ⟨#[101,120,105,116]⟩)),(1,c2),(5,(.bool true))]) w fun d2 w=>
 V (bd 100 #[(0,(.int .i64 14))]) w fun f2 w=>
 V (bd 102 #[(0,(.string ⟨#[114,101,116]⟩)),(1,f2),(5,(.bool true))]) w fun h2 w=>
 V (bd 100 #[(0,(.int .i64 2))]) w fun i2 w=>
 V (bd 102 #[(0,(.string ⟨#[115,105,103,110,97,108]⟩)),(1,i2),(5,(.bool true))]) w fun j2 w=>
 V (bd 102 #[(0,(.string ⟨#[115,105,103,118,97,108]⟩)),(2,(.int .i64 1)),(5,(.bool true))]) w fun k2 w=>
 V (bd 100 #[(0,(.int .i64 2))]) w fun l2 w=>
 V (bd 102 #[(0,(.string ⟨#[116,114,97,99,101]⟩)),(1,l2)]) w fun n2 w=>
 V (bd 100 #[(0,(.int .i64 21))]) w fun o2 w=>
 V (bd 102 #[(0,(.string ⟨#[114,97,105,115,101]⟩)),(1,o2),(5,(.bool true))]) w fun p2 w=>
 V (bd 102 #[(0,(.string ⟨#[101,110,100]⟩)),(5,(.bool true))]) w fun q2 w=>
 V (bd 234 #[(1,c),(2,d),(3,h),(4,i),(5,k),(6,n),(7,p),(8,r),(9,t),(10,v),(11,y),(12,a0),(13,b0),(14,c0),(15,f0),(16,i0),(17,k0),(18,n0),(19,p0),(20,r0),(21,u0),(22,x0),(23,z0),(24,b1),(25,c1),(26,d1),(27,h1),(28,i1),(29,j1),(30,l1),(31,o1),(32,p1),(33,r1),(34,s1),(35,v1),(36,y1),(37,z1),(38,a2),(39,b2),(40,d2),(41,h2),(42,j2),(43,k2),(44,n2),(45,p2),(46,q2)]) w fun r2 w=>
 U (st 234 a r2) w fun w=>
 CW 234 a w fun s2=>R s2 w
theorem en159 (h:vc159 R w ):Calls Tryz.prog 159 #[] w (retK R):=enE ⟨by kernel_rfl,by kernel_rfl⟩ (by kernel_rfl:enterW Tryz.prog Tryz.f159 an159 [] w R = _) h
def an160:Ann:=(sD 2 (.seq (sD 9 (cD 1 (sD 4 lf) lf)) (sD 4 (sD 5 (.seq (.reg (opn 4 (.join [33] [30,31,32,33] (.split 29 (opn 4 .done) (opn 4 .done)) (opn 1 .done)))) lf)))))
def vc160 (R:Value->World->Prop) (w:World) (b j c d:Value):Prop:=
 V (bx 238 j) w fun a w=>
 V (ld 236 c) w fun k w=>
 V (lk 236 k b true) w fun f w=>
 V (ex f 0) w fun l w=>
 V (ex f 1) w fun n w=>
 V (al 238) w fun h w=>
 U (st 238 h l) w fun w=>
 CondW n
 (V (ld 238 h) w fun o w=>
 V (ld 238 a) w fun p w=>
 V (et .eql 238 16 17 o p) w fun q w=>
 R q w)
 (V (ld 236 c) w fun r w=>
 V (ld 238 a) w fun s w=>
 U (mu 236 r b s) w fun w=>
 V (ld 45 d) w fun t w=>
 V (bs 45 1 #[(0,b)]) w fun u w=>
 V (Builtin.append_ #[45,45] 45 #[t,u]) w fun v w=>
 U (st 45 d v) w fun w=>
 V (fa 238 a 0) w fun x w=>
 V (ld 3 x) w fun y w=>
 CV (.func (.func 75) #[] #[]) #[y,(.int .i64 0),(.int .i64 200)] w fun z w=>
 ∀ K0:LP,(∀ i,∀ w,(∀ g:Env,
 R i w)->K0 [i] w) ->
 CondW z
 (V (fa 238 a 1) w fun a0 w=>
 V (ld 3 a0) w fun b0 w=>
 CV (.func (.func 75) #[] #[]) #[b0,(.int .i64 0),(.int .i64 40)] w fun c0 w=>
 K0 [c0] w)
 (K0 [(.bool false)] w))
theorem en160 (h:vc160 R w t0 t1 t2 t3):Calls Tryz.prog 160 #[t0,t1,t2,t3] w (retK R):=enE ⟨by kernel_rfl,by kernel_rfl⟩ (by kernel_rfl:enterW Tryz.prog Tryz.f160 an160 [t0,t1,t2,t3] w R = _) h
def an161:Ann:=(sD 3 (.seq (sD 2 (.one (cD 2 (.seq (.reg (opn 4 (.join [16] [13,14,15,16] (.split 12 (opn 4 .done) (opn 4 .done)) (opn 1 .done)))) lf) (.seqJ [17] [17,18,19] (cD 2 lf (oD 2)) (.cond (sD 4 lf) (.seqJ [23] [23,24,25] (cD 2 lf (oD 2)) (.cond (sD 4 lf) lf))))))) (sD 1 lf)))
def vc161 (R:Value->World->Prop) (w:World) (j k:Value):Prop:=
 V (bx 38 j) w fun l w=>
 V (bx 238 k) w fun b w=>
 V (fa 38 l 0) w fun n w=>
 V (ld 3 n) w fun a w=>
 V (ec .eql 3 6 a (.int .i64 31)) w fun o w=>
 CondW o
 (V (fa 238 b 0) w fun p w=>
 V (ld 3 p) w fun q w=>
 V (ec .eql 3 10 q (.int .i64 0)) w fun r w=>
 ∀ K0:LP,(∀ c,∀ w,(∀ g:Env,
 R c w)->K0 [c] w) ->
 CondW r
 (V (fa 238 b 1) w fun s w=>
 V (ld 3 s) w fun t w=>
 V (bi .gtr 3 t (.int .i64 0)) w fun u w=>
 K0 [u] w)
 (K0 [(.bool false)] w))
 (∀ K0:LP,(∀ d,∀ w,(∀ g:Env,
 CondW d
 (V (fa 238 b 0) w fun v w=>
 V (ld 3 v) w fun x w=>
 V (ec .eql 3 21 x (.int .i64 0)) w fun y w=>
 R y w)
 (∀ K0:LP,(∀ f,∀ w,(∀ g:Env,
 CondW f
 (V (fa 238 b 1) w fun z w=>
 V (ld 3 z) w fun a0 w=>
 V (bi .gtr 3 a0 (.int .i64 0)) w fun b0 w=>
 R b0 w)
 (R (.bool true) w))->K0 [f] w) ->
 V (ec .eql 3 6 a (.int .i64 30)) w fun h w=>
 CondW h
 (K0 [h] w)
 (V (ec .eql 3 6 a (.int .i64 32)) w fun c0 w=>
 K0 [c0] w)))->K0 [d] w) ->
 V (ec .eql 3 6 a (.int .i64 1)) w fun i w=>
 CondW i
 (K0 [i] w)
 (V (ec .eql 3 6 a (.int .i64 2)) w fun d0 w=>
 K0 [d0] w))
theorem en161 (h:vc161 R w t0 t1):Calls Tryz.prog 161 #[t0,t1] w (retK R):=enE ⟨by kernel_rfl,by kernel_rfl⟩ (by kernel_rfl:enterW Tryz.prog Tryz.f161 an161 [t0,t1] w R = _) h
def an162:Ann:=(sD 3 (sD 8 (sD 9 (sD 8 (sD 7 (.seqJ [] (rgN 36 21) (.one (.seq (.reg (opn 4 (.join [42] [41,42] (.split 40 (opn 2 .done) (opn 2 .done)) (opn 1 .done)))) (.cond (oD 5) (cD 4 (oD 7) lf)))) (sD 2 lf)))))))
def vc162 (R:Value->World->Prop) (w:World) (j k l:Value):Prop:=
 V (bx 38 j) w fun b w=>
 V (bx 238 k) w fun a w=>
 V (al 238) w fun d w=>
 V (ld 38 b) w fun n w=>
 CV (.func (.func 49) #[] #[]) #[n] w fun f w=>
 V (ex f 0) w fun o w=>
 V (ex f 1) w fun b1 w=>
 V (al 102) w fun h w=>
 U (st 102 h o) w fun w=>
 V (ld 38 b) w fun p w=>
 CV (.func (.func 17) #[] #[]) #[p] w fun c w=>
 V (ex c 0) w fun q w=>
 V (ex c 1) w fun r w=>
 V (ex c 2) w fun c1 w=>
 V (fa 238 a 0) w fun s w=>
 V (ld 3 s) w fun t w=>
 V (bi .sub 3 r q) w fun u w=>
 V (bi .add 3 t u) w fun v w=>
 V (fa 238 a 0) w fun x w=>
 U (st 3 x v) w fun w=>
 V (fa 238 a 1) w fun y w=>
 V (ld 3 y) w fun z w=>
 V (fa 102 h 4) w fun a0 w=>
 V (ld 3 a0) w fun b0 w=>
 V (bi .add 3 z b0) w fun c0 w=>
 V (fa 238 a 1) w fun d0 w=>
 U (st 3 d0 c0) w fun w=>
 ∀ K0:LP,(∀ w,(∀ g:Env,
 V (ld 238 a) w fun f0 w=>
 U (st 238 d f0) w fun w=>
 CW 238 d w fun h0=>R h0 w)->K0 [] w) ->
 V (fa 38 b 0) w fun i0 w=>
 V (ld 3 i0) w fun j0 w=>
 V (ec .eql 3 38 j0 (.int .i64 30)) w fun k0 w=>
 ∀ K1:LP,(∀ i,∀ w,(∀ g:Env,
 CondW i
 (V (fa 238 a 1) w fun l0 w=>
 V (ld 3 l0) w fun n0 w=>
 V (bi .sub 3 n0 (.int .i64 1)) w fun o0 w=>
 V (fa 238 a 1) w fun p0 w=>
 U (st 3 p0 o0) w fun w=>
 K0 [] w)
 (V (fa 38 b 0) w fun q0 w=>
 V (ld 3 q0) w fun r0 w=>
 V (ec .eql 3 49 r0 (.int .i64 33)) w fun s0 w=>
 CondW s0
 (V (fa 238 a 1) w fun u0 w=>
 V (ld 3 u0) w fun v0 w=>
 V (fa 38 b 1) w fun x0 w=>
 V (ld 3 x0) w fun y0 w=>
 V (bi .sub 3 v0 y0) w fun z0 w=>
 V (fa 238 a 1) w fun a1 w=>
 U (st 3 a1 z0) w fun w=>
 K0 [] w)
 (K0 [] w)))->K1 [i] w) ->
 CondW k0
 (K1 [l] w)
 (K1 [(.bool false)] w)
theorem en162 (h:vc162 R w t0 t1 t2):Calls Tryz.prog 162 #[t0,t1,t2] w (retK R):=enE ⟨by kernel_rfl,by kernel_rfl⟩ (by kernel_rfl:enterW Tryz.prog Tryz.f162 an162 [t0,t1,t2] w R = _) h
def an163:Ann:=(sD 1 (.seq (cD 3 (sD 1 lf) lf) (.seq (sD 1 (.one (.loop [3] ([2,3] ++ rgN 7 11) (.seq (cD 4 lf lf) (.seq (.one (cD 5 (sD 1 lf) lf)) (oD 3)))))) (sD 1 lf))))
def vc163 (R:Value->World->Prop) (w:World) (a:Value):Prop:=
 V (ln 9 a) w fun d w=>
 V (bi .gtr 3 d (.int .i64 1000)) w fun f w=>
 CondW f
 (R (.bool false) w)
 (Lp1 (.int .i64 0) w fun I0 M0 b w m0=>
 V (ln 9 a) w fun h w=>
 V (bi .lss 3 b h) w fun i w=>
 CondW i
 (V (ix 9 a b) w fun j w=>
 CV (.func (.func 230) #[] #[]) #[j] w fun k w=>
 V (un .not k) w fun l w=>
 CondW l
 (R (.bool false) w)
 (V (bi .add 3 b (.int .i64 1)) w fun c w=>
 I0 [c] w/\M0 [c] w < m0))
 (R (.bool true) w))
theorem en163 (h:vc163 R w t0):Calls Tryz.prog 163 #[t0] w (retK R):=enE ⟨by kernel_rfl,by kernel_rfl⟩ (by kernel_rfl:enterW Tryz.prog Tryz.f163 an163 [t0] w R = _) h
def an164:Ann:=(sD 2 (.seq (sD 2 (.one (cD 2 (.seq (.reg (opn 4 (.join [14] [11,12,13,14] (.split 10 (opn 4 .done) (opn 4 .done)) (opn 1 .done)))) lf) (cD 2 (.seq (.reg (opn 4 (.join [24] [21,22,23,24] (.split 20 (opn 4 .done) (opn 4 .done)) (opn 1 .done)))) lf) (.seqJ [25] [25,26,27,28,29] (cD 2 lf (cD 2 lf (cD 2 lf (oD 2)))) (.cond (.seq (.reg (opn 5 (.join [38] [35,36,37,38] (.split 34 (opn 4 .done) (opn 4 .done)) (opn 1 .done)))) lf) (.seqJ [39] [39,40,41,42] (cD 2 lf (cD 2 lf (oD 2))) (.cond (.seq (.reg (opn 4 (.join [50] [47,48,49,50] (.split 46 (opn 4 .done) (opn 4 .done)) (opn 1 .done)))) lf) (.seqJ [51] [51,52,53] (cD 2 lf (oD 2)) (.cond (.seq (.reg (opn 4 (.join [61] [58,59,60,61] (.split 57 (opn 4 .done) (opn 4 .done)) (opn 1 .done)))) lf) lf)))))))))) (sD 1 lf)))
def vc164 (R:Value->World->Prop) (w:World) (t:Value):Prop:=
 V (bx 95 t) w fun a w=>
 V (fa 95 a 0) w fun u w=>
 V (ld 3 u) w fun b w=>
 V (ec .eql 3 4 b (.int .i64 1)) w fun v w=>
 CondW v
 (V (fa 95 a 1) w fun x w=>
 V (ld 9 x) w fun y w=>
 CV (.func (.func 165) #[] #[]) #[y] w fun z w=>
 ∀ K0:LP,(∀ c,∀ w,(∀ g:Env,
 R c w)->K0 [c] w) ->
 CondW z
 (V (fa 95 a 2) w fun a0 w=>
 V (ld 3 a0) w fun b0 w=>
 V (ec .eql 3 12 b0 (.int .i64 0)) w fun c0 w=>
 K0 [c0] w)
 (K0 [(.bool false)] w))
 (V (ec .eql 3 4 b (.int .i64 3)) w fun d0 w=>
 CondW d0
 (V (fa 95 a 1) w fun f0 w=>
 V (ld 9 f0) w fun h0 w=>
 CV (.func (.func 163) #[] #[]) #[h0] w fun i0 w=>
 ∀ K0:LP,(∀ d,∀ w,(∀ g:Env,
 R d w)->K0 [d] w) ->
 CondW i0
 (V (fa 95 a 2) w fun j0 w=>
 V (ld 3 j0) w fun k0 w=>
 V (ec .eql 3 22 k0 (.int .i64 0)) w fun l0 w=>
 K0 [l0] w)
 (K0 [(.bool false)] w))
 (∀ K0:LP,(∀ f,∀ w,(∀ g:Env,
 CondW f
 (V (fa 95 a 1) w fun n0 w=>
 V (ld 9 n0) w fun o0 w=>
 CV (.func (.func 166) #[] #[]) #[o0] w fun p0 w=>
 V (ec .eql 3 32 p0 (.int .i64 2)) w fun q0 w=>
 ∀ K0:LP,(∀ h,∀ w,(∀ g:Env,
 R h w)->K0 [h] w) ->
 CondW q0
 (V (fa 95 a 2) w fun r0 w=>
 V (ld 3 r0) w fun s0 w=>
 V (ec .eql 3 36 s0 (.int .i64 0)) w fun u0 w=>
 K0 [u0] w)
 (K0 [(.bool false)] w))
 (∀ K0:LP,(∀ i,∀ w,(∀ g:Env,
 CondW i
 (V (fa 95 a 1) w fun v0 w=>
 V (ld 9 v0) w fun x0 w=>
 V (ec .eql 9 44 x0 (.string ⟨#[]⟩)) w fun y0 w=>
 ∀ K0:LP,(∀ j,∀ w,(∀ g:Env,
 R j w)->K0 [j] w) ->
 CondW y0
 (V (fa 95 a 2) w fun z0 w=>
 V (ld 3 z0) w fun a1 w=>
 CV (.func (.func 59) #[] #[]) #[a1,(.int .i64 0),(.int .i64 999999999)] w fun b1 w=>
 K0 [b1] w)
 (K0 [(.bool false)] w))
 (∀ K0:LP,(∀ k,∀ w,(∀ g:Env,
 CondW k
 (V (fa 95 a 1) w fun c1 w=>
 V (ld 9 c1) w fun d1 w=>
 V (ec .eql 9 55 d1 (.string ⟨#[]⟩)) w fun f1 w=>
 ∀ K0:LP,(∀ l,∀ w,(∀ g:Env,
 R l w)->K0 [l] w) ->
 CondW f1
 (V (fa 95 a 2) w fun h1 w=>
 V (ld 3 h1) w fun i1 w=>
 V (ec .eql 3 59 i1 (.int .i64 0)) w fun j1 w=>
 K0 [j1] w)
 (K0 [(.bool false)] w))
 (R (.bool false) w))->K0 [k] w) ->
 V (ec .eql 3 4 b (.int .i64 2)) w fun n w=>
 CondW n
 (K0 [n] w)
 (V (ec .eql 3 4 b (.int .i64 11)) w fun k1 w=>
 K0 [k1] w)))->K0 [i] w) ->
 V (ec .eql 3 4 b (.int .i64 5)) w fun o w=>
 CondW o
 (K0 [o] w)
 (V (ec .eql 3 4 b (.int .i64 6)) w fun p w=>
 CondW p
 (K0 [p] w)
 (V (ec .eql 3 4 b (.int .i64 7)) w fun l1 w=>
 K0 [l1] w))))->K0 [f] w) ->
 V (ec .eql 3 4 b (.int .i64 4)) w fun q w=>
 CondW q
 (K0 [q] w)
 (V (ec .eql 3 4 b (.int .i64 8)) w fun r w=>
 CondW r
 (K0 [r] w)
 (V (ec .eql 3 4 b (.int .i64 9)) w fun s w=>
 CondW s
 (K0 [s] w)
 (V (ec .eql 3 4 b (.int .i64 10)) w fun n1 w=>
 K0 [n1] w)))))
theorem en164 (h:vc164 R w t0):Calls Tryz.prog 164 #[t0] w (retK R):=enE ⟨by kernel_rfl,by kernel_rfl⟩ (by kernel_rfl:enterW Tryz.prog Tryz.f164 an164 [t0] w R = _) h
def an165:Ann:=(sD 1 (sD 4 lf))
def vc165 (R:Value->World->Prop) (w:World) (a:Value):Prop:=
 CV (.func (.func 166) #[] #[]) #[a] w fun b w=>
 V (bi .gtr 3 b (.int .i64 1)) w fun c w=>
 R c w
theorem en165 (h:vc165 R w t0):Calls Tryz.prog 165 #[t0] w (retK R):=enE ⟨by kernel_rfl,by kernel_rfl⟩ (by kernel_rfl:enterW Tryz.prog Tryz.f165 an165 [t0] w R = _) h
def an166:Ann:=(sD 1 (.seq (.seq (.reg (opn 4 (.join [13] [10,11,12,13] (.split 9 (opn 4 .done) (opn 4 .done)) .done))) (.cond (sD 1 lf) lf)) (sD 1 (.seq (sD 1 (.one (.loop [3,4] ([2,3,4,5] ++ rgN 14 47) (.seq (cD 4 lf lf) (.seqJ [3] ([2,3,5] ++ rgN 20 41) (.one (sD 4 (.seqJ [] ([2] ++ rgN 23 34) (.seq (.reg (opn 3 (.join [28] [26,27,28] (.split 25 (opn 3 .done) (opn 3 .done)) (opn 1 (.join [36] (rgN 30 7) (.split 29 (opn 7 .done) (opn 3 (.join [35] [33,34,35] (.split 32 (opn 3 .done) (opn 3 .done)) (opn 1 .done)))) (opn 1 (.join [40] [38,39,40] (.split 37 (opn 3 .done) (opn 3 .done)) (opn 1 (.join [44] [42,43,44] (.split 41 (opn 3 .done) (opn 3 .done)) (opn 1 (.join [48] [46,47,48] (.split 45 (opn 3 .done) (opn 3 .done)) (opn 1 (.join [52] [50,51,52] (.split 49 (opn 3 .done) (opn 3 .done)) (opn 1 .done)))))))))))))) (.cond (cD 3 (sD 1 lf) lf) lf)) (cD 2 (oD 3) lf)))) (oD 3)))))) (.seq (.one (.seq (.reg (opn 4 (.join [74] (rgN 66 9) (.split 65 (opn 9 .done) (opn 4 (.join [73] [70,71,72,73] (.split 69 (opn 4 .done) (opn 4 .done)) (opn 1 .done)))) (opn 1 .done)))) (.cond (sD 1 lf) (cD 3 (sD 1 lf) (.seq (.reg (opn 3 (.join [88] (rgN 82 7) (.split 81 (opn 7 .done) (opn 7 .done)) (opn 1 .done)))) (.cond (sD 1 lf) lf)))))) (sD 1 lf))))))
def vc166 (R:Value->World->Prop) (w:World) (a:Value):Prop:=
 V (ln 9 a) w fun u w=>
 V (ec .eql 3 7 u (.int .i64 0)) w fun v w=>
 ∀ K0:LP,(∀ h,∀ w,(∀ g:Env,
 CondW h
 (R (.int .i64 0) w)
 (Lp2 (.int .i64 0) (.int .i64 0) w fun I0 M0 c d w m0=>
 V (ln 9 a) w fun x w=>
 V (bi .lss 3 d x) w fun y w=>
 CondW y
 (∀ K0:LP,(∀ f,∀ w,(∀ g:Env,
 V (bi .add 3 d (.int .i64 1)) w fun i w=>
 I0 [f,i] w/\M0 [f,i] w < m0)->K0 [f] w) ->
 V (ix 9 a d) w fun b w=>
 ∀ K1:LP,(∀ w,(∀ g:Env,
 V (ec .eql 5 57 b (.int .u8 46)) w fun z w=>
 CondW z
 (V (bi .add 3 c (.int .i64 1)) w fun a0 w=>
 K0 [a0] w)
 (K0 [c] w))->K1 [] w) ->
 V (bi .geq 5 b (.int .u8 65)) w fun b0 w=>
 ∀ K2:LP,(∀ j,∀ w,(∀ g:Env,
 ∀ K2:LP,(∀ k,∀ w,(∀ g:Env,
 ∀ K2:LP,(∀ l,∀ w,(∀ g:Env,
 ∀ K2:LP,(∀ n,∀ w,(∀ g:Env,
 ∀ K2:LP,(∀ o,∀ w,(∀ g:Env,
 ∀ K2:LP,(∀ p,∀ w,(∀ g:Env,
 V (un .not p) w fun c0 w=>
 CondW c0
 (CV (.func (.func 231) #[] #[]) #[a] w fun d0 w=>
 V (un .not d0) w fun f0 w=>
 CondW f0
 (R (.int .i64 0) w)
 (K1 [] w))
 (K1 [] w))->K2 [p] w) ->
 CondW o
 (K2 [(.bool true)] w)
 (V (ec .eql 5 50 b (.int .u8 63)) w fun h0 w=>
 K2 [h0] w))->K2 [o] w) ->
 CondW n
 (K2 [(.bool true)] w)
 (V (ec .eql 5 46 b (.int .u8 33)) w fun i0 w=>
 K2 [i0] w))->K2 [n] w) ->
 CondW l
 (K2 [(.bool true)] w)
 (V (ec .eql 5 42 b (.int .u8 95)) w fun j0 w=>
 K2 [j0] w))->K2 [l] w) ->
 CondW k
 (K2 [(.bool true)] w)
 (V (ec .eql 5 38 b (.int .u8 46)) w fun k0 w=>
 K2 [k0] w))->K2 [k] w) ->
 CondW j
 (K2 [(.bool true)] w)
 (V (bi .geq 5 b (.int .u8 48)) w fun l0 w=>
 ∀ K3:LP,(∀ q,∀ w,(∀ g:Env,
 K2 [q] w)->K3 [q] w) ->
 CondW l0
 (V (bi .leq 5 b (.int .u8 57)) w fun n0 w=>
 K3 [n0] w)
 (K3 [(.bool false)] w)))->K2 [j] w) ->
 CondW b0
 (V (bi .leq 5 b (.int .u8 90)) w fun o0 w=>
 K2 [o0] w)
 (K2 [(.bool false)] w))
 (V (ix 9 a (.int .i64 0)) w fun p0 w=>
 V (ec .eql 5 63 p0 (.int .u8 46)) w fun q0 w=>
 ∀ K0:LP,(∀ r,∀ w,(∀ g:Env,
 CondW r
 (R (.int .i64 1) w)
 (V (ec .eql 3 76 c (.int .i64 0)) w fun r0 w=>
 CondW r0
 (R (.int .i64 2) w)
 (V (ec .eql 3 79 c (.int .i64 1)) w fun s0 w=>
 ∀ K0:LP,(∀ s,∀ w,(∀ g:Env,
 CondW s
 (R (.int .i64 3) w)
 (R (.int .i64 4) w))->K0 [s] w) ->
 CondW s0
 (V (ln 9 a) w fun u0 w=>
 V (bi .sub 3 u0 (.int .i64 1)) w fun v0 w=>
 V (ix 9 a v0) w fun x0 w=>
 V (ec .eql 5 86 x0 (.int .u8 46)) w fun y0 w=>
 K0 [y0] w)
 (K0 [(.bool false)] w))))->K0 [r] w) ->
 CondW q0
 (K0 [(.bool true)] w)
 (V (ix 9 a (.int .i64 0)) w fun z0 w=>
 V (bi .geq 5 z0 (.int .u8 48)) w fun a1 w=>
 ∀ K1:LP,(∀ t,∀ w,(∀ g:Env,
 K0 [t] w)->K1 [t] w) ->
 CondW a1
 (V (ix 9 a (.int .i64 0)) w fun b1 w=>
 V (bi .leq 5 b1 (.int .u8 57)) w fun c1 w=>
 K1 [c1] w)
 (K1 [(.bool false)] w)))))->K0 [h] w) ->
 CondW v
 (K0 [(.bool true)] w)
 (V (ln 9 a) w fun d1 w=>
 V (bi .gtr 3 d1 (.int .i64 40)) w fun f1 w=>
 K0 [f1] w)
theorem en166 (h:vc166 R w t0):Calls Tryz.prog 166 #[t0] w (retK R):=enE ⟨by kernel_rfl,by kernel_rfl⟩ (by kernel_rfl:enterW Tryz.prog Tryz.f166 an166 [t0] w R = _) h
def an167:Ann:=(sD 2 (.seq (sD 1 (.one (cD 2 (sD 3 lf) (cD 2 (sD 3 lf) (cD 2 (sD 7 lf) (cD 2 (sD 7 lf) (cD 2 (sD 7 lf) (cD 2 (sD 7 lf) (cD 2 (sD 7 lf) (cD 2 (sD 7 lf) (cD 2 (sD 4 lf) (cD 2 (sD 4 lf) (cD 2 (sD 1 lf) lf))))))))))))) (.seq (cD 7 (sD 1 lf) lf) (sD 7 (.seq (sD 1 (.one (cD 2 (sD 3 lf) (cD 2 (sD 3 lf) (cD 2 (sD 3 lf) (cD 2 (sD 3 lf) lf)))))) (sD 1 lf))))))
def vc167 (R:Value->World->Prop) (w:World) (h a f b:Value):Prop:=
 V (bx 28 h) w fun c w=>
 V (ec .eql 3 10 a (.int .i64 0)) w fun i w=>
 CondW i
 (V (ec .eql 3 13 b (.int .i64 0)) w fun j w=>
 R j w)
 (V (ec .eql 3 10 a (.int .i64 1)) w fun k w=>
 CondW k
 (CV (.func (.func 59) #[] #[]) #[b,(.int .i64 1),(.int .i64 20000)] w fun l w=>
 R l w)
 (V (ec .eql 3 10 a (.int .i64 7)) w fun n w=>
 CondW n
 (V (fa 28 c 4) w fun o w=>
 V (ld 22 o) w fun p w=>
 V (ln 22 p) w fun q w=>
 V (bi .sub 3 q (.int .i64 1)) w fun r w=>
 CV (.func (.func 59) #[] #[]) #[b,(.int .i64 0),r] w fun s w=>
 R s w)
 (V (ec .eql 3 10 a (.int .i64 8)) w fun t w=>
 CondW t
 (V (fa 28 c 1) w fun u w=>
 V (ld 23 u) w fun v w=>
 V (ln 23 v) w fun x w=>
 V (bi .sub 3 x (.int .i64 1)) w fun y w=>
 CV (.func (.func 59) #[] #[]) #[b,(.int .i64 0),y] w fun z w=>
 R z w)
 (V (ec .eql 3 10 a (.int .i64 9)) w fun a0 w=>
 CondW a0
 (V (fa 28 c 2) w fun b0 w=>
 V (ld 24 b0) w fun c0 w=>
 V (ln 24 c0) w fun d0 w=>
 V (bi .sub 3 d0 (.int .i64 1)) w fun f0 w=>
 CV (.func (.func 59) #[] #[]) #[b,(.int .i64 0),f0] w fun h0 w=>
 R h0 w)
 (V (ec .eql 3 10 a (.int .i64 10)) w fun i0 w=>
 CondW i0
 (V (fa 28 c 2) w fun j0 w=>
 V (ld 24 j0) w fun k0 w=>
 V (ln 24 k0) w fun l0 w=>
 V (bi .sub 3 l0 (.int .i64 1)) w fun n0 w=>
 CV (.func (.func 59) #[] #[]) #[b,(.int .i64 (-1)),n0] w fun o0 w=>
 R o0 w)
 (V (ec .eql 3 10 a (.int .i64 11)) w fun p0 w=>
 CondW p0
 (V (fa 28 c 5) w fun q0 w=>
 V (ld 26 q0) w fun r0 w=>
 V (ln 26 r0) w fun s0 w=>
 V (bi .sub 3 s0 (.int .i64 1)) w fun u0 w=>
 CV (.func (.func 59) #[] #[]) #[b,(.int .i64 0),u0] w fun v0 w=>
 R v0 w)
 (V (ec .eql 3 10 a (.int .i64 12)) w fun x0 w=>
 CondW x0
 (V (fa 28 c 0) w fun y0 w=>
 V (ld 22 y0) w fun z0 w=>
 V (ln 22 z0) w fun a1 w=>
 V (bi .sub 3 a1 (.int .i64 1)) w fun b1 w=>
 CV (.func (.func 59) #[] #[]) #[b,(.int .i64 (-1)),b1] w fun c1 w=>
 R c1 w)
 (V (ec .eql 3 10 a (.int .i64 13)) w fun d1 w=>
 CondW d1
 (CV (.func (.func 59) #[] #[]) #[b,(.int .i64 0),f] w fun f1 w=>
 R f1 w)
 (V (ec .eql 3 10 a (.int .i64 14)) w fun h1 w=>
 CondW h1
 (CV (.func (.func 59) #[] #[]) #[b,(.int .i64 1),f] w fun i1 w=>
 R i1 w)
 (V (ec .eql 3 10 a (.int .i64 15)) w fun j1 w=>
 CondW j1
 (R (.bool true) w)
 (V (fa 28 c 0) w fun k1 w=>
 V (ld 22 k1) w fun l1 w=>
 V (ln 22 l1) w fun n1 w=>
 V (bi .sub 3 n1 (.int .i64 1)) w fun o1 w=>
 CV (.func (.func 59) #[] #[]) #[b,(.int .i64 0),o1] w fun p1 w=>
 V (un .not p1) w fun q1 w=>
 CondW q1
 (R (.bool false) w)
 (V (fa 28 c 0) w fun r1 w=>
 V (ld 22 r1) w fun s1 w=>
 V (ia 22 s1 b) w fun u1 w=>
 V (ld 9 u1) w fun v1 w=>
 CV (.func (.func 166) #[] #[]) #[v1] w fun d w=>
 V (ec .eql 3 92 a (.int .i64 3)) w fun x1 w=>
 CondW x1
 (V (ec .eql 3 95 d (.int .i64 2)) w fun y1 w=>
 R y1 w)
 (V (ec .eql 3 92 a (.int .i64 4)) w fun z1 w=>
 CondW z1
 (V (ec .eql 3 99 d (.int .i64 3)) w fun a2 w=>
 R a2 w)
 (V (ec .eql 3 92 a (.int .i64 5)) w fun b2 w=>
 CondW b2
 (V (ec .eql 3 103 d (.int .i64 4)) w fun c2 w=>
 R c2 w)
 (V (ec .eql 3 92 a (.int .i64 6)) w fun d2 w=>
 CondW d2
 (V (bi .gtr 3 d (.int .i64 1)) w fun f2 w=>
 R f2 w)
 (R (.bool true) w))))))))))))))))
theorem en167 (h:vc167 R w t0 t1 t2 t3):Calls Tryz.prog 167 #[t0,t1,t2,t3] w (retK R):=enE ⟨by kernel_rfl,by kernel_rfl⟩ (by kernel_rfl:enterW Tryz.prog Tryz.f167 an167 [t0,t1,t2,t3] w R = _) h
def an168:Ann:=(sD 1 (sD 2 lf))
def vc168 (R:Value->World->Prop) (w:World):Prop:=
 V (bs 22 24 #[(0,(.string ⟨#[43]⟩)),(1,(.string ⟨#[45]⟩)),(2,(.string ⟨#[42]⟩)),(3,(.string ⟨#[47]⟩)),(4,(.string ⟨#[37]⟩)),(5,(.string ⟨#[47,47]⟩)),(6,(.string ⟨#[42,42]⟩)),(7,(.string ⟨#[124,124]⟩)),(8,(.string ⟨#[32]⟩)),(9,(.string ⟨#[61]⟩)),(10,(.string ⟨#[92,61]⟩)),(11,(.string ⟨#[62]⟩)),(12,(.string ⟨#[60]⟩)),(13,(.string ⟨#[62,61]⟩)),(14,(.string ⟨#[60,61]⟩)),(15,(.string ⟨#[61,61]⟩)),(16,(.string ⟨#[92,61,61]⟩)),(17,(.string ⟨#[62,62]⟩)),(18,(.string ⟨#[60,60]⟩)),(19,(.string ⟨#[62,62,61]⟩)),(20,(.string ⟨#[60,60,61]⟩)),(21,(.string ⟨#[38]⟩)),(22,(.string ⟨#[124]⟩)),(23,(.string ⟨#[38,38]⟩))]) w fun a w=>
 R a w
theorem en168 (h:vc168 R w ):Calls Tryz.prog 168 #[] w (retK R):=enE ⟨by kernel_rfl,by kernel_rfl⟩ (by kernel_rfl:enterW Tryz.prog Tryz.f168 an168 [] w R = _) h
def an169:Ann:=(sD 1 (sD 2 lf))
def vc169 (R:Value->World->Prop) (w:World):Prop:=
 V (bs 22 3 #[(0,(.string ⟨#[43]⟩)),(1,(.string ⟨#[45]⟩)),(2,(.string ⟨#[92]⟩))]) w fun a w=>
 R a w
theorem en169 (h:vc169 R w ):Calls Tryz.prog 169 #[] w (retK R):=enE ⟨by kernel_rfl,by kernel_rfl⟩ (by kernel_rfl:enterW Tryz.prog Tryz.f169 an169 [] w R = _) h
def an170:Ann:=(sD 2 (sD 5 lf))
def vc170 (R:Value->World->Prop) (w:World) (a b:Value):Prop:=
 V (bx 249 b) w fun c w=>
 CV (.func (.func 232) #[] #[]) #[a,(.func (.func 233) #[] #[c])] w fun d w=>
 V (un .not d) w fun f w=>
 R f w
theorem en170 (h:vc170 R w t0 t1):Calls Tryz.prog 170 #[t0,t1] w (retK R):=enE ⟨by kernel_rfl,by kernel_rfl⟩ (by kernel_rfl:enterW Tryz.prog Tryz.f170 an170 [t0,t1] w R = _) h
def an171:Ann:=(sD 1 (sD 3 lf))
def vc171 (R:Value->World->Prop) (w:World) (a:Value):Prop:=
 V (ec .eql 3 3 a (.int .i64 0)) w fun b w=>
 R b w
theorem en171 (h:vc171 R w t0):Calls Tryz.prog 171 #[t0] w (retK R):=enE ⟨by kernel_rfl,by kernel_rfl⟩ (by kernel_rfl:enterW Tryz.prog Tryz.f171 an171 [t0] w R = _) h
def an172:Ann:=(sD 10 (.seq (.draw (.hold 0 (.take 1 (.take 2 (.hold 3 (.take 4 (.take 5 (.hold 6 (tkN 7 4 .done))))))))) (.one (.loop [25] ([5,6,7] ++ rgN 25 57) (sD 1 (.seq (.cond lf lf) (.seq (.one (sD 4 (sD 5 (.seqJ [7] ([7] ++ rgN 33 43) (.one (.seqJ [33] (rgN 33 33) (.seq (.reg (opn 6 (.join [45] (rgN 40 6) (.split 39 (opn 6 .done) (opn 6 .done)) (opn 1 (.join [49] [47,48,49] (.split 46 (opn 3 .done) (opn 3 .done)) (opn 1 .done)))))) (.cond lf (.reg (opn 6 (.join [58] [56,57,58] (.split 55 (opn 3 .done) (opn 3 .done)) (opn 1 (.join [65] (rgN 60 6) (.split 59 (opn 6 .done) (opn 6 .done)) (opn 1 .done)))))))) (.cond (oD 1) (.seq (.reg (opn 6 (.join [75] [73,74,75] (.split 72 (opn 3 .done) (opn 3 .done)) (opn 1 .done)))) (.cond (oD 1) lf))))) (cD 5 lf lf))))) (oD 2))))))))
def vc172 (R:Value->World->Prop) (w:World) (p a:Value):Prop:=
 V (ld 121 a) w fun q w=>
 NilW q fun r=>V (ld 38 r) w fun s w=>
 CV (.func (.func 49) #[] #[]) #[s] w fun d w=>
 V (ex d 0) w fun t w=>
 V (ex d 1) w fun y1 w=>
 V (al 102) w fun f w=>
 U (st 102 f t) w fun w=>
 Dr w fun w=>
 HV (ld 121 a) w fun u=>
 NilW u fun v=>PV (fa 38 v 1) fun x=>
 HV (ld 121 a) w fun y=>
 NilW y fun z=>PV (fa 38 z 2) fun a0=>
 HV (ld 121 a) w fun b0=>
 NilW b0 fun c0=>PV (fa 38 c0 3) fun d0=>
 PV (bd 251 #[(0,x),(1,a0),(2,d0)]) fun f0=>
 Lp1 (.int .i64 0) w fun I0 M0 b w m0=>
 V (bi .lss 3 b (.int .i64 3)) w fun h0 w=>
 CondW h0
 (V (ix 251 f0 b) w fun i0 w=>
 V (fa 102 f 1) w fun j0 w=>
 V (ia 100 j0 b) w fun k0 w=>
 V (ld 3 k0) w fun l0 w=>
 ∀ K0:LP,(∀ h,∀ w,(∀ g:Env,
 CV p #[h,i0] w fun n0 w=>
 V (un .not n0) w fun o0 w=>
 CondW o0
 (R (.tuple #[]) w)
 (V (bi .add 3 b (.int .i64 1)) w fun i w=>
 I0 [i] w/\M0 [i] w < m0))->K0 [h] w) ->
 ∀ K1:LP,(∀ j,∀ w,(∀ g:Env,
 CondW j
 (K0 [(.int .i64 2)] w)
 (V (ld 121 a) w fun p0 w=>
 NilW p0 fun q0=>V (fa 38 q0 0) w fun r0 w=>
 V (ld 3 r0) w fun s0 w=>
 V (ec .eql 3 70 s0 (.int .i64 22)) w fun u0 w=>
 ∀ K1:LP,(∀ k,∀ w,(∀ g:Env,
 CondW k
 (K0 [(.int .i64 8)] w)
 (K0 [l0] w))->K1 [k] w) ->
 CondW u0
 (V (ec .eql 3 73 b (.int .i64 2)) w fun v0 w=>
 K1 [v0] w)
 (K1 [(.bool false)] w)))->K1 [j] w) ->
 V (ld 121 a) w fun x0 w=>
 NilW x0 fun y0=>V (fa 38 y0 0) w fun z0 w=>
 V (ld 3 z0) w fun a1 w=>
 V (ec .eql 3 37 a1 (.int .i64 12)) w fun b1 w=>
 ∀ K2:LP,(∀ l,∀ w,(∀ g:Env,
 ∀ K2:LP,(∀ c,∀ w,(∀ g:Env,
 CondW c
 (K1 [c] w)
 (V (ld 121 a) w fun c1 w=>
 NilW c1 fun d1=>V (fa 38 d1 0) w fun f1 w=>
 V (ld 3 f1) w fun h1 w=>
 V (ec .eql 3 53 h1 (.int .i64 19)) w fun i1 w=>
 ∀ K2:LP,(∀ n,∀ w,(∀ g:Env,
 ∀ K2:LP,(∀ o,∀ w,(∀ g:Env,
 K1 [o] w)->K2 [o] w) ->
 CondW n
 (V (ld 121 a) w fun j1 w=>
 NilW j1 fun k1=>V (fa 38 k1 1) w fun l1 w=>
 V (ld 3 l1) w fun n1 w=>
 V (ec .eql 3 63 n1 (.int .i64 1)) w fun o1 w=>
 K2 [o1] w)
 (K2 [(.bool false)] w))->K2 [n] w) ->
 CondW i1
 (V (ec .eql 3 56 b (.int .i64 1)) w fun p1 w=>
 K2 [p1] w)
 (K2 [(.bool false)] w)))->K2 [c] w) ->
 CondW l
 (V (ec .eql 3 47 b (.int .i64 0)) w fun q1 w=>
 K2 [q1] w)
 (K2 [(.bool false)] w))->K2 [l] w) ->
 CondW b1
 (K2 [(.bool true)] w)
 (V (ld 121 a) w fun r1 w=>
 NilW r1 fun s1=>V (fa 38 s1 0) w fun u1 w=>
 V (ld 3 u1) w fun v1 w=>
 V (ec .eql 3 43 v1 (.int .i64 21)) w fun x1 w=>
 K2 [x1] w))
 (R (.tuple #[]) w)
theorem en172 (h:vc172 R w t0 t1):Calls Tryz.prog 172 #[t0,t1] w (retK R):=enE ⟨by kernel_rfl,by kernel_rfl⟩ (by kernel_rfl:enterW Tryz.prog Tryz.f172 an172 [t0,t1] w R = _) h
def an173:Ann:=(sD 7 (sD 8 (.seq (.seq (.reg (opn 4 (.join [27] (rgN 21 7) (.split 20 (opn 7 .done) (opn 7 .done)) (opn 1 (.join [34] (rgN 29 6) (.split 28 (opn 6 .done) (opn 6 .done)) .done))))) (.cond lf lf)) (.seq (.reg (opn 4 (.join [42] [39,40,41,42] (.split 38 (opn 4 .done) (opn 4 .done)) (opn 1 (.join [47] [44,45,46,47] (.split 43 (opn 4 .done) (opn 4 .done)) (opn 1 (.join [56] (rgN 49 8) (.split 48 (opn 8 .done) (opn 8 .done)) .done))))))) (.cond (oD 4) lf)))))
def vc173 (R:Value->World->Prop) (w:World) (d b c:Value):Prop:=
 V (fa 28 b 5) w fun o w=>
 V (ld 26 o) w fun p w=>
 V (ld 3 c) w fun q w=>
 V (ia 26 p q) w fun r w=>
 V (ld 38 r) w fun s w=>
 V (al 38) w fun a w=>
 U (st 38 a s) w fun w=>
 V (ld 38 a) w fun t w=>
 CV (.func (.func 49) #[] #[]) #[t] w fun f w=>
 V (ex f 0) w fun u w=>
 V (ex f 1) w fun i1 w=>
 V (al 102) w fun h w=>
 U (st 102 h u) w fun w=>
 V (fa 102 h 5) w fun v w=>
 V (ld 4 v) w fun x w=>
 V (un .not x) w fun y w=>
 ∀ K0:LP,(∀ i,∀ w,(∀ g:Env,
 ∀ K0:LP,(∀ j,∀ w,(∀ g:Env,
 CondW j
 (R (.tuple #[]) w)
 (V (fa 38 a 0) w fun z w=>
 V (ld 3 z) w fun a0 w=>
 V (ec .eql 3 36 a0 (.int .i64 23)) w fun b0 w=>
 ∀ K0:LP,(∀ k,∀ w,(∀ g:Env,
 ∀ K0:LP,(∀ l,∀ w,(∀ g:Env,
 ∀ K0:LP,(∀ n,∀ w,(∀ g:Env,
 CondW n
 (V (fa 38 a 1) w fun c0 w=>
 V (ld 3 c0) w fun d0 w=>
 CV d #[d0,(.bool true)] w fun j1 w=>
 R (.tuple #[]) w)
 (R (.tuple #[]) w))->K0 [n] w) ->
 CondW l
 (V (fa 38 a 1) w fun f0 w=>
 V (ld 3 f0) w fun h0 w=>
 V (fa 28 b 5) w fun i0 w=>
 V (ld 26 i0) w fun j0 w=>
 V (ln 26 j0) w fun k0 w=>
 V (bi .sub 3 k0 (.int .i64 1)) w fun l0 w=>
 CV (.func (.func 75) #[] #[]) #[h0,(.int .i64 0),l0] w fun n0 w=>
 K0 [n0] w)
 (K0 [(.bool false)] w))->K0 [l] w) ->
 CondW k
 (K0 [(.bool true)] w)
 (V (fa 38 a 0) w fun o0 w=>
 V (ld 3 o0) w fun p0 w=>
 V (ec .eql 3 45 p0 (.int .i64 30)) w fun q0 w=>
 K0 [q0] w))->K0 [k] w) ->
 CondW b0
 (K0 [(.bool true)] w)
 (V (fa 38 a 0) w fun r0 w=>
 V (ld 3 r0) w fun s0 w=>
 V (ec .eql 3 40 s0 (.int .i64 24)) w fun u0 w=>
 K0 [u0] w)))->K0 [j] w) ->
 CondW i
 (V (ld 3 c) w fun v0 w=>
 V (bi .add 3 v0 (.int .i64 1)) w fun x0 w=>
 CV d #[x0,(.bool false)] w fun y0 w=>
 V (un .not y0) w fun z0 w=>
 K0 [z0] w)
 (K0 [(.bool false)] w))->K0 [i] w) ->
 CondW y
 (V (ld 3 c) w fun a1 w=>
 V (bi .add 3 a1 (.int .i64 1)) w fun b1 w=>
 V (fa 28 b 5) w fun c1 w=>
 V (ld 26 c1) w fun d1 w=>
 V (ln 26 d1) w fun f1 w=>
 V (bi .lss 3 b1 f1) w fun h1 w=>
 K0 [h1] w)
 (K0 [(.bool false)] w)
theorem en173 (h:vc173 R w t0 t1 t2):Calls Tryz.prog 173 #[t0,t1,t2] w (retK R):=enE ⟨by kernel_rfl,by kernel_rfl⟩ (by kernel_rfl:enterW Tryz.prog Tryz.f173 an173 [t0,t1,t2] w R = _) h
def an174:Ann:=(sD 1 (.seq (sD 3 (.one (.loop [8] ([4,5] ++ rgN 8 11) (sD 1 (.seq (.cond lf lf) (.seq (.one (sD 2 (cD 6 (sD 2 lf) lf))) (oD 2))))))) (sD 1 lf)))
def vc174 (R:Value->World->Prop) (w:World) (b d:Value):Prop:=
 V (ln 45 b) w fun f w=>
 Lp1 (.int .i64 0) w fun I0 M0 a w m0=>
 V (bi .lss 3 a f) w fun h w=>
 CondW h
 (V (ia 45 b a) w fun i w=>
 V (ld 3 i) w fun j w=>
 V (et .eql 3 11 15 d j) w fun k w=>
 CondW k
 (R a w)
 (V (bi .add 3 a (.int .i64 1)) w fun c w=>
 I0 [c] w/\M0 [c] w < m0))
 (R (.int .i64 (-1)) w)
theorem en174 (h:vc174 R w t0 t1):Calls Tryz.prog 174 #[t0,t1] w (retK R):=enE ⟨by kernel_rfl,by kernel_rfl⟩ (by kernel_rfl:enterW Tryz.prog Tryz.f174 an174 [t0,t1] w R = _) h
def an175:Ann:=(sD 3 (.one (.loop [9] ([5,6] ++ rgN 9 40) (sD 1 (.seq (.cond lf lf) (.seq (.one (sD 3 (sD 3 (.seqJ [6] [6,15,16,17,18,19] (cD 2 (oD 4) lf) (.seq (.one (.loop [6] ([6] ++ rgN 20 17) (.seq (cD 2 lf lf) (.seq (.one (oD 14)) (oD 3))))) (oD 12)))))) (oD 2)))))))
def vc175 (R:Value->World->Prop) (w:World) (a f:Value):Prop:=
 V (ln 45 f) w fun k w=>
 Lp1 (.int .i64 0) w fun I0 M0 c w m0=>
 V (bi .lss 3 c k) w fun l w=>
 CondW l
 (V (ia 45 f c) w fun n w=>
 V (ld 3 n) w fun d w=>
 V (bi .mul 3 (.int .i64 2) d) w fun o w=>
 ∀ K0:LP,(∀ h,∀ w,(∀ g:Env,
 Lp1 h w fun I1 M1 b w m1=>
 V (bi .geq 3 b (.int .i64 128)) w fun p w=>
 CondW p
 (NilW a fun q=>V (fa 156 q 0) w fun r w=>
 V (ld 55 r) w fun s w=>
 V (bi .and 3 b (.int .i64 127)) w fun t w=>
 V (bi .or 3 t (.int .i64 128)) w fun u w=>
 V (cv 3 5 u) w fun v w=>
 V (bs 55 1 #[(0,v)]) w fun x w=>
 V (Builtin.append_ #[55,55] 55 #[s,x]) w fun y w=>
 NilW a fun z=>V (fa 156 z 0) w fun a0 w=>
 U (st 55 a0 y) w fun w=>
 V (bi .shr 3 b (.int .u64 7)) w fun i w=>
 I1 [i] w/\M1 [i] w < m1)
 (NilW a fun b0=>V (fa 156 b0 0) w fun c0 w=>
 V (ld 55 c0) w fun d0 w=>
 V (cv 3 5 b) w fun f0 w=>
 V (bs 55 1 #[(0,f0)]) w fun h0 w=>
 V (Builtin.append_ #[55,55] 55 #[d0,h0]) w fun i0 w=>
 NilW a fun j0=>V (fa 156 j0 0) w fun k0 w=>
 U (st 55 k0 i0) w fun w=>
 V (bi .add 3 c (.int .i64 1)) w fun j w=>
 I0 [j] w/\M0 [j] w < m0))->K0 [h] w) ->
 V (bi .lss 3 d (.int .i64 0)) w fun l0 w=>
 CondW l0
 (V (bi .mul 3 (.int .i64 (-2)) d) w fun n0 w=>
 V (bi .sub 3 n0 (.int .i64 1)) w fun o0 w=>
 K0 [o0] w)
 (K0 [o] w))
 (R (.tuple #[]) w)
theorem en175 (h:vc175 R w t0 t1):Calls Tryz.prog 175 #[t0,t1] w (retK R):=enE ⟨by kernel_rfl,by kernel_rfl⟩ (by kernel_rfl:enterW Tryz.prog Tryz.f175 an175 [t0,t1] w R = _) h
def an184:Ann:=(cD 5 (oD 8) (cD 6 lf lf))
def vc184 (R:Value->World->Prop) (w:World) (a:Value):Prop:=
 NilW a fun b=>V (fa 199 b 0) w fun c w=>
 V (ld 197 c) w fun d w=>
 V (ec .eql 197 5 d (.pointer none)) w fun f w=>
 CondW f
 (V (cv 197 286 a) w fun h w=>
 CV (.func (.func 234) #[] #[]) #[h] w fun i w=>
 V (cv 286 197 i) w fun j w=>
 NilW a fun k=>V (fa 199 k 0) w fun l w=>
 U (st 197 l j) w fun w=>
 R (.tuple #[]) w)
 (NilW a fun n=>V (fa 199 n 0) w fun o w=>
 V (ld 197 o) w fun p w=>
 V (et .neq 197 17 18 p a) w fun q w=>
 CondW q
 (False)
 (R (.tuple #[]) w))
theorem en184 (h:vc184 R w t0):Calls Tryz.prog 184 #[t0] w (retK R):=enE ⟨by kernel_rfl,by kernel_rfl⟩ (by kernel_rfl:enterW Tryz.prog Tryz.f184 an184 [t0] w R = _) h
def an185:Ann:=(sD 1 (.seq (sD 2 (.one (cD 2 (sD 1 lf) (cD 2 (sD 4 lf) lf)))) (sD 1 (.seqJ [5] ([5] ++ rgN 20 19) (cD 3 (.seqJ [] (rgN 23 8) (cD 7 (oD 2) lf) (oD 9)) lf) (.seq (sD 3 (.one (.loop [5,41] ([5,7] ++ rgN 41 15) (sD 1 (.seq (.cond lf lf) (.seq (.one (sD 3 (.seqJ [] (rgN 45 6) (cD 5 (oD 2) lf) (oD 5)))) (oD 2))))))) (sD 1 (sD 2 (sD 4 (.seq (sD 4 (.one (.loop [65] ([10] ++ rgN 65 9) (sD 1 (.seq (.cond lf lf) (.seq (.one (sD 3 (sD 2 (oD 2)))) (oD 2))))))) (sD 2 lf))))))))))
def vc185 (R:Value->World->Prop) (w:World) (a c:Value):Prop:=
 V (ln 22 a) w fun i w=>
 V (ec .eql 3 12 i (.int .i64 0)) w fun q w=>
 CondW q
 (R (.string ⟨#[]⟩) w)
 (V (ec .eql 3 12 i (.int .i64 1)) w fun r w=>
 CondW r
 (V (ia 22 a (.int .i64 0)) w fun s w=>
 V (ld 9 s) w fun t w=>
 R t w)
 (∀ K0:LP,(∀ j,∀ w,(∀ g:Env,
 V (ln 22 a) w fun u w=>
 Lp2 j (.int .i64 0) w fun I0 M0 d f w m0=>
 V (bi .lss 3 f u) w fun v w=>
 CondW v
 (V (ia 22 a f) w fun x w=>
 V (ld 9 x) w fun k w=>
 ∀ K0:LP,(∀ w,(∀ g:Env,
 V (ln 9 k) w fun y w=>
 V (bi .add 3 d y) w fun l w=>
 V (bi .add 3 f (.int .i64 1)) w fun n w=>
 I0 [l,n] w/\M0 [l,n] w < m0)->K0 [] w) ->
 V (ln 9 k) w fun z w=>
 V (bi .sub 3 (.int .i64 9223372036854775807) d) w fun a0 w=>
 V (bi .gtr 3 z a0) w fun b0 w=>
 CondW b0
 (V (mi 9 (.string ⟨#[115,116,114,105,110,103,115,58,32,74,111,105,110,32,111,117,116,112,117,116,32,108,101,110,103,116,104,32,111,118,101,114,102,108,111,119]⟩)) w fun a1 w=>
 False)
 (K0 [] w))
 (V (al 199) w fun b w=>
 CV (.func (.func 235) #[] #[]) #[b,d] w fun b1 w=>
 V (ia 22 a (.int .i64 0)) w fun c0 w=>
 V (ld 9 c0) w fun d0 w=>
 CV (.func (.func 125) #[] #[]) #[b,d0] w fun c1 w=>
 V (sl 22 a (some (.int .i64 1)) none none) w fun o w=>
 V (ln 22 o) w fun f0 w=>
 Lp1 (.int .i64 0) w fun I1 M1 h w m1=>
 V (bi .lss 3 h f0) w fun h0 w=>
 CondW h0
 (V (ia 22 o h) w fun i0 w=>
 V (ld 9 i0) w fun j0 w=>
 CV (.func (.func 125) #[] #[]) #[b,c] w fun d1 w=>
 CV (.func (.func 125) #[] #[]) #[b,j0] w fun f1 w=>
 V (bi .add 3 h (.int .i64 1)) w fun p w=>
 I1 [p] w/\M1 [p] w < m1)
 (CV (.func (.func 132) #[] #[]) #[b] w fun k0 w=>
 R k0 w)))->K0 [j] w) ->
 V (ln 9 c) w fun l0 w=>
 V (bi .gtr 3 l0 (.int .i64 0)) w fun n0 w=>
 CondW n0
 (∀ K1:LP,(∀ w,(∀ g:Env,
 V (ln 9 c) w fun o0 w=>
 V (ln 22 a) w fun p0 w=>
 V (bi .sub 3 p0 (.int .i64 1)) w fun q0 w=>
 V (bi .mul 3 o0 q0) w fun r0 w=>
 V (bi .add 3 (.int .i64 0) r0) w fun s0 w=>
 K0 [s0] w)->K1 [] w) ->
 V (ln 9 c) w fun u0 w=>
 V (ln 22 a) w fun v0 w=>
 V (bi .sub 3 v0 (.int .i64 1)) w fun x0 w=>
 V (bi .quo 3 (.int .i64 9223372036854775807) x0) w fun y0 w=>
 V (bi .geq 3 u0 y0) w fun z0 w=>
 CondW z0
 (V (mi 9 (.string ⟨#[115,116,114,105,110,103,115,58,32,74,111,105,110,32,111,117,116,112,117,116,32,108,101,110,103,116,104,32,111,118,101,114,102,108,111,119]⟩)) w fun h1 w=>
 False)
 (K1 [] w))
 (K0 [(.int .i64 0)] w)))
theorem en185 (h:vc185 R w t0 t1):Calls Tryz.prog 185 #[t0,t1] w (retK R):=enE ⟨by kernel_rfl,by kernel_rfl⟩ (by kernel_rfl:enterW Tryz.prog Tryz.f185 an185 [t0,t1] w R = _) h
def an186:Ann:=(sD 1 (sD 5 lf))
def vc186 (R:Value->World->Prop) (w:World) (a b c:Value):Prop:=
 CV (.func (.func 236) #[] #[]) #[a,b,c,(.int .i64 (-1))] w fun d w=>
 R d w
theorem en186 (h:vc186 R w t0 t1 t2):Calls Tryz.prog 186 #[t0,t1,t2] w (retK R):=enE ⟨by kernel_rfl,by kernel_rfl⟩ (by kernel_rfl:enterW Tryz.prog Tryz.f186 an186 [t0,t1,t2] w R = _) h
def an191:Ann:=(sD 3 (.seq (sD 4 (cD 2 (.seq (.draw (tkN 0 12 .done)) lf) lf)) (sD 4 lf)))
def vc191 (R:Value->World->Prop) (w:World) (a c:Value):Prop:=
 CV (.func (.func 238) #[] #[]) #[a,c] w fun b w=>
 V (bi .geq 3 b (.int .i64 0)) w fun d w=>
 CondW d
 (Dr w fun w=>
 PV (sl 9 a none (some b) none) fun f=>
 PV (ln 9 c) fun h=>
 PV (bi .add 3 b h) fun i=>
 PV (sl 9 a (some i) none none) fun j=>
 R (.tuple #[f,j,(.bool true)]) w)
 (R (.tuple #[a,(.string ⟨#[]⟩),(.bool false)]) w)
theorem en191 (h:vc191 R w t0 t1):Calls Tryz.prog 191 #[t0,t1] w (retK R):=enE ⟨by kernel_rfl,by kernel_rfl⟩ (by kernel_rfl:enterW Tryz.prog Tryz.f191 an191 [t0,t1] w R = _) h
def an206:Ann:=(sD 1 (sD 5 lf))
def vc206 (R:Value->World->Prop) (w:World) (a b:Value):Prop:=
 CV (.func (.func 246) #[] #[]) #[a,b] w fun c w=>
 V (bi .geq 3 c (.int .i64 0)) w fun d w=>
 R d w
theorem en206 (h:vc206 R w t0 t1):Calls Tryz.prog 206 #[t0,t1] w (retK R):=enE ⟨by kernel_rfl,by kernel_rfl⟩ (by kernel_rfl:enterW Tryz.prog Tryz.f206 an206 [t0,t1] w R = _) h
def an207:Ann:=(sD 1 (sD 5 lf))
def vc207 (R:Value->World->Prop) (w:World) (a b:Value):Prop:=
 V (ld 224 b) w fun c w=>
 CV c #[a] w fun d w=>
 V (un .not d) w fun f w=>
 R f w
theorem en207 (h:vc207 R w t0 t1):Calls Tryz.prog 207 #[t0,t1] w (retK R):=enE ⟨by kernel_rfl,by kernel_rfl⟩ (by kernel_rfl:enterW Tryz.prog Tryz.f207 an207 [t0,t1] w R = _) h
def an208:Ann:=(sD 1 (sD 5 lf))
def vc208 (R:Value->World->Prop) (w:World) (a b:Value):Prop:=
 CV (.func (.func 247) #[] #[]) #[a,b] w fun c w=>
 V (bi .geq 3 c (.int .i64 0)) w fun d w=>
 R d w
theorem en208 (h:vc208 R w t0 t1):Calls Tryz.prog 208 #[t0,t1] w (retK R):=enE ⟨by kernel_rfl,by kernel_rfl⟩ (by kernel_rfl:enterW Tryz.prog Tryz.f208 an208 [t0,t1] w R = _) h
def an209:Ann:=(sD 2 (sD 5 lf))
def vc209 (R:Value->World->Prop) (w:World) (a b:Value):Prop:=
 V (bx 95 a) w fun c w=>
 V (ld 223 b) w fun d w=>
 V (ld 95 c) w fun f w=>
 CV d #[f] w fun h w=>
 V (un .not h) w fun i w=>
 R i w
theorem en209 (h:vc209 R w t0 t1):Calls Tryz.prog 209 #[t0,t1] w (retK R):=enE ⟨by kernel_rfl,by kernel_rfl⟩ (by kernel_rfl:enterW Tryz.prog Tryz.f209 an209 [t0,t1] w R = _) h
def an210:Ann:=(sD 1 (sD 5 lf))
def vc210 (R:Value->World->Prop) (w:World) (a b:Value):Prop:=
 CV (.func (.func 248) #[] #[]) #[a,b] w fun c w=>
 V (bi .geq 3 c (.int .i64 0)) w fun d w=>
 R d w
theorem en210 (h:vc210 R w t0 t1):Calls Tryz.prog 210 #[t0,t1] w (retK R):=enE ⟨by kernel_rfl,by kernel_rfl⟩ (by kernel_rfl:enterW Tryz.prog Tryz.f210 an210 [t0,t1] w R = _) h
def an211:Ann:=(sD 1 (sD 5 lf))
def vc211 (R:Value->World->Prop) (w:World) (a b:Value):Prop:=
 V (ld 215 b) w fun c w=>
 CV c #[a] w fun d w=>
 V (un .not d) w fun f w=>
 R f w
theorem en211 (h:vc211 R w t0 t1):Calls Tryz.prog 211 #[t0,t1] w (retK R):=enE ⟨by kernel_rfl,by kernel_rfl⟩ (by kernel_rfl:enterW Tryz.prog Tryz.f211 an211 [t0,t1] w R = _) h
def an212:Ann:=(sD 1 (sD 5 lf))
def vc212 (R:Value->World->Prop) (w:World) (a b:Value):Prop:=
 CV (.func (.func 249) #[] #[]) #[a,b] w fun c w=>
 V (bi .geq 3 c (.int .i64 0)) w fun d w=>
 R d w
theorem en212 (h:vc212 R w t0 t1):Calls Tryz.prog 212 #[t0,t1] w (retK R):=enE ⟨by kernel_rfl,by kernel_rfl⟩ (by kernel_rfl:enterW Tryz.prog Tryz.f212 an212 [t0,t1] w R = _) h
def an213:Ann:=(sD 1 (sD 5 lf))
def vc213 (R:Value->World->Prop) (w:World) (a b:Value):Prop:=
 V (ld 227 b) w fun c w=>
 CV c #[a] w fun d w=>
 V (un .not d) w fun f w=>
 R f w
theorem en213 (h:vc213 R w t0 t1):Calls Tryz.prog 213 #[t0,t1] w (retK R):=enE ⟨by kernel_rfl,by kernel_rfl⟩ (by kernel_rfl:enterW Tryz.prog Tryz.f213 an213 [t0,t1] w R = _) h
def an214:Ann:=(sD 1 (sD 5 lf))
def vc214 (R:Value->World->Prop) (w:World) (a b:Value):Prop:=
 CV (.func (.func 77) #[] #[]) #[a,b] w fun c w=>
 V (bi .geq 3 c (.int .i64 0)) w fun d w=>
 R d w
theorem en214 (h:vc214 R w t0 t1):Calls Tryz.prog 214 #[t0,t1] w (retK R):=enE ⟨by kernel_rfl,by kernel_rfl⟩ (by kernel_rfl:enterW Tryz.prog Tryz.f214 an214 [t0,t1] w R = _) h
def an215:Ann:=(sD 2 (sD 5 lf))
def vc215 (R:Value->World->Prop) (w:World) (a b:Value):Prop:=
 V (bx 54 a) w fun c w=>
 V (ld 144 b) w fun d w=>
 V (ld 54 c) w fun f w=>
 CV d #[f] w fun h w=>
 V (un .not h) w fun i w=>
 R i w
theorem en215 (h:vc215 R w t0 t1):Calls Tryz.prog 215 #[t0,t1] w (retK R):=enE ⟨by kernel_rfl,by kernel_rfl⟩ (by kernel_rfl:enterW Tryz.prog Tryz.f215 an215 [t0,t1] w R = _) h
def an216:Ann:=(sD 2 (sD 5 lf))
def vc216 (R:Value->World->Prop) (w:World) (a b:Value):Prop:=
 V (bx 280 b) w fun c w=>
 CV (.func (.func 250) #[] #[]) #[a,(.func (.func 251) #[] #[c])] w fun d w=>
 V (un .not d) w fun f w=>
 R f w
theorem en216 (h:vc216 R w t0 t1):Calls Tryz.prog 216 #[t0,t1] w (retK R):=enE ⟨by kernel_rfl,by kernel_rfl⟩ (by kernel_rfl:enterW Tryz.prog Tryz.f216 an216 [t0,t1] w R = _) h
def an217:Ann:=(sD 1 (sD 4 lf))
def vc217 (R:Value->World->Prop) (w:World) (a:Value):Prop:=
 V (cv 5 3 a) w fun b w=>
 CV (.func (.func 75) #[] #[]) #[b,(.int .i64 32),(.int .i64 126)] w fun c w=>
 R c w
theorem en217 (h:vc217 R w t0):Calls Tryz.prog 217 #[t0] w (retK R):=enE ⟨by kernel_rfl,by kernel_rfl⟩ (by kernel_rfl:enterW Tryz.prog Tryz.f217 an217 [t0] w R = _) h
def an218:Ann:=(sD 1 (sD 5 lf))
def vc218 (R:Value->World->Prop) (w:World) (a b:Value):Prop:=
 CV (.func (.func 252) #[] #[]) #[a,b] w fun c w=>
 V (bi .geq 3 c (.int .i64 0)) w fun d w=>
 R d w
theorem en218 (h:vc218 R w t0 t1):Calls Tryz.prog 218 #[t0,t1] w (retK R):=enE ⟨by kernel_rfl,by kernel_rfl⟩ (by kernel_rfl:enterW Tryz.prog Tryz.f218 an218 [t0,t1] w R = _) h
def an219:Ann:=(sD 2 (sD 5 lf))
def vc219 (R:Value->World->Prop) (w:World) (a b:Value):Prop:=
 V (bx 98 a) w fun c w=>
 V (ld 230 b) w fun d w=>
 V (ld 98 c) w fun f w=>
 CV d #[f] w fun h w=>
 V (un .not h) w fun i w=>
 R i w
theorem en219 (h:vc219 R w t0 t1):Calls Tryz.prog 219 #[t0,t1] w (retK R):=enE ⟨by kernel_rfl,by kernel_rfl⟩ (by kernel_rfl:enterW Tryz.prog Tryz.f219 an219 [t0,t1] w R = _) h
def an220:Ann:=(sD 1 (.seq (.reg (opn 4 (.join [10] [7,8,9,10] (.split 6 (opn 4 .done) (opn 4 .done)) (opn 1 (.join [15] [12,13,14,15] (.split 11 (opn 4 .done) (opn 4 .done)) (opn 1 .done)))))) lf))
def vc220 (R:Value->World->Prop) (w:World) (a:Value):Prop:=
 V (cv 5 3 a) w fun d w=>
 CV (.func (.func 75) #[] #[]) #[d,(.int .i64 65),(.int .i64 90)] w fun f w=>
 ∀ K0:LP,(∀ b,∀ w,(∀ g:Env,
 ∀ K0:LP,(∀ c,∀ w,(∀ g:Env,
 R c w)->K0 [c] w) ->
 CondW b
 (K0 [(.bool true)] w)
 (CV (.func (.func 221) #[] #[]) #[(.string ⟨#[46,95,33,63]⟩),a] w fun h w=>
 V (bi .geq 3 h (.int .i64 0)) w fun i w=>
 K0 [i] w))->K0 [b] w) ->
 CondW f
 (K0 [(.bool true)] w)
 (V (cv 5 3 a) w fun j w=>
 CV (.func (.func 75) #[] #[]) #[j,(.int .i64 48),(.int .i64 57)] w fun k w=>
 K0 [k] w)
theorem en220 (h:vc220 R w t0):Calls Tryz.prog 220 #[t0] w (retK R):=enE ⟨by kernel_rfl,by kernel_rfl⟩ (by kernel_rfl:enterW Tryz.prog Tryz.f220 an220 [t0] w R = _) h
def an221:Ann:=(sD 1 (sD 4 lf))
def vc221 (R:Value->World->Prop) (w:World) (a b:Value):Prop:=
 CV (.func (.func 253) #[] #[]) #[a,b] w fun c w=>
 R c w
theorem en221 (h:vc221 R w t0 t1):Calls Tryz.prog 221 #[t0,t1] w (retK R):=enE ⟨by kernel_rfl,by kernel_rfl⟩ (by kernel_rfl:enterW Tryz.prog Tryz.f221 an221 [t0,t1] w R = _) h
def an222:Ann:=(sD 1 (sD 9 (.seq (.seq (.reg (opn 3 (.join [19] [16,17,18,19] (.split 15 (opn 4 .done) (opn 4 .done)) (opn 1 (.join [29] (rgN 21 9) (.split 20 (opn 9 .done) (opn 4 (.join [28] [25,26,27,28] (.split 24 (opn 4 .done) (opn 4 .done)) (opn 1 .done)))) .done))))) (.cond (sD 1 lf) lf)) (sD 1 (.seq (.reg (opn 4 (.join [38] [34,35,36,37,38] (.split 33 (opn 5 .done) (opn 5 .done)) (opn 1 (.join [44] [40,41,42,43,44] (.split 39 (opn 5 .done) (opn 5 .done)) (opn 1 .done)))))) lf)))))
def vc222 (R:Value->World->Prop) (w:World) (k:Value):Prop:=
 CV (.func (.func 134) #[] #[]) #[k,(.string ⟨#[69]⟩)] w fun b w=>
 V (ex b 0) w fun c w=>
 V (ex b 1) w fun a w=>
 V (ex b 2) w fun l w=>
 V (un .not l) w fun n w=>
 ∀ K0:LP,(∀ d,∀ w,(∀ g:Env,
 ∀ K0:LP,(∀ f,∀ w,(∀ g:Env,
 CondW f
 (R (.bool false) w)
 (CV (.func (.func 223) #[] #[]) #[c,(.string ⟨#[46]⟩)] w fun o w=>
 V (bi .lss 3 o (.int .i64 2)) w fun p w=>
 ∀ K0:LP,(∀ h,∀ w,(∀ g:Env,
 ∀ K0:LP,(∀ i,∀ w,(∀ g:Env,
 R i w)->K0 [i] w) ->
 CondW h
 (V (sl 9 a (some (.int .i64 1)) none none) w fun q w=>
 CV (.func (.func 254) #[] #[]) #[q] w fun r w=>
 K0 [r] w)
 (K0 [(.bool false)] w))->K0 [h] w) ->
 CondW p
 (CV (.func (.func 236) #[] #[]) #[c,(.string ⟨#[46]⟩),(.string ⟨#[]⟩),(.int .i64 1)] w fun s w=>
 CV (.func (.func 254) #[] #[]) #[s] w fun t w=>
 K0 [t] w)
 (K0 [(.bool false)] w)))->K0 [f] w) ->
 CondW d
 (K0 [(.bool true)] w)
 (V (ix 9 a (.int .i64 0)) w fun u w=>
 V (ec .neq 5 22 u (.int .u8 43)) w fun v w=>
 ∀ K1:LP,(∀ j,∀ w,(∀ g:Env,
 K0 [j] w)->K1 [j] w) ->
 CondW v
 (V (ix 9 a (.int .i64 0)) w fun x w=>
 V (ec .neq 5 26 x (.int .u8 45)) w fun y w=>
 K1 [y] w)
 (K1 [(.bool false)] w)))->K0 [d] w) ->
 CondW n
 (K0 [(.bool true)] w)
 (V (ln 9 a) w fun z w=>
 V (bi .lss 3 z (.int .i64 2)) w fun a0 w=>
 K0 [a0] w)
theorem en222 (h:vc222 R w t0):Calls Tryz.prog 222 #[t0] w (retK R):=enE ⟨by kernel_rfl,by kernel_rfl⟩ (by kernel_rfl:enterW Tryz.prog Tryz.f222 an222 [t0] w R = _) h
def an223:Ann:=(sD 1 (.seq (cD 3 (sD 4 lf) lf) (.seq (cD 3 (sD 5 lf) lf) (sD 1 (.one (.loop [5,0] ([0,4,5,6] ++ rgN 20 14) (.one (sD 4 (.seq (cD 2 (sD 2 lf) lf) (sD 3 (oD 7)))))))))))
def vc223 (R:Value->World->Prop) (w:World) (b a:Value):Prop:=
 V (ln 9 a) w fun j w=>
 V (ec .eql 3 8 j (.int .i64 0)) w fun k w=>
 CondW k
 (CV (.func (.func 256) #[] #[]) #[b] w fun l w=>
 V (bi .add 3 l (.int .i64 1)) w fun n w=>
 R n w)
 (V (ln 9 a) w fun o w=>
 V (ec .eql 3 14 o (.int .i64 1)) w fun p w=>
 CondW p
 (V (ix 9 a (.int .i64 0)) w fun q w=>
 CV (.func (.func 257) #[] #[]) #[b,q] w fun r w=>
 R r w)
 (Lp2 (.int .i64 0) b w fun I0 M0 c d w m0=>
 CV (.func (.func 258) #[] #[]) #[d,a] w fun f w=>
 V (ec .eql 3 23 f (.int .i64 (-1))) w fun s w=>
 CondW s
 (R c w)
 (V (bi .add 3 c (.int .i64 1)) w fun h w=>
 V (ln 9 a) w fun t w=>
 V (bi .add 3 f t) w fun u w=>
 V (sl 9 d (some u) none none) w fun i w=>
 I0 [h,i] w/\M0 [h,i] w < m0)))
theorem en223 (h:vc223 R w t0 t1):Calls Tryz.prog 223 #[t0,t1] w (retK R):=enE ⟨by kernel_rfl,by kernel_rfl⟩ (by kernel_rfl:enterW Tryz.prog Tryz.f223 an223 [t0,t1] w R = _) h
def an224:Ann:=(sD 1 (sD 4 lf))
def vc224 (R:Value->World->Prop) (w:World) (a b:Value):Prop:=
 CV (.func (.func 259) #[] #[]) #[a,b] w fun c w=>
 R c w
theorem en224 (h:vc224 R w t0 t1):Calls Tryz.prog 224 #[t0,t1] w (retK R):=enE ⟨by kernel_rfl,by kernel_rfl⟩ (by kernel_rfl:enterW Tryz.prog Tryz.f224 an224 [t0,t1] w R = _) h
def an225:Ann:=(sD 2 (sD 2 lf))
def vc225 (R:Value->World->Prop) (w:World) (a:Value):Prop:=
 V (bx 3 a) w fun b w=>
 R (.func (.func 226) #[] #[b]) w
theorem en225 (h:vc225 R w t0):Calls Tryz.prog 225 #[t0] w (retK R):=enE ⟨by kernel_rfl,by kernel_rfl⟩ (by kernel_rfl:enterW Tryz.prog Tryz.f225 an225 [t0] w R = _) h
def an226:Ann:=(sD 1 (.seq (.draw (.take 0 (.hold 2 (e1 1 (.take 3 (.take 4 .done)))))) lf))
def vc226 (R:Value->World->Prop) (w:World) (c a:Value):Prop:=
 Dr w fun w=>
 HV (ld 3 a) w fun b=>
 CV (.func (.func 156) #[] #[]) #[c] w fun d w=>
 RunIs (ld 3 a) w b/\(PV (et .eql 3 5 6 d b) fun f=>
 R f w)
theorem en226 (h:vc226 R w t0 t1):Calls Tryz.prog 226 #[t0,t1] w (retK R):=enE ⟨by kernel_rfl,by kernel_rfl⟩ (by kernel_rfl:enterW Tryz.prog Tryz.f226 an226 [t0,t1] w R = _) h
def an227:Ann:=(sD 1 (sD 1 lf))
def vc227 (R:Value->World->Prop) (w:World) (a:Value):Prop:=
 R (.bool true) w
theorem en227 (h:vc227 R w t0):Calls Tryz.prog 227 #[t0] w (retK R):=enE ⟨by kernel_rfl,by kernel_rfl⟩ (by kernel_rfl:enterW Tryz.prog Tryz.f227 an227 [t0] w R = _) h
def an228:Ann:=(sD 2 (.seq (.reg (opn 7 (.join [21] (rgN 14 8) (.split 13 (opn 8 .done) (opn 8 .done)) (opn 1 .done)))) lf))
def vc228 (R:Value->World->Prop) (w:World) (d a f:Value):Prop:=
 V (bx 28 d) w fun b w=>
 V (fa 28 b 0) w fun h w=>
 V (ld 22 h) w fun i w=>
 V (ln 22 i) w fun j w=>
 V (bi .sub 3 j (.int .i64 1)) w fun k w=>
 CV (.func (.func 75) #[] #[]) #[a,(.int .i64 0),k] w fun l w=>
 ∀ K0:LP,(∀ c,∀ w,(∀ g:Env,
 R c w)->K0 [c] w) ->
 CondW l
 (V (fa 28 b 0) w fun n w=>
 V (ld 22 n) w fun o w=>
 V (ia 22 o a) w fun p w=>
 V (ld 9 p) w fun q w=>
 CV f #[q] w fun r w=>
 K0 [r] w)
 (K0 [(.bool false)] w)
theorem en228 (h:vc228 R w t0 t1 t2):Calls Tryz.prog 228 #[t0,t1,t2] w (retK R):=enE ⟨by kernel_rfl,by kernel_rfl⟩ (by kernel_rfl:enterW Tryz.prog Tryz.f228 an228 [t0,t1,t2] w R = _) h
def an229:Ann:=(sD 1 (.seq (.reg (opn 4 (.join [11] [8,9,10,11] (.split 7 (opn 4 .done) (opn 4 .done)) (opn 1 .done)))) lf))
def vc229 (R:Value->World->Prop) (w:World) (b c:Value):Prop:=
 V (fa 38 c 3) w fun d w=>
 V (ld 3 d) w fun f w=>
 V (ec .eql 3 5 f (.int .i64 1)) w fun h w=>
 ∀ K0:LP,(∀ a,∀ w,(∀ g:Env,
 R a w)->K0 [a] w) ->
 CondW h
 (K0 [(.bool true)] w)
 (CV (.func (.func 156) #[] #[]) #[b] w fun i w=>
 V (ec .neq 3 9 i (.int .i64 0)) w fun j w=>
 K0 [j] w)
theorem en229 (h:vc229 R w t0 t1):Calls Tryz.prog 229 #[t0,t1] w (retK R):=enE ⟨by kernel_rfl,by kernel_rfl⟩ (by kernel_rfl:enterW Tryz.prog Tryz.f229 an229 [t0,t1] w R = _) h
def an230:Ann:=(sD 1 (.seq (.reg (opn 3 (.join [8] [6,7,8] (.split 5 (opn 3 .done) (opn 3 .done)) (opn 1 .done)))) lf))
def vc230 (R:Value->World->Prop) (w:World) (a:Value):Prop:=
 V (bi .geq 5 a (.int .u8 32)) w fun c w=>
 ∀ K0:LP,(∀ b,∀ w,(∀ g:Env,
 R b w)->K0 [b] w) ->
 CondW c
 (V (bi .leq 5 a (.int .u8 126)) w fun d w=>
 K0 [d] w)
 (K0 [(.bool false)] w)
theorem en230 (h:vc230 R w t0):Calls Tryz.prog 230 #[t0] w (retK R):=enE ⟨by kernel_rfl,by kernel_rfl⟩ (by kernel_rfl:enterW Tryz.prog Tryz.f230 an230 [t0] w R = _) h
def an231:Ann:=(sD 1 (sD 1 (sD 1 (sD 1 (.seq (.one (.loop [4,5,3] ([3,4,5] ++ rgN 7 32) (.seq (.seq (.reg (opn 5 (.join [28] (rgN 12 17) (.split 11 (opn 5 (.join [27] (rgN 17 11) (.split 16 (opn 11 .done) (opn 5 (.join [26] [22,23,24,25,26] (.split 21 (opn 5 .done) (opn 5 .done)) (opn 1 .done)))) (opn 1 .done))) (opn 17 .done)) .done))) (.cond lf lf)) (.one (.seqJ [4,5] ([4,5] ++ rgN 29 8) (cD 4 (oD 3) (oD 3)) (oD 3)))))) (.seq (.seq (.reg (opn 3 (.join [44] [42,43,44] (.split 41 (opn 3 .done) (opn 3 .done)) (opn 1 (.join [51] (rgN 46 6) (.split 45 (opn 6 .done) (opn 6 .done)) (opn 1 (.join [57] [53,54,55,56,57] (.split 52 (opn 5 .done) (opn 5 .done)) (opn 1 (.join [71] (rgN 59 13) (.split 58 (opn 13 .done) (opn 6 (.join [70] (rgN 65 6) (.split 64 (opn 6 .done) (opn 6 .done)) (opn 1 .done)))) .done))))))))) (.cond (sD 1 lf) lf)) (.seq (sD 3 (.one (.loop [6] ([2,6] ++ rgN 74 16) (.seq (cD 4 lf lf) (.seq (.one (.seq (.reg (opn 5 (.join [89] [85,86,87,88,89] (.split 84 (opn 5 .done) (opn 5 .done)) .done))) (.cond (sD 1 lf) lf))) (oD 3)))))) (sD 1 lf))))))))
def vc231 (R:Value->World->Prop) (w:World) (b:Value):Prop:=
 ∃ (I0:LP) (M0:LN),I0 [(.int .i64 0),(.int .i64 0),(.int .i64 0)] w/\∀ g:Env,∀ c,∀ d,∀ a,∀ w,I0 [c,d,a] w->∀ m0,m0 = M0 [c,d,a] w ->
 V (ln 9 b) w fun v w=>
 V (bi .lss 3 a v) w fun x w=>
 ∀ K0:LP,(∀ j,∀ w,(∀ g:Env,
 CondW j
 (∀ K0:LP,(∀ h,∀ i,∀ w,(∀ g:Env,
 V (bi .add 3 a (.int .i64 1)) w fun k w=>
 I0 [h,i,k] w/\M0 [h,i,k] w < m0)->K0 [h,i] w) ->
 V (ix 9 b a) w fun y w=>
 V (ec .eql 5 31 y (.int .u8 46)) w fun z w=>
 CondW z
 (V (bi .add 3 c (.int .i64 1)) w fun a0 w=>
 K0 [a0,d] w)
 (V (bi .add 3 d (.int .i64 1)) w fun b0 w=>
 K0 [c,b0] w))
 (V (bi .gtr 3 c (.int .i64 1)) w fun c0 w=>
 ∀ K0:LP,(∀ l,∀ w,(∀ g:Env,
 ∀ K0:LP,(∀ n,∀ w,(∀ g:Env,
 ∀ K0:LP,(∀ o,∀ w,(∀ g:Env,
 ∀ K0:LP,(∀ p,∀ w,(∀ g:Env,
 CondW p
 (R (.bool false) w)
 (V (bi .add 3 a (.int .i64 2)) w fun d0 w=>
 Lp1 d0 w fun I1 M1 f w m1=>
 V (ln 9 b) w fun f0 w=>
 V (bi .lss 3 f f0) w fun h0 w=>
 CondW h0
 (V (ix 9 b f) w fun i0 w=>
 V (bi .lss 5 i0 (.int .u8 48)) w fun j0 w=>
 ∀ K0:LP,(∀ q,∀ w,(∀ g:Env,
 CondW q
 (R (.bool false) w)
 (V (bi .add 3 f (.int .i64 1)) w fun r w=>
 I1 [r] w/\M1 [r] w < m1))->K0 [q] w) ->
 CondW j0
 (K0 [(.bool true)] w)
 (V (ix 9 b f) w fun k0 w=>
 V (bi .gtr 5 k0 (.int .u8 57)) w fun l0 w=>
 K0 [l0] w))
 (R (.bool true) w)))->K0 [p] w) ->
 CondW o
 (K0 [(.bool true)] w)
 (V (bi .add 3 a (.int .i64 1)) w fun n0 w=>
 V (ix 9 b n0) w fun o0 w=>
 V (ec .neq 5 62 o0 (.int .u8 43)) w fun p0 w=>
 ∀ K1:LP,(∀ s,∀ w,(∀ g:Env,
 K0 [s] w)->K1 [s] w) ->
 CondW p0
 (V (bi .add 3 a (.int .i64 1)) w fun q0 w=>
 V (ix 9 b q0) w fun r0 w=>
 V (ec .neq 5 68 r0 (.int .u8 45)) w fun s0 w=>
 K1 [s0] w)
 (K1 [(.bool false)] w)))->K0 [o] w) ->
 CondW n
 (K0 [(.bool true)] w)
 (V (ix 9 b a) w fun u0 w=>
 V (ec .neq 5 55 u0 (.int .u8 69)) w fun v0 w=>
 K0 [v0] w))->K0 [n] w) ->
 CondW l
 (K0 [(.bool true)] w)
 (V (bi .add 3 a (.int .i64 2)) w fun x0 w=>
 V (ln 9 b) w fun y0 w=>
 V (bi .geq 3 x0 y0) w fun z0 w=>
 K0 [z0] w))->K0 [l] w) ->
 CondW c0
 (K0 [(.bool true)] w)
 (V (ec .eql 3 42 d (.int .i64 0)) w fun a1 w=>
 K0 [a1] w)))->K0 [j] w) ->
 CondW x
 (V (ix 9 b a) w fun b1 w=>
 V (ec .eql 5 14 b1 (.int .u8 46)) w fun c1 w=>
 ∀ K1:LP,(∀ t,∀ w,(∀ g:Env,
 K0 [t] w)->K1 [t] w) ->
 CondW c1
 (K1 [(.bool true)] w)
 (V (ix 9 b a) w fun d1 w=>
 V (bi .geq 5 d1 (.int .u8 48)) w fun f1 w=>
 ∀ K2:LP,(∀ u,∀ w,(∀ g:Env,
 K1 [u] w)->K2 [u] w) ->
 CondW f1
 (V (ix 9 b a) w fun h1 w=>
 V (bi .leq 5 h1 (.int .u8 57)) w fun i1 w=>
 K2 [i1] w)
 (K2 [(.bool false)] w)))
 (K0 [(.bool false)] w)
theorem en231 (h:vc231 R w t0):Calls Tryz.prog 231 #[t0] w (retK R):=enE ⟨by kernel_rfl,by kernel_rfl⟩ (by kernel_rfl:enterW Tryz.prog Tryz.f231 an231 [t0] w R = _) h
def an232:Ann:=(sD 1 (sD 5 lf))
def vc232 (R:Value->World->Prop) (w:World) (a b:Value):Prop:=
 CV (.func (.func 260) #[] #[]) #[a,b] w fun c w=>
 V (bi .geq 3 c (.int .i64 0)) w fun d w=>
 R d w
theorem en232 (h:vc232 R w t0 t1):Calls Tryz.prog 232 #[t0,t1] w (retK R):=enE ⟨by kernel_rfl,by kernel_rfl⟩ (by kernel_rfl:enterW Tryz.prog Tryz.f232 an232 [t0,t1] w R = _) h
def an233:Ann:=(sD 1 (sD 5 lf))
def vc233 (R:Value->World->Prop) (w:World) (a b:Value):Prop:=
 V (ld 249 b) w fun c w=>
 CV c #[a] w fun d w=>
 V (un .not d) w fun f w=>
 R f w
theorem en233 (h:vc233 R w t0 t1):Calls Tryz.prog 233 #[t0,t1] w (retK R):=enE ⟨by kernel_rfl,by kernel_rfl⟩ (by kernel_rfl:enterW Tryz.prog Tryz.f233 an233 [t0,t1] w R = _) h
def an235:Ann:=(sD 2 (.seqJ [] [6,7,8] (cD 2 (oD 2) lf) (.seq (.draw (tkN 0 3 (.hold 3 (tkN 4 4 (.hold 8 (tkN 9 4 .done)))))) (.cond (oD 3) lf))))
def vc235 (R:Value->World->Prop) (w:World) (a b:Value):Prop:=
 CV (.func (.func 184) #[] #[]) #[a] w fun q w=>
 ∀ K0:LP,(∀ w,(∀ g:Env,
 Dr w fun w=>
 NilW a fun c=>PV (fa 199 c 1) fun d=>
 HV (ld 55 d) w fun f=>
 PV (Builtin.cap_ #[55] 3 #[f]) fun h=>
 NilW a fun i=>PV (fa 199 i 1) fun j=>
 HV (ld 55 j) w fun k=>
 PV (ln 55 k) fun l=>
 PV (bi .sub 3 h l) fun n=>
 PV (bi .lss 3 n b) fun o=>
 CondW o
 (CV (.func (.func 261) #[] #[]) #[a,b] w fun r w=>
 R (.tuple #[]) w)
 (R (.tuple #[]) w))->K0 [] w) ->
 V (bi .lss 3 b (.int .i64 0)) w fun p w=>
 CondW p
 (V (mi 9 (.string ⟨#[115,116,114,105,110,103,115,46,66,117,105,108,100,101,114,46,71,114,111,119,58,32,110,101,103,97,116,105,118,101,32,99,111,117,110,116]⟩)) w fun s w=>
 False)
 (K0 [] w)
theorem en235 (h:vc235 R w t0 t1):Calls Tryz.prog 235 #[t0,t1] w (retK R):=enE ⟨by kernel_rfl,by kernel_rfl⟩ (by kernel_rfl:enterW Tryz.prog Tryz.f235 an235 [t0,t1] w R = _) h
def an236:Ann:=(sD 1 (.seq (.seq (.reg (opn 4 (.join [22] [20,21,22] (.split 19 (opn 3 .done) (opn 3 .done)) .done))) (.cond (sD 2 lf) lf)) (.seqJ [3] ([3,8,9] ++ rgN 24 14) (sD 4 (cD 2 (sD 2 lf) (.seq (.reg (opn 3 (.join [36] [33,34,35,36] (.split 32 (opn 4 .done) (opn 4 .done)) .done))) (.cond (oD 2) lf)))) (sD 1 (sD 11 (sD 1 (.seqJ [11] ([11,12,13,14,15] ++ rgN 49 50) (cD 3 (sD 2 (.one (.loop [11,53] ([11,12] ++ rgN 53 21) (sD 1 (.seq (.cond lf lf) (.seq (.one (sD 8 (sD 5 (sD 2 (oD 5))))) (oD 2))))))) (sD 2 (sD 3 (.one (.loop [11,78] ([11,13,14,15] ++ rgN 78 21) (sD 1 (.seq (.cond lf lf) (.seq (.one (sD 9 (sD 4 (sD 5 (sD 2 (oD 2)))))) (oD 2))))))))) (sD 4 (sD 2 lf)))))))))
def vc236 (R:Value->World->Prop) (w:World) (b d f h:Value):Prop:=
 V (et .eql 9 16 17 d f) w fun v w=>
 ∀ K0:LP,(∀ l,∀ w,(∀ g:Env,
 CondW l
 (R b w)
 (∀ K0:LP,(∀ i,∀ w,(∀ g:Env,
 V (al 199) w fun c w=>
 V (ln 9 b) w fun x w=>
 V (ln 9 f) w fun y w=>
 V (ln 9 d) w fun z w=>
 V (bi .sub 3 y z) w fun a0 w=>
 V (bi .mul 3 i a0) w fun b0 w=>
 V (bi .add 3 x b0) w fun c0 w=>
 CV (.func (.func 235) #[] #[]) #[c,c0] w fun a1 w=>
 ∀ K0:LP,(∀ a,∀ w,(∀ g:Env,
 V (sl 9 b (some a) none none) w fun d0 w=>
 CV (.func (.func 125) #[] #[]) #[c,d0] w fun b1 w=>
 CV (.func (.func 132) #[] #[]) #[c] w fun f0 w=>
 R f0 w)->K0 [a] w) ->
 V (ln 9 d) w fun h0 w=>
 V (bi .gtr 3 h0 (.int .i64 0)) w fun i0 w=>
 CondW i0
 (Lp2 (.int .i64 0) (.int .i64 0) w fun I0 M0 a n w m0=>
 V (bi .lss 3 n i) w fun j0 w=>
 CondW j0
 (V (sl 9 b (some a) none none) w fun k0 w=>
 CV (.func (.func 258) #[] #[]) #[k0,d] w fun l0 w=>
 V (bi .add 3 a l0) w fun o w=>
 V (sl 9 b (some a) (some o) none) w fun n0 w=>
 CV (.func (.func 125) #[] #[]) #[c,n0] w fun c1 w=>
 CV (.func (.func 125) #[] #[]) #[c,f] w fun d1 w=>
 V (ln 9 d) w fun o0 w=>
 V (bi .add 3 o o0) w fun p w=>
 V (bi .add 3 n (.int .i64 1)) w fun q w=>
 I0 [p,q] w/\M0 [p,q] w < m0)
 (K0 [a] w))
 (CV (.func (.func 125) #[] #[]) #[c,f] w fun f1 w=>
 V (bi .sub 3 i (.int .i64 1)) w fun p0 w=>
 Lp2 (.int .i64 0) (.int .i64 0) w fun I0 M0 a r w m0=>
 V (bi .lss 3 r p0) w fun q0 w=>
 CondW q0
 (V (sl 9 b (some a) none none) w fun r0 w=>
 CV (.func (.func 262) #[] #[]) #[r0] w fun s w=>
 V (ex s 0) w fun h1 w=>
 V (ex s 1) w fun s0 w=>
 V (bi .add 3 a s0) w fun j w=>
 V (sl 9 b (some a) (some j) none) w fun u0 w=>
 CV (.func (.func 125) #[] #[]) #[c,u0] w fun i1 w=>
 CV (.func (.func 125) #[] #[]) #[c,f] w fun j1 w=>
 V (bi .add 3 r (.int .i64 1)) w fun t w=>
 I0 [j,t] w/\M0 [j,t] w < m0)
 (K0 [a] w)))->K0 [i] w) ->
 CV (.func (.func 223) #[] #[]) #[b,d] w fun k w=>
 V (ec .eql 3 27 k (.int .i64 0)) w fun v0 w=>
 CondW v0
 (R b w)
 (V (bi .lss 3 h (.int .i64 0)) w fun x0 w=>
 ∀ K1:LP,(∀ u,∀ w,(∀ g:Env,
 CondW u
 (K0 [k] w)
 (K0 [h] w))->K1 [u] w) ->
 CondW x0
 (K1 [(.bool true)] w)
 (V (bi .lss 3 k h) w fun y0 w=>
 K1 [y0] w))))->K0 [l] w) ->
 CondW v
 (K0 [(.bool true)] w)
 (V (ec .eql 3 20 h (.int .i64 0)) w fun z0 w=>
 K0 [z0] w)
theorem en236 (h:vc236 R w t0 t1 t2 t3):Calls Tryz.prog 236 #[t0,t1,t2,t3] w (retK R):=enE ⟨by kernel_rfl,by kernel_rfl⟩ (by kernel_rfl:enterW Tryz.prog Tryz.f236 an236 [t0,t1,t2,t3] w R = _) h
def an238:Ann:=(sD 1 (sD 3 (.seq (.one (.seq (.reg (opn 3 (.join [23] [20,21,22,23] (.split 19 (opn 4 .done) (opn 4 .done)) (opn 1 .done)))) (.cond (sD 1 lf) (cD 3 (sD 5 lf) (cD 5 (sD 1 lf) (.seq (.reg (opn 4 (.join [44] [41,42,43,44] (.split 40 (opn 4 .done) (opn 4 .done)) (opn 1 .done)))) (.cond (sD 4 lf) lf))))))) (sD 3 (sD 3 (sD 1 (sD 6 (sD 1 (.seq (.one (.loop [8,10] ([4,8,10,11,12,13] ++ rgN 57 86) (.seq (cD 3 lf lf) (.one (.seqJ [8] ([4,8,11] ++ rgN 60 18) (cD 5 (sD 8 (.seq (cD 2 (sD 1 lf) lf) (oD 5))) lf) (.seq (.seq (.reg (opn 7 (.join [93] (rgN 85 9) (.split 84 (opn 9 .done) (opn 9 .done)) .done))) (.cond (sD 2 lf) lf)) (sD 3 (sD 3 (.seq (.reg (opn 4 (.join [107] [103,104,105,106,107] (.split 102 (opn 5 .done) (opn 5 .done)) .done))) (.cond (sD 6 (.seq (cD 2 (sD 4 lf) lf) (sD 1 lf))) (.seq (.reg (opn 4 (.join [127] (rgN 122 6) (.split 121 (opn 6 .done) (opn 6 .done)) (opn 1 (.join [132] [129,130,131,132] (.split 128 (opn 4 .done) (opn 4 .done)) .done))))) (.cond (sD 6 (.seq (cD 2 (sD 1 lf) lf) (sD 4 lf))) lf)))))))))))) (sD 1 lf))))))))))
def vc238 (R:Value->World->Prop) (w:World) (a b:Value):Prop:=
 V (ln 9 b) w fun d w=>
 V (ec .eql 3 17 d (.int .i64 0)) w fun v w=>
 ∀ K0:LP,(∀ k,∀ w,(∀ g:Env,
 CondW k
 (R (.int .i64 0) w)
 (V (ec .eql 3 25 d (.int .i64 1)) w fun x w=>
 CondW x
 (V (ix 9 b (.int .i64 0)) w fun y w=>
 CV (.func (.func 253) #[] #[]) #[a,y] w fun z w=>
 R z w)
 (V (ln 9 a) w fun a0 w=>
 V (bi .geq 3 d a0) w fun b0 w=>
 CondW b0
 (R (.int .i64 (-1)) w)
 (V (ld 3 (.pointer (some ⟨0,0,none⟩))) w fun c0 w=>
 V (bi .leq 3 d c0) w fun d0 w=>
 ∀ K0:LP,(∀ l,∀ w,(∀ g:Env,
 CondW l
 (CV (.func (.func 264) #[] #[]) #[a,b] w fun f0 w=>
 R f0 w)
 (V (ix 9 b (.int .i64 0)) w fun n w=>
 V (ix 9 b (.int .i64 1)) w fun h0 w=>
 V (ln 9 a) w fun i0 w=>
 V (bi .sub 3 i0 d) w fun j0 w=>
 V (bi .add 3 j0 (.int .i64 1)) w fun j w=>
 Lp2 (.int .i64 0) (.int .i64 0) w fun I0 M0 h k0 w m0=>
 V (bi .lss 3 h j) w fun l0 w=>
 CondW l0
 (∀ K0:LP,(∀ f,∀ w,(∀ g:Env,
 V (bi .add 3 f (.int .i64 1)) w fun n0 w=>
 V (ix 9 a n0) w fun o0 w=>
 V (et .eql 5 81 82 o0 h0) w fun p0 w=>
 ∀ K0:LP,(∀ o,∀ w,(∀ g:Env,
 CondW o
 (R f w)
 (V (bi .add 3 f (.int .i64 1)) w fun c w=>
 V (bi .add 3 k0 (.int .i64 1)) w fun i w=>
 V (ld 3 (.pointer (some ⟨0,0,none⟩))) w fun q0 w=>
 V (bi .leq 3 d q0) w fun r0 w=>
 ∀ K0:LP,(∀ p,∀ w,(∀ g:Env,
 CondW p
 (V (sl 9 a (some c) none none) w fun s0 w=>
 CV (.func (.func 264) #[] #[]) #[s0,b] w fun q w=>
 V (bi .geq 3 q (.int .i64 0)) w fun u0 w=>
 CondW u0
 (V (bi .add 3 q c) w fun v0 w=>
 R v0 w)
 (R (.int .i64 (-1)) w))
 (V (ld 3 (.pointer (some ⟨0,0,none⟩))) w fun x0 w=>
 V (bi .gtr 3 d x0) w fun y0 w=>
 ∀ K0:LP,(∀ r,∀ w,(∀ g:Env,
 ∀ K0:LP,(∀ s,∀ w,(∀ g:Env,
 CondW s
 (V (sl 9 a (some c) none none) w fun z0 w=>
 CV (.func (.func 266) #[] #[]) #[z0,b] w fun t w=>
 V (bi .lss 3 t (.int .i64 0)) w fun a1 w=>
 CondW a1
 (R (.int .i64 (-1)) w)
 (V (bi .add 3 c t) w fun b1 w=>
 R b1 w))
 (I0 [c,i] w/\M0 [c,i] w < m0))->K0 [s] w) ->
 CondW r
 (V (bi .lss 3 c j) w fun c1 w=>
 K0 [c1] w)
 (K0 [(.bool false)] w))->K0 [r] w) ->
 CondW y0
 (V (bi .shr 3 c (.int .u64 4)) w fun d1 w=>
 V (bi .add 3 (.int .i64 4) d1) w fun f1 w=>
 V (bi .geq 3 i f1) w fun h1 w=>
 K0 [h1] w)
 (K0 [(.bool false)] w)))->K0 [p] w) ->
 CondW r0
 (CV (.func (.func 265) #[] #[]) #[c] w fun i1 w=>
 V (bi .gtr 3 i i1) w fun j1 w=>
 K0 [j1] w)
 (K0 [(.bool false)] w)))->K0 [o] w) ->
 CondW p0
 (V (bi .add 3 f d) w fun k1 w=>
 V (sl 9 a (some f) (some k1) none) w fun l1 w=>
 V (et .eql 9 90 91 l1 b) w fun n1 w=>
 K0 [n1] w)
 (K0 [(.bool false)] w))->K0 [f] w) ->
 V (ix 9 a h) w fun o1 w=>
 V (et .neq 5 62 63 o1 n) w fun p1 w=>
 CondW p1
 (V (bi .add 3 h (.int .i64 1)) w fun q1 w=>
 V (sl 9 a (some q1) (some j) none) w fun r1 w=>
 CV (.func (.func 253) #[] #[]) #[r1,n] w fun u w=>
 V (bi .lss 3 u (.int .i64 0)) w fun s1 w=>
 CondW s1
 (R (.int .i64 (-1)) w)
 (V (bi .add 3 u (.int .i64 1)) w fun u1 w=>
 V (bi .add 3 h u1) w fun v1 w=>
 K0 [v1] w))
 (K0 [h] w))
 (R (.int .i64 (-1)) w)))->K0 [l] w) ->
 CondW d0
 (V (ln 9 a) w fun x1 w=>
 V (bi .leq 3 x1 (.int .i64 64)) w fun y1 w=>
 K0 [y1] w)
 (K0 [(.bool false)] w)))))->K0 [k] w) ->
 CondW v
 (K0 [(.bool true)] w)
 (V (et .eql 9 20 21 b a) w fun z1 w=>
 K0 [z1] w)
theorem en238 (h:vc238 R w t0 t1):Calls Tryz.prog 238 #[t0,t1] w (retK R):=enE ⟨by kernel_rfl,by kernel_rfl⟩ (by kernel_rfl:enterW Tryz.prog Tryz.f238 an238 [t0,t1] w R = _) h
def an246:Ann:=(sD 1 (.seq (sD 3 (.one (.loop [8] ([4,5] ++ rgN 8 11) (sD 1 (.seq (.cond lf lf) (.seq (.one (sD 2 (cD 6 (sD 2 lf) lf))) (oD 2))))))) (sD 1 lf)))
def vc246 (R:Value->World->Prop) (w:World) (b d:Value):Prop:=
 V (ln 23 b) w fun f w=>
 Lp1 (.int .i64 0) w fun I0 M0 a w m0=>
 V (bi .lss 3 a f) w fun h w=>
 CondW h
 (V (ia 23 b a) w fun i w=>
 V (ld 93 i) w fun j w=>
 CV d #[j] w fun k w=>
 CondW k
 (R a w)
 (V (bi .add 3 a (.int .i64 1)) w fun c w=>
 I0 [c] w/\M0 [c] w < m0))
 (R (.int .i64 (-1)) w)
theorem en246 (h:vc246 R w t0 t1):Calls Tryz.prog 246 #[t0,t1] w (retK R):=enE ⟨by kernel_rfl,by kernel_rfl⟩ (by kernel_rfl:enterW Tryz.prog Tryz.f246 an246 [t0,t1] w R = _) h
def an247:Ann:=(sD 1 (.seq (sD 3 (.one (.loop [8] ([4,5] ++ rgN 8 11) (sD 1 (.seq (.cond lf lf) (.seq (.one (sD 2 (cD 6 (sD 2 lf) lf))) (oD 2))))))) (sD 1 lf)))
def vc247 (R:Value->World->Prop) (w:World) (b d:Value):Prop:=
 V (ln 93 b) w fun f w=>
 Lp1 (.int .i64 0) w fun I0 M0 a w m0=>
 V (bi .lss 3 a f) w fun h w=>
 CondW h
 (V (ia 93 b a) w fun i w=>
 V (ld 95 i) w fun j w=>
 CV d #[j] w fun k w=>
 CondW k
 (R a w)
 (V (bi .add 3 a (.int .i64 1)) w fun c w=>
 I0 [c] w/\M0 [c] w < m0))
 (R (.int .i64 (-1)) w)
theorem en247 (h:vc247 R w t0 t1):Calls Tryz.prog 247 #[t0,t1] w (retK R):=enE ⟨by kernel_rfl,by kernel_rfl⟩ (by kernel_rfl:enterW Tryz.prog Tryz.f247 an247 [t0,t1] w R = _) h
def an248:Ann:=(sD 1 (.seq (sD 3 (.one (.loop [8] ([4,5] ++ rgN 8 11) (sD 1 (.seq (.cond lf lf) (.seq (.one (sD 2 (cD 6 (sD 2 lf) lf))) (oD 2))))))) (sD 1 lf)))
def vc248 (R:Value->World->Prop) (w:World) (b d:Value):Prop:=
 V (ln 22 b) w fun f w=>
 Lp1 (.int .i64 0) w fun I0 M0 a w m0=>
 V (bi .lss 3 a f) w fun h w=>
 CondW h
 (V (ia 22 b a) w fun i w=>
 V (ld 9 i) w fun j w=>
 CV d #[j] w fun k w=>
 CondW k
 (R a w)
 (V (bi .add 3 a (.int .i64 1)) w fun c w=>
 I0 [c] w/\M0 [c] w < m0))
 (R (.int .i64 (-1)) w)
theorem en248 (h:vc248 R w t0 t1):Calls Tryz.prog 248 #[t0,t1] w (retK R):=enE ⟨by kernel_rfl,by kernel_rfl⟩ (by kernel_rfl:enterW Tryz.prog Tryz.f248 an248 [t0,t1] w R = _) h
def an249:Ann:=(sD 1 (.seq (sD 3 (.one (.loop [8] ([4,5] ++ rgN 8 11) (sD 1 (.seq (.cond lf lf) (.seq (.one (sD 2 (cD 6 (sD 2 lf) lf))) (oD 2))))))) (sD 1 lf)))
def vc249 (R:Value->World->Prop) (w:World) (b d:Value):Prop:=
 V (ln 24 b) w fun f w=>
 Lp1 (.int .i64 0) w fun I0 M0 a w m0=>
 V (bi .lss 3 a f) w fun h w=>
 CondW h
 (V (ia 24 b a) w fun i w=>
 V (ld 96 i) w fun j w=>
 CV d #[j] w fun k w=>
 CondW k
 (R a w)
 (V (bi .add 3 a (.int .i64 1)) w fun c w=>
 I0 [c] w/\M0 [c] w < m0))
 (R (.int .i64 (-1)) w)
theorem en249 (h:vc249 R w t0 t1):Calls Tryz.prog 249 #[t0,t1] w (retK R):=enE ⟨by kernel_rfl,by kernel_rfl⟩ (by kernel_rfl:enterW Tryz.prog Tryz.f249 an249 [t0,t1] w R = _) h
def an250:Ann:=(sD 1 (sD 5 lf))
def vc250 (R:Value->World->Prop) (w:World) (a b:Value):Prop:=
 CV (.func (.func 274) #[] #[]) #[a,b] w fun c w=>
 V (bi .geq 3 c (.int .i64 0)) w fun d w=>
 R d w
theorem en250 (h:vc250 R w t0 t1):Calls Tryz.prog 250 #[t0,t1] w (retK R):=enE ⟨by kernel_rfl,by kernel_rfl⟩ (by kernel_rfl:enterW Tryz.prog Tryz.f250 an250 [t0,t1] w R = _) h
def an251:Ann:=(sD 1 (sD 5 lf))
def vc251 (R:Value->World->Prop) (w:World) (a b:Value):Prop:=
 V (ld 280 b) w fun c w=>
 CV c #[a] w fun d w=>
 V (un .not d) w fun f w=>
 R f w
theorem en251 (h:vc251 R w t0 t1):Calls Tryz.prog 251 #[t0,t1] w (retK R):=enE ⟨by kernel_rfl,by kernel_rfl⟩ (by kernel_rfl:enterW Tryz.prog Tryz.f251 an251 [t0,t1] w R = _) h
def an252:Ann:=(sD 1 (.seq (sD 3 (.one (.loop [8] ([4,5] ++ rgN 8 11) (sD 1 (.seq (.cond lf lf) (.seq (.one (sD 2 (cD 6 (sD 2 lf) lf))) (oD 2))))))) (sD 1 lf)))
def vc252 (R:Value->World->Prop) (w:World) (b d:Value):Prop:=
 V (ln 96 b) w fun f w=>
 Lp1 (.int .i64 0) w fun I0 M0 a w m0=>
 V (bi .lss 3 a f) w fun h w=>
 CondW h
 (V (ia 96 b a) w fun i w=>
 V (ld 98 i) w fun j w=>
 CV d #[j] w fun k w=>
 CondW k
 (R a w)
 (V (bi .add 3 a (.int .i64 1)) w fun c w=>
 I0 [c] w/\M0 [c] w < m0))
 (R (.int .i64 (-1)) w)
theorem en252 (h:vc252 R w t0 t1):Calls Tryz.prog 252 #[t0,t1] w (retK R):=enE ⟨by kernel_rfl,by kernel_rfl⟩ (by kernel_rfl:enterW Tryz.prog Tryz.f252 an252 [t0,t1] w R = _) h
def an253:Ann:=(sD 1 (sD 4 lf))
def vc253 (R:Value->World->Prop) (w:World) (a b:Value):Prop:=
 CV (.func (.func 275) #[] #[]) #[a,b] w fun c w=>
 R c w
theorem en253 (h:vc253 R w t0 t1):Calls Tryz.prog 253 #[t0,t1] w (retK R):=enE ⟨by kernel_rfl,by kernel_rfl⟩ (by kernel_rfl:enterW Tryz.prog Tryz.f253 an253 [t0,t1] w R = _) h
def an254:Ann:=(sD 1 (.seq (.reg (opn 3 (.join [9] [6,7,8,9] (.split 5 (opn 4 .done) (opn 4 .done)) (opn 1 .done)))) lf))
def vc254 (R:Value->World->Prop) (w:World) (a:Value):Prop:=
 V (ec .neq 9 3 a (.string ⟨#[]⟩)) w fun c w=>
 ∀ K0:LP,(∀ b,∀ w,(∀ g:Env,
 R b w)->K0 [b] w) ->
 CondW c
 (V (cv 9 55 a) w fun d w=>
 CV (.func (.func 216) #[] #[]) #[d,(.func (.func 255) #[] #[])] w fun f w=>
 K0 [f] w)
 (K0 [(.bool false)] w)
theorem en254 (h:vc254 R w t0):Calls Tryz.prog 254 #[t0] w (retK R):=enE ⟨by kernel_rfl,by kernel_rfl⟩ (by kernel_rfl:enterW Tryz.prog Tryz.f254 an254 [t0] w R = _) h
def an255:Ann:=(sD 1 (sD 4 lf))
def vc255 (R:Value->World->Prop) (w:World) (a:Value):Prop:=
 V (cv 5 3 a) w fun b w=>
 CV (.func (.func 75) #[] #[]) #[b,(.int .i64 48),(.int .i64 57)] w fun c w=>
 R c w
theorem en255 (h:vc255 R w t0):Calls Tryz.prog 255 #[t0] w (retK R):=enE ⟨by kernel_rfl,by kernel_rfl⟩ (by kernel_rfl:enterW Tryz.prog Tryz.f255 an255 [t0] w R = _) h
def an258:Ann:=(sD 1 (sD 4 lf))
def vc258 (R:Value->World->Prop) (w:World) (a b:Value):Prop:=
 CV (.func (.func 238) #[] #[]) #[a,b] w fun c w=>
 R c w
theorem en258 (h:vc258 R w t0 t1):Calls Tryz.prog 258 #[t0,t1] w (retK R):=enE ⟨by kernel_rfl,by kernel_rfl⟩ (by kernel_rfl:enterW Tryz.prog Tryz.f258 an258 [t0,t1] w R = _) h
def an259:Ann:=(sD 1 (.seq (.reg (opn 6 (.join [20] (rgN 11 10) (.split 10 (opn 10 .done) (opn 10 .done)) (opn 1 .done)))) lf))
def vc259 (R:Value->World->Prop) (w:World) (a b:Value):Prop:=
 V (ln 9 a) w fun d w=>
 V (ln 9 b) w fun f w=>
 V (bi .geq 3 d f) w fun h w=>
 ∀ K0:LP,(∀ c,∀ w,(∀ g:Env,
 R c w)->K0 [c] w) ->
 CondW h
 (V (ln 9 a) w fun i w=>
 V (ln 9 b) w fun j w=>
 V (bi .sub 3 i j) w fun k w=>
 V (sl 9 a (some k) none none) w fun l w=>
 V (et .eql 9 17 18 l b) w fun n w=>
 K0 [n] w)
 (K0 [(.bool false)] w)
theorem en259 (h:vc259 R w t0 t1):Calls Tryz.prog 259 #[t0,t1] w (retK R):=enE ⟨by kernel_rfl,by kernel_rfl⟩ (by kernel_rfl:enterW Tryz.prog Tryz.f259 an259 [t0,t1] w R = _) h
def an260:Ann:=(sD 1 (.seq (sD 3 (.one (.loop [8] ([4,5] ++ rgN 8 11) (sD 1 (.seq (.cond lf lf) (.seq (.one (sD 2 (cD 6 (sD 2 lf) lf))) (oD 2))))))) (sD 1 lf)))
def vc260 (R:Value->World->Prop) (w:World) (b d:Value):Prop:=
 V (ln 45 b) w fun f w=>
 Lp1 (.int .i64 0) w fun I0 M0 a w m0=>
 V (bi .lss 3 a f) w fun h w=>
 CondW h
 (V (ia 45 b a) w fun i w=>
 V (ld 3 i) w fun j w=>
 CV d #[j] w fun k w=>
 CondW k
 (R a w)
 (V (bi .add 3 a (.int .i64 1)) w fun c w=>
 I0 [c] w/\M0 [c] w < m0))
 (R (.int .i64 (-1)) w)
theorem en260 (h:vc260 R w t0 t1):Calls Tryz.prog 260 #[t0,t1] w (retK R):=enE ⟨by kernel_rfl,by kernel_rfl⟩ (by kernel_rfl:enterW Tryz.prog Tryz.f260 an260 [t0,t1] w R = _) h
def an261:Ann:=(.seq (.draw (tkN 0 3 (.hold 3 (tkN 4 4 (tkN 9 3 (.hold 12 (.take 13 (e1 8 (.take 14 (.take 15 .done)))))))))) (sD 6 (oD 5)))
def vc261 (R:Value->World->Prop) (w:World) (a i:Value):Prop:=
 Dr w fun w=>
 NilW a fun j=>PV (fa 199 j 1) fun b=>
 HV (ld 55 b) w fun c=>
 PV (Builtin.cap_ #[55] 3 #[c]) fun k=>
 PV (bi .mul 3 (.int .i64 2) k) fun l=>
 PV (bi .add 3 l i) fun n=>
 NilW a fun o=>PV (fa 199 o 1) fun d=>
 HV (ld 55 d) w fun f=>
 PV (ln 55 f) fun p=>
 CV (.func (.func 276) #[] #[]) #[n] w fun q w=>
 RunIs (ld 55 d) w f/\RunIs (ld 55 b) w c/\(PV (sl 55 q none (some p) none) fun h=>
 NilW a fun r=>V (fa 199 r 1) w fun s w=>
 V (ld 55 s) w fun t w=>
 V (Builtin.copy_ #[55,55] 3 #[h,t]) w fun x w=>
 NilW a fun u=>V (fa 199 u 1) w fun v w=>
 U (st 55 v h) w fun w=>
 R (.tuple #[]) w)
theorem en261 (h:vc261 R w t0 t1):Calls Tryz.prog 261 #[t0,t1] w (retK R):=enE ⟨by kernel_rfl,by kernel_rfl⟩ (by kernel_rfl:enterW Tryz.prog Tryz.f261 an261 [t0,t1] w R = _) h
def an274:Ann:=(sD 1 (.seq (sD 3 (.one (.loop [8] ([4,5] ++ rgN 8 11) (sD 1 (.seq (.cond lf lf) (.seq (.one (sD 2 (cD 6 (sD 2 lf) lf))) (oD 2))))))) (sD 1 lf)))
def vc274 (R:Value->World->Prop) (w:World) (b d:Value):Prop:=
 V (ln 55 b) w fun f w=>
 Lp1 (.int .i64 0) w fun I0 M0 a w m0=>
 V (bi .lss 3 a f) w fun h w=>
 CondW h
 (V (ia 55 b a) w fun i w=>
 V (ld 5 i) w fun j w=>
 CV d #[j] w fun k w=>
 CondW k
 (R a w)
 (V (bi .add 3 a (.int .i64 1)) w fun c w=>
 I0 [c] w/\M0 [c] w < m0))
 (R (.int .i64 (-1)) w)
theorem en274 (h:vc274 R w t0 t1):Calls Tryz.prog 274 #[t0,t1] w (retK R):=enE ⟨by kernel_rfl,by kernel_rfl⟩ (by kernel_rfl:enterW Tryz.prog Tryz.f274 an274 [t0,t1] w R = _) h
end
end Go.Proofs.YtbeelfopmkbllaaGreatDoor
