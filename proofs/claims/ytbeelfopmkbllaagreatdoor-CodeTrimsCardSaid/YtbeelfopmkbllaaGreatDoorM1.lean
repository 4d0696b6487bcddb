/- Texts joined: VCa. -/
import Derived.Test.YtbeelfopmkbllaaGreatDoorM0
import Derived.Test.YtbeelfopmkbllaaGreatDoorProg
set_option linter.unusedSimpArgs false
set_option linter.unusedVariables false
set_option linter.unusedSectionVars false
set_option maxRecDepth 100000
namespace Go.Proofs.YtbeelfopmkbllaaGreatDoor
section
open Go Q
def rgN:Nat->Nat->List Nat
  | _,0=>[]
  | a,n + 1=>a :: rgN (a + 1) n
def tkN:Nat->Nat->Plan->Plan
  | _,0,p=>p
  | a,n + 1,p=>.take a (tkN (a + 1) n p)
def oD (n:Nat):Ann:=.reg (opn n .done)
def sD (n:Nat) (a:Ann):Ann:=.seq (.reg (opn n .done)) a
def cD (n:Nat) (a b:Ann):Ann:=.seq (.reg (opn n .done)) (.cond a b)
def e1 (i:Nat) (p:Plan):Plan:=.alts (.eff i p .nil)
abbrev lf:Ann:=.leaf
abbrev LP:=List Value->World->Prop
abbrev LN:=List Value->World->Nat
abbrev Lp1 (x:Value) (w:World) (b:LP->LN->Value->World->Nat->Prop):Prop:=∃ (I:LP) (M:LN),I [x] w/\∀ _:Env,∀ t w,I [t] w->∀ m,m = M [t] w->b I M t w m
abbrev Lp2 (x y:Value) (w:World) (b:LP->LN->Value->Value->World->Nat->Prop):Prop:=∃ (I:LP) (M:LN),I [x,y] w/\∀ _:Env,∀ t u w,I [t,u] w->∀ m,m = M [t,u] w->b I M t u w m
abbrev ec (o:BinOp) (t:TypeId) (n:Nat) (v x:Value):Sem Value:=eq o t (.tmp n) (.const x) v x
abbrev et (o:BinOp) (t:TypeId) (n k:Nat) (v x:Value):Sem Value:=eq o t (.tmp n) (.tmp k) v x
abbrev ln (t:TypeId) (x:Value):Sem Value:=Builtin.len_ #[t] 3 #[x]
theorem enE {f:FuncId} {fn:Func} {ann:Ann} {l:List Value} {w:World} {R:Value->World->Prop} {p:Prop} (h0:Tryz.prog.funcs[f]? = some fn/\Nat.ble l.length fn.ntmps = true) (he:enterW Tryz.prog fn ann l w R = p) (h:p):Calls Tryz.prog f l.toArray w (retK R):=calls_of_enter mixed h0.1 h0.2 (Eq.mpr he h)
variable {R:Value->World->Prop} {w:World} {t0 t1 t2 t3 t4 t5 t6:Value}
def an3:Ann:=(sD 2 (sD 2 (.seq (cD 3 (sD 2 lf) lf) (sD 7 (sD 4 (.seq (.reg (opn 2 (.join [25] [21,22,23,24,25] (.split 20 (opn 5 .done) (opn 5 .done)) (opn 1 (.join [31] [27,28,29,30,31] (.split 26 (opn 5 .done) (opn 5 .done)) (opn 1 .done)))))) lf))))))
def vc3 (R:Value->World->Prop) (w:World) (i:Value):Prop:=
 V (bx 28 i) w fun a w=>
 CV (.func (.func 13) #[] #[]) #[] w fun c w=>
 V (ld 28 a) w fun j w=>
 CV (.func (.func 14) #[] #[]) #[j] w fun k w=>
 V (un .not k) w fun l w=>
 CondW l
 (R c w)
 (V (ld 28 a) w fun n w=>
 CV (.func (.func 15) #[] #[]) #[n] w fun d w=>
 V (ex d 0) w fun o w=>
 V (ex d 1) w fun p w=>
 V (ld 28 a) w fun q w=>
 CV (.func (.func 16) #[] #[]) #[q] w fun r w=>
 V (al 35) w fun b w=>
 U (st 35 b r) w fun w=>
 ∀ K0:LP,(∀ f,∀ w,(∀ g:Env,
 ∀ K0:LP,(∀ h,∀ w,(∀ g:Env,
 R h w)->K0 [h] w) ->
 CondW f
 (V (fa 35 b 1) w fun s w=>
 V (ld 3 s) w fun t w=>
 V (et .eql 3 27 29 p t) w fun u w=>
 K0 [u] w)
 (K0 [(.bool false)] w))->K0 [f] w) ->
 CondW c
 (V (fa 35 b 0) w fun v w=>
 V (ld 31 v) w fun x w=>
 V (et .eql 31 21 23 o x) w fun y w=>
 K0 [y] w)
 (K0 [(.bool false)] w))
def an9:Ann:=(sD 3 (sD 2 (.seq (.seq (.reg (opn 4 (.join [19] [16,17,18,19] (.split 15 (opn 4 .done) (opn 4 .done)) .done))) (.cond (sD 2 lf) lf)) (sD 10 (sD 4 (sD 5 (.seqJ [4] ([4] ++ rgN 33 30) (.draw (.take 0 (.take 1 (.split 34 (tkN 2 3 (.split 37 (.take 5 (.take 6 (.hold 7 (e1 8 (.take 9 (.take 10 (.split 43 (.take 11 (.take 12 (.hold 13 (tkN 14 3 (.split 49 (.hold 17 (.hold 18 (.hold 20 (.hold 21 (e1 19 (e1 22 (tkN 23 3 (.split 58 (.hold 26 (.hold 27 (e1 28 (.take 29 (.take 30 .done))))) (tkN 26 5 .done))))))))) (tkN 17 14 .done)))))) (tkN 11 20 .done)))))))) (tkN 5 26 .done))) (tkN 2 29 .done))))) lf)))))))
def vc9 (R:Value->World->Prop) (w:World) (p q:Value):Prop:=
 V (bx 28 p) w fun a w=>
 V (bx 28 q) w fun b w=>
 CV (.func (.func 13) #[] #[]) #[] w fun i w=>
 V (ld 28 a) w fun r w=>
 CV (.func (.func 14) #[] #[]) #[r] w fun s w=>
 V (un .not s) w fun t w=>
 ∀ K0:LP,(∀ j,∀ w,(∀ g:Env,
 CondW j
 (R i w)
 (V (ld 28 a) w fun u w=>
 CV (.func (.func 20) #[] #[]) #[u] w fun h w=>
 V (ex h 0) w fun v w=>
 V (ex h 1) w fun x w=>
 V (ex h 2) w fun y w=>
 V (al 28) w fun k w=>
 U (st 28 k v) w fun w=>
 V (ld 28 a) w fun z w=>
 CV (.func (.func 32) #[] #[]) #[z] w fun a0 w=>
 V (al 67) w fun c w=>
 U (st 67 c a0) w fun w=>
 V (ld 28 k) w fun b0 w=>
 V (fa 67 c 0) w fun c0 w=>
 V (ld 28 c0) w fun d0 w=>
 CV (.func (.func 21) #[] #[]) #[b0,d0] w fun f0 w=>
 ∀ K0:LP,(∀ l,∀ w,(∀ g:Env,
 R l w)->K0 [l] w) ->
 Dr w fun w=>
 CondW i
 (CondW f0
 (PV (fa 67 c 1) fun h0=>
 HV (ld 45 h0) w fun i0=>
 CV (.func (.func 30) #[] #[]) #[x,i0] w fun j0 w=>
 CondW j0
 (PV (fa 67 c 2) fun d=>
 HV (ld 31 d) w fun f=>
 PV (et .eql 31 44 46 y f) fun k0=>
 CondW k0
 (HV (ld 28 a) w fun l0=>
 HV (ld 28 b) w fun n0=>
 HV (ld 28 a) w fun n=>
 HV (ld 28 b) w fun o=>
 CV (.func (.func 33) #[] #[]) #[l0,n0] w fun o0 w=>
 RunIs (ld 28 b) w o/\RunIs (ld 28 a) w n/\RunIs (ld 31 d) w f/\(CV (.func (.func 21) #[] #[]) #[n,o] w fun p0 w=>
 RunIs (ld 31 d) w f/\(PV (et .eql 4 52 55 o0 p0) fun q0=>
 CondW q0
 (HV (ld 28 a) w fun r0=>
 HV (ld 28 a) w fun s0=>
 CV (.func (.func 33) #[] #[]) #[r0,s0] w fun u0 w=>
 RunIs (ld 31 d) w f/\(K0 [u0] w))
 (K0 [(.bool false)] w))))
 (K0 [(.bool false)] w))
 (K0 [(.bool false)] w))
 (K0 [(.bool false)] w))
 (K0 [(.bool false)] w)))->K0 [j] w) ->
 CondW t
 (K0 [(.bool true)] w)
 (V (ld 28 b) w fun v0 w=>
 CV (.func (.func 14) #[] #[]) #[v0] w fun x0 w=>
 V (un .not x0) w fun y0 w=>
 K0 [y0] w)
theorem en9 (h:vc9 R w t0 t1):Calls Tryz.prog 9 #[t0,t1] w (retK R):=enE ⟨by kernel_rfl,by kernel_rfl⟩ (by kernel_rfl:enterW Tryz.prog Tryz.f9 an9 [t0,t1] w R = _) h
def an13:Ann:=(sD 1 (sD 3 (sD 9 (sD 7 (sD 10 (sD 7 (sD 3 (.seq (.draw (.take 0 (.hold 1 (e1 2 (.take 3 (e1 4 .done)))))) (sD 7 (sD 9 (sD 9 (.seq (.reg (opn 3 (.join [74] [71,72,73,74] (.split 70 (opn 4 .done) (opn 4 .done)) (opn 1 (.join [79] [76,77,78,79] (.split 75 (opn 4 .done) (opn 4 .done)) (opn 1 (.join [83] [81,82,83] (.split 80 (opn 3 .done) (opn 3 .done)) (opn 1 (.join [88] [85,86,87,88] (.split 84 (opn 4 .done) (opn 4 .done)) (opn 1 (.join [93] [90,91,92,93] (.split 89 (opn 4 .done) (opn 4 .done)) (opn 1 .done)))))))))))) (.seq (.reg (opn 3 (.join [101] [97,98,99,100,101] (.split 96 (opn 5 .done) (opn 5 .done)) (opn 1 (.join [105] [103,104,105] (.split 102 (opn 3 .done) (opn 3 .done)) (opn 1 (.join [110] [107,108,109,110] (.split 106 (opn 4 .done) (opn 4 .done)) (opn 1 (.join [116] [112,113,114,115,116] (.split 111 (opn 5 .done) (opn 5 .done)) (opn 1 (.join [122] [118,119,120,121,122] (.split 117 (opn 5 .done) (opn 5 .done)) (opn 1 (.join [128] [124,125,126,127,128] (.split 123 (opn 5 .done) (opn 5 .done)) (opn 1 .done)))))))))))))) (.seq (.reg (opn 2 (.join [132] [131,132] (.split 130 (opn 2 .done) (opn 2 .done)) (opn 1 (.join [136] [134,135,136] (.split 133 (opn 3 .done) (opn 3 .done)) (opn 1 (.join [140] [138,139,140] (.split 137 (opn 3 .done) (opn 3 .done)) (opn 1 (.join [144] [142,143,144] (.split 141 (opn 3 .done) (opn 3 .done)) (opn 1 (.join [148] [146,147,148] (.split 145 (opn 3 .done) (opn 3 .done)) (opn 1 (.join [152] [150,151,152] (.split 149 (opn 3 .done) (opn 3 .done)) (opn 1 .done)))))))))))))) lf))))))))))))))
def vc13 (R:Value->World->Prop) (w:World):Prop:=
 CV (.func (.func 44) #[] #[]) #[] w fun l0 w=>
 V (al 28) w fun a w=>
 U (st 28 a l0) w fun w=>
 V (ld 28 a) w fun n0 w=>
 CV (.func (.func 23) #[] #[]) #[n0] w fun c w=>
 V (ex c 0) w fun o0 w=>
 V (ex c 1) w fun p0 w=>
 V (ex c 2) w fun q0 w=>
 V (ld 28 a) w fun r0 w=>
 CV (.func (.func 40) #[] #[]) #[r0] w fun i w=>
 V (ex i 0) w fun j w=>
 V (ex i 1) w fun s0 w=>
 V (ld 28 a) w fun t0 w=>
 CV (.func (.func 20) #[] #[]) #[t0] w fun d w=>
 V (ex d 0) w fun u0 w=>
 V (ex d 1) w fun b3 w=>
 V (ex d 2) w fun v0 w=>
 V (al 28) w fun k w=>
 U (st 28 k u0) w fun w=>
 V (ld 28 a) w fun x0 w=>
 CV (.func (.func 35) #[] #[]) #[x0] w fun l w=>
 V (ex l 0) w fun b w=>
 V (ex l 1) w fun y0 w=>
 CV (.func (.func 44) #[] #[]) #[] w fun z0 w=>
 V (al 28) w fun f w=>
 U (st 28 f z0) w fun w=>
 Dr w fun w=>
 PV (fa 28 f 5) fun n=>
 HV (ld 26 n) w fun o=>
 CV (.func (.func 45) #[] #[]) #[(.int .i64 39),(.int .i64 0),(.int .i64 0),(.int .i64 0)] w fun a1 w=>
 RunIs (ld 26 n) w o/\(PV (ia 26 o (.int .i64 2)) fun b1=>
 U (st 38 b1 a1) w fun w=>
 V (ld 28 f) w fun c1 w=>
 CV (.func (.func 15) #[] #[]) #[c1] w fun p w=>
 V (ex p 0) w fun d1 w=>
 V (ex p 1) w fun c3 w=>
 CV (.func (.func 45) #[] #[]) #[(.int .i64 23),(.int .i64 0),(.int .i64 0),(.int .i64 0)] w fun f1 w=>
 V (bs 26 1 #[(0,f1)]) w fun h1 w=>
 V (bd 28 #[(5,h1)]) w fun i1 w=>
 CV (.func (.func 15) #[] #[]) #[i1] w fun q w=>
 V (ex q 0) w fun j1 w=>
 V (ex q 1) w fun d3 w=>
 CV (.func (.func 45) #[] #[]) #[(.int .i64 27),(.int .i64 0),(.int .i64 13),(.int .i64 0)] w fun k1 w=>
 CV (.func (.func 17) #[] #[]) #[k1] w fun h w=>
 V (ex h 0) w fun l1 w=>
 V (ex h 1) w fun n1 w=>
 V (ex h 2) w fun o1 w=>
 V (ec .eql 31 68 q0 (.int .i64 0)) w fun p1 w=>
 ∀ K0:LP,(∀ r,∀ w,(∀ g:Env,
 ∀ K0:LP,(∀ s,∀ w,(∀ g:Env,
 ∀ K0:LP,(∀ t,∀ w,(∀ g:Env,
 ∀ K0:LP,(∀ u,∀ w,(∀ g:Env,
 ∀ K0:LP,(∀ v,∀ w,(∀ g:Env,
 V (ec .eql 31 94 v0 (.int .i64 0)) w fun q1 w=>
 ∀ K0:LP,(∀ x,∀ w,(∀ g:Env,
 ∀ K0:LP,(∀ y,∀ w,(∀ g:Env,
 ∀ K0:LP,(∀ z,∀ w,(∀ g:Env,
 ∀ K0:LP,(∀ a0,∀ w,(∀ g:Env,
 ∀ K0:LP,(∀ b0,∀ w,(∀ g:Env,
 ∀ K0:LP,(∀ c0,∀ w,(∀ g:Env,
 ∀ K0:LP,(∀ d0,∀ w,(∀ g:Env,
 ∀ K0:LP,(∀ f0,∀ w,(∀ g:Env,
 ∀ K0:LP,(∀ h0,∀ w,(∀ g:Env,
 ∀ K0:LP,(∀ i0,∀ w,(∀ g:Env,
 ∀ K0:LP,(∀ j0,∀ w,(∀ g:Env,
 ∀ K0:LP,(∀ k0,∀ w,(∀ g:Env,
 R k0 w)->K0 [k0] w) ->
 CondW j0
 (V (ec .eql 3 150 n1 (.int .i64 0)) w fun r1 w=>
 K0 [r1] w)
 (K0 [(.bool false)] w))->K0 [j0] w) ->
 CondW i0
 (V (ec .eql 3 146 l1 (.int .i64 3)) w fun s1 w=>
 K0 [s1] w)
 (K0 [(.bool false)] w))->K0 [i0] w) ->
 CondW h0
 (V (ec .eql 31 142 o1 (.int .i64 0)) w fun u1 w=>
 K0 [u1] w)
 (K0 [(.bool false)] w))->K0 [h0] w) ->
 CondW f0
 (V (ec .eql 31 138 j1 (.int .i64 0)) w fun v1 w=>
 K0 [v1] w)
 (K0 [(.bool false)] w))->K0 [f0] w) ->
 CondW d0
 (V (ec .eql 31 134 d1 (.int .i64 12)) w fun x1 w=>
 K0 [x1] w)
 (K0 [(.bool false)] w))->K0 [d0] w) ->
 CondW v
 (K0 [c0] w)
 (K0 [(.bool false)] w))->K0 [c0] w) ->
 CondW b0
 (V (ia 55 b (.int .i64 2)) w fun y1 w=>
 V (ld 5 y1) w fun z1 w=>
 V (ec .eql 5 126 z1 (.int .u8 10)) w fun a2 w=>
 K0 [a2] w)
 (K0 [(.bool false)] w))->K0 [b0] w) ->
 CondW a0
 (V (ia 55 b (.int .i64 1)) w fun b2 w=>
 V (ld 5 b2) w fun c2 w=>
 V (ec .eql 5 120 c2 (.int .u8 6)) w fun d2 w=>
 K0 [d2] w)
 (K0 [(.bool false)] w))->K0 [a0] w) ->
 CondW z
 (V (ia 55 b (.int .i64 0)) w fun f2 w=>
 V (ld 5 f2) w fun h2 w=>
 V (ec .eql 5 114 h2 (.int .u8 81)) w fun i2 w=>
 K0 [i2] w)
 (K0 [(.bool false)] w))->K0 [z] w) ->
 CondW y
 (V (ln 55 b) w fun j2 w=>
 V (bi .gtr 3 j2 (.int .i64 3)) w fun k2 w=>
 K0 [k2] w)
 (K0 [(.bool false)] w))->K0 [y] w) ->
 CondW x
 (V (ec .eql 31 103 y0 (.int .i64 0)) w fun l2 w=>
 K0 [l2] w)
 (K0 [(.bool false)] w))->K0 [x] w) ->
 CondW q1
 (V (fa 28 k 0) w fun n2 w=>
 V (ld 22 n2) w fun o2 w=>
 V (ln 22 o2) w fun p2 w=>
 V (ec .eql 3 99 p2 (.int .i64 2)) w fun q2 w=>
 K0 [q2] w)
 (K0 [(.bool false)] w))->K0 [v] w) ->
 CondW u
 (V (sl 9 j none (some (.int .i64 10)) none) w fun r2 w=>
 V (ec .eql 9 91 r2 (.string ⟨#[116,101,120,116,32,34,83,65,89,32]⟩)) w fun s2 w=>
 K0 [s2] w)
 (K0 [(.bool false)] w))->K0 [u] w) ->
 CondW t
 (V (ln 9 j) w fun t2 w=>
 V (bi .gtr 3 t2 (.int .i64 10)) w fun u2 w=>
 K0 [u2] w)
 (K0 [(.bool false)] w))->K0 [t] w) ->
 CondW s
 (V (ec .eql 31 81 s0 (.int .i64 0)) w fun v2 w=>
 K0 [v2] w)
 (K0 [(.bool false)] w))->K0 [s] w) ->
 CondW r
 (V (ms 45 (.int .i64 6) (.int .i64 6)) w fun x2 w=>
 CV (.func (.func 30) #[] #[]) #[p0,x2] w fun y2 w=>
 K0 [y2] w)
 (K0 [(.bool false)] w))->K0 [r] w) ->
 CondW p1
 (V (bs 45 6 #[(0,(.int .i64 0)),(1,(.int .i64 0)),(2,(.int .i64 1)),(3,(.int .i64 1)),(4,(.int .i64 0)),(5,(.int .i64 0))]) w fun z2 w=>
 CV (.func (.func 30) #[] #[]) #[o0,z2] w fun a3 w=>
 K0 [a3] w)
 (K0 [(.bool false)] w))
theorem en13 (h:vc13 R w ):Calls Tryz.prog 13 #[] w (retK R):=enE ⟨by kernel_rfl,by kernel_rfl⟩ (by kernel_rfl:enterW Tryz.prog Tryz.f13 an13 [] w R = _) h
def an14:Ann:=(sD 2 (.seq (.seq (.reg (opn 5 (.join [18] [14,15,16,17,18] (.split 13 (opn 5 .done) (opn 5 .done)) (opn 1 (.join [24] [20,21,22,23,24] (.split 19 (opn 5 .done) (opn 5 .done)) (opn 1 (.join [30] [26,27,28,29,30] (.split 25 (opn 5 .done) (opn 5 .done)) (opn 1 (.join [36] [32,33,34,35,36] (.split 31 (opn 5 .done) (opn 5 .done)) (opn 1 (.join [42] [38,39,40,41,42] (.split 37 (opn 5 .done) (opn 5 .done)) .done))))))))))) (.cond (sD 1 lf) lf)) (.seq (sD 1 (.one (.loop [3] ([2,3] ++ rgN 43 14) (.seq (cD 5 lf lf) (.seq (.one (cD 7 (sD 1 lf) lf)) (oD 3)))))) (.seq (sD 1 (.one (.loop [4] ([2,4,5] ++ rgN 57 35) (.seq (cD 5 lf lf) (.seq (.one (.seq (cD 7 (sD 1 lf) lf) (sD 1 (.one (.loop [5] ([2,5] ++ rgN 71 21) (.seq (cD 8 lf lf) (.seq (.one (cD 11 (sD 1 lf) lf)) (oD 3)))))))) (oD 3)))))) (.seq (sD 1 (.one (.loop [6] ([2,6,7] ++ rgN 92 35) (.seq (cD 5 lf lf) (.seq (.one (.seq (cD 7 (sD 1 lf) lf) (sD 1 (.one (.loop [7] ([2,7] ++ rgN 106 21) (.seq (cD 8 lf lf) (.seq (.one (cD 11 (sD 1 lf) lf)) (oD 3)))))))) (oD 3)))))) (.seq (sD 1 (.one (.loop [8] ([2,8] ++ rgN 127 15) (.seq (cD 5 lf lf) (.seq (.one (cD 8 (sD 1 lf) lf)) (oD 3)))))) (sD 1 lf)))))))
def vc14 (R:Value->World->Prop) (w:World) (v:Value):Prop:=
 V (bx 28 v) w fun a w=>
 V (fa 28 a 0) w fun x w=>
 V (ld 22 x) w fun y w=>
 V (ln 22 y) w fun z w=>
 CV (.func (.func 34) #[] #[]) #[z,(.int .i64 60),(.int .i64 3000)] w fun a0 w=>
 ∀ K0:LP,(∀ j,∀ w,(∀ g:Env,
 ∀ K0:LP,(∀ k,∀ w,(∀ g:Env,
 ∀ K0:LP,(∀ l,∀ w,(∀ g:Env,
 ∀ K0:LP,(∀ n,∀ w,(∀ g:Env,
 ∀ K0:LP,(∀ o,∀ w,(∀ g:Env,
 CondW o
 (R (.bool false) w)
 (Lp1 (.int .i64 0) w fun I0 M0 d w m0=>
 V (fa 28 a 0) w fun b0 w=>
 V (ld 22 b0) w fun c0 w=>
 V (ln 22 c0) w fun d0 w=>
 V (bi .lss 3 d d0) w fun f0 w=>
 CondW f0
 (V (fa 28 a 0) w fun h0 w=>
 V (ld 22 h0) w fun i0 w=>
 V (ia 22 i0 d) w fun j0 w=>
 V (ld 9 j0) w fun k0 w=>
 V (ln 9 k0) w fun l0 w=>
 V (bi .gtr 3 l0 (.int .i64 1100)) w fun n0 w=>
 CondW n0
 (R (.bool false) w)
 (V (bi .add 3 d (.int .i64 1)) w fun p w=>
 I0 [p] w/\M0 [p] w < m0))
 (Lp1 (.int .i64 0) w fun I1 M1 b w m1=>
 V (fa 28 a 1) w fun o0 w=>
 V (ld 23 o0) w fun p0 w=>
 V (ln 23 p0) w fun q0 w=>
 V (bi .lss 3 b q0) w fun r0 w=>
 CondW r0
 (V (fa 28 a 1) w fun s0 w=>
 V (ld 23 s0) w fun u0 w=>
 V (ia 23 u0 b) w fun v0 w=>
 V (ld 93 v0) w fun x0 w=>
 V (ln 93 x0) w fun y0 w=>
 CV (.func (.func 34) #[] #[]) #[y0,(.int .i64 60),(.int .i64 100)] w fun z0 w=>
 CondW z0
 (R (.bool false) w)
 (Lp1 (.int .i64 0) w fun I2 M2 f w m2=>
 V (fa 28 a 1) w fun a1 w=>
 V (ld 23 a1) w fun b1 w=>
 V (ia 23 b1 b) w fun c1 w=>
 V (ld 93 c1) w fun d1 w=>
 V (ln 93 d1) w fun f1 w=>
 V (bi .lss 3 f f1) w fun h1 w=>
 CondW h1
 (V (fa 28 a 1) w fun i1 w=>
 V (ld 23 i1) w fun j1 w=>
 V (ia 23 j1 b) w fun k1 w=>
 V (ld 93 k1) w fun l1 w=>
 V (ia 93 l1 f) w fun n1 w=>
 V (fa 95 n1 1) w fun o1 w=>
 V (ld 9 o1) w fun p1 w=>
 V (ln 9 p1) w fun q1 w=>
 V (bi .gtr 3 q1 (.int .i64 1100)) w fun r1 w=>
 CondW r1
 (R (.bool false) w)
 (V (bi .add 3 f (.int .i64 1)) w fun q w=>
 I2 [q] w/\M2 [q] w < m2))
 (V (bi .add 3 b (.int .i64 1)) w fun r w=>
 I1 [r] w/\M1 [r] w < m1)))
 (Lp1 (.int .i64 0) w fun I2 M2 c w m2=>
 V (fa 28 a 2) w fun s1 w=>
 V (ld 24 s1) w fun u1 w=>
 V (ln 24 u1) w fun v1 w=>
 V (bi .lss 3 c v1) w fun x1 w=>
 CondW x1
 (V (fa 28 a 2) w fun y1 w=>
 V (ld 24 y1) w fun z1 w=>
 V (ia 24 z1 c) w fun a2 w=>
 V (ld 96 a2) w fun b2 w=>
 V (ln 96 b2) w fun c2 w=>
 CV (.func (.func 34) #[] #[]) #[c2,(.int .i64 60),(.int .i64 10000)] w fun d2 w=>
 CondW d2
 (R (.bool false) w)
 (Lp1 (.int .i64 0) w fun I3 M3 h w m3=>
 V (fa 28 a 2) w fun f2 w=>
 V (ld 24 f2) w fun h2 w=>
 V (ia 24 h2 c) w fun i2 w=>
 V (ld 96 i2) w fun j2 w=>
 V (ln 96 j2) w fun k2 w=>
 V (bi .lss 3 h k2) w fun l2 w=>
 CondW l2
 (V (fa 28 a 2) w fun n2 w=>
 V (ld 24 n2) w fun o2 w=>
 V (ia 24 o2 c) w fun p2 w=>
 V (ld 96 p2) w fun q2 w=>
 V (ia 96 q2 h) w fun r2 w=>
 V (fa 98 r2 0) w fun s2 w=>
 V (ld 9 s2) w fun t2 w=>
 V (ln 9 t2) w fun u2 w=>
 V (bi .gtr 3 u2 (.int .i64 1100)) w fun v2 w=>
 CondW v2
 (R (.bool false) w)
 (V (bi .add 3 h (.int .i64 1)) w fun s w=>
 I3 [s] w/\M3 [s] w < m3))
 (V (bi .add 3 c (.int .i64 1)) w fun t w=>
 I2 [t] w/\M2 [t] w < m2)))
 (Lp1 (.int .i64 0) w fun I3 M3 i w m3=>
 V (fa 28 a 3) w fun x2 w=>
 V (ld 25 x2) w fun y2 w=>
 V (ln 25 y2) w fun z2 w=>
 V (bi .lss 3 i z2) w fun a3 w=>
 CondW a3
 (V (fa 28 a 3) w fun b3 w=>
 V (ld 25 b3) w fun c3 w=>
 V (ia 25 c3 i) w fun d3 w=>
 V (fa 54 d3 0) w fun f3 w=>
 V (ld 9 f3) w fun h3 w=>
 V (ln 9 h3) w fun i3 w=>
 V (bi .gtr 3 i3 (.int .i64 1100)) w fun j3 w=>
 CondW j3
 (R (.bool false) w)
 (V (bi .add 3 i (.int .i64 1)) w fun u w=>
 I3 [u] w/\M3 [u] w < m3))
 (R (.bool true) w))))))->K0 [o] w) ->
 CondW n
 (K0 [(.bool true)] w)
 (V (fa 28 a 5) w fun k3 w=>
 V (ld 26 k3) w fun l3 w=>
 V (ln 26 l3) w fun n3 w=>
 CV (.func (.func 34) #[] #[]) #[n3,(.int .i64 300),(.int .i64 12000)] w fun o3 w=>
 K0 [o3] w))->K0 [n] w) ->
 CondW l
 (K0 [(.bool true)] w)
 (V (fa 28 a 4) w fun p3 w=>
 V (ld 22 p3) w fun q3 w=>
 V (ln 22 q3) w fun r3 w=>
 CV (.func (.func 34) #[] #[]) #[r3,(.int .i64 60),(.int .i64 100)] w fun s3 w=>
 K0 [s3] w))->K0 [l] w) ->
 CondW k
 (K0 [(.bool true)] w)
 (V (fa 28 a 3) w fun u3 w=>
 V (ld 25 u3) w fun v3 w=>
 V (ln 25 v3) w fun x3 w=>
 CV (.func (.func 34) #[] #[]) #[x3,(.int .i64 60),(.int .i64 3000)] w fun y3 w=>
 K0 [y3] w))->K0 [k] w) ->
 CondW j
 (K0 [(.bool true)] w)
 (V (fa 28 a 2) w fun z3 w=>
 V (ld 24 z3) w fun a4 w=>
 V (ln 24 a4) w fun b4 w=>
 CV (.func (.func 34) #[] #[]) #[b4,(.int .i64 60),(.int .i64 3000)] w fun c4 w=>
 K0 [c4] w))->K0 [j] w) ->
 CondW a0
 (K0 [(.bool true)] w)
 (V (fa 28 a 1) w fun d4 w=>
 V (ld 23 d4) w fun f4 w=>
 V (ln 23 f4) w fun h4 w=>
 CV (.func (.func 34) #[] #[]) #[h4,(.int .i64 60),(.int .i64 3000)] w fun i4 w=>
 K0 [i4] w)
theorem en14 (h:vc14 R w t0):Calls Tryz.prog 14 #[t0] w (retK R):=enE ⟨by kernel_rfl,by kernel_rfl⟩ (by kernel_rfl:enterW Tryz.prog Tryz.f14 an14 [t0] w R = _) h
def an15:Ann:=(sD 3 (.seq (cD 3 (sD 2 lf) lf) (.seq (cD 3 (sD 2 lf) lf) (.seq (sD 4 (.one (.loop [21] ([2,3,4,5] ++ rgN 21 11) (sD 1 (.seq (.cond lf lf) (.seq (.one (sD 6 (cD 4 (sD 3 lf) lf))) (oD 2))))))) (sD 5 (.seq (sD 12 (cD 3 (sD 3 lf) lf)) (.seq (sD 9 (cD 2 (sD 2 lf) lf)) (sD 2 lf))))))))
def vc15 (R:Value->World->Prop) (w:World) (l:Value):Prop:=
 V (bx 28 l) w fun a w=>
 V (ld 28 a) w fun n w=>
 CV (.func (.func 46) #[] #[]) #[n] w fun o w=>
 V (un .not o) w fun p w=>
 CondW p
 (R (.tuple #[(.int .i64 3),(.int .i64 0)]) w)
 (V (ld 28 a) w fun q w=>
 CV (.func (.func 47) #[] #[]) #[q] w fun r w=>
 V (un .not r) w fun s w=>
 CondW s
 (R (.tuple #[(.int .i64 1),(.int .i64 0)]) w)
 (V (fa 28 a 5) w fun t w=>
 V (ld 26 t) w fun d w=>
 V (ln 26 d) w fun u w=>
 Lp1 (.int .i64 0) w fun I0 M0 b w m0=>
 V (bi .lss 3 b u) w fun v w=>
 CondW v
 (V (ia 26 d b) w fun x w=>
 V (ld 38 x) w fun y w=>
 V (al 38) w fun f w=>
 U (st 38 f y) w fun w=>
 V (ld 28 a) w fun z w=>
 V (ld 38 f) w fun a0 w=>
 CV (.func (.func 48) #[] #[]) #[z,a0] w fun b0 w=>
 V (un .not b0) w fun c0 w=>
 CondW c0
 (R (.tuple #[(.int .i64 1),b]) w)
 (V (bi .add 3 b (.int .i64 1)) w fun h w=>
 I0 [h] w/\M0 [h] w < m0))
 (V (fa 28 a 5) w fun d0 w=>
 V (ld 26 d0) w fun f0 w=>
 V (ln 26 f0) w fun h0 w=>
 V (bi .sub 3 h0 (.int .i64 1)) w fun i w=>
 V (fa 28 a 5) w fun i0 w=>
 V (ld 26 i0) w fun j0 w=>
 V (ia 26 j0 i) w fun k0 w=>
 V (ld 38 k0) w fun l0 w=>
 CV (.func (.func 49) #[] #[]) #[l0] w fun j w=>
 V (ex j 0) w fun n0 w=>
 V (ex j 1) w fun v0 w=>
 V (al 102) w fun k w=>
 U (st 102 k n0) w fun w=>
 V (fa 102 k 5) w fun o0 w=>
 V (ld 4 o0) w fun p0 w=>
 V (un .not p0) w fun q0 w=>
 CondW q0
 (R (.tuple #[(.int .i64 2),i]) w)
 (V (ld 28 a) w fun r0 w=>
 CV (.func (.func 50) #[] #[]) #[r0] w fun c w=>
 V (ex c 0) w fun x0 w=>
 V (ex c 1) w fun y0 w=>
 V (ex c 2) w fun s0 w=>
 V (un .not s0) w fun u0 w=>
 CondW u0
 (R (.tuple #[(.int .i64 12),(.int .i64 0)]) w)
 (R (.tuple #[(.int .i64 0),(.int .i64 0)]) w)))))
theorem en15 (h:vc15 R w t0):Calls Tryz.prog 15 #[t0] w (retK R):=enE ⟨by kernel_rfl,by kernel_rfl⟩ (by kernel_rfl:enterW Tryz.prog Tryz.f15 an15 [t0] w R = _) h
def an16:Ann:=(sD 2 (.seq (cD 3 (sD 2 lf) lf) (.seq (.seq (.reg (opn 5 (.join [17] [14,15,16,17] (.split 13 (opn 4 .done) (opn 4 .done)) .done))) (.cond (sD 2 lf) lf)) (.seq (sD 1 (.one (.loop [3] ([3] ++ rgN 19 17) (.seq (cD 5 lf lf) (.seq (.one (.seq (.draw (.hold 0 (.take 1 (.hold 2 (.take 3 (.take 4 (.hold 5 (e1 6 (.take 7 .done))))))))) (.cond (sD 3 lf) lf))) (oD 3)))))) (sD 5 (.seq (.seq (.draw (.take 1 (.hold 2 (tkN 3 3 (.hold 6 (e1 0 (.take 7 (.take 8 (.hold 9 (.take 10 .done)))))))))) (.cond (sD 3 lf) lf)) (sD 5 lf)))))))
def vc16 (R:Value->World->Prop) (w:World) (q:Value):Prop:=
 V (bx 28 q) w fun b w=>
 V (al 35) w fun a w=>
 V (ld 28 b) w fun r w=>
 CV (.func (.func 51) #[] #[]) #[r] w fun s w=>
 V (un .not s) w fun t w=>
 CondW t
 (V (bd 35 #[(0,(.int .i64 3))]) w fun u w=>
 U (st 35 a u) w fun w=>
 CW 35 a w fun c=>R c w)
 (V (fa 28 b 5) w fun v w=>
 V (ld 26 v) w fun x w=>
 V (ln 26 x) w fun y w=>
 V (ec .eql 3 11 y (.int .i64 0)) w fun z w=>
 ∀ K0:LP,(∀ f,∀ w,(∀ g:Env,
 CondW f
 (V (bd 35 #[(0,(.int .i64 1))]) w fun a0 w=>
 U (st 35 a a0) w fun w=>
 CW 35 a w fun c=>R c w)
 (Lp1 (.int .i64 0) w fun I0 M0 d w m0=>
 V (fa 28 b 5) w fun b0 w=>
 V (ld 26 b0) w fun c0 w=>
 V (ln 26 c0) w fun d0 w=>
 V (bi .lss 3 d d0) w fun f0 w=>
 CondW f0
 (Dr w fun w=>
 HV (ld 28 b) w fun h0=>
 PV (fa 28 b 5) fun h=>
 HV (ld 26 h) w fun i=>
 PV (ia 26 i d) fun i0=>
 HV (ld 38 i0) w fun j0=>
 CV (.func (.func 53) #[] #[]) #[h0,j0] w fun k0 w=>
 RunIs (ld 26 h) w i/\(PV (un .not k0) fun l0=>
 CondW l0
 (V (bd 35 #[(0,(.int .i64 1)),(1,d)]) w fun n0 w=>
 U (st 35 a n0) w fun w=>
 CW 35 a w fun c=>R c w)
 (V (bi .add 3 d (.int .i64 1)) w fun j w=>
 I0 [j] w/\M0 [j] w < m0)))
 (V (fa 28 b 5) w fun o0 w=>
 V (ld 26 o0) w fun p0 w=>
 V (ln 26 p0) w fun q0 w=>
 V (bi .sub 3 q0 (.int .i64 1)) w fun k w=>
 Dr w fun w=>
 PV (fa 28 b 5) fun l=>
 HV (ld 26 l) w fun n=>
 PV (ia 26 n k) fun r0=>
 PV (fa 38 r0 0) fun o=>
 HV (ld 3 o) w fun p=>
 CV (.func (.func 54) #[] #[]) #[] w fun s0 w=>
 RunIs (ld 3 o) w p/\RunIs (ld 26 l) w n/\(PV (ia 109 s0 p) fun u0=>
 PV (fa 108 u0 5) fun v0=>
 HV (ld 4 v0) w fun x0=>
 PV (un .not x0) fun y0=>
 CondW y0
 (V (bd 35 #[(0,(.int .i64 2)),(1,k)]) w fun z0 w=>
 U (st 35 a z0) w fun w=>
 CW 35 a w fun c=>R c w)
 (V (ld 28 b) w fun a1 w=>
 CV (.func (.func 55) #[] #[]) #[a1] w fun b1 w=>
 V (fl 60 b1 2) w fun c1 w=>
 V (bd 35 #[(0,c1)]) w fun d1 w=>
 U (st 35 a d1) w fun w=>
 CW 35 a w fun c=>R c w)))))->K0 [f] w) ->
 CondW z
 (K0 [(.bool true)] w)
 (V (ld 28 b) w fun f1 w=>
 CV (.func (.func 52) #[] #[]) #[f1] w fun h1 w=>
 V (un .not h1) w fun i1 w=>
 K0 [i1] w))
theorem en16 (h:vc16 R w t0):Calls Tryz.prog 16 #[t0] w (retK R):=enE ⟨by kernel_rfl,by kernel_rfl⟩ (by kernel_rfl:enterW Tryz.prog Tryz.f16 an16 [t0] w R = _) h
def an17:Ann:=(sD 4 (sD 8 (.seq (cD 2 (sD 3 lf) lf) (.seqJ [6] ([6] ++ rgN 14 65) (sD 2 (.one (.seqJ [16] [16,17,18] (cD 2 lf (oD 2)) (.cond (.draw (.take 0 (.hold 1 (.take 3 (.hold 4 (e1 2 (.take 5 (.take 6 (e1 7 .done))))))))) (cD 2 (.draw (.take 0 (.hold 1 (.take 3 (.hold 4 (.take 5 (e1 2 (.take 6 (.take 7 (e1 8 .done)))))))))) (cD 2 (.draw (.take 0 (.hold 1 (.take 4 (.hold 5 (e1 2 (.take 3 (e1 6 (tkN 7 3 (e1 10 .done)))))))))) (cD 2 (.seq (.reg (opn 4 (.join [54] [51,52,53,54] (.split 50 (opn 4 .done) (opn 4 .done)) (opn 1 .done)))) (cD 3 (oD 4) lf)) (cD 2 (sD 4 (cD 3 (oD 2) lf)) (.seqJ [70] [70,71,72] (cD 2 lf (oD 2)) (.cond (.draw (.take 0 (.hold 1 (.take 3 (.hold 4 (e1 2 (.take 5 (.take 6 (e1 7 .done))))))))) lf)))))))))) (.seq (cD 2 (sD 3 lf) lf) (.seq (.draw (.take 0 (.hold 1 (.take 2 (.hold 3 (tkN 4 3 .done)))))) lf))))))
def vc17 (R:Value->World->Prop) (w:World) (y:Value):Prop:=
 V (bx 38 y) w fun a w=>
 V (ld 38 a) w fun z w=>
 CV (.func (.func 49) #[] #[]) #[z] w fun f w=>
 V (ex f 0) w fun a0 w=>
 V (ex f 1) w fun h w=>
 V (al 102) w fun b w=>
 U (st 102 b a0) w fun w=>
 V (un .not h) w fun b0 w=>
 CondW b0
 (R (.tuple #[(.int .i64 0),(.int .i64 0),(.int .i64 1)]) w)
 (∀ K0:LP,(∀ i,∀ w,(∀ g:Env,
 V (un .not i) w fun c0 w=>
 CondW c0
 (R (.tuple #[(.int .i64 0),(.int .i64 0),(.int .i64 1)]) w)
 (Dr w fun w=>
 PV (fa 102 b 2) fun d0=>
 HV (ld 3 d0) w fun f0=>
 PV (fa 102 b 3) fun h0=>
 HV (ld 3 h0) w fun i0=>
 R (.tuple #[f0,i0,(.int .i64 0)]) w))->K0 [i] w) ->
 V (fa 38 a 0) w fun j0 w=>
 V (ld 3 j0) w fun c w=>
 ∀ K1:LP,(∀ j,∀ w,(∀ g:Env,
 CondW j
 (Dr w fun w=>
 PV (fa 38 a 2) fun k0=>
 HV (ld 3 k0) w fun l0=>
 PV (fa 38 a 2) fun k=>
 HV (ld 3 k) w fun l=>
 CV (.func (.func 56) #[] #[]) #[(.int .i64 16),l0] w fun n0 w=>
 RunIs (ld 3 k) w l/\(PV (fa 102 b 2) fun o0=>
 U (st 3 o0 l) w fun w=>
 K0 [n0] w))
 (V (ec .eql 3 15 c (.int .i64 19)) w fun p0 w=>
 CondW p0
 (Dr w fun w=>
 PV (fa 38 a 1) fun q0=>
 HV (ld 3 q0) w fun r0=>
 PV (fa 38 a 1) fun n=>
 HV (ld 3 n) w fun o=>
 PV (bi .quo 3 o (.int .i64 2)) fun s0=>
 CV (.func (.func 56) #[] #[]) #[(.int .i64 15),r0] w fun u0 w=>
 RunIs (ld 3 n) w o/\(PV (fa 102 b 2) fun v0=>
 U (st 3 v0 s0) w fun w=>
 K0 [u0] w))
 (V (ec .eql 3 15 c (.int .i64 27)) w fun x0 w=>
 CondW x0
 (Dr w fun w=>
 PV (fa 38 a 2) fun y0=>
 HV (ld 3 y0) w fun z0=>
 PV (fa 38 a 2) fun p=>
 HV (ld 3 p) w fun q=>
 CV (.func (.func 57) #[] #[]) #[z0] w fun a1 w=>
 RunIs (ld 3 p) w q/\(PV (bi .geq 3 a1 (.int .i64 0)) fun b1=>
 CV (.func (.func 57) #[] #[]) #[q] w fun c1 w=>
 PV (bi .add 3 (.int .i64 1) c1) fun d1=>
 PV (fa 102 b 2) fun f1=>
 U (st 3 f1 d1) w fun w=>
 K0 [b1] w))
 (V (ec .eql 3 15 c (.int .i64 35)) w fun h1 w=>
 CondW h1
 (V (fa 38 a 1) w fun i1 w=>
 V (ld 3 i1) w fun j1 w=>
 CV (.func (.func 56) #[] #[]) #[(.int .i64 15),j1] w fun k1 w=>
 ∀ K1:LP,(∀ d,∀ w,(∀ g:Env,
 V (fa 38 a 1) w fun l1 w=>
 V (ld 3 l1) w fun n1 w=>
 V (bi .lss 3 n1 (.int .i64 2)) w fun o1 w=>
 CondW o1
 (V (fa 38 a 2) w fun p1 w=>
 V (ld 3 p1) w fun q1 w=>
 V (fa 102 b 2) w fun r1 w=>
 U (st 3 r1 q1) w fun w=>
 K0 [d] w)
 (K0 [d] w))->K1 [d] w) ->
 CondW k1
 (V (fa 38 a 2) w fun s1 w=>
 V (ld 3 s1) w fun u1 w=>
 CV (.func (.func 56) #[] #[]) #[(.int .i64 14),u1] w fun v1 w=>
 K1 [v1] w)
 (K1 [(.bool false)] w))
 (V (ec .eql 3 15 c (.int .i64 36)) w fun x1 w=>
 CondW x1
 (V (fa 38 a 2) w fun y1 w=>
 V (ld 3 y1) w fun z1 w=>
 CV (.func (.func 56) #[] #[]) #[(.int .i64 19),z1] w fun r w=>
 V (fa 38 a 2) w fun a2 w=>
 V (ld 3 a2) w fun b2 w=>
 V (ec .eql 3 67 b2 (.int .i64 6)) w fun c2 w=>
 CondW c2
 (V (fa 102 b 2) w fun d2 w=>
 U (st 3 d2 (.int .i64 1)) w fun w=>
 K0 [r] w)
 (K0 [r] w))
 (∀ K1:LP,(∀ s,∀ w,(∀ g:Env,
 CondW s
 (Dr w fun w=>
 PV (fa 38 a 1) fun f2=>
 HV (ld 3 f2) w fun h2=>
 PV (fa 38 a 1) fun t=>
 HV (ld 3 t) w fun u=>
 CV (.func (.func 56) #[] #[]) #[(.int .i64 14),h2] w fun i2 w=>
 RunIs (ld 3 t) w u/\(PV (fa 102 b 2) fun j2=>
 U (st 3 j2 u) w fun w=>
 K0 [i2] w))
 (K0 [h] w))->K1 [s] w) ->
 V (ec .eql 3 15 c (.int .i64 40)) w fun v w=>
 CondW v
 (K1 [v] w)
 (V (ec .eql 3 15 c (.int .i64 41)) w fun k2 w=>
 K1 [k2] w)))))))->K1 [j] w) ->
 V (ec .eql 3 15 c (.int .i64 12)) w fun x w=>
 CondW x
 (K1 [x] w)
 (V (ec .eql 3 15 c (.int .i64 21)) w fun l2 w=>
 K1 [l2] w))
theorem en17 (h:vc17 R w t0):Calls Tryz.prog 17 #[t0] w (retK R):=enE ⟨by kernel_rfl,by kernel_rfl⟩ (by kernel_rfl:enterW Tryz.prog Tryz.f17 an17 [t0] w R = _) h
def an18:Ann:=(sD 2 (sD 8 (.seq (cD 2 (sD 2 lf) lf) (sD 7 (sD 1 (.seqJ [6] ([6] ++ rgN 20 71) (sD 2 (.one (.seqJ [22] [22,23,24] (cD 2 lf (oD 2)) (.cond (sD 5 (oD 4)) (cD 2 (sD 5 (cD 3 (oD 2) lf)) (cD 2 (sD 5 (oD 6)) (cD 2 (.seq (.reg (opn 5 (.join [64] [60,61,62,63,64] (.split 59 (opn 5 .done) (opn 5 .done)) (opn 1 .done)))) (cD 3 (oD 4) lf)) (cD 2 (sD 5 (cD 3 (oD 2) lf)) (.seqJ [81] [81,82,83] (cD 2 lf (oD 2)) (.cond (sD 5 (oD 4)) lf)))))))))) (.seq (cD 1 (sD 2 lf) lf) (sD 2 lf))))))))
def vc18 (R:Value->World->Prop) (w:World) (s:Value):Prop:=
 V (bx 38 s) w fun a w=>
 V (al 42) w fun d w=>
 V (ld 38 a) w fun t w=>
 CV (.func (.func 58) #[] #[]) #[t] w fun j w=>
 V (ex j 0) w fun u w=>
 V (ex j 1) w fun v w=>
 V (al 108) w fun h w=>
 U (st 108 h u) w fun w=>
 V (un .not v) w fun x w=>
 CondW x
 (V (bd 42 #[(2,(.int .i64 1))]) w fun y w=>
 U (st 42 d y) w fun w=>
 CW 42 d w fun f=>R f w)
 (V (fa 108 h 3) w fun z w=>
 V (ld 3 z) w fun a0 w=>
 V (fa 108 h 4) w fun b0 w=>
 V (ld 3 b0) w fun c0 w=>
 V (bd 42 #[(0,a0),(1,c0)]) w fun d0 w=>
 V (al 42) w fun b w=>
 U (st 42 b d0) w fun w=>
 ∀ K0:LP,(∀ k,∀ w,(∀ g:Env,
 CondW k
 (V (bd 42 #[(2,(.int .i64 1))]) w fun f0 w=>
 U (st 42 d f0) w fun w=>
 CW 42 d w fun f=>R f w)
 (V (ld 42 b) w fun h0 w=>
 U (st 42 d h0) w fun w=>
 CW 42 d w fun f=>R f w))->K0 [k] w) ->
 V (fa 38 a 0) w fun i0 w=>
 V (ld 3 i0) w fun c w=>
 ∀ K1:LP,(∀ l,∀ w,(∀ g:Env,
 CondW l
 (V (fa 38 a 2) w fun j0 w=>
 V (ld 3 j0) w fun k0 w=>
 CV (.func (.func 59) #[] #[]) #[k0,(.int .i64 0),(.int .i64 10)] w fun l0 w=>
 V (un .not l0) w fun n0 w=>
 V (fa 38 a 2) w fun o0 w=>
 V (ld 3 o0) w fun p0 w=>
 V (fa 42 b 0) w fun q0 w=>
 U (st 3 q0 p0) w fun w=>
 K0 [n0] w)
 (V (ec .eql 3 21 c (.int .i64 19)) w fun r0 w=>
 CondW r0
 (V (fa 38 a 1) w fun s0 w=>
 V (ld 3 s0) w fun u0 w=>
 CV (.func (.func 59) #[] #[]) #[u0,(.int .i64 0),(.int .i64 2)] w fun v0 w=>
 V (un .not v0) w fun n w=>
 V (fa 38 a 1) w fun x0 w=>
 V (ld 3 x0) w fun y0 w=>
 V (ec .eql 3 39 y0 (.int .i64 2)) w fun z0 w=>
 CondW z0
 (V (fa 42 b 0) w fun a1 w=>
 U (st 3 a1 (.int .i64 1)) w fun w=>
 K0 [n] w)
 (K0 [n] w))
 (V (ec .eql 3 21 c (.int .i64 27)) w fun b1 w=>
 CondW b1
 (V (fa 38 a 2) w fun c1 w=>
 V (ld 3 c1) w fun d1 w=>
 CV (.func (.func 60) #[] #[]) #[d1] w fun f1 w=>
 V (bi .lss 3 f1 (.int .i64 0)) w fun h1 w=>
 V (fa 38 a 2) w fun i1 w=>
 V (ld 3 i1) w fun j1 w=>
 CV (.func (.func 60) #[] #[]) #[j1] w fun k1 w=>
 V (bi .add 3 (.int .i64 1) k1) w fun l1 w=>
 V (fa 42 b 0) w fun n1 w=>
 U (st 3 n1 l1) w fun w=>
 K0 [h1] w)
 (V (ec .eql 3 21 c (.int .i64 35)) w fun o1 w=>
 CondW o1
 (V (fa 38 a 1) w fun p1 w=>
 V (ld 3 p1) w fun q1 w=>
 CV (.func (.func 59) #[] #[]) #[q1,(.int .i64 0),(.int .i64 2)] w fun r1 w=>
 V (un .not r1) w fun s1 w=>
 ∀ K1:LP,(∀ i,∀ w,(∀ g:Env,
 V (fa 38 a 1) w fun u1 w=>
 V (ld 3 u1) w fun v1 w=>
 V (bi .lss 3 v1 (.int .i64 2)) w fun x1 w=>
 CondW x1
 (V (fa 38 a 2) w fun y1 w=>
 V (ld 3 y1) w fun z1 w=>
 V (fa 42 b 0) w fun a2 w=>
 U (st 3 a2 z1) w fun w=>
 K0 [i] w)
 (K0 [i] w))->K1 [i] w) ->
 CondW s1
 (K1 [(.bool true)] w)
 (V (fa 38 a 2) w fun b2 w=>
 V (ld 3 b2) w fun c2 w=>
 CV (.func (.func 59) #[] #[]) #[c2,(.int .i64 0),(.int .i64 1)] w fun d2 w=>
 V (un .not d2) w fun f2 w=>
 K1 [f2] w))
 (V (ec .eql 3 21 c (.int .i64 36)) w fun h2 w=>
 CondW h2
 (V (fa 38 a 2) w fun i2 w=>
 V (ld 3 i2) w fun j2 w=>
 CV (.func (.func 59) #[] #[]) #[j2,(.int .i64 1),(.int .i64 6)] w fun k2 w=>
 V (un .not k2) w fun o w=>
 V (fa 38 a 2) w fun l2 w=>
 V (ld 3 l2) w fun n2 w=>
 V (ec .eql 3 78 n2 (.int .i64 6)) w fun o2 w=>
 CondW o2
 (V (fa 42 b 0) w fun p2 w=>
 U (st 3 p2 (.int .i64 1)) w fun w=>
 K0 [o] w)
 (K0 [o] w))
 (∀ K1:LP,(∀ p,∀ w,(∀ g:Env,
 CondW p
 (V (fa 38 a 1) w fun q2 w=>
 V (ld 3 q2) w fun r2 w=>
 CV (.func (.func 59) #[] #[]) #[r2,(.int .i64 0),(.int .i64 1)] w fun s2 w=>
 V (un .not s2) w fun u2 w=>
 V (fa 38 a 1) w fun v2 w=>
 V (ld 3 v2) w fun x2 w=>
 V (fa 42 b 0) w fun y2 w=>
 U (st 3 y2 x2) w fun w=>
 K0 [u2] w)
 (K0 [(.bool false)] w))->K1 [p] w) ->
 V (ec .eql 3 21 c (.int .i64 40)) w fun q w=>
 CondW q
 (K1 [q] w)
 (V (ec .eql 3 21 c (.int .i64 41)) w fun z2 w=>
 K1 [z2] w)))))))->K1 [l] w) ->
 V (ec .eql 3 21 c (.int .i64 12)) w fun r w=>
 CondW r
 (K1 [r] w)
 (V (ec .eql 3 21 c (.int .i64 21)) w fun a3 w=>
 K1 [a3] w))
theorem en18 (h:vc18 R w t0):Calls Tryz.prog 18 #[t0] w (retK R):=enE ⟨by kernel_rfl,by kernel_rfl⟩ (by kernel_rfl:enterW Tryz.prog Tryz.f18 an18 [t0] w R = _) h
def an20:Ann:=(sD 4 (.seq (sD 7 (cD 2 (sD 5 lf) lf)) (sD 3 (sD 6 (sD 1 (sD 6 (.seq (sD 4 (.one (.loop [205,50] ([11,12] ++ rgN 50 20 ++ rgN 81 7 ++ [205]) (sD 1 (.seq (.cond lf lf) (.seqJ [205] ([11,12] ++ rgN 52 18 ++ rgN 81 6 ++ [205]) (.one (sD 6 (sD 4 (.seq (cD 5 lf lf) (sD 7 (.seq (sD 1 (.one (.rf [] (sD 1 (oD 1)) (.one (sD 4 (cD 2 (oD 5) lf)))))) (oD 7))))))) (oD 2))))))) (sD 3 (sD 11 (sD 11 (sD 11 (sD 3 (.seq (sD 4 (.one (.loop [205,119] ([20,21] ++ rgN 119 9 ++ rgN 138 6 ++ [205]) (sD 1 (.seq (.cond lf lf) (.seq (.one (sD 2 (sD 7 (.seq (sD 1 (.one (.rf [] (sD 1 (oD 1)) (.one (.draw (.take 0 (.hold 1 (tkN 2 3 (.hold 5 (e1 6 (.take 7 (e1 8 .done)))))))))))) (oD 6))))) (oD 2))))))) (.seq (sD 4 (.one (.loop [147] ([24] ++ rgN 147 14) (sD 1 (.seq (.cond lf lf) (.seq (.one (sD 2 (.draw (.take 0 (.hold 1 (.take 2 (.take 3 (.hold 4 (.take 5 (.take 6 (.hold 7 (e1 8 (.take 9 (e1 10 .done)))))))))))))) (oD 2))))))) (.seq (sD 4 (.one (.loop [164] ([25] ++ rgN 164 14) (sD 1 (.seq (.cond lf lf) (.seq (.one (sD 2 (.draw (.take 0 (.hold 1 (.take 2 (.take 3 (.hold 4 (.take 5 (.take 6 (.hold 7 (e1 8 (.take 9 (e1 10 .done)))))))))))))) (oD 2))))))) (.seq (sD 4 (.one (.loop [181] ([27] ++ rgN 181 18) (sD 1 (.seq (.cond lf lf) (.seq (.one (sD 4 (.draw (.take 0 (.hold 1 (.take 2 (.hold 3 (.hold 4 (.take 5 (.hold 6 (.take 7 (.hold 8 (.take 9 (e1 10 (e1 11 (.take 12 (e1 13 .done))))))))))))))))) (oD 2))))))) (sD 5 (.seq (.draw (.hold 0 (.hold 1 (e1 2 (.take 3 (.take 4 .done)))))) lf))))))))))))))))))
def vc20 (R:Value->World->Prop) (w:World) (s1:Value):Prop:=
 V (bx 28 s1) w fun b w=>
 V (al 28) w fun h w=>
 V (ld 28 b) w fun u1 w=>
 CV (.func (.func 15) #[] #[]) #[u1] w fun c0 w=>
 V (ex c0 0) w fun d0 w=>
 V (ex c0 1) w fun s6 w=>
 V (ec .neq 31 33 d0 (.int .i64 0)) w fun v1 w=>
 CondW v1
 (V (bd 28 #[]) w fun x1 w=>
 U (st 28 h x1) w fun w=>
 CW 28 h w fun f=>R (.tuple #[f,(.slice none 0 0),d0]) w)
 (V (ld 28 b) w fun y1 w=>
 CV (.func (.func 22) #[] #[]) #[y1] w fun z1 w=>
 V (fa 28 b 5) w fun a2 w=>
 V (ld 26 a2) w fun b2 w=>
 V (ln 26 b2) w fun f0 w=>
 V (ms 45 f0 f0) w fun c2 w=>
 V (al 45) w fun c w=>
 U (st 45 c c2) w fun w=>
 V (al 28) w fun a w=>
 V (mm 115 none) w fun d2 w=>
 V (mm 115 none) w fun f2 w=>
 V (mm 115 none) w fun h2 w=>
 V (bd 117 #[(0,d2),(1,f2),(2,h2)]) w fun i2 w=>
 V (al 117) w fun i w=>
 U (st 117 i i2) w fun w=>
 V (fa 28 b 5) w fun j2 w=>
 V (ld 26 j2) w fun h0 w=>
 V (ln 26 h0) w fun k2 w=>
 Lp2 undef (.int .i64 0) w fun I0 M0 k j w m0=>
 V (bi .lss 3 j k2) w fun l2 w=>
 CondW l2
 (∀ K0:LP,(∀ d,∀ w,(∀ g:Env,
 V (bi .add 3 j (.int .i64 1)) w fun i0 w=>
 I0 [d,i0] w/\M0 [d,i0] w < m0)->K0 [d] w) ->
 V (ia 26 h0 j) w fun n2 w=>
 V (ld 38 n2) w fun o2 w=>
 V (al 38) w fun p w=>
 U (st 38 p o2) w fun w=>
 V (ld 45 c) w fun p2 w=>
 V (ia 45 p2 j) w fun q2 w=>
 U (st 3 q2 (.int .i64 (-1))) w fun w=>
 V (ia 49 z1 j) w fun r2 w=>
 V (ld 4 r2) w fun s2 w=>
 V (un .not s2) w fun u2 w=>
 CondW u2
 (K0 [k] w)
 (V (ld 45 c) w fun v2 w=>
 V (fa 28 a 5) w fun x2 w=>
 V (ld 26 x2) w fun y2 w=>
 V (ln 26 y2) w fun z2 w=>
 V (ia 45 v2 j) w fun a3 w=>
 U (st 3 a3 z2) w fun w=>
 CV (.func (.func 61) #[] #[]) #[p] w fun b3 w=>
 ∀ (lp0:Loop) (r0 l0:Nat) (w1:World),NewRF w w1 r0 l0 lp0 ->
 (∀ (w:World) (Kl0:Value->World->Prop),∀ j0,∀ k0,(BeginW l0 lp0 w fun w=>
 V (ld 117 i) w fun c3 w=>
 CV (.func (.func 62) #[] #[]) #[c3,j0] w fun n0 w=>
 V (ec .neq 115 75 n0 (.map none)) w fun d3 w=>
 CondW d3
 (NilW k0 fun f3=>V (ld 3 f3) w fun h3 w=>
 U (mu 115 n0 h3 (.bool true)) w fun w=>
 EndW l0 lp0 none w Kl0)
 (EndW l0 lp0 none w Kl0))->w.heap[l0]? = some (lobj lp0 .ready none)->CV (.func (.yield l0) #[] #[]) #[j0,k0] w Kl0) ->
 CE b3 #[.func (.yield l0) #[] #[]] w1 fun _ w=>RfEnd l0 lp0 w (fun w=>
 V (fa 28 a 5) w fun i3 w=>
 V (ld 26 i3) w fun j3 w=>
 V (ld 38 p) w fun k3 w=>
 V (bs 26 1 #[(0,k3)]) w fun l3 w=>
 V (Builtin.append_ #[26,26] 26 #[j3,l3]) w fun n3 w=>
 V (fa 28 a 5) w fun o3 w=>
 U (st 26 o3 n3) w fun w=>
 K0 [(.iface r0 k)] w) (fun w=>
 TakeW (marks (.iface r0 k)) w fun w=>
 CW 28 h w fun f=>R (.tuple #[f,(.slice none 0 0),(.int .i64 0)]) w) []))
 (V (al 124) w fun o0 w=>
 V (al 124) w fun p0 w=>
 V (al 124) w fun q0 w=>
 V (fa 28 b 0) w fun p3 w=>
 V (ld 22 p3) w fun q3 w=>
 V (fa 117 i 0) w fun r3 w=>
 V (ld 115 r3) w fun s3 w=>
 CV (.func (.func 63) #[] #[]) #[q3,s3] w fun s0 w=>
 V (ex s0 0) w fun t3 w=>
 V (ex s0 1) w fun u3 w=>
 V (fa 28 a 0) w fun v3 w=>
 U (st 22 v3 t3) w fun w=>
 U (st 124 o0 u3) w fun w=>
 V (fa 28 b 1) w fun x3 w=>
 V (ld 23 x3) w fun y3 w=>
 V (fa 117 i 1) w fun z3 w=>
 V (ld 115 z3) w fun a4 w=>
 CV (.func (.func 64) #[] #[]) #[y3,a4] w fun u0 w=>
 V (ex u0 0) w fun b4 w=>
 V (ex u0 1) w fun c4 w=>
 V (fa 28 a 1) w fun d4 w=>
 U (st 23 d4 b4) w fun w=>
 U (st 124 p0 c4) w fun w=>
 V (fa 28 b 2) w fun f4 w=>
 V (ld 24 f4) w fun h4 w=>
 V (fa 117 i 2) w fun i4 w=>
 V (ld 115 i4) w fun j4 w=>
 CV (.func (.func 65) #[] #[]) #[h4,j4] w fun v0 w=>
 V (ex v0 0) w fun k4 w=>
 V (ex v0 1) w fun l4 w=>
 V (fa 28 a 2) w fun n4 w=>
 U (st 24 n4 k4) w fun w=>
 U (st 124 q0 l4) w fun w=>
 V (al 131) w fun x0 w=>
 U (st 131 x0 (.func (.func 66) #[] #[c,p0,q0,i,o0])) w fun w=>
 V (fa 28 a 5) w fun o4 w=>
 V (ld 26 o4) w fun p4 w=>
 V (ln 26 p4) w fun q4 w=>
 Lp2 k (.int .i64 0) w fun I1 M1 d l w m1=>
 V (bi .lss 3 l q4) w fun r4 w=>
 CondW r4
 (V (fa 28 a 5) w fun s4 w=>
 V (ld 26 s4) w fun t4 w=>
 V (ia 26 t4 l) w fun u4 w=>
 V (ld 38 u4) w fun v4 w=>
 V (al 38) w fun q w=>
 U (st 38 q v4) w fun w=>
 CV (.func (.func 61) #[] #[]) #[q] w fun x4 w=>
 ∀ (lp0:Loop) (r0 l0:Nat) (w1:World),NewRF w w1 r0 l0 lp0 ->
 (∀ (w:World) (Kl0:Value->World->Prop),∀ y0,∀ r,(BeginW l0 lp0 w fun w=>
 Dr w fun w=>
 HV (ld 131 x0) w fun y4=>
 NilW r fun z4=>HV (ld 3 z4) w fun a5=>
 CV y4 #[y0,a5] w fun b5 w=>
 NilW r fun c5=>U (st 3 c5 b5) w fun w=>
 EndW l0 lp0 none w Kl0)->w.heap[l0]? = some (lobj lp0 .ready none)->CV (.func (.yield l0) #[] #[]) #[y0,r] w Kl0) ->
 CE x4 #[.func (.yield l0) #[] #[]] w1 fun _ w=>RfEnd l0 lp0 w (fun w=>
 V (fa 28 a 5) w fun d5 w=>
 V (ld 26 d5) w fun f5 w=>
 V (ld 38 q) w fun h5 w=>
 V (ia 26 f5 l) w fun i5 w=>
 U (st 38 i5 h5) w fun w=>
 V (bi .add 3 l (.int .i64 1)) w fun z0 w=>
 I1 [(.iface r0 d),z0] w/\M1 [(.iface r0 d),z0] w < m1) (fun w=>
 TakeW (marks (.iface r0 d)) w fun w=>
 CW 28 h w fun f=>R (.tuple #[f,(.slice none 0 0),(.int .i64 0)]) w) [])
 (V (fa 28 a 1) w fun j5 w=>
 V (ld 23 j5) w fun k5 w=>
 V (ln 23 k5) w fun l5 w=>
 Lp1 (.int .i64 0) w fun I2 M2 n w m2=>
 V (bi .lss 3 n l5) w fun n5 w=>
 CondW n5
 (Dr w fun w=>
 PV (fa 28 a 1) fun a1=>
 HV (ld 23 a1) w fun b1=>
 PV (fa 28 a 1) fun c1=>
 HV (ld 23 c1) w fun d1=>
 PV (ia 23 d1 n) fun o5=>
 HV (ld 93 o5) w fun p5=>
 CV (.func (.func 67) #[] #[]) #[p5] w fun q5 w=>
 RunIs (ld 23 c1) w d1/\RunIs (ld 23 a1) w b1/\(PV (ia 23 b1 n) fun r5=>
 U (st 93 r5 q5) w fun w=>
 V (bi .add 3 n (.int .i64 1)) w fun f1 w=>
 I2 [f1] w/\M2 [f1] w < m2))
 (V (fa 28 a 2) w fun s5 w=>
 V (ld 24 s5) w fun t5 w=>
 V (ln 24 t5) w fun u5 w=>
 Lp1 (.int .i64 0) w fun I3 M3 o w m3=>
 V (bi .lss 3 o u5) w fun v5 w=>
 CondW v5
 (Dr w fun w=>
 PV (fa 28 a 2) fun h1=>
 HV (ld 24 h1) w fun i1=>
 PV (fa 28 a 2) fun j1=>
 HV (ld 24 j1) w fun k1=>
 PV (ia 24 k1 o) fun x5=>
 HV (ld 96 x5) w fun y5=>
 CV (.func (.func 68) #[] #[]) #[y5] w fun z5 w=>
 RunIs (ld 24 j1) w k1/\RunIs (ld 24 h1) w i1/\(PV (ia 24 i1 o) fun a6=>
 U (st 96 a6 z5) w fun w=>
 V (bi .add 3 o (.int .i64 1)) w fun l1 w=>
 I3 [l1] w/\M3 [l1] w < m3))
 (V (fa 28 b 3) w fun b6 w=>
 V (ld 25 b6) w fun n1 w=>
 V (ln 25 n1) w fun c6 w=>
 Lp1 (.int .i64 0) w fun I4 M4 s w m4=>
 V (bi .lss 3 s c6) w fun d6 w=>
 CondW d6
 (V (ia 25 n1 s) w fun f6 w=>
 V (ld 54 f6) w fun h6 w=>
 V (al 54) w fun t w=>
 U (st 54 t h6) w fun w=>
 Dr w fun w=>
 PV (fa 28 a 3) fun o1=>
 HV (ld 25 o1) w fun p1=>
 PV (fa 54 t 0) fun u=>
 HV (ld 9 u) w fun v=>
 HV (ld 45 c) w fun x=>
 PV (fa 54 t 1) fun y=>
 HV (ld 3 y) w fun z=>
 PV (ia 45 x z) fun a0=>
 HV (ld 3 a0) w fun b0=>
 PV (bd 54 #[(0,v),(1,b0)]) fun i6=>
 V (bs 25 1 #[(0,i6)]) w fun j6 w=>
 RunIs (ld 3 a0) w b0/\RunIs (ld 3 y) w z/\RunIs (ld 45 c) w x/\RunIs (ld 9 u) w v/\RunIs (ld 25 o1) w p1/\(V (Builtin.append_ #[25,25] 25 #[p1,j6]) w fun k6 w=>
 RunIs (ld 3 a0) w b0/\RunIs (ld 3 y) w z/\RunIs (ld 45 c) w x/\RunIs (ld 9 u) w v/\(PV (fa 28 a 3) fun l6=>
 U (st 25 l6 k6) w fun w=>
 V (bi .add 3 s (.int .i64 1)) w fun q1 w=>
 I4 [q1] w/\M4 [q1] w < m4)))
 (V (fa 28 b 4) w fun n6 w=>
 V (ld 22 n6) w fun o6 w=>
 CV (.func (.func 69) #[] #[]) #[o6] w fun p6 w=>
 V (fa 28 a 4) w fun q6 w=>
 U (st 22 q6 p6) w fun w=>
 Dr w fun w=>
 HV (ld 28 a) w fun r6=>
 HV (ld 45 c) w fun r1=>
 U (st 28 h r6) w fun w=>
 RunIs (ld 45 c) w r1/\(TakeW (marks d) w fun w=>
 CW 28 h w fun f=>R (.tuple #[f,r1,(.int .i64 0)]) w)))))))
theorem en20 (h:vc20 R w t0):Calls Tryz.prog 20 #[t0] w (retK R):=enE ⟨by kernel_rfl,by kernel_rfl⟩ (by kernel_rfl:enterW Tryz.prog Tryz.f20 an20 [t0] w R = _) h
def an21:Ann:=(sD 3 (.seq (.seq (.reg (opn 8 (.join [24] (rgN 17 8) (.split 16 (opn 8 .done) (opn 8 .done)) (opn 1 (.join [33] (rgN 26 8) (.split 25 (opn 8 .done) (opn 8 .done)) (opn 1 (.join [42] (rgN 35 8) (.split 34 (opn 8 .done) (opn 8 .done)) .done))))))) (.cond (sD 1 lf) lf)) (.seq (sD 1 (.one (.loop [5] ([4,5] ++ rgN 43 19) (.seq (cD 5 lf lf) (.seq (.one (.seq (.draw (.take 0 (.hold 1 (.take 2 (.take 3 (.hold 4 (.take 5 (.hold 6 (.take 7 (.take 8 (.hold 9 (e1 10 (.take 11 .done))))))))))))) (.cond (sD 1 lf) lf))) (oD 3)))))) (.seq (sD 1 (.one (.loop [6] ([4,6] ++ rgN 62 19) (.seq (cD 5 lf lf) (.seq (.one (.seq (.draw (.take 0 (.hold 1 (.take 2 (.take 3 (.hold 4 (.take 5 (.hold 6 (.take 7 (.take 8 (.hold 9 (e1 10 (.take 11 .done))))))))))))) (.cond (sD 1 lf) lf))) (oD 3)))))) (.seq (sD 1 (.one (.loop [7] ([4,7] ++ rgN 81 18) (.seq (cD 5 lf lf) (.seq (.one (.seq (.draw (.take 0 (.hold 1 (.take 2 (.take 3 (.hold 4 (.take 5 (.hold 6 (.take 7 (.take 8 (.hold 9 (.take 10 .done)))))))))))) (.cond (sD 1 lf) lf))) (oD 3)))))) (.seq (sD 1 (.one (.loop [8] ([4,8] ++ rgN 99 18) (.seq (cD 5 lf lf) (.seq (.one (.seq (.draw (.take 0 (.hold 1 (.take 2 (.take 3 (.hold 4 (.take 5 (.hold 6 (.take 7 (.take 8 (.hold 9 (.take 10 .done)))))))))))) (.cond (sD 1 lf) lf))) (oD 3)))))) (.seq (.reg (opn 6 (.join [128] (rgN 123 6) (.split 122 (opn 6 .done) (opn 6 .done)) (opn 1 .done)))) lf)))))))
def vc21 (R:Value->World->Prop) (w:World) (a0 b0:Value):Prop:=
 V (bx 28 a0) w fun a w=>
 V (bx 28 b0) w fun b w=>
 V (fa 28 a 1) w fun c0 w=>
 V (ld 23 c0) w fun d0 w=>
 V (ln 23 d0) w fun f0 w=>
 V (fa 28 b 1) w fun h0 w=>
 V (ld 23 h0) w fun i0 w=>
 V (ln 23 i0) w fun j0 w=>
 V (et .neq 3 11 14 f0 j0) w fun k0 w=>
 ∀ K0:LP,(∀ i,∀ w,(∀ g:Env,
 ∀ K0:LP,(∀ j,∀ w,(∀ g:Env,
 ∀ K0:LP,(∀ k,∀ w,(∀ g:Env,
 CondW k
 (R (.bool false) w)
 (Lp1 (.int .i64 0) w fun I0 M0 c w m0=>
 V (fa 28 a 1) w fun l0 w=>
 V (ld 23 l0) w fun n0 w=>
 V (ln 23 n0) w fun o0 w=>
 V (bi .lss 3 c o0) w fun p0 w=>
 CondW p0
 (Dr w fun w=>
 PV (fa 28 a 1) fun l=>
 HV (ld 23 l) w fun n=>
 PV (ia 23 n c) fun q0=>
 HV (ld 93 q0) w fun r0=>
 PV (fa 28 b 1) fun o=>
 HV (ld 23 o) w fun p=>
 PV (ia 23 p c) fun s0=>
 HV (ld 93 s0) w fun u0=>
 CV (.func (.func 70) #[] #[]) #[r0,u0] w fun v0 w=>
 RunIs (ld 23 o) w p/\RunIs (ld 23 l) w n/\(PV (un .not v0) fun x0=>
 CondW x0
 (R (.bool false) w)
 (V (bi .add 3 c (.int .i64 1)) w fun q w=>
 I0 [q] w/\M0 [q] w < m0)))
 (Lp1 (.int .i64 0) w fun I1 M1 d w m1=>
 V (fa 28 a 2) w fun y0 w=>
 V (ld 24 y0) w fun z0 w=>
 V (ln 24 z0) w fun a1 w=>
 V (bi .lss 3 d a1) w fun b1 w=>
 CondW b1
 (Dr w fun w=>
 PV (fa 28 a 2) fun r=>
 HV (ld 24 r) w fun s=>
 PV (ia 24 s d) fun c1=>
 HV (ld 96 c1) w fun d1=>
 PV (fa 28 b 2) fun t=>
 HV (ld 24 t) w fun u=>
 PV (ia 24 u d) fun f1=>
 HV (ld 96 f1) w fun h1=>
 CV (.func (.func 71) #[] #[]) #[d1,h1] w fun i1 w=>
 RunIs (ld 24 t) w u/\RunIs (ld 24 r) w s/\(PV (un .not i1) fun j1=>
 CondW j1
 (R (.bool false) w)
 (V (bi .add 3 d (.int .i64 1)) w fun v w=>
 I1 [v] w/\M1 [v] w < m1)))
 (Lp1 (.int .i64 0) w fun I2 M2 f w m2=>
 V (fa 28 a 3) w fun k1 w=>
 V (ld 25 k1) w fun l1 w=>
 V (ln 25 l1) w fun n1 w=>
 V (bi .lss 3 f n1) w fun o1 w=>
 CondW o1
 (Dr w fun w=>
 PV (fa 28 a 3) fun p1=>
 HV (ld 25 p1) w fun q1=>
 PV (ia 25 q1 f) fun r1=>
 HV (ld 54 r1) w fun s1=>
 PV (fa 28 b 3) fun u1=>
 HV (ld 25 u1) w fun v1=>
 PV (ia 25 v1 f) fun x1=>
 HV (ld 54 x1) w fun y1=>
 PV (et .neq 54 92 97 s1 y1) fun z1=>
 CondW z1
 (R (.bool false) w)
 (V (bi .add 3 f (.int .i64 1)) w fun x w=>
 I2 [x] w/\M2 [x] w < m2))
 (Lp1 (.int .i64 0) w fun I3 M3 h w m3=>
 V (fa 28 a 5) w fun a2 w=>
 V (ld 26 a2) w fun b2 w=>
 V (ln 26 b2) w fun c2 w=>
 V (bi .lss 3 h c2) w fun d2 w=>
 CondW d2
 (Dr w fun w=>
 PV (fa 28 a 5) fun f2=>
 HV (ld 26 f2) w fun h2=>
 PV (ia 26 h2 h) fun i2=>
 HV (ld 38 i2) w fun j2=>
 PV (fa 28 b 5) fun k2=>
 HV (ld 26 k2) w fun l2=>
 PV (ia 26 l2 h) fun n2=>
 HV (ld 38 n2) w fun o2=>
 PV (et .neq 38 110 115 j2 o2) fun p2=>
 CondW p2
 (R (.bool false) w)
 (V (bi .add 3 h (.int .i64 1)) w fun y w=>
 I3 [y] w/\M3 [y] w < m3))
 (V (fa 28 a 0) w fun q2 w=>
 V (ld 22 q2) w fun r2 w=>
 V (fa 28 b 0) w fun s2 w=>
 V (ld 22 s2) w fun u2 w=>
 CV (.func (.func 72) #[] #[]) #[r2,u2] w fun v2 w=>
 ∀ K0:LP,(∀ z,∀ w,(∀ g:Env,
 R z w)->K0 [z] w) ->
 CondW v2
 (V (fa 28 a 4) w fun x2 w=>
 V (ld 22 x2) w fun y2 w=>
 V (fa 28 b 4) w fun z2 w=>
 V (ld 22 z2) w fun a3 w=>
 CV (.func (.func 72) #[] #[]) #[y2,a3] w fun b3 w=>
 K0 [b3] w)
 (K0 [(.bool false)] w)))))))->K0 [k] w) ->
 CondW j
 (K0 [(.bool true)] w)
 (V (fa 28 a 5) w fun c3 w=>
 V (ld 26 c3) w fun d3 w=>
 V (ln 26 d3) w fun f3 w=>
 V (fa 28 b 5) w fun h3 w=>
 V (ld 26 h3) w fun i3 w=>
 V (ln 26 i3) w fun j3 w=>
 V (et .neq 3 37 40 f3 j3) w fun k3 w=>
 K0 [k3] w))->K0 [j] w) ->
 CondW i
 (K0 [(.bool true)] w)
 (V (fa 28 a 3) w fun l3 w=>
 V (ld 25 l3) w fun n3 w=>
 V (ln 25 n3) w fun o3 w=>
 V (fa 28 b 3) w fun p3 w=>
 V (ld 25 p3) w fun q3 w=>
 V (ln 25 q3) w fun r3 w=>
 V (et .neq 3 28 31 o3 r3) w fun s3 w=>
 K0 [s3] w))->K0 [i] w) ->
 CondW k0
 (K0 [(.bool true)] w)
 (V (fa 28 a 2) w fun u3 w=>
 V (ld 24 u3) w fun v3 w=>
 V (ln 24 v3) w fun x3 w=>
 V (fa 28 b 2) w fun y3 w=>
 V (ld 24 y3) w fun z3 w=>
 V (ln 24 z3) w fun a4 w=>
 V (et .neq 3 19 22 x3 a4) w fun b4 w=>
 K0 [b4] w)
theorem en21 (h:vc21 R w t0 t1):Calls Tryz.prog 21 #[t0,t1] w (retK R):=enE ⟨by kernel_rfl,by kernel_rfl⟩ (by kernel_rfl:enterW Tryz.prog Tryz.f21 an21 [t0,t1] w R = _) h
def an22:Ann:=(sD 2 (.seq (.seq (.reg (opn 5 (.join [16] [12,13,14,15,16] (.split 11 (opn 5 .done) (opn 5 .done)) (opn 1 (.join [22] [18,19,20,21,22] (.split 17 (opn 5 .done) (opn 5 .done)) .done))))) (.cond (sD 1 lf) lf)) (sD 5 (sD 4 (.seq (.one (.loop [60] ([5] ++ rgN 29 24 ++ [60]) (.seq (cD 3 lf lf) (.one (sD 7 (sD 6 (.seq (cD 4 lf lf) (sD 4 (sD 3 (.one (.rf [] (oD 1) (.one (oD 5))))))))))))) (sD 2 lf))))))
def vc22 (R:Value->World->Prop) (w:World) (l:Value):Prop:=
 V (bx 28 l) w fun b w=>
 V (fa 28 b 5) w fun n w=>
 V (ld 26 n) w fun o w=>
 V (ln 26 o) w fun p w=>
 V (bi .gtr 3 p (.int .i64 12000)) w fun q w=>
 ∀ K0:LP,(∀ h,∀ w,(∀ g:Env,
 ∀ K0:LP,(∀ i,∀ w,(∀ g:Env,
 CondW i
 (R (.slice none 0 0) w)
 (V (fa 28 b 5) w fun r w=>
 V (ld 26 r) w fun s w=>
 V (ln 26 s) w fun j w=>
 V (ms 49 j j) w fun d w=>
 V (ld 28 b) w fun t w=>
 CV (.func (.func 73) #[] #[]) #[t] w fun u w=>
 V (al 45) w fun a w=>
 U (st 45 a u) w fun w=>
 Lp1 undef w fun I0 M0 c w m0=>
 V (ld 45 a) w fun v w=>
 V (ln 45 v) w fun x w=>
 V (bi .gtr 3 x (.int .i64 0)) w fun y w=>
 CondW y
 (V (ld 45 a) w fun z w=>
 V (ld 45 a) w fun a0 w=>
 V (ln 45 a0) w fun b0 w=>
 V (bi .sub 3 b0 (.int .i64 1)) w fun c0 w=>
 V (ia 45 z c0) w fun d0 w=>
 V (ld 3 d0) w fun f w=>
 V (ld 45 a) w fun f0 w=>
 V (ld 45 a) w fun h0 w=>
 V (ln 45 h0) w fun i0 w=>
 V (bi .sub 3 i0 (.int .i64 1)) w fun j0 w=>
 V (sl 45 f0 none (some j0) none) w fun k0 w=>
 U (st 45 a k0) w fun w=>
 V (ia 49 d f) w fun n0 w=>
 V (ld 4 n0) w fun o0 w=>
 CondW o0
 (I0 [c] w/\M0 [c] w < m0)
 (V (ia 49 d f) w fun p0 w=>
 U (st 4 p0 (.bool true)) w fun w=>
 V (ld 28 b) w fun q0 w=>
 CV (.func (.func 74) #[] #[]) #[q0,f] w fun s0 w=>
 ∀ (lp0:Loop) (r0 l0:Nat) (w1:World),NewRF w w1 r0 l0 lp0 ->
 (∀ (w:World) (Kl0:Value->World->Prop),∀ k,∀ u0,(BeginW l0 lp0 w fun w=>
 V (ld 45 a) w fun v0 w=>
 V (bs 45 1 #[(0,k)]) w fun x0 w=>
 V (Builtin.append_ #[45,45] 45 #[v0,x0]) w fun y0 w=>
 U (st 45 a y0) w fun w=>
 EndW l0 lp0 none w Kl0)->w.heap[l0]? = some (lobj lp0 .ready none)->CV (.func (.yield l0) #[] #[]) #[k,u0] w Kl0) ->
 CE s0 #[.func (.yield l0) #[] #[]] w1 fun _ w=>RfEnd l0 lp0 w (fun w=>
 I0 [(.iface r0 c)] w/\M0 [(.iface r0 c)] w < m0) (fun w=>
 TakeW (marks (.iface r0 c)) w fun w=>
 R (.slice none 0 0) w) []))
 (TakeW (marks c) w fun w=>
 R d w)))->K0 [i] w) ->
 CondW h
 (K0 [(.bool true)] w)
 (V (fa 28 b 5) w fun z0 w=>
 V (ld 26 z0) w fun a1 w=>
 V (ln 26 a1) w fun b1 w=>
 V (ec .eql 3 20 b1 (.int .i64 0)) w fun c1 w=>
 K0 [c1] w))->K0 [h] w) ->
 CondW q
 (K0 [(.bool true)] w)
 (V (fa 28 b 3) w fun d1 w=>
 V (ld 25 d1) w fun f1 w=>
 V (ln 25 f1) w fun h1 w=>
 V (bi .gtr 3 h1 (.int .i64 3000)) w fun i1 w=>
 K0 [i1] w)
theorem en22 (h:vc22 R w t0):Calls Tryz.prog 22 #[t0] w (retK R):=enE ⟨by kernel_rfl,by kernel_rfl⟩ (by kernel_rfl:enterW Tryz.prog Tryz.f22 an22 [t0] w R = _) h
def an23:Ann:=(sD 4 (.seq (sD 7 (cD 2 (sD 4 lf) lf)) (sD 9 (sD 5 lf))))
def vc23 (R:Value->World->Prop) (w:World) (f:Value):Prop:=
 V (bx 28 f) w fun b w=>
 V (ld 28 b) w fun h w=>
 CV (.func (.func 15) #[] #[]) #[h] w fun c w=>
 V (ex c 0) w fun d w=>
 V (ex c 1) w fun n w=>
 V (ec .neq 31 15 d (.int .i64 0)) w fun i w=>
 CondW i
 (R (.tuple #[(.slice none 0 0),(.slice none 0 0),d]) w)
 (V (ld 28 b) w fun j w=>
 CV (.func (.func 50) #[] #[]) #[j] w fun a w=>
 V (ex a 0) w fun k w=>
 V (ex a 1) w fun l w=>
 V (ex a 2) w fun o w=>
 R (.tuple #[k,l,(.int .i64 0)]) w)
theorem en23 (h:vc23 R w t0):Calls Tryz.prog 23 #[t0] w (retK R):=enE ⟨by kernel_rfl,by kernel_rfl⟩ (by kernel_rfl:enterW Tryz.prog Tryz.f23 an23 [t0] w R = _) h
def an26:Ann:=(sD 2 (.seq (.seq (.reg (opn 5 (.join [16] [12,13,14,15,16] (.split 11 (opn 5 .done) (opn 5 .done)) (opn 1 (.join [22] [18,19,20,21,22] (.split 17 (opn 5 .done) (opn 5 .done)) .done))))) (.cond (sD 1 lf) lf)) (sD 5 (sD 2 (.seq (sD 1 (.one (.loop [4,5] ([4,5] ++ rgN 28 27) (.seq (cD 5 lf lf) (.seqJ [4] ([4] ++ rgN 35 20) (.one (.seq (.draw (.take 0 (.hold 1 (tkN 2 3 (.hold 5 (.take 6 (.hold 7 (.take 8 (.take 9 (e1 10 .done)))))))))) (.cond (oD 10) lf))) (oD 3)))))) (.seq (.one (.loop [4] ([4,6] ++ rgN 55 26) (.seq (cD 3 lf lf) (.one (sD 7 (sD 6 (.seq (cD 4 lf lf) (sD 4 (oD 6))))))))) (sD 2 lf)))))))
def vc26 (R:Value->World->Prop) (w:World) (t:Value):Prop:=
 V (bx 28 t) w fun a w=>
 V (fa 28 a 5) w fun u w=>
 V (ld 26 u) w fun v w=>
 V (ln 26 v) w fun x w=>
 V (bi .gtr 3 x (.int .i64 12000)) w fun y w=>
 ∀ K0:LP,(∀ j,∀ w,(∀ g:Env,
 ∀ K0:LP,(∀ k,∀ w,(∀ g:Env,
 CondW k
 (R (.slice none 0 0) w)
 (V (fa 28 a 5) w fun z w=>
 V (ld 26 z) w fun a0 w=>
 V (ln 26 a0) w fun l w=>
 V (ms 49 l l) w fun d w=>
 V (bs 45 1 #[(0,(.int .i64 0))]) w fun b0 w=>
 Lp2 b0 (.int .i64 0) w fun I0 M0 f c w m0=>
 V (fa 28 a 3) w fun c0 w=>
 V (ld 25 c0) w fun d0 w=>
 V (ln 25 d0) w fun f0 w=>
 V (bi .lss 3 c f0) w fun h0 w=>
 CondW h0
 (∀ K0:LP,(∀ b,∀ w,(∀ g:Env,
 V (bi .add 3 c (.int .i64 1)) w fun n w=>
 I0 [b,n] w/\M0 [b,n] w < m0)->K0 [b] w) ->
 Dr w fun w=>
 PV (fa 28 a 3) fun o=>
 HV (ld 25 o) w fun p=>
 PV (ia 25 p c) fun i0=>
 PV (fa 54 i0 1) fun j0=>
 HV (ld 3 j0) w fun k0=>
 PV (fa 28 a 5) fun q=>
 HV (ld 26 q) w fun r=>
 PV (ln 26 r) fun l0=>
 PV (bi .sub 3 l0 (.int .i64 1)) fun n0=>
 CV (.func (.func 59) #[] #[]) #[k0,(.int .i64 0),n0] w fun o0 w=>
 RunIs (ld 26 q) w r/\RunIs (ld 25 o) w p/\(CondW o0
 (V (fa 28 a 3) w fun p0 w=>
 V (ld 25 p0) w fun q0 w=>
 V (ia 25 q0 c) w fun r0 w=>
 V (fa 54 r0 1) w fun s0 w=>
 V (ld 3 s0) w fun u0 w=>
 V (bs 45 1 #[(0,u0)]) w fun v0 w=>
 V (Builtin.append_ #[45,45] 45 #[f,v0]) w fun x0 w=>
 K0 [x0] w)
 (K0 [f] w)))
 (Lp1 f w fun I1 M1 b w m1=>
 V (ln 45 b) w fun y0 w=>
 V (bi .gtr 3 y0 (.int .i64 0)) w fun z0 w=>
 CondW z0
 (V (ln 45 b) w fun a1 w=>
 V (bi .sub 3 a1 (.int .i64 1)) w fun b1 w=>
 V (ia 45 b b1) w fun c1 w=>
 V (ld 3 c1) w fun h w=>
 V (ln 45 b) w fun d1 w=>
 V (bi .sub 3 d1 (.int .i64 1)) w fun f1 w=>
 V (sl 45 b none (some f1) none) w fun i w=>
 V (ia 49 d h) w fun h1 w=>
 V (ld 4 h1) w fun i1 w=>
 CondW i1
 (I1 [i] w/\M1 [i] w < m1)
 (V (ia 49 d h) w fun j1 w=>
 U (st 4 j1 (.bool true)) w fun w=>
 V (ld 28 a) w fun k1 w=>
 CV (.func (.func 31) #[] #[]) #[k1,h] w fun l1 w=>
 V (Builtin.append_ #[45,45] 45 #[i,l1]) w fun s w=>
 I1 [s] w/\M1 [s] w < m1))
 (R d w))))->K0 [k] w) ->
 CondW j
 (K0 [(.bool true)] w)
 (V (fa 28 a 5) w fun n1 w=>
 V (ld 26 n1) w fun o1 w=>
 V (ln 26 o1) w fun p1 w=>
 V (ec .eql 3 20 p1 (.int .i64 0)) w fun q1 w=>
 K0 [q1] w))->K0 [j] w) ->
 CondW y
 (K0 [(.bool true)] w)
 (V (fa 28 a 3) w fun r1 w=>
 V (ld 25 r1) w fun s1 w=>
 V (ln 25 s1) w fun u1 w=>
 V (bi .gtr 3 u1 (.int .i64 3000)) w fun v1 w=>
 K0 [v1] w)
theorem en26 (h:vc26 R w t0):Calls Tryz.prog 26 #[t0] w (retK R):=enE ⟨by kernel_rfl,by kernel_rfl⟩ (by kernel_rfl:enterW Tryz.prog Tryz.f26 an26 [t0] w R = _) h
def an30:Ann:=(sD 1 (.seq (cD 5 (sD 1 lf) lf) (.seq (sD 1 (.one (.loop [5] ([4,5] ++ rgN 11 15) (.seq (cD 4 lf lf) (.seq (.one (.seq (.draw (tkN 0 3 (.hold 3 (tkN 4 3 (.hold 7 (.take 8 .done)))))) (.cond (sD 1 lf) lf))) (oD 3)))))) (sD 1 lf))))
def vc30 (R:Value->World->Prop) (w:World) (b c:Value):Prop:=
 V (ln 45 b) w fun f w=>
 V (ln 45 c) w fun h w=>
 V (et .neq 3 7 9 f h) w fun i w=>
 CondW i
 (R (.bool false) w)
 (Lp1 (.int .i64 0) w fun I0 M0 a w m0=>
 V (ln 45 b) w fun j w=>
 V (bi .lss 3 a j) w fun k w=>
 CondW k
 (Dr w fun w=>
 PV (ia 45 b a) fun l=>
 HV (ld 3 l) w fun n=>
 PV (ia 45 c a) fun o=>
 HV (ld 3 o) w fun p=>
 PV (et .neq 3 20 24 n p) fun q=>
 CondW q
 (R (.bool false) w)
 (V (bi .add 3 a (.int .i64 1)) w fun d w=>
 I0 [d] w/\M0 [d] w < m0))
 (R (.bool true) w))
theorem en30 (h:vc30 R w t0 t1):Calls Tryz.prog 30 #[t0,t1] w (retK R):=enE ⟨by kernel_rfl,by kernel_rfl⟩ (by kernel_rfl:enterW Tryz.prog Tryz.f30 an30 [t0,t1] w R = _) h
def an31:Ann:=(sD 2 (.seq (.seq (.reg (opn 5 (.join [18] [14,15,16,17,18] (.split 13 (opn 5 .done) (opn 5 .done)) (opn 1 (.join [27] (rgN 20 8) (.split 19 (opn 8 .done) (opn 8 .done)) .done))))) (.cond (sD 1 lf) lf)) (sD 7 (sD 1 (sD 8 (.seqJ [6] ([6] ++ rgN 38 20) (.seq (.reg (opn 3 (.join [44] [41,42,43,44] (.split 40 (opn 4 .done) (opn 4 .done)) (opn 1 (.join [52] (rgN 46 7) (.split 45 (opn 7 .done) (opn 7 .done)) .done))))) (.cond (oD 6) lf)) (.seqJ [6] ([6] ++ rgN 58 40) (.seqJ [92] (rgN 58 35) (.draw (.take 0 (.hold 1 (.take 2 (.take 3 (.split 61 (tkN 4 11 (.hold 15 (.take 16 (.hold 17 (.take 18 (.take 19 (e1 20 (.take 21 (.take 22 (.split 80 (tkN 23 4 (.split 84 (tkN 27 8 .done) (.take 27 (.take 28 (.hold 29 (.take 30 (.hold 31 (tkN 32 3 .done)))))))) (tkN 23 12 .done))))))))))) (.take 4 (.hold 5 (tkN 6 3 (.split 66 (tkN 9 6 (.hold 15 (.take 16 (.hold 17 (.take 18 (.take 19 (e1 20 (.take 21 (.take 22 (.split 80 (tkN 23 4 (.split 84 (tkN 27 8 .done) (.take 27 (.take 28 (.hold 29 (.take 30 (.hold 31 (tkN 32 3 .done)))))))) (tkN 23 12 .done))))))))))) (.take 9 (.hold 10 (tkN 11 3 (.split 71 (.take 14 (.hold 15 (.take 16 (.hold 17 (.take 18 (.take 19 (e1 20 (.take 21 (.take 22 (.split 80 (tkN 23 4 (.split 84 (tkN 27 8 .done) (.take 27 (.take 28 (.hold 29 (.take 30 (.hold 31 (tkN 32 3 .done)))))))) (tkN 23 12 .done))))))))))) (tkN 14 21 .done))))))))))))))) (.cond (oD 6) lf)) (sD 2 lf))))))))
def vc31 (R:Value->World->Prop) (w:World) (n0 u:Value):Prop:=
 V (bx 28 n0) w fun c w=>
 V (fa 28 c 5) w fun o0 w=>
 V (ld 26 o0) w fun p0 w=>
 V (ln 26 p0) w fun q0 w=>
 V (bi .gtr 3 q0 (.int .i64 12000)) w fun r0 w=>
 ∀ K0:LP,(∀ a0,∀ w,(∀ g:Env,
 ∀ K0:LP,(∀ b0,∀ w,(∀ g:Env,
 CondW b0
 (R (.slice none 0 0) w)
 (V (fa 28 c 5) w fun s0 w=>
 V (ld 26 s0) w fun u0 w=>
 V (ia 26 u0 u) w fun v0 w=>
 V (ld 38 v0) w fun x0 w=>
 V (al 38) w fun a w=>
 U (st 38 a x0) w fun w=>
 V (ld 38 a) w fun y0 w=>
 CV (.func (.func 58) #[] #[]) #[y0] w fun c0 w=>
 V (ex c0 0) w fun z0 w=>
 V (ex c0 1) w fun a1 w=>
 V (al 108) w fun d0 w=>
 U (st 108 d0 z0) w fun w=>
 ∀ K0:LP,(∀ b,∀ w,(∀ g:Env,
 ∀ K0:LP,(∀ f0,∀ w,(∀ g:Env,
 R f0 w)->K0 [f0] w) ->
 ∀ K1:LP,(∀ h0,∀ w,(∀ g:Env,
 CondW h0
 (V (fa 38 a 1) w fun b1 w=>
 V (ld 3 b1) w fun c1 w=>
 V (bs 45 1 #[(0,c1)]) w fun d1 w=>
 V (Builtin.append_ #[45,45] 45 #[b,d1]) w fun f1 w=>
 K0 [f1] w)
 (K0 [b] w))->K1 [h0] w) ->
 Dr w fun w=>
 PV (fa 38 a 0) fun v=>
 HV (ld 3 v) w fun x=>
 PV (ec .eql 3 59 x (.int .i64 23)) fun h1=>
 CondW h1
 (PV (fa 38 a 1) fun h=>
 HV (ld 3 h) w fun i=>
 PV (fa 28 c 5) fun d=>
 HV (ld 26 d) w fun f=>
 PV (ln 26 f) fun j=>
 PV (bi .sub 3 j (.int .i64 1)) fun k=>
 CV (.func (.func 59) #[] #[]) #[i,(.int .i64 0),k] w fun l w=>
 RunIs (ld 26 d) w f/\RunIs (ld 3 v) w x/\(CondW l
 (PV (ln 45 b) fun n=>
 PV (ec .eql 3 82 n (.int .i64 0)) fun o=>
 CondW o
 (K1 [(.bool true)] w)
 (PV (ia 45 b (.int .i64 0)) fun p=>
 HV (ld 3 p) w fun q=>
 PV (fa 38 a 1) fun r=>
 HV (ld 3 r) w fun s=>
 PV (et .neq 3 87 89 q s) fun t=>
 K1 [t] w))
 (K1 [(.bool false)] w)))
 (PV (fa 38 a 0) fun y=>
 HV (ld 3 y) w fun z=>
 PV (ec .eql 3 63 z (.int .i64 24)) fun i1=>
 CondW i1
 (PV (fa 38 a 1) fun h=>
 HV (ld 3 h) w fun i=>
 PV (fa 28 c 5) fun d=>
 HV (ld 26 d) w fun f=>
 PV (ln 26 f) fun j=>
 PV (bi .sub 3 j (.int .i64 1)) fun k=>
 CV (.func (.func 59) #[] #[]) #[i,(.int .i64 0),k] w fun l w=>
 RunIs (ld 26 d) w f/\RunIs (ld 3 y) w z/\RunIs (ld 3 v) w x/\(CondW l
 (PV (ln 45 b) fun n=>
 PV (ec .eql 3 82 n (.int .i64 0)) fun o=>
 CondW o
 (K1 [(.bool true)] w)
 (PV (ia 45 b (.int .i64 0)) fun p=>
 HV (ld 3 p) w fun q=>
 PV (fa 38 a 1) fun r=>
 HV (ld 3 r) w fun s=>
 PV (et .neq 3 87 89 q s) fun t=>
 K1 [t] w))
 (K1 [(.bool false)] w)))
 (PV (fa 38 a 0) fun i0=>
 HV (ld 3 i0) w fun j0=>
 PV (ec .eql 3 68 j0 (.int .i64 30)) fun j1=>
 CondW j1
 (PV (fa 38 a 1) fun h=>
 HV (ld 3 h) w fun i=>
 PV (fa 28 c 5) fun d=>
 HV (ld 26 d) w fun f=>
 PV (ln 26 f) fun j=>
 PV (bi .sub 3 j (.int .i64 1)) fun k=>
 CV (.func (.func 59) #[] #[]) #[i,(.int .i64 0),k] w fun l w=>
 RunIs (ld 26 d) w f/\RunIs (ld 3 i0) w j0/\RunIs (ld 3 y) w z/\RunIs (ld 3 v) w x/\(CondW l
 (PV (ln 45 b) fun n=>
 PV (ec .eql 3 82 n (.int .i64 0)) fun o=>
 CondW o
 (K1 [(.bool true)] w)
 (PV (ia 45 b (.int .i64 0)) fun p=>
 HV (ld 3 p) w fun q=>
 PV (fa 38 a 1) fun r=>
 HV (ld 3 r) w fun s=>
 PV (et .neq 3 87 89 q s) fun t=>
 K1 [t] w))
 (K1 [(.bool false)] w)))
 (K1 [(.bool false)] w))))->K0 [b] w) ->
 V (un .not a1) w fun k1 w=>
 ∀ K1:LP,(∀ k0,∀ w,(∀ g:Env,
 ∀ K1:LP,(∀ l0,∀ w,(∀ g:Env,
 CondW l0
 (V (bi .add 3 u (.int .i64 1)) w fun l1 w=>
 V (bs 45 1 #[(0,l1)]) w fun n1 w=>
 V (Builtin.append_ #[45,45] 45 #[(.slice none 0 0),n1]) w fun o1 w=>
 K0 [o1] w)
 (K0 [(.slice none 0 0)] w))->K1 [l0] w) ->
 CondW k0
 (V (bi .add 3 u (.int .i64 1)) w fun p1 w=>
 V (fa 28 c 5) w fun q1 w=>
 V (ld 26 q1) w fun r1 w=>
 V (ln 26 r1) w fun s1 w=>
 V (bi .lss 3 p1 s1) w fun u1 w=>
 K1 [u1] w)
 (K1 [(.bool false)] w))->K1 [k0] w) ->
 CondW k1
 (K1 [(.bool true)] w)
 (V (fa 108 d0 5) w fun v1 w=>
 V (ld 4 v1) w fun x1 w=>
 V (un .not x1) w fun y1 w=>
 K1 [y1] w)))->K0 [b0] w) ->
 CondW a0
 (K0 [(.bool true)] w)
 (V (fa 28 c 5) w fun z1 w=>
 V (ld 26 z1) w fun a2 w=>
 V (ln 26 a2) w fun b2 w=>
 V (bi .sub 3 b2 (.int .i64 1)) w fun c2 w=>
 CV (.func (.func 59) #[] #[]) #[u,(.int .i64 0),c2] w fun d2 w=>
 V (un .not d2) w fun f2 w=>
 K0 [f2] w))->K0 [a0] w) ->
 CondW r0
 (K0 [(.bool true)] w)
 (V (fa 28 c 3) w fun h2 w=>
 V (ld 25 h2) w fun i2 w=>
 V (ln 25 i2) w fun j2 w=>
 V (bi .gtr 3 j2 (.int .i64 3000)) w fun k2 w=>
 K0 [k2] w)
theorem en31 (h:vc31 R w t0 t1):Calls Tryz.prog 31 #[t0,t1] w (retK R):=enE ⟨by kernel_rfl,by kernel_rfl⟩ (by kernel_rfl:enterW Tryz.prog Tryz.f31 an31 [t0,t1] w R = _) h
def an32:Ann:=(sD 2 (sD 4 (.seq (cD 3 (sD 4 lf) lf) (sD 3 (.seqJ [5] ([5] ++ rgN 34 13) (.draw (.take 0 (.hold 1 (.take 2 (.take 4 (.hold 5 (.take 6 (.take 8 (.hold 9 (.take 10 (.alts (.eff 3 (.alts (.eff 7 (.alts (.eff 11 (.take 12 (e1 13 (e1 14 .done))) (.eff 13 (e1 11 (.take 12 (e1 14 .done))) .nil))) (.eff 11 (.alts (.eff 7 (.take 12 (e1 13 (e1 14 .done))) (.eff 13 (e1 7 (.take 12 (e1 14 .done))) .nil))) (.eff 13 (.alts (.eff 7 (e1 11 (.take 12 (e1 14 .done))) (.eff 11 (e1 7 (.take 12 (e1 14 .done))) .nil))) .nil)))) (.eff 7 (.alts (.eff 3 (.alts (.eff 11 (.take 12 (e1 13 (e1 14 .done))) (.eff 13 (e1 11 (.take 12 (e1 14 .done))) .nil))) (.eff 11 (.alts (.eff 3 (.take 12 (e1 13 (e1 14 .done))) (.eff 13 (e1 3 (.take 12 (e1 14 .done))) .nil))) (.eff 13 (.alts (.eff 3 (e1 11 (.take 12 (e1 14 .done))) (.eff 11 (e1 3 (.take 12 (e1 14 .done))) .nil))) .nil)))) (.eff 11 (.alts (.eff 3 (.alts (.eff 7 (.take 12 (e1 13 (e1 14 .done))) (.eff 13 (e1 7 (.take 12 (e1 14 .done))) .nil))) (.eff 7 (.alts (.eff 3 (.take 12 (e1 13 (e1 14 .done))) (.eff 13 (e1 3 (.take 12 (e1 14 .done))) .nil))) (.eff 13 (.alts (.eff 3 (e1 7 (.take 12 (e1 14 .done))) (.eff 7 (e1 3 (.take 12 (e1 14 .done))) .nil))) .nil)))) (.eff 13 (.alts (.eff 3 (.alts (.eff 7 (e1 11 (.take 12 (e1 14 .done))) (.eff 11 (e1 7 (.take 12 (e1 14 .done))) .nil))) (.eff 7 (.alts (.eff 3 (e1 11 (.take 12 (e1 14 .done))) (.eff 11 (e1 3 (.take 12 (e1 14 .done))) .nil))) (.eff 11 (.alts (.eff 3 (e1 7 (.take 12 (e1 14 .done))) (.eff 7 (e1 3 (.take 12 (e1 14 .done))) .nil))) .nil)))) .nil))))))))))))))) (.seq (sD 1 (.one (.loop [6] ([6,7,8,9] ++ rgN 47 42) (.seq (cD 5 lf lf) (.seq (.one (sD 8 (sD 8 (sD 1 (.one (.loop [9] ([9] ++ rgN 66 23) (.seq (.seq (.reg (opn 3 (.join [73] [69,70,71,72,73] (.split 68 (opn 5 .done) (opn 5 .done)) .done))) (.cond lf lf)) (.seqJ [] (rgN 76 13) (.one (cD 4 (.draw (.take 0 (.take 1 (.hold 2 (.take 3 (.hold 4 (.take 5 (.take 6 (.hold 7 (.take 8 (e1 9 .done))))))))))) lf)) (oD 3))))))))) (oD 3)))))) (sD 7 (sD 1 (.seq (sD 1 (.one (.loop [13] ([13] ++ rgN 94 13) (.seq (cD 2 lf lf) (.seq (.one (oD 10)) (oD 3)))))) (sD 1 (.seq (sD 1 (.one (.loop [15] ([15] ++ rgN 107 22) (.seq (cD 5 lf lf) (.seqJ [] (rgN 114 15) (.one (cD 5 (.draw (.take 0 (.hold 1 (.take 2 (.hold 3 (.take 4 (.take 5 (.hold 6 (e1 7 (e1 8 (.take 9 (e1 10 .done)))))))))))) lf)) (oD 3)))))) (.seq (sD 1 (.one (.loop [16] ([16] ++ rgN 129 24) (.seq (cD 5 lf lf) (.seqJ [] (rgN 136 17) (.one (cD 5 (.draw (.take 0 (.hold 1 (.take 3 (.hold 4 (.take 5 (.take 6 (.hold 7 (e1 2 (e1 8 (e1 9 (e1 10 (.take 11 (e1 12 .done)))))))))))))) lf)) (oD 3)))))) (.seq (sD 1 (.one (.loop [17] ([17] ++ rgN 153 24) (.seq (cD 5 lf lf) (.seqJ [] (rgN 160 17) (.one (cD 5 (.draw (.take 0 (.hold 1 (.take 3 (.hold 4 (.take 5 (.take 6 (.hold 7 (e1 2 (e1 8 (e1 9 (e1 10 (.take 11 (e1 12 .done)))))))))))))) lf)) (oD 3)))))) (.seq (sD 1 (.one (.loop [18] ([18] ++ rgN 177 28) (.seq (cD 5 lf lf) (.seq (.one (.draw (.take 0 (.hold 1 (.take 2 (.hold 3 (tkN 4 3 (.hold 7 (.take 8 (.take 9 (.hold 10 (tkN 11 3 (.hold 14 (.take 15 (.hold 16 (.take 17 (e1 18 (e1 19 (.take 20 (e1 21 .done)))))))))))))))))))) (oD 3)))))) (sD 7 (.seq (sD 1 (.one (.loop [19] ([19,20,21,22,23] ++ rgN 211 79) (.seq (cD 5 lf lf) (.seqJ [] ([20,21,22,23] ++ rgN 218 72) (.one (.seq (cD 5 lf lf) (sD 8 (sD 8 (.seq (sD 1 (.one (.loop [22] ([22] ++ rgN 235 20) (.seq (cD 2 lf lf) (.seqJ [] (rgN 239 16) (.one (cD 4 (.draw (tkN 0 3 (.hold 3 (.take 4 (.hold 5 (.take 6 (.take 7 (.hold 8 (.take 9 (.hold 10 (.take 11 (e1 12 .done)))))))))))) lf)) (oD 3)))))) (sD 7 (.seqJ [] (rgN 261 16) (.seq (.reg (opn 3 (.join [266] [264,265,266] (.split 263 (opn 3 .done) (opn 3 .done)) (opn 1 (.join [270] [268,269,270] (.split 267 (opn 3 .done) (opn 3 .done)) .done))))) (.cond (oD 7) lf)) (oD 14)))))))) (oD 3)))))) (sD 4 lf)))))))))))))))))
def vc32 (R:Value->World->Prop) (w:World) (r2:Value):Prop:=
 V (bx 28 r2) w fun r w=>
 V (al 67) w fun d0 w=>
 V (ld 28 r) w fun s2 w=>
 CV (.func (.func 16) #[] #[]) #[s2] w fun u2 w=>
 V (al 35) w fun r0 w=>
 U (st 35 r0 u2) w fun w=>
 V (fa 35 r0 0) w fun v2 w=>
 V (ld 31 v2) w fun x2 w=>
 V (ec .neq 31 27 x2 (.int .i64 0)) w fun y2 w=>
 CondW y2
 (V (fa 35 r0 0) w fun z2 w=>
 V (ld 31 z2) w fun a3 w=>
 V (bd 67 #[(2,a3)]) w fun b3 w=>
 U (st 67 d0 b3) w fun w=>
 CW 67 d0 w fun s0=>R s0 w)
 (V (ld 28 r) w fun c3 w=>
 CV (.func (.func 26) #[] #[]) #[c3] w fun u0 w=>
 ∀ K0:LP,(∀ a,∀ w,(∀ g:Env,
 Lp1 (.int .i64 0) w fun I0 M0 x w m0=>
 V (fa 28 r 5) w fun d3 w=>
 V (ld 26 d3) w fun f3 w=>
 V (ln 26 f3) w fun h3 w=>
 V (bi .lss 3 x h3) w fun i3 w=>
 CondW i3
 (V (fa 28 r 5) w fun j3 w=>
 V (ld 26 j3) w fun k3 w=>
 V (ia 26 k3 x) w fun l3 w=>
 V (ld 38 l3) w fun n3 w=>
 CV (.func (.func 79) #[] #[]) #[n3] w fun o3 w=>
 V (al 100) w fun v0 w=>
 U (st 100 v0 o3) w fun w=>
 V (fa 28 r 5) w fun p3 w=>
 V (ld 26 p3) w fun q3 w=>
 V (ia 26 q3 x) w fun r3 w=>
 V (ld 38 r3) w fun s3 w=>
 CV (.func (.func 80) #[] #[]) #[s3] w fun u3 w=>
 V (al 100) w fun o1 w=>
 U (st 100 o1 u3) w fun w=>
 Lp1 (.int .i64 0) w fun I1 M1 y w m1=>
 V (bi .lss 3 y (.int .i64 3)) w fun v3 w=>
 ∀ K0:LP,(∀ p1,∀ w,(∀ g:Env,
 CondW p1
 (∀ K0:LP,(∀ w,(∀ g:Env,
 V (bi .add 3 y (.int .i64 1)) w fun q1 w=>
 I1 [q1] w/\M1 [q1] w < m1)->K0 [] w) ->
 V (ia 100 v0 y) w fun x3 w=>
 V (ld 3 x3) w fun y3 w=>
 V (bi .gtr 3 y3 (.int .i64 0)) w fun z3 w=>
 CondW z3
 (Dr w fun w=>
 PV (ia 100 v0 y) fun a4=>
 HV (ld 3 a4) w fun b4=>
 PV (ia 145 a b4) fun c4=>
 HV (ld 49 c4) w fun d4=>
 PV (ia 100 o1 y) fun f4=>
 HV (ld 3 f4) w fun h4=>
 PV (ia 49 d4 h4) fun i4=>
 U (st 4 i4 (.bool true)) w fun w=>
 K0 [] w)
 (K0 [] w))
 (V (bi .add 3 x (.int .i64 1)) w fun r1 w=>
 I0 [r1] w/\M0 [r1] w < m0))->K0 [p1] w) ->
 CondW v3
 (V (ia 49 u0 x) w fun j4 w=>
 V (ld 4 j4) w fun k4 w=>
 K0 [k4] w)
 (K0 [(.bool false)] w))
 (CV (.func (.func 81) #[] #[]) #[u0] w fun s1 w=>
 V (ex s1 0) w fun x0 w=>
 V (ex s1 1) w fun y9 w=>
 V (al 149) w fun u1 w=>
 Lp1 (.int .i64 1) w fun I1 M1 f0 w m1=>
 V (bi .lss 3 f0 (.int .i64 4)) w fun l4 w=>
 CondW l4
 (V (ia 145 a f0) w fun n4 w=>
 V (ld 49 n4) w fun o4 w=>
 CV (.func (.func 81) #[] #[]) #[o4] w fun v1 w=>
 V (ex v1 0) w fun p4 w=>
 V (ex v1 1) w fun z9 w=>
 V (ia 149 u1 f0) w fun q4 w=>
 U (st 45 q4 p4) w fun w=>
 V (bi .add 3 f0 (.int .i64 1)) w fun x1 w=>
 I1 [x1] w/\M1 [x1] w < m1)
 (V (al 28) w fun s w=>
 Lp1 (.int .i64 0) w fun I2 M2 h0 w m2=>
 V (fa 28 r 0) w fun r4 w=>
 V (ld 22 r4) w fun s4 w=>
 V (ln 22 s4) w fun t4 w=>
 V (bi .lss 3 h0 t4) w fun u4 w=>
 CondW u4
 (∀ K0:LP,(∀ w,(∀ g:Env,
 V (bi .add 3 h0 (.int .i64 1)) w fun y1 w=>
 I2 [y1] w/\M2 [y1] w < m2)->K0 [] w) ->
 V (ia 145 a (.int .i64 1)) w fun v4 w=>
 V (ld 49 v4) w fun x4 w=>
 V (ia 49 x4 h0) w fun y4 w=>
 V (ld 4 y4) w fun z4 w=>
 CondW z4
 (Dr w fun w=>
 PV (fa 28 s 0) fun z1=>
 HV (ld 22 z1) w fun a2=>
 PV (fa 28 r 0) fun y0=>
 HV (ld 22 y0) w fun z0=>
 PV (ia 22 z0 h0) fun a5=>
 HV (ld 9 a5) w fun b5=>
 V (bs 22 1 #[(0,b5)]) w fun c5 w=>
 RunIs (ld 22 y0) w z0/\RunIs (ld 22 z1) w a2/\(V (Builtin.append_ #[22,22] 22 #[a2,c5]) w fun d5 w=>
 RunIs (ld 22 y0) w z0/\(PV (fa 28 s 0) fun f5=>
 U (st 22 f5 d5) w fun w=>
 K0 [] w)))
 (K0 [] w))
 (Lp1 (.int .i64 0) w fun I3 M3 i0 w m3=>
 V (fa 28 r 1) w fun h5 w=>
 V (ld 23 h5) w fun i5 w=>
 V (ln 23 i5) w fun j5 w=>
 V (bi .lss 3 i0 j5) w fun k5 w=>
 CondW k5
 (∀ K0:LP,(∀ w,(∀ g:Env,
 V (bi .add 3 i0 (.int .i64 1)) w fun b2 w=>
 I3 [b2] w/\M3 [b2] w < m3)->K0 [] w) ->
 V (ia 145 a (.int .i64 2)) w fun l5 w=>
 V (ld 49 l5) w fun n5 w=>
 V (ia 49 n5 i0) w fun o5 w=>
 V (ld 4 o5) w fun p5 w=>
 CondW p5
 (Dr w fun w=>
 PV (fa 28 s 1) fun j0=>
 HV (ld 23 j0) w fun k0=>
 PV (fa 28 r 1) fun z=>
 HV (ld 23 z) w fun a0=>
 PV (ia 23 a0 i0) fun c2=>
 HV (ld 93 c2) w fun d2=>
 V (bs 93 0 #[]) w fun q5 w=>
 RunIs (ld 93 c2) w d2/\RunIs (ld 23 z) w a0/\RunIs (ld 23 j0) w k0/\(V (Builtin.append_ #[93,93] 93 #[q5,d2]) w fun r5 w=>
 RunIs (ld 23 z) w a0/\RunIs (ld 23 j0) w k0/\(V (bs 23 1 #[(0,r5)]) w fun s5 w=>
 RunIs (ld 23 z) w a0/\RunIs (ld 23 j0) w k0/\(V (Builtin.append_ #[23,23] 23 #[k0,s5]) w fun u5 w=>
 RunIs (ld 23 z) w a0/\(PV (fa 28 s 1) fun v5=>
 U (st 23 v5 u5) w fun w=>
 K0 [] w)))))
 (K0 [] w))
 (Lp1 (.int .i64 0) w fun I4 M4 l0 w m4=>
 V (fa 28 r 2) w fun x5 w=>
 V (ld 24 x5) w fun y5 w=>
 V (ln 24 y5) w fun z5 w=>
 V (bi .lss 3 l0 z5) w fun a6 w=>
 CondW a6
 (∀ K0:LP,(∀ w,(∀ g:Env,
 V (bi .add 3 l0 (.int .i64 1)) w fun f2 w=>
 I4 [f2] w/\M4 [f2] w < m4)->K0 [] w) ->
 V (ia 145 a (.int .i64 3)) w fun b6 w=>
 V (ld 49 b6) w fun c6 w=>
 V (ia 49 c6 l0) w fun d6 w=>
 V (ld 4 d6) w fun f6 w=>
 CondW f6
 (Dr w fun w=>
 PV (fa 28 s 2) fun n0=>
 HV (ld 24 n0) w fun o0=>
 PV (fa 28 r 2) fun b0=>
 HV (ld 24 b0) w fun c0=>
 PV (ia 24 c0 l0) fun h2=>
 HV (ld 96 h2) w fun i2=>
 V (bs 96 0 #[]) w fun h6 w=>
 RunIs (ld 96 h2) w i2/\RunIs (ld 24 b0) w c0/\RunIs (ld 24 n0) w o0/\(V (Builtin.append_ #[96,96] 96 #[h6,i2]) w fun i6 w=>
 RunIs (ld 24 b0) w c0/\RunIs (ld 24 n0) w o0/\(V (bs 24 1 #[(0,i6)]) w fun j6 w=>
 RunIs (ld 24 b0) w c0/\RunIs (ld 24 n0) w o0/\(V (Builtin.append_ #[24,24] 24 #[o0,j6]) w fun k6 w=>
 RunIs (ld 24 b0) w c0/\(PV (fa 28 s 2) fun l6=>
 U (st 24 l6 k6) w fun w=>
 K0 [] w)))))
 (K0 [] w))
 (Lp1 (.int .i64 0) w fun I5 M5 p0 w m5=>
 V (fa 28 r 3) w fun n6 w=>
 V (ld 25 n6) w fun o6 w=>
 V (ln 25 o6) w fun p6 w=>
 V (bi .lss 3 p0 p6) w fun q6 w=>
 CondW q6
 (Dr w fun w=>
 PV (fa 28 s 3) fun j2=>
 HV (ld 25 j2) w fun k2=>
 PV (fa 28 r 3) fun a1=>
 HV (ld 25 a1) w fun b1=>
 PV (ia 25 b1 p0) fun r6=>
 PV (fa 54 r6 0) fun c1=>
 HV (ld 9 c1) w fun d1=>
 PV (fa 28 r 3) fun f1=>
 HV (ld 25 f1) w fun h1=>
 PV (ia 25 h1 p0) fun s6=>
 PV (fa 54 s6 1) fun i1=>
 HV (ld 3 i1) w fun j1=>
 PV (ia 45 x0 j1) fun k1=>
 HV (ld 3 k1) w fun l1=>
 PV (bd 54 #[(0,d1),(1,l1)]) fun u6=>
 V (bs 25 1 #[(0,u6)]) w fun v6 w=>
 RunIs (ld 3 k1) w l1/\RunIs (ld 3 i1) w j1/\RunIs (ld 25 f1) w h1/\RunIs (ld 9 c1) w d1/\RunIs (ld 25 a1) w b1/\RunIs (ld 25 j2) w k2/\(V (Builtin.append_ #[25,25] 25 #[k2,v6]) w fun x6 w=>
 RunIs (ld 3 k1) w l1/\RunIs (ld 3 i1) w j1/\RunIs (ld 25 f1) w h1/\RunIs (ld 9 c1) w d1/\RunIs (ld 25 a1) w b1/\(PV (fa 28 s 3) fun y6=>
 U (st 25 y6 x6) w fun w=>
 V (bi .add 3 p0 (.int .i64 1)) w fun l2 w=>
 I5 [l2] w/\M5 [l2] w < m5)))
 (V (fa 28 s 4) w fun z6 w=>
 V (ld 22 z6) w fun a7 w=>
 V (fa 28 r 4) w fun b7 w=>
 V (ld 22 b7) w fun c7 w=>
 V (Builtin.append_ #[22,22] 22 #[a7,c7]) w fun d7 w=>
 V (fa 28 s 4) w fun f7 w=>
 U (st 22 f7 d7) w fun w=>
 Lp1 (.int .i64 0) w fun I6 M6 u w m6=>
 V (fa 28 r 5) w fun h7 w=>
 V (ld 26 h7) w fun i7 w=>
 V (ln 26 i7) w fun j7 w=>
 V (bi .lss 3 u j7) w fun k7 w=>
 CondW k7
 (∀ K0:LP,(∀ w,(∀ g:Env,
 V (bi .add 3 u (.int .i64 1)) w fun n2 w=>
 I6 [n2] w/\M6 [n2] w < m6)->K0 [] w) ->
 V (ia 49 u0 u) w fun l7 w=>
 V (ld 4 l7) w fun n7 w=>
 V (un .not n7) w fun o7 w=>
 CondW o7
 (K0 [] w)
 (V (fa 28 r 5) w fun p7 w=>
 V (ld 26 p7) w fun q7 w=>
 V (ia 26 q7 u) w fun r7 w=>
 V (ld 38 r7) w fun s7 w=>
 CV (.func (.func 79) #[] #[]) #[s7] w fun u7 w=>
 V (al 100) w fun n1 w=>
 U (st 100 n1 u7) w fun w=>
 V (fa 28 r 5) w fun v7 w=>
 V (ld 26 v7) w fun x7 w=>
 V (ia 26 x7 u) w fun y7 w=>
 V (ld 38 y7) w fun z7 w=>
 CV (.func (.func 80) #[] #[]) #[z7] w fun a8 w=>
 V (al 100) w fun t w=>
 U (st 100 t a8) w fun w=>
 Lp1 (.int .i64 0) w fun I7 M7 v w m7=>
 V (bi .lss 3 v (.int .i64 3)) w fun b8 w=>
 CondW b8
 (∀ K1:LP,(∀ w,(∀ g:Env,
 V (bi .add 3 v (.int .i64 1)) w fun o2 w=>
 I7 [o2] w/\M7 [o2] w < m7)->K1 [] w) ->
 V (ia 100 n1 v) w fun c8 w=>
 V (ld 3 c8) w fun d8 w=>
 V (bi .gtr 3 d8 (.int .i64 0)) w fun f8 w=>
 CondW f8
 (Dr w fun w=>
 PV (ia 100 n1 v) fun h8=>
 HV (ld 3 h8) w fun i8=>
 PV (ia 149 u1 i8) fun j8=>
 HV (ld 45 j8) w fun k8=>
 PV (ia 100 t v) fun l8=>
 HV (ld 3 l8) w fun n8=>
 PV (ia 45 k8 n8) fun o8=>
 HV (ld 3 o8) w fun p8=>
 PV (ia 100 t v) fun q8=>
 U (st 3 q8 p8) w fun w=>
 K1 [] w)
 (K1 [] w))
 (V (fa 28 r 5) w fun r8 w=>
 V (ld 26 r8) w fun s8 w=>
 V (ia 26 s8 u) w fun u8 w=>
 V (fa 38 u8 0) w fun v8 w=>
 V (ld 3 v8) w fun q0 w=>
 ∀ K1:LP,(∀ w,(∀ g:Env,
 V (fa 28 s 5) w fun x8 w=>
 V (ld 26 x8) w fun y8 w=>
 V (ia 100 t (.int .i64 0)) w fun z8 w=>
 V (ld 3 z8) w fun a9 w=>
 V (ia 100 t (.int .i64 1)) w fun b9 w=>
 V (ld 3 b9) w fun c9 w=>
 V (ia 100 t (.int .i64 2)) w fun d9 w=>
 V (ld 3 d9) w fun f9 w=>
 V (bd 38 #[(0,q0),(1,a9),(2,c9),(3,f9)]) w fun h9 w=>
 V (bs 26 1 #[(0,h9)]) w fun i9 w=>
 V (Builtin.append_ #[26,26] 26 #[y8,i9]) w fun j9 w=>
 V (fa 28 s 5) w fun k9 w=>
 U (st 26 k9 j9) w fun w=>
 K0 [] w)->K1 [] w) ->
 V (ec .eql 3 261 q0 (.int .i64 23)) w fun l9 w=>
 ∀ K2:LP,(∀ p2,∀ w,(∀ g:Env,
 ∀ K2:LP,(∀ q2,∀ w,(∀ g:Env,
 CondW q2
 (V (ia 100 t (.int .i64 0)) w fun n9 w=>
 V (ld 3 n9) w fun o9 w=>
 V (ia 45 x0 o9) w fun p9 w=>
 V (ld 3 p9) w fun q9 w=>
 V (ia 100 t (.int .i64 0)) w fun r9 w=>
 U (st 3 r9 q9) w fun w=>
 K1 [] w)
 (K1 [] w))->K2 [q2] w) ->
 CondW p2
 (K2 [(.bool true)] w)
 (V (ec .eql 3 268 q0 (.int .i64 30)) w fun s9 w=>
 K2 [s9] w))->K2 [p2] w) ->
 CondW l9
 (K2 [(.bool true)] w)
 (V (ec .eql 3 264 q0 (.int .i64 24)) w fun u9 w=>
 K2 [u9] w))))
 (V (ld 28 s) w fun v9 w=>
 V (bd 67 #[(0,v9),(1,x0)]) w fun x9 w=>
 U (st 67 d0 x9) w fun w=>
 CW 67 d0 w fun s0=>R s0 w))))))))->K0 [a] w) ->
 Dr w fun w=>
 PV (fa 28 r 0) fun b=>
 HV (ld 22 b) w fun c=>
 PV (ln 22 c) fun o=>
 PV (fa 28 r 1) fun d=>
 HV (ld 23 d) w fun f=>
 PV (ln 23 f) fun p=>
 PV (fa 28 r 2) fun h=>
 HV (ld 24 h) w fun i=>
 PV (ln 24 i) fun q=>
 (V (ms 49 o o) w fun k w=>
 RunIs (ld 24 h) w i/\RunIs (ld 23 d) w f/\RunIs (ld 22 b) w c/\((V (ms 49 p p) w fun l w=>
 RunIs (ld 24 h) w i/\RunIs (ld 23 d) w f/\RunIs (ld 22 b) w c/\((V (ms 49 q q) w fun n w=>
 RunIs (ld 24 h) w i/\RunIs (ld 23 d) w f/\RunIs (ld 22 b) w c/\(PV (bd 145 #[(0,(.slice none 0 0)),(1,k),(2,l),(3,n)]) fun j=>
 V (al 145) w fun a w=>
 RunIs (ld 24 h) w i/\RunIs (ld 23 d) w f/\RunIs (ld 22 b) w c/\(U (st 145 a j) w fun w=>
 K0 [a] w))) /\
 (V (al 145) w fun a w=>
 RunIs (ld 24 h) w i/\RunIs (ld 23 d) w f/\RunIs (ld 22 b) w c/\(V (ms 49 q q) w fun n w=>
 RunIs (ld 24 h) w i/\RunIs (ld 23 d) w f/\RunIs (ld 22 b) w c/\(PV (bd 145 #[(0,(.slice none 0 0)),(1,k),(2,l),(3,n)]) fun j=>
 U (st 145 a j) w fun w=>
 K0 [a] w))))) /\
 (V (ms 49 q q) w fun n w=>
 RunIs (ld 24 h) w i/\RunIs (ld 23 d) w f/\RunIs (ld 22 b) w c/\((V (ms 49 p p) w fun l w=>
 RunIs (ld 24 h) w i/\RunIs (ld 23 d) w f/\RunIs (ld 22 b) w c/\(PV (bd 145 #[(0,(.slice none 0 0)),(1,k),(2,l),(3,n)]) fun j=>
 V (al 145) w fun a w=>
 RunIs (ld 24 h) w i/\RunIs (ld 23 d) w f/\RunIs (ld 22 b) w c/\(U (st 145 a j) w fun w=>
 K0 [a] w))) /\
 (V (al 145) w fun a w=>
 RunIs (ld 24 h) w i/\RunIs (ld 23 d) w f/\RunIs (ld 22 b) w c/\(V (ms 49 p p) w fun l w=>
 RunIs (ld 24 h) w i/\RunIs (ld 23 d) w f/\RunIs (ld 22 b) w c/\(PV (bd 145 #[(0,(.slice none 0 0)),(1,k),(2,l),(3,n)]) fun j=>
 U (st 145 a j) w fun w=>
 K0 [a] w))))) /\
 (V (al 145) w fun a w=>
 RunIs (ld 24 h) w i/\RunIs (ld 23 d) w f/\RunIs (ld 22 b) w c/\((V (ms 49 p p) w fun l w=>
 RunIs (ld 24 h) w i/\RunIs (ld 23 d) w f/\RunIs (ld 22 b) w c/\(V (ms 49 q q) w fun n w=>
 RunIs (ld 24 h) w i/\RunIs (ld 23 d) w f/\RunIs (ld 22 b) w c/\(PV (bd 145 #[(0,(.slice none 0 0)),(1,k),(2,l),(3,n)]) fun j=>
 U (st 145 a j) w fun w=>
 K0 [a] w))) /\
 (V (ms 49 q q) w fun n w=>
 RunIs (ld 24 h) w i/\RunIs (ld 23 d) w f/\RunIs (ld 22 b) w c/\(V (ms 49 p p) w fun l w=>
 RunIs (ld 24 h) w i/\RunIs (ld 23 d) w f/\RunIs (ld 22 b) w c/\(PV (bd 145 #[(0,(.slice none 0 0)),(1,k),(2,l),(3,n)]) fun j=>
 U (st 145 a j) w fun w=>
 K0 [a] w))))))) /\
 (V (ms 49 p p) w fun l w=>
 RunIs (ld 24 h) w i/\RunIs (ld 23 d) w f/\RunIs (ld 22 b) w c/\((V (ms 49 o o) w fun k w=>
 RunIs (ld 24 h) w i/\RunIs (ld 23 d) w f/\RunIs (ld 22 b) w c/\((V (ms 49 q q) w fun n w=>
 RunIs (ld 24 h) w i/\RunIs (ld 23 d) w f/\RunIs (ld 22 b) w c/\(PV (bd 145 #[(0,(.slice none 0 0)),(1,k),(2,l),(3,n)]) fun j=>
 V (al 145) w fun a w=>
 RunIs (ld 24 h) w i/\RunIs (ld 23 d) w f/\RunIs (ld 22 b) w c/\(U (st 145 a j) w fun w=>
 K0 [a] w))) /\
 (V (al 145) w fun a w=>
 RunIs (ld 24 h) w i/\RunIs (ld 23 d) w f/\RunIs (ld 22 b) w c/\(V (ms 49 q q) w fun n w=>
 RunIs (ld 24 h) w i/\RunIs (ld 23 d) w f/\RunIs (ld 22 b) w c/\(PV (bd 145 #[(0,(.slice none 0 0)),(1,k),(2,l),(3,n)]) fun j=>
 U (st 145 a j) w fun w=>
 K0 [a] w))))) /\
 (V (ms 49 q q) w fun n w=>
 RunIs (ld 24 h) w i/\RunIs (ld 23 d) w f/\RunIs (ld 22 b) w c/\((V (ms 49 o o) w fun k w=>
 RunIs (ld 24 h) w i/\RunIs (ld 23 d) w f/\RunIs (ld 22 b) w c/\(PV (bd 145 #[(0,(.slice none 0 0)),(1,k),(2,l),(3,n)]) fun j=>
 V (al 145) w fun a w=>
 RunIs (ld 24 h) w i/\RunIs (ld 23 d) w f/\RunIs (ld 22 b) w c/\(U (st 145 a j) w fun w=>
 K0 [a] w))) /\
 (V (al 145) w fun a w=>
 RunIs (ld 24 h) w i/\RunIs (ld 23 d) w f/\RunIs (ld 22 b) w c/\(V (ms 49 o o) w fun k w=>
 RunIs (ld 24 h) w i/\RunIs (ld 23 d) w f/\RunIs (ld 22 b) w c/\(PV (bd 145 #[(0,(.slice none 0 0)),(1,k),(2,l),(3,n)]) fun j=>
 U (st 145 a j) w fun w=>
 K0 [a] w))))) /\
 (V (al 145) w fun a w=>
 RunIs (ld 24 h) w i/\RunIs (ld 23 d) w f/\RunIs (ld 22 b) w c/\((V (ms 49 o o) w fun k w=>
 RunIs (ld 24 h) w i/\RunIs (ld 23 d) w f/\RunIs (ld 22 b) w c/\(V (ms 49 q q) w fun n w=>
 RunIs (ld 24 h) w i/\RunIs (ld 23 d) w f/\RunIs (ld 22 b) w c/\(PV (bd 145 #[(0,(.slice none 0 0)),(1,k),(2,l),(3,n)]) fun j=>
 U (st 145 a j) w fun w=>
 K0 [a] w))) /\
 (V (ms 49 q q) w fun n w=>
 RunIs (ld 24 h) w i/\RunIs (ld 23 d) w f/\RunIs (ld 22 b) w c/\(V (ms 49 o o) w fun k w=>
 RunIs (ld 24 h) w i/\RunIs (ld 23 d) w f/\RunIs (ld 22 b) w c/\(PV (bd 145 #[(0,(.slice none 0 0)),(1,k),(2,l),(3,n)]) fun j=>
 U (st 145 a j) w fun w=>
 K0 [a] w))))))) /\
 (V (ms 49 q q) w fun n w=>
 RunIs (ld 24 h) w i/\RunIs (ld 23 d) w f/\RunIs (ld 22 b) w c/\((V (ms 49 o o) w fun k w=>
 RunIs (ld 24 h) w i/\RunIs (ld 23 d) w f/\RunIs (ld 22 b) w c/\((V (ms 49 p p) w fun l w=>
 RunIs (ld 24 h) w i/\RunIs (ld 23 d) w f/\RunIs (ld 22 b) w c/\(PV (bd 145 #[(0,(.slice none 0 0)),(1,k),(2,l),(3,n)]) fun j=>
 V (al 145) w fun a w=>
 RunIs (ld 24 h) w i/\RunIs (ld 23 d) w f/\RunIs (ld 22 b) w c/\(U (st 145 a j) w fun w=>
 K0 [a] w))) /\
 (V (al 145) w fun a w=>
 RunIs (ld 24 h) w i/\RunIs (ld 23 d) w f/\RunIs (ld 22 b) w c/\(V (ms 49 p p) w fun l w=>
 RunIs (ld 24 h) w i/\RunIs (ld 23 d) w f/\RunIs (ld 22 b) w c/\(PV (bd 145 #[(0,(.slice none 0 0)),(1,k),(2,l),(3,n)]) fun j=>
 U (st 145 a j) w fun w=>
 K0 [a] w))))) /\
 (V (ms 49 p p) w fun l w=>
 RunIs (ld 24 h) w i/\RunIs (ld 23 d) w f/\RunIs (ld 22 b) w c/\((V (ms 49 o o) w fun k w=>
 RunIs (ld 24 h) w i/\RunIs (ld 23 d) w f/\RunIs (ld 22 b) w c/\(PV (bd 145 #[(0,(.slice none 0 0)),(1,k),(2,l),(3,n)]) fun j=>
 V (al 145) w fun a w=>
 RunIs (ld 24 h) w i/\RunIs (ld 23 d) w f/\RunIs (ld 22 b) w c/\(U (st 145 a j) w fun w=>
 K0 [a] w))) /\
 (V (al 145) w fun a w=>
 RunIs (ld 24 h) w i/\RunIs (ld 23 d) w f/\RunIs (ld 22 b) w c/\(V (ms 49 o o) w fun k w=>
 RunIs (ld 24 h) w i/\RunIs (ld 23 d) w f/\RunIs (ld 22 b) w c/\(PV (bd 145 #[(0,(.slice none 0 0)),(1,k),(2,l),(3,n)]) fun j=>
 U (st 145 a j) w fun w=>
 K0 [a] w))))) /\
 (V (al 145) w fun a w=>
 RunIs (ld 24 h) w i/\RunIs (ld 23 d) w f/\RunIs (ld 22 b) w c/\((V (ms 49 o o) w fun k w=>
 RunIs (ld 24 h) w i/\RunIs (ld 23 d) w f/\RunIs (ld 22 b) w c/\(V (ms 49 p p) w fun l w=>
 RunIs (ld 24 h) w i/\RunIs (ld 23 d) w f/\RunIs (ld 22 b) w c/\(PV (bd 145 #[(0,(.slice none 0 0)),(1,k),(2,l),(3,n)]) fun j=>
 U (st 145 a j) w fun w=>
 K0 [a] w))) /\
 (V (ms 49 p p) w fun l w=>
 RunIs (ld 24 h) w i/\RunIs (ld 23 d) w f/\RunIs (ld 22 b) w c/\(V (ms 49 o o) w fun k w=>
 RunIs (ld 24 h) w i/\RunIs (ld 23 d) w f/\RunIs (ld 22 b) w c/\(PV (bd 145 #[(0,(.slice none 0 0)),(1,k),(2,l),(3,n)]) fun j=>
 U (st 145 a j) w fun w=>
 K0 [a] w))))))) /\
 (V (al 145) w fun a w=>
 RunIs (ld 24 h) w i/\RunIs (ld 23 d) w f/\RunIs (ld 22 b) w c/\((V (ms 49 o o) w fun k w=>
 RunIs (ld 24 h) w i/\RunIs (ld 23 d) w f/\RunIs (ld 22 b) w c/\((V (ms 49 p p) w fun l w=>
 RunIs (ld 24 h) w i/\RunIs (ld 23 d) w f/\RunIs (ld 22 b) w c/\(V (ms 49 q q) w fun n w=>
 RunIs (ld 24 h) w i/\RunIs (ld 23 d) w f/\RunIs (ld 22 b) w c/\(PV (bd 145 #[(0,(.slice none 0 0)),(1,k),(2,l),(3,n)]) fun j=>
 U (st 145 a j) w fun w=>
 K0 [a] w))) /\
 (V (ms 49 q q) w fun n w=>
 RunIs (ld 24 h) w i/\RunIs (ld 23 d) w f/\RunIs (ld 22 b) w c/\(V (ms 49 p p) w fun l w=>
 RunIs (ld 24 h) w i/\RunIs (ld 23 d) w f/\RunIs (ld 22 b) w c/\(PV (bd 145 #[(0,(.slice none 0 0)),(1,k),(2,l),(3,n)]) fun j=>
 U (st 145 a j) w fun w=>
 K0 [a] w))))) /\
 (V (ms 49 p p) w fun l w=>
 RunIs (ld 24 h) w i/\RunIs (ld 23 d) w f/\RunIs (ld 22 b) w c/\((V (ms 49 o o) w fun k w=>
 RunIs (ld 24 h) w i/\RunIs (ld 23 d) w f/\RunIs (ld 22 b) w c/\(V (ms 49 q q) w fun n w=>
 RunIs (ld 24 h) w i/\RunIs (ld 23 d) w f/\RunIs (ld 22 b) w c/\(PV (bd 145 #[(0,(.slice none 0 0)),(1,k),(2,l),(3,n)]) fun j=>
 U (st 145 a j) w fun w=>
 K0 [a] w))) /\
 (V (ms 49 q q) w fun n w=>
 RunIs (ld 24 h) w i/\RunIs (ld 23 d) w f/\RunIs (ld 22 b) w c/\(V (ms 49 o o) w fun k w=>
 RunIs (ld 24 h) w i/\RunIs (ld 23 d) w f/\RunIs (ld 22 b) w c/\(PV (bd 145 #[(0,(.slice none 0 0)),(1,k),(2,l),(3,n)]) fun j=>
 U (st 145 a j) w fun w=>
 K0 [a] w))))) /\
 (V (ms 49 q q) w fun n w=>
 RunIs (ld 24 h) w i/\RunIs (ld 23 d) w f/\RunIs (ld 22 b) w c/\((V (ms 49 o o) w fun k w=>
 RunIs (ld 24 h) w i/\RunIs (ld 23 d) w f/\RunIs (ld 22 b) w c/\(V (ms 49 p p) w fun l w=>
 RunIs (ld 24 h) w i/\RunIs (ld 23 d) w f/\RunIs (ld 22 b) w c/\(PV (bd 145 #[(0,(.slice none 0 0)),(1,k),(2,l),(3,n)]) fun j=>
 U (st 145 a j) w fun w=>
 K0 [a] w))) /\
 (V (ms 49 p p) w fun l w=>
 RunIs (ld 24 h) w i/\RunIs (ld 23 d) w f/\RunIs (ld 22 b) w c/\(V (ms 49 o o) w fun k w=>
 RunIs (ld 24 h) w i/\RunIs (ld 23 d) w f/\RunIs (ld 22 b) w c/\(PV (bd 145 #[(0,(.slice none 0 0)),(1,k),(2,l),(3,n)]) fun j=>
 U (st 145 a j) w fun w=>
 K0 [a] w))))))))
theorem en32 (h:vc32 R w t0):Calls Tryz.prog 32 #[t0] w (retK R):=enE ⟨by kernel_rfl,by kernel_rfl⟩ (by kernel_rfl:enterW Tryz.prog Tryz.f32 an32 [t0] w R = _) h
def an33:Ann:=(sD 3 (sD 6 (sD 6 (.seq (.reg (opn 2 (.join [20] [19,20] (.split 18 (opn 2 .done) (opn 2 .done)) (opn 1 (.join [27] (rgN 22 6) (.split 21 (opn 6 .done) (opn 6 .done)) (opn 1 (.join [34] (rgN 29 6) (.split 28 (opn 6 .done) (opn 6 .done)) (opn 1 (.join [41] (rgN 36 6) (.split 35 (opn 6 .done) (opn 6 .done)) (opn 1 (.join [48] (rgN 43 6) (.split 42 (opn 6 .done) (opn 6 .done)) (opn 1 .done)))))))))))) lf))))
def vc33 (R:Value->World->Prop) (w:World) (j k:Value):Prop:=
 V (bx 28 j) w fun a w=>
 V (bx 28 k) w fun b w=>
 V (fa 28 a 1) w fun l w=>
 V (ld 23 l) w fun n w=>
 V (fa 28 b 1) w fun o w=>
 V (ld 23 o) w fun p w=>
 CV (.func (.func 82) #[] #[]) #[n,p,(.func (.func 83) #[] #[])] w fun q w=>
 V (fa 28 a 2) w fun r w=>
 V (ld 24 r) w fun s w=>
 V (fa 28 b 2) w fun t w=>
 V (ld 24 t) w fun u w=>
 CV (.func (.func 85) #[] #[]) #[s,u,(.func (.func 86) #[] #[])] w fun v w=>
 ∀ K0:LP,(∀ c,∀ w,(∀ g:Env,
 ∀ K0:LP,(∀ d,∀ w,(∀ g:Env,
 ∀ K0:LP,(∀ f,∀ w,(∀ g:Env,
 ∀ K0:LP,(∀ h,∀ w,(∀ g:Env,
 ∀ K0:LP,(∀ i,∀ w,(∀ g:Env,
 R i w)->K0 [i] w) ->
 CondW h
 (V (fa 28 a 5) w fun x w=>
 V (ld 26 x) w fun y w=>
 V (fa 28 b 5) w fun z w=>
 V (ld 26 z) w fun a0 w=>
 CV (.func (.func 90) #[] #[]) #[y,a0] w fun b0 w=>
 K0 [b0] w)
 (K0 [(.bool false)] w))->K0 [h] w) ->
 CondW f
 (V (fa 28 a 4) w fun c0 w=>
 V (ld 22 c0) w fun d0 w=>
 V (fa 28 b 4) w fun f0 w=>
 V (ld 22 f0) w fun h0 w=>
 CV (.func (.func 88) #[] #[]) #[d0,h0] w fun i0 w=>
 K0 [i0] w)
 (K0 [(.bool false)] w))->K0 [f] w) ->
 CondW d
 (V (fa 28 a 3) w fun j0 w=>
 V (ld 25 j0) w fun k0 w=>
 V (fa 28 b 3) w fun l0 w=>
 V (ld 25 l0) w fun n0 w=>
 CV (.func (.func 89) #[] #[]) #[k0,n0] w fun o0 w=>
 K0 [o0] w)
 (K0 [(.bool false)] w))->K0 [d] w) ->
 CondW c
 (V (fa 28 a 0) w fun p0 w=>
 V (ld 22 p0) w fun q0 w=>
 V (fa 28 b 0) w fun r0 w=>
 V (ld 22 r0) w fun s0 w=>
 CV (.func (.func 88) #[] #[]) #[q0,s0] w fun u0 w=>
 K0 [u0] w)
 (K0 [(.bool false)] w))->K0 [c] w) ->
 CondW q
 (K0 [v] w)
 (K0 [(.bool false)] w)
theorem en33 (h:vc33 R w t0 t1):Calls Tryz.prog 33 #[t0,t1] w (retK R):=enE ⟨by kernel_rfl,by kernel_rfl⟩ (by kernel_rfl:enterW Tryz.prog Tryz.f33 an33 [t0,t1] w R = _) h
def an34:Ann:=(sD 1 (.seq (.reg (opn 4 (.join [14] [11,12,13,14] (.split 10 (opn 4 .done) (opn 4 .done)) (opn 1 (.join [20] [16,17,18,19,20] (.split 15 (opn 5 .done) (opn 5 .done)) (opn 1 .done)))))) lf))
def vc34 (R:Value->World->Prop) (w:World) (a f b:Value):Prop:=
 V (bi .gtr 3 a f) w fun h w=>
 ∀ K0:LP,(∀ c,∀ w,(∀ g:Env,
 ∀ K0:LP,(∀ d,∀ w,(∀ g:Env,
 R d w)->K0 [d] w) ->
 CondW c
 (K0 [(.bool true)] w)
 (V (bi .add 3 b (.int .i64 20)) w fun i w=>
 V (bi .gtr 3 a i) w fun j w=>
 K0 [j] w))->K0 [c] w) ->
 CondW h
 (V (bi .leq 3 a b) w fun k w=>
 K0 [k] w)
 (K0 [(.bool false)] w)
theorem en34 (h:vc34 R w t0 t1 t2):Calls Tryz.prog 34 #[t0,t1,t2] w (retK R):=enE ⟨by kernel_rfl,by kernel_rfl⟩ (by kernel_rfl:enterW Tryz.prog Tryz.f34 an34 [t0,t1,t2] w R = _) h
def an35:Ann:=(sD 3 (.seq (sD 7 (cD 2 (sD 3 lf) lf)) (sD 5 (sD 6 (sD 5 (sD 5 (sD 6 (sD 6 (sD 6 (.seq (cD 6 (sD 2 lf) lf) (sD 6 lf)))))))))))
def vc35 (R:Value->World->Prop) (w:World) (f:Value):Prop:=
 V (bx 28 f) w fun b w=>
 V (ld 28 b) w fun h w=>
 CV (.func (.func 15) #[] #[]) #[h] w fun c w=>
 V (ex c 0) w fun d w=>
 V (ex c 1) w fun z0 w=>
 V (ec .neq 31 12 d (.int .i64 0)) w fun i w=>
 CondW i
 (R (.tuple #[(.slice none 0 0),d]) w)
 (V (bs 55 1 #[(0,(.int .u8 81))]) w fun j w=>
 V (bd 156 #[(0,j)]) w fun k w=>
 V (bx 156 k) w fun l w=>
 V (al 154) w fun a w=>
 U (st 154 a l) w fun w=>
 V (ld 154 a) w fun n w=>
 V (fa 28 b 0) w fun o w=>
 V (ld 22 o) w fun p w=>
 V (ld 154 a) w fun q w=>
 CV (.func (.func 91) #[] #[]) #[n,p,(.func (.func 92) #[q] #[])] w fun a1 w=>
 V (ld 154 a) w fun r w=>
 V (fa 28 b 1) w fun s w=>
 V (ld 23 s) w fun t w=>
 CV (.func (.func 93) #[] #[]) #[r,t,(.func (.func 94) #[] #[a])] w fun b1 w=>
 V (ld 154 a) w fun u w=>
 V (fa 28 b 2) w fun v w=>
 V (ld 24 v) w fun x w=>
 CV (.func (.func 97) #[] #[]) #[u,x,(.func (.func 98) #[] #[a])] w fun c1 w=>
 V (ld 154 a) w fun y w=>
 V (fa 28 b 3) w fun z w=>
 V (ld 25 z) w fun a0 w=>
 V (ld 154 a) w fun b0 w=>
 CV (.func (.func 101) #[] #[]) #[y,a0,(.func (.func 102) #[b0] #[])] w fun d1 w=>
 V (ld 154 a) w fun c0 w=>
 V (fa 28 b 4) w fun d0 w=>
 V (ld 22 d0) w fun f0 w=>
 V (ld 154 a) w fun h0 w=>
 CV (.func (.func 91) #[] #[]) #[c0,f0,(.func (.func 92) #[h0] #[])] w fun f1 w=>
 V (ld 154 a) w fun i0 w=>
 V (fa 28 b 5) w fun j0 w=>
 V (ld 26 j0) w fun k0 w=>
 V (ld 154 a) w fun l0 w=>
 CV (.func (.func 103) #[] #[]) #[i0,k0,(.func (.func 104) #[l0] #[])] w fun h1 w=>
 V (ld 154 a) w fun n0 w=>
 NilW n0 fun o0=>V (fa 156 o0 0) w fun p0 w=>
 V (ld 55 p0) w fun q0 w=>
 V (ln 55 q0) w fun r0 w=>
 V (bi .gtr 3 r0 (.int .i64 400000)) w fun s0 w=>
 CondW s0
 (R (.tuple #[(.slice none 0 0),(.int .i64 3)]) w)
 (V (ld 154 a) w fun u0 w=>
 NilW u0 fun v0=>V (fa 156 v0 0) w fun x0 w=>
 V (ld 55 x0) w fun y0 w=>
 R (.tuple #[y0,(.int .i64 0)]) w))
theorem en35 (h:vc35 R w t0):Calls Tryz.prog 35 #[t0] w (retK R):=enE ⟨by kernel_rfl,by kernel_rfl⟩ (by kernel_rfl:enterW Tryz.prog Tryz.f35 an35 [t0] w R = _) h
def an40:Ann:=(sD 3 (.seq (sD 7 (cD 2 (sD 3 lf) lf)) (sD 1 (sD 2 (.seq (sD 4 (.one (.loop [32] ([9] ++ rgN 32 11) (sD 1 (.seq (.cond lf lf) (.seq (.one (sD 3 (oD 6))) (oD 2))))))) (.seq (sD 4 (.one (.loop [46] ([11] ++ rgN 46 9) (sD 1 (.seq (.cond lf lf) (.seq (.one (sD 3 (oD 4))) (oD 2))))))) (.seq (sD 4 (.one (.loop [58] ([13] ++ rgN 58 9) (sD 1 (.seq (.cond lf lf) (.seq (.one (sD 3 (oD 4))) (oD 2))))))) (.seq (sD 4 (.one (.loop [70] ([15] ++ rgN 70 9) (sD 1 (.seq (.cond lf lf) (.seq (.one (sD 4 (oD 4))) (oD 2))))))) (.seq (sD 4 (.one (.loop [82] ([17] ++ rgN 82 10) (sD 1 (.seq (.cond lf lf) (.seq (.one (sD 3 (oD 5))) (oD 2))))))) (.seq (sD 4 (.one (.loop [95] ([19] ++ rgN 95 9) (sD 1 (.seq (.cond lf lf) (.seq (.one (sD 4 (oD 4))) (oD 2))))))) (sD 3 lf)))))))))))
def vc40 (R:Value->World->Prop) (w:World) (c0:Value):Prop:=
 V (bx 28 c0) w fun a w=>
 V (ld 28 a) w fun d0 w=>
 CV (.func (.func 15) #[] #[]) #[d0] w fun k w=>
 V (ex k 0) w fun l w=>
 V (ex k 1) w fun h2 w=>
 V (ec .neq 31 25 l (.int .i64 0)) w fun f0 w=>
 CondW f0
 (R (.tuple #[(.string ⟨#[]⟩),l]) w)
 (V (al 199) w fun b w=>
 V (fa 28 a 0) w fun h0 w=>
 V (ld 22 h0) w fun n w=>
 V (ln 22 n) w fun i0 w=>
 Lp1 (.int .i64 0) w fun I0 M0 c w m0=>
 V (bi .lss 3 c i0) w fun j0 w=>
 CondW j0
 (V (ia 22 n c) w fun k0 w=>
 V (ld 9 k0) w fun l0 w=>
 CV (.func (.func 127) #[] #[]) #[l0] w fun n0 w=>
 V (bs 22 2 #[(0,(.string ⟨#[116,101,120,116]⟩)),(1,n0)]) w fun o0 w=>
 CV (.func (.func 126) #[] #[]) #[o0] w fun p0 w=>
 CV (.func (.func 124) #[] #[b]) #[p0] w fun i2 w=>
 V (bi .add 3 c (.int .i64 1)) w fun o w=>
 I0 [o] w/\M0 [o] w < m0)
 (V (fa 28 a 1) w fun q0 w=>
 V (ld 23 q0) w fun p w=>
 V (ln 23 p) w fun r0 w=>
 Lp1 (.int .i64 0) w fun I1 M1 d w m1=>
 V (bi .lss 3 d r0) w fun s0 w=>
 CondW s0
 (V (ia 23 p d) w fun u0 w=>
 V (ld 93 u0) w fun v0 w=>
 CV (.func (.func 128) #[] #[]) #[v0] w fun x0 w=>
 CV (.func (.func 124) #[] #[b]) #[x0] w fun j2 w=>
 V (bi .add 3 d (.int .i64 1)) w fun q w=>
 I1 [q] w/\M1 [q] w < m1)
 (V (fa 28 a 2) w fun y0 w=>
 V (ld 24 y0) w fun r w=>
 V (ln 24 r) w fun z0 w=>
 Lp1 (.int .i64 0) w fun I2 M2 f w m2=>
 V (bi .lss 3 f z0) w fun a1 w=>
 CondW a1
 (V (ia 24 r f) w fun b1 w=>
 V (ld 96 b1) w fun c1 w=>
 CV (.func (.func 129) #[] #[]) #[c1] w fun d1 w=>
 CV (.func (.func 124) #[] #[b]) #[d1] w fun k2 w=>
 V (bi .add 3 f (.int .i64 1)) w fun s w=>
 I2 [s] w/\M2 [s] w < m2)
 (V (fa 28 a 3) w fun f1 w=>
 V (ld 25 f1) w fun t w=>
 V (ln 25 t) w fun h1 w=>
 Lp1 (.int .i64 0) w fun I3 M3 h w m3=>
 V (bi .lss 3 h h1) w fun i1 w=>
 CondW i1
 (V (ia 25 t h) w fun j1 w=>
 V (ld 54 j1) w fun k1 w=>
 V (al 54) w fun u w=>
 U (st 54 u k1) w fun w=>
 V (ld 54 u) w fun l1 w=>
 CV (.func (.func 130) #[] #[]) #[l1] w fun n1 w=>
 CV (.func (.func 124) #[] #[b]) #[n1] w fun l2 w=>
 V (bi .add 3 h (.int .i64 1)) w fun v w=>
 I3 [v] w/\M3 [v] w < m3)
 (V (fa 28 a 4) w fun o1 w=>
 V (ld 22 o1) w fun x w=>
 V (ln 22 x) w fun p1 w=>
 Lp1 (.int .i64 0) w fun I4 M4 i w m4=>
 V (bi .lss 3 i p1) w fun q1 w=>
 CondW q1
 (V (ia 22 x i) w fun r1 w=>
 V (ld 9 r1) w fun s1 w=>
 V (bs 22 2 #[(0,(.string ⟨#[110,97,109,101]⟩)),(1,s1)]) w fun u1 w=>
 CV (.func (.func 126) #[] #[]) #[u1] w fun v1 w=>
 CV (.func (.func 124) #[] #[b]) #[v1] w fun n2 w=>
 V (bi .add 3 i (.int .i64 1)) w fun y w=>
 I4 [y] w/\M4 [y] w < m4)
 (V (fa 28 a 5) w fun x1 w=>
 V (ld 26 x1) w fun z w=>
 V (ln 26 z) w fun y1 w=>
 Lp1 (.int .i64 0) w fun I5 M5 j w m5=>
 V (bi .lss 3 j y1) w fun z1 w=>
 CondW z1
 (V (ia 26 z j) w fun a2 w=>
 V (ld 38 a2) w fun b2 w=>
 V (al 38) w fun a0 w=>
 U (st 38 a0 b2) w fun w=>
 V (ld 38 a0) w fun c2 w=>
 CV (.func (.func 131) #[] #[]) #[c2] w fun d2 w=>
 CV (.func (.func 124) #[] #[b]) #[d2] w fun o2 w=>
 V (bi .add 3 j (.int .i64 1)) w fun b0 w=>
 I5 [b0] w/\M5 [b0] w < m5)
 (CV (.func (.func 132) #[] #[]) #[b] w fun f2 w=>
 R (.tuple #[f2,(.int .i64 0)]) w)))))))
theorem en40 (h:vc40 R w t0):Calls Tryz.prog 40 #[t0] w (retK R):=enE ⟨by kernel_rfl,by kernel_rfl⟩ (by kernel_rfl:enterW Tryz.prog Tryz.f40 an40 [t0] w R = _) h
def an44:Ann:=(sD 1 (sD 10 lf))
def vc44 (R:Value->World->Prop) (w:World):Prop:=
 V (al 28) w fun a w=>
 V (bs 22 3 #[(0,(.string ⟨#[83,65,89,32,49]⟩)),(1,(.string ⟨#[49]⟩)),(2,(.string ⟨#[65]⟩))]) w fun b w=>
 CV (.func (.func 45) #[] #[]) #[(.int .i64 1),(.int .i64 1),(.int .i64 0),(.int .i64 0)] w fun c w=>
 CV (.func (.func 45) #[] #[]) #[(.int .i64 3),(.int .i64 1),(.int .i64 0),(.int .i64 0)] w fun d w=>
 CV (.func (.func 45) #[] #[]) #[(.int .i64 13),(.int .i64 0),(.int .i64 0),(.int .i64 0)] w fun f w=>
 CV (.func (.func 45) #[] #[]) #[(.int .i64 39),(.int .i64 0),(.int .i64 0),(.int .i64 0)] w fun h w=>
 CV (.func (.func 45) #[] #[]) #[(.int .i64 2),(.int .i64 0),(.int .i64 0),(.int .i64 0)] w fun i w=>
 CV (.func (.func 45) #[] #[]) #[(.int .i64 46),(.int .i64 0),(.int .i64 0),(.int .i64 0)] w fun j w=>
 V (bs 26 6 #[(0,c),(1,d),(2,f),(3,h),(4,i),(5,j)]) w fun k w=>
 V (bd 28 #[(0,b),(5,k)]) w fun l w=>
 U (st 28 a l) w fun w=>
 CW 28 a w fun n=>R n w
theorem en44 (h:vc44 R w ):Calls Tryz.prog 44 #[] w (retK R):=enE ⟨by kernel_rfl,by kernel_rfl⟩ (by kernel_rfl:enterW Tryz.prog Tryz.f44 an44 [] w R = _) h
def an45:Ann:=(sD 1 (sD 6 lf))
def vc45 (R:Value->World->Prop) (w:World) (b c d f:Value):Prop:=
 V (al 38) w fun a w=>
 V (bd 38 #[(0,b),(1,c),(2,d),(3,f)]) w fun h w=>
 U (st 38 a h) w fun w=>
 CW 38 a w fun i=>R i w
theorem en45 (h:vc45 R w t0 t1 t2 t3):Calls Tryz.prog 45 #[t0,t1,t2,t3] w (retK R):=enE ⟨by kernel_rfl,by kernel_rfl⟩ (by kernel_rfl:enterW Tryz.prog Tryz.f45 an45 [t0,t1,t2,t3] w R = _) h
def an46:Ann:=(sD 2 (sD 2 (sD 27 (.seq (sD 2 (.one (.loop [34] ([2,6] ++ rgN 34 9) (sD 1 (.seq (.cond lf lf) (.seq (.one (sD 3 (cD 5 (sD 1 lf) lf))) (oD 2))))))) (sD 5 (.seq (.reg (opn 2 (.join [53] [49,50,51,52,53] (.split 48 (opn 5 .done) (opn 5 .done)) (opn 1 (.join [58] [55,56,57,58] (.split 54 (opn 4 .done) (opn 4 .done)) (opn 1 (.join [64] [60,61,62,63,64] (.split 59 (opn 5 .done) (opn 5 .done)) (opn 1 .done)))))))) lf))))))
def vc46 (R:Value->World->Prop) (w:World) (l:Value):Prop:=
 V (bx 28 l) w fun a w=>
 V (al 215) w fun b w=>
 U (st 215 b (.func (.func 137) #[] #[])) w fun w=>
 V (fa 28 a 0) w fun n w=>
 V (ld 22 n) w fun o w=>
 V (ln 22 o) w fun p w=>
 V (bd 219 #[(0,p),(1,(.int .i64 3000))]) w fun q w=>
 V (fa 28 a 1) w fun r w=>
 V (ld 23 r) w fun s w=>
 V (ln 23 s) w fun t w=>
 V (bd 219 #[(0,t),(1,(.int .i64 3000))]) w fun u w=>
 V (fa 28 a 2) w fun v w=>
 V (ld 24 v) w fun x w=>
 V (ln 24 x) w fun y w=>
 V (bd 219 #[(0,y),(1,(.int .i64 3000))]) w fun z w=>
 V (fa 28 a 3) w fun a0 w=>
 V (ld 25 a0) w fun b0 w=>
 V (ln 25 b0) w fun c0 w=>
 V (bd 219 #[(0,c0),(1,(.int .i64 3000))]) w fun d0 w=>
 V (fa 28 a 4) w fun f0 w=>
 V (ld 22 f0) w fun h0 w=>
 V (ln 22 h0) w fun i0 w=>
 V (bd 219 #[(0,i0),(1,(.int .i64 100))]) w fun j0 w=>
 V (fa 28 a 5) w fun k0 w=>
 V (ld 26 k0) w fun l0 w=>
 V (ln 26 l0) w fun n0 w=>
 V (bd 219 #[(0,n0),(1,(.int .i64 12000))]) w fun o0 w=>
 V (bd 220 #[(0,q),(1,u),(2,z),(3,d0),(4,j0),(5,o0)]) w fun p0 w=>
 V (al 220) w fun f w=>
 U (st 220 f p0) w fun w=>
 V (ld 220 f) w fun q0 w=>
 Lp1 (.int .i64 0) w fun I0 M0 c w m0=>
 V (bi .lss 3 c (.int .i64 6)) w fun r0 w=>
 CondW r0
 (V (ix 220 q0 c) w fun s0 w=>
 V (al 219) w fun d w=>
 U (st 219 d s0) w fun w=>
 V (ia 219 d (.int .i64 0)) w fun u0 w=>
 V (ld 3 u0) w fun v0 w=>
 V (ia 219 d (.int .i64 1)) w fun x0 w=>
 V (ld 3 x0) w fun y0 w=>
 V (bi .gtr 3 v0 y0) w fun z0 w=>
 CondW z0
 (R (.bool false) w)
 (V (bi .add 3 c (.int .i64 1)) w fun h w=>
 I0 [h] w/\M0 [h] w < m0))
 (V (fa 28 a 1) w fun a1 w=>
 V (ld 23 a1) w fun b1 w=>
 CV (.func (.func 138) #[] #[]) #[b1,(.func (.func 139) #[] #[b])] w fun c1 w=>
 ∀ K0:LP,(∀ i,∀ w,(∀ g:Env,
 ∀ K0:LP,(∀ j,∀ w,(∀ g:Env,
 ∀ K0:LP,(∀ k,∀ w,(∀ g:Env,
 R k w)->K0 [k] w) ->
 CondW j
 (V (fa 28 a 3) w fun d1 w=>
 V (ld 25 d1) w fun f1 w=>
 CV (.func (.func 145) #[] #[]) #[f1,(.func (.func 146) #[] #[b])] w fun h1 w=>
 K0 [h1] w)
 (K0 [(.bool false)] w))->K0 [j] w) ->
 CondW i
 (V (fa 28 a 2) w fun i1 w=>
 V (ld 24 i1) w fun j1 w=>
 CV (.func (.func 143) #[] #[]) #[j1,(.func (.func 144) #[] #[])] w fun k1 w=>
 K0 [k1] w)
 (K0 [(.bool false)] w))->K0 [i] w) ->
 CondW c1
 (V (fa 28 a 0) w fun l1 w=>
 V (ld 22 l1) w fun n1 w=>
 V (ld 215 b) w fun o1 w=>
 CV (.func (.func 142) #[] #[]) #[n1,o1] w fun p1 w=>
 K0 [p1] w)
 (K0 [(.bool false)] w))
theorem en46 (h:vc46 R w t0):Calls Tryz.prog 46 #[t0] w (retK R):=enE ⟨by kernel_rfl,by kernel_rfl⟩ (by kernel_rfl:enterW Tryz.prog Tryz.f46 an46 [t0] w R = _) h
def an47:Ann:=(sD 2 (.seq (.seq (.reg (opn 5 (.join [17] [13,14,15,16,17] (.split 12 (opn 5 .done) (opn 5 .done)) (opn 1 (.join [23] [19,20,21,22,23] (.split 18 (opn 5 .done) (opn 5 .done)) .done))))) (.cond (sD 1 lf) lf)) (sD 4 (sD 2 (sD 5 (sD 3 (sD 5 (.seq (.reg (opn 2 (.join [39] [38,39] (.split 37 (opn 2 .done) (opn 2 .done)) (opn 1 (.join [42] [41,42] (.split 40 (opn 2 .done) (opn 2 .done)) (opn 1 .done)))))) lf))))))))
def vc47 (R:Value->World->Prop) (w:World) (j:Value):Prop:=
 V (bx 28 j) w fun a w=>
 V (fa 28 a 5) w fun k w=>
 V (ld 26 k) w fun l w=>
 V (ln 26 l) w fun n w=>
 V (ec .eql 3 10 n (.int .i64 0)) w fun o w=>
 ∀ K0:LP,(∀ b,∀ w,(∀ g:Env,
 ∀ K0:LP,(∀ c,∀ w,(∀ g:Env,
 CondW c
 (R (.bool false) w)
 (V (fa 28 a 2) w fun p w=>
 V (ld 24 p) w fun q w=>
 CV (.func (.func 143) #[] #[]) #[q,(.func (.func 150) #[] #[])] w fun r w=>
 V (al 3) w fun d w=>
 U (st 3 d (.int .i64 0)) w fun w=>
 V (fa 28 a 3) w fun s w=>
 V (ld 25 s) w fun t w=>
 CV (.func (.func 145) #[] #[]) #[t,(.func (.func 154) #[] #[d,a])] w fun u w=>
 V (mm 231 none) w fun v w=>
 V (al 231) w fun f w=>
 U (st 231 f v) w fun w=>
 V (fa 28 a 4) w fun x w=>
 V (ld 22 x) w fun y w=>
 CV (.func (.func 142) #[] #[]) #[y,(.func (.func 155) #[] #[f])] w fun z w=>
 ∀ K0:LP,(∀ h,∀ w,(∀ g:Env,
 ∀ K0:LP,(∀ i,∀ w,(∀ g:Env,
 R i w)->K0 [i] w) ->
 CondW h
 (K0 [z] w)
 (K0 [(.bool false)] w))->K0 [h] w) ->
 CondW r
 (K0 [u] w)
 (K0 [(.bool false)] w)))->K0 [c] w) ->
 CondW b
 (K0 [(.bool true)] w)
 (V (fa 28 a 1) w fun a0 w=>
 V (ld 23 a0) w fun b0 w=>
 CV (.func (.func 138) #[] #[]) #[b0,(.func (.func 148) #[] #[])] w fun c0 w=>
 V (un .not c0) w fun d0 w=>
 K0 [d0] w))->K0 [b] w) ->
 CondW o
 (K0 [(.bool true)] w)
 (V (fa 28 a 0) w fun f0 w=>
 V (ld 22 f0) w fun h0 w=>
 CV (.func (.func 142) #[] #[]) #[h0,(.func (.func 147) #[] #[])] w fun i0 w=>
 V (un .not i0) w fun j0 w=>
 K0 [j0] w)
theorem en47 (h:vc47 R w t0):Calls Tryz.prog 47 #[t0] w (retK R):=enE ⟨by kernel_rfl,by kernel_rfl⟩ (by kernel_rfl:enterW Tryz.prog Tryz.f47 an47 [t0] w R = _) h
def an48:Ann:=(sD 3 (sD 8 (.seq (cD 2 (sD 1 lf) lf) (.seq (sD 8 (.one (.loop [23] ([4,7,8] ++ rgN 23 13) (sD 1 (.seq (.cond lf lf) (.seq (.one (sD 4 (.seq (.draw (.hold 0 (tkN 1 3 (.hold 4 (.take 5 (e1 6 (.take 7 .done))))))) (.cond (sD 1 lf) lf)))) (oD 2))))))) (sD 4 lf)))))
def vc48 (R:Value->World->Prop) (w:World) (i j:Value):Prop:=
 V (bx 28 i) w fun c w=>
 V (bx 38 j) w fun a w=>
 V (ld 38 a) w fun k w=>
 CV (.func (.func 49) #[] #[]) #[k] w fun d w=>
 V (ex d 0) w fun l w=>
 V (ex d 1) w fun n w=>
 V (al 102) w fun f w=>
 U (st 102 f l) w fun w=>
 V (un .not n) w fun o w=>
 CondW o
 (R (.bool false) w)
 (V (fa 38 a 1) w fun p w=>
 V (ld 3 p) w fun q w=>
 V (fa 38 a 2) w fun r w=>
 V (ld 3 r) w fun s w=>
 V (fa 38 a 3) w fun t w=>
 V (ld 3 t) w fun u w=>
 V (bd 100 #[(0,q),(1,s),(2,u)]) w fun v w=>
 Lp1 (.int .i64 0) w fun I0 M0 b w m0=>
 V (bi .lss 3 b (.int .i64 3)) w fun x w=>
 CondW x
 (V (ix 100 v b) w fun y w=>
 Dr w fun w=>
 HV (ld 28 c) w fun z=>
 PV (fa 102 f 1) fun a0=>
 PV (ia 100 a0 b) fun b0=>
 HV (ld 3 b0) w fun c0=>
 CV (.func (.func 157) #[] #[]) #[z,c0,y] w fun d0 w=>
 PV (un .not d0) fun f0=>
 CondW f0
 (R (.bool false) w)
 (V (bi .add 3 b (.int .i64 1)) w fun h w=>
 I0 [h] w/\M0 [h] w < m0))
 (V (ld 28 c) w fun h0 w=>
 V (ld 38 a) w fun i0 w=>
 CV (.func (.func 158) #[] #[]) #[h0,i0] w fun j0 w=>
 R j0 w))
theorem en48 (h:vc48 R w t0 t1):Calls Tryz.prog 48 #[t0,t1] w (retK R):=enE ⟨by kernel_rfl,by kernel_rfl⟩ (by kernel_rfl:enterW Tryz.prog Tryz.f48 an48 [t0,t1] w R = _) h
def an49:Ann:=(sD 3 (.seq (.seq (.reg (opn 4 (.join [11] [8,9,10,11] (.split 7 (opn 4 .done) (opn 4 .done)) .done))) (.cond (sD 3 lf) lf)) (.seq (.draw (.take 1 (.hold 2 (e1 0 (.take 3 (e1 4 (.take 5 .done))))))) lf)))
def vc49 (R:Value->World->Prop) (w:World) (i:Value):Prop:=
 V (bx 38 i) w fun b w=>
 V (al 102) w fun a w=>
 V (fa 38 b 0) w fun j w=>
 V (ld 3 j) w fun k w=>
 V (bi .lss 3 k (.int .i64 1)) w fun l w=>
 ∀ K0:LP,(∀ d,∀ w,(∀ g:Env,
 CondW d
 (V (bd 102 #[]) w fun n w=>
 U (st 102 a n) w fun w=>
 CW 102 a w fun c=>R (.tuple #[c,(.bool false)]) w)
 (Dr w fun w=>
 PV (fa 38 b 0) fun f=>
 HV (ld 3 f) w fun h=>
 CV (.func (.func 159) #[] #[]) #[] w fun o w=>
 RunIs (ld 3 f) w h/\(PV (ix 234 o h) fun p=>
 U (st 102 a p) w fun w=>
 CW 102 a w fun c=>R (.tuple #[c,(.bool true)]) w)))->K0 [d] w) ->
 CondW l
 (K0 [(.bool true)] w)
 (V (fa 38 b 0) w fun q w=>
 V (ld 3 q) w fun r w=>
 V (bi .gtr 3 r (.int .i64 46)) w fun s w=>
 K0 [s] w)
theorem en49 (h:vc49 R w t0):Calls Tryz.prog 49 #[t0] w (retK R):=enE ⟨by kernel_rfl,by kernel_rfl⟩ (by kernel_rfl:enterW Tryz.prog Tryz.f49 an49 [t0] w R = _) h
def an50:Ann:=(sD 4 (sD 3 (sD 1 (sD 3 (.seq (sD 4 (.one (.loop [28] ([9] ++ rgN 28 10) (sD 1 (.seq (.cond lf lf) (.seq (.one (sD 3 (cD 5 (sD 3 lf) lf))) (oD 2))))))) (.seq (.one (.loop [141] (rgN 10 6 ++ rgN 38 53 ++ [141]) (.seq (cD 3 lf lf) (.one (sD 7 (sD 6 (.seqJ [11,12] ([11,12] ++ rgN 52 8) (.draw (.take 0 (.hold 1 (.take 2 (.take 3 (.hold 4 (.hold 5 (.take 6 (.hold 7 (.alts (.eff 8 (e1 9 (e1 10 (e1 11 .done))) (.eff 9 (e1 8 (e1 10 (e1 11 .done))) .nil)))))))))))) (sD 9 (.seq (.seq (.reg (opn 5 (.join [75] [71,72,73,74,75] (.split 70 (opn 5 .done) (opn 5 .done)) (opn 1 (.join [87] (rgN 77 11) (.split 76 (opn 11 .done) (opn 4 (.join [86] (rgN 81 6) (.split 80 (opn 6 .done) (opn 6 .done)) (opn 1 .done)))) .done))))) (.cond (sD 3 lf) lf)) (sD 3 (.one (.rf [] (sD 1 (oD 1)) (.one (.seq (.draw (.hold 0 (.take 1 (.hold 2 (.hold 3 (.take 4 (e1 5 (e1 6 (.take 7 .done))))))))) (.cond (sD 3 lf) lf))))))))))))))) (.seqJ [18,19] ([18,19] ++ rgN 101 8) (.draw (.take 0 (.hold 1 (.take 2 (.take 4 (.hold 5 (.take 6 (.alts (.eff 3 (.take 8 (e1 7 (.take 9 .done))) (.eff 7 (e1 3 (.take 8 (.take 9 .done))) .nil)))))))))) (.seq (sD 4 (.one (.loop [112] ([20,21,22] ++ rgN 112 27) (sD 1 (.seq (.cond lf lf) (.seqJ [] ([20,21,22] ++ rgN 114 24) (.one (sD 2 (sD 8 (sD 9 (cD 1 (.draw (tkN 0 5 (.hold 5 (.take 6 (.hold 7 (.take 8 (e1 9 (.take 10 (e1 11 .done))))))))) lf))))) (oD 2))))))) (sD 5 lf)))))))))
def vc50 (R:Value->World->Prop) (w:World) (h1:Value):Prop:=
 V (bx 28 h1) w fun r w=>
 V (al 45) w fun h w=>
 V (al 45) w fun i w=>
 V (al 4) w fun j w=>
 V (mm 236 none) w fun i1 w=>
 V (al 236) w fun d w=>
 U (st 236 d i1) w fun w=>
 V (al 45) w fun l w=>
 V (al 240) w fun c0 w=>
 U (st 240 c0 (.func (.func 160) #[] #[d,l])) w fun w=>
 V (ld 28 r) w fun j1 w=>
 CV (.func (.func 73) #[] #[]) #[j1] w fun q0 w=>
 V (ln 45 q0) w fun k1 w=>
 Lp1 (.int .i64 0) w fun I0 M0 j0 w m0=>
 V (bi .lss 3 j0 k1) w fun l1 w=>
 CondW l1
 (V (ia 45 q0 j0) w fun n1 w=>
 V (ld 3 n1) w fun o1 w=>
 V (ld 240 c0) w fun p1 w=>
 V (bd 238 #[]) w fun q1 w=>
 CV p1 #[o1,q1] w fun r1 w=>
 V (un .not r1) w fun s1 w=>
 CondW s1
 (U (st 45 h (.slice none 0 0)) w fun w=>
 U (st 45 i (.slice none 0 0)) w fun w=>
 U (st 4 j (.bool false)) w fun w=>
 CW 45 h w fun n=>CW 45 i w fun o=>CW 4 j w fun p=>R (.tuple #[n,o,p]) w)
 (V (bi .add 3 j0 (.int .i64 1)) w fun s0 w=>
 I0 [s0] w/\M0 [s0] w < m0))
 (Lp1 undef w fun I1 M1 t w m1=>
 V (ld 45 l) w fun u1 w=>
 V (ln 45 u1) w fun v1 w=>
 V (bi .gtr 3 v1 (.int .i64 0)) w fun x1 w=>
 CondW x1
 (V (ld 45 l) w fun y1 w=>
 V (ld 45 l) w fun z1 w=>
 V (ln 45 z1) w fun a2 w=>
 V (bi .sub 3 a2 (.int .i64 1)) w fun b2 w=>
 V (ia 45 y1 b2) w fun c2 w=>
 V (ld 3 c2) w fun f w=>
 V (ld 45 l) w fun d2 w=>
 V (ld 45 l) w fun f2 w=>
 V (ln 45 f2) w fun h2 w=>
 V (bi .sub 3 h2 (.int .i64 1)) w fun i2 w=>
 V (sl 45 d2 none (some i2) none) w fun j2 w=>
 U (st 45 l j2) w fun w=>
 ∀ K0:LP,(∀ b,∀ c,∀ w,(∀ g:Env,
 V (ld 38 b) w fun k2 w=>
 CV (.func (.func 17) #[] #[]) #[k2] w fun k0 w=>
 V (ex k0 0) w fun l2 w=>
 V (ex k0 1) w fun d4 w=>
 V (ex k0 2) w fun f4 w=>
 V (ld 38 b) w fun n2 w=>
 V (ld 238 c) w fun o2 w=>
 CV (.func (.func 161) #[] #[]) #[n2,o2] w fun p2 w=>
 V (un .not p2) w fun q2 w=>
 ∀ K0:LP,(∀ u0,∀ w,(∀ g:Env,
 ∀ K0:LP,(∀ v0,∀ w,(∀ g:Env,
 CondW v0
 (U (st 45 h (.slice none 0 0)) w fun w=>
 U (st 45 i (.slice none 0 0)) w fun w=>
 U (st 4 j (.bool false)) w fun w=>
 TakeW (marks t) w fun w=>
 CW 45 h w fun n=>CW 45 i w fun o=>CW 4 j w fun p=>R (.tuple #[n,o,p]) w)
 (V (ld 28 r) w fun r2 w=>
 CV (.func (.func 74) #[] #[]) #[r2,f] w fun s2 w=>
 ∀ (lp0:Loop) (r0 l0:Nat) (w1:World),NewRF w w1 r0 l0 lp0 ->
 (∀ (w:World) (Kl0:Value->World->Prop),∀ x0,∀ y0,(BeginW l0 lp0 w fun w=>
 Dr w fun w=>
 HV (ld 240 c0) w fun z0=>
 HV (ld 38 b) w fun u2=>
 HV (ld 238 c) w fun v2=>
 CV (.func (.func 162) #[] #[]) #[u2,v2,y0] w fun x2 w=>
 RunIs (ld 240 c0) w z0/\(CV z0 #[x0,x2] w fun y2 w=>
 PV (un .not y2) fun z2=>
 CondW z2
 (U (st 45 h (.slice none 0 0)) w fun w=>
 U (st 45 i (.slice none 0 0)) w fun w=>
 U (st 4 j (.bool false)) w fun w=>
 EndW l0 lp0 (some .ret) w Kl0)
 (EndW l0 lp0 none w Kl0)))->w.heap[l0]? = some (lobj lp0 .ready none)->CV (.func (.yield l0) #[] #[]) #[x0,y0] w Kl0) ->
 CE s2 #[.func (.yield l0) #[] #[]] w1 fun _ w=>RfEnd l0 lp0 w (fun w=>
 I1 [(.iface r0 t)] w/\M1 [(.iface r0 t)] w < m1) (fun w=>
 TakeW (marks (.iface r0 t)) w fun w=>
 CW 45 h w fun n=>CW 45 i w fun o=>CW 4 j w fun p=>R (.tuple #[n,o,p]) w) []))->K0 [v0] w) ->
 CondW u0
 (K0 [(.bool true)] w)
 (V (fa 38 b 0) w fun a3 w=>
 V (ld 3 a3) w fun b3 w=>
 V (ec .eql 3 78 b3 (.int .i64 33)) w fun c3 w=>
 ∀ K1:LP,(∀ a1,∀ w,(∀ g:Env,
 K0 [a1] w)->K1 [a1] w) ->
 CondW c3
 (V (fa 238 c 1) w fun d3 w=>
 V (ld 3 d3) w fun f3 w=>
 V (fa 38 b 1) w fun h3 w=>
 V (ld 3 h3) w fun i3 w=>
 V (bi .lss 3 f3 i3) w fun j3 w=>
 K1 [j3] w)
 (K1 [(.bool false)] w)))->K0 [u0] w) ->
 CondW q2
 (K0 [(.bool true)] w)
 (V (fa 238 c 0) w fun k3 w=>
 V (ld 3 k3) w fun l3 w=>
 V (bi .lss 3 l3 l2) w fun n3 w=>
 K0 [n3] w))->K0 [b,c] w) ->
 Dr w fun w=>
 PV (fa 28 r 5) fun u=>
 HV (ld 26 u) w fun v=>
 PV (ia 26 v f) fun x=>
 HV (ld 38 x) w fun s=>
 HV (ld 236 d) w fun a=>
 HV (lk 236 a f false) w fun k=>
 (V (al 38) w fun b w=>
 RunIs (lk 236 a f false) w k/\RunIs (ld 236 d) w a/\RunIs (ld 38 x) w s/\RunIs (ld 26 u) w v/\(V (al 238) w fun c w=>
 RunIs (lk 236 a f false) w k/\RunIs (ld 236 d) w a/\RunIs (ld 38 x) w s/\RunIs (ld 26 u) w v/\(U (st 38 b s) w fun w=>
 RunIs (lk 236 a f false) w k/\RunIs (ld 236 d) w a/\(U (st 238 c k) w fun w=>
 K0 [b,c] w)))) /\
 (V (al 238) w fun c w=>
 RunIs (lk 236 a f false) w k/\RunIs (ld 236 d) w a/\RunIs (ld 38 x) w s/\RunIs (ld 26 u) w v/\(V (al 38) w fun b w=>
 RunIs (lk 236 a f false) w k/\RunIs (ld 236 d) w a/\RunIs (ld 38 x) w s/\RunIs (ld 26 u) w v/\(U (st 38 b s) w fun w=>
 RunIs (lk 236 a f false) w k/\RunIs (ld 236 d) w a/\(U (st 238 c k) w fun w=>
 K0 [b,c] w)))))
 (∀ K0:LP,(∀ d0,∀ f0,∀ w,(∀ g:Env,
 V (fa 28 r 5) w fun o3 w=>
 V (ld 26 o3) w fun p3 w=>
 V (ln 26 p3) w fun q3 w=>
 Lp1 (.int .i64 0) w fun I2 M2 q w m2=>
 V (bi .lss 3 q q3) w fun r3 w=>
 CondW r3
 (∀ K0:LP,(∀ w,(∀ g:Env,
 V (bi .add 3 q (.int .i64 1)) w fun b1 w=>
 I2 [b1] w/\M2 [b1] w < m2)->K0 [] w) ->
 V (ia 45 d0 q) w fun s3 w=>
 U (st 3 s3 (.int .i64 (-1))) w fun w=>
 V (ia 45 f0 q) w fun u3 w=>
 U (st 3 u3 (.int .i64 (-1))) w fun w=>
 V (ld 236 d) w fun v3 w=>
 V (lk 236 v3 q true) w fun c1 w=>
 V (ex c1 0) w fun x3 w=>
 V (ex c1 1) w fun y3 w=>
 V (al 238) w fun n0 w=>
 U (st 238 n0 x3) w fun w=>
 CondW y3
 (Dr w fun w=>
 PV (fa 238 n0 0) fun z3=>
 HV (ld 3 z3) w fun a4=>
 PV (fa 238 n0 1) fun d1=>
 HV (ld 3 d1) w fun f1=>
 PV (ia 45 d0 q) fun b4=>
 U (st 3 b4 a4) w fun w=>
 RunIs (ld 3 d1) w f1/\(PV (ia 45 f0 q) fun c4=>
 U (st 3 c4 f1) w fun w=>
 K0 [] w))
 (K0 [] w))
 (U (st 45 h d0) w fun w=>
 U (st 45 i f0) w fun w=>
 U (st 4 j (.bool true)) w fun w=>
 TakeW (marks t) w fun w=>
 CW 45 h w fun n=>CW 45 i w fun o=>CW 4 j w fun p=>R (.tuple #[n,o,p]) w))->K0 [d0,f0] w) ->
 Dr w fun w=>
 PV (fa 28 r 5) fun y=>
 HV (ld 26 y) w fun z=>
 PV (ln 26 z) fun h0=>
 PV (fa 28 r 5) fun a0=>
 HV (ld 26 a0) w fun b0=>
 PV (ln 26 b0) fun i0=>
 (V (ms 45 h0 h0) w fun o0 w=>
 RunIs (ld 26 a0) w b0/\RunIs (ld 26 y) w z/\(V (ms 45 i0 i0) w fun p0 w=>
 RunIs (ld 26 a0) w b0/\RunIs (ld 26 y) w z/\(K0 [o0,p0] w))) /\
 (V (ms 45 i0 i0) w fun p0 w=>
 RunIs (ld 26 a0) w b0/\RunIs (ld 26 y) w z/\(V (ms 45 h0 h0) w fun o0 w=>
 RunIs (ld 26 a0) w b0/\RunIs (ld 26 y) w z/\(K0 [o0,p0] w)))))
theorem en50 (h:vc50 R w t0):Calls Tryz.prog 50 #[t0] w (retK R):=enE ⟨by kernel_rfl,by kernel_rfl⟩ (by kernel_rfl:enterW Tryz.prog Tryz.f50 an50 [t0] w R = _) h
def an51:Ann:=(sD 2 (.seq (.seq (.reg (opn 5 (.join [17] [13,14,15,16,17] (.split 12 (opn 5 .done) (opn 5 .done)) (opn 1 (.join [23] [19,20,21,22,23] (.split 18 (opn 5 .done) (opn 5 .done)) (opn 1 (.join [29] [25,26,27,28,29] (.split 24 (opn 5 .done) (opn 5 .done)) (opn 1 (.join [35] [31,32,33,34,35] (.split 30 (opn 5 .done) (opn 5 .done)) (opn 1 (.join [41] [37,38,39,40,41] (.split 36 (opn 5 .done) (opn 5 .done)) .done))))))))))) (.cond (sD 1 lf) lf)) (.seq (sD 1 (.one (.loop [3] ([2,3] ++ rgN 42 14) (.seq (cD 5 lf lf) (.seq (.one (cD 7 (sD 1 lf) lf)) (oD 3)))))) (.seq (sD 1 (.one (.loop [4] ([2,4,5] ++ rgN 56 35) (.seq (cD 5 lf lf) (.seq (.one (.seq (cD 7 (sD 1 lf) lf) (sD 1 (.one (.loop [5] ([2,5] ++ rgN 70 21) (.seq (cD 8 lf lf) (.seq (.one (cD 11 (sD 1 lf) lf)) (oD 3)))))))) (oD 3)))))) (.seq (sD 1 (.one (.loop [6] ([2,6] ++ rgN 91 14) (.seq (cD 5 lf lf) (.seq (.one (cD 7 (sD 1 lf) lf)) (oD 3)))))) (.seq (sD 1 (.one (.loop [7] ([2,7] ++ rgN 105 15) (.seq (cD 5 lf lf) (.seq (.one (cD 8 (sD 1 lf) lf)) (oD 3)))))) (sD 1 lf)))))))
def vc51 (R:Value->World->Prop) (w:World) (t:Value):Prop:=
 V (bx 28 t) w fun a w=>
 V (fa 28 a 0) w fun u w=>
 V (ld 22 u) w fun v w=>
 V (ln 22 v) w fun x w=>
 V (bi .gtr 3 x (.int .i64 3000)) w fun y w=>
 ∀ K0:LP,(∀ i,∀ w,(∀ g:Env,
 ∀ K0:LP,(∀ j,∀ w,(∀ g:Env,
 ∀ K0:LP,(∀ k,∀ w,(∀ g:Env,
 ∀ K0:LP,(∀ l,∀ w,(∀ g:Env,
 ∀ K0:LP,(∀ n,∀ w,(∀ g:Env,
 CondW n
 (R (.bool false) w)
 (Lp1 (.int .i64 0) w fun I0 M0 c w m0=>
 V (fa 28 a 0) w fun z w=>
 V (ld 22 z) w fun a0 w=>
 V (ln 22 a0) w fun b0 w=>
 V (bi .lss 3 c b0) w fun c0 w=>
 CondW c0
 (V (fa 28 a 0) w fun d0 w=>
 V (ld 22 d0) w fun f0 w=>
 V (ia 22 f0 c) w fun h0 w=>
 V (ld 9 h0) w fun i0 w=>
 V (ln 9 i0) w fun j0 w=>
 V (bi .gtr 3 j0 (.int .i64 1000)) w fun k0 w=>
 CondW k0
 (R (.bool false) w)
 (V (bi .add 3 c (.int .i64 1)) w fun o w=>
 I0 [o] w/\M0 [o] w < m0))
 (Lp1 (.int .i64 0) w fun I1 M1 b w m1=>
 V (fa 28 a 1) w fun l0 w=>
 V (ld 23 l0) w fun n0 w=>
 V (ln 23 n0) w fun o0 w=>
 V (bi .lss 3 b o0) w fun p0 w=>
 CondW p0
 (V (fa 28 a 1) w fun q0 w=>
 V (ld 23 q0) w fun r0 w=>
 V (ia 23 r0 b) w fun s0 w=>
 V (ld 93 s0) w fun u0 w=>
 V (ln 93 u0) w fun v0 w=>
 V (bi .gtr 3 v0 (.int .i64 100)) w fun x0 w=>
 CondW x0
 (R (.bool false) w)
 (Lp1 (.int .i64 0) w fun I2 M2 d w m2=>
 V (fa 28 a 1) w fun y0 w=>
 V (ld 23 y0) w fun z0 w=>
 V (ia 23 z0 b) w fun a1 w=>
 V (ld 93 a1) w fun b1 w=>
 V (ln 93 b1) w fun c1 w=>
 V (bi .lss 3 d c1) w fun d1 w=>
 CondW d1
 (V (fa 28 a 1) w fun f1 w=>
 V (ld 23 f1) w fun h1 w=>
 V (ia 23 h1 b) w fun i1 w=>
 V (ld 93 i1) w fun j1 w=>
 V (ia 93 j1 d) w fun k1 w=>
 V (fa 95 k1 1) w fun l1 w=>
 V (ld 9 l1) w fun n1 w=>
 V (ln 9 n1) w fun o1 w=>
 V (bi .gtr 3 o1 (.int .i64 1000)) w fun p1 w=>
 CondW p1
 (R (.bool false) w)
 (V (bi .add 3 d (.int .i64 1)) w fun p w=>
 I2 [p] w/\M2 [p] w < m2))
 (V (bi .add 3 b (.int .i64 1)) w fun q w=>
 I1 [q] w/\M1 [q] w < m1)))
 (Lp1 (.int .i64 0) w fun I2 M2 f w m2=>
 V (fa 28 a 2) w fun q1 w=>
 V (ld 24 q1) w fun r1 w=>
 V (ln 24 r1) w fun s1 w=>
 V (bi .lss 3 f s1) w fun u1 w=>
 CondW u1
 (V (fa 28 a 2) w fun v1 w=>
 V (ld 24 v1) w fun x1 w=>
 V (ia 24 x1 f) w fun y1 w=>
 V (ld 96 y1) w fun z1 w=>
 V (ln 96 z1) w fun a2 w=>
 V (bi .gtr 3 a2 (.int .i64 10000)) w fun b2 w=>
 CondW b2
 (R (.bool false) w)
 (V (bi .add 3 f (.int .i64 1)) w fun r w=>
 I2 [r] w/\M2 [r] w < m2))
 (Lp1 (.int .i64 0) w fun I3 M3 h w m3=>
 V (fa 28 a 3) w fun c2 w=>
 V (ld 25 c2) w fun d2 w=>
 V (ln 25 d2) w fun f2 w=>
 V (bi .lss 3 h f2) w fun h2 w=>
 CondW h2
 (V (fa 28 a 3) w fun i2 w=>
 V (ld 25 i2) w fun j2 w=>
 V (ia 25 j2 h) w fun k2 w=>
 V (fa 54 k2 0) w fun l2 w=>
 V (ld 9 l2) w fun n2 w=>
 V (ln 9 n2) w fun o2 w=>
 V (bi .gtr 3 o2 (.int .i64 1000)) w fun p2 w=>
 CondW p2
 (R (.bool false) w)
 (V (bi .add 3 h (.int .i64 1)) w fun s w=>
 I3 [s] w/\M3 [s] w < m3))
 (R (.bool true) w))))))->K0 [n] w) ->
 CondW l
 (K0 [(.bool true)] w)
 (V (fa 28 a 5) w fun q2 w=>
 V (ld 26 q2) w fun r2 w=>
 V (ln 26 r2) w fun s2 w=>
 V (bi .gtr 3 s2 (.int .i64 12000)) w fun t2 w=>
 K0 [t2] w))->K0 [l] w) ->
 CondW k
 (K0 [(.bool true)] w)
 (V (fa 28 a 4) w fun u2 w=>
 V (ld 22 u2) w fun v2 w=>
 V (ln 22 v2) w fun x2 w=>
 V (bi .gtr 3 x2 (.int .i64 100)) w fun y2 w=>
 K0 [y2] w))->K0 [k] w) ->
 CondW j
 (K0 [(.bool true)] w)
 (V (fa 28 a 3) w fun z2 w=>
 V (ld 25 z2) w fun a3 w=>
 V (ln 25 a3) w fun b3 w=>
 V (bi .gtr 3 b3 (.int .i64 3000)) w fun c3 w=>
 K0 [c3] w))->K0 [j] w) ->
 CondW i
 (K0 [(.bool true)] w)
 (V (fa 28 a 2) w fun d3 w=>
 V (ld 24 d3) w fun f3 w=>
 V (ln 24 f3) w fun h3 w=>
 V (bi .gtr 3 h3 (.int .i64 3000)) w fun i3 w=>
 K0 [i3] w))->K0 [i] w) ->
 CondW y
 (K0 [(.bool true)] w)
 (V (fa 28 a 1) w fun j3 w=>
 V (ld 23 j3) w fun k3 w=>
 V (ln 23 k3) w fun l3 w=>
 V (bi .gtr 3 l3 (.int .i64 3000)) w fun n3 w=>
 K0 [n3] w)
theorem en51 (h:vc51 R w t0):Calls Tryz.prog 51 #[t0] w (retK R):=enE ⟨by kernel_rfl,by kernel_rfl⟩ (by kernel_rfl:enterW Tryz.prog Tryz.f51 an51 [t0] w R = _) h
def an52:Ann:=(sD 2 (.seq (sD 1 (.one (.loop [3] ([2,3] ++ rgN 11 14) (.seq (cD 5 lf lf) (.seq (.one (cD 7 (sD 1 lf) lf)) (oD 3)))))) (.seq (sD 1 (.one (.loop [4] ([2,4,5] ++ rgN 25 27) (.seq (cD 5 lf lf) (.seq (.one (sD 1 (.one (.loop [5] ([2,5] ++ rgN 32 20) (.seq (cD 8 lf lf) (.seq (.one (cD 10 (sD 1 lf) lf)) (oD 3))))))) (oD 3)))))) (.seq (sD 1 (.one (.loop [6] ([2,6,7] ++ rgN 52 35) (.seq (cD 5 lf lf) (.seq (.one (.seq (cD 7 (sD 1 lf) lf) (sD 1 (.one (.loop [7] ([2,7] ++ rgN 66 21) (.seq (cD 8 lf lf) (.seq (.one (cD 11 (sD 1 lf) lf)) (oD 3)))))))) (oD 3)))))) (.seq (sD 1 (.one (.loop [8] ([2,8] ++ rgN 87 49) (.seq (cD 5 lf lf) (.seq (.one (.seqJ [135] (rgN 94 42) (.draw (.take 0 (.hold 1 (tkN 2 3 (.hold 5 (e1 6 (.take 7 (.take 8 (.split 102 (tkN 9 33 .done) (.take 9 (.hold 10 (tkN 11 3 (.hold 14 (.take 15 (.hold 16 (.take 17 (.take 18 (e1 19 (tkN 20 3 (.split 116 (tkN 23 19 .done) (tkN 23 3 (.split 119 (.take 26 (.hold 27 (tkN 28 3 (.hold 31 (.take 32 (.hold 33 (tkN 34 4 (.hold 38 (tkN 39 3 .done))))))))) (tkN 26 16 .done))))))))))))))))))))))) (.cond (sD 1 lf) lf))) (oD 3)))))) (.seq (sD 1 (.one (.loop [9] ([2,9,10] ++ rgN 136 30) (.seq (cD 5 lf lf) (.seq (.one (.seq (cD 7 (sD 1 lf) lf) (sD 1 (.one (.loop [10] ([2,10] ++ rgN 150 16) (.seq (cD 3 lf lf) (.seq (.one (.seq (.draw (.take 0 (.hold 1 (.take 2 (.take 3 (.hold 4 (.take 5 (.hold 6 (.take 7 (.take 8 (.hold 9 (.take 10 .done)))))))))))) (.cond (sD 1 lf) lf))) (oD 3)))))))) (oD 3)))))) (sD 1 lf)))))))
def vc52 (R:Value->World->Prop) (w:World) (c0:Value):Prop:=
 V (bx 28 c0) w fun a w=>
 Lp1 (.int .i64 0) w fun I0 M0 h w m0=>
 V (fa 28 a 0) w fun d0 w=>
 V (ld 22 d0) w fun f0 w=>
 V (ln 22 f0) w fun h0 w=>
 V (bi .lss 3 h h0) w fun i0 w=>
 CondW i0
 (V (fa 28 a 0) w fun j0 w=>
 V (ld 22 j0) w fun k0 w=>
 V (ia 22 k0 h) w fun l0 w=>
 V (ld 9 l0) w fun n0 w=>
 CV (.func (.func 163) #[] #[]) #[n0] w fun o0 w=>
 V (un .not o0) w fun p0 w=>
 CondW p0
 (R (.bool false) w)
 (V (bi .add 3 h (.int .i64 1)) w fun o w=>
 I0 [o] w/\M0 [o] w < m0))
 (Lp1 (.int .i64 0) w fun I1 M1 f w m1=>
 V (fa 28 a 1) w fun q0 w=>
 V (ld 23 q0) w fun r0 w=>
 V (ln 23 r0) w fun s0 w=>
 V (bi .lss 3 f s0) w fun u0 w=>
 CondW u0
 (Lp1 (.int .i64 0) w fun I2 M2 i w m2=>
 V (fa 28 a 1) w fun v0 w=>
 V (ld 23 v0) w fun x0 w=>
 V (ia 23 x0 f) w fun y0 w=>
 V (ld 93 y0) w fun z0 w=>
 V (ln 93 z0) w fun a1 w=>
 V (bi .lss 3 i a1) w fun b1 w=>
 CondW b1
 (V (fa 28 a 1) w fun c1 w=>
 V (ld 23 c1) w fun d1 w=>
 V (ia 23 d1 f) w fun f1 w=>
 V (ld 93 f1) w fun h1 w=>
 V (ia 93 h1 i) w fun i1 w=>
 V (ld 95 i1) w fun j1 w=>
 CV (.func (.func 164) #[] #[]) #[j1] w fun k1 w=>
 V (un .not k1) w fun l1 w=>
 CondW l1
 (R (.bool false) w)
 (V (bi .add 3 i (.int .i64 1)) w fun p w=>
 I2 [p] w/\M2 [p] w < m2))
 (V (bi .add 3 f (.int .i64 1)) w fun q w=>
 I1 [q] w/\M1 [q] w < m1))
 (Lp1 (.int .i64 0) w fun I2 M2 c w m2=>
 V (fa 28 a 2) w fun n1 w=>
 V (ld 24 n1) w fun o1 w=>
 V (ln 24 o1) w fun p1 w=>
 V (bi .lss 3 c p1) w fun q1 w=>
 CondW q1
 (V (fa 28 a 2) w fun r1 w=>
 V (ld 24 r1) w fun s1 w=>
 V (ia 24 s1 c) w fun u1 w=>
 V (ld 96 u1) w fun v1 w=>
 V (ln 96 v1) w fun x1 w=>
 V (ec .eql 3 64 x1 (.int .i64 0)) w fun y1 w=>
 CondW y1
 (R (.bool false) w)
 (Lp1 (.int .i64 0) w fun I3 M3 j w m3=>
 V (fa 28 a 2) w fun z1 w=>
 V (ld 24 z1) w fun a2 w=>
 V (ia 24 a2 c) w fun b2 w=>
 V (ld 96 b2) w fun c2 w=>
 V (ln 96 c2) w fun d2 w=>
 V (bi .lss 3 j d2) w fun f2 w=>
 CondW f2
 (V (fa 28 a 2) w fun h2 w=>
 V (ld 24 h2) w fun i2 w=>
 V (ia 24 i2 c) w fun j2 w=>
 V (ld 96 j2) w fun k2 w=>
 V (ia 96 k2 j) w fun l2 w=>
 V (fa 98 l2 0) w fun n2 w=>
 V (ld 9 n2) w fun o2 w=>
 CV (.func (.func 165) #[] #[]) #[o2] w fun p2 w=>
 V (un .not p2) w fun q2 w=>
 CondW q2
 (R (.bool false) w)
 (V (bi .add 3 j (.int .i64 1)) w fun r w=>
 I3 [r] w/\M3 [r] w < m3))
 (V (bi .add 3 c (.int .i64 1)) w fun s w=>
 I2 [s] w/\M2 [s] w < m2)))
 (Lp1 (.int .i64 0) w fun I3 M3 b w m3=>
 V (fa 28 a 3) w fun r2 w=>
 V (ld 25 r2) w fun s2 w=>
 V (ln 25 s2) w fun t2 w=>
 V (bi .lss 3 b t2) w fun u2 w=>
 CondW u2
 (∀ K0:LP,(∀ t,∀ w,(∀ g:Env,
 CondW t
 (R (.bool false) w)
 (V (bi .add 3 b (.int .i64 1)) w fun u w=>
 I3 [u] w/\M3 [u] w < m3))->K0 [t] w) ->
 Dr w fun w=>
 PV (fa 28 a 3) fun k=>
 HV (ld 25 k) w fun l=>
 PV (ia 25 l b) fun v2=>
 PV (fa 54 v2 0) fun x2=>
 HV (ld 9 x2) w fun y2=>
 CV (.func (.func 163) #[] #[]) #[y2] w fun z2 w=>
 RunIs (ld 25 k) w l/\(PV (un .not z2) fun a3=>
 CondW a3
 (K0 [(.bool true)] w)
 (PV (fa 28 a 3) fun v=>
 HV (ld 25 v) w fun x=>
 PV (ia 25 x b) fun b3=>
 PV (fa 54 b3 1) fun c3=>
 HV (ld 3 c3) w fun d3=>
 PV (fa 28 a 5) fun y=>
 HV (ld 26 y) w fun z=>
 PV (ln 26 z) fun f3=>
 PV (bi .sub 3 f3 (.int .i64 1)) fun h3=>
 CV (.func (.func 59) #[] #[]) #[d3,(.int .i64 0),h3] w fun i3 w=>
 RunIs (ld 26 y) w z/\RunIs (ld 25 v) w x/\RunIs (ld 25 k) w l/\(PV (un .not i3) fun j3=>
 CondW j3
 (K0 [(.bool true)] w)
 (PV (bi .gtr 3 b (.int .i64 0)) fun k3=>
 CondW k3
 (PV (fa 28 a 3) fun l3=>
 HV (ld 25 l3) w fun n3=>
 PV (ia 25 n3 b) fun o3=>
 PV (fa 54 o3 1) fun p3=>
 HV (ld 3 p3) w fun q3=>
 PV (fa 28 a 3) fun r3=>
 HV (ld 25 r3) w fun s3=>
 PV (bi .sub 3 b (.int .i64 1)) fun u3=>
 PV (ia 25 s3 u3) fun v3=>
 PV (fa 54 v3 1) fun x3=>
 HV (ld 3 x3) w fun y3=>
 PV (bi .lss 3 q3 y3) fun z3=>
 K0 [z3] w)
 (K0 [(.bool false)] w))))))
 (Lp1 (.int .i64 0) w fun I4 M4 d w m4=>
 V (fa 28 a 4) w fun a4 w=>
 V (ld 22 a4) w fun b4 w=>
 V (ln 22 b4) w fun c4 w=>
 V (bi .lss 3 d c4) w fun d4 w=>
 CondW d4
 (V (fa 28 a 4) w fun f4 w=>
 V (ld 22 f4) w fun h4 w=>
 V (ia 22 h4 d) w fun i4 w=>
 V (ld 9 i4) w fun j4 w=>
 CV (.func (.func 166) #[] #[]) #[j4] w fun k4 w=>
 V (ec .neq 3 148 k4 (.int .i64 2)) w fun l4 w=>
 CondW l4
 (R (.bool false) w)
 (Lp1 (.int .i64 0) w fun I5 M5 n w m5=>
 V (bi .lss 3 n d) w fun n4 w=>
 CondW n4
 (Dr w fun w=>
 PV (fa 28 a 4) fun o4=>
 HV (ld 22 o4) w fun p4=>
 PV (ia 22 p4 n) fun q4=>
 HV (ld 9 q4) w fun r4=>
 PV (fa 28 a 4) fun s4=>
 HV (ld 22 s4) w fun u4=>
 PV (ia 22 u4 d) fun v4=>
 HV (ld 9 v4) w fun x4=>
 PV (et .eql 9 159 164 r4 x4) fun y4=>
 CondW y4
 (R (.bool false) w)
 (V (bi .add 3 n (.int .i64 1)) w fun a0 w=>
 I5 [a0] w/\M5 [a0] w < m5))
 (V (bi .add 3 d (.int .i64 1)) w fun b0 w=>
 I4 [b0] w/\M4 [b0] w < m4)))
 (R (.bool true) w)))))
theorem en52 (h:vc52 R w t0):Calls Tryz.prog 52 #[t0] w (retK R):=enE ⟨by kernel_rfl,by kernel_rfl⟩ (by kernel_rfl:enterW Tryz.prog Tryz.f52 an52 [t0] w R = _) h
def an53:Ann:=(sD 3 (sD 8 (.seq (.seq (.reg (opn 3 (.join [21] [17,18,19,20,21] (.split 16 (opn 5 .done) (opn 5 .done)) .done))) (.cond (sD 1 lf) lf)) (sD 4 (.seq (sD 1 (.one (.loop [8] ([4,8] ++ rgN 24 18) (.seq (cD 2 lf lf) (.seq (.one (.seq (.draw (.hold 0 (tkN 1 3 (.hold 4 (tkN 5 3 (.hold 8 (.take 9 (.take 10 (.hold 11 (e1 12 (.take 13 .done))))))))))) (.cond (sD 1 lf) lf))) (oD 3)))))) (.seq (sD 2 (.one (.seqJ [44] [44,45,46] (cD 2 lf (oD 2)) (.cond (.seq (.reg (opn 8 (.join [68] (rgN 55 14) (.split 54 (opn 4 (.join [67] (rgN 59 9) (.split 58 (opn 9 .done) (opn 9 .done)) (opn 1 .done))) (opn 14 .done)) (opn 1 .done)))) lf) (cD 2 (.seq (.reg (opn 4 (.join [78] [75,76,77,78] (.split 74 (opn 4 .done) (opn 4 .done)) (opn 1 (.join [92] (rgN 80 13) (.split 79 (opn 13 .done) (opn 4 (.join [91] (rgN 84 8) (.split 83 (opn 8 .done) (opn 8 .done)) (opn 1 .done)))) (opn 1 .done)))))) lf) (cD 2 (.seq (.seq (.reg (opn 4 (.join [107] (rgN 99 9) (.split 98 (opn 4 (.join [106] [103,104,105,106] (.split 102 (opn 4 .done) (opn 4 .done)) (opn 1 .done))) (opn 9 .done)) .done))) (.cond (sD 1 lf) lf)) (.seq (.reg (opn 4 (.join [134] (rgN 112 23) (.split 111 (opn 23 .done) (opn 4 (.join [123] (rgN 116 8) (.split 115 (opn 8 .done) (opn 8 .done)) (opn 1 (.join [133] (rgN 125 9) (.split 124 (opn 9 .done) (opn 9 .done)) (opn 1 .done)))))) (opn 1 .done)))) lf)) (cD 2 (sD 9 lf) lf))))))) (sD 1 lf)))))))
def vc53 (R:Value->World->Prop) (w:World) (z a0:Value):Prop:=
 V (bx 28 z) w fun b w=>
 V (bx 38 a0) w fun a w=>
 V (ld 38 a) w fun b0 w=>
 CV (.func (.func 58) #[] #[]) #[b0] w fun h w=>
 V (ex h 0) w fun c0 w=>
 V (ex h 1) w fun d0 w=>
 V (al 108) w fun f w=>
 U (st 108 f c0) w fun w=>
 V (un .not d0) w fun f0 w=>
 ∀ K0:LP,(∀ i,∀ w,(∀ g:Env,
 CondW i
 (R (.bool false) w)
 (V (ld 38 a) w fun h0 w=>
 CV (.func (.func 80) #[] #[]) #[h0] w fun i0 w=>
 V (al 100) w fun j w=>
 U (st 100 j i0) w fun w=>
 Lp1 (.int .i64 0) w fun I0 M0 c w m0=>
 V (bi .lss 3 c (.int .i64 3)) w fun j0 w=>
 CondW j0
 (Dr w fun w=>
 HV (ld 28 b) w fun k0=>
 PV (fa 108 f 1) fun l0=>
 PV (ia 100 l0 c) fun n0=>
 HV (ld 3 n0) w fun o0=>
 PV (fa 108 f 2) fun p0=>
 PV (ia 100 p0 c) fun q0=>
 HV (ld 3 q0) w fun r0=>
 PV (ia 100 j c) fun s0=>
 HV (ld 3 s0) w fun u0=>
 CV (.func (.func 167) #[] #[]) #[k0,o0,r0,u0] w fun v0 w=>
 PV (un .not v0) fun x0=>
 CondW x0
 (R (.bool false) w)
 (V (bi .add 3 c (.int .i64 1)) w fun k w=>
 I0 [k] w/\M0 [k] w < m0))
 (V (fa 38 a 0) w fun y0 w=>
 V (ld 3 y0) w fun d w=>
 ∀ K0:LP,(∀ l,∀ w,(∀ g:Env,
 CondW l
 (V (fa 38 a 1) w fun z0 w=>
 V (ld 3 z0) w fun a1 w=>
 V (fa 28 b 0) w fun b1 w=>
 V (ld 22 b1) w fun c1 w=>
 V (ln 22 c1) w fun d1 w=>
 V (bi .sub 3 d1 (.int .i64 1)) w fun f1 w=>
 CV (.func (.func 59) #[] #[]) #[a1,(.int .i64 0),f1] w fun h1 w=>
 ∀ K0:LP,(∀ n,∀ w,(∀ g:Env,
 R n w)->K0 [n] w) ->
 CondW h1
 (V (fa 38 a 3) w fun i1 w=>
 V (ld 3 i1) w fun j1 w=>
 V (ec .eql 3 56 j1 (.int .i64 1)) w fun k1 w=>
 ∀ K1:LP,(∀ o,∀ w,(∀ g:Env,
 K0 [o] w)->K1 [o] w) ->
 CondW k1
 (K1 [(.bool true)] w)
 (V (fa 28 b 0) w fun l1 w=>
 V (ld 22 l1) w fun n1 w=>
 V (fa 38 a 1) w fun o1 w=>
 V (ld 3 o1) w fun p1 w=>
 V (ia 22 n1 p1) w fun q1 w=>
 V (ld 9 q1) w fun r1 w=>
 CV (.func (.func 166) #[] #[]) #[r1] w fun s1 w=>
 V (bi .gtr 3 s1 (.int .i64 0)) w fun u1 w=>
 K1 [u1] w))
 (K0 [(.bool false)] w))
 (V (ec .eql 3 43 d (.int .i64 19)) w fun v1 w=>
 CondW v1
 (V (fa 38 a 1) w fun x1 w=>
 V (ld 3 x1) w fun y1 w=>
 V (ec .neq 3 72 y1 (.int .i64 1)) w fun z1 w=>
 ∀ K0:LP,(∀ p,∀ w,(∀ g:Env,
 ∀ K0:LP,(∀ q,∀ w,(∀ g:Env,
 R q w)->K0 [q] w) ->
 CondW p
 (K0 [(.bool true)] w)
 (V (fa 38 a 1) w fun a2 w=>
 V (ld 3 a2) w fun b2 w=>
 V (ec .eql 3 81 b2 (.int .i64 1)) w fun c2 w=>
 ∀ K1:LP,(∀ r,∀ w,(∀ g:Env,
 K0 [r] w)->K1 [r] w) ->
 CondW c2
 (V (fa 38 a 2) w fun d2 w=>
 V (ld 3 d2) w fun f2 w=>
 V (fa 28 b 0) w fun h2 w=>
 V (ld 22 h2) w fun i2 w=>
 V (ln 22 i2) w fun j2 w=>
 V (bi .sub 3 j2 (.int .i64 1)) w fun k2 w=>
 CV (.func (.func 59) #[] #[]) #[f2,(.int .i64 0),k2] w fun l2 w=>
 K1 [l2] w)
 (K1 [(.bool false)] w)))->K0 [p] w) ->
 CondW z1
 (V (fa 38 a 2) w fun n2 w=>
 V (ld 3 n2) w fun o2 w=>
 V (ec .eql 3 76 o2 (.int .i64 0)) w fun p2 w=>
 K0 [p2] w)
 (K0 [(.bool false)] w))
 (V (ec .eql 3 43 d (.int .i64 22)) w fun q2 w=>
 CondW q2
 (V (fa 38 a 2) w fun r2 w=>
 V (ld 3 r2) w fun s2 w=>
 V (ec .eql 3 96 s2 (.int .i64 2)) w fun u2 w=>
 ∀ K0:LP,(∀ s,∀ w,(∀ g:Env,
 CondW s
 (R (.bool false) w)
 (V (fa 38 a 3) w fun v2 w=>
 V (ld 3 v2) w fun x2 w=>
 V (ec .eql 3 109 x2 (.int .i64 (-1))) w fun y2 w=>
 ∀ K0:LP,(∀ t,∀ w,(∀ g:Env,
 R t w)->K0 [t] w) ->
 CondW y2
 (K0 [(.bool true)] w)
 (V (fa 38 a 2) w fun z2 w=>
 V (ld 3 z2) w fun a3 w=>
 V (ec .neq 3 113 a3 (.int .i64 0)) w fun b3 w=>
 ∀ K1:LP,(∀ u,∀ w,(∀ g:Env,
 ∀ K1:LP,(∀ v,∀ w,(∀ g:Env,
 K0 [v] w)->K1 [v] w) ->
 CondW u
 (V (fa 28 b 0) w fun c3 w=>
 V (ld 22 c3) w fun d3 w=>
 V (fa 38 a 3) w fun f3 w=>
 V (ld 3 f3) w fun h3 w=>
 V (ia 22 d3 h3) w fun i3 w=>
 V (ld 9 i3) w fun j3 w=>
 CV (.func (.func 166) #[] #[]) #[j3] w fun k3 w=>
 V (ec .eql 3 131 k3 (.int .i64 2)) w fun l3 w=>
 K1 [l3] w)
 (K1 [(.bool false)] w))->K1 [u] w) ->
 CondW b3
 (V (fa 38 a 3) w fun n3 w=>
 V (ld 3 n3) w fun o3 w=>
 V (fa 28 b 0) w fun p3 w=>
 V (ld 22 p3) w fun q3 w=>
 V (ln 22 q3) w fun r3 w=>
 V (bi .sub 3 r3 (.int .i64 1)) w fun s3 w=>
 CV (.func (.func 59) #[] #[]) #[o3,(.int .i64 0),s3] w fun u3 w=>
 K1 [u3] w)
 (K1 [(.bool false)] w))))->K0 [s] w) ->
 CondW u2
 (V (fa 38 a 1) w fun v3 w=>
 V (ld 3 v3) w fun x3 w=>
 V (ec .eql 3 100 x3 (.int .i64 3)) w fun y3 w=>
 ∀ K1:LP,(∀ x,∀ w,(∀ g:Env,
 K0 [x] w)->K1 [x] w) ->
 CondW y3
 (K1 [(.bool true)] w)
 (V (fa 38 a 1) w fun z3 w=>
 V (ld 3 z3) w fun a4 w=>
 V (ec .eql 3 104 a4 (.int .i64 5)) w fun b4 w=>
 K1 [b4] w))
 (K0 [(.bool false)] w))
 (V (ec .eql 3 43 d (.int .i64 27)) w fun c4 w=>
 CondW c4
 (V (fa 28 b 0) w fun d4 w=>
 V (ld 22 d4) w fun f4 w=>
 V (fa 38 a 1) w fun h4 w=>
 V (ld 3 h4) w fun i4 w=>
 V (ia 22 f4 i4) w fun j4 w=>
 V (ld 9 j4) w fun k4 w=>
 CV (.func (.func 166) #[] #[]) #[k4] w fun l4 w=>
 V (ec .neq 3 143 l4 (.int .i64 3)) w fun n4 w=>
 R n4 w)
 (R (.bool true) w)))))->K0 [l] w) ->
 V (ec .eql 3 43 d (.int .i64 12)) w fun y w=>
 CondW y
 (K0 [y] w)
 (V (ec .eql 3 43 d (.int .i64 21)) w fun o4 w=>
 K0 [o4] w))))->K0 [i] w) ->
 CondW f0
 (K0 [(.bool true)] w)
 (V (ld 38 a) w fun p4 w=>
 CV (.func (.func 18) #[] #[]) #[p4] w fun q4 w=>
 V (fl 42 q4 2) w fun r4 w=>
 V (ec .neq 31 19 r4 (.int .i64 0)) w fun s4 w=>
 K0 [s4] w)
theorem en53 (h:vc53 R w t0 t1):Calls Tryz.prog 53 #[t0,t1] w (retK R):=enE ⟨by kernel_rfl,by kernel_rfl⟩ (by kernel_rfl:enterW Tryz.prog Tryz.f53 an53 [t0,t1] w R = _) h
def an54:Ann:=(sD 1 (sD 145 lf))
def vc54 (R:Value->World->Prop) (w:World):Prop:=
 V (bd 108 #[]) w fun a w=>
 V (bd 100 #[(0,(.int .i64 1)),(1,(.int .i64 2)),(2,(.int .i64 13))]) w fun b w=>
 V (bd 100 #[(0,(.int .i64 0)),(1,(.int .i64 0)),(2,(.int .i64 2))]) w fun c w=>
 V (bd 108 #[(0,(.string ⟨#[99,108,97,117,115,101]⟩)),(1,b),(2,c),(3,(.int .i64 0)),(4,(.int .i64 0)),(5,(.bool false))]) w fun d w=>
 V (bd 100 #[]) w fun f w=>
 V (bd 100 #[]) w fun h w=>
 V (bd 108 #[(0,(.string ⟨#[100,111,110,101]⟩)),(1,f),(2,h),(3,(.int .i64 0)),(4,(.int .i64 0)),(5,(.bool false))]) w fun i w=>
 V (bd 100 #[(0,(.int .i64 2))]) w fun j w=>
 V (bd 100 #[]) w fun k w=>
 V (bd 108 #[(0,(.string ⟨#[99,111,110,115,116]⟩)),(1,j),(2,k),(3,(.int .i64 0)),(4,(.int .i64 1)),(5,(.bool false))]) w fun l w=>
 V (bd 100 #[]) w fun n w=>
 V (bd 100 #[]) w fun o w=>
 V (bd 108 #[(0,(.string ⟨#[109,105,115,115]⟩)),(1,n),(2,o),(3,(.int .i64 0)),(4,(.int .i64 1)),(5,(.bool false))]) w fun p w=>
 V (bd 100 #[(0,(.int .i64 3))]) w fun q w=>
 V (bd 100 #[]) w fun r w=>
 V (bd 108 #[(0,(.string ⟨#[118,97,114]⟩)),(1,q),(2,r),(3,(.int .i64 0)),(4,(.int .i64 1)),(5,(.bool false))]) w fun s w=>
 V (bd 100 #[(0,(.int .i64 7))]) w fun t w=>
 V (bd 100 #[]) w fun u w=>
 V (bd 108 #[(0,(.string ⟨#[115,108,111,116]⟩)),(1,t),(2,u),(3,(.int .i64 0)),(4,(.int .i64 1)),(5,(.bool false))]) w fun v w=>
 V (bd 100 #[(0,(.int .i64 4))]) w fun x w=>
 V (bd 100 #[]) w fun y w=>
 V (bd 108 #[(0,(.string ⟨#[115,116,101,109]⟩)),(1,x),(2,y),(3,(.int .i64 0)),(4,(.int .i64 1)),(5,(.bool false))]) w fun z w=>
 V (bd 100 #[(0,(.int .i64 5))]) w fun a0 w=>
 V (bd 100 #[]) w fun b0 w=>
 V (bd 108 #[(0,(.string ⟨#[99,111,109,112]⟩)),(1,a0),(2,b0),(3,(.int .i64 0)),(4,(.int .i64 1)),(5,(.bool false))]) w fun c0 w=>
 V (bd 100 #[(0,(.int .i64 6))]) w fun d0 w=>
 V (bd 100 #[]) w fun f0 w=>
 V (bd 108 #[(0,(.string ⟨#[112,101,101,107]⟩)),(1,d0),(2,f0),(3,(.int .i64 0)),(4,(.int .i64 1)),(5,(.bool false))]) w fun h0 w=>
 V (bd 100 #[(0,(.int .i64 14))]) w fun i0 w=>
 CV (.func (.func 168) #[] #[]) #[] w fun j0 w=>
 V (ln 22 j0) w fun k0 w=>
 V (bd 100 #[(0,k0)]) w fun l0 w=>
 V (bd 108 #[(0,(.string ⟨#[98,105,110]⟩)),(1,i0),(2,l0),(3,(.int .i64 2)),(4,(.int .i64 1)),(5,(.bool false))]) w fun n0 w=>
 V (bd 100 #[(0,(.int .i64 14))]) w fun o0 w=>
 CV (.func (.func 169) #[] #[]) #[] w fun p0 w=>
 V (ln 22 p0) w fun q0 w=>
 V (bd 100 #[(0,q0)]) w fun r0 w=>
 V (bd 108 #[(0,(.string ⟨#[117,110]⟩)),(1,o0),(2,r0),(3,(.int .i64 1)),(4,(.int .i64 1)),(5,(.bool false))]) w fun s0 w=>
 V (bd 100 #[(0,(.int .i64 15)),(1,(.int .i64 13)),(2,(.int .i64 13))]) w fun t0 w=>
 V (bd 100 #[(0,(.int .i64 0)),(1,(.int .i64 10)),(2,(.int .i64 1))]) w fun u0 w=>
 V (bd 108 #[(0,(.string ⟨#[102,117,110]⟩)),(1,t0),(2,u0),(3,(.int .i64 0)),(4,(.int .i64 1)),(5,(.bool false))]) w fun v0 w=>
 V (bd 100 #[]) w fun x0 w=>
 V (bd 100 #[]) w fun y0 w=>
 V (bd 108 #[(0,(.string ⟨#[116,101,108,108]⟩)),(1,x0),(2,y0),(3,(.int .i64 1)),(4,(.int .i64 1)),(5,(.bool false))]) w fun z0 w=>
 V (bd 100 #[]) w fun a1 w=>
 V (bd 100 #[]) w fun b1 w=>
 V (bd 108 #[(0,(.string ⟨#[112,111,112]⟩)),(1,a1),(2,b1),(3,(.int .i64 1)),(4,(.int .i64 0)),(5,(.bool false))]) w fun c1 w=>
 V (bd 100 #[(0,(.int .i64 6))]) w fun d1 w=>
 V (bd 100 #[]) w fun f1 w=>
 V (bd 108 #[(0,(.string ⟨#[115,101,116]⟩)),(1,d1),(2,f1),(3,(.int .i64 1)),(4,(.int .i64 0)),(5,(.bool false))]) w fun h1 w=>
 V (bd 100 #[(0,(.int .i64 7))]) w fun i1 w=>
 V (bd 100 #[]) w fun j1 w=>
 V (bd 108 #[(0,(.string ⟨#[112,117,116]⟩)),(1,i1),(2,j1),(3,(.int .i64 1)),(4,(.int .i64 0)),(5,(.bool false))]) w fun k1 w=>
 V (bd 100 #[(0,(.int .i64 9))]) w fun l1 w=>
 V (bd 100 #[]) w fun n1 w=>
 V (bd 108 #[(0,(.string ⟨#[100,114,111,112]⟩)),(1,l1),(2,n1),(3,(.int .i64 0)),(4,(.int .i64 0)),(5,(.bool false))]) w fun o1 w=>
 V (bd 100 #[(0,(.int .i64 10))]) w fun p1 w=>
 V (bd 100 #[]) w fun q1 w=>
 V (bd 108 #[(0,(.string ⟨#[112,114,111,99]⟩)),(1,p1),(2,q1),(3,(.int .i64 0)),(4,(.int .i64 0)),(5,(.bool false))]) w fun r1 w=>
 V (bd 100 #[(0,(.int .i64 13)),(1,(.int .i64 15))]) w fun s1 w=>
 V (bd 100 #[(0,(.int .i64 2))]) w fun u1 w=>
 V (bd 108 #[(0,(.string ⟨#[97,100,100,114]⟩)),(1,s1),(2,u1),(3,(.int .i64 0)),(4,(.int .i64 0)),(5,(.bool false))]) w fun v1 w=>
 V (bd 100 #[(0,(.int .i64 12))]) w fun x1 w=>
 V (bd 100 #[]) w fun y1 w=>
 V (bd 108 #[(0,(.string ⟨#[99,109,100]⟩)),(1,x1),(2,y1),(3,(.int .i64 1)),(4,(.int .i64 0)),(5,(.bool false))]) w fun z1 w=>
 V (bd 100 #[(0,(.int .i64 15)),(1,(.int .i64 13)),(2,(.int .i64 13))]) w fun a2 w=>
 V (bd 100 #[(0,(.int .i64 0)),(1,(.int .i64 10)),(2,(.int .i64 1))]) w fun b2 w=>
 V (bd 108 #[(0,(.string ⟨#[115,117,98]⟩)),(1,a2),(2,b2),(3,(.int .i64 0)),(4,(.int .i64 0)),(5,(.bool false))]) w fun c2 w=>
 V (bd 100 #[(0,(.int .i64 13)),(1,(.int .i64 13)),(2,(.int .i64 15))]) w fun d2 w=>
 V (bd 100 #[(0,(.int .i64 5)),(1,(.int .i64 2))]) w fun f2 w=>
 V (bd 108 #[(0,(.string ⟨#[116,114,97,112]⟩)),(1,d2),(2,f2),(3,(.int .i64 0)),(4,(.int .i64 0)),(5,(.bool false))]) w fun h2 w=>
 V (bd 100 #[(0,(.int .i64 11))]) w fun i2 w=>
 V (bd 100 #[]) w fun j2 w=>
 V (bd 108 #[(0,(.string ⟨#[106,117,109,112]⟩)),(1,i2),(2,j2),(3,(.int .i64 0)),(4,(.int .i64 0)),(5,(.bool true))]) w fun k2 w=>
 V (bd 100 #[(0,(.int .i64 11))]) w fun l2 w=>
 V (bd 100 #[]) w fun n2 w=>
 V (bd 108 #[(0,(.string ⟨#[102,97,108,115,101]⟩)),(1,l2),(2,n2),(3,(.int .i64 1)),(4,(.int .i64 0)),(5,(.bool false))]) w fun o2 w=>
 V (bd 100 #[]) w fun p2 w=>
 V (bd 100 #[]) w fun q2 w=>
 V (bd 108 #[(0,(.string ⟨#[112,108,117,115]⟩)),(1,p2),(2,q2),(3,(.int .i64 1)),(4,(.int .i64 1)),(5,(.bool false))]) w fun r2 w=>
 V (bd 100 #[]) w fun s2 w=>
 V (bd 100 #[]) w fun u2 w=>
 V (bd 108 #[(0,(.string ⟨#[119,104,111,108,101]⟩)),(1,s2),(2,u2),(3,(.int .i64 1)),(4,(.int .i64 1)),(5,(.bool false))]) w fun v2 w=>
 V (bd 100 #[(0,(.int .i64 6)),(1,(.int .i64 15))]) w fun x2 w=>
 V (bd 100 #[]) w fun y2 w=>
 V (bd 108 #[(0,(.string ⟨#[111,118,101,114]⟩)),(1,x2),(2,y2),(3,(.int .i64 1)),(4,(.int .i64 0)),(5,(.bool false))]) w fun z2 w=>
 V (bd 100 #[]) w fun a3 w=>
 V (bd 100 #[]) w fun b3 w=>
 V (bd 108 #[(0,(.string ⟨#[99,111,117,110,116]⟩)),(1,a3),(2,b3),(3,(.int .i64 1)),(4,(.int .i64 0)),(5,(.bool false))]) w fun c3 w=>
 V (bd 100 #[]) w fun d3 w=>
 V (bd 100 #[]) w fun f3 w=>
 V (bd 108 #[(0,(.string ⟨#[108,111,111,112]⟩)),(1,d3),(2,f3),(3,(.int .i64 0)),(4,(.int .i64 0)),(5,(.bool false))]) w fun h3 w=>
 V (bd 100 #[(0,(.int .i64 11))]) w fun i3 w=>
 V (bd 100 #[]) w fun j3 w=>
 V (bd 108 #[(0,(.string ⟨#[116,101,115,116]⟩)),(1,i3),(2,j3),(3,(.int .i64 0)),(4,(.int .i64 0)),(5,(.bool false))]) w fun k3 w=>
 V (bd 100 #[(0,(.int .i64 1)),(1,(.int .i64 2))]) w fun l3 w=>
 V (bd 100 #[]) w fun n3 w=>
 V (bd 108 #[(0,(.string ⟨#[116,117,114,110]⟩)),(1,l3),(2,n3),(3,(.int .i64 0)),(4,(.int .i64 0)),(5,(.bool false))]) w fun o3 w=>
 V (bd 100 #[]) w fun p3 w=>
 V (bd 100 #[]) w fun q3 w=>
 V (bd 108 #[(0,(.string ⟨#[98,121]⟩)),(1,p3),(2,q3),(3,(.int .i64 0)),(4,(.int .i64 0)),(5,(.bool false))]) w fun r3 w=>
 V (bd 100 #[(0,(.int .i64 14))]) w fun s3 w=>
 V (bd 100 #[(0,(.int .i64 40))]) w fun u3 w=>
 V (bd 108 #[(0,(.string ⟨#[111,117,116]⟩)),(1,s3),(2,u3),(3,(.int .i64 0)),(4,(.int .i64 0)),(5,(.bool false))]) w fun v3 w=>
 V (bd 100 #[]) w fun x3 w=>
 V (bd 100 #[]) w fun y3 w=>
 V (bd 108 #[(0,(.string ⟨#[105,110,116,101,114,112]⟩)),(1,x3),(2,y3),(3,(.int .i64 1)),(4,(.int .i64 0)),(5,(.bool false))]) w fun z3 w=>
 V (bd 100 #[(0,(.int .i64 13)),(1,(.int .i64 13))]) w fun a4 w=>
 V (bd 100 #[(0,(.int .i64 2)),(1,(.int .i64 1))]) w fun b4 w=>
 V (bd 108 #[(0,(.string ⟨#[110,117,109,101,114,105,99]⟩)),(1,a4),(2,b4),(3,(.int .i64 0)),(4,(.int .i64 0)),(5,(.bool false))]) w fun c4 w=>
 V (bd 100 #[(0,(.int .i64 8)),(1,(.int .i64 14)),(2,(.int .i64 13))]) w fun d4 w=>
 V (bd 100 #[(0,(.int .i64 0)),(1,(.int .i64 6)),(2,(.int .i64 1))]) w fun f4 w=>
 V (bd 108 #[(0,(.string ⟨#[112,97,114,115,101]⟩)),(1,d4),(2,f4),(3,(.int .i64 0)),(4,(.int .i64 0)),(5,(.bool false))]) w fun h4 w=>
 V (bd 100 #[]) w fun i4 w=>
 V (bd 100 #[]) w fun j4 w=>
 V (bd 108 #[(0,(.string ⟨#[112,117,115,104]⟩)),(1,i4),(2,j4),(3,(.int .i64 1)),(4,(.int .i64 0)),(5,(.bool false))]) w fun k4 w=>
 V (bd 100 #[]) w fun l4 w=>
 V (bd 100 #[]) w fun n4 w=>
 V (bd 108 #[(0,(.string ⟨#[113,117,101,117,101]⟩)),(1,l4),(2,n4),(3,(.int .i64 1)),(4,(.int .i64 0)),(5,(.bool false))]) w fun o4 w=>
 V (bd 100 #[]) w fun p4 w=>
 V (bd 100 #[]) w fun q4 w=>
 V (bd 108 #[(0,(.string ⟨#[115,97,121]⟩)),(1,p4),(2,q4),(3,(.int .i64 1)),(4,(.int .i64 0)),(5,(.bool false))]) w fun r4 w=>
 V (bd 100 #[(0,(.int .i64 13))]) w fun s4 w=>
 V (bd 100 #[(0,(.int .i64 1))]) w fun u4 w=>
 V (bd 108 #[(0,(.string ⟨#[101,120,105,116]⟩)),(1,s4),(2,u4),(3,(.int .i64 0)),(4,(.int .i64 0)),(5,(.bool true))]) w fun v4 w=>
 V (bd 100 #[(0,(.int .i64 13))]) w fun x4 w=>
 V (bd 100 #[(0,(.int .i64 1))]) w fun y4 w=>
 V (bd 108 #[(0,(.string ⟨#[114,101,116]⟩)),(1,x4),(2,y4),(3,(.int .i64 0)),(4,(.int .i64 0)),(5,(.bool true))]) w fun z4 w=>
 V (bd 100 #[(0,(.int .i64 2))]) w fun a5 w=>
 V (bd 100 #[]) w fun b5 w=>
 V (bd 108 #[(0,(.string ⟨#[115,105,103,110,97,108]⟩)),(1,a5),(2,b5),(3,(.int .i64 0)),(4,(.int .i64 0)),(5,(.bool true))]) w fun c5 w=>
 V (bd 100 #[]) w fun d5 w=>
 V (bd 100 #[]) w fun f5 w=>
 V (bd 108 #[(0,(.string ⟨#[115,105,103,118,97,108]⟩)),(1,d5),(2,f5),(3,(.int .i64 1)),(4,(.int .i64 0)),(5,(.bool true))]) w fun h5 w=>
 V (bd 100 #[(0,(.int .i64 2))]) w fun i5 w=>
 V (bd 100 #[]) w fun j5 w=>
 V (bd 108 #[(0,(.string ⟨#[116,114,97,99,101]⟩)),(1,i5),(2,j5),(3,(.int .i64 0)),(4,(.int .i64 0)),(5,(.bool false))]) w fun k5 w=>
 V (bd 100 #[(0,(.int .i64 14))]) w fun l5 w=>
 V (bd 100 #[(0,(.int .i64 99))]) w fun n5 w=>
 V (bd 108 #[(0,(.string ⟨#[114,97,105,115,101]⟩)),(1,l5),(2,n5),(3,(.int .i64 0)),(4,(.int .i64 0)),(5,(.bool true))]) w fun o5 w=>
 V (bd 100 #[]) w fun p5 w=>
 V (bd 100 #[]) w fun q5 w=>
 V (bd 108 #[(0,(.string ⟨#[101,110,100]⟩)),(1,p5),(2,q5),(3,(.int .i64 0)),(4,(.int .i64 0)),(5,(.bool true))]) w fun r5 w=>
 V (bs 109 47 #[(0,a),(1,d),(2,i),(3,l),(4,p),(5,s),(6,v),(7,z),(8,c0),(9,h0),(10,n0),(11,s0),(12,v0),(13,z0),(14,c1),(15,h1),(16,k1),(17,o1),(18,r1),(19,v1),(20,z1),(21,c2),(22,h2),(23,k2),(24,o2),(25,r2),(26,v2),(27,z2),(28,c3),(29,h3),(30,k3),(31,o3),(32,r3),(33,v3),(34,z3),(35,c4),(36,h4),(37,k4),(38,o4),(39,r4),(40,v4),(41,z4),(42,c5),(43,h5),(44,k5),(45,o5),(46,r5)]) w fun s5 w=>
 R s5 w
theorem en54 (h:vc54 R w ):Calls Tryz.prog 54 #[] w (retK R):=enE ⟨by kernel_rfl,by kernel_rfl⟩ (by kernel_rfl:enterW Tryz.prog Tryz.f54 an54 [] w R = _) h
def an55:Ann:=(sD 2 (.seqJ [3] ([3] ++ rgN 20 9) (.draw (.take 0 (.hold 1 (.take 2 (.take 4 (.hold 5 (.take 6 (.alts (.eff 3 (.alts (.eff 7 (.take 8 (e1 9 (e1 10 .done))) (.eff 9 (e1 7 (.take 8 (e1 10 .done))) .nil))) (.eff 7 (.alts (.eff 3 (.take 8 (e1 9 (e1 10 .done))) (.eff 9 (e1 3 (.take 8 (e1 10 .done))) .nil))) (.eff 9 (.alts (.eff 3 (e1 7 (.take 8 (e1 10 .done))) (.eff 7 (e1 3 (.take 8 (e1 10 .done))) .nil))) .nil))))))))))) (.seq (sD 1 (.one (.loop [4] ([4] ++ rgN 29 15) (.seq (cD 5 lf lf) (.seq (.one (sD 5 (oD 5))) (oD 3)))))) (sD 2 (sD 2 (.seq (sD 1 (.one (.loop [6,7] ([6,7] ++ rgN 46 16) (.seq (cD 5 lf lf) (.seq (.one (oD 10)) (oD 3)))))) (.seq (sD 1 (.one (.loop [5,8] ([5,8] ++ rgN 62 36) (.seq (cD 4 lf lf) (.seq (.one (.seqJ [5] ([5] ++ rgN 68 16) (.seq (.draw (.take 0 (.hold 1 (tkN 2 3 (.hold 5 (.take 6 (.hold 7 (.take 8 .done)))))))) (.cond (oD 8) lf)) (.seq (.draw (.take 0 (.hold 1 (tkN 2 3 (.hold 5 (.take 6 (e1 7 .done))))))) (.draw (.take 0 (.hold 1 (tkN 2 3 (.hold 5 (.take 6 (e1 7 .done)))))))))) (oD 3)))))) (.seq (.one (.loop [5] ([5] ++ rgN 9 11 ++ rgN 98 179) (.seq (cD 3 lf lf) (.one (sD 7 (sD 6 (sD 7 (sD 4 (sD 6 (sD 6 (.seq (.reg (opn 4 (.join [136] [133,134,135,136] (.split 132 (opn 4 .done) (opn 4 .done)) (opn 1 (.join [141] [138,139,140,141] (.split 137 (opn 4 .done) (opn 4 .done)) (opn 1 .done)))))) (.seq (.reg (opn 4 (.join [149] [146,147,148,149] (.split 145 (opn 4 .done) (opn 4 .done)) (opn 1 (.join [154] [151,152,153,154] (.split 150 (opn 4 .done) (opn 4 .done)) (opn 1 .done)))))) (.seq (.seq (.reg (opn 2 (.join [159] [157,158,159] (.split 156 (opn 3 .done) (opn 3 .done)) (opn 1 (.join [166] (rgN 161 6) (.split 160 (opn 6 .done) (opn 2 (.join [165] [163,164,165] (.split 162 (opn 3 .done) (opn 3 .done)) (opn 1 .done)))) (opn 1 (.join [172] [168,169,170,171,172] (.split 167 (opn 5 .done) (opn 5 .done)) .done))))))) (.cond (sD 2 lf) lf)) (sD 8 (.seqJ [13] ([13] ++ rgN 181 14) (sD 2 (.one (.seqJ [183] [183,184,185,186] (cD 2 lf (cD 2 lf (oD 2))) (.cond (oD 3) (cD 2 (oD 5) lf))))) (sD 4 (.seq (sD 1 (.one (.loop [5,17] ([5,17,18,19] ++ rgN 198 76) (.seq (cD 4 lf lf) (.seqJ [5] ([5,18,19] ++ rgN 204 70) (.one (sD 2 (.seqJ [18] ([18] ++ rgN 205 20) (.seqJ [216] (rgN 205 12) (.draw (.take 0 (.hold 1 (.take 2 (.take 3 (.split 208 (tkN 4 3 (.hold 7 (.take 8 (.hold 9 (.take 10 (.take 11 .done)))))) (tkN 4 8 .done))))))) (.cond (.seq (cD 5 (sD 2 lf) lf) (oD 3)) lf)) (.seq (.seq (.reg (opn 3 (.join [231] [228,229,230,231] (.split 227 (opn 4 .done) (opn 4 .done)) .done))) (.cond (sD 2 lf) lf)) (sD 5 (cD 6 (sD 6 (sD 6 (oD 5))) (.seq (.reg (opn 8 (.join [272] (rgN 265 8) (.split 264 (opn 8 .done) (opn 8 .done)) .done))) (.cond (sD 2 lf) lf)))))))) (oD 3)))))) (cD 2 (sD 2 lf) lf)))))))))))))))))) (sD 2 lf)))))))))
def vc55 (R:Value->World->Prop) (w:World) (j1:Value):Prop:=
 V (bx 28 j1) w fun r w=>
 V (al 60) w fun i w=>
 ∀ K0:LP,(∀ a,∀ w,(∀ g:Env,
 Lp1 (.int .i64 0) w fun I0 M0 y w m0=>
 V (fa 28 r 5) w fun k1 w=>
 V (ld 26 k1) w fun l1 w=>
 V (ln 26 l1) w fun n1 w=>
 V (bi .lss 3 y n1) w fun o1 w=>
 CondW o1
 (V (fa 60 a 0) w fun p1 w=>
 V (ld 45 p1) w fun q1 w=>
 V (ia 45 q1 y) w fun r1 w=>
 U (st 3 r1 (.int .i64 (-1))) w fun w=>
 V (fa 60 a 1) w fun s1 w=>
 V (ld 45 s1) w fun u1 w=>
 V (ia 45 u1 y) w fun v1 w=>
 U (st 3 v1 (.int .i64 (-1))) w fun w=>
 V (bi .add 3 y (.int .i64 1)) w fun l0 w=>
 I0 [l0] w/\M0 [l0] w < m0)
 (V (bs 45 0 #[]) w fun x1 w=>
 V (bs 45 1 #[(0,(.int .i64 0))]) w fun y1 w=>
 Lp2 y1 (.int .i64 0) w fun I1 M1 s f0 w m1=>
 V (fa 28 r 3) w fun z1 w=>
 V (ld 25 z1) w fun a2 w=>
 V (ln 25 a2) w fun b2 w=>
 V (bi .lss 3 f0 b2) w fun c2 w=>
 CondW c2
 (V (fa 28 r 3) w fun d2 w=>
 V (ld 25 d2) w fun f2 w=>
 V (ia 25 f2 f0) w fun h2 w=>
 V (fa 54 h2 1) w fun i2 w=>
 V (ld 3 i2) w fun j2 w=>
 V (bs 45 1 #[(0,j2)]) w fun k2 w=>
 V (Builtin.append_ #[45,45] 45 #[s,k2]) w fun n0 w=>
 V (bi .add 3 f0 (.int .i64 1)) w fun o0 w=>
 I1 [n0,o0] w/\M1 [n0,o0] w < m1)
 (Lp2 x1 (.int .i64 0) w fun I2 M2 h0 t w m2=>
 V (ln 45 s) w fun l2 w=>
 V (bi .lss 3 t l2) w fun n2 w=>
 CondW n2
 (∀ K0:LP,(∀ q,∀ w,(∀ g:Env,
 Dr w fun w=>
 PV (fa 60 a 0) fun o2=>
 HV (ld 45 o2) w fun p2=>
 PV (ia 45 s t) fun q2=>
 HV (ld 3 q2) w fun r2=>
 PV (ia 45 p2 r2) fun s2=>
 U (st 3 s2 (.int .i64 0)) w fun w=>
 Dr w fun w=>
 PV (fa 60 a 1) fun u2=>
 HV (ld 45 u2) w fun v2=>
 PV (ia 45 s t) fun x2=>
 HV (ld 3 x2) w fun y2=>
 PV (ia 45 v2 y2) fun z2=>
 U (st 3 z2 (.int .i64 0)) w fun w=>
 V (bi .add 3 t (.int .i64 1)) w fun p0 w=>
 I2 [q,p0] w/\M2 [q,p0] w < m2)->K0 [q] w) ->
 Dr w fun w=>
 PV (fa 60 a 0) fun a3=>
 HV (ld 45 a3) w fun b3=>
 PV (ia 45 s t) fun c3=>
 HV (ld 3 c3) w fun d3=>
 PV (ia 45 b3 d3) fun f3=>
 HV (ld 3 f3) w fun h3=>
 PV (bi .lss 3 h3 (.int .i64 0)) fun i3=>
 CondW i3
 (V (ia 45 s t) w fun j3 w=>
 V (ld 3 j3) w fun k3 w=>
 V (bs 45 1 #[(0,k3)]) w fun l3 w=>
 V (Builtin.append_ #[45,45] 45 #[h0,l3]) w fun n3 w=>
 K0 [n3] w)
 (K0 [h0] w))
 (Lp1 h0 w fun I3 M3 q w m3=>
 V (ln 45 q) w fun o3 w=>
 V (bi .gtr 3 o3 (.int .i64 0)) w fun p3 w=>
 CondW p3
 (V (ln 45 q) w fun q3 w=>
 V (bi .sub 3 q3 (.int .i64 1)) w fun r3 w=>
 V (ia 45 q r3) w fun s3 w=>
 V (ld 3 s3) w fun x w=>
 V (ln 45 q) w fun u3 w=>
 V (bi .sub 3 u3 (.int .i64 1)) w fun v3 w=>
 V (sl 45 q none (some v3) none) w fun x3 w=>
 V (fa 28 r 5) w fun y3 w=>
 V (ld 26 y3) w fun z3 w=>
 V (ia 26 z3 x) w fun a4 w=>
 V (ld 38 a4) w fun b4 w=>
 V (al 38) w fun h w=>
 U (st 38 h b4) w fun w=>
 V (ld 38 h) w fun c4 w=>
 CV (.func (.func 18) #[] #[]) #[c4] w fun d4 w=>
 V (al 42) w fun z w=>
 U (st 42 z d4) w fun w=>
 V (fa 60 a 0) w fun f4 w=>
 V (ld 45 f4) w fun h4 w=>
 V (ia 45 h4 x) w fun i4 w=>
 V (ld 3 i4) w fun i0 w=>
 V (fa 60 a 1) w fun j4 w=>
 V (ld 45 j4) w fun k4 w=>
 V (ia 45 k4 x) w fun l4 w=>
 V (ld 3 l4) w fun a0 w=>
 V (fa 38 h 0) w fun n4 w=>
 V (ld 3 n4) w fun o4 w=>
 V (ec .eql 3 130 o4 (.int .i64 1)) w fun p4 w=>
 ∀ K0:LP,(∀ q0,∀ w,(∀ g:Env,
 ∀ K0:LP,(∀ r0,∀ w,(∀ g:Env,
 V (fa 38 h 0) w fun q4 w=>
 V (ld 3 q4) w fun r4 w=>
 V (ec .eql 3 143 r4 (.int .i64 30)) w fun s4 w=>
 ∀ K0:LP,(∀ s0,∀ w,(∀ g:Env,
 ∀ K0:LP,(∀ u0,∀ w,(∀ g:Env,
 ∀ K0:LP,(∀ v0,∀ w,(∀ g:Env,
 ∀ K0:LP,(∀ x0,∀ w,(∀ g:Env,
 ∀ K0:LP,(∀ y0,∀ w,(∀ g:Env,
 CondW y0
 (V (bd 60 #[(2,(.int .i64 12))]) w fun u4 w=>
 U (st 60 i u4) w fun w=>
 CW 60 i w fun j=>R j w)
 (V (fa 42 z 0) w fun v4 w=>
 V (ld 3 v4) w fun x4 w=>
 V (bi .sub 3 i0 x4) w fun y4 w=>
 V (fa 42 z 1) w fun z4 w=>
 V (ld 3 z4) w fun a5 w=>
 V (bi .add 3 y4 a5) w fun j0 w=>
 ∀ K0:LP,(∀ b0,∀ w,(∀ g:Env,
 V (ld 28 r) w fun b5 w=>
 CV (.func (.func 31) #[] #[]) #[b5,x] w fun k0 w=>
 ∃ (I4:LP) (M4:LN),I4 [x3,(.int .i64 0)] w/\∀ g:Env,∀ t5b,∀ u,∀ w,I4 [t5b,u] w->∀ m4,m4 = M4 [t5b,u] w ->
 V (ln 45 k0) w fun c5 w=>
 V (bi .lss 3 u c5) w fun d5 w=>
 CondW d5
 (∀ K0:LP,(∀ t5c,∀ w,(∀ g:Env,
 V (bi .add 3 u (.int .i64 1)) w fun z0 w=>
 I4 [t5c,z0] w/\M4 [t5c,z0] w < m4)->K0 [t5c] w) ->
 ∀ K1:LP,(∀ c0,∀ w,(∀ g:Env,
 V (bi .gtr 3 j0 (.int .i64 200)) w fun f5 w=>
 ∀ K1:LP,(∀ a1,∀ w,(∀ g:Env,
 CondW a1
 (V (bd 60 #[(2,(.int .i64 12))]) w fun h5 w=>
 U (st 60 i h5) w fun w=>
 CW 60 i w fun j=>R j w)
 (V (ia 45 k0 u) w fun i5 w=>
 V (ld 3 i5) w fun v w=>
 V (fa 60 a 0) w fun j5 w=>
 V (ld 45 j5) w fun k5 w=>
 V (ia 45 k5 v) w fun l5 w=>
 V (ld 3 l5) w fun n5 w=>
 V (bi .lss 3 n5 (.int .i64 0)) w fun o5 w=>
 CondW o5
 (V (fa 60 a 0) w fun p5 w=>
 V (ld 45 p5) w fun q5 w=>
 V (ia 45 q5 v) w fun r5 w=>
 U (st 3 r5 j0) w fun w=>
 V (fa 60 a 1) w fun s5 w=>
 V (ld 45 s5) w fun u5 w=>
 V (ia 45 u5 v) w fun v5 w=>
 U (st 3 v5 c0) w fun w=>
 V (bs 45 1 #[(0,v)]) w fun x5 w=>
 V (Builtin.append_ #[45,45] 45 #[t5b,x5]) w fun y5 w=>
 K0 [y5] w)
 (V (fa 60 a 0) w fun z5 w=>
 V (ld 45 z5) w fun a6 w=>
 V (ia 45 a6 v) w fun b6 w=>
 V (ld 3 b6) w fun c6 w=>
 V (et .neq 3 261 262 c6 j0) w fun d6 w=>
 ∀ K1:LP,(∀ b1,∀ w,(∀ g:Env,
 CondW b1
 (V (bd 60 #[(2,(.int .i64 12))]) w fun f6 w=>
 U (st 60 i f6) w fun w=>
 CW 60 i w fun j=>R j w)
 (K0 [t5b] w))->K1 [b1] w) ->
 CondW d6
 (K1 [(.bool true)] w)
 (V (fa 60 a 1) w fun h6 w=>
 V (ld 45 h6) w fun i6 w=>
 V (ia 45 i6 v) w fun j6 w=>
 V (ld 3 j6) w fun k6 w=>
 V (et .neq 3 269 270 k6 c0) w fun l6 w=>
 K1 [l6] w))))->K1 [a1] w) ->
 CondW f5
 (K1 [(.bool true)] w)
 (CV (.func (.func 59) #[] #[]) #[c0,(.int .i64 0),(.int .i64 40)] w fun n6 w=>
 V (un .not n6) w fun o6 w=>
 K1 [o6] w))->K1 [c0] w) ->
 ∀ K2:LP,(∀ c1,∀ w,(∀ g:Env,
 CondW c1
 (V (fa 38 h 1) w fun p6 w=>
 V (ld 3 p6) w fun q6 w=>
 V (bi .add 3 x (.int .i64 1)) w fun r6 w=>
 V (et .eql 3 218 220 q6 r6) w fun s6 w=>
 CondW s6
 (V (bd 60 #[(2,(.int .i64 12))]) w fun u6 w=>
 U (st 60 i u6) w fun w=>
 CW 60 i w fun j=>R j w)
 (V (bi .sub 3 b0 (.int .i64 1)) w fun v6 w=>
 K1 [v6] w))
 (K1 [b0] w))->K2 [c1] w) ->
 Dr w fun w=>
 PV (fa 38 h 0) fun x6=>
 HV (ld 3 x6) w fun y6=>
 PV (ec .eql 3 206 y6 (.int .i64 30)) fun z6=>
 CondW z6
 (PV (ia 45 k0 u) fun a7=>
 HV (ld 3 a7) w fun b7=>
 PV (fa 38 h 1) fun c7=>
 HV (ld 3 c7) w fun d7=>
 PV (et .eql 3 212 214 b7 d7) fun f7=>
 K2 [f7] w)
 (K2 [(.bool false)] w))
 (V (bi .lss 3 b0 (.int .i64 0)) w fun h7 w=>
 CondW h7
 (V (bd 60 #[(2,(.int .i64 12))]) w fun i7 w=>
 U (st 60 i i7) w fun w=>
 CW 60 i w fun j=>R j w)
 (I3 [t5b] w/\M3 [t5b] w < m3)))->K0 [b0] w) ->
 V (fa 38 h 0) w fun j7 w=>
 V (ld 3 j7) w fun d0 w=>
 ∀ K1:LP,(∀ d1,∀ w,(∀ g:Env,
 CondW d1
 (V (bi .add 3 a0 (.int .i64 1)) w fun k7 w=>
 K0 [k7] w)
 (V (ec .eql 3 182 d0 (.int .i64 33)) w fun l7 w=>
 CondW l7
 (V (fa 38 h 1) w fun n7 w=>
 V (ld 3 n7) w fun o7 w=>
 V (bi .sub 3 a0 o7) w fun p7 w=>
 K0 [p7] w)
 (K0 [a0] w)))->K1 [d1] w) ->
 V (ec .eql 3 182 d0 (.int .i64 27)) w fun f1 w=>
 CondW f1
 (K1 [f1] w)
 (V (ec .eql 3 182 d0 (.int .i64 28)) w fun h1 w=>
 CondW h1
 (K1 [h1] w)
 (V (ec .eql 3 182 d0 (.int .i64 29)) w fun q7 w=>
 K1 [q7] w))))->K0 [y0] w) ->
 CondW x0
 (K0 [(.bool true)] w)
 (V (fa 42 z 0) w fun r7 w=>
 V (ld 3 r7) w fun s7 w=>
 V (bi .lss 3 i0 s7) w fun u7 w=>
 K0 [u7] w))->K0 [x0] w) ->
 CondW v0
 (K0 [(.bool true)] w)
 (∀ K1:LP,(∀ i1,∀ w,(∀ g:Env,
 K0 [i1] w)->K1 [i1] w) ->
 CondW u0
 (V (bi .lss 3 a0 (.int .i64 1)) w fun v7 w=>
 K1 [v7] w)
 (K1 [(.bool false)] w)))->K0 [v0] w) ->
 CondW r0
 (V (ec .neq 3 157 i0 (.int .i64 0)) w fun x7 w=>
 K0 [x7] w)
 (K0 [(.bool false)] w))->K0 [u0] w) ->
 CondW s0
 (K0 [(.bool true)] w)
 (V (fa 38 h 0) w fun y7 w=>
 V (ld 3 y7) w fun z7 w=>
 V (ec .eql 3 152 z7 (.int .i64 32)) w fun a8 w=>
 K0 [a8] w))->K0 [s0] w) ->
 CondW s4
 (K0 [(.bool true)] w)
 (V (fa 38 h 0) w fun b8 w=>
 V (ld 3 b8) w fun c8 w=>
 V (ec .eql 3 147 c8 (.int .i64 31)) w fun d8 w=>
 K0 [d8] w))->K0 [r0] w) ->
 CondW q0
 (K0 [(.bool true)] w)
 (V (fa 38 h 0) w fun f8 w=>
 V (ld 3 f8) w fun h8 w=>
 V (ec .eql 3 139 h8 (.int .i64 31)) w fun i8 w=>
 K0 [i8] w))->K0 [q0] w) ->
 CondW p4
 (K0 [(.bool true)] w)
 (V (fa 38 h 0) w fun j8 w=>
 V (ld 3 j8) w fun k8 w=>
 V (ec .eql 3 134 k8 (.int .i64 2)) w fun l8 w=>
 K0 [l8] w))
 (V (ld 60 a) w fun n8 w=>
 U (st 60 i n8) w fun w=>
 CW 60 i w fun j=>R j w)))))->K0 [a] w) ->
 Dr w fun w=>
 PV (fa 28 r 5) fun b=>
 HV (ld 26 b) w fun c=>
 PV (ln 26 c) fun l=>
 PV (fa 28 r 5) fun d=>
 HV (ld 26 d) w fun f=>
 PV (ln 26 f) fun n=>
 (V (ms 45 l l) w fun o w=>
 RunIs (ld 26 d) w f/\RunIs (ld 26 b) w c/\((V (ms 45 n n) w fun p w=>
 RunIs (ld 26 d) w f/\RunIs (ld 26 b) w c/\(PV (bd 60 #[(0,o),(1,p)]) fun k=>
 V (al 60) w fun a w=>
 RunIs (ld 26 d) w f/\RunIs (ld 26 b) w c/\(U (st 60 a k) w fun w=>
 K0 [a] w))) /\
 (V (al 60) w fun a w=>
 RunIs (ld 26 d) w f/\RunIs (ld 26 b) w c/\(V (ms 45 n n) w fun p w=>
 RunIs (ld 26 d) w f/\RunIs (ld 26 b) w c/\(PV (bd 60 #[(0,o),(1,p)]) fun k=>
 U (st 60 a k) w fun w=>
 K0 [a] w))))) /\
 (V (ms 45 n n) w fun p w=>
 RunIs (ld 26 d) w f/\RunIs (ld 26 b) w c/\((V (ms 45 l l) w fun o w=>
 RunIs (ld 26 d) w f/\RunIs (ld 26 b) w c/\(PV (bd 60 #[(0,o),(1,p)]) fun k=>
 V (al 60) w fun a w=>
 RunIs (ld 26 d) w f/\RunIs (ld 26 b) w c/\(U (st 60 a k) w fun w=>
 K0 [a] w))) /\
 (V (al 60) w fun a w=>
 RunIs (ld 26 d) w f/\RunIs (ld 26 b) w c/\(V (ms 45 l l) w fun o w=>
 RunIs (ld 26 d) w f/\RunIs (ld 26 b) w c/\(PV (bd 60 #[(0,o),(1,p)]) fun k=>
 U (st 60 a k) w fun w=>
 K0 [a] w))))) /\
 (V (al 60) w fun a w=>
 RunIs (ld 26 d) w f/\RunIs (ld 26 b) w c/\((V (ms 45 l l) w fun o w=>
 RunIs (ld 26 d) w f/\RunIs (ld 26 b) w c/\(V (ms 45 n n) w fun p w=>
 RunIs (ld 26 d) w f/\RunIs (ld 26 b) w c/\(PV (bd 60 #[(0,o),(1,p)]) fun k=>
 U (st 60 a k) w fun w=>
 K0 [a] w))) /\
 (V (ms 45 n n) w fun p w=>
 RunIs (ld 26 d) w f/\RunIs (ld 26 b) w c/\(V (ms 45 l l) w fun o w=>
 RunIs (ld 26 d) w f/\RunIs (ld 26 b) w c/\(PV (bd 60 #[(0,o),(1,p)]) fun k=>
 U (st 60 a k) w fun w=>
 K0 [a] w)))))
theorem en55 (h:vc55 R w t0):Calls Tryz.prog 55 #[t0] w (retK R):=enE ⟨by kernel_rfl,by kernel_rfl⟩ (by kernel_rfl:enterW Tryz.prog Tryz.f55 an55 [t0] w R = _) h
def an56:Ann:=(sD 1 (sD 25 (.seq (sD 9 (cD 1 (sD 7 lf) lf)) (.seq (.reg (opn 3 (.join [46] (rgN 39 8) (.split 38 (opn 8 .done) (opn 3 (.join [45] [42,43,44,45] (.split 41 (opn 4 .done) (opn 4 .done)) (opn 1 .done)))) (opn 1 .done)))) lf))))
def vc56 (R:Value->World->Prop) (w:World) (b d:Value):Prop:=
 V (mm 245 none) w fun a w=>
 V (bd 219 #[(0,(.int .i64 0)),(1,(.int .i64 0))]) w fun j w=>
 U (mu 245 a (.int .i64 0) j) w fun w=>
 V (bd 219 #[(0,(.int .i64 0)),(1,(.int .i64 1))]) w fun k w=>
 U (mu 245 a (.int .i64 14) k) w fun w=>
 V (bd 219 #[(0,(.int .i64 0)),(1,(.int .i64 2))]) w fun l w=>
 U (mu 245 a (.int .i64 15) l) w fun w=>
 V (bd 219 #[(0,(.int .i64 0)),(1,(.int .i64 10))]) w fun n w=>
 U (mu 245 a (.int .i64 16) n) w fun w=>
 CV (.func (.func 168) #[] #[]) #[] w fun o w=>
 V (ln 22 o) w fun p w=>
 V (bd 219 #[(0,(.int .i64 1)),(1,p)]) w fun q w=>
 U (mu 245 a (.int .i64 17) q) w fun w=>
 CV (.func (.func 169) #[] #[]) #[] w fun r w=>
 V (ln 22 r) w fun s w=>
 V (bd 219 #[(0,(.int .i64 1)),(1,s)]) w fun t w=>
 U (mu 245 a (.int .i64 18) t) w fun w=>
 V (bd 219 #[(0,(.int .i64 1)),(1,(.int .i64 6))]) w fun u w=>
 U (mu 245 a (.int .i64 19) u) w fun w=>
 V (bd 219 #[(0,(.int .i64 1)),(1,(.int .i64 40))]) w fun v w=>
 U (mu 245 a (.int .i64 20) v) w fun w=>
 V (bd 219 #[(0,(.int .i64 1)),(1,(.int .i64 99))]) w fun x w=>
 U (mu 245 a (.int .i64 21) x) w fun w=>
 V (lk 245 a b true) w fun f w=>
 V (ex f 0) w fun y w=>
 V (ex f 1) w fun z w=>
 V (al 219) w fun c w=>
 U (st 219 c y) w fun w=>
 CondW z
 (V (ia 219 c (.int .i64 0)) w fun a0 w=>
 V (ld 3 a0) w fun b0 w=>
 V (ia 219 c (.int .i64 1)) w fun c0 w=>
 V (ld 3 c0) w fun d0 w=>
 CV (.func (.func 75) #[] #[]) #[d,b0,d0] w fun f0 w=>
 R f0 w)
 (V (ec .eql 3 36 b (.int .i64 23)) w fun h0 w=>
 ∀ K0:LP,(∀ h,∀ w,(∀ g:Env,
 R h w)->K0 [h] w) ->
 CondW h0
 (K0 [(.bool true)] w)
 (V (ec .eql 3 39 b (.int .i64 22)) w fun i0 w=>
 ∀ K1:LP,(∀ i,∀ w,(∀ g:Env,
 K0 [i] w)->K1 [i] w) ->
 CondW i0
 (CV (.func (.func 57) #[] #[]) #[d] w fun j0 w=>
 V (bi .geq 3 j0 (.int .i64 0)) w fun k0 w=>
 K1 [k0] w)
 (K1 [(.bool false)] w)))
theorem en56 (h:vc56 R w t0 t1):Calls Tryz.prog 56 #[t0,t1] w (retK R):=enE ⟨by kernel_rfl,by kernel_rfl⟩ (by kernel_rfl:enterW Tryz.prog Tryz.f56 an56 [t0,t1] w R = _) h
def an57:Ann:=(sD 1 (sD 10 (sD 1 (.seq (.one (.loop [4] ([2,4] ++ rgN 14 19) (.seq (.seq (.reg (opn 3 (.join [22] (rgN 17 6) (.split 16 (opn 6 .done) (opn 6 .done)) .done))) (.cond lf lf)) (.one (.seq (.seq (.draw (tkN 0 6 (.hold 6 (e1 7 .done)))) (.cond (sD 1 lf) lf)) (oD 3)))))) (.seq (.seq (.reg (opn 4 (.join [42] (rgN 37 6) (.split 36 (opn 6 .done) (opn 6 .done)) .done))) (.cond (sD 1 lf) lf)) (sD 2 lf))))))
def vc57 (R:Value->World->Prop) (w:World) (b:Value):Prop:=
 V (bi .and 3 b (.int .i64 3)) w fun i w=>
 V (bi .shr 3 b (.int .u64 2)) w fun j w=>
 V (bi .and 3 j (.int .i64 3)) w fun k w=>
 V (bi .shr 3 b (.int .u64 4)) w fun l w=>
 V (bi .and 3 l (.int .i64 3)) w fun n w=>
 V (bs 45 3 #[(0,i),(1,k),(2,n)]) w fun c w=>
 Lp1 (.int .i64 0) w fun I0 M0 a w m0=>
 V (bi .lss 3 a (.int .i64 3)) w fun o w=>
 ∀ K0:LP,(∀ d,∀ w,(∀ g:Env,
 CondW d
 (Dr w fun w=>
 PV (sl 45 c none (some a) none) fun p=>
 PV (ia 45 c a) fun q=>
 HV (ld 3 q) w fun r=>
 CV (.func (.func 76) #[] #[]) #[p,r] w fun s w=>
 CondW s
 (R (.int .i64 (-1)) w)
 (V (bi .add 3 a (.int .i64 1)) w fun f w=>
 I0 [f] w/\M0 [f] w < m0))
 (V (bi .shr 3 b (.int .u64 6)) w fun t w=>
 V (ec .neq 3 34 t (.int .i64 0)) w fun u w=>
 ∀ K0:LP,(∀ h,∀ w,(∀ g:Env,
 CondW h
 (R (.int .i64 (-1)) w)
 (R a w))->K0 [h] w) ->
 CondW u
 (K0 [(.bool true)] w)
 (V (sl 45 c (some a) none none) w fun v w=>
 CV (.func (.func 170) #[] #[]) #[v,(.func (.func 171) #[] #[])] w fun x w=>
 V (un .not x) w fun y w=>
 K0 [y] w)))->K0 [d] w) ->
 CondW o
 (V (ia 45 c a) w fun z w=>
 V (ld 3 z) w fun a0 w=>
 V (ec .neq 3 20 a0 (.int .i64 0)) w fun b0 w=>
 K0 [b0] w)
 (K0 [(.bool false)] w)
theorem en57 (h:vc57 R w t0):Calls Tryz.prog 57 #[t0] w (retK R):=enE ⟨by kernel_rfl,by kernel_rfl⟩ (by kernel_rfl:enterW Tryz.prog Tryz.f57 an57 [t0] w R = _) h
def an58:Ann:=(sD 3 (.seq (cD 4 (sD 3 lf) lf) (.seq (.draw (.take 1 (.hold 2 (e1 0 (.take 3 (.hold 4 (e1 5 (.take 6 .done)))))))) lf)))
def vc58 (R:Value->World->Prop) (w:World) (h:Value):Prop:=
 V (bx 38 h) w fun c w=>
 V (al 108) w fun a w=>
 V (fa 38 c 0) w fun i w=>
 V (ld 3 i) w fun j w=>
 CV (.func (.func 59) #[] #[]) #[j,(.int .i64 1),(.int .i64 46)] w fun k w=>
 V (un .not k) w fun l w=>
 CondW l
 (V (bd 108 #[]) w fun n w=>
 U (st 108 a n) w fun w=>
 CW 108 a w fun b=>R (.tuple #[b,(.bool false)]) w)
 (Dr w fun w=>
 PV (fa 38 c 0) fun d=>
 HV (ld 3 d) w fun f=>
 CV (.func (.func 54) #[] #[]) #[] w fun o w=>
 RunIs (ld 3 d) w f/\(PV (ia 109 o f) fun p=>
 HV (ld 108 p) w fun q=>
 U (st 108 a q) w fun w=>
 CW 108 a w fun b=>R (.tuple #[b,(.bool true)]) w))
theorem en58 (h:vc58 R w t0):Calls Tryz.prog 58 #[t0] w (retK R):=enE ⟨by kernel_rfl,by kernel_rfl⟩ (by kernel_rfl:enterW Tryz.prog Tryz.f58 an58 [t0] w R = _) h
def an59:Ann:=(sD 1 (.seq (.reg (opn 4 (.join [14] [11,12,13,14] (.split 10 (opn 4 .done) (opn 4 .done)) (opn 1 .done)))) lf))
def vc59 (R:Value->World->Prop) (w:World) (a c d:Value):Prop:=
 V (bi .geq 3 a c) w fun f w=>
 ∀ K0:LP,(∀ b,∀ w,(∀ g:Env,
 R b w)->K0 [b] w) ->
 CondW f
 (V (bi .leq 3 a d) w fun h w=>
 K0 [h] w)
 (K0 [(.bool false)] w)
theorem en59 (h:vc59 R w t0 t1 t2):Calls Tryz.prog 59 #[t0,t1,t2] w (retK R):=enE ⟨by kernel_rfl,by kernel_rfl⟩ (by kernel_rfl:enterW Tryz.prog Tryz.f59 an59 [t0,t1,t2] w R = _) h
def an60:Ann:=(sD 1 (.seq (cD 3 (sD 1 lf) lf) (sD 9 (sD 1 (.seq (.one (.loop [4] ([4] ++ rgN 18 11) (.seq (.seq (.reg (opn 3 (.join [26] (rgN 21 6) (.split 20 (opn 6 .done) (opn 6 .done)) .done))) (.cond lf lf)) (.one (oD 3))))) (.seq (sD 1 (.one (.loop [5] ([2,5,6] ++ rgN 29 33) (.seq (cD 2 lf lf) (.seq (.one (.seq (.seq (.reg (opn 4 (.join [42] (rgN 37 6) (.split 36 (opn 6 .done) (opn 6 .done)) .done))) (.cond (sD 1 lf) lf)) (sD 1 (.one (.loop [6] ([2,6] ++ rgN 43 19) (.seq (.seq (.reg (opn 4 (.join [50] [47,48,49,50] (.split 46 (opn 4 .done) (opn 4 .done)) .done))) (.cond lf lf)) (.seq (.one (.seq (.draw (tkN 0 3 (.hold 3 (tkN 4 3 (.hold 7 (.take 8 .done)))))) (.cond (sD 1 lf) lf))) (oD 3)))))))) (oD 3)))))) (sD 2 lf)))))))
def vc60 (R:Value->World->Prop) (w:World) (c:Value):Prop:=
 CV (.func (.func 59) #[] #[]) #[c,(.int .i64 0),(.int .i64 63)] w fun o w=>
 V (un .not o) w fun p w=>
 CondW p
 (R (.int .i64 (-1)) w)
 (V (bi .rem 3 c (.int .i64 4)) w fun q w=>
 V (bi .quo 3 c (.int .i64 4)) w fun r w=>
 V (bi .rem 3 r (.int .i64 4)) w fun s w=>
 V (bi .quo 3 c (.int .i64 16)) w fun t w=>
 V (bs 45 3 #[(0,q),(1,s),(2,t)]) w fun d w=>
 Lp1 (.int .i64 0) w fun I0 M0 b w m0=>
 V (bi .lss 3 b (.int .i64 3)) w fun u w=>
 ∀ K0:LP,(∀ h,∀ w,(∀ g:Env,
 CondW h
 (V (bi .add 3 b (.int .i64 1)) w fun i w=>
 I0 [i] w/\M0 [i] w < m0)
 (Lp1 (.int .i64 0) w fun I1 M1 a w m1=>
 V (bi .lss 3 a (.int .i64 3)) w fun v w=>
 CondW v
 (V (bi .geq 3 a b) w fun x w=>
 ∀ K0:LP,(∀ j,∀ w,(∀ g:Env,
 CondW j
 (R (.int .i64 (-1)) w)
 (Lp1 (.int .i64 0) w fun I2 M2 f w m2=>
 V (bi .lss 3 f a) w fun y w=>
 ∀ K0:LP,(∀ k,∀ w,(∀ g:Env,
 CondW k
 (Dr w fun w=>
 PV (ia 45 d a) fun z=>
 HV (ld 3 z) w fun a0=>
 PV (ia 45 d f) fun b0=>
 HV (ld 3 b0) w fun c0=>
 PV (et .eql 3 56 60 a0 c0) fun d0=>
 CondW d0
 (R (.int .i64 (-1)) w)
 (V (bi .add 3 f (.int .i64 1)) w fun l w=>
 I2 [l] w/\M2 [l] w < m2))
 (V (bi .add 3 a (.int .i64 1)) w fun n w=>
 I1 [n] w/\M1 [n] w < m1))->K0 [k] w) ->
 CondW y
 (V (bi .lss 3 a b) w fun f0 w=>
 K0 [f0] w)
 (K0 [(.bool false)] w)))->K0 [j] w) ->
 CondW x
 (V (ia 45 d a) w fun h0 w=>
 V (ld 3 h0) w fun i0 w=>
 V (ec .neq 3 40 i0 (.int .i64 0)) w fun j0 w=>
 K0 [j0] w)
 (K0 [(.bool false)] w))
 (R b w)))->K0 [h] w) ->
 CondW u
 (V (ia 45 d b) w fun k0 w=>
 V (ld 3 k0) w fun l0 w=>
 V (ec .neq 3 24 l0 (.int .i64 0)) w fun n0 w=>
 K0 [n0] w)
 (K0 [(.bool false)] w))
theorem en60 (h:vc60 R w t0):Calls Tryz.prog 60 #[t0] w (retK R):=enE ⟨by kernel_rfl,by kernel_rfl⟩ (by kernel_rfl:enterW Tryz.prog Tryz.f60 an60 [t0] w R = _) h
def an61:Ann:=(sD 2 (sD 2 lf))
def vc61 (R:Value->World->Prop) (w:World) (a:Value):Prop:=
 V (bx 121 a) w fun b w=>
 R (.func (.func 172) #[] #[b]) w
theorem en61 (h:vc61 R w t0):Calls Tryz.prog 61 #[t0] w (retK R):=enE ⟨by kernel_rfl,by kernel_rfl⟩ (by kernel_rfl:enterW Tryz.prog Tryz.f61 an61 [t0] w R = _) h
def an62:Ann:=(sD 2 (.seq (sD 1 (.one (.seqJ [6] (rgN 6 8) (cD 2 lf (cD 2 lf (cD 2 lf (cD 2 lf (cD 2 lf (cD 2 lf (oD 2))))))) (.cond (sD 3 lf) (cD 2 (sD 3 lf) (.seqJ [20] [20,21,22] (cD 2 lf (oD 2)) (.cond (sD 3 lf) lf))))))) (sD 1 lf)))
def vc62 (R:Value->World->Prop) (w:World) (o a:Value):Prop:=
 V (bx 117 o) w fun b w=>
 ∀ K0:LP,(∀ c,∀ w,(∀ g:Env,
 CondW c
 (V (fa 117 b 0) w fun p w=>
 V (ld 115 p) w fun q w=>
 R q w)
 (V (ec .eql 3 5 a (.int .i64 10)) w fun r w=>
 CondW r
 (V (fa 117 b 1) w fun s w=>
 V (ld 115 s) w fun t w=>
 R t w)
 (∀ K0:LP,(∀ d,∀ w,(∀ g:Env,
 CondW d
 (V (fa 117 b 2) w fun u w=>
 V (ld 115 u) w fun v w=>
 R v w)
 (R (.map none) w))->K0 [d] w) ->
 V (ec .eql 3 5 a (.int .i64 11)) w fun f w=>
 CondW f
 (K0 [f] w)
 (V (ec .eql 3 5 a (.int .i64 12)) w fun x w=>
 K0 [x] w))))->K0 [c] w) ->
 V (ec .eql 3 5 a (.int .i64 2)) w fun h w=>
 CondW h
 (K0 [h] w)
 (V (ec .eql 3 5 a (.int .i64 3)) w fun i w=>
 CondW i
 (K0 [i] w)
 (V (ec .eql 3 5 a (.int .i64 4)) w fun j w=>
 CondW j
 (K0 [j] w)
 (V (ec .eql 3 5 a (.int .i64 5)) w fun k w=>
 CondW k
 (K0 [k] w)
 (V (ec .eql 3 5 a (.int .i64 6)) w fun l w=>
 CondW l
 (K0 [l] w)
 (V (ec .eql 3 5 a (.int .i64 7)) w fun n w=>
 CondW n
 (K0 [n] w)
 (V (ec .eql 3 5 a (.int .i64 8)) w fun y w=>
 K0 [y] w))))))
theorem en62 (h:vc62 R w t0 t1):Calls Tryz.prog 62 #[t0,t1] w (retK R):=enE ⟨by kernel_rfl,by kernel_rfl⟩ (by kernel_rfl:enterW Tryz.prog Tryz.f62 an62 [t0,t1] w R = _) h
def an63:Ann:=(sD 2 (sD 1 (sD 4 (.seq (sD 3 (.one (.loop [6,14] ([6,8,9] ++ rgN 14 17) (sD 1 (.seq (.cond lf lf) (.seqJ [6] ([6,8,9] ++ rgN 16 14) (.one (sD 5 (cD 3 (sD 5 (oD 5)) lf))) (oD 2))))))) (sD 4 lf)))))
def vc63 (R:Value->World->Prop) (w:World) (f i:Value):Prop:=
 V (mm 124 none) w fun c w=>
 U (mu 124 c (.int .i64 (-1)) (.int .i64 (-1))) w fun w=>
 V (ln 22 f) w fun j w=>
 Lp2 (.slice none 0 0) (.int .i64 0) w fun I0 M0 b a w m0=>
 V (bi .lss 3 a j) w fun k w=>
 CondW k
 (∀ K0:LP,(∀ d,∀ w,(∀ g:Env,
 V (bi .add 3 a (.int .i64 1)) w fun h w=>
 I0 [d,h] w/\M0 [d,h] w < m0)->K0 [d] w) ->
 V (ia 22 f a) w fun l w=>
 V (ld 9 l) w fun n w=>
 V (lk 115 i a false) w fun o w=>
 CondW o
 (V (ln 22 b) w fun p w=>
 U (mu 124 c a p) w fun w=>
 V (bs 22 1 #[(0,n)]) w fun q w=>
 V (Builtin.append_ #[22,22] 22 #[b,q]) w fun r w=>
 K0 [r] w)
 (K0 [b] w))
 (R (.tuple #[b,c]) w)
theorem en63 (h:vc63 R w t0 t1):Calls Tryz.prog 63 #[t0,t1] w (retK R):=enE ⟨by kernel_rfl,by kernel_rfl⟩ (by kernel_rfl:enterW Tryz.prog Tryz.f63 an63 [t0,t1] w R = _) h
def an64:Ann:=(sD 2 (sD 1 (sD 4 (.seq (sD 3 (.one (.loop [6,14] ([6,8,9] ++ rgN 14 17) (sD 1 (.seq (.cond lf lf) (.seqJ [6] ([6,8,9] ++ rgN 16 14) (.one (sD 5 (cD 3 (sD 5 (oD 5)) lf))) (oD 2))))))) (sD 4 lf)))))
def vc64 (R:Value->World->Prop) (w:World) (f i:Value):Prop:=
 V (mm 124 none) w fun c w=>
 U (mu 124 c (.int .i64 (-1)) (.int .i64 (-1))) w fun w=>
 V (ln 23 f) w fun j w=>
 Lp2 (.slice none 0 0) (.int .i64 0) w fun I0 M0 b a w m0=>
 V (bi .lss 3 a j) w fun k w=>
 CondW k
 (∀ K0:LP,(∀ d,∀ w,(∀ g:Env,
 V (bi .add 3 a (.int .i64 1)) w fun h w=>
 I0 [d,h] w/\M0 [d,h] w < m0)->K0 [d] w) ->
 V (ia 23 f a) w fun l w=>
 V (ld 93 l) w fun n w=>
 V (lk 115 i a false) w fun o w=>
 CondW o
 (V (ln 23 b) w fun p w=>
 U (mu 124 c a p) w fun w=>
 V (bs 23 1 #[(0,n)]) w fun q w=>
 V (Builtin.append_ #[23,23] 23 #[b,q]) w fun r w=>
 K0 [r] w)
 (K0 [b] w))
 (R (.tuple #[b,c]) w)
theorem en64 (h:vc64 R w t0 t1):Calls Tryz.prog 64 #[t0,t1] w (retK R):=enE ⟨by kernel_rfl,by kernel_rfl⟩ (by kernel_rfl:enterW Tryz.prog Tryz.f64 an64 [t0,t1] w R = _) h
def an65:Ann:=(sD 2 (sD 1 (sD 4 (.seq (sD 3 (.one (.loop [6,14] ([6,8,9] ++ rgN 14 17) (sD 1 (.seq (.cond lf lf) (.seqJ [6] ([6,8,9] ++ rgN 16 14) (.one (sD 5 (cD 3 (sD 5 (oD 5)) lf))) (oD 2))))))) (sD 4 lf)))))
def vc65 (R:Value->World->Prop) (w:World) (f i:Value):Prop:=
 V (mm 124 none) w fun c w=>
 U (mu 124 c (.int .i64 (-1)) (.int .i64 (-1))) w fun w=>
 V (ln 24 f) w fun j w=>
 Lp2 (.slice none 0 0) (.int .i64 0) w fun I0 M0 b a w m0=>
 V (bi .lss 3 a j) w fun k w=>
 CondW k
 (∀ K0:LP,(∀ d,∀ w,(∀ g:Env,
 V (bi .add 3 a (.int .i64 1)) w fun h w=>
 I0 [d,h] w/\M0 [d,h] w < m0)->K0 [d] w) ->
 V (ia 24 f a) w fun l w=>
 V (ld 96 l) w fun n w=>
 V (lk 115 i a false) w fun o w=>
 CondW o
 (V (ln 24 b) w fun p w=>
 U (mu 124 c a p) w fun w=>
 V (bs 24 1 #[(0,n)]) w fun q w=>
 V (Builtin.append_ #[24,24] 24 #[b,q]) w fun r w=>
 K0 [r] w)
 (K0 [b] w))
 (R (.tuple #[b,c]) w)
theorem en65 (h:vc65 R w t0 t1):Calls Tryz.prog 65 #[t0,t1] w (retK R):=enE ⟨by kernel_rfl,by kernel_rfl⟩ (by kernel_rfl:enterW Tryz.prog Tryz.f65 an65 [t0,t1] w R = _) h
def an66:Ann:=(sD 1 (.seq (sD 1 (.one (cD 2 (sD 5 lf) (cD 2 (sD 4 lf) (.seqJ [22] [22,23,24] (cD 2 lf (oD 2)) (.cond (sD 4 lf) lf)))))) (.seq (cD 4 (sD 4 lf) lf) (sD 2 lf))))
def vc66 (R:Value->World->Prop) (w:World) (a b f h i j k:Value):Prop:=
 V (ec .eql 3 10 a (.int .i64 13)) w fun l w=>
 CondW l
 (V (ld 45 f) w fun n w=>
 V (ia 45 n b) w fun o w=>
 V (ld 3 o) w fun p w=>
 R p w)
 (V (ec .eql 3 10 a (.int .i64 10)) w fun q w=>
 CondW q
 (V (ld 124 h) w fun r w=>
 V (lk 124 r b false) w fun s w=>
 R s w)
 (∀ K0:LP,(∀ c,∀ w,(∀ g:Env,
 CondW c
 (V (ld 124 i) w fun t w=>
 V (lk 124 t b false) w fun u w=>
 R u w)
 (V (ld 117 j) w fun v w=>
 CV (.func (.func 62) #[] #[]) #[v,a] w fun x w=>
 V (ec .neq 115 30 x (.map none)) w fun y w=>
 CondW y
 (V (ld 124 k) w fun z w=>
 V (lk 124 z b false) w fun a0 w=>
 R a0 w)
 (R b w)))->K0 [c] w) ->
 V (ec .eql 3 10 a (.int .i64 11)) w fun d w=>
 CondW d
 (K0 [d] w)
 (V (ec .eql 3 10 a (.int .i64 12)) w fun b0 w=>
 K0 [b0] w)))
theorem en66 (h:vc66 R w t0 t1 t2 t3 t4 t5 t6):Calls Tryz.prog 66 #[t0,t1,t2,t3,t4,t5,t6] w (retK R):=enE ⟨by kernel_rfl,by kernel_rfl⟩ (by kernel_rfl:enterW Tryz.prog Tryz.f66 an66 [t0,t1,t2,t3,t4,t5,t6] w R = _) h
def an67:Ann:=(sD 1 (.seq (cD 2 (sD 1 lf) lf) (sD 4 lf)))
def vc67 (R:Value->World->Prop) (w:World) (a:Value):Prop:=
 V (ec .eql 93 3 a (.slice none 0 0)) w fun b w=>
 CondW b
 (R (.slice none 0 0) w)
 (V (bs 93 0 #[]) w fun c w=>
 V (Builtin.append_ #[93,93] 93 #[c,a]) w fun d w=>
 R d w)
theorem en67 (h:vc67 R w t0):Calls Tryz.prog 67 #[t0] w (retK R):=enE ⟨by kernel_rfl,by kernel_rfl⟩ (by kernel_rfl:enterW Tryz.prog Tryz.f67 an67 [t0] w R = _) h
def an68:Ann:=(sD 1 (.seq (cD 2 (sD 1 lf) lf) (sD 4 lf)))
def vc68 (R:Value->World->Prop) (w:World) (a:Value):Prop:=
 V (ec .eql 96 3 a (.slice none 0 0)) w fun b w=>
 CondW b
 (R (.slice none 0 0) w)
 (V (bs 96 0 #[]) w fun c w=>
 V (Builtin.append_ #[96,96] 96 #[c,a]) w fun d w=>
 R d w)
theorem en68 (h:vc68 R w t0):Calls Tryz.prog 68 #[t0] w (retK R):=enE ⟨by kernel_rfl,by kernel_rfl⟩ (by kernel_rfl:enterW Tryz.prog Tryz.f68 an68 [t0] w R = _) h
def an69:Ann:=(sD 1 (.seq (cD 2 (sD 1 lf) lf) (sD 4 lf)))
def vc69 (R:Value->World->Prop) (w:World) (a:Value):Prop:=
 V (ec .eql 22 3 a (.slice none 0 0)) w fun b w=>
 CondW b
 (R (.slice none 0 0) w)
 (V (bs 22 0 #[]) w fun c w=>
 V (Builtin.append_ #[22,22] 22 #[c,a]) w fun d w=>
 R d w)
theorem en69 (h:vc69 R w t0):Calls Tryz.prog 69 #[t0] w (retK R):=enE ⟨by kernel_rfl,by kernel_rfl⟩ (by kernel_rfl:enterW Tryz.prog Tryz.f69 an69 [t0] w R = _) h
def an70:Ann:=(sD 1 (.seq (cD 5 (sD 1 lf) lf) (.seq (sD 1 (.one (.loop [5] ([4,5] ++ rgN 11 15) (.seq (cD 4 lf lf) (.seq (.one (.seq (.draw (tkN 0 3 (.hold 3 (tkN 4 3 (.hold 7 (.take 8 .done)))))) (.cond (sD 1 lf) lf))) (oD 3)))))) (sD 1 lf))))
def vc70 (R:Value->World->Prop) (w:World) (b c:Value):Prop:=
 V (ln 93 b) w fun f w=>
 V (ln 93 c) w fun h w=>
 V (et .neq 3 7 9 f h) w fun i w=>
 CondW i
 (R (.bool false) w)
 (Lp1 (.int .i64 0) w fun I0 M0 a w m0=>
 V (ln 93 b) w fun j w=>
 V (bi .lss 3 a j) w fun k w=>
 CondW k
 (Dr w fun w=>
 PV (ia 93 b a) fun l=>
 HV (ld 95 l) w fun n=>
 PV (ia 93 c a) fun o=>
 HV (ld 95 o) w fun p=>
 PV (et .neq 95 20 24 n p) fun q=>
 CondW q
 (R (.bool false) w)
 (V (bi .add 3 a (.int .i64 1)) w fun d w=>
 I0 [d] w/\M0 [d] w < m0))
 (R (.bool true) w))
theorem en70 (h:vc70 R w t0 t1):Calls Tryz.prog 70 #[t0,t1] w (retK R):=enE ⟨by kernel_rfl,by kernel_rfl⟩ (by kernel_rfl:enterW Tryz.prog Tryz.f70 an70 [t0,t1] w R = _) h
def an71:Ann:=(sD 1 (.seq (cD 5 (sD 1 lf) lf) (.seq (sD 1 (.one (.loop [5] ([4,5] ++ rgN 11 15) (.seq (cD 4 lf lf) (.seq (.one (.seq (.draw (tkN 0 3 (.hold 3 (tkN 4 3 (.hold 7 (.take 8 .done)))))) (.cond (sD 1 lf) lf))) (oD 3)))))) (sD 1 lf))))
def vc71 (R:Value->World->Prop) (w:World) (b c:Value):Prop:=
 V (ln 96 b) w fun f w=>
 V (ln 96 c) w fun h w=>
 V (et .neq 3 7 9 f h) w fun i w=>
 CondW i
 (R (.bool false) w)
 (Lp1 (.int .i64 0) w fun I0 M0 a w m0=>
 V (ln 96 b) w fun j w=>
 V (bi .lss 3 a j) w fun k w=>
 CondW k
 (Dr w fun w=>
 PV (ia 96 b a) fun l=>
 HV (ld 98 l) w fun n=>
 PV (ia 96 c a) fun o=>
 HV (ld 98 o) w fun p=>
 PV (et .neq 98 20 24 n p) fun q=>
 CondW q
 (R (.bool false) w)
 (V (bi .add 3 a (.int .i64 1)) w fun d w=>
 I0 [d] w/\M0 [d] w < m0))
 (R (.bool true) w))
theorem en71 (h:vc71 R w t0 t1):Calls Tryz.prog 71 #[t0,t1] w (retK R):=enE ⟨by kernel_rfl,by kernel_rfl⟩ (by kernel_rfl:enterW Tryz.prog Tryz.f71 an71 [t0,t1] w R = _) h
def an72:Ann:=(sD 1 (.seq (cD 5 (sD 1 lf) lf) (.seq (sD 1 (.one (.loop [5] ([4,5] ++ rgN 11 15) (.seq (cD 4 lf lf) (.seq (.one (.seq (.draw (tkN 0 3 (.hold 3 (tkN 4 3 (.hold 7 (.take 8 .done)))))) (.cond (sD 1 lf) lf))) (oD 3)))))) (sD 1 lf))))
def vc72 (R:Value->World->Prop) (w:World) (b c:Value):Prop:=
 V (ln 22 b) w fun f w=>
 V (ln 22 c) w fun h w=>
 V (et .neq 3 7 9 f h) w fun i w=>
 CondW i
 (R (.bool false) w)
 (Lp1 (.int .i64 0) w fun I0 M0 a w m0=>
 V (ln 22 b) w fun j w=>
 V (bi .lss 3 a j) w fun k w=>
 CondW k
 (Dr w fun w=>
 PV (ia 22 b a) fun l=>
 HV (ld 9 l) w fun n=>
 PV (ia 22 c a) fun o=>
 HV (ld 9 o) w fun p=>
 PV (et .neq 9 20 24 n p) fun q=>
 CondW q
 (R (.bool false) w)
 (V (bi .add 3 a (.int .i64 1)) w fun d w=>
 I0 [d] w/\M0 [d] w < m0))
 (R (.bool true) w))
theorem en72 (h:vc72 R w t0 t1):Calls Tryz.prog 72 #[t0,t1] w (retK R):=enE ⟨by kernel_rfl,by kernel_rfl⟩ (by kernel_rfl:enterW Tryz.prog Tryz.f72 an72 [t0,t1] w R = _) h
def an73:Ann:=(sD 2 (sD 2 (.seq (sD 4 (.one (.loop [3,10] ([3,5] ++ rgN 10 17) (sD 1 (.seq (.cond lf lf) (.seqJ [3] ([3,5] ++ rgN 12 14) (.one (sD 4 (cD 7 (oD 6) lf))) (oD 2))))))) (sD 2 lf))))
def vc73 (R:Value->World->Prop) (w:World) (j:Value):Prop:=
 V (bx 28 j) w fun f w=>
 V (bs 45 1 #[(0,(.int .i64 0))]) w fun k w=>
 V (fa 28 f 3) w fun l w=>
 V (ld 25 l) w fun h w=>
 V (ln 25 h) w fun n w=>
 Lp2 k (.int .i64 0) w fun I0 M0 a b w m0=>
 V (bi .lss 3 b n) w fun o w=>
 CondW o
 (∀ K0:LP,(∀ c,∀ w,(∀ g:Env,
 V (bi .add 3 b (.int .i64 1)) w fun i w=>
 I0 [c,i] w/\M0 [c,i] w < m0)->K0 [c] w) ->
 V (ia 25 h b) w fun p w=>
 V (ld 54 p) w fun q w=>
 V (al 54) w fun d w=>
 U (st 54 d q) w fun w=>
 V (fa 54 d 1) w fun r w=>
 V (ld 3 r) w fun s w=>
 V (fa 28 f 5) w fun t w=>
 V (ld 26 t) w fun u w=>
 V (ln 26 u) w fun v w=>
 V (bi .sub 3 v (.int .i64 1)) w fun x w=>
 CV (.func (.func 75) #[] #[]) #[s,(.int .i64 0),x] w fun y w=>
 CondW y
 (V (fa 54 d 1) w fun z w=>
 V (ld 3 z) w fun a0 w=>
 V (bs 45 1 #[(0,a0)]) w fun b0 w=>
 V (Builtin.append_ #[45,45] 45 #[a,b0]) w fun c0 w=>
 K0 [c0] w)
 (K0 [a] w))
 (R a w)
theorem en73 (h:vc73 R w t0):Calls Tryz.prog 73 #[t0] w (retK R):=enE ⟨by kernel_rfl,by kernel_rfl⟩ (by kernel_rfl:enterW Tryz.prog Tryz.f73 an73 [t0] w R = _) h
def an74:Ann:=(sD 3 (sD 2 lf))
def vc74 (R:Value->World->Prop) (w:World) (a b:Value):Prop:=
 V (bx 28 a) w fun c w=>
 V (bx 3 b) w fun d w=>
 R (.func (.func 173) #[] #[c,d]) w
theorem en74 (h:vc74 R w t0 t1):Calls Tryz.prog 74 #[t0,t1] w (retK R):=enE ⟨by kernel_rfl,by kernel_rfl⟩ (by kernel_rfl:enterW Tryz.prog Tryz.f74 an74 [t0,t1] w R = _) h
def an75:Ann:=(sD 1 (.seq (.reg (opn 4 (.join [14] [11,12,13,14] (.split 10 (opn 4 .done) (opn 4 .done)) (opn 1 .done)))) lf))
def vc75 (R:Value->World->Prop) (w:World) (a c d:Value):Prop:=
 V (bi .leq 3 c a) w fun f w=>
 ∀ K0:LP,(∀ b,∀ w,(∀ g:Env,
 R b w)->K0 [b] w) ->
 CondW f
 (V (bi .leq 3 a d) w fun h w=>
 K0 [h] w)
 (K0 [(.bool false)] w)
theorem en75 (h:vc75 R w t0 t1 t2):Calls Tryz.prog 75 #[t0,t1,t2] w (retK R):=enE ⟨by kernel_rfl,by kernel_rfl⟩ (by kernel_rfl:enterW Tryz.prog Tryz.f75 an75 [t0,t1,t2] w R = _) h
def an76:Ann:=(sD 1 (sD 5 lf))
def vc76 (R:Value->World->Prop) (w:World) (a b:Value):Prop:=
 CV (.func (.func 174) #[] #[]) #[a,b] w fun c w=>
 V (bi .geq 3 c (.int .i64 0)) w fun d w=>
 R d w
theorem en76 (h:vc76 R w t0 t1):Calls Tryz.prog 76 #[t0,t1] w (retK R):=enE ⟨by kernel_rfl,by kernel_rfl⟩ (by kernel_rfl:enterW Tryz.prog Tryz.f76 an76 [t0,t1] w R = _) h
def an77:Ann:=(sD 1 (.seq (sD 3 (.one (.loop [8] ([4,5] ++ rgN 8 11) (sD 1 (.seq (.cond lf lf) (.seq (.one (sD 2 (cD 6 (sD 2 lf) lf))) (oD 2))))))) (sD 1 lf)))
def vc77 (R:Value->World->Prop) (w:World) (b d:Value):Prop:=
 V (ln 25 b) w fun f w=>
 Lp1 (.int .i64 0) w fun I0 M0 a w m0=>
 V (bi .lss 3 a f) w fun h w=>
 CondW h
 (V (ia 25 b a) w fun i w=>
 V (ld 54 i) w fun j w=>
 CV d #[j] w fun k w=>
 CondW k
 (R a w)
 (V (bi .add 3 a (.int .i64 1)) w fun c w=>
 I0 [c] w/\M0 [c] w < m0))
 (R (.int .i64 (-1)) w)
theorem en77 (h:vc77 R w t0 t1):Calls Tryz.prog 77 #[t0,t1] w (retK R):=enE ⟨by kernel_rfl,by kernel_rfl⟩ (by kernel_rfl:enterW Tryz.prog Tryz.f77 an77 [t0,t1] w R = _) h
def an79:Ann:=(sD 2 (sD 3 (.seqJ [] (rgN 5 49) (sD 2 (.one (.seqJ [7] [7,8,9] (cD 2 lf (oD 2)) (.cond (oD 2) (.seqJ [11] (rgN 11 12) (cD 2 lf (cD 2 lf (cD 2 lf (cD 2 lf (cD 2 lf (cD 2 lf (cD 2 lf (cD 2 lf (cD 2 lf (cD 2 lf (oD 2))))))))))) (.cond (oD 2) (cD 2 (cD 3 (oD 2) lf) (cD 2 (cD 3 (oD 2) lf) (cD 2 (cD 3 (oD 2) lf) (cD 2 (oD 2) (cD 2 (oD 2) (cD 2 (cD 3 (oD 2) lf) lf)))))))))))) (sD 2 lf))))
def vc79 (R:Value->World->Prop) (w:World) (u:Value):Prop:=
 V (bx 38 u) w fun c w=>
 V (al 100) w fun d w=>
 V (bd 100 #[]) w fun v w=>
 V (al 100) w fun b w=>
 U (st 100 b v) w fun w=>
 ∀ K0:LP,(∀ w,(∀ g:Env,
 V (ld 100 b) w fun x w=>
 U (st 100 d x) w fun w=>
 CW 100 d w fun y=>R y w)->K0 [] w) ->
 V (fa 38 c 0) w fun z w=>
 V (ld 3 z) w fun a w=>
 ∀ K1:LP,(∀ f,∀ w,(∀ g:Env,
 CondW f
 (V (ia 100 b (.int .i64 1)) w fun a0 w=>
 U (st 3 a0 (.int .i64 1)) w fun w=>
 K0 [] w)
 (∀ K1:LP,(∀ h,∀ w,(∀ g:Env,
 CondW h
 (V (ia 100 b (.int .i64 0)) w fun b0 w=>
 U (st 3 b0 (.int .i64 1)) w fun w=>
 K0 [] w)
 (V (ec .eql 3 6 a (.int .i64 19)) w fun c0 w=>
 CondW c0
 (V (fa 38 c 1) w fun d0 w=>
 V (ld 3 d0) w fun f0 w=>
 V (ec .eql 3 27 f0 (.int .i64 1)) w fun h0 w=>
 CondW h0
 (V (ia 100 b (.int .i64 1)) w fun i0 w=>
 U (st 3 i0 (.int .i64 1)) w fun w=>
 K0 [] w)
 (K0 [] w))
 (V (ec .eql 3 6 a (.int .i64 20)) w fun j0 w=>
 CondW j0
 (V (fa 38 c 1) w fun k0 w=>
 V (ld 3 k0) w fun l0 w=>
 V (bi .geq 3 l0 (.int .i64 0)) w fun n0 w=>
 CondW n0
 (V (ia 100 b (.int .i64 0)) w fun o0 w=>
 U (st 3 o0 (.int .i64 1)) w fun w=>
 K0 [] w)
 (K0 [] w))
 (V (ec .eql 3 6 a (.int .i64 22)) w fun p0 w=>
 CondW p0
 (V (fa 38 c 3) w fun q0 w=>
 V (ld 3 q0) w fun r0 w=>
 V (bi .geq 3 r0 (.int .i64 0)) w fun s0 w=>
 CondW s0
 (V (ia 100 b (.int .i64 2)) w fun u0 w=>
 U (st 3 u0 (.int .i64 1)) w fun w=>
 K0 [] w)
 (K0 [] w))
 (V (ec .eql 3 6 a (.int .i64 36)) w fun v0 w=>
 CondW v0
 (V (ia 100 b (.int .i64 0)) w fun x0 w=>
 U (st 3 x0 (.int .i64 2)) w fun w=>
 K0 [] w)
 (V (ec .eql 3 6 a (.int .i64 17)) w fun y0 w=>
 CondW y0
 (V (ia 100 b (.int .i64 0)) w fun z0 w=>
 U (st 3 z0 (.int .i64 3)) w fun w=>
 K0 [] w)
 (V (ec .eql 3 6 a (.int .i64 18)) w fun a1 w=>
 CondW a1
 (V (fa 38 c 1) w fun b1 w=>
 V (ld 3 b1) w fun c1 w=>
 V (bi .geq 3 c1 (.int .i64 0)) w fun d1 w=>
 CondW d1
 (V (ia 100 b (.int .i64 0)) w fun f1 w=>
 U (st 3 f1 (.int .i64 3)) w fun w=>
 K0 [] w)
 (K0 [] w))
 (K0 [] w))))))))->K1 [h] w) ->
 V (ec .eql 3 6 a (.int .i64 3)) w fun i w=>
 CondW i
 (K1 [i] w)
 (V (ec .eql 3 6 a (.int .i64 5)) w fun j w=>
 CondW j
 (K1 [j] w)
 (V (ec .eql 3 6 a (.int .i64 7)) w fun k w=>
 CondW k
 (K1 [k] w)
 (V (ec .eql 3 6 a (.int .i64 8)) w fun l w=>
 CondW l
 (K1 [l] w)
 (V (ec .eql 3 6 a (.int .i64 9)) w fun n w=>
 CondW n
 (K1 [n] w)
 (V (ec .eql 3 6 a (.int .i64 12)) w fun o w=>
 CondW o
 (K1 [o] w)
 (V (ec .eql 3 6 a (.int .i64 21)) w fun p w=>
 CondW p
 (K1 [p] w)
 (V (ec .eql 3 6 a (.int .i64 15)) w fun q w=>
 CondW q
 (K1 [q] w)
 (V (ec .eql 3 6 a (.int .i64 27)) w fun r w=>
 CondW r
 (K1 [r] w)
 (V (ec .eql 3 6 a (.int .i64 42)) w fun s w=>
 CondW s
 (K1 [s] w)
 (V (ec .eql 3 6 a (.int .i64 44)) w fun h1 w=>
 K1 [h1] w))))))))))))->K1 [f] w) ->
 V (ec .eql 3 6 a (.int .i64 1)) w fun t w=>
 CondW t
 (K1 [t] w)
 (V (ec .eql 3 6 a (.int .i64 31)) w fun i1 w=>
 K1 [i1] w)
theorem en79 (h:vc79 R w t0):Calls Tryz.prog 79 #[t0] w (retK R):=enE ⟨by kernel_rfl,by kernel_rfl⟩ (by kernel_rfl:enterW Tryz.prog Tryz.f79 an79 [t0] w R = _) h
def an80:Ann:=(sD 2 (sD 8 lf))
def vc80 (R:Value->World->Prop) (w:World) (c:Value):Prop:=
 V (bx 38 c) w fun a w=>
 V (al 100) w fun b w=>
 V (fa 38 a 1) w fun d w=>
 V (ld 3 d) w fun f w=>
 V (fa 38 a 2) w fun h w=>
 V (ld 3 h) w fun i w=>
 V (fa 38 a 3) w fun j w=>
 V (ld 3 j) w fun k w=>
 V (bd 100 #[(0,f),(1,i),(2,k)]) w fun l w=>
 U (st 100 b l) w fun w=>
 CW 100 b w fun n=>R n w
theorem en80 (h:vc80 R w t0):Calls Tryz.prog 80 #[t0] w (retK R):=enE ⟨by kernel_rfl,by kernel_rfl⟩ (by kernel_rfl:enterW Tryz.prog Tryz.f80 an80 [t0] w R = _) h
def an81:Ann:=(sD 2 (sD 4 (sD 1 (.seq (sD 1 (.one (.loop [5,6] ([5,6] ++ rgN 10 19) (.seq (cD 4 lf lf) (.seqJ [5] ([5] ++ rgN 16 13) (.one (sD 4 (cD 4 (sD 5 (oD 3)) lf))) (oD 3)))))) (sD 4 lf)))))
def vc81 (R:Value->World->Prop) (w:World) (c:Value):Prop:=
 V (ln 49 c) w fun h w=>
 V (ms 45 h h) w fun d w=>
 Lp2 (.int .i64 0) (.int .i64 0) w fun I0 M0 b a w m0=>
 V (ln 49 c) w fun j w=>
 V (bi .lss 3 a j) w fun k w=>
 CondW k
 (∀ K0:LP,(∀ f,∀ w,(∀ g:Env,
 V (bi .add 3 a (.int .i64 1)) w fun i w=>
 I0 [f,i] w/\M0 [f,i] w < m0)->K0 [f] w) ->
 V (ia 45 d a) w fun l w=>
 U (st 3 l (.int .i64 (-1))) w fun w=>
 V (ia 49 c a) w fun n w=>
 V (ld 4 n) w fun o w=>
 CondW o
 (V (ia 45 d a) w fun p w=>
 U (st 3 p b) w fun w=>
 V (bi .add 3 b (.int .i64 1)) w fun q w=>
 K0 [q] w)
 (K0 [b] w))
 (R (.tuple #[d,b]) w)
theorem en81 (h:vc81 R w t0):Calls Tryz.prog 81 #[t0] w (retK R):=enE ⟨by kernel_rfl,by kernel_rfl⟩ (by kernel_rfl:enterW Tryz.prog Tryz.f81 an81 [t0] w R = _) h
def an82:Ann:=(sD 1 (.seq (cD 5 (sD 1 lf) lf) (.seq (sD 3 (.one (.loop [17] ([6,7,8,9] ++ rgN 17 15) (sD 1 (.seq (.cond lf lf) (.seq (.one (sD 5 (sD 5 (cD 5 (sD 1 lf) lf)))) (oD 2))))))) (sD 1 lf))))
def vc82 (R:Value->World->Prop) (w:World) (b c f:Value):Prop:=
 V (ln 23 b) w fun h w=>
 V (ln 23 c) w fun i w=>
 V (et .neq 3 11 13 h i) w fun j w=>
 CondW j
 (R (.bool false) w)
 (V (ln 23 b) w fun k w=>
 Lp1 (.int .i64 0) w fun I0 M0 a w m0=>
 V (bi .lss 3 a k) w fun l w=>
 CondW l
 (V (ia 23 b a) w fun n w=>
 V (ld 93 n) w fun o w=>
 V (ia 23 c a) w fun p w=>
 V (ld 93 p) w fun q w=>
 CV f #[o,q] w fun r w=>
 V (un .not r) w fun s w=>
 CondW s
 (R (.bool false) w)
 (V (bi .add 3 a (.int .i64 1)) w fun d w=>
 I0 [d] w/\M0 [d] w < m0))
 (R (.bool true) w))
theorem en82 (h:vc82 R w t0 t1 t2):Calls Tryz.prog 82 #[t0,t1,t2] w (retK R):=enE ⟨by kernel_rfl,by kernel_rfl⟩ (by kernel_rfl:enterW Tryz.prog Tryz.f82 an82 [t0,t1,t2] w R = _) h
def an83:Ann:=(sD 1 (sD 4 lf))
def vc83 (R:Value->World->Prop) (w:World) (a b:Value):Prop:=
 CV (.func (.func 84) #[] #[]) #[a,b] w fun c w=>
 R c w
theorem en83 (h:vc83 R w t0 t1):Calls Tryz.prog 83 #[t0,t1] w (retK R):=enE ⟨by kernel_rfl,by kernel_rfl⟩ (by kernel_rfl:enterW Tryz.prog Tryz.f83 an83 [t0,t1] w R = _) h
def an84:Ann:=(sD 1 (.seq (cD 5 (sD 1 lf) lf) (.seq (sD 3 (.one (.loop [13] ([4,5] ++ rgN 13 13) (sD 1 (.seq (.cond lf lf) (.seq (.one (sD 2 (.seq (.draw (tkN 0 3 (.hold 3 (tkN 4 3 (.hold 7 (.take 8 .done)))))) (.cond (sD 1 lf) lf)))) (oD 2))))))) (sD 1 lf))))
def vc84 (R:Value->World->Prop) (w:World) (b c:Value):Prop:=
 V (ln 93 b) w fun f w=>
 V (ln 93 c) w fun h w=>
 V (et .neq 3 7 9 f h) w fun i w=>
 CondW i
 (R (.bool false) w)
 (V (ln 93 b) w fun j w=>
 Lp1 (.int .i64 0) w fun I0 M0 a w m0=>
 V (bi .lss 3 a j) w fun k w=>
 CondW k
 (Dr w fun w=>
 PV (ia 93 b a) fun l=>
 HV (ld 95 l) w fun n=>
 PV (ia 93 c a) fun o=>
 HV (ld 95 o) w fun p=>
 PV (et .neq 95 19 23 n p) fun q=>
 CondW q
 (R (.bool false) w)
 (V (bi .add 3 a (.int .i64 1)) w fun d w=>
 I0 [d] w/\M0 [d] w < m0))
 (R (.bool true) w))
theorem en84 (h:vc84 R w t0 t1):Calls Tryz.prog 84 #[t0,t1] w (retK R):=enE ⟨by kernel_rfl,by kernel_rfl⟩ (by kernel_rfl:enterW Tryz.prog Tryz.f84 an84 [t0,t1] w R = _) h
def an85:Ann:=(sD 1 (.seq (cD 5 (sD 1 lf) lf) (.seq (sD 3 (.one (.loop [17] ([6,7,8,9] ++ rgN 17 15) (sD 1 (.seq (.cond lf lf) (.seq (.one (sD 5 (sD 5 (cD 5 (sD 1 lf) lf)))) (oD 2))))))) (sD 1 lf))))
def vc85 (R:Value->World->Prop) (w:World) (b c f:Value):Prop:=
 V (ln 24 b) w fun h w=>
 V (ln 24 c) w fun i w=>
 V (et .neq 3 11 13 h i) w fun j w=>
 CondW j
 (R (.bool false) w)
 (V (ln 24 b) w fun k w=>
 Lp1 (.int .i64 0) w fun I0 M0 a w m0=>
 V (bi .lss 3 a k) w fun l w=>
 CondW l
 (V (ia 24 b a) w fun n w=>
 V (ld 96 n) w fun o w=>
 V (ia 24 c a) w fun p w=>
 V (ld 96 p) w fun q w=>
 CV f #[o,q] w fun r w=>
 V (un .not r) w fun s w=>
 CondW s
 (R (.bool false) w)
 (V (bi .add 3 a (.int .i64 1)) w fun d w=>
 I0 [d] w/\M0 [d] w < m0))
 (R (.bool true) w))
theorem en85 (h:vc85 R w t0 t1 t2):Calls Tryz.prog 85 #[t0,t1,t2] w (retK R):=enE ⟨by kernel_rfl,by kernel_rfl⟩ (by kernel_rfl:enterW Tryz.prog Tryz.f85 an85 [t0,t1,t2] w R = _) h
def an86:Ann:=(sD 1 (sD 4 lf))
def vc86 (R:Value->World->Prop) (w:World) (a b:Value):Prop:=
 CV (.func (.func 87) #[] #[]) #[a,b] w fun c w=>
 R c w
theorem en86 (h:vc86 R w t0 t1):Calls Tryz.prog 86 #[t0,t1] w (retK R):=enE ⟨by kernel_rfl,by kernel_rfl⟩ (by kernel_rfl:enterW Tryz.prog Tryz.f86 an86 [t0,t1] w R = _) h
def an87:Ann:=(sD 1 (.seq (cD 5 (sD 1 lf) lf) (.seq (sD 3 (.one (.loop [13] ([4,5] ++ rgN 13 13) (sD 1 (.seq (.cond lf lf) (.seq (.one (sD 2 (.seq (.draw (tkN 0 3 (.hold 3 (tkN 4 3 (.hold 7 (.take 8 .done)))))) (.cond (sD 1 lf) lf)))) (oD 2))))))) (sD 1 lf))))
def vc87 (R:Value->World->Prop) (w:World) (b c:Value):Prop:=
 V (ln 96 b) w fun f w=>
 V (ln 96 c) w fun h w=>
 V (et .neq 3 7 9 f h) w fun i w=>
 CondW i
 (R (.bool false) w)
 (V (ln 96 b) w fun j w=>
 Lp1 (.int .i64 0) w fun I0 M0 a w m0=>
 V (bi .lss 3 a j) w fun k w=>
 CondW k
 (Dr w fun w=>
 PV (ia 96 b a) fun l=>
 HV (ld 98 l) w fun n=>
 PV (ia 96 c a) fun o=>
 HV (ld 98 o) w fun p=>
 PV (et .neq 98 19 23 n p) fun q=>
 CondW q
 (R (.bool false) w)
 (V (bi .add 3 a (.int .i64 1)) w fun d w=>
 I0 [d] w/\M0 [d] w < m0))
 (R (.bool true) w))
theorem en87 (h:vc87 R w t0 t1):Calls Tryz.prog 87 #[t0,t1] w (retK R):=enE ⟨by kernel_rfl,by kernel_rfl⟩ (by kernel_rfl:enterW Tryz.prog Tryz.f87 an87 [t0,t1] w R = _) h
def an88:Ann:=(sD 1 (.seq (cD 5 (sD 1 lf) lf) (.seq (sD 3 (.one (.loop [13] ([4,5] ++ rgN 13 13) (sD 1 (.seq (.cond lf lf) (.seq (.one (sD 2 (.seq (.draw (tkN 0 3 (.hold 3 (tkN 4 3 (.hold 7 (.take 8 .done)))))) (.cond (sD 1 lf) lf)))) (oD 2))))))) (sD 1 lf))))
def vc88 (R:Value->World->Prop) (w:World) (b c:Value):Prop:=
 V (ln 22 b) w fun f w=>
 V (ln 22 c) w fun h w=>
 V (et .neq 3 7 9 f h) w fun i w=>
 CondW i
 (R (.bool false) w)
 (V (ln 22 b) w fun j w=>
 Lp1 (.int .i64 0) w fun I0 M0 a w m0=>
 V (bi .lss 3 a j) w fun k w=>
 CondW k
 (Dr w fun w=>
 PV (ia 22 b a) fun l=>
 HV (ld 9 l) w fun n=>
 PV (ia 22 c a) fun o=>
 HV (ld 9 o) w fun p=>
 PV (et .neq 9 19 23 n p) fun q=>
 CondW q
 (R (.bool false) w)
 (V (bi .add 3 a (.int .i64 1)) w fun d w=>
 I0 [d] w/\M0 [d] w < m0))
 (R (.bool true) w))
theorem en88 (h:vc88 R w t0 t1):Calls Tryz.prog 88 #[t0,t1] w (retK R):=enE ⟨by kernel_rfl,by kernel_rfl⟩ (by kernel_rfl:enterW Tryz.prog Tryz.f88 an88 [t0,t1] w R = _) h
def an89:Ann:=(sD 1 (.seq (cD 5 (sD 1 lf) lf) (.seq (sD 3 (.one (.loop [13] ([4,5] ++ rgN 13 13) (sD 1 (.seq (.cond lf lf) (.seq (.one (sD 2 (.seq (.draw (tkN 0 3 (.hold 3 (tkN 4 3 (.hold 7 (.take 8 .done)))))) (.cond (sD 1 lf) lf)))) (oD 2))))))) (sD 1 lf))))
def vc89 (R:Value->World->Prop) (w:World) (b c:Value):Prop:=
 V (ln 25 b) w fun f w=>
 V (ln 25 c) w fun h w=>
 V (et .neq 3 7 9 f h) w fun i w=>
 CondW i
 (R (.bool false) w)
 (V (ln 25 b) w fun j w=>
 Lp1 (.int .i64 0) w fun I0 M0 a w m0=>
 V (bi .lss 3 a j) w fun k w=>
 CondW k
 (Dr w fun w=>
 PV (ia 25 b a) fun l=>
 HV (ld 54 l) w fun n=>
 PV (ia 25 c a) fun o=>
 HV (ld 54 o) w fun p=>
 PV (et .neq 54 19 23 n p) fun q=>
 CondW q
 (R (.bool false) w)
 (V (bi .add 3 a (.int .i64 1)) w fun d w=>
 I0 [d] w/\M0 [d] w < m0))
 (R (.bool true) w))
theorem en89 (h:vc89 R w t0 t1):Calls Tryz.prog 89 #[t0,t1] w (retK R):=enE ⟨by kernel_rfl,by kernel_rfl⟩ (by kernel_rfl:enterW Tryz.prog Tryz.f89 an89 [t0,t1] w R = _) h
def an90:Ann:=(sD 1 (.seq (cD 5 (sD 1 lf) lf) (.seq (sD 3 (.one (.loop [13] ([4,5] ++ rgN 13 13) (sD 1 (.seq (.cond lf lf) (.seq (.one (sD 2 (.seq (.draw (tkN 0 3 (.hold 3 (tkN 4 3 (.hold 7 (.take 8 .done)))))) (.cond (sD 1 lf) lf)))) (oD 2))))))) (sD 1 lf))))
def vc90 (R:Value->World->Prop) (w:World) (b c:Value):Prop:=
 V (ln 26 b) w fun f w=>
 V (ln 26 c) w fun h w=>
 V (et .neq 3 7 9 f h) w fun i w=>
 CondW i
 (R (.bool false) w)
 (V (ln 26 b) w fun j w=>
 Lp1 (.int .i64 0) w fun I0 M0 a w m0=>
 V (bi .lss 3 a j) w fun k w=>
 CondW k
 (Dr w fun w=>
 PV (ia 26 b a) fun l=>
 HV (ld 38 l) w fun n=>
 PV (ia 26 c a) fun o=>
 HV (ld 38 o) w fun p=>
 PV (et .neq 38 19 23 n p) fun q=>
 CondW q
 (R (.bool false) w)
 (V (bi .add 3 a (.int .i64 1)) w fun d w=>
 I0 [d] w/\M0 [d] w < m0))
 (R (.bool true) w))
theorem en90 (h:vc90 R w t0 t1):Calls Tryz.prog 90 #[t0,t1] w (retK R):=enE ⟨by kernel_rfl,by kernel_rfl⟩ (by kernel_rfl:enterW Tryz.prog Tryz.f90 an90 [t0,t1] w R = _) h
def an91:Ann:=(sD 5 (sD 3 (.one (.loop [15] ([7] ++ rgN 15 8) (sD 1 (.seq (.cond lf lf) (.seq (.one (sD 3 (oD 3))) (oD 2))))))))
def vc91 (R:Value->World->Prop) (w:World) (d a f:Value):Prop:=
 V (ln 22 a) w fun h w=>
 V (bs 45 1 #[(0,h)]) w fun i w=>
 CV (.func (.func 175) #[] #[]) #[d,i] w fun o w=>
 V (ln 22 a) w fun j w=>
 Lp1 (.int .i64 0) w fun I0 M0 b w m0=>
 V (bi .lss 3 b j) w fun k w=>
 CondW k
 (V (ia 22 a b) w fun l w=>
 V (ld 9 l) w fun n w=>
 CV f #[n] w fun p w=>
 V (bi .add 3 b (.int .i64 1)) w fun c w=>
 I0 [c] w/\M0 [c] w < m0)
 (R (.tuple #[]) w)
theorem en91 (h:vc91 R w t0 t1 t2):Calls Tryz.prog 91 #[t0,t1,t2] w (retK R):=enE ⟨by kernel_rfl,by kernel_rfl⟩ (by kernel_rfl:enterW Tryz.prog Tryz.f91 an91 [t0,t1,t2] w R = _) h
def an92:Ann:=(sD 5 (oD 10))
def vc92 (R:Value->World->Prop) (w:World) (a b:Value):Prop:=
 V (ln 9 b) w fun c w=>
 V (bs 45 1 #[(0,c)]) w fun d w=>
 CV (.func (.func 175) #[] #[]) #[a,d] w fun n w=>
 NilW a fun f=>V (fa 156 f 0) w fun h w=>
 V (ld 55 h) w fun i w=>
 V (Builtin.append_ #[55,9] 55 #[i,b]) w fun j w=>
 NilW a fun k=>V (fa 156 k 0) w fun l w=>
 U (st 55 l j) w fun w=>
 R (.tuple #[]) w
theorem en92 (h:vc92 R w t0 t1):Calls Tryz.prog 92 #[t0,t1] w (retK R):=enE ⟨by kernel_rfl,by kernel_rfl⟩ (by kernel_rfl:enterW Tryz.prog Tryz.f92 an92 [t0,t1] w R = _) h
def an93:Ann:=(sD 5 (sD 3 (.one (.loop [15] ([7] ++ rgN 15 8) (sD 1 (.seq (.cond lf lf) (.seq (.one (sD 3 (oD 3))) (oD 2))))))))
def vc93 (R:Value->World->Prop) (w:World) (d a f:Value):Prop:=
 V (ln 23 a) w fun h w=>
 V (bs 45 1 #[(0,h)]) w fun i w=>
 CV (.func (.func 175) #[] #[]) #[d,i] w fun o w=>
 V (ln 23 a) w fun j w=>
 Lp1 (.int .i64 0) w fun I0 M0 b w m0=>
 V (bi .lss 3 b j) w fun k w=>
 CondW k
 (V (ia 23 a b) w fun l w=>
 V (ld 93 l) w fun n w=>
 CV f #[n] w fun p w=>
 V (bi .add 3 b (.int .i64 1)) w fun c w=>
 I0 [c] w/\M0 [c] w < m0)
 (R (.tuple #[]) w)
theorem en93 (h:vc93 R w t0 t1 t2):Calls Tryz.prog 93 #[t0,t1,t2] w (retK R):=enE ⟨by kernel_rfl,by kernel_rfl⟩ (by kernel_rfl:enterW Tryz.prog Tryz.f93 an93 [t0,t1,t2] w R = _) h
def an94:Ann:=(oD 5)
def vc94 (R:Value->World->Prop) (w:World) (b a:Value):Prop:=
 V (ld 154 a) w fun c w=>
 V (ld 154 a) w fun d w=>
 CV (.func (.func 95) #[] #[]) #[c,b,(.func (.func 96) #[d] #[])] w fun f w=>
 R (.tuple #[]) w
theorem en94 (h:vc94 R w t0 t1):Calls Tryz.prog 94 #[t0,t1] w (retK R):=enE ⟨by kernel_rfl,by kernel_rfl⟩ (by kernel_rfl:enterW Tryz.prog Tryz.f94 an94 [t0,t1] w R = _) h
def an95:Ann:=(sD 5 (sD 3 (.one (.loop [15] ([7] ++ rgN 15 8) (sD 1 (.seq (.cond lf lf) (.seq (.one (sD 4 (oD 3))) (oD 2))))))))
def vc95 (R:Value->World->Prop) (w:World) (f a h:Value):Prop:=
 V (ln 93 a) w fun i w=>
 V (bs 45 1 #[(0,i)]) w fun j w=>
 CV (.func (.func 175) #[] #[]) #[f,j] w fun q w=>
 V (ln 93 a) w fun k w=>
 Lp1 (.int .i64 0) w fun I0 M0 b w m0=>
 V (bi .lss 3 b k) w fun l w=>
 CondW l
 (V (ia 93 a b) w fun n w=>
 V (ld 95 n) w fun o w=>
 V (al 95) w fun c w=>
 U (st 95 c o) w fun w=>
 V (ld 95 c) w fun p w=>
 CV h #[p] w fun r w=>
 V (bi .add 3 b (.int .i64 1)) w fun d w=>
 I0 [d] w/\M0 [d] w < m0)
 (R (.tuple #[]) w)
theorem en95 (h:vc95 R w t0 t1 t2):Calls Tryz.prog 95 #[t0,t1,t2] w (retK R):=enE ⟨by kernel_rfl,by kernel_rfl⟩ (by kernel_rfl:enterW Tryz.prog Tryz.f95 an95 [t0,t1,t2] w R = _) h
def an96:Ann:=(sD 1 (sD 5 (sD 4 (oD 5))))
def vc96 (R:Value->World->Prop) (w:World) (a c:Value):Prop:=
 V (bx 95 c) w fun b w=>
 V (fa 95 b 0) w fun d w=>
 V (ld 3 d) w fun f w=>
 V (bs 45 1 #[(0,f)]) w fun h w=>
 CV (.func (.func 175) #[] #[]) #[a,h] w fun o w=>
 V (fa 95 b 1) w fun i w=>
 V (ld 9 i) w fun j w=>
 CV (.func (.func 92) #[] #[]) #[a,j] w fun p w=>
 V (fa 95 b 2) w fun k w=>
 V (ld 3 k) w fun l w=>
 V (bs 45 1 #[(0,l)]) w fun n w=>
 CV (.func (.func 175) #[] #[]) #[a,n] w fun q w=>
 R (.tuple #[]) w
theorem en96 (h:vc96 R w t0 t1):Calls Tryz.prog 96 #[t0,t1] w (retK R):=enE ⟨by kernel_rfl,by kernel_rfl⟩ (by kernel_rfl:enterW Tryz.prog Tryz.f96 an96 [t0,t1] w R = _) h
def an97:Ann:=(sD 5 (sD 3 (.one (.loop [15] ([7] ++ rgN 15 8) (sD 1 (.seq (.cond lf lf) (.seq (.one (sD 3 (oD 3))) (oD 2))))))))
def vc97 (R:Value->World->Prop) (w:World) (d a f:Value):Prop:=
 V (ln 24 a) w fun h w=>
 V (bs 45 1 #[(0,h)]) w fun i w=>
 CV (.func (.func 175) #[] #[]) #[d,i] w fun o w=>
 V (ln 24 a) w fun j w=>
 Lp1 (.int .i64 0) w fun I0 M0 b w m0=>
 V (bi .lss 3 b j) w fun k w=>
 CondW k
 (V (ia 24 a b) w fun l w=>
 V (ld 96 l) w fun n w=>
 CV f #[n] w fun p w=>
 V (bi .add 3 b (.int .i64 1)) w fun c w=>
 I0 [c] w/\M0 [c] w < m0)
 (R (.tuple #[]) w)
theorem en97 (h:vc97 R w t0 t1 t2):Calls Tryz.prog 97 #[t0,t1,t2] w (retK R):=enE ⟨by kernel_rfl,by kernel_rfl⟩ (by kernel_rfl:enterW Tryz.prog Tryz.f97 an97 [t0,t1,t2] w R = _) h
def an98:Ann:=(oD 5)
def vc98 (R:Value->World->Prop) (w:World) (b a:Value):Prop:=
 V (ld 154 a) w fun c w=>
 V (ld 154 a) w fun d w=>
 CV (.func (.func 99) #[] #[]) #[c,b,(.func (.func 100) #[d] #[])] w fun f w=>
 R (.tuple #[]) w
theorem en98 (h:vc98 R w t0 t1):Calls Tryz.prog 98 #[t0,t1] w (retK R):=enE ⟨by kernel_rfl,by kernel_rfl⟩ (by kernel_rfl:enterW Tryz.prog Tryz.f98 an98 [t0,t1] w R = _) h
def an99:Ann:=(sD 5 (sD 3 (.one (.loop [15] ([7] ++ rgN 15 8) (sD 1 (.seq (.cond lf lf) (.seq (.one (sD 4 (oD 3))) (oD 2))))))))
def vc99 (R:Value->World->Prop) (w:World) (f a h:Value):Prop:=
 V (ln 96 a) w fun i w=>
 V (bs 45 1 #[(0,i)]) w fun j w=>
 CV (.func (.func 175) #[] #[]) #[f,j] w fun q w=>
 V (ln 96 a) w fun k w=>
 Lp1 (.int .i64 0) w fun I0 M0 b w m0=>
 V (bi .lss 3 b k) w fun l w=>
 CondW l
 (V (ia 96 a b) w fun n w=>
 V (ld 98 n) w fun o w=>
 V (al 98) w fun c w=>
 U (st 98 c o) w fun w=>
 V (ld 98 c) w fun p w=>
 CV h #[p] w fun r w=>
 V (bi .add 3 b (.int .i64 1)) w fun d w=>
 I0 [d] w/\M0 [d] w < m0)
 (R (.tuple #[]) w)
theorem en99 (h:vc99 R w t0 t1 t2):Calls Tryz.prog 99 #[t0,t1,t2] w (retK R):=enE ⟨by kernel_rfl,by kernel_rfl⟩ (by kernel_rfl:enterW Tryz.prog Tryz.f99 an99 [t0,t1,t2] w R = _) h
def an100:Ann:=(sD 1 (sD 1 (.seqJ [4] [4,5,6] (cD 2 (oD 1) lf) (sD 4 (oD 4)))))
def vc100 (R:Value->World->Prop) (w:World) (a d:Value):Prop:=
 V (bx 98 d) w fun b w=>
 ∀ K0:LP,(∀ c,∀ w,(∀ g:Env,
 V (bs 45 1 #[(0,c)]) w fun f w=>
 CV (.func (.func 175) #[] #[]) #[a,f] w fun l w=>
 V (fa 98 b 0) w fun h w=>
 V (ld 9 h) w fun i w=>
 CV (.func (.func 92) #[] #[]) #[a,i] w fun n w=>
 R (.tuple #[]) w)->K0 [c] w) ->
 V (fa 98 b 1) w fun j w=>
 V (ld 4 j) w fun k w=>
 CondW k
 (K0 [(.int .i64 1)] w)
 (K0 [(.int .i64 0)] w)
theorem en100 (h:vc100 R w t0 t1):Calls Tryz.prog 100 #[t0,t1] w (retK R):=enE ⟨by kernel_rfl,by kernel_rfl⟩ (by kernel_rfl:enterW Tryz.prog Tryz.f100 an100 [t0,t1] w R = _) h
def an101:Ann:=(sD 5 (sD 3 (.one (.loop [15] ([7] ++ rgN 15 8) (sD 1 (.seq (.cond lf lf) (.seq (.one (sD 4 (oD 3))) (oD 2))))))))
def vc101 (R:Value->World->Prop) (w:World) (f a h:Value):Prop:=
 V (ln 25 a) w fun i w=>
 V (bs 45 1 #[(0,i)]) w fun j w=>
 CV (.func (.func 175) #[] #[]) #[f,j] w fun q w=>
 V (ln 25 a) w fun k w=>
 Lp1 (.int .i64 0) w fun I0 M0 b w m0=>
 V (bi .lss 3 b k) w fun l w=>
 CondW l
 (V (ia 25 a b) w fun n w=>
 V (ld 54 n) w fun o w=>
 V (al 54) w fun c w=>
 U (st 54 c o) w fun w=>
 V (ld 54 c) w fun p w=>
 CV h #[p] w fun r w=>
 V (bi .add 3 b (.int .i64 1)) w fun d w=>
 I0 [d] w/\M0 [d] w < m0)
 (R (.tuple #[]) w)
theorem en101 (h:vc101 R w t0 t1 t2):Calls Tryz.prog 101 #[t0,t1,t2] w (retK R):=enE ⟨by kernel_rfl,by kernel_rfl⟩ (by kernel_rfl:enterW Tryz.prog Tryz.f101 an101 [t0,t1,t2] w R = _) h
def an102:Ann:=(sD 1 (sD 5 (oD 4)))
def vc102 (R:Value->World->Prop) (w:World) (a c:Value):Prop:=
 V (bx 54 c) w fun b w=>
 V (fa 54 b 1) w fun d w=>
 V (ld 3 d) w fun f w=>
 V (bs 45 1 #[(0,f)]) w fun h w=>
 CV (.func (.func 175) #[] #[]) #[a,h] w fun k w=>
 V (fa 54 b 0) w fun i w=>
 V (ld 9 i) w fun j w=>
 CV (.func (.func 92) #[] #[]) #[a,j] w fun l w=>
 R (.tuple #[]) w
theorem en102 (h:vc102 R w t0 t1):Calls Tryz.prog 102 #[t0,t1] w (retK R):=enE ⟨by kernel_rfl,by kernel_rfl⟩ (by kernel_rfl:enterW Tryz.prog Tryz.f102 an102 [t0,t1] w R = _) h
def an103:Ann:=(sD 5 (sD 3 (.one (.loop [15] ([7] ++ rgN 15 8) (sD 1 (.seq (.cond lf lf) (.seq (.one (sD 4 (oD 3))) (oD 2))))))))
def vc103 (R:Value->World->Prop) (w:World) (f a h:Value):Prop:=
 V (ln 26 a) w fun i w=>
 V (bs 45 1 #[(0,i)]) w fun j w=>
 CV (.func (.func 175) #[] #[]) #[f,j] w fun q w=>
 V (ln 26 a) w fun k w=>
 Lp1 (.int .i64 0) w fun I0 M0 b w m0=>
 V (bi .lss 3 b k) w fun l w=>
 CondW l
 (V (ia 26 a b) w fun n w=>
 V (ld 38 n) w fun o w=>
 V (al 38) w fun c w=>
 U (st 38 c o) w fun w=>
 V (ld 38 c) w fun p w=>
 CV h #[p] w fun r w=>
 V (bi .add 3 b (.int .i64 1)) w fun d w=>
 I0 [d] w/\M0 [d] w < m0)
 (R (.tuple #[]) w)
theorem en103 (h:vc103 R w t0 t1 t2):Calls Tryz.prog 103 #[t0,t1,t2] w (retK R):=enE ⟨by kernel_rfl,by kernel_rfl⟩ (by kernel_rfl:enterW Tryz.prog Tryz.f103 an103 [t0,t1,t2] w R = _) h
def an104:Ann:=(sD 1 (oD 11))
def vc104 (R:Value->World->Prop) (w:World) (b c:Value):Prop:=
 V (bx 38 c) w fun a w=>
 V (fa 38 a 0) w fun d w=>
 V (ld 3 d) w fun f w=>
 V (fa 38 a 1) w fun h w=>
 V (ld 3 h) w fun i w=>
 V (fa 38 a 2) w fun j w=>
 V (ld 3 j) w fun k w=>
 V (fa 38 a 3) w fun l w=>
 V (ld 3 l) w fun n w=>
 V (bs 45 4 #[(0,f),(1,i),(2,k),(3,n)]) w fun o w=>
 CV (.func (.func 175) #[] #[]) #[b,o] w fun p w=>
 R (.tuple #[]) w
theorem en104 (h:vc104 R w t0 t1):Calls Tryz.prog 104 #[t0,t1] w (retK R):=enE ⟨by kernel_rfl,by kernel_rfl⟩ (by kernel_rfl:enterW Tryz.prog Tryz.f104 an104 [t0,t1] w R = _) h
def an124:Ann:=(oD 3)
def vc124 (R:Value->World->Prop) (w:World) (a b:Value):Prop:=
 V (bi .add 9 a (.string ⟨#[10]⟩)) w fun c w=>
 CV (.func (.func 125) #[] #[]) #[b,c] w fun d w=>
 R (.tuple #[]) w
theorem en124 (h:vc124 R w t0 t1):Calls Tryz.prog 124 #[t0,t1] w (retK R):=enE ⟨by kernel_rfl,by kernel_rfl⟩ (by kernel_rfl:enterW Tryz.prog Tryz.f124 an124 [t0,t1] w R = _) h
def an125:Ann:=(sD 2 (sD 2 (sD 10 (sD 4 lf))))
def vc125 (R:Value->World->Prop) (w:World) (a b:Value):Prop:=
 CV (.func (.func 184) #[] #[]) #[a] w fun l w=>
 NilW a fun c=>V (fa 199 c 1) w fun d w=>
 V (ld 55 d) w fun f w=>
 V (Builtin.append_ #[55,9] 55 #[f,b]) w fun h w=>
 NilW a fun i=>V (fa 199 i 1) w fun j w=>
 U (st 55 j h) w fun w=>
 V (ln 9 b) w fun k w=>
 R (.tuple #[k,.nilIface]) w
theorem en125 (h:vc125 R w t0 t1):Calls Tryz.prog 125 #[t0,t1] w (retK R):=enE ⟨by kernel_rfl,by kernel_rfl⟩ (by kernel_rfl:enterW Tryz.prog Tryz.f125 an125 [t0,t1] w R = _) h
def an126:Ann:=(sD 1 (sD 3 lf))
def vc126 (R:Value->World->Prop) (w:World) (a:Value):Prop:=
 CV (.func (.func 185) #[] #[]) #[a,(.string ⟨#[32]⟩)] w fun b w=>
 R b w
theorem en126 (h:vc126 R w t0):Calls Tryz.prog 126 #[t0] w (retK R):=enE ⟨by kernel_rfl,by kernel_rfl⟩ (by kernel_rfl:enterW Tryz.prog Tryz.f126 an126 [t0] w R = _) h
def an127:Ann:=(sD 1 (sD 5 lf))
def vc127 (R:Value->World->Prop) (w:World) (a:Value):Prop:=
 CV (.func (.func 186) #[] #[]) #[a,(.string ⟨#[34]⟩),(.string ⟨#[34,34]⟩)] w fun b w=>
 V (bi .add 9 (.string ⟨#[34]⟩) b) w fun c w=>
 V (bi .add 9 c (.string ⟨#[34]⟩)) w fun d w=>
 R d w
theorem en127 (h:vc127 R w t0):Calls Tryz.prog 127 #[t0] w (retK R):=enE ⟨by kernel_rfl,by kernel_rfl⟩ (by kernel_rfl:enterW Tryz.prog Tryz.f127 an127 [t0] w R = _) h
def an128:Ann:=(sD 1 (sD 1 (.seq (sD 3 (.one (.loop [3,8] ([3,5] ++ rgN 8 17) (sD 1 (.seq (.cond lf lf) (.seq (.one (sD 4 (.draw (.take 0 (.take 1 (.hold 2 (.take 4 (.hold 5 (.take 7 (.hold 8 (e1 3 (e1 6 (e1 9 (e1 10 (e1 11 (.take 12 .done)))))))))))))))) (oD 2))))))) (sD 2 lf))))
def vc128 (R:Value->World->Prop) (w:World) (h:Value):Prop:=
 V (ln 93 h) w fun n w=>
 ∃ (I0:LP) (M0:LN),I0 [(.string ⟨#[116,109,112,108]⟩),(.int .i64 0)] w/\∀ g:Env,∀ b,∀ a,∀ w,I0 [b,a] w->∀ m0,m0 = M0 [b,a] w ->
 V (bi .lss 3 a n) w fun o w=>
 CondW o
 (V (ia 93 h a) w fun p w=>
 V (ld 95 p) w fun q w=>
 V (al 95) w fun c w=>
 U (st 95 c q) w fun w=>
 Dr w fun w=>
 PV (fa 95 c 0) fun r=>
 HV (ld 3 r) w fun s=>
 PV (fa 95 c 1) fun i=>
 HV (ld 9 i) w fun j=>
 PV (fa 95 c 2) fun d=>
 HV (ld 3 d) w fun f=>
 CV (.func (.func 187) #[] #[]) #[s] w fun t w=>
 RunIs (ld 3 d) w f/\RunIs (ld 9 i) w j/\(CV (.func (.func 127) #[] #[]) #[j] w fun u w=>
 RunIs (ld 3 d) w f/\(CV (.func (.func 187) #[] #[]) #[f] w fun v w=>
 V (bs 22 4 #[(0,b),(1,t),(2,u),(3,v)]) w fun x w=>
 CV (.func (.func 126) #[] #[]) #[x] w fun k w=>
 V (bi .add 3 a (.int .i64 1)) w fun l w=>
 I0 [k,l] w/\M0 [k,l] w < m0)))
 (R b w)
theorem en128 (h:vc128 R w t0):Calls Tryz.prog 128 #[t0] w (retK R):=enE ⟨by kernel_rfl,by kernel_rfl⟩ (by kernel_rfl:enterW Tryz.prog Tryz.f128 an128 [t0] w R = _) h
def an129:Ann:=(sD 1 (sD 1 (.seq (sD 3 (.one (.loop [3,8] ([3,5] ++ rgN 8 19) (sD 1 (.seq (.cond lf lf) (.seqJ [3] ([3,5] ++ rgN 10 16) (.one (sD 4 (cD 2 (oD 8) (oD 6)))) (oD 2))))))) (sD 2 lf))))
def vc129 (R:Value->World->Prop) (w:World) (f:Value):Prop:=
 V (ln 96 f) w fun i w=>
 ∃ (I0:LP) (M0:LN),I0 [(.string ⟨#[108,105,115,116]⟩),(.int .i64 0)] w/\∀ g:Env,∀ a,∀ b,∀ w,I0 [a,b] w->∀ m0,m0 = M0 [a,b] w ->
 V (bi .lss 3 b i) w fun j w=>
 CondW j
 (∀ K0:LP,(∀ d,∀ w,(∀ g:Env,
 V (bi .add 3 b (.int .i64 1)) w fun h w=>
 I0 [d,h] w/\M0 [d,h] w < m0)->K0 [d] w) ->
 V (ia 96 f b) w fun k w=>
 V (ld 98 k) w fun l w=>
 V (al 98) w fun c w=>
 U (st 98 c l) w fun w=>
 V (fa 98 c 1) w fun n w=>
 V (ld 4 n) w fun o w=>
 CondW o
 (V (fa 98 c 0) w fun p w=>
 V (ld 9 p) w fun q w=>
 V (bi .add 9 (.string ⟨#[40]⟩) q) w fun r w=>
 V (bi .add 9 r (.string ⟨#[41]⟩)) w fun s w=>
 V (bs 22 2 #[(0,a),(1,s)]) w fun t w=>
 CV (.func (.func 126) #[] #[]) #[t] w fun u w=>
 K0 [u] w)
 (V (fa 98 c 0) w fun v w=>
 V (ld 9 v) w fun x w=>
 V (bs 22 2 #[(0,a),(1,x)]) w fun y w=>
 CV (.func (.func 126) #[] #[]) #[y] w fun z w=>
 K0 [z] w))
 (R a w)
theorem en129 (h:vc129 R w t0):Calls Tryz.prog 129 #[t0] w (retK R):=enE ⟨by kernel_rfl,by kernel_rfl⟩ (by kernel_rfl:enterW Tryz.prog Tryz.f129 an129 [t0] w R = _) h
def an130:Ann:=(sD 2 (.seq (.draw (.take 0 (.hold 1 (.take 3 (.hold 4 (e1 2 (e1 5 (e1 6 (e1 7 (.take 8 .done)))))))))) lf))
def vc130 (R:Value->World->Prop) (w:World) (d:Value):Prop:=
 V (bx 54 d) w fun a w=>
 Dr w fun w=>
 PV (fa 54 a 1) fun f=>
 HV (ld 3 f) w fun h=>
 PV (fa 54 a 0) fun b=>
 HV (ld 9 b) w fun c=>
 CV (.func (.func 187) #[] #[]) #[h] w fun i w=>
 RunIs (ld 9 b) w c/\(CV (.func (.func 127) #[] #[]) #[c] w fun j w=>
 V (bs 22 3 #[(0,(.string ⟨#[108,97,98,101,108]⟩)),(1,i),(2,j)]) w fun k w=>
 CV (.func (.func 126) #[] #[]) #[k] w fun l w=>
 R l w)
theorem en130 (h:vc130 R w t0):Calls Tryz.prog 130 #[t0] w (retK R):=enE ⟨by kernel_rfl,by kernel_rfl⟩ (by kernel_rfl:enterW Tryz.prog Tryz.f130 an130 [t0] w R = _) h
def an131:Ann:=(sD 2 (sD 8 (sD 8 (.seq (.one (.loop [5] ([5] ++ rgN 21 17) (.seq (.seq (.reg (opn 4 (.join [32] (rgN 25 8) (.split 24 (opn 8 .done) (opn 8 .done)) .done))) (.cond lf lf)) (.one (oD 6))))) (sD 3 (.seq (sD 3 (.one (.loop [6,42] ([6,8] ++ rgN 42 10) (sD 1 (.seq (.cond lf lf) (.seq (.one (sD 3 (oD 6))) (oD 2))))))) (sD 2 lf)))))))
def vc131 (R:Value->World->Prop) (w:World) (n:Value):Prop:=
 V (bx 38 n) w fun b w=>
 V (ld 38 b) w fun o w=>
 CV (.func (.func 49) #[] #[]) #[o] w fun d w=>
 V (ex d 0) w fun p w=>
 V (ex d 1) w fun s0 w=>
 V (al 102) w fun f w=>
 U (st 102 f p) w fun w=>
 V (fa 38 b 1) w fun q w=>
 V (ld 3 q) w fun r w=>
 V (fa 38 b 2) w fun s w=>
 V (ld 3 s) w fun t w=>
 V (fa 38 b 3) w fun u w=>
 V (ld 3 u) w fun v w=>
 V (bs 45 3 #[(0,r),(1,t),(2,v)]) w fun x w=>
 Lp1 x w fun I0 M0 a w m0=>
 V (ln 45 a) w fun y w=>
 V (bi .gtr 3 y (.int .i64 0)) w fun z w=>
 ∀ K0:LP,(∀ h,∀ w,(∀ g:Env,
 CondW h
 (V (ln 45 a) w fun a0 w=>
 V (bi .sub 3 a0 (.int .i64 1)) w fun b0 w=>
 V (sl 45 a none (some b0) none) w fun i w=>
 I0 [i] w/\M0 [i] w < m0)
 (V (fa 102 f 0) w fun c0 w=>
 V (ld 9 c0) w fun d0 w=>
 V (ln 45 a) w fun f0 w=>
 Lp2 d0 (.int .i64 0) w fun I1 M1 j c w m1=>
 V (bi .lss 3 c f0) w fun h0 w=>
 CondW h0
 (V (ia 45 a c) w fun i0 w=>
 V (ld 3 i0) w fun j0 w=>
 CV (.func (.func 187) #[] #[]) #[j0] w fun k0 w=>
 V (bs 22 2 #[(0,j),(1,k0)]) w fun l0 w=>
 CV (.func (.func 126) #[] #[]) #[l0] w fun k w=>
 V (bi .add 3 c (.int .i64 1)) w fun l w=>
 I1 [k,l] w/\M1 [k,l] w < m1)
 (R j w)))->K0 [h] w) ->
 CondW z
 (V (ln 45 a) w fun n0 w=>
 V (bi .sub 3 n0 (.int .i64 1)) w fun o0 w=>
 V (ia 45 a o0) w fun p0 w=>
 V (ld 3 p0) w fun q0 w=>
 V (ec .eql 3 30 q0 (.int .i64 0)) w fun r0 w=>
 K0 [r0] w)
 (K0 [(.bool false)] w)
theorem en131 (h:vc131 R w t0):Calls Tryz.prog 131 #[t0] w (retK R):=enE ⟨by kernel_rfl,by kernel_rfl⟩ (by kernel_rfl:enterW Tryz.prog Tryz.f131 an131 [t0] w R = _) h
def an132:Ann:=(sD 1 (.seq (.draw (tkN 0 3 (.hold 3 (tkN 5 3 (.hold 8 (.take 9 (e1 4 (e1 10 (.take 11 .done))))))))) lf))
def vc132 (R:Value->World->Prop) (w:World) (c:Value):Prop:=
 Dr w fun w=>
 NilW c fun d=>PV (fa 199 d 1) fun f=>
 HV (ld 55 f) w fun h=>
 NilW c fun i=>PV (fa 199 i 1) fun a=>
 HV (ld 55 a) w fun b=>
 PV (ln 55 b) fun j=>
 V (Builtin.unsafeSliceData_ #[55] 261 #[h]) w fun k w=>
 RunIs (ld 55 a) w b/\(V (Builtin.unsafeString_ #[261,3] 9 #[k,j]) w fun l w=>
 RunIs (ld 55 a) w b/\(R l w))
theorem en132 (h:vc132 R w t0):Calls Tryz.prog 132 #[t0] w (retK R):=enE ⟨by kernel_rfl,by kernel_rfl⟩ (by kernel_rfl:enterW Tryz.prog Tryz.f132 an132 [t0] w R = _) h
def an134:Ann:=(sD 3 (sD 9 lf))
def vc134 (R:Value->World->Prop) (w:World) (b c:Value):Prop:=
 CV (.func (.func 191) #[] #[]) #[b,c] w fun a w=>
 V (ex a 0) w fun d w=>
 V (ex a 1) w fun f w=>
 V (ex a 2) w fun h w=>
 R (.tuple #[d,f,h]) w
theorem en134 (h:vc134 R w t0 t1):Calls Tryz.prog 134 #[t0,t1] w (retK R):=enE ⟨by kernel_rfl,by kernel_rfl⟩ (by kernel_rfl:enterW Tryz.prog Tryz.f134 an134 [t0,t1] w R = _) h
def an137:Ann:=(sD 1 (sD 4 lf))
def vc137 (R:Value->World->Prop) (w:World) (a:Value):Prop:=
 V (ln 9 a) w fun b w=>
 V (bi .leq 3 b (.int .i64 1000)) w fun c w=>
 R c w
theorem en137 (h:vc137 R w t0):Calls Tryz.prog 137 #[t0] w (retK R):=enE ⟨by kernel_rfl,by kernel_rfl⟩ (by kernel_rfl:enterW Tryz.prog Tryz.f137 an137 [t0] w R = _) h
def an138:Ann:=(sD 2 (sD 5 lf))
def vc138 (R:Value->World->Prop) (w:World) (a b:Value):Prop:=
 V (bx 224 b) w fun c w=>
 CV (.func (.func 206) #[] #[]) #[a,(.func (.func 207) #[] #[c])] w fun d w=>
 V (un .not d) w fun f w=>
 R f w
theorem en138 (h:vc138 R w t0 t1):Calls Tryz.prog 138 #[t0,t1] w (retK R):=enE ⟨by kernel_rfl,by kernel_rfl⟩ (by kernel_rfl:enterW Tryz.prog Tryz.f138 an138 [t0,t1] w R = _) h
def an139:Ann:=(sD 1 (.seq (.reg (opn 4 (.join [11] [8,9,10,11] (.split 7 (opn 4 .done) (opn 4 .done)) (opn 1 .done)))) lf))
def vc139 (R:Value->World->Prop) (w:World) (a c:Value):Prop:=
 V (ln 93 a) w fun d w=>
 V (bi .leq 3 d (.int .i64 100)) w fun f w=>
 ∀ K0:LP,(∀ b,∀ w,(∀ g:Env,
 R b w)->K0 [b] w) ->
 CondW f
 (CV (.func (.func 140) #[] #[]) #[a,(.func (.func 141) #[] #[c])] w fun h w=>
 K0 [h] w)
 (K0 [(.bool false)] w)
theorem en139 (h:vc139 R w t0 t1):Calls Tryz.prog 139 #[t0,t1] w (retK R):=enE ⟨by kernel_rfl,by kernel_rfl⟩ (by kernel_rfl:enterW Tryz.prog Tryz.f139 an139 [t0,t1] w R = _) h
def an140:Ann:=(sD 2 (sD 5 lf))
def vc140 (R:Value->World->Prop) (w:World) (a b:Value):Prop:=
 V (bx 223 b) w fun c w=>
 CV (.func (.func 208) #[] #[]) #[a,(.func (.func 209) #[] #[c])] w fun d w=>
 V (un .not d) w fun f w=>
 R f w
theorem en140 (h:vc140 R w t0 t1):Calls Tryz.prog 140 #[t0,t1] w (retK R):=enE ⟨by kernel_rfl,by kernel_rfl⟩ (by kernel_rfl:enterW Tryz.prog Tryz.f140 an140 [t0,t1] w R = _) h
def an141:Ann:=(sD 2 (sD 5 lf))
def vc141 (R:Value->World->Prop) (w:World) (a b:Value):Prop:=
 V (bx 95 a) w fun c w=>
 V (ld 215 b) w fun d w=>
 V (fa 95 c 1) w fun f w=>
 V (ld 9 f) w fun h w=>
 CV d #[h] w fun i w=>
 R i w
theorem en141 (h:vc141 R w t0 t1):Calls Tryz.prog 141 #[t0,t1] w (retK R):=enE ⟨by kernel_rfl,by kernel_rfl⟩ (by kernel_rfl:enterW Tryz.prog Tryz.f141 an141 [t0,t1] w R = _) h
def an142:Ann:=(sD 2 (sD 5 lf))
def vc142 (R:Value->World->Prop) (w:World) (a b:Value):Prop:=
 V (bx 215 b) w fun c w=>
 CV (.func (.func 210) #[] #[]) #[a,(.func (.func 211) #[] #[c])] w fun d w=>
 V (un .not d) w fun f w=>
 R f w
theorem en142 (h:vc142 R w t0 t1):Calls Tryz.prog 142 #[t0,t1] w (retK R):=enE ⟨by kernel_rfl,by kernel_rfl⟩ (by kernel_rfl:enterW Tryz.prog Tryz.f142 an142 [t0,t1] w R = _) h
def an143:Ann:=(sD 2 (sD 5 lf))
def vc143 (R:Value->World->Prop) (w:World) (a b:Value):Prop:=
 V (bx 227 b) w fun c w=>
 CV (.func (.func 212) #[] #[]) #[a,(.func (.func 213) #[] #[c])] w fun d w=>
 V (un .not d) w fun f w=>
 R f w
theorem en143 (h:vc143 R w t0 t1):Calls Tryz.prog 143 #[t0,t1] w (retK R):=enE ⟨by kernel_rfl,by kernel_rfl⟩ (by kernel_rfl:enterW Tryz.prog Tryz.f143 an143 [t0,t1] w R = _) h
def an144:Ann:=(sD 1 (sD 4 lf))
def vc144 (R:Value->World->Prop) (w:World) (a:Value):Prop:=
 V (ln 96 a) w fun b w=>
 V (bi .leq 3 b (.int .i64 10000)) w fun c w=>
 R c w
theorem en144 (h:vc144 R w t0):Calls Tryz.prog 144 #[t0] w (retK R):=enE ⟨by kernel_rfl,by kernel_rfl⟩ (by kernel_rfl:enterW Tryz.prog Tryz.f144 an144 [t0] w R = _) h
def an145:Ann:=(sD 2 (sD 5 lf))
def vc145 (R:Value->World->Prop) (w:World) (a b:Value):Prop:=
 V (bx 144 b) w fun c w=>
 CV (.func (.func 214) #[] #[]) #[a,(.func (.func 215) #[] #[c])] w fun d w=>
 V (un .not d) w fun f w=>
 R f w
theorem en145 (h:vc145 R w t0 t1):Calls Tryz.prog 145 #[t0,t1] w (retK R):=enE ⟨by kernel_rfl,by kernel_rfl⟩ (by kernel_rfl:enterW Tryz.prog Tryz.f145 an145 [t0,t1] w R = _) h
def an146:Ann:=(sD 2 (sD 5 lf))
def vc146 (R:Value->World->Prop) (w:World) (a b:Value):Prop:=
 V (bx 54 a) w fun c w=>
 V (ld 215 b) w fun d w=>
 V (fa 54 c 0) w fun f w=>
 V (ld 9 f) w fun h w=>
 CV d #[h] w fun i w=>
 R i w
theorem en146 (h:vc146 R w t0 t1):Calls Tryz.prog 146 #[t0,t1] w (retK R):=enE ⟨by kernel_rfl,by kernel_rfl⟩ (by kernel_rfl:enterW Tryz.prog Tryz.f146 an146 [t0,t1] w R = _) h
def an147:Ann:=(sD 1 (.seq (.reg (opn 4 (.join [10] [7,8,9,10] (.split 6 (opn 4 .done) (opn 4 .done)) (opn 1 .done)))) lf))
def vc147 (R:Value->World->Prop) (w:World) (a:Value):Prop:=
 V (ln 9 a) w fun c w=>
 V (bi .leq 3 c (.int .i64 1000)) w fun d w=>
 ∀ K0:LP,(∀ b,∀ w,(∀ g:Env,
 R b w)->K0 [b] w) ->
 CondW d
 (V (cv 9 55 a) w fun f w=>
 CV (.func (.func 216) #[] #[]) #[f,(.func (.func 217) #[] #[])] w fun h w=>
 K0 [h] w)
 (K0 [(.bool false)] w)
theorem en147 (h:vc147 R w t0):Calls Tryz.prog 147 #[t0] w (retK R):=enE ⟨by kernel_rfl,by kernel_rfl⟩ (by kernel_rfl:enterW Tryz.prog Tryz.f147 an147 [t0] w R = _) h
def an148:Ann:=(sD 1 (sD 3 lf))
def vc148 (R:Value->World->Prop) (w:World) (a:Value):Prop:=
 CV (.func (.func 140) #[] #[]) #[a,(.func (.func 149) #[] #[])] w fun b w=>
 R b w
theorem en148 (h:vc148 R w t0):Calls Tryz.prog 148 #[t0] w (retK R):=enE ⟨by kernel_rfl,by kernel_rfl⟩ (by kernel_rfl:enterW Tryz.prog Tryz.f148 an148 [t0] w R = _) h
def an149:Ann:=(sD 2 (.seq (sD 2 (.one (cD 2 (.seq (.reg (opn 4 (.join [14] [11,12,13,14] (.split 10 (opn 4 .done) (opn 4 .done)) (opn 1 .done)))) lf) (cD 2 (.seq (.reg (opn 4 (.join [24] [21,22,23,24] (.split 20 (opn 4 .done) (opn 4 .done)) (opn 1 .done)))) lf) (.seqJ [25] [25,26,27,28,29] (cD 2 lf (cD 2 lf (cD 2 lf (oD 2)))) (.cond (.seq (.reg (opn 5 (.join [38] [35,36,37,38] (.split 34 (opn 4 .done) (opn 4 .done)) (opn 1 .done)))) lf) (.seqJ [39] [39,40,41,42] (cD 2 lf (cD 2 lf (oD 2))) (.cond (.seq (.reg (opn 4 (.join [50] [47,48,49,50] (.split 46 (opn 4 .done) (opn 4 .done)) (opn 1 .done)))) lf) (.seqJ [51] [51,52,53] (cD 2 lf (oD 2)) (.cond (.seq (.reg (opn 4 (.join [61] [58,59,60,61] (.split 57 (opn 4 .done) (opn 4 .done)) (opn 1 .done)))) lf) lf)))))))))) (sD 1 lf)))
def vc149 (R:Value->World->Prop) (w:World) (t:Value):Prop:=
 V (bx 95 t) w fun a w=>
 V (fa 95 a 0) w fun u w=>
 V (ld 3 u) w fun b w=>
 V (ec .eql 3 4 b (.int .i64 1)) w fun v w=>
 CondW v
 (V (fa 95 a 1) w fun x w=>
 V (ld 9 x) w fun y w=>
 CV (.func (.func 153) #[] #[]) #[y] w fun z w=>
 ∀ K0:LP,(∀ c,∀ w,(∀ g:Env,
 R c w)->K0 [c] w) ->
 CondW z
 (V (fa 95 a 2) w fun a0 w=>
 V (ld 3 a0) w fun b0 w=>
 V (ec .eql 3 12 b0 (.int .i64 0)) w fun c0 w=>
 K0 [c0] w)
 (K0 [(.bool false)] w))
 (V (ec .eql 3 4 b (.int .i64 3)) w fun d0 w=>
 CondW d0
 (V (fa 95 a 1) w fun f0 w=>
 V (ld 9 f0) w fun h0 w=>
 CV (.func (.func 147) #[] #[]) #[h0] w fun i0 w=>
 ∀ K0:LP,(∀ d,∀ w,(∀ g:Env,
 R d w)->K0 [d] w) ->
 CondW i0
 (V (fa 95 a 2) w fun j0 w=>
 V (ld 3 j0) w fun k0 w=>
 V (ec .eql 3 22 k0 (.int .i64 0)) w fun l0 w=>
 K0 [l0] w)
 (K0 [(.bool false)] w))
 (∀ K0:LP,(∀ f,∀ w,(∀ g:Env,
 CondW f
 (V (fa 95 a 1) w fun n0 w=>
 V (ld 9 n0) w fun o0 w=>
 CV (.func (.func 156) #[] #[]) #[o0] w fun p0 w=>
 V (ec .eql 3 32 p0 (.int .i64 2)) w fun q0 w=>
 ∀ K0:LP,(∀ h,∀ w,(∀ g:Env,
 R h w)->K0 [h] w) ->
 CondW q0
 (V (fa 95 a 2) w fun r0 w=>
 V (ld 3 r0) w fun s0 w=>
 V (ec .eql 3 36 s0 (.int .i64 0)) w fun u0 w=>
 K0 [u0] w)
 (K0 [(.bool false)] w))
 (∀ K0:LP,(∀ i,∀ w,(∀ g:Env,
 CondW i
 (V (fa 95 a 1) w fun v0 w=>
 V (ld 9 v0) w fun x0 w=>
 V (ec .eql 9 44 x0 (.string ⟨#[]⟩)) w fun y0 w=>
 ∀ K0:LP,(∀ j,∀ w,(∀ g:Env,
 R j w)->K0 [j] w) ->
 CondW y0
 (V (fa 95 a 2) w fun z0 w=>
 V (ld 3 z0) w fun a1 w=>
 CV (.func (.func 75) #[] #[]) #[a1,(.int .i64 0),(.int .i64 999999999)] w fun b1 w=>
 K0 [b1] w)
 (K0 [(.bool false)] w))
 (∀ K0:LP,(∀ k,∀ w,(∀ g:Env,
 CondW k
 (V (fa 95 a 1) w fun c1 w=>
 V (ld 9 c1) w fun d1 w=>
 V (ec .eql 9 55 d1 (.string ⟨#[]⟩)) w fun f1 w=>
 ∀ K0:LP,(∀ l,∀ w,(∀ g:Env,
 R l w)->K0 [l] w) ->
 CondW f1
 (V (fa 95 a 2) w fun h1 w=>
 V (ld 3 h1) w fun i1 w=>
 V (ec .eql 3 59 i1 (.int .i64 0)) w fun j1 w=>
 K0 [j1] w)
 (K0 [(.bool false)] w))
 (R (.bool false) w))->K0 [k] w) ->
 V (ec .eql 3 4 b (.int .i64 2)) w fun n w=>
 CondW n
 (K0 [n] w)
 (V (ec .eql 3 4 b (.int .i64 11)) w fun k1 w=>
 K0 [k1] w)))->K0 [i] w) ->
 V (ec .eql 3 4 b (.int .i64 5)) w fun o w=>
 CondW o
 (K0 [o] w)
 (V (ec .eql 3 4 b (.int .i64 6)) w fun p w=>
 CondW p
 (K0 [p] w)
 (V (ec .eql 3 4 b (.int .i64 7)) w fun l1 w=>
 K0 [l1] w))))->K0 [f] w) ->
 V (ec .eql 3 4 b (.int .i64 4)) w fun q w=>
 CondW q
 (K0 [q] w)
 (V (ec .eql 3 4 b (.int .i64 8)) w fun r w=>
 CondW r
 (K0 [r] w)
 (V (ec .eql 3 4 b (.int .i64 9)) w fun s w=>
 CondW s
 (K0 [s] w)
 (V (ec .eql 3 4 b (.int .i64 10)) w fun n1 w=>
 K0 [n1] w)))))
theorem en149 (h:vc149 R w t0):Calls Tryz.prog 149 #[t0] w (retK R):=enE ⟨by kernel_rfl,by kernel_rfl⟩ (by kernel_rfl:enterW Tryz.prog Tryz.f149 an149 [t0] w R = _) h
def an150:Ann:=(sD 1 (.seq (.reg (opn 4 (.join [9] [7,8,9] (.split 6 (opn 3 .done) (opn 3 .done)) (opn 1 .done)))) lf))
def vc150 (R:Value->World->Prop) (w:World) (a:Value):Prop:=
 V (ln 96 a) w fun c w=>
 V (bi .gtr 3 c (.int .i64 0)) w fun d w=>
 ∀ K0:LP,(∀ b,∀ w,(∀ g:Env,
 R b w)->K0 [b] w) ->
 CondW d
 (CV (.func (.func 151) #[] #[]) #[a,(.func (.func 152) #[] #[])] w fun f w=>
 K0 [f] w)
 (K0 [(.bool false)] w)
theorem en150 (h:vc150 R w t0):Calls Tryz.prog 150 #[t0] w (retK R):=enE ⟨by kernel_rfl,by kernel_rfl⟩ (by kernel_rfl:enterW Tryz.prog Tryz.f150 an150 [t0] w R = _) h
def an151:Ann:=(sD 2 (sD 5 lf))
def vc151 (R:Value->World->Prop) (w:World) (a b:Value):Prop:=
 V (bx 230 b) w fun c w=>
 CV (.func (.func 218) #[] #[]) #[a,(.func (.func 219) #[] #[c])] w fun d w=>
 V (un .not d) w fun f w=>
 R f w
theorem en151 (h:vc151 R w t0 t1):Calls Tryz.prog 151 #[t0,t1] w (retK R):=enE ⟨by kernel_rfl,by kernel_rfl⟩ (by kernel_rfl:enterW Tryz.prog Tryz.f151 an151 [t0,t1] w R = _) h
def an152:Ann:=(sD 2 (sD 4 lf))
def vc152 (R:Value->World->Prop) (w:World) (a:Value):Prop:=
 V (bx 98 a) w fun b w=>
 V (fa 98 b 0) w fun c w=>
 V (ld 9 c) w fun d w=>
 CV (.func (.func 153) #[] #[]) #[d] w fun f w=>
 R f w
theorem en152 (h:vc152 R w t0):Calls Tryz.prog 152 #[t0] w (retK R):=enE ⟨by kernel_rfl,by kernel_rfl⟩ (by kernel_rfl:enterW Tryz.prog Tryz.f152 an152 [t0] w R = _) h
def an153:Ann:=(sD 1 (sD 4 lf))
def vc153 (R:Value->World->Prop) (w:World) (a:Value):Prop:=
 CV (.func (.func 156) #[] #[]) #[a] w fun b w=>
 V (bi .gtr 3 b (.int .i64 1)) w fun c w=>
 R c w
theorem en153 (h:vc153 R w t0):Calls Tryz.prog 153 #[t0] w (retK R):=enE ⟨by kernel_rfl,by kernel_rfl⟩ (by kernel_rfl:enterW Tryz.prog Tryz.f153 an153 [t0] w R = _) h
def an154:Ann:=(sD 2 (.seq (.reg (opn 4 (.join [18] (rgN 10 9) (.split 9 (opn 9 .done) (opn 9 .done)) (opn 1 .done)))) (sD 5 (sD 2 lf))))
def vc154 (R:Value->World->Prop) (w:World) (d a f:Value):Prop:=
 V (bx 54 d) w fun b w=>
 V (fa 54 b 0) w fun h w=>
 V (ld 9 h) w fun i w=>
 CV (.func (.func 147) #[] #[]) #[i] w fun j w=>
 ∀ K0:LP,(∀ c,∀ w,(∀ g:Env,
 V (ld 3 a) w fun k w=>
 V (fa 54 b 1) w fun l w=>
 V (ld 3 l) w fun n w=>
 V (Builtin.max_ #[3,3] 3 #[k,n]) w fun o w=>
 U (st 3 a o) w fun w=>
 R c w)->K0 [c] w) ->
 CondW j
 (V (fa 54 b 1) w fun p w=>
 V (ld 3 p) w fun q w=>
 V (ld 3 a) w fun r w=>
 V (fa 28 f 5) w fun s w=>
 V (ld 26 s) w fun t w=>
 V (ln 26 t) w fun u w=>
 V (bi .sub 3 u (.int .i64 1)) w fun v w=>
 CV (.func (.func 75) #[] #[]) #[q,r,v] w fun x w=>
 K0 [x] w)
 (K0 [(.bool false)] w)
theorem en154 (h:vc154 R w t0 t1 t2):Calls Tryz.prog 154 #[t0,t1,t2] w (retK R):=enE ⟨by kernel_rfl,by kernel_rfl⟩ (by kernel_rfl:enterW Tryz.prog Tryz.f154 an154 [t0,t1,t2] w R = _) h
def an155:Ann:=(sD 1 (.seq (.reg (opn 4 (.join [13] [9,10,11,12,13] (.split 8 (opn 5 .done) (opn 5 .done)) (opn 1 .done)))) (sD 3 (sD 2 lf))))
def vc155 (R:Value->World->Prop) (w:World) (a b:Value):Prop:=
 CV (.func (.func 156) #[] #[]) #[a] w fun d w=>
 V (ec .eql 3 6 d (.int .i64 2)) w fun f w=>
 ∀ K0:LP,(∀ c,∀ w,(∀ g:Env,
 V (ld 231 b) w fun h w=>
 U (mu 231 h a (.bool true)) w fun w=>
 R c w)->K0 [c] w) ->
 CondW f
 (V (ld 231 b) w fun i w=>
 V (lk 231 i a false) w fun j w=>
 V (un .not j) w fun k w=>
 K0 [k] w)
 (K0 [(.bool false)] w)
theorem en155 (h:vc155 R w t0 t1):Calls Tryz.prog 155 #[t0,t1] w (retK R):=enE ⟨by kernel_rfl,by kernel_rfl⟩ (by kernel_rfl:enterW Tryz.prog Tryz.f155 an155 [t0,t1] w R = _) h
def an156:Ann:=(sD 1 (sD 1 (.seq (.seq (.reg (opn 5 (.join [20] (rgN 10 11) (.split 9 (opn 11 .done) (opn 6 (.join [19] [16,17,18,19] (.split 15 (opn 4 .done) (opn 4 .done)) (opn 1 .done)))) .done))) (.cond (sD 1 lf) lf)) (sD 3 (.seq (.one (.seq (.reg (opn 5 (.join [32] [29,30,31,32] (.split 28 (opn 4 .done) (opn 4 .done)) (opn 1 .done)))) (.cond (sD 1 lf) (cD 3 (sD 1 lf) (.seq (.reg (opn 3 (.join [42] [40,41,42] (.split 39 (opn 3 .done) (opn 3 .done)) (opn 1 .done)))) (.cond (sD 1 lf) lf)))))) (sD 1 lf))))))
def vc156 (R:Value->World->Prop) (w:World) (a:Value):Prop:=
 V (ln 9 a) w fun i w=>
 CV (.func (.func 75) #[] #[]) #[i,(.int .i64 1),(.int .i64 40)] w fun j w=>
 V (un .not j) w fun k w=>
 ∀ K0:LP,(∀ b,∀ w,(∀ g:Env,
 CondW b
 (R (.int .i64 0) w)
 (CV (.func (.func 223) #[] #[]) #[a,(.string ⟨#[46]⟩)] w fun c w=>
 V (ix 9 a (.int .i64 0)) w fun l w=>
 V (cv 5 3 l) w fun n w=>
 CV (.func (.func 75) #[] #[]) #[n,(.int .i64 48),(.int .i64 57)] w fun o w=>
 ∀ K0:LP,(∀ d,∀ w,(∀ g:Env,
 CondW d
 (R (.int .i64 1) w)
 (V (ec .eql 3 34 c (.int .i64 0)) w fun p w=>
 CondW p
 (R (.int .i64 2) w)
 (V (ec .eql 3 37 c (.int .i64 1)) w fun q w=>
 ∀ K0:LP,(∀ f,∀ w,(∀ g:Env,
 CondW f
 (R (.int .i64 3) w)
 (R (.int .i64 4) w))->K0 [f] w) ->
 CondW q
 (CV (.func (.func 224) #[] #[]) #[a,(.string ⟨#[46]⟩)] w fun r w=>
 K0 [r] w)
 (K0 [(.bool false)] w))))->K0 [d] w) ->
 CondW o
 (K0 [(.bool true)] w)
 (V (ix 9 a (.int .i64 0)) w fun s w=>
 V (ec .eql 5 30 s (.int .u8 46)) w fun t w=>
 K0 [t] w)))->K0 [b] w) ->
 CondW k
 (K0 [(.bool true)] w)
 (V (cv 9 55 a) w fun u w=>
 CV (.func (.func 216) #[] #[]) #[u,(.func (.func 220) #[] #[])] w fun v w=>
 V (un .not v) w fun x w=>
 ∀ K1:LP,(∀ h,∀ w,(∀ g:Env,
 K0 [h] w)->K1 [h] w) ->
 CondW x
 (CV (.func (.func 222) #[] #[]) #[a] w fun y w=>
 V (un .not y) w fun z w=>
 K1 [z] w)
 (K1 [(.bool false)] w))
theorem en156 (h:vc156 R w t0):Calls Tryz.prog 156 #[t0] w (retK R):=enE ⟨by kernel_rfl,by kernel_rfl⟩ (by kernel_rfl:enterW Tryz.prog Tryz.f156 an156 [t0] w R = _) h
end
end Go.Proofs.YtbeelfopmkbllaaGreatDoor
