/- Texts joined: VC. -/
import Derived.Test.YtbeelfopmkbllaaGreatDoorM1
set_option linter.unusedSimpArgs false
set_option linter.unusedVariables false
set_option linter.unusedSectionVars false
set_option maxRecDepth 100000
namespace Go.Proofs.YtbeelfopmkbllaaGreatDoor
section
open Go Q
variable {R:Value->World->Prop} {w:World} {t0 t1 t2 t3 t4 t5 t6:Value}
def an242:Ann:=(sD 2 (sD 7 lf))
def vc242 (R:Value->World->Prop) (w:World) (b c:Value):Prop:=
 CV (f0 270) #[b,c] w fun a w=>V (ex a 0) w fun d w=>V (ex a 1) w fun f w=>R (.tuple #[d,f]) w
theorem en242 (h:vc242 R w t0 t1):Calls Tryz.prog 242 #[t0,t1] w (retK R):=enE ⟨by kernel_rfl,by kernel_rfl⟩ (by kernel_rfl:enterW Tryz.prog Tryz.f242 an242 [t0,t1] w R = _) h
def an244:Ann:=(sD 1 (sD 4 lf))
def vc244 (R:Value->World->Prop) (w:World) (a b:Value):Prop:=
 CV (f0 273) #[a,b] w fun c w=>R c w
theorem en244 (h:vc244 R w t0 t1):Calls Tryz.prog 244 #[t0,t1] w (retK R):=enE ⟨by kernel_rfl,by kernel_rfl⟩ (by kernel_rfl:enterW Tryz.prog Tryz.f244 an244 [t0,t1] w R = _) h
def an246:Ann:=(sD 1 (.seq (sD 3 (.one (.loop [8] ([4,5] ++ rgN 8 11) (sD 1 (.seq (.cond lf lf) (.seq (.one (sD 2 (cD 6 (sD 2 lf) lf))) (oD 2))))))) (sD 1 lf)))
def vc246 (R:Value->World->Prop) (w:World) (b d:Value):Prop:=
 V (ln 23 b) w fun f w=>Lp1 (.int .i64 0) w fun I0 M0 a w m0=>V (bi .lss 3 a f) w fun h w=>CondW h (V (ia 23 b a) w fun i w=>V (ld 93 i) w fun j w=>CV d #[j] w fun k w=>CondW k (R a w) (V (bi .add 3 a (.int .i64 1)) w fun c w=>I0 [c] w/\M0 [c] w < m0)) (R (.int .i64 (-1)) w)
theorem en246 (h:vc246 R w t0 t1):Calls Tryz.prog 246 #[t0,t1] w (retK R):=enE ⟨by kernel_rfl,by kernel_rfl⟩ (by kernel_rfl:enterW Tryz.prog Tryz.f246 an246 [t0,t1] w R = _) h
def an247:Ann:=(sD 1 (.seq (sD 3 (.one (.loop [8] ([4,5] ++ rgN 8 11) (sD 1 (.seq (.cond lf lf) (.seq (.one (sD 2 (cD 6 (sD 2 lf) lf))) (oD 2))))))) (sD 1 lf)))
def vc247 (R:Value->World->Prop) (w:World) (b d:Value):Prop:=
 V (ln 93 b) w fun f w=>Lp1 (.int .i64 0) w fun I0 M0 a w m0=>V (bi .lss 3 a f) w fun h w=>CondW h (V (ia 93 b a) w fun i w=>V (ld 95 i) w fun j w=>CV d #[j] w fun k w=>CondW k (R a w) (V (bi .add 3 a (.int .i64 1)) w fun c w=>I0 [c] w/\M0 [c] w < m0)) (R (.int .i64 (-1)) w)
theorem en247 (h:vc247 R w t0 t1):Calls Tryz.prog 247 #[t0,t1] w (retK R):=enE ⟨by kernel_rfl,by kernel_rfl⟩ (by kernel_rfl:enterW Tryz.prog Tryz.f247 an247 [t0,t1] w R = _) h
def an248:Ann:=(sD 1 (.seq (sD 3 (.one (.loop [8] ([4,5] ++ rgN 8 11) (sD 1 (.seq (.cond lf lf) (.seq (.one (sD 2 (cD 6 (sD 2 lf) lf))) (oD 2))))))) (sD 1 lf)))
def vc248 (R:Value->World->Prop) (w:World) (b d:Value):Prop:=
 V (ln 22 b) w fun f w=>Lp1 (.int .i64 0) w fun I0 M0 a w m0=>V (bi .lss 3 a f) w fun h w=>CondW h (V (ia 22 b a) w fun i w=>V (ld 9 i) w fun j w=>CV d #[j] w fun k w=>CondW k (R a w) (V (bi .add 3 a (.int .i64 1)) w fun c w=>I0 [c] w/\M0 [c] w < m0)) (R (.int .i64 (-1)) w)
theorem en248 (h:vc248 R w t0 t1):Calls Tryz.prog 248 #[t0,t1] w (retK R):=enE ⟨by kernel_rfl,by kernel_rfl⟩ (by kernel_rfl:enterW Tryz.prog Tryz.f248 an248 [t0,t1] w R = _) h
def an249:Ann:=(sD 1 (.seq (sD 3 (.one (.loop [8] ([4,5] ++ rgN 8 11) (sD 1 (.seq (.cond lf lf) (.seq (.one (sD 2 (cD 6 (sD 2 lf) lf))) (oD 2))))))) (sD 1 lf)))
def vc249 (R:Value->World->Prop) (w:World) (b d:Value):Prop:=
 V (ln 24 b) w fun f w=>Lp1 (.int .i64 0) w fun I0 M0 a w m0=>V (bi .lss 3 a f) w fun h w=>CondW h (V (ia 24 b a) w fun i w=>V (ld 96 i) w fun j w=>CV d #[j] w fun k w=>CondW k (R a w) (V (bi .add 3 a (.int .i64 1)) w fun c w=>I0 [c] w/\M0 [c] w < m0)) (R (.int .i64 (-1)) w)
theorem en249 (h:vc249 R w t0 t1):Calls Tryz.prog 249 #[t0,t1] w (retK R):=enE ⟨by kernel_rfl,by kernel_rfl⟩ (by kernel_rfl:enterW Tryz.prog Tryz.f249 an249 [t0,t1] w R = _) h
def an250:Ann:=(sD 1 (sD 5 lf))
def vc250 (R:Value->World->Prop) (w:World) (a b:Value):Prop:=
 CV (f0 274) #[a,b] w fun c w=>V (bi .geq 3 c (.int .i64 0)) w fun d w=>R d w
theorem en250 (h:vc250 R w t0 t1):Calls Tryz.prog 250 #[t0,t1] w (retK R):=enE ⟨by kernel_rfl,by kernel_rfl⟩ (by kernel_rfl:enterW Tryz.prog Tryz.f250 an250 [t0,t1] w R = _) h
def an251:Ann:=(sD 1 (sD 5 lf))
def vc251 (R:Value->World->Prop) (w:World) (a b:Value):Prop:=
 V (ld 280 b) w fun c w=>CV c #[a] w fun d w=>V (un .not d) w fun f w=>R f w
theorem en251 (h:vc251 R w t0 t1):Calls Tryz.prog 251 #[t0,t1] w (retK R):=enE ⟨by kernel_rfl,by kernel_rfl⟩ (by kernel_rfl:enterW Tryz.prog Tryz.f251 an251 [t0,t1] w R = _) h
def an252:Ann:=(sD 1 (.seq (sD 3 (.one (.loop [8] ([4,5] ++ rgN 8 11) (sD 1 (.seq (.cond lf lf) (.seq (.one (sD 2 (cD 6 (sD 2 lf) lf))) (oD 2))))))) (sD 1 lf)))
def vc252 (R:Value->World->Prop) (w:World) (b d:Value):Prop:=
 V (ln 96 b) w fun f w=>Lp1 (.int .i64 0) w fun I0 M0 a w m0=>V (bi .lss 3 a f) w fun h w=>CondW h (V (ia 96 b a) w fun i w=>V (ld 98 i) w fun j w=>CV d #[j] w fun k w=>CondW k (R a w) (V (bi .add 3 a (.int .i64 1)) w fun c w=>I0 [c] w/\M0 [c] w < m0)) (R (.int .i64 (-1)) w)
theorem en252 (h:vc252 R w t0 t1):Calls Tryz.prog 252 #[t0,t1] w (retK R):=enE ⟨by kernel_rfl,by kernel_rfl⟩ (by kernel_rfl:enterW Tryz.prog Tryz.f252 an252 [t0,t1] w R = _) h
def an253:Ann:=(sD 1 (sD 4 lf))
def vc253 (R:Value->World->Prop) (w:World) (a b:Value):Prop:=
 CV (f0 275) #[a,b] w fun c w=>R c w
theorem en253 (h:vc253 R w t0 t1):Calls Tryz.prog 253 #[t0,t1] w (retK R):=enE ⟨by kernel_rfl,by kernel_rfl⟩ (by kernel_rfl:enterW Tryz.prog Tryz.f253 an253 [t0,t1] w R = _) h
def an254:Ann:=(sD 1 (.seq (.reg (opn 3 (.join [9] [6,7,8,9] (.split 5 (opn 4 .done) (opn 4 .done)) (opn 1 .done)))) lf))
def vc254 (R:Value->World->Prop) (w:World) (a:Value):Prop:=
 V (ec .neq 9 3 a (.string ⟨#[]⟩)) w fun c w=>∀ K0:LP,(∀ b,∀ w,(∀ g:Env,R b w)->K0 [b] w) ->CondW c (V (cv 9 55 a) w fun d w=>CV (f0 216) #[d,(f0 255)] w fun f w=>K0 [f] w) (K0 [(.bool false)] w)
theorem en254 (h:vc254 R w t0):Calls Tryz.prog 254 #[t0] w (retK R):=enE ⟨by kernel_rfl,by kernel_rfl⟩ (by kernel_rfl:enterW Tryz.prog Tryz.f254 an254 [t0] w R = _) h
def an255:Ann:=(sD 1 (sD 4 lf))
def vc255 (R:Value->World->Prop) (w:World) (a:Value):Prop:=
 V (cv 5 3 a) w fun b w=>CV (f0 75) #[b,(.int .i64 48),(.int .i64 57)] w fun c w=>R c w
theorem en255 (h:vc255 R w t0):Calls Tryz.prog 255 #[t0] w (retK R):=enE ⟨by kernel_rfl,by kernel_rfl⟩ (by kernel_rfl:enterW Tryz.prog Tryz.f255 an255 [t0] w R = _) h
def an258:Ann:=(sD 1 (sD 4 lf))
def vc258 (R:Value->World->Prop) (w:World) (a b:Value):Prop:=
 CV (f0 238) #[a,b] w fun c w=>R c w
theorem en258 (h:vc258 R w t0 t1):Calls Tryz.prog 258 #[t0,t1] w (retK R):=enE ⟨by kernel_rfl,by kernel_rfl⟩ (by kernel_rfl:enterW Tryz.prog Tryz.f258 an258 [t0,t1] w R = _) h
def an259:Ann:=(sD 1 (.seq (.reg (opn 6 (.join [20] (rgN 11 10) (.split 10 (opn 10 .done) (opn 10 .done)) (opn 1 .done)))) lf))
def vc259 (R:Value->World->Prop) (w:World) (a b:Value):Prop:=
 V (ln 9 a) w fun d w=>V (ln 9 b) w fun f w=>V (bi .geq 3 d f) w fun h w=>∀ K0:LP,(∀ c,∀ w,(∀ g:Env,R c w)->K0 [c] w) ->CondW h (V (ln 9 a) w fun i w=>V (ln 9 b) w fun j w=>V (bi .sub 3 i j) w fun k w=>V (sl 9 a (some k) none none) w fun l w=>V (et .eql 9 17 18 l b) w fun n w=>K0 [n] w) (K0 [(.bool false)] w)
theorem en259 (h:vc259 R w t0 t1):Calls Tryz.prog 259 #[t0,t1] w (retK R):=enE ⟨by kernel_rfl,by kernel_rfl⟩ (by kernel_rfl:enterW Tryz.prog Tryz.f259 an259 [t0,t1] w R = _) h
def an260:Ann:=(sD 1 (.seq (sD 3 (.one (.loop [8] ([4,5] ++ rgN 8 11) (sD 1 (.seq (.cond lf lf) (.seq (.one (sD 2 (cD 6 (sD 2 lf) lf))) (oD 2))))))) (sD 1 lf)))
def vc260 (R:Value->World->Prop) (w:World) (b d:Value):Prop:=
 V (ln 45 b) w fun f w=>Lp1 (.int .i64 0) w fun I0 M0 a w m0=>V (bi .lss 3 a f) w fun h w=>CondW h (V (ia 45 b a) w fun i w=>V (ld 3 i) w fun j w=>CV d #[j] w fun k w=>CondW k (R a w) (V (bi .add 3 a (.int .i64 1)) w fun c w=>I0 [c] w/\M0 [c] w < m0)) (R (.int .i64 (-1)) w)
theorem en260 (h:vc260 R w t0 t1):Calls Tryz.prog 260 #[t0,t1] w (retK R):=enE ⟨by kernel_rfl,by kernel_rfl⟩ (by kernel_rfl:enterW Tryz.prog Tryz.f260 an260 [t0,t1] w R = _) h
def an261:Ann:=(.seq (.draw (tkN 0 3 (.hold 3 (tkN 4 4 (tkN 9 3 (.hold 12 (.take 13 (e1 8 (.take 14 (.take 15 .done)))))))))) (sD 6 (oD 5)))
def vc261 (R:Value->World->Prop) (w:World) (a i:Value):Prop:=
 Dr w fun w=>NilW a fun j=>PV (fa 199 j 1) fun b=>HV (ld 55 b) w fun c=>PV (Builtin.cap_ #[55] 3 #[c]) fun k=>PV (bi .mul 3 (.int .i64 2) k) fun l=>PV (bi .add 3 l i) fun n=>NilW a fun o=>PV (fa 199 o 1) fun d=>HV (ld 55 d) w fun f=>PV (ln 55 f) fun p=>CV (f0 276) #[n] w fun q w=>RunIs (ld 55 d) w f/\RunIs (ld 55 b) w c/\(PV (sl 55 q none (some p) none) fun h=>NilW a fun r=>V (fa 199 r 1) w fun s w=>V (ld 55 s) w fun t w=>V (Builtin.copy_ #[55,55] 3 #[h,t]) w fun x w=>NilW a fun u=>V (fa 199 u 1) w fun v w=>U (st 55 v h) w fun w=>R (.tuple #[]) w)
theorem en261 (h:vc261 R w t0 t1):Calls Tryz.prog 261 #[t0,t1] w (retK R):=enE ⟨by kernel_rfl,by kernel_rfl⟩ (by kernel_rfl:enterW Tryz.prog Tryz.f261 an261 [t0,t1] w R = _) h
def an267:Ann:=(sD 1 (.seq (.reg (opn 6 (.join [17] (rgN 11 7) (.split 10 (opn 7 .done) (opn 7 .done)) (opn 1 .done)))) lf))
def vc267 (R:Value->World->Prop) (w:World) (b a:Value):Prop:=
 V (ln 9 b) w fun d w=>V (ln 9 a) w fun f w=>V (bi .geq 3 d f) w fun h w=>∀ K0:LP,(∀ c,∀ w,(∀ g:Env,R c w)->K0 [c] w) ->CondW h (V (ln 9 a) w fun i w=>V (sl 9 b none (some i) none) w fun j w=>V (et .eql 9 14 15 j a) w fun k w=>K0 [k] w) (K0 [(.bool false)] w)
theorem en267 (h:vc267 R w t0 t1):Calls Tryz.prog 267 #[t0,t1] w (retK R):=enE ⟨by kernel_rfl,by kernel_rfl⟩ (by kernel_rfl:enterW Tryz.prog Tryz.f267 an267 [t0,t1] w R = _) h
def an268:Ann:=(sD 1 (sD 2 (sD 11 (sD 1 lf))))
def vc268 (R:Value->World->Prop) (w:World) (a b:Value):Prop:=
 CV (f0 184) #[a] w fun l w=>NilW a fun c=>V (fa 199 c 1) w fun d w=>V (ld 55 d) w fun f w=>V (bs 55 1 #[(0,b)]) w fun h w=>V (Builtin.append_ #[55,55] 55 #[f,h]) w fun i w=>NilW a fun j=>V (fa 199 j 1) w fun k w=>U (st 55 k i) w fun w=>R .nilIface w
theorem en268 (h:vc268 R w t0 t1):Calls Tryz.prog 268 #[t0,t1] w (retK R):=enE ⟨by kernel_rfl,by kernel_rfl⟩ (by kernel_rfl:enterW Tryz.prog Tryz.f268 an268 [t0,t1] w R = _) h
def an269:Ann:=(sD 2 (.seq (cD 4 (sD 3 lf) lf) (sD 6 lf)))
def vc269 (R:Value->World->Prop) (w:World) (a b:Value):Prop:=
 CV (f0 267) #[a,b] w fun c w=>V (un .not c) w fun d w=>CondW d (R (.tuple #[a,(.bool false)]) w) (V (ln 9 b) w fun f w=>V (sl 9 a (some f) none none) w fun h w=>R (.tuple #[h,(.bool true)]) w)
theorem en269 (h:vc269 R w t0 t1):Calls Tryz.prog 269 #[t0,t1] w (retK R):=enE ⟨by kernel_rfl,by kernel_rfl⟩ (by kernel_rfl:enterW Tryz.prog Tryz.f269 an269 [t0,t1] w R = _) h
def an270:Ann:=(sD 2 (.seq (cD 4 (sD 3 lf) lf) (sD 9 lf)))
def vc270 (R:Value->World->Prop) (w:World) (a b:Value):Prop:=
 CV (f0 259) #[a,b] w fun c w=>V (un .not c) w fun d w=>CondW d (R (.tuple #[a,(.bool false)]) w) (V (ln 9 a) w fun f w=>V (ln 9 b) w fun h w=>V (bi .sub 3 f h) w fun i w=>V (sl 9 a none (some i) none) w fun j w=>R (.tuple #[j,(.bool true)]) w)
theorem en270 (h:vc270 R w t0 t1):Calls Tryz.prog 270 #[t0,t1] w (retK R):=enE ⟨by kernel_rfl,by kernel_rfl⟩ (by kernel_rfl:enterW Tryz.prog Tryz.f270 an270 [t0,t1] w R = _) h
def an273:Ann:=(sD 1 (.seq (cD 3 (sD 5 lf) lf) (sD 2 lf)))
def vc273 (R:Value->World->Prop) (w:World) (a b:Value):Prop:=
 CV (f0 267) #[a,b] w fun c w=>CondW c (V (ln 9 b) w fun d w=>V (sl 9 a (some d) none none) w fun f w=>R f w) (R a w)
theorem en273 (h:vc273 R w t0 t1):Calls Tryz.prog 273 #[t0,t1] w (retK R):=enE ⟨by kernel_rfl,by kernel_rfl⟩ (by kernel_rfl:enterW Tryz.prog Tryz.f273 an273 [t0,t1] w R = _) h
def an274:Ann:=(sD 1 (.seq (sD 3 (.one (.loop [8] ([4,5] ++ rgN 8 11) (sD 1 (.seq (.cond lf lf) (.seq (.one (sD 2 (cD 6 (sD 2 lf) lf))) (oD 2))))))) (sD 1 lf)))
def vc274 (R:Value->World->Prop) (w:World) (b d:Value):Prop:=
 V (ln 55 b) w fun f w=>Lp1 (.int .i64 0) w fun I0 M0 a w m0=>V (bi .lss 3 a f) w fun h w=>CondW h (V (ia 55 b a) w fun i w=>V (ld 5 i) w fun j w=>CV d #[j] w fun k w=>CondW k (R a w) (V (bi .add 3 a (.int .i64 1)) w fun c w=>I0 [c] w/\M0 [c] w < m0)) (R (.int .i64 (-1)) w)
theorem en274 (h:vc274 R w t0 t1):Calls Tryz.prog 274 #[t0,t1] w (retK R):=enE ⟨by kernel_rfl,by kernel_rfl⟩ (by kernel_rfl:enterW Tryz.prog Tryz.f274 an274 [t0,t1] w R = _) h
end
end Go.Proofs.YtbeelfopmkbllaaGreatDoor
