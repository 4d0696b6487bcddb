/- Texts joined: VC. -/
import Derived.Test.YtbeelfopmkbllaaGreatDoorM1
set_option linter.unusedSimpArgs false
set_option linter.unusedVariables false
set_option linter.unusedSectionVars false
set_option maxRecDepth 100000
namespace Go.Proofs.YtbeelfopmkbllaaGreatDoor
section
open Go Q
variable {R : Value → World → Prop} {w : World} {t0 t1 t2 t3 t4 t5 t6 : Value}
def an156 : Ann := (.seq (oD 1) (.seq (oD 1) (.seq (.seq (.reg (opn 5 (.join [20] (rgN 10 11) (.split 9 (opn 11 .done) (opn 6 (.join [19] [16, 17, 18, 19] (.split 15 (opn 4 .done) (opn 4 .done)) (opn 1 .done)))) .done))) (.cond (.seq (oD 1) .leaf) .leaf)) (.seq (oD 3) (.seq (.one (.seq (.reg (opn 5 (.join [32] [29, 30, 31, 32] (.split 28 (opn 4 .done) (opn 4 .done)) (opn 1 .done)))) (.cond (.seq (oD 1) .leaf) (.seq (oD 3) (.cond (.seq (oD 1) .leaf) (.seq (.reg (opn 3 (.join [42] [40, 41, 42] (.split 39 (opn 3 .done) (opn 3 .done)) (opn 1 .done)))) (.cond (.seq (oD 1) .leaf) .leaf))))))) (.seq (oD 1) .leaf))))))
def vc156 (R : Value → World → Prop) (w : World) (t0 : Value) : Prop :=
 V (Builtin.len_ #[9] 3 #[t0]) w fun t6 w =>
 CV (.func (.func 75) #[] #[]) #[t6, (.int .i64 1), (.int .i64 40)] w fun t7 w =>
 V (un .not t7) w fun t8 w =>
 ∀ K0 : List Value → World → Prop, (∀ t20, ∀ w, (∀ g : Env,
 CondW t20
 (R (.int .i64 0) w)
 (CV (.func (.func 223) #[] #[]) #[t0, (.string ⟨#[46]⟩)] w fun t22 w =>
 V (ix 9 t0 (.int .i64 0)) w fun t25 w =>
 V (cv 5 3 t25) w fun t26 w =>
 CV (.func (.func 75) #[] #[]) #[t26, (.int .i64 48), (.int .i64 57)] w fun t27 w =>
 ∀ K0 : List Value → World → Prop, (∀ t32, ∀ w, (∀ g : Env,
 CondW t32
 (R (.int .i64 1) w)
 (V (eq .eql 3 (.tmp 34) (.const (.int .i64 0)) t22 (.int .i64 0)) w fun t35 w =>
 CondW t35
 (R (.int .i64 2) w)
 (V (eq .eql 3 (.tmp 37) (.const (.int .i64 1)) t22 (.int .i64 1)) w fun t38 w =>
 ∀ K0 : List Value → World → Prop, (∀ t42, ∀ w, (∀ g : Env,
 CondW t42
 (R (.int .i64 3) w)
 (R (.int .i64 4) w)) → K0 [t42] w) →
 CondW t38
 (CV (.func (.func 224) #[] #[]) #[t0, (.string ⟨#[46]⟩)] w fun t41 w =>
 K0 [t41] w)
 (K0 [(.bool false)] w)))) → K0 [t32] w) →
 CondW t27
 (K0 [(.bool true)] w)
 (V (ix 9 t0 (.int .i64 0)) w fun t30 w =>
 V (eq .eql 5 (.tmp 30) (.const (.int .u8 46)) t30 (.int .u8 46)) w fun t31 w =>
 K0 [t31] w))) → K0 [t20] w) →
 CondW t8
 (K0 [(.bool true)] w)
 (V (cv 9 55 t0) w fun t11 w =>
 CV (.func (.func 216) #[] #[]) #[t11, (.func (.func 220) #[] #[])] w fun t13 w =>
 V (un .not t13) w fun t14 w =>
 ∀ K1 : List Value → World → Prop, (∀ t19, ∀ w, (∀ g : Env,
 K0 [t19] w) → K1 [t19] w) →
 CondW t14
 (CV (.func (.func 222) #[] #[]) #[t0] w fun t17 w =>
 V (un .not t17) w fun t18 w =>
 K1 [t18] w)
 (K1 [(.bool false)] w))
theorem en156 (h : vc156 R w t0) : Calls Tryz.prog 156 #[t0] w (retK R) := calls_of_enter mixed Tryz.func156 (by kernel_rfl) (Eq.mpr (by kernel_rfl : enterW Tryz.prog Tryz.f156 an156 [t0] w R = vc156 R w t0) h)
def an157 : Ann := (.seq (oD 2) (.seq (oD 1) (.seq (oD 1) (.seq (.seq (oD 1) (.one (.seq (.one (.seqJ [] ([11, 10, 13, 12, 15, 14, 17, 16, 19, 18, 21, 20, 23, 22, 25, 24, 27, 26, 29, 28, 31, 30, 33, 32, 35, 34, 36, 37, 6] ++ rgN 38 50) (.one (.seq (.one (.seq (.one (.seq (.one (.seq (.one (.seq (.one (.seq (.one (.seq (.one (.seq (.one (.seqJ [] [11, 10, 13, 12, 15, 14, 17, 16, 19, 18, 21, 20, 23, 22, 25, 24, 27, 26, 29, 28, 31, 30, 33, 32, 35, 34, 36, 37, 6, 38, 39] (.one (.seq (.one (.seq (.one (.seq (.seq (.seq (oD 2) (.cond .leaf .leaf)) (.seq (.seq (oD 2) (.cond .leaf .leaf)) (.seq (.seq (oD 2) (.cond .leaf .leaf)) (.seq (.seq (oD 2) (.cond .leaf .leaf)) (.seq (.seq (oD 2) (.cond .leaf .leaf)) (.seq (.seq (oD 2) (.cond .leaf .leaf)) (.seq (.seq (oD 2) (.cond .leaf .leaf)) (.seq (.seq (oD 2) (.cond .leaf .leaf)) (.seq (.seq (oD 2) (.cond .leaf .leaf)) (.seq (.seq (oD 2) (.cond .leaf .leaf)) (.seq (.seq (oD 2) (.cond .leaf .leaf)) (.seq (.seq (oD 2) (.cond .leaf .leaf)) (.seq (oD 2) (.cond .leaf .leaf)))))))))))))) .leaf)) (.seq (.seq (oD 3) .leaf) .leaf))) (.seq (oD 2) (.cond (.seq (oD 1) .leaf) .leaf)))) (.seq (.seq (oD 5) .leaf) .leaf))) (.seq (.seq (.draw (.hold 0 (.take 1 (.take 2 (.alts (.eff 3 (.alts (.eff 4 (.take 5 .done) .nil)) .nil)))))) .leaf) .leaf))) (.seq (.seq (.draw (.hold 0 (.take 1 (.take 2 (.alts (.eff 3 (.alts (.eff 4 (.take 5 .done) .nil)) .nil)))))) .leaf) .leaf))) (.seq (.seq (.draw (.hold 0 (.take 1 (.take 2 (.alts (.eff 3 (.alts (.eff 4 (.take 5 .done) .nil)) .nil)))))) .leaf) .leaf))) (.seq (.seq (oD 4) .leaf) .leaf))) (.seq (.seqJ [6] (rgN 62 12 ++ [6]) (.draw (.hold 0 (.take 1 (.take 2 (.alts (.eff 3 (.alts (.eff 4 (.take 5 (.split 67 (tkN 6 7 .done) (.hold 6 (.take 7 (.take 8 (.alts (.eff 9 (.alts (.eff 10 (.take 11 (.take 12 .done)) .nil)) .nil))))))) .nil)) .nil)))))) .leaf) .leaf))) (.seq (.seq (oD 7) .leaf) .leaf))) (.seq (.seq (oD 7) .leaf) .leaf))) (.seq (oD 2) (.cond (.seq (oD 1) .leaf) .leaf)))) (.seq (.seq (oD 7) .leaf) .leaf))) (.seq (.seq (oD 7) .leaf) .leaf)))) (.seq (oD 4) .leaf)))))
def vc157 (R : Value → World → Prop) (w : World) (t0 t1 t2 : Value) : Prop :=
 V (bx 28 t0) w fun t3 w =>
 ∀ K0 : List Value → World → Prop, (∀ w, (∀ g : Env,
 V (fa 28 t3 2) w fun t89 w =>
 V (ld 24 t89) w fun t90 w =>
 V (Builtin.len_ #[24] 3 #[t90]) w fun t91 w =>
 V (bi .sub 3 t91 (.int .i64 1)) w fun t92 w =>
 CV (.func (.func 75) #[] #[]) #[t2, (.int .i64 0), t92] w fun t93 w =>
 R t93 w) → K0 [] w) →
 ∀ K1 : List Value → World → Prop, (∀ w, (∀ g : Env,
 V (ld 28 t3) w fun t40 w =>
 CV (.func (.func 228) #[] #[]) #[t40, t2, (.func (.func 227) #[] #[])] w fun t43 w =>
 R t43 w) → K1 [] w) →
 V (eq .eql 3 (.tmp 9) (.const (.int .i64 1)) t1 (.int .i64 1)) w fun t11 w =>
 CondW t11
 (CV (.func (.func 75) #[] #[]) #[t2, (.int .i64 1), (.int .i64 20000)] w fun t37 w =>
 R t37 w)
 (V (eq .eql 3 (.tmp 9) (.const (.int .i64 8)) t1 (.int .i64 8)) w fun t13 w =>
 CondW t13
 (V (eq .eql 3 (.tmp 38) (.const (.int .i64 (-1))) t2 (.int .i64 (-1))) w fun t39 w =>
 CondW t39
 (R (.bool true) w)
 (K1 [] w))
 (V (eq .eql 3 (.tmp 9) (.const (.int .i64 2)) t1 (.int .i64 2)) w fun t15 w =>
 CondW t15
 (K1 [] w)
 (V (eq .eql 3 (.tmp 9) (.const (.int .i64 3)) t1 (.int .i64 3)) w fun t17 w =>
 CondW t17
 (Dr w fun w =>
 HV (ld 28 t3) w fun t44 =>
 CV (.func (.func 225) #[] #[]) #[(.int .i64 2)] w fun t47 w =>
 RunIs (ld 28 t3) w t44 ∧ (CV (.func (.func 228) #[] #[]) #[t44, t2, t47] w fun t48 w =>
 R t48 w))
 (V (eq .eql 3 (.tmp 9) (.const (.int .i64 4)) t1 (.int .i64 4)) w fun t19 w =>
 CondW t19
 (Dr w fun w =>
 HV (ld 28 t3) w fun t49 =>
 CV (.func (.func 225) #[] #[]) #[(.int .i64 3)] w fun t52 w =>
 RunIs (ld 28 t3) w t49 ∧ (CV (.func (.func 228) #[] #[]) #[t49, t2, t52] w fun t53 w =>
 R t53 w))
 (V (eq .eql 3 (.tmp 9) (.const (.int .i64 5)) t1 (.int .i64 5)) w fun t21 w =>
 CondW t21
 (Dr w fun w =>
 HV (ld 28 t3) w fun t54 =>
 CV (.func (.func 225) #[] #[]) #[(.int .i64 4)] w fun t57 w =>
 RunIs (ld 28 t3) w t54 ∧ (CV (.func (.func 228) #[] #[]) #[t54, t2, t57] w fun t58 w =>
 R t58 w))
 (V (eq .eql 3 (.tmp 9) (.const (.int .i64 6)) t1 (.int .i64 6)) w fun t23 w =>
 CondW t23
 (V (ld 28 t3) w fun t59 w =>
 CV (.func (.func 228) #[] #[]) #[t59, t2, (.func (.func 153) #[] #[])] w fun t61 w =>
 R t61 w)
 (V (eq .eql 3 (.tmp 9) (.const (.int .i64 7)) t1 (.int .i64 7)) w fun t25 w =>
 CondW t25
 (∀ K2 : List Value → World → Prop, (∀ t6, ∀ w, (∀ g : Env,
 R t6 w) → K2 [t6] w) →
 Dr w fun w =>
 HV (ld 28 t3) w fun t62 =>
 CV (.func (.func 225) #[] #[]) #[(.int .i64 2)] w fun t65 w =>
 RunIs (ld 28 t3) w t62 ∧ (CV (.func (.func 228) #[] #[]) #[t62, t2, t65] w fun t66 w =>
 CondW t66
 (K2 [(.bool true)] w)
 (HV (ld 28 t3) w fun t68 =>
 CV (.func (.func 225) #[] #[]) #[(.int .i64 4)] w fun t71 w =>
 RunIs (ld 28 t3) w t68 ∧ (CV (.func (.func 228) #[] #[]) #[t68, t2, t71] w fun t72 w =>
 K2 [t72] w))))
 (V (eq .eql 3 (.tmp 9) (.const (.int .i64 9)) t1 (.int .i64 9)) w fun t27 w =>
 CondW t27
 (V (fa 28 t3 4) w fun t75 w =>
 V (ld 22 t75) w fun t76 w =>
 V (Builtin.len_ #[22] 3 #[t76]) w fun t77 w =>
 V (bi .sub 3 t77 (.int .i64 1)) w fun t78 w =>
 CV (.func (.func 75) #[] #[]) #[t2, (.int .i64 0), t78] w fun t79 w =>
 R t79 w)
 (V (eq .eql 3 (.tmp 9) (.const (.int .i64 10)) t1 (.int .i64 10)) w fun t29 w =>
 CondW t29
 (V (fa 28 t3 1) w fun t81 w =>
 V (ld 23 t81) w fun t82 w =>
 V (Builtin.len_ #[23] 3 #[t82]) w fun t83 w =>
 V (bi .sub 3 t83 (.int .i64 1)) w fun t84 w =>
 CV (.func (.func 75) #[] #[]) #[t2, (.int .i64 0), t84] w fun t85 w =>
 R t85 w)
 (V (eq .eql 3 (.tmp 9) (.const (.int .i64 12)) t1 (.int .i64 12)) w fun t31 w =>
 CondW t31
 (V (eq .eql 3 (.tmp 86) (.const (.int .i64 (-1))) t2 (.int .i64 (-1))) w fun t87 w =>
 CondW t87
 (R (.bool true) w)
 (K0 [] w))
 (V (eq .eql 3 (.tmp 9) (.const (.int .i64 11)) t1 (.int .i64 11)) w fun t33 w =>
 CondW t33
 (K0 [] w)
 (V (eq .eql 3 (.tmp 9) (.const (.int .i64 13)) t1 (.int .i64 13)) w fun t35 w =>
 CondW t35
 (V (fa 28 t3 5) w fun t95 w =>
 V (ld 26 t95) w fun t96 w =>
 V (Builtin.len_ #[26] 3 #[t96]) w fun t97 w =>
 V (bi .sub 3 t97 (.int .i64 1)) w fun t98 w =>
 CV (.func (.func 75) #[] #[]) #[t2, (.int .i64 0), t98] w fun t99 w =>
 R t99 w)
 (CV (.func (.func 56) #[] #[]) #[t1, t2] w fun t102 w =>
 R t102 w)))))))))))))
theorem en157 (h : vc157 R w t0 t1 t2) : Calls Tryz.prog 157 #[t0, t1, t2] w (retK R) := calls_of_enter mixed Tryz.func157 (by kernel_rfl) (Eq.mpr (by kernel_rfl : enterW Tryz.prog Tryz.f157 an157 [t0, t1, t2] w R = vc157 R w t0 t1 t2) h)
def an158 : Ann := (.seq (oD 3) (.seq (.seq (oD 2) (.one (.seqJ [7] [8, 7, 9] (.seq (oD 2) (.cond .leaf (oD 2))) (.cond (.seq (oD 6) .leaf) (.seq (oD 2) (.cond (.seq (.reg (opn 4 (.join [24] [21, 22, 23, 24] (.split 20 (opn 4 .done) (opn 4 .done)) (opn 1 (.join [35] (rgN 26 10) (.split 25 (opn 10 .done) (opn 4 (.join [34] [30, 31, 32, 33, 34] (.split 29 (opn 5 .done) (opn 5 .done)) (opn 1 .done)))) (opn 1 .done)))))) .leaf) (.seq (oD 2) (.cond (.seq (.seq (.reg (opn 5 (.join [56] (rgN 43 14) (.split 42 (opn 14 .done) (opn 4 (.join [55] (rgN 47 9) (.split 46 (opn 4 (.join [54] [51, 52, 53, 54] (.split 50 (opn 4 .done) (opn 4 .done)) (opn 1 .done))) (opn 9 .done)) (opn 1 .done)))) .done))) (.cond (.seq (oD 1) .leaf) .leaf)) (.seq (.reg (opn 4 (.join [70] (rgN 61 10) (.split 60 (opn 10 .done) (opn 4 (.join [69] [65, 66, 67, 68, 69] (.split 64 (opn 5 .done) (opn 5 .done)) (opn 1 .done)))) (opn 1 .done)))) .leaf)) .leaf)))))))) (.seq (oD 1) .leaf)))
def vc158 (R : Value → World → Prop) (w : World) (t0 t1 : Value) : Prop :=
 V (bx 28 t0) w fun t2 w =>
 V (bx 38 t1) w fun t3 w =>
 V (fa 38 t3 0) w fun t5 w =>
 V (ld 3 t5) w fun t6 w =>
 ∀ K0 : List Value → World → Prop, (∀ t7, ∀ w, (∀ g : Env,
 CondW t7
 (V (ld 28 t2) w fun t10 w =>
 V (fa 38 t3 1) w fun t11 w =>
 V (ld 3 t11) w fun t12 w =>
 CV (.func (.func 228) #[] #[]) #[t10, t12, (.func (.func 229) #[] #[t3])] w fun t14 w =>
 R t14 w)
 (V (eq .eql 3 (.tmp 6) (.const (.int .i64 19)) t6 (.int .i64 19)) w fun t16 w =>
 CondW t16
 (V (fa 38 t3 1) w fun t17 w =>
 V (ld 3 t17) w fun t18 w =>
 V (eq .neq 3 (.tmp 18) (.const (.int .i64 1)) t18 (.int .i64 1)) w fun t19 w =>
 ∀ K0 : List Value → World → Prop, (∀ t24, ∀ w, (∀ g : Env,
 ∀ K0 : List Value → World → Prop, (∀ t35, ∀ w, (∀ g : Env,
 R t35 w) → K0 [t35] w) →
 CondW t24
 (K0 [(.bool true)] w)
 (V (fa 38 t3 1) w fun t26 w =>
 V (ld 3 t26) w fun t27 w =>
 V (eq .eql 3 (.tmp 27) (.const (.int .i64 1)) t27 (.int .i64 1)) w fun t28 w =>
 ∀ K1 : List Value → World → Prop, (∀ t34, ∀ w, (∀ g : Env,
 K0 [t34] w) → K1 [t34] w) →
 CondW t28
 (V (ld 28 t2) w fun t30 w =>
 V (fa 38 t3 2) w fun t31 w =>
 V (ld 3 t31) w fun t32 w =>
 CV (.func (.func 157) #[] #[]) #[t30, (.int .i64 2), t32] w fun t33 w =>
 K1 [t33] w)
 (K1 [(.bool false)] w))) → K0 [t24] w) →
 CondW t19
 (V (fa 38 t3 2) w fun t21 w =>
 V (ld 3 t21) w fun t22 w =>
 V (eq .eql 3 (.tmp 22) (.const (.int .i64 0)) t22 (.int .i64 0)) w fun t23 w =>
 K0 [t23] w)
 (K0 [(.bool false)] w))
 (V (eq .eql 3 (.tmp 6) (.const (.int .i64 22)) t6 (.int .i64 22)) w fun t37 w =>
 CondW t37
 (V (fa 38 t3 1) w fun t38 w =>
 V (ld 3 t38) w fun t39 w =>
 CV (.func (.func 75) #[] #[]) #[t39, (.int .i64 0), (.int .i64 5)] w fun t40 w =>
 V (un .not t40) w fun t41 w =>
 ∀ K0 : List Value → World → Prop, (∀ t56, ∀ w, (∀ g : Env,
 CondW t56
 (R (.bool false) w)
 (V (fa 38 t3 3) w fun t57 w =>
 V (ld 3 t57) w fun t58 w =>
 V (eq .eql 3 (.tmp 58) (.const (.int .i64 (-1))) t58 (.int .i64 (-1))) w fun t59 w =>
 ∀ K0 : List Value → World → Prop, (∀ t70, ∀ w, (∀ g : Env,
 R t70 w) → K0 [t70] w) →
 CondW t59
 (K0 [(.bool true)] w)
 (V (fa 38 t3 2) w fun t61 w =>
 V (ld 3 t61) w fun t62 w =>
 V (eq .neq 3 (.tmp 62) (.const (.int .i64 0)) t62 (.int .i64 0)) w fun t63 w =>
 ∀ K1 : List Value → World → Prop, (∀ t69, ∀ w, (∀ g : Env,
 K0 [t69] w) → K1 [t69] w) →
 CondW t63
 (V (ld 28 t2) w fun t65 w =>
 V (fa 38 t3 3) w fun t66 w =>
 V (ld 3 t66) w fun t67 w =>
 CV (.func (.func 157) #[] #[]) #[t65, (.int .i64 3), t67] w fun t68 w =>
 K1 [t68] w)
 (K1 [(.bool false)] w)))) → K0 [t56] w) →
 CondW t41
 (K0 [(.bool true)] w)
 (V (fa 38 t3 2) w fun t43 w =>
 V (ld 3 t43) w fun t44 w =>
 V (eq .eql 3 (.tmp 44) (.const (.int .i64 2)) t44 (.int .i64 2)) w fun t45 w =>
 ∀ K1 : List Value → World → Prop, (∀ t55, ∀ w, (∀ g : Env,
 K0 [t55] w) → K1 [t55] w) →
 CondW t45
 (V (fa 38 t3 1) w fun t47 w =>
 V (ld 3 t47) w fun t48 w =>
 V (eq .eql 3 (.tmp 48) (.const (.int .i64 3)) t48 (.int .i64 3)) w fun t49 w =>
 ∀ K2 : List Value → World → Prop, (∀ t54, ∀ w, (∀ g : Env,
 K1 [t54] w) → K2 [t54] w) →
 CondW t49
 (K2 [(.bool true)] w)
 (V (fa 38 t3 1) w fun t51 w =>
 V (ld 3 t51) w fun t52 w =>
 V (eq .eql 3 (.tmp 52) (.const (.int .i64 5)) t52 (.int .i64 5)) w fun t53 w =>
 K2 [t53] w))
 (K1 [(.bool false)] w)))
 (R (.bool true) w)))) → K0 [t7] w) →
 V (eq .eql 3 (.tmp 6) (.const (.int .i64 12)) t6 (.int .i64 12)) w fun t8 w =>
 CondW t8
 (K0 [t8] w)
 (V (eq .eql 3 (.tmp 6) (.const (.int .i64 21)) t6 (.int .i64 21)) w fun t9 w =>
 K0 [t9] w)
theorem en158 (h : vc158 R w t0 t1) : Calls Tryz.prog 158 #[t0, t1] w (retK R) := calls_of_enter mixed Tryz.func158 (by kernel_rfl) (Eq.mpr (by kernel_rfl : enterW Tryz.prog Tryz.f158 an158 [t0, t1] w R = vc158 R w t0 t1) h)
def an159 : Ann := (.seq (oD 1) (.seq (oD 79) .leaf))
def vc159 (R : Value → World → Prop) (w : World) : Prop :=
 V (al 234) w fun t0 w =>
 V (bd 100 #[(0, (.int .i64 1)), (1, (.int .i64 2)), (2, (.int .i64 15))]) w fun t1 w =>
 V (bd 102 #[(0, (.string ⟨#[99, 108, 97, 117, 115, 101]⟩)), (1, t1)]) w fun t2 w =>
 V (bd 102 #[(0, (.string ⟨#[100, 111, 110, 101]⟩))]) w fun t3 w =>
 V (bd 100 #[(0, (.int .i64 2))]) w fun t4 w =>
 V (bd 102 #[(0, (.string ⟨#[99, 111, 110, 115, 116]⟩)), (1, t4), (3, (.int .i64 1))]) w fun t5 w =>
 V (bd 102 #[(0, (.string ⟨#[109, 105, 115, 115]⟩)), (3, (.int .i64 1))]) w fun t6 w =>
 V (bd 100 #[(0, (.int .i64 3))]) w fun t7 w =>
 V (bd 102 #[(0, (.string ⟨#[118, 97, 114]⟩)), (1, t7), (3, (.int .i64 1))]) w fun t8 w =>
 V (bd 100 #[(0, (.int .i64 9))]) w fun t9 w =>
 V (bd 102 #[(0, (.string ⟨#[115, 108, 111, 116]⟩)), (1, t9), (3, (.int .i64 1))]) w fun t10 w =>
 V (bd 100 #[(0, (.int .i64 4))]) w fun t11 w =>
 V (bd 102 #[(0, (.string ⟨#[115, 116, 101, 109]⟩)), (1, t11), (3, (.int .i64 1))]) w fun t12 w =>
 V (bd 100 #[(0, (.int .i64 5))]) w fun t13 w =>
 V (bd 102 #[(0, (.string ⟨#[99, 111, 109, 112]⟩)), (1, t13), (3, (.int .i64 1))]) w fun t14 w =>
 V (bd 100 #[(0, (.int .i64 6))]) w fun t15 w =>
 V (bd 102 #[(0, (.string ⟨#[112, 101, 101, 107]⟩)), (1, t15), (3, (.int .i64 1))]) w fun t16 w =>
 V (bd 100 #[(0, (.int .i64 17))]) w fun t17 w =>
 V (bd 102 #[(0, (.string ⟨#[98, 105, 110]⟩)), (1, t17), (2, (.int .i64 2)), (3, (.int .i64 1))]) w fun t18 w =>
 V (bd 100 #[(0, (.int .i64 18))]) w fun t19 w =>
 V (bd 102 #[(0, (.string ⟨#[117, 110]⟩)), (1, t19), (2, (.int .i64 1)), (3, (.int .i64 1))]) w fun t20 w =>
 V (bd 100 #[(0, (.int .i64 23)), (1, (.int .i64 16)), (2, (.int .i64 14))]) w fun t21 w =>
 V (bd 102 #[(0, (.string ⟨#[102, 117, 110]⟩)), (1, t21), (3, (.int .i64 1))]) w fun t22 w =>
 V (bd 102 #[(0, (.string ⟨#[116, 101, 108, 108]⟩)), (2, (.int .i64 1)), (3, (.int .i64 1))]) w fun t23 w =>
 V (bd 102 #[(0, (.string ⟨#[112, 111, 112]⟩)), (2, (.int .i64 1))]) w fun t24 w =>
 V (bd 100 #[(0, (.int .i64 6))]) w fun t25 w =>
 V (bd 102 #[(0, (.string ⟨#[115, 101, 116]⟩)), (1, t25), (2, (.int .i64 1))]) w fun t26 w =>
 V (bd 100 #[(0, (.int .i64 9))]) w fun t27 w =>
 V (bd 102 #[(0, (.string ⟨#[112, 117, 116]⟩)), (1, t27), (2, (.int .i64 1))]) w fun t28 w =>
 V (bd 100 #[(0, (.int .i64 11))]) w fun t29 w =>
 V (bd 102 #[(0, (.string ⟨#[100, 114, 111, 112]⟩)), (1, t29)]) w fun t30 w =>
 V (bd 100 #[(0, (.int .i64 12))]) w fun t31 w =>
 V (bd 102 #[(0, (.string ⟨#[112, 114, 111, 99]⟩)), (1, t31)]) w fun t32 w =>
 V (bd 100 #[(0, (.int .i64 15)), (1, (.int .i64 23))]) w fun t33 w =>
 V (bd 102 #[(0, (.string ⟨#[97, 100, 100, 114]⟩)), (1, t33)]) w fun t34 w =>
 V (bd 100 #[(0, (.int .i64 8))]) w fun t35 w =>
 V (bd 102 #[(0, (.string ⟨#[99, 109, 100]⟩)), (1, t35), (2, (.int .i64 1))]) w fun t36 w =>
 V (bd 100 #[(0, (.int .i64 23)), (1, (.int .i64 16)), (2, (.int .i64 14))]) w fun t37 w =>
 V (bd 102 #[(0, (.string ⟨#[115, 117, 98]⟩)), (1, t37)]) w fun t38 w =>
 V (bd 100 #[(0, (.int .i64 23)), (1, (.int .i64 15)), (2, (.int .i64 23))]) w fun t39 w =>
 V (bd 102 #[(0, (.string ⟨#[116, 114, 97, 112]⟩)), (1, t39)]) w fun t40 w =>
 V (bd 100 #[(0, (.int .i64 13))]) w fun t41 w =>
 V (bd 102 #[(0, (.string ⟨#[106, 117, 109, 112]⟩)), (1, t41), (5, (.bool true))]) w fun t42 w =>
 V (bd 100 #[(0, (.int .i64 13))]) w fun t43 w =>
 V (bd 102 #[(0, (.string ⟨#[102, 97, 108, 115, 101]⟩)), (1, t43), (2, (.int .i64 1))]) w fun t44 w =>
 V (bd 102 #[(0, (.string ⟨#[112, 108, 117, 115]⟩)), (2, (.int .i64 1)), (3, (.int .i64 1))]) w fun t45 w =>
 V (bd 102 #[(0, (.string ⟨#[119, 104, 111, 108, 101]⟩)), (2, (.int .i64 1)), (3, (.int .i64 1))]) w fun t46 w =>
 V (bd 100 #[(0, (.int .i64 7)), (1, (.int .i64 22))]) w fun t47 w =>
 V (bd 102 #[(0, (.string ⟨#[111, 118, 101, 114]⟩)), (1, t47), (2, (.int .i64 1)), (4, (.int .i64 1))]) w fun t48 w =>
 V (bd 102 #[(0, (.string ⟨#[99, 111, 117, 110, 116]⟩)), (2, (.int .i64 1)), (4, (.int .i64 1))]) w fun t49 w =>
 V (bd 102 #[(0, (.string ⟨#[108, 111, 111, 112]⟩)), (4, (.int .i64 1))]) w fun t50 w =>
 V (bd 100 #[(0, (.int .i64 13))]) w fun t51 w =>
 V (bd 102 #[(0, (.string ⟨#[116, 101, 115, 116]⟩)), (1, t51)]) w fun t52 w =>
 V (bd 100 #[(0, (.int .i64 1)), (1, (.int .i64 2))]) w fun t53 w =>
 V (bd 102 #[(0, (.string ⟨#[116, 117, 114, 110]⟩)), (1, t53)]) w fun t54 w =>
 V (bd 102 #[(0, (.string ⟨#[98, 121]⟩))]) w fun t55 w =>
 V (bd 100 #[(0, (.int .i64 20))]) w fun t56 w =>
 V (bd 102 #[(0, (.string ⟨#[111, 117, 116]⟩)), (1, t56)]) w fun t57 w =>
 V (bd 102 #[(0, (.string ⟨#[105, 110, 116, 101, 114, 112]⟩)), (2, (.int .i64 1))]) w fun t58 w =>
 V (bd 100 #[(0, (.int .i64 15)), (1, (.int .i64 14))]) w fun t59 w =>
 V (bd 102 #[(0, (.string ⟨#[110, 117, 109, 101, 114, 105, 99]⟩)), (1, t59)]) w fun t60 w =>
 V (bd 100 #[(0, (.int .i64 10)), (1, (.int .i64 19)), (2, (.int .i64 14))]) w fun t61 w =>
 V (bd 102 #[(0, (.string ⟨#[112, 97, 114, 115, 101]⟩)), (1, t61)]) w fun t62 w =>
 V (bd 102 #[(0, (.string ⟨#[112, 117, 115, 104]⟩)), (2, (.int .i64 1))]) w fun t63 w =>
 V (bd 102 #[(0, (.string ⟨#[113, 117, 101, 117, 101]⟩)), (2, (.int .i64 1))]) w fun t64 w =>
 V (bd 102 #[(0, (.string ⟨#[115, 97, 121]⟩)), (2, (.int .i64 1))]) w fun t65 w =>
 V (bd 100 #[(0, (.int .i64 14))]) w fun t66 w =>
 V (bd 102 #[(0, (.string ⟨#[101, 120, 105, 116]⟩)), (1, t66), (5, (.bool true))]) w fun t67 w =>
 V (bd 100 #[(0, (.int .i64 14))]) w fun t68 w =>
 V (bd 102 #[(0, (.string ⟨#[114, 101, 116]⟩)), (1, t68), (5, (.bool true))]) w fun t69 w =>
 V (bd 100 #[(0, (.int .i64 2))]) w fun t70 w =>
 V (bd 102 #[(0, (.string ⟨#[115, 105, 103, 110, 97, 108]⟩)), (1, t70), (5, (.bool true))]) w fun t71 w =>
 V (bd 102 #[(0, (.string ⟨#[115, 105, 103, 118, 97, 108]⟩)), (2, (.int .i64 1)), (5, (.bool true))]) w fun t72 w =>
 V (bd 100 #[(0, (.int .i64 2))]) w fun t73 w =>
 V (bd 102 #[(0, (.string ⟨#[116, 114, 97, 99, 101]⟩)), (1, t73)]) w fun t74 w =>
 V (bd 100 #[(0, (.int .i64 21))]) w fun t75 w =>
 V (bd 102 #[(0, (.string ⟨#[114, 97, 105, 115, 101]⟩)), (1, t75), (5, (.bool true))]) w fun t76 w =>
 V (bd 102 #[(0, (.string ⟨#[101, 110, 100]⟩)), (5, (.bool true))]) w fun t77 w =>
 V (bd 234 #[(1, t2), (2, t3), (3, t5), (4, t6), (5, t8), (6, t10), (7, t12), (8, t14), (9, t16), (10, t18), (11, t20), (12, t22), (13, t23), (14, t24), (15, t26), (16, t28), (17, t30), (18, t32), (19, t34), (20, t36), (21, t38), (22, t40), (23, t42), (24, t44), (25, t45), (26, t46), (27, t48), (28, t49), (29, t50), (30, t52), (31, t54), (32, t55), (33, t57), (34, t58), (35, t60), (36, t62), (37, t63), (38, t64), (39, t65), (40, t67), (41, t69), (42, t71), (43, t72), (44, t74), (45, t76), (46, t77)]) w fun t78 w =>
 U (st 234 t0 t78) w fun w =>
 CW 234 t0 w fun t1000 => R t1000 w
theorem en159 (h : vc159 R w ) : Calls Tryz.prog 159 #[] w (retK R) := calls_of_enter mixed Tryz.func159 (by kernel_rfl) (Eq.mpr (by kernel_rfl : enterW Tryz.prog Tryz.f159 an159 [] w R = vc159 R w ) h)
def an160 : Ann := (.seq (oD 2) (.seq (.seq (oD 9) (.seq (oD 1) (.cond (.seq (oD 4) .leaf) .leaf))) (.seq (oD 4) (.seq (oD 5) (.seq (.reg (opn 4 (.join [33] [30, 31, 32, 33] (.split 29 (opn 4 .done) (opn 4 .done)) (opn 1 .done)))) .leaf)))))
def vc160 (R : Value → World → Prop) (w : World) (t0 t1 t2 t3 : Value) : Prop :=
 V (bx 238 t1) w fun t5 w =>
 V (ld 236 t2) w fun t10 w =>
 V (lk 236 t10 t0 true) w fun t12 w =>
 V (ex t12 0) w fun t13 w =>
 V (ex t12 1) w fun t14 w =>
 V (al 238) w fun t7 w =>
 U (st 238 t7 t13) w fun w =>
 CondW t14
 (V (ld 238 t7) w fun t16 w =>
 V (ld 238 t5) w fun t17 w =>
 V (eq .eql 238 (.tmp 16) (.tmp 17) t16 t17) w fun t18 w =>
 R t18 w)
 (V (ld 236 t2) w fun t19 w =>
 V (ld 238 t5) w fun t21 w =>
 U (mu 236 t19 t0 t21) w fun w =>
 V (ld 45 t3) w fun t22 w =>
 V (bs 45 1 #[(0, t0)]) w fun t24 w =>
 V (Builtin.append_ #[45, 45] 45 #[t22, t24]) w fun t25 w =>
 U (st 45 t3 t25) w fun w =>
 V (fa 238 t5 0) w fun t26 w =>
 V (ld 3 t26) w fun t27 w =>
 CV (.func (.func 75) #[] #[]) #[t27, (.int .i64 0), (.int .i64 200)] w fun t28 w =>
 ∀ K0 : List Value → World → Prop, (∀ t33, ∀ w, (∀ g : Env,
 R t33 w) → K0 [t33] w) →
 CondW t28
 (V (fa 238 t5 1) w fun t30 w =>
 V (ld 3 t30) w fun t31 w =>
 CV (.func (.func 75) #[] #[]) #[t31, (.int .i64 0), (.int .i64 40)] w fun t32 w =>
 K0 [t32] w)
 (K0 [(.bool false)] w))
theorem en160 (h : vc160 R w t0 t1 t2 t3) : Calls Tryz.prog 160 #[t0, t1, t2, t3] w (retK R) := calls_of_enter mixed Tryz.func160 (by kernel_rfl) (Eq.mpr (by kernel_rfl : enterW Tryz.prog Tryz.f160 an160 [t0, t1, t2, t3] w R = vc160 R w t0 t1 t2 t3) h)
def an161 : Ann := (.seq (oD 3) (.seq (.seq (oD 2) (.one (.seq (oD 2) (.cond (.seq (.reg (opn 4 (.join [16] [13, 14, 15, 16] (.split 12 (opn 4 .done) (opn 4 .done)) (opn 1 .done)))) .leaf) (.seqJ [17] [18, 17, 19] (.seq (oD 2) (.cond .leaf (oD 2))) (.cond (.seq (oD 4) .leaf) (.seqJ [23] [24, 23, 25] (.seq (oD 2) (.cond .leaf (oD 2))) (.cond (.seq (oD 4) .leaf) .leaf)))))))) (.seq (oD 1) .leaf)))
def vc161 (R : Value → World → Prop) (w : World) (t0 t1 : Value) : Prop :=
 V (bx 38 t0) w fun t2 w =>
 V (bx 238 t1) w fun t3 w =>
 V (fa 38 t2 0) w fun t5 w =>
 V (ld 3 t5) w fun t6 w =>
 V (eq .eql 3 (.tmp 6) (.const (.int .i64 31)) t6 (.int .i64 31)) w fun t8 w =>
 CondW t8
 (V (fa 238 t3 0) w fun t9 w =>
 V (ld 3 t9) w fun t10 w =>
 V (eq .eql 3 (.tmp 10) (.const (.int .i64 0)) t10 (.int .i64 0)) w fun t11 w =>
 ∀ K0 : List Value → World → Prop, (∀ t16, ∀ w, (∀ g : Env,
 R t16 w) → K0 [t16] w) →
 CondW t11
 (V (fa 238 t3 1) w fun t13 w =>
 V (ld 3 t13) w fun t14 w =>
 V (bi .gtr 3 t14 (.int .i64 0)) w fun t15 w =>
 K0 [t15] w)
 (K0 [(.bool false)] w))
 (∀ K0 : List Value → World → Prop, (∀ t17, ∀ w, (∀ g : Env,
 CondW t17
 (V (fa 238 t3 0) w fun t20 w =>
 V (ld 3 t20) w fun t21 w =>
 V (eq .eql 3 (.tmp 21) (.const (.int .i64 0)) t21 (.int .i64 0)) w fun t22 w =>
 R t22 w)
 (∀ K0 : List Value → World → Prop, (∀ t23, ∀ w, (∀ g : Env,
 CondW t23
 (V (fa 238 t3 1) w fun t26 w =>
 V (ld 3 t26) w fun t27 w =>
 V (bi .gtr 3 t27 (.int .i64 0)) w fun t28 w =>
 R t28 w)
 (R (.bool true) w)) → K0 [t23] w) →
 V (eq .eql 3 (.tmp 6) (.const (.int .i64 30)) t6 (.int .i64 30)) w fun t24 w =>
 CondW t24
 (K0 [t24] w)
 (V (eq .eql 3 (.tmp 6) (.const (.int .i64 32)) t6 (.int .i64 32)) w fun t25 w =>
 K0 [t25] w))) → K0 [t17] w) →
 V (eq .eql 3 (.tmp 6) (.const (.int .i64 1)) t6 (.int .i64 1)) w fun t18 w =>
 CondW t18
 (K0 [t18] w)
 (V (eq .eql 3 (.tmp 6) (.const (.int .i64 2)) t6 (.int .i64 2)) w fun t19 w =>
 K0 [t19] w))
theorem en161 (h : vc161 R w t0 t1) : Calls Tryz.prog 161 #[t0, t1] w (retK R) := calls_of_enter mixed Tryz.func161 (by kernel_rfl) (Eq.mpr (by kernel_rfl : enterW Tryz.prog Tryz.f161 an161 [t0, t1] w R = vc161 R w t0 t1) h)
def an162 : Ann := (.seq (oD 3) (.seq (oD 8) (.seq (oD 9) (.seq (oD 8) (.seq (oD 7) (.seqJ [] (rgN 37 6 ++ [36, 43, 44, 45, 46, 48, 49, 50, 47] ++ rgN 51 6) (.one (.seq (.reg (opn 4 (.join [42] [41, 42] (.split 40 (opn 2 .done) (opn 2 .done)) (opn 1 .done)))) (.cond (oD 5) (.seq (oD 4) (.cond (oD 7) .leaf))))) (.seq (oD 2) .leaf)))))))
def vc162 (R : Value → World → Prop) (w : World) (t0 t1 t2 : Value) : Prop :=
 V (bx 38 t0) w fun t3 w =>
 V (bx 238 t1) w fun t4 w =>
 V (al 238) w fun t6 w =>
 V (ld 38 t3) w fun t13 w =>
 CV (.func (.func 49) #[] #[]) #[t13] w fun t14 w =>
 V (ex t14 0) w fun t15 w =>
 V (ex t14 1) w fun t16 w =>
 V (al 102) w fun t7 w =>
 U (st 102 t7 t15) w fun w =>
 V (ld 38 t3) w fun t18 w =>
 CV (.func (.func 17) #[] #[]) #[t18] w fun t19 w =>
 V (ex t19 0) w fun t20 w =>
 V (ex t19 1) w fun t21 w =>
 V (ex t19 2) w fun t22 w =>
 V (fa 238 t4 0) w fun t23 w =>
 V (ld 3 t23) w fun t24 w =>
 V (bi .sub 3 t21 t20) w fun t27 w =>
 V (bi .add 3 t24 t27) w fun t28 w =>
 V (fa 238 t4 0) w fun t29 w =>
 U (st 3 t29 t28) w fun w =>
 V (fa 238 t4 1) w fun t30 w =>
 V (ld 3 t30) w fun t31 w =>
 V (fa 102 t7 4) w fun t32 w =>
 V (ld 3 t32) w fun t33 w =>
 V (bi .add 3 t31 t33) w fun t34 w =>
 V (fa 238 t4 1) w fun t35 w =>
 U (st 3 t35 t34) w fun w =>
 ∀ K0 : List Value → World → Prop, (∀ w, (∀ g : Env,
 V (ld 238 t4) w fun t57 w =>
 U (st 238 t6 t57) w fun w =>
 CW 238 t6 w fun t1006 => R t1006 w) → K0 [] w) →
 V (fa 38 t3 0) w fun t37 w =>
 V (ld 3 t37) w fun t38 w =>
 V (eq .eql 3 (.tmp 38) (.const (.int .i64 30)) t38 (.int .i64 30)) w fun t39 w =>
 ∀ K1 : List Value → World → Prop, (∀ t42, ∀ w, (∀ g : Env,
 CondW t42
 (V (fa 238 t4 1) w fun t43 w =>
 V (ld 3 t43) w fun t44 w =>
 V (bi .sub 3 t44 (.int .i64 1)) w fun t45 w =>
 V (fa 238 t4 1) w fun t46 w =>
 U (st 3 t46 t45) w fun w =>
 K0 [] w)
 (V (fa 38 t3 0) w fun t48 w =>
 V (ld 3 t48) w fun t49 w =>
 V (eq .eql 3 (.tmp 49) (.const (.int .i64 33)) t49 (.int .i64 33)) w fun t50 w =>
 CondW t50
 (V (fa 238 t4 1) w fun t51 w =>
 V (ld 3 t51) w fun t52 w =>
 V (fa 38 t3 1) w fun t53 w =>
 V (ld 3 t53) w fun t54 w =>
 V (bi .sub 3 t52 t54) w fun t55 w =>
 V (fa 238 t4 1) w fun t56 w =>
 U (st 3 t56 t55) w fun w =>
 K0 [] w)
 (K0 [] w))) → K1 [t42] w) →
 CondW t39
 (K1 [t2] w)
 (K1 [(.bool false)] w)
theorem en162 (h : vc162 R w t0 t1 t2) : Calls Tryz.prog 162 #[t0, t1, t2] w (retK R) := calls_of_enter mixed Tryz.func162 (by kernel_rfl) (Eq.mpr (by kernel_rfl : enterW Tryz.prog Tryz.f162 an162 [t0, t1, t2] w R = vc162 R w t0 t1 t2) h)
def an163 : Ann := (.seq (oD 1) (.seq (.seq (oD 3) (.cond (.seq (oD 1) .leaf) .leaf)) (.seq (.seq (oD 1) (.one (.loop [3] [7, 8, 9, 10, 13, 14, 15, 16, 17, 2, 11, 12, 3] (.seq (.seq (oD 4) (.cond .leaf .leaf)) (.seq (.one (.seq (oD 5) (.cond (.seq (oD 1) .leaf) .leaf))) (oD 3)))))) (.seq (oD 1) .leaf))))
def vc163 (R : Value → World → Prop) (w : World) (t0 : Value) : Prop :=
 V (Builtin.len_ #[9] 3 #[t0]) w fun t5 w =>
 V (bi .gtr 3 t5 (.int .i64 1000)) w fun t6 w =>
 CondW t6
 (R (.bool false) w)
 (∃ (I0 : List Value → World → Prop) (M0 : List Value → World → Nat), I0 [(.int .i64 0)] w ∧ ∀ g : Env, ∀ t3, ∀ w, I0 [t3] w → ∀ m0, m0 = M0 [t3] w →
 V (Builtin.len_ #[9] 3 #[t0]) w fun t9 w =>
 V (bi .lss 3 t3 t9) w fun t10 w =>
 CondW t10
 (V (ix 9 t0 t3) w fun t15 w =>
 CV (.func (.func 230) #[] #[]) #[t15] w fun t16 w =>
 V (un .not t16) w fun t17 w =>
 CondW t17
 (R (.bool false) w)
 (V (bi .add 3 t3 (.int .i64 1)) w fun t12 w =>
 I0 [t12] w ∧ M0 [t12] w < m0))
 (R (.bool true) w))
theorem en163 (h : vc163 R w t0) : Calls Tryz.prog 163 #[t0] w (retK R) := calls_of_enter mixed Tryz.func163 (by kernel_rfl) (Eq.mpr (by kernel_rfl : enterW Tryz.prog Tryz.f163 an163 [t0] w R = vc163 R w t0) h)
def an164 : Ann := (.seq (oD 2) (.seq (.seq (oD 2) (.one (.seq (oD 2) (.cond (.seq (.reg (opn 4 (.join [14] [11, 12, 13, 14] (.split 10 (opn 4 .done) (opn 4 .done)) (opn 1 .done)))) .leaf) (.seq (oD 2) (.cond (.seq (.reg (opn 4 (.join [24] [21, 22, 23, 24] (.split 20 (opn 4 .done) (opn 4 .done)) (opn 1 .done)))) .leaf) (.seqJ [25] [26, 25, 27, 28, 29] (.seq (oD 2) (.cond .leaf (.seq (oD 2) (.cond .leaf (.seq (oD 2) (.cond .leaf (oD 2))))))) (.cond (.seq (.reg (opn 5 (.join [38] [35, 36, 37, 38] (.split 34 (opn 4 .done) (opn 4 .done)) (opn 1 .done)))) .leaf) (.seqJ [39] [40, 39, 41, 42] (.seq (oD 2) (.cond .leaf (.seq (oD 2) (.cond .leaf (oD 2))))) (.cond (.seq (.reg (opn 4 (.join [50] [47, 48, 49, 50] (.split 46 (opn 4 .done) (opn 4 .done)) (opn 1 .done)))) .leaf) (.seqJ [51] [52, 51, 53] (.seq (oD 2) (.cond .leaf (oD 2))) (.cond (.seq (.reg (opn 4 (.join [61] [58, 59, 60, 61] (.split 57 (opn 4 .done) (opn 4 .done)) (opn 1 .done)))) .leaf) .leaf)))))))))))) (.seq (oD 1) .leaf)))
def vc164 (R : Value → World → Prop) (w : World) (t0 : Value) : Prop :=
 V (bx 95 t0) w fun t1 w =>
 V (fa 95 t1 0) w fun t3 w =>
 V (ld 3 t3) w fun t4 w =>
 V (eq .eql 3 (.tmp 4) (.const (.int .i64 1)) t4 (.int .i64 1)) w fun t6 w =>
 CondW t6
 (V (fa 95 t1 1) w fun t7 w =>
 V (ld 9 t7) w fun t8 w =>
 CV (.func (.func 165) #[] #[]) #[t8] w fun t9 w =>
 ∀ K0 : List Value → World → Prop, (∀ t14, ∀ w, (∀ g : Env,
 R t14 w) → K0 [t14] w) →
 CondW t9
 (V (fa 95 t1 2) w fun t11 w =>
 V (ld 3 t11) w fun t12 w =>
 V (eq .eql 3 (.tmp 12) (.const (.int .i64 0)) t12 (.int .i64 0)) w fun t13 w =>
 K0 [t13] w)
 (K0 [(.bool false)] w))
 (V (eq .eql 3 (.tmp 4) (.const (.int .i64 3)) t4 (.int .i64 3)) w fun t16 w =>
 CondW t16
 (V (fa 95 t1 1) w fun t17 w =>
 V (ld 9 t17) w fun t18 w =>
 CV (.func (.func 163) #[] #[]) #[t18] w fun t19 w =>
 ∀ K0 : List Value → World → Prop, (∀ t24, ∀ w, (∀ g : Env,
 R t24 w) → K0 [t24] w) →
 CondW t19
 (V (fa 95 t1 2) w fun t21 w =>
 V (ld 3 t21) w fun t22 w =>
 V (eq .eql 3 (.tmp 22) (.const (.int .i64 0)) t22 (.int .i64 0)) w fun t23 w =>
 K0 [t23] w)
 (K0 [(.bool false)] w))
 (∀ K0 : List Value → World → Prop, (∀ t25, ∀ w, (∀ g : Env,
 CondW t25
 (V (fa 95 t1 1) w fun t30 w =>
 V (ld 9 t30) w fun t31 w =>
 CV (.func (.func 166) #[] #[]) #[t31] w fun t32 w =>
 V (eq .eql 3 (.tmp 32) (.const (.int .i64 2)) t32 (.int .i64 2)) w fun t33 w =>
 ∀ K0 : List Value → World → Prop, (∀ t38, ∀ w, (∀ g : Env,
 R t38 w) → K0 [t38] w) →
 CondW t33
 (V (fa 95 t1 2) w fun t35 w =>
 V (ld 3 t35) w fun t36 w =>
 V (eq .eql 3 (.tmp 36) (.const (.int .i64 0)) t36 (.int .i64 0)) w fun t37 w =>
 K0 [t37] w)
 (K0 [(.bool false)] w))
 (∀ K0 : List Value → World → Prop, (∀ t39, ∀ w, (∀ g : Env,
 CondW t39
 (V (fa 95 t1 1) w fun t43 w =>
 V (ld 9 t43) w fun t44 w =>
 V (eq .eql 9 (.tmp 44) (.const (.string ⟨#[]⟩)) t44 (.string ⟨#[]⟩)) w fun t45 w =>
 ∀ K0 : List Value → World → Prop, (∀ t50, ∀ w, (∀ g : Env,
 R t50 w) → K0 [t50] w) →
 CondW t45
 (V (fa 95 t1 2) w fun t47 w =>
 V (ld 3 t47) w fun t48 w =>
 CV (.func (.func 59) #[] #[]) #[t48, (.int .i64 0), (.int .i64 999999999)] w fun t49 w =>
 K0 [t49] w)
 (K0 [(.bool false)] w))
 (∀ K0 : List Value → World → Prop, (∀ t51, ∀ w, (∀ g : Env,
 CondW t51
 (V (fa 95 t1 1) w fun t54 w =>
 V (ld 9 t54) w fun t55 w =>
 V (eq .eql 9 (.tmp 55) (.const (.string ⟨#[]⟩)) t55 (.string ⟨#[]⟩)) w fun t56 w =>
 ∀ K0 : List Value → World → Prop, (∀ t61, ∀ w, (∀ g : Env,
 R t61 w) → K0 [t61] w) →
 CondW t56
 (V (fa 95 t1 2) w fun t58 w =>
 V (ld 3 t58) w fun t59 w =>
 V (eq .eql 3 (.tmp 59) (.const (.int .i64 0)) t59 (.int .i64 0)) w fun t60 w =>
 K0 [t60] w)
 (K0 [(.bool false)] w))
 (R (.bool false) w)) → K0 [t51] w) →
 V (eq .eql 3 (.tmp 4) (.const (.int .i64 2)) t4 (.int .i64 2)) w fun t52 w =>
 CondW t52
 (K0 [t52] w)
 (V (eq .eql 3 (.tmp 4) (.const (.int .i64 11)) t4 (.int .i64 11)) w fun t53 w =>
 K0 [t53] w))) → K0 [t39] w) →
 V (eq .eql 3 (.tmp 4) (.const (.int .i64 5)) t4 (.int .i64 5)) w fun t40 w =>
 CondW t40
 (K0 [t40] w)
 (V (eq .eql 3 (.tmp 4) (.const (.int .i64 6)) t4 (.int .i64 6)) w fun t41 w =>
 CondW t41
 (K0 [t41] w)
 (V (eq .eql 3 (.tmp 4) (.const (.int .i64 7)) t4 (.int .i64 7)) w fun t42 w =>
 K0 [t42] w)))) → K0 [t25] w) →
 V (eq .eql 3 (.tmp 4) (.const (.int .i64 4)) t4 (.int .i64 4)) w fun t26 w =>
 CondW t26
 (K0 [t26] w)
 (V (eq .eql 3 (.tmp 4) (.const (.int .i64 8)) t4 (.int .i64 8)) w fun t27 w =>
 CondW t27
 (K0 [t27] w)
 (V (eq .eql 3 (.tmp 4) (.const (.int .i64 9)) t4 (.int .i64 9)) w fun t28 w =>
 CondW t28
 (K0 [t28] w)
 (V (eq .eql 3 (.tmp 4) (.const (.int .i64 10)) t4 (.int .i64 10)) w fun t29 w =>
 K0 [t29] w)))))
theorem en164 (h : vc164 R w t0) : Calls Tryz.prog 164 #[t0] w (retK R) := calls_of_enter mixed Tryz.func164 (by kernel_rfl) (Eq.mpr (by kernel_rfl : enterW Tryz.prog Tryz.f164 an164 [t0] w R = vc164 R w t0) h)
def an165 : Ann := (.seq (oD 1) (.seq (oD 4) .leaf))
def vc165 (R : Value → World → Prop) (w : World) (t0 : Value) : Prop :=
 CV (.func (.func 166) #[] #[]) #[t0] w fun t4 w =>
 V (bi .gtr 3 t4 (.int .i64 1)) w fun t5 w =>
 R t5 w
theorem en165 (h : vc165 R w t0) : Calls Tryz.prog 165 #[t0] w (retK R) := calls_of_enter mixed Tryz.func165 (by kernel_rfl) (Eq.mpr (by kernel_rfl : enterW Tryz.prog Tryz.f165 an165 [t0] w R = vc165 R w t0) h)
def an166 : Ann := (.seq (oD 1) (.seq (.seq (.reg (opn 4 (.join [13] [10, 11, 12, 13] (.split 9 (opn 4 .done) (opn 4 .done)) .done))) (.cond (.seq (oD 1) .leaf) .leaf)) (.seq (oD 1) (.seq (.seq (oD 1) (.one (.loop [3, 4] ([14, 15, 16, 17, 20, 21, 22, 5] ++ rgN 23 34 ++ [2, 57, 58, 59, 60, 3, 18, 19, 4]) (.seq (.seq (oD 4) (.cond .leaf .leaf)) (.seqJ [3] ([20, 21, 22, 5] ++ rgN 23 34 ++ [2, 57, 58, 59, 60, 3]) (.one (.seq (oD 4) (.seqJ [] (rgN 23 34 ++ [2]) (.seq (.reg (opn 3 (.join [28] [26, 27, 28] (.split 25 (opn 3 .done) (opn 3 .done)) (opn 1 (.join [36] (rgN 30 7) (.split 29 (opn 7 .done) (opn 3 (.join [35] [33, 34, 35] (.split 32 (opn 3 .done) (opn 3 .done)) (opn 1 .done)))) (opn 1 (.join [40] [38, 39, 40] (.split 37 (opn 3 .done) (opn 3 .done)) (opn 1 (.join [44] [42, 43, 44] (.split 41 (opn 3 .done) (opn 3 .done)) (opn 1 (.join [48] [46, 47, 48] (.split 45 (opn 3 .done) (opn 3 .done)) (opn 1 (.join [52] [50, 51, 52] (.split 49 (opn 3 .done) (opn 3 .done)) (opn 1 .done)))))))))))))) (.cond (.seq (oD 3) (.cond (.seq (oD 1) .leaf) .leaf)) .leaf)) (.seq (oD 2) (.cond (oD 3) .leaf))))) (oD 3)))))) (.seq (.one (.seq (.reg (opn 4 (.join [74] (rgN 66 9) (.split 65 (opn 9 .done) (opn 4 (.join [73] [70, 71, 72, 73] (.split 69 (opn 4 .done) (opn 4 .done)) (opn 1 .done)))) (opn 1 .done)))) (.cond (.seq (oD 1) .leaf) (.seq (oD 3) (.cond (.seq (oD 1) .leaf) (.seq (.reg (opn 3 (.join [88] (rgN 82 7) (.split 81 (opn 7 .done) (opn 7 .done)) (opn 1 .done)))) (.cond (.seq (oD 1) .leaf) .leaf))))))) (.seq (oD 1) .leaf))))))
def vc166 (R : Value → World → Prop) (w : World) (t0 : Value) : Prop :=
 V (Builtin.len_ #[9] 3 #[t0]) w fun t7 w =>
 V (eq .eql 3 (.tmp 7) (.const (.int .i64 0)) t7 (.int .i64 0)) w fun t8 w =>
 ∀ K0 : List Value → World → Prop, (∀ t13, ∀ w, (∀ g : Env,
 CondW t13
 (R (.int .i64 0) w)
 (∃ (I0 : List Value → World → Prop) (M0 : List Value → World → Nat), I0 [(.int .i64 0), (.int .i64 0)] w ∧ ∀ g : Env, ∀ t3, ∀ t4, ∀ w, I0 [t3, t4] w → ∀ m0, m0 = M0 [t3, t4] w →
 V (Builtin.len_ #[9] 3 #[t0]) w fun t16 w =>
 V (bi .lss 3 t4 t16) w fun t17 w =>
 CondW t17
 (∀ K0 : List Value → World → Prop, (∀ t3a, ∀ w, (∀ g : Env,
 V (bi .add 3 t4 (.int .i64 1)) w fun t19 w =>
 I0 [t3a, t19] w ∧ M0 [t3a, t19] w < m0) → K0 [t3a] w) →
 V (ix 9 t0 t4) w fun t22 w =>
 ∀ K1 : List Value → World → Prop, (∀ w, (∀ g : Env,
 V (eq .eql 5 (.tmp 57) (.const (.int .u8 46)) t22 (.int .u8 46)) w fun t58 w =>
 CondW t58
 (V (bi .add 3 t3 (.int .i64 1)) w fun t60 w =>
 K0 [t60] w)
 (K0 [t3] w)) → K1 [] w) →
 V (bi .geq 5 t22 (.int .u8 65)) w fun t24 w =>
 ∀ K2 : List Value → World → Prop, (∀ t28, ∀ w, (∀ g : Env,
 ∀ K2 : List Value → World → Prop, (∀ t36, ∀ w, (∀ g : Env,
 ∀ K2 : List Value → World → Prop, (∀ t40, ∀ w, (∀ g : Env,
 ∀ K2 : List Value → World → Prop, (∀ t44, ∀ w, (∀ g : Env,
 ∀ K2 : List Value → World → Prop, (∀ t48, ∀ w, (∀ g : Env,
 ∀ K2 : List Value → World → Prop, (∀ t52, ∀ w, (∀ g : Env,
 V (un .not t52) w fun t53 w =>
 CondW t53
 (CV (.func (.func 231) #[] #[]) #[t0] w fun t55 w =>
 V (un .not t55) w fun t56 w =>
 CondW t56
 (R (.int .i64 0) w)
 (K1 [] w))
 (K1 [] w)) → K2 [t52] w) →
 CondW t48
 (K2 [(.bool true)] w)
 (V (eq .eql 5 (.tmp 50) (.const (.int .u8 63)) t22 (.int .u8 63)) w fun t51 w =>
 K2 [t51] w)) → K2 [t48] w) →
 CondW t44
 (K2 [(.bool true)] w)
 (V (eq .eql 5 (.tmp 46) (.const (.int .u8 33)) t22 (.int .u8 33)) w fun t47 w =>
 K2 [t47] w)) → K2 [t44] w) →
 CondW t40
 (K2 [(.bool true)] w)
 (V (eq .eql 5 (.tmp 42) (.const (.int .u8 95)) t22 (.int .u8 95)) w fun t43 w =>
 K2 [t43] w)) → K2 [t40] w) →
 CondW t36
 (K2 [(.bool true)] w)
 (V (eq .eql 5 (.tmp 38) (.const (.int .u8 46)) t22 (.int .u8 46)) w fun t39 w =>
 K2 [t39] w)) → K2 [t36] w) →
 CondW t28
 (K2 [(.bool true)] w)
 (V (bi .geq 5 t22 (.int .u8 48)) w fun t31 w =>
 ∀ K3 : List Value → World → Prop, (∀ t35, ∀ w, (∀ g : Env,
 K2 [t35] w) → K3 [t35] w) →
 CondW t31
 (V (bi .leq 5 t22 (.int .u8 57)) w fun t34 w =>
 K3 [t34] w)
 (K3 [(.bool false)] w))) → K2 [t28] w) →
 CondW t24
 (V (bi .leq 5 t22 (.int .u8 90)) w fun t27 w =>
 K2 [t27] w)
 (K2 [(.bool false)] w))
 (V (ix 9 t0 (.int .i64 0)) w fun t63 w =>
 V (eq .eql 5 (.tmp 63) (.const (.int .u8 46)) t63 (.int .u8 46)) w fun t64 w =>
 ∀ K0 : List Value → World → Prop, (∀ t74, ∀ w, (∀ g : Env,
 CondW t74
 (R (.int .i64 1) w)
 (V (eq .eql 3 (.tmp 76) (.const (.int .i64 0)) t3 (.int .i64 0)) w fun t77 w =>
 CondW t77
 (R (.int .i64 2) w)
 (V (eq .eql 3 (.tmp 79) (.const (.int .i64 1)) t3 (.int .i64 1)) w fun t80 w =>
 ∀ K0 : List Value → World → Prop, (∀ t88, ∀ w, (∀ g : Env,
 CondW t88
 (R (.int .i64 3) w)
 (R (.int .i64 4) w)) → K0 [t88] w) →
 CondW t80
 (V (Builtin.len_ #[9] 3 #[t0]) w fun t84 w =>
 V (bi .sub 3 t84 (.int .i64 1)) w fun t85 w =>
 V (ix 9 t0 t85) w fun t86 w =>
 V (eq .eql 5 (.tmp 86) (.const (.int .u8 46)) t86 (.int .u8 46)) w fun t87 w =>
 K0 [t87] w)
 (K0 [(.bool false)] w)))) → K0 [t74] w) →
 CondW t64
 (K0 [(.bool true)] w)
 (V (ix 9 t0 (.int .i64 0)) w fun t67 w =>
 V (bi .geq 5 t67 (.int .u8 48)) w fun t68 w =>
 ∀ K1 : List Value → World → Prop, (∀ t73, ∀ w, (∀ g : Env,
 K0 [t73] w) → K1 [t73] w) →
 CondW t68
 (V (ix 9 t0 (.int .i64 0)) w fun t71 w =>
 V (bi .leq 5 t71 (.int .u8 57)) w fun t72 w =>
 K1 [t72] w)
 (K1 [(.bool false)] w))))) → K0 [t13] w) →
 CondW t8
 (K0 [(.bool true)] w)
 (V (Builtin.len_ #[9] 3 #[t0]) w fun t11 w =>
 V (bi .gtr 3 t11 (.int .i64 40)) w fun t12 w =>
 K0 [t12] w)
theorem en166 (h : vc166 R w t0) : Calls Tryz.prog 166 #[t0] w (retK R) := calls_of_enter mixed Tryz.func166 (by kernel_rfl) (Eq.mpr (by kernel_rfl : enterW Tryz.prog Tryz.f166 an166 [t0] w R = vc166 R w t0) h)
def an167 : Ann := (.seq (oD 2) (.seq (.seq (oD 1) (.one (.seq (oD 2) (.cond (.seq (oD 3) .leaf) (.seq (oD 2) (.cond (.seq (oD 3) .leaf) (.seq (oD 2) (.cond (.seq (oD 7) .leaf) (.seq (oD 2) (.cond (.seq (oD 7) .leaf) (.seq (oD 2) (.cond (.seq (oD 7) .leaf) (.seq (oD 2) (.cond (.seq (oD 7) .leaf) (.seq (oD 2) (.cond (.seq (oD 7) .leaf) (.seq (oD 2) (.cond (.seq (oD 7) .leaf) (.seq (oD 2) (.cond (.seq (oD 4) .leaf) (.seq (oD 2) (.cond (.seq (oD 4) .leaf) (.seq (oD 2) (.cond (.seq (oD 1) .leaf) .leaf)))))))))))))))))))))))) (.seq (.seq (oD 7) (.cond (.seq (oD 1) .leaf) .leaf)) (.seq (oD 7) (.seq (.seq (oD 1) (.one (.seq (oD 2) (.cond (.seq (oD 3) .leaf) (.seq (oD 2) (.cond (.seq (oD 3) .leaf) (.seq (oD 2) (.cond (.seq (oD 3) .leaf) (.seq (oD 2) (.cond (.seq (oD 3) .leaf) .leaf)))))))))) (.seq (oD 1) .leaf))))))
def vc167 (R : Value → World → Prop) (w : World) (t0 t1 t2 t3 : Value) : Prop :=
 V (bx 28 t0) w fun t4 w =>
 V (eq .eql 3 (.tmp 10) (.const (.int .i64 0)) t1 (.int .i64 0)) w fun t12 w =>
 CondW t12
 (V (eq .eql 3 (.tmp 13) (.const (.int .i64 0)) t3 (.int .i64 0)) w fun t14 w =>
 R t14 w)
 (V (eq .eql 3 (.tmp 10) (.const (.int .i64 1)) t1 (.int .i64 1)) w fun t16 w =>
 CondW t16
 (CV (.func (.func 59) #[] #[]) #[t3, (.int .i64 1), (.int .i64 20000)] w fun t18 w =>
 R t18 w)
 (V (eq .eql 3 (.tmp 10) (.const (.int .i64 7)) t1 (.int .i64 7)) w fun t20 w =>
 CondW t20
 (V (fa 28 t4 4) w fun t22 w =>
 V (ld 22 t22) w fun t23 w =>
 V (Builtin.len_ #[22] 3 #[t23]) w fun t24 w =>
 V (bi .sub 3 t24 (.int .i64 1)) w fun t25 w =>
 CV (.func (.func 59) #[] #[]) #[t3, (.int .i64 0), t25] w fun t26 w =>
 R t26 w)
 (V (eq .eql 3 (.tmp 10) (.const (.int .i64 8)) t1 (.int .i64 8)) w fun t28 w =>
 CondW t28
 (V (fa 28 t4 1) w fun t30 w =>
 V (ld 23 t30) w fun t31 w =>
 V (Builtin.len_ #[23] 3 #[t31]) w fun t32 w =>
 V (bi .sub 3 t32 (.int .i64 1)) w fun t33 w =>
 CV (.func (.func 59) #[] #[]) #[t3, (.int .i64 0), t33] w fun t34 w =>
 R t34 w)
 (V (eq .eql 3 (.tmp 10) (.const (.int .i64 9)) t1 (.int .i64 9)) w fun t36 w =>
 CondW t36
 (V (fa 28 t4 2) w fun t38 w =>
 V (ld 24 t38) w fun t39 w =>
 V (Builtin.len_ #[24] 3 #[t39]) w fun t40 w =>
 V (bi .sub 3 t40 (.int .i64 1)) w fun t41 w =>
 CV (.func (.func 59) #[] #[]) #[t3, (.int .i64 0), t41] w fun t42 w =>
 R t42 w)
 (V (eq .eql 3 (.tmp 10) (.const (.int .i64 10)) t1 (.int .i64 10)) w fun t44 w =>
 CondW t44
 (V (fa 28 t4 2) w fun t46 w =>
 V (ld 24 t46) w fun t47 w =>
 V (Builtin.len_ #[24] 3 #[t47]) w fun t48 w =>
 V (bi .sub 3 t48 (.int .i64 1)) w fun t49 w =>
 CV (.func (.func 59) #[] #[]) #[t3, (.int .i64 (-1)), t49] w fun t50 w =>
 R t50 w)
 (V (eq .eql 3 (.tmp 10) (.const (.int .i64 11)) t1 (.int .i64 11)) w fun t52 w =>
 CondW t52
 (V (fa 28 t4 5) w fun t54 w =>
 V (ld 26 t54) w fun t55 w =>
 V (Builtin.len_ #[26] 3 #[t55]) w fun t56 w =>
 V (bi .sub 3 t56 (.int .i64 1)) w fun t57 w =>
 CV (.func (.func 59) #[] #[]) #[t3, (.int .i64 0), t57] w fun t58 w =>
 R t58 w)
 (V (eq .eql 3 (.tmp 10) (.const (.int .i64 12)) t1 (.int .i64 12)) w fun t60 w =>
 CondW t60
 (V (fa 28 t4 0) w fun t62 w =>
 V (ld 22 t62) w fun t63 w =>
 V (Builtin.len_ #[22] 3 #[t63]) w fun t64 w =>
 V (bi .sub 3 t64 (.int .i64 1)) w fun t65 w =>
 CV (.func (.func 59) #[] #[]) #[t3, (.int .i64 (-1)), t65] w fun t66 w =>
 R t66 w)
 (V (eq .eql 3 (.tmp 10) (.const (.int .i64 13)) t1 (.int .i64 13)) w fun t68 w =>
 CondW t68
 (CV (.func (.func 59) #[] #[]) #[t3, (.int .i64 0), t2] w fun t71 w =>
 R t71 w)
 (V (eq .eql 3 (.tmp 10) (.const (.int .i64 14)) t1 (.int .i64 14)) w fun t73 w =>
 CondW t73
 (CV (.func (.func 59) #[] #[]) #[t3, (.int .i64 1), t2] w fun t76 w =>
 R t76 w)
 (V (eq .eql 3 (.tmp 10) (.const (.int .i64 15)) t1 (.int .i64 15)) w fun t78 w =>
 CondW t78
 (R (.bool true) w)
 (V (fa 28 t4 0) w fun t80 w =>
 V (ld 22 t80) w fun t81 w =>
 V (Builtin.len_ #[22] 3 #[t81]) w fun t82 w =>
 V (bi .sub 3 t82 (.int .i64 1)) w fun t83 w =>
 CV (.func (.func 59) #[] #[]) #[t3, (.int .i64 0), t83] w fun t84 w =>
 V (un .not t84) w fun t85 w =>
 CondW t85
 (R (.bool false) w)
 (V (fa 28 t4 0) w fun t86 w =>
 V (ld 22 t86) w fun t87 w =>
 V (ia 22 t87 t3) w fun t89 w =>
 V (ld 9 t89) w fun t90 w =>
 CV (.func (.func 166) #[] #[]) #[t90] w fun t91 w =>
 V (eq .eql 3 (.tmp 92) (.const (.int .i64 3)) t1 (.int .i64 3)) w fun t94 w =>
 CondW t94
 (V (eq .eql 3 (.tmp 95) (.const (.int .i64 2)) t91 (.int .i64 2)) w fun t96 w =>
 R t96 w)
 (V (eq .eql 3 (.tmp 92) (.const (.int .i64 4)) t1 (.int .i64 4)) w fun t98 w =>
 CondW t98
 (V (eq .eql 3 (.tmp 99) (.const (.int .i64 3)) t91 (.int .i64 3)) w fun t100 w =>
 R t100 w)
 (V (eq .eql 3 (.tmp 92) (.const (.int .i64 5)) t1 (.int .i64 5)) w fun t102 w =>
 CondW t102
 (V (eq .eql 3 (.tmp 103) (.const (.int .i64 4)) t91 (.int .i64 4)) w fun t104 w =>
 R t104 w)
 (V (eq .eql 3 (.tmp 92) (.const (.int .i64 6)) t1 (.int .i64 6)) w fun t106 w =>
 CondW t106
 (V (bi .gtr 3 t91 (.int .i64 1)) w fun t108 w =>
 R t108 w)
 (R (.bool true) w))))))))))))))))
theorem en167 (h : vc167 R w t0 t1 t2 t3) : Calls Tryz.prog 167 #[t0, t1, t2, t3] w (retK R) := calls_of_enter mixed Tryz.func167 (by kernel_rfl) (Eq.mpr (by kernel_rfl : enterW Tryz.prog Tryz.f167 an167 [t0, t1, t2, t3] w R = vc167 R w t0 t1 t2 t3) h)
def an168 : Ann := (.seq (oD 1) (.seq (oD 2) .leaf))
def vc168 (R : Value → World → Prop) (w : World) : Prop :=
 V (bs 22 24 #[(0, (.string ⟨#[43]⟩)), (1, (.string ⟨#[45]⟩)), (2, (.string ⟨#[42]⟩)), (3, (.string ⟨#[47]⟩)), (4, (.string ⟨#[37]⟩)), (5, (.string ⟨#[47, 47]⟩)), (6, (.string ⟨#[42, 42]⟩)), (7, (.string ⟨#[124, 124]⟩)), (8, (.string ⟨#[32]⟩)), (9, (.string ⟨#[61]⟩)), (10, (.string ⟨#[92, 61]⟩)), (11, (.string ⟨#[62]⟩)), (12, (.string ⟨#[60]⟩)), (13, (.string ⟨#[62, 61]⟩)), (14, (.string ⟨#[60, 61]⟩)), (15, (.string ⟨#[61, 61]⟩)), (16, (.string ⟨#[92, 61, 61]⟩)), (17, (.string ⟨#[62, 62]⟩)), (18, (.string ⟨#[60, 60]⟩)), (19, (.string ⟨#[62, 62, 61]⟩)), (20, (.string ⟨#[60, 60, 61]⟩)), (21, (.string ⟨#[38]⟩)), (22, (.string ⟨#[124]⟩)), (23, (.string ⟨#[38, 38]⟩))]) w fun t1 w =>
 R t1 w
theorem en168 (h : vc168 R w ) : Calls Tryz.prog 168 #[] w (retK R) := calls_of_enter mixed Tryz.func168 (by kernel_rfl) (Eq.mpr (by kernel_rfl : enterW Tryz.prog Tryz.f168 an168 [] w R = vc168 R w ) h)
def an169 : Ann := (.seq (oD 1) (.seq (oD 2) .leaf))
def vc169 (R : Value → World → Prop) (w : World) : Prop :=
 V (bs 22 3 #[(0, (.string ⟨#[43]⟩)), (1, (.string ⟨#[45]⟩)), (2, (.string ⟨#[92]⟩))]) w fun t1 w =>
 R t1 w
theorem en169 (h : vc169 R w ) : Calls Tryz.prog 169 #[] w (retK R) := calls_of_enter mixed Tryz.func169 (by kernel_rfl) (Eq.mpr (by kernel_rfl : enterW Tryz.prog Tryz.f169 an169 [] w R = vc169 R w ) h)
def an170 : Ann := (.seq (oD 2) (.seq (oD 5) .leaf))
def vc170 (R : Value → World → Prop) (w : World) (t0 t1 : Value) : Prop :=
 V (bx 249 t1) w fun t3 w =>
 CV (.func (.func 232) #[] #[]) #[t0, (.func (.func 233) #[] #[t3])] w fun t7 w =>
 V (un .not t7) w fun t8 w =>
 R t8 w
theorem en170 (h : vc170 R w t0 t1) : Calls Tryz.prog 170 #[t0, t1] w (retK R) := calls_of_enter mixed Tryz.func170 (by kernel_rfl) (Eq.mpr (by kernel_rfl : enterW Tryz.prog Tryz.f170 an170 [t0, t1] w R = vc170 R w t0 t1) h)
def an171 : Ann := (.seq (oD 1) (.seq (oD 3) .leaf))
def vc171 (R : Value → World → Prop) (w : World) (t0 : Value) : Prop :=
 V (eq .eql 3 (.tmp 3) (.const (.int .i64 0)) t0 (.int .i64 0)) w fun t4 w =>
 R t4 w
theorem en171 (h : vc171 R w t0) : Calls Tryz.prog 171 #[t0] w (retK R) := calls_of_enter mixed Tryz.func171 (by kernel_rfl) (Eq.mpr (by kernel_rfl : enterW Tryz.prog Tryz.f171 an171 [t0] w R = vc171 R w t0) h)
def an172 : Ann := (.seq (oD 10) (.seq (.draw (.hold 0 (.take 1 (.take 2 (.hold 3 (.take 4 (.take 5 (.hold 6 (tkN 7 4 .done))))))))) (.one (.loop [25] ([26, 27, 28, 5, 6, 29, 30, 31, 32, 7] ++ rgN 34 16 ++ [33] ++ rgN 50 16 ++ rgN 67 9 ++ [66] ++ rgN 76 6 ++ [25]) (.seq (oD 1) (.seq (.cond .leaf .leaf) (.seq (.one (.seq (oD 4) (.seq (oD 5) (.seqJ [7] (rgN 34 16 ++ [33] ++ rgN 50 16 ++ [7] ++ rgN 67 9 ++ [66]) (.one (.seqJ [33] (rgN 34 16 ++ [33] ++ rgN 50 16) (.seq (.reg (opn 6 (.join [45] (rgN 40 6) (.split 39 (opn 6 .done) (opn 6 .done)) (opn 1 (.join [49] [47, 48, 49] (.split 46 (opn 3 .done) (opn 3 .done)) (opn 1 .done)))))) (.cond .leaf (.reg (opn 6 (.join [58] [56, 57, 58] (.split 55 (opn 3 .done) (opn 3 .done)) (opn 1 (.join [65] (rgN 60 6) (.split 59 (opn 6 .done) (opn 6 .done)) (opn 1 .done)))))))) (.cond (oD 1) (.seq (.reg (opn 6 (.join [75] [73, 74, 75] (.split 72 (opn 3 .done) (opn 3 .done)) (opn 1 .done)))) (.cond (oD 1) .leaf))))) (.seq (oD 5) (.cond .leaf .leaf)))))) (oD 2))))))))
def vc172 (R : Value → World → Prop) (w : World) (t0 t1 : Value) : Prop :=
 V (ld 121 t1) w fun t9 w =>
 NilW t9 fun t10 => V (ld 38 t10) w fun t11 w =>
 CV (.func (.func 49) #[] #[]) #[t11] w fun t12 w =>
 V (ex t12 0) w fun t13 w =>
 V (ex t12 1) w fun t14 w =>
 V (al 102) w fun t3 w =>
 U (st 102 t3 t13) w fun w =>
 Dr w fun w =>
 HV (ld 121 t1) w fun t15 =>
 NilW t15 fun t16 => PV (fa 38 t16 1) fun t17 =>
 HV (ld 121 t1) w fun t18 =>
 NilW t18 fun t19 => PV (fa 38 t19 2) fun t20 =>
 HV (ld 121 t1) w fun t21 =>
 NilW t21 fun t22 => PV (fa 38 t22 3) fun t23 =>
 PV (bd 251 #[(0, t17), (1, t20), (2, t23)]) fun t24 =>
 ∃ (I0 : List Value → World → Prop) (M0 : List Value → World → Nat), I0 [(.int .i64 0)] w ∧ ∀ g : Env, ∀ t25, ∀ w, I0 [t25] w → ∀ m0, m0 = M0 [t25] w →
 V (bi .lss 3 t25 (.int .i64 3)) w fun t26 w =>
 CondW t26
 (V (ix 251 t24 t25) w fun t28 w =>
 V (fa 102 t3 1) w fun t30 w =>
 V (ia 100 t30 t25) w fun t31 w =>
 V (ld 3 t31) w fun t32 w =>
 ∀ K0 : List Value → World → Prop, (∀ t7, ∀ w, (∀ g : Env,
 CV t0 #[t7, t28] w fun t79 w =>
 V (un .not t79) w fun t80 w =>
 CondW t80
 (R (.tuple #[]) w)
 (V (bi .add 3 t25 (.int .i64 1)) w fun t81 w =>
 I0 [t81] w ∧ M0 [t81] w < m0)) → K0 [t7] w) →
 ∀ K1 : List Value → World → Prop, (∀ t33, ∀ w, (∀ g : Env,
 CondW t33
 (K0 [(.int .i64 2)] w)
 (V (ld 121 t1) w fun t67 w =>
 NilW t67 fun t68 => V (fa 38 t68 0) w fun t69 w =>
 V (ld 3 t69) w fun t70 w =>
 V (eq .eql 3 (.tmp 70) (.const (.int .i64 22)) t70 (.int .i64 22)) w fun t71 w =>
 ∀ K1 : List Value → World → Prop, (∀ t75, ∀ w, (∀ g : Env,
 CondW t75
 (K0 [(.int .i64 8)] w)
 (K0 [t32] w)) → K1 [t75] w) →
 CondW t71
 (V (eq .eql 3 (.tmp 73) (.const (.int .i64 2)) t25 (.int .i64 2)) w fun t74 w =>
 K1 [t74] w)
 (K1 [(.bool false)] w))) → K1 [t33] w) →
 V (ld 121 t1) w fun t34 w =>
 NilW t34 fun t35 => V (fa 38 t35 0) w fun t36 w =>
 V (ld 3 t36) w fun t37 w =>
 V (eq .eql 3 (.tmp 37) (.const (.int .i64 12)) t37 (.int .i64 12)) w fun t38 w =>
 ∀ K2 : List Value → World → Prop, (∀ t45, ∀ w, (∀ g : Env,
 ∀ K2 : List Value → World → Prop, (∀ t49, ∀ w, (∀ g : Env,
 CondW t49
 (K1 [t49] w)
 (V (ld 121 t1) w fun t50 w =>
 NilW t50 fun t51 => V (fa 38 t51 0) w fun t52 w =>
 V (ld 3 t52) w fun t53 w =>
 V (eq .eql 3 (.tmp 53) (.const (.int .i64 19)) t53 (.int .i64 19)) w fun t54 w =>
 ∀ K2 : List Value → World → Prop, (∀ t58, ∀ w, (∀ g : Env,
 ∀ K2 : List Value → World → Prop, (∀ t65, ∀ w, (∀ g : Env,
 K1 [t65] w) → K2 [t65] w) →
 CondW t58
 (V (ld 121 t1) w fun t60 w =>
 NilW t60 fun t61 => V (fa 38 t61 1) w fun t62 w =>
 V (ld 3 t62) w fun t63 w =>
 V (eq .eql 3 (.tmp 63) (.const (.int .i64 1)) t63 (.int .i64 1)) w fun t64 w =>
 K2 [t64] w)
 (K2 [(.bool false)] w)) → K2 [t58] w) →
 CondW t54
 (V (eq .eql 3 (.tmp 56) (.const (.int .i64 1)) t25 (.int .i64 1)) w fun t57 w =>
 K2 [t57] w)
 (K2 [(.bool false)] w))) → K2 [t49] w) →
 CondW t45
 (V (eq .eql 3 (.tmp 47) (.const (.int .i64 0)) t25 (.int .i64 0)) w fun t48 w =>
 K2 [t48] w)
 (K2 [(.bool false)] w)) → K2 [t45] w) →
 CondW t38
 (K2 [(.bool true)] w)
 (V (ld 121 t1) w fun t40 w =>
 NilW t40 fun t41 => V (fa 38 t41 0) w fun t42 w =>
 V (ld 3 t42) w fun t43 w =>
 V (eq .eql 3 (.tmp 43) (.const (.int .i64 21)) t43 (.int .i64 21)) w fun t44 w =>
 K2 [t44] w))
 (R (.tuple #[]) w)
theorem en172 (h : vc172 R w t0 t1) : Calls Tryz.prog 172 #[t0, t1] w (retK R) := calls_of_enter mixed Tryz.func172 (by kernel_rfl) (Eq.mpr (by kernel_rfl : enterW Tryz.prog Tryz.f172 an172 [t0, t1] w R = vc172 R w t0 t1) h)
def an173 : Ann := (.seq (oD 7) (.seq (oD 8) (.seq (.seq (.reg (opn 4 (.join [27] (rgN 21 7) (.split 20 (opn 7 .done) (opn 7 .done)) (opn 1 (.join [34] (rgN 29 6) (.split 28 (opn 6 .done) (opn 6 .done)) .done))))) (.cond .leaf .leaf)) (.seq (.reg (opn 4 (.join [42] [39, 40, 41, 42] (.split 38 (opn 4 .done) (opn 4 .done)) (opn 1 (.join [47] [44, 45, 46, 47] (.split 43 (opn 4 .done) (opn 4 .done)) (opn 1 (.join [56] (rgN 49 8) (.split 48 (opn 8 .done) (opn 8 .done)) .done))))))) (.cond (oD 4) .leaf)))))
def vc173 (R : Value → World → Prop) (w : World) (t0 t1 t2 : Value) : Prop :=
 V (fa 28 t1 5) w fun t7 w =>
 V (ld 26 t7) w fun t8 w =>
 V (ld 3 t2) w fun t9 w =>
 V (ia 26 t8 t9) w fun t10 w =>
 V (ld 38 t10) w fun t11 w =>
 V (al 38) w fun t4 w =>
 U (st 38 t4 t11) w fun w =>
 V (ld 38 t4) w fun t13 w =>
 CV (.func (.func 49) #[] #[]) #[t13] w fun t14 w =>
 V (ex t14 0) w fun t15 w =>
 V (ex t14 1) w fun t16 w =>
 V (al 102) w fun t5 w =>
 U (st 102 t5 t15) w fun w =>
 V (fa 102 t5 5) w fun t17 w =>
 V (ld 4 t17) w fun t18 w =>
 V (un .not t18) w fun t19 w =>
 ∀ K0 : List Value → World → Prop, (∀ t27, ∀ w, (∀ g : Env,
 ∀ K0 : List Value → World → Prop, (∀ t34, ∀ w, (∀ g : Env,
 CondW t34
 (R (.tuple #[]) w)
 (V (fa 38 t4 0) w fun t35 w =>
 V (ld 3 t35) w fun t36 w =>
 V (eq .eql 3 (.tmp 36) (.const (.int .i64 23)) t36 (.int .i64 23)) w fun t37 w =>
 ∀ K0 : List Value → World → Prop, (∀ t42, ∀ w, (∀ g : Env,
 ∀ K0 : List Value → World → Prop, (∀ t47, ∀ w, (∀ g : Env,
 ∀ K0 : List Value → World → Prop, (∀ t56, ∀ w, (∀ g : Env,
 CondW t56
 (V (fa 38 t4 1) w fun t58 w =>
 V (ld 3 t58) w fun t59 w =>
 CV t0 #[t59, (.bool true)] w fun t60 w =>
 R (.tuple #[]) w)
 (R (.tuple #[]) w)) → K0 [t56] w) →
 CondW t47
 (V (fa 38 t4 1) w fun t49 w =>
 V (ld 3 t49) w fun t50 w =>
 V (fa 28 t1 5) w fun t51 w =>
 V (ld 26 t51) w fun t52 w =>
 V (Builtin.len_ #[26] 3 #[t52]) w fun t53 w =>
 V (bi .sub 3 t53 (.int .i64 1)) w fun t54 w =>
 CV (.func (.func 75) #[] #[]) #[t50, (.int .i64 0), t54] w fun t55 w =>
 K0 [t55] w)
 (K0 [(.bool false)] w)) → K0 [t47] w) →
 CondW t42
 (K0 [(.bool true)] w)
 (V (fa 38 t4 0) w fun t44 w =>
 V (ld 3 t44) w fun t45 w =>
 V (eq .eql 3 (.tmp 45) (.const (.int .i64 30)) t45 (.int .i64 30)) w fun t46 w =>
 K0 [t46] w)) → K0 [t42] w) →
 CondW t37
 (K0 [(.bool true)] w)
 (V (fa 38 t4 0) w fun t39 w =>
 V (ld 3 t39) w fun t40 w =>
 V (eq .eql 3 (.tmp 40) (.const (.int .i64 24)) t40 (.int .i64 24)) w fun t41 w =>
 K0 [t41] w))) → K0 [t34] w) →
 CondW t27
 (V (ld 3 t2) w fun t30 w =>
 V (bi .add 3 t30 (.int .i64 1)) w fun t31 w =>
 CV t0 #[t31, (.bool false)] w fun t32 w =>
 V (un .not t32) w fun t33 w =>
 K0 [t33] w)
 (K0 [(.bool false)] w)) → K0 [t27] w) →
 CondW t19
 (V (ld 3 t2) w fun t21 w =>
 V (bi .add 3 t21 (.int .i64 1)) w fun t22 w =>
 V (fa 28 t1 5) w fun t23 w =>
 V (ld 26 t23) w fun t24 w =>
 V (Builtin.len_ #[26] 3 #[t24]) w fun t25 w =>
 V (bi .lss 3 t22 t25) w fun t26 w =>
 K0 [t26] w)
 (K0 [(.bool false)] w)
theorem en173 (h : vc173 R w t0 t1 t2) : Calls Tryz.prog 173 #[t0, t1, t2] w (retK R) := calls_of_enter mixed Tryz.func173 (by kernel_rfl) (Eq.mpr (by kernel_rfl : enterW Tryz.prog Tryz.f173 an173 [t0, t1, t2] w R = vc173 R w t0 t1 t2) h)
def an174 : Ann := (.seq (oD 1) (.seq (.seq (oD 3) (.one (.loop [8] ([9, 10, 5] ++ rgN 11 7 ++ [4, 18, 8]) (.seq (oD 1) (.seq (.cond .leaf .leaf) (.seq (.one (.seq (oD 2) (.seq (oD 6) (.cond (.seq (oD 2) .leaf) .leaf)))) (oD 2))))))) (.seq (oD 1) .leaf)))
def vc174 (R : Value → World → Prop) (w : World) (t0 t1 : Value) : Prop :=
 V (Builtin.len_ #[45] 3 #[t0]) w fun t7 w =>
 ∃ (I0 : List Value → World → Prop) (M0 : List Value → World → Nat), I0 [(.int .i64 0)] w ∧ ∀ g : Env, ∀ t8, ∀ w, I0 [t8] w → ∀ m0, m0 = M0 [t8] w →
 V (bi .lss 3 t8 t7) w fun t9 w =>
 CondW t9
 (V (ia 45 t0 t8) w fun t14 w =>
 V (ld 3 t14) w fun t15 w =>
 V (eq .eql 3 (.tmp 11) (.tmp 15) t1 t15) w fun t16 w =>
 CondW t16
 (R t8 w)
 (V (bi .add 3 t8 (.int .i64 1)) w fun t18 w =>
 I0 [t18] w ∧ M0 [t18] w < m0))
 (R (.int .i64 (-1)) w)
theorem en174 (h : vc174 R w t0 t1) : Calls Tryz.prog 174 #[t0, t1] w (retK R) := calls_of_enter mixed Tryz.func174 (by kernel_rfl) (Eq.mpr (by kernel_rfl : enterW Tryz.prog Tryz.f174 an174 [t0, t1] w R = vc174 R w t0 t1) h)
def an175 : Ann := (.seq (oD 3) (.one (.loop [9] ([10, 11, 12, 5, 13, 14, 6] ++ rgN 15 7 ++ rgN 24 13 ++ [22, 23] ++ rgN 37 12 ++ [9]) (.seq (oD 1) (.seq (.cond .leaf .leaf) (.seq (.one (.seq (oD 3) (.seq (oD 3) (.seqJ [6] [15, 16, 17, 18, 19, 6] (.seq (oD 2) (.cond (oD 4) .leaf)) (.seq (.one (.loop [6] ([20, 21] ++ rgN 24 13 ++ [22, 23, 6]) (.seq (.seq (oD 2) (.cond .leaf .leaf)) (.seq (.one (oD 14)) (oD 3))))) (oD 12)))))) (oD 2)))))))
def vc175 (R : Value → World → Prop) (w : World) (t0 t1 : Value) : Prop :=
 V (Builtin.len_ #[45] 3 #[t1]) w fun t8 w =>
 ∃ (I0 : List Value → World → Prop) (M0 : List Value → World → Nat), I0 [(.int .i64 0)] w ∧ ∀ g : Env, ∀ t9, ∀ w, I0 [t9] w → ∀ m0, m0 = M0 [t9] w →
 V (bi .lss 3 t9 t8) w fun t10 w =>
 CondW t10
 (V (ia 45 t1 t9) w fun t11 w =>
 V (ld 3 t11) w fun t12 w =>
 V (bi .mul 3 (.int .i64 2) t12) w fun t14 w =>
 ∀ K0 : List Value → World → Prop, (∀ t6, ∀ w, (∀ g : Env,
 ∃ (I1 : List Value → World → Prop) (M1 : List Value → World → Nat), I1 [t6] w ∧ ∀ g : Env, ∀ t6a, ∀ w, I1 [t6a] w → ∀ m1, m1 = M1 [t6a] w →
 V (bi .geq 3 t6a (.int .i64 128)) w fun t21 w =>
 CondW t21
 (NilW t0 fun t26 => V (fa 156 t26 0) w fun t27 w =>
 V (ld 55 t27) w fun t28 w =>
 V (bi .and 3 t6a (.int .i64 127)) w fun t30 w =>
 V (bi .or 3 t30 (.int .i64 128)) w fun t31 w =>
 V (cv 3 5 t31) w fun t32 w =>
 V (bs 55 1 #[(0, t32)]) w fun t33 w =>
 V (Builtin.append_ #[55, 55] 55 #[t28, t33]) w fun t34 w =>
 NilW t0 fun t35 => V (fa 156 t35 0) w fun t36 w =>
 U (st 55 t36 t34) w fun w =>
 V (bi .shr 3 t6a (.int .u64 7)) w fun t23 w =>
 I1 [t23] w ∧ M1 [t23] w < m1)
 (NilW t0 fun t39 => V (fa 156 t39 0) w fun t40 w =>
 V (ld 55 t40) w fun t41 w =>
 V (cv 3 5 t6a) w fun t43 w =>
 V (bs 55 1 #[(0, t43)]) w fun t44 w =>
 V (Builtin.append_ #[55, 55] 55 #[t41, t44]) w fun t45 w =>
 NilW t0 fun t46 => V (fa 156 t46 0) w fun t47 w =>
 U (st 55 t47 t45) w fun w =>
 V (bi .add 3 t9 (.int .i64 1)) w fun t48 w =>
 I0 [t48] w ∧ M0 [t48] w < m0)) → K0 [t6] w) →
 V (bi .lss 3 t12 (.int .i64 0)) w fun t16 w =>
 CondW t16
 (V (bi .mul 3 (.int .i64 (-2)) t12) w fun t18 w =>
 V (bi .sub 3 t18 (.int .i64 1)) w fun t19 w =>
 K0 [t19] w)
 (K0 [t14] w))
 (R (.tuple #[]) w)
theorem en175 (h : vc175 R w t0 t1) : Calls Tryz.prog 175 #[t0, t1] w (retK R) := calls_of_enter mixed Tryz.func175 (by kernel_rfl) (Eq.mpr (by kernel_rfl : enterW Tryz.prog Tryz.f175 an175 [t0, t1] w R = vc175 R w t0 t1) h)
def an184 : Ann := (.seq (oD 5) (.cond (oD 8) (.seq (oD 6) (.cond .leaf .leaf))))
def vc184 (R : Value → World → Prop) (w : World) (t0 : Value) : Prop :=
 NilW t0 fun t3 => V (fa 199 t3 0) w fun t4 w =>
 V (ld 197 t4) w fun t5 w =>
 V (eq .eql 197 (.tmp 5) (.const (.pointer none)) t5 (.pointer none)) w fun t6 w =>
 CondW t6
 (V (cv 197 286 t0) w fun t9 w =>
 CV (.func (.func 234) #[] #[]) #[t9] w fun t10 w =>
 V (cv 286 197 t10) w fun t11 w =>
 NilW t0 fun t12 => V (fa 199 t12 0) w fun t13 w =>
 U (st 197 t13 t11) w fun w =>
 R (.tuple #[]) w)
 (NilW t0 fun t15 => V (fa 199 t15 0) w fun t16 w =>
 V (ld 197 t16) w fun t17 w =>
 V (eq .neq 197 (.tmp 17) (.tmp 18) t17 t0) w fun t19 w =>
 CondW t19
 (False)
 (R (.tuple #[]) w))
theorem en184 (h : vc184 R w t0) : Calls Tryz.prog 184 #[t0] w (retK R) := calls_of_enter mixed Tryz.func184 (by kernel_rfl) (Eq.mpr (by kernel_rfl : enterW Tryz.prog Tryz.f184 an184 [t0] w R = vc184 R w t0) h)
def an185 : Ann := (.seq (oD 1) (.seq (.seq (oD 2) (.one (.seq (oD 2) (.cond (.seq (oD 1) .leaf) (.seq (oD 2) (.cond (.seq (oD 4) .leaf) .leaf)))))) (.seq (oD 1) (.seqJ [5] (rgN 20 19 ++ [5]) (.seq (oD 3) (.cond (.seqJ [] (rgN 23 8) (.seq (oD 7) (.cond (oD 2) .leaf)) (oD 9)) .leaf)) (.seq (.seq (oD 3) (.one (.loop [5, 41] ([42, 43, 44, 7] ++ rgN 45 10 ++ [5, 55, 41]) (.seq (oD 1) (.seq (.cond .leaf .leaf) (.seq (.one (.seq (oD 3) (.seqJ [] (rgN 45 6) (.seq (oD 5) (.cond (oD 2) .leaf)) (oD 5)))) (oD 2))))))) (.seq (oD 1) (.seq (oD 2) (.seq (oD 4) (.seq (.seq (oD 4) (.one (.loop [65] [66, 67, 68, 10, 69, 70, 71, 72, 73, 65] (.seq (oD 1) (.seq (.cond .leaf .leaf) (.seq (.one (.seq (oD 3) (.seq (oD 2) (oD 2)))) (oD 2))))))) (.seq (oD 2) .leaf))))))))))
def vc185 (R : Value → World → Prop) (w : World) (t0 t1 : Value) : Prop :=
 V (Builtin.len_ #[22] 3 #[t0]) w fun t12 w =>
 V (eq .eql 3 (.tmp 12) (.const (.int .i64 0)) t12 (.int .i64 0)) w fun t14 w =>
 CondW t14
 (R (.string ⟨#[]⟩) w)
 (V (eq .eql 3 (.tmp 12) (.const (.int .i64 1)) t12 (.int .i64 1)) w fun t16 w =>
 CondW t16
 (V (ia 22 t0 (.int .i64 0)) w fun t18 w =>
 V (ld 9 t18) w fun t19 w =>
 R t19 w)
 (∀ K0 : List Value → World → Prop, (∀ t5, ∀ w, (∀ g : Env,
 V (Builtin.len_ #[22] 3 #[t0]) w fun t40 w =>
 ∃ (I0 : List Value → World → Prop) (M0 : List Value → World → Nat), I0 [t5, (.int .i64 0)] w ∧ ∀ g : Env, ∀ t5a, ∀ t41, ∀ w, I0 [t5a, t41] w → ∀ m0, m0 = M0 [t5a, t41] w →
 V (bi .lss 3 t41 t40) w fun t42 w =>
 CondW t42
 (V (ia 22 t0 t41) w fun t43 w =>
 V (ld 9 t43) w fun t44 w =>
 ∀ K0 : List Value → World → Prop, (∀ w, (∀ g : Env,
 V (Builtin.len_ #[9] 3 #[t44]) w fun t53 w =>
 V (bi .add 3 t5a t53) w fun t54 w =>
 V (bi .add 3 t41 (.int .i64 1)) w fun t55 w =>
 I0 [t54, t55] w ∧ M0 [t54, t55] w < m0) → K0 [] w) →
 V (Builtin.len_ #[9] 3 #[t44]) w fun t46 w =>
 V (bi .sub 3 (.int .i64 9223372036854775807) t5a) w fun t48 w =>
 V (bi .gtr 3 t46 t48) w fun t49 w =>
 CondW t49
 (V (mi 9 (.string ⟨#[115, 116, 114, 105, 110, 103, 115, 58, 32, 74, 111, 105, 110, 32, 111, 117, 116, 112, 117, 116, 32, 108, 101, 110, 103, 116, 104, 32, 111, 118, 101, 114, 102, 108, 111, 119]⟩)) w fun t50 w =>
 False)
 (K0 [] w))
 (V (al 199) w fun t8 w =>
 CV (.func (.func 235) #[] #[]) #[t8, t5a] w fun t57 w =>
 V (ia 22 t0 (.int .i64 0)) w fun t59 w =>
 V (ld 9 t59) w fun t60 w =>
 CV (.func (.func 125) #[] #[]) #[t8, t60] w fun t61 w =>
 V (sl 22 t0 (some (.int .i64 1)) none none) w fun t63 w =>
 V (Builtin.len_ #[22] 3 #[t63]) w fun t64 w =>
 ∃ (I1 : List Value → World → Prop) (M1 : List Value → World → Nat), I1 [(.int .i64 0)] w ∧ ∀ g : Env, ∀ t65, ∀ w, I1 [t65] w → ∀ m1, m1 = M1 [t65] w →
 V (bi .lss 3 t65 t64) w fun t66 w =>
 CondW t66
 (V (ia 22 t63 t65) w fun t67 w =>
 V (ld 9 t67) w fun t68 w =>
 CV (.func (.func 125) #[] #[]) #[t8, t1] w fun t70 w =>
 CV (.func (.func 125) #[] #[]) #[t8, t68] w fun t72 w =>
 V (bi .add 3 t65 (.int .i64 1)) w fun t73 w =>
 I1 [t73] w ∧ M1 [t73] w < m1)
 (CV (.func (.func 132) #[] #[]) #[t8] w fun t74 w =>
 R t74 w))) → K0 [t5] w) →
 V (Builtin.len_ #[9] 3 #[t1]) w fun t21 w =>
 V (bi .gtr 3 t21 (.int .i64 0)) w fun t22 w =>
 CondW t22
 (∀ K1 : List Value → World → Prop, (∀ w, (∀ g : Env,
 V (Builtin.len_ #[9] 3 #[t1]) w fun t33 w =>
 V (Builtin.len_ #[22] 3 #[t0]) w fun t35 w =>
 V (bi .sub 3 t35 (.int .i64 1)) w fun t36 w =>
 V (bi .mul 3 t33 t36) w fun t37 w =>
 V (bi .add 3 (.int .i64 0) t37) w fun t38 w =>
 K0 [t38] w) → K1 [] w) →
 V (Builtin.len_ #[9] 3 #[t1]) w fun t24 w =>
 V (Builtin.len_ #[22] 3 #[t0]) w fun t26 w =>
 V (bi .sub 3 t26 (.int .i64 1)) w fun t27 w =>
 V (bi .quo 3 (.int .i64 9223372036854775807) t27) w fun t28 w =>
 V (bi .geq 3 t24 t28) w fun t29 w =>
 CondW t29
 (V (mi 9 (.string ⟨#[115, 116, 114, 105, 110, 103, 115, 58, 32, 74, 111, 105, 110, 32, 111, 117, 116, 112, 117, 116, 32, 108, 101, 110, 103, 116, 104, 32, 111, 118, 101, 114, 102, 108, 111, 119]⟩)) w fun t30 w =>
 False)
 (K1 [] w))
 (K0 [(.int .i64 0)] w)))
theorem en185 (h : vc185 R w t0 t1) : Calls Tryz.prog 185 #[t0, t1] w (retK R) := calls_of_enter mixed Tryz.func185 (by kernel_rfl) (Eq.mpr (by kernel_rfl : enterW Tryz.prog Tryz.f185 an185 [t0, t1] w R = vc185 R w t0 t1) h)
def an186 : Ann := (.seq (oD 1) (.seq (oD 5) .leaf))
def vc186 (R : Value → World → Prop) (w : World) (t0 t1 t2 : Value) : Prop :=
 CV (.func (.func 236) #[] #[]) #[t0, t1, t2, (.int .i64 (-1))] w fun t10 w =>
 R t10 w
theorem en186 (h : vc186 R w t0 t1 t2) : Calls Tryz.prog 186 #[t0, t1, t2] w (retK R) := calls_of_enter mixed Tryz.func186 (by kernel_rfl) (Eq.mpr (by kernel_rfl : enterW Tryz.prog Tryz.f186 an186 [t0, t1, t2] w R = vc186 R w t0 t1 t2) h)
def an191 : Ann := (.seq (oD 3) (.seq (.seq (oD 4) (.seq (oD 2) (.cond (.seq (.draw (tkN 0 12 .done)) .leaf) .leaf))) (.seq (oD 4) .leaf)))
def vc191 (R : Value → World → Prop) (w : World) (t0 t1 : Value) : Prop :=
 CV (.func (.func 238) #[] #[]) #[t0, t1] w fun t10 w =>
 V (bi .geq 3 t10 (.int .i64 0)) w fun t12 w =>
 CondW t12
 (Dr w fun w =>
 PV (sl 9 t0 none (some t10) none) fun t15 =>
 PV (Builtin.len_ #[9] 3 #[t1]) fun t19 =>
 PV (bi .add 3 t10 t19) fun t20 =>
 PV (sl 9 t0 (some t20) none none) fun t21 =>
 R (.tuple #[t15, t21, (.bool true)]) w)
 (R (.tuple #[t0, (.string ⟨#[]⟩), (.bool false)]) w)
theorem en191 (h : vc191 R w t0 t1) : Calls Tryz.prog 191 #[t0, t1] w (retK R) := calls_of_enter mixed Tryz.func191 (by kernel_rfl) (Eq.mpr (by kernel_rfl : enterW Tryz.prog Tryz.f191 an191 [t0, t1] w R = vc191 R w t0 t1) h)
def an206 : Ann := (.seq (oD 1) (.seq (oD 5) .leaf))
def vc206 (R : Value → World → Prop) (w : World) (t0 t1 : Value) : Prop :=
 CV (.func (.func 246) #[] #[]) #[t0, t1] w fun t7 w =>
 V (bi .geq 3 t7 (.int .i64 0)) w fun t8 w =>
 R t8 w
theorem en206 (h : vc206 R w t0 t1) : Calls Tryz.prog 206 #[t0, t1] w (retK R) := calls_of_enter mixed Tryz.func206 (by kernel_rfl) (Eq.mpr (by kernel_rfl : enterW Tryz.prog Tryz.f206 an206 [t0, t1] w R = vc206 R w t0 t1) h)
def an207 : Ann := (.seq (oD 1) (.seq (oD 5) .leaf))
def vc207 (R : Value → World → Prop) (w : World) (t0 t1 : Value) : Prop :=
 V (ld 224 t1) w fun t4 w =>
 CV t4 #[t0] w fun t6 w =>
 V (un .not t6) w fun t7 w =>
 R t7 w
theorem en207 (h : vc207 R w t0 t1) : Calls Tryz.prog 207 #[t0, t1] w (retK R) := calls_of_enter mixed Tryz.func207 (by kernel_rfl) (Eq.mpr (by kernel_rfl : enterW Tryz.prog Tryz.f207 an207 [t0, t1] w R = vc207 R w t0 t1) h)
def an208 : Ann := (.seq (oD 1) (.seq (oD 5) .leaf))
def vc208 (R : Value → World → Prop) (w : World) (t0 t1 : Value) : Prop :=
 CV (.func (.func 247) #[] #[]) #[t0, t1] w fun t7 w =>
 V (bi .geq 3 t7 (.int .i64 0)) w fun t8 w =>
 R t8 w
theorem en208 (h : vc208 R w t0 t1) : Calls Tryz.prog 208 #[t0, t1] w (retK R) := calls_of_enter mixed Tryz.func208 (by kernel_rfl) (Eq.mpr (by kernel_rfl : enterW Tryz.prog Tryz.f208 an208 [t0, t1] w R = vc208 R w t0 t1) h)
def an209 : Ann := (.seq (oD 2) (.seq (oD 5) .leaf))
def vc209 (R : Value → World → Prop) (w : World) (t0 t1 : Value) : Prop :=
 V (bx 95 t0) w fun t2 w =>
 V (ld 223 t1) w fun t4 w =>
 V (ld 95 t2) w fun t5 w =>
 CV t4 #[t5] w fun t6 w =>
 V (un .not t6) w fun t7 w =>
 R t7 w
theorem en209 (h : vc209 R w t0 t1) : Calls Tryz.prog 209 #[t0, t1] w (retK R) := calls_of_enter mixed Tryz.func209 (by kernel_rfl) (Eq.mpr (by kernel_rfl : enterW Tryz.prog Tryz.f209 an209 [t0, t1] w R = vc209 R w t0 t1) h)
def an210 : Ann := (.seq (oD 1) (.seq (oD 5) .leaf))
def vc210 (R : Value → World → Prop) (w : World) (t0 t1 : Value) : Prop :=
 CV (.func (.func 248) #[] #[]) #[t0, t1] w fun t7 w =>
 V (bi .geq 3 t7 (.int .i64 0)) w fun t8 w =>
 R t8 w
theorem en210 (h : vc210 R w t0 t1) : Calls Tryz.prog 210 #[t0, t1] w (retK R) := calls_of_enter mixed Tryz.func210 (by kernel_rfl) (Eq.mpr (by kernel_rfl : enterW Tryz.prog Tryz.f210 an210 [t0, t1] w R = vc210 R w t0 t1) h)
def an211 : Ann := (.seq (oD 1) (.seq (oD 5) .leaf))
def vc211 (R : Value → World → Prop) (w : World) (t0 t1 : Value) : Prop :=
 V (ld 215 t1) w fun t4 w =>
 CV t4 #[t0] w fun t6 w =>
 V (un .not t6) w fun t7 w =>
 R t7 w
theorem en211 (h : vc211 R w t0 t1) : Calls Tryz.prog 211 #[t0, t1] w (retK R) := calls_of_enter mixed Tryz.func211 (by kernel_rfl) (Eq.mpr (by kernel_rfl : enterW Tryz.prog Tryz.f211 an211 [t0, t1] w R = vc211 R w t0 t1) h)
def an212 : Ann := (.seq (oD 1) (.seq (oD 5) .leaf))
def vc212 (R : Value → World → Prop) (w : World) (t0 t1 : Value) : Prop :=
 CV (.func (.func 249) #[] #[]) #[t0, t1] w fun t7 w =>
 V (bi .geq 3 t7 (.int .i64 0)) w fun t8 w =>
 R t8 w
theorem en212 (h : vc212 R w t0 t1) : Calls Tryz.prog 212 #[t0, t1] w (retK R) := calls_of_enter mixed Tryz.func212 (by kernel_rfl) (Eq.mpr (by kernel_rfl : enterW Tryz.prog Tryz.f212 an212 [t0, t1] w R = vc212 R w t0 t1) h)
def an213 : Ann := (.seq (oD 1) (.seq (oD 5) .leaf))
def vc213 (R : Value → World → Prop) (w : World) (t0 t1 : Value) : Prop :=
 V (ld 227 t1) w fun t4 w =>
 CV t4 #[t0] w fun t6 w =>
 V (un .not t6) w fun t7 w =>
 R t7 w
theorem en213 (h : vc213 R w t0 t1) : Calls Tryz.prog 213 #[t0, t1] w (retK R) := calls_of_enter mixed Tryz.func213 (by kernel_rfl) (Eq.mpr (by kernel_rfl : enterW Tryz.prog Tryz.f213 an213 [t0, t1] w R = vc213 R w t0 t1) h)
def an214 : Ann := (.seq (oD 1) (.seq (oD 5) .leaf))
def vc214 (R : Value → World → Prop) (w : World) (t0 t1 : Value) : Prop :=
 CV (.func (.func 77) #[] #[]) #[t0, t1] w fun t7 w =>
 V (bi .geq 3 t7 (.int .i64 0)) w fun t8 w =>
 R t8 w
theorem en214 (h : vc214 R w t0 t1) : Calls Tryz.prog 214 #[t0, t1] w (retK R) := calls_of_enter mixed Tryz.func214 (by kernel_rfl) (Eq.mpr (by kernel_rfl : enterW Tryz.prog Tryz.f214 an214 [t0, t1] w R = vc214 R w t0 t1) h)
def an215 : Ann := (.seq (oD 2) (.seq (oD 5) .leaf))
def vc215 (R : Value → World → Prop) (w : World) (t0 t1 : Value) : Prop :=
 V (bx 54 t0) w fun t2 w =>
 V (ld 144 t1) w fun t4 w =>
 V (ld 54 t2) w fun t5 w =>
 CV t4 #[t5] w fun t6 w =>
 V (un .not t6) w fun t7 w =>
 R t7 w
theorem en215 (h : vc215 R w t0 t1) : Calls Tryz.prog 215 #[t0, t1] w (retK R) := calls_of_enter mixed Tryz.func215 (by kernel_rfl) (Eq.mpr (by kernel_rfl : enterW Tryz.prog Tryz.f215 an215 [t0, t1] w R = vc215 R w t0 t1) h)
def an216 : Ann := (.seq (oD 2) (.seq (oD 5) .leaf))
def vc216 (R : Value → World → Prop) (w : World) (t0 t1 : Value) : Prop :=
 V (bx 280 t1) w fun t3 w =>
 CV (.func (.func 250) #[] #[]) #[t0, (.func (.func 251) #[] #[t3])] w fun t7 w =>
 V (un .not t7) w fun t8 w =>
 R t8 w
theorem en216 (h : vc216 R w t0 t1) : Calls Tryz.prog 216 #[t0, t1] w (retK R) := calls_of_enter mixed Tryz.func216 (by kernel_rfl) (Eq.mpr (by kernel_rfl : enterW Tryz.prog Tryz.f216 an216 [t0, t1] w R = vc216 R w t0 t1) h)
def an217 : Ann := (.seq (oD 1) (.seq (oD 4) .leaf))
def vc217 (R : Value → World → Prop) (w : World) (t0 : Value) : Prop :=
 V (cv 5 3 t0) w fun t4 w =>
 CV (.func (.func 75) #[] #[]) #[t4, (.int .i64 32), (.int .i64 126)] w fun t5 w =>
 R t5 w
theorem en217 (h : vc217 R w t0) : Calls Tryz.prog 217 #[t0] w (retK R) := calls_of_enter mixed Tryz.func217 (by kernel_rfl) (Eq.mpr (by kernel_rfl : enterW Tryz.prog Tryz.f217 an217 [t0] w R = vc217 R w t0) h)
def an218 : Ann := (.seq (oD 1) (.seq (oD 5) .leaf))
def vc218 (R : Value → World → Prop) (w : World) (t0 t1 : Value) : Prop :=
 CV (.func (.func 252) #[] #[]) #[t0, t1] w fun t7 w =>
 V (bi .geq 3 t7 (.int .i64 0)) w fun t8 w =>
 R t8 w
theorem en218 (h : vc218 R w t0 t1) : Calls Tryz.prog 218 #[t0, t1] w (retK R) := calls_of_enter mixed Tryz.func218 (by kernel_rfl) (Eq.mpr (by kernel_rfl : enterW Tryz.prog Tryz.f218 an218 [t0, t1] w R = vc218 R w t0 t1) h)
def an219 : Ann := (.seq (oD 2) (.seq (oD 5) .leaf))
def vc219 (R : Value → World → Prop) (w : World) (t0 t1 : Value) : Prop :=
 V (bx 98 t0) w fun t2 w =>
 V (ld 230 t1) w fun t4 w =>
 V (ld 98 t2) w fun t5 w =>
 CV t4 #[t5] w fun t6 w =>
 V (un .not t6) w fun t7 w =>
 R t7 w
theorem en219 (h : vc219 R w t0 t1) : Calls Tryz.prog 219 #[t0, t1] w (retK R) := calls_of_enter mixed Tryz.func219 (by kernel_rfl) (Eq.mpr (by kernel_rfl : enterW Tryz.prog Tryz.f219 an219 [t0, t1] w R = vc219 R w t0 t1) h)
def an220 : Ann := (.seq (oD 1) (.seq (.reg (opn 4 (.join [10] [7, 8, 9, 10] (.split 6 (opn 4 .done) (opn 4 .done)) (opn 1 (.join [15] [12, 13, 14, 15] (.split 11 (opn 4 .done) (opn 4 .done)) (opn 1 .done)))))) .leaf))
def vc220 (R : Value → World → Prop) (w : World) (t0 : Value) : Prop :=
 V (cv 5 3 t0) w fun t4 w =>
 CV (.func (.func 75) #[] #[]) #[t4, (.int .i64 65), (.int .i64 90)] w fun t5 w =>
 ∀ K0 : List Value → World → Prop, (∀ t10, ∀ w, (∀ g : Env,
 ∀ K0 : List Value → World → Prop, (∀ t15, ∀ w, (∀ g : Env,
 R t15 w) → K0 [t15] w) →
 CondW t10
 (K0 [(.bool true)] w)
 (CV (.func (.func 221) #[] #[]) #[(.string ⟨#[46, 95, 33, 63]⟩), t0] w fun t13 w =>
 V (bi .geq 3 t13 (.int .i64 0)) w fun t14 w =>
 K0 [t14] w)) → K0 [t10] w) →
 CondW t5
 (K0 [(.bool true)] w)
 (V (cv 5 3 t0) w fun t8 w =>
 CV (.func (.func 75) #[] #[]) #[t8, (.int .i64 48), (.int .i64 57)] w fun t9 w =>
 K0 [t9] w)
theorem en220 (h : vc220 R w t0) : Calls Tryz.prog 220 #[t0] w (retK R) := calls_of_enter mixed Tryz.func220 (by kernel_rfl) (Eq.mpr (by kernel_rfl : enterW Tryz.prog Tryz.f220 an220 [t0] w R = vc220 R w t0) h)
def an221 : Ann := (.seq (oD 1) (.seq (oD 4) .leaf))
def vc221 (R : Value → World → Prop) (w : World) (t0 t1 : Value) : Prop :=
 CV (.func (.func 253) #[] #[]) #[t0, t1] w fun t7 w =>
 R t7 w
theorem en221 (h : vc221 R w t0 t1) : Calls Tryz.prog 221 #[t0, t1] w (retK R) := calls_of_enter mixed Tryz.func221 (by kernel_rfl) (Eq.mpr (by kernel_rfl : enterW Tryz.prog Tryz.f221 an221 [t0, t1] w R = vc221 R w t0 t1) h)
def an222 : Ann := (.seq (oD 1) (.seq (oD 9) (.seq (.seq (.reg (opn 3 (.join [19] [16, 17, 18, 19] (.split 15 (opn 4 .done) (opn 4 .done)) (opn 1 (.join [29] (rgN 21 9) (.split 20 (opn 9 .done) (opn 4 (.join [28] [25, 26, 27, 28] (.split 24 (opn 4 .done) (opn 4 .done)) (opn 1 .done)))) .done))))) (.cond (.seq (oD 1) .leaf) .leaf)) (.seq (oD 1) (.seq (.reg (opn 4 (.join [38] [34, 35, 36, 37, 38] (.split 33 (opn 5 .done) (opn 5 .done)) (opn 1 (.join [44] [40, 41, 42, 43, 44] (.split 39 (opn 5 .done) (opn 5 .done)) (opn 1 .done)))))) .leaf)))))
def vc222 (R : Value → World → Prop) (w : World) (t0 : Value) : Prop :=
 CV (.func (.func 134) #[] #[]) #[t0, (.string ⟨#[69]⟩)] w fun t9 w =>
 V (ex t9 0) w fun t10 w =>
 V (ex t9 1) w fun t11 w =>
 V (ex t9 2) w fun t12 w =>
 V (un .not t12) w fun t14 w =>
 ∀ K0 : List Value → World → Prop, (∀ t19, ∀ w, (∀ g : Env,
 ∀ K0 : List Value → World → Prop, (∀ t29, ∀ w, (∀ g : Env,
 CondW t29
 (R (.bool false) w)
 (CV (.func (.func 223) #[] #[]) #[t10, (.string ⟨#[46]⟩)] w fun t31 w =>
 V (bi .lss 3 t31 (.int .i64 2)) w fun t32 w =>
 ∀ K0 : List Value → World → Prop, (∀ t38, ∀ w, (∀ g : Env,
 ∀ K0 : List Value → World → Prop, (∀ t44, ∀ w, (∀ g : Env,
 R t44 w) → K0 [t44] w) →
 CondW t38
 (V (sl 9 t11 (some (.int .i64 1)) none none) w fun t42 w =>
 CV (.func (.func 254) #[] #[]) #[t42] w fun t43 w =>
 K0 [t43] w)
 (K0 [(.bool false)] w)) → K0 [t38] w) →
 CondW t32
 (CV (.func (.func 236) #[] #[]) #[t10, (.string ⟨#[46]⟩), (.string ⟨#[]⟩), (.int .i64 1)] w fun t36 w =>
 CV (.func (.func 254) #[] #[]) #[t36] w fun t37 w =>
 K0 [t37] w)
 (K0 [(.bool false)] w))) → K0 [t29] w) →
 CondW t19
 (K0 [(.bool true)] w)
 (V (ix 9 t11 (.int .i64 0)) w fun t22 w =>
 V (eq .neq 5 (.tmp 22) (.const (.int .u8 43)) t22 (.int .u8 43)) w fun t23 w =>
 ∀ K1 : List Value → World → Prop, (∀ t28, ∀ w, (∀ g : Env,
 K0 [t28] w) → K1 [t28] w) →
 CondW t23
 (V (ix 9 t11 (.int .i64 0)) w fun t26 w =>
 V (eq .neq 5 (.tmp 26) (.const (.int .u8 45)) t26 (.int .u8 45)) w fun t27 w =>
 K1 [t27] w)
 (K1 [(.bool false)] w))) → K0 [t19] w) →
 CondW t14
 (K0 [(.bool true)] w)
 (V (Builtin.len_ #[9] 3 #[t11]) w fun t17 w =>
 V (bi .lss 3 t17 (.int .i64 2)) w fun t18 w =>
 K0 [t18] w)
theorem en222 (h : vc222 R w t0) : Calls Tryz.prog 222 #[t0] w (retK R) := calls_of_enter mixed Tryz.func222 (by kernel_rfl) (Eq.mpr (by kernel_rfl : enterW Tryz.prog Tryz.f222 an222 [t0] w R = vc222 R w t0) h)
def an223 : Ann := (.seq (oD 1) (.seq (.seq (oD 3) (.cond (.seq (oD 4) .leaf) .leaf)) (.seq (.seq (oD 3) (.cond (.seq (oD 5) .leaf) .leaf)) (.seq (oD 1) (.one (.loop [5, 0] ([20, 21, 22, 6, 23, 24, 25, 4, 26, 27, 5] ++ rgN 28 6 ++ [0]) (.one (.seq (oD 4) (.seq (.seq (oD 2) (.cond (.seq (oD 2) .leaf) .leaf)) (.seq (oD 3) (oD 7)))))))))))
def vc223 (R : Value → World → Prop) (w : World) (t0 t1 : Value) : Prop :=
 V (Builtin.len_ #[9] 3 #[t1]) w fun t8 w =>
 V (eq .eql 3 (.tmp 8) (.const (.int .i64 0)) t8 (.int .i64 0)) w fun t9 w =>
 CondW t9
 (CV (.func (.func 256) #[] #[]) #[t0] w fun t11 w =>
 V (bi .add 3 t11 (.int .i64 1)) w fun t12 w =>
 R t12 w)
 (V (Builtin.len_ #[9] 3 #[t1]) w fun t14 w =>
 V (eq .eql 3 (.tmp 14) (.const (.int .i64 1)) t14 (.int .i64 1)) w fun t15 w =>
 CondW t15
 (V (ix 9 t1 (.int .i64 0)) w fun t18 w =>
 CV (.func (.func 257) #[] #[]) #[t0, t18] w fun t19 w =>
 R t19 w)
 (∃ (I0 : List Value → World → Prop) (M0 : List Value → World → Nat), I0 [(.int .i64 0), t0] w ∧ ∀ g : Env, ∀ t5, ∀ t0a, ∀ w, I0 [t5, t0a] w → ∀ m0, m0 = M0 [t5, t0a] w →
 CV (.func (.func 258) #[] #[]) #[t0a, t1] w fun t22 w =>
 V (eq .eql 3 (.tmp 23) (.const (.int .i64 (-1))) t22 (.int .i64 (-1))) w fun t24 w =>
 CondW t24
 (R t5 w)
 (V (bi .add 3 t5 (.int .i64 1)) w fun t27 w =>
 V (Builtin.len_ #[9] 3 #[t1]) w fun t31 w =>
 V (bi .add 3 t22 t31) w fun t32 w =>
 V (sl 9 t0a (some t32) none none) w fun t33 w =>
 I0 [t27, t33] w ∧ M0 [t27, t33] w < m0)))
theorem en223 (h : vc223 R w t0 t1) : Calls Tryz.prog 223 #[t0, t1] w (retK R) := calls_of_enter mixed Tryz.func223 (by kernel_rfl) (Eq.mpr (by kernel_rfl : enterW Tryz.prog Tryz.f223 an223 [t0, t1] w R = vc223 R w t0 t1) h)
def an224 : Ann := (.seq (oD 1) (.seq (oD 4) .leaf))
def vc224 (R : Value → World → Prop) (w : World) (t0 t1 : Value) : Prop :=
 CV (.func (.func 259) #[] #[]) #[t0, t1] w fun t7 w =>
 R t7 w
theorem en224 (h : vc224 R w t0 t1) : Calls Tryz.prog 224 #[t0, t1] w (retK R) := calls_of_enter mixed Tryz.func224 (by kernel_rfl) (Eq.mpr (by kernel_rfl : enterW Tryz.prog Tryz.f224 an224 [t0, t1] w R = vc224 R w t0 t1) h)
def an225 : Ann := (.seq (oD 2) (.seq (oD 2) .leaf))
def vc225 (R : Value → World → Prop) (w : World) (t0 : Value) : Prop :=
 V (bx 3 t0) w fun t1 w =>
 R (.func (.func 226) #[] #[t1]) w
theorem en225 (h : vc225 R w t0) : Calls Tryz.prog 225 #[t0] w (retK R) := calls_of_enter mixed Tryz.func225 (by kernel_rfl) (Eq.mpr (by kernel_rfl : enterW Tryz.prog Tryz.f225 an225 [t0] w R = vc225 R w t0) h)
def an226 : Ann := (.seq (oD 1) (.seq (.draw (.take 0 (.hold 2 (.alts (.eff 1 (.take 3 (.take 4 .done)) .nil))))) .leaf))
def vc226 (R : Value → World → Prop) (w : World) (t0 t1 : Value) : Prop :=
 Dr w fun w =>
 HV (ld 3 t1) w fun t6 =>
 CV (.func (.func 156) #[] #[]) #[t0] w fun t5 w =>
 RunIs (ld 3 t1) w t6 ∧ (PV (eq .eql 3 (.tmp 5) (.tmp 6) t5 t6) fun t7 =>
 R t7 w)
theorem en226 (h : vc226 R w t0 t1) : Calls Tryz.prog 226 #[t0, t1] w (retK R) := calls_of_enter mixed Tryz.func226 (by kernel_rfl) (Eq.mpr (by kernel_rfl : enterW Tryz.prog Tryz.f226 an226 [t0, t1] w R = vc226 R w t0 t1) h)
def an227 : Ann := (.seq (oD 1) (.seq (oD 1) .leaf))
def vc227 (R : Value → World → Prop) (w : World) (t0 : Value) : Prop :=
 R (.bool true) w
theorem en227 (h : vc227 R w t0) : Calls Tryz.prog 227 #[t0] w (retK R) := calls_of_enter mixed Tryz.func227 (by kernel_rfl) (Eq.mpr (by kernel_rfl : enterW Tryz.prog Tryz.f227 an227 [t0] w R = vc227 R w t0) h)
def an228 : Ann := (.seq (oD 2) (.seq (.reg (opn 7 (.join [21] (rgN 14 8) (.split 13 (opn 8 .done) (opn 8 .done)) (opn 1 .done)))) .leaf))
def vc228 (R : Value → World → Prop) (w : World) (t0 t1 t2 : Value) : Prop :=
 V (bx 28 t0) w fun t3 w =>
 V (fa 28 t3 0) w fun t8 w =>
 V (ld 22 t8) w fun t9 w =>
 V (Builtin.len_ #[22] 3 #[t9]) w fun t10 w =>
 V (bi .sub 3 t10 (.int .i64 1)) w fun t11 w =>
 CV (.func (.func 75) #[] #[]) #[t1, (.int .i64 0), t11] w fun t12 w =>
 ∀ K0 : List Value → World → Prop, (∀ t21, ∀ w, (∀ g : Env,
 R t21 w) → K0 [t21] w) →
 CondW t12
 (V (fa 28 t3 0) w fun t15 w =>
 V (ld 22 t15) w fun t16 w =>
 V (ia 22 t16 t1) w fun t18 w =>
 V (ld 9 t18) w fun t19 w =>
 CV t2 #[t19] w fun t20 w =>
 K0 [t20] w)
 (K0 [(.bool false)] w)
theorem en228 (h : vc228 R w t0 t1 t2) : Calls Tryz.prog 228 #[t0, t1, t2] w (retK R) := calls_of_enter mixed Tryz.func228 (by kernel_rfl) (Eq.mpr (by kernel_rfl : enterW Tryz.prog Tryz.f228 an228 [t0, t1, t2] w R = vc228 R w t0 t1 t2) h)
def an229 : Ann := (.seq (oD 1) (.seq (.reg (opn 4 (.join [11] [8, 9, 10, 11] (.split 7 (opn 4 .done) (opn 4 .done)) (opn 1 .done)))) .leaf))
def vc229 (R : Value → World → Prop) (w : World) (t0 t1 : Value) : Prop :=
 V (fa 38 t1 3) w fun t4 w =>
 V (ld 3 t4) w fun t5 w =>
 V (eq .eql 3 (.tmp 5) (.const (.int .i64 1)) t5 (.int .i64 1)) w fun t6 w =>
 ∀ K0 : List Value → World → Prop, (∀ t11, ∀ w, (∀ g : Env,
 R t11 w) → K0 [t11] w) →
 CondW t6
 (K0 [(.bool true)] w)
 (CV (.func (.func 156) #[] #[]) #[t0] w fun t9 w =>
 V (eq .neq 3 (.tmp 9) (.const (.int .i64 0)) t9 (.int .i64 0)) w fun t10 w =>
 K0 [t10] w)
theorem en229 (h : vc229 R w t0 t1) : Calls Tryz.prog 229 #[t0, t1] w (retK R) := calls_of_enter mixed Tryz.func229 (by kernel_rfl) (Eq.mpr (by kernel_rfl : enterW Tryz.prog Tryz.f229 an229 [t0, t1] w R = vc229 R w t0 t1) h)
def an230 : Ann := (.seq (oD 1) (.seq (.reg (opn 3 (.join [8] [6, 7, 8] (.split 5 (opn 3 .done) (opn 3 .done)) (opn 1 .done)))) .leaf))
def vc230 (R : Value → World → Prop) (w : World) (t0 : Value) : Prop :=
 V (bi .geq 5 t0 (.int .u8 32)) w fun t4 w =>
 ∀ K0 : List Value → World → Prop, (∀ t8, ∀ w, (∀ g : Env,
 R t8 w) → K0 [t8] w) →
 CondW t4
 (V (bi .leq 5 t0 (.int .u8 126)) w fun t7 w =>
 K0 [t7] w)
 (K0 [(.bool false)] w)
theorem en230 (h : vc230 R w t0) : Calls Tryz.prog 230 #[t0] w (retK R) := calls_of_enter mixed Tryz.func230 (by kernel_rfl) (Eq.mpr (by kernel_rfl : enterW Tryz.prog Tryz.f230 an230 [t0] w R = vc230 R w t0) h)
def an231 : Ann := (.seq (oD 1) (.seq (oD 1) (.seq (oD 1) (.seq (oD 1) (.seq (.one (.loop [4, 5, 3] (rgN 7 28 ++ [4, 35, 36, 5, 37, 38, 3]) (.seq (.seq (.reg (opn 5 (.join [28] (rgN 12 17) (.split 11 (opn 5 (.join [27] (rgN 17 11) (.split 16 (opn 11 .done) (opn 5 (.join [26] [22, 23, 24, 25, 26] (.split 21 (opn 5 .done) (opn 5 .done)) (opn 1 .done)))) (opn 1 .done))) (opn 17 .done)) .done))) (.cond .leaf .leaf)) (.one (.seqJ [4, 5] (rgN 29 6 ++ [4, 35, 36, 5]) (.seq (oD 4) (.cond (oD 3) (oD 3))) (oD 3)))))) (.seq (.seq (.reg (opn 3 (.join [44] [42, 43, 44] (.split 41 (opn 3 .done) (opn 3 .done)) (opn 1 (.join [51] (rgN 46 6) (.split 45 (opn 6 .done) (opn 6 .done)) (opn 1 (.join [57] [53, 54, 55, 56, 57] (.split 52 (opn 5 .done) (opn 5 .done)) (opn 1 (.join [71] (rgN 59 13) (.split 58 (opn 13 .done) (opn 6 (.join [70] (rgN 65 6) (.split 64 (opn 6 .done) (opn 6 .done)) (opn 1 .done)))) .done))))))))) (.cond (.seq (oD 1) .leaf) .leaf)) (.seq (.seq (oD 3) (.one (.loop [6] ([74, 75, 76, 77] ++ rgN 80 10 ++ [2, 78, 79, 6]) (.seq (.seq (oD 4) (.cond .leaf .leaf)) (.seq (.one (.seq (.reg (opn 5 (.join [89] [85, 86, 87, 88, 89] (.split 84 (opn 5 .done) (opn 5 .done)) .done))) (.cond (.seq (oD 1) .leaf) .leaf))) (oD 3)))))) (.seq (oD 1) .leaf))))))))
def vc231 (R : Value → World → Prop) (w : World) (t0 : Value) : Prop :=
 ∃ (I0 : List Value → World → Prop) (M0 : List Value → World → Nat), I0 [(.int .i64 0), (.int .i64 0), (.int .i64 0)] w ∧ ∀ g : Env, ∀ t4, ∀ t5, ∀ t3, ∀ w, I0 [t4, t5, t3] w → ∀ m0, m0 = M0 [t4, t5, t3] w →
 V (Builtin.len_ #[9] 3 #[t0]) w fun t9 w =>
 V (bi .lss 3 t3 t9) w fun t10 w =>
 ∀ K0 : List Value → World → Prop, (∀ t28, ∀ w, (∀ g : Env,
 CondW t28
 (∀ K0 : List Value → World → Prop, (∀ t4a, ∀ t5a, ∀ w, (∀ g : Env,
 V (bi .add 3 t3 (.int .i64 1)) w fun t38 w =>
 I0 [t4a, t5a, t38] w ∧ M0 [t4a, t5a, t38] w < m0) → K0 [t4a, t5a] w) →
 V (ix 9 t0 t3) w fun t31 w =>
 V (eq .eql 5 (.tmp 31) (.const (.int .u8 46)) t31 (.int .u8 46)) w fun t32 w =>
 CondW t32
 (V (bi .add 3 t4 (.int .i64 1)) w fun t34 w =>
 K0 [t34, t5] w)
 (V (bi .add 3 t5 (.int .i64 1)) w fun t36 w =>
 K0 [t4, t36] w))
 (V (bi .gtr 3 t4 (.int .i64 1)) w fun t40 w =>
 ∀ K0 : List Value → World → Prop, (∀ t44, ∀ w, (∀ g : Env,
 ∀ K0 : List Value → World → Prop, (∀ t51, ∀ w, (∀ g : Env,
 ∀ K0 : List Value → World → Prop, (∀ t57, ∀ w, (∀ g : Env,
 ∀ K0 : List Value → World → Prop, (∀ t71, ∀ w, (∀ g : Env,
 CondW t71
 (R (.bool false) w)
 (V (bi .add 3 t3 (.int .i64 2)) w fun t73 w =>
 ∃ (I1 : List Value → World → Prop) (M1 : List Value → World → Nat), I1 [t73] w ∧ ∀ g : Env, ∀ t6, ∀ w, I1 [t6] w → ∀ m1, m1 = M1 [t6] w →
 V (Builtin.len_ #[9] 3 #[t0]) w fun t76 w =>
 V (bi .lss 3 t6 t76) w fun t77 w =>
 CondW t77
 (V (ix 9 t0 t6) w fun t82 w =>
 V (bi .lss 5 t82 (.int .u8 48)) w fun t83 w =>
 ∀ K0 : List Value → World → Prop, (∀ t89, ∀ w, (∀ g : Env,
 CondW t89
 (R (.bool false) w)
 (V (bi .add 3 t6 (.int .i64 1)) w fun t79 w =>
 I1 [t79] w ∧ M1 [t79] w < m1)) → K0 [t89] w) →
 CondW t83
 (K0 [(.bool true)] w)
 (V (ix 9 t0 t6) w fun t87 w =>
 V (bi .gtr 5 t87 (.int .u8 57)) w fun t88 w =>
 K0 [t88] w))
 (R (.bool true) w))) → K0 [t71] w) →
 CondW t57
 (K0 [(.bool true)] w)
 (V (bi .add 3 t3 (.int .i64 1)) w fun t61 w =>
 V (ix 9 t0 t61) w fun t62 w =>
 V (eq .neq 5 (.tmp 62) (.const (.int .u8 43)) t62 (.int .u8 43)) w fun t63 w =>
 ∀ K1 : List Value → World → Prop, (∀ t70, ∀ w, (∀ g : Env,
 K0 [t70] w) → K1 [t70] w) →
 CondW t63
 (V (bi .add 3 t3 (.int .i64 1)) w fun t67 w =>
 V (ix 9 t0 t67) w fun t68 w =>
 V (eq .neq 5 (.tmp 68) (.const (.int .u8 45)) t68 (.int .u8 45)) w fun t69 w =>
 K1 [t69] w)
 (K1 [(.bool false)] w))) → K0 [t57] w) →
 CondW t51
 (K0 [(.bool true)] w)
 (V (ix 9 t0 t3) w fun t55 w =>
 V (eq .neq 5 (.tmp 55) (.const (.int .u8 69)) t55 (.int .u8 69)) w fun t56 w =>
 K0 [t56] w)) → K0 [t51] w) →
 CondW t44
 (K0 [(.bool true)] w)
 (V (bi .add 3 t3 (.int .i64 2)) w fun t47 w =>
 V (Builtin.len_ #[9] 3 #[t0]) w fun t49 w =>
 V (bi .geq 3 t47 t49) w fun t50 w =>
 K0 [t50] w)) → K0 [t44] w) →
 CondW t40
 (K0 [(.bool true)] w)
 (V (eq .eql 3 (.tmp 42) (.const (.int .i64 0)) t5 (.int .i64 0)) w fun t43 w =>
 K0 [t43] w))) → K0 [t28] w) →
 CondW t10
 (V (ix 9 t0 t3) w fun t14 w =>
 V (eq .eql 5 (.tmp 14) (.const (.int .u8 46)) t14 (.int .u8 46)) w fun t15 w =>
 ∀ K1 : List Value → World → Prop, (∀ t27, ∀ w, (∀ g : Env,
 K0 [t27] w) → K1 [t27] w) →
 CondW t15
 (K1 [(.bool true)] w)
 (V (ix 9 t0 t3) w fun t19 w =>
 V (bi .geq 5 t19 (.int .u8 48)) w fun t20 w =>
 ∀ K2 : List Value → World → Prop, (∀ t26, ∀ w, (∀ g : Env,
 K1 [t26] w) → K2 [t26] w) →
 CondW t20
 (V (ix 9 t0 t3) w fun t24 w =>
 V (bi .leq 5 t24 (.int .u8 57)) w fun t25 w =>
 K2 [t25] w)
 (K2 [(.bool false)] w)))
 (K0 [(.bool false)] w)
theorem en231 (h : vc231 R w t0) : Calls Tryz.prog 231 #[t0] w (retK R) := calls_of_enter mixed Tryz.func231 (by kernel_rfl) (Eq.mpr (by kernel_rfl : enterW Tryz.prog Tryz.f231 an231 [t0] w R = vc231 R w t0) h)
def an232 : Ann := (.seq (oD 1) (.seq (oD 5) .leaf))
def vc232 (R : Value → World → Prop) (w : World) (t0 t1 : Value) : Prop :=
 CV (.func (.func 260) #[] #[]) #[t0, t1] w fun t7 w =>
 V (bi .geq 3 t7 (.int .i64 0)) w fun t8 w =>
 R t8 w
theorem en232 (h : vc232 R w t0 t1) : Calls Tryz.prog 232 #[t0, t1] w (retK R) := calls_of_enter mixed Tryz.func232 (by kernel_rfl) (Eq.mpr (by kernel_rfl : enterW Tryz.prog Tryz.f232 an232 [t0, t1] w R = vc232 R w t0 t1) h)
def an233 : Ann := (.seq (oD 1) (.seq (oD 5) .leaf))
def vc233 (R : Value → World → Prop) (w : World) (t0 t1 : Value) : Prop :=
 V (ld 249 t1) w fun t4 w =>
 CV t4 #[t0] w fun t6 w =>
 V (un .not t6) w fun t7 w =>
 R t7 w
theorem en233 (h : vc233 R w t0 t1) : Calls Tryz.prog 233 #[t0, t1] w (retK R) := calls_of_enter mixed Tryz.func233 (by kernel_rfl) (Eq.mpr (by kernel_rfl : enterW Tryz.prog Tryz.f233 an233 [t0, t1] w R = vc233 R w t0 t1) h)
def an235 : Ann := (.seq (oD 2) (.seqJ [] [6, 7, 8] (.seq (oD 2) (.cond (oD 2) .leaf)) (.seq (.draw (tkN 0 3 (.hold 3 (tkN 4 4 (.hold 8 (tkN 9 4 .done)))))) (.cond (oD 3) .leaf))))
def vc235 (R : Value → World → Prop) (w : World) (t0 t1 : Value) : Prop :=
 CV (.func (.func 184) #[] #[]) #[t0] w fun t5 w =>
 ∀ K0 : List Value → World → Prop, (∀ w, (∀ g : Env,
 Dr w fun w =>
 NilW t0 fun t10 => PV (fa 199 t10 1) fun t11 =>
 HV (ld 55 t11) w fun t12 =>
 PV (Builtin.cap_ #[55] 3 #[t12]) fun t13 =>
 NilW t0 fun t15 => PV (fa 199 t15 1) fun t16 =>
 HV (ld 55 t16) w fun t17 =>
 PV (Builtin.len_ #[55] 3 #[t17]) fun t18 =>
 PV (bi .sub 3 t13 t18) fun t19 =>
 PV (bi .lss 3 t19 t1) fun t21 =>
 CondW t21
 (CV (.func (.func 261) #[] #[]) #[t0, t1] w fun t24 w =>
 R (.tuple #[]) w)
 (R (.tuple #[]) w)) → K0 [] w) →
 V (bi .lss 3 t1 (.int .i64 0)) w fun t7 w =>
 CondW t7
 (V (mi 9 (.string ⟨#[115, 116, 114, 105, 110, 103, 115, 46, 66, 117, 105, 108, 100, 101, 114, 46, 71, 114, 111, 119, 58, 32, 110, 101, 103, 97, 116, 105, 118, 101, 32, 99, 111, 117, 110, 116]⟩)) w fun t8 w =>
 False)
 (K0 [] w)
theorem en235 (h : vc235 R w t0 t1) : Calls Tryz.prog 235 #[t0, t1] w (retK R) := calls_of_enter mixed Tryz.func235 (by kernel_rfl) (Eq.mpr (by kernel_rfl : enterW Tryz.prog Tryz.f235 an235 [t0, t1] w R = vc235 R w t0 t1) h)
def an236 : Ann := (.seq (oD 1) (.seq (.seq (.reg (opn 4 (.join [22] [20, 21, 22] (.split 19 (opn 3 .done) (opn 3 .done)) .done))) (.cond (.seq (oD 2) .leaf) .leaf)) (.seqJ [3] ([24, 25, 26, 9, 27, 28, 29, 8] ++ rgN 30 8 ++ [3]) (.seq (oD 4) (.seq (oD 2) (.cond (.seq (oD 2) .leaf) (.seq (.reg (opn 3 (.join [36] [33, 34, 35, 36] (.split 32 (opn 4 .done) (opn 4 .done)) .done))) (.cond (oD 2) .leaf))))) (.seq (oD 1) (.seq (oD 11) (.seq (oD 1) (.seqJ [11] (rgN 49 13 ++ [12] ++ rgN 62 11 ++ [11] ++ rgN 73 7 ++ [81, 82, 83, 84, 80, 85, 86, 13, 14, 87, 88, 89, 15] ++ rgN 90 9) (.seq (oD 3) (.cond (.seq (oD 2) (.one (.loop [11, 53] (rgN 54 8 ++ [12] ++ rgN 62 11 ++ [11, 73, 53]) (.seq (oD 1) (.seq (.cond .leaf .leaf) (.seq (.one (.seq (oD 8) (.seq (oD 5) (.seq (oD 2) (oD 5))))) (oD 2))))))) (.seq (oD 2) (.seq (oD 3) (.one (.loop [11, 78] ([79, 81, 82, 83, 84, 80, 85, 86, 13, 14, 87, 88, 89, 15] ++ rgN 90 8 ++ [11, 98, 78]) (.seq (oD 1) (.seq (.cond .leaf .leaf) (.seq (.one (.seq (oD 9) (.seq (oD 4) (.seq (oD 5) (.seq (oD 2) (oD 2)))))) (oD 2)))))))))) (.seq (oD 4) (.seq (oD 2) .leaf)))))))))
def vc236 (R : Value → World → Prop) (w : World) (t0 t1 t2 t3 : Value) : Prop :=
 V (eq .eql 9 (.tmp 16) (.tmp 17) t1 t2) w fun t18 w =>
 ∀ K0 : List Value → World → Prop, (∀ t22, ∀ w, (∀ g : Env,
 CondW t22
 (R t0 w)
 (∀ K0 : List Value → World → Prop, (∀ t3a, ∀ w, (∀ g : Env,
 V (al 199) w fun t10 w =>
 V (Builtin.len_ #[9] 3 #[t0]) w fun t39 w =>
 V (Builtin.len_ #[9] 3 #[t2]) w fun t42 w =>
 V (Builtin.len_ #[9] 3 #[t1]) w fun t44 w =>
 V (bi .sub 3 t42 t44) w fun t45 w =>
 V (bi .mul 3 t3a t45) w fun t46 w =>
 V (bi .add 3 t39 t46) w fun t47 w =>
 CV (.func (.func 235) #[] #[]) #[t10, t47] w fun t48 w =>
 ∀ K0 : List Value → World → Prop, (∀ t11, ∀ w, (∀ g : Env,
 V (sl 9 t0 (some t11) none none) w fun t101 w =>
 CV (.func (.func 125) #[] #[]) #[t10, t101] w fun t102 w =>
 CV (.func (.func 132) #[] #[]) #[t10] w fun t103 w =>
 R t103 w) → K0 [t11] w) →
 V (Builtin.len_ #[9] 3 #[t1]) w fun t50 w =>
 V (bi .gtr 3 t50 (.int .i64 0)) w fun t51 w =>
 CondW t51
 (∃ (I0 : List Value → World → Prop) (M0 : List Value → World → Nat), I0 [(.int .i64 0), (.int .i64 0)] w ∧ ∀ g : Env, ∀ t11, ∀ t53, ∀ w, I0 [t11, t53] w → ∀ m0, m0 = M0 [t11, t53] w →
 V (bi .lss 3 t53 t3a) w fun t54 w =>
 CondW t54
 (V (sl 9 t0 (some t11) none none) w fun t58 w =>
 CV (.func (.func 258) #[] #[]) #[t58, t1] w fun t60 w =>
 V (bi .add 3 t11 t60) w fun t61 w =>
 V (sl 9 t0 (some t11) (some t61) none) w fun t65 w =>
 CV (.func (.func 125) #[] #[]) #[t10, t65] w fun t66 w =>
 CV (.func (.func 125) #[] #[]) #[t10, t2] w fun t68 w =>
 V (Builtin.len_ #[9] 3 #[t1]) w fun t71 w =>
 V (bi .add 3 t61 t71) w fun t72 w =>
 V (bi .add 3 t53 (.int .i64 1)) w fun t73 w =>
 I0 [t72, t73] w ∧ M0 [t72, t73] w < m0)
 (K0 [t11] w))
 (CV (.func (.func 125) #[] #[]) #[t10, t2] w fun t75 w =>
 V (bi .sub 3 t3a (.int .i64 1)) w fun t77 w =>
 ∃ (I0 : List Value → World → Prop) (M0 : List Value → World → Nat), I0 [(.int .i64 0), (.int .i64 0)] w ∧ ∀ g : Env, ∀ t11, ∀ t78, ∀ w, I0 [t11, t78] w → ∀ m0, m0 = M0 [t11, t78] w →
 V (bi .lss 3 t78 t77) w fun t79 w =>
 CondW t79
 (V (sl 9 t0 (some t11) none none) w fun t83 w =>
 CV (.func (.func 262) #[] #[]) #[t83] w fun t84 w =>
 V (ex t84 0) w fun t85 w =>
 V (ex t84 1) w fun t86 w =>
 V (bi .add 3 t11 t86) w fun t89 w =>
 V (sl 9 t0 (some t11) (some t89) none) w fun t93 w =>
 CV (.func (.func 125) #[] #[]) #[t10, t93] w fun t94 w =>
 CV (.func (.func 125) #[] #[]) #[t10, t2] w fun t96 w =>
 V (bi .add 3 t78 (.int .i64 1)) w fun t98 w =>
 I0 [t89, t98] w ∧ M0 [t89, t98] w < m0)
 (K0 [t11] w))) → K0 [t3a] w) →
 CV (.func (.func 223) #[] #[]) #[t0, t1] w fun t26 w =>
 V (eq .eql 3 (.tmp 27) (.const (.int .i64 0)) t26 (.int .i64 0)) w fun t28 w =>
 CondW t28
 (R t0 w)
 (V (bi .lss 3 t3 (.int .i64 0)) w fun t31 w =>
 ∀ K1 : List Value → World → Prop, (∀ t36, ∀ w, (∀ g : Env,
 CondW t36
 (K0 [t26] w)
 (K0 [t3] w)) → K1 [t36] w) →
 CondW t31
 (K1 [(.bool true)] w)
 (V (bi .lss 3 t26 t3) w fun t35 w =>
 K1 [t35] w)))) → K0 [t22] w) →
 CondW t18
 (K0 [(.bool true)] w)
 (V (eq .eql 3 (.tmp 20) (.const (.int .i64 0)) t3 (.int .i64 0)) w fun t21 w =>
 K0 [t21] w)
theorem en236 (h : vc236 R w t0 t1 t2 t3) : Calls Tryz.prog 236 #[t0, t1, t2, t3] w (retK R) := calls_of_enter mixed Tryz.func236 (by kernel_rfl) (Eq.mpr (by kernel_rfl : enterW Tryz.prog Tryz.f236 an236 [t0, t1, t2, t3] w R = vc236 R w t0 t1 t2 t3) h)
def an238 : Ann := (.seq (oD 1) (.seq (oD 3) (.seq (.one (.seq (.reg (opn 3 (.join [23] [20, 21, 22, 23] (.split 19 (opn 4 .done) (opn 4 .done)) (opn 1 .done)))) (.cond (.seq (oD 1) .leaf) (.seq (oD 3) (.cond (.seq (oD 5) .leaf) (.seq (oD 5) (.cond (.seq (oD 1) .leaf) (.seq (.reg (opn 4 (.join [44] [41, 42, 43, 44] (.split 40 (opn 4 .done) (opn 4 .done)) (opn 1 .done)))) (.cond (.seq (oD 4) .leaf) .leaf))))))))) (.seq (oD 3) (.seq (oD 3) (.seq (oD 1) (.seq (oD 6) (.seq (oD 1) (.seq (.one (.loop [8, 10] (rgN 57 15 ++ [11, 72, 73, 4, 74, 75, 76, 77, 8] ++ rgN 78 21 ++ [10] ++ rgN 99 14 ++ [12] ++ rgN 113 25 ++ [13, 138, 139, 140, 141, 142]) (.seq (.seq (oD 3) (.cond .leaf .leaf)) (.one (.seqJ [8] (rgN 60 12 ++ [11, 72, 73, 4, 74, 75, 76, 77, 8]) (.seq (oD 5) (.cond (.seq (oD 8) (.seq (.seq (oD 2) (.cond (.seq (oD 1) .leaf) .leaf)) (oD 5))) .leaf)) (.seq (.seq (.reg (opn 7 (.join [93] (rgN 85 9) (.split 84 (opn 9 .done) (opn 9 .done)) .done))) (.cond (.seq (oD 2) .leaf) .leaf)) (.seq (oD 3) (.seq (oD 3) (.seq (.reg (opn 4 (.join [107] [103, 104, 105, 106, 107] (.split 102 (opn 5 .done) (opn 5 .done)) .done))) (.cond (.seq (oD 6) (.seq (.seq (oD 2) (.cond (.seq (oD 4) .leaf) .leaf)) (.seq (oD 1) .leaf))) (.seq (.reg (opn 4 (.join [127] (rgN 122 6) (.split 121 (opn 6 .done) (opn 6 .done)) (opn 1 (.join [132] [129, 130, 131, 132] (.split 128 (opn 4 .done) (opn 4 .done)) .done))))) (.cond (.seq (oD 6) (.seq (.seq (oD 2) (.cond (.seq (oD 1) .leaf) .leaf)) (.seq (oD 4) .leaf))) .leaf)))))))))))) (.seq (oD 1) .leaf))))))))))
def vc238 (R : Value → World → Prop) (w : World) (t0 t1 : Value) : Prop :=
 V (Builtin.len_ #[9] 3 #[t1]) w fun t15 w =>
 V (eq .eql 3 (.tmp 17) (.const (.int .i64 0)) t15 (.int .i64 0)) w fun t18 w =>
 ∀ K0 : List Value → World → Prop, (∀ t23, ∀ w, (∀ g : Env,
 CondW t23
 (R (.int .i64 0) w)
 (V (eq .eql 3 (.tmp 25) (.const (.int .i64 1)) t15 (.int .i64 1)) w fun t26 w =>
 CondW t26
 (V (ix 9 t1 (.int .i64 0)) w fun t29 w =>
 CV (.func (.func 253) #[] #[]) #[t0, t29] w fun t30 w =>
 R t30 w)
 (V (Builtin.len_ #[9] 3 #[t0]) w fun t34 w =>
 V (bi .geq 3 t15 t34) w fun t35 w =>
 CondW t35
 (R (.int .i64 (-1)) w)
 (V (ld 3 (.pointer (some ⟨0, 0, none⟩))) w fun t38 w =>
 V (bi .leq 3 t15 t38) w fun t39 w =>
 ∀ K0 : List Value → World → Prop, (∀ t44, ∀ w, (∀ g : Env,
 CondW t44
 (CV (.func (.func 264) #[] #[]) #[t0, t1] w fun t47 w =>
 R t47 w)
 (V (ix 9 t1 (.int .i64 0)) w fun t49 w =>
 V (ix 9 t1 (.int .i64 1)) w fun t51 w =>
 V (Builtin.len_ #[9] 3 #[t0]) w fun t53 w =>
 V (bi .sub 3 t53 t15) w fun t55 w =>
 V (bi .add 3 t55 (.int .i64 1)) w fun t56 w =>
 ∃ (I0 : List Value → World → Prop) (M0 : List Value → World → Nat), I0 [(.int .i64 0), (.int .i64 0)] w ∧ ∀ g : Env, ∀ t8, ∀ t10, ∀ w, I0 [t8, t10] w → ∀ m0, m0 = M0 [t8, t10] w →
 V (bi .lss 3 t8 t56) w fun t59 w =>
 CondW t59
 (∀ K0 : List Value → World → Prop, (∀ t8a, ∀ w, (∀ g : Env,
 V (bi .add 3 t8a (.int .i64 1)) w fun t80 w =>
 V (ix 9 t0 t80) w fun t81 w =>
 V (eq .eql 5 (.tmp 81) (.tmp 82) t81 t51) w fun t83 w =>
 ∀ K0 : List Value → World → Prop, (∀ t93, ∀ w, (∀ g : Env,
 CondW t93
 (R t8a w)
 (V (bi .add 3 t8a (.int .i64 1)) w fun t96 w =>
 V (bi .add 3 t10 (.int .i64 1)) w fun t98 w =>
 V (ld 3 (.pointer (some ⟨0, 0, none⟩))) w fun t100 w =>
 V (bi .leq 3 t15 t100) w fun t101 w =>
 ∀ K0 : List Value → World → Prop, (∀ t107, ∀ w, (∀ g : Env,
 CondW t107
 (V (sl 9 t0 (some t96) none none) w fun t110 w =>
 CV (.func (.func 264) #[] #[]) #[t110, t1] w fun t112 w =>
 V (bi .geq 3 t112 (.int .i64 0)) w fun t114 w =>
 CondW t114
 (V (bi .add 3 t112 t96) w fun t117 w =>
 R t117 w)
 (R (.int .i64 (-1)) w))
 (V (ld 3 (.pointer (some ⟨0, 0, none⟩))) w fun t119 w =>
 V (bi .gtr 3 t15 t119) w fun t120 w =>
 ∀ K0 : List Value → World → Prop, (∀ t127, ∀ w, (∀ g : Env,
 ∀ K0 : List Value → World → Prop, (∀ t132, ∀ w, (∀ g : Env,
 CondW t132
 (V (sl 9 t0 (some t96) none none) w fun t135 w =>
 CV (.func (.func 266) #[] #[]) #[t135, t1] w fun t137 w =>
 V (bi .lss 3 t137 (.int .i64 0)) w fun t139 w =>
 CondW t139
 (R (.int .i64 (-1)) w)
 (V (bi .add 3 t96 t137) w fun t142 w =>
 R t142 w))
 (I0 [t96, t98] w ∧ M0 [t96, t98] w < m0)) → K0 [t132] w) →
 CondW t127
 (V (bi .lss 3 t96 t56) w fun t131 w =>
 K0 [t131] w)
 (K0 [(.bool false)] w)) → K0 [t127] w) →
 CondW t120
 (V (bi .shr 3 t96 (.int .u64 4)) w fun t124 w =>
 V (bi .add 3 (.int .i64 4) t124) w fun t125 w =>
 V (bi .geq 3 t98 t125) w fun t126 w =>
 K0 [t126] w)
 (K0 [(.bool false)] w))) → K0 [t107] w) →
 CondW t101
 (CV (.func (.func 265) #[] #[]) #[t96] w fun t105 w =>
 V (bi .gtr 3 t98 t105) w fun t106 w =>
 K0 [t106] w)
 (K0 [(.bool false)] w))) → K0 [t93] w) →
 CondW t83
 (V (bi .add 3 t8a t15) w fun t89 w =>
 V (sl 9 t0 (some t8a) (some t89) none) w fun t90 w =>
 V (eq .eql 9 (.tmp 90) (.tmp 91) t90 t1) w fun t92 w =>
 K0 [t92] w)
 (K0 [(.bool false)] w)) → K0 [t8a] w) →
 V (ix 9 t0 t8) w fun t62 w =>
 V (eq .neq 5 (.tmp 62) (.tmp 63) t62 t49) w fun t64 w =>
 CondW t64
 (V (bi .add 3 t8 (.int .i64 1)) w fun t67 w =>
 V (sl 9 t0 (some t67) (some t56) none) w fun t69 w =>
 CV (.func (.func 253) #[] #[]) #[t69, t49] w fun t71 w =>
 V (bi .lss 3 t71 (.int .i64 0)) w fun t73 w =>
 CondW t73
 (R (.int .i64 (-1)) w)
 (V (bi .add 3 t71 (.int .i64 1)) w fun t76 w =>
 V (bi .add 3 t8 t76) w fun t77 w =>
 K0 [t77] w))
 (K0 [t8] w))
 (R (.int .i64 (-1)) w))) → K0 [t44] w) →
 CondW t39
 (V (Builtin.len_ #[9] 3 #[t0]) w fun t42 w =>
 V (bi .leq 3 t42 (.int .i64 64)) w fun t43 w =>
 K0 [t43] w)
 (K0 [(.bool false)] w))))) → K0 [t23] w) →
 CondW t18
 (K0 [(.bool true)] w)
 (V (eq .eql 9 (.tmp 20) (.tmp 21) t1 t0) w fun t22 w =>
 K0 [t22] w)
theorem en238 (h : vc238 R w t0 t1) : Calls Tryz.prog 238 #[t0, t1] w (retK R) := calls_of_enter mixed Tryz.func238 (by kernel_rfl) (Eq.mpr (by kernel_rfl : enterW Tryz.prog Tryz.f238 an238 [t0, t1] w R = vc238 R w t0 t1) h)
def an246 : Ann := (.seq (oD 1) (.seq (.seq (oD 3) (.one (.loop [8] ([9, 10, 5] ++ rgN 11 7 ++ [4, 18, 8]) (.seq (oD 1) (.seq (.cond .leaf .leaf) (.seq (.one (.seq (oD 2) (.seq (oD 6) (.cond (.seq (oD 2) .leaf) .leaf)))) (oD 2))))))) (.seq (oD 1) .leaf)))
def vc246 (R : Value → World → Prop) (w : World) (t0 t1 : Value) : Prop :=
 V (Builtin.len_ #[23] 3 #[t0]) w fun t7 w =>
 ∃ (I0 : List Value → World → Prop) (M0 : List Value → World → Nat), I0 [(.int .i64 0)] w ∧ ∀ g : Env, ∀ t8, ∀ w, I0 [t8] w → ∀ m0, m0 = M0 [t8] w →
 V (bi .lss 3 t8 t7) w fun t9 w =>
 CondW t9
 (V (ia 23 t0 t8) w fun t14 w =>
 V (ld 93 t14) w fun t15 w =>
 CV t1 #[t15] w fun t16 w =>
 CondW t16
 (R t8 w)
 (V (bi .add 3 t8 (.int .i64 1)) w fun t18 w =>
 I0 [t18] w ∧ M0 [t18] w < m0))
 (R (.int .i64 (-1)) w)
theorem en246 (h : vc246 R w t0 t1) : Calls Tryz.prog 246 #[t0, t1] w (retK R) := calls_of_enter mixed Tryz.func246 (by kernel_rfl) (Eq.mpr (by kernel_rfl : enterW Tryz.prog Tryz.f246 an246 [t0, t1] w R = vc246 R w t0 t1) h)
def an247 : Ann := (.seq (oD 1) (.seq (.seq (oD 3) (.one (.loop [8] ([9, 10, 5] ++ rgN 11 7 ++ [4, 18, 8]) (.seq (oD 1) (.seq (.cond .leaf .leaf) (.seq (.one (.seq (oD 2) (.seq (oD 6) (.cond (.seq (oD 2) .leaf) .leaf)))) (oD 2))))))) (.seq (oD 1) .leaf)))
def vc247 (R : Value → World → Prop) (w : World) (t0 t1 : Value) : Prop :=
 V (Builtin.len_ #[93] 3 #[t0]) w fun t7 w =>
 ∃ (I0 : List Value → World → Prop) (M0 : List Value → World → Nat), I0 [(.int .i64 0)] w ∧ ∀ g : Env, ∀ t8, ∀ w, I0 [t8] w → ∀ m0, m0 = M0 [t8] w →
 V (bi .lss 3 t8 t7) w fun t9 w =>
 CondW t9
 (V (ia 93 t0 t8) w fun t14 w =>
 V (ld 95 t14) w fun t15 w =>
 CV t1 #[t15] w fun t16 w =>
 CondW t16
 (R t8 w)
 (V (bi .add 3 t8 (.int .i64 1)) w fun t18 w =>
 I0 [t18] w ∧ M0 [t18] w < m0))
 (R (.int .i64 (-1)) w)
theorem en247 (h : vc247 R w t0 t1) : Calls Tryz.prog 247 #[t0, t1] w (retK R) := calls_of_enter mixed Tryz.func247 (by kernel_rfl) (Eq.mpr (by kernel_rfl : enterW Tryz.prog Tryz.f247 an247 [t0, t1] w R = vc247 R w t0 t1) h)
def an248 : Ann := (.seq (oD 1) (.seq (.seq (oD 3) (.one (.loop [8] ([9, 10, 5] ++ rgN 11 7 ++ [4, 18, 8]) (.seq (oD 1) (.seq (.cond .leaf .leaf) (.seq (.one (.seq (oD 2) (.seq (oD 6) (.cond (.seq (oD 2) .leaf) .leaf)))) (oD 2))))))) (.seq (oD 1) .leaf)))
def vc248 (R : Value → World → Prop) (w : World) (t0 t1 : Value) : Prop :=
 V (Builtin.len_ #[22] 3 #[t0]) w fun t7 w =>
 ∃ (I0 : List Value → World → Prop) (M0 : List Value → World → Nat), I0 [(.int .i64 0)] w ∧ ∀ g : Env, ∀ t8, ∀ w, I0 [t8] w → ∀ m0, m0 = M0 [t8] w →
 V (bi .lss 3 t8 t7) w fun t9 w =>
 CondW t9
 (V (ia 22 t0 t8) w fun t14 w =>
 V (ld 9 t14) w fun t15 w =>
 CV t1 #[t15] w fun t16 w =>
 CondW t16
 (R t8 w)
 (V (bi .add 3 t8 (.int .i64 1)) w fun t18 w =>
 I0 [t18] w ∧ M0 [t18] w < m0))
 (R (.int .i64 (-1)) w)
theorem en248 (h : vc248 R w t0 t1) : Calls Tryz.prog 248 #[t0, t1] w (retK R) := calls_of_enter mixed Tryz.func248 (by kernel_rfl) (Eq.mpr (by kernel_rfl : enterW Tryz.prog Tryz.f248 an248 [t0, t1] w R = vc248 R w t0 t1) h)
def an249 : Ann := (.seq (oD 1) (.seq (.seq (oD 3) (.one (.loop [8] ([9, 10, 5] ++ rgN 11 7 ++ [4, 18, 8]) (.seq (oD 1) (.seq (.cond .leaf .leaf) (.seq (.one (.seq (oD 2) (.seq (oD 6) (.cond (.seq (oD 2) .leaf) .leaf)))) (oD 2))))))) (.seq (oD 1) .leaf)))
def vc249 (R : Value → World → Prop) (w : World) (t0 t1 : Value) : Prop :=
 V (Builtin.len_ #[24] 3 #[t0]) w fun t7 w =>
 ∃ (I0 : List Value → World → Prop) (M0 : List Value → World → Nat), I0 [(.int .i64 0)] w ∧ ∀ g : Env, ∀ t8, ∀ w, I0 [t8] w → ∀ m0, m0 = M0 [t8] w →
 V (bi .lss 3 t8 t7) w fun t9 w =>
 CondW t9
 (V (ia 24 t0 t8) w fun t14 w =>
 V (ld 96 t14) w fun t15 w =>
 CV t1 #[t15] w fun t16 w =>
 CondW t16
 (R t8 w)
 (V (bi .add 3 t8 (.int .i64 1)) w fun t18 w =>
 I0 [t18] w ∧ M0 [t18] w < m0))
 (R (.int .i64 (-1)) w)
theorem en249 (h : vc249 R w t0 t1) : Calls Tryz.prog 249 #[t0, t1] w (retK R) := calls_of_enter mixed Tryz.func249 (by kernel_rfl) (Eq.mpr (by kernel_rfl : enterW Tryz.prog Tryz.f249 an249 [t0, t1] w R = vc249 R w t0 t1) h)
def an250 : Ann := (.seq (oD 1) (.seq (oD 5) .leaf))
def vc250 (R : Value → World → Prop) (w : World) (t0 t1 : Value) : Prop :=
 CV (.func (.func 274) #[] #[]) #[t0, t1] w fun t7 w =>
 V (bi .geq 3 t7 (.int .i64 0)) w fun t8 w =>
 R t8 w
theorem en250 (h : vc250 R w t0 t1) : Calls Tryz.prog 250 #[t0, t1] w (retK R) := calls_of_enter mixed Tryz.func250 (by kernel_rfl) (Eq.mpr (by kernel_rfl : enterW Tryz.prog Tryz.f250 an250 [t0, t1] w R = vc250 R w t0 t1) h)
def an251 : Ann := (.seq (oD 1) (.seq (oD 5) .leaf))
def vc251 (R : Value → World → Prop) (w : World) (t0 t1 : Value) : Prop :=
 V (ld 280 t1) w fun t4 w =>
 CV t4 #[t0] w fun t6 w =>
 V (un .not t6) w fun t7 w =>
 R t7 w
theorem en251 (h : vc251 R w t0 t1) : Calls Tryz.prog 251 #[t0, t1] w (retK R) := calls_of_enter mixed Tryz.func251 (by kernel_rfl) (Eq.mpr (by kernel_rfl : enterW Tryz.prog Tryz.f251 an251 [t0, t1] w R = vc251 R w t0 t1) h)
def an252 : Ann := (.seq (oD 1) (.seq (.seq (oD 3) (.one (.loop [8] ([9, 10, 5] ++ rgN 11 7 ++ [4, 18, 8]) (.seq (oD 1) (.seq (.cond .leaf .leaf) (.seq (.one (.seq (oD 2) (.seq (oD 6) (.cond (.seq (oD 2) .leaf) .leaf)))) (oD 2))))))) (.seq (oD 1) .leaf)))
def vc252 (R : Value → World → Prop) (w : World) (t0 t1 : Value) : Prop :=
 V (Builtin.len_ #[96] 3 #[t0]) w fun t7 w =>
 ∃ (I0 : List Value → World → Prop) (M0 : List Value → World → Nat), I0 [(.int .i64 0)] w ∧ ∀ g : Env, ∀ t8, ∀ w, I0 [t8] w → ∀ m0, m0 = M0 [t8] w →
 V (bi .lss 3 t8 t7) w fun t9 w =>
 CondW t9
 (V (ia 96 t0 t8) w fun t14 w =>
 V (ld 98 t14) w fun t15 w =>
 CV t1 #[t15] w fun t16 w =>
 CondW t16
 (R t8 w)
 (V (bi .add 3 t8 (.int .i64 1)) w fun t18 w =>
 I0 [t18] w ∧ M0 [t18] w < m0))
 (R (.int .i64 (-1)) w)
theorem en252 (h : vc252 R w t0 t1) : Calls Tryz.prog 252 #[t0, t1] w (retK R) := calls_of_enter mixed Tryz.func252 (by kernel_rfl) (Eq.mpr (by kernel_rfl : enterW Tryz.prog Tryz.f252 an252 [t0, t1] w R = vc252 R w t0 t1) h)
def an253 : Ann := (.seq (oD 1) (.seq (oD 4) .leaf))
def vc253 (R : Value → World → Prop) (w : World) (t0 t1 : Value) : Prop :=
 CV (.func (.func 275) #[] #[]) #[t0, t1] w fun t7 w =>
 R t7 w
theorem en253 (h : vc253 R w t0 t1) : Calls Tryz.prog 253 #[t0, t1] w (retK R) := calls_of_enter mixed Tryz.func253 (by kernel_rfl) (Eq.mpr (by kernel_rfl : enterW Tryz.prog Tryz.f253 an253 [t0, t1] w R = vc253 R w t0 t1) h)
def an254 : Ann := (.seq (oD 1) (.seq (.reg (opn 3 (.join [9] [6, 7, 8, 9] (.split 5 (opn 4 .done) (opn 4 .done)) (opn 1 .done)))) .leaf))
def vc254 (R : Value → World → Prop) (w : World) (t0 : Value) : Prop :=
 V (eq .neq 9 (.tmp 3) (.const (.string ⟨#[]⟩)) t0 (.string ⟨#[]⟩)) w fun t4 w =>
 ∀ K0 : List Value → World → Prop, (∀ t9, ∀ w, (∀ g : Env,
 R t9 w) → K0 [t9] w) →
 CondW t4
 (V (cv 9 55 t0) w fun t7 w =>
 CV (.func (.func 216) #[] #[]) #[t7, (.func (.func 255) #[] #[])] w fun t8 w =>
 K0 [t8] w)
 (K0 [(.bool false)] w)
theorem en254 (h : vc254 R w t0) : Calls Tryz.prog 254 #[t0] w (retK R) := calls_of_enter mixed Tryz.func254 (by kernel_rfl) (Eq.mpr (by kernel_rfl : enterW Tryz.prog Tryz.f254 an254 [t0] w R = vc254 R w t0) h)
def an255 : Ann := (.seq (oD 1) (.seq (oD 4) .leaf))
def vc255 (R : Value → World → Prop) (w : World) (t0 : Value) : Prop :=
 V (cv 5 3 t0) w fun t4 w =>
 CV (.func (.func 75) #[] #[]) #[t4, (.int .i64 48), (.int .i64 57)] w fun t5 w =>
 R t5 w
theorem en255 (h : vc255 R w t0) : Calls Tryz.prog 255 #[t0] w (retK R) := calls_of_enter mixed Tryz.func255 (by kernel_rfl) (Eq.mpr (by kernel_rfl : enterW Tryz.prog Tryz.f255 an255 [t0] w R = vc255 R w t0) h)
def an258 : Ann := (.seq (oD 1) (.seq (oD 4) .leaf))
def vc258 (R : Value → World → Prop) (w : World) (t0 t1 : Value) : Prop :=
 CV (.func (.func 238) #[] #[]) #[t0, t1] w fun t7 w =>
 R t7 w
theorem en258 (h : vc258 R w t0 t1) : Calls Tryz.prog 258 #[t0, t1] w (retK R) := calls_of_enter mixed Tryz.func258 (by kernel_rfl) (Eq.mpr (by kernel_rfl : enterW Tryz.prog Tryz.f258 an258 [t0, t1] w R = vc258 R w t0 t1) h)
def an259 : Ann := (.seq (oD 1) (.seq (.reg (opn 6 (.join [20] (rgN 11 10) (.split 10 (opn 10 .done) (opn 10 .done)) (opn 1 .done)))) .leaf))
def vc259 (R : Value → World → Prop) (w : World) (t0 t1 : Value) : Prop :=
 V (Builtin.len_ #[9] 3 #[t0]) w fun t6 w =>
 V (Builtin.len_ #[9] 3 #[t1]) w fun t8 w =>
 V (bi .geq 3 t6 t8) w fun t9 w =>
 ∀ K0 : List Value → World → Prop, (∀ t20, ∀ w, (∀ g : Env,
 R t20 w) → K0 [t20] w) →
 CondW t9
 (V (Builtin.len_ #[9] 3 #[t0]) w fun t13 w =>
 V (Builtin.len_ #[9] 3 #[t1]) w fun t15 w =>
 V (bi .sub 3 t13 t15) w fun t16 w =>
 V (sl 9 t0 (some t16) none none) w fun t17 w =>
 V (eq .eql 9 (.tmp 17) (.tmp 18) t17 t1) w fun t19 w =>
 K0 [t19] w)
 (K0 [(.bool false)] w)
theorem en259 (h : vc259 R w t0 t1) : Calls Tryz.prog 259 #[t0, t1] w (retK R) := calls_of_enter mixed Tryz.func259 (by kernel_rfl) (Eq.mpr (by kernel_rfl : enterW Tryz.prog Tryz.f259 an259 [t0, t1] w R = vc259 R w t0 t1) h)
def an260 : Ann := (.seq (oD 1) (.seq (.seq (oD 3) (.one (.loop [8] ([9, 10, 5] ++ rgN 11 7 ++ [4, 18, 8]) (.seq (oD 1) (.seq (.cond .leaf .leaf) (.seq (.one (.seq (oD 2) (.seq (oD 6) (.cond (.seq (oD 2) .leaf) .leaf)))) (oD 2))))))) (.seq (oD 1) .leaf)))
def vc260 (R : Value → World → Prop) (w : World) (t0 t1 : Value) : Prop :=
 V (Builtin.len_ #[45] 3 #[t0]) w fun t7 w =>
 ∃ (I0 : List Value → World → Prop) (M0 : List Value → World → Nat), I0 [(.int .i64 0)] w ∧ ∀ g : Env, ∀ t8, ∀ w, I0 [t8] w → ∀ m0, m0 = M0 [t8] w →
 V (bi .lss 3 t8 t7) w fun t9 w =>
 CondW t9
 (V (ia 45 t0 t8) w fun t14 w =>
 V (ld 3 t14) w fun t15 w =>
 CV t1 #[t15] w fun t16 w =>
 CondW t16
 (R t8 w)
 (V (bi .add 3 t8 (.int .i64 1)) w fun t18 w =>
 I0 [t18] w ∧ M0 [t18] w < m0))
 (R (.int .i64 (-1)) w)
theorem en260 (h : vc260 R w t0 t1) : Calls Tryz.prog 260 #[t0, t1] w (retK R) := calls_of_enter mixed Tryz.func260 (by kernel_rfl) (Eq.mpr (by kernel_rfl : enterW Tryz.prog Tryz.f260 an260 [t0, t1] w R = vc260 R w t0 t1) h)
def an261 : Ann := (.seq (.draw (tkN 0 3 (.hold 3 (tkN 4 4 (tkN 9 3 (.hold 12 (.take 13 (.alts (.eff 8 (.take 14 (.take 15 .done)) .nil))))))))) (.seq (oD 6) (oD 5)))
def vc261 (R : Value → World → Prop) (w : World) (t0 t1 : Value) : Prop :=
 Dr w fun w =>
 NilW t0 fun t6 => PV (fa 199 t6 1) fun t7 =>
 HV (ld 55 t7) w fun t8 =>
 PV (Builtin.cap_ #[55] 3 #[t8]) fun t9 =>
 PV (bi .mul 3 (.int .i64 2) t9) fun t10 =>
 PV (bi .add 3 t10 t1) fun t12 =>
 NilW t0 fun t15 => PV (fa 199 t15 1) fun t16 =>
 HV (ld 55 t16) w fun t17 =>
 PV (Builtin.len_ #[55] 3 #[t17]) fun t18 =>
 CV (.func (.func 276) #[] #[]) #[t12] w fun t13 w =>
 RunIs (ld 55 t16) w t17 ∧ RunIs (ld 55 t7) w t8 ∧ (PV (sl 55 t13 none (some t18) none) fun t19 =>
 NilW t0 fun t22 => V (fa 199 t22 1) w fun t23 w =>
 V (ld 55 t23) w fun t24 w =>
 V (Builtin.copy_ #[55, 55] 3 #[t19, t24]) w fun t25 w =>
 NilW t0 fun t28 => V (fa 199 t28 1) w fun t29 w =>
 U (st 55 t29 t19) w fun w =>
 R (.tuple #[]) w)
theorem en261 (h : vc261 R w t0 t1) : Calls Tryz.prog 261 #[t0, t1] w (retK R) := calls_of_enter mixed Tryz.func261 (by kernel_rfl) (Eq.mpr (by kernel_rfl : enterW Tryz.prog Tryz.f261 an261 [t0, t1] w R = vc261 R w t0 t1) h)
def an274 : Ann := (.seq (oD 1) (.seq (.seq (oD 3) (.one (.loop [8] ([9, 10, 5] ++ rgN 11 7 ++ [4, 18, 8]) (.seq (oD 1) (.seq (.cond .leaf .leaf) (.seq (.one (.seq (oD 2) (.seq (oD 6) (.cond (.seq (oD 2) .leaf) .leaf)))) (oD 2))))))) (.seq (oD 1) .leaf)))
def vc274 (R : Value → World → Prop) (w : World) (t0 t1 : Value) : Prop :=
 V (Builtin.len_ #[55] 3 #[t0]) w fun t7 w =>
 ∃ (I0 : List Value → World → Prop) (M0 : List Value → World → Nat), I0 [(.int .i64 0)] w ∧ ∀ g : Env, ∀ t8, ∀ w, I0 [t8] w → ∀ m0, m0 = M0 [t8] w →
 V (bi .lss 3 t8 t7) w fun t9 w =>
 CondW t9
 (V (ia 55 t0 t8) w fun t14 w =>
 V (ld 5 t14) w fun t15 w =>
 CV t1 #[t15] w fun t16 w =>
 CondW t16
 (R t8 w)
 (V (bi .add 3 t8 (.int .i64 1)) w fun t18 w =>
 I0 [t18] w ∧ M0 [t18] w < m0))
 (R (.int .i64 (-1)) w)
theorem en274 (h : vc274 R w t0 t1) : Calls Tryz.prog 274 #[t0, t1] w (retK R) := calls_of_enter mixed Tryz.func274 (by kernel_rfl) (Eq.mpr (by kernel_rfl : enterW Tryz.prog Tryz.f274 an274 [t0, t1] w R = vc274 R w t0 t1) h)
end
end Go.Proofs.YtbeelfopmkbllaaGreatDoor
