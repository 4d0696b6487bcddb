/- Texts joined: VC. -/
import Derived.Test.YtbeelfopmkbllaaGreatDoorM0
import Derived.Test.YtbeelfopmkbllaaGreatDoorProg
set_option linter.unusedSimpArgs false
set_option linter.unusedVariables false
set_option linter.unusedSectionVars false
section
/- The formulas of the functions' codes, each with the annotation that it is read by, printed by a program of this claim's (vc.py); each is held against the code by the kernel. -/
set_option linter.unusedVariables false
set_option maxRecDepth 100000
namespace Go.Proofs.YtbeelfopmkbllaaGreatDoor
open Go Q

def an6 : Ann := (.seq (.reg (opn 2 .done)) (.seq (.reg (opn 2 .done)) (.seq (.seq (.reg (opn 4 (.join [31] [28, 29, 30, 31] (.split 27 (opn 4 .done) (opn 4 .done)) .done))) (.cond (.seq (.reg (opn 2 .done)) .leaf) .leaf)) (.seq (.reg (opn 1 .done)) (.seqJ [8] [33, 34, 35, 36, 37, 38, 39, 9, 40, 41, 42, 43, 44, 45, 46, 47, 48, 8] (.seq (.reg (opn 8 .done)) (.seq (.reg (opn 2 .done)) (.cond (.reg (opn 8 .done)) .leaf))) (.seq (.reg (opn 9 .done)) (.seq (.reg (opn 3 .done)) (.seq (.seq (.reg (opn 3 (.join [66] [60, 61, 62, 63, 64, 65, 66] (.split 59 (opn 7 .done) (opn 7 .done)) (opn 1 (.join [74] [68, 69, 70, 71, 72, 73, 74] (.split 67 (opn 7 .done) (opn 7 .done)) (opn 1 (.join [82] [76, 77, 78, 79, 80, 81, 82] (.split 75 (opn 7 .done) (opn 7 .done)) .done))))))) (.cond (.seq (.reg (opn 1 .done)) .leaf) .leaf)) (.seq (.reg (opn 1 .done)) (.seq (.reg (opn 1 .done)) (.seq (.seq (.reg (opn 1 .done)) (.one (.loop [14, 15, 8, 16] [83, 84, 85, 86, 89, 90, 91, 92, 93, 94, 95, 96, 97, 98, 99, 100, 101, 102, 103, 104, 105, 106, 107, 108, 109, 6, 110, 111, 112, 113, 114, 17, 116, 117, 115, 118, 119, 120, 18, 19, 20, 121, 122, 123, 124, 125, 126, 127, 128, 129, 130, 21, 131, 132, 133, 134, 135, 136, 137, 138, 139, 140, 141, 142, 143, 144, 145, 22, 146, 147, 148, 149, 150, 14, 151, 152, 154, 153, 155, 156, 157, 158, 15, 160, 159, 161, 162, 163, 164, 166, 165, 167, 168, 169, 170, 171, 172, 173, 8, 87, 88, 16] (.seq (.seq (.reg (opn 4 .done)) (.cond .leaf .leaf)) (.seq (.one (.seq (.seq (.reg (opn 6 (.join [101] [95, 96, 97, 98, 99, 100, 101] (.split 94 (opn 7 .done) (opn 7 .done)) (opn 1 (.join [109] [103, 104, 105, 106, 107, 108, 109] (.split 102 (opn 7 .done) (opn 7 .done)) .done))))) (.cond (.seq (.reg (opn 1 .done)) .leaf) .leaf)) (.seq (.reg (opn 7 .done)) (.seq (.reg (opn 9 .done)) (.seq (.seq (.reg (opn 3 (.join [127] [124, 125, 126, 127] (.split 123 (opn 4 .done) (opn 4 .done)) .done))) (.cond (.seq (.reg (opn 1 .done)) .leaf) .leaf)) (.seq (.reg (opn 4 .done)) (.seq (.seq (.reg (opn 3 .done)) (.cond (.seq (.reg (opn 2 .done)) .leaf) .leaf)) (.seq (.reg (opn 12 .done)) (.seq (.reg (opn 6 .done)) (.seqJ [15] [151, 152, 154, 153, 155, 156, 157, 158, 15, 160, 159, 161, 162, 163, 164, 166, 165, 167, 168, 169, 170, 171, 172] (.seq (.reg (opn 2 .done)) (.one (.seqJ [153] [154, 153, 155, 156] (.seq (.reg (opn 2 .done)) (.cond .leaf (.seq (.reg (opn 2 .done)) (.cond .leaf (.reg (opn 2 .done)))))) (.cond (.reg (opn 3 .done)) (.seq (.reg (opn 2 .done)) (.cond (.reg (opn 5 .done)) (.seq (.reg (opn 2 .done)) (.cond (.seq (.reg (opn 4 .done)) (.cond (.reg (opn 3 .done)) .leaf)) .leaf)))))))) (.reg (opn 2 .done)))))))))))) (.reg (opn 3 .done))))))) (.seq (.reg (opn 2 .done)) .leaf))))))))))))
def vc6 (R : Value → World → Prop) (w : World) (t0 t1 t2 : Value) : Prop :=
 V (bx 28 t0) w fun t3 w =>
 CV (.func (.func 13) #[] #[]) #[] w fun t23 w =>
 V (ld 28 t3) w fun t24 w =>
 CV (.func (.func 19) #[] #[]) #[t24] w fun t25 w =>
 V (un .not t25) w fun t26 w =>
 ∀ K0 : List Value → World → Prop, (∀ t31, ∀ w, (∀ g : Env,
 CondW t31
 (R t23 w)
 (∀ K0 : List Value → World → Prop, (∀ t8, ∀ w, (∀ g : Env,
 V (ld 28 t3) w fun t50 w =>
 CV (.func (.func 23) #[] #[]) #[t50] w fun t51 w =>
 V (ex t51 0) w fun t52 w =>
 V (ex t51 1) w fun t53 w =>
 V (ex t51 2) w fun t54 w =>
 V (ld 28 t3) w fun t55 w =>
 CV (.func (.func 22) #[] #[]) #[t55] w fun t56 w =>
 V (eq .neq 31 (.tmp 57) (.const (.int .i64 0)) t54 (.int .i64 0)) w fun t58 w =>
 ∀ K0 : List Value → World → Prop, (∀ t66, ∀ w, (∀ g : Env,
 ∀ K0 : List Value → World → Prop, (∀ t74, ∀ w, (∀ g : Env,
 ∀ K0 : List Value → World → Prop, (∀ t82, ∀ w, (∀ g : Env,
 CondW t82
 (R (.bool false) w)
 (∃ (I0 : List Value → World → Prop) (M0 : List Value → World → Nat), I0 [(.int .i64 0), (.int .i64 0), t8, (.int .i64 0)] w ∧ ∀ g : Env, ∀ t14, ∀ t15, ∀ t8a, ∀ t16, ∀ w, I0 [t14, t15, t8a, t16] w → ∀ m0, m0 = M0 [t14, t15, t8a, t16] w →
 V (Builtin.len_ #[55] 3 #[t2]) w fun t85 w =>
 V (bi .lss 3 t16 t85) w fun t86 w =>
 CondW t86
 (V (ia 49 t56 t8a) w fun t91 w =>
 V (ld 4 t91) w fun t92 w =>
 V (un .not t92) w fun t93 w =>
 ∀ K0 : List Value → World → Prop, (∀ t101, ∀ w, (∀ g : Env,
 ∀ K0 : List Value → World → Prop, (∀ t109, ∀ w, (∀ g : Env,
 CondW t109
 (R (.bool false) w)
 (V (fa 28 t3 5) w fun t110 w =>
 V (ld 26 t110) w fun t111 w =>
 V (ia 26 t111 t8a) w fun t113 w =>
 V (ld 38 t113) w fun t114 w =>
 V (al 38) w fun t17 w =>
 U (st 38 t17 t114) w fun w =>
 V (ld 38 t17) w fun t116 w =>
 CV (.func (.func 17) #[] #[]) #[t116] w fun t117 w =>
 V (ex t117 0) w fun t118 w =>
 V (ex t117 1) w fun t119 w =>
 V (ex t117 2) w fun t120 w =>
 V (eq .neq 31 (.tmp 121) (.const (.int .i64 0)) t120 (.int .i64 0)) w fun t122 w =>
 ∀ K0 : List Value → World → Prop, (∀ t127, ∀ w, (∀ g : Env,
 CondW t127
 (R (.bool false) w)
 (V (ld 28 t3) w fun t128 w =>
 CV (.func (.func 24) #[] #[]) #[t128, t8a] w fun t130 w =>
 V (Builtin.len_ #[45] 3 #[t130]) w fun t132 w =>
 V (eq .eql 3 (.tmp 132) (.const (.int .i64 0)) t132 (.int .i64 0)) w fun t133 w =>
 CondW t133
 (R t23 w)
 (V (ia 55 t2 t16) w fun t138 w =>
 V (ld 5 t138) w fun t139 w =>
 V (cv 5 3 t139) w fun t140 w =>
 V (Builtin.len_ #[45] 3 #[t130]) w fun t142 w =>
 V (bi .rem 3 t140 t142) w fun t143 w =>
 V (ia 45 t130 t143) w fun t144 w =>
 V (ld 3 t144) w fun t145 w =>
 V (bi .sub 3 t14 t118) w fun t148 w =>
 V (bi .add 3 t148 t119) w fun t150 w =>
 ∀ K0 : List Value → World → Prop, (∀ t15a, ∀ w, (∀ g : Env,
 V (bi .add 3 t16 (.int .i64 1)) w fun t88 w =>
 I0 [t150, t15a, t145, t88] w ∧ M0 [t150, t15a, t145, t88] w < m0) → K0 [t15a] w) →
 V (fa 38 t17 0) w fun t151 w =>
 V (ld 3 t151) w fun t152 w =>
 ∀ K1 : List Value → World → Prop, (∀ t153, ∀ w, (∀ g : Env,
 CondW t153
 (V (bi .add 3 t15 (.int .i64 1)) w fun t158 w =>
 K0 [t158] w)
 (V (eq .eql 3 (.tmp 152) (.const (.int .i64 33)) t152 (.int .i64 33)) w fun t160 w =>
 CondW t160
 (V (fa 38 t17 1) w fun t162 w =>
 V (ld 3 t162) w fun t163 w =>
 V (bi .sub 3 t15 t163) w fun t164 w =>
 K0 [t164] w)
 (V (eq .eql 3 (.tmp 152) (.const (.int .i64 30)) t152 (.int .i64 30)) w fun t166 w =>
 CondW t166
 (V (fa 38 t17 1) w fun t168 w =>
 V (ld 3 t168) w fun t169 w =>
 V (eq .eql 3 (.tmp 167) (.tmp 169) t145 t169) w fun t170 w =>
 CondW t170
 (V (bi .sub 3 t15 (.int .i64 1)) w fun t172 w =>
 K0 [t172] w)
 (K0 [t15] w))
 (K0 [t15] w)))) → K1 [t153] w) →
 V (eq .eql 3 (.tmp 152) (.const (.int .i64 27)) t152 (.int .i64 27)) w fun t154 w =>
 CondW t154
 (K1 [t154] w)
 (V (eq .eql 3 (.tmp 152) (.const (.int .i64 28)) t152 (.int .i64 28)) w fun t155 w =>
 CondW t155
 (K1 [t155] w)
 (V (eq .eql 3 (.tmp 152) (.const (.int .i64 29)) t152 (.int .i64 29)) w fun t156 w =>
 K1 [t156] w))))) → K0 [t127] w) →
 CondW t122
 (K0 [(.bool true)] w)
 (V (bi .gtr 3 t118 t14) w fun t126 w =>
 K0 [t126] w))) → K0 [t109] w) →
 CondW t101
 (K0 [(.bool true)] w)
 (V (ia 45 t53 t8a) w fun t105 w =>
 V (ld 3 t105) w fun t106 w =>
 V (eq .neq 3 (.tmp 106) (.tmp 107) t106 t15) w fun t108 w =>
 K0 [t108] w)) → K0 [t101] w) →
 CondW t93
 (K0 [(.bool true)] w)
 (V (ia 45 t52 t8a) w fun t97 w =>
 V (ld 3 t97) w fun t98 w =>
 V (eq .neq 3 (.tmp 98) (.tmp 99) t98 t14) w fun t100 w =>
 K0 [t100] w))
 (R t23 w))) → K0 [t82] w) →
 CondW t74
 (K0 [(.bool true)] w)
 (V (Builtin.len_ #[49] 3 #[t56]) w fun t77 w =>
 V (fa 28 t3 5) w fun t78 w =>
 V (ld 26 t78) w fun t79 w =>
 V (Builtin.len_ #[26] 3 #[t79]) w fun t80 w =>
 V (eq .neq 3 (.tmp 77) (.tmp 80) t77 t80) w fun t81 w =>
 K0 [t81] w)) → K0 [t74] w) →
 CondW t66
 (K0 [(.bool true)] w)
 (V (Builtin.len_ #[45] 3 #[t53]) w fun t69 w =>
 V (fa 28 t3 5) w fun t70 w =>
 V (ld 26 t70) w fun t71 w =>
 V (Builtin.len_ #[26] 3 #[t71]) w fun t72 w =>
 V (eq .neq 3 (.tmp 69) (.tmp 72) t69 t72) w fun t73 w =>
 K0 [t73] w)) → K0 [t66] w) →
 CondW t58
 (K0 [(.bool true)] w)
 (V (Builtin.len_ #[45] 3 #[t52]) w fun t61 w =>
 V (fa 28 t3 5) w fun t62 w =>
 V (ld 26 t62) w fun t63 w =>
 V (Builtin.len_ #[26] 3 #[t63]) w fun t64 w =>
 V (eq .neq 3 (.tmp 61) (.tmp 64) t61 t64) w fun t65 w =>
 K0 [t65] w)) → K0 [t8] w) →
 V (cv 5 3 t1) w fun t34 w =>
 V (fa 28 t3 3) w fun t35 w =>
 V (ld 25 t35) w fun t36 w =>
 V (Builtin.len_ #[25] 3 #[t36]) w fun t37 w =>
 V (bi .add 3 t37 (.int .i64 1)) w fun t38 w =>
 V (bi .rem 3 t34 t38) w fun t39 w =>
 V (bi .gtr 3 t39 (.int .i64 0)) w fun t41 w =>
 CondW t41
 (V (fa 28 t3 3) w fun t42 w =>
 V (ld 25 t42) w fun t43 w =>
 V (bi .sub 3 t39 (.int .i64 1)) w fun t45 w =>
 V (ia 25 t43 t45) w fun t46 w =>
 V (fa 54 t46 1) w fun t47 w =>
 V (ld 3 t47) w fun t48 w =>
 K0 [t48] w)
 (K0 [(.int .i64 0)] w))) → K0 [t31] w) →
 CondW t26
 (K0 [(.bool true)] w)
 (V (Builtin.len_ #[55] 3 #[t2]) w fun t29 w =>
 V (bi .gtr 3 t29 (.int .i64 100)) w fun t30 w =>
 K0 [t30] w)
theorem eq6 (R : Value → World → Prop) (w : World) (t0 t1 t2 : Value) : enterW Tryz.prog Tryz.f6 an6 [t0, t1, t2] w R = vc6 R w t0 t1 t2 := by kernel_rfl
theorem en6 {R : Value → World → Prop} {w : World} {t0 t1 t2 : Value} (h : vc6 R w t0 t1 t2) : Calls Tryz.prog 6 #[t0, t1, t2] w (retK R) :=
  calls_of_enter mixed Tryz.func6 (by kernel_rfl) (by rw [eq6]; exact h)

def an13 : Ann := (.seq (.reg (opn 1 .done)) (.seq (.reg (opn 3 .done)) (.seq (.reg (opn 9 .done)) (.seq (.reg (opn 7 .done)) (.seq (.reg (opn 10 .done)) (.seq (.reg (opn 7 .done)) (.seq (.reg (opn 3 .done)) (.seq (.draw (.take 0 (.hold 1 (.alts (.eff 2 (.take 3 (.alts (.eff 4 .done .nil))) .nil))))) (.seq (.reg (opn 7 .done)) (.seq (.reg (opn 9 .done)) (.seq (.reg (opn 9 .done)) (.seq (.reg (opn 3 (.join [74] [71, 72, 73, 74] (.split 70 (opn 4 .done) (opn 4 .done)) (opn 1 (.join [79] [76, 77, 78, 79] (.split 75 (opn 4 .done) (opn 4 .done)) (opn 1 (.join [83] [81, 82, 83] (.split 80 (opn 3 .done) (opn 3 .done)) (opn 1 (.join [88] [85, 86, 87, 88] (.split 84 (opn 4 .done) (opn 4 .done)) (opn 1 (.join [93] [90, 91, 92, 93] (.split 89 (opn 4 .done) (opn 4 .done)) (opn 1 .done)))))))))))) (.seq (.reg (opn 3 (.join [101] [97, 98, 99, 100, 101] (.split 96 (opn 5 .done) (opn 5 .done)) (opn 1 (.join [105] [103, 104, 105] (.split 102 (opn 3 .done) (opn 3 .done)) (opn 1 (.join [110] [107, 108, 109, 110] (.split 106 (opn 4 .done) (opn 4 .done)) (opn 1 (.join [116] [112, 113, 114, 115, 116] (.split 111 (opn 5 .done) (opn 5 .done)) (opn 1 (.join [122] [118, 119, 120, 121, 122] (.split 117 (opn 5 .done) (opn 5 .done)) (opn 1 (.join [128] [124, 125, 126, 127, 128] (.split 123 (opn 5 .done) (opn 5 .done)) (opn 1 .done)))))))))))))) (.seq (.reg (opn 2 (.join [132] [131, 132] (.split 130 (opn 2 .done) (opn 2 .done)) (opn 1 (.join [136] [134, 135, 136] (.split 133 (opn 3 .done) (opn 3 .done)) (opn 1 (.join [140] [138, 139, 140] (.split 137 (opn 3 .done) (opn 3 .done)) (opn 1 (.join [144] [142, 143, 144] (.split 141 (opn 3 .done) (opn 3 .done)) (opn 1 (.join [148] [146, 147, 148] (.split 145 (opn 3 .done) (opn 3 .done)) (opn 1 (.join [152] [150, 151, 152] (.split 149 (opn 3 .done) (opn 3 .done)) (opn 1 .done)))))))))))))) .leaf))))))))))))))
def vc13 (R : Value → World → Prop) (w : World) : Prop :=
 CV (.func (.func 44) #[] #[]) #[] w fun t22 w =>
 V (al 28) w fun t1 w =>
 U (st 28 t1 t22) w fun w =>
 V (ld 28 t1) w fun t24 w =>
 CV (.func (.func 23) #[] #[]) #[t24] w fun t25 w =>
 V (ex t25 0) w fun t26 w =>
 V (ex t25 1) w fun t27 w =>
 V (ex t25 2) w fun t28 w =>
 V (ld 28 t1) w fun t30 w =>
 CV (.func (.func 40) #[] #[]) #[t30] w fun t31 w =>
 V (ex t31 0) w fun t32 w =>
 V (ex t31 1) w fun t33 w =>
 V (ld 28 t1) w fun t35 w =>
 CV (.func (.func 20) #[] #[]) #[t35] w fun t36 w =>
 V (ex t36 0) w fun t37 w =>
 V (ex t36 1) w fun t38 w =>
 V (ex t36 2) w fun t39 w =>
 V (al 28) w fun t7 w =>
 U (st 28 t7 t37) w fun w =>
 V (ld 28 t1) w fun t41 w =>
 CV (.func (.func 35) #[] #[]) #[t41] w fun t42 w =>
 V (ex t42 0) w fun t43 w =>
 V (ex t42 1) w fun t44 w =>
 CV (.func (.func 44) #[] #[]) #[] w fun t45 w =>
 V (al 28) w fun t12 w =>
 U (st 28 t12 t45) w fun w =>
 Dr w fun w =>
 PV (fa 28 t12 5) fun t46 =>
 HV (ld 26 t46) w fun t47 =>
 CV (.func (.func 45) #[] #[]) #[(.int .i64 39), (.int .i64 0), (.int .i64 0), (.int .i64 0)] w fun t48 w =>
 RunIs (ld 26 t46) w t47 ∧ (PV (ia 26 t47 (.int .i64 2)) fun t49 =>
 U (st 38 t49 t48) w fun w =>
 V (ld 28 t12) w fun t51 w =>
 CV (.func (.func 15) #[] #[]) #[t51] w fun t52 w =>
 V (ex t52 0) w fun t53 w =>
 V (ex t52 1) w fun t54 w =>
 CV (.func (.func 45) #[] #[]) #[(.int .i64 23), (.int .i64 0), (.int .i64 0), (.int .i64 0)] w fun t56 w =>
 V (bs 26 1 #[(0, t56)]) w fun t57 w =>
 V (bd 28 #[(5, t57)]) w fun t58 w =>
 CV (.func (.func 15) #[] #[]) #[t58] w fun t59 w =>
 V (ex t59 0) w fun t60 w =>
 V (ex t59 1) w fun t61 w =>
 CV (.func (.func 45) #[] #[]) #[(.int .i64 27), (.int .i64 0), (.int .i64 13), (.int .i64 0)] w fun t63 w =>
 CV (.func (.func 17) #[] #[]) #[t63] w fun t64 w =>
 V (ex t64 0) w fun t65 w =>
 V (ex t64 1) w fun t66 w =>
 V (ex t64 2) w fun t67 w =>
 V (eq .eql 31 (.tmp 68) (.const (.int .i64 0)) t28 (.int .i64 0)) w fun t69 w =>
 ∀ K0 : List Value → World → Prop, (∀ t74, ∀ w, (∀ g : Env,
 ∀ K0 : List Value → World → Prop, (∀ t79, ∀ w, (∀ g : Env,
 ∀ K0 : List Value → World → Prop, (∀ t83, ∀ w, (∀ g : Env,
 ∀ K0 : List Value → World → Prop, (∀ t88, ∀ w, (∀ g : Env,
 ∀ K0 : List Value → World → Prop, (∀ t93, ∀ w, (∀ g : Env,
 V (eq .eql 31 (.tmp 94) (.const (.int .i64 0)) t39 (.int .i64 0)) w fun t95 w =>
 ∀ K0 : List Value → World → Prop, (∀ t101, ∀ w, (∀ g : Env,
 ∀ K0 : List Value → World → Prop, (∀ t105, ∀ w, (∀ g : Env,
 ∀ K0 : List Value → World → Prop, (∀ t110, ∀ w, (∀ g : Env,
 ∀ K0 : List Value → World → Prop, (∀ t116, ∀ w, (∀ g : Env,
 ∀ K0 : List Value → World → Prop, (∀ t122, ∀ w, (∀ g : Env,
 ∀ K0 : List Value → World → Prop, (∀ t128, ∀ w, (∀ g : Env,
 ∀ K0 : List Value → World → Prop, (∀ t132, ∀ w, (∀ g : Env,
 ∀ K0 : List Value → World → Prop, (∀ t136, ∀ w, (∀ g : Env,
 ∀ K0 : List Value → World → Prop, (∀ t140, ∀ w, (∀ g : Env,
 ∀ K0 : List Value → World → Prop, (∀ t144, ∀ w, (∀ g : Env,
 ∀ K0 : List Value → World → Prop, (∀ t148, ∀ w, (∀ g : Env,
 ∀ K0 : List Value → World → Prop, (∀ t152, ∀ w, (∀ g : Env,
 R t152 w) → K0 [t152] w) →
 CondW t148
 (V (eq .eql 3 (.tmp 150) (.const (.int .i64 0)) t66 (.int .i64 0)) w fun t151 w =>
 K0 [t151] w)
 (K0 [(.bool false)] w)) → K0 [t148] w) →
 CondW t144
 (V (eq .eql 3 (.tmp 146) (.const (.int .i64 3)) t65 (.int .i64 3)) w fun t147 w =>
 K0 [t147] w)
 (K0 [(.bool false)] w)) → K0 [t144] w) →
 CondW t140
 (V (eq .eql 31 (.tmp 142) (.const (.int .i64 0)) t67 (.int .i64 0)) w fun t143 w =>
 K0 [t143] w)
 (K0 [(.bool false)] w)) → K0 [t140] w) →
 CondW t136
 (V (eq .eql 31 (.tmp 138) (.const (.int .i64 0)) t60 (.int .i64 0)) w fun t139 w =>
 K0 [t139] w)
 (K0 [(.bool false)] w)) → K0 [t136] w) →
 CondW t132
 (V (eq .eql 31 (.tmp 134) (.const (.int .i64 12)) t53 (.int .i64 12)) w fun t135 w =>
 K0 [t135] w)
 (K0 [(.bool false)] w)) → K0 [t132] w) →
 CondW t93
 (K0 [t128] w)
 (K0 [(.bool false)] w)) → K0 [t128] w) →
 CondW t122
 (V (ia 55 t43 (.int .i64 2)) w fun t125 w =>
 V (ld 5 t125) w fun t126 w =>
 V (eq .eql 5 (.tmp 126) (.const (.int .u8 10)) t126 (.int .u8 10)) w fun t127 w =>
 K0 [t127] w)
 (K0 [(.bool false)] w)) → K0 [t122] w) →
 CondW t116
 (V (ia 55 t43 (.int .i64 1)) w fun t119 w =>
 V (ld 5 t119) w fun t120 w =>
 V (eq .eql 5 (.tmp 120) (.const (.int .u8 6)) t120 (.int .u8 6)) w fun t121 w =>
 K0 [t121] w)
 (K0 [(.bool false)] w)) → K0 [t116] w) →
 CondW t110
 (V (ia 55 t43 (.int .i64 0)) w fun t113 w =>
 V (ld 5 t113) w fun t114 w =>
 V (eq .eql 5 (.tmp 114) (.const (.int .u8 81)) t114 (.int .u8 81)) w fun t115 w =>
 K0 [t115] w)
 (K0 [(.bool false)] w)) → K0 [t110] w) →
 CondW t105
 (V (Builtin.len_ #[55] 3 #[t43]) w fun t108 w =>
 V (bi .gtr 3 t108 (.int .i64 3)) w fun t109 w =>
 K0 [t109] w)
 (K0 [(.bool false)] w)) → K0 [t105] w) →
 CondW t101
 (V (eq .eql 31 (.tmp 103) (.const (.int .i64 0)) t44 (.int .i64 0)) w fun t104 w =>
 K0 [t104] w)
 (K0 [(.bool false)] w)) → K0 [t101] w) →
 CondW t95
 (V (fa 28 t7 0) w fun t97 w =>
 V (ld 22 t97) w fun t98 w =>
 V (Builtin.len_ #[22] 3 #[t98]) w fun t99 w =>
 V (eq .eql 3 (.tmp 99) (.const (.int .i64 2)) t99 (.int .i64 2)) w fun t100 w =>
 K0 [t100] w)
 (K0 [(.bool false)] w)) → K0 [t93] w) →
 CondW t88
 (V (sl 9 t32 none (some (.int .i64 10)) none) w fun t91 w =>
 V (eq .eql 9 (.tmp 91) (.const (.string ⟨#[116, 101, 120, 116, 32, 34, 83, 65, 89, 32]⟩)) t91 (.string ⟨#[116, 101, 120, 116, 32, 34, 83, 65, 89, 32]⟩)) w fun t92 w =>
 K0 [t92] w)
 (K0 [(.bool false)] w)) → K0 [t88] w) →
 CondW t83
 (V (Builtin.len_ #[9] 3 #[t32]) w fun t86 w =>
 V (bi .gtr 3 t86 (.int .i64 10)) w fun t87 w =>
 K0 [t87] w)
 (K0 [(.bool false)] w)) → K0 [t83] w) →
 CondW t79
 (V (eq .eql 31 (.tmp 81) (.const (.int .i64 0)) t33 (.int .i64 0)) w fun t82 w =>
 K0 [t82] w)
 (K0 [(.bool false)] w)) → K0 [t79] w) →
 CondW t74
 (V (ms 45 (.int .i64 6) (.int .i64 6)) w fun t77 w =>
 CV (.func (.func 30) #[] #[]) #[t27, t77] w fun t78 w =>
 K0 [t78] w)
 (K0 [(.bool false)] w)) → K0 [t74] w) →
 CondW t69
 (V (bs 45 6 #[(0, (.int .i64 0)), (1, (.int .i64 0)), (2, (.int .i64 1)), (3, (.int .i64 1)), (4, (.int .i64 0)), (5, (.int .i64 0))]) w fun t72 w =>
 CV (.func (.func 30) #[] #[]) #[t26, t72] w fun t73 w =>
 K0 [t73] w)
 (K0 [(.bool false)] w))
theorem eq13 (R : Value → World → Prop) (w : World) : enterW Tryz.prog Tryz.f13 an13 [] w R = vc13 R w  := by kernel_rfl
theorem en13 {R : Value → World → Prop} {w : World} (h : vc13 R w ) : Calls Tryz.prog 13 #[] w (retK R) :=
  calls_of_enter mixed Tryz.func13 (by kernel_rfl) (by rw [eq13]; exact h)

def an14 : Ann := (.seq (.reg (opn 2 .done)) (.seq (.seq (.reg (opn 5 (.join [18] [14, 15, 16, 17, 18] (.split 13 (opn 5 .done) (opn 5 .done)) (opn 1 (.join [24] [20, 21, 22, 23, 24] (.split 19 (opn 5 .done) (opn 5 .done)) (opn 1 (.join [30] [26, 27, 28, 29, 30] (.split 25 (opn 5 .done) (opn 5 .done)) (opn 1 (.join [36] [32, 33, 34, 35, 36] (.split 31 (opn 5 .done) (opn 5 .done)) (opn 1 (.join [42] [38, 39, 40, 41, 42] (.split 37 (opn 5 .done) (opn 5 .done)) .done))))))))))) (.cond (.seq (.reg (opn 1 .done)) .leaf) .leaf)) (.seq (.seq (.reg (opn 1 .done)) (.one (.loop [3] [43, 44, 45, 46, 47, 50, 51, 52, 53, 54, 55, 56, 2, 48, 49, 3] (.seq (.seq (.reg (opn 5 .done)) (.cond .leaf .leaf)) (.seq (.one (.seq (.reg (opn 7 .done)) (.cond (.seq (.reg (opn 1 .done)) .leaf) .leaf))) (.reg (opn 3 .done))))))) (.seq (.seq (.reg (opn 1 .done)) (.one (.loop [4] [57, 58, 59, 60, 61, 64, 65, 66, 67, 68, 69, 70, 2, 5, 71, 72, 73, 74, 75, 76, 77, 78, 81, 82, 83, 84, 85, 86, 87, 88, 89, 90, 91, 79, 80, 62, 63, 4] (.seq (.seq (.reg (opn 5 .done)) (.cond .leaf .leaf)) (.seq (.one (.seq (.seq (.reg (opn 7 .done)) (.cond (.seq (.reg (opn 1 .done)) .leaf) .leaf)) (.seq (.reg (opn 1 .done)) (.one (.loop [5] [71, 72, 73, 74, 75, 76, 77, 78, 81, 82, 83, 84, 85, 86, 87, 88, 89, 90, 91, 2, 79, 80, 5] (.seq (.seq (.reg (opn 8 .done)) (.cond .leaf .leaf)) (.seq (.one (.seq (.reg (opn 11 .done)) (.cond (.seq (.reg (opn 1 .done)) .leaf) .leaf))) (.reg (opn 3 .done))))))))) (.reg (opn 3 .done))))))) (.seq (.seq (.reg (opn 1 .done)) (.one (.loop [6] [92, 93, 94, 95, 96, 99, 100, 101, 102, 103, 104, 105, 2, 7, 106, 107, 108, 109, 110, 111, 112, 113, 116, 117, 118, 119, 120, 121, 122, 123, 124, 125, 126, 114, 115, 97, 98, 6] (.seq (.seq (.reg (opn 5 .done)) (.cond .leaf .leaf)) (.seq (.one (.seq (.seq (.reg (opn 7 .done)) (.cond (.seq (.reg (opn 1 .done)) .leaf) .leaf)) (.seq (.reg (opn 1 .done)) (.one (.loop [7] [106, 107, 108, 109, 110, 111, 112, 113, 116, 117, 118, 119, 120, 121, 122, 123, 124, 125, 126, 2, 114, 115, 7] (.seq (.seq (.reg (opn 8 .done)) (.cond .leaf .leaf)) (.seq (.one (.seq (.reg (opn 11 .done)) (.cond (.seq (.reg (opn 1 .done)) .leaf) .leaf))) (.reg (opn 3 .done))))))))) (.reg (opn 3 .done))))))) (.seq (.seq (.reg (opn 1 .done)) (.one (.loop [8] [127, 128, 129, 130, 131, 134, 135, 136, 137, 138, 139, 140, 141, 2, 132, 133, 8] (.seq (.seq (.reg (opn 5 .done)) (.cond .leaf .leaf)) (.seq (.one (.seq (.reg (opn 8 .done)) (.cond (.seq (.reg (opn 1 .done)) .leaf) .leaf))) (.reg (opn 3 .done))))))) (.seq (.reg (opn 1 .done)) .leaf)))))))
def vc14 (R : Value → World → Prop) (w : World) (t0 : Value) : Prop :=
 V (bx 28 t0) w fun t1 w =>
 V (fa 28 t1 0) w fun t9 w =>
 V (ld 22 t9) w fun t10 w =>
 V (Builtin.len_ #[22] 3 #[t10]) w fun t11 w =>
 CV (.func (.func 34) #[] #[]) #[t11, (.int .i64 60), (.int .i64 3000)] w fun t12 w =>
 ∀ K0 : List Value → World → Prop, (∀ t18, ∀ w, (∀ g : Env,
 ∀ K0 : List Value → World → Prop, (∀ t24, ∀ w, (∀ g : Env,
 ∀ K0 : List Value → World → Prop, (∀ t30, ∀ w, (∀ g : Env,
 ∀ K0 : List Value → World → Prop, (∀ t36, ∀ w, (∀ g : Env,
 ∀ K0 : List Value → World → Prop, (∀ t42, ∀ w, (∀ g : Env,
 CondW t42
 (R (.bool false) w)
 (∃ (I0 : List Value → World → Prop) (M0 : List Value → World → Nat), I0 [(.int .i64 0)] w ∧ ∀ g : Env, ∀ t3, ∀ w, I0 [t3] w → ∀ m0, m0 = M0 [t3] w →
 V (fa 28 t1 0) w fun t44 w =>
 V (ld 22 t44) w fun t45 w =>
 V (Builtin.len_ #[22] 3 #[t45]) w fun t46 w =>
 V (bi .lss 3 t3 t46) w fun t47 w =>
 CondW t47
 (V (fa 28 t1 0) w fun t50 w =>
 V (ld 22 t50) w fun t51 w =>
 V (ia 22 t51 t3) w fun t53 w =>
 V (ld 9 t53) w fun t54 w =>
 V (Builtin.len_ #[9] 3 #[t54]) w fun t55 w =>
 V (bi .gtr 3 t55 (.int .i64 1100)) w fun t56 w =>
 CondW t56
 (R (.bool false) w)
 (V (bi .add 3 t3 (.int .i64 1)) w fun t49 w =>
 I0 [t49] w ∧ M0 [t49] w < m0))
 (∃ (I1 : List Value → World → Prop) (M1 : List Value → World → Nat), I1 [(.int .i64 0)] w ∧ ∀ g : Env, ∀ t4, ∀ w, I1 [t4] w → ∀ m1, m1 = M1 [t4] w →
 V (fa 28 t1 1) w fun t58 w =>
 V (ld 23 t58) w fun t59 w =>
 V (Builtin.len_ #[23] 3 #[t59]) w fun t60 w =>
 V (bi .lss 3 t4 t60) w fun t61 w =>
 CondW t61
 (V (fa 28 t1 1) w fun t64 w =>
 V (ld 23 t64) w fun t65 w =>
 V (ia 23 t65 t4) w fun t67 w =>
 V (ld 93 t67) w fun t68 w =>
 V (Builtin.len_ #[93] 3 #[t68]) w fun t69 w =>
 CV (.func (.func 34) #[] #[]) #[t69, (.int .i64 60), (.int .i64 100)] w fun t70 w =>
 CondW t70
 (R (.bool false) w)
 (∃ (I2 : List Value → World → Prop) (M2 : List Value → World → Nat), I2 [(.int .i64 0)] w ∧ ∀ g : Env, ∀ t5, ∀ w, I2 [t5] w → ∀ m2, m2 = M2 [t5] w →
 V (fa 28 t1 1) w fun t72 w =>
 V (ld 23 t72) w fun t73 w =>
 V (ia 23 t73 t4) w fun t75 w =>
 V (ld 93 t75) w fun t76 w =>
 V (Builtin.len_ #[93] 3 #[t76]) w fun t77 w =>
 V (bi .lss 3 t5 t77) w fun t78 w =>
 CondW t78
 (V (fa 28 t1 1) w fun t81 w =>
 V (ld 23 t81) w fun t82 w =>
 V (ia 23 t82 t4) w fun t84 w =>
 V (ld 93 t84) w fun t85 w =>
 V (ia 93 t85 t5) w fun t87 w =>
 V (fa 95 t87 1) w fun t88 w =>
 V (ld 9 t88) w fun t89 w =>
 V (Builtin.len_ #[9] 3 #[t89]) w fun t90 w =>
 V (bi .gtr 3 t90 (.int .i64 1100)) w fun t91 w =>
 CondW t91
 (R (.bool false) w)
 (V (bi .add 3 t5 (.int .i64 1)) w fun t80 w =>
 I2 [t80] w ∧ M2 [t80] w < m2))
 (V (bi .add 3 t4 (.int .i64 1)) w fun t63 w =>
 I1 [t63] w ∧ M1 [t63] w < m1)))
 (∃ (I2 : List Value → World → Prop) (M2 : List Value → World → Nat), I2 [(.int .i64 0)] w ∧ ∀ g : Env, ∀ t6, ∀ w, I2 [t6] w → ∀ m2, m2 = M2 [t6] w →
 V (fa 28 t1 2) w fun t93 w =>
 V (ld 24 t93) w fun t94 w =>
 V (Builtin.len_ #[24] 3 #[t94]) w fun t95 w =>
 V (bi .lss 3 t6 t95) w fun t96 w =>
 CondW t96
 (V (fa 28 t1 2) w fun t99 w =>
 V (ld 24 t99) w fun t100 w =>
 V (ia 24 t100 t6) w fun t102 w =>
 V (ld 96 t102) w fun t103 w =>
 V (Builtin.len_ #[96] 3 #[t103]) w fun t104 w =>
 CV (.func (.func 34) #[] #[]) #[t104, (.int .i64 60), (.int .i64 10000)] w fun t105 w =>
 CondW t105
 (R (.bool false) w)
 (∃ (I3 : List Value → World → Prop) (M3 : List Value → World → Nat), I3 [(.int .i64 0)] w ∧ ∀ g : Env, ∀ t7, ∀ w, I3 [t7] w → ∀ m3, m3 = M3 [t7] w →
 V (fa 28 t1 2) w fun t107 w =>
 V (ld 24 t107) w fun t108 w =>
 V (ia 24 t108 t6) w fun t110 w =>
 V (ld 96 t110) w fun t111 w =>
 V (Builtin.len_ #[96] 3 #[t111]) w fun t112 w =>
 V (bi .lss 3 t7 t112) w fun t113 w =>
 CondW t113
 (V (fa 28 t1 2) w fun t116 w =>
 V (ld 24 t116) w fun t117 w =>
 V (ia 24 t117 t6) w fun t119 w =>
 V (ld 96 t119) w fun t120 w =>
 V (ia 96 t120 t7) w fun t122 w =>
 V (fa 98 t122 0) w fun t123 w =>
 V (ld 9 t123) w fun t124 w =>
 V (Builtin.len_ #[9] 3 #[t124]) w fun t125 w =>
 V (bi .gtr 3 t125 (.int .i64 1100)) w fun t126 w =>
 CondW t126
 (R (.bool false) w)
 (V (bi .add 3 t7 (.int .i64 1)) w fun t115 w =>
 I3 [t115] w ∧ M3 [t115] w < m3))
 (V (bi .add 3 t6 (.int .i64 1)) w fun t98 w =>
 I2 [t98] w ∧ M2 [t98] w < m2)))
 (∃ (I3 : List Value → World → Prop) (M3 : List Value → World → Nat), I3 [(.int .i64 0)] w ∧ ∀ g : Env, ∀ t8, ∀ w, I3 [t8] w → ∀ m3, m3 = M3 [t8] w →
 V (fa 28 t1 3) w fun t128 w =>
 V (ld 25 t128) w fun t129 w =>
 V (Builtin.len_ #[25] 3 #[t129]) w fun t130 w =>
 V (bi .lss 3 t8 t130) w fun t131 w =>
 CondW t131
 (V (fa 28 t1 3) w fun t134 w =>
 V (ld 25 t134) w fun t135 w =>
 V (ia 25 t135 t8) w fun t137 w =>
 V (fa 54 t137 0) w fun t138 w =>
 V (ld 9 t138) w fun t139 w =>
 V (Builtin.len_ #[9] 3 #[t139]) w fun t140 w =>
 V (bi .gtr 3 t140 (.int .i64 1100)) w fun t141 w =>
 CondW t141
 (R (.bool false) w)
 (V (bi .add 3 t8 (.int .i64 1)) w fun t133 w =>
 I3 [t133] w ∧ M3 [t133] w < m3))
 (R (.bool true) w)))))) → K0 [t42] w) →
 CondW t36
 (K0 [(.bool true)] w)
 (V (fa 28 t1 5) w fun t38 w =>
 V (ld 26 t38) w fun t39 w =>
 V (Builtin.len_ #[26] 3 #[t39]) w fun t40 w =>
 CV (.func (.func 34) #[] #[]) #[t40, (.int .i64 300), (.int .i64 12000)] w fun t41 w =>
 K0 [t41] w)) → K0 [t36] w) →
 CondW t30
 (K0 [(.bool true)] w)
 (V (fa 28 t1 4) w fun t32 w =>
 V (ld 22 t32) w fun t33 w =>
 V (Builtin.len_ #[22] 3 #[t33]) w fun t34 w =>
 CV (.func (.func 34) #[] #[]) #[t34, (.int .i64 60), (.int .i64 100)] w fun t35 w =>
 K0 [t35] w)) → K0 [t30] w) →
 CondW t24
 (K0 [(.bool true)] w)
 (V (fa 28 t1 3) w fun t26 w =>
 V (ld 25 t26) w fun t27 w =>
 V (Builtin.len_ #[25] 3 #[t27]) w fun t28 w =>
 CV (.func (.func 34) #[] #[]) #[t28, (.int .i64 60), (.int .i64 3000)] w fun t29 w =>
 K0 [t29] w)) → K0 [t24] w) →
 CondW t18
 (K0 [(.bool true)] w)
 (V (fa 28 t1 2) w fun t20 w =>
 V (ld 24 t20) w fun t21 w =>
 V (Builtin.len_ #[24] 3 #[t21]) w fun t22 w =>
 CV (.func (.func 34) #[] #[]) #[t22, (.int .i64 60), (.int .i64 3000)] w fun t23 w =>
 K0 [t23] w)) → K0 [t18] w) →
 CondW t12
 (K0 [(.bool true)] w)
 (V (fa 28 t1 1) w fun t14 w =>
 V (ld 23 t14) w fun t15 w =>
 V (Builtin.len_ #[23] 3 #[t15]) w fun t16 w =>
 CV (.func (.func 34) #[] #[]) #[t16, (.int .i64 60), (.int .i64 3000)] w fun t17 w =>
 K0 [t17] w)
theorem eq14 (R : Value → World → Prop) (w : World) (t0 : Value) : enterW Tryz.prog Tryz.f14 an14 [t0] w R = vc14 R w t0 := by kernel_rfl
theorem en14 {R : Value → World → Prop} {w : World} {t0 : Value} (h : vc14 R w t0) : Calls Tryz.prog 14 #[t0] w (retK R) :=
  calls_of_enter mixed Tryz.func14 (by kernel_rfl) (by rw [eq14]; exact h)

def an15 : Ann := (.seq (.reg (opn 3 .done)) (.seq (.seq (.reg (opn 3 .done)) (.cond (.seq (.reg (opn 2 .done)) .leaf) .leaf)) (.seq (.seq (.reg (opn 3 .done)) (.cond (.seq (.reg (opn 2 .done)) .leaf) .leaf)) (.seq (.seq (.reg (opn 4 .done)) (.one (.loop [21] [22, 23, 24, 25, 5, 4, 26, 27, 28, 29, 30, 2, 3, 31, 21] (.seq (.reg (opn 1 .done)) (.seq (.cond .leaf .leaf) (.seq (.one (.seq (.reg (opn 6 .done)) (.seq (.reg (opn 4 .done)) (.cond (.seq (.reg (opn 3 .done)) .leaf) .leaf)))) (.reg (opn 2 .done)))))))) (.seq (.reg (opn 5 .done)) (.seq (.seq (.reg (opn 12 .done)) (.seq (.reg (opn 3 .done)) (.cond (.seq (.reg (opn 3 .done)) .leaf) .leaf))) (.seq (.seq (.reg (opn 9 .done)) (.seq (.reg (opn 2 .done)) (.cond (.seq (.reg (opn 2 .done)) .leaf) .leaf))) (.seq (.reg (opn 2 .done)) .leaf))))))))
def vc15 (R : Value → World → Prop) (w : World) (t0 : Value) : Prop :=
 V (bx 28 t0) w fun t1 w =>
 V (ld 28 t1) w fun t12 w =>
 CV (.func (.func 46) #[] #[]) #[t12] w fun t13 w =>
 V (un .not t13) w fun t14 w =>
 CondW t14
 (R (.tuple #[(.int .i64 3), (.int .i64 0)]) w)
 (V (ld 28 t1) w fun t15 w =>
 CV (.func (.func 47) #[] #[]) #[t15] w fun t16 w =>
 V (un .not t16) w fun t17 w =>
 CondW t17
 (R (.tuple #[(.int .i64 1), (.int .i64 0)]) w)
 (V (fa 28 t1 5) w fun t18 w =>
 V (ld 26 t18) w fun t19 w =>
 V (Builtin.len_ #[26] 3 #[t19]) w fun t20 w =>
 ∃ (I0 : List Value → World → Prop) (M0 : List Value → World → Nat), I0 [(.int .i64 0)] w ∧ ∀ g : Env, ∀ t21, ∀ w, I0 [t21] w → ∀ m0, m0 = M0 [t21] w →
 V (bi .lss 3 t21 t20) w fun t22 w =>
 CondW t22
 (V (ia 26 t19 t21) w fun t24 w =>
 V (ld 38 t24) w fun t25 w =>
 V (al 38) w fun t5 w =>
 U (st 38 t5 t25) w fun w =>
 V (ld 28 t1) w fun t26 w =>
 V (ld 38 t5) w fun t27 w =>
 CV (.func (.func 48) #[] #[]) #[t26, t27] w fun t28 w =>
 V (un .not t28) w fun t29 w =>
 CondW t29
 (R (.tuple #[(.int .i64 1), t21]) w)
 (V (bi .add 3 t21 (.int .i64 1)) w fun t31 w =>
 I0 [t31] w ∧ M0 [t31] w < m0))
 (V (fa 28 t1 5) w fun t32 w =>
 V (ld 26 t32) w fun t33 w =>
 V (Builtin.len_ #[26] 3 #[t33]) w fun t34 w =>
 V (bi .sub 3 t34 (.int .i64 1)) w fun t35 w =>
 V (fa 28 t1 5) w fun t37 w =>
 V (ld 26 t37) w fun t38 w =>
 V (ia 26 t38 t35) w fun t40 w =>
 V (ld 38 t40) w fun t41 w =>
 CV (.func (.func 49) #[] #[]) #[t41] w fun t42 w =>
 V (ex t42 0) w fun t43 w =>
 V (ex t42 1) w fun t44 w =>
 V (al 102) w fun t7 w =>
 U (st 102 t7 t43) w fun w =>
 V (fa 102 t7 5) w fun t45 w =>
 V (ld 4 t45) w fun t46 w =>
 V (un .not t46) w fun t47 w =>
 CondW t47
 (R (.tuple #[(.int .i64 2), t35]) w)
 (V (ld 28 t1) w fun t50 w =>
 CV (.func (.func 50) #[] #[]) #[t50] w fun t51 w =>
 V (ex t51 0) w fun t52 w =>
 V (ex t51 1) w fun t53 w =>
 V (ex t51 2) w fun t54 w =>
 V (un .not t54) w fun t56 w =>
 CondW t56
 (R (.tuple #[(.int .i64 12), (.int .i64 0)]) w)
 (R (.tuple #[(.int .i64 0), (.int .i64 0)]) w)))))
theorem eq15 (R : Value → World → Prop) (w : World) (t0 : Value) : enterW Tryz.prog Tryz.f15 an15 [t0] w R = vc15 R w t0 := by kernel_rfl
theorem en15 {R : Value → World → Prop} {w : World} {t0 : Value} (h : vc15 R w t0) : Calls Tryz.prog 15 #[t0] w (retK R) :=
  calls_of_enter mixed Tryz.func15 (by kernel_rfl) (by rw [eq15]; exact h)

def an17 : Ann := (.seq (.reg (opn 4 .done)) (.seq (.reg (opn 8 .done)) (.seq (.seq (.reg (opn 2 .done)) (.cond (.seq (.reg (opn 3 .done)) .leaf) .leaf)) (.seqJ [6] [14, 15, 17, 16, 18, 19, 20, 21, 22, 23, 6, 24, 26, 25, 27, 28, 29, 30, 31, 32, 33, 35, 34, 36, 37, 38, 39, 40, 41, 42, 43, 44, 46, 45, 47, 48, 49, 50, 51, 52, 53, 54, 55, 56, 57, 58, 59, 60, 62, 61, 63, 64, 65, 66, 67, 68, 69, 71, 70, 72, 73, 74, 75, 76, 77, 78] (.seq (.reg (opn 2 .done)) (.one (.seqJ [16] [17, 16, 18] (.seq (.reg (opn 2 .done)) (.cond .leaf (.reg (opn 2 .done)))) (.cond (.draw (.take 0 (.hold 1 (.take 3 (.hold 4 (.alts (.eff 2 (.take 5 (.take 6 (.alts (.eff 7 .done .nil)))) .nil))))))) (.seq (.reg (opn 2 .done)) (.cond (.draw (.take 0 (.hold 1 (.take 3 (.hold 4 (.take 5 (.alts (.eff 2 (.take 6 (.take 7 (.alts (.eff 8 .done .nil)))) .nil)))))))) (.seq (.reg (opn 2 .done)) (.cond (.draw (.take 0 (.hold 1 (.take 4 (.hold 5 (.alts (.eff 2 (.take 3 (.alts (.eff 6 (.take 7 (.take 8 (.take 9 (.alts (.eff 10 .done .nil))))) .nil))) .nil))))))) (.seq (.reg (opn 2 .done)) (.cond (.seq (.reg (opn 4 (.join [54] [51, 52, 53, 54] (.split 50 (opn 4 .done) (opn 4 .done)) (opn 1 .done)))) (.seq (.reg (opn 3 .done)) (.cond (.reg (opn 4 .done)) .leaf))) (.seq (.reg (opn 2 .done)) (.cond (.seq (.reg (opn 4 .done)) (.seq (.reg (opn 3 .done)) (.cond (.reg (opn 2 .done)) .leaf))) (.seqJ [70] [71, 70, 72] (.seq (.reg (opn 2 .done)) (.cond .leaf (.reg (opn 2 .done)))) (.cond (.draw (.take 0 (.hold 1 (.take 3 (.hold 4 (.alts (.eff 2 (.take 5 (.take 6 (.alts (.eff 7 .done .nil)))) .nil))))))) .leaf)))))))))))))) (.seq (.seq (.reg (opn 2 .done)) (.cond (.seq (.reg (opn 3 .done)) .leaf) .leaf)) (.seq (.draw (.take 0 (.hold 1 (.take 2 (.hold 3 (.take 4 (.take 5 (.take 6 .done)))))))) .leaf))))))
def vc17 (R : Value → World → Prop) (w : World) (t0 : Value) : Prop :=
 V (bx 38 t0) w fun t1 w =>
 V (ld 38 t1) w fun t8 w =>
 CV (.func (.func 49) #[] #[]) #[t8] w fun t9 w =>
 V (ex t9 0) w fun t10 w =>
 V (ex t9 1) w fun t11 w =>
 V (al 102) w fun t5 w =>
 U (st 102 t5 t10) w fun w =>
 V (un .not t11) w fun t13 w =>
 CondW t13
 (R (.tuple #[(.int .i64 0), (.int .i64 0), (.int .i64 1)]) w)
 (∀ K0 : List Value → World → Prop, (∀ t6, ∀ w, (∀ g : Env,
 V (un .not t6) w fun t80 w =>
 CondW t80
 (R (.tuple #[(.int .i64 0), (.int .i64 0), (.int .i64 1)]) w)
 (Dr w fun w =>
 PV (fa 102 t5 2) fun t81 =>
 HV (ld 3 t81) w fun t82 =>
 PV (fa 102 t5 3) fun t83 =>
 HV (ld 3 t83) w fun t84 =>
 R (.tuple #[t82, t84, (.int .i64 0)]) w)) → K0 [t6] w) →
 V (fa 38 t1 0) w fun t14 w =>
 V (ld 3 t14) w fun t15 w =>
 ∀ K1 : List Value → World → Prop, (∀ t16, ∀ w, (∀ g : Env,
 CondW t16
 (Dr w fun w =>
 PV (fa 38 t1 2) fun t19 =>
 HV (ld 3 t19) w fun t20 =>
 PV (fa 38 t1 2) fun t22 =>
 HV (ld 3 t22) w fun t23 =>
 CV (.func (.func 56) #[] #[]) #[(.int .i64 16), t20] w fun t21 w =>
 RunIs (ld 3 t22) w t23 ∧ (PV (fa 102 t5 2) fun t24 =>
 U (st 3 t24 t23) w fun w =>
 K0 [t21] w))
 (V (eq .eql 3 (.tmp 15) (.const (.int .i64 19)) t15 (.int .i64 19)) w fun t26 w =>
 CondW t26
 (Dr w fun w =>
 PV (fa 38 t1 1) fun t27 =>
 HV (ld 3 t27) w fun t28 =>
 PV (fa 38 t1 1) fun t30 =>
 HV (ld 3 t30) w fun t31 =>
 PV (bi .quo 3 t31 (.int .i64 2)) fun t32 =>
 CV (.func (.func 56) #[] #[]) #[(.int .i64 15), t28] w fun t29 w =>
 RunIs (ld 3 t30) w t31 ∧ (PV (fa 102 t5 2) fun t33 =>
 U (st 3 t33 t32) w fun w =>
 K0 [t29] w))
 (V (eq .eql 3 (.tmp 15) (.const (.int .i64 27)) t15 (.int .i64 27)) w fun t35 w =>
 CondW t35
 (Dr w fun w =>
 PV (fa 38 t1 2) fun t36 =>
 HV (ld 3 t36) w fun t37 =>
 PV (fa 38 t1 2) fun t40 =>
 HV (ld 3 t40) w fun t41 =>
 CV (.func (.func 57) #[] #[]) #[t37] w fun t38 w =>
 RunIs (ld 3 t40) w t41 ∧ (PV (bi .geq 3 t38 (.int .i64 0)) fun t39 =>
 CV (.func (.func 57) #[] #[]) #[t41] w fun t42 w =>
 PV (bi .add 3 (.int .i64 1) t42) fun t43 =>
 PV (fa 102 t5 2) fun t44 =>
 U (st 3 t44 t43) w fun w =>
 K0 [t39] w))
 (V (eq .eql 3 (.tmp 15) (.const (.int .i64 35)) t15 (.int .i64 35)) w fun t46 w =>
 CondW t46
 (V (fa 38 t1 1) w fun t47 w =>
 V (ld 3 t47) w fun t48 w =>
 CV (.func (.func 56) #[] #[]) #[(.int .i64 15), t48] w fun t49 w =>
 ∀ K1 : List Value → World → Prop, (∀ t54, ∀ w, (∀ g : Env,
 V (fa 38 t1 1) w fun t55 w =>
 V (ld 3 t55) w fun t56 w =>
 V (bi .lss 3 t56 (.int .i64 2)) w fun t57 w =>
 CondW t57
 (V (fa 38 t1 2) w fun t58 w =>
 V (ld 3 t58) w fun t59 w =>
 V (fa 102 t5 2) w fun t60 w =>
 U (st 3 t60 t59) w fun w =>
 K0 [t54] w)
 (K0 [t54] w)) → K1 [t54] w) →
 CondW t49
 (V (fa 38 t1 2) w fun t51 w =>
 V (ld 3 t51) w fun t52 w =>
 CV (.func (.func 56) #[] #[]) #[(.int .i64 14), t52] w fun t53 w =>
 K1 [t53] w)
 (K1 [(.bool false)] w))
 (V (eq .eql 3 (.tmp 15) (.const (.int .i64 36)) t15 (.int .i64 36)) w fun t62 w =>
 CondW t62
 (V (fa 38 t1 2) w fun t63 w =>
 V (ld 3 t63) w fun t64 w =>
 CV (.func (.func 56) #[] #[]) #[(.int .i64 19), t64] w fun t65 w =>
 V (fa 38 t1 2) w fun t66 w =>
 V (ld 3 t66) w fun t67 w =>
 V (eq .eql 3 (.tmp 67) (.const (.int .i64 6)) t67 (.int .i64 6)) w fun t68 w =>
 CondW t68
 (V (fa 102 t5 2) w fun t69 w =>
 U (st 3 t69 (.int .i64 1)) w fun w =>
 K0 [t65] w)
 (K0 [t65] w))
 (∀ K1 : List Value → World → Prop, (∀ t70, ∀ w, (∀ g : Env,
 CondW t70
 (Dr w fun w =>
 PV (fa 38 t1 1) fun t73 =>
 HV (ld 3 t73) w fun t74 =>
 PV (fa 38 t1 1) fun t76 =>
 HV (ld 3 t76) w fun t77 =>
 CV (.func (.func 56) #[] #[]) #[(.int .i64 14), t74] w fun t75 w =>
 RunIs (ld 3 t76) w t77 ∧ (PV (fa 102 t5 2) fun t78 =>
 U (st 3 t78 t77) w fun w =>
 K0 [t75] w))
 (K0 [t11] w)) → K1 [t70] w) →
 V (eq .eql 3 (.tmp 15) (.const (.int .i64 40)) t15 (.int .i64 40)) w fun t71 w =>
 CondW t71
 (K1 [t71] w)
 (V (eq .eql 3 (.tmp 15) (.const (.int .i64 41)) t15 (.int .i64 41)) w fun t72 w =>
 K1 [t72] w))))))) → K1 [t16] w) →
 V (eq .eql 3 (.tmp 15) (.const (.int .i64 12)) t15 (.int .i64 12)) w fun t17 w =>
 CondW t17
 (K1 [t17] w)
 (V (eq .eql 3 (.tmp 15) (.const (.int .i64 21)) t15 (.int .i64 21)) w fun t18 w =>
 K1 [t18] w))
theorem eq17 (R : Value → World → Prop) (w : World) (t0 : Value) : enterW Tryz.prog Tryz.f17 an17 [t0] w R = vc17 R w t0 := by kernel_rfl
theorem en17 {R : Value → World → Prop} {w : World} {t0 : Value} (h : vc17 R w t0) : Calls Tryz.prog 17 #[t0] w (retK R) :=
  calls_of_enter mixed Tryz.func17 (by kernel_rfl) (by rw [eq17]; exact h)

def an19 : Ann := (.seq (.reg (opn 2 .done)) (.seq (.seq (.reg (opn 3 .done)) (.cond (.seq (.reg (opn 1 .done)) .leaf) .leaf)) (.seq (.reg (opn 7 .done)) (.seq (.reg (opn 3 .done)) .leaf))))
def vc19 (R : Value → World → Prop) (w : World) (t0 : Value) : Prop :=
 V (bx 28 t0) w fun t1 w =>
 V (ld 28 t1) w fun t5 w =>
 CV (.func (.func 14) #[] #[]) #[t5] w fun t6 w =>
 V (un .not t6) w fun t7 w =>
 CondW t7
 (R (.bool false) w)
 (V (ld 28 t1) w fun t9 w =>
 CV (.func (.func 15) #[] #[]) #[t9] w fun t10 w =>
 V (ex t10 0) w fun t11 w =>
 V (ex t10 1) w fun t12 w =>
 V (eq .eql 31 (.tmp 13) (.const (.int .i64 0)) t11 (.int .i64 0)) w fun t14 w =>
 R t14 w)
theorem eq19 (R : Value → World → Prop) (w : World) (t0 : Value) : enterW Tryz.prog Tryz.f19 an19 [t0] w R = vc19 R w t0 := by kernel_rfl
theorem en19 {R : Value → World → Prop} {w : World} {t0 : Value} (h : vc19 R w t0) : Calls Tryz.prog 19 #[t0] w (retK R) :=
  calls_of_enter mixed Tryz.func19 (by kernel_rfl) (by rw [eq19]; exact h)

def an20 : Ann := (.seq (.reg (opn 4 .done)) (.seq (.seq (.reg (opn 7 .done)) (.seq (.reg (opn 2 .done)) (.cond (.seq (.reg (opn 5 .done)) .leaf) .leaf))) (.seq (.reg (opn 3 .done)) (.seq (.reg (opn 6 .done)) (.seq (.reg (opn 1 .done)) (.seq (.reg (opn 6 .done)) (.seq (.seq (.reg (opn 4 .done)) (.one (.loop [205, 50] [51, 52, 53, 54, 12, 11, 55, 56, 57, 58, 59, 60, 61, 62, 63, 64, 65, 66, 67, 68, 69, 205, 81, 82, 83, 84, 85, 86, 87, 50] (.seq (.reg (opn 1 .done)) (.seq (.cond .leaf .leaf) (.seqJ [205] [52, 53, 54, 12, 11, 55, 56, 57, 58, 59, 60, 61, 62, 63, 64, 65, 66, 67, 68, 69, 205, 81, 82, 83, 84, 85, 86] (.one (.seq (.reg (opn 6 .done)) (.seq (.reg (opn 4 .done)) (.seq (.seq (.reg (opn 5 .done)) (.cond .leaf .leaf)) (.seq (.reg (opn 7 .done)) (.seq (.seq (.reg (opn 1 .done)) (.one (.rf [] (.seq (.reg (opn 1 .done)) (.reg (opn 1 .done))) (.one (.seq (.reg (opn 4 .done)) (.seq (.reg (opn 2 .done)) (.cond (.reg (opn 5 .done)) .leaf))))))) (.reg (opn 7 .done)))))))) (.reg (opn 2 .done)))))))) (.seq (.reg (opn 3 .done)) (.seq (.reg (opn 11 .done)) (.seq (.reg (opn 11 .done)) (.seq (.reg (opn 11 .done)) (.seq (.reg (opn 3 .done)) (.seq (.seq (.reg (opn 4 .done)) (.one (.loop [205, 119] [120, 121, 20, 122, 123, 124, 125, 126, 21, 127, 205, 138, 139, 140, 141, 142, 143, 119] (.seq (.reg (opn 1 .done)) (.seq (.cond .leaf .leaf) (.seq (.one (.seq (.reg (opn 2 .done)) (.seq (.reg (opn 7 .done)) (.seq (.seq (.reg (opn 1 .done)) (.one (.rf [] (.seq (.reg (opn 1 .done)) (.reg (opn 1 .done))) (.one (.draw (.take 0 (.hold 1 (.take 2 (.take 3 (.take 4 (.hold 5 (.alts (.eff 6 (.take 7 (.alts (.eff 8 .done .nil))) .nil))))))))))))) (.reg (opn 6 .done)))))) (.reg (opn 2 .done)))))))) (.seq (.seq (.reg (opn 4 .done)) (.one (.loop [147] [148, 149, 24, 150, 151, 152, 153, 154, 155, 156, 157, 158, 159, 160, 147] (.seq (.reg (opn 1 .done)) (.seq (.cond .leaf .leaf) (.seq (.one (.seq (.reg (opn 2 .done)) (.draw (.take 0 (.hold 1 (.take 2 (.take 3 (.hold 4 (.take 5 (.take 6 (.hold 7 (.alts (.eff 8 (.take 9 (.alts (.eff 10 .done .nil))) .nil))))))))))))) (.reg (opn 2 .done)))))))) (.seq (.seq (.reg (opn 4 .done)) (.one (.loop [164] [165, 166, 25, 167, 168, 169, 170, 171, 172, 173, 174, 175, 176, 177, 164] (.seq (.reg (opn 1 .done)) (.seq (.cond .leaf .leaf) (.seq (.one (.seq (.reg (opn 2 .done)) (.draw (.take 0 (.hold 1 (.take 2 (.take 3 (.hold 4 (.take 5 (.take 6 (.hold 7 (.alts (.eff 8 (.take 9 (.alts (.eff 10 .done .nil))) .nil))))))))))))) (.reg (opn 2 .done)))))))) (.seq (.seq (.reg (opn 4 .done)) (.one (.loop [181] [182, 183, 184, 27, 185, 186, 187, 188, 189, 190, 191, 192, 193, 194, 195, 196, 197, 198, 181] (.seq (.reg (opn 1 .done)) (.seq (.cond .leaf .leaf) (.seq (.one (.seq (.reg (opn 4 .done)) (.draw (.take 0 (.hold 1 (.take 2 (.hold 3 (.hold 4 (.take 5 (.hold 6 (.take 7 (.hold 8 (.take 9 (.alts (.eff 10 (.alts (.eff 11 (.take 12 (.alts (.eff 13 .done .nil))) .nil)) .nil))))))))))))))) (.reg (opn 2 .done)))))))) (.seq (.reg (opn 5 .done)) (.seq (.draw (.hold 0 (.hold 1 (.alts (.eff 2 (.take 3 (.take 4 .done)) .nil))))) .leaf))))))))))))))))))
def vc20 (R : Value → World → Prop) (w : World) (t0 : Value) : Prop :=
 V (bx 28 t0) w fun t1 w =>
 V (al 28) w fun t2 w =>
 V (ld 28 t1) w fun t29 w =>
 CV (.func (.func 15) #[] #[]) #[t29] w fun t30 w =>
 V (ex t30 0) w fun t31 w =>
 V (ex t30 1) w fun t32 w =>
 V (eq .neq 31 (.tmp 33) (.const (.int .i64 0)) t31 (.int .i64 0)) w fun t34 w =>
 CondW t34
 (V (bd 28 #[]) w fun t35 w =>
 U (st 28 t2 t35) w fun w =>
 CW 28 t2 w fun t1002 => R (.tuple #[t1002, (.slice none 0 0), t31]) w)
 (V (ld 28 t1) w fun t37 w =>
 CV (.func (.func 22) #[] #[]) #[t37] w fun t38 w =>
 V (fa 28 t1 5) w fun t39 w =>
 V (ld 26 t39) w fun t40 w =>
 V (Builtin.len_ #[26] 3 #[t40]) w fun t41 w =>
 V (ms 45 t41 t41) w fun t42 w =>
 V (al 45) w fun t8 w =>
 U (st 45 t8 t42) w fun w =>
 V (al 28) w fun t9 w =>
 V (mm 115 none) w fun t43 w =>
 V (mm 115 none) w fun t44 w =>
 V (mm 115 none) w fun t45 w =>
 V (bd 117 #[(0, t43), (1, t44), (2, t45)]) w fun t46 w =>
 V (al 117) w fun t10 w =>
 U (st 117 t10 t46) w fun w =>
 V (fa 28 t1 5) w fun t47 w =>
 V (ld 26 t47) w fun t48 w =>
 V (Builtin.len_ #[26] 3 #[t48]) w fun t49 w =>
 ∃ (I0 : List Value → World → Prop) (M0 : List Value → World → Nat), I0 [undef, (.int .i64 0)] w ∧ ∀ g : Env, ∀ t205, ∀ t50, ∀ w, I0 [t205, t50] w → ∀ m0, m0 = M0 [t205, t50] w →
 V (bi .lss 3 t50 t49) w fun t51 w =>
 CondW t51
 (∀ K0 : List Value → World → Prop, (∀ t205a, ∀ w, (∀ g : Env,
 V (bi .add 3 t50 (.int .i64 1)) w fun t87 w =>
 I0 [t205a, t87] w ∧ M0 [t205a, t87] w < m0) → K0 [t205a] w) →
 V (ia 26 t48 t50) w fun t53 w =>
 V (ld 38 t53) w fun t54 w =>
 V (al 38) w fun t12 w =>
 U (st 38 t12 t54) w fun w =>
 V (ld 45 t8) w fun t55 w =>
 V (ia 45 t55 t50) w fun t57 w =>
 U (st 3 t57 (.int .i64 (-1))) w fun w =>
 V (ia 49 t38 t50) w fun t60 w =>
 V (ld 4 t60) w fun t61 w =>
 V (un .not t61) w fun t62 w =>
 CondW t62
 (K0 [t205] w)
 (V (ld 45 t8) w fun t63 w =>
 V (fa 28 t9 5) w fun t65 w =>
 V (ld 26 t65) w fun t66 w =>
 V (Builtin.len_ #[26] 3 #[t66]) w fun t67 w =>
 V (ia 45 t63 t50) w fun t68 w =>
 U (st 3 t68 t67) w fun w =>
 CV (.func (.func 61) #[] #[]) #[t12] w fun t69 w =>
 ∀ (lp0 : Loop) (r0 l0 : Nat) (w1 : World), NewRF w w1 r0 l0 lp0 →
 (∀ (w : World) (Kl0 : Value → World → Prop), ∀ t70, ∀ t71, (BeginW l0 lp0 w fun w =>
 V (ld 117 t10) w fun t72 w =>
 CV (.func (.func 62) #[] #[]) #[t72, t70] w fun t74 w =>
 V (eq .neq 115 (.tmp 75) (.const (.map none)) t74 (.map none)) w fun t76 w =>
 CondW t76
 (NilW t71 fun t79 => V (ld 3 t79) w fun t80 w =>
 U (mu 115 t74 t80 (.bool true)) w fun w =>
 EndW l0 lp0 none w Kl0)
 (EndW l0 lp0 none w Kl0)) → w.heap[l0]? = some (lobj lp0 .ready none) → CV (.func (.yield l0) #[] #[]) #[t70, t71] w Kl0) →
 CE t69 #[.func (.yield l0) #[] #[]] w1 fun _ w => RfEnd l0 lp0 w (fun w =>
 V (fa 28 t9 5) w fun t81 w =>
 V (ld 26 t81) w fun t82 w =>
 V (ld 38 t12) w fun t83 w =>
 V (bs 26 1 #[(0, t83)]) w fun t84 w =>
 V (Builtin.append_ #[26, 26] 26 #[t82, t84]) w fun t85 w =>
 V (fa 28 t9 5) w fun t86 w =>
 U (st 26 t86 t85) w fun w =>
 K0 [(.iface r0 t205)] w) (fun w =>
 TakeW (marks (.iface r0 t205)) w fun w =>
 CW 28 t2 w fun t1002 => R (.tuple #[t1002, (.slice none 0 0), (.int .i64 0)]) w) []))
 (V (al 124) w fun t16 w =>
 V (al 124) w fun t17 w =>
 V (al 124) w fun t18 w =>
 V (fa 28 t1 0) w fun t89 w =>
 V (ld 22 t89) w fun t90 w =>
 V (fa 117 t10 0) w fun t91 w =>
 V (ld 115 t91) w fun t92 w =>
 CV (.func (.func 63) #[] #[]) #[t90, t92] w fun t93 w =>
 V (ex t93 0) w fun t94 w =>
 V (ex t93 1) w fun t95 w =>
 V (fa 28 t9 0) w fun t96 w =>
 U (st 22 t96 t94) w fun w =>
 U (st 124 t16 t95) w fun w =>
 V (fa 28 t1 1) w fun t98 w =>
 V (ld 23 t98) w fun t99 w =>
 V (fa 117 t10 1) w fun t100 w =>
 V (ld 115 t100) w fun t101 w =>
 CV (.func (.func 64) #[] #[]) #[t99, t101] w fun t102 w =>
 V (ex t102 0) w fun t103 w =>
 V (ex t102 1) w fun t104 w =>
 V (fa 28 t9 1) w fun t105 w =>
 U (st 23 t105 t103) w fun w =>
 U (st 124 t17 t104) w fun w =>
 V (fa 28 t1 2) w fun t107 w =>
 V (ld 24 t107) w fun t108 w =>
 V (fa 117 t10 2) w fun t109 w =>
 V (ld 115 t109) w fun t110 w =>
 CV (.func (.func 65) #[] #[]) #[t108, t110] w fun t111 w =>
 V (ex t111 0) w fun t112 w =>
 V (ex t111 1) w fun t113 w =>
 V (fa 28 t9 2) w fun t114 w =>
 U (st 24 t114 t112) w fun w =>
 U (st 124 t18 t113) w fun w =>
 V (al 131) w fun t19 w =>
 U (st 131 t19 (.func (.func 66) #[] #[t8, t17, t18, t10, t16])) w fun w =>
 V (fa 28 t9 5) w fun t116 w =>
 V (ld 26 t116) w fun t117 w =>
 V (Builtin.len_ #[26] 3 #[t117]) w fun t118 w =>
 ∃ (I1 : List Value → World → Prop) (M1 : List Value → World → Nat), I1 [t205, (.int .i64 0)] w ∧ ∀ g : Env, ∀ t205a, ∀ t119, ∀ w, I1 [t205a, t119] w → ∀ m1, m1 = M1 [t205a, t119] w →
 V (bi .lss 3 t119 t118) w fun t120 w =>
 CondW t120
 (V (fa 28 t9 5) w fun t122 w =>
 V (ld 26 t122) w fun t123 w =>
 V (ia 26 t123 t119) w fun t125 w =>
 V (ld 38 t125) w fun t126 w =>
 V (al 38) w fun t21 w =>
 U (st 38 t21 t126) w fun w =>
 CV (.func (.func 61) #[] #[]) #[t21] w fun t127 w =>
 ∀ (lp0 : Loop) (r0 l0 : Nat) (w1 : World), NewRF w w1 r0 l0 lp0 →
 (∀ (w : World) (Kl0 : Value → World → Prop), ∀ t128, ∀ t129, (BeginW l0 lp0 w fun w =>
 Dr w fun w =>
 HV (ld 131 t19) w fun t131 =>
 NilW t129 fun t134 => HV (ld 3 t134) w fun t135 =>
 CV t131 #[t128, t135] w fun t136 w =>
 NilW t129 fun t137 => U (st 3 t137 t136) w fun w =>
 EndW l0 lp0 none w Kl0) → w.heap[l0]? = some (lobj lp0 .ready none) → CV (.func (.yield l0) #[] #[]) #[t128, t129] w Kl0) →
 CE t127 #[.func (.yield l0) #[] #[]] w1 fun _ w => RfEnd l0 lp0 w (fun w =>
 V (fa 28 t9 5) w fun t138 w =>
 V (ld 26 t138) w fun t139 w =>
 V (ld 38 t21) w fun t141 w =>
 V (ia 26 t139 t119) w fun t142 w =>
 U (st 38 t142 t141) w fun w =>
 V (bi .add 3 t119 (.int .i64 1)) w fun t143 w =>
 I1 [(.iface r0 t205a), t143] w ∧ M1 [(.iface r0 t205a), t143] w < m1) (fun w =>
 TakeW (marks (.iface r0 t205a)) w fun w =>
 CW 28 t2 w fun t1002 => R (.tuple #[t1002, (.slice none 0 0), (.int .i64 0)]) w) [])
 (V (fa 28 t9 1) w fun t144 w =>
 V (ld 23 t144) w fun t145 w =>
 V (Builtin.len_ #[23] 3 #[t145]) w fun t146 w =>
 ∃ (I2 : List Value → World → Prop) (M2 : List Value → World → Nat), I2 [(.int .i64 0)] w ∧ ∀ g : Env, ∀ t147, ∀ w, I2 [t147] w → ∀ m2, m2 = M2 [t147] w →
 V (bi .lss 3 t147 t146) w fun t148 w =>
 CondW t148
 (Dr w fun w =>
 PV (fa 28 t9 1) fun t150 =>
 HV (ld 23 t150) w fun t151 =>
 PV (fa 28 t9 1) fun t153 =>
 HV (ld 23 t153) w fun t154 =>
 PV (ia 23 t154 t147) fun t156 =>
 HV (ld 93 t156) w fun t157 =>
 CV (.func (.func 67) #[] #[]) #[t157] w fun t158 w =>
 RunIs (ld 23 t153) w t154 ∧ RunIs (ld 23 t150) w t151 ∧ (PV (ia 23 t151 t147) fun t159 =>
 U (st 93 t159 t158) w fun w =>
 V (bi .add 3 t147 (.int .i64 1)) w fun t160 w =>
 I2 [t160] w ∧ M2 [t160] w < m2))
 (V (fa 28 t9 2) w fun t161 w =>
 V (ld 24 t161) w fun t162 w =>
 V (Builtin.len_ #[24] 3 #[t162]) w fun t163 w =>
 ∃ (I3 : List Value → World → Prop) (M3 : List Value → World → Nat), I3 [(.int .i64 0)] w ∧ ∀ g : Env, ∀ t164, ∀ w, I3 [t164] w → ∀ m3, m3 = M3 [t164] w →
 V (bi .lss 3 t164 t163) w fun t165 w =>
 CondW t165
 (Dr w fun w =>
 PV (fa 28 t9 2) fun t167 =>
 HV (ld 24 t167) w fun t168 =>
 PV (fa 28 t9 2) fun t170 =>
 HV (ld 24 t170) w fun t171 =>
 PV (ia 24 t171 t164) fun t173 =>
 HV (ld 96 t173) w fun t174 =>
 CV (.func (.func 68) #[] #[]) #[t174] w fun t175 w =>
 RunIs (ld 24 t170) w t171 ∧ RunIs (ld 24 t167) w t168 ∧ (PV (ia 24 t168 t164) fun t176 =>
 U (st 96 t176 t175) w fun w =>
 V (bi .add 3 t164 (.int .i64 1)) w fun t177 w =>
 I3 [t177] w ∧ M3 [t177] w < m3))
 (V (fa 28 t1 3) w fun t178 w =>
 V (ld 25 t178) w fun t179 w =>
 V (Builtin.len_ #[25] 3 #[t179]) w fun t180 w =>
 ∃ (I4 : List Value → World → Prop) (M4 : List Value → World → Nat), I4 [(.int .i64 0)] w ∧ ∀ g : Env, ∀ t181, ∀ w, I4 [t181] w → ∀ m4, m4 = M4 [t181] w →
 V (bi .lss 3 t181 t180) w fun t182 w =>
 CondW t182
 (V (ia 25 t179 t181) w fun t183 w =>
 V (ld 54 t183) w fun t184 w =>
 V (al 54) w fun t27 w =>
 U (st 54 t27 t184) w fun w =>
 Dr w fun w =>
 PV (fa 28 t9 3) fun t185 =>
 HV (ld 25 t185) w fun t186 =>
 PV (fa 54 t27 0) fun t187 =>
 HV (ld 9 t187) w fun t188 =>
 HV (ld 45 t8) w fun t189 =>
 PV (fa 54 t27 1) fun t190 =>
 HV (ld 3 t190) w fun t191 =>
 PV (ia 45 t189 t191) fun t192 =>
 HV (ld 3 t192) w fun t193 =>
 PV (bd 54 #[(0, t188), (1, t193)]) fun t194 =>
 V (bs 25 1 #[(0, t194)]) w fun t195 w =>
 RunIs (ld 3 t192) w t193 ∧ RunIs (ld 3 t190) w t191 ∧ RunIs (ld 45 t8) w t189 ∧ RunIs (ld 9 t187) w t188 ∧ RunIs (ld 25 t185) w t186 ∧ (V (Builtin.append_ #[25, 25] 25 #[t186, t195]) w fun t196 w =>
 RunIs (ld 3 t192) w t193 ∧ RunIs (ld 3 t190) w t191 ∧ RunIs (ld 45 t8) w t189 ∧ RunIs (ld 9 t187) w t188 ∧ (PV (fa 28 t9 3) fun t197 =>
 U (st 25 t197 t196) w fun w =>
 V (bi .add 3 t181 (.int .i64 1)) w fun t198 w =>
 I4 [t198] w ∧ M4 [t198] w < m4)))
 (V (fa 28 t1 4) w fun t199 w =>
 V (ld 22 t199) w fun t200 w =>
 CV (.func (.func 69) #[] #[]) #[t200] w fun t201 w =>
 V (fa 28 t9 4) w fun t202 w =>
 U (st 22 t202 t201) w fun w =>
 Dr w fun w =>
 HV (ld 28 t9) w fun t203 =>
 HV (ld 45 t8) w fun t204 =>
 U (st 28 t2 t203) w fun w =>
 RunIs (ld 45 t8) w t204 ∧ (TakeW (marks t205a) w fun w =>
 CW 28 t2 w fun t1002 => R (.tuple #[t1002, t204, (.int .i64 0)]) w)))))))
theorem eq20 (R : Value → World → Prop) (w : World) (t0 : Value) : enterW Tryz.prog Tryz.f20 an20 [t0] w R = vc20 R w t0 := by kernel_rfl
theorem en20 {R : Value → World → Prop} {w : World} {t0 : Value} (h : vc20 R w t0) : Calls Tryz.prog 20 #[t0] w (retK R) :=
  calls_of_enter mixed Tryz.func20 (by kernel_rfl) (by rw [eq20]; exact h)

def an22 : Ann := (.seq (.reg (opn 2 .done)) (.seq (.seq (.reg (opn 5 (.join [16] [12, 13, 14, 15, 16] (.split 11 (opn 5 .done) (opn 5 .done)) (opn 1 (.join [22] [18, 19, 20, 21, 22] (.split 17 (opn 5 .done) (opn 5 .done)) .done))))) (.cond (.seq (.reg (opn 1 .done)) .leaf) .leaf)) (.seq (.reg (opn 5 .done)) (.seq (.reg (opn 4 .done)) (.seq (.one (.loop [60] [29, 30, 31, 32, 33, 34, 35, 36, 37, 5, 38, 39, 40, 41, 42, 43, 44, 45, 46, 47, 48, 49, 50, 51, 52, 60] (.seq (.seq (.reg (opn 3 .done)) (.cond .leaf .leaf)) (.one (.seq (.reg (opn 7 .done)) (.seq (.reg (opn 6 .done)) (.seq (.seq (.reg (opn 4 .done)) (.cond .leaf .leaf)) (.seq (.reg (opn 4 .done)) (.seq (.reg (opn 3 .done)) (.one (.rf [] (.reg (opn 1 .done)) (.one (.reg (opn 5 .done)))))))))))))) (.seq (.reg (opn 2 .done)) .leaf))))))
def vc22 (R : Value → World → Prop) (w : World) (t0 : Value) : Prop :=
 V (bx 28 t0) w fun t1 w =>
 V (fa 28 t1 5) w fun t7 w =>
 V (ld 26 t7) w fun t8 w =>
 V (Builtin.len_ #[26] 3 #[t8]) w fun t9 w =>
 V (bi .gtr 3 t9 (.int .i64 12000)) w fun t10 w =>
 ∀ K0 : List Value → World → Prop, (∀ t16, ∀ w, (∀ g : Env,
 ∀ K0 : List Value → World → Prop, (∀ t22, ∀ w, (∀ g : Env,
 CondW t22
 (R (.slice none 0 0) w)
 (V (fa 28 t1 5) w fun t23 w =>
 V (ld 26 t23) w fun t24 w =>
 V (Builtin.len_ #[26] 3 #[t24]) w fun t25 w =>
 V (ms 49 t25 t25) w fun t26 w =>
 V (ld 28 t1) w fun t27 w =>
 CV (.func (.func 73) #[] #[]) #[t27] w fun t28 w =>
 V (al 45) w fun t4 w =>
 U (st 45 t4 t28) w fun w =>
 ∃ (I0 : List Value → World → Prop) (M0 : List Value → World → Nat), I0 [undef] w ∧ ∀ g : Env, ∀ t60, ∀ w, I0 [t60] w → ∀ m0, m0 = M0 [t60] w →
 V (ld 45 t4) w fun t29 w =>
 V (Builtin.len_ #[45] 3 #[t29]) w fun t30 w =>
 V (bi .gtr 3 t30 (.int .i64 0)) w fun t31 w =>
 CondW t31
 (V (ld 45 t4) w fun t32 w =>
 V (ld 45 t4) w fun t33 w =>
 V (Builtin.len_ #[45] 3 #[t33]) w fun t34 w =>
 V (bi .sub 3 t34 (.int .i64 1)) w fun t35 w =>
 V (ia 45 t32 t35) w fun t36 w =>
 V (ld 3 t36) w fun t37 w =>
 V (ld 45 t4) w fun t38 w =>
 V (ld 45 t4) w fun t39 w =>
 V (Builtin.len_ #[45] 3 #[t39]) w fun t40 w =>
 V (bi .sub 3 t40 (.int .i64 1)) w fun t41 w =>
 V (sl 45 t38 none (some t41) none) w fun t42 w =>
 U (st 45 t4 t42) w fun w =>
 V (ia 49 t26 t37) w fun t45 w =>
 V (ld 4 t45) w fun t46 w =>
 CondW t46
 (I0 [t60] w ∧ M0 [t60] w < m0)
 (V (ia 49 t26 t37) w fun t49 w =>
 U (st 4 t49 (.bool true)) w fun w =>
 V (ld 28 t1) w fun t50 w =>
 CV (.func (.func 74) #[] #[]) #[t50, t37] w fun t52 w =>
 ∀ (lp0 : Loop) (r0 l0 : Nat) (w1 : World), NewRF w w1 r0 l0 lp0 →
 (∀ (w : World) (Kl0 : Value → World → Prop), ∀ t53, ∀ t54, (BeginW l0 lp0 w fun w =>
 V (ld 45 t4) w fun t55 w =>
 V (bs 45 1 #[(0, t53)]) w fun t57 w =>
 V (Builtin.append_ #[45, 45] 45 #[t55, t57]) w fun t58 w =>
 U (st 45 t4 t58) w fun w =>
 EndW l0 lp0 none w Kl0) → w.heap[l0]? = some (lobj lp0 .ready none) → CV (.func (.yield l0) #[] #[]) #[t53, t54] w Kl0) →
 CE t52 #[.func (.yield l0) #[] #[]] w1 fun _ w => RfEnd l0 lp0 w (fun w =>
 I0 [(.iface r0 t60)] w ∧ M0 [(.iface r0 t60)] w < m0) (fun w =>
 TakeW (marks (.iface r0 t60)) w fun w =>
 R (.slice none 0 0) w) []))
 (TakeW (marks t60) w fun w =>
 R t26 w))) → K0 [t22] w) →
 CondW t16
 (K0 [(.bool true)] w)
 (V (fa 28 t1 5) w fun t18 w =>
 V (ld 26 t18) w fun t19 w =>
 V (Builtin.len_ #[26] 3 #[t19]) w fun t20 w =>
 V (eq .eql 3 (.tmp 20) (.const (.int .i64 0)) t20 (.int .i64 0)) w fun t21 w =>
 K0 [t21] w)) → K0 [t16] w) →
 CondW t10
 (K0 [(.bool true)] w)
 (V (fa 28 t1 3) w fun t12 w =>
 V (ld 25 t12) w fun t13 w =>
 V (Builtin.len_ #[25] 3 #[t13]) w fun t14 w =>
 V (bi .gtr 3 t14 (.int .i64 3000)) w fun t15 w =>
 K0 [t15] w)
theorem eq22 (R : Value → World → Prop) (w : World) (t0 : Value) : enterW Tryz.prog Tryz.f22 an22 [t0] w R = vc22 R w t0 := by kernel_rfl
theorem en22 {R : Value → World → Prop} {w : World} {t0 : Value} (h : vc22 R w t0) : Calls Tryz.prog 22 #[t0] w (retK R) :=
  calls_of_enter mixed Tryz.func22 (by kernel_rfl) (by rw [eq22]; exact h)

def an23 : Ann := (.seq (.reg (opn 4 .done)) (.seq (.seq (.reg (opn 7 .done)) (.seq (.reg (opn 2 .done)) (.cond (.seq (.reg (opn 4 .done)) .leaf) .leaf))) (.seq (.reg (opn 9 .done)) (.seq (.reg (opn 5 .done)) .leaf))))
def vc23 (R : Value → World → Prop) (w : World) (t0 : Value) : Prop :=
 V (bx 28 t0) w fun t1 w =>
 V (ld 28 t1) w fun t11 w =>
 CV (.func (.func 15) #[] #[]) #[t11] w fun t12 w =>
 V (ex t12 0) w fun t13 w =>
 V (ex t12 1) w fun t14 w =>
 V (eq .neq 31 (.tmp 15) (.const (.int .i64 0)) t13 (.int .i64 0)) w fun t16 w =>
 CondW t16
 (R (.tuple #[(.slice none 0 0), (.slice none 0 0), t13]) w)
 (V (ld 28 t1) w fun t19 w =>
 CV (.func (.func 50) #[] #[]) #[t19] w fun t20 w =>
 V (ex t20 0) w fun t21 w =>
 V (ex t20 1) w fun t22 w =>
 V (ex t20 2) w fun t23 w =>
 R (.tuple #[t21, t22, (.int .i64 0)]) w)
theorem eq23 (R : Value → World → Prop) (w : World) (t0 : Value) : enterW Tryz.prog Tryz.f23 an23 [t0] w R = vc23 R w t0 := by kernel_rfl
theorem en23 {R : Value → World → Prop} {w : World} {t0 : Value} (h : vc23 R w t0) : Calls Tryz.prog 23 #[t0] w (retK R) :=
  calls_of_enter mixed Tryz.func23 (by kernel_rfl) (by rw [eq23]; exact h)

def an24 : Ann := (.seq (.reg (opn 2 .done)) (.seq (.seq (.reg (opn 5 (.join [16] [12, 13, 14, 15, 16] (.split 11 (opn 5 .done) (opn 5 .done)) (opn 1 (.join [25] [18, 19, 20, 21, 22, 23, 24, 25] (.split 17 (opn 8 .done) (opn 8 .done)) .done))))) (.cond (.seq (.reg (opn 1 .done)) .leaf) .leaf)) (.seq (.reg (opn 1 .done)) (.seq (.seq (.reg (opn 3 .done)) (.one (.rf [] (.reg (opn 1 .done)) (.one (.seq (.reg (opn 4 .done)) (.cond (.reg (opn 5 .done)) .leaf)))))) (.seq (.reg (opn 2 .done)) .leaf)))))
def vc24 (R : Value → World → Prop) (w : World) (t0 t1 : Value) : Prop :=
 V (bx 28 t0) w fun t2 w =>
 V (fa 28 t2 5) w fun t7 w =>
 V (ld 26 t7) w fun t8 w =>
 V (Builtin.len_ #[26] 3 #[t8]) w fun t9 w =>
 V (bi .gtr 3 t9 (.int .i64 12000)) w fun t10 w =>
 ∀ K0 : List Value → World → Prop, (∀ t16, ∀ w, (∀ g : Env,
 ∀ K0 : List Value → World → Prop, (∀ t25, ∀ w, (∀ g : Env,
 CondW t25
 (R (.slice none 0 0) w)
 (V (al 45) w fun t5 w =>
 V (ld 28 t2) w fun t26 w =>
 CV (.func (.func 74) #[] #[]) #[t26, t1] w fun t28 w =>
 ∀ (lp0 : Loop) (r0 l0 : Nat) (w1 : World), NewRF w w1 r0 l0 lp0 →
 (∀ (w : World) (Kl0 : Value → World → Prop), ∀ t29, ∀ t30, (BeginW l0 lp0 w fun w =>
 V (ld 45 t5) w fun t31 w =>
 CV (.func (.func 76) #[] #[]) #[t31, t29] w fun t33 w =>
 V (un .not t33) w fun t34 w =>
 CondW t34
 (V (ld 45 t5) w fun t35 w =>
 V (bs 45 1 #[(0, t29)]) w fun t37 w =>
 V (Builtin.append_ #[45, 45] 45 #[t35, t37]) w fun t38 w =>
 U (st 45 t5 t38) w fun w =>
 EndW l0 lp0 none w Kl0)
 (EndW l0 lp0 none w Kl0)) → w.heap[l0]? = some (lobj lp0 .ready none) → CV (.func (.yield l0) #[] #[]) #[t29, t30] w Kl0) →
 CE t28 #[.func (.yield l0) #[] #[]] w1 fun _ w => RfEnd l0 lp0 w (fun w =>
 V (ld 45 t5) w fun t39 w =>
 Take1 r0 w fun w =>
 R t39 w) (fun w =>
 Take1 r0 w fun w =>
 R (.slice none 0 0) w) [])) → K0 [t25] w) →
 CondW t16
 (K0 [(.bool true)] w)
 (V (fa 28 t2 5) w fun t19 w =>
 V (ld 26 t19) w fun t20 w =>
 V (Builtin.len_ #[26] 3 #[t20]) w fun t21 w =>
 V (bi .sub 3 t21 (.int .i64 1)) w fun t22 w =>
 CV (.func (.func 75) #[] #[]) #[t1, (.int .i64 0), t22] w fun t23 w =>
 V (un .not t23) w fun t24 w =>
 K0 [t24] w)) → K0 [t16] w) →
 CondW t10
 (K0 [(.bool true)] w)
 (V (fa 28 t2 3) w fun t12 w =>
 V (ld 25 t12) w fun t13 w =>
 V (Builtin.len_ #[25] 3 #[t13]) w fun t14 w =>
 V (bi .gtr 3 t14 (.int .i64 3000)) w fun t15 w =>
 K0 [t15] w)
theorem eq24 (R : Value → World → Prop) (w : World) (t0 t1 : Value) : enterW Tryz.prog Tryz.f24 an24 [t0, t1] w R = vc24 R w t0 t1 := by kernel_rfl
theorem en24 {R : Value → World → Prop} {w : World} {t0 t1 : Value} (h : vc24 R w t0 t1) : Calls Tryz.prog 24 #[t0, t1] w (retK R) :=
  calls_of_enter mixed Tryz.func24 (by kernel_rfl) (by rw [eq24]; exact h)

def an30 : Ann := (.seq (.reg (opn 1 .done)) (.seq (.seq (.reg (opn 5 .done)) (.cond (.seq (.reg (opn 1 .done)) .leaf) .leaf)) (.seq (.seq (.reg (opn 1 .done)) (.one (.loop [5] [11, 12, 13, 14, 17, 18, 19, 20, 21, 22, 23, 24, 25, 4, 15, 16, 5] (.seq (.seq (.reg (opn 4 .done)) (.cond .leaf .leaf)) (.seq (.one (.seq (.draw (.take 0 (.take 1 (.take 2 (.hold 3 (.take 4 (.take 5 (.take 6 (.hold 7 (.take 8 .done)))))))))) (.cond (.seq (.reg (opn 1 .done)) .leaf) .leaf))) (.reg (opn 3 .done))))))) (.seq (.reg (opn 1 .done)) .leaf))))
def vc30 (R : Value → World → Prop) (w : World) (t0 t1 : Value) : Prop :=
 V (Builtin.len_ #[45] 3 #[t0]) w fun t7 w =>
 V (Builtin.len_ #[45] 3 #[t1]) w fun t9 w =>
 V (eq .neq 3 (.tmp 7) (.tmp 9) t7 t9) w fun t10 w =>
 CondW t10
 (R (.bool false) w)
 (∃ (I0 : List Value → World → Prop) (M0 : List Value → World → Nat), I0 [(.int .i64 0)] w ∧ ∀ g : Env, ∀ t5, ∀ w, I0 [t5] w → ∀ m0, m0 = M0 [t5] w →
 V (Builtin.len_ #[45] 3 #[t0]) w fun t13 w =>
 V (bi .lss 3 t5 t13) w fun t14 w =>
 CondW t14
 (Dr w fun w =>
 PV (ia 45 t0 t5) fun t19 =>
 HV (ld 3 t19) w fun t20 =>
 PV (ia 45 t1 t5) fun t23 =>
 HV (ld 3 t23) w fun t24 =>
 PV (eq .neq 3 (.tmp 20) (.tmp 24) t20 t24) fun t25 =>
 CondW t25
 (R (.bool false) w)
 (V (bi .add 3 t5 (.int .i64 1)) w fun t16 w =>
 I0 [t16] w ∧ M0 [t16] w < m0))
 (R (.bool true) w))
theorem eq30 (R : Value → World → Prop) (w : World) (t0 t1 : Value) : enterW Tryz.prog Tryz.f30 an30 [t0, t1] w R = vc30 R w t0 t1 := by kernel_rfl
theorem en30 {R : Value → World → Prop} {w : World} {t0 t1 : Value} (h : vc30 R w t0 t1) : Calls Tryz.prog 30 #[t0, t1] w (retK R) :=
  calls_of_enter mixed Tryz.func30 (by kernel_rfl) (by rw [eq30]; exact h)

def an34 : Ann := (.seq (.reg (opn 1 .done)) (.seq (.reg (opn 4 (.join [14] [11, 12, 13, 14] (.split 10 (opn 4 .done) (opn 4 .done)) (opn 1 (.join [20] [16, 17, 18, 19, 20] (.split 15 (opn 5 .done) (opn 5 .done)) (opn 1 .done)))))) .leaf))
def vc34 (R : Value → World → Prop) (w : World) (t0 t1 t2 : Value) : Prop :=
 V (bi .gtr 3 t0 t1) w fun t9 w =>
 ∀ K0 : List Value → World → Prop, (∀ t14, ∀ w, (∀ g : Env,
 ∀ K0 : List Value → World → Prop, (∀ t20, ∀ w, (∀ g : Env,
 R t20 w) → K0 [t20] w) →
 CondW t14
 (K0 [(.bool true)] w)
 (V (bi .add 3 t2 (.int .i64 20)) w fun t18 w =>
 V (bi .gtr 3 t0 t18) w fun t19 w =>
 K0 [t19] w)) → K0 [t14] w) →
 CondW t9
 (V (bi .leq 3 t0 t2) w fun t13 w =>
 K0 [t13] w)
 (K0 [(.bool false)] w)
theorem eq34 (R : Value → World → Prop) (w : World) (t0 t1 t2 : Value) : enterW Tryz.prog Tryz.f34 an34 [t0, t1, t2] w R = vc34 R w t0 t1 t2 := by kernel_rfl
theorem en34 {R : Value → World → Prop} {w : World} {t0 t1 t2 : Value} (h : vc34 R w t0 t1 t2) : Calls Tryz.prog 34 #[t0, t1, t2] w (retK R) :=
  calls_of_enter mixed Tryz.func34 (by kernel_rfl) (by rw [eq34]; exact h)

def an35 : Ann := (.seq (.reg (opn 3 .done)) (.seq (.seq (.reg (opn 7 .done)) (.seq (.reg (opn 2 .done)) (.cond (.seq (.reg (opn 3 .done)) .leaf) .leaf))) (.seq (.reg (opn 5 .done)) (.seq (.reg (opn 6 .done)) (.seq (.reg (opn 5 .done)) (.seq (.reg (opn 5 .done)) (.seq (.reg (opn 6 .done)) (.seq (.reg (opn 6 .done)) (.seq (.reg (opn 6 .done)) (.seq (.seq (.reg (opn 6 .done)) (.cond (.seq (.reg (opn 2 .done)) .leaf) .leaf)) (.seq (.reg (opn 6 .done)) .leaf)))))))))))
def vc35 (R : Value → World → Prop) (w : World) (t0 : Value) : Prop :=
 V (bx 28 t0) w fun t1 w =>
 V (ld 28 t1) w fun t8 w =>
 CV (.func (.func 15) #[] #[]) #[t8] w fun t9 w =>
 V (ex t9 0) w fun t10 w =>
 V (ex t9 1) w fun t11 w =>
 V (eq .neq 31 (.tmp 12) (.const (.int .i64 0)) t10 (.int .i64 0)) w fun t13 w =>
 CondW t13
 (R (.tuple #[(.slice none 0 0), t10]) w)
 (V (bs 55 1 #[(0, (.int .u8 81))]) w fun t15 w =>
 V (bd 156 #[(0, t15)]) w fun t16 w =>
 V (bx 156 t16) w fun t17 w =>
 V (al 154) w fun t6 w =>
 U (st 154 t6 t17) w fun w =>
 V (ld 154 t6) w fun t18 w =>
 V (fa 28 t1 0) w fun t19 w =>
 V (ld 22 t19) w fun t20 w =>
 V (ld 154 t6) w fun t21 w =>
 CV (.func (.func 91) #[] #[]) #[t18, t20, (.func (.func 92) #[t21] #[])] w fun t23 w =>
 V (ld 154 t6) w fun t24 w =>
 V (fa 28 t1 1) w fun t25 w =>
 V (ld 23 t25) w fun t26 w =>
 CV (.func (.func 93) #[] #[]) #[t24, t26, (.func (.func 94) #[] #[t6])] w fun t28 w =>
 V (ld 154 t6) w fun t29 w =>
 V (fa 28 t1 2) w fun t30 w =>
 V (ld 24 t30) w fun t31 w =>
 CV (.func (.func 97) #[] #[]) #[t29, t31, (.func (.func 98) #[] #[t6])] w fun t33 w =>
 V (ld 154 t6) w fun t34 w =>
 V (fa 28 t1 3) w fun t35 w =>
 V (ld 25 t35) w fun t36 w =>
 V (ld 154 t6) w fun t37 w =>
 CV (.func (.func 101) #[] #[]) #[t34, t36, (.func (.func 102) #[t37] #[])] w fun t39 w =>
 V (ld 154 t6) w fun t40 w =>
 V (fa 28 t1 4) w fun t41 w =>
 V (ld 22 t41) w fun t42 w =>
 V (ld 154 t6) w fun t43 w =>
 CV (.func (.func 91) #[] #[]) #[t40, t42, (.func (.func 92) #[t43] #[])] w fun t45 w =>
 V (ld 154 t6) w fun t46 w =>
 V (fa 28 t1 5) w fun t47 w =>
 V (ld 26 t47) w fun t48 w =>
 V (ld 154 t6) w fun t49 w =>
 CV (.func (.func 103) #[] #[]) #[t46, t48, (.func (.func 104) #[t49] #[])] w fun t51 w =>
 V (ld 154 t6) w fun t52 w =>
 NilW t52 fun t53 => V (fa 156 t53 0) w fun t54 w =>
 V (ld 55 t54) w fun t55 w =>
 V (Builtin.len_ #[55] 3 #[t55]) w fun t56 w =>
 V (bi .gtr 3 t56 (.int .i64 400000)) w fun t57 w =>
 CondW t57
 (R (.tuple #[(.slice none 0 0), (.int .i64 3)]) w)
 (V (ld 154 t6) w fun t58 w =>
 NilW t58 fun t59 => V (fa 156 t59 0) w fun t60 w =>
 V (ld 55 t60) w fun t61 w =>
 R (.tuple #[t61, (.int .i64 0)]) w))
theorem eq35 (R : Value → World → Prop) (w : World) (t0 : Value) : enterW Tryz.prog Tryz.f35 an35 [t0] w R = vc35 R w t0 := by kernel_rfl
theorem en35 {R : Value → World → Prop} {w : World} {t0 : Value} (h : vc35 R w t0) : Calls Tryz.prog 35 #[t0] w (retK R) :=
  calls_of_enter mixed Tryz.func35 (by kernel_rfl) (by rw [eq35]; exact h)

def an40 : Ann := (.seq (.reg (opn 3 .done)) (.seq (.seq (.reg (opn 7 .done)) (.seq (.reg (opn 2 .done)) (.cond (.seq (.reg (opn 3 .done)) .leaf) .leaf))) (.seq (.reg (opn 1 .done)) (.seq (.reg (opn 2 .done)) (.seq (.seq (.reg (opn 4 .done)) (.one (.loop [32] [33, 34, 35, 9, 36, 37, 38, 39, 40, 41, 42, 32] (.seq (.reg (opn 1 .done)) (.seq (.cond .leaf .leaf) (.seq (.one (.seq (.reg (opn 3 .done)) (.reg (opn 6 .done)))) (.reg (opn 2 .done)))))))) (.seq (.seq (.reg (opn 4 .done)) (.one (.loop [46] [47, 48, 49, 11, 50, 51, 52, 53, 54, 46] (.seq (.reg (opn 1 .done)) (.seq (.cond .leaf .leaf) (.seq (.one (.seq (.reg (opn 3 .done)) (.reg (opn 4 .done)))) (.reg (opn 2 .done)))))))) (.seq (.seq (.reg (opn 4 .done)) (.one (.loop [58] [59, 60, 61, 13, 62, 63, 64, 65, 66, 58] (.seq (.reg (opn 1 .done)) (.seq (.cond .leaf .leaf) (.seq (.one (.seq (.reg (opn 3 .done)) (.reg (opn 4 .done)))) (.reg (opn 2 .done)))))))) (.seq (.seq (.reg (opn 4 .done)) (.one (.loop [70] [71, 72, 73, 15, 74, 75, 76, 77, 78, 70] (.seq (.reg (opn 1 .done)) (.seq (.cond .leaf .leaf) (.seq (.one (.seq (.reg (opn 4 .done)) (.reg (opn 4 .done)))) (.reg (opn 2 .done)))))))) (.seq (.seq (.reg (opn 4 .done)) (.one (.loop [82] [83, 84, 85, 17, 86, 87, 88, 89, 90, 91, 82] (.seq (.reg (opn 1 .done)) (.seq (.cond .leaf .leaf) (.seq (.one (.seq (.reg (opn 3 .done)) (.reg (opn 5 .done)))) (.reg (opn 2 .done)))))))) (.seq (.seq (.reg (opn 4 .done)) (.one (.loop [95] [96, 97, 98, 19, 99, 100, 101, 102, 103, 95] (.seq (.reg (opn 1 .done)) (.seq (.cond .leaf .leaf) (.seq (.one (.seq (.reg (opn 4 .done)) (.reg (opn 4 .done)))) (.reg (opn 2 .done)))))))) (.seq (.reg (opn 3 .done)) .leaf)))))))))))
def vc40 (R : Value → World → Prop) (w : World) (t0 : Value) : Prop :=
 V (bx 28 t0) w fun t1 w =>
 V (ld 28 t1) w fun t21 w =>
 CV (.func (.func 15) #[] #[]) #[t21] w fun t22 w =>
 V (ex t22 0) w fun t23 w =>
 V (ex t22 1) w fun t24 w =>
 V (eq .neq 31 (.tmp 25) (.const (.int .i64 0)) t23 (.int .i64 0)) w fun t26 w =>
 CondW t26
 (R (.tuple #[(.string ⟨#[]⟩), t23]) w)
 (V (al 199) w fun t6 w =>
 V (fa 28 t1 0) w fun t29 w =>
 V (ld 22 t29) w fun t30 w =>
 V (Builtin.len_ #[22] 3 #[t30]) w fun t31 w =>
 ∃ (I0 : List Value → World → Prop) (M0 : List Value → World → Nat), I0 [(.int .i64 0)] w ∧ ∀ g : Env, ∀ t32, ∀ w, I0 [t32] w → ∀ m0, m0 = M0 [t32] w →
 V (bi .lss 3 t32 t31) w fun t33 w =>
 CondW t33
 (V (ia 22 t30 t32) w fun t34 w =>
 V (ld 9 t34) w fun t35 w =>
 CV (.func (.func 127) #[] #[]) #[t35] w fun t38 w =>
 V (bs 22 2 #[(0, (.string ⟨#[116, 101, 120, 116]⟩)), (1, t38)]) w fun t39 w =>
 CV (.func (.func 126) #[] #[]) #[t39] w fun t40 w =>
 CV (.func (.func 124) #[] #[t6]) #[t40] w fun t41 w =>
 V (bi .add 3 t32 (.int .i64 1)) w fun t42 w =>
 I0 [t42] w ∧ M0 [t42] w < m0)
 (V (fa 28 t1 1) w fun t43 w =>
 V (ld 23 t43) w fun t44 w =>
 V (Builtin.len_ #[23] 3 #[t44]) w fun t45 w =>
 ∃ (I1 : List Value → World → Prop) (M1 : List Value → World → Nat), I1 [(.int .i64 0)] w ∧ ∀ g : Env, ∀ t46, ∀ w, I1 [t46] w → ∀ m1, m1 = M1 [t46] w →
 V (bi .lss 3 t46 t45) w fun t47 w =>
 CondW t47
 (V (ia 23 t44 t46) w fun t48 w =>
 V (ld 93 t48) w fun t49 w =>
 CV (.func (.func 128) #[] #[]) #[t49] w fun t52 w =>
 CV (.func (.func 124) #[] #[t6]) #[t52] w fun t53 w =>
 V (bi .add 3 t46 (.int .i64 1)) w fun t54 w =>
 I1 [t54] w ∧ M1 [t54] w < m1)
 (V (fa 28 t1 2) w fun t55 w =>
 V (ld 24 t55) w fun t56 w =>
 V (Builtin.len_ #[24] 3 #[t56]) w fun t57 w =>
 ∃ (I2 : List Value → World → Prop) (M2 : List Value → World → Nat), I2 [(.int .i64 0)] w ∧ ∀ g : Env, ∀ t58, ∀ w, I2 [t58] w → ∀ m2, m2 = M2 [t58] w →
 V (bi .lss 3 t58 t57) w fun t59 w =>
 CondW t59
 (V (ia 24 t56 t58) w fun t60 w =>
 V (ld 96 t60) w fun t61 w =>
 CV (.func (.func 129) #[] #[]) #[t61] w fun t64 w =>
 CV (.func (.func 124) #[] #[t6]) #[t64] w fun t65 w =>
 V (bi .add 3 t58 (.int .i64 1)) w fun t66 w =>
 I2 [t66] w ∧ M2 [t66] w < m2)
 (V (fa 28 t1 3) w fun t67 w =>
 V (ld 25 t67) w fun t68 w =>
 V (Builtin.len_ #[25] 3 #[t68]) w fun t69 w =>
 ∃ (I3 : List Value → World → Prop) (M3 : List Value → World → Nat), I3 [(.int .i64 0)] w ∧ ∀ g : Env, ∀ t70, ∀ w, I3 [t70] w → ∀ m3, m3 = M3 [t70] w →
 V (bi .lss 3 t70 t69) w fun t71 w =>
 CondW t71
 (V (ia 25 t68 t70) w fun t72 w =>
 V (ld 54 t72) w fun t73 w =>
 V (al 54) w fun t15 w =>
 U (st 54 t15 t73) w fun w =>
 V (ld 54 t15) w fun t75 w =>
 CV (.func (.func 130) #[] #[]) #[t75] w fun t76 w =>
 CV (.func (.func 124) #[] #[t6]) #[t76] w fun t77 w =>
 V (bi .add 3 t70 (.int .i64 1)) w fun t78 w =>
 I3 [t78] w ∧ M3 [t78] w < m3)
 (V (fa 28 t1 4) w fun t79 w =>
 V (ld 22 t79) w fun t80 w =>
 V (Builtin.len_ #[22] 3 #[t80]) w fun t81 w =>
 ∃ (I4 : List Value → World → Prop) (M4 : List Value → World → Nat), I4 [(.int .i64 0)] w ∧ ∀ g : Env, ∀ t82, ∀ w, I4 [t82] w → ∀ m4, m4 = M4 [t82] w →
 V (bi .lss 3 t82 t81) w fun t83 w =>
 CondW t83
 (V (ia 22 t80 t82) w fun t84 w =>
 V (ld 9 t84) w fun t85 w =>
 V (bs 22 2 #[(0, (.string ⟨#[110, 97, 109, 101]⟩)), (1, t85)]) w fun t88 w =>
 CV (.func (.func 126) #[] #[]) #[t88] w fun t89 w =>
 CV (.func (.func 124) #[] #[t6]) #[t89] w fun t90 w =>
 V (bi .add 3 t82 (.int .i64 1)) w fun t91 w =>
 I4 [t91] w ∧ M4 [t91] w < m4)
 (V (fa 28 t1 5) w fun t92 w =>
 V (ld 26 t92) w fun t93 w =>
 V (Builtin.len_ #[26] 3 #[t93]) w fun t94 w =>
 ∃ (I5 : List Value → World → Prop) (M5 : List Value → World → Nat), I5 [(.int .i64 0)] w ∧ ∀ g : Env, ∀ t95, ∀ w, I5 [t95] w → ∀ m5, m5 = M5 [t95] w →
 V (bi .lss 3 t95 t94) w fun t96 w =>
 CondW t96
 (V (ia 26 t93 t95) w fun t97 w =>
 V (ld 38 t97) w fun t98 w =>
 V (al 38) w fun t19 w =>
 U (st 38 t19 t98) w fun w =>
 V (ld 38 t19) w fun t100 w =>
 CV (.func (.func 131) #[] #[]) #[t100] w fun t101 w =>
 CV (.func (.func 124) #[] #[t6]) #[t101] w fun t102 w =>
 V (bi .add 3 t95 (.int .i64 1)) w fun t103 w =>
 I5 [t103] w ∧ M5 [t103] w < m5)
 (CV (.func (.func 132) #[] #[]) #[t6] w fun t104 w =>
 R (.tuple #[t104, (.int .i64 0)]) w)))))))
theorem eq40 (R : Value → World → Prop) (w : World) (t0 : Value) : enterW Tryz.prog Tryz.f40 an40 [t0] w R = vc40 R w t0 := by kernel_rfl
theorem en40 {R : Value → World → Prop} {w : World} {t0 : Value} (h : vc40 R w t0) : Calls Tryz.prog 40 #[t0] w (retK R) :=
  calls_of_enter mixed Tryz.func40 (by kernel_rfl) (by rw [eq40]; exact h)

def an44 : Ann := (.seq (.reg (opn 1 .done)) (.seq (.reg (opn 10 .done)) .leaf))
def vc44 (R : Value → World → Prop) (w : World) : Prop :=
 V (al 28) w fun t0 w =>
 V (bs 22 3 #[(0, (.string ⟨#[83, 65, 89, 32, 49]⟩)), (1, (.string ⟨#[49]⟩)), (2, (.string ⟨#[65]⟩))]) w fun t1 w =>
 CV (.func (.func 45) #[] #[]) #[(.int .i64 1), (.int .i64 1), (.int .i64 0), (.int .i64 0)] w fun t2 w =>
 CV (.func (.func 45) #[] #[]) #[(.int .i64 3), (.int .i64 1), (.int .i64 0), (.int .i64 0)] w fun t3 w =>
 CV (.func (.func 45) #[] #[]) #[(.int .i64 13), (.int .i64 0), (.int .i64 0), (.int .i64 0)] w fun t4 w =>
 CV (.func (.func 45) #[] #[]) #[(.int .i64 39), (.int .i64 0), (.int .i64 0), (.int .i64 0)] w fun t5 w =>
 CV (.func (.func 45) #[] #[]) #[(.int .i64 2), (.int .i64 0), (.int .i64 0), (.int .i64 0)] w fun t6 w =>
 CV (.func (.func 45) #[] #[]) #[(.int .i64 46), (.int .i64 0), (.int .i64 0), (.int .i64 0)] w fun t7 w =>
 V (bs 26 6 #[(0, t2), (1, t3), (2, t4), (3, t5), (4, t6), (5, t7)]) w fun t8 w =>
 V (bd 28 #[(0, t1), (5, t8)]) w fun t9 w =>
 U (st 28 t0 t9) w fun w =>
 CW 28 t0 w fun t1000 => R t1000 w
theorem eq44 (R : Value → World → Prop) (w : World) : enterW Tryz.prog Tryz.f44 an44 [] w R = vc44 R w  := by kernel_rfl
theorem en44 {R : Value → World → Prop} {w : World} (h : vc44 R w ) : Calls Tryz.prog 44 #[] w (retK R) :=
  calls_of_enter mixed Tryz.func44 (by kernel_rfl) (by rw [eq44]; exact h)

def an45 : Ann := (.seq (.reg (opn 1 .done)) (.seq (.reg (opn 6 .done)) .leaf))
def vc45 (R : Value → World → Prop) (w : World) (t0 t1 t2 t3 : Value) : Prop :=
 V (al 38) w fun t8 w =>
 V (bd 38 #[(0, t0), (1, t1), (2, t2), (3, t3)]) w fun t13 w =>
 U (st 38 t8 t13) w fun w =>
 CW 38 t8 w fun t1008 => R t1008 w
theorem eq45 (R : Value → World → Prop) (w : World) (t0 t1 t2 t3 : Value) : enterW Tryz.prog Tryz.f45 an45 [t0, t1, t2, t3] w R = vc45 R w t0 t1 t2 t3 := by kernel_rfl
theorem en45 {R : Value → World → Prop} {w : World} {t0 t1 t2 t3 : Value} (h : vc45 R w t0 t1 t2 t3) : Calls Tryz.prog 45 #[t0, t1, t2, t3] w (retK R) :=
  calls_of_enter mixed Tryz.func45 (by kernel_rfl) (by rw [eq45]; exact h)

def an46 : Ann := (.seq (.reg (opn 2 .done)) (.seq (.reg (opn 2 .done)) (.seq (.reg (opn 27 .done)) (.seq (.seq (.reg (opn 2 .done)) (.one (.loop [34] [35, 36, 6, 37, 38, 39, 40, 41, 2, 42, 34] (.seq (.reg (opn 1 .done)) (.seq (.cond .leaf .leaf) (.seq (.one (.seq (.reg (opn 3 .done)) (.seq (.reg (opn 5 .done)) (.cond (.seq (.reg (opn 1 .done)) .leaf) .leaf)))) (.reg (opn 2 .done)))))))) (.seq (.reg (opn 5 .done)) (.seq (.reg (opn 2 (.join [53] [49, 50, 51, 52, 53] (.split 48 (opn 5 .done) (opn 5 .done)) (opn 1 (.join [58] [55, 56, 57, 58] (.split 54 (opn 4 .done) (opn 4 .done)) (opn 1 (.join [64] [60, 61, 62, 63, 64] (.split 59 (opn 5 .done) (opn 5 .done)) (opn 1 .done)))))))) .leaf))))))
def vc46 (R : Value → World → Prop) (w : World) (t0 : Value) : Prop :=
 V (bx 28 t0) w fun t1 w =>
 V (al 215) w fun t3 w =>
 U (st 215 t3 (.func (.func 137) #[] #[])) w fun w =>
 V (fa 28 t1 0) w fun t8 w =>
 V (ld 22 t8) w fun t9 w =>
 V (Builtin.len_ #[22] 3 #[t9]) w fun t10 w =>
 V (bd 219 #[(0, t10), (1, (.int .i64 3000))]) w fun t11 w =>
 V (fa 28 t1 1) w fun t12 w =>
 V (ld 23 t12) w fun t13 w =>
 V (Builtin.len_ #[23] 3 #[t13]) w fun t14 w =>
 V (bd 219 #[(0, t14), (1, (.int .i64 3000))]) w fun t15 w =>
 V (fa 28 t1 2) w fun t16 w =>
 V (ld 24 t16) w fun t17 w =>
 V (Builtin.len_ #[24] 3 #[t17]) w fun t18 w =>
 V (bd 219 #[(0, t18), (1, (.int .i64 3000))]) w fun t19 w =>
 V (fa 28 t1 3) w fun t20 w =>
 V (ld 25 t20) w fun t21 w =>
 V (Builtin.len_ #[25] 3 #[t21]) w fun t22 w =>
 V (bd 219 #[(0, t22), (1, (.int .i64 3000))]) w fun t23 w =>
 V (fa 28 t1 4) w fun t24 w =>
 V (ld 22 t24) w fun t25 w =>
 V (Builtin.len_ #[22] 3 #[t25]) w fun t26 w =>
 V (bd 219 #[(0, t26), (1, (.int .i64 100))]) w fun t27 w =>
 V (fa 28 t1 5) w fun t28 w =>
 V (ld 26 t28) w fun t29 w =>
 V (Builtin.len_ #[26] 3 #[t29]) w fun t30 w =>
 V (bd 219 #[(0, t30), (1, (.int .i64 12000))]) w fun t31 w =>
 V (bd 220 #[(0, t11), (1, t15), (2, t19), (3, t23), (4, t27), (5, t31)]) w fun t32 w =>
 V (al 220) w fun t4 w =>
 U (st 220 t4 t32) w fun w =>
 V (ld 220 t4) w fun t33 w =>
 ∃ (I0 : List Value → World → Prop) (M0 : List Value → World → Nat), I0 [(.int .i64 0)] w ∧ ∀ g : Env, ∀ t34, ∀ w, I0 [t34] w → ∀ m0, m0 = M0 [t34] w →
 V (bi .lss 3 t34 (.int .i64 6)) w fun t35 w =>
 CondW t35
 (V (ix 220 t33 t34) w fun t36 w =>
 V (al 219) w fun t6 w =>
 U (st 219 t6 t36) w fun w =>
 V (ia 219 t6 (.int .i64 0)) w fun t37 w =>
 V (ld 3 t37) w fun t38 w =>
 V (ia 219 t6 (.int .i64 1)) w fun t39 w =>
 V (ld 3 t39) w fun t40 w =>
 V (bi .gtr 3 t38 t40) w fun t41 w =>
 CondW t41
 (R (.bool false) w)
 (V (bi .add 3 t34 (.int .i64 1)) w fun t42 w =>
 I0 [t42] w ∧ M0 [t42] w < m0))
 (V (fa 28 t1 1) w fun t43 w =>
 V (ld 23 t43) w fun t44 w =>
 CV (.func (.func 138) #[] #[]) #[t44, (.func (.func 139) #[] #[t3])] w fun t46 w =>
 ∀ K0 : List Value → World → Prop, (∀ t53, ∀ w, (∀ g : Env,
 ∀ K0 : List Value → World → Prop, (∀ t58, ∀ w, (∀ g : Env,
 ∀ K0 : List Value → World → Prop, (∀ t64, ∀ w, (∀ g : Env,
 R t64 w) → K0 [t64] w) →
 CondW t58
 (V (fa 28 t1 3) w fun t60 w =>
 V (ld 25 t60) w fun t61 w =>
 CV (.func (.func 145) #[] #[]) #[t61, (.func (.func 146) #[] #[t3])] w fun t63 w =>
 K0 [t63] w)
 (K0 [(.bool false)] w)) → K0 [t58] w) →
 CondW t53
 (V (fa 28 t1 2) w fun t55 w =>
 V (ld 24 t55) w fun t56 w =>
 CV (.func (.func 143) #[] #[]) #[t56, (.func (.func 144) #[] #[])] w fun t57 w =>
 K0 [t57] w)
 (K0 [(.bool false)] w)) → K0 [t53] w) →
 CondW t46
 (V (fa 28 t1 0) w fun t49 w =>
 V (ld 22 t49) w fun t50 w =>
 V (ld 215 t3) w fun t51 w =>
 CV (.func (.func 142) #[] #[]) #[t50, t51] w fun t52 w =>
 K0 [t52] w)
 (K0 [(.bool false)] w))
theorem eq46 (R : Value → World → Prop) (w : World) (t0 : Value) : enterW Tryz.prog Tryz.f46 an46 [t0] w R = vc46 R w t0 := by kernel_rfl
theorem en46 {R : Value → World → Prop} {w : World} {t0 : Value} (h : vc46 R w t0) : Calls Tryz.prog 46 #[t0] w (retK R) :=
  calls_of_enter mixed Tryz.func46 (by kernel_rfl) (by rw [eq46]; exact h)

def an47 : Ann := (.seq (.reg (opn 2 .done)) (.seq (.seq (.reg (opn 5 (.join [17] [13, 14, 15, 16, 17] (.split 12 (opn 5 .done) (opn 5 .done)) (opn 1 (.join [23] [19, 20, 21, 22, 23] (.split 18 (opn 5 .done) (opn 5 .done)) .done))))) (.cond (.seq (.reg (opn 1 .done)) .leaf) .leaf)) (.seq (.reg (opn 4 .done)) (.seq (.reg (opn 2 .done)) (.seq (.reg (opn 5 .done)) (.seq (.reg (opn 3 .done)) (.seq (.reg (opn 5 .done)) (.seq (.reg (opn 2 (.join [39] [38, 39] (.split 37 (opn 2 .done) (opn 2 .done)) (opn 1 (.join [42] [41, 42] (.split 40 (opn 2 .done) (opn 2 .done)) (opn 1 .done)))))) .leaf))))))))
def vc47 (R : Value → World → Prop) (w : World) (t0 : Value) : Prop :=
 V (bx 28 t0) w fun t1 w =>
 V (fa 28 t1 5) w fun t8 w =>
 V (ld 26 t8) w fun t9 w =>
 V (Builtin.len_ #[26] 3 #[t9]) w fun t10 w =>
 V (eq .eql 3 (.tmp 10) (.const (.int .i64 0)) t10 (.int .i64 0)) w fun t11 w =>
 ∀ K0 : List Value → World → Prop, (∀ t17, ∀ w, (∀ g : Env,
 ∀ K0 : List Value → World → Prop, (∀ t23, ∀ w, (∀ g : Env,
 CondW t23
 (R (.bool false) w)
 (V (fa 28 t1 2) w fun t24 w =>
 V (ld 24 t24) w fun t25 w =>
 CV (.func (.func 143) #[] #[]) #[t25, (.func (.func 150) #[] #[])] w fun t26 w =>
 V (al 3) w fun t4 w =>
 U (st 3 t4 (.int .i64 0)) w fun w =>
 V (fa 28 t1 3) w fun t27 w =>
 V (ld 25 t27) w fun t28 w =>
 CV (.func (.func 145) #[] #[]) #[t28, (.func (.func 154) #[] #[t4, t1])] w fun t30 w =>
 V (mm 231 none) w fun t31 w =>
 V (al 231) w fun t6 w =>
 U (st 231 t6 t31) w fun w =>
 V (fa 28 t1 4) w fun t32 w =>
 V (ld 22 t32) w fun t33 w =>
 CV (.func (.func 142) #[] #[]) #[t33, (.func (.func 155) #[] #[t6])] w fun t35 w =>
 ∀ K0 : List Value → World → Prop, (∀ t39, ∀ w, (∀ g : Env,
 ∀ K0 : List Value → World → Prop, (∀ t42, ∀ w, (∀ g : Env,
 R t42 w) → K0 [t42] w) →
 CondW t39
 (K0 [t35] w)
 (K0 [(.bool false)] w)) → K0 [t39] w) →
 CondW t26
 (K0 [t30] w)
 (K0 [(.bool false)] w))) → K0 [t23] w) →
 CondW t17
 (K0 [(.bool true)] w)
 (V (fa 28 t1 1) w fun t19 w =>
 V (ld 23 t19) w fun t20 w =>
 CV (.func (.func 138) #[] #[]) #[t20, (.func (.func 148) #[] #[])] w fun t21 w =>
 V (un .not t21) w fun t22 w =>
 K0 [t22] w)) → K0 [t17] w) →
 CondW t11
 (K0 [(.bool true)] w)
 (V (fa 28 t1 0) w fun t13 w =>
 V (ld 22 t13) w fun t14 w =>
 CV (.func (.func 142) #[] #[]) #[t14, (.func (.func 147) #[] #[])] w fun t15 w =>
 V (un .not t15) w fun t16 w =>
 K0 [t16] w)
theorem eq47 (R : Value → World → Prop) (w : World) (t0 : Value) : enterW Tryz.prog Tryz.f47 an47 [t0] w R = vc47 R w t0 := by kernel_rfl
theorem en47 {R : Value → World → Prop} {w : World} {t0 : Value} (h : vc47 R w t0) : Calls Tryz.prog 47 #[t0] w (retK R) :=
  calls_of_enter mixed Tryz.func47 (by kernel_rfl) (by rw [eq47]; exact h)

def an48 : Ann := (.seq (.reg (opn 3 .done)) (.seq (.reg (opn 8 .done)) (.seq (.seq (.reg (opn 2 .done)) (.cond (.seq (.reg (opn 1 .done)) .leaf) .leaf)) (.seq (.seq (.reg (opn 8 .done)) (.one (.loop [23] [24, 25, 26, 7, 8, 27, 28, 29, 30, 31, 32, 33, 34, 4, 35, 23] (.seq (.reg (opn 1 .done)) (.seq (.cond .leaf .leaf) (.seq (.one (.seq (.reg (opn 4 .done)) (.seq (.draw (.hold 0 (.take 1 (.take 2 (.take 3 (.hold 4 (.take 5 (.alts (.eff 6 (.take 7 .done) .nil))))))))) (.cond (.seq (.reg (opn 1 .done)) .leaf) .leaf)))) (.reg (opn 2 .done)))))))) (.seq (.reg (opn 4 .done)) .leaf)))))
def vc48 (R : Value → World → Prop) (w : World) (t0 t1 : Value) : Prop :=
 V (bx 28 t0) w fun t2 w =>
 V (bx 38 t1) w fun t3 w =>
 V (ld 38 t3) w fun t10 w =>
 CV (.func (.func 49) #[] #[]) #[t10] w fun t11 w =>
 V (ex t11 0) w fun t12 w =>
 V (ex t11 1) w fun t13 w =>
 V (al 102) w fun t5 w =>
 U (st 102 t5 t12) w fun w =>
 V (un .not t13) w fun t15 w =>
 CondW t15
 (R (.bool false) w)
 (V (fa 38 t3 1) w fun t16 w =>
 V (ld 3 t16) w fun t17 w =>
 V (fa 38 t3 2) w fun t18 w =>
 V (ld 3 t18) w fun t19 w =>
 V (fa 38 t3 3) w fun t20 w =>
 V (ld 3 t20) w fun t21 w =>
 V (bd 100 #[(0, t17), (1, t19), (2, t21)]) w fun t22 w =>
 ∃ (I0 : List Value → World → Prop) (M0 : List Value → World → Nat), I0 [(.int .i64 0)] w ∧ ∀ g : Env, ∀ t23, ∀ w, I0 [t23] w → ∀ m0, m0 = M0 [t23] w →
 V (bi .lss 3 t23 (.int .i64 3)) w fun t24 w =>
 CondW t24
 (V (ix 100 t22 t23) w fun t26 w =>
 Dr w fun w =>
 HV (ld 28 t2) w fun t27 =>
 PV (fa 102 t5 1) fun t29 =>
 PV (ia 100 t29 t23) fun t30 =>
 HV (ld 3 t30) w fun t31 =>
 CV (.func (.func 157) #[] #[]) #[t27, t31, t26] w fun t33 w =>
 PV (un .not t33) fun t34 =>
 CondW t34
 (R (.bool false) w)
 (V (bi .add 3 t23 (.int .i64 1)) w fun t35 w =>
 I0 [t35] w ∧ M0 [t35] w < m0))
 (V (ld 28 t2) w fun t36 w =>
 V (ld 38 t3) w fun t37 w =>
 CV (.func (.func 158) #[] #[]) #[t36, t37] w fun t38 w =>
 R t38 w))
theorem eq48 (R : Value → World → Prop) (w : World) (t0 t1 : Value) : enterW Tryz.prog Tryz.f48 an48 [t0, t1] w R = vc48 R w t0 t1 := by kernel_rfl
theorem en48 {R : Value → World → Prop} {w : World} {t0 t1 : Value} (h : vc48 R w t0 t1) : Calls Tryz.prog 48 #[t0, t1] w (retK R) :=
  calls_of_enter mixed Tryz.func48 (by kernel_rfl) (by rw [eq48]; exact h)

def an49 : Ann := (.seq (.reg (opn 3 .done)) (.seq (.seq (.reg (opn 4 (.join [11] [8, 9, 10, 11] (.split 7 (opn 4 .done) (opn 4 .done)) .done))) (.cond (.seq (.reg (opn 3 .done)) .leaf) .leaf)) (.seq (.draw (.take 1 (.hold 2 (.alts (.eff 0 (.take 3 (.alts (.eff 4 (.take 5 .done) .nil))) .nil))))) .leaf)))
def vc49 (R : Value → World → Prop) (w : World) (t0 : Value) : Prop :=
 V (bx 38 t0) w fun t1 w =>
 V (al 102) w fun t2 w =>
 V (fa 38 t1 0) w fun t4 w =>
 V (ld 3 t4) w fun t5 w =>
 V (bi .lss 3 t5 (.int .i64 1)) w fun t6 w =>
 ∀ K0 : List Value → World → Prop, (∀ t11, ∀ w, (∀ g : Env,
 CondW t11
 (V (bd 102 #[]) w fun t12 w =>
 U (st 102 t2 t12) w fun w =>
 CW 102 t2 w fun t1002 => R (.tuple #[t1002, (.bool false)]) w)
 (Dr w fun w =>
 PV (fa 38 t1 0) fun t14 =>
 HV (ld 3 t14) w fun t15 =>
 CV (.func (.func 159) #[] #[]) #[] w fun t13 w =>
 RunIs (ld 3 t14) w t15 ∧ (PV (ix 234 t13 t15) fun t16 =>
 U (st 102 t2 t16) w fun w =>
 CW 102 t2 w fun t1002 => R (.tuple #[t1002, (.bool true)]) w))) → K0 [t11] w) →
 CondW t6
 (K0 [(.bool true)] w)
 (V (fa 38 t1 0) w fun t8 w =>
 V (ld 3 t8) w fun t9 w =>
 V (bi .gtr 3 t9 (.int .i64 46)) w fun t10 w =>
 K0 [t10] w)
theorem eq49 (R : Value → World → Prop) (w : World) (t0 : Value) : enterW Tryz.prog Tryz.f49 an49 [t0] w R = vc49 R w t0 := by kernel_rfl
theorem en49 {R : Value → World → Prop} {w : World} {t0 : Value} (h : vc49 R w t0) : Calls Tryz.prog 49 #[t0] w (retK R) :=
  calls_of_enter mixed Tryz.func49 (by kernel_rfl) (by rw [eq49]; exact h)

def an50 : Ann := (.seq (.reg (opn 4 .done)) (.seq (.reg (opn 3 .done)) (.seq (.reg (opn 1 .done)) (.seq (.reg (opn 3 .done)) (.seq (.seq (.reg (opn 4 .done)) (.one (.loop [28] [29, 30, 31, 9, 32, 33, 34, 35, 36, 37, 28] (.seq (.reg (opn 1 .done)) (.seq (.cond .leaf .leaf) (.seq (.one (.seq (.reg (opn 3 .done)) (.seq (.reg (opn 5 .done)) (.cond (.seq (.reg (opn 3 .done)) .leaf) .leaf)))) (.reg (opn 2 .done)))))))) (.seq (.one (.loop [141] [38, 39, 40, 41, 42, 43, 44, 45, 46, 10, 47, 48, 49, 50, 51, 52, 53, 54, 55, 56, 57, 58, 59, 11, 12, 61, 62, 60, 63, 64, 65, 13, 14, 15, 66, 67, 68, 69, 70, 71, 72, 73, 74, 75, 76, 77, 78, 79, 80, 81, 82, 83, 84, 85, 86, 87, 88, 89, 90, 141] (.seq (.seq (.reg (opn 3 .done)) (.cond .leaf .leaf)) (.one (.seq (.reg (opn 7 .done)) (.seq (.reg (opn 6 .done)) (.seqJ [11, 12] [52, 53, 54, 55, 56, 57, 58, 59, 11, 12] (.draw (.take 0 (.hold 1 (.take 2 (.take 3 (.hold 4 (.hold 5 (.take 6 (.hold 7 (.alts (.eff 8 (.alts (.eff 9 (.alts (.eff 10 (.alts (.eff 11 .done .nil)) .nil)) .nil)) (.eff 9 (.alts (.eff 8 (.alts (.eff 10 (.alts (.eff 11 .done .nil)) .nil)) .nil)) .nil)))))))))))) (.seq (.reg (opn 9 .done)) (.seq (.seq (.reg (opn 5 (.join [75] [71, 72, 73, 74, 75] (.split 70 (opn 5 .done) (opn 5 .done)) (opn 1 (.join [87] [77, 78, 79, 80, 81, 82, 83, 84, 85, 86, 87] (.split 76 (opn 11 .done) (opn 4 (.join [86] [81, 82, 83, 84, 85, 86] (.split 80 (opn 6 .done) (opn 6 .done)) (opn 1 .done)))) .done))))) (.cond (.seq (.reg (opn 3 .done)) .leaf) .leaf)) (.seq (.reg (opn 3 .done)) (.one (.rf [] (.seq (.reg (opn 1 .done)) (.reg (opn 1 .done))) (.one (.seq (.draw (.hold 0 (.take 1 (.hold 2 (.hold 3 (.take 4 (.alts (.eff 5 (.alts (.eff 6 (.take 7 .done) .nil)) .nil)))))))) (.cond (.seq (.reg (opn 3 .done)) .leaf) .leaf))))))))))))))) (.seqJ [18, 19] [101, 102, 103, 104, 105, 106, 107, 108, 18, 19] (.draw (.take 0 (.hold 1 (.take 2 (.take 4 (.hold 5 (.take 6 (.alts (.eff 3 (.take 8 (.alts (.eff 7 (.take 9 .done) .nil))) (.eff 7 (.alts (.eff 3 (.take 8 (.take 9 .done)) .nil)) .nil)))))))))) (.seq (.seq (.reg (opn 4 .done)) (.one (.loop [112] [113, 114, 20, 115, 116, 117, 118, 119, 120, 122, 123, 124, 121, 125, 126, 21, 22, 127, 128, 129, 130, 131, 132, 133, 134, 135, 136, 137, 138, 112] (.seq (.reg (opn 1 .done)) (.seq (.cond .leaf .leaf) (.seqJ [] [114, 20, 115, 116, 117, 118, 119, 120, 122, 123, 124, 121, 125, 126, 21, 22, 127, 128, 129, 130, 131, 132, 133, 134, 135, 136, 137] (.one (.seq (.reg (opn 2 .done)) (.seq (.reg (opn 8 .done)) (.seq (.reg (opn 9 .done)) (.seq (.reg (opn 1 .done)) (.cond (.draw (.take 0 (.take 1 (.take 2 (.take 3 (.take 4 (.hold 5 (.take 6 (.hold 7 (.take 8 (.alts (.eff 9 (.take 10 (.alts (.eff 11 .done .nil))) .nil)))))))))))) .leaf)))))) (.reg (opn 2 .done)))))))) (.seq (.reg (opn 5 .done)) .leaf)))))))))
def vc50 (R : Value → World → Prop) (w : World) (t0 : Value) : Prop :=
 V (bx 28 t0) w fun t1 w =>
 V (al 45) w fun t2 w =>
 V (al 45) w fun t3 w =>
 V (al 4) w fun t4 w =>
 V (mm 236 none) w fun t23 w =>
 V (al 236) w fun t5 w =>
 U (st 236 t5 t23) w fun w =>
 V (al 45) w fun t6 w =>
 V (al 240) w fun t7 w =>
 U (st 240 t7 (.func (.func 160) #[] #[t5, t6])) w fun w =>
 V (ld 28 t1) w fun t25 w =>
 CV (.func (.func 73) #[] #[]) #[t25] w fun t26 w =>
 V (Builtin.len_ #[45] 3 #[t26]) w fun t27 w =>
 ∃ (I0 : List Value → World → Prop) (M0 : List Value → World → Nat), I0 [(.int .i64 0)] w ∧ ∀ g : Env, ∀ t28, ∀ w, I0 [t28] w → ∀ m0, m0 = M0 [t28] w →
 V (bi .lss 3 t28 t27) w fun t29 w =>
 CondW t29
 (V (ia 45 t26 t28) w fun t30 w =>
 V (ld 3 t30) w fun t31 w =>
 V (ld 240 t7) w fun t32 w =>
 V (bd 238 #[]) w fun t34 w =>
 CV t32 #[t31, t34] w fun t35 w =>
 V (un .not t35) w fun t36 w =>
 CondW t36
 (U (st 45 t2 (.slice none 0 0)) w fun w =>
 U (st 45 t3 (.slice none 0 0)) w fun w =>
 U (st 4 t4 (.bool false)) w fun w =>
 CW 45 t2 w fun t1002 => CW 45 t3 w fun t1003 => CW 4 t4 w fun t1004 => R (.tuple #[t1002, t1003, t1004]) w)
 (V (bi .add 3 t28 (.int .i64 1)) w fun t37 w =>
 I0 [t37] w ∧ M0 [t37] w < m0))
 (∃ (I1 : List Value → World → Prop) (M1 : List Value → World → Nat), I1 [undef] w ∧ ∀ g : Env, ∀ t141, ∀ w, I1 [t141] w → ∀ m1, m1 = M1 [t141] w →
 V (ld 45 t6) w fun t38 w =>
 V (Builtin.len_ #[45] 3 #[t38]) w fun t39 w =>
 V (bi .gtr 3 t39 (.int .i64 0)) w fun t40 w =>
 CondW t40
 (V (ld 45 t6) w fun t41 w =>
 V (ld 45 t6) w fun t42 w =>
 V (Builtin.len_ #[45] 3 #[t42]) w fun t43 w =>
 V (bi .sub 3 t43 (.int .i64 1)) w fun t44 w =>
 V (ia 45 t41 t44) w fun t45 w =>
 V (ld 3 t45) w fun t46 w =>
 V (ld 45 t6) w fun t47 w =>
 V (ld 45 t6) w fun t48 w =>
 V (Builtin.len_ #[45] 3 #[t48]) w fun t49 w =>
 V (bi .sub 3 t49 (.int .i64 1)) w fun t50 w =>
 V (sl 45 t47 none (some t50) none) w fun t51 w =>
 U (st 45 t6 t51) w fun w =>
 ∀ K0 : List Value → World → Prop, (∀ t11, ∀ t12, ∀ w, (∀ g : Env,
 V (ld 38 t11) w fun t61 w =>
 CV (.func (.func 17) #[] #[]) #[t61] w fun t62 w =>
 V (ex t62 0) w fun t63 w =>
 V (ex t62 1) w fun t64 w =>
 V (ex t62 2) w fun t65 w =>
 V (ld 38 t11) w fun t66 w =>
 V (ld 238 t12) w fun t67 w =>
 CV (.func (.func 161) #[] #[]) #[t66, t67] w fun t68 w =>
 V (un .not t68) w fun t69 w =>
 ∀ K0 : List Value → World → Prop, (∀ t75, ∀ w, (∀ g : Env,
 ∀ K0 : List Value → World → Prop, (∀ t87, ∀ w, (∀ g : Env,
 CondW t87
 (U (st 45 t2 (.slice none 0 0)) w fun w =>
 U (st 45 t3 (.slice none 0 0)) w fun w =>
 U (st 4 t4 (.bool false)) w fun w =>
 TakeW (marks t141) w fun w =>
 CW 45 t2 w fun t1002 => CW 45 t3 w fun t1003 => CW 4 t4 w fun t1004 => R (.tuple #[t1002, t1003, t1004]) w)
 (V (ld 28 t1) w fun t88 w =>
 CV (.func (.func 74) #[] #[]) #[t88, t46] w fun t90 w =>
 ∀ (lp0 : Loop) (r0 l0 : Nat) (w1 : World), NewRF w w1 r0 l0 lp0 →
 (∀ (w : World) (Kl0 : Value → World → Prop), ∀ t91, ∀ t92, (BeginW l0 lp0 w fun w =>
 Dr w fun w =>
 HV (ld 240 t7) w fun t93 =>
 HV (ld 38 t11) w fun t95 =>
 HV (ld 238 t12) w fun t96 =>
 CV (.func (.func 162) #[] #[]) #[t95, t96, t92] w fun t98 w =>
 RunIs (ld 240 t7) w t93 ∧ (CV t93 #[t91, t98] w fun t99 w =>
 PV (un .not t99) fun t100 =>
 CondW t100
 (U (st 45 t2 (.slice none 0 0)) w fun w =>
 U (st 45 t3 (.slice none 0 0)) w fun w =>
 U (st 4 t4 (.bool false)) w fun w =>
 EndW l0 lp0 (some .ret) w Kl0)
 (EndW l0 lp0 none w Kl0))) → w.heap[l0]? = some (lobj lp0 .ready none) → CV (.func (.yield l0) #[] #[]) #[t91, t92] w Kl0) →
 CE t90 #[.func (.yield l0) #[] #[]] w1 fun _ w => RfEnd l0 lp0 w (fun w =>
 I1 [(.iface r0 t141)] w ∧ M1 [(.iface r0 t141)] w < m1) (fun w =>
 TakeW (marks (.iface r0 t141)) w fun w =>
 CW 45 t2 w fun t1002 => CW 45 t3 w fun t1003 => CW 4 t4 w fun t1004 => R (.tuple #[t1002, t1003, t1004]) w) [])) → K0 [t87] w) →
 CondW t75
 (K0 [(.bool true)] w)
 (V (fa 38 t11 0) w fun t77 w =>
 V (ld 3 t77) w fun t78 w =>
 V (eq .eql 3 (.tmp 78) (.const (.int .i64 33)) t78 (.int .i64 33)) w fun t79 w =>
 ∀ K1 : List Value → World → Prop, (∀ t86, ∀ w, (∀ g : Env,
 K0 [t86] w) → K1 [t86] w) →
 CondW t79
 (V (fa 238 t12 1) w fun t81 w =>
 V (ld 3 t81) w fun t82 w =>
 V (fa 38 t11 1) w fun t83 w =>
 V (ld 3 t83) w fun t84 w =>
 V (bi .lss 3 t82 t84) w fun t85 w =>
 K1 [t85] w)
 (K1 [(.bool false)] w))) → K0 [t75] w) →
 CondW t69
 (K0 [(.bool true)] w)
 (V (fa 238 t12 0) w fun t71 w =>
 V (ld 3 t71) w fun t72 w =>
 V (bi .lss 3 t72 t63) w fun t74 w =>
 K0 [t74] w)) → K0 [t11, t12] w) →
 Dr w fun w =>
 PV (fa 28 t1 5) fun t52 =>
 HV (ld 26 t52) w fun t53 =>
 PV (ia 26 t53 t46) fun t55 =>
 HV (ld 38 t55) w fun t56 =>
 HV (ld 236 t5) w fun t57 =>
 HV (lk 236 t57 t46 false) w fun t59 =>
 (V (al 38) w fun t11 w =>
 RunIs (lk 236 t57 t46 false) w t59 ∧ RunIs (ld 236 t5) w t57 ∧ RunIs (ld 38 t55) w t56 ∧ RunIs (ld 26 t52) w t53 ∧ (V (al 238) w fun t12 w =>
 RunIs (lk 236 t57 t46 false) w t59 ∧ RunIs (ld 236 t5) w t57 ∧ RunIs (ld 38 t55) w t56 ∧ RunIs (ld 26 t52) w t53 ∧ (U (st 38 t11 t56) w fun w =>
 RunIs (lk 236 t57 t46 false) w t59 ∧ RunIs (ld 236 t5) w t57 ∧ (U (st 238 t12 t59) w fun w =>
 K0 [t11, t12] w)))) ∧
 (V (al 238) w fun t12 w =>
 RunIs (lk 236 t57 t46 false) w t59 ∧ RunIs (ld 236 t5) w t57 ∧ RunIs (ld 38 t55) w t56 ∧ RunIs (ld 26 t52) w t53 ∧ (V (al 38) w fun t11 w =>
 RunIs (lk 236 t57 t46 false) w t59 ∧ RunIs (ld 236 t5) w t57 ∧ RunIs (ld 38 t55) w t56 ∧ RunIs (ld 26 t52) w t53 ∧ (U (st 38 t11 t56) w fun w =>
 RunIs (lk 236 t57 t46 false) w t59 ∧ RunIs (ld 236 t5) w t57 ∧ (U (st 238 t12 t59) w fun w =>
 K0 [t11, t12] w)))))
 (∀ K0 : List Value → World → Prop, (∀ t18, ∀ t19, ∀ w, (∀ g : Env,
 V (fa 28 t1 5) w fun t109 w =>
 V (ld 26 t109) w fun t110 w =>
 V (Builtin.len_ #[26] 3 #[t110]) w fun t111 w =>
 ∃ (I2 : List Value → World → Prop) (M2 : List Value → World → Nat), I2 [(.int .i64 0)] w ∧ ∀ g : Env, ∀ t112, ∀ w, I2 [t112] w → ∀ m2, m2 = M2 [t112] w →
 V (bi .lss 3 t112 t111) w fun t113 w =>
 CondW t113
 (∀ K0 : List Value → World → Prop, (∀ w, (∀ g : Env,
 V (bi .add 3 t112 (.int .i64 1)) w fun t138 w =>
 I2 [t138] w ∧ M2 [t138] w < m2) → K0 [] w) →
 V (ia 45 t18 t112) w fun t119 w =>
 U (st 3 t119 (.int .i64 (-1))) w fun w =>
 V (ia 45 t19 t112) w fun t120 w =>
 U (st 3 t120 (.int .i64 (-1))) w fun w =>
 V (ld 236 t5) w fun t122 w =>
 V (lk 236 t122 t112 true) w fun t124 w =>
 V (ex t124 0) w fun t125 w =>
 V (ex t124 1) w fun t126 w =>
 V (al 238) w fun t21 w =>
 U (st 238 t21 t125) w fun w =>
 CondW t126
 (Dr w fun w =>
 PV (fa 238 t21 0) fun t132 =>
 HV (ld 3 t132) w fun t133 =>
 PV (fa 238 t21 1) fun t134 =>
 HV (ld 3 t134) w fun t135 =>
 PV (ia 45 t18 t112) fun t136 =>
 U (st 3 t136 t133) w fun w =>
 RunIs (ld 3 t134) w t135 ∧ (PV (ia 45 t19 t112) fun t137 =>
 U (st 3 t137 t135) w fun w =>
 K0 [] w))
 (K0 [] w))
 (U (st 45 t2 t18) w fun w =>
 U (st 45 t3 t19) w fun w =>
 U (st 4 t4 (.bool true)) w fun w =>
 TakeW (marks t141) w fun w =>
 CW 45 t2 w fun t1002 => CW 45 t3 w fun t1003 => CW 4 t4 w fun t1004 => R (.tuple #[t1002, t1003, t1004]) w)) → K0 [t18, t19] w) →
 Dr w fun w =>
 PV (fa 28 t1 5) fun t101 =>
 HV (ld 26 t101) w fun t102 =>
 PV (Builtin.len_ #[26] 3 #[t102]) fun t103 =>
 PV (fa 28 t1 5) fun t105 =>
 HV (ld 26 t105) w fun t106 =>
 PV (Builtin.len_ #[26] 3 #[t106]) fun t107 =>
 (V (ms 45 t103 t103) w fun t104 w =>
 RunIs (ld 26 t105) w t106 ∧ RunIs (ld 26 t101) w t102 ∧ (V (ms 45 t107 t107) w fun t108 w =>
 RunIs (ld 26 t105) w t106 ∧ RunIs (ld 26 t101) w t102 ∧ (K0 [t104, t108] w))) ∧
 (V (ms 45 t107 t107) w fun t108 w =>
 RunIs (ld 26 t105) w t106 ∧ RunIs (ld 26 t101) w t102 ∧ (V (ms 45 t103 t103) w fun t104 w =>
 RunIs (ld 26 t105) w t106 ∧ RunIs (ld 26 t101) w t102 ∧ (K0 [t104, t108] w)))))
theorem eq50 (R : Value → World → Prop) (w : World) (t0 : Value) : enterW Tryz.prog Tryz.f50 an50 [t0] w R = vc50 R w t0 := by kernel_rfl
theorem en50 {R : Value → World → Prop} {w : World} {t0 : Value} (h : vc50 R w t0) : Calls Tryz.prog 50 #[t0] w (retK R) :=
  calls_of_enter mixed Tryz.func50 (by kernel_rfl) (by rw [eq50]; exact h)

def an56 : Ann := (.seq (.reg (opn 1 .done)) (.seq (.reg (opn 25 .done)) (.seq (.seq (.reg (opn 9 .done)) (.seq (.reg (opn 1 .done)) (.cond (.seq (.reg (opn 7 .done)) .leaf) .leaf))) (.seq (.reg (opn 3 (.join [46] [39, 40, 41, 42, 43, 44, 45, 46] (.split 38 (opn 8 .done) (opn 3 (.join [45] [42, 43, 44, 45] (.split 41 (opn 4 .done) (opn 4 .done)) (opn 1 .done)))) (opn 1 .done)))) .leaf))))
def vc56 (R : Value → World → Prop) (w : World) (t0 t1 : Value) : Prop :=
 V (mm 245 none) w fun t8 w =>
 V (bd 219 #[(0, (.int .i64 0)), (1, (.int .i64 0))]) w fun t9 w =>
 U (mu 245 t8 (.int .i64 0) t9) w fun w =>
 V (bd 219 #[(0, (.int .i64 0)), (1, (.int .i64 1))]) w fun t10 w =>
 U (mu 245 t8 (.int .i64 14) t10) w fun w =>
 V (bd 219 #[(0, (.int .i64 0)), (1, (.int .i64 2))]) w fun t11 w =>
 U (mu 245 t8 (.int .i64 15) t11) w fun w =>
 V (bd 219 #[(0, (.int .i64 0)), (1, (.int .i64 10))]) w fun t12 w =>
 U (mu 245 t8 (.int .i64 16) t12) w fun w =>
 CV (.func (.func 168) #[] #[]) #[] w fun t13 w =>
 V (Builtin.len_ #[22] 3 #[t13]) w fun t14 w =>
 V (bd 219 #[(0, (.int .i64 1)), (1, t14)]) w fun t15 w =>
 U (mu 245 t8 (.int .i64 17) t15) w fun w =>
 CV (.func (.func 169) #[] #[]) #[] w fun t16 w =>
 V (Builtin.len_ #[22] 3 #[t16]) w fun t17 w =>
 V (bd 219 #[(0, (.int .i64 1)), (1, t17)]) w fun t18 w =>
 U (mu 245 t8 (.int .i64 18) t18) w fun w =>
 V (bd 219 #[(0, (.int .i64 1)), (1, (.int .i64 6))]) w fun t19 w =>
 U (mu 245 t8 (.int .i64 19) t19) w fun w =>
 V (bd 219 #[(0, (.int .i64 1)), (1, (.int .i64 40))]) w fun t20 w =>
 U (mu 245 t8 (.int .i64 20) t20) w fun w =>
 V (bd 219 #[(0, (.int .i64 1)), (1, (.int .i64 99))]) w fun t21 w =>
 U (mu 245 t8 (.int .i64 21) t21) w fun w =>
 V (lk 245 t8 t0 true) w fun t26 w =>
 V (ex t26 0) w fun t27 w =>
 V (ex t26 1) w fun t28 w =>
 V (al 219) w fun t6 w =>
 U (st 219 t6 t27) w fun w =>
 CondW t28
 (V (ia 219 t6 (.int .i64 0)) w fun t31 w =>
 V (ld 3 t31) w fun t32 w =>
 V (ia 219 t6 (.int .i64 1)) w fun t33 w =>
 V (ld 3 t33) w fun t34 w =>
 CV (.func (.func 75) #[] #[]) #[t1, t32, t34] w fun t35 w =>
 R t35 w)
 (V (eq .eql 3 (.tmp 36) (.const (.int .i64 23)) t0 (.int .i64 23)) w fun t37 w =>
 ∀ K0 : List Value → World → Prop, (∀ t46, ∀ w, (∀ g : Env,
 R t46 w) → K0 [t46] w) →
 CondW t37
 (K0 [(.bool true)] w)
 (V (eq .eql 3 (.tmp 39) (.const (.int .i64 22)) t0 (.int .i64 22)) w fun t40 w =>
 ∀ K1 : List Value → World → Prop, (∀ t45, ∀ w, (∀ g : Env,
 K0 [t45] w) → K1 [t45] w) →
 CondW t40
 (CV (.func (.func 57) #[] #[]) #[t1] w fun t43 w =>
 V (bi .geq 3 t43 (.int .i64 0)) w fun t44 w =>
 K1 [t44] w)
 (K1 [(.bool false)] w)))
theorem eq56 (R : Value → World → Prop) (w : World) (t0 t1 : Value) : enterW Tryz.prog Tryz.f56 an56 [t0, t1] w R = vc56 R w t0 t1 := by kernel_rfl
theorem en56 {R : Value → World → Prop} {w : World} {t0 t1 : Value} (h : vc56 R w t0 t1) : Calls Tryz.prog 56 #[t0, t1] w (retK R) :=
  calls_of_enter mixed Tryz.func56 (by kernel_rfl) (by rw [eq56]; exact h)

def an57 : Ann := (.seq (.reg (opn 1 .done)) (.seq (.reg (opn 10 .done)) (.seq (.reg (opn 1 .done)) (.seq (.one (.loop [4] [14, 15, 16, 17, 18, 19, 20, 21, 22, 23, 24, 25, 26, 27, 28, 29, 30, 2, 31, 32, 4] (.seq (.seq (.reg (opn 3 (.join [22] [17, 18, 19, 20, 21, 22] (.split 16 (opn 6 .done) (opn 6 .done)) .done))) (.cond .leaf .leaf)) (.one (.seq (.seq (.draw (.take 0 (.take 1 (.take 2 (.take 3 (.take 4 (.take 5 (.hold 6 (.alts (.eff 7 .done .nil)))))))))) (.cond (.seq (.reg (opn 1 .done)) .leaf) .leaf)) (.reg (opn 3 .done))))))) (.seq (.seq (.reg (opn 4 (.join [42] [37, 38, 39, 40, 41, 42] (.split 36 (opn 6 .done) (opn 6 .done)) .done))) (.cond (.seq (.reg (opn 1 .done)) .leaf) .leaf)) (.seq (.reg (opn 2 .done)) .leaf))))))
def vc57 (R : Value → World → Prop) (w : World) (t0 : Value) : Prop :=
 V (bi .and 3 t0 (.int .i64 3)) w fun t6 w =>
 V (bi .shr 3 t0 (.int .u64 2)) w fun t8 w =>
 V (bi .and 3 t8 (.int .i64 3)) w fun t9 w =>
 V (bi .shr 3 t0 (.int .u64 4)) w fun t11 w =>
 V (bi .and 3 t11 (.int .i64 3)) w fun t12 w =>
 V (bs 45 3 #[(0, t6), (1, t9), (2, t12)]) w fun t13 w =>
 ∃ (I0 : List Value → World → Prop) (M0 : List Value → World → Nat), I0 [(.int .i64 0)] w ∧ ∀ g : Env, ∀ t4, ∀ w, I0 [t4] w → ∀ m0, m0 = M0 [t4] w →
 V (bi .lss 3 t4 (.int .i64 3)) w fun t15 w =>
 ∀ K0 : List Value → World → Prop, (∀ t22, ∀ w, (∀ g : Env,
 CondW t22
 (Dr w fun w =>
 PV (sl 45 t13 none (some t4) none) fun t25 =>
 PV (ia 45 t13 t4) fun t28 =>
 HV (ld 3 t28) w fun t29 =>
 CV (.func (.func 76) #[] #[]) #[t25, t29] w fun t30 w =>
 CondW t30
 (R (.int .i64 (-1)) w)
 (V (bi .add 3 t4 (.int .i64 1)) w fun t32 w =>
 I0 [t32] w ∧ M0 [t32] w < m0))
 (V (bi .shr 3 t0 (.int .u64 6)) w fun t34 w =>
 V (eq .neq 3 (.tmp 34) (.const (.int .i64 0)) t34 (.int .i64 0)) w fun t35 w =>
 ∀ K0 : List Value → World → Prop, (∀ t42, ∀ w, (∀ g : Env,
 CondW t42
 (R (.int .i64 (-1)) w)
 (R t4 w)) → K0 [t42] w) →
 CondW t35
 (K0 [(.bool true)] w)
 (V (sl 45 t13 (some t4) none none) w fun t39 w =>
 CV (.func (.func 170) #[] #[]) #[t39, (.func (.func 171) #[] #[])] w fun t40 w =>
 V (un .not t40) w fun t41 w =>
 K0 [t41] w))) → K0 [t22] w) →
 CondW t15
 (V (ia 45 t13 t4) w fun t19 w =>
 V (ld 3 t19) w fun t20 w =>
 V (eq .neq 3 (.tmp 20) (.const (.int .i64 0)) t20 (.int .i64 0)) w fun t21 w =>
 K0 [t21] w)
 (K0 [(.bool false)] w)
theorem eq57 (R : Value → World → Prop) (w : World) (t0 : Value) : enterW Tryz.prog Tryz.f57 an57 [t0] w R = vc57 R w t0 := by kernel_rfl
theorem en57 {R : Value → World → Prop} {w : World} {t0 : Value} (h : vc57 R w t0) : Calls Tryz.prog 57 #[t0] w (retK R) :=
  calls_of_enter mixed Tryz.func57 (by kernel_rfl) (by rw [eq57]; exact h)

def an61 : Ann := (.seq (.reg (opn 2 .done)) (.seq (.reg (opn 2 .done)) .leaf))
def vc61 (R : Value → World → Prop) (w : World) (t0 : Value) : Prop :=
 V (bx 121 t0) w fun t1 w =>
 R (.func (.func 172) #[] #[t1]) w
theorem eq61 (R : Value → World → Prop) (w : World) (t0 : Value) : enterW Tryz.prog Tryz.f61 an61 [t0] w R = vc61 R w t0 := by kernel_rfl
theorem en61 {R : Value → World → Prop} {w : World} {t0 : Value} (h : vc61 R w t0) : Calls Tryz.prog 61 #[t0] w (retK R) :=
  calls_of_enter mixed Tryz.func61 (by kernel_rfl) (by rw [eq61]; exact h)

def an62 : Ann := (.seq (.reg (opn 2 .done)) (.seq (.seq (.reg (opn 1 .done)) (.one (.seqJ [6] [7, 6, 8, 9, 10, 11, 12, 13] (.seq (.reg (opn 2 .done)) (.cond .leaf (.seq (.reg (opn 2 .done)) (.cond .leaf (.seq (.reg (opn 2 .done)) (.cond .leaf (.seq (.reg (opn 2 .done)) (.cond .leaf (.seq (.reg (opn 2 .done)) (.cond .leaf (.seq (.reg (opn 2 .done)) (.cond .leaf (.reg (opn 2 .done)))))))))))))) (.cond (.seq (.reg (opn 3 .done)) .leaf) (.seq (.reg (opn 2 .done)) (.cond (.seq (.reg (opn 3 .done)) .leaf) (.seqJ [20] [21, 20, 22] (.seq (.reg (opn 2 .done)) (.cond .leaf (.reg (opn 2 .done)))) (.cond (.seq (.reg (opn 3 .done)) .leaf) .leaf)))))))) (.seq (.reg (opn 1 .done)) .leaf)))
def vc62 (R : Value → World → Prop) (w : World) (t0 t1 : Value) : Prop :=
 V (bx 117 t0) w fun t2 w =>
 ∀ K0 : List Value → World → Prop, (∀ t6, ∀ w, (∀ g : Env,
 CondW t6
 (V (fa 117 t2 0) w fun t14 w =>
 V (ld 115 t14) w fun t15 w =>
 R t15 w)
 (V (eq .eql 3 (.tmp 5) (.const (.int .i64 10)) t1 (.int .i64 10)) w fun t17 w =>
 CondW t17
 (V (fa 117 t2 1) w fun t18 w =>
 V (ld 115 t18) w fun t19 w =>
 R t19 w)
 (∀ K0 : List Value → World → Prop, (∀ t20, ∀ w, (∀ g : Env,
 CondW t20
 (V (fa 117 t2 2) w fun t23 w =>
 V (ld 115 t23) w fun t24 w =>
 R t24 w)
 (R (.map none) w)) → K0 [t20] w) →
 V (eq .eql 3 (.tmp 5) (.const (.int .i64 11)) t1 (.int .i64 11)) w fun t21 w =>
 CondW t21
 (K0 [t21] w)
 (V (eq .eql 3 (.tmp 5) (.const (.int .i64 12)) t1 (.int .i64 12)) w fun t22 w =>
 K0 [t22] w)))) → K0 [t6] w) →
 V (eq .eql 3 (.tmp 5) (.const (.int .i64 2)) t1 (.int .i64 2)) w fun t7 w =>
 CondW t7
 (K0 [t7] w)
 (V (eq .eql 3 (.tmp 5) (.const (.int .i64 3)) t1 (.int .i64 3)) w fun t8 w =>
 CondW t8
 (K0 [t8] w)
 (V (eq .eql 3 (.tmp 5) (.const (.int .i64 4)) t1 (.int .i64 4)) w fun t9 w =>
 CondW t9
 (K0 [t9] w)
 (V (eq .eql 3 (.tmp 5) (.const (.int .i64 5)) t1 (.int .i64 5)) w fun t10 w =>
 CondW t10
 (K0 [t10] w)
 (V (eq .eql 3 (.tmp 5) (.const (.int .i64 6)) t1 (.int .i64 6)) w fun t11 w =>
 CondW t11
 (K0 [t11] w)
 (V (eq .eql 3 (.tmp 5) (.const (.int .i64 7)) t1 (.int .i64 7)) w fun t12 w =>
 CondW t12
 (K0 [t12] w)
 (V (eq .eql 3 (.tmp 5) (.const (.int .i64 8)) t1 (.int .i64 8)) w fun t13 w =>
 K0 [t13] w))))))
theorem eq62 (R : Value → World → Prop) (w : World) (t0 t1 : Value) : enterW Tryz.prog Tryz.f62 an62 [t0, t1] w R = vc62 R w t0 t1 := by kernel_rfl
theorem en62 {R : Value → World → Prop} {w : World} {t0 t1 : Value} (h : vc62 R w t0 t1) : Calls Tryz.prog 62 #[t0, t1] w (retK R) :=
  calls_of_enter mixed Tryz.func62 (by kernel_rfl) (by rw [eq62]; exact h)

def an63 : Ann := (.seq (.reg (opn 2 .done)) (.seq (.reg (opn 1 .done)) (.seq (.reg (opn 4 .done)) (.seq (.seq (.reg (opn 3 .done)) (.one (.loop [6, 14] [15, 16, 17, 18, 8, 9, 19, 20, 21, 22, 23, 24, 25, 26, 27, 28, 29, 6, 30, 14] (.seq (.reg (opn 1 .done)) (.seq (.cond .leaf .leaf) (.seqJ [6] [16, 17, 18, 8, 9, 19, 20, 21, 22, 23, 24, 25, 26, 27, 28, 29, 6] (.one (.seq (.reg (opn 5 .done)) (.seq (.reg (opn 3 .done)) (.cond (.seq (.reg (opn 5 .done)) (.reg (opn 5 .done))) .leaf)))) (.reg (opn 2 .done)))))))) (.seq (.reg (opn 4 .done)) .leaf)))))
def vc63 (R : Value → World → Prop) (w : World) (t0 t1 : Value) : Prop :=
 V (mm 124 none) w fun t10 w =>
 U (mu 124 t10 (.int .i64 (-1)) (.int .i64 (-1))) w fun w =>
 V (Builtin.len_ #[22] 3 #[t0]) w fun t13 w =>
 ∃ (I0 : List Value → World → Prop) (M0 : List Value → World → Nat), I0 [(.slice none 0 0), (.int .i64 0)] w ∧ ∀ g : Env, ∀ t6, ∀ t14, ∀ w, I0 [t6, t14] w → ∀ m0, m0 = M0 [t6, t14] w →
 V (bi .lss 3 t14 t13) w fun t15 w =>
 CondW t15
 (∀ K0 : List Value → World → Prop, (∀ t6a, ∀ w, (∀ g : Env,
 V (bi .add 3 t14 (.int .i64 1)) w fun t30 w =>
 I0 [t6a, t30] w ∧ M0 [t6a, t30] w < m0) → K0 [t6a] w) →
 V (ia 22 t0 t14) w fun t17 w =>
 V (ld 9 t17) w fun t18 w =>
 V (lk 115 t1 t14 false) w fun t21 w =>
 CondW t21
 (V (Builtin.len_ #[22] 3 #[t6]) w fun t25 w =>
 U (mu 124 t10 t14 t25) w fun w =>
 V (bs 22 1 #[(0, t18)]) w fun t28 w =>
 V (Builtin.append_ #[22, 22] 22 #[t6, t28]) w fun t29 w =>
 K0 [t29] w)
 (K0 [t6] w))
 (R (.tuple #[t6, t10]) w)
theorem eq63 (R : Value → World → Prop) (w : World) (t0 t1 : Value) : enterW Tryz.prog Tryz.f63 an63 [t0, t1] w R = vc63 R w t0 t1 := by kernel_rfl
theorem en63 {R : Value → World → Prop} {w : World} {t0 t1 : Value} (h : vc63 R w t0 t1) : Calls Tryz.prog 63 #[t0, t1] w (retK R) :=
  calls_of_enter mixed Tryz.func63 (by kernel_rfl) (by rw [eq63]; exact h)

def an64 : Ann := (.seq (.reg (opn 2 .done)) (.seq (.reg (opn 1 .done)) (.seq (.reg (opn 4 .done)) (.seq (.seq (.reg (opn 3 .done)) (.one (.loop [6, 14] [15, 16, 17, 18, 8, 9, 19, 20, 21, 22, 23, 24, 25, 26, 27, 28, 29, 6, 30, 14] (.seq (.reg (opn 1 .done)) (.seq (.cond .leaf .leaf) (.seqJ [6] [16, 17, 18, 8, 9, 19, 20, 21, 22, 23, 24, 25, 26, 27, 28, 29, 6] (.one (.seq (.reg (opn 5 .done)) (.seq (.reg (opn 3 .done)) (.cond (.seq (.reg (opn 5 .done)) (.reg (opn 5 .done))) .leaf)))) (.reg (opn 2 .done)))))))) (.seq (.reg (opn 4 .done)) .leaf)))))
def vc64 (R : Value → World → Prop) (w : World) (t0 t1 : Value) : Prop :=
 V (mm 124 none) w fun t10 w =>
 U (mu 124 t10 (.int .i64 (-1)) (.int .i64 (-1))) w fun w =>
 V (Builtin.len_ #[23] 3 #[t0]) w fun t13 w =>
 ∃ (I0 : List Value → World → Prop) (M0 : List Value → World → Nat), I0 [(.slice none 0 0), (.int .i64 0)] w ∧ ∀ g : Env, ∀ t6, ∀ t14, ∀ w, I0 [t6, t14] w → ∀ m0, m0 = M0 [t6, t14] w →
 V (bi .lss 3 t14 t13) w fun t15 w =>
 CondW t15
 (∀ K0 : List Value → World → Prop, (∀ t6a, ∀ w, (∀ g : Env,
 V (bi .add 3 t14 (.int .i64 1)) w fun t30 w =>
 I0 [t6a, t30] w ∧ M0 [t6a, t30] w < m0) → K0 [t6a] w) →
 V (ia 23 t0 t14) w fun t17 w =>
 V (ld 93 t17) w fun t18 w =>
 V (lk 115 t1 t14 false) w fun t21 w =>
 CondW t21
 (V (Builtin.len_ #[23] 3 #[t6]) w fun t25 w =>
 U (mu 124 t10 t14 t25) w fun w =>
 V (bs 23 1 #[(0, t18)]) w fun t28 w =>
 V (Builtin.append_ #[23, 23] 23 #[t6, t28]) w fun t29 w =>
 K0 [t29] w)
 (K0 [t6] w))
 (R (.tuple #[t6, t10]) w)
theorem eq64 (R : Value → World → Prop) (w : World) (t0 t1 : Value) : enterW Tryz.prog Tryz.f64 an64 [t0, t1] w R = vc64 R w t0 t1 := by kernel_rfl
theorem en64 {R : Value → World → Prop} {w : World} {t0 t1 : Value} (h : vc64 R w t0 t1) : Calls Tryz.prog 64 #[t0, t1] w (retK R) :=
  calls_of_enter mixed Tryz.func64 (by kernel_rfl) (by rw [eq64]; exact h)

def an65 : Ann := (.seq (.reg (opn 2 .done)) (.seq (.reg (opn 1 .done)) (.seq (.reg (opn 4 .done)) (.seq (.seq (.reg (opn 3 .done)) (.one (.loop [6, 14] [15, 16, 17, 18, 8, 9, 19, 20, 21, 22, 23, 24, 25, 26, 27, 28, 29, 6, 30, 14] (.seq (.reg (opn 1 .done)) (.seq (.cond .leaf .leaf) (.seqJ [6] [16, 17, 18, 8, 9, 19, 20, 21, 22, 23, 24, 25, 26, 27, 28, 29, 6] (.one (.seq (.reg (opn 5 .done)) (.seq (.reg (opn 3 .done)) (.cond (.seq (.reg (opn 5 .done)) (.reg (opn 5 .done))) .leaf)))) (.reg (opn 2 .done)))))))) (.seq (.reg (opn 4 .done)) .leaf)))))
def vc65 (R : Value → World → Prop) (w : World) (t0 t1 : Value) : Prop :=
 V (mm 124 none) w fun t10 w =>
 U (mu 124 t10 (.int .i64 (-1)) (.int .i64 (-1))) w fun w =>
 V (Builtin.len_ #[24] 3 #[t0]) w fun t13 w =>
 ∃ (I0 : List Value → World → Prop) (M0 : List Value → World → Nat), I0 [(.slice none 0 0), (.int .i64 0)] w ∧ ∀ g : Env, ∀ t6, ∀ t14, ∀ w, I0 [t6, t14] w → ∀ m0, m0 = M0 [t6, t14] w →
 V (bi .lss 3 t14 t13) w fun t15 w =>
 CondW t15
 (∀ K0 : List Value → World → Prop, (∀ t6a, ∀ w, (∀ g : Env,
 V (bi .add 3 t14 (.int .i64 1)) w fun t30 w =>
 I0 [t6a, t30] w ∧ M0 [t6a, t30] w < m0) → K0 [t6a] w) →
 V (ia 24 t0 t14) w fun t17 w =>
 V (ld 96 t17) w fun t18 w =>
 V (lk 115 t1 t14 false) w fun t21 w =>
 CondW t21
 (V (Builtin.len_ #[24] 3 #[t6]) w fun t25 w =>
 U (mu 124 t10 t14 t25) w fun w =>
 V (bs 24 1 #[(0, t18)]) w fun t28 w =>
 V (Builtin.append_ #[24, 24] 24 #[t6, t28]) w fun t29 w =>
 K0 [t29] w)
 (K0 [t6] w))
 (R (.tuple #[t6, t10]) w)
theorem eq65 (R : Value → World → Prop) (w : World) (t0 t1 : Value) : enterW Tryz.prog Tryz.f65 an65 [t0, t1] w R = vc65 R w t0 t1 := by kernel_rfl
theorem en65 {R : Value → World → Prop} {w : World} {t0 t1 : Value} (h : vc65 R w t0 t1) : Calls Tryz.prog 65 #[t0, t1] w (retK R) :=
  calls_of_enter mixed Tryz.func65 (by kernel_rfl) (by rw [eq65]; exact h)

def an66 : Ann := (.seq (.reg (opn 1 .done)) (.seq (.seq (.reg (opn 1 .done)) (.one (.seq (.reg (opn 2 .done)) (.cond (.seq (.reg (opn 5 .done)) .leaf) (.seq (.reg (opn 2 .done)) (.cond (.seq (.reg (opn 4 .done)) .leaf) (.seqJ [22] [23, 22, 24] (.seq (.reg (opn 2 .done)) (.cond .leaf (.reg (opn 2 .done)))) (.cond (.seq (.reg (opn 4 .done)) .leaf) .leaf)))))))) (.seq (.seq (.reg (opn 4 .done)) (.cond (.seq (.reg (opn 4 .done)) .leaf) .leaf)) (.seq (.reg (opn 2 .done)) .leaf))))
def vc66 (R : Value → World → Prop) (w : World) (t0 t1 t2 t3 t4 t5 t6 : Value) : Prop :=
 V (eq .eql 3 (.tmp 10) (.const (.int .i64 13)) t0 (.int .i64 13)) w fun t12 w =>
 CondW t12
 (V (ld 45 t2) w fun t13 w =>
 V (ia 45 t13 t1) w fun t15 w =>
 V (ld 3 t15) w fun t16 w =>
 R t16 w)
 (V (eq .eql 3 (.tmp 10) (.const (.int .i64 10)) t0 (.int .i64 10)) w fun t18 w =>
 CondW t18
 (V (ld 124 t3) w fun t19 w =>
 V (lk 124 t19 t1 false) w fun t21 w =>
 R t21 w)
 (∀ K0 : List Value → World → Prop, (∀ t22, ∀ w, (∀ g : Env,
 CondW t22
 (V (ld 124 t4) w fun t25 w =>
 V (lk 124 t25 t1 false) w fun t27 w =>
 R t27 w)
 (V (ld 117 t5) w fun t28 w =>
 CV (.func (.func 62) #[] #[]) #[t28, t0] w fun t30 w =>
 V (eq .neq 115 (.tmp 30) (.const (.map none)) t30 (.map none)) w fun t31 w =>
 CondW t31
 (V (ld 124 t6) w fun t32 w =>
 V (lk 124 t32 t1 false) w fun t34 w =>
 R t34 w)
 (R t1 w))) → K0 [t22] w) →
 V (eq .eql 3 (.tmp 10) (.const (.int .i64 11)) t0 (.int .i64 11)) w fun t23 w =>
 CondW t23
 (K0 [t23] w)
 (V (eq .eql 3 (.tmp 10) (.const (.int .i64 12)) t0 (.int .i64 12)) w fun t24 w =>
 K0 [t24] w)))
theorem eq66 (R : Value → World → Prop) (w : World) (t0 t1 t2 t3 t4 t5 t6 : Value) : enterW Tryz.prog Tryz.f66 an66 [t0, t1, t2, t3, t4, t5, t6] w R = vc66 R w t0 t1 t2 t3 t4 t5 t6 := by kernel_rfl
theorem en66 {R : Value → World → Prop} {w : World} {t0 t1 t2 t3 t4 t5 t6 : Value} (h : vc66 R w t0 t1 t2 t3 t4 t5 t6) : Calls Tryz.prog 66 #[t0, t1, t2, t3, t4, t5, t6] w (retK R) :=
  calls_of_enter mixed Tryz.func66 (by kernel_rfl) (by rw [eq66]; exact h)

def an67 : Ann := (.seq (.reg (opn 1 .done)) (.seq (.seq (.reg (opn 2 .done)) (.cond (.seq (.reg (opn 1 .done)) .leaf) .leaf)) (.seq (.reg (opn 4 .done)) .leaf)))
def vc67 (R : Value → World → Prop) (w : World) (t0 : Value) : Prop :=
 V (eq .eql 93 (.tmp 3) (.const (.slice none 0 0)) t0 (.slice none 0 0)) w fun t4 w =>
 CondW t4
 (R (.slice none 0 0) w)
 (V (bs 93 0 #[]) w fun t5 w =>
 V (Builtin.append_ #[93, 93] 93 #[t5, t0]) w fun t7 w =>
 R t7 w)
theorem eq67 (R : Value → World → Prop) (w : World) (t0 : Value) : enterW Tryz.prog Tryz.f67 an67 [t0] w R = vc67 R w t0 := by kernel_rfl
theorem en67 {R : Value → World → Prop} {w : World} {t0 : Value} (h : vc67 R w t0) : Calls Tryz.prog 67 #[t0] w (retK R) :=
  calls_of_enter mixed Tryz.func67 (by kernel_rfl) (by rw [eq67]; exact h)

def an68 : Ann := (.seq (.reg (opn 1 .done)) (.seq (.seq (.reg (opn 2 .done)) (.cond (.seq (.reg (opn 1 .done)) .leaf) .leaf)) (.seq (.reg (opn 4 .done)) .leaf)))
def vc68 (R : Value → World → Prop) (w : World) (t0 : Value) : Prop :=
 V (eq .eql 96 (.tmp 3) (.const (.slice none 0 0)) t0 (.slice none 0 0)) w fun t4 w =>
 CondW t4
 (R (.slice none 0 0) w)
 (V (bs 96 0 #[]) w fun t5 w =>
 V (Builtin.append_ #[96, 96] 96 #[t5, t0]) w fun t7 w =>
 R t7 w)
theorem eq68 (R : Value → World → Prop) (w : World) (t0 : Value) : enterW Tryz.prog Tryz.f68 an68 [t0] w R = vc68 R w t0 := by kernel_rfl
theorem en68 {R : Value → World → Prop} {w : World} {t0 : Value} (h : vc68 R w t0) : Calls Tryz.prog 68 #[t0] w (retK R) :=
  calls_of_enter mixed Tryz.func68 (by kernel_rfl) (by rw [eq68]; exact h)

def an69 : Ann := (.seq (.reg (opn 1 .done)) (.seq (.seq (.reg (opn 2 .done)) (.cond (.seq (.reg (opn 1 .done)) .leaf) .leaf)) (.seq (.reg (opn 4 .done)) .leaf)))
def vc69 (R : Value → World → Prop) (w : World) (t0 : Value) : Prop :=
 V (eq .eql 22 (.tmp 3) (.const (.slice none 0 0)) t0 (.slice none 0 0)) w fun t4 w =>
 CondW t4
 (R (.slice none 0 0) w)
 (V (bs 22 0 #[]) w fun t5 w =>
 V (Builtin.append_ #[22, 22] 22 #[t5, t0]) w fun t7 w =>
 R t7 w)
theorem eq69 (R : Value → World → Prop) (w : World) (t0 : Value) : enterW Tryz.prog Tryz.f69 an69 [t0] w R = vc69 R w t0 := by kernel_rfl
theorem en69 {R : Value → World → Prop} {w : World} {t0 : Value} (h : vc69 R w t0) : Calls Tryz.prog 69 #[t0] w (retK R) :=
  calls_of_enter mixed Tryz.func69 (by kernel_rfl) (by rw [eq69]; exact h)

def an73 : Ann := (.seq (.reg (opn 2 .done)) (.seq (.reg (opn 2 .done)) (.seq (.seq (.reg (opn 4 .done)) (.one (.loop [3, 10] [11, 12, 13, 5, 14, 15, 16, 17, 18, 19, 20, 21, 22, 23, 24, 25, 3, 26, 10] (.seq (.reg (opn 1 .done)) (.seq (.cond .leaf .leaf) (.seqJ [3] [12, 13, 5, 14, 15, 16, 17, 18, 19, 20, 21, 22, 23, 24, 25, 3] (.one (.seq (.reg (opn 4 .done)) (.seq (.reg (opn 7 .done)) (.cond (.reg (opn 6 .done)) .leaf)))) (.reg (opn 2 .done)))))))) (.seq (.reg (opn 2 .done)) .leaf))))
def vc73 (R : Value → World → Prop) (w : World) (t0 : Value) : Prop :=
 V (bx 28 t0) w fun t1 w =>
 V (bs 45 1 #[(0, (.int .i64 0))]) w fun t6 w =>
 V (fa 28 t1 3) w fun t7 w =>
 V (ld 25 t7) w fun t8 w =>
 V (Builtin.len_ #[25] 3 #[t8]) w fun t9 w =>
 ∃ (I0 : List Value → World → Prop) (M0 : List Value → World → Nat), I0 [t6, (.int .i64 0)] w ∧ ∀ g : Env, ∀ t3, ∀ t10, ∀ w, I0 [t3, t10] w → ∀ m0, m0 = M0 [t3, t10] w →
 V (bi .lss 3 t10 t9) w fun t11 w =>
 CondW t11
 (∀ K0 : List Value → World → Prop, (∀ t3a, ∀ w, (∀ g : Env,
 V (bi .add 3 t10 (.int .i64 1)) w fun t26 w =>
 I0 [t3a, t26] w ∧ M0 [t3a, t26] w < m0) → K0 [t3a] w) →
 V (ia 25 t8 t10) w fun t12 w =>
 V (ld 54 t12) w fun t13 w =>
 V (al 54) w fun t5 w =>
 U (st 54 t5 t13) w fun w =>
 V (fa 54 t5 1) w fun t14 w =>
 V (ld 3 t14) w fun t15 w =>
 V (fa 28 t1 5) w fun t16 w =>
 V (ld 26 t16) w fun t17 w =>
 V (Builtin.len_ #[26] 3 #[t17]) w fun t18 w =>
 V (bi .sub 3 t18 (.int .i64 1)) w fun t19 w =>
 CV (.func (.func 75) #[] #[]) #[t15, (.int .i64 0), t19] w fun t20 w =>
 CondW t20
 (V (fa 54 t5 1) w fun t22 w =>
 V (ld 3 t22) w fun t23 w =>
 V (bs 45 1 #[(0, t23)]) w fun t24 w =>
 V (Builtin.append_ #[45, 45] 45 #[t3, t24]) w fun t25 w =>
 K0 [t25] w)
 (K0 [t3] w))
 (R t3 w)
theorem eq73 (R : Value → World → Prop) (w : World) (t0 : Value) : enterW Tryz.prog Tryz.f73 an73 [t0] w R = vc73 R w t0 := by kernel_rfl
theorem en73 {R : Value → World → Prop} {w : World} {t0 : Value} (h : vc73 R w t0) : Calls Tryz.prog 73 #[t0] w (retK R) :=
  calls_of_enter mixed Tryz.func73 (by kernel_rfl) (by rw [eq73]; exact h)

def an74 : Ann := (.seq (.reg (opn 3 .done)) (.seq (.reg (opn 2 .done)) .leaf))
def vc74 (R : Value → World → Prop) (w : World) (t0 t1 : Value) : Prop :=
 V (bx 28 t0) w fun t2 w =>
 V (bx 3 t1) w fun t3 w =>
 R (.func (.func 173) #[] #[t2, t3]) w
theorem eq74 (R : Value → World → Prop) (w : World) (t0 t1 : Value) : enterW Tryz.prog Tryz.f74 an74 [t0, t1] w R = vc74 R w t0 t1 := by kernel_rfl
theorem en74 {R : Value → World → Prop} {w : World} {t0 t1 : Value} (h : vc74 R w t0 t1) : Calls Tryz.prog 74 #[t0, t1] w (retK R) :=
  calls_of_enter mixed Tryz.func74 (by kernel_rfl) (by rw [eq74]; exact h)

def an75 : Ann := (.seq (.reg (opn 1 .done)) (.seq (.reg (opn 4 (.join [14] [11, 12, 13, 14] (.split 10 (opn 4 .done) (opn 4 .done)) (opn 1 .done)))) .leaf))
def vc75 (R : Value → World → Prop) (w : World) (t0 t1 t2 : Value) : Prop :=
 V (bi .leq 3 t1 t0) w fun t9 w =>
 ∀ K0 : List Value → World → Prop, (∀ t14, ∀ w, (∀ g : Env,
 R t14 w) → K0 [t14] w) →
 CondW t9
 (V (bi .leq 3 t0 t2) w fun t13 w =>
 K0 [t13] w)
 (K0 [(.bool false)] w)
theorem eq75 (R : Value → World → Prop) (w : World) (t0 t1 t2 : Value) : enterW Tryz.prog Tryz.f75 an75 [t0, t1, t2] w R = vc75 R w t0 t1 t2 := by kernel_rfl
theorem en75 {R : Value → World → Prop} {w : World} {t0 t1 t2 : Value} (h : vc75 R w t0 t1 t2) : Calls Tryz.prog 75 #[t0, t1, t2] w (retK R) :=
  calls_of_enter mixed Tryz.func75 (by kernel_rfl) (by rw [eq75]; exact h)

def an76 : Ann := (.seq (.reg (opn 1 .done)) (.seq (.reg (opn 5 .done)) .leaf))
def vc76 (R : Value → World → Prop) (w : World) (t0 t1 : Value) : Prop :=
 CV (.func (.func 174) #[] #[]) #[t0, t1] w fun t7 w =>
 V (bi .geq 3 t7 (.int .i64 0)) w fun t8 w =>
 R t8 w
theorem eq76 (R : Value → World → Prop) (w : World) (t0 t1 : Value) : enterW Tryz.prog Tryz.f76 an76 [t0, t1] w R = vc76 R w t0 t1 := by kernel_rfl
theorem en76 {R : Value → World → Prop} {w : World} {t0 t1 : Value} (h : vc76 R w t0 t1) : Calls Tryz.prog 76 #[t0, t1] w (retK R) :=
  calls_of_enter mixed Tryz.func76 (by kernel_rfl) (by rw [eq76]; exact h)

def an77 : Ann := (.seq (.reg (opn 1 .done)) (.seq (.seq (.reg (opn 3 .done)) (.one (.loop [8] [9, 10, 5, 11, 12, 13, 14, 15, 16, 17, 4, 18, 8] (.seq (.reg (opn 1 .done)) (.seq (.cond .leaf .leaf) (.seq (.one (.seq (.reg (opn 2 .done)) (.seq (.reg (opn 6 .done)) (.cond (.seq (.reg (opn 2 .done)) .leaf) .leaf)))) (.reg (opn 2 .done)))))))) (.seq (.reg (opn 1 .done)) .leaf)))
def vc77 (R : Value → World → Prop) (w : World) (t0 t1 : Value) : Prop :=
 V (Builtin.len_ #[25] 3 #[t0]) w fun t7 w =>
 ∃ (I0 : List Value → World → Prop) (M0 : List Value → World → Nat), I0 [(.int .i64 0)] w ∧ ∀ g : Env, ∀ t8, ∀ w, I0 [t8] w → ∀ m0, m0 = M0 [t8] w →
 V (bi .lss 3 t8 t7) w fun t9 w =>
 CondW t9
 (V (ia 25 t0 t8) w fun t14 w =>
 V (ld 54 t14) w fun t15 w =>
 CV t1 #[t15] w fun t16 w =>
 CondW t16
 (R t8 w)
 (V (bi .add 3 t8 (.int .i64 1)) w fun t18 w =>
 I0 [t18] w ∧ M0 [t18] w < m0))
 (R (.int .i64 (-1)) w)
theorem eq77 (R : Value → World → Prop) (w : World) (t0 t1 : Value) : enterW Tryz.prog Tryz.f77 an77 [t0, t1] w R = vc77 R w t0 t1 := by kernel_rfl
theorem en77 {R : Value → World → Prop} {w : World} {t0 t1 : Value} (h : vc77 R w t0 t1) : Calls Tryz.prog 77 #[t0, t1] w (retK R) :=
  calls_of_enter mixed Tryz.func77 (by kernel_rfl) (by rw [eq77]; exact h)

def an91 : Ann := (.seq (.reg (opn 5 .done)) (.seq (.reg (opn 3 .done)) (.one (.loop [15] [16, 17, 18, 7, 19, 20, 21, 22, 15] (.seq (.reg (opn 1 .done)) (.seq (.cond .leaf .leaf) (.seq (.one (.seq (.reg (opn 3 .done)) (.reg (opn 3 .done)))) (.reg (opn 2 .done)))))))))
def vc91 (R : Value → World → Prop) (w : World) (t0 t1 t2 : Value) : Prop :=
 V (Builtin.len_ #[22] 3 #[t1]) w fun t10 w =>
 V (bs 45 1 #[(0, t10)]) w fun t11 w =>
 CV (.func (.func 175) #[] #[]) #[t0, t11] w fun t12 w =>
 V (Builtin.len_ #[22] 3 #[t1]) w fun t14 w =>
 ∃ (I0 : List Value → World → Prop) (M0 : List Value → World → Nat), I0 [(.int .i64 0)] w ∧ ∀ g : Env, ∀ t15, ∀ w, I0 [t15] w → ∀ m0, m0 = M0 [t15] w →
 V (bi .lss 3 t15 t14) w fun t16 w =>
 CondW t16
 (V (ia 22 t1 t15) w fun t17 w =>
 V (ld 9 t17) w fun t18 w =>
 CV t2 #[t18] w fun t21 w =>
 V (bi .add 3 t15 (.int .i64 1)) w fun t22 w =>
 I0 [t22] w ∧ M0 [t22] w < m0)
 (R (.tuple #[]) w)
theorem eq91 (R : Value → World → Prop) (w : World) (t0 t1 t2 : Value) : enterW Tryz.prog Tryz.f91 an91 [t0, t1, t2] w R = vc91 R w t0 t1 t2 := by kernel_rfl
theorem en91 {R : Value → World → Prop} {w : World} {t0 t1 t2 : Value} (h : vc91 R w t0 t1 t2) : Calls Tryz.prog 91 #[t0, t1, t2] w (retK R) :=
  calls_of_enter mixed Tryz.func91 (by kernel_rfl) (by rw [eq91]; exact h)

def an92 : Ann := (.seq (.reg (opn 5 .done)) (.reg (opn 10 .done)))
def vc92 (R : Value → World → Prop) (w : World) (t0 t1 : Value) : Prop :=
 V (Builtin.len_ #[9] 3 #[t1]) w fun t6 w =>
 V (bs 45 1 #[(0, t6)]) w fun t7 w =>
 CV (.func (.func 175) #[] #[]) #[t0, t7] w fun t8 w =>
 NilW t0 fun t11 => V (fa 156 t11 0) w fun t12 w =>
 V (ld 55 t12) w fun t13 w =>
 V (Builtin.append_ #[55, 9] 55 #[t13, t1]) w fun t15 w =>
 NilW t0 fun t16 => V (fa 156 t16 0) w fun t17 w =>
 U (st 55 t17 t15) w fun w =>
 R (.tuple #[]) w
theorem eq92 (R : Value → World → Prop) (w : World) (t0 t1 : Value) : enterW Tryz.prog Tryz.f92 an92 [t0, t1] w R = vc92 R w t0 t1 := by kernel_rfl
theorem en92 {R : Value → World → Prop} {w : World} {t0 t1 : Value} (h : vc92 R w t0 t1) : Calls Tryz.prog 92 #[t0, t1] w (retK R) :=
  calls_of_enter mixed Tryz.func92 (by kernel_rfl) (by rw [eq92]; exact h)

def an93 : Ann := (.seq (.reg (opn 5 .done)) (.seq (.reg (opn 3 .done)) (.one (.loop [15] [16, 17, 18, 7, 19, 20, 21, 22, 15] (.seq (.reg (opn 1 .done)) (.seq (.cond .leaf .leaf) (.seq (.one (.seq (.reg (opn 3 .done)) (.reg (opn 3 .done)))) (.reg (opn 2 .done)))))))))
def vc93 (R : Value → World → Prop) (w : World) (t0 t1 t2 : Value) : Prop :=
 V (Builtin.len_ #[23] 3 #[t1]) w fun t10 w =>
 V (bs 45 1 #[(0, t10)]) w fun t11 w =>
 CV (.func (.func 175) #[] #[]) #[t0, t11] w fun t12 w =>
 V (Builtin.len_ #[23] 3 #[t1]) w fun t14 w =>
 ∃ (I0 : List Value → World → Prop) (M0 : List Value → World → Nat), I0 [(.int .i64 0)] w ∧ ∀ g : Env, ∀ t15, ∀ w, I0 [t15] w → ∀ m0, m0 = M0 [t15] w →
 V (bi .lss 3 t15 t14) w fun t16 w =>
 CondW t16
 (V (ia 23 t1 t15) w fun t17 w =>
 V (ld 93 t17) w fun t18 w =>
 CV t2 #[t18] w fun t21 w =>
 V (bi .add 3 t15 (.int .i64 1)) w fun t22 w =>
 I0 [t22] w ∧ M0 [t22] w < m0)
 (R (.tuple #[]) w)
theorem eq93 (R : Value → World → Prop) (w : World) (t0 t1 t2 : Value) : enterW Tryz.prog Tryz.f93 an93 [t0, t1, t2] w R = vc93 R w t0 t1 t2 := by kernel_rfl
theorem en93 {R : Value → World → Prop} {w : World} {t0 t1 t2 : Value} (h : vc93 R w t0 t1 t2) : Calls Tryz.prog 93 #[t0, t1, t2] w (retK R) :=
  calls_of_enter mixed Tryz.func93 (by kernel_rfl) (by rw [eq93]; exact h)

def an94 : Ann := (.reg (opn 5 .done))
def vc94 (R : Value → World → Prop) (w : World) (t0 t1 : Value) : Prop :=
 V (ld 154 t1) w fun t3 w =>
 V (ld 154 t1) w fun t5 w =>
 CV (.func (.func 95) #[] #[]) #[t3, t0, (.func (.func 96) #[t5] #[])] w fun t7 w =>
 R (.tuple #[]) w
theorem eq94 (R : Value → World → Prop) (w : World) (t0 t1 : Value) : enterW Tryz.prog Tryz.f94 an94 [t0, t1] w R = vc94 R w t0 t1 := by kernel_rfl
theorem en94 {R : Value → World → Prop} {w : World} {t0 t1 : Value} (h : vc94 R w t0 t1) : Calls Tryz.prog 94 #[t0, t1] w (retK R) :=
  calls_of_enter mixed Tryz.func94 (by kernel_rfl) (by rw [eq94]; exact h)

def an95 : Ann := (.seq (.reg (opn 5 .done)) (.seq (.reg (opn 3 .done)) (.one (.loop [15] [16, 17, 18, 7, 19, 20, 21, 22, 15] (.seq (.reg (opn 1 .done)) (.seq (.cond .leaf .leaf) (.seq (.one (.seq (.reg (opn 4 .done)) (.reg (opn 3 .done)))) (.reg (opn 2 .done)))))))))
def vc95 (R : Value → World → Prop) (w : World) (t0 t1 t2 : Value) : Prop :=
 V (Builtin.len_ #[93] 3 #[t1]) w fun t10 w =>
 V (bs 45 1 #[(0, t10)]) w fun t11 w =>
 CV (.func (.func 175) #[] #[]) #[t0, t11] w fun t12 w =>
 V (Builtin.len_ #[93] 3 #[t1]) w fun t14 w =>
 ∃ (I0 : List Value → World → Prop) (M0 : List Value → World → Nat), I0 [(.int .i64 0)] w ∧ ∀ g : Env, ∀ t15, ∀ w, I0 [t15] w → ∀ m0, m0 = M0 [t15] w →
 V (bi .lss 3 t15 t14) w fun t16 w =>
 CondW t16
 (V (ia 93 t1 t15) w fun t17 w =>
 V (ld 95 t17) w fun t18 w =>
 V (al 95) w fun t7 w =>
 U (st 95 t7 t18) w fun w =>
 V (ld 95 t7) w fun t20 w =>
 CV t2 #[t20] w fun t21 w =>
 V (bi .add 3 t15 (.int .i64 1)) w fun t22 w =>
 I0 [t22] w ∧ M0 [t22] w < m0)
 (R (.tuple #[]) w)
theorem eq95 (R : Value → World → Prop) (w : World) (t0 t1 t2 : Value) : enterW Tryz.prog Tryz.f95 an95 [t0, t1, t2] w R = vc95 R w t0 t1 t2 := by kernel_rfl
theorem en95 {R : Value → World → Prop} {w : World} {t0 t1 t2 : Value} (h : vc95 R w t0 t1 t2) : Calls Tryz.prog 95 #[t0, t1, t2] w (retK R) :=
  calls_of_enter mixed Tryz.func95 (by kernel_rfl) (by rw [eq95]; exact h)

def an96 : Ann := (.seq (.reg (opn 1 .done)) (.seq (.reg (opn 5 .done)) (.seq (.reg (opn 4 .done)) (.reg (opn 5 .done)))))
def vc96 (R : Value → World → Prop) (w : World) (t0 t1 : Value) : Prop :=
 V (bx 95 t1) w fun t3 w =>
 V (fa 95 t3 0) w fun t5 w =>
 V (ld 3 t5) w fun t6 w =>
 V (bs 45 1 #[(0, t6)]) w fun t7 w =>
 CV (.func (.func 175) #[] #[]) #[t0, t7] w fun t8 w =>
 V (fa 95 t3 1) w fun t10 w =>
 V (ld 9 t10) w fun t11 w =>
 CV (.func (.func 92) #[] #[]) #[t0, t11] w fun t12 w =>
 V (fa 95 t3 2) w fun t14 w =>
 V (ld 3 t14) w fun t15 w =>
 V (bs 45 1 #[(0, t15)]) w fun t16 w =>
 CV (.func (.func 175) #[] #[]) #[t0, t16] w fun t17 w =>
 R (.tuple #[]) w
theorem eq96 (R : Value → World → Prop) (w : World) (t0 t1 : Value) : enterW Tryz.prog Tryz.f96 an96 [t0, t1] w R = vc96 R w t0 t1 := by kernel_rfl
theorem en96 {R : Value → World → Prop} {w : World} {t0 t1 : Value} (h : vc96 R w t0 t1) : Calls Tryz.prog 96 #[t0, t1] w (retK R) :=
  calls_of_enter mixed Tryz.func96 (by kernel_rfl) (by rw [eq96]; exact h)

def an97 : Ann := (.seq (.reg (opn 5 .done)) (.seq (.reg (opn 3 .done)) (.one (.loop [15] [16, 17, 18, 7, 19, 20, 21, 22, 15] (.seq (.reg (opn 1 .done)) (.seq (.cond .leaf .leaf) (.seq (.one (.seq (.reg (opn 3 .done)) (.reg (opn 3 .done)))) (.reg (opn 2 .done)))))))))
def vc97 (R : Value → World → Prop) (w : World) (t0 t1 t2 : Value) : Prop :=
 V (Builtin.len_ #[24] 3 #[t1]) w fun t10 w =>
 V (bs 45 1 #[(0, t10)]) w fun t11 w =>
 CV (.func (.func 175) #[] #[]) #[t0, t11] w fun t12 w =>
 V (Builtin.len_ #[24] 3 #[t1]) w fun t14 w =>
 ∃ (I0 : List Value → World → Prop) (M0 : List Value → World → Nat), I0 [(.int .i64 0)] w ∧ ∀ g : Env, ∀ t15, ∀ w, I0 [t15] w → ∀ m0, m0 = M0 [t15] w →
 V (bi .lss 3 t15 t14) w fun t16 w =>
 CondW t16
 (V (ia 24 t1 t15) w fun t17 w =>
 V (ld 96 t17) w fun t18 w =>
 CV t2 #[t18] w fun t21 w =>
 V (bi .add 3 t15 (.int .i64 1)) w fun t22 w =>
 I0 [t22] w ∧ M0 [t22] w < m0)
 (R (.tuple #[]) w)
theorem eq97 (R : Value → World → Prop) (w : World) (t0 t1 t2 : Value) : enterW Tryz.prog Tryz.f97 an97 [t0, t1, t2] w R = vc97 R w t0 t1 t2 := by kernel_rfl
theorem en97 {R : Value → World → Prop} {w : World} {t0 t1 t2 : Value} (h : vc97 R w t0 t1 t2) : Calls Tryz.prog 97 #[t0, t1, t2] w (retK R) :=
  calls_of_enter mixed Tryz.func97 (by kernel_rfl) (by rw [eq97]; exact h)

def an98 : Ann := (.reg (opn 5 .done))
def vc98 (R : Value → World → Prop) (w : World) (t0 t1 : Value) : Prop :=
 V (ld 154 t1) w fun t3 w =>
 V (ld 154 t1) w fun t5 w =>
 CV (.func (.func 99) #[] #[]) #[t3, t0, (.func (.func 100) #[t5] #[])] w fun t7 w =>
 R (.tuple #[]) w
theorem eq98 (R : Value → World → Prop) (w : World) (t0 t1 : Value) : enterW Tryz.prog Tryz.f98 an98 [t0, t1] w R = vc98 R w t0 t1 := by kernel_rfl
theorem en98 {R : Value → World → Prop} {w : World} {t0 t1 : Value} (h : vc98 R w t0 t1) : Calls Tryz.prog 98 #[t0, t1] w (retK R) :=
  calls_of_enter mixed Tryz.func98 (by kernel_rfl) (by rw [eq98]; exact h)

def an99 : Ann := (.seq (.reg (opn 5 .done)) (.seq (.reg (opn 3 .done)) (.one (.loop [15] [16, 17, 18, 7, 19, 20, 21, 22, 15] (.seq (.reg (opn 1 .done)) (.seq (.cond .leaf .leaf) (.seq (.one (.seq (.reg (opn 4 .done)) (.reg (opn 3 .done)))) (.reg (opn 2 .done)))))))))
def vc99 (R : Value → World → Prop) (w : World) (t0 t1 t2 : Value) : Prop :=
 V (Builtin.len_ #[96] 3 #[t1]) w fun t10 w =>
 V (bs 45 1 #[(0, t10)]) w fun t11 w =>
 CV (.func (.func 175) #[] #[]) #[t0, t11] w fun t12 w =>
 V (Builtin.len_ #[96] 3 #[t1]) w fun t14 w =>
 ∃ (I0 : List Value → World → Prop) (M0 : List Value → World → Nat), I0 [(.int .i64 0)] w ∧ ∀ g : Env, ∀ t15, ∀ w, I0 [t15] w → ∀ m0, m0 = M0 [t15] w →
 V (bi .lss 3 t15 t14) w fun t16 w =>
 CondW t16
 (V (ia 96 t1 t15) w fun t17 w =>
 V (ld 98 t17) w fun t18 w =>
 V (al 98) w fun t7 w =>
 U (st 98 t7 t18) w fun w =>
 V (ld 98 t7) w fun t20 w =>
 CV t2 #[t20] w fun t21 w =>
 V (bi .add 3 t15 (.int .i64 1)) w fun t22 w =>
 I0 [t22] w ∧ M0 [t22] w < m0)
 (R (.tuple #[]) w)
theorem eq99 (R : Value → World → Prop) (w : World) (t0 t1 t2 : Value) : enterW Tryz.prog Tryz.f99 an99 [t0, t1, t2] w R = vc99 R w t0 t1 t2 := by kernel_rfl
theorem en99 {R : Value → World → Prop} {w : World} {t0 t1 t2 : Value} (h : vc99 R w t0 t1 t2) : Calls Tryz.prog 99 #[t0, t1, t2] w (retK R) :=
  calls_of_enter mixed Tryz.func99 (by kernel_rfl) (by rw [eq99]; exact h)

def an100 : Ann := (.seq (.reg (opn 1 .done)) (.seq (.reg (opn 1 .done)) (.seqJ [4] [5, 6, 4] (.seq (.reg (opn 2 .done)) (.cond (.reg (opn 1 .done)) .leaf)) (.seq (.reg (opn 4 .done)) (.reg (opn 4 .done))))))
def vc100 (R : Value → World → Prop) (w : World) (t0 t1 : Value) : Prop :=
 V (bx 98 t1) w fun t3 w =>
 ∀ K0 : List Value → World → Prop, (∀ t4, ∀ w, (∀ g : Env,
 V (bs 45 1 #[(0, t4)]) w fun t9 w =>
 CV (.func (.func 175) #[] #[]) #[t0, t9] w fun t10 w =>
 V (fa 98 t3 0) w fun t12 w =>
 V (ld 9 t12) w fun t13 w =>
 CV (.func (.func 92) #[] #[]) #[t0, t13] w fun t14 w =>
 R (.tuple #[]) w) → K0 [t4] w) →
 V (fa 98 t3 1) w fun t5 w =>
 V (ld 4 t5) w fun t6 w =>
 CondW t6
 (K0 [(.int .i64 1)] w)
 (K0 [(.int .i64 0)] w)
theorem eq100 (R : Value → World → Prop) (w : World) (t0 t1 : Value) : enterW Tryz.prog Tryz.f100 an100 [t0, t1] w R = vc100 R w t0 t1 := by kernel_rfl
theorem en100 {R : Value → World → Prop} {w : World} {t0 t1 : Value} (h : vc100 R w t0 t1) : Calls Tryz.prog 100 #[t0, t1] w (retK R) :=
  calls_of_enter mixed Tryz.func100 (by kernel_rfl) (by rw [eq100]; exact h)

def an101 : Ann := (.seq (.reg (opn 5 .done)) (.seq (.reg (opn 3 .done)) (.one (.loop [15] [16, 17, 18, 7, 19, 20, 21, 22, 15] (.seq (.reg (opn 1 .done)) (.seq (.cond .leaf .leaf) (.seq (.one (.seq (.reg (opn 4 .done)) (.reg (opn 3 .done)))) (.reg (opn 2 .done)))))))))
def vc101 (R : Value → World → Prop) (w : World) (t0 t1 t2 : Value) : Prop :=
 V (Builtin.len_ #[25] 3 #[t1]) w fun t10 w =>
 V (bs 45 1 #[(0, t10)]) w fun t11 w =>
 CV (.func (.func 175) #[] #[]) #[t0, t11] w fun t12 w =>
 V (Builtin.len_ #[25] 3 #[t1]) w fun t14 w =>
 ∃ (I0 : List Value → World → Prop) (M0 : List Value → World → Nat), I0 [(.int .i64 0)] w ∧ ∀ g : Env, ∀ t15, ∀ w, I0 [t15] w → ∀ m0, m0 = M0 [t15] w →
 V (bi .lss 3 t15 t14) w fun t16 w =>
 CondW t16
 (V (ia 25 t1 t15) w fun t17 w =>
 V (ld 54 t17) w fun t18 w =>
 V (al 54) w fun t7 w =>
 U (st 54 t7 t18) w fun w =>
 V (ld 54 t7) w fun t20 w =>
 CV t2 #[t20] w fun t21 w =>
 V (bi .add 3 t15 (.int .i64 1)) w fun t22 w =>
 I0 [t22] w ∧ M0 [t22] w < m0)
 (R (.tuple #[]) w)
theorem eq101 (R : Value → World → Prop) (w : World) (t0 t1 t2 : Value) : enterW Tryz.prog Tryz.f101 an101 [t0, t1, t2] w R = vc101 R w t0 t1 t2 := by kernel_rfl
theorem en101 {R : Value → World → Prop} {w : World} {t0 t1 t2 : Value} (h : vc101 R w t0 t1 t2) : Calls Tryz.prog 101 #[t0, t1, t2] w (retK R) :=
  calls_of_enter mixed Tryz.func101 (by kernel_rfl) (by rw [eq101]; exact h)

def an102 : Ann := (.seq (.reg (opn 1 .done)) (.seq (.reg (opn 5 .done)) (.reg (opn 4 .done))))
def vc102 (R : Value → World → Prop) (w : World) (t0 t1 : Value) : Prop :=
 V (bx 54 t1) w fun t3 w =>
 V (fa 54 t3 1) w fun t5 w =>
 V (ld 3 t5) w fun t6 w =>
 V (bs 45 1 #[(0, t6)]) w fun t7 w =>
 CV (.func (.func 175) #[] #[]) #[t0, t7] w fun t8 w =>
 V (fa 54 t3 0) w fun t10 w =>
 V (ld 9 t10) w fun t11 w =>
 CV (.func (.func 92) #[] #[]) #[t0, t11] w fun t12 w =>
 R (.tuple #[]) w
theorem eq102 (R : Value → World → Prop) (w : World) (t0 t1 : Value) : enterW Tryz.prog Tryz.f102 an102 [t0, t1] w R = vc102 R w t0 t1 := by kernel_rfl
theorem en102 {R : Value → World → Prop} {w : World} {t0 t1 : Value} (h : vc102 R w t0 t1) : Calls Tryz.prog 102 #[t0, t1] w (retK R) :=
  calls_of_enter mixed Tryz.func102 (by kernel_rfl) (by rw [eq102]; exact h)

def an103 : Ann := (.seq (.reg (opn 5 .done)) (.seq (.reg (opn 3 .done)) (.one (.loop [15] [16, 17, 18, 7, 19, 20, 21, 22, 15] (.seq (.reg (opn 1 .done)) (.seq (.cond .leaf .leaf) (.seq (.one (.seq (.reg (opn 4 .done)) (.reg (opn 3 .done)))) (.reg (opn 2 .done)))))))))
def vc103 (R : Value → World → Prop) (w : World) (t0 t1 t2 : Value) : Prop :=
 V (Builtin.len_ #[26] 3 #[t1]) w fun t10 w =>
 V (bs 45 1 #[(0, t10)]) w fun t11 w =>
 CV (.func (.func 175) #[] #[]) #[t0, t11] w fun t12 w =>
 V (Builtin.len_ #[26] 3 #[t1]) w fun t14 w =>
 ∃ (I0 : List Value → World → Prop) (M0 : List Value → World → Nat), I0 [(.int .i64 0)] w ∧ ∀ g : Env, ∀ t15, ∀ w, I0 [t15] w → ∀ m0, m0 = M0 [t15] w →
 V (bi .lss 3 t15 t14) w fun t16 w =>
 CondW t16
 (V (ia 26 t1 t15) w fun t17 w =>
 V (ld 38 t17) w fun t18 w =>
 V (al 38) w fun t7 w =>
 U (st 38 t7 t18) w fun w =>
 V (ld 38 t7) w fun t20 w =>
 CV t2 #[t20] w fun t21 w =>
 V (bi .add 3 t15 (.int .i64 1)) w fun t22 w =>
 I0 [t22] w ∧ M0 [t22] w < m0)
 (R (.tuple #[]) w)
theorem eq103 (R : Value → World → Prop) (w : World) (t0 t1 t2 : Value) : enterW Tryz.prog Tryz.f103 an103 [t0, t1, t2] w R = vc103 R w t0 t1 t2 := by kernel_rfl
theorem en103 {R : Value → World → Prop} {w : World} {t0 t1 t2 : Value} (h : vc103 R w t0 t1 t2) : Calls Tryz.prog 103 #[t0, t1, t2] w (retK R) :=
  calls_of_enter mixed Tryz.func103 (by kernel_rfl) (by rw [eq103]; exact h)

def an104 : Ann := (.seq (.reg (opn 1 .done)) (.reg (opn 11 .done)))
def vc104 (R : Value → World → Prop) (w : World) (t0 t1 : Value) : Prop :=
 V (bx 38 t1) w fun t3 w =>
 V (fa 38 t3 0) w fun t5 w =>
 V (ld 3 t5) w fun t6 w =>
 V (fa 38 t3 1) w fun t7 w =>
 V (ld 3 t7) w fun t8 w =>
 V (fa 38 t3 2) w fun t9 w =>
 V (ld 3 t9) w fun t10 w =>
 V (fa 38 t3 3) w fun t11 w =>
 V (ld 3 t11) w fun t12 w =>
 V (bs 45 4 #[(0, t6), (1, t8), (2, t10), (3, t12)]) w fun t13 w =>
 CV (.func (.func 175) #[] #[]) #[t0, t13] w fun t14 w =>
 R (.tuple #[]) w
theorem eq104 (R : Value → World → Prop) (w : World) (t0 t1 : Value) : enterW Tryz.prog Tryz.f104 an104 [t0, t1] w R = vc104 R w t0 t1 := by kernel_rfl
theorem en104 {R : Value → World → Prop} {w : World} {t0 t1 : Value} (h : vc104 R w t0 t1) : Calls Tryz.prog 104 #[t0, t1] w (retK R) :=
  calls_of_enter mixed Tryz.func104 (by kernel_rfl) (by rw [eq104]; exact h)

def an124 : Ann := (.reg (opn 3 .done))
def vc124 (R : Value → World → Prop) (w : World) (t0 t1 : Value) : Prop :=
 V (bi .add 9 t0 (.string ⟨#[10]⟩)) w fun t4 w =>
 CV (.func (.func 125) #[] #[]) #[t1, t4] w fun t5 w =>
 R (.tuple #[]) w
theorem eq124 (R : Value → World → Prop) (w : World) (t0 t1 : Value) : enterW Tryz.prog Tryz.f124 an124 [t0, t1] w R = vc124 R w t0 t1 := by kernel_rfl
theorem en124 {R : Value → World → Prop} {w : World} {t0 t1 : Value} (h : vc124 R w t0 t1) : Calls Tryz.prog 124 #[t0, t1] w (retK R) :=
  calls_of_enter mixed Tryz.func124 (by kernel_rfl) (by rw [eq124]; exact h)

def an125 : Ann := (.seq (.reg (opn 2 .done)) (.seq (.reg (opn 2 .done)) (.seq (.reg (opn 10 .done)) (.seq (.reg (opn 4 .done)) .leaf))))
def vc125 (R : Value → World → Prop) (w : World) (t0 t1 : Value) : Prop :=
 CV (.func (.func 184) #[] #[]) #[t0] w fun t7 w =>
 NilW t0 fun t10 => V (fa 199 t10 1) w fun t11 w =>
 V (ld 55 t11) w fun t12 w =>
 V (Builtin.append_ #[55, 9] 55 #[t12, t1]) w fun t14 w =>
 NilW t0 fun t15 => V (fa 199 t15 1) w fun t16 w =>
 U (st 55 t16 t14) w fun w =>
 V (Builtin.len_ #[9] 3 #[t1]) w fun t18 w =>
 R (.tuple #[t18, .nilIface]) w
theorem eq125 (R : Value → World → Prop) (w : World) (t0 t1 : Value) : enterW Tryz.prog Tryz.f125 an125 [t0, t1] w R = vc125 R w t0 t1 := by kernel_rfl
theorem en125 {R : Value → World → Prop} {w : World} {t0 t1 : Value} (h : vc125 R w t0 t1) : Calls Tryz.prog 125 #[t0, t1] w (retK R) :=
  calls_of_enter mixed Tryz.func125 (by kernel_rfl) (by rw [eq125]; exact h)

def an126 : Ann := (.seq (.reg (opn 1 .done)) (.seq (.reg (opn 3 .done)) .leaf))
def vc126 (R : Value → World → Prop) (w : World) (t0 : Value) : Prop :=
 CV (.func (.func 185) #[] #[]) #[t0, (.string ⟨#[32]⟩)] w fun t4 w =>
 R t4 w
theorem eq126 (R : Value → World → Prop) (w : World) (t0 : Value) : enterW Tryz.prog Tryz.f126 an126 [t0] w R = vc126 R w t0 := by kernel_rfl
theorem en126 {R : Value → World → Prop} {w : World} {t0 : Value} (h : vc126 R w t0) : Calls Tryz.prog 126 #[t0] w (retK R) :=
  calls_of_enter mixed Tryz.func126 (by kernel_rfl) (by rw [eq126]; exact h)

def an127 : Ann := (.seq (.reg (opn 1 .done)) (.seq (.reg (opn 5 .done)) .leaf))
def vc127 (R : Value → World → Prop) (w : World) (t0 : Value) : Prop :=
 CV (.func (.func 186) #[] #[]) #[t0, (.string ⟨#[34]⟩), (.string ⟨#[34, 34]⟩)] w fun t4 w =>
 V (bi .add 9 (.string ⟨#[34]⟩) t4) w fun t5 w =>
 V (bi .add 9 t5 (.string ⟨#[34]⟩)) w fun t6 w =>
 R t6 w
theorem eq127 (R : Value → World → Prop) (w : World) (t0 : Value) : enterW Tryz.prog Tryz.f127 an127 [t0] w R = vc127 R w t0 := by kernel_rfl
theorem en127 {R : Value → World → Prop} {w : World} {t0 : Value} (h : vc127 R w t0) : Calls Tryz.prog 127 #[t0] w (retK R) :=
  calls_of_enter mixed Tryz.func127 (by kernel_rfl) (by rw [eq127]; exact h)

def an128 : Ann := (.seq (.reg (opn 1 .done)) (.seq (.reg (opn 1 .done)) (.seq (.seq (.reg (opn 3 .done)) (.one (.loop [3, 8] [9, 10, 11, 5, 12, 13, 14, 15, 16, 17, 18, 19, 20, 21, 22, 23, 3, 24, 8] (.seq (.reg (opn 1 .done)) (.seq (.cond .leaf .leaf) (.seq (.one (.seq (.reg (opn 4 .done)) (.draw (.take 0 (.take 1 (.hold 2 (.take 4 (.hold 5 (.take 7 (.hold 8 (.alts (.eff 3 (.alts (.eff 6 (.alts (.eff 9 (.alts (.eff 10 (.alts (.eff 11 (.take 12 .done) .nil)) .nil)) .nil)) .nil)) .nil)))))))))))) (.reg (opn 2 .done)))))))) (.seq (.reg (opn 2 .done)) .leaf))))
def vc128 (R : Value → World → Prop) (w : World) (t0 : Value) : Prop :=
 V (Builtin.len_ #[93] 3 #[t0]) w fun t7 w =>
 ∃ (I0 : List Value → World → Prop) (M0 : List Value → World → Nat), I0 [(.string ⟨#[116, 109, 112, 108]⟩), (.int .i64 0)] w ∧ ∀ g : Env, ∀ t3, ∀ t8, ∀ w, I0 [t3, t8] w → ∀ m0, m0 = M0 [t3, t8] w →
 V (bi .lss 3 t8 t7) w fun t9 w =>
 CondW t9
 (V (ia 93 t0 t8) w fun t10 w =>
 V (ld 95 t10) w fun t11 w =>
 V (al 95) w fun t5 w =>
 U (st 95 t5 t11) w fun w =>
 Dr w fun w =>
 PV (fa 95 t5 0) fun t13 =>
 HV (ld 3 t13) w fun t14 =>
 PV (fa 95 t5 1) fun t16 =>
 HV (ld 9 t16) w fun t17 =>
 PV (fa 95 t5 2) fun t19 =>
 HV (ld 3 t19) w fun t20 =>
 CV (.func (.func 187) #[] #[]) #[t14] w fun t15 w =>
 RunIs (ld 3 t19) w t20 ∧ RunIs (ld 9 t16) w t17 ∧ (CV (.func (.func 127) #[] #[]) #[t17] w fun t18 w =>
 RunIs (ld 3 t19) w t20 ∧ (CV (.func (.func 187) #[] #[]) #[t20] w fun t21 w =>
 V (bs 22 4 #[(0, t3), (1, t15), (2, t18), (3, t21)]) w fun t22 w =>
 CV (.func (.func 126) #[] #[]) #[t22] w fun t23 w =>
 V (bi .add 3 t8 (.int .i64 1)) w fun t24 w =>
 I0 [t23, t24] w ∧ M0 [t23, t24] w < m0)))
 (R t3 w)
theorem eq128 (R : Value → World → Prop) (w : World) (t0 : Value) : enterW Tryz.prog Tryz.f128 an128 [t0] w R = vc128 R w t0 := by kernel_rfl
theorem en128 {R : Value → World → Prop} {w : World} {t0 : Value} (h : vc128 R w t0) : Calls Tryz.prog 128 #[t0] w (retK R) :=
  calls_of_enter mixed Tryz.func128 (by kernel_rfl) (by rw [eq128]; exact h)

def an129 : Ann := (.seq (.reg (opn 1 .done)) (.seq (.reg (opn 1 .done)) (.seq (.seq (.reg (opn 3 .done)) (.one (.loop [3, 8] [9, 10, 11, 5, 12, 13, 14, 15, 16, 17, 18, 19, 20, 3, 21, 22, 23, 24, 25, 26, 8] (.seq (.reg (opn 1 .done)) (.seq (.cond .leaf .leaf) (.seqJ [3] [10, 11, 5, 12, 13, 14, 15, 16, 17, 18, 19, 20, 3, 21, 22, 23, 24, 25] (.one (.seq (.reg (opn 4 .done)) (.seq (.reg (opn 2 .done)) (.cond (.reg (opn 8 .done)) (.reg (opn 6 .done)))))) (.reg (opn 2 .done)))))))) (.seq (.reg (opn 2 .done)) .leaf))))
def vc129 (R : Value → World → Prop) (w : World) (t0 : Value) : Prop :=
 V (Builtin.len_ #[96] 3 #[t0]) w fun t7 w =>
 ∃ (I0 : List Value → World → Prop) (M0 : List Value → World → Nat), I0 [(.string ⟨#[108, 105, 115, 116]⟩), (.int .i64 0)] w ∧ ∀ g : Env, ∀ t3, ∀ t8, ∀ w, I0 [t3, t8] w → ∀ m0, m0 = M0 [t3, t8] w →
 V (bi .lss 3 t8 t7) w fun t9 w =>
 CondW t9
 (∀ K0 : List Value → World → Prop, (∀ t3a, ∀ w, (∀ g : Env,
 V (bi .add 3 t8 (.int .i64 1)) w fun t26 w =>
 I0 [t3a, t26] w ∧ M0 [t3a, t26] w < m0) → K0 [t3a] w) →
 V (ia 96 t0 t8) w fun t10 w =>
 V (ld 98 t10) w fun t11 w =>
 V (al 98) w fun t5 w =>
 U (st 98 t5 t11) w fun w =>
 V (fa 98 t5 1) w fun t12 w =>
 V (ld 4 t12) w fun t13 w =>
 CondW t13
 (V (fa 98 t5 0) w fun t15 w =>
 V (ld 9 t15) w fun t16 w =>
 V (bi .add 9 (.string ⟨#[40]⟩) t16) w fun t17 w =>
 V (bi .add 9 t17 (.string ⟨#[41]⟩)) w fun t18 w =>
 V (bs 22 2 #[(0, t3), (1, t18)]) w fun t19 w =>
 CV (.func (.func 126) #[] #[]) #[t19] w fun t20 w =>
 K0 [t20] w)
 (V (fa 98 t5 0) w fun t22 w =>
 V (ld 9 t22) w fun t23 w =>
 V (bs 22 2 #[(0, t3), (1, t23)]) w fun t24 w =>
 CV (.func (.func 126) #[] #[]) #[t24] w fun t25 w =>
 K0 [t25] w))
 (R t3 w)
theorem eq129 (R : Value → World → Prop) (w : World) (t0 : Value) : enterW Tryz.prog Tryz.f129 an129 [t0] w R = vc129 R w t0 := by kernel_rfl
theorem en129 {R : Value → World → Prop} {w : World} {t0 : Value} (h : vc129 R w t0) : Calls Tryz.prog 129 #[t0] w (retK R) :=
  calls_of_enter mixed Tryz.func129 (by kernel_rfl) (by rw [eq129]; exact h)

def an130 : Ann := (.seq (.reg (opn 2 .done)) (.seq (.draw (.take 0 (.hold 1 (.take 3 (.hold 4 (.alts (.eff 2 (.alts (.eff 5 (.alts (.eff 6 (.alts (.eff 7 (.take 8 .done) .nil)) .nil)) .nil)) .nil))))))) .leaf))
def vc130 (R : Value → World → Prop) (w : World) (t0 : Value) : Prop :=
 V (bx 54 t0) w fun t1 w =>
 Dr w fun w =>
 PV (fa 54 t1 1) fun t3 =>
 HV (ld 3 t3) w fun t4 =>
 PV (fa 54 t1 0) fun t6 =>
 HV (ld 9 t6) w fun t7 =>
 CV (.func (.func 187) #[] #[]) #[t4] w fun t5 w =>
 RunIs (ld 9 t6) w t7 ∧ (CV (.func (.func 127) #[] #[]) #[t7] w fun t8 w =>
 V (bs 22 3 #[(0, (.string ⟨#[108, 97, 98, 101, 108]⟩)), (1, t5), (2, t8)]) w fun t9 w =>
 CV (.func (.func 126) #[] #[]) #[t9] w fun t10 w =>
 R t10 w)
theorem eq130 (R : Value → World → Prop) (w : World) (t0 : Value) : enterW Tryz.prog Tryz.f130 an130 [t0] w R = vc130 R w t0 := by kernel_rfl
theorem en130 {R : Value → World → Prop} {w : World} {t0 : Value} (h : vc130 R w t0) : Calls Tryz.prog 130 #[t0] w (retK R) :=
  calls_of_enter mixed Tryz.func130 (by kernel_rfl) (by rw [eq130]; exact h)

def an131 : Ann := (.seq (.reg (opn 2 .done)) (.seq (.reg (opn 8 .done)) (.seq (.reg (opn 8 .done)) (.seq (.one (.loop [5] [21, 22, 23, 24, 25, 26, 27, 28, 29, 30, 31, 32, 33, 34, 35, 36, 37, 5] (.seq (.seq (.reg (opn 4 (.join [32] [25, 26, 27, 28, 29, 30, 31, 32] (.split 24 (opn 8 .done) (opn 8 .done)) .done))) (.cond .leaf .leaf)) (.one (.reg (opn 6 .done)))))) (.seq (.reg (opn 3 .done)) (.seq (.seq (.reg (opn 3 .done)) (.one (.loop [6, 42] [43, 44, 45, 8, 46, 47, 48, 49, 50, 6, 51, 42] (.seq (.reg (opn 1 .done)) (.seq (.cond .leaf .leaf) (.seq (.one (.seq (.reg (opn 3 .done)) (.reg (opn 6 .done)))) (.reg (opn 2 .done)))))))) (.seq (.reg (opn 2 .done)) .leaf)))))))
def vc131 (R : Value → World → Prop) (w : World) (t0 : Value) : Prop :=
 V (bx 38 t0) w fun t1 w =>
 V (ld 38 t1) w fun t10 w =>
 CV (.func (.func 49) #[] #[]) #[t10] w fun t11 w =>
 V (ex t11 0) w fun t12 w =>
 V (ex t11 1) w fun t13 w =>
 V (al 102) w fun t3 w =>
 U (st 102 t3 t12) w fun w =>
 V (fa 38 t1 1) w fun t14 w =>
 V (ld 3 t14) w fun t15 w =>
 V (fa 38 t1 2) w fun t16 w =>
 V (ld 3 t16) w fun t17 w =>
 V (fa 38 t1 3) w fun t18 w =>
 V (ld 3 t18) w fun t19 w =>
 V (bs 45 3 #[(0, t15), (1, t17), (2, t19)]) w fun t20 w =>
 ∃ (I0 : List Value → World → Prop) (M0 : List Value → World → Nat), I0 [t20] w ∧ ∀ g : Env, ∀ t5, ∀ w, I0 [t5] w → ∀ m0, m0 = M0 [t5] w →
 V (Builtin.len_ #[45] 3 #[t5]) w fun t22 w =>
 V (bi .gtr 3 t22 (.int .i64 0)) w fun t23 w =>
 ∀ K0 : List Value → World → Prop, (∀ t32, ∀ w, (∀ g : Env,
 CondW t32
 (V (Builtin.len_ #[45] 3 #[t5]) w fun t35 w =>
 V (bi .sub 3 t35 (.int .i64 1)) w fun t36 w =>
 V (sl 45 t5 none (some t36) none) w fun t37 w =>
 I0 [t37] w ∧ M0 [t37] w < m0)
 (V (fa 102 t3 0) w fun t38 w =>
 V (ld 9 t38) w fun t39 w =>
 V (Builtin.len_ #[45] 3 #[t5]) w fun t41 w =>
 ∃ (I1 : List Value → World → Prop) (M1 : List Value → World → Nat), I1 [t39, (.int .i64 0)] w ∧ ∀ g : Env, ∀ t6, ∀ t42, ∀ w, I1 [t6, t42] w → ∀ m1, m1 = M1 [t6, t42] w →
 V (bi .lss 3 t42 t41) w fun t43 w =>
 CondW t43
 (V (ia 45 t5 t42) w fun t44 w =>
 V (ld 3 t44) w fun t45 w =>
 CV (.func (.func 187) #[] #[]) #[t45] w fun t48 w =>
 V (bs 22 2 #[(0, t6), (1, t48)]) w fun t49 w =>
 CV (.func (.func 126) #[] #[]) #[t49] w fun t50 w =>
 V (bi .add 3 t42 (.int .i64 1)) w fun t51 w =>
 I1 [t50, t51] w ∧ M1 [t50, t51] w < m1)
 (R t6 w))) → K0 [t32] w) →
 CondW t23
 (V (Builtin.len_ #[45] 3 #[t5]) w fun t27 w =>
 V (bi .sub 3 t27 (.int .i64 1)) w fun t28 w =>
 V (ia 45 t5 t28) w fun t29 w =>
 V (ld 3 t29) w fun t30 w =>
 V (eq .eql 3 (.tmp 30) (.const (.int .i64 0)) t30 (.int .i64 0)) w fun t31 w =>
 K0 [t31] w)
 (K0 [(.bool false)] w)
theorem eq131 (R : Value → World → Prop) (w : World) (t0 : Value) : enterW Tryz.prog Tryz.f131 an131 [t0] w R = vc131 R w t0 := by kernel_rfl
theorem en131 {R : Value → World → Prop} {w : World} {t0 : Value} (h : vc131 R w t0) : Calls Tryz.prog 131 #[t0] w (retK R) :=
  calls_of_enter mixed Tryz.func131 (by kernel_rfl) (by rw [eq131]; exact h)

def an132 : Ann := (.seq (.reg (opn 1 .done)) (.seq (.draw (.take 0 (.take 1 (.take 2 (.hold 3 (.take 5 (.take 6 (.take 7 (.hold 8 (.take 9 (.alts (.eff 4 (.alts (.eff 10 (.take 11 .done) .nil)) .nil)))))))))))) .leaf))
def vc132 (R : Value → World → Prop) (w : World) (t0 : Value) : Prop :=
 Dr w fun w =>
 NilW t0 fun t4 => PV (fa 199 t4 1) fun t5 =>
 HV (ld 55 t5) w fun t6 =>
 NilW t0 fun t9 => PV (fa 199 t9 1) fun t10 =>
 HV (ld 55 t10) w fun t11 =>
 PV (Builtin.len_ #[55] 3 #[t11]) fun t12 =>
 V (Builtin.unsafeSliceData_ #[55] 261 #[t6]) w fun t7 w =>
 RunIs (ld 55 t10) w t11 ∧ (V (Builtin.unsafeString_ #[261, 3] 9 #[t7, t12]) w fun t13 w =>
 RunIs (ld 55 t10) w t11 ∧ (R t13 w))
theorem eq132 (R : Value → World → Prop) (w : World) (t0 : Value) : enterW Tryz.prog Tryz.f132 an132 [t0] w R = vc132 R w t0 := by kernel_rfl
theorem en132 {R : Value → World → Prop} {w : World} {t0 : Value} (h : vc132 R w t0) : Calls Tryz.prog 132 #[t0] w (retK R) :=
  calls_of_enter mixed Tryz.func132 (by kernel_rfl) (by rw [eq132]; exact h)

def an134 : Ann := (.seq (.reg (opn 3 .done)) (.seq (.reg (opn 9 .done)) .leaf))
def vc134 (R : Value → World → Prop) (w : World) (t0 t1 : Value) : Prop :=
 CV (.func (.func 191) #[] #[]) #[t0, t1] w fun t9 w =>
 V (ex t9 0) w fun t10 w =>
 V (ex t9 1) w fun t11 w =>
 V (ex t9 2) w fun t12 w =>
 R (.tuple #[t10, t11, t12]) w
theorem eq134 (R : Value → World → Prop) (w : World) (t0 t1 : Value) : enterW Tryz.prog Tryz.f134 an134 [t0, t1] w R = vc134 R w t0 t1 := by kernel_rfl
theorem en134 {R : Value → World → Prop} {w : World} {t0 t1 : Value} (h : vc134 R w t0 t1) : Calls Tryz.prog 134 #[t0, t1] w (retK R) :=
  calls_of_enter mixed Tryz.func134 (by kernel_rfl) (by rw [eq134]; exact h)

def an137 : Ann := (.seq (.reg (opn 1 .done)) (.seq (.reg (opn 4 .done)) .leaf))
def vc137 (R : Value → World → Prop) (w : World) (t0 : Value) : Prop :=
 V (Builtin.len_ #[9] 3 #[t0]) w fun t4 w =>
 V (bi .leq 3 t4 (.int .i64 1000)) w fun t5 w =>
 R t5 w
theorem eq137 (R : Value → World → Prop) (w : World) (t0 : Value) : enterW Tryz.prog Tryz.f137 an137 [t0] w R = vc137 R w t0 := by kernel_rfl
theorem en137 {R : Value → World → Prop} {w : World} {t0 : Value} (h : vc137 R w t0) : Calls Tryz.prog 137 #[t0] w (retK R) :=
  calls_of_enter mixed Tryz.func137 (by kernel_rfl) (by rw [eq137]; exact h)

def an138 : Ann := (.seq (.reg (opn 2 .done)) (.seq (.reg (opn 5 .done)) .leaf))
def vc138 (R : Value → World → Prop) (w : World) (t0 t1 : Value) : Prop :=
 V (bx 224 t1) w fun t3 w =>
 CV (.func (.func 206) #[] #[]) #[t0, (.func (.func 207) #[] #[t3])] w fun t7 w =>
 V (un .not t7) w fun t8 w =>
 R t8 w
theorem eq138 (R : Value → World → Prop) (w : World) (t0 t1 : Value) : enterW Tryz.prog Tryz.f138 an138 [t0, t1] w R = vc138 R w t0 t1 := by kernel_rfl
theorem en138 {R : Value → World → Prop} {w : World} {t0 t1 : Value} (h : vc138 R w t0 t1) : Calls Tryz.prog 138 #[t0, t1] w (retK R) :=
  calls_of_enter mixed Tryz.func138 (by kernel_rfl) (by rw [eq138]; exact h)

def an139 : Ann := (.seq (.reg (opn 1 .done)) (.seq (.reg (opn 4 (.join [11] [8, 9, 10, 11] (.split 7 (opn 4 .done) (opn 4 .done)) (opn 1 .done)))) .leaf))
def vc139 (R : Value → World → Prop) (w : World) (t0 t1 : Value) : Prop :=
 V (Builtin.len_ #[93] 3 #[t0]) w fun t5 w =>
 V (bi .leq 3 t5 (.int .i64 100)) w fun t6 w =>
 ∀ K0 : List Value → World → Prop, (∀ t11, ∀ w, (∀ g : Env,
 R t11 w) → K0 [t11] w) →
 CondW t6
 (CV (.func (.func 140) #[] #[]) #[t0, (.func (.func 141) #[] #[t1])] w fun t10 w =>
 K0 [t10] w)
 (K0 [(.bool false)] w)
theorem eq139 (R : Value → World → Prop) (w : World) (t0 t1 : Value) : enterW Tryz.prog Tryz.f139 an139 [t0, t1] w R = vc139 R w t0 t1 := by kernel_rfl
theorem en139 {R : Value → World → Prop} {w : World} {t0 t1 : Value} (h : vc139 R w t0 t1) : Calls Tryz.prog 139 #[t0, t1] w (retK R) :=
  calls_of_enter mixed Tryz.func139 (by kernel_rfl) (by rw [eq139]; exact h)

def an140 : Ann := (.seq (.reg (opn 2 .done)) (.seq (.reg (opn 5 .done)) .leaf))
def vc140 (R : Value → World → Prop) (w : World) (t0 t1 : Value) : Prop :=
 V (bx 223 t1) w fun t3 w =>
 CV (.func (.func 208) #[] #[]) #[t0, (.func (.func 209) #[] #[t3])] w fun t7 w =>
 V (un .not t7) w fun t8 w =>
 R t8 w
theorem eq140 (R : Value → World → Prop) (w : World) (t0 t1 : Value) : enterW Tryz.prog Tryz.f140 an140 [t0, t1] w R = vc140 R w t0 t1 := by kernel_rfl
theorem en140 {R : Value → World → Prop} {w : World} {t0 t1 : Value} (h : vc140 R w t0 t1) : Calls Tryz.prog 140 #[t0, t1] w (retK R) :=
  calls_of_enter mixed Tryz.func140 (by kernel_rfl) (by rw [eq140]; exact h)

def an141 : Ann := (.seq (.reg (opn 2 .done)) (.seq (.reg (opn 5 .done)) .leaf))
def vc141 (R : Value → World → Prop) (w : World) (t0 t1 : Value) : Prop :=
 V (bx 95 t0) w fun t2 w =>
 V (ld 215 t1) w fun t4 w =>
 V (fa 95 t2 1) w fun t5 w =>
 V (ld 9 t5) w fun t6 w =>
 CV t4 #[t6] w fun t7 w =>
 R t7 w
theorem eq141 (R : Value → World → Prop) (w : World) (t0 t1 : Value) : enterW Tryz.prog Tryz.f141 an141 [t0, t1] w R = vc141 R w t0 t1 := by kernel_rfl
theorem en141 {R : Value → World → Prop} {w : World} {t0 t1 : Value} (h : vc141 R w t0 t1) : Calls Tryz.prog 141 #[t0, t1] w (retK R) :=
  calls_of_enter mixed Tryz.func141 (by kernel_rfl) (by rw [eq141]; exact h)

def an142 : Ann := (.seq (.reg (opn 2 .done)) (.seq (.reg (opn 5 .done)) .leaf))
def vc142 (R : Value → World → Prop) (w : World) (t0 t1 : Value) : Prop :=
 V (bx 215 t1) w fun t3 w =>
 CV (.func (.func 210) #[] #[]) #[t0, (.func (.func 211) #[] #[t3])] w fun t7 w =>
 V (un .not t7) w fun t8 w =>
 R t8 w
theorem eq142 (R : Value → World → Prop) (w : World) (t0 t1 : Value) : enterW Tryz.prog Tryz.f142 an142 [t0, t1] w R = vc142 R w t0 t1 := by kernel_rfl
theorem en142 {R : Value → World → Prop} {w : World} {t0 t1 : Value} (h : vc142 R w t0 t1) : Calls Tryz.prog 142 #[t0, t1] w (retK R) :=
  calls_of_enter mixed Tryz.func142 (by kernel_rfl) (by rw [eq142]; exact h)

def an143 : Ann := (.seq (.reg (opn 2 .done)) (.seq (.reg (opn 5 .done)) .leaf))
def vc143 (R : Value → World → Prop) (w : World) (t0 t1 : Value) : Prop :=
 V (bx 227 t1) w fun t3 w =>
 CV (.func (.func 212) #[] #[]) #[t0, (.func (.func 213) #[] #[t3])] w fun t7 w =>
 V (un .not t7) w fun t8 w =>
 R t8 w
theorem eq143 (R : Value → World → Prop) (w : World) (t0 t1 : Value) : enterW Tryz.prog Tryz.f143 an143 [t0, t1] w R = vc143 R w t0 t1 := by kernel_rfl
theorem en143 {R : Value → World → Prop} {w : World} {t0 t1 : Value} (h : vc143 R w t0 t1) : Calls Tryz.prog 143 #[t0, t1] w (retK R) :=
  calls_of_enter mixed Tryz.func143 (by kernel_rfl) (by rw [eq143]; exact h)

def an144 : Ann := (.seq (.reg (opn 1 .done)) (.seq (.reg (opn 4 .done)) .leaf))
def vc144 (R : Value → World → Prop) (w : World) (t0 : Value) : Prop :=
 V (Builtin.len_ #[96] 3 #[t0]) w fun t4 w =>
 V (bi .leq 3 t4 (.int .i64 10000)) w fun t5 w =>
 R t5 w
theorem eq144 (R : Value → World → Prop) (w : World) (t0 : Value) : enterW Tryz.prog Tryz.f144 an144 [t0] w R = vc144 R w t0 := by kernel_rfl
theorem en144 {R : Value → World → Prop} {w : World} {t0 : Value} (h : vc144 R w t0) : Calls Tryz.prog 144 #[t0] w (retK R) :=
  calls_of_enter mixed Tryz.func144 (by kernel_rfl) (by rw [eq144]; exact h)

def an145 : Ann := (.seq (.reg (opn 2 .done)) (.seq (.reg (opn 5 .done)) .leaf))
def vc145 (R : Value → World → Prop) (w : World) (t0 t1 : Value) : Prop :=
 V (bx 144 t1) w fun t3 w =>
 CV (.func (.func 214) #[] #[]) #[t0, (.func (.func 215) #[] #[t3])] w fun t7 w =>
 V (un .not t7) w fun t8 w =>
 R t8 w
theorem eq145 (R : Value → World → Prop) (w : World) (t0 t1 : Value) : enterW Tryz.prog Tryz.f145 an145 [t0, t1] w R = vc145 R w t0 t1 := by kernel_rfl
theorem en145 {R : Value → World → Prop} {w : World} {t0 t1 : Value} (h : vc145 R w t0 t1) : Calls Tryz.prog 145 #[t0, t1] w (retK R) :=
  calls_of_enter mixed Tryz.func145 (by kernel_rfl) (by rw [eq145]; exact h)

def an146 : Ann := (.seq (.reg (opn 2 .done)) (.seq (.reg (opn 5 .done)) .leaf))
def vc146 (R : Value → World → Prop) (w : World) (t0 t1 : Value) : Prop :=
 V (bx 54 t0) w fun t2 w =>
 V (ld 215 t1) w fun t4 w =>
 V (fa 54 t2 0) w fun t5 w =>
 V (ld 9 t5) w fun t6 w =>
 CV t4 #[t6] w fun t7 w =>
 R t7 w
theorem eq146 (R : Value → World → Prop) (w : World) (t0 t1 : Value) : enterW Tryz.prog Tryz.f146 an146 [t0, t1] w R = vc146 R w t0 t1 := by kernel_rfl
theorem en146 {R : Value → World → Prop} {w : World} {t0 t1 : Value} (h : vc146 R w t0 t1) : Calls Tryz.prog 146 #[t0, t1] w (retK R) :=
  calls_of_enter mixed Tryz.func146 (by kernel_rfl) (by rw [eq146]; exact h)

def an147 : Ann := (.seq (.reg (opn 1 .done)) (.seq (.reg (opn 4 (.join [10] [7, 8, 9, 10] (.split 6 (opn 4 .done) (opn 4 .done)) (opn 1 .done)))) .leaf))
def vc147 (R : Value → World → Prop) (w : World) (t0 : Value) : Prop :=
 V (Builtin.len_ #[9] 3 #[t0]) w fun t4 w =>
 V (bi .leq 3 t4 (.int .i64 1000)) w fun t5 w =>
 ∀ K0 : List Value → World → Prop, (∀ t10, ∀ w, (∀ g : Env,
 R t10 w) → K0 [t10] w) →
 CondW t5
 (V (cv 9 55 t0) w fun t8 w =>
 CV (.func (.func 216) #[] #[]) #[t8, (.func (.func 217) #[] #[])] w fun t9 w =>
 K0 [t9] w)
 (K0 [(.bool false)] w)
theorem eq147 (R : Value → World → Prop) (w : World) (t0 : Value) : enterW Tryz.prog Tryz.f147 an147 [t0] w R = vc147 R w t0 := by kernel_rfl
theorem en147 {R : Value → World → Prop} {w : World} {t0 : Value} (h : vc147 R w t0) : Calls Tryz.prog 147 #[t0] w (retK R) :=
  calls_of_enter mixed Tryz.func147 (by kernel_rfl) (by rw [eq147]; exact h)

def an148 : Ann := (.seq (.reg (opn 1 .done)) (.seq (.reg (opn 3 .done)) .leaf))
def vc148 (R : Value → World → Prop) (w : World) (t0 : Value) : Prop :=
 CV (.func (.func 140) #[] #[]) #[t0, (.func (.func 149) #[] #[])] w fun t4 w =>
 R t4 w
theorem eq148 (R : Value → World → Prop) (w : World) (t0 : Value) : enterW Tryz.prog Tryz.f148 an148 [t0] w R = vc148 R w t0 := by kernel_rfl
theorem en148 {R : Value → World → Prop} {w : World} {t0 : Value} (h : vc148 R w t0) : Calls Tryz.prog 148 #[t0] w (retK R) :=
  calls_of_enter mixed Tryz.func148 (by kernel_rfl) (by rw [eq148]; exact h)

def an149 : Ann := (.seq (.reg (opn 2 .done)) (.seq (.seq (.reg (opn 2 .done)) (.one (.seq (.reg (opn 2 .done)) (.cond (.seq (.reg (opn 4 (.join [14] [11, 12, 13, 14] (.split 10 (opn 4 .done) (opn 4 .done)) (opn 1 .done)))) .leaf) (.seq (.reg (opn 2 .done)) (.cond (.seq (.reg (opn 4 (.join [24] [21, 22, 23, 24] (.split 20 (opn 4 .done) (opn 4 .done)) (opn 1 .done)))) .leaf) (.seqJ [25] [26, 25, 27, 28, 29] (.seq (.reg (opn 2 .done)) (.cond .leaf (.seq (.reg (opn 2 .done)) (.cond .leaf (.seq (.reg (opn 2 .done)) (.cond .leaf (.reg (opn 2 .done)))))))) (.cond (.seq (.reg (opn 5 (.join [38] [35, 36, 37, 38] (.split 34 (opn 4 .done) (opn 4 .done)) (opn 1 .done)))) .leaf) (.seqJ [39] [40, 39, 41, 42] (.seq (.reg (opn 2 .done)) (.cond .leaf (.seq (.reg (opn 2 .done)) (.cond .leaf (.reg (opn 2 .done)))))) (.cond (.seq (.reg (opn 4 (.join [50] [47, 48, 49, 50] (.split 46 (opn 4 .done) (opn 4 .done)) (opn 1 .done)))) .leaf) (.seqJ [51] [52, 51, 53] (.seq (.reg (opn 2 .done)) (.cond .leaf (.reg (opn 2 .done)))) (.cond (.seq (.reg (opn 4 (.join [61] [58, 59, 60, 61] (.split 57 (opn 4 .done) (opn 4 .done)) (opn 1 .done)))) .leaf) .leaf)))))))))))) (.seq (.reg (opn 1 .done)) .leaf)))
def vc149 (R : Value → World → Prop) (w : World) (t0 : Value) : Prop :=
 V (bx 95 t0) w fun t1 w =>
 V (fa 95 t1 0) w fun t3 w =>
 V (ld 3 t3) w fun t4 w =>
 V (eq .eql 3 (.tmp 4) (.const (.int .i64 1)) t4 (.int .i64 1)) w fun t6 w =>
 CondW t6
 (V (fa 95 t1 1) w fun t7 w =>
 V (ld 9 t7) w fun t8 w =>
 CV (.func (.func 153) #[] #[]) #[t8] w fun t9 w =>
 ∀ K0 : List Value → World → Prop, (∀ t14, ∀ w, (∀ g : Env,
 R t14 w) → K0 [t14] w) →
 CondW t9
 (V (fa 95 t1 2) w fun t11 w =>
 V (ld 3 t11) w fun t12 w =>
 V (eq .eql 3 (.tmp 12) (.const (.int .i64 0)) t12 (.int .i64 0)) w fun t13 w =>
 K0 [t13] w)
 (K0 [(.bool false)] w))
 (V (eq .eql 3 (.tmp 4) (.const (.int .i64 3)) t4 (.int .i64 3)) w fun t16 w =>
 CondW t16
 (V (fa 95 t1 1) w fun t17 w =>
 V (ld 9 t17) w fun t18 w =>
 CV (.func (.func 147) #[] #[]) #[t18] w fun t19 w =>
 ∀ K0 : List Value → World → Prop, (∀ t24, ∀ w, (∀ g : Env,
 R t24 w) → K0 [t24] w) →
 CondW t19
 (V (fa 95 t1 2) w fun t21 w =>
 V (ld 3 t21) w fun t22 w =>
 V (eq .eql 3 (.tmp 22) (.const (.int .i64 0)) t22 (.int .i64 0)) w fun t23 w =>
 K0 [t23] w)
 (K0 [(.bool false)] w))
 (∀ K0 : List Value → World → Prop, (∀ t25, ∀ w, (∀ g : Env,
 CondW t25
 (V (fa 95 t1 1) w fun t30 w =>
 V (ld 9 t30) w fun t31 w =>
 CV (.func (.func 156) #[] #[]) #[t31] w fun t32 w =>
 V (eq .eql 3 (.tmp 32) (.const (.int .i64 2)) t32 (.int .i64 2)) w fun t33 w =>
 ∀ K0 : List Value → World → Prop, (∀ t38, ∀ w, (∀ g : Env,
 R t38 w) → K0 [t38] w) →
 CondW t33
 (V (fa 95 t1 2) w fun t35 w =>
 V (ld 3 t35) w fun t36 w =>
 V (eq .eql 3 (.tmp 36) (.const (.int .i64 0)) t36 (.int .i64 0)) w fun t37 w =>
 K0 [t37] w)
 (K0 [(.bool false)] w))
 (∀ K0 : List Value → World → Prop, (∀ t39, ∀ w, (∀ g : Env,
 CondW t39
 (V (fa 95 t1 1) w fun t43 w =>
 V (ld 9 t43) w fun t44 w =>
 V (eq .eql 9 (.tmp 44) (.const (.string ⟨#[]⟩)) t44 (.string ⟨#[]⟩)) w fun t45 w =>
 ∀ K0 : List Value → World → Prop, (∀ t50, ∀ w, (∀ g : Env,
 R t50 w) → K0 [t50] w) →
 CondW t45
 (V (fa 95 t1 2) w fun t47 w =>
 V (ld 3 t47) w fun t48 w =>
 CV (.func (.func 75) #[] #[]) #[t48, (.int .i64 0), (.int .i64 999999999)] w fun t49 w =>
 K0 [t49] w)
 (K0 [(.bool false)] w))
 (∀ K0 : List Value → World → Prop, (∀ t51, ∀ w, (∀ g : Env,
 CondW t51
 (V (fa 95 t1 1) w fun t54 w =>
 V (ld 9 t54) w fun t55 w =>
 V (eq .eql 9 (.tmp 55) (.const (.string ⟨#[]⟩)) t55 (.string ⟨#[]⟩)) w fun t56 w =>
 ∀ K0 : List Value → World → Prop, (∀ t61, ∀ w, (∀ g : Env,
 R t61 w) → K0 [t61] w) →
 CondW t56
 (V (fa 95 t1 2) w fun t58 w =>
 V (ld 3 t58) w fun t59 w =>
 V (eq .eql 3 (.tmp 59) (.const (.int .i64 0)) t59 (.int .i64 0)) w fun t60 w =>
 K0 [t60] w)
 (K0 [(.bool false)] w))
 (R (.bool false) w)) → K0 [t51] w) →
 V (eq .eql 3 (.tmp 4) (.const (.int .i64 2)) t4 (.int .i64 2)) w fun t52 w =>
 CondW t52
 (K0 [t52] w)
 (V (eq .eql 3 (.tmp 4) (.const (.int .i64 11)) t4 (.int .i64 11)) w fun t53 w =>
 K0 [t53] w))) → K0 [t39] w) →
 V (eq .eql 3 (.tmp 4) (.const (.int .i64 5)) t4 (.int .i64 5)) w fun t40 w =>
 CondW t40
 (K0 [t40] w)
 (V (eq .eql 3 (.tmp 4) (.const (.int .i64 6)) t4 (.int .i64 6)) w fun t41 w =>
 CondW t41
 (K0 [t41] w)
 (V (eq .eql 3 (.tmp 4) (.const (.int .i64 7)) t4 (.int .i64 7)) w fun t42 w =>
 K0 [t42] w)))) → K0 [t25] w) →
 V (eq .eql 3 (.tmp 4) (.const (.int .i64 4)) t4 (.int .i64 4)) w fun t26 w =>
 CondW t26
 (K0 [t26] w)
 (V (eq .eql 3 (.tmp 4) (.const (.int .i64 8)) t4 (.int .i64 8)) w fun t27 w =>
 CondW t27
 (K0 [t27] w)
 (V (eq .eql 3 (.tmp 4) (.const (.int .i64 9)) t4 (.int .i64 9)) w fun t28 w =>
 CondW t28
 (K0 [t28] w)
 (V (eq .eql 3 (.tmp 4) (.const (.int .i64 10)) t4 (.int .i64 10)) w fun t29 w =>
 K0 [t29] w)))))
theorem eq149 (R : Value → World → Prop) (w : World) (t0 : Value) : enterW Tryz.prog Tryz.f149 an149 [t0] w R = vc149 R w t0 := by kernel_rfl
theorem en149 {R : Value → World → Prop} {w : World} {t0 : Value} (h : vc149 R w t0) : Calls Tryz.prog 149 #[t0] w (retK R) :=
  calls_of_enter mixed Tryz.func149 (by kernel_rfl) (by rw [eq149]; exact h)

def an150 : Ann := (.seq (.reg (opn 1 .done)) (.seq (.reg (opn 4 (.join [9] [7, 8, 9] (.split 6 (opn 3 .done) (opn 3 .done)) (opn 1 .done)))) .leaf))
def vc150 (R : Value → World → Prop) (w : World) (t0 : Value) : Prop :=
 V (Builtin.len_ #[96] 3 #[t0]) w fun t4 w =>
 V (bi .gtr 3 t4 (.int .i64 0)) w fun t5 w =>
 ∀ K0 : List Value → World → Prop, (∀ t9, ∀ w, (∀ g : Env,
 R t9 w) → K0 [t9] w) →
 CondW t5
 (CV (.func (.func 151) #[] #[]) #[t0, (.func (.func 152) #[] #[])] w fun t8 w =>
 K0 [t8] w)
 (K0 [(.bool false)] w)
theorem eq150 (R : Value → World → Prop) (w : World) (t0 : Value) : enterW Tryz.prog Tryz.f150 an150 [t0] w R = vc150 R w t0 := by kernel_rfl
theorem en150 {R : Value → World → Prop} {w : World} {t0 : Value} (h : vc150 R w t0) : Calls Tryz.prog 150 #[t0] w (retK R) :=
  calls_of_enter mixed Tryz.func150 (by kernel_rfl) (by rw [eq150]; exact h)

def an151 : Ann := (.seq (.reg (opn 2 .done)) (.seq (.reg (opn 5 .done)) .leaf))
def vc151 (R : Value → World → Prop) (w : World) (t0 t1 : Value) : Prop :=
 V (bx 230 t1) w fun t3 w =>
 CV (.func (.func 218) #[] #[]) #[t0, (.func (.func 219) #[] #[t3])] w fun t7 w =>
 V (un .not t7) w fun t8 w =>
 R t8 w
theorem eq151 (R : Value → World → Prop) (w : World) (t0 t1 : Value) : enterW Tryz.prog Tryz.f151 an151 [t0, t1] w R = vc151 R w t0 t1 := by kernel_rfl
theorem en151 {R : Value → World → Prop} {w : World} {t0 t1 : Value} (h : vc151 R w t0 t1) : Calls Tryz.prog 151 #[t0, t1] w (retK R) :=
  calls_of_enter mixed Tryz.func151 (by kernel_rfl) (by rw [eq151]; exact h)

def an152 : Ann := (.seq (.reg (opn 2 .done)) (.seq (.reg (opn 4 .done)) .leaf))
def vc152 (R : Value → World → Prop) (w : World) (t0 : Value) : Prop :=
 V (bx 98 t0) w fun t1 w =>
 V (fa 98 t1 0) w fun t3 w =>
 V (ld 9 t3) w fun t4 w =>
 CV (.func (.func 153) #[] #[]) #[t4] w fun t5 w =>
 R t5 w
theorem eq152 (R : Value → World → Prop) (w : World) (t0 : Value) : enterW Tryz.prog Tryz.f152 an152 [t0] w R = vc152 R w t0 := by kernel_rfl
theorem en152 {R : Value → World → Prop} {w : World} {t0 : Value} (h : vc152 R w t0) : Calls Tryz.prog 152 #[t0] w (retK R) :=
  calls_of_enter mixed Tryz.func152 (by kernel_rfl) (by rw [eq152]; exact h)

def an153 : Ann := (.seq (.reg (opn 1 .done)) (.seq (.reg (opn 4 .done)) .leaf))
def vc153 (R : Value → World → Prop) (w : World) (t0 : Value) : Prop :=
 CV (.func (.func 156) #[] #[]) #[t0] w fun t4 w =>
 V (bi .gtr 3 t4 (.int .i64 1)) w fun t5 w =>
 R t5 w
theorem eq153 (R : Value → World → Prop) (w : World) (t0 : Value) : enterW Tryz.prog Tryz.f153 an153 [t0] w R = vc153 R w t0 := by kernel_rfl
theorem en153 {R : Value → World → Prop} {w : World} {t0 : Value} (h : vc153 R w t0) : Calls Tryz.prog 153 #[t0] w (retK R) :=
  calls_of_enter mixed Tryz.func153 (by kernel_rfl) (by rw [eq153]; exact h)

def an154 : Ann := (.seq (.reg (opn 2 .done)) (.seq (.reg (opn 4 (.join [18] [10, 11, 12, 13, 14, 15, 16, 17, 18] (.split 9 (opn 9 .done) (opn 9 .done)) (opn 1 .done)))) (.seq (.reg (opn 5 .done)) (.seq (.reg (opn 2 .done)) .leaf))))
def vc154 (R : Value → World → Prop) (w : World) (t0 t1 t2 : Value) : Prop :=
 V (bx 54 t0) w fun t3 w =>
 V (fa 54 t3 0) w fun t6 w =>
 V (ld 9 t6) w fun t7 w =>
 CV (.func (.func 147) #[] #[]) #[t7] w fun t8 w =>
 ∀ K0 : List Value → World → Prop, (∀ t18, ∀ w, (∀ g : Env,
 V (ld 3 t1) w fun t19 w =>
 V (fa 54 t3 1) w fun t20 w =>
 V (ld 3 t20) w fun t21 w =>
 V (Builtin.max_ #[3, 3] 3 #[t19, t21]) w fun t22 w =>
 U (st 3 t1 t22) w fun w =>
 R t18 w) → K0 [t18] w) →
 CondW t8
 (V (fa 54 t3 1) w fun t10 w =>
 V (ld 3 t10) w fun t11 w =>
 V (ld 3 t1) w fun t12 w =>
 V (fa 28 t2 5) w fun t13 w =>
 V (ld 26 t13) w fun t14 w =>
 V (Builtin.len_ #[26] 3 #[t14]) w fun t15 w =>
 V (bi .sub 3 t15 (.int .i64 1)) w fun t16 w =>
 CV (.func (.func 75) #[] #[]) #[t11, t12, t16] w fun t17 w =>
 K0 [t17] w)
 (K0 [(.bool false)] w)
theorem eq154 (R : Value → World → Prop) (w : World) (t0 t1 t2 : Value) : enterW Tryz.prog Tryz.f154 an154 [t0, t1, t2] w R = vc154 R w t0 t1 t2 := by kernel_rfl
theorem en154 {R : Value → World → Prop} {w : World} {t0 t1 t2 : Value} (h : vc154 R w t0 t1 t2) : Calls Tryz.prog 154 #[t0, t1, t2] w (retK R) :=
  calls_of_enter mixed Tryz.func154 (by kernel_rfl) (by rw [eq154]; exact h)

def an155 : Ann := (.seq (.reg (opn 1 .done)) (.seq (.reg (opn 4 (.join [13] [9, 10, 11, 12, 13] (.split 8 (opn 5 .done) (opn 5 .done)) (opn 1 .done)))) (.seq (.reg (opn 3 .done)) (.seq (.reg (opn 2 .done)) .leaf))))
def vc155 (R : Value → World → Prop) (w : World) (t0 t1 : Value) : Prop :=
 CV (.func (.func 156) #[] #[]) #[t0] w fun t6 w =>
 V (eq .eql 3 (.tmp 6) (.const (.int .i64 2)) t6 (.int .i64 2)) w fun t7 w =>
 ∀ K0 : List Value → World → Prop, (∀ t13, ∀ w, (∀ g : Env,
 V (ld 231 t1) w fun t14 w =>
 U (mu 231 t14 t0 (.bool true)) w fun w =>
 R t13 w) → K0 [t13] w) →
 CondW t7
 (V (ld 231 t1) w fun t9 w =>
 V (lk 231 t9 t0 false) w fun t11 w =>
 V (un .not t11) w fun t12 w =>
 K0 [t12] w)
 (K0 [(.bool false)] w)
theorem eq155 (R : Value → World → Prop) (w : World) (t0 t1 : Value) : enterW Tryz.prog Tryz.f155 an155 [t0, t1] w R = vc155 R w t0 t1 := by kernel_rfl
theorem en155 {R : Value → World → Prop} {w : World} {t0 t1 : Value} (h : vc155 R w t0 t1) : Calls Tryz.prog 155 #[t0, t1] w (retK R) :=
  calls_of_enter mixed Tryz.func155 (by kernel_rfl) (by rw [eq155]; exact h)

def an156 : Ann := (.seq (.reg (opn 1 .done)) (.seq (.reg (opn 1 .done)) (.seq (.seq (.reg (opn 5 (.join [20] [10, 11, 12, 13, 14, 15, 16, 17, 18, 19, 20] (.split 9 (opn 11 .done) (opn 6 (.join [19] [16, 17, 18, 19] (.split 15 (opn 4 .done) (opn 4 .done)) (opn 1 .done)))) .done))) (.cond (.seq (.reg (opn 1 .done)) .leaf) .leaf)) (.seq (.reg (opn 3 .done)) (.seq (.one (.seq (.reg (opn 5 (.join [32] [29, 30, 31, 32] (.split 28 (opn 4 .done) (opn 4 .done)) (opn 1 .done)))) (.cond (.seq (.reg (opn 1 .done)) .leaf) (.seq (.reg (opn 3 .done)) (.cond (.seq (.reg (opn 1 .done)) .leaf) (.seq (.reg (opn 3 (.join [42] [40, 41, 42] (.split 39 (opn 3 .done) (opn 3 .done)) (opn 1 .done)))) (.cond (.seq (.reg (opn 1 .done)) .leaf) .leaf))))))) (.seq (.reg (opn 1 .done)) .leaf))))))
def vc156 (R : Value → World → Prop) (w : World) (t0 : Value) : Prop :=
 V (Builtin.len_ #[9] 3 #[t0]) w fun t6 w =>
 CV (.func (.func 75) #[] #[]) #[t6, (.int .i64 1), (.int .i64 40)] w fun t7 w =>
 V (un .not t7) w fun t8 w =>
 ∀ K0 : List Value → World → Prop, (∀ t20, ∀ w, (∀ g : Env,
 CondW t20
 (R (.int .i64 0) w)
 (CV (.func (.func 223) #[] #[]) #[t0, (.string ⟨#[46]⟩)] w fun t22 w =>
 V (ix 9 t0 (.int .i64 0)) w fun t25 w =>
 V (cv 5 3 t25) w fun t26 w =>
 CV (.func (.func 75) #[] #[]) #[t26, (.int .i64 48), (.int .i64 57)] w fun t27 w =>
 ∀ K0 : List Value → World → Prop, (∀ t32, ∀ w, (∀ g : Env,
 CondW t32
 (R (.int .i64 1) w)
 (V (eq .eql 3 (.tmp 34) (.const (.int .i64 0)) t22 (.int .i64 0)) w fun t35 w =>
 CondW t35
 (R (.int .i64 2) w)
 (V (eq .eql 3 (.tmp 37) (.const (.int .i64 1)) t22 (.int .i64 1)) w fun t38 w =>
 ∀ K0 : List Value → World → Prop, (∀ t42, ∀ w, (∀ g : Env,
 CondW t42
 (R (.int .i64 3) w)
 (R (.int .i64 4) w)) → K0 [t42] w) →
 CondW t38
 (CV (.func (.func 224) #[] #[]) #[t0, (.string ⟨#[46]⟩)] w fun t41 w =>
 K0 [t41] w)
 (K0 [(.bool false)] w)))) → K0 [t32] w) →
 CondW t27
 (K0 [(.bool true)] w)
 (V (ix 9 t0 (.int .i64 0)) w fun t30 w =>
 V (eq .eql 5 (.tmp 30) (.const (.int .u8 46)) t30 (.int .u8 46)) w fun t31 w =>
 K0 [t31] w))) → K0 [t20] w) →
 CondW t8
 (K0 [(.bool true)] w)
 (V (cv 9 55 t0) w fun t11 w =>
 CV (.func (.func 216) #[] #[]) #[t11, (.func (.func 220) #[] #[])] w fun t13 w =>
 V (un .not t13) w fun t14 w =>
 ∀ K1 : List Value → World → Prop, (∀ t19, ∀ w, (∀ g : Env,
 K0 [t19] w) → K1 [t19] w) →
 CondW t14
 (CV (.func (.func 222) #[] #[]) #[t0] w fun t17 w =>
 V (un .not t17) w fun t18 w =>
 K1 [t18] w)
 (K1 [(.bool false)] w))
theorem eq156 (R : Value → World → Prop) (w : World) (t0 : Value) : enterW Tryz.prog Tryz.f156 an156 [t0] w R = vc156 R w t0 := by kernel_rfl
theorem en156 {R : Value → World → Prop} {w : World} {t0 : Value} (h : vc156 R w t0) : Calls Tryz.prog 156 #[t0] w (retK R) :=
  calls_of_enter mixed Tryz.func156 (by kernel_rfl) (by rw [eq156]; exact h)

def an157 : Ann := (.seq (.reg (opn 2 .done)) (.seq (.reg (opn 1 .done)) (.seq (.reg (opn 1 .done)) (.seq (.seq (.reg (opn 1 .done)) (.one (.seq (.one (.seqJ [] [11, 10, 13, 12, 15, 14, 17, 16, 19, 18, 21, 20, 23, 22, 25, 24, 27, 26, 29, 28, 31, 30, 33, 32, 35, 34, 36, 37, 6, 38, 39, 40, 41, 42, 43, 44, 45, 46, 47, 48, 49, 50, 51, 52, 53, 54, 55, 56, 57, 58, 59, 60, 61, 62, 63, 64, 65, 66, 67, 68, 69, 70, 71, 72, 73, 74, 75, 76, 77, 78, 79, 80, 81, 82, 83, 84, 85, 86, 87] (.one (.seq (.one (.seq (.one (.seq (.one (.seq (.one (.seq (.one (.seq (.one (.seq (.one (.seq (.one (.seqJ [] [11, 10, 13, 12, 15, 14, 17, 16, 19, 18, 21, 20, 23, 22, 25, 24, 27, 26, 29, 28, 31, 30, 33, 32, 35, 34, 36, 37, 6, 38, 39] (.one (.seq (.one (.seq (.one (.seq (.seq (.seq (.reg (opn 2 .done)) (.cond .leaf .leaf)) (.seq (.seq (.reg (opn 2 .done)) (.cond .leaf .leaf)) (.seq (.seq (.reg (opn 2 .done)) (.cond .leaf .leaf)) (.seq (.seq (.reg (opn 2 .done)) (.cond .leaf .leaf)) (.seq (.seq (.reg (opn 2 .done)) (.cond .leaf .leaf)) (.seq (.seq (.reg (opn 2 .done)) (.cond .leaf .leaf)) (.seq (.seq (.reg (opn 2 .done)) (.cond .leaf .leaf)) (.seq (.seq (.reg (opn 2 .done)) (.cond .leaf .leaf)) (.seq (.seq (.reg (opn 2 .done)) (.cond .leaf .leaf)) (.seq (.seq (.reg (opn 2 .done)) (.cond .leaf .leaf)) (.seq (.seq (.reg (opn 2 .done)) (.cond .leaf .leaf)) (.seq (.seq (.reg (opn 2 .done)) (.cond .leaf .leaf)) (.seq (.reg (opn 2 .done)) (.cond .leaf .leaf)))))))))))))) .leaf)) (.seq (.seq (.reg (opn 3 .done)) .leaf) .leaf))) (.seq (.reg (opn 2 .done)) (.cond (.seq (.reg (opn 1 .done)) .leaf) .leaf)))) (.seq (.seq (.reg (opn 5 .done)) .leaf) .leaf))) (.seq (.seq (.draw (.hold 0 (.take 1 (.take 2 (.alts (.eff 3 (.alts (.eff 4 (.take 5 .done) .nil)) .nil)))))) .leaf) .leaf))) (.seq (.seq (.draw (.hold 0 (.take 1 (.take 2 (.alts (.eff 3 (.alts (.eff 4 (.take 5 .done) .nil)) .nil)))))) .leaf) .leaf))) (.seq (.seq (.draw (.hold 0 (.take 1 (.take 2 (.alts (.eff 3 (.alts (.eff 4 (.take 5 .done) .nil)) .nil)))))) .leaf) .leaf))) (.seq (.seq (.reg (opn 4 .done)) .leaf) .leaf))) (.seq (.seqJ [6] [62, 63, 64, 65, 66, 67, 68, 69, 70, 71, 72, 73, 6] (.draw (.hold 0 (.take 1 (.take 2 (.alts (.eff 3 (.alts (.eff 4 (.take 5 (.split 67 (.take 6 (.take 7 (.take 8 (.take 9 (.take 10 (.take 11 (.take 12 .done))))))) (.hold 6 (.take 7 (.take 8 (.alts (.eff 9 (.alts (.eff 10 (.take 11 (.take 12 .done)) .nil)) .nil))))))) .nil)) .nil)))))) .leaf) .leaf))) (.seq (.seq (.reg (opn 7 .done)) .leaf) .leaf))) (.seq (.seq (.reg (opn 7 .done)) .leaf) .leaf))) (.seq (.reg (opn 2 .done)) (.cond (.seq (.reg (opn 1 .done)) .leaf) .leaf)))) (.seq (.seq (.reg (opn 7 .done)) .leaf) .leaf))) (.seq (.seq (.reg (opn 7 .done)) .leaf) .leaf)))) (.seq (.reg (opn 4 .done)) .leaf)))))
def vc157 (R : Value → World → Prop) (w : World) (t0 t1 t2 : Value) : Prop :=
 V (bx 28 t0) w fun t3 w =>
 ∀ K0 : List Value → World → Prop, (∀ w, (∀ g : Env,
 V (fa 28 t3 2) w fun t89 w =>
 V (ld 24 t89) w fun t90 w =>
 V (Builtin.len_ #[24] 3 #[t90]) w fun t91 w =>
 V (bi .sub 3 t91 (.int .i64 1)) w fun t92 w =>
 CV (.func (.func 75) #[] #[]) #[t2, (.int .i64 0), t92] w fun t93 w =>
 R t93 w) → K0 [] w) →
 ∀ K1 : List Value → World → Prop, (∀ w, (∀ g : Env,
 V (ld 28 t3) w fun t40 w =>
 CV (.func (.func 228) #[] #[]) #[t40, t2, (.func (.func 227) #[] #[])] w fun t43 w =>
 R t43 w) → K1 [] w) →
 V (eq .eql 3 (.tmp 9) (.const (.int .i64 1)) t1 (.int .i64 1)) w fun t11 w =>
 CondW t11
 (CV (.func (.func 75) #[] #[]) #[t2, (.int .i64 1), (.int .i64 20000)] w fun t37 w =>
 R t37 w)
 (V (eq .eql 3 (.tmp 9) (.const (.int .i64 8)) t1 (.int .i64 8)) w fun t13 w =>
 CondW t13
 (V (eq .eql 3 (.tmp 38) (.const (.int .i64 (-1))) t2 (.int .i64 (-1))) w fun t39 w =>
 CondW t39
 (R (.bool true) w)
 (K1 [] w))
 (V (eq .eql 3 (.tmp 9) (.const (.int .i64 2)) t1 (.int .i64 2)) w fun t15 w =>
 CondW t15
 (K1 [] w)
 (V (eq .eql 3 (.tmp 9) (.const (.int .i64 3)) t1 (.int .i64 3)) w fun t17 w =>
 CondW t17
 (Dr w fun w =>
 HV (ld 28 t3) w fun t44 =>
 CV (.func (.func 225) #[] #[]) #[(.int .i64 2)] w fun t47 w =>
 RunIs (ld 28 t3) w t44 ∧ (CV (.func (.func 228) #[] #[]) #[t44, t2, t47] w fun t48 w =>
 R t48 w))
 (V (eq .eql 3 (.tmp 9) (.const (.int .i64 4)) t1 (.int .i64 4)) w fun t19 w =>
 CondW t19
 (Dr w fun w =>
 HV (ld 28 t3) w fun t49 =>
 CV (.func (.func 225) #[] #[]) #[(.int .i64 3)] w fun t52 w =>
 RunIs (ld 28 t3) w t49 ∧ (CV (.func (.func 228) #[] #[]) #[t49, t2, t52] w fun t53 w =>
 R t53 w))
 (V (eq .eql 3 (.tmp 9) (.const (.int .i64 5)) t1 (.int .i64 5)) w fun t21 w =>
 CondW t21
 (Dr w fun w =>
 HV (ld 28 t3) w fun t54 =>
 CV (.func (.func 225) #[] #[]) #[(.int .i64 4)] w fun t57 w =>
 RunIs (ld 28 t3) w t54 ∧ (CV (.func (.func 228) #[] #[]) #[t54, t2, t57] w fun t58 w =>
 R t58 w))
 (V (eq .eql 3 (.tmp 9) (.const (.int .i64 6)) t1 (.int .i64 6)) w fun t23 w =>
 CondW t23
 (V (ld 28 t3) w fun t59 w =>
 CV (.func (.func 228) #[] #[]) #[t59, t2, (.func (.func 153) #[] #[])] w fun t61 w =>
 R t61 w)
 (V (eq .eql 3 (.tmp 9) (.const (.int .i64 7)) t1 (.int .i64 7)) w fun t25 w =>
 CondW t25
 (∀ K2 : List Value → World → Prop, (∀ t6, ∀ w, (∀ g : Env,
 R t6 w) → K2 [t6] w) →
 Dr w fun w =>
 HV (ld 28 t3) w fun t62 =>
 CV (.func (.func 225) #[] #[]) #[(.int .i64 2)] w fun t65 w =>
 RunIs (ld 28 t3) w t62 ∧ (CV (.func (.func 228) #[] #[]) #[t62, t2, t65] w fun t66 w =>
 CondW t66
 (K2 [(.bool true)] w)
 (HV (ld 28 t3) w fun t68 =>
 CV (.func (.func 225) #[] #[]) #[(.int .i64 4)] w fun t71 w =>
 RunIs (ld 28 t3) w t68 ∧ (CV (.func (.func 228) #[] #[]) #[t68, t2, t71] w fun t72 w =>
 K2 [t72] w))))
 (V (eq .eql 3 (.tmp 9) (.const (.int .i64 9)) t1 (.int .i64 9)) w fun t27 w =>
 CondW t27
 (V (fa 28 t3 4) w fun t75 w =>
 V (ld 22 t75) w fun t76 w =>
 V (Builtin.len_ #[22] 3 #[t76]) w fun t77 w =>
 V (bi .sub 3 t77 (.int .i64 1)) w fun t78 w =>
 CV (.func (.func 75) #[] #[]) #[t2, (.int .i64 0), t78] w fun t79 w =>
 R t79 w)
 (V (eq .eql 3 (.tmp 9) (.const (.int .i64 10)) t1 (.int .i64 10)) w fun t29 w =>
 CondW t29
 (V (fa 28 t3 1) w fun t81 w =>
 V (ld 23 t81) w fun t82 w =>
 V (Builtin.len_ #[23] 3 #[t82]) w fun t83 w =>
 V (bi .sub 3 t83 (.int .i64 1)) w fun t84 w =>
 CV (.func (.func 75) #[] #[]) #[t2, (.int .i64 0), t84] w fun t85 w =>
 R t85 w)
 (V (eq .eql 3 (.tmp 9) (.const (.int .i64 12)) t1 (.int .i64 12)) w fun t31 w =>
 CondW t31
 (V (eq .eql 3 (.tmp 86) (.const (.int .i64 (-1))) t2 (.int .i64 (-1))) w fun t87 w =>
 CondW t87
 (R (.bool true) w)
 (K0 [] w))
 (V (eq .eql 3 (.tmp 9) (.const (.int .i64 11)) t1 (.int .i64 11)) w fun t33 w =>
 CondW t33
 (K0 [] w)
 (V (eq .eql 3 (.tmp 9) (.const (.int .i64 13)) t1 (.int .i64 13)) w fun t35 w =>
 CondW t35
 (V (fa 28 t3 5) w fun t95 w =>
 V (ld 26 t95) w fun t96 w =>
 V (Builtin.len_ #[26] 3 #[t96]) w fun t97 w =>
 V (bi .sub 3 t97 (.int .i64 1)) w fun t98 w =>
 CV (.func (.func 75) #[] #[]) #[t2, (.int .i64 0), t98] w fun t99 w =>
 R t99 w)
 (CV (.func (.func 56) #[] #[]) #[t1, t2] w fun t102 w =>
 R t102 w)))))))))))))
theorem eq157 (R : Value → World → Prop) (w : World) (t0 t1 t2 : Value) : enterW Tryz.prog Tryz.f157 an157 [t0, t1, t2] w R = vc157 R w t0 t1 t2 := by kernel_rfl
theorem en157 {R : Value → World → Prop} {w : World} {t0 t1 t2 : Value} (h : vc157 R w t0 t1 t2) : Calls Tryz.prog 157 #[t0, t1, t2] w (retK R) :=
  calls_of_enter mixed Tryz.func157 (by kernel_rfl) (by rw [eq157]; exact h)

def an158 : Ann := (.seq (.reg (opn 3 .done)) (.seq (.seq (.reg (opn 2 .done)) (.one (.seqJ [7] [8, 7, 9] (.seq (.reg (opn 2 .done)) (.cond .leaf (.reg (opn 2 .done)))) (.cond (.seq (.reg (opn 6 .done)) .leaf) (.seq (.reg (opn 2 .done)) (.cond (.seq (.reg (opn 4 (.join [24] [21, 22, 23, 24] (.split 20 (opn 4 .done) (opn 4 .done)) (opn 1 (.join [35] [26, 27, 28, 29, 30, 31, 32, 33, 34, 35] (.split 25 (opn 10 .done) (opn 4 (.join [34] [30, 31, 32, 33, 34] (.split 29 (opn 5 .done) (opn 5 .done)) (opn 1 .done)))) (opn 1 .done)))))) .leaf) (.seq (.reg (opn 2 .done)) (.cond (.seq (.seq (.reg (opn 5 (.join [56] [43, 44, 45, 46, 47, 48, 49, 50, 51, 52, 53, 54, 55, 56] (.split 42 (opn 14 .done) (opn 4 (.join [55] [47, 48, 49, 50, 51, 52, 53, 54, 55] (.split 46 (opn 4 (.join [54] [51, 52, 53, 54] (.split 50 (opn 4 .done) (opn 4 .done)) (opn 1 .done))) (opn 9 .done)) (opn 1 .done)))) .done))) (.cond (.seq (.reg (opn 1 .done)) .leaf) .leaf)) (.seq (.reg (opn 4 (.join [70] [61, 62, 63, 64, 65, 66, 67, 68, 69, 70] (.split 60 (opn 10 .done) (opn 4 (.join [69] [65, 66, 67, 68, 69] (.split 64 (opn 5 .done) (opn 5 .done)) (opn 1 .done)))) (opn 1 .done)))) .leaf)) .leaf)))))))) (.seq (.reg (opn 1 .done)) .leaf)))
def vc158 (R : Value → World → Prop) (w : World) (t0 t1 : Value) : Prop :=
 V (bx 28 t0) w fun t2 w =>
 V (bx 38 t1) w fun t3 w =>
 V (fa 38 t3 0) w fun t5 w =>
 V (ld 3 t5) w fun t6 w =>
 ∀ K0 : List Value → World → Prop, (∀ t7, ∀ w, (∀ g : Env,
 CondW t7
 (V (ld 28 t2) w fun t10 w =>
 V (fa 38 t3 1) w fun t11 w =>
 V (ld 3 t11) w fun t12 w =>
 CV (.func (.func 228) #[] #[]) #[t10, t12, (.func (.func 229) #[] #[t3])] w fun t14 w =>
 R t14 w)
 (V (eq .eql 3 (.tmp 6) (.const (.int .i64 19)) t6 (.int .i64 19)) w fun t16 w =>
 CondW t16
 (V (fa 38 t3 1) w fun t17 w =>
 V (ld 3 t17) w fun t18 w =>
 V (eq .neq 3 (.tmp 18) (.const (.int .i64 1)) t18 (.int .i64 1)) w fun t19 w =>
 ∀ K0 : List Value → World → Prop, (∀ t24, ∀ w, (∀ g : Env,
 ∀ K0 : List Value → World → Prop, (∀ t35, ∀ w, (∀ g : Env,
 R t35 w) → K0 [t35] w) →
 CondW t24
 (K0 [(.bool true)] w)
 (V (fa 38 t3 1) w fun t26 w =>
 V (ld 3 t26) w fun t27 w =>
 V (eq .eql 3 (.tmp 27) (.const (.int .i64 1)) t27 (.int .i64 1)) w fun t28 w =>
 ∀ K1 : List Value → World → Prop, (∀ t34, ∀ w, (∀ g : Env,
 K0 [t34] w) → K1 [t34] w) →
 CondW t28
 (V (ld 28 t2) w fun t30 w =>
 V (fa 38 t3 2) w fun t31 w =>
 V (ld 3 t31) w fun t32 w =>
 CV (.func (.func 157) #[] #[]) #[t30, (.int .i64 2), t32] w fun t33 w =>
 K1 [t33] w)
 (K1 [(.bool false)] w))) → K0 [t24] w) →
 CondW t19
 (V (fa 38 t3 2) w fun t21 w =>
 V (ld 3 t21) w fun t22 w =>
 V (eq .eql 3 (.tmp 22) (.const (.int .i64 0)) t22 (.int .i64 0)) w fun t23 w =>
 K0 [t23] w)
 (K0 [(.bool false)] w))
 (V (eq .eql 3 (.tmp 6) (.const (.int .i64 22)) t6 (.int .i64 22)) w fun t37 w =>
 CondW t37
 (V (fa 38 t3 1) w fun t38 w =>
 V (ld 3 t38) w fun t39 w =>
 CV (.func (.func 75) #[] #[]) #[t39, (.int .i64 0), (.int .i64 5)] w fun t40 w =>
 V (un .not t40) w fun t41 w =>
 ∀ K0 : List Value → World → Prop, (∀ t56, ∀ w, (∀ g : Env,
 CondW t56
 (R (.bool false) w)
 (V (fa 38 t3 3) w fun t57 w =>
 V (ld 3 t57) w fun t58 w =>
 V (eq .eql 3 (.tmp 58) (.const (.int .i64 (-1))) t58 (.int .i64 (-1))) w fun t59 w =>
 ∀ K0 : List Value → World → Prop, (∀ t70, ∀ w, (∀ g : Env,
 R t70 w) → K0 [t70] w) →
 CondW t59
 (K0 [(.bool true)] w)
 (V (fa 38 t3 2) w fun t61 w =>
 V (ld 3 t61) w fun t62 w =>
 V (eq .neq 3 (.tmp 62) (.const (.int .i64 0)) t62 (.int .i64 0)) w fun t63 w =>
 ∀ K1 : List Value → World → Prop, (∀ t69, ∀ w, (∀ g : Env,
 K0 [t69] w) → K1 [t69] w) →
 CondW t63
 (V (ld 28 t2) w fun t65 w =>
 V (fa 38 t3 3) w fun t66 w =>
 V (ld 3 t66) w fun t67 w =>
 CV (.func (.func 157) #[] #[]) #[t65, (.int .i64 3), t67] w fun t68 w =>
 K1 [t68] w)
 (K1 [(.bool false)] w)))) → K0 [t56] w) →
 CondW t41
 (K0 [(.bool true)] w)
 (V (fa 38 t3 2) w fun t43 w =>
 V (ld 3 t43) w fun t44 w =>
 V (eq .eql 3 (.tmp 44) (.const (.int .i64 2)) t44 (.int .i64 2)) w fun t45 w =>
 ∀ K1 : List Value → World → Prop, (∀ t55, ∀ w, (∀ g : Env,
 K0 [t55] w) → K1 [t55] w) →
 CondW t45
 (V (fa 38 t3 1) w fun t47 w =>
 V (ld 3 t47) w fun t48 w =>
 V (eq .eql 3 (.tmp 48) (.const (.int .i64 3)) t48 (.int .i64 3)) w fun t49 w =>
 ∀ K2 : List Value → World → Prop, (∀ t54, ∀ w, (∀ g : Env,
 K1 [t54] w) → K2 [t54] w) →
 CondW t49
 (K2 [(.bool true)] w)
 (V (fa 38 t3 1) w fun t51 w =>
 V (ld 3 t51) w fun t52 w =>
 V (eq .eql 3 (.tmp 52) (.const (.int .i64 5)) t52 (.int .i64 5)) w fun t53 w =>
 K2 [t53] w))
 (K1 [(.bool false)] w)))
 (R (.bool true) w)))) → K0 [t7] w) →
 V (eq .eql 3 (.tmp 6) (.const (.int .i64 12)) t6 (.int .i64 12)) w fun t8 w =>
 CondW t8
 (K0 [t8] w)
 (V (eq .eql 3 (.tmp 6) (.const (.int .i64 21)) t6 (.int .i64 21)) w fun t9 w =>
 K0 [t9] w)
theorem eq158 (R : Value → World → Prop) (w : World) (t0 t1 : Value) : enterW Tryz.prog Tryz.f158 an158 [t0, t1] w R = vc158 R w t0 t1 := by kernel_rfl
theorem en158 {R : Value → World → Prop} {w : World} {t0 t1 : Value} (h : vc158 R w t0 t1) : Calls Tryz.prog 158 #[t0, t1] w (retK R) :=
  calls_of_enter mixed Tryz.func158 (by kernel_rfl) (by rw [eq158]; exact h)

def an159 : Ann := (.seq (.reg (opn 1 .done)) (.seq (.reg (opn 79 .done)) .leaf))
def vc159 (R : Value → World → Prop) (w : World) : Prop :=
 V (al 234) w fun t0 w =>
 V (bd 100 #[(0, (.int .i64 1)), (1, (.int .i64 2)), (2, (.int .i64 15))]) w fun t1 w =>
 V (bd 102 #[(0, (.string ⟨#[99, 108, 97, 117, 115, 101]⟩)), (1, t1)]) w fun t2 w =>
 V (bd 102 #[(0, (.string ⟨#[100, 111, 110, 101]⟩))]) w fun t3 w =>
 V (bd 100 #[(0, (.int .i64 2))]) w fun t4 w =>
 V (bd 102 #[(0, (.string ⟨#[99, 111, 110, 115, 116]⟩)), (1, t4), (3, (.int .i64 1))]) w fun t5 w =>
 V (bd 102 #[(0, (.string ⟨#[109, 105, 115, 115]⟩)), (3, (.int .i64 1))]) w fun t6 w =>
 V (bd 100 #[(0, (.int .i64 3))]) w fun t7 w =>
 V (bd 102 #[(0, (.string ⟨#[118, 97, 114]⟩)), (1, t7), (3, (.int .i64 1))]) w fun t8 w =>
 V (bd 100 #[(0, (.int .i64 9))]) w fun t9 w =>
 V (bd 102 #[(0, (.string ⟨#[115, 108, 111, 116]⟩)), (1, t9), (3, (.int .i64 1))]) w fun t10 w =>
 V (bd 100 #[(0, (.int .i64 4))]) w fun t11 w =>
 V (bd 102 #[(0, (.string ⟨#[115, 116, 101, 109]⟩)), (1, t11), (3, (.int .i64 1))]) w fun t12 w =>
 V (bd 100 #[(0, (.int .i64 5))]) w fun t13 w =>
 V (bd 102 #[(0, (.string ⟨#[99, 111, 109, 112]⟩)), (1, t13), (3, (.int .i64 1))]) w fun t14 w =>
 V (bd 100 #[(0, (.int .i64 6))]) w fun t15 w =>
 V (bd 102 #[(0, (.string ⟨#[112, 101, 101, 107]⟩)), (1, t15), (3, (.int .i64 1))]) w fun t16 w =>
 V (bd 100 #[(0, (.int .i64 17))]) w fun t17 w =>
 V (bd 102 #[(0, (.string ⟨#[98, 105, 110]⟩)), (1, t17), (2, (.int .i64 2)), (3, (.int .i64 1))]) w fun t18 w =>
 V (bd 100 #[(0, (.int .i64 18))]) w fun t19 w =>
 V (bd 102 #[(0, (.string ⟨#[117, 110]⟩)), (1, t19), (2, (.int .i64 1)), (3, (.int .i64 1))]) w fun t20 w =>
 V (bd 100 #[(0, (.int .i64 23)), (1, (.int .i64 16)), (2, (.int .i64 14))]) w fun t21 w =>
 V (bd 102 #[(0, (.string ⟨#[102, 117, 110]⟩)), (1, t21), (3, (.int .i64 1))]) w fun t22 w =>
 V (bd 102 #[(0, (.string ⟨#[116, 101, 108, 108]⟩)), (2, (.int .i64 1)), (3, (.int .i64 1))]) w fun t23 w =>
 V (bd 102 #[(0, (.string ⟨#[112, 111, 112]⟩)), (2, (.int .i64 1))]) w fun t24 w =>
 V (bd 100 #[(0, (.int .i64 6))]) w fun t25 w =>
 V (bd 102 #[(0, (.string ⟨#[115, 101, 116]⟩)), (1, t25), (2, (.int .i64 1))]) w fun t26 w =>
 V (bd 100 #[(0, (.int .i64 9))]) w fun t27 w =>
 V (bd 102 #[(0, (.string ⟨#[112, 117, 116]⟩)), (1, t27), (2, (.int .i64 1))]) w fun t28 w =>
 V (bd 100 #[(0, (.int .i64 11))]) w fun t29 w =>
 V (bd 102 #[(0, (.string ⟨#[100, 114, 111, 112]⟩)), (1, t29)]) w fun t30 w =>
 V (bd 100 #[(0, (.int .i64 12))]) w fun t31 w =>
 V (bd 102 #[(0, (.string ⟨#[112, 114, 111, 99]⟩)), (1, t31)]) w fun t32 w =>
 V (bd 100 #[(0, (.int .i64 15)), (1, (.int .i64 23))]) w fun t33 w =>
 V (bd 102 #[(0, (.string ⟨#[97, 100, 100, 114]⟩)), (1, t33)]) w fun t34 w =>
 V (bd 100 #[(0, (.int .i64 8))]) w fun t35 w =>
 V (bd 102 #[(0, (.string ⟨#[99, 109, 100]⟩)), (1, t35), (2, (.int .i64 1))]) w fun t36 w =>
 V (bd 100 #[(0, (.int .i64 23)), (1, (.int .i64 16)), (2, (.int .i64 14))]) w fun t37 w =>
 V (bd 102 #[(0, (.string ⟨#[115, 117, 98]⟩)), (1, t37)]) w fun t38 w =>
 V (bd 100 #[(0, (.int .i64 23)), (1, (.int .i64 15)), (2, (.int .i64 23))]) w fun t39 w =>
 V (bd 102 #[(0, (.string ⟨#[116, 114, 97, 112]⟩)), (1, t39)]) w fun t40 w =>
 V (bd 100 #[(0, (.int .i64 13))]) w fun t41 w =>
 V (bd 102 #[(0, (.string ⟨#[106, 117, 109, 112]⟩)), (1, t41), (5, (.bool true))]) w fun t42 w =>
 V (bd 100 #[(0, (.int .i64 13))]) w fun t43 w =>
 V (bd 102 #[(0, (.string ⟨#[102, 97, 108, 115, 101]⟩)), (1, t43), (2, (.int .i64 1))]) w fun t44 w =>
 V (bd 102 #[(0, (.string ⟨#[112, 108, 117, 115]⟩)), (2, (.int .i64 1)), (3, (.int .i64 1))]) w fun t45 w =>
 V (bd 102 #[(0, (.string ⟨#[119, 104, 111, 108, 101]⟩)), (2, (.int .i64 1)), (3, (.int .i64 1))]) w fun t46 w =>
 V (bd 100 #[(0, (.int .i64 7)), (1, (.int .i64 22))]) w fun t47 w =>
 V (bd 102 #[(0, (.string ⟨#[111, 118, 101, 114]⟩)), (1, t47), (2, (.int .i64 1)), (4, (.int .i64 1))]) w fun t48 w =>
 V (bd 102 #[(0, (.string ⟨#[99, 111, 117, 110, 116]⟩)), (2, (.int .i64 1)), (4, (.int .i64 1))]) w fun t49 w =>
 V (bd 102 #[(0, (.string ⟨#[108, 111, 111, 112]⟩)), (4, (.int .i64 1))]) w fun t50 w =>
 V (bd 100 #[(0, (.int .i64 13))]) w fun t51 w =>
 V (bd 102 #[(0, (.string ⟨#[116, 101, 115, 116]⟩)), (1, t51)]) w fun t52 w =>
 V (bd 100 #[(0, (.int .i64 1)), (1, (.int .i64 2))]) w fun t53 w =>
 V (bd 102 #[(0, (.string ⟨#[116, 117, 114, 110]⟩)), (1, t53)]) w fun t54 w =>
 V (bd 102 #[(0, (.string ⟨#[98, 121]⟩))]) w fun t55 w =>
 V (bd 100 #[(0, (.int .i64 20))]) w fun t56 w =>
 V (bd 102 #[(0, (.string ⟨#[111, 117, 116]⟩)), (1, t56)]) w fun t57 w =>
 V (bd 102 #[(0, (.string ⟨#[105, 110, 116, 101, 114, 112]⟩)), (2, (.int .i64 1))]) w fun t58 w =>
 V (bd 100 #[(0, (.int .i64 15)), (1, (.int .i64 14))]) w fun t59 w =>
 V (bd 102 #[(0, (.string ⟨#[110, 117, 109, 101, 114, 105, 99]⟩)), (1, t59)]) w fun t60 w =>
 V (bd 100 #[(0, (.int .i64 10)), (1, (.int .i64 19)), (2, (.int .i64 14))]) w fun t61 w =>
 V (bd 102 #[(0, (.string ⟨#[112, 97, 114, 115, 101]⟩)), (1, t61)]) w fun t62 w =>
 V (bd 102 #[(0, (.string ⟨#[112, 117, 115, 104]⟩)), (2, (.int .i64 1))]) w fun t63 w =>
 V (bd 102 #[(0, (.string ⟨#[113, 117, 101, 117, 101]⟩)), (2, (.int .i64 1))]) w fun t64 w =>
 V (bd 102 #[(0, (.string ⟨#[115, 97, 121]⟩)), (2, (.int .i64 1))]) w fun t65 w =>
 V (bd 100 #[(0, (.int .i64 14))]) w fun t66 w =>
 V (bd 102 #[(0, (.string ⟨#[101, 120, 105, 116]⟩)), (1, t66), (5, (.bool true))]) w fun t67 w =>
 V (bd 100 #[(0, (.int .i64 14))]) w fun t68 w =>
 V (bd 102 #[(0, (.string ⟨#[114, 101, 116]⟩)), (1, t68), (5, (.bool true))]) w fun t69 w =>
 V (bd 100 #[(0, (.int .i64 2))]) w fun t70 w =>
 V (bd 102 #[(0, (.string ⟨#[115, 105, 103, 110, 97, 108]⟩)), (1, t70), (5, (.bool true))]) w fun t71 w =>
 V (bd 102 #[(0, (.string ⟨#[115, 105, 103, 118, 97, 108]⟩)), (2, (.int .i64 1)), (5, (.bool true))]) w fun t72 w =>
 V (bd 100 #[(0, (.int .i64 2))]) w fun t73 w =>
 V (bd 102 #[(0, (.string ⟨#[116, 114, 97, 99, 101]⟩)), (1, t73)]) w fun t74 w =>
 V (bd 100 #[(0, (.int .i64 21))]) w fun t75 w =>
 V (bd 102 #[(0, (.string ⟨#[114, 97, 105, 115, 101]⟩)), (1, t75), (5, (.bool true))]) w fun t76 w =>
 V (bd 102 #[(0, (.string ⟨#[101, 110, 100]⟩)), (5, (.bool true))]) w fun t77 w =>
 V (bd 234 #[(1, t2), (2, t3), (3, t5), (4, t6), (5, t8), (6, t10), (7, t12), (8, t14), (9, t16), (10, t18), (11, t20), (12, t22), (13, t23), (14, t24), (15, t26), (16, t28), (17, t30), (18, t32), (19, t34), (20, t36), (21, t38), (22, t40), (23, t42), (24, t44), (25, t45), (26, t46), (27, t48), (28, t49), (29, t50), (30, t52), (31, t54), (32, t55), (33, t57), (34, t58), (35, t60), (36, t62), (37, t63), (38, t64), (39, t65), (40, t67), (41, t69), (42, t71), (43, t72), (44, t74), (45, t76), (46, t77)]) w fun t78 w =>
 U (st 234 t0 t78) w fun w =>
 CW 234 t0 w fun t1000 => R t1000 w
theorem eq159 (R : Value → World → Prop) (w : World) : enterW Tryz.prog Tryz.f159 an159 [] w R = vc159 R w  := by kernel_rfl
theorem en159 {R : Value → World → Prop} {w : World} (h : vc159 R w ) : Calls Tryz.prog 159 #[] w (retK R) :=
  calls_of_enter mixed Tryz.func159 (by kernel_rfl) (by rw [eq159]; exact h)

def an160 : Ann := (.seq (.reg (opn 2 .done)) (.seq (.seq (.reg (opn 9 .done)) (.seq (.reg (opn 1 .done)) (.cond (.seq (.reg (opn 4 .done)) .leaf) .leaf))) (.seq (.reg (opn 4 .done)) (.seq (.reg (opn 5 .done)) (.seq (.reg (opn 4 (.join [33] [30, 31, 32, 33] (.split 29 (opn 4 .done) (opn 4 .done)) (opn 1 .done)))) .leaf)))))
def vc160 (R : Value → World → Prop) (w : World) (t0 t1 t2 t3 : Value) : Prop :=
 V (bx 238 t1) w fun t5 w =>
 V (ld 236 t2) w fun t10 w =>
 V (lk 236 t10 t0 true) w fun t12 w =>
 V (ex t12 0) w fun t13 w =>
 V (ex t12 1) w fun t14 w =>
 V (al 238) w fun t7 w =>
 U (st 238 t7 t13) w fun w =>
 CondW t14
 (V (ld 238 t7) w fun t16 w =>
 V (ld 238 t5) w fun t17 w =>
 V (eq .eql 238 (.tmp 16) (.tmp 17) t16 t17) w fun t18 w =>
 R t18 w)
 (V (ld 236 t2) w fun t19 w =>
 V (ld 238 t5) w fun t21 w =>
 U (mu 236 t19 t0 t21) w fun w =>
 V (ld 45 t3) w fun t22 w =>
 V (bs 45 1 #[(0, t0)]) w fun t24 w =>
 V (Builtin.append_ #[45, 45] 45 #[t22, t24]) w fun t25 w =>
 U (st 45 t3 t25) w fun w =>
 V (fa 238 t5 0) w fun t26 w =>
 V (ld 3 t26) w fun t27 w =>
 CV (.func (.func 75) #[] #[]) #[t27, (.int .i64 0), (.int .i64 200)] w fun t28 w =>
 ∀ K0 : List Value → World → Prop, (∀ t33, ∀ w, (∀ g : Env,
 R t33 w) → K0 [t33] w) →
 CondW t28
 (V (fa 238 t5 1) w fun t30 w =>
 V (ld 3 t30) w fun t31 w =>
 CV (.func (.func 75) #[] #[]) #[t31, (.int .i64 0), (.int .i64 40)] w fun t32 w =>
 K0 [t32] w)
 (K0 [(.bool false)] w))
theorem eq160 (R : Value → World → Prop) (w : World) (t0 t1 t2 t3 : Value) : enterW Tryz.prog Tryz.f160 an160 [t0, t1, t2, t3] w R = vc160 R w t0 t1 t2 t3 := by kernel_rfl
theorem en160 {R : Value → World → Prop} {w : World} {t0 t1 t2 t3 : Value} (h : vc160 R w t0 t1 t2 t3) : Calls Tryz.prog 160 #[t0, t1, t2, t3] w (retK R) :=
  calls_of_enter mixed Tryz.func160 (by kernel_rfl) (by rw [eq160]; exact h)

def an161 : Ann := (.seq (.reg (opn 3 .done)) (.seq (.seq (.reg (opn 2 .done)) (.one (.seq (.reg (opn 2 .done)) (.cond (.seq (.reg (opn 4 (.join [16] [13, 14, 15, 16] (.split 12 (opn 4 .done) (opn 4 .done)) (opn 1 .done)))) .leaf) (.seqJ [17] [18, 17, 19] (.seq (.reg (opn 2 .done)) (.cond .leaf (.reg (opn 2 .done)))) (.cond (.seq (.reg (opn 4 .done)) .leaf) (.seqJ [23] [24, 23, 25] (.seq (.reg (opn 2 .done)) (.cond .leaf (.reg (opn 2 .done)))) (.cond (.seq (.reg (opn 4 .done)) .leaf) .leaf)))))))) (.seq (.reg (opn 1 .done)) .leaf)))
def vc161 (R : Value → World → Prop) (w : World) (t0 t1 : Value) : Prop :=
 V (bx 38 t0) w fun t2 w =>
 V (bx 238 t1) w fun t3 w =>
 V (fa 38 t2 0) w fun t5 w =>
 V (ld 3 t5) w fun t6 w =>
 V (eq .eql 3 (.tmp 6) (.const (.int .i64 31)) t6 (.int .i64 31)) w fun t8 w =>
 CondW t8
 (V (fa 238 t3 0) w fun t9 w =>
 V (ld 3 t9) w fun t10 w =>
 V (eq .eql 3 (.tmp 10) (.const (.int .i64 0)) t10 (.int .i64 0)) w fun t11 w =>
 ∀ K0 : List Value → World → Prop, (∀ t16, ∀ w, (∀ g : Env,
 R t16 w) → K0 [t16] w) →
 CondW t11
 (V (fa 238 t3 1) w fun t13 w =>
 V (ld 3 t13) w fun t14 w =>
 V (bi .gtr 3 t14 (.int .i64 0)) w fun t15 w =>
 K0 [t15] w)
 (K0 [(.bool false)] w))
 (∀ K0 : List Value → World → Prop, (∀ t17, ∀ w, (∀ g : Env,
 CondW t17
 (V (fa 238 t3 0) w fun t20 w =>
 V (ld 3 t20) w fun t21 w =>
 V (eq .eql 3 (.tmp 21) (.const (.int .i64 0)) t21 (.int .i64 0)) w fun t22 w =>
 R t22 w)
 (∀ K0 : List Value → World → Prop, (∀ t23, ∀ w, (∀ g : Env,
 CondW t23
 (V (fa 238 t3 1) w fun t26 w =>
 V (ld 3 t26) w fun t27 w =>
 V (bi .gtr 3 t27 (.int .i64 0)) w fun t28 w =>
 R t28 w)
 (R (.bool true) w)) → K0 [t23] w) →
 V (eq .eql 3 (.tmp 6) (.const (.int .i64 30)) t6 (.int .i64 30)) w fun t24 w =>
 CondW t24
 (K0 [t24] w)
 (V (eq .eql 3 (.tmp 6) (.const (.int .i64 32)) t6 (.int .i64 32)) w fun t25 w =>
 K0 [t25] w))) → K0 [t17] w) →
 V (eq .eql 3 (.tmp 6) (.const (.int .i64 1)) t6 (.int .i64 1)) w fun t18 w =>
 CondW t18
 (K0 [t18] w)
 (V (eq .eql 3 (.tmp 6) (.const (.int .i64 2)) t6 (.int .i64 2)) w fun t19 w =>
 K0 [t19] w))
theorem eq161 (R : Value → World → Prop) (w : World) (t0 t1 : Value) : enterW Tryz.prog Tryz.f161 an161 [t0, t1] w R = vc161 R w t0 t1 := by kernel_rfl
theorem en161 {R : Value → World → Prop} {w : World} {t0 t1 : Value} (h : vc161 R w t0 t1) : Calls Tryz.prog 161 #[t0, t1] w (retK R) :=
  calls_of_enter mixed Tryz.func161 (by kernel_rfl) (by rw [eq161]; exact h)

def an162 : Ann := (.seq (.reg (opn 3 .done)) (.seq (.reg (opn 8 .done)) (.seq (.reg (opn 9 .done)) (.seq (.reg (opn 8 .done)) (.seq (.reg (opn 7 .done)) (.seqJ [] [37, 38, 39, 40, 41, 42, 36, 43, 44, 45, 46, 48, 49, 50, 47, 51, 52, 53, 54, 55, 56] (.one (.seq (.reg (opn 4 (.join [42] [41, 42] (.split 40 (opn 2 .done) (opn 2 .done)) (opn 1 .done)))) (.cond (.reg (opn 5 .done)) (.seq (.reg (opn 4 .done)) (.cond (.reg (opn 7 .done)) .leaf))))) (.seq (.reg (opn 2 .done)) .leaf)))))))
def vc162 (R : Value → World → Prop) (w : World) (t0 t1 t2 : Value) : Prop :=
 V (bx 38 t0) w fun t3 w =>
 V (bx 238 t1) w fun t4 w =>
 V (al 238) w fun t6 w =>
 V (ld 38 t3) w fun t13 w =>
 CV (.func (.func 49) #[] #[]) #[t13] w fun t14 w =>
 V (ex t14 0) w fun t15 w =>
 V (ex t14 1) w fun t16 w =>
 V (al 102) w fun t7 w =>
 U (st 102 t7 t15) w fun w =>
 V (ld 38 t3) w fun t18 w =>
 CV (.func (.func 17) #[] #[]) #[t18] w fun t19 w =>
 V (ex t19 0) w fun t20 w =>
 V (ex t19 1) w fun t21 w =>
 V (ex t19 2) w fun t22 w =>
 V (fa 238 t4 0) w fun t23 w =>
 V (ld 3 t23) w fun t24 w =>
 V (bi .sub 3 t21 t20) w fun t27 w =>
 V (bi .add 3 t24 t27) w fun t28 w =>
 V (fa 238 t4 0) w fun t29 w =>
 U (st 3 t29 t28) w fun w =>
 V (fa 238 t4 1) w fun t30 w =>
 V (ld 3 t30) w fun t31 w =>
 V (fa 102 t7 4) w fun t32 w =>
 V (ld 3 t32) w fun t33 w =>
 V (bi .add 3 t31 t33) w fun t34 w =>
 V (fa 238 t4 1) w fun t35 w =>
 U (st 3 t35 t34) w fun w =>
 ∀ K0 : List Value → World → Prop, (∀ w, (∀ g : Env,
 V (ld 238 t4) w fun t57 w =>
 U (st 238 t6 t57) w fun w =>
 CW 238 t6 w fun t1006 => R t1006 w) → K0 [] w) →
 V (fa 38 t3 0) w fun t37 w =>
 V (ld 3 t37) w fun t38 w =>
 V (eq .eql 3 (.tmp 38) (.const (.int .i64 30)) t38 (.int .i64 30)) w fun t39 w =>
 ∀ K1 : List Value → World → Prop, (∀ t42, ∀ w, (∀ g : Env,
 CondW t42
 (V (fa 238 t4 1) w fun t43 w =>
 V (ld 3 t43) w fun t44 w =>
 V (bi .sub 3 t44 (.int .i64 1)) w fun t45 w =>
 V (fa 238 t4 1) w fun t46 w =>
 U (st 3 t46 t45) w fun w =>
 K0 [] w)
 (V (fa 38 t3 0) w fun t48 w =>
 V (ld 3 t48) w fun t49 w =>
 V (eq .eql 3 (.tmp 49) (.const (.int .i64 33)) t49 (.int .i64 33)) w fun t50 w =>
 CondW t50
 (V (fa 238 t4 1) w fun t51 w =>
 V (ld 3 t51) w fun t52 w =>
 V (fa 38 t3 1) w fun t53 w =>
 V (ld 3 t53) w fun t54 w =>
 V (bi .sub 3 t52 t54) w fun t55 w =>
 V (fa 238 t4 1) w fun t56 w =>
 U (st 3 t56 t55) w fun w =>
 K0 [] w)
 (K0 [] w))) → K1 [t42] w) →
 CondW t39
 (K1 [t2] w)
 (K1 [(.bool false)] w)
theorem eq162 (R : Value → World → Prop) (w : World) (t0 t1 t2 : Value) : enterW Tryz.prog Tryz.f162 an162 [t0, t1, t2] w R = vc162 R w t0 t1 t2 := by kernel_rfl
theorem en162 {R : Value → World → Prop} {w : World} {t0 t1 t2 : Value} (h : vc162 R w t0 t1 t2) : Calls Tryz.prog 162 #[t0, t1, t2] w (retK R) :=
  calls_of_enter mixed Tryz.func162 (by kernel_rfl) (by rw [eq162]; exact h)

def an168 : Ann := (.seq (.reg (opn 1 .done)) (.seq (.reg (opn 2 .done)) .leaf))
def vc168 (R : Value → World → Prop) (w : World) : Prop :=
 V (bs 22 24 #[(0, (.string ⟨#[43]⟩)), (1, (.string ⟨#[45]⟩)), (2, (.string ⟨#[42]⟩)), (3, (.string ⟨#[47]⟩)), (4, (.string ⟨#[37]⟩)), (5, (.string ⟨#[47, 47]⟩)), (6, (.string ⟨#[42, 42]⟩)), (7, (.string ⟨#[124, 124]⟩)), (8, (.string ⟨#[32]⟩)), (9, (.string ⟨#[61]⟩)), (10, (.string ⟨#[92, 61]⟩)), (11, (.string ⟨#[62]⟩)), (12, (.string ⟨#[60]⟩)), (13, (.string ⟨#[62, 61]⟩)), (14, (.string ⟨#[60, 61]⟩)), (15, (.string ⟨#[61, 61]⟩)), (16, (.string ⟨#[92, 61, 61]⟩)), (17, (.string ⟨#[62, 62]⟩)), (18, (.string ⟨#[60, 60]⟩)), (19, (.string ⟨#[62, 62, 61]⟩)), (20, (.string ⟨#[60, 60, 61]⟩)), (21, (.string ⟨#[38]⟩)), (22, (.string ⟨#[124]⟩)), (23, (.string ⟨#[38, 38]⟩))]) w fun t1 w =>
 R t1 w
theorem eq168 (R : Value → World → Prop) (w : World) : enterW Tryz.prog Tryz.f168 an168 [] w R = vc168 R w  := by kernel_rfl
theorem en168 {R : Value → World → Prop} {w : World} (h : vc168 R w ) : Calls Tryz.prog 168 #[] w (retK R) :=
  calls_of_enter mixed Tryz.func168 (by kernel_rfl) (by rw [eq168]; exact h)

def an169 : Ann := (.seq (.reg (opn 1 .done)) (.seq (.reg (opn 2 .done)) .leaf))
def vc169 (R : Value → World → Prop) (w : World) : Prop :=
 V (bs 22 3 #[(0, (.string ⟨#[43]⟩)), (1, (.string ⟨#[45]⟩)), (2, (.string ⟨#[92]⟩))]) w fun t1 w =>
 R t1 w
theorem eq169 (R : Value → World → Prop) (w : World) : enterW Tryz.prog Tryz.f169 an169 [] w R = vc169 R w  := by kernel_rfl
theorem en169 {R : Value → World → Prop} {w : World} (h : vc169 R w ) : Calls Tryz.prog 169 #[] w (retK R) :=
  calls_of_enter mixed Tryz.func169 (by kernel_rfl) (by rw [eq169]; exact h)

def an170 : Ann := (.seq (.reg (opn 2 .done)) (.seq (.reg (opn 5 .done)) .leaf))
def vc170 (R : Value → World → Prop) (w : World) (t0 t1 : Value) : Prop :=
 V (bx 249 t1) w fun t3 w =>
 CV (.func (.func 232) #[] #[]) #[t0, (.func (.func 233) #[] #[t3])] w fun t7 w =>
 V (un .not t7) w fun t8 w =>
 R t8 w
theorem eq170 (R : Value → World → Prop) (w : World) (t0 t1 : Value) : enterW Tryz.prog Tryz.f170 an170 [t0, t1] w R = vc170 R w t0 t1 := by kernel_rfl
theorem en170 {R : Value → World → Prop} {w : World} {t0 t1 : Value} (h : vc170 R w t0 t1) : Calls Tryz.prog 170 #[t0, t1] w (retK R) :=
  calls_of_enter mixed Tryz.func170 (by kernel_rfl) (by rw [eq170]; exact h)

def an171 : Ann := (.seq (.reg (opn 1 .done)) (.seq (.reg (opn 3 .done)) .leaf))
def vc171 (R : Value → World → Prop) (w : World) (t0 : Value) : Prop :=
 V (eq .eql 3 (.tmp 3) (.const (.int .i64 0)) t0 (.int .i64 0)) w fun t4 w =>
 R t4 w
theorem eq171 (R : Value → World → Prop) (w : World) (t0 : Value) : enterW Tryz.prog Tryz.f171 an171 [t0] w R = vc171 R w t0 := by kernel_rfl
theorem en171 {R : Value → World → Prop} {w : World} {t0 : Value} (h : vc171 R w t0) : Calls Tryz.prog 171 #[t0] w (retK R) :=
  calls_of_enter mixed Tryz.func171 (by kernel_rfl) (by rw [eq171]; exact h)

def an172 : Ann := (.seq (.reg (opn 10 .done)) (.seq (.draw (.hold 0 (.take 1 (.take 2 (.hold 3 (.take 4 (.take 5 (.hold 6 (.take 7 (.take 8 (.take 9 (.take 10 .done)))))))))))) (.one (.loop [25] [26, 27, 28, 5, 6, 29, 30, 31, 32, 7, 34, 35, 36, 37, 38, 39, 40, 41, 42, 43, 44, 45, 46, 47, 48, 49, 33, 50, 51, 52, 53, 54, 55, 56, 57, 58, 59, 60, 61, 62, 63, 64, 65, 67, 68, 69, 70, 71, 72, 73, 74, 75, 66, 76, 77, 78, 79, 80, 81, 25] (.seq (.reg (opn 1 .done)) (.seq (.cond .leaf .leaf) (.seq (.one (.seq (.reg (opn 4 .done)) (.seq (.reg (opn 5 .done)) (.seqJ [7] [34, 35, 36, 37, 38, 39, 40, 41, 42, 43, 44, 45, 46, 47, 48, 49, 33, 50, 51, 52, 53, 54, 55, 56, 57, 58, 59, 60, 61, 62, 63, 64, 65, 7, 67, 68, 69, 70, 71, 72, 73, 74, 75, 66] (.one (.seqJ [33] [34, 35, 36, 37, 38, 39, 40, 41, 42, 43, 44, 45, 46, 47, 48, 49, 33, 50, 51, 52, 53, 54, 55, 56, 57, 58, 59, 60, 61, 62, 63, 64, 65] (.seq (.reg (opn 6 (.join [45] [40, 41, 42, 43, 44, 45] (.split 39 (opn 6 .done) (opn 6 .done)) (opn 1 (.join [49] [47, 48, 49] (.split 46 (opn 3 .done) (opn 3 .done)) (opn 1 .done)))))) (.cond .leaf (.reg (opn 6 (.join [58] [56, 57, 58] (.split 55 (opn 3 .done) (opn 3 .done)) (opn 1 (.join [65] [60, 61, 62, 63, 64, 65] (.split 59 (opn 6 .done) (opn 6 .done)) (opn 1 .done)))))))) (.cond (.reg (opn 1 .done)) (.seq (.reg (opn 6 (.join [75] [73, 74, 75] (.split 72 (opn 3 .done) (opn 3 .done)) (opn 1 .done)))) (.cond (.reg (opn 1 .done)) .leaf))))) (.seq (.reg (opn 5 .done)) (.cond .leaf .leaf)))))) (.reg (opn 2 .done)))))))))
def vc172 (R : Value → World → Prop) (w : World) (t0 t1 : Value) : Prop :=
 V (ld 121 t1) w fun t9 w =>
 NilW t9 fun t10 => V (ld 38 t10) w fun t11 w =>
 CV (.func (.func 49) #[] #[]) #[t11] w fun t12 w =>
 V (ex t12 0) w fun t13 w =>
 V (ex t12 1) w fun t14 w =>
 V (al 102) w fun t3 w =>
 U (st 102 t3 t13) w fun w =>
 Dr w fun w =>
 HV (ld 121 t1) w fun t15 =>
 NilW t15 fun t16 => PV (fa 38 t16 1) fun t17 =>
 HV (ld 121 t1) w fun t18 =>
 NilW t18 fun t19 => PV (fa 38 t19 2) fun t20 =>
 HV (ld 121 t1) w fun t21 =>
 NilW t21 fun t22 => PV (fa 38 t22 3) fun t23 =>
 PV (bd 251 #[(0, t17), (1, t20), (2, t23)]) fun t24 =>
 ∃ (I0 : List Value → World → Prop) (M0 : List Value → World → Nat), I0 [(.int .i64 0)] w ∧ ∀ g : Env, ∀ t25, ∀ w, I0 [t25] w → ∀ m0, m0 = M0 [t25] w →
 V (bi .lss 3 t25 (.int .i64 3)) w fun t26 w =>
 CondW t26
 (V (ix 251 t24 t25) w fun t28 w =>
 V (fa 102 t3 1) w fun t30 w =>
 V (ia 100 t30 t25) w fun t31 w =>
 V (ld 3 t31) w fun t32 w =>
 ∀ K0 : List Value → World → Prop, (∀ t7, ∀ w, (∀ g : Env,
 CV t0 #[t7, t28] w fun t79 w =>
 V (un .not t79) w fun t80 w =>
 CondW t80
 (R (.tuple #[]) w)
 (V (bi .add 3 t25 (.int .i64 1)) w fun t81 w =>
 I0 [t81] w ∧ M0 [t81] w < m0)) → K0 [t7] w) →
 ∀ K1 : List Value → World → Prop, (∀ t33, ∀ w, (∀ g : Env,
 CondW t33
 (K0 [(.int .i64 2)] w)
 (V (ld 121 t1) w fun t67 w =>
 NilW t67 fun t68 => V (fa 38 t68 0) w fun t69 w =>
 V (ld 3 t69) w fun t70 w =>
 V (eq .eql 3 (.tmp 70) (.const (.int .i64 22)) t70 (.int .i64 22)) w fun t71 w =>
 ∀ K1 : List Value → World → Prop, (∀ t75, ∀ w, (∀ g : Env,
 CondW t75
 (K0 [(.int .i64 8)] w)
 (K0 [t32] w)) → K1 [t75] w) →
 CondW t71
 (V (eq .eql 3 (.tmp 73) (.const (.int .i64 2)) t25 (.int .i64 2)) w fun t74 w =>
 K1 [t74] w)
 (K1 [(.bool false)] w))) → K1 [t33] w) →
 V (ld 121 t1) w fun t34 w =>
 NilW t34 fun t35 => V (fa 38 t35 0) w fun t36 w =>
 V (ld 3 t36) w fun t37 w =>
 V (eq .eql 3 (.tmp 37) (.const (.int .i64 12)) t37 (.int .i64 12)) w fun t38 w =>
 ∀ K2 : List Value → World → Prop, (∀ t45, ∀ w, (∀ g : Env,
 ∀ K2 : List Value → World → Prop, (∀ t49, ∀ w, (∀ g : Env,
 CondW t49
 (K1 [t49] w)
 (V (ld 121 t1) w fun t50 w =>
 NilW t50 fun t51 => V (fa 38 t51 0) w fun t52 w =>
 V (ld 3 t52) w fun t53 w =>
 V (eq .eql 3 (.tmp 53) (.const (.int .i64 19)) t53 (.int .i64 19)) w fun t54 w =>
 ∀ K2 : List Value → World → Prop, (∀ t58, ∀ w, (∀ g : Env,
 ∀ K2 : List Value → World → Prop, (∀ t65, ∀ w, (∀ g : Env,
 K1 [t65] w) → K2 [t65] w) →
 CondW t58
 (V (ld 121 t1) w fun t60 w =>
 NilW t60 fun t61 => V (fa 38 t61 1) w fun t62 w =>
 V (ld 3 t62) w fun t63 w =>
 V (eq .eql 3 (.tmp 63) (.const (.int .i64 1)) t63 (.int .i64 1)) w fun t64 w =>
 K2 [t64] w)
 (K2 [(.bool false)] w)) → K2 [t58] w) →
 CondW t54
 (V (eq .eql 3 (.tmp 56) (.const (.int .i64 1)) t25 (.int .i64 1)) w fun t57 w =>
 K2 [t57] w)
 (K2 [(.bool false)] w))) → K2 [t49] w) →
 CondW t45
 (V (eq .eql 3 (.tmp 47) (.const (.int .i64 0)) t25 (.int .i64 0)) w fun t48 w =>
 K2 [t48] w)
 (K2 [(.bool false)] w)) → K2 [t45] w) →
 CondW t38
 (K2 [(.bool true)] w)
 (V (ld 121 t1) w fun t40 w =>
 NilW t40 fun t41 => V (fa 38 t41 0) w fun t42 w =>
 V (ld 3 t42) w fun t43 w =>
 V (eq .eql 3 (.tmp 43) (.const (.int .i64 21)) t43 (.int .i64 21)) w fun t44 w =>
 K2 [t44] w))
 (R (.tuple #[]) w)
theorem eq172 (R : Value → World → Prop) (w : World) (t0 t1 : Value) : enterW Tryz.prog Tryz.f172 an172 [t0, t1] w R = vc172 R w t0 t1 := by kernel_rfl
theorem en172 {R : Value → World → Prop} {w : World} {t0 t1 : Value} (h : vc172 R w t0 t1) : Calls Tryz.prog 172 #[t0, t1] w (retK R) :=
  calls_of_enter mixed Tryz.func172 (by kernel_rfl) (by rw [eq172]; exact h)

def an173 : Ann := (.seq (.reg (opn 7 .done)) (.seq (.reg (opn 8 .done)) (.seq (.seq (.reg (opn 4 (.join [27] [21, 22, 23, 24, 25, 26, 27] (.split 20 (opn 7 .done) (opn 7 .done)) (opn 1 (.join [34] [29, 30, 31, 32, 33, 34] (.split 28 (opn 6 .done) (opn 6 .done)) .done))))) (.cond .leaf .leaf)) (.seq (.reg (opn 4 (.join [42] [39, 40, 41, 42] (.split 38 (opn 4 .done) (opn 4 .done)) (opn 1 (.join [47] [44, 45, 46, 47] (.split 43 (opn 4 .done) (opn 4 .done)) (opn 1 (.join [56] [49, 50, 51, 52, 53, 54, 55, 56] (.split 48 (opn 8 .done) (opn 8 .done)) .done))))))) (.cond (.reg (opn 4 .done)) .leaf)))))
def vc173 (R : Value → World → Prop) (w : World) (t0 t1 t2 : Value) : Prop :=
 V (fa 28 t1 5) w fun t7 w =>
 V (ld 26 t7) w fun t8 w =>
 V (ld 3 t2) w fun t9 w =>
 V (ia 26 t8 t9) w fun t10 w =>
 V (ld 38 t10) w fun t11 w =>
 V (al 38) w fun t4 w =>
 U (st 38 t4 t11) w fun w =>
 V (ld 38 t4) w fun t13 w =>
 CV (.func (.func 49) #[] #[]) #[t13] w fun t14 w =>
 V (ex t14 0) w fun t15 w =>
 V (ex t14 1) w fun t16 w =>
 V (al 102) w fun t5 w =>
 U (st 102 t5 t15) w fun w =>
 V (fa 102 t5 5) w fun t17 w =>
 V (ld 4 t17) w fun t18 w =>
 V (un .not t18) w fun t19 w =>
 ∀ K0 : List Value → World → Prop, (∀ t27, ∀ w, (∀ g : Env,
 ∀ K0 : List Value → World → Prop, (∀ t34, ∀ w, (∀ g : Env,
 CondW t34
 (R (.tuple #[]) w)
 (V (fa 38 t4 0) w fun t35 w =>
 V (ld 3 t35) w fun t36 w =>
 V (eq .eql 3 (.tmp 36) (.const (.int .i64 23)) t36 (.int .i64 23)) w fun t37 w =>
 ∀ K0 : List Value → World → Prop, (∀ t42, ∀ w, (∀ g : Env,
 ∀ K0 : List Value → World → Prop, (∀ t47, ∀ w, (∀ g : Env,
 ∀ K0 : List Value → World → Prop, (∀ t56, ∀ w, (∀ g : Env,
 CondW t56
 (V (fa 38 t4 1) w fun t58 w =>
 V (ld 3 t58) w fun t59 w =>
 CV t0 #[t59, (.bool true)] w fun t60 w =>
 R (.tuple #[]) w)
 (R (.tuple #[]) w)) → K0 [t56] w) →
 CondW t47
 (V (fa 38 t4 1) w fun t49 w =>
 V (ld 3 t49) w fun t50 w =>
 V (fa 28 t1 5) w fun t51 w =>
 V (ld 26 t51) w fun t52 w =>
 V (Builtin.len_ #[26] 3 #[t52]) w fun t53 w =>
 V (bi .sub 3 t53 (.int .i64 1)) w fun t54 w =>
 CV (.func (.func 75) #[] #[]) #[t50, (.int .i64 0), t54] w fun t55 w =>
 K0 [t55] w)
 (K0 [(.bool false)] w)) → K0 [t47] w) →
 CondW t42
 (K0 [(.bool true)] w)
 (V (fa 38 t4 0) w fun t44 w =>
 V (ld 3 t44) w fun t45 w =>
 V (eq .eql 3 (.tmp 45) (.const (.int .i64 30)) t45 (.int .i64 30)) w fun t46 w =>
 K0 [t46] w)) → K0 [t42] w) →
 CondW t37
 (K0 [(.bool true)] w)
 (V (fa 38 t4 0) w fun t39 w =>
 V (ld 3 t39) w fun t40 w =>
 V (eq .eql 3 (.tmp 40) (.const (.int .i64 24)) t40 (.int .i64 24)) w fun t41 w =>
 K0 [t41] w))) → K0 [t34] w) →
 CondW t27
 (V (ld 3 t2) w fun t30 w =>
 V (bi .add 3 t30 (.int .i64 1)) w fun t31 w =>
 CV t0 #[t31, (.bool false)] w fun t32 w =>
 V (un .not t32) w fun t33 w =>
 K0 [t33] w)
 (K0 [(.bool false)] w)) → K0 [t27] w) →
 CondW t19
 (V (ld 3 t2) w fun t21 w =>
 V (bi .add 3 t21 (.int .i64 1)) w fun t22 w =>
 V (fa 28 t1 5) w fun t23 w =>
 V (ld 26 t23) w fun t24 w =>
 V (Builtin.len_ #[26] 3 #[t24]) w fun t25 w =>
 V (bi .lss 3 t22 t25) w fun t26 w =>
 K0 [t26] w)
 (K0 [(.bool false)] w)
theorem eq173 (R : Value → World → Prop) (w : World) (t0 t1 t2 : Value) : enterW Tryz.prog Tryz.f173 an173 [t0, t1, t2] w R = vc173 R w t0 t1 t2 := by kernel_rfl
theorem en173 {R : Value → World → Prop} {w : World} {t0 t1 t2 : Value} (h : vc173 R w t0 t1 t2) : Calls Tryz.prog 173 #[t0, t1, t2] w (retK R) :=
  calls_of_enter mixed Tryz.func173 (by kernel_rfl) (by rw [eq173]; exact h)

def an174 : Ann := (.seq (.reg (opn 1 .done)) (.seq (.seq (.reg (opn 3 .done)) (.one (.loop [8] [9, 10, 5, 11, 12, 13, 14, 15, 16, 17, 4, 18, 8] (.seq (.reg (opn 1 .done)) (.seq (.cond .leaf .leaf) (.seq (.one (.seq (.reg (opn 2 .done)) (.seq (.reg (opn 6 .done)) (.cond (.seq (.reg (opn 2 .done)) .leaf) .leaf)))) (.reg (opn 2 .done)))))))) (.seq (.reg (opn 1 .done)) .leaf)))
def vc174 (R : Value → World → Prop) (w : World) (t0 t1 : Value) : Prop :=
 V (Builtin.len_ #[45] 3 #[t0]) w fun t7 w =>
 ∃ (I0 : List Value → World → Prop) (M0 : List Value → World → Nat), I0 [(.int .i64 0)] w ∧ ∀ g : Env, ∀ t8, ∀ w, I0 [t8] w → ∀ m0, m0 = M0 [t8] w →
 V (bi .lss 3 t8 t7) w fun t9 w =>
 CondW t9
 (V (ia 45 t0 t8) w fun t14 w =>
 V (ld 3 t14) w fun t15 w =>
 V (eq .eql 3 (.tmp 11) (.tmp 15) t1 t15) w fun t16 w =>
 CondW t16
 (R t8 w)
 (V (bi .add 3 t8 (.int .i64 1)) w fun t18 w =>
 I0 [t18] w ∧ M0 [t18] w < m0))
 (R (.int .i64 (-1)) w)
theorem eq174 (R : Value → World → Prop) (w : World) (t0 t1 : Value) : enterW Tryz.prog Tryz.f174 an174 [t0, t1] w R = vc174 R w t0 t1 := by kernel_rfl
theorem en174 {R : Value → World → Prop} {w : World} {t0 t1 : Value} (h : vc174 R w t0 t1) : Calls Tryz.prog 174 #[t0, t1] w (retK R) :=
  calls_of_enter mixed Tryz.func174 (by kernel_rfl) (by rw [eq174]; exact h)

def an175 : Ann := (.seq (.reg (opn 3 .done)) (.one (.loop [9] [10, 11, 12, 5, 13, 14, 6, 15, 16, 17, 18, 19, 20, 21, 24, 25, 26, 27, 28, 29, 30, 31, 32, 33, 34, 35, 36, 22, 23, 37, 38, 39, 40, 41, 42, 43, 44, 45, 46, 47, 48, 9] (.seq (.reg (opn 1 .done)) (.seq (.cond .leaf .leaf) (.seq (.one (.seq (.reg (opn 3 .done)) (.seq (.reg (opn 3 .done)) (.seqJ [6] [15, 16, 17, 18, 19, 6] (.seq (.reg (opn 2 .done)) (.cond (.reg (opn 4 .done)) .leaf)) (.seq (.one (.loop [6] [20, 21, 24, 25, 26, 27, 28, 29, 30, 31, 32, 33, 34, 35, 36, 22, 23, 6] (.seq (.seq (.reg (opn 2 .done)) (.cond .leaf .leaf)) (.seq (.one (.reg (opn 14 .done))) (.reg (opn 3 .done)))))) (.reg (opn 12 .done))))))) (.reg (opn 2 .done))))))))
def vc175 (R : Value → World → Prop) (w : World) (t0 t1 : Value) : Prop :=
 V (Builtin.len_ #[45] 3 #[t1]) w fun t8 w =>
 ∃ (I0 : List Value → World → Prop) (M0 : List Value → World → Nat), I0 [(.int .i64 0)] w ∧ ∀ g : Env, ∀ t9, ∀ w, I0 [t9] w → ∀ m0, m0 = M0 [t9] w →
 V (bi .lss 3 t9 t8) w fun t10 w =>
 CondW t10
 (V (ia 45 t1 t9) w fun t11 w =>
 V (ld 3 t11) w fun t12 w =>
 V (bi .mul 3 (.int .i64 2) t12) w fun t14 w =>
 ∀ K0 : List Value → World → Prop, (∀ t6, ∀ w, (∀ g : Env,
 ∃ (I1 : List Value → World → Prop) (M1 : List Value → World → Nat), I1 [t6] w ∧ ∀ g : Env, ∀ t6a, ∀ w, I1 [t6a] w → ∀ m1, m1 = M1 [t6a] w →
 V (bi .geq 3 t6a (.int .i64 128)) w fun t21 w =>
 CondW t21
 (NilW t0 fun t26 => V (fa 156 t26 0) w fun t27 w =>
 V (ld 55 t27) w fun t28 w =>
 V (bi .and 3 t6a (.int .i64 127)) w fun t30 w =>
 V (bi .or 3 t30 (.int .i64 128)) w fun t31 w =>
 V (cv 3 5 t31) w fun t32 w =>
 V (bs 55 1 #[(0, t32)]) w fun t33 w =>
 V (Builtin.append_ #[55, 55] 55 #[t28, t33]) w fun t34 w =>
 NilW t0 fun t35 => V (fa 156 t35 0) w fun t36 w =>
 U (st 55 t36 t34) w fun w =>
 V (bi .shr 3 t6a (.int .u64 7)) w fun t23 w =>
 I1 [t23] w ∧ M1 [t23] w < m1)
 (NilW t0 fun t39 => V (fa 156 t39 0) w fun t40 w =>
 V (ld 55 t40) w fun t41 w =>
 V (cv 3 5 t6a) w fun t43 w =>
 V (bs 55 1 #[(0, t43)]) w fun t44 w =>
 V (Builtin.append_ #[55, 55] 55 #[t41, t44]) w fun t45 w =>
 NilW t0 fun t46 => V (fa 156 t46 0) w fun t47 w =>
 U (st 55 t47 t45) w fun w =>
 V (bi .add 3 t9 (.int .i64 1)) w fun t48 w =>
 I0 [t48] w ∧ M0 [t48] w < m0)) → K0 [t6] w) →
 V (bi .lss 3 t12 (.int .i64 0)) w fun t16 w =>
 CondW t16
 (V (bi .mul 3 (.int .i64 (-2)) t12) w fun t18 w =>
 V (bi .sub 3 t18 (.int .i64 1)) w fun t19 w =>
 K0 [t19] w)
 (K0 [t14] w))
 (R (.tuple #[]) w)
theorem eq175 (R : Value → World → Prop) (w : World) (t0 t1 : Value) : enterW Tryz.prog Tryz.f175 an175 [t0, t1] w R = vc175 R w t0 t1 := by kernel_rfl
theorem en175 {R : Value → World → Prop} {w : World} {t0 t1 : Value} (h : vc175 R w t0 t1) : Calls Tryz.prog 175 #[t0, t1] w (retK R) :=
  calls_of_enter mixed Tryz.func175 (by kernel_rfl) (by rw [eq175]; exact h)

def an184 : Ann := (.seq (.reg (opn 5 .done)) (.cond (.reg (opn 8 .done)) (.seq (.reg (opn 6 .done)) (.cond .leaf .leaf))))
def vc184 (R : Value → World → Prop) (w : World) (t0 : Value) : Prop :=
 NilW t0 fun t3 => V (fa 199 t3 0) w fun t4 w =>
 V (ld 197 t4) w fun t5 w =>
 V (eq .eql 197 (.tmp 5) (.const (.pointer none)) t5 (.pointer none)) w fun t6 w =>
 CondW t6
 (V (cv 197 286 t0) w fun t9 w =>
 CV (.func (.func 234) #[] #[]) #[t9] w fun t10 w =>
 V (cv 286 197 t10) w fun t11 w =>
 NilW t0 fun t12 => V (fa 199 t12 0) w fun t13 w =>
 U (st 197 t13 t11) w fun w =>
 R (.tuple #[]) w)
 (NilW t0 fun t15 => V (fa 199 t15 0) w fun t16 w =>
 V (ld 197 t16) w fun t17 w =>
 V (eq .neq 197 (.tmp 17) (.tmp 18) t17 t0) w fun t19 w =>
 CondW t19
 (False)
 (R (.tuple #[]) w))
theorem eq184 (R : Value → World → Prop) (w : World) (t0 : Value) : enterW Tryz.prog Tryz.f184 an184 [t0] w R = vc184 R w t0 := by kernel_rfl
theorem en184 {R : Value → World → Prop} {w : World} {t0 : Value} (h : vc184 R w t0) : Calls Tryz.prog 184 #[t0] w (retK R) :=
  calls_of_enter mixed Tryz.func184 (by kernel_rfl) (by rw [eq184]; exact h)

def an185 : Ann := (.seq (.reg (opn 1 .done)) (.seq (.seq (.reg (opn 2 .done)) (.one (.seq (.reg (opn 2 .done)) (.cond (.seq (.reg (opn 1 .done)) .leaf) (.seq (.reg (opn 2 .done)) (.cond (.seq (.reg (opn 4 .done)) .leaf) .leaf)))))) (.seq (.reg (opn 1 .done)) (.seqJ [5] [20, 21, 22, 23, 24, 25, 26, 27, 28, 29, 30, 31, 32, 33, 34, 35, 36, 37, 38, 5] (.seq (.reg (opn 3 .done)) (.cond (.seqJ [] [23, 24, 25, 26, 27, 28, 29, 30] (.seq (.reg (opn 7 .done)) (.cond (.reg (opn 2 .done)) .leaf)) (.reg (opn 9 .done))) .leaf)) (.seq (.seq (.reg (opn 3 .done)) (.one (.loop [5, 41] [42, 43, 44, 7, 45, 46, 47, 48, 49, 50, 51, 52, 53, 54, 5, 55, 41] (.seq (.reg (opn 1 .done)) (.seq (.cond .leaf .leaf) (.seq (.one (.seq (.reg (opn 3 .done)) (.seqJ [] [45, 46, 47, 48, 49, 50] (.seq (.reg (opn 5 .done)) (.cond (.reg (opn 2 .done)) .leaf)) (.reg (opn 5 .done))))) (.reg (opn 2 .done)))))))) (.seq (.reg (opn 1 .done)) (.seq (.reg (opn 2 .done)) (.seq (.reg (opn 4 .done)) (.seq (.seq (.reg (opn 4 .done)) (.one (.loop [65] [66, 67, 68, 10, 69, 70, 71, 72, 73, 65] (.seq (.reg (opn 1 .done)) (.seq (.cond .leaf .leaf) (.seq (.one (.seq (.reg (opn 3 .done)) (.seq (.reg (opn 2 .done)) (.reg (opn 2 .done))))) (.reg (opn 2 .done)))))))) (.seq (.reg (opn 2 .done)) .leaf))))))))))
def vc185 (R : Value → World → Prop) (w : World) (t0 t1 : Value) : Prop :=
 V (Builtin.len_ #[22] 3 #[t0]) w fun t12 w =>
 V (eq .eql 3 (.tmp 12) (.const (.int .i64 0)) t12 (.int .i64 0)) w fun t14 w =>
 CondW t14
 (R (.string ⟨#[]⟩) w)
 (V (eq .eql 3 (.tmp 12) (.const (.int .i64 1)) t12 (.int .i64 1)) w fun t16 w =>
 CondW t16
 (V (ia 22 t0 (.int .i64 0)) w fun t18 w =>
 V (ld 9 t18) w fun t19 w =>
 R t19 w)
 (∀ K0 : List Value → World → Prop, (∀ t5, ∀ w, (∀ g : Env,
 V (Builtin.len_ #[22] 3 #[t0]) w fun t40 w =>
 ∃ (I0 : List Value → World → Prop) (M0 : List Value → World → Nat), I0 [t5, (.int .i64 0)] w ∧ ∀ g : Env, ∀ t5a, ∀ t41, ∀ w, I0 [t5a, t41] w → ∀ m0, m0 = M0 [t5a, t41] w →
 V (bi .lss 3 t41 t40) w fun t42 w =>
 CondW t42
 (V (ia 22 t0 t41) w fun t43 w =>
 V (ld 9 t43) w fun t44 w =>
 ∀ K0 : List Value → World → Prop, (∀ w, (∀ g : Env,
 V (Builtin.len_ #[9] 3 #[t44]) w fun t53 w =>
 V (bi .add 3 t5a t53) w fun t54 w =>
 V (bi .add 3 t41 (.int .i64 1)) w fun t55 w =>
 I0 [t54, t55] w ∧ M0 [t54, t55] w < m0) → K0 [] w) →
 V (Builtin.len_ #[9] 3 #[t44]) w fun t46 w =>
 V (bi .sub 3 (.int .i64 9223372036854775807) t5a) w fun t48 w =>
 V (bi .gtr 3 t46 t48) w fun t49 w =>
 CondW t49
 (V (mi 9 (.string ⟨#[115, 116, 114, 105, 110, 103, 115, 58, 32, 74, 111, 105, 110, 32, 111, 117, 116, 112, 117, 116, 32, 108, 101, 110, 103, 116, 104, 32, 111, 118, 101, 114, 102, 108, 111, 119]⟩)) w fun t50 w =>
 False)
 (K0 [] w))
 (V (al 199) w fun t8 w =>
 CV (.func (.func 235) #[] #[]) #[t8, t5a] w fun t57 w =>
 V (ia 22 t0 (.int .i64 0)) w fun t59 w =>
 V (ld 9 t59) w fun t60 w =>
 CV (.func (.func 125) #[] #[]) #[t8, t60] w fun t61 w =>
 V (sl 22 t0 (some (.int .i64 1)) none none) w fun t63 w =>
 V (Builtin.len_ #[22] 3 #[t63]) w fun t64 w =>
 ∃ (I1 : List Value → World → Prop) (M1 : List Value → World → Nat), I1 [(.int .i64 0)] w ∧ ∀ g : Env, ∀ t65, ∀ w, I1 [t65] w → ∀ m1, m1 = M1 [t65] w →
 V (bi .lss 3 t65 t64) w fun t66 w =>
 CondW t66
 (V (ia 22 t63 t65) w fun t67 w =>
 V (ld 9 t67) w fun t68 w =>
 CV (.func (.func 125) #[] #[]) #[t8, t1] w fun t70 w =>
 CV (.func (.func 125) #[] #[]) #[t8, t68] w fun t72 w =>
 V (bi .add 3 t65 (.int .i64 1)) w fun t73 w =>
 I1 [t73] w ∧ M1 [t73] w < m1)
 (CV (.func (.func 132) #[] #[]) #[t8] w fun t74 w =>
 R t74 w))) → K0 [t5] w) →
 V (Builtin.len_ #[9] 3 #[t1]) w fun t21 w =>
 V (bi .gtr 3 t21 (.int .i64 0)) w fun t22 w =>
 CondW t22
 (∀ K1 : List Value → World → Prop, (∀ w, (∀ g : Env,
 V (Builtin.len_ #[9] 3 #[t1]) w fun t33 w =>
 V (Builtin.len_ #[22] 3 #[t0]) w fun t35 w =>
 V (bi .sub 3 t35 (.int .i64 1)) w fun t36 w =>
 V (bi .mul 3 t33 t36) w fun t37 w =>
 V (bi .add 3 (.int .i64 0) t37) w fun t38 w =>
 K0 [t38] w) → K1 [] w) →
 V (Builtin.len_ #[9] 3 #[t1]) w fun t24 w =>
 V (Builtin.len_ #[22] 3 #[t0]) w fun t26 w =>
 V (bi .sub 3 t26 (.int .i64 1)) w fun t27 w =>
 V (bi .quo 3 (.int .i64 9223372036854775807) t27) w fun t28 w =>
 V (bi .geq 3 t24 t28) w fun t29 w =>
 CondW t29
 (V (mi 9 (.string ⟨#[115, 116, 114, 105, 110, 103, 115, 58, 32, 74, 111, 105, 110, 32, 111, 117, 116, 112, 117, 116, 32, 108, 101, 110, 103, 116, 104, 32, 111, 118, 101, 114, 102, 108, 111, 119]⟩)) w fun t30 w =>
 False)
 (K1 [] w))
 (K0 [(.int .i64 0)] w)))
theorem eq185 (R : Value → World → Prop) (w : World) (t0 t1 : Value) : enterW Tryz.prog Tryz.f185 an185 [t0, t1] w R = vc185 R w t0 t1 := by kernel_rfl
theorem en185 {R : Value → World → Prop} {w : World} {t0 t1 : Value} (h : vc185 R w t0 t1) : Calls Tryz.prog 185 #[t0, t1] w (retK R) :=
  calls_of_enter mixed Tryz.func185 (by kernel_rfl) (by rw [eq185]; exact h)

def an186 : Ann := (.seq (.reg (opn 1 .done)) (.seq (.reg (opn 5 .done)) .leaf))
def vc186 (R : Value → World → Prop) (w : World) (t0 t1 t2 : Value) : Prop :=
 CV (.func (.func 236) #[] #[]) #[t0, t1, t2, (.int .i64 (-1))] w fun t10 w =>
 R t10 w
theorem eq186 (R : Value → World → Prop) (w : World) (t0 t1 t2 : Value) : enterW Tryz.prog Tryz.f186 an186 [t0, t1, t2] w R = vc186 R w t0 t1 t2 := by kernel_rfl
theorem en186 {R : Value → World → Prop} {w : World} {t0 t1 t2 : Value} (h : vc186 R w t0 t1 t2) : Calls Tryz.prog 186 #[t0, t1, t2] w (retK R) :=
  calls_of_enter mixed Tryz.func186 (by kernel_rfl) (by rw [eq186]; exact h)

def an191 : Ann := (.seq (.reg (opn 3 .done)) (.seq (.seq (.reg (opn 4 .done)) (.seq (.reg (opn 2 .done)) (.cond (.seq (.draw (.take 0 (.take 1 (.take 2 (.take 3 (.take 4 (.take 5 (.take 6 (.take 7 (.take 8 (.take 9 (.take 10 (.take 11 .done))))))))))))) .leaf) .leaf))) (.seq (.reg (opn 4 .done)) .leaf)))
def vc191 (R : Value → World → Prop) (w : World) (t0 t1 : Value) : Prop :=
 CV (.func (.func 238) #[] #[]) #[t0, t1] w fun t10 w =>
 V (bi .geq 3 t10 (.int .i64 0)) w fun t12 w =>
 CondW t12
 (Dr w fun w =>
 PV (sl 9 t0 none (some t10) none) fun t15 =>
 PV (Builtin.len_ #[9] 3 #[t1]) fun t19 =>
 PV (bi .add 3 t10 t19) fun t20 =>
 PV (sl 9 t0 (some t20) none none) fun t21 =>
 R (.tuple #[t15, t21, (.bool true)]) w)
 (R (.tuple #[t0, (.string ⟨#[]⟩), (.bool false)]) w)
theorem eq191 (R : Value → World → Prop) (w : World) (t0 t1 : Value) : enterW Tryz.prog Tryz.f191 an191 [t0, t1] w R = vc191 R w t0 t1 := by kernel_rfl
theorem en191 {R : Value → World → Prop} {w : World} {t0 t1 : Value} (h : vc191 R w t0 t1) : Calls Tryz.prog 191 #[t0, t1] w (retK R) :=
  calls_of_enter mixed Tryz.func191 (by kernel_rfl) (by rw [eq191]; exact h)

def an206 : Ann := (.seq (.reg (opn 1 .done)) (.seq (.reg (opn 5 .done)) .leaf))
def vc206 (R : Value → World → Prop) (w : World) (t0 t1 : Value) : Prop :=
 CV (.func (.func 246) #[] #[]) #[t0, t1] w fun t7 w =>
 V (bi .geq 3 t7 (.int .i64 0)) w fun t8 w =>
 R t8 w
theorem eq206 (R : Value → World → Prop) (w : World) (t0 t1 : Value) : enterW Tryz.prog Tryz.f206 an206 [t0, t1] w R = vc206 R w t0 t1 := by kernel_rfl
theorem en206 {R : Value → World → Prop} {w : World} {t0 t1 : Value} (h : vc206 R w t0 t1) : Calls Tryz.prog 206 #[t0, t1] w (retK R) :=
  calls_of_enter mixed Tryz.func206 (by kernel_rfl) (by rw [eq206]; exact h)

def an207 : Ann := (.seq (.reg (opn 1 .done)) (.seq (.reg (opn 5 .done)) .leaf))
def vc207 (R : Value → World → Prop) (w : World) (t0 t1 : Value) : Prop :=
 V (ld 224 t1) w fun t4 w =>
 CV t4 #[t0] w fun t6 w =>
 V (un .not t6) w fun t7 w =>
 R t7 w
theorem eq207 (R : Value → World → Prop) (w : World) (t0 t1 : Value) : enterW Tryz.prog Tryz.f207 an207 [t0, t1] w R = vc207 R w t0 t1 := by kernel_rfl
theorem en207 {R : Value → World → Prop} {w : World} {t0 t1 : Value} (h : vc207 R w t0 t1) : Calls Tryz.prog 207 #[t0, t1] w (retK R) :=
  calls_of_enter mixed Tryz.func207 (by kernel_rfl) (by rw [eq207]; exact h)

def an208 : Ann := (.seq (.reg (opn 1 .done)) (.seq (.reg (opn 5 .done)) .leaf))
def vc208 (R : Value → World → Prop) (w : World) (t0 t1 : Value) : Prop :=
 CV (.func (.func 247) #[] #[]) #[t0, t1] w fun t7 w =>
 V (bi .geq 3 t7 (.int .i64 0)) w fun t8 w =>
 R t8 w
theorem eq208 (R : Value → World → Prop) (w : World) (t0 t1 : Value) : enterW Tryz.prog Tryz.f208 an208 [t0, t1] w R = vc208 R w t0 t1 := by kernel_rfl
theorem en208 {R : Value → World → Prop} {w : World} {t0 t1 : Value} (h : vc208 R w t0 t1) : Calls Tryz.prog 208 #[t0, t1] w (retK R) :=
  calls_of_enter mixed Tryz.func208 (by kernel_rfl) (by rw [eq208]; exact h)

def an209 : Ann := (.seq (.reg (opn 2 .done)) (.seq (.reg (opn 5 .done)) .leaf))
def vc209 (R : Value → World → Prop) (w : World) (t0 t1 : Value) : Prop :=
 V (bx 95 t0) w fun t2 w =>
 V (ld 223 t1) w fun t4 w =>
 V (ld 95 t2) w fun t5 w =>
 CV t4 #[t5] w fun t6 w =>
 V (un .not t6) w fun t7 w =>
 R t7 w
theorem eq209 (R : Value → World → Prop) (w : World) (t0 t1 : Value) : enterW Tryz.prog Tryz.f209 an209 [t0, t1] w R = vc209 R w t0 t1 := by kernel_rfl
theorem en209 {R : Value → World → Prop} {w : World} {t0 t1 : Value} (h : vc209 R w t0 t1) : Calls Tryz.prog 209 #[t0, t1] w (retK R) :=
  calls_of_enter mixed Tryz.func209 (by kernel_rfl) (by rw [eq209]; exact h)

def an210 : Ann := (.seq (.reg (opn 1 .done)) (.seq (.reg (opn 5 .done)) .leaf))
def vc210 (R : Value → World → Prop) (w : World) (t0 t1 : Value) : Prop :=
 CV (.func (.func 248) #[] #[]) #[t0, t1] w fun t7 w =>
 V (bi .geq 3 t7 (.int .i64 0)) w fun t8 w =>
 R t8 w
theorem eq210 (R : Value → World → Prop) (w : World) (t0 t1 : Value) : enterW Tryz.prog Tryz.f210 an210 [t0, t1] w R = vc210 R w t0 t1 := by kernel_rfl
theorem en210 {R : Value → World → Prop} {w : World} {t0 t1 : Value} (h : vc210 R w t0 t1) : Calls Tryz.prog 210 #[t0, t1] w (retK R) :=
  calls_of_enter mixed Tryz.func210 (by kernel_rfl) (by rw [eq210]; exact h)

def an211 : Ann := (.seq (.reg (opn 1 .done)) (.seq (.reg (opn 5 .done)) .leaf))
def vc211 (R : Value → World → Prop) (w : World) (t0 t1 : Value) : Prop :=
 V (ld 215 t1) w fun t4 w =>
 CV t4 #[t0] w fun t6 w =>
 V (un .not t6) w fun t7 w =>
 R t7 w
theorem eq211 (R : Value → World → Prop) (w : World) (t0 t1 : Value) : enterW Tryz.prog Tryz.f211 an211 [t0, t1] w R = vc211 R w t0 t1 := by kernel_rfl
theorem en211 {R : Value → World → Prop} {w : World} {t0 t1 : Value} (h : vc211 R w t0 t1) : Calls Tryz.prog 211 #[t0, t1] w (retK R) :=
  calls_of_enter mixed Tryz.func211 (by kernel_rfl) (by rw [eq211]; exact h)

def an212 : Ann := (.seq (.reg (opn 1 .done)) (.seq (.reg (opn 5 .done)) .leaf))
def vc212 (R : Value → World → Prop) (w : World) (t0 t1 : Value) : Prop :=
 CV (.func (.func 249) #[] #[]) #[t0, t1] w fun t7 w =>
 V (bi .geq 3 t7 (.int .i64 0)) w fun t8 w =>
 R t8 w
theorem eq212 (R : Value → World → Prop) (w : World) (t0 t1 : Value) : enterW Tryz.prog Tryz.f212 an212 [t0, t1] w R = vc212 R w t0 t1 := by kernel_rfl
theorem en212 {R : Value → World → Prop} {w : World} {t0 t1 : Value} (h : vc212 R w t0 t1) : Calls Tryz.prog 212 #[t0, t1] w (retK R) :=
  calls_of_enter mixed Tryz.func212 (by kernel_rfl) (by rw [eq212]; exact h)

def an213 : Ann := (.seq (.reg (opn 1 .done)) (.seq (.reg (opn 5 .done)) .leaf))
def vc213 (R : Value → World → Prop) (w : World) (t0 t1 : Value) : Prop :=
 V (ld 227 t1) w fun t4 w =>
 CV t4 #[t0] w fun t6 w =>
 V (un .not t6) w fun t7 w =>
 R t7 w
theorem eq213 (R : Value → World → Prop) (w : World) (t0 t1 : Value) : enterW Tryz.prog Tryz.f213 an213 [t0, t1] w R = vc213 R w t0 t1 := by kernel_rfl
theorem en213 {R : Value → World → Prop} {w : World} {t0 t1 : Value} (h : vc213 R w t0 t1) : Calls Tryz.prog 213 #[t0, t1] w (retK R) :=
  calls_of_enter mixed Tryz.func213 (by kernel_rfl) (by rw [eq213]; exact h)

def an214 : Ann := (.seq (.reg (opn 1 .done)) (.seq (.reg (opn 5 .done)) .leaf))
def vc214 (R : Value → World → Prop) (w : World) (t0 t1 : Value) : Prop :=
 CV (.func (.func 77) #[] #[]) #[t0, t1] w fun t7 w =>
 V (bi .geq 3 t7 (.int .i64 0)) w fun t8 w =>
 R t8 w
theorem eq214 (R : Value → World → Prop) (w : World) (t0 t1 : Value) : enterW Tryz.prog Tryz.f214 an214 [t0, t1] w R = vc214 R w t0 t1 := by kernel_rfl
theorem en214 {R : Value → World → Prop} {w : World} {t0 t1 : Value} (h : vc214 R w t0 t1) : Calls Tryz.prog 214 #[t0, t1] w (retK R) :=
  calls_of_enter mixed Tryz.func214 (by kernel_rfl) (by rw [eq214]; exact h)

def an215 : Ann := (.seq (.reg (opn 2 .done)) (.seq (.reg (opn 5 .done)) .leaf))
def vc215 (R : Value → World → Prop) (w : World) (t0 t1 : Value) : Prop :=
 V (bx 54 t0) w fun t2 w =>
 V (ld 144 t1) w fun t4 w =>
 V (ld 54 t2) w fun t5 w =>
 CV t4 #[t5] w fun t6 w =>
 V (un .not t6) w fun t7 w =>
 R t7 w
theorem eq215 (R : Value → World → Prop) (w : World) (t0 t1 : Value) : enterW Tryz.prog Tryz.f215 an215 [t0, t1] w R = vc215 R w t0 t1 := by kernel_rfl
theorem en215 {R : Value → World → Prop} {w : World} {t0 t1 : Value} (h : vc215 R w t0 t1) : Calls Tryz.prog 215 #[t0, t1] w (retK R) :=
  calls_of_enter mixed Tryz.func215 (by kernel_rfl) (by rw [eq215]; exact h)

def an216 : Ann := (.seq (.reg (opn 2 .done)) (.seq (.reg (opn 5 .done)) .leaf))
def vc216 (R : Value → World → Prop) (w : World) (t0 t1 : Value) : Prop :=
 V (bx 280 t1) w fun t3 w =>
 CV (.func (.func 250) #[] #[]) #[t0, (.func (.func 251) #[] #[t3])] w fun t7 w =>
 V (un .not t7) w fun t8 w =>
 R t8 w
theorem eq216 (R : Value → World → Prop) (w : World) (t0 t1 : Value) : enterW Tryz.prog Tryz.f216 an216 [t0, t1] w R = vc216 R w t0 t1 := by kernel_rfl
theorem en216 {R : Value → World → Prop} {w : World} {t0 t1 : Value} (h : vc216 R w t0 t1) : Calls Tryz.prog 216 #[t0, t1] w (retK R) :=
  calls_of_enter mixed Tryz.func216 (by kernel_rfl) (by rw [eq216]; exact h)

def an217 : Ann := (.seq (.reg (opn 1 .done)) (.seq (.reg (opn 4 .done)) .leaf))
def vc217 (R : Value → World → Prop) (w : World) (t0 : Value) : Prop :=
 V (cv 5 3 t0) w fun t4 w =>
 CV (.func (.func 75) #[] #[]) #[t4, (.int .i64 32), (.int .i64 126)] w fun t5 w =>
 R t5 w
theorem eq217 (R : Value → World → Prop) (w : World) (t0 : Value) : enterW Tryz.prog Tryz.f217 an217 [t0] w R = vc217 R w t0 := by kernel_rfl
theorem en217 {R : Value → World → Prop} {w : World} {t0 : Value} (h : vc217 R w t0) : Calls Tryz.prog 217 #[t0] w (retK R) :=
  calls_of_enter mixed Tryz.func217 (by kernel_rfl) (by rw [eq217]; exact h)

def an218 : Ann := (.seq (.reg (opn 1 .done)) (.seq (.reg (opn 5 .done)) .leaf))
def vc218 (R : Value → World → Prop) (w : World) (t0 t1 : Value) : Prop :=
 CV (.func (.func 252) #[] #[]) #[t0, t1] w fun t7 w =>
 V (bi .geq 3 t7 (.int .i64 0)) w fun t8 w =>
 R t8 w
theorem eq218 (R : Value → World → Prop) (w : World) (t0 t1 : Value) : enterW Tryz.prog Tryz.f218 an218 [t0, t1] w R = vc218 R w t0 t1 := by kernel_rfl
theorem en218 {R : Value → World → Prop} {w : World} {t0 t1 : Value} (h : vc218 R w t0 t1) : Calls Tryz.prog 218 #[t0, t1] w (retK R) :=
  calls_of_enter mixed Tryz.func218 (by kernel_rfl) (by rw [eq218]; exact h)

def an219 : Ann := (.seq (.reg (opn 2 .done)) (.seq (.reg (opn 5 .done)) .leaf))
def vc219 (R : Value → World → Prop) (w : World) (t0 t1 : Value) : Prop :=
 V (bx 98 t0) w fun t2 w =>
 V (ld 230 t1) w fun t4 w =>
 V (ld 98 t2) w fun t5 w =>
 CV t4 #[t5] w fun t6 w =>
 V (un .not t6) w fun t7 w =>
 R t7 w
theorem eq219 (R : Value → World → Prop) (w : World) (t0 t1 : Value) : enterW Tryz.prog Tryz.f219 an219 [t0, t1] w R = vc219 R w t0 t1 := by kernel_rfl
theorem en219 {R : Value → World → Prop} {w : World} {t0 t1 : Value} (h : vc219 R w t0 t1) : Calls Tryz.prog 219 #[t0, t1] w (retK R) :=
  calls_of_enter mixed Tryz.func219 (by kernel_rfl) (by rw [eq219]; exact h)

def an220 : Ann := (.seq (.reg (opn 1 .done)) (.seq (.reg (opn 4 (.join [10] [7, 8, 9, 10] (.split 6 (opn 4 .done) (opn 4 .done)) (opn 1 (.join [15] [12, 13, 14, 15] (.split 11 (opn 4 .done) (opn 4 .done)) (opn 1 .done)))))) .leaf))
def vc220 (R : Value → World → Prop) (w : World) (t0 : Value) : Prop :=
 V (cv 5 3 t0) w fun t4 w =>
 CV (.func (.func 75) #[] #[]) #[t4, (.int .i64 65), (.int .i64 90)] w fun t5 w =>
 ∀ K0 : List Value → World → Prop, (∀ t10, ∀ w, (∀ g : Env,
 ∀ K0 : List Value → World → Prop, (∀ t15, ∀ w, (∀ g : Env,
 R t15 w) → K0 [t15] w) →
 CondW t10
 (K0 [(.bool true)] w)
 (CV (.func (.func 221) #[] #[]) #[(.string ⟨#[46, 95, 33, 63]⟩), t0] w fun t13 w =>
 V (bi .geq 3 t13 (.int .i64 0)) w fun t14 w =>
 K0 [t14] w)) → K0 [t10] w) →
 CondW t5
 (K0 [(.bool true)] w)
 (V (cv 5 3 t0) w fun t8 w =>
 CV (.func (.func 75) #[] #[]) #[t8, (.int .i64 48), (.int .i64 57)] w fun t9 w =>
 K0 [t9] w)
theorem eq220 (R : Value → World → Prop) (w : World) (t0 : Value) : enterW Tryz.prog Tryz.f220 an220 [t0] w R = vc220 R w t0 := by kernel_rfl
theorem en220 {R : Value → World → Prop} {w : World} {t0 : Value} (h : vc220 R w t0) : Calls Tryz.prog 220 #[t0] w (retK R) :=
  calls_of_enter mixed Tryz.func220 (by kernel_rfl) (by rw [eq220]; exact h)

def an221 : Ann := (.seq (.reg (opn 1 .done)) (.seq (.reg (opn 4 .done)) .leaf))
def vc221 (R : Value → World → Prop) (w : World) (t0 t1 : Value) : Prop :=
 CV (.func (.func 253) #[] #[]) #[t0, t1] w fun t7 w =>
 R t7 w
theorem eq221 (R : Value → World → Prop) (w : World) (t0 t1 : Value) : enterW Tryz.prog Tryz.f221 an221 [t0, t1] w R = vc221 R w t0 t1 := by kernel_rfl
theorem en221 {R : Value → World → Prop} {w : World} {t0 t1 : Value} (h : vc221 R w t0 t1) : Calls Tryz.prog 221 #[t0, t1] w (retK R) :=
  calls_of_enter mixed Tryz.func221 (by kernel_rfl) (by rw [eq221]; exact h)

def an222 : Ann := (.seq (.reg (opn 1 .done)) (.seq (.reg (opn 9 .done)) (.seq (.seq (.reg (opn 3 (.join [19] [16, 17, 18, 19] (.split 15 (opn 4 .done) (opn 4 .done)) (opn 1 (.join [29] [21, 22, 23, 24, 25, 26, 27, 28, 29] (.split 20 (opn 9 .done) (opn 4 (.join [28] [25, 26, 27, 28] (.split 24 (opn 4 .done) (opn 4 .done)) (opn 1 .done)))) .done))))) (.cond (.seq (.reg (opn 1 .done)) .leaf) .leaf)) (.seq (.reg (opn 1 .done)) (.seq (.reg (opn 4 (.join [38] [34, 35, 36, 37, 38] (.split 33 (opn 5 .done) (opn 5 .done)) (opn 1 (.join [44] [40, 41, 42, 43, 44] (.split 39 (opn 5 .done) (opn 5 .done)) (opn 1 .done)))))) .leaf)))))
def vc222 (R : Value → World → Prop) (w : World) (t0 : Value) : Prop :=
 CV (.func (.func 134) #[] #[]) #[t0, (.string ⟨#[69]⟩)] w fun t9 w =>
 V (ex t9 0) w fun t10 w =>
 V (ex t9 1) w fun t11 w =>
 V (ex t9 2) w fun t12 w =>
 V (un .not t12) w fun t14 w =>
 ∀ K0 : List Value → World → Prop, (∀ t19, ∀ w, (∀ g : Env,
 ∀ K0 : List Value → World → Prop, (∀ t29, ∀ w, (∀ g : Env,
 CondW t29
 (R (.bool false) w)
 (CV (.func (.func 223) #[] #[]) #[t10, (.string ⟨#[46]⟩)] w fun t31 w =>
 V (bi .lss 3 t31 (.int .i64 2)) w fun t32 w =>
 ∀ K0 : List Value → World → Prop, (∀ t38, ∀ w, (∀ g : Env,
 ∀ K0 : List Value → World → Prop, (∀ t44, ∀ w, (∀ g : Env,
 R t44 w) → K0 [t44] w) →
 CondW t38
 (V (sl 9 t11 (some (.int .i64 1)) none none) w fun t42 w =>
 CV (.func (.func 254) #[] #[]) #[t42] w fun t43 w =>
 K0 [t43] w)
 (K0 [(.bool false)] w)) → K0 [t38] w) →
 CondW t32
 (CV (.func (.func 236) #[] #[]) #[t10, (.string ⟨#[46]⟩), (.string ⟨#[]⟩), (.int .i64 1)] w fun t36 w =>
 CV (.func (.func 254) #[] #[]) #[t36] w fun t37 w =>
 K0 [t37] w)
 (K0 [(.bool false)] w))) → K0 [t29] w) →
 CondW t19
 (K0 [(.bool true)] w)
 (V (ix 9 t11 (.int .i64 0)) w fun t22 w =>
 V (eq .neq 5 (.tmp 22) (.const (.int .u8 43)) t22 (.int .u8 43)) w fun t23 w =>
 ∀ K1 : List Value → World → Prop, (∀ t28, ∀ w, (∀ g : Env,
 K0 [t28] w) → K1 [t28] w) →
 CondW t23
 (V (ix 9 t11 (.int .i64 0)) w fun t26 w =>
 V (eq .neq 5 (.tmp 26) (.const (.int .u8 45)) t26 (.int .u8 45)) w fun t27 w =>
 K1 [t27] w)
 (K1 [(.bool false)] w))) → K0 [t19] w) →
 CondW t14
 (K0 [(.bool true)] w)
 (V (Builtin.len_ #[9] 3 #[t11]) w fun t17 w =>
 V (bi .lss 3 t17 (.int .i64 2)) w fun t18 w =>
 K0 [t18] w)
theorem eq222 (R : Value → World → Prop) (w : World) (t0 : Value) : enterW Tryz.prog Tryz.f222 an222 [t0] w R = vc222 R w t0 := by kernel_rfl
theorem en222 {R : Value → World → Prop} {w : World} {t0 : Value} (h : vc222 R w t0) : Calls Tryz.prog 222 #[t0] w (retK R) :=
  calls_of_enter mixed Tryz.func222 (by kernel_rfl) (by rw [eq222]; exact h)

def an223 : Ann := (.seq (.reg (opn 1 .done)) (.seq (.seq (.reg (opn 3 .done)) (.cond (.seq (.reg (opn 4 .done)) .leaf) .leaf)) (.seq (.seq (.reg (opn 3 .done)) (.cond (.seq (.reg (opn 5 .done)) .leaf) .leaf)) (.seq (.reg (opn 1 .done)) (.one (.loop [5, 0] [20, 21, 22, 6, 23, 24, 25, 4, 26, 27, 5, 28, 29, 30, 31, 32, 33, 0] (.one (.seq (.reg (opn 4 .done)) (.seq (.seq (.reg (opn 2 .done)) (.cond (.seq (.reg (opn 2 .done)) .leaf) .leaf)) (.seq (.reg (opn 3 .done)) (.reg (opn 7 .done))))))))))))
def vc223 (R : Value → World → Prop) (w : World) (t0 t1 : Value) : Prop :=
 V (Builtin.len_ #[9] 3 #[t1]) w fun t8 w =>
 V (eq .eql 3 (.tmp 8) (.const (.int .i64 0)) t8 (.int .i64 0)) w fun t9 w =>
 CondW t9
 (CV (.func (.func 256) #[] #[]) #[t0] w fun t11 w =>
 V (bi .add 3 t11 (.int .i64 1)) w fun t12 w =>
 R t12 w)
 (V (Builtin.len_ #[9] 3 #[t1]) w fun t14 w =>
 V (eq .eql 3 (.tmp 14) (.const (.int .i64 1)) t14 (.int .i64 1)) w fun t15 w =>
 CondW t15
 (V (ix 9 t1 (.int .i64 0)) w fun t18 w =>
 CV (.func (.func 257) #[] #[]) #[t0, t18] w fun t19 w =>
 R t19 w)
 (∃ (I0 : List Value → World → Prop) (M0 : List Value → World → Nat), I0 [(.int .i64 0), t0] w ∧ ∀ g : Env, ∀ t5, ∀ t0a, ∀ w, I0 [t5, t0a] w → ∀ m0, m0 = M0 [t5, t0a] w →
 CV (.func (.func 258) #[] #[]) #[t0a, t1] w fun t22 w =>
 V (eq .eql 3 (.tmp 23) (.const (.int .i64 (-1))) t22 (.int .i64 (-1))) w fun t24 w =>
 CondW t24
 (R t5 w)
 (V (bi .add 3 t5 (.int .i64 1)) w fun t27 w =>
 V (Builtin.len_ #[9] 3 #[t1]) w fun t31 w =>
 V (bi .add 3 t22 t31) w fun t32 w =>
 V (sl 9 t0a (some t32) none none) w fun t33 w =>
 I0 [t27, t33] w ∧ M0 [t27, t33] w < m0)))
theorem eq223 (R : Value → World → Prop) (w : World) (t0 t1 : Value) : enterW Tryz.prog Tryz.f223 an223 [t0, t1] w R = vc223 R w t0 t1 := by kernel_rfl
theorem en223 {R : Value → World → Prop} {w : World} {t0 t1 : Value} (h : vc223 R w t0 t1) : Calls Tryz.prog 223 #[t0, t1] w (retK R) :=
  calls_of_enter mixed Tryz.func223 (by kernel_rfl) (by rw [eq223]; exact h)

def an224 : Ann := (.seq (.reg (opn 1 .done)) (.seq (.reg (opn 4 .done)) .leaf))
def vc224 (R : Value → World → Prop) (w : World) (t0 t1 : Value) : Prop :=
 CV (.func (.func 259) #[] #[]) #[t0, t1] w fun t7 w =>
 R t7 w
theorem eq224 (R : Value → World → Prop) (w : World) (t0 t1 : Value) : enterW Tryz.prog Tryz.f224 an224 [t0, t1] w R = vc224 R w t0 t1 := by kernel_rfl
theorem en224 {R : Value → World → Prop} {w : World} {t0 t1 : Value} (h : vc224 R w t0 t1) : Calls Tryz.prog 224 #[t0, t1] w (retK R) :=
  calls_of_enter mixed Tryz.func224 (by kernel_rfl) (by rw [eq224]; exact h)

def an225 : Ann := (.seq (.reg (opn 2 .done)) (.seq (.reg (opn 2 .done)) .leaf))
def vc225 (R : Value → World → Prop) (w : World) (t0 : Value) : Prop :=
 V (bx 3 t0) w fun t1 w =>
 R (.func (.func 226) #[] #[t1]) w
theorem eq225 (R : Value → World → Prop) (w : World) (t0 : Value) : enterW Tryz.prog Tryz.f225 an225 [t0] w R = vc225 R w t0 := by kernel_rfl
theorem en225 {R : Value → World → Prop} {w : World} {t0 : Value} (h : vc225 R w t0) : Calls Tryz.prog 225 #[t0] w (retK R) :=
  calls_of_enter mixed Tryz.func225 (by kernel_rfl) (by rw [eq225]; exact h)

def an226 : Ann := (.seq (.reg (opn 1 .done)) (.seq (.draw (.take 0 (.hold 2 (.alts (.eff 1 (.take 3 (.take 4 .done)) .nil))))) .leaf))
def vc226 (R : Value → World → Prop) (w : World) (t0 t1 : Value) : Prop :=
 Dr w fun w =>
 HV (ld 3 t1) w fun t6 =>
 CV (.func (.func 156) #[] #[]) #[t0] w fun t5 w =>
 RunIs (ld 3 t1) w t6 ∧ (PV (eq .eql 3 (.tmp 5) (.tmp 6) t5 t6) fun t7 =>
 R t7 w)
theorem eq226 (R : Value → World → Prop) (w : World) (t0 t1 : Value) : enterW Tryz.prog Tryz.f226 an226 [t0, t1] w R = vc226 R w t0 t1 := by kernel_rfl
theorem en226 {R : Value → World → Prop} {w : World} {t0 t1 : Value} (h : vc226 R w t0 t1) : Calls Tryz.prog 226 #[t0, t1] w (retK R) :=
  calls_of_enter mixed Tryz.func226 (by kernel_rfl) (by rw [eq226]; exact h)

def an227 : Ann := (.seq (.reg (opn 1 .done)) (.seq (.reg (opn 1 .done)) .leaf))
def vc227 (R : Value → World → Prop) (w : World) (t0 : Value) : Prop :=
 R (.bool true) w
theorem eq227 (R : Value → World → Prop) (w : World) (t0 : Value) : enterW Tryz.prog Tryz.f227 an227 [t0] w R = vc227 R w t0 := by kernel_rfl
theorem en227 {R : Value → World → Prop} {w : World} {t0 : Value} (h : vc227 R w t0) : Calls Tryz.prog 227 #[t0] w (retK R) :=
  calls_of_enter mixed Tryz.func227 (by kernel_rfl) (by rw [eq227]; exact h)

def an228 : Ann := (.seq (.reg (opn 2 .done)) (.seq (.reg (opn 7 (.join [21] [14, 15, 16, 17, 18, 19, 20, 21] (.split 13 (opn 8 .done) (opn 8 .done)) (opn 1 .done)))) .leaf))
def vc228 (R : Value → World → Prop) (w : World) (t0 t1 t2 : Value) : Prop :=
 V (bx 28 t0) w fun t3 w =>
 V (fa 28 t3 0) w fun t8 w =>
 V (ld 22 t8) w fun t9 w =>
 V (Builtin.len_ #[22] 3 #[t9]) w fun t10 w =>
 V (bi .sub 3 t10 (.int .i64 1)) w fun t11 w =>
 CV (.func (.func 75) #[] #[]) #[t1, (.int .i64 0), t11] w fun t12 w =>
 ∀ K0 : List Value → World → Prop, (∀ t21, ∀ w, (∀ g : Env,
 R t21 w) → K0 [t21] w) →
 CondW t12
 (V (fa 28 t3 0) w fun t15 w =>
 V (ld 22 t15) w fun t16 w =>
 V (ia 22 t16 t1) w fun t18 w =>
 V (ld 9 t18) w fun t19 w =>
 CV t2 #[t19] w fun t20 w =>
 K0 [t20] w)
 (K0 [(.bool false)] w)
theorem eq228 (R : Value → World → Prop) (w : World) (t0 t1 t2 : Value) : enterW Tryz.prog Tryz.f228 an228 [t0, t1, t2] w R = vc228 R w t0 t1 t2 := by kernel_rfl
theorem en228 {R : Value → World → Prop} {w : World} {t0 t1 t2 : Value} (h : vc228 R w t0 t1 t2) : Calls Tryz.prog 228 #[t0, t1, t2] w (retK R) :=
  calls_of_enter mixed Tryz.func228 (by kernel_rfl) (by rw [eq228]; exact h)

def an229 : Ann := (.seq (.reg (opn 1 .done)) (.seq (.reg (opn 4 (.join [11] [8, 9, 10, 11] (.split 7 (opn 4 .done) (opn 4 .done)) (opn 1 .done)))) .leaf))
def vc229 (R : Value → World → Prop) (w : World) (t0 t1 : Value) : Prop :=
 V (fa 38 t1 3) w fun t4 w =>
 V (ld 3 t4) w fun t5 w =>
 V (eq .eql 3 (.tmp 5) (.const (.int .i64 1)) t5 (.int .i64 1)) w fun t6 w =>
 ∀ K0 : List Value → World → Prop, (∀ t11, ∀ w, (∀ g : Env,
 R t11 w) → K0 [t11] w) →
 CondW t6
 (K0 [(.bool true)] w)
 (CV (.func (.func 156) #[] #[]) #[t0] w fun t9 w =>
 V (eq .neq 3 (.tmp 9) (.const (.int .i64 0)) t9 (.int .i64 0)) w fun t10 w =>
 K0 [t10] w)
theorem eq229 (R : Value → World → Prop) (w : World) (t0 t1 : Value) : enterW Tryz.prog Tryz.f229 an229 [t0, t1] w R = vc229 R w t0 t1 := by kernel_rfl
theorem en229 {R : Value → World → Prop} {w : World} {t0 t1 : Value} (h : vc229 R w t0 t1) : Calls Tryz.prog 229 #[t0, t1] w (retK R) :=
  calls_of_enter mixed Tryz.func229 (by kernel_rfl) (by rw [eq229]; exact h)

def an232 : Ann := (.seq (.reg (opn 1 .done)) (.seq (.reg (opn 5 .done)) .leaf))
def vc232 (R : Value → World → Prop) (w : World) (t0 t1 : Value) : Prop :=
 CV (.func (.func 260) #[] #[]) #[t0, t1] w fun t7 w =>
 V (bi .geq 3 t7 (.int .i64 0)) w fun t8 w =>
 R t8 w
theorem eq232 (R : Value → World → Prop) (w : World) (t0 t1 : Value) : enterW Tryz.prog Tryz.f232 an232 [t0, t1] w R = vc232 R w t0 t1 := by kernel_rfl
theorem en232 {R : Value → World → Prop} {w : World} {t0 t1 : Value} (h : vc232 R w t0 t1) : Calls Tryz.prog 232 #[t0, t1] w (retK R) :=
  calls_of_enter mixed Tryz.func232 (by kernel_rfl) (by rw [eq232]; exact h)

def an233 : Ann := (.seq (.reg (opn 1 .done)) (.seq (.reg (opn 5 .done)) .leaf))
def vc233 (R : Value → World → Prop) (w : World) (t0 t1 : Value) : Prop :=
 V (ld 249 t1) w fun t4 w =>
 CV t4 #[t0] w fun t6 w =>
 V (un .not t6) w fun t7 w =>
 R t7 w
theorem eq233 (R : Value → World → Prop) (w : World) (t0 t1 : Value) : enterW Tryz.prog Tryz.f233 an233 [t0, t1] w R = vc233 R w t0 t1 := by kernel_rfl
theorem en233 {R : Value → World → Prop} {w : World} {t0 t1 : Value} (h : vc233 R w t0 t1) : Calls Tryz.prog 233 #[t0, t1] w (retK R) :=
  calls_of_enter mixed Tryz.func233 (by kernel_rfl) (by rw [eq233]; exact h)

def an235 : Ann := (.seq (.reg (opn 2 .done)) (.seqJ [] [6, 7, 8] (.seq (.reg (opn 2 .done)) (.cond (.reg (opn 2 .done)) .leaf)) (.seq (.draw (.take 0 (.take 1 (.take 2 (.hold 3 (.take 4 (.take 5 (.take 6 (.take 7 (.hold 8 (.take 9 (.take 10 (.take 11 (.take 12 .done)))))))))))))) (.cond (.reg (opn 3 .done)) .leaf))))
def vc235 (R : Value → World → Prop) (w : World) (t0 t1 : Value) : Prop :=
 CV (.func (.func 184) #[] #[]) #[t0] w fun t5 w =>
 ∀ K0 : List Value → World → Prop, (∀ w, (∀ g : Env,
 Dr w fun w =>
 NilW t0 fun t10 => PV (fa 199 t10 1) fun t11 =>
 HV (ld 55 t11) w fun t12 =>
 PV (Builtin.cap_ #[55] 3 #[t12]) fun t13 =>
 NilW t0 fun t15 => PV (fa 199 t15 1) fun t16 =>
 HV (ld 55 t16) w fun t17 =>
 PV (Builtin.len_ #[55] 3 #[t17]) fun t18 =>
 PV (bi .sub 3 t13 t18) fun t19 =>
 PV (bi .lss 3 t19 t1) fun t21 =>
 CondW t21
 (CV (.func (.func 261) #[] #[]) #[t0, t1] w fun t24 w =>
 R (.tuple #[]) w)
 (R (.tuple #[]) w)) → K0 [] w) →
 V (bi .lss 3 t1 (.int .i64 0)) w fun t7 w =>
 CondW t7
 (V (mi 9 (.string ⟨#[115, 116, 114, 105, 110, 103, 115, 46, 66, 117, 105, 108, 100, 101, 114, 46, 71, 114, 111, 119, 58, 32, 110, 101, 103, 97, 116, 105, 118, 101, 32, 99, 111, 117, 110, 116]⟩)) w fun t8 w =>
 False)
 (K0 [] w)
theorem eq235 (R : Value → World → Prop) (w : World) (t0 t1 : Value) : enterW Tryz.prog Tryz.f235 an235 [t0, t1] w R = vc235 R w t0 t1 := by kernel_rfl
theorem en235 {R : Value → World → Prop} {w : World} {t0 t1 : Value} (h : vc235 R w t0 t1) : Calls Tryz.prog 235 #[t0, t1] w (retK R) :=
  calls_of_enter mixed Tryz.func235 (by kernel_rfl) (by rw [eq235]; exact h)

def an236 : Ann := (.seq (.reg (opn 1 .done)) (.seq (.seq (.reg (opn 4 (.join [22] [20, 21, 22] (.split 19 (opn 3 .done) (opn 3 .done)) .done))) (.cond (.seq (.reg (opn 2 .done)) .leaf) .leaf)) (.seqJ [3] [24, 25, 26, 9, 27, 28, 29, 8, 30, 31, 32, 33, 34, 35, 36, 37, 3] (.seq (.reg (opn 4 .done)) (.seq (.reg (opn 2 .done)) (.cond (.seq (.reg (opn 2 .done)) .leaf) (.seq (.reg (opn 3 (.join [36] [33, 34, 35, 36] (.split 32 (opn 4 .done) (opn 4 .done)) .done))) (.cond (.reg (opn 2 .done)) .leaf))))) (.seq (.reg (opn 1 .done)) (.seq (.reg (opn 11 .done)) (.seq (.reg (opn 1 .done)) (.seqJ [11] [49, 50, 51, 52, 53, 54, 55, 56, 57, 58, 59, 60, 61, 12, 62, 63, 64, 65, 66, 67, 68, 69, 70, 71, 72, 11, 73, 74, 75, 76, 77, 78, 79, 81, 82, 83, 84, 80, 85, 86, 13, 14, 87, 88, 89, 15, 90, 91, 92, 93, 94, 95, 96, 97, 98] (.seq (.reg (opn 3 .done)) (.cond (.seq (.reg (opn 2 .done)) (.one (.loop [11, 53] [54, 55, 56, 57, 58, 59, 60, 61, 12, 62, 63, 64, 65, 66, 67, 68, 69, 70, 71, 72, 11, 73, 53] (.seq (.reg (opn 1 .done)) (.seq (.cond .leaf .leaf) (.seq (.one (.seq (.reg (opn 8 .done)) (.seq (.reg (opn 5 .done)) (.seq (.reg (opn 2 .done)) (.reg (opn 5 .done)))))) (.reg (opn 2 .done)))))))) (.seq (.reg (opn 2 .done)) (.seq (.reg (opn 3 .done)) (.one (.loop [11, 78] [79, 81, 82, 83, 84, 80, 85, 86, 13, 14, 87, 88, 89, 15, 90, 91, 92, 93, 94, 95, 96, 97, 11, 98, 78] (.seq (.reg (opn 1 .done)) (.seq (.cond .leaf .leaf) (.seq (.one (.seq (.reg (opn 9 .done)) (.seq (.reg (opn 4 .done)) (.seq (.reg (opn 5 .done)) (.seq (.reg (opn 2 .done)) (.reg (opn 2 .done))))))) (.reg (opn 2 .done))))))))))) (.seq (.reg (opn 4 .done)) (.seq (.reg (opn 2 .done)) .leaf)))))))))
def vc236 (R : Value → World → Prop) (w : World) (t0 t1 t2 t3 : Value) : Prop :=
 V (eq .eql 9 (.tmp 16) (.tmp 17) t1 t2) w fun t18 w =>
 ∀ K0 : List Value → World → Prop, (∀ t22, ∀ w, (∀ g : Env,
 CondW t22
 (R t0 w)
 (∀ K0 : List Value → World → Prop, (∀ t3a, ∀ w, (∀ g : Env,
 V (al 199) w fun t10 w =>
 V (Builtin.len_ #[9] 3 #[t0]) w fun t39 w =>
 V (Builtin.len_ #[9] 3 #[t2]) w fun t42 w =>
 V (Builtin.len_ #[9] 3 #[t1]) w fun t44 w =>
 V (bi .sub 3 t42 t44) w fun t45 w =>
 V (bi .mul 3 t3a t45) w fun t46 w =>
 V (bi .add 3 t39 t46) w fun t47 w =>
 CV (.func (.func 235) #[] #[]) #[t10, t47] w fun t48 w =>
 ∀ K0 : List Value → World → Prop, (∀ t11, ∀ w, (∀ g : Env,
 V (sl 9 t0 (some t11) none none) w fun t101 w =>
 CV (.func (.func 125) #[] #[]) #[t10, t101] w fun t102 w =>
 CV (.func (.func 132) #[] #[]) #[t10] w fun t103 w =>
 R t103 w) → K0 [t11] w) →
 V (Builtin.len_ #[9] 3 #[t1]) w fun t50 w =>
 V (bi .gtr 3 t50 (.int .i64 0)) w fun t51 w =>
 CondW t51
 (∃ (I0 : List Value → World → Prop) (M0 : List Value → World → Nat), I0 [(.int .i64 0), (.int .i64 0)] w ∧ ∀ g : Env, ∀ t11, ∀ t53, ∀ w, I0 [t11, t53] w → ∀ m0, m0 = M0 [t11, t53] w →
 V (bi .lss 3 t53 t3a) w fun t54 w =>
 CondW t54
 (V (sl 9 t0 (some t11) none none) w fun t58 w =>
 CV (.func (.func 258) #[] #[]) #[t58, t1] w fun t60 w =>
 V (bi .add 3 t11 t60) w fun t61 w =>
 V (sl 9 t0 (some t11) (some t61) none) w fun t65 w =>
 CV (.func (.func 125) #[] #[]) #[t10, t65] w fun t66 w =>
 CV (.func (.func 125) #[] #[]) #[t10, t2] w fun t68 w =>
 V (Builtin.len_ #[9] 3 #[t1]) w fun t71 w =>
 V (bi .add 3 t61 t71) w fun t72 w =>
 V (bi .add 3 t53 (.int .i64 1)) w fun t73 w =>
 I0 [t72, t73] w ∧ M0 [t72, t73] w < m0)
 (K0 [t11] w))
 (CV (.func (.func 125) #[] #[]) #[t10, t2] w fun t75 w =>
 V (bi .sub 3 t3a (.int .i64 1)) w fun t77 w =>
 ∃ (I0 : List Value → World → Prop) (M0 : List Value → World → Nat), I0 [(.int .i64 0), (.int .i64 0)] w ∧ ∀ g : Env, ∀ t11, ∀ t78, ∀ w, I0 [t11, t78] w → ∀ m0, m0 = M0 [t11, t78] w →
 V (bi .lss 3 t78 t77) w fun t79 w =>
 CondW t79
 (V (sl 9 t0 (some t11) none none) w fun t83 w =>
 CV (.func (.func 262) #[] #[]) #[t83] w fun t84 w =>
 V (ex t84 0) w fun t85 w =>
 V (ex t84 1) w fun t86 w =>
 V (bi .add 3 t11 t86) w fun t89 w =>
 V (sl 9 t0 (some t11) (some t89) none) w fun t93 w =>
 CV (.func (.func 125) #[] #[]) #[t10, t93] w fun t94 w =>
 CV (.func (.func 125) #[] #[]) #[t10, t2] w fun t96 w =>
 V (bi .add 3 t78 (.int .i64 1)) w fun t98 w =>
 I0 [t89, t98] w ∧ M0 [t89, t98] w < m0)
 (K0 [t11] w))) → K0 [t3a] w) →
 CV (.func (.func 223) #[] #[]) #[t0, t1] w fun t26 w =>
 V (eq .eql 3 (.tmp 27) (.const (.int .i64 0)) t26 (.int .i64 0)) w fun t28 w =>
 CondW t28
 (R t0 w)
 (V (bi .lss 3 t3 (.int .i64 0)) w fun t31 w =>
 ∀ K1 : List Value → World → Prop, (∀ t36, ∀ w, (∀ g : Env,
 CondW t36
 (K0 [t26] w)
 (K0 [t3] w)) → K1 [t36] w) →
 CondW t31
 (K1 [(.bool true)] w)
 (V (bi .lss 3 t26 t3) w fun t35 w =>
 K1 [t35] w)))) → K0 [t22] w) →
 CondW t18
 (K0 [(.bool true)] w)
 (V (eq .eql 3 (.tmp 20) (.const (.int .i64 0)) t3 (.int .i64 0)) w fun t21 w =>
 K0 [t21] w)
theorem eq236 (R : Value → World → Prop) (w : World) (t0 t1 t2 t3 : Value) : enterW Tryz.prog Tryz.f236 an236 [t0, t1, t2, t3] w R = vc236 R w t0 t1 t2 t3 := by kernel_rfl
theorem en236 {R : Value → World → Prop} {w : World} {t0 t1 t2 t3 : Value} (h : vc236 R w t0 t1 t2 t3) : Calls Tryz.prog 236 #[t0, t1, t2, t3] w (retK R) :=
  calls_of_enter mixed Tryz.func236 (by kernel_rfl) (by rw [eq236]; exact h)

def an238 : Ann := (.seq (.reg (opn 1 .done)) (.seq (.reg (opn 3 .done)) (.seq (.one (.seq (.reg (opn 3 (.join [23] [20, 21, 22, 23] (.split 19 (opn 4 .done) (opn 4 .done)) (opn 1 .done)))) (.cond (.seq (.reg (opn 1 .done)) .leaf) (.seq (.reg (opn 3 .done)) (.cond (.seq (.reg (opn 5 .done)) .leaf) (.seq (.reg (opn 5 .done)) (.cond (.seq (.reg (opn 1 .done)) .leaf) (.seq (.reg (opn 4 (.join [44] [41, 42, 43, 44] (.split 40 (opn 4 .done) (opn 4 .done)) (opn 1 .done)))) (.cond (.seq (.reg (opn 4 .done)) .leaf) .leaf))))))))) (.seq (.reg (opn 3 .done)) (.seq (.reg (opn 3 .done)) (.seq (.reg (opn 1 .done)) (.seq (.reg (opn 6 .done)) (.seq (.reg (opn 1 .done)) (.seq (.one (.loop [8, 10] [57, 58, 59, 60, 61, 62, 63, 64, 65, 66, 67, 68, 69, 70, 71, 11, 72, 73, 4, 74, 75, 76, 77, 8, 78, 79, 80, 81, 82, 83, 84, 85, 86, 87, 88, 89, 90, 91, 92, 93, 94, 95, 96, 97, 98, 10, 99, 100, 101, 102, 103, 104, 105, 106, 107, 108, 109, 110, 111, 112, 12, 113, 114, 115, 116, 117, 118, 119, 120, 121, 122, 123, 124, 125, 126, 127, 128, 129, 130, 131, 132, 133, 134, 135, 136, 137, 13, 138, 139, 140, 141, 142] (.seq (.seq (.reg (opn 3 .done)) (.cond .leaf .leaf)) (.one (.seqJ [8] [60, 61, 62, 63, 64, 65, 66, 67, 68, 69, 70, 71, 11, 72, 73, 4, 74, 75, 76, 77, 8] (.seq (.reg (opn 5 .done)) (.cond (.seq (.reg (opn 8 .done)) (.seq (.seq (.reg (opn 2 .done)) (.cond (.seq (.reg (opn 1 .done)) .leaf) .leaf)) (.reg (opn 5 .done)))) .leaf)) (.seq (.seq (.reg (opn 7 (.join [93] [85, 86, 87, 88, 89, 90, 91, 92, 93] (.split 84 (opn 9 .done) (opn 9 .done)) .done))) (.cond (.seq (.reg (opn 2 .done)) .leaf) .leaf)) (.seq (.reg (opn 3 .done)) (.seq (.reg (opn 3 .done)) (.seq (.reg (opn 4 (.join [107] [103, 104, 105, 106, 107] (.split 102 (opn 5 .done) (opn 5 .done)) .done))) (.cond (.seq (.reg (opn 6 .done)) (.seq (.seq (.reg (opn 2 .done)) (.cond (.seq (.reg (opn 4 .done)) .leaf) .leaf)) (.seq (.reg (opn 1 .done)) .leaf))) (.seq (.reg (opn 4 (.join [127] [122, 123, 124, 125, 126, 127] (.split 121 (opn 6 .done) (opn 6 .done)) (opn 1 (.join [132] [129, 130, 131, 132] (.split 128 (opn 4 .done) (opn 4 .done)) .done))))) (.cond (.seq (.reg (opn 6 .done)) (.seq (.seq (.reg (opn 2 .done)) (.cond (.seq (.reg (opn 1 .done)) .leaf) .leaf)) (.seq (.reg (opn 4 .done)) .leaf))) .leaf)))))))))))) (.seq (.reg (opn 1 .done)) .leaf))))))))))
def vc238 (R : Value → World → Prop) (w : World) (t0 t1 : Value) : Prop :=
 V (Builtin.len_ #[9] 3 #[t1]) w fun t15 w =>
 V (eq .eql 3 (.tmp 17) (.const (.int .i64 0)) t15 (.int .i64 0)) w fun t18 w =>
 ∀ K0 : List Value → World → Prop, (∀ t23, ∀ w, (∀ g : Env,
 CondW t23
 (R (.int .i64 0) w)
 (V (eq .eql 3 (.tmp 25) (.const (.int .i64 1)) t15 (.int .i64 1)) w fun t26 w =>
 CondW t26
 (V (ix 9 t1 (.int .i64 0)) w fun t29 w =>
 CV (.func (.func 253) #[] #[]) #[t0, t29] w fun t30 w =>
 R t30 w)
 (V (Builtin.len_ #[9] 3 #[t0]) w fun t34 w =>
 V (bi .geq 3 t15 t34) w fun t35 w =>
 CondW t35
 (R (.int .i64 (-1)) w)
 (V (ld 3 (.pointer (some ⟨0, 0, none⟩))) w fun t38 w =>
 V (bi .leq 3 t15 t38) w fun t39 w =>
 ∀ K0 : List Value → World → Prop, (∀ t44, ∀ w, (∀ g : Env,
 CondW t44
 (CV (.func (.func 264) #[] #[]) #[t0, t1] w fun t47 w =>
 R t47 w)
 (V (ix 9 t1 (.int .i64 0)) w fun t49 w =>
 V (ix 9 t1 (.int .i64 1)) w fun t51 w =>
 V (Builtin.len_ #[9] 3 #[t0]) w fun t53 w =>
 V (bi .sub 3 t53 t15) w fun t55 w =>
 V (bi .add 3 t55 (.int .i64 1)) w fun t56 w =>
 ∃ (I0 : List Value → World → Prop) (M0 : List Value → World → Nat), I0 [(.int .i64 0), (.int .i64 0)] w ∧ ∀ g : Env, ∀ t8, ∀ t10, ∀ w, I0 [t8, t10] w → ∀ m0, m0 = M0 [t8, t10] w →
 V (bi .lss 3 t8 t56) w fun t59 w =>
 CondW t59
 (∀ K0 : List Value → World → Prop, (∀ t8a, ∀ w, (∀ g : Env,
 V (bi .add 3 t8a (.int .i64 1)) w fun t80 w =>
 V (ix 9 t0 t80) w fun t81 w =>
 V (eq .eql 5 (.tmp 81) (.tmp 82) t81 t51) w fun t83 w =>
 ∀ K0 : List Value → World → Prop, (∀ t93, ∀ w, (∀ g : Env,
 CondW t93
 (R t8a w)
 (V (bi .add 3 t8a (.int .i64 1)) w fun t96 w =>
 V (bi .add 3 t10 (.int .i64 1)) w fun t98 w =>
 V (ld 3 (.pointer (some ⟨0, 0, none⟩))) w fun t100 w =>
 V (bi .leq 3 t15 t100) w fun t101 w =>
 ∀ K0 : List Value → World → Prop, (∀ t107, ∀ w, (∀ g : Env,
 CondW t107
 (V (sl 9 t0 (some t96) none none) w fun t110 w =>
 CV (.func (.func 264) #[] #[]) #[t110, t1] w fun t112 w =>
 V (bi .geq 3 t112 (.int .i64 0)) w fun t114 w =>
 CondW t114
 (V (bi .add 3 t112 t96) w fun t117 w =>
 R t117 w)
 (R (.int .i64 (-1)) w))
 (V (ld 3 (.pointer (some ⟨0, 0, none⟩))) w fun t119 w =>
 V (bi .gtr 3 t15 t119) w fun t120 w =>
 ∀ K0 : List Value → World → Prop, (∀ t127, ∀ w, (∀ g : Env,
 ∀ K0 : List Value → World → Prop, (∀ t132, ∀ w, (∀ g : Env,
 CondW t132
 (V (sl 9 t0 (some t96) none none) w fun t135 w =>
 CV (.func (.func 266) #[] #[]) #[t135, t1] w fun t137 w =>
 V (bi .lss 3 t137 (.int .i64 0)) w fun t139 w =>
 CondW t139
 (R (.int .i64 (-1)) w)
 (V (bi .add 3 t96 t137) w fun t142 w =>
 R t142 w))
 (I0 [t96, t98] w ∧ M0 [t96, t98] w < m0)) → K0 [t132] w) →
 CondW t127
 (V (bi .lss 3 t96 t56) w fun t131 w =>
 K0 [t131] w)
 (K0 [(.bool false)] w)) → K0 [t127] w) →
 CondW t120
 (V (bi .shr 3 t96 (.int .u64 4)) w fun t124 w =>
 V (bi .add 3 (.int .i64 4) t124) w fun t125 w =>
 V (bi .geq 3 t98 t125) w fun t126 w =>
 K0 [t126] w)
 (K0 [(.bool false)] w))) → K0 [t107] w) →
 CondW t101
 (CV (.func (.func 265) #[] #[]) #[t96] w fun t105 w =>
 V (bi .gtr 3 t98 t105) w fun t106 w =>
 K0 [t106] w)
 (K0 [(.bool false)] w))) → K0 [t93] w) →
 CondW t83
 (V (bi .add 3 t8a t15) w fun t89 w =>
 V (sl 9 t0 (some t8a) (some t89) none) w fun t90 w =>
 V (eq .eql 9 (.tmp 90) (.tmp 91) t90 t1) w fun t92 w =>
 K0 [t92] w)
 (K0 [(.bool false)] w)) → K0 [t8a] w) →
 V (ix 9 t0 t8) w fun t62 w =>
 V (eq .neq 5 (.tmp 62) (.tmp 63) t62 t49) w fun t64 w =>
 CondW t64
 (V (bi .add 3 t8 (.int .i64 1)) w fun t67 w =>
 V (sl 9 t0 (some t67) (some t56) none) w fun t69 w =>
 CV (.func (.func 253) #[] #[]) #[t69, t49] w fun t71 w =>
 V (bi .lss 3 t71 (.int .i64 0)) w fun t73 w =>
 CondW t73
 (R (.int .i64 (-1)) w)
 (V (bi .add 3 t71 (.int .i64 1)) w fun t76 w =>
 V (bi .add 3 t8 t76) w fun t77 w =>
 K0 [t77] w))
 (K0 [t8] w))
 (R (.int .i64 (-1)) w))) → K0 [t44] w) →
 CondW t39
 (V (Builtin.len_ #[9] 3 #[t0]) w fun t42 w =>
 V (bi .leq 3 t42 (.int .i64 64)) w fun t43 w =>
 K0 [t43] w)
 (K0 [(.bool false)] w))))) → K0 [t23] w) →
 CondW t18
 (K0 [(.bool true)] w)
 (V (eq .eql 9 (.tmp 20) (.tmp 21) t1 t0) w fun t22 w =>
 K0 [t22] w)
theorem eq238 (R : Value → World → Prop) (w : World) (t0 t1 : Value) : enterW Tryz.prog Tryz.f238 an238 [t0, t1] w R = vc238 R w t0 t1 := by kernel_rfl
theorem en238 {R : Value → World → Prop} {w : World} {t0 t1 : Value} (h : vc238 R w t0 t1) : Calls Tryz.prog 238 #[t0, t1] w (retK R) :=
  calls_of_enter mixed Tryz.func238 (by kernel_rfl) (by rw [eq238]; exact h)

def an246 : Ann := (.seq (.reg (opn 1 .done)) (.seq (.seq (.reg (opn 3 .done)) (.one (.loop [8] [9, 10, 5, 11, 12, 13, 14, 15, 16, 17, 4, 18, 8] (.seq (.reg (opn 1 .done)) (.seq (.cond .leaf .leaf) (.seq (.one (.seq (.reg (opn 2 .done)) (.seq (.reg (opn 6 .done)) (.cond (.seq (.reg (opn 2 .done)) .leaf) .leaf)))) (.reg (opn 2 .done)))))))) (.seq (.reg (opn 1 .done)) .leaf)))
def vc246 (R : Value → World → Prop) (w : World) (t0 t1 : Value) : Prop :=
 V (Builtin.len_ #[23] 3 #[t0]) w fun t7 w =>
 ∃ (I0 : List Value → World → Prop) (M0 : List Value → World → Nat), I0 [(.int .i64 0)] w ∧ ∀ g : Env, ∀ t8, ∀ w, I0 [t8] w → ∀ m0, m0 = M0 [t8] w →
 V (bi .lss 3 t8 t7) w fun t9 w =>
 CondW t9
 (V (ia 23 t0 t8) w fun t14 w =>
 V (ld 93 t14) w fun t15 w =>
 CV t1 #[t15] w fun t16 w =>
 CondW t16
 (R t8 w)
 (V (bi .add 3 t8 (.int .i64 1)) w fun t18 w =>
 I0 [t18] w ∧ M0 [t18] w < m0))
 (R (.int .i64 (-1)) w)
theorem eq246 (R : Value → World → Prop) (w : World) (t0 t1 : Value) : enterW Tryz.prog Tryz.f246 an246 [t0, t1] w R = vc246 R w t0 t1 := by kernel_rfl
theorem en246 {R : Value → World → Prop} {w : World} {t0 t1 : Value} (h : vc246 R w t0 t1) : Calls Tryz.prog 246 #[t0, t1] w (retK R) :=
  calls_of_enter mixed Tryz.func246 (by kernel_rfl) (by rw [eq246]; exact h)

def an247 : Ann := (.seq (.reg (opn 1 .done)) (.seq (.seq (.reg (opn 3 .done)) (.one (.loop [8] [9, 10, 5, 11, 12, 13, 14, 15, 16, 17, 4, 18, 8] (.seq (.reg (opn 1 .done)) (.seq (.cond .leaf .leaf) (.seq (.one (.seq (.reg (opn 2 .done)) (.seq (.reg (opn 6 .done)) (.cond (.seq (.reg (opn 2 .done)) .leaf) .leaf)))) (.reg (opn 2 .done)))))))) (.seq (.reg (opn 1 .done)) .leaf)))
def vc247 (R : Value → World → Prop) (w : World) (t0 t1 : Value) : Prop :=
 V (Builtin.len_ #[93] 3 #[t0]) w fun t7 w =>
 ∃ (I0 : List Value → World → Prop) (M0 : List Value → World → Nat), I0 [(.int .i64 0)] w ∧ ∀ g : Env, ∀ t8, ∀ w, I0 [t8] w → ∀ m0, m0 = M0 [t8] w →
 V (bi .lss 3 t8 t7) w fun t9 w =>
 CondW t9
 (V (ia 93 t0 t8) w fun t14 w =>
 V (ld 95 t14) w fun t15 w =>
 CV t1 #[t15] w fun t16 w =>
 CondW t16
 (R t8 w)
 (V (bi .add 3 t8 (.int .i64 1)) w fun t18 w =>
 I0 [t18] w ∧ M0 [t18] w < m0))
 (R (.int .i64 (-1)) w)
theorem eq247 (R : Value → World → Prop) (w : World) (t0 t1 : Value) : enterW Tryz.prog Tryz.f247 an247 [t0, t1] w R = vc247 R w t0 t1 := by kernel_rfl
theorem en247 {R : Value → World → Prop} {w : World} {t0 t1 : Value} (h : vc247 R w t0 t1) : Calls Tryz.prog 247 #[t0, t1] w (retK R) :=
  calls_of_enter mixed Tryz.func247 (by kernel_rfl) (by rw [eq247]; exact h)

def an248 : Ann := (.seq (.reg (opn 1 .done)) (.seq (.seq (.reg (opn 3 .done)) (.one (.loop [8] [9, 10, 5, 11, 12, 13, 14, 15, 16, 17, 4, 18, 8] (.seq (.reg (opn 1 .done)) (.seq (.cond .leaf .leaf) (.seq (.one (.seq (.reg (opn 2 .done)) (.seq (.reg (opn 6 .done)) (.cond (.seq (.reg (opn 2 .done)) .leaf) .leaf)))) (.reg (opn 2 .done)))))))) (.seq (.reg (opn 1 .done)) .leaf)))
def vc248 (R : Value → World → Prop) (w : World) (t0 t1 : Value) : Prop :=
 V (Builtin.len_ #[22] 3 #[t0]) w fun t7 w =>
 ∃ (I0 : List Value → World → Prop) (M0 : List Value → World → Nat), I0 [(.int .i64 0)] w ∧ ∀ g : Env, ∀ t8, ∀ w, I0 [t8] w → ∀ m0, m0 = M0 [t8] w →
 V (bi .lss 3 t8 t7) w fun t9 w =>
 CondW t9
 (V (ia 22 t0 t8) w fun t14 w =>
 V (ld 9 t14) w fun t15 w =>
 CV t1 #[t15] w fun t16 w =>
 CondW t16
 (R t8 w)
 (V (bi .add 3 t8 (.int .i64 1)) w fun t18 w =>
 I0 [t18] w ∧ M0 [t18] w < m0))
 (R (.int .i64 (-1)) w)
theorem eq248 (R : Value → World → Prop) (w : World) (t0 t1 : Value) : enterW Tryz.prog Tryz.f248 an248 [t0, t1] w R = vc248 R w t0 t1 := by kernel_rfl
theorem en248 {R : Value → World → Prop} {w : World} {t0 t1 : Value} (h : vc248 R w t0 t1) : Calls Tryz.prog 248 #[t0, t1] w (retK R) :=
  calls_of_enter mixed Tryz.func248 (by kernel_rfl) (by rw [eq248]; exact h)

def an249 : Ann := (.seq (.reg (opn 1 .done)) (.seq (.seq (.reg (opn 3 .done)) (.one (.loop [8] [9, 10, 5, 11, 12, 13, 14, 15, 16, 17, 4, 18, 8] (.seq (.reg (opn 1 .done)) (.seq (.cond .leaf .leaf) (.seq (.one (.seq (.reg (opn 2 .done)) (.seq (.reg (opn 6 .done)) (.cond (.seq (.reg (opn 2 .done)) .leaf) .leaf)))) (.reg (opn 2 .done)))))))) (.seq (.reg (opn 1 .done)) .leaf)))
def vc249 (R : Value → World → Prop) (w : World) (t0 t1 : Value) : Prop :=
 V (Builtin.len_ #[24] 3 #[t0]) w fun t7 w =>
 ∃ (I0 : List Value → World → Prop) (M0 : List Value → World → Nat), I0 [(.int .i64 0)] w ∧ ∀ g : Env, ∀ t8, ∀ w, I0 [t8] w → ∀ m0, m0 = M0 [t8] w →
 V (bi .lss 3 t8 t7) w fun t9 w =>
 CondW t9
 (V (ia 24 t0 t8) w fun t14 w =>
 V (ld 96 t14) w fun t15 w =>
 CV t1 #[t15] w fun t16 w =>
 CondW t16
 (R t8 w)
 (V (bi .add 3 t8 (.int .i64 1)) w fun t18 w =>
 I0 [t18] w ∧ M0 [t18] w < m0))
 (R (.int .i64 (-1)) w)
theorem eq249 (R : Value → World → Prop) (w : World) (t0 t1 : Value) : enterW Tryz.prog Tryz.f249 an249 [t0, t1] w R = vc249 R w t0 t1 := by kernel_rfl
theorem en249 {R : Value → World → Prop} {w : World} {t0 t1 : Value} (h : vc249 R w t0 t1) : Calls Tryz.prog 249 #[t0, t1] w (retK R) :=
  calls_of_enter mixed Tryz.func249 (by kernel_rfl) (by rw [eq249]; exact h)

def an250 : Ann := (.seq (.reg (opn 1 .done)) (.seq (.reg (opn 5 .done)) .leaf))
def vc250 (R : Value → World → Prop) (w : World) (t0 t1 : Value) : Prop :=
 CV (.func (.func 274) #[] #[]) #[t0, t1] w fun t7 w =>
 V (bi .geq 3 t7 (.int .i64 0)) w fun t8 w =>
 R t8 w
theorem eq250 (R : Value → World → Prop) (w : World) (t0 t1 : Value) : enterW Tryz.prog Tryz.f250 an250 [t0, t1] w R = vc250 R w t0 t1 := by kernel_rfl
theorem en250 {R : Value → World → Prop} {w : World} {t0 t1 : Value} (h : vc250 R w t0 t1) : Calls Tryz.prog 250 #[t0, t1] w (retK R) :=
  calls_of_enter mixed Tryz.func250 (by kernel_rfl) (by rw [eq250]; exact h)

def an251 : Ann := (.seq (.reg (opn 1 .done)) (.seq (.reg (opn 5 .done)) .leaf))
def vc251 (R : Value → World → Prop) (w : World) (t0 t1 : Value) : Prop :=
 V (ld 280 t1) w fun t4 w =>
 CV t4 #[t0] w fun t6 w =>
 V (un .not t6) w fun t7 w =>
 R t7 w
theorem eq251 (R : Value → World → Prop) (w : World) (t0 t1 : Value) : enterW Tryz.prog Tryz.f251 an251 [t0, t1] w R = vc251 R w t0 t1 := by kernel_rfl
theorem en251 {R : Value → World → Prop} {w : World} {t0 t1 : Value} (h : vc251 R w t0 t1) : Calls Tryz.prog 251 #[t0, t1] w (retK R) :=
  calls_of_enter mixed Tryz.func251 (by kernel_rfl) (by rw [eq251]; exact h)

def an252 : Ann := (.seq (.reg (opn 1 .done)) (.seq (.seq (.reg (opn 3 .done)) (.one (.loop [8] [9, 10, 5, 11, 12, 13, 14, 15, 16, 17, 4, 18, 8] (.seq (.reg (opn 1 .done)) (.seq (.cond .leaf .leaf) (.seq (.one (.seq (.reg (opn 2 .done)) (.seq (.reg (opn 6 .done)) (.cond (.seq (.reg (opn 2 .done)) .leaf) .leaf)))) (.reg (opn 2 .done)))))))) (.seq (.reg (opn 1 .done)) .leaf)))
def vc252 (R : Value → World → Prop) (w : World) (t0 t1 : Value) : Prop :=
 V (Builtin.len_ #[96] 3 #[t0]) w fun t7 w =>
 ∃ (I0 : List Value → World → Prop) (M0 : List Value → World → Nat), I0 [(.int .i64 0)] w ∧ ∀ g : Env, ∀ t8, ∀ w, I0 [t8] w → ∀ m0, m0 = M0 [t8] w →
 V (bi .lss 3 t8 t7) w fun t9 w =>
 CondW t9
 (V (ia 96 t0 t8) w fun t14 w =>
 V (ld 98 t14) w fun t15 w =>
 CV t1 #[t15] w fun t16 w =>
 CondW t16
 (R t8 w)
 (V (bi .add 3 t8 (.int .i64 1)) w fun t18 w =>
 I0 [t18] w ∧ M0 [t18] w < m0))
 (R (.int .i64 (-1)) w)
theorem eq252 (R : Value → World → Prop) (w : World) (t0 t1 : Value) : enterW Tryz.prog Tryz.f252 an252 [t0, t1] w R = vc252 R w t0 t1 := by kernel_rfl
theorem en252 {R : Value → World → Prop} {w : World} {t0 t1 : Value} (h : vc252 R w t0 t1) : Calls Tryz.prog 252 #[t0, t1] w (retK R) :=
  calls_of_enter mixed Tryz.func252 (by kernel_rfl) (by rw [eq252]; exact h)

def an253 : Ann := (.seq (.reg (opn 1 .done)) (.seq (.reg (opn 4 .done)) .leaf))
def vc253 (R : Value → World → Prop) (w : World) (t0 t1 : Value) : Prop :=
 CV (.func (.func 275) #[] #[]) #[t0, t1] w fun t7 w =>
 R t7 w
theorem eq253 (R : Value → World → Prop) (w : World) (t0 t1 : Value) : enterW Tryz.prog Tryz.f253 an253 [t0, t1] w R = vc253 R w t0 t1 := by kernel_rfl
theorem en253 {R : Value → World → Prop} {w : World} {t0 t1 : Value} (h : vc253 R w t0 t1) : Calls Tryz.prog 253 #[t0, t1] w (retK R) :=
  calls_of_enter mixed Tryz.func253 (by kernel_rfl) (by rw [eq253]; exact h)

def an254 : Ann := (.seq (.reg (opn 1 .done)) (.seq (.reg (opn 3 (.join [9] [6, 7, 8, 9] (.split 5 (opn 4 .done) (opn 4 .done)) (opn 1 .done)))) .leaf))
def vc254 (R : Value → World → Prop) (w : World) (t0 : Value) : Prop :=
 V (eq .neq 9 (.tmp 3) (.const (.string ⟨#[]⟩)) t0 (.string ⟨#[]⟩)) w fun t4 w =>
 ∀ K0 : List Value → World → Prop, (∀ t9, ∀ w, (∀ g : Env,
 R t9 w) → K0 [t9] w) →
 CondW t4
 (V (cv 9 55 t0) w fun t7 w =>
 CV (.func (.func 216) #[] #[]) #[t7, (.func (.func 255) #[] #[])] w fun t8 w =>
 K0 [t8] w)
 (K0 [(.bool false)] w)
theorem eq254 (R : Value → World → Prop) (w : World) (t0 : Value) : enterW Tryz.prog Tryz.f254 an254 [t0] w R = vc254 R w t0 := by kernel_rfl
theorem en254 {R : Value → World → Prop} {w : World} {t0 : Value} (h : vc254 R w t0) : Calls Tryz.prog 254 #[t0] w (retK R) :=
  calls_of_enter mixed Tryz.func254 (by kernel_rfl) (by rw [eq254]; exact h)

def an255 : Ann := (.seq (.reg (opn 1 .done)) (.seq (.reg (opn 4 .done)) .leaf))
def vc255 (R : Value → World → Prop) (w : World) (t0 : Value) : Prop :=
 V (cv 5 3 t0) w fun t4 w =>
 CV (.func (.func 75) #[] #[]) #[t4, (.int .i64 48), (.int .i64 57)] w fun t5 w =>
 R t5 w
theorem eq255 (R : Value → World → Prop) (w : World) (t0 : Value) : enterW Tryz.prog Tryz.f255 an255 [t0] w R = vc255 R w t0 := by kernel_rfl
theorem en255 {R : Value → World → Prop} {w : World} {t0 : Value} (h : vc255 R w t0) : Calls Tryz.prog 255 #[t0] w (retK R) :=
  calls_of_enter mixed Tryz.func255 (by kernel_rfl) (by rw [eq255]; exact h)

def an258 : Ann := (.seq (.reg (opn 1 .done)) (.seq (.reg (opn 4 .done)) .leaf))
def vc258 (R : Value → World → Prop) (w : World) (t0 t1 : Value) : Prop :=
 CV (.func (.func 238) #[] #[]) #[t0, t1] w fun t7 w =>
 R t7 w
theorem eq258 (R : Value → World → Prop) (w : World) (t0 t1 : Value) : enterW Tryz.prog Tryz.f258 an258 [t0, t1] w R = vc258 R w t0 t1 := by kernel_rfl
theorem en258 {R : Value → World → Prop} {w : World} {t0 t1 : Value} (h : vc258 R w t0 t1) : Calls Tryz.prog 258 #[t0, t1] w (retK R) :=
  calls_of_enter mixed Tryz.func258 (by kernel_rfl) (by rw [eq258]; exact h)

def an259 : Ann := (.seq (.reg (opn 1 .done)) (.seq (.reg (opn 6 (.join [20] [11, 12, 13, 14, 15, 16, 17, 18, 19, 20] (.split 10 (opn 10 .done) (opn 10 .done)) (opn 1 .done)))) .leaf))
def vc259 (R : Value → World → Prop) (w : World) (t0 t1 : Value) : Prop :=
 V (Builtin.len_ #[9] 3 #[t0]) w fun t6 w =>
 V (Builtin.len_ #[9] 3 #[t1]) w fun t8 w =>
 V (bi .geq 3 t6 t8) w fun t9 w =>
 ∀ K0 : List Value → World → Prop, (∀ t20, ∀ w, (∀ g : Env,
 R t20 w) → K0 [t20] w) →
 CondW t9
 (V (Builtin.len_ #[9] 3 #[t0]) w fun t13 w =>
 V (Builtin.len_ #[9] 3 #[t1]) w fun t15 w =>
 V (bi .sub 3 t13 t15) w fun t16 w =>
 V (sl 9 t0 (some t16) none none) w fun t17 w =>
 V (eq .eql 9 (.tmp 17) (.tmp 18) t17 t1) w fun t19 w =>
 K0 [t19] w)
 (K0 [(.bool false)] w)
theorem eq259 (R : Value → World → Prop) (w : World) (t0 t1 : Value) : enterW Tryz.prog Tryz.f259 an259 [t0, t1] w R = vc259 R w t0 t1 := by kernel_rfl
theorem en259 {R : Value → World → Prop} {w : World} {t0 t1 : Value} (h : vc259 R w t0 t1) : Calls Tryz.prog 259 #[t0, t1] w (retK R) :=
  calls_of_enter mixed Tryz.func259 (by kernel_rfl) (by rw [eq259]; exact h)

def an260 : Ann := (.seq (.reg (opn 1 .done)) (.seq (.seq (.reg (opn 3 .done)) (.one (.loop [8] [9, 10, 5, 11, 12, 13, 14, 15, 16, 17, 4, 18, 8] (.seq (.reg (opn 1 .done)) (.seq (.cond .leaf .leaf) (.seq (.one (.seq (.reg (opn 2 .done)) (.seq (.reg (opn 6 .done)) (.cond (.seq (.reg (opn 2 .done)) .leaf) .leaf)))) (.reg (opn 2 .done)))))))) (.seq (.reg (opn 1 .done)) .leaf)))
def vc260 (R : Value → World → Prop) (w : World) (t0 t1 : Value) : Prop :=
 V (Builtin.len_ #[45] 3 #[t0]) w fun t7 w =>
 ∃ (I0 : List Value → World → Prop) (M0 : List Value → World → Nat), I0 [(.int .i64 0)] w ∧ ∀ g : Env, ∀ t8, ∀ w, I0 [t8] w → ∀ m0, m0 = M0 [t8] w →
 V (bi .lss 3 t8 t7) w fun t9 w =>
 CondW t9
 (V (ia 45 t0 t8) w fun t14 w =>
 V (ld 3 t14) w fun t15 w =>
 CV t1 #[t15] w fun t16 w =>
 CondW t16
 (R t8 w)
 (V (bi .add 3 t8 (.int .i64 1)) w fun t18 w =>
 I0 [t18] w ∧ M0 [t18] w < m0))
 (R (.int .i64 (-1)) w)
theorem eq260 (R : Value → World → Prop) (w : World) (t0 t1 : Value) : enterW Tryz.prog Tryz.f260 an260 [t0, t1] w R = vc260 R w t0 t1 := by kernel_rfl
theorem en260 {R : Value → World → Prop} {w : World} {t0 t1 : Value} (h : vc260 R w t0 t1) : Calls Tryz.prog 260 #[t0, t1] w (retK R) :=
  calls_of_enter mixed Tryz.func260 (by kernel_rfl) (by rw [eq260]; exact h)

def an261 : Ann := (.seq (.draw (.take 0 (.take 1 (.take 2 (.hold 3 (.take 4 (.take 5 (.take 6 (.take 7 (.take 9 (.take 10 (.take 11 (.hold 12 (.take 13 (.alts (.eff 8 (.take 14 (.take 15 .done)) .nil)))))))))))))))) (.seq (.reg (opn 6 .done)) (.reg (opn 5 .done))))
def vc261 (R : Value → World → Prop) (w : World) (t0 t1 : Value) : Prop :=
 Dr w fun w =>
 NilW t0 fun t6 => PV (fa 199 t6 1) fun t7 =>
 HV (ld 55 t7) w fun t8 =>
 PV (Builtin.cap_ #[55] 3 #[t8]) fun t9 =>
 PV (bi .mul 3 (.int .i64 2) t9) fun t10 =>
 PV (bi .add 3 t10 t1) fun t12 =>
 NilW t0 fun t15 => PV (fa 199 t15 1) fun t16 =>
 HV (ld 55 t16) w fun t17 =>
 PV (Builtin.len_ #[55] 3 #[t17]) fun t18 =>
 CV (.func (.func 276) #[] #[]) #[t12] w fun t13 w =>
 RunIs (ld 55 t16) w t17 ∧ RunIs (ld 55 t7) w t8 ∧ (PV (sl 55 t13 none (some t18) none) fun t19 =>
 NilW t0 fun t22 => V (fa 199 t22 1) w fun t23 w =>
 V (ld 55 t23) w fun t24 w =>
 V (Builtin.copy_ #[55, 55] 3 #[t19, t24]) w fun t25 w =>
 NilW t0 fun t28 => V (fa 199 t28 1) w fun t29 w =>
 U (st 55 t29 t19) w fun w =>
 R (.tuple #[]) w)
theorem eq261 (R : Value → World → Prop) (w : World) (t0 t1 : Value) : enterW Tryz.prog Tryz.f261 an261 [t0, t1] w R = vc261 R w t0 t1 := by kernel_rfl
theorem en261 {R : Value → World → Prop} {w : World} {t0 t1 : Value} (h : vc261 R w t0 t1) : Calls Tryz.prog 261 #[t0, t1] w (retK R) :=
  calls_of_enter mixed Tryz.func261 (by kernel_rfl) (by rw [eq261]; exact h)

def an274 : Ann := (.seq (.reg (opn 1 .done)) (.seq (.seq (.reg (opn 3 .done)) (.one (.loop [8] [9, 10, 5, 11, 12, 13, 14, 15, 16, 17, 4, 18, 8] (.seq (.reg (opn 1 .done)) (.seq (.cond .leaf .leaf) (.seq (.one (.seq (.reg (opn 2 .done)) (.seq (.reg (opn 6 .done)) (.cond (.seq (.reg (opn 2 .done)) .leaf) .leaf)))) (.reg (opn 2 .done)))))))) (.seq (.reg (opn 1 .done)) .leaf)))
def vc274 (R : Value → World → Prop) (w : World) (t0 t1 : Value) : Prop :=
 V (Builtin.len_ #[55] 3 #[t0]) w fun t7 w =>
 ∃ (I0 : List Value → World → Prop) (M0 : List Value → World → Nat), I0 [(.int .i64 0)] w ∧ ∀ g : Env, ∀ t8, ∀ w, I0 [t8] w → ∀ m0, m0 = M0 [t8] w →
 V (bi .lss 3 t8 t7) w fun t9 w =>
 CondW t9
 (V (ia 55 t0 t8) w fun t14 w =>
 V (ld 5 t14) w fun t15 w =>
 CV t1 #[t15] w fun t16 w =>
 CondW t16
 (R t8 w)
 (V (bi .add 3 t8 (.int .i64 1)) w fun t18 w =>
 I0 [t18] w ∧ M0 [t18] w < m0))
 (R (.int .i64 (-1)) w)
theorem eq274 (R : Value → World → Prop) (w : World) (t0 t1 : Value) : enterW Tryz.prog Tryz.f274 an274 [t0, t1] w R = vc274 R w t0 t1 := by kernel_rfl
theorem en274 {R : Value → World → Prop} {w : World} {t0 t1 : Value} (h : vc274 R w t0 t1) : Calls Tryz.prog 274 #[t0, t1] w (retK R) :=
  calls_of_enter mixed Tryz.func274 (by kernel_rfl) (by rw [eq274]; exact h)

end Go.Proofs.YtbeelfopmkbllaaGreatDoor
end
