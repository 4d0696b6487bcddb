/- Texts joined: VCa. -/
import Derived.Test.YtbeelfopmkbllaaGreatDoorM0
import Derived.Test.YtbeelfopmkbllaaGreatDoorProg
set_option linter.unusedSimpArgs false
set_option linter.unusedVariables false
set_option linter.unusedSectionVars false
set_option maxRecDepth 100000
namespace Go.Proofs.YtbeelfopmkbllaaGreatDoor
section
open Go Q
def rgN : Nat → Nat → List Nat
  | _, 0 => []
  | a, n + 1 => a :: rgN (a + 1) n
def tkN : Nat → Nat → Plan → Plan
  | _, 0, p => p
  | a, n + 1, p => .take a (tkN (a + 1) n p)
def oD (n : Nat) : Ann := .reg (opn n .done)
variable {R : Value → World → Prop} {w : World} {t0 t1 t2 t3 t4 t5 t6 : Value}
def an8 : Ann := (.seq (oD 2) (.seq (oD 2) (.seq (.seq (oD 3) (.cond (.seq (oD 2) .leaf) .leaf)) (.seq (oD 3) (.seq (oD 3) (.seq (.seq (oD 5) (.cond (.seq (oD 1) .leaf) .leaf)) (.seq (.seq (oD 1) (.one (.loop [10] ([34, 35, 36, 37] ++ rgN 40 9 ++ [6, 38, 39, 10]) (.seq (.seq (oD 4) (.cond .leaf .leaf)) (.seq (.one (.seq (.draw (tkN 0 3 (.hold 3 (tkN 4 3 (.hold 7 (.take 8 .done)))))) (.cond (.seq (oD 1) .leaf) .leaf))) (oD 3)))))) (.seq (oD 9) (.seq (oD 4) (.seq (oD 8) (.seq (oD 8) (.seqJ [19] (rgN 69 19 ++ [19]) (.draw (.hold 0 (.take 1 (.hold 3 (.take 4 (.alts (.eff 2 (.alts (.eff 5 (.alts (.eff 6 (.take 7 (.split 76 (.take 8 (.take 9 (.hold 10 (.alts (.eff 11 (.take 12 (.take 13 (.split 82 (.take 14 (.take 15 (.hold 16 (.alts (.eff 17 (.take 18 (.take 19 .done)) .nil))))) (tkN 14 6 .done)))) .nil))))) (tkN 8 12 .done))) .nil)) .nil)) .nil))))))) (.seq (.reg (opn 2 (.join [91] [90, 91] (.split 89 (opn 2 .done) (opn 2 .done)) (opn 1 (.join [97] [93, 94, 95, 96, 97] (.split 92 (opn 5 .done) (opn 5 .done)) (opn 1 (.join [102] [99, 100, 101, 102] (.split 98 (opn 4 .done) (opn 4 .done)) (opn 1 (.join [107] [104, 105, 106, 107] (.split 103 (opn 4 .done) (opn 4 .done)) (opn 1 .done)))))))))) .leaf)))))))))))))
def vc8 (R : Value → World → Prop) (w : World) (t0 t1 t2 : Value) : Prop :=
 V (bx 28 t0) w fun t3 w =>
 CV (.func (.func 13) #[] #[]) #[] w fun t20 w =>
 V (ld 28 t3) w fun t21 w =>
 CV (.func (.func 14) #[] #[]) #[t21] w fun t22 w =>
 V (un .not t22) w fun t23 w =>
 CondW t23
 (R t20 w)
 (V (ld 28 t3) w fun t25 w =>
 CV (.func (.func 22) #[] #[]) #[t25] w fun t26 w =>
 V (ld 28 t3) w fun t27 w =>
 CV (.func (.func 26) #[] #[]) #[t27] w fun t28 w =>
 V (Builtin.len_ #[49] 3 #[t26]) w fun t30 w =>
 V (Builtin.len_ #[49] 3 #[t28]) w fun t32 w =>
 V (eq .neq 3 (.tmp 30) (.tmp 32) t30 t32) w fun t33 w =>
 CondW t33
 (R (.bool false) w)
 (∃ (I0 : List Value → World → Prop) (M0 : List Value → World → Nat), I0 [(.int .i64 0)] w ∧ ∀ g : Env, ∀ t10, ∀ w, I0 [t10] w → ∀ m0, m0 = M0 [t10] w →
 V (Builtin.len_ #[49] 3 #[t26]) w fun t36 w =>
 V (bi .lss 3 t10 t36) w fun t37 w =>
 CondW t37
 (Dr w fun w =>
 PV (ia 49 t26 t10) fun t42 =>
 HV (ld 4 t42) w fun t43 =>
 PV (ia 49 t28 t10) fun t46 =>
 HV (ld 4 t46) w fun t47 =>
 PV (eq .neq 4 (.tmp 43) (.tmp 47) t43 t47) fun t48 =>
 CondW t48
 (R (.bool false) w)
 (V (bi .add 3 t10 (.int .i64 1)) w fun t39 w =>
 I0 [t39] w ∧ M0 [t39] w < m0))
 (V (ld 28 t3) w fun t50 w =>
 CV (.func (.func 23) #[] #[]) #[t50] w fun t51 w =>
 V (ex t51 0) w fun t52 w =>
 V (ex t51 1) w fun t53 w =>
 V (ex t51 2) w fun t54 w =>
 V (ld 28 t3) w fun t55 w =>
 CV (.func (.func 27) #[] #[]) #[t55] w fun t56 w =>
 V (al 60) w fun t14 w =>
 U (st 60 t14 t56) w fun w =>
 V (ld 28 t3) w fun t58 w =>
 CV (.func (.func 28) #[] #[]) #[t58, t2] w fun t60 w =>
 V (ex t60 0) w fun t61 w =>
 V (ex t60 1) w fun t62 w =>
 V (ld 28 t3) w fun t64 w =>
 CV (.func (.func 29) #[] #[]) #[t64, t2] w fun t66 w =>
 V (ex t66 0) w fun t67 w =>
 V (ex t66 1) w fun t68 w =>
 ∀ K0 : List Value → World → Prop, (∀ t19, ∀ w, (∀ g : Env,
 ∀ K0 : List Value → World → Prop, (∀ t91, ∀ w, (∀ g : Env,
 ∀ K0 : List Value → World → Prop, (∀ t97, ∀ w, (∀ g : Env,
 ∀ K0 : List Value → World → Prop, (∀ t102, ∀ w, (∀ g : Env,
 ∀ K0 : List Value → World → Prop, (∀ t107, ∀ w, (∀ g : Env,
 R t107 w) → K0 [t107] w) →
 CondW t102
 (V (eq .eql 31 (.tmp 104) (.tmp 105) t62 t68) w fun t106 w =>
 K0 [t106] w)
 (K0 [(.bool false)] w)) → K0 [t102] w) →
 CondW t97
 (V (eq .eql 3 (.tmp 99) (.tmp 100) t61 t67) w fun t101 w =>
 K0 [t101] w)
 (K0 [(.bool false)] w)) → K0 [t97] w) →
 CondW t91
 (V (fa 60 t14 2) w fun t94 w =>
 V (ld 31 t94) w fun t95 w =>
 V (eq .eql 31 (.tmp 93) (.tmp 95) t54 t95) w fun t96 w =>
 K0 [t96] w)
 (K0 [(.bool false)] w)) → K0 [t91] w) →
 CondW t20
 (K0 [t19] w)
 (K0 [(.bool false)] w)) → K0 [t19] w) →
 Dr w fun w =>
 HV (ld 28 t3) w fun t69 =>
 HV (ld 28 t3) w fun t72 =>
 CV (.func (.func 24) #[] #[]) #[t69, t1] w fun t71 w =>
 RunIs (ld 28 t3) w t72 ∧ (CV (.func (.func 31) #[] #[]) #[t72, t1] w fun t74 w =>
 CV (.func (.func 30) #[] #[]) #[t71, t74] w fun t75 w =>
 CondW t75
 (PV (fa 60 t14 0) fun t78 =>
 HV (ld 45 t78) w fun t79 =>
 CV (.func (.func 30) #[] #[]) #[t52, t79] w fun t80 w =>
 CondW t80
 (PV (fa 60 t14 1) fun t84 =>
 HV (ld 45 t84) w fun t85 =>
 CV (.func (.func 30) #[] #[]) #[t53, t85] w fun t86 w =>
 K0 [t86] w)
 (K0 [(.bool false)] w))
 (K0 [(.bool false)] w)))))
theorem en8 (h : vc8 R w t0 t1 t2) : Calls Tryz.prog 8 #[t0, t1, t2] w (retK R) := calls_of_enter mixed Tryz.func8 (by kernel_rfl) (Eq.mpr (by kernel_rfl : enterW Tryz.prog Tryz.f8 an8 [t0, t1, t2] w R = vc8 R w t0 t1 t2) h)
def an13 : Ann := (.seq (oD 1) (.seq (oD 3) (.seq (oD 9) (.seq (oD 7) (.seq (oD 10) (.seq (oD 7) (.seq (oD 3) (.seq (.draw (.take 0 (.hold 1 (.alts (.eff 2 (.take 3 (.alts (.eff 4 .done .nil))) .nil))))) (.seq (oD 7) (.seq (oD 9) (.seq (oD 9) (.seq (.reg (opn 3 (.join [74] [71, 72, 73, 74] (.split 70 (opn 4 .done) (opn 4 .done)) (opn 1 (.join [79] [76, 77, 78, 79] (.split 75 (opn 4 .done) (opn 4 .done)) (opn 1 (.join [83] [81, 82, 83] (.split 80 (opn 3 .done) (opn 3 .done)) (opn 1 (.join [88] [85, 86, 87, 88] (.split 84 (opn 4 .done) (opn 4 .done)) (opn 1 (.join [93] [90, 91, 92, 93] (.split 89 (opn 4 .done) (opn 4 .done)) (opn 1 .done)))))))))))) (.seq (.reg (opn 3 (.join [101] [97, 98, 99, 100, 101] (.split 96 (opn 5 .done) (opn 5 .done)) (opn 1 (.join [105] [103, 104, 105] (.split 102 (opn 3 .done) (opn 3 .done)) (opn 1 (.join [110] [107, 108, 109, 110] (.split 106 (opn 4 .done) (opn 4 .done)) (opn 1 (.join [116] [112, 113, 114, 115, 116] (.split 111 (opn 5 .done) (opn 5 .done)) (opn 1 (.join [122] [118, 119, 120, 121, 122] (.split 117 (opn 5 .done) (opn 5 .done)) (opn 1 (.join [128] [124, 125, 126, 127, 128] (.split 123 (opn 5 .done) (opn 5 .done)) (opn 1 .done)))))))))))))) (.seq (.reg (opn 2 (.join [132] [131, 132] (.split 130 (opn 2 .done) (opn 2 .done)) (opn 1 (.join [136] [134, 135, 136] (.split 133 (opn 3 .done) (opn 3 .done)) (opn 1 (.join [140] [138, 139, 140] (.split 137 (opn 3 .done) (opn 3 .done)) (opn 1 (.join [144] [142, 143, 144] (.split 141 (opn 3 .done) (opn 3 .done)) (opn 1 (.join [148] [146, 147, 148] (.split 145 (opn 3 .done) (opn 3 .done)) (opn 1 (.join [152] [150, 151, 152] (.split 149 (opn 3 .done) (opn 3 .done)) (opn 1 .done)))))))))))))) .leaf))))))))))))))
def vc13 (R : Value → World → Prop) (w : World) : Prop :=
 CV (.func (.func 44) #[] #[]) #[] w fun t22 w =>
 V (al 28) w fun t1 w =>
 U (st 28 t1 t22) w fun w =>
 V (ld 28 t1) w fun t24 w =>
 CV (.func (.func 23) #[] #[]) #[t24] w fun t25 w =>
 V (ex t25 0) w fun t26 w =>
 V (ex t25 1) w fun t27 w =>
 V (ex t25 2) w fun t28 w =>
 V (ld 28 t1) w fun t30 w =>
 CV (.func (.func 40) #[] #[]) #[t30] w fun t31 w =>
 V (ex t31 0) w fun t32 w =>
 V (ex t31 1) w fun t33 w =>
 V (ld 28 t1) w fun t35 w =>
 CV (.func (.func 20) #[] #[]) #[t35] w fun t36 w =>
 V (ex t36 0) w fun t37 w =>
 V (ex t36 1) w fun t38 w =>
 V (ex t36 2) w fun t39 w =>
 V (al 28) w fun t7 w =>
 U (st 28 t7 t37) w fun w =>
 V (ld 28 t1) w fun t41 w =>
 CV (.func (.func 35) #[] #[]) #[t41] w fun t42 w =>
 V (ex t42 0) w fun t43 w =>
 V (ex t42 1) w fun t44 w =>
 CV (.func (.func 44) #[] #[]) #[] w fun t45 w =>
 V (al 28) w fun t12 w =>
 U (st 28 t12 t45) w fun w =>
 Dr w fun w =>
 PV (fa 28 t12 5) fun t46 =>
 HV (ld 26 t46) w fun t47 =>
 CV (.func (.func 45) #[] #[]) #[(.int .i64 39), (.int .i64 0), (.int .i64 0), (.int .i64 0)] w fun t48 w =>
 RunIs (ld 26 t46) w t47 ∧ (PV (ia 26 t47 (.int .i64 2)) fun t49 =>
 U (st 38 t49 t48) w fun w =>
 V (ld 28 t12) w fun t51 w =>
 CV (.func (.func 15) #[] #[]) #[t51] w fun t52 w =>
 V (ex t52 0) w fun t53 w =>
 V (ex t52 1) w fun t54 w =>
 CV (.func (.func 45) #[] #[]) #[(.int .i64 23), (.int .i64 0), (.int .i64 0), (.int .i64 0)] w fun t56 w =>
 V (bs 26 1 #[(0, t56)]) w fun t57 w =>
 V (bd 28 #[(5, t57)]) w fun t58 w =>
 CV (.func (.func 15) #[] #[]) #[t58] w fun t59 w =>
 V (ex t59 0) w fun t60 w =>
 V (ex t59 1) w fun t61 w =>
 CV (.func (.func 45) #[] #[]) #[(.int .i64 27), (.int .i64 0), (.int .i64 13), (.int .i64 0)] w fun t63 w =>
 CV (.func (.func 17) #[] #[]) #[t63] w fun t64 w =>
 V (ex t64 0) w fun t65 w =>
 V (ex t64 1) w fun t66 w =>
 V (ex t64 2) w fun t67 w =>
 V (eq .eql 31 (.tmp 68) (.const (.int .i64 0)) t28 (.int .i64 0)) w fun t69 w =>
 ∀ K0 : List Value → World → Prop, (∀ t74, ∀ w, (∀ g : Env,
 ∀ K0 : List Value → World → Prop, (∀ t79, ∀ w, (∀ g : Env,
 ∀ K0 : List Value → World → Prop, (∀ t83, ∀ w, (∀ g : Env,
 ∀ K0 : List Value → World → Prop, (∀ t88, ∀ w, (∀ g : Env,
 ∀ K0 : List Value → World → Prop, (∀ t93, ∀ w, (∀ g : Env,
 V (eq .eql 31 (.tmp 94) (.const (.int .i64 0)) t39 (.int .i64 0)) w fun t95 w =>
 ∀ K0 : List Value → World → Prop, (∀ t101, ∀ w, (∀ g : Env,
 ∀ K0 : List Value → World → Prop, (∀ t105, ∀ w, (∀ g : Env,
 ∀ K0 : List Value → World → Prop, (∀ t110, ∀ w, (∀ g : Env,
 ∀ K0 : List Value → World → Prop, (∀ t116, ∀ w, (∀ g : Env,
 ∀ K0 : List Value → World → Prop, (∀ t122, ∀ w, (∀ g : Env,
 ∀ K0 : List Value → World → Prop, (∀ t128, ∀ w, (∀ g : Env,
 ∀ K0 : List Value → World → Prop, (∀ t132, ∀ w, (∀ g : Env,
 ∀ K0 : List Value → World → Prop, (∀ t136, ∀ w, (∀ g : Env,
 ∀ K0 : List Value → World → Prop, (∀ t140, ∀ w, (∀ g : Env,
 ∀ K0 : List Value → World → Prop, (∀ t144, ∀ w, (∀ g : Env,
 ∀ K0 : List Value → World → Prop, (∀ t148, ∀ w, (∀ g : Env,
 ∀ K0 : List Value → World → Prop, (∀ t152, ∀ w, (∀ g : Env,
 R t152 w) → K0 [t152] w) →
 CondW t148
 (V (eq .eql 3 (.tmp 150) (.const (.int .i64 0)) t66 (.int .i64 0)) w fun t151 w =>
 K0 [t151] w)
 (K0 [(.bool false)] w)) → K0 [t148] w) →
 CondW t144
 (V (eq .eql 3 (.tmp 146) (.const (.int .i64 3)) t65 (.int .i64 3)) w fun t147 w =>
 K0 [t147] w)
 (K0 [(.bool false)] w)) → K0 [t144] w) →
 CondW t140
 (V (eq .eql 31 (.tmp 142) (.const (.int .i64 0)) t67 (.int .i64 0)) w fun t143 w =>
 K0 [t143] w)
 (K0 [(.bool false)] w)) → K0 [t140] w) →
 CondW t136
 (V (eq .eql 31 (.tmp 138) (.const (.int .i64 0)) t60 (.int .i64 0)) w fun t139 w =>
 K0 [t139] w)
 (K0 [(.bool false)] w)) → K0 [t136] w) →
 CondW t132
 (V (eq .eql 31 (.tmp 134) (.const (.int .i64 12)) t53 (.int .i64 12)) w fun t135 w =>
 K0 [t135] w)
 (K0 [(.bool false)] w)) → K0 [t132] w) →
 CondW t93
 (K0 [t128] w)
 (K0 [(.bool false)] w)) → K0 [t128] w) →
 CondW t122
 (V (ia 55 t43 (.int .i64 2)) w fun t125 w =>
 V (ld 5 t125) w fun t126 w =>
 V (eq .eql 5 (.tmp 126) (.const (.int .u8 10)) t126 (.int .u8 10)) w fun t127 w =>
 K0 [t127] w)
 (K0 [(.bool false)] w)) → K0 [t122] w) →
 CondW t116
 (V (ia 55 t43 (.int .i64 1)) w fun t119 w =>
 V (ld 5 t119) w fun t120 w =>
 V (eq .eql 5 (.tmp 120) (.const (.int .u8 6)) t120 (.int .u8 6)) w fun t121 w =>
 K0 [t121] w)
 (K0 [(.bool false)] w)) → K0 [t116] w) →
 CondW t110
 (V (ia 55 t43 (.int .i64 0)) w fun t113 w =>
 V (ld 5 t113) w fun t114 w =>
 V (eq .eql 5 (.tmp 114) (.const (.int .u8 81)) t114 (.int .u8 81)) w fun t115 w =>
 K0 [t115] w)
 (K0 [(.bool false)] w)) → K0 [t110] w) →
 CondW t105
 (V (Builtin.len_ #[55] 3 #[t43]) w fun t108 w =>
 V (bi .gtr 3 t108 (.int .i64 3)) w fun t109 w =>
 K0 [t109] w)
 (K0 [(.bool false)] w)) → K0 [t105] w) →
 CondW t101
 (V (eq .eql 31 (.tmp 103) (.const (.int .i64 0)) t44 (.int .i64 0)) w fun t104 w =>
 K0 [t104] w)
 (K0 [(.bool false)] w)) → K0 [t101] w) →
 CondW t95
 (V (fa 28 t7 0) w fun t97 w =>
 V (ld 22 t97) w fun t98 w =>
 V (Builtin.len_ #[22] 3 #[t98]) w fun t99 w =>
 V (eq .eql 3 (.tmp 99) (.const (.int .i64 2)) t99 (.int .i64 2)) w fun t100 w =>
 K0 [t100] w)
 (K0 [(.bool false)] w)) → K0 [t93] w) →
 CondW t88
 (V (sl 9 t32 none (some (.int .i64 10)) none) w fun t91 w =>
 V (eq .eql 9 (.tmp 91) (.const (.string ⟨#[116, 101, 120, 116, 32, 34, 83, 65, 89, 32]⟩)) t91 (.string ⟨#[116, 101, 120, 116, 32, 34, 83, 65, 89, 32]⟩)) w fun t92 w =>
 K0 [t92] w)
 (K0 [(.bool false)] w)) → K0 [t88] w) →
 CondW t83
 (V (Builtin.len_ #[9] 3 #[t32]) w fun t86 w =>
 V (bi .gtr 3 t86 (.int .i64 10)) w fun t87 w =>
 K0 [t87] w)
 (K0 [(.bool false)] w)) → K0 [t83] w) →
 CondW t79
 (V (eq .eql 31 (.tmp 81) (.const (.int .i64 0)) t33 (.int .i64 0)) w fun t82 w =>
 K0 [t82] w)
 (K0 [(.bool false)] w)) → K0 [t79] w) →
 CondW t74
 (V (ms 45 (.int .i64 6) (.int .i64 6)) w fun t77 w =>
 CV (.func (.func 30) #[] #[]) #[t27, t77] w fun t78 w =>
 K0 [t78] w)
 (K0 [(.bool false)] w)) → K0 [t74] w) →
 CondW t69
 (V (bs 45 6 #[(0, (.int .i64 0)), (1, (.int .i64 0)), (2, (.int .i64 1)), (3, (.int .i64 1)), (4, (.int .i64 0)), (5, (.int .i64 0))]) w fun t72 w =>
 CV (.func (.func 30) #[] #[]) #[t26, t72] w fun t73 w =>
 K0 [t73] w)
 (K0 [(.bool false)] w))
theorem en13 (h : vc13 R w ) : Calls Tryz.prog 13 #[] w (retK R) := calls_of_enter mixed Tryz.func13 (by kernel_rfl) (Eq.mpr (by kernel_rfl : enterW Tryz.prog Tryz.f13 an13 [] w R = vc13 R w ) h)
def an14 : Ann := (.seq (oD 2) (.seq (.seq (.reg (opn 5 (.join [18] [14, 15, 16, 17, 18] (.split 13 (opn 5 .done) (opn 5 .done)) (opn 1 (.join [24] [20, 21, 22, 23, 24] (.split 19 (opn 5 .done) (opn 5 .done)) (opn 1 (.join [30] [26, 27, 28, 29, 30] (.split 25 (opn 5 .done) (opn 5 .done)) (opn 1 (.join [36] [32, 33, 34, 35, 36] (.split 31 (opn 5 .done) (opn 5 .done)) (opn 1 (.join [42] [38, 39, 40, 41, 42] (.split 37 (opn 5 .done) (opn 5 .done)) .done))))))))))) (.cond (.seq (oD 1) .leaf) .leaf)) (.seq (.seq (oD 1) (.one (.loop [3] ([43, 44, 45, 46, 47] ++ rgN 50 7 ++ [2, 48, 49, 3]) (.seq (.seq (oD 5) (.cond .leaf .leaf)) (.seq (.one (.seq (oD 7) (.cond (.seq (oD 1) .leaf) .leaf))) (oD 3)))))) (.seq (.seq (oD 1) (.one (.loop [4] ([57, 58, 59, 60, 61] ++ rgN 64 7 ++ [2, 5] ++ rgN 71 8 ++ rgN 81 11 ++ [79, 80, 62, 63, 4]) (.seq (.seq (oD 5) (.cond .leaf .leaf)) (.seq (.one (.seq (.seq (oD 7) (.cond (.seq (oD 1) .leaf) .leaf)) (.seq (oD 1) (.one (.loop [5] (rgN 71 8 ++ rgN 81 11 ++ [2, 79, 80, 5]) (.seq (.seq (oD 8) (.cond .leaf .leaf)) (.seq (.one (.seq (oD 11) (.cond (.seq (oD 1) .leaf) .leaf))) (oD 3)))))))) (oD 3)))))) (.seq (.seq (oD 1) (.one (.loop [6] ([92, 93, 94, 95, 96] ++ rgN 99 7 ++ [2, 7] ++ rgN 106 8 ++ rgN 116 11 ++ [114, 115, 97, 98, 6]) (.seq (.seq (oD 5) (.cond .leaf .leaf)) (.seq (.one (.seq (.seq (oD 7) (.cond (.seq (oD 1) .leaf) .leaf)) (.seq (oD 1) (.one (.loop [7] (rgN 106 8 ++ rgN 116 11 ++ [2, 114, 115, 7]) (.seq (.seq (oD 8) (.cond .leaf .leaf)) (.seq (.one (.seq (oD 11) (.cond (.seq (oD 1) .leaf) .leaf))) (oD 3)))))))) (oD 3)))))) (.seq (.seq (oD 1) (.one (.loop [8] ([127, 128, 129, 130, 131] ++ rgN 134 8 ++ [2, 132, 133, 8]) (.seq (.seq (oD 5) (.cond .leaf .leaf)) (.seq (.one (.seq (oD 8) (.cond (.seq (oD 1) .leaf) .leaf))) (oD 3)))))) (.seq (oD 1) .leaf)))))))
def vc14 (R : Value → World → Prop) (w : World) (t0 : Value) : Prop :=
 V (bx 28 t0) w fun t1 w =>
 V (fa 28 t1 0) w fun t9 w =>
 V (ld 22 t9) w fun t10 w =>
 V (Builtin.len_ #[22] 3 #[t10]) w fun t11 w =>
 CV (.func (.func 34) #[] #[]) #[t11, (.int .i64 60), (.int .i64 3000)] w fun t12 w =>
 ∀ K0 : List Value → World → Prop, (∀ t18, ∀ w, (∀ g : Env,
 ∀ K0 : List Value → World → Prop, (∀ t24, ∀ w, (∀ g : Env,
 ∀ K0 : List Value → World → Prop, (∀ t30, ∀ w, (∀ g : Env,
 ∀ K0 : List Value → World → Prop, (∀ t36, ∀ w, (∀ g : Env,
 ∀ K0 : List Value → World → Prop, (∀ t42, ∀ w, (∀ g : Env,
 CondW t42
 (R (.bool false) w)
 (∃ (I0 : List Value → World → Prop) (M0 : List Value → World → Nat), I0 [(.int .i64 0)] w ∧ ∀ g : Env, ∀ t3, ∀ w, I0 [t3] w → ∀ m0, m0 = M0 [t3] w →
 V (fa 28 t1 0) w fun t44 w =>
 V (ld 22 t44) w fun t45 w =>
 V (Builtin.len_ #[22] 3 #[t45]) w fun t46 w =>
 V (bi .lss 3 t3 t46) w fun t47 w =>
 CondW t47
 (V (fa 28 t1 0) w fun t50 w =>
 V (ld 22 t50) w fun t51 w =>
 V (ia 22 t51 t3) w fun t53 w =>
 V (ld 9 t53) w fun t54 w =>
 V (Builtin.len_ #[9] 3 #[t54]) w fun t55 w =>
 V (bi .gtr 3 t55 (.int .i64 1100)) w fun t56 w =>
 CondW t56
 (R (.bool false) w)
 (V (bi .add 3 t3 (.int .i64 1)) w fun t49 w =>
 I0 [t49] w ∧ M0 [t49] w < m0))
 (∃ (I1 : List Value → World → Prop) (M1 : List Value → World → Nat), I1 [(.int .i64 0)] w ∧ ∀ g : Env, ∀ t4, ∀ w, I1 [t4] w → ∀ m1, m1 = M1 [t4] w →
 V (fa 28 t1 1) w fun t58 w =>
 V (ld 23 t58) w fun t59 w =>
 V (Builtin.len_ #[23] 3 #[t59]) w fun t60 w =>
 V (bi .lss 3 t4 t60) w fun t61 w =>
 CondW t61
 (V (fa 28 t1 1) w fun t64 w =>
 V (ld 23 t64) w fun t65 w =>
 V (ia 23 t65 t4) w fun t67 w =>
 V (ld 93 t67) w fun t68 w =>
 V (Builtin.len_ #[93] 3 #[t68]) w fun t69 w =>
 CV (.func (.func 34) #[] #[]) #[t69, (.int .i64 60), (.int .i64 100)] w fun t70 w =>
 CondW t70
 (R (.bool false) w)
 (∃ (I2 : List Value → World → Prop) (M2 : List Value → World → Nat), I2 [(.int .i64 0)] w ∧ ∀ g : Env, ∀ t5, ∀ w, I2 [t5] w → ∀ m2, m2 = M2 [t5] w →
 V (fa 28 t1 1) w fun t72 w =>
 V (ld 23 t72) w fun t73 w =>
 V (ia 23 t73 t4) w fun t75 w =>
 V (ld 93 t75) w fun t76 w =>
 V (Builtin.len_ #[93] 3 #[t76]) w fun t77 w =>
 V (bi .lss 3 t5 t77) w fun t78 w =>
 CondW t78
 (V (fa 28 t1 1) w fun t81 w =>
 V (ld 23 t81) w fun t82 w =>
 V (ia 23 t82 t4) w fun t84 w =>
 V (ld 93 t84) w fun t85 w =>
 V (ia 93 t85 t5) w fun t87 w =>
 V (fa 95 t87 1) w fun t88 w =>
 V (ld 9 t88) w fun t89 w =>
 V (Builtin.len_ #[9] 3 #[t89]) w fun t90 w =>
 V (bi .gtr 3 t90 (.int .i64 1100)) w fun t91 w =>
 CondW t91
 (R (.bool false) w)
 (V (bi .add 3 t5 (.int .i64 1)) w fun t80 w =>
 I2 [t80] w ∧ M2 [t80] w < m2))
 (V (bi .add 3 t4 (.int .i64 1)) w fun t63 w =>
 I1 [t63] w ∧ M1 [t63] w < m1)))
 (∃ (I2 : List Value → World → Prop) (M2 : List Value → World → Nat), I2 [(.int .i64 0)] w ∧ ∀ g : Env, ∀ t6, ∀ w, I2 [t6] w → ∀ m2, m2 = M2 [t6] w →
 V (fa 28 t1 2) w fun t93 w =>
 V (ld 24 t93) w fun t94 w =>
 V (Builtin.len_ #[24] 3 #[t94]) w fun t95 w =>
 V (bi .lss 3 t6 t95) w fun t96 w =>
 CondW t96
 (V (fa 28 t1 2) w fun t99 w =>
 V (ld 24 t99) w fun t100 w =>
 V (ia 24 t100 t6) w fun t102 w =>
 V (ld 96 t102) w fun t103 w =>
 V (Builtin.len_ #[96] 3 #[t103]) w fun t104 w =>
 CV (.func (.func 34) #[] #[]) #[t104, (.int .i64 60), (.int .i64 10000)] w fun t105 w =>
 CondW t105
 (R (.bool false) w)
 (∃ (I3 : List Value → World → Prop) (M3 : List Value → World → Nat), I3 [(.int .i64 0)] w ∧ ∀ g : Env, ∀ t7, ∀ w, I3 [t7] w → ∀ m3, m3 = M3 [t7] w →
 V (fa 28 t1 2) w fun t107 w =>
 V (ld 24 t107) w fun t108 w =>
 V (ia 24 t108 t6) w fun t110 w =>
 V (ld 96 t110) w fun t111 w =>
 V (Builtin.len_ #[96] 3 #[t111]) w fun t112 w =>
 V (bi .lss 3 t7 t112) w fun t113 w =>
 CondW t113
 (V (fa 28 t1 2) w fun t116 w =>
 V (ld 24 t116) w fun t117 w =>
 V (ia 24 t117 t6) w fun t119 w =>
 V (ld 96 t119) w fun t120 w =>
 V (ia 96 t120 t7) w fun t122 w =>
 V (fa 98 t122 0) w fun t123 w =>
 V (ld 9 t123) w fun t124 w =>
 V (Builtin.len_ #[9] 3 #[t124]) w fun t125 w =>
 V (bi .gtr 3 t125 (.int .i64 1100)) w fun t126 w =>
 CondW t126
 (R (.bool false) w)
 (V (bi .add 3 t7 (.int .i64 1)) w fun t115 w =>
 I3 [t115] w ∧ M3 [t115] w < m3))
 (V (bi .add 3 t6 (.int .i64 1)) w fun t98 w =>
 I2 [t98] w ∧ M2 [t98] w < m2)))
 (∃ (I3 : List Value → World → Prop) (M3 : List Value → World → Nat), I3 [(.int .i64 0)] w ∧ ∀ g : Env, ∀ t8, ∀ w, I3 [t8] w → ∀ m3, m3 = M3 [t8] w →
 V (fa 28 t1 3) w fun t128 w =>
 V (ld 25 t128) w fun t129 w =>
 V (Builtin.len_ #[25] 3 #[t129]) w fun t130 w =>
 V (bi .lss 3 t8 t130) w fun t131 w =>
 CondW t131
 (V (fa 28 t1 3) w fun t134 w =>
 V (ld 25 t134) w fun t135 w =>
 V (ia 25 t135 t8) w fun t137 w =>
 V (fa 54 t137 0) w fun t138 w =>
 V (ld 9 t138) w fun t139 w =>
 V (Builtin.len_ #[9] 3 #[t139]) w fun t140 w =>
 V (bi .gtr 3 t140 (.int .i64 1100)) w fun t141 w =>
 CondW t141
 (R (.bool false) w)
 (V (bi .add 3 t8 (.int .i64 1)) w fun t133 w =>
 I3 [t133] w ∧ M3 [t133] w < m3))
 (R (.bool true) w)))))) → K0 [t42] w) →
 CondW t36
 (K0 [(.bool true)] w)
 (V (fa 28 t1 5) w fun t38 w =>
 V (ld 26 t38) w fun t39 w =>
 V (Builtin.len_ #[26] 3 #[t39]) w fun t40 w =>
 CV (.func (.func 34) #[] #[]) #[t40, (.int .i64 300), (.int .i64 12000)] w fun t41 w =>
 K0 [t41] w)) → K0 [t36] w) →
 CondW t30
 (K0 [(.bool true)] w)
 (V (fa 28 t1 4) w fun t32 w =>
 V (ld 22 t32) w fun t33 w =>
 V (Builtin.len_ #[22] 3 #[t33]) w fun t34 w =>
 CV (.func (.func 34) #[] #[]) #[t34, (.int .i64 60), (.int .i64 100)] w fun t35 w =>
 K0 [t35] w)) → K0 [t30] w) →
 CondW t24
 (K0 [(.bool true)] w)
 (V (fa 28 t1 3) w fun t26 w =>
 V (ld 25 t26) w fun t27 w =>
 V (Builtin.len_ #[25] 3 #[t27]) w fun t28 w =>
 CV (.func (.func 34) #[] #[]) #[t28, (.int .i64 60), (.int .i64 3000)] w fun t29 w =>
 K0 [t29] w)) → K0 [t24] w) →
 CondW t18
 (K0 [(.bool true)] w)
 (V (fa 28 t1 2) w fun t20 w =>
 V (ld 24 t20) w fun t21 w =>
 V (Builtin.len_ #[24] 3 #[t21]) w fun t22 w =>
 CV (.func (.func 34) #[] #[]) #[t22, (.int .i64 60), (.int .i64 3000)] w fun t23 w =>
 K0 [t23] w)) → K0 [t18] w) →
 CondW t12
 (K0 [(.bool true)] w)
 (V (fa 28 t1 1) w fun t14 w =>
 V (ld 23 t14) w fun t15 w =>
 V (Builtin.len_ #[23] 3 #[t15]) w fun t16 w =>
 CV (.func (.func 34) #[] #[]) #[t16, (.int .i64 60), (.int .i64 3000)] w fun t17 w =>
 K0 [t17] w)
theorem en14 (h : vc14 R w t0) : Calls Tryz.prog 14 #[t0] w (retK R) := calls_of_enter mixed Tryz.func14 (by kernel_rfl) (Eq.mpr (by kernel_rfl : enterW Tryz.prog Tryz.f14 an14 [t0] w R = vc14 R w t0) h)
def an15 : Ann := (.seq (oD 3) (.seq (.seq (oD 3) (.cond (.seq (oD 2) .leaf) .leaf)) (.seq (.seq (oD 3) (.cond (.seq (oD 2) .leaf) .leaf)) (.seq (.seq (oD 4) (.one (.loop [21] [22, 23, 24, 25, 5, 4, 26, 27, 28, 29, 30, 2, 3, 31, 21] (.seq (oD 1) (.seq (.cond .leaf .leaf) (.seq (.one (.seq (oD 6) (.seq (oD 4) (.cond (.seq (oD 3) .leaf) .leaf)))) (oD 2))))))) (.seq (oD 5) (.seq (.seq (oD 12) (.seq (oD 3) (.cond (.seq (oD 3) .leaf) .leaf))) (.seq (.seq (oD 9) (.seq (oD 2) (.cond (.seq (oD 2) .leaf) .leaf))) (.seq (oD 2) .leaf))))))))
def vc15 (R : Value → World → Prop) (w : World) (t0 : Value) : Prop :=
 V (bx 28 t0) w fun t1 w =>
 V (ld 28 t1) w fun t12 w =>
 CV (.func (.func 46) #[] #[]) #[t12] w fun t13 w =>
 V (un .not t13) w fun t14 w =>
 CondW t14
 (R (.tuple #[(.int .i64 3), (.int .i64 0)]) w)
 (V (ld 28 t1) w fun t15 w =>
 CV (.func (.func 47) #[] #[]) #[t15] w fun t16 w =>
 V (un .not t16) w fun t17 w =>
 CondW t17
 (R (.tuple #[(.int .i64 1), (.int .i64 0)]) w)
 (V (fa 28 t1 5) w fun t18 w =>
 V (ld 26 t18) w fun t19 w =>
 V (Builtin.len_ #[26] 3 #[t19]) w fun t20 w =>
 ∃ (I0 : List Value → World → Prop) (M0 : List Value → World → Nat), I0 [(.int .i64 0)] w ∧ ∀ g : Env, ∀ t21, ∀ w, I0 [t21] w → ∀ m0, m0 = M0 [t21] w →
 V (bi .lss 3 t21 t20) w fun t22 w =>
 CondW t22
 (V (ia 26 t19 t21) w fun t24 w =>
 V (ld 38 t24) w fun t25 w =>
 V (al 38) w fun t5 w =>
 U (st 38 t5 t25) w fun w =>
 V (ld 28 t1) w fun t26 w =>
 V (ld 38 t5) w fun t27 w =>
 CV (.func (.func 48) #[] #[]) #[t26, t27] w fun t28 w =>
 V (un .not t28) w fun t29 w =>
 CondW t29
 (R (.tuple #[(.int .i64 1), t21]) w)
 (V (bi .add 3 t21 (.int .i64 1)) w fun t31 w =>
 I0 [t31] w ∧ M0 [t31] w < m0))
 (V (fa 28 t1 5) w fun t32 w =>
 V (ld 26 t32) w fun t33 w =>
 V (Builtin.len_ #[26] 3 #[t33]) w fun t34 w =>
 V (bi .sub 3 t34 (.int .i64 1)) w fun t35 w =>
 V (fa 28 t1 5) w fun t37 w =>
 V (ld 26 t37) w fun t38 w =>
 V (ia 26 t38 t35) w fun t40 w =>
 V (ld 38 t40) w fun t41 w =>
 CV (.func (.func 49) #[] #[]) #[t41] w fun t42 w =>
 V (ex t42 0) w fun t43 w =>
 V (ex t42 1) w fun t44 w =>
 V (al 102) w fun t7 w =>
 U (st 102 t7 t43) w fun w =>
 V (fa 102 t7 5) w fun t45 w =>
 V (ld 4 t45) w fun t46 w =>
 V (un .not t46) w fun t47 w =>
 CondW t47
 (R (.tuple #[(.int .i64 2), t35]) w)
 (V (ld 28 t1) w fun t50 w =>
 CV (.func (.func 50) #[] #[]) #[t50] w fun t51 w =>
 V (ex t51 0) w fun t52 w =>
 V (ex t51 1) w fun t53 w =>
 V (ex t51 2) w fun t54 w =>
 V (un .not t54) w fun t56 w =>
 CondW t56
 (R (.tuple #[(.int .i64 12), (.int .i64 0)]) w)
 (R (.tuple #[(.int .i64 0), (.int .i64 0)]) w)))))
theorem en15 (h : vc15 R w t0) : Calls Tryz.prog 15 #[t0] w (retK R) := calls_of_enter mixed Tryz.func15 (by kernel_rfl) (Eq.mpr (by kernel_rfl : enterW Tryz.prog Tryz.f15 an15 [t0] w R = vc15 R w t0) h)
def an16 : Ann := (.seq (oD 2) (.seq (.seq (oD 3) (.cond (.seq (oD 2) .leaf) .leaf)) (.seq (.seq (.reg (opn 5 (.join [17] [14, 15, 16, 17] (.split 13 (opn 4 .done) (opn 4 .done)) .done))) (.cond (.seq (oD 2) .leaf) .leaf)) (.seq (.seq (oD 1) (.one (.loop [3] ([19, 20, 21, 22, 23] ++ rgN 26 10 ++ [24, 25, 3]) (.seq (.seq (oD 5) (.cond .leaf .leaf)) (.seq (.one (.seq (.draw (.hold 0 (.take 1 (.hold 2 (.take 3 (.take 4 (.hold 5 (.alts (.eff 6 (.take 7 .done) .nil))))))))) (.cond (.seq (oD 3) .leaf) .leaf))) (oD 3)))))) (.seq (oD 5) (.seq (.seq (.draw (.take 1 (.hold 2 (tkN 3 3 (.hold 6 (.alts (.eff 0 (.take 7 (.take 8 (.hold 9 (.take 10 .done)))) .nil))))))) (.cond (.seq (oD 3) .leaf) .leaf)) (.seq (oD 5) .leaf)))))))
def vc16 (R : Value → World → Prop) (w : World) (t0 : Value) : Prop :=
 V (bx 28 t0) w fun t1 w =>
 V (al 35) w fun t2 w =>
 V (ld 28 t1) w fun t5 w =>
 CV (.func (.func 51) #[] #[]) #[t5] w fun t6 w =>
 V (un .not t6) w fun t7 w =>
 CondW t7
 (V (bd 35 #[(0, (.int .i64 3))]) w fun t8 w =>
 U (st 35 t2 t8) w fun w =>
 CW 35 t2 w fun t1002 => R t1002 w)
 (V (fa 28 t1 5) w fun t9 w =>
 V (ld 26 t9) w fun t10 w =>
 V (Builtin.len_ #[26] 3 #[t10]) w fun t11 w =>
 V (eq .eql 3 (.tmp 11) (.const (.int .i64 0)) t11 (.int .i64 0)) w fun t12 w =>
 ∀ K0 : List Value → World → Prop, (∀ t17, ∀ w, (∀ g : Env,
 CondW t17
 (V (bd 35 #[(0, (.int .i64 1))]) w fun t18 w =>
 U (st 35 t2 t18) w fun w =>
 CW 35 t2 w fun t1002 => R t1002 w)
 (∃ (I0 : List Value → World → Prop) (M0 : List Value → World → Nat), I0 [(.int .i64 0)] w ∧ ∀ g : Env, ∀ t3, ∀ w, I0 [t3] w → ∀ m0, m0 = M0 [t3] w →
 V (fa 28 t1 5) w fun t20 w =>
 V (ld 26 t20) w fun t21 w =>
 V (Builtin.len_ #[26] 3 #[t21]) w fun t22 w =>
 V (bi .lss 3 t3 t22) w fun t23 w =>
 CondW t23
 (Dr w fun w =>
 HV (ld 28 t1) w fun t26 =>
 PV (fa 28 t1 5) fun t27 =>
 HV (ld 26 t27) w fun t28 =>
 PV (ia 26 t28 t3) fun t30 =>
 HV (ld 38 t30) w fun t31 =>
 CV (.func (.func 53) #[] #[]) #[t26, t31] w fun t32 w =>
 RunIs (ld 26 t27) w t28 ∧ (PV (un .not t32) fun t33 =>
 CondW t33
 (V (bd 35 #[(0, (.int .i64 1)), (1, t3)]) w fun t35 w =>
 U (st 35 t2 t35) w fun w =>
 CW 35 t2 w fun t1002 => R t1002 w)
 (V (bi .add 3 t3 (.int .i64 1)) w fun t25 w =>
 I0 [t25] w ∧ M0 [t25] w < m0)))
 (V (fa 28 t1 5) w fun t36 w =>
 V (ld 26 t36) w fun t37 w =>
 V (Builtin.len_ #[26] 3 #[t37]) w fun t38 w =>
 V (bi .sub 3 t38 (.int .i64 1)) w fun t39 w =>
 Dr w fun w =>
 PV (fa 28 t1 5) fun t41 =>
 HV (ld 26 t41) w fun t42 =>
 PV (ia 26 t42 t39) fun t44 =>
 PV (fa 38 t44 0) fun t45 =>
 HV (ld 3 t45) w fun t46 =>
 CV (.func (.func 54) #[] #[]) #[] w fun t40 w =>
 RunIs (ld 3 t45) w t46 ∧ RunIs (ld 26 t41) w t42 ∧ (PV (ia 109 t40 t46) fun t47 =>
 PV (fa 108 t47 5) fun t48 =>
 HV (ld 4 t48) w fun t49 =>
 PV (un .not t49) fun t50 =>
 CondW t50
 (V (bd 35 #[(0, (.int .i64 2)), (1, t39)]) w fun t52 w =>
 U (st 35 t2 t52) w fun w =>
 CW 35 t2 w fun t1002 => R t1002 w)
 (V (ld 28 t1) w fun t53 w =>
 CV (.func (.func 55) #[] #[]) #[t53] w fun t54 w =>
 V (fl 60 t54 2) w fun t55 w =>
 V (bd 35 #[(0, t55)]) w fun t56 w =>
 U (st 35 t2 t56) w fun w =>
 CW 35 t2 w fun t1002 => R t1002 w))))) → K0 [t17] w) →
 CondW t12
 (K0 [(.bool true)] w)
 (V (ld 28 t1) w fun t14 w =>
 CV (.func (.func 52) #[] #[]) #[t14] w fun t15 w =>
 V (un .not t15) w fun t16 w =>
 K0 [t16] w))
theorem en16 (h : vc16 R w t0) : Calls Tryz.prog 16 #[t0] w (retK R) := calls_of_enter mixed Tryz.func16 (by kernel_rfl) (Eq.mpr (by kernel_rfl : enterW Tryz.prog Tryz.f16 an16 [t0] w R = vc16 R w t0) h)
def an17 : Ann := (.seq (oD 4) (.seq (oD 8) (.seq (.seq (oD 2) (.cond (.seq (oD 3) .leaf) .leaf)) (.seqJ [6] ([14, 15, 17, 16] ++ rgN 18 6 ++ [6, 24, 26, 25] ++ rgN 27 7 ++ [35, 34] ++ rgN 36 9 ++ [46, 45] ++ rgN 47 14 ++ [62, 61] ++ rgN 63 7 ++ [71, 70] ++ rgN 72 7) (.seq (oD 2) (.one (.seqJ [16] [17, 16, 18] (.seq (oD 2) (.cond .leaf (oD 2))) (.cond (.draw (.take 0 (.hold 1 (.take 3 (.hold 4 (.alts (.eff 2 (.take 5 (.take 6 (.alts (.eff 7 .done .nil)))) .nil))))))) (.seq (oD 2) (.cond (.draw (.take 0 (.hold 1 (.take 3 (.hold 4 (.take 5 (.alts (.eff 2 (.take 6 (.take 7 (.alts (.eff 8 .done .nil)))) .nil)))))))) (.seq (oD 2) (.cond (.draw (.take 0 (.hold 1 (.take 4 (.hold 5 (.alts (.eff 2 (.take 3 (.alts (.eff 6 (tkN 7 3 (.alts (.eff 10 .done .nil))) .nil))) .nil))))))) (.seq (oD 2) (.cond (.seq (.reg (opn 4 (.join [54] [51, 52, 53, 54] (.split 50 (opn 4 .done) (opn 4 .done)) (opn 1 .done)))) (.seq (oD 3) (.cond (oD 4) .leaf))) (.seq (oD 2) (.cond (.seq (oD 4) (.seq (oD 3) (.cond (oD 2) .leaf))) (.seqJ [70] [71, 70, 72] (.seq (oD 2) (.cond .leaf (oD 2))) (.cond (.draw (.take 0 (.hold 1 (.take 3 (.hold 4 (.alts (.eff 2 (.take 5 (.take 6 (.alts (.eff 7 .done .nil)))) .nil))))))) .leaf)))))))))))))) (.seq (.seq (oD 2) (.cond (.seq (oD 3) .leaf) .leaf)) (.seq (.draw (.take 0 (.hold 1 (.take 2 (.hold 3 (tkN 4 3 .done)))))) .leaf))))))
def vc17 (R : Value → World → Prop) (w : World) (t0 : Value) : Prop :=
 V (bx 38 t0) w fun t1 w =>
 V (ld 38 t1) w fun t8 w =>
 CV (.func (.func 49) #[] #[]) #[t8] w fun t9 w =>
 V (ex t9 0) w fun t10 w =>
 V (ex t9 1) w fun t11 w =>
 V (al 102) w fun t5 w =>
 U (st 102 t5 t10) w fun w =>
 V (un .not t11) w fun t13 w =>
 CondW t13
 (R (.tuple #[(.int .i64 0), (.int .i64 0), (.int .i64 1)]) w)
 (∀ K0 : List Value → World → Prop, (∀ t6, ∀ w, (∀ g : Env,
 V (un .not t6) w fun t80 w =>
 CondW t80
 (R (.tuple #[(.int .i64 0), (.int .i64 0), (.int .i64 1)]) w)
 (Dr w fun w =>
 PV (fa 102 t5 2) fun t81 =>
 HV (ld 3 t81) w fun t82 =>
 PV (fa 102 t5 3) fun t83 =>
 HV (ld 3 t83) w fun t84 =>
 R (.tuple #[t82, t84, (.int .i64 0)]) w)) → K0 [t6] w) →
 V (fa 38 t1 0) w fun t14 w =>
 V (ld 3 t14) w fun t15 w =>
 ∀ K1 : List Value → World → Prop, (∀ t16, ∀ w, (∀ g : Env,
 CondW t16
 (Dr w fun w =>
 PV (fa 38 t1 2) fun t19 =>
 HV (ld 3 t19) w fun t20 =>
 PV (fa 38 t1 2) fun t22 =>
 HV (ld 3 t22) w fun t23 =>
 CV (.func (.func 56) #[] #[]) #[(.int .i64 16), t20] w fun t21 w =>
 RunIs (ld 3 t22) w t23 ∧ (PV (fa 102 t5 2) fun t24 =>
 U (st 3 t24 t23) w fun w =>
 K0 [t21] w))
 (V (eq .eql 3 (.tmp 15) (.const (.int .i64 19)) t15 (.int .i64 19)) w fun t26 w =>
 CondW t26
 (Dr w fun w =>
 PV (fa 38 t1 1) fun t27 =>
 HV (ld 3 t27) w fun t28 =>
 PV (fa 38 t1 1) fun t30 =>
 HV (ld 3 t30) w fun t31 =>
 PV (bi .quo 3 t31 (.int .i64 2)) fun t32 =>
 CV (.func (.func 56) #[] #[]) #[(.int .i64 15), t28] w fun t29 w =>
 RunIs (ld 3 t30) w t31 ∧ (PV (fa 102 t5 2) fun t33 =>
 U (st 3 t33 t32) w fun w =>
 K0 [t29] w))
 (V (eq .eql 3 (.tmp 15) (.const (.int .i64 27)) t15 (.int .i64 27)) w fun t35 w =>
 CondW t35
 (Dr w fun w =>
 PV (fa 38 t1 2) fun t36 =>
 HV (ld 3 t36) w fun t37 =>
 PV (fa 38 t1 2) fun t40 =>
 HV (ld 3 t40) w fun t41 =>
 CV (.func (.func 57) #[] #[]) #[t37] w fun t38 w =>
 RunIs (ld 3 t40) w t41 ∧ (PV (bi .geq 3 t38 (.int .i64 0)) fun t39 =>
 CV (.func (.func 57) #[] #[]) #[t41] w fun t42 w =>
 PV (bi .add 3 (.int .i64 1) t42) fun t43 =>
 PV (fa 102 t5 2) fun t44 =>
 U (st 3 t44 t43) w fun w =>
 K0 [t39] w))
 (V (eq .eql 3 (.tmp 15) (.const (.int .i64 35)) t15 (.int .i64 35)) w fun t46 w =>
 CondW t46
 (V (fa 38 t1 1) w fun t47 w =>
 V (ld 3 t47) w fun t48 w =>
 CV (.func (.func 56) #[] #[]) #[(.int .i64 15), t48] w fun t49 w =>
 ∀ K1 : List Value → World → Prop, (∀ t54, ∀ w, (∀ g : Env,
 V (fa 38 t1 1) w fun t55 w =>
 V (ld 3 t55) w fun t56 w =>
 V (bi .lss 3 t56 (.int .i64 2)) w fun t57 w =>
 CondW t57
 (V (fa 38 t1 2) w fun t58 w =>
 V (ld 3 t58) w fun t59 w =>
 V (fa 102 t5 2) w fun t60 w =>
 U (st 3 t60 t59) w fun w =>
 K0 [t54] w)
 (K0 [t54] w)) → K1 [t54] w) →
 CondW t49
 (V (fa 38 t1 2) w fun t51 w =>
 V (ld 3 t51) w fun t52 w =>
 CV (.func (.func 56) #[] #[]) #[(.int .i64 14), t52] w fun t53 w =>
 K1 [t53] w)
 (K1 [(.bool false)] w))
 (V (eq .eql 3 (.tmp 15) (.const (.int .i64 36)) t15 (.int .i64 36)) w fun t62 w =>
 CondW t62
 (V (fa 38 t1 2) w fun t63 w =>
 V (ld 3 t63) w fun t64 w =>
 CV (.func (.func 56) #[] #[]) #[(.int .i64 19), t64] w fun t65 w =>
 V (fa 38 t1 2) w fun t66 w =>
 V (ld 3 t66) w fun t67 w =>
 V (eq .eql 3 (.tmp 67) (.const (.int .i64 6)) t67 (.int .i64 6)) w fun t68 w =>
 CondW t68
 (V (fa 102 t5 2) w fun t69 w =>
 U (st 3 t69 (.int .i64 1)) w fun w =>
 K0 [t65] w)
 (K0 [t65] w))
 (∀ K1 : List Value → World → Prop, (∀ t70, ∀ w, (∀ g : Env,
 CondW t70
 (Dr w fun w =>
 PV (fa 38 t1 1) fun t73 =>
 HV (ld 3 t73) w fun t74 =>
 PV (fa 38 t1 1) fun t76 =>
 HV (ld 3 t76) w fun t77 =>
 CV (.func (.func 56) #[] #[]) #[(.int .i64 14), t74] w fun t75 w =>
 RunIs (ld 3 t76) w t77 ∧ (PV (fa 102 t5 2) fun t78 =>
 U (st 3 t78 t77) w fun w =>
 K0 [t75] w))
 (K0 [t11] w)) → K1 [t70] w) →
 V (eq .eql 3 (.tmp 15) (.const (.int .i64 40)) t15 (.int .i64 40)) w fun t71 w =>
 CondW t71
 (K1 [t71] w)
 (V (eq .eql 3 (.tmp 15) (.const (.int .i64 41)) t15 (.int .i64 41)) w fun t72 w =>
 K1 [t72] w))))))) → K1 [t16] w) →
 V (eq .eql 3 (.tmp 15) (.const (.int .i64 12)) t15 (.int .i64 12)) w fun t17 w =>
 CondW t17
 (K1 [t17] w)
 (V (eq .eql 3 (.tmp 15) (.const (.int .i64 21)) t15 (.int .i64 21)) w fun t18 w =>
 K1 [t18] w))
theorem en17 (h : vc17 R w t0) : Calls Tryz.prog 17 #[t0] w (retK R) := calls_of_enter mixed Tryz.func17 (by kernel_rfl) (Eq.mpr (by kernel_rfl : enterW Tryz.prog Tryz.f17 an17 [t0] w R = vc17 R w t0) h)
def an18 : Ann := (.seq (oD 2) (.seq (oD 8) (.seq (.seq (oD 2) (.cond (.seq (oD 2) .leaf) .leaf)) (.seq (oD 7) (.seq (oD 1) (.seqJ [6] ([20, 21, 23, 22, 24, 25, 26, 27, 28, 6, 29, 30, 31, 33, 32] ++ rgN 34 8 ++ [43, 42] ++ rgN 44 9 ++ [54, 53] ++ rgN 55 16 ++ [72, 71] ++ rgN 73 8 ++ [82, 81] ++ rgN 83 8) (.seq (oD 2) (.one (.seqJ [22] [23, 22, 24] (.seq (oD 2) (.cond .leaf (oD 2))) (.cond (.seq (oD 5) (oD 4)) (.seq (oD 2) (.cond (.seq (oD 5) (.seq (oD 3) (.cond (oD 2) .leaf))) (.seq (oD 2) (.cond (.seq (oD 5) (oD 6)) (.seq (oD 2) (.cond (.seq (.reg (opn 5 (.join [64] [60, 61, 62, 63, 64] (.split 59 (opn 5 .done) (opn 5 .done)) (opn 1 .done)))) (.seq (oD 3) (.cond (oD 4) .leaf))) (.seq (oD 2) (.cond (.seq (oD 5) (.seq (oD 3) (.cond (oD 2) .leaf))) (.seqJ [81] [82, 81, 83] (.seq (oD 2) (.cond .leaf (oD 2))) (.cond (.seq (oD 5) (oD 4)) .leaf)))))))))))))) (.seq (.seq (oD 1) (.cond (.seq (oD 2) .leaf) .leaf)) (.seq (oD 2) .leaf))))))))
def vc18 (R : Value → World → Prop) (w : World) (t0 : Value) : Prop :=
 V (bx 38 t0) w fun t1 w =>
 V (al 42) w fun t2 w =>
 V (ld 38 t1) w fun t8 w =>
 CV (.func (.func 58) #[] #[]) #[t8] w fun t9 w =>
 V (ex t9 0) w fun t10 w =>
 V (ex t9 1) w fun t11 w =>
 V (al 108) w fun t3 w =>
 U (st 108 t3 t10) w fun w =>
 V (un .not t11) w fun t13 w =>
 CondW t13
 (V (bd 42 #[(2, (.int .i64 1))]) w fun t14 w =>
 U (st 42 t2 t14) w fun w =>
 CW 42 t2 w fun t1002 => R t1002 w)
 (V (fa 108 t3 3) w fun t15 w =>
 V (ld 3 t15) w fun t16 w =>
 V (fa 108 t3 4) w fun t17 w =>
 V (ld 3 t17) w fun t18 w =>
 V (bd 42 #[(0, t16), (1, t18)]) w fun t19 w =>
 V (al 42) w fun t5 w =>
 U (st 42 t5 t19) w fun w =>
 ∀ K0 : List Value → World → Prop, (∀ t6, ∀ w, (∀ g : Env,
 CondW t6
 (V (bd 42 #[(2, (.int .i64 1))]) w fun t92 w =>
 U (st 42 t2 t92) w fun w =>
 CW 42 t2 w fun t1002 => R t1002 w)
 (V (ld 42 t5) w fun t93 w =>
 U (st 42 t2 t93) w fun w =>
 CW 42 t2 w fun t1002 => R t1002 w)) → K0 [t6] w) →
 V (fa 38 t1 0) w fun t20 w =>
 V (ld 3 t20) w fun t21 w =>
 ∀ K1 : List Value → World → Prop, (∀ t22, ∀ w, (∀ g : Env,
 CondW t22
 (V (fa 38 t1 2) w fun t25 w =>
 V (ld 3 t25) w fun t26 w =>
 CV (.func (.func 59) #[] #[]) #[t26, (.int .i64 0), (.int .i64 10)] w fun t27 w =>
 V (un .not t27) w fun t28 w =>
 V (fa 38 t1 2) w fun t29 w =>
 V (ld 3 t29) w fun t30 w =>
 V (fa 42 t5 0) w fun t31 w =>
 U (st 3 t31 t30) w fun w =>
 K0 [t28] w)
 (V (eq .eql 3 (.tmp 21) (.const (.int .i64 19)) t21 (.int .i64 19)) w fun t33 w =>
 CondW t33
 (V (fa 38 t1 1) w fun t34 w =>
 V (ld 3 t34) w fun t35 w =>
 CV (.func (.func 59) #[] #[]) #[t35, (.int .i64 0), (.int .i64 2)] w fun t36 w =>
 V (un .not t36) w fun t37 w =>
 V (fa 38 t1 1) w fun t38 w =>
 V (ld 3 t38) w fun t39 w =>
 V (eq .eql 3 (.tmp 39) (.const (.int .i64 2)) t39 (.int .i64 2)) w fun t40 w =>
 CondW t40
 (V (fa 42 t5 0) w fun t41 w =>
 U (st 3 t41 (.int .i64 1)) w fun w =>
 K0 [t37] w)
 (K0 [t37] w))
 (V (eq .eql 3 (.tmp 21) (.const (.int .i64 27)) t21 (.int .i64 27)) w fun t43 w =>
 CondW t43
 (V (fa 38 t1 2) w fun t44 w =>
 V (ld 3 t44) w fun t45 w =>
 CV (.func (.func 60) #[] #[]) #[t45] w fun t46 w =>
 V (bi .lss 3 t46 (.int .i64 0)) w fun t47 w =>
 V (fa 38 t1 2) w fun t48 w =>
 V (ld 3 t48) w fun t49 w =>
 CV (.func (.func 60) #[] #[]) #[t49] w fun t50 w =>
 V (bi .add 3 (.int .i64 1) t50) w fun t51 w =>
 V (fa 42 t5 0) w fun t52 w =>
 U (st 3 t52 t51) w fun w =>
 K0 [t47] w)
 (V (eq .eql 3 (.tmp 21) (.const (.int .i64 35)) t21 (.int .i64 35)) w fun t54 w =>
 CondW t54
 (V (fa 38 t1 1) w fun t55 w =>
 V (ld 3 t55) w fun t56 w =>
 CV (.func (.func 59) #[] #[]) #[t56, (.int .i64 0), (.int .i64 2)] w fun t57 w =>
 V (un .not t57) w fun t58 w =>
 ∀ K1 : List Value → World → Prop, (∀ t64, ∀ w, (∀ g : Env,
 V (fa 38 t1 1) w fun t65 w =>
 V (ld 3 t65) w fun t66 w =>
 V (bi .lss 3 t66 (.int .i64 2)) w fun t67 w =>
 CondW t67
 (V (fa 38 t1 2) w fun t68 w =>
 V (ld 3 t68) w fun t69 w =>
 V (fa 42 t5 0) w fun t70 w =>
 U (st 3 t70 t69) w fun w =>
 K0 [t64] w)
 (K0 [t64] w)) → K1 [t64] w) →
 CondW t58
 (K1 [(.bool true)] w)
 (V (fa 38 t1 2) w fun t60 w =>
 V (ld 3 t60) w fun t61 w =>
 CV (.func (.func 59) #[] #[]) #[t61, (.int .i64 0), (.int .i64 1)] w fun t62 w =>
 V (un .not t62) w fun t63 w =>
 K1 [t63] w))
 (V (eq .eql 3 (.tmp 21) (.const (.int .i64 36)) t21 (.int .i64 36)) w fun t72 w =>
 CondW t72
 (V (fa 38 t1 2) w fun t73 w =>
 V (ld 3 t73) w fun t74 w =>
 CV (.func (.func 59) #[] #[]) #[t74, (.int .i64 1), (.int .i64 6)] w fun t75 w =>
 V (un .not t75) w fun t76 w =>
 V (fa 38 t1 2) w fun t77 w =>
 V (ld 3 t77) w fun t78 w =>
 V (eq .eql 3 (.tmp 78) (.const (.int .i64 6)) t78 (.int .i64 6)) w fun t79 w =>
 CondW t79
 (V (fa 42 t5 0) w fun t80 w =>
 U (st 3 t80 (.int .i64 1)) w fun w =>
 K0 [t76] w)
 (K0 [t76] w))
 (∀ K1 : List Value → World → Prop, (∀ t81, ∀ w, (∀ g : Env,
 CondW t81
 (V (fa 38 t1 1) w fun t84 w =>
 V (ld 3 t84) w fun t85 w =>
 CV (.func (.func 59) #[] #[]) #[t85, (.int .i64 0), (.int .i64 1)] w fun t86 w =>
 V (un .not t86) w fun t87 w =>
 V (fa 38 t1 1) w fun t88 w =>
 V (ld 3 t88) w fun t89 w =>
 V (fa 42 t5 0) w fun t90 w =>
 U (st 3 t90 t89) w fun w =>
 K0 [t87] w)
 (K0 [(.bool false)] w)) → K1 [t81] w) →
 V (eq .eql 3 (.tmp 21) (.const (.int .i64 40)) t21 (.int .i64 40)) w fun t82 w =>
 CondW t82
 (K1 [t82] w)
 (V (eq .eql 3 (.tmp 21) (.const (.int .i64 41)) t21 (.int .i64 41)) w fun t83 w =>
 K1 [t83] w))))))) → K1 [t22] w) →
 V (eq .eql 3 (.tmp 21) (.const (.int .i64 12)) t21 (.int .i64 12)) w fun t23 w =>
 CondW t23
 (K1 [t23] w)
 (V (eq .eql 3 (.tmp 21) (.const (.int .i64 21)) t21 (.int .i64 21)) w fun t24 w =>
 K1 [t24] w))
theorem en18 (h : vc18 R w t0) : Calls Tryz.prog 18 #[t0] w (retK R) := calls_of_enter mixed Tryz.func18 (by kernel_rfl) (Eq.mpr (by kernel_rfl : enterW Tryz.prog Tryz.f18 an18 [t0] w R = vc18 R w t0) h)
def an20 : Ann := (.seq (oD 4) (.seq (.seq (oD 7) (.seq (oD 2) (.cond (.seq (oD 5) .leaf) .leaf))) (.seq (oD 3) (.seq (oD 6) (.seq (oD 1) (.seq (oD 6) (.seq (.seq (oD 4) (.one (.loop [205, 50] ([51, 52, 53, 54, 12, 11] ++ rgN 55 15 ++ [205] ++ rgN 81 7 ++ [50]) (.seq (oD 1) (.seq (.cond .leaf .leaf) (.seqJ [205] ([52, 53, 54, 12, 11] ++ rgN 55 15 ++ [205] ++ rgN 81 6) (.one (.seq (oD 6) (.seq (oD 4) (.seq (.seq (oD 5) (.cond .leaf .leaf)) (.seq (oD 7) (.seq (.seq (oD 1) (.one (.rf [] (.seq (oD 1) (oD 1)) (.one (.seq (oD 4) (.seq (oD 2) (.cond (oD 5) .leaf))))))) (oD 7))))))) (oD 2))))))) (.seq (oD 3) (.seq (oD 11) (.seq (oD 11) (.seq (oD 11) (.seq (oD 3) (.seq (.seq (oD 4) (.one (.loop [205, 119] ([120, 121, 20, 122, 123, 124, 125, 126, 21, 127, 205] ++ rgN 138 6 ++ [119]) (.seq (oD 1) (.seq (.cond .leaf .leaf) (.seq (.one (.seq (oD 2) (.seq (oD 7) (.seq (.seq (oD 1) (.one (.rf [] (.seq (oD 1) (oD 1)) (.one (.draw (.take 0 (.hold 1 (tkN 2 3 (.hold 5 (.alts (.eff 6 (.take 7 (.alts (.eff 8 .done .nil))) .nil))))))))))) (oD 6))))) (oD 2))))))) (.seq (.seq (oD 4) (.one (.loop [147] ([148, 149, 24] ++ rgN 150 11 ++ [147]) (.seq (oD 1) (.seq (.cond .leaf .leaf) (.seq (.one (.seq (oD 2) (.draw (.take 0 (.hold 1 (.take 2 (.take 3 (.hold 4 (.take 5 (.take 6 (.hold 7 (.alts (.eff 8 (.take 9 (.alts (.eff 10 .done .nil))) .nil))))))))))))) (oD 2))))))) (.seq (.seq (oD 4) (.one (.loop [164] ([165, 166, 25] ++ rgN 167 11 ++ [164]) (.seq (oD 1) (.seq (.cond .leaf .leaf) (.seq (.one (.seq (oD 2) (.draw (.take 0 (.hold 1 (.take 2 (.take 3 (.hold 4 (.take 5 (.take 6 (.hold 7 (.alts (.eff 8 (.take 9 (.alts (.eff 10 .done .nil))) .nil))))))))))))) (oD 2))))))) (.seq (.seq (oD 4) (.one (.loop [181] ([182, 183, 184, 27] ++ rgN 185 14 ++ [181]) (.seq (oD 1) (.seq (.cond .leaf .leaf) (.seq (.one (.seq (oD 4) (.draw (.take 0 (.hold 1 (.take 2 (.hold 3 (.hold 4 (.take 5 (.hold 6 (.take 7 (.hold 8 (.take 9 (.alts (.eff 10 (.alts (.eff 11 (.take 12 (.alts (.eff 13 .done .nil))) .nil)) .nil))))))))))))))) (oD 2))))))) (.seq (oD 5) (.seq (.draw (.hold 0 (.hold 1 (.alts (.eff 2 (.take 3 (.take 4 .done)) .nil))))) .leaf))))))))))))))))))
def vc20 (R : Value → World → Prop) (w : World) (t0 : Value) : Prop :=
 V (bx 28 t0) w fun t1 w =>
 V (al 28) w fun t2 w =>
 V (ld 28 t1) w fun t29 w =>
 CV (.func (.func 15) #[] #[]) #[t29] w fun t30 w =>
 V (ex t30 0) w fun t31 w =>
 V (ex t30 1) w fun t32 w =>
 V (eq .neq 31 (.tmp 33) (.const (.int .i64 0)) t31 (.int .i64 0)) w fun t34 w =>
 CondW t34
 (V (bd 28 #[]) w fun t35 w =>
 U (st 28 t2 t35) w fun w =>
 CW 28 t2 w fun t1002 => R (.tuple #[t1002, (.slice none 0 0), t31]) w)
 (V (ld 28 t1) w fun t37 w =>
 CV (.func (.func 22) #[] #[]) #[t37] w fun t38 w =>
 V (fa 28 t1 5) w fun t39 w =>
 V (ld 26 t39) w fun t40 w =>
 V (Builtin.len_ #[26] 3 #[t40]) w fun t41 w =>
 V (ms 45 t41 t41) w fun t42 w =>
 V (al 45) w fun t8 w =>
 U (st 45 t8 t42) w fun w =>
 V (al 28) w fun t9 w =>
 V (mm 115 none) w fun t43 w =>
 V (mm 115 none) w fun t44 w =>
 V (mm 115 none) w fun t45 w =>
 V (bd 117 #[(0, t43), (1, t44), (2, t45)]) w fun t46 w =>
 V (al 117) w fun t10 w =>
 U (st 117 t10 t46) w fun w =>
 V (fa 28 t1 5) w fun t47 w =>
 V (ld 26 t47) w fun t48 w =>
 V (Builtin.len_ #[26] 3 #[t48]) w fun t49 w =>
 ∃ (I0 : List Value → World → Prop) (M0 : List Value → World → Nat), I0 [undef, (.int .i64 0)] w ∧ ∀ g : Env, ∀ t205, ∀ t50, ∀ w, I0 [t205, t50] w → ∀ m0, m0 = M0 [t205, t50] w →
 V (bi .lss 3 t50 t49) w fun t51 w =>
 CondW t51
 (∀ K0 : List Value → World → Prop, (∀ t205a, ∀ w, (∀ g : Env,
 V (bi .add 3 t50 (.int .i64 1)) w fun t87 w =>
 I0 [t205a, t87] w ∧ M0 [t205a, t87] w < m0) → K0 [t205a] w) →
 V (ia 26 t48 t50) w fun t53 w =>
 V (ld 38 t53) w fun t54 w =>
 V (al 38) w fun t12 w =>
 U (st 38 t12 t54) w fun w =>
 V (ld 45 t8) w fun t55 w =>
 V (ia 45 t55 t50) w fun t57 w =>
 U (st 3 t57 (.int .i64 (-1))) w fun w =>
 V (ia 49 t38 t50) w fun t60 w =>
 V (ld 4 t60) w fun t61 w =>
 V (un .not t61) w fun t62 w =>
 CondW t62
 (K0 [t205] w)
 (V (ld 45 t8) w fun t63 w =>
 V (fa 28 t9 5) w fun t65 w =>
 V (ld 26 t65) w fun t66 w =>
 V (Builtin.len_ #[26] 3 #[t66]) w fun t67 w =>
 V (ia 45 t63 t50) w fun t68 w =>
 U (st 3 t68 t67) w fun w =>
 CV (.func (.func 61) #[] #[]) #[t12] w fun t69 w =>
 ∀ (lp0 : Loop) (r0 l0 : Nat) (w1 : World), NewRF w w1 r0 l0 lp0 →
 (∀ (w : World) (Kl0 : Value → World → Prop), ∀ t70, ∀ t71, (BeginW l0 lp0 w fun w =>
 V (ld 117 t10) w fun t72 w =>
 CV (.func (.func 62) #[] #[]) #[t72, t70] w fun t74 w =>
 V (eq .neq 115 (.tmp 75) (.const (.map none)) t74 (.map none)) w fun t76 w =>
 CondW t76
 (NilW t71 fun t79 => V (ld 3 t79) w fun t80 w =>
 U (mu 115 t74 t80 (.bool true)) w fun w =>
 EndW l0 lp0 none w Kl0)
 (EndW l0 lp0 none w Kl0)) → w.heap[l0]? = some (lobj lp0 .ready none) → CV (.func (.yield l0) #[] #[]) #[t70, t71] w Kl0) →
 CE t69 #[.func (.yield l0) #[] #[]] w1 fun _ w => RfEnd l0 lp0 w (fun w =>
 V (fa 28 t9 5) w fun t81 w =>
 V (ld 26 t81) w fun t82 w =>
 V (ld 38 t12) w fun t83 w =>
 V (bs 26 1 #[(0, t83)]) w fun t84 w =>
 V (Builtin.append_ #[26, 26] 26 #[t82, t84]) w fun t85 w =>
 V (fa 28 t9 5) w fun t86 w =>
 U (st 26 t86 t85) w fun w =>
 K0 [(.iface r0 t205)] w) (fun w =>
 TakeW (marks (.iface r0 t205)) w fun w =>
 CW 28 t2 w fun t1002 => R (.tuple #[t1002, (.slice none 0 0), (.int .i64 0)]) w) []))
 (V (al 124) w fun t16 w =>
 V (al 124) w fun t17 w =>
 V (al 124) w fun t18 w =>
 V (fa 28 t1 0) w fun t89 w =>
 V (ld 22 t89) w fun t90 w =>
 V (fa 117 t10 0) w fun t91 w =>
 V (ld 115 t91) w fun t92 w =>
 CV (.func (.func 63) #[] #[]) #[t90, t92] w fun t93 w =>
 V (ex t93 0) w fun t94 w =>
 V (ex t93 1) w fun t95 w =>
 V (fa 28 t9 0) w fun t96 w =>
 U (st 22 t96 t94) w fun w =>
 U (st 124 t16 t95) w fun w =>
 V (fa 28 t1 1) w fun t98 w =>
 V (ld 23 t98) w fun t99 w =>
 V (fa 117 t10 1) w fun t100 w =>
 V (ld 115 t100) w fun t101 w =>
 CV (.func (.func 64) #[] #[]) #[t99, t101] w fun t102 w =>
 V (ex t102 0) w fun t103 w =>
 V (ex t102 1) w fun t104 w =>
 V (fa 28 t9 1) w fun t105 w =>
 U (st 23 t105 t103) w fun w =>
 U (st 124 t17 t104) w fun w =>
 V (fa 28 t1 2) w fun t107 w =>
 V (ld 24 t107) w fun t108 w =>
 V (fa 117 t10 2) w fun t109 w =>
 V (ld 115 t109) w fun t110 w =>
 CV (.func (.func 65) #[] #[]) #[t108, t110] w fun t111 w =>
 V (ex t111 0) w fun t112 w =>
 V (ex t111 1) w fun t113 w =>
 V (fa 28 t9 2) w fun t114 w =>
 U (st 24 t114 t112) w fun w =>
 U (st 124 t18 t113) w fun w =>
 V (al 131) w fun t19 w =>
 U (st 131 t19 (.func (.func 66) #[] #[t8, t17, t18, t10, t16])) w fun w =>
 V (fa 28 t9 5) w fun t116 w =>
 V (ld 26 t116) w fun t117 w =>
 V (Builtin.len_ #[26] 3 #[t117]) w fun t118 w =>
 ∃ (I1 : List Value → World → Prop) (M1 : List Value → World → Nat), I1 [t205, (.int .i64 0)] w ∧ ∀ g : Env, ∀ t205a, ∀ t119, ∀ w, I1 [t205a, t119] w → ∀ m1, m1 = M1 [t205a, t119] w →
 V (bi .lss 3 t119 t118) w fun t120 w =>
 CondW t120
 (V (fa 28 t9 5) w fun t122 w =>
 V (ld 26 t122) w fun t123 w =>
 V (ia 26 t123 t119) w fun t125 w =>
 V (ld 38 t125) w fun t126 w =>
 V (al 38) w fun t21 w =>
 U (st 38 t21 t126) w fun w =>
 CV (.func (.func 61) #[] #[]) #[t21] w fun t127 w =>
 ∀ (lp0 : Loop) (r0 l0 : Nat) (w1 : World), NewRF w w1 r0 l0 lp0 →
 (∀ (w : World) (Kl0 : Value → World → Prop), ∀ t128, ∀ t129, (BeginW l0 lp0 w fun w =>
 Dr w fun w =>
 HV (ld 131 t19) w fun t131 =>
 NilW t129 fun t134 => HV (ld 3 t134) w fun t135 =>
 CV t131 #[t128, t135] w fun t136 w =>
 NilW t129 fun t137 => U (st 3 t137 t136) w fun w =>
 EndW l0 lp0 none w Kl0) → w.heap[l0]? = some (lobj lp0 .ready none) → CV (.func (.yield l0) #[] #[]) #[t128, t129] w Kl0) →
 CE t127 #[.func (.yield l0) #[] #[]] w1 fun _ w => RfEnd l0 lp0 w (fun w =>
 V (fa 28 t9 5) w fun t138 w =>
 V (ld 26 t138) w fun t139 w =>
 V (ld 38 t21) w fun t141 w =>
 V (ia 26 t139 t119) w fun t142 w =>
 U (st 38 t142 t141) w fun w =>
 V (bi .add 3 t119 (.int .i64 1)) w fun t143 w =>
 I1 [(.iface r0 t205a), t143] w ∧ M1 [(.iface r0 t205a), t143] w < m1) (fun w =>
 TakeW (marks (.iface r0 t205a)) w fun w =>
 CW 28 t2 w fun t1002 => R (.tuple #[t1002, (.slice none 0 0), (.int .i64 0)]) w) [])
 (V (fa 28 t9 1) w fun t144 w =>
 V (ld 23 t144) w fun t145 w =>
 V (Builtin.len_ #[23] 3 #[t145]) w fun t146 w =>
 ∃ (I2 : List Value → World → Prop) (M2 : List Value → World → Nat), I2 [(.int .i64 0)] w ∧ ∀ g : Env, ∀ t147, ∀ w, I2 [t147] w → ∀ m2, m2 = M2 [t147] w →
 V (bi .lss 3 t147 t146) w fun t148 w =>
 CondW t148
 (Dr w fun w =>
 PV (fa 28 t9 1) fun t150 =>
 HV (ld 23 t150) w fun t151 =>
 PV (fa 28 t9 1) fun t153 =>
 HV (ld 23 t153) w fun t154 =>
 PV (ia 23 t154 t147) fun t156 =>
 HV (ld 93 t156) w fun t157 =>
 CV (.func (.func 67) #[] #[]) #[t157] w fun t158 w =>
 RunIs (ld 23 t153) w t154 ∧ RunIs (ld 23 t150) w t151 ∧ (PV (ia 23 t151 t147) fun t159 =>
 U (st 93 t159 t158) w fun w =>
 V (bi .add 3 t147 (.int .i64 1)) w fun t160 w =>
 I2 [t160] w ∧ M2 [t160] w < m2))
 (V (fa 28 t9 2) w fun t161 w =>
 V (ld 24 t161) w fun t162 w =>
 V (Builtin.len_ #[24] 3 #[t162]) w fun t163 w =>
 ∃ (I3 : List Value → World → Prop) (M3 : List Value → World → Nat), I3 [(.int .i64 0)] w ∧ ∀ g : Env, ∀ t164, ∀ w, I3 [t164] w → ∀ m3, m3 = M3 [t164] w →
 V (bi .lss 3 t164 t163) w fun t165 w =>
 CondW t165
 (Dr w fun w =>
 PV (fa 28 t9 2) fun t167 =>
 HV (ld 24 t167) w fun t168 =>
 PV (fa 28 t9 2) fun t170 =>
 HV (ld 24 t170) w fun t171 =>
 PV (ia 24 t171 t164) fun t173 =>
 HV (ld 96 t173) w fun t174 =>
 CV (.func (.func 68) #[] #[]) #[t174] w fun t175 w =>
 RunIs (ld 24 t170) w t171 ∧ RunIs (ld 24 t167) w t168 ∧ (PV (ia 24 t168 t164) fun t176 =>
 U (st 96 t176 t175) w fun w =>
 V (bi .add 3 t164 (.int .i64 1)) w fun t177 w =>
 I3 [t177] w ∧ M3 [t177] w < m3))
 (V (fa 28 t1 3) w fun t178 w =>
 V (ld 25 t178) w fun t179 w =>
 V (Builtin.len_ #[25] 3 #[t179]) w fun t180 w =>
 ∃ (I4 : List Value → World → Prop) (M4 : List Value → World → Nat), I4 [(.int .i64 0)] w ∧ ∀ g : Env, ∀ t181, ∀ w, I4 [t181] w → ∀ m4, m4 = M4 [t181] w →
 V (bi .lss 3 t181 t180) w fun t182 w =>
 CondW t182
 (V (ia 25 t179 t181) w fun t183 w =>
 V (ld 54 t183) w fun t184 w =>
 V (al 54) w fun t27 w =>
 U (st 54 t27 t184) w fun w =>
 Dr w fun w =>
 PV (fa 28 t9 3) fun t185 =>
 HV (ld 25 t185) w fun t186 =>
 PV (fa 54 t27 0) fun t187 =>
 HV (ld 9 t187) w fun t188 =>
 HV (ld 45 t8) w fun t189 =>
 PV (fa 54 t27 1) fun t190 =>
 HV (ld 3 t190) w fun t191 =>
 PV (ia 45 t189 t191) fun t192 =>
 HV (ld 3 t192) w fun t193 =>
 PV (bd 54 #[(0, t188), (1, t193)]) fun t194 =>
 V (bs 25 1 #[(0, t194)]) w fun t195 w =>
 RunIs (ld 3 t192) w t193 ∧ RunIs (ld 3 t190) w t191 ∧ RunIs (ld 45 t8) w t189 ∧ RunIs (ld 9 t187) w t188 ∧ RunIs (ld 25 t185) w t186 ∧ (V (Builtin.append_ #[25, 25] 25 #[t186, t195]) w fun t196 w =>
 RunIs (ld 3 t192) w t193 ∧ RunIs (ld 3 t190) w t191 ∧ RunIs (ld 45 t8) w t189 ∧ RunIs (ld 9 t187) w t188 ∧ (PV (fa 28 t9 3) fun t197 =>
 U (st 25 t197 t196) w fun w =>
 V (bi .add 3 t181 (.int .i64 1)) w fun t198 w =>
 I4 [t198] w ∧ M4 [t198] w < m4)))
 (V (fa 28 t1 4) w fun t199 w =>
 V (ld 22 t199) w fun t200 w =>
 CV (.func (.func 69) #[] #[]) #[t200] w fun t201 w =>
 V (fa 28 t9 4) w fun t202 w =>
 U (st 22 t202 t201) w fun w =>
 Dr w fun w =>
 HV (ld 28 t9) w fun t203 =>
 HV (ld 45 t8) w fun t204 =>
 U (st 28 t2 t203) w fun w =>
 RunIs (ld 45 t8) w t204 ∧ (TakeW (marks t205a) w fun w =>
 CW 28 t2 w fun t1002 => R (.tuple #[t1002, t204, (.int .i64 0)]) w)))))))
theorem en20 (h : vc20 R w t0) : Calls Tryz.prog 20 #[t0] w (retK R) := calls_of_enter mixed Tryz.func20 (by kernel_rfl) (Eq.mpr (by kernel_rfl : enterW Tryz.prog Tryz.f20 an20 [t0] w R = vc20 R w t0) h)
def an22 : Ann := (.seq (oD 2) (.seq (.seq (.reg (opn 5 (.join [16] [12, 13, 14, 15, 16] (.split 11 (opn 5 .done) (opn 5 .done)) (opn 1 (.join [22] [18, 19, 20, 21, 22] (.split 17 (opn 5 .done) (opn 5 .done)) .done))))) (.cond (.seq (oD 1) .leaf) .leaf)) (.seq (oD 5) (.seq (oD 4) (.seq (.one (.loop [60] (rgN 29 9 ++ [5] ++ rgN 38 15 ++ [60]) (.seq (.seq (oD 3) (.cond .leaf .leaf)) (.one (.seq (oD 7) (.seq (oD 6) (.seq (.seq (oD 4) (.cond .leaf .leaf)) (.seq (oD 4) (.seq (oD 3) (.one (.rf [] (oD 1) (.one (oD 5))))))))))))) (.seq (oD 2) .leaf))))))
def vc22 (R : Value → World → Prop) (w : World) (t0 : Value) : Prop :=
 V (bx 28 t0) w fun t1 w =>
 V (fa 28 t1 5) w fun t7 w =>
 V (ld 26 t7) w fun t8 w =>
 V (Builtin.len_ #[26] 3 #[t8]) w fun t9 w =>
 V (bi .gtr 3 t9 (.int .i64 12000)) w fun t10 w =>
 ∀ K0 : List Value → World → Prop, (∀ t16, ∀ w, (∀ g : Env,
 ∀ K0 : List Value → World → Prop, (∀ t22, ∀ w, (∀ g : Env,
 CondW t22
 (R (.slice none 0 0) w)
 (V (fa 28 t1 5) w fun t23 w =>
 V (ld 26 t23) w fun t24 w =>
 V (Builtin.len_ #[26] 3 #[t24]) w fun t25 w =>
 V (ms 49 t25 t25) w fun t26 w =>
 V (ld 28 t1) w fun t27 w =>
 CV (.func (.func 73) #[] #[]) #[t27] w fun t28 w =>
 V (al 45) w fun t4 w =>
 U (st 45 t4 t28) w fun w =>
 ∃ (I0 : List Value → World → Prop) (M0 : List Value → World → Nat), I0 [undef] w ∧ ∀ g : Env, ∀ t60, ∀ w, I0 [t60] w → ∀ m0, m0 = M0 [t60] w →
 V (ld 45 t4) w fun t29 w =>
 V (Builtin.len_ #[45] 3 #[t29]) w fun t30 w =>
 V (bi .gtr 3 t30 (.int .i64 0)) w fun t31 w =>
 CondW t31
 (V (ld 45 t4) w fun t32 w =>
 V (ld 45 t4) w fun t33 w =>
 V (Builtin.len_ #[45] 3 #[t33]) w fun t34 w =>
 V (bi .sub 3 t34 (.int .i64 1)) w fun t35 w =>
 V (ia 45 t32 t35) w fun t36 w =>
 V (ld 3 t36) w fun t37 w =>
 V (ld 45 t4) w fun t38 w =>
 V (ld 45 t4) w fun t39 w =>
 V (Builtin.len_ #[45] 3 #[t39]) w fun t40 w =>
 V (bi .sub 3 t40 (.int .i64 1)) w fun t41 w =>
 V (sl 45 t38 none (some t41) none) w fun t42 w =>
 U (st 45 t4 t42) w fun w =>
 V (ia 49 t26 t37) w fun t45 w =>
 V (ld 4 t45) w fun t46 w =>
 CondW t46
 (I0 [t60] w ∧ M0 [t60] w < m0)
 (V (ia 49 t26 t37) w fun t49 w =>
 U (st 4 t49 (.bool true)) w fun w =>
 V (ld 28 t1) w fun t50 w =>
 CV (.func (.func 74) #[] #[]) #[t50, t37] w fun t52 w =>
 ∀ (lp0 : Loop) (r0 l0 : Nat) (w1 : World), NewRF w w1 r0 l0 lp0 →
 (∀ (w : World) (Kl0 : Value → World → Prop), ∀ t53, ∀ t54, (BeginW l0 lp0 w fun w =>
 V (ld 45 t4) w fun t55 w =>
 V (bs 45 1 #[(0, t53)]) w fun t57 w =>
 V (Builtin.append_ #[45, 45] 45 #[t55, t57]) w fun t58 w =>
 U (st 45 t4 t58) w fun w =>
 EndW l0 lp0 none w Kl0) → w.heap[l0]? = some (lobj lp0 .ready none) → CV (.func (.yield l0) #[] #[]) #[t53, t54] w Kl0) →
 CE t52 #[.func (.yield l0) #[] #[]] w1 fun _ w => RfEnd l0 lp0 w (fun w =>
 I0 [(.iface r0 t60)] w ∧ M0 [(.iface r0 t60)] w < m0) (fun w =>
 TakeW (marks (.iface r0 t60)) w fun w =>
 R (.slice none 0 0) w) []))
 (TakeW (marks t60) w fun w =>
 R t26 w))) → K0 [t22] w) →
 CondW t16
 (K0 [(.bool true)] w)
 (V (fa 28 t1 5) w fun t18 w =>
 V (ld 26 t18) w fun t19 w =>
 V (Builtin.len_ #[26] 3 #[t19]) w fun t20 w =>
 V (eq .eql 3 (.tmp 20) (.const (.int .i64 0)) t20 (.int .i64 0)) w fun t21 w =>
 K0 [t21] w)) → K0 [t16] w) →
 CondW t10
 (K0 [(.bool true)] w)
 (V (fa 28 t1 3) w fun t12 w =>
 V (ld 25 t12) w fun t13 w =>
 V (Builtin.len_ #[25] 3 #[t13]) w fun t14 w =>
 V (bi .gtr 3 t14 (.int .i64 3000)) w fun t15 w =>
 K0 [t15] w)
theorem en22 (h : vc22 R w t0) : Calls Tryz.prog 22 #[t0] w (retK R) := calls_of_enter mixed Tryz.func22 (by kernel_rfl) (Eq.mpr (by kernel_rfl : enterW Tryz.prog Tryz.f22 an22 [t0] w R = vc22 R w t0) h)
def an23 : Ann := (.seq (oD 4) (.seq (.seq (oD 7) (.seq (oD 2) (.cond (.seq (oD 4) .leaf) .leaf))) (.seq (oD 9) (.seq (oD 5) .leaf))))
def vc23 (R : Value → World → Prop) (w : World) (t0 : Value) : Prop :=
 V (bx 28 t0) w fun t1 w =>
 V (ld 28 t1) w fun t11 w =>
 CV (.func (.func 15) #[] #[]) #[t11] w fun t12 w =>
 V (ex t12 0) w fun t13 w =>
 V (ex t12 1) w fun t14 w =>
 V (eq .neq 31 (.tmp 15) (.const (.int .i64 0)) t13 (.int .i64 0)) w fun t16 w =>
 CondW t16
 (R (.tuple #[(.slice none 0 0), (.slice none 0 0), t13]) w)
 (V (ld 28 t1) w fun t19 w =>
 CV (.func (.func 50) #[] #[]) #[t19] w fun t20 w =>
 V (ex t20 0) w fun t21 w =>
 V (ex t20 1) w fun t22 w =>
 V (ex t20 2) w fun t23 w =>
 R (.tuple #[t21, t22, (.int .i64 0)]) w)
theorem en23 (h : vc23 R w t0) : Calls Tryz.prog 23 #[t0] w (retK R) := calls_of_enter mixed Tryz.func23 (by kernel_rfl) (Eq.mpr (by kernel_rfl : enterW Tryz.prog Tryz.f23 an23 [t0] w R = vc23 R w t0) h)
def an24 : Ann := (.seq (oD 2) (.seq (.seq (.reg (opn 5 (.join [16] [12, 13, 14, 15, 16] (.split 11 (opn 5 .done) (opn 5 .done)) (opn 1 (.join [25] (rgN 18 8) (.split 17 (opn 8 .done) (opn 8 .done)) .done))))) (.cond (.seq (oD 1) .leaf) .leaf)) (.seq (oD 1) (.seq (.seq (oD 3) (.one (.rf [] (oD 1) (.one (.seq (oD 4) (.cond (oD 5) .leaf)))))) (.seq (oD 2) .leaf)))))
def vc24 (R : Value → World → Prop) (w : World) (t0 t1 : Value) : Prop :=
 V (bx 28 t0) w fun t2 w =>
 V (fa 28 t2 5) w fun t7 w =>
 V (ld 26 t7) w fun t8 w =>
 V (Builtin.len_ #[26] 3 #[t8]) w fun t9 w =>
 V (bi .gtr 3 t9 (.int .i64 12000)) w fun t10 w =>
 ∀ K0 : List Value → World → Prop, (∀ t16, ∀ w, (∀ g : Env,
 ∀ K0 : List Value → World → Prop, (∀ t25, ∀ w, (∀ g : Env,
 CondW t25
 (R (.slice none 0 0) w)
 (V (al 45) w fun t5 w =>
 V (ld 28 t2) w fun t26 w =>
 CV (.func (.func 74) #[] #[]) #[t26, t1] w fun t28 w =>
 ∀ (lp0 : Loop) (r0 l0 : Nat) (w1 : World), NewRF w w1 r0 l0 lp0 →
 (∀ (w : World) (Kl0 : Value → World → Prop), ∀ t29, ∀ t30, (BeginW l0 lp0 w fun w =>
 V (ld 45 t5) w fun t31 w =>
 CV (.func (.func 76) #[] #[]) #[t31, t29] w fun t33 w =>
 V (un .not t33) w fun t34 w =>
 CondW t34
 (V (ld 45 t5) w fun t35 w =>
 V (bs 45 1 #[(0, t29)]) w fun t37 w =>
 V (Builtin.append_ #[45, 45] 45 #[t35, t37]) w fun t38 w =>
 U (st 45 t5 t38) w fun w =>
 EndW l0 lp0 none w Kl0)
 (EndW l0 lp0 none w Kl0)) → w.heap[l0]? = some (lobj lp0 .ready none) → CV (.func (.yield l0) #[] #[]) #[t29, t30] w Kl0) →
 CE t28 #[.func (.yield l0) #[] #[]] w1 fun _ w => RfEnd l0 lp0 w (fun w =>
 V (ld 45 t5) w fun t39 w =>
 Take1 r0 w fun w =>
 R t39 w) (fun w =>
 Take1 r0 w fun w =>
 R (.slice none 0 0) w) [])) → K0 [t25] w) →
 CondW t16
 (K0 [(.bool true)] w)
 (V (fa 28 t2 5) w fun t19 w =>
 V (ld 26 t19) w fun t20 w =>
 V (Builtin.len_ #[26] 3 #[t20]) w fun t21 w =>
 V (bi .sub 3 t21 (.int .i64 1)) w fun t22 w =>
 CV (.func (.func 75) #[] #[]) #[t1, (.int .i64 0), t22] w fun t23 w =>
 V (un .not t23) w fun t24 w =>
 K0 [t24] w)) → K0 [t16] w) →
 CondW t10
 (K0 [(.bool true)] w)
 (V (fa 28 t2 3) w fun t12 w =>
 V (ld 25 t12) w fun t13 w =>
 V (Builtin.len_ #[25] 3 #[t13]) w fun t14 w =>
 V (bi .gtr 3 t14 (.int .i64 3000)) w fun t15 w =>
 K0 [t15] w)
theorem en24 (h : vc24 R w t0 t1) : Calls Tryz.prog 24 #[t0, t1] w (retK R) := calls_of_enter mixed Tryz.func24 (by kernel_rfl) (Eq.mpr (by kernel_rfl : enterW Tryz.prog Tryz.f24 an24 [t0, t1] w R = vc24 R w t0 t1) h)
def an26 : Ann := (.seq (oD 2) (.seq (.seq (.reg (opn 5 (.join [16] [12, 13, 14, 15, 16] (.split 11 (opn 5 .done) (opn 5 .done)) (opn 1 (.join [22] [18, 19, 20, 21, 22] (.split 17 (opn 5 .done) (opn 5 .done)) .done))))) (.cond (.seq (oD 1) .leaf) .leaf)) (.seq (oD 5) (.seq (oD 2) (.seq (.seq (oD 1) (.one (.loop [4, 5] ([28, 29, 30, 31, 32] ++ rgN 35 20 ++ [4, 33, 34, 5]) (.seq (.seq (oD 5) (.cond .leaf .leaf)) (.seqJ [4] (rgN 35 20 ++ [4]) (.one (.seq (.draw (.take 0 (.hold 1 (tkN 2 3 (.hold 5 (.take 6 (.hold 7 (.take 8 (.take 9 (.alts (.eff 10 .done .nil))))))))))) (.cond (oD 10) .leaf))) (oD 3)))))) (.seq (.one (.loop [4] (rgN 55 9 ++ [6, 64, 65, 66, 67, 68, 4] ++ rgN 69 12) (.seq (.seq (oD 3) (.cond .leaf .leaf)) (.one (.seq (oD 7) (.seq (oD 6) (.seq (.seq (oD 4) (.cond .leaf .leaf)) (.seq (oD 4) (oD 6))))))))) (.seq (oD 2) .leaf)))))))
def vc26 (R : Value → World → Prop) (w : World) (t0 : Value) : Prop :=
 V (bx 28 t0) w fun t1 w =>
 V (fa 28 t1 5) w fun t7 w =>
 V (ld 26 t7) w fun t8 w =>
 V (Builtin.len_ #[26] 3 #[t8]) w fun t9 w =>
 V (bi .gtr 3 t9 (.int .i64 12000)) w fun t10 w =>
 ∀ K0 : List Value → World → Prop, (∀ t16, ∀ w, (∀ g : Env,
 ∀ K0 : List Value → World → Prop, (∀ t22, ∀ w, (∀ g : Env,
 CondW t22
 (R (.slice none 0 0) w)
 (V (fa 28 t1 5) w fun t23 w =>
 V (ld 26 t23) w fun t24 w =>
 V (Builtin.len_ #[26] 3 #[t24]) w fun t25 w =>
 V (ms 49 t25 t25) w fun t26 w =>
 V (bs 45 1 #[(0, (.int .i64 0))]) w fun t27 w =>
 ∃ (I0 : List Value → World → Prop) (M0 : List Value → World → Nat), I0 [t27, (.int .i64 0)] w ∧ ∀ g : Env, ∀ t4, ∀ t5, ∀ w, I0 [t4, t5] w → ∀ m0, m0 = M0 [t4, t5] w →
 V (fa 28 t1 3) w fun t29 w =>
 V (ld 25 t29) w fun t30 w =>
 V (Builtin.len_ #[25] 3 #[t30]) w fun t31 w =>
 V (bi .lss 3 t5 t31) w fun t32 w =>
 CondW t32
 (∀ K0 : List Value → World → Prop, (∀ t4a, ∀ w, (∀ g : Env,
 V (bi .add 3 t5 (.int .i64 1)) w fun t34 w =>
 I0 [t4a, t34] w ∧ M0 [t4a, t34] w < m0) → K0 [t4a] w) →
 Dr w fun w =>
 PV (fa 28 t1 3) fun t35 =>
 HV (ld 25 t35) w fun t36 =>
 PV (ia 25 t36 t5) fun t38 =>
 PV (fa 54 t38 1) fun t39 =>
 HV (ld 3 t39) w fun t40 =>
 PV (fa 28 t1 5) fun t41 =>
 HV (ld 26 t41) w fun t42 =>
 PV (Builtin.len_ #[26] 3 #[t42]) fun t43 =>
 PV (bi .sub 3 t43 (.int .i64 1)) fun t44 =>
 CV (.func (.func 59) #[] #[]) #[t40, (.int .i64 0), t44] w fun t45 w =>
 RunIs (ld 26 t41) w t42 ∧ RunIs (ld 25 t35) w t36 ∧ (CondW t45
 (V (fa 28 t1 3) w fun t47 w =>
 V (ld 25 t47) w fun t48 w =>
 V (ia 25 t48 t5) w fun t50 w =>
 V (fa 54 t50 1) w fun t51 w =>
 V (ld 3 t51) w fun t52 w =>
 V (bs 45 1 #[(0, t52)]) w fun t53 w =>
 V (Builtin.append_ #[45, 45] 45 #[t4, t53]) w fun t54 w =>
 K0 [t54] w)
 (K0 [t4] w)))
 (∃ (I1 : List Value → World → Prop) (M1 : List Value → World → Nat), I1 [t4] w ∧ ∀ g : Env, ∀ t4a, ∀ w, I1 [t4a] w → ∀ m1, m1 = M1 [t4a] w →
 V (Builtin.len_ #[45] 3 #[t4a]) w fun t56 w =>
 V (bi .gtr 3 t56 (.int .i64 0)) w fun t57 w =>
 CondW t57
 (V (Builtin.len_ #[45] 3 #[t4a]) w fun t60 w =>
 V (bi .sub 3 t60 (.int .i64 1)) w fun t61 w =>
 V (ia 45 t4a t61) w fun t62 w =>
 V (ld 3 t62) w fun t63 w =>
 V (Builtin.len_ #[45] 3 #[t4a]) w fun t66 w =>
 V (bi .sub 3 t66 (.int .i64 1)) w fun t67 w =>
 V (sl 45 t4a none (some t67) none) w fun t68 w =>
 V (ia 49 t26 t63) w fun t71 w =>
 V (ld 4 t71) w fun t72 w =>
 CondW t72
 (I1 [t68] w ∧ M1 [t68] w < m1)
 (V (ia 49 t26 t63) w fun t75 w =>
 U (st 4 t75 (.bool true)) w fun w =>
 V (ld 28 t1) w fun t77 w =>
 CV (.func (.func 31) #[] #[]) #[t77, t63] w fun t79 w =>
 V (Builtin.append_ #[45, 45] 45 #[t68, t79]) w fun t80 w =>
 I1 [t80] w ∧ M1 [t80] w < m1))
 (R t26 w)))) → K0 [t22] w) →
 CondW t16
 (K0 [(.bool true)] w)
 (V (fa 28 t1 5) w fun t18 w =>
 V (ld 26 t18) w fun t19 w =>
 V (Builtin.len_ #[26] 3 #[t19]) w fun t20 w =>
 V (eq .eql 3 (.tmp 20) (.const (.int .i64 0)) t20 (.int .i64 0)) w fun t21 w =>
 K0 [t21] w)) → K0 [t16] w) →
 CondW t10
 (K0 [(.bool true)] w)
 (V (fa 28 t1 3) w fun t12 w =>
 V (ld 25 t12) w fun t13 w =>
 V (Builtin.len_ #[25] 3 #[t13]) w fun t14 w =>
 V (bi .gtr 3 t14 (.int .i64 3000)) w fun t15 w =>
 K0 [t15] w)
theorem en26 (h : vc26 R w t0) : Calls Tryz.prog 26 #[t0] w (retK R) := calls_of_enter mixed Tryz.func26 (by kernel_rfl) (Eq.mpr (by kernel_rfl : enterW Tryz.prog Tryz.f26 an26 [t0] w R = vc26 R w t0) h)
def an27 : Ann := (.seq (oD 2) (.seq (oD 4) (.seq (.seq (oD 3) (.cond (.seq (oD 4) .leaf) .leaf)) (.seq (oD 3) .leaf))))
def vc27 (R : Value → World → Prop) (w : World) (t0 : Value) : Prop :=
 V (bx 28 t0) w fun t1 w =>
 V (al 60) w fun t2 w =>
 V (ld 28 t1) w fun t4 w =>
 CV (.func (.func 16) #[] #[]) #[t4] w fun t5 w =>
 V (al 35) w fun t3 w =>
 U (st 35 t3 t5) w fun w =>
 V (fa 35 t3 0) w fun t6 w =>
 V (ld 31 t6) w fun t7 w =>
 V (eq .neq 31 (.tmp 7) (.const (.int .i64 0)) t7 (.int .i64 0)) w fun t8 w =>
 CondW t8
 (V (fa 35 t3 0) w fun t9 w =>
 V (ld 31 t9) w fun t10 w =>
 V (bd 60 #[(2, t10)]) w fun t11 w =>
 U (st 60 t2 t11) w fun w =>
 CW 60 t2 w fun t1002 => R t1002 w)
 (V (ld 28 t1) w fun t12 w =>
 CV (.func (.func 55) #[] #[]) #[t12] w fun t13 w =>
 U (st 60 t2 t13) w fun w =>
 CW 60 t2 w fun t1002 => R t1002 w)
theorem en27 (h : vc27 R w t0) : Calls Tryz.prog 27 #[t0] w (retK R) := calls_of_enter mixed Tryz.func27 (by kernel_rfl) (Eq.mpr (by kernel_rfl : enterW Tryz.prog Tryz.f27 an27 [t0] w R = vc27 R w t0) h)
def an28 : Ann := (.seq (oD 4) (.seq (.seq (oD 7) (.seq (oD 2) (.cond (.seq (oD 3) .leaf) .leaf))) (.seq (oD 5) (.seq (.seq (oD 2) (.cond (.seq (oD 2) .leaf) .leaf)) (.seq (oD 8) .leaf)))))
def vc28 (R : Value → World → Prop) (w : World) (t0 t1 : Value) : Prop :=
 V (bx 28 t0) w fun t2 w =>
 V (bx 9 t1) w fun t3 w =>
 V (ld 28 t2) w fun t10 w =>
 CV (.func (.func 15) #[] #[]) #[t10] w fun t11 w =>
 V (ex t11 0) w fun t12 w =>
 V (ex t11 1) w fun t13 w =>
 V (eq .neq 31 (.tmp 14) (.const (.int .i64 0)) t12 (.int .i64 0)) w fun t15 w =>
 CondW t15
 (R (.tuple #[(.int .i64 0), t12]) w)
 (V (fa 28 t2 3) w fun t17 w =>
 V (ld 25 t17) w fun t18 w =>
 CV (.func (.func 77) #[] #[]) #[t18, (.func (.func 78) #[] #[t3])] w fun t20 w =>
 V (bi .lss 3 t20 (.int .i64 0)) w fun t22 w =>
 CondW t22
 (R (.tuple #[(.int .i64 0), (.int .i64 5)]) w)
 (V (fa 28 t2 3) w fun t23 w =>
 V (ld 25 t23) w fun t24 w =>
 V (ia 25 t24 t20) w fun t26 w =>
 V (fa 54 t26 1) w fun t27 w =>
 V (ld 3 t27) w fun t28 w =>
 R (.tuple #[t28, (.int .i64 0)]) w))
theorem en28 (h : vc28 R w t0 t1) : Calls Tryz.prog 28 #[t0, t1] w (retK R) := calls_of_enter mixed Tryz.func28 (by kernel_rfl) (Eq.mpr (by kernel_rfl : enterW Tryz.prog Tryz.f28 an28 [t0, t1] w R = vc28 R w t0 t1) h)
def an29 : Ann := (.seq (oD 3) (.seq (oD 4) (.seq (.seq (oD 3) (.cond (.seq (.draw (.take 0 (.hold 1 (.take 2 (.take 3 .done))))) .leaf) .leaf)) (.seq (.seq (oD 1) (.one (.loop [7] ([15, 16, 17, 18, 19] ++ rgN 22 14 ++ [4, 5, 20, 21, 7]) (.seq (.seq (oD 5) (.cond .leaf .leaf)) (.seq (.one (.seq (oD 8) (.cond (.seq (oD 8) .leaf) .leaf))) (oD 3)))))) (.seq (oD 2) .leaf)))))
def vc29 (R : Value → World → Prop) (w : World) (t0 t1 : Value) : Prop :=
 V (bx 28 t0) w fun t2 w =>
 V (ld 28 t2) w fun t8 w =>
 CV (.func (.func 16) #[] #[]) #[t8] w fun t9 w =>
 V (al 35) w fun t6 w =>
 U (st 35 t6 t9) w fun w =>
 V (fa 35 t6 0) w fun t10 w =>
 V (ld 31 t10) w fun t11 w =>
 V (eq .neq 31 (.tmp 11) (.const (.int .i64 0)) t11 (.int .i64 0)) w fun t12 w =>
 CondW t12
 (Dr w fun w =>
 PV (fa 35 t6 0) fun t13 =>
 HV (ld 31 t13) w fun t14 =>
 R (.tuple #[(.int .i64 0), t14]) w)
 (∃ (I0 : List Value → World → Prop) (M0 : List Value → World → Nat), I0 [(.int .i64 0)] w ∧ ∀ g : Env, ∀ t7, ∀ w, I0 [t7] w → ∀ m0, m0 = M0 [t7] w →
 V (fa 28 t2 3) w fun t16 w =>
 V (ld 25 t16) w fun t17 w =>
 V (Builtin.len_ #[25] 3 #[t17]) w fun t18 w =>
 V (bi .lss 3 t7 t18) w fun t19 w =>
 CondW t19
 (V (fa 28 t2 3) w fun t22 w =>
 V (ld 25 t22) w fun t23 w =>
 V (ia 25 t23 t7) w fun t25 w =>
 V (fa 54 t25 0) w fun t26 w =>
 V (ld 9 t26) w fun t27 w =>
 V (eq .eql 9 (.tmp 27) (.tmp 28) t27 t1) w fun t29 w =>
 CondW t29
 (V (fa 28 t2 3) w fun t30 w =>
 V (ld 25 t30) w fun t31 w =>
 V (ia 25 t31 t7) w fun t33 w =>
 V (fa 54 t33 1) w fun t34 w =>
 V (ld 3 t34) w fun t35 w =>
 R (.tuple #[t35, (.int .i64 0)]) w)
 (V (bi .add 3 t7 (.int .i64 1)) w fun t21 w =>
 I0 [t21] w ∧ M0 [t21] w < m0))
 (R (.tuple #[(.int .i64 0), (.int .i64 5)]) w))
theorem en29 (h : vc29 R w t0 t1) : Calls Tryz.prog 29 #[t0, t1] w (retK R) := calls_of_enter mixed Tryz.func29 (by kernel_rfl) (Eq.mpr (by kernel_rfl : enterW Tryz.prog Tryz.f29 an29 [t0, t1] w R = vc29 R w t0 t1) h)
def an30 : Ann := (.seq (oD 1) (.seq (.seq (oD 5) (.cond (.seq (oD 1) .leaf) .leaf)) (.seq (.seq (oD 1) (.one (.loop [5] ([11, 12, 13, 14] ++ rgN 17 9 ++ [4, 15, 16, 5]) (.seq (.seq (oD 4) (.cond .leaf .leaf)) (.seq (.one (.seq (.draw (tkN 0 3 (.hold 3 (tkN 4 3 (.hold 7 (.take 8 .done)))))) (.cond (.seq (oD 1) .leaf) .leaf))) (oD 3)))))) (.seq (oD 1) .leaf))))
def vc30 (R : Value → World → Prop) (w : World) (t0 t1 : Value) : Prop :=
 V (Builtin.len_ #[45] 3 #[t0]) w fun t7 w =>
 V (Builtin.len_ #[45] 3 #[t1]) w fun t9 w =>
 V (eq .neq 3 (.tmp 7) (.tmp 9) t7 t9) w fun t10 w =>
 CondW t10
 (R (.bool false) w)
 (∃ (I0 : List Value → World → Prop) (M0 : List Value → World → Nat), I0 [(.int .i64 0)] w ∧ ∀ g : Env, ∀ t5, ∀ w, I0 [t5] w → ∀ m0, m0 = M0 [t5] w →
 V (Builtin.len_ #[45] 3 #[t0]) w fun t13 w =>
 V (bi .lss 3 t5 t13) w fun t14 w =>
 CondW t14
 (Dr w fun w =>
 PV (ia 45 t0 t5) fun t19 =>
 HV (ld 3 t19) w fun t20 =>
 PV (ia 45 t1 t5) fun t23 =>
 HV (ld 3 t23) w fun t24 =>
 PV (eq .neq 3 (.tmp 20) (.tmp 24) t20 t24) fun t25 =>
 CondW t25
 (R (.bool false) w)
 (V (bi .add 3 t5 (.int .i64 1)) w fun t16 w =>
 I0 [t16] w ∧ M0 [t16] w < m0))
 (R (.bool true) w))
theorem en30 (h : vc30 R w t0 t1) : Calls Tryz.prog 30 #[t0, t1] w (retK R) := calls_of_enter mixed Tryz.func30 (by kernel_rfl) (Eq.mpr (by kernel_rfl : enterW Tryz.prog Tryz.f30 an30 [t0, t1] w R = vc30 R w t0 t1) h)
def an31 : Ann := (.seq (oD 2) (.seq (.seq (.reg (opn 5 (.join [18] [14, 15, 16, 17, 18] (.split 13 (opn 5 .done) (opn 5 .done)) (opn 1 (.join [27] (rgN 20 8) (.split 19 (opn 8 .done) (opn 8 .done)) .done))))) (.cond (.seq (oD 1) .leaf) .leaf)) (.seq (oD 7) (.seq (oD 1) (.seq (oD 8) (.seqJ [6] (rgN 38 20 ++ [6]) (.seq (.reg (opn 3 (.join [44] [41, 42, 43, 44] (.split 40 (opn 4 .done) (opn 4 .done)) (opn 1 (.join [52] (rgN 46 7) (.split 45 (opn 7 .done) (opn 7 .done)) .done))))) (.cond (oD 6) .leaf)) (.seqJ [6] (rgN 58 40 ++ [6]) (.seqJ [92] (rgN 58 35) (.draw (.take 0 (.hold 1 (.take 2 (.take 3 (.split 61 (tkN 4 11 (.hold 15 (.take 16 (.hold 17 (.take 18 (.take 19 (.alts (.eff 20 (.take 21 (.take 22 (.split 80 (tkN 23 4 (.split 84 (tkN 27 8 .done) (.take 27 (.take 28 (.hold 29 (.take 30 (.hold 31 (tkN 32 3 .done)))))))) (tkN 23 12 .done)))) .nil)))))))) (.take 4 (.hold 5 (tkN 6 3 (.split 66 (tkN 9 6 (.hold 15 (.take 16 (.hold 17 (.take 18 (.take 19 (.alts (.eff 20 (.take 21 (.take 22 (.split 80 (tkN 23 4 (.split 84 (tkN 27 8 .done) (.take 27 (.take 28 (.hold 29 (.take 30 (.hold 31 (tkN 32 3 .done)))))))) (tkN 23 12 .done)))) .nil)))))))) (.take 9 (.hold 10 (tkN 11 3 (.split 71 (.take 14 (.hold 15 (.take 16 (.hold 17 (.take 18 (.take 19 (.alts (.eff 20 (.take 21 (.take 22 (.split 80 (tkN 23 4 (.split 84 (tkN 27 8 .done) (.take 27 (.take 28 (.hold 29 (.take 30 (.hold 31 (tkN 32 3 .done)))))))) (tkN 23 12 .done)))) .nil)))))))) (tkN 14 21 .done))))))))))))))) (.cond (oD 6) .leaf)) (.seq (oD 2) .leaf))))))))
def vc31 (R : Value → World → Prop) (w : World) (t0 t1 : Value) : Prop :=
 V (bx 28 t0) w fun t2 w =>
 V (fa 28 t2 5) w fun t9 w =>
 V (ld 26 t9) w fun t10 w =>
 V (Builtin.len_ #[26] 3 #[t10]) w fun t11 w =>
 V (bi .gtr 3 t11 (.int .i64 12000)) w fun t12 w =>
 ∀ K0 : List Value → World → Prop, (∀ t18, ∀ w, (∀ g : Env,
 ∀ K0 : List Value → World → Prop, (∀ t27, ∀ w, (∀ g : Env,
 CondW t27
 (R (.slice none 0 0) w)
 (V (fa 28 t2 5) w fun t28 w =>
 V (ld 26 t28) w fun t29 w =>
 V (ia 26 t29 t1) w fun t31 w =>
 V (ld 38 t31) w fun t32 w =>
 V (al 38) w fun t5 w =>
 U (st 38 t5 t32) w fun w =>
 V (ld 38 t5) w fun t34 w =>
 CV (.func (.func 58) #[] #[]) #[t34] w fun t35 w =>
 V (ex t35 0) w fun t36 w =>
 V (ex t35 1) w fun t37 w =>
 V (al 108) w fun t7 w =>
 U (st 108 t7 t36) w fun w =>
 ∀ K0 : List Value → World → Prop, (∀ t6, ∀ w, (∀ g : Env,
 ∀ K0 : List Value → World → Prop, (∀ t6a, ∀ w, (∀ g : Env,
 R t6a w) → K0 [t6a] w) →
 ∀ K1 : List Value → World → Prop, (∀ t92, ∀ w, (∀ g : Env,
 CondW t92
 (V (fa 38 t5 1) w fun t94 w =>
 V (ld 3 t94) w fun t95 w =>
 V (bs 45 1 #[(0, t95)]) w fun t96 w =>
 V (Builtin.append_ #[45, 45] 45 #[t6, t96]) w fun t97 w =>
 K0 [t97] w)
 (K0 [t6] w)) → K1 [t92] w) →
 Dr w fun w =>
 PV (fa 38 t5 0) fun t58 =>
 HV (ld 3 t58) w fun t59 =>
 PV (eq .eql 3 (.tmp 59) (.const (.int .i64 23)) t59 (.int .i64 23)) fun t60 =>
 CondW t60
 (PV (fa 38 t5 1) fun t72 =>
 HV (ld 3 t72) w fun t73 =>
 PV (fa 28 t2 5) fun t74 =>
 HV (ld 26 t74) w fun t75 =>
 PV (Builtin.len_ #[26] 3 #[t75]) fun t76 =>
 PV (bi .sub 3 t76 (.int .i64 1)) fun t77 =>
 CV (.func (.func 59) #[] #[]) #[t73, (.int .i64 0), t77] w fun t78 w =>
 RunIs (ld 26 t74) w t75 ∧ RunIs (ld 3 t58) w t59 ∧ (CondW t78
 (PV (Builtin.len_ #[45] 3 #[t6]) fun t82 =>
 PV (eq .eql 3 (.tmp 82) (.const (.int .i64 0)) t82 (.int .i64 0)) fun t83 =>
 CondW t83
 (K1 [(.bool true)] w)
 (PV (ia 45 t6 (.int .i64 0)) fun t86 =>
 HV (ld 3 t86) w fun t87 =>
 PV (fa 38 t5 1) fun t88 =>
 HV (ld 3 t88) w fun t89 =>
 PV (eq .neq 3 (.tmp 87) (.tmp 89) t87 t89) fun t90 =>
 K1 [t90] w))
 (K1 [(.bool false)] w)))
 (PV (fa 38 t5 0) fun t62 =>
 HV (ld 3 t62) w fun t63 =>
 PV (eq .eql 3 (.tmp 63) (.const (.int .i64 24)) t63 (.int .i64 24)) fun t64 =>
 CondW t64
 (PV (fa 38 t5 1) fun t72 =>
 HV (ld 3 t72) w fun t73 =>
 PV (fa 28 t2 5) fun t74 =>
 HV (ld 26 t74) w fun t75 =>
 PV (Builtin.len_ #[26] 3 #[t75]) fun t76 =>
 PV (bi .sub 3 t76 (.int .i64 1)) fun t77 =>
 CV (.func (.func 59) #[] #[]) #[t73, (.int .i64 0), t77] w fun t78 w =>
 RunIs (ld 26 t74) w t75 ∧ RunIs (ld 3 t62) w t63 ∧ RunIs (ld 3 t58) w t59 ∧ (CondW t78
 (PV (Builtin.len_ #[45] 3 #[t6]) fun t82 =>
 PV (eq .eql 3 (.tmp 82) (.const (.int .i64 0)) t82 (.int .i64 0)) fun t83 =>
 CondW t83
 (K1 [(.bool true)] w)
 (PV (ia 45 t6 (.int .i64 0)) fun t86 =>
 HV (ld 3 t86) w fun t87 =>
 PV (fa 38 t5 1) fun t88 =>
 HV (ld 3 t88) w fun t89 =>
 PV (eq .neq 3 (.tmp 87) (.tmp 89) t87 t89) fun t90 =>
 K1 [t90] w))
 (K1 [(.bool false)] w)))
 (PV (fa 38 t5 0) fun t67 =>
 HV (ld 3 t67) w fun t68 =>
 PV (eq .eql 3 (.tmp 68) (.const (.int .i64 30)) t68 (.int .i64 30)) fun t69 =>
 CondW t69
 (PV (fa 38 t5 1) fun t72 =>
 HV (ld 3 t72) w fun t73 =>
 PV (fa 28 t2 5) fun t74 =>
 HV (ld 26 t74) w fun t75 =>
 PV (Builtin.len_ #[26] 3 #[t75]) fun t76 =>
 PV (bi .sub 3 t76 (.int .i64 1)) fun t77 =>
 CV (.func (.func 59) #[] #[]) #[t73, (.int .i64 0), t77] w fun t78 w =>
 RunIs (ld 26 t74) w t75 ∧ RunIs (ld 3 t67) w t68 ∧ RunIs (ld 3 t62) w t63 ∧ RunIs (ld 3 t58) w t59 ∧ (CondW t78
 (PV (Builtin.len_ #[45] 3 #[t6]) fun t82 =>
 PV (eq .eql 3 (.tmp 82) (.const (.int .i64 0)) t82 (.int .i64 0)) fun t83 =>
 CondW t83
 (K1 [(.bool true)] w)
 (PV (ia 45 t6 (.int .i64 0)) fun t86 =>
 HV (ld 3 t86) w fun t87 =>
 PV (fa 38 t5 1) fun t88 =>
 HV (ld 3 t88) w fun t89 =>
 PV (eq .neq 3 (.tmp 87) (.tmp 89) t87 t89) fun t90 =>
 K1 [t90] w))
 (K1 [(.bool false)] w)))
 (K1 [(.bool false)] w)))) → K0 [t6] w) →
 V (un .not t37) w fun t39 w =>
 ∀ K1 : List Value → World → Prop, (∀ t44, ∀ w, (∀ g : Env,
 ∀ K1 : List Value → World → Prop, (∀ t52, ∀ w, (∀ g : Env,
 CondW t52
 (V (bi .add 3 t1 (.int .i64 1)) w fun t55 w =>
 V (bs 45 1 #[(0, t55)]) w fun t56 w =>
 V (Builtin.append_ #[45, 45] 45 #[(.slice none 0 0), t56]) w fun t57 w =>
 K0 [t57] w)
 (K0 [(.slice none 0 0)] w)) → K1 [t52] w) →
 CondW t44
 (V (bi .add 3 t1 (.int .i64 1)) w fun t47 w =>
 V (fa 28 t2 5) w fun t48 w =>
 V (ld 26 t48) w fun t49 w =>
 V (Builtin.len_ #[26] 3 #[t49]) w fun t50 w =>
 V (bi .lss 3 t47 t50) w fun t51 w =>
 K1 [t51] w)
 (K1 [(.bool false)] w)) → K1 [t44] w) →
 CondW t39
 (K1 [(.bool true)] w)
 (V (fa 108 t7 5) w fun t41 w =>
 V (ld 4 t41) w fun t42 w =>
 V (un .not t42) w fun t43 w =>
 K1 [t43] w))) → K0 [t27] w) →
 CondW t18
 (K0 [(.bool true)] w)
 (V (fa 28 t2 5) w fun t21 w =>
 V (ld 26 t21) w fun t22 w =>
 V (Builtin.len_ #[26] 3 #[t22]) w fun t23 w =>
 V (bi .sub 3 t23 (.int .i64 1)) w fun t24 w =>
 CV (.func (.func 59) #[] #[]) #[t1, (.int .i64 0), t24] w fun t25 w =>
 V (un .not t25) w fun t26 w =>
 K0 [t26] w)) → K0 [t18] w) →
 CondW t12
 (K0 [(.bool true)] w)
 (V (fa 28 t2 3) w fun t14 w =>
 V (ld 25 t14) w fun t15 w =>
 V (Builtin.len_ #[25] 3 #[t15]) w fun t16 w =>
 V (bi .gtr 3 t16 (.int .i64 3000)) w fun t17 w =>
 K0 [t17] w)
theorem en31 (h : vc31 R w t0 t1) : Calls Tryz.prog 31 #[t0, t1] w (retK R) := calls_of_enter mixed Tryz.func31 (by kernel_rfl) (Eq.mpr (by kernel_rfl : enterW Tryz.prog Tryz.f31 an31 [t0, t1] w R = vc31 R w t0 t1) h)
def an34 : Ann := (.seq (oD 1) (.seq (.reg (opn 4 (.join [14] [11, 12, 13, 14] (.split 10 (opn 4 .done) (opn 4 .done)) (opn 1 (.join [20] [16, 17, 18, 19, 20] (.split 15 (opn 5 .done) (opn 5 .done)) (opn 1 .done)))))) .leaf))
def vc34 (R : Value → World → Prop) (w : World) (t0 t1 t2 : Value) : Prop :=
 V (bi .gtr 3 t0 t1) w fun t9 w =>
 ∀ K0 : List Value → World → Prop, (∀ t14, ∀ w, (∀ g : Env,
 ∀ K0 : List Value → World → Prop, (∀ t20, ∀ w, (∀ g : Env,
 R t20 w) → K0 [t20] w) →
 CondW t14
 (K0 [(.bool true)] w)
 (V (bi .add 3 t2 (.int .i64 20)) w fun t18 w =>
 V (bi .gtr 3 t0 t18) w fun t19 w =>
 K0 [t19] w)) → K0 [t14] w) →
 CondW t9
 (V (bi .leq 3 t0 t2) w fun t13 w =>
 K0 [t13] w)
 (K0 [(.bool false)] w)
theorem en34 (h : vc34 R w t0 t1 t2) : Calls Tryz.prog 34 #[t0, t1, t2] w (retK R) := calls_of_enter mixed Tryz.func34 (by kernel_rfl) (Eq.mpr (by kernel_rfl : enterW Tryz.prog Tryz.f34 an34 [t0, t1, t2] w R = vc34 R w t0 t1 t2) h)
def an35 : Ann := (.seq (oD 3) (.seq (.seq (oD 7) (.seq (oD 2) (.cond (.seq (oD 3) .leaf) .leaf))) (.seq (oD 5) (.seq (oD 6) (.seq (oD 5) (.seq (oD 5) (.seq (oD 6) (.seq (oD 6) (.seq (oD 6) (.seq (.seq (oD 6) (.cond (.seq (oD 2) .leaf) .leaf)) (.seq (oD 6) .leaf)))))))))))
def vc35 (R : Value → World → Prop) (w : World) (t0 : Value) : Prop :=
 V (bx 28 t0) w fun t1 w =>
 V (ld 28 t1) w fun t8 w =>
 CV (.func (.func 15) #[] #[]) #[t8] w fun t9 w =>
 V (ex t9 0) w fun t10 w =>
 V (ex t9 1) w fun t11 w =>
 V (eq .neq 31 (.tmp 12) (.const (.int .i64 0)) t10 (.int .i64 0)) w fun t13 w =>
 CondW t13
 (R (.tuple #[(.slice none 0 0), t10]) w)
 (V (bs 55 1 #[(0, (.int .u8 81))]) w fun t15 w =>
 V (bd 156 #[(0, t15)]) w fun t16 w =>
 V (bx 156 t16) w fun t17 w =>
 V (al 154) w fun t6 w =>
 U (st 154 t6 t17) w fun w =>
 V (ld 154 t6) w fun t18 w =>
 V (fa 28 t1 0) w fun t19 w =>
 V (ld 22 t19) w fun t20 w =>
 V (ld 154 t6) w fun t21 w =>
 CV (.func (.func 91) #[] #[]) #[t18, t20, (.func (.func 92) #[t21] #[])] w fun t23 w =>
 V (ld 154 t6) w fun t24 w =>
 V (fa 28 t1 1) w fun t25 w =>
 V (ld 23 t25) w fun t26 w =>
 CV (.func (.func 93) #[] #[]) #[t24, t26, (.func (.func 94) #[] #[t6])] w fun t28 w =>
 V (ld 154 t6) w fun t29 w =>
 V (fa 28 t1 2) w fun t30 w =>
 V (ld 24 t30) w fun t31 w =>
 CV (.func (.func 97) #[] #[]) #[t29, t31, (.func (.func 98) #[] #[t6])] w fun t33 w =>
 V (ld 154 t6) w fun t34 w =>
 V (fa 28 t1 3) w fun t35 w =>
 V (ld 25 t35) w fun t36 w =>
 V (ld 154 t6) w fun t37 w =>
 CV (.func (.func 101) #[] #[]) #[t34, t36, (.func (.func 102) #[t37] #[])] w fun t39 w =>
 V (ld 154 t6) w fun t40 w =>
 V (fa 28 t1 4) w fun t41 w =>
 V (ld 22 t41) w fun t42 w =>
 V (ld 154 t6) w fun t43 w =>
 CV (.func (.func 91) #[] #[]) #[t40, t42, (.func (.func 92) #[t43] #[])] w fun t45 w =>
 V (ld 154 t6) w fun t46 w =>
 V (fa 28 t1 5) w fun t47 w =>
 V (ld 26 t47) w fun t48 w =>
 V (ld 154 t6) w fun t49 w =>
 CV (.func (.func 103) #[] #[]) #[t46, t48, (.func (.func 104) #[t49] #[])] w fun t51 w =>
 V (ld 154 t6) w fun t52 w =>
 NilW t52 fun t53 => V (fa 156 t53 0) w fun t54 w =>
 V (ld 55 t54) w fun t55 w =>
 V (Builtin.len_ #[55] 3 #[t55]) w fun t56 w =>
 V (bi .gtr 3 t56 (.int .i64 400000)) w fun t57 w =>
 CondW t57
 (R (.tuple #[(.slice none 0 0), (.int .i64 3)]) w)
 (V (ld 154 t6) w fun t58 w =>
 NilW t58 fun t59 => V (fa 156 t59 0) w fun t60 w =>
 V (ld 55 t60) w fun t61 w =>
 R (.tuple #[t61, (.int .i64 0)]) w))
theorem en35 (h : vc35 R w t0) : Calls Tryz.prog 35 #[t0] w (retK R) := calls_of_enter mixed Tryz.func35 (by kernel_rfl) (Eq.mpr (by kernel_rfl : enterW Tryz.prog Tryz.f35 an35 [t0] w R = vc35 R w t0) h)
def an40 : Ann := (.seq (oD 3) (.seq (.seq (oD 7) (.seq (oD 2) (.cond (.seq (oD 3) .leaf) .leaf))) (.seq (oD 1) (.seq (oD 2) (.seq (.seq (oD 4) (.one (.loop [32] ([33, 34, 35, 9] ++ rgN 36 7 ++ [32]) (.seq (oD 1) (.seq (.cond .leaf .leaf) (.seq (.one (.seq (oD 3) (oD 6))) (oD 2))))))) (.seq (.seq (oD 4) (.one (.loop [46] [47, 48, 49, 11, 50, 51, 52, 53, 54, 46] (.seq (oD 1) (.seq (.cond .leaf .leaf) (.seq (.one (.seq (oD 3) (oD 4))) (oD 2))))))) (.seq (.seq (oD 4) (.one (.loop [58] [59, 60, 61, 13, 62, 63, 64, 65, 66, 58] (.seq (oD 1) (.seq (.cond .leaf .leaf) (.seq (.one (.seq (oD 3) (oD 4))) (oD 2))))))) (.seq (.seq (oD 4) (.one (.loop [70] [71, 72, 73, 15, 74, 75, 76, 77, 78, 70] (.seq (oD 1) (.seq (.cond .leaf .leaf) (.seq (.one (.seq (oD 4) (oD 4))) (oD 2))))))) (.seq (.seq (oD 4) (.one (.loop [82] ([83, 84, 85, 17] ++ rgN 86 6 ++ [82]) (.seq (oD 1) (.seq (.cond .leaf .leaf) (.seq (.one (.seq (oD 3) (oD 5))) (oD 2))))))) (.seq (.seq (oD 4) (.one (.loop [95] [96, 97, 98, 19, 99, 100, 101, 102, 103, 95] (.seq (oD 1) (.seq (.cond .leaf .leaf) (.seq (.one (.seq (oD 4) (oD 4))) (oD 2))))))) (.seq (oD 3) .leaf)))))))))))
def vc40 (R : Value → World → Prop) (w : World) (t0 : Value) : Prop :=
 V (bx 28 t0) w fun t1 w =>
 V (ld 28 t1) w fun t21 w =>
 CV (.func (.func 15) #[] #[]) #[t21] w fun t22 w =>
 V (ex t22 0) w fun t23 w =>
 V (ex t22 1) w fun t24 w =>
 V (eq .neq 31 (.tmp 25) (.const (.int .i64 0)) t23 (.int .i64 0)) w fun t26 w =>
 CondW t26
 (R (.tuple #[(.string ⟨#[]⟩), t23]) w)
 (V (al 199) w fun t6 w =>
 V (fa 28 t1 0) w fun t29 w =>
 V (ld 22 t29) w fun t30 w =>
 V (Builtin.len_ #[22] 3 #[t30]) w fun t31 w =>
 ∃ (I0 : List Value → World → Prop) (M0 : List Value → World → Nat), I0 [(.int .i64 0)] w ∧ ∀ g : Env, ∀ t32, ∀ w, I0 [t32] w → ∀ m0, m0 = M0 [t32] w →
 V (bi .lss 3 t32 t31) w fun t33 w =>
 CondW t33
 (V (ia 22 t30 t32) w fun t34 w =>
 V (ld 9 t34) w fun t35 w =>
 CV (.func (.func 127) #[] #[]) #[t35] w fun t38 w =>
 V (bs 22 2 #[(0, (.string ⟨#[116, 101, 120, 116]⟩)), (1, t38)]) w fun t39 w =>
 CV (.func (.func 126) #[] #[]) #[t39] w fun t40 w =>
 CV (.func (.func 124) #[] #[t6]) #[t40] w fun t41 w =>
 V (bi .add 3 t32 (.int .i64 1)) w fun t42 w =>
 I0 [t42] w ∧ M0 [t42] w < m0)
 (V (fa 28 t1 1) w fun t43 w =>
 V (ld 23 t43) w fun t44 w =>
 V (Builtin.len_ #[23] 3 #[t44]) w fun t45 w =>
 ∃ (I1 : List Value → World → Prop) (M1 : List Value → World → Nat), I1 [(.int .i64 0)] w ∧ ∀ g : Env, ∀ t46, ∀ w, I1 [t46] w → ∀ m1, m1 = M1 [t46] w →
 V (bi .lss 3 t46 t45) w fun t47 w =>
 CondW t47
 (V (ia 23 t44 t46) w fun t48 w =>
 V (ld 93 t48) w fun t49 w =>
 CV (.func (.func 128) #[] #[]) #[t49] w fun t52 w =>
 CV (.func (.func 124) #[] #[t6]) #[t52] w fun t53 w =>
 V (bi .add 3 t46 (.int .i64 1)) w fun t54 w =>
 I1 [t54] w ∧ M1 [t54] w < m1)
 (V (fa 28 t1 2) w fun t55 w =>
 V (ld 24 t55) w fun t56 w =>
 V (Builtin.len_ #[24] 3 #[t56]) w fun t57 w =>
 ∃ (I2 : List Value → World → Prop) (M2 : List Value → World → Nat), I2 [(.int .i64 0)] w ∧ ∀ g : Env, ∀ t58, ∀ w, I2 [t58] w → ∀ m2, m2 = M2 [t58] w →
 V (bi .lss 3 t58 t57) w fun t59 w =>
 CondW t59
 (V (ia 24 t56 t58) w fun t60 w =>
 V (ld 96 t60) w fun t61 w =>
 CV (.func (.func 129) #[] #[]) #[t61] w fun t64 w =>
 CV (.func (.func 124) #[] #[t6]) #[t64] w fun t65 w =>
 V (bi .add 3 t58 (.int .i64 1)) w fun t66 w =>
 I2 [t66] w ∧ M2 [t66] w < m2)
 (V (fa 28 t1 3) w fun t67 w =>
 V (ld 25 t67) w fun t68 w =>
 V (Builtin.len_ #[25] 3 #[t68]) w fun t69 w =>
 ∃ (I3 : List Value → World → Prop) (M3 : List Value → World → Nat), I3 [(.int .i64 0)] w ∧ ∀ g : Env, ∀ t70, ∀ w, I3 [t70] w → ∀ m3, m3 = M3 [t70] w →
 V (bi .lss 3 t70 t69) w fun t71 w =>
 CondW t71
 (V (ia 25 t68 t70) w fun t72 w =>
 V (ld 54 t72) w fun t73 w =>
 V (al 54) w fun t15 w =>
 U (st 54 t15 t73) w fun w =>
 V (ld 54 t15) w fun t75 w =>
 CV (.func (.func 130) #[] #[]) #[t75] w fun t76 w =>
 CV (.func (.func 124) #[] #[t6]) #[t76] w fun t77 w =>
 V (bi .add 3 t70 (.int .i64 1)) w fun t78 w =>
 I3 [t78] w ∧ M3 [t78] w < m3)
 (V (fa 28 t1 4) w fun t79 w =>
 V (ld 22 t79) w fun t80 w =>
 V (Builtin.len_ #[22] 3 #[t80]) w fun t81 w =>
 ∃ (I4 : List Value → World → Prop) (M4 : List Value → World → Nat), I4 [(.int .i64 0)] w ∧ ∀ g : Env, ∀ t82, ∀ w, I4 [t82] w → ∀ m4, m4 = M4 [t82] w →
 V (bi .lss 3 t82 t81) w fun t83 w =>
 CondW t83
 (V (ia 22 t80 t82) w fun t84 w =>
 V (ld 9 t84) w fun t85 w =>
 V (bs 22 2 #[(0, (.string ⟨#[110, 97, 109, 101]⟩)), (1, t85)]) w fun t88 w =>
 CV (.func (.func 126) #[] #[]) #[t88] w fun t89 w =>
 CV (.func (.func 124) #[] #[t6]) #[t89] w fun t90 w =>
 V (bi .add 3 t82 (.int .i64 1)) w fun t91 w =>
 I4 [t91] w ∧ M4 [t91] w < m4)
 (V (fa 28 t1 5) w fun t92 w =>
 V (ld 26 t92) w fun t93 w =>
 V (Builtin.len_ #[26] 3 #[t93]) w fun t94 w =>
 ∃ (I5 : List Value → World → Prop) (M5 : List Value → World → Nat), I5 [(.int .i64 0)] w ∧ ∀ g : Env, ∀ t95, ∀ w, I5 [t95] w → ∀ m5, m5 = M5 [t95] w →
 V (bi .lss 3 t95 t94) w fun t96 w =>
 CondW t96
 (V (ia 26 t93 t95) w fun t97 w =>
 V (ld 38 t97) w fun t98 w =>
 V (al 38) w fun t19 w =>
 U (st 38 t19 t98) w fun w =>
 V (ld 38 t19) w fun t100 w =>
 CV (.func (.func 131) #[] #[]) #[t100] w fun t101 w =>
 CV (.func (.func 124) #[] #[t6]) #[t101] w fun t102 w =>
 V (bi .add 3 t95 (.int .i64 1)) w fun t103 w =>
 I5 [t103] w ∧ M5 [t103] w < m5)
 (CV (.func (.func 132) #[] #[]) #[t6] w fun t104 w =>
 R (.tuple #[t104, (.int .i64 0)]) w)))))))
theorem en40 (h : vc40 R w t0) : Calls Tryz.prog 40 #[t0] w (retK R) := calls_of_enter mixed Tryz.func40 (by kernel_rfl) (Eq.mpr (by kernel_rfl : enterW Tryz.prog Tryz.f40 an40 [t0] w R = vc40 R w t0) h)
def an44 : Ann := (.seq (oD 1) (.seq (oD 10) .leaf))
def vc44 (R : Value → World → Prop) (w : World) : Prop :=
 V (al 28) w fun t0 w =>
 V (bs 22 3 #[(0, (.string ⟨#[83, 65, 89, 32, 49]⟩)), (1, (.string ⟨#[49]⟩)), (2, (.string ⟨#[65]⟩))]) w fun t1 w =>
 CV (.func (.func 45) #[] #[]) #[(.int .i64 1), (.int .i64 1), (.int .i64 0), (.int .i64 0)] w fun t2 w =>
 CV (.func (.func 45) #[] #[]) #[(.int .i64 3), (.int .i64 1), (.int .i64 0), (.int .i64 0)] w fun t3 w =>
 CV (.func (.func 45) #[] #[]) #[(.int .i64 13), (.int .i64 0), (.int .i64 0), (.int .i64 0)] w fun t4 w =>
 CV (.func (.func 45) #[] #[]) #[(.int .i64 39), (.int .i64 0), (.int .i64 0), (.int .i64 0)] w fun t5 w =>
 CV (.func (.func 45) #[] #[]) #[(.int .i64 2), (.int .i64 0), (.int .i64 0), (.int .i64 0)] w fun t6 w =>
 CV (.func (.func 45) #[] #[]) #[(.int .i64 46), (.int .i64 0), (.int .i64 0), (.int .i64 0)] w fun t7 w =>
 V (bs 26 6 #[(0, t2), (1, t3), (2, t4), (3, t5), (4, t6), (5, t7)]) w fun t8 w =>
 V (bd 28 #[(0, t1), (5, t8)]) w fun t9 w =>
 U (st 28 t0 t9) w fun w =>
 CW 28 t0 w fun t1000 => R t1000 w
theorem en44 (h : vc44 R w ) : Calls Tryz.prog 44 #[] w (retK R) := calls_of_enter mixed Tryz.func44 (by kernel_rfl) (Eq.mpr (by kernel_rfl : enterW Tryz.prog Tryz.f44 an44 [] w R = vc44 R w ) h)
def an45 : Ann := (.seq (oD 1) (.seq (oD 6) .leaf))
def vc45 (R : Value → World → Prop) (w : World) (t0 t1 t2 t3 : Value) : Prop :=
 V (al 38) w fun t8 w =>
 V (bd 38 #[(0, t0), (1, t1), (2, t2), (3, t3)]) w fun t13 w =>
 U (st 38 t8 t13) w fun w =>
 CW 38 t8 w fun t1008 => R t1008 w
theorem en45 (h : vc45 R w t0 t1 t2 t3) : Calls Tryz.prog 45 #[t0, t1, t2, t3] w (retK R) := calls_of_enter mixed Tryz.func45 (by kernel_rfl) (Eq.mpr (by kernel_rfl : enterW Tryz.prog Tryz.f45 an45 [t0, t1, t2, t3] w R = vc45 R w t0 t1 t2 t3) h)
def an46 : Ann := (.seq (oD 2) (.seq (oD 2) (.seq (oD 27) (.seq (.seq (oD 2) (.one (.loop [34] [35, 36, 6, 37, 38, 39, 40, 41, 2, 42, 34] (.seq (oD 1) (.seq (.cond .leaf .leaf) (.seq (.one (.seq (oD 3) (.seq (oD 5) (.cond (.seq (oD 1) .leaf) .leaf)))) (oD 2))))))) (.seq (oD 5) (.seq (.reg (opn 2 (.join [53] [49, 50, 51, 52, 53] (.split 48 (opn 5 .done) (opn 5 .done)) (opn 1 (.join [58] [55, 56, 57, 58] (.split 54 (opn 4 .done) (opn 4 .done)) (opn 1 (.join [64] [60, 61, 62, 63, 64] (.split 59 (opn 5 .done) (opn 5 .done)) (opn 1 .done)))))))) .leaf))))))
def vc46 (R : Value → World → Prop) (w : World) (t0 : Value) : Prop :=
 V (bx 28 t0) w fun t1 w =>
 V (al 215) w fun t3 w =>
 U (st 215 t3 (.func (.func 137) #[] #[])) w fun w =>
 V (fa 28 t1 0) w fun t8 w =>
 V (ld 22 t8) w fun t9 w =>
 V (Builtin.len_ #[22] 3 #[t9]) w fun t10 w =>
 V (bd 219 #[(0, t10), (1, (.int .i64 3000))]) w fun t11 w =>
 V (fa 28 t1 1) w fun t12 w =>
 V (ld 23 t12) w fun t13 w =>
 V (Builtin.len_ #[23] 3 #[t13]) w fun t14 w =>
 V (bd 219 #[(0, t14), (1, (.int .i64 3000))]) w fun t15 w =>
 V (fa 28 t1 2) w fun t16 w =>
 V (ld 24 t16) w fun t17 w =>
 V (Builtin.len_ #[24] 3 #[t17]) w fun t18 w =>
 V (bd 219 #[(0, t18), (1, (.int .i64 3000))]) w fun t19 w =>
 V (fa 28 t1 3) w fun t20 w =>
 V (ld 25 t20) w fun t21 w =>
 V (Builtin.len_ #[25] 3 #[t21]) w fun t22 w =>
 V (bd 219 #[(0, t22), (1, (.int .i64 3000))]) w fun t23 w =>
 V (fa 28 t1 4) w fun t24 w =>
 V (ld 22 t24) w fun t25 w =>
 V (Builtin.len_ #[22] 3 #[t25]) w fun t26 w =>
 V (bd 219 #[(0, t26), (1, (.int .i64 100))]) w fun t27 w =>
 V (fa 28 t1 5) w fun t28 w =>
 V (ld 26 t28) w fun t29 w =>
 V (Builtin.len_ #[26] 3 #[t29]) w fun t30 w =>
 V (bd 219 #[(0, t30), (1, (.int .i64 12000))]) w fun t31 w =>
 V (bd 220 #[(0, t11), (1, t15), (2, t19), (3, t23), (4, t27), (5, t31)]) w fun t32 w =>
 V (al 220) w fun t4 w =>
 U (st 220 t4 t32) w fun w =>
 V (ld 220 t4) w fun t33 w =>
 ∃ (I0 : List Value → World → Prop) (M0 : List Value → World → Nat), I0 [(.int .i64 0)] w ∧ ∀ g : Env, ∀ t34, ∀ w, I0 [t34] w → ∀ m0, m0 = M0 [t34] w →
 V (bi .lss 3 t34 (.int .i64 6)) w fun t35 w =>
 CondW t35
 (V (ix 220 t33 t34) w fun t36 w =>
 V (al 219) w fun t6 w =>
 U (st 219 t6 t36) w fun w =>
 V (ia 219 t6 (.int .i64 0)) w fun t37 w =>
 V (ld 3 t37) w fun t38 w =>
 V (ia 219 t6 (.int .i64 1)) w fun t39 w =>
 V (ld 3 t39) w fun t40 w =>
 V (bi .gtr 3 t38 t40) w fun t41 w =>
 CondW t41
 (R (.bool false) w)
 (V (bi .add 3 t34 (.int .i64 1)) w fun t42 w =>
 I0 [t42] w ∧ M0 [t42] w < m0))
 (V (fa 28 t1 1) w fun t43 w =>
 V (ld 23 t43) w fun t44 w =>
 CV (.func (.func 138) #[] #[]) #[t44, (.func (.func 139) #[] #[t3])] w fun t46 w =>
 ∀ K0 : List Value → World → Prop, (∀ t53, ∀ w, (∀ g : Env,
 ∀ K0 : List Value → World → Prop, (∀ t58, ∀ w, (∀ g : Env,
 ∀ K0 : List Value → World → Prop, (∀ t64, ∀ w, (∀ g : Env,
 R t64 w) → K0 [t64] w) →
 CondW t58
 (V (fa 28 t1 3) w fun t60 w =>
 V (ld 25 t60) w fun t61 w =>
 CV (.func (.func 145) #[] #[]) #[t61, (.func (.func 146) #[] #[t3])] w fun t63 w =>
 K0 [t63] w)
 (K0 [(.bool false)] w)) → K0 [t58] w) →
 CondW t53
 (V (fa 28 t1 2) w fun t55 w =>
 V (ld 24 t55) w fun t56 w =>
 CV (.func (.func 143) #[] #[]) #[t56, (.func (.func 144) #[] #[])] w fun t57 w =>
 K0 [t57] w)
 (K0 [(.bool false)] w)) → K0 [t53] w) →
 CondW t46
 (V (fa 28 t1 0) w fun t49 w =>
 V (ld 22 t49) w fun t50 w =>
 V (ld 215 t3) w fun t51 w =>
 CV (.func (.func 142) #[] #[]) #[t50, t51] w fun t52 w =>
 K0 [t52] w)
 (K0 [(.bool false)] w))
theorem en46 (h : vc46 R w t0) : Calls Tryz.prog 46 #[t0] w (retK R) := calls_of_enter mixed Tryz.func46 (by kernel_rfl) (Eq.mpr (by kernel_rfl : enterW Tryz.prog Tryz.f46 an46 [t0] w R = vc46 R w t0) h)
def an47 : Ann := (.seq (oD 2) (.seq (.seq (.reg (opn 5 (.join [17] [13, 14, 15, 16, 17] (.split 12 (opn 5 .done) (opn 5 .done)) (opn 1 (.join [23] [19, 20, 21, 22, 23] (.split 18 (opn 5 .done) (opn 5 .done)) .done))))) (.cond (.seq (oD 1) .leaf) .leaf)) (.seq (oD 4) (.seq (oD 2) (.seq (oD 5) (.seq (oD 3) (.seq (oD 5) (.seq (.reg (opn 2 (.join [39] [38, 39] (.split 37 (opn 2 .done) (opn 2 .done)) (opn 1 (.join [42] [41, 42] (.split 40 (opn 2 .done) (opn 2 .done)) (opn 1 .done)))))) .leaf))))))))
def vc47 (R : Value → World → Prop) (w : World) (t0 : Value) : Prop :=
 V (bx 28 t0) w fun t1 w =>
 V (fa 28 t1 5) w fun t8 w =>
 V (ld 26 t8) w fun t9 w =>
 V (Builtin.len_ #[26] 3 #[t9]) w fun t10 w =>
 V (eq .eql 3 (.tmp 10) (.const (.int .i64 0)) t10 (.int .i64 0)) w fun t11 w =>
 ∀ K0 : List Value → World → Prop, (∀ t17, ∀ w, (∀ g : Env,
 ∀ K0 : List Value → World → Prop, (∀ t23, ∀ w, (∀ g : Env,
 CondW t23
 (R (.bool false) w)
 (V (fa 28 t1 2) w fun t24 w =>
 V (ld 24 t24) w fun t25 w =>
 CV (.func (.func 143) #[] #[]) #[t25, (.func (.func 150) #[] #[])] w fun t26 w =>
 V (al 3) w fun t4 w =>
 U (st 3 t4 (.int .i64 0)) w fun w =>
 V (fa 28 t1 3) w fun t27 w =>
 V (ld 25 t27) w fun t28 w =>
 CV (.func (.func 145) #[] #[]) #[t28, (.func (.func 154) #[] #[t4, t1])] w fun t30 w =>
 V (mm 231 none) w fun t31 w =>
 V (al 231) w fun t6 w =>
 U (st 231 t6 t31) w fun w =>
 V (fa 28 t1 4) w fun t32 w =>
 V (ld 22 t32) w fun t33 w =>
 CV (.func (.func 142) #[] #[]) #[t33, (.func (.func 155) #[] #[t6])] w fun t35 w =>
 ∀ K0 : List Value → World → Prop, (∀ t39, ∀ w, (∀ g : Env,
 ∀ K0 : List Value → World → Prop, (∀ t42, ∀ w, (∀ g : Env,
 R t42 w) → K0 [t42] w) →
 CondW t39
 (K0 [t35] w)
 (K0 [(.bool false)] w)) → K0 [t39] w) →
 CondW t26
 (K0 [t30] w)
 (K0 [(.bool false)] w))) → K0 [t23] w) →
 CondW t17
 (K0 [(.bool true)] w)
 (V (fa 28 t1 1) w fun t19 w =>
 V (ld 23 t19) w fun t20 w =>
 CV (.func (.func 138) #[] #[]) #[t20, (.func (.func 148) #[] #[])] w fun t21 w =>
 V (un .not t21) w fun t22 w =>
 K0 [t22] w)) → K0 [t17] w) →
 CondW t11
 (K0 [(.bool true)] w)
 (V (fa 28 t1 0) w fun t13 w =>
 V (ld 22 t13) w fun t14 w =>
 CV (.func (.func 142) #[] #[]) #[t14, (.func (.func 147) #[] #[])] w fun t15 w =>
 V (un .not t15) w fun t16 w =>
 K0 [t16] w)
theorem en47 (h : vc47 R w t0) : Calls Tryz.prog 47 #[t0] w (retK R) := calls_of_enter mixed Tryz.func47 (by kernel_rfl) (Eq.mpr (by kernel_rfl : enterW Tryz.prog Tryz.f47 an47 [t0] w R = vc47 R w t0) h)
def an48 : Ann := (.seq (oD 3) (.seq (oD 8) (.seq (.seq (oD 2) (.cond (.seq (oD 1) .leaf) .leaf)) (.seq (.seq (oD 8) (.one (.loop [23] ([24, 25, 26, 7, 8] ++ rgN 27 8 ++ [4, 35, 23]) (.seq (oD 1) (.seq (.cond .leaf .leaf) (.seq (.one (.seq (oD 4) (.seq (.draw (.hold 0 (tkN 1 3 (.hold 4 (.take 5 (.alts (.eff 6 (.take 7 .done) .nil))))))) (.cond (.seq (oD 1) .leaf) .leaf)))) (oD 2))))))) (.seq (oD 4) .leaf)))))
def vc48 (R : Value → World → Prop) (w : World) (t0 t1 : Value) : Prop :=
 V (bx 28 t0) w fun t2 w =>
 V (bx 38 t1) w fun t3 w =>
 V (ld 38 t3) w fun t10 w =>
 CV (.func (.func 49) #[] #[]) #[t10] w fun t11 w =>
 V (ex t11 0) w fun t12 w =>
 V (ex t11 1) w fun t13 w =>
 V (al 102) w fun t5 w =>
 U (st 102 t5 t12) w fun w =>
 V (un .not t13) w fun t15 w =>
 CondW t15
 (R (.bool false) w)
 (V (fa 38 t3 1) w fun t16 w =>
 V (ld 3 t16) w fun t17 w =>
 V (fa 38 t3 2) w fun t18 w =>
 V (ld 3 t18) w fun t19 w =>
 V (fa 38 t3 3) w fun t20 w =>
 V (ld 3 t20) w fun t21 w =>
 V (bd 100 #[(0, t17), (1, t19), (2, t21)]) w fun t22 w =>
 ∃ (I0 : List Value → World → Prop) (M0 : List Value → World → Nat), I0 [(.int .i64 0)] w ∧ ∀ g : Env, ∀ t23, ∀ w, I0 [t23] w → ∀ m0, m0 = M0 [t23] w →
 V (bi .lss 3 t23 (.int .i64 3)) w fun t24 w =>
 CondW t24
 (V (ix 100 t22 t23) w fun t26 w =>
 Dr w fun w =>
 HV (ld 28 t2) w fun t27 =>
 PV (fa 102 t5 1) fun t29 =>
 PV (ia 100 t29 t23) fun t30 =>
 HV (ld 3 t30) w fun t31 =>
 CV (.func (.func 157) #[] #[]) #[t27, t31, t26] w fun t33 w =>
 PV (un .not t33) fun t34 =>
 CondW t34
 (R (.bool false) w)
 (V (bi .add 3 t23 (.int .i64 1)) w fun t35 w =>
 I0 [t35] w ∧ M0 [t35] w < m0))
 (V (ld 28 t2) w fun t36 w =>
 V (ld 38 t3) w fun t37 w =>
 CV (.func (.func 158) #[] #[]) #[t36, t37] w fun t38 w =>
 R t38 w))
theorem en48 (h : vc48 R w t0 t1) : Calls Tryz.prog 48 #[t0, t1] w (retK R) := calls_of_enter mixed Tryz.func48 (by kernel_rfl) (Eq.mpr (by kernel_rfl : enterW Tryz.prog Tryz.f48 an48 [t0, t1] w R = vc48 R w t0 t1) h)
def an49 : Ann := (.seq (oD 3) (.seq (.seq (.reg (opn 4 (.join [11] [8, 9, 10, 11] (.split 7 (opn 4 .done) (opn 4 .done)) .done))) (.cond (.seq (oD 3) .leaf) .leaf)) (.seq (.draw (.take 1 (.hold 2 (.alts (.eff 0 (.take 3 (.alts (.eff 4 (.take 5 .done) .nil))) .nil))))) .leaf)))
def vc49 (R : Value → World → Prop) (w : World) (t0 : Value) : Prop :=
 V (bx 38 t0) w fun t1 w =>
 V (al 102) w fun t2 w =>
 V (fa 38 t1 0) w fun t4 w =>
 V (ld 3 t4) w fun t5 w =>
 V (bi .lss 3 t5 (.int .i64 1)) w fun t6 w =>
 ∀ K0 : List Value → World → Prop, (∀ t11, ∀ w, (∀ g : Env,
 CondW t11
 (V (bd 102 #[]) w fun t12 w =>
 U (st 102 t2 t12) w fun w =>
 CW 102 t2 w fun t1002 => R (.tuple #[t1002, (.bool false)]) w)
 (Dr w fun w =>
 PV (fa 38 t1 0) fun t14 =>
 HV (ld 3 t14) w fun t15 =>
 CV (.func (.func 159) #[] #[]) #[] w fun t13 w =>
 RunIs (ld 3 t14) w t15 ∧ (PV (ix 234 t13 t15) fun t16 =>
 U (st 102 t2 t16) w fun w =>
 CW 102 t2 w fun t1002 => R (.tuple #[t1002, (.bool true)]) w))) → K0 [t11] w) →
 CondW t6
 (K0 [(.bool true)] w)
 (V (fa 38 t1 0) w fun t8 w =>
 V (ld 3 t8) w fun t9 w =>
 V (bi .gtr 3 t9 (.int .i64 46)) w fun t10 w =>
 K0 [t10] w)
theorem en49 (h : vc49 R w t0) : Calls Tryz.prog 49 #[t0] w (retK R) := calls_of_enter mixed Tryz.func49 (by kernel_rfl) (Eq.mpr (by kernel_rfl : enterW Tryz.prog Tryz.f49 an49 [t0] w R = vc49 R w t0) h)
def an50 : Ann := (.seq (oD 4) (.seq (oD 3) (.seq (oD 1) (.seq (oD 3) (.seq (.seq (oD 4) (.one (.loop [28] ([29, 30, 31, 9] ++ rgN 32 6 ++ [28]) (.seq (oD 1) (.seq (.cond .leaf .leaf) (.seq (.one (.seq (oD 3) (.seq (oD 5) (.cond (.seq (oD 3) .leaf) .leaf)))) (oD 2))))))) (.seq (.one (.loop [141] (rgN 38 9 ++ [10] ++ rgN 47 13 ++ [11, 12, 61, 62, 60, 63, 64, 65, 13, 14, 15] ++ rgN 66 25 ++ [141]) (.seq (.seq (oD 3) (.cond .leaf .leaf)) (.one (.seq (oD 7) (.seq (oD 6) (.seqJ [11, 12] (rgN 52 8 ++ [11, 12]) (.draw (.take 0 (.hold 1 (.take 2 (.take 3 (.hold 4 (.hold 5 (.take 6 (.hold 7 (.alts (.eff 8 (.alts (.eff 9 (.alts (.eff 10 (.alts (.eff 11 .done .nil)) .nil)) .nil)) (.eff 9 (.alts (.eff 8 (.alts (.eff 10 (.alts (.eff 11 .done .nil)) .nil)) .nil)) .nil)))))))))))) (.seq (oD 9) (.seq (.seq (.reg (opn 5 (.join [75] [71, 72, 73, 74, 75] (.split 70 (opn 5 .done) (opn 5 .done)) (opn 1 (.join [87] (rgN 77 11) (.split 76 (opn 11 .done) (opn 4 (.join [86] (rgN 81 6) (.split 80 (opn 6 .done) (opn 6 .done)) (opn 1 .done)))) .done))))) (.cond (.seq (oD 3) .leaf) .leaf)) (.seq (oD 3) (.one (.rf [] (.seq (oD 1) (oD 1)) (.one (.seq (.draw (.hold 0 (.take 1 (.hold 2 (.hold 3 (.take 4 (.alts (.eff 5 (.alts (.eff 6 (.take 7 .done) .nil)) .nil)))))))) (.cond (.seq (oD 3) .leaf) .leaf))))))))))))))) (.seqJ [18, 19] (rgN 101 8 ++ [18, 19]) (.draw (.take 0 (.hold 1 (.take 2 (.take 4 (.hold 5 (.take 6 (.alts (.eff 3 (.take 8 (.alts (.eff 7 (.take 9 .done) .nil))) (.eff 7 (.alts (.eff 3 (.take 8 (.take 9 .done)) .nil)) .nil)))))))))) (.seq (.seq (oD 4) (.one (.loop [112] ([113, 114, 20] ++ rgN 115 6 ++ [122, 123, 124, 121, 125, 126, 21, 22] ++ rgN 127 12 ++ [112]) (.seq (oD 1) (.seq (.cond .leaf .leaf) (.seqJ [] ([114, 20] ++ rgN 115 6 ++ [122, 123, 124, 121, 125, 126, 21, 22] ++ rgN 127 11) (.one (.seq (oD 2) (.seq (oD 8) (.seq (oD 9) (.seq (oD 1) (.cond (.draw (tkN 0 5 (.hold 5 (.take 6 (.hold 7 (.take 8 (.alts (.eff 9 (.take 10 (.alts (.eff 11 .done .nil))) .nil)))))))) .leaf)))))) (oD 2))))))) (.seq (oD 5) .leaf)))))))))
def vc50 (R : Value → World → Prop) (w : World) (t0 : Value) : Prop :=
 V (bx 28 t0) w fun t1 w =>
 V (al 45) w fun t2 w =>
 V (al 45) w fun t3 w =>
 V (al 4) w fun t4 w =>
 V (mm 236 none) w fun t23 w =>
 V (al 236) w fun t5 w =>
 U (st 236 t5 t23) w fun w =>
 V (al 45) w fun t6 w =>
 V (al 240) w fun t7 w =>
 U (st 240 t7 (.func (.func 160) #[] #[t5, t6])) w fun w =>
 V (ld 28 t1) w fun t25 w =>
 CV (.func (.func 73) #[] #[]) #[t25] w fun t26 w =>
 V (Builtin.len_ #[45] 3 #[t26]) w fun t27 w =>
 ∃ (I0 : List Value → World → Prop) (M0 : List Value → World → Nat), I0 [(.int .i64 0)] w ∧ ∀ g : Env, ∀ t28, ∀ w, I0 [t28] w → ∀ m0, m0 = M0 [t28] w →
 V (bi .lss 3 t28 t27) w fun t29 w =>
 CondW t29
 (V (ia 45 t26 t28) w fun t30 w =>
 V (ld 3 t30) w fun t31 w =>
 V (ld 240 t7) w fun t32 w =>
 V (bd 238 #[]) w fun t34 w =>
 CV t32 #[t31, t34] w fun t35 w =>
 V (un .not t35) w fun t36 w =>
 CondW t36
 (U (st 45 t2 (.slice none 0 0)) w fun w =>
 U (st 45 t3 (.slice none 0 0)) w fun w =>
 U (st 4 t4 (.bool false)) w fun w =>
 CW 45 t2 w fun t1002 => CW 45 t3 w fun t1003 => CW 4 t4 w fun t1004 => R (.tuple #[t1002, t1003, t1004]) w)
 (V (bi .add 3 t28 (.int .i64 1)) w fun t37 w =>
 I0 [t37] w ∧ M0 [t37] w < m0))
 (∃ (I1 : List Value → World → Prop) (M1 : List Value → World → Nat), I1 [undef] w ∧ ∀ g : Env, ∀ t141, ∀ w, I1 [t141] w → ∀ m1, m1 = M1 [t141] w →
 V (ld 45 t6) w fun t38 w =>
 V (Builtin.len_ #[45] 3 #[t38]) w fun t39 w =>
 V (bi .gtr 3 t39 (.int .i64 0)) w fun t40 w =>
 CondW t40
 (V (ld 45 t6) w fun t41 w =>
 V (ld 45 t6) w fun t42 w =>
 V (Builtin.len_ #[45] 3 #[t42]) w fun t43 w =>
 V (bi .sub 3 t43 (.int .i64 1)) w fun t44 w =>
 V (ia 45 t41 t44) w fun t45 w =>
 V (ld 3 t45) w fun t46 w =>
 V (ld 45 t6) w fun t47 w =>
 V (ld 45 t6) w fun t48 w =>
 V (Builtin.len_ #[45] 3 #[t48]) w fun t49 w =>
 V (bi .sub 3 t49 (.int .i64 1)) w fun t50 w =>
 V (sl 45 t47 none (some t50) none) w fun t51 w =>
 U (st 45 t6 t51) w fun w =>
 ∀ K0 : List Value → World → Prop, (∀ t11, ∀ t12, ∀ w, (∀ g : Env,
 V (ld 38 t11) w fun t61 w =>
 CV (.func (.func 17) #[] #[]) #[t61] w fun t62 w =>
 V (ex t62 0) w fun t63 w =>
 V (ex t62 1) w fun t64 w =>
 V (ex t62 2) w fun t65 w =>
 V (ld 38 t11) w fun t66 w =>
 V (ld 238 t12) w fun t67 w =>
 CV (.func (.func 161) #[] #[]) #[t66, t67] w fun t68 w =>
 V (un .not t68) w fun t69 w =>
 ∀ K0 : List Value → World → Prop, (∀ t75, ∀ w, (∀ g : Env,
 ∀ K0 : List Value → World → Prop, (∀ t87, ∀ w, (∀ g : Env,
 CondW t87
 (U (st 45 t2 (.slice none 0 0)) w fun w =>
 U (st 45 t3 (.slice none 0 0)) w fun w =>
 U (st 4 t4 (.bool false)) w fun w =>
 TakeW (marks t141) w fun w =>
 CW 45 t2 w fun t1002 => CW 45 t3 w fun t1003 => CW 4 t4 w fun t1004 => R (.tuple #[t1002, t1003, t1004]) w)
 (V (ld 28 t1) w fun t88 w =>
 CV (.func (.func 74) #[] #[]) #[t88, t46] w fun t90 w =>
 ∀ (lp0 : Loop) (r0 l0 : Nat) (w1 : World), NewRF w w1 r0 l0 lp0 →
 (∀ (w : World) (Kl0 : Value → World → Prop), ∀ t91, ∀ t92, (BeginW l0 lp0 w fun w =>
 Dr w fun w =>
 HV (ld 240 t7) w fun t93 =>
 HV (ld 38 t11) w fun t95 =>
 HV (ld 238 t12) w fun t96 =>
 CV (.func (.func 162) #[] #[]) #[t95, t96, t92] w fun t98 w =>
 RunIs (ld 240 t7) w t93 ∧ (CV t93 #[t91, t98] w fun t99 w =>
 PV (un .not t99) fun t100 =>
 CondW t100
 (U (st 45 t2 (.slice none 0 0)) w fun w =>
 U (st 45 t3 (.slice none 0 0)) w fun w =>
 U (st 4 t4 (.bool false)) w fun w =>
 EndW l0 lp0 (some .ret) w Kl0)
 (EndW l0 lp0 none w Kl0))) → w.heap[l0]? = some (lobj lp0 .ready none) → CV (.func (.yield l0) #[] #[]) #[t91, t92] w Kl0) →
 CE t90 #[.func (.yield l0) #[] #[]] w1 fun _ w => RfEnd l0 lp0 w (fun w =>
 I1 [(.iface r0 t141)] w ∧ M1 [(.iface r0 t141)] w < m1) (fun w =>
 TakeW (marks (.iface r0 t141)) w fun w =>
 CW 45 t2 w fun t1002 => CW 45 t3 w fun t1003 => CW 4 t4 w fun t1004 => R (.tuple #[t1002, t1003, t1004]) w) [])) → K0 [t87] w) →
 CondW t75
 (K0 [(.bool true)] w)
 (V (fa 38 t11 0) w fun t77 w =>
 V (ld 3 t77) w fun t78 w =>
 V (eq .eql 3 (.tmp 78) (.const (.int .i64 33)) t78 (.int .i64 33)) w fun t79 w =>
 ∀ K1 : List Value → World → Prop, (∀ t86, ∀ w, (∀ g : Env,
 K0 [t86] w) → K1 [t86] w) →
 CondW t79
 (V (fa 238 t12 1) w fun t81 w =>
 V (ld 3 t81) w fun t82 w =>
 V (fa 38 t11 1) w fun t83 w =>
 V (ld 3 t83) w fun t84 w =>
 V (bi .lss 3 t82 t84) w fun t85 w =>
 K1 [t85] w)
 (K1 [(.bool false)] w))) → K0 [t75] w) →
 CondW t69
 (K0 [(.bool true)] w)
 (V (fa 238 t12 0) w fun t71 w =>
 V (ld 3 t71) w fun t72 w =>
 V (bi .lss 3 t72 t63) w fun t74 w =>
 K0 [t74] w)) → K0 [t11, t12] w) →
 Dr w fun w =>
 PV (fa 28 t1 5) fun t52 =>
 HV (ld 26 t52) w fun t53 =>
 PV (ia 26 t53 t46) fun t55 =>
 HV (ld 38 t55) w fun t56 =>
 HV (ld 236 t5) w fun t57 =>
 HV (lk 236 t57 t46 false) w fun t59 =>
 (V (al 38) w fun t11 w =>
 RunIs (lk 236 t57 t46 false) w t59 ∧ RunIs (ld 236 t5) w t57 ∧ RunIs (ld 38 t55) w t56 ∧ RunIs (ld 26 t52) w t53 ∧ (V (al 238) w fun t12 w =>
 RunIs (lk 236 t57 t46 false) w t59 ∧ RunIs (ld 236 t5) w t57 ∧ RunIs (ld 38 t55) w t56 ∧ RunIs (ld 26 t52) w t53 ∧ (U (st 38 t11 t56) w fun w =>
 RunIs (lk 236 t57 t46 false) w t59 ∧ RunIs (ld 236 t5) w t57 ∧ (U (st 238 t12 t59) w fun w =>
 K0 [t11, t12] w)))) ∧
 (V (al 238) w fun t12 w =>
 RunIs (lk 236 t57 t46 false) w t59 ∧ RunIs (ld 236 t5) w t57 ∧ RunIs (ld 38 t55) w t56 ∧ RunIs (ld 26 t52) w t53 ∧ (V (al 38) w fun t11 w =>
 RunIs (lk 236 t57 t46 false) w t59 ∧ RunIs (ld 236 t5) w t57 ∧ RunIs (ld 38 t55) w t56 ∧ RunIs (ld 26 t52) w t53 ∧ (U (st 38 t11 t56) w fun w =>
 RunIs (lk 236 t57 t46 false) w t59 ∧ RunIs (ld 236 t5) w t57 ∧ (U (st 238 t12 t59) w fun w =>
 K0 [t11, t12] w)))))
 (∀ K0 : List Value → World → Prop, (∀ t18, ∀ t19, ∀ w, (∀ g : Env,
 V (fa 28 t1 5) w fun t109 w =>
 V (ld 26 t109) w fun t110 w =>
 V (Builtin.len_ #[26] 3 #[t110]) w fun t111 w =>
 ∃ (I2 : List Value → World → Prop) (M2 : List Value → World → Nat), I2 [(.int .i64 0)] w ∧ ∀ g : Env, ∀ t112, ∀ w, I2 [t112] w → ∀ m2, m2 = M2 [t112] w →
 V (bi .lss 3 t112 t111) w fun t113 w =>
 CondW t113
 (∀ K0 : List Value → World → Prop, (∀ w, (∀ g : Env,
 V (bi .add 3 t112 (.int .i64 1)) w fun t138 w =>
 I2 [t138] w ∧ M2 [t138] w < m2) → K0 [] w) →
 V (ia 45 t18 t112) w fun t119 w =>
 U (st 3 t119 (.int .i64 (-1))) w fun w =>
 V (ia 45 t19 t112) w fun t120 w =>
 U (st 3 t120 (.int .i64 (-1))) w fun w =>
 V (ld 236 t5) w fun t122 w =>
 V (lk 236 t122 t112 true) w fun t124 w =>
 V (ex t124 0) w fun t125 w =>
 V (ex t124 1) w fun t126 w =>
 V (al 238) w fun t21 w =>
 U (st 238 t21 t125) w fun w =>
 CondW t126
 (Dr w fun w =>
 PV (fa 238 t21 0) fun t132 =>
 HV (ld 3 t132) w fun t133 =>
 PV (fa 238 t21 1) fun t134 =>
 HV (ld 3 t134) w fun t135 =>
 PV (ia 45 t18 t112) fun t136 =>
 U (st 3 t136 t133) w fun w =>
 RunIs (ld 3 t134) w t135 ∧ (PV (ia 45 t19 t112) fun t137 =>
 U (st 3 t137 t135) w fun w =>
 K0 [] w))
 (K0 [] w))
 (U (st 45 t2 t18) w fun w =>
 U (st 45 t3 t19) w fun w =>
 U (st 4 t4 (.bool true)) w fun w =>
 TakeW (marks t141) w fun w =>
 CW 45 t2 w fun t1002 => CW 45 t3 w fun t1003 => CW 4 t4 w fun t1004 => R (.tuple #[t1002, t1003, t1004]) w)) → K0 [t18, t19] w) →
 Dr w fun w =>
 PV (fa 28 t1 5) fun t101 =>
 HV (ld 26 t101) w fun t102 =>
 PV (Builtin.len_ #[26] 3 #[t102]) fun t103 =>
 PV (fa 28 t1 5) fun t105 =>
 HV (ld 26 t105) w fun t106 =>
 PV (Builtin.len_ #[26] 3 #[t106]) fun t107 =>
 (V (ms 45 t103 t103) w fun t104 w =>
 RunIs (ld 26 t105) w t106 ∧ RunIs (ld 26 t101) w t102 ∧ (V (ms 45 t107 t107) w fun t108 w =>
 RunIs (ld 26 t105) w t106 ∧ RunIs (ld 26 t101) w t102 ∧ (K0 [t104, t108] w))) ∧
 (V (ms 45 t107 t107) w fun t108 w =>
 RunIs (ld 26 t105) w t106 ∧ RunIs (ld 26 t101) w t102 ∧ (V (ms 45 t103 t103) w fun t104 w =>
 RunIs (ld 26 t105) w t106 ∧ RunIs (ld 26 t101) w t102 ∧ (K0 [t104, t108] w)))))
theorem en50 (h : vc50 R w t0) : Calls Tryz.prog 50 #[t0] w (retK R) := calls_of_enter mixed Tryz.func50 (by kernel_rfl) (Eq.mpr (by kernel_rfl : enterW Tryz.prog Tryz.f50 an50 [t0] w R = vc50 R w t0) h)
def an51 : Ann := (.seq (oD 2) (.seq (.seq (.reg (opn 5 (.join [17] [13, 14, 15, 16, 17] (.split 12 (opn 5 .done) (opn 5 .done)) (opn 1 (.join [23] [19, 20, 21, 22, 23] (.split 18 (opn 5 .done) (opn 5 .done)) (opn 1 (.join [29] [25, 26, 27, 28, 29] (.split 24 (opn 5 .done) (opn 5 .done)) (opn 1 (.join [35] [31, 32, 33, 34, 35] (.split 30 (opn 5 .done) (opn 5 .done)) (opn 1 (.join [41] [37, 38, 39, 40, 41] (.split 36 (opn 5 .done) (opn 5 .done)) .done))))))))))) (.cond (.seq (oD 1) .leaf) .leaf)) (.seq (.seq (oD 1) (.one (.loop [3] ([42, 43, 44, 45, 46] ++ rgN 49 7 ++ [2, 47, 48, 3]) (.seq (.seq (oD 5) (.cond .leaf .leaf)) (.seq (.one (.seq (oD 7) (.cond (.seq (oD 1) .leaf) .leaf))) (oD 3)))))) (.seq (.seq (oD 1) (.one (.loop [4] ([56, 57, 58, 59, 60] ++ rgN 63 7 ++ [2, 5] ++ rgN 70 8 ++ rgN 80 11 ++ [78, 79, 61, 62, 4]) (.seq (.seq (oD 5) (.cond .leaf .leaf)) (.seq (.one (.seq (.seq (oD 7) (.cond (.seq (oD 1) .leaf) .leaf)) (.seq (oD 1) (.one (.loop [5] (rgN 70 8 ++ rgN 80 11 ++ [2, 78, 79, 5]) (.seq (.seq (oD 8) (.cond .leaf .leaf)) (.seq (.one (.seq (oD 11) (.cond (.seq (oD 1) .leaf) .leaf))) (oD 3)))))))) (oD 3)))))) (.seq (.seq (oD 1) (.one (.loop [6] ([91, 92, 93, 94, 95] ++ rgN 98 7 ++ [2, 96, 97, 6]) (.seq (.seq (oD 5) (.cond .leaf .leaf)) (.seq (.one (.seq (oD 7) (.cond (.seq (oD 1) .leaf) .leaf))) (oD 3)))))) (.seq (.seq (oD 1) (.one (.loop [7] ([105, 106, 107, 108, 109] ++ rgN 112 8 ++ [2, 110, 111, 7]) (.seq (.seq (oD 5) (.cond .leaf .leaf)) (.seq (.one (.seq (oD 8) (.cond (.seq (oD 1) .leaf) .leaf))) (oD 3)))))) (.seq (oD 1) .leaf)))))))
def vc51 (R : Value → World → Prop) (w : World) (t0 : Value) : Prop :=
 V (bx 28 t0) w fun t1 w =>
 V (fa 28 t1 0) w fun t8 w =>
 V (ld 22 t8) w fun t9 w =>
 V (Builtin.len_ #[22] 3 #[t9]) w fun t10 w =>
 V (bi .gtr 3 t10 (.int .i64 3000)) w fun t11 w =>
 ∀ K0 : List Value → World → Prop, (∀ t17, ∀ w, (∀ g : Env,
 ∀ K0 : List Value → World → Prop, (∀ t23, ∀ w, (∀ g : Env,
 ∀ K0 : List Value → World → Prop, (∀ t29, ∀ w, (∀ g : Env,
 ∀ K0 : List Value → World → Prop, (∀ t35, ∀ w, (∀ g : Env,
 ∀ K0 : List Value → World → Prop, (∀ t41, ∀ w, (∀ g : Env,
 CondW t41
 (R (.bool false) w)
 (∃ (I0 : List Value → World → Prop) (M0 : List Value → World → Nat), I0 [(.int .i64 0)] w ∧ ∀ g : Env, ∀ t3, ∀ w, I0 [t3] w → ∀ m0, m0 = M0 [t3] w →
 V (fa 28 t1 0) w fun t43 w =>
 V (ld 22 t43) w fun t44 w =>
 V (Builtin.len_ #[22] 3 #[t44]) w fun t45 w =>
 V (bi .lss 3 t3 t45) w fun t46 w =>
 CondW t46
 (V (fa 28 t1 0) w fun t49 w =>
 V (ld 22 t49) w fun t50 w =>
 V (ia 22 t50 t3) w fun t52 w =>
 V (ld 9 t52) w fun t53 w =>
 V (Builtin.len_ #[9] 3 #[t53]) w fun t54 w =>
 V (bi .gtr 3 t54 (.int .i64 1000)) w fun t55 w =>
 CondW t55
 (R (.bool false) w)
 (V (bi .add 3 t3 (.int .i64 1)) w fun t48 w =>
 I0 [t48] w ∧ M0 [t48] w < m0))
 (∃ (I1 : List Value → World → Prop) (M1 : List Value → World → Nat), I1 [(.int .i64 0)] w ∧ ∀ g : Env, ∀ t4, ∀ w, I1 [t4] w → ∀ m1, m1 = M1 [t4] w →
 V (fa 28 t1 1) w fun t57 w =>
 V (ld 23 t57) w fun t58 w =>
 V (Builtin.len_ #[23] 3 #[t58]) w fun t59 w =>
 V (bi .lss 3 t4 t59) w fun t60 w =>
 CondW t60
 (V (fa 28 t1 1) w fun t63 w =>
 V (ld 23 t63) w fun t64 w =>
 V (ia 23 t64 t4) w fun t66 w =>
 V (ld 93 t66) w fun t67 w =>
 V (Builtin.len_ #[93] 3 #[t67]) w fun t68 w =>
 V (bi .gtr 3 t68 (.int .i64 100)) w fun t69 w =>
 CondW t69
 (R (.bool false) w)
 (∃ (I2 : List Value → World → Prop) (M2 : List Value → World → Nat), I2 [(.int .i64 0)] w ∧ ∀ g : Env, ∀ t5, ∀ w, I2 [t5] w → ∀ m2, m2 = M2 [t5] w →
 V (fa 28 t1 1) w fun t71 w =>
 V (ld 23 t71) w fun t72 w =>
 V (ia 23 t72 t4) w fun t74 w =>
 V (ld 93 t74) w fun t75 w =>
 V (Builtin.len_ #[93] 3 #[t75]) w fun t76 w =>
 V (bi .lss 3 t5 t76) w fun t77 w =>
 CondW t77
 (V (fa 28 t1 1) w fun t80 w =>
 V (ld 23 t80) w fun t81 w =>
 V (ia 23 t81 t4) w fun t83 w =>
 V (ld 93 t83) w fun t84 w =>
 V (ia 93 t84 t5) w fun t86 w =>
 V (fa 95 t86 1) w fun t87 w =>
 V (ld 9 t87) w fun t88 w =>
 V (Builtin.len_ #[9] 3 #[t88]) w fun t89 w =>
 V (bi .gtr 3 t89 (.int .i64 1000)) w fun t90 w =>
 CondW t90
 (R (.bool false) w)
 (V (bi .add 3 t5 (.int .i64 1)) w fun t79 w =>
 I2 [t79] w ∧ M2 [t79] w < m2))
 (V (bi .add 3 t4 (.int .i64 1)) w fun t62 w =>
 I1 [t62] w ∧ M1 [t62] w < m1)))
 (∃ (I2 : List Value → World → Prop) (M2 : List Value → World → Nat), I2 [(.int .i64 0)] w ∧ ∀ g : Env, ∀ t6, ∀ w, I2 [t6] w → ∀ m2, m2 = M2 [t6] w →
 V (fa 28 t1 2) w fun t92 w =>
 V (ld 24 t92) w fun t93 w =>
 V (Builtin.len_ #[24] 3 #[t93]) w fun t94 w =>
 V (bi .lss 3 t6 t94) w fun t95 w =>
 CondW t95
 (V (fa 28 t1 2) w fun t98 w =>
 V (ld 24 t98) w fun t99 w =>
 V (ia 24 t99 t6) w fun t101 w =>
 V (ld 96 t101) w fun t102 w =>
 V (Builtin.len_ #[96] 3 #[t102]) w fun t103 w =>
 V (bi .gtr 3 t103 (.int .i64 10000)) w fun t104 w =>
 CondW t104
 (R (.bool false) w)
 (V (bi .add 3 t6 (.int .i64 1)) w fun t97 w =>
 I2 [t97] w ∧ M2 [t97] w < m2))
 (∃ (I3 : List Value → World → Prop) (M3 : List Value → World → Nat), I3 [(.int .i64 0)] w ∧ ∀ g : Env, ∀ t7, ∀ w, I3 [t7] w → ∀ m3, m3 = M3 [t7] w →
 V (fa 28 t1 3) w fun t106 w =>
 V (ld 25 t106) w fun t107 w =>
 V (Builtin.len_ #[25] 3 #[t107]) w fun t108 w =>
 V (bi .lss 3 t7 t108) w fun t109 w =>
 CondW t109
 (V (fa 28 t1 3) w fun t112 w =>
 V (ld 25 t112) w fun t113 w =>
 V (ia 25 t113 t7) w fun t115 w =>
 V (fa 54 t115 0) w fun t116 w =>
 V (ld 9 t116) w fun t117 w =>
 V (Builtin.len_ #[9] 3 #[t117]) w fun t118 w =>
 V (bi .gtr 3 t118 (.int .i64 1000)) w fun t119 w =>
 CondW t119
 (R (.bool false) w)
 (V (bi .add 3 t7 (.int .i64 1)) w fun t111 w =>
 I3 [t111] w ∧ M3 [t111] w < m3))
 (R (.bool true) w)))))) → K0 [t41] w) →
 CondW t35
 (K0 [(.bool true)] w)
 (V (fa 28 t1 5) w fun t37 w =>
 V (ld 26 t37) w fun t38 w =>
 V (Builtin.len_ #[26] 3 #[t38]) w fun t39 w =>
 V (bi .gtr 3 t39 (.int .i64 12000)) w fun t40 w =>
 K0 [t40] w)) → K0 [t35] w) →
 CondW t29
 (K0 [(.bool true)] w)
 (V (fa 28 t1 4) w fun t31 w =>
 V (ld 22 t31) w fun t32 w =>
 V (Builtin.len_ #[22] 3 #[t32]) w fun t33 w =>
 V (bi .gtr 3 t33 (.int .i64 100)) w fun t34 w =>
 K0 [t34] w)) → K0 [t29] w) →
 CondW t23
 (K0 [(.bool true)] w)
 (V (fa 28 t1 3) w fun t25 w =>
 V (ld 25 t25) w fun t26 w =>
 V (Builtin.len_ #[25] 3 #[t26]) w fun t27 w =>
 V (bi .gtr 3 t27 (.int .i64 3000)) w fun t28 w =>
 K0 [t28] w)) → K0 [t23] w) →
 CondW t17
 (K0 [(.bool true)] w)
 (V (fa 28 t1 2) w fun t19 w =>
 V (ld 24 t19) w fun t20 w =>
 V (Builtin.len_ #[24] 3 #[t20]) w fun t21 w =>
 V (bi .gtr 3 t21 (.int .i64 3000)) w fun t22 w =>
 K0 [t22] w)) → K0 [t17] w) →
 CondW t11
 (K0 [(.bool true)] w)
 (V (fa 28 t1 1) w fun t13 w =>
 V (ld 23 t13) w fun t14 w =>
 V (Builtin.len_ #[23] 3 #[t14]) w fun t15 w =>
 V (bi .gtr 3 t15 (.int .i64 3000)) w fun t16 w =>
 K0 [t16] w)
theorem en51 (h : vc51 R w t0) : Calls Tryz.prog 51 #[t0] w (retK R) := calls_of_enter mixed Tryz.func51 (by kernel_rfl) (Eq.mpr (by kernel_rfl : enterW Tryz.prog Tryz.f51 an51 [t0] w R = vc51 R w t0) h)
def an52 : Ann := (.seq (oD 2) (.seq (.seq (oD 1) (.one (.loop [3] ([11, 12, 13, 14, 15] ++ rgN 18 7 ++ [2, 16, 17, 3]) (.seq (.seq (oD 5) (.cond .leaf .leaf)) (.seq (.one (.seq (oD 7) (.cond (.seq (oD 1) .leaf) .leaf))) (oD 3)))))) (.seq (.seq (oD 1) (.one (.loop [4] ([25, 26, 27, 28, 29, 5] ++ rgN 32 8 ++ rgN 42 10 ++ [2, 40, 41, 30, 31, 4]) (.seq (.seq (oD 5) (.cond .leaf .leaf)) (.seq (.one (.seq (oD 1) (.one (.loop [5] (rgN 32 8 ++ rgN 42 10 ++ [2, 40, 41, 5]) (.seq (.seq (oD 8) (.cond .leaf .leaf)) (.seq (.one (.seq (oD 10) (.cond (.seq (oD 1) .leaf) .leaf))) (oD 3))))))) (oD 3)))))) (.seq (.seq (oD 1) (.one (.loop [6] ([52, 53, 54, 55, 56] ++ rgN 59 7 ++ [2, 7] ++ rgN 66 8 ++ rgN 76 11 ++ [74, 75, 57, 58, 6]) (.seq (.seq (oD 5) (.cond .leaf .leaf)) (.seq (.one (.seq (.seq (oD 7) (.cond (.seq (oD 1) .leaf) .leaf)) (.seq (oD 1) (.one (.loop [7] (rgN 66 8 ++ rgN 76 11 ++ [2, 74, 75, 7]) (.seq (.seq (oD 8) (.cond .leaf .leaf)) (.seq (.one (.seq (oD 11) (.cond (.seq (oD 1) .leaf) .leaf))) (oD 3)))))))) (oD 3)))))) (.seq (.seq (oD 1) (.one (.loop [8] ([87, 88, 89, 90, 91] ++ rgN 94 42 ++ [2, 92, 93, 8]) (.seq (.seq (oD 5) (.cond .leaf .leaf)) (.seq (.one (.seqJ [135] (rgN 94 42) (.draw (.take 0 (.hold 1 (tkN 2 3 (.hold 5 (.alts (.eff 6 (.take 7 (.take 8 (.split 102 (tkN 9 33 .done) (.take 9 (.hold 10 (tkN 11 3 (.hold 14 (.take 15 (.hold 16 (.take 17 (.take 18 (.alts (.eff 19 (tkN 20 3 (.split 116 (tkN 23 19 .done) (tkN 23 3 (.split 119 (.take 26 (.hold 27 (tkN 28 3 (.hold 31 (.take 32 (.hold 33 (tkN 34 4 (.hold 38 (tkN 39 3 .done))))))))) (tkN 26 16 .done))))) .nil))))))))))))) .nil))))))) (.cond (.seq (oD 1) .leaf) .leaf))) (oD 3)))))) (.seq (.seq (oD 1) (.one (.loop [9] ([136, 137, 138, 139, 140] ++ rgN 143 7 ++ [2, 10, 150, 151, 152] ++ rgN 155 11 ++ [153, 154, 141, 142, 9]) (.seq (.seq (oD 5) (.cond .leaf .leaf)) (.seq (.one (.seq (.seq (oD 7) (.cond (.seq (oD 1) .leaf) .leaf)) (.seq (oD 1) (.one (.loop [10] ([150, 151, 152] ++ rgN 155 11 ++ [2, 153, 154, 10]) (.seq (.seq (oD 3) (.cond .leaf .leaf)) (.seq (.one (.seq (.draw (.take 0 (.hold 1 (.take 2 (.take 3 (.hold 4 (.take 5 (.hold 6 (.take 7 (.take 8 (.hold 9 (.take 10 .done)))))))))))) (.cond (.seq (oD 1) .leaf) .leaf))) (oD 3)))))))) (oD 3)))))) (.seq (oD 1) .leaf)))))))
def vc52 (R : Value → World → Prop) (w : World) (t0 : Value) : Prop :=
 V (bx 28 t0) w fun t1 w =>
 ∃ (I0 : List Value → World → Prop) (M0 : List Value → World → Nat), I0 [(.int .i64 0)] w ∧ ∀ g : Env, ∀ t3, ∀ w, I0 [t3] w → ∀ m0, m0 = M0 [t3] w →
 V (fa 28 t1 0) w fun t12 w =>
 V (ld 22 t12) w fun t13 w =>
 V (Builtin.len_ #[22] 3 #[t13]) w fun t14 w =>
 V (bi .lss 3 t3 t14) w fun t15 w =>
 CondW t15
 (V (fa 28 t1 0) w fun t18 w =>
 V (ld 22 t18) w fun t19 w =>
 V (ia 22 t19 t3) w fun t21 w =>
 V (ld 9 t21) w fun t22 w =>
 CV (.func (.func 163) #[] #[]) #[t22] w fun t23 w =>
 V (un .not t23) w fun t24 w =>
 CondW t24
 (R (.bool false) w)
 (V (bi .add 3 t3 (.int .i64 1)) w fun t17 w =>
 I0 [t17] w ∧ M0 [t17] w < m0))
 (∃ (I1 : List Value → World → Prop) (M1 : List Value → World → Nat), I1 [(.int .i64 0)] w ∧ ∀ g : Env, ∀ t4, ∀ w, I1 [t4] w → ∀ m1, m1 = M1 [t4] w →
 V (fa 28 t1 1) w fun t26 w =>
 V (ld 23 t26) w fun t27 w =>
 V (Builtin.len_ #[23] 3 #[t27]) w fun t28 w =>
 V (bi .lss 3 t4 t28) w fun t29 w =>
 CondW t29
 (∃ (I2 : List Value → World → Prop) (M2 : List Value → World → Nat), I2 [(.int .i64 0)] w ∧ ∀ g : Env, ∀ t5, ∀ w, I2 [t5] w → ∀ m2, m2 = M2 [t5] w →
 V (fa 28 t1 1) w fun t33 w =>
 V (ld 23 t33) w fun t34 w =>
 V (ia 23 t34 t4) w fun t36 w =>
 V (ld 93 t36) w fun t37 w =>
 V (Builtin.len_ #[93] 3 #[t37]) w fun t38 w =>
 V (bi .lss 3 t5 t38) w fun t39 w =>
 CondW t39
 (V (fa 28 t1 1) w fun t42 w =>
 V (ld 23 t42) w fun t43 w =>
 V (ia 23 t43 t4) w fun t45 w =>
 V (ld 93 t45) w fun t46 w =>
 V (ia 93 t46 t5) w fun t48 w =>
 V (ld 95 t48) w fun t49 w =>
 CV (.func (.func 164) #[] #[]) #[t49] w fun t50 w =>
 V (un .not t50) w fun t51 w =>
 CondW t51
 (R (.bool false) w)
 (V (bi .add 3 t5 (.int .i64 1)) w fun t41 w =>
 I2 [t41] w ∧ M2 [t41] w < m2))
 (V (bi .add 3 t4 (.int .i64 1)) w fun t31 w =>
 I1 [t31] w ∧ M1 [t31] w < m1))
 (∃ (I2 : List Value → World → Prop) (M2 : List Value → World → Nat), I2 [(.int .i64 0)] w ∧ ∀ g : Env, ∀ t6, ∀ w, I2 [t6] w → ∀ m2, m2 = M2 [t6] w →
 V (fa 28 t1 2) w fun t53 w =>
 V (ld 24 t53) w fun t54 w =>
 V (Builtin.len_ #[24] 3 #[t54]) w fun t55 w =>
 V (bi .lss 3 t6 t55) w fun t56 w =>
 CondW t56
 (V (fa 28 t1 2) w fun t59 w =>
 V (ld 24 t59) w fun t60 w =>
 V (ia 24 t60 t6) w fun t62 w =>
 V (ld 96 t62) w fun t63 w =>
 V (Builtin.len_ #[96] 3 #[t63]) w fun t64 w =>
 V (eq .eql 3 (.tmp 64) (.const (.int .i64 0)) t64 (.int .i64 0)) w fun t65 w =>
 CondW t65
 (R (.bool false) w)
 (∃ (I3 : List Value → World → Prop) (M3 : List Value → World → Nat), I3 [(.int .i64 0)] w ∧ ∀ g : Env, ∀ t7, ∀ w, I3 [t7] w → ∀ m3, m3 = M3 [t7] w →
 V (fa 28 t1 2) w fun t67 w =>
 V (ld 24 t67) w fun t68 w =>
 V (ia 24 t68 t6) w fun t70 w =>
 V (ld 96 t70) w fun t71 w =>
 V (Builtin.len_ #[96] 3 #[t71]) w fun t72 w =>
 V (bi .lss 3 t7 t72) w fun t73 w =>
 CondW t73
 (V (fa 28 t1 2) w fun t76 w =>
 V (ld 24 t76) w fun t77 w =>
 V (ia 24 t77 t6) w fun t79 w =>
 V (ld 96 t79) w fun t80 w =>
 V (ia 96 t80 t7) w fun t82 w =>
 V (fa 98 t82 0) w fun t83 w =>
 V (ld 9 t83) w fun t84 w =>
 CV (.func (.func 165) #[] #[]) #[t84] w fun t85 w =>
 V (un .not t85) w fun t86 w =>
 CondW t86
 (R (.bool false) w)
 (V (bi .add 3 t7 (.int .i64 1)) w fun t75 w =>
 I3 [t75] w ∧ M3 [t75] w < m3))
 (V (bi .add 3 t6 (.int .i64 1)) w fun t58 w =>
 I2 [t58] w ∧ M2 [t58] w < m2)))
 (∃ (I3 : List Value → World → Prop) (M3 : List Value → World → Nat), I3 [(.int .i64 0)] w ∧ ∀ g : Env, ∀ t8, ∀ w, I3 [t8] w → ∀ m3, m3 = M3 [t8] w →
 V (fa 28 t1 3) w fun t88 w =>
 V (ld 25 t88) w fun t89 w =>
 V (Builtin.len_ #[25] 3 #[t89]) w fun t90 w =>
 V (bi .lss 3 t8 t90) w fun t91 w =>
 CondW t91
 (∀ K0 : List Value → World → Prop, (∀ t135, ∀ w, (∀ g : Env,
 CondW t135
 (R (.bool false) w)
 (V (bi .add 3 t8 (.int .i64 1)) w fun t93 w =>
 I3 [t93] w ∧ M3 [t93] w < m3)) → K0 [t135] w) →
 Dr w fun w =>
 PV (fa 28 t1 3) fun t94 =>
 HV (ld 25 t94) w fun t95 =>
 PV (ia 25 t95 t8) fun t97 =>
 PV (fa 54 t97 0) fun t98 =>
 HV (ld 9 t98) w fun t99 =>
 CV (.func (.func 163) #[] #[]) #[t99] w fun t100 w =>
 RunIs (ld 25 t94) w t95 ∧ (PV (un .not t100) fun t101 =>
 CondW t101
 (K0 [(.bool true)] w)
 (PV (fa 28 t1 3) fun t103 =>
 HV (ld 25 t103) w fun t104 =>
 PV (ia 25 t104 t8) fun t106 =>
 PV (fa 54 t106 1) fun t107 =>
 HV (ld 3 t107) w fun t108 =>
 PV (fa 28 t1 5) fun t109 =>
 HV (ld 26 t109) w fun t110 =>
 PV (Builtin.len_ #[26] 3 #[t110]) fun t111 =>
 PV (bi .sub 3 t111 (.int .i64 1)) fun t112 =>
 CV (.func (.func 59) #[] #[]) #[t108, (.int .i64 0), t112] w fun t113 w =>
 RunIs (ld 26 t109) w t110 ∧ RunIs (ld 25 t103) w t104 ∧ RunIs (ld 25 t94) w t95 ∧ (PV (un .not t113) fun t114 =>
 CondW t114
 (K0 [(.bool true)] w)
 (PV (bi .gtr 3 t8 (.int .i64 0)) fun t118 =>
 CondW t118
 (PV (fa 28 t1 3) fun t120 =>
 HV (ld 25 t120) w fun t121 =>
 PV (ia 25 t121 t8) fun t123 =>
 PV (fa 54 t123 1) fun t124 =>
 HV (ld 3 t124) w fun t125 =>
 PV (fa 28 t1 3) fun t126 =>
 HV (ld 25 t126) w fun t127 =>
 PV (bi .sub 3 t8 (.int .i64 1)) fun t129 =>
 PV (ia 25 t127 t129) fun t130 =>
 PV (fa 54 t130 1) fun t131 =>
 HV (ld 3 t131) w fun t132 =>
 PV (bi .lss 3 t125 t132) fun t133 =>
 K0 [t133] w)
 (K0 [(.bool false)] w))))))
 (∃ (I4 : List Value → World → Prop) (M4 : List Value → World → Nat), I4 [(.int .i64 0)] w ∧ ∀ g : Env, ∀ t9, ∀ w, I4 [t9] w → ∀ m4, m4 = M4 [t9] w →
 V (fa 28 t1 4) w fun t137 w =>
 V (ld 22 t137) w fun t138 w =>
 V (Builtin.len_ #[22] 3 #[t138]) w fun t139 w =>
 V (bi .lss 3 t9 t139) w fun t140 w =>
 CondW t140
 (V (fa 28 t1 4) w fun t143 w =>
 V (ld 22 t143) w fun t144 w =>
 V (ia 22 t144 t9) w fun t146 w =>
 V (ld 9 t146) w fun t147 w =>
 CV (.func (.func 166) #[] #[]) #[t147] w fun t148 w =>
 V (eq .neq 3 (.tmp 148) (.const (.int .i64 2)) t148 (.int .i64 2)) w fun t149 w =>
 CondW t149
 (R (.bool false) w)
 (∃ (I5 : List Value → World → Prop) (M5 : List Value → World → Nat), I5 [(.int .i64 0)] w ∧ ∀ g : Env, ∀ t10, ∀ w, I5 [t10] w → ∀ m5, m5 = M5 [t10] w →
 V (bi .lss 3 t10 t9) w fun t152 w =>
 CondW t152
 (Dr w fun w =>
 PV (fa 28 t1 4) fun t155 =>
 HV (ld 22 t155) w fun t156 =>
 PV (ia 22 t156 t10) fun t158 =>
 HV (ld 9 t158) w fun t159 =>
 PV (fa 28 t1 4) fun t160 =>
 HV (ld 22 t160) w fun t161 =>
 PV (ia 22 t161 t9) fun t163 =>
 HV (ld 9 t163) w fun t164 =>
 PV (eq .eql 9 (.tmp 159) (.tmp 164) t159 t164) fun t165 =>
 CondW t165
 (R (.bool false) w)
 (V (bi .add 3 t10 (.int .i64 1)) w fun t154 w =>
 I5 [t154] w ∧ M5 [t154] w < m5))
 (V (bi .add 3 t9 (.int .i64 1)) w fun t142 w =>
 I4 [t142] w ∧ M4 [t142] w < m4)))
 (R (.bool true) w)))))
theorem en52 (h : vc52 R w t0) : Calls Tryz.prog 52 #[t0] w (retK R) := calls_of_enter mixed Tryz.func52 (by kernel_rfl) (Eq.mpr (by kernel_rfl : enterW Tryz.prog Tryz.f52 an52 [t0] w R = vc52 R w t0) h)
def an53 : Ann := (.seq (oD 3) (.seq (oD 8) (.seq (.seq (.reg (opn 3 (.join [21] [17, 18, 19, 20, 21] (.split 16 (opn 5 .done) (opn 5 .done)) .done))) (.cond (.seq (oD 1) .leaf) .leaf)) (.seq (oD 4) (.seq (.seq (oD 1) (.one (.loop [8] ([24, 25] ++ rgN 28 14 ++ [4, 26, 27, 8]) (.seq (.seq (oD 2) (.cond .leaf .leaf)) (.seq (.one (.seq (.draw (.hold 0 (tkN 1 3 (.hold 4 (tkN 5 3 (.hold 8 (.take 9 (.take 10 (.hold 11 (.alts (.eff 12 (.take 13 .done) .nil))))))))))) (.cond (.seq (oD 1) .leaf) .leaf))) (oD 3)))))) (.seq (.seq (oD 2) (.one (.seqJ [44] [45, 44, 46] (.seq (oD 2) (.cond .leaf (oD 2))) (.cond (.seq (.reg (opn 8 (.join [68] (rgN 55 14) (.split 54 (opn 4 (.join [67] (rgN 59 9) (.split 58 (opn 9 .done) (opn 9 .done)) (opn 1 .done))) (opn 14 .done)) (opn 1 .done)))) .leaf) (.seq (oD 2) (.cond (.seq (.reg (opn 4 (.join [78] [75, 76, 77, 78] (.split 74 (opn 4 .done) (opn 4 .done)) (opn 1 (.join [92] (rgN 80 13) (.split 79 (opn 13 .done) (opn 4 (.join [91] (rgN 84 8) (.split 83 (opn 8 .done) (opn 8 .done)) (opn 1 .done)))) (opn 1 .done)))))) .leaf) (.seq (oD 2) (.cond (.seq (.seq (.reg (opn 4 (.join [107] (rgN 99 9) (.split 98 (opn 4 (.join [106] [103, 104, 105, 106] (.split 102 (opn 4 .done) (opn 4 .done)) (opn 1 .done))) (opn 9 .done)) .done))) (.cond (.seq (oD 1) .leaf) .leaf)) (.seq (.reg (opn 4 (.join [134] (rgN 112 23) (.split 111 (opn 23 .done) (opn 4 (.join [123] (rgN 116 8) (.split 115 (opn 8 .done) (opn 8 .done)) (opn 1 (.join [133] (rgN 125 9) (.split 124 (opn 9 .done) (opn 9 .done)) (opn 1 .done)))))) (opn 1 .done)))) .leaf)) (.seq (oD 2) (.cond (.seq (oD 9) .leaf) .leaf)))))))))) (.seq (oD 1) .leaf)))))))
def vc53 (R : Value → World → Prop) (w : World) (t0 t1 : Value) : Prop :=
 V (bx 28 t0) w fun t2 w =>
 V (bx 38 t1) w fun t3 w =>
 V (ld 38 t3) w fun t10 w =>
 CV (.func (.func 58) #[] #[]) #[t10] w fun t11 w =>
 V (ex t11 0) w fun t12 w =>
 V (ex t11 1) w fun t13 w =>
 V (al 108) w fun t5 w =>
 U (st 108 t5 t12) w fun w =>
 V (un .not t13) w fun t15 w =>
 ∀ K0 : List Value → World → Prop, (∀ t21, ∀ w, (∀ g : Env,
 CondW t21
 (R (.bool false) w)
 (V (ld 38 t3) w fun t22 w =>
 CV (.func (.func 80) #[] #[]) #[t22] w fun t23 w =>
 V (al 100) w fun t7 w =>
 U (st 100 t7 t23) w fun w =>
 ∃ (I0 : List Value → World → Prop) (M0 : List Value → World → Nat), I0 [(.int .i64 0)] w ∧ ∀ g : Env, ∀ t8, ∀ w, I0 [t8] w → ∀ m0, m0 = M0 [t8] w →
 V (bi .lss 3 t8 (.int .i64 3)) w fun t25 w =>
 CondW t25
 (Dr w fun w =>
 HV (ld 28 t2) w fun t28 =>
 PV (fa 108 t5 1) fun t30 =>
 PV (ia 100 t30 t8) fun t31 =>
 HV (ld 3 t31) w fun t32 =>
 PV (fa 108 t5 2) fun t34 =>
 PV (ia 100 t34 t8) fun t35 =>
 HV (ld 3 t35) w fun t36 =>
 PV (ia 100 t7 t8) fun t38 =>
 HV (ld 3 t38) w fun t39 =>
 CV (.func (.func 167) #[] #[]) #[t28, t32, t36, t39] w fun t40 w =>
 PV (un .not t40) fun t41 =>
 CondW t41
 (R (.bool false) w)
 (V (bi .add 3 t8 (.int .i64 1)) w fun t27 w =>
 I0 [t27] w ∧ M0 [t27] w < m0))
 (V (fa 38 t3 0) w fun t42 w =>
 V (ld 3 t42) w fun t43 w =>
 ∀ K0 : List Value → World → Prop, (∀ t44, ∀ w, (∀ g : Env,
 CondW t44
 (V (fa 38 t3 1) w fun t47 w =>
 V (ld 3 t47) w fun t48 w =>
 V (fa 28 t2 0) w fun t49 w =>
 V (ld 22 t49) w fun t50 w =>
 V (Builtin.len_ #[22] 3 #[t50]) w fun t51 w =>
 V (bi .sub 3 t51 (.int .i64 1)) w fun t52 w =>
 CV (.func (.func 59) #[] #[]) #[t48, (.int .i64 0), t52] w fun t53 w =>
 ∀ K0 : List Value → World → Prop, (∀ t68, ∀ w, (∀ g : Env,
 R t68 w) → K0 [t68] w) →
 CondW t53
 (V (fa 38 t3 3) w fun t55 w =>
 V (ld 3 t55) w fun t56 w =>
 V (eq .eql 3 (.tmp 56) (.const (.int .i64 1)) t56 (.int .i64 1)) w fun t57 w =>
 ∀ K1 : List Value → World → Prop, (∀ t67, ∀ w, (∀ g : Env,
 K0 [t67] w) → K1 [t67] w) →
 CondW t57
 (K1 [(.bool true)] w)
 (V (fa 28 t2 0) w fun t59 w =>
 V (ld 22 t59) w fun t60 w =>
 V (fa 38 t3 1) w fun t61 w =>
 V (ld 3 t61) w fun t62 w =>
 V (ia 22 t60 t62) w fun t63 w =>
 V (ld 9 t63) w fun t64 w =>
 CV (.func (.func 166) #[] #[]) #[t64] w fun t65 w =>
 V (bi .gtr 3 t65 (.int .i64 0)) w fun t66 w =>
 K1 [t66] w))
 (K0 [(.bool false)] w))
 (V (eq .eql 3 (.tmp 43) (.const (.int .i64 19)) t43 (.int .i64 19)) w fun t70 w =>
 CondW t70
 (V (fa 38 t3 1) w fun t71 w =>
 V (ld 3 t71) w fun t72 w =>
 V (eq .neq 3 (.tmp 72) (.const (.int .i64 1)) t72 (.int .i64 1)) w fun t73 w =>
 ∀ K0 : List Value → World → Prop, (∀ t78, ∀ w, (∀ g : Env,
 ∀ K0 : List Value → World → Prop, (∀ t92, ∀ w, (∀ g : Env,
 R t92 w) → K0 [t92] w) →
 CondW t78
 (K0 [(.bool true)] w)
 (V (fa 38 t3 1) w fun t80 w =>
 V (ld 3 t80) w fun t81 w =>
 V (eq .eql 3 (.tmp 81) (.const (.int .i64 1)) t81 (.int .i64 1)) w fun t82 w =>
 ∀ K1 : List Value → World → Prop, (∀ t91, ∀ w, (∀ g : Env,
 K0 [t91] w) → K1 [t91] w) →
 CondW t82
 (V (fa 38 t3 2) w fun t84 w =>
 V (ld 3 t84) w fun t85 w =>
 V (fa 28 t2 0) w fun t86 w =>
 V (ld 22 t86) w fun t87 w =>
 V (Builtin.len_ #[22] 3 #[t87]) w fun t88 w =>
 V (bi .sub 3 t88 (.int .i64 1)) w fun t89 w =>
 CV (.func (.func 59) #[] #[]) #[t85, (.int .i64 0), t89] w fun t90 w =>
 K1 [t90] w)
 (K1 [(.bool false)] w))) → K0 [t78] w) →
 CondW t73
 (V (fa 38 t3 2) w fun t75 w =>
 V (ld 3 t75) w fun t76 w =>
 V (eq .eql 3 (.tmp 76) (.const (.int .i64 0)) t76 (.int .i64 0)) w fun t77 w =>
 K0 [t77] w)
 (K0 [(.bool false)] w))
 (V (eq .eql 3 (.tmp 43) (.const (.int .i64 22)) t43 (.int .i64 22)) w fun t94 w =>
 CondW t94
 (V (fa 38 t3 2) w fun t95 w =>
 V (ld 3 t95) w fun t96 w =>
 V (eq .eql 3 (.tmp 96) (.const (.int .i64 2)) t96 (.int .i64 2)) w fun t97 w =>
 ∀ K0 : List Value → World → Prop, (∀ t107, ∀ w, (∀ g : Env,
 CondW t107
 (R (.bool false) w)
 (V (fa 38 t3 3) w fun t108 w =>
 V (ld 3 t108) w fun t109 w =>
 V (eq .eql 3 (.tmp 109) (.const (.int .i64 (-1))) t109 (.int .i64 (-1))) w fun t110 w =>
 ∀ K0 : List Value → World → Prop, (∀ t134, ∀ w, (∀ g : Env,
 R t134 w) → K0 [t134] w) →
 CondW t110
 (K0 [(.bool true)] w)
 (V (fa 38 t3 2) w fun t112 w =>
 V (ld 3 t112) w fun t113 w =>
 V (eq .neq 3 (.tmp 113) (.const (.int .i64 0)) t113 (.int .i64 0)) w fun t114 w =>
 ∀ K1 : List Value → World → Prop, (∀ t123, ∀ w, (∀ g : Env,
 ∀ K1 : List Value → World → Prop, (∀ t133, ∀ w, (∀ g : Env,
 K0 [t133] w) → K1 [t133] w) →
 CondW t123
 (V (fa 28 t2 0) w fun t125 w =>
 V (ld 22 t125) w fun t126 w =>
 V (fa 38 t3 3) w fun t127 w =>
 V (ld 3 t127) w fun t128 w =>
 V (ia 22 t126 t128) w fun t129 w =>
 V (ld 9 t129) w fun t130 w =>
 CV (.func (.func 166) #[] #[]) #[t130] w fun t131 w =>
 V (eq .eql 3 (.tmp 131) (.const (.int .i64 2)) t131 (.int .i64 2)) w fun t132 w =>
 K1 [t132] w)
 (K1 [(.bool false)] w)) → K1 [t123] w) →
 CondW t114
 (V (fa 38 t3 3) w fun t116 w =>
 V (ld 3 t116) w fun t117 w =>
 V (fa 28 t2 0) w fun t118 w =>
 V (ld 22 t118) w fun t119 w =>
 V (Builtin.len_ #[22] 3 #[t119]) w fun t120 w =>
 V (bi .sub 3 t120 (.int .i64 1)) w fun t121 w =>
 CV (.func (.func 59) #[] #[]) #[t117, (.int .i64 0), t121] w fun t122 w =>
 K1 [t122] w)
 (K1 [(.bool false)] w)))) → K0 [t107] w) →
 CondW t97
 (V (fa 38 t3 1) w fun t99 w =>
 V (ld 3 t99) w fun t100 w =>
 V (eq .eql 3 (.tmp 100) (.const (.int .i64 3)) t100 (.int .i64 3)) w fun t101 w =>
 ∀ K1 : List Value → World → Prop, (∀ t106, ∀ w, (∀ g : Env,
 K0 [t106] w) → K1 [t106] w) →
 CondW t101
 (K1 [(.bool true)] w)
 (V (fa 38 t3 1) w fun t103 w =>
 V (ld 3 t103) w fun t104 w =>
 V (eq .eql 3 (.tmp 104) (.const (.int .i64 5)) t104 (.int .i64 5)) w fun t105 w =>
 K1 [t105] w))
 (K0 [(.bool false)] w))
 (V (eq .eql 3 (.tmp 43) (.const (.int .i64 27)) t43 (.int .i64 27)) w fun t136 w =>
 CondW t136
 (V (fa 28 t2 0) w fun t137 w =>
 V (ld 22 t137) w fun t138 w =>
 V (fa 38 t3 1) w fun t139 w =>
 V (ld 3 t139) w fun t140 w =>
 V (ia 22 t138 t140) w fun t141 w =>
 V (ld 9 t141) w fun t142 w =>
 CV (.func (.func 166) #[] #[]) #[t142] w fun t143 w =>
 V (eq .neq 3 (.tmp 143) (.const (.int .i64 3)) t143 (.int .i64 3)) w fun t144 w =>
 R t144 w)
 (R (.bool true) w))))) → K0 [t44] w) →
 V (eq .eql 3 (.tmp 43) (.const (.int .i64 12)) t43 (.int .i64 12)) w fun t45 w =>
 CondW t45
 (K0 [t45] w)
 (V (eq .eql 3 (.tmp 43) (.const (.int .i64 21)) t43 (.int .i64 21)) w fun t46 w =>
 K0 [t46] w)))) → K0 [t21] w) →
 CondW t15
 (K0 [(.bool true)] w)
 (V (ld 38 t3) w fun t17 w =>
 CV (.func (.func 18) #[] #[]) #[t17] w fun t18 w =>
 V (fl 42 t18 2) w fun t19 w =>
 V (eq .neq 31 (.tmp 19) (.const (.int .i64 0)) t19 (.int .i64 0)) w fun t20 w =>
 K0 [t20] w)
theorem en53 (h : vc53 R w t0 t1) : Calls Tryz.prog 53 #[t0, t1] w (retK R) := calls_of_enter mixed Tryz.func53 (by kernel_rfl) (Eq.mpr (by kernel_rfl : enterW Tryz.prog Tryz.f53 an53 [t0, t1] w R = vc53 R w t0 t1) h)
def an54 : Ann := (.seq (oD 1) (.seq (oD 145) .leaf))
def vc54 (R : Value → World → Prop) (w : World) : Prop :=
 V (bd 108 #[]) w fun t1 w =>
 V (bd 100 #[(0, (.int .i64 1)), (1, (.int .i64 2)), (2, (.int .i64 13))]) w fun t2 w =>
 V (bd 100 #[(0, (.int .i64 0)), (1, (.int .i64 0)), (2, (.int .i64 2))]) w fun t3 w =>
 V (bd 108 #[(0, (.string ⟨#[99, 108, 97, 117, 115, 101]⟩)), (1, t2), (2, t3), (3, (.int .i64 0)), (4, (.int .i64 0)), (5, (.bool false))]) w fun t4 w =>
 V (bd 100 #[]) w fun t5 w =>
 V (bd 100 #[]) w fun t6 w =>
 V (bd 108 #[(0, (.string ⟨#[100, 111, 110, 101]⟩)), (1, t5), (2, t6), (3, (.int .i64 0)), (4, (.int .i64 0)), (5, (.bool false))]) w fun t7 w =>
 V (bd 100 #[(0, (.int .i64 2))]) w fun t8 w =>
 V (bd 100 #[]) w fun t9 w =>
 V (bd 108 #[(0, (.string ⟨#[99, 111, 110, 115, 116]⟩)), (1, t8), (2, t9), (3, (.int .i64 0)), (4, (.int .i64 1)), (5, (.bool false))]) w fun t10 w =>
 V (bd 100 #[]) w fun t11 w =>
 V (bd 100 #[]) w fun t12 w =>
 V (bd 108 #[(0, (.string ⟨#[109, 105, 115, 115]⟩)), (1, t11), (2, t12), (3, (.int .i64 0)), (4, (.int .i64 1)), (5, (.bool false))]) w fun t13 w =>
 V (bd 100 #[(0, (.int .i64 3))]) w fun t14 w =>
 V (bd 100 #[]) w fun t15 w =>
 V (bd 108 #[(0, (.string ⟨#[118, 97, 114]⟩)), (1, t14), (2, t15), (3, (.int .i64 0)), (4, (.int .i64 1)), (5, (.bool false))]) w fun t16 w =>
 V (bd 100 #[(0, (.int .i64 7))]) w fun t17 w =>
 V (bd 100 #[]) w fun t18 w =>
 V (bd 108 #[(0, (.string ⟨#[115, 108, 111, 116]⟩)), (1, t17), (2, t18), (3, (.int .i64 0)), (4, (.int .i64 1)), (5, (.bool false))]) w fun t19 w =>
 V (bd 100 #[(0, (.int .i64 4))]) w fun t20 w =>
 V (bd 100 #[]) w fun t21 w =>
 V (bd 108 #[(0, (.string ⟨#[115, 116, 101, 109]⟩)), (1, t20), (2, t21), (3, (.int .i64 0)), (4, (.int .i64 1)), (5, (.bool false))]) w fun t22 w =>
 V (bd 100 #[(0, (.int .i64 5))]) w fun t23 w =>
 V (bd 100 #[]) w fun t24 w =>
 V (bd 108 #[(0, (.string ⟨#[99, 111, 109, 112]⟩)), (1, t23), (2, t24), (3, (.int .i64 0)), (4, (.int .i64 1)), (5, (.bool false))]) w fun t25 w =>
 V (bd 100 #[(0, (.int .i64 6))]) w fun t26 w =>
 V (bd 100 #[]) w fun t27 w =>
 V (bd 108 #[(0, (.string ⟨#[112, 101, 101, 107]⟩)), (1, t26), (2, t27), (3, (.int .i64 0)), (4, (.int .i64 1)), (5, (.bool false))]) w fun t28 w =>
 V (bd 100 #[(0, (.int .i64 14))]) w fun t29 w =>
 CV (.func (.func 168) #[] #[]) #[] w fun t30 w =>
 V (Builtin.len_ #[22] 3 #[t30]) w fun t31 w =>
 V (bd 100 #[(0, t31)]) w fun t32 w =>
 V (bd 108 #[(0, (.string ⟨#[98, 105, 110]⟩)), (1, t29), (2, t32), (3, (.int .i64 2)), (4, (.int .i64 1)), (5, (.bool false))]) w fun t33 w =>
 V (bd 100 #[(0, (.int .i64 14))]) w fun t34 w =>
 CV (.func (.func 169) #[] #[]) #[] w fun t35 w =>
 V (Builtin.len_ #[22] 3 #[t35]) w fun t36 w =>
 V (bd 100 #[(0, t36)]) w fun t37 w =>
 V (bd 108 #[(0, (.string ⟨#[117, 110]⟩)), (1, t34), (2, t37), (3, (.int .i64 1)), (4, (.int .i64 1)), (5, (.bool false))]) w fun t38 w =>
 V (bd 100 #[(0, (.int .i64 15)), (1, (.int .i64 13)), (2, (.int .i64 13))]) w fun t39 w =>
 V (bd 100 #[(0, (.int .i64 0)), (1, (.int .i64 10)), (2, (.int .i64 1))]) w fun t40 w =>
 V (bd 108 #[(0, (.string ⟨#[102, 117, 110]⟩)), (1, t39), (2, t40), (3, (.int .i64 0)), (4, (.int .i64 1)), (5, (.bool false))]) w fun t41 w =>
 V (bd 100 #[]) w fun t42 w =>
 V (bd 100 #[]) w fun t43 w =>
 V (bd 108 #[(0, (.string ⟨#[116, 101, 108, 108]⟩)), (1, t42), (2, t43), (3, (.int .i64 1)), (4, (.int .i64 1)), (5, (.bool false))]) w fun t44 w =>
 V (bd 100 #[]) w fun t45 w =>
 V (bd 100 #[]) w fun t46 w =>
 V (bd 108 #[(0, (.string ⟨#[112, 111, 112]⟩)), (1, t45), (2, t46), (3, (.int .i64 1)), (4, (.int .i64 0)), (5, (.bool false))]) w fun t47 w =>
 V (bd 100 #[(0, (.int .i64 6))]) w fun t48 w =>
 V (bd 100 #[]) w fun t49 w =>
 V (bd 108 #[(0, (.string ⟨#[115, 101, 116]⟩)), (1, t48), (2, t49), (3, (.int .i64 1)), (4, (.int .i64 0)), (5, (.bool false))]) w fun t50 w =>
 V (bd 100 #[(0, (.int .i64 7))]) w fun t51 w =>
 V (bd 100 #[]) w fun t52 w =>
 V (bd 108 #[(0, (.string ⟨#[112, 117, 116]⟩)), (1, t51), (2, t52), (3, (.int .i64 1)), (4, (.int .i64 0)), (5, (.bool false))]) w fun t53 w =>
 V (bd 100 #[(0, (.int .i64 9))]) w fun t54 w =>
 V (bd 100 #[]) w fun t55 w =>
 V (bd 108 #[(0, (.string ⟨#[100, 114, 111, 112]⟩)), (1, t54), (2, t55), (3, (.int .i64 0)), (4, (.int .i64 0)), (5, (.bool false))]) w fun t56 w =>
 V (bd 100 #[(0, (.int .i64 10))]) w fun t57 w =>
 V (bd 100 #[]) w fun t58 w =>
 V (bd 108 #[(0, (.string ⟨#[112, 114, 111, 99]⟩)), (1, t57), (2, t58), (3, (.int .i64 0)), (4, (.int .i64 0)), (5, (.bool false))]) w fun t59 w =>
 V (bd 100 #[(0, (.int .i64 13)), (1, (.int .i64 15))]) w fun t60 w =>
 V (bd 100 #[(0, (.int .i64 2))]) w fun t61 w =>
 V (bd 108 #[(0, (.string ⟨#[97, 100, 100, 114]⟩)), (1, t60), (2, t61), (3, (.int .i64 0)), (4, (.int .i64 0)), (5, (.bool false))]) w fun t62 w =>
 V (bd 100 #[(0, (.int .i64 12))]) w fun t63 w =>
 V (bd 100 #[]) w fun t64 w =>
 V (bd 108 #[(0, (.string ⟨#[99, 109, 100]⟩)), (1, t63), (2, t64), (3, (.int .i64 1)), (4, (.int .i64 0)), (5, (.bool false))]) w fun t65 w =>
 V (bd 100 #[(0, (.int .i64 15)), (1, (.int .i64 13)), (2, (.int .i64 13))]) w fun t66 w =>
 V (bd 100 #[(0, (.int .i64 0)), (1, (.int .i64 10)), (2, (.int .i64 1))]) w fun t67 w =>
 V (bd 108 #[(0, (.string ⟨#[115, 117, 98]⟩)), (1, t66), (2, t67), (3, (.int .i64 0)), (4, (.int .i64 0)), (5, (.bool false))]) w fun t68 w =>
 V (bd 100 #[(0, (.int .i64 13)), (1, (.int .i64 13)), (2, (.int .i64 15))]) w fun t69 w =>
 V (bd 100 #[(0, (.int .i64 5)), (1, (.int .i64 2))]) w fun t70 w =>
 V (bd 108 #[(0, (.string ⟨#[116, 114, 97, 112]⟩)), (1, t69), (2, t70), (3, (.int .i64 0)), (4, (.int .i64 0)), (5, (.bool false))]) w fun t71 w =>
 V (bd 100 #[(0, (.int .i64 11))]) w fun t72 w =>
 V (bd 100 #[]) w fun t73 w =>
 V (bd 108 #[(0, (.string ⟨#[106, 117, 109, 112]⟩)), (1, t72), (2, t73), (3, (.int .i64 0)), (4, (.int .i64 0)), (5, (.bool true))]) w fun t74 w =>
 V (bd 100 #[(0, (.int .i64 11))]) w fun t75 w =>
 V (bd 100 #[]) w fun t76 w =>
 V (bd 108 #[(0, (.string ⟨#[102, 97, 108, 115, 101]⟩)), (1, t75), (2, t76), (3, (.int .i64 1)), (4, (.int .i64 0)), (5, (.bool false))]) w fun t77 w =>
 V (bd 100 #[]) w fun t78 w =>
 V (bd 100 #[]) w fun t79 w =>
 V (bd 108 #[(0, (.string ⟨#[112, 108, 117, 115]⟩)), (1, t78), (2, t79), (3, (.int .i64 1)), (4, (.int .i64 1)), (5, (.bool false))]) w fun t80 w =>
 V (bd 100 #[]) w fun t81 w =>
 V (bd 100 #[]) w fun t82 w =>
 V (bd 108 #[(0, (.string ⟨#[119, 104, 111, 108, 101]⟩)), (1, t81), (2, t82), (3, (.int .i64 1)), (4, (.int .i64 1)), (5, (.bool false))]) w fun t83 w =>
 V (bd 100 #[(0, (.int .i64 6)), (1, (.int .i64 15))]) w fun t84 w =>
 V (bd 100 #[]) w fun t85 w =>
 V (bd 108 #[(0, (.string ⟨#[111, 118, 101, 114]⟩)), (1, t84), (2, t85), (3, (.int .i64 1)), (4, (.int .i64 0)), (5, (.bool false))]) w fun t86 w =>
 V (bd 100 #[]) w fun t87 w =>
 V (bd 100 #[]) w fun t88 w =>
 V (bd 108 #[(0, (.string ⟨#[99, 111, 117, 110, 116]⟩)), (1, t87), (2, t88), (3, (.int .i64 1)), (4, (.int .i64 0)), (5, (.bool false))]) w fun t89 w =>
 V (bd 100 #[]) w fun t90 w =>
 V (bd 100 #[]) w fun t91 w =>
 V (bd 108 #[(0, (.string ⟨#[108, 111, 111, 112]⟩)), (1, t90), (2, t91), (3, (.int .i64 0)), (4, (.int .i64 0)), (5, (.bool false))]) w fun t92 w =>
 V (bd 100 #[(0, (.int .i64 11))]) w fun t93 w =>
 V (bd 100 #[]) w fun t94 w =>
 V (bd 108 #[(0, (.string ⟨#[116, 101, 115, 116]⟩)), (1, t93), (2, t94), (3, (.int .i64 0)), (4, (.int .i64 0)), (5, (.bool false))]) w fun t95 w =>
 V (bd 100 #[(0, (.int .i64 1)), (1, (.int .i64 2))]) w fun t96 w =>
 V (bd 100 #[]) w fun t97 w =>
 V (bd 108 #[(0, (.string ⟨#[116, 117, 114, 110]⟩)), (1, t96), (2, t97), (3, (.int .i64 0)), (4, (.int .i64 0)), (5, (.bool false))]) w fun t98 w =>
 V (bd 100 #[]) w fun t99 w =>
 V (bd 100 #[]) w fun t100 w =>
 V (bd 108 #[(0, (.string ⟨#[98, 121]⟩)), (1, t99), (2, t100), (3, (.int .i64 0)), (4, (.int .i64 0)), (5, (.bool false))]) w fun t101 w =>
 V (bd 100 #[(0, (.int .i64 14))]) w fun t102 w =>
 V (bd 100 #[(0, (.int .i64 40))]) w fun t103 w =>
 V (bd 108 #[(0, (.string ⟨#[111, 117, 116]⟩)), (1, t102), (2, t103), (3, (.int .i64 0)), (4, (.int .i64 0)), (5, (.bool false))]) w fun t104 w =>
 V (bd 100 #[]) w fun t105 w =>
 V (bd 100 #[]) w fun t106 w =>
 V (bd 108 #[(0, (.string ⟨#[105, 110, 116, 101, 114, 112]⟩)), (1, t105), (2, t106), (3, (.int .i64 1)), (4, (.int .i64 0)), (5, (.bool false))]) w fun t107 w =>
 V (bd 100 #[(0, (.int .i64 13)), (1, (.int .i64 13))]) w fun t108 w =>
 V (bd 100 #[(0, (.int .i64 2)), (1, (.int .i64 1))]) w fun t109 w =>
 V (bd 108 #[(0, (.string ⟨#[110, 117, 109, 101, 114, 105, 99]⟩)), (1, t108), (2, t109), (3, (.int .i64 0)), (4, (.int .i64 0)), (5, (.bool false))]) w fun t110 w =>
 V (bd 100 #[(0, (.int .i64 8)), (1, (.int .i64 14)), (2, (.int .i64 13))]) w fun t111 w =>
 V (bd 100 #[(0, (.int .i64 0)), (1, (.int .i64 6)), (2, (.int .i64 1))]) w fun t112 w =>
 V (bd 108 #[(0, (.string ⟨#[112, 97, 114, 115, 101]⟩)), (1, t111), (2, t112), (3, (.int .i64 0)), (4, (.int .i64 0)), (5, (.bool false))]) w fun t113 w =>
 V (bd 100 #[]) w fun t114 w =>
 V (bd 100 #[]) w fun t115 w =>
 V (bd 108 #[(0, (.string ⟨#[112, 117, 115, 104]⟩)), (1, t114), (2, t115), (3, (.int .i64 1)), (4, (.int .i64 0)), (5, (.bool false))]) w fun t116 w =>
 V (bd 100 #[]) w fun t117 w =>
 V (bd 100 #[]) w fun t118 w =>
 V (bd 108 #[(0, (.string ⟨#[113, 117, 101, 117, 101]⟩)), (1, t117), (2, t118), (3, (.int .i64 1)), (4, (.int .i64 0)), (5, (.bool false))]) w fun t119 w =>
 V (bd 100 #[]) w fun t120 w =>
 V (bd 100 #[]) w fun t121 w =>
 V (bd 108 #[(0, (.string ⟨#[115, 97, 121]⟩)), (1, t120), (2, t121), (3, (.int .i64 1)), (4, (.int .i64 0)), (5, (.bool false))]) w fun t122 w =>
 V (bd 100 #[(0, (.int .i64 13))]) w fun t123 w =>
 V (bd 100 #[(0, (.int .i64 1))]) w fun t124 w =>
 V (bd 108 #[(0, (.string ⟨#[101, 120, 105, 116]⟩)), (1, t123), (2, t124), (3, (.int .i64 0)), (4, (.int .i64 0)), (5, (.bool true))]) w fun t125 w =>
 V (bd 100 #[(0, (.int .i64 13))]) w fun t126 w =>
 V (bd 100 #[(0, (.int .i64 1))]) w fun t127 w =>
 V (bd 108 #[(0, (.string ⟨#[114, 101, 116]⟩)), (1, t126), (2, t127), (3, (.int .i64 0)), (4, (.int .i64 0)), (5, (.bool true))]) w fun t128 w =>
 V (bd 100 #[(0, (.int .i64 2))]) w fun t129 w =>
 V (bd 100 #[]) w fun t130 w =>
 V (bd 108 #[(0, (.string ⟨#[115, 105, 103, 110, 97, 108]⟩)), (1, t129), (2, t130), (3, (.int .i64 0)), (4, (.int .i64 0)), (5, (.bool true))]) w fun t131 w =>
 V (bd 100 #[]) w fun t132 w =>
 V (bd 100 #[]) w fun t133 w =>
 V (bd 108 #[(0, (.string ⟨#[115, 105, 103, 118, 97, 108]⟩)), (1, t132), (2, t133), (3, (.int .i64 1)), (4, (.int .i64 0)), (5, (.bool true))]) w fun t134 w =>
 V (bd 100 #[(0, (.int .i64 2))]) w fun t135 w =>
 V (bd 100 #[]) w fun t136 w =>
 V (bd 108 #[(0, (.string ⟨#[116, 114, 97, 99, 101]⟩)), (1, t135), (2, t136), (3, (.int .i64 0)), (4, (.int .i64 0)), (5, (.bool false))]) w fun t137 w =>
 V (bd 100 #[(0, (.int .i64 14))]) w fun t138 w =>
 V (bd 100 #[(0, (.int .i64 99))]) w fun t139 w =>
 V (bd 108 #[(0, (.string ⟨#[114, 97, 105, 115, 101]⟩)), (1, t138), (2, t139), (3, (.int .i64 0)), (4, (.int .i64 0)), (5, (.bool true))]) w fun t140 w =>
 V (bd 100 #[]) w fun t141 w =>
 V (bd 100 #[]) w fun t142 w =>
 V (bd 108 #[(0, (.string ⟨#[101, 110, 100]⟩)), (1, t141), (2, t142), (3, (.int .i64 0)), (4, (.int .i64 0)), (5, (.bool true))]) w fun t143 w =>
 V (bs 109 47 #[(0, t1), (1, t4), (2, t7), (3, t10), (4, t13), (5, t16), (6, t19), (7, t22), (8, t25), (9, t28), (10, t33), (11, t38), (12, t41), (13, t44), (14, t47), (15, t50), (16, t53), (17, t56), (18, t59), (19, t62), (20, t65), (21, t68), (22, t71), (23, t74), (24, t77), (25, t80), (26, t83), (27, t86), (28, t89), (29, t92), (30, t95), (31, t98), (32, t101), (33, t104), (34, t107), (35, t110), (36, t113), (37, t116), (38, t119), (39, t122), (40, t125), (41, t128), (42, t131), (43, t134), (44, t137), (45, t140), (46, t143)]) w fun t144 w =>
 R t144 w
theorem en54 (h : vc54 R w ) : Calls Tryz.prog 54 #[] w (retK R) := calls_of_enter mixed Tryz.func54 (by kernel_rfl) (Eq.mpr (by kernel_rfl : enterW Tryz.prog Tryz.f54 an54 [] w R = vc54 R w ) h)
def an55 : Ann := (.seq (oD 2) (.seqJ [3] (rgN 20 9 ++ [3]) (.draw (.take 0 (.hold 1 (.take 2 (.take 4 (.hold 5 (.take 6 (.alts (.eff 3 (.alts (.eff 7 (.take 8 (.alts (.eff 9 (.alts (.eff 10 .done .nil)) .nil))) (.eff 9 (.alts (.eff 7 (.take 8 (.alts (.eff 10 .done .nil))) .nil)) .nil))) (.eff 7 (.alts (.eff 3 (.take 8 (.alts (.eff 9 (.alts (.eff 10 .done .nil)) .nil))) (.eff 9 (.alts (.eff 3 (.take 8 (.alts (.eff 10 .done .nil))) .nil)) .nil))) (.eff 9 (.alts (.eff 3 (.alts (.eff 7 (.take 8 (.alts (.eff 10 .done .nil))) .nil)) (.eff 7 (.alts (.eff 3 (.take 8 (.alts (.eff 10 .done .nil))) .nil)) .nil))) .nil))))))))))) (.seq (.seq (oD 1) (.one (.loop [4] ([29, 30, 31, 32, 33] ++ rgN 36 8 ++ [34, 35, 4]) (.seq (.seq (oD 5) (.cond .leaf .leaf)) (.seq (.one (.seq (oD 5) (oD 5))) (oD 3)))))) (.seq (oD 2) (.seq (oD 2) (.seq (.seq (oD 1) (.one (.loop [6, 7] ([46, 47, 48, 49, 50] ++ rgN 53 9 ++ [6, 51, 52, 7]) (.seq (.seq (oD 5) (.cond .leaf .leaf)) (.seq (.one (oD 10)) (oD 3)))))) (.seq (.seq (oD 1) (.one (.loop [5, 8] ([62, 63, 64, 65] ++ rgN 68 16 ++ [5] ++ rgN 84 14 ++ [66, 67, 8]) (.seq (.seq (oD 4) (.cond .leaf .leaf)) (.seq (.one (.seqJ [5] (rgN 68 16 ++ [5]) (.seq (.draw (.take 0 (.hold 1 (tkN 2 3 (.hold 5 (.take 6 (.hold 7 (.take 8 .done)))))))) (.cond (oD 8) .leaf)) (.seq (.draw (.take 0 (.hold 1 (tkN 2 3 (.hold 5 (.take 6 (.alts (.eff 7 .done .nil)))))))) (.draw (.take 0 (.hold 1 (tkN 2 3 (.hold 5 (.take 6 (.alts (.eff 7 .done .nil))))))))))) (oD 3)))))) (.seq (.one (.loop [5] (rgN 98 9 ++ [9, 107, 108, 109, 110, 111, 5, 112, 113, 114, 115, 116, 10, 117, 118, 11, 119, 120, 121, 122, 123, 12, 124, 125, 126, 127, 128, 13] ++ rgN 129 13 ++ [14] ++ rgN 142 13 ++ [15] ++ rgN 155 28 ++ [184, 183, 185, 186, 187, 188, 190, 189] ++ rgN 191 7 ++ [16, 17, 198, 199, 200, 201, 204, 18] ++ rgN 205 32 ++ [19] ++ rgN 237 37 ++ [202, 203, 274, 275, 276]) (.seq (.seq (oD 3) (.cond .leaf .leaf)) (.one (.seq (oD 7) (.seq (oD 6) (.seq (oD 7) (.seq (oD 4) (.seq (oD 6) (.seq (oD 6) (.seq (.reg (opn 4 (.join [136] [133, 134, 135, 136] (.split 132 (opn 4 .done) (opn 4 .done)) (opn 1 (.join [141] [138, 139, 140, 141] (.split 137 (opn 4 .done) (opn 4 .done)) (opn 1 .done)))))) (.seq (.reg (opn 4 (.join [149] [146, 147, 148, 149] (.split 145 (opn 4 .done) (opn 4 .done)) (opn 1 (.join [154] [151, 152, 153, 154] (.split 150 (opn 4 .done) (opn 4 .done)) (opn 1 .done)))))) (.seq (.seq (.reg (opn 2 (.join [159] [157, 158, 159] (.split 156 (opn 3 .done) (opn 3 .done)) (opn 1 (.join [166] (rgN 161 6) (.split 160 (opn 6 .done) (opn 2 (.join [165] [163, 164, 165] (.split 162 (opn 3 .done) (opn 3 .done)) (opn 1 .done)))) (opn 1 (.join [172] [168, 169, 170, 171, 172] (.split 167 (opn 5 .done) (opn 5 .done)) .done))))))) (.cond (.seq (oD 2) .leaf) .leaf)) (.seq (oD 8) (.seqJ [13] [181, 182, 184, 183, 185, 186, 187, 188, 13, 190, 189, 191, 192, 193, 194] (.seq (oD 2) (.one (.seqJ [183] [184, 183, 185, 186] (.seq (oD 2) (.cond .leaf (.seq (oD 2) (.cond .leaf (oD 2))))) (.cond (oD 3) (.seq (oD 2) (.cond (oD 5) .leaf)))))) (.seq (oD 4) (.seq (.seq (oD 1) (.one (.loop [5, 17] ([198, 199, 200, 201, 204, 18] ++ rgN 205 32 ++ [19] ++ rgN 237 20 ++ [5] ++ rgN 257 17 ++ [202, 203, 17]) (.seq (.seq (oD 4) (.cond .leaf .leaf)) (.seqJ [5] ([204, 18] ++ rgN 205 32 ++ [19] ++ rgN 237 20 ++ [5] ++ rgN 257 17) (.one (.seq (oD 2) (.seqJ [18] (rgN 205 20 ++ [18]) (.seqJ [216] (rgN 205 12) (.draw (.take 0 (.hold 1 (.take 2 (.take 3 (.split 208 (tkN 4 3 (.hold 7 (.take 8 (.hold 9 (.take 10 (.take 11 .done)))))) (tkN 4 8 .done))))))) (.cond (.seq (.seq (oD 5) (.cond (.seq (oD 2) .leaf) .leaf)) (oD 3)) .leaf)) (.seq (.seq (.reg (opn 3 (.join [231] [228, 229, 230, 231] (.split 227 (opn 4 .done) (opn 4 .done)) .done))) (.cond (.seq (oD 2) .leaf) .leaf)) (.seq (oD 5) (.seq (oD 6) (.cond (.seq (oD 6) (.seq (oD 6) (oD 5))) (.seq (.reg (opn 8 (.join [272] (rgN 265 8) (.split 264 (opn 8 .done) (opn 8 .done)) .done))) (.cond (.seq (oD 2) .leaf) .leaf))))))))) (oD 3)))))) (.seq (oD 2) (.cond (.seq (oD 2) .leaf) .leaf))))))))))))))))))) (.seq (oD 2) .leaf)))))))))
def vc55 (R : Value → World → Prop) (w : World) (t0 : Value) : Prop :=
 V (bx 28 t0) w fun t1 w =>
 V (al 60) w fun t2 w =>
 ∀ K0 : List Value → World → Prop, (∀ t3, ∀ w, (∀ g : Env,
 ∃ (I0 : List Value → World → Prop) (M0 : List Value → World → Nat), I0 [(.int .i64 0)] w ∧ ∀ g : Env, ∀ t4, ∀ w, I0 [t4] w → ∀ m0, m0 = M0 [t4] w →
 V (fa 28 t1 5) w fun t30 w =>
 V (ld 26 t30) w fun t31 w =>
 V (Builtin.len_ #[26] 3 #[t31]) w fun t32 w =>
 V (bi .lss 3 t4 t32) w fun t33 w =>
 CondW t33
 (V (fa 60 t3 0) w fun t36 w =>
 V (ld 45 t36) w fun t37 w =>
 V (ia 45 t37 t4) w fun t39 w =>
 U (st 3 t39 (.int .i64 (-1))) w fun w =>
 V (fa 60 t3 1) w fun t40 w =>
 V (ld 45 t40) w fun t41 w =>
 V (ia 45 t41 t4) w fun t43 w =>
 U (st 3 t43 (.int .i64 (-1))) w fun w =>
 V (bi .add 3 t4 (.int .i64 1)) w fun t35 w =>
 I0 [t35] w ∧ M0 [t35] w < m0)
 (V (bs 45 0 #[]) w fun t44 w =>
 V (bs 45 1 #[(0, (.int .i64 0))]) w fun t45 w =>
 ∃ (I1 : List Value → World → Prop) (M1 : List Value → World → Nat), I1 [t45, (.int .i64 0)] w ∧ ∀ g : Env, ∀ t6, ∀ t7, ∀ w, I1 [t6, t7] w → ∀ m1, m1 = M1 [t6, t7] w →
 V (fa 28 t1 3) w fun t47 w =>
 V (ld 25 t47) w fun t48 w =>
 V (Builtin.len_ #[25] 3 #[t48]) w fun t49 w =>
 V (bi .lss 3 t7 t49) w fun t50 w =>
 CondW t50
 (V (fa 28 t1 3) w fun t54 w =>
 V (ld 25 t54) w fun t55 w =>
 V (ia 25 t55 t7) w fun t57 w =>
 V (fa 54 t57 1) w fun t58 w =>
 V (ld 3 t58) w fun t59 w =>
 V (bs 45 1 #[(0, t59)]) w fun t60 w =>
 V (Builtin.append_ #[45, 45] 45 #[t6, t60]) w fun t61 w =>
 V (bi .add 3 t7 (.int .i64 1)) w fun t52 w =>
 I1 [t61, t52] w ∧ M1 [t61, t52] w < m1)
 (∃ (I2 : List Value → World → Prop) (M2 : List Value → World → Nat), I2 [t44, (.int .i64 0)] w ∧ ∀ g : Env, ∀ t5, ∀ t8, ∀ w, I2 [t5, t8] w → ∀ m2, m2 = M2 [t5, t8] w →
 V (Builtin.len_ #[45] 3 #[t6]) w fun t64 w =>
 V (bi .lss 3 t8 t64) w fun t65 w =>
 CondW t65
 (∀ K0 : List Value → World → Prop, (∀ t5a, ∀ w, (∀ g : Env,
 Dr w fun w =>
 PV (fa 60 t3 0) fun t84 =>
 HV (ld 45 t84) w fun t85 =>
 PV (ia 45 t6 t8) fun t88 =>
 HV (ld 3 t88) w fun t89 =>
 PV (ia 45 t85 t89) fun t90 =>
 U (st 3 t90 (.int .i64 0)) w fun w =>
 Dr w fun w =>
 PV (fa 60 t3 1) fun t91 =>
 HV (ld 45 t91) w fun t92 =>
 PV (ia 45 t6 t8) fun t95 =>
 HV (ld 3 t95) w fun t96 =>
 PV (ia 45 t92 t96) fun t97 =>
 U (st 3 t97 (.int .i64 0)) w fun w =>
 V (bi .add 3 t8 (.int .i64 1)) w fun t67 w =>
 I2 [t5a, t67] w ∧ M2 [t5a, t67] w < m2) → K0 [t5a] w) →
 Dr w fun w =>
 PV (fa 60 t3 0) fun t68 =>
 HV (ld 45 t68) w fun t69 =>
 PV (ia 45 t6 t8) fun t72 =>
 HV (ld 3 t72) w fun t73 =>
 PV (ia 45 t69 t73) fun t74 =>
 HV (ld 3 t74) w fun t75 =>
 PV (bi .lss 3 t75 (.int .i64 0)) fun t76 =>
 CondW t76
 (V (ia 45 t6 t8) w fun t80 w =>
 V (ld 3 t80) w fun t81 w =>
 V (bs 45 1 #[(0, t81)]) w fun t82 w =>
 V (Builtin.append_ #[45, 45] 45 #[t5, t82]) w fun t83 w =>
 K0 [t83] w)
 (K0 [t5] w))
 (∃ (I3 : List Value → World → Prop) (M3 : List Value → World → Nat), I3 [t5] w ∧ ∀ g : Env, ∀ t5a, ∀ w, I3 [t5a] w → ∀ m3, m3 = M3 [t5a] w →
 V (Builtin.len_ #[45] 3 #[t5a]) w fun t99 w =>
 V (bi .gtr 3 t99 (.int .i64 0)) w fun t100 w =>
 CondW t100
 (V (Builtin.len_ #[45] 3 #[t5a]) w fun t103 w =>
 V (bi .sub 3 t103 (.int .i64 1)) w fun t104 w =>
 V (ia 45 t5a t104) w fun t105 w =>
 V (ld 3 t105) w fun t106 w =>
 V (Builtin.len_ #[45] 3 #[t5a]) w fun t109 w =>
 V (bi .sub 3 t109 (.int .i64 1)) w fun t110 w =>
 V (sl 45 t5a none (some t110) none) w fun t111 w =>
 V (fa 28 t1 5) w fun t112 w =>
 V (ld 26 t112) w fun t113 w =>
 V (ia 26 t113 t106) w fun t115 w =>
 V (ld 38 t115) w fun t116 w =>
 V (al 38) w fun t10 w =>
 U (st 38 t10 t116) w fun w =>
 V (ld 38 t10) w fun t117 w =>
 CV (.func (.func 18) #[] #[]) #[t117] w fun t118 w =>
 V (al 42) w fun t11 w =>
 U (st 42 t11 t118) w fun w =>
 V (fa 60 t3 0) w fun t119 w =>
 V (ld 45 t119) w fun t120 w =>
 V (ia 45 t120 t106) w fun t122 w =>
 V (ld 3 t122) w fun t123 w =>
 V (fa 60 t3 1) w fun t124 w =>
 V (ld 45 t124) w fun t125 w =>
 V (ia 45 t125 t106) w fun t127 w =>
 V (ld 3 t127) w fun t128 w =>
 V (fa 38 t10 0) w fun t129 w =>
 V (ld 3 t129) w fun t130 w =>
 V (eq .eql 3 (.tmp 130) (.const (.int .i64 1)) t130 (.int .i64 1)) w fun t131 w =>
 ∀ K0 : List Value → World → Prop, (∀ t136, ∀ w, (∀ g : Env,
 ∀ K0 : List Value → World → Prop, (∀ t141, ∀ w, (∀ g : Env,
 V (fa 38 t10 0) w fun t142 w =>
 V (ld 3 t142) w fun t143 w =>
 V (eq .eql 3 (.tmp 143) (.const (.int .i64 30)) t143 (.int .i64 30)) w fun t144 w =>
 ∀ K0 : List Value → World → Prop, (∀ t149, ∀ w, (∀ g : Env,
 ∀ K0 : List Value → World → Prop, (∀ t154, ∀ w, (∀ g : Env,
 ∀ K0 : List Value → World → Prop, (∀ t159, ∀ w, (∀ g : Env,
 ∀ K0 : List Value → World → Prop, (∀ t166, ∀ w, (∀ g : Env,
 ∀ K0 : List Value → World → Prop, (∀ t172, ∀ w, (∀ g : Env,
 CondW t172
 (V (bd 60 #[(2, (.int .i64 12))]) w fun t173 w =>
 U (st 60 t2 t173) w fun w =>
 CW 60 t2 w fun t1002 => R t1002 w)
 (V (fa 42 t11 0) w fun t175 w =>
 V (ld 3 t175) w fun t176 w =>
 V (bi .sub 3 t123 t176) w fun t177 w =>
 V (fa 42 t11 1) w fun t178 w =>
 V (ld 3 t178) w fun t179 w =>
 V (bi .add 3 t177 t179) w fun t180 w =>
 ∀ K0 : List Value → World → Prop, (∀ t13, ∀ w, (∀ g : Env,
 V (ld 28 t1) w fun t195 w =>
 CV (.func (.func 31) #[] #[]) #[t195, t106] w fun t197 w =>
 ∃ (I4 : List Value → World → Prop) (M4 : List Value → World → Nat), I4 [t111, (.int .i64 0)] w ∧ ∀ g : Env, ∀ t5b, ∀ t17, ∀ w, I4 [t5b, t17] w → ∀ m4, m4 = M4 [t5b, t17] w →
 V (Builtin.len_ #[45] 3 #[t197]) w fun t200 w =>
 V (bi .lss 3 t17 t200) w fun t201 w =>
 CondW t201
 (∀ K0 : List Value → World → Prop, (∀ t5c, ∀ w, (∀ g : Env,
 V (bi .add 3 t17 (.int .i64 1)) w fun t203 w =>
 I4 [t5c, t203] w ∧ M4 [t5c, t203] w < m4) → K0 [t5c] w) →
 ∀ K1 : List Value → World → Prop, (∀ t18, ∀ w, (∀ g : Env,
 V (bi .gtr 3 t180 (.int .i64 200)) w fun t226 w =>
 ∀ K1 : List Value → World → Prop, (∀ t231, ∀ w, (∀ g : Env,
 CondW t231
 (V (bd 60 #[(2, (.int .i64 12))]) w fun t232 w =>
 U (st 60 t2 t232) w fun w =>
 CW 60 t2 w fun t1002 => R t1002 w)
 (V (ia 45 t197 t17) w fun t235 w =>
 V (ld 3 t235) w fun t236 w =>
 V (fa 60 t3 0) w fun t237 w =>
 V (ld 45 t237) w fun t238 w =>
 V (ia 45 t238 t236) w fun t240 w =>
 V (ld 3 t240) w fun t241 w =>
 V (bi .lss 3 t241 (.int .i64 0)) w fun t242 w =>
 CondW t242
 (V (fa 60 t3 0) w fun t243 w =>
 V (ld 45 t243) w fun t244 w =>
 V (ia 45 t244 t236) w fun t247 w =>
 U (st 3 t247 t180) w fun w =>
 V (fa 60 t3 1) w fun t248 w =>
 V (ld 45 t248) w fun t249 w =>
 V (ia 45 t249 t236) w fun t252 w =>
 U (st 3 t252 t18) w fun w =>
 V (bs 45 1 #[(0, t236)]) w fun t255 w =>
 V (Builtin.append_ #[45, 45] 45 #[t5b, t255]) w fun t256 w =>
 K0 [t256] w)
 (V (fa 60 t3 0) w fun t257 w =>
 V (ld 45 t257) w fun t258 w =>
 V (ia 45 t258 t236) w fun t260 w =>
 V (ld 3 t260) w fun t261 w =>
 V (eq .neq 3 (.tmp 261) (.tmp 262) t261 t180) w fun t263 w =>
 ∀ K1 : List Value → World → Prop, (∀ t272, ∀ w, (∀ g : Env,
 CondW t272
 (V (bd 60 #[(2, (.int .i64 12))]) w fun t273 w =>
 U (st 60 t2 t273) w fun w =>
 CW 60 t2 w fun t1002 => R t1002 w)
 (K0 [t5b] w)) → K1 [t272] w) →
 CondW t263
 (K1 [(.bool true)] w)
 (V (fa 60 t3 1) w fun t265 w =>
 V (ld 45 t265) w fun t266 w =>
 V (ia 45 t266 t236) w fun t268 w =>
 V (ld 3 t268) w fun t269 w =>
 V (eq .neq 3 (.tmp 269) (.tmp 270) t269 t18) w fun t271 w =>
 K1 [t271] w)))) → K1 [t231] w) →
 CondW t226
 (K1 [(.bool true)] w)
 (CV (.func (.func 59) #[] #[]) #[t18, (.int .i64 0), (.int .i64 40)] w fun t229 w =>
 V (un .not t229) w fun t230 w =>
 K1 [t230] w)) → K1 [t18] w) →
 ∀ K2 : List Value → World → Prop, (∀ t216, ∀ w, (∀ g : Env,
 CondW t216
 (V (fa 38 t10 1) w fun t217 w =>
 V (ld 3 t217) w fun t218 w =>
 V (bi .add 3 t106 (.int .i64 1)) w fun t220 w =>
 V (eq .eql 3 (.tmp 218) (.tmp 220) t218 t220) w fun t221 w =>
 CondW t221
 (V (bd 60 #[(2, (.int .i64 12))]) w fun t222 w =>
 U (st 60 t2 t222) w fun w =>
 CW 60 t2 w fun t1002 => R t1002 w)
 (V (bi .sub 3 t13 (.int .i64 1)) w fun t224 w =>
 K1 [t224] w))
 (K1 [t13] w)) → K2 [t216] w) →
 Dr w fun w =>
 PV (fa 38 t10 0) fun t205 =>
 HV (ld 3 t205) w fun t206 =>
 PV (eq .eql 3 (.tmp 206) (.const (.int .i64 30)) t206 (.int .i64 30)) fun t207 =>
 CondW t207
 (PV (ia 45 t197 t17) fun t211 =>
 HV (ld 3 t211) w fun t212 =>
 PV (fa 38 t10 1) fun t213 =>
 HV (ld 3 t213) w fun t214 =>
 PV (eq .eql 3 (.tmp 212) (.tmp 214) t212 t214) fun t215 =>
 K2 [t215] w)
 (K2 [(.bool false)] w))
 (V (bi .lss 3 t13 (.int .i64 0)) w fun t275 w =>
 CondW t275
 (V (bd 60 #[(2, (.int .i64 12))]) w fun t276 w =>
 U (st 60 t2 t276) w fun w =>
 CW 60 t2 w fun t1002 => R t1002 w)
 (I3 [t5b] w ∧ M3 [t5b] w < m3))) → K0 [t13] w) →
 V (fa 38 t10 0) w fun t181 w =>
 V (ld 3 t181) w fun t182 w =>
 ∀ K1 : List Value → World → Prop, (∀ t183, ∀ w, (∀ g : Env,
 CondW t183
 (V (bi .add 3 t128 (.int .i64 1)) w fun t188 w =>
 K0 [t188] w)
 (V (eq .eql 3 (.tmp 182) (.const (.int .i64 33)) t182 (.int .i64 33)) w fun t190 w =>
 CondW t190
 (V (fa 38 t10 1) w fun t192 w =>
 V (ld 3 t192) w fun t193 w =>
 V (bi .sub 3 t128 t193) w fun t194 w =>
 K0 [t194] w)
 (K0 [t128] w))) → K1 [t183] w) →
 V (eq .eql 3 (.tmp 182) (.const (.int .i64 27)) t182 (.int .i64 27)) w fun t184 w =>
 CondW t184
 (K1 [t184] w)
 (V (eq .eql 3 (.tmp 182) (.const (.int .i64 28)) t182 (.int .i64 28)) w fun t185 w =>
 CondW t185
 (K1 [t185] w)
 (V (eq .eql 3 (.tmp 182) (.const (.int .i64 29)) t182 (.int .i64 29)) w fun t186 w =>
 K1 [t186] w)))) → K0 [t172] w) →
 CondW t166
 (K0 [(.bool true)] w)
 (V (fa 42 t11 0) w fun t169 w =>
 V (ld 3 t169) w fun t170 w =>
 V (bi .lss 3 t123 t170) w fun t171 w =>
 K0 [t171] w)) → K0 [t166] w) →
 CondW t159
 (K0 [(.bool true)] w)
 (∀ K1 : List Value → World → Prop, (∀ t165, ∀ w, (∀ g : Env,
 K0 [t165] w) → K1 [t165] w) →
 CondW t154
 (V (bi .lss 3 t128 (.int .i64 1)) w fun t164 w =>
 K1 [t164] w)
 (K1 [(.bool false)] w))) → K0 [t159] w) →
 CondW t141
 (V (eq .neq 3 (.tmp 157) (.const (.int .i64 0)) t123 (.int .i64 0)) w fun t158 w =>
 K0 [t158] w)
 (K0 [(.bool false)] w)) → K0 [t154] w) →
 CondW t149
 (K0 [(.bool true)] w)
 (V (fa 38 t10 0) w fun t151 w =>
 V (ld 3 t151) w fun t152 w =>
 V (eq .eql 3 (.tmp 152) (.const (.int .i64 32)) t152 (.int .i64 32)) w fun t153 w =>
 K0 [t153] w)) → K0 [t149] w) →
 CondW t144
 (K0 [(.bool true)] w)
 (V (fa 38 t10 0) w fun t146 w =>
 V (ld 3 t146) w fun t147 w =>
 V (eq .eql 3 (.tmp 147) (.const (.int .i64 31)) t147 (.int .i64 31)) w fun t148 w =>
 K0 [t148] w)) → K0 [t141] w) →
 CondW t136
 (K0 [(.bool true)] w)
 (V (fa 38 t10 0) w fun t138 w =>
 V (ld 3 t138) w fun t139 w =>
 V (eq .eql 3 (.tmp 139) (.const (.int .i64 31)) t139 (.int .i64 31)) w fun t140 w =>
 K0 [t140] w)) → K0 [t136] w) →
 CondW t131
 (K0 [(.bool true)] w)
 (V (fa 38 t10 0) w fun t133 w =>
 V (ld 3 t133) w fun t134 w =>
 V (eq .eql 3 (.tmp 134) (.const (.int .i64 2)) t134 (.int .i64 2)) w fun t135 w =>
 K0 [t135] w))
 (V (ld 60 t3) w fun t277 w =>
 U (st 60 t2 t277) w fun w =>
 CW 60 t2 w fun t1002 => R t1002 w))))) → K0 [t3] w) →
 Dr w fun w =>
 PV (fa 28 t1 5) fun t20 =>
 HV (ld 26 t20) w fun t21 =>
 PV (Builtin.len_ #[26] 3 #[t21]) fun t22 =>
 PV (fa 28 t1 5) fun t24 =>
 HV (ld 26 t24) w fun t25 =>
 PV (Builtin.len_ #[26] 3 #[t25]) fun t26 =>
 (V (ms 45 t22 t22) w fun t23 w =>
 RunIs (ld 26 t24) w t25 ∧ RunIs (ld 26 t20) w t21 ∧ ((V (ms 45 t26 t26) w fun t27 w =>
 RunIs (ld 26 t24) w t25 ∧ RunIs (ld 26 t20) w t21 ∧ (PV (bd 60 #[(0, t23), (1, t27)]) fun t28 =>
 V (al 60) w fun t3 w =>
 RunIs (ld 26 t24) w t25 ∧ RunIs (ld 26 t20) w t21 ∧ (U (st 60 t3 t28) w fun w =>
 K0 [t3] w))) ∧
 (V (al 60) w fun t3 w =>
 RunIs (ld 26 t24) w t25 ∧ RunIs (ld 26 t20) w t21 ∧ (V (ms 45 t26 t26) w fun t27 w =>
 RunIs (ld 26 t24) w t25 ∧ RunIs (ld 26 t20) w t21 ∧ (PV (bd 60 #[(0, t23), (1, t27)]) fun t28 =>
 U (st 60 t3 t28) w fun w =>
 K0 [t3] w))))) ∧
 (V (ms 45 t26 t26) w fun t27 w =>
 RunIs (ld 26 t24) w t25 ∧ RunIs (ld 26 t20) w t21 ∧ ((V (ms 45 t22 t22) w fun t23 w =>
 RunIs (ld 26 t24) w t25 ∧ RunIs (ld 26 t20) w t21 ∧ (PV (bd 60 #[(0, t23), (1, t27)]) fun t28 =>
 V (al 60) w fun t3 w =>
 RunIs (ld 26 t24) w t25 ∧ RunIs (ld 26 t20) w t21 ∧ (U (st 60 t3 t28) w fun w =>
 K0 [t3] w))) ∧
 (V (al 60) w fun t3 w =>
 RunIs (ld 26 t24) w t25 ∧ RunIs (ld 26 t20) w t21 ∧ (V (ms 45 t22 t22) w fun t23 w =>
 RunIs (ld 26 t24) w t25 ∧ RunIs (ld 26 t20) w t21 ∧ (PV (bd 60 #[(0, t23), (1, t27)]) fun t28 =>
 U (st 60 t3 t28) w fun w =>
 K0 [t3] w))))) ∧
 (V (al 60) w fun t3 w =>
 RunIs (ld 26 t24) w t25 ∧ RunIs (ld 26 t20) w t21 ∧ ((V (ms 45 t22 t22) w fun t23 w =>
 RunIs (ld 26 t24) w t25 ∧ RunIs (ld 26 t20) w t21 ∧ (V (ms 45 t26 t26) w fun t27 w =>
 RunIs (ld 26 t24) w t25 ∧ RunIs (ld 26 t20) w t21 ∧ (PV (bd 60 #[(0, t23), (1, t27)]) fun t28 =>
 U (st 60 t3 t28) w fun w =>
 K0 [t3] w))) ∧
 (V (ms 45 t26 t26) w fun t27 w =>
 RunIs (ld 26 t24) w t25 ∧ RunIs (ld 26 t20) w t21 ∧ (V (ms 45 t22 t22) w fun t23 w =>
 RunIs (ld 26 t24) w t25 ∧ RunIs (ld 26 t20) w t21 ∧ (PV (bd 60 #[(0, t23), (1, t27)]) fun t28 =>
 U (st 60 t3 t28) w fun w =>
 K0 [t3] w)))))
theorem en55 (h : vc55 R w t0) : Calls Tryz.prog 55 #[t0] w (retK R) := calls_of_enter mixed Tryz.func55 (by kernel_rfl) (Eq.mpr (by kernel_rfl : enterW Tryz.prog Tryz.f55 an55 [t0] w R = vc55 R w t0) h)
def an56 : Ann := (.seq (oD 1) (.seq (oD 25) (.seq (.seq (oD 9) (.seq (oD 1) (.cond (.seq (oD 7) .leaf) .leaf))) (.seq (.reg (opn 3 (.join [46] (rgN 39 8) (.split 38 (opn 8 .done) (opn 3 (.join [45] [42, 43, 44, 45] (.split 41 (opn 4 .done) (opn 4 .done)) (opn 1 .done)))) (opn 1 .done)))) .leaf))))
def vc56 (R : Value → World → Prop) (w : World) (t0 t1 : Value) : Prop :=
 V (mm 245 none) w fun t8 w =>
 V (bd 219 #[(0, (.int .i64 0)), (1, (.int .i64 0))]) w fun t9 w =>
 U (mu 245 t8 (.int .i64 0) t9) w fun w =>
 V (bd 219 #[(0, (.int .i64 0)), (1, (.int .i64 1))]) w fun t10 w =>
 U (mu 245 t8 (.int .i64 14) t10) w fun w =>
 V (bd 219 #[(0, (.int .i64 0)), (1, (.int .i64 2))]) w fun t11 w =>
 U (mu 245 t8 (.int .i64 15) t11) w fun w =>
 V (bd 219 #[(0, (.int .i64 0)), (1, (.int .i64 10))]) w fun t12 w =>
 U (mu 245 t8 (.int .i64 16) t12) w fun w =>
 CV (.func (.func 168) #[] #[]) #[] w fun t13 w =>
 V (Builtin.len_ #[22] 3 #[t13]) w fun t14 w =>
 V (bd 219 #[(0, (.int .i64 1)), (1, t14)]) w fun t15 w =>
 U (mu 245 t8 (.int .i64 17) t15) w fun w =>
 CV (.func (.func 169) #[] #[]) #[] w fun t16 w =>
 V (Builtin.len_ #[22] 3 #[t16]) w fun t17 w =>
 V (bd 219 #[(0, (.int .i64 1)), (1, t17)]) w fun t18 w =>
 U (mu 245 t8 (.int .i64 18) t18) w fun w =>
 V (bd 219 #[(0, (.int .i64 1)), (1, (.int .i64 6))]) w fun t19 w =>
 U (mu 245 t8 (.int .i64 19) t19) w fun w =>
 V (bd 219 #[(0, (.int .i64 1)), (1, (.int .i64 40))]) w fun t20 w =>
 U (mu 245 t8 (.int .i64 20) t20) w fun w =>
 V (bd 219 #[(0, (.int .i64 1)), (1, (.int .i64 99))]) w fun t21 w =>
 U (mu 245 t8 (.int .i64 21) t21) w fun w =>
 V (lk 245 t8 t0 true) w fun t26 w =>
 V (ex t26 0) w fun t27 w =>
 V (ex t26 1) w fun t28 w =>
 V (al 219) w fun t6 w =>
 U (st 219 t6 t27) w fun w =>
 CondW t28
 (V (ia 219 t6 (.int .i64 0)) w fun t31 w =>
 V (ld 3 t31) w fun t32 w =>
 V (ia 219 t6 (.int .i64 1)) w fun t33 w =>
 V (ld 3 t33) w fun t34 w =>
 CV (.func (.func 75) #[] #[]) #[t1, t32, t34] w fun t35 w =>
 R t35 w)
 (V (eq .eql 3 (.tmp 36) (.const (.int .i64 23)) t0 (.int .i64 23)) w fun t37 w =>
 ∀ K0 : List Value → World → Prop, (∀ t46, ∀ w, (∀ g : Env,
 R t46 w) → K0 [t46] w) →
 CondW t37
 (K0 [(.bool true)] w)
 (V (eq .eql 3 (.tmp 39) (.const (.int .i64 22)) t0 (.int .i64 22)) w fun t40 w =>
 ∀ K1 : List Value → World → Prop, (∀ t45, ∀ w, (∀ g : Env,
 K0 [t45] w) → K1 [t45] w) →
 CondW t40
 (CV (.func (.func 57) #[] #[]) #[t1] w fun t43 w =>
 V (bi .geq 3 t43 (.int .i64 0)) w fun t44 w =>
 K1 [t44] w)
 (K1 [(.bool false)] w)))
theorem en56 (h : vc56 R w t0 t1) : Calls Tryz.prog 56 #[t0, t1] w (retK R) := calls_of_enter mixed Tryz.func56 (by kernel_rfl) (Eq.mpr (by kernel_rfl : enterW Tryz.prog Tryz.f56 an56 [t0, t1] w R = vc56 R w t0 t1) h)
def an57 : Ann := (.seq (oD 1) (.seq (oD 10) (.seq (oD 1) (.seq (.one (.loop [4] (rgN 14 17 ++ [2, 31, 32, 4]) (.seq (.seq (.reg (opn 3 (.join [22] (rgN 17 6) (.split 16 (opn 6 .done) (opn 6 .done)) .done))) (.cond .leaf .leaf)) (.one (.seq (.seq (.draw (tkN 0 6 (.hold 6 (.alts (.eff 7 .done .nil))))) (.cond (.seq (oD 1) .leaf) .leaf)) (oD 3)))))) (.seq (.seq (.reg (opn 4 (.join [42] (rgN 37 6) (.split 36 (opn 6 .done) (opn 6 .done)) .done))) (.cond (.seq (oD 1) .leaf) .leaf)) (.seq (oD 2) .leaf))))))
def vc57 (R : Value → World → Prop) (w : World) (t0 : Value) : Prop :=
 V (bi .and 3 t0 (.int .i64 3)) w fun t6 w =>
 V (bi .shr 3 t0 (.int .u64 2)) w fun t8 w =>
 V (bi .and 3 t8 (.int .i64 3)) w fun t9 w =>
 V (bi .shr 3 t0 (.int .u64 4)) w fun t11 w =>
 V (bi .and 3 t11 (.int .i64 3)) w fun t12 w =>
 V (bs 45 3 #[(0, t6), (1, t9), (2, t12)]) w fun t13 w =>
 ∃ (I0 : List Value → World → Prop) (M0 : List Value → World → Nat), I0 [(.int .i64 0)] w ∧ ∀ g : Env, ∀ t4, ∀ w, I0 [t4] w → ∀ m0, m0 = M0 [t4] w →
 V (bi .lss 3 t4 (.int .i64 3)) w fun t15 w =>
 ∀ K0 : List Value → World → Prop, (∀ t22, ∀ w, (∀ g : Env,
 CondW t22
 (Dr w fun w =>
 PV (sl 45 t13 none (some t4) none) fun t25 =>
 PV (ia 45 t13 t4) fun t28 =>
 HV (ld 3 t28) w fun t29 =>
 CV (.func (.func 76) #[] #[]) #[t25, t29] w fun t30 w =>
 CondW t30
 (R (.int .i64 (-1)) w)
 (V (bi .add 3 t4 (.int .i64 1)) w fun t32 w =>
 I0 [t32] w ∧ M0 [t32] w < m0))
 (V (bi .shr 3 t0 (.int .u64 6)) w fun t34 w =>
 V (eq .neq 3 (.tmp 34) (.const (.int .i64 0)) t34 (.int .i64 0)) w fun t35 w =>
 ∀ K0 : List Value → World → Prop, (∀ t42, ∀ w, (∀ g : Env,
 CondW t42
 (R (.int .i64 (-1)) w)
 (R t4 w)) → K0 [t42] w) →
 CondW t35
 (K0 [(.bool true)] w)
 (V (sl 45 t13 (some t4) none none) w fun t39 w =>
 CV (.func (.func 170) #[] #[]) #[t39, (.func (.func 171) #[] #[])] w fun t40 w =>
 V (un .not t40) w fun t41 w =>
 K0 [t41] w))) → K0 [t22] w) →
 CondW t15
 (V (ia 45 t13 t4) w fun t19 w =>
 V (ld 3 t19) w fun t20 w =>
 V (eq .neq 3 (.tmp 20) (.const (.int .i64 0)) t20 (.int .i64 0)) w fun t21 w =>
 K0 [t21] w)
 (K0 [(.bool false)] w)
theorem en57 (h : vc57 R w t0) : Calls Tryz.prog 57 #[t0] w (retK R) := calls_of_enter mixed Tryz.func57 (by kernel_rfl) (Eq.mpr (by kernel_rfl : enterW Tryz.prog Tryz.f57 an57 [t0] w R = vc57 R w t0) h)
def an58 : Ann := (.seq (oD 3) (.seq (.seq (oD 4) (.cond (.seq (oD 3) .leaf) .leaf)) (.seq (.draw (.take 1 (.hold 2 (.alts (.eff 0 (.take 3 (.hold 4 (.alts (.eff 5 (.take 6 .done) .nil)))) .nil))))) .leaf)))
def vc58 (R : Value → World → Prop) (w : World) (t0 : Value) : Prop :=
 V (bx 38 t0) w fun t1 w =>
 V (al 108) w fun t2 w =>
 V (fa 38 t1 0) w fun t4 w =>
 V (ld 3 t4) w fun t5 w =>
 CV (.func (.func 59) #[] #[]) #[t5, (.int .i64 1), (.int .i64 46)] w fun t6 w =>
 V (un .not t6) w fun t7 w =>
 CondW t7
 (V (bd 108 #[]) w fun t8 w =>
 U (st 108 t2 t8) w fun w =>
 CW 108 t2 w fun t1002 => R (.tuple #[t1002, (.bool false)]) w)
 (Dr w fun w =>
 PV (fa 38 t1 0) fun t10 =>
 HV (ld 3 t10) w fun t11 =>
 CV (.func (.func 54) #[] #[]) #[] w fun t9 w =>
 RunIs (ld 3 t10) w t11 ∧ (PV (ia 109 t9 t11) fun t12 =>
 HV (ld 108 t12) w fun t13 =>
 U (st 108 t2 t13) w fun w =>
 CW 108 t2 w fun t1002 => R (.tuple #[t1002, (.bool true)]) w))
theorem en58 (h : vc58 R w t0) : Calls Tryz.prog 58 #[t0] w (retK R) := calls_of_enter mixed Tryz.func58 (by kernel_rfl) (Eq.mpr (by kernel_rfl : enterW Tryz.prog Tryz.f58 an58 [t0] w R = vc58 R w t0) h)
def an59 : Ann := (.seq (oD 1) (.seq (.reg (opn 4 (.join [14] [11, 12, 13, 14] (.split 10 (opn 4 .done) (opn 4 .done)) (opn 1 .done)))) .leaf))
def vc59 (R : Value → World → Prop) (w : World) (t0 t1 t2 : Value) : Prop :=
 V (bi .geq 3 t0 t1) w fun t9 w =>
 ∀ K0 : List Value → World → Prop, (∀ t14, ∀ w, (∀ g : Env,
 R t14 w) → K0 [t14] w) →
 CondW t9
 (V (bi .leq 3 t0 t2) w fun t13 w =>
 K0 [t13] w)
 (K0 [(.bool false)] w)
theorem en59 (h : vc59 R w t0 t1 t2) : Calls Tryz.prog 59 #[t0, t1, t2] w (retK R) := calls_of_enter mixed Tryz.func59 (by kernel_rfl) (Eq.mpr (by kernel_rfl : enterW Tryz.prog Tryz.f59 an59 [t0, t1, t2] w R = vc59 R w t0 t1 t2) h)
def an60 : Ann := (.seq (oD 1) (.seq (.seq (oD 3) (.cond (.seq (oD 1) .leaf) .leaf)) (.seq (oD 9) (.seq (oD 1) (.seq (.one (.loop [4] (rgN 18 11 ++ [4]) (.seq (.seq (.reg (opn 3 (.join [26] (rgN 21 6) (.split 20 (opn 6 .done) (opn 6 .done)) .done))) (.cond .leaf .leaf)) (.one (oD 3))))) (.seq (.seq (oD 1) (.one (.loop [5] ([29, 30] ++ rgN 33 10 ++ [2, 6] ++ rgN 43 8 ++ rgN 53 9 ++ [51, 52, 31, 32, 5]) (.seq (.seq (oD 2) (.cond .leaf .leaf)) (.seq (.one (.seq (.seq (.reg (opn 4 (.join [42] (rgN 37 6) (.split 36 (opn 6 .done) (opn 6 .done)) .done))) (.cond (.seq (oD 1) .leaf) .leaf)) (.seq (oD 1) (.one (.loop [6] (rgN 43 8 ++ rgN 53 9 ++ [2, 51, 52, 6]) (.seq (.seq (.reg (opn 4 (.join [50] [47, 48, 49, 50] (.split 46 (opn 4 .done) (opn 4 .done)) .done))) (.cond .leaf .leaf)) (.seq (.one (.seq (.draw (tkN 0 3 (.hold 3 (tkN 4 3 (.hold 7 (.take 8 .done)))))) (.cond (.seq (oD 1) .leaf) .leaf))) (oD 3)))))))) (oD 3)))))) (.seq (oD 2) .leaf)))))))
def vc60 (R : Value → World → Prop) (w : World) (t0 : Value) : Prop :=
 CV (.func (.func 59) #[] #[]) #[t0, (.int .i64 0), (.int .i64 63)] w fun t8 w =>
 V (un .not t8) w fun t9 w =>
 CondW t9
 (R (.int .i64 (-1)) w)
 (V (bi .rem 3 t0 (.int .i64 4)) w fun t11 w =>
 V (bi .quo 3 t0 (.int .i64 4)) w fun t13 w =>
 V (bi .rem 3 t13 (.int .i64 4)) w fun t14 w =>
 V (bi .quo 3 t0 (.int .i64 16)) w fun t16 w =>
 V (bs 45 3 #[(0, t11), (1, t14), (2, t16)]) w fun t17 w =>
 ∃ (I0 : List Value → World → Prop) (M0 : List Value → World → Nat), I0 [(.int .i64 0)] w ∧ ∀ g : Env, ∀ t4, ∀ w, I0 [t4] w → ∀ m0, m0 = M0 [t4] w →
 V (bi .lss 3 t4 (.int .i64 3)) w fun t19 w =>
 ∀ K0 : List Value → World → Prop, (∀ t26, ∀ w, (∀ g : Env,
 CondW t26
 (V (bi .add 3 t4 (.int .i64 1)) w fun t28 w =>
 I0 [t28] w ∧ M0 [t28] w < m0)
 (∃ (I1 : List Value → World → Prop) (M1 : List Value → World → Nat), I1 [(.int .i64 0)] w ∧ ∀ g : Env, ∀ t5, ∀ w, I1 [t5] w → ∀ m1, m1 = M1 [t5] w →
 V (bi .lss 3 t5 (.int .i64 3)) w fun t30 w =>
 CondW t30
 (V (bi .geq 3 t5 t4) w fun t35 w =>
 ∀ K0 : List Value → World → Prop, (∀ t42, ∀ w, (∀ g : Env,
 CondW t42
 (R (.int .i64 (-1)) w)
 (∃ (I2 : List Value → World → Prop) (M2 : List Value → World → Nat), I2 [(.int .i64 0)] w ∧ ∀ g : Env, ∀ t6, ∀ w, I2 [t6] w → ∀ m2, m2 = M2 [t6] w →
 V (bi .lss 3 t6 t5) w fun t45 w =>
 ∀ K0 : List Value → World → Prop, (∀ t50, ∀ w, (∀ g : Env,
 CondW t50
 (Dr w fun w =>
 PV (ia 45 t17 t5) fun t55 =>
 HV (ld 3 t55) w fun t56 =>
 PV (ia 45 t17 t6) fun t59 =>
 HV (ld 3 t59) w fun t60 =>
 PV (eq .eql 3 (.tmp 56) (.tmp 60) t56 t60) fun t61 =>
 CondW t61
 (R (.int .i64 (-1)) w)
 (V (bi .add 3 t6 (.int .i64 1)) w fun t52 w =>
 I2 [t52] w ∧ M2 [t52] w < m2))
 (V (bi .add 3 t5 (.int .i64 1)) w fun t32 w =>
 I1 [t32] w ∧ M1 [t32] w < m1)) → K0 [t50] w) →
 CondW t45
 (V (bi .lss 3 t5 t4) w fun t49 w =>
 K0 [t49] w)
 (K0 [(.bool false)] w))) → K0 [t42] w) →
 CondW t35
 (V (ia 45 t17 t5) w fun t39 w =>
 V (ld 3 t39) w fun t40 w =>
 V (eq .neq 3 (.tmp 40) (.const (.int .i64 0)) t40 (.int .i64 0)) w fun t41 w =>
 K0 [t41] w)
 (K0 [(.bool false)] w))
 (R t4 w))) → K0 [t26] w) →
 CondW t19
 (V (ia 45 t17 t4) w fun t23 w =>
 V (ld 3 t23) w fun t24 w =>
 V (eq .neq 3 (.tmp 24) (.const (.int .i64 0)) t24 (.int .i64 0)) w fun t25 w =>
 K0 [t25] w)
 (K0 [(.bool false)] w))
theorem en60 (h : vc60 R w t0) : Calls Tryz.prog 60 #[t0] w (retK R) := calls_of_enter mixed Tryz.func60 (by kernel_rfl) (Eq.mpr (by kernel_rfl : enterW Tryz.prog Tryz.f60 an60 [t0] w R = vc60 R w t0) h)
def an61 : Ann := (.seq (oD 2) (.seq (oD 2) .leaf))
def vc61 (R : Value → World → Prop) (w : World) (t0 : Value) : Prop :=
 V (bx 121 t0) w fun t1 w =>
 R (.func (.func 172) #[] #[t1]) w
theorem en61 (h : vc61 R w t0) : Calls Tryz.prog 61 #[t0] w (retK R) := calls_of_enter mixed Tryz.func61 (by kernel_rfl) (Eq.mpr (by kernel_rfl : enterW Tryz.prog Tryz.f61 an61 [t0] w R = vc61 R w t0) h)
def an62 : Ann := (.seq (oD 2) (.seq (.seq (oD 1) (.one (.seqJ [6] ([7, 6] ++ rgN 8 6) (.seq (oD 2) (.cond .leaf (.seq (oD 2) (.cond .leaf (.seq (oD 2) (.cond .leaf (.seq (oD 2) (.cond .leaf (.seq (oD 2) (.cond .leaf (.seq (oD 2) (.cond .leaf (oD 2))))))))))))) (.cond (.seq (oD 3) .leaf) (.seq (oD 2) (.cond (.seq (oD 3) .leaf) (.seqJ [20] [21, 20, 22] (.seq (oD 2) (.cond .leaf (oD 2))) (.cond (.seq (oD 3) .leaf) .leaf)))))))) (.seq (oD 1) .leaf)))
def vc62 (R : Value → World → Prop) (w : World) (t0 t1 : Value) : Prop :=
 V (bx 117 t0) w fun t2 w =>
 ∀ K0 : List Value → World → Prop, (∀ t6, ∀ w, (∀ g : Env,
 CondW t6
 (V (fa 117 t2 0) w fun t14 w =>
 V (ld 115 t14) w fun t15 w =>
 R t15 w)
 (V (eq .eql 3 (.tmp 5) (.const (.int .i64 10)) t1 (.int .i64 10)) w fun t17 w =>
 CondW t17
 (V (fa 117 t2 1) w fun t18 w =>
 V (ld 115 t18) w fun t19 w =>
 R t19 w)
 (∀ K0 : List Value → World → Prop, (∀ t20, ∀ w, (∀ g : Env,
 CondW t20
 (V (fa 117 t2 2) w fun t23 w =>
 V (ld 115 t23) w fun t24 w =>
 R t24 w)
 (R (.map none) w)) → K0 [t20] w) →
 V (eq .eql 3 (.tmp 5) (.const (.int .i64 11)) t1 (.int .i64 11)) w fun t21 w =>
 CondW t21
 (K0 [t21] w)
 (V (eq .eql 3 (.tmp 5) (.const (.int .i64 12)) t1 (.int .i64 12)) w fun t22 w =>
 K0 [t22] w)))) → K0 [t6] w) →
 V (eq .eql 3 (.tmp 5) (.const (.int .i64 2)) t1 (.int .i64 2)) w fun t7 w =>
 CondW t7
 (K0 [t7] w)
 (V (eq .eql 3 (.tmp 5) (.const (.int .i64 3)) t1 (.int .i64 3)) w fun t8 w =>
 CondW t8
 (K0 [t8] w)
 (V (eq .eql 3 (.tmp 5) (.const (.int .i64 4)) t1 (.int .i64 4)) w fun t9 w =>
 CondW t9
 (K0 [t9] w)
 (V (eq .eql 3 (.tmp 5) (.const (.int .i64 5)) t1 (.int .i64 5)) w fun t10 w =>
 CondW t10
 (K0 [t10] w)
 (V (eq .eql 3 (.tmp 5) (.const (.int .i64 6)) t1 (.int .i64 6)) w fun t11 w =>
 CondW t11
 (K0 [t11] w)
 (V (eq .eql 3 (.tmp 5) (.const (.int .i64 7)) t1 (.int .i64 7)) w fun t12 w =>
 CondW t12
 (K0 [t12] w)
 (V (eq .eql 3 (.tmp 5) (.const (.int .i64 8)) t1 (.int .i64 8)) w fun t13 w =>
 K0 [t13] w))))))
theorem en62 (h : vc62 R w t0 t1) : Calls Tryz.prog 62 #[t0, t1] w (retK R) := calls_of_enter mixed Tryz.func62 (by kernel_rfl) (Eq.mpr (by kernel_rfl : enterW Tryz.prog Tryz.f62 an62 [t0, t1] w R = vc62 R w t0 t1) h)
def an63 : Ann := (.seq (oD 2) (.seq (oD 1) (.seq (oD 4) (.seq (.seq (oD 3) (.one (.loop [6, 14] ([15, 16, 17, 18, 8, 9] ++ rgN 19 11 ++ [6, 30, 14]) (.seq (oD 1) (.seq (.cond .leaf .leaf) (.seqJ [6] ([16, 17, 18, 8, 9] ++ rgN 19 11 ++ [6]) (.one (.seq (oD 5) (.seq (oD 3) (.cond (.seq (oD 5) (oD 5)) .leaf)))) (oD 2))))))) (.seq (oD 4) .leaf)))))
def vc63 (R : Value → World → Prop) (w : World) (t0 t1 : Value) : Prop :=
 V (mm 124 none) w fun t10 w =>
 U (mu 124 t10 (.int .i64 (-1)) (.int .i64 (-1))) w fun w =>
 V (Builtin.len_ #[22] 3 #[t0]) w fun t13 w =>
 ∃ (I0 : List Value → World → Prop) (M0 : List Value → World → Nat), I0 [(.slice none 0 0), (.int .i64 0)] w ∧ ∀ g : Env, ∀ t6, ∀ t14, ∀ w, I0 [t6, t14] w → ∀ m0, m0 = M0 [t6, t14] w →
 V (bi .lss 3 t14 t13) w fun t15 w =>
 CondW t15
 (∀ K0 : List Value → World → Prop, (∀ t6a, ∀ w, (∀ g : Env,
 V (bi .add 3 t14 (.int .i64 1)) w fun t30 w =>
 I0 [t6a, t30] w ∧ M0 [t6a, t30] w < m0) → K0 [t6a] w) →
 V (ia 22 t0 t14) w fun t17 w =>
 V (ld 9 t17) w fun t18 w =>
 V (lk 115 t1 t14 false) w fun t21 w =>
 CondW t21
 (V (Builtin.len_ #[22] 3 #[t6]) w fun t25 w =>
 U (mu 124 t10 t14 t25) w fun w =>
 V (bs 22 1 #[(0, t18)]) w fun t28 w =>
 V (Builtin.append_ #[22, 22] 22 #[t6, t28]) w fun t29 w =>
 K0 [t29] w)
 (K0 [t6] w))
 (R (.tuple #[t6, t10]) w)
theorem en63 (h : vc63 R w t0 t1) : Calls Tryz.prog 63 #[t0, t1] w (retK R) := calls_of_enter mixed Tryz.func63 (by kernel_rfl) (Eq.mpr (by kernel_rfl : enterW Tryz.prog Tryz.f63 an63 [t0, t1] w R = vc63 R w t0 t1) h)
def an64 : Ann := (.seq (oD 2) (.seq (oD 1) (.seq (oD 4) (.seq (.seq (oD 3) (.one (.loop [6, 14] ([15, 16, 17, 18, 8, 9] ++ rgN 19 11 ++ [6, 30, 14]) (.seq (oD 1) (.seq (.cond .leaf .leaf) (.seqJ [6] ([16, 17, 18, 8, 9] ++ rgN 19 11 ++ [6]) (.one (.seq (oD 5) (.seq (oD 3) (.cond (.seq (oD 5) (oD 5)) .leaf)))) (oD 2))))))) (.seq (oD 4) .leaf)))))
def vc64 (R : Value → World → Prop) (w : World) (t0 t1 : Value) : Prop :=
 V (mm 124 none) w fun t10 w =>
 U (mu 124 t10 (.int .i64 (-1)) (.int .i64 (-1))) w fun w =>
 V (Builtin.len_ #[23] 3 #[t0]) w fun t13 w =>
 ∃ (I0 : List Value → World → Prop) (M0 : List Value → World → Nat), I0 [(.slice none 0 0), (.int .i64 0)] w ∧ ∀ g : Env, ∀ t6, ∀ t14, ∀ w, I0 [t6, t14] w → ∀ m0, m0 = M0 [t6, t14] w →
 V (bi .lss 3 t14 t13) w fun t15 w =>
 CondW t15
 (∀ K0 : List Value → World → Prop, (∀ t6a, ∀ w, (∀ g : Env,
 V (bi .add 3 t14 (.int .i64 1)) w fun t30 w =>
 I0 [t6a, t30] w ∧ M0 [t6a, t30] w < m0) → K0 [t6a] w) →
 V (ia 23 t0 t14) w fun t17 w =>
 V (ld 93 t17) w fun t18 w =>
 V (lk 115 t1 t14 false) w fun t21 w =>
 CondW t21
 (V (Builtin.len_ #[23] 3 #[t6]) w fun t25 w =>
 U (mu 124 t10 t14 t25) w fun w =>
 V (bs 23 1 #[(0, t18)]) w fun t28 w =>
 V (Builtin.append_ #[23, 23] 23 #[t6, t28]) w fun t29 w =>
 K0 [t29] w)
 (K0 [t6] w))
 (R (.tuple #[t6, t10]) w)
theorem en64 (h : vc64 R w t0 t1) : Calls Tryz.prog 64 #[t0, t1] w (retK R) := calls_of_enter mixed Tryz.func64 (by kernel_rfl) (Eq.mpr (by kernel_rfl : enterW Tryz.prog Tryz.f64 an64 [t0, t1] w R = vc64 R w t0 t1) h)
def an65 : Ann := (.seq (oD 2) (.seq (oD 1) (.seq (oD 4) (.seq (.seq (oD 3) (.one (.loop [6, 14] ([15, 16, 17, 18, 8, 9] ++ rgN 19 11 ++ [6, 30, 14]) (.seq (oD 1) (.seq (.cond .leaf .leaf) (.seqJ [6] ([16, 17, 18, 8, 9] ++ rgN 19 11 ++ [6]) (.one (.seq (oD 5) (.seq (oD 3) (.cond (.seq (oD 5) (oD 5)) .leaf)))) (oD 2))))))) (.seq (oD 4) .leaf)))))
def vc65 (R : Value → World → Prop) (w : World) (t0 t1 : Value) : Prop :=
 V (mm 124 none) w fun t10 w =>
 U (mu 124 t10 (.int .i64 (-1)) (.int .i64 (-1))) w fun w =>
 V (Builtin.len_ #[24] 3 #[t0]) w fun t13 w =>
 ∃ (I0 : List Value → World → Prop) (M0 : List Value → World → Nat), I0 [(.slice none 0 0), (.int .i64 0)] w ∧ ∀ g : Env, ∀ t6, ∀ t14, ∀ w, I0 [t6, t14] w → ∀ m0, m0 = M0 [t6, t14] w →
 V (bi .lss 3 t14 t13) w fun t15 w =>
 CondW t15
 (∀ K0 : List Value → World → Prop, (∀ t6a, ∀ w, (∀ g : Env,
 V (bi .add 3 t14 (.int .i64 1)) w fun t30 w =>
 I0 [t6a, t30] w ∧ M0 [t6a, t30] w < m0) → K0 [t6a] w) →
 V (ia 24 t0 t14) w fun t17 w =>
 V (ld 96 t17) w fun t18 w =>
 V (lk 115 t1 t14 false) w fun t21 w =>
 CondW t21
 (V (Builtin.len_ #[24] 3 #[t6]) w fun t25 w =>
 U (mu 124 t10 t14 t25) w fun w =>
 V (bs 24 1 #[(0, t18)]) w fun t28 w =>
 V (Builtin.append_ #[24, 24] 24 #[t6, t28]) w fun t29 w =>
 K0 [t29] w)
 (K0 [t6] w))
 (R (.tuple #[t6, t10]) w)
theorem en65 (h : vc65 R w t0 t1) : Calls Tryz.prog 65 #[t0, t1] w (retK R) := calls_of_enter mixed Tryz.func65 (by kernel_rfl) (Eq.mpr (by kernel_rfl : enterW Tryz.prog Tryz.f65 an65 [t0, t1] w R = vc65 R w t0 t1) h)
def an66 : Ann := (.seq (oD 1) (.seq (.seq (oD 1) (.one (.seq (oD 2) (.cond (.seq (oD 5) .leaf) (.seq (oD 2) (.cond (.seq (oD 4) .leaf) (.seqJ [22] [23, 22, 24] (.seq (oD 2) (.cond .leaf (oD 2))) (.cond (.seq (oD 4) .leaf) .leaf)))))))) (.seq (.seq (oD 4) (.cond (.seq (oD 4) .leaf) .leaf)) (.seq (oD 2) .leaf))))
def vc66 (R : Value → World → Prop) (w : World) (t0 t1 t2 t3 t4 t5 t6 : Value) : Prop :=
 V (eq .eql 3 (.tmp 10) (.const (.int .i64 13)) t0 (.int .i64 13)) w fun t12 w =>
 CondW t12
 (V (ld 45 t2) w fun t13 w =>
 V (ia 45 t13 t1) w fun t15 w =>
 V (ld 3 t15) w fun t16 w =>
 R t16 w)
 (V (eq .eql 3 (.tmp 10) (.const (.int .i64 10)) t0 (.int .i64 10)) w fun t18 w =>
 CondW t18
 (V (ld 124 t3) w fun t19 w =>
 V (lk 124 t19 t1 false) w fun t21 w =>
 R t21 w)
 (∀ K0 : List Value → World → Prop, (∀ t22, ∀ w, (∀ g : Env,
 CondW t22
 (V (ld 124 t4) w fun t25 w =>
 V (lk 124 t25 t1 false) w fun t27 w =>
 R t27 w)
 (V (ld 117 t5) w fun t28 w =>
 CV (.func (.func 62) #[] #[]) #[t28, t0] w fun t30 w =>
 V (eq .neq 115 (.tmp 30) (.const (.map none)) t30 (.map none)) w fun t31 w =>
 CondW t31
 (V (ld 124 t6) w fun t32 w =>
 V (lk 124 t32 t1 false) w fun t34 w =>
 R t34 w)
 (R t1 w))) → K0 [t22] w) →
 V (eq .eql 3 (.tmp 10) (.const (.int .i64 11)) t0 (.int .i64 11)) w fun t23 w =>
 CondW t23
 (K0 [t23] w)
 (V (eq .eql 3 (.tmp 10) (.const (.int .i64 12)) t0 (.int .i64 12)) w fun t24 w =>
 K0 [t24] w)))
theorem en66 (h : vc66 R w t0 t1 t2 t3 t4 t5 t6) : Calls Tryz.prog 66 #[t0, t1, t2, t3, t4, t5, t6] w (retK R) := calls_of_enter mixed Tryz.func66 (by kernel_rfl) (Eq.mpr (by kernel_rfl : enterW Tryz.prog Tryz.f66 an66 [t0, t1, t2, t3, t4, t5, t6] w R = vc66 R w t0 t1 t2 t3 t4 t5 t6) h)
def an67 : Ann := (.seq (oD 1) (.seq (.seq (oD 2) (.cond (.seq (oD 1) .leaf) .leaf)) (.seq (oD 4) .leaf)))
def vc67 (R : Value → World → Prop) (w : World) (t0 : Value) : Prop :=
 V (eq .eql 93 (.tmp 3) (.const (.slice none 0 0)) t0 (.slice none 0 0)) w fun t4 w =>
 CondW t4
 (R (.slice none 0 0) w)
 (V (bs 93 0 #[]) w fun t5 w =>
 V (Builtin.append_ #[93, 93] 93 #[t5, t0]) w fun t7 w =>
 R t7 w)
theorem en67 (h : vc67 R w t0) : Calls Tryz.prog 67 #[t0] w (retK R) := calls_of_enter mixed Tryz.func67 (by kernel_rfl) (Eq.mpr (by kernel_rfl : enterW Tryz.prog Tryz.f67 an67 [t0] w R = vc67 R w t0) h)
def an68 : Ann := (.seq (oD 1) (.seq (.seq (oD 2) (.cond (.seq (oD 1) .leaf) .leaf)) (.seq (oD 4) .leaf)))
def vc68 (R : Value → World → Prop) (w : World) (t0 : Value) : Prop :=
 V (eq .eql 96 (.tmp 3) (.const (.slice none 0 0)) t0 (.slice none 0 0)) w fun t4 w =>
 CondW t4
 (R (.slice none 0 0) w)
 (V (bs 96 0 #[]) w fun t5 w =>
 V (Builtin.append_ #[96, 96] 96 #[t5, t0]) w fun t7 w =>
 R t7 w)
theorem en68 (h : vc68 R w t0) : Calls Tryz.prog 68 #[t0] w (retK R) := calls_of_enter mixed Tryz.func68 (by kernel_rfl) (Eq.mpr (by kernel_rfl : enterW Tryz.prog Tryz.f68 an68 [t0] w R = vc68 R w t0) h)
def an69 : Ann := (.seq (oD 1) (.seq (.seq (oD 2) (.cond (.seq (oD 1) .leaf) .leaf)) (.seq (oD 4) .leaf)))
def vc69 (R : Value → World → Prop) (w : World) (t0 : Value) : Prop :=
 V (eq .eql 22 (.tmp 3) (.const (.slice none 0 0)) t0 (.slice none 0 0)) w fun t4 w =>
 CondW t4
 (R (.slice none 0 0) w)
 (V (bs 22 0 #[]) w fun t5 w =>
 V (Builtin.append_ #[22, 22] 22 #[t5, t0]) w fun t7 w =>
 R t7 w)
theorem en69 (h : vc69 R w t0) : Calls Tryz.prog 69 #[t0] w (retK R) := calls_of_enter mixed Tryz.func69 (by kernel_rfl) (Eq.mpr (by kernel_rfl : enterW Tryz.prog Tryz.f69 an69 [t0] w R = vc69 R w t0) h)
def an73 : Ann := (.seq (oD 2) (.seq (oD 2) (.seq (.seq (oD 4) (.one (.loop [3, 10] ([11, 12, 13, 5] ++ rgN 14 12 ++ [3, 26, 10]) (.seq (oD 1) (.seq (.cond .leaf .leaf) (.seqJ [3] ([12, 13, 5] ++ rgN 14 12 ++ [3]) (.one (.seq (oD 4) (.seq (oD 7) (.cond (oD 6) .leaf)))) (oD 2))))))) (.seq (oD 2) .leaf))))
def vc73 (R : Value → World → Prop) (w : World) (t0 : Value) : Prop :=
 V (bx 28 t0) w fun t1 w =>
 V (bs 45 1 #[(0, (.int .i64 0))]) w fun t6 w =>
 V (fa 28 t1 3) w fun t7 w =>
 V (ld 25 t7) w fun t8 w =>
 V (Builtin.len_ #[25] 3 #[t8]) w fun t9 w =>
 ∃ (I0 : List Value → World → Prop) (M0 : List Value → World → Nat), I0 [t6, (.int .i64 0)] w ∧ ∀ g : Env, ∀ t3, ∀ t10, ∀ w, I0 [t3, t10] w → ∀ m0, m0 = M0 [t3, t10] w →
 V (bi .lss 3 t10 t9) w fun t11 w =>
 CondW t11
 (∀ K0 : List Value → World → Prop, (∀ t3a, ∀ w, (∀ g : Env,
 V (bi .add 3 t10 (.int .i64 1)) w fun t26 w =>
 I0 [t3a, t26] w ∧ M0 [t3a, t26] w < m0) → K0 [t3a] w) →
 V (ia 25 t8 t10) w fun t12 w =>
 V (ld 54 t12) w fun t13 w =>
 V (al 54) w fun t5 w =>
 U (st 54 t5 t13) w fun w =>
 V (fa 54 t5 1) w fun t14 w =>
 V (ld 3 t14) w fun t15 w =>
 V (fa 28 t1 5) w fun t16 w =>
 V (ld 26 t16) w fun t17 w =>
 V (Builtin.len_ #[26] 3 #[t17]) w fun t18 w =>
 V (bi .sub 3 t18 (.int .i64 1)) w fun t19 w =>
 CV (.func (.func 75) #[] #[]) #[t15, (.int .i64 0), t19] w fun t20 w =>
 CondW t20
 (V (fa 54 t5 1) w fun t22 w =>
 V (ld 3 t22) w fun t23 w =>
 V (bs 45 1 #[(0, t23)]) w fun t24 w =>
 V (Builtin.append_ #[45, 45] 45 #[t3, t24]) w fun t25 w =>
 K0 [t25] w)
 (K0 [t3] w))
 (R t3 w)
theorem en73 (h : vc73 R w t0) : Calls Tryz.prog 73 #[t0] w (retK R) := calls_of_enter mixed Tryz.func73 (by kernel_rfl) (Eq.mpr (by kernel_rfl : enterW Tryz.prog Tryz.f73 an73 [t0] w R = vc73 R w t0) h)
def an74 : Ann := (.seq (oD 3) (.seq (oD 2) .leaf))
def vc74 (R : Value → World → Prop) (w : World) (t0 t1 : Value) : Prop :=
 V (bx 28 t0) w fun t2 w =>
 V (bx 3 t1) w fun t3 w =>
 R (.func (.func 173) #[] #[t2, t3]) w
theorem en74 (h : vc74 R w t0 t1) : Calls Tryz.prog 74 #[t0, t1] w (retK R) := calls_of_enter mixed Tryz.func74 (by kernel_rfl) (Eq.mpr (by kernel_rfl : enterW Tryz.prog Tryz.f74 an74 [t0, t1] w R = vc74 R w t0 t1) h)
def an75 : Ann := (.seq (oD 1) (.seq (.reg (opn 4 (.join [14] [11, 12, 13, 14] (.split 10 (opn 4 .done) (opn 4 .done)) (opn 1 .done)))) .leaf))
def vc75 (R : Value → World → Prop) (w : World) (t0 t1 t2 : Value) : Prop :=
 V (bi .leq 3 t1 t0) w fun t9 w =>
 ∀ K0 : List Value → World → Prop, (∀ t14, ∀ w, (∀ g : Env,
 R t14 w) → K0 [t14] w) →
 CondW t9
 (V (bi .leq 3 t0 t2) w fun t13 w =>
 K0 [t13] w)
 (K0 [(.bool false)] w)
theorem en75 (h : vc75 R w t0 t1 t2) : Calls Tryz.prog 75 #[t0, t1, t2] w (retK R) := calls_of_enter mixed Tryz.func75 (by kernel_rfl) (Eq.mpr (by kernel_rfl : enterW Tryz.prog Tryz.f75 an75 [t0, t1, t2] w R = vc75 R w t0 t1 t2) h)
def an76 : Ann := (.seq (oD 1) (.seq (oD 5) .leaf))
def vc76 (R : Value → World → Prop) (w : World) (t0 t1 : Value) : Prop :=
 CV (.func (.func 174) #[] #[]) #[t0, t1] w fun t7 w =>
 V (bi .geq 3 t7 (.int .i64 0)) w fun t8 w =>
 R t8 w
theorem en76 (h : vc76 R w t0 t1) : Calls Tryz.prog 76 #[t0, t1] w (retK R) := calls_of_enter mixed Tryz.func76 (by kernel_rfl) (Eq.mpr (by kernel_rfl : enterW Tryz.prog Tryz.f76 an76 [t0, t1] w R = vc76 R w t0 t1) h)
def an77 : Ann := (.seq (oD 1) (.seq (.seq (oD 3) (.one (.loop [8] ([9, 10, 5] ++ rgN 11 7 ++ [4, 18, 8]) (.seq (oD 1) (.seq (.cond .leaf .leaf) (.seq (.one (.seq (oD 2) (.seq (oD 6) (.cond (.seq (oD 2) .leaf) .leaf)))) (oD 2))))))) (.seq (oD 1) .leaf)))
def vc77 (R : Value → World → Prop) (w : World) (t0 t1 : Value) : Prop :=
 V (Builtin.len_ #[25] 3 #[t0]) w fun t7 w =>
 ∃ (I0 : List Value → World → Prop) (M0 : List Value → World → Nat), I0 [(.int .i64 0)] w ∧ ∀ g : Env, ∀ t8, ∀ w, I0 [t8] w → ∀ m0, m0 = M0 [t8] w →
 V (bi .lss 3 t8 t7) w fun t9 w =>
 CondW t9
 (V (ia 25 t0 t8) w fun t14 w =>
 V (ld 54 t14) w fun t15 w =>
 CV t1 #[t15] w fun t16 w =>
 CondW t16
 (R t8 w)
 (V (bi .add 3 t8 (.int .i64 1)) w fun t18 w =>
 I0 [t18] w ∧ M0 [t18] w < m0))
 (R (.int .i64 (-1)) w)
theorem en77 (h : vc77 R w t0 t1) : Calls Tryz.prog 77 #[t0, t1] w (retK R) := calls_of_enter mixed Tryz.func77 (by kernel_rfl) (Eq.mpr (by kernel_rfl : enterW Tryz.prog Tryz.f77 an77 [t0, t1] w R = vc77 R w t0 t1) h)
def an78 : Ann := (.seq (oD 2) (.seq (oD 5) .leaf))
def vc78 (R : Value → World → Prop) (w : World) (t0 t1 : Value) : Prop :=
 V (bx 54 t0) w fun t2 w =>
 V (fa 54 t2 0) w fun t4 w =>
 V (ld 9 t4) w fun t5 w =>
 V (ld 9 t1) w fun t6 w =>
 V (eq .eql 9 (.tmp 5) (.tmp 6) t5 t6) w fun t7 w =>
 R t7 w
theorem en78 (h : vc78 R w t0 t1) : Calls Tryz.prog 78 #[t0, t1] w (retK R) := calls_of_enter mixed Tryz.func78 (by kernel_rfl) (Eq.mpr (by kernel_rfl : enterW Tryz.prog Tryz.f78 an78 [t0, t1] w R = vc78 R w t0 t1) h)
def an80 : Ann := (.seq (oD 2) (.seq (oD 8) .leaf))
def vc80 (R : Value → World → Prop) (w : World) (t0 : Value) : Prop :=
 V (bx 38 t0) w fun t1 w =>
 V (al 100) w fun t2 w =>
 V (fa 38 t1 1) w fun t3 w =>
 V (ld 3 t3) w fun t4 w =>
 V (fa 38 t1 2) w fun t5 w =>
 V (ld 3 t5) w fun t6 w =>
 V (fa 38 t1 3) w fun t7 w =>
 V (ld 3 t7) w fun t8 w =>
 V (bd 100 #[(0, t4), (1, t6), (2, t8)]) w fun t9 w =>
 U (st 100 t2 t9) w fun w =>
 CW 100 t2 w fun t1002 => R t1002 w
theorem en80 (h : vc80 R w t0) : Calls Tryz.prog 80 #[t0] w (retK R) := calls_of_enter mixed Tryz.func80 (by kernel_rfl) (Eq.mpr (by kernel_rfl : enterW Tryz.prog Tryz.f80 an80 [t0] w R = vc80 R w t0) h)
def an91 : Ann := (.seq (oD 5) (.seq (oD 3) (.one (.loop [15] [16, 17, 18, 7, 19, 20, 21, 22, 15] (.seq (oD 1) (.seq (.cond .leaf .leaf) (.seq (.one (.seq (oD 3) (oD 3))) (oD 2))))))))
def vc91 (R : Value → World → Prop) (w : World) (t0 t1 t2 : Value) : Prop :=
 V (Builtin.len_ #[22] 3 #[t1]) w fun t10 w =>
 V (bs 45 1 #[(0, t10)]) w fun t11 w =>
 CV (.func (.func 175) #[] #[]) #[t0, t11] w fun t12 w =>
 V (Builtin.len_ #[22] 3 #[t1]) w fun t14 w =>
 ∃ (I0 : List Value → World → Prop) (M0 : List Value → World → Nat), I0 [(.int .i64 0)] w ∧ ∀ g : Env, ∀ t15, ∀ w, I0 [t15] w → ∀ m0, m0 = M0 [t15] w →
 V (bi .lss 3 t15 t14) w fun t16 w =>
 CondW t16
 (V (ia 22 t1 t15) w fun t17 w =>
 V (ld 9 t17) w fun t18 w =>
 CV t2 #[t18] w fun t21 w =>
 V (bi .add 3 t15 (.int .i64 1)) w fun t22 w =>
 I0 [t22] w ∧ M0 [t22] w < m0)
 (R (.tuple #[]) w)
theorem en91 (h : vc91 R w t0 t1 t2) : Calls Tryz.prog 91 #[t0, t1, t2] w (retK R) := calls_of_enter mixed Tryz.func91 (by kernel_rfl) (Eq.mpr (by kernel_rfl : enterW Tryz.prog Tryz.f91 an91 [t0, t1, t2] w R = vc91 R w t0 t1 t2) h)
def an92 : Ann := (.seq (oD 5) (oD 10))
def vc92 (R : Value → World → Prop) (w : World) (t0 t1 : Value) : Prop :=
 V (Builtin.len_ #[9] 3 #[t1]) w fun t6 w =>
 V (bs 45 1 #[(0, t6)]) w fun t7 w =>
 CV (.func (.func 175) #[] #[]) #[t0, t7] w fun t8 w =>
 NilW t0 fun t11 => V (fa 156 t11 0) w fun t12 w =>
 V (ld 55 t12) w fun t13 w =>
 V (Builtin.append_ #[55, 9] 55 #[t13, t1]) w fun t15 w =>
 NilW t0 fun t16 => V (fa 156 t16 0) w fun t17 w =>
 U (st 55 t17 t15) w fun w =>
 R (.tuple #[]) w
theorem en92 (h : vc92 R w t0 t1) : Calls Tryz.prog 92 #[t0, t1] w (retK R) := calls_of_enter mixed Tryz.func92 (by kernel_rfl) (Eq.mpr (by kernel_rfl : enterW Tryz.prog Tryz.f92 an92 [t0, t1] w R = vc92 R w t0 t1) h)
def an93 : Ann := (.seq (oD 5) (.seq (oD 3) (.one (.loop [15] [16, 17, 18, 7, 19, 20, 21, 22, 15] (.seq (oD 1) (.seq (.cond .leaf .leaf) (.seq (.one (.seq (oD 3) (oD 3))) (oD 2))))))))
def vc93 (R : Value → World → Prop) (w : World) (t0 t1 t2 : Value) : Prop :=
 V (Builtin.len_ #[23] 3 #[t1]) w fun t10 w =>
 V (bs 45 1 #[(0, t10)]) w fun t11 w =>
 CV (.func (.func 175) #[] #[]) #[t0, t11] w fun t12 w =>
 V (Builtin.len_ #[23] 3 #[t1]) w fun t14 w =>
 ∃ (I0 : List Value → World → Prop) (M0 : List Value → World → Nat), I0 [(.int .i64 0)] w ∧ ∀ g : Env, ∀ t15, ∀ w, I0 [t15] w → ∀ m0, m0 = M0 [t15] w →
 V (bi .lss 3 t15 t14) w fun t16 w =>
 CondW t16
 (V (ia 23 t1 t15) w fun t17 w =>
 V (ld 93 t17) w fun t18 w =>
 CV t2 #[t18] w fun t21 w =>
 V (bi .add 3 t15 (.int .i64 1)) w fun t22 w =>
 I0 [t22] w ∧ M0 [t22] w < m0)
 (R (.tuple #[]) w)
theorem en93 (h : vc93 R w t0 t1 t2) : Calls Tryz.prog 93 #[t0, t1, t2] w (retK R) := calls_of_enter mixed Tryz.func93 (by kernel_rfl) (Eq.mpr (by kernel_rfl : enterW Tryz.prog Tryz.f93 an93 [t0, t1, t2] w R = vc93 R w t0 t1 t2) h)
def an94 : Ann := (oD 5)
def vc94 (R : Value → World → Prop) (w : World) (t0 t1 : Value) : Prop :=
 V (ld 154 t1) w fun t3 w =>
 V (ld 154 t1) w fun t5 w =>
 CV (.func (.func 95) #[] #[]) #[t3, t0, (.func (.func 96) #[t5] #[])] w fun t7 w =>
 R (.tuple #[]) w
theorem en94 (h : vc94 R w t0 t1) : Calls Tryz.prog 94 #[t0, t1] w (retK R) := calls_of_enter mixed Tryz.func94 (by kernel_rfl) (Eq.mpr (by kernel_rfl : enterW Tryz.prog Tryz.f94 an94 [t0, t1] w R = vc94 R w t0 t1) h)
def an95 : Ann := (.seq (oD 5) (.seq (oD 3) (.one (.loop [15] [16, 17, 18, 7, 19, 20, 21, 22, 15] (.seq (oD 1) (.seq (.cond .leaf .leaf) (.seq (.one (.seq (oD 4) (oD 3))) (oD 2))))))))
def vc95 (R : Value → World → Prop) (w : World) (t0 t1 t2 : Value) : Prop :=
 V (Builtin.len_ #[93] 3 #[t1]) w fun t10 w =>
 V (bs 45 1 #[(0, t10)]) w fun t11 w =>
 CV (.func (.func 175) #[] #[]) #[t0, t11] w fun t12 w =>
 V (Builtin.len_ #[93] 3 #[t1]) w fun t14 w =>
 ∃ (I0 : List Value → World → Prop) (M0 : List Value → World → Nat), I0 [(.int .i64 0)] w ∧ ∀ g : Env, ∀ t15, ∀ w, I0 [t15] w → ∀ m0, m0 = M0 [t15] w →
 V (bi .lss 3 t15 t14) w fun t16 w =>
 CondW t16
 (V (ia 93 t1 t15) w fun t17 w =>
 V (ld 95 t17) w fun t18 w =>
 V (al 95) w fun t7 w =>
 U (st 95 t7 t18) w fun w =>
 V (ld 95 t7) w fun t20 w =>
 CV t2 #[t20] w fun t21 w =>
 V (bi .add 3 t15 (.int .i64 1)) w fun t22 w =>
 I0 [t22] w ∧ M0 [t22] w < m0)
 (R (.tuple #[]) w)
theorem en95 (h : vc95 R w t0 t1 t2) : Calls Tryz.prog 95 #[t0, t1, t2] w (retK R) := calls_of_enter mixed Tryz.func95 (by kernel_rfl) (Eq.mpr (by kernel_rfl : enterW Tryz.prog Tryz.f95 an95 [t0, t1, t2] w R = vc95 R w t0 t1 t2) h)
def an96 : Ann := (.seq (oD 1) (.seq (oD 5) (.seq (oD 4) (oD 5))))
def vc96 (R : Value → World → Prop) (w : World) (t0 t1 : Value) : Prop :=
 V (bx 95 t1) w fun t3 w =>
 V (fa 95 t3 0) w fun t5 w =>
 V (ld 3 t5) w fun t6 w =>
 V (bs 45 1 #[(0, t6)]) w fun t7 w =>
 CV (.func (.func 175) #[] #[]) #[t0, t7] w fun t8 w =>
 V (fa 95 t3 1) w fun t10 w =>
 V (ld 9 t10) w fun t11 w =>
 CV (.func (.func 92) #[] #[]) #[t0, t11] w fun t12 w =>
 V (fa 95 t3 2) w fun t14 w =>
 V (ld 3 t14) w fun t15 w =>
 V (bs 45 1 #[(0, t15)]) w fun t16 w =>
 CV (.func (.func 175) #[] #[]) #[t0, t16] w fun t17 w =>
 R (.tuple #[]) w
theorem en96 (h : vc96 R w t0 t1) : Calls Tryz.prog 96 #[t0, t1] w (retK R) := calls_of_enter mixed Tryz.func96 (by kernel_rfl) (Eq.mpr (by kernel_rfl : enterW Tryz.prog Tryz.f96 an96 [t0, t1] w R = vc96 R w t0 t1) h)
def an97 : Ann := (.seq (oD 5) (.seq (oD 3) (.one (.loop [15] [16, 17, 18, 7, 19, 20, 21, 22, 15] (.seq (oD 1) (.seq (.cond .leaf .leaf) (.seq (.one (.seq (oD 3) (oD 3))) (oD 2))))))))
def vc97 (R : Value → World → Prop) (w : World) (t0 t1 t2 : Value) : Prop :=
 V (Builtin.len_ #[24] 3 #[t1]) w fun t10 w =>
 V (bs 45 1 #[(0, t10)]) w fun t11 w =>
 CV (.func (.func 175) #[] #[]) #[t0, t11] w fun t12 w =>
 V (Builtin.len_ #[24] 3 #[t1]) w fun t14 w =>
 ∃ (I0 : List Value → World → Prop) (M0 : List Value → World → Nat), I0 [(.int .i64 0)] w ∧ ∀ g : Env, ∀ t15, ∀ w, I0 [t15] w → ∀ m0, m0 = M0 [t15] w →
 V (bi .lss 3 t15 t14) w fun t16 w =>
 CondW t16
 (V (ia 24 t1 t15) w fun t17 w =>
 V (ld 96 t17) w fun t18 w =>
 CV t2 #[t18] w fun t21 w =>
 V (bi .add 3 t15 (.int .i64 1)) w fun t22 w =>
 I0 [t22] w ∧ M0 [t22] w < m0)
 (R (.tuple #[]) w)
theorem en97 (h : vc97 R w t0 t1 t2) : Calls Tryz.prog 97 #[t0, t1, t2] w (retK R) := calls_of_enter mixed Tryz.func97 (by kernel_rfl) (Eq.mpr (by kernel_rfl : enterW Tryz.prog Tryz.f97 an97 [t0, t1, t2] w R = vc97 R w t0 t1 t2) h)
def an98 : Ann := (oD 5)
def vc98 (R : Value → World → Prop) (w : World) (t0 t1 : Value) : Prop :=
 V (ld 154 t1) w fun t3 w =>
 V (ld 154 t1) w fun t5 w =>
 CV (.func (.func 99) #[] #[]) #[t3, t0, (.func (.func 100) #[t5] #[])] w fun t7 w =>
 R (.tuple #[]) w
theorem en98 (h : vc98 R w t0 t1) : Calls Tryz.prog 98 #[t0, t1] w (retK R) := calls_of_enter mixed Tryz.func98 (by kernel_rfl) (Eq.mpr (by kernel_rfl : enterW Tryz.prog Tryz.f98 an98 [t0, t1] w R = vc98 R w t0 t1) h)
def an99 : Ann := (.seq (oD 5) (.seq (oD 3) (.one (.loop [15] [16, 17, 18, 7, 19, 20, 21, 22, 15] (.seq (oD 1) (.seq (.cond .leaf .leaf) (.seq (.one (.seq (oD 4) (oD 3))) (oD 2))))))))
def vc99 (R : Value → World → Prop) (w : World) (t0 t1 t2 : Value) : Prop :=
 V (Builtin.len_ #[96] 3 #[t1]) w fun t10 w =>
 V (bs 45 1 #[(0, t10)]) w fun t11 w =>
 CV (.func (.func 175) #[] #[]) #[t0, t11] w fun t12 w =>
 V (Builtin.len_ #[96] 3 #[t1]) w fun t14 w =>
 ∃ (I0 : List Value → World → Prop) (M0 : List Value → World → Nat), I0 [(.int .i64 0)] w ∧ ∀ g : Env, ∀ t15, ∀ w, I0 [t15] w → ∀ m0, m0 = M0 [t15] w →
 V (bi .lss 3 t15 t14) w fun t16 w =>
 CondW t16
 (V (ia 96 t1 t15) w fun t17 w =>
 V (ld 98 t17) w fun t18 w =>
 V (al 98) w fun t7 w =>
 U (st 98 t7 t18) w fun w =>
 V (ld 98 t7) w fun t20 w =>
 CV t2 #[t20] w fun t21 w =>
 V (bi .add 3 t15 (.int .i64 1)) w fun t22 w =>
 I0 [t22] w ∧ M0 [t22] w < m0)
 (R (.tuple #[]) w)
theorem en99 (h : vc99 R w t0 t1 t2) : Calls Tryz.prog 99 #[t0, t1, t2] w (retK R) := calls_of_enter mixed Tryz.func99 (by kernel_rfl) (Eq.mpr (by kernel_rfl : enterW Tryz.prog Tryz.f99 an99 [t0, t1, t2] w R = vc99 R w t0 t1 t2) h)
def an100 : Ann := (.seq (oD 1) (.seq (oD 1) (.seqJ [4] [5, 6, 4] (.seq (oD 2) (.cond (oD 1) .leaf)) (.seq (oD 4) (oD 4)))))
def vc100 (R : Value → World → Prop) (w : World) (t0 t1 : Value) : Prop :=
 V (bx 98 t1) w fun t3 w =>
 ∀ K0 : List Value → World → Prop, (∀ t4, ∀ w, (∀ g : Env,
 V (bs 45 1 #[(0, t4)]) w fun t9 w =>
 CV (.func (.func 175) #[] #[]) #[t0, t9] w fun t10 w =>
 V (fa 98 t3 0) w fun t12 w =>
 V (ld 9 t12) w fun t13 w =>
 CV (.func (.func 92) #[] #[]) #[t0, t13] w fun t14 w =>
 R (.tuple #[]) w) → K0 [t4] w) →
 V (fa 98 t3 1) w fun t5 w =>
 V (ld 4 t5) w fun t6 w =>
 CondW t6
 (K0 [(.int .i64 1)] w)
 (K0 [(.int .i64 0)] w)
theorem en100 (h : vc100 R w t0 t1) : Calls Tryz.prog 100 #[t0, t1] w (retK R) := calls_of_enter mixed Tryz.func100 (by kernel_rfl) (Eq.mpr (by kernel_rfl : enterW Tryz.prog Tryz.f100 an100 [t0, t1] w R = vc100 R w t0 t1) h)
def an101 : Ann := (.seq (oD 5) (.seq (oD 3) (.one (.loop [15] [16, 17, 18, 7, 19, 20, 21, 22, 15] (.seq (oD 1) (.seq (.cond .leaf .leaf) (.seq (.one (.seq (oD 4) (oD 3))) (oD 2))))))))
def vc101 (R : Value → World → Prop) (w : World) (t0 t1 t2 : Value) : Prop :=
 V (Builtin.len_ #[25] 3 #[t1]) w fun t10 w =>
 V (bs 45 1 #[(0, t10)]) w fun t11 w =>
 CV (.func (.func 175) #[] #[]) #[t0, t11] w fun t12 w =>
 V (Builtin.len_ #[25] 3 #[t1]) w fun t14 w =>
 ∃ (I0 : List Value → World → Prop) (M0 : List Value → World → Nat), I0 [(.int .i64 0)] w ∧ ∀ g : Env, ∀ t15, ∀ w, I0 [t15] w → ∀ m0, m0 = M0 [t15] w →
 V (bi .lss 3 t15 t14) w fun t16 w =>
 CondW t16
 (V (ia 25 t1 t15) w fun t17 w =>
 V (ld 54 t17) w fun t18 w =>
 V (al 54) w fun t7 w =>
 U (st 54 t7 t18) w fun w =>
 V (ld 54 t7) w fun t20 w =>
 CV t2 #[t20] w fun t21 w =>
 V (bi .add 3 t15 (.int .i64 1)) w fun t22 w =>
 I0 [t22] w ∧ M0 [t22] w < m0)
 (R (.tuple #[]) w)
theorem en101 (h : vc101 R w t0 t1 t2) : Calls Tryz.prog 101 #[t0, t1, t2] w (retK R) := calls_of_enter mixed Tryz.func101 (by kernel_rfl) (Eq.mpr (by kernel_rfl : enterW Tryz.prog Tryz.f101 an101 [t0, t1, t2] w R = vc101 R w t0 t1 t2) h)
def an102 : Ann := (.seq (oD 1) (.seq (oD 5) (oD 4)))
def vc102 (R : Value → World → Prop) (w : World) (t0 t1 : Value) : Prop :=
 V (bx 54 t1) w fun t3 w =>
 V (fa 54 t3 1) w fun t5 w =>
 V (ld 3 t5) w fun t6 w =>
 V (bs 45 1 #[(0, t6)]) w fun t7 w =>
 CV (.func (.func 175) #[] #[]) #[t0, t7] w fun t8 w =>
 V (fa 54 t3 0) w fun t10 w =>
 V (ld 9 t10) w fun t11 w =>
 CV (.func (.func 92) #[] #[]) #[t0, t11] w fun t12 w =>
 R (.tuple #[]) w
theorem en102 (h : vc102 R w t0 t1) : Calls Tryz.prog 102 #[t0, t1] w (retK R) := calls_of_enter mixed Tryz.func102 (by kernel_rfl) (Eq.mpr (by kernel_rfl : enterW Tryz.prog Tryz.f102 an102 [t0, t1] w R = vc102 R w t0 t1) h)
def an103 : Ann := (.seq (oD 5) (.seq (oD 3) (.one (.loop [15] [16, 17, 18, 7, 19, 20, 21, 22, 15] (.seq (oD 1) (.seq (.cond .leaf .leaf) (.seq (.one (.seq (oD 4) (oD 3))) (oD 2))))))))
def vc103 (R : Value → World → Prop) (w : World) (t0 t1 t2 : Value) : Prop :=
 V (Builtin.len_ #[26] 3 #[t1]) w fun t10 w =>
 V (bs 45 1 #[(0, t10)]) w fun t11 w =>
 CV (.func (.func 175) #[] #[]) #[t0, t11] w fun t12 w =>
 V (Builtin.len_ #[26] 3 #[t1]) w fun t14 w =>
 ∃ (I0 : List Value → World → Prop) (M0 : List Value → World → Nat), I0 [(.int .i64 0)] w ∧ ∀ g : Env, ∀ t15, ∀ w, I0 [t15] w → ∀ m0, m0 = M0 [t15] w →
 V (bi .lss 3 t15 t14) w fun t16 w =>
 CondW t16
 (V (ia 26 t1 t15) w fun t17 w =>
 V (ld 38 t17) w fun t18 w =>
 V (al 38) w fun t7 w =>
 U (st 38 t7 t18) w fun w =>
 V (ld 38 t7) w fun t20 w =>
 CV t2 #[t20] w fun t21 w =>
 V (bi .add 3 t15 (.int .i64 1)) w fun t22 w =>
 I0 [t22] w ∧ M0 [t22] w < m0)
 (R (.tuple #[]) w)
theorem en103 (h : vc103 R w t0 t1 t2) : Calls Tryz.prog 103 #[t0, t1, t2] w (retK R) := calls_of_enter mixed Tryz.func103 (by kernel_rfl) (Eq.mpr (by kernel_rfl : enterW Tryz.prog Tryz.f103 an103 [t0, t1, t2] w R = vc103 R w t0 t1 t2) h)
def an104 : Ann := (.seq (oD 1) (oD 11))
def vc104 (R : Value → World → Prop) (w : World) (t0 t1 : Value) : Prop :=
 V (bx 38 t1) w fun t3 w =>
 V (fa 38 t3 0) w fun t5 w =>
 V (ld 3 t5) w fun t6 w =>
 V (fa 38 t3 1) w fun t7 w =>
 V (ld 3 t7) w fun t8 w =>
 V (fa 38 t3 2) w fun t9 w =>
 V (ld 3 t9) w fun t10 w =>
 V (fa 38 t3 3) w fun t11 w =>
 V (ld 3 t11) w fun t12 w =>
 V (bs 45 4 #[(0, t6), (1, t8), (2, t10), (3, t12)]) w fun t13 w =>
 CV (.func (.func 175) #[] #[]) #[t0, t13] w fun t14 w =>
 R (.tuple #[]) w
theorem en104 (h : vc104 R w t0 t1) : Calls Tryz.prog 104 #[t0, t1] w (retK R) := calls_of_enter mixed Tryz.func104 (by kernel_rfl) (Eq.mpr (by kernel_rfl : enterW Tryz.prog Tryz.f104 an104 [t0, t1] w R = vc104 R w t0 t1) h)
def an124 : Ann := (oD 3)
def vc124 (R : Value → World → Prop) (w : World) (t0 t1 : Value) : Prop :=
 V (bi .add 9 t0 (.string ⟨#[10]⟩)) w fun t4 w =>
 CV (.func (.func 125) #[] #[]) #[t1, t4] w fun t5 w =>
 R (.tuple #[]) w
theorem en124 (h : vc124 R w t0 t1) : Calls Tryz.prog 124 #[t0, t1] w (retK R) := calls_of_enter mixed Tryz.func124 (by kernel_rfl) (Eq.mpr (by kernel_rfl : enterW Tryz.prog Tryz.f124 an124 [t0, t1] w R = vc124 R w t0 t1) h)
def an125 : Ann := (.seq (oD 2) (.seq (oD 2) (.seq (oD 10) (.seq (oD 4) .leaf))))
def vc125 (R : Value → World → Prop) (w : World) (t0 t1 : Value) : Prop :=
 CV (.func (.func 184) #[] #[]) #[t0] w fun t7 w =>
 NilW t0 fun t10 => V (fa 199 t10 1) w fun t11 w =>
 V (ld 55 t11) w fun t12 w =>
 V (Builtin.append_ #[55, 9] 55 #[t12, t1]) w fun t14 w =>
 NilW t0 fun t15 => V (fa 199 t15 1) w fun t16 w =>
 U (st 55 t16 t14) w fun w =>
 V (Builtin.len_ #[9] 3 #[t1]) w fun t18 w =>
 R (.tuple #[t18, .nilIface]) w
theorem en125 (h : vc125 R w t0 t1) : Calls Tryz.prog 125 #[t0, t1] w (retK R) := calls_of_enter mixed Tryz.func125 (by kernel_rfl) (Eq.mpr (by kernel_rfl : enterW Tryz.prog Tryz.f125 an125 [t0, t1] w R = vc125 R w t0 t1) h)
def an126 : Ann := (.seq (oD 1) (.seq (oD 3) .leaf))
def vc126 (R : Value → World → Prop) (w : World) (t0 : Value) : Prop :=
 CV (.func (.func 185) #[] #[]) #[t0, (.string ⟨#[32]⟩)] w fun t4 w =>
 R t4 w
theorem en126 (h : vc126 R w t0) : Calls Tryz.prog 126 #[t0] w (retK R) := calls_of_enter mixed Tryz.func126 (by kernel_rfl) (Eq.mpr (by kernel_rfl : enterW Tryz.prog Tryz.f126 an126 [t0] w R = vc126 R w t0) h)
def an127 : Ann := (.seq (oD 1) (.seq (oD 5) .leaf))
def vc127 (R : Value → World → Prop) (w : World) (t0 : Value) : Prop :=
 CV (.func (.func 186) #[] #[]) #[t0, (.string ⟨#[34]⟩), (.string ⟨#[34, 34]⟩)] w fun t4 w =>
 V (bi .add 9 (.string ⟨#[34]⟩) t4) w fun t5 w =>
 V (bi .add 9 t5 (.string ⟨#[34]⟩)) w fun t6 w =>
 R t6 w
theorem en127 (h : vc127 R w t0) : Calls Tryz.prog 127 #[t0] w (retK R) := calls_of_enter mixed Tryz.func127 (by kernel_rfl) (Eq.mpr (by kernel_rfl : enterW Tryz.prog Tryz.f127 an127 [t0] w R = vc127 R w t0) h)
def an128 : Ann := (.seq (oD 1) (.seq (oD 1) (.seq (.seq (oD 3) (.one (.loop [3, 8] ([9, 10, 11, 5] ++ rgN 12 12 ++ [3, 24, 8]) (.seq (oD 1) (.seq (.cond .leaf .leaf) (.seq (.one (.seq (oD 4) (.draw (.take 0 (.take 1 (.hold 2 (.take 4 (.hold 5 (.take 7 (.hold 8 (.alts (.eff 3 (.alts (.eff 6 (.alts (.eff 9 (.alts (.eff 10 (.alts (.eff 11 (.take 12 .done) .nil)) .nil)) .nil)) .nil)) .nil)))))))))))) (oD 2))))))) (.seq (oD 2) .leaf))))
def vc128 (R : Value → World → Prop) (w : World) (t0 : Value) : Prop :=
 V (Builtin.len_ #[93] 3 #[t0]) w fun t7 w =>
 ∃ (I0 : List Value → World → Prop) (M0 : List Value → World → Nat), I0 [(.string ⟨#[116, 109, 112, 108]⟩), (.int .i64 0)] w ∧ ∀ g : Env, ∀ t3, ∀ t8, ∀ w, I0 [t3, t8] w → ∀ m0, m0 = M0 [t3, t8] w →
 V (bi .lss 3 t8 t7) w fun t9 w =>
 CondW t9
 (V (ia 93 t0 t8) w fun t10 w =>
 V (ld 95 t10) w fun t11 w =>
 V (al 95) w fun t5 w =>
 U (st 95 t5 t11) w fun w =>
 Dr w fun w =>
 PV (fa 95 t5 0) fun t13 =>
 HV (ld 3 t13) w fun t14 =>
 PV (fa 95 t5 1) fun t16 =>
 HV (ld 9 t16) w fun t17 =>
 PV (fa 95 t5 2) fun t19 =>
 HV (ld 3 t19) w fun t20 =>
 CV (.func (.func 187) #[] #[]) #[t14] w fun t15 w =>
 RunIs (ld 3 t19) w t20 ∧ RunIs (ld 9 t16) w t17 ∧ (CV (.func (.func 127) #[] #[]) #[t17] w fun t18 w =>
 RunIs (ld 3 t19) w t20 ∧ (CV (.func (.func 187) #[] #[]) #[t20] w fun t21 w =>
 V (bs 22 4 #[(0, t3), (1, t15), (2, t18), (3, t21)]) w fun t22 w =>
 CV (.func (.func 126) #[] #[]) #[t22] w fun t23 w =>
 V (bi .add 3 t8 (.int .i64 1)) w fun t24 w =>
 I0 [t23, t24] w ∧ M0 [t23, t24] w < m0)))
 (R t3 w)
theorem en128 (h : vc128 R w t0) : Calls Tryz.prog 128 #[t0] w (retK R) := calls_of_enter mixed Tryz.func128 (by kernel_rfl) (Eq.mpr (by kernel_rfl : enterW Tryz.prog Tryz.f128 an128 [t0] w R = vc128 R w t0) h)
def an129 : Ann := (.seq (oD 1) (.seq (oD 1) (.seq (.seq (oD 3) (.one (.loop [3, 8] ([9, 10, 11, 5] ++ rgN 12 9 ++ [3] ++ rgN 21 6 ++ [8]) (.seq (oD 1) (.seq (.cond .leaf .leaf) (.seqJ [3] ([10, 11, 5] ++ rgN 12 9 ++ [3, 21, 22, 23, 24, 25]) (.one (.seq (oD 4) (.seq (oD 2) (.cond (oD 8) (oD 6))))) (oD 2))))))) (.seq (oD 2) .leaf))))
def vc129 (R : Value → World → Prop) (w : World) (t0 : Value) : Prop :=
 V (Builtin.len_ #[96] 3 #[t0]) w fun t7 w =>
 ∃ (I0 : List Value → World → Prop) (M0 : List Value → World → Nat), I0 [(.string ⟨#[108, 105, 115, 116]⟩), (.int .i64 0)] w ∧ ∀ g : Env, ∀ t3, ∀ t8, ∀ w, I0 [t3, t8] w → ∀ m0, m0 = M0 [t3, t8] w →
 V (bi .lss 3 t8 t7) w fun t9 w =>
 CondW t9
 (∀ K0 : List Value → World → Prop, (∀ t3a, ∀ w, (∀ g : Env,
 V (bi .add 3 t8 (.int .i64 1)) w fun t26 w =>
 I0 [t3a, t26] w ∧ M0 [t3a, t26] w < m0) → K0 [t3a] w) →
 V (ia 96 t0 t8) w fun t10 w =>
 V (ld 98 t10) w fun t11 w =>
 V (al 98) w fun t5 w =>
 U (st 98 t5 t11) w fun w =>
 V (fa 98 t5 1) w fun t12 w =>
 V (ld 4 t12) w fun t13 w =>
 CondW t13
 (V (fa 98 t5 0) w fun t15 w =>
 V (ld 9 t15) w fun t16 w =>
 V (bi .add 9 (.string ⟨#[40]⟩) t16) w fun t17 w =>
 V (bi .add 9 t17 (.string ⟨#[41]⟩)) w fun t18 w =>
 V (bs 22 2 #[(0, t3), (1, t18)]) w fun t19 w =>
 CV (.func (.func 126) #[] #[]) #[t19] w fun t20 w =>
 K0 [t20] w)
 (V (fa 98 t5 0) w fun t22 w =>
 V (ld 9 t22) w fun t23 w =>
 V (bs 22 2 #[(0, t3), (1, t23)]) w fun t24 w =>
 CV (.func (.func 126) #[] #[]) #[t24] w fun t25 w =>
 K0 [t25] w))
 (R t3 w)
theorem en129 (h : vc129 R w t0) : Calls Tryz.prog 129 #[t0] w (retK R) := calls_of_enter mixed Tryz.func129 (by kernel_rfl) (Eq.mpr (by kernel_rfl : enterW Tryz.prog Tryz.f129 an129 [t0] w R = vc129 R w t0) h)
def an130 : Ann := (.seq (oD 2) (.seq (.draw (.take 0 (.hold 1 (.take 3 (.hold 4 (.alts (.eff 2 (.alts (.eff 5 (.alts (.eff 6 (.alts (.eff 7 (.take 8 .done) .nil)) .nil)) .nil)) .nil))))))) .leaf))
def vc130 (R : Value → World → Prop) (w : World) (t0 : Value) : Prop :=
 V (bx 54 t0) w fun t1 w =>
 Dr w fun w =>
 PV (fa 54 t1 1) fun t3 =>
 HV (ld 3 t3) w fun t4 =>
 PV (fa 54 t1 0) fun t6 =>
 HV (ld 9 t6) w fun t7 =>
 CV (.func (.func 187) #[] #[]) #[t4] w fun t5 w =>
 RunIs (ld 9 t6) w t7 ∧ (CV (.func (.func 127) #[] #[]) #[t7] w fun t8 w =>
 V (bs 22 3 #[(0, (.string ⟨#[108, 97, 98, 101, 108]⟩)), (1, t5), (2, t8)]) w fun t9 w =>
 CV (.func (.func 126) #[] #[]) #[t9] w fun t10 w =>
 R t10 w)
theorem en130 (h : vc130 R w t0) : Calls Tryz.prog 130 #[t0] w (retK R) := calls_of_enter mixed Tryz.func130 (by kernel_rfl) (Eq.mpr (by kernel_rfl : enterW Tryz.prog Tryz.f130 an130 [t0] w R = vc130 R w t0) h)
def an131 : Ann := (.seq (oD 2) (.seq (oD 8) (.seq (oD 8) (.seq (.one (.loop [5] (rgN 21 17 ++ [5]) (.seq (.seq (.reg (opn 4 (.join [32] (rgN 25 8) (.split 24 (opn 8 .done) (opn 8 .done)) .done))) (.cond .leaf .leaf)) (.one (oD 6))))) (.seq (oD 3) (.seq (.seq (oD 3) (.one (.loop [6, 42] [43, 44, 45, 8, 46, 47, 48, 49, 50, 6, 51, 42] (.seq (oD 1) (.seq (.cond .leaf .leaf) (.seq (.one (.seq (oD 3) (oD 6))) (oD 2))))))) (.seq (oD 2) .leaf)))))))
def vc131 (R : Value → World → Prop) (w : World) (t0 : Value) : Prop :=
 V (bx 38 t0) w fun t1 w =>
 V (ld 38 t1) w fun t10 w =>
 CV (.func (.func 49) #[] #[]) #[t10] w fun t11 w =>
 V (ex t11 0) w fun t12 w =>
 V (ex t11 1) w fun t13 w =>
 V (al 102) w fun t3 w =>
 U (st 102 t3 t12) w fun w =>
 V (fa 38 t1 1) w fun t14 w =>
 V (ld 3 t14) w fun t15 w =>
 V (fa 38 t1 2) w fun t16 w =>
 V (ld 3 t16) w fun t17 w =>
 V (fa 38 t1 3) w fun t18 w =>
 V (ld 3 t18) w fun t19 w =>
 V (bs 45 3 #[(0, t15), (1, t17), (2, t19)]) w fun t20 w =>
 ∃ (I0 : List Value → World → Prop) (M0 : List Value → World → Nat), I0 [t20] w ∧ ∀ g : Env, ∀ t5, ∀ w, I0 [t5] w → ∀ m0, m0 = M0 [t5] w →
 V (Builtin.len_ #[45] 3 #[t5]) w fun t22 w =>
 V (bi .gtr 3 t22 (.int .i64 0)) w fun t23 w =>
 ∀ K0 : List Value → World → Prop, (∀ t32, ∀ w, (∀ g : Env,
 CondW t32
 (V (Builtin.len_ #[45] 3 #[t5]) w fun t35 w =>
 V (bi .sub 3 t35 (.int .i64 1)) w fun t36 w =>
 V (sl 45 t5 none (some t36) none) w fun t37 w =>
 I0 [t37] w ∧ M0 [t37] w < m0)
 (V (fa 102 t3 0) w fun t38 w =>
 V (ld 9 t38) w fun t39 w =>
 V (Builtin.len_ #[45] 3 #[t5]) w fun t41 w =>
 ∃ (I1 : List Value → World → Prop) (M1 : List Value → World → Nat), I1 [t39, (.int .i64 0)] w ∧ ∀ g : Env, ∀ t6, ∀ t42, ∀ w, I1 [t6, t42] w → ∀ m1, m1 = M1 [t6, t42] w →
 V (bi .lss 3 t42 t41) w fun t43 w =>
 CondW t43
 (V (ia 45 t5 t42) w fun t44 w =>
 V (ld 3 t44) w fun t45 w =>
 CV (.func (.func 187) #[] #[]) #[t45] w fun t48 w =>
 V (bs 22 2 #[(0, t6), (1, t48)]) w fun t49 w =>
 CV (.func (.func 126) #[] #[]) #[t49] w fun t50 w =>
 V (bi .add 3 t42 (.int .i64 1)) w fun t51 w =>
 I1 [t50, t51] w ∧ M1 [t50, t51] w < m1)
 (R t6 w))) → K0 [t32] w) →
 CondW t23
 (V (Builtin.len_ #[45] 3 #[t5]) w fun t27 w =>
 V (bi .sub 3 t27 (.int .i64 1)) w fun t28 w =>
 V (ia 45 t5 t28) w fun t29 w =>
 V (ld 3 t29) w fun t30 w =>
 V (eq .eql 3 (.tmp 30) (.const (.int .i64 0)) t30 (.int .i64 0)) w fun t31 w =>
 K0 [t31] w)
 (K0 [(.bool false)] w)
theorem en131 (h : vc131 R w t0) : Calls Tryz.prog 131 #[t0] w (retK R) := calls_of_enter mixed Tryz.func131 (by kernel_rfl) (Eq.mpr (by kernel_rfl : enterW Tryz.prog Tryz.f131 an131 [t0] w R = vc131 R w t0) h)
def an132 : Ann := (.seq (oD 1) (.seq (.draw (tkN 0 3 (.hold 3 (tkN 5 3 (.hold 8 (.take 9 (.alts (.eff 4 (.alts (.eff 10 (.take 11 .done) .nil)) .nil)))))))) .leaf))
def vc132 (R : Value → World → Prop) (w : World) (t0 : Value) : Prop :=
 Dr w fun w =>
 NilW t0 fun t4 => PV (fa 199 t4 1) fun t5 =>
 HV (ld 55 t5) w fun t6 =>
 NilW t0 fun t9 => PV (fa 199 t9 1) fun t10 =>
 HV (ld 55 t10) w fun t11 =>
 PV (Builtin.len_ #[55] 3 #[t11]) fun t12 =>
 V (Builtin.unsafeSliceData_ #[55] 261 #[t6]) w fun t7 w =>
 RunIs (ld 55 t10) w t11 ∧ (V (Builtin.unsafeString_ #[261, 3] 9 #[t7, t12]) w fun t13 w =>
 RunIs (ld 55 t10) w t11 ∧ (R t13 w))
theorem en132 (h : vc132 R w t0) : Calls Tryz.prog 132 #[t0] w (retK R) := calls_of_enter mixed Tryz.func132 (by kernel_rfl) (Eq.mpr (by kernel_rfl : enterW Tryz.prog Tryz.f132 an132 [t0] w R = vc132 R w t0) h)
def an134 : Ann := (.seq (oD 3) (.seq (oD 9) .leaf))
def vc134 (R : Value → World → Prop) (w : World) (t0 t1 : Value) : Prop :=
 CV (.func (.func 191) #[] #[]) #[t0, t1] w fun t9 w =>
 V (ex t9 0) w fun t10 w =>
 V (ex t9 1) w fun t11 w =>
 V (ex t9 2) w fun t12 w =>
 R (.tuple #[t10, t11, t12]) w
theorem en134 (h : vc134 R w t0 t1) : Calls Tryz.prog 134 #[t0, t1] w (retK R) := calls_of_enter mixed Tryz.func134 (by kernel_rfl) (Eq.mpr (by kernel_rfl : enterW Tryz.prog Tryz.f134 an134 [t0, t1] w R = vc134 R w t0 t1) h)
def an137 : Ann := (.seq (oD 1) (.seq (oD 4) .leaf))
def vc137 (R : Value → World → Prop) (w : World) (t0 : Value) : Prop :=
 V (Builtin.len_ #[9] 3 #[t0]) w fun t4 w =>
 V (bi .leq 3 t4 (.int .i64 1000)) w fun t5 w =>
 R t5 w
theorem en137 (h : vc137 R w t0) : Calls Tryz.prog 137 #[t0] w (retK R) := calls_of_enter mixed Tryz.func137 (by kernel_rfl) (Eq.mpr (by kernel_rfl : enterW Tryz.prog Tryz.f137 an137 [t0] w R = vc137 R w t0) h)
def an138 : Ann := (.seq (oD 2) (.seq (oD 5) .leaf))
def vc138 (R : Value → World → Prop) (w : World) (t0 t1 : Value) : Prop :=
 V (bx 224 t1) w fun t3 w =>
 CV (.func (.func 206) #[] #[]) #[t0, (.func (.func 207) #[] #[t3])] w fun t7 w =>
 V (un .not t7) w fun t8 w =>
 R t8 w
theorem en138 (h : vc138 R w t0 t1) : Calls Tryz.prog 138 #[t0, t1] w (retK R) := calls_of_enter mixed Tryz.func138 (by kernel_rfl) (Eq.mpr (by kernel_rfl : enterW Tryz.prog Tryz.f138 an138 [t0, t1] w R = vc138 R w t0 t1) h)
def an139 : Ann := (.seq (oD 1) (.seq (.reg (opn 4 (.join [11] [8, 9, 10, 11] (.split 7 (opn 4 .done) (opn 4 .done)) (opn 1 .done)))) .leaf))
def vc139 (R : Value → World → Prop) (w : World) (t0 t1 : Value) : Prop :=
 V (Builtin.len_ #[93] 3 #[t0]) w fun t5 w =>
 V (bi .leq 3 t5 (.int .i64 100)) w fun t6 w =>
 ∀ K0 : List Value → World → Prop, (∀ t11, ∀ w, (∀ g : Env,
 R t11 w) → K0 [t11] w) →
 CondW t6
 (CV (.func (.func 140) #[] #[]) #[t0, (.func (.func 141) #[] #[t1])] w fun t10 w =>
 K0 [t10] w)
 (K0 [(.bool false)] w)
theorem en139 (h : vc139 R w t0 t1) : Calls Tryz.prog 139 #[t0, t1] w (retK R) := calls_of_enter mixed Tryz.func139 (by kernel_rfl) (Eq.mpr (by kernel_rfl : enterW Tryz.prog Tryz.f139 an139 [t0, t1] w R = vc139 R w t0 t1) h)
def an140 : Ann := (.seq (oD 2) (.seq (oD 5) .leaf))
def vc140 (R : Value → World → Prop) (w : World) (t0 t1 : Value) : Prop :=
 V (bx 223 t1) w fun t3 w =>
 CV (.func (.func 208) #[] #[]) #[t0, (.func (.func 209) #[] #[t3])] w fun t7 w =>
 V (un .not t7) w fun t8 w =>
 R t8 w
theorem en140 (h : vc140 R w t0 t1) : Calls Tryz.prog 140 #[t0, t1] w (retK R) := calls_of_enter mixed Tryz.func140 (by kernel_rfl) (Eq.mpr (by kernel_rfl : enterW Tryz.prog Tryz.f140 an140 [t0, t1] w R = vc140 R w t0 t1) h)
def an141 : Ann := (.seq (oD 2) (.seq (oD 5) .leaf))
def vc141 (R : Value → World → Prop) (w : World) (t0 t1 : Value) : Prop :=
 V (bx 95 t0) w fun t2 w =>
 V (ld 215 t1) w fun t4 w =>
 V (fa 95 t2 1) w fun t5 w =>
 V (ld 9 t5) w fun t6 w =>
 CV t4 #[t6] w fun t7 w =>
 R t7 w
theorem en141 (h : vc141 R w t0 t1) : Calls Tryz.prog 141 #[t0, t1] w (retK R) := calls_of_enter mixed Tryz.func141 (by kernel_rfl) (Eq.mpr (by kernel_rfl : enterW Tryz.prog Tryz.f141 an141 [t0, t1] w R = vc141 R w t0 t1) h)
def an142 : Ann := (.seq (oD 2) (.seq (oD 5) .leaf))
def vc142 (R : Value → World → Prop) (w : World) (t0 t1 : Value) : Prop :=
 V (bx 215 t1) w fun t3 w =>
 CV (.func (.func 210) #[] #[]) #[t0, (.func (.func 211) #[] #[t3])] w fun t7 w =>
 V (un .not t7) w fun t8 w =>
 R t8 w
theorem en142 (h : vc142 R w t0 t1) : Calls Tryz.prog 142 #[t0, t1] w (retK R) := calls_of_enter mixed Tryz.func142 (by kernel_rfl) (Eq.mpr (by kernel_rfl : enterW Tryz.prog Tryz.f142 an142 [t0, t1] w R = vc142 R w t0 t1) h)
def an143 : Ann := (.seq (oD 2) (.seq (oD 5) .leaf))
def vc143 (R : Value → World → Prop) (w : World) (t0 t1 : Value) : Prop :=
 V (bx 227 t1) w fun t3 w =>
 CV (.func (.func 212) #[] #[]) #[t0, (.func (.func 213) #[] #[t3])] w fun t7 w =>
 V (un .not t7) w fun t8 w =>
 R t8 w
theorem en143 (h : vc143 R w t0 t1) : Calls Tryz.prog 143 #[t0, t1] w (retK R) := calls_of_enter mixed Tryz.func143 (by kernel_rfl) (Eq.mpr (by kernel_rfl : enterW Tryz.prog Tryz.f143 an143 [t0, t1] w R = vc143 R w t0 t1) h)
def an144 : Ann := (.seq (oD 1) (.seq (oD 4) .leaf))
def vc144 (R : Value → World → Prop) (w : World) (t0 : Value) : Prop :=
 V (Builtin.len_ #[96] 3 #[t0]) w fun t4 w =>
 V (bi .leq 3 t4 (.int .i64 10000)) w fun t5 w =>
 R t5 w
theorem en144 (h : vc144 R w t0) : Calls Tryz.prog 144 #[t0] w (retK R) := calls_of_enter mixed Tryz.func144 (by kernel_rfl) (Eq.mpr (by kernel_rfl : enterW Tryz.prog Tryz.f144 an144 [t0] w R = vc144 R w t0) h)
def an145 : Ann := (.seq (oD 2) (.seq (oD 5) .leaf))
def vc145 (R : Value → World → Prop) (w : World) (t0 t1 : Value) : Prop :=
 V (bx 144 t1) w fun t3 w =>
 CV (.func (.func 214) #[] #[]) #[t0, (.func (.func 215) #[] #[t3])] w fun t7 w =>
 V (un .not t7) w fun t8 w =>
 R t8 w
theorem en145 (h : vc145 R w t0 t1) : Calls Tryz.prog 145 #[t0, t1] w (retK R) := calls_of_enter mixed Tryz.func145 (by kernel_rfl) (Eq.mpr (by kernel_rfl : enterW Tryz.prog Tryz.f145 an145 [t0, t1] w R = vc145 R w t0 t1) h)
def an146 : Ann := (.seq (oD 2) (.seq (oD 5) .leaf))
def vc146 (R : Value → World → Prop) (w : World) (t0 t1 : Value) : Prop :=
 V (bx 54 t0) w fun t2 w =>
 V (ld 215 t1) w fun t4 w =>
 V (fa 54 t2 0) w fun t5 w =>
 V (ld 9 t5) w fun t6 w =>
 CV t4 #[t6] w fun t7 w =>
 R t7 w
theorem en146 (h : vc146 R w t0 t1) : Calls Tryz.prog 146 #[t0, t1] w (retK R) := calls_of_enter mixed Tryz.func146 (by kernel_rfl) (Eq.mpr (by kernel_rfl : enterW Tryz.prog Tryz.f146 an146 [t0, t1] w R = vc146 R w t0 t1) h)
def an147 : Ann := (.seq (oD 1) (.seq (.reg (opn 4 (.join [10] [7, 8, 9, 10] (.split 6 (opn 4 .done) (opn 4 .done)) (opn 1 .done)))) .leaf))
def vc147 (R : Value → World → Prop) (w : World) (t0 : Value) : Prop :=
 V (Builtin.len_ #[9] 3 #[t0]) w fun t4 w =>
 V (bi .leq 3 t4 (.int .i64 1000)) w fun t5 w =>
 ∀ K0 : List Value → World → Prop, (∀ t10, ∀ w, (∀ g : Env,
 R t10 w) → K0 [t10] w) →
 CondW t5
 (V (cv 9 55 t0) w fun t8 w =>
 CV (.func (.func 216) #[] #[]) #[t8, (.func (.func 217) #[] #[])] w fun t9 w =>
 K0 [t9] w)
 (K0 [(.bool false)] w)
theorem en147 (h : vc147 R w t0) : Calls Tryz.prog 147 #[t0] w (retK R) := calls_of_enter mixed Tryz.func147 (by kernel_rfl) (Eq.mpr (by kernel_rfl : enterW Tryz.prog Tryz.f147 an147 [t0] w R = vc147 R w t0) h)
def an148 : Ann := (.seq (oD 1) (.seq (oD 3) .leaf))
def vc148 (R : Value → World → Prop) (w : World) (t0 : Value) : Prop :=
 CV (.func (.func 140) #[] #[]) #[t0, (.func (.func 149) #[] #[])] w fun t4 w =>
 R t4 w
theorem en148 (h : vc148 R w t0) : Calls Tryz.prog 148 #[t0] w (retK R) := calls_of_enter mixed Tryz.func148 (by kernel_rfl) (Eq.mpr (by kernel_rfl : enterW Tryz.prog Tryz.f148 an148 [t0] w R = vc148 R w t0) h)
def an149 : Ann := (.seq (oD 2) (.seq (.seq (oD 2) (.one (.seq (oD 2) (.cond (.seq (.reg (opn 4 (.join [14] [11, 12, 13, 14] (.split 10 (opn 4 .done) (opn 4 .done)) (opn 1 .done)))) .leaf) (.seq (oD 2) (.cond (.seq (.reg (opn 4 (.join [24] [21, 22, 23, 24] (.split 20 (opn 4 .done) (opn 4 .done)) (opn 1 .done)))) .leaf) (.seqJ [25] [26, 25, 27, 28, 29] (.seq (oD 2) (.cond .leaf (.seq (oD 2) (.cond .leaf (.seq (oD 2) (.cond .leaf (oD 2))))))) (.cond (.seq (.reg (opn 5 (.join [38] [35, 36, 37, 38] (.split 34 (opn 4 .done) (opn 4 .done)) (opn 1 .done)))) .leaf) (.seqJ [39] [40, 39, 41, 42] (.seq (oD 2) (.cond .leaf (.seq (oD 2) (.cond .leaf (oD 2))))) (.cond (.seq (.reg (opn 4 (.join [50] [47, 48, 49, 50] (.split 46 (opn 4 .done) (opn 4 .done)) (opn 1 .done)))) .leaf) (.seqJ [51] [52, 51, 53] (.seq (oD 2) (.cond .leaf (oD 2))) (.cond (.seq (.reg (opn 4 (.join [61] [58, 59, 60, 61] (.split 57 (opn 4 .done) (opn 4 .done)) (opn 1 .done)))) .leaf) .leaf)))))))))))) (.seq (oD 1) .leaf)))
def vc149 (R : Value → World → Prop) (w : World) (t0 : Value) : Prop :=
 V (bx 95 t0) w fun t1 w =>
 V (fa 95 t1 0) w fun t3 w =>
 V (ld 3 t3) w fun t4 w =>
 V (eq .eql 3 (.tmp 4) (.const (.int .i64 1)) t4 (.int .i64 1)) w fun t6 w =>
 CondW t6
 (V (fa 95 t1 1) w fun t7 w =>
 V (ld 9 t7) w fun t8 w =>
 CV (.func (.func 153) #[] #[]) #[t8] w fun t9 w =>
 ∀ K0 : List Value → World → Prop, (∀ t14, ∀ w, (∀ g : Env,
 R t14 w) → K0 [t14] w) →
 CondW t9
 (V (fa 95 t1 2) w fun t11 w =>
 V (ld 3 t11) w fun t12 w =>
 V (eq .eql 3 (.tmp 12) (.const (.int .i64 0)) t12 (.int .i64 0)) w fun t13 w =>
 K0 [t13] w)
 (K0 [(.bool false)] w))
 (V (eq .eql 3 (.tmp 4) (.const (.int .i64 3)) t4 (.int .i64 3)) w fun t16 w =>
 CondW t16
 (V (fa 95 t1 1) w fun t17 w =>
 V (ld 9 t17) w fun t18 w =>
 CV (.func (.func 147) #[] #[]) #[t18] w fun t19 w =>
 ∀ K0 : List Value → World → Prop, (∀ t24, ∀ w, (∀ g : Env,
 R t24 w) → K0 [t24] w) →
 CondW t19
 (V (fa 95 t1 2) w fun t21 w =>
 V (ld 3 t21) w fun t22 w =>
 V (eq .eql 3 (.tmp 22) (.const (.int .i64 0)) t22 (.int .i64 0)) w fun t23 w =>
 K0 [t23] w)
 (K0 [(.bool false)] w))
 (∀ K0 : List Value → World → Prop, (∀ t25, ∀ w, (∀ g : Env,
 CondW t25
 (V (fa 95 t1 1) w fun t30 w =>
 V (ld 9 t30) w fun t31 w =>
 CV (.func (.func 156) #[] #[]) #[t31] w fun t32 w =>
 V (eq .eql 3 (.tmp 32) (.const (.int .i64 2)) t32 (.int .i64 2)) w fun t33 w =>
 ∀ K0 : List Value → World → Prop, (∀ t38, ∀ w, (∀ g : Env,
 R t38 w) → K0 [t38] w) →
 CondW t33
 (V (fa 95 t1 2) w fun t35 w =>
 V (ld 3 t35) w fun t36 w =>
 V (eq .eql 3 (.tmp 36) (.const (.int .i64 0)) t36 (.int .i64 0)) w fun t37 w =>
 K0 [t37] w)
 (K0 [(.bool false)] w))
 (∀ K0 : List Value → World → Prop, (∀ t39, ∀ w, (∀ g : Env,
 CondW t39
 (V (fa 95 t1 1) w fun t43 w =>
 V (ld 9 t43) w fun t44 w =>
 V (eq .eql 9 (.tmp 44) (.const (.string ⟨#[]⟩)) t44 (.string ⟨#[]⟩)) w fun t45 w =>
 ∀ K0 : List Value → World → Prop, (∀ t50, ∀ w, (∀ g : Env,
 R t50 w) → K0 [t50] w) →
 CondW t45
 (V (fa 95 t1 2) w fun t47 w =>
 V (ld 3 t47) w fun t48 w =>
 CV (.func (.func 75) #[] #[]) #[t48, (.int .i64 0), (.int .i64 999999999)] w fun t49 w =>
 K0 [t49] w)
 (K0 [(.bool false)] w))
 (∀ K0 : List Value → World → Prop, (∀ t51, ∀ w, (∀ g : Env,
 CondW t51
 (V (fa 95 t1 1) w fun t54 w =>
 V (ld 9 t54) w fun t55 w =>
 V (eq .eql 9 (.tmp 55) (.const (.string ⟨#[]⟩)) t55 (.string ⟨#[]⟩)) w fun t56 w =>
 ∀ K0 : List Value → World → Prop, (∀ t61, ∀ w, (∀ g : Env,
 R t61 w) → K0 [t61] w) →
 CondW t56
 (V (fa 95 t1 2) w fun t58 w =>
 V (ld 3 t58) w fun t59 w =>
 V (eq .eql 3 (.tmp 59) (.const (.int .i64 0)) t59 (.int .i64 0)) w fun t60 w =>
 K0 [t60] w)
 (K0 [(.bool false)] w))
 (R (.bool false) w)) → K0 [t51] w) →
 V (eq .eql 3 (.tmp 4) (.const (.int .i64 2)) t4 (.int .i64 2)) w fun t52 w =>
 CondW t52
 (K0 [t52] w)
 (V (eq .eql 3 (.tmp 4) (.const (.int .i64 11)) t4 (.int .i64 11)) w fun t53 w =>
 K0 [t53] w))) → K0 [t39] w) →
 V (eq .eql 3 (.tmp 4) (.const (.int .i64 5)) t4 (.int .i64 5)) w fun t40 w =>
 CondW t40
 (K0 [t40] w)
 (V (eq .eql 3 (.tmp 4) (.const (.int .i64 6)) t4 (.int .i64 6)) w fun t41 w =>
 CondW t41
 (K0 [t41] w)
 (V (eq .eql 3 (.tmp 4) (.const (.int .i64 7)) t4 (.int .i64 7)) w fun t42 w =>
 K0 [t42] w)))) → K0 [t25] w) →
 V (eq .eql 3 (.tmp 4) (.const (.int .i64 4)) t4 (.int .i64 4)) w fun t26 w =>
 CondW t26
 (K0 [t26] w)
 (V (eq .eql 3 (.tmp 4) (.const (.int .i64 8)) t4 (.int .i64 8)) w fun t27 w =>
 CondW t27
 (K0 [t27] w)
 (V (eq .eql 3 (.tmp 4) (.const (.int .i64 9)) t4 (.int .i64 9)) w fun t28 w =>
 CondW t28
 (K0 [t28] w)
 (V (eq .eql 3 (.tmp 4) (.const (.int .i64 10)) t4 (.int .i64 10)) w fun t29 w =>
 K0 [t29] w)))))
theorem en149 (h : vc149 R w t0) : Calls Tryz.prog 149 #[t0] w (retK R) := calls_of_enter mixed Tryz.func149 (by kernel_rfl) (Eq.mpr (by kernel_rfl : enterW Tryz.prog Tryz.f149 an149 [t0] w R = vc149 R w t0) h)
def an150 : Ann := (.seq (oD 1) (.seq (.reg (opn 4 (.join [9] [7, 8, 9] (.split 6 (opn 3 .done) (opn 3 .done)) (opn 1 .done)))) .leaf))
def vc150 (R : Value → World → Prop) (w : World) (t0 : Value) : Prop :=
 V (Builtin.len_ #[96] 3 #[t0]) w fun t4 w =>
 V (bi .gtr 3 t4 (.int .i64 0)) w fun t5 w =>
 ∀ K0 : List Value → World → Prop, (∀ t9, ∀ w, (∀ g : Env,
 R t9 w) → K0 [t9] w) →
 CondW t5
 (CV (.func (.func 151) #[] #[]) #[t0, (.func (.func 152) #[] #[])] w fun t8 w =>
 K0 [t8] w)
 (K0 [(.bool false)] w)
theorem en150 (h : vc150 R w t0) : Calls Tryz.prog 150 #[t0] w (retK R) := calls_of_enter mixed Tryz.func150 (by kernel_rfl) (Eq.mpr (by kernel_rfl : enterW Tryz.prog Tryz.f150 an150 [t0] w R = vc150 R w t0) h)
def an151 : Ann := (.seq (oD 2) (.seq (oD 5) .leaf))
def vc151 (R : Value → World → Prop) (w : World) (t0 t1 : Value) : Prop :=
 V (bx 230 t1) w fun t3 w =>
 CV (.func (.func 218) #[] #[]) #[t0, (.func (.func 219) #[] #[t3])] w fun t7 w =>
 V (un .not t7) w fun t8 w =>
 R t8 w
theorem en151 (h : vc151 R w t0 t1) : Calls Tryz.prog 151 #[t0, t1] w (retK R) := calls_of_enter mixed Tryz.func151 (by kernel_rfl) (Eq.mpr (by kernel_rfl : enterW Tryz.prog Tryz.f151 an151 [t0, t1] w R = vc151 R w t0 t1) h)
def an152 : Ann := (.seq (oD 2) (.seq (oD 4) .leaf))
def vc152 (R : Value → World → Prop) (w : World) (t0 : Value) : Prop :=
 V (bx 98 t0) w fun t1 w =>
 V (fa 98 t1 0) w fun t3 w =>
 V (ld 9 t3) w fun t4 w =>
 CV (.func (.func 153) #[] #[]) #[t4] w fun t5 w =>
 R t5 w
theorem en152 (h : vc152 R w t0) : Calls Tryz.prog 152 #[t0] w (retK R) := calls_of_enter mixed Tryz.func152 (by kernel_rfl) (Eq.mpr (by kernel_rfl : enterW Tryz.prog Tryz.f152 an152 [t0] w R = vc152 R w t0) h)
def an153 : Ann := (.seq (oD 1) (.seq (oD 4) .leaf))
def vc153 (R : Value → World → Prop) (w : World) (t0 : Value) : Prop :=
 CV (.func (.func 156) #[] #[]) #[t0] w fun t4 w =>
 V (bi .gtr 3 t4 (.int .i64 1)) w fun t5 w =>
 R t5 w
theorem en153 (h : vc153 R w t0) : Calls Tryz.prog 153 #[t0] w (retK R) := calls_of_enter mixed Tryz.func153 (by kernel_rfl) (Eq.mpr (by kernel_rfl : enterW Tryz.prog Tryz.f153 an153 [t0] w R = vc153 R w t0) h)
def an154 : Ann := (.seq (oD 2) (.seq (.reg (opn 4 (.join [18] (rgN 10 9) (.split 9 (opn 9 .done) (opn 9 .done)) (opn 1 .done)))) (.seq (oD 5) (.seq (oD 2) .leaf))))
def vc154 (R : Value → World → Prop) (w : World) (t0 t1 t2 : Value) : Prop :=
 V (bx 54 t0) w fun t3 w =>
 V (fa 54 t3 0) w fun t6 w =>
 V (ld 9 t6) w fun t7 w =>
 CV (.func (.func 147) #[] #[]) #[t7] w fun t8 w =>
 ∀ K0 : List Value → World → Prop, (∀ t18, ∀ w, (∀ g : Env,
 V (ld 3 t1) w fun t19 w =>
 V (fa 54 t3 1) w fun t20 w =>
 V (ld 3 t20) w fun t21 w =>
 V (Builtin.max_ #[3, 3] 3 #[t19, t21]) w fun t22 w =>
 U (st 3 t1 t22) w fun w =>
 R t18 w) → K0 [t18] w) →
 CondW t8
 (V (fa 54 t3 1) w fun t10 w =>
 V (ld 3 t10) w fun t11 w =>
 V (ld 3 t1) w fun t12 w =>
 V (fa 28 t2 5) w fun t13 w =>
 V (ld 26 t13) w fun t14 w =>
 V (Builtin.len_ #[26] 3 #[t14]) w fun t15 w =>
 V (bi .sub 3 t15 (.int .i64 1)) w fun t16 w =>
 CV (.func (.func 75) #[] #[]) #[t11, t12, t16] w fun t17 w =>
 K0 [t17] w)
 (K0 [(.bool false)] w)
theorem en154 (h : vc154 R w t0 t1 t2) : Calls Tryz.prog 154 #[t0, t1, t2] w (retK R) := calls_of_enter mixed Tryz.func154 (by kernel_rfl) (Eq.mpr (by kernel_rfl : enterW Tryz.prog Tryz.f154 an154 [t0, t1, t2] w R = vc154 R w t0 t1 t2) h)
def an155 : Ann := (.seq (oD 1) (.seq (.reg (opn 4 (.join [13] [9, 10, 11, 12, 13] (.split 8 (opn 5 .done) (opn 5 .done)) (opn 1 .done)))) (.seq (oD 3) (.seq (oD 2) .leaf))))
def vc155 (R : Value → World → Prop) (w : World) (t0 t1 : Value) : Prop :=
 CV (.func (.func 156) #[] #[]) #[t0] w fun t6 w =>
 V (eq .eql 3 (.tmp 6) (.const (.int .i64 2)) t6 (.int .i64 2)) w fun t7 w =>
 ∀ K0 : List Value → World → Prop, (∀ t13, ∀ w, (∀ g : Env,
 V (ld 231 t1) w fun t14 w =>
 U (mu 231 t14 t0 (.bool true)) w fun w =>
 R t13 w) → K0 [t13] w) →
 CondW t7
 (V (ld 231 t1) w fun t9 w =>
 V (lk 231 t9 t0 false) w fun t11 w =>
 V (un .not t11) w fun t12 w =>
 K0 [t12] w)
 (K0 [(.bool false)] w)
theorem en155 (h : vc155 R w t0 t1) : Calls Tryz.prog 155 #[t0, t1] w (retK R) := calls_of_enter mixed Tryz.func155 (by kernel_rfl) (Eq.mpr (by kernel_rfl : enterW Tryz.prog Tryz.f155 an155 [t0, t1] w R = vc155 R w t0 t1) h)
end
end Go.Proofs.YtbeelfopmkbllaaGreatDoor
