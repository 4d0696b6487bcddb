/- Texts joined: VCa. -/
import Derived.Test.YtbeelfopmkbllaaGreatDoorM0
import Derived.Test.YtbeelfopmkbllaaGreatDoorProg
set_option linter.unusedSimpArgs false
set_option linter.unusedVariables false
set_option linter.unusedSectionVars false
set_option maxRecDepth 100000
namespace Go.Proofs.YtbeelfopmkbllaaGreatDoor
section
open Go Q
def rgN : Nat → Nat → List Nat
  | _, 0 => []
  | a, n + 1 => a :: rgN (a + 1) n
def tkN : Nat → Nat → Plan → Plan
  | _, 0, p => p
  | a, n + 1, p => .take a (tkN (a + 1) n p)
def oD (n : Nat) : Ann := .reg (opn n .done)
variable {R : Value → World → Prop} {w : World} {t0 t1 t2 t3 t4 t5 t6 : Value}
def an5 : Ann := (.seq (oD 2) (.seq (oD 2) (.seq (.seq (oD 3) (.cond (.seq (oD 2) .leaf) .leaf)) (.seq (oD 10) (.seq (oD 7) (.seq (oD 10) (.seq (oD 4) (.seq (.seq (.reg (opn 3 (.join [54] [52, 53, 54] (.split 51 (opn 3 .done) (opn 3 .done)) (opn 1 (.join [58] [56, 57, 58] (.split 55 (opn 3 .done) (opn 3 .done)) (opn 1 (.join [62] [60, 61, 62] (.split 59 (opn 3 .done) (opn 3 .done)) (opn 1 (.join [70] (rgN 64 7) (.split 63 (opn 7 .done) (opn 7 .done)) (opn 1 (.join [79] (rgN 72 8) (.split 71 (opn 8 .done) (opn 8 .done)) .done))))))))))) (.cond (.seq (oD 1) .leaf) .leaf)) (.seq (oD 3) (.seq (oD 9) (.seq (oD 9) (.seq (oD 3) (.seq (.seq (.reg (opn 3 (.join [101] [99, 100, 101] (.split 98 (opn 3 .done) (opn 3 .done)) (opn 1 (.join [109] (rgN 103 7) (.split 102 (opn 7 .done) (opn 7 .done)) (opn 1 (.join [117] (rgN 111 7) (.split 110 (opn 7 .done) (opn 7 .done)) (opn 1 (.join [125] (rgN 119 7) (.split 118 (opn 7 .done) (opn 7 .done)) .done))))))))) (.cond (.seq (oD 1) .leaf) .leaf)) (.seq (oD 1) (.seq (.seq (oD 1) (.one (.loop [21, 22] ([126, 127, 128, 129, 130] ++ rgN 133 10 ++ [2] ++ rgN 143 57 ++ [21, 131, 132, 22]) (.seq (.seq (oD 5) (.cond .leaf .leaf)) (.seqJ [21] (rgN 133 10 ++ [2] ++ rgN 143 57 ++ [21]) (.one (.seq (.seq (.draw (tkN 0 3 (.hold 3 (tkN 4 4 (.hold 8 (.take 9 .done)))))) (.cond (.seq (oD 1) .leaf) .leaf)) (.seq (.seq (oD 5) (.cond .leaf .leaf)) (.seq (.seqJ [197] (rgN 148 50) (.draw (tkN 0 3 (.hold 3 (tkN 4 3 (.split 154 (tkN 7 43 .done) (tkN 7 3 (.hold 10 (tkN 11 3 (.split 161 (tkN 14 36 .done) (.take 14 (.hold 15 (tkN 16 3 (.hold 19 (.take 20 (.hold 21 (tkN 22 3 (.hold 25 (tkN 26 3 (.split 176 (tkN 29 21 .done) (tkN 29 3 (.hold 32 (tkN 33 3 (.hold 36 (tkN 37 3 (.split 187 (tkN 40 10 .done) (tkN 40 3 (.hold 43 (tkN 44 3 (.hold 47 (.take 48 (.take 49 .done))))))))))))))))))))))))))))))) (.cond (.seq (oD 1) .leaf) .leaf)) (oD 3))))) (oD 3)))))) (.seq (.seq (oD 1) (.one (.loop [23] ([200, 201, 202, 203, 204] ++ rgN 207 31 ++ [2, 205, 206, 23]) (.seq (.seq (oD 5) (.cond .leaf .leaf)) (.seq (.one (.seqJ [237] (rgN 207 31) (.draw (.take 0 (.hold 1 (tkN 2 3 (.hold 5 (.take 6 (.hold 7 (tkN 8 3 (.hold 11 (.take 12 (.take 13 (.split 220 (tkN 14 17 .done) (.take 14 (.hold 15 (tkN 16 3 (.hold 19 (.take 20 (.take 21 (.hold 22 (tkN 23 3 (.hold 26 (.take 27 (.hold 28 (.take 29 (.take 30 .done))))))))))))))))))))))))) (.cond (.seq (oD 1) .leaf) .leaf))) (oD 3)))))) (.seq (.reg (opn 2 (.join [245] (rgN 240 6) (.split 239 (opn 6 .done) (opn 6 .done)) (opn 1 .done)))) .leaf)))))))))))))))))
def vc5 (R : Value → World → Prop) (w : World) (t0 : Value) : Prop :=
 V (bx 28 t0) w fun t1 w =>
 CV (.func (.func 13) #[] #[]) #[] w fun t24 w =>
 V (ld 28 t1) w fun t25 w =>
 CV (.func (.func 19) #[] #[]) #[t25] w fun t26 w =>
 V (un .not t26) w fun t27 w =>
 CondW t27
 (R t24 w)
 (V (ld 28 t1) w fun t30 w =>
 CV (.func (.func 20) #[] #[]) #[t30] w fun t31 w =>
 V (ex t31 0) w fun t32 w =>
 V (ex t31 1) w fun t33 w =>
 V (ex t31 2) w fun t34 w =>
 V (al 28) w fun t4 w =>
 U (st 28 t4 t32) w fun w =>
 V (ld 28 t4) w fun t36 w =>
 CV (.func (.func 15) #[] #[]) #[t36] w fun t37 w =>
 V (ex t37 0) w fun t38 w =>
 V (ex t37 1) w fun t39 w =>
 V (ld 28 t4) w fun t41 w =>
 CV (.func (.func 20) #[] #[]) #[t41] w fun t42 w =>
 V (ex t42 0) w fun t43 w =>
 V (ex t42 1) w fun t44 w =>
 V (ex t42 2) w fun t45 w =>
 V (al 28) w fun t9 w =>
 U (st 28 t9 t43) w fun w =>
 V (ld 28 t4) w fun t46 w =>
 V (ld 28 t9) w fun t47 w =>
 CV (.func (.func 21) #[] #[]) #[t46, t47] w fun t48 w =>
 V (eq .neq 31 (.tmp 49) (.const (.int .i64 0)) t34 (.int .i64 0)) w fun t50 w =>
 ∀ K0 : List Value → World → Prop, (∀ t54, ∀ w, (∀ g : Env,
 ∀ K0 : List Value → World → Prop, (∀ t58, ∀ w, (∀ g : Env,
 ∀ K0 : List Value → World → Prop, (∀ t62, ∀ w, (∀ g : Env,
 ∀ K0 : List Value → World → Prop, (∀ t70, ∀ w, (∀ g : Env,
 ∀ K0 : List Value → World → Prop, (∀ t79, ∀ w, (∀ g : Env,
 CondW t79
 (R (.bool false) w)
 (V (ld 28 t4) w fun t80 w =>
 CV (.func (.func 22) #[] #[]) #[t80] w fun t81 w =>
 V (ld 28 t1) w fun t83 w =>
 CV (.func (.func 23) #[] #[]) #[t83] w fun t84 w =>
 V (ex t84 0) w fun t85 w =>
 V (ex t84 1) w fun t86 w =>
 V (ex t84 2) w fun t87 w =>
 V (ld 28 t4) w fun t89 w =>
 CV (.func (.func 23) #[] #[]) #[t89] w fun t90 w =>
 V (ex t90 0) w fun t91 w =>
 V (ex t90 1) w fun t92 w =>
 V (ex t90 2) w fun t93 w =>
 V (ld 28 t1) w fun t94 w =>
 CV (.func (.func 22) #[] #[]) #[t94] w fun t95 w =>
 V (eq .neq 31 (.tmp 96) (.const (.int .i64 0)) t87 (.int .i64 0)) w fun t97 w =>
 ∀ K0 : List Value → World → Prop, (∀ t101, ∀ w, (∀ g : Env,
 ∀ K0 : List Value → World → Prop, (∀ t109, ∀ w, (∀ g : Env,
 ∀ K0 : List Value → World → Prop, (∀ t117, ∀ w, (∀ g : Env,
 ∀ K0 : List Value → World → Prop, (∀ t125, ∀ w, (∀ g : Env,
 CondW t125
 (R (.bool false) w)
 (∃ (I0 : List Value → World → Prop) (M0 : List Value → World → Nat), I0 [(.int .i64 0), (.int .i64 0)] w ∧ ∀ g : Env, ∀ t21, ∀ t22, ∀ w, I0 [t21, t22] w → ∀ m0, m0 = M0 [t21, t22] w →
 V (fa 28 t1 5) w fun t127 w =>
 V (ld 26 t127) w fun t128 w =>
 V (Builtin.len_ #[26] 3 #[t128]) w fun t129 w =>
 V (bi .lss 3 t22 t129) w fun t130 w =>
 CondW t130
 (∀ K0 : List Value → World → Prop, (∀ t21a, ∀ w, (∀ g : Env,
 V (bi .add 3 t22 (.int .i64 1)) w fun t132 w =>
 I0 [t21a, t132] w ∧ M0 [t21a, t132] w < m0) → K0 [t21a] w) →
 Dr w fun w =>
 PV (ia 45 t33 t22) fun t135 =>
 HV (ld 3 t135) w fun t136 =>
 PV (bi .geq 3 t136 (.int .i64 0)) fun t137 =>
 PV (ia 49 t95 t22) fun t140 =>
 HV (ld 4 t140) w fun t141 =>
 PV (eq .neq 4 (.tmp 137) (.tmp 141) t137 t141) fun t142 =>
 CondW t142
 (R (.bool false) w)
 (V (ia 45 t33 t22) w fun t145 w =>
 V (ld 3 t145) w fun t146 w =>
 V (bi .lss 3 t146 (.int .i64 0)) w fun t147 w =>
 CondW t147
 (K0 [t21] w)
 (∀ K1 : List Value → World → Prop, (∀ t197, ∀ w, (∀ g : Env,
 CondW t197
 (R (.bool false) w)
 (V (bi .add 3 t21 (.int .i64 1)) w fun t199 w =>
 K0 [t199] w)) → K1 [t197] w) →
 Dr w fun w =>
 PV (ia 45 t33 t22) fun t150 =>
 HV (ld 3 t150) w fun t151 =>
 PV (eq .neq 3 (.tmp 151) (.tmp 152) t151 t21) fun t153 =>
 CondW t153
 (K1 [(.bool true)] w)
 (PV (ia 49 t81 t21) fun t157 =>
 HV (ld 4 t157) w fun t158 =>
 PV (un .not t158) fun t159 =>
 CondW t159
 (K1 [(.bool true)] w)
 (PV (fa 28 t4 5) fun t162 =>
 HV (ld 26 t162) w fun t163 =>
 PV (ia 26 t163 t21) fun t165 =>
 PV (fa 38 t165 0) fun t166 =>
 HV (ld 3 t166) w fun t167 =>
 PV (fa 28 t1 5) fun t168 =>
 HV (ld 26 t168) w fun t169 =>
 PV (ia 26 t169 t22) fun t171 =>
 PV (fa 38 t171 0) fun t172 =>
 HV (ld 3 t172) w fun t173 =>
 PV (eq .neq 3 (.tmp 167) (.tmp 173) t167 t173) fun t174 =>
 CondW t174
 (K1 [(.bool true)] w)
 (PV (ia 45 t85 t22) fun t179 =>
 HV (ld 3 t179) w fun t180 =>
 PV (ia 45 t91 t21) fun t183 =>
 HV (ld 3 t183) w fun t184 =>
 PV (eq .neq 3 (.tmp 180) (.tmp 184) t180 t184) fun t185 =>
 CondW t185
 (K1 [(.bool true)] w)
 (PV (ia 45 t86 t22) fun t190 =>
 HV (ld 3 t190) w fun t191 =>
 PV (ia 45 t92 t21) fun t194 =>
 HV (ld 3 t194) w fun t195 =>
 PV (eq .neq 3 (.tmp 191) (.tmp 195) t191 t195) fun t196 =>
 K1 [t196] w)))))))
 (∃ (I1 : List Value → World → Prop) (M1 : List Value → World → Nat), I1 [(.int .i64 0)] w ∧ ∀ g : Env, ∀ t23, ∀ w, I1 [t23] w → ∀ m1, m1 = M1 [t23] w →
 V (fa 28 t1 3) w fun t201 w =>
 V (ld 25 t201) w fun t202 w =>
 V (Builtin.len_ #[25] 3 #[t202]) w fun t203 w =>
 V (bi .lss 3 t23 t203) w fun t204 w =>
 CondW t204
 (∀ K0 : List Value → World → Prop, (∀ t237, ∀ w, (∀ g : Env,
 CondW t237
 (R (.bool false) w)
 (V (bi .add 3 t23 (.int .i64 1)) w fun t206 w =>
 I1 [t206] w ∧ M1 [t206] w < m1)) → K0 [t237] w) →
 Dr w fun w =>
 PV (fa 28 t4 3) fun t207 =>
 HV (ld 25 t207) w fun t208 =>
 PV (ia 25 t208 t23) fun t210 =>
 PV (fa 54 t210 0) fun t211 =>
 HV (ld 9 t211) w fun t212 =>
 PV (fa 28 t1 3) fun t213 =>
 HV (ld 25 t213) w fun t214 =>
 PV (ia 25 t214 t23) fun t216 =>
 PV (fa 54 t216 0) fun t217 =>
 HV (ld 9 t217) w fun t218 =>
 PV (eq .neq 9 (.tmp 212) (.tmp 218) t212 t218) fun t219 =>
 CondW t219
 (K0 [(.bool true)] w)
 (PV (fa 28 t4 3) fun t221 =>
 HV (ld 25 t221) w fun t222 =>
 PV (ia 25 t222 t23) fun t224 =>
 PV (fa 54 t224 1) fun t225 =>
 HV (ld 3 t225) w fun t226 =>
 PV (fa 28 t1 3) fun t228 =>
 HV (ld 25 t228) w fun t229 =>
 PV (ia 25 t229 t23) fun t231 =>
 PV (fa 54 t231 1) fun t232 =>
 HV (ld 3 t232) w fun t233 =>
 PV (ia 45 t33 t233) fun t234 =>
 HV (ld 3 t234) w fun t235 =>
 PV (eq .neq 3 (.tmp 226) (.tmp 235) t226 t235) fun t236 =>
 K0 [t236] w))
 (∀ K0 : List Value → World → Prop, (∀ t245, ∀ w, (∀ g : Env,
 R t245 w) → K0 [t245] w) →
 CondW t24
 (V (fa 28 t4 5) w fun t241 w =>
 V (ld 26 t241) w fun t242 w =>
 V (Builtin.len_ #[26] 3 #[t242]) w fun t243 w =>
 V (eq .eql 3 (.tmp 240) (.tmp 243) t21 t243) w fun t244 w =>
 K0 [t244] w)
 (K0 [(.bool false)] w))))) → K0 [t125] w) →
 CondW t117
 (K0 [(.bool true)] w)
 (V (Builtin.len_ #[49] 3 #[t95]) w fun t120 w =>
 V (fa 28 t1 5) w fun t121 w =>
 V (ld 26 t121) w fun t122 w =>
 V (Builtin.len_ #[26] 3 #[t122]) w fun t123 w =>
 V (eq .neq 3 (.tmp 120) (.tmp 123) t120 t123) w fun t124 w =>
 K0 [t124] w)) → K0 [t117] w) →
 CondW t109
 (K0 [(.bool true)] w)
 (V (Builtin.len_ #[45] 3 #[t85]) w fun t112 w =>
 V (fa 28 t1 5) w fun t113 w =>
 V (ld 26 t113) w fun t114 w =>
 V (Builtin.len_ #[26] 3 #[t114]) w fun t115 w =>
 V (eq .neq 3 (.tmp 112) (.tmp 115) t112 t115) w fun t116 w =>
 K0 [t116] w)) → K0 [t109] w) →
 CondW t101
 (K0 [(.bool true)] w)
 (V (Builtin.len_ #[49] 3 #[t81]) w fun t104 w =>
 V (fa 28 t4 5) w fun t105 w =>
 V (ld 26 t105) w fun t106 w =>
 V (Builtin.len_ #[26] 3 #[t106]) w fun t107 w =>
 V (eq .neq 3 (.tmp 104) (.tmp 107) t104 t107) w fun t108 w =>
 K0 [t108] w)) → K0 [t101] w) →
 CondW t97
 (K0 [(.bool true)] w)
 (V (eq .neq 31 (.tmp 99) (.const (.int .i64 0)) t93 (.int .i64 0)) w fun t100 w =>
 K0 [t100] w))) → K0 [t79] w) →
 CondW t70
 (K0 [(.bool true)] w)
 (V (fa 28 t4 3) w fun t72 w =>
 V (ld 25 t72) w fun t73 w =>
 V (Builtin.len_ #[25] 3 #[t73]) w fun t74 w =>
 V (fa 28 t1 3) w fun t75 w =>
 V (ld 25 t75) w fun t76 w =>
 V (Builtin.len_ #[25] 3 #[t76]) w fun t77 w =>
 V (eq .neq 3 (.tmp 74) (.tmp 77) t74 t77) w fun t78 w =>
 K0 [t78] w)) → K0 [t70] w) →
 CondW t62
 (K0 [(.bool true)] w)
 (V (Builtin.len_ #[45] 3 #[t33]) w fun t65 w =>
 V (fa 28 t1 5) w fun t66 w =>
 V (ld 26 t66) w fun t67 w =>
 V (Builtin.len_ #[26] 3 #[t67]) w fun t68 w =>
 V (eq .neq 3 (.tmp 65) (.tmp 68) t65 t68) w fun t69 w =>
 K0 [t69] w)) → K0 [t62] w) →
 CondW t58
 (K0 [(.bool true)] w)
 (V (un .not t48) w fun t61 w =>
 K0 [t61] w)) → K0 [t58] w) →
 CondW t54
 (K0 [(.bool true)] w)
 (V (eq .neq 31 (.tmp 56) (.const (.int .i64 0)) t45 (.int .i64 0)) w fun t57 w =>
 K0 [t57] w)) → K0 [t54] w) →
 CondW t50
 (K0 [(.bool true)] w)
 (V (eq .neq 31 (.tmp 52) (.const (.int .i64 0)) t38 (.int .i64 0)) w fun t53 w =>
 K0 [t53] w))
theorem en5 (h : vc5 R w t0) : Calls Tryz.prog 5 #[t0] w (retK R) := calls_of_enter mixed Tryz.func5 (by kernel_rfl) (Eq.mpr (by kernel_rfl : enterW Tryz.prog Tryz.f5 an5 [t0] w R = vc5 R w t0) h)
def an13 : Ann := (.seq (oD 1) (.seq (oD 3) (.seq (oD 9) (.seq (oD 7) (.seq (oD 10) (.seq (oD 7) (.seq (oD 3) (.seq (.draw (.take 0 (.hold 1 (.alts (.eff 2 (.take 3 (.alts (.eff 4 .done .nil))) .nil))))) (.seq (oD 7) (.seq (oD 9) (.seq (oD 9) (.seq (.reg (opn 3 (.join [74] [71, 72, 73, 74] (.split 70 (opn 4 .done) (opn 4 .done)) (opn 1 (.join [79] [76, 77, 78, 79] (.split 75 (opn 4 .done) (opn 4 .done)) (opn 1 (.join [83] [81, 82, 83] (.split 80 (opn 3 .done) (opn 3 .done)) (opn 1 (.join [88] [85, 86, 87, 88] (.split 84 (opn 4 .done) (opn 4 .done)) (opn 1 (.join [93] [90, 91, 92, 93] (.split 89 (opn 4 .done) (opn 4 .done)) (opn 1 .done)))))))))))) (.seq (.reg (opn 3 (.join [101] [97, 98, 99, 100, 101] (.split 96 (opn 5 .done) (opn 5 .done)) (opn 1 (.join [105] [103, 104, 105] (.split 102 (opn 3 .done) (opn 3 .done)) (opn 1 (.join [110] [107, 108, 109, 110] (.split 106 (opn 4 .done) (opn 4 .done)) (opn 1 (.join [116] [112, 113, 114, 115, 116] (.split 111 (opn 5 .done) (opn 5 .done)) (opn 1 (.join [122] [118, 119, 120, 121, 122] (.split 117 (opn 5 .done) (opn 5 .done)) (opn 1 (.join [128] [124, 125, 126, 127, 128] (.split 123 (opn 5 .done) (opn 5 .done)) (opn 1 .done)))))))))))))) (.seq (.reg (opn 2 (.join [132] [131, 132] (.split 130 (opn 2 .done) (opn 2 .done)) (opn 1 (.join [136] [134, 135, 136] (.split 133 (opn 3 .done) (opn 3 .done)) (opn 1 (.join [140] [138, 139, 140] (.split 137 (opn 3 .done) (opn 3 .done)) (opn 1 (.join [144] [142, 143, 144] (.split 141 (opn 3 .done) (opn 3 .done)) (opn 1 (.join [148] [146, 147, 148] (.split 145 (opn 3 .done) (opn 3 .done)) (opn 1 (.join [152] [150, 151, 152] (.split 149 (opn 3 .done) (opn 3 .done)) (opn 1 .done)))))))))))))) .leaf))))))))))))))
def vc13 (R : Value → World → Prop) (w : World) : Prop :=
 CV (.func (.func 44) #[] #[]) #[] w fun t22 w =>
 V (al 28) w fun t1 w =>
 U (st 28 t1 t22) w fun w =>
 V (ld 28 t1) w fun t24 w =>
 CV (.func (.func 23) #[] #[]) #[t24] w fun t25 w =>
 V (ex t25 0) w fun t26 w =>
 V (ex t25 1) w fun t27 w =>
 V (ex t25 2) w fun t28 w =>
 V (ld 28 t1) w fun t30 w =>
 CV (.func (.func 40) #[] #[]) #[t30] w fun t31 w =>
 V (ex t31 0) w fun t32 w =>
 V (ex t31 1) w fun t33 w =>
 V (ld 28 t1) w fun t35 w =>
 CV (.func (.func 20) #[] #[]) #[t35] w fun t36 w =>
 V (ex t36 0) w fun t37 w =>
 V (ex t36 1) w fun t38 w =>
 V (ex t36 2) w fun t39 w =>
 V (al 28) w fun t7 w =>
 U (st 28 t7 t37) w fun w =>
 V (ld 28 t1) w fun t41 w =>
 CV (.func (.func 35) #[] #[]) #[t41] w fun t42 w =>
 V (ex t42 0) w fun t43 w =>
 V (ex t42 1) w fun t44 w =>
 CV (.func (.func 44) #[] #[]) #[] w fun t45 w =>
 V (al 28) w fun t12 w =>
 U (st 28 t12 t45) w fun w =>
 Dr w fun w =>
 PV (fa 28 t12 5) fun t46 =>
 HV (ld 26 t46) w fun t47 =>
 CV (.func (.func 45) #[] #[]) #[(.int .i64 39), (.int .i64 0), (.int .i64 0), (.int .i64 0)] w fun t48 w =>
 RunIs (ld 26 t46) w t47 ∧ (PV (ia 26 t47 (.int .i64 2)) fun t49 =>
 U (st 38 t49 t48) w fun w =>
 V (ld 28 t12) w fun t51 w =>
 CV (.func (.func 15) #[] #[]) #[t51] w fun t52 w =>
 V (ex t52 0) w fun t53 w =>
 V (ex t52 1) w fun t54 w =>
 CV (.func (.func 45) #[] #[]) #[(.int .i64 23), (.int .i64 0), (.int .i64 0), (.int .i64 0)] w fun t56 w =>
 V (bs 26 1 #[(0, t56)]) w fun t57 w =>
 V (bd 28 #[(5, t57)]) w fun t58 w =>
 CV (.func (.func 15) #[] #[]) #[t58] w fun t59 w =>
 V (ex t59 0) w fun t60 w =>
 V (ex t59 1) w fun t61 w =>
 CV (.func (.func 45) #[] #[]) #[(.int .i64 27), (.int .i64 0), (.int .i64 13), (.int .i64 0)] w fun t63 w =>
 CV (.func (.func 17) #[] #[]) #[t63] w fun t64 w =>
 V (ex t64 0) w fun t65 w =>
 V (ex t64 1) w fun t66 w =>
 V (ex t64 2) w fun t67 w =>
 V (eq .eql 31 (.tmp 68) (.const (.int .i64 0)) t28 (.int .i64 0)) w fun t69 w =>
 ∀ K0 : List Value → World → Prop, (∀ t74, ∀ w, (∀ g : Env,
 ∀ K0 : List Value → World → Prop, (∀ t79, ∀ w, (∀ g : Env,
 ∀ K0 : List Value → World → Prop, (∀ t83, ∀ w, (∀ g : Env,
 ∀ K0 : List Value → World → Prop, (∀ t88, ∀ w, (∀ g : Env,
 ∀ K0 : List Value → World → Prop, (∀ t93, ∀ w, (∀ g : Env,
 V (eq .eql 31 (.tmp 94) (.const (.int .i64 0)) t39 (.int .i64 0)) w fun t95 w =>
 ∀ K0 : List Value → World → Prop, (∀ t101, ∀ w, (∀ g : Env,
 ∀ K0 : List Value → World → Prop, (∀ t105, ∀ w, (∀ g : Env,
 ∀ K0 : List Value → World → Prop, (∀ t110, ∀ w, (∀ g : Env,
 ∀ K0 : List Value → World → Prop, (∀ t116, ∀ w, (∀ g : Env,
 ∀ K0 : List Value → World → Prop, (∀ t122, ∀ w, (∀ g : Env,
 ∀ K0 : List Value → World → Prop, (∀ t128, ∀ w, (∀ g : Env,
 ∀ K0 : List Value → World → Prop, (∀ t132, ∀ w, (∀ g : Env,
 ∀ K0 : List Value → World → Prop, (∀ t136, ∀ w, (∀ g : Env,
 ∀ K0 : List Value → World → Prop, (∀ t140, ∀ w, (∀ g : Env,
 ∀ K0 : List Value → World → Prop, (∀ t144, ∀ w, (∀ g : Env,
 ∀ K0 : List Value → World → Prop, (∀ t148, ∀ w, (∀ g : Env,
 ∀ K0 : List Value → World → Prop, (∀ t152, ∀ w, (∀ g : Env,
 R t152 w) → K0 [t152] w) →
 CondW t148
 (V (eq .eql 3 (.tmp 150) (.const (.int .i64 0)) t66 (.int .i64 0)) w fun t151 w =>
 K0 [t151] w)
 (K0 [(.bool false)] w)) → K0 [t148] w) →
 CondW t144
 (V (eq .eql 3 (.tmp 146) (.const (.int .i64 3)) t65 (.int .i64 3)) w fun t147 w =>
 K0 [t147] w)
 (K0 [(.bool false)] w)) → K0 [t144] w) →
 CondW t140
 (V (eq .eql 31 (.tmp 142) (.const (.int .i64 0)) t67 (.int .i64 0)) w fun t143 w =>
 K0 [t143] w)
 (K0 [(.bool false)] w)) → K0 [t140] w) →
 CondW t136
 (V (eq .eql 31 (.tmp 138) (.const (.int .i64 0)) t60 (.int .i64 0)) w fun t139 w =>
 K0 [t139] w)
 (K0 [(.bool false)] w)) → K0 [t136] w) →
 CondW t132
 (V (eq .eql 31 (.tmp 134) (.const (.int .i64 12)) t53 (.int .i64 12)) w fun t135 w =>
 K0 [t135] w)
 (K0 [(.bool false)] w)) → K0 [t132] w) →
 CondW t93
 (K0 [t128] w)
 (K0 [(.bool false)] w)) → K0 [t128] w) →
 CondW t122
 (V (ia 55 t43 (.int .i64 2)) w fun t125 w =>
 V (ld 5 t125) w fun t126 w =>
 V (eq .eql 5 (.tmp 126) (.const (.int .u8 10)) t126 (.int .u8 10)) w fun t127 w =>
 K0 [t127] w)
 (K0 [(.bool false)] w)) → K0 [t122] w) →
 CondW t116
 (V (ia 55 t43 (.int .i64 1)) w fun t119 w =>
 V (ld 5 t119) w fun t120 w =>
 V (eq .eql 5 (.tmp 120) (.const (.int .u8 6)) t120 (.int .u8 6)) w fun t121 w =>
 K0 [t121] w)
 (K0 [(.bool false)] w)) → K0 [t116] w) →
 CondW t110
 (V (ia 55 t43 (.int .i64 0)) w fun t113 w =>
 V (ld 5 t113) w fun t114 w =>
 V (eq .eql 5 (.tmp 114) (.const (.int .u8 81)) t114 (.int .u8 81)) w fun t115 w =>
 K0 [t115] w)
 (K0 [(.bool false)] w)) → K0 [t110] w) →
 CondW t105
 (V (Builtin.len_ #[55] 3 #[t43]) w fun t108 w =>
 V (bi .gtr 3 t108 (.int .i64 3)) w fun t109 w =>
 K0 [t109] w)
 (K0 [(.bool false)] w)) → K0 [t105] w) →
 CondW t101
 (V (eq .eql 31 (.tmp 103) (.const (.int .i64 0)) t44 (.int .i64 0)) w fun t104 w =>
 K0 [t104] w)
 (K0 [(.bool false)] w)) → K0 [t101] w) →
 CondW t95
 (V (fa 28 t7 0) w fun t97 w =>
 V (ld 22 t97) w fun t98 w =>
 V (Builtin.len_ #[22] 3 #[t98]) w fun t99 w =>
 V (eq .eql 3 (.tmp 99) (.const (.int .i64 2)) t99 (.int .i64 2)) w fun t100 w =>
 K0 [t100] w)
 (K0 [(.bool false)] w)) → K0 [t93] w) →
 CondW t88
 (V (sl 9 t32 none (some (.int .i64 10)) none) w fun t91 w =>
 V (eq .eql 9 (.tmp 91) (.const (.string ⟨#[116, 101, 120, 116, 32, 34, 83, 65, 89, 32]⟩)) t91 (.string ⟨#[116, 101, 120, 116, 32, 34, 83, 65, 89, 32]⟩)) w fun t92 w =>
 K0 [t92] w)
 (K0 [(.bool false)] w)) → K0 [t88] w) →
 CondW t83
 (V (Builtin.len_ #[9] 3 #[t32]) w fun t86 w =>
 V (bi .gtr 3 t86 (.int .i64 10)) w fun t87 w =>
 K0 [t87] w)
 (K0 [(.bool false)] w)) → K0 [t83] w) →
 CondW t79
 (V (eq .eql 31 (.tmp 81) (.const (.int .i64 0)) t33 (.int .i64 0)) w fun t82 w =>
 K0 [t82] w)
 (K0 [(.bool false)] w)) → K0 [t79] w) →
 CondW t74
 (V (ms 45 (.int .i64 6) (.int .i64 6)) w fun t77 w =>
 CV (.func (.func 30) #[] #[]) #[t27, t77] w fun t78 w =>
 K0 [t78] w)
 (K0 [(.bool false)] w)) → K0 [t74] w) →
 CondW t69
 (V (bs 45 6 #[(0, (.int .i64 0)), (1, (.int .i64 0)), (2, (.int .i64 1)), (3, (.int .i64 1)), (4, (.int .i64 0)), (5, (.int .i64 0))]) w fun t72 w =>
 CV (.func (.func 30) #[] #[]) #[t26, t72] w fun t73 w =>
 K0 [t73] w)
 (K0 [(.bool false)] w))
theorem en13 (h : vc13 R w ) : Calls Tryz.prog 13 #[] w (retK R) := calls_of_enter mixed Tryz.func13 (by kernel_rfl) (Eq.mpr (by kernel_rfl : enterW Tryz.prog Tryz.f13 an13 [] w R = vc13 R w ) h)
def an14 : Ann := (.seq (oD 2) (.seq (.seq (.reg (opn 5 (.join [18] [14, 15, 16, 17, 18] (.split 13 (opn 5 .done) (opn 5 .done)) (opn 1 (.join [24] [20, 21, 22, 23, 24] (.split 19 (opn 5 .done) (opn 5 .done)) (opn 1 (.join [30] [26, 27, 28, 29, 30] (.split 25 (opn 5 .done) (opn 5 .done)) (opn 1 (.join [36] [32, 33, 34, 35, 36] (.split 31 (opn 5 .done) (opn 5 .done)) (opn 1 (.join [42] [38, 39, 40, 41, 42] (.split 37 (opn 5 .done) (opn 5 .done)) .done))))))))))) (.cond (.seq (oD 1) .leaf) .leaf)) (.seq (.seq (oD 1) (.one (.loop [3] ([43, 44, 45, 46, 47] ++ rgN 50 7 ++ [2, 48, 49, 3]) (.seq (.seq (oD 5) (.cond .leaf .leaf)) (.seq (.one (.seq (oD 7) (.cond (.seq (oD 1) .leaf) .leaf))) (oD 3)))))) (.seq (.seq (oD 1) (.one (.loop [4] ([57, 58, 59, 60, 61] ++ rgN 64 7 ++ [2, 5] ++ rgN 71 8 ++ rgN 81 11 ++ [79, 80, 62, 63, 4]) (.seq (.seq (oD 5) (.cond .leaf .leaf)) (.seq (.one (.seq (.seq (oD 7) (.cond (.seq (oD 1) .leaf) .leaf)) (.seq (oD 1) (.one (.loop [5] (rgN 71 8 ++ rgN 81 11 ++ [2, 79, 80, 5]) (.seq (.seq (oD 8) (.cond .leaf .leaf)) (.seq (.one (.seq (oD 11) (.cond (.seq (oD 1) .leaf) .leaf))) (oD 3)))))))) (oD 3)))))) (.seq (.seq (oD 1) (.one (.loop [6] ([92, 93, 94, 95, 96] ++ rgN 99 7 ++ [2, 7] ++ rgN 106 8 ++ rgN 116 11 ++ [114, 115, 97, 98, 6]) (.seq (.seq (oD 5) (.cond .leaf .leaf)) (.seq (.one (.seq (.seq (oD 7) (.cond (.seq (oD 1) .leaf) .leaf)) (.seq (oD 1) (.one (.loop [7] (rgN 106 8 ++ rgN 116 11 ++ [2, 114, 115, 7]) (.seq (.seq (oD 8) (.cond .leaf .leaf)) (.seq (.one (.seq (oD 11) (.cond (.seq (oD 1) .leaf) .leaf))) (oD 3)))))))) (oD 3)))))) (.seq (.seq (oD 1) (.one (.loop [8] ([127, 128, 129, 130, 131] ++ rgN 134 8 ++ [2, 132, 133, 8]) (.seq (.seq (oD 5) (.cond .leaf .leaf)) (.seq (.one (.seq (oD 8) (.cond (.seq (oD 1) .leaf) .leaf))) (oD 3)))))) (.seq (oD 1) .leaf)))))))
def vc14 (R : Value → World → Prop) (w : World) (t0 : Value) : Prop :=
 V (bx 28 t0) w fun t1 w =>
 V (fa 28 t1 0) w fun t9 w =>
 V (ld 22 t9) w fun t10 w =>
 V (Builtin.len_ #[22] 3 #[t10]) w fun t11 w =>
 CV (.func (.func 34) #[] #[]) #[t11, (.int .i64 60), (.int .i64 3000)] w fun t12 w =>
 ∀ K0 : List Value → World → Prop, (∀ t18, ∀ w, (∀ g : Env,
 ∀ K0 : List Value → World → Prop, (∀ t24, ∀ w, (∀ g : Env,
 ∀ K0 : List Value → World → Prop, (∀ t30, ∀ w, (∀ g : Env,
 ∀ K0 : List Value → World → Prop, (∀ t36, ∀ w, (∀ g : Env,
 ∀ K0 : List Value → World → Prop, (∀ t42, ∀ w, (∀ g : Env,
 CondW t42
 (R (.bool false) w)
 (∃ (I0 : List Value → World → Prop) (M0 : List Value → World → Nat), I0 [(.int .i64 0)] w ∧ ∀ g : Env, ∀ t3, ∀ w, I0 [t3] w → ∀ m0, m0 = M0 [t3] w →
 V (fa 28 t1 0) w fun t44 w =>
 V (ld 22 t44) w fun t45 w =>
 V (Builtin.len_ #[22] 3 #[t45]) w fun t46 w =>
 V (bi .lss 3 t3 t46) w fun t47 w =>
 CondW t47
 (V (fa 28 t1 0) w fun t50 w =>
 V (ld 22 t50) w fun t51 w =>
 V (ia 22 t51 t3) w fun t53 w =>
 V (ld 9 t53) w fun t54 w =>
 V (Builtin.len_ #[9] 3 #[t54]) w fun t55 w =>
 V (bi .gtr 3 t55 (.int .i64 1100)) w fun t56 w =>
 CondW t56
 (R (.bool false) w)
 (V (bi .add 3 t3 (.int .i64 1)) w fun t49 w =>
 I0 [t49] w ∧ M0 [t49] w < m0))
 (∃ (I1 : List Value → World → Prop) (M1 : List Value → World → Nat), I1 [(.int .i64 0)] w ∧ ∀ g : Env, ∀ t4, ∀ w, I1 [t4] w → ∀ m1, m1 = M1 [t4] w →
 V (fa 28 t1 1) w fun t58 w =>
 V (ld 23 t58) w fun t59 w =>
 V (Builtin.len_ #[23] 3 #[t59]) w fun t60 w =>
 V (bi .lss 3 t4 t60) w fun t61 w =>
 CondW t61
 (V (fa 28 t1 1) w fun t64 w =>
 V (ld 23 t64) w fun t65 w =>
 V (ia 23 t65 t4) w fun t67 w =>
 V (ld 93 t67) w fun t68 w =>
 V (Builtin.len_ #[93] 3 #[t68]) w fun t69 w =>
 CV (.func (.func 34) #[] #[]) #[t69, (.int .i64 60), (.int .i64 100)] w fun t70 w =>
 CondW t70
 (R (.bool false) w)
 (∃ (I2 : List Value → World → Prop) (M2 : List Value → World → Nat), I2 [(.int .i64 0)] w ∧ ∀ g : Env, ∀ t5, ∀ w, I2 [t5] w → ∀ m2, m2 = M2 [t5] w →
 V (fa 28 t1 1) w fun t72 w =>
 V (ld 23 t72) w fun t73 w =>
 V (ia 23 t73 t4) w fun t75 w =>
 V (ld 93 t75) w fun t76 w =>
 V (Builtin.len_ #[93] 3 #[t76]) w fun t77 w =>
 V (bi .lss 3 t5 t77) w fun t78 w =>
 CondW t78
 (V (fa 28 t1 1) w fun t81 w =>
 V (ld 23 t81) w fun t82 w =>
 V (ia 23 t82 t4) w fun t84 w =>
 V (ld 93 t84) w fun t85 w =>
 V (ia 93 t85 t5) w fun t87 w =>
 V (fa 95 t87 1) w fun t88 w =>
 V (ld 9 t88) w fun t89 w =>
 V (Builtin.len_ #[9] 3 #[t89]) w fun t90 w =>
 V (bi .gtr 3 t90 (.int .i64 1100)) w fun t91 w =>
 CondW t91
 (R (.bool false) w)
 (V (bi .add 3 t5 (.int .i64 1)) w fun t80 w =>
 I2 [t80] w ∧ M2 [t80] w < m2))
 (V (bi .add 3 t4 (.int .i64 1)) w fun t63 w =>
 I1 [t63] w ∧ M1 [t63] w < m1)))
 (∃ (I2 : List Value → World → Prop) (M2 : List Value → World → Nat), I2 [(.int .i64 0)] w ∧ ∀ g : Env, ∀ t6, ∀ w, I2 [t6] w → ∀ m2, m2 = M2 [t6] w →
 V (fa 28 t1 2) w fun t93 w =>
 V (ld 24 t93) w fun t94 w =>
 V (Builtin.len_ #[24] 3 #[t94]) w fun t95 w =>
 V (bi .lss 3 t6 t95) w fun t96 w =>
 CondW t96
 (V (fa 28 t1 2) w fun t99 w =>
 V (ld 24 t99) w fun t100 w =>
 V (ia 24 t100 t6) w fun t102 w =>
 V (ld 96 t102) w fun t103 w =>
 V (Builtin.len_ #[96] 3 #[t103]) w fun t104 w =>
 CV (.func (.func 34) #[] #[]) #[t104, (.int .i64 60), (.int .i64 10000)] w fun t105 w =>
 CondW t105
 (R (.bool false) w)
 (∃ (I3 : List Value → World → Prop) (M3 : List Value → World → Nat), I3 [(.int .i64 0)] w ∧ ∀ g : Env, ∀ t7, ∀ w, I3 [t7] w → ∀ m3, m3 = M3 [t7] w →
 V (fa 28 t1 2) w fun t107 w =>
 V (ld 24 t107) w fun t108 w =>
 V (ia 24 t108 t6) w fun t110 w =>
 V (ld 96 t110) w fun t111 w =>
 V (Builtin.len_ #[96] 3 #[t111]) w fun t112 w =>
 V (bi .lss 3 t7 t112) w fun t113 w =>
 CondW t113
 (V (fa 28 t1 2) w fun t116 w =>
 V (ld 24 t116) w fun t117 w =>
 V (ia 24 t117 t6) w fun t119 w =>
 V (ld 96 t119) w fun t120 w =>
 V (ia 96 t120 t7) w fun t122 w =>
 V (fa 98 t122 0) w fun t123 w =>
 V (ld 9 t123) w fun t124 w =>
 V (Builtin.len_ #[9] 3 #[t124]) w fun t125 w =>
 V (bi .gtr 3 t125 (.int .i64 1100)) w fun t126 w =>
 CondW t126
 (R (.bool false) w)
 (V (bi .add 3 t7 (.int .i64 1)) w fun t115 w =>
 I3 [t115] w ∧ M3 [t115] w < m3))
 (V (bi .add 3 t6 (.int .i64 1)) w fun t98 w =>
 I2 [t98] w ∧ M2 [t98] w < m2)))
 (∃ (I3 : List Value → World → Prop) (M3 : List Value → World → Nat), I3 [(.int .i64 0)] w ∧ ∀ g : Env, ∀ t8, ∀ w, I3 [t8] w → ∀ m3, m3 = M3 [t8] w →
 V (fa 28 t1 3) w fun t128 w =>
 V (ld 25 t128) w fun t129 w =>
 V (Builtin.len_ #[25] 3 #[t129]) w fun t130 w =>
 V (bi .lss 3 t8 t130) w fun t131 w =>
 CondW t131
 (V (fa 28 t1 3) w fun t134 w =>
 V (ld 25 t134) w fun t135 w =>
 V (ia 25 t135 t8) w fun t137 w =>
 V (fa 54 t137 0) w fun t138 w =>
 V (ld 9 t138) w fun t139 w =>
 V (Builtin.len_ #[9] 3 #[t139]) w fun t140 w =>
 V (bi .gtr 3 t140 (.int .i64 1100)) w fun t141 w =>
 CondW t141
 (R (.bool false) w)
 (V (bi .add 3 t8 (.int .i64 1)) w fun t133 w =>
 I3 [t133] w ∧ M3 [t133] w < m3))
 (R (.bool true) w)))))) → K0 [t42] w) →
 CondW t36
 (K0 [(.bool true)] w)
 (V (fa 28 t1 5) w fun t38 w =>
 V (ld 26 t38) w fun t39 w =>
 V (Builtin.len_ #[26] 3 #[t39]) w fun t40 w =>
 CV (.func (.func 34) #[] #[]) #[t40, (.int .i64 300), (.int .i64 12000)] w fun t41 w =>
 K0 [t41] w)) → K0 [t36] w) →
 CondW t30
 (K0 [(.bool true)] w)
 (V (fa 28 t1 4) w fun t32 w =>
 V (ld 22 t32) w fun t33 w =>
 V (Builtin.len_ #[22] 3 #[t33]) w fun t34 w =>
 CV (.func (.func 34) #[] #[]) #[t34, (.int .i64 60), (.int .i64 100)] w fun t35 w =>
 K0 [t35] w)) → K0 [t30] w) →
 CondW t24
 (K0 [(.bool true)] w)
 (V (fa 28 t1 3) w fun t26 w =>
 V (ld 25 t26) w fun t27 w =>
 V (Builtin.len_ #[25] 3 #[t27]) w fun t28 w =>
 CV (.func (.func 34) #[] #[]) #[t28, (.int .i64 60), (.int .i64 3000)] w fun t29 w =>
 K0 [t29] w)) → K0 [t24] w) →
 CondW t18
 (K0 [(.bool true)] w)
 (V (fa 28 t1 2) w fun t20 w =>
 V (ld 24 t20) w fun t21 w =>
 V (Builtin.len_ #[24] 3 #[t21]) w fun t22 w =>
 CV (.func (.func 34) #[] #[]) #[t22, (.int .i64 60), (.int .i64 3000)] w fun t23 w =>
 K0 [t23] w)) → K0 [t18] w) →
 CondW t12
 (K0 [(.bool true)] w)
 (V (fa 28 t1 1) w fun t14 w =>
 V (ld 23 t14) w fun t15 w =>
 V (Builtin.len_ #[23] 3 #[t15]) w fun t16 w =>
 CV (.func (.func 34) #[] #[]) #[t16, (.int .i64 60), (.int .i64 3000)] w fun t17 w =>
 K0 [t17] w)
theorem en14 (h : vc14 R w t0) : Calls Tryz.prog 14 #[t0] w (retK R) := calls_of_enter mixed Tryz.func14 (by kernel_rfl) (Eq.mpr (by kernel_rfl : enterW Tryz.prog Tryz.f14 an14 [t0] w R = vc14 R w t0) h)
def an15 : Ann := (.seq (oD 3) (.seq (.seq (oD 3) (.cond (.seq (oD 2) .leaf) .leaf)) (.seq (.seq (oD 3) (.cond (.seq (oD 2) .leaf) .leaf)) (.seq (.seq (oD 4) (.one (.loop [21] [22, 23, 24, 25, 5, 4, 26, 27, 28, 29, 30, 2, 3, 31, 21] (.seq (oD 1) (.seq (.cond .leaf .leaf) (.seq (.one (.seq (oD 6) (.seq (oD 4) (.cond (.seq (oD 3) .leaf) .leaf)))) (oD 2))))))) (.seq (oD 5) (.seq (.seq (oD 12) (.seq (oD 3) (.cond (.seq (oD 3) .leaf) .leaf))) (.seq (.seq (oD 9) (.seq (oD 2) (.cond (.seq (oD 2) .leaf) .leaf))) (.seq (oD 2) .leaf))))))))
def vc15 (R : Value → World → Prop) (w : World) (t0 : Value) : Prop :=
 V (bx 28 t0) w fun t1 w =>
 V (ld 28 t1) w fun t12 w =>
 CV (.func (.func 46) #[] #[]) #[t12] w fun t13 w =>
 V (un .not t13) w fun t14 w =>
 CondW t14
 (R (.tuple #[(.int .i64 3), (.int .i64 0)]) w)
 (V (ld 28 t1) w fun t15 w =>
 CV (.func (.func 47) #[] #[]) #[t15] w fun t16 w =>
 V (un .not t16) w fun t17 w =>
 CondW t17
 (R (.tuple #[(.int .i64 1), (.int .i64 0)]) w)
 (V (fa 28 t1 5) w fun t18 w =>
 V (ld 26 t18) w fun t19 w =>
 V (Builtin.len_ #[26] 3 #[t19]) w fun t20 w =>
 ∃ (I0 : List Value → World → Prop) (M0 : List Value → World → Nat), I0 [(.int .i64 0)] w ∧ ∀ g : Env, ∀ t21, ∀ w, I0 [t21] w → ∀ m0, m0 = M0 [t21] w →
 V (bi .lss 3 t21 t20) w fun t22 w =>
 CondW t22
 (V (ia 26 t19 t21) w fun t24 w =>
 V (ld 38 t24) w fun t25 w =>
 V (al 38) w fun t5 w =>
 U (st 38 t5 t25) w fun w =>
 V (ld 28 t1) w fun t26 w =>
 V (ld 38 t5) w fun t27 w =>
 CV (.func (.func 48) #[] #[]) #[t26, t27] w fun t28 w =>
 V (un .not t28) w fun t29 w =>
 CondW t29
 (R (.tuple #[(.int .i64 1), t21]) w)
 (V (bi .add 3 t21 (.int .i64 1)) w fun t31 w =>
 I0 [t31] w ∧ M0 [t31] w < m0))
 (V (fa 28 t1 5) w fun t32 w =>
 V (ld 26 t32) w fun t33 w =>
 V (Builtin.len_ #[26] 3 #[t33]) w fun t34 w =>
 V (bi .sub 3 t34 (.int .i64 1)) w fun t35 w =>
 V (fa 28 t1 5) w fun t37 w =>
 V (ld 26 t37) w fun t38 w =>
 V (ia 26 t38 t35) w fun t40 w =>
 V (ld 38 t40) w fun t41 w =>
 CV (.func (.func 49) #[] #[]) #[t41] w fun t42 w =>
 V (ex t42 0) w fun t43 w =>
 V (ex t42 1) w fun t44 w =>
 V (al 102) w fun t7 w =>
 U (st 102 t7 t43) w fun w =>
 V (fa 102 t7 5) w fun t45 w =>
 V (ld 4 t45) w fun t46 w =>
 V (un .not t46) w fun t47 w =>
 CondW t47
 (R (.tuple #[(.int .i64 2), t35]) w)
 (V (ld 28 t1) w fun t50 w =>
 CV (.func (.func 50) #[] #[]) #[t50] w fun t51 w =>
 V (ex t51 0) w fun t52 w =>
 V (ex t51 1) w fun t53 w =>
 V (ex t51 2) w fun t54 w =>
 V (un .not t54) w fun t56 w =>
 CondW t56
 (R (.tuple #[(.int .i64 12), (.int .i64 0)]) w)
 (R (.tuple #[(.int .i64 0), (.int .i64 0)]) w)))))
theorem en15 (h : vc15 R w t0) : Calls Tryz.prog 15 #[t0] w (retK R) := calls_of_enter mixed Tryz.func15 (by kernel_rfl) (Eq.mpr (by kernel_rfl : enterW Tryz.prog Tryz.f15 an15 [t0] w R = vc15 R w t0) h)
def an17 : Ann := (.seq (oD 4) (.seq (oD 8) (.seq (.seq (oD 2) (.cond (.seq (oD 3) .leaf) .leaf)) (.seqJ [6] ([14, 15, 17, 16] ++ rgN 18 6 ++ [6, 24, 26, 25] ++ rgN 27 7 ++ [35, 34] ++ rgN 36 9 ++ [46, 45] ++ rgN 47 14 ++ [62, 61] ++ rgN 63 7 ++ [71, 70] ++ rgN 72 7) (.seq (oD 2) (.one (.seqJ [16] [17, 16, 18] (.seq (oD 2) (.cond .leaf (oD 2))) (.cond (.draw (.take 0 (.hold 1 (.take 3 (.hold 4 (.alts (.eff 2 (.take 5 (.take 6 (.alts (.eff 7 .done .nil)))) .nil))))))) (.seq (oD 2) (.cond (.draw (.take 0 (.hold 1 (.take 3 (.hold 4 (.take 5 (.alts (.eff 2 (.take 6 (.take 7 (.alts (.eff 8 .done .nil)))) .nil)))))))) (.seq (oD 2) (.cond (.draw (.take 0 (.hold 1 (.take 4 (.hold 5 (.alts (.eff 2 (.take 3 (.alts (.eff 6 (tkN 7 3 (.alts (.eff 10 .done .nil))) .nil))) .nil))))))) (.seq (oD 2) (.cond (.seq (.reg (opn 4 (.join [54] [51, 52, 53, 54] (.split 50 (opn 4 .done) (opn 4 .done)) (opn 1 .done)))) (.seq (oD 3) (.cond (oD 4) .leaf))) (.seq (oD 2) (.cond (.seq (oD 4) (.seq (oD 3) (.cond (oD 2) .leaf))) (.seqJ [70] [71, 70, 72] (.seq (oD 2) (.cond .leaf (oD 2))) (.cond (.draw (.take 0 (.hold 1 (.take 3 (.hold 4 (.alts (.eff 2 (.take 5 (.take 6 (.alts (.eff 7 .done .nil)))) .nil))))))) .leaf)))))))))))))) (.seq (.seq (oD 2) (.cond (.seq (oD 3) .leaf) .leaf)) (.seq (.draw (.take 0 (.hold 1 (.take 2 (.hold 3 (tkN 4 3 .done)))))) .leaf))))))
def vc17 (R : Value → World → Prop) (w : World) (t0 : Value) : Prop :=
 V (bx 38 t0) w fun t1 w =>
 V (ld 38 t1) w fun t8 w =>
 CV (.func (.func 49) #[] #[]) #[t8] w fun t9 w =>
 V (ex t9 0) w fun t10 w =>
 V (ex t9 1) w fun t11 w =>
 V (al 102) w fun t5 w =>
 U (st 102 t5 t10) w fun w =>
 V (un .not t11) w fun t13 w =>
 CondW t13
 (R (.tuple #[(.int .i64 0), (.int .i64 0), (.int .i64 1)]) w)
 (∀ K0 : List Value → World → Prop, (∀ t6, ∀ w, (∀ g : Env,
 V (un .not t6) w fun t80 w =>
 CondW t80
 (R (.tuple #[(.int .i64 0), (.int .i64 0), (.int .i64 1)]) w)
 (Dr w fun w =>
 PV (fa 102 t5 2) fun t81 =>
 HV (ld 3 t81) w fun t82 =>
 PV (fa 102 t5 3) fun t83 =>
 HV (ld 3 t83) w fun t84 =>
 R (.tuple #[t82, t84, (.int .i64 0)]) w)) → K0 [t6] w) →
 V (fa 38 t1 0) w fun t14 w =>
 V (ld 3 t14) w fun t15 w =>
 ∀ K1 : List Value → World → Prop, (∀ t16, ∀ w, (∀ g : Env,
 CondW t16
 (Dr w fun w =>
 PV (fa 38 t1 2) fun t19 =>
 HV (ld 3 t19) w fun t20 =>
 PV (fa 38 t1 2) fun t22 =>
 HV (ld 3 t22) w fun t23 =>
 CV (.func (.func 56) #[] #[]) #[(.int .i64 16), t20] w fun t21 w =>
 RunIs (ld 3 t22) w t23 ∧ (PV (fa 102 t5 2) fun t24 =>
 U (st 3 t24 t23) w fun w =>
 K0 [t21] w))
 (V (eq .eql 3 (.tmp 15) (.const (.int .i64 19)) t15 (.int .i64 19)) w fun t26 w =>
 CondW t26
 (Dr w fun w =>
 PV (fa 38 t1 1) fun t27 =>
 HV (ld 3 t27) w fun t28 =>
 PV (fa 38 t1 1) fun t30 =>
 HV (ld 3 t30) w fun t31 =>
 PV (bi .quo 3 t31 (.int .i64 2)) fun t32 =>
 CV (.func (.func 56) #[] #[]) #[(.int .i64 15), t28] w fun t29 w =>
 RunIs (ld 3 t30) w t31 ∧ (PV (fa 102 t5 2) fun t33 =>
 U (st 3 t33 t32) w fun w =>
 K0 [t29] w))
 (V (eq .eql 3 (.tmp 15) (.const (.int .i64 27)) t15 (.int .i64 27)) w fun t35 w =>
 CondW t35
 (Dr w fun w =>
 PV (fa 38 t1 2) fun t36 =>
 HV (ld 3 t36) w fun t37 =>
 PV (fa 38 t1 2) fun t40 =>
 HV (ld 3 t40) w fun t41 =>
 CV (.func (.func 57) #[] #[]) #[t37] w fun t38 w =>
 RunIs (ld 3 t40) w t41 ∧ (PV (bi .geq 3 t38 (.int .i64 0)) fun t39 =>
 CV (.func (.func 57) #[] #[]) #[t41] w fun t42 w =>
 PV (bi .add 3 (.int .i64 1) t42) fun t43 =>
 PV (fa 102 t5 2) fun t44 =>
 U (st 3 t44 t43) w fun w =>
 K0 [t39] w))
 (V (eq .eql 3 (.tmp 15) (.const (.int .i64 35)) t15 (.int .i64 35)) w fun t46 w =>
 CondW t46
 (V (fa 38 t1 1) w fun t47 w =>
 V (ld 3 t47) w fun t48 w =>
 CV (.func (.func 56) #[] #[]) #[(.int .i64 15), t48] w fun t49 w =>
 ∀ K1 : List Value → World → Prop, (∀ t54, ∀ w, (∀ g : Env,
 V (fa 38 t1 1) w fun t55 w =>
 V (ld 3 t55) w fun t56 w =>
 V (bi .lss 3 t56 (.int .i64 2)) w fun t57 w =>
 CondW t57
 (V (fa 38 t1 2) w fun t58 w =>
 V (ld 3 t58) w fun t59 w =>
 V (fa 102 t5 2) w fun t60 w =>
 U (st 3 t60 t59) w fun w =>
 K0 [t54] w)
 (K0 [t54] w)) → K1 [t54] w) →
 CondW t49
 (V (fa 38 t1 2) w fun t51 w =>
 V (ld 3 t51) w fun t52 w =>
 CV (.func (.func 56) #[] #[]) #[(.int .i64 14), t52] w fun t53 w =>
 K1 [t53] w)
 (K1 [(.bool false)] w))
 (V (eq .eql 3 (.tmp 15) (.const (.int .i64 36)) t15 (.int .i64 36)) w fun t62 w =>
 CondW t62
 (V (fa 38 t1 2) w fun t63 w =>
 V (ld 3 t63) w fun t64 w =>
 CV (.func (.func 56) #[] #[]) #[(.int .i64 19), t64] w fun t65 w =>
 V (fa 38 t1 2) w fun t66 w =>
 V (ld 3 t66) w fun t67 w =>
 V (eq .eql 3 (.tmp 67) (.const (.int .i64 6)) t67 (.int .i64 6)) w fun t68 w =>
 CondW t68
 (V (fa 102 t5 2) w fun t69 w =>
 U (st 3 t69 (.int .i64 1)) w fun w =>
 K0 [t65] w)
 (K0 [t65] w))
 (∀ K1 : List Value → World → Prop, (∀ t70, ∀ w, (∀ g : Env,
 CondW t70
 (Dr w fun w =>
 PV (fa 38 t1 1) fun t73 =>
 HV (ld 3 t73) w fun t74 =>
 PV (fa 38 t1 1) fun t76 =>
 HV (ld 3 t76) w fun t77 =>
 CV (.func (.func 56) #[] #[]) #[(.int .i64 14), t74] w fun t75 w =>
 RunIs (ld 3 t76) w t77 ∧ (PV (fa 102 t5 2) fun t78 =>
 U (st 3 t78 t77) w fun w =>
 K0 [t75] w))
 (K0 [t11] w)) → K1 [t70] w) →
 V (eq .eql 3 (.tmp 15) (.const (.int .i64 40)) t15 (.int .i64 40)) w fun t71 w =>
 CondW t71
 (K1 [t71] w)
 (V (eq .eql 3 (.tmp 15) (.const (.int .i64 41)) t15 (.int .i64 41)) w fun t72 w =>
 K1 [t72] w))))))) → K1 [t16] w) →
 V (eq .eql 3 (.tmp 15) (.const (.int .i64 12)) t15 (.int .i64 12)) w fun t17 w =>
 CondW t17
 (K1 [t17] w)
 (V (eq .eql 3 (.tmp 15) (.const (.int .i64 21)) t15 (.int .i64 21)) w fun t18 w =>
 K1 [t18] w))
theorem en17 (h : vc17 R w t0) : Calls Tryz.prog 17 #[t0] w (retK R) := calls_of_enter mixed Tryz.func17 (by kernel_rfl) (Eq.mpr (by kernel_rfl : enterW Tryz.prog Tryz.f17 an17 [t0] w R = vc17 R w t0) h)
def an19 : Ann := (.seq (oD 2) (.seq (.seq (oD 3) (.cond (.seq (oD 1) .leaf) .leaf)) (.seq (oD 7) (.seq (oD 3) .leaf))))
def vc19 (R : Value → World → Prop) (w : World) (t0 : Value) : Prop :=
 V (bx 28 t0) w fun t1 w =>
 V (ld 28 t1) w fun t5 w =>
 CV (.func (.func 14) #[] #[]) #[t5] w fun t6 w =>
 V (un .not t6) w fun t7 w =>
 CondW t7
 (R (.bool false) w)
 (V (ld 28 t1) w fun t9 w =>
 CV (.func (.func 15) #[] #[]) #[t9] w fun t10 w =>
 V (ex t10 0) w fun t11 w =>
 V (ex t10 1) w fun t12 w =>
 V (eq .eql 31 (.tmp 13) (.const (.int .i64 0)) t11 (.int .i64 0)) w fun t14 w =>
 R t14 w)
theorem en19 (h : vc19 R w t0) : Calls Tryz.prog 19 #[t0] w (retK R) := calls_of_enter mixed Tryz.func19 (by kernel_rfl) (Eq.mpr (by kernel_rfl : enterW Tryz.prog Tryz.f19 an19 [t0] w R = vc19 R w t0) h)
def an20 : Ann := (.seq (oD 4) (.seq (.seq (oD 7) (.seq (oD 2) (.cond (.seq (oD 5) .leaf) .leaf))) (.seq (oD 3) (.seq (oD 6) (.seq (oD 1) (.seq (oD 6) (.seq (.seq (oD 4) (.one (.loop [205, 50] ([51, 52, 53, 54, 12, 11] ++ rgN 55 15 ++ [205] ++ rgN 81 7 ++ [50]) (.seq (oD 1) (.seq (.cond .leaf .leaf) (.seqJ [205] ([52, 53, 54, 12, 11] ++ rgN 55 15 ++ [205] ++ rgN 81 6) (.one (.seq (oD 6) (.seq (oD 4) (.seq (.seq (oD 5) (.cond .leaf .leaf)) (.seq (oD 7) (.seq (.seq (oD 1) (.one (.rf [] (.seq (oD 1) (oD 1)) (.one (.seq (oD 4) (.seq (oD 2) (.cond (oD 5) .leaf))))))) (oD 7))))))) (oD 2))))))) (.seq (oD 3) (.seq (oD 11) (.seq (oD 11) (.seq (oD 11) (.seq (oD 3) (.seq (.seq (oD 4) (.one (.loop [205, 119] ([120, 121, 20, 122, 123, 124, 125, 126, 21, 127, 205] ++ rgN 138 6 ++ [119]) (.seq (oD 1) (.seq (.cond .leaf .leaf) (.seq (.one (.seq (oD 2) (.seq (oD 7) (.seq (.seq (oD 1) (.one (.rf [] (.seq (oD 1) (oD 1)) (.one (.draw (.take 0 (.hold 1 (tkN 2 3 (.hold 5 (.alts (.eff 6 (.take 7 (.alts (.eff 8 .done .nil))) .nil))))))))))) (oD 6))))) (oD 2))))))) (.seq (.seq (oD 4) (.one (.loop [147] ([148, 149, 24] ++ rgN 150 11 ++ [147]) (.seq (oD 1) (.seq (.cond .leaf .leaf) (.seq (.one (.seq (oD 2) (.draw (.take 0 (.hold 1 (.take 2 (.take 3 (.hold 4 (.take 5 (.take 6 (.hold 7 (.alts (.eff 8 (.take 9 (.alts (.eff 10 .done .nil))) .nil))))))))))))) (oD 2))))))) (.seq (.seq (oD 4) (.one (.loop [164] ([165, 166, 25] ++ rgN 167 11 ++ [164]) (.seq (oD 1) (.seq (.cond .leaf .leaf) (.seq (.one (.seq (oD 2) (.draw (.take 0 (.hold 1 (.take 2 (.take 3 (.hold 4 (.take 5 (.take 6 (.hold 7 (.alts (.eff 8 (.take 9 (.alts (.eff 10 .done .nil))) .nil))))))))))))) (oD 2))))))) (.seq (.seq (oD 4) (.one (.loop [181] ([182, 183, 184, 27] ++ rgN 185 14 ++ [181]) (.seq (oD 1) (.seq (.cond .leaf .leaf) (.seq (.one (.seq (oD 4) (.draw (.take 0 (.hold 1 (.take 2 (.hold 3 (.hold 4 (.take 5 (.hold 6 (.take 7 (.hold 8 (.take 9 (.alts (.eff 10 (.alts (.eff 11 (.take 12 (.alts (.eff 13 .done .nil))) .nil)) .nil))))))))))))))) (oD 2))))))) (.seq (oD 5) (.seq (.draw (.hold 0 (.hold 1 (.alts (.eff 2 (.take 3 (.take 4 .done)) .nil))))) .leaf))))))))))))))))))
def vc20 (R : Value → World → Prop) (w : World) (t0 : Value) : Prop :=
 V (bx 28 t0) w fun t1 w =>
 V (al 28) w fun t2 w =>
 V (ld 28 t1) w fun t29 w =>
 CV (.func (.func 15) #[] #[]) #[t29] w fun t30 w =>
 V (ex t30 0) w fun t31 w =>
 V (ex t30 1) w fun t32 w =>
 V (eq .neq 31 (.tmp 33) (.const (.int .i64 0)) t31 (.int .i64 0)) w fun t34 w =>
 CondW t34
 (V (bd 28 #[]) w fun t35 w =>
 U (st 28 t2 t35) w fun w =>
 CW 28 t2 w fun t1002 => R (.tuple #[t1002, (.slice none 0 0), t31]) w)
 (V (ld 28 t1) w fun t37 w =>
 CV (.func (.func 22) #[] #[]) #[t37] w fun t38 w =>
 V (fa 28 t1 5) w fun t39 w =>
 V (ld 26 t39) w fun t40 w =>
 V (Builtin.len_ #[26] 3 #[t40]) w fun t41 w =>
 V (ms 45 t41 t41) w fun t42 w =>
 V (al 45) w fun t8 w =>
 U (st 45 t8 t42) w fun w =>
 V (al 28) w fun t9 w =>
 V (mm 115 none) w fun t43 w =>
 V (mm 115 none) w fun t44 w =>
 V (mm 115 none) w fun t45 w =>
 V (bd 117 #[(0, t43), (1, t44), (2, t45)]) w fun t46 w =>
 V (al 117) w fun t10 w =>
 U (st 117 t10 t46) w fun w =>
 V (fa 28 t1 5) w fun t47 w =>
 V (ld 26 t47) w fun t48 w =>
 V (Builtin.len_ #[26] 3 #[t48]) w fun t49 w =>
 ∃ (I0 : List Value → World → Prop) (M0 : List Value → World → Nat), I0 [undef, (.int .i64 0)] w ∧ ∀ g : Env, ∀ t205, ∀ t50, ∀ w, I0 [t205, t50] w → ∀ m0, m0 = M0 [t205, t50] w →
 V (bi .lss 3 t50 t49) w fun t51 w =>
 CondW t51
 (∀ K0 : List Value → World → Prop, (∀ t205a, ∀ w, (∀ g : Env,
 V (bi .add 3 t50 (.int .i64 1)) w fun t87 w =>
 I0 [t205a, t87] w ∧ M0 [t205a, t87] w < m0) → K0 [t205a] w) →
 V (ia 26 t48 t50) w fun t53 w =>
 V (ld 38 t53) w fun t54 w =>
 V (al 38) w fun t12 w =>
 U (st 38 t12 t54) w fun w =>
 V (ld 45 t8) w fun t55 w =>
 V (ia 45 t55 t50) w fun t57 w =>
 U (st 3 t57 (.int .i64 (-1))) w fun w =>
 V (ia 49 t38 t50) w fun t60 w =>
 V (ld 4 t60) w fun t61 w =>
 V (un .not t61) w fun t62 w =>
 CondW t62
 (K0 [t205] w)
 (V (ld 45 t8) w fun t63 w =>
 V (fa 28 t9 5) w fun t65 w =>
 V (ld 26 t65) w fun t66 w =>
 V (Builtin.len_ #[26] 3 #[t66]) w fun t67 w =>
 V (ia 45 t63 t50) w fun t68 w =>
 U (st 3 t68 t67) w fun w =>
 CV (.func (.func 61) #[] #[]) #[t12] w fun t69 w =>
 ∀ (lp0 : Loop) (r0 l0 : Nat) (w1 : World), NewRF w w1 r0 l0 lp0 →
 (∀ (w : World) (Kl0 : Value → World → Prop), ∀ t70, ∀ t71, (BeginW l0 lp0 w fun w =>
 V (ld 117 t10) w fun t72 w =>
 CV (.func (.func 62) #[] #[]) #[t72, t70] w fun t74 w =>
 V (eq .neq 115 (.tmp 75) (.const (.map none)) t74 (.map none)) w fun t76 w =>
 CondW t76
 (NilW t71 fun t79 => V (ld 3 t79) w fun t80 w =>
 U (mu 115 t74 t80 (.bool true)) w fun w =>
 EndW l0 lp0 none w Kl0)
 (EndW l0 lp0 none w Kl0)) → w.heap[l0]? = some (lobj lp0 .ready none) → CV (.func (.yield l0) #[] #[]) #[t70, t71] w Kl0) →
 CE t69 #[.func (.yield l0) #[] #[]] w1 fun _ w => RfEnd l0 lp0 w (fun w =>
 V (fa 28 t9 5) w fun t81 w =>
 V (ld 26 t81) w fun t82 w =>
 V (ld 38 t12) w fun t83 w =>
 V (bs 26 1 #[(0, t83)]) w fun t84 w =>
 V (Builtin.append_ #[26, 26] 26 #[t82, t84]) w fun t85 w =>
 V (fa 28 t9 5) w fun t86 w =>
 U (st 26 t86 t85) w fun w =>
 K0 [(.iface r0 t205)] w) (fun w =>
 TakeW (marks (.iface r0 t205)) w fun w =>
 CW 28 t2 w fun t1002 => R (.tuple #[t1002, (.slice none 0 0), (.int .i64 0)]) w) []))
 (V (al 124) w fun t16 w =>
 V (al 124) w fun t17 w =>
 V (al 124) w fun t18 w =>
 V (fa 28 t1 0) w fun t89 w =>
 V (ld 22 t89) w fun t90 w =>
 V (fa 117 t10 0) w fun t91 w =>
 V (ld 115 t91) w fun t92 w =>
 CV (.func (.func 63) #[] #[]) #[t90, t92] w fun t93 w =>
 V (ex t93 0) w fun t94 w =>
 V (ex t93 1) w fun t95 w =>
 V (fa 28 t9 0) w fun t96 w =>
 U (st 22 t96 t94) w fun w =>
 U (st 124 t16 t95) w fun w =>
 V (fa 28 t1 1) w fun t98 w =>
 V (ld 23 t98) w fun t99 w =>
 V (fa 117 t10 1) w fun t100 w =>
 V (ld 115 t100) w fun t101 w =>
 CV (.func (.func 64) #[] #[]) #[t99, t101] w fun t102 w =>
 V (ex t102 0) w fun t103 w =>
 V (ex t102 1) w fun t104 w =>
 V (fa 28 t9 1) w fun t105 w =>
 U (st 23 t105 t103) w fun w =>
 U (st 124 t17 t104) w fun w =>
 V (fa 28 t1 2) w fun t107 w =>
 V (ld 24 t107) w fun t108 w =>
 V (fa 117 t10 2) w fun t109 w =>
 V (ld 115 t109) w fun t110 w =>
 CV (.func (.func 65) #[] #[]) #[t108, t110] w fun t111 w =>
 V (ex t111 0) w fun t112 w =>
 V (ex t111 1) w fun t113 w =>
 V (fa 28 t9 2) w fun t114 w =>
 U (st 24 t114 t112) w fun w =>
 U (st 124 t18 t113) w fun w =>
 V (al 131) w fun t19 w =>
 U (st 131 t19 (.func (.func 66) #[] #[t8, t17, t18, t10, t16])) w fun w =>
 V (fa 28 t9 5) w fun t116 w =>
 V (ld 26 t116) w fun t117 w =>
 V (Builtin.len_ #[26] 3 #[t117]) w fun t118 w =>
 ∃ (I1 : List Value → World → Prop) (M1 : List Value → World → Nat), I1 [t205, (.int .i64 0)] w ∧ ∀ g : Env, ∀ t205a, ∀ t119, ∀ w, I1 [t205a, t119] w → ∀ m1, m1 = M1 [t205a, t119] w →
 V (bi .lss 3 t119 t118) w fun t120 w =>
 CondW t120
 (V (fa 28 t9 5) w fun t122 w =>
 V (ld 26 t122) w fun t123 w =>
 V (ia 26 t123 t119) w fun t125 w =>
 V (ld 38 t125) w fun t126 w =>
 V (al 38) w fun t21 w =>
 U (st 38 t21 t126) w fun w =>
 CV (.func (.func 61) #[] #[]) #[t21] w fun t127 w =>
 ∀ (lp0 : Loop) (r0 l0 : Nat) (w1 : World), NewRF w w1 r0 l0 lp0 →
 (∀ (w : World) (Kl0 : Value → World → Prop), ∀ t128, ∀ t129, (BeginW l0 lp0 w fun w =>
 Dr w fun w =>
 HV (ld 131 t19) w fun t131 =>
 NilW t129 fun t134 => HV (ld 3 t134) w fun t135 =>
 CV t131 #[t128, t135] w fun t136 w =>
 NilW t129 fun t137 => U (st 3 t137 t136) w fun w =>
 EndW l0 lp0 none w Kl0) → w.heap[l0]? = some (lobj lp0 .ready none) → CV (.func (.yield l0) #[] #[]) #[t128, t129] w Kl0) →
 CE t127 #[.func (.yield l0) #[] #[]] w1 fun _ w => RfEnd l0 lp0 w (fun w =>
 V (fa 28 t9 5) w fun t138 w =>
 V (ld 26 t138) w fun t139 w =>
 V (ld 38 t21) w fun t141 w =>
 V (ia 26 t139 t119) w fun t142 w =>
 U (st 38 t142 t141) w fun w =>
 V (bi .add 3 t119 (.int .i64 1)) w fun t143 w =>
 I1 [(.iface r0 t205a), t143] w ∧ M1 [(.iface r0 t205a), t143] w < m1) (fun w =>
 TakeW (marks (.iface r0 t205a)) w fun w =>
 CW 28 t2 w fun t1002 => R (.tuple #[t1002, (.slice none 0 0), (.int .i64 0)]) w) [])
 (V (fa 28 t9 1) w fun t144 w =>
 V (ld 23 t144) w fun t145 w =>
 V (Builtin.len_ #[23] 3 #[t145]) w fun t146 w =>
 ∃ (I2 : List Value → World → Prop) (M2 : List Value → World → Nat), I2 [(.int .i64 0)] w ∧ ∀ g : Env, ∀ t147, ∀ w, I2 [t147] w → ∀ m2, m2 = M2 [t147] w →
 V (bi .lss 3 t147 t146) w fun t148 w =>
 CondW t148
 (Dr w fun w =>
 PV (fa 28 t9 1) fun t150 =>
 HV (ld 23 t150) w fun t151 =>
 PV (fa 28 t9 1) fun t153 =>
 HV (ld 23 t153) w fun t154 =>
 PV (ia 23 t154 t147) fun t156 =>
 HV (ld 93 t156) w fun t157 =>
 CV (.func (.func 67) #[] #[]) #[t157] w fun t158 w =>
 RunIs (ld 23 t153) w t154 ∧ RunIs (ld 23 t150) w t151 ∧ (PV (ia 23 t151 t147) fun t159 =>
 U (st 93 t159 t158) w fun w =>
 V (bi .add 3 t147 (.int .i64 1)) w fun t160 w =>
 I2 [t160] w ∧ M2 [t160] w < m2))
 (V (fa 28 t9 2) w fun t161 w =>
 V (ld 24 t161) w fun t162 w =>
 V (Builtin.len_ #[24] 3 #[t162]) w fun t163 w =>
 ∃ (I3 : List Value → World → Prop) (M3 : List Value → World → Nat), I3 [(.int .i64 0)] w ∧ ∀ g : Env, ∀ t164, ∀ w, I3 [t164] w → ∀ m3, m3 = M3 [t164] w →
 V (bi .lss 3 t164 t163) w fun t165 w =>
 CondW t165
 (Dr w fun w =>
 PV (fa 28 t9 2) fun t167 =>
 HV (ld 24 t167) w fun t168 =>
 PV (fa 28 t9 2) fun t170 =>
 HV (ld 24 t170) w fun t171 =>
 PV (ia 24 t171 t164) fun t173 =>
 HV (ld 96 t173) w fun t174 =>
 CV (.func (.func 68) #[] #[]) #[t174] w fun t175 w =>
 RunIs (ld 24 t170) w t171 ∧ RunIs (ld 24 t167) w t168 ∧ (PV (ia 24 t168 t164) fun t176 =>
 U (st 96 t176 t175) w fun w =>
 V (bi .add 3 t164 (.int .i64 1)) w fun t177 w =>
 I3 [t177] w ∧ M3 [t177] w < m3))
 (V (fa 28 t1 3) w fun t178 w =>
 V (ld 25 t178) w fun t179 w =>
 V (Builtin.len_ #[25] 3 #[t179]) w fun t180 w =>
 ∃ (I4 : List Value → World → Prop) (M4 : List Value → World → Nat), I4 [(.int .i64 0)] w ∧ ∀ g : Env, ∀ t181, ∀ w, I4 [t181] w → ∀ m4, m4 = M4 [t181] w →
 V (bi .lss 3 t181 t180) w fun t182 w =>
 CondW t182
 (V (ia 25 t179 t181) w fun t183 w =>
 V (ld 54 t183) w fun t184 w =>
 V (al 54) w fun t27 w =>
 U (st 54 t27 t184) w fun w =>
 Dr w fun w =>
 PV (fa 28 t9 3) fun t185 =>
 HV (ld 25 t185) w fun t186 =>
 PV (fa 54 t27 0) fun t187 =>
 HV (ld 9 t187) w fun t188 =>
 HV (ld 45 t8) w fun t189 =>
 PV (fa 54 t27 1) fun t190 =>
 HV (ld 3 t190) w fun t191 =>
 PV (ia 45 t189 t191) fun t192 =>
 HV (ld 3 t192) w fun t193 =>
 PV (bd 54 #[(0, t188), (1, t193)]) fun t194 =>
 V (bs 25 1 #[(0, t194)]) w fun t195 w =>
 RunIs (ld 3 t192) w t193 ∧ RunIs (ld 3 t190) w t191 ∧ RunIs (ld 45 t8) w t189 ∧ RunIs (ld 9 t187) w t188 ∧ RunIs (ld 25 t185) w t186 ∧ (V (Builtin.append_ #[25, 25] 25 #[t186, t195]) w fun t196 w =>
 RunIs (ld 3 t192) w t193 ∧ RunIs (ld 3 t190) w t191 ∧ RunIs (ld 45 t8) w t189 ∧ RunIs (ld 9 t187) w t188 ∧ (PV (fa 28 t9 3) fun t197 =>
 U (st 25 t197 t196) w fun w =>
 V (bi .add 3 t181 (.int .i64 1)) w fun t198 w =>
 I4 [t198] w ∧ M4 [t198] w < m4)))
 (V (fa 28 t1 4) w fun t199 w =>
 V (ld 22 t199) w fun t200 w =>
 CV (.func (.func 69) #[] #[]) #[t200] w fun t201 w =>
 V (fa 28 t9 4) w fun t202 w =>
 U (st 22 t202 t201) w fun w =>
 Dr w fun w =>
 HV (ld 28 t9) w fun t203 =>
 HV (ld 45 t8) w fun t204 =>
 U (st 28 t2 t203) w fun w =>
 RunIs (ld 45 t8) w t204 ∧ (TakeW (marks t205a) w fun w =>
 CW 28 t2 w fun t1002 => R (.tuple #[t1002, t204, (.int .i64 0)]) w)))))))
theorem en20 (h : vc20 R w t0) : Calls Tryz.prog 20 #[t0] w (retK R) := calls_of_enter mixed Tryz.func20 (by kernel_rfl) (Eq.mpr (by kernel_rfl : enterW Tryz.prog Tryz.f20 an20 [t0] w R = vc20 R w t0) h)
def an21 : Ann := (.seq (oD 3) (.seq (.seq (.reg (opn 8 (.join [24] (rgN 17 8) (.split 16 (opn 8 .done) (opn 8 .done)) (opn 1 (.join [33] (rgN 26 8) (.split 25 (opn 8 .done) (opn 8 .done)) (opn 1 (.join [42] (rgN 35 8) (.split 34 (opn 8 .done) (opn 8 .done)) .done))))))) (.cond (.seq (oD 1) .leaf) .leaf)) (.seq (.seq (oD 1) (.one (.loop [5] ([43, 44, 45, 46, 47] ++ rgN 50 12 ++ [4, 48, 49, 5]) (.seq (.seq (oD 5) (.cond .leaf .leaf)) (.seq (.one (.seq (.draw (.take 0 (.hold 1 (.take 2 (.take 3 (.hold 4 (.take 5 (.hold 6 (.take 7 (.take 8 (.hold 9 (.alts (.eff 10 (.take 11 .done) .nil))))))))))))) (.cond (.seq (oD 1) .leaf) .leaf))) (oD 3)))))) (.seq (.seq (oD 1) (.one (.loop [6] ([62, 63, 64, 65, 66] ++ rgN 69 12 ++ [4, 67, 68, 6]) (.seq (.seq (oD 5) (.cond .leaf .leaf)) (.seq (.one (.seq (.draw (.take 0 (.hold 1 (.take 2 (.take 3 (.hold 4 (.take 5 (.hold 6 (.take 7 (.take 8 (.hold 9 (.alts (.eff 10 (.take 11 .done) .nil))))))))))))) (.cond (.seq (oD 1) .leaf) .leaf))) (oD 3)))))) (.seq (.seq (oD 1) (.one (.loop [7] ([81, 82, 83, 84, 85] ++ rgN 88 11 ++ [4, 86, 87, 7]) (.seq (.seq (oD 5) (.cond .leaf .leaf)) (.seq (.one (.seq (.draw (.take 0 (.hold 1 (.take 2 (.take 3 (.hold 4 (.take 5 (.hold 6 (.take 7 (.take 8 (.hold 9 (.take 10 .done)))))))))))) (.cond (.seq (oD 1) .leaf) .leaf))) (oD 3)))))) (.seq (.seq (oD 1) (.one (.loop [8] ([99, 100, 101, 102, 103] ++ rgN 106 11 ++ [4, 104, 105, 8]) (.seq (.seq (oD 5) (.cond .leaf .leaf)) (.seq (.one (.seq (.draw (.take 0 (.hold 1 (.take 2 (.take 3 (.hold 4 (.take 5 (.hold 6 (.take 7 (.take 8 (.hold 9 (.take 10 .done)))))))))))) (.cond (.seq (oD 1) .leaf) .leaf))) (oD 3)))))) (.seq (.reg (opn 6 (.join [128] (rgN 123 6) (.split 122 (opn 6 .done) (opn 6 .done)) (opn 1 .done)))) .leaf)))))))
def vc21 (R : Value → World → Prop) (w : World) (t0 t1 : Value) : Prop :=
 V (bx 28 t0) w fun t2 w =>
 V (bx 28 t1) w fun t3 w =>
 V (fa 28 t2 1) w fun t9 w =>
 V (ld 23 t9) w fun t10 w =>
 V (Builtin.len_ #[23] 3 #[t10]) w fun t11 w =>
 V (fa 28 t3 1) w fun t12 w =>
 V (ld 23 t12) w fun t13 w =>
 V (Builtin.len_ #[23] 3 #[t13]) w fun t14 w =>
 V (eq .neq 3 (.tmp 11) (.tmp 14) t11 t14) w fun t15 w =>
 ∀ K0 : List Value → World → Prop, (∀ t24, ∀ w, (∀ g : Env,
 ∀ K0 : List Value → World → Prop, (∀ t33, ∀ w, (∀ g : Env,
 ∀ K0 : List Value → World → Prop, (∀ t42, ∀ w, (∀ g : Env,
 CondW t42
 (R (.bool false) w)
 (∃ (I0 : List Value → World → Prop) (M0 : List Value → World → Nat), I0 [(.int .i64 0)] w ∧ ∀ g : Env, ∀ t5, ∀ w, I0 [t5] w → ∀ m0, m0 = M0 [t5] w →
 V (fa 28 t2 1) w fun t44 w =>
 V (ld 23 t44) w fun t45 w =>
 V (Builtin.len_ #[23] 3 #[t45]) w fun t46 w =>
 V (bi .lss 3 t5 t46) w fun t47 w =>
 CondW t47
 (Dr w fun w =>
 PV (fa 28 t2 1) fun t50 =>
 HV (ld 23 t50) w fun t51 =>
 PV (ia 23 t51 t5) fun t53 =>
 HV (ld 93 t53) w fun t54 =>
 PV (fa 28 t3 1) fun t55 =>
 HV (ld 23 t55) w fun t56 =>
 PV (ia 23 t56 t5) fun t58 =>
 HV (ld 93 t58) w fun t59 =>
 CV (.func (.func 70) #[] #[]) #[t54, t59] w fun t60 w =>
 RunIs (ld 23 t55) w t56 ∧ RunIs (ld 23 t50) w t51 ∧ (PV (un .not t60) fun t61 =>
 CondW t61
 (R (.bool false) w)
 (V (bi .add 3 t5 (.int .i64 1)) w fun t49 w =>
 I0 [t49] w ∧ M0 [t49] w < m0)))
 (∃ (I1 : List Value → World → Prop) (M1 : List Value → World → Nat), I1 [(.int .i64 0)] w ∧ ∀ g : Env, ∀ t6, ∀ w, I1 [t6] w → ∀ m1, m1 = M1 [t6] w →
 V (fa 28 t2 2) w fun t63 w =>
 V (ld 24 t63) w fun t64 w =>
 V (Builtin.len_ #[24] 3 #[t64]) w fun t65 w =>
 V (bi .lss 3 t6 t65) w fun t66 w =>
 CondW t66
 (Dr w fun w =>
 PV (fa 28 t2 2) fun t69 =>
 HV (ld 24 t69) w fun t70 =>
 PV (ia 24 t70 t6) fun t72 =>
 HV (ld 96 t72) w fun t73 =>
 PV (fa 28 t3 2) fun t74 =>
 HV (ld 24 t74) w fun t75 =>
 PV (ia 24 t75 t6) fun t77 =>
 HV (ld 96 t77) w fun t78 =>
 CV (.func (.func 71) #[] #[]) #[t73, t78] w fun t79 w =>
 RunIs (ld 24 t74) w t75 ∧ RunIs (ld 24 t69) w t70 ∧ (PV (un .not t79) fun t80 =>
 CondW t80
 (R (.bool false) w)
 (V (bi .add 3 t6 (.int .i64 1)) w fun t68 w =>
 I1 [t68] w ∧ M1 [t68] w < m1)))
 (∃ (I2 : List Value → World → Prop) (M2 : List Value → World → Nat), I2 [(.int .i64 0)] w ∧ ∀ g : Env, ∀ t7, ∀ w, I2 [t7] w → ∀ m2, m2 = M2 [t7] w →
 V (fa 28 t2 3) w fun t82 w =>
 V (ld 25 t82) w fun t83 w =>
 V (Builtin.len_ #[25] 3 #[t83]) w fun t84 w =>
 V (bi .lss 3 t7 t84) w fun t85 w =>
 CondW t85
 (Dr w fun w =>
 PV (fa 28 t2 3) fun t88 =>
 HV (ld 25 t88) w fun t89 =>
 PV (ia 25 t89 t7) fun t91 =>
 HV (ld 54 t91) w fun t92 =>
 PV (fa 28 t3 3) fun t93 =>
 HV (ld 25 t93) w fun t94 =>
 PV (ia 25 t94 t7) fun t96 =>
 HV (ld 54 t96) w fun t97 =>
 PV (eq .neq 54 (.tmp 92) (.tmp 97) t92 t97) fun t98 =>
 CondW t98
 (R (.bool false) w)
 (V (bi .add 3 t7 (.int .i64 1)) w fun t87 w =>
 I2 [t87] w ∧ M2 [t87] w < m2))
 (∃ (I3 : List Value → World → Prop) (M3 : List Value → World → Nat), I3 [(.int .i64 0)] w ∧ ∀ g : Env, ∀ t8, ∀ w, I3 [t8] w → ∀ m3, m3 = M3 [t8] w →
 V (fa 28 t2 5) w fun t100 w =>
 V (ld 26 t100) w fun t101 w =>
 V (Builtin.len_ #[26] 3 #[t101]) w fun t102 w =>
 V (bi .lss 3 t8 t102) w fun t103 w =>
 CondW t103
 (Dr w fun w =>
 PV (fa 28 t2 5) fun t106 =>
 HV (ld 26 t106) w fun t107 =>
 PV (ia 26 t107 t8) fun t109 =>
 HV (ld 38 t109) w fun t110 =>
 PV (fa 28 t3 5) fun t111 =>
 HV (ld 26 t111) w fun t112 =>
 PV (ia 26 t112 t8) fun t114 =>
 HV (ld 38 t114) w fun t115 =>
 PV (eq .neq 38 (.tmp 110) (.tmp 115) t110 t115) fun t116 =>
 CondW t116
 (R (.bool false) w)
 (V (bi .add 3 t8 (.int .i64 1)) w fun t105 w =>
 I3 [t105] w ∧ M3 [t105] w < m3))
 (V (fa 28 t2 0) w fun t117 w =>
 V (ld 22 t117) w fun t118 w =>
 V (fa 28 t3 0) w fun t119 w =>
 V (ld 22 t119) w fun t120 w =>
 CV (.func (.func 72) #[] #[]) #[t118, t120] w fun t121 w =>
 ∀ K0 : List Value → World → Prop, (∀ t128, ∀ w, (∀ g : Env,
 R t128 w) → K0 [t128] w) →
 CondW t121
 (V (fa 28 t2 4) w fun t123 w =>
 V (ld 22 t123) w fun t124 w =>
 V (fa 28 t3 4) w fun t125 w =>
 V (ld 22 t125) w fun t126 w =>
 CV (.func (.func 72) #[] #[]) #[t124, t126] w fun t127 w =>
 K0 [t127] w)
 (K0 [(.bool false)] w))))))) → K0 [t42] w) →
 CondW t33
 (K0 [(.bool true)] w)
 (V (fa 28 t2 5) w fun t35 w =>
 V (ld 26 t35) w fun t36 w =>
 V (Builtin.len_ #[26] 3 #[t36]) w fun t37 w =>
 V (fa 28 t3 5) w fun t38 w =>
 V (ld 26 t38) w fun t39 w =>
 V (Builtin.len_ #[26] 3 #[t39]) w fun t40 w =>
 V (eq .neq 3 (.tmp 37) (.tmp 40) t37 t40) w fun t41 w =>
 K0 [t41] w)) → K0 [t33] w) →
 CondW t24
 (K0 [(.bool true)] w)
 (V (fa 28 t2 3) w fun t26 w =>
 V (ld 25 t26) w fun t27 w =>
 V (Builtin.len_ #[25] 3 #[t27]) w fun t28 w =>
 V (fa 28 t3 3) w fun t29 w =>
 V (ld 25 t29) w fun t30 w =>
 V (Builtin.len_ #[25] 3 #[t30]) w fun t31 w =>
 V (eq .neq 3 (.tmp 28) (.tmp 31) t28 t31) w fun t32 w =>
 K0 [t32] w)) → K0 [t24] w) →
 CondW t15
 (K0 [(.bool true)] w)
 (V (fa 28 t2 2) w fun t17 w =>
 V (ld 24 t17) w fun t18 w =>
 V (Builtin.len_ #[24] 3 #[t18]) w fun t19 w =>
 V (fa 28 t3 2) w fun t20 w =>
 V (ld 24 t20) w fun t21 w =>
 V (Builtin.len_ #[24] 3 #[t21]) w fun t22 w =>
 V (eq .neq 3 (.tmp 19) (.tmp 22) t19 t22) w fun t23 w =>
 K0 [t23] w)
theorem en21 (h : vc21 R w t0 t1) : Calls Tryz.prog 21 #[t0, t1] w (retK R) := calls_of_enter mixed Tryz.func21 (by kernel_rfl) (Eq.mpr (by kernel_rfl : enterW Tryz.prog Tryz.f21 an21 [t0, t1] w R = vc21 R w t0 t1) h)
def an22 : Ann := (.seq (oD 2) (.seq (.seq (.reg (opn 5 (.join [16] [12, 13, 14, 15, 16] (.split 11 (opn 5 .done) (opn 5 .done)) (opn 1 (.join [22] [18, 19, 20, 21, 22] (.split 17 (opn 5 .done) (opn 5 .done)) .done))))) (.cond (.seq (oD 1) .leaf) .leaf)) (.seq (oD 5) (.seq (oD 4) (.seq (.one (.loop [60] (rgN 29 9 ++ [5] ++ rgN 38 15 ++ [60]) (.seq (.seq (oD 3) (.cond .leaf .leaf)) (.one (.seq (oD 7) (.seq (oD 6) (.seq (.seq (oD 4) (.cond .leaf .leaf)) (.seq (oD 4) (.seq (oD 3) (.one (.rf [] (oD 1) (.one (oD 5))))))))))))) (.seq (oD 2) .leaf))))))
def vc22 (R : Value → World → Prop) (w : World) (t0 : Value) : Prop :=
 V (bx 28 t0) w fun t1 w =>
 V (fa 28 t1 5) w fun t7 w =>
 V (ld 26 t7) w fun t8 w =>
 V (Builtin.len_ #[26] 3 #[t8]) w fun t9 w =>
 V (bi .gtr 3 t9 (.int .i64 12000)) w fun t10 w =>
 ∀ K0 : List Value → World → Prop, (∀ t16, ∀ w, (∀ g : Env,
 ∀ K0 : List Value → World → Prop, (∀ t22, ∀ w, (∀ g : Env,
 CondW t22
 (R (.slice none 0 0) w)
 (V (fa 28 t1 5) w fun t23 w =>
 V (ld 26 t23) w fun t24 w =>
 V (Builtin.len_ #[26] 3 #[t24]) w fun t25 w =>
 V (ms 49 t25 t25) w fun t26 w =>
 V (ld 28 t1) w fun t27 w =>
 CV (.func (.func 73) #[] #[]) #[t27] w fun t28 w =>
 V (al 45) w fun t4 w =>
 U (st 45 t4 t28) w fun w =>
 ∃ (I0 : List Value → World → Prop) (M0 : List Value → World → Nat), I0 [undef] w ∧ ∀ g : Env, ∀ t60, ∀ w, I0 [t60] w → ∀ m0, m0 = M0 [t60] w →
 V (ld 45 t4) w fun t29 w =>
 V (Builtin.len_ #[45] 3 #[t29]) w fun t30 w =>
 V (bi .gtr 3 t30 (.int .i64 0)) w fun t31 w =>
 CondW t31
 (V (ld 45 t4) w fun t32 w =>
 V (ld 45 t4) w fun t33 w =>
 V (Builtin.len_ #[45] 3 #[t33]) w fun t34 w =>
 V (bi .sub 3 t34 (.int .i64 1)) w fun t35 w =>
 V (ia 45 t32 t35) w fun t36 w =>
 V (ld 3 t36) w fun t37 w =>
 V (ld 45 t4) w fun t38 w =>
 V (ld 45 t4) w fun t39 w =>
 V (Builtin.len_ #[45] 3 #[t39]) w fun t40 w =>
 V (bi .sub 3 t40 (.int .i64 1)) w fun t41 w =>
 V (sl 45 t38 none (some t41) none) w fun t42 w =>
 U (st 45 t4 t42) w fun w =>
 V (ia 49 t26 t37) w fun t45 w =>
 V (ld 4 t45) w fun t46 w =>
 CondW t46
 (I0 [t60] w ∧ M0 [t60] w < m0)
 (V (ia 49 t26 t37) w fun t49 w =>
 U (st 4 t49 (.bool true)) w fun w =>
 V (ld 28 t1) w fun t50 w =>
 CV (.func (.func 74) #[] #[]) #[t50, t37] w fun t52 w =>
 ∀ (lp0 : Loop) (r0 l0 : Nat) (w1 : World), NewRF w w1 r0 l0 lp0 →
 (∀ (w : World) (Kl0 : Value → World → Prop), ∀ t53, ∀ t54, (BeginW l0 lp0 w fun w =>
 V (ld 45 t4) w fun t55 w =>
 V (bs 45 1 #[(0, t53)]) w fun t57 w =>
 V (Builtin.append_ #[45, 45] 45 #[t55, t57]) w fun t58 w =>
 U (st 45 t4 t58) w fun w =>
 EndW l0 lp0 none w Kl0) → w.heap[l0]? = some (lobj lp0 .ready none) → CV (.func (.yield l0) #[] #[]) #[t53, t54] w Kl0) →
 CE t52 #[.func (.yield l0) #[] #[]] w1 fun _ w => RfEnd l0 lp0 w (fun w =>
 I0 [(.iface r0 t60)] w ∧ M0 [(.iface r0 t60)] w < m0) (fun w =>
 TakeW (marks (.iface r0 t60)) w fun w =>
 R (.slice none 0 0) w) []))
 (TakeW (marks t60) w fun w =>
 R t26 w))) → K0 [t22] w) →
 CondW t16
 (K0 [(.bool true)] w)
 (V (fa 28 t1 5) w fun t18 w =>
 V (ld 26 t18) w fun t19 w =>
 V (Builtin.len_ #[26] 3 #[t19]) w fun t20 w =>
 V (eq .eql 3 (.tmp 20) (.const (.int .i64 0)) t20 (.int .i64 0)) w fun t21 w =>
 K0 [t21] w)) → K0 [t16] w) →
 CondW t10
 (K0 [(.bool true)] w)
 (V (fa 28 t1 3) w fun t12 w =>
 V (ld 25 t12) w fun t13 w =>
 V (Builtin.len_ #[25] 3 #[t13]) w fun t14 w =>
 V (bi .gtr 3 t14 (.int .i64 3000)) w fun t15 w =>
 K0 [t15] w)
theorem en22 (h : vc22 R w t0) : Calls Tryz.prog 22 #[t0] w (retK R) := calls_of_enter mixed Tryz.func22 (by kernel_rfl) (Eq.mpr (by kernel_rfl : enterW Tryz.prog Tryz.f22 an22 [t0] w R = vc22 R w t0) h)
def an23 : Ann := (.seq (oD 4) (.seq (.seq (oD 7) (.seq (oD 2) (.cond (.seq (oD 4) .leaf) .leaf))) (.seq (oD 9) (.seq (oD 5) .leaf))))
def vc23 (R : Value → World → Prop) (w : World) (t0 : Value) : Prop :=
 V (bx 28 t0) w fun t1 w =>
 V (ld 28 t1) w fun t11 w =>
 CV (.func (.func 15) #[] #[]) #[t11] w fun t12 w =>
 V (ex t12 0) w fun t13 w =>
 V (ex t12 1) w fun t14 w =>
 V (eq .neq 31 (.tmp 15) (.const (.int .i64 0)) t13 (.int .i64 0)) w fun t16 w =>
 CondW t16
 (R (.tuple #[(.slice none 0 0), (.slice none 0 0), t13]) w)
 (V (ld 28 t1) w fun t19 w =>
 CV (.func (.func 50) #[] #[]) #[t19] w fun t20 w =>
 V (ex t20 0) w fun t21 w =>
 V (ex t20 1) w fun t22 w =>
 V (ex t20 2) w fun t23 w =>
 R (.tuple #[t21, t22, (.int .i64 0)]) w)
theorem en23 (h : vc23 R w t0) : Calls Tryz.prog 23 #[t0] w (retK R) := calls_of_enter mixed Tryz.func23 (by kernel_rfl) (Eq.mpr (by kernel_rfl : enterW Tryz.prog Tryz.f23 an23 [t0] w R = vc23 R w t0) h)
def an30 : Ann := (.seq (oD 1) (.seq (.seq (oD 5) (.cond (.seq (oD 1) .leaf) .leaf)) (.seq (.seq (oD 1) (.one (.loop [5] ([11, 12, 13, 14] ++ rgN 17 9 ++ [4, 15, 16, 5]) (.seq (.seq (oD 4) (.cond .leaf .leaf)) (.seq (.one (.seq (.draw (tkN 0 3 (.hold 3 (tkN 4 3 (.hold 7 (.take 8 .done)))))) (.cond (.seq (oD 1) .leaf) .leaf))) (oD 3)))))) (.seq (oD 1) .leaf))))
def vc30 (R : Value → World → Prop) (w : World) (t0 t1 : Value) : Prop :=
 V (Builtin.len_ #[45] 3 #[t0]) w fun t7 w =>
 V (Builtin.len_ #[45] 3 #[t1]) w fun t9 w =>
 V (eq .neq 3 (.tmp 7) (.tmp 9) t7 t9) w fun t10 w =>
 CondW t10
 (R (.bool false) w)
 (∃ (I0 : List Value → World → Prop) (M0 : List Value → World → Nat), I0 [(.int .i64 0)] w ∧ ∀ g : Env, ∀ t5, ∀ w, I0 [t5] w → ∀ m0, m0 = M0 [t5] w →
 V (Builtin.len_ #[45] 3 #[t0]) w fun t13 w =>
 V (bi .lss 3 t5 t13) w fun t14 w =>
 CondW t14
 (Dr w fun w =>
 PV (ia 45 t0 t5) fun t19 =>
 HV (ld 3 t19) w fun t20 =>
 PV (ia 45 t1 t5) fun t23 =>
 HV (ld 3 t23) w fun t24 =>
 PV (eq .neq 3 (.tmp 20) (.tmp 24) t20 t24) fun t25 =>
 CondW t25
 (R (.bool false) w)
 (V (bi .add 3 t5 (.int .i64 1)) w fun t16 w =>
 I0 [t16] w ∧ M0 [t16] w < m0))
 (R (.bool true) w))
theorem en30 (h : vc30 R w t0 t1) : Calls Tryz.prog 30 #[t0, t1] w (retK R) := calls_of_enter mixed Tryz.func30 (by kernel_rfl) (Eq.mpr (by kernel_rfl : enterW Tryz.prog Tryz.f30 an30 [t0, t1] w R = vc30 R w t0 t1) h)
def an34 : Ann := (.seq (oD 1) (.seq (.reg (opn 4 (.join [14] [11, 12, 13, 14] (.split 10 (opn 4 .done) (opn 4 .done)) (opn 1 (.join [20] [16, 17, 18, 19, 20] (.split 15 (opn 5 .done) (opn 5 .done)) (opn 1 .done)))))) .leaf))
def vc34 (R : Value → World → Prop) (w : World) (t0 t1 t2 : Value) : Prop :=
 V (bi .gtr 3 t0 t1) w fun t9 w =>
 ∀ K0 : List Value → World → Prop, (∀ t14, ∀ w, (∀ g : Env,
 ∀ K0 : List Value → World → Prop, (∀ t20, ∀ w, (∀ g : Env,
 R t20 w) → K0 [t20] w) →
 CondW t14
 (K0 [(.bool true)] w)
 (V (bi .add 3 t2 (.int .i64 20)) w fun t18 w =>
 V (bi .gtr 3 t0 t18) w fun t19 w =>
 K0 [t19] w)) → K0 [t14] w) →
 CondW t9
 (V (bi .leq 3 t0 t2) w fun t13 w =>
 K0 [t13] w)
 (K0 [(.bool false)] w)
theorem en34 (h : vc34 R w t0 t1 t2) : Calls Tryz.prog 34 #[t0, t1, t2] w (retK R) := calls_of_enter mixed Tryz.func34 (by kernel_rfl) (Eq.mpr (by kernel_rfl : enterW Tryz.prog Tryz.f34 an34 [t0, t1, t2] w R = vc34 R w t0 t1 t2) h)
def an35 : Ann := (.seq (oD 3) (.seq (.seq (oD 7) (.seq (oD 2) (.cond (.seq (oD 3) .leaf) .leaf))) (.seq (oD 5) (.seq (oD 6) (.seq (oD 5) (.seq (oD 5) (.seq (oD 6) (.seq (oD 6) (.seq (oD 6) (.seq (.seq (oD 6) (.cond (.seq (oD 2) .leaf) .leaf)) (.seq (oD 6) .leaf)))))))))))
def vc35 (R : Value → World → Prop) (w : World) (t0 : Value) : Prop :=
 V (bx 28 t0) w fun t1 w =>
 V (ld 28 t1) w fun t8 w =>
 CV (.func (.func 15) #[] #[]) #[t8] w fun t9 w =>
 V (ex t9 0) w fun t10 w =>
 V (ex t9 1) w fun t11 w =>
 V (eq .neq 31 (.tmp 12) (.const (.int .i64 0)) t10 (.int .i64 0)) w fun t13 w =>
 CondW t13
 (R (.tuple #[(.slice none 0 0), t10]) w)
 (V (bs 55 1 #[(0, (.int .u8 81))]) w fun t15 w =>
 V (bd 156 #[(0, t15)]) w fun t16 w =>
 V (bx 156 t16) w fun t17 w =>
 V (al 154) w fun t6 w =>
 U (st 154 t6 t17) w fun w =>
 V (ld 154 t6) w fun t18 w =>
 V (fa 28 t1 0) w fun t19 w =>
 V (ld 22 t19) w fun t20 w =>
 V (ld 154 t6) w fun t21 w =>
 CV (.func (.func 91) #[] #[]) #[t18, t20, (.func (.func 92) #[t21] #[])] w fun t23 w =>
 V (ld 154 t6) w fun t24 w =>
 V (fa 28 t1 1) w fun t25 w =>
 V (ld 23 t25) w fun t26 w =>
 CV (.func (.func 93) #[] #[]) #[t24, t26, (.func (.func 94) #[] #[t6])] w fun t28 w =>
 V (ld 154 t6) w fun t29 w =>
 V (fa 28 t1 2) w fun t30 w =>
 V (ld 24 t30) w fun t31 w =>
 CV (.func (.func 97) #[] #[]) #[t29, t31, (.func (.func 98) #[] #[t6])] w fun t33 w =>
 V (ld 154 t6) w fun t34 w =>
 V (fa 28 t1 3) w fun t35 w =>
 V (ld 25 t35) w fun t36 w =>
 V (ld 154 t6) w fun t37 w =>
 CV (.func (.func 101) #[] #[]) #[t34, t36, (.func (.func 102) #[t37] #[])] w fun t39 w =>
 V (ld 154 t6) w fun t40 w =>
 V (fa 28 t1 4) w fun t41 w =>
 V (ld 22 t41) w fun t42 w =>
 V (ld 154 t6) w fun t43 w =>
 CV (.func (.func 91) #[] #[]) #[t40, t42, (.func (.func 92) #[t43] #[])] w fun t45 w =>
 V (ld 154 t6) w fun t46 w =>
 V (fa 28 t1 5) w fun t47 w =>
 V (ld 26 t47) w fun t48 w =>
 V (ld 154 t6) w fun t49 w =>
 CV (.func (.func 103) #[] #[]) #[t46, t48, (.func (.func 104) #[t49] #[])] w fun t51 w =>
 V (ld 154 t6) w fun t52 w =>
 NilW t52 fun t53 => V (fa 156 t53 0) w fun t54 w =>
 V (ld 55 t54) w fun t55 w =>
 V (Builtin.len_ #[55] 3 #[t55]) w fun t56 w =>
 V (bi .gtr 3 t56 (.int .i64 400000)) w fun t57 w =>
 CondW t57
 (R (.tuple #[(.slice none 0 0), (.int .i64 3)]) w)
 (V (ld 154 t6) w fun t58 w =>
 NilW t58 fun t59 => V (fa 156 t59 0) w fun t60 w =>
 V (ld 55 t60) w fun t61 w =>
 R (.tuple #[t61, (.int .i64 0)]) w))
theorem en35 (h : vc35 R w t0) : Calls Tryz.prog 35 #[t0] w (retK R) := calls_of_enter mixed Tryz.func35 (by kernel_rfl) (Eq.mpr (by kernel_rfl : enterW Tryz.prog Tryz.f35 an35 [t0] w R = vc35 R w t0) h)
def an40 : Ann := (.seq (oD 3) (.seq (.seq (oD 7) (.seq (oD 2) (.cond (.seq (oD 3) .leaf) .leaf))) (.seq (oD 1) (.seq (oD 2) (.seq (.seq (oD 4) (.one (.loop [32] ([33, 34, 35, 9] ++ rgN 36 7 ++ [32]) (.seq (oD 1) (.seq (.cond .leaf .leaf) (.seq (.one (.seq (oD 3) (oD 6))) (oD 2))))))) (.seq (.seq (oD 4) (.one (.loop [46] [47, 48, 49, 11, 50, 51, 52, 53, 54, 46] (.seq (oD 1) (.seq (.cond .leaf .leaf) (.seq (.one (.seq (oD 3) (oD 4))) (oD 2))))))) (.seq (.seq (oD 4) (.one (.loop [58] [59, 60, 61, 13, 62, 63, 64, 65, 66, 58] (.seq (oD 1) (.seq (.cond .leaf .leaf) (.seq (.one (.seq (oD 3) (oD 4))) (oD 2))))))) (.seq (.seq (oD 4) (.one (.loop [70] [71, 72, 73, 15, 74, 75, 76, 77, 78, 70] (.seq (oD 1) (.seq (.cond .leaf .leaf) (.seq (.one (.seq (oD 4) (oD 4))) (oD 2))))))) (.seq (.seq (oD 4) (.one (.loop [82] ([83, 84, 85, 17] ++ rgN 86 6 ++ [82]) (.seq (oD 1) (.seq (.cond .leaf .leaf) (.seq (.one (.seq (oD 3) (oD 5))) (oD 2))))))) (.seq (.seq (oD 4) (.one (.loop [95] [96, 97, 98, 19, 99, 100, 101, 102, 103, 95] (.seq (oD 1) (.seq (.cond .leaf .leaf) (.seq (.one (.seq (oD 4) (oD 4))) (oD 2))))))) (.seq (oD 3) .leaf)))))))))))
def vc40 (R : Value → World → Prop) (w : World) (t0 : Value) : Prop :=
 V (bx 28 t0) w fun t1 w =>
 V (ld 28 t1) w fun t21 w =>
 CV (.func (.func 15) #[] #[]) #[t21] w fun t22 w =>
 V (ex t22 0) w fun t23 w =>
 V (ex t22 1) w fun t24 w =>
 V (eq .neq 31 (.tmp 25) (.const (.int .i64 0)) t23 (.int .i64 0)) w fun t26 w =>
 CondW t26
 (R (.tuple #[(.string ⟨#[]⟩), t23]) w)
 (V (al 199) w fun t6 w =>
 V (fa 28 t1 0) w fun t29 w =>
 V (ld 22 t29) w fun t30 w =>
 V (Builtin.len_ #[22] 3 #[t30]) w fun t31 w =>
 ∃ (I0 : List Value → World → Prop) (M0 : List Value → World → Nat), I0 [(.int .i64 0)] w ∧ ∀ g : Env, ∀ t32, ∀ w, I0 [t32] w → ∀ m0, m0 = M0 [t32] w →
 V (bi .lss 3 t32 t31) w fun t33 w =>
 CondW t33
 (V (ia 22 t30 t32) w fun t34 w =>
 V (ld 9 t34) w fun t35 w =>
 CV (.func (.func 127) #[] #[]) #[t35] w fun t38 w =>
 V (bs 22 2 #[(0, (.string ⟨#[116, 101, 120, 116]⟩)), (1, t38)]) w fun t39 w =>
 CV (.func (.func 126) #[] #[]) #[t39] w fun t40 w =>
 CV (.func (.func 124) #[] #[t6]) #[t40] w fun t41 w =>
 V (bi .add 3 t32 (.int .i64 1)) w fun t42 w =>
 I0 [t42] w ∧ M0 [t42] w < m0)
 (V (fa 28 t1 1) w fun t43 w =>
 V (ld 23 t43) w fun t44 w =>
 V (Builtin.len_ #[23] 3 #[t44]) w fun t45 w =>
 ∃ (I1 : List Value → World → Prop) (M1 : List Value → World → Nat), I1 [(.int .i64 0)] w ∧ ∀ g : Env, ∀ t46, ∀ w, I1 [t46] w → ∀ m1, m1 = M1 [t46] w →
 V (bi .lss 3 t46 t45) w fun t47 w =>
 CondW t47
 (V (ia 23 t44 t46) w fun t48 w =>
 V (ld 93 t48) w fun t49 w =>
 CV (.func (.func 128) #[] #[]) #[t49] w fun t52 w =>
 CV (.func (.func 124) #[] #[t6]) #[t52] w fun t53 w =>
 V (bi .add 3 t46 (.int .i64 1)) w fun t54 w =>
 I1 [t54] w ∧ M1 [t54] w < m1)
 (V (fa 28 t1 2) w fun t55 w =>
 V (ld 24 t55) w fun t56 w =>
 V (Builtin.len_ #[24] 3 #[t56]) w fun t57 w =>
 ∃ (I2 : List Value → World → Prop) (M2 : List Value → World → Nat), I2 [(.int .i64 0)] w ∧ ∀ g : Env, ∀ t58, ∀ w, I2 [t58] w → ∀ m2, m2 = M2 [t58] w →
 V (bi .lss 3 t58 t57) w fun t59 w =>
 CondW t59
 (V (ia 24 t56 t58) w fun t60 w =>
 V (ld 96 t60) w fun t61 w =>
 CV (.func (.func 129) #[] #[]) #[t61] w fun t64 w =>
 CV (.func (.func 124) #[] #[t6]) #[t64] w fun t65 w =>
 V (bi .add 3 t58 (.int .i64 1)) w fun t66 w =>
 I2 [t66] w ∧ M2 [t66] w < m2)
 (V (fa 28 t1 3) w fun t67 w =>
 V (ld 25 t67) w fun t68 w =>
 V (Builtin.len_ #[25] 3 #[t68]) w fun t69 w =>
 ∃ (I3 : List Value → World → Prop) (M3 : List Value → World → Nat), I3 [(.int .i64 0)] w ∧ ∀ g : Env, ∀ t70, ∀ w, I3 [t70] w → ∀ m3, m3 = M3 [t70] w →
 V (bi .lss 3 t70 t69) w fun t71 w =>
 CondW t71
 (V (ia 25 t68 t70) w fun t72 w =>
 V (ld 54 t72) w fun t73 w =>
 V (al 54) w fun t15 w =>
 U (st 54 t15 t73) w fun w =>
 V (ld 54 t15) w fun t75 w =>
 CV (.func (.func 130) #[] #[]) #[t75] w fun t76 w =>
 CV (.func (.func 124) #[] #[t6]) #[t76] w fun t77 w =>
 V (bi .add 3 t70 (.int .i64 1)) w fun t78 w =>
 I3 [t78] w ∧ M3 [t78] w < m3)
 (V (fa 28 t1 4) w fun t79 w =>
 V (ld 22 t79) w fun t80 w =>
 V (Builtin.len_ #[22] 3 #[t80]) w fun t81 w =>
 ∃ (I4 : List Value → World → Prop) (M4 : List Value → World → Nat), I4 [(.int .i64 0)] w ∧ ∀ g : Env, ∀ t82, ∀ w, I4 [t82] w → ∀ m4, m4 = M4 [t82] w →
 V (bi .lss 3 t82 t81) w fun t83 w =>
 CondW t83
 (V (ia 22 t80 t82) w fun t84 w =>
 V (ld 9 t84) w fun t85 w =>
 V (bs 22 2 #[(0, (.string ⟨#[110, 97, 109, 101]⟩)), (1, t85)]) w fun t88 w =>
 CV (.func (.func 126) #[] #[]) #[t88] w fun t89 w =>
 CV (.func (.func 124) #[] #[t6]) #[t89] w fun t90 w =>
 V (bi .add 3 t82 (.int .i64 1)) w fun t91 w =>
 I4 [t91] w ∧ M4 [t91] w < m4)
 (V (fa 28 t1 5) w fun t92 w =>
 V (ld 26 t92) w fun t93 w =>
 V (Builtin.len_ #[26] 3 #[t93]) w fun t94 w =>
 ∃ (I5 : List Value → World → Prop) (M5 : List Value → World → Nat), I5 [(.int .i64 0)] w ∧ ∀ g : Env, ∀ t95, ∀ w, I5 [t95] w → ∀ m5, m5 = M5 [t95] w →
 V (bi .lss 3 t95 t94) w fun t96 w =>
 CondW t96
 (V (ia 26 t93 t95) w fun t97 w =>
 V (ld 38 t97) w fun t98 w =>
 V (al 38) w fun t19 w =>
 U (st 38 t19 t98) w fun w =>
 V (ld 38 t19) w fun t100 w =>
 CV (.func (.func 131) #[] #[]) #[t100] w fun t101 w =>
 CV (.func (.func 124) #[] #[t6]) #[t101] w fun t102 w =>
 V (bi .add 3 t95 (.int .i64 1)) w fun t103 w =>
 I5 [t103] w ∧ M5 [t103] w < m5)
 (CV (.func (.func 132) #[] #[]) #[t6] w fun t104 w =>
 R (.tuple #[t104, (.int .i64 0)]) w)))))))
theorem en40 (h : vc40 R w t0) : Calls Tryz.prog 40 #[t0] w (retK R) := calls_of_enter mixed Tryz.func40 (by kernel_rfl) (Eq.mpr (by kernel_rfl : enterW Tryz.prog Tryz.f40 an40 [t0] w R = vc40 R w t0) h)
def an44 : Ann := (.seq (oD 1) (.seq (oD 10) .leaf))
def vc44 (R : Value → World → Prop) (w : World) : Prop :=
 V (al 28) w fun t0 w =>
 V (bs 22 3 #[(0, (.string ⟨#[83, 65, 89, 32, 49]⟩)), (1, (.string ⟨#[49]⟩)), (2, (.string ⟨#[65]⟩))]) w fun t1 w =>
 CV (.func (.func 45) #[] #[]) #[(.int .i64 1), (.int .i64 1), (.int .i64 0), (.int .i64 0)] w fun t2 w =>
 CV (.func (.func 45) #[] #[]) #[(.int .i64 3), (.int .i64 1), (.int .i64 0), (.int .i64 0)] w fun t3 w =>
 CV (.func (.func 45) #[] #[]) #[(.int .i64 13), (.int .i64 0), (.int .i64 0), (.int .i64 0)] w fun t4 w =>
 CV (.func (.func 45) #[] #[]) #[(.int .i64 39), (.int .i64 0), (.int .i64 0), (.int .i64 0)] w fun t5 w =>
 CV (.func (.func 45) #[] #[]) #[(.int .i64 2), (.int .i64 0), (.int .i64 0), (.int .i64 0)] w fun t6 w =>
 CV (.func (.func 45) #[] #[]) #[(.int .i64 46), (.int .i64 0), (.int .i64 0), (.int .i64 0)] w fun t7 w =>
 V (bs 26 6 #[(0, t2), (1, t3), (2, t4), (3, t5), (4, t6), (5, t7)]) w fun t8 w =>
 V (bd 28 #[(0, t1), (5, t8)]) w fun t9 w =>
 U (st 28 t0 t9) w fun w =>
 CW 28 t0 w fun t1000 => R t1000 w
theorem en44 (h : vc44 R w ) : Calls Tryz.prog 44 #[] w (retK R) := calls_of_enter mixed Tryz.func44 (by kernel_rfl) (Eq.mpr (by kernel_rfl : enterW Tryz.prog Tryz.f44 an44 [] w R = vc44 R w ) h)
def an45 : Ann := (.seq (oD 1) (.seq (oD 6) .leaf))
def vc45 (R : Value → World → Prop) (w : World) (t0 t1 t2 t3 : Value) : Prop :=
 V (al 38) w fun t8 w =>
 V (bd 38 #[(0, t0), (1, t1), (2, t2), (3, t3)]) w fun t13 w =>
 U (st 38 t8 t13) w fun w =>
 CW 38 t8 w fun t1008 => R t1008 w
theorem en45 (h : vc45 R w t0 t1 t2 t3) : Calls Tryz.prog 45 #[t0, t1, t2, t3] w (retK R) := calls_of_enter mixed Tryz.func45 (by kernel_rfl) (Eq.mpr (by kernel_rfl : enterW Tryz.prog Tryz.f45 an45 [t0, t1, t2, t3] w R = vc45 R w t0 t1 t2 t3) h)
def an46 : Ann := (.seq (oD 2) (.seq (oD 2) (.seq (oD 27) (.seq (.seq (oD 2) (.one (.loop [34] [35, 36, 6, 37, 38, 39, 40, 41, 2, 42, 34] (.seq (oD 1) (.seq (.cond .leaf .leaf) (.seq (.one (.seq (oD 3) (.seq (oD 5) (.cond (.seq (oD 1) .leaf) .leaf)))) (oD 2))))))) (.seq (oD 5) (.seq (.reg (opn 2 (.join [53] [49, 50, 51, 52, 53] (.split 48 (opn 5 .done) (opn 5 .done)) (opn 1 (.join [58] [55, 56, 57, 58] (.split 54 (opn 4 .done) (opn 4 .done)) (opn 1 (.join [64] [60, 61, 62, 63, 64] (.split 59 (opn 5 .done) (opn 5 .done)) (opn 1 .done)))))))) .leaf))))))
def vc46 (R : Value → World → Prop) (w : World) (t0 : Value) : Prop :=
 V (bx 28 t0) w fun t1 w =>
 V (al 215) w fun t3 w =>
 U (st 215 t3 (.func (.func 137) #[] #[])) w fun w =>
 V (fa 28 t1 0) w fun t8 w =>
 V (ld 22 t8) w fun t9 w =>
 V (Builtin.len_ #[22] 3 #[t9]) w fun t10 w =>
 V (bd 219 #[(0, t10), (1, (.int .i64 3000))]) w fun t11 w =>
 V (fa 28 t1 1) w fun t12 w =>
 V (ld 23 t12) w fun t13 w =>
 V (Builtin.len_ #[23] 3 #[t13]) w fun t14 w =>
 V (bd 219 #[(0, t14), (1, (.int .i64 3000))]) w fun t15 w =>
 V (fa 28 t1 2) w fun t16 w =>
 V (ld 24 t16) w fun t17 w =>
 V (Builtin.len_ #[24] 3 #[t17]) w fun t18 w =>
 V (bd 219 #[(0, t18), (1, (.int .i64 3000))]) w fun t19 w =>
 V (fa 28 t1 3) w fun t20 w =>
 V (ld 25 t20) w fun t21 w =>
 V (Builtin.len_ #[25] 3 #[t21]) w fun t22 w =>
 V (bd 219 #[(0, t22), (1, (.int .i64 3000))]) w fun t23 w =>
 V (fa 28 t1 4) w fun t24 w =>
 V (ld 22 t24) w fun t25 w =>
 V (Builtin.len_ #[22] 3 #[t25]) w fun t26 w =>
 V (bd 219 #[(0, t26), (1, (.int .i64 100))]) w fun t27 w =>
 V (fa 28 t1 5) w fun t28 w =>
 V (ld 26 t28) w fun t29 w =>
 V (Builtin.len_ #[26] 3 #[t29]) w fun t30 w =>
 V (bd 219 #[(0, t30), (1, (.int .i64 12000))]) w fun t31 w =>
 V (bd 220 #[(0, t11), (1, t15), (2, t19), (3, t23), (4, t27), (5, t31)]) w fun t32 w =>
 V (al 220) w fun t4 w =>
 U (st 220 t4 t32) w fun w =>
 V (ld 220 t4) w fun t33 w =>
 ∃ (I0 : List Value → World → Prop) (M0 : List Value → World → Nat), I0 [(.int .i64 0)] w ∧ ∀ g : Env, ∀ t34, ∀ w, I0 [t34] w → ∀ m0, m0 = M0 [t34] w →
 V (bi .lss 3 t34 (.int .i64 6)) w fun t35 w =>
 CondW t35
 (V (ix 220 t33 t34) w fun t36 w =>
 V (al 219) w fun t6 w =>
 U (st 219 t6 t36) w fun w =>
 V (ia 219 t6 (.int .i64 0)) w fun t37 w =>
 V (ld 3 t37) w fun t38 w =>
 V (ia 219 t6 (.int .i64 1)) w fun t39 w =>
 V (ld 3 t39) w fun t40 w =>
 V (bi .gtr 3 t38 t40) w fun t41 w =>
 CondW t41
 (R (.bool false) w)
 (V (bi .add 3 t34 (.int .i64 1)) w fun t42 w =>
 I0 [t42] w ∧ M0 [t42] w < m0))
 (V (fa 28 t1 1) w fun t43 w =>
 V (ld 23 t43) w fun t44 w =>
 CV (.func (.func 138) #[] #[]) #[t44, (.func (.func 139) #[] #[t3])] w fun t46 w =>
 ∀ K0 : List Value → World → Prop, (∀ t53, ∀ w, (∀ g : Env,
 ∀ K0 : List Value → World → Prop, (∀ t58, ∀ w, (∀ g : Env,
 ∀ K0 : List Value → World → Prop, (∀ t64, ∀ w, (∀ g : Env,
 R t64 w) → K0 [t64] w) →
 CondW t58
 (V (fa 28 t1 3) w fun t60 w =>
 V (ld 25 t60) w fun t61 w =>
 CV (.func (.func 145) #[] #[]) #[t61, (.func (.func 146) #[] #[t3])] w fun t63 w =>
 K0 [t63] w)
 (K0 [(.bool false)] w)) → K0 [t58] w) →
 CondW t53
 (V (fa 28 t1 2) w fun t55 w =>
 V (ld 24 t55) w fun t56 w =>
 CV (.func (.func 143) #[] #[]) #[t56, (.func (.func 144) #[] #[])] w fun t57 w =>
 K0 [t57] w)
 (K0 [(.bool false)] w)) → K0 [t53] w) →
 CondW t46
 (V (fa 28 t1 0) w fun t49 w =>
 V (ld 22 t49) w fun t50 w =>
 V (ld 215 t3) w fun t51 w =>
 CV (.func (.func 142) #[] #[]) #[t50, t51] w fun t52 w =>
 K0 [t52] w)
 (K0 [(.bool false)] w))
theorem en46 (h : vc46 R w t0) : Calls Tryz.prog 46 #[t0] w (retK R) := calls_of_enter mixed Tryz.func46 (by kernel_rfl) (Eq.mpr (by kernel_rfl : enterW Tryz.prog Tryz.f46 an46 [t0] w R = vc46 R w t0) h)
def an47 : Ann := (.seq (oD 2) (.seq (.seq (.reg (opn 5 (.join [17] [13, 14, 15, 16, 17] (.split 12 (opn 5 .done) (opn 5 .done)) (opn 1 (.join [23] [19, 20, 21, 22, 23] (.split 18 (opn 5 .done) (opn 5 .done)) .done))))) (.cond (.seq (oD 1) .leaf) .leaf)) (.seq (oD 4) (.seq (oD 2) (.seq (oD 5) (.seq (oD 3) (.seq (oD 5) (.seq (.reg (opn 2 (.join [39] [38, 39] (.split 37 (opn 2 .done) (opn 2 .done)) (opn 1 (.join [42] [41, 42] (.split 40 (opn 2 .done) (opn 2 .done)) (opn 1 .done)))))) .leaf))))))))
def vc47 (R : Value → World → Prop) (w : World) (t0 : Value) : Prop :=
 V (bx 28 t0) w fun t1 w =>
 V (fa 28 t1 5) w fun t8 w =>
 V (ld 26 t8) w fun t9 w =>
 V (Builtin.len_ #[26] 3 #[t9]) w fun t10 w =>
 V (eq .eql 3 (.tmp 10) (.const (.int .i64 0)) t10 (.int .i64 0)) w fun t11 w =>
 ∀ K0 : List Value → World → Prop, (∀ t17, ∀ w, (∀ g : Env,
 ∀ K0 : List Value → World → Prop, (∀ t23, ∀ w, (∀ g : Env,
 CondW t23
 (R (.bool false) w)
 (V (fa 28 t1 2) w fun t24 w =>
 V (ld 24 t24) w fun t25 w =>
 CV (.func (.func 143) #[] #[]) #[t25, (.func (.func 150) #[] #[])] w fun t26 w =>
 V (al 3) w fun t4 w =>
 U (st 3 t4 (.int .i64 0)) w fun w =>
 V (fa 28 t1 3) w fun t27 w =>
 V (ld 25 t27) w fun t28 w =>
 CV (.func (.func 145) #[] #[]) #[t28, (.func (.func 154) #[] #[t4, t1])] w fun t30 w =>
 V (mm 231 none) w fun t31 w =>
 V (al 231) w fun t6 w =>
 U (st 231 t6 t31) w fun w =>
 V (fa 28 t1 4) w fun t32 w =>
 V (ld 22 t32) w fun t33 w =>
 CV (.func (.func 142) #[] #[]) #[t33, (.func (.func 155) #[] #[t6])] w fun t35 w =>
 ∀ K0 : List Value → World → Prop, (∀ t39, ∀ w, (∀ g : Env,
 ∀ K0 : List Value → World → Prop, (∀ t42, ∀ w, (∀ g : Env,
 R t42 w) → K0 [t42] w) →
 CondW t39
 (K0 [t35] w)
 (K0 [(.bool false)] w)) → K0 [t39] w) →
 CondW t26
 (K0 [t30] w)
 (K0 [(.bool false)] w))) → K0 [t23] w) →
 CondW t17
 (K0 [(.bool true)] w)
 (V (fa 28 t1 1) w fun t19 w =>
 V (ld 23 t19) w fun t20 w =>
 CV (.func (.func 138) #[] #[]) #[t20, (.func (.func 148) #[] #[])] w fun t21 w =>
 V (un .not t21) w fun t22 w =>
 K0 [t22] w)) → K0 [t17] w) →
 CondW t11
 (K0 [(.bool true)] w)
 (V (fa 28 t1 0) w fun t13 w =>
 V (ld 22 t13) w fun t14 w =>
 CV (.func (.func 142) #[] #[]) #[t14, (.func (.func 147) #[] #[])] w fun t15 w =>
 V (un .not t15) w fun t16 w =>
 K0 [t16] w)
theorem en47 (h : vc47 R w t0) : Calls Tryz.prog 47 #[t0] w (retK R) := calls_of_enter mixed Tryz.func47 (by kernel_rfl) (Eq.mpr (by kernel_rfl : enterW Tryz.prog Tryz.f47 an47 [t0] w R = vc47 R w t0) h)
def an48 : Ann := (.seq (oD 3) (.seq (oD 8) (.seq (.seq (oD 2) (.cond (.seq (oD 1) .leaf) .leaf)) (.seq (.seq (oD 8) (.one (.loop [23] ([24, 25, 26, 7, 8] ++ rgN 27 8 ++ [4, 35, 23]) (.seq (oD 1) (.seq (.cond .leaf .leaf) (.seq (.one (.seq (oD 4) (.seq (.draw (.hold 0 (tkN 1 3 (.hold 4 (.take 5 (.alts (.eff 6 (.take 7 .done) .nil))))))) (.cond (.seq (oD 1) .leaf) .leaf)))) (oD 2))))))) (.seq (oD 4) .leaf)))))
def vc48 (R : Value → World → Prop) (w : World) (t0 t1 : Value) : Prop :=
 V (bx 28 t0) w fun t2 w =>
 V (bx 38 t1) w fun t3 w =>
 V (ld 38 t3) w fun t10 w =>
 CV (.func (.func 49) #[] #[]) #[t10] w fun t11 w =>
 V (ex t11 0) w fun t12 w =>
 V (ex t11 1) w fun t13 w =>
 V (al 102) w fun t5 w =>
 U (st 102 t5 t12) w fun w =>
 V (un .not t13) w fun t15 w =>
 CondW t15
 (R (.bool false) w)
 (V (fa 38 t3 1) w fun t16 w =>
 V (ld 3 t16) w fun t17 w =>
 V (fa 38 t3 2) w fun t18 w =>
 V (ld 3 t18) w fun t19 w =>
 V (fa 38 t3 3) w fun t20 w =>
 V (ld 3 t20) w fun t21 w =>
 V (bd 100 #[(0, t17), (1, t19), (2, t21)]) w fun t22 w =>
 ∃ (I0 : List Value → World → Prop) (M0 : List Value → World → Nat), I0 [(.int .i64 0)] w ∧ ∀ g : Env, ∀ t23, ∀ w, I0 [t23] w → ∀ m0, m0 = M0 [t23] w →
 V (bi .lss 3 t23 (.int .i64 3)) w fun t24 w =>
 CondW t24
 (V (ix 100 t22 t23) w fun t26 w =>
 Dr w fun w =>
 HV (ld 28 t2) w fun t27 =>
 PV (fa 102 t5 1) fun t29 =>
 PV (ia 100 t29 t23) fun t30 =>
 HV (ld 3 t30) w fun t31 =>
 CV (.func (.func 157) #[] #[]) #[t27, t31, t26] w fun t33 w =>
 PV (un .not t33) fun t34 =>
 CondW t34
 (R (.bool false) w)
 (V (bi .add 3 t23 (.int .i64 1)) w fun t35 w =>
 I0 [t35] w ∧ M0 [t35] w < m0))
 (V (ld 28 t2) w fun t36 w =>
 V (ld 38 t3) w fun t37 w =>
 CV (.func (.func 158) #[] #[]) #[t36, t37] w fun t38 w =>
 R t38 w))
theorem en48 (h : vc48 R w t0 t1) : Calls Tryz.prog 48 #[t0, t1] w (retK R) := calls_of_enter mixed Tryz.func48 (by kernel_rfl) (Eq.mpr (by kernel_rfl : enterW Tryz.prog Tryz.f48 an48 [t0, t1] w R = vc48 R w t0 t1) h)
def an49 : Ann := (.seq (oD 3) (.seq (.seq (.reg (opn 4 (.join [11] [8, 9, 10, 11] (.split 7 (opn 4 .done) (opn 4 .done)) .done))) (.cond (.seq (oD 3) .leaf) .leaf)) (.seq (.draw (.take 1 (.hold 2 (.alts (.eff 0 (.take 3 (.alts (.eff 4 (.take 5 .done) .nil))) .nil))))) .leaf)))
def vc49 (R : Value → World → Prop) (w : World) (t0 : Value) : Prop :=
 V (bx 38 t0) w fun t1 w =>
 V (al 102) w fun t2 w =>
 V (fa 38 t1 0) w fun t4 w =>
 V (ld 3 t4) w fun t5 w =>
 V (bi .lss 3 t5 (.int .i64 1)) w fun t6 w =>
 ∀ K0 : List Value → World → Prop, (∀ t11, ∀ w, (∀ g : Env,
 CondW t11
 (V (bd 102 #[]) w fun t12 w =>
 U (st 102 t2 t12) w fun w =>
 CW 102 t2 w fun t1002 => R (.tuple #[t1002, (.bool false)]) w)
 (Dr w fun w =>
 PV (fa 38 t1 0) fun t14 =>
 HV (ld 3 t14) w fun t15 =>
 CV (.func (.func 159) #[] #[]) #[] w fun t13 w =>
 RunIs (ld 3 t14) w t15 ∧ (PV (ix 234 t13 t15) fun t16 =>
 U (st 102 t2 t16) w fun w =>
 CW 102 t2 w fun t1002 => R (.tuple #[t1002, (.bool true)]) w))) → K0 [t11] w) →
 CondW t6
 (K0 [(.bool true)] w)
 (V (fa 38 t1 0) w fun t8 w =>
 V (ld 3 t8) w fun t9 w =>
 V (bi .gtr 3 t9 (.int .i64 46)) w fun t10 w =>
 K0 [t10] w)
theorem en49 (h : vc49 R w t0) : Calls Tryz.prog 49 #[t0] w (retK R) := calls_of_enter mixed Tryz.func49 (by kernel_rfl) (Eq.mpr (by kernel_rfl : enterW Tryz.prog Tryz.f49 an49 [t0] w R = vc49 R w t0) h)
def an50 : Ann := (.seq (oD 4) (.seq (oD 3) (.seq (oD 1) (.seq (oD 3) (.seq (.seq (oD 4) (.one (.loop [28] ([29, 30, 31, 9] ++ rgN 32 6 ++ [28]) (.seq (oD 1) (.seq (.cond .leaf .leaf) (.seq (.one (.seq (oD 3) (.seq (oD 5) (.cond (.seq (oD 3) .leaf) .leaf)))) (oD 2))))))) (.seq (.one (.loop [141] (rgN 38 9 ++ [10] ++ rgN 47 13 ++ [11, 12, 61, 62, 60, 63, 64, 65, 13, 14, 15] ++ rgN 66 25 ++ [141]) (.seq (.seq (oD 3) (.cond .leaf .leaf)) (.one (.seq (oD 7) (.seq (oD 6) (.seqJ [11, 12] (rgN 52 8 ++ [11, 12]) (.draw (.take 0 (.hold 1 (.take 2 (.take 3 (.hold 4 (.hold 5 (.take 6 (.hold 7 (.alts (.eff 8 (.alts (.eff 9 (.alts (.eff 10 (.alts (.eff 11 .done .nil)) .nil)) .nil)) (.eff 9 (.alts (.eff 8 (.alts (.eff 10 (.alts (.eff 11 .done .nil)) .nil)) .nil)) .nil)))))))))))) (.seq (oD 9) (.seq (.seq (.reg (opn 5 (.join [75] [71, 72, 73, 74, 75] (.split 70 (opn 5 .done) (opn 5 .done)) (opn 1 (.join [87] (rgN 77 11) (.split 76 (opn 11 .done) (opn 4 (.join [86] (rgN 81 6) (.split 80 (opn 6 .done) (opn 6 .done)) (opn 1 .done)))) .done))))) (.cond (.seq (oD 3) .leaf) .leaf)) (.seq (oD 3) (.one (.rf [] (.seq (oD 1) (oD 1)) (.one (.seq (.draw (.hold 0 (.take 1 (.hold 2 (.hold 3 (.take 4 (.alts (.eff 5 (.alts (.eff 6 (.take 7 .done) .nil)) .nil)))))))) (.cond (.seq (oD 3) .leaf) .leaf))))))))))))))) (.seqJ [18, 19] (rgN 101 8 ++ [18, 19]) (.draw (.take 0 (.hold 1 (.take 2 (.take 4 (.hold 5 (.take 6 (.alts (.eff 3 (.take 8 (.alts (.eff 7 (.take 9 .done) .nil))) (.eff 7 (.alts (.eff 3 (.take 8 (.take 9 .done)) .nil)) .nil)))))))))) (.seq (.seq (oD 4) (.one (.loop [112] ([113, 114, 20] ++ rgN 115 6 ++ [122, 123, 124, 121, 125, 126, 21, 22] ++ rgN 127 12 ++ [112]) (.seq (oD 1) (.seq (.cond .leaf .leaf) (.seqJ [] ([114, 20] ++ rgN 115 6 ++ [122, 123, 124, 121, 125, 126, 21, 22] ++ rgN 127 11) (.one (.seq (oD 2) (.seq (oD 8) (.seq (oD 9) (.seq (oD 1) (.cond (.draw (tkN 0 5 (.hold 5 (.take 6 (.hold 7 (.take 8 (.alts (.eff 9 (.take 10 (.alts (.eff 11 .done .nil))) .nil)))))))) .leaf)))))) (oD 2))))))) (.seq (oD 5) .leaf)))))))))
def vc50 (R : Value → World → Prop) (w : World) (t0 : Value) : Prop :=
 V (bx 28 t0) w fun t1 w =>
 V (al 45) w fun t2 w =>
 V (al 45) w fun t3 w =>
 V (al 4) w fun t4 w =>
 V (mm 236 none) w fun t23 w =>
 V (al 236) w fun t5 w =>
 U (st 236 t5 t23) w fun w =>
 V (al 45) w fun t6 w =>
 V (al 240) w fun t7 w =>
 U (st 240 t7 (.func (.func 160) #[] #[t5, t6])) w fun w =>
 V (ld 28 t1) w fun t25 w =>
 CV (.func (.func 73) #[] #[]) #[t25] w fun t26 w =>
 V (Builtin.len_ #[45] 3 #[t26]) w fun t27 w =>
 ∃ (I0 : List Value → World → Prop) (M0 : List Value → World → Nat), I0 [(.int .i64 0)] w ∧ ∀ g : Env, ∀ t28, ∀ w, I0 [t28] w → ∀ m0, m0 = M0 [t28] w →
 V (bi .lss 3 t28 t27) w fun t29 w =>
 CondW t29
 (V (ia 45 t26 t28) w fun t30 w =>
 V (ld 3 t30) w fun t31 w =>
 V (ld 240 t7) w fun t32 w =>
 V (bd 238 #[]) w fun t34 w =>
 CV t32 #[t31, t34] w fun t35 w =>
 V (un .not t35) w fun t36 w =>
 CondW t36
 (U (st 45 t2 (.slice none 0 0)) w fun w =>
 U (st 45 t3 (.slice none 0 0)) w fun w =>
 U (st 4 t4 (.bool false)) w fun w =>
 CW 45 t2 w fun t1002 => CW 45 t3 w fun t1003 => CW 4 t4 w fun t1004 => R (.tuple #[t1002, t1003, t1004]) w)
 (V (bi .add 3 t28 (.int .i64 1)) w fun t37 w =>
 I0 [t37] w ∧ M0 [t37] w < m0))
 (∃ (I1 : List Value → World → Prop) (M1 : List Value → World → Nat), I1 [undef] w ∧ ∀ g : Env, ∀ t141, ∀ w, I1 [t141] w → ∀ m1, m1 = M1 [t141] w →
 V (ld 45 t6) w fun t38 w =>
 V (Builtin.len_ #[45] 3 #[t38]) w fun t39 w =>
 V (bi .gtr 3 t39 (.int .i64 0)) w fun t40 w =>
 CondW t40
 (V (ld 45 t6) w fun t41 w =>
 V (ld 45 t6) w fun t42 w =>
 V (Builtin.len_ #[45] 3 #[t42]) w fun t43 w =>
 V (bi .sub 3 t43 (.int .i64 1)) w fun t44 w =>
 V (ia 45 t41 t44) w fun t45 w =>
 V (ld 3 t45) w fun t46 w =>
 V (ld 45 t6) w fun t47 w =>
 V (ld 45 t6) w fun t48 w =>
 V (Builtin.len_ #[45] 3 #[t48]) w fun t49 w =>
 V (bi .sub 3 t49 (.int .i64 1)) w fun t50 w =>
 V (sl 45 t47 none (some t50) none) w fun t51 w =>
 U (st 45 t6 t51) w fun w =>
 ∀ K0 : List Value → World → Prop, (∀ t11, ∀ t12, ∀ w, (∀ g : Env,
 V (ld 38 t11) w fun t61 w =>
 CV (.func (.func 17) #[] #[]) #[t61] w fun t62 w =>
 V (ex t62 0) w fun t63 w =>
 V (ex t62 1) w fun t64 w =>
 V (ex t62 2) w fun t65 w =>
 V (ld 38 t11) w fun t66 w =>
 V (ld 238 t12) w fun t67 w =>
 CV (.func (.func 161) #[] #[]) #[t66, t67] w fun t68 w =>
 V (un .not t68) w fun t69 w =>
 ∀ K0 : List Value → World → Prop, (∀ t75, ∀ w, (∀ g : Env,
 ∀ K0 : List Value → World → Prop, (∀ t87, ∀ w, (∀ g : Env,
 CondW t87
 (U (st 45 t2 (.slice none 0 0)) w fun w =>
 U (st 45 t3 (.slice none 0 0)) w fun w =>
 U (st 4 t4 (.bool false)) w fun w =>
 TakeW (marks t141) w fun w =>
 CW 45 t2 w fun t1002 => CW 45 t3 w fun t1003 => CW 4 t4 w fun t1004 => R (.tuple #[t1002, t1003, t1004]) w)
 (V (ld 28 t1) w fun t88 w =>
 CV (.func (.func 74) #[] #[]) #[t88, t46] w fun t90 w =>
 ∀ (lp0 : Loop) (r0 l0 : Nat) (w1 : World), NewRF w w1 r0 l0 lp0 →
 (∀ (w : World) (Kl0 : Value → World → Prop), ∀ t91, ∀ t92, (BeginW l0 lp0 w fun w =>
 Dr w fun w =>
 HV (ld 240 t7) w fun t93 =>
 HV (ld 38 t11) w fun t95 =>
 HV (ld 238 t12) w fun t96 =>
 CV (.func (.func 162) #[] #[]) #[t95, t96, t92] w fun t98 w =>
 RunIs (ld 240 t7) w t93 ∧ (CV t93 #[t91, t98] w fun t99 w =>
 PV (un .not t99) fun t100 =>
 CondW t100
 (U (st 45 t2 (.slice none 0 0)) w fun w =>
 U (st 45 t3 (.slice none 0 0)) w fun w =>
 U (st 4 t4 (.bool false)) w fun w =>
 EndW l0 lp0 (some .ret) w Kl0)
 (EndW l0 lp0 none w Kl0))) → w.heap[l0]? = some (lobj lp0 .ready none) → CV (.func (.yield l0) #[] #[]) #[t91, t92] w Kl0) →
 CE t90 #[.func (.yield l0) #[] #[]] w1 fun _ w => RfEnd l0 lp0 w (fun w =>
 I1 [(.iface r0 t141)] w ∧ M1 [(.iface r0 t141)] w < m1) (fun w =>
 TakeW (marks (.iface r0 t141)) w fun w =>
 CW 45 t2 w fun t1002 => CW 45 t3 w fun t1003 => CW 4 t4 w fun t1004 => R (.tuple #[t1002, t1003, t1004]) w) [])) → K0 [t87] w) →
 CondW t75
 (K0 [(.bool true)] w)
 (V (fa 38 t11 0) w fun t77 w =>
 V (ld 3 t77) w fun t78 w =>
 V (eq .eql 3 (.tmp 78) (.const (.int .i64 33)) t78 (.int .i64 33)) w fun t79 w =>
 ∀ K1 : List Value → World → Prop, (∀ t86, ∀ w, (∀ g : Env,
 K0 [t86] w) → K1 [t86] w) →
 CondW t79
 (V (fa 238 t12 1) w fun t81 w =>
 V (ld 3 t81) w fun t82 w =>
 V (fa 38 t11 1) w fun t83 w =>
 V (ld 3 t83) w fun t84 w =>
 V (bi .lss 3 t82 t84) w fun t85 w =>
 K1 [t85] w)
 (K1 [(.bool false)] w))) → K0 [t75] w) →
 CondW t69
 (K0 [(.bool true)] w)
 (V (fa 238 t12 0) w fun t71 w =>
 V (ld 3 t71) w fun t72 w =>
 V (bi .lss 3 t72 t63) w fun t74 w =>
 K0 [t74] w)) → K0 [t11, t12] w) →
 Dr w fun w =>
 PV (fa 28 t1 5) fun t52 =>
 HV (ld 26 t52) w fun t53 =>
 PV (ia 26 t53 t46) fun t55 =>
 HV (ld 38 t55) w fun t56 =>
 HV (ld 236 t5) w fun t57 =>
 HV (lk 236 t57 t46 false) w fun t59 =>
 (V (al 38) w fun t11 w =>
 RunIs (lk 236 t57 t46 false) w t59 ∧ RunIs (ld 236 t5) w t57 ∧ RunIs (ld 38 t55) w t56 ∧ RunIs (ld 26 t52) w t53 ∧ (V (al 238) w fun t12 w =>
 RunIs (lk 236 t57 t46 false) w t59 ∧ RunIs (ld 236 t5) w t57 ∧ RunIs (ld 38 t55) w t56 ∧ RunIs (ld 26 t52) w t53 ∧ (U (st 38 t11 t56) w fun w =>
 RunIs (lk 236 t57 t46 false) w t59 ∧ RunIs (ld 236 t5) w t57 ∧ (U (st 238 t12 t59) w fun w =>
 K0 [t11, t12] w)))) ∧
 (V (al 238) w fun t12 w =>
 RunIs (lk 236 t57 t46 false) w t59 ∧ RunIs (ld 236 t5) w t57 ∧ RunIs (ld 38 t55) w t56 ∧ RunIs (ld 26 t52) w t53 ∧ (V (al 38) w fun t11 w =>
 RunIs (lk 236 t57 t46 false) w t59 ∧ RunIs (ld 236 t5) w t57 ∧ RunIs (ld 38 t55) w t56 ∧ RunIs (ld 26 t52) w t53 ∧ (U (st 38 t11 t56) w fun w =>
 RunIs (lk 236 t57 t46 false) w t59 ∧ RunIs (ld 236 t5) w t57 ∧ (U (st 238 t12 t59) w fun w =>
 K0 [t11, t12] w)))))
 (∀ K0 : List Value → World → Prop, (∀ t18, ∀ t19, ∀ w, (∀ g : Env,
 V (fa 28 t1 5) w fun t109 w =>
 V (ld 26 t109) w fun t110 w =>
 V (Builtin.len_ #[26] 3 #[t110]) w fun t111 w =>
 ∃ (I2 : List Value → World → Prop) (M2 : List Value → World → Nat), I2 [(.int .i64 0)] w ∧ ∀ g : Env, ∀ t112, ∀ w, I2 [t112] w → ∀ m2, m2 = M2 [t112] w →
 V (bi .lss 3 t112 t111) w fun t113 w =>
 CondW t113
 (∀ K0 : List Value → World → Prop, (∀ w, (∀ g : Env,
 V (bi .add 3 t112 (.int .i64 1)) w fun t138 w =>
 I2 [t138] w ∧ M2 [t138] w < m2) → K0 [] w) →
 V (ia 45 t18 t112) w fun t119 w =>
 U (st 3 t119 (.int .i64 (-1))) w fun w =>
 V (ia 45 t19 t112) w fun t120 w =>
 U (st 3 t120 (.int .i64 (-1))) w fun w =>
 V (ld 236 t5) w fun t122 w =>
 V (lk 236 t122 t112 true) w fun t124 w =>
 V (ex t124 0) w fun t125 w =>
 V (ex t124 1) w fun t126 w =>
 V (al 238) w fun t21 w =>
 U (st 238 t21 t125) w fun w =>
 CondW t126
 (Dr w fun w =>
 PV (fa 238 t21 0) fun t132 =>
 HV (ld 3 t132) w fun t133 =>
 PV (fa 238 t21 1) fun t134 =>
 HV (ld 3 t134) w fun t135 =>
 PV (ia 45 t18 t112) fun t136 =>
 U (st 3 t136 t133) w fun w =>
 RunIs (ld 3 t134) w t135 ∧ (PV (ia 45 t19 t112) fun t137 =>
 U (st 3 t137 t135) w fun w =>
 K0 [] w))
 (K0 [] w))
 (U (st 45 t2 t18) w fun w =>
 U (st 45 t3 t19) w fun w =>
 U (st 4 t4 (.bool true)) w fun w =>
 TakeW (marks t141) w fun w =>
 CW 45 t2 w fun t1002 => CW 45 t3 w fun t1003 => CW 4 t4 w fun t1004 => R (.tuple #[t1002, t1003, t1004]) w)) → K0 [t18, t19] w) →
 Dr w fun w =>
 PV (fa 28 t1 5) fun t101 =>
 HV (ld 26 t101) w fun t102 =>
 PV (Builtin.len_ #[26] 3 #[t102]) fun t103 =>
 PV (fa 28 t1 5) fun t105 =>
 HV (ld 26 t105) w fun t106 =>
 PV (Builtin.len_ #[26] 3 #[t106]) fun t107 =>
 (V (ms 45 t103 t103) w fun t104 w =>
 RunIs (ld 26 t105) w t106 ∧ RunIs (ld 26 t101) w t102 ∧ (V (ms 45 t107 t107) w fun t108 w =>
 RunIs (ld 26 t105) w t106 ∧ RunIs (ld 26 t101) w t102 ∧ (K0 [t104, t108] w))) ∧
 (V (ms 45 t107 t107) w fun t108 w =>
 RunIs (ld 26 t105) w t106 ∧ RunIs (ld 26 t101) w t102 ∧ (V (ms 45 t103 t103) w fun t104 w =>
 RunIs (ld 26 t105) w t106 ∧ RunIs (ld 26 t101) w t102 ∧ (K0 [t104, t108] w)))))
theorem en50 (h : vc50 R w t0) : Calls Tryz.prog 50 #[t0] w (retK R) := calls_of_enter mixed Tryz.func50 (by kernel_rfl) (Eq.mpr (by kernel_rfl : enterW Tryz.prog Tryz.f50 an50 [t0] w R = vc50 R w t0) h)
def an56 : Ann := (.seq (oD 1) (.seq (oD 25) (.seq (.seq (oD 9) (.seq (oD 1) (.cond (.seq (oD 7) .leaf) .leaf))) (.seq (.reg (opn 3 (.join [46] (rgN 39 8) (.split 38 (opn 8 .done) (opn 3 (.join [45] [42, 43, 44, 45] (.split 41 (opn 4 .done) (opn 4 .done)) (opn 1 .done)))) (opn 1 .done)))) .leaf))))
def vc56 (R : Value → World → Prop) (w : World) (t0 t1 : Value) : Prop :=
 V (mm 245 none) w fun t8 w =>
 V (bd 219 #[(0, (.int .i64 0)), (1, (.int .i64 0))]) w fun t9 w =>
 U (mu 245 t8 (.int .i64 0) t9) w fun w =>
 V (bd 219 #[(0, (.int .i64 0)), (1, (.int .i64 1))]) w fun t10 w =>
 U (mu 245 t8 (.int .i64 14) t10) w fun w =>
 V (bd 219 #[(0, (.int .i64 0)), (1, (.int .i64 2))]) w fun t11 w =>
 U (mu 245 t8 (.int .i64 15) t11) w fun w =>
 V (bd 219 #[(0, (.int .i64 0)), (1, (.int .i64 10))]) w fun t12 w =>
 U (mu 245 t8 (.int .i64 16) t12) w fun w =>
 CV (.func (.func 168) #[] #[]) #[] w fun t13 w =>
 V (Builtin.len_ #[22] 3 #[t13]) w fun t14 w =>
 V (bd 219 #[(0, (.int .i64 1)), (1, t14)]) w fun t15 w =>
 U (mu 245 t8 (.int .i64 17) t15) w fun w =>
 CV (.func (.func 169) #[] #[]) #[] w fun t16 w =>
 V (Builtin.len_ #[22] 3 #[t16]) w fun t17 w =>
 V (bd 219 #[(0, (.int .i64 1)), (1, t17)]) w fun t18 w =>
 U (mu 245 t8 (.int .i64 18) t18) w fun w =>
 V (bd 219 #[(0, (.int .i64 1)), (1, (.int .i64 6))]) w fun t19 w =>
 U (mu 245 t8 (.int .i64 19) t19) w fun w =>
 V (bd 219 #[(0, (.int .i64 1)), (1, (.int .i64 40))]) w fun t20 w =>
 U (mu 245 t8 (.int .i64 20) t20) w fun w =>
 V (bd 219 #[(0, (.int .i64 1)), (1, (.int .i64 99))]) w fun t21 w =>
 U (mu 245 t8 (.int .i64 21) t21) w fun w =>
 V (lk 245 t8 t0 true) w fun t26 w =>
 V (ex t26 0) w fun t27 w =>
 V (ex t26 1) w fun t28 w =>
 V (al 219) w fun t6 w =>
 U (st 219 t6 t27) w fun w =>
 CondW t28
 (V (ia 219 t6 (.int .i64 0)) w fun t31 w =>
 V (ld 3 t31) w fun t32 w =>
 V (ia 219 t6 (.int .i64 1)) w fun t33 w =>
 V (ld 3 t33) w fun t34 w =>
 CV (.func (.func 75) #[] #[]) #[t1, t32, t34] w fun t35 w =>
 R t35 w)
 (V (eq .eql 3 (.tmp 36) (.const (.int .i64 23)) t0 (.int .i64 23)) w fun t37 w =>
 ∀ K0 : List Value → World → Prop, (∀ t46, ∀ w, (∀ g : Env,
 R t46 w) → K0 [t46] w) →
 CondW t37
 (K0 [(.bool true)] w)
 (V (eq .eql 3 (.tmp 39) (.const (.int .i64 22)) t0 (.int .i64 22)) w fun t40 w =>
 ∀ K1 : List Value → World → Prop, (∀ t45, ∀ w, (∀ g : Env,
 K0 [t45] w) → K1 [t45] w) →
 CondW t40
 (CV (.func (.func 57) #[] #[]) #[t1] w fun t43 w =>
 V (bi .geq 3 t43 (.int .i64 0)) w fun t44 w =>
 K1 [t44] w)
 (K1 [(.bool false)] w)))
theorem en56 (h : vc56 R w t0 t1) : Calls Tryz.prog 56 #[t0, t1] w (retK R) := calls_of_enter mixed Tryz.func56 (by kernel_rfl) (Eq.mpr (by kernel_rfl : enterW Tryz.prog Tryz.f56 an56 [t0, t1] w R = vc56 R w t0 t1) h)
def an57 : Ann := (.seq (oD 1) (.seq (oD 10) (.seq (oD 1) (.seq (.one (.loop [4] (rgN 14 17 ++ [2, 31, 32, 4]) (.seq (.seq (.reg (opn 3 (.join [22] (rgN 17 6) (.split 16 (opn 6 .done) (opn 6 .done)) .done))) (.cond .leaf .leaf)) (.one (.seq (.seq (.draw (tkN 0 6 (.hold 6 (.alts (.eff 7 .done .nil))))) (.cond (.seq (oD 1) .leaf) .leaf)) (oD 3)))))) (.seq (.seq (.reg (opn 4 (.join [42] (rgN 37 6) (.split 36 (opn 6 .done) (opn 6 .done)) .done))) (.cond (.seq (oD 1) .leaf) .leaf)) (.seq (oD 2) .leaf))))))
def vc57 (R : Value → World → Prop) (w : World) (t0 : Value) : Prop :=
 V (bi .and 3 t0 (.int .i64 3)) w fun t6 w =>
 V (bi .shr 3 t0 (.int .u64 2)) w fun t8 w =>
 V (bi .and 3 t8 (.int .i64 3)) w fun t9 w =>
 V (bi .shr 3 t0 (.int .u64 4)) w fun t11 w =>
 V (bi .and 3 t11 (.int .i64 3)) w fun t12 w =>
 V (bs 45 3 #[(0, t6), (1, t9), (2, t12)]) w fun t13 w =>
 ∃ (I0 : List Value → World → Prop) (M0 : List Value → World → Nat), I0 [(.int .i64 0)] w ∧ ∀ g : Env, ∀ t4, ∀ w, I0 [t4] w → ∀ m0, m0 = M0 [t4] w →
 V (bi .lss 3 t4 (.int .i64 3)) w fun t15 w =>
 ∀ K0 : List Value → World → Prop, (∀ t22, ∀ w, (∀ g : Env,
 CondW t22
 (Dr w fun w =>
 PV (sl 45 t13 none (some t4) none) fun t25 =>
 PV (ia 45 t13 t4) fun t28 =>
 HV (ld 3 t28) w fun t29 =>
 CV (.func (.func 76) #[] #[]) #[t25, t29] w fun t30 w =>
 CondW t30
 (R (.int .i64 (-1)) w)
 (V (bi .add 3 t4 (.int .i64 1)) w fun t32 w =>
 I0 [t32] w ∧ M0 [t32] w < m0))
 (V (bi .shr 3 t0 (.int .u64 6)) w fun t34 w =>
 V (eq .neq 3 (.tmp 34) (.const (.int .i64 0)) t34 (.int .i64 0)) w fun t35 w =>
 ∀ K0 : List Value → World → Prop, (∀ t42, ∀ w, (∀ g : Env,
 CondW t42
 (R (.int .i64 (-1)) w)
 (R t4 w)) → K0 [t42] w) →
 CondW t35
 (K0 [(.bool true)] w)
 (V (sl 45 t13 (some t4) none none) w fun t39 w =>
 CV (.func (.func 170) #[] #[]) #[t39, (.func (.func 171) #[] #[])] w fun t40 w =>
 V (un .not t40) w fun t41 w =>
 K0 [t41] w))) → K0 [t22] w) →
 CondW t15
 (V (ia 45 t13 t4) w fun t19 w =>
 V (ld 3 t19) w fun t20 w =>
 V (eq .neq 3 (.tmp 20) (.const (.int .i64 0)) t20 (.int .i64 0)) w fun t21 w =>
 K0 [t21] w)
 (K0 [(.bool false)] w)
theorem en57 (h : vc57 R w t0) : Calls Tryz.prog 57 #[t0] w (retK R) := calls_of_enter mixed Tryz.func57 (by kernel_rfl) (Eq.mpr (by kernel_rfl : enterW Tryz.prog Tryz.f57 an57 [t0] w R = vc57 R w t0) h)
def an61 : Ann := (.seq (oD 2) (.seq (oD 2) .leaf))
def vc61 (R : Value → World → Prop) (w : World) (t0 : Value) : Prop :=
 V (bx 121 t0) w fun t1 w =>
 R (.func (.func 172) #[] #[t1]) w
theorem en61 (h : vc61 R w t0) : Calls Tryz.prog 61 #[t0] w (retK R) := calls_of_enter mixed Tryz.func61 (by kernel_rfl) (Eq.mpr (by kernel_rfl : enterW Tryz.prog Tryz.f61 an61 [t0] w R = vc61 R w t0) h)
def an62 : Ann := (.seq (oD 2) (.seq (.seq (oD 1) (.one (.seqJ [6] ([7, 6] ++ rgN 8 6) (.seq (oD 2) (.cond .leaf (.seq (oD 2) (.cond .leaf (.seq (oD 2) (.cond .leaf (.seq (oD 2) (.cond .leaf (.seq (oD 2) (.cond .leaf (.seq (oD 2) (.cond .leaf (oD 2))))))))))))) (.cond (.seq (oD 3) .leaf) (.seq (oD 2) (.cond (.seq (oD 3) .leaf) (.seqJ [20] [21, 20, 22] (.seq (oD 2) (.cond .leaf (oD 2))) (.cond (.seq (oD 3) .leaf) .leaf)))))))) (.seq (oD 1) .leaf)))
def vc62 (R : Value → World → Prop) (w : World) (t0 t1 : Value) : Prop :=
 V (bx 117 t0) w fun t2 w =>
 ∀ K0 : List Value → World → Prop, (∀ t6, ∀ w, (∀ g : Env,
 CondW t6
 (V (fa 117 t2 0) w fun t14 w =>
 V (ld 115 t14) w fun t15 w =>
 R t15 w)
 (V (eq .eql 3 (.tmp 5) (.const (.int .i64 10)) t1 (.int .i64 10)) w fun t17 w =>
 CondW t17
 (V (fa 117 t2 1) w fun t18 w =>
 V (ld 115 t18) w fun t19 w =>
 R t19 w)
 (∀ K0 : List Value → World → Prop, (∀ t20, ∀ w, (∀ g : Env,
 CondW t20
 (V (fa 117 t2 2) w fun t23 w =>
 V (ld 115 t23) w fun t24 w =>
 R t24 w)
 (R (.map none) w)) → K0 [t20] w) →
 V (eq .eql 3 (.tmp 5) (.const (.int .i64 11)) t1 (.int .i64 11)) w fun t21 w =>
 CondW t21
 (K0 [t21] w)
 (V (eq .eql 3 (.tmp 5) (.const (.int .i64 12)) t1 (.int .i64 12)) w fun t22 w =>
 K0 [t22] w)))) → K0 [t6] w) →
 V (eq .eql 3 (.tmp 5) (.const (.int .i64 2)) t1 (.int .i64 2)) w fun t7 w =>
 CondW t7
 (K0 [t7] w)
 (V (eq .eql 3 (.tmp 5) (.const (.int .i64 3)) t1 (.int .i64 3)) w fun t8 w =>
 CondW t8
 (K0 [t8] w)
 (V (eq .eql 3 (.tmp 5) (.const (.int .i64 4)) t1 (.int .i64 4)) w fun t9 w =>
 CondW t9
 (K0 [t9] w)
 (V (eq .eql 3 (.tmp 5) (.const (.int .i64 5)) t1 (.int .i64 5)) w fun t10 w =>
 CondW t10
 (K0 [t10] w)
 (V (eq .eql 3 (.tmp 5) (.const (.int .i64 6)) t1 (.int .i64 6)) w fun t11 w =>
 CondW t11
 (K0 [t11] w)
 (V (eq .eql 3 (.tmp 5) (.const (.int .i64 7)) t1 (.int .i64 7)) w fun t12 w =>
 CondW t12
 (K0 [t12] w)
 (V (eq .eql 3 (.tmp 5) (.const (.int .i64 8)) t1 (.int .i64 8)) w fun t13 w =>
 K0 [t13] w))))))
theorem en62 (h : vc62 R w t0 t1) : Calls Tryz.prog 62 #[t0, t1] w (retK R) := calls_of_enter mixed Tryz.func62 (by kernel_rfl) (Eq.mpr (by kernel_rfl : enterW Tryz.prog Tryz.f62 an62 [t0, t1] w R = vc62 R w t0 t1) h)
def an63 : Ann := (.seq (oD 2) (.seq (oD 1) (.seq (oD 4) (.seq (.seq (oD 3) (.one (.loop [6, 14] ([15, 16, 17, 18, 8, 9] ++ rgN 19 11 ++ [6, 30, 14]) (.seq (oD 1) (.seq (.cond .leaf .leaf) (.seqJ [6] ([16, 17, 18, 8, 9] ++ rgN 19 11 ++ [6]) (.one (.seq (oD 5) (.seq (oD 3) (.cond (.seq (oD 5) (oD 5)) .leaf)))) (oD 2))))))) (.seq (oD 4) .leaf)))))
def vc63 (R : Value → World → Prop) (w : World) (t0 t1 : Value) : Prop :=
 V (mm 124 none) w fun t10 w =>
 U (mu 124 t10 (.int .i64 (-1)) (.int .i64 (-1))) w fun w =>
 V (Builtin.len_ #[22] 3 #[t0]) w fun t13 w =>
 ∃ (I0 : List Value → World → Prop) (M0 : List Value → World → Nat), I0 [(.slice none 0 0), (.int .i64 0)] w ∧ ∀ g : Env, ∀ t6, ∀ t14, ∀ w, I0 [t6, t14] w → ∀ m0, m0 = M0 [t6, t14] w →
 V (bi .lss 3 t14 t13) w fun t15 w =>
 CondW t15
 (∀ K0 : List Value → World → Prop, (∀ t6a, ∀ w, (∀ g : Env,
 V (bi .add 3 t14 (.int .i64 1)) w fun t30 w =>
 I0 [t6a, t30] w ∧ M0 [t6a, t30] w < m0) → K0 [t6a] w) →
 V (ia 22 t0 t14) w fun t17 w =>
 V (ld 9 t17) w fun t18 w =>
 V (lk 115 t1 t14 false) w fun t21 w =>
 CondW t21
 (V (Builtin.len_ #[22] 3 #[t6]) w fun t25 w =>
 U (mu 124 t10 t14 t25) w fun w =>
 V (bs 22 1 #[(0, t18)]) w fun t28 w =>
 V (Builtin.append_ #[22, 22] 22 #[t6, t28]) w fun t29 w =>
 K0 [t29] w)
 (K0 [t6] w))
 (R (.tuple #[t6, t10]) w)
theorem en63 (h : vc63 R w t0 t1) : Calls Tryz.prog 63 #[t0, t1] w (retK R) := calls_of_enter mixed Tryz.func63 (by kernel_rfl) (Eq.mpr (by kernel_rfl : enterW Tryz.prog Tryz.f63 an63 [t0, t1] w R = vc63 R w t0 t1) h)
def an64 : Ann := (.seq (oD 2) (.seq (oD 1) (.seq (oD 4) (.seq (.seq (oD 3) (.one (.loop [6, 14] ([15, 16, 17, 18, 8, 9] ++ rgN 19 11 ++ [6, 30, 14]) (.seq (oD 1) (.seq (.cond .leaf .leaf) (.seqJ [6] ([16, 17, 18, 8, 9] ++ rgN 19 11 ++ [6]) (.one (.seq (oD 5) (.seq (oD 3) (.cond (.seq (oD 5) (oD 5)) .leaf)))) (oD 2))))))) (.seq (oD 4) .leaf)))))
def vc64 (R : Value → World → Prop) (w : World) (t0 t1 : Value) : Prop :=
 V (mm 124 none) w fun t10 w =>
 U (mu 124 t10 (.int .i64 (-1)) (.int .i64 (-1))) w fun w =>
 V (Builtin.len_ #[23] 3 #[t0]) w fun t13 w =>
 ∃ (I0 : List Value → World → Prop) (M0 : List Value → World → Nat), I0 [(.slice none 0 0), (.int .i64 0)] w ∧ ∀ g : Env, ∀ t6, ∀ t14, ∀ w, I0 [t6, t14] w → ∀ m0, m0 = M0 [t6, t14] w →
 V (bi .lss 3 t14 t13) w fun t15 w =>
 CondW t15
 (∀ K0 : List Value → World → Prop, (∀ t6a, ∀ w, (∀ g : Env,
 V (bi .add 3 t14 (.int .i64 1)) w fun t30 w =>
 I0 [t6a, t30] w ∧ M0 [t6a, t30] w < m0) → K0 [t6a] w) →
 V (ia 23 t0 t14) w fun t17 w =>
 V (ld 93 t17) w fun t18 w =>
 V (lk 115 t1 t14 false) w fun t21 w =>
 CondW t21
 (V (Builtin.len_ #[23] 3 #[t6]) w fun t25 w =>
 U (mu 124 t10 t14 t25) w fun w =>
 V (bs 23 1 #[(0, t18)]) w fun t28 w =>
 V (Builtin.append_ #[23, 23] 23 #[t6, t28]) w fun t29 w =>
 K0 [t29] w)
 (K0 [t6] w))
 (R (.tuple #[t6, t10]) w)
theorem en64 (h : vc64 R w t0 t1) : Calls Tryz.prog 64 #[t0, t1] w (retK R) := calls_of_enter mixed Tryz.func64 (by kernel_rfl) (Eq.mpr (by kernel_rfl : enterW Tryz.prog Tryz.f64 an64 [t0, t1] w R = vc64 R w t0 t1) h)
def an65 : Ann := (.seq (oD 2) (.seq (oD 1) (.seq (oD 4) (.seq (.seq (oD 3) (.one (.loop [6, 14] ([15, 16, 17, 18, 8, 9] ++ rgN 19 11 ++ [6, 30, 14]) (.seq (oD 1) (.seq (.cond .leaf .leaf) (.seqJ [6] ([16, 17, 18, 8, 9] ++ rgN 19 11 ++ [6]) (.one (.seq (oD 5) (.seq (oD 3) (.cond (.seq (oD 5) (oD 5)) .leaf)))) (oD 2))))))) (.seq (oD 4) .leaf)))))
def vc65 (R : Value → World → Prop) (w : World) (t0 t1 : Value) : Prop :=
 V (mm 124 none) w fun t10 w =>
 U (mu 124 t10 (.int .i64 (-1)) (.int .i64 (-1))) w fun w =>
 V (Builtin.len_ #[24] 3 #[t0]) w fun t13 w =>
 ∃ (I0 : List Value → World → Prop) (M0 : List Value → World → Nat), I0 [(.slice none 0 0), (.int .i64 0)] w ∧ ∀ g : Env, ∀ t6, ∀ t14, ∀ w, I0 [t6, t14] w → ∀ m0, m0 = M0 [t6, t14] w →
 V (bi .lss 3 t14 t13) w fun t15 w =>
 CondW t15
 (∀ K0 : List Value → World → Prop, (∀ t6a, ∀ w, (∀ g : Env,
 V (bi .add 3 t14 (.int .i64 1)) w fun t30 w =>
 I0 [t6a, t30] w ∧ M0 [t6a, t30] w < m0) → K0 [t6a] w) →
 V (ia 24 t0 t14) w fun t17 w =>
 V (ld 96 t17) w fun t18 w =>
 V (lk 115 t1 t14 false) w fun t21 w =>
 CondW t21
 (V (Builtin.len_ #[24] 3 #[t6]) w fun t25 w =>
 U (mu 124 t10 t14 t25) w fun w =>
 V (bs 24 1 #[(0, t18)]) w fun t28 w =>
 V (Builtin.append_ #[24, 24] 24 #[t6, t28]) w fun t29 w =>
 K0 [t29] w)
 (K0 [t6] w))
 (R (.tuple #[t6, t10]) w)
theorem en65 (h : vc65 R w t0 t1) : Calls Tryz.prog 65 #[t0, t1] w (retK R) := calls_of_enter mixed Tryz.func65 (by kernel_rfl) (Eq.mpr (by kernel_rfl : enterW Tryz.prog Tryz.f65 an65 [t0, t1] w R = vc65 R w t0 t1) h)
def an66 : Ann := (.seq (oD 1) (.seq (.seq (oD 1) (.one (.seq (oD 2) (.cond (.seq (oD 5) .leaf) (.seq (oD 2) (.cond (.seq (oD 4) .leaf) (.seqJ [22] [23, 22, 24] (.seq (oD 2) (.cond .leaf (oD 2))) (.cond (.seq (oD 4) .leaf) .leaf)))))))) (.seq (.seq (oD 4) (.cond (.seq (oD 4) .leaf) .leaf)) (.seq (oD 2) .leaf))))
def vc66 (R : Value → World → Prop) (w : World) (t0 t1 t2 t3 t4 t5 t6 : Value) : Prop :=
 V (eq .eql 3 (.tmp 10) (.const (.int .i64 13)) t0 (.int .i64 13)) w fun t12 w =>
 CondW t12
 (V (ld 45 t2) w fun t13 w =>
 V (ia 45 t13 t1) w fun t15 w =>
 V (ld 3 t15) w fun t16 w =>
 R t16 w)
 (V (eq .eql 3 (.tmp 10) (.const (.int .i64 10)) t0 (.int .i64 10)) w fun t18 w =>
 CondW t18
 (V (ld 124 t3) w fun t19 w =>
 V (lk 124 t19 t1 false) w fun t21 w =>
 R t21 w)
 (∀ K0 : List Value → World → Prop, (∀ t22, ∀ w, (∀ g : Env,
 CondW t22
 (V (ld 124 t4) w fun t25 w =>
 V (lk 124 t25 t1 false) w fun t27 w =>
 R t27 w)
 (V (ld 117 t5) w fun t28 w =>
 CV (.func (.func 62) #[] #[]) #[t28, t0] w fun t30 w =>
 V (eq .neq 115 (.tmp 30) (.const (.map none)) t30 (.map none)) w fun t31 w =>
 CondW t31
 (V (ld 124 t6) w fun t32 w =>
 V (lk 124 t32 t1 false) w fun t34 w =>
 R t34 w)
 (R t1 w))) → K0 [t22] w) →
 V (eq .eql 3 (.tmp 10) (.const (.int .i64 11)) t0 (.int .i64 11)) w fun t23 w =>
 CondW t23
 (K0 [t23] w)
 (V (eq .eql 3 (.tmp 10) (.const (.int .i64 12)) t0 (.int .i64 12)) w fun t24 w =>
 K0 [t24] w)))
theorem en66 (h : vc66 R w t0 t1 t2 t3 t4 t5 t6) : Calls Tryz.prog 66 #[t0, t1, t2, t3, t4, t5, t6] w (retK R) := calls_of_enter mixed Tryz.func66 (by kernel_rfl) (Eq.mpr (by kernel_rfl : enterW Tryz.prog Tryz.f66 an66 [t0, t1, t2, t3, t4, t5, t6] w R = vc66 R w t0 t1 t2 t3 t4 t5 t6) h)
def an67 : Ann := (.seq (oD 1) (.seq (.seq (oD 2) (.cond (.seq (oD 1) .leaf) .leaf)) (.seq (oD 4) .leaf)))
def vc67 (R : Value → World → Prop) (w : World) (t0 : Value) : Prop :=
 V (eq .eql 93 (.tmp 3) (.const (.slice none 0 0)) t0 (.slice none 0 0)) w fun t4 w =>
 CondW t4
 (R (.slice none 0 0) w)
 (V (bs 93 0 #[]) w fun t5 w =>
 V (Builtin.append_ #[93, 93] 93 #[t5, t0]) w fun t7 w =>
 R t7 w)
theorem en67 (h : vc67 R w t0) : Calls Tryz.prog 67 #[t0] w (retK R) := calls_of_enter mixed Tryz.func67 (by kernel_rfl) (Eq.mpr (by kernel_rfl : enterW Tryz.prog Tryz.f67 an67 [t0] w R = vc67 R w t0) h)
def an68 : Ann := (.seq (oD 1) (.seq (.seq (oD 2) (.cond (.seq (oD 1) .leaf) .leaf)) (.seq (oD 4) .leaf)))
def vc68 (R : Value → World → Prop) (w : World) (t0 : Value) : Prop :=
 V (eq .eql 96 (.tmp 3) (.const (.slice none 0 0)) t0 (.slice none 0 0)) w fun t4 w =>
 CondW t4
 (R (.slice none 0 0) w)
 (V (bs 96 0 #[]) w fun t5 w =>
 V (Builtin.append_ #[96, 96] 96 #[t5, t0]) w fun t7 w =>
 R t7 w)
theorem en68 (h : vc68 R w t0) : Calls Tryz.prog 68 #[t0] w (retK R) := calls_of_enter mixed Tryz.func68 (by kernel_rfl) (Eq.mpr (by kernel_rfl : enterW Tryz.prog Tryz.f68 an68 [t0] w R = vc68 R w t0) h)
def an69 : Ann := (.seq (oD 1) (.seq (.seq (oD 2) (.cond (.seq (oD 1) .leaf) .leaf)) (.seq (oD 4) .leaf)))
def vc69 (R : Value → World → Prop) (w : World) (t0 : Value) : Prop :=
 V (eq .eql 22 (.tmp 3) (.const (.slice none 0 0)) t0 (.slice none 0 0)) w fun t4 w =>
 CondW t4
 (R (.slice none 0 0) w)
 (V (bs 22 0 #[]) w fun t5 w =>
 V (Builtin.append_ #[22, 22] 22 #[t5, t0]) w fun t7 w =>
 R t7 w)
theorem en69 (h : vc69 R w t0) : Calls Tryz.prog 69 #[t0] w (retK R) := calls_of_enter mixed Tryz.func69 (by kernel_rfl) (Eq.mpr (by kernel_rfl : enterW Tryz.prog Tryz.f69 an69 [t0] w R = vc69 R w t0) h)
def an70 : Ann := (.seq (oD 1) (.seq (.seq (oD 5) (.cond (.seq (oD 1) .leaf) .leaf)) (.seq (.seq (oD 1) (.one (.loop [5] ([11, 12, 13, 14] ++ rgN 17 9 ++ [4, 15, 16, 5]) (.seq (.seq (oD 4) (.cond .leaf .leaf)) (.seq (.one (.seq (.draw (tkN 0 3 (.hold 3 (tkN 4 3 (.hold 7 (.take 8 .done)))))) (.cond (.seq (oD 1) .leaf) .leaf))) (oD 3)))))) (.seq (oD 1) .leaf))))
def vc70 (R : Value → World → Prop) (w : World) (t0 t1 : Value) : Prop :=
 V (Builtin.len_ #[93] 3 #[t0]) w fun t7 w =>
 V (Builtin.len_ #[93] 3 #[t1]) w fun t9 w =>
 V (eq .neq 3 (.tmp 7) (.tmp 9) t7 t9) w fun t10 w =>
 CondW t10
 (R (.bool false) w)
 (∃ (I0 : List Value → World → Prop) (M0 : List Value → World → Nat), I0 [(.int .i64 0)] w ∧ ∀ g : Env, ∀ t5, ∀ w, I0 [t5] w → ∀ m0, m0 = M0 [t5] w →
 V (Builtin.len_ #[93] 3 #[t0]) w fun t13 w =>
 V (bi .lss 3 t5 t13) w fun t14 w =>
 CondW t14
 (Dr w fun w =>
 PV (ia 93 t0 t5) fun t19 =>
 HV (ld 95 t19) w fun t20 =>
 PV (ia 93 t1 t5) fun t23 =>
 HV (ld 95 t23) w fun t24 =>
 PV (eq .neq 95 (.tmp 20) (.tmp 24) t20 t24) fun t25 =>
 CondW t25
 (R (.bool false) w)
 (V (bi .add 3 t5 (.int .i64 1)) w fun t16 w =>
 I0 [t16] w ∧ M0 [t16] w < m0))
 (R (.bool true) w))
theorem en70 (h : vc70 R w t0 t1) : Calls Tryz.prog 70 #[t0, t1] w (retK R) := calls_of_enter mixed Tryz.func70 (by kernel_rfl) (Eq.mpr (by kernel_rfl : enterW Tryz.prog Tryz.f70 an70 [t0, t1] w R = vc70 R w t0 t1) h)
def an71 : Ann := (.seq (oD 1) (.seq (.seq (oD 5) (.cond (.seq (oD 1) .leaf) .leaf)) (.seq (.seq (oD 1) (.one (.loop [5] ([11, 12, 13, 14] ++ rgN 17 9 ++ [4, 15, 16, 5]) (.seq (.seq (oD 4) (.cond .leaf .leaf)) (.seq (.one (.seq (.draw (tkN 0 3 (.hold 3 (tkN 4 3 (.hold 7 (.take 8 .done)))))) (.cond (.seq (oD 1) .leaf) .leaf))) (oD 3)))))) (.seq (oD 1) .leaf))))
def vc71 (R : Value → World → Prop) (w : World) (t0 t1 : Value) : Prop :=
 V (Builtin.len_ #[96] 3 #[t0]) w fun t7 w =>
 V (Builtin.len_ #[96] 3 #[t1]) w fun t9 w =>
 V (eq .neq 3 (.tmp 7) (.tmp 9) t7 t9) w fun t10 w =>
 CondW t10
 (R (.bool false) w)
 (∃ (I0 : List Value → World → Prop) (M0 : List Value → World → Nat), I0 [(.int .i64 0)] w ∧ ∀ g : Env, ∀ t5, ∀ w, I0 [t5] w → ∀ m0, m0 = M0 [t5] w →
 V (Builtin.len_ #[96] 3 #[t0]) w fun t13 w =>
 V (bi .lss 3 t5 t13) w fun t14 w =>
 CondW t14
 (Dr w fun w =>
 PV (ia 96 t0 t5) fun t19 =>
 HV (ld 98 t19) w fun t20 =>
 PV (ia 96 t1 t5) fun t23 =>
 HV (ld 98 t23) w fun t24 =>
 PV (eq .neq 98 (.tmp 20) (.tmp 24) t20 t24) fun t25 =>
 CondW t25
 (R (.bool false) w)
 (V (bi .add 3 t5 (.int .i64 1)) w fun t16 w =>
 I0 [t16] w ∧ M0 [t16] w < m0))
 (R (.bool true) w))
theorem en71 (h : vc71 R w t0 t1) : Calls Tryz.prog 71 #[t0, t1] w (retK R) := calls_of_enter mixed Tryz.func71 (by kernel_rfl) (Eq.mpr (by kernel_rfl : enterW Tryz.prog Tryz.f71 an71 [t0, t1] w R = vc71 R w t0 t1) h)
def an72 : Ann := (.seq (oD 1) (.seq (.seq (oD 5) (.cond (.seq (oD 1) .leaf) .leaf)) (.seq (.seq (oD 1) (.one (.loop [5] ([11, 12, 13, 14] ++ rgN 17 9 ++ [4, 15, 16, 5]) (.seq (.seq (oD 4) (.cond .leaf .leaf)) (.seq (.one (.seq (.draw (tkN 0 3 (.hold 3 (tkN 4 3 (.hold 7 (.take 8 .done)))))) (.cond (.seq (oD 1) .leaf) .leaf))) (oD 3)))))) (.seq (oD 1) .leaf))))
def vc72 (R : Value → World → Prop) (w : World) (t0 t1 : Value) : Prop :=
 V (Builtin.len_ #[22] 3 #[t0]) w fun t7 w =>
 V (Builtin.len_ #[22] 3 #[t1]) w fun t9 w =>
 V (eq .neq 3 (.tmp 7) (.tmp 9) t7 t9) w fun t10 w =>
 CondW t10
 (R (.bool false) w)
 (∃ (I0 : List Value → World → Prop) (M0 : List Value → World → Nat), I0 [(.int .i64 0)] w ∧ ∀ g : Env, ∀ t5, ∀ w, I0 [t5] w → ∀ m0, m0 = M0 [t5] w →
 V (Builtin.len_ #[22] 3 #[t0]) w fun t13 w =>
 V (bi .lss 3 t5 t13) w fun t14 w =>
 CondW t14
 (Dr w fun w =>
 PV (ia 22 t0 t5) fun t19 =>
 HV (ld 9 t19) w fun t20 =>
 PV (ia 22 t1 t5) fun t23 =>
 HV (ld 9 t23) w fun t24 =>
 PV (eq .neq 9 (.tmp 20) (.tmp 24) t20 t24) fun t25 =>
 CondW t25
 (R (.bool false) w)
 (V (bi .add 3 t5 (.int .i64 1)) w fun t16 w =>
 I0 [t16] w ∧ M0 [t16] w < m0))
 (R (.bool true) w))
theorem en72 (h : vc72 R w t0 t1) : Calls Tryz.prog 72 #[t0, t1] w (retK R) := calls_of_enter mixed Tryz.func72 (by kernel_rfl) (Eq.mpr (by kernel_rfl : enterW Tryz.prog Tryz.f72 an72 [t0, t1] w R = vc72 R w t0 t1) h)
def an73 : Ann := (.seq (oD 2) (.seq (oD 2) (.seq (.seq (oD 4) (.one (.loop [3, 10] ([11, 12, 13, 5] ++ rgN 14 12 ++ [3, 26, 10]) (.seq (oD 1) (.seq (.cond .leaf .leaf) (.seqJ [3] ([12, 13, 5] ++ rgN 14 12 ++ [3]) (.one (.seq (oD 4) (.seq (oD 7) (.cond (oD 6) .leaf)))) (oD 2))))))) (.seq (oD 2) .leaf))))
def vc73 (R : Value → World → Prop) (w : World) (t0 : Value) : Prop :=
 V (bx 28 t0) w fun t1 w =>
 V (bs 45 1 #[(0, (.int .i64 0))]) w fun t6 w =>
 V (fa 28 t1 3) w fun t7 w =>
 V (ld 25 t7) w fun t8 w =>
 V (Builtin.len_ #[25] 3 #[t8]) w fun t9 w =>
 ∃ (I0 : List Value → World → Prop) (M0 : List Value → World → Nat), I0 [t6, (.int .i64 0)] w ∧ ∀ g : Env, ∀ t3, ∀ t10, ∀ w, I0 [t3, t10] w → ∀ m0, m0 = M0 [t3, t10] w →
 V (bi .lss 3 t10 t9) w fun t11 w =>
 CondW t11
 (∀ K0 : List Value → World → Prop, (∀ t3a, ∀ w, (∀ g : Env,
 V (bi .add 3 t10 (.int .i64 1)) w fun t26 w =>
 I0 [t3a, t26] w ∧ M0 [t3a, t26] w < m0) → K0 [t3a] w) →
 V (ia 25 t8 t10) w fun t12 w =>
 V (ld 54 t12) w fun t13 w =>
 V (al 54) w fun t5 w =>
 U (st 54 t5 t13) w fun w =>
 V (fa 54 t5 1) w fun t14 w =>
 V (ld 3 t14) w fun t15 w =>
 V (fa 28 t1 5) w fun t16 w =>
 V (ld 26 t16) w fun t17 w =>
 V (Builtin.len_ #[26] 3 #[t17]) w fun t18 w =>
 V (bi .sub 3 t18 (.int .i64 1)) w fun t19 w =>
 CV (.func (.func 75) #[] #[]) #[t15, (.int .i64 0), t19] w fun t20 w =>
 CondW t20
 (V (fa 54 t5 1) w fun t22 w =>
 V (ld 3 t22) w fun t23 w =>
 V (bs 45 1 #[(0, t23)]) w fun t24 w =>
 V (Builtin.append_ #[45, 45] 45 #[t3, t24]) w fun t25 w =>
 K0 [t25] w)
 (K0 [t3] w))
 (R t3 w)
theorem en73 (h : vc73 R w t0) : Calls Tryz.prog 73 #[t0] w (retK R) := calls_of_enter mixed Tryz.func73 (by kernel_rfl) (Eq.mpr (by kernel_rfl : enterW Tryz.prog Tryz.f73 an73 [t0] w R = vc73 R w t0) h)
def an74 : Ann := (.seq (oD 3) (.seq (oD 2) .leaf))
def vc74 (R : Value → World → Prop) (w : World) (t0 t1 : Value) : Prop :=
 V (bx 28 t0) w fun t2 w =>
 V (bx 3 t1) w fun t3 w =>
 R (.func (.func 173) #[] #[t2, t3]) w
theorem en74 (h : vc74 R w t0 t1) : Calls Tryz.prog 74 #[t0, t1] w (retK R) := calls_of_enter mixed Tryz.func74 (by kernel_rfl) (Eq.mpr (by kernel_rfl : enterW Tryz.prog Tryz.f74 an74 [t0, t1] w R = vc74 R w t0 t1) h)
def an75 : Ann := (.seq (oD 1) (.seq (.reg (opn 4 (.join [14] [11, 12, 13, 14] (.split 10 (opn 4 .done) (opn 4 .done)) (opn 1 .done)))) .leaf))
def vc75 (R : Value → World → Prop) (w : World) (t0 t1 t2 : Value) : Prop :=
 V (bi .leq 3 t1 t0) w fun t9 w =>
 ∀ K0 : List Value → World → Prop, (∀ t14, ∀ w, (∀ g : Env,
 R t14 w) → K0 [t14] w) →
 CondW t9
 (V (bi .leq 3 t0 t2) w fun t13 w =>
 K0 [t13] w)
 (K0 [(.bool false)] w)
theorem en75 (h : vc75 R w t0 t1 t2) : Calls Tryz.prog 75 #[t0, t1, t2] w (retK R) := calls_of_enter mixed Tryz.func75 (by kernel_rfl) (Eq.mpr (by kernel_rfl : enterW Tryz.prog Tryz.f75 an75 [t0, t1, t2] w R = vc75 R w t0 t1 t2) h)
def an76 : Ann := (.seq (oD 1) (.seq (oD 5) .leaf))
def vc76 (R : Value → World → Prop) (w : World) (t0 t1 : Value) : Prop :=
 CV (.func (.func 174) #[] #[]) #[t0, t1] w fun t7 w =>
 V (bi .geq 3 t7 (.int .i64 0)) w fun t8 w =>
 R t8 w
theorem en76 (h : vc76 R w t0 t1) : Calls Tryz.prog 76 #[t0, t1] w (retK R) := calls_of_enter mixed Tryz.func76 (by kernel_rfl) (Eq.mpr (by kernel_rfl : enterW Tryz.prog Tryz.f76 an76 [t0, t1] w R = vc76 R w t0 t1) h)
def an77 : Ann := (.seq (oD 1) (.seq (.seq (oD 3) (.one (.loop [8] ([9, 10, 5] ++ rgN 11 7 ++ [4, 18, 8]) (.seq (oD 1) (.seq (.cond .leaf .leaf) (.seq (.one (.seq (oD 2) (.seq (oD 6) (.cond (.seq (oD 2) .leaf) .leaf)))) (oD 2))))))) (.seq (oD 1) .leaf)))
def vc77 (R : Value → World → Prop) (w : World) (t0 t1 : Value) : Prop :=
 V (Builtin.len_ #[25] 3 #[t0]) w fun t7 w =>
 ∃ (I0 : List Value → World → Prop) (M0 : List Value → World → Nat), I0 [(.int .i64 0)] w ∧ ∀ g : Env, ∀ t8, ∀ w, I0 [t8] w → ∀ m0, m0 = M0 [t8] w →
 V (bi .lss 3 t8 t7) w fun t9 w =>
 CondW t9
 (V (ia 25 t0 t8) w fun t14 w =>
 V (ld 54 t14) w fun t15 w =>
 CV t1 #[t15] w fun t16 w =>
 CondW t16
 (R t8 w)
 (V (bi .add 3 t8 (.int .i64 1)) w fun t18 w =>
 I0 [t18] w ∧ M0 [t18] w < m0))
 (R (.int .i64 (-1)) w)
theorem en77 (h : vc77 R w t0 t1) : Calls Tryz.prog 77 #[t0, t1] w (retK R) := calls_of_enter mixed Tryz.func77 (by kernel_rfl) (Eq.mpr (by kernel_rfl : enterW Tryz.prog Tryz.f77 an77 [t0, t1] w R = vc77 R w t0 t1) h)
def an91 : Ann := (.seq (oD 5) (.seq (oD 3) (.one (.loop [15] [16, 17, 18, 7, 19, 20, 21, 22, 15] (.seq (oD 1) (.seq (.cond .leaf .leaf) (.seq (.one (.seq (oD 3) (oD 3))) (oD 2))))))))
def vc91 (R : Value → World → Prop) (w : World) (t0 t1 t2 : Value) : Prop :=
 V (Builtin.len_ #[22] 3 #[t1]) w fun t10 w =>
 V (bs 45 1 #[(0, t10)]) w fun t11 w =>
 CV (.func (.func 175) #[] #[]) #[t0, t11] w fun t12 w =>
 V (Builtin.len_ #[22] 3 #[t1]) w fun t14 w =>
 ∃ (I0 : List Value → World → Prop) (M0 : List Value → World → Nat), I0 [(.int .i64 0)] w ∧ ∀ g : Env, ∀ t15, ∀ w, I0 [t15] w → ∀ m0, m0 = M0 [t15] w →
 V (bi .lss 3 t15 t14) w fun t16 w =>
 CondW t16
 (V (ia 22 t1 t15) w fun t17 w =>
 V (ld 9 t17) w fun t18 w =>
 CV t2 #[t18] w fun t21 w =>
 V (bi .add 3 t15 (.int .i64 1)) w fun t22 w =>
 I0 [t22] w ∧ M0 [t22] w < m0)
 (R (.tuple #[]) w)
theorem en91 (h : vc91 R w t0 t1 t2) : Calls Tryz.prog 91 #[t0, t1, t2] w (retK R) := calls_of_enter mixed Tryz.func91 (by kernel_rfl) (Eq.mpr (by kernel_rfl : enterW Tryz.prog Tryz.f91 an91 [t0, t1, t2] w R = vc91 R w t0 t1 t2) h)
def an92 : Ann := (.seq (oD 5) (oD 10))
def vc92 (R : Value → World → Prop) (w : World) (t0 t1 : Value) : Prop :=
 V (Builtin.len_ #[9] 3 #[t1]) w fun t6 w =>
 V (bs 45 1 #[(0, t6)]) w fun t7 w =>
 CV (.func (.func 175) #[] #[]) #[t0, t7] w fun t8 w =>
 NilW t0 fun t11 => V (fa 156 t11 0) w fun t12 w =>
 V (ld 55 t12) w fun t13 w =>
 V (Builtin.append_ #[55, 9] 55 #[t13, t1]) w fun t15 w =>
 NilW t0 fun t16 => V (fa 156 t16 0) w fun t17 w =>
 U (st 55 t17 t15) w fun w =>
 R (.tuple #[]) w
theorem en92 (h : vc92 R w t0 t1) : Calls Tryz.prog 92 #[t0, t1] w (retK R) := calls_of_enter mixed Tryz.func92 (by kernel_rfl) (Eq.mpr (by kernel_rfl : enterW Tryz.prog Tryz.f92 an92 [t0, t1] w R = vc92 R w t0 t1) h)
def an93 : Ann := (.seq (oD 5) (.seq (oD 3) (.one (.loop [15] [16, 17, 18, 7, 19, 20, 21, 22, 15] (.seq (oD 1) (.seq (.cond .leaf .leaf) (.seq (.one (.seq (oD 3) (oD 3))) (oD 2))))))))
def vc93 (R : Value → World → Prop) (w : World) (t0 t1 t2 : Value) : Prop :=
 V (Builtin.len_ #[23] 3 #[t1]) w fun t10 w =>
 V (bs 45 1 #[(0, t10)]) w fun t11 w =>
 CV (.func (.func 175) #[] #[]) #[t0, t11] w fun t12 w =>
 V (Builtin.len_ #[23] 3 #[t1]) w fun t14 w =>
 ∃ (I0 : List Value → World → Prop) (M0 : List Value → World → Nat), I0 [(.int .i64 0)] w ∧ ∀ g : Env, ∀ t15, ∀ w, I0 [t15] w → ∀ m0, m0 = M0 [t15] w →
 V (bi .lss 3 t15 t14) w fun t16 w =>
 CondW t16
 (V (ia 23 t1 t15) w fun t17 w =>
 V (ld 93 t17) w fun t18 w =>
 CV t2 #[t18] w fun t21 w =>
 V (bi .add 3 t15 (.int .i64 1)) w fun t22 w =>
 I0 [t22] w ∧ M0 [t22] w < m0)
 (R (.tuple #[]) w)
theorem en93 (h : vc93 R w t0 t1 t2) : Calls Tryz.prog 93 #[t0, t1, t2] w (retK R) := calls_of_enter mixed Tryz.func93 (by kernel_rfl) (Eq.mpr (by kernel_rfl : enterW Tryz.prog Tryz.f93 an93 [t0, t1, t2] w R = vc93 R w t0 t1 t2) h)
def an94 : Ann := (oD 5)
def vc94 (R : Value → World → Prop) (w : World) (t0 t1 : Value) : Prop :=
 V (ld 154 t1) w fun t3 w =>
 V (ld 154 t1) w fun t5 w =>
 CV (.func (.func 95) #[] #[]) #[t3, t0, (.func (.func 96) #[t5] #[])] w fun t7 w =>
 R (.tuple #[]) w
theorem en94 (h : vc94 R w t0 t1) : Calls Tryz.prog 94 #[t0, t1] w (retK R) := calls_of_enter mixed Tryz.func94 (by kernel_rfl) (Eq.mpr (by kernel_rfl : enterW Tryz.prog Tryz.f94 an94 [t0, t1] w R = vc94 R w t0 t1) h)
def an95 : Ann := (.seq (oD 5) (.seq (oD 3) (.one (.loop [15] [16, 17, 18, 7, 19, 20, 21, 22, 15] (.seq (oD 1) (.seq (.cond .leaf .leaf) (.seq (.one (.seq (oD 4) (oD 3))) (oD 2))))))))
def vc95 (R : Value → World → Prop) (w : World) (t0 t1 t2 : Value) : Prop :=
 V (Builtin.len_ #[93] 3 #[t1]) w fun t10 w =>
 V (bs 45 1 #[(0, t10)]) w fun t11 w =>
 CV (.func (.func 175) #[] #[]) #[t0, t11] w fun t12 w =>
 V (Builtin.len_ #[93] 3 #[t1]) w fun t14 w =>
 ∃ (I0 : List Value → World → Prop) (M0 : List Value → World → Nat), I0 [(.int .i64 0)] w ∧ ∀ g : Env, ∀ t15, ∀ w, I0 [t15] w → ∀ m0, m0 = M0 [t15] w →
 V (bi .lss 3 t15 t14) w fun t16 w =>
 CondW t16
 (V (ia 93 t1 t15) w fun t17 w =>
 V (ld 95 t17) w fun t18 w =>
 V (al 95) w fun t7 w =>
 U (st 95 t7 t18) w fun w =>
 V (ld 95 t7) w fun t20 w =>
 CV t2 #[t20] w fun t21 w =>
 V (bi .add 3 t15 (.int .i64 1)) w fun t22 w =>
 I0 [t22] w ∧ M0 [t22] w < m0)
 (R (.tuple #[]) w)
theorem en95 (h : vc95 R w t0 t1 t2) : Calls Tryz.prog 95 #[t0, t1, t2] w (retK R) := calls_of_enter mixed Tryz.func95 (by kernel_rfl) (Eq.mpr (by kernel_rfl : enterW Tryz.prog Tryz.f95 an95 [t0, t1, t2] w R = vc95 R w t0 t1 t2) h)
def an96 : Ann := (.seq (oD 1) (.seq (oD 5) (.seq (oD 4) (oD 5))))
def vc96 (R : Value → World → Prop) (w : World) (t0 t1 : Value) : Prop :=
 V (bx 95 t1) w fun t3 w =>
 V (fa 95 t3 0) w fun t5 w =>
 V (ld 3 t5) w fun t6 w =>
 V (bs 45 1 #[(0, t6)]) w fun t7 w =>
 CV (.func (.func 175) #[] #[]) #[t0, t7] w fun t8 w =>
 V (fa 95 t3 1) w fun t10 w =>
 V (ld 9 t10) w fun t11 w =>
 CV (.func (.func 92) #[] #[]) #[t0, t11] w fun t12 w =>
 V (fa 95 t3 2) w fun t14 w =>
 V (ld 3 t14) w fun t15 w =>
 V (bs 45 1 #[(0, t15)]) w fun t16 w =>
 CV (.func (.func 175) #[] #[]) #[t0, t16] w fun t17 w =>
 R (.tuple #[]) w
theorem en96 (h : vc96 R w t0 t1) : Calls Tryz.prog 96 #[t0, t1] w (retK R) := calls_of_enter mixed Tryz.func96 (by kernel_rfl) (Eq.mpr (by kernel_rfl : enterW Tryz.prog Tryz.f96 an96 [t0, t1] w R = vc96 R w t0 t1) h)
def an97 : Ann := (.seq (oD 5) (.seq (oD 3) (.one (.loop [15] [16, 17, 18, 7, 19, 20, 21, 22, 15] (.seq (oD 1) (.seq (.cond .leaf .leaf) (.seq (.one (.seq (oD 3) (oD 3))) (oD 2))))))))
def vc97 (R : Value → World → Prop) (w : World) (t0 t1 t2 : Value) : Prop :=
 V (Builtin.len_ #[24] 3 #[t1]) w fun t10 w =>
 V (bs 45 1 #[(0, t10)]) w fun t11 w =>
 CV (.func (.func 175) #[] #[]) #[t0, t11] w fun t12 w =>
 V (Builtin.len_ #[24] 3 #[t1]) w fun t14 w =>
 ∃ (I0 : List Value → World → Prop) (M0 : List Value → World → Nat), I0 [(.int .i64 0)] w ∧ ∀ g : Env, ∀ t15, ∀ w, I0 [t15] w → ∀ m0, m0 = M0 [t15] w →
 V (bi .lss 3 t15 t14) w fun t16 w =>
 CondW t16
 (V (ia 24 t1 t15) w fun t17 w =>
 V (ld 96 t17) w fun t18 w =>
 CV t2 #[t18] w fun t21 w =>
 V (bi .add 3 t15 (.int .i64 1)) w fun t22 w =>
 I0 [t22] w ∧ M0 [t22] w < m0)
 (R (.tuple #[]) w)
theorem en97 (h : vc97 R w t0 t1 t2) : Calls Tryz.prog 97 #[t0, t1, t2] w (retK R) := calls_of_enter mixed Tryz.func97 (by kernel_rfl) (Eq.mpr (by kernel_rfl : enterW Tryz.prog Tryz.f97 an97 [t0, t1, t2] w R = vc97 R w t0 t1 t2) h)
def an98 : Ann := (oD 5)
def vc98 (R : Value → World → Prop) (w : World) (t0 t1 : Value) : Prop :=
 V (ld 154 t1) w fun t3 w =>
 V (ld 154 t1) w fun t5 w =>
 CV (.func (.func 99) #[] #[]) #[t3, t0, (.func (.func 100) #[t5] #[])] w fun t7 w =>
 R (.tuple #[]) w
theorem en98 (h : vc98 R w t0 t1) : Calls Tryz.prog 98 #[t0, t1] w (retK R) := calls_of_enter mixed Tryz.func98 (by kernel_rfl) (Eq.mpr (by kernel_rfl : enterW Tryz.prog Tryz.f98 an98 [t0, t1] w R = vc98 R w t0 t1) h)
def an99 : Ann := (.seq (oD 5) (.seq (oD 3) (.one (.loop [15] [16, 17, 18, 7, 19, 20, 21, 22, 15] (.seq (oD 1) (.seq (.cond .leaf .leaf) (.seq (.one (.seq (oD 4) (oD 3))) (oD 2))))))))
def vc99 (R : Value → World → Prop) (w : World) (t0 t1 t2 : Value) : Prop :=
 V (Builtin.len_ #[96] 3 #[t1]) w fun t10 w =>
 V (bs 45 1 #[(0, t10)]) w fun t11 w =>
 CV (.func (.func 175) #[] #[]) #[t0, t11] w fun t12 w =>
 V (Builtin.len_ #[96] 3 #[t1]) w fun t14 w =>
 ∃ (I0 : List Value → World → Prop) (M0 : List Value → World → Nat), I0 [(.int .i64 0)] w ∧ ∀ g : Env, ∀ t15, ∀ w, I0 [t15] w → ∀ m0, m0 = M0 [t15] w →
 V (bi .lss 3 t15 t14) w fun t16 w =>
 CondW t16
 (V (ia 96 t1 t15) w fun t17 w =>
 V (ld 98 t17) w fun t18 w =>
 V (al 98) w fun t7 w =>
 U (st 98 t7 t18) w fun w =>
 V (ld 98 t7) w fun t20 w =>
 CV t2 #[t20] w fun t21 w =>
 V (bi .add 3 t15 (.int .i64 1)) w fun t22 w =>
 I0 [t22] w ∧ M0 [t22] w < m0)
 (R (.tuple #[]) w)
theorem en99 (h : vc99 R w t0 t1 t2) : Calls Tryz.prog 99 #[t0, t1, t2] w (retK R) := calls_of_enter mixed Tryz.func99 (by kernel_rfl) (Eq.mpr (by kernel_rfl : enterW Tryz.prog Tryz.f99 an99 [t0, t1, t2] w R = vc99 R w t0 t1 t2) h)
def an100 : Ann := (.seq (oD 1) (.seq (oD 1) (.seqJ [4] [5, 6, 4] (.seq (oD 2) (.cond (oD 1) .leaf)) (.seq (oD 4) (oD 4)))))
def vc100 (R : Value → World → Prop) (w : World) (t0 t1 : Value) : Prop :=
 V (bx 98 t1) w fun t3 w =>
 ∀ K0 : List Value → World → Prop, (∀ t4, ∀ w, (∀ g : Env,
 V (bs 45 1 #[(0, t4)]) w fun t9 w =>
 CV (.func (.func 175) #[] #[]) #[t0, t9] w fun t10 w =>
 V (fa 98 t3 0) w fun t12 w =>
 V (ld 9 t12) w fun t13 w =>
 CV (.func (.func 92) #[] #[]) #[t0, t13] w fun t14 w =>
 R (.tuple #[]) w) → K0 [t4] w) →
 V (fa 98 t3 1) w fun t5 w =>
 V (ld 4 t5) w fun t6 w =>
 CondW t6
 (K0 [(.int .i64 1)] w)
 (K0 [(.int .i64 0)] w)
theorem en100 (h : vc100 R w t0 t1) : Calls Tryz.prog 100 #[t0, t1] w (retK R) := calls_of_enter mixed Tryz.func100 (by kernel_rfl) (Eq.mpr (by kernel_rfl : enterW Tryz.prog Tryz.f100 an100 [t0, t1] w R = vc100 R w t0 t1) h)
def an101 : Ann := (.seq (oD 5) (.seq (oD 3) (.one (.loop [15] [16, 17, 18, 7, 19, 20, 21, 22, 15] (.seq (oD 1) (.seq (.cond .leaf .leaf) (.seq (.one (.seq (oD 4) (oD 3))) (oD 2))))))))
def vc101 (R : Value → World → Prop) (w : World) (t0 t1 t2 : Value) : Prop :=
 V (Builtin.len_ #[25] 3 #[t1]) w fun t10 w =>
 V (bs 45 1 #[(0, t10)]) w fun t11 w =>
 CV (.func (.func 175) #[] #[]) #[t0, t11] w fun t12 w =>
 V (Builtin.len_ #[25] 3 #[t1]) w fun t14 w =>
 ∃ (I0 : List Value → World → Prop) (M0 : List Value → World → Nat), I0 [(.int .i64 0)] w ∧ ∀ g : Env, ∀ t15, ∀ w, I0 [t15] w → ∀ m0, m0 = M0 [t15] w →
 V (bi .lss 3 t15 t14) w fun t16 w =>
 CondW t16
 (V (ia 25 t1 t15) w fun t17 w =>
 V (ld 54 t17) w fun t18 w =>
 V (al 54) w fun t7 w =>
 U (st 54 t7 t18) w fun w =>
 V (ld 54 t7) w fun t20 w =>
 CV t2 #[t20] w fun t21 w =>
 V (bi .add 3 t15 (.int .i64 1)) w fun t22 w =>
 I0 [t22] w ∧ M0 [t22] w < m0)
 (R (.tuple #[]) w)
theorem en101 (h : vc101 R w t0 t1 t2) : Calls Tryz.prog 101 #[t0, t1, t2] w (retK R) := calls_of_enter mixed Tryz.func101 (by kernel_rfl) (Eq.mpr (by kernel_rfl : enterW Tryz.prog Tryz.f101 an101 [t0, t1, t2] w R = vc101 R w t0 t1 t2) h)
def an102 : Ann := (.seq (oD 1) (.seq (oD 5) (oD 4)))
def vc102 (R : Value → World → Prop) (w : World) (t0 t1 : Value) : Prop :=
 V (bx 54 t1) w fun t3 w =>
 V (fa 54 t3 1) w fun t5 w =>
 V (ld 3 t5) w fun t6 w =>
 V (bs 45 1 #[(0, t6)]) w fun t7 w =>
 CV (.func (.func 175) #[] #[]) #[t0, t7] w fun t8 w =>
 V (fa 54 t3 0) w fun t10 w =>
 V (ld 9 t10) w fun t11 w =>
 CV (.func (.func 92) #[] #[]) #[t0, t11] w fun t12 w =>
 R (.tuple #[]) w
theorem en102 (h : vc102 R w t0 t1) : Calls Tryz.prog 102 #[t0, t1] w (retK R) := calls_of_enter mixed Tryz.func102 (by kernel_rfl) (Eq.mpr (by kernel_rfl : enterW Tryz.prog Tryz.f102 an102 [t0, t1] w R = vc102 R w t0 t1) h)
def an103 : Ann := (.seq (oD 5) (.seq (oD 3) (.one (.loop [15] [16, 17, 18, 7, 19, 20, 21, 22, 15] (.seq (oD 1) (.seq (.cond .leaf .leaf) (.seq (.one (.seq (oD 4) (oD 3))) (oD 2))))))))
def vc103 (R : Value → World → Prop) (w : World) (t0 t1 t2 : Value) : Prop :=
 V (Builtin.len_ #[26] 3 #[t1]) w fun t10 w =>
 V (bs 45 1 #[(0, t10)]) w fun t11 w =>
 CV (.func (.func 175) #[] #[]) #[t0, t11] w fun t12 w =>
 V (Builtin.len_ #[26] 3 #[t1]) w fun t14 w =>
 ∃ (I0 : List Value → World → Prop) (M0 : List Value → World → Nat), I0 [(.int .i64 0)] w ∧ ∀ g : Env, ∀ t15, ∀ w, I0 [t15] w → ∀ m0, m0 = M0 [t15] w →
 V (bi .lss 3 t15 t14) w fun t16 w =>
 CondW t16
 (V (ia 26 t1 t15) w fun t17 w =>
 V (ld 38 t17) w fun t18 w =>
 V (al 38) w fun t7 w =>
 U (st 38 t7 t18) w fun w =>
 V (ld 38 t7) w fun t20 w =>
 CV t2 #[t20] w fun t21 w =>
 V (bi .add 3 t15 (.int .i64 1)) w fun t22 w =>
 I0 [t22] w ∧ M0 [t22] w < m0)
 (R (.tuple #[]) w)
theorem en103 (h : vc103 R w t0 t1 t2) : Calls Tryz.prog 103 #[t0, t1, t2] w (retK R) := calls_of_enter mixed Tryz.func103 (by kernel_rfl) (Eq.mpr (by kernel_rfl : enterW Tryz.prog Tryz.f103 an103 [t0, t1, t2] w R = vc103 R w t0 t1 t2) h)
def an104 : Ann := (.seq (oD 1) (oD 11))
def vc104 (R : Value → World → Prop) (w : World) (t0 t1 : Value) : Prop :=
 V (bx 38 t1) w fun t3 w =>
 V (fa 38 t3 0) w fun t5 w =>
 V (ld 3 t5) w fun t6 w =>
 V (fa 38 t3 1) w fun t7 w =>
 V (ld 3 t7) w fun t8 w =>
 V (fa 38 t3 2) w fun t9 w =>
 V (ld 3 t9) w fun t10 w =>
 V (fa 38 t3 3) w fun t11 w =>
 V (ld 3 t11) w fun t12 w =>
 V (bs 45 4 #[(0, t6), (1, t8), (2, t10), (3, t12)]) w fun t13 w =>
 CV (.func (.func 175) #[] #[]) #[t0, t13] w fun t14 w =>
 R (.tuple #[]) w
theorem en104 (h : vc104 R w t0 t1) : Calls Tryz.prog 104 #[t0, t1] w (retK R) := calls_of_enter mixed Tryz.func104 (by kernel_rfl) (Eq.mpr (by kernel_rfl : enterW Tryz.prog Tryz.f104 an104 [t0, t1] w R = vc104 R w t0 t1) h)
def an124 : Ann := (oD 3)
def vc124 (R : Value → World → Prop) (w : World) (t0 t1 : Value) : Prop :=
 V (bi .add 9 t0 (.string ⟨#[10]⟩)) w fun t4 w =>
 CV (.func (.func 125) #[] #[]) #[t1, t4] w fun t5 w =>
 R (.tuple #[]) w
theorem en124 (h : vc124 R w t0 t1) : Calls Tryz.prog 124 #[t0, t1] w (retK R) := calls_of_enter mixed Tryz.func124 (by kernel_rfl) (Eq.mpr (by kernel_rfl : enterW Tryz.prog Tryz.f124 an124 [t0, t1] w R = vc124 R w t0 t1) h)
def an125 : Ann := (.seq (oD 2) (.seq (oD 2) (.seq (oD 10) (.seq (oD 4) .leaf))))
def vc125 (R : Value → World → Prop) (w : World) (t0 t1 : Value) : Prop :=
 CV (.func (.func 184) #[] #[]) #[t0] w fun t7 w =>
 NilW t0 fun t10 => V (fa 199 t10 1) w fun t11 w =>
 V (ld 55 t11) w fun t12 w =>
 V (Builtin.append_ #[55, 9] 55 #[t12, t1]) w fun t14 w =>
 NilW t0 fun t15 => V (fa 199 t15 1) w fun t16 w =>
 U (st 55 t16 t14) w fun w =>
 V (Builtin.len_ #[9] 3 #[t1]) w fun t18 w =>
 R (.tuple #[t18, .nilIface]) w
theorem en125 (h : vc125 R w t0 t1) : Calls Tryz.prog 125 #[t0, t1] w (retK R) := calls_of_enter mixed Tryz.func125 (by kernel_rfl) (Eq.mpr (by kernel_rfl : enterW Tryz.prog Tryz.f125 an125 [t0, t1] w R = vc125 R w t0 t1) h)
def an126 : Ann := (.seq (oD 1) (.seq (oD 3) .leaf))
def vc126 (R : Value → World → Prop) (w : World) (t0 : Value) : Prop :=
 CV (.func (.func 185) #[] #[]) #[t0, (.string ⟨#[32]⟩)] w fun t4 w =>
 R t4 w
theorem en126 (h : vc126 R w t0) : Calls Tryz.prog 126 #[t0] w (retK R) := calls_of_enter mixed Tryz.func126 (by kernel_rfl) (Eq.mpr (by kernel_rfl : enterW Tryz.prog Tryz.f126 an126 [t0] w R = vc126 R w t0) h)
def an127 : Ann := (.seq (oD 1) (.seq (oD 5) .leaf))
def vc127 (R : Value → World → Prop) (w : World) (t0 : Value) : Prop :=
 CV (.func (.func 186) #[] #[]) #[t0, (.string ⟨#[34]⟩), (.string ⟨#[34, 34]⟩)] w fun t4 w =>
 V (bi .add 9 (.string ⟨#[34]⟩) t4) w fun t5 w =>
 V (bi .add 9 t5 (.string ⟨#[34]⟩)) w fun t6 w =>
 R t6 w
theorem en127 (h : vc127 R w t0) : Calls Tryz.prog 127 #[t0] w (retK R) := calls_of_enter mixed Tryz.func127 (by kernel_rfl) (Eq.mpr (by kernel_rfl : enterW Tryz.prog Tryz.f127 an127 [t0] w R = vc127 R w t0) h)
def an128 : Ann := (.seq (oD 1) (.seq (oD 1) (.seq (.seq (oD 3) (.one (.loop [3, 8] ([9, 10, 11, 5] ++ rgN 12 12 ++ [3, 24, 8]) (.seq (oD 1) (.seq (.cond .leaf .leaf) (.seq (.one (.seq (oD 4) (.draw (.take 0 (.take 1 (.hold 2 (.take 4 (.hold 5 (.take 7 (.hold 8 (.alts (.eff 3 (.alts (.eff 6 (.alts (.eff 9 (.alts (.eff 10 (.alts (.eff 11 (.take 12 .done) .nil)) .nil)) .nil)) .nil)) .nil)))))))))))) (oD 2))))))) (.seq (oD 2) .leaf))))
def vc128 (R : Value → World → Prop) (w : World) (t0 : Value) : Prop :=
 V (Builtin.len_ #[93] 3 #[t0]) w fun t7 w =>
 ∃ (I0 : List Value → World → Prop) (M0 : List Value → World → Nat), I0 [(.string ⟨#[116, 109, 112, 108]⟩), (.int .i64 0)] w ∧ ∀ g : Env, ∀ t3, ∀ t8, ∀ w, I0 [t3, t8] w → ∀ m0, m0 = M0 [t3, t8] w →
 V (bi .lss 3 t8 t7) w fun t9 w =>
 CondW t9
 (V (ia 93 t0 t8) w fun t10 w =>
 V (ld 95 t10) w fun t11 w =>
 V (al 95) w fun t5 w =>
 U (st 95 t5 t11) w fun w =>
 Dr w fun w =>
 PV (fa 95 t5 0) fun t13 =>
 HV (ld 3 t13) w fun t14 =>
 PV (fa 95 t5 1) fun t16 =>
 HV (ld 9 t16) w fun t17 =>
 PV (fa 95 t5 2) fun t19 =>
 HV (ld 3 t19) w fun t20 =>
 CV (.func (.func 187) #[] #[]) #[t14] w fun t15 w =>
 RunIs (ld 3 t19) w t20 ∧ RunIs (ld 9 t16) w t17 ∧ (CV (.func (.func 127) #[] #[]) #[t17] w fun t18 w =>
 RunIs (ld 3 t19) w t20 ∧ (CV (.func (.func 187) #[] #[]) #[t20] w fun t21 w =>
 V (bs 22 4 #[(0, t3), (1, t15), (2, t18), (3, t21)]) w fun t22 w =>
 CV (.func (.func 126) #[] #[]) #[t22] w fun t23 w =>
 V (bi .add 3 t8 (.int .i64 1)) w fun t24 w =>
 I0 [t23, t24] w ∧ M0 [t23, t24] w < m0)))
 (R t3 w)
theorem en128 (h : vc128 R w t0) : Calls Tryz.prog 128 #[t0] w (retK R) := calls_of_enter mixed Tryz.func128 (by kernel_rfl) (Eq.mpr (by kernel_rfl : enterW Tryz.prog Tryz.f128 an128 [t0] w R = vc128 R w t0) h)
def an129 : Ann := (.seq (oD 1) (.seq (oD 1) (.seq (.seq (oD 3) (.one (.loop [3, 8] ([9, 10, 11, 5] ++ rgN 12 9 ++ [3] ++ rgN 21 6 ++ [8]) (.seq (oD 1) (.seq (.cond .leaf .leaf) (.seqJ [3] ([10, 11, 5] ++ rgN 12 9 ++ [3, 21, 22, 23, 24, 25]) (.one (.seq (oD 4) (.seq (oD 2) (.cond (oD 8) (oD 6))))) (oD 2))))))) (.seq (oD 2) .leaf))))
def vc129 (R : Value → World → Prop) (w : World) (t0 : Value) : Prop :=
 V (Builtin.len_ #[96] 3 #[t0]) w fun t7 w =>
 ∃ (I0 : List Value → World → Prop) (M0 : List Value → World → Nat), I0 [(.string ⟨#[108, 105, 115, 116]⟩), (.int .i64 0)] w ∧ ∀ g : Env, ∀ t3, ∀ t8, ∀ w, I0 [t3, t8] w → ∀ m0, m0 = M0 [t3, t8] w →
 V (bi .lss 3 t8 t7) w fun t9 w =>
 CondW t9
 (∀ K0 : List Value → World → Prop, (∀ t3a, ∀ w, (∀ g : Env,
 V (bi .add 3 t8 (.int .i64 1)) w fun t26 w =>
 I0 [t3a, t26] w ∧ M0 [t3a, t26] w < m0) → K0 [t3a] w) →
 V (ia 96 t0 t8) w fun t10 w =>
 V (ld 98 t10) w fun t11 w =>
 V (al 98) w fun t5 w =>
 U (st 98 t5 t11) w fun w =>
 V (fa 98 t5 1) w fun t12 w =>
 V (ld 4 t12) w fun t13 w =>
 CondW t13
 (V (fa 98 t5 0) w fun t15 w =>
 V (ld 9 t15) w fun t16 w =>
 V (bi .add 9 (.string ⟨#[40]⟩) t16) w fun t17 w =>
 V (bi .add 9 t17 (.string ⟨#[41]⟩)) w fun t18 w =>
 V (bs 22 2 #[(0, t3), (1, t18)]) w fun t19 w =>
 CV (.func (.func 126) #[] #[]) #[t19] w fun t20 w =>
 K0 [t20] w)
 (V (fa 98 t5 0) w fun t22 w =>
 V (ld 9 t22) w fun t23 w =>
 V (bs 22 2 #[(0, t3), (1, t23)]) w fun t24 w =>
 CV (.func (.func 126) #[] #[]) #[t24] w fun t25 w =>
 K0 [t25] w))
 (R t3 w)
theorem en129 (h : vc129 R w t0) : Calls Tryz.prog 129 #[t0] w (retK R) := calls_of_enter mixed Tryz.func129 (by kernel_rfl) (Eq.mpr (by kernel_rfl : enterW Tryz.prog Tryz.f129 an129 [t0] w R = vc129 R w t0) h)
def an130 : Ann := (.seq (oD 2) (.seq (.draw (.take 0 (.hold 1 (.take 3 (.hold 4 (.alts (.eff 2 (.alts (.eff 5 (.alts (.eff 6 (.alts (.eff 7 (.take 8 .done) .nil)) .nil)) .nil)) .nil))))))) .leaf))
def vc130 (R : Value → World → Prop) (w : World) (t0 : Value) : Prop :=
 V (bx 54 t0) w fun t1 w =>
 Dr w fun w =>
 PV (fa 54 t1 1) fun t3 =>
 HV (ld 3 t3) w fun t4 =>
 PV (fa 54 t1 0) fun t6 =>
 HV (ld 9 t6) w fun t7 =>
 CV (.func (.func 187) #[] #[]) #[t4] w fun t5 w =>
 RunIs (ld 9 t6) w t7 ∧ (CV (.func (.func 127) #[] #[]) #[t7] w fun t8 w =>
 V (bs 22 3 #[(0, (.string ⟨#[108, 97, 98, 101, 108]⟩)), (1, t5), (2, t8)]) w fun t9 w =>
 CV (.func (.func 126) #[] #[]) #[t9] w fun t10 w =>
 R t10 w)
theorem en130 (h : vc130 R w t0) : Calls Tryz.prog 130 #[t0] w (retK R) := calls_of_enter mixed Tryz.func130 (by kernel_rfl) (Eq.mpr (by kernel_rfl : enterW Tryz.prog Tryz.f130 an130 [t0] w R = vc130 R w t0) h)
def an131 : Ann := (.seq (oD 2) (.seq (oD 8) (.seq (oD 8) (.seq (.one (.loop [5] (rgN 21 17 ++ [5]) (.seq (.seq (.reg (opn 4 (.join [32] (rgN 25 8) (.split 24 (opn 8 .done) (opn 8 .done)) .done))) (.cond .leaf .leaf)) (.one (oD 6))))) (.seq (oD 3) (.seq (.seq (oD 3) (.one (.loop [6, 42] [43, 44, 45, 8, 46, 47, 48, 49, 50, 6, 51, 42] (.seq (oD 1) (.seq (.cond .leaf .leaf) (.seq (.one (.seq (oD 3) (oD 6))) (oD 2))))))) (.seq (oD 2) .leaf)))))))
def vc131 (R : Value → World → Prop) (w : World) (t0 : Value) : Prop :=
 V (bx 38 t0) w fun t1 w =>
 V (ld 38 t1) w fun t10 w =>
 CV (.func (.func 49) #[] #[]) #[t10] w fun t11 w =>
 V (ex t11 0) w fun t12 w =>
 V (ex t11 1) w fun t13 w =>
 V (al 102) w fun t3 w =>
 U (st 102 t3 t12) w fun w =>
 V (fa 38 t1 1) w fun t14 w =>
 V (ld 3 t14) w fun t15 w =>
 V (fa 38 t1 2) w fun t16 w =>
 V (ld 3 t16) w fun t17 w =>
 V (fa 38 t1 3) w fun t18 w =>
 V (ld 3 t18) w fun t19 w =>
 V (bs 45 3 #[(0, t15), (1, t17), (2, t19)]) w fun t20 w =>
 ∃ (I0 : List Value → World → Prop) (M0 : List Value → World → Nat), I0 [t20] w ∧ ∀ g : Env, ∀ t5, ∀ w, I0 [t5] w → ∀ m0, m0 = M0 [t5] w →
 V (Builtin.len_ #[45] 3 #[t5]) w fun t22 w =>
 V (bi .gtr 3 t22 (.int .i64 0)) w fun t23 w =>
 ∀ K0 : List Value → World → Prop, (∀ t32, ∀ w, (∀ g : Env,
 CondW t32
 (V (Builtin.len_ #[45] 3 #[t5]) w fun t35 w =>
 V (bi .sub 3 t35 (.int .i64 1)) w fun t36 w =>
 V (sl 45 t5 none (some t36) none) w fun t37 w =>
 I0 [t37] w ∧ M0 [t37] w < m0)
 (V (fa 102 t3 0) w fun t38 w =>
 V (ld 9 t38) w fun t39 w =>
 V (Builtin.len_ #[45] 3 #[t5]) w fun t41 w =>
 ∃ (I1 : List Value → World → Prop) (M1 : List Value → World → Nat), I1 [t39, (.int .i64 0)] w ∧ ∀ g : Env, ∀ t6, ∀ t42, ∀ w, I1 [t6, t42] w → ∀ m1, m1 = M1 [t6, t42] w →
 V (bi .lss 3 t42 t41) w fun t43 w =>
 CondW t43
 (V (ia 45 t5 t42) w fun t44 w =>
 V (ld 3 t44) w fun t45 w =>
 CV (.func (.func 187) #[] #[]) #[t45] w fun t48 w =>
 V (bs 22 2 #[(0, t6), (1, t48)]) w fun t49 w =>
 CV (.func (.func 126) #[] #[]) #[t49] w fun t50 w =>
 V (bi .add 3 t42 (.int .i64 1)) w fun t51 w =>
 I1 [t50, t51] w ∧ M1 [t50, t51] w < m1)
 (R t6 w))) → K0 [t32] w) →
 CondW t23
 (V (Builtin.len_ #[45] 3 #[t5]) w fun t27 w =>
 V (bi .sub 3 t27 (.int .i64 1)) w fun t28 w =>
 V (ia 45 t5 t28) w fun t29 w =>
 V (ld 3 t29) w fun t30 w =>
 V (eq .eql 3 (.tmp 30) (.const (.int .i64 0)) t30 (.int .i64 0)) w fun t31 w =>
 K0 [t31] w)
 (K0 [(.bool false)] w)
theorem en131 (h : vc131 R w t0) : Calls Tryz.prog 131 #[t0] w (retK R) := calls_of_enter mixed Tryz.func131 (by kernel_rfl) (Eq.mpr (by kernel_rfl : enterW Tryz.prog Tryz.f131 an131 [t0] w R = vc131 R w t0) h)
def an132 : Ann := (.seq (oD 1) (.seq (.draw (tkN 0 3 (.hold 3 (tkN 5 3 (.hold 8 (.take 9 (.alts (.eff 4 (.alts (.eff 10 (.take 11 .done) .nil)) .nil)))))))) .leaf))
def vc132 (R : Value → World → Prop) (w : World) (t0 : Value) : Prop :=
 Dr w fun w =>
 NilW t0 fun t4 => PV (fa 199 t4 1) fun t5 =>
 HV (ld 55 t5) w fun t6 =>
 NilW t0 fun t9 => PV (fa 199 t9 1) fun t10 =>
 HV (ld 55 t10) w fun t11 =>
 PV (Builtin.len_ #[55] 3 #[t11]) fun t12 =>
 V (Builtin.unsafeSliceData_ #[55] 261 #[t6]) w fun t7 w =>
 RunIs (ld 55 t10) w t11 ∧ (V (Builtin.unsafeString_ #[261, 3] 9 #[t7, t12]) w fun t13 w =>
 RunIs (ld 55 t10) w t11 ∧ (R t13 w))
theorem en132 (h : vc132 R w t0) : Calls Tryz.prog 132 #[t0] w (retK R) := calls_of_enter mixed Tryz.func132 (by kernel_rfl) (Eq.mpr (by kernel_rfl : enterW Tryz.prog Tryz.f132 an132 [t0] w R = vc132 R w t0) h)
def an134 : Ann := (.seq (oD 3) (.seq (oD 9) .leaf))
def vc134 (R : Value → World → Prop) (w : World) (t0 t1 : Value) : Prop :=
 CV (.func (.func 191) #[] #[]) #[t0, t1] w fun t9 w =>
 V (ex t9 0) w fun t10 w =>
 V (ex t9 1) w fun t11 w =>
 V (ex t9 2) w fun t12 w =>
 R (.tuple #[t10, t11, t12]) w
theorem en134 (h : vc134 R w t0 t1) : Calls Tryz.prog 134 #[t0, t1] w (retK R) := calls_of_enter mixed Tryz.func134 (by kernel_rfl) (Eq.mpr (by kernel_rfl : enterW Tryz.prog Tryz.f134 an134 [t0, t1] w R = vc134 R w t0 t1) h)
def an137 : Ann := (.seq (oD 1) (.seq (oD 4) .leaf))
def vc137 (R : Value → World → Prop) (w : World) (t0 : Value) : Prop :=
 V (Builtin.len_ #[9] 3 #[t0]) w fun t4 w =>
 V (bi .leq 3 t4 (.int .i64 1000)) w fun t5 w =>
 R t5 w
theorem en137 (h : vc137 R w t0) : Calls Tryz.prog 137 #[t0] w (retK R) := calls_of_enter mixed Tryz.func137 (by kernel_rfl) (Eq.mpr (by kernel_rfl : enterW Tryz.prog Tryz.f137 an137 [t0] w R = vc137 R w t0) h)
def an138 : Ann := (.seq (oD 2) (.seq (oD 5) .leaf))
def vc138 (R : Value → World → Prop) (w : World) (t0 t1 : Value) : Prop :=
 V (bx 224 t1) w fun t3 w =>
 CV (.func (.func 206) #[] #[]) #[t0, (.func (.func 207) #[] #[t3])] w fun t7 w =>
 V (un .not t7) w fun t8 w =>
 R t8 w
theorem en138 (h : vc138 R w t0 t1) : Calls Tryz.prog 138 #[t0, t1] w (retK R) := calls_of_enter mixed Tryz.func138 (by kernel_rfl) (Eq.mpr (by kernel_rfl : enterW Tryz.prog Tryz.f138 an138 [t0, t1] w R = vc138 R w t0 t1) h)
def an139 : Ann := (.seq (oD 1) (.seq (.reg (opn 4 (.join [11] [8, 9, 10, 11] (.split 7 (opn 4 .done) (opn 4 .done)) (opn 1 .done)))) .leaf))
def vc139 (R : Value → World → Prop) (w : World) (t0 t1 : Value) : Prop :=
 V (Builtin.len_ #[93] 3 #[t0]) w fun t5 w =>
 V (bi .leq 3 t5 (.int .i64 100)) w fun t6 w =>
 ∀ K0 : List Value → World → Prop, (∀ t11, ∀ w, (∀ g : Env,
 R t11 w) → K0 [t11] w) →
 CondW t6
 (CV (.func (.func 140) #[] #[]) #[t0, (.func (.func 141) #[] #[t1])] w fun t10 w =>
 K0 [t10] w)
 (K0 [(.bool false)] w)
theorem en139 (h : vc139 R w t0 t1) : Calls Tryz.prog 139 #[t0, t1] w (retK R) := calls_of_enter mixed Tryz.func139 (by kernel_rfl) (Eq.mpr (by kernel_rfl : enterW Tryz.prog Tryz.f139 an139 [t0, t1] w R = vc139 R w t0 t1) h)
def an140 : Ann := (.seq (oD 2) (.seq (oD 5) .leaf))
def vc140 (R : Value → World → Prop) (w : World) (t0 t1 : Value) : Prop :=
 V (bx 223 t1) w fun t3 w =>
 CV (.func (.func 208) #[] #[]) #[t0, (.func (.func 209) #[] #[t3])] w fun t7 w =>
 V (un .not t7) w fun t8 w =>
 R t8 w
theorem en140 (h : vc140 R w t0 t1) : Calls Tryz.prog 140 #[t0, t1] w (retK R) := calls_of_enter mixed Tryz.func140 (by kernel_rfl) (Eq.mpr (by kernel_rfl : enterW Tryz.prog Tryz.f140 an140 [t0, t1] w R = vc140 R w t0 t1) h)
def an141 : Ann := (.seq (oD 2) (.seq (oD 5) .leaf))
def vc141 (R : Value → World → Prop) (w : World) (t0 t1 : Value) : Prop :=
 V (bx 95 t0) w fun t2 w =>
 V (ld 215 t1) w fun t4 w =>
 V (fa 95 t2 1) w fun t5 w =>
 V (ld 9 t5) w fun t6 w =>
 CV t4 #[t6] w fun t7 w =>
 R t7 w
theorem en141 (h : vc141 R w t0 t1) : Calls Tryz.prog 141 #[t0, t1] w (retK R) := calls_of_enter mixed Tryz.func141 (by kernel_rfl) (Eq.mpr (by kernel_rfl : enterW Tryz.prog Tryz.f141 an141 [t0, t1] w R = vc141 R w t0 t1) h)
def an142 : Ann := (.seq (oD 2) (.seq (oD 5) .leaf))
def vc142 (R : Value → World → Prop) (w : World) (t0 t1 : Value) : Prop :=
 V (bx 215 t1) w fun t3 w =>
 CV (.func (.func 210) #[] #[]) #[t0, (.func (.func 211) #[] #[t3])] w fun t7 w =>
 V (un .not t7) w fun t8 w =>
 R t8 w
theorem en142 (h : vc142 R w t0 t1) : Calls Tryz.prog 142 #[t0, t1] w (retK R) := calls_of_enter mixed Tryz.func142 (by kernel_rfl) (Eq.mpr (by kernel_rfl : enterW Tryz.prog Tryz.f142 an142 [t0, t1] w R = vc142 R w t0 t1) h)
def an143 : Ann := (.seq (oD 2) (.seq (oD 5) .leaf))
def vc143 (R : Value → World → Prop) (w : World) (t0 t1 : Value) : Prop :=
 V (bx 227 t1) w fun t3 w =>
 CV (.func (.func 212) #[] #[]) #[t0, (.func (.func 213) #[] #[t3])] w fun t7 w =>
 V (un .not t7) w fun t8 w =>
 R t8 w
theorem en143 (h : vc143 R w t0 t1) : Calls Tryz.prog 143 #[t0, t1] w (retK R) := calls_of_enter mixed Tryz.func143 (by kernel_rfl) (Eq.mpr (by kernel_rfl : enterW Tryz.prog Tryz.f143 an143 [t0, t1] w R = vc143 R w t0 t1) h)
def an144 : Ann := (.seq (oD 1) (.seq (oD 4) .leaf))
def vc144 (R : Value → World → Prop) (w : World) (t0 : Value) : Prop :=
 V (Builtin.len_ #[96] 3 #[t0]) w fun t4 w =>
 V (bi .leq 3 t4 (.int .i64 10000)) w fun t5 w =>
 R t5 w
theorem en144 (h : vc144 R w t0) : Calls Tryz.prog 144 #[t0] w (retK R) := calls_of_enter mixed Tryz.func144 (by kernel_rfl) (Eq.mpr (by kernel_rfl : enterW Tryz.prog Tryz.f144 an144 [t0] w R = vc144 R w t0) h)
def an145 : Ann := (.seq (oD 2) (.seq (oD 5) .leaf))
def vc145 (R : Value → World → Prop) (w : World) (t0 t1 : Value) : Prop :=
 V (bx 144 t1) w fun t3 w =>
 CV (.func (.func 214) #[] #[]) #[t0, (.func (.func 215) #[] #[t3])] w fun t7 w =>
 V (un .not t7) w fun t8 w =>
 R t8 w
theorem en145 (h : vc145 R w t0 t1) : Calls Tryz.prog 145 #[t0, t1] w (retK R) := calls_of_enter mixed Tryz.func145 (by kernel_rfl) (Eq.mpr (by kernel_rfl : enterW Tryz.prog Tryz.f145 an145 [t0, t1] w R = vc145 R w t0 t1) h)
def an146 : Ann := (.seq (oD 2) (.seq (oD 5) .leaf))
def vc146 (R : Value → World → Prop) (w : World) (t0 t1 : Value) : Prop :=
 V (bx 54 t0) w fun t2 w =>
 V (ld 215 t1) w fun t4 w =>
 V (fa 54 t2 0) w fun t5 w =>
 V (ld 9 t5) w fun t6 w =>
 CV t4 #[t6] w fun t7 w =>
 R t7 w
theorem en146 (h : vc146 R w t0 t1) : Calls Tryz.prog 146 #[t0, t1] w (retK R) := calls_of_enter mixed Tryz.func146 (by kernel_rfl) (Eq.mpr (by kernel_rfl : enterW Tryz.prog Tryz.f146 an146 [t0, t1] w R = vc146 R w t0 t1) h)
def an147 : Ann := (.seq (oD 1) (.seq (.reg (opn 4 (.join [10] [7, 8, 9, 10] (.split 6 (opn 4 .done) (opn 4 .done)) (opn 1 .done)))) .leaf))
def vc147 (R : Value → World → Prop) (w : World) (t0 : Value) : Prop :=
 V (Builtin.len_ #[9] 3 #[t0]) w fun t4 w =>
 V (bi .leq 3 t4 (.int .i64 1000)) w fun t5 w =>
 ∀ K0 : List Value → World → Prop, (∀ t10, ∀ w, (∀ g : Env,
 R t10 w) → K0 [t10] w) →
 CondW t5
 (V (cv 9 55 t0) w fun t8 w =>
 CV (.func (.func 216) #[] #[]) #[t8, (.func (.func 217) #[] #[])] w fun t9 w =>
 K0 [t9] w)
 (K0 [(.bool false)] w)
theorem en147 (h : vc147 R w t0) : Calls Tryz.prog 147 #[t0] w (retK R) := calls_of_enter mixed Tryz.func147 (by kernel_rfl) (Eq.mpr (by kernel_rfl : enterW Tryz.prog Tryz.f147 an147 [t0] w R = vc147 R w t0) h)
def an148 : Ann := (.seq (oD 1) (.seq (oD 3) .leaf))
def vc148 (R : Value → World → Prop) (w : World) (t0 : Value) : Prop :=
 CV (.func (.func 140) #[] #[]) #[t0, (.func (.func 149) #[] #[])] w fun t4 w =>
 R t4 w
theorem en148 (h : vc148 R w t0) : Calls Tryz.prog 148 #[t0] w (retK R) := calls_of_enter mixed Tryz.func148 (by kernel_rfl) (Eq.mpr (by kernel_rfl : enterW Tryz.prog Tryz.f148 an148 [t0] w R = vc148 R w t0) h)
def an149 : Ann := (.seq (oD 2) (.seq (.seq (oD 2) (.one (.seq (oD 2) (.cond (.seq (.reg (opn 4 (.join [14] [11, 12, 13, 14] (.split 10 (opn 4 .done) (opn 4 .done)) (opn 1 .done)))) .leaf) (.seq (oD 2) (.cond (.seq (.reg (opn 4 (.join [24] [21, 22, 23, 24] (.split 20 (opn 4 .done) (opn 4 .done)) (opn 1 .done)))) .leaf) (.seqJ [25] [26, 25, 27, 28, 29] (.seq (oD 2) (.cond .leaf (.seq (oD 2) (.cond .leaf (.seq (oD 2) (.cond .leaf (oD 2))))))) (.cond (.seq (.reg (opn 5 (.join [38] [35, 36, 37, 38] (.split 34 (opn 4 .done) (opn 4 .done)) (opn 1 .done)))) .leaf) (.seqJ [39] [40, 39, 41, 42] (.seq (oD 2) (.cond .leaf (.seq (oD 2) (.cond .leaf (oD 2))))) (.cond (.seq (.reg (opn 4 (.join [50] [47, 48, 49, 50] (.split 46 (opn 4 .done) (opn 4 .done)) (opn 1 .done)))) .leaf) (.seqJ [51] [52, 51, 53] (.seq (oD 2) (.cond .leaf (oD 2))) (.cond (.seq (.reg (opn 4 (.join [61] [58, 59, 60, 61] (.split 57 (opn 4 .done) (opn 4 .done)) (opn 1 .done)))) .leaf) .leaf)))))))))))) (.seq (oD 1) .leaf)))
def vc149 (R : Value → World → Prop) (w : World) (t0 : Value) : Prop :=
 V (bx 95 t0) w fun t1 w =>
 V (fa 95 t1 0) w fun t3 w =>
 V (ld 3 t3) w fun t4 w =>
 V (eq .eql 3 (.tmp 4) (.const (.int .i64 1)) t4 (.int .i64 1)) w fun t6 w =>
 CondW t6
 (V (fa 95 t1 1) w fun t7 w =>
 V (ld 9 t7) w fun t8 w =>
 CV (.func (.func 153) #[] #[]) #[t8] w fun t9 w =>
 ∀ K0 : List Value → World → Prop, (∀ t14, ∀ w, (∀ g : Env,
 R t14 w) → K0 [t14] w) →
 CondW t9
 (V (fa 95 t1 2) w fun t11 w =>
 V (ld 3 t11) w fun t12 w =>
 V (eq .eql 3 (.tmp 12) (.const (.int .i64 0)) t12 (.int .i64 0)) w fun t13 w =>
 K0 [t13] w)
 (K0 [(.bool false)] w))
 (V (eq .eql 3 (.tmp 4) (.const (.int .i64 3)) t4 (.int .i64 3)) w fun t16 w =>
 CondW t16
 (V (fa 95 t1 1) w fun t17 w =>
 V (ld 9 t17) w fun t18 w =>
 CV (.func (.func 147) #[] #[]) #[t18] w fun t19 w =>
 ∀ K0 : List Value → World → Prop, (∀ t24, ∀ w, (∀ g : Env,
 R t24 w) → K0 [t24] w) →
 CondW t19
 (V (fa 95 t1 2) w fun t21 w =>
 V (ld 3 t21) w fun t22 w =>
 V (eq .eql 3 (.tmp 22) (.const (.int .i64 0)) t22 (.int .i64 0)) w fun t23 w =>
 K0 [t23] w)
 (K0 [(.bool false)] w))
 (∀ K0 : List Value → World → Prop, (∀ t25, ∀ w, (∀ g : Env,
 CondW t25
 (V (fa 95 t1 1) w fun t30 w =>
 V (ld 9 t30) w fun t31 w =>
 CV (.func (.func 156) #[] #[]) #[t31] w fun t32 w =>
 V (eq .eql 3 (.tmp 32) (.const (.int .i64 2)) t32 (.int .i64 2)) w fun t33 w =>
 ∀ K0 : List Value → World → Prop, (∀ t38, ∀ w, (∀ g : Env,
 R t38 w) → K0 [t38] w) →
 CondW t33
 (V (fa 95 t1 2) w fun t35 w =>
 V (ld 3 t35) w fun t36 w =>
 V (eq .eql 3 (.tmp 36) (.const (.int .i64 0)) t36 (.int .i64 0)) w fun t37 w =>
 K0 [t37] w)
 (K0 [(.bool false)] w))
 (∀ K0 : List Value → World → Prop, (∀ t39, ∀ w, (∀ g : Env,
 CondW t39
 (V (fa 95 t1 1) w fun t43 w =>
 V (ld 9 t43) w fun t44 w =>
 V (eq .eql 9 (.tmp 44) (.const (.string ⟨#[]⟩)) t44 (.string ⟨#[]⟩)) w fun t45 w =>
 ∀ K0 : List Value → World → Prop, (∀ t50, ∀ w, (∀ g : Env,
 R t50 w) → K0 [t50] w) →
 CondW t45
 (V (fa 95 t1 2) w fun t47 w =>
 V (ld 3 t47) w fun t48 w =>
 CV (.func (.func 75) #[] #[]) #[t48, (.int .i64 0), (.int .i64 999999999)] w fun t49 w =>
 K0 [t49] w)
 (K0 [(.bool false)] w))
 (∀ K0 : List Value → World → Prop, (∀ t51, ∀ w, (∀ g : Env,
 CondW t51
 (V (fa 95 t1 1) w fun t54 w =>
 V (ld 9 t54) w fun t55 w =>
 V (eq .eql 9 (.tmp 55) (.const (.string ⟨#[]⟩)) t55 (.string ⟨#[]⟩)) w fun t56 w =>
 ∀ K0 : List Value → World → Prop, (∀ t61, ∀ w, (∀ g : Env,
 R t61 w) → K0 [t61] w) →
 CondW t56
 (V (fa 95 t1 2) w fun t58 w =>
 V (ld 3 t58) w fun t59 w =>
 V (eq .eql 3 (.tmp 59) (.const (.int .i64 0)) t59 (.int .i64 0)) w fun t60 w =>
 K0 [t60] w)
 (K0 [(.bool false)] w))
 (R (.bool false) w)) → K0 [t51] w) →
 V (eq .eql 3 (.tmp 4) (.const (.int .i64 2)) t4 (.int .i64 2)) w fun t52 w =>
 CondW t52
 (K0 [t52] w)
 (V (eq .eql 3 (.tmp 4) (.const (.int .i64 11)) t4 (.int .i64 11)) w fun t53 w =>
 K0 [t53] w))) → K0 [t39] w) →
 V (eq .eql 3 (.tmp 4) (.const (.int .i64 5)) t4 (.int .i64 5)) w fun t40 w =>
 CondW t40
 (K0 [t40] w)
 (V (eq .eql 3 (.tmp 4) (.const (.int .i64 6)) t4 (.int .i64 6)) w fun t41 w =>
 CondW t41
 (K0 [t41] w)
 (V (eq .eql 3 (.tmp 4) (.const (.int .i64 7)) t4 (.int .i64 7)) w fun t42 w =>
 K0 [t42] w)))) → K0 [t25] w) →
 V (eq .eql 3 (.tmp 4) (.const (.int .i64 4)) t4 (.int .i64 4)) w fun t26 w =>
 CondW t26
 (K0 [t26] w)
 (V (eq .eql 3 (.tmp 4) (.const (.int .i64 8)) t4 (.int .i64 8)) w fun t27 w =>
 CondW t27
 (K0 [t27] w)
 (V (eq .eql 3 (.tmp 4) (.const (.int .i64 9)) t4 (.int .i64 9)) w fun t28 w =>
 CondW t28
 (K0 [t28] w)
 (V (eq .eql 3 (.tmp 4) (.const (.int .i64 10)) t4 (.int .i64 10)) w fun t29 w =>
 K0 [t29] w)))))
theorem en149 (h : vc149 R w t0) : Calls Tryz.prog 149 #[t0] w (retK R) := calls_of_enter mixed Tryz.func149 (by kernel_rfl) (Eq.mpr (by kernel_rfl : enterW Tryz.prog Tryz.f149 an149 [t0] w R = vc149 R w t0) h)
def an150 : Ann := (.seq (oD 1) (.seq (.reg (opn 4 (.join [9] [7, 8, 9] (.split 6 (opn 3 .done) (opn 3 .done)) (opn 1 .done)))) .leaf))
def vc150 (R : Value → World → Prop) (w : World) (t0 : Value) : Prop :=
 V (Builtin.len_ #[96] 3 #[t0]) w fun t4 w =>
 V (bi .gtr 3 t4 (.int .i64 0)) w fun t5 w =>
 ∀ K0 : List Value → World → Prop, (∀ t9, ∀ w, (∀ g : Env,
 R t9 w) → K0 [t9] w) →
 CondW t5
 (CV (.func (.func 151) #[] #[]) #[t0, (.func (.func 152) #[] #[])] w fun t8 w =>
 K0 [t8] w)
 (K0 [(.bool false)] w)
theorem en150 (h : vc150 R w t0) : Calls Tryz.prog 150 #[t0] w (retK R) := calls_of_enter mixed Tryz.func150 (by kernel_rfl) (Eq.mpr (by kernel_rfl : enterW Tryz.prog Tryz.f150 an150 [t0] w R = vc150 R w t0) h)
def an151 : Ann := (.seq (oD 2) (.seq (oD 5) .leaf))
def vc151 (R : Value → World → Prop) (w : World) (t0 t1 : Value) : Prop :=
 V (bx 230 t1) w fun t3 w =>
 CV (.func (.func 218) #[] #[]) #[t0, (.func (.func 219) #[] #[t3])] w fun t7 w =>
 V (un .not t7) w fun t8 w =>
 R t8 w
theorem en151 (h : vc151 R w t0 t1) : Calls Tryz.prog 151 #[t0, t1] w (retK R) := calls_of_enter mixed Tryz.func151 (by kernel_rfl) (Eq.mpr (by kernel_rfl : enterW Tryz.prog Tryz.f151 an151 [t0, t1] w R = vc151 R w t0 t1) h)
def an152 : Ann := (.seq (oD 2) (.seq (oD 4) .leaf))
def vc152 (R : Value → World → Prop) (w : World) (t0 : Value) : Prop :=
 V (bx 98 t0) w fun t1 w =>
 V (fa 98 t1 0) w fun t3 w =>
 V (ld 9 t3) w fun t4 w =>
 CV (.func (.func 153) #[] #[]) #[t4] w fun t5 w =>
 R t5 w
theorem en152 (h : vc152 R w t0) : Calls Tryz.prog 152 #[t0] w (retK R) := calls_of_enter mixed Tryz.func152 (by kernel_rfl) (Eq.mpr (by kernel_rfl : enterW Tryz.prog Tryz.f152 an152 [t0] w R = vc152 R w t0) h)
def an153 : Ann := (.seq (oD 1) (.seq (oD 4) .leaf))
def vc153 (R : Value → World → Prop) (w : World) (t0 : Value) : Prop :=
 CV (.func (.func 156) #[] #[]) #[t0] w fun t4 w =>
 V (bi .gtr 3 t4 (.int .i64 1)) w fun t5 w =>
 R t5 w
theorem en153 (h : vc153 R w t0) : Calls Tryz.prog 153 #[t0] w (retK R) := calls_of_enter mixed Tryz.func153 (by kernel_rfl) (Eq.mpr (by kernel_rfl : enterW Tryz.prog Tryz.f153 an153 [t0] w R = vc153 R w t0) h)
def an154 : Ann := (.seq (oD 2) (.seq (.reg (opn 4 (.join [18] (rgN 10 9) (.split 9 (opn 9 .done) (opn 9 .done)) (opn 1 .done)))) (.seq (oD 5) (.seq (oD 2) .leaf))))
def vc154 (R : Value → World → Prop) (w : World) (t0 t1 t2 : Value) : Prop :=
 V (bx 54 t0) w fun t3 w =>
 V (fa 54 t3 0) w fun t6 w =>
 V (ld 9 t6) w fun t7 w =>
 CV (.func (.func 147) #[] #[]) #[t7] w fun t8 w =>
 ∀ K0 : List Value → World → Prop, (∀ t18, ∀ w, (∀ g : Env,
 V (ld 3 t1) w fun t19 w =>
 V (fa 54 t3 1) w fun t20 w =>
 V (ld 3 t20) w fun t21 w =>
 V (Builtin.max_ #[3, 3] 3 #[t19, t21]) w fun t22 w =>
 U (st 3 t1 t22) w fun w =>
 R t18 w) → K0 [t18] w) →
 CondW t8
 (V (fa 54 t3 1) w fun t10 w =>
 V (ld 3 t10) w fun t11 w =>
 V (ld 3 t1) w fun t12 w =>
 V (fa 28 t2 5) w fun t13 w =>
 V (ld 26 t13) w fun t14 w =>
 V (Builtin.len_ #[26] 3 #[t14]) w fun t15 w =>
 V (bi .sub 3 t15 (.int .i64 1)) w fun t16 w =>
 CV (.func (.func 75) #[] #[]) #[t11, t12, t16] w fun t17 w =>
 K0 [t17] w)
 (K0 [(.bool false)] w)
theorem en154 (h : vc154 R w t0 t1 t2) : Calls Tryz.prog 154 #[t0, t1, t2] w (retK R) := calls_of_enter mixed Tryz.func154 (by kernel_rfl) (Eq.mpr (by kernel_rfl : enterW Tryz.prog Tryz.f154 an154 [t0, t1, t2] w R = vc154 R w t0 t1 t2) h)
def an155 : Ann := (.seq (oD 1) (.seq (.reg (opn 4 (.join [13] [9, 10, 11, 12, 13] (.split 8 (opn 5 .done) (opn 5 .done)) (opn 1 .done)))) (.seq (oD 3) (.seq (oD 2) .leaf))))
def vc155 (R : Value → World → Prop) (w : World) (t0 t1 : Value) : Prop :=
 CV (.func (.func 156) #[] #[]) #[t0] w fun t6 w =>
 V (eq .eql 3 (.tmp 6) (.const (.int .i64 2)) t6 (.int .i64 2)) w fun t7 w =>
 ∀ K0 : List Value → World → Prop, (∀ t13, ∀ w, (∀ g : Env,
 V (ld 231 t1) w fun t14 w =>
 U (mu 231 t14 t0 (.bool true)) w fun w =>
 R t13 w) → K0 [t13] w) →
 CondW t7
 (V (ld 231 t1) w fun t9 w =>
 V (lk 231 t9 t0 false) w fun t11 w =>
 V (un .not t11) w fun t12 w =>
 K0 [t12] w)
 (K0 [(.bool false)] w)
theorem en155 (h : vc155 R w t0 t1) : Calls Tryz.prog 155 #[t0, t1] w (retK R) := calls_of_enter mixed Tryz.func155 (by kernel_rfl) (Eq.mpr (by kernel_rfl : enterW Tryz.prog Tryz.f155 an155 [t0, t1] w R = vc155 R w t0 t1) h)
def an156 : Ann := (.seq (oD 1) (.seq (oD 1) (.seq (.seq (.reg (opn 5 (.join [20] (rgN 10 11) (.split 9 (opn 11 .done) (opn 6 (.join [19] [16, 17, 18, 19] (.split 15 (opn 4 .done) (opn 4 .done)) (opn 1 .done)))) .done))) (.cond (.seq (oD 1) .leaf) .leaf)) (.seq (oD 3) (.seq (.one (.seq (.reg (opn 5 (.join [32] [29, 30, 31, 32] (.split 28 (opn 4 .done) (opn 4 .done)) (opn 1 .done)))) (.cond (.seq (oD 1) .leaf) (.seq (oD 3) (.cond (.seq (oD 1) .leaf) (.seq (.reg (opn 3 (.join [42] [40, 41, 42] (.split 39 (opn 3 .done) (opn 3 .done)) (opn 1 .done)))) (.cond (.seq (oD 1) .leaf) .leaf))))))) (.seq (oD 1) .leaf))))))
def vc156 (R : Value → World → Prop) (w : World) (t0 : Value) : Prop :=
 V (Builtin.len_ #[9] 3 #[t0]) w fun t6 w =>
 CV (.func (.func 75) #[] #[]) #[t6, (.int .i64 1), (.int .i64 40)] w fun t7 w =>
 V (un .not t7) w fun t8 w =>
 ∀ K0 : List Value → World → Prop, (∀ t20, ∀ w, (∀ g : Env,
 CondW t20
 (R (.int .i64 0) w)
 (CV (.func (.func 223) #[] #[]) #[t0, (.string ⟨#[46]⟩)] w fun t22 w =>
 V (ix 9 t0 (.int .i64 0)) w fun t25 w =>
 V (cv 5 3 t25) w fun t26 w =>
 CV (.func (.func 75) #[] #[]) #[t26, (.int .i64 48), (.int .i64 57)] w fun t27 w =>
 ∀ K0 : List Value → World → Prop, (∀ t32, ∀ w, (∀ g : Env,
 CondW t32
 (R (.int .i64 1) w)
 (V (eq .eql 3 (.tmp 34) (.const (.int .i64 0)) t22 (.int .i64 0)) w fun t35 w =>
 CondW t35
 (R (.int .i64 2) w)
 (V (eq .eql 3 (.tmp 37) (.const (.int .i64 1)) t22 (.int .i64 1)) w fun t38 w =>
 ∀ K0 : List Value → World → Prop, (∀ t42, ∀ w, (∀ g : Env,
 CondW t42
 (R (.int .i64 3) w)
 (R (.int .i64 4) w)) → K0 [t42] w) →
 CondW t38
 (CV (.func (.func 224) #[] #[]) #[t0, (.string ⟨#[46]⟩)] w fun t41 w =>
 K0 [t41] w)
 (K0 [(.bool false)] w)))) → K0 [t32] w) →
 CondW t27
 (K0 [(.bool true)] w)
 (V (ix 9 t0 (.int .i64 0)) w fun t30 w =>
 V (eq .eql 5 (.tmp 30) (.const (.int .u8 46)) t30 (.int .u8 46)) w fun t31 w =>
 K0 [t31] w))) → K0 [t20] w) →
 CondW t8
 (K0 [(.bool true)] w)
 (V (cv 9 55 t0) w fun t11 w =>
 CV (.func (.func 216) #[] #[]) #[t11, (.func (.func 220) #[] #[])] w fun t13 w =>
 V (un .not t13) w fun t14 w =>
 ∀ K1 : List Value → World → Prop, (∀ t19, ∀ w, (∀ g : Env,
 K0 [t19] w) → K1 [t19] w) →
 CondW t14
 (CV (.func (.func 222) #[] #[]) #[t0] w fun t17 w =>
 V (un .not t17) w fun t18 w =>
 K1 [t18] w)
 (K1 [(.bool false)] w))
theorem en156 (h : vc156 R w t0) : Calls Tryz.prog 156 #[t0] w (retK R) := calls_of_enter mixed Tryz.func156 (by kernel_rfl) (Eq.mpr (by kernel_rfl : enterW Tryz.prog Tryz.f156 an156 [t0] w R = vc156 R w t0) h)
def an157 : Ann := (.seq (oD 2) (.seq (oD 1) (.seq (oD 1) (.seq (.seq (oD 1) (.one (.seq (.one (.seqJ [] ([11, 10, 13, 12, 15, 14, 17, 16, 19, 18, 21, 20, 23, 22, 25, 24, 27, 26, 29, 28, 31, 30, 33, 32, 35, 34, 36, 37, 6] ++ rgN 38 50) (.one (.seq (.one (.seq (.one (.seq (.one (.seq (.one (.seq (.one (.seq (.one (.seq (.one (.seq (.one (.seqJ [] [11, 10, 13, 12, 15, 14, 17, 16, 19, 18, 21, 20, 23, 22, 25, 24, 27, 26, 29, 28, 31, 30, 33, 32, 35, 34, 36, 37, 6, 38, 39] (.one (.seq (.one (.seq (.one (.seq (.seq (.seq (oD 2) (.cond .leaf .leaf)) (.seq (.seq (oD 2) (.cond .leaf .leaf)) (.seq (.seq (oD 2) (.cond .leaf .leaf)) (.seq (.seq (oD 2) (.cond .leaf .leaf)) (.seq (.seq (oD 2) (.cond .leaf .leaf)) (.seq (.seq (oD 2) (.cond .leaf .leaf)) (.seq (.seq (oD 2) (.cond .leaf .leaf)) (.seq (.seq (oD 2) (.cond .leaf .leaf)) (.seq (.seq (oD 2) (.cond .leaf .leaf)) (.seq (.seq (oD 2) (.cond .leaf .leaf)) (.seq (.seq (oD 2) (.cond .leaf .leaf)) (.seq (.seq (oD 2) (.cond .leaf .leaf)) (.seq (oD 2) (.cond .leaf .leaf)))))))))))))) .leaf)) (.seq (.seq (oD 3) .leaf) .leaf))) (.seq (oD 2) (.cond (.seq (oD 1) .leaf) .leaf)))) (.seq (.seq (oD 5) .leaf) .leaf))) (.seq (.seq (.draw (.hold 0 (.take 1 (.take 2 (.alts (.eff 3 (.alts (.eff 4 (.take 5 .done) .nil)) .nil)))))) .leaf) .leaf))) (.seq (.seq (.draw (.hold 0 (.take 1 (.take 2 (.alts (.eff 3 (.alts (.eff 4 (.take 5 .done) .nil)) .nil)))))) .leaf) .leaf))) (.seq (.seq (.draw (.hold 0 (.take 1 (.take 2 (.alts (.eff 3 (.alts (.eff 4 (.take 5 .done) .nil)) .nil)))))) .leaf) .leaf))) (.seq (.seq (oD 4) .leaf) .leaf))) (.seq (.seqJ [6] (rgN 62 12 ++ [6]) (.draw (.hold 0 (.take 1 (.take 2 (.alts (.eff 3 (.alts (.eff 4 (.take 5 (.split 67 (tkN 6 7 .done) (.hold 6 (.take 7 (.take 8 (.alts (.eff 9 (.alts (.eff 10 (.take 11 (.take 12 .done)) .nil)) .nil))))))) .nil)) .nil)))))) .leaf) .leaf))) (.seq (.seq (oD 7) .leaf) .leaf))) (.seq (.seq (oD 7) .leaf) .leaf))) (.seq (oD 2) (.cond (.seq (oD 1) .leaf) .leaf)))) (.seq (.seq (oD 7) .leaf) .leaf))) (.seq (.seq (oD 7) .leaf) .leaf)))) (.seq (oD 4) .leaf)))))
def vc157 (R : Value → World → Prop) (w : World) (t0 t1 t2 : Value) : Prop :=
 V (bx 28 t0) w fun t3 w =>
 ∀ K0 : List Value → World → Prop, (∀ w, (∀ g : Env,
 V (fa 28 t3 2) w fun t89 w =>
 V (ld 24 t89) w fun t90 w =>
 V (Builtin.len_ #[24] 3 #[t90]) w fun t91 w =>
 V (bi .sub 3 t91 (.int .i64 1)) w fun t92 w =>
 CV (.func (.func 75) #[] #[]) #[t2, (.int .i64 0), t92] w fun t93 w =>
 R t93 w) → K0 [] w) →
 ∀ K1 : List Value → World → Prop, (∀ w, (∀ g : Env,
 V (ld 28 t3) w fun t40 w =>
 CV (.func (.func 228) #[] #[]) #[t40, t2, (.func (.func 227) #[] #[])] w fun t43 w =>
 R t43 w) → K1 [] w) →
 V (eq .eql 3 (.tmp 9) (.const (.int .i64 1)) t1 (.int .i64 1)) w fun t11 w =>
 CondW t11
 (CV (.func (.func 75) #[] #[]) #[t2, (.int .i64 1), (.int .i64 20000)] w fun t37 w =>
 R t37 w)
 (V (eq .eql 3 (.tmp 9) (.const (.int .i64 8)) t1 (.int .i64 8)) w fun t13 w =>
 CondW t13
 (V (eq .eql 3 (.tmp 38) (.const (.int .i64 (-1))) t2 (.int .i64 (-1))) w fun t39 w =>
 CondW t39
 (R (.bool true) w)
 (K1 [] w))
 (V (eq .eql 3 (.tmp 9) (.const (.int .i64 2)) t1 (.int .i64 2)) w fun t15 w =>
 CondW t15
 (K1 [] w)
 (V (eq .eql 3 (.tmp 9) (.const (.int .i64 3)) t1 (.int .i64 3)) w fun t17 w =>
 CondW t17
 (Dr w fun w =>
 HV (ld 28 t3) w fun t44 =>
 CV (.func (.func 225) #[] #[]) #[(.int .i64 2)] w fun t47 w =>
 RunIs (ld 28 t3) w t44 ∧ (CV (.func (.func 228) #[] #[]) #[t44, t2, t47] w fun t48 w =>
 R t48 w))
 (V (eq .eql 3 (.tmp 9) (.const (.int .i64 4)) t1 (.int .i64 4)) w fun t19 w =>
 CondW t19
 (Dr w fun w =>
 HV (ld 28 t3) w fun t49 =>
 CV (.func (.func 225) #[] #[]) #[(.int .i64 3)] w fun t52 w =>
 RunIs (ld 28 t3) w t49 ∧ (CV (.func (.func 228) #[] #[]) #[t49, t2, t52] w fun t53 w =>
 R t53 w))
 (V (eq .eql 3 (.tmp 9) (.const (.int .i64 5)) t1 (.int .i64 5)) w fun t21 w =>
 CondW t21
 (Dr w fun w =>
 HV (ld 28 t3) w fun t54 =>
 CV (.func (.func 225) #[] #[]) #[(.int .i64 4)] w fun t57 w =>
 RunIs (ld 28 t3) w t54 ∧ (CV (.func (.func 228) #[] #[]) #[t54, t2, t57] w fun t58 w =>
 R t58 w))
 (V (eq .eql 3 (.tmp 9) (.const (.int .i64 6)) t1 (.int .i64 6)) w fun t23 w =>
 CondW t23
 (V (ld 28 t3) w fun t59 w =>
 CV (.func (.func 228) #[] #[]) #[t59, t2, (.func (.func 153) #[] #[])] w fun t61 w =>
 R t61 w)
 (V (eq .eql 3 (.tmp 9) (.const (.int .i64 7)) t1 (.int .i64 7)) w fun t25 w =>
 CondW t25
 (∀ K2 : List Value → World → Prop, (∀ t6, ∀ w, (∀ g : Env,
 R t6 w) → K2 [t6] w) →
 Dr w fun w =>
 HV (ld 28 t3) w fun t62 =>
 CV (.func (.func 225) #[] #[]) #[(.int .i64 2)] w fun t65 w =>
 RunIs (ld 28 t3) w t62 ∧ (CV (.func (.func 228) #[] #[]) #[t62, t2, t65] w fun t66 w =>
 CondW t66
 (K2 [(.bool true)] w)
 (HV (ld 28 t3) w fun t68 =>
 CV (.func (.func 225) #[] #[]) #[(.int .i64 4)] w fun t71 w =>
 RunIs (ld 28 t3) w t68 ∧ (CV (.func (.func 228) #[] #[]) #[t68, t2, t71] w fun t72 w =>
 K2 [t72] w))))
 (V (eq .eql 3 (.tmp 9) (.const (.int .i64 9)) t1 (.int .i64 9)) w fun t27 w =>
 CondW t27
 (V (fa 28 t3 4) w fun t75 w =>
 V (ld 22 t75) w fun t76 w =>
 V (Builtin.len_ #[22] 3 #[t76]) w fun t77 w =>
 V (bi .sub 3 t77 (.int .i64 1)) w fun t78 w =>
 CV (.func (.func 75) #[] #[]) #[t2, (.int .i64 0), t78] w fun t79 w =>
 R t79 w)
 (V (eq .eql 3 (.tmp 9) (.const (.int .i64 10)) t1 (.int .i64 10)) w fun t29 w =>
 CondW t29
 (V (fa 28 t3 1) w fun t81 w =>
 V (ld 23 t81) w fun t82 w =>
 V (Builtin.len_ #[23] 3 #[t82]) w fun t83 w =>
 V (bi .sub 3 t83 (.int .i64 1)) w fun t84 w =>
 CV (.func (.func 75) #[] #[]) #[t2, (.int .i64 0), t84] w fun t85 w =>
 R t85 w)
 (V (eq .eql 3 (.tmp 9) (.const (.int .i64 12)) t1 (.int .i64 12)) w fun t31 w =>
 CondW t31
 (V (eq .eql 3 (.tmp 86) (.const (.int .i64 (-1))) t2 (.int .i64 (-1))) w fun t87 w =>
 CondW t87
 (R (.bool true) w)
 (K0 [] w))
 (V (eq .eql 3 (.tmp 9) (.const (.int .i64 11)) t1 (.int .i64 11)) w fun t33 w =>
 CondW t33
 (K0 [] w)
 (V (eq .eql 3 (.tmp 9) (.const (.int .i64 13)) t1 (.int .i64 13)) w fun t35 w =>
 CondW t35
 (V (fa 28 t3 5) w fun t95 w =>
 V (ld 26 t95) w fun t96 w =>
 V (Builtin.len_ #[26] 3 #[t96]) w fun t97 w =>
 V (bi .sub 3 t97 (.int .i64 1)) w fun t98 w =>
 CV (.func (.func 75) #[] #[]) #[t2, (.int .i64 0), t98] w fun t99 w =>
 R t99 w)
 (CV (.func (.func 56) #[] #[]) #[t1, t2] w fun t102 w =>
 R t102 w)))))))))))))
theorem en157 (h : vc157 R w t0 t1 t2) : Calls Tryz.prog 157 #[t0, t1, t2] w (retK R) := calls_of_enter mixed Tryz.func157 (by kernel_rfl) (Eq.mpr (by kernel_rfl : enterW Tryz.prog Tryz.f157 an157 [t0, t1, t2] w R = vc157 R w t0 t1 t2) h)
def an158 : Ann := (.seq (oD 3) (.seq (.seq (oD 2) (.one (.seqJ [7] [8, 7, 9] (.seq (oD 2) (.cond .leaf (oD 2))) (.cond (.seq (oD 6) .leaf) (.seq (oD 2) (.cond (.seq (.reg (opn 4 (.join [24] [21, 22, 23, 24] (.split 20 (opn 4 .done) (opn 4 .done)) (opn 1 (.join [35] (rgN 26 10) (.split 25 (opn 10 .done) (opn 4 (.join [34] [30, 31, 32, 33, 34] (.split 29 (opn 5 .done) (opn 5 .done)) (opn 1 .done)))) (opn 1 .done)))))) .leaf) (.seq (oD 2) (.cond (.seq (.seq (.reg (opn 5 (.join [56] (rgN 43 14) (.split 42 (opn 14 .done) (opn 4 (.join [55] (rgN 47 9) (.split 46 (opn 4 (.join [54] [51, 52, 53, 54] (.split 50 (opn 4 .done) (opn 4 .done)) (opn 1 .done))) (opn 9 .done)) (opn 1 .done)))) .done))) (.cond (.seq (oD 1) .leaf) .leaf)) (.seq (.reg (opn 4 (.join [70] (rgN 61 10) (.split 60 (opn 10 .done) (opn 4 (.join [69] [65, 66, 67, 68, 69] (.split 64 (opn 5 .done) (opn 5 .done)) (opn 1 .done)))) (opn 1 .done)))) .leaf)) .leaf)))))))) (.seq (oD 1) .leaf)))
def vc158 (R : Value → World → Prop) (w : World) (t0 t1 : Value) : Prop :=
 V (bx 28 t0) w fun t2 w =>
 V (bx 38 t1) w fun t3 w =>
 V (fa 38 t3 0) w fun t5 w =>
 V (ld 3 t5) w fun t6 w =>
 ∀ K0 : List Value → World → Prop, (∀ t7, ∀ w, (∀ g : Env,
 CondW t7
 (V (ld 28 t2) w fun t10 w =>
 V (fa 38 t3 1) w fun t11 w =>
 V (ld 3 t11) w fun t12 w =>
 CV (.func (.func 228) #[] #[]) #[t10, t12, (.func (.func 229) #[] #[t3])] w fun t14 w =>
 R t14 w)
 (V (eq .eql 3 (.tmp 6) (.const (.int .i64 19)) t6 (.int .i64 19)) w fun t16 w =>
 CondW t16
 (V (fa 38 t3 1) w fun t17 w =>
 V (ld 3 t17) w fun t18 w =>
 V (eq .neq 3 (.tmp 18) (.const (.int .i64 1)) t18 (.int .i64 1)) w fun t19 w =>
 ∀ K0 : List Value → World → Prop, (∀ t24, ∀ w, (∀ g : Env,
 ∀ K0 : List Value → World → Prop, (∀ t35, ∀ w, (∀ g : Env,
 R t35 w) → K0 [t35] w) →
 CondW t24
 (K0 [(.bool true)] w)
 (V (fa 38 t3 1) w fun t26 w =>
 V (ld 3 t26) w fun t27 w =>
 V (eq .eql 3 (.tmp 27) (.const (.int .i64 1)) t27 (.int .i64 1)) w fun t28 w =>
 ∀ K1 : List Value → World → Prop, (∀ t34, ∀ w, (∀ g : Env,
 K0 [t34] w) → K1 [t34] w) →
 CondW t28
 (V (ld 28 t2) w fun t30 w =>
 V (fa 38 t3 2) w fun t31 w =>
 V (ld 3 t31) w fun t32 w =>
 CV (.func (.func 157) #[] #[]) #[t30, (.int .i64 2), t32] w fun t33 w =>
 K1 [t33] w)
 (K1 [(.bool false)] w))) → K0 [t24] w) →
 CondW t19
 (V (fa 38 t3 2) w fun t21 w =>
 V (ld 3 t21) w fun t22 w =>
 V (eq .eql 3 (.tmp 22) (.const (.int .i64 0)) t22 (.int .i64 0)) w fun t23 w =>
 K0 [t23] w)
 (K0 [(.bool false)] w))
 (V (eq .eql 3 (.tmp 6) (.const (.int .i64 22)) t6 (.int .i64 22)) w fun t37 w =>
 CondW t37
 (V (fa 38 t3 1) w fun t38 w =>
 V (ld 3 t38) w fun t39 w =>
 CV (.func (.func 75) #[] #[]) #[t39, (.int .i64 0), (.int .i64 5)] w fun t40 w =>
 V (un .not t40) w fun t41 w =>
 ∀ K0 : List Value → World → Prop, (∀ t56, ∀ w, (∀ g : Env,
 CondW t56
 (R (.bool false) w)
 (V (fa 38 t3 3) w fun t57 w =>
 V (ld 3 t57) w fun t58 w =>
 V (eq .eql 3 (.tmp 58) (.const (.int .i64 (-1))) t58 (.int .i64 (-1))) w fun t59 w =>
 ∀ K0 : List Value → World → Prop, (∀ t70, ∀ w, (∀ g : Env,
 R t70 w) → K0 [t70] w) →
 CondW t59
 (K0 [(.bool true)] w)
 (V (fa 38 t3 2) w fun t61 w =>
 V (ld 3 t61) w fun t62 w =>
 V (eq .neq 3 (.tmp 62) (.const (.int .i64 0)) t62 (.int .i64 0)) w fun t63 w =>
 ∀ K1 : List Value → World → Prop, (∀ t69, ∀ w, (∀ g : Env,
 K0 [t69] w) → K1 [t69] w) →
 CondW t63
 (V (ld 28 t2) w fun t65 w =>
 V (fa 38 t3 3) w fun t66 w =>
 V (ld 3 t66) w fun t67 w =>
 CV (.func (.func 157) #[] #[]) #[t65, (.int .i64 3), t67] w fun t68 w =>
 K1 [t68] w)
 (K1 [(.bool false)] w)))) → K0 [t56] w) →
 CondW t41
 (K0 [(.bool true)] w)
 (V (fa 38 t3 2) w fun t43 w =>
 V (ld 3 t43) w fun t44 w =>
 V (eq .eql 3 (.tmp 44) (.const (.int .i64 2)) t44 (.int .i64 2)) w fun t45 w =>
 ∀ K1 : List Value → World → Prop, (∀ t55, ∀ w, (∀ g : Env,
 K0 [t55] w) → K1 [t55] w) →
 CondW t45
 (V (fa 38 t3 1) w fun t47 w =>
 V (ld 3 t47) w fun t48 w =>
 V (eq .eql 3 (.tmp 48) (.const (.int .i64 3)) t48 (.int .i64 3)) w fun t49 w =>
 ∀ K2 : List Value → World → Prop, (∀ t54, ∀ w, (∀ g : Env,
 K1 [t54] w) → K2 [t54] w) →
 CondW t49
 (K2 [(.bool true)] w)
 (V (fa 38 t3 1) w fun t51 w =>
 V (ld 3 t51) w fun t52 w =>
 V (eq .eql 3 (.tmp 52) (.const (.int .i64 5)) t52 (.int .i64 5)) w fun t53 w =>
 K2 [t53] w))
 (K1 [(.bool false)] w)))
 (R (.bool true) w)))) → K0 [t7] w) →
 V (eq .eql 3 (.tmp 6) (.const (.int .i64 12)) t6 (.int .i64 12)) w fun t8 w =>
 CondW t8
 (K0 [t8] w)
 (V (eq .eql 3 (.tmp 6) (.const (.int .i64 21)) t6 (.int .i64 21)) w fun t9 w =>
 K0 [t9] w)
theorem en158 (h : vc158 R w t0 t1) : Calls Tryz.prog 158 #[t0, t1] w (retK R) := calls_of_enter mixed Tryz.func158 (by kernel_rfl) (Eq.mpr (by kernel_rfl : enterW Tryz.prog Tryz.f158 an158 [t0, t1] w R = vc158 R w t0 t1) h)
def an159 : Ann := (.seq (oD 1) (.seq (oD 79) .leaf))
def vc159 (R : Value → World → Prop) (w : World) : Prop :=
 V (al 234) w fun t0 w =>
 V (bd 100 #[(0, (.int .i64 1)), (1, (.int .i64 2)), (2, (.int .i64 15))]) w fun t1 w =>
 V (bd 102 #[(0, (.string ⟨#[99, 108, 97, 117, 115, 101]⟩)), (1, t1)]) w fun t2 w =>
 V (bd 102 #[(0, (.string ⟨#[100, 111, 110, 101]⟩))]) w fun t3 w =>
 V (bd 100 #[(0, (.int .i64 2))]) w fun t4 w =>
 V (bd 102 #[(0, (.string ⟨#[99, 111, 110, 115, 116]⟩)), (1, t4), (3, (.int .i64 1))]) w fun t5 w =>
 V (bd 102 #[(0, (.string ⟨#[109, 105, 115, 115]⟩)), (3, (.int .i64 1))]) w fun t6 w =>
 V (bd 100 #[(0, (.int .i64 3))]) w fun t7 w =>
 V (bd 102 #[(0, (.string ⟨#[118, 97, 114]⟩)), (1, t7), (3, (.int .i64 1))]) w fun t8 w =>
 V (bd 100 #[(0, (.int .i64 9))]) w fun t9 w =>
 V (bd 102 #[(0, (.string ⟨#[115, 108, 111, 116]⟩)), (1, t9), (3, (.int .i64 1))]) w fun t10 w =>
 V (bd 100 #[(0, (.int .i64 4))]) w fun t11 w =>
 V (bd 102 #[(0, (.string ⟨#[115, 116, 101, 109]⟩)), (1, t11), (3, (.int .i64 1))]) w fun t12 w =>
 V (bd 100 #[(0, (.int .i64 5))]) w fun t13 w =>
 V (bd 102 #[(0, (.string ⟨#[99, 111, 109, 112]⟩)), (1, t13), (3, (.int .i64 1))]) w fun t14 w =>
 V (bd 100 #[(0, (.int .i64 6))]) w fun t15 w =>
 V (bd 102 #[(0, (.string ⟨#[112, 101, 101, 107]⟩)), (1, t15), (3, (.int .i64 1))]) w fun t16 w =>
 V (bd 100 #[(0, (.int .i64 17))]) w fun t17 w =>
 V (bd 102 #[(0, (.string ⟨#[98, 105, 110]⟩)), (1, t17), (2, (.int .i64 2)), (3, (.int .i64 1))]) w fun t18 w =>
 V (bd 100 #[(0, (.int .i64 18))]) w fun t19 w =>
 V (bd 102 #[(0, (.string ⟨#[117, 110]⟩)), (1, t19), (2, (.int .i64 1)), (3, (.int .i64 1))]) w fun t20 w =>
 V (bd 100 #[(0, (.int .i64 23)), (1, (.int .i64 16)), (2, (.int .i64 14))]) w fun t21 w =>
 V (bd 102 #[(0, (.string ⟨#[102, 117, 110]⟩)), (1, t21), (3, (.int .i64 1))]) w fun t22 w =>
 V (bd 102 #[(0, (.string ⟨#[116, 101, 108, 108]⟩)), (2, (.int .i64 1)), (3, (.int .i64 1))]) w fun t23 w =>
 V (bd 102 #[(0, (.string ⟨#[112, 111, 112]⟩)), (2, (.int .i64 1))]) w fun t24 w =>
 V (bd 100 #[(0, (.int .i64 6))]) w fun t25 w =>
 V (bd 102 #[(0, (.string ⟨#[115, 101, 116]⟩)), (1, t25), (2, (.int .i64 1))]) w fun t26 w =>
 V (bd 100 #[(0, (.int .i64 9))]) w fun t27 w =>
 V (bd 102 #[(0, (.string ⟨#[112, 117, 116]⟩)), (1, t27), (2, (.int .i64 1))]) w fun t28 w =>
 V (bd 100 #[(0, (.int .i64 11))]) w fun t29 w =>
 V (bd 102 #[(0, (.string ⟨#[100, 114, 111, 112]⟩)), (1, t29)]) w fun t30 w =>
 V (bd 100 #[(0, (.int .i64 12))]) w fun t31 w =>
 V (bd 102 #[(0, (.string ⟨#[112, 114, 111, 99]⟩)), (1, t31)]) w fun t32 w =>
 V (bd 100 #[(0, (.int .i64 15)), (1, (.int .i64 23))]) w fun t33 w =>
 V (bd 102 #[(0, (.string ⟨#[97, 100, 100, 114]⟩)), (1, t33)]) w fun t34 w =>
 V (bd 100 #[(0, (.int .i64 8))]) w fun t35 w =>
 V (bd 102 #[(0, (.string ⟨#[99, 109, 100]⟩)), (1, t35), (2, (.int .i64 1))]) w fun t36 w =>
 V (bd 100 #[(0, (.int .i64 23)), (1, (.int .i64 16)), (2, (.int .i64 14))]) w fun t37 w =>
 V (bd 102 #[(0, (.string ⟨#[115, 117, 98]⟩)), (1, t37)]) w fun t38 w =>
 V (bd 100 #[(0, (.int .i64 23)), (1, (.int .i64 15)), (2, (.int .i64 23))]) w fun t39 w =>
 V (bd 102 #[(0, (.string ⟨#[116, 114, 97, 112]⟩)), (1, t39)]) w fun t40 w =>
 V (bd 100 #[(0, (.int .i64 13))]) w fun t41 w =>
 V (bd 102 #[(0, (.string ⟨#[106, 117, 109, 112]⟩)), (1, t41), (5, (.bool true))]) w fun t42 w =>
 V (bd 100 #[(0, (.int .i64 13))]) w fun t43 w =>
 V (bd 102 #[(0, (.string ⟨#[102, 97, 108, 115, 101]⟩)), (1, t43), (2, (.int .i64 1))]) w fun t44 w =>
 V (bd 102 #[(0, (.string ⟨#[112, 108, 117, 115]⟩)), (2, (.int .i64 1)), (3, (.int .i64 1))]) w fun t45 w =>
 V (bd 102 #[(0, (.string ⟨#[119, 104, 111, 108, 101]⟩)), (2, (.int .i64 1)), (3, (.int .i64 1))]) w fun t46 w =>
 V (bd 100 #[(0, (.int .i64 7)), (1, (.int .i64 22))]) w fun t47 w =>
 V (bd 102 #[(0, (.string ⟨#[111, 118, 101, 114]⟩)), (1, t47), (2, (.int .i64 1)), (4, (.int .i64 1))]) w fun t48 w =>
 V (bd 102 #[(0, (.string ⟨#[99, 111, 117, 110, 116]⟩)), (2, (.int .i64 1)), (4, (.int .i64 1))]) w fun t49 w =>
 V (bd 102 #[(0, (.string ⟨#[108, 111, 111, 112]⟩)), (4, (.int .i64 1))]) w fun t50 w =>
 V (bd 100 #[(0, (.int .i64 13))]) w fun t51 w =>
 V (bd 102 #[(0, (.string ⟨#[116, 101, 115, 116]⟩)), (1, t51)]) w fun t52 w =>
 V (bd 100 #[(0, (.int .i64 1)), (1, (.int .i64 2))]) w fun t53 w =>
 V (bd 102 #[(0, (.string ⟨#[116, 117, 114, 110]⟩)), (1, t53)]) w fun t54 w =>
 V (bd 102 #[(0, (.string ⟨#[98, 121]⟩))]) w fun t55 w =>
 V (bd 100 #[(0, (.int .i64 20))]) w fun t56 w =>
 V (bd 102 #[(0, (.string ⟨#[111, 117, 116]⟩)), (1, t56)]) w fun t57 w =>
 V (bd 102 #[(0, (.string ⟨#[105, 110, 116, 101, 114, 112]⟩)), (2, (.int .i64 1))]) w fun t58 w =>
 V (bd 100 #[(0, (.int .i64 15)), (1, (.int .i64 14))]) w fun t59 w =>
 V (bd 102 #[(0, (.string ⟨#[110, 117, 109, 101, 114, 105, 99]⟩)), (1, t59)]) w fun t60 w =>
 V (bd 100 #[(0, (.int .i64 10)), (1, (.int .i64 19)), (2, (.int .i64 14))]) w fun t61 w =>
 V (bd 102 #[(0, (.string ⟨#[112, 97, 114, 115, 101]⟩)), (1, t61)]) w fun t62 w =>
 V (bd 102 #[(0, (.string ⟨#[112, 117, 115, 104]⟩)), (2, (.int .i64 1))]) w fun t63 w =>
 V (bd 102 #[(0, (.string ⟨#[113, 117, 101, 117, 101]⟩)), (2, (.int .i64 1))]) w fun t64 w =>
 V (bd 102 #[(0, (.string ⟨#[115, 97, 121]⟩)), (2, (.int .i64 1))]) w fun t65 w =>
 V (bd 100 #[(0, (.int .i64 14))]) w fun t66 w =>
 V (bd 102 #[(0, (.string ⟨#[101, 120, 105, 116]⟩)), (1, t66), (5, (.bool true))]) w fun t67 w =>
 V (bd 100 #[(0, (.int .i64 14))]) w fun t68 w =>
 V (bd 102 #[(0, (.string ⟨#[114, 101, 116]⟩)), (1, t68), (5, (.bool true))]) w fun t69 w =>
 V (bd 100 #[(0, (.int .i64 2))]) w fun t70 w =>
 V (bd 102 #[(0, (.string ⟨#[115, 105, 103, 110, 97, 108]⟩)), (1, t70), (5, (.bool true))]) w fun t71 w =>
 V (bd 102 #[(0, (.string ⟨#[115, 105, 103, 118, 97, 108]⟩)), (2, (.int .i64 1)), (5, (.bool true))]) w fun t72 w =>
 V (bd 100 #[(0, (.int .i64 2))]) w fun t73 w =>
 V (bd 102 #[(0, (.string ⟨#[116, 114, 97, 99, 101]⟩)), (1, t73)]) w fun t74 w =>
 V (bd 100 #[(0, (.int .i64 21))]) w fun t75 w =>
 V (bd 102 #[(0, (.string ⟨#[114, 97, 105, 115, 101]⟩)), (1, t75), (5, (.bool true))]) w fun t76 w =>
 V (bd 102 #[(0, (.string ⟨#[101, 110, 100]⟩)), (5, (.bool true))]) w fun t77 w =>
 V (bd 234 #[(1, t2), (2, t3), (3, t5), (4, t6), (5, t8), (6, t10), (7, t12), (8, t14), (9, t16), (10, t18), (11, t20), (12, t22), (13, t23), (14, t24), (15, t26), (16, t28), (17, t30), (18, t32), (19, t34), (20, t36), (21, t38), (22, t40), (23, t42), (24, t44), (25, t45), (26, t46), (27, t48), (28, t49), (29, t50), (30, t52), (31, t54), (32, t55), (33, t57), (34, t58), (35, t60), (36, t62), (37, t63), (38, t64), (39, t65), (40, t67), (41, t69), (42, t71), (43, t72), (44, t74), (45, t76), (46, t77)]) w fun t78 w =>
 U (st 234 t0 t78) w fun w =>
 CW 234 t0 w fun t1000 => R t1000 w
theorem en159 (h : vc159 R w ) : Calls Tryz.prog 159 #[] w (retK R) := calls_of_enter mixed Tryz.func159 (by kernel_rfl) (Eq.mpr (by kernel_rfl : enterW Tryz.prog Tryz.f159 an159 [] w R = vc159 R w ) h)
def an160 : Ann := (.seq (oD 2) (.seq (.seq (oD 9) (.seq (oD 1) (.cond (.seq (oD 4) .leaf) .leaf))) (.seq (oD 4) (.seq (oD 5) (.seq (.reg (opn 4 (.join [33] [30, 31, 32, 33] (.split 29 (opn 4 .done) (opn 4 .done)) (opn 1 .done)))) .leaf)))))
def vc160 (R : Value → World → Prop) (w : World) (t0 t1 t2 t3 : Value) : Prop :=
 V (bx 238 t1) w fun t5 w =>
 V (ld 236 t2) w fun t10 w =>
 V (lk 236 t10 t0 true) w fun t12 w =>
 V (ex t12 0) w fun t13 w =>
 V (ex t12 1) w fun t14 w =>
 V (al 238) w fun t7 w =>
 U (st 238 t7 t13) w fun w =>
 CondW t14
 (V (ld 238 t7) w fun t16 w =>
 V (ld 238 t5) w fun t17 w =>
 V (eq .eql 238 (.tmp 16) (.tmp 17) t16 t17) w fun t18 w =>
 R t18 w)
 (V (ld 236 t2) w fun t19 w =>
 V (ld 238 t5) w fun t21 w =>
 U (mu 236 t19 t0 t21) w fun w =>
 V (ld 45 t3) w fun t22 w =>
 V (bs 45 1 #[(0, t0)]) w fun t24 w =>
 V (Builtin.append_ #[45, 45] 45 #[t22, t24]) w fun t25 w =>
 U (st 45 t3 t25) w fun w =>
 V (fa 238 t5 0) w fun t26 w =>
 V (ld 3 t26) w fun t27 w =>
 CV (.func (.func 75) #[] #[]) #[t27, (.int .i64 0), (.int .i64 200)] w fun t28 w =>
 ∀ K0 : List Value → World → Prop, (∀ t33, ∀ w, (∀ g : Env,
 R t33 w) → K0 [t33] w) →
 CondW t28
 (V (fa 238 t5 1) w fun t30 w =>
 V (ld 3 t30) w fun t31 w =>
 CV (.func (.func 75) #[] #[]) #[t31, (.int .i64 0), (.int .i64 40)] w fun t32 w =>
 K0 [t32] w)
 (K0 [(.bool false)] w))
theorem en160 (h : vc160 R w t0 t1 t2 t3) : Calls Tryz.prog 160 #[t0, t1, t2, t3] w (retK R) := calls_of_enter mixed Tryz.func160 (by kernel_rfl) (Eq.mpr (by kernel_rfl : enterW Tryz.prog Tryz.f160 an160 [t0, t1, t2, t3] w R = vc160 R w t0 t1 t2 t3) h)
def an161 : Ann := (.seq (oD 3) (.seq (.seq (oD 2) (.one (.seq (oD 2) (.cond (.seq (.reg (opn 4 (.join [16] [13, 14, 15, 16] (.split 12 (opn 4 .done) (opn 4 .done)) (opn 1 .done)))) .leaf) (.seqJ [17] [18, 17, 19] (.seq (oD 2) (.cond .leaf (oD 2))) (.cond (.seq (oD 4) .leaf) (.seqJ [23] [24, 23, 25] (.seq (oD 2) (.cond .leaf (oD 2))) (.cond (.seq (oD 4) .leaf) .leaf)))))))) (.seq (oD 1) .leaf)))
def vc161 (R : Value → World → Prop) (w : World) (t0 t1 : Value) : Prop :=
 V (bx 38 t0) w fun t2 w =>
 V (bx 238 t1) w fun t3 w =>
 V (fa 38 t2 0) w fun t5 w =>
 V (ld 3 t5) w fun t6 w =>
 V (eq .eql 3 (.tmp 6) (.const (.int .i64 31)) t6 (.int .i64 31)) w fun t8 w =>
 CondW t8
 (V (fa 238 t3 0) w fun t9 w =>
 V (ld 3 t9) w fun t10 w =>
 V (eq .eql 3 (.tmp 10) (.const (.int .i64 0)) t10 (.int .i64 0)) w fun t11 w =>
 ∀ K0 : List Value → World → Prop, (∀ t16, ∀ w, (∀ g : Env,
 R t16 w) → K0 [t16] w) →
 CondW t11
 (V (fa 238 t3 1) w fun t13 w =>
 V (ld 3 t13) w fun t14 w =>
 V (bi .gtr 3 t14 (.int .i64 0)) w fun t15 w =>
 K0 [t15] w)
 (K0 [(.bool false)] w))
 (∀ K0 : List Value → World → Prop, (∀ t17, ∀ w, (∀ g : Env,
 CondW t17
 (V (fa 238 t3 0) w fun t20 w =>
 V (ld 3 t20) w fun t21 w =>
 V (eq .eql 3 (.tmp 21) (.const (.int .i64 0)) t21 (.int .i64 0)) w fun t22 w =>
 R t22 w)
 (∀ K0 : List Value → World → Prop, (∀ t23, ∀ w, (∀ g : Env,
 CondW t23
 (V (fa 238 t3 1) w fun t26 w =>
 V (ld 3 t26) w fun t27 w =>
 V (bi .gtr 3 t27 (.int .i64 0)) w fun t28 w =>
 R t28 w)
 (R (.bool true) w)) → K0 [t23] w) →
 V (eq .eql 3 (.tmp 6) (.const (.int .i64 30)) t6 (.int .i64 30)) w fun t24 w =>
 CondW t24
 (K0 [t24] w)
 (V (eq .eql 3 (.tmp 6) (.const (.int .i64 32)) t6 (.int .i64 32)) w fun t25 w =>
 K0 [t25] w))) → K0 [t17] w) →
 V (eq .eql 3 (.tmp 6) (.const (.int .i64 1)) t6 (.int .i64 1)) w fun t18 w =>
 CondW t18
 (K0 [t18] w)
 (V (eq .eql 3 (.tmp 6) (.const (.int .i64 2)) t6 (.int .i64 2)) w fun t19 w =>
 K0 [t19] w))
theorem en161 (h : vc161 R w t0 t1) : Calls Tryz.prog 161 #[t0, t1] w (retK R) := calls_of_enter mixed Tryz.func161 (by kernel_rfl) (Eq.mpr (by kernel_rfl : enterW Tryz.prog Tryz.f161 an161 [t0, t1] w R = vc161 R w t0 t1) h)
def an162 : Ann := (.seq (oD 3) (.seq (oD 8) (.seq (oD 9) (.seq (oD 8) (.seq (oD 7) (.seqJ [] (rgN 37 6 ++ [36, 43, 44, 45, 46, 48, 49, 50, 47] ++ rgN 51 6) (.one (.seq (.reg (opn 4 (.join [42] [41, 42] (.split 40 (opn 2 .done) (opn 2 .done)) (opn 1 .done)))) (.cond (oD 5) (.seq (oD 4) (.cond (oD 7) .leaf))))) (.seq (oD 2) .leaf)))))))
def vc162 (R : Value → World → Prop) (w : World) (t0 t1 t2 : Value) : Prop :=
 V (bx 38 t0) w fun t3 w =>
 V (bx 238 t1) w fun t4 w =>
 V (al 238) w fun t6 w =>
 V (ld 38 t3) w fun t13 w =>
 CV (.func (.func 49) #[] #[]) #[t13] w fun t14 w =>
 V (ex t14 0) w fun t15 w =>
 V (ex t14 1) w fun t16 w =>
 V (al 102) w fun t7 w =>
 U (st 102 t7 t15) w fun w =>
 V (ld 38 t3) w fun t18 w =>
 CV (.func (.func 17) #[] #[]) #[t18] w fun t19 w =>
 V (ex t19 0) w fun t20 w =>
 V (ex t19 1) w fun t21 w =>
 V (ex t19 2) w fun t22 w =>
 V (fa 238 t4 0) w fun t23 w =>
 V (ld 3 t23) w fun t24 w =>
 V (bi .sub 3 t21 t20) w fun t27 w =>
 V (bi .add 3 t24 t27) w fun t28 w =>
 V (fa 238 t4 0) w fun t29 w =>
 U (st 3 t29 t28) w fun w =>
 V (fa 238 t4 1) w fun t30 w =>
 V (ld 3 t30) w fun t31 w =>
 V (fa 102 t7 4) w fun t32 w =>
 V (ld 3 t32) w fun t33 w =>
 V (bi .add 3 t31 t33) w fun t34 w =>
 V (fa 238 t4 1) w fun t35 w =>
 U (st 3 t35 t34) w fun w =>
 ∀ K0 : List Value → World → Prop, (∀ w, (∀ g : Env,
 V (ld 238 t4) w fun t57 w =>
 U (st 238 t6 t57) w fun w =>
 CW 238 t6 w fun t1006 => R t1006 w) → K0 [] w) →
 V (fa 38 t3 0) w fun t37 w =>
 V (ld 3 t37) w fun t38 w =>
 V (eq .eql 3 (.tmp 38) (.const (.int .i64 30)) t38 (.int .i64 30)) w fun t39 w =>
 ∀ K1 : List Value → World → Prop, (∀ t42, ∀ w, (∀ g : Env,
 CondW t42
 (V (fa 238 t4 1) w fun t43 w =>
 V (ld 3 t43) w fun t44 w =>
 V (bi .sub 3 t44 (.int .i64 1)) w fun t45 w =>
 V (fa 238 t4 1) w fun t46 w =>
 U (st 3 t46 t45) w fun w =>
 K0 [] w)
 (V (fa 38 t3 0) w fun t48 w =>
 V (ld 3 t48) w fun t49 w =>
 V (eq .eql 3 (.tmp 49) (.const (.int .i64 33)) t49 (.int .i64 33)) w fun t50 w =>
 CondW t50
 (V (fa 238 t4 1) w fun t51 w =>
 V (ld 3 t51) w fun t52 w =>
 V (fa 38 t3 1) w fun t53 w =>
 V (ld 3 t53) w fun t54 w =>
 V (bi .sub 3 t52 t54) w fun t55 w =>
 V (fa 238 t4 1) w fun t56 w =>
 U (st 3 t56 t55) w fun w =>
 K0 [] w)
 (K0 [] w))) → K1 [t42] w) →
 CondW t39
 (K1 [t2] w)
 (K1 [(.bool false)] w)
theorem en162 (h : vc162 R w t0 t1 t2) : Calls Tryz.prog 162 #[t0, t1, t2] w (retK R) := calls_of_enter mixed Tryz.func162 (by kernel_rfl) (Eq.mpr (by kernel_rfl : enterW Tryz.prog Tryz.f162 an162 [t0, t1, t2] w R = vc162 R w t0 t1 t2) h)
def an168 : Ann := (.seq (oD 1) (.seq (oD 2) .leaf))
def vc168 (R : Value → World → Prop) (w : World) : Prop :=
 V (bs 22 24 #[(0, (.string ⟨#[43]⟩)), (1, (.string ⟨#[45]⟩)), (2, (.string ⟨#[42]⟩)), (3, (.string ⟨#[47]⟩)), (4, (.string ⟨#[37]⟩)), (5, (.string ⟨#[47, 47]⟩)), (6, (.string ⟨#[42, 42]⟩)), (7, (.string ⟨#[124, 124]⟩)), (8, (.string ⟨#[32]⟩)), (9, (.string ⟨#[61]⟩)), (10, (.string ⟨#[92, 61]⟩)), (11, (.string ⟨#[62]⟩)), (12, (.string ⟨#[60]⟩)), (13, (.string ⟨#[62, 61]⟩)), (14, (.string ⟨#[60, 61]⟩)), (15, (.string ⟨#[61, 61]⟩)), (16, (.string ⟨#[92, 61, 61]⟩)), (17, (.string ⟨#[62, 62]⟩)), (18, (.string ⟨#[60, 60]⟩)), (19, (.string ⟨#[62, 62, 61]⟩)), (20, (.string ⟨#[60, 60, 61]⟩)), (21, (.string ⟨#[38]⟩)), (22, (.string ⟨#[124]⟩)), (23, (.string ⟨#[38, 38]⟩))]) w fun t1 w =>
 R t1 w
theorem en168 (h : vc168 R w ) : Calls Tryz.prog 168 #[] w (retK R) := calls_of_enter mixed Tryz.func168 (by kernel_rfl) (Eq.mpr (by kernel_rfl : enterW Tryz.prog Tryz.f168 an168 [] w R = vc168 R w ) h)
def an169 : Ann := (.seq (oD 1) (.seq (oD 2) .leaf))
def vc169 (R : Value → World → Prop) (w : World) : Prop :=
 V (bs 22 3 #[(0, (.string ⟨#[43]⟩)), (1, (.string ⟨#[45]⟩)), (2, (.string ⟨#[92]⟩))]) w fun t1 w =>
 R t1 w
theorem en169 (h : vc169 R w ) : Calls Tryz.prog 169 #[] w (retK R) := calls_of_enter mixed Tryz.func169 (by kernel_rfl) (Eq.mpr (by kernel_rfl : enterW Tryz.prog Tryz.f169 an169 [] w R = vc169 R w ) h)
def an170 : Ann := (.seq (oD 2) (.seq (oD 5) .leaf))
def vc170 (R : Value → World → Prop) (w : World) (t0 t1 : Value) : Prop :=
 V (bx 249 t1) w fun t3 w =>
 CV (.func (.func 232) #[] #[]) #[t0, (.func (.func 233) #[] #[t3])] w fun t7 w =>
 V (un .not t7) w fun t8 w =>
 R t8 w
theorem en170 (h : vc170 R w t0 t1) : Calls Tryz.prog 170 #[t0, t1] w (retK R) := calls_of_enter mixed Tryz.func170 (by kernel_rfl) (Eq.mpr (by kernel_rfl : enterW Tryz.prog Tryz.f170 an170 [t0, t1] w R = vc170 R w t0 t1) h)
def an171 : Ann := (.seq (oD 1) (.seq (oD 3) .leaf))
def vc171 (R : Value → World → Prop) (w : World) (t0 : Value) : Prop :=
 V (eq .eql 3 (.tmp 3) (.const (.int .i64 0)) t0 (.int .i64 0)) w fun t4 w =>
 R t4 w
theorem en171 (h : vc171 R w t0) : Calls Tryz.prog 171 #[t0] w (retK R) := calls_of_enter mixed Tryz.func171 (by kernel_rfl) (Eq.mpr (by kernel_rfl : enterW Tryz.prog Tryz.f171 an171 [t0] w R = vc171 R w t0) h)
def an172 : Ann := (.seq (oD 10) (.seq (.draw (.hold 0 (.take 1 (.take 2 (.hold 3 (.take 4 (.take 5 (.hold 6 (tkN 7 4 .done))))))))) (.one (.loop [25] ([26, 27, 28, 5, 6, 29, 30, 31, 32, 7] ++ rgN 34 16 ++ [33] ++ rgN 50 16 ++ rgN 67 9 ++ [66] ++ rgN 76 6 ++ [25]) (.seq (oD 1) (.seq (.cond .leaf .leaf) (.seq (.one (.seq (oD 4) (.seq (oD 5) (.seqJ [7] (rgN 34 16 ++ [33] ++ rgN 50 16 ++ [7] ++ rgN 67 9 ++ [66]) (.one (.seqJ [33] (rgN 34 16 ++ [33] ++ rgN 50 16) (.seq (.reg (opn 6 (.join [45] (rgN 40 6) (.split 39 (opn 6 .done) (opn 6 .done)) (opn 1 (.join [49] [47, 48, 49] (.split 46 (opn 3 .done) (opn 3 .done)) (opn 1 .done)))))) (.cond .leaf (.reg (opn 6 (.join [58] [56, 57, 58] (.split 55 (opn 3 .done) (opn 3 .done)) (opn 1 (.join [65] (rgN 60 6) (.split 59 (opn 6 .done) (opn 6 .done)) (opn 1 .done)))))))) (.cond (oD 1) (.seq (.reg (opn 6 (.join [75] [73, 74, 75] (.split 72 (opn 3 .done) (opn 3 .done)) (opn 1 .done)))) (.cond (oD 1) .leaf))))) (.seq (oD 5) (.cond .leaf .leaf)))))) (oD 2))))))))
def vc172 (R : Value → World → Prop) (w : World) (t0 t1 : Value) : Prop :=
 V (ld 121 t1) w fun t9 w =>
 NilW t9 fun t10 => V (ld 38 t10) w fun t11 w =>
 CV (.func (.func 49) #[] #[]) #[t11] w fun t12 w =>
 V (ex t12 0) w fun t13 w =>
 V (ex t12 1) w fun t14 w =>
 V (al 102) w fun t3 w =>
 U (st 102 t3 t13) w fun w =>
 Dr w fun w =>
 HV (ld 121 t1) w fun t15 =>
 NilW t15 fun t16 => PV (fa 38 t16 1) fun t17 =>
 HV (ld 121 t1) w fun t18 =>
 NilW t18 fun t19 => PV (fa 38 t19 2) fun t20 =>
 HV (ld 121 t1) w fun t21 =>
 NilW t21 fun t22 => PV (fa 38 t22 3) fun t23 =>
 PV (bd 251 #[(0, t17), (1, t20), (2, t23)]) fun t24 =>
 ∃ (I0 : List Value → World → Prop) (M0 : List Value → World → Nat), I0 [(.int .i64 0)] w ∧ ∀ g : Env, ∀ t25, ∀ w, I0 [t25] w → ∀ m0, m0 = M0 [t25] w →
 V (bi .lss 3 t25 (.int .i64 3)) w fun t26 w =>
 CondW t26
 (V (ix 251 t24 t25) w fun t28 w =>
 V (fa 102 t3 1) w fun t30 w =>
 V (ia 100 t30 t25) w fun t31 w =>
 V (ld 3 t31) w fun t32 w =>
 ∀ K0 : List Value → World → Prop, (∀ t7, ∀ w, (∀ g : Env,
 CV t0 #[t7, t28] w fun t79 w =>
 V (un .not t79) w fun t80 w =>
 CondW t80
 (R (.tuple #[]) w)
 (V (bi .add 3 t25 (.int .i64 1)) w fun t81 w =>
 I0 [t81] w ∧ M0 [t81] w < m0)) → K0 [t7] w) →
 ∀ K1 : List Value → World → Prop, (∀ t33, ∀ w, (∀ g : Env,
 CondW t33
 (K0 [(.int .i64 2)] w)
 (V (ld 121 t1) w fun t67 w =>
 NilW t67 fun t68 => V (fa 38 t68 0) w fun t69 w =>
 V (ld 3 t69) w fun t70 w =>
 V (eq .eql 3 (.tmp 70) (.const (.int .i64 22)) t70 (.int .i64 22)) w fun t71 w =>
 ∀ K1 : List Value → World → Prop, (∀ t75, ∀ w, (∀ g : Env,
 CondW t75
 (K0 [(.int .i64 8)] w)
 (K0 [t32] w)) → K1 [t75] w) →
 CondW t71
 (V (eq .eql 3 (.tmp 73) (.const (.int .i64 2)) t25 (.int .i64 2)) w fun t74 w =>
 K1 [t74] w)
 (K1 [(.bool false)] w))) → K1 [t33] w) →
 V (ld 121 t1) w fun t34 w =>
 NilW t34 fun t35 => V (fa 38 t35 0) w fun t36 w =>
 V (ld 3 t36) w fun t37 w =>
 V (eq .eql 3 (.tmp 37) (.const (.int .i64 12)) t37 (.int .i64 12)) w fun t38 w =>
 ∀ K2 : List Value → World → Prop, (∀ t45, ∀ w, (∀ g : Env,
 ∀ K2 : List Value → World → Prop, (∀ t49, ∀ w, (∀ g : Env,
 CondW t49
 (K1 [t49] w)
 (V (ld 121 t1) w fun t50 w =>
 NilW t50 fun t51 => V (fa 38 t51 0) w fun t52 w =>
 V (ld 3 t52) w fun t53 w =>
 V (eq .eql 3 (.tmp 53) (.const (.int .i64 19)) t53 (.int .i64 19)) w fun t54 w =>
 ∀ K2 : List Value → World → Prop, (∀ t58, ∀ w, (∀ g : Env,
 ∀ K2 : List Value → World → Prop, (∀ t65, ∀ w, (∀ g : Env,
 K1 [t65] w) → K2 [t65] w) →
 CondW t58
 (V (ld 121 t1) w fun t60 w =>
 NilW t60 fun t61 => V (fa 38 t61 1) w fun t62 w =>
 V (ld 3 t62) w fun t63 w =>
 V (eq .eql 3 (.tmp 63) (.const (.int .i64 1)) t63 (.int .i64 1)) w fun t64 w =>
 K2 [t64] w)
 (K2 [(.bool false)] w)) → K2 [t58] w) →
 CondW t54
 (V (eq .eql 3 (.tmp 56) (.const (.int .i64 1)) t25 (.int .i64 1)) w fun t57 w =>
 K2 [t57] w)
 (K2 [(.bool false)] w))) → K2 [t49] w) →
 CondW t45
 (V (eq .eql 3 (.tmp 47) (.const (.int .i64 0)) t25 (.int .i64 0)) w fun t48 w =>
 K2 [t48] w)
 (K2 [(.bool false)] w)) → K2 [t45] w) →
 CondW t38
 (K2 [(.bool true)] w)
 (V (ld 121 t1) w fun t40 w =>
 NilW t40 fun t41 => V (fa 38 t41 0) w fun t42 w =>
 V (ld 3 t42) w fun t43 w =>
 V (eq .eql 3 (.tmp 43) (.const (.int .i64 21)) t43 (.int .i64 21)) w fun t44 w =>
 K2 [t44] w))
 (R (.tuple #[]) w)
theorem en172 (h : vc172 R w t0 t1) : Calls Tryz.prog 172 #[t0, t1] w (retK R) := calls_of_enter mixed Tryz.func172 (by kernel_rfl) (Eq.mpr (by kernel_rfl : enterW Tryz.prog Tryz.f172 an172 [t0, t1] w R = vc172 R w t0 t1) h)
def an173 : Ann := (.seq (oD 7) (.seq (oD 8) (.seq (.seq (.reg (opn 4 (.join [27] (rgN 21 7) (.split 20 (opn 7 .done) (opn 7 .done)) (opn 1 (.join [34] (rgN 29 6) (.split 28 (opn 6 .done) (opn 6 .done)) .done))))) (.cond .leaf .leaf)) (.seq (.reg (opn 4 (.join [42] [39, 40, 41, 42] (.split 38 (opn 4 .done) (opn 4 .done)) (opn 1 (.join [47] [44, 45, 46, 47] (.split 43 (opn 4 .done) (opn 4 .done)) (opn 1 (.join [56] (rgN 49 8) (.split 48 (opn 8 .done) (opn 8 .done)) .done))))))) (.cond (oD 4) .leaf)))))
def vc173 (R : Value → World → Prop) (w : World) (t0 t1 t2 : Value) : Prop :=
 V (fa 28 t1 5) w fun t7 w =>
 V (ld 26 t7) w fun t8 w =>
 V (ld 3 t2) w fun t9 w =>
 V (ia 26 t8 t9) w fun t10 w =>
 V (ld 38 t10) w fun t11 w =>
 V (al 38) w fun t4 w =>
 U (st 38 t4 t11) w fun w =>
 V (ld 38 t4) w fun t13 w =>
 CV (.func (.func 49) #[] #[]) #[t13] w fun t14 w =>
 V (ex t14 0) w fun t15 w =>
 V (ex t14 1) w fun t16 w =>
 V (al 102) w fun t5 w =>
 U (st 102 t5 t15) w fun w =>
 V (fa 102 t5 5) w fun t17 w =>
 V (ld 4 t17) w fun t18 w =>
 V (un .not t18) w fun t19 w =>
 ∀ K0 : List Value → World → Prop, (∀ t27, ∀ w, (∀ g : Env,
 ∀ K0 : List Value → World → Prop, (∀ t34, ∀ w, (∀ g : Env,
 CondW t34
 (R (.tuple #[]) w)
 (V (fa 38 t4 0) w fun t35 w =>
 V (ld 3 t35) w fun t36 w =>
 V (eq .eql 3 (.tmp 36) (.const (.int .i64 23)) t36 (.int .i64 23)) w fun t37 w =>
 ∀ K0 : List Value → World → Prop, (∀ t42, ∀ w, (∀ g : Env,
 ∀ K0 : List Value → World → Prop, (∀ t47, ∀ w, (∀ g : Env,
 ∀ K0 : List Value → World → Prop, (∀ t56, ∀ w, (∀ g : Env,
 CondW t56
 (V (fa 38 t4 1) w fun t58 w =>
 V (ld 3 t58) w fun t59 w =>
 CV t0 #[t59, (.bool true)] w fun t60 w =>
 R (.tuple #[]) w)
 (R (.tuple #[]) w)) → K0 [t56] w) →
 CondW t47
 (V (fa 38 t4 1) w fun t49 w =>
 V (ld 3 t49) w fun t50 w =>
 V (fa 28 t1 5) w fun t51 w =>
 V (ld 26 t51) w fun t52 w =>
 V (Builtin.len_ #[26] 3 #[t52]) w fun t53 w =>
 V (bi .sub 3 t53 (.int .i64 1)) w fun t54 w =>
 CV (.func (.func 75) #[] #[]) #[t50, (.int .i64 0), t54] w fun t55 w =>
 K0 [t55] w)
 (K0 [(.bool false)] w)) → K0 [t47] w) →
 CondW t42
 (K0 [(.bool true)] w)
 (V (fa 38 t4 0) w fun t44 w =>
 V (ld 3 t44) w fun t45 w =>
 V (eq .eql 3 (.tmp 45) (.const (.int .i64 30)) t45 (.int .i64 30)) w fun t46 w =>
 K0 [t46] w)) → K0 [t42] w) →
 CondW t37
 (K0 [(.bool true)] w)
 (V (fa 38 t4 0) w fun t39 w =>
 V (ld 3 t39) w fun t40 w =>
 V (eq .eql 3 (.tmp 40) (.const (.int .i64 24)) t40 (.int .i64 24)) w fun t41 w =>
 K0 [t41] w))) → K0 [t34] w) →
 CondW t27
 (V (ld 3 t2) w fun t30 w =>
 V (bi .add 3 t30 (.int .i64 1)) w fun t31 w =>
 CV t0 #[t31, (.bool false)] w fun t32 w =>
 V (un .not t32) w fun t33 w =>
 K0 [t33] w)
 (K0 [(.bool false)] w)) → K0 [t27] w) →
 CondW t19
 (V (ld 3 t2) w fun t21 w =>
 V (bi .add 3 t21 (.int .i64 1)) w fun t22 w =>
 V (fa 28 t1 5) w fun t23 w =>
 V (ld 26 t23) w fun t24 w =>
 V (Builtin.len_ #[26] 3 #[t24]) w fun t25 w =>
 V (bi .lss 3 t22 t25) w fun t26 w =>
 K0 [t26] w)
 (K0 [(.bool false)] w)
theorem en173 (h : vc173 R w t0 t1 t2) : Calls Tryz.prog 173 #[t0, t1, t2] w (retK R) := calls_of_enter mixed Tryz.func173 (by kernel_rfl) (Eq.mpr (by kernel_rfl : enterW Tryz.prog Tryz.f173 an173 [t0, t1, t2] w R = vc173 R w t0 t1 t2) h)
def an174 : Ann := (.seq (oD 1) (.seq (.seq (oD 3) (.one (.loop [8] ([9, 10, 5] ++ rgN 11 7 ++ [4, 18, 8]) (.seq (oD 1) (.seq (.cond .leaf .leaf) (.seq (.one (.seq (oD 2) (.seq (oD 6) (.cond (.seq (oD 2) .leaf) .leaf)))) (oD 2))))))) (.seq (oD 1) .leaf)))
def vc174 (R : Value → World → Prop) (w : World) (t0 t1 : Value) : Prop :=
 V (Builtin.len_ #[45] 3 #[t0]) w fun t7 w =>
 ∃ (I0 : List Value → World → Prop) (M0 : List Value → World → Nat), I0 [(.int .i64 0)] w ∧ ∀ g : Env, ∀ t8, ∀ w, I0 [t8] w → ∀ m0, m0 = M0 [t8] w →
 V (bi .lss 3 t8 t7) w fun t9 w =>
 CondW t9
 (V (ia 45 t0 t8) w fun t14 w =>
 V (ld 3 t14) w fun t15 w =>
 V (eq .eql 3 (.tmp 11) (.tmp 15) t1 t15) w fun t16 w =>
 CondW t16
 (R t8 w)
 (V (bi .add 3 t8 (.int .i64 1)) w fun t18 w =>
 I0 [t18] w ∧ M0 [t18] w < m0))
 (R (.int .i64 (-1)) w)
theorem en174 (h : vc174 R w t0 t1) : Calls Tryz.prog 174 #[t0, t1] w (retK R) := calls_of_enter mixed Tryz.func174 (by kernel_rfl) (Eq.mpr (by kernel_rfl : enterW Tryz.prog Tryz.f174 an174 [t0, t1] w R = vc174 R w t0 t1) h)
def an175 : Ann := (.seq (oD 3) (.one (.loop [9] ([10, 11, 12, 5, 13, 14, 6] ++ rgN 15 7 ++ rgN 24 13 ++ [22, 23] ++ rgN 37 12 ++ [9]) (.seq (oD 1) (.seq (.cond .leaf .leaf) (.seq (.one (.seq (oD 3) (.seq (oD 3) (.seqJ [6] [15, 16, 17, 18, 19, 6] (.seq (oD 2) (.cond (oD 4) .leaf)) (.seq (.one (.loop [6] ([20, 21] ++ rgN 24 13 ++ [22, 23, 6]) (.seq (.seq (oD 2) (.cond .leaf .leaf)) (.seq (.one (oD 14)) (oD 3))))) (oD 12)))))) (oD 2)))))))
def vc175 (R : Value → World → Prop) (w : World) (t0 t1 : Value) : Prop :=
 V (Builtin.len_ #[45] 3 #[t1]) w fun t8 w =>
 ∃ (I0 : List Value → World → Prop) (M0 : List Value → World → Nat), I0 [(.int .i64 0)] w ∧ ∀ g : Env, ∀ t9, ∀ w, I0 [t9] w → ∀ m0, m0 = M0 [t9] w →
 V (bi .lss 3 t9 t8) w fun t10 w =>
 CondW t10
 (V (ia 45 t1 t9) w fun t11 w =>
 V (ld 3 t11) w fun t12 w =>
 V (bi .mul 3 (.int .i64 2) t12) w fun t14 w =>
 ∀ K0 : List Value → World → Prop, (∀ t6, ∀ w, (∀ g : Env,
 ∃ (I1 : List Value → World → Prop) (M1 : List Value → World → Nat), I1 [t6] w ∧ ∀ g : Env, ∀ t6a, ∀ w, I1 [t6a] w → ∀ m1, m1 = M1 [t6a] w →
 V (bi .geq 3 t6a (.int .i64 128)) w fun t21 w =>
 CondW t21
 (NilW t0 fun t26 => V (fa 156 t26 0) w fun t27 w =>
 V (ld 55 t27) w fun t28 w =>
 V (bi .and 3 t6a (.int .i64 127)) w fun t30 w =>
 V (bi .or 3 t30 (.int .i64 128)) w fun t31 w =>
 V (cv 3 5 t31) w fun t32 w =>
 V (bs 55 1 #[(0, t32)]) w fun t33 w =>
 V (Builtin.append_ #[55, 55] 55 #[t28, t33]) w fun t34 w =>
 NilW t0 fun t35 => V (fa 156 t35 0) w fun t36 w =>
 U (st 55 t36 t34) w fun w =>
 V (bi .shr 3 t6a (.int .u64 7)) w fun t23 w =>
 I1 [t23] w ∧ M1 [t23] w < m1)
 (NilW t0 fun t39 => V (fa 156 t39 0) w fun t40 w =>
 V (ld 55 t40) w fun t41 w =>
 V (cv 3 5 t6a) w fun t43 w =>
 V (bs 55 1 #[(0, t43)]) w fun t44 w =>
 V (Builtin.append_ #[55, 55] 55 #[t41, t44]) w fun t45 w =>
 NilW t0 fun t46 => V (fa 156 t46 0) w fun t47 w =>
 U (st 55 t47 t45) w fun w =>
 V (bi .add 3 t9 (.int .i64 1)) w fun t48 w =>
 I0 [t48] w ∧ M0 [t48] w < m0)) → K0 [t6] w) →
 V (bi .lss 3 t12 (.int .i64 0)) w fun t16 w =>
 CondW t16
 (V (bi .mul 3 (.int .i64 (-2)) t12) w fun t18 w =>
 V (bi .sub 3 t18 (.int .i64 1)) w fun t19 w =>
 K0 [t19] w)
 (K0 [t14] w))
 (R (.tuple #[]) w)
theorem en175 (h : vc175 R w t0 t1) : Calls Tryz.prog 175 #[t0, t1] w (retK R) := calls_of_enter mixed Tryz.func175 (by kernel_rfl) (Eq.mpr (by kernel_rfl : enterW Tryz.prog Tryz.f175 an175 [t0, t1] w R = vc175 R w t0 t1) h)
def an184 : Ann := (.seq (oD 5) (.cond (oD 8) (.seq (oD 6) (.cond .leaf .leaf))))
def vc184 (R : Value → World → Prop) (w : World) (t0 : Value) : Prop :=
 NilW t0 fun t3 => V (fa 199 t3 0) w fun t4 w =>
 V (ld 197 t4) w fun t5 w =>
 V (eq .eql 197 (.tmp 5) (.const (.pointer none)) t5 (.pointer none)) w fun t6 w =>
 CondW t6
 (V (cv 197 286 t0) w fun t9 w =>
 CV (.func (.func 234) #[] #[]) #[t9] w fun t10 w =>
 V (cv 286 197 t10) w fun t11 w =>
 NilW t0 fun t12 => V (fa 199 t12 0) w fun t13 w =>
 U (st 197 t13 t11) w fun w =>
 R (.tuple #[]) w)
 (NilW t0 fun t15 => V (fa 199 t15 0) w fun t16 w =>
 V (ld 197 t16) w fun t17 w =>
 V (eq .neq 197 (.tmp 17) (.tmp 18) t17 t0) w fun t19 w =>
 CondW t19
 (False)
 (R (.tuple #[]) w))
theorem en184 (h : vc184 R w t0) : Calls Tryz.prog 184 #[t0] w (retK R) := calls_of_enter mixed Tryz.func184 (by kernel_rfl) (Eq.mpr (by kernel_rfl : enterW Tryz.prog Tryz.f184 an184 [t0] w R = vc184 R w t0) h)
def an185 : Ann := (.seq (oD 1) (.seq (.seq (oD 2) (.one (.seq (oD 2) (.cond (.seq (oD 1) .leaf) (.seq (oD 2) (.cond (.seq (oD 4) .leaf) .leaf)))))) (.seq (oD 1) (.seqJ [5] (rgN 20 19 ++ [5]) (.seq (oD 3) (.cond (.seqJ [] (rgN 23 8) (.seq (oD 7) (.cond (oD 2) .leaf)) (oD 9)) .leaf)) (.seq (.seq (oD 3) (.one (.loop [5, 41] ([42, 43, 44, 7] ++ rgN 45 10 ++ [5, 55, 41]) (.seq (oD 1) (.seq (.cond .leaf .leaf) (.seq (.one (.seq (oD 3) (.seqJ [] (rgN 45 6) (.seq (oD 5) (.cond (oD 2) .leaf)) (oD 5)))) (oD 2))))))) (.seq (oD 1) (.seq (oD 2) (.seq (oD 4) (.seq (.seq (oD 4) (.one (.loop [65] [66, 67, 68, 10, 69, 70, 71, 72, 73, 65] (.seq (oD 1) (.seq (.cond .leaf .leaf) (.seq (.one (.seq (oD 3) (.seq (oD 2) (oD 2)))) (oD 2))))))) (.seq (oD 2) .leaf))))))))))
def vc185 (R : Value → World → Prop) (w : World) (t0 t1 : Value) : Prop :=
 V (Builtin.len_ #[22] 3 #[t0]) w fun t12 w =>
 V (eq .eql 3 (.tmp 12) (.const (.int .i64 0)) t12 (.int .i64 0)) w fun t14 w =>
 CondW t14
 (R (.string ⟨#[]⟩) w)
 (V (eq .eql 3 (.tmp 12) (.const (.int .i64 1)) t12 (.int .i64 1)) w fun t16 w =>
 CondW t16
 (V (ia 22 t0 (.int .i64 0)) w fun t18 w =>
 V (ld 9 t18) w fun t19 w =>
 R t19 w)
 (∀ K0 : List Value → World → Prop, (∀ t5, ∀ w, (∀ g : Env,
 V (Builtin.len_ #[22] 3 #[t0]) w fun t40 w =>
 ∃ (I0 : List Value → World → Prop) (M0 : List Value → World → Nat), I0 [t5, (.int .i64 0)] w ∧ ∀ g : Env, ∀ t5a, ∀ t41, ∀ w, I0 [t5a, t41] w → ∀ m0, m0 = M0 [t5a, t41] w →
 V (bi .lss 3 t41 t40) w fun t42 w =>
 CondW t42
 (V (ia 22 t0 t41) w fun t43 w =>
 V (ld 9 t43) w fun t44 w =>
 ∀ K0 : List Value → World → Prop, (∀ w, (∀ g : Env,
 V (Builtin.len_ #[9] 3 #[t44]) w fun t53 w =>
 V (bi .add 3 t5a t53) w fun t54 w =>
 V (bi .add 3 t41 (.int .i64 1)) w fun t55 w =>
 I0 [t54, t55] w ∧ M0 [t54, t55] w < m0) → K0 [] w) →
 V (Builtin.len_ #[9] 3 #[t44]) w fun t46 w =>
 V (bi .sub 3 (.int .i64 9223372036854775807) t5a) w fun t48 w =>
 V (bi .gtr 3 t46 t48) w fun t49 w =>
 CondW t49
 (V (mi 9 (.string ⟨#[115, 116, 114, 105, 110, 103, 115, 58, 32, 74, 111, 105, 110, 32, 111, 117, 116, 112, 117, 116, 32, 108, 101, 110, 103, 116, 104, 32, 111, 118, 101, 114, 102, 108, 111, 119]⟩)) w fun t50 w =>
 False)
 (K0 [] w))
 (V (al 199) w fun t8 w =>
 CV (.func (.func 235) #[] #[]) #[t8, t5a] w fun t57 w =>
 V (ia 22 t0 (.int .i64 0)) w fun t59 w =>
 V (ld 9 t59) w fun t60 w =>
 CV (.func (.func 125) #[] #[]) #[t8, t60] w fun t61 w =>
 V (sl 22 t0 (some (.int .i64 1)) none none) w fun t63 w =>
 V (Builtin.len_ #[22] 3 #[t63]) w fun t64 w =>
 ∃ (I1 : List Value → World → Prop) (M1 : List Value → World → Nat), I1 [(.int .i64 0)] w ∧ ∀ g : Env, ∀ t65, ∀ w, I1 [t65] w → ∀ m1, m1 = M1 [t65] w →
 V (bi .lss 3 t65 t64) w fun t66 w =>
 CondW t66
 (V (ia 22 t63 t65) w fun t67 w =>
 V (ld 9 t67) w fun t68 w =>
 CV (.func (.func 125) #[] #[]) #[t8, t1] w fun t70 w =>
 CV (.func (.func 125) #[] #[]) #[t8, t68] w fun t72 w =>
 V (bi .add 3 t65 (.int .i64 1)) w fun t73 w =>
 I1 [t73] w ∧ M1 [t73] w < m1)
 (CV (.func (.func 132) #[] #[]) #[t8] w fun t74 w =>
 R t74 w))) → K0 [t5] w) →
 V (Builtin.len_ #[9] 3 #[t1]) w fun t21 w =>
 V (bi .gtr 3 t21 (.int .i64 0)) w fun t22 w =>
 CondW t22
 (∀ K1 : List Value → World → Prop, (∀ w, (∀ g : Env,
 V (Builtin.len_ #[9] 3 #[t1]) w fun t33 w =>
 V (Builtin.len_ #[22] 3 #[t0]) w fun t35 w =>
 V (bi .sub 3 t35 (.int .i64 1)) w fun t36 w =>
 V (bi .mul 3 t33 t36) w fun t37 w =>
 V (bi .add 3 (.int .i64 0) t37) w fun t38 w =>
 K0 [t38] w) → K1 [] w) →
 V (Builtin.len_ #[9] 3 #[t1]) w fun t24 w =>
 V (Builtin.len_ #[22] 3 #[t0]) w fun t26 w =>
 V (bi .sub 3 t26 (.int .i64 1)) w fun t27 w =>
 V (bi .quo 3 (.int .i64 9223372036854775807) t27) w fun t28 w =>
 V (bi .geq 3 t24 t28) w fun t29 w =>
 CondW t29
 (V (mi 9 (.string ⟨#[115, 116, 114, 105, 110, 103, 115, 58, 32, 74, 111, 105, 110, 32, 111, 117, 116, 112, 117, 116, 32, 108, 101, 110, 103, 116, 104, 32, 111, 118, 101, 114, 102, 108, 111, 119]⟩)) w fun t30 w =>
 False)
 (K1 [] w))
 (K0 [(.int .i64 0)] w)))
theorem en185 (h : vc185 R w t0 t1) : Calls Tryz.prog 185 #[t0, t1] w (retK R) := calls_of_enter mixed Tryz.func185 (by kernel_rfl) (Eq.mpr (by kernel_rfl : enterW Tryz.prog Tryz.f185 an185 [t0, t1] w R = vc185 R w t0 t1) h)
def an186 : Ann := (.seq (oD 1) (.seq (oD 5) .leaf))
def vc186 (R : Value → World → Prop) (w : World) (t0 t1 t2 : Value) : Prop :=
 CV (.func (.func 236) #[] #[]) #[t0, t1, t2, (.int .i64 (-1))] w fun t10 w =>
 R t10 w
theorem en186 (h : vc186 R w t0 t1 t2) : Calls Tryz.prog 186 #[t0, t1, t2] w (retK R) := calls_of_enter mixed Tryz.func186 (by kernel_rfl) (Eq.mpr (by kernel_rfl : enterW Tryz.prog Tryz.f186 an186 [t0, t1, t2] w R = vc186 R w t0 t1 t2) h)
def an191 : Ann := (.seq (oD 3) (.seq (.seq (oD 4) (.seq (oD 2) (.cond (.seq (.draw (tkN 0 12 .done)) .leaf) .leaf))) (.seq (oD 4) .leaf)))
def vc191 (R : Value → World → Prop) (w : World) (t0 t1 : Value) : Prop :=
 CV (.func (.func 238) #[] #[]) #[t0, t1] w fun t10 w =>
 V (bi .geq 3 t10 (.int .i64 0)) w fun t12 w =>
 CondW t12
 (Dr w fun w =>
 PV (sl 9 t0 none (some t10) none) fun t15 =>
 PV (Builtin.len_ #[9] 3 #[t1]) fun t19 =>
 PV (bi .add 3 t10 t19) fun t20 =>
 PV (sl 9 t0 (some t20) none none) fun t21 =>
 R (.tuple #[t15, t21, (.bool true)]) w)
 (R (.tuple #[t0, (.string ⟨#[]⟩), (.bool false)]) w)
theorem en191 (h : vc191 R w t0 t1) : Calls Tryz.prog 191 #[t0, t1] w (retK R) := calls_of_enter mixed Tryz.func191 (by kernel_rfl) (Eq.mpr (by kernel_rfl : enterW Tryz.prog Tryz.f191 an191 [t0, t1] w R = vc191 R w t0 t1) h)
def an206 : Ann := (.seq (oD 1) (.seq (oD 5) .leaf))
def vc206 (R : Value → World → Prop) (w : World) (t0 t1 : Value) : Prop :=
 CV (.func (.func 246) #[] #[]) #[t0, t1] w fun t7 w =>
 V (bi .geq 3 t7 (.int .i64 0)) w fun t8 w =>
 R t8 w
theorem en206 (h : vc206 R w t0 t1) : Calls Tryz.prog 206 #[t0, t1] w (retK R) := calls_of_enter mixed Tryz.func206 (by kernel_rfl) (Eq.mpr (by kernel_rfl : enterW Tryz.prog Tryz.f206 an206 [t0, t1] w R = vc206 R w t0 t1) h)
def an207 : Ann := (.seq (oD 1) (.seq (oD 5) .leaf))
def vc207 (R : Value → World → Prop) (w : World) (t0 t1 : Value) : Prop :=
 V (ld 224 t1) w fun t4 w =>
 CV t4 #[t0] w fun t6 w =>
 V (un .not t6) w fun t7 w =>
 R t7 w
theorem en207 (h : vc207 R w t0 t1) : Calls Tryz.prog 207 #[t0, t1] w (retK R) := calls_of_enter mixed Tryz.func207 (by kernel_rfl) (Eq.mpr (by kernel_rfl : enterW Tryz.prog Tryz.f207 an207 [t0, t1] w R = vc207 R w t0 t1) h)
def an208 : Ann := (.seq (oD 1) (.seq (oD 5) .leaf))
def vc208 (R : Value → World → Prop) (w : World) (t0 t1 : Value) : Prop :=
 CV (.func (.func 247) #[] #[]) #[t0, t1] w fun t7 w =>
 V (bi .geq 3 t7 (.int .i64 0)) w fun t8 w =>
 R t8 w
theorem en208 (h : vc208 R w t0 t1) : Calls Tryz.prog 208 #[t0, t1] w (retK R) := calls_of_enter mixed Tryz.func208 (by kernel_rfl) (Eq.mpr (by kernel_rfl : enterW Tryz.prog Tryz.f208 an208 [t0, t1] w R = vc208 R w t0 t1) h)
def an209 : Ann := (.seq (oD 2) (.seq (oD 5) .leaf))
def vc209 (R : Value → World → Prop) (w : World) (t0 t1 : Value) : Prop :=
 V (bx 95 t0) w fun t2 w =>
 V (ld 223 t1) w fun t4 w =>
 V (ld 95 t2) w fun t5 w =>
 CV t4 #[t5] w fun t6 w =>
 V (un .not t6) w fun t7 w =>
 R t7 w
theorem en209 (h : vc209 R w t0 t1) : Calls Tryz.prog 209 #[t0, t1] w (retK R) := calls_of_enter mixed Tryz.func209 (by kernel_rfl) (Eq.mpr (by kernel_rfl : enterW Tryz.prog Tryz.f209 an209 [t0, t1] w R = vc209 R w t0 t1) h)
def an210 : Ann := (.seq (oD 1) (.seq (oD 5) .leaf))
def vc210 (R : Value → World → Prop) (w : World) (t0 t1 : Value) : Prop :=
 CV (.func (.func 248) #[] #[]) #[t0, t1] w fun t7 w =>
 V (bi .geq 3 t7 (.int .i64 0)) w fun t8 w =>
 R t8 w
theorem en210 (h : vc210 R w t0 t1) : Calls Tryz.prog 210 #[t0, t1] w (retK R) := calls_of_enter mixed Tryz.func210 (by kernel_rfl) (Eq.mpr (by kernel_rfl : enterW Tryz.prog Tryz.f210 an210 [t0, t1] w R = vc210 R w t0 t1) h)
def an211 : Ann := (.seq (oD 1) (.seq (oD 5) .leaf))
def vc211 (R : Value → World → Prop) (w : World) (t0 t1 : Value) : Prop :=
 V (ld 215 t1) w fun t4 w =>
 CV t4 #[t0] w fun t6 w =>
 V (un .not t6) w fun t7 w =>
 R t7 w
theorem en211 (h : vc211 R w t0 t1) : Calls Tryz.prog 211 #[t0, t1] w (retK R) := calls_of_enter mixed Tryz.func211 (by kernel_rfl) (Eq.mpr (by kernel_rfl : enterW Tryz.prog Tryz.f211 an211 [t0, t1] w R = vc211 R w t0 t1) h)
def an212 : Ann := (.seq (oD 1) (.seq (oD 5) .leaf))
def vc212 (R : Value → World → Prop) (w : World) (t0 t1 : Value) : Prop :=
 CV (.func (.func 249) #[] #[]) #[t0, t1] w fun t7 w =>
 V (bi .geq 3 t7 (.int .i64 0)) w fun t8 w =>
 R t8 w
theorem en212 (h : vc212 R w t0 t1) : Calls Tryz.prog 212 #[t0, t1] w (retK R) := calls_of_enter mixed Tryz.func212 (by kernel_rfl) (Eq.mpr (by kernel_rfl : enterW Tryz.prog Tryz.f212 an212 [t0, t1] w R = vc212 R w t0 t1) h)
def an213 : Ann := (.seq (oD 1) (.seq (oD 5) .leaf))
def vc213 (R : Value → World → Prop) (w : World) (t0 t1 : Value) : Prop :=
 V (ld 227 t1) w fun t4 w =>
 CV t4 #[t0] w fun t6 w =>
 V (un .not t6) w fun t7 w =>
 R t7 w
theorem en213 (h : vc213 R w t0 t1) : Calls Tryz.prog 213 #[t0, t1] w (retK R) := calls_of_enter mixed Tryz.func213 (by kernel_rfl) (Eq.mpr (by kernel_rfl : enterW Tryz.prog Tryz.f213 an213 [t0, t1] w R = vc213 R w t0 t1) h)
def an214 : Ann := (.seq (oD 1) (.seq (oD 5) .leaf))
def vc214 (R : Value → World → Prop) (w : World) (t0 t1 : Value) : Prop :=
 CV (.func (.func 77) #[] #[]) #[t0, t1] w fun t7 w =>
 V (bi .geq 3 t7 (.int .i64 0)) w fun t8 w =>
 R t8 w
theorem en214 (h : vc214 R w t0 t1) : Calls Tryz.prog 214 #[t0, t1] w (retK R) := calls_of_enter mixed Tryz.func214 (by kernel_rfl) (Eq.mpr (by kernel_rfl : enterW Tryz.prog Tryz.f214 an214 [t0, t1] w R = vc214 R w t0 t1) h)
def an215 : Ann := (.seq (oD 2) (.seq (oD 5) .leaf))
def vc215 (R : Value → World → Prop) (w : World) (t0 t1 : Value) : Prop :=
 V (bx 54 t0) w fun t2 w =>
 V (ld 144 t1) w fun t4 w =>
 V (ld 54 t2) w fun t5 w =>
 CV t4 #[t5] w fun t6 w =>
 V (un .not t6) w fun t7 w =>
 R t7 w
theorem en215 (h : vc215 R w t0 t1) : Calls Tryz.prog 215 #[t0, t1] w (retK R) := calls_of_enter mixed Tryz.func215 (by kernel_rfl) (Eq.mpr (by kernel_rfl : enterW Tryz.prog Tryz.f215 an215 [t0, t1] w R = vc215 R w t0 t1) h)
def an216 : Ann := (.seq (oD 2) (.seq (oD 5) .leaf))
def vc216 (R : Value → World → Prop) (w : World) (t0 t1 : Value) : Prop :=
 V (bx 280 t1) w fun t3 w =>
 CV (.func (.func 250) #[] #[]) #[t0, (.func (.func 251) #[] #[t3])] w fun t7 w =>
 V (un .not t7) w fun t8 w =>
 R t8 w
theorem en216 (h : vc216 R w t0 t1) : Calls Tryz.prog 216 #[t0, t1] w (retK R) := calls_of_enter mixed Tryz.func216 (by kernel_rfl) (Eq.mpr (by kernel_rfl : enterW Tryz.prog Tryz.f216 an216 [t0, t1] w R = vc216 R w t0 t1) h)
def an217 : Ann := (.seq (oD 1) (.seq (oD 4) .leaf))
def vc217 (R : Value → World → Prop) (w : World) (t0 : Value) : Prop :=
 V (cv 5 3 t0) w fun t4 w =>
 CV (.func (.func 75) #[] #[]) #[t4, (.int .i64 32), (.int .i64 126)] w fun t5 w =>
 R t5 w
theorem en217 (h : vc217 R w t0) : Calls Tryz.prog 217 #[t0] w (retK R) := calls_of_enter mixed Tryz.func217 (by kernel_rfl) (Eq.mpr (by kernel_rfl : enterW Tryz.prog Tryz.f217 an217 [t0] w R = vc217 R w t0) h)
def an218 : Ann := (.seq (oD 1) (.seq (oD 5) .leaf))
def vc218 (R : Value → World → Prop) (w : World) (t0 t1 : Value) : Prop :=
 CV (.func (.func 252) #[] #[]) #[t0, t1] w fun t7 w =>
 V (bi .geq 3 t7 (.int .i64 0)) w fun t8 w =>
 R t8 w
theorem en218 (h : vc218 R w t0 t1) : Calls Tryz.prog 218 #[t0, t1] w (retK R) := calls_of_enter mixed Tryz.func218 (by kernel_rfl) (Eq.mpr (by kernel_rfl : enterW Tryz.prog Tryz.f218 an218 [t0, t1] w R = vc218 R w t0 t1) h)
def an219 : Ann := (.seq (oD 2) (.seq (oD 5) .leaf))
def vc219 (R : Value → World → Prop) (w : World) (t0 t1 : Value) : Prop :=
 V (bx 98 t0) w fun t2 w =>
 V (ld 230 t1) w fun t4 w =>
 V (ld 98 t2) w fun t5 w =>
 CV t4 #[t5] w fun t6 w =>
 V (un .not t6) w fun t7 w =>
 R t7 w
theorem en219 (h : vc219 R w t0 t1) : Calls Tryz.prog 219 #[t0, t1] w (retK R) := calls_of_enter mixed Tryz.func219 (by kernel_rfl) (Eq.mpr (by kernel_rfl : enterW Tryz.prog Tryz.f219 an219 [t0, t1] w R = vc219 R w t0 t1) h)
def an220 : Ann := (.seq (oD 1) (.seq (.reg (opn 4 (.join [10] [7, 8, 9, 10] (.split 6 (opn 4 .done) (opn 4 .done)) (opn 1 (.join [15] [12, 13, 14, 15] (.split 11 (opn 4 .done) (opn 4 .done)) (opn 1 .done)))))) .leaf))
def vc220 (R : Value → World → Prop) (w : World) (t0 : Value) : Prop :=
 V (cv 5 3 t0) w fun t4 w =>
 CV (.func (.func 75) #[] #[]) #[t4, (.int .i64 65), (.int .i64 90)] w fun t5 w =>
 ∀ K0 : List Value → World → Prop, (∀ t10, ∀ w, (∀ g : Env,
 ∀ K0 : List Value → World → Prop, (∀ t15, ∀ w, (∀ g : Env,
 R t15 w) → K0 [t15] w) →
 CondW t10
 (K0 [(.bool true)] w)
 (CV (.func (.func 221) #[] #[]) #[(.string ⟨#[46, 95, 33, 63]⟩), t0] w fun t13 w =>
 V (bi .geq 3 t13 (.int .i64 0)) w fun t14 w =>
 K0 [t14] w)) → K0 [t10] w) →
 CondW t5
 (K0 [(.bool true)] w)
 (V (cv 5 3 t0) w fun t8 w =>
 CV (.func (.func 75) #[] #[]) #[t8, (.int .i64 48), (.int .i64 57)] w fun t9 w =>
 K0 [t9] w)
theorem en220 (h : vc220 R w t0) : Calls Tryz.prog 220 #[t0] w (retK R) := calls_of_enter mixed Tryz.func220 (by kernel_rfl) (Eq.mpr (by kernel_rfl : enterW Tryz.prog Tryz.f220 an220 [t0] w R = vc220 R w t0) h)
def an221 : Ann := (.seq (oD 1) (.seq (oD 4) .leaf))
def vc221 (R : Value → World → Prop) (w : World) (t0 t1 : Value) : Prop :=
 CV (.func (.func 253) #[] #[]) #[t0, t1] w fun t7 w =>
 R t7 w
theorem en221 (h : vc221 R w t0 t1) : Calls Tryz.prog 221 #[t0, t1] w (retK R) := calls_of_enter mixed Tryz.func221 (by kernel_rfl) (Eq.mpr (by kernel_rfl : enterW Tryz.prog Tryz.f221 an221 [t0, t1] w R = vc221 R w t0 t1) h)
def an222 : Ann := (.seq (oD 1) (.seq (oD 9) (.seq (.seq (.reg (opn 3 (.join [19] [16, 17, 18, 19] (.split 15 (opn 4 .done) (opn 4 .done)) (opn 1 (.join [29] (rgN 21 9) (.split 20 (opn 9 .done) (opn 4 (.join [28] [25, 26, 27, 28] (.split 24 (opn 4 .done) (opn 4 .done)) (opn 1 .done)))) .done))))) (.cond (.seq (oD 1) .leaf) .leaf)) (.seq (oD 1) (.seq (.reg (opn 4 (.join [38] [34, 35, 36, 37, 38] (.split 33 (opn 5 .done) (opn 5 .done)) (opn 1 (.join [44] [40, 41, 42, 43, 44] (.split 39 (opn 5 .done) (opn 5 .done)) (opn 1 .done)))))) .leaf)))))
def vc222 (R : Value → World → Prop) (w : World) (t0 : Value) : Prop :=
 CV (.func (.func 134) #[] #[]) #[t0, (.string ⟨#[69]⟩)] w fun t9 w =>
 V (ex t9 0) w fun t10 w =>
 V (ex t9 1) w fun t11 w =>
 V (ex t9 2) w fun t12 w =>
 V (un .not t12) w fun t14 w =>
 ∀ K0 : List Value → World → Prop, (∀ t19, ∀ w, (∀ g : Env,
 ∀ K0 : List Value → World → Prop, (∀ t29, ∀ w, (∀ g : Env,
 CondW t29
 (R (.bool false) w)
 (CV (.func (.func 223) #[] #[]) #[t10, (.string ⟨#[46]⟩)] w fun t31 w =>
 V (bi .lss 3 t31 (.int .i64 2)) w fun t32 w =>
 ∀ K0 : List Value → World → Prop, (∀ t38, ∀ w, (∀ g : Env,
 ∀ K0 : List Value → World → Prop, (∀ t44, ∀ w, (∀ g : Env,
 R t44 w) → K0 [t44] w) →
 CondW t38
 (V (sl 9 t11 (some (.int .i64 1)) none none) w fun t42 w =>
 CV (.func (.func 254) #[] #[]) #[t42] w fun t43 w =>
 K0 [t43] w)
 (K0 [(.bool false)] w)) → K0 [t38] w) →
 CondW t32
 (CV (.func (.func 236) #[] #[]) #[t10, (.string ⟨#[46]⟩), (.string ⟨#[]⟩), (.int .i64 1)] w fun t36 w =>
 CV (.func (.func 254) #[] #[]) #[t36] w fun t37 w =>
 K0 [t37] w)
 (K0 [(.bool false)] w))) → K0 [t29] w) →
 CondW t19
 (K0 [(.bool true)] w)
 (V (ix 9 t11 (.int .i64 0)) w fun t22 w =>
 V (eq .neq 5 (.tmp 22) (.const (.int .u8 43)) t22 (.int .u8 43)) w fun t23 w =>
 ∀ K1 : List Value → World → Prop, (∀ t28, ∀ w, (∀ g : Env,
 K0 [t28] w) → K1 [t28] w) →
 CondW t23
 (V (ix 9 t11 (.int .i64 0)) w fun t26 w =>
 V (eq .neq 5 (.tmp 26) (.const (.int .u8 45)) t26 (.int .u8 45)) w fun t27 w =>
 K1 [t27] w)
 (K1 [(.bool false)] w))) → K0 [t19] w) →
 CondW t14
 (K0 [(.bool true)] w)
 (V (Builtin.len_ #[9] 3 #[t11]) w fun t17 w =>
 V (bi .lss 3 t17 (.int .i64 2)) w fun t18 w =>
 K0 [t18] w)
theorem en222 (h : vc222 R w t0) : Calls Tryz.prog 222 #[t0] w (retK R) := calls_of_enter mixed Tryz.func222 (by kernel_rfl) (Eq.mpr (by kernel_rfl : enterW Tryz.prog Tryz.f222 an222 [t0] w R = vc222 R w t0) h)
def an223 : Ann := (.seq (oD 1) (.seq (.seq (oD 3) (.cond (.seq (oD 4) .leaf) .leaf)) (.seq (.seq (oD 3) (.cond (.seq (oD 5) .leaf) .leaf)) (.seq (oD 1) (.one (.loop [5, 0] ([20, 21, 22, 6, 23, 24, 25, 4, 26, 27, 5] ++ rgN 28 6 ++ [0]) (.one (.seq (oD 4) (.seq (.seq (oD 2) (.cond (.seq (oD 2) .leaf) .leaf)) (.seq (oD 3) (oD 7)))))))))))
def vc223 (R : Value → World → Prop) (w : World) (t0 t1 : Value) : Prop :=
 V (Builtin.len_ #[9] 3 #[t1]) w fun t8 w =>
 V (eq .eql 3 (.tmp 8) (.const (.int .i64 0)) t8 (.int .i64 0)) w fun t9 w =>
 CondW t9
 (CV (.func (.func 256) #[] #[]) #[t0] w fun t11 w =>
 V (bi .add 3 t11 (.int .i64 1)) w fun t12 w =>
 R t12 w)
 (V (Builtin.len_ #[9] 3 #[t1]) w fun t14 w =>
 V (eq .eql 3 (.tmp 14) (.const (.int .i64 1)) t14 (.int .i64 1)) w fun t15 w =>
 CondW t15
 (V (ix 9 t1 (.int .i64 0)) w fun t18 w =>
 CV (.func (.func 257) #[] #[]) #[t0, t18] w fun t19 w =>
 R t19 w)
 (∃ (I0 : List Value → World → Prop) (M0 : List Value → World → Nat), I0 [(.int .i64 0), t0] w ∧ ∀ g : Env, ∀ t5, ∀ t0a, ∀ w, I0 [t5, t0a] w → ∀ m0, m0 = M0 [t5, t0a] w →
 CV (.func (.func 258) #[] #[]) #[t0a, t1] w fun t22 w =>
 V (eq .eql 3 (.tmp 23) (.const (.int .i64 (-1))) t22 (.int .i64 (-1))) w fun t24 w =>
 CondW t24
 (R t5 w)
 (V (bi .add 3 t5 (.int .i64 1)) w fun t27 w =>
 V (Builtin.len_ #[9] 3 #[t1]) w fun t31 w =>
 V (bi .add 3 t22 t31) w fun t32 w =>
 V (sl 9 t0a (some t32) none none) w fun t33 w =>
 I0 [t27, t33] w ∧ M0 [t27, t33] w < m0)))
theorem en223 (h : vc223 R w t0 t1) : Calls Tryz.prog 223 #[t0, t1] w (retK R) := calls_of_enter mixed Tryz.func223 (by kernel_rfl) (Eq.mpr (by kernel_rfl : enterW Tryz.prog Tryz.f223 an223 [t0, t1] w R = vc223 R w t0 t1) h)
def an224 : Ann := (.seq (oD 1) (.seq (oD 4) .leaf))
def vc224 (R : Value → World → Prop) (w : World) (t0 t1 : Value) : Prop :=
 CV (.func (.func 259) #[] #[]) #[t0, t1] w fun t7 w =>
 R t7 w
theorem en224 (h : vc224 R w t0 t1) : Calls Tryz.prog 224 #[t0, t1] w (retK R) := calls_of_enter mixed Tryz.func224 (by kernel_rfl) (Eq.mpr (by kernel_rfl : enterW Tryz.prog Tryz.f224 an224 [t0, t1] w R = vc224 R w t0 t1) h)
def an225 : Ann := (.seq (oD 2) (.seq (oD 2) .leaf))
def vc225 (R : Value → World → Prop) (w : World) (t0 : Value) : Prop :=
 V (bx 3 t0) w fun t1 w =>
 R (.func (.func 226) #[] #[t1]) w
theorem en225 (h : vc225 R w t0) : Calls Tryz.prog 225 #[t0] w (retK R) := calls_of_enter mixed Tryz.func225 (by kernel_rfl) (Eq.mpr (by kernel_rfl : enterW Tryz.prog Tryz.f225 an225 [t0] w R = vc225 R w t0) h)
def an226 : Ann := (.seq (oD 1) (.seq (.draw (.take 0 (.hold 2 (.alts (.eff 1 (.take 3 (.take 4 .done)) .nil))))) .leaf))
def vc226 (R : Value → World → Prop) (w : World) (t0 t1 : Value) : Prop :=
 Dr w fun w =>
 HV (ld 3 t1) w fun t6 =>
 CV (.func (.func 156) #[] #[]) #[t0] w fun t5 w =>
 RunIs (ld 3 t1) w t6 ∧ (PV (eq .eql 3 (.tmp 5) (.tmp 6) t5 t6) fun t7 =>
 R t7 w)
theorem en226 (h : vc226 R w t0 t1) : Calls Tryz.prog 226 #[t0, t1] w (retK R) := calls_of_enter mixed Tryz.func226 (by kernel_rfl) (Eq.mpr (by kernel_rfl : enterW Tryz.prog Tryz.f226 an226 [t0, t1] w R = vc226 R w t0 t1) h)
def an227 : Ann := (.seq (oD 1) (.seq (oD 1) .leaf))
def vc227 (R : Value → World → Prop) (w : World) (t0 : Value) : Prop :=
 R (.bool true) w
theorem en227 (h : vc227 R w t0) : Calls Tryz.prog 227 #[t0] w (retK R) := calls_of_enter mixed Tryz.func227 (by kernel_rfl) (Eq.mpr (by kernel_rfl : enterW Tryz.prog Tryz.f227 an227 [t0] w R = vc227 R w t0) h)
def an228 : Ann := (.seq (oD 2) (.seq (.reg (opn 7 (.join [21] (rgN 14 8) (.split 13 (opn 8 .done) (opn 8 .done)) (opn 1 .done)))) .leaf))
def vc228 (R : Value → World → Prop) (w : World) (t0 t1 t2 : Value) : Prop :=
 V (bx 28 t0) w fun t3 w =>
 V (fa 28 t3 0) w fun t8 w =>
 V (ld 22 t8) w fun t9 w =>
 V (Builtin.len_ #[22] 3 #[t9]) w fun t10 w =>
 V (bi .sub 3 t10 (.int .i64 1)) w fun t11 w =>
 CV (.func (.func 75) #[] #[]) #[t1, (.int .i64 0), t11] w fun t12 w =>
 ∀ K0 : List Value → World → Prop, (∀ t21, ∀ w, (∀ g : Env,
 R t21 w) → K0 [t21] w) →
 CondW t12
 (V (fa 28 t3 0) w fun t15 w =>
 V (ld 22 t15) w fun t16 w =>
 V (ia 22 t16 t1) w fun t18 w =>
 V (ld 9 t18) w fun t19 w =>
 CV t2 #[t19] w fun t20 w =>
 K0 [t20] w)
 (K0 [(.bool false)] w)
theorem en228 (h : vc228 R w t0 t1 t2) : Calls Tryz.prog 228 #[t0, t1, t2] w (retK R) := calls_of_enter mixed Tryz.func228 (by kernel_rfl) (Eq.mpr (by kernel_rfl : enterW Tryz.prog Tryz.f228 an228 [t0, t1, t2] w R = vc228 R w t0 t1 t2) h)
def an229 : Ann := (.seq (oD 1) (.seq (.reg (opn 4 (.join [11] [8, 9, 10, 11] (.split 7 (opn 4 .done) (opn 4 .done)) (opn 1 .done)))) .leaf))
def vc229 (R : Value → World → Prop) (w : World) (t0 t1 : Value) : Prop :=
 V (fa 38 t1 3) w fun t4 w =>
 V (ld 3 t4) w fun t5 w =>
 V (eq .eql 3 (.tmp 5) (.const (.int .i64 1)) t5 (.int .i64 1)) w fun t6 w =>
 ∀ K0 : List Value → World → Prop, (∀ t11, ∀ w, (∀ g : Env,
 R t11 w) → K0 [t11] w) →
 CondW t6
 (K0 [(.bool true)] w)
 (CV (.func (.func 156) #[] #[]) #[t0] w fun t9 w =>
 V (eq .neq 3 (.tmp 9) (.const (.int .i64 0)) t9 (.int .i64 0)) w fun t10 w =>
 K0 [t10] w)
theorem en229 (h : vc229 R w t0 t1) : Calls Tryz.prog 229 #[t0, t1] w (retK R) := calls_of_enter mixed Tryz.func229 (by kernel_rfl) (Eq.mpr (by kernel_rfl : enterW Tryz.prog Tryz.f229 an229 [t0, t1] w R = vc229 R w t0 t1) h)
def an232 : Ann := (.seq (oD 1) (.seq (oD 5) .leaf))
def vc232 (R : Value → World → Prop) (w : World) (t0 t1 : Value) : Prop :=
 CV (.func (.func 260) #[] #[]) #[t0, t1] w fun t7 w =>
 V (bi .geq 3 t7 (.int .i64 0)) w fun t8 w =>
 R t8 w
theorem en232 (h : vc232 R w t0 t1) : Calls Tryz.prog 232 #[t0, t1] w (retK R) := calls_of_enter mixed Tryz.func232 (by kernel_rfl) (Eq.mpr (by kernel_rfl : enterW Tryz.prog Tryz.f232 an232 [t0, t1] w R = vc232 R w t0 t1) h)
def an233 : Ann := (.seq (oD 1) (.seq (oD 5) .leaf))
def vc233 (R : Value → World → Prop) (w : World) (t0 t1 : Value) : Prop :=
 V (ld 249 t1) w fun t4 w =>
 CV t4 #[t0] w fun t6 w =>
 V (un .not t6) w fun t7 w =>
 R t7 w
theorem en233 (h : vc233 R w t0 t1) : Calls Tryz.prog 233 #[t0, t1] w (retK R) := calls_of_enter mixed Tryz.func233 (by kernel_rfl) (Eq.mpr (by kernel_rfl : enterW Tryz.prog Tryz.f233 an233 [t0, t1] w R = vc233 R w t0 t1) h)
def an235 : Ann := (.seq (oD 2) (.seqJ [] [6, 7, 8] (.seq (oD 2) (.cond (oD 2) .leaf)) (.seq (.draw (tkN 0 3 (.hold 3 (tkN 4 4 (.hold 8 (tkN 9 4 .done)))))) (.cond (oD 3) .leaf))))
def vc235 (R : Value → World → Prop) (w : World) (t0 t1 : Value) : Prop :=
 CV (.func (.func 184) #[] #[]) #[t0] w fun t5 w =>
 ∀ K0 : List Value → World → Prop, (∀ w, (∀ g : Env,
 Dr w fun w =>
 NilW t0 fun t10 => PV (fa 199 t10 1) fun t11 =>
 HV (ld 55 t11) w fun t12 =>
 PV (Builtin.cap_ #[55] 3 #[t12]) fun t13 =>
 NilW t0 fun t15 => PV (fa 199 t15 1) fun t16 =>
 HV (ld 55 t16) w fun t17 =>
 PV (Builtin.len_ #[55] 3 #[t17]) fun t18 =>
 PV (bi .sub 3 t13 t18) fun t19 =>
 PV (bi .lss 3 t19 t1) fun t21 =>
 CondW t21
 (CV (.func (.func 261) #[] #[]) #[t0, t1] w fun t24 w =>
 R (.tuple #[]) w)
 (R (.tuple #[]) w)) → K0 [] w) →
 V (bi .lss 3 t1 (.int .i64 0)) w fun t7 w =>
 CondW t7
 (V (mi 9 (.string ⟨#[115, 116, 114, 105, 110, 103, 115, 46, 66, 117, 105, 108, 100, 101, 114, 46, 71, 114, 111, 119, 58, 32, 110, 101, 103, 97, 116, 105, 118, 101, 32, 99, 111, 117, 110, 116]⟩)) w fun t8 w =>
 False)
 (K0 [] w)
theorem en235 (h : vc235 R w t0 t1) : Calls Tryz.prog 235 #[t0, t1] w (retK R) := calls_of_enter mixed Tryz.func235 (by kernel_rfl) (Eq.mpr (by kernel_rfl : enterW Tryz.prog Tryz.f235 an235 [t0, t1] w R = vc235 R w t0 t1) h)
def an236 : Ann := (.seq (oD 1) (.seq (.seq (.reg (opn 4 (.join [22] [20, 21, 22] (.split 19 (opn 3 .done) (opn 3 .done)) .done))) (.cond (.seq (oD 2) .leaf) .leaf)) (.seqJ [3] ([24, 25, 26, 9, 27, 28, 29, 8] ++ rgN 30 8 ++ [3]) (.seq (oD 4) (.seq (oD 2) (.cond (.seq (oD 2) .leaf) (.seq (.reg (opn 3 (.join [36] [33, 34, 35, 36] (.split 32 (opn 4 .done) (opn 4 .done)) .done))) (.cond (oD 2) .leaf))))) (.seq (oD 1) (.seq (oD 11) (.seq (oD 1) (.seqJ [11] (rgN 49 13 ++ [12] ++ rgN 62 11 ++ [11] ++ rgN 73 7 ++ [81, 82, 83, 84, 80, 85, 86, 13, 14, 87, 88, 89, 15] ++ rgN 90 9) (.seq (oD 3) (.cond (.seq (oD 2) (.one (.loop [11, 53] (rgN 54 8 ++ [12] ++ rgN 62 11 ++ [11, 73, 53]) (.seq (oD 1) (.seq (.cond .leaf .leaf) (.seq (.one (.seq (oD 8) (.seq (oD 5) (.seq (oD 2) (oD 5))))) (oD 2))))))) (.seq (oD 2) (.seq (oD 3) (.one (.loop [11, 78] ([79, 81, 82, 83, 84, 80, 85, 86, 13, 14, 87, 88, 89, 15] ++ rgN 90 8 ++ [11, 98, 78]) (.seq (oD 1) (.seq (.cond .leaf .leaf) (.seq (.one (.seq (oD 9) (.seq (oD 4) (.seq (oD 5) (.seq (oD 2) (oD 2)))))) (oD 2)))))))))) (.seq (oD 4) (.seq (oD 2) .leaf)))))))))
def vc236 (R : Value → World → Prop) (w : World) (t0 t1 t2 t3 : Value) : Prop :=
 V (eq .eql 9 (.tmp 16) (.tmp 17) t1 t2) w fun t18 w =>
 ∀ K0 : List Value → World → Prop, (∀ t22, ∀ w, (∀ g : Env,
 CondW t22
 (R t0 w)
 (∀ K0 : List Value → World → Prop, (∀ t3a, ∀ w, (∀ g : Env,
 V (al 199) w fun t10 w =>
 V (Builtin.len_ #[9] 3 #[t0]) w fun t39 w =>
 V (Builtin.len_ #[9] 3 #[t2]) w fun t42 w =>
 V (Builtin.len_ #[9] 3 #[t1]) w fun t44 w =>
 V (bi .sub 3 t42 t44) w fun t45 w =>
 V (bi .mul 3 t3a t45) w fun t46 w =>
 V (bi .add 3 t39 t46) w fun t47 w =>
 CV (.func (.func 235) #[] #[]) #[t10, t47] w fun t48 w =>
 ∀ K0 : List Value → World → Prop, (∀ t11, ∀ w, (∀ g : Env,
 V (sl 9 t0 (some t11) none none) w fun t101 w =>
 CV (.func (.func 125) #[] #[]) #[t10, t101] w fun t102 w =>
 CV (.func (.func 132) #[] #[]) #[t10] w fun t103 w =>
 R t103 w) → K0 [t11] w) →
 V (Builtin.len_ #[9] 3 #[t1]) w fun t50 w =>
 V (bi .gtr 3 t50 (.int .i64 0)) w fun t51 w =>
 CondW t51
 (∃ (I0 : List Value → World → Prop) (M0 : List Value → World → Nat), I0 [(.int .i64 0), (.int .i64 0)] w ∧ ∀ g : Env, ∀ t11, ∀ t53, ∀ w, I0 [t11, t53] w → ∀ m0, m0 = M0 [t11, t53] w →
 V (bi .lss 3 t53 t3a) w fun t54 w =>
 CondW t54
 (V (sl 9 t0 (some t11) none none) w fun t58 w =>
 CV (.func (.func 258) #[] #[]) #[t58, t1] w fun t60 w =>
 V (bi .add 3 t11 t60) w fun t61 w =>
 V (sl 9 t0 (some t11) (some t61) none) w fun t65 w =>
 CV (.func (.func 125) #[] #[]) #[t10, t65] w fun t66 w =>
 CV (.func (.func 125) #[] #[]) #[t10, t2] w fun t68 w =>
 V (Builtin.len_ #[9] 3 #[t1]) w fun t71 w =>
 V (bi .add 3 t61 t71) w fun t72 w =>
 V (bi .add 3 t53 (.int .i64 1)) w fun t73 w =>
 I0 [t72, t73] w ∧ M0 [t72, t73] w < m0)
 (K0 [t11] w))
 (CV (.func (.func 125) #[] #[]) #[t10, t2] w fun t75 w =>
 V (bi .sub 3 t3a (.int .i64 1)) w fun t77 w =>
 ∃ (I0 : List Value → World → Prop) (M0 : List Value → World → Nat), I0 [(.int .i64 0), (.int .i64 0)] w ∧ ∀ g : Env, ∀ t11, ∀ t78, ∀ w, I0 [t11, t78] w → ∀ m0, m0 = M0 [t11, t78] w →
 V (bi .lss 3 t78 t77) w fun t79 w =>
 CondW t79
 (V (sl 9 t0 (some t11) none none) w fun t83 w =>
 CV (.func (.func 262) #[] #[]) #[t83] w fun t84 w =>
 V (ex t84 0) w fun t85 w =>
 V (ex t84 1) w fun t86 w =>
 V (bi .add 3 t11 t86) w fun t89 w =>
 V (sl 9 t0 (some t11) (some t89) none) w fun t93 w =>
 CV (.func (.func 125) #[] #[]) #[t10, t93] w fun t94 w =>
 CV (.func (.func 125) #[] #[]) #[t10, t2] w fun t96 w =>
 V (bi .add 3 t78 (.int .i64 1)) w fun t98 w =>
 I0 [t89, t98] w ∧ M0 [t89, t98] w < m0)
 (K0 [t11] w))) → K0 [t3a] w) →
 CV (.func (.func 223) #[] #[]) #[t0, t1] w fun t26 w =>
 V (eq .eql 3 (.tmp 27) (.const (.int .i64 0)) t26 (.int .i64 0)) w fun t28 w =>
 CondW t28
 (R t0 w)
 (V (bi .lss 3 t3 (.int .i64 0)) w fun t31 w =>
 ∀ K1 : List Value → World → Prop, (∀ t36, ∀ w, (∀ g : Env,
 CondW t36
 (K0 [t26] w)
 (K0 [t3] w)) → K1 [t36] w) →
 CondW t31
 (K1 [(.bool true)] w)
 (V (bi .lss 3 t26 t3) w fun t35 w =>
 K1 [t35] w)))) → K0 [t22] w) →
 CondW t18
 (K0 [(.bool true)] w)
 (V (eq .eql 3 (.tmp 20) (.const (.int .i64 0)) t3 (.int .i64 0)) w fun t21 w =>
 K0 [t21] w)
theorem en236 (h : vc236 R w t0 t1 t2 t3) : Calls Tryz.prog 236 #[t0, t1, t2, t3] w (retK R) := calls_of_enter mixed Tryz.func236 (by kernel_rfl) (Eq.mpr (by kernel_rfl : enterW Tryz.prog Tryz.f236 an236 [t0, t1, t2, t3] w R = vc236 R w t0 t1 t2 t3) h)
end
end Go.Proofs.YtbeelfopmkbllaaGreatDoor
