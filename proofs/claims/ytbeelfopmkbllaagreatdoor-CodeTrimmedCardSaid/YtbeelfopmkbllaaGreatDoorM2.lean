/- Texts joined: VC. -/
import Derived.Test.YtbeelfopmkbllaaGreatDoorM1
set_option linter.unusedSimpArgs false
set_option linter.unusedVariables false
set_option linter.unusedSectionVars false
set_option maxRecDepth 100000
namespace Go.Proofs.YtbeelfopmkbllaaGreatDoor
section
open Go Q
variable {R : Value → World → Prop} {w : World} {t0 t1 t2 t3 t4 t5 t6 : Value}
def an238 : Ann := (.seq (oD 1) (.seq (oD 3) (.seq (.one (.seq (.reg (opn 3 (.join [23] [20, 21, 22, 23] (.split 19 (opn 4 .done) (opn 4 .done)) (opn 1 .done)))) (.cond (.seq (oD 1) .leaf) (.seq (oD 3) (.cond (.seq (oD 5) .leaf) (.seq (oD 5) (.cond (.seq (oD 1) .leaf) (.seq (.reg (opn 4 (.join [44] [41, 42, 43, 44] (.split 40 (opn 4 .done) (opn 4 .done)) (opn 1 .done)))) (.cond (.seq (oD 4) .leaf) .leaf))))))))) (.seq (oD 3) (.seq (oD 3) (.seq (oD 1) (.seq (oD 6) (.seq (oD 1) (.seq (.one (.loop [8, 10] (rgN 57 15 ++ [11, 72, 73, 4, 74, 75, 76, 77, 8] ++ rgN 78 21 ++ [10] ++ rgN 99 14 ++ [12] ++ rgN 113 25 ++ [13, 138, 139, 140, 141, 142]) (.seq (.seq (oD 3) (.cond .leaf .leaf)) (.one (.seqJ [8] (rgN 60 12 ++ [11, 72, 73, 4, 74, 75, 76, 77, 8]) (.seq (oD 5) (.cond (.seq (oD 8) (.seq (.seq (oD 2) (.cond (.seq (oD 1) .leaf) .leaf)) (oD 5))) .leaf)) (.seq (.seq (.reg (opn 7 (.join [93] (rgN 85 9) (.split 84 (opn 9 .done) (opn 9 .done)) .done))) (.cond (.seq (oD 2) .leaf) .leaf)) (.seq (oD 3) (.seq (oD 3) (.seq (.reg (opn 4 (.join [107] [103, 104, 105, 106, 107] (.split 102 (opn 5 .done) (opn 5 .done)) .done))) (.cond (.seq (oD 6) (.seq (.seq (oD 2) (.cond (.seq (oD 4) .leaf) .leaf)) (.seq (oD 1) .leaf))) (.seq (.reg (opn 4 (.join [127] (rgN 122 6) (.split 121 (opn 6 .done) (opn 6 .done)) (opn 1 (.join [132] [129, 130, 131, 132] (.split 128 (opn 4 .done) (opn 4 .done)) .done))))) (.cond (.seq (oD 6) (.seq (.seq (oD 2) (.cond (.seq (oD 1) .leaf) .leaf)) (.seq (oD 4) .leaf))) .leaf)))))))))))) (.seq (oD 1) .leaf))))))))))
def vc238 (R : Value → World → Prop) (w : World) (t0 t1 : Value) : Prop :=
 V (Builtin.len_ #[9] 3 #[t1]) w fun t15 w =>
 V (eq .eql 3 (.tmp 17) (.const (.int .i64 0)) t15 (.int .i64 0)) w fun t18 w =>
 ∀ K0 : List Value → World → Prop, (∀ t23, ∀ w, (∀ g : Env,
 CondW t23
 (R (.int .i64 0) w)
 (V (eq .eql 3 (.tmp 25) (.const (.int .i64 1)) t15 (.int .i64 1)) w fun t26 w =>
 CondW t26
 (V (ix 9 t1 (.int .i64 0)) w fun t29 w =>
 CV (.func (.func 253) #[] #[]) #[t0, t29] w fun t30 w =>
 R t30 w)
 (V (Builtin.len_ #[9] 3 #[t0]) w fun t34 w =>
 V (bi .geq 3 t15 t34) w fun t35 w =>
 CondW t35
 (R (.int .i64 (-1)) w)
 (V (ld 3 (.pointer (some ⟨0, 0, none⟩))) w fun t38 w =>
 V (bi .leq 3 t15 t38) w fun t39 w =>
 ∀ K0 : List Value → World → Prop, (∀ t44, ∀ w, (∀ g : Env,
 CondW t44
 (CV (.func (.func 264) #[] #[]) #[t0, t1] w fun t47 w =>
 R t47 w)
 (V (ix 9 t1 (.int .i64 0)) w fun t49 w =>
 V (ix 9 t1 (.int .i64 1)) w fun t51 w =>
 V (Builtin.len_ #[9] 3 #[t0]) w fun t53 w =>
 V (bi .sub 3 t53 t15) w fun t55 w =>
 V (bi .add 3 t55 (.int .i64 1)) w fun t56 w =>
 ∃ (I0 : List Value → World → Prop) (M0 : List Value → World → Nat), I0 [(.int .i64 0), (.int .i64 0)] w ∧ ∀ g : Env, ∀ t8, ∀ t10, ∀ w, I0 [t8, t10] w → ∀ m0, m0 = M0 [t8, t10] w →
 V (bi .lss 3 t8 t56) w fun t59 w =>
 CondW t59
 (∀ K0 : List Value → World → Prop, (∀ t8a, ∀ w, (∀ g : Env,
 V (bi .add 3 t8a (.int .i64 1)) w fun t80 w =>
 V (ix 9 t0 t80) w fun t81 w =>
 V (eq .eql 5 (.tmp 81) (.tmp 82) t81 t51) w fun t83 w =>
 ∀ K0 : List Value → World → Prop, (∀ t93, ∀ w, (∀ g : Env,
 CondW t93
 (R t8a w)
 (V (bi .add 3 t8a (.int .i64 1)) w fun t96 w =>
 V (bi .add 3 t10 (.int .i64 1)) w fun t98 w =>
 V (ld 3 (.pointer (some ⟨0, 0, none⟩))) w fun t100 w =>
 V (bi .leq 3 t15 t100) w fun t101 w =>
 ∀ K0 : List Value → World → Prop, (∀ t107, ∀ w, (∀ g : Env,
 CondW t107
 (V (sl 9 t0 (some t96) none none) w fun t110 w =>
 CV (.func (.func 264) #[] #[]) #[t110, t1] w fun t112 w =>
 V (bi .geq 3 t112 (.int .i64 0)) w fun t114 w =>
 CondW t114
 (V (bi .add 3 t112 t96) w fun t117 w =>
 R t117 w)
 (R (.int .i64 (-1)) w))
 (V (ld 3 (.pointer (some ⟨0, 0, none⟩))) w fun t119 w =>
 V (bi .gtr 3 t15 t119) w fun t120 w =>
 ∀ K0 : List Value → World → Prop, (∀ t127, ∀ w, (∀ g : Env,
 ∀ K0 : List Value → World → Prop, (∀ t132, ∀ w, (∀ g : Env,
 CondW t132
 (V (sl 9 t0 (some t96) none none) w fun t135 w =>
 CV (.func (.func 266) #[] #[]) #[t135, t1] w fun t137 w =>
 V (bi .lss 3 t137 (.int .i64 0)) w fun t139 w =>
 CondW t139
 (R (.int .i64 (-1)) w)
 (V (bi .add 3 t96 t137) w fun t142 w =>
 R t142 w))
 (I0 [t96, t98] w ∧ M0 [t96, t98] w < m0)) → K0 [t132] w) →
 CondW t127
 (V (bi .lss 3 t96 t56) w fun t131 w =>
 K0 [t131] w)
 (K0 [(.bool false)] w)) → K0 [t127] w) →
 CondW t120
 (V (bi .shr 3 t96 (.int .u64 4)) w fun t124 w =>
 V (bi .add 3 (.int .i64 4) t124) w fun t125 w =>
 V (bi .geq 3 t98 t125) w fun t126 w =>
 K0 [t126] w)
 (K0 [(.bool false)] w))) → K0 [t107] w) →
 CondW t101
 (CV (.func (.func 265) #[] #[]) #[t96] w fun t105 w =>
 V (bi .gtr 3 t98 t105) w fun t106 w =>
 K0 [t106] w)
 (K0 [(.bool false)] w))) → K0 [t93] w) →
 CondW t83
 (V (bi .add 3 t8a t15) w fun t89 w =>
 V (sl 9 t0 (some t8a) (some t89) none) w fun t90 w =>
 V (eq .eql 9 (.tmp 90) (.tmp 91) t90 t1) w fun t92 w =>
 K0 [t92] w)
 (K0 [(.bool false)] w)) → K0 [t8a] w) →
 V (ix 9 t0 t8) w fun t62 w =>
 V (eq .neq 5 (.tmp 62) (.tmp 63) t62 t49) w fun t64 w =>
 CondW t64
 (V (bi .add 3 t8 (.int .i64 1)) w fun t67 w =>
 V (sl 9 t0 (some t67) (some t56) none) w fun t69 w =>
 CV (.func (.func 253) #[] #[]) #[t69, t49] w fun t71 w =>
 V (bi .lss 3 t71 (.int .i64 0)) w fun t73 w =>
 CondW t73
 (R (.int .i64 (-1)) w)
 (V (bi .add 3 t71 (.int .i64 1)) w fun t76 w =>
 V (bi .add 3 t8 t76) w fun t77 w =>
 K0 [t77] w))
 (K0 [t8] w))
 (R (.int .i64 (-1)) w))) → K0 [t44] w) →
 CondW t39
 (V (Builtin.len_ #[9] 3 #[t0]) w fun t42 w =>
 V (bi .leq 3 t42 (.int .i64 64)) w fun t43 w =>
 K0 [t43] w)
 (K0 [(.bool false)] w))))) → K0 [t23] w) →
 CondW t18
 (K0 [(.bool true)] w)
 (V (eq .eql 9 (.tmp 20) (.tmp 21) t1 t0) w fun t22 w =>
 K0 [t22] w)
theorem en238 (h : vc238 R w t0 t1) : Calls Tryz.prog 238 #[t0, t1] w (retK R) := calls_of_enter mixed Tryz.func238 (by kernel_rfl) (Eq.mpr (by kernel_rfl : enterW Tryz.prog Tryz.f238 an238 [t0, t1] w R = vc238 R w t0 t1) h)
def an246 : Ann := (.seq (oD 1) (.seq (.seq (oD 3) (.one (.loop [8] ([9, 10, 5] ++ rgN 11 7 ++ [4, 18, 8]) (.seq (oD 1) (.seq (.cond .leaf .leaf) (.seq (.one (.seq (oD 2) (.seq (oD 6) (.cond (.seq (oD 2) .leaf) .leaf)))) (oD 2))))))) (.seq (oD 1) .leaf)))
def vc246 (R : Value → World → Prop) (w : World) (t0 t1 : Value) : Prop :=
 V (Builtin.len_ #[23] 3 #[t0]) w fun t7 w =>
 ∃ (I0 : List Value → World → Prop) (M0 : List Value → World → Nat), I0 [(.int .i64 0)] w ∧ ∀ g : Env, ∀ t8, ∀ w, I0 [t8] w → ∀ m0, m0 = M0 [t8] w →
 V (bi .lss 3 t8 t7) w fun t9 w =>
 CondW t9
 (V (ia 23 t0 t8) w fun t14 w =>
 V (ld 93 t14) w fun t15 w =>
 CV t1 #[t15] w fun t16 w =>
 CondW t16
 (R t8 w)
 (V (bi .add 3 t8 (.int .i64 1)) w fun t18 w =>
 I0 [t18] w ∧ M0 [t18] w < m0))
 (R (.int .i64 (-1)) w)
theorem en246 (h : vc246 R w t0 t1) : Calls Tryz.prog 246 #[t0, t1] w (retK R) := calls_of_enter mixed Tryz.func246 (by kernel_rfl) (Eq.mpr (by kernel_rfl : enterW Tryz.prog Tryz.f246 an246 [t0, t1] w R = vc246 R w t0 t1) h)
def an247 : Ann := (.seq (oD 1) (.seq (.seq (oD 3) (.one (.loop [8] ([9, 10, 5] ++ rgN 11 7 ++ [4, 18, 8]) (.seq (oD 1) (.seq (.cond .leaf .leaf) (.seq (.one (.seq (oD 2) (.seq (oD 6) (.cond (.seq (oD 2) .leaf) .leaf)))) (oD 2))))))) (.seq (oD 1) .leaf)))
def vc247 (R : Value → World → Prop) (w : World) (t0 t1 : Value) : Prop :=
 V (Builtin.len_ #[93] 3 #[t0]) w fun t7 w =>
 ∃ (I0 : List Value → World → Prop) (M0 : List Value → World → Nat), I0 [(.int .i64 0)] w ∧ ∀ g : Env, ∀ t8, ∀ w, I0 [t8] w → ∀ m0, m0 = M0 [t8] w →
 V (bi .lss 3 t8 t7) w fun t9 w =>
 CondW t9
 (V (ia 93 t0 t8) w fun t14 w =>
 V (ld 95 t14) w fun t15 w =>
 CV t1 #[t15] w fun t16 w =>
 CondW t16
 (R t8 w)
 (V (bi .add 3 t8 (.int .i64 1)) w fun t18 w =>
 I0 [t18] w ∧ M0 [t18] w < m0))
 (R (.int .i64 (-1)) w)
theorem en247 (h : vc247 R w t0 t1) : Calls Tryz.prog 247 #[t0, t1] w (retK R) := calls_of_enter mixed Tryz.func247 (by kernel_rfl) (Eq.mpr (by kernel_rfl : enterW Tryz.prog Tryz.f247 an247 [t0, t1] w R = vc247 R w t0 t1) h)
def an248 : Ann := (.seq (oD 1) (.seq (.seq (oD 3) (.one (.loop [8] ([9, 10, 5] ++ rgN 11 7 ++ [4, 18, 8]) (.seq (oD 1) (.seq (.cond .leaf .leaf) (.seq (.one (.seq (oD 2) (.seq (oD 6) (.cond (.seq (oD 2) .leaf) .leaf)))) (oD 2))))))) (.seq (oD 1) .leaf)))
def vc248 (R : Value → World → Prop) (w : World) (t0 t1 : Value) : Prop :=
 V (Builtin.len_ #[22] 3 #[t0]) w fun t7 w =>
 ∃ (I0 : List Value → World → Prop) (M0 : List Value → World → Nat), I0 [(.int .i64 0)] w ∧ ∀ g : Env, ∀ t8, ∀ w, I0 [t8] w → ∀ m0, m0 = M0 [t8] w →
 V (bi .lss 3 t8 t7) w fun t9 w =>
 CondW t9
 (V (ia 22 t0 t8) w fun t14 w =>
 V (ld 9 t14) w fun t15 w =>
 CV t1 #[t15] w fun t16 w =>
 CondW t16
 (R t8 w)
 (V (bi .add 3 t8 (.int .i64 1)) w fun t18 w =>
 I0 [t18] w ∧ M0 [t18] w < m0))
 (R (.int .i64 (-1)) w)
theorem en248 (h : vc248 R w t0 t1) : Calls Tryz.prog 248 #[t0, t1] w (retK R) := calls_of_enter mixed Tryz.func248 (by kernel_rfl) (Eq.mpr (by kernel_rfl : enterW Tryz.prog Tryz.f248 an248 [t0, t1] w R = vc248 R w t0 t1) h)
def an249 : Ann := (.seq (oD 1) (.seq (.seq (oD 3) (.one (.loop [8] ([9, 10, 5] ++ rgN 11 7 ++ [4, 18, 8]) (.seq (oD 1) (.seq (.cond .leaf .leaf) (.seq (.one (.seq (oD 2) (.seq (oD 6) (.cond (.seq (oD 2) .leaf) .leaf)))) (oD 2))))))) (.seq (oD 1) .leaf)))
def vc249 (R : Value → World → Prop) (w : World) (t0 t1 : Value) : Prop :=
 V (Builtin.len_ #[24] 3 #[t0]) w fun t7 w =>
 ∃ (I0 : List Value → World → Prop) (M0 : List Value → World → Nat), I0 [(.int .i64 0)] w ∧ ∀ g : Env, ∀ t8, ∀ w, I0 [t8] w → ∀ m0, m0 = M0 [t8] w →
 V (bi .lss 3 t8 t7) w fun t9 w =>
 CondW t9
 (V (ia 24 t0 t8) w fun t14 w =>
 V (ld 96 t14) w fun t15 w =>
 CV t1 #[t15] w fun t16 w =>
 CondW t16
 (R t8 w)
 (V (bi .add 3 t8 (.int .i64 1)) w fun t18 w =>
 I0 [t18] w ∧ M0 [t18] w < m0))
 (R (.int .i64 (-1)) w)
theorem en249 (h : vc249 R w t0 t1) : Calls Tryz.prog 249 #[t0, t1] w (retK R) := calls_of_enter mixed Tryz.func249 (by kernel_rfl) (Eq.mpr (by kernel_rfl : enterW Tryz.prog Tryz.f249 an249 [t0, t1] w R = vc249 R w t0 t1) h)
def an250 : Ann := (.seq (oD 1) (.seq (oD 5) .leaf))
def vc250 (R : Value → World → Prop) (w : World) (t0 t1 : Value) : Prop :=
 CV (.func (.func 274) #[] #[]) #[t0, t1] w fun t7 w =>
 V (bi .geq 3 t7 (.int .i64 0)) w fun t8 w =>
 R t8 w
theorem en250 (h : vc250 R w t0 t1) : Calls Tryz.prog 250 #[t0, t1] w (retK R) := calls_of_enter mixed Tryz.func250 (by kernel_rfl) (Eq.mpr (by kernel_rfl : enterW Tryz.prog Tryz.f250 an250 [t0, t1] w R = vc250 R w t0 t1) h)
def an251 : Ann := (.seq (oD 1) (.seq (oD 5) .leaf))
def vc251 (R : Value → World → Prop) (w : World) (t0 t1 : Value) : Prop :=
 V (ld 280 t1) w fun t4 w =>
 CV t4 #[t0] w fun t6 w =>
 V (un .not t6) w fun t7 w =>
 R t7 w
theorem en251 (h : vc251 R w t0 t1) : Calls Tryz.prog 251 #[t0, t1] w (retK R) := calls_of_enter mixed Tryz.func251 (by kernel_rfl) (Eq.mpr (by kernel_rfl : enterW Tryz.prog Tryz.f251 an251 [t0, t1] w R = vc251 R w t0 t1) h)
def an252 : Ann := (.seq (oD 1) (.seq (.seq (oD 3) (.one (.loop [8] ([9, 10, 5] ++ rgN 11 7 ++ [4, 18, 8]) (.seq (oD 1) (.seq (.cond .leaf .leaf) (.seq (.one (.seq (oD 2) (.seq (oD 6) (.cond (.seq (oD 2) .leaf) .leaf)))) (oD 2))))))) (.seq (oD 1) .leaf)))
def vc252 (R : Value → World → Prop) (w : World) (t0 t1 : Value) : Prop :=
 V (Builtin.len_ #[96] 3 #[t0]) w fun t7 w =>
 ∃ (I0 : List Value → World → Prop) (M0 : List Value → World → Nat), I0 [(.int .i64 0)] w ∧ ∀ g : Env, ∀ t8, ∀ w, I0 [t8] w → ∀ m0, m0 = M0 [t8] w →
 V (bi .lss 3 t8 t7) w fun t9 w =>
 CondW t9
 (V (ia 96 t0 t8) w fun t14 w =>
 V (ld 98 t14) w fun t15 w =>
 CV t1 #[t15] w fun t16 w =>
 CondW t16
 (R t8 w)
 (V (bi .add 3 t8 (.int .i64 1)) w fun t18 w =>
 I0 [t18] w ∧ M0 [t18] w < m0))
 (R (.int .i64 (-1)) w)
theorem en252 (h : vc252 R w t0 t1) : Calls Tryz.prog 252 #[t0, t1] w (retK R) := calls_of_enter mixed Tryz.func252 (by kernel_rfl) (Eq.mpr (by kernel_rfl : enterW Tryz.prog Tryz.f252 an252 [t0, t1] w R = vc252 R w t0 t1) h)
def an253 : Ann := (.seq (oD 1) (.seq (oD 4) .leaf))
def vc253 (R : Value → World → Prop) (w : World) (t0 t1 : Value) : Prop :=
 CV (.func (.func 275) #[] #[]) #[t0, t1] w fun t7 w =>
 R t7 w
theorem en253 (h : vc253 R w t0 t1) : Calls Tryz.prog 253 #[t0, t1] w (retK R) := calls_of_enter mixed Tryz.func253 (by kernel_rfl) (Eq.mpr (by kernel_rfl : enterW Tryz.prog Tryz.f253 an253 [t0, t1] w R = vc253 R w t0 t1) h)
def an254 : Ann := (.seq (oD 1) (.seq (.reg (opn 3 (.join [9] [6, 7, 8, 9] (.split 5 (opn 4 .done) (opn 4 .done)) (opn 1 .done)))) .leaf))
def vc254 (R : Value → World → Prop) (w : World) (t0 : Value) : Prop :=
 V (eq .neq 9 (.tmp 3) (.const (.string ⟨#[]⟩)) t0 (.string ⟨#[]⟩)) w fun t4 w =>
 ∀ K0 : List Value → World → Prop, (∀ t9, ∀ w, (∀ g : Env,
 R t9 w) → K0 [t9] w) →
 CondW t4
 (V (cv 9 55 t0) w fun t7 w =>
 CV (.func (.func 216) #[] #[]) #[t7, (.func (.func 255) #[] #[])] w fun t8 w =>
 K0 [t8] w)
 (K0 [(.bool false)] w)
theorem en254 (h : vc254 R w t0) : Calls Tryz.prog 254 #[t0] w (retK R) := calls_of_enter mixed Tryz.func254 (by kernel_rfl) (Eq.mpr (by kernel_rfl : enterW Tryz.prog Tryz.f254 an254 [t0] w R = vc254 R w t0) h)
def an255 : Ann := (.seq (oD 1) (.seq (oD 4) .leaf))
def vc255 (R : Value → World → Prop) (w : World) (t0 : Value) : Prop :=
 V (cv 5 3 t0) w fun t4 w =>
 CV (.func (.func 75) #[] #[]) #[t4, (.int .i64 48), (.int .i64 57)] w fun t5 w =>
 R t5 w
theorem en255 (h : vc255 R w t0) : Calls Tryz.prog 255 #[t0] w (retK R) := calls_of_enter mixed Tryz.func255 (by kernel_rfl) (Eq.mpr (by kernel_rfl : enterW Tryz.prog Tryz.f255 an255 [t0] w R = vc255 R w t0) h)
def an258 : Ann := (.seq (oD 1) (.seq (oD 4) .leaf))
def vc258 (R : Value → World → Prop) (w : World) (t0 t1 : Value) : Prop :=
 CV (.func (.func 238) #[] #[]) #[t0, t1] w fun t7 w =>
 R t7 w
theorem en258 (h : vc258 R w t0 t1) : Calls Tryz.prog 258 #[t0, t1] w (retK R) := calls_of_enter mixed Tryz.func258 (by kernel_rfl) (Eq.mpr (by kernel_rfl : enterW Tryz.prog Tryz.f258 an258 [t0, t1] w R = vc258 R w t0 t1) h)
def an259 : Ann := (.seq (oD 1) (.seq (.reg (opn 6 (.join [20] (rgN 11 10) (.split 10 (opn 10 .done) (opn 10 .done)) (opn 1 .done)))) .leaf))
def vc259 (R : Value → World → Prop) (w : World) (t0 t1 : Value) : Prop :=
 V (Builtin.len_ #[9] 3 #[t0]) w fun t6 w =>
 V (Builtin.len_ #[9] 3 #[t1]) w fun t8 w =>
 V (bi .geq 3 t6 t8) w fun t9 w =>
 ∀ K0 : List Value → World → Prop, (∀ t20, ∀ w, (∀ g : Env,
 R t20 w) → K0 [t20] w) →
 CondW t9
 (V (Builtin.len_ #[9] 3 #[t0]) w fun t13 w =>
 V (Builtin.len_ #[9] 3 #[t1]) w fun t15 w =>
 V (bi .sub 3 t13 t15) w fun t16 w =>
 V (sl 9 t0 (some t16) none none) w fun t17 w =>
 V (eq .eql 9 (.tmp 17) (.tmp 18) t17 t1) w fun t19 w =>
 K0 [t19] w)
 (K0 [(.bool false)] w)
theorem en259 (h : vc259 R w t0 t1) : Calls Tryz.prog 259 #[t0, t1] w (retK R) := calls_of_enter mixed Tryz.func259 (by kernel_rfl) (Eq.mpr (by kernel_rfl : enterW Tryz.prog Tryz.f259 an259 [t0, t1] w R = vc259 R w t0 t1) h)
def an260 : Ann := (.seq (oD 1) (.seq (.seq (oD 3) (.one (.loop [8] ([9, 10, 5] ++ rgN 11 7 ++ [4, 18, 8]) (.seq (oD 1) (.seq (.cond .leaf .leaf) (.seq (.one (.seq (oD 2) (.seq (oD 6) (.cond (.seq (oD 2) .leaf) .leaf)))) (oD 2))))))) (.seq (oD 1) .leaf)))
def vc260 (R : Value → World → Prop) (w : World) (t0 t1 : Value) : Prop :=
 V (Builtin.len_ #[45] 3 #[t0]) w fun t7 w =>
 ∃ (I0 : List Value → World → Prop) (M0 : List Value → World → Nat), I0 [(.int .i64 0)] w ∧ ∀ g : Env, ∀ t8, ∀ w, I0 [t8] w → ∀ m0, m0 = M0 [t8] w →
 V (bi .lss 3 t8 t7) w fun t9 w =>
 CondW t9
 (V (ia 45 t0 t8) w fun t14 w =>
 V (ld 3 t14) w fun t15 w =>
 CV t1 #[t15] w fun t16 w =>
 CondW t16
 (R t8 w)
 (V (bi .add 3 t8 (.int .i64 1)) w fun t18 w =>
 I0 [t18] w ∧ M0 [t18] w < m0))
 (R (.int .i64 (-1)) w)
theorem en260 (h : vc260 R w t0 t1) : Calls Tryz.prog 260 #[t0, t1] w (retK R) := calls_of_enter mixed Tryz.func260 (by kernel_rfl) (Eq.mpr (by kernel_rfl : enterW Tryz.prog Tryz.f260 an260 [t0, t1] w R = vc260 R w t0 t1) h)
def an261 : Ann := (.seq (.draw (tkN 0 3 (.hold 3 (tkN 4 4 (tkN 9 3 (.hold 12 (.take 13 (.alts (.eff 8 (.take 14 (.take 15 .done)) .nil))))))))) (.seq (oD 6) (oD 5)))
def vc261 (R : Value → World → Prop) (w : World) (t0 t1 : Value) : Prop :=
 Dr w fun w =>
 NilW t0 fun t6 => PV (fa 199 t6 1) fun t7 =>
 HV (ld 55 t7) w fun t8 =>
 PV (Builtin.cap_ #[55] 3 #[t8]) fun t9 =>
 PV (bi .mul 3 (.int .i64 2) t9) fun t10 =>
 PV (bi .add 3 t10 t1) fun t12 =>
 NilW t0 fun t15 => PV (fa 199 t15 1) fun t16 =>
 HV (ld 55 t16) w fun t17 =>
 PV (Builtin.len_ #[55] 3 #[t17]) fun t18 =>
 CV (.func (.func 276) #[] #[]) #[t12] w fun t13 w =>
 RunIs (ld 55 t16) w t17 ∧ RunIs (ld 55 t7) w t8 ∧ (PV (sl 55 t13 none (some t18) none) fun t19 =>
 NilW t0 fun t22 => V (fa 199 t22 1) w fun t23 w =>
 V (ld 55 t23) w fun t24 w =>
 V (Builtin.copy_ #[55, 55] 3 #[t19, t24]) w fun t25 w =>
 NilW t0 fun t28 => V (fa 199 t28 1) w fun t29 w =>
 U (st 55 t29 t19) w fun w =>
 R (.tuple #[]) w)
theorem en261 (h : vc261 R w t0 t1) : Calls Tryz.prog 261 #[t0, t1] w (retK R) := calls_of_enter mixed Tryz.func261 (by kernel_rfl) (Eq.mpr (by kernel_rfl : enterW Tryz.prog Tryz.f261 an261 [t0, t1] w R = vc261 R w t0 t1) h)
def an274 : Ann := (.seq (oD 1) (.seq (.seq (oD 3) (.one (.loop [8] ([9, 10, 5] ++ rgN 11 7 ++ [4, 18, 8]) (.seq (oD 1) (.seq (.cond .leaf .leaf) (.seq (.one (.seq (oD 2) (.seq (oD 6) (.cond (.seq (oD 2) .leaf) .leaf)))) (oD 2))))))) (.seq (oD 1) .leaf)))
def vc274 (R : Value → World → Prop) (w : World) (t0 t1 : Value) : Prop :=
 V (Builtin.len_ #[55] 3 #[t0]) w fun t7 w =>
 ∃ (I0 : List Value → World → Prop) (M0 : List Value → World → Nat), I0 [(.int .i64 0)] w ∧ ∀ g : Env, ∀ t8, ∀ w, I0 [t8] w → ∀ m0, m0 = M0 [t8] w →
 V (bi .lss 3 t8 t7) w fun t9 w =>
 CondW t9
 (V (ia 55 t0 t8) w fun t14 w =>
 V (ld 5 t14) w fun t15 w =>
 CV t1 #[t15] w fun t16 w =>
 CondW t16
 (R t8 w)
 (V (bi .add 3 t8 (.int .i64 1)) w fun t18 w =>
 I0 [t18] w ∧ M0 [t18] w < m0))
 (R (.int .i64 (-1)) w)
theorem en274 (h : vc274 R w t0 t1) : Calls Tryz.prog 274 #[t0, t1] w (retK R) := calls_of_enter mixed Tryz.func274 (by kernel_rfl) (Eq.mpr (by kernel_rfl : enterW Tryz.prog Tryz.f274 an274 [t0, t1] w R = vc274 R w t0 t1) h)
end
end Go.Proofs.YtbeelfopmkbllaaGreatDoor
