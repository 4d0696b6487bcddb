/- Texts joined: VC. -/
import Derived.Test.YtjnckainogpenaaM0
import Derived.Test.YtjnckainogpenaaProg
section
/- The formulas of the functions' codes, each with the annotation that it is read by, printed by a program of this claim's (vc.py); each is held against the code by the kernel. -/
set_option linter.unusedVariables false
set_option maxRecDepth 100000
namespace Go.Proofs.Ytjnckainogpenaa
open Go Q

-- qanat/qanatlaw10.TrapPlays
def an3 : Ann := (.seq (.reg (opn 1 .done)) (.seq (.seq (.reg (opn 4 (.join [22] [14, 15, 16, 17, 18, 19, 20, 21, 22] (.split 13 (opn 9 .done) (opn 4 (.join [21] [18, 19, 20, 21] (.split 17 (opn 4 .done) (opn 4 .done)) (opn 1 .done)))) .done))) (.cond (.seq (.reg (opn 2 .done)) .leaf) .leaf)) (.seq (.seq (.reg (opn 1 .done)) (.one (.loop [3] [24, 25, 26, 27, 30, 31, 32, 33, 34, 35, 36, 37, 2, 28, 29, 3] (.seq (.seq (.reg (opn 4 .done)) (.cond .leaf .leaf)) (.seq (.one (.seq (.reg (opn 7 .done)) (.cond (.seq (.reg (opn 2 .done)) .leaf) .leaf))) (.reg (opn 3 .done))))))) (.seq (.reg (opn 12 .done)) (.seq (.reg (opn 4 .done)) (.seq (.seq (.reg (opn 5 (.join [58] [52, 53, 54, 55, 56, 57, 58] (.split 51 (opn 7 .done) (opn 7 .done)) (opn 1 (.join [66] [60, 61, 62, 63, 64, 65, 66] (.split 59 (opn 7 .done) (opn 7 .done)) (opn 1 (.join [73] [68, 69, 70, 71, 72, 73] (.split 67 (opn 6 .done) (opn 6 .done)) .done))))))) (.cond (.seq (.reg (opn 1 .done)) .leaf) .leaf)) (.seq (.seq (.reg (opn 1 .done)) (.one (.loop [9] [74, 75, 76, 77, 80, 81, 82, 83, 84, 85, 86, 87, 88, 89, 90, 91, 92, 93, 94, 95, 96, 97, 98, 99, 100, 101, 2, 78, 79, 9] (.seq (.seq (.reg (opn 4 .done)) (.cond .leaf .leaf)) (.seq (.one (.seqJ [101] [80, 81, 82, 83, 84, 85, 86, 87, 88, 89, 90, 91, 92, 93, 94, 95, 96, 97, 98, 99, 100, 101] (.draw (.take 0 (.take 1 (.take 2 (.hold 3 (.take 4 (.hold 5 (.take 6 (.take 7 (.hold 8 (.take 9 (.take 10 (.split 90 (.take 11 (.take 12 (.take 13 (.take 14 (.take 15 (.take 16 (.take 17 (.take 18 (.take 19 (.take 20 (.take 21 .done))))))))))) (.take 11 (.take 12 (.take 13 (.hold 14 (.take 15 (.hold 16 (.take 17 (.take 18 (.hold 19 (.take 20 (.take 21 .done)))))))))))))))))))))))) (.cond (.seq (.reg (opn 1 .done)) .leaf) .leaf))) (.reg (opn 3 .done))))))) (.seq (.reg (opn 2 .done)) .leaf))))))))
def vc3 (R : Value → World → Prop) (w : World) (t0 : Value) : Prop :=
 V (Builtin.len_ #[22] 3 #[t0]) w fun t11 w =>
 V (bi .gtr 3 t11 (.int .i64 1100)) w fun t12 w =>
 ∀ K0 : List Value → World → Prop, (∀ t22, ∀ w, (∀ g : Env,
 CondW t22
 (CV (.func (.func 12) #[] #[]) #[] w fun t23 w =>
 R t23 w)
 (∃ (I0 : List Value → World → Prop) (M0 : List Value → World → Nat), I0 [(.int .i64 0)] w ∧ ∀ g : Env, ∀ t3, ∀ w, I0 [t3] w → ∀ m0, m0 = M0 [t3] w →
 V (Builtin.len_ #[22] 3 #[t0]) w fun t26 w =>
 V (bi .lss 3 t3 t26) w fun t27 w =>
 CondW t27
 (V (ia 22 t0 t3) w fun t32 w =>
 V (fa 25 t32 3) w fun t33 w =>
 V (ld 9 t33) w fun t34 w =>
 V (Builtin.len_ #[9] 3 #[t34]) w fun t35 w =>
 V (bi .gtr 3 t35 (.int .i64 1100)) w fun t36 w =>
 CondW t36
 (CV (.func (.func 12) #[] #[]) #[] w fun t37 w =>
 R t37 w)
 (V (bi .add 3 t3 (.int .i64 1)) w fun t29 w =>
 I0 [t29] w ∧ M0 [t29] w < m0))
 (CV (.func (.func 13) #[] #[]) #[t0] w fun t40 w =>
 V (ex t40 0) w fun t41 w =>
 V (ex t40 1) w fun t42 w =>
 V (ex t40 2) w fun t43 w =>
 V (ex t40 3) w fun t44 w =>
 V (al 28) w fun t4 w =>
 U (st 28 t4 t41) w fun w =>
 CV (.func (.func 14) #[] #[]) #[t0] w fun t46 w =>
 V (al 35) w fun t8 w =>
 U (st 35 t8 t46) w fun w =>
 V (fa 35 t8 3) w fun t48 w =>
 V (ld 31 t48) w fun t49 w =>
 V (eq .neq 31 (.tmp 47) (.tmp 49) t44 t49) w fun t50 w =>
 ∀ K0 : List Value → World → Prop, (∀ t58, ∀ w, (∀ g : Env,
 ∀ K0 : List Value → World → Prop, (∀ t66, ∀ w, (∀ g : Env,
 ∀ K0 : List Value → World → Prop, (∀ t73, ∀ w, (∀ g : Env,
 CondW t73
 (R (.bool false) w)
 (∃ (I1 : List Value → World → Prop) (M1 : List Value → World → Nat), I1 [(.int .i64 0)] w ∧ ∀ g : Env, ∀ t9, ∀ w, I1 [t9] w → ∀ m1, m1 = M1 [t9] w →
 V (Builtin.len_ #[29] 3 #[t42]) w fun t76 w =>
 V (bi .lss 3 t9 t76) w fun t77 w =>
 CondW t77
 (∀ K0 : List Value → World → Prop, (∀ t101, ∀ w, (∀ g : Env,
 CondW t101
 (R (.bool false) w)
 (V (bi .add 3 t9 (.int .i64 1)) w fun t79 w =>
 I1 [t79] w ∧ M1 [t79] w < m1)) → K0 [t101] w) →
 Dr w fun w =>
 PV (ia 29 t42 t9) fun t82 =>
 HV (ld 39 t82) w fun t83 =>
 PV (fa 35 t8 1) fun t84 =>
 HV (ld 29 t84) w fun t85 =>
 PV (ia 29 t85 t9) fun t87 =>
 HV (ld 39 t87) w fun t88 =>
 PV (eq .neq 39 (.tmp 83) (.tmp 88) t83 t88) fun t89 =>
 CondW t89
 (K0 [(.bool true)] w)
 (PV (ia 30 t43 t9) fun t93 =>
 HV (ld 31 t93) w fun t94 =>
 PV (fa 35 t8 2) fun t95 =>
 HV (ld 30 t95) w fun t96 =>
 PV (ia 30 t96 t9) fun t98 =>
 HV (ld 31 t98) w fun t99 =>
 PV (eq .neq 31 (.tmp 94) (.tmp 99) t94 t99) fun t100 =>
 K0 [t100] w))
 (CV (.func (.func 12) #[] #[]) #[] w fun t102 w =>
 R t102 w))) → K0 [t73] w) →
 CondW t66
 (K0 [(.bool true)] w)
 (V (ld 28 t4) w fun t68 w =>
 V (fa 35 t8 0) w fun t69 w =>
 V (ld 28 t69) w fun t70 w =>
 CV (.func (.func 15) #[] #[]) #[t68, t70] w fun t71 w =>
 V (un .not t71) w fun t72 w =>
 K0 [t72] w)) → K0 [t66] w) →
 CondW t58
 (K0 [(.bool true)] w)
 (V (Builtin.len_ #[30] 3 #[t43]) w fun t61 w =>
 V (fa 35 t8 2) w fun t62 w =>
 V (ld 30 t62) w fun t63 w =>
 V (Builtin.len_ #[30] 3 #[t63]) w fun t64 w =>
 V (eq .neq 3 (.tmp 61) (.tmp 64) t61 t64) w fun t65 w =>
 K0 [t65] w)) → K0 [t58] w) →
 CondW t50
 (K0 [(.bool true)] w)
 (V (Builtin.len_ #[29] 3 #[t42]) w fun t53 w =>
 V (fa 35 t8 1) w fun t54 w =>
 V (ld 29 t54) w fun t55 w =>
 V (Builtin.len_ #[29] 3 #[t55]) w fun t56 w =>
 V (eq .neq 3 (.tmp 53) (.tmp 56) t53 t56) w fun t57 w =>
 K0 [t57] w)))) → K0 [t22] w) →
 CondW t12
 (K0 [(.bool true)] w)
 (V (Builtin.len_ #[22] 3 #[t0]) w fun t15 w =>
 V (bi .gtr 3 t15 (.int .i64 200)) w fun t16 w =>
 ∀ K1 : List Value → World → Prop, (∀ t21, ∀ w, (∀ g : Env,
 K0 [t21] w) → K1 [t21] w) →
 CondW t16
 (V (Builtin.len_ #[22] 3 #[t0]) w fun t19 w =>
 V (bi .leq 3 t19 (.int .i64 1000)) w fun t20 w =>
 K1 [t20] w)
 (K1 [(.bool false)] w))
theorem eq3 (R : Value → World → Prop) (w : World) (t0 : Value) : enterW Try.prog Try.f3 an3 [t0] w R = vc3 R w t0 := by kernel_rfl
theorem en3 {R : Value → World → Prop} {w : World} {t0 : Value} (h : vc3 R w t0) : Calls Try.prog 3 #[t0] w (retK R) :=
  calls_of_enter mixed Try.func3 (by kernel_rfl) (by rw [eq3]; exact h)

-- qanat/qanatlaw10.TrapOnce
def an4 : Ann := (.seq (.reg (opn 1 .done)) (.seq (.reg (opn 8 .done)) (.seq (.seq (.reg (opn 2 .done)) (.cond (.seq (.reg (opn 2 (.join [20] [17, 18, 19, 20] (.split 16 (opn 4 .done) (opn 4 .done)) (opn 1 .done)))) .leaf) .leaf)) (.seq (.seq (.reg (opn 3 .done)) (.cond (.seq (.reg (opn 1 .done)) .leaf) .leaf)) (.seq (.seq (.reg (opn 1 .done)) (.one (.loop [24] [25, 27, 28, 26, 29, 30, 31, 5, 6, 7, 32, 33, 34, 35, 36, 37, 38, 39, 40, 41, 42, 43, 2, 44, 45, 46, 47, 48, 49, 50, 51, 52, 53, 55, 56, 54, 57, 58, 59, 60, 61, 62, 24] (.seq (.reg (opn 1 .done)) (.seq (.cond .leaf .leaf) (.seq (.one (.seq (.reg (opn 11 .done)) (.seq (.seq (.reg (opn 3 (.join [42] [35, 36, 37, 38, 39, 40, 41, 42] (.split 34 (opn 8 .done) (opn 3 (.join [41] [38, 39, 40, 41] (.split 37 (opn 4 .done) (opn 4 .done)) (opn 1 .done)))) .done))) (.cond (.seq (.reg (opn 2 .done)) .leaf) .leaf)) (.seq (.seq (.reg (opn 3 (.join [50] [47, 48, 49, 50] (.split 46 (opn 4 .done) (opn 4 .done)) .done))) (.cond (.seq (.reg (opn 1 .done)) .leaf) .leaf)) (.seqJ [] [51, 52, 53, 55, 56, 54, 57, 58, 7, 59, 60, 2] (.seq (.reg (opn 3 .done)) (.cond (.seq (.reg (opn 7 .done)) (.seq (.reg (opn 2 .done)) (.cond (.seq (.reg (opn 1 .done)) .leaf) .leaf))) .leaf)) (.reg (opn 2 .done))))))) (.reg (opn 2 .done)))))))) (.seq (.reg (opn 1 .done)) .leaf))))))
def vc4 (R : Value → World → Prop) (w : World) (t0 : Value) : Prop :=
 CV (.func (.func 16) #[] #[]) #[t0] w fun t10 w =>
 V (ex t10 0) w fun t11 w =>
 V (ex t10 1) w fun t12 w =>
 V (al 28) w fun t3 w =>
 U (st 28 t3 t11) w fun w =>
 V (un .not t12) w fun t14 w =>
 CondW t14
 (CV (.func (.func 12) #[] #[]) #[] w fun t15 w =>
 ∀ K0 : List Value → World → Prop, (∀ t20, ∀ w, (∀ g : Env,
 R t20 w) → K0 [t20] w) →
 CondW t15
 (V (Builtin.len_ #[22] 3 #[t0]) w fun t18 w =>
 V (bi .gtr 3 t18 (.int .i64 0)) w fun t19 w =>
 K0 [t19] w)
 (K0 [(.bool false)] w))
 (V (ld 28 t3) w fun t21 w =>
 CV (.func (.func 17) #[] #[]) #[t21] w fun t22 w =>
 V (eq .neq 31 (.tmp 22) (.const (.int .i64 0)) t22 (.int .i64 0)) w fun t23 w =>
 CondW t23
 (R (.bool false) w)
 (∃ (I0 : List Value → World → Prop) (M0 : List Value → World → Nat), I0 [(.int .i64 0)] w ∧ ∀ g : Env, ∀ t24, ∀ w, I0 [t24] w → ∀ m0, m0 = M0 [t24] w →
 V (bi .lss 3 t24 (.int .i64 7)) w fun t25 w =>
 CondW t25
 (V (ld 28 t3) w fun t27 w =>
 CV (.func (.func 18) #[] #[]) #[t27] w fun t28 w =>
 V (ex t28 0) w fun t29 w =>
 V (ex t28 1) w fun t30 w =>
 V (ex t28 2) w fun t31 w =>
 V (al 28) w fun t5 w =>
 V (al 39) w fun t6 w =>
 U (st 28 t5 t29) w fun w =>
 U (st 39 t6 t30) w fun w =>
 V (eq .eql 31 (.tmp 32) (.const (.int .i64 14)) t31 (.int .i64 14)) w fun t33 w =>
 ∀ K0 : List Value → World → Prop, (∀ t42, ∀ w, (∀ g : Env,
 CondW t42
 (CV (.func (.func 12) #[] #[]) #[] w fun t43 w =>
 R t43 w)
 (V (eq .neq 31 (.tmp 44) (.const (.int .i64 0)) t31 (.int .i64 0)) w fun t45 w =>
 ∀ K0 : List Value → World → Prop, (∀ t50, ∀ w, (∀ g : Env,
 CondW t50
 (R (.bool false) w)
 (∀ K0 : List Value → World → Prop, (∀ w, (∀ g : Env,
 V (ld 28 t5) w fun t61 w =>
 U (st 28 t3 t61) w fun w =>
 V (bi .add 3 t24 (.int .i64 1)) w fun t62 w =>
 I0 [t62] w ∧ M0 [t62] w < m0) → K0 [] w) →
 V (fa 39 t6 0) w fun t51 w =>
 V (ld 3 t51) w fun t52 w =>
 V (eq .eql 3 (.tmp 52) (.const (.int .i64 2)) t52 (.int .i64 2)) w fun t53 w =>
 CondW t53
 (V (ld 28 t5) w fun t55 w =>
 CV (.func (.func 19) #[] #[]) #[t55] w fun t56 w =>
 V (ex t56 0) w fun t57 w =>
 V (ex t56 1) w fun t58 w =>
 U (st 28 t5 t57) w fun w =>
 V (eq .neq 31 (.tmp 59) (.const (.int .i64 0)) t58 (.int .i64 0)) w fun t60 w =>
 CondW t60
 (R (.bool false) w)
 (K0 [] w))
 (K0 [] w))) → K0 [t50] w) →
 CondW t45
 (K0 [(.bool true)] w)
 (V (fa 39 t6 0) w fun t47 w =>
 V (ld 3 t47) w fun t48 w =>
 V (eq .eql 3 (.tmp 48) (.const (.int .i64 3)) t48 (.int .i64 3)) w fun t49 w =>
 K0 [t49] w))) → K0 [t42] w) →
 CondW t33
 (K0 [(.bool true)] w)
 (V (eq .eql 31 (.tmp 35) (.const (.int .i64 0)) t31 (.int .i64 0)) w fun t36 w =>
 ∀ K1 : List Value → World → Prop, (∀ t41, ∀ w, (∀ g : Env,
 K0 [t41] w) → K1 [t41] w) →
 CondW t36
 (V (fa 39 t6 0) w fun t38 w =>
 V (ld 3 t38) w fun t39 w =>
 V (eq .eql 3 (.tmp 39) (.const (.int .i64 0)) t39 (.int .i64 0)) w fun t40 w =>
 K1 [t40] w)
 (K1 [(.bool false)] w)))
 (R (.bool false) w)))
theorem eq4 (R : Value → World → Prop) (w : World) (t0 : Value) : enterW Try.prog Try.f4 an4 [t0] w R = vc4 R w t0 := by kernel_rfl
theorem en4 {R : Value → World → Prop} {w : World} {t0 : Value} (h : vc4 R w t0) : Calls Try.prog 4 #[t0] w (retK R) :=
  calls_of_enter mixed Try.func4 (by kernel_rfl) (by rw [eq4]; exact h)

-- qanat/qanatlaw10.TrapSteps
def an5 : Ann := (.seq (.reg (opn 2 .done)) (.seq (.seq (.reg (opn 4 (.join [30] [27, 28, 29, 30] (.split 26 (opn 4 .done) (opn 4 .done)) .done))) (.cond (.seq (.reg (opn 2 .done)) .leaf) .leaf)) (.seq (.reg (opn 1 .done)) (.seq (.reg (opn 11 .done)) (.seq (.reg (opn 13 .done)) (.seq (.reg (opn 11 .done)) (.seq (.reg (opn 8 .done)) (.seq (.reg (opn 8 .done)) (.seqJ [22] [64, 65, 66, 67, 68, 69, 70, 71, 72, 73, 74, 75, 76, 77, 78, 79, 80, 81, 82, 83, 84, 85, 86, 87, 88, 89, 90, 22] (.draw (.hold 0 (.hold 1 (.take 2 (.hold 3 (.take 4 (.take 5 (.take 6 (.alts (.eff 7 (.alts (.eff 8 (.take 9 (.split 73 (.hold 10 (.hold 11 (.take 12 (.hold 13 (.take 14 (.take 15 (.alts (.eff 16 (.alts (.eff 17 (.take 18 (.take 19 (.split 83 (.hold 20 (.hold 21 (.take 22 (.hold 23 (.alts (.eff 24 (.alts (.eff 25 (.take 26 (.take 27 .done)) .nil)) .nil)))))) (.take 20 (.take 21 (.take 22 (.take 23 (.take 24 (.take 25 (.take 26 (.take 27 .done))))))))))) .nil)) .nil)))))))) (.take 10 (.take 11 (.take 12 (.take 13 (.take 14 (.take 15 (.take 16 (.take 17 (.take 18 (.take 19 (.take 20 (.take 21 (.take 22 (.take 23 (.take 24 (.take 25 (.take 26 (.take 27 .done)))))))))))))))))))) .nil)) .nil)))))))))) (.seqJ [8] [91, 92, 93, 94, 95, 96, 97, 98, 99, 100, 101, 102, 103, 104, 105, 106, 107, 108, 109, 110, 8] (.draw (.alts (.eff 0 (.take 1 (.split 92 (.take 2 (.take 3 (.take 4 (.split 95 (.hold 5 (.hold 6 (.take 7 (.hold 8 (.alts (.eff 9 (.alts (.eff 10 (.take 11 (.take 12 (.split 103 (.hold 13 (.hold 14 (.take 15 (.hold 16 (.alts (.eff 17 (.alts (.eff 18 (.take 19 (.take 20 .done)) .nil)) .nil)))))) (.take 13 (.take 14 (.take 15 (.take 16 (.take 17 (.take 18 (.take 19 (.take 20 .done))))))))))) .nil)) .nil)))))) (.take 5 (.take 6 (.take 7 (.take 8 (.take 9 (.take 10 (.take 11 (.take 12 (.take 13 (.take 14 (.take 15 (.take 16 (.take 17 (.take 18 (.take 19 (.take 20 .done)))))))))))))))))))) (.take 2 (.take 3 (.take 4 (.take 5 (.take 6 (.take 7 (.take 8 (.take 9 (.take 10 (.take 11 (.take 12 (.take 13 (.take 14 (.take 15 (.take 16 (.take 17 (.take 18 (.take 19 (.take 20 .done))))))))))))))))))))) .nil))) .leaf))))))))))
def vc5 (R : Value → World → Prop) (w : World) (t0 t1 t2 t3 : Value) : Prop :=
 V (bx 28 t0) w fun t4 w =>
 V (ld 28 t4) w fun t23 w =>
 CV (.func (.func 20) #[] #[]) #[t23] w fun t24 w =>
 V (un .not t24) w fun t25 w =>
 ∀ K0 : List Value → World → Prop, (∀ t30, ∀ w, (∀ g : Env,
 CondW t30
 (CV (.func (.func 12) #[] #[]) #[] w fun t31 w =>
 R t31 w)
 (V (al 39) w fun t9 w =>
 V (ld 28 t4) w fun t33 w =>
 CV (.func (.func 21) #[] #[]) #[t33, t1, t2, t3] w fun t37 w =>
 V (ex t37 0) w fun t38 w =>
 V (ex t37 1) w fun t39 w =>
 V (al 28) w fun t10 w =>
 U (st 28 t10 t38) w fun w =>
 V (ld 28 t4) w fun t41 w =>
 CV (.func (.func 22) #[] #[]) #[t41, t1, t3] w fun t44 w =>
 V (ex t44 0) w fun t45 w =>
 V (ex t44 1) w fun t46 w =>
 V (ex t44 2) w fun t47 w =>
 V (al 28) w fun t12 w =>
 V (al 39) w fun t13 w =>
 U (st 28 t12 t45) w fun w =>
 U (st 39 t13 t46) w fun w =>
 V (ld 28 t4) w fun t49 w =>
 CV (.func (.func 18) #[] #[]) #[t49] w fun t50 w =>
 V (ex t50 0) w fun t51 w =>
 V (ex t50 1) w fun t52 w =>
 V (ex t50 2) w fun t53 w =>
 V (al 28) w fun t15 w =>
 V (al 39) w fun t16 w =>
 U (st 28 t15 t51) w fun w =>
 U (st 39 t16 t52) w fun w =>
 V (ld 28 t4) w fun t55 w =>
 CV (.func (.func 23) #[] #[]) #[t55] w fun t56 w =>
 V (ex t56 0) w fun t57 w =>
 V (ex t56 1) w fun t58 w =>
 V (al 28) w fun t18 w =>
 U (st 28 t18 t57) w fun w =>
 V (ld 28 t4) w fun t60 w =>
 CV (.func (.func 19) #[] #[]) #[t60] w fun t61 w =>
 V (ex t61 0) w fun t62 w =>
 V (ex t61 1) w fun t63 w =>
 V (al 28) w fun t20 w =>
 U (st 28 t20 t62) w fun w =>
 ∀ K0 : List Value → World → Prop, (∀ t22, ∀ w, (∀ g : Env,
 ∀ K0 : List Value → World → Prop, (∀ t8, ∀ w, (∀ g : Env,
 R t8 w) → K0 [t8] w) →
 Dr w fun w =>
 CV (.func (.func 12) #[] #[]) #[] w fun t91 w =>
 CondW t91
 (CondW t22
 (HV (ld 28 t18) w fun t96 =>
 HV (ld 39 t9) w fun t97 =>
 HV (ld 28 t4) w fun t99 =>
 CV (.func (.func 28) #[] #[]) #[t99] w fun t100 w =>
 RunIs (ld 39 t9) w t97 ∧ RunIs (ld 28 t18) w t96 ∧ (CV (.func (.func 24) #[] #[]) #[t96, t97, t58, t100] w fun t101 w =>
 CondW t101
 (HV (ld 28 t20) w fun t104 =>
 HV (ld 39 t9) w fun t105 =>
 HV (ld 28 t4) w fun t107 =>
 CV (.func (.func 29) #[] #[]) #[t107] w fun t108 w =>
 RunIs (ld 39 t9) w t105 ∧ RunIs (ld 28 t20) w t104 ∧ (CV (.func (.func 24) #[] #[]) #[t104, t105, t63, t108] w fun t109 w =>
 K0 [t109] w))
 (K0 [(.bool false)] w)))
 (K0 [(.bool false)] w))
 (K0 [(.bool false)] w)) → K0 [t22] w) →
 Dr w fun w =>
 HV (ld 28 t10) w fun t64 =>
 HV (ld 39 t9) w fun t65 =>
 HV (ld 28 t4) w fun t67 =>
 CV (.func (.func 25) #[] #[]) #[t67, t1, t2, t3] w fun t71 w =>
 RunIs (ld 39 t9) w t65 ∧ RunIs (ld 28 t10) w t64 ∧ (CV (.func (.func 24) #[] #[]) #[t64, t65, t39, t71] w fun t72 w =>
 CondW t72
 (HV (ld 28 t12) w fun t74 =>
 HV (ld 39 t13) w fun t75 =>
 HV (ld 28 t4) w fun t77 =>
 CV (.func (.func 26) #[] #[]) #[t77, t1, t3] w fun t80 w =>
 RunIs (ld 39 t13) w t75 ∧ RunIs (ld 28 t12) w t74 ∧ (CV (.func (.func 24) #[] #[]) #[t74, t75, t47, t80] w fun t81 w =>
 CondW t81
 (HV (ld 28 t15) w fun t84 =>
 HV (ld 39 t16) w fun t85 =>
 HV (ld 28 t4) w fun t87 =>
 CV (.func (.func 27) #[] #[]) #[t87] w fun t88 w =>
 RunIs (ld 39 t16) w t85 ∧ RunIs (ld 28 t15) w t84 ∧ (CV (.func (.func 24) #[] #[]) #[t84, t85, t53, t88] w fun t89 w =>
 K0 [t89] w))
 (K0 [(.bool false)] w)))
 (K0 [(.bool false)] w)))) → K0 [t30] w) →
 CondW t25
 (K0 [(.bool true)] w)
 (V (Builtin.len_ #[9] 3 #[t3]) w fun t28 w =>
 V (bi .gtr 3 t28 (.int .i64 1100)) w fun t29 w =>
 K0 [t29] w)
theorem eq5 (R : Value → World → Prop) (w : World) (t0 t1 t2 t3 : Value) : enterW Try.prog Try.f5 an5 [t0, t1, t2, t3] w R = vc5 R w t0 t1 t2 t3 := by kernel_rfl
theorem en5 {R : Value → World → Prop} {w : World} {t0 t1 t2 t3 : Value} (h : vc5 R w t0 t1 t2 t3) : Calls Try.prog 5 #[t0, t1, t2, t3] w (retK R) :=
  calls_of_enter mixed Try.func5 (by kernel_rfl) (by rw [eq5]; exact h)

-- qanat/qanatlaw10.TrapCatches
def an6 : Ann := (.seq (.reg (opn 1 .done)) (.seq (.reg (opn 8 .done)) (.seq (.seq (.reg (opn 3 (.join [32] [21, 22, 23, 24, 25, 26, 27, 28, 29, 30, 31, 32] (.split 20 (opn 12 .done) (opn 12 .done)) .done))) (.cond (.seq (.reg (opn 2 .done)) .leaf) .leaf)) (.seq (.reg (opn 4 .done)) (.seq (.reg (opn 9 .done)) (.seq (.reg (opn 12 .done)) (.seqJ [12] [50, 51, 52, 53, 54, 55, 56, 58, 59, 57, 60, 61, 62, 12] (.seq (.reg (opn 3 (.join [56] [53, 54, 55, 56] (.split 52 (opn 4 .done) (opn 4 .done)) .done))) (.cond (.reg (opn 8 .done)) .leaf)) (.seq (.reg (opn 2 (.join [68] [65, 66, 67, 68] (.split 64 (opn 4 .done) (opn 4 .done)) (opn 1 (.join [73] [70, 71, 72, 73] (.split 69 (opn 4 .done) (opn 4 .done)) (opn 1 .done)))))) .leaf))))))))
def vc6 (R : Value → World → Prop) (w : World) (t0 t1 : Value) : Prop :=
 CV (.func (.func 16) #[] #[]) #[t0] w fun t15 w =>
 V (ex t15 0) w fun t16 w =>
 V (ex t15 1) w fun t17 w =>
 V (al 28) w fun t5 w =>
 U (st 28 t5 t16) w fun w =>
 V (un .not t17) w fun t19 w =>
 ∀ K0 : List Value → World → Prop, (∀ t32, ∀ w, (∀ g : Env,
 CondW t32
 (CV (.func (.func 12) #[] #[]) #[] w fun t33 w =>
 R t33 w)
 (V (cv 5 3 t1) w fun t35 w =>
 V (bi .rem 3 t35 (.int .i64 6)) w fun t36 w =>
 V (ld 28 t5) w fun t38 w =>
 CV (.func (.func 30) #[] #[]) #[t38, t36] w fun t40 w =>
 V (ex t40 0) w fun t41 w =>
 V (ex t40 1) w fun t42 w =>
 V (al 39) w fun t8 w =>
 U (st 39 t8 t41) w fun w =>
 V (ld 28 t5) w fun t44 w =>
 CV (.func (.func 22) #[] #[]) #[t44, t36, (.string ⟨#[]⟩)] w fun t46 w =>
 V (ex t46 0) w fun t47 w =>
 V (ex t46 1) w fun t48 w =>
 V (ex t46 2) w fun t49 w =>
 V (al 28) w fun t10 w =>
 V (al 39) w fun t11 w =>
 U (st 28 t10 t47) w fun w =>
 U (st 39 t11 t48) w fun w =>
 ∀ K0 : List Value → World → Prop, (∀ t12, ∀ w, (∀ g : Env,
 CV (.func (.func 12) #[] #[]) #[] w fun t63 w =>
 ∀ K0 : List Value → World → Prop, (∀ t68, ∀ w, (∀ g : Env,
 ∀ K0 : List Value → World → Prop, (∀ t73, ∀ w, (∀ g : Env,
 R t73 w) → K0 [t73] w) →
 CondW t68
 (V (ld 39 t8) w fun t70 w =>
 V (ld 39 t11) w fun t71 w =>
 V (eq .eql 39 (.tmp 70) (.tmp 71) t70 t71) w fun t72 w =>
 K0 [t72] w)
 (K0 [(.bool false)] w)) → K0 [t68] w) →
 CondW t63
 (V (eq .eql 31 (.tmp 65) (.tmp 66) t42 t12) w fun t67 w =>
 K0 [t67] w)
 (K0 [(.bool false)] w)) → K0 [t12] w) →
 V (eq .eql 31 (.tmp 50) (.const (.int .i64 0)) t49 (.int .i64 0)) w fun t51 w =>
 ∀ K1 : List Value → World → Prop, (∀ t56, ∀ w, (∀ g : Env,
 CondW t56
 (V (ld 28 t10) w fun t58 w =>
 CV (.func (.func 18) #[] #[]) #[t58] w fun t59 w =>
 V (ex t59 0) w fun t60 w =>
 V (ex t59 1) w fun t61 w =>
 V (ex t59 2) w fun t62 w =>
 U (st 39 t11 t61) w fun w =>
 K0 [t62] w)
 (K0 [t49] w)) → K1 [t56] w) →
 CondW t51
 (V (fa 39 t11 0) w fun t53 w =>
 V (ld 3 t53) w fun t54 w =>
 V (eq .eql 3 (.tmp 54) (.const (.int .i64 0)) t54 (.int .i64 0)) w fun t55 w =>
 K1 [t55] w)
 (K1 [(.bool false)] w))) → K0 [t32] w) →
 CondW t19
 (K0 [(.bool true)] w)
 (V (fa 28 t5 0) w fun t21 w =>
 V (ld 26 t21) w fun t22 w =>
 V (fa 28 t5 0) w fun t23 w =>
 V (ld 26 t23) w fun t24 w =>
 V (Builtin.len_ #[26] 3 #[t24]) w fun t25 w =>
 V (bi .sub 3 t25 (.int .i64 1)) w fun t26 w =>
 V (ia 26 t22 t26) w fun t27 w =>
 V (fa 63 t27 1) w fun t28 w =>
 V (ld 59 t28) w fun t29 w =>
 V (Builtin.len_ #[59] 3 #[t29]) w fun t30 w =>
 V (bi .gtr 3 t30 (.int .i64 0)) w fun t31 w =>
 K0 [t31] w)
theorem eq6 (R : Value → World → Prop) (w : World) (t0 t1 : Value) : enterW Try.prog Try.f6 an6 [t0, t1] w R = vc6 R w t0 t1 := by kernel_rfl
theorem en6 {R : Value → World → Prop} {w : World} {t0 t1 : Value} (h : vc6 R w t0 t1) : Calls Try.prog 6 #[t0, t1] w (retK R) :=
  calls_of_enter mixed Try.func6 (by kernel_rfl) (by rw [eq6]; exact h)

-- qanat/qanatlaw10.TrapInOrder
def an7 : Ann := (.seq (.reg (opn 1 .done)) (.seq (.reg (opn 8 .done)) (.seq (.seq (.reg (opn 3 (.join [37] [34, 35, 36, 37] (.split 33 (opn 4 .done) (opn 4 .done)) .done))) (.cond (.seq (.reg (opn 2 .done)) .leaf) .leaf)) (.seq (.reg (opn 5 .done)) (.seq (.seq (.reg (opn 4 .done)) (.cond (.seq (.reg (opn 1 .done)) .leaf) .leaf)) (.seq (.seq (.reg (opn 4 .done)) (.cond (.seq (.reg (opn 2 .done)) .leaf) .leaf)) (.seq (.reg (opn 1 .done)) (.seq (.seq (.reg (opn 8 .done)) (.one (.loop [8, 59] [60, 61, 62, 10, 63, 64, 65, 66, 67, 8, 68, 59] (.seq (.reg (opn 1 .done)) (.seq (.cond .leaf .leaf) (.seq (.one (.seq (.reg (opn 4 .done)) (.reg (opn 6 .done)))) (.reg (opn 2 .done)))))))) (.seq (.reg (opn 8 .done)) (.seq (.seq (.reg (opn 3 .done)) (.one (.loop [8, 78] [79, 80, 81, 13, 82, 83, 84, 85, 86, 14, 87, 88, 89, 90, 91, 92, 93, 94, 95, 96, 97, 98, 99, 100, 101, 102, 103, 104, 106, 107, 108, 105, 109, 110, 111, 15, 16, 17, 112, 113, 114, 115, 116, 117, 118, 119, 120, 121, 122, 123, 124, 125, 126, 127, 128, 129, 130, 131, 132, 133, 134, 135, 136, 4, 137, 138, 139, 140, 141, 8, 142, 78] (.seq (.reg (opn 1 .done)) (.seq (.cond .leaf .leaf) (.seqJ [8] [80, 81, 13, 82, 83, 84, 85, 86, 14, 87, 88, 89, 90, 91, 92, 93, 94, 95, 96, 97, 98, 99, 100, 101, 102, 103, 104, 106, 107, 108, 105, 109, 110, 111, 15, 16, 17, 112, 113, 114, 115, 116, 117, 118, 119, 120, 121, 122, 123, 124, 125, 126, 127, 128, 129, 130, 131, 132, 133, 134, 135, 136, 4, 137, 138, 139, 140, 141, 8] (.one (.seq (.reg (opn 3 .done)) (.seq (.reg (opn 6 .done)) (.seq (.seq (.reg (opn 7 (.join [99] [94, 95, 96, 97, 98, 99] (.split 93 (opn 6 .done) (opn 6 .done)) (opn 1 (.join [104] [101, 102, 103, 104] (.split 100 (opn 4 .done) (opn 4 .done)) .done))))) (.cond .leaf .leaf)) (.seq (.reg (opn 12 .done)) (.seq (.seq (.reg (opn 3 (.join [118] [115, 116, 117, 118] (.split 114 (opn 4 .done) (opn 4 .done)) (opn 1 (.join [125] [120, 121, 122, 123, 124, 125] (.split 119 (opn 6 .done) (opn 6 .done)) (opn 1 (.join [136] [127, 128, 129, 130, 131, 132, 133, 134, 135, 136] (.split 126 (opn 10 .done) (opn 10 .done)) .done))))))) (.cond (.seq (.reg (opn 1 .done)) .leaf) .leaf)) (.draw (.take 0 (.take 1 (.hold 4 (.alts (.eff 2 (.alts (.eff 3 (.take 5 (.alts (.eff 6 .done .nil))) .nil)) .nil)))))))))))) (.reg (opn 2 .done)))))))) (.seq (.seq (.reg (opn 3 .done)) (.one (.loop [145] [146, 147, 148, 19, 149, 150, 151, 152, 153, 154, 155, 156, 157, 158, 159, 160, 161, 163, 164, 162, 165, 166, 167, 20, 21, 22, 168, 169, 170, 171, 172, 173, 174, 175, 176, 177, 178, 179, 180, 181, 182, 183, 184, 185, 4, 186, 187, 188, 189, 190, 191, 192, 193, 194, 195, 196, 197, 198, 199, 200, 201, 202, 203, 204, 205, 206, 208, 209, 207, 210, 211, 212, 213, 214, 145] (.seq (.reg (opn 1 .done)) (.seq (.cond .leaf .leaf) (.seqJ [] [147, 148, 19, 149, 150, 151, 152, 153, 154, 155, 156, 157, 158, 159, 160, 161, 163, 164, 162, 165, 166, 167, 20, 21, 22, 168, 169, 170, 171, 172, 173, 174, 175, 176, 177, 178, 179, 180, 181, 182, 183, 184, 185, 4, 186, 187, 188, 189, 190, 191, 192, 193, 194, 195, 196, 197, 198, 199, 200, 201, 202, 203, 204, 205, 206, 208, 209, 207, 210, 211, 212, 213] (.one (.seq (.reg (opn 3 .done)) (.seq (.seq (.reg (opn 7 (.join [161] [156, 157, 158, 159, 160, 161] (.split 155 (opn 6 .done) (opn 6 .done)) .done))) (.cond .leaf .leaf)) (.seq (.reg (opn 11 .done)) (.seq (.seqJ [185] [168, 169, 170, 171, 172, 173, 174, 175, 176, 177, 178, 179, 180, 181, 182, 183, 184, 185] (.draw (.take 0 (.take 1 (.take 2 (.split 170 (.take 3 (.take 4 (.take 5 (.take 6 (.take 7 (.take 8 (.take 9 (.take 10 (.take 11 (.take 12 (.take 13 (.take 14 (.take 15 (.take 16 (.take 17 .done))))))))))))))) (.take 3 (.hold 4 (.take 5 (.take 6 (.take 7 (.take 8 (.split 176 (.take 9 (.take 10 (.take 11 (.take 12 (.take 13 (.take 14 (.take 15 (.take 16 (.take 17 .done))))))))) (.take 9 (.hold 10 (.take 11 (.take 12 (.take 13 (.take 14 (.hold 15 (.take 16 (.take 17 .done))))))))))))))))))))) (.cond (.seq (.reg (opn 1 .done)) .leaf) .leaf)) (.seq (.seq (.reg (opn 3 .done)) (.cond (.seq (.reg (opn 5 .done)) (.seq (.reg (opn 2 (.join [203] [195, 196, 197, 198, 199, 200, 201, 202, 203] (.split 194 (opn 9 .done) (opn 9 .done)) (opn 1 .done)))) .leaf)) .leaf)) (.seq (.seq (.reg (opn 3 .done)) (.cond (.seq (.reg (opn 1 .done)) .leaf) .leaf)) (.seq (.reg (opn 7 .done)) (.seq (.reg (opn 2 .done)) (.cond (.seq (.reg (opn 1 .done)) .leaf) .leaf)))))))))) (.reg (opn 2 .done)))))))) (.seq (.reg (opn 11 .done)) (.seq (.reg (opn 2 (.join [225] [223, 224, 225] (.split 222 (opn 3 .done) (opn 3 .done)) (opn 1 (.join [230] [227, 228, 229, 230] (.split 226 (opn 4 .done) (opn 4 .done)) (opn 1 .done)))))) .leaf)))))))))))))
def vc7 (R : Value → World → Prop) (w : World) (t0 t1 : Value) : Prop :=
 CV (.func (.func 16) #[] #[]) #[t0] w fun t28 w =>
 V (ex t28 0) w fun t29 w =>
 V (ex t28 1) w fun t30 w =>
 V (al 28) w fun t5 w =>
 U (st 28 t5 t29) w fun w =>
 V (un .not t30) w fun t32 w =>
 ∀ K0 : List Value → World → Prop, (∀ t37, ∀ w, (∀ g : Env,
 CondW t37
 (CV (.func (.func 12) #[] #[]) #[] w fun t38 w =>
 R t38 w)
 (V (fa 28 t5 0) w fun t39 w =>
 V (ld 26 t39) w fun t40 w =>
 V (Builtin.len_ #[26] 3 #[t40]) w fun t41 w =>
 V (bi .sub 3 t41 (.int .i64 1)) w fun t42 w =>
 V (fa 28 t5 0) w fun t43 w =>
 V (ld 26 t43) w fun t44 w =>
 V (Builtin.len_ #[26] 3 #[t44]) w fun t45 w =>
 V (eq .eql 3 (.tmp 45) (.const (.int .i64 0)) t45 (.int .i64 0)) w fun t46 w =>
 CondW t46
 (R (.bool false) w)
 (V (fa 28 t5 0) w fun t47 w =>
 V (ld 26 t47) w fun t48 w =>
 V (Builtin.len_ #[26] 3 #[t48]) w fun t49 w =>
 V (eq .eql 3 (.tmp 49) (.const (.int .i64 30)) t49 (.int .i64 30)) w fun t50 w =>
 CondW t50
 (CV (.func (.func 12) #[] #[]) #[] w fun t51 w =>
 R t51 w)
 (V (fa 28 t5 0) w fun t52 w =>
 V (ld 26 t52) w fun t53 w =>
 V (ia 26 t53 t42) w fun t55 w =>
 V (fa 63 t55 1) w fun t56 w =>
 V (ld 59 t56) w fun t57 w =>
 V (Builtin.len_ #[59] 3 #[t57]) w fun t58 w =>
 ∃ (I0 : List Value → World → Prop) (M0 : List Value → World → Nat), I0 [(.slice none 0 0), (.int .i64 0)] w ∧ ∀ g : Env, ∀ t8, ∀ t59, ∀ w, I0 [t8, t59] w → ∀ m0, m0 = M0 [t8, t59] w →
 V (bi .lss 3 t59 t58) w fun t60 w =>
 CondW t60
 (V (ia 59 t57 t59) w fun t61 w =>
 V (ld 70 t61) w fun t62 w =>
 V (al 70) w fun t10 w =>
 U (st 70 t10 t62) w fun w =>
 V (fa 70 t10 0) w fun t64 w =>
 V (ld 3 t64) w fun t65 w =>
 V (bs 68 1 #[(0, t65)]) w fun t66 w =>
 V (Builtin.append_ #[68, 68] 68 #[t8, t66]) w fun t67 w =>
 V (bi .add 3 t59 (.int .i64 1)) w fun t68 w =>
 I0 [t67, t68] w ∧ M0 [t67, t68] w < m0)
 (V (fa 28 t5 0) w fun t69 w =>
 V (ld 26 t69) w fun t70 w =>
 V (ia 26 t70 t42) w fun t72 w =>
 V (fa 63 t72 0) w fun t73 w =>
 V (ld 58 t73) w fun t74 w =>
 CV (.func (.func 31) #[] #[]) #[t74] w fun t75 w =>
 V (Builtin.len_ #[67] 3 #[t1]) w fun t77 w =>
 ∃ (I1 : List Value → World → Prop) (M1 : List Value → World → Nat), I1 [t8, (.int .i64 0)] w ∧ ∀ g : Env, ∀ t8a, ∀ t78, ∀ w, I1 [t8a, t78] w → ∀ m1, m1 = M1 [t8a, t78] w →
 V (bi .lss 3 t78 t77) w fun t79 w =>
 CondW t79
 (∀ K0 : List Value → World → Prop, (∀ t8b, ∀ w, (∀ g : Env,
 V (bi .add 3 t78 (.int .i64 1)) w fun t142 w =>
 I1 [t8b, t142] w ∧ M1 [t8b, t142] w < m1) → K0 [t8b] w) →
 V (ia 67 t1 t78) w fun t80 w =>
 V (ld 5 t80) w fun t81 w =>
 V (bs 68 4 #[(0, (.int .i64 0)), (1, (.int .i64 1)), (2, (.int .i64 2)), (3, (.int .i64 4))]) w fun t82 w =>
 V (bi .rem 5 t81 (.int .u8 4)) w fun t84 w =>
 V (ia 68 t82 t84) w fun t85 w =>
 V (ld 3 t85) w fun t86 w =>
 V (ia 58 t75 t86) w fun t89 w =>
 V (fa 73 t89 0) w fun t90 w =>
 V (ld 3 t90) w fun t91 w =>
 V (eq .eql 3 (.tmp 91) (.const (.int .i64 0)) t91 (.int .i64 0)) w fun t92 w =>
 ∀ K1 : List Value → World → Prop, (∀ t99, ∀ w, (∀ g : Env,
 ∀ K1 : List Value → World → Prop, (∀ t104, ∀ w, (∀ g : Env,
 CondW t104
 (K0 [t8a] w)
 (V (ld 28 t5) w fun t106 w =>
 CV (.func (.func 22) #[] #[]) #[t106, t86, (.string ⟨#[120]⟩)] w fun t108 w =>
 V (ex t108 0) w fun t109 w =>
 V (ex t108 1) w fun t110 w =>
 V (ex t108 2) w fun t111 w =>
 V (al 28) w fun t15 w =>
 V (al 39) w fun t16 w =>
 U (st 28 t15 t109) w fun w =>
 U (st 39 t16 t110) w fun w =>
 V (eq .neq 31 (.tmp 112) (.const (.int .i64 0)) t111 (.int .i64 0)) w fun t113 w =>
 ∀ K1 : List Value → World → Prop, (∀ t118, ∀ w, (∀ g : Env,
 ∀ K1 : List Value → World → Prop, (∀ t125, ∀ w, (∀ g : Env,
 ∀ K1 : List Value → World → Prop, (∀ t136, ∀ w, (∀ g : Env,
 CondW t136
 (R (.bool false) w)
 (Dr w fun w =>
 HV (ld 28 t15) w fun t141 =>
 V (bs 68 1 #[(0, t86)]) w fun t139 w =>
 RunIs (ld 28 t15) w t141 ∧ (V (Builtin.append_ #[68, 68] 68 #[t8a, t139]) w fun t140 w =>
 RunIs (ld 28 t15) w t141 ∧ (U (st 28 t5 t141) w fun w =>
 K0 [t140] w)))) → K1 [t136] w) →
 CondW t125
 (K1 [(.bool true)] w)
 (V (fa 28 t15 0) w fun t127 w =>
 V (ld 26 t127) w fun t128 w =>
 V (ia 26 t128 t42) w fun t130 w =>
 V (fa 63 t130 0) w fun t131 w =>
 V (ld 58 t131) w fun t132 w =>
 CV (.func (.func 33) #[] #[]) #[t132, t75] w fun t134 w =>
 V (un .not t134) w fun t135 w =>
 K1 [t135] w)) → K1 [t125] w) →
 CondW t118
 (K1 [(.bool true)] w)
 (V (fa 28 t15 0) w fun t120 w =>
 V (ld 26 t120) w fun t121 w =>
 V (Builtin.len_ #[26] 3 #[t121]) w fun t122 w =>
 V (bi .leq 3 t122 t42) w fun t124 w =>
 K1 [t124] w)) → K1 [t118] w) →
 CondW t113
 (K1 [(.bool true)] w)
 (V (fa 39 t16 0) w fun t115 w =>
 V (ld 3 t115) w fun t116 w =>
 V (eq .neq 3 (.tmp 116) (.const (.int .i64 0)) t116 (.int .i64 0)) w fun t117 w =>
 K1 [t117] w))) → K1 [t104] w) →
 CondW t99
 (K1 [(.bool true)] w)
 (CV (.func (.func 32) #[] #[]) #[t8a, t86] w fun t103 w =>
 K1 [t103] w)) → K1 [t99] w) →
 CondW t92
 (K1 [(.bool true)] w)
 (V (ia 58 t75 t86) w fun t96 w =>
 V (fa 73 t96 2) w fun t97 w =>
 V (ld 4 t97) w fun t98 w =>
 K1 [t98] w))
 (V (Builtin.len_ #[68] 3 #[t8a]) w fun t144 w =>
 ∃ (I2 : List Value → World → Prop) (M2 : List Value → World → Nat), I2 [(.int .i64 0)] w ∧ ∀ g : Env, ∀ t145, ∀ w, I2 [t145] w → ∀ m2, m2 = M2 [t145] w →
 V (bi .lss 3 t145 t144) w fun t146 w =>
 CondW t146
 (∀ K0 : List Value → World → Prop, (∀ w, (∀ g : Env,
 V (bi .add 3 t145 (.int .i64 1)) w fun t214 w =>
 I2 [t214] w ∧ M2 [t214] w < m2) → K0 [] w) →
 V (ia 68 t8a t145) w fun t147 w =>
 V (ld 3 t147) w fun t148 w =>
 V (ia 58 t75 t148) w fun t151 w =>
 V (fa 73 t151 0) w fun t152 w =>
 V (ld 3 t152) w fun t153 w =>
 V (eq .eql 3 (.tmp 153) (.const (.int .i64 0)) t153 (.int .i64 0)) w fun t154 w =>
 ∀ K1 : List Value → World → Prop, (∀ t161, ∀ w, (∀ g : Env,
 CondW t161
 (K0 [] w)
 (V (ld 28 t5) w fun t163 w =>
 CV (.func (.func 18) #[] #[]) #[t163] w fun t164 w =>
 V (ex t164 0) w fun t165 w =>
 V (ex t164 1) w fun t166 w =>
 V (ex t164 2) w fun t167 w =>
 V (al 28) w fun t20 w =>
 V (al 39) w fun t21 w =>
 U (st 28 t20 t165) w fun w =>
 U (st 39 t21 t166) w fun w =>
 ∀ K1 : List Value → World → Prop, (∀ t185, ∀ w, (∀ g : Env,
 CondW t185
 (R (.bool false) w)
 (V (fa 39 t21 0) w fun t186 w =>
 V (ld 3 t186) w fun t187 w =>
 V (eq .eql 3 (.tmp 187) (.const (.int .i64 1)) t187 (.int .i64 1)) w fun t188 w =>
 CondW t188
 (V (bd 73 #[]) w fun t191 w =>
 V (ia 58 t75 t148) w fun t192 w =>
 U (st 73 t192 t191) w fun w =>
 CV (.func (.func 12) #[] #[]) #[] w fun t193 w =>
 ∀ K1 : List Value → World → Prop, (∀ t203, ∀ w, (∀ g : Env,
 R t203 w) → K1 [t203] w) →
 CondW t193
 (V (fa 28 t20 0) w fun t195 w =>
 V (ld 26 t195) w fun t196 w =>
 V (ia 26 t196 t42) w fun t198 w =>
 V (fa 63 t198 0) w fun t199 w =>
 V (ld 58 t199) w fun t200 w =>
 CV (.func (.func 33) #[] #[]) #[t200, t75] w fun t202 w =>
 K1 [t202] w)
 (K1 [(.bool false)] w))
 (V (fa 39 t21 0) w fun t204 w =>
 V (ld 3 t204) w fun t205 w =>
 V (eq .neq 3 (.tmp 205) (.const (.int .i64 2)) t205 (.int .i64 2)) w fun t206 w =>
 CondW t206
 (R (.bool false) w)
 (V (ld 28 t20) w fun t208 w =>
 CV (.func (.func 19) #[] #[]) #[t208] w fun t209 w =>
 V (ex t209 0) w fun t210 w =>
 V (ex t209 1) w fun t211 w =>
 U (st 28 t5 t210) w fun w =>
 V (eq .neq 31 (.tmp 212) (.const (.int .i64 0)) t211 (.int .i64 0)) w fun t213 w =>
 CondW t213
 (R (.bool false) w)
 (K0 [] w))))) → K1 [t185] w) →
 Dr w fun w =>
 PV (eq .neq 31 (.tmp 168) (.const (.int .i64 0)) t167 (.int .i64 0)) fun t169 =>
 CondW t169
 (K1 [(.bool true)] w)
 (PV (fa 39 t21 2) fun t171 =>
 HV (ld 3 t171) w fun t172 =>
 PV (eq .neq 3 (.tmp 172) (.tmp 173) t172 t148) fun t174 =>
 CondW t174
 (K1 [(.bool true)] w)
 (PV (fa 39 t21 1) fun t177 =>
 HV (ld 9 t177) w fun t178 =>
 PV (ia 58 t75 t148) fun t181 =>
 PV (fa 73 t181 1) fun t182 =>
 HV (ld 9 t182) w fun t183 =>
 PV (eq .neq 9 (.tmp 178) (.tmp 183) t178 t183) fun t184 =>
 K1 [t184] w)))) → K1 [t161] w) →
 CondW t154
 (K1 [(.bool true)] w)
 (V (ia 58 t75 t148) w fun t158 w =>
 V (fa 73 t158 2) w fun t159 w =>
 V (ld 4 t159) w fun t160 w =>
 K1 [t160] w))
 (V (ld 28 t5) w fun t216 w =>
 CV (.func (.func 18) #[] #[]) #[t216] w fun t217 w =>
 V (ex t217 0) w fun t218 w =>
 V (ex t217 1) w fun t219 w =>
 V (ex t217 2) w fun t220 w =>
 V (al 28) w fun t23 w =>
 V (al 39) w fun t24 w =>
 U (st 28 t23 t218) w fun w =>
 U (st 39 t24 t219) w fun w =>
 CV (.func (.func 12) #[] #[]) #[] w fun t221 w =>
 ∀ K0 : List Value → World → Prop, (∀ t225, ∀ w, (∀ g : Env,
 ∀ K0 : List Value → World → Prop, (∀ t230, ∀ w, (∀ g : Env,
 R t230 w) → K0 [t230] w) →
 CondW t225
 (V (fa 39 t24 0) w fun t227 w =>
 V (ld 3 t227) w fun t228 w =>
 V (eq .eql 3 (.tmp 228) (.const (.int .i64 0)) t228 (.int .i64 0)) w fun t229 w =>
 K0 [t229] w)
 (K0 [(.bool false)] w)) → K0 [t225] w) →
 CondW t221
 (V (eq .eql 31 (.tmp 223) (.const (.int .i64 0)) t220 (.int .i64 0)) w fun t224 w =>
 K0 [t224] w)
 (K0 [(.bool false)] w)))))))) → K0 [t37] w) →
 CondW t32
 (K0 [(.bool true)] w)
 (V (Builtin.len_ #[67] 3 #[t1]) w fun t35 w =>
 V (bi .gtr 3 t35 (.int .i64 10)) w fun t36 w =>
 K0 [t36] w)
theorem eq7 (R : Value → World → Prop) (w : World) (t0 t1 : Value) : enterW Try.prog Try.f7 an7 [t0, t1] w R = vc7 R w t0 t1 := by kernel_rfl
theorem en7 {R : Value → World → Prop} {w : World} {t0 t1 : Value} (h : vc7 R w t0 t1) : Calls Try.prog 7 #[t0, t1] w (retK R) :=
  calls_of_enter mixed Try.func7 (by kernel_rfl) (by rw [eq7]; exact h)

-- qanat/qanatlaw10.TrapDelays
def an8 : Ann := (.seq (.reg (opn 1 .done)) (.seq (.reg (opn 8 .done)) (.seq (.seq (.reg (opn 3 (.join [34] [31, 32, 33, 34] (.split 30 (opn 4 .done) (opn 4 .done)) .done))) (.cond (.seq (.reg (opn 2 .done)) .leaf) .leaf)) (.seq (.reg (opn 11 .done)) (.seq (.seq (.reg (opn 3 (.join [48] [45, 46, 47, 48] (.split 44 (opn 4 .done) (opn 4 .done)) .done))) (.cond (.seq (.reg (opn 2 .done)) .leaf) .leaf)) (.seq (.reg (opn 14 .done)) (.seq (.seq (.reg (opn 2 .done)) (.cond (.seq (.reg (opn 2 .done)) .leaf) .leaf)) (.seq (.reg (opn 7 .done)) (.seq (.reg (opn 7 .done)) (.seq (.seq (.reg (opn 3 (.join [78] [75, 76, 77, 78] (.split 74 (opn 4 .done) (opn 4 .done)) (opn 1 (.join [84] [80, 81, 82, 83, 84] (.split 79 (opn 5 .done) (opn 5 .done)) (opn 1 (.join [88] [86, 87, 88] (.split 85 (opn 3 .done) (opn 3 .done)) (opn 1 (.join [92] [90, 91, 92] (.split 89 (opn 3 .done) (opn 3 .done)) (opn 1 (.join [96] [94, 95, 96] (.split 93 (opn 3 .done) (opn 3 .done)) (opn 1 (.join [102] [98, 99, 100, 101, 102] (.split 97 (opn 5 .done) (opn 5 .done)) .done))))))))))))) (.cond (.seq (.reg (opn 1 .done)) .leaf) .leaf)) (.seq (.reg (opn 8 .done)) (.seq (.seq (.reg (opn 3 (.join [118] [111, 112, 113, 114, 115, 116, 117, 118] (.split 110 (opn 8 .done) (opn 8 .done)) .done))) (.cond (.seq (.reg (opn 1 .done)) .leaf) .leaf)) (.seq (.reg (opn 5 .done)) (.seq (.reg (opn 14 .done)) (.seqJ [4] [132, 133, 134, 135, 136, 137, 138, 139, 140, 141, 142, 143, 144, 145, 146, 147, 148, 149, 150, 151, 152, 153, 154, 155, 156, 157, 158, 159, 160, 161, 162, 163, 164, 165, 166, 167, 168, 169, 4] (.draw (.alts (.eff 0 (.take 1 (.split 133 (.take 2 (.take 3 (.take 4 (.take 5 (.split 137 (.take 6 (.hold 7 (.take 8 (.take 9 (.take 10 (.hold 11 (.take 12 (.hold 13 (.take 14 (.take 15 (.take 16 (.hold 17 (.alts (.eff 18 (.take 19 (.take 20 (.split 152 (.take 21 (.hold 22 (.take 23 (.take 24 (.take 25 (.hold 26 (.take 27 (.take 28 (.hold 29 (.take 30 (.take 31 (.take 32 (.hold 33 (.take 34 (.take 35 (.take 36 (.take 37 (.take 38 .done)))))))))))))))))) (.take 21 (.take 22 (.take 23 (.take 24 (.take 25 (.take 26 (.take 27 (.take 28 (.take 29 (.take 30 (.take 31 (.take 32 (.take 33 (.take 34 (.take 35 (.take 36 (.take 37 (.take 38 .done))))))))))))))))))))) .nil)))))))))))))) (.take 6 (.take 7 (.take 8 (.take 9 (.take 10 (.take 11 (.take 12 (.take 13 (.take 14 (.take 15 (.take 16 (.take 17 (.take 18 (.take 19 (.take 20 (.take 21 (.take 22 (.take 23 (.take 24 (.take 25 (.take 26 (.take 27 (.take 28 (.take 29 (.take 30 (.take 31 (.take 32 (.take 33 (.take 34 (.take 35 (.take 36 (.take 37 (.take 38 .done)))))))))))))))))))))))))))))))))))))) (.take 2 (.take 3 (.take 4 (.take 5 (.take 6 (.take 7 (.take 8 (.take 9 (.take 10 (.take 11 (.take 12 (.take 13 (.take 14 (.take 15 (.take 16 (.take 17 (.take 18 (.take 19 (.take 20 (.take 21 (.take 22 (.take 23 (.take 24 (.take 25 (.take 26 (.take 27 (.take 28 (.take 29 (.take 30 (.take 31 (.take 32 (.take 33 (.take 34 (.take 35 (.take 36 (.take 37 (.take 38 .done))))))))))))))))))))))))))))))))))))))) .nil))) .leaf)))))))))))))))
def vc8 (R : Value → World → Prop) (w : World) (t0 t1 : Value) : Prop :=
 CV (.func (.func 16) #[] #[]) #[t0] w fun t25 w =>
 V (ex t25 0) w fun t26 w =>
 V (ex t25 1) w fun t27 w =>
 V (al 28) w fun t5 w =>
 U (st 28 t5 t26) w fun w =>
 V (un .not t27) w fun t29 w =>
 ∀ K0 : List Value → World → Prop, (∀ t34, ∀ w, (∀ g : Env,
 CondW t34
 (CV (.func (.func 12) #[] #[]) #[] w fun t35 w =>
 R t35 w)
 (V (ld 28 t5) w fun t37 w =>
 CV (.func (.func 18) #[] #[]) #[t37] w fun t38 w =>
 V (ex t38 0) w fun t39 w =>
 V (ex t38 1) w fun t40 w =>
 V (ex t38 2) w fun t41 w =>
 V (al 28) w fun t7 w =>
 V (al 39) w fun t8 w =>
 U (st 28 t7 t39) w fun w =>
 U (st 39 t8 t40) w fun w =>
 V (eq .neq 31 (.tmp 42) (.const (.int .i64 0)) t41 (.int .i64 0)) w fun t43 w =>
 ∀ K0 : List Value → World → Prop, (∀ t48, ∀ w, (∀ g : Env,
 CondW t48
 (CV (.func (.func 12) #[] #[]) #[] w fun t49 w =>
 R t49 w)
 (V (ld 28 t7) w fun t51 w =>
 V (fa 39 t8 2) w fun t52 w =>
 V (ld 3 t52) w fun t53 w =>
 CV (.func (.func 22) #[] #[]) #[t51, t53, t1] w fun t55 w =>
 V (ex t55 0) w fun t56 w =>
 V (ex t55 1) w fun t57 w =>
 V (ex t55 2) w fun t58 w =>
 V (al 28) w fun t10 w =>
 V (al 39) w fun t11 w =>
 U (st 28 t10 t56) w fun w =>
 U (st 39 t11 t57) w fun w =>
 V (eq .eql 31 (.tmp 59) (.const (.int .i64 1)) t58 (.int .i64 1)) w fun t60 w =>
 CondW t60
 (CV (.func (.func 12) #[] #[]) #[] w fun t61 w =>
 R t61 w)
 (V (ld 28 t7) w fun t63 w =>
 CV (.func (.func 34) #[] #[]) #[t63, (.int .u8 83)] w fun t64 w =>
 V (ex t64 0) w fun t65 w =>
 V (ex t64 1) w fun t66 w =>
 V (ld 28 t7) w fun t68 w =>
 CV (.func (.func 34) #[] #[]) #[t68, (.int .u8 68)] w fun t69 w =>
 V (ex t69 0) w fun t70 w =>
 V (ex t69 1) w fun t71 w =>
 V (eq .neq 31 (.tmp 72) (.const (.int .i64 0)) t58 (.int .i64 0)) w fun t73 w =>
 ∀ K0 : List Value → World → Prop, (∀ t78, ∀ w, (∀ g : Env,
 ∀ K0 : List Value → World → Prop, (∀ t84, ∀ w, (∀ g : Env,
 ∀ K0 : List Value → World → Prop, (∀ t88, ∀ w, (∀ g : Env,
 ∀ K0 : List Value → World → Prop, (∀ t92, ∀ w, (∀ g : Env,
 ∀ K0 : List Value → World → Prop, (∀ t96, ∀ w, (∀ g : Env,
 ∀ K0 : List Value → World → Prop, (∀ t102, ∀ w, (∀ g : Env,
 CondW t102
 (R (.bool false) w)
 (V (ld 28 t7) w fun t104 w =>
 CV (.func (.func 19) #[] #[]) #[t104] w fun t105 w =>
 V (ex t105 0) w fun t106 w =>
 V (ex t105 1) w fun t107 w =>
 V (al 28) w fun t17 w =>
 U (st 28 t17 t106) w fun w =>
 V (eq .neq 31 (.tmp 108) (.const (.int .i64 0)) t107 (.int .i64 0)) w fun t109 w =>
 ∀ K0 : List Value → World → Prop, (∀ t118, ∀ w, (∀ g : Env,
 CondW t118
 (R (.bool false) w)
 (V (fa 28 t5 0) w fun t119 w =>
 V (ld 26 t119) w fun t120 w =>
 V (Builtin.len_ #[26] 3 #[t120]) w fun t121 w =>
 V (bi .sub 3 t121 (.int .i64 1)) w fun t122 w =>
 V (ld 28 t17) w fun t124 w =>
 V (fa 39 t8 2) w fun t125 w =>
 V (ld 3 t125) w fun t126 w =>
 CV (.func (.func 22) #[] #[]) #[t124, t126, t1] w fun t128 w =>
 V (ex t128 0) w fun t129 w =>
 V (ex t128 1) w fun t130 w =>
 V (ex t128 2) w fun t131 w =>
 V (al 28) w fun t20 w =>
 V (al 39) w fun t21 w =>
 U (st 28 t20 t129) w fun w =>
 U (st 39 t21 t130) w fun w =>
 ∀ K0 : List Value → World → Prop, (∀ t4, ∀ w, (∀ g : Env,
 R t4 w) → K0 [t4] w) →
 Dr w fun w =>
 CV (.func (.func 12) #[] #[]) #[] w fun t132 w =>
 CondW t132
 (PV (eq .eql 31 (.tmp 134) (.const (.int .i64 0)) t131 (.int .i64 0)) fun t135 =>
 CondW t135
 (PV (fa 28 t17 0) fun t138 =>
 HV (ld 26 t138) w fun t139 =>
 PV (ia 26 t139 t122) fun t141 =>
 PV (fa 63 t141 0) fun t142 =>
 HV (ld 58 t142) w fun t143 =>
 PV (fa 28 t5 0) fun t144 =>
 HV (ld 26 t144) w fun t145 =>
 PV (ia 26 t145 t122) fun t147 =>
 PV (fa 63 t147 0) fun t148 =>
 HV (ld 58 t148) w fun t149 =>
 CV (.func (.func 33) #[] #[]) #[t143, t149] w fun t150 w =>
 RunIs (ld 26 t144) w t145 ∧ RunIs (ld 26 t138) w t139 ∧ (CondW t150
 (PV (fa 28 t20 0) fun t153 =>
 HV (ld 26 t153) w fun t154 =>
 PV (ia 26 t154 t122) fun t156 =>
 PV (fa 63 t156 1) fun t157 =>
 HV (ld 59 t157) w fun t158 =>
 PV (Builtin.len_ #[59] 3 #[t158]) fun t159 =>
 PV (fa 28 t17 0) fun t160 =>
 HV (ld 26 t160) w fun t161 =>
 PV (ia 26 t161 t122) fun t163 =>
 PV (fa 63 t163 1) fun t164 =>
 HV (ld 59 t164) w fun t165 =>
 PV (Builtin.len_ #[59] 3 #[t165]) fun t166 =>
 PV (bi .add 3 t166 (.int .i64 1)) fun t167 =>
 PV (eq .eql 3 (.tmp 159) (.tmp 167) t159 t167) fun t168 =>
 K0 [t168] w)
 (K0 [(.bool false)] w)))
 (K0 [(.bool false)] w))
 (K0 [(.bool false)] w))) → K0 [t118] w) →
 CondW t109
 (K0 [(.bool true)] w)
 (V (fa 28 t17 0) w fun t111 w =>
 V (ld 26 t111) w fun t112 w =>
 V (Builtin.len_ #[26] 3 #[t112]) w fun t113 w =>
 V (fa 28 t5 0) w fun t114 w =>
 V (ld 26 t114) w fun t115 w =>
 V (Builtin.len_ #[26] 3 #[t115]) w fun t116 w =>
 V (eq .neq 3 (.tmp 113) (.tmp 116) t113 t116) w fun t117 w =>
 K0 [t117] w))) → K0 [t102] w) →
 CondW t96
 (K0 [(.bool true)] w)
 (V (fa 39 t8 3) w fun t99 w =>
 V (ld 9 t99) w fun t100 w =>
 V (eq .neq 9 (.tmp 98) (.tmp 100) t70 t100) w fun t101 w =>
 K0 [t101] w)) → K0 [t96] w) →
 CondW t92
 (K0 [(.bool true)] w)
 (V (eq .neq 31 (.tmp 94) (.const (.int .i64 0)) t71 (.int .i64 0)) w fun t95 w =>
 K0 [t95] w)) → K0 [t92] w) →
 CondW t88
 (K0 [(.bool true)] w)
 (V (eq .neq 9 (.tmp 90) (.const (.string ⟨#[68, 69, 76, 65, 89]⟩)) t65 (.string ⟨#[68, 69, 76, 65, 89]⟩)) w fun t91 w =>
 K0 [t91] w)) → K0 [t88] w) →
 CondW t84
 (K0 [(.bool true)] w)
 (V (eq .neq 31 (.tmp 86) (.const (.int .i64 0)) t66 (.int .i64 0)) w fun t87 w =>
 K0 [t87] w)) → K0 [t84] w) →
 CondW t78
 (K0 [(.bool true)] w)
 (V (ld 28 t7) w fun t80 w =>
 V (ld 28 t10) w fun t81 w =>
 CV (.func (.func 35) #[] #[]) #[t80, t81] w fun t82 w =>
 V (un .not t82) w fun t83 w =>
 K0 [t83] w)) → K0 [t78] w) →
 CondW t73
 (K0 [(.bool true)] w)
 (V (fa 39 t11 0) w fun t75 w =>
 V (ld 3 t75) w fun t76 w =>
 V (eq .neq 3 (.tmp 76) (.const (.int .i64 0)) t76 (.int .i64 0)) w fun t77 w =>
 K0 [t77] w)))) → K0 [t48] w) →
 CondW t43
 (K0 [(.bool true)] w)
 (V (fa 39 t8 0) w fun t45 w =>
 V (ld 3 t45) w fun t46 w =>
 V (eq .neq 3 (.tmp 46) (.const (.int .i64 2)) t46 (.int .i64 2)) w fun t47 w =>
 K0 [t47] w))) → K0 [t34] w) →
 CondW t29
 (K0 [(.bool true)] w)
 (V (Builtin.len_ #[9] 3 #[t1]) w fun t32 w =>
 V (bi .gtr 3 t32 (.int .i64 1000)) w fun t33 w =>
 K0 [t33] w)
theorem eq8 (R : Value → World → Prop) (w : World) (t0 t1 : Value) : enterW Try.prog Try.f8 an8 [t0, t1] w R = vc8 R w t0 t1 := by kernel_rfl
theorem en8 {R : Value → World → Prop} {w : World} {t0 t1 : Value} (h : vc8 R w t0 t1) : Calls Try.prog 8 #[t0, t1] w (retK R) :=
  calls_of_enter mixed Try.func8 (by kernel_rfl) (by rw [eq8]; exact h)

-- qanat/qanatlaw10.TrapSignals
def an9 : Ann := (.seq (.reg (opn 1 .done)) (.seq (.reg (opn 8 .done)) (.seq (.seq (.reg (opn 3 (.join [38] [35, 36, 37, 38] (.split 34 (opn 4 .done) (opn 4 .done)) .done))) (.cond (.seq (.reg (opn 2 .done)) .leaf) .leaf)) (.seq (.reg (opn 4 .done)) (.seq (.reg (opn 13 .done)) (.seqJ [14] [51, 53, 54, 52, 55, 56, 57, 14] (.seq (.reg (opn 1 .done)) (.cond (.reg (opn 9 .done)) .leaf)) (.seq (.seq (.reg (opn 3 (.join [64] [61, 62, 63, 64] (.split 60 (opn 4 .done) (opn 4 .done)) .done))) (.cond (.seq (.reg (opn 2 .done)) .leaf) .leaf)) (.seq (.reg (opn 5 .done)) (.seq (.reg (opn 7 .done)) (.seq (.reg (opn 8 .done)) (.seq (.reg (opn 7 .done)) (.seq (.reg (opn 7 .done)) (.seq (.seq (.reg (opn 8 (.join [107] [99, 100, 101, 102, 103, 104, 105, 106, 107] (.split 98 (opn 9 .done) (opn 9 .done)) (opn 1 (.join [113] [109, 110, 111, 112, 113] (.split 108 (opn 5 .done) (opn 5 .done)) (opn 1 (.join [117] [115, 116, 117] (.split 114 (opn 3 .done) (opn 3 .done)) (opn 1 (.join [121] [119, 120, 121] (.split 118 (opn 3 .done) (opn 3 .done)) (opn 1 (.join [126] [123, 124, 125, 126] (.split 122 (opn 4 .done) (opn 4 .done)) (opn 1 (.join [130] [128, 129, 130] (.split 127 (opn 3 .done) (opn 3 .done)) (opn 1 (.join [134] [132, 133, 134] (.split 131 (opn 3 .done) (opn 3 .done)) .done))))))))))))))) (.cond (.seq (.reg (opn 1 .done)) .leaf) .leaf)) (.seq (.seq (.reg (opn 3 .done)) (.cond (.seq (.reg (opn 2 .done)) .leaf) .leaf)) (.seq (.reg (opn 15 .done)) (.seq (.reg (opn 1 .done)) (.seqJ [26] [149, 150, 151, 152, 153, 154, 155, 156, 26] (.seq (.reg (opn 4 (.join [156] [153, 154, 155, 156] (.split 152 (opn 4 .done) (opn 4 .done)) .done))) (.cond (.reg (opn 1 .done)) .leaf)) (.seq (.reg (opn 2 (.join [161] [159, 160, 161] (.split 158 (opn 3 .done) (opn 3 .done)) (opn 1 (.join [167] [163, 164, 165, 166, 167] (.split 162 (opn 5 .done) (opn 5 .done)) (opn 1 (.join [172] [169, 170, 171, 172] (.split 168 (opn 4 .done) (opn 4 .done)) (opn 1 .done)))))))) .leaf))))))))))))))))))
def vc9 (R : Value → World → Prop) (w : World) (t0 t1 t2 t3 : Value) : Prop :=
 CV (.func (.func 16) #[] #[]) #[t0] w fun t29 w =>
 V (ex t29 0) w fun t30 w =>
 V (ex t29 1) w fun t31 w =>
 V (al 28) w fun t9 w =>
 U (st 28 t9 t30) w fun w =>
 V (un .not t31) w fun t33 w =>
 ∀ K0 : List Value → World → Prop, (∀ t38, ∀ w, (∀ g : Env,
 CondW t38
 (CV (.func (.func 12) #[] #[]) #[] w fun t39 w =>
 R t39 w)
 (V (cv 5 3 t1) w fun t41 w =>
 V (bi .rem 3 t41 (.int .i64 6)) w fun t42 w =>
 V (ld 28 t9) w fun t44 w =>
 CV (.func (.func 22) #[] #[]) #[t44, t42, t2] w fun t47 w =>
 V (ex t47 0) w fun t48 w =>
 V (ex t47 1) w fun t49 w =>
 V (ex t47 2) w fun t50 w =>
 V (al 28) w fun t12 w =>
 V (al 39) w fun t13 w =>
 U (st 28 t12 t48) w fun w =>
 U (st 39 t13 t49) w fun w =>
 ∀ K0 : List Value → World → Prop, (∀ t14, ∀ w, (∀ g : Env,
 V (eq .neq 31 (.tmp 58) (.const (.int .i64 0)) t14 (.int .i64 0)) w fun t59 w =>
 ∀ K0 : List Value → World → Prop, (∀ t64, ∀ w, (∀ g : Env,
 CondW t64
 (CV (.func (.func 12) #[] #[]) #[] w fun t65 w =>
 R t65 w)
 (V (fa 28 t12 0) w fun t66 w =>
 V (ld 26 t66) w fun t67 w =>
 V (Builtin.len_ #[26] 3 #[t67]) w fun t68 w =>
 V (bi .sub 3 t68 (.int .i64 1)) w fun t69 w =>
 V (fa 28 t12 0) w fun t70 w =>
 V (ld 26 t70) w fun t71 w =>
 V (ia 26 t71 t69) w fun t73 w =>
 V (ld 63 t73) w fun t74 w =>
 V (al 63) w fun t16 w =>
 U (st 63 t16 t74) w fun w =>
 V (fa 39 t13 2) w fun t76 w =>
 V (ld 3 t76) w fun t77 w =>
 CV (.func (.func 36) #[] #[]) #[t77] w fun t78 w =>
 V (ex t78 0) w fun t79 w =>
 V (ex t78 1) w fun t80 w =>
 V (ld 28 t12) w fun t82 w =>
 CV (.func (.func 34) #[] #[]) #[t82, (.int .u8 67)] w fun t83 w =>
 V (ex t83 0) w fun t84 w =>
 V (ex t83 1) w fun t85 w =>
 V (ld 28 t12) w fun t87 w =>
 CV (.func (.func 34) #[] #[]) #[t87, (.int .u8 83)] w fun t88 w =>
 V (ex t88 0) w fun t89 w =>
 V (ex t88 1) w fun t90 w =>
 V (fa 28 t12 0) w fun t91 w =>
 V (ld 26 t91) w fun t92 w =>
 V (Builtin.len_ #[26] 3 #[t92]) w fun t93 w =>
 V (fa 28 t9 0) w fun t94 w =>
 V (ld 26 t94) w fun t95 w =>
 V (Builtin.len_ #[26] 3 #[t95]) w fun t96 w =>
 V (eq .neq 3 (.tmp 93) (.tmp 96) t93 t96) w fun t97 w =>
 ∀ K0 : List Value → World → Prop, (∀ t107, ∀ w, (∀ g : Env,
 ∀ K0 : List Value → World → Prop, (∀ t113, ∀ w, (∀ g : Env,
 ∀ K0 : List Value → World → Prop, (∀ t117, ∀ w, (∀ g : Env,
 ∀ K0 : List Value → World → Prop, (∀ t121, ∀ w, (∀ g : Env,
 ∀ K0 : List Value → World → Prop, (∀ t126, ∀ w, (∀ g : Env,
 ∀ K0 : List Value → World → Prop, (∀ t130, ∀ w, (∀ g : Env,
 ∀ K0 : List Value → World → Prop, (∀ t134, ∀ w, (∀ g : Env,
 CondW t134
 (R (.bool false) w)
 (V (fa 39 t13 2) w fun t135 w =>
 V (ld 3 t135) w fun t136 w =>
 V (eq .eql 3 (.tmp 136) (.const (.int .i64 1)) t136 (.int .i64 1)) w fun t137 w =>
 CondW t137
 (CV (.func (.func 12) #[] #[]) #[] w fun t138 w =>
 R t138 w)
 (V (ld 28 t12) w fun t140 w =>
 V (fa 39 t13 2) w fun t141 w =>
 V (ld 3 t141) w fun t142 w =>
 V (fa 39 t13 3) w fun t143 w =>
 V (ld 9 t143) w fun t144 w =>
 CV (.func (.func 22) #[] #[]) #[t140, t142, t144] w fun t145 w =>
 V (ex t145 0) w fun t146 w =>
 V (ex t145 1) w fun t147 w =>
 V (ex t145 2) w fun t148 w =>
 V (al 28) w fun t23 w =>
 V (al 39) w fun t24 w =>
 U (st 28 t23 t146) w fun w =>
 U (st 39 t24 t147) w fun w =>
 ∀ K0 : List Value → World → Prop, (∀ t26, ∀ w, (∀ g : Env,
 CV (.func (.func 12) #[] #[]) #[] w fun t157 w =>
 ∀ K0 : List Value → World → Prop, (∀ t161, ∀ w, (∀ g : Env,
 ∀ K0 : List Value → World → Prop, (∀ t167, ∀ w, (∀ g : Env,
 ∀ K0 : List Value → World → Prop, (∀ t172, ∀ w, (∀ g : Env,
 R t172 w) → K0 [t172] w) →
 CondW t167
 (V (ld 28 t12) w fun t169 w =>
 V (ld 28 t23) w fun t170 w =>
 CV (.func (.func 35) #[] #[]) #[t169, t170] w fun t171 w =>
 K0 [t171] w)
 (K0 [(.bool false)] w)) → K0 [t167] w) →
 CondW t161
 (V (fa 39 t24 0) w fun t163 w =>
 V (ld 3 t163) w fun t164 w =>
 V (eq .eql 3 (.tmp 164) (.tmp 165) t164 t26) w fun t166 w =>
 K0 [t166] w)
 (K0 [(.bool false)] w)) → K0 [t161] w) →
 CondW t157
 (V (eq .eql 31 (.tmp 159) (.const (.int .i64 0)) t148 (.int .i64 0)) w fun t160 w =>
 K0 [t160] w)
 (K0 [(.bool false)] w)) → K0 [t26] w) →
 V (fa 39 t13 2) w fun t149 w =>
 V (ld 3 t149) w fun t150 w =>
 V (eq .eql 3 (.tmp 150) (.const (.int .i64 5)) t150 (.int .i64 5)) w fun t151 w =>
 ∀ K1 : List Value → World → Prop, (∀ t156, ∀ w, (∀ g : Env,
 CondW t156
 (K0 [(.int .i64 3)] w)
 (K0 [(.int .i64 0)] w)) → K1 [t156] w) →
 CondW t151
 (K1 [(.bool true)] w)
 (V (fa 39 t13 2) w fun t153 w =>
 V (ld 3 t153) w fun t154 w =>
 V (eq .eql 3 (.tmp 154) (.const (.int .i64 2)) t154 (.int .i64 2)) w fun t155 w =>
 K1 [t155] w)))) → K0 [t134] w) →
 CondW t130
 (K0 [(.bool true)] w)
 (V (eq .neq 9 (.tmp 132) (.const (.string ⟨#[79, 70, 70]⟩)) t89 (.string ⟨#[79, 70, 70]⟩)) w fun t133 w =>
 K0 [t133] w)) → K0 [t130] w) →
 CondW t126
 (K0 [(.bool true)] w)
 (V (eq .neq 31 (.tmp 128) (.const (.int .i64 0)) t90 (.int .i64 0)) w fun t129 w =>
 K0 [t129] w)) → K0 [t126] w) →
 CondW t121
 (K0 [(.bool true)] w)
 (V (eq .neq 9 (.tmp 123) (.tmp 124) t84 t79) w fun t125 w =>
 K0 [t125] w)) → K0 [t121] w) →
 CondW t117
 (K0 [(.bool true)] w)
 (V (eq .neq 31 (.tmp 119) (.const (.int .i64 0)) t85 (.int .i64 0)) w fun t120 w =>
 K0 [t120] w)) → K0 [t117] w) →
 CondW t113
 (K0 [(.bool true)] w)
 (V (eq .neq 31 (.tmp 115) (.const (.int .i64 0)) t80 (.int .i64 0)) w fun t116 w =>
 K0 [t116] w)) → K0 [t113] w) →
 CondW t107
 (K0 [(.bool true)] w)
 (V (fa 63 t16 1) w fun t109 w =>
 V (ld 59 t109) w fun t110 w =>
 V (Builtin.len_ #[59] 3 #[t110]) w fun t111 w =>
 V (bi .gtr 3 t111 (.int .i64 0)) w fun t112 w =>
 K0 [t112] w)) → K0 [t107] w) →
 CondW t97
 (K0 [(.bool true)] w)
 (V (fa 63 t16 0) w fun t99 w =>
 V (ld 58 t99) w fun t100 w =>
 V (fa 39 t13 2) w fun t101 w =>
 V (ld 3 t101) w fun t102 w =>
 V (ia 58 t100 t102) w fun t103 w =>
 V (ld 73 t103) w fun t104 w =>
 V (bd 73 #[]) w fun t105 w =>
 V (eq .neq 73 (.tmp 104) (.tmp 105) t104 t105) w fun t106 w =>
 K0 [t106] w))) → K0 [t64] w) →
 CondW t59
 (K0 [(.bool true)] w)
 (V (fa 39 t13 0) w fun t61 w =>
 V (ld 3 t61) w fun t62 w =>
 V (eq .neq 3 (.tmp 62) (.const (.int .i64 1)) t62 (.int .i64 1)) w fun t63 w =>
 K0 [t63] w)) → K0 [t14] w) →
 CondW t3
 (V (ld 28 t9) w fun t53 w =>
 CV (.func (.func 18) #[] #[]) #[t53] w fun t54 w =>
 V (ex t54 0) w fun t55 w =>
 V (ex t54 1) w fun t56 w =>
 V (ex t54 2) w fun t57 w =>
 U (st 28 t12 t55) w fun w =>
 U (st 39 t13 t56) w fun w =>
 K0 [t57] w)
 (K0 [t50] w))) → K0 [t38] w) →
 CondW t33
 (K0 [(.bool true)] w)
 (V (Builtin.len_ #[9] 3 #[t2]) w fun t36 w =>
 V (bi .gtr 3 t36 (.int .i64 1000)) w fun t37 w =>
 K0 [t37] w)
theorem eq9 (R : Value → World → Prop) (w : World) (t0 t1 t2 t3 : Value) : enterW Try.prog Try.f9 an9 [t0, t1, t2, t3] w R = vc9 R w t0 t1 t2 t3 := by kernel_rfl
theorem en9 {R : Value → World → Prop} {w : World} {t0 t1 t2 t3 : Value} (h : vc9 R w t0 t1 t2 t3) : Calls Try.prog 9 #[t0, t1, t2, t3] w (retK R) :=
  calls_of_enter mixed Try.func9 (by kernel_rfl) (by rw [eq9]; exact h)

-- qanat/qanatlaw10.TrapRestores
def an10 : Ann := (.seq (.reg (opn 1 .done)) (.seq (.reg (opn 8 .done)) (.seq (.seq (.reg (opn 3 (.join [24] [21, 22, 23, 24] (.split 20 (opn 4 .done) (opn 4 .done)) .done))) (.cond (.seq (.reg (opn 2 .done)) .leaf) .leaf)) (.seq (.reg (opn 8 .done)) (.seq (.seq (.reg (opn 2 .done)) (.cond (.seq (.reg (opn 2 (.join [39] [35, 36, 37, 38, 39] (.split 34 (opn 5 .done) (opn 5 .done)) (opn 1 .done)))) .leaf) .leaf)) (.seq (.reg (opn 4 .done)) (.seq (.seq (.reg (opn 3 .done)) (.one (.loop [8, 45] [46, 47, 48, 11, 49, 50, 51, 52, 53, 4, 54, 12, 55, 56, 58, 57, 60, 61, 62, 63, 64, 65, 66, 67, 59, 68, 69, 8, 71, 70, 73, 74, 75, 76, 77, 78, 72, 79, 80, 81, 83, 82, 85, 86, 84, 87, 88, 89, 91, 90, 93, 94, 92, 95, 96, 98, 97, 99, 100, 101, 102, 103, 104, 106, 107, 105, 108, 109, 110, 111, 112, 113, 114, 115, 116, 117, 118, 119, 120, 121, 122, 123, 124, 125, 126, 127, 128, 45] (.seq (.reg (opn 1 .done)) (.seq (.cond .leaf .leaf) (.seq (.one (.seq (.reg (opn 4 .done)) (.seq (.seq (.reg (opn 4 .done)) (.cond (.seq (.reg (opn 2 .done)) .leaf) .leaf)) (.seq (.reg (opn 3 .done)) (.seqJ [8] [55, 56, 58, 57, 60, 61, 62, 63, 64, 65, 66, 67, 59, 68, 69, 8, 71, 70, 73, 74, 75, 76, 77, 78, 72, 79, 80, 81, 83, 82, 85, 86, 84, 87, 88, 89, 91, 90, 93, 94, 92, 95, 96, 98, 97, 99, 100, 101, 102, 103, 104, 106, 107, 105, 108, 109] (.seq (.reg (opn 2 .done)) (.one (.seq (.reg (opn 2 .done)) (.cond (.reg (opn 13 .done)) (.seq (.reg (opn 2 .done)) (.cond (.reg (opn 12 .done)) (.seq (.reg (opn 2 .done)) (.cond (.reg (opn 8 .done)) (.seq (.reg (opn 2 .done)) (.cond (.reg (opn 7 .done)) (.seq (.reg (opn 2 .done)) (.cond (.seq (.reg (opn 6 .done)) (.cond (.reg (opn 7 .done)) .leaf)) .leaf)))))))))))) (.seqJ [] [110, 111, 112] (.seq (.reg (opn 2 .done)) (.cond (.reg (opn 2 .done)) .leaf)) (.seqJ [127] [113, 114, 115, 116, 117, 118, 119, 120, 121, 122, 123, 124, 125, 126, 127] (.draw (.take 0 (.hold 1 (.take 2 (.take 3 (.take 4 (.take 5 (.split 118 (.take 6 (.take 7 (.take 8 (.take 9 (.take 10 (.take 11 (.take 12 (.take 13 (.take 14 .done))))))))) (.take 6 (.hold 7 (.take 8 (.take 9 (.take 10 (.hold 11 (.alts (.eff 12 (.take 13 (.take 14 .done)) .nil)))))))))))))))) (.cond (.seq (.reg (opn 1 .done)) .leaf) .leaf)))))))) (.reg (opn 2 .done)))))))) (.seq (.one (.loop [] [129, 130, 131, 132, 133, 135, 136, 134, 137, 138, 8, 139, 140, 4] (.seq (.seq (.reg (opn 5 .done)) (.cond .leaf .leaf)) (.one (.seq (.reg (opn 7 .done)) (.seq (.reg (opn 2 .done)) (.cond (.seq (.reg (opn 1 .done)) .leaf) .leaf))))))) (.seq (.reg (opn 2 (.join [146] [143, 144, 145, 146] (.split 142 (opn 4 .done) (opn 4 .done)) (opn 1 .done)))) .leaf)))))))))
def vc10 (R : Value → World → Prop) (w : World) (t0 t1 : Value) : Prop :=
 CV (.func (.func 16) #[] #[]) #[t0] w fun t15 w =>
 V (ex t15 0) w fun t16 w =>
 V (ex t15 1) w fun t17 w =>
 V (al 28) w fun t5 w =>
 U (st 28 t5 t16) w fun w =>
 V (un .not t17) w fun t19 w =>
 ∀ K0 : List Value → World → Prop, (∀ t24, ∀ w, (∀ g : Env,
 CondW t24
 (CV (.func (.func 12) #[] #[]) #[] w fun t25 w =>
 R t25 w)
 (V (ld 28 t5) w fun t27 w =>
 CV (.func (.func 23) #[] #[]) #[t27] w fun t28 w =>
 V (ex t28 0) w fun t29 w =>
 V (ex t28 1) w fun t30 w =>
 V (al 28) w fun t7 w =>
 U (st 28 t7 t29) w fun w =>
 V (eq .neq 31 (.tmp 31) (.const (.int .i64 0)) t30 (.int .i64 0)) w fun t32 w =>
 CondW t32
 (CV (.func (.func 12) #[] #[]) #[] w fun t33 w =>
 ∀ K0 : List Value → World → Prop, (∀ t39, ∀ w, (∀ g : Env,
 R t39 w) → K0 [t39] w) →
 CondW t33
 (V (fa 28 t5 0) w fun t35 w =>
 V (ld 26 t35) w fun t36 w =>
 V (Builtin.len_ #[26] 3 #[t36]) w fun t37 w =>
 V (eq .eql 3 (.tmp 37) (.const (.int .i64 30)) t37 (.int .i64 30)) w fun t38 w =>
 K0 [t38] w)
 (K0 [(.bool false)] w))
 (V (fa 28 t5 0) w fun t40 w =>
 V (ld 26 t40) w fun t41 w =>
 V (Builtin.len_ #[26] 3 #[t41]) w fun t42 w =>
 V (Builtin.len_ #[22] 3 #[t1]) w fun t44 w =>
 ∃ (I0 : List Value → World → Prop) (M0 : List Value → World → Nat), I0 [t30, (.int .i64 0)] w ∧ ∀ g : Env, ∀ t8, ∀ t45, ∀ w, I0 [t8, t45] w → ∀ m0, m0 = M0 [t8, t45] w →
 V (bi .lss 3 t45 t44) w fun t46 w =>
 CondW t46
 (V (ia 22 t1 t45) w fun t47 w =>
 V (ld 25 t47) w fun t48 w =>
 V (al 25) w fun t11 w =>
 U (st 25 t11 t48) w fun w =>
 V (fa 25 t11 3) w fun t49 w =>
 V (ld 9 t49) w fun t50 w =>
 V (Builtin.len_ #[9] 3 #[t50]) w fun t51 w =>
 V (bi .gtr 3 t51 (.int .i64 1000)) w fun t52 w =>
 CondW t52
 (CV (.func (.func 12) #[] #[]) #[] w fun t53 w =>
 R t53 w)
 (V (ld 28 t7) w fun t54 w =>
 V (al 28) w fun t12 w =>
 U (st 28 t12 t54) w fun w =>
 ∀ K0 : List Value → World → Prop, (∀ t8a, ∀ w, (∀ g : Env,
 ∀ K0 : List Value → World → Prop, (∀ w, (∀ g : Env,
 ∀ K0 : List Value → World → Prop, (∀ t127, ∀ w, (∀ g : Env,
 CondW t127
 (R (.bool false) w)
 (V (bi .add 3 t45 (.int .i64 1)) w fun t128 w =>
 I0 [t8a, t128] w ∧ M0 [t8a, t128] w < m0)) → K0 [t127] w) →
 Dr w fun w =>
 PV (fa 28 t7 0) fun t113 =>
 HV (ld 26 t113) w fun t114 =>
 PV (Builtin.len_ #[26] 3 #[t114]) fun t115 =>
 PV (bi .leq 3 t115 t42) fun t117 =>
 CondW t117
 (K0 [(.bool true)] w)
 (PV (fa 28 t7 0) fun t119 =>
 HV (ld 26 t119) w fun t120 =>
 PV (sl 26 t120 none (some t42) none) fun t122 =>
 PV (bd 28 #[(0, t122)]) fun t123 =>
 HV (ld 28 t5) w fun t124 =>
 CV (.func (.func 35) #[] #[]) #[t123, t124] w fun t125 w =>
 RunIs (ld 26 t119) w t120 ∧ RunIs (ld 26 t113) w t114 ∧ (PV (un .not t125) fun t126 =>
 K0 [t126] w))) → K0 [] w) →
 V (eq .eql 31 (.tmp 110) (.const (.int .i64 0)) t8a (.int .i64 0)) w fun t111 w =>
 CondW t111
 (V (ld 28 t12) w fun t112 w =>
 U (st 28 t7 t112) w fun w =>
 K0 [] w)
 (K0 [] w)) → K0 [t8a] w) →
 V (fa 25 t11 0) w fun t55 w =>
 V (ld 3 t55) w fun t56 w =>
 V (eq .eql 3 (.tmp 56) (.const (.int .i64 1)) t56 (.int .i64 1)) w fun t58 w =>
 CondW t58
 (V (ld 28 t7) w fun t60 w =>
 V (fa 25 t11 1) w fun t61 w =>
 V (ld 3 t61) w fun t62 w =>
 V (fa 25 t11 2) w fun t63 w =>
 V (ld 3 t63) w fun t64 w =>
 V (fa 25 t11 3) w fun t65 w =>
 V (ld 9 t65) w fun t66 w =>
 CV (.func (.func 21) #[] #[]) #[t60, t62, t64, t66] w fun t67 w =>
 V (ex t67 0) w fun t68 w =>
 V (ex t67 1) w fun t69 w =>
 U (st 28 t12 t68) w fun w =>
 K0 [t69] w)
 (V (eq .eql 3 (.tmp 56) (.const (.int .i64 2)) t56 (.int .i64 2)) w fun t71 w =>
 CondW t71
 (V (ld 28 t7) w fun t73 w =>
 V (fa 25 t11 1) w fun t74 w =>
 V (ld 3 t74) w fun t75 w =>
 V (fa 25 t11 3) w fun t76 w =>
 V (ld 9 t76) w fun t77 w =>
 CV (.func (.func 22) #[] #[]) #[t73, t75, t77] w fun t78 w =>
 V (ex t78 0) w fun t79 w =>
 V (ex t78 1) w fun t80 w =>
 V (ex t78 2) w fun t81 w =>
 U (st 28 t12 t79) w fun w =>
 K0 [t81] w)
 (V (eq .eql 3 (.tmp 56) (.const (.int .i64 3)) t56 (.int .i64 3)) w fun t83 w =>
 CondW t83
 (V (ld 28 t7) w fun t85 w =>
 CV (.func (.func 18) #[] #[]) #[t85] w fun t86 w =>
 V (ex t86 0) w fun t87 w =>
 V (ex t86 1) w fun t88 w =>
 V (ex t86 2) w fun t89 w =>
 U (st 28 t12 t87) w fun w =>
 K0 [t89] w)
 (V (eq .eql 3 (.tmp 56) (.const (.int .i64 4)) t56 (.int .i64 4)) w fun t91 w =>
 CondW t91
 (V (ld 28 t7) w fun t93 w =>
 CV (.func (.func 23) #[] #[]) #[t93] w fun t94 w =>
 V (ex t94 0) w fun t95 w =>
 V (ex t94 1) w fun t96 w =>
 U (st 28 t12 t95) w fun w =>
 K0 [t96] w)
 (V (eq .eql 3 (.tmp 56) (.const (.int .i64 5)) t56 (.int .i64 5)) w fun t98 w =>
 CondW t98
 (V (fa 28 t7 0) w fun t99 w =>
 V (ld 26 t99) w fun t100 w =>
 V (Builtin.len_ #[26] 3 #[t100]) w fun t101 w =>
 V (bi .add 3 t42 (.int .i64 1)) w fun t103 w =>
 V (bi .gtr 3 t101 t103) w fun t104 w =>
 CondW t104
 (V (ld 28 t7) w fun t106 w =>
 CV (.func (.func 19) #[] #[]) #[t106] w fun t107 w =>
 V (ex t107 0) w fun t108 w =>
 V (ex t107 1) w fun t109 w =>
 U (st 28 t12 t108) w fun w =>
 K0 [t109] w)
 (K0 [t8] w))
 (K0 [t8] w)))))))
 (∃ (I1 : List Value → World → Prop) (M1 : List Value → World → Nat), I1 [] w ∧ ∀ g : Env, ∀ w, I1 [] w → ∀ m1, m1 = M1 [] w →
 V (fa 28 t7 0) w fun t129 w =>
 V (ld 26 t129) w fun t130 w =>
 V (Builtin.len_ #[26] 3 #[t130]) w fun t131 w =>
 V (bi .gtr 3 t131 t42) w fun t133 w =>
 CondW t133
 (V (ld 28 t7) w fun t135 w =>
 CV (.func (.func 19) #[] #[]) #[t135] w fun t136 w =>
 V (ex t136 0) w fun t137 w =>
 V (ex t136 1) w fun t138 w =>
 U (st 28 t7 t137) w fun w =>
 V (eq .neq 31 (.tmp 139) (.const (.int .i64 0)) t138 (.int .i64 0)) w fun t140 w =>
 CondW t140
 (R (.bool false) w)
 (I1 [] w ∧ M1 [] w < m1))
 (CV (.func (.func 12) #[] #[]) #[] w fun t141 w =>
 ∀ K0 : List Value → World → Prop, (∀ t146, ∀ w, (∀ g : Env,
 R t146 w) → K0 [t146] w) →
 CondW t141
 (V (ld 28 t7) w fun t143 w =>
 V (ld 28 t5) w fun t144 w =>
 CV (.func (.func 35) #[] #[]) #[t143, t144] w fun t145 w =>
 K0 [t145] w)
 (K0 [(.bool false)] w)))))) → K0 [t24] w) →
 CondW t19
 (K0 [(.bool true)] w)
 (V (Builtin.len_ #[22] 3 #[t1]) w fun t22 w =>
 V (bi .gtr 3 t22 (.int .i64 200)) w fun t23 w =>
 K0 [t23] w)
theorem eq10 (R : Value → World → Prop) (w : World) (t0 t1 : Value) : enterW Try.prog Try.f10 an10 [t0, t1] w R = vc10 R w t0 t1 := by kernel_rfl
theorem en10 {R : Value → World → Prop} {w : World} {t0 t1 : Value} (h : vc10 R w t0 t1) : Calls Try.prog 10 #[t0, t1] w (retK R) :=
  calls_of_enter mixed Try.func10 (by kernel_rfl) (by rw [eq10]; exact h)

-- qanat/qanatlaw10.TrapChecks
def an11 : Ann := (.seq (.reg (opn 3 .done)) (.seq (.seq (.reg (opn 4 (.join [30] [27, 28, 29, 30] (.split 26 (opn 4 .done) (opn 4 .done)) (opn 1 (.join [35] [32, 33, 34, 35] (.split 31 (opn 4 .done) (opn 4 .done)) .done))))) (.cond (.seq (.reg (opn 2 .done)) .leaf) .leaf)) (.seq (.reg (opn 7 .done)) (.seq (.reg (opn 7 .done)) (.seq (.reg (opn 8 .done)) (.seq (.reg (opn 5 .done)) (.seq (.reg (opn 9 .done)) (.seq (.reg (opn 5 .done)) (.seq (.reg (opn 3 .done)) (.seq (.reg (opn 3 .done)) (.seq (.seqJ [123] [69, 70, 71, 72, 73, 74, 75, 76, 77, 78, 79, 80, 81, 82, 83, 84, 85, 86, 87, 88, 89, 90, 91, 92, 93, 94, 95, 96, 97, 98, 99, 100, 101, 102, 103, 104, 105, 106, 107, 108, 109, 110, 111, 112, 113, 114, 115, 116, 117, 118, 119, 120, 121, 122, 123] (.draw (.alts (.eff 0 (.alts (.eff 1 (.alts (.eff 2 (.take 3 (.take 4 (.split 73 (.take 5 (.take 6 (.take 7 (.take 8 (.take 9 (.take 10 (.take 11 (.take 12 (.take 13 (.take 14 (.take 15 (.take 16 (.take 17 (.take 18 (.take 19 (.take 20 (.take 21 (.take 22 (.take 23 (.take 24 (.take 25 (.take 26 (.take 27 (.take 28 (.take 29 (.take 30 (.take 31 (.take 32 (.take 33 (.take 34 (.take 35 (.take 36 (.take 37 (.take 38 (.take 39 (.take 40 (.take 41 (.take 42 (.take 43 (.take 44 (.take 45 (.take 46 (.take 47 (.take 48 (.take 49 (.take 50 (.take 51 (.take 52 (.take 53 (.take 54 .done)))))))))))))))))))))))))))))))))))))))))))))))))) (.hold 5 (.hold 7 (.alts (.eff 6 (.alts (.eff 8 (.take 9 (.take 10 (.take 11 (.split 80 (.take 12 (.take 13 (.take 14 (.take 15 (.take 16 (.take 17 (.take 18 (.take 19 (.take 20 (.take 21 (.take 22 (.take 23 (.take 24 (.take 25 (.take 26 (.take 27 (.take 28 (.take 29 (.take 30 (.take 31 (.take 32 (.take 33 (.take 34 (.take 35 (.take 36 (.take 37 (.take 38 (.take 39 (.take 40 (.take 41 (.take 42 (.take 43 (.take 44 (.take 45 (.take 46 (.take 47 (.take 48 (.take 49 (.take 50 (.take 51 (.take 52 (.take 53 (.take 54 .done))))))))))))))))))))))))))))))))))))))))))) (.take 12 (.take 13 (.take 14 (.take 15 (.take 16 (.split 85 (.take 17 (.take 18 (.take 19 (.take 20 (.take 21 (.take 22 (.take 23 (.take 24 (.take 25 (.take 26 (.take 27 (.take 28 (.take 29 (.take 30 (.take 31 (.take 32 (.take 33 (.take 34 (.take 35 (.take 36 (.take 37 (.take 38 (.take 39 (.take 40 (.take 41 (.take 42 (.take 43 (.take 44 (.take 45 (.take 46 (.take 47 (.take 48 (.take 49 (.take 50 (.take 51 (.take 52 (.take 53 (.take 54 .done)))))))))))))))))))))))))))))))))))))) (.take 17 (.take 18 (.take 19 (.take 20 (.take 21 (.take 22 (.take 23 (.split 92 (.take 24 (.take 25 (.take 26 (.take 27 (.take 28 (.take 29 (.take 30 (.take 31 (.take 32 (.take 33 (.take 34 (.take 35 (.take 36 (.take 37 (.take 38 (.take 39 (.take 40 (.take 41 (.take 42 (.take 43 (.take 44 (.take 45 (.take 46 (.take 47 (.take 48 (.take 49 (.take 50 (.take 51 (.take 52 (.take 53 (.take 54 .done))))))))))))))))))))))))))))))) (.take 24 (.take 25 (.take 26 (.split 95 (.take 27 (.take 28 (.take 29 (.take 30 (.take 31 (.split 100 (.take 32 (.take 33 (.take 34 (.take 35 (.take 36 (.take 37 (.take 38 (.take 39 (.take 40 (.take 41 (.take 42 (.take 43 (.take 44 (.take 45 (.take 46 (.take 47 (.take 48 (.take 49 (.take 50 (.take 51 (.take 52 (.take 53 (.take 54 .done))))))))))))))))))))))) (.take 32 (.take 33 (.hold 34 (.take 35 (.take 36 (.take 37 (.split 106 (.take 38 (.take 39 (.take 40 (.take 41 (.take 42 (.take 43 (.take 44 (.take 45 (.take 46 (.take 47 (.take 48 (.take 49 (.take 50 (.take 51 (.take 52 (.take 53 (.take 54 .done))))))))))))))))) (.take 38 (.take 39 (.hold 40 (.take 41 (.take 42 (.take 43 (.split 112 (.take 44 (.take 45 (.take 46 (.take 47 (.take 48 (.take 49 (.take 50 (.take 51 (.take 52 (.take 53 (.take 54 .done))))))))))) (.take 44 (.take 45 (.hold 46 (.take 47 (.take 48 (.take 49 (.split 118 (.take 50 (.take 51 (.take 52 (.take 53 (.take 54 .done))))) (.hold 50 (.take 51 (.hold 52 (.take 53 (.take 54 .done)))))))))))))))))))))))))))))))) (.take 27 (.take 28 (.take 29 (.take 30 (.take 31 (.take 32 (.take 33 (.hold 34 (.take 35 (.take 36 (.take 37 (.split 106 (.take 38 (.take 39 (.take 40 (.take 41 (.take 42 (.take 43 (.take 44 (.take 45 (.take 46 (.take 47 (.take 48 (.take 49 (.take 50 (.take 51 (.take 52 (.take 53 (.take 54 .done))))))))))))))))) (.take 38 (.take 39 (.hold 40 (.take 41 (.take 42 (.take 43 (.split 112 (.take 44 (.take 45 (.take 46 (.take 47 (.take 48 (.take 49 (.take 50 (.take 51 (.take 52 (.take 53 (.take 54 .done))))))))))) (.take 44 (.take 45 (.hold 46 (.take 47 (.take 48 (.take 49 (.split 118 (.take 50 (.take 51 (.take 52 (.take 53 (.take 54 .done))))) (.hold 50 (.take 51 (.hold 52 (.take 53 (.take 54 .done))))))))))))))))))))))))))))))))))))))))))))))))))))) .nil)) .nil))))))) .nil)) .nil)) .nil))) (.cond (.seq (.reg (opn 1 .done)) .leaf) .leaf)) (.seq (.seq (.reg (opn 2 .done)) (.cond (.seqJ [10] [126, 127, 128, 129, 130, 131, 132, 133, 134, 135, 136, 137, 138, 139, 140, 141, 142, 143, 10] (.draw (.alts (.eff 0 (.take 1 (.split 127 (.take 2 (.take 3 (.take 4 (.take 5 (.split 131 (.take 6 (.take 7 (.take 8 (.take 9 (.split 135 (.hold 10 (.hold 11 (.hold 13 (.hold 14 (.alts (.eff 12 (.alts (.eff 15 (.take 16 (.take 17 (.take 18 .done))) .nil)) .nil)))))) (.take 10 (.take 11 (.take 12 (.take 13 (.take 14 (.take 15 (.take 16 (.take 17 (.take 18 .done)))))))))))))) (.take 6 (.take 7 (.take 8 (.take 9 (.take 10 (.take 11 (.take 12 (.take 13 (.take 14 (.take 15 (.take 16 (.take 17 (.take 18 .done)))))))))))))))))) (.take 2 (.take 3 (.take 4 (.take 5 (.take 6 (.take 7 (.take 8 (.take 9 (.take 10 (.take 11 (.take 12 (.take 13 (.take 14 (.take 15 (.take 16 (.take 17 (.take 18 .done))))))))))))))))))) .nil))) .leaf) .leaf)) (.seqJ [10] [144, 145, 146, 147, 148, 149, 150, 151, 152, 153, 154, 155, 156, 157, 158, 159, 160, 161, 162, 163, 164, 165, 166, 167, 10] (.draw (.alts (.eff 0 (.take 1 (.split 145 (.take 2 (.take 3 (.take 4 (.take 5 (.split 149 (.take 6 (.take 7 (.take 8 (.take 9 (.take 10 (.split 154 (.hold 11 (.hold 12 (.hold 14 (.hold 15 (.alts (.eff 13 (.alts (.eff 16 (.take 17 (.take 18 (.take 19 (.split 163 (.hold 20 (.hold 21 (.alts (.eff 22 (.take 23 (.take 24 .done)) .nil)))) (.take 20 (.take 21 (.take 22 (.take 23 (.take 24 .done))))))))) .nil)) .nil)))))) (.take 11 (.take 12 (.take 13 (.take 14 (.take 15 (.take 16 (.take 17 (.take 18 (.take 19 (.take 20 (.take 21 (.take 22 (.take 23 (.take 24 .done)))))))))))))))))))) (.take 6 (.take 7 (.take 8 (.take 9 (.take 10 (.take 11 (.take 12 (.take 13 (.take 14 (.take 15 (.take 16 (.take 17 (.take 18 (.take 19 (.take 20 (.take 21 (.take 22 (.take 23 (.take 24 .done)))))))))))))))))))))))) (.take 2 (.take 3 (.take 4 (.take 5 (.take 6 (.take 7 (.take 8 (.take 9 (.take 10 (.take 11 (.take 12 (.take 13 (.take 14 (.take 15 (.take 16 (.take 17 (.take 18 (.take 19 (.take 20 (.take 21 (.take 22 (.take 23 (.take 24 .done))))))))))))))))))))))))) .nil))) .leaf)))))))))))))
def vc11 (R : Value → World → Prop) (w : World) (t0 t1 t2 t3 t4 : Value) : Prop :=
 V (bx 28 t0) w fun t5 w =>
 V (bx 28 t1) w fun t6 w =>
 V (ld 28 t5) w fun t23 w =>
 CV (.func (.func 20) #[] #[]) #[t23] w fun t24 w =>
 V (un .not t24) w fun t25 w =>
 ∀ K0 : List Value → World → Prop, (∀ t30, ∀ w, (∀ g : Env,
 ∀ K0 : List Value → World → Prop, (∀ t35, ∀ w, (∀ g : Env,
 CondW t35
 (CV (.func (.func 12) #[] #[]) #[] w fun t36 w =>
 R t36 w)
 (CV (.func (.func 36) #[] #[]) #[t2] w fun t39 w =>
 V (ex t39 0) w fun t40 w =>
 V (ex t39 1) w fun t41 w =>
 CV (.func (.func 37) #[] #[]) #[t3] w fun t44 w =>
 V (ex t44 0) w fun t45 w =>
 V (ex t44 1) w fun t46 w =>
 V (ld 28 t5) w fun t48 w =>
 CV (.func (.func 34) #[] #[]) #[t48, t4] w fun t50 w =>
 V (ex t50 0) w fun t51 w =>
 V (ex t50 1) w fun t52 w =>
 V (ld 28 t5) w fun t53 w =>
 CV (.func (.func 38) #[] #[]) #[t53, t4] w fun t55 w =>
 V (al 86) w fun t17 w =>
 U (st 86 t17 t55) w fun w =>
 V (ld 28 t5) w fun t57 w =>
 CV (.func (.func 30) #[] #[]) #[t57, t2] w fun t59 w =>
 V (ex t59 0) w fun t60 w =>
 V (ex t59 1) w fun t61 w =>
 V (al 39) w fun t18 w =>
 U (st 39 t18 t60) w fun w =>
 V (ld 28 t5) w fun t62 w =>
 CV (.func (.func 39) #[] #[]) #[t62, t2] w fun t64 w =>
 V (al 53) w fun t20 w =>
 U (st 53 t20 t64) w fun w =>
 CV (.func (.func 40) #[] #[]) #[t2] w fun t66 w =>
 CV (.func (.func 41) #[] #[]) #[t3] w fun t68 w =>
 ∀ K0 : List Value → World → Prop, (∀ t123, ∀ w, (∀ g : Env,
 CondW t123
 (R (.bool false) w)
 (V (bi .lss 3 t68 (.int .i64 0)) w fun t125 w =>
 CondW t125
 (∀ K0 : List Value → World → Prop, (∀ t10, ∀ w, (∀ g : Env,
 R t10 w) → K0 [t10] w) →
 Dr w fun w =>
 CV (.func (.func 12) #[] #[]) #[] w fun t126 w =>
 CondW t126
 (PV (eq .eql 31 (.tmp 128) (.const (.int .i64 1)) t46 (.int .i64 1)) fun t129 =>
 CondW t129
 (PV (eq .eql 3 (.tmp 132) (.const (.int .i64 0)) t45 (.int .i64 0)) fun t133 =>
 CondW t133
 (HV (ld 28 t5) w fun t136 =>
 HV (ld 28 t6) w fun t137 =>
 HV (ld 28 t5) w fun t139 =>
 HV (ld 28 t6) w fun t140 =>
 CV (.func (.func 35) #[] #[]) #[t136, t137] w fun t138 w =>
 RunIs (ld 28 t6) w t140 ∧ RunIs (ld 28 t5) w t139 ∧ (CV (.func (.func 15) #[] #[]) #[t139, t140] w fun t141 w =>
 PV (eq .eql 4 (.tmp 138) (.tmp 141) t138 t141) fun t142 =>
 K0 [t142] w))
 (K0 [(.bool false)] w))
 (K0 [(.bool false)] w))
 (K0 [(.bool false)] w))
 (∀ K0 : List Value → World → Prop, (∀ t10, ∀ w, (∀ g : Env,
 R t10 w) → K0 [t10] w) →
 Dr w fun w =>
 CV (.func (.func 12) #[] #[]) #[] w fun t144 w =>
 CondW t144
 (PV (eq .eql 31 (.tmp 146) (.const (.int .i64 0)) t46 (.int .i64 0)) fun t147 =>
 CondW t147
 (PV (eq .eql 3 (.tmp 150) (.tmp 151) t45 t68) fun t152 =>
 CondW t152
 (HV (ld 28 t5) w fun t155 =>
 HV (ld 28 t6) w fun t156 =>
 HV (ld 28 t5) w fun t158 =>
 HV (ld 28 t6) w fun t159 =>
 CV (.func (.func 35) #[] #[]) #[t155, t156] w fun t157 w =>
 RunIs (ld 28 t6) w t159 ∧ RunIs (ld 28 t5) w t158 ∧ (CV (.func (.func 15) #[] #[]) #[t158, t159] w fun t160 w =>
 PV (eq .eql 4 (.tmp 157) (.tmp 160) t157 t160) fun t161 =>
 CondW t161
 (HV (ld 28 t5) w fun t164 =>
 HV (ld 28 t5) w fun t165 =>
 CV (.func (.func 35) #[] #[]) #[t164, t165] w fun t166 w =>
 K0 [t166] w)
 (K0 [(.bool false)] w)))
 (K0 [(.bool false)] w))
 (K0 [(.bool false)] w))
 (K0 [(.bool false)] w)))) → K0 [t123] w) →
 Dr w fun w =>
 CV (.func (.func 42) #[] #[]) #[] w fun t69 w =>
 CV (.func (.func 43) #[] #[]) #[] w fun t70 w =>
 CV (.func (.func 35) #[] #[]) #[t69, t70] w fun t71 w =>
 PV (un .not t71) fun t72 =>
 CondW t72
 (K0 [(.bool true)] w)
 (HV (ld 28 t5) w fun t74 =>
 HV (ld 28 t5) w fun t76 =>
 CV (.func (.func 17) #[] #[]) #[t74] w fun t75 w =>
 RunIs (ld 28 t5) w t76 ∧ (CV (.func (.func 44) #[] #[]) #[t76] w fun t77 w =>
 PV (eq .neq 31 (.tmp 75) (.tmp 77) t75 t77) fun t78 =>
 CondW t78
 (K0 [(.bool true)] w)
 (PV (eq .neq 9 (.tmp 81) (.tmp 82) t40 t66) fun t83 =>
 CondW t83
 (K0 [(.bool true)] w)
 (PV (eq .eql 31 (.tmp 86) (.const (.int .i64 0)) t41 (.int .i64 0)) fun t87 =>
 PV (eq .neq 9 (.tmp 88) (.const (.string ⟨#[]⟩)) t66 (.string ⟨#[]⟩)) fun t89 =>
 PV (eq .neq 4 (.tmp 87) (.tmp 89) t87 t89) fun t90 =>
 CondW t90
 (K0 [(.bool true)] w)
 (PV (eq .neq 31 (.tmp 93) (.const (.int .i64 0)) t41 (.int .i64 0)) fun t94 =>
 CondW t94
 (PV (eq .neq 31 (.tmp 96) (.const (.int .i64 1)) t41 (.int .i64 1)) fun t97 =>
 CondW t97
 (K0 [(.bool true)] w)
 (PV (fa 86 t17 1) fun t102 =>
 HV (ld 31 t102) w fun t103 =>
 PV (eq .neq 31 (.tmp 101) (.tmp 103) t52 t103) fun t104 =>
 CondW t104
 (K0 [(.bool true)] w)
 (PV (fa 86 t17 0) fun t108 =>
 HV (ld 9 t108) w fun t109 =>
 PV (eq .neq 9 (.tmp 107) (.tmp 109) t51 t109) fun t110 =>
 CondW t110
 (K0 [(.bool true)] w)
 (PV (fa 53 t20 2) fun t114 =>
 HV (ld 31 t114) w fun t115 =>
 PV (eq .neq 31 (.tmp 113) (.tmp 115) t61 t115) fun t116 =>
 CondW t116
 (K0 [(.bool true)] w)
 (HV (ld 39 t18) w fun t119 =>
 PV (fa 53 t20 1) fun t120 =>
 HV (ld 39 t120) w fun t121 =>
 PV (eq .neq 39 (.tmp 119) (.tmp 121) t119 t121) fun t122 =>
 K0 [t122] w)))))
 (PV (fa 86 t17 1) fun t102 =>
 HV (ld 31 t102) w fun t103 =>
 PV (eq .neq 31 (.tmp 101) (.tmp 103) t52 t103) fun t104 =>
 CondW t104
 (K0 [(.bool true)] w)
 (PV (fa 86 t17 0) fun t108 =>
 HV (ld 9 t108) w fun t109 =>
 PV (eq .neq 9 (.tmp 107) (.tmp 109) t51 t109) fun t110 =>
 CondW t110
 (K0 [(.bool true)] w)
 (PV (fa 53 t20 2) fun t114 =>
 HV (ld 31 t114) w fun t115 =>
 PV (eq .neq 31 (.tmp 113) (.tmp 115) t61 t115) fun t116 =>
 CondW t116
 (K0 [(.bool true)] w)
 (HV (ld 39 t18) w fun t119 =>
 PV (fa 53 t20 1) fun t120 =>
 HV (ld 39 t120) w fun t121 =>
 PV (eq .neq 39 (.tmp 119) (.tmp 121) t119 t121) fun t122 =>
 K0 [t122] w))))))))))) → K0 [t35] w) →
 CondW t30
 (K0 [(.bool true)] w)
 (V (Builtin.len_ #[9] 3 #[t3]) w fun t33 w =>
 V (bi .gtr 3 t33 (.int .i64 1100)) w fun t34 w =>
 K0 [t34] w)) → K0 [t30] w) →
 CondW t25
 (K0 [(.bool true)] w)
 (V (ld 28 t6) w fun t27 w =>
 CV (.func (.func 20) #[] #[]) #[t27] w fun t28 w =>
 V (un .not t28) w fun t29 w =>
 K0 [t29] w)
theorem eq11 (R : Value → World → Prop) (w : World) (t0 t1 t2 t3 t4 : Value) : enterW Try.prog Try.f11 an11 [t0, t1, t2, t3, t4] w R = vc11 R w t0 t1 t2 t3 t4 := by kernel_rfl
theorem en11 {R : Value → World → Prop} {w : World} {t0 t1 t2 t3 t4 : Value} (h : vc11 R w t0 t1 t2 t3 t4) : Calls Try.prog 11 #[t0, t1, t2, t3, t4] w (retK R) :=
  calls_of_enter mixed Try.func11 (by kernel_rfl) (by rw [eq11]; exact h)

-- qanat/qanatlaw10.sane
def an12 : Ann := (.seq (.reg (opn 1 .done)) (.seq (.reg (opn 7 .done)) (.seq (.reg (opn 12 .done)) (.seq (.reg (opn 15 .done)) (.seq (.reg (opn 7 .done)) (.seq (.reg (opn 7 .done)) (.seq (.reg (opn 3 (.join [56] [53, 54, 55, 56] (.split 52 (opn 4 .done) (opn 4 .done)) (opn 1 (.join [63] [58, 59, 60, 61, 62, 63] (.split 57 (opn 6 .done) (opn 6 .done)) (opn 1 (.join [70] [65, 66, 67, 68, 69, 70] (.split 64 (opn 6 .done) (opn 6 .done)) (opn 1 (.join [74] [72, 73, 74] (.split 71 (opn 3 .done) (opn 3 .done)) (opn 1 (.join [78] [76, 77, 78] (.split 75 (opn 3 .done) (opn 3 .done)) (opn 1 (.join [82] [80, 81, 82] (.split 79 (opn 3 .done) (opn 3 .done)) (opn 1 (.join [86] [84, 85, 86] (.split 83 (opn 3 .done) (opn 3 .done)) (opn 1 .done)))))))))))))))) (.seq (.reg (opn 9 .done)) (.seq (.reg (opn 2 (.join [98] [97, 98] (.split 96 (opn 2 .done) (opn 2 .done)) (opn 1 (.join [101] [100, 101] (.split 99 (opn 2 .done) (opn 2 .done)) (opn 1 (.join [104] [103, 104] (.split 102 (opn 2 .done) (opn 2 .done)) (opn 1 (.join [110] [106, 107, 108, 109, 110] (.split 105 (opn 5 .done) (opn 5 .done)) (opn 1 .done)))))))))) .leaf)))))))))
def vc12 (R : Value → World → Prop) (w : World) : Prop :=
 CV (.func (.func 46) #[] #[]) #[(.int .i64 5), (.int .i64 1), (.string ⟨#[]⟩)] w fun t13 w =>
 CV (.func (.func 47) #[] #[]) #[(.int .i64 5), (.string ⟨#[52, 49]⟩)] w fun t14 w =>
 CV (.func (.func 47) #[] #[]) #[(.int .i64 5), (.string ⟨#[52, 50]⟩)] w fun t15 w =>
 V (bs 22 3 #[(0, t13), (1, t14), (2, t15)]) w fun t16 w =>
 V (bs 68 3 #[(0, (.int .i64 0)), (1, (.int .i64 1)), (2, (.int .i64 3))]) w fun t17 w =>
 CV (.func (.func 45) #[] #[]) #[t16, t17] w fun t18 w =>
 CV (.func (.func 46) #[] #[]) #[(.int .i64 0), (.int .i64 2), (.string ⟨#[79, 79, 80, 83]⟩)] w fun t19 w =>
 CV (.func (.func 47) #[] #[]) #[(.int .i64 0), (.string ⟨#[108, 115]⟩)] w fun t20 w =>
 CV (.func (.func 48) #[] #[]) #[] w fun t21 w =>
 CV (.func (.func 47) #[] #[]) #[(.int .i64 0), (.string ⟨#[114, 109]⟩)] w fun t22 w =>
 CV (.func (.func 48) #[] #[]) #[] w fun t23 w =>
 CV (.func (.func 49) #[] #[]) #[] w fun t24 w =>
 CV (.func (.func 47) #[] #[]) #[(.int .i64 0), (.string ⟨#[99, 112]⟩)] w fun t25 w =>
 CV (.func (.func 48) #[] #[]) #[] w fun t26 w =>
 V (bs 22 8 #[(0, t19), (1, t20), (2, t21), (3, t22), (4, t23), (5, t24), (6, t25), (7, t26)]) w fun t27 w =>
 V (bs 68 8 #[(0, (.int .i64 0)), (1, (.int .i64 0)), (2, (.int .i64 2)), (3, (.int .i64 0)), (4, (.int .i64 0)), (5, (.int .i64 0)), (6, (.int .i64 0)), (7, (.int .i64 2))]) w fun t28 w =>
 CV (.func (.func 45) #[] #[]) #[t27, t28] w fun t29 w =>
 CV (.func (.func 46) #[] #[]) #[(.int .i64 0), (.int .i64 1), (.string ⟨#[]⟩)] w fun t31 w =>
 CV (.func (.func 47) #[] #[]) #[(.int .i64 1), (.string ⟨#[120]⟩)] w fun t32 w =>
 CV (.func (.func 48) #[] #[]) #[] w fun t33 w =>
 V (bs 22 3 #[(0, t31), (1, t32), (2, t33)]) w fun t34 w =>
 CV (.func (.func 13) #[] #[]) #[t34] w fun t35 w =>
 V (ex t35 0) w fun t36 w =>
 V (ex t35 1) w fun t37 w =>
 V (ex t35 2) w fun t38 w =>
 V (ex t35 3) w fun t39 w =>
 V (al 28) w fun t3 w =>
 U (st 28 t3 t36) w fun w =>
 V (ld 28 t3) w fun t41 w =>
 CV (.func (.func 34) #[] #[]) #[t41, (.int .u8 67)] w fun t42 w =>
 V (ex t42 0) w fun t43 w =>
 V (ex t42 1) w fun t44 w =>
 V (ld 28 t3) w fun t46 w =>
 CV (.func (.func 34) #[] #[]) #[t46, (.int .u8 83)] w fun t47 w =>
 V (ex t47 0) w fun t48 w =>
 V (ex t47 1) w fun t49 w =>
 V (eq .eql 31 (.tmp 50) (.const (.int .i64 0)) t39 (.int .i64 0)) w fun t51 w =>
 ∀ K0 : List Value → World → Prop, (∀ t56, ∀ w, (∀ g : Env,
 ∀ K0 : List Value → World → Prop, (∀ t63, ∀ w, (∀ g : Env,
 ∀ K0 : List Value → World → Prop, (∀ t70, ∀ w, (∀ g : Env,
 ∀ K0 : List Value → World → Prop, (∀ t74, ∀ w, (∀ g : Env,
 ∀ K0 : List Value → World → Prop, (∀ t78, ∀ w, (∀ g : Env,
 ∀ K0 : List Value → World → Prop, (∀ t82, ∀ w, (∀ g : Env,
 ∀ K0 : List Value → World → Prop, (∀ t86, ∀ w, (∀ g : Env,
 CV (.func (.func 46) #[] #[]) #[(.int .i64 4), (.int .i64 2), (.string ⟨#[]⟩)] w fun t87 w =>
 CV (.func (.func 47) #[] #[]) #[(.int .i64 4), (.string ⟨#[102]⟩)] w fun t88 w =>
 CV (.func (.func 47) #[] #[]) #[(.int .i64 4), (.string ⟨#[103]⟩)] w fun t89 w =>
 CV (.func (.func 48) #[] #[]) #[] w fun t90 w =>
 CV (.func (.func 48) #[] #[]) #[] w fun t91 w =>
 V (bs 22 5 #[(0, t87), (1, t88), (2, t89), (3, t90), (4, t91)]) w fun t92 w =>
 V (bs 68 5 #[(0, (.int .i64 0)), (1, (.int .i64 0)), (2, (.int .i64 0)), (3, (.int .i64 2)), (4, (.int .i64 0))]) w fun t93 w =>
 CV (.func (.func 45) #[] #[]) #[t92, t93] w fun t94 w =>
 ∀ K0 : List Value → World → Prop, (∀ t98, ∀ w, (∀ g : Env,
 ∀ K0 : List Value → World → Prop, (∀ t101, ∀ w, (∀ g : Env,
 ∀ K0 : List Value → World → Prop, (∀ t104, ∀ w, (∀ g : Env,
 ∀ K0 : List Value → World → Prop, (∀ t110, ∀ w, (∀ g : Env,
 R t110 w) → K0 [t110] w) →
 CondW t104
 (CV (.func (.func 47) #[] #[]) #[(.int .i64 2), (.string ⟨#[]⟩)] w fun t106 w =>
 V (bs 22 1 #[(0, t106)]) w fun t107 w =>
 V (bs 68 1 #[(0, (.int .i64 3))]) w fun t108 w =>
 CV (.func (.func 45) #[] #[]) #[t107, t108] w fun t109 w =>
 K0 [t109] w)
 (K0 [(.bool false)] w)) → K0 [t104] w) →
 CondW t101
 (K0 [t94] w)
 (K0 [(.bool false)] w)) → K0 [t101] w) →
 CondW t98
 (K0 [t86] w)
 (K0 [(.bool false)] w)) → K0 [t98] w) →
 CondW t18
 (K0 [t29] w)
 (K0 [(.bool false)] w)) → K0 [t86] w) →
 CondW t82
 (V (eq .eql 9 (.tmp 84) (.const (.string ⟨#[79, 70, 70]⟩)) t48 (.string ⟨#[79, 70, 70]⟩)) w fun t85 w =>
 K0 [t85] w)
 (K0 [(.bool false)] w)) → K0 [t82] w) →
 CondW t78
 (V (eq .eql 31 (.tmp 80) (.const (.int .i64 0)) t49 (.int .i64 0)) w fun t81 w =>
 K0 [t81] w)
 (K0 [(.bool false)] w)) → K0 [t78] w) →
 CondW t74
 (V (eq .eql 9 (.tmp 76) (.const (.string ⟨#[69, 82, 82, 79, 82]⟩)) t43 (.string ⟨#[69, 82, 82, 79, 82]⟩)) w fun t77 w =>
 K0 [t77] w)
 (K0 [(.bool false)] w)) → K0 [t74] w) →
 CondW t70
 (V (eq .eql 31 (.tmp 72) (.const (.int .i64 0)) t44 (.int .i64 0)) w fun t73 w =>
 K0 [t73] w)
 (K0 [(.bool false)] w)) → K0 [t70] w) →
 CondW t63
 (V (ia 29 t37 (.int .i64 2)) w fun t66 w =>
 V (fa 39 t66 1) w fun t67 w =>
 V (ld 9 t67) w fun t68 w =>
 V (eq .eql 9 (.tmp 68) (.const (.string ⟨#[69, 82, 82, 79, 82]⟩)) t68 (.string ⟨#[69, 82, 82, 79, 82]⟩)) w fun t69 w =>
 K0 [t69] w)
 (K0 [(.bool false)] w)) → K0 [t63] w) →
 CondW t56
 (V (ia 29 t37 (.int .i64 2)) w fun t59 w =>
 V (fa 39 t59 0) w fun t60 w =>
 V (ld 3 t60) w fun t61 w =>
 V (eq .eql 3 (.tmp 61) (.const (.int .i64 1)) t61 (.int .i64 1)) w fun t62 w =>
 K0 [t62] w)
 (K0 [(.bool false)] w)) → K0 [t56] w) →
 CondW t51
 (V (Builtin.len_ #[29] 3 #[t37]) w fun t54 w =>
 V (eq .eql 3 (.tmp 54) (.const (.int .i64 3)) t54 (.int .i64 3)) w fun t55 w =>
 K0 [t55] w)
 (K0 [(.bool false)] w)
theorem eq12 (R : Value → World → Prop) (w : World) : enterW Try.prog Try.f12 an12 [] w R = vc12 R w  := by kernel_rfl
theorem en12 {R : Value → World → Prop} {w : World} (h : vc12 R w ) : Calls Try.prog 12 #[] w (retK R) :=
  calls_of_enter mixed Try.func12 (by kernel_rfl) (by rw [eq12]; exact h)

-- qanat/trap.Play
def an13 : Ann := (.seq (.reg (opn 4 .done)) (.seq (.seq (.reg (opn 3 .done)) (.cond (.seq (.reg (opn 5 .done)) .leaf) .leaf)) (.seq (.reg (opn 3 .done)) (.seq (.reg (opn 1 .done)) (.seq (.reg (opn 1 .done)) (.seq (.seq (.reg (opn 3 .done)) (.one (.loop [7, 8, 24] [25, 26, 27, 10, 28, 29, 11, 12, 13, 31, 32, 33, 34, 30, 35, 36, 14, 15, 37, 16, 38, 39, 40, 41, 42, 43, 44, 45, 46, 47, 48, 49, 50, 52, 53, 54, 55, 51, 56, 57, 58, 59, 60, 61, 62, 63, 64, 65, 66, 67, 68, 69, 7, 8, 70, 24] (.seq (.reg (opn 1 .done)) (.seq (.cond .leaf .leaf) (.seq (.one (.seq (.reg (opn 4 .done)) (.seq (.reg (opn 7 .done)) (.seqJ [13] [31, 32, 33, 34, 30, 35, 36, 14, 15, 37, 16, 38, 39, 40, 41, 42, 43, 44, 45, 46, 47, 48, 49, 50, 52, 53, 54, 55, 51, 56, 57, 58, 13] (.seq (.draw (.take 1 (.hold 2 (.alts (.eff 0 (.hold 3 (.take 4 (.take 5 (.take 6 (.take 7 (.take 8 .done)))))) .nil))))) (.seq (.reg (opn 1 .done)) (.cond (.seq (.reg (opn 1 .done)) (.seqJ [16] [38, 39, 40, 41, 42, 43, 44, 45, 46, 47, 48, 49, 50, 16] (.seq (.reg (opn 4 (.join [45] [42, 43, 44, 45] (.split 41 (opn 4 .done) (opn 4 .done)) .done))) (.cond (.reg (opn 6 .done)) .leaf)) (.reg (opn 11 .done)))) .leaf))) (.seqJ [] [59, 60, 61] (.seq (.reg (opn 2 .done)) (.cond (.reg (opn 2 .done)) .leaf)) (.reg (opn 10 .done))))))) (.reg (opn 2 .done)))))))) (.seq (.reg (opn 7 .done)) .leaf)))))))
def vc13 (R : Value → World → Prop) (w : World) (t0 : Value) : Prop :=
 V (al 28) w fun t2 w =>
 V (Builtin.len_ #[22] 3 #[t0]) w fun t18 w =>
 V (bi .gtr 3 t18 (.int .i64 1000)) w fun t19 w =>
 CondW t19
 (V (bd 28 #[]) w fun t20 w =>
 U (st 28 t2 t20) w fun w =>
 CW 28 t2 w fun t1002 => R (.tuple #[t1002, (.slice none 0 0), (.slice none 0 0), (.int .i64 3)]) w)
 (CV (.func (.func 42) #[] #[]) #[] w fun t21 w =>
 V (al 28) w fun t6 w =>
 U (st 28 t6 t21) w fun w =>
 V (Builtin.len_ #[22] 3 #[t0]) w fun t23 w =>
 ∃ (I0 : List Value → World → Prop) (M0 : List Value → World → Nat), I0 [(.slice none 0 0), (.slice none 0 0), (.int .i64 0)] w ∧ ∀ g : Env, ∀ t7, ∀ t8, ∀ t24, ∀ w, I0 [t7, t8, t24] w → ∀ m0, m0 = M0 [t7, t8, t24] w →
 V (bi .lss 3 t24 t23) w fun t25 w =>
 CondW t25
 (V (ia 22 t0 t24) w fun t26 w =>
 V (ld 25 t26) w fun t27 w =>
 V (al 25) w fun t10 w =>
 U (st 25 t10 t27) w fun w =>
 V (bd 28 #[]) w fun t28 w =>
 V (bd 39 #[]) w fun t29 w =>
 V (al 28) w fun t11 w =>
 V (al 39) w fun t12 w =>
 U (st 28 t11 t28) w fun w =>
 U (st 39 t12 t29) w fun w =>
 ∀ K0 : List Value → World → Prop, (∀ t13, ∀ w, (∀ g : Env,
 ∀ K0 : List Value → World → Prop, (∀ w, (∀ g : Env,
 V (ld 39 t12) w fun t63 w =>
 V (bs 29 1 #[(0, t63)]) w fun t64 w =>
 V (Builtin.append_ #[29, 29] 29 #[t7, t64]) w fun t65 w =>
 V (bs 30 1 #[(0, t13)]) w fun t68 w =>
 V (Builtin.append_ #[30, 30] 30 #[t8, t68]) w fun t69 w =>
 V (bi .add 3 t24 (.int .i64 1)) w fun t70 w =>
 I0 [t65, t69, t70] w ∧ M0 [t65, t69, t70] w < m0) → K0 [] w) →
 V (eq .eql 31 (.tmp 59) (.const (.int .i64 0)) t13 (.int .i64 0)) w fun t60 w =>
 CondW t60
 (V (ld 28 t11) w fun t61 w =>
 U (st 28 t6 t61) w fun w =>
 K0 [] w)
 (K0 [] w)) → K0 [t13] w) →
 Dr w fun w =>
 PV (fa 25 t10 0) fun t32 =>
 HV (ld 3 t32) w fun t33 =>
 CV (.func (.func 50) #[] #[]) #[] w fun t31 w =>
 RunIs (ld 3 t32) w t33 ∧ (HV (lk 100 t31 t33 true) w fun t34 =>
 PV (ex t34 0) fun t35 =>
 PV (ex t34 1) fun t36 =>
 CondW t36
 (∀ K1 : List Value → World → Prop, (∀ t16, ∀ w, (∀ g : Env,
 V (ld 28 t6) w fun t52 w =>
 V (ld 25 t10) w fun t53 w =>
 CV (.func (.func 51) #[] #[]) #[t52, t53, t16] w fun t55 w =>
 V (ex t55 0) w fun t56 w =>
 V (ex t55 1) w fun t57 w =>
 V (ex t55 2) w fun t58 w =>
 U (st 28 t11 t56) w fun w =>
 U (st 39 t12 t57) w fun w =>
 K0 [t58] w) → K1 [t16] w) →
 V (fa 25 t10 0) w fun t38 w =>
 V (ld 3 t38) w fun t39 w =>
 V (eq .eql 3 (.tmp 39) (.const (.int .i64 1)) t39 (.int .i64 1)) w fun t40 w =>
 ∀ K2 : List Value → World → Prop, (∀ t45, ∀ w, (∀ g : Env,
 CondW t45
 (V (fa 25 t10 1) w fun t47 w =>
 V (ld 3 t47) w fun t48 w =>
 V (bs 68 1 #[(0, t48)]) w fun t49 w =>
 V (Builtin.append_ #[68, 68] 68 #[(.slice none 0 0), t49]) w fun t50 w =>
 K1 [t50] w)
 (K1 [(.slice none 0 0)] w)) → K2 [t45] w) →
 CondW t40
 (K2 [(.bool true)] w)
 (V (fa 25 t10 0) w fun t42 w =>
 V (ld 3 t42) w fun t43 w =>
 V (eq .eql 3 (.tmp 43) (.const (.int .i64 2)) t43 (.int .i64 2)) w fun t44 w =>
 K2 [t44] w))
 (K0 [(.int .i64 1)] w)))
 (V (ld 28 t6) w fun t71 w =>
 U (st 28 t2 t71) w fun w =>
 CW 28 t2 w fun t1002 => R (.tuple #[t1002, t7, t8, (.int .i64 0)]) w))
theorem eq13 (R : Value → World → Prop) (w : World) (t0 : Value) : enterW Try.prog Try.f13 an13 [t0] w R = vc13 R w t0 := by kernel_rfl
theorem en13 {R : Value → World → Prop} {w : World} {t0 : Value} (h : vc13 R w t0) : Calls Try.prog 13 #[t0] w (retK R) :=
  calls_of_enter mixed Try.func13 (by kernel_rfl) (by rw [eq13]; exact h)

-- qanat/qanatref10.Play
def an14 : Ann := (.seq (.reg (opn 1 .done)) (.seq (.seq (.reg (opn 3 .done)) (.cond (.seq (.reg (opn 2 .done)) .leaf) .leaf)) (.seq (.reg (opn 4 .done)) (.seq (.seq (.reg (opn 1 .done)) (.one (.loop [4] [12, 13, 14, 15, 18, 19, 20, 21, 22, 23, 24, 5, 25, 26, 27, 28, 29, 30, 31, 32, 33, 34, 35, 36, 37, 38, 39, 40, 41, 42, 43, 44, 16, 17, 4] (.seq (.seq (.reg (opn 4 .done)) (.cond .leaf .leaf)) (.seq (.one (.seqJ [5] [18, 19, 20, 21, 22, 23, 24, 5] (.draw (.take 0 (.hold 1 (.take 2 (.take 3 (.take 4 (.hold 5 (.alts (.eff 6 (.alts (.eff 7 (.alts (.eff 8 .done .nil)) .nil)) (.eff 7 (.alts (.eff 6 (.alts (.eff 8 .done .nil)) .nil)) .nil)))))))))) (.seqJ [] [25, 26, 27, 28, 29, 30] (.seq (.reg (opn 3 .done)) (.cond (.reg (opn 4 .done)) .leaf)) (.seq (.reg (opn 8 .done)) (.reg (opn 8 .done)))))) (.reg (opn 3 .done))))))) (.seq (.reg (opn 2 .done)) .leaf)))))
def vc14 (R : Value → World → Prop) (w : World) (t0 : Value) : Prop :=
 V (al 35) w fun t2 w =>
 V (Builtin.len_ #[22] 3 #[t0]) w fun t7 w =>
 V (bi .gtr 3 t7 (.int .i64 1000)) w fun t8 w =>
 CondW t8
 (V (bd 35 #[(3, (.int .i64 3))]) w fun t9 w =>
 U (st 35 t2 t9) w fun w =>
 CW 35 t2 w fun t1002 => R t1002 w)
 (CV (.func (.func 43) #[] #[]) #[] w fun t10 w =>
 V (bd 35 #[(0, t10)]) w fun t11 w =>
 V (al 35) w fun t3 w =>
 U (st 35 t3 t11) w fun w =>
 ∃ (I0 : List Value → World → Prop) (M0 : List Value → World → Nat), I0 [(.int .i64 0)] w ∧ ∀ g : Env, ∀ t4, ∀ w, I0 [t4] w → ∀ m0, m0 = M0 [t4] w →
 V (Builtin.len_ #[22] 3 #[t0]) w fun t14 w =>
 V (bi .lss 3 t4 t14) w fun t15 w =>
 CondW t15
 (∀ K0 : List Value → World → Prop, (∀ t5, ∀ w, (∀ g : Env,
 ∀ K0 : List Value → World → Prop, (∀ w, (∀ g : Env,
 V (fa 35 t3 1) w fun t31 w =>
 V (ld 29 t31) w fun t32 w =>
 V (fa 53 t5 1) w fun t33 w =>
 V (ld 39 t33) w fun t34 w =>
 V (bs 29 1 #[(0, t34)]) w fun t35 w =>
 V (Builtin.append_ #[29, 29] 29 #[t32, t35]) w fun t36 w =>
 V (fa 35 t3 1) w fun t37 w =>
 U (st 29 t37 t36) w fun w =>
 V (fa 35 t3 2) w fun t38 w =>
 V (ld 30 t38) w fun t39 w =>
 V (fa 53 t5 2) w fun t40 w =>
 V (ld 31 t40) w fun t41 w =>
 V (bs 30 1 #[(0, t41)]) w fun t42 w =>
 V (Builtin.append_ #[30, 30] 30 #[t39, t42]) w fun t43 w =>
 V (fa 35 t3 2) w fun t44 w =>
 U (st 30 t44 t43) w fun w =>
 V (bi .add 3 t4 (.int .i64 1)) w fun t17 w =>
 I0 [t17] w ∧ M0 [t17] w < m0) → K0 [] w) →
 V (fa 53 t5 2) w fun t25 w =>
 V (ld 31 t25) w fun t26 w =>
 V (eq .eql 31 (.tmp 26) (.const (.int .i64 0)) t26 (.int .i64 0)) w fun t27 w =>
 CondW t27
 (V (fa 53 t5 0) w fun t28 w =>
 V (ld 28 t28) w fun t29 w =>
 V (fa 35 t3 0) w fun t30 w =>
 U (st 28 t30 t29) w fun w =>
 K0 [] w)
 (K0 [] w)) → K0 [t5] w) →
 Dr w fun w =>
 PV (fa 35 t3 0) fun t18 =>
 HV (ld 28 t18) w fun t19 =>
 PV (ia 22 t0 t4) fun t22 =>
 HV (ld 25 t22) w fun t23 =>
 (CV (.func (.func 52) #[] #[]) #[t19, t23] w fun t24 w =>
 V (al 53) w fun t5 w =>
 U (st 53 t5 t24) w fun w =>
 K0 [t5] w) ∧
 (V (al 53) w fun t5 w =>
 RunIs (ld 25 t22) w t23 ∧ RunIs (ld 28 t18) w t19 ∧ (CV (.func (.func 52) #[] #[]) #[t19, t23] w fun t24 w =>
 U (st 53 t5 t24) w fun w =>
 K0 [t5] w)))
 (V (ld 35 t3) w fun t45 w =>
 U (st 35 t2 t45) w fun w =>
 CW 35 t2 w fun t1002 => R t1002 w))
theorem eq14 (R : Value → World → Prop) (w : World) (t0 : Value) : enterW Try.prog Try.f14 an14 [t0] w R = vc14 R w t0 := by kernel_rfl
theorem en14 {R : Value → World → Prop} {w : World} {t0 : Value} (h : vc14 R w t0) : Calls Try.prog 14 #[t0] w (retK R) :=
  calls_of_enter mixed Try.func14 (by kernel_rfl) (by rw [eq14]; exact h)

-- qanat/qanatref10.Same
def an15 : Ann := (.seq (.reg (opn 3 .done)) (.seq (.seq (.reg (opn 7 .done)) (.cond (.seq (.reg (opn 1 .done)) .leaf) .leaf)) (.seq (.seq (.reg (opn 1 .done)) (.one (.loop [5] [17, 18, 19, 20, 21, 24, 25, 26, 27, 28, 6, 29, 30, 31, 32, 33, 7, 34, 35, 36, 37, 38, 39, 40, 41, 42, 43, 44, 45, 46, 47, 48, 49, 50, 51, 52, 53, 54, 55, 56, 4, 8, 57, 58, 59, 60, 61, 64, 65, 66, 67, 68, 69, 70, 71, 72, 73, 74, 62, 63, 9, 75, 76, 77, 78, 79, 82, 83, 84, 85, 86, 87, 88, 89, 90, 91, 92, 80, 81, 22, 23, 5] (.seq (.seq (.reg (opn 5 .done)) (.cond .leaf .leaf)) (.seq (.one (.seq (.reg (opn 7 .done)) (.seq (.reg (opn 7 .done)) (.seq (.seq (.reg (opn 6 (.join [47] [40, 41, 42, 43, 44, 45, 46, 47] (.split 39 (opn 8 .done) (opn 8 .done)) (opn 1 (.join [56] [49, 50, 51, 52, 53, 54, 55, 56] (.split 48 (opn 8 .done) (opn 8 .done)) .done))))) (.cond (.seq (.reg (opn 1 .done)) .leaf) .leaf)) (.seq (.seq (.reg (opn 1 .done)) (.one (.loop [8] [57, 58, 59, 60, 61, 64, 65, 66, 67, 68, 69, 70, 71, 72, 73, 74, 4, 62, 63, 8] (.seq (.seq (.reg (opn 5 .done)) (.cond .leaf .leaf)) (.seq (.one (.seq (.draw (.take 0 (.hold 1 (.take 2 (.take 3 (.hold 4 (.take 5 (.hold 6 (.take 7 (.take 8 (.hold 9 (.take 10 .done)))))))))))) (.cond (.seq (.reg (opn 1 .done)) .leaf) .leaf))) (.reg (opn 3 .done))))))) (.seq (.reg (opn 1 .done)) (.one (.loop [9] [75, 76, 77, 78, 79, 82, 83, 84, 85, 86, 87, 88, 89, 90, 91, 92, 4, 80, 81, 9] (.seq (.seq (.reg (opn 5 .done)) (.cond .leaf .leaf)) (.seq (.one (.seq (.draw (.take 0 (.hold 1 (.take 2 (.take 3 (.hold 4 (.take 5 (.hold 6 (.take 7 (.take 8 (.hold 9 (.take 10 .done)))))))))))) (.cond (.seq (.reg (opn 1 .done)) .leaf) .leaf))) (.reg (opn 3 .done)))))))))))) (.reg (opn 3 .done))))))) (.seq (.reg (opn 1 .done)) .leaf))))
def vc15 (R : Value → World → Prop) (w : World) (t0 t1 : Value) : Prop :=
 V (bx 28 t0) w fun t2 w =>
 V (bx 28 t1) w fun t3 w =>
 V (fa 28 t2 0) w fun t10 w =>
 V (ld 26 t10) w fun t11 w =>
 V (Builtin.len_ #[26] 3 #[t11]) w fun t12 w =>
 V (fa 28 t3 0) w fun t13 w =>
 V (ld 26 t13) w fun t14 w =>
 V (Builtin.len_ #[26] 3 #[t14]) w fun t15 w =>
 V (eq .neq 3 (.tmp 12) (.tmp 15) t12 t15) w fun t16 w =>
 CondW t16
 (R (.bool false) w)
 (∃ (I0 : List Value → World → Prop) (M0 : List Value → World → Nat), I0 [(.int .i64 0)] w ∧ ∀ g : Env, ∀ t5, ∀ w, I0 [t5] w → ∀ m0, m0 = M0 [t5] w →
 V (fa 28 t2 0) w fun t18 w =>
 V (ld 26 t18) w fun t19 w =>
 V (Builtin.len_ #[26] 3 #[t19]) w fun t20 w =>
 V (bi .lss 3 t5 t20) w fun t21 w =>
 CondW t21
 (V (fa 28 t2 0) w fun t24 w =>
 V (ld 26 t24) w fun t25 w =>
 V (ia 26 t25 t5) w fun t27 w =>
 V (ld 63 t27) w fun t28 w =>
 V (al 63) w fun t6 w =>
 U (st 63 t6 t28) w fun w =>
 V (fa 28 t3 0) w fun t29 w =>
 V (ld 26 t29) w fun t30 w =>
 V (ia 26 t30 t5) w fun t32 w =>
 V (ld 63 t32) w fun t33 w =>
 V (al 63) w fun t7 w =>
 U (st 63 t7 t33) w fun w =>
 V (fa 63 t6 2) w fun t34 w =>
 V (ld 61 t34) w fun t35 w =>
 V (fa 63 t7 2) w fun t36 w =>
 V (ld 61 t36) w fun t37 w =>
 V (eq .neq 61 (.tmp 35) (.tmp 37) t35 t37) w fun t38 w =>
 ∀ K0 : List Value → World → Prop, (∀ t47, ∀ w, (∀ g : Env,
 ∀ K0 : List Value → World → Prop, (∀ t56, ∀ w, (∀ g : Env,
 CondW t56
 (R (.bool false) w)
 (∃ (I1 : List Value → World → Prop) (M1 : List Value → World → Nat), I1 [(.int .i64 0)] w ∧ ∀ g : Env, ∀ t8, ∀ w, I1 [t8] w → ∀ m1, m1 = M1 [t8] w →
 V (fa 63 t6 0) w fun t58 w =>
 V (ld 58 t58) w fun t59 w =>
 V (Builtin.len_ #[58] 3 #[t59]) w fun t60 w =>
 V (bi .lss 3 t8 t60) w fun t61 w =>
 CondW t61
 (Dr w fun w =>
 PV (fa 63 t6 0) fun t64 =>
 HV (ld 58 t64) w fun t65 =>
 PV (ia 58 t65 t8) fun t67 =>
 HV (ld 73 t67) w fun t68 =>
 PV (fa 63 t7 0) fun t69 =>
 HV (ld 58 t69) w fun t70 =>
 PV (ia 58 t70 t8) fun t72 =>
 HV (ld 73 t72) w fun t73 =>
 PV (eq .neq 73 (.tmp 68) (.tmp 73) t68 t73) fun t74 =>
 CondW t74
 (R (.bool false) w)
 (V (bi .add 3 t8 (.int .i64 1)) w fun t63 w =>
 I1 [t63] w ∧ M1 [t63] w < m1))
 (∃ (I2 : List Value → World → Prop) (M2 : List Value → World → Nat), I2 [(.int .i64 0)] w ∧ ∀ g : Env, ∀ t9, ∀ w, I2 [t9] w → ∀ m2, m2 = M2 [t9] w →
 V (fa 63 t6 1) w fun t76 w =>
 V (ld 59 t76) w fun t77 w =>
 V (Builtin.len_ #[59] 3 #[t77]) w fun t78 w =>
 V (bi .lss 3 t9 t78) w fun t79 w =>
 CondW t79
 (Dr w fun w =>
 PV (fa 63 t6 1) fun t82 =>
 HV (ld 59 t82) w fun t83 =>
 PV (ia 59 t83 t9) fun t85 =>
 HV (ld 70 t85) w fun t86 =>
 PV (fa 63 t7 1) fun t87 =>
 HV (ld 59 t87) w fun t88 =>
 PV (ia 59 t88 t9) fun t90 =>
 HV (ld 70 t90) w fun t91 =>
 PV (eq .neq 70 (.tmp 86) (.tmp 91) t86 t91) fun t92 =>
 CondW t92
 (R (.bool false) w)
 (V (bi .add 3 t9 (.int .i64 1)) w fun t81 w =>
 I2 [t81] w ∧ M2 [t81] w < m2))
 (V (bi .add 3 t5 (.int .i64 1)) w fun t23 w =>
 I0 [t23] w ∧ M0 [t23] w < m0)))) → K0 [t56] w) →
 CondW t47
 (K0 [(.bool true)] w)
 (V (fa 63 t6 1) w fun t49 w =>
 V (ld 59 t49) w fun t50 w =>
 V (Builtin.len_ #[59] 3 #[t50]) w fun t51 w =>
 V (fa 63 t7 1) w fun t52 w =>
 V (ld 59 t52) w fun t53 w =>
 V (Builtin.len_ #[59] 3 #[t53]) w fun t54 w =>
 V (eq .neq 3 (.tmp 51) (.tmp 54) t51 t54) w fun t55 w =>
 K0 [t55] w)) → K0 [t47] w) →
 CondW t38
 (K0 [(.bool true)] w)
 (V (fa 63 t6 0) w fun t40 w =>
 V (ld 58 t40) w fun t41 w =>
 V (Builtin.len_ #[58] 3 #[t41]) w fun t42 w =>
 V (fa 63 t7 0) w fun t43 w =>
 V (ld 58 t43) w fun t44 w =>
 V (Builtin.len_ #[58] 3 #[t44]) w fun t45 w =>
 V (eq .neq 3 (.tmp 42) (.tmp 45) t42 t45) w fun t46 w =>
 K0 [t46] w))
 (R (.bool true) w))
theorem eq15 (R : Value → World → Prop) (w : World) (t0 t1 : Value) : enterW Try.prog Try.f15 an15 [t0, t1] w R = vc15 R w t0 t1 := by kernel_rfl
theorem en15 {R : Value → World → Prop} {w : World} {t0 t1 : Value} (h : vc15 R w t0 t1) : Calls Try.prog 15 #[t0, t1] w (retK R) :=
  calls_of_enter mixed Try.func15 (by kernel_rfl) (by rw [eq15]; exact h)

-- qanat/qanatlaw10.played
def an16 : Ann := (.seq (.reg (opn 2 .done)) (.seq (.seq (.reg (opn 4 (.join [14] [12, 13, 14] (.split 11 (opn 3 .done) (opn 3 .done)) .done))) (.cond (.seq (.reg (opn 3 .done)) .leaf) .leaf)) (.seq (.reg (opn 12 .done)) (.seq (.reg (opn 5 .done)) .leaf))))
def vc16 (R : Value → World → Prop) (w : World) (t0 : Value) : Prop :=
 V (al 28) w fun t2 w =>
 V (Builtin.len_ #[22] 3 #[t0]) w fun t9 w =>
 V (bi .gtr 3 t9 (.int .i64 200)) w fun t10 w =>
 ∀ K0 : List Value → World → Prop, (∀ t14, ∀ w, (∀ g : Env,
 CondW t14
 (V (bd 28 #[]) w fun t15 w =>
 U (st 28 t2 t15) w fun w =>
 CW 28 t2 w fun t1002 => R (.tuple #[t1002, (.bool false)]) w)
 (CV (.func (.func 13) #[] #[]) #[t0] w fun t18 w =>
 V (ex t18 0) w fun t19 w =>
 V (ex t18 1) w fun t20 w =>
 V (ex t18 2) w fun t21 w =>
 V (ex t18 3) w fun t22 w =>
 V (al 28) w fun t4 w =>
 U (st 28 t4 t19) w fun w =>
 V (ld 28 t4) w fun t23 w =>
 V (eq .eql 31 (.tmp 24) (.const (.int .i64 0)) t22 (.int .i64 0)) w fun t25 w =>
 U (st 28 t2 t23) w fun w =>
 CW 28 t2 w fun t1002 => R (.tuple #[t1002, t25]) w)) → K0 [t14] w) →
 CondW t10
 (K0 [(.bool true)] w)
 (CV (.func (.func 53) #[] #[]) #[t0, (.func (.func 54) #[] #[])] w fun t13 w =>
 K0 [t13] w)
theorem eq16 (R : Value → World → Prop) (w : World) (t0 : Value) : enterW Try.prog Try.f16 an16 [t0] w R = vc16 R w t0 := by kernel_rfl
theorem en16 {R : Value → World → Prop} {w : World} {t0 : Value} (h : vc16 R w t0) : Calls Try.prog 16 #[t0] w (retK R) :=
  calls_of_enter mixed Try.func16 (by kernel_rfl) (by rw [eq16]; exact h)

-- qanat/trap.Check
def an17 : Ann := (.seq (.reg (opn 2 .done)) (.seq (.reg (opn 4 .done)) (.seq (.reg (opn 3 (.join [12] [10, 11, 12] (.split 9 (opn 3 .done) (opn 3 .done)) (opn 1 (.join [18] [14, 15, 16, 17, 18] (.split 13 (opn 5 .done) (opn 5 .done)) (opn 2 .done)))))) .leaf)))
def vc17 (R : Value → World → Prop) (w : World) (t0 : Value) : Prop :=
 V (bx 28 t0) w fun t1 w =>
 V (fa 28 t1 0) w fun t4 w =>
 V (ld 26 t4) w fun t5 w =>
 V (Builtin.len_ #[26] 3 #[t5]) w fun t6 w =>
 V (bi .leq 3 (.int .i64 1) t6) w fun t8 w =>
 ∀ K0 : List Value → World → Prop, (∀ t12, ∀ w, (∀ g : Env,
 ∀ K0 : List Value → World → Prop, (∀ t18, ∀ w, (∀ g : Env,
 CV (.func (.func 55) #[] #[]) #[t18, (.int .i64 2)] w fun t19 w =>
 R t19 w) → K0 [t18] w) →
 CondW t12
 (V (fa 28 t1 0) w fun t14 w =>
 V (ld 26 t14) w fun t15 w =>
 CV (.func (.func 56) #[] #[]) #[t15, (.func (.func 57) #[] #[])] w fun t16 w =>
 V (un .not t16) w fun t17 w =>
 K0 [t17] w)
 (K0 [(.bool false)] w)) → K0 [t12] w) →
 CondW t8
 (V (bi .leq 3 t6 (.int .i64 30)) w fun t11 w =>
 K0 [t11] w)
 (K0 [(.bool false)] w)
theorem eq17 (R : Value → World → Prop) (w : World) (t0 : Value) : enterW Try.prog Try.f17 an17 [t0] w R = vc17 R w t0 := by kernel_rfl
theorem en17 {R : Value → World → Prop} {w : World} {t0 : Value} (h : vc17 R w t0) : Calls Try.prog 17 #[t0] w (retK R) :=
  calls_of_enter mixed Try.func17 (by kernel_rfl) (by rw [eq17]; exact h)

-- qanat/trap.EndClause
def an18 : Ann := (.seq (.reg (opn 4 .done)) (.seq (.reg (opn 9 .done)) .leaf))
def vc18 (R : Value → World → Prop) (w : World) (t0 : Value) : Prop :=
 V (bx 28 t0) w fun t1 w =>
 V (al 28) w fun t2 w =>
 V (al 39) w fun t3 w =>
 V (ld 28 t1) w fun t5 w =>
 V (bd 25 #[(0, (.int .i64 3))]) w fun t6 w =>
 CV (.func (.func 51) #[] #[]) #[t5, t6, (.slice none 0 0)] w fun t7 w =>
 V (ex t7 0) w fun t8 w =>
 V (ex t7 1) w fun t9 w =>
 V (ex t7 2) w fun t10 w =>
 U (st 28 t2 t8) w fun w =>
 U (st 39 t3 t9) w fun w =>
 CW 28 t2 w fun t1002 => CW 39 t3 w fun t1003 => R (.tuple #[t1002, t1003, t10]) w
theorem eq18 (R : Value → World → Prop) (w : World) (t0 : Value) : enterW Try.prog Try.f18 an18 [t0] w R = vc18 R w t0 := by kernel_rfl
theorem en18 {R : Value → World → Prop} {w : World} {t0 : Value} (h : vc18 R w t0) : Calls Try.prog 18 #[t0] w (retK R) :=
  calls_of_enter mixed Try.func18 (by kernel_rfl) (by rw [eq18]; exact h)

-- qanat/trap.Return
def an19 : Ann := (.seq (.reg (opn 3 .done)) (.seq (.reg (opn 12 .done)) (.seq (.reg (opn 4 .done)) .leaf)))
def vc19 (R : Value → World → Prop) (w : World) (t0 : Value) : Prop :=
 V (bx 28 t0) w fun t1 w =>
 V (al 28) w fun t2 w =>
 V (ld 28 t1) w fun t8 w =>
 V (bd 25 #[(0, (.int .i64 5))]) w fun t9 w =>
 CV (.func (.func 51) #[] #[]) #[t8, t9, (.slice none 0 0)] w fun t10 w =>
 V (ex t10 0) w fun t11 w =>
 V (ex t10 1) w fun t12 w =>
 V (ex t10 2) w fun t13 w =>
 V (al 28) w fun t4 w =>
 V (al 39) w fun t5 w =>
 U (st 28 t4 t11) w fun w =>
 U (st 39 t5 t12) w fun w =>
 V (ld 28 t4) w fun t14 w =>
 U (st 28 t2 t14) w fun w =>
 CW 28 t2 w fun t1002 => R (.tuple #[t1002, t13]) w
theorem eq19 (R : Value → World → Prop) (w : World) (t0 : Value) : enterW Try.prog Try.f19 an19 [t0] w R = vc19 R w t0 := by kernel_rfl
theorem en19 {R : Value → World → Prop} {w : World} {t0 : Value} (h : vc19 R w t0) : Calls Try.prog 19 #[t0] w (retK R) :=
  calls_of_enter mixed Try.func19 (by kernel_rfl) (by rw [eq19]; exact h)

-- qanat/qanatlaw10.small
def an20 : Ann := (.seq (.reg (opn 2 .done)) (.seq (.seq (.reg (opn 4 .done)) (.cond (.seq (.reg (opn 1 .done)) .leaf) .leaf)) (.seq (.seq (.reg (opn 1 .done)) (.one (.loop [3] [11, 12, 13, 14, 15, 18, 19, 20, 21, 22, 4, 23, 24, 25, 26, 27, 28, 29, 30, 31, 32, 33, 34, 35, 36, 37, 38, 39, 2, 5, 40, 41, 42, 43, 44, 47, 48, 49, 50, 51, 52, 53, 54, 45, 46, 6, 55, 56, 57, 58, 59, 62, 63, 64, 65, 66, 67, 68, 69, 60, 61, 16, 17, 3] (.seq (.seq (.reg (opn 5 .done)) (.cond .leaf .leaf)) (.seq (.one (.seq (.reg (opn 7 .done)) (.seq (.seq (.reg (opn 5 (.join [32] [28, 29, 30, 31, 32] (.split 27 (opn 5 .done) (opn 5 .done)) (opn 1 (.join [39] [34, 35, 36, 37, 38, 39] (.split 33 (opn 6 .done) (opn 6 .done)) .done))))) (.cond (.seq (.reg (opn 1 .done)) .leaf) .leaf)) (.seq (.seq (.reg (opn 1 .done)) (.one (.loop [5] [40, 41, 42, 43, 44, 47, 48, 49, 50, 51, 52, 53, 54, 2, 45, 46, 5] (.seq (.seq (.reg (opn 5 .done)) (.cond .leaf .leaf)) (.seq (.one (.seq (.reg (opn 8 .done)) (.cond (.seq (.reg (opn 1 .done)) .leaf) .leaf))) (.reg (opn 3 .done))))))) (.seq (.reg (opn 1 .done)) (.one (.loop [6] [55, 56, 57, 58, 59, 62, 63, 64, 65, 66, 67, 68, 69, 2, 60, 61, 6] (.seq (.seq (.reg (opn 5 .done)) (.cond .leaf .leaf)) (.seq (.one (.seq (.reg (opn 8 .done)) (.cond (.seq (.reg (opn 1 .done)) .leaf) .leaf))) (.reg (opn 3 .done))))))))))) (.reg (opn 3 .done))))))) (.seq (.reg (opn 1 .done)) .leaf))))
def vc20 (R : Value → World → Prop) (w : World) (t0 : Value) : Prop :=
 V (bx 28 t0) w fun t1 w =>
 V (fa 28 t1 0) w fun t7 w =>
 V (ld 26 t7) w fun t8 w =>
 V (Builtin.len_ #[26] 3 #[t8]) w fun t9 w =>
 V (bi .gtr 3 t9 (.int .i64 35)) w fun t10 w =>
 CondW t10
 (R (.bool false) w)
 (∃ (I0 : List Value → World → Prop) (M0 : List Value → World → Nat), I0 [(.int .i64 0)] w ∧ ∀ g : Env, ∀ t3, ∀ w, I0 [t3] w → ∀ m0, m0 = M0 [t3] w →
 V (fa 28 t1 0) w fun t12 w =>
 V (ld 26 t12) w fun t13 w =>
 V (Builtin.len_ #[26] 3 #[t13]) w fun t14 w =>
 V (bi .lss 3 t3 t14) w fun t15 w =>
 CondW t15
 (V (fa 28 t1 0) w fun t18 w =>
 V (ld 26 t18) w fun t19 w =>
 V (ia 26 t19 t3) w fun t21 w =>
 V (ld 63 t21) w fun t22 w =>
 V (al 63) w fun t4 w =>
 U (st 63 t4 t22) w fun w =>
 V (fa 63 t4 0) w fun t23 w =>
 V (ld 58 t23) w fun t24 w =>
 V (Builtin.len_ #[58] 3 #[t24]) w fun t25 w =>
 V (bi .gtr 3 t25 (.int .i64 20)) w fun t26 w =>
 ∀ K0 : List Value → World → Prop, (∀ t32, ∀ w, (∀ g : Env,
 ∀ K0 : List Value → World → Prop, (∀ t39, ∀ w, (∀ g : Env,
 CondW t39
 (R (.bool false) w)
 (∃ (I1 : List Value → World → Prop) (M1 : List Value → World → Nat), I1 [(.int .i64 0)] w ∧ ∀ g : Env, ∀ t5, ∀ w, I1 [t5] w → ∀ m1, m1 = M1 [t5] w →
 V (fa 63 t4 0) w fun t41 w =>
 V (ld 58 t41) w fun t42 w =>
 V (Builtin.len_ #[58] 3 #[t42]) w fun t43 w =>
 V (bi .lss 3 t5 t43) w fun t44 w =>
 CondW t44
 (V (fa 63 t4 0) w fun t47 w =>
 V (ld 58 t47) w fun t48 w =>
 V (ia 58 t48 t5) w fun t50 w =>
 V (fa 73 t50 1) w fun t51 w =>
 V (ld 9 t51) w fun t52 w =>
 V (Builtin.len_ #[9] 3 #[t52]) w fun t53 w =>
 V (bi .gtr 3 t53 (.int .i64 1100)) w fun t54 w =>
 CondW t54
 (R (.bool false) w)
 (V (bi .add 3 t5 (.int .i64 1)) w fun t46 w =>
 I1 [t46] w ∧ M1 [t46] w < m1))
 (∃ (I2 : List Value → World → Prop) (M2 : List Value → World → Nat), I2 [(.int .i64 0)] w ∧ ∀ g : Env, ∀ t6, ∀ w, I2 [t6] w → ∀ m2, m2 = M2 [t6] w →
 V (fa 63 t4 1) w fun t56 w =>
 V (ld 59 t56) w fun t57 w =>
 V (Builtin.len_ #[59] 3 #[t57]) w fun t58 w =>
 V (bi .lss 3 t6 t58) w fun t59 w =>
 CondW t59
 (V (fa 63 t4 1) w fun t62 w =>
 V (ld 59 t62) w fun t63 w =>
 V (ia 59 t63 t6) w fun t65 w =>
 V (fa 70 t65 1) w fun t66 w =>
 V (ld 9 t66) w fun t67 w =>
 V (Builtin.len_ #[9] 3 #[t67]) w fun t68 w =>
 V (bi .gtr 3 t68 (.int .i64 1100)) w fun t69 w =>
 CondW t69
 (R (.bool false) w)
 (V (bi .add 3 t6 (.int .i64 1)) w fun t61 w =>
 I2 [t61] w ∧ M2 [t61] w < m2))
 (V (bi .add 3 t3 (.int .i64 1)) w fun t17 w =>
 I0 [t17] w ∧ M0 [t17] w < m0)))) → K0 [t39] w) →
 CondW t32
 (K0 [(.bool true)] w)
 (V (fa 63 t4 2) w fun t34 w =>
 V (fa 61 t34 2) w fun t35 w =>
 V (ld 9 t35) w fun t36 w =>
 V (Builtin.len_ #[9] 3 #[t36]) w fun t37 w =>
 V (bi .gtr 3 t37 (.int .i64 1100)) w fun t38 w =>
 K0 [t38] w)) → K0 [t32] w) →
 CondW t26
 (K0 [(.bool true)] w)
 (V (fa 63 t4 1) w fun t28 w =>
 V (ld 59 t28) w fun t29 w =>
 V (Builtin.len_ #[59] 3 #[t29]) w fun t30 w =>
 V (bi .gtr 3 t30 (.int .i64 20)) w fun t31 w =>
 K0 [t31] w))
 (R (.bool true) w))
theorem eq20 (R : Value → World → Prop) (w : World) (t0 : Value) : enterW Try.prog Try.f20 an20 [t0] w R = vc20 R w t0 := by kernel_rfl
theorem en20 {R : Value → World → Prop} {w : World} {t0 : Value} (h : vc20 R w t0) : Calls Try.prog 20 #[t0] w (retK R) :=
  calls_of_enter mixed Try.func20 (by kernel_rfl) (by rw [eq20]; exact h)

-- qanat/trap.Set
def an21 : Ann := (.seq (.reg (opn 3 .done)) (.seq (.reg (opn 17 .done)) (.seq (.reg (opn 4 .done)) .leaf)))
def vc21 (R : Value → World → Prop) (w : World) (t0 t1 t2 t3 : Value) : Prop :=
 V (bx 28 t0) w fun t4 w =>
 V (al 28) w fun t8 w =>
 V (ld 28 t4) w fun t14 w =>
 V (bd 25 #[(0, (.int .i64 1)), (1, t1), (2, t2), (3, t3)]) w fun t18 w =>
 V (bs 68 1 #[(0, t1)]) w fun t20 w =>
 CV (.func (.func 51) #[] #[]) #[t14, t18, t20] w fun t21 w =>
 V (ex t21 0) w fun t22 w =>
 V (ex t21 1) w fun t23 w =>
 V (ex t21 2) w fun t24 w =>
 V (al 28) w fun t10 w =>
 V (al 39) w fun t11 w =>
 U (st 28 t10 t22) w fun w =>
 U (st 39 t11 t23) w fun w =>
 V (ld 28 t10) w fun t25 w =>
 U (st 28 t8 t25) w fun w =>
 CW 28 t8 w fun t1008 => R (.tuple #[t1008, t24]) w
theorem eq21 (R : Value → World → Prop) (w : World) (t0 t1 t2 t3 : Value) : enterW Try.prog Try.f21 an21 [t0, t1, t2, t3] w R = vc21 R w t0 t1 t2 t3 := by kernel_rfl
theorem en21 {R : Value → World → Prop} {w : World} {t0 t1 t2 t3 : Value} (h : vc21 R w t0 t1 t2 t3) : Calls Try.prog 21 #[t0, t1, t2, t3] w (retK R) :=
  calls_of_enter mixed Try.func21 (by kernel_rfl) (by rw [eq21]; exact h)

-- qanat/trap.Raise
def an22 : Ann := (.seq (.reg (opn 4 .done)) (.seq (.reg (opn 13 .done)) .leaf))
def vc22 (R : Value → World → Prop) (w : World) (t0 t1 t2 : Value) : Prop :=
 V (bx 28 t0) w fun t3 w =>
 V (al 28) w fun t6 w =>
 V (al 39) w fun t7 w =>
 V (ld 28 t3) w fun t9 w =>
 V (bd 25 #[(0, (.int .i64 2)), (1, t1), (3, t2)]) w fun t12 w =>
 V (bs 68 1 #[(0, t1)]) w fun t14 w =>
 CV (.func (.func 51) #[] #[]) #[t9, t12, t14] w fun t15 w =>
 V (ex t15 0) w fun t16 w =>
 V (ex t15 1) w fun t17 w =>
 V (ex t15 2) w fun t18 w =>
 U (st 28 t6 t16) w fun w =>
 U (st 39 t7 t17) w fun w =>
 CW 28 t6 w fun t1006 => CW 39 t7 w fun t1007 => R (.tuple #[t1006, t1007, t18]) w
theorem eq22 (R : Value → World → Prop) (w : World) (t0 t1 t2 : Value) : enterW Try.prog Try.f22 an22 [t0, t1, t2] w R = vc22 R w t0 t1 t2 := by kernel_rfl
theorem en22 {R : Value → World → Prop} {w : World} {t0 t1 t2 : Value} (h : vc22 R w t0 t1 t2) : Calls Try.prog 22 #[t0, t1, t2] w (retK R) :=
  calls_of_enter mixed Try.func22 (by kernel_rfl) (by rw [eq22]; exact h)

-- qanat/trap.Call
def an23 : Ann := (.seq (.reg (opn 3 .done)) (.seq (.reg (opn 12 .done)) (.seq (.reg (opn 4 .done)) .leaf)))
def vc23 (R : Value → World → Prop) (w : World) (t0 : Value) : Prop :=
 V (bx 28 t0) w fun t1 w =>
 V (al 28) w fun t2 w =>
 V (ld 28 t1) w fun t8 w =>
 V (bd 25 #[(0, (.int .i64 4))]) w fun t9 w =>
 CV (.func (.func 51) #[] #[]) #[t8, t9, (.slice none 0 0)] w fun t10 w =>
 V (ex t10 0) w fun t11 w =>
 V (ex t10 1) w fun t12 w =>
 V (ex t10 2) w fun t13 w =>
 V (al 28) w fun t4 w =>
 V (al 39) w fun t5 w =>
 U (st 28 t4 t11) w fun w =>
 U (st 39 t5 t12) w fun w =>
 V (ld 28 t4) w fun t14 w =>
 U (st 28 t2 t14) w fun w =>
 CW 28 t2 w fun t1002 => R (.tuple #[t1002, t13]) w
theorem eq23 (R : Value → World → Prop) (w : World) (t0 : Value) : enterW Try.prog Try.f23 an23 [t0] w R = vc23 R w t0 := by kernel_rfl
theorem en23 {R : Value → World → Prop} {w : World} {t0 : Value} (h : vc23 R w t0) : Calls Try.prog 23 #[t0] w (retK R) :=
  calls_of_enter mixed Try.func23 (by kernel_rfl) (by rw [eq23]; exact h)

-- qanat/qanatlaw10.agrees
def an24 : Ann := (.seq (.reg (opn 4 .done)) (.seq (.reg (opn 5 (.join [18] [14, 15, 16, 17, 18] (.split 13 (opn 5 .done) (opn 5 .done)) (opn 1 (.join [24] [20, 21, 22, 23, 24] (.split 19 (opn 5 .done) (opn 5 .done)) (opn 1 .done)))))) .leaf))
def vc24 (R : Value → World → Prop) (w : World) (t0 t1 t2 t3 : Value) : Prop :=
 V (bx 28 t0) w fun t4 w =>
 V (bx 39 t1) w fun t5 w =>
 V (bx 53 t3) w fun t7 w =>
 V (fa 53 t7 2) w fun t10 w =>
 V (ld 31 t10) w fun t11 w =>
 V (eq .eql 31 (.tmp 9) (.tmp 11) t2 t11) w fun t12 w =>
 ∀ K0 : List Value → World → Prop, (∀ t18, ∀ w, (∀ g : Env,
 ∀ K0 : List Value → World → Prop, (∀ t24, ∀ w, (∀ g : Env,
 R t24 w) → K0 [t24] w) →
 CondW t18
 (V (ld 28 t4) w fun t20 w =>
 V (fa 53 t7 0) w fun t21 w =>
 V (ld 28 t21) w fun t22 w =>
 CV (.func (.func 15) #[] #[]) #[t20, t22] w fun t23 w =>
 K0 [t23] w)
 (K0 [(.bool false)] w)) → K0 [t18] w) →
 CondW t12
 (V (ld 39 t5) w fun t14 w =>
 V (fa 53 t7 1) w fun t15 w =>
 V (ld 39 t15) w fun t16 w =>
 V (eq .eql 39 (.tmp 14) (.tmp 16) t14 t16) w fun t17 w =>
 K0 [t17] w)
 (K0 [(.bool false)] w)
theorem eq24 (R : Value → World → Prop) (w : World) (t0 t1 t2 t3 : Value) : enterW Try.prog Try.f24 an24 [t0, t1, t2, t3] w R = vc24 R w t0 t1 t2 t3 := by kernel_rfl
theorem en24 {R : Value → World → Prop} {w : World} {t0 t1 t2 t3 : Value} (h : vc24 R w t0 t1 t2 t3) : Calls Try.prog 24 #[t0, t1, t2, t3] w (retK R) :=
  calls_of_enter mixed Try.func24 (by kernel_rfl) (by rw [eq24]; exact h)

-- qanat/qanatref10.Set
def an25 : Ann := (.seq (.reg (opn 2 .done)) (.seq (.reg (opn 5 .done)) (.seq (.seq (.reg (opn 3 .done)) (.cond (.seq (.reg (opn 2 .done)) .leaf) .leaf)) (.seq (.seq (.reg (opn 3 (.join [25] [23, 24, 25] (.split 22 (opn 3 .done) (opn 3 .done)) (opn 1 (.join [29] [27, 28, 29] (.split 26 (opn 3 .done) (opn 3 .done)) (opn 1 (.join [38] [31, 32, 33, 34, 35, 36, 37, 38] (.split 30 (opn 8 .done) (opn 3 (.join [37] [34, 35, 36, 37] (.split 33 (opn 4 .done) (opn 4 .done)) (opn 1 .done)))) .done))))))) (.cond (.seq (.reg (opn 2 .done)) .leaf) .leaf)) (.seq (.seq (.reg (opn 3 (.join [46] [43, 44, 45, 46] (.split 42 (opn 4 .done) (opn 4 .done)) .done))) (.cond (.seq (.reg (opn 2 .done)) .leaf) .leaf)) (.seq (.reg (opn 6 .done)) (.seq (.reg (opn 12 .done)) (.seq (.reg (opn 5 .done)) (.seqJ [] [66, 67, 68, 69, 70] (.seq (.reg (opn 2 .done)) (.cond (.reg (opn 4 .done)) .leaf)) (.seqJ [] [71, 72, 73, 74, 75] (.seq (.reg (opn 2 .done)) (.cond (.reg (opn 4 .done)) .leaf)) (.seqJ [] [76, 77, 78] (.seq (.reg (opn 2 .done)) (.cond (.reg (opn 2 .done)) .leaf)) (.seq (.draw (.take 0 (.take 1 (.hold 2 (.take 3 (.take 4 (.take 5 (.hold 6 (.take 7 (.hold 8 (.take 9 (.alts (.eff 10 .done .nil))))))))))))) (.seq (.reg (opn 2 .done)) .leaf)))))))))))))
def vc25 (R : Value → World → Prop) (w : World) (t0 t1 t2 t3 : Value) : Prop :=
 V (bx 28 t0) w fun t4 w =>
 V (al 53) w fun t8 w =>
 V (ld 28 t4) w fun t13 w =>
 CV (.func (.func 59) #[] #[]) #[t13, t1] w fun t15 w =>
 V (al 53) w fun t9 w =>
 U (st 53 t9 t15) w fun w =>
 V (fa 53 t9 2) w fun t16 w =>
 V (ld 31 t16) w fun t17 w =>
 V (eq .neq 31 (.tmp 17) (.const (.int .i64 0)) t17 (.int .i64 0)) w fun t18 w =>
 CondW t18
 (V (ld 53 t9) w fun t19 w =>
 U (st 53 t8 t19) w fun w =>
 CW 53 t8 w fun t1008 => R t1008 w)
 (V (eq .neq 3 (.tmp 20) (.const (.int .i64 0)) t2 (.int .i64 0)) w fun t21 w =>
 ∀ K0 : List Value → World → Prop, (∀ t25, ∀ w, (∀ g : Env,
 ∀ K0 : List Value → World → Prop, (∀ t29, ∀ w, (∀ g : Env,
 ∀ K0 : List Value → World → Prop, (∀ t38, ∀ w, (∀ g : Env,
 CondW t38
 (V (bd 53 #[(2, (.int .i64 1))]) w fun t39 w =>
 U (st 53 t8 t39) w fun w =>
 CW 53 t8 w fun t1008 => R t1008 w)
 (V (eq .neq 9 (.tmp 40) (.const (.string ⟨#[]⟩)) t3 (.string ⟨#[]⟩)) w fun t41 w =>
 ∀ K0 : List Value → World → Prop, (∀ t46, ∀ w, (∀ g : Env,
 CondW t46
 (V (bd 53 #[(2, (.int .i64 1))]) w fun t47 w =>
 U (st 53 t8 t47) w fun w =>
 CW 53 t8 w fun t1008 => R t1008 w)
 (V (fa 53 t9 0) w fun t48 w =>
 V (fa 28 t48 0) w fun t49 w =>
 V (ld 26 t49) w fun t50 w =>
 V (Builtin.len_ #[26] 3 #[t50]) w fun t51 w =>
 V (bi .sub 3 t51 (.int .i64 1)) w fun t52 w =>
 V (fa 53 t9 0) w fun t53 w =>
 V (fa 28 t53 0) w fun t54 w =>
 V (ld 26 t54) w fun t55 w =>
 V (ia 26 t55 t52) w fun t57 w =>
 V (fa 63 t57 0) w fun t58 w =>
 V (ld 58 t58) w fun t59 w =>
 V (ia 58 t59 t1) w fun t61 w =>
 V (ld 73 t61) w fun t62 w =>
 V (al 73) w fun t11 w =>
 U (st 73 t11 t62) w fun w =>
 V (bd 73 #[(0, t2), (1, t3)]) w fun t65 w =>
 V (al 73) w fun t12 w =>
 U (st 73 t12 t65) w fun w =>
 ∀ K0 : List Value → World → Prop, (∀ w, (∀ g : Env,
 ∀ K0 : List Value → World → Prop, (∀ w, (∀ g : Env,
 ∀ K0 : List Value → World → Prop, (∀ w, (∀ g : Env,
 Dr w fun w =>
 PV (fa 53 t9 0) fun t79 =>
 PV (fa 28 t79 0) fun t80 =>
 HV (ld 26 t80) w fun t81 =>
 PV (ia 26 t81 t52) fun t83 =>
 PV (fa 63 t83 0) fun t84 =>
 HV (ld 58 t84) w fun t85 =>
 HV (ld 73 t12) w fun t87 =>
 PV (ia 58 t85 t1) fun t88 =>
 U (st 73 t88 t87) w fun w =>
 V (ld 53 t9) w fun t89 w =>
 U (st 53 t8 t89) w fun w =>
 CW 53 t8 w fun t1008 => R t1008 w) → K0 [] w) →
 V (eq .eql 3 (.tmp 76) (.const (.int .i64 0)) t2 (.int .i64 0)) w fun t77 w =>
 CondW t77
 (V (bd 73 #[]) w fun t78 w =>
 U (st 73 t12 t78) w fun w =>
 K0 [] w)
 (K0 [] w)) → K0 [] w) →
 V (eq .eql 3 (.tmp 71) (.const (.int .i64 2)) t2 (.int .i64 2)) w fun t72 w =>
 CondW t72
 (V (fa 73 t11 2) w fun t73 w =>
 V (ld 4 t73) w fun t74 w =>
 V (fa 73 t12 2) w fun t75 w =>
 U (st 4 t75 t74) w fun w =>
 K0 [] w)
 (K0 [] w)) → K0 [] w) →
 V (eq .eql 9 (.tmp 66) (.const (.string ⟨#[]⟩)) t3 (.string ⟨#[]⟩)) w fun t67 w =>
 CondW t67
 (CV (.func (.func 40) #[] #[]) #[t1] w fun t69 w =>
 V (fa 73 t12 1) w fun t70 w =>
 U (st 9 t70 t69) w fun w =>
 K0 [] w)
 (K0 [] w))) → K0 [t46] w) →
 CondW t41
 (CV (.func (.func 61) #[] #[]) #[t3] w fun t44 w =>
 V (un .not t44) w fun t45 w =>
 K0 [t45] w)
 (K0 [(.bool false)] w))) → K0 [t38] w) →
 CondW t29
 (K0 [(.bool true)] w)
 (V (eq .eql 3 (.tmp 31) (.const (.int .i64 2)) t2 (.int .i64 2)) w fun t32 w =>
 ∀ K1 : List Value → World → Prop, (∀ t37, ∀ w, (∀ g : Env,
 K0 [t37] w) → K1 [t37] w) →
 CondW t32
 (CV (.func (.func 60) #[] #[]) #[t1] w fun t35 w =>
 V (un .not t35) w fun t36 w =>
 K1 [t36] w)
 (K1 [(.bool false)] w))) → K0 [t29] w) →
 CondW t25
 (V (eq .neq 3 (.tmp 27) (.const (.int .i64 2)) t2 (.int .i64 2)) w fun t28 w =>
 K0 [t28] w)
 (K0 [(.bool false)] w)) → K0 [t25] w) →
 CondW t21
 (V (eq .neq 3 (.tmp 23) (.const (.int .i64 1)) t2 (.int .i64 1)) w fun t24 w =>
 K0 [t24] w)
 (K0 [(.bool false)] w))
theorem eq25 (R : Value → World → Prop) (w : World) (t0 t1 t2 t3 : Value) : enterW Try.prog Try.f25 an25 [t0, t1, t2, t3] w R = vc25 R w t0 t1 t2 t3 := by kernel_rfl
theorem en25 {R : Value → World → Prop} {w : World} {t0 t1 t2 t3 : Value} (h : vc25 R w t0 t1 t2 t3) : Calls Try.prog 25 #[t0, t1, t2, t3] w (retK R) :=
  calls_of_enter mixed Try.func25 (by kernel_rfl) (by rw [eq25]; exact h)

-- qanat/qanatref10.Raise
def an26 : Ann := (.seq (.reg (opn 2 .done)) (.seq (.reg (opn 5 .done)) (.seq (.seq (.reg (opn 3 .done)) (.cond (.seq (.reg (opn 2 .done)) .leaf) .leaf)) (.seq (.seq (.reg (opn 3 .done)) (.cond (.seq (.reg (opn 2 .done)) .leaf) .leaf)) (.seq (.reg (opn 6 .done)) (.seqJ [1] [26, 27, 28, 29, 30, 31, 32, 33, 34, 35, 36, 37, 38, 39, 40, 41, 1] (.seq (.reg (opn 3 (.join [41] [29, 30, 31, 32, 33, 34, 35, 36, 37, 38, 39, 40, 41] (.split 28 (opn 13 .done) (opn 13 .done)) .done))) (.cond (.reg (opn 1 .done)) .leaf)) (.seq (.reg (opn 12 .done)) (.seq (.seq (.reg (opn 3 .done)) (.cond (.seqJ [] [55, 56, 57, 58, 59, 60, 61, 62, 63, 64] (.seq (.reg (opn 3 (.join [60] [58, 59, 60] (.split 57 (opn 3 .done) (opn 3 .done)) .done))) (.cond (.reg (opn 5 .done)) .leaf)) (.seq (.reg (opn 2 .done)) .leaf)) .leaf)) (.seq (.seq (.reg (opn 3 .done)) (.cond (.seq (.reg (opn 6 .done)) .leaf) .leaf)) (.seq (.seq (.reg (opn 3 (.join [87] [77, 78, 79, 80, 81, 82, 83, 84, 85, 86, 87] (.split 76 (opn 11 .done) (opn 11 .done)) .done))) (.cond (.seq (.reg (opn 2 .done)) .leaf) .leaf)) (.seq (.draw (.take 0 (.take 1 (.hold 2 (.take 3 (.take 4 (.take 5 (.hold 6 (.take 7 (.take 8 (.take 9 (.hold 10 (.take 11 (.take 12 (.take 13 (.alts (.eff 14 (.alts (.eff 15 (.take 16 (.take 17 (.alts (.eff 18 .done .nil)))) .nil)) .nil))))))))))))))))) (.seq (.reg (opn 2 .done)) .leaf))))))))))))
def vc26 (R : Value → World → Prop) (w : World) (t0 t1 t2 : Value) : Prop :=
 V (bx 28 t0) w fun t3 w =>
 V (al 53) w fun t6 w =>
 V (ld 28 t3) w fun t10 w =>
 CV (.func (.func 59) #[] #[]) #[t10, t1] w fun t12 w =>
 V (al 53) w fun t7 w =>
 U (st 53 t7 t12) w fun w =>
 V (fa 53 t7 2) w fun t13 w =>
 V (ld 31 t13) w fun t14 w =>
 V (eq .neq 31 (.tmp 14) (.const (.int .i64 0)) t14 (.int .i64 0)) w fun t15 w =>
 CondW t15
 (V (ld 53 t7) w fun t16 w =>
 U (st 53 t6 t16) w fun w =>
 CW 53 t6 w fun t1006 => R t1006 w)
 (CV (.func (.func 62) #[] #[]) #[t2] w fun t18 w =>
 V (un .not t18) w fun t19 w =>
 CondW t19
 (V (bd 53 #[(2, (.int .i64 1))]) w fun t20 w =>
 U (st 53 t6 t20) w fun w =>
 CW 53 t6 w fun t1006 => R t1006 w)
 (V (fa 53 t7 0) w fun t21 w =>
 V (fa 28 t21 0) w fun t22 w =>
 V (ld 26 t22) w fun t23 w =>
 V (Builtin.len_ #[26] 3 #[t23]) w fun t24 w =>
 V (bi .sub 3 t24 (.int .i64 1)) w fun t25 w =>
 ∀ K0 : List Value → World → Prop, (∀ t1a, ∀ w, (∀ g : Env,
 V (fa 53 t7 0) w fun t42 w =>
 V (fa 28 t42 0) w fun t43 w =>
 V (ld 26 t43) w fun t44 w =>
 V (ia 26 t44 t25) w fun t46 w =>
 V (fa 63 t46 0) w fun t47 w =>
 V (ld 58 t47) w fun t48 w =>
 V (ia 58 t48 t1a) w fun t50 w =>
 V (ld 73 t50) w fun t51 w =>
 V (al 73) w fun t9 w =>
 U (st 73 t9 t51) w fun w =>
 V (fa 73 t9 0) w fun t52 w =>
 V (ld 3 t52) w fun t53 w =>
 V (eq .eql 3 (.tmp 53) (.const (.int .i64 0)) t53 (.int .i64 0)) w fun t54 w =>
 CondW t54
 (∀ K0 : List Value → World → Prop, (∀ w, (∀ g : Env,
 V (ld 53 t7) w fun t65 w =>
 U (st 53 t6 t65) w fun w =>
 CW 53 t6 w fun t1006 => R t1006 w) → K0 [] w) →
 V (eq .eql 3 (.tmp 55) (.const (.int .i64 5)) t1a (.int .i64 5)) w fun t56 w =>
 ∀ K1 : List Value → World → Prop, (∀ t60, ∀ w, (∀ g : Env,
 CondW t60
 (V (bd 39 #[(0, (.int .i64 3)), (2, t1a), (3, t2)]) w fun t63 w =>
 V (fa 53 t7 1) w fun t64 w =>
 U (st 39 t64 t63) w fun w =>
 K0 [] w)
 (K0 [] w)) → K1 [t60] w) →
 CondW t56
 (K1 [(.bool true)] w)
 (V (eq .eql 3 (.tmp 58) (.const (.int .i64 2)) t1a (.int .i64 2)) w fun t59 w =>
 K1 [t59] w))
 (CV (.func (.func 60) #[] #[]) #[t1a] w fun t67 w =>
 V (un .not t67) w fun t68 w =>
 CondW t68
 (V (fa 53 t7 0) w fun t69 w =>
 V (ld 28 t69) w fun t70 w =>
 CV (.func (.func 63) #[] #[]) #[t70, t1a, t2] w fun t73 w =>
 U (st 53 t6 t73) w fun w =>
 CW 53 t6 w fun t1006 => R t1006 w)
 (V (fa 73 t9 2) w fun t74 w =>
 V (ld 4 t74) w fun t75 w =>
 ∀ K0 : List Value → World → Prop, (∀ t87, ∀ w, (∀ g : Env,
 CondW t87
 (V (ld 53 t7) w fun t88 w =>
 U (st 53 t6 t88) w fun w =>
 CW 53 t6 w fun t1006 => R t1006 w)
 (Dr w fun w =>
 PV (fa 53 t7 0) fun t89 =>
 PV (fa 28 t89 0) fun t90 =>
 HV (ld 26 t90) w fun t91 =>
 PV (fa 53 t7 0) fun t93 =>
 PV (fa 28 t93 0) fun t94 =>
 HV (ld 26 t94) w fun t95 =>
 PV (ia 26 t95 t25) fun t97 =>
 PV (fa 63 t97 1) fun t98 =>
 HV (ld 59 t98) w fun t99 =>
 PV (bd 70 #[(0, t1a), (1, t2)]) fun t102 =>
 V (bs 59 1 #[(0, t102)]) w fun t103 w =>
 RunIs (ld 59 t98) w t99 ∧ RunIs (ld 26 t94) w t95 ∧ RunIs (ld 26 t90) w t91 ∧ (V (Builtin.append_ #[59, 59] 59 #[t99, t103]) w fun t104 w =>
 RunIs (ld 26 t94) w t95 ∧ RunIs (ld 26 t90) w t91 ∧ (PV (ia 26 t91 t25) fun t105 =>
 PV (fa 63 t105 1) fun t106 =>
 U (st 59 t106 t104) w fun w =>
 V (ld 53 t7) w fun t107 w =>
 U (st 53 t6 t107) w fun w =>
 CW 53 t6 w fun t1006 => R t1006 w)))) → K0 [t87] w) →
 CondW t75
 (K0 [(.bool true)] w)
 (V (fa 53 t7 0) w fun t77 w =>
 V (fa 28 t77 0) w fun t78 w =>
 V (ld 26 t78) w fun t79 w =>
 V (ia 26 t79 t25) w fun t81 w =>
 V (fa 63 t81 1) w fun t82 w =>
 V (ld 59 t82) w fun t83 w =>
 CV (.func (.func 64) #[] #[]) #[t83, t1a] w fun t85 w =>
 V (bi .geq 3 t85 (.int .i64 0)) w fun t86 w =>
 K0 [t86] w)))) → K0 [t1a] w) →
 V (eq .eql 3 (.tmp 26) (.const (.int .i64 1)) t1 (.int .i64 1)) w fun t27 w =>
 ∀ K1 : List Value → World → Prop, (∀ t41, ∀ w, (∀ g : Env,
 CondW t41
 (K0 [(.int .i64 0)] w)
 (K0 [t1] w)) → K1 [t41] w) →
 CondW t27
 (V (fa 53 t7 0) w fun t29 w =>
 V (fa 28 t29 0) w fun t30 w =>
 V (ld 26 t30) w fun t31 w =>
 V (ia 26 t31 t25) w fun t33 w =>
 V (fa 63 t33 0) w fun t34 w =>
 V (ld 58 t34) w fun t35 w =>
 V (ia 58 t35 t1) w fun t37 w =>
 V (fa 73 t37 0) w fun t38 w =>
 V (ld 3 t38) w fun t39 w =>
 V (eq .eql 3 (.tmp 39) (.const (.int .i64 0)) t39 (.int .i64 0)) w fun t40 w =>
 K1 [t40] w)
 (K1 [(.bool false)] w)))
theorem eq26 (R : Value → World → Prop) (w : World) (t0 t1 t2 : Value) : enterW Try.prog Try.f26 an26 [t0, t1, t2] w R = vc26 R w t0 t1 t2 := by kernel_rfl
theorem en26 {R : Value → World → Prop} {w : World} {t0 t1 t2 : Value} (h : vc26 R w t0 t1 t2) : Calls Try.prog 26 #[t0, t1, t2] w (retK R) :=
  calls_of_enter mixed Try.func26 (by kernel_rfl) (by rw [eq26]; exact h)

-- qanat/qanatref10.EndClause
def an27 : Ann := (.seq (.reg (opn 2 .done)) (.seq (.reg (opn 4 .done)) (.seq (.seq (.reg (opn 3 .done)) (.cond (.seq (.reg (opn 2 .done)) .leaf) .leaf)) (.seq (.reg (opn 6 .done)) (.seq (.one (.loop [] [18, 19, 20, 21, 22, 23, 24, 25, 26, 27, 28, 29, 30, 31, 32, 33, 34, 35, 5, 36, 37, 38, 39, 40, 41, 42, 43, 44, 45, 46, 6, 47, 48, 49, 50, 51, 52, 53, 54, 55, 56, 57, 58, 59, 60, 61, 62, 63, 64, 65, 66, 67, 68, 69, 70, 71, 72, 73, 74, 75, 76, 77, 78, 79, 80, 81, 82, 83, 84, 85, 86, 87, 88, 89, 90, 91, 92, 93, 94, 95, 96, 97, 98, 99, 100, 101, 102, 103, 104, 105, 106, 107, 108, 109, 110, 111, 112, 113, 114, 115, 116, 117, 118, 119, 120] (.seq (.seq (.reg (opn 9 .done)) (.cond .leaf .leaf)) (.one (.seq (.reg (opn 11 .done)) (.seq (.draw (.take 0 (.take 1 (.hold 2 (.take 3 (.take 4 (.take 5 (.hold 6 (.take 7 (.hold 8 (.take 9 (.hold 10 (.alts (.eff 11 (.alts (.eff 12 .done .nil)) .nil)))))))))))))) (.seq (.seq (.reg (opn 3 .done)) (.cond (.seq (.reg (opn 8 .done)) .leaf) .leaf)) (.seq (.draw (.take 0 (.take 1 (.hold 2 (.take 3 (.take 4 (.take 5 (.hold 6 (.take 7 (.take 8 (.take 9 (.hold 10 (.take 11 (.take 12 (.take 13 (.alts (.eff 14 .done .nil))))))))))))))))) (.seq (.seq (.reg (opn 4 (.join [77] [75, 76, 77] (.split 74 (opn 3 .done) (opn 3 .done)) .done))) (.cond .leaf .leaf)) (.seq (.seq (.reg (opn 5 .done)) (.cond (.seq (.reg (opn 2 .done)) .leaf) .leaf)) (.seq (.reg (opn 5 .done)) (.seq (.draw (.take 0 (.take 1 (.hold 2 (.take 3 (.take 4 (.take 5 (.take 6 (.hold 7 (.take 8 (.hold 9 (.take 10 (.take 11 (.alts (.eff 12 .done .nil))))))))))))))) (.seq (.reg (opn 13 .done)) (.seq (.reg (opn 9 .done)) (.seq (.reg (opn 2 .done)) .leaf))))))))))))))) (.seq (.reg (opn 2 .done)) .leaf))))))
def vc27 (R : Value → World → Prop) (w : World) (t0 : Value) : Prop :=
 V (bx 28 t0) w fun t1 w =>
 V (al 53) w fun t2 w =>
 V (ld 28 t1) w fun t7 w =>
 CV (.func (.func 59) #[] #[]) #[t7, (.int .i64 0)] w fun t8 w =>
 V (al 53) w fun t3 w =>
 U (st 53 t3 t8) w fun w =>
 V (fa 53 t3 2) w fun t9 w =>
 V (ld 31 t9) w fun t10 w =>
 V (eq .neq 31 (.tmp 10) (.const (.int .i64 0)) t10 (.int .i64 0)) w fun t11 w =>
 CondW t11
 (V (ld 53 t3) w fun t12 w =>
 U (st 53 t2 t12) w fun w =>
 CW 53 t2 w fun t1002 => R t1002 w)
 (V (fa 53 t3 0) w fun t13 w =>
 V (fa 28 t13 0) w fun t14 w =>
 V (ld 26 t14) w fun t15 w =>
 V (Builtin.len_ #[26] 3 #[t15]) w fun t16 w =>
 V (bi .sub 3 t16 (.int .i64 1)) w fun t17 w =>
 ∃ (I0 : List Value → World → Prop) (M0 : List Value → World → Nat), I0 [] w ∧ ∀ g : Env, ∀ w, I0 [] w → ∀ m0, m0 = M0 [] w →
 V (fa 53 t3 0) w fun t18 w =>
 V (fa 28 t18 0) w fun t19 w =>
 V (ld 26 t19) w fun t20 w =>
 V (ia 26 t20 t17) w fun t22 w =>
 V (fa 63 t22 1) w fun t23 w =>
 V (ld 59 t23) w fun t24 w =>
 V (Builtin.len_ #[59] 3 #[t24]) w fun t25 w =>
 V (bi .gtr 3 t25 (.int .i64 0)) w fun t26 w =>
 CondW t26
 (V (fa 53 t3 0) w fun t27 w =>
 V (fa 28 t27 0) w fun t28 w =>
 V (ld 26 t28) w fun t29 w =>
 V (ia 26 t29 t17) w fun t31 w =>
 V (fa 63 t31 1) w fun t32 w =>
 V (ld 59 t32) w fun t33 w =>
 V (ia 59 t33 (.int .i64 0)) w fun t34 w =>
 V (ld 70 t34) w fun t35 w =>
 V (al 70) w fun t5 w =>
 U (st 70 t5 t35) w fun w =>
 Dr w fun w =>
 PV (fa 53 t3 0) fun t36 =>
 PV (fa 28 t36 0) fun t37 =>
 HV (ld 26 t37) w fun t38 =>
 PV (ia 26 t38 t17) fun t40 =>
 PV (fa 63 t40 0) fun t41 =>
 HV (ld 58 t41) w fun t42 =>
 PV (fa 70 t5 0) fun t43 =>
 HV (ld 3 t43) w fun t44 =>
 PV (ia 58 t42 t44) fun t45 =>
 HV (ld 73 t45) w fun t46 =>
 V (al 73) w fun t6 w =>
 RunIs (ld 73 t45) w t46 ∧ RunIs (ld 3 t43) w t44 ∧ RunIs (ld 58 t41) w t42 ∧ RunIs (ld 26 t37) w t38 ∧ (U (st 73 t6 t46) w fun w =>
 V (fa 73 t6 0) w fun t47 w =>
 V (ld 3 t47) w fun t48 w =>
 V (eq .eql 3 (.tmp 48) (.const (.int .i64 1)) t48 (.int .i64 1)) w fun t49 w =>
 CondW t49
 (V (fa 53 t3 0) w fun t50 w =>
 V (ld 28 t50) w fun t51 w =>
 V (fa 70 t5 0) w fun t52 w =>
 V (ld 3 t52) w fun t53 w =>
 V (fa 70 t5 1) w fun t54 w =>
 V (ld 9 t54) w fun t55 w =>
 CV (.func (.func 63) #[] #[]) #[t51, t53, t55] w fun t56 w =>
 U (st 53 t2 t56) w fun w =>
 CW 53 t2 w fun t1002 => R t1002 w)
 (Dr w fun w =>
 PV (fa 53 t3 0) fun t57 =>
 PV (fa 28 t57 0) fun t58 =>
 HV (ld 26 t58) w fun t59 =>
 PV (fa 53 t3 0) fun t61 =>
 PV (fa 28 t61 0) fun t62 =>
 HV (ld 26 t62) w fun t63 =>
 PV (ia 26 t63 t17) fun t65 =>
 PV (fa 63 t65 1) fun t66 =>
 HV (ld 59 t66) w fun t67 =>
 PV (sl 59 t67 (some (.int .i64 1)) none none) fun t68 =>
 PV (ia 26 t59 t17) fun t69 =>
 PV (fa 63 t69 1) fun t70 =>
 U (st 59 t70 t68) w fun w =>
 V (fa 73 t6 0) w fun t71 w =>
 V (ld 3 t71) w fun t72 w =>
 V (eq .eql 3 (.tmp 72) (.const (.int .i64 0)) t72 (.int .i64 0)) w fun t73 w =>
 ∀ K0 : List Value → World → Prop, (∀ t77, ∀ w, (∀ g : Env,
 CondW t77
 (I0 [] w ∧ M0 [] w < m0)
 (V (fa 53 t3 0) w fun t78 w =>
 V (fa 28 t78 0) w fun t79 w =>
 V (ld 26 t79) w fun t80 w =>
 V (Builtin.len_ #[26] 3 #[t80]) w fun t81 w =>
 V (bi .geq 3 t81 (.int .i64 30)) w fun t82 w =>
 CondW t82
 (V (bd 53 #[(2, (.int .i64 14))]) w fun t83 w =>
 U (st 53 t2 t83) w fun w =>
 CW 53 t2 w fun t1002 => R t1002 w)
 (V (fa 53 t3 0) w fun t84 w =>
 V (ld 28 t84) w fun t85 w =>
 CV (.func (.func 65) #[] #[]) #[t85] w fun t86 w =>
 V (fa 53 t3 0) w fun t87 w =>
 U (st 28 t87 t86) w fun w =>
 Dr w fun w =>
 PV (fa 53 t3 0) fun t88 =>
 PV (fa 28 t88 0) fun t89 =>
 HV (ld 26 t89) w fun t90 =>
 PV (bi .add 3 t17 (.int .i64 1)) fun t92 =>
 PV (ia 26 t90 t92) fun t93 =>
 PV (fa 63 t93 0) fun t94 =>
 HV (ld 58 t94) w fun t95 =>
 PV (fa 70 t5 0) fun t96 =>
 HV (ld 3 t96) w fun t97 =>
 PV (ia 58 t95 t97) fun t98 =>
 PV (fa 73 t98 2) fun t99 =>
 U (st 4 t99 (.bool true)) w fun w =>
 V (fa 53 t3 0) w fun t100 w =>
 V (fa 28 t100 0) w fun t101 w =>
 V (ld 26 t101) w fun t102 w =>
 V (bi .add 3 t17 (.int .i64 1)) w fun t104 w =>
 V (fa 70 t5 0) w fun t105 w =>
 V (ld 3 t105) w fun t106 w =>
 V (fa 70 t5 1) w fun t107 w =>
 V (ld 9 t107) w fun t108 w =>
 V (bd 61 #[(0, t106), (1, (.int .i64 2)), (2, t108)]) w fun t109 w =>
 V (ia 26 t102 t104) w fun t110 w =>
 V (fa 63 t110 2) w fun t111 w =>
 U (st 61 t111 t109) w fun w =>
 V (fa 73 t6 1) w fun t112 w =>
 V (ld 9 t112) w fun t113 w =>
 V (fa 70 t5 0) w fun t114 w =>
 V (ld 3 t114) w fun t115 w =>
 V (fa 70 t5 1) w fun t116 w =>
 V (ld 9 t116) w fun t117 w =>
 V (bd 39 #[(0, (.int .i64 2)), (1, t113), (2, t115), (3, t117)]) w fun t118 w =>
 V (fa 53 t3 1) w fun t119 w =>
 U (st 39 t119 t118) w fun w =>
 V (ld 53 t3) w fun t120 w =>
 U (st 53 t2 t120) w fun w =>
 CW 53 t2 w fun t1002 => R t1002 w))) → K0 [t77] w) →
 CondW t73
 (K0 [(.bool true)] w)
 (V (fa 73 t6 2) w fun t75 w =>
 V (ld 4 t75) w fun t76 w =>
 K0 [t76] w))))
 (V (ld 53 t3) w fun t121 w =>
 U (st 53 t2 t121) w fun w =>
 CW 53 t2 w fun t1002 => R t1002 w))
theorem eq27 (R : Value → World → Prop) (w : World) (t0 : Value) : enterW Try.prog Try.f27 an27 [t0] w R = vc27 R w t0 := by kernel_rfl
theorem en27 {R : Value → World → Prop} {w : World} {t0 : Value} (h : vc27 R w t0) : Calls Try.prog 27 #[t0] w (retK R) :=
  calls_of_enter mixed Try.func27 (by kernel_rfl) (by rw [eq27]; exact h)

-- qanat/qanatref10.Call
def an28 : Ann := (.seq (.reg (opn 2 .done)) (.seq (.reg (opn 4 .done)) (.seq (.seq (.reg (opn 4 (.join [14] [10, 11, 12, 13, 14] (.split 9 (opn 5 .done) (opn 5 .done)) .done))) (.cond (.seq (.reg (opn 2 .done)) .leaf) .leaf)) (.seqJ [] [16, 17, 18, 19, 20, 21, 22] (.seq (.reg (opn 3 .done)) (.cond (.reg (opn 5 .done)) .leaf)) (.seq (.reg (opn 2 .done)) .leaf)))))
def vc28 (R : Value → World → Prop) (w : World) (t0 : Value) : Prop :=
 V (bx 28 t0) w fun t1 w =>
 V (al 53) w fun t2 w =>
 V (ld 28 t1) w fun t4 w =>
 CV (.func (.func 59) #[] #[]) #[t4, (.int .i64 0)] w fun t5 w =>
 V (al 53) w fun t3 w =>
 U (st 53 t3 t5) w fun w =>
 V (fa 53 t3 2) w fun t6 w =>
 V (ld 31 t6) w fun t7 w =>
 V (eq .eql 31 (.tmp 7) (.const (.int .i64 0)) t7 (.int .i64 0)) w fun t8 w =>
 ∀ K0 : List Value → World → Prop, (∀ t14, ∀ w, (∀ g : Env,
 CondW t14
 (V (bd 53 #[(2, (.int .i64 14))]) w fun t15 w =>
 U (st 53 t2 t15) w fun w =>
 CW 53 t2 w fun t1002 => R t1002 w)
 (∀ K0 : List Value → World → Prop, (∀ w, (∀ g : Env,
 V (ld 53 t3) w fun t23 w =>
 U (st 53 t2 t23) w fun w =>
 CW 53 t2 w fun t1002 => R t1002 w) → K0 [] w) →
 V (fa 53 t3 2) w fun t16 w =>
 V (ld 31 t16) w fun t17 w =>
 V (eq .eql 31 (.tmp 17) (.const (.int .i64 0)) t17 (.int .i64 0)) w fun t18 w =>
 CondW t18
 (V (fa 53 t3 0) w fun t19 w =>
 V (ld 28 t19) w fun t20 w =>
 CV (.func (.func 65) #[] #[]) #[t20] w fun t21 w =>
 V (fa 53 t3 0) w fun t22 w =>
 U (st 28 t22 t21) w fun w =>
 K0 [] w)
 (K0 [] w))) → K0 [t14] w) →
 CondW t8
 (V (fa 28 t1 0) w fun t10 w =>
 V (ld 26 t10) w fun t11 w =>
 V (Builtin.len_ #[26] 3 #[t11]) w fun t12 w =>
 V (bi .geq 3 t12 (.int .i64 30)) w fun t13 w =>
 K0 [t13] w)
 (K0 [(.bool false)] w)
theorem eq28 (R : Value → World → Prop) (w : World) (t0 : Value) : enterW Try.prog Try.f28 an28 [t0] w R = vc28 R w t0 := by kernel_rfl
theorem en28 {R : Value → World → Prop} {w : World} {t0 : Value} (h : vc28 R w t0) : Calls Try.prog 28 #[t0] w (retK R) :=
  calls_of_enter mixed Try.func28 (by kernel_rfl) (by rw [eq28]; exact h)

-- qanat/qanatref10.Return
def an29 : Ann := (.seq (.reg (opn 2 .done)) (.seq (.reg (opn 4 .done)) (.seq (.seq (.reg (opn 4 (.join [14] [10, 11, 12, 13, 14] (.split 9 (opn 5 .done) (opn 5 .done)) .done))) (.cond (.seq (.reg (opn 2 .done)) .leaf) .leaf)) (.seqJ [] [16, 17, 18, 19, 20, 21, 22, 23, 24, 25, 26, 27, 28, 29] (.seq (.reg (opn 3 .done)) (.cond (.reg (opn 12 .done)) .leaf)) (.seq (.reg (opn 2 .done)) .leaf)))))
def vc29 (R : Value → World → Prop) (w : World) (t0 : Value) : Prop :=
 V (bx 28 t0) w fun t1 w =>
 V (al 53) w fun t2 w =>
 V (ld 28 t1) w fun t4 w =>
 CV (.func (.func 59) #[] #[]) #[t4, (.int .i64 0)] w fun t5 w =>
 V (al 53) w fun t3 w =>
 U (st 53 t3 t5) w fun w =>
 V (fa 53 t3 2) w fun t6 w =>
 V (ld 31 t6) w fun t7 w =>
 V (eq .eql 31 (.tmp 7) (.const (.int .i64 0)) t7 (.int .i64 0)) w fun t8 w =>
 ∀ K0 : List Value → World → Prop, (∀ t14, ∀ w, (∀ g : Env,
 CondW t14
 (V (bd 53 #[(2, (.int .i64 12))]) w fun t15 w =>
 U (st 53 t2 t15) w fun w =>
 CW 53 t2 w fun t1002 => R t1002 w)
 (∀ K0 : List Value → World → Prop, (∀ w, (∀ g : Env,
 V (ld 53 t3) w fun t30 w =>
 U (st 53 t2 t30) w fun w =>
 CW 53 t2 w fun t1002 => R t1002 w) → K0 [] w) →
 V (fa 53 t3 2) w fun t16 w =>
 V (ld 31 t16) w fun t17 w =>
 V (eq .eql 31 (.tmp 17) (.const (.int .i64 0)) t17 (.int .i64 0)) w fun t18 w =>
 CondW t18
 (V (fa 53 t3 0) w fun t19 w =>
 V (fa 28 t19 0) w fun t20 w =>
 V (ld 26 t20) w fun t21 w =>
 V (fa 53 t3 0) w fun t22 w =>
 V (fa 28 t22 0) w fun t23 w =>
 V (ld 26 t23) w fun t24 w =>
 V (Builtin.len_ #[26] 3 #[t24]) w fun t25 w =>
 V (bi .sub 3 t25 (.int .i64 1)) w fun t26 w =>
 V (sl 26 t21 none (some t26) none) w fun t27 w =>
 V (fa 53 t3 0) w fun t28 w =>
 V (fa 28 t28 0) w fun t29 w =>
 U (st 26 t29 t27) w fun w =>
 K0 [] w)
 (K0 [] w))) → K0 [t14] w) →
 CondW t8
 (V (fa 28 t1 0) w fun t10 w =>
 V (ld 26 t10) w fun t11 w =>
 V (Builtin.len_ #[26] 3 #[t11]) w fun t12 w =>
 V (eq .eql 3 (.tmp 12) (.const (.int .i64 1)) t12 (.int .i64 1)) w fun t13 w =>
 K0 [t13] w)
 (K0 [(.bool false)] w)
theorem eq29 (R : Value → World → Prop) (w : World) (t0 : Value) : enterW Try.prog Try.f29 an29 [t0] w R = vc29 R w t0 := by kernel_rfl
theorem en29 {R : Value → World → Prop} {w : World} {t0 : Value} (h : vc29 R w t0) : Calls Try.prog 29 #[t0] w (retK R) :=
  calls_of_enter mixed Try.func29 (by kernel_rfl) (by rw [eq29]; exact h)

-- qanat/trap.Catches
def an30 : Ann := (.seq (.reg (opn 3 .done)) (.seq (.reg (opn 9 .done)) (.seq (.seq (.reg (opn 2 .done)) (.cond (.seq (.reg (opn 4 .done)) .leaf) .leaf)) (.seq (.reg (opn 5 .done)) (.seq (.reg (opn 9 .done)) (.seq (.seq (.reg (opn 3 .done)) (.cond (.seq (.reg (opn 3 .done)) .leaf) .leaf)) (.seq (.reg (opn 6 .done)) .leaf)))))))
def vc30 (R : Value → World → Prop) (w : World) (t0 t1 : Value) : Prop :=
 V (bx 28 t0) w fun t2 w =>
 V (al 39) w fun t4 w =>
 V (ld 28 t2) w fun t11 w =>
 V (bs 68 1 #[(0, t1)]) w fun t13 w =>
 CV (.func (.func 66) #[] #[]) #[t11, t13] w fun t14 w =>
 V (ex t14 0) w fun t15 w =>
 V (ex t14 1) w fun t16 w =>
 V (eq .neq 31 (.tmp 17) (.const (.int .i64 0)) t16 (.int .i64 0)) w fun t18 w =>
 CondW t18
 (V (bd 39 #[]) w fun t19 w =>
 U (st 39 t4 t19) w fun w =>
 CW 39 t4 w fun t1004 => R (.tuple #[t1004, t16]) w)
 (CV (.func (.func 67) #[] #[]) #[t15] w fun t22 w =>
 NilW t22 fun t23 => V (fa 63 t23 1) w fun t24 w =>
 U (st 59 t24 (.slice none 0 0)) w fun w =>
 CV (.func (.func 68) #[] #[]) #[t15, t1, (.int .i64 0), (.string ⟨#[]⟩)] w fun t28 w =>
 V (ex t28 0) w fun t29 w =>
 V (ex t28 1) w fun t30 w =>
 V (al 39) w fun t8 w =>
 U (st 39 t8 t29) w fun w =>
 V (fa 39 t8 0) w fun t31 w =>
 V (ld 3 t31) w fun t32 w =>
 V (eq .neq 3 (.tmp 32) (.const (.int .i64 0)) t32 (.int .i64 0)) w fun t33 w =>
 CondW t33
 (V (ld 39 t8) w fun t34 w =>
 U (st 39 t4 t34) w fun w =>
 CW 39 t4 w fun t1004 => R (.tuple #[t1004, (.int .i64 0)]) w)
 (CV (.func (.func 69) #[] #[]) #[t15, (.int .i64 0), (.int .i64 0), (.string ⟨#[]⟩)] w fun t36 w =>
 V (ex t36 0) w fun t37 w =>
 V (ex t36 1) w fun t38 w =>
 U (st 39 t4 t37) w fun w =>
 CW 39 t4 w fun t1004 => R (.tuple #[t1004, t38]) w))
theorem eq30 (R : Value → World → Prop) (w : World) (t0 t1 : Value) : enterW Try.prog Try.f30 an30 [t0, t1] w R = vc30 R w t0 t1 := by kernel_rfl
theorem en30 {R : Value → World → Prop} {w : World} {t0 t1 : Value} (h : vc30 R w t0 t1) : Calls Try.prog 30 #[t0, t1] w (retK R) :=
  calls_of_enter mixed Try.func30 (by kernel_rfl) (by rw [eq30]; exact h)

-- slices.Clone[[]qanat/api.Trap,qanat/api.Trap]
def an31 : Ann := (.seq (.reg (opn 1 .done)) (.seq (.seq (.reg (opn 2 .done)) (.cond (.seq (.reg (opn 1 .done)) .leaf) .leaf)) (.seq (.reg (opn 4 .done)) .leaf)))
def vc31 (R : Value → World → Prop) (w : World) (t0 : Value) : Prop :=
 V (eq .eql 58 (.tmp 3) (.const (.slice none 0 0)) t0 (.slice none 0 0)) w fun t4 w =>
 CondW t4
 (R (.slice none 0 0) w)
 (V (bs 58 0 #[]) w fun t5 w =>
 V (Builtin.append_ #[58, 58] 58 #[t5, t0]) w fun t7 w =>
 R t7 w)
theorem eq31 (R : Value → World → Prop) (w : World) (t0 : Value) : enterW Try.prog Try.f31 an31 [t0] w R = vc31 R w t0 := by kernel_rfl
theorem en31 {R : Value → World → Prop} {w : World} {t0 : Value} (h : vc31 R w t0) : Calls Try.prog 31 #[t0] w (retK R) :=
  calls_of_enter mixed Try.func31 (by kernel_rfl) (by rw [eq31]; exact h)

-- slices.Contains[[]int,int]
def an32 : Ann := (.seq (.reg (opn 1 .done)) (.seq (.reg (opn 5 .done)) .leaf))
def vc32 (R : Value → World → Prop) (w : World) (t0 t1 : Value) : Prop :=
 CV (.func (.func 70) #[] #[]) #[t0, t1] w fun t7 w =>
 V (bi .geq 3 t7 (.int .i64 0)) w fun t8 w =>
 R t8 w
theorem eq32 (R : Value → World → Prop) (w : World) (t0 t1 : Value) : enterW Try.prog Try.f32 an32 [t0, t1] w R = vc32 R w t0 t1 := by kernel_rfl
theorem en32 {R : Value → World → Prop} {w : World} {t0 t1 : Value} (h : vc32 R w t0 t1) : Calls Try.prog 32 #[t0, t1] w (retK R) :=
  calls_of_enter mixed Try.func32 (by kernel_rfl) (by rw [eq32]; exact h)

-- slices.Equal[[]qanat/api.Trap,qanat/api.Trap]
def an33 : Ann := (.seq (.reg (opn 1 .done)) (.seq (.seq (.reg (opn 5 .done)) (.cond (.seq (.reg (opn 1 .done)) .leaf) .leaf)) (.seq (.seq (.reg (opn 3 .done)) (.one (.loop [13] [14, 15, 5, 16, 17, 18, 19, 20, 21, 22, 23, 24, 4, 25, 13] (.seq (.reg (opn 1 .done)) (.seq (.cond .leaf .leaf) (.seq (.one (.seq (.reg (opn 2 .done)) (.seq (.draw (.take 0 (.take 1 (.take 2 (.hold 3 (.take 4 (.take 5 (.take 6 (.hold 7 (.take 8 .done)))))))))) (.cond (.seq (.reg (opn 1 .done)) .leaf) .leaf)))) (.reg (opn 2 .done)))))))) (.seq (.reg (opn 1 .done)) .leaf))))
def vc33 (R : Value → World → Prop) (w : World) (t0 t1 : Value) : Prop :=
 V (Builtin.len_ #[58] 3 #[t0]) w fun t7 w =>
 V (Builtin.len_ #[58] 3 #[t1]) w fun t9 w =>
 V (eq .neq 3 (.tmp 7) (.tmp 9) t7 t9) w fun t10 w =>
 CondW t10
 (R (.bool false) w)
 (V (Builtin.len_ #[58] 3 #[t0]) w fun t12 w =>
 ∃ (I0 : List Value → World → Prop) (M0 : List Value → World → Nat), I0 [(.int .i64 0)] w ∧ ∀ g : Env, ∀ t13, ∀ w, I0 [t13] w → ∀ m0, m0 = M0 [t13] w →
 V (bi .lss 3 t13 t12) w fun t14 w =>
 CondW t14
 (Dr w fun w =>
 PV (ia 58 t0 t13) fun t18 =>
 HV (ld 73 t18) w fun t19 =>
 PV (ia 58 t1 t13) fun t22 =>
 HV (ld 73 t22) w fun t23 =>
 PV (eq .neq 73 (.tmp 19) (.tmp 23) t19 t23) fun t24 =>
 CondW t24
 (R (.bool false) w)
 (V (bi .add 3 t13 (.int .i64 1)) w fun t25 w =>
 I0 [t25] w ∧ M0 [t25] w < m0))
 (R (.bool true) w))
theorem eq33 (R : Value → World → Prop) (w : World) (t0 t1 : Value) : enterW Try.prog Try.f33 an33 [t0, t1] w R = vc33 R w t0 t1 := by kernel_rfl
theorem en33 {R : Value → World → Prop} {w : World} {t0 t1 : Value} (h : vc33 R w t0 t1) : Calls Try.prog 33 #[t0, t1] w (retK R) :=
  calls_of_enter mixed Try.func33 (by kernel_rfl) (by rw [eq33]; exact h)

-- qanat/trap.Condition
def an34 : Ann := (.seq (.reg (opn 3 .done)) (.seq (.reg (opn 7 .done)) (.seq (.seq (.reg (opn 2 .done)) (.cond (.seq (.reg (opn 3 .done)) .leaf) .leaf)) (.seq (.reg (opn 4 .done)) (.seq (.reg (opn 11 .done)) (.seq (.reg (opn 8 .done)) (.seq (.seq (.reg (opn 2 .done)) (.cond (.seq (.reg (opn 2 .done)) .leaf) .leaf)) (.seq (.seq (.reg (opn 6 .done)) (.cond (.seq (.reg (opn 2 .done)) .leaf) .leaf)) (.seq (.reg (opn 4 .done)) .leaf)))))))))
def vc34 (R : Value → World → Prop) (w : World) (t0 t1 : Value) : Prop :=
 V (bx 28 t0) w fun t2 w =>
 V (ld 28 t2) w fun t13 w =>
 CV (.func (.func 66) #[] #[]) #[t13, (.slice none 0 0)] w fun t14 w =>
 V (ex t14 0) w fun t15 w =>
 V (ex t14 1) w fun t16 w =>
 V (eq .neq 31 (.tmp 17) (.const (.int .i64 0)) t16 (.int .i64 0)) w fun t18 w =>
 CondW t18
 (R (.tuple #[(.string ⟨#[]⟩), t16]) w)
 (CV (.func (.func 67) #[] #[]) #[t15] w fun t21 w =>
 V (al 116) w fun t8 w =>
 U (st 116 t8 t21) w fun w =>
 V (mm 125 none) w fun t22 w =>
 U (mu 125 t22 (.int .u8 67) (.func (.func 71) #[] #[t8])) w fun w =>
 U (mu 125 t22 (.int .u8 68) (.func (.func 73) #[] #[t8])) w fun w =>
 U (mu 125 t22 (.int .u8 73) (.func (.func 74) #[] #[t8])) w fun w =>
 U (mu 125 t22 (.int .u8 83) (.func (.func 75) #[] #[t8])) w fun w =>
 V (lk 125 t22 t1 true) w fun t31 w =>
 V (ex t31 0) w fun t32 w =>
 V (ex t31 1) w fun t33 w =>
 V (un .not t33) w fun t35 w =>
 CondW t35
 (R (.tuple #[(.string ⟨#[]⟩), (.int .i64 1)]) w)
 (V (ld 116 t8) w fun t36 w =>
 NilW t36 fun t37 => V (fa 63 t37 2) w fun t38 w =>
 V (fa 61 t38 1) w fun t39 w =>
 V (ld 3 t39) w fun t40 w =>
 V (eq .eql 3 (.tmp 40) (.const (.int .i64 0)) t40 (.int .i64 0)) w fun t41 w =>
 CondW t41
 (R (.tuple #[(.string ⟨#[]⟩), (.int .i64 0)]) w)
 (CV t32 #[] w fun t43 w =>
 R (.tuple #[t43, (.int .i64 0)]) w)))
theorem eq34 (R : Value → World → Prop) (w : World) (t0 t1 : Value) : enterW Try.prog Try.f34 an34 [t0, t1] w R = vc34 R w t0 t1 := by kernel_rfl
theorem en34 {R : Value → World → Prop} {w : World} {t0 t1 : Value} (h : vc34 R w t0 t1) : Calls Try.prog 34 #[t0, t1] w (retK R) :=
  calls_of_enter mixed Try.func34 (by kernel_rfl) (by rw [eq34]; exact h)

-- qanat/trap.Same
def an35 : Ann := (.seq (.reg (opn 3 .done)) (.seq (.reg (opn 6 .done)) .leaf))
def vc35 (R : Value → World → Prop) (w : World) (t0 t1 : Value) : Prop :=
 V (bx 28 t0) w fun t2 w =>
 V (bx 28 t1) w fun t3 w =>
 V (fa 28 t2 0) w fun t5 w =>
 V (ld 26 t5) w fun t6 w =>
 V (fa 28 t3 0) w fun t7 w =>
 V (ld 26 t7) w fun t8 w =>
 CV (.func (.func 77) #[] #[]) #[t6, t8, (.func (.func 78) #[] #[])] w fun t9 w =>
 R t9 w
theorem eq35 (R : Value → World → Prop) (w : World) (t0 t1 : Value) : enterW Try.prog Try.f35 an35 [t0, t1] w R = vc35 R w t0 t1 := by kernel_rfl
theorem en35 {R : Value → World → Prop} {w : World} {t0 t1 : Value} (h : vc35 R w t0 t1) : Calls Try.prog 35 #[t0, t1] w (retK R) :=
  calls_of_enter mixed Try.func35 (by kernel_rfl) (by rw [eq35]; exact h)

-- qanat/trap.Name
def an36 : Ann := (.seq (.reg (opn 2 .done)) (.seq (.seq (.reg (opn 3 .done)) (.cond (.seq (.reg (opn 2 .done)) .leaf) .leaf)) (.seq (.reg (opn 5 .done)) .leaf)))
def vc36 (R : Value → World → Prop) (w : World) (t0 : Value) : Prop :=
 CV (.func (.func 80) #[] #[]) #[t0] w fun t5 w =>
 V (un .not t5) w fun t6 w =>
 CondW t6
 (R (.tuple #[(.string ⟨#[]⟩), (.int .i64 1)]) w)
 (CV (.func (.func 72) #[] #[]) #[] w fun t7 w =>
 V (ix 120 t7 t0) w fun t9 w =>
 R (.tuple #[t9, (.int .i64 0)]) w)
theorem eq36 (R : Value → World → Prop) (w : World) (t0 : Value) : enterW Try.prog Try.f36 an36 [t0] w R = vc36 R w t0 := by kernel_rfl
theorem en36 {R : Value → World → Prop} {w : World} {t0 : Value} (h : vc36 R w t0) : Calls Try.prog 36 #[t0] w (retK R) :=
  calls_of_enter mixed Try.func36 (by kernel_rfl) (by rw [eq36]; exact h)

-- qanat/trap.Number
def an37 : Ann := (.seq (.reg (opn 2 .done)) (.seq (.reg (opn 3 .done)) (.seq (.reg (opn 4 .done)) (.seq (.seq (.reg (opn 2 .done)) (.cond (.seq (.reg (opn 2 .done)) .leaf) .leaf)) (.seq (.reg (opn 3 .done)) .leaf)))))
def vc37 (R : Value → World → Prop) (w : World) (t0 : Value) : Prop :=
 CV (.func (.func 72) #[] #[]) #[] w fun t6 w =>
 V (al 120) w fun t4 w =>
 U (st 120 t4 t6) w fun w =>
 V (sl 120 t4 none none none) w fun t7 w =>
 CV (.func (.func 81) #[] #[]) #[t7, t0] w fun t9 w =>
 V (bi .lss 3 t9 (.int .i64 0)) w fun t11 w =>
 CondW t11
 (R (.tuple #[(.int .i64 0), (.int .i64 1)]) w)
 (R (.tuple #[t9, (.int .i64 0)]) w)
theorem eq37 (R : Value → World → Prop) (w : World) (t0 : Value) : enterW Try.prog Try.f37 an37 [t0] w R = vc37 R w t0 := by kernel_rfl
theorem en37 {R : Value → World → Prop} {w : World} {t0 : Value} (h : vc37 R w t0) : Calls Try.prog 37 #[t0] w (retK R) :=
  calls_of_enter mixed Try.func37 (by kernel_rfl) (by rw [eq37]; exact h)

-- qanat/qanatref10.Condition
def an38 : Ann := (.seq (.reg (opn 2 .done)) (.seq (.reg (opn 3 .done)) (.seq (.seq (.reg (opn 2 .done)) (.cond (.seq (.reg (opn 3 .done)) .leaf) .leaf)) (.seq (.seq (.reg (opn 3 (.join [19] [17, 18, 19] (.split 16 (opn 3 .done) (opn 3 .done)) (opn 1 (.join [23] [21, 22, 23] (.split 20 (opn 3 .done) (opn 3 .done)) (opn 1 (.join [27] [25, 26, 27] (.split 24 (opn 3 .done) (opn 3 .done)) .done))))))) (.cond (.seq (.reg (opn 2 .done)) .leaf) .leaf)) (.seq (.reg (opn 10 .done)) (.seq (.seq (.reg (opn 4 .done)) (.cond (.seq (.reg (opn 2 .done)) .leaf) .leaf)) (.seq (.seq (.reg (opn 1 .done)) (.one (.seq (.reg (opn 2 .done)) (.cond (.seq (.reg (opn 6 .done)) .leaf) (.seq (.reg (opn 2 .done)) (.cond (.seq (.reg (opn 5 .done)) .leaf) (.seq (.reg (opn 2 .done)) (.cond (.seq (.seq (.reg (opn 4 .done)) (.cond (.seq (.reg (opn 2 .done)) .leaf) .leaf)) (.seq (.reg (opn 2 .done)) .leaf)) .leaf)))))))) (.seq (.reg (opn 9 .done)) (.seq (.seq (.reg (opn 3 .done)) (.cond (.seq (.reg (opn 2 .done)) .leaf) .leaf)) (.seq (.seq (.reg (opn 2 .done)) (.cond (.seq (.reg (opn 2 .done)) .leaf) .leaf)) (.seq (.reg (opn 2 .done)) .leaf)))))))))))
def vc38 (R : Value → World → Prop) (w : World) (t0 t1 : Value) : Prop :=
 V (bx 28 t0) w fun t2 w =>
 V (al 86) w fun t4 w =>
 V (ld 28 t2) w fun t8 w =>
 CV (.func (.func 44) #[] #[]) #[t8] w fun t9 w =>
 V (eq .neq 31 (.tmp 10) (.const (.int .i64 0)) t9 (.int .i64 0)) w fun t11 w =>
 CondW t11
 (V (bd 86 #[(1, t9)]) w fun t13 w =>
 U (st 86 t4 t13) w fun w =>
 CW 86 t4 w fun t1004 => R t1004 w)
 (V (eq .neq 5 (.tmp 14) (.const (.int .u8 67)) t1 (.int .u8 67)) w fun t15 w =>
 ∀ K0 : List Value → World → Prop, (∀ t19, ∀ w, (∀ g : Env,
 ∀ K0 : List Value → World → Prop, (∀ t23, ∀ w, (∀ g : Env,
 ∀ K0 : List Value → World → Prop, (∀ t27, ∀ w, (∀ g : Env,
 CondW t27
 (V (bd 86 #[(1, (.int .i64 1))]) w fun t28 w =>
 U (st 86 t4 t28) w fun w =>
 CW 86 t4 w fun t1004 => R t1004 w)
 (V (fa 28 t2 0) w fun t29 w =>
 V (ld 26 t29) w fun t30 w =>
 V (fa 28 t2 0) w fun t31 w =>
 V (ld 26 t31) w fun t32 w =>
 V (Builtin.len_ #[26] 3 #[t32]) w fun t33 w =>
 V (bi .sub 3 t33 (.int .i64 1)) w fun t34 w =>
 V (ia 26 t30 t34) w fun t35 w =>
 V (ld 63 t35) w fun t36 w =>
 V (al 63) w fun t6 w =>
 U (st 63 t6 t36) w fun w =>
 V (fa 63 t6 2) w fun t37 w =>
 V (fa 61 t37 1) w fun t38 w =>
 V (ld 3 t38) w fun t39 w =>
 V (eq .eql 3 (.tmp 39) (.const (.int .i64 0)) t39 (.int .i64 0)) w fun t40 w =>
 CondW t40
 (V (bd 86 #[]) w fun t41 w =>
 U (st 86 t4 t41) w fun w =>
 CW 86 t4 w fun t1004 => R t1004 w)
 (V (eq .eql 5 (.tmp 42) (.const (.int .u8 67)) t1 (.int .u8 67)) w fun t44 w =>
 CondW t44
 (V (fa 63 t6 2) w fun t45 w =>
 V (fa 61 t45 0) w fun t46 w =>
 V (ld 3 t46) w fun t47 w =>
 CV (.func (.func 40) #[] #[]) #[t47] w fun t48 w =>
 V (bd 86 #[(0, t48)]) w fun t49 w =>
 U (st 86 t4 t49) w fun w =>
 CW 86 t4 w fun t1004 => R t1004 w)
 (V (eq .eql 5 (.tmp 42) (.const (.int .u8 68)) t1 (.int .u8 68)) w fun t51 w =>
 CondW t51
 (V (fa 63 t6 2) w fun t52 w =>
 V (fa 61 t52 2) w fun t53 w =>
 V (ld 9 t53) w fun t54 w =>
 V (bd 86 #[(0, t54)]) w fun t55 w =>
 U (st 86 t4 t55) w fun w =>
 CW 86 t4 w fun t1004 => R t1004 w)
 (V (eq .eql 5 (.tmp 42) (.const (.int .u8 73)) t1 (.int .u8 73)) w fun t57 w =>
 CondW t57
 (V (fa 63 t6 2) w fun t58 w =>
 V (fa 61 t58 1) w fun t59 w =>
 V (ld 3 t59) w fun t60 w =>
 V (eq .eql 3 (.tmp 60) (.const (.int .i64 1)) t60 (.int .i64 1)) w fun t61 w =>
 CondW t61
 (V (bd 86 #[(0, (.string ⟨#[83, 73, 71, 78, 65, 76]⟩))]) w fun t62 w =>
 U (st 86 t4 t62) w fun w =>
 CW 86 t4 w fun t1004 => R t1004 w)
 (V (bd 86 #[(0, (.string ⟨#[67, 65, 76, 76]⟩))]) w fun t63 w =>
 U (st 86 t4 t63) w fun w =>
 CW 86 t4 w fun t1004 => R t1004 w))
 (V (fa 63 t6 0) w fun t64 w =>
 V (ld 58 t64) w fun t65 w =>
 V (fa 63 t6 2) w fun t66 w =>
 V (fa 61 t66 0) w fun t67 w =>
 V (ld 3 t67) w fun t68 w =>
 V (ia 58 t65 t68) w fun t69 w =>
 V (ld 73 t69) w fun t70 w =>
 V (al 73) w fun t7 w =>
 U (st 73 t7 t70) w fun w =>
 V (fa 73 t7 0) w fun t71 w =>
 V (ld 3 t71) w fun t72 w =>
 V (eq .eql 3 (.tmp 72) (.const (.int .i64 0)) t72 (.int .i64 0)) w fun t73 w =>
 CondW t73
 (V (bd 86 #[(0, (.string ⟨#[79, 70, 70]⟩))]) w fun t74 w =>
 U (st 86 t4 t74) w fun w =>
 CW 86 t4 w fun t1004 => R t1004 w)
 (V (fa 73 t7 2) w fun t75 w =>
 V (ld 4 t75) w fun t76 w =>
 CondW t76
 (V (bd 86 #[(0, (.string ⟨#[68, 69, 76, 65, 89]⟩))]) w fun t77 w =>
 U (st 86 t4 t77) w fun w =>
 CW 86 t4 w fun t1004 => R t1004 w)
 (V (bd 86 #[(0, (.string ⟨#[79, 78]⟩))]) w fun t78 w =>
 U (st 86 t4 t78) w fun w =>
 CW 86 t4 w fun t1004 => R t1004 w)))))))) → K0 [t27] w) →
 CondW t23
 (V (eq .neq 5 (.tmp 25) (.const (.int .u8 83)) t1 (.int .u8 83)) w fun t26 w =>
 K0 [t26] w)
 (K0 [(.bool false)] w)) → K0 [t23] w) →
 CondW t19
 (V (eq .neq 5 (.tmp 21) (.const (.int .u8 73)) t1 (.int .u8 73)) w fun t22 w =>
 K0 [t22] w)
 (K0 [(.bool false)] w)) → K0 [t19] w) →
 CondW t15
 (V (eq .neq 5 (.tmp 17) (.const (.int .u8 68)) t1 (.int .u8 68)) w fun t18 w =>
 K0 [t18] w)
 (K0 [(.bool false)] w))
theorem eq38 (R : Value → World → Prop) (w : World) (t0 t1 : Value) : enterW Try.prog Try.f38 an38 [t0, t1] w R = vc38 R w t0 t1 := by kernel_rfl
theorem en38 {R : Value → World → Prop} {w : World} {t0 t1 : Value} (h : vc38 R w t0 t1) : Calls Try.prog 38 #[t0, t1] w (retK R) :=
  calls_of_enter mixed Try.func38 (by kernel_rfl) (by rw [eq38]; exact h)

-- qanat/qanatref10.Catches
def an39 : Ann := (.seq (.reg (opn 2 .done)) (.seq (.reg (opn 5 .done)) (.seq (.seq (.reg (opn 3 .done)) (.cond (.seq (.reg (opn 2 .done)) .leaf) .leaf)) (.seq (.reg (opn 11 .done)) (.seq (.reg (opn 5 .done)) (.seqJ [] [27, 28, 29, 30, 31, 32, 33] (.seq (.reg (opn 4 .done)) (.cond (.reg (opn 4 .done)) .leaf)) (.seq (.reg (opn 6 .done)) .leaf)))))))
def vc39 (R : Value → World → Prop) (w : World) (t0 t1 : Value) : Prop :=
 V (bx 28 t0) w fun t2 w =>
 V (al 53) w fun t4 w =>
 V (ld 28 t2) w fun t6 w =>
 CV (.func (.func 59) #[] #[]) #[t6, t1] w fun t8 w =>
 V (al 53) w fun t5 w =>
 U (st 53 t5 t8) w fun w =>
 V (fa 53 t5 2) w fun t9 w =>
 V (ld 31 t9) w fun t10 w =>
 V (eq .neq 31 (.tmp 10) (.const (.int .i64 0)) t10 (.int .i64 0)) w fun t11 w =>
 CondW t11
 (V (ld 53 t5) w fun t12 w =>
 U (st 53 t4 t12) w fun w =>
 CW 53 t4 w fun t1004 => R t1004 w)
 (V (fa 53 t5 0) w fun t13 w =>
 V (fa 28 t13 0) w fun t14 w =>
 V (ld 26 t14) w fun t15 w =>
 V (fa 53 t5 0) w fun t16 w =>
 V (fa 28 t16 0) w fun t17 w =>
 V (ld 26 t17) w fun t18 w =>
 V (Builtin.len_ #[26] 3 #[t18]) w fun t19 w =>
 V (bi .sub 3 t19 (.int .i64 1)) w fun t20 w =>
 V (ia 26 t15 t20) w fun t21 w =>
 V (fa 63 t21 1) w fun t22 w =>
 U (st 59 t22 (.slice none 0 0)) w fun w =>
 V (fa 53 t5 0) w fun t23 w =>
 V (ld 28 t23) w fun t24 w =>
 CV (.func (.func 26) #[] #[]) #[t24, t1, (.string ⟨#[]⟩)] w fun t26 w =>
 U (st 53 t5 t26) w fun w =>
 ∀ K0 : List Value → World → Prop, (∀ w, (∀ g : Env,
 V (fa 53 t5 1) w fun t34 w =>
 V (ld 39 t34) w fun t35 w =>
 V (fa 53 t5 2) w fun t36 w =>
 V (ld 31 t36) w fun t37 w =>
 V (bd 53 #[(1, t35), (2, t37)]) w fun t38 w =>
 U (st 53 t4 t38) w fun w =>
 CW 53 t4 w fun t1004 => R t1004 w) → K0 [] w) →
 V (fa 53 t5 1) w fun t27 w =>
 V (fa 39 t27 0) w fun t28 w =>
 V (ld 3 t28) w fun t29 w =>
 V (eq .eql 3 (.tmp 29) (.const (.int .i64 0)) t29 (.int .i64 0)) w fun t30 w =>
 CondW t30
 (V (fa 53 t5 0) w fun t31 w =>
 V (ld 28 t31) w fun t32 w =>
 CV (.func (.func 27) #[] #[]) #[t32] w fun t33 w =>
 U (st 53 t5 t33) w fun w =>
 K0 [] w)
 (K0 [] w))
theorem eq39 (R : Value → World → Prop) (w : World) (t0 t1 : Value) : enterW Try.prog Try.f39 an39 [t0, t1] w R = vc39 R w t0 t1 := by kernel_rfl
theorem en39 {R : Value → World → Prop} {w : World} {t0 t1 : Value} (h : vc39 R w t0 t1) : Calls Try.prog 39 #[t0, t1] w (retK R) :=
  calls_of_enter mixed Try.func39 (by kernel_rfl) (by rw [eq39]; exact h)

-- qanat/qanatref10.Name
def an40 : Ann := (.seq (.reg (opn 1 .done)) (.seq (.seq (.reg (opn 3 .done)) (.cond (.seq (.reg (opn 1 .done)) .leaf) .leaf)) (.seq (.reg (opn 2 .done)) (.seq (.reg (opn 5 .done)) .leaf))))
def vc40 (R : Value → World → Prop) (w : World) (t0 : Value) : Prop :=
 CV (.func (.func 82) #[] #[]) #[t0] w fun t5 w =>
 V (un .not t5) w fun t6 w =>
 CondW t6
 (R (.string ⟨#[]⟩) w)
 (CV (.func (.func 83) #[] #[]) #[] w fun t7 w =>
 V (ia 131 t7 t0) w fun t10 w =>
 V (ld 9 t10) w fun t11 w =>
 R t11 w)
theorem eq40 (R : Value → World → Prop) (w : World) (t0 : Value) : enterW Try.prog Try.f40 an40 [t0] w R = vc40 R w t0 := by kernel_rfl
theorem en40 {R : Value → World → Prop} {w : World} {t0 : Value} (h : vc40 R w t0) : Calls Try.prog 40 #[t0] w (retK R) :=
  calls_of_enter mixed Try.func40 (by kernel_rfl) (by rw [eq40]; exact h)

-- qanat/qanatref10.Number
def an41 : Ann := (.seq (.reg (opn 1 .done)) (.seq (.reg (opn 2 .done)) (.seq (.seq (.reg (opn 1 .done)) (.one (.loop [4] [6, 7, 8, 9, 12, 13, 14, 15, 16, 17, 18, 2, 10, 11, 4] (.seq (.seq (.reg (opn 4 .done)) (.cond .leaf .leaf)) (.seq (.one (.seq (.reg (opn 6 .done)) (.cond (.seq (.reg (opn 2 .done)) .leaf) .leaf))) (.reg (opn 3 .done))))))) (.seq (.reg (opn 1 .done)) .leaf))))
def vc41 (R : Value → World → Prop) (w : World) (t0 : Value) : Prop :=
 CV (.func (.func 83) #[] #[]) #[] w fun t5 w =>
 ∃ (I0 : List Value → World → Prop) (M0 : List Value → World → Nat), I0 [(.int .i64 0)] w ∧ ∀ g : Env, ∀ t4, ∀ w, I0 [t4] w → ∀ m0, m0 = M0 [t4] w →
 V (Builtin.len_ #[131] 3 #[t5]) w fun t8 w =>
 V (bi .lss 3 t4 t8) w fun t9 w =>
 CondW t9
 (V (ia 131 t5 t4) w fun t14 w =>
 V (ld 9 t14) w fun t15 w =>
 V (eq .eql 9 (.tmp 15) (.tmp 16) t15 t0) w fun t17 w =>
 CondW t17
 (R t4 w)
 (V (bi .add 3 t4 (.int .i64 1)) w fun t11 w =>
 I0 [t11] w ∧ M0 [t11] w < m0))
 (R (.int .i64 (-1)) w)
theorem eq41 (R : Value → World → Prop) (w : World) (t0 : Value) : enterW Try.prog Try.f41 an41 [t0] w R = vc41 R w t0 := by kernel_rfl
theorem en41 {R : Value → World → Prop} {w : World} {t0 : Value} (h : vc41 R w t0) : Calls Try.prog 41 #[t0] w (retK R) :=
  calls_of_enter mixed Try.func41 (by kernel_rfl) (by rw [eq41]; exact h)

-- qanat/trap.New
def an42 : Ann := (.seq (.reg (opn 1 .done)) (.seq (.reg (opn 5 .done)) .leaf))
def vc42 (R : Value → World → Prop) (w : World) : Prop :=
 V (al 28) w fun t0 w =>
 V (ms 58 (.int .i64 6) (.int .i64 6)) w fun t1 w =>
 V (bd 63 #[(0, t1)]) w fun t2 w =>
 V (bs 26 1 #[(0, t2)]) w fun t3 w =>
 V (bd 28 #[(0, t3)]) w fun t4 w =>
 U (st 28 t0 t4) w fun w =>
 CW 28 t0 w fun t1000 => R t1000 w
theorem eq42 (R : Value → World → Prop) (w : World) : enterW Try.prog Try.f42 an42 [] w R = vc42 R w  := by kernel_rfl
theorem en42 {R : Value → World → Prop} {w : World} (h : vc42 R w ) : Calls Try.prog 42 #[] w (retK R) :=
  calls_of_enter mixed Try.func42 (by kernel_rfl) (by rw [eq42]; exact h)

-- qanat/qanatref10.New
def an43 : Ann := (.seq (.reg (opn 1 .done)) (.seq (.reg (opn 5 .done)) .leaf))
def vc43 (R : Value → World → Prop) (w : World) : Prop :=
 V (al 28) w fun t0 w =>
 V (ms 58 (.int .i64 6) (.int .i64 6)) w fun t1 w =>
 V (bd 63 #[(0, t1)]) w fun t2 w =>
 V (bs 26 1 #[(0, t2)]) w fun t3 w =>
 V (bd 28 #[(0, t3)]) w fun t4 w =>
 U (st 28 t0 t4) w fun w =>
 CW 28 t0 w fun t1000 => R t1000 w
theorem eq43 (R : Value → World → Prop) (w : World) : enterW Try.prog Try.f43 an43 [] w R = vc43 R w  := by kernel_rfl
theorem en43 {R : Value → World → Prop} {w : World} (h : vc43 R w ) : Calls Try.prog 43 #[] w (retK R) :=
  calls_of_enter mixed Try.func43 (by kernel_rfl) (by rw [eq43]; exact h)

-- qanat/qanatref10.Check
def an44 : Ann := (.seq (.reg (opn 2 .done)) (.seq (.seq (.reg (opn 5 (.join [14] [10, 11, 12, 13, 14] (.split 9 (opn 5 .done) (opn 5 .done)) .done))) (.cond (.seq (.reg (opn 1 .done)) .leaf) .leaf)) (.seq (.seq (.reg (opn 1 .done)) (.one (.loop [3] [15, 16, 17, 18, 19, 22, 23, 24, 25, 26, 27, 4, 28, 29, 2, 20, 21, 3] (.seq (.seq (.reg (opn 5 .done)) (.cond .leaf .leaf)) (.seq (.one (.seq (.reg (opn 7 .done)) (.seq (.reg (opn 2 .done)) (.cond (.seq (.reg (opn 1 .done)) .leaf) .leaf)))) (.reg (opn 3 .done))))))) (.seq (.reg (opn 1 .done)) .leaf))))
def vc44 (R : Value → World → Prop) (w : World) (t0 : Value) : Prop :=
 V (bx 28 t0) w fun t1 w =>
 V (fa 28 t1 0) w fun t5 w =>
 V (ld 26 t5) w fun t6 w =>
 V (Builtin.len_ #[26] 3 #[t6]) w fun t7 w =>
 V (bi .lss 3 t7 (.int .i64 1)) w fun t8 w =>
 ∀ K0 : List Value → World → Prop, (∀ t14, ∀ w, (∀ g : Env,
 CondW t14
 (R (.int .i64 2) w)
 (∃ (I0 : List Value → World → Prop) (M0 : List Value → World → Nat), I0 [(.int .i64 0)] w ∧ ∀ g : Env, ∀ t3, ∀ w, I0 [t3] w → ∀ m0, m0 = M0 [t3] w →
 V (fa 28 t1 0) w fun t16 w =>
 V (ld 26 t16) w fun t17 w =>
 V (Builtin.len_ #[26] 3 #[t17]) w fun t18 w =>
 V (bi .lss 3 t3 t18) w fun t19 w =>
 CondW t19
 (V (fa 28 t1 0) w fun t22 w =>
 V (ld 26 t22) w fun t23 w =>
 V (ia 26 t23 t3) w fun t25 w =>
 V (ld 63 t25) w fun t26 w =>
 CV (.func (.func 84) #[] #[]) #[t26] w fun t27 w =>
 V (un .not t27) w fun t29 w =>
 CondW t29
 (R (.int .i64 2) w)
 (V (bi .add 3 t3 (.int .i64 1)) w fun t21 w =>
 I0 [t21] w ∧ M0 [t21] w < m0))
 (R (.int .i64 0) w))) → K0 [t14] w) →
 CondW t8
 (K0 [(.bool true)] w)
 (V (fa 28 t1 0) w fun t10 w =>
 V (ld 26 t10) w fun t11 w =>
 V (Builtin.len_ #[26] 3 #[t11]) w fun t12 w =>
 V (bi .gtr 3 t12 (.int .i64 30)) w fun t13 w =>
 K0 [t13] w)
theorem eq44 (R : Value → World → Prop) (w : World) (t0 : Value) : enterW Try.prog Try.f44 an44 [t0] w R = vc44 R w t0 := by kernel_rfl
theorem en44 {R : Value → World → Prop} {w : World} {t0 : Value} (h : vc44 R w t0) : Calls Try.prog 44 #[t0] w (retK R) :=
  calls_of_enter mixed Try.func44 (by kernel_rfl) (by rw [eq44]; exact h)

-- qanat/qanatlaw10.kinds
def an45 : Ann := (.seq (.reg (opn 1 .done)) (.seq (.reg (opn 12 .done)) (.seq (.seq (.reg (opn 3 (.join [25] [20, 21, 22, 23, 24, 25] (.split 19 (opn 6 .done) (opn 6 .done)) .done))) (.cond (.seq (.reg (opn 1 .done)) .leaf) .leaf)) (.seq (.seq (.reg (opn 1 .done)) (.one (.loop [9] [26, 27, 28, 29, 32, 33, 34, 35, 36, 37, 38, 39, 40, 41, 4, 30, 31, 9] (.seq (.seq (.reg (opn 4 .done)) (.cond .leaf .leaf)) (.seq (.one (.seq (.draw (.take 0 (.take 1 (.take 2 (.take 3 (.hold 4 (.take 5 (.take 6 (.take 7 (.hold 8 (.take 9 .done))))))))))) (.cond (.seq (.reg (opn 1 .done)) .leaf) .leaf))) (.reg (opn 3 .done))))))) (.seq (.reg (opn 1 .done)) .leaf)))))
def vc45 (R : Value → World → Prop) (w : World) (t0 t1 : Value) : Prop :=
 CV (.func (.func 13) #[] #[]) #[t0] w fun t12 w =>
 V (ex t12 0) w fun t13 w =>
 V (ex t12 1) w fun t14 w =>
 V (ex t12 2) w fun t15 w =>
 V (ex t12 3) w fun t16 w =>
 V (al 28) w fun t5 w =>
 U (st 28 t5 t13) w fun w =>
 V (eq .neq 31 (.tmp 17) (.const (.int .i64 0)) t16 (.int .i64 0)) w fun t18 w =>
 ∀ K0 : List Value → World → Prop, (∀ t25, ∀ w, (∀ g : Env,
 CondW t25
 (R (.bool false) w)
 (∃ (I0 : List Value → World → Prop) (M0 : List Value → World → Nat), I0 [(.int .i64 0)] w ∧ ∀ g : Env, ∀ t9, ∀ w, I0 [t9] w → ∀ m0, m0 = M0 [t9] w →
 V (Builtin.len_ #[29] 3 #[t14]) w fun t28 w =>
 V (bi .lss 3 t9 t28) w fun t29 w =>
 CondW t29
 (Dr w fun w =>
 PV (ia 29 t14 t9) fun t34 =>
 PV (fa 39 t34 0) fun t35 =>
 HV (ld 3 t35) w fun t36 =>
 PV (ia 68 t1 t9) fun t39 =>
 HV (ld 3 t39) w fun t40 =>
 PV (eq .neq 3 (.tmp 36) (.tmp 40) t36 t40) fun t41 =>
 CondW t41
 (R (.bool false) w)
 (V (bi .add 3 t9 (.int .i64 1)) w fun t31 w =>
 I0 [t31] w ∧ M0 [t31] w < m0))
 (R (.bool true) w))) → K0 [t25] w) →
 CondW t18
 (K0 [(.bool true)] w)
 (V (Builtin.len_ #[29] 3 #[t14]) w fun t21 w =>
 V (Builtin.len_ #[68] 3 #[t1]) w fun t23 w =>
 V (eq .neq 3 (.tmp 21) (.tmp 23) t21 t23) w fun t24 w =>
 K0 [t24] w)
theorem eq45 (R : Value → World → Prop) (w : World) (t0 t1 : Value) : enterW Try.prog Try.f45 an45 [t0, t1] w R = vc45 R w t0 t1 := by kernel_rfl
theorem en45 {R : Value → World → Prop} {w : World} {t0 t1 : Value} (h : vc45 R w t0 t1) : Calls Try.prog 45 #[t0, t1] w (retK R) :=
  calls_of_enter mixed Try.func45 (by kernel_rfl) (by rw [eq45]; exact h)

-- qanat/qanatlaw10.set
def an46 : Ann := (.seq (.reg (opn 1 .done)) (.seq (.reg (opn 5 .done)) .leaf))
def vc46 (R : Value → World → Prop) (w : World) (t0 t1 t2 : Value) : Prop :=
 V (al 25) w fun t6 w =>
 V (bd 25 #[(0, (.int .i64 1)), (1, t0), (2, t1), (3, t2)]) w fun t10 w =>
 U (st 25 t6 t10) w fun w =>
 CW 25 t6 w fun t1006 => R t1006 w
theorem eq46 (R : Value → World → Prop) (w : World) (t0 t1 t2 : Value) : enterW Try.prog Try.f46 an46 [t0, t1, t2] w R = vc46 R w t0 t1 t2 := by kernel_rfl
theorem en46 {R : Value → World → Prop} {w : World} {t0 t1 t2 : Value} (h : vc46 R w t0 t1 t2) : Calls Try.prog 46 #[t0, t1, t2] w (retK R) :=
  calls_of_enter mixed Try.func46 (by kernel_rfl) (by rw [eq46]; exact h)

-- qanat/qanatlaw10.raise
def an47 : Ann := (.seq (.reg (opn 1 .done)) (.seq (.reg (opn 4 .done)) .leaf))
def vc47 (R : Value → World → Prop) (w : World) (t0 t1 : Value) : Prop :=
 V (al 25) w fun t4 w =>
 V (bd 25 #[(0, (.int .i64 2)), (1, t0), (3, t1)]) w fun t7 w =>
 U (st 25 t4 t7) w fun w =>
 CW 25 t4 w fun t1004 => R t1004 w
theorem eq47 (R : Value → World → Prop) (w : World) (t0 t1 : Value) : enterW Try.prog Try.f47 an47 [t0, t1] w R = vc47 R w t0 t1 := by kernel_rfl
theorem en47 {R : Value → World → Prop} {w : World} {t0 t1 : Value} (h : vc47 R w t0 t1) : Calls Try.prog 47 #[t0, t1] w (retK R) :=
  calls_of_enter mixed Try.func47 (by kernel_rfl) (by rw [eq47]; exact h)

-- qanat/qanatlaw10.end
def an48 : Ann := (.seq (.reg (opn 1 .done)) (.seq (.reg (opn 2 .done)) .leaf))
def vc48 (R : Value → World → Prop) (w : World) : Prop :=
 V (al 25) w fun t0 w =>
 V (bd 25 #[(0, (.int .i64 3))]) w fun t1 w =>
 U (st 25 t0 t1) w fun w =>
 CW 25 t0 w fun t1000 => R t1000 w
theorem eq48 (R : Value → World → Prop) (w : World) : enterW Try.prog Try.f48 an48 [] w R = vc48 R w  := by kernel_rfl
theorem en48 {R : Value → World → Prop} {w : World} (h : vc48 R w ) : Calls Try.prog 48 #[] w (retK R) :=
  calls_of_enter mixed Try.func48 (by kernel_rfl) (by rw [eq48]; exact h)

-- qanat/qanatlaw10.back
def an49 : Ann := (.seq (.reg (opn 1 .done)) (.seq (.reg (opn 2 .done)) .leaf))
def vc49 (R : Value → World → Prop) (w : World) : Prop :=
 V (al 25) w fun t0 w =>
 V (bd 25 #[(0, (.int .i64 5))]) w fun t1 w =>
 U (st 25 t0 t1) w fun w =>
 CW 25 t0 w fun t1000 => R t1000 w
theorem eq49 (R : Value → World → Prop) (w : World) : enterW Try.prog Try.f49 an49 [] w R = vc49 R w  := by kernel_rfl
theorem en49 {R : Value → World → Prop} {w : World} (h : vc49 R w ) : Calls Try.prog 49 #[] w (retK R) :=
  calls_of_enter mixed Try.func49 (by kernel_rfl) (by rw [eq49]; exact h)

-- qanat/trap.operations
def an50 : Ann := (.seq (.reg (opn 1 .done)) (.seq (.reg (opn 8 .done)) .leaf))
def vc50 (R : Value → World → Prop) (w : World) : Prop :=
 V (mm 100 none) w fun t1 w =>
 U (mu 100 t1 (.int .i64 1) (.func (.func 85) #[] #[])) w fun w =>
 U (mu 100 t1 (.int .i64 2) (.func (.func 68) #[] #[])) w fun w =>
 U (mu 100 t1 (.int .i64 3) (.func (.func 69) #[] #[])) w fun w =>
 U (mu 100 t1 (.int .i64 4) (.func (.func 86) #[] #[])) w fun w =>
 U (mu 100 t1 (.int .i64 5) (.func (.func 87) #[] #[])) w fun w =>
 R t1 w
theorem eq50 (R : Value → World → Prop) (w : World) : enterW Try.prog Try.f50 an50 [] w R = vc50 R w  := by kernel_rfl
theorem en50 {R : Value → World → Prop} {w : World} (h : vc50 R w ) : Calls Try.prog 50 #[] w (retK R) :=
  calls_of_enter mixed Try.func50 (by kernel_rfl) (by rw [eq50]; exact h)

-- qanat/trap.done
def an51 : Ann := (.seq (.reg (opn 5 .done)) (.seq (.reg (opn 8 .done)) (.seq (.seq (.reg (opn 2 .done)) (.cond (.seq (.reg (opn 6 .done)) .leaf) .leaf)) (.seqJ [11, 10] [24, 25, 26, 27, 28, 29, 30, 31, 32, 33, 34, 35, 23, 36, 37, 11, 10] (.draw (.take 1 (.hold 2 (.take 4 (.take 5 (.hold 6 (.take 7 (.hold 8 (.take 9 (.hold 10 (.alts (.eff 0 (.hold 3 (.alts (.eff 11 (.take 12 (.take 13 (.take 14 (.alts (.eff 15 (.alts (.eff 16 (.take 17 .done) .nil)) .nil))))) (.eff 15 (.alts (.eff 11 (.take 12 (.take 13 (.take 14 (.alts (.eff 16 (.take 17 .done) .nil))))) .nil)) .nil)))) (.eff 15 (.alts (.eff 0 (.hold 3 (.alts (.eff 11 (.take 12 (.take 13 (.take 14 (.alts (.eff 16 (.take 17 .done) .nil))))) .nil))) .nil)) .nil))))))))))))) (.seq (.seq (.reg (opn 2 .done)) (.cond (.seq (.reg (opn 6 .done)) .leaf) .leaf)) (.seq (.draw (.take 0 (.take 1 (.take 2 (.hold 3 (.hold 4 (.alts (.eff 5 (.alts (.eff 6 (.take 7 .done) .nil)) .nil)))))))) .leaf))))))
def vc51 (R : Value → World → Prop) (w : World) (t0 t1 t2 : Value) : Prop :=
 V (bx 28 t0) w fun t3 w =>
 V (bx 25 t1) w fun t4 w =>
 V (al 28) w fun t6 w =>
 V (al 39) w fun t7 w =>
 V (ld 28 t3) w fun t13 w =>
 CV (.func (.func 66) #[] #[]) #[t13, t2] w fun t15 w =>
 V (ex t15 0) w fun t16 w =>
 V (ex t15 1) w fun t17 w =>
 V (eq .neq 31 (.tmp 18) (.const (.int .i64 0)) t17 (.int .i64 0)) w fun t19 w =>
 CondW t19
 (V (bd 28 #[]) w fun t20 w =>
 V (bd 39 #[]) w fun t21 w =>
 U (st 28 t6 t20) w fun w =>
 U (st 39 t7 t21) w fun w =>
 CW 28 t6 w fun t1006 => CW 39 t7 w fun t1007 => R (.tuple #[t1006, t1007, t17]) w)
 (∀ K0 : List Value → World → Prop, (∀ t11, ∀ t10, ∀ w, (∀ g : Env,
 V (eq .neq 31 (.tmp 38) (.const (.int .i64 0)) t10 (.int .i64 0)) w fun t39 w =>
 CondW t39
 (V (bd 28 #[]) w fun t40 w =>
 V (bd 39 #[]) w fun t41 w =>
 U (st 28 t6 t40) w fun w =>
 U (st 39 t7 t41) w fun w =>
 CW 28 t6 w fun t1006 => CW 39 t7 w fun t1007 => R (.tuple #[t1006, t1007, t10]) w)
 (Dr w fun w =>
 NilW t16 fun t44 => PV (fa 134 t44 0) fun t45 =>
 HV (ld 28 t45) w fun t46 =>
 HV (ld 39 t11) w fun t47 =>
 U (st 28 t6 t46) w fun w =>
 RunIs (ld 39 t11) w t47 ∧ (U (st 39 t7 t47) w fun w =>
 CW 28 t6 w fun t1006 => CW 39 t7 w fun t1007 => R (.tuple #[t1006, t1007, (.int .i64 0)]) w))) → K0 [t11, t10] w) →
 Dr w fun w =>
 PV (fa 25 t4 0) fun t25 =>
 HV (ld 3 t25) w fun t26 =>
 PV (fa 25 t4 1) fun t29 =>
 HV (ld 3 t29) w fun t30 =>
 PV (fa 25 t4 2) fun t31 =>
 HV (ld 3 t31) w fun t32 =>
 PV (fa 25 t4 3) fun t33 =>
 HV (ld 9 t33) w fun t34 =>
 (CV (.func (.func 50) #[] #[]) #[] w fun t24 w =>
 RunIs (ld 9 t33) w t34 ∧ RunIs (ld 3 t31) w t32 ∧ RunIs (ld 3 t29) w t30 ∧ RunIs (ld 3 t25) w t26 ∧ (HV (lk 100 t24 t26 false) w fun t27 =>
 (CV t27 #[t16, t30, t32, t34] w fun t35 w =>
 RunIs (ld 3 t25) w t26 ∧ (PV (ex t35 0) fun t36 =>
 PV (ex t35 1) fun t37 =>
 V (al 39) w fun t11 w =>
 RunIs (ld 3 t25) w t26 ∧ (U (st 39 t11 t36) w fun w =>
 K0 [t11, t37] w))) ∧
 (V (al 39) w fun t11 w =>
 RunIs (lk 100 t24 t26 false) w t27 ∧ RunIs (ld 9 t33) w t34 ∧ RunIs (ld 3 t31) w t32 ∧ RunIs (ld 3 t29) w t30 ∧ RunIs (ld 3 t25) w t26 ∧ (CV t27 #[t16, t30, t32, t34] w fun t35 w =>
 RunIs (ld 3 t25) w t26 ∧ (PV (ex t35 0) fun t36 =>
 PV (ex t35 1) fun t37 =>
 U (st 39 t11 t36) w fun w =>
 K0 [t11, t37] w))))) ∧
 (V (al 39) w fun t11 w =>
 RunIs (ld 9 t33) w t34 ∧ RunIs (ld 3 t31) w t32 ∧ RunIs (ld 3 t29) w t30 ∧ RunIs (ld 3 t25) w t26 ∧ (CV (.func (.func 50) #[] #[]) #[] w fun t24 w =>
 RunIs (ld 9 t33) w t34 ∧ RunIs (ld 3 t31) w t32 ∧ RunIs (ld 3 t29) w t30 ∧ RunIs (ld 3 t25) w t26 ∧ (HV (lk 100 t24 t26 false) w fun t27 =>
 CV t27 #[t16, t30, t32, t34] w fun t35 w =>
 RunIs (ld 3 t25) w t26 ∧ (PV (ex t35 0) fun t36 =>
 PV (ex t35 1) fun t37 =>
 U (st 39 t11 t36) w fun w =>
 K0 [t11, t37] w)))))
theorem eq51 (R : Value → World → Prop) (w : World) (t0 t1 t2 : Value) : enterW Try.prog Try.f51 an51 [t0, t1, t2] w R = vc51 R w t0 t1 t2 := by kernel_rfl
theorem en51 {R : Value → World → Prop} {w : World} {t0 t1 t2 : Value} (h : vc51 R w t0 t1 t2) : Calls Try.prog 51 #[t0, t1, t2] w (retK R) :=
  calls_of_enter mixed Try.func51 (by kernel_rfl) (by rw [eq51]; exact h)

-- qanat/qanatref10.applied
def an52 : Ann := (.seq (.reg (opn 3 .done)) (.seq (.seq (.reg (opn 2 .done)) (.one (.seq (.reg (opn 2 .done)) (.cond (.seq (.reg (opn 9 .done)) .leaf) (.seq (.reg (opn 2 .done)) (.cond (.seq (.reg (opn 7 .done)) .leaf) (.seq (.reg (opn 2 .done)) (.cond (.seq (.reg (opn 3 .done)) .leaf) (.seq (.reg (opn 2 .done)) (.cond (.seq (.reg (opn 3 .done)) .leaf) (.seq (.reg (opn 2 .done)) (.cond (.seq (.reg (opn 3 .done)) .leaf) .leaf)))))))))))) (.seq (.reg (opn 2 .done)) .leaf)))
def vc52 (R : Value → World → Prop) (w : World) (t0 t1 : Value) : Prop :=
 V (bx 28 t0) w fun t2 w =>
 V (bx 25 t1) w fun t3 w =>
 V (al 53) w fun t4 w =>
 V (fa 25 t3 0) w fun t5 w =>
 V (ld 3 t5) w fun t6 w =>
 V (eq .eql 3 (.tmp 6) (.const (.int .i64 1)) t6 (.int .i64 1)) w fun t8 w =>
 CondW t8
 (V (ld 28 t2) w fun t9 w =>
 V (fa 25 t3 1) w fun t10 w =>
 V (ld 3 t10) w fun t11 w =>
 V (fa 25 t3 2) w fun t12 w =>
 V (ld 3 t12) w fun t13 w =>
 V (fa 25 t3 3) w fun t14 w =>
 V (ld 9 t14) w fun t15 w =>
 CV (.func (.func 25) #[] #[]) #[t9, t11, t13, t15] w fun t16 w =>
 U (st 53 t4 t16) w fun w =>
 CW 53 t4 w fun t1004 => R t1004 w)
 (V (eq .eql 3 (.tmp 6) (.const (.int .i64 2)) t6 (.int .i64 2)) w fun t18 w =>
 CondW t18
 (V (ld 28 t2) w fun t19 w =>
 V (fa 25 t3 1) w fun t20 w =>
 V (ld 3 t20) w fun t21 w =>
 V (fa 25 t3 3) w fun t22 w =>
 V (ld 9 t22) w fun t23 w =>
 CV (.func (.func 26) #[] #[]) #[t19, t21, t23] w fun t24 w =>
 U (st 53 t4 t24) w fun w =>
 CW 53 t4 w fun t1004 => R t1004 w)
 (V (eq .eql 3 (.tmp 6) (.const (.int .i64 3)) t6 (.int .i64 3)) w fun t26 w =>
 CondW t26
 (V (ld 28 t2) w fun t27 w =>
 CV (.func (.func 27) #[] #[]) #[t27] w fun t28 w =>
 U (st 53 t4 t28) w fun w =>
 CW 53 t4 w fun t1004 => R t1004 w)
 (V (eq .eql 3 (.tmp 6) (.const (.int .i64 4)) t6 (.int .i64 4)) w fun t30 w =>
 CondW t30
 (V (ld 28 t2) w fun t31 w =>
 CV (.func (.func 28) #[] #[]) #[t31] w fun t32 w =>
 U (st 53 t4 t32) w fun w =>
 CW 53 t4 w fun t1004 => R t1004 w)
 (V (eq .eql 3 (.tmp 6) (.const (.int .i64 5)) t6 (.int .i64 5)) w fun t34 w =>
 CondW t34
 (V (ld 28 t2) w fun t35 w =>
 CV (.func (.func 29) #[] #[]) #[t35] w fun t36 w =>
 U (st 53 t4 t36) w fun w =>
 CW 53 t4 w fun t1004 => R t1004 w)
 (V (bd 53 #[(2, (.int .i64 1))]) w fun t37 w =>
 U (st 53 t4 t37) w fun w =>
 CW 53 t4 w fun t1004 => R t1004 w)))))
theorem eq52 (R : Value → World → Prop) (w : World) (t0 t1 : Value) : enterW Try.prog Try.f52 an52 [t0, t1] w R = vc52 R w t0 t1 := by kernel_rfl
theorem en52 {R : Value → World → Prop} {w : World} {t0 t1 : Value} (h : vc52 R w t0 t1) : Calls Try.prog 52 #[t0, t1] w (retK R) :=
  calls_of_enter mixed Try.func52 (by kernel_rfl) (by rw [eq52]; exact h)

-- slices.ContainsFunc[[]qanat/api.TrapOp,qanat/api.TrapOp]
def an53 : Ann := (.seq (.reg (opn 1 .done)) (.seq (.reg (opn 5 .done)) .leaf))
def vc53 (R : Value → World → Prop) (w : World) (t0 t1 : Value) : Prop :=
 CV (.func (.func 88) #[] #[]) #[t0, t1] w fun t7 w =>
 V (bi .geq 3 t7 (.int .i64 0)) w fun t8 w =>
 R t8 w
theorem eq53 (R : Value → World → Prop) (w : World) (t0 t1 : Value) : enterW Try.prog Try.f53 an53 [t0, t1] w R = vc53 R w t0 t1 := by kernel_rfl
theorem en53 {R : Value → World → Prop} {w : World} {t0 t1 : Value} (h : vc53 R w t0 t1) : Calls Try.prog 53 #[t0, t1] w (retK R) :=
  calls_of_enter mixed Try.func53 (by kernel_rfl) (by rw [eq53]; exact h)

-- qanat/qanatlaw10.played$1
def an54 : Ann := (.seq (.reg (opn 2 .done)) (.seq (.reg (opn 5 .done)) .leaf))
def vc54 (R : Value → World → Prop) (w : World) (t0 : Value) : Prop :=
 V (bx 25 t0) w fun t1 w =>
 V (fa 25 t1 3) w fun t3 w =>
 V (ld 9 t3) w fun t4 w =>
 V (Builtin.len_ #[9] 3 #[t4]) w fun t5 w =>
 V (bi .gtr 3 t5 (.int .i64 1000)) w fun t6 w =>
 R t6 w
theorem eq54 (R : Value → World → Prop) (w : World) (t0 : Value) : enterW Try.prog Try.f54 an54 [t0] w R = vc54 R w t0 := by kernel_rfl
theorem en54 {R : Value → World → Prop} {w : World} {t0 : Value} (h : vc54 R w t0) : Calls Try.prog 54 #[t0] w (retK R) :=
  calls_of_enter mixed Try.func54 (by kernel_rfl) (by rw [eq54]; exact h)

-- qanat/trap.unless
def an55 : Ann := (.seq (.reg (opn 1 .done)) (.seq (.seq (.reg (opn 1 .done)) (.cond (.seq (.reg (opn 1 .done)) .leaf) .leaf)) (.seq (.reg (opn 2 .done)) .leaf)))
def vc55 (R : Value → World → Prop) (w : World) (t0 t1 : Value) : Prop :=
 CondW t0
 (R (.int .i64 0) w)
 (R t1 w)
theorem eq55 (R : Value → World → Prop) (w : World) (t0 t1 : Value) : enterW Try.prog Try.f55 an55 [t0, t1] w R = vc55 R w t0 t1 := by kernel_rfl
theorem en55 {R : Value → World → Prop} {w : World} {t0 t1 : Value} (h : vc55 R w t0 t1) : Calls Try.prog 55 #[t0, t1] w (retK R) :=
  calls_of_enter mixed Try.func55 (by kernel_rfl) (by rw [eq55]; exact h)

-- slices.ContainsFunc[[]qanat/api.TrapFrame,qanat/api.TrapFrame]
def an56 : Ann := (.seq (.reg (opn 1 .done)) (.seq (.reg (opn 5 .done)) .leaf))
def vc56 (R : Value → World → Prop) (w : World) (t0 t1 : Value) : Prop :=
 CV (.func (.func 89) #[] #[]) #[t0, t1] w fun t7 w =>
 V (bi .geq 3 t7 (.int .i64 0)) w fun t8 w =>
 R t8 w
theorem eq56 (R : Value → World → Prop) (w : World) (t0 t1 : Value) : enterW Try.prog Try.f56 an56 [t0, t1] w R = vc56 R w t0 t1 := by kernel_rfl
theorem en56 {R : Value → World → Prop} {w : World} {t0 t1 : Value} (h : vc56 R w t0 t1) : Calls Try.prog 56 #[t0, t1] w (retK R) :=
  calls_of_enter mixed Try.func56 (by kernel_rfl) (by rw [eq56]; exact h)

-- qanat/trap.Check$1
def an57 : Ann := (.seq (.reg (opn 2 .done)) (.seq (.reg (opn 4 .done)) .leaf))
def vc57 (R : Value → World → Prop) (w : World) (t0 : Value) : Prop :=
 V (bx 63 t0) w fun t1 w =>
 V (ld 63 t1) w fun t3 w =>
 CV (.func (.func 58) #[] #[]) #[t3] w fun t4 w =>
 V (un .not t4) w fun t5 w =>
 R t5 w
theorem eq57 (R : Value → World → Prop) (w : World) (t0 : Value) : enterW Try.prog Try.f57 an57 [t0] w R = vc57 R w t0 := by kernel_rfl
theorem en57 {R : Value → World → Prop} {w : World} {t0 : Value} (h : vc57 R w t0) : Calls Try.prog 57 #[t0] w (retK R) :=
  calls_of_enter mixed Try.func57 (by kernel_rfl) (by rw [eq57]; exact h)

-- qanat/trap.framed
def an58 : Ann := (.seq (.reg (opn 2 .done)) (.seq (.seq (.reg (opn 4 .done)) (.cond (.seq (.reg (opn 1 .done)) .leaf) .leaf)) (.seq (.seq (.reg (opn 4 .done)) (.one (.loop [15] [16, 17, 18, 19, 4, 3, 20, 21, 22, 23, 2, 24, 15] (.seq (.reg (opn 1 .done)) (.seq (.cond .leaf .leaf) (.seq (.one (.seq (.reg (opn 6 .done)) (.seq (.reg (opn 4 .done)) (.cond (.seq (.reg (opn 1 .done)) .leaf) .leaf)))) (.reg (opn 2 .done)))))))) (.seq (.reg (opn 2 .done)) (.seq (.seq (.reg (opn 4 .done)) (.one (.loop [29] [30, 31, 32, 7, 33, 34, 35, 36, 37, 38, 39, 40, 41, 42, 43, 44, 45, 46, 47, 48, 49, 50, 51, 52, 53, 2, 54, 55, 56, 57, 29] (.seq (.reg (opn 1 .done)) (.seq (.cond .leaf .leaf) (.seq (.one (.seq (.reg (opn 4 .done)) (.seq (.seq (.reg (opn 5 (.join [41] [38, 39, 40, 41] (.split 37 (opn 4 .done) (opn 4 .done)) (opn 1 (.join [47] [43, 44, 45, 46, 47] (.split 42 (opn 5 .done) (opn 5 .done)) (opn 1 (.join [53] [49, 50, 51, 52, 53] (.split 48 (opn 5 .done) (opn 5 .done)) .done))))))) (.cond (.seq (.reg (opn 1 .done)) .leaf) .leaf)) (.reg (opn 4 .done))))) (.reg (opn 2 .done)))))))) (.seq (.seq (.reg (opn 4 .done)) (.cond (.seq (.reg (opn 5 .done)) .leaf) .leaf)) (.seq (.reg (opn 5 (.join [75] [71, 72, 73, 74, 75] (.split 70 (opn 5 .done) (opn 5 .done)) (opn 1 (.join [81] [77, 78, 79, 80, 81] (.split 76 (opn 5 .done) (opn 5 .done)) (opn 1 (.join [87] [83, 84, 85, 86, 87] (.split 82 (opn 5 .done) (opn 5 .done)) (opn 1 .done)))))))) .leaf)))))))
def vc58 (R : Value → World → Prop) (w : World) (t0 : Value) : Prop :=
 V (bx 63 t0) w fun t1 w =>
 V (fa 63 t1 0) w fun t8 w =>
 V (ld 58 t8) w fun t9 w =>
 V (Builtin.len_ #[58] 3 #[t9]) w fun t10 w =>
 V (eq .neq 3 (.tmp 10) (.const (.int .i64 6)) t10 (.int .i64 6)) w fun t11 w =>
 CondW t11
 (R (.bool false) w)
 (V (fa 63 t1 0) w fun t12 w =>
 V (ld 58 t12) w fun t13 w =>
 V (Builtin.len_ #[58] 3 #[t13]) w fun t14 w =>
 ∃ (I0 : List Value → World → Prop) (M0 : List Value → World → Nat), I0 [(.int .i64 0)] w ∧ ∀ g : Env, ∀ t15, ∀ w, I0 [t15] w → ∀ m0, m0 = M0 [t15] w →
 V (bi .lss 3 t15 t14) w fun t16 w =>
 CondW t16
 (V (ia 58 t13 t15) w fun t18 w =>
 V (ld 73 t18) w fun t19 w =>
 V (al 73) w fun t4 w =>
 U (st 73 t4 t19) w fun w =>
 V (ld 73 t4) w fun t21 w =>
 CV (.func (.func 90) #[] #[]) #[t15, t21] w fun t22 w =>
 V (un .not t22) w fun t23 w =>
 CondW t23
 (R (.bool false) w)
 (V (bi .add 3 t15 (.int .i64 1)) w fun t24 w =>
 I0 [t24] w ∧ M0 [t24] w < m0))
 (V (mm 138 none) w fun t25 w =>
 V (fa 63 t1 1) w fun t26 w =>
 V (ld 59 t26) w fun t27 w =>
 V (Builtin.len_ #[59] 3 #[t27]) w fun t28 w =>
 ∃ (I1 : List Value → World → Prop) (M1 : List Value → World → Nat), I1 [(.int .i64 0)] w ∧ ∀ g : Env, ∀ t29, ∀ w, I1 [t29] w → ∀ m1, m1 = M1 [t29] w →
 V (bi .lss 3 t29 t28) w fun t30 w =>
 CondW t30
 (V (ia 59 t27 t29) w fun t31 w =>
 V (ld 70 t31) w fun t32 w =>
 V (al 70) w fun t7 w =>
 U (st 70 t7 t32) w fun w =>
 V (fa 70 t7 0) w fun t33 w =>
 V (ld 3 t33) w fun t34 w =>
 CV (.func (.func 80) #[] #[]) #[t34] w fun t35 w =>
 V (un .not t35) w fun t36 w =>
 ∀ K0 : List Value → World → Prop, (∀ t41, ∀ w, (∀ g : Env,
 ∀ K0 : List Value → World → Prop, (∀ t47, ∀ w, (∀ g : Env,
 ∀ K0 : List Value → World → Prop, (∀ t53, ∀ w, (∀ g : Env,
 CondW t53
 (R (.bool false) w)
 (V (fa 70 t7 0) w fun t55 w =>
 V (ld 3 t55) w fun t56 w =>
 U (mu 138 t25 t56 (.bool true)) w fun w =>
 V (bi .add 3 t29 (.int .i64 1)) w fun t57 w =>
 I1 [t57] w ∧ M1 [t57] w < m1)) → K0 [t53] w) →
 CondW t47
 (K0 [(.bool true)] w)
 (V (fa 70 t7 1) w fun t49 w =>
 V (ld 9 t49) w fun t50 w =>
 CV (.func (.func 92) #[] #[]) #[t50] w fun t51 w =>
 V (un .not t51) w fun t52 w =>
 K0 [t52] w)) → K0 [t47] w) →
 CondW t41
 (K0 [(.bool true)] w)
 (V (fa 70 t7 0) w fun t44 w =>
 V (ld 3 t44) w fun t45 w =>
 V (lk 138 t25 t45 false) w fun t46 w =>
 K0 [t46] w)) → K0 [t41] w) →
 CondW t36
 (K0 [(.bool true)] w)
 (V (fa 70 t7 0) w fun t38 w =>
 V (ld 3 t38) w fun t39 w =>
 CV (.func (.func 91) #[] #[]) #[t39] w fun t40 w =>
 K0 [t40] w))
 (V (fa 63 t1 2) w fun t58 w =>
 V (fa 61 t58 1) w fun t59 w =>
 V (ld 3 t59) w fun t60 w =>
 V (eq .eql 3 (.tmp 60) (.const (.int .i64 0)) t60 (.int .i64 0)) w fun t61 w =>
 CondW t61
 (V (fa 63 t1 2) w fun t62 w =>
 V (ld 61 t62) w fun t63 w =>
 V (bd 61 #[]) w fun t64 w =>
 V (eq .eql 61 (.tmp 63) (.tmp 64) t63 t64) w fun t65 w =>
 R t65 w)
 (V (fa 63 t1 2) w fun t66 w =>
 V (fa 61 t66 1) w fun t67 w =>
 V (ld 3 t67) w fun t68 w =>
 V (eq .eql 3 (.tmp 68) (.const (.int .i64 1)) t68 (.int .i64 1)) w fun t69 w =>
 ∀ K0 : List Value → World → Prop, (∀ t75, ∀ w, (∀ g : Env,
 ∀ K0 : List Value → World → Prop, (∀ t81, ∀ w, (∀ g : Env,
 ∀ K0 : List Value → World → Prop, (∀ t87, ∀ w, (∀ g : Env,
 R t87 w) → K0 [t87] w) →
 CondW t81
 (V (fa 63 t1 2) w fun t83 w =>
 V (fa 61 t83 2) w fun t84 w =>
 V (ld 9 t84) w fun t85 w =>
 CV (.func (.func 92) #[] #[]) #[t85] w fun t86 w =>
 K0 [t86] w)
 (K0 [(.bool false)] w)) → K0 [t81] w) →
 CondW t75
 (V (fa 63 t1 2) w fun t77 w =>
 V (fa 61 t77 0) w fun t78 w =>
 V (ld 3 t78) w fun t79 w =>
 CV (.func (.func 80) #[] #[]) #[t79] w fun t80 w =>
 K0 [t80] w)
 (K0 [(.bool false)] w)) → K0 [t75] w) →
 CondW t69
 (K0 [(.bool true)] w)
 (V (fa 63 t1 2) w fun t71 w =>
 V (fa 61 t71 1) w fun t72 w =>
 V (ld 3 t72) w fun t73 w =>
 V (eq .eql 3 (.tmp 73) (.const (.int .i64 2)) t73 (.int .i64 2)) w fun t74 w =>
 K0 [t74] w)))))
theorem eq58 (R : Value → World → Prop) (w : World) (t0 : Value) : enterW Try.prog Try.f58 an58 [t0] w R = vc58 R w t0 := by kernel_rfl
theorem en58 {R : Value → World → Prop} {w : World} {t0 : Value} (h : vc58 R w t0) : Calls Try.prog 58 #[t0] w (retK R) :=
  calls_of_enter mixed Try.func58 (by kernel_rfl) (by rw [eq58]; exact h)

-- qanat/qanatref10.opened
def an59 : Ann := (.seq (.reg (opn 2 .done)) (.seq (.reg (opn 3 .done)) (.seq (.seq (.reg (opn 2 .done)) (.cond (.seq (.reg (opn 3 .done)) .leaf) .leaf)) (.seq (.seq (.reg (opn 3 .done)) (.cond (.seq (.reg (opn 2 .done)) .leaf) .leaf)) (.seq (.reg (opn 4 .done)) .leaf)))))
def vc59 (R : Value → World → Prop) (w : World) (t0 t1 : Value) : Prop :=
 V (bx 28 t0) w fun t2 w =>
 V (al 53) w fun t4 w =>
 V (ld 28 t2) w fun t6 w =>
 CV (.func (.func 44) #[] #[]) #[t6] w fun t7 w =>
 V (eq .neq 31 (.tmp 8) (.const (.int .i64 0)) t7 (.int .i64 0)) w fun t9 w =>
 CondW t9
 (V (bd 53 #[(2, t7)]) w fun t11 w =>
 U (st 53 t4 t11) w fun w =>
 CW 53 t4 w fun t1004 => R t1004 w)
 (CV (.func (.func 82) #[] #[]) #[t1] w fun t13 w =>
 V (un .not t13) w fun t14 w =>
 CondW t14
 (V (bd 53 #[(2, (.int .i64 1))]) w fun t15 w =>
 U (st 53 t4 t15) w fun w =>
 CW 53 t4 w fun t1004 => R t1004 w)
 (V (ld 28 t2) w fun t16 w =>
 CV (.func (.func 93) #[] #[]) #[t16] w fun t17 w =>
 V (bd 53 #[(0, t17)]) w fun t18 w =>
 U (st 53 t4 t18) w fun w =>
 CW 53 t4 w fun t1004 => R t1004 w))
theorem eq59 (R : Value → World → Prop) (w : World) (t0 t1 : Value) : enterW Try.prog Try.f59 an59 [t0, t1] w R = vc59 R w t0 t1 := by kernel_rfl
theorem en59 {R : Value → World → Prop} {w : World} {t0 t1 : Value} (h : vc59 R w t0 t1) : Calls Try.prog 59 #[t0, t1] w (retK R) :=
  calls_of_enter mixed Try.func59 (by kernel_rfl) (by rw [eq59]; exact h)

-- qanat/qanatref10.Deferred
def an60 : Ann := (.seq (.reg (opn 1 .done)) (.seq (.reg (opn 3 (.join [8] [6, 7, 8] (.split 5 (opn 3 .done) (opn 3 .done)) (opn 1 (.join [12] [10, 11, 12] (.split 9 (opn 3 .done) (opn 3 .done)) (opn 1 (.join [16] [14, 15, 16] (.split 13 (opn 3 .done) (opn 3 .done)) (opn 1 .done)))))))) .leaf))
def vc60 (R : Value → World → Prop) (w : World) (t0 : Value) : Prop :=
 V (eq .eql 3 (.tmp 3) (.const (.int .i64 0)) t0 (.int .i64 0)) w fun t4 w =>
 ∀ K0 : List Value → World → Prop, (∀ t8, ∀ w, (∀ g : Env,
 ∀ K0 : List Value → World → Prop, (∀ t12, ∀ w, (∀ g : Env,
 ∀ K0 : List Value → World → Prop, (∀ t16, ∀ w, (∀ g : Env,
 R t16 w) → K0 [t16] w) →
 CondW t12
 (K0 [(.bool true)] w)
 (V (eq .eql 3 (.tmp 14) (.const (.int .i64 4)) t0 (.int .i64 4)) w fun t15 w =>
 K0 [t15] w)) → K0 [t12] w) →
 CondW t8
 (K0 [(.bool true)] w)
 (V (eq .eql 3 (.tmp 10) (.const (.int .i64 2)) t0 (.int .i64 2)) w fun t11 w =>
 K0 [t11] w)) → K0 [t8] w) →
 CondW t4
 (K0 [(.bool true)] w)
 (V (eq .eql 3 (.tmp 6) (.const (.int .i64 1)) t0 (.int .i64 1)) w fun t7 w =>
 K0 [t7] w)
theorem eq60 (R : Value → World → Prop) (w : World) (t0 : Value) : enterW Try.prog Try.f60 an60 [t0] w R = vc60 R w t0 := by kernel_rfl
theorem en60 {R : Value → World → Prop} {w : World} {t0 : Value} (h : vc60 R w t0) : Calls Try.prog 60 #[t0] w (retK R) :=
  calls_of_enter mixed Try.func60 (by kernel_rfl) (by rw [eq60]; exact h)

-- qanat/qanatref07.Simple
def an61 : Ann := (.seq (.reg (opn 1 .done)) (.seq (.seq (.reg (opn 1 .done)) (.one (.loop [3] [4, 5, 6, 7, 10, 11, 12, 13, 2, 8, 9, 3] (.seq (.seq (.reg (opn 4 .done)) (.cond .leaf .leaf)) (.seq (.one (.seq (.reg (opn 4 .done)) (.cond (.seq (.reg (opn 1 .done)) .leaf) .leaf))) (.reg (opn 3 .done))))))) (.seq (.reg (opn 3 .done)) .leaf)))
def vc61 (R : Value → World → Prop) (w : World) (t0 : Value) : Prop :=
 ∃ (I0 : List Value → World → Prop) (M0 : List Value → World → Nat), I0 [(.int .i64 0)] w ∧ ∀ g : Env, ∀ t3, ∀ w, I0 [t3] w → ∀ m0, m0 = M0 [t3] w →
 V (Builtin.len_ #[9] 3 #[t0]) w fun t6 w =>
 V (bi .lss 3 t3 t6) w fun t7 w =>
 CondW t7
 (V (ix 9 t0 t3) w fun t12 w =>
 V (eq .eql 5 (.tmp 12) (.const (.int .u8 46)) t12 (.int .u8 46)) w fun t13 w =>
 CondW t13
 (R (.bool false) w)
 (V (bi .add 3 t3 (.int .i64 1)) w fun t9 w =>
 I0 [t9] w ∧ M0 [t9] w < m0))
 (CV (.func (.func 94) #[] #[]) #[t0] w fun t15 w =>
 R t15 w)
theorem eq61 (R : Value → World → Prop) (w : World) (t0 : Value) : enterW Try.prog Try.f61 an61 [t0] w R = vc61 R w t0 := by kernel_rfl
theorem en61 {R : Value → World → Prop} {w : World} {t0 : Value} (h : vc61 R w t0) : Calls Try.prog 61 #[t0] w (retK R) :=
  calls_of_enter mixed Try.func61 (by kernel_rfl) (by rw [eq61]; exact h)

-- qanat/qanatref07.Str
def an62 : Ann := (.seq (.reg (opn 1 .done)) (.seq (.seq (.reg (opn 1 .done)) (.one (.loop [3] [4, 5, 6, 7, 10, 11, 12, 13, 14, 15, 16, 17, 18, 19, 2, 8, 9, 3] (.seq (.seq (.reg (opn 4 .done)) (.cond .leaf .leaf)) (.seq (.one (.seq (.reg (opn 5 (.join [19] [15, 16, 17, 18, 19] (.split 14 (opn 5 .done) (opn 5 .done)) .done))) (.cond (.seq (.reg (opn 1 .done)) .leaf) .leaf))) (.reg (opn 3 .done))))))) (.seq (.reg (opn 4 .done)) .leaf)))
def vc62 (R : Value → World → Prop) (w : World) (t0 : Value) : Prop :=
 ∃ (I0 : List Value → World → Prop) (M0 : List Value → World → Nat), I0 [(.int .i64 0)] w ∧ ∀ g : Env, ∀ t3, ∀ w, I0 [t3] w → ∀ m0, m0 = M0 [t3] w →
 V (Builtin.len_ #[9] 3 #[t0]) w fun t6 w =>
 V (bi .lss 3 t3 t6) w fun t7 w =>
 CondW t7
 (V (ix 9 t0 t3) w fun t12 w =>
 V (bi .lss 5 t12 (.int .u8 32)) w fun t13 w =>
 ∀ K0 : List Value → World → Prop, (∀ t19, ∀ w, (∀ g : Env,
 CondW t19
 (R (.bool false) w)
 (V (bi .add 3 t3 (.int .i64 1)) w fun t9 w =>
 I0 [t9] w ∧ M0 [t9] w < m0)) → K0 [t19] w) →
 CondW t13
 (K0 [(.bool true)] w)
 (V (ix 9 t0 t3) w fun t17 w =>
 V (bi .gtr 5 t17 (.int .u8 126)) w fun t18 w =>
 K0 [t18] w))
 (V (Builtin.len_ #[9] 3 #[t0]) w fun t21 w =>
 V (bi .leq 3 t21 (.int .i64 1000)) w fun t22 w =>
 R t22 w)
theorem eq62 (R : Value → World → Prop) (w : World) (t0 : Value) : enterW Try.prog Try.f62 an62 [t0] w R = vc62 R w t0 := by kernel_rfl
theorem en62 {R : Value → World → Prop} {w : World} {t0 : Value} (h : vc62 R w t0) : Calls Try.prog 62 #[t0] w (retK R) :=
  calls_of_enter mixed Try.func62 (by kernel_rfl) (by rw [eq62]; exact h)

-- qanat/qanatref10.signalled
def an63 : Ann := (.seq (.reg (opn 2 .done)) (.seq (.reg (opn 5 .done)) (.seq (.reg (opn 11 .done)) (.seq (.reg (opn 10 .done)) (.seq (.reg (opn 6 .done)) (.seq (.reg (opn 9 .done)) (.seq (.reg (opn 7 .done)) .leaf)))))))
def vc63 (R : Value → World → Prop) (w : World) (t0 t1 t2 : Value) : Prop :=
 V (bx 28 t0) w fun t3 w =>
 V (al 53) w fun t6 w =>
 V (fa 28 t3 0) w fun t9 w =>
 V (ld 26 t9) w fun t10 w =>
 V (Builtin.len_ #[26] 3 #[t10]) w fun t11 w =>
 V (bi .sub 3 t11 (.int .i64 1)) w fun t12 w =>
 V (fa 28 t3 0) w fun t13 w =>
 V (ld 26 t13) w fun t14 w =>
 V (ia 26 t14 t12) w fun t16 w =>
 V (fa 63 t16 0) w fun t17 w =>
 V (ld 58 t17) w fun t18 w =>
 V (ia 58 t18 t1) w fun t20 w =>
 V (fa 73 t20 1) w fun t21 w =>
 V (ld 9 t21) w fun t22 w =>
 V (fa 28 t3 0) w fun t23 w =>
 V (ld 26 t23) w fun t24 w =>
 V (ia 26 t24 t12) w fun t26 w =>
 V (fa 63 t26 0) w fun t27 w =>
 V (ld 58 t27) w fun t28 w =>
 V (bd 73 #[]) w fun t30 w =>
 V (ia 58 t28 t1) w fun t31 w =>
 U (st 73 t31 t30) w fun w =>
 V (fa 28 t3 0) w fun t32 w =>
 V (ld 26 t32) w fun t33 w =>
 V (ia 26 t33 t12) w fun t35 w =>
 V (fa 63 t35 1) w fun t36 w =>
 U (st 59 t36 (.slice none 0 0)) w fun w =>
 V (fa 28 t3 0) w fun t37 w =>
 V (ld 26 t37) w fun t38 w =>
 V (bd 61 #[(0, t1), (1, (.int .i64 1)), (2, t2)]) w fun t42 w =>
 V (ia 26 t38 t12) w fun t43 w =>
 V (fa 63 t43 2) w fun t44 w =>
 U (st 61 t44 t42) w fun w =>
 V (ld 28 t3) w fun t45 w =>
 V (bd 39 #[(0, (.int .i64 1)), (1, t22), (2, t1), (3, t2)]) w fun t49 w =>
 V (bd 53 #[(0, t45), (1, t49)]) w fun t50 w =>
 U (st 53 t6 t50) w fun w =>
 CW 53 t6 w fun t1006 => R t1006 w
theorem eq63 (R : Value → World → Prop) (w : World) (t0 t1 t2 : Value) : enterW Try.prog Try.f63 an63 [t0, t1, t2] w R = vc63 R w t0 t1 t2 := by kernel_rfl
theorem en63 {R : Value → World → Prop} {w : World} {t0 t1 t2 : Value} (h : vc63 R w t0 t1 t2) : Calls Try.prog 63 #[t0, t1, t2] w (retK R) :=
  calls_of_enter mixed Try.func63 (by kernel_rfl) (by rw [eq63]; exact h)

-- qanat/qanatref10.pending
def an64 : Ann := (.seq (.reg (opn 1 .done)) (.seq (.seq (.reg (opn 1 .done)) (.one (.loop [5] [6, 7, 8, 9, 12, 13, 14, 15, 16, 17, 18, 19, 4, 10, 11, 5] (.seq (.seq (.reg (opn 4 .done)) (.cond .leaf .leaf)) (.seq (.one (.seq (.reg (opn 7 .done)) (.cond (.seq (.reg (opn 2 .done)) .leaf) .leaf))) (.reg (opn 3 .done))))))) (.seq (.reg (opn 1 .done)) .leaf)))
def vc64 (R : Value → World → Prop) (w : World) (t0 t1 : Value) : Prop :=
 ∃ (I0 : List Value → World → Prop) (M0 : List Value → World → Nat), I0 [(.int .i64 0)] w ∧ ∀ g : Env, ∀ t5, ∀ w, I0 [t5] w → ∀ m0, m0 = M0 [t5] w →
 V (Builtin.len_ #[59] 3 #[t0]) w fun t8 w =>
 V (bi .lss 3 t5 t8) w fun t9 w =>
 CondW t9
 (V (ia 59 t0 t5) w fun t14 w =>
 V (fa 70 t14 0) w fun t15 w =>
 V (ld 3 t15) w fun t16 w =>
 V (eq .eql 3 (.tmp 16) (.tmp 17) t16 t1) w fun t18 w =>
 CondW t18
 (R t5 w)
 (V (bi .add 3 t5 (.int .i64 1)) w fun t11 w =>
 I0 [t11] w ∧ M0 [t11] w < m0))
 (R (.int .i64 (-1)) w)
theorem eq64 (R : Value → World → Prop) (w : World) (t0 t1 : Value) : enterW Try.prog Try.f64 an64 [t0, t1] w R = vc64 R w t0 t1 := by kernel_rfl
theorem en64 {R : Value → World → Prop} {w : World} {t0 t1 : Value} (h : vc64 R w t0 t1) : Calls Try.prog 64 #[t0, t1] w (retK R) :=
  calls_of_enter mixed Try.func64 (by kernel_rfl) (by rw [eq64]; exact h)

-- qanat/qanatref10.pushed
def an65 : Ann := (.seq (.reg (opn 2 .done)) (.seq (.reg (opn 10 .done)) (.seq (.draw (.take 0 (.hold 1 (.take 3 (.hold 4 (.take 6 (.hold 7 (.alts (.eff 2 (.alts (.eff 5 (.take 8 (.alts (.eff 9 (.alts (.eff 10 (.take 11 (.alts (.eff 12 .done .nil))) .nil)) .nil))) .nil)) .nil))))))))) (.seq (.reg (opn 2 .done)) .leaf))))
def vc65 (R : Value → World → Prop) (w : World) (t0 : Value) : Prop :=
 V (bx 28 t0) w fun t1 w =>
 V (al 28) w fun t2 w =>
 V (fa 28 t1 0) w fun t4 w =>
 V (ld 26 t4) w fun t5 w =>
 V (fa 28 t1 0) w fun t6 w =>
 V (ld 26 t6) w fun t7 w =>
 V (Builtin.len_ #[26] 3 #[t7]) w fun t8 w =>
 V (bi .sub 3 t8 (.int .i64 1)) w fun t9 w =>
 V (ia 26 t5 t9) w fun t10 w =>
 V (ld 63 t10) w fun t11 w =>
 V (al 63) w fun t3 w =>
 U (st 63 t3 t11) w fun w =>
 Dr w fun w =>
 PV (fa 28 t1 0) fun t12 =>
 HV (ld 26 t12) w fun t13 =>
 PV (fa 63 t3 0) fun t15 =>
 HV (ld 58 t15) w fun t16 =>
 PV (fa 63 t3 2) fun t18 =>
 HV (ld 61 t18) w fun t19 =>
 V (bs 58 0 #[]) w fun t14 w =>
 RunIs (ld 61 t18) w t19 ∧ RunIs (ld 58 t15) w t16 ∧ RunIs (ld 26 t12) w t13 ∧ (V (Builtin.append_ #[58, 58] 58 #[t14, t16]) w fun t17 w =>
 RunIs (ld 61 t18) w t19 ∧ RunIs (ld 26 t12) w t13 ∧ (PV (bd 63 #[(0, t17), (2, t19)]) fun t20 =>
 V (bs 26 1 #[(0, t20)]) w fun t21 w =>
 RunIs (ld 61 t18) w t19 ∧ RunIs (ld 26 t12) w t13 ∧ (V (Builtin.append_ #[26, 26] 26 #[t13, t21]) w fun t22 w =>
 RunIs (ld 61 t18) w t19 ∧ (PV (fa 28 t1 0) fun t23 =>
 U (st 26 t23 t22) w fun w =>
 V (ld 28 t1) w fun t24 w =>
 U (st 28 t2 t24) w fun w =>
 CW 28 t2 w fun t1002 => R t1002 w))))
theorem eq65 (R : Value → World → Prop) (w : World) (t0 : Value) : enterW Try.prog Try.f65 an65 [t0] w R = vc65 R w t0 := by kernel_rfl
theorem en65 {R : Value → World → Prop} {w : World} {t0 : Value} (h : vc65 R w t0) : Calls Try.prog 65 #[t0] w (retK R) :=
  calls_of_enter mixed Try.func65 (by kernel_rfl) (by rw [eq65]; exact h)

-- qanat/trap.open
def an66 : Ann := (.seq (.reg (opn 3 .done)) (.seq (.reg (opn 9 .done)) (.seq (.seq (.reg (opn 2 .done)) (.cond (.seq (.reg (opn 3 .done)) .leaf) .leaf)) (.seq (.reg (opn 8 .done)) .leaf))))
def vc66 (R : Value → World → Prop) (w : World) (t0 t1 : Value) : Prop :=
 V (bx 28 t0) w fun t2 w =>
 V (ld 28 t2) w fun t7 w =>
 CV (.func (.func 17) #[] #[]) #[t7] w fun t8 w =>
 CV (.func (.func 96) #[] #[]) #[t1, (.func (.func 97) #[] #[])] w fun t10 w =>
 V (un .not t10) w fun t11 w =>
 CV (.func (.func 55) #[] #[]) #[t11, (.int .i64 1)] w fun t12 w =>
 V (bs 30 2 #[(0, t8), (1, t12)]) w fun t13 w =>
 CV (.func (.func 95) #[] #[]) #[t13] w fun t14 w =>
 V (eq .neq 31 (.tmp 15) (.const (.int .i64 0)) t14 (.int .i64 0)) w fun t16 w =>
 CondW t16
 (R (.tuple #[(.pointer none), t14]) w)
 (V (fa 28 t2 0) w fun t18 w =>
 V (ld 26 t18) w fun t19 w =>
 CV (.func (.func 98) #[] #[]) #[t19, (.func (.func 99) #[] #[])] w fun t20 w =>
 V (bd 28 #[(0, t20)]) w fun t21 w =>
 V (bd 134 #[(0, t21)]) w fun t22 w =>
 V (bx 134 t22) w fun t23 w =>
 R (.tuple #[t23, (.int .i64 0)]) w)
theorem eq66 (R : Value → World → Prop) (w : World) (t0 t1 : Value) : enterW Try.prog Try.f66 an66 [t0, t1] w R = vc66 R w t0 t1 := by kernel_rfl
theorem en66 {R : Value → World → Prop} {w : World} {t0 t1 : Value} (h : vc66 R w t0 t1) : Calls Try.prog 66 #[t0, t1] w (retK R) :=
  calls_of_enter mixed Try.func66 (by kernel_rfl) (by rw [eq66]; exact h)

-- (*qanat/trap.machine).now
def an67 : Ann := (.seq (.reg (opn 1 .done)) (.seq (.draw (.take 0 (.take 1 (.take 2 (.take 3 (.hold 4 (.take 5 (.take 6 (.take 7 (.take 8 (.hold 9 (.take 10 (.take 11 (.take 12 (.take 13 .done))))))))))))))) .leaf))
def vc67 (R : Value → World → Prop) (w : World) (t0 : Value) : Prop :=
 Dr w fun w =>
 NilW t0 fun t4 => PV (fa 134 t4 0) fun t5 =>
 PV (fa 28 t5 0) fun t6 =>
 HV (ld 26 t6) w fun t7 =>
 NilW t0 fun t9 => PV (fa 134 t9 0) fun t10 =>
 PV (fa 28 t10 0) fun t11 =>
 HV (ld 26 t11) w fun t12 =>
 PV (Builtin.len_ #[26] 3 #[t12]) fun t13 =>
 PV (bi .sub 3 t13 (.int .i64 1)) fun t14 =>
 PV (ia 26 t7 t14) fun t15 =>
 R t15 w
theorem eq67 (R : Value → World → Prop) (w : World) (t0 : Value) : enterW Try.prog Try.f67 an67 [t0] w R = vc67 R w t0 := by kernel_rfl
theorem en67 {R : Value → World → Prop} {w : World} {t0 : Value} (h : vc67 R w t0) : Calls Try.prog 67 #[t0] w (retK R) :=
  calls_of_enter mixed Try.func67 (by kernel_rfl) (by rw [eq67]; exact h)

-- (*qanat/trap.machine).raise
def an68 : Ann := (.seq (.reg (opn 3 .done)) (.seq (.seq (.reg (opn 3 .done)) (.cond (.seq (.reg (opn 3 .done)) .leaf) .leaf)) (.seq (.reg (opn 4 .done)) (.seq (.reg (opn 2 .done)) (.seqJ [] [19, 20, 21, 22, 23, 24, 25, 26] (.seq (.reg (opn 3 (.join [26] [22, 23, 24, 25, 26] (.split 21 (opn 5 .done) (opn 5 .done)) .done))) (.cond (.reg (opn 1 .done)) .leaf)) (.seqJ [] [40, 41, 42, 43, 44, 45, 46, 47, 48, 49, 50, 51, 39, 52, 53, 54, 9, 56, 57, 58, 59, 55, 61, 62, 60, 63, 64, 65, 66, 68, 69, 70, 71, 72, 73, 74, 75, 76, 77, 78, 79, 80, 81, 82, 83, 67, 27, 28, 29, 30, 31, 32, 33, 34, 35, 36, 37, 38] (.one (.seq (.reg (opn 5 (.join [51] [45, 46, 47, 48, 49, 50, 51] (.split 44 (opn 3 (.join [50] [48, 49, 50] (.split 47 (opn 3 .done) (opn 3 .done)) (opn 1 .done))) (opn 7 .done)) (opn 1 .done)))) (.cond (.seq (.reg (opn 5 .done)) .leaf) (.seq (.reg (opn 5 .done)) (.cond .leaf (.seq (.reg (opn 3 .done)) (.cond (.seq (.reg (opn 6 .done)) .leaf) (.seqJ [67] [68, 69, 70, 71, 72, 73, 74, 75, 76, 77, 78, 79, 80, 81, 82, 83, 67] (.draw (.hold 0 (.take 1 (.take 2 (.hold 3 (.hold 4 (.take 5 (.take 6 (.hold 7 (.take 8 (.split 76 (.take 9 (.take 10 (.take 11 (.take 12 (.take 13 (.take 14 (.take 15 (.take 16 .done)))))))) (.hold 9 (.take 10 (.take 11 (.hold 12 (.take 13 (.alts (.eff 14 (.take 15 (.take 16 .done)) .nil)))))))))))))))))) (.cond .leaf (.draw (.hold 0 (.hold 1 (.take 2 (.take 3 (.hold 4 (.hold 5 (.take 6 (.take 7 (.alts (.eff 8 (.alts (.eff 9 (.take 10 (.take 11 (.alts (.eff 12 .done .nil)))) .nil)) .nil)))))))))))))))))))) (.seq (.reg (opn 3 .done)) .leaf)))))))
def vc68 (R : Value → World → Prop) (w : World) (t0 t1 t2 t3 : Value) : Prop :=
 V (bx 3 t1) w fun t5 w =>
 V (al 39) w fun t8 w =>
 CV (.func (.func 92) #[] #[]) #[t3] w fun t13 w =>
 V (un .not t13) w fun t14 w =>
 CondW t14
 (V (bd 39 #[]) w fun t15 w =>
 U (st 39 t8 t15) w fun w =>
 CW 39 t8 w fun t1008 => R (.tuple #[t1008, (.int .i64 1)]) w)
 (CV (.func (.func 67) #[] #[]) #[t0] w fun t17 w =>
 V (al 116) w fun t10 w =>
 U (st 116 t10 t17) w fun w =>
 ∀ K0 : List Value → World → Prop, (∀ w, (∀ g : Env,
 ∀ K0 : List Value → World → Prop, (∀ w, (∀ g : Env,
 V (bd 39 #[]) w fun t84 w =>
 U (st 39 t8 t84) w fun w =>
 CW 39 t8 w fun t1008 => R (.tuple #[t1008, (.int .i64 0)]) w) → K0 [] w) →
 V (ld 3 t5) w fun t41 w =>
 CV (.func (.func 100) #[] #[t10]) #[t41] w fun t42 w =>
 V (un .not t42) w fun t43 w =>
 ∀ K1 : List Value → World → Prop, (∀ t51, ∀ w, (∀ g : Env,
 CondW t51
 (V (ld 3 t5) w fun t52 w =>
 V (bd 39 #[(0, (.int .i64 3)), (2, t52), (3, t3)]) w fun t54 w =>
 U (st 39 t8 t54) w fun w =>
 CW 39 t8 w fun t1008 => R (.tuple #[t1008, (.int .i64 0)]) w)
 (V (ld 3 t5) w fun t57 w =>
 CV (.func (.func 100) #[] #[t10]) #[t57] w fun t58 w =>
 V (un .not t58) w fun t59 w =>
 CondW t59
 (K0 [] w)
 (V (ld 3 t5) w fun t61 w =>
 CV (.func (.func 91) #[] #[]) #[t61] w fun t62 w =>
 CondW t62
 (V (ld 3 t5) w fun t64 w =>
 CV (.func (.func 101) #[] #[]) #[t0, t64, t3] w fun t66 w =>
 U (st 39 t8 t66) w fun w =>
 CW 39 t8 w fun t1008 => R (.tuple #[t1008, (.int .i64 0)]) w)
 (∀ K1 : List Value → World → Prop, (∀ t67, ∀ w, (∀ g : Env,
 CondW t67
 (K0 [] w)
 (Dr w fun w =>
 HV (ld 116 t10) w fun t27 =>
 HV (ld 116 t10) w fun t28 =>
 NilW t28 fun t29 => PV (fa 63 t29 1) fun t30 =>
 HV (ld 59 t30) w fun t31 =>
 HV (ld 3 t5) w fun t32 =>
 PV (bd 70 #[(0, t32), (1, t3)]) fun t34 =>
 V (bs 59 1 #[(0, t34)]) w fun t35 w =>
 RunIs (ld 3 t5) w t32 ∧ RunIs (ld 59 t30) w t31 ∧ RunIs (ld 116 t10) w t28 ∧ RunIs (ld 116 t10) w t27 ∧ (V (Builtin.append_ #[59, 59] 59 #[t31, t35]) w fun t36 w =>
 RunIs (ld 3 t5) w t32 ∧ RunIs (ld 116 t10) w t28 ∧ RunIs (ld 116 t10) w t27 ∧ (NilW t27 fun t37 => PV (fa 63 t37 1) fun t38 =>
 U (st 59 t38 t36) w fun w =>
 K0 [] w)))) → K1 [t67] w) →
 Dr w fun w =>
 HV (ld 116 t10) w fun t68 =>
 NilW t68 fun t69 => PV (fa 63 t69 0) fun t70 =>
 HV (ld 58 t70) w fun t71 =>
 HV (ld 3 t5) w fun t72 =>
 PV (ia 58 t71 t72) fun t73 =>
 PV (fa 73 t73 2) fun t74 =>
 HV (ld 4 t74) w fun t75 =>
 CondW t75
 (K1 [(.bool true)] w)
 (HV (ld 116 t10) w fun t77 =>
 NilW t77 fun t78 => PV (fa 63 t78 1) fun t79 =>
 HV (ld 59 t79) w fun t80 =>
 CV (.func (.func 102) #[] #[]) #[t80, (.func (.func 103) #[] #[t5])] w fun t82 w =>
 RunIs (ld 116 t10) w t77 ∧ RunIs (ld 4 t74) w t75 ∧ RunIs (ld 3 t5) w t72 ∧ RunIs (ld 58 t70) w t71 ∧ RunIs (ld 116 t10) w t68 ∧ (K1 [t82] w)))))) → K1 [t51] w) →
 CondW t43
 (V (ld 3 t5) w fun t45 w =>
 V (eq .eql 3 (.tmp 45) (.const (.int .i64 5)) t45 (.int .i64 5)) w fun t46 w =>
 ∀ K2 : List Value → World → Prop, (∀ t50, ∀ w, (∀ g : Env,
 K1 [t50] w) → K2 [t50] w) →
 CondW t46
 (K2 [(.bool true)] w)
 (V (ld 3 t5) w fun t48 w =>
 V (eq .eql 3 (.tmp 48) (.const (.int .i64 2)) t48 (.int .i64 2)) w fun t49 w =>
 K2 [t49] w))
 (K1 [(.bool false)] w)) → K0 [] w) →
 V (ld 3 t5) w fun t19 w =>
 V (eq .eql 3 (.tmp 19) (.const (.int .i64 1)) t19 (.int .i64 1)) w fun t20 w =>
 ∀ K1 : List Value → World → Prop, (∀ t26, ∀ w, (∀ g : Env,
 CondW t26
 (U (st 3 t5 (.int .i64 0)) w fun w =>
 K0 [] w)
 (K0 [] w)) → K1 [t26] w) →
 CondW t20
 (V (ld 3 t5) w fun t23 w =>
 CV (.func (.func 100) #[] #[t10]) #[t23] w fun t24 w =>
 V (un .not t24) w fun t25 w =>
 K1 [t25] w)
 (K1 [(.bool false)] w))
theorem eq68 (R : Value → World → Prop) (w : World) (t0 t1 t2 t3 : Value) : enterW Try.prog Try.f68 an68 [t0, t1, t2, t3] w R = vc68 R w t0 t1 t2 t3 := by kernel_rfl
theorem en68 {R : Value → World → Prop} {w : World} {t0 t1 t2 t3 : Value} (h : vc68 R w t0 t1 t2 t3) : Calls Try.prog 68 #[t0, t1, t2, t3] w (retK R) :=
  calls_of_enter mixed Try.func68 (by kernel_rfl) (by rw [eq68]; exact h)

-- (*qanat/trap.machine).end
def an69 : Ann := (.seq (.reg (opn 3 .done)) (.one (.seq (.reg (opn 3 .done)) (.seq .leaf (.seqJ [91] [15, 16, 91] (.seq (.reg (opn 2 .done)) (.one (.rf [0] (.reg (opn 2 .done)) (.one (.seqJ [12] [18, 19, 20, 21, 22, 23, 24, 25, 26, 12] (.draw (.hold 0 (.take 5 (.hold 6 (.alts (.eff 1 (.take 2 (.take 3 (.hold 4 (.take 7 (.hold 8 (.alts (.eff 9 (.alts (.eff 10 .done .nil)) .nil))))))) (.eff 9 (.alts (.eff 1 (.take 2 (.take 3 (.hold 4 (.take 7 (.hold 8 (.alts (.eff 10 .done .nil))))))) .nil)) .nil))))))) (.seq (.one (.seq (.reg (opn 4 (.join [34] [32, 33, 34] (.split 31 (opn 3 .done) (opn 3 .done)) (opn 1 .done)))) (.cond .leaf (.seq (.reg (opn 4 .done)) (.cond (.seq (.reg (opn 7 .done)) .leaf) .leaf))))) (.seq (.seq (.reg (opn 7 .done)) (.cond (.seq (.reg (opn 3 .done)) .leaf) .leaf)) (.seqJ [13] [53, 54, 55, 56, 57, 58, 59, 60, 61, 62, 63, 64, 13] (.draw (.hold 0 (.take 6 (.hold 7 (.take 8 (.hold 9 (.take 10 (.alts (.eff 1 (.take 2 (.take 3 (.hold 4 (.alts (.eff 5 (.take 11 (.alts (.eff 12 (.alts (.eff 13 .done .nil)) .nil))) (.eff 12 (.alts (.eff 5 (.take 11 (.alts (.eff 13 .done .nil))) .nil)) .nil)))))) (.eff 12 (.alts (.eff 1 (.take 2 (.take 3 (.hold 4 (.alts (.eff 5 (.take 11 (.alts (.eff 13 .done .nil))) .nil))))) .nil)) .nil)))))))))) (.seq (.reg (opn 7 .done)) (.seq (.draw (.hold 0 (.hold 1 (.take 2 (.take 3 (.take 4 (.hold 5 (.hold 6 (.alts (.eff 7 (.alts (.eff 8 (.take 9 (.take 10 (.take 11 (.alts (.eff 12 .done .nil))))) .nil)) .nil)))))))))) (.seq (.reg (opn 8 .done)) .leaf))))))))))) (.seq (.reg (opn 3 .done)) .leaf))))))
def vc69 (R : Value → World → Prop) (w : World) (t0 t1 t2 t3 : Value) : Prop :=
 V (bx 113 t0) w fun t4 w =>
 V (al 39) w fun t8 w =>
 V (al 31) w fun t9 w =>
 V (bd 39 #[]) w fun t14 w =>
 V (al 39) w fun t10 w =>
 U (st 39 t10 t14) w fun w =>
 ∀ K0 : List Value → World → Prop, (∀ t91, ∀ w, (∀ g : Env,
 V (ld 39 t10) w fun t90 w =>
 U (st 39 t8 t90) w fun w =>
 U (st 31 t9 (.int .i64 0)) w fun w =>
 TakeW (marks t91) w fun w =>
 CW 39 t8 w fun t1008 => CW 31 t9 w fun t1009 => R (.tuple #[t1008, t1009]) w) → K0 [t91] w) →
 V (ld 113 t4) w fun t15 w =>
 CV (.func (.func 104) #[] #[]) #[t15] w fun t16 w =>
 ∀ (lp0 : Loop) (r0 l0 : Nat) (w1 : World), NewRF w w1 r0 l0 lp0 →
 (∀ (w : World) (Kl0 : Value → World → Prop), ∀ t17, (V (al 70) w fun t11 w =>
 U (st 70 t11 t17) w fun w =>
 BeginW l0 lp0 w fun w =>
 ∀ K1 : List Value → World → Prop, (∀ t12, ∀ w, (∀ g : Env,
 V (fa 73 t12 0) w fun t28 w =>
 V (ld 3 t28) w fun t29 w =>
 V (eq .eql 3 (.tmp 29) (.const (.int .i64 0)) t29 (.int .i64 0)) w fun t30 w =>
 ∀ K1 : List Value → World → Prop, (∀ t34, ∀ w, (∀ g : Env,
 CondW t34
 (EndW l0 lp0 none w Kl0)
 (V (fa 73 t12 0) w fun t36 w =>
 V (ld 3 t36) w fun t37 w =>
 V (eq .eql 3 (.tmp 37) (.const (.int .i64 1)) t37 (.int .i64 1)) w fun t38 w =>
 CondW t38
 (V (ld 113 t4) w fun t39 w =>
 V (fa 70 t11 0) w fun t40 w =>
 V (ld 3 t40) w fun t41 w =>
 V (fa 70 t11 1) w fun t42 w =>
 V (ld 9 t42) w fun t43 w =>
 CV (.func (.func 101) #[] #[]) #[t39, t41, t43] w fun t44 w =>
 U (st 39 t10 t44) w fun w =>
 EndW l0 lp0 (some (.exit 0)) w Kl0)
 (V (ld 113 t4) w fun t45 w =>
 NilW t45 fun t46 => V (fa 134 t46 0) w fun t47 w =>
 V (fa 28 t47 0) w fun t48 w =>
 V (ld 26 t48) w fun t49 w =>
 V (Builtin.len_ #[26] 3 #[t49]) w fun t50 w =>
 V (eq .eql 3 (.tmp 50) (.const (.int .i64 30)) t50 (.int .i64 30)) w fun t51 w =>
 CondW t51
 (V (bd 39 #[]) w fun t52 w =>
 U (st 39 t8 t52) w fun w =>
 U (st 31 t9 (.int .i64 14)) w fun w =>
 EndW l0 lp0 (some .ret) w Kl0)
 (∀ K1 : List Value → World → Prop, (∀ t13, ∀ w, (∀ g : Env,
 V (fa 63 t13 0) w fun t65 w =>
 V (ld 58 t65) w fun t66 w =>
 V (fa 70 t11 0) w fun t67 w =>
 V (ld 3 t67) w fun t68 w =>
 V (ia 58 t66 t68) w fun t69 w =>
 V (fa 73 t69 2) w fun t70 w =>
 U (st 4 t70 (.bool true)) w fun w =>
 Dr w fun w =>
 HV (ld 113 t4) w fun t71 =>
 HV (ld 113 t4) w fun t72 =>
 NilW t72 fun t73 => PV (fa 134 t73 0) fun t74 =>
 PV (fa 28 t74 0) fun t75 =>
 HV (ld 26 t75) w fun t76 =>
 HV (ld 63 t13) w fun t77 =>
 V (bs 26 1 #[(0, t77)]) w fun t78 w =>
 RunIs (ld 26 t75) w t76 ∧ RunIs (ld 113 t4) w t72 ∧ RunIs (ld 113 t4) w t71 ∧ (V (Builtin.append_ #[26, 26] 26 #[t76, t78]) w fun t79 w =>
 RunIs (ld 113 t4) w t72 ∧ RunIs (ld 113 t4) w t71 ∧ (NilW t71 fun t80 => PV (fa 134 t80 0) fun t81 =>
 PV (fa 28 t81 0) fun t82 =>
 U (st 26 t82 t79) w fun w =>
 V (fa 73 t12 1) w fun t83 w =>
 V (ld 9 t83) w fun t84 w =>
 V (fa 70 t11 0) w fun t85 w =>
 V (ld 3 t85) w fun t86 w =>
 V (fa 70 t11 1) w fun t87 w =>
 V (ld 9 t87) w fun t88 w =>
 V (bd 39 #[(0, (.int .i64 2)), (1, t84), (2, t86), (3, t88)]) w fun t89 w =>
 U (st 39 t10 t89) w fun w =>
 EndW l0 lp0 (some (.exit 0)) w Kl0))) → K1 [t13] w) →
 Dr w fun w =>
 HV (ld 113 t4) w fun t53 =>
 PV (fa 70 t11 0) fun t59 =>
 HV (ld 3 t59) w fun t60 =>
 PV (fa 70 t11 1) fun t61 =>
 HV (ld 9 t61) w fun t62 =>
 PV (bd 61 #[(0, t60), (1, (.int .i64 2)), (2, t62)]) fun t63 =>
 (CV (.func (.func 67) #[] #[]) #[t53] w fun t54 w =>
 RunIs (ld 9 t61) w t62 ∧ RunIs (ld 3 t59) w t60 ∧ (NilW t54 fun t55 => PV (fa 63 t55 0) fun t56 =>
 HV (ld 58 t56) w fun t57 =>
 (CV (.func (.func 31) #[] #[]) #[t57] w fun t58 w =>
 RunIs (ld 9 t61) w t62 ∧ RunIs (ld 3 t59) w t60 ∧ (PV (bd 63 #[(0, t58), (2, t63)]) fun t64 =>
 V (al 63) w fun t13 w =>
 RunIs (ld 9 t61) w t62 ∧ RunIs (ld 3 t59) w t60 ∧ (U (st 63 t13 t64) w fun w =>
 K1 [t13] w))) ∧
 (V (al 63) w fun t13 w =>
 RunIs (ld 58 t56) w t57 ∧ RunIs (ld 9 t61) w t62 ∧ RunIs (ld 3 t59) w t60 ∧ (CV (.func (.func 31) #[] #[]) #[t57] w fun t58 w =>
 RunIs (ld 9 t61) w t62 ∧ RunIs (ld 3 t59) w t60 ∧ (PV (bd 63 #[(0, t58), (2, t63)]) fun t64 =>
 U (st 63 t13 t64) w fun w =>
 K1 [t13] w))))) ∧
 (V (al 63) w fun t13 w =>
 RunIs (ld 9 t61) w t62 ∧ RunIs (ld 3 t59) w t60 ∧ RunIs (ld 113 t4) w t53 ∧ (CV (.func (.func 67) #[] #[]) #[t53] w fun t54 w =>
 RunIs (ld 9 t61) w t62 ∧ RunIs (ld 3 t59) w t60 ∧ (NilW t54 fun t55 => PV (fa 63 t55 0) fun t56 =>
 HV (ld 58 t56) w fun t57 =>
 CV (.func (.func 31) #[] #[]) #[t57] w fun t58 w =>
 RunIs (ld 9 t61) w t62 ∧ RunIs (ld 3 t59) w t60 ∧ (PV (bd 63 #[(0, t58), (2, t63)]) fun t64 =>
 U (st 63 t13 t64) w fun w =>
 K1 [t13] w)))))))) → K1 [t34] w) →
 CondW t30
 (K1 [(.bool true)] w)
 (V (fa 73 t12 2) w fun t32 w =>
 V (ld 4 t32) w fun t33 w =>
 K1 [t33] w)) → K1 [t12] w) →
 Dr w fun w =>
 HV (ld 113 t4) w fun t18 =>
 PV (fa 70 t11 0) fun t23 =>
 HV (ld 3 t23) w fun t24 =>
 (CV (.func (.func 67) #[] #[]) #[t18] w fun t19 w =>
 RunIs (ld 3 t23) w t24 ∧ (NilW t19 fun t20 => PV (fa 63 t20 0) fun t21 =>
 HV (ld 58 t21) w fun t22 =>
 PV (ia 58 t22 t24) fun t25 =>
 HV (ld 73 t25) w fun t26 =>
 V (al 73) w fun t12 w =>
 RunIs (ld 73 t25) w t26 ∧ RunIs (ld 58 t21) w t22 ∧ RunIs (ld 3 t23) w t24 ∧ (U (st 73 t12 t26) w fun w =>
 K1 [t12] w))) ∧
 (V (al 73) w fun t12 w =>
 RunIs (ld 3 t23) w t24 ∧ RunIs (ld 113 t4) w t18 ∧ (CV (.func (.func 67) #[] #[]) #[t18] w fun t19 w =>
 RunIs (ld 3 t23) w t24 ∧ (NilW t19 fun t20 => PV (fa 63 t20 0) fun t21 =>
 HV (ld 58 t21) w fun t22 =>
 PV (ia 58 t22 t24) fun t25 =>
 HV (ld 73 t25) w fun t26 =>
 U (st 73 t12 t26) w fun w =>
 K1 [t12] w)))) → w.heap[l0]? = some (lobj lp0 .ready none) → CV (.func (.yield l0) #[] #[]) #[t17] w Kl0) →
 CE t16 #[.func (.yield l0) #[] #[]] w1 fun _ w => RfEnd l0 lp0 w (fun w =>
 K0 [(.iface r0 undef)] w) (fun w =>
 Take1 r0 w fun w =>
 CW 39 t8 w fun t1008 => CW 31 t9 w fun t1009 => R (.tuple #[t1008, t1009]) w) [(0, fun w =>
 K0 [(.iface r0 undef)] w)]
theorem eq69 (R : Value → World → Prop) (w : World) (t0 t1 t2 t3 : Value) : enterW Try.prog Try.f69 an69 [t0, t1, t2, t3] w R = vc69 R w t0 t1 t2 t3 := by kernel_rfl
theorem en69 {R : Value → World → Prop} {w : World} {t0 t1 t2 t3 : Value} (h : vc69 R w t0 t1 t2 t3) : Calls Try.prog 69 #[t0, t1, t2, t3] w (retK R) :=
  calls_of_enter mixed Try.func69 (by kernel_rfl) (by rw [eq69]; exact h)

-- slices.Index[[]int,int]
def an70 : Ann := (.seq (.reg (opn 1 .done)) (.seq (.seq (.reg (opn 3 .done)) (.one (.loop [8] [9, 10, 5, 11, 12, 13, 14, 15, 16, 17, 4, 18, 8] (.seq (.reg (opn 1 .done)) (.seq (.cond .leaf .leaf) (.seq (.one (.seq (.reg (opn 2 .done)) (.seq (.reg (opn 6 .done)) (.cond (.seq (.reg (opn 2 .done)) .leaf) .leaf)))) (.reg (opn 2 .done)))))))) (.seq (.reg (opn 1 .done)) .leaf)))
def vc70 (R : Value → World → Prop) (w : World) (t0 t1 : Value) : Prop :=
 V (Builtin.len_ #[68] 3 #[t0]) w fun t7 w =>
 ∃ (I0 : List Value → World → Prop) (M0 : List Value → World → Nat), I0 [(.int .i64 0)] w ∧ ∀ g : Env, ∀ t8, ∀ w, I0 [t8] w → ∀ m0, m0 = M0 [t8] w →
 V (bi .lss 3 t8 t7) w fun t9 w =>
 CondW t9
 (V (ia 68 t0 t8) w fun t14 w =>
 V (ld 3 t14) w fun t15 w =>
 V (eq .eql 3 (.tmp 11) (.tmp 15) t1 t15) w fun t16 w =>
 CondW t16
 (R t8 w)
 (V (bi .add 3 t8 (.int .i64 1)) w fun t18 w =>
 I0 [t18] w ∧ M0 [t18] w < m0))
 (R (.int .i64 (-1)) w)
theorem eq70 (R : Value → World → Prop) (w : World) (t0 t1 : Value) : enterW Try.prog Try.f70 an70 [t0, t1] w R = vc70 R w t0 t1 := by kernel_rfl
theorem en70 {R : Value → World → Prop} {w : World} {t0 t1 : Value} (h : vc70 R w t0 t1) : Calls Try.prog 70 #[t0, t1] w (retK R) :=
  calls_of_enter mixed Try.func70 (by kernel_rfl) (by rw [eq70]; exact h)

-- qanat/trap.Condition$1
def an71 : Ann := (.seq (.reg (opn 1 .done)) (.seq (.draw (.hold 1 (.take 2 (.take 3 (.take 4 (.hold 5 (.alts (.eff 0 (.take 6 (.take 7 .done)) .nil)))))))) .leaf))
def vc71 (R : Value → World → Prop) (w : World) (t0 : Value) : Prop :=
 Dr w fun w =>
 HV (ld 116 t0) w fun t3 =>
 NilW t3 fun t4 => PV (fa 63 t4 2) fun t5 =>
 PV (fa 61 t5 0) fun t6 =>
 HV (ld 3 t6) w fun t7 =>
 CV (.func (.func 72) #[] #[]) #[] w fun t2 w =>
 RunIs (ld 3 t6) w t7 ∧ RunIs (ld 116 t0) w t3 ∧ (PV (ix 120 t2 t7) fun t8 =>
 R t8 w)
theorem eq71 (R : Value → World → Prop) (w : World) (t0 : Value) : enterW Try.prog Try.f71 an71 [t0] w R = vc71 R w t0 := by kernel_rfl
theorem en71 {R : Value → World → Prop} {w : World} {t0 : Value} (h : vc71 R w t0) : Calls Try.prog 71 #[t0] w (retK R) :=
  calls_of_enter mixed Try.func71 (by kernel_rfl) (by rw [eq71]; exact h)

-- qanat/trap.names
def an72 : Ann := (.seq (.reg (opn 1 .done)) (.seq (.reg (opn 2 .done)) .leaf))
def vc72 (R : Value → World → Prop) (w : World) : Prop :=
 V (al 120) w fun t0 w =>
 V (bd 120 #[(0, (.string ⟨#[69, 82, 82, 79, 82]⟩)), (1, (.string ⟨#[70, 65, 73, 76, 85, 82, 69]⟩)), (2, (.string ⟨#[72, 65, 76, 84]⟩)), (3, (.string ⟨#[78, 79, 86, 65, 76, 85, 69]⟩)), (4, (.string ⟨#[78, 79, 84, 82, 69, 65, 68, 89]⟩)), (5, (.string ⟨#[83, 89, 78, 84, 65, 88]⟩))]) w fun t1 w =>
 U (st 120 t0 t1) w fun w =>
 CW 120 t0 w fun t1000 => R t1000 w
theorem eq72 (R : Value → World → Prop) (w : World) : enterW Try.prog Try.f72 an72 [] w R = vc72 R w  := by kernel_rfl
theorem en72 {R : Value → World → Prop} {w : World} (h : vc72 R w ) : Calls Try.prog 72 #[] w (retK R) :=
  calls_of_enter mixed Try.func72 (by kernel_rfl) (by rw [eq72]; exact h)

-- qanat/trap.Condition$2
def an73 : Ann := (.seq (.reg (opn 1 .done)) (.seq (.reg (opn 6 .done)) .leaf))
def vc73 (R : Value → World → Prop) (w : World) (t0 : Value) : Prop :=
 V (ld 116 t0) w fun t2 w =>
 NilW t2 fun t3 => V (fa 63 t3 2) w fun t4 w =>
 V (fa 61 t4 2) w fun t5 w =>
 V (ld 9 t5) w fun t6 w =>
 R t6 w
theorem eq73 (R : Value → World → Prop) (w : World) (t0 : Value) : enterW Try.prog Try.f73 an73 [t0] w R = vc73 R w t0 := by kernel_rfl
theorem en73 {R : Value → World → Prop} {w : World} {t0 : Value} (h : vc73 R w t0) : Calls Try.prog 73 #[t0] w (retK R) :=
  calls_of_enter mixed Try.func73 (by kernel_rfl) (by rw [eq73]; exact h)

-- qanat/trap.Condition$3
def an74 : Ann := (.seq (.reg (opn 1 .done)) (.seq (.reg (opn 11 .done)) .leaf))
def vc74 (R : Value → World → Prop) (w : World) (t0 : Value) : Prop :=
 V (mm 123 none) w fun t2 w =>
 U (mu 123 t2 (.int .i64 1) (.string ⟨#[83, 73, 71, 78, 65, 76]⟩)) w fun w =>
 U (mu 123 t2 (.int .i64 2) (.string ⟨#[67, 65, 76, 76]⟩)) w fun w =>
 V (ld 116 t0) w fun t4 w =>
 NilW t4 fun t5 => V (fa 63 t5 2) w fun t6 w =>
 V (fa 61 t6 1) w fun t7 w =>
 V (ld 3 t7) w fun t8 w =>
 V (lk 123 t2 t8 false) w fun t9 w =>
 R t9 w
theorem eq74 (R : Value → World → Prop) (w : World) (t0 : Value) : enterW Try.prog Try.f74 an74 [t0] w R = vc74 R w t0 := by kernel_rfl
theorem en74 {R : Value → World → Prop} {w : World} {t0 : Value} (h : vc74 R w t0) : Calls Try.prog 74 #[t0] w (retK R) :=
  calls_of_enter mixed Try.func74 (by kernel_rfl) (by rw [eq74]; exact h)

-- qanat/trap.Condition$4
def an75 : Ann := (.seq (.reg (opn 1 .done)) (.seq (.draw (.hold 0 (.take 1 (.take 2 (.hold 3 (.hold 4 (.take 5 (.take 6 (.take 7 (.hold 8 (.take 9 (.hold 10 (.alts (.eff 11 (.take 12 .done) .nil)))))))))))))) .leaf))
def vc75 (R : Value → World → Prop) (w : World) (t0 : Value) : Prop :=
 Dr w fun w =>
 HV (ld 116 t0) w fun t2 =>
 NilW t2 fun t3 => PV (fa 63 t3 0) fun t4 =>
 HV (ld 58 t4) w fun t5 =>
 HV (ld 116 t0) w fun t6 =>
 NilW t6 fun t7 => PV (fa 63 t7 2) fun t8 =>
 PV (fa 61 t8 0) fun t9 =>
 HV (ld 3 t9) w fun t10 =>
 PV (ia 58 t5 t10) fun t11 =>
 HV (ld 73 t11) w fun t12 =>
 CV (.func (.func 76) #[] #[]) #[t12] w fun t13 w =>
 RunIs (ld 3 t9) w t10 ∧ RunIs (ld 116 t0) w t6 ∧ RunIs (ld 58 t4) w t5 ∧ RunIs (ld 116 t0) w t2 ∧ (R t13 w)
theorem eq75 (R : Value → World → Prop) (w : World) (t0 : Value) : enterW Try.prog Try.f75 an75 [t0] w R = vc75 R w t0 := by kernel_rfl
theorem en75 {R : Value → World → Prop} {w : World} {t0 : Value} (h : vc75 R w t0) : Calls Try.prog 75 #[t0] w (retK R) :=
  calls_of_enter mixed Try.func75 (by kernel_rfl) (by rw [eq75]; exact h)

-- qanat/trap.state
def an76 : Ann := (.seq (.reg (opn 2 .done)) (.seq (.one (.seq (.reg (opn 4 .done)) (.cond (.seq (.reg (opn 4 .done)) .leaf) (.seq (.reg (opn 3 .done)) (.cond (.seq (.reg (opn 4 .done)) .leaf) .leaf))))) (.seq (.reg (opn 4 .done)) .leaf)))
def vc76 (R : Value → World → Prop) (w : World) (t0 : Value) : Prop :=
 V (bx 73 t0) w fun t1 w =>
 V (fa 73 t1 0) w fun t4 w =>
 V (ld 3 t4) w fun t5 w =>
 V (eq .eql 3 (.tmp 5) (.const (.int .i64 0)) t5 (.int .i64 0)) w fun t6 w =>
 CondW t6
 (CV (.func (.func 105) #[] #[]) #[] w fun t7 w =>
 V (ia 131 t7 (.int .i64 0)) w fun t8 w =>
 V (ld 9 t8) w fun t9 w =>
 R t9 w)
 (V (fa 73 t1 2) w fun t11 w =>
 V (ld 4 t11) w fun t12 w =>
 CondW t12
 (CV (.func (.func 105) #[] #[]) #[] w fun t13 w =>
 V (ia 131 t13 (.int .i64 2)) w fun t14 w =>
 V (ld 9 t14) w fun t15 w =>
 R t15 w)
 (CV (.func (.func 105) #[] #[]) #[] w fun t16 w =>
 V (ia 131 t16 (.int .i64 1)) w fun t17 w =>
 V (ld 9 t17) w fun t18 w =>
 R t18 w))
theorem eq76 (R : Value → World → Prop) (w : World) (t0 : Value) : enterW Try.prog Try.f76 an76 [t0] w R = vc76 R w t0 := by kernel_rfl
theorem en76 {R : Value → World → Prop} {w : World} {t0 : Value} (h : vc76 R w t0) : Calls Try.prog 76 #[t0] w (retK R) :=
  calls_of_enter mixed Try.func76 (by kernel_rfl) (by rw [eq76]; exact h)

-- slices.EqualFunc[[]qanat/api.TrapFrame,[]qanat/api.TrapFrame,qanat/api.TrapFrame,qanat/api.TrapFrame]
def an77 : Ann := (.seq (.reg (opn 1 .done)) (.seq (.seq (.reg (opn 5 .done)) (.cond (.seq (.reg (opn 1 .done)) .leaf) .leaf)) (.seq (.seq (.reg (opn 3 .done)) (.one (.loop [17] [18, 19, 20, 21, 8, 7, 22, 23, 24, 25, 9, 26, 27, 28, 29, 30, 6, 31, 17] (.seq (.reg (opn 1 .done)) (.seq (.cond .leaf .leaf) (.seq (.one (.seq (.reg (opn 6 .done)) (.seq (.reg (opn 6 .done)) (.seq (.reg (opn 5 .done)) (.cond (.seq (.reg (opn 1 .done)) .leaf) .leaf))))) (.reg (opn 2 .done)))))))) (.seq (.reg (opn 1 .done)) .leaf))))
def vc77 (R : Value → World → Prop) (w : World) (t0 t1 t2 : Value) : Prop :=
 V (Builtin.len_ #[26] 3 #[t0]) w fun t11 w =>
 V (Builtin.len_ #[26] 3 #[t1]) w fun t13 w =>
 V (eq .neq 3 (.tmp 11) (.tmp 13) t11 t13) w fun t14 w =>
 CondW t14
 (R (.bool false) w)
 (V (Builtin.len_ #[26] 3 #[t0]) w fun t16 w =>
 ∃ (I0 : List Value → World → Prop) (M0 : List Value → World → Nat), I0 [(.int .i64 0)] w ∧ ∀ g : Env, ∀ t17, ∀ w, I0 [t17] w → ∀ m0, m0 = M0 [t17] w →
 V (bi .lss 3 t17 t16) w fun t18 w =>
 CondW t18
 (V (ia 26 t0 t17) w fun t20 w =>
 V (ld 63 t20) w fun t21 w =>
 V (al 63) w fun t8 w =>
 U (st 63 t8 t21) w fun w =>
 V (ia 26 t1 t17) w fun t24 w =>
 V (ld 63 t24) w fun t25 w =>
 V (al 63) w fun t9 w =>
 U (st 63 t9 t25) w fun w =>
 V (ld 63 t8) w fun t27 w =>
 V (ld 63 t9) w fun t28 w =>
 CV t2 #[t27, t28] w fun t29 w =>
 V (un .not t29) w fun t30 w =>
 CondW t30
 (R (.bool false) w)
 (V (bi .add 3 t17 (.int .i64 1)) w fun t31 w =>
 I0 [t31] w ∧ M0 [t31] w < m0))
 (R (.bool true) w))
theorem eq77 (R : Value → World → Prop) (w : World) (t0 t1 t2 : Value) : enterW Try.prog Try.f77 an77 [t0, t1, t2] w R = vc77 R w t0 t1 t2 := by kernel_rfl
theorem en77 {R : Value → World → Prop} {w : World} {t0 t1 t2 : Value} (h : vc77 R w t0 t1 t2) : Calls Try.prog 77 #[t0, t1, t2] w (retK R) :=
  calls_of_enter mixed Try.func77 (by kernel_rfl) (by rw [eq77]; exact h)

-- qanat/trap.Same$1
def an78 : Ann := (.seq (.reg (opn 3 .done)) (.seq (.reg (opn 6 (.join [16] [11, 12, 13, 14, 15, 16] (.split 10 (opn 6 .done) (opn 6 .done)) (opn 1 (.join [23] [18, 19, 20, 21, 22, 23] (.split 17 (opn 6 .done) (opn 6 .done)) (opn 1 .done)))))) .leaf))
def vc78 (R : Value → World → Prop) (w : World) (t0 t1 : Value) : Prop :=
 V (bx 63 t0) w fun t2 w =>
 V (bx 63 t1) w fun t3 w =>
 V (fa 63 t2 0) w fun t5 w =>
 V (ld 58 t5) w fun t6 w =>
 V (fa 63 t3 0) w fun t7 w =>
 V (ld 58 t7) w fun t8 w =>
 CV (.func (.func 33) #[] #[]) #[t6, t8] w fun t9 w =>
 ∀ K0 : List Value → World → Prop, (∀ t16, ∀ w, (∀ g : Env,
 ∀ K0 : List Value → World → Prop, (∀ t23, ∀ w, (∀ g : Env,
 R t23 w) → K0 [t23] w) →
 CondW t16
 (V (fa 63 t2 2) w fun t18 w =>
 V (ld 61 t18) w fun t19 w =>
 V (fa 63 t3 2) w fun t20 w =>
 V (ld 61 t20) w fun t21 w =>
 V (eq .eql 61 (.tmp 19) (.tmp 21) t19 t21) w fun t22 w =>
 K0 [t22] w)
 (K0 [(.bool false)] w)) → K0 [t16] w) →
 CondW t9
 (V (fa 63 t2 1) w fun t11 w =>
 V (ld 59 t11) w fun t12 w =>
 V (fa 63 t3 1) w fun t13 w =>
 V (ld 59 t13) w fun t14 w =>
 CV (.func (.func 79) #[] #[]) #[t12, t14] w fun t15 w =>
 K0 [t15] w)
 (K0 [(.bool false)] w)
theorem eq78 (R : Value → World → Prop) (w : World) (t0 t1 : Value) : enterW Try.prog Try.f78 an78 [t0, t1] w R = vc78 R w t0 t1 := by kernel_rfl
theorem en78 {R : Value → World → Prop} {w : World} {t0 t1 : Value} (h : vc78 R w t0 t1) : Calls Try.prog 78 #[t0, t1] w (retK R) :=
  calls_of_enter mixed Try.func78 (by kernel_rfl) (by rw [eq78]; exact h)

-- slices.Equal[[]qanat/api.Raised,qanat/api.Raised]
def an79 : Ann := (.seq (.reg (opn 1 .done)) (.seq (.seq (.reg (opn 5 .done)) (.cond (.seq (.reg (opn 1 .done)) .leaf) .leaf)) (.seq (.seq (.reg (opn 3 .done)) (.one (.loop [13] [14, 15, 5, 16, 17, 18, 19, 20, 21, 22, 23, 24, 4, 25, 13] (.seq (.reg (opn 1 .done)) (.seq (.cond .leaf .leaf) (.seq (.one (.seq (.reg (opn 2 .done)) (.seq (.draw (.take 0 (.take 1 (.take 2 (.hold 3 (.take 4 (.take 5 (.take 6 (.hold 7 (.take 8 .done)))))))))) (.cond (.seq (.reg (opn 1 .done)) .leaf) .leaf)))) (.reg (opn 2 .done)))))))) (.seq (.reg (opn 1 .done)) .leaf))))
def vc79 (R : Value → World → Prop) (w : World) (t0 t1 : Value) : Prop :=
 V (Builtin.len_ #[59] 3 #[t0]) w fun t7 w =>
 V (Builtin.len_ #[59] 3 #[t1]) w fun t9 w =>
 V (eq .neq 3 (.tmp 7) (.tmp 9) t7 t9) w fun t10 w =>
 CondW t10
 (R (.bool false) w)
 (V (Builtin.len_ #[59] 3 #[t0]) w fun t12 w =>
 ∃ (I0 : List Value → World → Prop) (M0 : List Value → World → Nat), I0 [(.int .i64 0)] w ∧ ∀ g : Env, ∀ t13, ∀ w, I0 [t13] w → ∀ m0, m0 = M0 [t13] w →
 V (bi .lss 3 t13 t12) w fun t14 w =>
 CondW t14
 (Dr w fun w =>
 PV (ia 59 t0 t13) fun t18 =>
 HV (ld 70 t18) w fun t19 =>
 PV (ia 59 t1 t13) fun t22 =>
 HV (ld 70 t22) w fun t23 =>
 PV (eq .neq 70 (.tmp 19) (.tmp 23) t19 t23) fun t24 =>
 CondW t24
 (R (.bool false) w)
 (V (bi .add 3 t13 (.int .i64 1)) w fun t25 w =>
 I0 [t25] w ∧ M0 [t25] w < m0))
 (R (.bool true) w))
theorem eq79 (R : Value → World → Prop) (w : World) (t0 t1 : Value) : enterW Try.prog Try.f79 an79 [t0, t1] w R = vc79 R w t0 t1 := by kernel_rfl
theorem en79 {R : Value → World → Prop} {w : World} {t0 t1 : Value} (h : vc79 R w t0 t1) : Calls Try.prog 79 #[t0, t1] w (retK R) :=
  calls_of_enter mixed Try.func79 (by kernel_rfl) (by rw [eq79]; exact h)

-- qanat/trap.condition
def an80 : Ann := (.seq (.reg (opn 1 .done)) (.seq (.reg (opn 3 (.join [8] [6, 7, 8] (.split 5 (opn 3 .done) (opn 3 .done)) (opn 1 .done)))) .leaf))
def vc80 (R : Value → World → Prop) (w : World) (t0 : Value) : Prop :=
 V (bi .leq 3 (.int .i64 0) t0) w fun t4 w =>
 ∀ K0 : List Value → World → Prop, (∀ t8, ∀ w, (∀ g : Env,
 R t8 w) → K0 [t8] w) →
 CondW t4
 (V (bi .lss 3 t0 (.int .i64 6)) w fun t7 w =>
 K0 [t7] w)
 (K0 [(.bool false)] w)
theorem eq80 (R : Value → World → Prop) (w : World) (t0 : Value) : enterW Try.prog Try.f80 an80 [t0] w R = vc80 R w t0 := by kernel_rfl
theorem en80 {R : Value → World → Prop} {w : World} {t0 : Value} (h : vc80 R w t0) : Calls Try.prog 80 #[t0] w (retK R) :=
  calls_of_enter mixed Try.func80 (by kernel_rfl) (by rw [eq80]; exact h)

-- slices.Index[[]string,string]
def an81 : Ann := (.seq (.reg (opn 1 .done)) (.seq (.seq (.reg (opn 3 .done)) (.one (.loop [8] [9, 10, 5, 11, 12, 13, 14, 15, 16, 17, 4, 18, 8] (.seq (.reg (opn 1 .done)) (.seq (.cond .leaf .leaf) (.seq (.one (.seq (.reg (opn 2 .done)) (.seq (.reg (opn 6 .done)) (.cond (.seq (.reg (opn 2 .done)) .leaf) .leaf)))) (.reg (opn 2 .done)))))))) (.seq (.reg (opn 1 .done)) .leaf)))
def vc81 (R : Value → World → Prop) (w : World) (t0 t1 : Value) : Prop :=
 V (Builtin.len_ #[131] 3 #[t0]) w fun t7 w =>
 ∃ (I0 : List Value → World → Prop) (M0 : List Value → World → Nat), I0 [(.int .i64 0)] w ∧ ∀ g : Env, ∀ t8, ∀ w, I0 [t8] w → ∀ m0, m0 = M0 [t8] w →
 V (bi .lss 3 t8 t7) w fun t9 w =>
 CondW t9
 (V (ia 131 t0 t8) w fun t14 w =>
 V (ld 9 t14) w fun t15 w =>
 V (eq .eql 9 (.tmp 11) (.tmp 15) t1 t15) w fun t16 w =>
 CondW t16
 (R t8 w)
 (V (bi .add 3 t8 (.int .i64 1)) w fun t18 w =>
 I0 [t18] w ∧ M0 [t18] w < m0))
 (R (.int .i64 (-1)) w)
theorem eq81 (R : Value → World → Prop) (w : World) (t0 t1 : Value) : enterW Try.prog Try.f81 an81 [t0, t1] w R = vc81 R w t0 t1 := by kernel_rfl
theorem en81 {R : Value → World → Prop} {w : World} {t0 t1 : Value} (h : vc81 R w t0 t1) : Calls Try.prog 81 #[t0, t1] w (retK R) :=
  calls_of_enter mixed Try.func81 (by kernel_rfl) (by rw [eq81]; exact h)

-- qanat/qanatref10.condition
def an82 : Ann := (.seq (.reg (opn 1 .done)) (.seq (.reg (opn 3 (.join [8] [6, 7, 8] (.split 5 (opn 3 .done) (opn 3 .done)) (opn 1 .done)))) .leaf))
def vc82 (R : Value → World → Prop) (w : World) (t0 : Value) : Prop :=
 V (bi .geq 3 t0 (.int .i64 0)) w fun t4 w =>
 ∀ K0 : List Value → World → Prop, (∀ t8, ∀ w, (∀ g : Env,
 R t8 w) → K0 [t8] w) →
 CondW t4
 (V (bi .lss 3 t0 (.int .i64 6)) w fun t7 w =>
 K0 [t7] w)
 (K0 [(.bool false)] w)
theorem eq82 (R : Value → World → Prop) (w : World) (t0 : Value) : enterW Try.prog Try.f82 an82 [t0] w R = vc82 R w t0 := by kernel_rfl
theorem en82 {R : Value → World → Prop} {w : World} {t0 : Value} (h : vc82 R w t0) : Calls Try.prog 82 #[t0] w (retK R) :=
  calls_of_enter mixed Try.func82 (by kernel_rfl) (by rw [eq82]; exact h)

-- qanat/qanatref10.names
def an83 : Ann := (.seq (.reg (opn 1 .done)) (.seq (.reg (opn 2 .done)) .leaf))
def vc83 (R : Value → World → Prop) (w : World) : Prop :=
 V (bs 131 6 #[(0, (.string ⟨#[69, 82, 82, 79, 82]⟩)), (1, (.string ⟨#[70, 65, 73, 76, 85, 82, 69]⟩)), (2, (.string ⟨#[72, 65, 76, 84]⟩)), (3, (.string ⟨#[78, 79, 86, 65, 76, 85, 69]⟩)), (4, (.string ⟨#[78, 79, 84, 82, 69, 65, 68, 89]⟩)), (5, (.string ⟨#[83, 89, 78, 84, 65, 88]⟩))]) w fun t1 w =>
 R t1 w
theorem eq83 (R : Value → World → Prop) (w : World) : enterW Try.prog Try.f83 an83 [] w R = vc83 R w  := by kernel_rfl
theorem en83 {R : Value → World → Prop} {w : World} (h : vc83 R w ) : Calls Try.prog 83 #[] w (retK R) :=
  calls_of_enter mixed Try.func83 (by kernel_rfl) (by rw [eq83]; exact h)

-- qanat/qanatref10.rightFrame
def an84 : Ann := (.seq (.reg (opn 2 .done)) (.seq (.seq (.reg (opn 5 (.join [15] [11, 12, 13, 14, 15] (.split 10 (opn 5 .done) (opn 5 .done)) .done))) (.cond (.seq (.reg (opn 1 .done)) .leaf) .leaf)) (.seq (.seq (.reg (opn 1 .done)) (.one (.loop [3] [16, 17, 18, 19, 20, 23, 24, 25, 26, 27, 28, 29, 30, 2, 21, 22, 3] (.seq (.seq (.reg (opn 5 .done)) (.cond .leaf .leaf)) (.seq (.one (.seq (.reg (opn 8 .done)) (.cond (.seq (.reg (opn 1 .done)) .leaf) .leaf))) (.reg (opn 3 .done))))))) (.seq (.seq (.reg (opn 1 .done)) (.one (.loop [4] [31, 32, 33, 34, 35, 38, 39, 40, 41, 42, 5, 43, 44, 45, 46, 47, 48, 49, 50, 51, 52, 53, 54, 55, 56, 57, 58, 59, 60, 61, 62, 2, 36, 37, 4] (.seq (.seq (.reg (opn 5 .done)) (.cond .leaf .leaf)) (.seq (.one (.seq (.reg (opn 7 .done)) (.seqJ [62] [43, 44, 45, 46, 47, 48, 49, 50, 51, 52, 53, 54, 55, 56, 57, 58, 59, 60, 61, 62] (.draw (.take 0 (.hold 1 (.alts (.eff 2 (.take 3 (.take 4 (.split 47 (.take 5 (.take 6 (.take 7 (.take 8 (.take 9 (.take 10 (.take 11 (.take 12 (.take 13 (.take 14 (.take 15 (.take 16 (.take 17 (.take 18 (.take 19 .done))))))))))))))) (.take 5 (.hold 6 (.alts (.eff 7 (.take 8 (.take 9 (.take 10 (.split 53 (.take 11 (.take 12 (.take 13 (.take 14 (.take 15 (.take 16 (.take 17 (.take 18 (.take 19 .done))))))))) (.take 11 (.hold 12 (.take 13 (.take 14 (.take 15 (.hold 16 (.alts (.eff 17 (.take 18 (.take 19 .done)) .nil)))))))))))) .nil))))))) .nil))))) (.cond (.seq (.reg (opn 1 .done)) .leaf) .leaf)))) (.reg (opn 3 .done))))))) (.seq (.reg (opn 1 .done)) .leaf)))))
def vc84 (R : Value → World → Prop) (w : World) (t0 : Value) : Prop :=
 V (bx 63 t0) w fun t1 w =>
 V (fa 63 t1 0) w fun t6 w =>
 V (ld 58 t6) w fun t7 w =>
 V (Builtin.len_ #[58] 3 #[t7]) w fun t8 w =>
 V (eq .neq 3 (.tmp 8) (.const (.int .i64 6)) t8 (.int .i64 6)) w fun t9 w =>
 ∀ K0 : List Value → World → Prop, (∀ t15, ∀ w, (∀ g : Env,
 CondW t15
 (R (.bool false) w)
 (∃ (I0 : List Value → World → Prop) (M0 : List Value → World → Nat), I0 [(.int .i64 0)] w ∧ ∀ g : Env, ∀ t3, ∀ w, I0 [t3] w → ∀ m0, m0 = M0 [t3] w →
 V (fa 63 t1 0) w fun t17 w =>
 V (ld 58 t17) w fun t18 w =>
 V (Builtin.len_ #[58] 3 #[t18]) w fun t19 w =>
 V (bi .lss 3 t3 t19) w fun t20 w =>
 CondW t20
 (V (fa 63 t1 0) w fun t23 w =>
 V (ld 58 t23) w fun t24 w =>
 V (ia 58 t24 t3) w fun t26 w =>
 V (ld 73 t26) w fun t27 w =>
 CV (.func (.func 107) #[] #[]) #[t27, t3] w fun t29 w =>
 V (un .not t29) w fun t30 w =>
 CondW t30
 (R (.bool false) w)
 (V (bi .add 3 t3 (.int .i64 1)) w fun t22 w =>
 I0 [t22] w ∧ M0 [t22] w < m0))
 (∃ (I1 : List Value → World → Prop) (M1 : List Value → World → Nat), I1 [(.int .i64 0)] w ∧ ∀ g : Env, ∀ t4, ∀ w, I1 [t4] w → ∀ m1, m1 = M1 [t4] w →
 V (fa 63 t1 1) w fun t32 w =>
 V (ld 59 t32) w fun t33 w =>
 V (Builtin.len_ #[59] 3 #[t33]) w fun t34 w =>
 V (bi .lss 3 t4 t34) w fun t35 w =>
 CondW t35
 (V (fa 63 t1 1) w fun t38 w =>
 V (ld 59 t38) w fun t39 w =>
 V (ia 59 t39 t4) w fun t41 w =>
 V (ld 70 t41) w fun t42 w =>
 V (al 70) w fun t5 w =>
 U (st 70 t5 t42) w fun w =>
 ∀ K0 : List Value → World → Prop, (∀ t62, ∀ w, (∀ g : Env,
 CondW t62
 (R (.bool false) w)
 (V (bi .add 3 t4 (.int .i64 1)) w fun t37 w =>
 I1 [t37] w ∧ M1 [t37] w < m1)) → K0 [t62] w) →
 Dr w fun w =>
 PV (fa 70 t5 0) fun t43 =>
 HV (ld 3 t43) w fun t44 =>
 CV (.func (.func 60) #[] #[]) #[t44] w fun t45 w =>
 PV (un .not t45) fun t46 =>
 CondW t46
 (K0 [(.bool true)] w)
 (PV (fa 70 t5 1) fun t48 =>
 HV (ld 9 t48) w fun t49 =>
 CV (.func (.func 62) #[] #[]) #[t49] w fun t50 w =>
 PV (un .not t50) fun t51 =>
 CondW t51
 (K0 [(.bool true)] w)
 (PV (fa 63 t1 1) fun t54 =>
 HV (ld 59 t54) w fun t55 =>
 PV (sl 59 t55 none (some t4) none) fun t57 =>
 PV (fa 70 t5 0) fun t58 =>
 HV (ld 3 t58) w fun t59 =>
 CV (.func (.func 64) #[] #[]) #[t57, t59] w fun t60 w =>
 RunIs (ld 59 t54) w t55 ∧ (PV (bi .geq 3 t60 (.int .i64 0)) fun t61 =>
 K0 [t61] w))))
 (R (.bool true) w)))) → K0 [t15] w) →
 CondW t9
 (K0 [(.bool true)] w)
 (V (fa 63 t1 2) w fun t11 w =>
 V (ld 61 t11) w fun t12 w =>
 CV (.func (.func 106) #[] #[]) #[t12] w fun t13 w =>
 V (un .not t13) w fun t14 w =>
 K0 [t14] w)
theorem eq84 (R : Value → World → Prop) (w : World) (t0 : Value) : enterW Try.prog Try.f84 an84 [t0] w R = vc84 R w t0 := by kernel_rfl
theorem en84 {R : Value → World → Prop} {w : World} {t0 : Value} (h : vc84 R w t0) : Calls Try.prog 84 #[t0] w (retK R) :=
  calls_of_enter mixed Try.func84 (by kernel_rfl) (by rw [eq84]; exact h)

-- (*qanat/trap.machine).set
def an85 : Ann := (.seq (.reg (opn 2 .done)) (.seq (.seq (.reg (opn 5 (.join [23] [16, 17, 18, 19, 20, 21, 22, 23] (.split 15 (opn 8 .done) (opn 3 (.join [22] [19, 20, 21, 22] (.split 18 (opn 4 .done) (opn 4 .done)) (opn 1 .done)))) .done))) (.cond (.seq (.reg (opn 3 .done)) .leaf) .leaf)) (.seq (.reg (opn 8 .done)) (.seq (.seq (.reg (opn 2 .done)) (.cond (.seq (.reg (opn 4 .done)) (.seq (.reg (opn 3 .done)) .leaf)) .leaf)) (.seqJ [3] [38, 39, 40, 41, 42, 3] (.seq (.reg (opn 2 .done)) (.cond (.reg (opn 4 .done)) .leaf)) (.seq (.reg (opn 6 (.join [53] [49, 50, 51, 52, 53] (.split 48 (opn 5 .done) (opn 5 .done)) (opn 3 .done)))) (.seq (.reg (opn 3 .done)) .leaf)))))))
def vc85 (R : Value → World → Prop) (w : World) (t0 t1 t2 t3 : Value) : Prop :=
 V (al 39) w fun t8 w =>
 CV (.func (.func 108) #[] #[]) #[t1, t2] w fun t13 w =>
 V (un .not t13) w fun t14 w =>
 ∀ K0 : List Value → World → Prop, (∀ t23, ∀ w, (∀ g : Env,
 CondW t23
 (V (bd 39 #[]) w fun t24 w =>
 U (st 39 t8 t24) w fun w =>
 CW 39 t8 w fun t1008 => R (.tuple #[t1008, (.int .i64 1)]) w)
 (CV (.func (.func 67) #[] #[]) #[t0] w fun t26 w =>
 NilW t26 fun t27 => V (fa 63 t27 0) w fun t28 w =>
 V (ld 58 t28) w fun t29 w =>
 V (ia 58 t29 t1) w fun t31 w =>
 V (eq .eql 3 (.tmp 32) (.const (.int .i64 0)) t2 (.int .i64 0)) w fun t33 w =>
 CondW t33
 (V (bd 73 #[]) w fun t35 w =>
 NilW t31 fun t36 => U (st 73 t36 t35) w fun w =>
 V (bd 39 #[]) w fun t37 w =>
 U (st 39 t8 t37) w fun w =>
 CW 39 t8 w fun t1008 => R (.tuple #[t1008, (.int .i64 0)]) w)
 (∀ K0 : List Value → World → Prop, (∀ t3a, ∀ w, (∀ g : Env,
 V (eq .eql 3 (.tmp 46) (.const (.int .i64 2)) t2 (.int .i64 2)) w fun t47 w =>
 ∀ K0 : List Value → World → Prop, (∀ t53, ∀ w, (∀ g : Env,
 V (bd 73 #[(0, t2), (1, t3a), (2, t53)]) w fun t54 w =>
 NilW t31 fun t55 => U (st 73 t55 t54) w fun w =>
 V (bd 39 #[]) w fun t56 w =>
 U (st 39 t8 t56) w fun w =>
 CW 39 t8 w fun t1008 => R (.tuple #[t1008, (.int .i64 0)]) w) → K0 [t53] w) →
 CondW t47
 (NilW t31 fun t50 => V (fa 73 t50 2) w fun t51 w =>
 V (ld 4 t51) w fun t52 w =>
 K0 [t52] w)
 (K0 [(.bool false)] w)) → K0 [t3a] w) →
 V (eq .eql 9 (.tmp 38) (.const (.string ⟨#[]⟩)) t3 (.string ⟨#[]⟩)) w fun t39 w =>
 CondW t39
 (CV (.func (.func 72) #[] #[]) #[] w fun t40 w =>
 V (ix 120 t40 t1) w fun t42 w =>
 K0 [t42] w)
 (K0 [t3] w)))) → K0 [t23] w) →
 CondW t14
 (K0 [(.bool true)] w)
 (V (eq .neq 9 (.tmp 16) (.const (.string ⟨#[]⟩)) t3 (.string ⟨#[]⟩)) w fun t17 w =>
 ∀ K1 : List Value → World → Prop, (∀ t22, ∀ w, (∀ g : Env,
 K0 [t22] w) → K1 [t22] w) →
 CondW t17
 (CV (.func (.func 109) #[] #[]) #[t3] w fun t20 w =>
 V (un .not t20) w fun t21 w =>
 K1 [t21] w)
 (K1 [(.bool false)] w))
theorem eq85 (R : Value → World → Prop) (w : World) (t0 t1 t2 t3 : Value) : enterW Try.prog Try.f85 an85 [t0, t1, t2, t3] w R = vc85 R w t0 t1 t2 t3 := by kernel_rfl
theorem en85 {R : Value → World → Prop} {w : World} {t0 t1 t2 t3 : Value} (h : vc85 R w t0 t1 t2 t3) : Calls Try.prog 85 #[t0, t1, t2, t3] w (retK R) :=
  calls_of_enter mixed Try.func85 (by kernel_rfl) (by rw [eq85]; exact h)

-- (*qanat/trap.machine).call
def an86 : Ann := (.seq (.reg (opn 2 .done)) (.seq (.seq (.reg (opn 7 .done)) (.cond (.seq (.reg (opn 3 .done)) .leaf) .leaf)) (.seq (.reg (opn 3 .done)) (.seq (.draw (.take 0 (.take 1 (.take 2 (.take 3 (.take 4 (.hold 5 (.take 6 (.take 7 (.take 8 (.hold 9 (.take 11 (.take 12 (.take 13 (.hold 14 (.alts (.eff 10 (.take 15 (.alts (.eff 16 (.alts (.eff 17 (.take 18 (.take 19 (.take 20 (.alts (.eff 21 .done .nil))))) .nil)) .nil))) .nil))))))))))))))))) (.seq (.reg (opn 3 .done)) .leaf)))))
def vc86 (R : Value → World → Prop) (w : World) (t0 t1 t2 t3 : Value) : Prop :=
 V (al 39) w fun t8 w =>
 NilW t0 fun t12 => V (fa 134 t12 0) w fun t13 w =>
 V (fa 28 t13 0) w fun t14 w =>
 V (ld 26 t14) w fun t15 w =>
 V (Builtin.len_ #[26] 3 #[t15]) w fun t16 w =>
 V (eq .eql 3 (.tmp 16) (.const (.int .i64 30)) t16 (.int .i64 30)) w fun t17 w =>
 CondW t17
 (V (bd 39 #[]) w fun t18 w =>
 U (st 39 t8 t18) w fun w =>
 CW 39 t8 w fun t1008 => R (.tuple #[t1008, (.int .i64 14)]) w)
 (CV (.func (.func 67) #[] #[]) #[t0] w fun t20 w =>
 Dr w fun w =>
 NilW t0 fun t23 => PV (fa 134 t23 0) fun t24 =>
 PV (fa 28 t24 0) fun t25 =>
 HV (ld 26 t25) w fun t26 =>
 NilW t20 fun t28 => PV (fa 63 t28 0) fun t29 =>
 HV (ld 58 t29) w fun t30 =>
 NilW t20 fun t33 => PV (fa 63 t33 2) fun t34 =>
 HV (ld 61 t34) w fun t35 =>
 CV (.func (.func 31) #[] #[]) #[t30] w fun t31 w =>
 RunIs (ld 61 t34) w t35 ∧ RunIs (ld 26 t25) w t26 ∧ (PV (bd 63 #[(0, t31), (2, t35)]) fun t36 =>
 V (bs 26 1 #[(0, t36)]) w fun t37 w =>
 RunIs (ld 61 t34) w t35 ∧ RunIs (ld 26 t25) w t26 ∧ (V (Builtin.append_ #[26, 26] 26 #[t26, t37]) w fun t38 w =>
 RunIs (ld 61 t34) w t35 ∧ (NilW t0 fun t39 => PV (fa 134 t39 0) fun t40 =>
 PV (fa 28 t40 0) fun t41 =>
 U (st 26 t41 t38) w fun w =>
 V (bd 39 #[]) w fun t42 w =>
 U (st 39 t8 t42) w fun w =>
 CW 39 t8 w fun t1008 => R (.tuple #[t1008, (.int .i64 0)]) w))))
theorem eq86 (R : Value → World → Prop) (w : World) (t0 t1 t2 t3 : Value) : enterW Try.prog Try.f86 an86 [t0, t1, t2, t3] w R = vc86 R w t0 t1 t2 t3 := by kernel_rfl
theorem en86 {R : Value → World → Prop} {w : World} {t0 t1 t2 t3 : Value} (h : vc86 R w t0 t1 t2 t3) : Calls Try.prog 86 #[t0, t1, t2, t3] w (retK R) :=
  calls_of_enter mixed Try.func86 (by kernel_rfl) (by rw [eq86]; exact h)

-- (*qanat/trap.machine).back
def an87 : Ann := (.seq (.reg (opn 2 .done)) (.seq (.reg (opn 8 .done)) (.seq (.seq (.reg (opn 2 .done)) (.cond (.seq (.reg (opn 3 .done)) .leaf) .leaf)) (.seq (.reg (opn 12 .done)) (.seq (.reg (opn 3 .done)) .leaf)))))
def vc87 (R : Value → World → Prop) (w : World) (t0 t1 t2 t3 : Value) : Prop :=
 V (al 39) w fun t8 w =>
 NilW t0 fun t12 => V (fa 134 t12 0) w fun t13 w =>
 V (fa 28 t13 0) w fun t14 w =>
 V (ld 26 t14) w fun t15 w =>
 V (Builtin.len_ #[26] 3 #[t15]) w fun t16 w =>
 V (bi .sub 3 t16 (.int .i64 1)) w fun t17 w =>
 V (eq .eql 3 (.tmp 18) (.const (.int .i64 0)) t17 (.int .i64 0)) w fun t19 w =>
 CondW t19
 (V (bd 39 #[]) w fun t20 w =>
 U (st 39 t8 t20) w fun w =>
 CW 39 t8 w fun t1008 => R (.tuple #[t1008, (.int .i64 12)]) w)
 (NilW t0 fun t23 => V (fa 134 t23 0) w fun t24 w =>
 V (fa 28 t24 0) w fun t25 w =>
 V (ld 26 t25) w fun t26 w =>
 V (sl 26 t26 none (some t17) none) w fun t28 w =>
 NilW t0 fun t29 => V (fa 134 t29 0) w fun t30 w =>
 V (fa 28 t30 0) w fun t31 w =>
 U (st 26 t31 t28) w fun w =>
 V (bd 39 #[]) w fun t32 w =>
 U (st 39 t8 t32) w fun w =>
 CW 39 t8 w fun t1008 => R (.tuple #[t1008, (.int .i64 0)]) w)
theorem eq87 (R : Value → World → Prop) (w : World) (t0 t1 t2 t3 : Value) : enterW Try.prog Try.f87 an87 [t0, t1, t2, t3] w R = vc87 R w t0 t1 t2 t3 := by kernel_rfl
theorem en87 {R : Value → World → Prop} {w : World} {t0 t1 t2 t3 : Value} (h : vc87 R w t0 t1 t2 t3) : Calls Try.prog 87 #[t0, t1, t2, t3] w (retK R) :=
  calls_of_enter mixed Try.func87 (by kernel_rfl) (by rw [eq87]; exact h)

-- slices.IndexFunc[[]qanat/api.TrapOp,qanat/api.TrapOp]
def an88 : Ann := (.seq (.reg (opn 1 .done)) (.seq (.seq (.reg (opn 3 .done)) (.one (.loop [8] [9, 10, 5, 11, 12, 13, 14, 15, 16, 17, 4, 18, 8] (.seq (.reg (opn 1 .done)) (.seq (.cond .leaf .leaf) (.seq (.one (.seq (.reg (opn 2 .done)) (.seq (.reg (opn 6 .done)) (.cond (.seq (.reg (opn 2 .done)) .leaf) .leaf)))) (.reg (opn 2 .done)))))))) (.seq (.reg (opn 1 .done)) .leaf)))
def vc88 (R : Value → World → Prop) (w : World) (t0 t1 : Value) : Prop :=
 V (Builtin.len_ #[22] 3 #[t0]) w fun t7 w =>
 ∃ (I0 : List Value → World → Prop) (M0 : List Value → World → Nat), I0 [(.int .i64 0)] w ∧ ∀ g : Env, ∀ t8, ∀ w, I0 [t8] w → ∀ m0, m0 = M0 [t8] w →
 V (bi .lss 3 t8 t7) w fun t9 w =>
 CondW t9
 (V (ia 22 t0 t8) w fun t14 w =>
 V (ld 25 t14) w fun t15 w =>
 CV t1 #[t15] w fun t16 w =>
 CondW t16
 (R t8 w)
 (V (bi .add 3 t8 (.int .i64 1)) w fun t18 w =>
 I0 [t18] w ∧ M0 [t18] w < m0))
 (R (.int .i64 (-1)) w)
theorem eq88 (R : Value → World → Prop) (w : World) (t0 t1 : Value) : enterW Try.prog Try.f88 an88 [t0, t1] w R = vc88 R w t0 t1 := by kernel_rfl
theorem en88 {R : Value → World → Prop} {w : World} {t0 t1 : Value} (h : vc88 R w t0 t1) : Calls Try.prog 88 #[t0, t1] w (retK R) :=
  calls_of_enter mixed Try.func88 (by kernel_rfl) (by rw [eq88]; exact h)

-- slices.IndexFunc[[]qanat/api.TrapFrame,qanat/api.TrapFrame]
def an89 : Ann := (.seq (.reg (opn 1 .done)) (.seq (.seq (.reg (opn 3 .done)) (.one (.loop [8] [9, 10, 5, 11, 12, 13, 14, 15, 16, 17, 4, 18, 8] (.seq (.reg (opn 1 .done)) (.seq (.cond .leaf .leaf) (.seq (.one (.seq (.reg (opn 2 .done)) (.seq (.reg (opn 6 .done)) (.cond (.seq (.reg (opn 2 .done)) .leaf) .leaf)))) (.reg (opn 2 .done)))))))) (.seq (.reg (opn 1 .done)) .leaf)))
def vc89 (R : Value → World → Prop) (w : World) (t0 t1 : Value) : Prop :=
 V (Builtin.len_ #[26] 3 #[t0]) w fun t7 w =>
 ∃ (I0 : List Value → World → Prop) (M0 : List Value → World → Nat), I0 [(.int .i64 0)] w ∧ ∀ g : Env, ∀ t8, ∀ w, I0 [t8] w → ∀ m0, m0 = M0 [t8] w →
 V (bi .lss 3 t8 t7) w fun t9 w =>
 CondW t9
 (V (ia 26 t0 t8) w fun t14 w =>
 V (ld 63 t14) w fun t15 w =>
 CV t1 #[t15] w fun t16 w =>
 CondW t16
 (R t8 w)
 (V (bi .add 3 t8 (.int .i64 1)) w fun t18 w =>
 I0 [t18] w ∧ M0 [t18] w < m0))
 (R (.int .i64 (-1)) w)
theorem eq89 (R : Value → World → Prop) (w : World) (t0 t1 : Value) : enterW Try.prog Try.f89 an89 [t0, t1] w R = vc89 R w t0 t1 := by kernel_rfl
theorem en89 {R : Value → World → Prop} {w : World} {t0 t1 : Value} (h : vc89 R w t0 t1) : Calls Try.prog 89 #[t0, t1] w (retK R) :=
  calls_of_enter mixed Try.func89 (by kernel_rfl) (by rw [eq89]; exact h)

-- qanat/trap.trapped
def an90 : Ann := (.seq (.reg (opn 2 .done)) (.seq (.seq (.reg (opn 3 .done)) (.cond (.seq (.reg (opn 4 .done)) .leaf) .leaf)) (.seq (.reg (opn 5 (.join [19] [16, 17, 18, 19] (.split 15 (opn 4 .done) (opn 4 .done)) (opn 1 (.join [29] [21, 22, 23, 24, 25, 26, 27, 28, 29] (.split 20 (opn 4 (.join [28] [25, 26, 27, 28] (.split 24 (opn 4 .done) (opn 4 .done)) (opn 1 .done))) (opn 9 .done)) (opn 1 .done)))))) .leaf)))
def vc90 (R : Value → World → Prop) (w : World) (t0 t1 : Value) : Prop :=
 V (bx 73 t1) w fun t3 w =>
 V (fa 73 t3 0) w fun t5 w =>
 V (ld 3 t5) w fun t6 w =>
 V (eq .eql 3 (.tmp 6) (.const (.int .i64 0)) t6 (.int .i64 0)) w fun t7 w =>
 CondW t7
 (V (ld 73 t3) w fun t8 w =>
 V (bd 73 #[]) w fun t9 w =>
 V (eq .eql 73 (.tmp 8) (.tmp 9) t8 t9) w fun t10 w =>
 R t10 w)
 (V (fa 73 t3 0) w fun t12 w =>
 V (ld 3 t12) w fun t13 w =>
 CV (.func (.func 108) #[] #[]) #[t0, t13] w fun t14 w =>
 ∀ K0 : List Value → World → Prop, (∀ t19, ∀ w, (∀ g : Env,
 ∀ K0 : List Value → World → Prop, (∀ t29, ∀ w, (∀ g : Env,
 R t29 w) → K0 [t29] w) →
 CondW t19
 (V (fa 73 t3 2) w fun t21 w =>
 V (ld 4 t21) w fun t22 w =>
 V (un .not t22) w fun t23 w =>
 ∀ K1 : List Value → World → Prop, (∀ t28, ∀ w, (∀ g : Env,
 K0 [t28] w) → K1 [t28] w) →
 CondW t23
 (K1 [(.bool true)] w)
 (V (fa 73 t3 0) w fun t25 w =>
 V (ld 3 t25) w fun t26 w =>
 V (eq .eql 3 (.tmp 26) (.const (.int .i64 2)) t26 (.int .i64 2)) w fun t27 w =>
 K1 [t27] w))
 (K0 [(.bool false)] w)) → K0 [t19] w) →
 CondW t14
 (V (fa 73 t3 1) w fun t16 w =>
 V (ld 9 t16) w fun t17 w =>
 CV (.func (.func 109) #[] #[]) #[t17] w fun t18 w =>
 K0 [t18] w)
 (K0 [(.bool false)] w))
theorem eq90 (R : Value → World → Prop) (w : World) (t0 t1 : Value) : enterW Try.prog Try.f90 an90 [t0, t1] w R = vc90 R w t0 t1 := by kernel_rfl
theorem en90 {R : Value → World → Prop} {w : World} {t0 t1 : Value} (h : vc90 R w t0 t1) : Calls Try.prog 90 #[t0, t1] w (retK R) :=
  calls_of_enter mixed Try.func90 (by kernel_rfl) (by rw [eq90]; exact h)

-- qanat/trap.immediate
def an91 : Ann := (.seq (.reg (opn 1 .done)) (.seq (.reg (opn 3 (.join [8] [6, 7, 8] (.split 5 (opn 3 .done) (opn 3 .done)) (opn 1 .done)))) .leaf))
def vc91 (R : Value → World → Prop) (w : World) (t0 : Value) : Prop :=
 V (eq .eql 3 (.tmp 3) (.const (.int .i64 3)) t0 (.int .i64 3)) w fun t4 w =>
 ∀ K0 : List Value → World → Prop, (∀ t8, ∀ w, (∀ g : Env,
 R t8 w) → K0 [t8] w) →
 CondW t4
 (K0 [(.bool true)] w)
 (V (eq .eql 3 (.tmp 6) (.const (.int .i64 5)) t0 (.int .i64 5)) w fun t7 w =>
 K0 [t7] w)
theorem eq91 (R : Value → World → Prop) (w : World) (t0 : Value) : enterW Try.prog Try.f91 an91 [t0] w R = vc91 R w t0 := by kernel_rfl
theorem en91 {R : Value → World → Prop} {w : World} {t0 : Value} (h : vc91 R w t0) : Calls Try.prog 91 #[t0] w (retK R) :=
  calls_of_enter mixed Try.func91 (by kernel_rfl) (by rw [eq91]; exact h)

-- qanat/trap.described
def an92 : Ann := (.seq (.reg (opn 1 .done)) (.seq (.reg (opn 4 (.join [10] [7, 8, 9, 10] (.split 6 (opn 4 .done) (opn 4 .done)) (opn 1 .done)))) .leaf))
def vc92 (R : Value → World → Prop) (w : World) (t0 : Value) : Prop :=
 V (Builtin.len_ #[9] 3 #[t0]) w fun t4 w =>
 V (bi .leq 3 t4 (.int .i64 1000)) w fun t5 w =>
 ∀ K0 : List Value → World → Prop, (∀ t10, ∀ w, (∀ g : Env,
 R t10 w) → K0 [t10] w) →
 CondW t5
 (CV (.func (.func 110) #[] #[]) #[t0, (.func (.func 111) #[] #[])] w fun t8 w =>
 V (bi .lss 3 t8 (.int .i64 0)) w fun t9 w =>
 K0 [t9] w)
 (K0 [(.bool false)] w)
theorem eq92 (R : Value → World → Prop) (w : World) (t0 : Value) : enterW Try.prog Try.f92 an92 [t0] w R = vc92 R w t0 := by kernel_rfl
theorem en92 {R : Value → World → Prop} {w : World} {t0 : Value} (h : vc92 R w t0) : Calls Try.prog 92 #[t0] w (retK R) :=
  calls_of_enter mixed Try.func92 (by kernel_rfl) (by rw [eq92]; exact h)

-- qanat/qanatref10.copied
def an93 : Ann := (.seq (.reg (opn 2 .done)) (.seq (.reg (opn 1 .done)) (.seq (.seq (.reg (opn 1 .done)) (.one (.loop [4] [6, 7, 8, 9, 10, 13, 14, 15, 16, 17, 5, 18, 19, 20, 21, 22, 23, 24, 25, 26, 27, 28, 29, 30, 31, 32, 33, 11, 12, 4] (.seq (.seq (.reg (opn 5 .done)) (.cond .leaf .leaf)) (.seq (.one (.seq (.reg (opn 7 .done)) (.seq (.reg (opn 6 .done)) (.seq (.reg (opn 6 .done)) (.reg (opn 7 .done)))))) (.reg (opn 3 .done))))))) (.seq (.reg (opn 2 .done)) .leaf))))
def vc93 (R : Value → World → Prop) (w : World) (t0 : Value) : Prop :=
 V (bx 28 t0) w fun t1 w =>
 V (al 28) w fun t2 w =>
 V (al 28) w fun t3 w =>
 ∃ (I0 : List Value → World → Prop) (M0 : List Value → World → Nat), I0 [(.int .i64 0)] w ∧ ∀ g : Env, ∀ t4, ∀ w, I0 [t4] w → ∀ m0, m0 = M0 [t4] w →
 V (fa 28 t1 0) w fun t7 w =>
 V (ld 26 t7) w fun t8 w =>
 V (Builtin.len_ #[26] 3 #[t8]) w fun t9 w =>
 V (bi .lss 3 t4 t9) w fun t10 w =>
 CondW t10
 (V (fa 28 t1 0) w fun t13 w =>
 V (ld 26 t13) w fun t14 w =>
 V (ia 26 t14 t4) w fun t16 w =>
 V (ld 63 t16) w fun t17 w =>
 V (al 63) w fun t5 w =>
 U (st 63 t5 t17) w fun w =>
 V (bs 58 0 #[]) w fun t18 w =>
 V (fa 63 t5 0) w fun t19 w =>
 V (ld 58 t19) w fun t20 w =>
 V (Builtin.append_ #[58, 58] 58 #[t18, t20]) w fun t21 w =>
 V (fa 63 t5 0) w fun t22 w =>
 U (st 58 t22 t21) w fun w =>
 V (bs 59 0 #[]) w fun t23 w =>
 V (fa 63 t5 1) w fun t24 w =>
 V (ld 59 t24) w fun t25 w =>
 V (Builtin.append_ #[59, 59] 59 #[t23, t25]) w fun t26 w =>
 V (fa 63 t5 1) w fun t27 w =>
 U (st 59 t27 t26) w fun w =>
 V (fa 28 t3 0) w fun t28 w =>
 V (ld 26 t28) w fun t29 w =>
 V (ld 63 t5) w fun t30 w =>
 V (bs 26 1 #[(0, t30)]) w fun t31 w =>
 V (Builtin.append_ #[26, 26] 26 #[t29, t31]) w fun t32 w =>
 V (fa 28 t3 0) w fun t33 w =>
 U (st 26 t33 t32) w fun w =>
 V (bi .add 3 t4 (.int .i64 1)) w fun t12 w =>
 I0 [t12] w ∧ M0 [t12] w < m0)
 (V (ld 28 t3) w fun t34 w =>
 U (st 28 t2 t34) w fun w =>
 CW 28 t2 w fun t1002 => R t1002 w)
theorem eq93 (R : Value → World → Prop) (w : World) (t0 : Value) : enterW Try.prog Try.f93 an93 [t0] w R = vc93 R w t0 := by kernel_rfl
theorem en93 {R : Value → World → Prop} {w : World} {t0 : Value} (h : vc93 R w t0) : Calls Try.prog 93 #[t0] w (retK R) :=
  calls_of_enter mixed Try.func93 (by kernel_rfl) (by rw [eq93]; exact h)

-- qanat/qanatref07.symbol
def an94 : Ann := (.seq (.reg (opn 1 .done)) (.seq (.seq (.reg (opn 1 .done)) (.one (.loop [3] [7, 8, 9, 10, 13, 14, 15, 4, 16, 17, 18, 19, 20, 21, 22, 23, 24, 25, 5, 26, 27, 28, 29, 30, 31, 32, 33, 34, 35, 36, 37, 38, 39, 40, 41, 42, 43, 6, 44, 45, 46, 47, 48, 49, 50, 51, 52, 53, 54, 55, 56, 2, 11, 12, 3] (.seq (.seq (.reg (opn 4 .done)) (.cond .leaf .leaf)) (.seq (.one (.seq (.reg (opn 4 .done)) (.seq (.reg (opn 3 (.join [21] [19, 20, 21] (.split 18 (opn 3 .done) (opn 3 .done)) (opn 1 (.join [25] [23, 24, 25] (.split 22 (opn 3 .done) (opn 3 .done)) (opn 1 .done)))))) (.seq (.reg (opn 3 (.join [31] [29, 30, 31] (.split 28 (opn 3 .done) (opn 3 .done)) (opn 1 (.join [35] [33, 34, 35] (.split 32 (opn 3 .done) (opn 3 .done)) (opn 1 (.join [39] [37, 38, 39] (.split 36 (opn 3 .done) (opn 3 .done)) (opn 1 (.join [43] [41, 42, 43] (.split 40 (opn 3 .done) (opn 3 .done)) (opn 1 .done)))))))))) (.seq (.reg (opn 3 (.join [49] [47, 48, 49] (.split 46 (opn 3 .done) (opn 3 .done)) (opn 1 (.join [56] [51, 52, 53, 54, 55, 56] (.split 50 (opn 6 .done) (opn 3 (.join [55] [54, 55] (.split 53 (opn 2 .done) (opn 2 .done)) (opn 1 .done)))) .done))))) (.cond (.seq (.reg (opn 1 .done)) .leaf) .leaf)))))) (.reg (opn 3 .done))))))) (.seq (.reg (opn 4 (.join [64] [61, 62, 63, 64] (.split 60 (opn 4 .done) (opn 4 .done)) (opn 1 .done)))) .leaf)))
def vc94 (R : Value → World → Prop) (w : World) (t0 : Value) : Prop :=
 ∃ (I0 : List Value → World → Prop) (M0 : List Value → World → Nat), I0 [(.int .i64 0)] w ∧ ∀ g : Env, ∀ t3, ∀ w, I0 [t3] w → ∀ m0, m0 = M0 [t3] w →
 V (Builtin.len_ #[9] 3 #[t0]) w fun t9 w =>
 V (bi .lss 3 t3 t9) w fun t10 w =>
 CondW t10
 (V (ix 9 t0 t3) w fun t15 w =>
 V (bi .geq 5 t15 (.int .u8 48)) w fun t17 w =>
 ∀ K0 : List Value → World → Prop, (∀ t21, ∀ w, (∀ g : Env,
 ∀ K0 : List Value → World → Prop, (∀ t25, ∀ w, (∀ g : Env,
 V (bi .geq 5 t15 (.int .u8 65)) w fun t27 w =>
 ∀ K0 : List Value → World → Prop, (∀ t31, ∀ w, (∀ g : Env,
 ∀ K0 : List Value → World → Prop, (∀ t35, ∀ w, (∀ g : Env,
 ∀ K0 : List Value → World → Prop, (∀ t39, ∀ w, (∀ g : Env,
 ∀ K0 : List Value → World → Prop, (∀ t43, ∀ w, (∀ g : Env,
 V (un .not t25) w fun t45 w =>
 ∀ K0 : List Value → World → Prop, (∀ t49, ∀ w, (∀ g : Env,
 ∀ K0 : List Value → World → Prop, (∀ t56, ∀ w, (∀ g : Env,
 CondW t56
 (R (.bool false) w)
 (V (bi .add 3 t3 (.int .i64 1)) w fun t12 w =>
 I0 [t12] w ∧ M0 [t12] w < m0)) → K0 [t56] w) →
 CondW t49
 (K0 [(.bool true)] w)
 (V (eq .eql 3 (.tmp 51) (.const (.int .i64 0)) t3 (.int .i64 0)) w fun t52 w =>
 ∀ K1 : List Value → World → Prop, (∀ t55, ∀ w, (∀ g : Env,
 K0 [t55] w) → K1 [t55] w) →
 CondW t52
 (K1 [t25] w)
 (K1 [(.bool false)] w))) → K0 [t49] w) →
 CondW t45
 (V (un .not t43) w fun t48 w =>
 K0 [t48] w)
 (K0 [(.bool false)] w)) → K0 [t43] w) →
 CondW t39
 (K0 [(.bool true)] w)
 (V (eq .eql 5 (.tmp 41) (.const (.int .u8 63)) t15 (.int .u8 63)) w fun t42 w =>
 K0 [t42] w)) → K0 [t39] w) →
 CondW t35
 (K0 [(.bool true)] w)
 (V (eq .eql 5 (.tmp 37) (.const (.int .u8 33)) t15 (.int .u8 33)) w fun t38 w =>
 K0 [t38] w)) → K0 [t35] w) →
 CondW t31
 (K0 [(.bool true)] w)
 (V (eq .eql 5 (.tmp 33) (.const (.int .u8 95)) t15 (.int .u8 95)) w fun t34 w =>
 K0 [t34] w)) → K0 [t31] w) →
 CondW t27
 (V (bi .leq 5 t15 (.int .u8 90)) w fun t30 w =>
 K0 [t30] w)
 (K0 [(.bool false)] w)) → K0 [t25] w) →
 CondW t21
 (K0 [(.bool true)] w)
 (V (eq .eql 5 (.tmp 23) (.const (.int .u8 46)) t15 (.int .u8 46)) w fun t24 w =>
 K0 [t24] w)) → K0 [t21] w) →
 CondW t17
 (V (bi .leq 5 t15 (.int .u8 57)) w fun t20 w =>
 K0 [t20] w)
 (K0 [(.bool false)] w))
 (V (Builtin.len_ #[9] 3 #[t0]) w fun t58 w =>
 V (bi .gtr 3 t58 (.int .i64 0)) w fun t59 w =>
 ∀ K0 : List Value → World → Prop, (∀ t64, ∀ w, (∀ g : Env,
 R t64 w) → K0 [t64] w) →
 CondW t59
 (V (Builtin.len_ #[9] 3 #[t0]) w fun t62 w =>
 V (bi .leq 3 t62 (.int .i64 40)) w fun t63 w =>
 K0 [t63] w)
 (K0 [(.bool false)] w))
theorem eq94 (R : Value → World → Prop) (w : World) (t0 : Value) : enterW Try.prog Try.f94 an94 [t0] w R = vc94 R w t0 := by kernel_rfl
theorem en94 {R : Value → World → Prop} {w : World} {t0 : Value} (h : vc94 R w t0) : Calls Try.prog 94 #[t0] w (retK R) :=
  calls_of_enter mixed Try.func94 (by kernel_rfl) (by rw [eq94]; exact h)

-- qanat/trap.first
def an95 : Ann := (.seq (.reg (opn 1 .done)) (.seq (.seq (.reg (opn 3 .done)) (.one (.loop [7] [8, 9, 10, 4, 11, 12, 13, 2, 14, 7] (.seq (.reg (opn 1 .done)) (.seq (.cond .leaf .leaf) (.seq (.one (.seq (.reg (opn 3 .done)) (.seq (.reg (opn 2 .done)) (.cond (.seq (.reg (opn 2 .done)) .leaf) .leaf)))) (.reg (opn 2 .done)))))))) (.seq (.reg (opn 1 .done)) .leaf)))
def vc95 (R : Value → World → Prop) (w : World) (t0 : Value) : Prop :=
 V (Builtin.len_ #[30] 3 #[t0]) w fun t6 w =>
 ∃ (I0 : List Value → World → Prop) (M0 : List Value → World → Nat), I0 [(.int .i64 0)] w ∧ ∀ g : Env, ∀ t7, ∀ w, I0 [t7] w → ∀ m0, m0 = M0 [t7] w →
 V (bi .lss 3 t7 t6) w fun t8 w =>
 CondW t8
 (V (ia 30 t0 t7) w fun t9 w =>
 V (ld 31 t9) w fun t10 w =>
 V (eq .neq 31 (.tmp 11) (.const (.int .i64 0)) t10 (.int .i64 0)) w fun t12 w =>
 CondW t12
 (R t10 w)
 (V (bi .add 3 t7 (.int .i64 1)) w fun t14 w =>
 I0 [t14] w ∧ M0 [t14] w < m0))
 (R (.int .i64 0) w)
theorem eq95 (R : Value → World → Prop) (w : World) (t0 : Value) : enterW Try.prog Try.f95 an95 [t0] w R = vc95 R w t0 := by kernel_rfl
theorem en95 {R : Value → World → Prop} {w : World} {t0 : Value} (h : vc95 R w t0) : Calls Try.prog 95 #[t0] w (retK R) :=
  calls_of_enter mixed Try.func95 (by kernel_rfl) (by rw [eq95]; exact h)

-- slices.ContainsFunc[[]int,int]
def an96 : Ann := (.seq (.reg (opn 1 .done)) (.seq (.reg (opn 5 .done)) .leaf))
def vc96 (R : Value → World → Prop) (w : World) (t0 t1 : Value) : Prop :=
 CV (.func (.func 112) #[] #[]) #[t0, t1] w fun t7 w =>
 V (bi .geq 3 t7 (.int .i64 0)) w fun t8 w =>
 R t8 w
theorem eq96 (R : Value → World → Prop) (w : World) (t0 t1 : Value) : enterW Try.prog Try.f96 an96 [t0, t1] w R = vc96 R w t0 t1 := by kernel_rfl
theorem en96 {R : Value → World → Prop} {w : World} {t0 t1 : Value} (h : vc96 R w t0 t1) : Calls Try.prog 96 #[t0, t1] w (retK R) :=
  calls_of_enter mixed Try.func96 (by kernel_rfl) (by rw [eq96]; exact h)

-- qanat/trap.open$1
def an97 : Ann := (.seq (.reg (opn 1 .done)) (.seq (.reg (opn 4 .done)) .leaf))
def vc97 (R : Value → World → Prop) (w : World) (t0 : Value) : Prop :=
 CV (.func (.func 80) #[] #[]) #[t0] w fun t4 w =>
 V (un .not t4) w fun t5 w =>
 R t5 w
theorem eq97 (R : Value → World → Prop) (w : World) (t0 : Value) : enterW Try.prog Try.f97 an97 [t0] w R = vc97 R w t0 := by kernel_rfl
theorem en97 {R : Value → World → Prop} {w : World} {t0 : Value} (h : vc97 R w t0) : Calls Try.prog 97 #[t0] w (retK R) :=
  calls_of_enter mixed Try.func97 (by kernel_rfl) (by rw [eq97]; exact h)

-- qanat/trap.copied[qanat/api.TrapFrame]
def an98 : Ann := (.seq (.reg (opn 1 .done)) (.seq (.reg (opn 1 .done)) (.seq (.seq (.reg (opn 3 .done)) (.one (.loop [5, 10] [11, 12, 13, 7, 14, 15, 16, 17, 18, 19, 5, 20, 10] (.seq (.reg (opn 1 .done)) (.seq (.cond .leaf .leaf) (.seq (.one (.seq (.reg (opn 4 .done)) (.reg (opn 7 .done)))) (.reg (opn 2 .done)))))))) (.seq (.reg (opn 2 .done)) .leaf))))
def vc98 (R : Value → World → Prop) (w : World) (t0 t1 : Value) : Prop :=
 V (Builtin.len_ #[26] 3 #[t0]) w fun t9 w =>
 ∃ (I0 : List Value → World → Prop) (M0 : List Value → World → Nat), I0 [(.slice none 0 0), (.int .i64 0)] w ∧ ∀ g : Env, ∀ t5, ∀ t10, ∀ w, I0 [t5, t10] w → ∀ m0, m0 = M0 [t5, t10] w →
 V (bi .lss 3 t10 t9) w fun t11 w =>
 CondW t11
 (V (ia 26 t0 t10) w fun t12 w =>
 V (ld 63 t12) w fun t13 w =>
 V (al 63) w fun t7 w =>
 U (st 63 t7 t13) w fun w =>
 V (ld 63 t7) w fun t16 w =>
 CV t1 #[t16] w fun t17 w =>
 V (bs 26 1 #[(0, t17)]) w fun t18 w =>
 V (Builtin.append_ #[26, 26] 26 #[t5, t18]) w fun t19 w =>
 V (bi .add 3 t10 (.int .i64 1)) w fun t20 w =>
 I0 [t19, t20] w ∧ M0 [t19, t20] w < m0)
 (R t5 w)
theorem eq98 (R : Value → World → Prop) (w : World) (t0 t1 : Value) : enterW Try.prog Try.f98 an98 [t0, t1] w R = vc98 R w t0 t1 := by kernel_rfl
theorem en98 {R : Value → World → Prop} {w : World} {t0 t1 : Value} (h : vc98 R w t0 t1) : Calls Try.prog 98 #[t0, t1] w (retK R) :=
  calls_of_enter mixed Try.func98 (by kernel_rfl) (by rw [eq98]; exact h)

-- qanat/trap.frame
def an99 : Ann := (.seq (.reg (opn 2 .done)) (.seq (.draw (.take 0 (.hold 1 (.take 3 (.hold 4 (.alts (.eff 2 (.take 6 (.alts (.eff 5 (.alts (.eff 7 (.take 8 (.alts (.eff 9 .done .nil))) .nil)) .nil))) .nil))))))) (.seq (.reg (opn 2 .done)) .leaf)))
def vc99 (R : Value → World → Prop) (w : World) (t0 : Value) : Prop :=
 V (bx 63 t0) w fun t1 w =>
 V (al 63) w fun t2 w =>
 Dr w fun w =>
 PV (fa 63 t1 0) fun t3 =>
 HV (ld 58 t3) w fun t4 =>
 PV (fa 63 t1 1) fun t6 =>
 HV (ld 59 t6) w fun t7 =>
 CV (.func (.func 31) #[] #[]) #[t4] w fun t5 w =>
 RunIs (ld 59 t6) w t7 ∧ (PV (fa 63 t1 0) fun t9 =>
 CV (.func (.func 113) #[] #[]) #[t7] w fun t8 w =>
 U (st 58 t9 t5) w fun w =>
 PV (fa 63 t1 1) fun t10 =>
 U (st 59 t10 t8) w fun w =>
 V (ld 63 t1) w fun t11 w =>
 U (st 63 t2 t11) w fun w =>
 CW 63 t2 w fun t1002 => R t1002 w)
theorem eq99 (R : Value → World → Prop) (w : World) (t0 : Value) : enterW Try.prog Try.f99 an99 [t0] w R = vc99 R w t0 := by kernel_rfl
theorem en99 {R : Value → World → Prop} {w : World} {t0 : Value} (h : vc99 R w t0) : Calls Try.prog 99 #[t0] w (retK R) :=
  calls_of_enter mixed Try.func99 (by kernel_rfl) (by rw [eq99]; exact h)

-- (*qanat/trap.machine).raise$1
def an100 : Ann := (.seq (.reg (opn 1 .done)) (.seq (.reg (opn 10 .done)) .leaf))
def vc100 (R : Value → World → Prop) (w : World) (t0 t1 : Value) : Prop :=
 V (ld 116 t1) w fun t4 w =>
 NilW t4 fun t5 => V (fa 63 t5 0) w fun t6 w =>
 V (ld 58 t6) w fun t7 w =>
 V (ia 58 t7 t0) w fun t9 w =>
 V (fa 73 t9 0) w fun t10 w =>
 V (ld 3 t10) w fun t11 w =>
 V (eq .neq 3 (.tmp 11) (.const (.int .i64 0)) t11 (.int .i64 0)) w fun t12 w =>
 R t12 w
theorem eq100 (R : Value → World → Prop) (w : World) (t0 t1 : Value) : enterW Try.prog Try.f100 an100 [t0, t1] w R = vc100 R w t0 t1 := by kernel_rfl
theorem en100 {R : Value → World → Prop} {w : World} {t0 t1 : Value} (h : vc100 R w t0 t1) : Calls Try.prog 100 #[t0, t1] w (retK R) :=
  calls_of_enter mixed Try.func100 (by kernel_rfl) (by rw [eq100]; exact h)

-- (*qanat/trap.machine).signal
def an101 : Ann := (.seq (.reg (opn 1 .done)) (.seq (.reg (opn 3 .done)) (.seq (.reg (opn 13 .done)) (.seq (.reg (opn 12 .done)) (.seq (.reg (opn 7 .done)) (.seq (.reg (opn 2 .done)) .leaf))))))
def vc101 (R : Value → World → Prop) (w : World) (t0 t1 t2 : Value) : Prop :=
 V (al 39) w fun t6 w =>
 CV (.func (.func 67) #[] #[]) #[t0] w fun t10 w =>
 NilW t10 fun t12 => V (fa 63 t12 0) w fun t13 w =>
 V (ld 58 t13) w fun t14 w =>
 V (ia 58 t14 t1) w fun t16 w =>
 V (fa 73 t16 1) w fun t17 w =>
 V (ld 9 t17) w fun t18 w =>
 V (bd 39 #[(0, (.int .i64 1)), (1, t18), (2, t1), (3, t2)]) w fun t21 w =>
 V (al 39) w fun t8 w =>
 U (st 39 t8 t21) w fun w =>
 NilW t10 fun t23 => V (fa 63 t23 0) w fun t24 w =>
 V (ld 58 t24) w fun t25 w =>
 V (bd 73 #[]) w fun t28 w =>
 V (ia 58 t25 t1) w fun t29 w =>
 U (st 73 t29 t28) w fun w =>
 NilW t10 fun t30 => V (fa 63 t30 1) w fun t31 w =>
 U (st 59 t31 (.slice none 0 0)) w fun w =>
 V (bd 61 #[(0, t1), (1, (.int .i64 1)), (2, t2)]) w fun t35 w =>
 NilW t10 fun t36 => V (fa 63 t36 2) w fun t37 w =>
 U (st 61 t37 t35) w fun w =>
 V (ld 39 t8) w fun t38 w =>
 U (st 39 t6 t38) w fun w =>
 CW 39 t6 w fun t1006 => R t1006 w
theorem eq101 (R : Value → World → Prop) (w : World) (t0 t1 t2 : Value) : enterW Try.prog Try.f101 an101 [t0, t1, t2] w R = vc101 R w t0 t1 t2 := by kernel_rfl
theorem en101 {R : Value → World → Prop} {w : World} {t0 t1 t2 : Value} (h : vc101 R w t0 t1 t2) : Calls Try.prog 101 #[t0, t1, t2] w (retK R) :=
  calls_of_enter mixed Try.func101 (by kernel_rfl) (by rw [eq101]; exact h)

-- slices.ContainsFunc[[]qanat/api.Raised,qanat/api.Raised]
def an102 : Ann := (.seq (.reg (opn 1 .done)) (.seq (.reg (opn 5 .done)) .leaf))
def vc102 (R : Value → World → Prop) (w : World) (t0 t1 : Value) : Prop :=
 CV (.func (.func 114) #[] #[]) #[t0, t1] w fun t7 w =>
 V (bi .geq 3 t7 (.int .i64 0)) w fun t8 w =>
 R t8 w
theorem eq102 (R : Value → World → Prop) (w : World) (t0 t1 : Value) : enterW Try.prog Try.f102 an102 [t0, t1] w R = vc102 R w t0 t1 := by kernel_rfl
theorem en102 {R : Value → World → Prop} {w : World} {t0 t1 : Value} (h : vc102 R w t0 t1) : Calls Try.prog 102 #[t0, t1] w (retK R) :=
  calls_of_enter mixed Try.func102 (by kernel_rfl) (by rw [eq102]; exact h)

-- (*qanat/trap.machine).raise$2
def an103 : Ann := (.seq (.reg (opn 2 .done)) (.seq (.reg (opn 5 .done)) .leaf))
def vc103 (R : Value → World → Prop) (w : World) (t0 t1 : Value) : Prop :=
 V (bx 70 t0) w fun t2 w =>
 V (fa 70 t2 0) w fun t4 w =>
 V (ld 3 t4) w fun t5 w =>
 V (ld 3 t1) w fun t6 w =>
 V (eq .eql 3 (.tmp 5) (.tmp 6) t5 t6) w fun t7 w =>
 R t7 w
theorem eq103 (R : Value → World → Prop) (w : World) (t0 t1 : Value) : enterW Try.prog Try.f103 an103 [t0, t1] w R = vc103 R w t0 t1 := by kernel_rfl
theorem en103 {R : Value → World → Prop} {w : World} {t0 t1 : Value} (h : vc103 R w t0 t1) : Calls Try.prog 103 #[t0, t1] w (retK R) :=
  calls_of_enter mixed Try.func103 (by kernel_rfl) (by rw [eq103]; exact h)

-- (*qanat/trap.machine).pending
def an104 : Ann := (.seq (.reg (opn 2 .done)) (.seq (.reg (opn 2 .done)) .leaf))
def vc104 (R : Value → World → Prop) (w : World) (t0 : Value) : Prop :=
 V (bx 113 t0) w fun t1 w =>
 R (.func (.func 115) #[] #[t1]) w
theorem eq104 (R : Value → World → Prop) (w : World) (t0 : Value) : enterW Try.prog Try.f104 an104 [t0] w R = vc104 R w t0 := by kernel_rfl
theorem en104 {R : Value → World → Prop} {w : World} {t0 : Value} (h : vc104 R w t0) : Calls Try.prog 104 #[t0] w (retK R) :=
  calls_of_enter mixed Try.func104 (by kernel_rfl) (by rw [eq104]; exact h)

-- qanat/trap.words
def an105 : Ann := (.seq (.reg (opn 1 .done)) (.seq (.reg (opn 2 .done)) .leaf))
def vc105 (R : Value → World → Prop) (w : World) : Prop :=
 V (bs 131 3 #[(0, (.string ⟨#[79, 70, 70]⟩)), (1, (.string ⟨#[79, 78]⟩)), (2, (.string ⟨#[68, 69, 76, 65, 89]⟩))]) w fun t1 w =>
 R t1 w
theorem eq105 (R : Value → World → Prop) (w : World) : enterW Try.prog Try.f105 an105 [] w R = vc105 R w  := by kernel_rfl
theorem en105 {R : Value → World → Prop} {w : World} (h : vc105 R w ) : Calls Try.prog 105 #[] w (retK R) :=
  calls_of_enter mixed Try.func105 (by kernel_rfl) (by rw [eq105]; exact h)

-- qanat/qanatref10.rightInfo
def an106 : Ann := (.seq (.reg (opn 2 .done)) (.seq (.seq (.reg (opn 3 .done)) (.cond (.seq (.reg (opn 4 .done)) .leaf) .leaf)) (.seq (.reg (opn 4 .done)) (.seq (.reg (opn 2 (.join [18] [15, 16, 17, 18] (.split 14 (opn 4 .done) (opn 4 .done)) (opn 1 (.join [28] [20, 21, 22, 23, 24, 25, 26, 27, 28] (.split 19 (opn 4 (.join [27] [24, 25, 26, 27] (.split 23 (opn 4 .done) (opn 4 .done)) (opn 1 .done))) (opn 9 .done)) (opn 1 .done)))))) .leaf))))
def vc106 (R : Value → World → Prop) (w : World) (t0 : Value) : Prop :=
 V (bx 61 t0) w fun t1 w =>
 V (fa 61 t1 1) w fun t4 w =>
 V (ld 3 t4) w fun t5 w =>
 V (eq .eql 3 (.tmp 5) (.const (.int .i64 0)) t5 (.int .i64 0)) w fun t6 w =>
 CondW t6
 (V (ld 61 t1) w fun t7 w =>
 V (bd 61 #[]) w fun t8 w =>
 V (eq .eql 61 (.tmp 7) (.tmp 8) t7 t8) w fun t9 w =>
 R t9 w)
 (V (fa 61 t1 2) w fun t10 w =>
 V (ld 9 t10) w fun t11 w =>
 CV (.func (.func 62) #[] #[]) #[t11] w fun t12 w =>
 ∀ K0 : List Value → World → Prop, (∀ t18, ∀ w, (∀ g : Env,
 ∀ K0 : List Value → World → Prop, (∀ t28, ∀ w, (∀ g : Env,
 R t28 w) → K0 [t28] w) →
 CondW t18
 (V (fa 61 t1 1) w fun t20 w =>
 V (ld 3 t20) w fun t21 w =>
 V (eq .eql 3 (.tmp 21) (.const (.int .i64 1)) t21 (.int .i64 1)) w fun t22 w =>
 ∀ K1 : List Value → World → Prop, (∀ t27, ∀ w, (∀ g : Env,
 K0 [t27] w) → K1 [t27] w) →
 CondW t22
 (K1 [(.bool true)] w)
 (V (fa 61 t1 1) w fun t24 w =>
 V (ld 3 t24) w fun t25 w =>
 V (eq .eql 3 (.tmp 25) (.const (.int .i64 2)) t25 (.int .i64 2)) w fun t26 w =>
 K1 [t26] w))
 (K0 [(.bool false)] w)) → K0 [t18] w) →
 CondW t12
 (V (fa 61 t1 0) w fun t15 w =>
 V (ld 3 t15) w fun t16 w =>
 CV (.func (.func 82) #[] #[]) #[t16] w fun t17 w =>
 K0 [t17] w)
 (K0 [(.bool false)] w))
theorem eq106 (R : Value → World → Prop) (w : World) (t0 : Value) : enterW Try.prog Try.f106 an106 [t0] w R = vc106 R w t0 := by kernel_rfl
theorem en106 {R : Value → World → Prop} {w : World} {t0 : Value} (h : vc106 R w t0) : Calls Try.prog 106 #[t0] w (retK R) :=
  calls_of_enter mixed Try.func106 (by kernel_rfl) (by rw [eq106]; exact h)

-- qanat/qanatref10.rightTrap
def an107 : Ann := (.seq (.reg (opn 2 .done)) (.seq (.seq (.reg (opn 3 .done)) (.cond (.seq (.reg (opn 4 .done)) .leaf) .leaf)) (.seq (.reg (opn 4 .done)) (.seq (.reg (opn 2 (.join [34] [17, 18, 19, 20, 21, 22, 23, 24, 25, 26, 27, 28, 29, 30, 31, 32, 33, 34] (.split 16 (opn 4 (.join [24] [21, 22, 23, 24] (.split 20 (opn 4 .done) (opn 4 .done)) (opn 1 (.join [33] [26, 27, 28, 29, 30, 31, 32, 33] (.split 25 (opn 8 .done) (opn 4 (.join [32] [30, 31, 32] (.split 29 (opn 3 .done) (opn 3 .done)) (opn 1 .done)))) (opn 1 .done))))) (opn 18 .done)) (opn 1 .done)))) .leaf))))
def vc107 (R : Value → World → Prop) (w : World) (t0 t1 : Value) : Prop :=
 V (bx 73 t0) w fun t2 w =>
 V (fa 73 t2 0) w fun t6 w =>
 V (ld 3 t6) w fun t7 w =>
 V (eq .eql 3 (.tmp 7) (.const (.int .i64 0)) t7 (.int .i64 0)) w fun t8 w =>
 CondW t8
 (V (ld 73 t2) w fun t9 w =>
 V (bd 73 #[]) w fun t10 w =>
 V (eq .eql 73 (.tmp 9) (.tmp 10) t9 t10) w fun t11 w =>
 R t11 w)
 (V (fa 73 t2 1) w fun t12 w =>
 V (ld 9 t12) w fun t13 w =>
 CV (.func (.func 61) #[] #[]) #[t13] w fun t14 w =>
 ∀ K0 : List Value → World → Prop, (∀ t34, ∀ w, (∀ g : Env,
 R t34 w) → K0 [t34] w) →
 CondW t14
 (V (fa 73 t2 0) w fun t17 w =>
 V (ld 3 t17) w fun t18 w =>
 V (eq .eql 3 (.tmp 18) (.const (.int .i64 1)) t18 (.int .i64 1)) w fun t19 w =>
 ∀ K1 : List Value → World → Prop, (∀ t24, ∀ w, (∀ g : Env,
 ∀ K1 : List Value → World → Prop, (∀ t33, ∀ w, (∀ g : Env,
 K0 [t33] w) → K1 [t33] w) →
 CondW t24
 (K1 [(.bool true)] w)
 (V (fa 73 t2 0) w fun t26 w =>
 V (ld 3 t26) w fun t27 w =>
 V (eq .eql 3 (.tmp 27) (.const (.int .i64 2)) t27 (.int .i64 2)) w fun t28 w =>
 ∀ K2 : List Value → World → Prop, (∀ t32, ∀ w, (∀ g : Env,
 K1 [t32] w) → K2 [t32] w) →
 CondW t28
 (CV (.func (.func 60) #[] #[]) #[t1] w fun t31 w =>
 K2 [t31] w)
 (K2 [(.bool false)] w))) → K1 [t24] w) →
 CondW t19
 (V (fa 73 t2 2) w fun t21 w =>
 V (ld 4 t21) w fun t22 w =>
 V (un .not t22) w fun t23 w =>
 K1 [t23] w)
 (K1 [(.bool false)] w))
 (K0 [(.bool false)] w))
theorem eq107 (R : Value → World → Prop) (w : World) (t0 t1 : Value) : enterW Try.prog Try.f107 an107 [t0, t1] w R = vc107 R w t0 t1 := by kernel_rfl
theorem en107 {R : Value → World → Prop} {w : World} {t0 t1 : Value} (h : vc107 R w t0 t1) : Calls Try.prog 107 #[t0, t1] w (retK R) :=
  calls_of_enter mixed Try.func107 (by kernel_rfl) (by rw [eq107]; exact h)

-- qanat/trap.moded
def an108 : Ann := (.seq (.reg (opn 1 .done)) (.seq (.reg (opn 3 (.join [10] [8, 9, 10] (.split 7 (opn 3 .done) (opn 3 .done)) (opn 1 (.join [19] [12, 13, 14, 15, 16, 17, 18, 19] (.split 11 (opn 8 .done) (opn 3 (.join [18] [15, 16, 17, 18] (.split 14 (opn 4 .done) (opn 4 .done)) (opn 1 .done)))) (opn 1 .done)))))) .leaf))
def vc108 (R : Value → World → Prop) (w : World) (t0 t1 : Value) : Prop :=
 V (eq .eql 3 (.tmp 5) (.const (.int .i64 0)) t1 (.int .i64 0)) w fun t6 w =>
 ∀ K0 : List Value → World → Prop, (∀ t10, ∀ w, (∀ g : Env,
 ∀ K0 : List Value → World → Prop, (∀ t19, ∀ w, (∀ g : Env,
 R t19 w) → K0 [t19] w) →
 CondW t10
 (K0 [(.bool true)] w)
 (V (eq .eql 3 (.tmp 12) (.const (.int .i64 2)) t1 (.int .i64 2)) w fun t13 w =>
 ∀ K1 : List Value → World → Prop, (∀ t18, ∀ w, (∀ g : Env,
 K0 [t18] w) → K1 [t18] w) →
 CondW t13
 (CV (.func (.func 91) #[] #[]) #[t0] w fun t16 w =>
 V (un .not t16) w fun t17 w =>
 K1 [t17] w)
 (K1 [(.bool false)] w))) → K0 [t10] w) →
 CondW t6
 (K0 [(.bool true)] w)
 (V (eq .eql 3 (.tmp 8) (.const (.int .i64 1)) t1 (.int .i64 1)) w fun t9 w =>
 K0 [t9] w)
theorem eq108 (R : Value → World → Prop) (w : World) (t0 t1 : Value) : enterW Try.prog Try.f108 an108 [t0, t1] w R = vc108 R w t0 t1 := by kernel_rfl
theorem en108 {R : Value → World → Prop} {w : World} {t0 t1 : Value} (h : vc108 R w t0 t1) : Calls Try.prog 108 #[t0, t1] w (retK R) :=
  calls_of_enter mixed Try.func108 (by kernel_rfl) (by rw [eq108]; exact h)

-- qanat/trap.label
def an109 : Ann := (.seq (.reg (opn 1 .done)) (.seq (.reg (opn 1 .done)) (.seq (.reg (opn 3 (.join [10] [7, 8, 9, 10] (.split 6 (opn 4 .done) (opn 4 .done)) (opn 1 (.join [16] [12, 13, 14, 15, 16] (.split 11 (opn 5 .done) (opn 5 .done)) (opn 1 (.join [26] [18, 19, 20, 21, 22, 23, 24, 25, 26] (.split 17 (opn 4 (.join [25] [22, 23, 24, 25] (.split 21 (opn 4 .done) (opn 4 .done)) (opn 1 .done))) (opn 9 .done)) (opn 1 .done)))))))) .leaf)))
def vc109 (R : Value → World → Prop) (w : World) (t0 : Value) : Prop :=
 V (eq .neq 9 (.tmp 4) (.const (.string ⟨#[]⟩)) t0 (.string ⟨#[]⟩)) w fun t5 w =>
 ∀ K0 : List Value → World → Prop, (∀ t10, ∀ w, (∀ g : Env,
 ∀ K0 : List Value → World → Prop, (∀ t16, ∀ w, (∀ g : Env,
 ∀ K0 : List Value → World → Prop, (∀ t26, ∀ w, (∀ g : Env,
 R t26 w) → K0 [t26] w) →
 CondW t16
 (V (ix 9 t0 (.int .i64 0)) w fun t19 w =>
 V (bi .lss 5 t19 (.int .u8 48)) w fun t20 w =>
 ∀ K1 : List Value → World → Prop, (∀ t25, ∀ w, (∀ g : Env,
 K0 [t25] w) → K1 [t25] w) →
 CondW t20
 (K1 [(.bool true)] w)
 (V (ix 9 t0 (.int .i64 0)) w fun t23 w =>
 V (bi .gtr 5 t23 (.int .u8 57)) w fun t24 w =>
 K1 [t24] w))
 (K0 [(.bool false)] w)) → K0 [t16] w) →
 CondW t10
 (CV (.func (.func 110) #[] #[]) #[t0, (.func (.func 116) #[] #[])] w fun t14 w =>
 V (bi .lss 3 t14 (.int .i64 0)) w fun t15 w =>
 K0 [t15] w)
 (K0 [(.bool false)] w)) → K0 [t10] w) →
 CondW t5
 (V (Builtin.len_ #[9] 3 #[t0]) w fun t8 w =>
 V (bi .leq 3 t8 (.int .i64 40)) w fun t9 w =>
 K0 [t9] w)
 (K0 [(.bool false)] w)
theorem eq109 (R : Value → World → Prop) (w : World) (t0 : Value) : enterW Try.prog Try.f109 an109 [t0] w R = vc109 R w t0 := by kernel_rfl
theorem en109 {R : Value → World → Prop} {w : World} {t0 : Value} (h : vc109 R w t0) : Calls Try.prog 109 #[t0] w (retK R) :=
  calls_of_enter mixed Try.func109 (by kernel_rfl) (by rw [eq109]; exact h)

-- strings.IndexFunc
def an110 : Ann := (.seq (.reg (opn 1 .done)) (.seq (.reg (opn 4 .done)) .leaf))
def vc110 (R : Value → World → Prop) (w : World) (t0 t1 : Value) : Prop :=
 CV (.func (.func 118) #[] #[]) #[t0, t1, (.bool true)] w fun t7 w =>
 R t7 w
theorem eq110 (R : Value → World → Prop) (w : World) (t0 t1 : Value) : enterW Try.prog Try.f110 an110 [t0, t1] w R = vc110 R w t0 t1 := by kernel_rfl
theorem en110 {R : Value → World → Prop} {w : World} {t0 t1 : Value} (h : vc110 R w t0 t1) : Calls Try.prog 110 #[t0, t1] w (retK R) :=
  calls_of_enter mixed Try.func110 (by kernel_rfl) (by rw [eq110]; exact h)

-- qanat/trap.described$1
def an111 : Ann := (.seq (.reg (opn 1 .done)) (.seq (.reg (opn 3 (.join [8] [6, 7, 8] (.split 5 (opn 3 .done) (opn 3 .done)) (opn 1 .done)))) .leaf))
def vc111 (R : Value → World → Prop) (w : World) (t0 : Value) : Prop :=
 V (bi .lss 21 t0 (.int .i32 32)) w fun t4 w =>
 ∀ K0 : List Value → World → Prop, (∀ t8, ∀ w, (∀ g : Env,
 R t8 w) → K0 [t8] w) →
 CondW t4
 (K0 [(.bool true)] w)
 (V (bi .gtr 21 t0 (.int .i32 126)) w fun t7 w =>
 K0 [t7] w)
theorem eq111 (R : Value → World → Prop) (w : World) (t0 : Value) : enterW Try.prog Try.f111 an111 [t0] w R = vc111 R w t0 := by kernel_rfl
theorem en111 {R : Value → World → Prop} {w : World} {t0 : Value} (h : vc111 R w t0) : Calls Try.prog 111 #[t0] w (retK R) :=
  calls_of_enter mixed Try.func111 (by kernel_rfl) (by rw [eq111]; exact h)

-- slices.IndexFunc[[]int,int]
def an112 : Ann := (.seq (.reg (opn 1 .done)) (.seq (.seq (.reg (opn 3 .done)) (.one (.loop [8] [9, 10, 5, 11, 12, 13, 14, 15, 16, 17, 4, 18, 8] (.seq (.reg (opn 1 .done)) (.seq (.cond .leaf .leaf) (.seq (.one (.seq (.reg (opn 2 .done)) (.seq (.reg (opn 6 .done)) (.cond (.seq (.reg (opn 2 .done)) .leaf) .leaf)))) (.reg (opn 2 .done)))))))) (.seq (.reg (opn 1 .done)) .leaf)))
def vc112 (R : Value → World → Prop) (w : World) (t0 t1 : Value) : Prop :=
 V (Builtin.len_ #[68] 3 #[t0]) w fun t7 w =>
 ∃ (I0 : List Value → World → Prop) (M0 : List Value → World → Nat), I0 [(.int .i64 0)] w ∧ ∀ g : Env, ∀ t8, ∀ w, I0 [t8] w → ∀ m0, m0 = M0 [t8] w →
 V (bi .lss 3 t8 t7) w fun t9 w =>
 CondW t9
 (V (ia 68 t0 t8) w fun t14 w =>
 V (ld 3 t14) w fun t15 w =>
 CV t1 #[t15] w fun t16 w =>
 CondW t16
 (R t8 w)
 (V (bi .add 3 t8 (.int .i64 1)) w fun t18 w =>
 I0 [t18] w ∧ M0 [t18] w < m0))
 (R (.int .i64 (-1)) w)
theorem eq112 (R : Value → World → Prop) (w : World) (t0 t1 : Value) : enterW Try.prog Try.f112 an112 [t0, t1] w R = vc112 R w t0 t1 := by kernel_rfl
theorem en112 {R : Value → World → Prop} {w : World} {t0 t1 : Value} (h : vc112 R w t0 t1) : Calls Try.prog 112 #[t0, t1] w (retK R) :=
  calls_of_enter mixed Try.func112 (by kernel_rfl) (by rw [eq112]; exact h)

-- slices.Clone[[]qanat/api.Raised,qanat/api.Raised]
def an113 : Ann := (.seq (.reg (opn 1 .done)) (.seq (.seq (.reg (opn 2 .done)) (.cond (.seq (.reg (opn 1 .done)) .leaf) .leaf)) (.seq (.reg (opn 4 .done)) .leaf)))
def vc113 (R : Value → World → Prop) (w : World) (t0 : Value) : Prop :=
 V (eq .eql 59 (.tmp 3) (.const (.slice none 0 0)) t0 (.slice none 0 0)) w fun t4 w =>
 CondW t4
 (R (.slice none 0 0) w)
 (V (bs 59 0 #[]) w fun t5 w =>
 V (Builtin.append_ #[59, 59] 59 #[t5, t0]) w fun t7 w =>
 R t7 w)
theorem eq113 (R : Value → World → Prop) (w : World) (t0 : Value) : enterW Try.prog Try.f113 an113 [t0] w R = vc113 R w t0 := by kernel_rfl
theorem en113 {R : Value → World → Prop} {w : World} {t0 : Value} (h : vc113 R w t0) : Calls Try.prog 113 #[t0] w (retK R) :=
  calls_of_enter mixed Try.func113 (by kernel_rfl) (by rw [eq113]; exact h)

-- slices.IndexFunc[[]qanat/api.Raised,qanat/api.Raised]
def an114 : Ann := (.seq (.reg (opn 1 .done)) (.seq (.seq (.reg (opn 3 .done)) (.one (.loop [8] [9, 10, 5, 11, 12, 13, 14, 15, 16, 17, 4, 18, 8] (.seq (.reg (opn 1 .done)) (.seq (.cond .leaf .leaf) (.seq (.one (.seq (.reg (opn 2 .done)) (.seq (.reg (opn 6 .done)) (.cond (.seq (.reg (opn 2 .done)) .leaf) .leaf)))) (.reg (opn 2 .done)))))))) (.seq (.reg (opn 1 .done)) .leaf)))
def vc114 (R : Value → World → Prop) (w : World) (t0 t1 : Value) : Prop :=
 V (Builtin.len_ #[59] 3 #[t0]) w fun t7 w =>
 ∃ (I0 : List Value → World → Prop) (M0 : List Value → World → Nat), I0 [(.int .i64 0)] w ∧ ∀ g : Env, ∀ t8, ∀ w, I0 [t8] w → ∀ m0, m0 = M0 [t8] w →
 V (bi .lss 3 t8 t7) w fun t9 w =>
 CondW t9
 (V (ia 59 t0 t8) w fun t14 w =>
 V (ld 70 t14) w fun t15 w =>
 CV t1 #[t15] w fun t16 w =>
 CondW t16
 (R t8 w)
 (V (bi .add 3 t8 (.int .i64 1)) w fun t18 w =>
 I0 [t18] w ∧ M0 [t18] w < m0))
 (R (.int .i64 (-1)) w)
theorem eq114 (R : Value → World → Prop) (w : World) (t0 t1 : Value) : enterW Try.prog Try.f114 an114 [t0, t1] w R = vc114 R w t0 t1 := by kernel_rfl
theorem en114 {R : Value → World → Prop} {w : World} {t0 t1 : Value} (h : vc114 R w t0 t1) : Calls Try.prog 114 #[t0, t1] w (retK R) :=
  calls_of_enter mixed Try.func114 (by kernel_rfl) (by rw [eq114]; exact h)

-- (*qanat/trap.machine).pending$1
def an115 : Ann := (.one (.loop [] [5, 6, 7, 8, 9, 10, 11, 12, 13, 3, 14, 15, 16, 17, 18, 19, 4, 20, 21, 22, 23, 24, 25, 26, 27, 28, 29, 30, 31] (.seq (.seq (.reg (opn 7 .done)) (.cond .leaf .leaf)) (.one (.seq (.reg (opn 3 .done)) (.seq (.reg (opn 8 .done)) (.seq (.reg (opn 9 .done)) (.seq (.reg (opn 4 .done)) (.cond .leaf .leaf)))))))))
def vc115 (R : Value → World → Prop) (w : World) (t0 t1 : Value) : Prop :=
 ∃ (I0 : List Value → World → Prop) (M0 : List Value → World → Nat), I0 [] w ∧ ∀ g : Env, ∀ w, I0 [] w → ∀ m0, m0 = M0 [] w →
 V (ld 113 t1) w fun t5 w =>
 CV (.func (.func 67) #[] #[]) #[t5] w fun t6 w =>
 NilW t6 fun t7 => V (fa 63 t7 1) w fun t8 w =>
 V (ld 59 t8) w fun t9 w =>
 V (Builtin.len_ #[59] 3 #[t9]) w fun t10 w =>
 V (bi .gtr 3 t10 (.int .i64 0)) w fun t11 w =>
 CondW t11
 (V (ld 113 t1) w fun t12 w =>
 CV (.func (.func 67) #[] #[]) #[t12] w fun t13 w =>
 NilW t13 fun t15 => V (fa 63 t15 1) w fun t16 w =>
 V (ld 59 t16) w fun t17 w =>
 V (ia 59 t17 (.int .i64 0)) w fun t18 w =>
 V (ld 70 t18) w fun t19 w =>
 V (al 70) w fun t4 w =>
 U (st 70 t4 t19) w fun w =>
 NilW t13 fun t22 => V (fa 63 t22 1) w fun t23 w =>
 V (ld 59 t23) w fun t24 w =>
 V (sl 59 t24 (some (.int .i64 1)) none none) w fun t25 w =>
 NilW t13 fun t26 => V (fa 63 t26 1) w fun t27 w =>
 U (st 59 t27 t25) w fun w =>
 V (ld 70 t4) w fun t29 w =>
 CV t0 #[t29] w fun t30 w =>
 V (un .not t30) w fun t31 w =>
 CondW t31
 (R (.tuple #[]) w)
 (I0 [] w ∧ M0 [] w < m0))
 (R (.tuple #[]) w)
theorem eq115 (R : Value → World → Prop) (w : World) (t0 t1 : Value) : enterW Try.prog Try.f115 an115 [t0, t1] w R = vc115 R w t0 t1 := by kernel_rfl
theorem en115 {R : Value → World → Prop} {w : World} {t0 t1 : Value} (h : vc115 R w t0 t1) : Calls Try.prog 115 #[t0, t1] w (retK R) :=
  calls_of_enter mixed Try.func115 (by kernel_rfl) (by rw [eq115]; exact h)

-- qanat/trap.label$1
def an116 : Ann := (.seq (.reg (opn 1 .done)) (.seq (.reg (opn 3 (.join [8] [6, 7, 8] (.split 5 (opn 3 .done) (opn 3 .done)) (opn 1 (.join [16] [10, 11, 12, 13, 14, 15, 16] (.split 9 (opn 3 (.join [15] [13, 14, 15] (.split 12 (opn 3 .done) (opn 3 .done)) (opn 1 .done))) (opn 7 .done)) (opn 1 (.join [21] [18, 19, 20, 21] (.split 17 (opn 4 .done) (opn 4 .done)) (opn 1 .done)))))))) .leaf))
def vc116 (R : Value → World → Prop) (w : World) (t0 : Value) : Prop :=
 V (bi .lss 21 t0 (.int .i32 65)) w fun t4 w =>
 ∀ K0 : List Value → World → Prop, (∀ t8, ∀ w, (∀ g : Env,
 ∀ K0 : List Value → World → Prop, (∀ t16, ∀ w, (∀ g : Env,
 ∀ K0 : List Value → World → Prop, (∀ t21, ∀ w, (∀ g : Env,
 R t21 w) → K0 [t21] w) →
 CondW t16
 (CV (.func (.func 117) #[] #[]) #[(.string ⟨#[95, 33, 63]⟩), t0] w fun t19 w =>
 V (un .not t19) w fun t20 w =>
 K0 [t20] w)
 (K0 [(.bool false)] w)) → K0 [t16] w) →
 CondW t8
 (V (bi .lss 21 t0 (.int .i32 48)) w fun t11 w =>
 ∀ K1 : List Value → World → Prop, (∀ t15, ∀ w, (∀ g : Env,
 K0 [t15] w) → K1 [t15] w) →
 CondW t11
 (K1 [(.bool true)] w)
 (V (bi .gtr 21 t0 (.int .i32 57)) w fun t14 w =>
 K1 [t14] w))
 (K0 [(.bool false)] w)) → K0 [t8] w) →
 CondW t4
 (K0 [(.bool true)] w)
 (V (bi .gtr 21 t0 (.int .i32 90)) w fun t7 w =>
 K0 [t7] w)
theorem eq116 (R : Value → World → Prop) (w : World) (t0 : Value) : enterW Try.prog Try.f116 an116 [t0] w R = vc116 R w t0 := by kernel_rfl
theorem en116 {R : Value → World → Prop} {w : World} {t0 : Value} (h : vc116 R w t0) : Calls Try.prog 116 #[t0] w (retK R) :=
  calls_of_enter mixed Try.func116 (by kernel_rfl) (by rw [eq116]; exact h)

-- strings.ContainsRune
def an117 : Ann := (.seq (.reg (opn 1 .done)) (.seq (.reg (opn 5 .done)) .leaf))
def vc117 (R : Value → World → Prop) (w : World) (t0 t1 : Value) : Prop :=
 CV (.func (.func 119) #[] #[]) #[t0, t1] w fun t7 w =>
 V (bi .geq 3 t7 (.int .i64 0)) w fun t8 w =>
 R t8 w
theorem eq117 (R : Value → World → Prop) (w : World) (t0 t1 : Value) : enterW Try.prog Try.f117 an117 [t0, t1] w R = vc117 R w t0 t1 := by kernel_rfl
theorem en117 {R : Value → World → Prop} {w : World} {t0 t1 : Value} (h : vc117 R w t0 t1) : Calls Try.prog 117 #[t0, t1] w (retK R) :=
  calls_of_enter mixed Try.func117 (by kernel_rfl) (by rw [eq117]; exact h)

-- strings.indexFunc
def an118 : Ann := (.seq (.reg (opn 1 .done)) (.seq (.seq (.reg (opn 2 .done)) (.one (.loop [] [11, 12, 13, 14, 7, 8, 15, 16, 17, 18, 19, 20, 6] (.seq (.reg (opn 2 .done)) (.seq (.cond .leaf .leaf) (.one (.seq (.reg (opn 4 .done)) (.seq (.reg (opn 5 .done)) (.cond (.seq (.reg (opn 2 .done)) .leaf) .leaf))))))))) (.seq (.reg (opn 1 .done)) .leaf)))
def vc118 (R : Value → World → Prop) (w : World) (t0 t1 t2 : Value) : Prop :=
 V (rg 9 t0) w fun t10 w =>
 ∃ (I0 : List Value → World → Prop) (M0 : List Value → World → Nat), I0 [] w ∧ ∀ g : Env, ∀ w, I0 [] w → ∀ m0, m0 = M0 [] w →
 V (nx t10 true 0) w fun t11 w =>
 V (ex t11 0) w fun t12 w =>
 CondW t12
 (V (ex t11 1) w fun t13 w =>
 V (ex t11 2) w fun t14 w =>
 CV t1 #[t14] w fun t17 w =>
 V (eq .eql 4 (.tmp 17) (.tmp 18) t17 t2) w fun t19 w =>
 CondW t19
 (R t13 w)
 (I0 [] w ∧ M0 [] w < m0))
 (R (.int .i64 (-1)) w)
theorem eq118 (R : Value → World → Prop) (w : World) (t0 t1 t2 : Value) : enterW Try.prog Try.f118 an118 [t0, t1, t2] w R = vc118 R w t0 t1 t2 := by kernel_rfl
theorem en118 {R : Value → World → Prop} {w : World} {t0 t1 t2 : Value} (h : vc118 R w t0 t1 t2) : Calls Try.prog 118 #[t0, t1, t2] w (retK R) :=
  calls_of_enter mixed Try.func118 (by kernel_rfl) (by rw [eq118]; exact h)

-- strings.IndexRune
def an119 : Ann := (.seq (.reg (opn 1 .done)) (.one (.seq (.reg (opn 3 (.join [166] [164, 165, 166] (.split 163 (opn 3 .done) (opn 3 .done)) (opn 1 .done)))) (.cond (.seq (.reg (opn 5 .done)) .leaf) (.seq (.reg (opn 3 .done)) (.cond (.seq (.seq (.reg (opn 2 .done)) (.one (.loop [] [176, 177, 178, 179, 5, 6, 180, 181, 182, 4] (.seq (.reg (opn 2 .done)) (.seq (.cond .leaf .leaf) (.one (.seq (.reg (opn 4 .done)) (.seq (.reg (opn 2 .done)) (.cond (.seq (.reg (opn 2 .done)) .leaf) .leaf))))))))) (.seq (.reg (opn 1 .done)) .leaf)) (.seq (.reg (opn 4 .done)) (.cond (.seq (.reg (opn 1 .done)) .leaf) (.one (.seq (.reg (opn 3 .done)) (.seq (.reg (opn 4 .done)) (.seq (.reg (opn 2 .done)) (.seq (.reg (opn 1 .done)) (.seq (.one (.loop [9] [23, 24, 25, 26, 27, 28, 29, 30, 31, 32, 33, 34, 35, 36, 37, 38, 39, 40, 41, 11, 42, 43, 4, 44, 45, 46, 47, 9, 12, 48, 49, 50, 51, 54, 55, 56, 57, 58, 59, 60, 61, 62, 63, 64, 52, 53, 65, 66, 67, 68, 69, 10, 70, 71, 72, 73, 74, 75, 76, 77, 78, 79, 80, 81, 82, 83, 84, 85, 86, 87, 88, 89, 90, 91, 92, 93, 94, 95, 96, 97, 98] (.seq (.seq (.reg (opn 4 .done)) (.cond .leaf .leaf)) (.one (.one (.seqJ [9] [27, 28, 29, 30, 31, 32, 33, 34, 35, 36, 37, 38, 39, 40, 41, 11, 42, 43, 4, 44, 45, 46, 47, 9] (.seq (.draw (.take 0 (.take 1 (.take 2 (.take 3 (.take 4 (.take 5 (.take 6 .done)))))))) (.cond (.seq (.draw (.take 0 (.take 1 (.take 2 (.take 3 (.take 4 (.take 5 (.take 6 (.alts (.eff 7 (.take 8 .done) .nil)))))))))) (.seq (.seq (.reg (opn 2 .done)) (.cond (.seq (.reg (opn 1 .done)) .leaf) .leaf)) (.reg (opn 5 .done)))) .leaf)) (.seq (.seq (.reg (opn 1 .done)) (.one (.loop [12] [48, 49, 50, 51, 54, 55, 56, 57, 58, 59, 60, 61, 62, 63, 64, 52, 53, 12] (.seq (.seq (.reg (opn 4 .done)) (.cond .leaf .leaf)) (.seq (.one (.seq (.draw (.take 0 (.take 1 (.take 2 (.take 3 (.take 4 (.take 5 (.take 6 (.take 7 (.take 8 (.take 9 (.take 10 .done)))))))))))) (.cond .leaf .leaf))) (.reg (opn 3 .done))))))) (.seq (.seq (.reg (opn 4 .done)) .leaf) (.seq .leaf (.seq (.reg (opn 3 .done)) (.seq (.reg (opn 3 .done)) (.seq (.reg (opn 7 (.join [83] [79, 80, 81, 82, 83] (.split 78 (opn 5 .done) (opn 5 .done)) (opn 1 (.join [98] [85, 86, 87, 88, 89, 90, 91, 92, 93, 94, 95, 96, 97, 98] (.split 84 (opn 14 .done) (opn 14 .done)) .done))))) (.cond .leaf .leaf))))))))))))) (.seq (.seq (.reg (opn 1 .done)) .leaf) (.seq .leaf (.seqJ [] [99, 100, 101, 102, 103, 104, 105, 106, 13, 107, 108, 109, 110, 111, 112, 113, 4, 114, 115, 116, 14, 117, 118, 119, 120, 15, 121, 122, 123, 124, 127, 128, 129, 130, 131, 132, 133, 134, 135, 136, 137, 138, 139, 16, 140, 141, 142, 143, 146, 147, 148, 149, 150, 151, 152, 153, 154, 155, 156, 144, 145, 157, 158, 159, 125, 126, 9] (.cond (.seq (.reg (opn 9 .done)) (.seq (.reg (opn 2 .done)) (.cond (.seq (.reg (opn 6 .done)) .leaf) .leaf))) (.one (.seq (.reg (opn 4 .done)) (.seq (.reg (opn 5 .done)) (.seq .leaf (.one (.loop [9] [121, 122, 123, 124, 127, 128, 129, 130, 131, 132, 133, 134, 135, 136, 137, 138, 139, 16, 140, 141, 142, 143, 146, 147, 148, 149, 150, 151, 152, 153, 154, 155, 156, 144, 145, 157, 158, 159, 4, 125, 126, 9] (.seq (.seq (.reg (opn 4 .done)) (.cond .leaf .leaf)) (.seqJ [] [127, 128, 129, 130, 131, 132, 133, 134, 135, 136, 137, 138, 139, 16, 140, 141, 142, 143, 146, 147, 148, 149, 150, 151, 152, 153, 154, 155, 156, 144, 145, 157, 158, 159, 4] (.one (.seq (.reg (opn 6 (.join [139] [133, 134, 135, 136, 137, 138, 139] (.split 132 (opn 7 .done) (opn 7 .done)) .done))) (.cond (.seq (.seq (.reg (opn 1 .done)) (.one (.loop [16] [140, 141, 142, 143, 146, 147, 148, 149, 150, 151, 152, 153, 154, 155, 156, 144, 145, 16] (.seq (.seq (.reg (opn 4 .done)) (.cond .leaf .leaf)) (.seq (.one (.seq (.draw (.take 0 (.take 1 (.take 2 (.take 3 (.take 4 (.take 5 (.take 6 (.take 7 (.take 8 (.take 9 (.take 10 .done)))))))))))) (.cond .leaf .leaf))) (.reg (opn 3 .done))))))) (.seq (.reg (opn 4 .done)) .leaf)) .leaf))) (.reg (opn 3 .done))))))))))) (.seq (.reg (opn 1 .done)) .leaf))))))))))))))))))
def vc119 (R : Value → World → Prop) (w : World) (t0 t1 : Value) : Prop :=
 V (bi .leq 21 (.int .i32 0) t1) w fun t162 w =>
 ∀ K0 : List Value → World → Prop, (∀ t166, ∀ w, (∀ g : Env,
 CondW t166
 (V (cv 21 5 t1) w fun t169 w =>
 CV (.func (.func 120) #[] #[]) #[t0, t169] w fun t170 w =>
 R t170 w)
 (V (eq .eql 21 (.tmp 172) (.const (.int .i32 65533)) t1 (.int .i32 65533)) w fun t173 w =>
 CondW t173
 (V (rg 9 t0) w fun t175 w =>
 ∃ (I0 : List Value → World → Prop) (M0 : List Value → World → Nat), I0 [] w ∧ ∀ g : Env, ∀ w, I0 [] w → ∀ m0, m0 = M0 [] w →
 V (nx t175 true 0) w fun t176 w =>
 V (ex t176 0) w fun t177 w =>
 CondW t177
 (V (ex t176 1) w fun t178 w =>
 V (ex t176 2) w fun t179 w =>
 V (eq .eql 21 (.tmp 180) (.const (.int .i32 65533)) t179 (.int .i32 65533)) w fun t181 w =>
 CondW t181
 (R t178 w)
 (I0 [] w ∧ M0 [] w < m0))
 (R (.int .i64 (-1)) w))
 (CV (.func (.func 121) #[] #[]) #[t1] w fun t185 w =>
 V (un .not t185) w fun t186 w =>
 CondW t186
 (R (.int .i64 (-1)) w)
 (V (cv 21 9 t1) w fun t18 w =>
 V (Builtin.len_ #[9] 3 #[t18]) w fun t20 w =>
 V (bi .sub 3 t20 (.int .i64 1)) w fun t21 w =>
 ∃ (I0 : List Value → World → Prop) (M0 : List Value → World → Nat), I0 [t21] w ∧ ∀ g : Env, ∀ t9, ∀ w, I0 [t9] w → ∀ m0, m0 = M0 [t9] w →
 V (Builtin.len_ #[9] 3 #[t0]) w fun t25 w =>
 V (bi .lss 3 t9 t25) w fun t26 w =>
 CondW t26
 (∀ K0 : List Value → World → Prop, (∀ t9a, ∀ w, (∀ g : Env,
 ∃ (I1 : List Value → World → Prop) (M1 : List Value → World → Nat), I1 [(.int .i64 1)] w ∧ ∀ g : Env, ∀ t12, ∀ w, I1 [t12] w → ∀ m1, m1 = M1 [t12] w →
 V (Builtin.len_ #[9] 3 #[t18]) w fun t50 w =>
 V (bi .lss 3 t12 t50) w fun t51 w =>
 CondW t51
 (Dr w fun w =>
 PV (bi .sub 3 t9a t12) fun t57 =>
 PV (ix 9 t0 t57) fun t58 =>
 PV (bi .sub 3 t21 t12) fun t62 =>
 PV (ix 9 t18 t62) fun t63 =>
 PV (eq .neq 5 (.tmp 58) (.tmp 63) t58 t63) fun t64 =>
 CondW t64
 (False)
 (V (bi .add 3 t12 (.int .i64 1)) w fun t53 w =>
 I1 [t53] w ∧ M1 [t53] w < m1))
 (V (bi .sub 3 t9a t21) w fun t67 w =>
 R t67 w)) → K0 [t9a] w) →
 Dr w fun w =>
 PV (ix 9 t0 t9) fun t29 =>
 PV (ix 9 t18 t21) fun t32 =>
 PV (eq .neq 5 (.tmp 29) (.tmp 32) t29 t32) fun t33 =>
 CondW t33
 (Dr w fun w =>
 PV (bi .add 3 t9 (.int .i64 1)) fun t36 =>
 PV (sl 9 t0 (some t36) none none) fun t37 =>
 PV (ix 9 t18 t21) fun t40 =>
 CV (.func (.func 120) #[] #[]) #[t37, t40] w fun t41 w =>
 V (bi .lss 3 t41 (.int .i64 0)) w fun t43 w =>
 CondW t43
 (R (.int .i64 (-1)) w)
 (V (bi .add 3 t41 (.int .i64 1)) w fun t46 w =>
 V (bi .add 3 t9 t46) w fun t47 w =>
 K0 [t47] w))
 (K0 [t9] w))
 (R (.int .i64 (-1)) w))))) → K0 [t166] w) →
 CondW t162
 (V (bi .lss 21 t1 (.int .i32 128)) w fun t165 w =>
 K0 [t165] w)
 (K0 [(.bool false)] w)
theorem eq119 (R : Value → World → Prop) (w : World) (t0 t1 : Value) : enterW Try.prog Try.f119 an119 [t0, t1] w R = vc119 R w t0 t1 := by kernel_rfl
theorem en119 {R : Value → World → Prop} {w : World} {t0 t1 : Value} (h : vc119 R w t0 t1) : Calls Try.prog 119 #[t0, t1] w (retK R) :=
  calls_of_enter mixed Try.func119 (by kernel_rfl) (by rw [eq119]; exact h)

-- strings.IndexByte
def an120 : Ann := (.seq (.reg (opn 1 .done)) (.seq (.reg (opn 4 .done)) .leaf))
def vc120 (R : Value → World → Prop) (w : World) (t0 t1 : Value) : Prop :=
 CV (.func (.func 124) #[] #[]) #[t0, t1] w fun t7 w =>
 R t7 w
theorem eq120 (R : Value → World → Prop) (w : World) (t0 t1 : Value) : enterW Try.prog Try.f120 an120 [t0, t1] w R = vc120 R w t0 t1 := by kernel_rfl
theorem en120 {R : Value → World → Prop} {w : World} {t0 t1 : Value} (h : vc120 R w t0 t1) : Calls Try.prog 120 #[t0, t1] w (retK R) :=
  calls_of_enter mixed Try.func120 (by kernel_rfl) (by rw [eq120]; exact h)

-- unicode/utf8.ValidRune
def an121 : Ann := (.seq (.reg (opn 1 .done)) (.seq (.one (.seq (.reg (opn 3 (.join [9] [7, 8, 9] (.split 6 (opn 3 .done) (opn 3 .done)) (opn 1 .done)))) (.cond (.seq (.reg (opn 1 .done)) .leaf) (.seq (.reg (opn 3 (.join [16] [14, 15, 16] (.split 13 (opn 3 .done) (opn 3 .done)) (opn 1 .done)))) (.cond (.seq (.reg (opn 1 .done)) .leaf) .leaf))))) (.seq (.reg (opn 1 .done)) .leaf)))
def vc121 (R : Value → World → Prop) (w : World) (t0 : Value) : Prop :=
 V (bi .leq 21 (.int .i32 0) t0) w fun t5 w =>
 ∀ K0 : List Value → World → Prop, (∀ t9, ∀ w, (∀ g : Env,
 CondW t9
 (R (.bool true) w)
 (V (bi .lss 21 (.int .i32 57343) t0) w fun t12 w =>
 ∀ K0 : List Value → World → Prop, (∀ t16, ∀ w, (∀ g : Env,
 CondW t16
 (R (.bool true) w)
 (R (.bool false) w)) → K0 [t16] w) →
 CondW t12
 (V (bi .leq 21 t0 (.int .i32 1114111)) w fun t15 w =>
 K0 [t15] w)
 (K0 [(.bool false)] w))) → K0 [t9] w) →
 CondW t5
 (V (bi .lss 21 t0 (.int .i32 55296)) w fun t8 w =>
 K0 [t8] w)
 (K0 [(.bool false)] w)
theorem eq121 (R : Value → World → Prop) (w : World) (t0 : Value) : enterW Try.prog Try.f121 an121 [t0] w R = vc121 R w t0 := by kernel_rfl
theorem en121 {R : Value → World → Prop} {w : World} {t0 : Value} (h : vc121 R w t0) : Calls Try.prog 121 #[t0] w (retK R) :=
  calls_of_enter mixed Try.func121 (by kernel_rfl) (by rw [eq121]; exact h)

-- internal/bytealg.Cutover
def an122 : Ann := (.seq (.reg (opn 1 .done)) (.seq (.reg (opn 4 .done)) .leaf))
def vc122 (R : Value → World → Prop) (w : World) (t0 : Value) : Prop :=
 V (bi .add 3 t0 (.int .i64 16)) w fun t4 w =>
 V (bi .quo 3 t4 (.int .i64 8)) w fun t5 w =>
 R t5 w
theorem eq122 (R : Value → World → Prop) (w : World) (t0 : Value) : enterW Try.prog Try.f122 an122 [t0] w R = vc122 R w t0 := by kernel_rfl
theorem en122 {R : Value → World → Prop} {w : World} {t0 : Value} (h : vc122 R w t0) : Calls Try.prog 122 #[t0] w (retK R) :=
  calls_of_enter mixed Try.func122 (by kernel_rfl) (by rw [eq122]; exact h)

-- internal/stringslite.IndexByte
def an124 : Ann := (.seq (.reg (opn 1 .done)) (.seq (.reg (opn 4 .done)) .leaf))
def vc124 (R : Value → World → Prop) (w : World) (t0 t1 : Value) : Prop :=
 CV (.func (.func 125) #[] #[]) #[t0, t1] w fun t7 w =>
 R t7 w
theorem eq124 (R : Value → World → Prop) (w : World) (t0 t1 : Value) : enterW Try.prog Try.f124 an124 [t0, t1] w R = vc124 R w t0 t1 := by kernel_rfl
theorem en124 {R : Value → World → Prop} {w : World} {t0 t1 : Value} (h : vc124 R w t0 t1) : Calls Try.prog 124 #[t0, t1] w (retK R) :=
  calls_of_enter mixed Try.func124 (by kernel_rfl) (by rw [eq124]; exact h)

end Go.Proofs.Ytjnckainogpenaa
end
