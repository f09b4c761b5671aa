/-
  A part of the proof: an abstract machine for the program, its soundness, and what the functions compute (Gp1).
  Conditions: none.
-/
import Derived.Test.YtalcodolmmaciaaM01
set_option linter.unusedSectionVars false
set_option linter.unusedVariables false
set_option linter.unusedSimpArgs false
/-
  Intermediate code of the functions, part 1.
-/
namespace Tor
open Go
/- torsion/torsionlaw26.ChainsMakes -/
def a126r0 : List AOper := [⟨some 3, .move (.c (.bool false)), none⟩]
theorem a126r0_ev (C st) : evalOps C a126r0 [] st = evalOps C [⟨some 3, .move (.c (.bool false)), none⟩] [] st := rfl
def a126r1 : List AOper := [⟨none, .call 0 [], none⟩,
    ⟨some 4, .move (.l 0), none⟩]
theorem a126r1_ev (C st) : evalOps C a126r1 [] st = evalOps C [⟨none, .call 0 [], none⟩,
    ⟨some 4, .move (.l 0), none⟩] [] st := rfl
def a126r2 : List AOper := [⟨none, .move (.v 0), none⟩,
    ⟨none, .call 2 [.l 0], none⟩,
    ⟨none, .move (.v 1), none⟩,
    ⟨none, .call 2 [.l 2], none⟩,
    ⟨some 5, .move (.l 1), none⟩,
    ⟨some 6, .move (.l 3), none⟩]
theorem a126r2_ev (C st) : evalOps C a126r2 [] st = evalOps C [⟨none, .move (.v 0), none⟩,
    ⟨none, .call 2 [.l 0], none⟩,
    ⟨none, .move (.v 1), none⟩,
    ⟨none, .call 2 [.l 2], none⟩,
    ⟨some 5, .move (.l 1), none⟩,
    ⟨some 6, .move (.l 3), none⟩] [] st := rfl
def a126r3 : List AOper := [⟨none, .move (.v 5), none⟩,
    ⟨none, .call 3 [.l 0], none⟩,
    ⟨none, .move (.v 6), none⟩,
    ⟨none, .call 3 [.l 2], none⟩,
    ⟨some 7, .move (.l 1), none⟩,
    ⟨some 8, .move (.l 3), none⟩]
theorem a126r3_ev (C st) : evalOps C a126r3 [] st = evalOps C [⟨none, .move (.v 5), none⟩,
    ⟨none, .call 3 [.l 0], none⟩,
    ⟨none, .move (.v 6), none⟩,
    ⟨none, .call 3 [.l 2], none⟩,
    ⟨some 7, .move (.l 1), none⟩,
    ⟨some 8, .move (.l 3), none⟩] [] st := rfl
def a126r4 : List AOper := [⟨none, .move (.v 5), none⟩,
    ⟨none, .call 22 [.l 0], none⟩,
    ⟨none, .move (.v 7), none⟩,
    ⟨none, .call 10 [.l 1, .l 2], none⟩,
    ⟨none, .move (.l 3), none⟩,
    ⟨none, .move (.v 7), some (4, true)⟩,
    ⟨none, .move (.v 8), some (4, true)⟩,
    ⟨none, .move (.v 2), some (4, true)⟩,
    ⟨none, .call 14 [.l 7], some (4, true)⟩,
    ⟨none, .call 25 [.l 5, .l 6, .l 8], some (4, true)⟩,
    ⟨none, .move (.v 7), some (4, true)⟩,
    ⟨none, .move (.v 8), some (4, true)⟩,
    ⟨none, .move (.v 2), some (4, true)⟩,
    ⟨none, .call 14 [.l 12], some (4, true)⟩,
    ⟨none, .call 16 [.l 10, .l 11, .l 13], some (4, true)⟩,
    ⟨none, .call 10 [.l 9, .l 14], some (4, true)⟩,
    ⟨none, .pick (.l 4) (.l 15) (.c (.bool false)), none⟩,
    ⟨none, .move (.l 16), none⟩,
    ⟨none, .move (.v 5), some (17, true)⟩,
    ⟨none, .call 26 [.l 18], some (17, true)⟩,
    ⟨none, .move (.v 5), some (17, true)⟩,
    ⟨none, .call 17 [.l 20], some (17, true)⟩,
    ⟨none, .binb false (.l 19) (.l 21), some (17, true)⟩,
    ⟨none, .pick (.l 17) (.l 22) (.c (.bool false)), none⟩,
    ⟨none, .move (.l 23), none⟩,
    ⟨none, .move (.v 7), some (24, true)⟩,
    ⟨none, .call 26 [.l 25], some (24, true)⟩,
    ⟨none, .pick (.l 24) (.l 26) (.c (.bool false)), none⟩,
    ⟨none, .move (.l 27), none⟩,
    ⟨none, .move (.v 4), some (28, true)⟩,
    ⟨none, .pick (.l 28) (.l 29) (.c (.bool false)), none⟩,
    ⟨some 3, .move (.l 30), none⟩]
theorem a126r4_ev (C st) : evalOps C a126r4 [] st = evalOps C [⟨none, .move (.v 5), none⟩,
    ⟨none, .call 22 [.l 0], none⟩,
    ⟨none, .move (.v 7), none⟩,
    ⟨none, .call 10 [.l 1, .l 2], none⟩,
    ⟨none, .move (.l 3), none⟩,
    ⟨none, .move (.v 7), some (4, true)⟩,
    ⟨none, .move (.v 8), some (4, true)⟩,
    ⟨none, .move (.v 2), some (4, true)⟩,
    ⟨none, .call 14 [.l 7], some (4, true)⟩,
    ⟨none, .call 25 [.l 5, .l 6, .l 8], some (4, true)⟩,
    ⟨none, .move (.v 7), some (4, true)⟩,
    ⟨none, .move (.v 8), some (4, true)⟩,
    ⟨none, .move (.v 2), some (4, true)⟩,
    ⟨none, .call 14 [.l 12], some (4, true)⟩,
    ⟨none, .call 16 [.l 10, .l 11, .l 13], some (4, true)⟩,
    ⟨none, .call 10 [.l 9, .l 14], some (4, true)⟩,
    ⟨none, .pick (.l 4) (.l 15) (.c (.bool false)), none⟩,
    ⟨none, .move (.l 16), none⟩,
    ⟨none, .move (.v 5), some (17, true)⟩,
    ⟨none, .call 26 [.l 18], some (17, true)⟩,
    ⟨none, .move (.v 5), some (17, true)⟩,
    ⟨none, .call 17 [.l 20], some (17, true)⟩,
    ⟨none, .binb false (.l 19) (.l 21), some (17, true)⟩,
    ⟨none, .pick (.l 17) (.l 22) (.c (.bool false)), none⟩,
    ⟨none, .move (.l 23), none⟩,
    ⟨none, .move (.v 7), some (24, true)⟩,
    ⟨none, .call 26 [.l 25], some (24, true)⟩,
    ⟨none, .pick (.l 24) (.l 26) (.c (.bool false)), none⟩,
    ⟨none, .move (.l 27), none⟩,
    ⟨none, .move (.v 4), some (28, true)⟩,
    ⟨none, .pick (.l 28) (.l 29) (.c (.bool false)), none⟩,
    ⟨some 3, .move (.l 30), none⟩] [] st := rfl
def a126 : AFun := .mk .iso 3 9 [.v 3] (.seq (.region a126r0 false) (.seq (.region a126r1 false) (.seq (.region a126r2 false) (.seq (.region a126r3 false) (.seq (.region a126r4 false) (.ret))))))
/- torsion/torsionlaw26.ChainsModule -/
def a127r0 : List AOper := [⟨some 3, .box false (.v 2), none⟩,
    ⟨some 4, .move (.c (.bool false)), none⟩]
theorem a127r0_ev (C st) : evalOps C a127r0 [] st = evalOps C [⟨some 3, .box false (.v 2), none⟩,
    ⟨some 4, .move (.c (.bool false)), none⟩] [] st := rfl
def a127r1 : List AOper := [⟨none, .call 0 [], none⟩,
    ⟨some 5, .move (.l 0), none⟩]
theorem a127r1_ev (C st) : evalOps C a127r1 [] st = evalOps C [⟨none, .call 0 [], none⟩,
    ⟨some 5, .move (.l 0), none⟩] [] st := rfl
def a127r2 : List AOper := [⟨none, .call 14 [.c (.int .i64 1)], none⟩,
    ⟨none, .indexArr 2 1 (.v 3) (.c (.int .i64 0)), none⟩,
    ⟨none, .load false 1 (.l 1), none⟩,
    ⟨none, .conv .i64 (.l 2), none⟩,
    ⟨none, .call 14 [.l 3], none⟩,
    ⟨none, .indexArr 2 1 (.v 3) (.c (.int .i64 1)), none⟩,
    ⟨none, .load false 1 (.l 5), none⟩,
    ⟨none, .conv .i64 (.l 6), none⟩,
    ⟨none, .call 14 [.l 7], none⟩,
    ⟨some 19, .cn (.agg [.bool false, .isl []]), none⟩,
    ⟨some 20, .cn (.agg [.bool false, .isl []]), none⟩,
    ⟨some 21, .cn (.agg [.bool false, .isl []]), none⟩,
    ⟨some 19, .cs 2 (.l 9) (.l 0), none⟩,
    ⟨some 20, .cs 2 (.l 10) (.l 4), none⟩,
    ⟨some 21, .cs 2 (.l 11) (.l 8), none⟩]
theorem a127r2_ev (C st) : evalOps C a127r2 [] st = evalOps C [⟨none, .call 14 [.c (.int .i64 1)], none⟩,
    ⟨none, .indexArr 2 1 (.v 3) (.c (.int .i64 0)), none⟩,
    ⟨none, .load false 1 (.l 1), none⟩,
    ⟨none, .conv .i64 (.l 2), none⟩,
    ⟨none, .call 14 [.l 3], none⟩,
    ⟨none, .indexArr 2 1 (.v 3) (.c (.int .i64 1)), none⟩,
    ⟨none, .load false 1 (.l 5), none⟩,
    ⟨none, .conv .i64 (.l 6), none⟩,
    ⟨none, .call 14 [.l 7], none⟩,
    ⟨some 19, .cn (.agg [.bool false, .isl []]), none⟩,
    ⟨some 20, .cn (.agg [.bool false, .isl []]), none⟩,
    ⟨some 21, .cn (.agg [.bool false, .isl []]), none⟩,
    ⟨some 19, .cs 2 (.l 9) (.l 0), none⟩,
    ⟨some 20, .cs 2 (.l 10) (.l 4), none⟩,
    ⟨some 21, .cs 2 (.l 11) (.l 8), none⟩] [] st := rfl
def a127r3 : List AOper := [⟨none, .move (.v 0), none⟩,
    ⟨none, .call 2 [.l 0], none⟩,
    ⟨some 6, .move (.l 1), none⟩]
theorem a127r3_ev (C st) : evalOps C a127r3 [] st = evalOps C [⟨none, .move (.v 0), none⟩,
    ⟨none, .call 2 [.l 0], none⟩,
    ⟨some 6, .move (.l 1), none⟩] [] st := rfl
def a127r4 : List AOper := [⟨none, .move (.v 6), none⟩,
    ⟨none, .call 128 [.l 0], none⟩,
    ⟨none, .move (.v 1), none⟩,
    ⟨none, .call 2 [.l 2], none⟩,
    ⟨none, .call 128 [.l 3], none⟩,
    ⟨some 7, .move (.l 1), none⟩,
    ⟨some 8, .move (.l 4), none⟩]
theorem a127r4_ev (C st) : evalOps C a127r4 [] st = evalOps C [⟨none, .move (.v 6), none⟩,
    ⟨none, .call 128 [.l 0], none⟩,
    ⟨none, .move (.v 1), none⟩,
    ⟨none, .call 2 [.l 2], none⟩,
    ⟨none, .call 128 [.l 3], none⟩,
    ⟨some 7, .move (.l 1), none⟩,
    ⟨some 8, .move (.l 4), none⟩] [] st := rfl
def a127r5 : List AOper := [⟨none, .bslice true 3 (.agg [.int .i64 0, .agg [.bool false, .isl []]]) 0 [], none⟩,
    ⟨some 9, .move (.l 0), none⟩]
theorem a127r5_ev (C st) : evalOps C a127r5 [] st = evalOps C [⟨none, .bslice true 3 (.agg [.int .i64 0, .agg [.bool false, .isl []]]) 0 [], none⟩,
    ⟨some 9, .move (.l 0), none⟩] [] st := rfl
def a127r6 : List AOper := [⟨none, .move (.v 6), none⟩,
    ⟨none, .len 0 (.l 0), none⟩,
    ⟨none, .bin .sub (.l 1) (.c (.int .i64 1)), none⟩,
    ⟨some 10, .move (.l 2), none⟩]
theorem a127r6_ev (C st) : evalOps C a127r6 [] st = evalOps C [⟨none, .move (.v 6), none⟩,
    ⟨none, .len 0 (.l 0), none⟩,
    ⟨none, .bin .sub (.l 1) (.c (.int .i64 1)), none⟩,
    ⟨some 10, .move (.l 2), none⟩] [] st := rfl
def a127r7 : List AOper := [⟨none, .move (.v 10), none⟩,
    ⟨some 16, .bin .geq (.l 0) (.c (.int .i64 0)), none⟩]
theorem a127r7_ev (C st) : evalOps C a127r7 [] st = evalOps C [⟨none, .move (.v 10), none⟩,
    ⟨some 16, .bin .geq (.l 0) (.c (.int .i64 0)), none⟩] [] st := rfl
def a127r9 : List AOper := [⟨none, .move (.v 9), none⟩,
    ⟨none, .move (.v 6), none⟩,
    ⟨none, .move (.v 10), none⟩,
    ⟨none, .indexAddr 3 (.l 1) (.l 2), none⟩,
    ⟨none, .load true 3 (.l 3), none⟩,
    ⟨none, .bslice false 3 (.agg [.int .i64 0, .agg [.bool false, .isl []]]) 1 [(0, .l 4)], none⟩,
    ⟨none, .append 3 40 (.l 0) (.l 5), none⟩,
    ⟨some 9, .move (.l 6), none⟩]
theorem a127r9_ev (C st) : evalOps C a127r9 [] st = evalOps C [⟨none, .move (.v 9), none⟩,
    ⟨none, .move (.v 6), none⟩,
    ⟨none, .move (.v 10), none⟩,
    ⟨none, .indexAddr 3 (.l 1) (.l 2), none⟩,
    ⟨none, .load true 3 (.l 3), none⟩,
    ⟨none, .bslice false 3 (.agg [.int .i64 0, .agg [.bool false, .isl []]]) 1 [(0, .l 4)], none⟩,
    ⟨none, .append 3 40 (.l 0) (.l 5), none⟩,
    ⟨some 9, .move (.l 6), none⟩] [] st := rfl
def a127r8 : List AOper := [⟨none, .move (.v 10), none⟩,
    ⟨none, .bin .sub (.l 0) (.c (.int .i64 1)), none⟩,
    ⟨some 10, .move (.l 1), none⟩]
theorem a127r8_ev (C st) : evalOps C a127r8 [] st = evalOps C [⟨none, .move (.v 10), none⟩,
    ⟨none, .bin .sub (.l 0) (.c (.int .i64 1)), none⟩,
    ⟨some 10, .move (.l 1), none⟩] [] st := rfl
def a127b0 : AIR := .seq (.seq (.region a127r7 false) (.cond (.v 16) (.skip) (.exit 0))) (.seq (.block 1 (.region a127r9 false)) (.region a127r8 false))
def a127l0 : AIR := .loop true [0, 1, 2, 3, 4, 5, 6, 7, 8, 9, 10, 11, 12, 13, 14, 15, 17, 18, 19, 20, 21] a127b0
theorem a127l0_run {E GP} (st) : run E GP a127l0 st = loopK (run E GP) a127l0 st.heap.length true [0, 1, 2, 3, 4, 5, 6, 7, 8, 9, 10, 11, 12, 13, 14, 15, 17, 18, 19, 20, 21] st.rs (run E GP a127b0 { vars := st.vars, heap := st.heap, rs := false }) := run_loop _ _ _ _
def a127r10 : List AOper := [⟨none, .move (.v 7), none⟩,
    ⟨none, .call 17 [.l 0], none⟩,
    ⟨none, .un .not (.l 1), none⟩,
    ⟨none, .move (.l 2), none⟩,
    ⟨none, .move (.v 8), some (3, false)⟩,
    ⟨none, .call 17 [.l 4], some (3, false)⟩,
    ⟨none, .un .not (.l 5), some (3, false)⟩,
    ⟨none, .pick (.l 3) (.c (.bool true)) (.l 6), none⟩,
    ⟨none, .move (.l 7), none⟩,
    ⟨none, .move (.v 9), some (8, false)⟩,
    ⟨none, .call 128 [.l 9], some (8, false)⟩,
    ⟨none, .move (.v 7), some (8, false)⟩,
    ⟨none, .call 10 [.l 10, .l 11], some (8, false)⟩,
    ⟨none, .un .not (.l 12), some (8, false)⟩,
    ⟨some 17, .pick (.l 8) (.c (.bool true)) (.l 13), none⟩]
theorem a127r10_ev (C st) : evalOps C a127r10 [] st = evalOps C [⟨none, .move (.v 7), none⟩,
    ⟨none, .call 17 [.l 0], none⟩,
    ⟨none, .un .not (.l 1), none⟩,
    ⟨none, .move (.l 2), none⟩,
    ⟨none, .move (.v 8), some (3, false)⟩,
    ⟨none, .call 17 [.l 4], some (3, false)⟩,
    ⟨none, .un .not (.l 5), some (3, false)⟩,
    ⟨none, .pick (.l 3) (.c (.bool true)) (.l 6), none⟩,
    ⟨none, .move (.l 7), none⟩,
    ⟨none, .move (.v 9), some (8, false)⟩,
    ⟨none, .call 128 [.l 9], some (8, false)⟩,
    ⟨none, .move (.v 7), some (8, false)⟩,
    ⟨none, .call 10 [.l 10, .l 11], some (8, false)⟩,
    ⟨none, .un .not (.l 12), some (8, false)⟩,
    ⟨some 17, .pick (.l 8) (.c (.bool true)) (.l 13), none⟩] [] st := rfl
def a127r11 : List AOper := [⟨some 4, .move (.c (.bool false)), none⟩]
theorem a127r11_ev (C st) : evalOps C a127r11 [] st = evalOps C [⟨some 4, .move (.c (.bool false)), none⟩] [] st := rfl
def a127r12 : List AOper := [⟨none, .move (.v 7), none⟩,
    ⟨none, .move (.v 8), none⟩,
    ⟨none, .cl true 2 (.v 19), none⟩,
    ⟨none, .call 25 [.l 0, .l 1, .l 2], none⟩,
    ⟨none, .move (.v 7), none⟩,
    ⟨none, .cl true 2 (.v 20), none⟩,
    ⟨none, .call 25 [.c (.isl []), .l 4, .l 5], none⟩,
    ⟨some 11, .move (.l 3), none⟩,
    ⟨some 12, .move (.l 6), none⟩]
theorem a127r12_ev (C st) : evalOps C a127r12 [] st = evalOps C [⟨none, .move (.v 7), none⟩,
    ⟨none, .move (.v 8), none⟩,
    ⟨none, .cl true 2 (.v 19), none⟩,
    ⟨none, .call 25 [.l 0, .l 1, .l 2], none⟩,
    ⟨none, .move (.v 7), none⟩,
    ⟨none, .cl true 2 (.v 20), none⟩,
    ⟨none, .call 25 [.c (.isl []), .l 4, .l 5], none⟩,
    ⟨some 11, .move (.l 3), none⟩,
    ⟨some 12, .move (.l 6), none⟩] [] st := rfl
def a127r13 : List AOper := [⟨none, .move (.v 11), none⟩,
    ⟨none, .call 17 [.l 0], none⟩,
    ⟨none, .un .not (.l 1), none⟩,
    ⟨none, .move (.l 2), none⟩,
    ⟨none, .move (.v 12), some (3, false)⟩,
    ⟨none, .call 17 [.l 4], some (3, false)⟩,
    ⟨none, .un .not (.l 5), some (3, false)⟩,
    ⟨some 18, .pick (.l 3) (.c (.bool true)) (.l 6), none⟩]
theorem a127r13_ev (C st) : evalOps C a127r13 [] st = evalOps C [⟨none, .move (.v 11), none⟩,
    ⟨none, .call 17 [.l 0], none⟩,
    ⟨none, .un .not (.l 1), none⟩,
    ⟨none, .move (.l 2), none⟩,
    ⟨none, .move (.v 12), some (3, false)⟩,
    ⟨none, .call 17 [.l 4], some (3, false)⟩,
    ⟨none, .un .not (.l 5), some (3, false)⟩,
    ⟨some 18, .pick (.l 3) (.c (.bool true)) (.l 6), none⟩] [] st := rfl
def a127r14 : List AOper := [⟨some 4, .move (.c (.bool false)), none⟩]
theorem a127r14_ev (C st) : evalOps C a127r14 [] st = evalOps C [⟨some 4, .move (.c (.bool false)), none⟩] [] st := rfl
def a127r15 : List AOper := [⟨none, .move (.v 12), none⟩,
    ⟨none, .cl true 2 (.v 21), none⟩,
    ⟨none, .call 25 [.c (.isl []), .l 0, .l 1], none⟩,
    ⟨some 13, .move (.l 2), none⟩]
theorem a127r15_ev (C st) : evalOps C a127r15 [] st = evalOps C [⟨none, .move (.v 12), none⟩,
    ⟨none, .cl true 2 (.v 21), none⟩,
    ⟨none, .call 25 [.c (.isl []), .l 0, .l 1], none⟩,
    ⟨some 13, .move (.l 2), none⟩] [] st := rfl
def a127r16 : List AOper := [⟨none, .move (.v 11), none⟩,
    ⟨none, .cl true 2 (.v 20), none⟩,
    ⟨none, .call 25 [.c (.isl []), .l 0, .l 1], none⟩,
    ⟨none, .move (.v 12), none⟩,
    ⟨none, .move (.v 8), none⟩,
    ⟨none, .cl true 2 (.v 20), none⟩,
    ⟨none, .call 25 [.l 3, .l 4, .l 5], none⟩,
    ⟨some 14, .move (.l 2), none⟩,
    ⟨some 15, .move (.l 6), none⟩]
theorem a127r16_ev (C st) : evalOps C a127r16 [] st = evalOps C [⟨none, .move (.v 11), none⟩,
    ⟨none, .cl true 2 (.v 20), none⟩,
    ⟨none, .call 25 [.c (.isl []), .l 0, .l 1], none⟩,
    ⟨none, .move (.v 12), none⟩,
    ⟨none, .move (.v 8), none⟩,
    ⟨none, .cl true 2 (.v 20), none⟩,
    ⟨none, .call 25 [.l 3, .l 4, .l 5], none⟩,
    ⟨some 14, .move (.l 2), none⟩,
    ⟨some 15, .move (.l 6), none⟩] [] st := rfl
def a127r17 : List AOper := [⟨none, .move (.v 11), none⟩,
    ⟨none, .move (.v 8), none⟩,
    ⟨none, .move (.v 7), none⟩,
    ⟨none, .cl true 2 (.v 19), none⟩,
    ⟨none, .call 25 [.l 1, .l 2, .l 3], none⟩,
    ⟨none, .call 10 [.l 0, .l 4], none⟩,
    ⟨none, .move (.l 5), none⟩,
    ⟨none, .move (.v 13), some (6, true)⟩,
    ⟨none, .move (.v 7), some (6, true)⟩,
    ⟨none, .cl true 2 (.v 20), some (6, true)⟩,
    ⟨none, .cl true 2 (.v 21), some (6, true)⟩,
    ⟨none, .call 41 [.l 9, .l 10], some (6, true)⟩,
    ⟨none, .call 25 [.c (.isl []), .l 8, .l 11], some (6, true)⟩,
    ⟨none, .call 10 [.l 7, .l 12], some (6, true)⟩,
    ⟨none, .pick (.l 6) (.l 13) (.c (.bool false)), none⟩,
    ⟨none, .move (.l 14), none⟩,
    ⟨none, .move (.v 14), some (15, true)⟩,
    ⟨none, .move (.v 15), some (15, true)⟩,
    ⟨none, .call 10 [.l 16, .l 17], some (15, true)⟩,
    ⟨none, .pick (.l 15) (.l 18) (.c (.bool false)), none⟩,
    ⟨none, .move (.l 19), none⟩,
    ⟨none, .move (.v 7), some (20, true)⟩,
    ⟨none, .move (.v 7), some (20, true)⟩,
    ⟨none, .call 14 [.c (.int .i64 (-1))], some (20, true)⟩,
    ⟨none, .call 25 [.l 21, .l 22, .l 23], some (20, true)⟩,
    ⟨none, .len 0 (.l 24), some (20, true)⟩,
    ⟨none, .bin .eql (.l 25) (.c (.int .i64 0)), some (20, true)⟩,
    ⟨none, .pick (.l 20) (.l 26) (.c (.bool false)), none⟩,
    ⟨none, .move (.l 27), none⟩,
    ⟨none, .move (.v 7), some (28, true)⟩,
    ⟨none, .move (.v 8), some (28, true)⟩,
    ⟨none, .call 14 [.c (.int .i64 0)], some (28, true)⟩,
    ⟨none, .call 25 [.l 29, .l 30, .l 31], some (28, true)⟩,
    ⟨none, .move (.v 7), some (28, true)⟩,
    ⟨none, .call 10 [.l 32, .l 33], some (28, true)⟩,
    ⟨none, .pick (.l 28) (.l 34) (.c (.bool false)), none⟩,
    ⟨none, .move (.l 35), none⟩,
    ⟨none, .move (.v 5), some (36, true)⟩,
    ⟨none, .pick (.l 36) (.l 37) (.c (.bool false)), none⟩,
    ⟨some 4, .move (.l 38), none⟩]
theorem a127r17_ev (C st) : evalOps C a127r17 [] st = evalOps C [⟨none, .move (.v 11), none⟩,
    ⟨none, .move (.v 8), none⟩,
    ⟨none, .move (.v 7), none⟩,
    ⟨none, .cl true 2 (.v 19), none⟩,
    ⟨none, .call 25 [.l 1, .l 2, .l 3], none⟩,
    ⟨none, .call 10 [.l 0, .l 4], none⟩,
    ⟨none, .move (.l 5), none⟩,
    ⟨none, .move (.v 13), some (6, true)⟩,
    ⟨none, .move (.v 7), some (6, true)⟩,
    ⟨none, .cl true 2 (.v 20), some (6, true)⟩,
    ⟨none, .cl true 2 (.v 21), some (6, true)⟩,
    ⟨none, .call 41 [.l 9, .l 10], some (6, true)⟩,
    ⟨none, .call 25 [.c (.isl []), .l 8, .l 11], some (6, true)⟩,
    ⟨none, .call 10 [.l 7, .l 12], some (6, true)⟩,
    ⟨none, .pick (.l 6) (.l 13) (.c (.bool false)), none⟩,
    ⟨none, .move (.l 14), none⟩,
    ⟨none, .move (.v 14), some (15, true)⟩,
    ⟨none, .move (.v 15), some (15, true)⟩,
    ⟨none, .call 10 [.l 16, .l 17], some (15, true)⟩,
    ⟨none, .pick (.l 15) (.l 18) (.c (.bool false)), none⟩,
    ⟨none, .move (.l 19), none⟩,
    ⟨none, .move (.v 7), some (20, true)⟩,
    ⟨none, .move (.v 7), some (20, true)⟩,
    ⟨none, .call 14 [.c (.int .i64 (-1))], some (20, true)⟩,
    ⟨none, .call 25 [.l 21, .l 22, .l 23], some (20, true)⟩,
    ⟨none, .len 0 (.l 24), some (20, true)⟩,
    ⟨none, .bin .eql (.l 25) (.c (.int .i64 0)), some (20, true)⟩,
    ⟨none, .pick (.l 20) (.l 26) (.c (.bool false)), none⟩,
    ⟨none, .move (.l 27), none⟩,
    ⟨none, .move (.v 7), some (28, true)⟩,
    ⟨none, .move (.v 8), some (28, true)⟩,
    ⟨none, .call 14 [.c (.int .i64 0)], some (28, true)⟩,
    ⟨none, .call 25 [.l 29, .l 30, .l 31], some (28, true)⟩,
    ⟨none, .move (.v 7), some (28, true)⟩,
    ⟨none, .call 10 [.l 32, .l 33], some (28, true)⟩,
    ⟨none, .pick (.l 28) (.l 34) (.c (.bool false)), none⟩,
    ⟨none, .move (.l 35), none⟩,
    ⟨none, .move (.v 5), some (36, true)⟩,
    ⟨none, .pick (.l 36) (.l 37) (.c (.bool false)), none⟩,
    ⟨some 4, .move (.l 38), none⟩] [] st := rfl
def a127 : AFun := .mk .iso 3 22 [.v 4] (.seq (.region a127r0 false) (.seq (.region a127r1 false) (.seq (.region a127r2 true) (.seq (.region a127r3 false) (.seq (.region a127r4 false) (.seq (.region a127r5 false) (.seq (.seq (.region a127r6 false) (.block 0 (a127l0))) (.seq (.seq (.region a127r10 false) (.cond (.v 17) (.seq (.region a127r11 false) (.ret)) (.skip))) (.seq (.region a127r12 true) (.seq (.seq (.region a127r13 false) (.cond (.v 18) (.seq (.region a127r14 false) (.ret)) (.skip))) (.seq (.region a127r15 false) (.seq (.region a127r16 true) (.seq (.region a127r17 false) (.ret))))))))))))))
/- torsion/torsionlaw26.sanity -/
def a0r0 : List AOper := [⟨some 0, .move (.c (.bool false)), none⟩]
theorem a0r0_ev (C st) : evalOps C a0r0 [] st = evalOps C [⟨some 0, .move (.c (.bool false)), none⟩] [] st := rfl
def a0r1 : List AOper := [⟨none, .call 21 [.c (.int .i64 1), .c (.int .i64 0), .c (.isl [])], none⟩,
    ⟨none, .call 21 [.c (.int .i64 2), .c (.int .i64 0), .c (.isl [])], none⟩,
    ⟨none, .bslice false 1 (.int .i64 0) 4 [(0, .c (.int .i64 1)), (1, .c (.int .i64 (-1))), (2, .c (.int .i64 2)), (3, .c (.int .i64 1))], none⟩,
    ⟨none, .call 21 [.c (.int .i64 3), .c (.int .i64 1), .l 2], none⟩,
    ⟨none, .call 21 [.c (.int .i64 4), .c (.int .i64 1), .c (.isl [])], none⟩,
    ⟨none, .bslice false 1 (.int .i64 0) 2 [(0, .c (.int .i64 4)), (1, .c (.int .i64 2))], none⟩,
    ⟨none, .call 21 [.c (.int .i64 5), .c (.int .i64 2), .l 5], none⟩,
    ⟨none, .bslice false 3 (.agg [.int .i64 0, .int .i64 0, .nl]) 5 [(0, .l 0), (1, .l 1), (2, .l 3), (3, .l 4), (4, .l 6)], none⟩,
    ⟨some 1, .move (.l 7), none⟩]
theorem a0r1_ev (C st) : evalOps C a0r1 [] st = evalOps C [⟨none, .call 21 [.c (.int .i64 1), .c (.int .i64 0), .c (.isl [])], none⟩,
    ⟨none, .call 21 [.c (.int .i64 2), .c (.int .i64 0), .c (.isl [])], none⟩,
    ⟨none, .bslice false 1 (.int .i64 0) 4 [(0, .c (.int .i64 1)), (1, .c (.int .i64 (-1))), (2, .c (.int .i64 2)), (3, .c (.int .i64 1))], none⟩,
    ⟨none, .call 21 [.c (.int .i64 3), .c (.int .i64 1), .l 2], none⟩,
    ⟨none, .call 21 [.c (.int .i64 4), .c (.int .i64 1), .c (.isl [])], none⟩,
    ⟨none, .bslice false 1 (.int .i64 0) 2 [(0, .c (.int .i64 4)), (1, .c (.int .i64 2))], none⟩,
    ⟨none, .call 21 [.c (.int .i64 5), .c (.int .i64 2), .l 5], none⟩,
    ⟨none, .bslice false 3 (.agg [.int .i64 0, .int .i64 0, .nl]) 5 [(0, .l 0), (1, .l 1), (2, .l 3), (3, .l 4), (4, .l 6)], none⟩,
    ⟨some 1, .move (.l 7), none⟩] [] st := rfl
def a0r2 : List AOper := [⟨none, .call 14 [.c (.int .i64 2)], none⟩,
    ⟨none, .build [.int .i64 0, .agg [.bool false, .isl []]] [(0, .c (.int .i64 5)), (1, .l 0)], none⟩,
    ⟨none, .call 14 [.c (.int .i64 1)], none⟩,
    ⟨none, .build [.int .i64 0, .agg [.bool false, .isl []]] [(0, .c (.int .i64 3)), (1, .l 2)], none⟩,
    ⟨none, .call 14 [.c (.int .i64 (-2))], none⟩,
    ⟨none, .build [.int .i64 0, .agg [.bool false, .isl []]] [(0, .c (.int .i64 5)), (1, .l 4)], none⟩,
    ⟨none, .bslice false 3 (.agg [.int .i64 0, .agg [.bool false, .isl []]]) 3 [(0, .l 1), (1, .l 3), (2, .l 5)], none⟩,
    ⟨none, .call 22 [.l 6], none⟩,
    ⟨some 2, .move (.l 7), none⟩]
theorem a0r2_ev (C st) : evalOps C a0r2 [] st = evalOps C [⟨none, .call 14 [.c (.int .i64 2)], none⟩,
    ⟨none, .build [.int .i64 0, .agg [.bool false, .isl []]] [(0, .c (.int .i64 5)), (1, .l 0)], none⟩,
    ⟨none, .call 14 [.c (.int .i64 1)], none⟩,
    ⟨none, .build [.int .i64 0, .agg [.bool false, .isl []]] [(0, .c (.int .i64 3)), (1, .l 2)], none⟩,
    ⟨none, .call 14 [.c (.int .i64 (-2))], none⟩,
    ⟨none, .build [.int .i64 0, .agg [.bool false, .isl []]] [(0, .c (.int .i64 5)), (1, .l 4)], none⟩,
    ⟨none, .bslice false 3 (.agg [.int .i64 0, .agg [.bool false, .isl []]]) 3 [(0, .l 1), (1, .l 3), (2, .l 5)], none⟩,
    ⟨none, .call 22 [.l 6], none⟩,
    ⟨some 2, .move (.l 7), none⟩] [] st := rfl
def a0r3 : List AOper := [⟨none, .move (.v 1), none⟩,
    ⟨none, .bslice false 1 (.int .i64 0) 4 [(0, .c (.int .i64 3)), (1, .c (.int .i64 1)), (2, .c (.int .i64 4)), (3, .c (.int .i64 1))], none⟩,
    ⟨none, .call 23 [.l 1], none⟩,
    ⟨none, .call 4 [.l 0, .l 2], none⟩,
    ⟨none, .move (.l 3), none⟩,
    ⟨none, .extract 0 (.l 4), none⟩,
    ⟨none, .extract 1 (.l 4), none⟩,
    ⟨some 3, .move (.l 5), none⟩,
    ⟨some 4, .move (.l 6), none⟩]
theorem a0r3_ev (C st) : evalOps C a0r3 [] st = evalOps C [⟨none, .move (.v 1), none⟩,
    ⟨none, .bslice false 1 (.int .i64 0) 4 [(0, .c (.int .i64 3)), (1, .c (.int .i64 1)), (2, .c (.int .i64 4)), (3, .c (.int .i64 1))], none⟩,
    ⟨none, .call 23 [.l 1], none⟩,
    ⟨none, .call 4 [.l 0, .l 2], none⟩,
    ⟨none, .move (.l 3), none⟩,
    ⟨none, .extract 0 (.l 4), none⟩,
    ⟨none, .extract 1 (.l 4), none⟩,
    ⟨some 3, .move (.l 5), none⟩,
    ⟨some 4, .move (.l 6), none⟩] [] st := rfl
def a0r4 : List AOper := [⟨none, .move (.v 1), none⟩,
    ⟨none, .call 4 [.l 0, .c (.isl [])], none⟩,
    ⟨none, .move (.l 1), none⟩,
    ⟨none, .extract 0 (.l 2), none⟩,
    ⟨none, .extract 1 (.l 2), none⟩,
    ⟨some 5, .move (.l 3), none⟩,
    ⟨some 6, .move (.l 4), none⟩]
theorem a0r4_ev (C st) : evalOps C a0r4 [] st = evalOps C [⟨none, .move (.v 1), none⟩,
    ⟨none, .call 4 [.l 0, .c (.isl [])], none⟩,
    ⟨none, .move (.l 1), none⟩,
    ⟨none, .extract 0 (.l 2), none⟩,
    ⟨none, .extract 1 (.l 2), none⟩,
    ⟨some 5, .move (.l 3), none⟩,
    ⟨some 6, .move (.l 4), none⟩] [] st := rfl
def a0r5 : List AOper := [⟨none, .move (.v 1), none⟩,
    ⟨none, .bslice false 1 (.int .i64 0) 4 [(0, .c (.int .i64 1)), (1, .c (.int .i64 1)), (2, .c (.int .i64 3)), (3, .c (.int .i64 1))], none⟩,
    ⟨none, .call 23 [.l 1], none⟩,
    ⟨none, .call 4 [.l 0, .l 2], none⟩,
    ⟨none, .move (.l 3), none⟩,
    ⟨none, .extract 0 (.l 4), none⟩,
    ⟨none, .extract 1 (.l 4), none⟩,
    ⟨none, .move (.l 5), none⟩,
    ⟨some 7, .move (.l 6), none⟩]
theorem a0r5_ev (C st) : evalOps C a0r5 [] st = evalOps C [⟨none, .move (.v 1), none⟩,
    ⟨none, .bslice false 1 (.int .i64 0) 4 [(0, .c (.int .i64 1)), (1, .c (.int .i64 1)), (2, .c (.int .i64 3)), (3, .c (.int .i64 1))], none⟩,
    ⟨none, .call 23 [.l 1], none⟩,
    ⟨none, .call 4 [.l 0, .l 2], none⟩,
    ⟨none, .move (.l 3), none⟩,
    ⟨none, .extract 0 (.l 4), none⟩,
    ⟨none, .extract 1 (.l 4), none⟩,
    ⟨none, .move (.l 5), none⟩,
    ⟨some 7, .move (.l 6), none⟩] [] st := rfl
def a0r6 : List AOper := [⟨none, .move (.v 1), none⟩,
    ⟨none, .bslice false 1 (.int .i64 0) 2 [(0, .c (.int .i64 9)), (1, .c (.int .i64 1))], none⟩,
    ⟨none, .call 23 [.l 1], none⟩,
    ⟨none, .call 4 [.l 0, .l 2], none⟩,
    ⟨none, .move (.l 3), none⟩,
    ⟨none, .extract 0 (.l 4), none⟩,
    ⟨none, .extract 1 (.l 4), none⟩,
    ⟨none, .move (.l 5), none⟩,
    ⟨some 8, .move (.l 6), none⟩]
theorem a0r6_ev (C st) : evalOps C a0r6 [] st = evalOps C [⟨none, .move (.v 1), none⟩,
    ⟨none, .bslice false 1 (.int .i64 0) 2 [(0, .c (.int .i64 9)), (1, .c (.int .i64 1))], none⟩,
    ⟨none, .call 23 [.l 1], none⟩,
    ⟨none, .call 4 [.l 0, .l 2], none⟩,
    ⟨none, .move (.l 3), none⟩,
    ⟨none, .extract 0 (.l 4), none⟩,
    ⟨none, .extract 1 (.l 4), none⟩,
    ⟨none, .move (.l 5), none⟩,
    ⟨some 8, .move (.l 6), none⟩] [] st := rfl
def a0r7 : List AOper := [⟨none, .move (.v 1), none⟩,
    ⟨none, .bslice false 1 (.int .i64 0) 2 [(0, .c (.int .i64 3)), (1, .c (.int .i64 2))], none⟩,
    ⟨none, .call 23 [.l 1], none⟩,
    ⟨none, .call 6 [.l 0, .l 2], none⟩,
    ⟨none, .move (.l 3), none⟩,
    ⟨none, .extract 0 (.l 4), none⟩,
    ⟨none, .extract 1 (.l 4), none⟩,
    ⟨some 9, .move (.l 5), none⟩,
    ⟨some 10, .move (.l 6), none⟩]
theorem a0r7_ev (C st) : evalOps C a0r7 [] st = evalOps C [⟨none, .move (.v 1), none⟩,
    ⟨none, .bslice false 1 (.int .i64 0) 2 [(0, .c (.int .i64 3)), (1, .c (.int .i64 2))], none⟩,
    ⟨none, .call 23 [.l 1], none⟩,
    ⟨none, .call 6 [.l 0, .l 2], none⟩,
    ⟨none, .move (.l 3), none⟩,
    ⟨none, .extract 0 (.l 4), none⟩,
    ⟨none, .extract 1 (.l 4), none⟩,
    ⟨some 9, .move (.l 5), none⟩,
    ⟨some 10, .move (.l 6), none⟩] [] st := rfl
def a0r8 : List AOper := [⟨none, .move (.v 1), none⟩,
    ⟨none, .bslice false 1 (.int .i64 0) 2 [(0, .c (.int .i64 5)), (1, .c (.int .i64 1))], none⟩,
    ⟨none, .call 23 [.l 1], none⟩,
    ⟨none, .call 6 [.l 0, .l 2], none⟩,
    ⟨none, .move (.l 3), none⟩,
    ⟨none, .extract 0 (.l 4), none⟩,
    ⟨none, .extract 1 (.l 4), none⟩,
    ⟨some 11, .move (.l 5), none⟩,
    ⟨some 12, .move (.l 6), none⟩]
theorem a0r8_ev (C st) : evalOps C a0r8 [] st = evalOps C [⟨none, .move (.v 1), none⟩,
    ⟨none, .bslice false 1 (.int .i64 0) 2 [(0, .c (.int .i64 5)), (1, .c (.int .i64 1))], none⟩,
    ⟨none, .call 23 [.l 1], none⟩,
    ⟨none, .call 6 [.l 0, .l 2], none⟩,
    ⟨none, .move (.l 3), none⟩,
    ⟨none, .extract 0 (.l 4), none⟩,
    ⟨none, .extract 1 (.l 4), none⟩,
    ⟨some 11, .move (.l 5), none⟩,
    ⟨some 12, .move (.l 6), none⟩] [] st := rfl
def a0r9 : List AOper := [⟨none, .move (.v 1), none⟩,
    ⟨none, .bslice false 1 (.int .i64 0) 2 [(0, .c (.int .i64 4)), (1, .c (.int .i64 1))], none⟩,
    ⟨none, .call 23 [.l 1], none⟩,
    ⟨none, .call 8 [.l 0, .c (.int .i64 1), .l 2], none⟩,
    ⟨none, .move (.l 3), none⟩,
    ⟨none, .extract 0 (.l 4), none⟩,
    ⟨none, .extract 1 (.l 4), none⟩,
    ⟨some 13, .move (.l 5), none⟩,
    ⟨some 14, .move (.l 6), none⟩]
theorem a0r9_ev (C st) : evalOps C a0r9 [] st = evalOps C [⟨none, .move (.v 1), none⟩,
    ⟨none, .bslice false 1 (.int .i64 0) 2 [(0, .c (.int .i64 4)), (1, .c (.int .i64 1))], none⟩,
    ⟨none, .call 23 [.l 1], none⟩,
    ⟨none, .call 8 [.l 0, .c (.int .i64 1), .l 2], none⟩,
    ⟨none, .move (.l 3), none⟩,
    ⟨none, .extract 0 (.l 4), none⟩,
    ⟨none, .extract 1 (.l 4), none⟩,
    ⟨some 13, .move (.l 5), none⟩,
    ⟨some 14, .move (.l 6), none⟩] [] st := rfl
def a0r10 : List AOper := [⟨none, .move (.v 1), none⟩,
    ⟨none, .bslice false 1 (.int .i64 0) 2 [(0, .c (.int .i64 4)), (1, .c (.int .i64 1))], none⟩,
    ⟨none, .call 23 [.l 1], none⟩,
    ⟨none, .call 8 [.l 0, .c (.int .i64 2), .l 2], none⟩,
    ⟨none, .move (.l 3), none⟩,
    ⟨none, .extract 0 (.l 4), none⟩,
    ⟨none, .extract 1 (.l 4), none⟩,
    ⟨none, .move (.l 5), none⟩,
    ⟨some 15, .move (.l 6), none⟩]
theorem a0r10_ev (C st) : evalOps C a0r10 [] st = evalOps C [⟨none, .move (.v 1), none⟩,
    ⟨none, .bslice false 1 (.int .i64 0) 2 [(0, .c (.int .i64 4)), (1, .c (.int .i64 1))], none⟩,
    ⟨none, .call 23 [.l 1], none⟩,
    ⟨none, .call 8 [.l 0, .c (.int .i64 2), .l 2], none⟩,
    ⟨none, .move (.l 3), none⟩,
    ⟨none, .extract 0 (.l 4), none⟩,
    ⟨none, .extract 1 (.l 4), none⟩,
    ⟨none, .move (.l 5), none⟩,
    ⟨some 15, .move (.l 6), none⟩] [] st := rfl
def a0r11 : List AOper := [⟨none, .move (.v 1), none⟩,
    ⟨none, .call 14 [.c (.int .i64 1)], none⟩,
    ⟨none, .call 14 [.c (.int .i64 (-1))], none⟩,
    ⟨none, .bslice false 2 (.agg [.bool false, .isl []]) 2 [(0, .l 1), (1, .l 2)], none⟩,
    ⟨none, .call 24 [.l 0, .c (.int .i64 0), .l 3], none⟩,
    ⟨none, .move (.l 4), none⟩,
    ⟨none, .extract 0 (.l 5), none⟩,
    ⟨none, .extract 1 (.l 5), none⟩,
    ⟨some 16, .move (.l 6), none⟩,
    ⟨some 17, .move (.l 7), none⟩]
theorem a0r11_ev (C st) : evalOps C a0r11 [] st = evalOps C [⟨none, .move (.v 1), none⟩,
    ⟨none, .call 14 [.c (.int .i64 1)], none⟩,
    ⟨none, .call 14 [.c (.int .i64 (-1))], none⟩,
    ⟨none, .bslice false 2 (.agg [.bool false, .isl []]) 2 [(0, .l 1), (1, .l 2)], none⟩,
    ⟨none, .call 24 [.l 0, .c (.int .i64 0), .l 3], none⟩,
    ⟨none, .move (.l 4), none⟩,
    ⟨none, .extract 0 (.l 5), none⟩,
    ⟨none, .extract 1 (.l 5), none⟩,
    ⟨some 16, .move (.l 6), none⟩,
    ⟨some 17, .move (.l 7), none⟩] [] st := rfl
def a0r12 : List AOper := [⟨none, .move (.v 1), none⟩,
    ⟨none, .call 14 [.c (.int .i64 1)], none⟩,
    ⟨none, .bslice false 2 (.agg [.bool false, .isl []]) 1 [(0, .l 1)], none⟩,
    ⟨none, .call 24 [.l 0, .c (.int .i64 0), .l 2], none⟩,
    ⟨none, .move (.l 3), none⟩,
    ⟨none, .extract 0 (.l 4), none⟩,
    ⟨none, .extract 1 (.l 4), none⟩,
    ⟨none, .move (.l 5), none⟩,
    ⟨some 18, .move (.l 6), none⟩]
theorem a0r12_ev (C st) : evalOps C a0r12 [] st = evalOps C [⟨none, .move (.v 1), none⟩,
    ⟨none, .call 14 [.c (.int .i64 1)], none⟩,
    ⟨none, .bslice false 2 (.agg [.bool false, .isl []]) 1 [(0, .l 1)], none⟩,
    ⟨none, .call 24 [.l 0, .c (.int .i64 0), .l 2], none⟩,
    ⟨none, .move (.l 3), none⟩,
    ⟨none, .extract 0 (.l 4), none⟩,
    ⟨none, .extract 1 (.l 4), none⟩,
    ⟨none, .move (.l 5), none⟩,
    ⟨some 18, .move (.l 6), none⟩] [] st := rfl
def a0r13 : List AOper := [⟨none, .move (.v 2), none⟩,
    ⟨none, .bslice false 1 (.int .i64 0) 2 [(0, .c (.int .i64 3)), (1, .c (.int .i64 1))], none⟩,
    ⟨none, .call 23 [.l 1], none⟩,
    ⟨none, .call 10 [.l 0, .l 2], none⟩,
    ⟨none, .move (.l 3), none⟩,
    ⟨none, .bslice false 1 (.int .i64 0) 4 [(0, .c (.int .i64 3)), (1, .c (.int .i64 1)), (2, .c (.int .i64 4)), (3, .c (.int .i64 1))], some (4, true)⟩,
    ⟨none, .call 23 [.l 5], some (4, true)⟩,
    ⟨none, .bslice false 1 (.int .i64 0) 2 [(0, .c (.int .i64 4)), (1, .c (.int .i64 1))], some (4, true)⟩,
    ⟨none, .call 23 [.l 7], some (4, true)⟩,
    ⟨none, .call 14 [.c (.int .i64 (-1))], some (4, true)⟩,
    ⟨none, .call 25 [.l 6, .l 8, .l 9], some (4, true)⟩,
    ⟨none, .bslice false 1 (.int .i64 0) 2 [(0, .c (.int .i64 3)), (1, .c (.int .i64 1))], some (4, true)⟩,
    ⟨none, .call 23 [.l 11], some (4, true)⟩,
    ⟨none, .call 10 [.l 10, .l 12], some (4, true)⟩,
    ⟨none, .pick (.l 4) (.l 13) (.c (.bool false)), none⟩,
    ⟨some 19, .move (.l 14), none⟩]
theorem a0r13_ev (C st) : evalOps C a0r13 [] st = evalOps C [⟨none, .move (.v 2), none⟩,
    ⟨none, .bslice false 1 (.int .i64 0) 2 [(0, .c (.int .i64 3)), (1, .c (.int .i64 1))], none⟩,
    ⟨none, .call 23 [.l 1], none⟩,
    ⟨none, .call 10 [.l 0, .l 2], none⟩,
    ⟨none, .move (.l 3), none⟩,
    ⟨none, .bslice false 1 (.int .i64 0) 4 [(0, .c (.int .i64 3)), (1, .c (.int .i64 1)), (2, .c (.int .i64 4)), (3, .c (.int .i64 1))], some (4, true)⟩,
    ⟨none, .call 23 [.l 5], some (4, true)⟩,
    ⟨none, .bslice false 1 (.int .i64 0) 2 [(0, .c (.int .i64 4)), (1, .c (.int .i64 1))], some (4, true)⟩,
    ⟨none, .call 23 [.l 7], some (4, true)⟩,
    ⟨none, .call 14 [.c (.int .i64 (-1))], some (4, true)⟩,
    ⟨none, .call 25 [.l 6, .l 8, .l 9], some (4, true)⟩,
    ⟨none, .bslice false 1 (.int .i64 0) 2 [(0, .c (.int .i64 3)), (1, .c (.int .i64 1))], some (4, true)⟩,
    ⟨none, .call 23 [.l 11], some (4, true)⟩,
    ⟨none, .call 10 [.l 10, .l 12], some (4, true)⟩,
    ⟨none, .pick (.l 4) (.l 13) (.c (.bool false)), none⟩,
    ⟨some 19, .move (.l 14), none⟩] [] st := rfl
def a0r14 : List AOper := [⟨none, .move (.v 4), none⟩,
    ⟨none, .bin .eql (.l 0) (.c (.int .i64 0)), none⟩,
    ⟨none, .move (.l 1), none⟩,
    ⟨none, .move (.v 3), some (2, true)⟩,
    ⟨none, .bin .eql (.l 3) (.c (.int .i64 1)), some (2, true)⟩,
    ⟨none, .pick (.l 2) (.l 4) (.c (.bool false)), none⟩,
    ⟨none, .move (.l 5), none⟩,
    ⟨none, .move (.v 6), some (6, true)⟩,
    ⟨none, .bin .eql (.l 7) (.c (.int .i64 0)), some (6, true)⟩,
    ⟨none, .pick (.l 6) (.l 8) (.c (.bool false)), none⟩,
    ⟨none, .move (.l 9), none⟩,
    ⟨none, .move (.v 5), some (10, true)⟩,
    ⟨none, .bin .eql (.l 11) (.c (.int .i64 (-1))), some (10, true)⟩,
    ⟨none, .pick (.l 10) (.l 12) (.c (.bool false)), none⟩,
    ⟨none, .move (.l 13), none⟩,
    ⟨none, .move (.v 7), some (14, true)⟩,
    ⟨none, .bin .eql (.l 15) (.c (.int .i64 260)), some (14, true)⟩,
    ⟨none, .pick (.l 14) (.l 16) (.c (.bool false)), none⟩,
    ⟨none, .move (.l 17), none⟩,
    ⟨none, .move (.v 8), some (18, true)⟩,
    ⟨none, .bin .eql (.l 19) (.c (.int .i64 250)), some (18, true)⟩,
    ⟨none, .pick (.l 18) (.l 20) (.c (.bool false)), none⟩,
    ⟨some 20, .move (.l 21), none⟩]
theorem a0r14_ev (C st) : evalOps C a0r14 [] st = evalOps C [⟨none, .move (.v 4), none⟩,
    ⟨none, .bin .eql (.l 0) (.c (.int .i64 0)), none⟩,
    ⟨none, .move (.l 1), none⟩,
    ⟨none, .move (.v 3), some (2, true)⟩,
    ⟨none, .bin .eql (.l 3) (.c (.int .i64 1)), some (2, true)⟩,
    ⟨none, .pick (.l 2) (.l 4) (.c (.bool false)), none⟩,
    ⟨none, .move (.l 5), none⟩,
    ⟨none, .move (.v 6), some (6, true)⟩,
    ⟨none, .bin .eql (.l 7) (.c (.int .i64 0)), some (6, true)⟩,
    ⟨none, .pick (.l 6) (.l 8) (.c (.bool false)), none⟩,
    ⟨none, .move (.l 9), none⟩,
    ⟨none, .move (.v 5), some (10, true)⟩,
    ⟨none, .bin .eql (.l 11) (.c (.int .i64 (-1))), some (10, true)⟩,
    ⟨none, .pick (.l 10) (.l 12) (.c (.bool false)), none⟩,
    ⟨none, .move (.l 13), none⟩,
    ⟨none, .move (.v 7), some (14, true)⟩,
    ⟨none, .bin .eql (.l 15) (.c (.int .i64 260)), some (14, true)⟩,
    ⟨none, .pick (.l 14) (.l 16) (.c (.bool false)), none⟩,
    ⟨none, .move (.l 17), none⟩,
    ⟨none, .move (.v 8), some (18, true)⟩,
    ⟨none, .bin .eql (.l 19) (.c (.int .i64 250)), some (18, true)⟩,
    ⟨none, .pick (.l 18) (.l 20) (.c (.bool false)), none⟩,
    ⟨some 20, .move (.l 21), none⟩] [] st := rfl
def a0r15 : List AOper := [⟨none, .move (.v 10), none⟩,
    ⟨none, .bin .eql (.l 0) (.c (.int .i64 0)), none⟩,
    ⟨none, .move (.l 1), none⟩,
    ⟨none, .move (.v 9), some (2, true)⟩,
    ⟨none, .bslice false 1 (.int .i64 0) 4 [(0, .c (.int .i64 1)), (1, .c (.int .i64 (-2))), (2, .c (.int .i64 2)), (3, .c (.int .i64 2))], some (2, true)⟩,
    ⟨none, .call 23 [.l 4], some (2, true)⟩,
    ⟨none, .call 10 [.l 3, .l 5], some (2, true)⟩,
    ⟨none, .pick (.l 2) (.l 6) (.c (.bool false)), none⟩,
    ⟨none, .move (.l 7), none⟩,
    ⟨none, .move (.v 12), some (8, true)⟩,
    ⟨none, .bin .eql (.l 9) (.c (.int .i64 0)), some (8, true)⟩,
    ⟨none, .pick (.l 8) (.l 10) (.c (.bool false)), none⟩,
    ⟨none, .move (.l 11), none⟩,
    ⟨none, .move (.v 11), some (12, true)⟩,
    ⟨none, .bslice false 1 (.int .i64 0) 2 [(0, .c (.int .i64 4)), (1, .c (.int .i64 2))], some (12, true)⟩,
    ⟨none, .call 23 [.l 14], some (12, true)⟩,
    ⟨none, .call 10 [.l 13, .l 15], some (12, true)⟩,
    ⟨none, .pick (.l 12) (.l 16) (.c (.bool false)), none⟩,
    ⟨none, .move (.l 17), none⟩,
    ⟨none, .move (.v 1), some (18, true)⟩,
    ⟨none, .bslice false 1 (.int .i64 0) 2 [(0, .c (.int .i64 3)), (1, .c (.int .i64 1))], some (18, true)⟩,
    ⟨none, .call 23 [.l 20], some (18, true)⟩,
    ⟨none, .call 11 [.l 19, .l 21], some (18, true)⟩,
    ⟨none, .un .not (.l 22), some (18, true)⟩,
    ⟨none, .pick (.l 18) (.l 23) (.c (.bool false)), none⟩,
    ⟨none, .move (.l 24), none⟩,
    ⟨none, .move (.v 1), some (25, true)⟩,
    ⟨none, .bslice false 1 (.int .i64 0) 2 [(0, .c (.int .i64 4)), (1, .c (.int .i64 1))], some (25, true)⟩,
    ⟨none, .call 23 [.l 27], some (25, true)⟩,
    ⟨none, .call 11 [.l 26, .l 28], some (25, true)⟩,
    ⟨none, .pick (.l 25) (.l 29) (.c (.bool false)), none⟩,
    ⟨none, .move (.l 30), none⟩,
    ⟨none, .move (.v 1), some (31, true)⟩,
    ⟨none, .bslice false 1 (.int .i64 0) 4 [(0, .c (.int .i64 1)), (1, .c (.int .i64 1)), (2, .c (.int .i64 3)), (3, .c (.int .i64 1))], some (31, true)⟩,
    ⟨none, .call 23 [.l 33], some (31, true)⟩,
    ⟨none, .call 11 [.l 32, .l 34], some (31, true)⟩,
    ⟨none, .un .not (.l 35), some (31, true)⟩,
    ⟨none, .pick (.l 31) (.l 36) (.c (.bool false)), none⟩,
    ⟨none, .move (.l 37), none⟩,
    ⟨none, .move (.v 1), some (38, true)⟩,
    ⟨none, .call 11 [.l 39, .c (.isl [])], some (38, true)⟩,
    ⟨none, .pick (.l 38) (.l 40) (.c (.bool false)), none⟩,
    ⟨some 21, .move (.l 41), none⟩]
theorem a0r15_ev (C st) : evalOps C a0r15 [] st = evalOps C [⟨none, .move (.v 10), none⟩,
    ⟨none, .bin .eql (.l 0) (.c (.int .i64 0)), none⟩,
    ⟨none, .move (.l 1), none⟩,
    ⟨none, .move (.v 9), some (2, true)⟩,
    ⟨none, .bslice false 1 (.int .i64 0) 4 [(0, .c (.int .i64 1)), (1, .c (.int .i64 (-2))), (2, .c (.int .i64 2)), (3, .c (.int .i64 2))], some (2, true)⟩,
    ⟨none, .call 23 [.l 4], some (2, true)⟩,
    ⟨none, .call 10 [.l 3, .l 5], some (2, true)⟩,
    ⟨none, .pick (.l 2) (.l 6) (.c (.bool false)), none⟩,
    ⟨none, .move (.l 7), none⟩,
    ⟨none, .move (.v 12), some (8, true)⟩,
    ⟨none, .bin .eql (.l 9) (.c (.int .i64 0)), some (8, true)⟩,
    ⟨none, .pick (.l 8) (.l 10) (.c (.bool false)), none⟩,
    ⟨none, .move (.l 11), none⟩,
    ⟨none, .move (.v 11), some (12, true)⟩,
    ⟨none, .bslice false 1 (.int .i64 0) 2 [(0, .c (.int .i64 4)), (1, .c (.int .i64 2))], some (12, true)⟩,
    ⟨none, .call 23 [.l 14], some (12, true)⟩,
    ⟨none, .call 10 [.l 13, .l 15], some (12, true)⟩,
    ⟨none, .pick (.l 12) (.l 16) (.c (.bool false)), none⟩,
    ⟨none, .move (.l 17), none⟩,
    ⟨none, .move (.v 1), some (18, true)⟩,
    ⟨none, .bslice false 1 (.int .i64 0) 2 [(0, .c (.int .i64 3)), (1, .c (.int .i64 1))], some (18, true)⟩,
    ⟨none, .call 23 [.l 20], some (18, true)⟩,
    ⟨none, .call 11 [.l 19, .l 21], some (18, true)⟩,
    ⟨none, .un .not (.l 22), some (18, true)⟩,
    ⟨none, .pick (.l 18) (.l 23) (.c (.bool false)), none⟩,
    ⟨none, .move (.l 24), none⟩,
    ⟨none, .move (.v 1), some (25, true)⟩,
    ⟨none, .bslice false 1 (.int .i64 0) 2 [(0, .c (.int .i64 4)), (1, .c (.int .i64 1))], some (25, true)⟩,
    ⟨none, .call 23 [.l 27], some (25, true)⟩,
    ⟨none, .call 11 [.l 26, .l 28], some (25, true)⟩,
    ⟨none, .pick (.l 25) (.l 29) (.c (.bool false)), none⟩,
    ⟨none, .move (.l 30), none⟩,
    ⟨none, .move (.v 1), some (31, true)⟩,
    ⟨none, .bslice false 1 (.int .i64 0) 4 [(0, .c (.int .i64 1)), (1, .c (.int .i64 1)), (2, .c (.int .i64 3)), (3, .c (.int .i64 1))], some (31, true)⟩,
    ⟨none, .call 23 [.l 33], some (31, true)⟩,
    ⟨none, .call 11 [.l 32, .l 34], some (31, true)⟩,
    ⟨none, .un .not (.l 35), some (31, true)⟩,
    ⟨none, .pick (.l 31) (.l 36) (.c (.bool false)), none⟩,
    ⟨none, .move (.l 37), none⟩,
    ⟨none, .move (.v 1), some (38, true)⟩,
    ⟨none, .call 11 [.l 39, .c (.isl [])], some (38, true)⟩,
    ⟨none, .pick (.l 38) (.l 40) (.c (.bool false)), none⟩,
    ⟨some 21, .move (.l 41), none⟩] [] st := rfl
def a0r16 : List AOper := [⟨none, .move (.v 14), none⟩,
    ⟨none, .bin .eql (.l 0) (.c (.int .i64 0)), none⟩,
    ⟨none, .move (.l 1), none⟩,
    ⟨none, .move (.v 13), some (2, true)⟩,
    ⟨none, .call 14 [.c (.int .i64 0)], some (2, true)⟩,
    ⟨none, .call 14 [.c (.int .i64 1)], some (2, true)⟩,
    ⟨none, .bslice false 2 (.agg [.bool false, .isl []]) 2 [(0, .l 4), (1, .l 5)], some (2, true)⟩,
    ⟨none, .call 13 [.l 3, .l 6], some (2, true)⟩,
    ⟨none, .pick (.l 2) (.l 7) (.c (.bool false)), none⟩,
    ⟨none, .move (.l 8), none⟩,
    ⟨none, .move (.v 15), some (9, true)⟩,
    ⟨none, .bin .eql (.l 10) (.c (.int .i64 260)), some (9, true)⟩,
    ⟨none, .pick (.l 9) (.l 11) (.c (.bool false)), none⟩,
    ⟨none, .move (.l 12), none⟩,
    ⟨none, .move (.v 17), some (13, true)⟩,
    ⟨none, .bin .eql (.l 14) (.c (.int .i64 0)), some (13, true)⟩,
    ⟨none, .pick (.l 13) (.l 15) (.c (.bool false)), none⟩,
    ⟨none, .move (.l 16), none⟩,
    ⟨none, .move (.v 16), some (17, true)⟩,
    ⟨none, .bslice false 1 (.int .i64 0) 4 [(0, .c (.int .i64 1)), (1, .c (.int .i64 1)), (2, .c (.int .i64 2)), (3, .c (.int .i64 (-1)))], some (17, true)⟩,
    ⟨none, .call 23 [.l 19], some (17, true)⟩,
    ⟨none, .call 10 [.l 18, .l 20], some (17, true)⟩,
    ⟨none, .pick (.l 17) (.l 21) (.c (.bool false)), none⟩,
    ⟨none, .move (.l 22), none⟩,
    ⟨none, .move (.v 18), some (23, true)⟩,
    ⟨none, .bin .eql (.l 24) (.c (.int .i64 50)), some (23, true)⟩,
    ⟨none, .pick (.l 23) (.l 25) (.c (.bool false)), none⟩,
    ⟨some 22, .move (.l 26), none⟩]
theorem a0r16_ev (C st) : evalOps C a0r16 [] st = evalOps C [⟨none, .move (.v 14), none⟩,
    ⟨none, .bin .eql (.l 0) (.c (.int .i64 0)), none⟩,
    ⟨none, .move (.l 1), none⟩,
    ⟨none, .move (.v 13), some (2, true)⟩,
    ⟨none, .call 14 [.c (.int .i64 0)], some (2, true)⟩,
    ⟨none, .call 14 [.c (.int .i64 1)], some (2, true)⟩,
    ⟨none, .bslice false 2 (.agg [.bool false, .isl []]) 2 [(0, .l 4), (1, .l 5)], some (2, true)⟩,
    ⟨none, .call 13 [.l 3, .l 6], some (2, true)⟩,
    ⟨none, .pick (.l 2) (.l 7) (.c (.bool false)), none⟩,
    ⟨none, .move (.l 8), none⟩,
    ⟨none, .move (.v 15), some (9, true)⟩,
    ⟨none, .bin .eql (.l 10) (.c (.int .i64 260)), some (9, true)⟩,
    ⟨none, .pick (.l 9) (.l 11) (.c (.bool false)), none⟩,
    ⟨none, .move (.l 12), none⟩,
    ⟨none, .move (.v 17), some (13, true)⟩,
    ⟨none, .bin .eql (.l 14) (.c (.int .i64 0)), some (13, true)⟩,
    ⟨none, .pick (.l 13) (.l 15) (.c (.bool false)), none⟩,
    ⟨none, .move (.l 16), none⟩,
    ⟨none, .move (.v 16), some (17, true)⟩,
    ⟨none, .bslice false 1 (.int .i64 0) 4 [(0, .c (.int .i64 1)), (1, .c (.int .i64 1)), (2, .c (.int .i64 2)), (3, .c (.int .i64 (-1)))], some (17, true)⟩,
    ⟨none, .call 23 [.l 19], some (17, true)⟩,
    ⟨none, .call 10 [.l 18, .l 20], some (17, true)⟩,
    ⟨none, .pick (.l 17) (.l 21) (.c (.bool false)), none⟩,
    ⟨none, .move (.l 22), none⟩,
    ⟨none, .move (.v 18), some (23, true)⟩,
    ⟨none, .bin .eql (.l 24) (.c (.int .i64 50)), some (23, true)⟩,
    ⟨none, .pick (.l 23) (.l 25) (.c (.bool false)), none⟩,
    ⟨some 22, .move (.l 26), none⟩] [] st := rfl
def a0r17 : List AOper := [⟨none, .move (.v 19), none⟩,
    ⟨none, .move (.l 0), none⟩,
    ⟨none, .move (.v 20), some (1, true)⟩,
    ⟨none, .pick (.l 1) (.l 2) (.c (.bool false)), none⟩,
    ⟨none, .move (.l 3), none⟩,
    ⟨none, .move (.v 21), some (4, true)⟩,
    ⟨none, .pick (.l 4) (.l 5) (.c (.bool false)), none⟩,
    ⟨none, .move (.l 6), none⟩,
    ⟨none, .move (.v 22), some (7, true)⟩,
    ⟨none, .pick (.l 7) (.l 8) (.c (.bool false)), none⟩,
    ⟨none, .move (.l 9), none⟩,
    ⟨none, .bslice false 1 (.int .i64 0) 2 [(0, .c (.int .i64 3)), (1, .c (.int .i64 1))], some (10, true)⟩,
    ⟨none, .call 23 [.l 11], some (10, true)⟩,
    ⟨none, .call 26 [.l 12], some (10, true)⟩,
    ⟨none, .pick (.l 10) (.l 13) (.c (.bool false)), none⟩,
    ⟨none, .move (.l 14), none⟩,
    ⟨none, .build [.int .i64 0, .agg [.bool false, .isl []]] [(0, .c (.int .i64 1))], some (15, true)⟩,
    ⟨none, .bslice false 3 (.agg [.int .i64 0, .agg [.bool false, .isl []]]) 1 [(0, .l 16)], some (15, true)⟩,
    ⟨none, .call 26 [.l 17], some (15, true)⟩,
    ⟨none, .un .not (.l 18), some (15, true)⟩,
    ⟨none, .pick (.l 15) (.l 19) (.c (.bool false)), none⟩,
    ⟨some 0, .move (.l 20), none⟩]
theorem a0r17_ev (C st) : evalOps C a0r17 [] st = evalOps C [⟨none, .move (.v 19), none⟩,
    ⟨none, .move (.l 0), none⟩,
    ⟨none, .move (.v 20), some (1, true)⟩,
    ⟨none, .pick (.l 1) (.l 2) (.c (.bool false)), none⟩,
    ⟨none, .move (.l 3), none⟩,
    ⟨none, .move (.v 21), some (4, true)⟩,
    ⟨none, .pick (.l 4) (.l 5) (.c (.bool false)), none⟩,
    ⟨none, .move (.l 6), none⟩,
    ⟨none, .move (.v 22), some (7, true)⟩,
    ⟨none, .pick (.l 7) (.l 8) (.c (.bool false)), none⟩,
    ⟨none, .move (.l 9), none⟩,
    ⟨none, .bslice false 1 (.int .i64 0) 2 [(0, .c (.int .i64 3)), (1, .c (.int .i64 1))], some (10, true)⟩,
    ⟨none, .call 23 [.l 11], some (10, true)⟩,
    ⟨none, .call 26 [.l 12], some (10, true)⟩,
    ⟨none, .pick (.l 10) (.l 13) (.c (.bool false)), none⟩,
    ⟨none, .move (.l 14), none⟩,
    ⟨none, .build [.int .i64 0, .agg [.bool false, .isl []]] [(0, .c (.int .i64 1))], some (15, true)⟩,
    ⟨none, .bslice false 3 (.agg [.int .i64 0, .agg [.bool false, .isl []]]) 1 [(0, .l 16)], some (15, true)⟩,
    ⟨none, .call 26 [.l 17], some (15, true)⟩,
    ⟨none, .un .not (.l 18), some (15, true)⟩,
    ⟨none, .pick (.l 15) (.l 19) (.c (.bool false)), none⟩,
    ⟨some 0, .move (.l 20), none⟩] [] st := rfl
def a0 : AFun := .mk .iso 0 23 [.v 0] (.seq (.region a0r0 false) (.seq (.region a0r1 false) (.seq (.region a0r2 false) (.seq (.region a0r3 false) (.seq (.region a0r4 false) (.seq (.region a0r5 false) (.seq (.region a0r6 false) (.seq (.region a0r7 false) (.seq (.region a0r8 false) (.seq (.region a0r9 false) (.seq (.region a0r10 false) (.seq (.region a0r11 false) (.seq (.region a0r12 false) (.seq (.region a0r13 false) (.seq (.region a0r14 false) (.seq (.region a0r15 false) (.seq (.region a0r16 false) (.seq (.region a0r17 false) (.ret)))))))))))))))))))
/- torsion/torsionref26.Faces -/
def a2r0 : List AOper := [⟨some 1, .move (.c (.isl [])), none⟩]
theorem a2r0_ev (C st) : evalOps C a2r0 [] st = evalOps C [⟨some 1, .move (.c (.isl [])), none⟩] [] st := rfl
def a2r1 : List AOper := [⟨none, .bslice true 3 (.agg [.int .i64 0, .agg [.bool false, .isl []]]) 0 [], none⟩,
    ⟨some 2, .move (.l 0), none⟩]
theorem a2r1_ev (C st) : evalOps C a2r1 [] st = evalOps C [⟨none, .bslice true 3 (.agg [.int .i64 0, .agg [.bool false, .isl []]]) 0 [], none⟩,
    ⟨some 2, .move (.l 0), none⟩] [] st := rfl
def a2r2 : List AOper := [⟨some 3, .move (.c (.int .i64 0)), none⟩]
theorem a2r2_ev (C st) : evalOps C a2r2 [] st = evalOps C [⟨some 3, .move (.c (.int .i64 0)), none⟩] [] st := rfl
def a2r3 : List AOper := [⟨none, .move (.v 3), none⟩,
    ⟨none, .move (.v 0), none⟩,
    ⟨none, .len 0 (.l 1), none⟩,
    ⟨none, .bin .lss (.l 0) (.l 2), none⟩,
    ⟨none, .move (.l 3), none⟩,
    ⟨none, .move (.v 3), some (4, true)⟩,
    ⟨none, .bin .lss (.l 5) (.c (.int .i64 6)), some (4, true)⟩,
    ⟨some 4, .pick (.l 4) (.l 6) (.c (.bool false)), none⟩]
theorem a2r3_ev (C st) : evalOps C a2r3 [] st = evalOps C [⟨none, .move (.v 3), none⟩,
    ⟨none, .move (.v 0), none⟩,
    ⟨none, .len 0 (.l 1), none⟩,
    ⟨none, .bin .lss (.l 0) (.l 2), none⟩,
    ⟨none, .move (.l 3), none⟩,
    ⟨none, .move (.v 3), some (4, true)⟩,
    ⟨none, .bin .lss (.l 5) (.c (.int .i64 6)), some (4, true)⟩,
    ⟨some 4, .pick (.l 4) (.l 6) (.c (.bool false)), none⟩] [] st := rfl
def a2r5 : List AOper := [⟨none, .move (.v 2), none⟩,
    ⟨none, .move (.v 0), none⟩,
    ⟨none, .move (.v 3), none⟩,
    ⟨none, .indexAddr 2 (.l 1) (.l 2), none⟩,
    ⟨none, .indexArr 2 1 (.l 3) (.c (.int .i64 0)), none⟩,
    ⟨none, .load false 1 (.l 4), none⟩,
    ⟨none, .conv .u8 (.l 5), none⟩,
    ⟨none, .bin .rem (.l 6) (.c (.int .u8 10)), none⟩,
    ⟨none, .conv .i64 (.l 7), none⟩,
    ⟨none, .move (.v 0), none⟩,
    ⟨none, .move (.v 3), none⟩,
    ⟨none, .indexAddr 2 (.l 9) (.l 10), none⟩,
    ⟨none, .indexArr 2 1 (.l 11) (.c (.int .i64 1)), none⟩,
    ⟨none, .load false 1 (.l 12), none⟩,
    ⟨none, .bin .rem (.l 13) (.c (.int .i8 4)), none⟩,
    ⟨none, .conv .i64 (.l 14), none⟩,
    ⟨none, .call 14 [.l 15], none⟩,
    ⟨none, .build [.int .i64 0, .agg [.bool false, .isl []]] [(0, .l 8), (1, .l 16)], none⟩,
    ⟨none, .bslice false 3 (.agg [.int .i64 0, .agg [.bool false, .isl []]]) 1 [(0, .l 17)], none⟩,
    ⟨none, .append 3 40 (.l 0) (.l 18), none⟩,
    ⟨some 2, .move (.l 19), none⟩]
theorem a2r5_ev (C st) : evalOps C a2r5 [] st = evalOps C [⟨none, .move (.v 2), none⟩,
    ⟨none, .move (.v 0), none⟩,
    ⟨none, .move (.v 3), none⟩,
    ⟨none, .indexAddr 2 (.l 1) (.l 2), none⟩,
    ⟨none, .indexArr 2 1 (.l 3) (.c (.int .i64 0)), none⟩,
    ⟨none, .load false 1 (.l 4), none⟩,
    ⟨none, .conv .u8 (.l 5), none⟩,
    ⟨none, .bin .rem (.l 6) (.c (.int .u8 10)), none⟩,
    ⟨none, .conv .i64 (.l 7), none⟩,
    ⟨none, .move (.v 0), none⟩,
    ⟨none, .move (.v 3), none⟩,
    ⟨none, .indexAddr 2 (.l 9) (.l 10), none⟩,
    ⟨none, .indexArr 2 1 (.l 11) (.c (.int .i64 1)), none⟩,
    ⟨none, .load false 1 (.l 12), none⟩,
    ⟨none, .bin .rem (.l 13) (.c (.int .i8 4)), none⟩,
    ⟨none, .conv .i64 (.l 14), none⟩,
    ⟨none, .call 14 [.l 15], none⟩,
    ⟨none, .build [.int .i64 0, .agg [.bool false, .isl []]] [(0, .l 8), (1, .l 16)], none⟩,
    ⟨none, .bslice false 3 (.agg [.int .i64 0, .agg [.bool false, .isl []]]) 1 [(0, .l 17)], none⟩,
    ⟨none, .append 3 40 (.l 0) (.l 18), none⟩,
    ⟨some 2, .move (.l 19), none⟩] [] st := rfl
def a2r4 : List AOper := [⟨none, .move (.v 3), none⟩,
    ⟨none, .bin .add (.l 0) (.c (.int .i64 1)), none⟩,
    ⟨some 3, .move (.l 1), none⟩]
theorem a2r4_ev (C st) : evalOps C a2r4 [] st = evalOps C [⟨none, .move (.v 3), none⟩,
    ⟨none, .bin .add (.l 0) (.c (.int .i64 1)), none⟩,
    ⟨some 3, .move (.l 1), none⟩] [] st := rfl
def a2b0 : AIR := .seq (.seq (.region a2r3 false) (.cond (.v 4) (.skip) (.exit 0))) (.seq (.block 1 (.region a2r5 true)) (.region a2r4 false))
def a2l0 : AIR := .loop true [0, 1, 2, 3] a2b0
theorem a2l0_run {E GP} (st) : run E GP a2l0 st = loopK (run E GP) a2l0 st.heap.length true [0, 1, 2, 3] st.rs (run E GP a2b0 { vars := st.vars, heap := st.heap, rs := false }) := run_loop _ _ _ _
def a2r6 : List AOper := [⟨none, .move (.v 2), none⟩,
    ⟨some 1, .move (.l 0), none⟩]
theorem a2r6_ev (C st) : evalOps C a2r6 [] st = evalOps C [⟨none, .move (.v 2), none⟩,
    ⟨some 1, .move (.l 0), none⟩] [] st := rfl
def a2 : AFun := .mk .iso 1 5 [.v 1] (.seq (.region a2r0 false) (.seq (.region a2r1 false) (.seq (.seq (.region a2r2 false) (.block 0 (a2l0))) (.seq (.region a2r6 false) (.ret)))))
/- torsion/torsionref26.Make -/
def a3r0 : List AOper := [⟨some 1, .move (.c (.isl [])), none⟩]
theorem a3r0_ev (C st) : evalOps C a3r0 [] st = evalOps C [⟨some 1, .move (.c (.isl [])), none⟩] [] st := rfl
def a3r1 : List AOper := [⟨none, .bslice false 3 (.agg [.int .i64 0, .agg [.bool false, .isl []]]) 0 [], none⟩,
    ⟨some 2, .move (.l 0), none⟩]
theorem a3r1_ev (C st) : evalOps C a3r1 [] st = evalOps C [⟨none, .bslice false 3 (.agg [.int .i64 0, .agg [.bool false, .isl []]]) 0 [], none⟩,
    ⟨some 2, .move (.l 0), none⟩] [] st := rfl
def a3r2 : List AOper := [⟨some 3, .move (.c (.int .i64 0)), none⟩]
theorem a3r2_ev (C st) : evalOps C a3r2 [] st = evalOps C [⟨some 3, .move (.c (.int .i64 0)), none⟩] [] st := rfl
def a3r3 : List AOper := [⟨none, .move (.v 3), none⟩,
    ⟨none, .move (.v 0), none⟩,
    ⟨none, .len 0 (.l 1), none⟩,
    ⟨some 4, .bin .lss (.l 0) (.l 2), none⟩]
theorem a3r3_ev (C st) : evalOps C a3r3 [] st = evalOps C [⟨none, .move (.v 3), none⟩,
    ⟨none, .move (.v 0), none⟩,
    ⟨none, .len 0 (.l 1), none⟩,
    ⟨some 4, .bin .lss (.l 0) (.l 2), none⟩] [] st := rfl
def a3r5 : List AOper := [⟨none, .move (.v 2), none⟩,
    ⟨none, .move (.v 0), none⟩,
    ⟨none, .move (.v 3), none⟩,
    ⟨none, .indexAddr 3 (.l 1) (.l 2), none⟩,
    ⟨none, .load true 3 (.l 3), none⟩,
    ⟨none, .call 29 [.l 0, .l 4], none⟩,
    ⟨some 2, .move (.l 5), none⟩]
theorem a3r5_ev (C st) : evalOps C a3r5 [] st = evalOps C [⟨none, .move (.v 2), none⟩,
    ⟨none, .move (.v 0), none⟩,
    ⟨none, .move (.v 3), none⟩,
    ⟨none, .indexAddr 3 (.l 1) (.l 2), none⟩,
    ⟨none, .load true 3 (.l 3), none⟩,
    ⟨none, .call 29 [.l 0, .l 4], none⟩,
    ⟨some 2, .move (.l 5), none⟩] [] st := rfl
def a3r4 : List AOper := [⟨none, .move (.v 3), none⟩,
    ⟨none, .bin .add (.l 0) (.c (.int .i64 1)), none⟩,
    ⟨some 3, .move (.l 1), none⟩]
theorem a3r4_ev (C st) : evalOps C a3r4 [] st = evalOps C [⟨none, .move (.v 3), none⟩,
    ⟨none, .bin .add (.l 0) (.c (.int .i64 1)), none⟩,
    ⟨some 3, .move (.l 1), none⟩] [] st := rfl
def a3b0 : AIR := .seq (.seq (.region a3r3 false) (.cond (.v 4) (.skip) (.exit 0))) (.seq (.block 1 (.region a3r5 false)) (.region a3r4 false))
def a3l0 : AIR := .loop true [0, 1, 2, 3] a3b0
theorem a3l0_run {E GP} (st) : run E GP a3l0 st = loopK (run E GP) a3l0 st.heap.length true [0, 1, 2, 3] st.rs (run E GP a3b0 { vars := st.vars, heap := st.heap, rs := false }) := run_loop _ _ _ _
def a3r6 : List AOper := [⟨none, .move (.v 2), none⟩,
    ⟨some 1, .move (.l 0), none⟩]
theorem a3r6_ev (C st) : evalOps C a3r6 [] st = evalOps C [⟨none, .move (.v 2), none⟩,
    ⟨some 1, .move (.l 0), none⟩] [] st := rfl
def a3 : AFun := .mk .iso 1 5 [.v 1] (.seq (.region a3r0 false) (.seq (.region a3r1 false) (.seq (.seq (.region a3r2 false) (.block 0 (a3l0))) (.seq (.region a3r6 false) (.ret)))))
/- torsion/torsionref26.Same -/
def a10r0 : List AOper := [⟨some 2, .move (.c (.bool false)), none⟩]
theorem a10r0_ev (C st) : evalOps C a10r0 [] st = evalOps C [⟨some 2, .move (.c (.bool false)), none⟩] [] st := rfl
def a10r1 : List AOper := [⟨none, .move (.v 0), none⟩,
    ⟨none, .len 0 (.l 0), none⟩,
    ⟨none, .move (.v 1), none⟩,
    ⟨none, .len 0 (.l 2), none⟩,
    ⟨some 4, .bin .neq (.l 1) (.l 3), none⟩]
theorem a10r1_ev (C st) : evalOps C a10r1 [] st = evalOps C [⟨none, .move (.v 0), none⟩,
    ⟨none, .len 0 (.l 0), none⟩,
    ⟨none, .move (.v 1), none⟩,
    ⟨none, .len 0 (.l 2), none⟩,
    ⟨some 4, .bin .neq (.l 1) (.l 3), none⟩] [] st := rfl
def a10r2 : List AOper := [⟨some 2, .move (.c (.bool false)), none⟩]
theorem a10r2_ev (C st) : evalOps C a10r2 [] st = evalOps C [⟨some 2, .move (.c (.bool false)), none⟩] [] st := rfl
def a10r3 : List AOper := [⟨some 3, .move (.c (.int .i64 0)), none⟩]
theorem a10r3_ev (C st) : evalOps C a10r3 [] st = evalOps C [⟨some 3, .move (.c (.int .i64 0)), none⟩] [] st := rfl
def a10r4 : List AOper := [⟨none, .move (.v 3), none⟩,
    ⟨none, .move (.v 0), none⟩,
    ⟨none, .len 0 (.l 1), none⟩,
    ⟨some 5, .bin .lss (.l 0) (.l 2), none⟩]
theorem a10r4_ev (C st) : evalOps C a10r4 [] st = evalOps C [⟨none, .move (.v 3), none⟩,
    ⟨none, .move (.v 0), none⟩,
    ⟨none, .len 0 (.l 1), none⟩,
    ⟨some 5, .bin .lss (.l 0) (.l 2), none⟩] [] st := rfl
def a10r6 : List AOper := [⟨none, .move (.v 0), none⟩,
    ⟨none, .move (.v 3), none⟩,
    ⟨none, .indexAddr 3 (.l 0) (.l 1), none⟩,
    ⟨none, .fieldAddr 0 0 (.l 2), none⟩,
    ⟨none, .load false 1 (.l 3), none⟩,
    ⟨none, .move (.v 1), none⟩,
    ⟨none, .move (.v 3), none⟩,
    ⟨none, .indexAddr 3 (.l 5) (.l 6), none⟩,
    ⟨none, .fieldAddr 0 0 (.l 7), none⟩,
    ⟨none, .load false 1 (.l 8), none⟩,
    ⟨none, .bin .neq (.l 4) (.l 9), none⟩,
    ⟨none, .move (.l 10), none⟩,
    ⟨none, .move (.v 0), some (11, false)⟩,
    ⟨none, .move (.v 3), some (11, false)⟩,
    ⟨none, .indexAddr 3 (.l 12) (.l 13), some (11, false)⟩,
    ⟨none, .fieldAddr 1 1 (.l 14), some (11, false)⟩,
    ⟨none, .load true 2 (.l 15), some (11, false)⟩,
    ⟨none, .move (.v 1), some (11, false)⟩,
    ⟨none, .move (.v 3), some (11, false)⟩,
    ⟨none, .indexAddr 3 (.l 17) (.l 18), some (11, false)⟩,
    ⟨none, .fieldAddr 1 1 (.l 19), some (11, false)⟩,
    ⟨none, .load true 2 (.l 20), some (11, false)⟩,
    ⟨none, .call 37 [.l 16, .l 21], some (11, false)⟩,
    ⟨none, .un .not (.l 22), some (11, false)⟩,
    ⟨some 6, .pick (.l 11) (.c (.bool true)) (.l 23), none⟩]
theorem a10r6_ev (C st) : evalOps C a10r6 [] st = evalOps C [⟨none, .move (.v 0), none⟩,
    ⟨none, .move (.v 3), none⟩,
    ⟨none, .indexAddr 3 (.l 0) (.l 1), none⟩,
    ⟨none, .fieldAddr 0 0 (.l 2), none⟩,
    ⟨none, .load false 1 (.l 3), none⟩,
    ⟨none, .move (.v 1), none⟩,
    ⟨none, .move (.v 3), none⟩,
    ⟨none, .indexAddr 3 (.l 5) (.l 6), none⟩,
    ⟨none, .fieldAddr 0 0 (.l 7), none⟩,
    ⟨none, .load false 1 (.l 8), none⟩,
    ⟨none, .bin .neq (.l 4) (.l 9), none⟩,
    ⟨none, .move (.l 10), none⟩,
    ⟨none, .move (.v 0), some (11, false)⟩,
    ⟨none, .move (.v 3), some (11, false)⟩,
    ⟨none, .indexAddr 3 (.l 12) (.l 13), some (11, false)⟩,
    ⟨none, .fieldAddr 1 1 (.l 14), some (11, false)⟩,
    ⟨none, .load true 2 (.l 15), some (11, false)⟩,
    ⟨none, .move (.v 1), some (11, false)⟩,
    ⟨none, .move (.v 3), some (11, false)⟩,
    ⟨none, .indexAddr 3 (.l 17) (.l 18), some (11, false)⟩,
    ⟨none, .fieldAddr 1 1 (.l 19), some (11, false)⟩,
    ⟨none, .load true 2 (.l 20), some (11, false)⟩,
    ⟨none, .call 37 [.l 16, .l 21], some (11, false)⟩,
    ⟨none, .un .not (.l 22), some (11, false)⟩,
    ⟨some 6, .pick (.l 11) (.c (.bool true)) (.l 23), none⟩] [] st := rfl
def a10r7 : List AOper := [⟨some 2, .move (.c (.bool false)), none⟩]
theorem a10r7_ev (C st) : evalOps C a10r7 [] st = evalOps C [⟨some 2, .move (.c (.bool false)), none⟩] [] st := rfl
def a10r5 : List AOper := [⟨none, .move (.v 3), none⟩,
    ⟨none, .bin .add (.l 0) (.c (.int .i64 1)), none⟩,
    ⟨some 3, .move (.l 1), none⟩]
theorem a10r5_ev (C st) : evalOps C a10r5 [] st = evalOps C [⟨none, .move (.v 3), none⟩,
    ⟨none, .bin .add (.l 0) (.c (.int .i64 1)), none⟩,
    ⟨some 3, .move (.l 1), none⟩] [] st := rfl
def a10b0 : AIR := .seq (.seq (.region a10r4 false) (.cond (.v 5) (.skip) (.exit 0))) (.seq (.block 1 (.seq (.region a10r6 true) (.cond (.v 6) (.seq (.region a10r7 false) (.ret)) (.skip)))) (.region a10r5 false))
def a10l0 : AIR := .loop true [0, 1, 2, 3, 4] a10b0
theorem a10l0_run {E GP} (st) : run E GP a10l0 st = loopK (run E GP) a10l0 st.heap.length true [0, 1, 2, 3, 4] st.rs (run E GP a10b0 { vars := st.vars, heap := st.heap, rs := false }) := run_loop _ _ _ _
def a10r8 : List AOper := [⟨some 2, .move (.c (.bool true)), none⟩]
theorem a10r8_ev (C st) : evalOps C a10r8 [] st = evalOps C [⟨some 2, .move (.c (.bool true)), none⟩] [] st := rfl
def a10 : AFun := .mk .iso 2 7 [.v 2] (.seq (.region a10r0 false) (.seq (.seq (.region a10r1 false) (.cond (.v 4) (.seq (.region a10r2 false) (.ret)) (.skip))) (.seq (.seq (.region a10r3 false) (.block 0 (a10l0))) (.seq (.region a10r8 false) (.ret)))))
/- torsion/chains.Make -/
def a22r0 : List AOper := [⟨some 1, .move (.c (.isl [])), none⟩]
theorem a22r0_ev (C st) : evalOps C a22r0 [] st = evalOps C [⟨some 1, .move (.c (.isl [])), none⟩] [] st := rfl
def a22r1 : List AOper := [⟨none, .mkmap, none⟩,
    ⟨some 2, .move (.l 0), none⟩]
theorem a22r1_ev (C st) : evalOps C a22r1 [] st = evalOps C [⟨none, .mkmap, none⟩,
    ⟨some 2, .move (.l 0), none⟩] [] st := rfl
def a22r2 : List AOper := [⟨some 3, .move (.v 0), none⟩,
    ⟨some 4, .len 0 (.l 0), none⟩,
    ⟨some 5, .move (.c (.int .i64 0)), none⟩]
theorem a22r2_ev (C st) : evalOps C a22r2 [] st = evalOps C [⟨some 3, .move (.v 0), none⟩,
    ⟨some 4, .len 0 (.l 0), none⟩,
    ⟨some 5, .move (.c (.int .i64 0)), none⟩] [] st := rfl
def a22r3 : List AOper := [⟨some 6, .bin .lss (.v 5) (.v 4), none⟩]
theorem a22r3_ev (C st) : evalOps C a22r3 [] st = evalOps C [⟨some 6, .bin .lss (.v 5) (.v 4), none⟩] [] st := rfl
def a22r4 : List AOper := [⟨none, .indexAddr 3 (.v 3) (.v 5), none⟩,
    ⟨none, .load true 3 (.l 0), none⟩,
    ⟨some 7, .cn (.agg [.int .i64 0, .agg [.bool false, .isl []]]), none⟩,
    ⟨some 7, .cs 3 (.l 2) (.l 1), none⟩]
theorem a22r4_ev (C st) : evalOps C a22r4 [] st = evalOps C [⟨none, .indexAddr 3 (.v 3) (.v 5), none⟩,
    ⟨none, .load true 3 (.l 0), none⟩,
    ⟨some 7, .cn (.agg [.int .i64 0, .agg [.bool false, .isl []]]), none⟩,
    ⟨some 7, .cs 3 (.l 2) (.l 1), none⟩] [] st := rfl
def a22r5 : List AOper := [⟨none, .move (.v 2), none⟩,
    ⟨none, .ca (.v 7), none⟩,
    ⟨none, .field 0 0 false 1 (.v 7), none⟩,
    ⟨none, .ca (.v 7), none⟩,
    ⟨none, .field 1 1 true 2 (.v 7), none⟩,
    ⟨none, .call 33 [.l 0, .l 2, .l 4], none⟩]
theorem a22r5_ev (C st) : evalOps C a22r5 [] st = evalOps C [⟨none, .move (.v 2), none⟩,
    ⟨none, .ca (.v 7), none⟩,
    ⟨none, .field 0 0 false 1 (.v 7), none⟩,
    ⟨none, .ca (.v 7), none⟩,
    ⟨none, .field 1 1 true 2 (.v 7), none⟩,
    ⟨none, .call 33 [.l 0, .l 2, .l 4], none⟩] [] st := rfl
def a22r6 : List AOper := [⟨none, .bin .add (.v 5) (.c (.int .i64 1)), none⟩,
    ⟨some 5, .move (.l 0), none⟩]
theorem a22r6_ev (C st) : evalOps C a22r6 [] st = evalOps C [⟨none, .bin .add (.v 5) (.c (.int .i64 1)), none⟩,
    ⟨some 5, .move (.l 0), none⟩] [] st := rfl
def a22b0 : AIR := .seq (.region a22r3 false) (.seq (.cond (.v 6) (.skip) (.exit 0)) (.seq (.block 1 (.seq (.region a22r4 false) (.region a22r5 false))) (.region a22r6 false)))
def a22l0 : AIR := .loop true [0, 1, 2, 3, 4, 5] a22b0
theorem a22l0_run {E GP} (st) : run E GP a22l0 st = loopK (run E GP) a22l0 st.heap.length true [0, 1, 2, 3, 4, 5] st.rs (run E GP a22b0 { vars := st.vars, heap := st.heap, rs := false }) := run_loop _ _ _ _
def a22r7 : List AOper := [⟨none, .move (.v 2), none⟩,
    ⟨none, .call 34 [.l 0], none⟩,
    ⟨some 1, .move (.l 1), none⟩]
theorem a22r7_ev (C st) : evalOps C a22r7 [] st = evalOps C [⟨none, .move (.v 2), none⟩,
    ⟨none, .call 34 [.l 0], none⟩,
    ⟨some 1, .move (.l 1), none⟩] [] st := rfl
def a22 : AFun := .mk .iso 1 8 [.v 1] (.seq (.region a22r0 false) (.seq (.region a22r1 false) (.seq (.seq (.region a22r2 false) (.block 0 (a22l0))) (.seq (.region a22r7 false) (.ret)))))
def a128 : AFun := .mk .con a22.params a22.slots a22.results a22.body
/- torsion/chains.Add -/
def a25r0 : List AOper := [⟨some 13, .cb (.v 2), none⟩,
    ⟨some 3, .move (.c (.isl [])), none⟩]
theorem a25r0_ev (C st) : evalOps C a25r0 [] st = evalOps C [⟨some 13, .cb (.v 2), none⟩,
    ⟨some 3, .move (.c (.isl [])), none⟩] [] st := rfl
def a25r1 : List AOper := [⟨none, .mkmap, none⟩,
    ⟨some 4, .move (.l 0), none⟩]
theorem a25r1_ev (C st) : evalOps C a25r1 [] st = evalOps C [⟨none, .mkmap, none⟩,
    ⟨some 4, .move (.l 0), none⟩] [] st := rfl
def a25r2 : List AOper := [⟨some 5, .move (.v 0), none⟩,
    ⟨some 6, .len 0 (.l 0), none⟩,
    ⟨some 7, .move (.c (.int .i64 0)), none⟩]
theorem a25r2_ev (C st) : evalOps C a25r2 [] st = evalOps C [⟨some 5, .move (.v 0), none⟩,
    ⟨some 6, .len 0 (.l 0), none⟩,
    ⟨some 7, .move (.c (.int .i64 0)), none⟩] [] st := rfl
def a25r3 : List AOper := [⟨some 8, .bin .lss (.v 7) (.v 6), none⟩]
theorem a25r3_ev (C st) : evalOps C a25r3 [] st = evalOps C [⟨some 8, .bin .lss (.v 7) (.v 6), none⟩] [] st := rfl
def a25r4 : List AOper := [⟨none, .indexAddr 3 (.v 5) (.v 7), none⟩,
    ⟨none, .load true 3 (.l 0), none⟩,
    ⟨some 14, .cn (.agg [.int .i64 0, .agg [.bool false, .isl []]]), none⟩,
    ⟨some 14, .cs 3 (.l 2) (.l 1), none⟩]
theorem a25r4_ev (C st) : evalOps C a25r4 [] st = evalOps C [⟨none, .indexAddr 3 (.v 5) (.v 7), none⟩,
    ⟨none, .load true 3 (.l 0), none⟩,
    ⟨some 14, .cn (.agg [.int .i64 0, .agg [.bool false, .isl []]]), none⟩,
    ⟨some 14, .cs 3 (.l 2) (.l 1), none⟩] [] st := rfl
def a25r5 : List AOper := [⟨none, .move (.v 4), none⟩,
    ⟨none, .ca (.v 14), none⟩,
    ⟨none, .field 0 0 false 1 (.v 14), none⟩,
    ⟨none, .ca (.v 14), none⟩,
    ⟨none, .field 1 1 true 2 (.v 14), none⟩,
    ⟨none, .call 33 [.l 0, .l 2, .l 4], none⟩]
theorem a25r5_ev (C st) : evalOps C a25r5 [] st = evalOps C [⟨none, .move (.v 4), none⟩,
    ⟨none, .ca (.v 14), none⟩,
    ⟨none, .field 0 0 false 1 (.v 14), none⟩,
    ⟨none, .ca (.v 14), none⟩,
    ⟨none, .field 1 1 true 2 (.v 14), none⟩,
    ⟨none, .call 33 [.l 0, .l 2, .l 4], none⟩] [] st := rfl
def a25r6 : List AOper := [⟨none, .bin .add (.v 7) (.c (.int .i64 1)), none⟩,
    ⟨some 7, .move (.l 0), none⟩]
theorem a25r6_ev (C st) : evalOps C a25r6 [] st = evalOps C [⟨none, .bin .add (.v 7) (.c (.int .i64 1)), none⟩,
    ⟨some 7, .move (.l 0), none⟩] [] st := rfl
def a25b0 : AIR := .seq (.region a25r3 false) (.seq (.cond (.v 8) (.skip) (.exit 0)) (.seq (.block 1 (.seq (.region a25r4 false) (.region a25r5 false))) (.region a25r6 false)))
def a25l0 : AIR := .loop true [0, 1, 2, 3, 4, 5, 6, 7, 9, 10, 11, 12, 13, 15] a25b0
theorem a25l0_run {E GP} (st) : run E GP a25l0 st = loopK (run E GP) a25l0 st.heap.length true [0, 1, 2, 3, 4, 5, 6, 7, 9, 10, 11, 12, 13, 15] st.rs (run E GP a25b0 { vars := st.vars, heap := st.heap, rs := false }) := run_loop _ _ _ _
def a25r7 : List AOper := [⟨some 9, .move (.v 1), none⟩,
    ⟨some 10, .len 0 (.l 0), none⟩,
    ⟨some 11, .move (.c (.int .i64 0)), none⟩]
theorem a25r7_ev (C st) : evalOps C a25r7 [] st = evalOps C [⟨some 9, .move (.v 1), none⟩,
    ⟨some 10, .len 0 (.l 0), none⟩,
    ⟨some 11, .move (.c (.int .i64 0)), none⟩] [] st := rfl
def a25r8 : List AOper := [⟨some 12, .bin .lss (.v 11) (.v 10), none⟩]
theorem a25r8_ev (C st) : evalOps C a25r8 [] st = evalOps C [⟨some 12, .bin .lss (.v 11) (.v 10), none⟩] [] st := rfl
def a25r9 : List AOper := [⟨none, .indexAddr 3 (.v 9) (.v 11), none⟩,
    ⟨none, .load true 3 (.l 0), none⟩,
    ⟨some 15, .cn (.agg [.int .i64 0, .agg [.bool false, .isl []]]), none⟩,
    ⟨some 15, .cs 3 (.l 2) (.l 1), none⟩]
theorem a25r9_ev (C st) : evalOps C a25r9 [] st = evalOps C [⟨none, .indexAddr 3 (.v 9) (.v 11), none⟩,
    ⟨none, .load true 3 (.l 0), none⟩,
    ⟨some 15, .cn (.agg [.int .i64 0, .agg [.bool false, .isl []]]), none⟩,
    ⟨some 15, .cs 3 (.l 2) (.l 1), none⟩] [] st := rfl
def a25r10 : List AOper := [⟨none, .move (.v 4), none⟩,
    ⟨none, .ca (.v 15), none⟩,
    ⟨none, .field 0 0 false 1 (.v 15), none⟩,
    ⟨none, .cl true 2 (.v 13), none⟩,
    ⟨none, .ca (.v 15), none⟩,
    ⟨none, .field 1 1 true 2 (.v 15), none⟩,
    ⟨none, .call 32 [.l 3, .l 5], none⟩,
    ⟨none, .call 33 [.l 0, .l 2, .l 6], none⟩]
theorem a25r10_ev (C st) : evalOps C a25r10 [] st = evalOps C [⟨none, .move (.v 4), none⟩,
    ⟨none, .ca (.v 15), none⟩,
    ⟨none, .field 0 0 false 1 (.v 15), none⟩,
    ⟨none, .cl true 2 (.v 13), none⟩,
    ⟨none, .ca (.v 15), none⟩,
    ⟨none, .field 1 1 true 2 (.v 15), none⟩,
    ⟨none, .call 32 [.l 3, .l 5], none⟩,
    ⟨none, .call 33 [.l 0, .l 2, .l 6], none⟩] [] st := rfl
def a25r11 : List AOper := [⟨none, .bin .add (.v 11) (.c (.int .i64 1)), none⟩,
    ⟨some 11, .move (.l 0), none⟩]
theorem a25r11_ev (C st) : evalOps C a25r11 [] st = evalOps C [⟨none, .bin .add (.v 11) (.c (.int .i64 1)), none⟩,
    ⟨some 11, .move (.l 0), none⟩] [] st := rfl
def a25b1 : AIR := .seq (.region a25r8 false) (.seq (.cond (.v 12) (.skip) (.exit 2)) (.seq (.block 3 (.seq (.region a25r9 false) (.region a25r10 true))) (.region a25r11 false)))
def a25l1 : AIR := .loop true [0, 1, 2, 3, 4, 5, 6, 7, 8, 9, 10, 11, 13, 14] a25b1
theorem a25l1_run {E GP} (st) : run E GP a25l1 st = loopK (run E GP) a25l1 st.heap.length true [0, 1, 2, 3, 4, 5, 6, 7, 8, 9, 10, 11, 13, 14] st.rs (run E GP a25b1 { vars := st.vars, heap := st.heap, rs := false }) := run_loop _ _ _ _
def a25r12 : List AOper := [⟨none, .move (.v 4), none⟩,
    ⟨none, .call 34 [.l 0], none⟩,
    ⟨some 3, .move (.l 1), none⟩]
theorem a25r12_ev (C st) : evalOps C a25r12 [] st = evalOps C [⟨none, .move (.v 4), none⟩,
    ⟨none, .call 34 [.l 0], none⟩,
    ⟨some 3, .move (.l 1), none⟩] [] st := rfl
def a25 : AFun := .mk .iso 3 16 [.v 3] (.seq (.region a25r0 false) (.seq (.region a25r1 false) (.seq (.seq (.region a25r2 false) (.block 0 (a25l0))) (.seq (.seq (.region a25r7 false) (.block 2 (a25l1))) (.seq (.region a25r12 false) (.ret))))))
/- torsion/torsionref01.Of -/
def a14r0 : List AOper := [⟨some 3, .cn (.agg [.bool false, .isl []]), none⟩]
theorem a14r0_ev (C st) : evalOps C a14r0 [] st = evalOps C [⟨some 3, .cn (.agg [.bool false, .isl []]), none⟩] [] st := rfl
def a14r1 : List AOper := [⟨none, .move (.v 0), none⟩,
    ⟨none, .conv .u64 (.l 0), none⟩,
    ⟨some 1, .move (.l 1), none⟩]
theorem a14r1_ev (C st) : evalOps C a14r1 [] st = evalOps C [⟨none, .move (.v 0), none⟩,
    ⟨none, .conv .u64 (.l 0), none⟩,
    ⟨some 1, .move (.l 1), none⟩] [] st := rfl
def a14r2 : List AOper := [⟨none, .move (.v 0), none⟩,
    ⟨some 2, .bin .lss (.l 0) (.c (.int .i64 0)), none⟩]
theorem a14r2_ev (C st) : evalOps C a14r2 [] st = evalOps C [⟨none, .move (.v 0), none⟩,
    ⟨some 2, .bin .lss (.l 0) (.c (.int .i64 0)), none⟩] [] st := rfl
def a14r3 : List AOper := [⟨none, .move (.v 1), none⟩,
    ⟨none, .un .neg (.l 0), none⟩,
    ⟨some 1, .move (.l 1), none⟩]
theorem a14r3_ev (C st) : evalOps C a14r3 [] st = evalOps C [⟨none, .move (.v 1), none⟩,
    ⟨none, .un .neg (.l 0), none⟩,
    ⟨some 1, .move (.l 1), none⟩] [] st := rfl
def a14r4 : List AOper := [⟨none, .move (.v 1), none⟩,
    ⟨none, .conv .u32 (.l 0), none⟩,
    ⟨none, .move (.v 1), none⟩,
    ⟨none, .bin .shr (.l 2) (.c (.int .u64 32)), none⟩,
    ⟨none, .conv .u32 (.l 3), none⟩,
    ⟨none, .bslice false 1 (.int .u32 0) 2 [(0, .l 1), (1, .l 4)], none⟩,
    ⟨none, .move (.v 0), none⟩,
    ⟨none, .bin .lss (.l 6) (.c (.int .i64 0)), none⟩,
    ⟨none, .call 38 [.l 5, .l 7], none⟩,
    ⟨some 3, .cs 2 (.v 3) (.l 8), none⟩]
theorem a14r4_ev (C st) : evalOps C a14r4 [] st = evalOps C [⟨none, .move (.v 1), none⟩,
    ⟨none, .conv .u32 (.l 0), none⟩,
    ⟨none, .move (.v 1), none⟩,
    ⟨none, .bin .shr (.l 2) (.c (.int .u64 32)), none⟩,
    ⟨none, .conv .u32 (.l 3), none⟩,
    ⟨none, .bslice false 1 (.int .u32 0) 2 [(0, .l 1), (1, .l 4)], none⟩,
    ⟨none, .move (.v 0), none⟩,
    ⟨none, .bin .lss (.l 6) (.c (.int .i64 0)), none⟩,
    ⟨none, .call 38 [.l 5, .l 7], none⟩,
    ⟨some 3, .cs 2 (.v 3) (.l 8), none⟩] [] st := rfl
def a14 : AFun := .mk .iso 1 4 [.c 3 true 2] (.seq (.region a14r0 false) (.seq (.region a14r1 false) (.seq (.seq (.region a14r2 false) (.cond (.v 2) (.region a14r3 false) (.skip))) (.seq (.region a14r4 false) (.ret)))))
/- torsion/torsionref26.Add -/
def a16r0 : List AOper := [⟨some 7, .cb (.v 2), none⟩,
    ⟨some 3, .move (.c (.isl [])), none⟩]
theorem a16r0_ev (C st) : evalOps C a16r0 [] st = evalOps C [⟨some 7, .cb (.v 2), none⟩,
    ⟨some 3, .move (.c (.isl [])), none⟩] [] st := rfl
def a16r1 : List AOper := [⟨none, .move (.v 0), none⟩,
    ⟨some 4, .move (.l 0), none⟩]
theorem a16r1_ev (C st) : evalOps C a16r1 [] st = evalOps C [⟨none, .move (.v 0), none⟩,
    ⟨some 4, .move (.l 0), none⟩] [] st := rfl
def a16r2 : List AOper := [⟨some 5, .move (.c (.int .i64 0)), none⟩]
theorem a16r2_ev (C st) : evalOps C a16r2 [] st = evalOps C [⟨some 5, .move (.c (.int .i64 0)), none⟩] [] st := rfl
def a16r3 : List AOper := [⟨none, .move (.v 5), none⟩,
    ⟨none, .move (.v 1), none⟩,
    ⟨none, .len 0 (.l 1), none⟩,
    ⟨some 6, .bin .lss (.l 0) (.l 2), none⟩]
theorem a16r3_ev (C st) : evalOps C a16r3 [] st = evalOps C [⟨none, .move (.v 5), none⟩,
    ⟨none, .move (.v 1), none⟩,
    ⟨none, .len 0 (.l 1), none⟩,
    ⟨some 6, .bin .lss (.l 0) (.l 2), none⟩] [] st := rfl
def a16r5 : List AOper := [⟨none, .move (.v 4), none⟩,
    ⟨none, .move (.v 1), none⟩,
    ⟨none, .move (.v 5), none⟩,
    ⟨none, .indexAddr 3 (.l 1) (.l 2), none⟩,
    ⟨none, .fieldAddr 0 0 (.l 3), none⟩,
    ⟨none, .load false 1 (.l 4), none⟩,
    ⟨none, .cl true 2 (.v 7), none⟩,
    ⟨none, .move (.v 1), none⟩,
    ⟨none, .move (.v 5), none⟩,
    ⟨none, .indexAddr 3 (.l 7) (.l 8), none⟩,
    ⟨none, .fieldAddr 1 1 (.l 9), none⟩,
    ⟨none, .load true 2 (.l 10), none⟩,
    ⟨none, .call 41 [.l 6, .l 11], none⟩,
    ⟨none, .build [.int .i64 0, .agg [.bool false, .isl []]] [(0, .l 5), (1, .l 12)], none⟩,
    ⟨none, .call 29 [.l 0, .l 13], none⟩,
    ⟨some 4, .move (.l 14), none⟩]
theorem a16r5_ev (C st) : evalOps C a16r5 [] st = evalOps C [⟨none, .move (.v 4), none⟩,
    ⟨none, .move (.v 1), none⟩,
    ⟨none, .move (.v 5), none⟩,
    ⟨none, .indexAddr 3 (.l 1) (.l 2), none⟩,
    ⟨none, .fieldAddr 0 0 (.l 3), none⟩,
    ⟨none, .load false 1 (.l 4), none⟩,
    ⟨none, .cl true 2 (.v 7), none⟩,
    ⟨none, .move (.v 1), none⟩,
    ⟨none, .move (.v 5), none⟩,
    ⟨none, .indexAddr 3 (.l 7) (.l 8), none⟩,
    ⟨none, .fieldAddr 1 1 (.l 9), none⟩,
    ⟨none, .load true 2 (.l 10), none⟩,
    ⟨none, .call 41 [.l 6, .l 11], none⟩,
    ⟨none, .build [.int .i64 0, .agg [.bool false, .isl []]] [(0, .l 5), (1, .l 12)], none⟩,
    ⟨none, .call 29 [.l 0, .l 13], none⟩,
    ⟨some 4, .move (.l 14), none⟩] [] st := rfl
def a16r4 : List AOper := [⟨none, .move (.v 5), none⟩,
    ⟨none, .bin .add (.l 0) (.c (.int .i64 1)), none⟩,
    ⟨some 5, .move (.l 1), none⟩]
theorem a16r4_ev (C st) : evalOps C a16r4 [] st = evalOps C [⟨none, .move (.v 5), none⟩,
    ⟨none, .bin .add (.l 0) (.c (.int .i64 1)), none⟩,
    ⟨some 5, .move (.l 1), none⟩] [] st := rfl
def a16b0 : AIR := .seq (.seq (.region a16r3 false) (.cond (.v 6) (.skip) (.exit 0))) (.seq (.block 1 (.region a16r5 true)) (.region a16r4 false))
def a16l0 : AIR := .loop true [0, 1, 2, 3, 4, 5, 7] a16b0
theorem a16l0_run {E GP} (st) : run E GP a16l0 st = loopK (run E GP) a16l0 st.heap.length true [0, 1, 2, 3, 4, 5, 7] st.rs (run E GP a16b0 { vars := st.vars, heap := st.heap, rs := false }) := run_loop _ _ _ _
def a16r6 : List AOper := [⟨none, .move (.v 4), none⟩,
    ⟨some 3, .move (.l 0), none⟩]
theorem a16r6_ev (C st) : evalOps C a16r6 [] st = evalOps C [⟨none, .move (.v 4), none⟩,
    ⟨some 3, .move (.l 0), none⟩] [] st := rfl
def a16 : AFun := .mk .iso 3 8 [.v 3] (.seq (.region a16r0 false) (.seq (.region a16r1 false) (.seq (.seq (.region a16r2 false) (.block 0 (a16l0))) (.seq (.region a16r6 false) (.ret)))))
/- torsion/chains.Valid -/
def a26r0 : List AOper := [⟨some 1, .move (.c (.bool false)), none⟩]
theorem a26r0_ev (C st) : evalOps C a26r0 [] st = evalOps C [⟨some 1, .move (.c (.bool false)), none⟩] [] st := rfl
def a26r1 : List AOper := [⟨some 3, .move (.v 0), none⟩,
    ⟨some 4, .len 0 (.l 0), none⟩,
    ⟨some 5, .move (.c (.int .i64 0)), none⟩]
theorem a26r1_ev (C st) : evalOps C a26r1 [] st = evalOps C [⟨some 3, .move (.v 0), none⟩,
    ⟨some 4, .len 0 (.l 0), none⟩,
    ⟨some 5, .move (.c (.int .i64 0)), none⟩] [] st := rfl
def a26r2 : List AOper := [⟨some 6, .bin .lss (.v 5) (.v 4), none⟩]
theorem a26r2_ev (C st) : evalOps C a26r2 [] st = evalOps C [⟨some 6, .bin .lss (.v 5) (.v 4), none⟩] [] st := rfl
def a26r3 : List AOper := [⟨none, .move (.v 5), none⟩,
    ⟨none, .indexAddr 3 (.v 3) (.v 5), none⟩,
    ⟨none, .load true 3 (.l 1), none⟩,
    ⟨some 8, .cn (.agg [.int .i64 0, .agg [.bool false, .isl []]]), none⟩,
    ⟨some 2, .move (.l 0), none⟩,
    ⟨some 8, .cs 3 (.l 3) (.l 2), none⟩]
theorem a26r3_ev (C st) : evalOps C a26r3 [] st = evalOps C [⟨none, .move (.v 5), none⟩,
    ⟨none, .indexAddr 3 (.v 3) (.v 5), none⟩,
    ⟨none, .load true 3 (.l 1), none⟩,
    ⟨some 8, .cn (.agg [.int .i64 0, .agg [.bool false, .isl []]]), none⟩,
    ⟨some 2, .move (.l 0), none⟩,
    ⟨some 8, .cs 3 (.l 3) (.l 2), none⟩] [] st := rfl
def a26r4 : List AOper := [⟨none, .ca (.v 8), none⟩,
    ⟨none, .field 1 1 true 2 (.v 8), none⟩,
    ⟨none, .call 47 [.l 1], none⟩,
    ⟨none, .un .not (.l 2), none⟩,
    ⟨none, .move (.l 3), none⟩,
    ⟨none, .ca (.v 8), some (4, false)⟩,
    ⟨none, .field 1 1 true 2 (.v 8), some (4, false)⟩,
    ⟨none, .call 48 [.l 6], some (4, false)⟩,
    ⟨none, .bin .eql (.l 7) (.c (.int .i64 0)), some (4, false)⟩,
    ⟨none, .pick (.l 4) (.c (.bool true)) (.l 8), none⟩,
    ⟨none, .move (.l 9), none⟩,
    ⟨none, .move (.v 2), some (10, false)⟩,
    ⟨none, .bin .gtr (.l 11) (.c (.int .i64 0)), some (10, false)⟩,
    ⟨none, .move (.l 12), some (10, false)⟩,
    ⟨none, .move (.v 0), some (13, true)⟩,
    ⟨none, .move (.v 2), some (13, true)⟩,
    ⟨none, .bin .sub (.l 15) (.c (.int .i64 1)), some (13, true)⟩,
    ⟨none, .indexAddr 3 (.l 14) (.l 16), some (13, true)⟩,
    ⟨none, .fieldAddr 0 0 (.l 17), some (13, true)⟩,
    ⟨none, .load false 1 (.l 18), some (13, true)⟩,
    ⟨none, .ca (.v 8), some (13, true)⟩,
    ⟨none, .field 0 0 false 1 (.v 8), some (13, true)⟩,
    ⟨none, .bin .geq (.l 19) (.l 21), some (13, true)⟩,
    ⟨none, .pick (.l 13) (.l 22) (.c (.bool false)), some (10, false)⟩,
    ⟨some 7, .pick (.l 10) (.c (.bool true)) (.l 23), none⟩]
theorem a26r4_ev (C st) : evalOps C a26r4 [] st = evalOps C [⟨none, .ca (.v 8), none⟩,
    ⟨none, .field 1 1 true 2 (.v 8), none⟩,
    ⟨none, .call 47 [.l 1], none⟩,
    ⟨none, .un .not (.l 2), none⟩,
    ⟨none, .move (.l 3), none⟩,
    ⟨none, .ca (.v 8), some (4, false)⟩,
    ⟨none, .field 1 1 true 2 (.v 8), some (4, false)⟩,
    ⟨none, .call 48 [.l 6], some (4, false)⟩,
    ⟨none, .bin .eql (.l 7) (.c (.int .i64 0)), some (4, false)⟩,
    ⟨none, .pick (.l 4) (.c (.bool true)) (.l 8), none⟩,
    ⟨none, .move (.l 9), none⟩,
    ⟨none, .move (.v 2), some (10, false)⟩,
    ⟨none, .bin .gtr (.l 11) (.c (.int .i64 0)), some (10, false)⟩,
    ⟨none, .move (.l 12), some (10, false)⟩,
    ⟨none, .move (.v 0), some (13, true)⟩,
    ⟨none, .move (.v 2), some (13, true)⟩,
    ⟨none, .bin .sub (.l 15) (.c (.int .i64 1)), some (13, true)⟩,
    ⟨none, .indexAddr 3 (.l 14) (.l 16), some (13, true)⟩,
    ⟨none, .fieldAddr 0 0 (.l 17), some (13, true)⟩,
    ⟨none, .load false 1 (.l 18), some (13, true)⟩,
    ⟨none, .ca (.v 8), some (13, true)⟩,
    ⟨none, .field 0 0 false 1 (.v 8), some (13, true)⟩,
    ⟨none, .bin .geq (.l 19) (.l 21), some (13, true)⟩,
    ⟨none, .pick (.l 13) (.l 22) (.c (.bool false)), some (10, false)⟩,
    ⟨some 7, .pick (.l 10) (.c (.bool true)) (.l 23), none⟩] [] st := rfl
def a26r5 : List AOper := [⟨some 1, .move (.c (.bool false)), none⟩]
theorem a26r5_ev (C st) : evalOps C a26r5 [] st = evalOps C [⟨some 1, .move (.c (.bool false)), none⟩] [] st := rfl
def a26r6 : List AOper := [⟨none, .bin .add (.v 5) (.c (.int .i64 1)), none⟩,
    ⟨some 5, .move (.l 0), none⟩]
theorem a26r6_ev (C st) : evalOps C a26r6 [] st = evalOps C [⟨none, .bin .add (.v 5) (.c (.int .i64 1)), none⟩,
    ⟨some 5, .move (.l 0), none⟩] [] st := rfl
def a26b0 : AIR := .seq (.region a26r2 false) (.seq (.cond (.v 6) (.skip) (.exit 0)) (.seq (.block 1 (.seq (.region a26r3 false) (.seq (.region a26r4 true) (.cond (.v 7) (.seq (.region a26r5 false) (.ret)) (.skip))))) (.region a26r6 false)))
def a26l0 : AIR := .loop true [0, 1, 3, 4, 5] a26b0
theorem a26l0_run {E GP} (st) : run E GP a26l0 st = loopK (run E GP) a26l0 st.heap.length true [0, 1, 3, 4, 5] st.rs (run E GP a26b0 { vars := st.vars, heap := st.heap, rs := false }) := run_loop _ _ _ _
def a26r7 : List AOper := [⟨some 1, .move (.c (.bool true)), none⟩]
theorem a26r7_ev (C st) : evalOps C a26r7 [] st = evalOps C [⟨some 1, .move (.c (.bool true)), none⟩] [] st := rfl
def a26 : AFun := .mk .iso 1 9 [.v 1] (.seq (.region a26r0 false) (.seq (.seq (.region a26r1 false) (.block 0 (a26l0))) (.seq (.region a26r7 false) (.ret))))
/- torsion/torsionref26.Valid -/
def a17r0 : List AOper := [⟨some 1, .move (.c (.bool false)), none⟩]
theorem a17r0_ev (C st) : evalOps C a17r0 [] st = evalOps C [⟨some 1, .move (.c (.bool false)), none⟩] [] st := rfl
def a17r1 : List AOper := [⟨some 2, .move (.c (.int .i64 0)), none⟩]
theorem a17r1_ev (C st) : evalOps C a17r1 [] st = evalOps C [⟨some 2, .move (.c (.int .i64 0)), none⟩] [] st := rfl
def a17r2 : List AOper := [⟨none, .move (.v 2), none⟩,
    ⟨none, .move (.v 0), none⟩,
    ⟨none, .len 0 (.l 1), none⟩,
    ⟨some 3, .bin .lss (.l 0) (.l 2), none⟩]
theorem a17r2_ev (C st) : evalOps C a17r2 [] st = evalOps C [⟨none, .move (.v 2), none⟩,
    ⟨none, .move (.v 0), none⟩,
    ⟨none, .len 0 (.l 1), none⟩,
    ⟨some 3, .bin .lss (.l 0) (.l 2), none⟩] [] st := rfl
def a17r4 : List AOper := [⟨none, .move (.v 0), none⟩,
    ⟨none, .move (.v 2), none⟩,
    ⟨none, .indexAddr 3 (.l 0) (.l 1), none⟩,
    ⟨none, .fieldAddr 1 1 (.l 2), none⟩,
    ⟨none, .load true 2 (.l 3), none⟩,
    ⟨none, .call 42 [.l 4], none⟩,
    ⟨none, .un .not (.l 5), none⟩,
    ⟨none, .move (.l 6), none⟩,
    ⟨none, .move (.v 0), some (7, false)⟩,
    ⟨none, .move (.v 2), some (7, false)⟩,
    ⟨none, .indexAddr 3 (.l 8) (.l 9), some (7, false)⟩,
    ⟨none, .fieldAddr 1 1 (.l 10), some (7, false)⟩,
    ⟨none, .load true 2 (.l 11), some (7, false)⟩,
    ⟨none, .call 43 [.l 12], some (7, false)⟩,
    ⟨none, .bin .eql (.l 13) (.c (.int .i64 0)), some (7, false)⟩,
    ⟨none, .pick (.l 7) (.c (.bool true)) (.l 14), none⟩,
    ⟨none, .move (.l 15), none⟩,
    ⟨none, .move (.v 2), some (16, false)⟩,
    ⟨none, .bin .gtr (.l 17) (.c (.int .i64 0)), some (16, false)⟩,
    ⟨none, .move (.l 18), some (16, false)⟩,
    ⟨none, .move (.v 0), some (19, true)⟩,
    ⟨none, .move (.v 2), some (19, true)⟩,
    ⟨none, .bin .sub (.l 21) (.c (.int .i64 1)), some (19, true)⟩,
    ⟨none, .indexAddr 3 (.l 20) (.l 22), some (19, true)⟩,
    ⟨none, .fieldAddr 0 0 (.l 23), some (19, true)⟩,
    ⟨none, .load false 1 (.l 24), some (19, true)⟩,
    ⟨none, .move (.v 0), some (19, true)⟩,
    ⟨none, .move (.v 2), some (19, true)⟩,
    ⟨none, .indexAddr 3 (.l 26) (.l 27), some (19, true)⟩,
    ⟨none, .fieldAddr 0 0 (.l 28), some (19, true)⟩,
    ⟨none, .load false 1 (.l 29), some (19, true)⟩,
    ⟨none, .bin .geq (.l 25) (.l 30), some (19, true)⟩,
    ⟨none, .pick (.l 19) (.l 31) (.c (.bool false)), some (16, false)⟩,
    ⟨some 4, .pick (.l 16) (.c (.bool true)) (.l 32), none⟩]
theorem a17r4_ev (C st) : evalOps C a17r4 [] st = evalOps C [⟨none, .move (.v 0), none⟩,
    ⟨none, .move (.v 2), none⟩,
    ⟨none, .indexAddr 3 (.l 0) (.l 1), none⟩,
    ⟨none, .fieldAddr 1 1 (.l 2), none⟩,
    ⟨none, .load true 2 (.l 3), none⟩,
    ⟨none, .call 42 [.l 4], none⟩,
    ⟨none, .un .not (.l 5), none⟩,
    ⟨none, .move (.l 6), none⟩,
    ⟨none, .move (.v 0), some (7, false)⟩,
    ⟨none, .move (.v 2), some (7, false)⟩,
    ⟨none, .indexAddr 3 (.l 8) (.l 9), some (7, false)⟩,
    ⟨none, .fieldAddr 1 1 (.l 10), some (7, false)⟩,
    ⟨none, .load true 2 (.l 11), some (7, false)⟩,
    ⟨none, .call 43 [.l 12], some (7, false)⟩,
    ⟨none, .bin .eql (.l 13) (.c (.int .i64 0)), some (7, false)⟩,
    ⟨none, .pick (.l 7) (.c (.bool true)) (.l 14), none⟩,
    ⟨none, .move (.l 15), none⟩,
    ⟨none, .move (.v 2), some (16, false)⟩,
    ⟨none, .bin .gtr (.l 17) (.c (.int .i64 0)), some (16, false)⟩,
    ⟨none, .move (.l 18), some (16, false)⟩,
    ⟨none, .move (.v 0), some (19, true)⟩,
    ⟨none, .move (.v 2), some (19, true)⟩,
    ⟨none, .bin .sub (.l 21) (.c (.int .i64 1)), some (19, true)⟩,
    ⟨none, .indexAddr 3 (.l 20) (.l 22), some (19, true)⟩,
    ⟨none, .fieldAddr 0 0 (.l 23), some (19, true)⟩,
    ⟨none, .load false 1 (.l 24), some (19, true)⟩,
    ⟨none, .move (.v 0), some (19, true)⟩,
    ⟨none, .move (.v 2), some (19, true)⟩,
    ⟨none, .indexAddr 3 (.l 26) (.l 27), some (19, true)⟩,
    ⟨none, .fieldAddr 0 0 (.l 28), some (19, true)⟩,
    ⟨none, .load false 1 (.l 29), some (19, true)⟩,
    ⟨none, .bin .geq (.l 25) (.l 30), some (19, true)⟩,
    ⟨none, .pick (.l 19) (.l 31) (.c (.bool false)), some (16, false)⟩,
    ⟨some 4, .pick (.l 16) (.c (.bool true)) (.l 32), none⟩] [] st := rfl
def a17r5 : List AOper := [⟨some 1, .move (.c (.bool false)), none⟩]
theorem a17r5_ev (C st) : evalOps C a17r5 [] st = evalOps C [⟨some 1, .move (.c (.bool false)), none⟩] [] st := rfl
def a17r3 : List AOper := [⟨none, .move (.v 2), none⟩,
    ⟨none, .bin .add (.l 0) (.c (.int .i64 1)), none⟩,
    ⟨some 2, .move (.l 1), none⟩]
theorem a17r3_ev (C st) : evalOps C a17r3 [] st = evalOps C [⟨none, .move (.v 2), none⟩,
    ⟨none, .bin .add (.l 0) (.c (.int .i64 1)), none⟩,
    ⟨some 2, .move (.l 1), none⟩] [] st := rfl
def a17b0 : AIR := .seq (.seq (.region a17r2 false) (.cond (.v 3) (.skip) (.exit 0))) (.seq (.block 1 (.seq (.region a17r4 true) (.cond (.v 4) (.seq (.region a17r5 false) (.ret)) (.skip)))) (.region a17r3 false))
def a17l0 : AIR := .loop true [0, 1, 2] a17b0
theorem a17l0_run {E GP} (st) : run E GP a17l0 st = loopK (run E GP) a17l0 st.heap.length true [0, 1, 2] st.rs (run E GP a17b0 { vars := st.vars, heap := st.heap, rs := false }) := run_loop _ _ _ _
def a17r6 : List AOper := [⟨some 1, .move (.c (.bool true)), none⟩]
theorem a17r6_ev (C st) : evalOps C a17r6 [] st = evalOps C [⟨some 1, .move (.c (.bool true)), none⟩] [] st := rfl
def a17 : AFun := .mk .iso 1 5 [.v 1] (.seq (.region a17r0 false) (.seq (.seq (.region a17r1 false) (.block 0 (a17l0))) (.seq (.region a17r6 false) (.ret))))
/- torsion/torsionref01.Mul -/
def a41r0 : List AOper := [⟨some 9, .cb (.v 0), none⟩,
    ⟨some 10, .cb (.v 1), none⟩,
    ⟨some 11, .cn (.agg [.bool false, .isl []]), none⟩]
theorem a41r0_ev (C st) : evalOps C a41r0 [] st = evalOps C [⟨some 9, .cb (.v 0), none⟩,
    ⟨some 10, .cb (.v 1), none⟩,
    ⟨some 11, .cn (.agg [.bool false, .isl []]), none⟩] [] st := rfl
def a41r1 : List AOper := [⟨none, .ca (.v 9), none⟩,
    ⟨none, .field 1 1 false 1 (.v 9), none⟩,
    ⟨none, .len 0 (.l 1), none⟩,
    ⟨none, .ca (.v 10), none⟩,
    ⟨none, .field 1 1 false 1 (.v 10), none⟩,
    ⟨none, .len 0 (.l 4), none⟩,
    ⟨none, .bin .add (.l 2) (.l 5), none⟩,
    ⟨none, .bin .add (.l 6) (.c (.int .i64 1)), none⟩,
    ⟨none, .mkslice 1 4 (.int .u32 0) (.l 7) (.l 7), none⟩,
    ⟨some 2, .move (.l 8), none⟩]
theorem a41r1_ev (C st) : evalOps C a41r1 [] st = evalOps C [⟨none, .ca (.v 9), none⟩,
    ⟨none, .field 1 1 false 1 (.v 9), none⟩,
    ⟨none, .len 0 (.l 1), none⟩,
    ⟨none, .ca (.v 10), none⟩,
    ⟨none, .field 1 1 false 1 (.v 10), none⟩,
    ⟨none, .len 0 (.l 4), none⟩,
    ⟨none, .bin .add (.l 2) (.l 5), none⟩,
    ⟨none, .bin .add (.l 6) (.c (.int .i64 1)), none⟩,
    ⟨none, .mkslice 1 4 (.int .u32 0) (.l 7) (.l 7), none⟩,
    ⟨some 2, .move (.l 8), none⟩] [] st := rfl
def a41r2 : List AOper := [⟨some 3, .move (.c (.int .i64 0)), none⟩]
theorem a41r2_ev (C st) : evalOps C a41r2 [] st = evalOps C [⟨some 3, .move (.c (.int .i64 0)), none⟩] [] st := rfl
def a41r3 : List AOper := [⟨none, .move (.v 3), none⟩,
    ⟨none, .ca (.v 9), none⟩,
    ⟨none, .field 1 1 false 1 (.v 9), none⟩,
    ⟨none, .len 0 (.l 2), none⟩,
    ⟨some 6, .bin .lss (.l 0) (.l 3), none⟩]
theorem a41r3_ev (C st) : evalOps C a41r3 [] st = evalOps C [⟨none, .move (.v 3), none⟩,
    ⟨none, .ca (.v 9), none⟩,
    ⟨none, .field 1 1 false 1 (.v 9), none⟩,
    ⟨none, .len 0 (.l 2), none⟩,
    ⟨some 6, .bin .lss (.l 0) (.l 3), none⟩] [] st := rfl
def a41r5 : List AOper := [⟨some 4, .move (.c (.int .u64 0)), none⟩]
theorem a41r5_ev (C st) : evalOps C a41r5 [] st = evalOps C [⟨some 4, .move (.c (.int .u64 0)), none⟩] [] st := rfl
def a41r6 : List AOper := [⟨some 5, .move (.c (.int .i64 0)), none⟩]
theorem a41r6_ev (C st) : evalOps C a41r6 [] st = evalOps C [⟨some 5, .move (.c (.int .i64 0)), none⟩] [] st := rfl
def a41r7 : List AOper := [⟨none, .move (.v 5), none⟩,
    ⟨none, .ca (.v 10), none⟩,
    ⟨none, .field 1 1 false 1 (.v 10), none⟩,
    ⟨none, .len 0 (.l 2), none⟩,
    ⟨none, .bin .lss (.l 0) (.l 3), none⟩,
    ⟨none, .move (.l 4), none⟩,
    ⟨none, .move (.v 4), some (5, false)⟩,
    ⟨none, .bin .gtr (.l 6) (.c (.int .u64 0)), some (5, false)⟩,
    ⟨some 7, .pick (.l 5) (.c (.bool true)) (.l 7), none⟩]
theorem a41r7_ev (C st) : evalOps C a41r7 [] st = evalOps C [⟨none, .move (.v 5), none⟩,
    ⟨none, .ca (.v 10), none⟩,
    ⟨none, .field 1 1 false 1 (.v 10), none⟩,
    ⟨none, .len 0 (.l 2), none⟩,
    ⟨none, .bin .lss (.l 0) (.l 3), none⟩,
    ⟨none, .move (.l 4), none⟩,
    ⟨none, .move (.v 4), some (5, false)⟩,
    ⟨none, .bin .gtr (.l 6) (.c (.int .u64 0)), some (5, false)⟩,
    ⟨some 7, .pick (.l 5) (.c (.bool true)) (.l 7), none⟩] [] st := rfl
def a41r9 : List AOper := [⟨none, .move (.v 4), none⟩,
    ⟨none, .move (.v 2), none⟩,
    ⟨none, .move (.v 3), none⟩,
    ⟨none, .move (.v 5), none⟩,
    ⟨none, .bin .add (.l 2) (.l 3), none⟩,
    ⟨none, .indexAddr 1 (.l 1) (.l 4), none⟩,
    ⟨none, .load false 1 (.l 5), none⟩,
    ⟨none, .conv .u64 (.l 6), none⟩,
    ⟨none, .bin .add (.l 0) (.l 7), none⟩,
    ⟨some 4, .move (.l 8), none⟩]
theorem a41r9_ev (C st) : evalOps C a41r9 [] st = evalOps C [⟨none, .move (.v 4), none⟩,
    ⟨none, .move (.v 2), none⟩,
    ⟨none, .move (.v 3), none⟩,
    ⟨none, .move (.v 5), none⟩,
    ⟨none, .bin .add (.l 2) (.l 3), none⟩,
    ⟨none, .indexAddr 1 (.l 1) (.l 4), none⟩,
    ⟨none, .load false 1 (.l 5), none⟩,
    ⟨none, .conv .u64 (.l 6), none⟩,
    ⟨none, .bin .add (.l 0) (.l 7), none⟩,
    ⟨some 4, .move (.l 8), none⟩] [] st := rfl
def a41r10 : List AOper := [⟨none, .move (.v 5), none⟩,
    ⟨none, .ca (.v 10), none⟩,
    ⟨none, .field 1 1 false 1 (.v 10), none⟩,
    ⟨none, .len 0 (.l 2), none⟩,
    ⟨some 8, .bin .lss (.l 0) (.l 3), none⟩]
theorem a41r10_ev (C st) : evalOps C a41r10 [] st = evalOps C [⟨none, .move (.v 5), none⟩,
    ⟨none, .ca (.v 10), none⟩,
    ⟨none, .field 1 1 false 1 (.v 10), none⟩,
    ⟨none, .len 0 (.l 2), none⟩,
    ⟨some 8, .bin .lss (.l 0) (.l 3), none⟩] [] st := rfl
def a41r11 : List AOper := [⟨none, .move (.v 4), none⟩,
    ⟨none, .ca (.v 9), none⟩,
    ⟨none, .field 1 1 false 1 (.v 9), none⟩,
    ⟨none, .move (.v 3), none⟩,
    ⟨none, .indexAddr 1 (.l 2) (.l 3), none⟩,
    ⟨none, .load false 1 (.l 4), none⟩,
    ⟨none, .conv .u64 (.l 5), none⟩,
    ⟨none, .ca (.v 10), none⟩,
    ⟨none, .field 1 1 false 1 (.v 10), none⟩,
    ⟨none, .move (.v 5), none⟩,
    ⟨none, .indexAddr 1 (.l 8) (.l 9), none⟩,
    ⟨none, .load false 1 (.l 10), none⟩,
    ⟨none, .conv .u64 (.l 11), none⟩,
    ⟨none, .bin .mul (.l 6) (.l 12), none⟩,
    ⟨none, .bin .add (.l 0) (.l 13), none⟩,
    ⟨some 4, .move (.l 14), none⟩]
theorem a41r11_ev (C st) : evalOps C a41r11 [] st = evalOps C [⟨none, .move (.v 4), none⟩,
    ⟨none, .ca (.v 9), none⟩,
    ⟨none, .field 1 1 false 1 (.v 9), none⟩,
    ⟨none, .move (.v 3), none⟩,
    ⟨none, .indexAddr 1 (.l 2) (.l 3), none⟩,
    ⟨none, .load false 1 (.l 4), none⟩,
    ⟨none, .conv .u64 (.l 5), none⟩,
    ⟨none, .ca (.v 10), none⟩,
    ⟨none, .field 1 1 false 1 (.v 10), none⟩,
    ⟨none, .move (.v 5), none⟩,
    ⟨none, .indexAddr 1 (.l 8) (.l 9), none⟩,
    ⟨none, .load false 1 (.l 10), none⟩,
    ⟨none, .conv .u64 (.l 11), none⟩,
    ⟨none, .bin .mul (.l 6) (.l 12), none⟩,
    ⟨none, .bin .add (.l 0) (.l 13), none⟩,
    ⟨some 4, .move (.l 14), none⟩] [] st := rfl
def a41r12 : List AOper := [⟨none, .move (.v 2), none⟩,
    ⟨none, .move (.v 3), none⟩,
    ⟨none, .move (.v 5), none⟩,
    ⟨none, .bin .add (.l 1) (.l 2), none⟩,
    ⟨none, .move (.v 4), none⟩,
    ⟨none, .conv .u32 (.l 4), none⟩,
    ⟨none, .indexAddr 1 (.l 0) (.l 3), none⟩,
    ⟨none, .store 1 (.l 6) (.l 5), none⟩]
theorem a41r12_ev (C st) : evalOps C a41r12 [] st = evalOps C [⟨none, .move (.v 2), none⟩,
    ⟨none, .move (.v 3), none⟩,
    ⟨none, .move (.v 5), none⟩,
    ⟨none, .bin .add (.l 1) (.l 2), none⟩,
    ⟨none, .move (.v 4), none⟩,
    ⟨none, .conv .u32 (.l 4), none⟩,
    ⟨none, .indexAddr 1 (.l 0) (.l 3), none⟩,
    ⟨none, .store 1 (.l 6) (.l 5), none⟩] [] st := rfl
def a41r13 : List AOper := [⟨none, .move (.v 4), none⟩,
    ⟨none, .bin .quo (.l 0) (.c (.int .u64 4294967296)), none⟩,
    ⟨some 4, .move (.l 1), none⟩]
theorem a41r13_ev (C st) : evalOps C a41r13 [] st = evalOps C [⟨none, .move (.v 4), none⟩,
    ⟨none, .bin .quo (.l 0) (.c (.int .u64 4294967296)), none⟩,
    ⟨some 4, .move (.l 1), none⟩] [] st := rfl
def a41r8 : List AOper := [⟨none, .move (.v 5), none⟩,
    ⟨none, .bin .add (.l 0) (.c (.int .i64 1)), none⟩,
    ⟨some 5, .move (.l 1), none⟩]
theorem a41r8_ev (C st) : evalOps C a41r8 [] st = evalOps C [⟨none, .move (.v 5), none⟩,
    ⟨none, .bin .add (.l 0) (.c (.int .i64 1)), none⟩,
    ⟨some 5, .move (.l 1), none⟩] [] st := rfl
def a41b1 : AIR := .seq (.seq (.region a41r7 false) (.cond (.v 7) (.skip) (.exit 2))) (.seq (.block 3 (.seq (.region a41r9 false) (.seq (.seq (.region a41r10 false) (.cond (.v 8) (.region a41r11 true) (.skip))) (.seq (.region a41r12 false) (.region a41r13 false))))) (.region a41r8 false))
def a41l1 : AIR := .loop true [0, 1, 2, 3, 4, 5, 6, 9, 10, 11] a41b1
theorem a41l1_run {E GP} (st) : run E GP a41l1 st = loopK (run E GP) a41l1 st.heap.length true [0, 1, 2, 3, 4, 5, 6, 9, 10, 11] st.rs (run E GP a41b1 { vars := st.vars, heap := st.heap, rs := false }) := run_loop _ _ _ _
def a41r4 : List AOper := [⟨none, .move (.v 3), none⟩,
    ⟨none, .bin .add (.l 0) (.c (.int .i64 1)), none⟩,
    ⟨some 3, .move (.l 1), none⟩]
theorem a41r4_ev (C st) : evalOps C a41r4 [] st = evalOps C [⟨none, .move (.v 3), none⟩,
    ⟨none, .bin .add (.l 0) (.c (.int .i64 1)), none⟩,
    ⟨some 3, .move (.l 1), none⟩] [] st := rfl
def a41b0 : AIR := .seq (.seq (.region a41r3 false) (.cond (.v 6) (.skip) (.exit 0))) (.seq (.block 1 (.seq (.region a41r5 false) (.seq (.region a41r6 false) (.block 2 (a41l1))))) (.region a41r4 false))
def a41l0 : AIR := .loop true [0, 1, 2, 3, 9, 10, 11] a41b0
theorem a41l0_run {E GP} (st) : run E GP a41l0 st = loopK (run E GP) a41l0 st.heap.length true [0, 1, 2, 3, 9, 10, 11] st.rs (run E GP a41b0 { vars := st.vars, heap := st.heap, rs := false }) := run_loop _ _ _ _
def a41r14 : List AOper := [⟨none, .move (.v 2), none⟩,
    ⟨none, .ca (.v 9), none⟩,
    ⟨none, .field 0 0 false 1 (.v 9), none⟩,
    ⟨none, .ca (.v 10), none⟩,
    ⟨none, .field 0 0 false 1 (.v 10), none⟩,
    ⟨none, .binb true (.l 2) (.l 4), none⟩,
    ⟨none, .call 38 [.l 0, .l 5], none⟩,
    ⟨some 11, .cs 2 (.v 11) (.l 6), none⟩]
theorem a41r14_ev (C st) : evalOps C a41r14 [] st = evalOps C [⟨none, .move (.v 2), none⟩,
    ⟨none, .ca (.v 9), none⟩,
    ⟨none, .field 0 0 false 1 (.v 9), none⟩,
    ⟨none, .ca (.v 10), none⟩,
    ⟨none, .field 0 0 false 1 (.v 10), none⟩,
    ⟨none, .binb true (.l 2) (.l 4), none⟩,
    ⟨none, .call 38 [.l 0, .l 5], none⟩,
    ⟨some 11, .cs 2 (.v 11) (.l 6), none⟩] [] st := rfl
def a41 : AFun := .mk .iso 2 12 [.c 11 true 2] (.seq (.region a41r0 false) (.seq (.region a41r1 false) (.seq (.seq (.region a41r2 false) (.block 0 (a41l0))) (.seq (.region a41r14 false) (.ret)))))
/- torsion/torsionref26.Cell -/
def a21r0 : List AOper := [⟨some 6, .cn (.agg [.int .i64 0, .int .i64 0, .nl]), none⟩]
theorem a21r0_ev (C st) : evalOps C a21r0 [] st = evalOps C [⟨some 6, .cn (.agg [.int .i64 0, .int .i64 0, .nl]), none⟩] [] st := rfl
def a21r1 : List AOper := [⟨none, .bslice false 3 (.agg [.int .i64 0, .agg [.bool false, .isl []]]) 0 [], none⟩,
    ⟨some 3, .move (.l 0), none⟩]
theorem a21r1_ev (C st) : evalOps C a21r1 [] st = evalOps C [⟨none, .bslice false 3 (.agg [.int .i64 0, .agg [.bool false, .isl []]]) 0 [], none⟩,
    ⟨some 3, .move (.l 0), none⟩] [] st := rfl
def a21r2 : List AOper := [⟨some 4, .move (.c (.int .i64 0)), none⟩]
theorem a21r2_ev (C st) : evalOps C a21r2 [] st = evalOps C [⟨some 4, .move (.c (.int .i64 0)), none⟩] [] st := rfl
def a21r3 : List AOper := [⟨none, .move (.v 4), none⟩,
    ⟨none, .bin .add (.l 0) (.c (.int .i64 1)), none⟩,
    ⟨none, .move (.v 2), none⟩,
    ⟨none, .len 0 (.l 2), none⟩,
    ⟨some 5, .bin .lss (.l 1) (.l 3), none⟩]
theorem a21r3_ev (C st) : evalOps C a21r3 [] st = evalOps C [⟨none, .move (.v 4), none⟩,
    ⟨none, .bin .add (.l 0) (.c (.int .i64 1)), none⟩,
    ⟨none, .move (.v 2), none⟩,
    ⟨none, .len 0 (.l 2), none⟩,
    ⟨some 5, .bin .lss (.l 1) (.l 3), none⟩] [] st := rfl
def a21r5 : List AOper := [⟨none, .move (.v 3), none⟩,
    ⟨none, .move (.v 2), none⟩,
    ⟨none, .move (.v 4), none⟩,
    ⟨none, .indexAddr 1 (.l 1) (.l 2), none⟩,
    ⟨none, .load false 1 (.l 3), none⟩,
    ⟨none, .move (.v 2), none⟩,
    ⟨none, .move (.v 4), none⟩,
    ⟨none, .bin .add (.l 6) (.c (.int .i64 1)), none⟩,
    ⟨none, .indexAddr 1 (.l 5) (.l 7), none⟩,
    ⟨none, .load false 1 (.l 8), none⟩,
    ⟨none, .call 14 [.l 9], none⟩,
    ⟨none, .build [.int .i64 0, .agg [.bool false, .isl []]] [(0, .l 4), (1, .l 10)], none⟩,
    ⟨none, .call 29 [.l 0, .l 11], none⟩,
    ⟨some 3, .move (.l 12), none⟩]
theorem a21r5_ev (C st) : evalOps C a21r5 [] st = evalOps C [⟨none, .move (.v 3), none⟩,
    ⟨none, .move (.v 2), none⟩,
    ⟨none, .move (.v 4), none⟩,
    ⟨none, .indexAddr 1 (.l 1) (.l 2), none⟩,
    ⟨none, .load false 1 (.l 3), none⟩,
    ⟨none, .move (.v 2), none⟩,
    ⟨none, .move (.v 4), none⟩,
    ⟨none, .bin .add (.l 6) (.c (.int .i64 1)), none⟩,
    ⟨none, .indexAddr 1 (.l 5) (.l 7), none⟩,
    ⟨none, .load false 1 (.l 8), none⟩,
    ⟨none, .call 14 [.l 9], none⟩,
    ⟨none, .build [.int .i64 0, .agg [.bool false, .isl []]] [(0, .l 4), (1, .l 10)], none⟩,
    ⟨none, .call 29 [.l 0, .l 11], none⟩,
    ⟨some 3, .move (.l 12), none⟩] [] st := rfl
def a21r4 : List AOper := [⟨none, .move (.v 4), none⟩,
    ⟨none, .bin .add (.l 0) (.c (.int .i64 2)), none⟩,
    ⟨some 4, .move (.l 1), none⟩]
theorem a21r4_ev (C st) : evalOps C a21r4 [] st = evalOps C [⟨none, .move (.v 4), none⟩,
    ⟨none, .bin .add (.l 0) (.c (.int .i64 2)), none⟩,
    ⟨some 4, .move (.l 1), none⟩] [] st := rfl
def a21b0 : AIR := .seq (.seq (.region a21r3 false) (.cond (.v 5) (.skip) (.exit 0))) (.seq (.block 1 (.region a21r5 true)) (.region a21r4 false))
def a21l0 : AIR := .loop true [0, 1, 2, 3, 4, 6] a21b0
theorem a21l0_run {E GP} (st) : run E GP a21l0 st = loopK (run E GP) a21l0 st.heap.length true [0, 1, 2, 3, 4, 6] st.rs (run E GP a21b0 { vars := st.vars, heap := st.heap, rs := false }) := run_loop _ _ _ _
def a21r6 : List AOper := [⟨none, .move (.v 0), none⟩,
    ⟨none, .move (.v 1), none⟩,
    ⟨none, .move (.v 3), none⟩,
    ⟨none, .build [.int .i64 0, .int .i64 0, .nl] [(0, .l 0), (1, .l 1), (2, .l 2)], none⟩,
    ⟨some 6, .cs 3 (.v 6) (.l 3), none⟩]
theorem a21r6_ev (C st) : evalOps C a21r6 [] st = evalOps C [⟨none, .move (.v 0), none⟩,
    ⟨none, .move (.v 1), none⟩,
    ⟨none, .move (.v 3), none⟩,
    ⟨none, .build [.int .i64 0, .int .i64 0, .nl] [(0, .l 0), (1, .l 1), (2, .l 2)], none⟩,
    ⟨some 6, .cs 3 (.v 6) (.l 3), none⟩] [] st := rfl
def a21 : AFun := .mk .iso 3 7 [.c 6 true 3] (.seq (.region a21r0 false) (.seq (.region a21r1 false) (.seq (.seq (.region a21r2 false) (.block 0 (a21l0))) (.seq (.region a21r6 false) (.ret)))))
/- torsion/chains.Dim -/
def a4r0 : List AOper := [⟨some 2, .move (.c (.int .i64 0)), none⟩,
    ⟨some 3, .move (.c (.int .i64 0)), none⟩]
theorem a4r0_ev (C st) : evalOps C a4r0 [] st = evalOps C [⟨some 2, .move (.c (.int .i64 0)), none⟩,
    ⟨some 3, .move (.c (.int .i64 0)), none⟩] [] st := rfl
def a4r1 : List AOper := [⟨none, .move (.v 0), none⟩,
    ⟨none, .move (.v 1), none⟩,
    ⟨none, .call 30 [.l 0, .l 1], none⟩,
    ⟨none, .move (.l 2), none⟩,
    ⟨none, .extract 0 (.l 3), none⟩,
    ⟨none, .extract 1 (.l 3), none⟩,
    ⟨none, .extract 2 (.l 3), none⟩,
    ⟨none, .move (.l 4), none⟩,
    ⟨some 4, .move (.l 5), none⟩,
    ⟨some 5, .move (.l 6), none⟩]
theorem a4r1_ev (C st) : evalOps C a4r1 [] st = evalOps C [⟨none, .move (.v 0), none⟩,
    ⟨none, .move (.v 1), none⟩,
    ⟨none, .call 30 [.l 0, .l 1], none⟩,
    ⟨none, .move (.l 2), none⟩,
    ⟨none, .extract 0 (.l 3), none⟩,
    ⟨none, .extract 1 (.l 3), none⟩,
    ⟨none, .extract 2 (.l 3), none⟩,
    ⟨none, .move (.l 4), none⟩,
    ⟨some 4, .move (.l 5), none⟩,
    ⟨some 5, .move (.l 6), none⟩] [] st := rfl
def a4r2 : List AOper := [⟨none, .move (.v 4), none⟩,
    ⟨none, .move (.v 5), none⟩,
    ⟨some 2, .move (.l 0), none⟩,
    ⟨some 3, .move (.l 1), none⟩]
theorem a4r2_ev (C st) : evalOps C a4r2 [] st = evalOps C [⟨none, .move (.v 4), none⟩,
    ⟨none, .move (.v 5), none⟩,
    ⟨some 2, .move (.l 0), none⟩,
    ⟨some 3, .move (.l 1), none⟩] [] st := rfl
def a4 : AFun := .mk .iso 2 6 [.v 2, .v 3] (.seq (.region a4r0 false) (.seq (.region a4r1 false) (.seq (.region a4r2 false) (.ret))))
/- torsion/torsionlaw26.chain -/
def a23r0 : List AOper := [⟨some 1, .move (.c (.isl [])), none⟩]
theorem a23r0_ev (C st) : evalOps C a23r0 [] st = evalOps C [⟨some 1, .move (.c (.isl [])), none⟩] [] st := rfl
def a23r1 : List AOper := [⟨none, .move (.v 0), none⟩,
    ⟨none, .call 21 [.c (.int .i64 0), .c (.int .i64 0), .l 0], none⟩,
    ⟨none, .field 2 2 false 1 (.l 1), none⟩,
    ⟨some 1, .move (.l 2), none⟩]
theorem a23r1_ev (C st) : evalOps C a23r1 [] st = evalOps C [⟨none, .move (.v 0), none⟩,
    ⟨none, .call 21 [.c (.int .i64 0), .c (.int .i64 0), .l 0], none⟩,
    ⟨none, .field 2 2 false 1 (.l 1), none⟩,
    ⟨some 1, .move (.l 2), none⟩] [] st := rfl
def a23 : AFun := .mk .iso 1 2 [.v 1] (.seq (.region a23r0 false) (.seq (.region a23r1 false) (.ret)))
/- torsion/chains.Boundary -/
def a6r0 : List AOper := [⟨some 2, .move (.c (.isl [])), none⟩,
    ⟨some 3, .move (.c (.int .i64 0)), none⟩]
theorem a6r0_ev (C st) : evalOps C a6r0 [] st = evalOps C [⟨some 2, .move (.c (.isl [])), none⟩,
    ⟨some 3, .move (.c (.int .i64 0)), none⟩] [] st := rfl
def a6r1 : List AOper := [⟨none, .move (.v 0), none⟩,
    ⟨none, .move (.v 1), none⟩,
    ⟨none, .call 30 [.l 0, .l 1], none⟩,
    ⟨none, .move (.l 2), none⟩,
    ⟨none, .extract 0 (.l 3), none⟩,
    ⟨none, .extract 1 (.l 3), none⟩,
    ⟨none, .extract 2 (.l 3), none⟩,
    ⟨some 4, .move (.l 4), none⟩,
    ⟨none, .move (.l 5), none⟩,
    ⟨some 5, .move (.l 6), none⟩]
theorem a6r1_ev (C st) : evalOps C a6r1 [] st = evalOps C [⟨none, .move (.v 0), none⟩,
    ⟨none, .move (.v 1), none⟩,
    ⟨none, .call 30 [.l 0, .l 1], none⟩,
    ⟨none, .move (.l 2), none⟩,
    ⟨none, .extract 0 (.l 3), none⟩,
    ⟨none, .extract 1 (.l 3), none⟩,
    ⟨none, .extract 2 (.l 3), none⟩,
    ⟨some 4, .move (.l 4), none⟩,
    ⟨none, .move (.l 5), none⟩,
    ⟨some 5, .move (.l 6), none⟩] [] st := rfl
def a6r2 : List AOper := [⟨none, .move (.v 5), none⟩,
    ⟨some 8, .bin .neq (.l 0) (.c (.int .i64 0)), none⟩]
theorem a6r2_ev (C st) : evalOps C a6r2 [] st = evalOps C [⟨none, .move (.v 5), none⟩,
    ⟨some 8, .bin .neq (.l 0) (.c (.int .i64 0)), none⟩] [] st := rfl
def a6r3 : List AOper := [⟨none, .move (.v 5), none⟩,
    ⟨some 2, .move (.c (.isl [])), none⟩,
    ⟨some 3, .move (.l 0), none⟩]
theorem a6r3_ev (C st) : evalOps C a6r3 [] st = evalOps C [⟨none, .move (.v 5), none⟩,
    ⟨some 2, .move (.c (.isl [])), none⟩,
    ⟨some 3, .move (.l 0), none⟩] [] st := rfl
def a6r4 : List AOper := [⟨none, .mkmap, none⟩,
    ⟨some 6, .move (.l 0), none⟩]
theorem a6r4_ev (C st) : evalOps C a6r4 [] st = evalOps C [⟨none, .mkmap, none⟩,
    ⟨some 6, .move (.l 0), none⟩] [] st := rfl
def a6r5 : List AOper := [⟨some 9, .move (.v 4), none⟩,
    ⟨some 10, .len 0 (.l 0), none⟩,
    ⟨some 11, .move (.c (.int .i64 0)), none⟩]
theorem a6r5_ev (C st) : evalOps C a6r5 [] st = evalOps C [⟨some 9, .move (.v 4), none⟩,
    ⟨some 10, .len 0 (.l 0), none⟩,
    ⟨some 11, .move (.c (.int .i64 0)), none⟩] [] st := rfl
def a6r6 : List AOper := [⟨some 12, .bin .lss (.v 11) (.v 10), none⟩]
theorem a6r6_ev (C st) : evalOps C a6r6 [] st = evalOps C [⟨some 12, .bin .lss (.v 11) (.v 10), none⟩] [] st := rfl
def a6r7 : List AOper := [⟨none, .move (.v 11), none⟩,
    ⟨none, .indexAddr 3 (.v 9) (.v 11), none⟩,
    ⟨none, .load true 3 (.l 1), none⟩,
    ⟨some 17, .cn (.agg [.int .i64 0, .int .i64 0, .nl]), none⟩,
    ⟨some 7, .move (.l 0), none⟩,
    ⟨some 17, .cs 3 (.l 3) (.l 2), none⟩]
theorem a6r7_ev (C st) : evalOps C a6r7 [] st = evalOps C [⟨none, .move (.v 11), none⟩,
    ⟨none, .indexAddr 3 (.v 9) (.v 11), none⟩,
    ⟨none, .load true 3 (.l 1), none⟩,
    ⟨some 17, .cn (.agg [.int .i64 0, .int .i64 0, .nl]), none⟩,
    ⟨some 7, .move (.l 0), none⟩,
    ⟨some 17, .cs 3 (.l 3) (.l 2), none⟩] [] st := rfl
def a6r8 : List AOper := [⟨none, .ca (.v 17), none⟩,
    ⟨some 13, .field 2 2 false 1 (.v 17), none⟩,
    ⟨some 14, .len 0 (.l 1), none⟩,
    ⟨some 15, .move (.c (.int .i64 0)), none⟩]
theorem a6r8_ev (C st) : evalOps C a6r8 [] st = evalOps C [⟨none, .ca (.v 17), none⟩,
    ⟨some 13, .field 2 2 false 1 (.v 17), none⟩,
    ⟨some 14, .len 0 (.l 1), none⟩,
    ⟨some 15, .move (.c (.int .i64 0)), none⟩] [] st := rfl
def a6r9 : List AOper := [⟨some 16, .bin .lss (.v 15) (.v 14), none⟩]
theorem a6r9_ev (C st) : evalOps C a6r9 [] st = evalOps C [⟨some 16, .bin .lss (.v 15) (.v 14), none⟩] [] st := rfl
def a6r10 : List AOper := [⟨none, .indexAddr 3 (.v 13) (.v 15), none⟩,
    ⟨none, .load true 3 (.l 0), none⟩,
    ⟨some 18, .cn (.agg [.int .i64 0, .agg [.bool false, .isl []]]), none⟩,
    ⟨some 18, .cs 3 (.l 2) (.l 1), none⟩]
theorem a6r10_ev (C st) : evalOps C a6r10 [] st = evalOps C [⟨none, .indexAddr 3 (.v 13) (.v 15), none⟩,
    ⟨none, .load true 3 (.l 0), none⟩,
    ⟨some 18, .cn (.agg [.int .i64 0, .agg [.bool false, .isl []]]), none⟩,
    ⟨some 18, .cs 3 (.l 2) (.l 1), none⟩] [] st := rfl
def a6r11 : List AOper := [⟨none, .move (.v 6), none⟩,
    ⟨none, .ca (.v 18), none⟩,
    ⟨none, .field 0 0 false 1 (.v 18), none⟩,
    ⟨none, .move (.v 1), none⟩,
    ⟨none, .move (.v 7), none⟩,
    ⟨none, .indexAddr 3 (.l 3) (.l 4), none⟩,
    ⟨none, .fieldAddr 1 1 (.l 5), none⟩,
    ⟨none, .load true 2 (.l 6), none⟩,
    ⟨none, .ca (.v 18), none⟩,
    ⟨none, .field 1 1 true 2 (.v 18), none⟩,
    ⟨none, .call 32 [.l 7, .l 9], none⟩,
    ⟨none, .call 33 [.l 0, .l 2, .l 10], none⟩]
theorem a6r11_ev (C st) : evalOps C a6r11 [] st = evalOps C [⟨none, .move (.v 6), none⟩,
    ⟨none, .ca (.v 18), none⟩,
    ⟨none, .field 0 0 false 1 (.v 18), none⟩,
    ⟨none, .move (.v 1), none⟩,
    ⟨none, .move (.v 7), none⟩,
    ⟨none, .indexAddr 3 (.l 3) (.l 4), none⟩,
    ⟨none, .fieldAddr 1 1 (.l 5), none⟩,
    ⟨none, .load true 2 (.l 6), none⟩,
    ⟨none, .ca (.v 18), none⟩,
    ⟨none, .field 1 1 true 2 (.v 18), none⟩,
    ⟨none, .call 32 [.l 7, .l 9], none⟩,
    ⟨none, .call 33 [.l 0, .l 2, .l 10], none⟩] [] st := rfl
def a6r12 : List AOper := [⟨none, .bin .add (.v 15) (.c (.int .i64 1)), none⟩,
    ⟨some 15, .move (.l 0), none⟩]
theorem a6r12_ev (C st) : evalOps C a6r12 [] st = evalOps C [⟨none, .bin .add (.v 15) (.c (.int .i64 1)), none⟩,
    ⟨some 15, .move (.l 0), none⟩] [] st := rfl
def a6b1 : AIR := .seq (.region a6r9 false) (.seq (.cond (.v 16) (.skip) (.exit 2)) (.seq (.block 3 (.seq (.region a6r10 false) (.region a6r11 true))) (.region a6r12 false)))
def a6l1 : AIR := .loop true [0, 1, 2, 3, 4, 5, 6, 7, 8, 9, 10, 11, 12, 13, 14, 15, 17] a6b1
theorem a6l1_run {E GP} (st) : run E GP a6l1 st = loopK (run E GP) a6l1 st.heap.length true [0, 1, 2, 3, 4, 5, 6, 7, 8, 9, 10, 11, 12, 13, 14, 15, 17] st.rs (run E GP a6b1 { vars := st.vars, heap := st.heap, rs := false }) := run_loop _ _ _ _
def a6r13 : List AOper := [⟨none, .bin .add (.v 11) (.c (.int .i64 1)), none⟩,
    ⟨some 11, .move (.l 0), none⟩]
theorem a6r13_ev (C st) : evalOps C a6r13 [] st = evalOps C [⟨none, .bin .add (.v 11) (.c (.int .i64 1)), none⟩,
    ⟨some 11, .move (.l 0), none⟩] [] st := rfl
def a6b0 : AIR := .seq (.region a6r6 false) (.seq (.cond (.v 12) (.skip) (.exit 0)) (.seq (.block 1 (.seq (.region a6r7 false) (.seq (.region a6r8 false) (.block 2 (a6l1))))) (.region a6r13 false)))
def a6l0 : AIR := .loop true [0, 1, 2, 3, 4, 5, 6, 8, 9, 10, 11] a6b0
theorem a6l0_run {E GP} (st) : run E GP a6l0 st = loopK (run E GP) a6l0 st.heap.length true [0, 1, 2, 3, 4, 5, 6, 8, 9, 10, 11] st.rs (run E GP a6b0 { vars := st.vars, heap := st.heap, rs := false }) := run_loop _ _ _ _
def a6r14 : List AOper := [⟨none, .move (.v 6), none⟩,
    ⟨none, .call 34 [.l 0], none⟩,
    ⟨some 2, .move (.l 1), none⟩,
    ⟨some 3, .move (.c (.int .i64 0)), none⟩]
theorem a6r14_ev (C st) : evalOps C a6r14 [] st = evalOps C [⟨none, .move (.v 6), none⟩,
    ⟨none, .call 34 [.l 0], none⟩,
    ⟨some 2, .move (.l 1), none⟩,
    ⟨some 3, .move (.c (.int .i64 0)), none⟩] [] st := rfl
def a6 : AFun := .mk .iso 2 19 [.v 2, .v 3] (.seq (.region a6r0 false) (.seq (.region a6r1 false) (.seq (.seq (.region a6r2 false) (.cond (.v 8) (.seq (.region a6r3 false) (.ret)) (.skip))) (.seq (.region a6r4 false) (.seq (.seq (.region a6r5 false) (.block 0 (a6l0))) (.seq (.region a6r14 false) (.ret)))))))
/- torsion/chains.Vector -/
def a8r0 : List AOper := [⟨some 3, .move (.c (.isl [])), none⟩,
    ⟨some 4, .move (.c (.int .i64 0)), none⟩]
theorem a8r0_ev (C st) : evalOps C a8r0 [] st = evalOps C [⟨some 3, .move (.c (.isl [])), none⟩,
    ⟨some 4, .move (.c (.int .i64 0)), none⟩] [] st := rfl
def a8r1 : List AOper := [⟨none, .move (.v 0), none⟩,
    ⟨none, .move (.v 2), none⟩,
    ⟨none, .call 30 [.l 0, .l 1], none⟩,
    ⟨none, .move (.l 2), none⟩,
    ⟨none, .extract 0 (.l 3), none⟩,
    ⟨none, .extract 1 (.l 3), none⟩,
    ⟨none, .extract 2 (.l 3), none⟩,
    ⟨none, .move (.l 4), none⟩,
    ⟨some 5, .move (.l 5), none⟩,
    ⟨some 6, .move (.l 6), none⟩]
theorem a8r1_ev (C st) : evalOps C a8r1 [] st = evalOps C [⟨none, .move (.v 0), none⟩,
    ⟨none, .move (.v 2), none⟩,
    ⟨none, .call 30 [.l 0, .l 1], none⟩,
    ⟨none, .move (.l 2), none⟩,
    ⟨none, .extract 0 (.l 3), none⟩,
    ⟨none, .extract 1 (.l 3), none⟩,
    ⟨none, .extract 2 (.l 3), none⟩,
    ⟨none, .move (.l 4), none⟩,
    ⟨some 5, .move (.l 5), none⟩,
    ⟨some 6, .move (.l 6), none⟩] [] st := rfl
def a8r2 : List AOper := [⟨none, .move (.v 6), none⟩,
    ⟨none, .bin .neq (.l 0) (.c (.int .i64 0)), none⟩,
    ⟨some 10, .move (.l 1), none⟩]
theorem a8r2_ev (C st) : evalOps C a8r2 [] st = evalOps C [⟨none, .move (.v 6), none⟩,
    ⟨none, .bin .neq (.l 0) (.c (.int .i64 0)), none⟩,
    ⟨some 10, .move (.l 1), none⟩] [] st := rfl
def a8r3 : List AOper := [⟨none, .move (.v 6), none⟩,
    ⟨some 3, .move (.c (.isl [])), none⟩,
    ⟨some 4, .move (.l 0), none⟩]
theorem a8r3_ev (C st) : evalOps C a8r3 [] st = evalOps C [⟨none, .move (.v 6), none⟩,
    ⟨some 3, .move (.c (.isl [])), none⟩,
    ⟨some 4, .move (.l 0), none⟩] [] st := rfl
def a8r4 : List AOper := [⟨none, .move (.v 2), none⟩,
    ⟨none, .len 0 (.l 0), none⟩,
    ⟨none, .bin .gtr (.l 1) (.c (.int .i64 0)), none⟩,
    ⟨none, .move (.l 2), none⟩,
    ⟨none, .move (.v 5), some (3, true)⟩,
    ⟨none, .move (.v 1), some (3, true)⟩,
    ⟨none, .bin .neq (.l 4) (.l 5), some (3, true)⟩,
    ⟨none, .pick (.l 3) (.l 6) (.c (.bool false)), none⟩,
    ⟨some 11, .move (.l 7), none⟩]
theorem a8r4_ev (C st) : evalOps C a8r4 [] st = evalOps C [⟨none, .move (.v 2), none⟩,
    ⟨none, .len 0 (.l 0), none⟩,
    ⟨none, .bin .gtr (.l 1) (.c (.int .i64 0)), none⟩,
    ⟨none, .move (.l 2), none⟩,
    ⟨none, .move (.v 5), some (3, true)⟩,
    ⟨none, .move (.v 1), some (3, true)⟩,
    ⟨none, .bin .neq (.l 4) (.l 5), some (3, true)⟩,
    ⟨none, .pick (.l 3) (.l 6) (.c (.bool false)), none⟩,
    ⟨some 11, .move (.l 7), none⟩] [] st := rfl
def a8r5 : List AOper := [⟨some 3, .move (.c (.isl [])), none⟩,
    ⟨some 4, .move (.c (.int .i64 260)), none⟩]
theorem a8r5_ev (C st) : evalOps C a8r5 [] st = evalOps C [⟨some 3, .move (.c (.isl [])), none⟩,
    ⟨some 4, .move (.c (.int .i64 260)), none⟩] [] st := rfl
def a8r6 : List AOper := [⟨none, .mkmap, none⟩,
    ⟨some 7, .move (.l 0), none⟩]
theorem a8r6_ev (C st) : evalOps C a8r6 [] st = evalOps C [⟨none, .mkmap, none⟩,
    ⟨some 7, .move (.l 0), none⟩] [] st := rfl
def a8r7 : List AOper := [⟨some 12, .move (.v 2), none⟩,
    ⟨some 13, .len 0 (.l 0), none⟩,
    ⟨some 14, .move (.c (.int .i64 0)), none⟩]
theorem a8r7_ev (C st) : evalOps C a8r7 [] st = evalOps C [⟨some 12, .move (.v 2), none⟩,
    ⟨some 13, .len 0 (.l 0), none⟩,
    ⟨some 14, .move (.c (.int .i64 0)), none⟩] [] st := rfl
def a8r8 : List AOper := [⟨some 15, .bin .lss (.v 14) (.v 13), none⟩]
theorem a8r8_ev (C st) : evalOps C a8r8 [] st = evalOps C [⟨some 15, .bin .lss (.v 14) (.v 13), none⟩] [] st := rfl
def a8r9 : List AOper := [⟨none, .indexAddr 3 (.v 12) (.v 14), none⟩,
    ⟨none, .load true 3 (.l 0), none⟩,
    ⟨some 20, .cn (.agg [.int .i64 0, .agg [.bool false, .isl []]]), none⟩,
    ⟨some 20, .cs 3 (.l 2) (.l 1), none⟩]
theorem a8r9_ev (C st) : evalOps C a8r9 [] st = evalOps C [⟨none, .indexAddr 3 (.v 12) (.v 14), none⟩,
    ⟨none, .load true 3 (.l 0), none⟩,
    ⟨some 20, .cn (.agg [.int .i64 0, .agg [.bool false, .isl []]]), none⟩,
    ⟨some 20, .cs 3 (.l 2) (.l 1), none⟩] [] st := rfl
def a8r10 : List AOper := [⟨none, .move (.v 7), none⟩,
    ⟨none, .ca (.v 20), none⟩,
    ⟨none, .field 0 0 false 1 (.v 20), none⟩,
    ⟨none, .ca (.v 20), none⟩,
    ⟨none, .field 1 1 true 2 (.v 20), none⟩,
    ⟨none, .mupd (.l 0) (.l 2) (.l 4), none⟩]
theorem a8r10_ev (C st) : evalOps C a8r10 [] st = evalOps C [⟨none, .move (.v 7), none⟩,
    ⟨none, .ca (.v 20), none⟩,
    ⟨none, .field 0 0 false 1 (.v 20), none⟩,
    ⟨none, .ca (.v 20), none⟩,
    ⟨none, .field 1 1 true 2 (.v 20), none⟩,
    ⟨none, .mupd (.l 0) (.l 2) (.l 4), none⟩] [] st := rfl
def a8r11 : List AOper := [⟨none, .bin .add (.v 14) (.c (.int .i64 1)), none⟩,
    ⟨some 14, .move (.l 0), none⟩]
theorem a8r11_ev (C st) : evalOps C a8r11 [] st = evalOps C [⟨none, .bin .add (.v 14) (.c (.int .i64 1)), none⟩,
    ⟨some 14, .move (.l 0), none⟩] [] st := rfl
def a8b0 : AIR := .seq (.region a8r8 false) (.seq (.cond (.v 15) (.skip) (.exit 1)) (.seq (.block 2 (.seq (.region a8r9 false) (.region a8r10 false))) (.region a8r11 false)))
def a8l0 : AIR := .loop true [0, 1, 2, 3, 4, 5, 6, 7, 8, 9, 10, 11, 12, 13, 14, 16, 17, 18, 19] a8b0
theorem a8l0_run {E GP} (st) : run E GP a8l0 st = loopK (run E GP) a8l0 st.heap.length true [0, 1, 2, 3, 4, 5, 6, 7, 8, 9, 10, 11, 12, 13, 14, 16, 17, 18, 19] st.rs (run E GP a8b0 { vars := st.vars, heap := st.heap, rs := false }) := run_loop _ _ _ _
def a8r12 : List AOper := [⟨some 8, .nils 2, none⟩]
theorem a8r12_ev (C st) : evalOps C a8r12 [] st = evalOps C [⟨some 8, .nils 2, none⟩] [] st := rfl
def a8r13 : List AOper := [⟨none, .move (.v 0), none⟩,
    ⟨none, .move (.v 1), none⟩,
    ⟨some 16, .call 35 [.l 0, .l 1], none⟩,
    ⟨some 17, .len 0 (.l 2), none⟩,
    ⟨some 18, .move (.c (.int .i64 0)), none⟩]
theorem a8r13_ev (C st) : evalOps C a8r13 [] st = evalOps C [⟨none, .move (.v 0), none⟩,
    ⟨none, .move (.v 1), none⟩,
    ⟨some 16, .call 35 [.l 0, .l 1], none⟩,
    ⟨some 17, .len 0 (.l 2), none⟩,
    ⟨some 18, .move (.c (.int .i64 0)), none⟩] [] st := rfl
def a8r14 : List AOper := [⟨some 19, .bin .lss (.v 18) (.v 17), none⟩]
theorem a8r14_ev (C st) : evalOps C a8r14 [] st = evalOps C [⟨some 19, .bin .lss (.v 18) (.v 17), none⟩] [] st := rfl
def a8r15 : List AOper := [⟨none, .indexAddr 1 (.v 16) (.v 18), none⟩,
    ⟨none, .load false 1 (.l 0), none⟩,
    ⟨some 9, .move (.l 1), none⟩]
theorem a8r15_ev (C st) : evalOps C a8r15 [] st = evalOps C [⟨none, .indexAddr 1 (.v 16) (.v 18), none⟩,
    ⟨none, .load false 1 (.l 0), none⟩,
    ⟨some 9, .move (.l 1), none⟩] [] st := rfl
def a8r16 : List AOper := [⟨none, .move (.v 8), none⟩,
    ⟨none, .move (.v 7), none⟩,
    ⟨none, .move (.v 9), none⟩,
    ⟨none, .lookup (.agg [.bool false, .isl []]) false (.l 1) (.l 2), none⟩,
    ⟨none, .bslice false 2 (.agg [.bool false, .isl []]) 1 [(0, .l 3)], none⟩,
    ⟨none, .append 2 32 (.l 0) (.l 4), none⟩,
    ⟨some 8, .move (.l 5), none⟩]
theorem a8r16_ev (C st) : evalOps C a8r16 [] st = evalOps C [⟨none, .move (.v 8), none⟩,
    ⟨none, .move (.v 7), none⟩,
    ⟨none, .move (.v 9), none⟩,
    ⟨none, .lookup (.agg [.bool false, .isl []]) false (.l 1) (.l 2), none⟩,
    ⟨none, .bslice false 2 (.agg [.bool false, .isl []]) 1 [(0, .l 3)], none⟩,
    ⟨none, .append 2 32 (.l 0) (.l 4), none⟩,
    ⟨some 8, .move (.l 5), none⟩] [] st := rfl
def a8r17 : List AOper := [⟨none, .bin .add (.v 18) (.c (.int .i64 1)), none⟩,
    ⟨some 18, .move (.l 0), none⟩]
theorem a8r17_ev (C st) : evalOps C a8r17 [] st = evalOps C [⟨none, .bin .add (.v 18) (.c (.int .i64 1)), none⟩,
    ⟨some 18, .move (.l 0), none⟩] [] st := rfl
def a8b1 : AIR := .seq (.region a8r14 false) (.seq (.cond (.v 19) (.skip) (.exit 3)) (.seq (.block 4 (.seq (.region a8r15 false) (.region a8r16 false))) (.region a8r17 false)))
def a8l1 : AIR := .loop true [0, 1, 2, 3, 4, 5, 6, 7, 8, 10, 11, 12, 13, 14, 15, 16, 17, 18, 20] a8b1
theorem a8l1_run {E GP} (st) : run E GP a8l1 st = loopK (run E GP) a8l1 st.heap.length true [0, 1, 2, 3, 4, 5, 6, 7, 8, 10, 11, 12, 13, 14, 15, 16, 17, 18, 20] st.rs (run E GP a8b1 { vars := st.vars, heap := st.heap, rs := false }) := run_loop _ _ _ _
def a8r18 : List AOper := [⟨none, .move (.v 8), none⟩,
    ⟨some 3, .move (.l 0), none⟩,
    ⟨some 4, .move (.c (.int .i64 0)), none⟩]
theorem a8r18_ev (C st) : evalOps C a8r18 [] st = evalOps C [⟨none, .move (.v 8), none⟩,
    ⟨some 3, .move (.l 0), none⟩,
    ⟨some 4, .move (.c (.int .i64 0)), none⟩] [] st := rfl
def a8 : AFun := .mk .iso 3 21 [.v 3, .v 4] (.seq (.region a8r0 false) (.seq (.region a8r1 false) (.seq (.block 0 (.seq (.region a8r2 false) (.cond (.v 10) (.seq (.region a8r3 false) (.ret)) (.seq (.region a8r4 false) (.cond (.v 11) (.seq (.region a8r5 false) (.ret)) (.skip)))))) (.seq (.region a8r6 false) (.seq (.seq (.region a8r7 false) (.block 1 (a8l0))) (.seq (.region a8r12 false) (.seq (.seq (.region a8r13 false) (.block 3 (a8l1))) (.seq (.region a8r18 false) (.ret)))))))))
/- torsion/chains.Chain -/
def a24r0 : List AOper := [⟨some 3, .move (.c (.isl [])), none⟩,
    ⟨some 4, .move (.c (.int .i64 0)), none⟩]
theorem a24r0_ev (C st) : evalOps C a24r0 [] st = evalOps C [⟨some 3, .move (.c (.isl [])), none⟩,
    ⟨some 4, .move (.c (.int .i64 0)), none⟩] [] st := rfl
def a24r1 : List AOper := [⟨none, .move (.v 0), none⟩,
    ⟨none, .move (.v 1), none⟩,
    ⟨none, .call 35 [.l 0, .l 1], none⟩,
    ⟨some 5, .move (.l 2), none⟩]
theorem a24r1_ev (C st) : evalOps C a24r1 [] st = evalOps C [⟨none, .move (.v 0), none⟩,
    ⟨none, .move (.v 1), none⟩,
    ⟨none, .call 35 [.l 0, .l 1], none⟩,
    ⟨some 5, .move (.l 2), none⟩] [] st := rfl
def a24r2 : List AOper := [⟨none, .move (.v 5), none⟩,
    ⟨none, .len 0 (.l 0), none⟩,
    ⟨none, .move (.v 2), none⟩,
    ⟨none, .len 0 (.l 2), none⟩,
    ⟨some 9, .bin .neq (.l 1) (.l 3), none⟩]
theorem a24r2_ev (C st) : evalOps C a24r2 [] st = evalOps C [⟨none, .move (.v 5), none⟩,
    ⟨none, .len 0 (.l 0), none⟩,
    ⟨none, .move (.v 2), none⟩,
    ⟨none, .len 0 (.l 2), none⟩,
    ⟨some 9, .bin .neq (.l 1) (.l 3), none⟩] [] st := rfl
def a24r3 : List AOper := [⟨some 3, .move (.c (.isl [])), none⟩,
    ⟨some 4, .move (.c (.int .i64 50)), none⟩]
theorem a24r3_ev (C st) : evalOps C a24r3 [] st = evalOps C [⟨some 3, .move (.c (.isl [])), none⟩,
    ⟨some 4, .move (.c (.int .i64 50)), none⟩] [] st := rfl
def a24r4 : List AOper := [⟨none, .mkmap, none⟩,
    ⟨some 6, .move (.l 0), none⟩]
theorem a24r4_ev (C st) : evalOps C a24r4 [] st = evalOps C [⟨none, .mkmap, none⟩,
    ⟨some 6, .move (.l 0), none⟩] [] st := rfl
def a24r5 : List AOper := [⟨some 10, .move (.v 5), none⟩,
    ⟨some 11, .len 0 (.l 0), none⟩,
    ⟨some 12, .move (.c (.int .i64 0)), none⟩]
theorem a24r5_ev (C st) : evalOps C a24r5 [] st = evalOps C [⟨some 10, .move (.v 5), none⟩,
    ⟨some 11, .len 0 (.l 0), none⟩,
    ⟨some 12, .move (.c (.int .i64 0)), none⟩] [] st := rfl
def a24r6 : List AOper := [⟨some 13, .bin .lss (.v 12) (.v 11), none⟩]
theorem a24r6_ev (C st) : evalOps C a24r6 [] st = evalOps C [⟨some 13, .bin .lss (.v 12) (.v 11), none⟩] [] st := rfl
def a24r7 : List AOper := [⟨none, .move (.v 12), none⟩,
    ⟨none, .indexAddr 1 (.v 10) (.v 12), none⟩,
    ⟨none, .load false 1 (.l 1), none⟩,
    ⟨some 7, .move (.l 0), none⟩,
    ⟨some 8, .move (.l 2), none⟩]
theorem a24r7_ev (C st) : evalOps C a24r7 [] st = evalOps C [⟨none, .move (.v 12), none⟩,
    ⟨none, .indexAddr 1 (.v 10) (.v 12), none⟩,
    ⟨none, .load false 1 (.l 1), none⟩,
    ⟨some 7, .move (.l 0), none⟩,
    ⟨some 8, .move (.l 2), none⟩] [] st := rfl
def a24r8 : List AOper := [⟨none, .move (.v 6), none⟩,
    ⟨none, .move (.v 8), none⟩,
    ⟨none, .move (.v 2), none⟩,
    ⟨none, .move (.v 7), none⟩,
    ⟨none, .indexAddr 2 (.l 2) (.l 3), none⟩,
    ⟨none, .load true 2 (.l 4), none⟩,
    ⟨none, .call 33 [.l 0, .l 1, .l 5], none⟩]
theorem a24r8_ev (C st) : evalOps C a24r8 [] st = evalOps C [⟨none, .move (.v 6), none⟩,
    ⟨none, .move (.v 8), none⟩,
    ⟨none, .move (.v 2), none⟩,
    ⟨none, .move (.v 7), none⟩,
    ⟨none, .indexAddr 2 (.l 2) (.l 3), none⟩,
    ⟨none, .load true 2 (.l 4), none⟩,
    ⟨none, .call 33 [.l 0, .l 1, .l 5], none⟩] [] st := rfl
def a24r9 : List AOper := [⟨none, .bin .add (.v 12) (.c (.int .i64 1)), none⟩,
    ⟨some 12, .move (.l 0), none⟩]
theorem a24r9_ev (C st) : evalOps C a24r9 [] st = evalOps C [⟨none, .bin .add (.v 12) (.c (.int .i64 1)), none⟩,
    ⟨some 12, .move (.l 0), none⟩] [] st := rfl
def a24b0 : AIR := .seq (.region a24r6 false) (.seq (.cond (.v 13) (.skip) (.exit 0)) (.seq (.block 1 (.seq (.region a24r7 false) (.region a24r8 false))) (.region a24r9 false)))
def a24l0 : AIR := .loop true [0, 1, 2, 3, 4, 5, 6, 9, 10, 11, 12] a24b0
theorem a24l0_run {E GP} (st) : run E GP a24l0 st = loopK (run E GP) a24l0 st.heap.length true [0, 1, 2, 3, 4, 5, 6, 9, 10, 11, 12] st.rs (run E GP a24b0 { vars := st.vars, heap := st.heap, rs := false }) := run_loop _ _ _ _
def a24r10 : List AOper := [⟨none, .move (.v 6), none⟩,
    ⟨none, .call 34 [.l 0], none⟩,
    ⟨some 3, .move (.l 1), none⟩,
    ⟨some 4, .move (.c (.int .i64 0)), none⟩]
theorem a24r10_ev (C st) : evalOps C a24r10 [] st = evalOps C [⟨none, .move (.v 6), none⟩,
    ⟨none, .call 34 [.l 0], none⟩,
    ⟨some 3, .move (.l 1), none⟩,
    ⟨some 4, .move (.c (.int .i64 0)), none⟩] [] st := rfl
def a24 : AFun := .mk .iso 3 14 [.v 3, .v 4] (.seq (.region a24r0 false) (.seq (.region a24r1 false) (.seq (.seq (.region a24r2 false) (.cond (.v 9) (.seq (.region a24r3 false) (.ret)) (.skip))) (.seq (.region a24r4 false) (.seq (.seq (.region a24r5 false) (.block 0 (a24l0))) (.seq (.region a24r10 false) (.ret)))))))
/- torsion/chains.Cycle -/
def a11r0 : List AOper := [⟨some 2, .move (.c (.bool false)), none⟩]
theorem a11r0_ev (C st) : evalOps C a11r0 [] st = evalOps C [⟨some 2, .move (.c (.bool false)), none⟩] [] st := rfl
def a11r1 : List AOper := [⟨none, .move (.v 0), none⟩,
    ⟨none, .move (.v 1), none⟩,
    ⟨none, .call 6 [.l 0, .l 1], none⟩,
    ⟨none, .move (.l 2), none⟩,
    ⟨none, .extract 0 (.l 3), none⟩,
    ⟨none, .extract 1 (.l 3), none⟩,
    ⟨some 3, .move (.l 4), none⟩,
    ⟨some 4, .move (.l 5), none⟩]
theorem a11r1_ev (C st) : evalOps C a11r1 [] st = evalOps C [⟨none, .move (.v 0), none⟩,
    ⟨none, .move (.v 1), none⟩,
    ⟨none, .call 6 [.l 0, .l 1], none⟩,
    ⟨none, .move (.l 2), none⟩,
    ⟨none, .extract 0 (.l 3), none⟩,
    ⟨none, .extract 1 (.l 3), none⟩,
    ⟨some 3, .move (.l 4), none⟩,
    ⟨some 4, .move (.l 5), none⟩] [] st := rfl
def a11r2 : List AOper := [⟨none, .move (.v 4), none⟩,
    ⟨none, .bin .eql (.l 0) (.c (.int .i64 0)), none⟩,
    ⟨none, .move (.l 1), none⟩,
    ⟨none, .move (.v 3), some (2, true)⟩,
    ⟨none, .len 0 (.l 3), some (2, true)⟩,
    ⟨none, .bin .eql (.l 4) (.c (.int .i64 0)), some (2, true)⟩,
    ⟨none, .pick (.l 2) (.l 5) (.c (.bool false)), none⟩,
    ⟨some 2, .move (.l 6), none⟩]
theorem a11r2_ev (C st) : evalOps C a11r2 [] st = evalOps C [⟨none, .move (.v 4), none⟩,
    ⟨none, .bin .eql (.l 0) (.c (.int .i64 0)), none⟩,
    ⟨none, .move (.l 1), none⟩,
    ⟨none, .move (.v 3), some (2, true)⟩,
    ⟨none, .len 0 (.l 3), some (2, true)⟩,
    ⟨none, .bin .eql (.l 4) (.c (.int .i64 0)), some (2, true)⟩,
    ⟨none, .pick (.l 2) (.l 5) (.c (.bool false)), none⟩,
    ⟨some 2, .move (.l 6), none⟩] [] st := rfl
def a11 : AFun := .mk .iso 2 5 [.v 2] (.seq (.region a11r0 false) (.seq (.region a11r1 false) (.seq (.region a11r2 false) (.ret))))
/- torsion/torsionref05.SameVec -/
def a13r0 : List AOper := [⟨some 2, .move (.c (.bool false)), none⟩]
theorem a13r0_ev (C st) : evalOps C a13r0 [] st = evalOps C [⟨some 2, .move (.c (.bool false)), none⟩] [] st := rfl
def a13r1 : List AOper := [⟨none, .move (.v 0), none⟩,
    ⟨none, .len 0 (.l 0), none⟩,
    ⟨none, .move (.v 1), none⟩,
    ⟨none, .len 0 (.l 2), none⟩,
    ⟨some 4, .bin .neq (.l 1) (.l 3), none⟩]
theorem a13r1_ev (C st) : evalOps C a13r1 [] st = evalOps C [⟨none, .move (.v 0), none⟩,
    ⟨none, .len 0 (.l 0), none⟩,
    ⟨none, .move (.v 1), none⟩,
    ⟨none, .len 0 (.l 2), none⟩,
    ⟨some 4, .bin .neq (.l 1) (.l 3), none⟩] [] st := rfl
def a13r2 : List AOper := [⟨some 2, .move (.c (.bool false)), none⟩]
theorem a13r2_ev (C st) : evalOps C a13r2 [] st = evalOps C [⟨some 2, .move (.c (.bool false)), none⟩] [] st := rfl
def a13r3 : List AOper := [⟨some 3, .move (.c (.int .i64 0)), none⟩]
theorem a13r3_ev (C st) : evalOps C a13r3 [] st = evalOps C [⟨some 3, .move (.c (.int .i64 0)), none⟩] [] st := rfl
def a13r4 : List AOper := [⟨none, .move (.v 3), none⟩,
    ⟨none, .move (.v 0), none⟩,
    ⟨none, .len 0 (.l 1), none⟩,
    ⟨some 5, .bin .lss (.l 0) (.l 2), none⟩]
theorem a13r4_ev (C st) : evalOps C a13r4 [] st = evalOps C [⟨none, .move (.v 3), none⟩,
    ⟨none, .move (.v 0), none⟩,
    ⟨none, .len 0 (.l 1), none⟩,
    ⟨some 5, .bin .lss (.l 0) (.l 2), none⟩] [] st := rfl
def a13r6 : List AOper := [⟨none, .move (.v 0), none⟩,
    ⟨none, .move (.v 3), none⟩,
    ⟨none, .indexAddr 2 (.l 0) (.l 1), none⟩,
    ⟨none, .load true 2 (.l 2), none⟩,
    ⟨none, .move (.v 1), none⟩,
    ⟨none, .move (.v 3), none⟩,
    ⟨none, .indexAddr 2 (.l 4) (.l 5), none⟩,
    ⟨none, .load true 2 (.l 6), none⟩,
    ⟨none, .call 37 [.l 3, .l 7], none⟩,
    ⟨some 6, .un .not (.l 8), none⟩]
theorem a13r6_ev (C st) : evalOps C a13r6 [] st = evalOps C [⟨none, .move (.v 0), none⟩,
    ⟨none, .move (.v 3), none⟩,
    ⟨none, .indexAddr 2 (.l 0) (.l 1), none⟩,
    ⟨none, .load true 2 (.l 2), none⟩,
    ⟨none, .move (.v 1), none⟩,
    ⟨none, .move (.v 3), none⟩,
    ⟨none, .indexAddr 2 (.l 4) (.l 5), none⟩,
    ⟨none, .load true 2 (.l 6), none⟩,
    ⟨none, .call 37 [.l 3, .l 7], none⟩,
    ⟨some 6, .un .not (.l 8), none⟩] [] st := rfl
def a13r7 : List AOper := [⟨some 2, .move (.c (.bool false)), none⟩]
theorem a13r7_ev (C st) : evalOps C a13r7 [] st = evalOps C [⟨some 2, .move (.c (.bool false)), none⟩] [] st := rfl
def a13r5 : List AOper := [⟨none, .move (.v 3), none⟩,
    ⟨none, .bin .add (.l 0) (.c (.int .i64 1)), none⟩,
    ⟨some 3, .move (.l 1), none⟩]
theorem a13r5_ev (C st) : evalOps C a13r5 [] st = evalOps C [⟨none, .move (.v 3), none⟩,
    ⟨none, .bin .add (.l 0) (.c (.int .i64 1)), none⟩,
    ⟨some 3, .move (.l 1), none⟩] [] st := rfl
def a13b0 : AIR := .seq (.seq (.region a13r4 false) (.cond (.v 5) (.skip) (.exit 0))) (.seq (.block 1 (.seq (.region a13r6 true) (.cond (.v 6) (.seq (.region a13r7 false) (.ret)) (.skip)))) (.region a13r5 false))
def a13l0 : AIR := .loop true [0, 1, 2, 3, 4] a13b0
theorem a13l0_run {E GP} (st) : run E GP a13l0 st = loopK (run E GP) a13l0 st.heap.length true [0, 1, 2, 3, 4] st.rs (run E GP a13b0 { vars := st.vars, heap := st.heap, rs := false }) := run_loop _ _ _ _
def a13r8 : List AOper := [⟨some 2, .move (.c (.bool true)), none⟩]
theorem a13r8_ev (C st) : evalOps C a13r8 [] st = evalOps C [⟨some 2, .move (.c (.bool true)), none⟩] [] st := rfl
def a13 : AFun := .mk .iso 2 7 [.v 2] (.seq (.region a13r0 false) (.seq (.seq (.region a13r1 false) (.cond (.v 4) (.seq (.region a13r2 false) (.ret)) (.skip))) (.seq (.seq (.region a13r3 false) (.block 0 (a13l0))) (.seq (.region a13r8 false) (.ret)))))
/- torsion/torsionref26.insert -/
def a29r0 : List AOper := [⟨some 11, .cb (.v 1), none⟩,
    ⟨some 2, .move (.c (.isl [])), none⟩]
theorem a29r0_ev (C st) : evalOps C a29r0 [] st = evalOps C [⟨some 11, .cb (.v 1), none⟩,
    ⟨some 2, .move (.c (.isl [])), none⟩] [] st := rfl
def a29r1 : List AOper := [⟨none, .bslice true 3 (.agg [.int .i64 0, .agg [.bool false, .isl []]]) 0 [], none⟩,
    ⟨none, .ca (.v 11), none⟩,
    ⟨none, .field 1 1 true 2 (.v 11), none⟩,
    ⟨none, .call 43 [.l 2], none⟩,
    ⟨none, .bin .eql (.l 3) (.c (.int .i64 0)), none⟩,
    ⟨some 3, .move (.l 0), none⟩,
    ⟨some 4, .move (.l 4), none⟩]
theorem a29r1_ev (C st) : evalOps C a29r1 [] st = evalOps C [⟨none, .bslice true 3 (.agg [.int .i64 0, .agg [.bool false, .isl []]]) 0 [], none⟩,
    ⟨none, .ca (.v 11), none⟩,
    ⟨none, .field 1 1 true 2 (.v 11), none⟩,
    ⟨none, .call 43 [.l 2], none⟩,
    ⟨none, .bin .eql (.l 3) (.c (.int .i64 0)), none⟩,
    ⟨some 3, .move (.l 0), none⟩,
    ⟨some 4, .move (.l 4), none⟩] [] st := rfl
def a29r2 : List AOper := [⟨some 5, .move (.c (.int .i64 0)), none⟩]
theorem a29r2_ev (C st) : evalOps C a29r2 [] st = evalOps C [⟨some 5, .move (.c (.int .i64 0)), none⟩] [] st := rfl
def a29r3 : List AOper := [⟨none, .move (.v 5), none⟩,
    ⟨none, .move (.v 0), none⟩,
    ⟨none, .len 0 (.l 1), none⟩,
    ⟨some 6, .bin .lss (.l 0) (.l 2), none⟩]
theorem a29r3_ev (C st) : evalOps C a29r3 [] st = evalOps C [⟨none, .move (.v 5), none⟩,
    ⟨none, .move (.v 0), none⟩,
    ⟨none, .len 0 (.l 1), none⟩,
    ⟨some 6, .bin .lss (.l 0) (.l 2), none⟩] [] st := rfl
def a29r5 : List AOper := [⟨none, .move (.v 4), none⟩,
    ⟨none, .un .not (.l 0), none⟩,
    ⟨none, .move (.l 1), none⟩,
    ⟨none, .move (.v 0), some (2, true)⟩,
    ⟨none, .move (.v 5), some (2, true)⟩,
    ⟨none, .indexAddr 3 (.l 3) (.l 4), some (2, true)⟩,
    ⟨none, .fieldAddr 0 0 (.l 5), some (2, true)⟩,
    ⟨none, .load false 1 (.l 6), some (2, true)⟩,
    ⟨none, .ca (.v 11), some (2, true)⟩,
    ⟨none, .field 0 0 false 1 (.v 11), some (2, true)⟩,
    ⟨none, .bin .gtr (.l 7) (.l 9), some (2, true)⟩,
    ⟨some 7, .pick (.l 2) (.l 10) (.c (.bool false)), none⟩]
theorem a29r5_ev (C st) : evalOps C a29r5 [] st = evalOps C [⟨none, .move (.v 4), none⟩,
    ⟨none, .un .not (.l 0), none⟩,
    ⟨none, .move (.l 1), none⟩,
    ⟨none, .move (.v 0), some (2, true)⟩,
    ⟨none, .move (.v 5), some (2, true)⟩,
    ⟨none, .indexAddr 3 (.l 3) (.l 4), some (2, true)⟩,
    ⟨none, .fieldAddr 0 0 (.l 5), some (2, true)⟩,
    ⟨none, .load false 1 (.l 6), some (2, true)⟩,
    ⟨none, .ca (.v 11), some (2, true)⟩,
    ⟨none, .field 0 0 false 1 (.v 11), some (2, true)⟩,
    ⟨none, .bin .gtr (.l 7) (.l 9), some (2, true)⟩,
    ⟨some 7, .pick (.l 2) (.l 10) (.c (.bool false)), none⟩] [] st := rfl
def a29r6 : List AOper := [⟨none, .move (.v 3), none⟩,
    ⟨none, .cl true 3 (.v 11), none⟩,
    ⟨none, .bslice false 3 (.agg [.int .i64 0, .agg [.bool false, .isl []]]) 1 [(0, .l 1)], none⟩,
    ⟨none, .append 3 40 (.l 0) (.l 2), none⟩,
    ⟨some 3, .move (.l 3), none⟩]
theorem a29r6_ev (C st) : evalOps C a29r6 [] st = evalOps C [⟨none, .move (.v 3), none⟩,
    ⟨none, .cl true 3 (.v 11), none⟩,
    ⟨none, .bslice false 3 (.agg [.int .i64 0, .agg [.bool false, .isl []]]) 1 [(0, .l 1)], none⟩,
    ⟨none, .append 3 40 (.l 0) (.l 2), none⟩,
    ⟨some 3, .move (.l 3), none⟩] [] st := rfl
def a29r7 : List AOper := [⟨some 4, .move (.c (.bool true)), none⟩]
theorem a29r7_ev (C st) : evalOps C a29r7 [] st = evalOps C [⟨some 4, .move (.c (.bool true)), none⟩] [] st := rfl
def a29r8 : List AOper := [⟨none, .move (.v 4), none⟩,
    ⟨none, .un .not (.l 0), none⟩,
    ⟨none, .move (.l 1), none⟩,
    ⟨none, .move (.v 0), some (2, true)⟩,
    ⟨none, .move (.v 5), some (2, true)⟩,
    ⟨none, .indexAddr 3 (.l 3) (.l 4), some (2, true)⟩,
    ⟨none, .fieldAddr 0 0 (.l 5), some (2, true)⟩,
    ⟨none, .load false 1 (.l 6), some (2, true)⟩,
    ⟨none, .ca (.v 11), some (2, true)⟩,
    ⟨none, .field 0 0 false 1 (.v 11), some (2, true)⟩,
    ⟨none, .bin .eql (.l 7) (.l 9), some (2, true)⟩,
    ⟨some 8, .pick (.l 2) (.l 10) (.c (.bool false)), none⟩]
theorem a29r8_ev (C st) : evalOps C a29r8 [] st = evalOps C [⟨none, .move (.v 4), none⟩,
    ⟨none, .un .not (.l 0), none⟩,
    ⟨none, .move (.l 1), none⟩,
    ⟨none, .move (.v 0), some (2, true)⟩,
    ⟨none, .move (.v 5), some (2, true)⟩,
    ⟨none, .indexAddr 3 (.l 3) (.l 4), some (2, true)⟩,
    ⟨none, .fieldAddr 0 0 (.l 5), some (2, true)⟩,
    ⟨none, .load false 1 (.l 6), some (2, true)⟩,
    ⟨none, .ca (.v 11), some (2, true)⟩,
    ⟨none, .field 0 0 false 1 (.v 11), some (2, true)⟩,
    ⟨none, .bin .eql (.l 7) (.l 9), some (2, true)⟩,
    ⟨some 8, .pick (.l 2) (.l 10) (.c (.bool false)), none⟩] [] st := rfl
def a29r9 : List AOper := [⟨none, .move (.v 0), none⟩,
    ⟨none, .move (.v 5), none⟩,
    ⟨none, .indexAddr 3 (.l 0) (.l 1), none⟩,
    ⟨none, .fieldAddr 1 1 (.l 2), none⟩,
    ⟨none, .load true 2 (.l 3), none⟩,
    ⟨none, .ca (.v 11), none⟩,
    ⟨none, .field 1 1 true 2 (.v 11), none⟩,
    ⟨none, .call 49 [.l 4, .l 6], none⟩,
    ⟨some 12, .cn (.agg [.bool false, .isl []]), none⟩,
    ⟨some 12, .cs 2 (.l 8) (.l 7), none⟩]
theorem a29r9_ev (C st) : evalOps C a29r9 [] st = evalOps C [⟨none, .move (.v 0), none⟩,
    ⟨none, .move (.v 5), none⟩,
    ⟨none, .indexAddr 3 (.l 0) (.l 1), none⟩,
    ⟨none, .fieldAddr 1 1 (.l 2), none⟩,
    ⟨none, .load true 2 (.l 3), none⟩,
    ⟨none, .ca (.v 11), none⟩,
    ⟨none, .field 1 1 true 2 (.v 11), none⟩,
    ⟨none, .call 49 [.l 4, .l 6], none⟩,
    ⟨some 12, .cn (.agg [.bool false, .isl []]), none⟩,
    ⟨some 12, .cs 2 (.l 8) (.l 7), none⟩] [] st := rfl
def a29r10 : List AOper := [⟨none, .cl true 2 (.v 12), none⟩,
    ⟨none, .call 43 [.l 0], none⟩,
    ⟨some 9, .bin .neq (.l 1) (.c (.int .i64 0)), none⟩]
theorem a29r10_ev (C st) : evalOps C a29r10 [] st = evalOps C [⟨none, .cl true 2 (.v 12), none⟩,
    ⟨none, .call 43 [.l 0], none⟩,
    ⟨some 9, .bin .neq (.l 1) (.c (.int .i64 0)), none⟩] [] st := rfl
def a29r11 : List AOper := [⟨none, .move (.v 3), none⟩,
    ⟨none, .ca (.v 11), none⟩,
    ⟨none, .field 0 0 false 1 (.v 11), none⟩,
    ⟨none, .cl true 2 (.v 12), none⟩,
    ⟨none, .build [.int .i64 0, .agg [.bool false, .isl []]] [(0, .l 2), (1, .l 3)], none⟩,
    ⟨none, .bslice false 3 (.agg [.int .i64 0, .agg [.bool false, .isl []]]) 1 [(0, .l 4)], none⟩,
    ⟨none, .append 3 40 (.l 0) (.l 5), none⟩,
    ⟨some 3, .move (.l 6), none⟩]
theorem a29r11_ev (C st) : evalOps C a29r11 [] st = evalOps C [⟨none, .move (.v 3), none⟩,
    ⟨none, .ca (.v 11), none⟩,
    ⟨none, .field 0 0 false 1 (.v 11), none⟩,
    ⟨none, .cl true 2 (.v 12), none⟩,
    ⟨none, .build [.int .i64 0, .agg [.bool false, .isl []]] [(0, .l 2), (1, .l 3)], none⟩,
    ⟨none, .bslice false 3 (.agg [.int .i64 0, .agg [.bool false, .isl []]]) 1 [(0, .l 4)], none⟩,
    ⟨none, .append 3 40 (.l 0) (.l 5), none⟩,
    ⟨some 3, .move (.l 6), none⟩] [] st := rfl
def a29r12 : List AOper := [⟨some 4, .move (.c (.bool true)), none⟩]
theorem a29r12_ev (C st) : evalOps C a29r12 [] st = evalOps C [⟨some 4, .move (.c (.bool true)), none⟩] [] st := rfl
def a29r13 : List AOper := [⟨none, .move (.v 3), none⟩,
    ⟨none, .move (.v 0), none⟩,
    ⟨none, .move (.v 5), none⟩,
    ⟨none, .indexAddr 3 (.l 1) (.l 2), none⟩,
    ⟨none, .load true 3 (.l 3), none⟩,
    ⟨none, .bslice false 3 (.agg [.int .i64 0, .agg [.bool false, .isl []]]) 1 [(0, .l 4)], none⟩,
    ⟨none, .append 3 40 (.l 0) (.l 5), none⟩,
    ⟨some 3, .move (.l 6), none⟩]
theorem a29r13_ev (C st) : evalOps C a29r13 [] st = evalOps C [⟨none, .move (.v 3), none⟩,
    ⟨none, .move (.v 0), none⟩,
    ⟨none, .move (.v 5), none⟩,
    ⟨none, .indexAddr 3 (.l 1) (.l 2), none⟩,
    ⟨none, .load true 3 (.l 3), none⟩,
    ⟨none, .bslice false 3 (.agg [.int .i64 0, .agg [.bool false, .isl []]]) 1 [(0, .l 4)], none⟩,
    ⟨none, .append 3 40 (.l 0) (.l 5), none⟩,
    ⟨some 3, .move (.l 6), none⟩] [] st := rfl
def a29r4 : List AOper := [⟨none, .move (.v 5), none⟩,
    ⟨none, .bin .add (.l 0) (.c (.int .i64 1)), none⟩,
    ⟨some 5, .move (.l 1), none⟩]
theorem a29r4_ev (C st) : evalOps C a29r4 [] st = evalOps C [⟨none, .move (.v 5), none⟩,
    ⟨none, .bin .add (.l 0) (.c (.int .i64 1)), none⟩,
    ⟨some 5, .move (.l 1), none⟩] [] st := rfl
def a29b0 : AIR := .seq (.seq (.region a29r3 false) (.cond (.v 6) (.skip) (.exit 0))) (.seq (.block 1 (.seq (.seq (.region a29r5 true) (.cond (.v 7) (.seq (.region a29r6 false) (.region a29r7 false)) (.skip))) (.seq (.seq (.region a29r8 true) (.cond (.v 8) (.seq (.region a29r9 true) (.seq (.seq (.region a29r10 false) (.cond (.v 9) (.region a29r11 false) (.skip))) (.seq (.region a29r12 false) (.exit 1)))) (.skip))) (.region a29r13 false)))) (.region a29r4 false))
def a29l0 : AIR := .loop true [0, 1, 2, 3, 4, 5, 10, 11] a29b0
theorem a29l0_run {E GP} (st) : run E GP a29l0 st = loopK (run E GP) a29l0 st.heap.length true [0, 1, 2, 3, 4, 5, 10, 11] st.rs (run E GP a29b0 { vars := st.vars, heap := st.heap, rs := false }) := run_loop _ _ _ _
def a29r14 : List AOper := [⟨none, .move (.v 4), none⟩,
    ⟨some 10, .un .not (.l 0), none⟩]
theorem a29r14_ev (C st) : evalOps C a29r14 [] st = evalOps C [⟨none, .move (.v 4), none⟩,
    ⟨some 10, .un .not (.l 0), none⟩] [] st := rfl
def a29r15 : List AOper := [⟨none, .move (.v 3), none⟩,
    ⟨none, .cl true 3 (.v 11), none⟩,
    ⟨none, .bslice false 3 (.agg [.int .i64 0, .agg [.bool false, .isl []]]) 1 [(0, .l 1)], none⟩,
    ⟨none, .append 3 40 (.l 0) (.l 2), none⟩,
    ⟨some 3, .move (.l 3), none⟩]
theorem a29r15_ev (C st) : evalOps C a29r15 [] st = evalOps C [⟨none, .move (.v 3), none⟩,
    ⟨none, .cl true 3 (.v 11), none⟩,
    ⟨none, .bslice false 3 (.agg [.int .i64 0, .agg [.bool false, .isl []]]) 1 [(0, .l 1)], none⟩,
    ⟨none, .append 3 40 (.l 0) (.l 2), none⟩,
    ⟨some 3, .move (.l 3), none⟩] [] st := rfl
def a29r16 : List AOper := [⟨none, .move (.v 3), none⟩,
    ⟨some 2, .move (.l 0), none⟩]
theorem a29r16_ev (C st) : evalOps C a29r16 [] st = evalOps C [⟨none, .move (.v 3), none⟩,
    ⟨some 2, .move (.l 0), none⟩] [] st := rfl
def a29 : AFun := .mk .iso 2 13 [.v 2] (.seq (.region a29r0 false) (.seq (.region a29r1 false) (.seq (.seq (.region a29r2 false) (.block 0 (a29l0))) (.seq (.seq (.region a29r14 false) (.cond (.v 10) (.region a29r15 false) (.skip))) (.seq (.region a29r16 false) (.ret))))))
/- torsion/torsionref01.Same -/
def a37r0 : List AOper := [⟨some 3, .cb (.v 0), none⟩,
    ⟨some 4, .cb (.v 1), none⟩,
    ⟨some 2, .move (.c (.bool false)), none⟩]
theorem a37r0_ev (C st) : evalOps C a37r0 [] st = evalOps C [⟨some 3, .cb (.v 0), none⟩,
    ⟨some 4, .cb (.v 1), none⟩,
    ⟨some 2, .move (.c (.bool false)), none⟩] [] st := rfl
def a37r1 : List AOper := [⟨none, .ca (.v 3), none⟩,
    ⟨none, .field 0 0 false 1 (.v 3), none⟩,
    ⟨none, .ca (.v 4), none⟩,
    ⟨none, .field 0 0 false 1 (.v 4), none⟩,
    ⟨none, .binb false (.l 1) (.l 3), none⟩,
    ⟨none, .move (.l 4), none⟩,
    ⟨none, .ca (.v 3), some (5, true)⟩,
    ⟨none, .field 1 1 false 1 (.v 3), some (5, true)⟩,
    ⟨none, .ca (.v 4), some (5, true)⟩,
    ⟨none, .field 1 1 false 1 (.v 4), some (5, true)⟩,
    ⟨none, .call 57 [.l 7, .l 9], some (5, true)⟩,
    ⟨none, .un .not (.l 10), some (5, true)⟩,
    ⟨none, .pick (.l 5) (.l 11) (.c (.bool false)), none⟩,
    ⟨none, .move (.l 12), none⟩,
    ⟨none, .ca (.v 4), some (13, true)⟩,
    ⟨none, .field 1 1 false 1 (.v 4), some (13, true)⟩,
    ⟨none, .ca (.v 3), some (13, true)⟩,
    ⟨none, .field 1 1 false 1 (.v 3), some (13, true)⟩,
    ⟨none, .call 57 [.l 15, .l 17], some (13, true)⟩,
    ⟨none, .un .not (.l 18), some (13, true)⟩,
    ⟨none, .pick (.l 13) (.l 19) (.c (.bool false)), none⟩,
    ⟨some 2, .move (.l 20), none⟩]
theorem a37r1_ev (C st) : evalOps C a37r1 [] st = evalOps C [⟨none, .ca (.v 3), none⟩,
    ⟨none, .field 0 0 false 1 (.v 3), none⟩,
    ⟨none, .ca (.v 4), none⟩,
    ⟨none, .field 0 0 false 1 (.v 4), none⟩,
    ⟨none, .binb false (.l 1) (.l 3), none⟩,
    ⟨none, .move (.l 4), none⟩,
    ⟨none, .ca (.v 3), some (5, true)⟩,
    ⟨none, .field 1 1 false 1 (.v 3), some (5, true)⟩,
    ⟨none, .ca (.v 4), some (5, true)⟩,
    ⟨none, .field 1 1 false 1 (.v 4), some (5, true)⟩,
    ⟨none, .call 57 [.l 7, .l 9], some (5, true)⟩,
    ⟨none, .un .not (.l 10), some (5, true)⟩,
    ⟨none, .pick (.l 5) (.l 11) (.c (.bool false)), none⟩,
    ⟨none, .move (.l 12), none⟩,
    ⟨none, .ca (.v 4), some (13, true)⟩,
    ⟨none, .field 1 1 false 1 (.v 4), some (13, true)⟩,
    ⟨none, .ca (.v 3), some (13, true)⟩,
    ⟨none, .field 1 1 false 1 (.v 3), some (13, true)⟩,
    ⟨none, .call 57 [.l 15, .l 17], some (13, true)⟩,
    ⟨none, .un .not (.l 18), some (13, true)⟩,
    ⟨none, .pick (.l 13) (.l 19) (.c (.bool false)), none⟩,
    ⟨some 2, .move (.l 20), none⟩] [] st := rfl
def a37 : AFun := .mk .iso 2 5 [.v 2] (.seq (.region a37r0 false) (.seq (.region a37r1 false) (.ret)))
/- (torsion/chains.sum).add -/
def a33r0 : List AOper := [⟨some 4, .cb (.v 2), none⟩]
theorem a33r0_ev (C st) : evalOps C a33r0 [] st = evalOps C [⟨some 4, .cb (.v 2), none⟩] [] st := rfl
def a33r1 : List AOper := [⟨none, .move (.v 0), none⟩,
    ⟨none, .move (.v 1), none⟩,
    ⟨none, .lookup (.agg [.bool false, .isl []]) false (.l 0) (.l 1), none⟩,
    ⟨none, .cl true 2 (.v 4), none⟩,
    ⟨none, .call 53 [.l 2, .l 3], none⟩,
    ⟨some 4, .cs 2 (.v 4) (.l 4), none⟩]
theorem a33r1_ev (C st) : evalOps C a33r1 [] st = evalOps C [⟨none, .move (.v 0), none⟩,
    ⟨none, .move (.v 1), none⟩,
    ⟨none, .lookup (.agg [.bool false, .isl []]) false (.l 0) (.l 1), none⟩,
    ⟨none, .cl true 2 (.v 4), none⟩,
    ⟨none, .call 53 [.l 2, .l 3], none⟩,
    ⟨some 4, .cs 2 (.v 4) (.l 4), none⟩] [] st := rfl
def a33r2 : List AOper := [⟨none, .cl true 2 (.v 4), none⟩,
    ⟨none, .call 48 [.l 0], none⟩,
    ⟨some 3, .bin .eql (.l 1) (.c (.int .i64 0)), none⟩]
theorem a33r2_ev (C st) : evalOps C a33r2 [] st = evalOps C [⟨none, .cl true 2 (.v 4), none⟩,
    ⟨none, .call 48 [.l 0], none⟩,
    ⟨some 3, .bin .eql (.l 1) (.c (.int .i64 0)), none⟩] [] st := rfl
def a33r3 : List AOper := [⟨none, .move (.v 0), none⟩,
    ⟨none, .move (.v 1), none⟩,
    ⟨none, .mdel (.l 0) (.l 1), none⟩]
theorem a33r3_ev (C st) : evalOps C a33r3 [] st = evalOps C [⟨none, .move (.v 0), none⟩,
    ⟨none, .move (.v 1), none⟩,
    ⟨none, .mdel (.l 0) (.l 1), none⟩] [] st := rfl
def a33r4 : List AOper := [⟨none, .move (.v 0), none⟩,
    ⟨none, .move (.v 1), none⟩,
    ⟨none, .cl true 2 (.v 4), none⟩,
    ⟨none, .mupd (.l 0) (.l 1) (.l 2), none⟩]
theorem a33r4_ev (C st) : evalOps C a33r4 [] st = evalOps C [⟨none, .move (.v 0), none⟩,
    ⟨none, .move (.v 1), none⟩,
    ⟨none, .cl true 2 (.v 4), none⟩,
    ⟨none, .mupd (.l 0) (.l 1) (.l 2), none⟩] [] st := rfl
def a33 : AFun := .mk .shr 3 5 [] (.seq (.region a33r0 false) (.seq (.seq (.region a33r1 false) (.seq (.region a33r2 false) (.cond (.v 3) (.seq (.region a33r3 false) (.ret)) (.skip)))) (.region a33r4 false)))
/- (torsion/chains.sum).chain -/
def a34r0 : List AOper := [⟨some 1, .move (.c (.isl [])), none⟩]
theorem a34r0_ev (C st) : evalOps C a34r0 [] st = evalOps C [⟨some 1, .move (.c (.isl [])), none⟩] [] st := rfl
def a34r1 : List AOper := [⟨some 2, .nils 3, none⟩]
theorem a34r1_ev (C st) : evalOps C a34r1 [] st = evalOps C [⟨some 2, .nils 3, none⟩] [] st := rfl
def a34r2 : List AOper := [⟨none, .move (.v 0), none⟩,
    ⟨none, .call 55 [.l 0], none⟩,
    ⟨some 4, .call 56 [.l 1], none⟩,
    ⟨some 5, .len 0 (.l 2), none⟩,
    ⟨some 6, .move (.c (.int .i64 0)), none⟩]
theorem a34r2_ev (C st) : evalOps C a34r2 [] st = evalOps C [⟨none, .move (.v 0), none⟩,
    ⟨none, .call 55 [.l 0], none⟩,
    ⟨some 4, .call 56 [.l 1], none⟩,
    ⟨some 5, .len 0 (.l 2), none⟩,
    ⟨some 6, .move (.c (.int .i64 0)), none⟩] [] st := rfl
def a34r3 : List AOper := [⟨some 7, .bin .lss (.v 6) (.v 5), none⟩]
theorem a34r3_ev (C st) : evalOps C a34r3 [] st = evalOps C [⟨some 7, .bin .lss (.v 6) (.v 5), none⟩] [] st := rfl
def a34r4 : List AOper := [⟨none, .indexAddr 1 (.v 4) (.v 6), none⟩,
    ⟨none, .load false 1 (.l 0), none⟩,
    ⟨some 3, .move (.l 1), none⟩]
theorem a34r4_ev (C st) : evalOps C a34r4 [] st = evalOps C [⟨none, .indexAddr 1 (.v 4) (.v 6), none⟩,
    ⟨none, .load false 1 (.l 0), none⟩,
    ⟨some 3, .move (.l 1), none⟩] [] st := rfl
def a34r5 : List AOper := [⟨none, .move (.v 2), none⟩,
    ⟨none, .move (.v 3), none⟩,
    ⟨none, .move (.v 0), none⟩,
    ⟨none, .move (.v 3), none⟩,
    ⟨none, .lookup (.agg [.bool false, .isl []]) false (.l 2) (.l 3), none⟩,
    ⟨none, .build [.int .i64 0, .agg [.bool false, .isl []]] [(0, .l 1), (1, .l 4)], none⟩,
    ⟨none, .bslice false 3 (.agg [.int .i64 0, .agg [.bool false, .isl []]]) 1 [(0, .l 5)], none⟩,
    ⟨none, .append 3 40 (.l 0) (.l 6), none⟩,
    ⟨some 2, .move (.l 7), none⟩]
theorem a34r5_ev (C st) : evalOps C a34r5 [] st = evalOps C [⟨none, .move (.v 2), none⟩,
    ⟨none, .move (.v 3), none⟩,
    ⟨none, .move (.v 0), none⟩,
    ⟨none, .move (.v 3), none⟩,
    ⟨none, .lookup (.agg [.bool false, .isl []]) false (.l 2) (.l 3), none⟩,
    ⟨none, .build [.int .i64 0, .agg [.bool false, .isl []]] [(0, .l 1), (1, .l 4)], none⟩,
    ⟨none, .bslice false 3 (.agg [.int .i64 0, .agg [.bool false, .isl []]]) 1 [(0, .l 5)], none⟩,
    ⟨none, .append 3 40 (.l 0) (.l 6), none⟩,
    ⟨some 2, .move (.l 7), none⟩] [] st := rfl
def a34r6 : List AOper := [⟨none, .bin .add (.v 6) (.c (.int .i64 1)), none⟩,
    ⟨some 6, .move (.l 0), none⟩]
theorem a34r6_ev (C st) : evalOps C a34r6 [] st = evalOps C [⟨none, .bin .add (.v 6) (.c (.int .i64 1)), none⟩,
    ⟨some 6, .move (.l 0), none⟩] [] st := rfl
def a34b0 : AIR := .seq (.region a34r3 false) (.seq (.cond (.v 7) (.skip) (.exit 0)) (.seq (.block 1 (.seq (.region a34r4 false) (.region a34r5 false))) (.region a34r6 false)))
def a34l0 : AIR := .loop true [0, 1, 2, 4, 5, 6] a34b0
theorem a34l0_run {E GP} (st) : run E GP a34l0 st = loopK (run E GP) a34l0 st.heap.length true [0, 1, 2, 4, 5, 6] st.rs (run E GP a34b0 { vars := st.vars, heap := st.heap, rs := false }) := run_loop _ _ _ _
def a34r7 : List AOper := [⟨none, .move (.v 2), none⟩,
    ⟨some 1, .move (.l 0), none⟩]
theorem a34r7_ev (C st) : evalOps C a34r7 [] st = evalOps C [⟨none, .move (.v 2), none⟩,
    ⟨some 1, .move (.l 0), none⟩] [] st := rfl
def a34 : AFun := .mk .shr 1 8 [.v 1] (.seq (.region a34r0 false) (.seq (.region a34r1 false) (.seq (.seq (.region a34r2 false) (.block 0 (a34l0))) (.seq (.region a34r7 false) (.ret)))))
/- torsion/integer.Mul -/
def a32r0 : List AOper := [⟨some 16, .cb (.v 0), none⟩,
    ⟨some 17, .cb (.v 1), none⟩,
    ⟨some 18, .cn (.agg [.bool false, .isl []]), none⟩]
theorem a32r0_ev (C st) : evalOps C a32r0 [] st = evalOps C [⟨some 16, .cb (.v 0), none⟩,
    ⟨some 17, .cb (.v 1), none⟩,
    ⟨some 18, .cn (.agg [.bool false, .isl []]), none⟩] [] st := rfl
def a32r1 : List AOper := [⟨none, .ca (.v 16), none⟩,
    ⟨none, .field 1 1 false 1 (.v 16), none⟩,
    ⟨none, .len 0 (.l 1), none⟩,
    ⟨none, .ca (.v 17), none⟩,
    ⟨none, .field 1 1 false 1 (.v 17), none⟩,
    ⟨none, .len 0 (.l 4), none⟩,
    ⟨none, .bin .add (.l 2) (.l 5), none⟩,
    ⟨none, .mkslice 1 4 (.int .u32 0) (.l 6) (.l 6), none⟩,
    ⟨some 2, .move (.l 7), none⟩]
theorem a32r1_ev (C st) : evalOps C a32r1 [] st = evalOps C [⟨none, .ca (.v 16), none⟩,
    ⟨none, .field 1 1 false 1 (.v 16), none⟩,
    ⟨none, .len 0 (.l 1), none⟩,
    ⟨none, .ca (.v 17), none⟩,
    ⟨none, .field 1 1 false 1 (.v 17), none⟩,
    ⟨none, .len 0 (.l 4), none⟩,
    ⟨none, .bin .add (.l 2) (.l 5), none⟩,
    ⟨none, .mkslice 1 4 (.int .u32 0) (.l 6) (.l 6), none⟩,
    ⟨some 2, .move (.l 7), none⟩] [] st := rfl
def a32r2 : List AOper := [⟨none, .ca (.v 16), none⟩,
    ⟨some 8, .field 1 1 false 1 (.v 16), none⟩,
    ⟨some 9, .len 0 (.l 1), none⟩,
    ⟨some 10, .move (.c (.int .i64 0)), none⟩]
theorem a32r2_ev (C st) : evalOps C a32r2 [] st = evalOps C [⟨none, .ca (.v 16), none⟩,
    ⟨some 8, .field 1 1 false 1 (.v 16), none⟩,
    ⟨some 9, .len 0 (.l 1), none⟩,
    ⟨some 10, .move (.c (.int .i64 0)), none⟩] [] st := rfl
def a32r3 : List AOper := [⟨some 11, .bin .lss (.v 10) (.v 9), none⟩]
theorem a32r3_ev (C st) : evalOps C a32r3 [] st = evalOps C [⟨some 11, .bin .lss (.v 10) (.v 9), none⟩] [] st := rfl
def a32r4 : List AOper := [⟨none, .move (.v 10), none⟩,
    ⟨none, .indexAddr 1 (.v 8) (.v 10), none⟩,
    ⟨none, .load false 1 (.l 1), none⟩,
    ⟨some 3, .move (.l 0), none⟩,
    ⟨some 4, .move (.l 2), none⟩]
theorem a32r4_ev (C st) : evalOps C a32r4 [] st = evalOps C [⟨none, .move (.v 10), none⟩,
    ⟨none, .indexAddr 1 (.v 8) (.v 10), none⟩,
    ⟨none, .load false 1 (.l 1), none⟩,
    ⟨some 3, .move (.l 0), none⟩,
    ⟨some 4, .move (.l 2), none⟩] [] st := rfl
def a32r5 : List AOper := [⟨some 5, .move (.c (.int .u64 0)), none⟩]
theorem a32r5_ev (C st) : evalOps C a32r5 [] st = evalOps C [⟨some 5, .move (.c (.int .u64 0)), none⟩] [] st := rfl
def a32r6 : List AOper := [⟨none, .ca (.v 17), none⟩,
    ⟨some 12, .field 1 1 false 1 (.v 17), none⟩,
    ⟨some 13, .len 0 (.l 1), none⟩,
    ⟨some 14, .move (.c (.int .i64 0)), none⟩]
theorem a32r6_ev (C st) : evalOps C a32r6 [] st = evalOps C [⟨none, .ca (.v 17), none⟩,
    ⟨some 12, .field 1 1 false 1 (.v 17), none⟩,
    ⟨some 13, .len 0 (.l 1), none⟩,
    ⟨some 14, .move (.c (.int .i64 0)), none⟩] [] st := rfl
def a32r7 : List AOper := [⟨some 15, .bin .lss (.v 14) (.v 13), none⟩]
theorem a32r7_ev (C st) : evalOps C a32r7 [] st = evalOps C [⟨some 15, .bin .lss (.v 14) (.v 13), none⟩] [] st := rfl
def a32r8 : List AOper := [⟨none, .move (.v 14), none⟩,
    ⟨none, .indexAddr 1 (.v 12) (.v 14), none⟩,
    ⟨none, .load false 1 (.l 1), none⟩,
    ⟨some 6, .move (.l 0), none⟩,
    ⟨some 7, .move (.l 2), none⟩]
theorem a32r8_ev (C st) : evalOps C a32r8 [] st = evalOps C [⟨none, .move (.v 14), none⟩,
    ⟨none, .indexAddr 1 (.v 12) (.v 14), none⟩,
    ⟨none, .load false 1 (.l 1), none⟩,
    ⟨some 6, .move (.l 0), none⟩,
    ⟨some 7, .move (.l 2), none⟩] [] st := rfl
def a32r9 : List AOper := [⟨none, .move (.v 5), none⟩,
    ⟨none, .move (.v 4), none⟩,
    ⟨none, .conv .u64 (.l 1), none⟩,
    ⟨none, .move (.v 7), none⟩,
    ⟨none, .conv .u64 (.l 3), none⟩,
    ⟨none, .bin .mul (.l 2) (.l 4), none⟩,
    ⟨none, .move (.v 2), none⟩,
    ⟨none, .move (.v 3), none⟩,
    ⟨none, .move (.v 6), none⟩,
    ⟨none, .bin .add (.l 7) (.l 8), none⟩,
    ⟨none, .indexAddr 1 (.l 6) (.l 9), none⟩,
    ⟨none, .load false 1 (.l 10), none⟩,
    ⟨none, .conv .u64 (.l 11), none⟩,
    ⟨none, .bin .add (.l 5) (.l 12), none⟩,
    ⟨none, .bin .add (.l 0) (.l 13), none⟩,
    ⟨some 5, .move (.l 14), none⟩]
theorem a32r9_ev (C st) : evalOps C a32r9 [] st = evalOps C [⟨none, .move (.v 5), none⟩,
    ⟨none, .move (.v 4), none⟩,
    ⟨none, .conv .u64 (.l 1), none⟩,
    ⟨none, .move (.v 7), none⟩,
    ⟨none, .conv .u64 (.l 3), none⟩,
    ⟨none, .bin .mul (.l 2) (.l 4), none⟩,
    ⟨none, .move (.v 2), none⟩,
    ⟨none, .move (.v 3), none⟩,
    ⟨none, .move (.v 6), none⟩,
    ⟨none, .bin .add (.l 7) (.l 8), none⟩,
    ⟨none, .indexAddr 1 (.l 6) (.l 9), none⟩,
    ⟨none, .load false 1 (.l 10), none⟩,
    ⟨none, .conv .u64 (.l 11), none⟩,
    ⟨none, .bin .add (.l 5) (.l 12), none⟩,
    ⟨none, .bin .add (.l 0) (.l 13), none⟩,
    ⟨some 5, .move (.l 14), none⟩] [] st := rfl
def a32r10 : List AOper := [⟨none, .move (.v 2), none⟩,
    ⟨none, .move (.v 3), none⟩,
    ⟨none, .move (.v 6), none⟩,
    ⟨none, .bin .add (.l 1) (.l 2), none⟩,
    ⟨none, .move (.v 5), none⟩,
    ⟨none, .conv .u32 (.l 4), none⟩,
    ⟨none, .indexAddr 1 (.l 0) (.l 3), none⟩,
    ⟨none, .store 1 (.l 6) (.l 5), none⟩]
theorem a32r10_ev (C st) : evalOps C a32r10 [] st = evalOps C [⟨none, .move (.v 2), none⟩,
    ⟨none, .move (.v 3), none⟩,
    ⟨none, .move (.v 6), none⟩,
    ⟨none, .bin .add (.l 1) (.l 2), none⟩,
    ⟨none, .move (.v 5), none⟩,
    ⟨none, .conv .u32 (.l 4), none⟩,
    ⟨none, .indexAddr 1 (.l 0) (.l 3), none⟩,
    ⟨none, .store 1 (.l 6) (.l 5), none⟩] [] st := rfl
def a32r11 : List AOper := [⟨none, .move (.v 5), none⟩,
    ⟨none, .bin .shr (.l 0) (.c (.int .u64 32)), none⟩,
    ⟨some 5, .move (.l 1), none⟩]
theorem a32r11_ev (C st) : evalOps C a32r11 [] st = evalOps C [⟨none, .move (.v 5), none⟩,
    ⟨none, .bin .shr (.l 0) (.c (.int .u64 32)), none⟩,
    ⟨some 5, .move (.l 1), none⟩] [] st := rfl
def a32r12 : List AOper := [⟨none, .bin .add (.v 14) (.c (.int .i64 1)), none⟩,
    ⟨some 14, .move (.l 0), none⟩]
theorem a32r12_ev (C st) : evalOps C a32r12 [] st = evalOps C [⟨none, .bin .add (.v 14) (.c (.int .i64 1)), none⟩,
    ⟨some 14, .move (.l 0), none⟩] [] st := rfl
def a32b1 : AIR := .seq (.region a32r7 false) (.seq (.cond (.v 15) (.skip) (.exit 2)) (.seq (.block 3 (.seq (.region a32r8 false) (.seq (.region a32r9 false) (.seq (.region a32r10 false) (.region a32r11 false))))) (.region a32r12 false)))
def a32l1 : AIR := .loop true [0, 1, 2, 3, 4, 5, 8, 9, 10, 11, 12, 13, 14, 16, 17, 18] a32b1
theorem a32l1_run {E GP} (st) : run E GP a32l1 st = loopK (run E GP) a32l1 st.heap.length true [0, 1, 2, 3, 4, 5, 8, 9, 10, 11, 12, 13, 14, 16, 17, 18] st.rs (run E GP a32b1 { vars := st.vars, heap := st.heap, rs := false }) := run_loop _ _ _ _
def a32r13 : List AOper := [⟨none, .move (.v 2), none⟩,
    ⟨none, .move (.v 3), none⟩,
    ⟨none, .ca (.v 17), none⟩,
    ⟨none, .field 1 1 false 1 (.v 17), none⟩,
    ⟨none, .len 0 (.l 3), none⟩,
    ⟨none, .bin .add (.l 1) (.l 4), none⟩,
    ⟨none, .move (.v 5), none⟩,
    ⟨none, .conv .u32 (.l 6), none⟩,
    ⟨none, .indexAddr 1 (.l 0) (.l 5), none⟩,
    ⟨none, .store 1 (.l 8) (.l 7), none⟩]
theorem a32r13_ev (C st) : evalOps C a32r13 [] st = evalOps C [⟨none, .move (.v 2), none⟩,
    ⟨none, .move (.v 3), none⟩,
    ⟨none, .ca (.v 17), none⟩,
    ⟨none, .field 1 1 false 1 (.v 17), none⟩,
    ⟨none, .len 0 (.l 3), none⟩,
    ⟨none, .bin .add (.l 1) (.l 4), none⟩,
    ⟨none, .move (.v 5), none⟩,
    ⟨none, .conv .u32 (.l 6), none⟩,
    ⟨none, .indexAddr 1 (.l 0) (.l 5), none⟩,
    ⟨none, .store 1 (.l 8) (.l 7), none⟩] [] st := rfl
def a32r14 : List AOper := [⟨none, .bin .add (.v 10) (.c (.int .i64 1)), none⟩,
    ⟨some 10, .move (.l 0), none⟩]
theorem a32r14_ev (C st) : evalOps C a32r14 [] st = evalOps C [⟨none, .bin .add (.v 10) (.c (.int .i64 1)), none⟩,
    ⟨some 10, .move (.l 0), none⟩] [] st := rfl
def a32b0 : AIR := .seq (.region a32r3 false) (.seq (.cond (.v 11) (.skip) (.exit 0)) (.seq (.block 1 (.seq (.region a32r4 false) (.seq (.region a32r5 false) (.seq (.seq (.region a32r6 false) (.block 2 (a32l1))) (.region a32r13 false))))) (.region a32r14 false)))
def a32l0 : AIR := .loop true [0, 1, 2, 8, 9, 10, 16, 17, 18] a32b0
theorem a32l0_run {E GP} (st) : run E GP a32l0 st = loopK (run E GP) a32l0 st.heap.length true [0, 1, 2, 8, 9, 10, 16, 17, 18] st.rs (run E GP a32b0 { vars := st.vars, heap := st.heap, rs := false }) := run_loop _ _ _ _
def a32r15 : List AOper := [⟨none, .move (.v 2), none⟩,
    ⟨none, .ca (.v 16), none⟩,
    ⟨none, .field 0 0 false 1 (.v 16), none⟩,
    ⟨none, .ca (.v 17), none⟩,
    ⟨none, .field 0 0 false 1 (.v 17), none⟩,
    ⟨none, .binb true (.l 2) (.l 4), none⟩,
    ⟨none, .call 54 [.l 0, .l 5], none⟩,
    ⟨some 18, .cs 2 (.v 18) (.l 6), none⟩]
theorem a32r15_ev (C st) : evalOps C a32r15 [] st = evalOps C [⟨none, .move (.v 2), none⟩,
    ⟨none, .ca (.v 16), none⟩,
    ⟨none, .field 0 0 false 1 (.v 16), none⟩,
    ⟨none, .ca (.v 17), none⟩,
    ⟨none, .field 0 0 false 1 (.v 17), none⟩,
    ⟨none, .binb true (.l 2) (.l 4), none⟩,
    ⟨none, .call 54 [.l 0, .l 5], none⟩,
    ⟨some 18, .cs 2 (.v 18) (.l 6), none⟩] [] st := rfl
def a32 : AFun := .mk .iso 2 19 [.c 18 true 2] (.seq (.region a32r0 false) (.seq (.region a32r1 false) (.seq (.seq (.region a32r2 false) (.block 0 (a32l0))) (.seq (.region a32r15 false) (.ret)))))
/- torsion/torsionref01.Made -/
def a38r0 : List AOper := [⟨some 4, .cn (.agg [.bool false, .isl []]), none⟩]
theorem a38r0_ev (C st) : evalOps C a38r0 [] st = evalOps C [⟨some 4, .cn (.agg [.bool false, .isl []]), none⟩] [] st := rfl
def a38r1 : List AOper := [⟨none, .move (.v 0), none⟩,
    ⟨none, .len 0 (.l 0), none⟩,
    ⟨some 2, .move (.l 1), none⟩]
theorem a38r1_ev (C st) : evalOps C a38r1 [] st = evalOps C [⟨none, .move (.v 0), none⟩,
    ⟨none, .len 0 (.l 0), none⟩,
    ⟨some 2, .move (.l 1), none⟩] [] st := rfl
def a38r2 : List AOper := [⟨none, .move (.v 2), none⟩,
    ⟨none, .bin .gtr (.l 0) (.c (.int .i64 0)), none⟩,
    ⟨none, .move (.l 1), none⟩,
    ⟨none, .move (.v 0), some (2, true)⟩,
    ⟨none, .move (.v 2), some (2, true)⟩,
    ⟨none, .bin .sub (.l 4) (.c (.int .i64 1)), some (2, true)⟩,
    ⟨none, .indexAddr 1 (.l 3) (.l 5), some (2, true)⟩,
    ⟨none, .load false 1 (.l 6), some (2, true)⟩,
    ⟨none, .bin .eql (.l 7) (.c (.int .u32 0)), some (2, true)⟩,
    ⟨some 3, .pick (.l 2) (.l 8) (.c (.bool false)), none⟩]
theorem a38r2_ev (C st) : evalOps C a38r2 [] st = evalOps C [⟨none, .move (.v 2), none⟩,
    ⟨none, .bin .gtr (.l 0) (.c (.int .i64 0)), none⟩,
    ⟨none, .move (.l 1), none⟩,
    ⟨none, .move (.v 0), some (2, true)⟩,
    ⟨none, .move (.v 2), some (2, true)⟩,
    ⟨none, .bin .sub (.l 4) (.c (.int .i64 1)), some (2, true)⟩,
    ⟨none, .indexAddr 1 (.l 3) (.l 5), some (2, true)⟩,
    ⟨none, .load false 1 (.l 6), some (2, true)⟩,
    ⟨none, .bin .eql (.l 7) (.c (.int .u32 0)), some (2, true)⟩,
    ⟨some 3, .pick (.l 2) (.l 8) (.c (.bool false)), none⟩] [] st := rfl
def a38r3 : List AOper := [⟨none, .move (.v 2), none⟩,
    ⟨none, .bin .sub (.l 0) (.c (.int .i64 1)), none⟩,
    ⟨some 2, .move (.l 1), none⟩]
theorem a38r3_ev (C st) : evalOps C a38r3 [] st = evalOps C [⟨none, .move (.v 2), none⟩,
    ⟨none, .bin .sub (.l 0) (.c (.int .i64 1)), none⟩,
    ⟨some 2, .move (.l 1), none⟩] [] st := rfl
def a38b0 : AIR := .seq (.seq (.region a38r2 false) (.cond (.v 3) (.skip) (.exit 0))) (.block 1 (.region a38r3 false))
def a38l0 : AIR := .loop true [0, 1, 2, 4] a38b0
theorem a38l0_run {E GP} (st) : run E GP a38l0 st = loopK (run E GP) a38l0 st.heap.length true [0, 1, 2, 4] st.rs (run E GP a38b0 { vars := st.vars, heap := st.heap, rs := false }) := run_loop _ _ _ _
def a38r4 : List AOper := [⟨none, .move (.v 1), none⟩,
    ⟨none, .move (.l 0), none⟩,
    ⟨none, .move (.v 2), some (1, true)⟩,
    ⟨none, .bin .gtr (.l 2) (.c (.int .i64 0)), some (1, true)⟩,
    ⟨none, .pick (.l 1) (.l 3) (.c (.bool false)), none⟩,
    ⟨none, .bslice true 1 (.int .u32 0) 0 [], none⟩,
    ⟨none, .move (.v 0), none⟩,
    ⟨none, .move (.v 2), none⟩,
    ⟨none, .slice 1 (.l 6) none (some (.l 7)) none, none⟩,
    ⟨none, .append 1 4 (.l 5) (.l 8), none⟩,
    ⟨none, .build [.bool false, .isl []] [(0, .l 4), (1, .l 9)], none⟩,
    ⟨some 4, .cs 2 (.v 4) (.l 10), none⟩]
theorem a38r4_ev (C st) : evalOps C a38r4 [] st = evalOps C [⟨none, .move (.v 1), none⟩,
    ⟨none, .move (.l 0), none⟩,
    ⟨none, .move (.v 2), some (1, true)⟩,
    ⟨none, .bin .gtr (.l 2) (.c (.int .i64 0)), some (1, true)⟩,
    ⟨none, .pick (.l 1) (.l 3) (.c (.bool false)), none⟩,
    ⟨none, .bslice true 1 (.int .u32 0) 0 [], none⟩,
    ⟨none, .move (.v 0), none⟩,
    ⟨none, .move (.v 2), none⟩,
    ⟨none, .slice 1 (.l 6) none (some (.l 7)) none, none⟩,
    ⟨none, .append 1 4 (.l 5) (.l 8), none⟩,
    ⟨none, .build [.bool false, .isl []] [(0, .l 4), (1, .l 9)], none⟩,
    ⟨some 4, .cs 2 (.v 4) (.l 10), none⟩] [] st := rfl
def a38 : AFun := .mk .con 2 5 [.c 4 true 2] (.seq (.region a38r0 false) (.seq (.region a38r1 false) (.seq (.block 0 (a38l0)) (.seq (.region a38r4 false) (.ret)))))
/- torsion/integer.Valid -/
def a47r0 : List AOper := [⟨some 3, .cb (.v 0), none⟩,
    ⟨some 1, .move (.c (.bool false)), none⟩]
theorem a47r0_ev (C st) : evalOps C a47r0 [] st = evalOps C [⟨some 3, .cb (.v 0), none⟩,
    ⟨some 1, .move (.c (.bool false)), none⟩] [] st := rfl
def a47r1 : List AOper := [⟨none, .ca (.v 3), none⟩,
    ⟨none, .field 1 1 false 1 (.v 3), none⟩,
    ⟨none, .len 0 (.l 1), none⟩,
    ⟨some 2, .move (.l 2), none⟩]
theorem a47r1_ev (C st) : evalOps C a47r1 [] st = evalOps C [⟨none, .ca (.v 3), none⟩,
    ⟨none, .field 1 1 false 1 (.v 3), none⟩,
    ⟨none, .len 0 (.l 1), none⟩,
    ⟨some 2, .move (.l 2), none⟩] [] st := rfl
def a47r2 : List AOper := [⟨none, .move (.v 2), none⟩,
    ⟨none, .bin .eql (.l 0) (.c (.int .i64 0)), none⟩,
    ⟨none, .move (.l 1), none⟩,
    ⟨none, .ca (.v 3), some (2, true)⟩,
    ⟨none, .field 0 0 false 1 (.v 3), some (2, true)⟩,
    ⟨none, .un .not (.l 4), some (2, true)⟩,
    ⟨none, .pick (.l 2) (.l 5) (.c (.bool false)), none⟩,
    ⟨none, .move (.l 6), none⟩,
    ⟨none, .move (.v 2), some (7, false)⟩,
    ⟨none, .bin .gtr (.l 8) (.c (.int .i64 0)), some (7, false)⟩,
    ⟨none, .move (.l 9), some (7, false)⟩,
    ⟨none, .ca (.v 3), some (10, true)⟩,
    ⟨none, .field 1 1 false 1 (.v 3), some (10, true)⟩,
    ⟨none, .move (.v 2), some (10, true)⟩,
    ⟨none, .bin .sub (.l 13) (.c (.int .i64 1)), some (10, true)⟩,
    ⟨none, .indexAddr 1 (.l 12) (.l 14), some (10, true)⟩,
    ⟨none, .load false 1 (.l 15), some (10, true)⟩,
    ⟨none, .bin .neq (.l 16) (.c (.int .u32 0)), some (10, true)⟩,
    ⟨none, .pick (.l 10) (.l 17) (.c (.bool false)), some (7, false)⟩,
    ⟨none, .pick (.l 7) (.c (.bool true)) (.l 18), none⟩,
    ⟨some 1, .move (.l 19), none⟩]
theorem a47r2_ev (C st) : evalOps C a47r2 [] st = evalOps C [⟨none, .move (.v 2), none⟩,
    ⟨none, .bin .eql (.l 0) (.c (.int .i64 0)), none⟩,
    ⟨none, .move (.l 1), none⟩,
    ⟨none, .ca (.v 3), some (2, true)⟩,
    ⟨none, .field 0 0 false 1 (.v 3), some (2, true)⟩,
    ⟨none, .un .not (.l 4), some (2, true)⟩,
    ⟨none, .pick (.l 2) (.l 5) (.c (.bool false)), none⟩,
    ⟨none, .move (.l 6), none⟩,
    ⟨none, .move (.v 2), some (7, false)⟩,
    ⟨none, .bin .gtr (.l 8) (.c (.int .i64 0)), some (7, false)⟩,
    ⟨none, .move (.l 9), some (7, false)⟩,
    ⟨none, .ca (.v 3), some (10, true)⟩,
    ⟨none, .field 1 1 false 1 (.v 3), some (10, true)⟩,
    ⟨none, .move (.v 2), some (10, true)⟩,
    ⟨none, .bin .sub (.l 13) (.c (.int .i64 1)), some (10, true)⟩,
    ⟨none, .indexAddr 1 (.l 12) (.l 14), some (10, true)⟩,
    ⟨none, .load false 1 (.l 15), some (10, true)⟩,
    ⟨none, .bin .neq (.l 16) (.c (.int .u32 0)), some (10, true)⟩,
    ⟨none, .pick (.l 10) (.l 17) (.c (.bool false)), some (7, false)⟩,
    ⟨none, .pick (.l 7) (.c (.bool true)) (.l 18), none⟩,
    ⟨some 1, .move (.l 19), none⟩] [] st := rfl
def a47 : AFun := .mk .iso 1 4 [.v 1] (.seq (.region a47r0 false) (.seq (.region a47r1 false) (.seq (.region a47r2 false) (.ret))))
/- torsion/integer.Sign -/
def a48r0 : List AOper := [⟨some 4, .cb (.v 0), none⟩,
    ⟨some 1, .move (.c (.int .i64 0)), none⟩]
theorem a48r0_ev (C st) : evalOps C a48r0 [] st = evalOps C [⟨some 4, .cb (.v 0), none⟩,
    ⟨some 1, .move (.c (.int .i64 0)), none⟩] [] st := rfl
def a48r1 : List AOper := [⟨none, .ca (.v 4), none⟩,
    ⟨none, .field 1 1 false 1 (.v 4), none⟩,
    ⟨none, .len 0 (.l 1), none⟩,
    ⟨none, .bin .eql (.l 2) (.c (.int .i64 0)), none⟩,
    ⟨some 2, .move (.l 3), none⟩]
theorem a48r1_ev (C st) : evalOps C a48r1 [] st = evalOps C [⟨none, .ca (.v 4), none⟩,
    ⟨none, .field 1 1 false 1 (.v 4), none⟩,
    ⟨none, .len 0 (.l 1), none⟩,
    ⟨none, .bin .eql (.l 2) (.c (.int .i64 0)), none⟩,
    ⟨some 2, .move (.l 3), none⟩] [] st := rfl
def a48r2 : List AOper := [⟨some 1, .move (.c (.int .i64 0)), none⟩]
theorem a48r2_ev (C st) : evalOps C a48r2 [] st = evalOps C [⟨some 1, .move (.c (.int .i64 0)), none⟩] [] st := rfl
def a48r3 : List AOper := [⟨none, .ca (.v 4), none⟩,
    ⟨none, .field 0 0 false 1 (.v 4), none⟩,
    ⟨some 3, .move (.l 1), none⟩]
theorem a48r3_ev (C st) : evalOps C a48r3 [] st = evalOps C [⟨none, .ca (.v 4), none⟩,
    ⟨none, .field 0 0 false 1 (.v 4), none⟩,
    ⟨some 3, .move (.l 1), none⟩] [] st := rfl
def a48r4 : List AOper := [⟨some 1, .move (.c (.int .i64 (-1))), none⟩]
theorem a48r4_ev (C st) : evalOps C a48r4 [] st = evalOps C [⟨some 1, .move (.c (.int .i64 (-1))), none⟩] [] st := rfl
def a48r5 : List AOper := [⟨some 1, .move (.c (.int .i64 1)), none⟩]
theorem a48r5_ev (C st) : evalOps C a48r5 [] st = evalOps C [⟨some 1, .move (.c (.int .i64 1)), none⟩] [] st := rfl
def a48 : AFun := .mk .iso 1 5 [.v 1] (.seq (.region a48r0 false) (.seq (.block 0 (.seq (.region a48r1 false) (.cond (.v 2) (.seq (.region a48r2 false) (.ret)) (.seq (.region a48r3 false) (.cond (.v 3) (.seq (.region a48r4 false) (.ret)) (.skip)))))) (.seq (.region a48r5 false) (.ret))))
/- torsion/torsionref01.Valid -/
def a42r0 : List AOper := [⟨some 3, .cb (.v 0), none⟩,
    ⟨some 1, .move (.c (.bool false)), none⟩]
theorem a42r0_ev (C st) : evalOps C a42r0 [] st = evalOps C [⟨some 3, .cb (.v 0), none⟩,
    ⟨some 1, .move (.c (.bool false)), none⟩] [] st := rfl
def a42r1 : List AOper := [⟨none, .ca (.v 3), none⟩,
    ⟨none, .field 1 1 false 1 (.v 3), none⟩,
    ⟨none, .len 0 (.l 1), none⟩,
    ⟨some 2, .bin .eql (.l 2) (.c (.int .i64 0)), none⟩]
theorem a42r1_ev (C st) : evalOps C a42r1 [] st = evalOps C [⟨none, .ca (.v 3), none⟩,
    ⟨none, .field 1 1 false 1 (.v 3), none⟩,
    ⟨none, .len 0 (.l 1), none⟩,
    ⟨some 2, .bin .eql (.l 2) (.c (.int .i64 0)), none⟩] [] st := rfl
def a42r2 : List AOper := [⟨none, .ca (.v 3), none⟩,
    ⟨none, .field 0 0 false 1 (.v 3), none⟩,
    ⟨none, .un .not (.l 1), none⟩,
    ⟨some 1, .move (.l 2), none⟩]
theorem a42r2_ev (C st) : evalOps C a42r2 [] st = evalOps C [⟨none, .ca (.v 3), none⟩,
    ⟨none, .field 0 0 false 1 (.v 3), none⟩,
    ⟨none, .un .not (.l 1), none⟩,
    ⟨some 1, .move (.l 2), none⟩] [] st := rfl
def a42r3 : List AOper := [⟨none, .ca (.v 3), none⟩,
    ⟨none, .field 1 1 false 1 (.v 3), none⟩,
    ⟨none, .ca (.v 3), none⟩,
    ⟨none, .field 1 1 false 1 (.v 3), none⟩,
    ⟨none, .len 0 (.l 3), none⟩,
    ⟨none, .bin .sub (.l 4) (.c (.int .i64 1)), none⟩,
    ⟨none, .indexAddr 1 (.l 1) (.l 5), none⟩,
    ⟨none, .load false 1 (.l 6), none⟩,
    ⟨none, .bin .neq (.l 7) (.c (.int .u32 0)), none⟩,
    ⟨some 1, .move (.l 8), none⟩]
theorem a42r3_ev (C st) : evalOps C a42r3 [] st = evalOps C [⟨none, .ca (.v 3), none⟩,
    ⟨none, .field 1 1 false 1 (.v 3), none⟩,
    ⟨none, .ca (.v 3), none⟩,
    ⟨none, .field 1 1 false 1 (.v 3), none⟩,
    ⟨none, .len 0 (.l 3), none⟩,
    ⟨none, .bin .sub (.l 4) (.c (.int .i64 1)), none⟩,
    ⟨none, .indexAddr 1 (.l 1) (.l 5), none⟩,
    ⟨none, .load false 1 (.l 6), none⟩,
    ⟨none, .bin .neq (.l 7) (.c (.int .u32 0)), none⟩,
    ⟨some 1, .move (.l 8), none⟩] [] st := rfl
def a42 : AFun := .mk .iso 1 4 [.v 1] (.seq (.region a42r0 false) (.seq (.seq (.region a42r1 false) (.cond (.v 2) (.seq (.region a42r2 false) (.ret)) (.skip))) (.seq (.region a42r3 false) (.ret))))
/- torsion/torsionref01.Sign -/
def a43r0 : List AOper := [⟨some 4, .cb (.v 0), none⟩,
    ⟨some 1, .move (.c (.int .i64 0)), none⟩]
theorem a43r0_ev (C st) : evalOps C a43r0 [] st = evalOps C [⟨some 4, .cb (.v 0), none⟩,
    ⟨some 1, .move (.c (.int .i64 0)), none⟩] [] st := rfl
def a43r1 : List AOper := [⟨none, .ca (.v 4), none⟩,
    ⟨none, .field 1 1 false 1 (.v 4), none⟩,
    ⟨none, .len 0 (.l 1), none⟩,
    ⟨some 2, .bin .eql (.l 2) (.c (.int .i64 0)), none⟩]
theorem a43r1_ev (C st) : evalOps C a43r1 [] st = evalOps C [⟨none, .ca (.v 4), none⟩,
    ⟨none, .field 1 1 false 1 (.v 4), none⟩,
    ⟨none, .len 0 (.l 1), none⟩,
    ⟨some 2, .bin .eql (.l 2) (.c (.int .i64 0)), none⟩] [] st := rfl
def a43r2 : List AOper := [⟨some 1, .move (.c (.int .i64 0)), none⟩]
theorem a43r2_ev (C st) : evalOps C a43r2 [] st = evalOps C [⟨some 1, .move (.c (.int .i64 0)), none⟩] [] st := rfl
def a43r3 : List AOper := [⟨none, .ca (.v 4), none⟩,
    ⟨some 3, .field 0 0 false 1 (.v 4), none⟩]
theorem a43r3_ev (C st) : evalOps C a43r3 [] st = evalOps C [⟨none, .ca (.v 4), none⟩,
    ⟨some 3, .field 0 0 false 1 (.v 4), none⟩] [] st := rfl
def a43r4 : List AOper := [⟨some 1, .move (.c (.int .i64 (-1))), none⟩]
theorem a43r4_ev (C st) : evalOps C a43r4 [] st = evalOps C [⟨some 1, .move (.c (.int .i64 (-1))), none⟩] [] st := rfl
def a43r5 : List AOper := [⟨some 1, .move (.c (.int .i64 1)), none⟩]
theorem a43r5_ev (C st) : evalOps C a43r5 [] st = evalOps C [⟨some 1, .move (.c (.int .i64 1)), none⟩] [] st := rfl
def a43 : AFun := .mk .iso 1 5 [.v 1] (.seq (.region a43r0 false) (.seq (.seq (.region a43r1 false) (.cond (.v 2) (.seq (.region a43r2 false) (.ret)) (.skip))) (.seq (.seq (.region a43r3 false) (.cond (.v 3) (.seq (.region a43r4 false) (.ret)) (.skip))) (.seq (.region a43r5 false) (.ret)))))
/- torsion/chains.look -/
def a30r0 : List AOper := [⟨some 2, .move (.c (.isl [])), none⟩,
    ⟨some 3, .move (.c (.int .i64 0)), none⟩,
    ⟨some 4, .move (.c (.int .i64 0)), none⟩]
theorem a30r0_ev (C st) : evalOps C a30r0 [] st = evalOps C [⟨some 2, .move (.c (.isl [])), none⟩,
    ⟨some 3, .move (.c (.int .i64 0)), none⟩,
    ⟨some 4, .move (.c (.int .i64 0)), none⟩] [] st := rfl
def a30r1 : List AOper := [⟨some 5, .nils 3, none⟩]
theorem a30r1_ev (C st) : evalOps C a30r1 [] st = evalOps C [⟨some 5, .nils 3, none⟩] [] st := rfl
def a30r2 : List AOper := [⟨some 8, .move (.v 1), none⟩,
    ⟨some 9, .len 0 (.l 0), none⟩,
    ⟨some 10, .move (.c (.int .i64 0)), none⟩]
theorem a30r2_ev (C st) : evalOps C a30r2 [] st = evalOps C [⟨some 8, .move (.v 1), none⟩,
    ⟨some 9, .len 0 (.l 0), none⟩,
    ⟨some 10, .move (.c (.int .i64 0)), none⟩] [] st := rfl
def a30r3 : List AOper := [⟨some 11, .bin .lss (.v 10) (.v 9), none⟩]
theorem a30r3_ev (C st) : evalOps C a30r3 [] st = evalOps C [⟨some 11, .bin .lss (.v 10) (.v 9), none⟩] [] st := rfl
def a30r4 : List AOper := [⟨none, .indexAddr 3 (.v 8) (.v 10), none⟩,
    ⟨none, .load true 3 (.l 0), none⟩,
    ⟨some 15, .cn (.agg [.int .i64 0, .agg [.bool false, .isl []]]), none⟩,
    ⟨some 15, .cs 3 (.l 2) (.l 1), none⟩]
theorem a30r4_ev (C st) : evalOps C a30r4 [] st = evalOps C [⟨none, .indexAddr 3 (.v 8) (.v 10), none⟩,
    ⟨none, .load true 3 (.l 0), none⟩,
    ⟨some 15, .cn (.agg [.int .i64 0, .agg [.bool false, .isl []]]), none⟩,
    ⟨some 15, .cs 3 (.l 2) (.l 1), none⟩] [] st := rfl
def a30r5 : List AOper := [⟨none, .move (.v 0), none⟩,
    ⟨none, .ca (.v 15), none⟩,
    ⟨none, .field 0 0 false 1 (.v 15), none⟩,
    ⟨none, .call 50 [.l 0, .l 2], none⟩,
    ⟨none, .move (.l 3), none⟩,
    ⟨none, .extract 0 (.l 4), none⟩,
    ⟨none, .extract 1 (.l 4), none⟩,
    ⟨some 16, .cn (.agg [.int .i64 0, .int .i64 0, .nl]), none⟩,
    ⟨some 16, .cs 3 (.l 7) (.l 5), none⟩,
    ⟨some 6, .move (.l 6), none⟩]
theorem a30r5_ev (C st) : evalOps C a30r5 [] st = evalOps C [⟨none, .move (.v 0), none⟩,
    ⟨none, .ca (.v 15), none⟩,
    ⟨none, .field 0 0 false 1 (.v 15), none⟩,
    ⟨none, .call 50 [.l 0, .l 2], none⟩,
    ⟨none, .move (.l 3), none⟩,
    ⟨none, .extract 0 (.l 4), none⟩,
    ⟨none, .extract 1 (.l 4), none⟩,
    ⟨some 16, .cn (.agg [.int .i64 0, .int .i64 0, .nl]), none⟩,
    ⟨some 16, .cs 3 (.l 7) (.l 5), none⟩,
    ⟨some 6, .move (.l 6), none⟩] [] st := rfl
def a30r6 : List AOper := [⟨none, .move (.v 6), none⟩,
    ⟨some 12, .un .not (.l 0), none⟩]
theorem a30r6_ev (C st) : evalOps C a30r6 [] st = evalOps C [⟨none, .move (.v 6), none⟩,
    ⟨some 12, .un .not (.l 0), none⟩] [] st := rfl
def a30r7 : List AOper := [⟨some 2, .move (.c (.isl [])), none⟩,
    ⟨some 3, .move (.c (.int .i64 0)), none⟩,
    ⟨some 4, .move (.c (.int .i64 250)), none⟩]
theorem a30r7_ev (C st) : evalOps C a30r7 [] st = evalOps C [⟨some 2, .move (.c (.isl [])), none⟩,
    ⟨some 3, .move (.c (.int .i64 0)), none⟩,
    ⟨some 4, .move (.c (.int .i64 250)), none⟩] [] st := rfl
def a30r8 : List AOper := [⟨none, .move (.v 5), none⟩,
    ⟨none, .cl true 3 (.v 16), none⟩,
    ⟨none, .bslice false 3 (.agg [.int .i64 0, .int .i64 0, .nl]) 1 [(0, .l 1)], none⟩,
    ⟨none, .append 3 40 (.l 0) (.l 2), none⟩,
    ⟨some 5, .move (.l 3), none⟩]
theorem a30r8_ev (C st) : evalOps C a30r8 [] st = evalOps C [⟨none, .move (.v 5), none⟩,
    ⟨none, .cl true 3 (.v 16), none⟩,
    ⟨none, .bslice false 3 (.agg [.int .i64 0, .int .i64 0, .nl]) 1 [(0, .l 1)], none⟩,
    ⟨none, .append 3 40 (.l 0) (.l 2), none⟩,
    ⟨some 5, .move (.l 3), none⟩] [] st := rfl
def a30r9 : List AOper := [⟨none, .bin .add (.v 10) (.c (.int .i64 1)), none⟩,
    ⟨some 10, .move (.l 0), none⟩]
theorem a30r9_ev (C st) : evalOps C a30r9 [] st = evalOps C [⟨none, .bin .add (.v 10) (.c (.int .i64 1)), none⟩,
    ⟨some 10, .move (.l 0), none⟩] [] st := rfl
def a30b0 : AIR := .seq (.region a30r3 false) (.seq (.cond (.v 11) (.skip) (.exit 0)) (.seq (.block 1 (.seq (.region a30r4 false) (.seq (.region a30r5 false) (.seq (.seq (.region a30r6 false) (.cond (.v 12) (.seq (.region a30r7 false) (.ret)) (.skip))) (.region a30r8 false))))) (.region a30r9 false)))
def a30l0 : AIR := .loop true [0, 1, 2, 3, 4, 5, 7, 8, 9, 10, 13, 14] a30b0
theorem a30l0_run {E GP} (st) : run E GP a30l0 st = loopK (run E GP) a30l0 st.heap.length true [0, 1, 2, 3, 4, 5, 7, 8, 9, 10, 13, 14] st.rs (run E GP a30b0 { vars := st.vars, heap := st.heap, rs := false }) := run_loop _ _ _ _
def a30r10 : List AOper := [⟨none, .move (.v 5), none⟩,
    ⟨none, .len 0 (.l 0), none⟩,
    ⟨some 13, .bin .eql (.l 1) (.c (.int .i64 0)), none⟩]
theorem a30r10_ev (C st) : evalOps C a30r10 [] st = evalOps C [⟨none, .move (.v 5), none⟩,
    ⟨none, .len 0 (.l 0), none⟩,
    ⟨some 13, .bin .eql (.l 1) (.c (.int .i64 0)), none⟩] [] st := rfl
def a30r11 : List AOper := [⟨some 2, .move (.c (.isl [])), none⟩,
    ⟨some 3, .move (.c (.int .i64 (-1))), none⟩,
    ⟨some 4, .move (.c (.int .i64 0)), none⟩]
theorem a30r11_ev (C st) : evalOps C a30r11 [] st = evalOps C [⟨some 2, .move (.c (.isl [])), none⟩,
    ⟨some 3, .move (.c (.int .i64 (-1))), none⟩,
    ⟨some 4, .move (.c (.int .i64 0)), none⟩] [] st := rfl
def a30r12 : List AOper := [⟨none, .move (.v 5), none⟩,
    ⟨none, .indexAddr 3 (.l 0) (.c (.int .i64 0)), none⟩,
    ⟨none, .fieldAddr 1 1 (.l 1), none⟩,
    ⟨none, .load false 1 (.l 2), none⟩,
    ⟨some 7, .alloc (.int .i64 0), none⟩,
    ⟨none, .store 1 (.l 4) (.l 3), none⟩]
theorem a30r12_ev (C st) : evalOps C a30r12 [] st = evalOps C [⟨none, .move (.v 5), none⟩,
    ⟨none, .indexAddr 3 (.l 0) (.c (.int .i64 0)), none⟩,
    ⟨none, .fieldAddr 1 1 (.l 1), none⟩,
    ⟨none, .load false 1 (.l 2), none⟩,
    ⟨some 7, .alloc (.int .i64 0), none⟩,
    ⟨none, .store 1 (.l 4) (.l 3), none⟩] [] st := rfl
def a30r13 : List AOper := [⟨none, .move (.v 5), none⟩,
    ⟨none, .mkfn 51 [.v 7], none⟩,
    ⟨some 14, .call 52 [.l 0, .l 1], none⟩]
theorem a30r13_ev (C st) : evalOps C a30r13 [] st = evalOps C [⟨none, .move (.v 5), none⟩,
    ⟨none, .mkfn 51 [.v 7], none⟩,
    ⟨some 14, .call 52 [.l 0, .l 1], none⟩] [] st := rfl
def a30r14 : List AOper := [⟨some 2, .move (.c (.isl [])), none⟩,
    ⟨some 3, .move (.c (.int .i64 0)), none⟩,
    ⟨some 4, .move (.c (.int .i64 260)), none⟩]
theorem a30r14_ev (C st) : evalOps C a30r14 [] st = evalOps C [⟨some 2, .move (.c (.isl [])), none⟩,
    ⟨some 3, .move (.c (.int .i64 0)), none⟩,
    ⟨some 4, .move (.c (.int .i64 260)), none⟩] [] st := rfl
def a30r15 : List AOper := [⟨none, .move (.v 5), none⟩,
    ⟨none, .load false 1 (.v 7), none⟩,
    ⟨some 2, .move (.l 0), none⟩,
    ⟨some 3, .move (.l 1), none⟩,
    ⟨some 4, .move (.c (.int .i64 0)), none⟩]
theorem a30r15_ev (C st) : evalOps C a30r15 [] st = evalOps C [⟨none, .move (.v 5), none⟩,
    ⟨none, .load false 1 (.v 7), none⟩,
    ⟨some 2, .move (.l 0), none⟩,
    ⟨some 3, .move (.l 1), none⟩,
    ⟨some 4, .move (.c (.int .i64 0)), none⟩] [] st := rfl
def a30 : AFun := .mk .iso 2 17 [.v 2, .v 3, .v 4] (.seq (.region a30r0 false) (.seq (.region a30r1 false) (.seq (.seq (.region a30r2 false) (.block 0 (a30l0))) (.seq (.seq (.region a30r10 false) (.cond (.v 13) (.seq (.region a30r11 false) (.ret)) (.skip))) (.seq (.region a30r12 false) (.seq (.seq (.region a30r13 false) (.cond (.v 14) (.seq (.region a30r14 false) (.ret)) (.skip))) (.seq (.region a30r15 true) (.ret))))))))
/- torsion/complex.Cells -/
def a35r0 : List AOper := [⟨some 2, .move (.c (.isl [])), none⟩]
theorem a35r0_ev (C st) : evalOps C a35r0 [] st = evalOps C [⟨some 2, .move (.c (.isl [])), none⟩] [] st := rfl
def a35r1 : List AOper := [⟨some 3, .nils 1, none⟩]
theorem a35r1_ev (C st) : evalOps C a35r1 [] st = evalOps C [⟨some 3, .nils 1, none⟩] [] st := rfl
def a35r2 : List AOper := [⟨some 4, .move (.v 0), none⟩,
    ⟨some 5, .len 0 (.l 0), none⟩,
    ⟨some 6, .move (.c (.int .i64 0)), none⟩]
theorem a35r2_ev (C st) : evalOps C a35r2 [] st = evalOps C [⟨some 4, .move (.v 0), none⟩,
    ⟨some 5, .len 0 (.l 0), none⟩,
    ⟨some 6, .move (.c (.int .i64 0)), none⟩] [] st := rfl
def a35r3 : List AOper := [⟨some 7, .bin .lss (.v 6) (.v 5), none⟩]
theorem a35r3_ev (C st) : evalOps C a35r3 [] st = evalOps C [⟨some 7, .bin .lss (.v 6) (.v 5), none⟩] [] st := rfl
def a35r4 : List AOper := [⟨none, .indexAddr 3 (.v 4) (.v 6), none⟩,
    ⟨none, .load true 3 (.l 0), none⟩,
    ⟨some 9, .cn (.agg [.int .i64 0, .int .i64 0, .nl]), none⟩,
    ⟨some 9, .cs 3 (.l 2) (.l 1), none⟩]
theorem a35r4_ev (C st) : evalOps C a35r4 [] st = evalOps C [⟨none, .indexAddr 3 (.v 4) (.v 6), none⟩,
    ⟨none, .load true 3 (.l 0), none⟩,
    ⟨some 9, .cn (.agg [.int .i64 0, .int .i64 0, .nl]), none⟩,
    ⟨some 9, .cs 3 (.l 2) (.l 1), none⟩] [] st := rfl
def a35r5 : List AOper := [⟨none, .ca (.v 9), none⟩,
    ⟨none, .field 1 1 false 1 (.v 9), none⟩,
    ⟨none, .move (.v 1), none⟩,
    ⟨some 8, .bin .eql (.l 1) (.l 2), none⟩]
theorem a35r5_ev (C st) : evalOps C a35r5 [] st = evalOps C [⟨none, .ca (.v 9), none⟩,
    ⟨none, .field 1 1 false 1 (.v 9), none⟩,
    ⟨none, .move (.v 1), none⟩,
    ⟨some 8, .bin .eql (.l 1) (.l 2), none⟩] [] st := rfl
def a35r6 : List AOper := [⟨none, .move (.v 3), none⟩,
    ⟨none, .ca (.v 9), none⟩,
    ⟨none, .field 0 0 false 1 (.v 9), none⟩,
    ⟨none, .bslice false 1 (.int .i64 0) 1 [(0, .l 2)], none⟩,
    ⟨none, .append 1 8 (.l 0) (.l 3), none⟩,
    ⟨some 3, .move (.l 4), none⟩]
theorem a35r6_ev (C st) : evalOps C a35r6 [] st = evalOps C [⟨none, .move (.v 3), none⟩,
    ⟨none, .ca (.v 9), none⟩,
    ⟨none, .field 0 0 false 1 (.v 9), none⟩,
    ⟨none, .bslice false 1 (.int .i64 0) 1 [(0, .l 2)], none⟩,
    ⟨none, .append 1 8 (.l 0) (.l 3), none⟩,
    ⟨some 3, .move (.l 4), none⟩] [] st := rfl
def a35r7 : List AOper := [⟨none, .bin .add (.v 6) (.c (.int .i64 1)), none⟩,
    ⟨some 6, .move (.l 0), none⟩]
theorem a35r7_ev (C st) : evalOps C a35r7 [] st = evalOps C [⟨none, .bin .add (.v 6) (.c (.int .i64 1)), none⟩,
    ⟨some 6, .move (.l 0), none⟩] [] st := rfl
def a35b0 : AIR := .seq (.region a35r3 false) (.seq (.cond (.v 7) (.skip) (.exit 0)) (.seq (.block 1 (.seq (.region a35r4 false) (.seq (.region a35r5 false) (.cond (.v 8) (.region a35r6 false) (.skip))))) (.region a35r7 false)))
def a35l0 : AIR := .loop true [0, 1, 2, 3, 4, 5, 6] a35b0
theorem a35l0_run {E GP} (st) : run E GP a35l0 st = loopK (run E GP) a35l0 st.heap.length true [0, 1, 2, 3, 4, 5, 6] st.rs (run E GP a35b0 { vars := st.vars, heap := st.heap, rs := false }) := run_loop _ _ _ _
def a35r8 : List AOper := [⟨none, .move (.v 3), none⟩,
    ⟨some 2, .move (.l 0), none⟩]
theorem a35r8_ev (C st) : evalOps C a35r8 [] st = evalOps C [⟨none, .move (.v 3), none⟩,
    ⟨some 2, .move (.l 0), none⟩] [] st := rfl
def a35 : AFun := .mk .iso 2 10 [.v 2] (.seq (.region a35r0 false) (.seq (.region a35r1 false) (.seq (.seq (.region a35r2 false) (.block 0 (a35l0))) (.seq (.region a35r8 false) (.ret)))))
/- torsion/torsionref01.Add -/
def a49r0 : List AOper := [⟨some 4, .cb (.v 0), none⟩,
    ⟨some 5, .cb (.v 1), none⟩,
    ⟨some 6, .cn (.agg [.bool false, .isl []]), none⟩]
theorem a49r0_ev (C st) : evalOps C a49r0 [] st = evalOps C [⟨some 4, .cb (.v 0), none⟩,
    ⟨some 5, .cb (.v 1), none⟩,
    ⟨some 6, .cn (.agg [.bool false, .isl []]), none⟩] [] st := rfl
def a49r1 : List AOper := [⟨none, .ca (.v 4), none⟩,
    ⟨none, .field 0 0 false 1 (.v 4), none⟩,
    ⟨none, .ca (.v 5), none⟩,
    ⟨none, .field 0 0 false 1 (.v 5), none⟩,
    ⟨some 2, .binb false (.l 1) (.l 3), none⟩]
theorem a49r1_ev (C st) : evalOps C a49r1 [] st = evalOps C [⟨none, .ca (.v 4), none⟩,
    ⟨none, .field 0 0 false 1 (.v 4), none⟩,
    ⟨none, .ca (.v 5), none⟩,
    ⟨none, .field 0 0 false 1 (.v 5), none⟩,
    ⟨some 2, .binb false (.l 1) (.l 3), none⟩] [] st := rfl
def a49r2 : List AOper := [⟨none, .ca (.v 4), none⟩,
    ⟨none, .field 1 1 false 1 (.v 4), none⟩,
    ⟨none, .ca (.v 5), none⟩,
    ⟨none, .field 1 1 false 1 (.v 5), none⟩,
    ⟨none, .call 63 [.l 1, .l 3], none⟩,
    ⟨none, .ca (.v 4), none⟩,
    ⟨none, .field 0 0 false 1 (.v 4), none⟩,
    ⟨none, .call 38 [.l 4, .l 6], none⟩,
    ⟨some 6, .cs 2 (.v 6) (.l 7), none⟩]
theorem a49r2_ev (C st) : evalOps C a49r2 [] st = evalOps C [⟨none, .ca (.v 4), none⟩,
    ⟨none, .field 1 1 false 1 (.v 4), none⟩,
    ⟨none, .ca (.v 5), none⟩,
    ⟨none, .field 1 1 false 1 (.v 5), none⟩,
    ⟨none, .call 63 [.l 1, .l 3], none⟩,
    ⟨none, .ca (.v 4), none⟩,
    ⟨none, .field 0 0 false 1 (.v 4), none⟩,
    ⟨none, .call 38 [.l 4, .l 6], none⟩,
    ⟨some 6, .cs 2 (.v 6) (.l 7), none⟩] [] st := rfl
def a49r3 : List AOper := [⟨none, .ca (.v 4), none⟩,
    ⟨none, .field 1 1 false 1 (.v 4), none⟩,
    ⟨none, .ca (.v 5), none⟩,
    ⟨none, .field 1 1 false 1 (.v 5), none⟩,
    ⟨some 3, .call 57 [.l 1, .l 3], none⟩]
theorem a49r3_ev (C st) : evalOps C a49r3 [] st = evalOps C [⟨none, .ca (.v 4), none⟩,
    ⟨none, .field 1 1 false 1 (.v 4), none⟩,
    ⟨none, .ca (.v 5), none⟩,
    ⟨none, .field 1 1 false 1 (.v 5), none⟩,
    ⟨some 3, .call 57 [.l 1, .l 3], none⟩] [] st := rfl
def a49r4 : List AOper := [⟨none, .ca (.v 5), none⟩,
    ⟨none, .field 1 1 false 1 (.v 5), none⟩,
    ⟨none, .ca (.v 4), none⟩,
    ⟨none, .field 1 1 false 1 (.v 4), none⟩,
    ⟨none, .call 64 [.l 1, .l 3], none⟩,
    ⟨none, .ca (.v 5), none⟩,
    ⟨none, .field 0 0 false 1 (.v 5), none⟩,
    ⟨none, .call 38 [.l 4, .l 6], none⟩,
    ⟨some 6, .cs 2 (.v 6) (.l 7), none⟩]
theorem a49r4_ev (C st) : evalOps C a49r4 [] st = evalOps C [⟨none, .ca (.v 5), none⟩,
    ⟨none, .field 1 1 false 1 (.v 5), none⟩,
    ⟨none, .ca (.v 4), none⟩,
    ⟨none, .field 1 1 false 1 (.v 4), none⟩,
    ⟨none, .call 64 [.l 1, .l 3], none⟩,
    ⟨none, .ca (.v 5), none⟩,
    ⟨none, .field 0 0 false 1 (.v 5), none⟩,
    ⟨none, .call 38 [.l 4, .l 6], none⟩,
    ⟨some 6, .cs 2 (.v 6) (.l 7), none⟩] [] st := rfl
def a49r5 : List AOper := [⟨none, .ca (.v 4), none⟩,
    ⟨none, .field 1 1 false 1 (.v 4), none⟩,
    ⟨none, .ca (.v 5), none⟩,
    ⟨none, .field 1 1 false 1 (.v 5), none⟩,
    ⟨none, .call 64 [.l 1, .l 3], none⟩,
    ⟨none, .ca (.v 4), none⟩,
    ⟨none, .field 0 0 false 1 (.v 4), none⟩,
    ⟨none, .call 38 [.l 4, .l 6], none⟩,
    ⟨some 6, .cs 2 (.v 6) (.l 7), none⟩]
theorem a49r5_ev (C st) : evalOps C a49r5 [] st = evalOps C [⟨none, .ca (.v 4), none⟩,
    ⟨none, .field 1 1 false 1 (.v 4), none⟩,
    ⟨none, .ca (.v 5), none⟩,
    ⟨none, .field 1 1 false 1 (.v 5), none⟩,
    ⟨none, .call 64 [.l 1, .l 3], none⟩,
    ⟨none, .ca (.v 4), none⟩,
    ⟨none, .field 0 0 false 1 (.v 4), none⟩,
    ⟨none, .call 38 [.l 4, .l 6], none⟩,
    ⟨some 6, .cs 2 (.v 6) (.l 7), none⟩] [] st := rfl
def a49 : AFun := .mk .iso 2 7 [.c 6 true 2] (.seq (.region a49r0 false) (.seq (.seq (.region a49r1 false) (.cond (.v 2) (.seq (.region a49r2 true) (.ret)) (.skip))) (.seq (.seq (.region a49r3 false) (.cond (.v 3) (.seq (.region a49r4 true) (.ret)) (.skip))) (.seq (.region a49r5 true) (.ret)))))
/- torsion/torsionref01.less -/
def a57r0 : List AOper := [⟨some 2, .move (.c (.bool false)), none⟩]
theorem a57r0_ev (C st) : evalOps C a57r0 [] st = evalOps C [⟨some 2, .move (.c (.bool false)), none⟩] [] st := rfl
def a57r1 : List AOper := [⟨none, .move (.v 0), none⟩,
    ⟨none, .len 0 (.l 0), none⟩,
    ⟨none, .move (.v 1), none⟩,
    ⟨none, .len 0 (.l 2), none⟩,
    ⟨some 4, .bin .neq (.l 1) (.l 3), none⟩]
theorem a57r1_ev (C st) : evalOps C a57r1 [] st = evalOps C [⟨none, .move (.v 0), none⟩,
    ⟨none, .len 0 (.l 0), none⟩,
    ⟨none, .move (.v 1), none⟩,
    ⟨none, .len 0 (.l 2), none⟩,
    ⟨some 4, .bin .neq (.l 1) (.l 3), none⟩] [] st := rfl
def a57r2 : List AOper := [⟨none, .move (.v 0), none⟩,
    ⟨none, .len 0 (.l 0), none⟩,
    ⟨none, .move (.v 1), none⟩,
    ⟨none, .len 0 (.l 2), none⟩,
    ⟨none, .bin .lss (.l 1) (.l 3), none⟩,
    ⟨some 2, .move (.l 4), none⟩]
theorem a57r2_ev (C st) : evalOps C a57r2 [] st = evalOps C [⟨none, .move (.v 0), none⟩,
    ⟨none, .len 0 (.l 0), none⟩,
    ⟨none, .move (.v 1), none⟩,
    ⟨none, .len 0 (.l 2), none⟩,
    ⟨none, .bin .lss (.l 1) (.l 3), none⟩,
    ⟨some 2, .move (.l 4), none⟩] [] st := rfl
def a57r3 : List AOper := [⟨none, .move (.v 0), none⟩,
    ⟨none, .len 0 (.l 0), none⟩,
    ⟨none, .bin .sub (.l 1) (.c (.int .i64 1)), none⟩,
    ⟨some 3, .move (.l 2), none⟩]
theorem a57r3_ev (C st) : evalOps C a57r3 [] st = evalOps C [⟨none, .move (.v 0), none⟩,
    ⟨none, .len 0 (.l 0), none⟩,
    ⟨none, .bin .sub (.l 1) (.c (.int .i64 1)), none⟩,
    ⟨some 3, .move (.l 2), none⟩] [] st := rfl
def a57r4 : List AOper := [⟨none, .move (.v 3), none⟩,
    ⟨some 5, .bin .geq (.l 0) (.c (.int .i64 0)), none⟩]
theorem a57r4_ev (C st) : evalOps C a57r4 [] st = evalOps C [⟨none, .move (.v 3), none⟩,
    ⟨some 5, .bin .geq (.l 0) (.c (.int .i64 0)), none⟩] [] st := rfl
def a57r6 : List AOper := [⟨none, .move (.v 0), none⟩,
    ⟨none, .move (.v 3), none⟩,
    ⟨none, .indexAddr 1 (.l 0) (.l 1), none⟩,
    ⟨none, .load false 1 (.l 2), none⟩,
    ⟨none, .move (.v 1), none⟩,
    ⟨none, .move (.v 3), none⟩,
    ⟨none, .indexAddr 1 (.l 4) (.l 5), none⟩,
    ⟨none, .load false 1 (.l 6), none⟩,
    ⟨some 6, .bin .neq (.l 3) (.l 7), none⟩]
theorem a57r6_ev (C st) : evalOps C a57r6 [] st = evalOps C [⟨none, .move (.v 0), none⟩,
    ⟨none, .move (.v 3), none⟩,
    ⟨none, .indexAddr 1 (.l 0) (.l 1), none⟩,
    ⟨none, .load false 1 (.l 2), none⟩,
    ⟨none, .move (.v 1), none⟩,
    ⟨none, .move (.v 3), none⟩,
    ⟨none, .indexAddr 1 (.l 4) (.l 5), none⟩,
    ⟨none, .load false 1 (.l 6), none⟩,
    ⟨some 6, .bin .neq (.l 3) (.l 7), none⟩] [] st := rfl
def a57r7 : List AOper := [⟨none, .move (.v 0), none⟩,
    ⟨none, .move (.v 3), none⟩,
    ⟨none, .indexAddr 1 (.l 0) (.l 1), none⟩,
    ⟨none, .load false 1 (.l 2), none⟩,
    ⟨none, .move (.v 1), none⟩,
    ⟨none, .move (.v 3), none⟩,
    ⟨none, .indexAddr 1 (.l 4) (.l 5), none⟩,
    ⟨none, .load false 1 (.l 6), none⟩,
    ⟨none, .bin .lss (.l 3) (.l 7), none⟩,
    ⟨some 2, .move (.l 8), none⟩]
theorem a57r7_ev (C st) : evalOps C a57r7 [] st = evalOps C [⟨none, .move (.v 0), none⟩,
    ⟨none, .move (.v 3), none⟩,
    ⟨none, .indexAddr 1 (.l 0) (.l 1), none⟩,
    ⟨none, .load false 1 (.l 2), none⟩,
    ⟨none, .move (.v 1), none⟩,
    ⟨none, .move (.v 3), none⟩,
    ⟨none, .indexAddr 1 (.l 4) (.l 5), none⟩,
    ⟨none, .load false 1 (.l 6), none⟩,
    ⟨none, .bin .lss (.l 3) (.l 7), none⟩,
    ⟨some 2, .move (.l 8), none⟩] [] st := rfl
def a57r5 : List AOper := [⟨none, .move (.v 3), none⟩,
    ⟨none, .bin .sub (.l 0) (.c (.int .i64 1)), none⟩,
    ⟨some 3, .move (.l 1), none⟩]
theorem a57r5_ev (C st) : evalOps C a57r5 [] st = evalOps C [⟨none, .move (.v 3), none⟩,
    ⟨none, .bin .sub (.l 0) (.c (.int .i64 1)), none⟩,
    ⟨some 3, .move (.l 1), none⟩] [] st := rfl
def a57b0 : AIR := .seq (.seq (.region a57r4 false) (.cond (.v 5) (.skip) (.exit 0))) (.seq (.block 1 (.seq (.region a57r6 true) (.cond (.v 6) (.seq (.region a57r7 true) (.ret)) (.skip)))) (.region a57r5 false))
def a57l0 : AIR := .loop true [0, 1, 2, 3, 4] a57b0
theorem a57l0_run {E GP} (st) : run E GP a57l0 st = loopK (run E GP) a57l0 st.heap.length true [0, 1, 2, 3, 4] st.rs (run E GP a57b0 { vars := st.vars, heap := st.heap, rs := false }) := run_loop _ _ _ _
def a57r8 : List AOper := [⟨some 2, .move (.c (.bool false)), none⟩]
theorem a57r8_ev (C st) : evalOps C a57r8 [] st = evalOps C [⟨some 2, .move (.c (.bool false)), none⟩] [] st := rfl
def a57 : AFun := .mk .iso 2 7 [.v 2] (.seq (.region a57r0 false) (.seq (.seq (.region a57r1 false) (.cond (.v 4) (.seq (.region a57r2 false) (.ret)) (.skip))) (.seq (.seq (.region a57r3 false) (.block 0 (a57l0))) (.seq (.region a57r8 false) (.ret)))))
/- torsion/integer.Add -/
def a53r0 : List AOper := [⟨some 4, .cb (.v 0), none⟩,
    ⟨some 5, .cb (.v 1), none⟩,
    ⟨some 6, .cn (.agg [.bool false, .isl []]), none⟩]
theorem a53r0_ev (C st) : evalOps C a53r0 [] st = evalOps C [⟨some 4, .cb (.v 0), none⟩,
    ⟨some 5, .cb (.v 1), none⟩,
    ⟨some 6, .cn (.agg [.bool false, .isl []]), none⟩] [] st := rfl
def a53r1 : List AOper := [⟨none, .ca (.v 4), none⟩,
    ⟨none, .field 0 0 false 1 (.v 4), none⟩,
    ⟨none, .ca (.v 5), none⟩,
    ⟨none, .field 0 0 false 1 (.v 5), none⟩,
    ⟨none, .binb false (.l 1) (.l 3), none⟩,
    ⟨some 2, .move (.l 4), none⟩]
theorem a53r1_ev (C st) : evalOps C a53r1 [] st = evalOps C [⟨none, .ca (.v 4), none⟩,
    ⟨none, .field 0 0 false 1 (.v 4), none⟩,
    ⟨none, .ca (.v 5), none⟩,
    ⟨none, .field 0 0 false 1 (.v 5), none⟩,
    ⟨none, .binb false (.l 1) (.l 3), none⟩,
    ⟨some 2, .move (.l 4), none⟩] [] st := rfl
def a53r2 : List AOper := [⟨none, .ca (.v 4), none⟩,
    ⟨none, .field 1 1 false 1 (.v 4), none⟩,
    ⟨none, .ca (.v 5), none⟩,
    ⟨none, .field 1 1 false 1 (.v 5), none⟩,
    ⟨none, .call 67 [.l 1, .l 3], none⟩,
    ⟨none, .ca (.v 4), none⟩,
    ⟨none, .field 0 0 false 1 (.v 4), none⟩,
    ⟨none, .call 54 [.l 4, .l 6], none⟩,
    ⟨some 6, .cs 2 (.v 6) (.l 7), none⟩]
theorem a53r2_ev (C st) : evalOps C a53r2 [] st = evalOps C [⟨none, .ca (.v 4), none⟩,
    ⟨none, .field 1 1 false 1 (.v 4), none⟩,
    ⟨none, .ca (.v 5), none⟩,
    ⟨none, .field 1 1 false 1 (.v 5), none⟩,
    ⟨none, .call 67 [.l 1, .l 3], none⟩,
    ⟨none, .ca (.v 4), none⟩,
    ⟨none, .field 0 0 false 1 (.v 4), none⟩,
    ⟨none, .call 54 [.l 4, .l 6], none⟩,
    ⟨some 6, .cs 2 (.v 6) (.l 7), none⟩] [] st := rfl
def a53r3 : List AOper := [⟨none, .ca (.v 4), none⟩,
    ⟨none, .field 1 1 false 1 (.v 4), none⟩,
    ⟨none, .ca (.v 5), none⟩,
    ⟨none, .field 1 1 false 1 (.v 5), none⟩,
    ⟨none, .call 68 [.l 1, .l 3], none⟩,
    ⟨none, .bin .lss (.l 4) (.c (.int .i64 0)), none⟩,
    ⟨some 3, .move (.l 5), none⟩]
theorem a53r3_ev (C st) : evalOps C a53r3 [] st = evalOps C [⟨none, .ca (.v 4), none⟩,
    ⟨none, .field 1 1 false 1 (.v 4), none⟩,
    ⟨none, .ca (.v 5), none⟩,
    ⟨none, .field 1 1 false 1 (.v 5), none⟩,
    ⟨none, .call 68 [.l 1, .l 3], none⟩,
    ⟨none, .bin .lss (.l 4) (.c (.int .i64 0)), none⟩,
    ⟨some 3, .move (.l 5), none⟩] [] st := rfl
def a53r4 : List AOper := [⟨none, .ca (.v 5), none⟩,
    ⟨none, .field 1 1 false 1 (.v 5), none⟩,
    ⟨none, .ca (.v 4), none⟩,
    ⟨none, .field 1 1 false 1 (.v 4), none⟩,
    ⟨none, .call 69 [.l 1, .l 3], none⟩,
    ⟨none, .ca (.v 5), none⟩,
    ⟨none, .field 0 0 false 1 (.v 5), none⟩,
    ⟨none, .call 54 [.l 4, .l 6], none⟩,
    ⟨some 6, .cs 2 (.v 6) (.l 7), none⟩]
theorem a53r4_ev (C st) : evalOps C a53r4 [] st = evalOps C [⟨none, .ca (.v 5), none⟩,
    ⟨none, .field 1 1 false 1 (.v 5), none⟩,
    ⟨none, .ca (.v 4), none⟩,
    ⟨none, .field 1 1 false 1 (.v 4), none⟩,
    ⟨none, .call 69 [.l 1, .l 3], none⟩,
    ⟨none, .ca (.v 5), none⟩,
    ⟨none, .field 0 0 false 1 (.v 5), none⟩,
    ⟨none, .call 54 [.l 4, .l 6], none⟩,
    ⟨some 6, .cs 2 (.v 6) (.l 7), none⟩] [] st := rfl
def a53r5 : List AOper := [⟨none, .ca (.v 4), none⟩,
    ⟨none, .field 1 1 false 1 (.v 4), none⟩,
    ⟨none, .ca (.v 5), none⟩,
    ⟨none, .field 1 1 false 1 (.v 5), none⟩,
    ⟨none, .call 69 [.l 1, .l 3], none⟩,
    ⟨none, .ca (.v 4), none⟩,
    ⟨none, .field 0 0 false 1 (.v 4), none⟩,
    ⟨none, .call 54 [.l 4, .l 6], none⟩,
    ⟨some 6, .cs 2 (.v 6) (.l 7), none⟩]
theorem a53r5_ev (C st) : evalOps C a53r5 [] st = evalOps C [⟨none, .ca (.v 4), none⟩,
    ⟨none, .field 1 1 false 1 (.v 4), none⟩,
    ⟨none, .ca (.v 5), none⟩,
    ⟨none, .field 1 1 false 1 (.v 5), none⟩,
    ⟨none, .call 69 [.l 1, .l 3], none⟩,
    ⟨none, .ca (.v 4), none⟩,
    ⟨none, .field 0 0 false 1 (.v 4), none⟩,
    ⟨none, .call 54 [.l 4, .l 6], none⟩,
    ⟨some 6, .cs 2 (.v 6) (.l 7), none⟩] [] st := rfl
def a53 : AFun := .mk .iso 2 7 [.c 6 true 2] (.seq (.region a53r0 false) (.seq (.block 0 (.seq (.region a53r1 false) (.cond (.v 2) (.seq (.region a53r2 true) (.ret)) (.seq (.region a53r3 false) (.cond (.v 3) (.seq (.region a53r4 true) (.ret)) (.skip)))))) (.seq (.region a53r5 true) (.ret))))
/- maps.Keys[torsion/chains.sum,int,torsion/api.Int] -/
def a55r0 : List AOper := [⟨some 1, .box true (.v 0), none⟩,
    ⟨some 2, .move (.c (.a .nilFunc)), none⟩]
theorem a55r0_ev (C st) : evalOps C a55r0 [] st = evalOps C [⟨some 1, .box true (.v 0), none⟩,
    ⟨some 2, .move (.c (.a .nilFunc)), none⟩] [] st := rfl
def a55r1 : List AOper := [⟨none, .mkfn 72 [.v 1], none⟩,
    ⟨some 2, .move (.l 0), none⟩]
theorem a55r1_ev (C st) : evalOps C a55r1 [] st = evalOps C [⟨none, .mkfn 72 [.v 1], none⟩,
    ⟨some 2, .move (.l 0), none⟩] [] st := rfl
def a55 : AFun := .mk .shr 1 3 [.v 2] (.seq (.region a55r0 false) (.seq (.region a55r1 false) (.ret)))
/- torsion/integer.norm -/
def a54r0 : List AOper := [⟨some 5, .cn (.agg [.bool false, .isl []]), none⟩]
theorem a54r0_ev (C st) : evalOps C a54r0 [] st = evalOps C [⟨some 5, .cn (.agg [.bool false, .isl []]), none⟩] [] st := rfl
def a54r1 : List AOper := [⟨none, .move (.v 0), none⟩,
    ⟨none, .len 0 (.l 0), none⟩,
    ⟨some 2, .move (.l 1), none⟩]
theorem a54r1_ev (C st) : evalOps C a54r1 [] st = evalOps C [⟨none, .move (.v 0), none⟩,
    ⟨none, .len 0 (.l 0), none⟩,
    ⟨some 2, .move (.l 1), none⟩] [] st := rfl
def a54r2 : List AOper := [⟨none, .move (.v 2), none⟩,
    ⟨some 3, .bin .gtr (.l 0) (.c (.int .i64 0)), none⟩]
theorem a54r2_ev (C st) : evalOps C a54r2 [] st = evalOps C [⟨none, .move (.v 2), none⟩,
    ⟨some 3, .bin .gtr (.l 0) (.c (.int .i64 0)), none⟩] [] st := rfl
def a54r3 : List AOper := [⟨none, .move (.v 0), none⟩,
    ⟨none, .move (.v 2), none⟩,
    ⟨none, .bin .sub (.l 1) (.c (.int .i64 1)), none⟩,
    ⟨none, .indexAddr 1 (.l 0) (.l 2), none⟩,
    ⟨none, .load false 1 (.l 3), none⟩,
    ⟨some 4, .bin .neq (.l 4) (.c (.int .u32 0)), none⟩]
theorem a54r3_ev (C st) : evalOps C a54r3 [] st = evalOps C [⟨none, .move (.v 0), none⟩,
    ⟨none, .move (.v 2), none⟩,
    ⟨none, .bin .sub (.l 1) (.c (.int .i64 1)), none⟩,
    ⟨none, .indexAddr 1 (.l 0) (.l 2), none⟩,
    ⟨none, .load false 1 (.l 3), none⟩,
    ⟨some 4, .bin .neq (.l 4) (.c (.int .u32 0)), none⟩] [] st := rfl
def a54r4 : List AOper := [⟨none, .move (.v 2), none⟩,
    ⟨none, .bin .sub (.l 0) (.c (.int .i64 1)), none⟩,
    ⟨some 2, .move (.l 1), none⟩]
theorem a54r4_ev (C st) : evalOps C a54r4 [] st = evalOps C [⟨none, .move (.v 2), none⟩,
    ⟨none, .bin .sub (.l 0) (.c (.int .i64 1)), none⟩,
    ⟨some 2, .move (.l 1), none⟩] [] st := rfl
def a54b0 : AIR := .seq (.seq (.region a54r2 false) (.cond (.v 3) (.skip) (.exit 0))) (.block 1 (.seq (.seq (.region a54r3 false) (.cond (.v 4) (.exit 0) (.skip))) (.region a54r4 false)))
def a54l0 : AIR := .loop true [0, 1, 2, 5] a54b0
theorem a54l0_run {E GP} (st) : run E GP a54l0 st = loopK (run E GP) a54l0 st.heap.length true [0, 1, 2, 5] st.rs (run E GP a54b0 { vars := st.vars, heap := st.heap, rs := false }) := run_loop _ _ _ _
def a54r5 : List AOper := [⟨none, .move (.v 1), none⟩,
    ⟨none, .move (.l 0), none⟩,
    ⟨none, .move (.v 2), some (1, true)⟩,
    ⟨none, .bin .gtr (.l 2) (.c (.int .i64 0)), some (1, true)⟩,
    ⟨none, .pick (.l 1) (.l 3) (.c (.bool false)), none⟩,
    ⟨none, .move (.v 0), none⟩,
    ⟨none, .move (.v 2), none⟩,
    ⟨none, .move (.v 2), none⟩,
    ⟨none, .slice 1 (.l 5) none (some (.l 6)) (some (.l 7)), none⟩,
    ⟨none, .build [.bool false, .isl []] [(0, .l 4), (1, .l 8)], none⟩,
    ⟨some 5, .cs 2 (.v 5) (.l 9), none⟩]
theorem a54r5_ev (C st) : evalOps C a54r5 [] st = evalOps C [⟨none, .move (.v 1), none⟩,
    ⟨none, .move (.l 0), none⟩,
    ⟨none, .move (.v 2), some (1, true)⟩,
    ⟨none, .bin .gtr (.l 2) (.c (.int .i64 0)), some (1, true)⟩,
    ⟨none, .pick (.l 1) (.l 3) (.c (.bool false)), none⟩,
    ⟨none, .move (.v 0), none⟩,
    ⟨none, .move (.v 2), none⟩,
    ⟨none, .move (.v 2), none⟩,
    ⟨none, .slice 1 (.l 5) none (some (.l 6)) (some (.l 7)), none⟩,
    ⟨none, .build [.bool false, .isl []] [(0, .l 4), (1, .l 8)], none⟩,
    ⟨some 5, .cs 2 (.v 5) (.l 9), none⟩] [] st := rfl
def a54 : AFun := .mk .con 2 6 [.c 5 true 2] (.seq (.region a54r0 false) (.scope (.seq (.region a54r1 false) (.seq (.label 0) (.seq (.block 0 (a54l0)) (.seq (.region a54r5 false) (.ret)))))))
/- torsion/complex.Find -/
def a50r0 : List AOper := [⟨some 6, .cn (.agg [.int .i64 0, .int .i64 0, .nl]), none⟩,
    ⟨some 2, .move (.c (.bool false)), none⟩]
theorem a50r0_ev (C st) : evalOps C a50r0 [] st = evalOps C [⟨some 6, .cn (.agg [.int .i64 0, .int .i64 0, .nl]), none⟩,
    ⟨some 2, .move (.c (.bool false)), none⟩] [] st := rfl
def a50r1 : List AOper := [⟨none, .move (.v 0), none⟩,
    ⟨none, .move (.v 1), none⟩,
    ⟨none, .call 65 [.l 0, .l 1], none⟩,
    ⟨none, .move (.l 2), none⟩,
    ⟨none, .extract 0 (.l 3), none⟩,
    ⟨none, .extract 1 (.l 3), none⟩,
    ⟨some 3, .move (.l 4), none⟩,
    ⟨some 4, .move (.l 5), none⟩]
theorem a50r1_ev (C st) : evalOps C a50r1 [] st = evalOps C [⟨none, .move (.v 0), none⟩,
    ⟨none, .move (.v 1), none⟩,
    ⟨none, .call 65 [.l 0, .l 1], none⟩,
    ⟨none, .move (.l 2), none⟩,
    ⟨none, .extract 0 (.l 3), none⟩,
    ⟨none, .extract 1 (.l 3), none⟩,
    ⟨some 3, .move (.l 4), none⟩,
    ⟨some 4, .move (.l 5), none⟩] [] st := rfl
def a50r2 : List AOper := [⟨none, .move (.v 4), none⟩,
    ⟨some 5, .un .not (.l 0), none⟩]
theorem a50r2_ev (C st) : evalOps C a50r2 [] st = evalOps C [⟨none, .move (.v 4), none⟩,
    ⟨some 5, .un .not (.l 0), none⟩] [] st := rfl
def a50r3 : List AOper := [⟨none, .build [.int .i64 0, .int .i64 0, .nl] [], none⟩,
    ⟨some 6, .cs 3 (.v 6) (.l 0), none⟩,
    ⟨some 2, .move (.c (.bool false)), none⟩]
theorem a50r3_ev (C st) : evalOps C a50r3 [] st = evalOps C [⟨none, .build [.int .i64 0, .int .i64 0, .nl] [], none⟩,
    ⟨some 6, .cs 3 (.v 6) (.l 0), none⟩,
    ⟨some 2, .move (.c (.bool false)), none⟩] [] st := rfl
def a50r4 : List AOper := [⟨none, .move (.v 0), none⟩,
    ⟨none, .move (.v 3), none⟩,
    ⟨none, .indexAddr 3 (.l 0) (.l 1), none⟩,
    ⟨none, .load true 3 (.l 2), none⟩,
    ⟨some 6, .cs 3 (.v 6) (.l 3), none⟩,
    ⟨some 2, .move (.c (.bool true)), none⟩]
theorem a50r4_ev (C st) : evalOps C a50r4 [] st = evalOps C [⟨none, .move (.v 0), none⟩,
    ⟨none, .move (.v 3), none⟩,
    ⟨none, .indexAddr 3 (.l 0) (.l 1), none⟩,
    ⟨none, .load true 3 (.l 2), none⟩,
    ⟨some 6, .cs 3 (.v 6) (.l 3), none⟩,
    ⟨some 2, .move (.c (.bool true)), none⟩] [] st := rfl
def a50 : AFun := .mk .iso 2 7 [.c 6 true 3, .v 2] (.seq (.region a50r0 false) (.seq (.region a50r1 false) (.seq (.seq (.region a50r2 false) (.cond (.v 5) (.seq (.region a50r3 false) (.ret)) (.skip))) (.seq (.region a50r4 false) (.ret)))))
/- slices.ContainsFunc[[]torsion/api.Cell,torsion/api.Cell] -/
def a52r0 : List AOper := [⟨some 2, .move (.c (.bool false)), none⟩]
theorem a52r0_ev (C st) : evalOps C a52r0 [] st = evalOps C [⟨some 2, .move (.c (.bool false)), none⟩] [] st := rfl
def a52r1 : List AOper := [⟨none, .move (.v 0), none⟩,
    ⟨none, .move (.v 1), none⟩,
    ⟨none, .call 66 [.l 0, .l 1], none⟩,
    ⟨none, .bin .geq (.l 2) (.c (.int .i64 0)), none⟩,
    ⟨some 2, .move (.l 3), none⟩]
theorem a52r1_ev (C st) : evalOps C a52r1 [] st = evalOps C [⟨none, .move (.v 0), none⟩,
    ⟨none, .move (.v 1), none⟩,
    ⟨none, .call 66 [.l 0, .l 1], none⟩,
    ⟨none, .bin .geq (.l 2) (.c (.int .i64 0)), none⟩,
    ⟨some 2, .move (.l 3), none⟩] [] st := rfl
def a52 : AFun := .mk .shr 2 3 [.v 2] (.seq (.region a52r0 false) (.seq (.region a52r1 false) (.ret)))
/- torsion/chains.look-1 -/
def a51r0 : List AOper := [⟨some 3, .cb (.v 0), none⟩,
    ⟨some 2, .move (.c (.bool false)), none⟩]
theorem a51r0_ev (C st) : evalOps C a51r0 [] st = evalOps C [⟨some 3, .cb (.v 0), none⟩,
    ⟨some 2, .move (.c (.bool false)), none⟩] [] st := rfl
def a51r1 : List AOper := [⟨none, .ca (.v 3), none⟩,
    ⟨none, .field 1 1 false 1 (.v 3), none⟩,
    ⟨none, .load false 1 (.v 1), none⟩,
    ⟨none, .bin .neq (.l 1) (.l 2), none⟩,
    ⟨some 2, .move (.l 3), none⟩]
theorem a51r1_ev (C st) : evalOps C a51r1 [] st = evalOps C [⟨none, .ca (.v 3), none⟩,
    ⟨none, .field 1 1 false 1 (.v 3), none⟩,
    ⟨none, .load false 1 (.v 1), none⟩,
    ⟨none, .bin .neq (.l 1) (.l 2), none⟩,
    ⟨some 2, .move (.l 3), none⟩] [] st := rfl
def a51 : AFun := .mk .shr 2 4 [.v 2] (.seq (.region a51r0 false) (.seq (.region a51r1 false) (.ret)))
/- torsion/torsionref01.plus -/
def a63r0 : List AOper := [⟨some 2, .move (.c (.isl [])), none⟩]
theorem a63r0_ev (C st) : evalOps C a63r0 [] st = evalOps C [⟨some 2, .move (.c (.isl [])), none⟩] [] st := rfl
def a63r1 : List AOper := [⟨none, .bslice true 1 (.int .u32 0) 0 [], none⟩,
    ⟨some 3, .move (.l 0), none⟩,
    ⟨some 4, .move (.c (.int .u64 0)), none⟩]
theorem a63r1_ev (C st) : evalOps C a63r1 [] st = evalOps C [⟨none, .bslice true 1 (.int .u32 0) 0 [], none⟩,
    ⟨some 3, .move (.l 0), none⟩,
    ⟨some 4, .move (.c (.int .u64 0)), none⟩] [] st := rfl
def a63r2 : List AOper := [⟨some 5, .move (.c (.int .i64 0)), none⟩]
theorem a63r2_ev (C st) : evalOps C a63r2 [] st = evalOps C [⟨some 5, .move (.c (.int .i64 0)), none⟩] [] st := rfl
def a63r3 : List AOper := [⟨none, .move (.v 5), none⟩,
    ⟨none, .move (.v 0), none⟩,
    ⟨none, .len 0 (.l 1), none⟩,
    ⟨none, .bin .lss (.l 0) (.l 2), none⟩,
    ⟨none, .move (.l 3), none⟩,
    ⟨none, .move (.v 5), some (4, false)⟩,
    ⟨none, .move (.v 1), some (4, false)⟩,
    ⟨none, .len 0 (.l 6), some (4, false)⟩,
    ⟨none, .bin .lss (.l 5) (.l 7), some (4, false)⟩,
    ⟨none, .pick (.l 4) (.c (.bool true)) (.l 8), none⟩,
    ⟨none, .move (.l 9), none⟩,
    ⟨none, .move (.v 4), some (10, false)⟩,
    ⟨none, .bin .gtr (.l 11) (.c (.int .u64 0)), some (10, false)⟩,
    ⟨some 6, .pick (.l 10) (.c (.bool true)) (.l 12), none⟩]
theorem a63r3_ev (C st) : evalOps C a63r3 [] st = evalOps C [⟨none, .move (.v 5), none⟩,
    ⟨none, .move (.v 0), none⟩,
    ⟨none, .len 0 (.l 1), none⟩,
    ⟨none, .bin .lss (.l 0) (.l 2), none⟩,
    ⟨none, .move (.l 3), none⟩,
    ⟨none, .move (.v 5), some (4, false)⟩,
    ⟨none, .move (.v 1), some (4, false)⟩,
    ⟨none, .len 0 (.l 6), some (4, false)⟩,
    ⟨none, .bin .lss (.l 5) (.l 7), some (4, false)⟩,
    ⟨none, .pick (.l 4) (.c (.bool true)) (.l 8), none⟩,
    ⟨none, .move (.l 9), none⟩,
    ⟨none, .move (.v 4), some (10, false)⟩,
    ⟨none, .bin .gtr (.l 11) (.c (.int .u64 0)), some (10, false)⟩,
    ⟨some 6, .pick (.l 10) (.c (.bool true)) (.l 12), none⟩] [] st := rfl
def a63r5 : List AOper := [⟨none, .move (.v 5), none⟩,
    ⟨none, .move (.v 0), none⟩,
    ⟨none, .len 0 (.l 1), none⟩,
    ⟨some 7, .bin .lss (.l 0) (.l 2), none⟩]
theorem a63r5_ev (C st) : evalOps C a63r5 [] st = evalOps C [⟨none, .move (.v 5), none⟩,
    ⟨none, .move (.v 0), none⟩,
    ⟨none, .len 0 (.l 1), none⟩,
    ⟨some 7, .bin .lss (.l 0) (.l 2), none⟩] [] st := rfl
def a63r6 : List AOper := [⟨none, .move (.v 4), none⟩,
    ⟨none, .move (.v 0), none⟩,
    ⟨none, .move (.v 5), none⟩,
    ⟨none, .indexAddr 1 (.l 1) (.l 2), none⟩,
    ⟨none, .load false 1 (.l 3), none⟩,
    ⟨none, .conv .u64 (.l 4), none⟩,
    ⟨none, .bin .add (.l 0) (.l 5), none⟩,
    ⟨some 4, .move (.l 6), none⟩]
theorem a63r6_ev (C st) : evalOps C a63r6 [] st = evalOps C [⟨none, .move (.v 4), none⟩,
    ⟨none, .move (.v 0), none⟩,
    ⟨none, .move (.v 5), none⟩,
    ⟨none, .indexAddr 1 (.l 1) (.l 2), none⟩,
    ⟨none, .load false 1 (.l 3), none⟩,
    ⟨none, .conv .u64 (.l 4), none⟩,
    ⟨none, .bin .add (.l 0) (.l 5), none⟩,
    ⟨some 4, .move (.l 6), none⟩] [] st := rfl
def a63r7 : List AOper := [⟨none, .move (.v 5), none⟩,
    ⟨none, .move (.v 1), none⟩,
    ⟨none, .len 0 (.l 1), none⟩,
    ⟨some 8, .bin .lss (.l 0) (.l 2), none⟩]
theorem a63r7_ev (C st) : evalOps C a63r7 [] st = evalOps C [⟨none, .move (.v 5), none⟩,
    ⟨none, .move (.v 1), none⟩,
    ⟨none, .len 0 (.l 1), none⟩,
    ⟨some 8, .bin .lss (.l 0) (.l 2), none⟩] [] st := rfl
def a63r8 : List AOper := [⟨none, .move (.v 4), none⟩,
    ⟨none, .move (.v 1), none⟩,
    ⟨none, .move (.v 5), none⟩,
    ⟨none, .indexAddr 1 (.l 1) (.l 2), none⟩,
    ⟨none, .load false 1 (.l 3), none⟩,
    ⟨none, .conv .u64 (.l 4), none⟩,
    ⟨none, .bin .add (.l 0) (.l 5), none⟩,
    ⟨some 4, .move (.l 6), none⟩]
theorem a63r8_ev (C st) : evalOps C a63r8 [] st = evalOps C [⟨none, .move (.v 4), none⟩,
    ⟨none, .move (.v 1), none⟩,
    ⟨none, .move (.v 5), none⟩,
    ⟨none, .indexAddr 1 (.l 1) (.l 2), none⟩,
    ⟨none, .load false 1 (.l 3), none⟩,
    ⟨none, .conv .u64 (.l 4), none⟩,
    ⟨none, .bin .add (.l 0) (.l 5), none⟩,
    ⟨some 4, .move (.l 6), none⟩] [] st := rfl
def a63r9 : List AOper := [⟨none, .move (.v 3), none⟩,
    ⟨none, .move (.v 4), none⟩,
    ⟨none, .conv .u32 (.l 1), none⟩,
    ⟨none, .bslice false 1 (.int .u32 0) 1 [(0, .l 2)], none⟩,
    ⟨none, .append 1 4 (.l 0) (.l 3), none⟩,
    ⟨some 3, .move (.l 4), none⟩]
theorem a63r9_ev (C st) : evalOps C a63r9 [] st = evalOps C [⟨none, .move (.v 3), none⟩,
    ⟨none, .move (.v 4), none⟩,
    ⟨none, .conv .u32 (.l 1), none⟩,
    ⟨none, .bslice false 1 (.int .u32 0) 1 [(0, .l 2)], none⟩,
    ⟨none, .append 1 4 (.l 0) (.l 3), none⟩,
    ⟨some 3, .move (.l 4), none⟩] [] st := rfl
def a63r10 : List AOper := [⟨none, .move (.v 4), none⟩,
    ⟨none, .bin .quo (.l 0) (.c (.int .u64 4294967296)), none⟩,
    ⟨some 4, .move (.l 1), none⟩]
theorem a63r10_ev (C st) : evalOps C a63r10 [] st = evalOps C [⟨none, .move (.v 4), none⟩,
    ⟨none, .bin .quo (.l 0) (.c (.int .u64 4294967296)), none⟩,
    ⟨some 4, .move (.l 1), none⟩] [] st := rfl
def a63r4 : List AOper := [⟨none, .move (.v 5), none⟩,
    ⟨none, .bin .add (.l 0) (.c (.int .i64 1)), none⟩,
    ⟨some 5, .move (.l 1), none⟩]
theorem a63r4_ev (C st) : evalOps C a63r4 [] st = evalOps C [⟨none, .move (.v 5), none⟩,
    ⟨none, .bin .add (.l 0) (.c (.int .i64 1)), none⟩,
    ⟨some 5, .move (.l 1), none⟩] [] st := rfl
def a63b0 : AIR := .seq (.seq (.region a63r3 false) (.cond (.v 6) (.skip) (.exit 0))) (.seq (.block 1 (.seq (.seq (.region a63r5 false) (.cond (.v 7) (.region a63r6 false) (.skip))) (.seq (.seq (.region a63r7 false) (.cond (.v 8) (.region a63r8 false) (.skip))) (.seq (.region a63r9 false) (.region a63r10 false))))) (.region a63r4 false))
def a63l0 : AIR := .loop true [0, 1, 2, 3, 4, 5] a63b0
theorem a63l0_run {E GP} (st) : run E GP a63l0 st = loopK (run E GP) a63l0 st.heap.length true [0, 1, 2, 3, 4, 5] st.rs (run E GP a63b0 { vars := st.vars, heap := st.heap, rs := false }) := run_loop _ _ _ _
def a63r11 : List AOper := [⟨none, .move (.v 3), none⟩,
    ⟨some 2, .move (.l 0), none⟩]
theorem a63r11_ev (C st) : evalOps C a63r11 [] st = evalOps C [⟨none, .move (.v 3), none⟩,
    ⟨some 2, .move (.l 0), none⟩] [] st := rfl
def a63 : AFun := .mk .iso 2 9 [.v 2] (.seq (.region a63r0 false) (.seq (.region a63r1 false) (.seq (.seq (.region a63r2 false) (.block 0 (a63l0))) (.seq (.region a63r11 false) (.ret)))))
/- torsion/torsionref01.minus -/
def a64r0 : List AOper := [⟨some 2, .move (.c (.isl [])), none⟩]
theorem a64r0_ev (C st) : evalOps C a64r0 [] st = evalOps C [⟨some 2, .move (.c (.isl [])), none⟩] [] st := rfl
def a64r1 : List AOper := [⟨none, .bslice true 1 (.int .u32 0) 0 [], none⟩,
    ⟨some 3, .move (.l 0), none⟩,
    ⟨some 4, .move (.c (.int .i64 0)), none⟩]
theorem a64r1_ev (C st) : evalOps C a64r1 [] st = evalOps C [⟨none, .bslice true 1 (.int .u32 0) 0 [], none⟩,
    ⟨some 3, .move (.l 0), none⟩,
    ⟨some 4, .move (.c (.int .i64 0)), none⟩] [] st := rfl
def a64r2 : List AOper := [⟨some 5, .move (.c (.int .i64 0)), none⟩]
theorem a64r2_ev (C st) : evalOps C a64r2 [] st = evalOps C [⟨some 5, .move (.c (.int .i64 0)), none⟩] [] st := rfl
def a64r3 : List AOper := [⟨none, .move (.v 5), none⟩,
    ⟨none, .move (.v 0), none⟩,
    ⟨none, .len 0 (.l 1), none⟩,
    ⟨some 7, .bin .lss (.l 0) (.l 2), none⟩]
theorem a64r3_ev (C st) : evalOps C a64r3 [] st = evalOps C [⟨none, .move (.v 5), none⟩,
    ⟨none, .move (.v 0), none⟩,
    ⟨none, .len 0 (.l 1), none⟩,
    ⟨some 7, .bin .lss (.l 0) (.l 2), none⟩] [] st := rfl
def a64r5 : List AOper := [⟨none, .move (.v 0), none⟩,
    ⟨none, .move (.v 5), none⟩,
    ⟨none, .indexAddr 1 (.l 0) (.l 1), none⟩,
    ⟨none, .load false 1 (.l 2), none⟩,
    ⟨none, .conv .i64 (.l 3), none⟩,
    ⟨none, .move (.v 4), none⟩,
    ⟨none, .bin .sub (.l 4) (.l 5), none⟩,
    ⟨some 6, .move (.l 6), none⟩]
theorem a64r5_ev (C st) : evalOps C a64r5 [] st = evalOps C [⟨none, .move (.v 0), none⟩,
    ⟨none, .move (.v 5), none⟩,
    ⟨none, .indexAddr 1 (.l 0) (.l 1), none⟩,
    ⟨none, .load false 1 (.l 2), none⟩,
    ⟨none, .conv .i64 (.l 3), none⟩,
    ⟨none, .move (.v 4), none⟩,
    ⟨none, .bin .sub (.l 4) (.l 5), none⟩,
    ⟨some 6, .move (.l 6), none⟩] [] st := rfl
def a64r6 : List AOper := [⟨none, .move (.v 5), none⟩,
    ⟨none, .move (.v 1), none⟩,
    ⟨none, .len 0 (.l 1), none⟩,
    ⟨some 8, .bin .lss (.l 0) (.l 2), none⟩]
theorem a64r6_ev (C st) : evalOps C a64r6 [] st = evalOps C [⟨none, .move (.v 5), none⟩,
    ⟨none, .move (.v 1), none⟩,
    ⟨none, .len 0 (.l 1), none⟩,
    ⟨some 8, .bin .lss (.l 0) (.l 2), none⟩] [] st := rfl
def a64r7 : List AOper := [⟨none, .move (.v 6), none⟩,
    ⟨none, .move (.v 1), none⟩,
    ⟨none, .move (.v 5), none⟩,
    ⟨none, .indexAddr 1 (.l 1) (.l 2), none⟩,
    ⟨none, .load false 1 (.l 3), none⟩,
    ⟨none, .conv .i64 (.l 4), none⟩,
    ⟨none, .bin .sub (.l 0) (.l 5), none⟩,
    ⟨some 6, .move (.l 6), none⟩]
theorem a64r7_ev (C st) : evalOps C a64r7 [] st = evalOps C [⟨none, .move (.v 6), none⟩,
    ⟨none, .move (.v 1), none⟩,
    ⟨none, .move (.v 5), none⟩,
    ⟨none, .indexAddr 1 (.l 1) (.l 2), none⟩,
    ⟨none, .load false 1 (.l 3), none⟩,
    ⟨none, .conv .i64 (.l 4), none⟩,
    ⟨none, .bin .sub (.l 0) (.l 5), none⟩,
    ⟨some 6, .move (.l 6), none⟩] [] st := rfl
def a64r8 : List AOper := [⟨some 4, .move (.c (.int .i64 0)), none⟩]
theorem a64r8_ev (C st) : evalOps C a64r8 [] st = evalOps C [⟨some 4, .move (.c (.int .i64 0)), none⟩] [] st := rfl
def a64r9 : List AOper := [⟨none, .move (.v 6), none⟩,
    ⟨some 9, .bin .lss (.l 0) (.c (.int .i64 0)), none⟩]
theorem a64r9_ev (C st) : evalOps C a64r9 [] st = evalOps C [⟨none, .move (.v 6), none⟩,
    ⟨some 9, .bin .lss (.l 0) (.c (.int .i64 0)), none⟩] [] st := rfl
def a64r10 : List AOper := [⟨none, .move (.v 6), none⟩,
    ⟨none, .bin .add (.l 0) (.c (.int .i64 4294967296)), none⟩,
    ⟨some 6, .move (.l 1), none⟩]
theorem a64r10_ev (C st) : evalOps C a64r10 [] st = evalOps C [⟨none, .move (.v 6), none⟩,
    ⟨none, .bin .add (.l 0) (.c (.int .i64 4294967296)), none⟩,
    ⟨some 6, .move (.l 1), none⟩] [] st := rfl
def a64r11 : List AOper := [⟨some 4, .move (.c (.int .i64 1)), none⟩]
theorem a64r11_ev (C st) : evalOps C a64r11 [] st = evalOps C [⟨some 4, .move (.c (.int .i64 1)), none⟩] [] st := rfl
def a64r12 : List AOper := [⟨none, .move (.v 3), none⟩,
    ⟨none, .move (.v 6), none⟩,
    ⟨none, .conv .u32 (.l 1), none⟩,
    ⟨none, .bslice false 1 (.int .u32 0) 1 [(0, .l 2)], none⟩,
    ⟨none, .append 1 4 (.l 0) (.l 3), none⟩,
    ⟨some 3, .move (.l 4), none⟩]
theorem a64r12_ev (C st) : evalOps C a64r12 [] st = evalOps C [⟨none, .move (.v 3), none⟩,
    ⟨none, .move (.v 6), none⟩,
    ⟨none, .conv .u32 (.l 1), none⟩,
    ⟨none, .bslice false 1 (.int .u32 0) 1 [(0, .l 2)], none⟩,
    ⟨none, .append 1 4 (.l 0) (.l 3), none⟩,
    ⟨some 3, .move (.l 4), none⟩] [] st := rfl
def a64r4 : List AOper := [⟨none, .move (.v 5), none⟩,
    ⟨none, .bin .add (.l 0) (.c (.int .i64 1)), none⟩,
    ⟨some 5, .move (.l 1), none⟩]
theorem a64r4_ev (C st) : evalOps C a64r4 [] st = evalOps C [⟨none, .move (.v 5), none⟩,
    ⟨none, .bin .add (.l 0) (.c (.int .i64 1)), none⟩,
    ⟨some 5, .move (.l 1), none⟩] [] st := rfl
def a64b0 : AIR := .seq (.seq (.region a64r3 false) (.cond (.v 7) (.skip) (.exit 0))) (.seq (.block 1 (.seq (.region a64r5 false) (.seq (.seq (.region a64r6 false) (.cond (.v 8) (.region a64r7 false) (.skip))) (.seq (.region a64r8 false) (.seq (.seq (.region a64r9 false) (.cond (.v 9) (.seq (.region a64r10 false) (.region a64r11 false)) (.skip))) (.region a64r12 false)))))) (.region a64r4 false))
def a64l0 : AIR := .loop true [0, 1, 2, 3, 4, 5] a64b0
theorem a64l0_run {E GP} (st) : run E GP a64l0 st = loopK (run E GP) a64l0 st.heap.length true [0, 1, 2, 3, 4, 5] st.rs (run E GP a64b0 { vars := st.vars, heap := st.heap, rs := false }) := run_loop _ _ _ _
def a64r13 : List AOper := [⟨none, .move (.v 3), none⟩,
    ⟨some 2, .move (.l 0), none⟩]
theorem a64r13_ev (C st) : evalOps C a64r13 [] st = evalOps C [⟨none, .move (.v 3), none⟩,
    ⟨some 2, .move (.l 0), none⟩] [] st := rfl
def a64 : AFun := .mk .iso 2 10 [.v 2] (.seq (.region a64r0 false) (.seq (.region a64r1 false) (.seq (.seq (.region a64r2 false) (.block 0 (a64l0))) (.seq (.region a64r13 false) (.ret)))))
/- torsion/integer.plus -/
def a67r0 : List AOper := [⟨some 2, .move (.c (.isl [])), none⟩]
theorem a67r0_ev (C st) : evalOps C a67r0 [] st = evalOps C [⟨some 2, .move (.c (.isl [])), none⟩] [] st := rfl
def a67r1 : List AOper := [⟨none, .move (.v 0), none⟩,
    ⟨none, .len 0 (.l 0), none⟩,
    ⟨none, .move (.v 1), none⟩,
    ⟨none, .len 0 (.l 2), none⟩,
    ⟨some 7, .bin .lss (.l 1) (.l 3), none⟩]
theorem a67r1_ev (C st) : evalOps C a67r1 [] st = evalOps C [⟨none, .move (.v 0), none⟩,
    ⟨none, .len 0 (.l 0), none⟩,
    ⟨none, .move (.v 1), none⟩,
    ⟨none, .len 0 (.l 2), none⟩,
    ⟨some 7, .bin .lss (.l 1) (.l 3), none⟩] [] st := rfl
def a67r2 : List AOper := [⟨none, .move (.v 1), none⟩,
    ⟨none, .move (.v 0), none⟩,
    ⟨some 0, .move (.l 0), none⟩,
    ⟨some 1, .move (.l 1), none⟩]
theorem a67r2_ev (C st) : evalOps C a67r2 [] st = evalOps C [⟨none, .move (.v 1), none⟩,
    ⟨none, .move (.v 0), none⟩,
    ⟨some 0, .move (.l 0), none⟩,
    ⟨some 1, .move (.l 1), none⟩] [] st := rfl
def a67r3 : List AOper := [⟨none, .move (.v 0), none⟩,
    ⟨none, .len 0 (.l 0), none⟩,
    ⟨none, .bin .add (.l 1) (.c (.int .i64 1)), none⟩,
    ⟨none, .mkslice 1 4 (.int .u32 0) (.l 2) (.l 2), none⟩,
    ⟨some 3, .move (.l 3), none⟩]
theorem a67r3_ev (C st) : evalOps C a67r3 [] st = evalOps C [⟨none, .move (.v 0), none⟩,
    ⟨none, .len 0 (.l 0), none⟩,
    ⟨none, .bin .add (.l 1) (.c (.int .i64 1)), none⟩,
    ⟨none, .mkslice 1 4 (.int .u32 0) (.l 2) (.l 2), none⟩,
    ⟨some 3, .move (.l 3), none⟩] [] st := rfl
def a67r4 : List AOper := [⟨none, .move (.v 3), none⟩,
    ⟨none, .move (.v 0), none⟩,
    ⟨none, .copy 1 (.l 0) (.l 1), none⟩]
theorem a67r4_ev (C st) : evalOps C a67r4 [] st = evalOps C [⟨none, .move (.v 3), none⟩,
    ⟨none, .move (.v 0), none⟩,
    ⟨none, .copy 1 (.l 0) (.l 1), none⟩] [] st := rfl
def a67r5 : List AOper := [⟨some 4, .move (.c (.int .u32 0)), none⟩]
theorem a67r5_ev (C st) : evalOps C a67r5 [] st = evalOps C [⟨some 4, .move (.c (.int .u32 0)), none⟩] [] st := rfl
def a67r6 : List AOper := [⟨none, .move (.v 0), none⟩,
    ⟨some 8, .len 0 (.l 0), none⟩,
    ⟨some 9, .move (.c (.int .i64 0)), none⟩]
theorem a67r6_ev (C st) : evalOps C a67r6 [] st = evalOps C [⟨none, .move (.v 0), none⟩,
    ⟨some 8, .len 0 (.l 0), none⟩,
    ⟨some 9, .move (.c (.int .i64 0)), none⟩] [] st := rfl
def a67r7 : List AOper := [⟨some 10, .bin .lss (.v 9) (.v 8), none⟩]
theorem a67r7_ev (C st) : evalOps C a67r7 [] st = evalOps C [⟨some 10, .bin .lss (.v 9) (.v 8), none⟩] [] st := rfl
def a67r8 : List AOper := [⟨none, .move (.v 9), none⟩,
    ⟨some 5, .move (.l 0), none⟩]
theorem a67r8_ev (C st) : evalOps C a67r8 [] st = evalOps C [⟨none, .move (.v 9), none⟩,
    ⟨some 5, .move (.l 0), none⟩] [] st := rfl
def a67r9 : List AOper := [⟨some 6, .move (.c (.int .u32 0)), none⟩]
theorem a67r9_ev (C st) : evalOps C a67r9 [] st = evalOps C [⟨some 6, .move (.c (.int .u32 0)), none⟩] [] st := rfl
def a67r10 : List AOper := [⟨none, .move (.v 5), none⟩,
    ⟨none, .move (.v 1), none⟩,
    ⟨none, .len 0 (.l 1), none⟩,
    ⟨some 11, .bin .lss (.l 0) (.l 2), none⟩]
theorem a67r10_ev (C st) : evalOps C a67r10 [] st = evalOps C [⟨none, .move (.v 5), none⟩,
    ⟨none, .move (.v 1), none⟩,
    ⟨none, .len 0 (.l 1), none⟩,
    ⟨some 11, .bin .lss (.l 0) (.l 2), none⟩] [] st := rfl
def a67r11 : List AOper := [⟨none, .move (.v 1), none⟩,
    ⟨none, .move (.v 5), none⟩,
    ⟨none, .indexAddr 1 (.l 0) (.l 1), none⟩,
    ⟨none, .load false 1 (.l 2), none⟩,
    ⟨some 6, .move (.l 3), none⟩]
theorem a67r11_ev (C st) : evalOps C a67r11 [] st = evalOps C [⟨none, .move (.v 1), none⟩,
    ⟨none, .move (.v 5), none⟩,
    ⟨none, .indexAddr 1 (.l 0) (.l 1), none⟩,
    ⟨none, .load false 1 (.l 2), none⟩,
    ⟨some 6, .move (.l 3), none⟩] [] st := rfl
def a67r12 : List AOper := [⟨none, .move (.v 3), none⟩,
    ⟨none, .move (.v 5), none⟩,
    ⟨none, .move (.v 0), none⟩,
    ⟨none, .move (.v 5), none⟩,
    ⟨none, .indexAddr 1 (.l 2) (.l 3), none⟩,
    ⟨none, .load false 1 (.l 4), none⟩,
    ⟨none, .move (.v 6), none⟩,
    ⟨none, .move (.v 4), none⟩,
    ⟨none, .call 79 [.l 5, .l 6, .l 7], none⟩,
    ⟨none, .move (.l 8), none⟩,
    ⟨none, .extract 0 (.l 9), none⟩,
    ⟨none, .extract 1 (.l 9), none⟩,
    ⟨none, .indexAddr 1 (.l 0) (.l 1), none⟩,
    ⟨none, .store 1 (.l 12) (.l 10), none⟩,
    ⟨some 4, .move (.l 11), none⟩]
theorem a67r12_ev (C st) : evalOps C a67r12 [] st = evalOps C [⟨none, .move (.v 3), none⟩,
    ⟨none, .move (.v 5), none⟩,
    ⟨none, .move (.v 0), none⟩,
    ⟨none, .move (.v 5), none⟩,
    ⟨none, .indexAddr 1 (.l 2) (.l 3), none⟩,
    ⟨none, .load false 1 (.l 4), none⟩,
    ⟨none, .move (.v 6), none⟩,
    ⟨none, .move (.v 4), none⟩,
    ⟨none, .call 79 [.l 5, .l 6, .l 7], none⟩,
    ⟨none, .move (.l 8), none⟩,
    ⟨none, .extract 0 (.l 9), none⟩,
    ⟨none, .extract 1 (.l 9), none⟩,
    ⟨none, .indexAddr 1 (.l 0) (.l 1), none⟩,
    ⟨none, .store 1 (.l 12) (.l 10), none⟩,
    ⟨some 4, .move (.l 11), none⟩] [] st := rfl
def a67r13 : List AOper := [⟨none, .bin .add (.v 9) (.c (.int .i64 1)), none⟩,
    ⟨some 9, .move (.l 0), none⟩]
theorem a67r13_ev (C st) : evalOps C a67r13 [] st = evalOps C [⟨none, .bin .add (.v 9) (.c (.int .i64 1)), none⟩,
    ⟨some 9, .move (.l 0), none⟩] [] st := rfl
def a67b0 : AIR := .seq (.region a67r7 false) (.seq (.cond (.v 10) (.skip) (.exit 0)) (.seq (.block 1 (.seq (.region a67r8 false) (.seq (.region a67r9 false) (.seq (.seq (.region a67r10 false) (.cond (.v 11) (.region a67r11 false) (.skip))) (.region a67r12 false))))) (.region a67r13 false)))
def a67l0 : AIR := .loop true [0, 1, 2, 3, 4, 7, 8, 9] a67b0
theorem a67l0_run {E GP} (st) : run E GP a67l0 st = loopK (run E GP) a67l0 st.heap.length true [0, 1, 2, 3, 4, 7, 8, 9] st.rs (run E GP a67b0 { vars := st.vars, heap := st.heap, rs := false }) := run_loop _ _ _ _
def a67r14 : List AOper := [⟨none, .move (.v 3), none⟩,
    ⟨none, .move (.v 0), none⟩,
    ⟨none, .len 0 (.l 1), none⟩,
    ⟨none, .move (.v 4), none⟩,
    ⟨none, .indexAddr 1 (.l 0) (.l 2), none⟩,
    ⟨none, .store 1 (.l 4) (.l 3), none⟩]
theorem a67r14_ev (C st) : evalOps C a67r14 [] st = evalOps C [⟨none, .move (.v 3), none⟩,
    ⟨none, .move (.v 0), none⟩,
    ⟨none, .len 0 (.l 1), none⟩,
    ⟨none, .move (.v 4), none⟩,
    ⟨none, .indexAddr 1 (.l 0) (.l 2), none⟩,
    ⟨none, .store 1 (.l 4) (.l 3), none⟩] [] st := rfl
def a67r15 : List AOper := [⟨none, .move (.v 3), none⟩,
    ⟨some 2, .move (.l 0), none⟩]
theorem a67r15_ev (C st) : evalOps C a67r15 [] st = evalOps C [⟨none, .move (.v 3), none⟩,
    ⟨some 2, .move (.l 0), none⟩] [] st := rfl
def a67 : AFun := .mk .iso 2 12 [.v 2] (.seq (.region a67r0 false) (.seq (.seq (.region a67r1 false) (.cond (.v 7) (.region a67r2 false) (.skip))) (.seq (.region a67r3 false) (.seq (.region a67r4 false) (.seq (.region a67r5 false) (.seq (.seq (.region a67r6 false) (.block 0 (a67l0))) (.seq (.region a67r14 false) (.seq (.region a67r15 false) (.ret)))))))))
/- torsion/integer.compare -/
def a68r0 : List AOper := [⟨some 2, .move (.c (.int .i64 0)), none⟩]
theorem a68r0_ev (C st) : evalOps C a68r0 [] st = evalOps C [⟨some 2, .move (.c (.int .i64 0)), none⟩] [] st := rfl
def a68r1 : List AOper := [⟨none, .move (.v 0), none⟩,
    ⟨none, .len 0 (.l 0), none⟩,
    ⟨none, .move (.v 1), none⟩,
    ⟨none, .len 0 (.l 2), none⟩,
    ⟨none, .call 80 [.l 1, .l 3], none⟩,
    ⟨some 3, .move (.l 4), none⟩]
theorem a68r1_ev (C st) : evalOps C a68r1 [] st = evalOps C [⟨none, .move (.v 0), none⟩,
    ⟨none, .len 0 (.l 0), none⟩,
    ⟨none, .move (.v 1), none⟩,
    ⟨none, .len 0 (.l 2), none⟩,
    ⟨none, .call 80 [.l 1, .l 3], none⟩,
    ⟨some 3, .move (.l 4), none⟩] [] st := rfl
def a68r2 : List AOper := [⟨none, .move (.v 3), none⟩,
    ⟨some 6, .bin .neq (.l 0) (.c (.int .i64 0)), none⟩]
theorem a68r2_ev (C st) : evalOps C a68r2 [] st = evalOps C [⟨none, .move (.v 3), none⟩,
    ⟨some 6, .bin .neq (.l 0) (.c (.int .i64 0)), none⟩] [] st := rfl
def a68r3 : List AOper := [⟨none, .move (.v 3), none⟩,
    ⟨some 2, .move (.l 0), none⟩]
theorem a68r3_ev (C st) : evalOps C a68r3 [] st = evalOps C [⟨none, .move (.v 3), none⟩,
    ⟨some 2, .move (.l 0), none⟩] [] st := rfl
def a68r4 : List AOper := [⟨none, .move (.v 0), none⟩,
    ⟨none, .len 0 (.l 0), none⟩,
    ⟨none, .bin .sub (.l 1) (.c (.int .i64 1)), none⟩,
    ⟨some 4, .move (.l 2), none⟩]
theorem a68r4_ev (C st) : evalOps C a68r4 [] st = evalOps C [⟨none, .move (.v 0), none⟩,
    ⟨none, .len 0 (.l 0), none⟩,
    ⟨none, .bin .sub (.l 1) (.c (.int .i64 1)), none⟩,
    ⟨some 4, .move (.l 2), none⟩] [] st := rfl
def a68r5 : List AOper := [⟨none, .move (.v 4), none⟩,
    ⟨some 7, .bin .geq (.l 0) (.c (.int .i64 0)), none⟩]
theorem a68r5_ev (C st) : evalOps C a68r5 [] st = evalOps C [⟨none, .move (.v 4), none⟩,
    ⟨some 7, .bin .geq (.l 0) (.c (.int .i64 0)), none⟩] [] st := rfl
def a68r7 : List AOper := [⟨none, .move (.v 0), none⟩,
    ⟨none, .move (.v 4), none⟩,
    ⟨none, .indexAddr 1 (.l 0) (.l 1), none⟩,
    ⟨none, .load false 1 (.l 2), none⟩,
    ⟨none, .move (.v 1), none⟩,
    ⟨none, .move (.v 4), none⟩,
    ⟨none, .indexAddr 1 (.l 4) (.l 5), none⟩,
    ⟨none, .load false 1 (.l 6), none⟩,
    ⟨none, .call 81 [.l 3, .l 7], none⟩,
    ⟨some 5, .move (.l 8), none⟩]
theorem a68r7_ev (C st) : evalOps C a68r7 [] st = evalOps C [⟨none, .move (.v 0), none⟩,
    ⟨none, .move (.v 4), none⟩,
    ⟨none, .indexAddr 1 (.l 0) (.l 1), none⟩,
    ⟨none, .load false 1 (.l 2), none⟩,
    ⟨none, .move (.v 1), none⟩,
    ⟨none, .move (.v 4), none⟩,
    ⟨none, .indexAddr 1 (.l 4) (.l 5), none⟩,
    ⟨none, .load false 1 (.l 6), none⟩,
    ⟨none, .call 81 [.l 3, .l 7], none⟩,
    ⟨some 5, .move (.l 8), none⟩] [] st := rfl
def a68r8 : List AOper := [⟨none, .move (.v 5), none⟩,
    ⟨some 8, .bin .neq (.l 0) (.c (.int .i64 0)), none⟩]
theorem a68r8_ev (C st) : evalOps C a68r8 [] st = evalOps C [⟨none, .move (.v 5), none⟩,
    ⟨some 8, .bin .neq (.l 0) (.c (.int .i64 0)), none⟩] [] st := rfl
def a68r9 : List AOper := [⟨none, .move (.v 5), none⟩,
    ⟨some 2, .move (.l 0), none⟩]
theorem a68r9_ev (C st) : evalOps C a68r9 [] st = evalOps C [⟨none, .move (.v 5), none⟩,
    ⟨some 2, .move (.l 0), none⟩] [] st := rfl
def a68r6 : List AOper := [⟨none, .move (.v 4), none⟩,
    ⟨none, .bin .sub (.l 0) (.c (.int .i64 1)), none⟩,
    ⟨some 4, .move (.l 1), none⟩]
theorem a68r6_ev (C st) : evalOps C a68r6 [] st = evalOps C [⟨none, .move (.v 4), none⟩,
    ⟨none, .bin .sub (.l 0) (.c (.int .i64 1)), none⟩,
    ⟨some 4, .move (.l 1), none⟩] [] st := rfl
def a68b0 : AIR := .seq (.seq (.region a68r5 false) (.cond (.v 7) (.skip) (.exit 0))) (.seq (.block 1 (.seq (.region a68r7 true) (.seq (.region a68r8 false) (.cond (.v 8) (.seq (.region a68r9 false) (.ret)) (.skip))))) (.region a68r6 false))
def a68l0 : AIR := .loop true [0, 1, 2, 3, 4, 6] a68b0
theorem a68l0_run {E GP} (st) : run E GP a68l0 st = loopK (run E GP) a68l0 st.heap.length true [0, 1, 2, 3, 4, 6] st.rs (run E GP a68b0 { vars := st.vars, heap := st.heap, rs := false }) := run_loop _ _ _ _
def a68r10 : List AOper := [⟨some 2, .move (.c (.int .i64 0)), none⟩]
theorem a68r10_ev (C st) : evalOps C a68r10 [] st = evalOps C [⟨some 2, .move (.c (.int .i64 0)), none⟩] [] st := rfl
def a68 : AFun := .mk .iso 2 9 [.v 2] (.seq (.region a68r0 false) (.seq (.seq (.region a68r1 false) (.seq (.region a68r2 false) (.cond (.v 6) (.seq (.region a68r3 false) (.ret)) (.skip)))) (.seq (.seq (.region a68r4 false) (.block 0 (a68l0))) (.seq (.region a68r10 false) (.ret)))))
/- torsion/integer.minus -/
def a69r0 : List AOper := [⟨some 2, .move (.c (.isl [])), none⟩]
theorem a69r0_ev (C st) : evalOps C a69r0 [] st = evalOps C [⟨some 2, .move (.c (.isl [])), none⟩] [] st := rfl
def a69r1 : List AOper := [⟨none, .move (.v 0), none⟩,
    ⟨none, .len 0 (.l 0), none⟩,
    ⟨none, .mkslice 1 4 (.int .u32 0) (.l 1) (.l 1), none⟩,
    ⟨some 3, .move (.l 2), none⟩]
theorem a69r1_ev (C st) : evalOps C a69r1 [] st = evalOps C [⟨none, .move (.v 0), none⟩,
    ⟨none, .len 0 (.l 0), none⟩,
    ⟨none, .mkslice 1 4 (.int .u32 0) (.l 1) (.l 1), none⟩,
    ⟨some 3, .move (.l 2), none⟩] [] st := rfl
def a69r2 : List AOper := [⟨some 4, .move (.c (.int .u32 0)), none⟩]
theorem a69r2_ev (C st) : evalOps C a69r2 [] st = evalOps C [⟨some 4, .move (.c (.int .u32 0)), none⟩] [] st := rfl
def a69r3 : List AOper := [⟨none, .move (.v 0), none⟩,
    ⟨some 7, .len 0 (.l 0), none⟩,
    ⟨some 8, .move (.c (.int .i64 0)), none⟩]
theorem a69r3_ev (C st) : evalOps C a69r3 [] st = evalOps C [⟨none, .move (.v 0), none⟩,
    ⟨some 7, .len 0 (.l 0), none⟩,
    ⟨some 8, .move (.c (.int .i64 0)), none⟩] [] st := rfl
def a69r4 : List AOper := [⟨some 9, .bin .lss (.v 8) (.v 7), none⟩]
theorem a69r4_ev (C st) : evalOps C a69r4 [] st = evalOps C [⟨some 9, .bin .lss (.v 8) (.v 7), none⟩] [] st := rfl
def a69r5 : List AOper := [⟨none, .move (.v 8), none⟩,
    ⟨some 5, .move (.l 0), none⟩]
theorem a69r5_ev (C st) : evalOps C a69r5 [] st = evalOps C [⟨none, .move (.v 8), none⟩,
    ⟨some 5, .move (.l 0), none⟩] [] st := rfl
def a69r6 : List AOper := [⟨some 6, .move (.c (.int .u32 0)), none⟩]
theorem a69r6_ev (C st) : evalOps C a69r6 [] st = evalOps C [⟨some 6, .move (.c (.int .u32 0)), none⟩] [] st := rfl
def a69r7 : List AOper := [⟨none, .move (.v 5), none⟩,
    ⟨none, .move (.v 1), none⟩,
    ⟨none, .len 0 (.l 1), none⟩,
    ⟨some 10, .bin .lss (.l 0) (.l 2), none⟩]
theorem a69r7_ev (C st) : evalOps C a69r7 [] st = evalOps C [⟨none, .move (.v 5), none⟩,
    ⟨none, .move (.v 1), none⟩,
    ⟨none, .len 0 (.l 1), none⟩,
    ⟨some 10, .bin .lss (.l 0) (.l 2), none⟩] [] st := rfl
def a69r8 : List AOper := [⟨none, .move (.v 1), none⟩,
    ⟨none, .move (.v 5), none⟩,
    ⟨none, .indexAddr 1 (.l 0) (.l 1), none⟩,
    ⟨none, .load false 1 (.l 2), none⟩,
    ⟨some 6, .move (.l 3), none⟩]
theorem a69r8_ev (C st) : evalOps C a69r8 [] st = evalOps C [⟨none, .move (.v 1), none⟩,
    ⟨none, .move (.v 5), none⟩,
    ⟨none, .indexAddr 1 (.l 0) (.l 1), none⟩,
    ⟨none, .load false 1 (.l 2), none⟩,
    ⟨some 6, .move (.l 3), none⟩] [] st := rfl
def a69r9 : List AOper := [⟨none, .move (.v 3), none⟩,
    ⟨none, .move (.v 5), none⟩,
    ⟨none, .move (.v 0), none⟩,
    ⟨none, .move (.v 5), none⟩,
    ⟨none, .indexAddr 1 (.l 2) (.l 3), none⟩,
    ⟨none, .load false 1 (.l 4), none⟩,
    ⟨none, .move (.v 6), none⟩,
    ⟨none, .move (.v 4), none⟩,
    ⟨none, .call 82 [.l 5, .l 6, .l 7], none⟩,
    ⟨none, .move (.l 8), none⟩,
    ⟨none, .extract 0 (.l 9), none⟩,
    ⟨none, .extract 1 (.l 9), none⟩,
    ⟨none, .indexAddr 1 (.l 0) (.l 1), none⟩,
    ⟨none, .store 1 (.l 12) (.l 10), none⟩,
    ⟨some 4, .move (.l 11), none⟩]
theorem a69r9_ev (C st) : evalOps C a69r9 [] st = evalOps C [⟨none, .move (.v 3), none⟩,
    ⟨none, .move (.v 5), none⟩,
    ⟨none, .move (.v 0), none⟩,
    ⟨none, .move (.v 5), none⟩,
    ⟨none, .indexAddr 1 (.l 2) (.l 3), none⟩,
    ⟨none, .load false 1 (.l 4), none⟩,
    ⟨none, .move (.v 6), none⟩,
    ⟨none, .move (.v 4), none⟩,
    ⟨none, .call 82 [.l 5, .l 6, .l 7], none⟩,
    ⟨none, .move (.l 8), none⟩,
    ⟨none, .extract 0 (.l 9), none⟩,
    ⟨none, .extract 1 (.l 9), none⟩,
    ⟨none, .indexAddr 1 (.l 0) (.l 1), none⟩,
    ⟨none, .store 1 (.l 12) (.l 10), none⟩,
    ⟨some 4, .move (.l 11), none⟩] [] st := rfl
def a69r10 : List AOper := [⟨none, .bin .add (.v 8) (.c (.int .i64 1)), none⟩,
    ⟨some 8, .move (.l 0), none⟩]
theorem a69r10_ev (C st) : evalOps C a69r10 [] st = evalOps C [⟨none, .bin .add (.v 8) (.c (.int .i64 1)), none⟩,
    ⟨some 8, .move (.l 0), none⟩] [] st := rfl
def a69b0 : AIR := .seq (.region a69r4 false) (.seq (.cond (.v 9) (.skip) (.exit 0)) (.seq (.block 1 (.seq (.region a69r5 false) (.seq (.region a69r6 false) (.seq (.seq (.region a69r7 false) (.cond (.v 10) (.region a69r8 false) (.skip))) (.region a69r9 false))))) (.region a69r10 false)))
def a69l0 : AIR := .loop true [0, 1, 2, 3, 4, 7, 8] a69b0
theorem a69l0_run {E GP} (st) : run E GP a69l0 st = loopK (run E GP) a69l0 st.heap.length true [0, 1, 2, 3, 4, 7, 8] st.rs (run E GP a69b0 { vars := st.vars, heap := st.heap, rs := false }) := run_loop _ _ _ _
def a69r11 : List AOper := [⟨none, .move (.v 3), none⟩,
    ⟨some 2, .move (.l 0), none⟩]
theorem a69r11_ev (C st) : evalOps C a69r11 [] st = evalOps C [⟨none, .move (.v 3), none⟩,
    ⟨some 2, .move (.l 0), none⟩] [] st := rfl
def a69 : AFun := .mk .iso 2 11 [.v 2] (.seq (.region a69r0 false) (.seq (.region a69r1 false) (.seq (.region a69r2 false) (.seq (.seq (.region a69r3 false) (.block 0 (a69l0))) (.seq (.region a69r11 false) (.ret))))))
/- torsion/complex.place -/
def a65r0 : List AOper := [⟨some 2, .move (.c (.int .i64 0)), none⟩,
    ⟨some 3, .move (.c (.bool false)), none⟩]
theorem a65r0_ev (C st) : evalOps C a65r0 [] st = evalOps C [⟨some 2, .move (.c (.int .i64 0)), none⟩,
    ⟨some 3, .move (.c (.bool false)), none⟩] [] st := rfl
def a65r1 : List AOper := [⟨none, .move (.v 0), none⟩,
    ⟨none, .move (.v 1), none⟩,
    ⟨none, .call 78 [.l 0, .l 1, .f 77], none⟩,
    ⟨none, .extract 0 (.l 2), none⟩,
    ⟨none, .extract 1 (.l 2), none⟩,
    ⟨some 2, .move (.l 3), none⟩,
    ⟨some 3, .move (.l 4), none⟩]
theorem a65r1_ev (C st) : evalOps C a65r1 [] st = evalOps C [⟨none, .move (.v 0), none⟩,
    ⟨none, .move (.v 1), none⟩,
    ⟨none, .call 78 [.l 0, .l 1, .f 77], none⟩,
    ⟨none, .extract 0 (.l 2), none⟩,
    ⟨none, .extract 1 (.l 2), none⟩,
    ⟨some 2, .move (.l 3), none⟩,
    ⟨some 3, .move (.l 4), none⟩] [] st := rfl
def a65 : AFun := .mk .iso 2 4 [.v 2, .v 3] (.seq (.region a65r0 false) (.seq (.region a65r1 false) (.ret)))
/- slices.IndexFunc[[]torsion/api.Cell,torsion/api.Cell] -/
def a66r0 : List AOper := [⟨some 2, .move (.c (.int .i64 0)), none⟩]
theorem a66r0_ev (C st) : evalOps C a66r0 [] st = evalOps C [⟨some 2, .move (.c (.int .i64 0)), none⟩] [] st := rfl
def a66r1 : List AOper := [⟨none, .move (.v 0), none⟩,
    ⟨some 4, .len 0 (.l 0), none⟩,
    ⟨some 5, .move (.c (.int .i64 0)), none⟩]
theorem a66r1_ev (C st) : evalOps C a66r1 [] st = evalOps C [⟨none, .move (.v 0), none⟩,
    ⟨some 4, .len 0 (.l 0), none⟩,
    ⟨some 5, .move (.c (.int .i64 0)), none⟩] [] st := rfl
def a66r2 : List AOper := [⟨some 6, .bin .lss (.v 5) (.v 4), none⟩]
theorem a66r2_ev (C st) : evalOps C a66r2 [] st = evalOps C [⟨some 6, .bin .lss (.v 5) (.v 4), none⟩] [] st := rfl
def a66r3 : List AOper := [⟨none, .move (.v 5), none⟩,
    ⟨some 3, .move (.l 0), none⟩]
theorem a66r3_ev (C st) : evalOps C a66r3 [] st = evalOps C [⟨none, .move (.v 5), none⟩,
    ⟨some 3, .move (.l 0), none⟩] [] st := rfl
def a66r4 : List AOper := [⟨none, .move (.v 1), none⟩,
    ⟨none, .move (.v 0), none⟩,
    ⟨none, .move (.v 3), none⟩,
    ⟨none, .indexAddr 3 (.l 1) (.l 2), none⟩,
    ⟨none, .load true 3 (.l 3), none⟩,
    ⟨some 7, .callv (.l 0) [.l 4], none⟩]
theorem a66r4_ev (C st) : evalOps C a66r4 [] st = evalOps C [⟨none, .move (.v 1), none⟩,
    ⟨none, .move (.v 0), none⟩,
    ⟨none, .move (.v 3), none⟩,
    ⟨none, .indexAddr 3 (.l 1) (.l 2), none⟩,
    ⟨none, .load true 3 (.l 3), none⟩,
    ⟨some 7, .callv (.l 0) [.l 4], none⟩] [] st := rfl
def a66r5 : List AOper := [⟨none, .move (.v 3), none⟩,
    ⟨some 2, .move (.l 0), none⟩]
theorem a66r5_ev (C st) : evalOps C a66r5 [] st = evalOps C [⟨none, .move (.v 3), none⟩,
    ⟨some 2, .move (.l 0), none⟩] [] st := rfl
def a66r6 : List AOper := [⟨none, .bin .add (.v 5) (.c (.int .i64 1)), none⟩,
    ⟨some 5, .move (.l 0), none⟩]
theorem a66r6_ev (C st) : evalOps C a66r6 [] st = evalOps C [⟨none, .bin .add (.v 5) (.c (.int .i64 1)), none⟩,
    ⟨some 5, .move (.l 0), none⟩] [] st := rfl
def a66b0 : AIR := .seq (.region a66r2 false) (.seq (.cond (.v 6) (.skip) (.exit 0)) (.seq (.block 1 (.seq (.region a66r3 false) (.seq (.region a66r4 false) (.cond (.v 7) (.seq (.region a66r5 false) (.ret)) (.skip))))) (.region a66r6 false)))
def a66l0 : AIR := .loop true [0, 1, 2, 4, 5] a66b0
theorem a66l0_run {E GP} (st) : run E GP a66l0 st = loopK (run E GP) a66l0 st.heap.length true [0, 1, 2, 4, 5] st.rs (run E GP a66b0 { vars := st.vars, heap := st.heap, rs := false }) := run_loop _ _ _ _
def a66r7 : List AOper := [⟨some 2, .move (.c (.int .i64 (-1))), none⟩]
theorem a66r7_ev (C st) : evalOps C a66r7 [] st = evalOps C [⟨some 2, .move (.c (.int .i64 (-1))), none⟩] [] st := rfl
def a66 : AFun := .mk .shr 2 8 [.v 2] (.seq (.region a66r0 false) (.seq (.seq (.region a66r1 false) (.block 0 (a66l0))) (.seq (.region a66r7 false) (.ret))))
/- math/bits.Add32 -/
def a79r0 : List AOper := [⟨some 3, .move (.c (.int .u32 0)), none⟩,
    ⟨some 4, .move (.c (.int .u32 0)), none⟩]
theorem a79r0_ev (C st) : evalOps C a79r0 [] st = evalOps C [⟨some 3, .move (.c (.int .u32 0)), none⟩,
    ⟨some 4, .move (.c (.int .u32 0)), none⟩] [] st := rfl
def a79r1 : List AOper := [⟨none, .move (.v 0), none⟩,
    ⟨none, .conv .u64 (.l 0), none⟩,
    ⟨none, .move (.v 1), none⟩,
    ⟨none, .conv .u64 (.l 2), none⟩,
    ⟨none, .bin .add (.l 1) (.l 3), none⟩,
    ⟨none, .move (.v 2), none⟩,
    ⟨none, .conv .u64 (.l 5), none⟩,
    ⟨none, .bin .add (.l 4) (.l 6), none⟩,
    ⟨some 5, .move (.l 7), none⟩]
theorem a79r1_ev (C st) : evalOps C a79r1 [] st = evalOps C [⟨none, .move (.v 0), none⟩,
    ⟨none, .conv .u64 (.l 0), none⟩,
    ⟨none, .move (.v 1), none⟩,
    ⟨none, .conv .u64 (.l 2), none⟩,
    ⟨none, .bin .add (.l 1) (.l 3), none⟩,
    ⟨none, .move (.v 2), none⟩,
    ⟨none, .conv .u64 (.l 5), none⟩,
    ⟨none, .bin .add (.l 4) (.l 6), none⟩,
    ⟨some 5, .move (.l 7), none⟩] [] st := rfl
def a79r2 : List AOper := [⟨none, .move (.v 5), none⟩,
    ⟨none, .conv .u32 (.l 0), none⟩,
    ⟨some 3, .move (.l 1), none⟩]
theorem a79r2_ev (C st) : evalOps C a79r2 [] st = evalOps C [⟨none, .move (.v 5), none⟩,
    ⟨none, .conv .u32 (.l 0), none⟩,
    ⟨some 3, .move (.l 1), none⟩] [] st := rfl
def a79r3 : List AOper := [⟨none, .move (.v 5), none⟩,
    ⟨none, .bin .shr (.l 0) (.c (.int .u64 32)), none⟩,
    ⟨none, .conv .u32 (.l 1), none⟩,
    ⟨some 4, .move (.l 2), none⟩]
theorem a79r3_ev (C st) : evalOps C a79r3 [] st = evalOps C [⟨none, .move (.v 5), none⟩,
    ⟨none, .bin .shr (.l 0) (.c (.int .u64 32)), none⟩,
    ⟨none, .conv .u32 (.l 1), none⟩,
    ⟨some 4, .move (.l 2), none⟩] [] st := rfl
def a79 : AFun := .mk .iso 3 6 [.v 3, .v 4] (.seq (.region a79r0 false) (.seq (.region a79r1 false) (.seq (.region a79r2 false) (.seq (.region a79r3 false) (.ret)))))
/- cmp.Compare[int] -/
def a80r0 : List AOper := [⟨some 2, .move (.c (.int .i64 0)), none⟩]
theorem a80r0_ev (C st) : evalOps C a80r0 [] st = evalOps C [⟨some 2, .move (.c (.int .i64 0)), none⟩] [] st := rfl
def a80r1 : List AOper := [⟨none, .move (.v 0), none⟩,
    ⟨none, .call 95 [.l 0], none⟩,
    ⟨some 3, .move (.l 1), none⟩]
theorem a80r1_ev (C st) : evalOps C a80r1 [] st = evalOps C [⟨none, .move (.v 0), none⟩,
    ⟨none, .call 95 [.l 0], none⟩,
    ⟨some 3, .move (.l 1), none⟩] [] st := rfl
def a80r2 : List AOper := [⟨none, .move (.v 1), none⟩,
    ⟨none, .call 95 [.l 0], none⟩,
    ⟨some 4, .move (.l 1), none⟩]
theorem a80r2_ev (C st) : evalOps C a80r2 [] st = evalOps C [⟨none, .move (.v 1), none⟩,
    ⟨none, .call 95 [.l 0], none⟩,
    ⟨some 4, .move (.l 1), none⟩] [] st := rfl
def a80r3 : List AOper := [⟨some 5, .move (.v 3), none⟩]
theorem a80r3_ev (C st) : evalOps C a80r3 [] st = evalOps C [⟨some 5, .move (.v 3), none⟩] [] st := rfl
def a80r4 : List AOper := [⟨some 6, .move (.v 4), none⟩]
theorem a80r4_ev (C st) : evalOps C a80r4 [] st = evalOps C [⟨some 6, .move (.v 4), none⟩] [] st := rfl
def a80r5 : List AOper := [⟨some 2, .move (.c (.int .i64 0)), none⟩]
theorem a80r5_ev (C st) : evalOps C a80r5 [] st = evalOps C [⟨some 2, .move (.c (.int .i64 0)), none⟩] [] st := rfl
def a80r6 : List AOper := [⟨some 2, .move (.c (.int .i64 (-1))), none⟩]
theorem a80r6_ev (C st) : evalOps C a80r6 [] st = evalOps C [⟨some 2, .move (.c (.int .i64 (-1))), none⟩] [] st := rfl
def a80r7 : List AOper := [⟨some 7, .move (.v 4), none⟩]
theorem a80r7_ev (C st) : evalOps C a80r7 [] st = evalOps C [⟨some 7, .move (.v 4), none⟩] [] st := rfl
def a80r8 : List AOper := [⟨some 2, .move (.c (.int .i64 1)), none⟩]
theorem a80r8_ev (C st) : evalOps C a80r8 [] st = evalOps C [⟨some 2, .move (.c (.int .i64 1)), none⟩] [] st := rfl
def a80r9 : List AOper := [⟨none, .move (.v 0), none⟩,
    ⟨none, .move (.v 1), none⟩,
    ⟨some 8, .bin .lss (.l 0) (.l 1), none⟩]
theorem a80r9_ev (C st) : evalOps C a80r9 [] st = evalOps C [⟨none, .move (.v 0), none⟩,
    ⟨none, .move (.v 1), none⟩,
    ⟨some 8, .bin .lss (.l 0) (.l 1), none⟩] [] st := rfl
def a80r10 : List AOper := [⟨some 2, .move (.c (.int .i64 (-1))), none⟩]
theorem a80r10_ev (C st) : evalOps C a80r10 [] st = evalOps C [⟨some 2, .move (.c (.int .i64 (-1))), none⟩] [] st := rfl
def a80r11 : List AOper := [⟨none, .move (.v 0), none⟩,
    ⟨none, .move (.v 1), none⟩,
    ⟨some 9, .bin .gtr (.l 0) (.l 1), none⟩]
theorem a80r11_ev (C st) : evalOps C a80r11 [] st = evalOps C [⟨none, .move (.v 0), none⟩,
    ⟨none, .move (.v 1), none⟩,
    ⟨some 9, .bin .gtr (.l 0) (.l 1), none⟩] [] st := rfl
def a80r12 : List AOper := [⟨some 2, .move (.c (.int .i64 1)), none⟩]
theorem a80r12_ev (C st) : evalOps C a80r12 [] st = evalOps C [⟨some 2, .move (.c (.int .i64 1)), none⟩] [] st := rfl
def a80r13 : List AOper := [⟨some 2, .move (.c (.int .i64 0)), none⟩]
theorem a80r13_ev (C st) : evalOps C a80r13 [] st = evalOps C [⟨some 2, .move (.c (.int .i64 0)), none⟩] [] st := rfl
def a80 : AFun := .mk .iso 2 10 [.v 2] (.seq (.region a80r0 false) (.seq (.region a80r1 false) (.seq (.region a80r2 false) (.seq (.seq (.region a80r3 false) (.cond (.v 5) (.seq (.seq (.region a80r4 false) (.cond (.v 6) (.seq (.region a80r5 false) (.ret)) (.skip))) (.seq (.region a80r6 false) (.ret))) (.skip))) (.seq (.seq (.region a80r7 false) (.cond (.v 7) (.seq (.region a80r8 false) (.ret)) (.skip))) (.seq (.seq (.region a80r9 false) (.cond (.v 8) (.seq (.region a80r10 false) (.ret)) (.skip))) (.seq (.seq (.region a80r11 false) (.cond (.v 9) (.seq (.region a80r12 false) (.ret)) (.skip))) (.seq (.region a80r13 false) (.ret)))))))))
/- cmp.Compare[uint32] -/
def a81r0 : List AOper := [⟨some 2, .move (.c (.int .i64 0)), none⟩]
theorem a81r0_ev (C st) : evalOps C a81r0 [] st = evalOps C [⟨some 2, .move (.c (.int .i64 0)), none⟩] [] st := rfl
def a81r1 : List AOper := [⟨none, .move (.v 0), none⟩,
    ⟨none, .call 96 [.l 0], none⟩,
    ⟨some 3, .move (.l 1), none⟩]
theorem a81r1_ev (C st) : evalOps C a81r1 [] st = evalOps C [⟨none, .move (.v 0), none⟩,
    ⟨none, .call 96 [.l 0], none⟩,
    ⟨some 3, .move (.l 1), none⟩] [] st := rfl
def a81r2 : List AOper := [⟨none, .move (.v 1), none⟩,
    ⟨none, .call 96 [.l 0], none⟩,
    ⟨some 4, .move (.l 1), none⟩]
theorem a81r2_ev (C st) : evalOps C a81r2 [] st = evalOps C [⟨none, .move (.v 1), none⟩,
    ⟨none, .call 96 [.l 0], none⟩,
    ⟨some 4, .move (.l 1), none⟩] [] st := rfl
def a81r3 : List AOper := [⟨some 5, .move (.v 3), none⟩]
theorem a81r3_ev (C st) : evalOps C a81r3 [] st = evalOps C [⟨some 5, .move (.v 3), none⟩] [] st := rfl
def a81r4 : List AOper := [⟨some 6, .move (.v 4), none⟩]
theorem a81r4_ev (C st) : evalOps C a81r4 [] st = evalOps C [⟨some 6, .move (.v 4), none⟩] [] st := rfl
def a81r5 : List AOper := [⟨some 2, .move (.c (.int .i64 0)), none⟩]
theorem a81r5_ev (C st) : evalOps C a81r5 [] st = evalOps C [⟨some 2, .move (.c (.int .i64 0)), none⟩] [] st := rfl
def a81r6 : List AOper := [⟨some 2, .move (.c (.int .i64 (-1))), none⟩]
theorem a81r6_ev (C st) : evalOps C a81r6 [] st = evalOps C [⟨some 2, .move (.c (.int .i64 (-1))), none⟩] [] st := rfl
def a81r7 : List AOper := [⟨some 7, .move (.v 4), none⟩]
theorem a81r7_ev (C st) : evalOps C a81r7 [] st = evalOps C [⟨some 7, .move (.v 4), none⟩] [] st := rfl
def a81r8 : List AOper := [⟨some 2, .move (.c (.int .i64 1)), none⟩]
theorem a81r8_ev (C st) : evalOps C a81r8 [] st = evalOps C [⟨some 2, .move (.c (.int .i64 1)), none⟩] [] st := rfl
def a81r9 : List AOper := [⟨none, .move (.v 0), none⟩,
    ⟨none, .move (.v 1), none⟩,
    ⟨some 8, .bin .lss (.l 0) (.l 1), none⟩]
theorem a81r9_ev (C st) : evalOps C a81r9 [] st = evalOps C [⟨none, .move (.v 0), none⟩,
    ⟨none, .move (.v 1), none⟩,
    ⟨some 8, .bin .lss (.l 0) (.l 1), none⟩] [] st := rfl
def a81r10 : List AOper := [⟨some 2, .move (.c (.int .i64 (-1))), none⟩]
theorem a81r10_ev (C st) : evalOps C a81r10 [] st = evalOps C [⟨some 2, .move (.c (.int .i64 (-1))), none⟩] [] st := rfl
def a81r11 : List AOper := [⟨none, .move (.v 0), none⟩,
    ⟨none, .move (.v 1), none⟩,
    ⟨some 9, .bin .gtr (.l 0) (.l 1), none⟩]
theorem a81r11_ev (C st) : evalOps C a81r11 [] st = evalOps C [⟨none, .move (.v 0), none⟩,
    ⟨none, .move (.v 1), none⟩,
    ⟨some 9, .bin .gtr (.l 0) (.l 1), none⟩] [] st := rfl
def a81r12 : List AOper := [⟨some 2, .move (.c (.int .i64 1)), none⟩]
theorem a81r12_ev (C st) : evalOps C a81r12 [] st = evalOps C [⟨some 2, .move (.c (.int .i64 1)), none⟩] [] st := rfl
def a81r13 : List AOper := [⟨some 2, .move (.c (.int .i64 0)), none⟩]
theorem a81r13_ev (C st) : evalOps C a81r13 [] st = evalOps C [⟨some 2, .move (.c (.int .i64 0)), none⟩] [] st := rfl
def a81 : AFun := .mk .iso 2 10 [.v 2] (.seq (.region a81r0 false) (.seq (.region a81r1 false) (.seq (.region a81r2 false) (.seq (.seq (.region a81r3 false) (.cond (.v 5) (.seq (.seq (.region a81r4 false) (.cond (.v 6) (.seq (.region a81r5 false) (.ret)) (.skip))) (.seq (.region a81r6 false) (.ret))) (.skip))) (.seq (.seq (.region a81r7 false) (.cond (.v 7) (.seq (.region a81r8 false) (.ret)) (.skip))) (.seq (.seq (.region a81r9 false) (.cond (.v 8) (.seq (.region a81r10 false) (.ret)) (.skip))) (.seq (.seq (.region a81r11 false) (.cond (.v 9) (.seq (.region a81r12 false) (.ret)) (.skip))) (.seq (.region a81r13 false) (.ret)))))))))
/- math/bits.Sub32 -/
def a82r0 : List AOper := [⟨some 3, .move (.c (.int .u32 0)), none⟩,
    ⟨some 4, .move (.c (.int .u32 0)), none⟩]
theorem a82r0_ev (C st) : evalOps C a82r0 [] st = evalOps C [⟨some 3, .move (.c (.int .u32 0)), none⟩,
    ⟨some 4, .move (.c (.int .u32 0)), none⟩] [] st := rfl
def a82r1 : List AOper := [⟨none, .move (.v 0), none⟩,
    ⟨none, .move (.v 1), none⟩,
    ⟨none, .bin .sub (.l 0) (.l 1), none⟩,
    ⟨none, .move (.v 2), none⟩,
    ⟨none, .bin .sub (.l 2) (.l 3), none⟩,
    ⟨some 3, .move (.l 4), none⟩]
theorem a82r1_ev (C st) : evalOps C a82r1 [] st = evalOps C [⟨none, .move (.v 0), none⟩,
    ⟨none, .move (.v 1), none⟩,
    ⟨none, .bin .sub (.l 0) (.l 1), none⟩,
    ⟨none, .move (.v 2), none⟩,
    ⟨none, .bin .sub (.l 2) (.l 3), none⟩,
    ⟨some 3, .move (.l 4), none⟩] [] st := rfl
def a82r2 : List AOper := [⟨none, .move (.v 0), none⟩,
    ⟨none, .un .xor (.l 0), none⟩,
    ⟨none, .move (.v 1), none⟩,
    ⟨none, .bin .and (.l 1) (.l 2), none⟩,
    ⟨none, .move (.v 0), none⟩,
    ⟨none, .move (.v 1), none⟩,
    ⟨none, .bin .xor (.l 4) (.l 5), none⟩,
    ⟨none, .un .xor (.l 6), none⟩,
    ⟨none, .move (.v 3), none⟩,
    ⟨none, .bin .and (.l 7) (.l 8), none⟩,
    ⟨none, .bin .or (.l 3) (.l 9), none⟩,
    ⟨none, .bin .shr (.l 10) (.c (.int .u64 31)), none⟩,
    ⟨some 4, .move (.l 11), none⟩]
theorem a82r2_ev (C st) : evalOps C a82r2 [] st = evalOps C [⟨none, .move (.v 0), none⟩,
    ⟨none, .un .xor (.l 0), none⟩,
    ⟨none, .move (.v 1), none⟩,
    ⟨none, .bin .and (.l 1) (.l 2), none⟩,
    ⟨none, .move (.v 0), none⟩,
    ⟨none, .move (.v 1), none⟩,
    ⟨none, .bin .xor (.l 4) (.l 5), none⟩,
    ⟨none, .un .xor (.l 6), none⟩,
    ⟨none, .move (.v 3), none⟩,
    ⟨none, .bin .and (.l 7) (.l 8), none⟩,
    ⟨none, .bin .or (.l 3) (.l 9), none⟩,
    ⟨none, .bin .shr (.l 10) (.c (.int .u64 31)), none⟩,
    ⟨some 4, .move (.l 11), none⟩] [] st := rfl
def a82 : AFun := .mk .iso 3 5 [.v 3, .v 4] (.seq (.region a82r0 false) (.seq (.region a82r1 false) (.seq (.region a82r2 false) (.ret))))
/- slices.BinarySearchFunc[torsion/api.Complex,torsion/api.Cell,int] -/
def a78r0 : List AOper := [⟨some 3, .move (.c (.int .i64 0)), none⟩,
    ⟨some 4, .move (.c (.bool false)), none⟩]
theorem a78r0_ev (C st) : evalOps C a78r0 [] st = evalOps C [⟨some 3, .move (.c (.int .i64 0)), none⟩,
    ⟨some 4, .move (.c (.bool false)), none⟩] [] st := rfl
def a78r1 : List AOper := [⟨none, .move (.v 0), none⟩,
    ⟨none, .len 0 (.l 0), none⟩,
    ⟨some 5, .move (.l 1), none⟩]
theorem a78r1_ev (C st) : evalOps C a78r1 [] st = evalOps C [⟨none, .move (.v 0), none⟩,
    ⟨none, .len 0 (.l 0), none⟩,
    ⟨some 5, .move (.l 1), none⟩] [] st := rfl
def a78r2 : List AOper := [⟨none, .move (.v 5), none⟩,
    ⟨some 6, .move (.c (.int .i64 0)), none⟩,
    ⟨some 7, .move (.l 0), none⟩]
theorem a78r2_ev (C st) : evalOps C a78r2 [] st = evalOps C [⟨none, .move (.v 5), none⟩,
    ⟨some 6, .move (.c (.int .i64 0)), none⟩,
    ⟨some 7, .move (.l 0), none⟩] [] st := rfl
def a78r3 : List AOper := [⟨none, .move (.v 6), none⟩,
    ⟨none, .move (.v 7), none⟩,
    ⟨some 9, .bin .lss (.l 0) (.l 1), none⟩]
theorem a78r3_ev (C st) : evalOps C a78r3 [] st = evalOps C [⟨none, .move (.v 6), none⟩,
    ⟨none, .move (.v 7), none⟩,
    ⟨some 9, .bin .lss (.l 0) (.l 1), none⟩] [] st := rfl
def a78r4 : List AOper := [⟨none, .move (.v 6), none⟩,
    ⟨none, .move (.v 7), none⟩,
    ⟨none, .bin .add (.l 0) (.l 1), none⟩,
    ⟨none, .conv .u64 (.l 2), none⟩,
    ⟨none, .bin .shr (.l 3) (.c (.int .u64 1)), none⟩,
    ⟨none, .conv .i64 (.l 4), none⟩,
    ⟨some 8, .move (.l 5), none⟩]
theorem a78r4_ev (C st) : evalOps C a78r4 [] st = evalOps C [⟨none, .move (.v 6), none⟩,
    ⟨none, .move (.v 7), none⟩,
    ⟨none, .bin .add (.l 0) (.l 1), none⟩,
    ⟨none, .conv .u64 (.l 2), none⟩,
    ⟨none, .bin .shr (.l 3) (.c (.int .u64 1)), none⟩,
    ⟨none, .conv .i64 (.l 4), none⟩,
    ⟨some 8, .move (.l 5), none⟩] [] st := rfl
def a78r5 : List AOper := [⟨none, .move (.v 2), none⟩,
    ⟨none, .move (.v 0), none⟩,
    ⟨none, .move (.v 8), none⟩,
    ⟨none, .indexAddr 3 (.l 1) (.l 2), none⟩,
    ⟨none, .load true 3 (.l 3), none⟩,
    ⟨none, .move (.v 1), none⟩,
    ⟨none, .callv (.l 0) [.l 4, .l 5], none⟩,
    ⟨some 10, .bin .lss (.l 6) (.c (.int .i64 0)), none⟩]
theorem a78r5_ev (C st) : evalOps C a78r5 [] st = evalOps C [⟨none, .move (.v 2), none⟩,
    ⟨none, .move (.v 0), none⟩,
    ⟨none, .move (.v 8), none⟩,
    ⟨none, .indexAddr 3 (.l 1) (.l 2), none⟩,
    ⟨none, .load true 3 (.l 3), none⟩,
    ⟨none, .move (.v 1), none⟩,
    ⟨none, .callv (.l 0) [.l 4, .l 5], none⟩,
    ⟨some 10, .bin .lss (.l 6) (.c (.int .i64 0)), none⟩] [] st := rfl
def a78r6 : List AOper := [⟨none, .move (.v 8), none⟩,
    ⟨none, .bin .add (.l 0) (.c (.int .i64 1)), none⟩,
    ⟨some 6, .move (.l 1), none⟩]
theorem a78r6_ev (C st) : evalOps C a78r6 [] st = evalOps C [⟨none, .move (.v 8), none⟩,
    ⟨none, .bin .add (.l 0) (.c (.int .i64 1)), none⟩,
    ⟨some 6, .move (.l 1), none⟩] [] st := rfl
def a78r7 : List AOper := [⟨none, .move (.v 8), none⟩,
    ⟨some 7, .move (.l 0), none⟩]
theorem a78r7_ev (C st) : evalOps C a78r7 [] st = evalOps C [⟨none, .move (.v 8), none⟩,
    ⟨some 7, .move (.l 0), none⟩] [] st := rfl
def a78b0 : AIR := .seq (.seq (.region a78r3 false) (.cond (.v 9) (.skip) (.exit 0))) (.block 1 (.seq (.region a78r4 false) (.seq (.region a78r5 false) (.cond (.v 10) (.region a78r6 false) (.region a78r7 false)))))
def a78l0 : AIR := .loop true [0, 1, 2, 3, 4, 5, 6, 7] a78b0
theorem a78l0_run {E GP} (st) : run E GP a78l0 st = loopK (run E GP) a78l0 st.heap.length true [0, 1, 2, 3, 4, 5, 6, 7] st.rs (run E GP a78b0 { vars := st.vars, heap := st.heap, rs := false }) := run_loop _ _ _ _
def a78r8 : List AOper := [⟨none, .move (.v 6), none⟩,
    ⟨none, .move (.v 6), none⟩,
    ⟨none, .move (.v 5), none⟩,
    ⟨none, .bin .lss (.l 1) (.l 2), none⟩,
    ⟨none, .move (.l 3), none⟩,
    ⟨none, .move (.v 2), some (4, true)⟩,
    ⟨none, .move (.v 0), some (4, true)⟩,
    ⟨none, .move (.v 6), some (4, true)⟩,
    ⟨none, .indexAddr 3 (.l 6) (.l 7), some (4, true)⟩,
    ⟨none, .load true 3 (.l 8), some (4, true)⟩,
    ⟨none, .move (.v 1), some (4, true)⟩,
    ⟨none, .callv (.l 5) [.l 9, .l 10], some (4, true)⟩,
    ⟨none, .bin .eql (.l 11) (.c (.int .i64 0)), some (4, true)⟩,
    ⟨none, .pick (.l 4) (.l 12) (.c (.bool false)), none⟩,
    ⟨some 3, .move (.l 0), none⟩,
    ⟨some 4, .move (.l 13), none⟩]
theorem a78r8_ev (C st) : evalOps C a78r8 [] st = evalOps C [⟨none, .move (.v 6), none⟩,
    ⟨none, .move (.v 6), none⟩,
    ⟨none, .move (.v 5), none⟩,
    ⟨none, .bin .lss (.l 1) (.l 2), none⟩,
    ⟨none, .move (.l 3), none⟩,
    ⟨none, .move (.v 2), some (4, true)⟩,
    ⟨none, .move (.v 0), some (4, true)⟩,
    ⟨none, .move (.v 6), some (4, true)⟩,
    ⟨none, .indexAddr 3 (.l 6) (.l 7), some (4, true)⟩,
    ⟨none, .load true 3 (.l 8), some (4, true)⟩,
    ⟨none, .move (.v 1), some (4, true)⟩,
    ⟨none, .callv (.l 5) [.l 9, .l 10], some (4, true)⟩,
    ⟨none, .bin .eql (.l 11) (.c (.int .i64 0)), some (4, true)⟩,
    ⟨none, .pick (.l 4) (.l 12) (.c (.bool false)), none⟩,
    ⟨some 3, .move (.l 0), none⟩,
    ⟨some 4, .move (.l 13), none⟩] [] st := rfl
def a78 : AFun := .mk .shr 3 11 [.v 3, .v 4] (.seq (.region a78r0 false) (.seq (.region a78r1 false) (.seq (.region a78r2 false) (.seq (.block 0 (a78l0)) (.seq (.region a78r8 false) (.ret))))))
/- torsion/complex.place-1 -/
def a77r0 : List AOper := [⟨some 3, .cb (.v 0), none⟩,
    ⟨some 2, .move (.c (.int .i64 0)), none⟩]
theorem a77r0_ev (C st) : evalOps C a77r0 [] st = evalOps C [⟨some 3, .cb (.v 0), none⟩,
    ⟨some 2, .move (.c (.int .i64 0)), none⟩] [] st := rfl
def a77r1 : List AOper := [⟨none, .ca (.v 3), none⟩,
    ⟨none, .field 0 0 false 1 (.v 3), none⟩,
    ⟨none, .move (.v 1), none⟩,
    ⟨none, .call 80 [.l 1, .l 2], none⟩,
    ⟨some 2, .move (.l 3), none⟩]
theorem a77r1_ev (C st) : evalOps C a77r1 [] st = evalOps C [⟨none, .ca (.v 3), none⟩,
    ⟨none, .field 0 0 false 1 (.v 3), none⟩,
    ⟨none, .move (.v 1), none⟩,
    ⟨none, .call 80 [.l 1, .l 2], none⟩,
    ⟨some 2, .move (.l 3), none⟩] [] st := rfl
def a77 : AFun := .mk .iso 2 4 [.v 2] (.seq (.region a77r0 false) (.seq (.region a77r1 false) (.ret)))
/- cmp.isNaN[int] -/
def a95r0 : List AOper := [⟨some 1, .move (.c (.bool false)), none⟩]
theorem a95r0_ev (C st) : evalOps C a95r0 [] st = evalOps C [⟨some 1, .move (.c (.bool false)), none⟩] [] st := rfl
def a95r1 : List AOper := [⟨none, .move (.v 0), none⟩,
    ⟨none, .move (.v 0), none⟩,
    ⟨none, .bin .neq (.l 0) (.l 1), none⟩,
    ⟨some 1, .move (.l 2), none⟩]
theorem a95r1_ev (C st) : evalOps C a95r1 [] st = evalOps C [⟨none, .move (.v 0), none⟩,
    ⟨none, .move (.v 0), none⟩,
    ⟨none, .bin .neq (.l 0) (.l 1), none⟩,
    ⟨some 1, .move (.l 2), none⟩] [] st := rfl
def a95 : AFun := .mk .iso 1 2 [.v 1] (.seq (.region a95r0 false) (.seq (.region a95r1 false) (.ret)))
/- cmp.isNaN[uint32] -/
def a96r0 : List AOper := [⟨some 1, .move (.c (.bool false)), none⟩]
theorem a96r0_ev (C st) : evalOps C a96r0 [] st = evalOps C [⟨some 1, .move (.c (.bool false)), none⟩] [] st := rfl
def a96r1 : List AOper := [⟨none, .move (.v 0), none⟩,
    ⟨none, .move (.v 0), none⟩,
    ⟨none, .bin .neq (.l 0) (.l 1), none⟩,
    ⟨some 1, .move (.l 2), none⟩]
theorem a96r1_ev (C st) : evalOps C a96r1 [] st = evalOps C [⟨none, .move (.v 0), none⟩,
    ⟨none, .move (.v 0), none⟩,
    ⟨none, .bin .neq (.l 0) (.l 1), none⟩,
    ⟨some 1, .move (.l 2), none⟩] [] st := rfl
def a96 : AFun := .mk .iso 1 2 [.v 1] (.seq (.region a96r0 false) (.seq (.region a96r1 false) (.ret)))
end Tor
