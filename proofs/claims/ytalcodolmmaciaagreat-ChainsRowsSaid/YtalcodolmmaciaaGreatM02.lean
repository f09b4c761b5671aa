/-
  A part of the proof: an abstract machine for the program, its soundness, and what the functions compute (Gp1).
  Conditions: none.
-/
import Derived.Test.YtalcodolmmaciaaGreatM01
set_option linter.unusedSectionVars false
set_option linter.unusedVariables false
set_option linter.unusedSimpArgs false
set_option linter.defProp false
namespace Tor
open Go
def a123r0 : List AOper := [oS 20 (.cb (.v 0)),
 oS 3 (.move (.c (.bool false)))]
theorem a123r0_ev : Ev a123r0 (value_of% a123r0) := fun _ _ => rfl
def a123r1 : List AOper := [oN (.call 0 []),
 oS 4 (.move (.l 0))]
theorem a123r1_ev : Ev a123r1 (value_of% a123r1) := fun _ _ => rfl
def a123r2 : List AOper := [oN (.cl true 2 (.v 20)),
 oN (.call 1 [.l 0]),
 oN (.move (.v 1)),
 oN (.call 2 [.l 2]),
 oN (.call 3 [.l 3]),
 oN (.move (.v 2)),
 oN (.bin .rem (.l 5) (.c (.int .i8 5))),
 oN (.conv .i64 (.l 6)),
 oS 5 (.move (.l 1)),
 oS 6 (.move (.l 4)),
 oS 7 (.move (.l 7))]
theorem a123r2_ev : Ev a123r2 (value_of% a123r2) := fun _ _ => rfl
def a123r3 : List AOper := [oN (.move (.v 5)),
 oN (.move (.v 6)),
 oN (.call 4 [.l 0, .l 1]),
 oN (.move (.l 2)),
 oN (.extract 0 (.l 3)),
 oN (.extract 1 (.l 3)),
 oS 8 (.move (.l 4)),
 oS 9 (.move (.l 5))]
theorem a123r3_ev : Ev a123r3 (value_of% a123r3) := fun _ _ => rfl
def a123r4 : List AOper := [oN (.move (.v 5)),
 oN (.move (.v 6)),
 oN (.call 5 [.l 0, .l 1]),
 oN (.move (.l 2)),
 oN (.extract 0 (.l 3)),
 oN (.extract 1 (.l 3)),
 oS 10 (.move (.l 4)),
 oS 11 (.move (.l 5))]
theorem a123r4_ev : Ev a123r4 (value_of% a123r4) := fun _ _ => rfl
def a123r5 : List AOper := [oN (.move (.v 5)),
 oN (.move (.v 6)),
 oN (.call 6 [.l 0, .l 1]),
 oN (.move (.l 2)),
 oN (.extract 0 (.l 3)),
 oN (.extract 1 (.l 3)),
 oS 12 (.move (.l 4)),
 oS 13 (.move (.l 5))]
theorem a123r5_ev : Ev a123r5 (value_of% a123r5) := fun _ _ => rfl
def a123r6 : List AOper := [oN (.move (.v 5)),
 oN (.move (.v 6)),
 oN (.call 7 [.l 0, .l 1]),
 oN (.move (.l 2)),
 oN (.extract 0 (.l 3)),
 oN (.extract 1 (.l 3)),
 oS 14 (.move (.l 4)),
 oS 15 (.move (.l 5))]
theorem a123r6_ev : Ev a123r6 (value_of% a123r6) := fun _ _ => rfl
def a123r7 : List AOper := [oN (.move (.v 5)),
 oN (.move (.v 7)),
 oN (.move (.v 6)),
 oN (.call 8 [.l 0, .l 1, .l 2]),
 oN (.move (.l 3)),
 oN (.extract 0 (.l 4)),
 oN (.extract 1 (.l 4)),
 oS 16 (.move (.l 5)),
 oS 17 (.move (.l 6))]
theorem a123r7_ev : Ev a123r7 (value_of% a123r7) := fun _ _ => rfl
def a123r8 : List AOper := [oN (.move (.v 5)),
 oN (.move (.v 7)),
 oN (.move (.v 6)),
 oN (.call 9 [.l 0, .l 1, .l 2]),
 oN (.move (.l 3)),
 oN (.extract 0 (.l 4)),
 oN (.extract 1 (.l 4)),
 oS 18 (.move (.l 5)),
 oS 19 (.move (.l 6))]
theorem a123r8_ev : Ev a123r8 (value_of% a123r8) := fun _ _ => rfl
def a123r9 : List AOper := [oN (.move (.v 8)),
 oN (.move (.v 10)),
 oN (.bin .eql (.l 0) (.l 1)),
 oN (.move (.l 2)),
 ⟨none, .move (.v 9), some (3, true)⟩,
 ⟨none, .move (.v 11), some (3, true)⟩,
 ⟨none, .bin .eql (.l 4) (.l 5), some (3, true)⟩,
 oN (.pick (.l 3) (.l 6) (.c (.bool false))),
 oN (.move (.l 7)),
 ⟨none, .move (.v 12), some (8, true)⟩,
 ⟨none, .move (.v 14), some (8, true)⟩,
 ⟨none, .call 10 [.l 9, .l 10], some (8, true)⟩,
 oN (.pick (.l 8) (.l 11) (.c (.bool false))),
 oN (.move (.l 12)),
 ⟨none, .move (.v 13), some (13, true)⟩,
 ⟨none, .move (.v 15), some (13, true)⟩,
 ⟨none, .bin .eql (.l 14) (.l 15), some (13, true)⟩,
 oN (.pick (.l 13) (.l 16) (.c (.bool false))),
 oN (.move (.l 17)),
 ⟨none, .move (.v 5), some (18, true)⟩,
 ⟨none, .move (.v 6), some (18, true)⟩,
 ⟨none, .call 11 [.l 19, .l 20], some (18, true)⟩,
 ⟨none, .move (.v 5), some (18, true)⟩,
 ⟨none, .move (.v 6), some (18, true)⟩,
 ⟨none, .call 12 [.l 22, .l 23], some (18, true)⟩,
 ⟨none, .binb false (.l 21) (.l 24), some (18, true)⟩,
 oN (.pick (.l 18) (.l 25) (.c (.bool false))),
 oN (.move (.l 26)),
 ⟨none, .move (.v 16), some (27, true)⟩,
 ⟨none, .move (.v 18), some (27, true)⟩,
 ⟨none, .call 13 [.l 28, .l 29], some (27, true)⟩,
 oN (.pick (.l 27) (.l 30) (.c (.bool false))),
 oN (.move (.l 31)),
 ⟨none, .move (.v 17), some (32, true)⟩,
 ⟨none, .move (.v 19), some (32, true)⟩,
 ⟨none, .bin .eql (.l 33) (.l 34), some (32, true)⟩,
 oN (.pick (.l 32) (.l 35) (.c (.bool false))),
 oN (.move (.l 36)),
 ⟨none, .move (.v 4), some (37, true)⟩,
 oN (.pick (.l 37) (.l 38) (.c (.bool false))),
 oS 3 (.move (.l 39))]
theorem a123r9_ev : Ev a123r9 (value_of% a123r9) := fun _ _ => rfl
def a123 : AFun := .mk .iso 3 21 [.v 3] (.seq (.region a123r0 false) (.seq (.region a123r1 false) (.seq (.region a123r2 false) (.seq (.region a123r3 false) (.seq (.region a123r4 false) (.seq (.region a123r5 false) (.seq (.region a123r6 false) (.seq (.region a123r7 false) (.seq (.region a123r8 false) (.seq (.region a123r9 false) (.ret)))))))))))
def a122r0 : List AOper := [oS 28 (.cb (.v 0)),
 oS 3 (.move (.c (.bool false)))]
theorem a122r0_ev : Ev a122r0 (value_of% a122r0) := fun _ _ => rfl
def a122r1 : List AOper := [oN (.call 0 []),
 oS 4 (.move (.l 0))]
theorem a122r1_ev : Ev a122r1 (value_of% a122r1) := fun _ _ => rfl
def a122r2 : List AOper := [oN (.cl true 2 (.v 28)),
 oN (.call 1 [.l 0]),
 oN (.move (.v 1)),
 oN (.len 0 (.l 2)),
 oN (.call 14 [.l 3]),
 oS 29 (.cn (.agg [.bool false, .isl []])),
 oS 5 (.move (.l 1)),
 oS 29 (.cs 2 (.l 5) (.l 4))]
theorem a122r2_ev : Ev a122r2 (value_of% a122r2) := fun _ _ => rfl
def a122r3 : List AOper := [oS 6 (.move (.c (.int .i64 0)))]
theorem a122r3_ev : Ev a122r3 (value_of% a122r3) := fun _ _ => rfl
def a122r4 : List AOper := [oN (.move (.v 6)),
 oS 22 (.bin .leq (.l 0) (.c (.int .i64 3)))]
theorem a122r4_ev : Ev a122r4 (value_of% a122r4) := fun _ _ => rfl
def a122r6 : List AOper := [oN (.move (.v 5)),
 oN (.move (.v 6)),
 oN (.move (.v 1)),
 oN (.call 15 [.l 0, .l 1, .l 2]),
 oN (.move (.v 5)),
 oN (.move (.v 6)),
 oN (.move (.v 2)),
 oN (.call 15 [.l 4, .l 5, .l 6]),
 oS 7 (.move (.l 3)),
 oS 8 (.move (.l 7))]
theorem a122r6_ev : Ev a122r6 (value_of% a122r6) := fun _ _ => rfl
def a122r7 : List AOper := [oN (.move (.v 5)),
 oN (.move (.v 7)),
 oN (.call 6 [.l 0, .l 1]),
 oN (.move (.l 2)),
 oN (.extract 0 (.l 3)),
 oN (.extract 1 (.l 3)),
 oS 9 (.move (.l 4)),
 oS 10 (.move (.l 5))]
theorem a122r7_ev : Ev a122r7 (value_of% a122r7) := fun _ _ => rfl
def a122r8 : List AOper := [oN (.move (.v 5)),
 oN (.move (.v 8)),
 oN (.call 6 [.l 0, .l 1]),
 oN (.move (.l 2)),
 oN (.extract 0 (.l 3)),
 oN (.extract 1 (.l 3)),
 oS 11 (.move (.l 4)),
 oS 12 (.move (.l 5))]
theorem a122r8_ev : Ev a122r8 (value_of% a122r8) := fun _ _ => rfl
def a122r9 : List AOper := [oN (.move (.v 5)),
 oN (.move (.v 7)),
 oN (.move (.v 8)),
 oN (.cl true 2 (.v 29)),
 oN (.call 16 [.l 1, .l 2, .l 3]),
 oN (.call 6 [.l 0, .l 4]),
 oN (.move (.l 5)),
 oN (.extract 0 (.l 6)),
 oN (.extract 1 (.l 6)),
 oS 13 (.move (.l 7)),
 oS 14 (.move (.l 8))]
theorem a122r9_ev : Ev a122r9 (value_of% a122r9) := fun _ _ => rfl
def a122r10 : List AOper := [oN (.move (.v 10)),
 oN (.bin .neq (.l 0) (.c (.int .i64 0))),
 oN (.move (.l 1)),
 ⟨none, .move (.v 12), some (2, false)⟩,
 ⟨none, .bin .neq (.l 3) (.c (.int .i64 0)), some (2, false)⟩,
 oN (.pick (.l 2) (.c (.bool true)) (.l 4)),
 oN (.move (.l 5)),
 ⟨none, .move (.v 14), some (6, false)⟩,
 ⟨none, .bin .neq (.l 7) (.c (.int .i64 0)), some (6, false)⟩,
 oN (.pick (.l 6) (.c (.bool true)) (.l 8)),
 oN (.move (.l 9)),
 ⟨none, .move (.v 9), some (10, false)⟩,
 ⟨none, .call 17 [.l 11], some (10, false)⟩,
 ⟨none, .un .not (.l 12), some (10, false)⟩,
 oN (.pick (.l 10) (.c (.bool true)) (.l 13)),
 oN (.move (.l 14)),
 ⟨none, .move (.v 11), some (15, false)⟩,
 ⟨none, .call 17 [.l 16], some (15, false)⟩,
 ⟨none, .un .not (.l 17), some (15, false)⟩,
 oN (.pick (.l 15) (.c (.bool true)) (.l 18)),
 oN (.move (.l 19)),
 ⟨none, .move (.v 13), some (20, false)⟩,
 ⟨none, .move (.v 9), some (20, false)⟩,
 ⟨none, .move (.v 11), some (20, false)⟩,
 ⟨none, .cl true 2 (.v 29), some (20, false)⟩,
 ⟨none, .call 16 [.l 22, .l 23, .l 24], some (20, false)⟩,
 ⟨none, .call 10 [.l 21, .l 25], some (20, false)⟩,
 ⟨none, .un .not (.l 26), some (20, false)⟩,
 oS 23 (.pick (.l 20) (.c (.bool true)) (.l 27))]
theorem a122r10_ev : Ev a122r10 (value_of% a122r10) := fun _ _ => rfl
def a122r11 : List AOper := [oS 3 (.move (.c (.bool false)))]
theorem a122r11_ev : Ev a122r11 (value_of% a122r11) := fun _ _ => rfl
def a122r12 : List AOper := [oN (.move (.v 5)),
 oN (.move (.v 9)),
 oN (.call 6 [.l 0, .l 1]),
 oN (.move (.l 2)),
 oN (.extract 0 (.l 3)),
 oN (.extract 1 (.l 3)),
 oS 15 (.move (.l 4)),
 oS 16 (.move (.l 5))]
theorem a122r12_ev : Ev a122r12 (value_of% a122r12) := fun _ _ => rfl
def a122r13 : List AOper := [oN (.move (.v 5)),
 oN (.move (.v 6)),
 oN (.bin .sub (.l 1) (.c (.int .i64 1))),
 oN (.move (.v 9)),
 oN (.call 8 [.l 0, .l 2, .l 3]),
 oN (.move (.l 4)),
 oN (.extract 0 (.l 5)),
 oN (.extract 1 (.l 5)),
 oS 17 (.move (.l 6)),
 oS 18 (.move (.l 7))]
theorem a122r13_ev : Ev a122r13 (value_of% a122r13) := fun _ _ => rfl
def a122r14 : List AOper := [oN (.move (.v 16)),
 oN (.bin .neq (.l 0) (.c (.int .i64 0))),
 oN (.move (.l 1)),
 ⟨none, .move (.v 15), some (2, false)⟩,
 ⟨none, .len 0 (.l 3), some (2, false)⟩,
 ⟨none, .bin .neq (.l 4) (.c (.int .i64 0)), some (2, false)⟩,
 oN (.pick (.l 2) (.c (.bool true)) (.l 5)),
 oN (.move (.l 6)),
 ⟨none, .move (.v 5), some (7, false)⟩,
 ⟨none, .move (.v 9), some (7, false)⟩,
 ⟨none, .call 11 [.l 8, .l 9], some (7, false)⟩,
 ⟨none, .un .not (.l 10), some (7, false)⟩,
 oS 24 (.pick (.l 7) (.c (.bool true)) (.l 11))]
theorem a122r14_ev : Ev a122r14 (value_of% a122r14) := fun _ _ => rfl
def a122r15 : List AOper := [oS 3 (.move (.c (.bool false)))]
theorem a122r15_ev : Ev a122r15 (value_of% a122r15) := fun _ _ => rfl
def a122r16 : List AOper := [oN (.move (.v 6)),
 oN (.bin .gtr (.l 0) (.c (.int .i64 0))),
 oN (.move (.l 1)),
 ⟨none, .move (.v 18), some (2, true)⟩,
 ⟨none, .bin .neq (.l 3) (.c (.int .i64 0)), some (2, true)⟩,
 ⟨none, .move (.l 4), some (2, true)⟩,
 ⟨none, .move (.v 17), some (5, false)⟩,
 ⟨none, .move (.v 5), some (5, false)⟩,
 ⟨none, .move (.v 6), some (5, false)⟩,
 ⟨none, .move (.v 7), some (5, false)⟩,
 ⟨none, .call 18 [.l 7, .l 8, .l 9], some (5, false)⟩,
 ⟨none, .move (.v 5), some (5, false)⟩,
 ⟨none, .move (.v 6), some (5, false)⟩,
 ⟨none, .call 19 [.l 11, .l 12], some (5, false)⟩,
 ⟨none, .call 20 [.l 10, .l 13], some (5, false)⟩,
 ⟨none, .call 13 [.l 6, .l 14], some (5, false)⟩,
 ⟨none, .un .not (.l 15), some (5, false)⟩,
 ⟨none, .pick (.l 5) (.c (.bool true)) (.l 16), some (2, true)⟩,
 oN (.pick (.l 2) (.l 17) (.c (.bool false))),
 oN (.move (.l 18)),
 ⟨none, .move (.v 6), some (19, false)⟩,
 ⟨none, .bin .eql (.l 20) (.c (.int .i64 0)), some (19, false)⟩,
 ⟨none, .move (.l 21), some (19, false)⟩,
 ⟨none, .move (.v 9), some (22, true)⟩,
 ⟨none, .len 0 (.l 23), some (22, true)⟩,
 ⟨none, .bin .neq (.l 24) (.c (.int .i64 0)), some (22, true)⟩,
 ⟨none, .pick (.l 22) (.l 25) (.c (.bool false)), some (19, false)⟩,
 oS 25 (.pick (.l 19) (.c (.bool true)) (.l 26))]
theorem a122r16_ev : Ev a122r16 (value_of% a122r16) := fun _ _ => rfl
def a122r17 : List AOper := [oS 3 (.move (.c (.bool false)))]
theorem a122r17_ev : Ev a122r17 (value_of% a122r17) := fun _ _ => rfl
def a122r5 : List AOper := [oN (.move (.v 6)),
 oN (.bin .add (.l 0) (.c (.int .i64 1))),
 oS 6 (.move (.l 1))]
theorem a122r5_ev : Ev a122r5 (value_of% a122r5) := fun _ _ => rfl
def a122b0 : AIR := .seq (.seq (.region a122r4 false) (.cond (.v 22) (.skip) (.exit 0))) (.seq (.block 1 (.seq (.region a122r6 false) (.seq (.region a122r7 false) (.seq (.region a122r8 false) (.seq (.region a122r9 false) (.seq (.seq (.region a122r10 false) (.cond (.v 23) (.seq (.region a122r11 false) (.ret)) (.skip))) (.seq (.region a122r12 false) (.seq (.region a122r13 false) (.seq (.seq (.region a122r14 false) (.cond (.v 24) (.seq (.region a122r15 false) (.ret)) (.skip))) (.seq (.region a122r16 false) (.cond (.v 25) (.seq (.region a122r17 false) (.ret)) (.skip)))))))))))) (.region a122r5 false))
def a122l0 : AIR := .loop true [0, 1, 2, 3, 4, 5, 6, 19, 20, 21, 26, 27, 28, 29] a122b0
theorem a122l0_run {E GP} (st) : run E GP a122l0 st = loopK (run E GP) a122l0 st.heap.length true [0, 1, 2, 3, 4, 5, 6, 19, 20, 21, 26, 27, 28, 29] st.rs (run E GP a122b0 { vars := st.vars, heap := st.heap, rs := false }) := run_loop _ _ _ _
def a122r18 : List AOper := [oS 19 (.move (.c (.int .i64 0)))]
theorem a122r18_ev : Ev a122r18 (value_of% a122r18) := fun _ _ => rfl
def a122r19 : List AOper := [oN (.move (.v 19)),
 oN (.move (.v 5)),
 oN (.len 0 (.l 1)),
 oS 26 (.bin .lss (.l 0) (.l 2))]
theorem a122r19_ev : Ev a122r19 (value_of% a122r19) := fun _ _ => rfl
def a122r21 : List AOper := [oN (.move (.v 5)),
 oN (.move (.v 5)),
 oN (.move (.v 19)),
 oN (.indexAddr 3 (.l 1) (.l 2)),
 oN (.fieldAddr 0 0 (.l 3)),
 oN (.load false 1 (.l 4)),
 oN (.call 14 [.c (.int .i64 1)]),
 oN (.build [.int .i64 0, .agg [.bool false, .isl []]] [(0, .l 5), (1, .l 6)]),
 oN (.bslice false 3 (.agg [.int .i64 0, .agg [.bool false, .isl []]]) 1 [(0, .l 7)]),
 oN (.call 6 [.l 0, .l 8]),
 oN (.move (.l 9)),
 oN (.extract 0 (.l 10)),
 oN (.extract 1 (.l 10)),
 oS 20 (.move (.l 11)),
 oS 21 (.move (.l 12))]
theorem a122r21_ev : Ev a122r21 (value_of% a122r21) := fun _ _ => rfl
def a122r22 : List AOper := [oN (.move (.v 21)),
 oN (.bin .neq (.l 0) (.c (.int .i64 0))),
 oN (.move (.l 1)),
 ⟨none, .move (.v 20), some (2, false)⟩,
 ⟨none, .move (.v 5), some (2, false)⟩,
 ⟨none, .move (.v 19), some (2, false)⟩,
 ⟨none, .indexAddr 3 (.l 4) (.l 5), some (2, false)⟩,
 ⟨none, .fieldAddr 2 2 (.l 6), some (2, false)⟩,
 ⟨none, .load false 1 (.l 7), some (2, false)⟩,
 ⟨none, .call 10 [.l 3, .l 8], some (2, false)⟩,
 ⟨none, .un .not (.l 9), some (2, false)⟩,
 oS 27 (.pick (.l 2) (.c (.bool true)) (.l 10))]
theorem a122r22_ev : Ev a122r22 (value_of% a122r22) := fun _ _ => rfl
def a122r23 : List AOper := [oS 3 (.move (.c (.bool false)))]
theorem a122r23_ev : Ev a122r23 (value_of% a122r23) := fun _ _ => rfl
def a122r20 : List AOper := [oN (.move (.v 19)),
 oN (.bin .add (.l 0) (.c (.int .i64 1))),
 oS 19 (.move (.l 1))]
theorem a122r20_ev : Ev a122r20 (value_of% a122r20) := fun _ _ => rfl
def a122b1 : AIR := .seq (.seq (.region a122r19 false) (.cond (.v 26) (.skip) (.exit 2))) (.seq (.block 3 (.seq (.region a122r21 true) (.seq (.region a122r22 false) (.cond (.v 27) (.seq (.region a122r23 false) (.ret)) (.skip))))) (.region a122r20 false))
def a122l1 : AIR := .loop true [0, 1, 2, 3, 4, 5, 6, 7, 8, 9, 10, 11, 12, 13, 14, 15, 16, 17, 18, 19, 22, 23, 24, 25, 28, 29] a122b1
theorem a122l1_run {E GP} (st) : run E GP a122l1 st = loopK (run E GP) a122l1 st.heap.length true [0, 1, 2, 3, 4, 5, 6, 7, 8, 9, 10, 11, 12, 13, 14, 15, 16, 17, 18, 19, 22, 23, 24, 25, 28, 29] st.rs (run E GP a122b1 { vars := st.vars, heap := st.heap, rs := false }) := run_loop _ _ _ _
def a122r24 : List AOper := [oN (.move (.v 4)),
 oS 3 (.move (.l 0))]
theorem a122r24_ev : Ev a122r24 (value_of% a122r24) := fun _ _ => rfl
def a122 : AFun := .mk .iso 3 30 [.v 3] (.seq (.region a122r0 false) (.seq (.region a122r1 false) (.seq (.region a122r2 false) (.seq (.seq (.region a122r3 false) (.block 0 (a122l0))) (.seq (.seq (.region a122r18 false) (.block 2 (a122l1))) (.seq (.region a122r24 false) (.ret)))))))
def a124r0 : List AOper := [oS 18 (.cb (.v 0)),
 oS 3 (.box false (.v 2)),
 oS 4 (.move (.c (.bool false)))]
theorem a124r0_ev : Ev a124r0 (value_of% a124r0) := fun _ _ => rfl
def a124r1 : List AOper := [oN (.call 0 []),
 oS 5 (.move (.l 0))]
theorem a124r1_ev : Ev a124r1 (value_of% a124r1) := fun _ _ => rfl
def a124r2 : List AOper := [oN (.cl true 2 (.v 18)),
 oN (.call 1 [.l 0]),
 oN (.indexArr 2 1 (.v 3) (.c (.int .i64 0))),
 oN (.load false 1 (.l 2)),
 oN (.bin .rem (.l 3) (.c (.int .i8 5))),
 oN (.conv .i64 (.l 4)),
 oS 6 (.move (.l 1)),
 oS 7 (.move (.l 5))]
theorem a124r2_ev : Ev a124r2 (value_of% a124r2) := fun _ _ => rfl
def a124r3 : List AOper := [oN (.move (.v 6)),
 oN (.move (.v 7)),
 oN (.call 36 [.l 0, .l 1]),
 oN (.len 0 (.l 2)),
 oS 8 (.move (.l 3))]
theorem a124r3_ev : Ev a124r3 (value_of% a124r3) := fun _ _ => rfl
def a124r4 : List AOper := [oN (.move (.v 1)),
 oN (.move (.v 8)),
 oN (.indexArr 2 1 (.v 3) (.c (.int .i64 1))),
 oN (.load false 1 (.l 2)),
 oN (.bin .rem (.l 3) (.c (.int .i8 2))),
 oN (.conv .i64 (.l 4)),
 oN (.bin .add (.l 1) (.l 5)),
 oN (.max (.l 6) [.c (.int .i64 0)]),
 oN (.min (.l 7) [.c (.int .i64 8)]),
 oN (.call 39 [.l 0, .l 8]),
 oS 9 (.move (.l 9))]
theorem a124r4_ev : Ev a124r4 (value_of% a124r4) := fun _ _ => rfl
def a124r5 : List AOper := [oN (.move (.v 6)),
 oN (.move (.v 7)),
 oN (.move (.v 9)),
 oN (.call 24 [.l 0, .l 1, .l 2]),
 oN (.move (.l 3)),
 oN (.extract 0 (.l 4)),
 oN (.extract 1 (.l 4)),
 oS 10 (.move (.l 5)),
 oS 11 (.move (.l 6))]
theorem a124r5_ev : Ev a124r5 (value_of% a124r5) := fun _ _ => rfl
def a124r6 : List AOper := [oN (.move (.v 6)),
 oN (.move (.v 7)),
 oN (.move (.v 9)),
 oN (.call 58 [.l 0, .l 1, .l 2]),
 oN (.move (.l 3)),
 oN (.extract 0 (.l 4)),
 oN (.extract 1 (.l 4)),
 oS 12 (.move (.l 5)),
 oS 13 (.move (.l 6))]
theorem a124r6_ev : Ev a124r6 (value_of% a124r6) := fun _ _ => rfl
def a124r7 : List AOper := [oN (.move (.v 10)),
 oN (.move (.v 12)),
 oN (.call 10 [.l 0, .l 1]),
 oN (.un .not (.l 2)),
 oN (.move (.l 3)),
 ⟨none, .move (.v 11), some (4, false)⟩,
 ⟨none, .move (.v 13), some (4, false)⟩,
 ⟨none, .bin .neq (.l 5) (.l 6), some (4, false)⟩,
 oN (.pick (.l 4) (.c (.bool true)) (.l 7)),
 oN (.move (.l 8)),
 ⟨none, .move (.v 11), some (9, false)⟩,
 ⟨none, .bin .eql (.l 10) (.c (.int .i64 50)), some (9, false)⟩,
 ⟨none, .move (.v 9), some (9, false)⟩,
 ⟨none, .len 0 (.l 12), some (9, false)⟩,
 ⟨none, .move (.v 8), some (9, false)⟩,
 ⟨none, .bin .neq (.l 13) (.l 14), some (9, false)⟩,
 ⟨none, .binb true (.l 11) (.l 15), some (9, false)⟩,
 oS 16 (.pick (.l 9) (.c (.bool true)) (.l 16))]
theorem a124r7_ev : Ev a124r7 (value_of% a124r7) := fun _ _ => rfl
def a124r8 : List AOper := [oS 4 (.move (.c (.bool false)))]
theorem a124r8_ev : Ev a124r8 (value_of% a124r8) := fun _ _ => rfl
def a124r9 : List AOper := [oN (.move (.v 11)),
 oS 17 (.bin .neq (.l 0) (.c (.int .i64 0)))]
theorem a124r9_ev : Ev a124r9 (value_of% a124r9) := fun _ _ => rfl
def a124r10 : List AOper := [oN (.move (.v 10)),
 oN (.len 0 (.l 0)),
 oN (.bin .eql (.l 1) (.c (.int .i64 0))),
 oN (.move (.l 2)),
 ⟨none, .move (.v 5), some (3, true)⟩,
 oN (.pick (.l 3) (.l 4) (.c (.bool false))),
 oS 4 (.move (.l 5))]
theorem a124r10_ev : Ev a124r10 (value_of% a124r10) := fun _ _ => rfl
def a124r11 : List AOper := [oN (.move (.v 6)),
 oN (.move (.v 7)),
 oN (.move (.v 10)),
 oN (.call 8 [.l 0, .l 1, .l 2]),
 oN (.move (.l 3)),
 oN (.extract 0 (.l 4)),
 oN (.extract 1 (.l 4)),
 oS 14 (.move (.l 5)),
 oS 15 (.move (.l 6))]
theorem a124r11_ev : Ev a124r11 (value_of% a124r11) := fun _ _ => rfl
def a124r12 : List AOper := [oN (.move (.v 15)),
 oN (.bin .eql (.l 0) (.c (.int .i64 0))),
 oN (.move (.l 1)),
 ⟨none, .move (.v 14), some (2, true)⟩,
 ⟨none, .move (.v 9), some (2, true)⟩,
 ⟨none, .call 13 [.l 3, .l 4], some (2, true)⟩,
 oN (.pick (.l 2) (.l 5) (.c (.bool false))),
 oN (.move (.l 6)),
 ⟨none, .move (.v 5), some (7, true)⟩,
 oN (.pick (.l 7) (.l 8) (.c (.bool false))),
 oS 4 (.move (.l 9))]
theorem a124r12_ev : Ev a124r12 (value_of% a124r12) := fun _ _ => rfl
def a124 : AFun := .mk .iso 3 19 [.v 4] (.seq (.region a124r0 false) (.seq (.region a124r1 false) (.seq (.region a124r2 true) (.seq (.region a124r3 false) (.seq (.region a124r4 false) (.seq (.region a124r5 false) (.seq (.region a124r6 false) (.seq (.seq (.region a124r7 false) (.cond (.v 16) (.seq (.region a124r8 false) (.ret)) (.skip))) (.seq (.seq (.region a124r9 false) (.cond (.v 17) (.seq (.region a124r10 false) (.ret)) (.skip))) (.seq (.region a124r11 false) (.seq (.region a124r12 false) (.ret))))))))))))
def a0r0 : List AOper := [oS 0 (.move (.c (.bool false)))]
theorem a0r0_ev : Ev a0r0 (value_of% a0r0) := fun _ _ => rfl
def a0r1 : List AOper := [oN (.call 21 [.c (.int .i64 1), .c (.int .i64 0), .c (.isl [])]),
 oN (.call 21 [.c (.int .i64 2), .c (.int .i64 0), .c (.isl [])]),
 oN (.bslice false 1 (.int .i64 0) 4 [(0, .c (.int .i64 1)), (1, .c (.int .i64 (-1))), (2, .c (.int .i64 2)), (3, .c (.int .i64 1))]),
 oN (.call 21 [.c (.int .i64 3), .c (.int .i64 1), .l 2]),
 oN (.call 21 [.c (.int .i64 4), .c (.int .i64 1), .c (.isl [])]),
 oN (.bslice false 1 (.int .i64 0) 2 [(0, .c (.int .i64 4)), (1, .c (.int .i64 2))]),
 oN (.call 21 [.c (.int .i64 5), .c (.int .i64 2), .l 5]),
 oN (.bslice false 3 (.agg [.int .i64 0, .int .i64 0, .nl]) 5 [(0, .l 0), (1, .l 1), (2, .l 3), (3, .l 4), (4, .l 6)]),
 oS 1 (.move (.l 7))]
theorem a0r1_ev : Ev a0r1 (value_of% a0r1) := fun _ _ => rfl
def a0r2 : List AOper := [oN (.call 14 [.c (.int .i64 2)]),
 oN (.build [.int .i64 0, .agg [.bool false, .isl []]] [(0, .c (.int .i64 5)), (1, .l 0)]),
 oN (.call 14 [.c (.int .i64 1)]),
 oN (.build [.int .i64 0, .agg [.bool false, .isl []]] [(0, .c (.int .i64 3)), (1, .l 2)]),
 oN (.call 14 [.c (.int .i64 (-2))]),
 oN (.build [.int .i64 0, .agg [.bool false, .isl []]] [(0, .c (.int .i64 5)), (1, .l 4)]),
 oN (.bslice false 3 (.agg [.int .i64 0, .agg [.bool false, .isl []]]) 3 [(0, .l 1), (1, .l 3), (2, .l 5)]),
 oN (.call 22 [.l 6]),
 oS 2 (.move (.l 7))]
theorem a0r2_ev : Ev a0r2 (value_of% a0r2) := fun _ _ => rfl
def a0r3 : List AOper := [oN (.move (.v 1)),
 oN (.bslice false 1 (.int .i64 0) 4 [(0, .c (.int .i64 3)), (1, .c (.int .i64 1)), (2, .c (.int .i64 4)), (3, .c (.int .i64 1))]),
 oN (.call 23 [.l 1]),
 oN (.call 4 [.l 0, .l 2]),
 oN (.move (.l 3)),
 oN (.extract 0 (.l 4)),
 oN (.extract 1 (.l 4)),
 oS 3 (.move (.l 5)),
 oS 4 (.move (.l 6))]
theorem a0r3_ev : Ev a0r3 (value_of% a0r3) := fun _ _ => rfl
def a0r4 : List AOper := [oN (.move (.v 1)),
 oN (.call 4 [.l 0, .c (.isl [])]),
 oN (.move (.l 1)),
 oN (.extract 0 (.l 2)),
 oN (.extract 1 (.l 2)),
 oS 5 (.move (.l 3)),
 oS 6 (.move (.l 4))]
theorem a0r4_ev : Ev a0r4 (value_of% a0r4) := fun _ _ => rfl
def a0r5 : List AOper := [oN (.move (.v 1)),
 oN (.bslice false 1 (.int .i64 0) 4 [(0, .c (.int .i64 1)), (1, .c (.int .i64 1)), (2, .c (.int .i64 3)), (3, .c (.int .i64 1))]),
 oN (.call 23 [.l 1]),
 oN (.call 4 [.l 0, .l 2]),
 oN (.move (.l 3)),
 oN (.extract 0 (.l 4)),
 oN (.extract 1 (.l 4)),
 oN (.move (.l 5)),
 oS 7 (.move (.l 6))]
theorem a0r5_ev : Ev a0r5 (value_of% a0r5) := fun _ _ => rfl
def a0r6 : List AOper := [oN (.move (.v 1)),
 oN (.bslice false 1 (.int .i64 0) 2 [(0, .c (.int .i64 9)), (1, .c (.int .i64 1))]),
 oN (.call 23 [.l 1]),
 oN (.call 4 [.l 0, .l 2]),
 oN (.move (.l 3)),
 oN (.extract 0 (.l 4)),
 oN (.extract 1 (.l 4)),
 oN (.move (.l 5)),
 oS 8 (.move (.l 6))]
theorem a0r6_ev : Ev a0r6 (value_of% a0r6) := fun _ _ => rfl
def a0r7 : List AOper := [oN (.move (.v 1)),
 oN (.bslice false 1 (.int .i64 0) 2 [(0, .c (.int .i64 3)), (1, .c (.int .i64 2))]),
 oN (.call 23 [.l 1]),
 oN (.call 6 [.l 0, .l 2]),
 oN (.move (.l 3)),
 oN (.extract 0 (.l 4)),
 oN (.extract 1 (.l 4)),
 oS 9 (.move (.l 5)),
 oS 10 (.move (.l 6))]
theorem a0r7_ev : Ev a0r7 (value_of% a0r7) := fun _ _ => rfl
def a0r8 : List AOper := [oN (.move (.v 1)),
 oN (.bslice false 1 (.int .i64 0) 2 [(0, .c (.int .i64 5)), (1, .c (.int .i64 1))]),
 oN (.call 23 [.l 1]),
 oN (.call 6 [.l 0, .l 2]),
 oN (.move (.l 3)),
 oN (.extract 0 (.l 4)),
 oN (.extract 1 (.l 4)),
 oS 11 (.move (.l 5)),
 oS 12 (.move (.l 6))]
theorem a0r8_ev : Ev a0r8 (value_of% a0r8) := fun _ _ => rfl
def a0r9 : List AOper := [oN (.move (.v 1)),
 oN (.bslice false 1 (.int .i64 0) 2 [(0, .c (.int .i64 4)), (1, .c (.int .i64 1))]),
 oN (.call 23 [.l 1]),
 oN (.call 8 [.l 0, .c (.int .i64 1), .l 2]),
 oN (.move (.l 3)),
 oN (.extract 0 (.l 4)),
 oN (.extract 1 (.l 4)),
 oS 13 (.move (.l 5)),
 oS 14 (.move (.l 6))]
theorem a0r9_ev : Ev a0r9 (value_of% a0r9) := fun _ _ => rfl
def a0r10 : List AOper := [oN (.move (.v 1)),
 oN (.bslice false 1 (.int .i64 0) 2 [(0, .c (.int .i64 4)), (1, .c (.int .i64 1))]),
 oN (.call 23 [.l 1]),
 oN (.call 8 [.l 0, .c (.int .i64 2), .l 2]),
 oN (.move (.l 3)),
 oN (.extract 0 (.l 4)),
 oN (.extract 1 (.l 4)),
 oN (.move (.l 5)),
 oS 15 (.move (.l 6))]
theorem a0r10_ev : Ev a0r10 (value_of% a0r10) := fun _ _ => rfl
def a0r11 : List AOper := [oN (.move (.v 1)),
 oN (.call 14 [.c (.int .i64 1)]),
 oN (.call 14 [.c (.int .i64 (-1))]),
 oN (.bslice false 2 (.agg [.bool false, .isl []]) 2 [(0, .l 1), (1, .l 2)]),
 oN (.call 24 [.l 0, .c (.int .i64 0), .l 3]),
 oN (.move (.l 4)),
 oN (.extract 0 (.l 5)),
 oN (.extract 1 (.l 5)),
 oS 16 (.move (.l 6)),
 oS 17 (.move (.l 7))]
theorem a0r11_ev : Ev a0r11 (value_of% a0r11) := fun _ _ => rfl
def a0r12 : List AOper := [oN (.move (.v 1)),
 oN (.call 14 [.c (.int .i64 1)]),
 oN (.bslice false 2 (.agg [.bool false, .isl []]) 1 [(0, .l 1)]),
 oN (.call 24 [.l 0, .c (.int .i64 0), .l 2]),
 oN (.move (.l 3)),
 oN (.extract 0 (.l 4)),
 oN (.extract 1 (.l 4)),
 oN (.move (.l 5)),
 oS 18 (.move (.l 6))]
theorem a0r12_ev : Ev a0r12 (value_of% a0r12) := fun _ _ => rfl
def a0r13 : List AOper := [oN (.move (.v 2)),
 oN (.bslice false 1 (.int .i64 0) 2 [(0, .c (.int .i64 3)), (1, .c (.int .i64 1))]),
 oN (.call 23 [.l 1]),
 oN (.call 10 [.l 0, .l 2]),
 oN (.move (.l 3)),
 ⟨none, .bslice false 1 (.int .i64 0) 4 [(0, .c (.int .i64 3)), (1, .c (.int .i64 1)), (2, .c (.int .i64 4)), (3, .c (.int .i64 1))], some (4, true)⟩,
 ⟨none, .call 23 [.l 5], some (4, true)⟩,
 ⟨none, .bslice false 1 (.int .i64 0) 2 [(0, .c (.int .i64 4)), (1, .c (.int .i64 1))], some (4, true)⟩,
 ⟨none, .call 23 [.l 7], some (4, true)⟩,
 ⟨none, .call 14 [.c (.int .i64 (-1))], some (4, true)⟩,
 ⟨none, .call 25 [.l 6, .l 8, .l 9], some (4, true)⟩,
 ⟨none, .bslice false 1 (.int .i64 0) 2 [(0, .c (.int .i64 3)), (1, .c (.int .i64 1))], some (4, true)⟩,
 ⟨none, .call 23 [.l 11], some (4, true)⟩,
 ⟨none, .call 10 [.l 10, .l 12], some (4, true)⟩,
 oN (.pick (.l 4) (.l 13) (.c (.bool false))),
 oS 19 (.move (.l 14))]
theorem a0r13_ev : Ev a0r13 (value_of% a0r13) := fun _ _ => rfl
def a0r14 : List AOper := [oN (.move (.v 4)),
 oN (.bin .eql (.l 0) (.c (.int .i64 0))),
 oN (.move (.l 1)),
 ⟨none, .move (.v 3), some (2, true)⟩,
 ⟨none, .bin .eql (.l 3) (.c (.int .i64 1)), some (2, true)⟩,
 oN (.pick (.l 2) (.l 4) (.c (.bool false))),
 oN (.move (.l 5)),
 ⟨none, .move (.v 6), some (6, true)⟩,
 ⟨none, .bin .eql (.l 7) (.c (.int .i64 0)), some (6, true)⟩,
 oN (.pick (.l 6) (.l 8) (.c (.bool false))),
 oN (.move (.l 9)),
 ⟨none, .move (.v 5), some (10, true)⟩,
 ⟨none, .bin .eql (.l 11) (.c (.int .i64 (-1))), some (10, true)⟩,
 oN (.pick (.l 10) (.l 12) (.c (.bool false))),
 oN (.move (.l 13)),
 ⟨none, .move (.v 7), some (14, true)⟩,
 ⟨none, .bin .eql (.l 15) (.c (.int .i64 260)), some (14, true)⟩,
 oN (.pick (.l 14) (.l 16) (.c (.bool false))),
 oN (.move (.l 17)),
 ⟨none, .move (.v 8), some (18, true)⟩,
 ⟨none, .bin .eql (.l 19) (.c (.int .i64 250)), some (18, true)⟩,
 oN (.pick (.l 18) (.l 20) (.c (.bool false))),
 oS 20 (.move (.l 21))]
theorem a0r14_ev : Ev a0r14 (value_of% a0r14) := fun _ _ => rfl
def a0r15 : List AOper := [oN (.move (.v 10)),
 oN (.bin .eql (.l 0) (.c (.int .i64 0))),
 oN (.move (.l 1)),
 ⟨none, .move (.v 9), some (2, true)⟩,
 ⟨none, .bslice false 1 (.int .i64 0) 4 [(0, .c (.int .i64 1)), (1, .c (.int .i64 (-2))), (2, .c (.int .i64 2)), (3, .c (.int .i64 2))], some (2, true)⟩,
 ⟨none, .call 23 [.l 4], some (2, true)⟩,
 ⟨none, .call 10 [.l 3, .l 5], some (2, true)⟩,
 oN (.pick (.l 2) (.l 6) (.c (.bool false))),
 oN (.move (.l 7)),
 ⟨none, .move (.v 12), some (8, true)⟩,
 ⟨none, .bin .eql (.l 9) (.c (.int .i64 0)), some (8, true)⟩,
 oN (.pick (.l 8) (.l 10) (.c (.bool false))),
 oN (.move (.l 11)),
 ⟨none, .move (.v 11), some (12, true)⟩,
 ⟨none, .bslice false 1 (.int .i64 0) 2 [(0, .c (.int .i64 4)), (1, .c (.int .i64 2))], some (12, true)⟩,
 ⟨none, .call 23 [.l 14], some (12, true)⟩,
 ⟨none, .call 10 [.l 13, .l 15], some (12, true)⟩,
 oN (.pick (.l 12) (.l 16) (.c (.bool false))),
 oN (.move (.l 17)),
 ⟨none, .move (.v 1), some (18, true)⟩,
 ⟨none, .bslice false 1 (.int .i64 0) 2 [(0, .c (.int .i64 3)), (1, .c (.int .i64 1))], some (18, true)⟩,
 ⟨none, .call 23 [.l 20], some (18, true)⟩,
 ⟨none, .call 11 [.l 19, .l 21], some (18, true)⟩,
 ⟨none, .un .not (.l 22), some (18, true)⟩,
 oN (.pick (.l 18) (.l 23) (.c (.bool false))),
 oN (.move (.l 24)),
 ⟨none, .move (.v 1), some (25, true)⟩,
 ⟨none, .bslice false 1 (.int .i64 0) 2 [(0, .c (.int .i64 4)), (1, .c (.int .i64 1))], some (25, true)⟩,
 ⟨none, .call 23 [.l 27], some (25, true)⟩,
 ⟨none, .call 11 [.l 26, .l 28], some (25, true)⟩,
 oN (.pick (.l 25) (.l 29) (.c (.bool false))),
 oN (.move (.l 30)),
 ⟨none, .move (.v 1), some (31, true)⟩,
 ⟨none, .bslice false 1 (.int .i64 0) 4 [(0, .c (.int .i64 1)), (1, .c (.int .i64 1)), (2, .c (.int .i64 3)), (3, .c (.int .i64 1))], some (31, true)⟩,
 ⟨none, .call 23 [.l 33], some (31, true)⟩,
 ⟨none, .call 11 [.l 32, .l 34], some (31, true)⟩,
 ⟨none, .un .not (.l 35), some (31, true)⟩,
 oN (.pick (.l 31) (.l 36) (.c (.bool false))),
 oN (.move (.l 37)),
 ⟨none, .move (.v 1), some (38, true)⟩,
 ⟨none, .call 11 [.l 39, .c (.isl [])], some (38, true)⟩,
 oN (.pick (.l 38) (.l 40) (.c (.bool false))),
 oS 21 (.move (.l 41))]
theorem a0r15_ev : Ev a0r15 (value_of% a0r15) := fun _ _ => rfl
def a0r16 : List AOper := [oN (.move (.v 14)),
 oN (.bin .eql (.l 0) (.c (.int .i64 0))),
 oN (.move (.l 1)),
 ⟨none, .move (.v 13), some (2, true)⟩,
 ⟨none, .call 14 [.c (.int .i64 0)], some (2, true)⟩,
 ⟨none, .call 14 [.c (.int .i64 1)], some (2, true)⟩,
 ⟨none, .bslice false 2 (.agg [.bool false, .isl []]) 2 [(0, .l 4), (1, .l 5)], some (2, true)⟩,
 ⟨none, .call 13 [.l 3, .l 6], some (2, true)⟩,
 oN (.pick (.l 2) (.l 7) (.c (.bool false))),
 oN (.move (.l 8)),
 ⟨none, .move (.v 15), some (9, true)⟩,
 ⟨none, .bin .eql (.l 10) (.c (.int .i64 260)), some (9, true)⟩,
 oN (.pick (.l 9) (.l 11) (.c (.bool false))),
 oN (.move (.l 12)),
 ⟨none, .move (.v 17), some (13, true)⟩,
 ⟨none, .bin .eql (.l 14) (.c (.int .i64 0)), some (13, true)⟩,
 oN (.pick (.l 13) (.l 15) (.c (.bool false))),
 oN (.move (.l 16)),
 ⟨none, .move (.v 16), some (17, true)⟩,
 ⟨none, .bslice false 1 (.int .i64 0) 4 [(0, .c (.int .i64 1)), (1, .c (.int .i64 1)), (2, .c (.int .i64 2)), (3, .c (.int .i64 (-1)))], some (17, true)⟩,
 ⟨none, .call 23 [.l 19], some (17, true)⟩,
 ⟨none, .call 10 [.l 18, .l 20], some (17, true)⟩,
 oN (.pick (.l 17) (.l 21) (.c (.bool false))),
 oN (.move (.l 22)),
 ⟨none, .move (.v 18), some (23, true)⟩,
 ⟨none, .bin .eql (.l 24) (.c (.int .i64 50)), some (23, true)⟩,
 oN (.pick (.l 23) (.l 25) (.c (.bool false))),
 oS 22 (.move (.l 26))]
theorem a0r16_ev : Ev a0r16 (value_of% a0r16) := fun _ _ => rfl
def a0r17 : List AOper := [oN (.move (.v 19)),
 oN (.move (.l 0)),
 ⟨none, .move (.v 20), some (1, true)⟩,
 oN (.pick (.l 1) (.l 2) (.c (.bool false))),
 oN (.move (.l 3)),
 ⟨none, .move (.v 21), some (4, true)⟩,
 oN (.pick (.l 4) (.l 5) (.c (.bool false))),
 oN (.move (.l 6)),
 ⟨none, .move (.v 22), some (7, true)⟩,
 oN (.pick (.l 7) (.l 8) (.c (.bool false))),
 oN (.move (.l 9)),
 ⟨none, .bslice false 1 (.int .i64 0) 2 [(0, .c (.int .i64 3)), (1, .c (.int .i64 1))], some (10, true)⟩,
 ⟨none, .call 23 [.l 11], some (10, true)⟩,
 ⟨none, .call 26 [.l 12], some (10, true)⟩,
 oN (.pick (.l 10) (.l 13) (.c (.bool false))),
 oN (.move (.l 14)),
 ⟨none, .build [.int .i64 0, .agg [.bool false, .isl []]] [(0, .c (.int .i64 1))], some (15, true)⟩,
 ⟨none, .bslice false 3 (.agg [.int .i64 0, .agg [.bool false, .isl []]]) 1 [(0, .l 16)], some (15, true)⟩,
 ⟨none, .call 26 [.l 17], some (15, true)⟩,
 ⟨none, .un .not (.l 18), some (15, true)⟩,
 oN (.pick (.l 15) (.l 19) (.c (.bool false))),
 oS 0 (.move (.l 20))]
theorem a0r17_ev : Ev a0r17 (value_of% a0r17) := fun _ _ => rfl
def a0 : AFun := .mk .iso 0 23 [.v 0] (.seq (.region a0r0 false) (.seq (.region a0r1 false) (.seq (.region a0r2 false) (.seq (.region a0r3 false) (.seq (.region a0r4 false) (.seq (.region a0r5 false) (.seq (.region a0r6 false) (.seq (.region a0r7 false) (.seq (.region a0r8 false) (.seq (.region a0r9 false) (.seq (.region a0r10 false) (.seq (.region a0r11 false) (.seq (.region a0r12 false) (.seq (.region a0r13 false) (.seq (.region a0r14 false) (.seq (.region a0r15 false) (.seq (.region a0r16 false) (.seq (.region a0r17 false) (.ret)))))))))))))))))))
def a1r0 : List AOper := [oS 5 (.cb (.v 0)),
 oS 1 (.move (.c (.isl [])))]
theorem a1r0_ev : Ev a1r0 (value_of% a1r0) := fun _ _ => rfl
def a1r1 : List AOper := [oN (.ca (.v 5)),
 oN (.field 0 0 false 1 (.v 5)),
 oN (.call 27 [.l 1]),
 oS 2 (.move (.l 2))]
theorem a1r1_ev : Ev a1r1 (value_of% a1r1) := fun _ _ => rfl
def a1r2 : List AOper := [oS 3 (.move (.c (.int .i64 0)))]
theorem a1r2_ev : Ev a1r2 (value_of% a1r2) := fun _ _ => rfl
def a1r3 : List AOper := [oN (.move (.v 3)),
 oN (.ca (.v 5)),
 oN (.field 1 1 false 1 (.v 5)),
 oN (.len 0 (.l 2)),
 oN (.bin .lss (.l 0) (.l 3)),
 oN (.move (.l 4)),
 ⟨none, .move (.v 3), some (5, true)⟩,
 ⟨none, .bin .lss (.l 6) (.c (.int .i64 4)), some (5, true)⟩,
 oS 4 (.pick (.l 5) (.l 7) (.c (.bool false)))]
theorem a1r3_ev : Ev a1r3 (value_of% a1r3) := fun _ _ => rfl
def a1r5 : List AOper := [oN (.move (.v 2)),
 oN (.ca (.v 5)),
 oN (.field 1 1 false 1 (.v 5)),
 oN (.move (.v 3)),
 oN (.indexAddr 4 (.l 2) (.l 3)),
 oN (.load true 4 (.l 4)),
 oN (.call 28 [.l 0, .l 5]),
 oS 2 (.move (.l 6))]
theorem a1r5_ev : Ev a1r5 (value_of% a1r5) := fun _ _ => rfl
def a1r4 : List AOper := [oN (.move (.v 3)),
 oN (.bin .add (.l 0) (.c (.int .i64 1))),
 oS 3 (.move (.l 1))]
theorem a1r4_ev : Ev a1r4 (value_of% a1r4) := fun _ _ => rfl
def a1b0 : AIR := .seq (.seq (.region a1r3 false) (.cond (.v 4) (.skip) (.exit 0))) (.seq (.block 1 (.region a1r5 false)) (.region a1r4 false))
def a1l0 : AIR := .loop true [0, 1, 2, 3, 5] a1b0
theorem a1l0_run {E GP} (st) : run E GP a1l0 st = loopK (run E GP) a1l0 st.heap.length true [0, 1, 2, 3, 5] st.rs (run E GP a1b0 { vars := st.vars, heap := st.heap, rs := false }) := run_loop _ _ _ _
def a1r6 : List AOper := [oN (.move (.v 2)),
 oS 1 (.move (.l 0))]
theorem a1r6_ev : Ev a1r6 (value_of% a1r6) := fun _ _ => rfl
def a1 : AFun := .mk .iso 1 6 [.v 1] (.seq (.region a1r0 false) (.seq (.region a1r1 false) (.seq (.seq (.region a1r2 false) (.block 0 (a1l0))) (.seq (.region a1r6 false) (.ret)))))
def a3r0 : List AOper := [oS 1 (.move (.c (.isl [])))]
theorem a3r0_ev : Ev a3r0 (value_of% a3r0) := fun _ _ => rfl
def a3r1 : List AOper := [oN (.bslice false 3 (.agg [.int .i64 0, .agg [.bool false, .isl []]]) 0 []),
 oS 2 (.move (.l 0))]
theorem a3r1_ev : Ev a3r1 (value_of% a3r1) := fun _ _ => rfl
def a3r2 : List AOper := [oS 3 (.move (.c (.int .i64 0)))]
theorem a3r2_ev : Ev a3r2 (value_of% a3r2) := fun _ _ => rfl
def a3r3 : List AOper := [oN (.move (.v 3)),
 oN (.move (.v 0)),
 oN (.len 0 (.l 1)),
 oS 4 (.bin .lss (.l 0) (.l 2))]
theorem a3r3_ev : Ev a3r3 (value_of% a3r3) := fun _ _ => rfl
def a3r5 : List AOper := [oN (.move (.v 2)),
 oN (.move (.v 0)),
 oN (.move (.v 3)),
 oN (.indexAddr 3 (.l 1) (.l 2)),
 oN (.load true 3 (.l 3)),
 oN (.call 29 [.l 0, .l 4]),
 oS 2 (.move (.l 5))]
theorem a3r5_ev : Ev a3r5 (value_of% a3r5) := fun _ _ => rfl
def a3r4 : List AOper := [oN (.move (.v 3)),
 oN (.bin .add (.l 0) (.c (.int .i64 1))),
 oS 3 (.move (.l 1))]
theorem a3r4_ev : Ev a3r4 (value_of% a3r4) := fun _ _ => rfl
def a3b0 : AIR := .seq (.seq (.region a3r3 false) (.cond (.v 4) (.skip) (.exit 0))) (.seq (.block 1 (.region a3r5 false)) (.region a3r4 false))
def a3l0 : AIR := .loop true [0, 1, 2, 3] a3b0
theorem a3l0_run {E GP} (st) : run E GP a3l0 st = loopK (run E GP) a3l0 st.heap.length true [0, 1, 2, 3] st.rs (run E GP a3b0 { vars := st.vars, heap := st.heap, rs := false }) := run_loop _ _ _ _
def a3r6 : List AOper := [oN (.move (.v 2)),
 oS 1 (.move (.l 0))]
theorem a3r6_ev : Ev a3r6 (value_of% a3r6) := fun _ _ => rfl
def a3 : AFun := .mk .iso 1 5 [.v 1] (.seq (.region a3r0 false) (.seq (.region a3r1 false) (.seq (.seq (.region a3r2 false) (.block 0 (a3l0))) (.seq (.region a3r6 false) (.ret)))))
def a2r0 : List AOper := [oS 1 (.move (.c (.isl [])))]
theorem a2r0_ev : Ev a2r0 (value_of% a2r0) := fun _ _ => rfl
def a2r1 : List AOper := [oN (.bslice true 3 (.agg [.int .i64 0, .agg [.bool false, .isl []]]) 0 []),
 oS 2 (.move (.l 0))]
theorem a2r1_ev : Ev a2r1 (value_of% a2r1) := fun _ _ => rfl
def a2r2 : List AOper := [oS 3 (.move (.c (.int .i64 0)))]
theorem a2r2_ev : Ev a2r2 (value_of% a2r2) := fun _ _ => rfl
def a2r3 : List AOper := [oN (.move (.v 3)),
 oN (.move (.v 0)),
 oN (.len 0 (.l 1)),
 oN (.bin .lss (.l 0) (.l 2)),
 oN (.move (.l 3)),
 ⟨none, .move (.v 3), some (4, true)⟩,
 ⟨none, .bin .lss (.l 5) (.c (.int .i64 6)), some (4, true)⟩,
 oS 4 (.pick (.l 4) (.l 6) (.c (.bool false)))]
theorem a2r3_ev : Ev a2r3 (value_of% a2r3) := fun _ _ => rfl
def a2r5 : List AOper := [oN (.move (.v 2)),
 oN (.move (.v 0)),
 oN (.move (.v 3)),
 oN (.indexAddr 2 (.l 1) (.l 2)),
 oN (.indexArr 2 1 (.l 3) (.c (.int .i64 0))),
 oN (.load false 1 (.l 4)),
 oN (.conv .u8 (.l 5)),
 oN (.bin .rem (.l 6) (.c (.int .u8 10))),
 oN (.conv .i64 (.l 7)),
 oN (.move (.v 0)),
 oN (.move (.v 3)),
 oN (.indexAddr 2 (.l 9) (.l 10)),
 oN (.indexArr 2 1 (.l 11) (.c (.int .i64 1))),
 oN (.load false 1 (.l 12)),
 oN (.bin .rem (.l 13) (.c (.int .i8 4))),
 oN (.conv .i64 (.l 14)),
 oN (.call 14 [.l 15]),
 oN (.build [.int .i64 0, .agg [.bool false, .isl []]] [(0, .l 8), (1, .l 16)]),
 oN (.bslice false 3 (.agg [.int .i64 0, .agg [.bool false, .isl []]]) 1 [(0, .l 17)]),
 oN (.append 3 40 (.l 0) (.l 18)),
 oS 2 (.move (.l 19))]
theorem a2r5_ev : Ev a2r5 (value_of% a2r5) := fun _ _ => rfl
def a2r4 : List AOper := [oN (.move (.v 3)),
 oN (.bin .add (.l 0) (.c (.int .i64 1))),
 oS 3 (.move (.l 1))]
theorem a2r4_ev : Ev a2r4 (value_of% a2r4) := fun _ _ => rfl
def a2b0 : AIR := .seq (.seq (.region a2r3 false) (.cond (.v 4) (.skip) (.exit 0))) (.seq (.block 1 (.region a2r5 true)) (.region a2r4 false))
def a2l0 : AIR := .loop true [0, 1, 2, 3] a2b0
theorem a2l0_run {E GP} (st) : run E GP a2l0 st = loopK (run E GP) a2l0 st.heap.length true [0, 1, 2, 3] st.rs (run E GP a2b0 { vars := st.vars, heap := st.heap, rs := false }) := run_loop _ _ _ _
def a2r6 : List AOper := [oN (.move (.v 2)),
 oS 1 (.move (.l 0))]
theorem a2r6_ev : Ev a2r6 (value_of% a2r6) := fun _ _ => rfl
def a2 : AFun := .mk .iso 1 5 [.v 1] (.seq (.region a2r0 false) (.seq (.region a2r1 false) (.seq (.seq (.region a2r2 false) (.block 0 (a2l0))) (.seq (.region a2r6 false) (.ret)))))
def a4r0 : List AOper := [oS 2 (.move (.c (.int .i64 0))),
 oS 3 (.move (.c (.int .i64 0)))]
theorem a4r0_ev : Ev a4r0 (value_of% a4r0) := fun _ _ => rfl
def a4r1 : List AOper := [oN (.move (.v 0)),
 oN (.move (.v 1)),
 oN (.call 30 [.l 0, .l 1]),
 oN (.move (.l 2)),
 oN (.extract 0 (.l 3)),
 oN (.extract 1 (.l 3)),
 oN (.extract 2 (.l 3)),
 oN (.move (.l 4)),
 oS 4 (.move (.l 5)),
 oS 5 (.move (.l 6))]
theorem a4r1_ev : Ev a4r1 (value_of% a4r1) := fun _ _ => rfl
def a4r2 : List AOper := [oN (.move (.v 4)),
 oN (.move (.v 5)),
 oS 2 (.move (.l 0)),
 oS 3 (.move (.l 1))]
theorem a4r2_ev : Ev a4r2 (value_of% a4r2) := fun _ _ => rfl
def a4 : AFun := .mk .iso 2 6 [.v 2, .v 3] (.seq (.region a4r0 false) (.seq (.region a4r1 false) (.seq (.region a4r2 false) (.ret))))
def a5r0 : List AOper := [oS 2 (.move (.c (.int .i64 0))),
 oS 3 (.move (.c (.int .i64 0)))]
theorem a5r0_ev : Ev a5r0 (value_of% a5r0) := fun _ _ => rfl
def a5r1 : List AOper := [oS 4 (.move (.c (.int .i64 (-1)))),
 oS 5 (.move (.c (.bool false)))]
theorem a5r1_ev : Ev a5r1 (value_of% a5r1) := fun _ _ => rfl
def a5r2 : List AOper := [oS 6 (.move (.c (.int .i64 0)))]
theorem a5r2_ev : Ev a5r2 (value_of% a5r2) := fun _ _ => rfl
def a5r3 : List AOper := [oN (.move (.v 6)),
 oN (.move (.v 1)),
 oN (.len 0 (.l 1)),
 oS 8 (.bin .lss (.l 0) (.l 2))]
theorem a5r3_ev : Ev a5r3 (value_of% a5r3) := fun _ _ => rfl
def a5r5 : List AOper := [oN (.move (.v 0)),
 oN (.move (.v 1)),
 oN (.move (.v 6)),
 oN (.indexAddr 3 (.l 1) (.l 2)),
 oN (.fieldAddr 0 0 (.l 3)),
 oN (.load false 1 (.l 4)),
 oN (.call 31 [.l 0, .l 5]),
 oN (.move (.l 6)),
 oN (.extract 0 (.l 7)),
 oN (.extract 1 (.l 7)),
 oS 12 (.cn (.agg [.int .i64 0, .int .i64 0, .nl])),
 oS 12 (.cs 3 (.l 10) (.l 8)),
 oS 7 (.move (.l 9))]
theorem a5r5_ev : Ev a5r5 (value_of% a5r5) := fun _ _ => rfl
def a5r6 : List AOper := [oN (.move (.v 7)),
 oS 9 (.un .not (.l 0))]
theorem a5r6_ev : Ev a5r6 (value_of% a5r6) := fun _ _ => rfl
def a5r7 : List AOper := [oS 2 (.move (.c (.int .i64 0))),
 oS 3 (.move (.c (.int .i64 250)))]
theorem a5r7_ev : Ev a5r7 (value_of% a5r7) := fun _ _ => rfl
def a5r8 : List AOper := [oN (.move (.v 6)),
 oN (.bin .gtr (.l 0) (.c (.int .i64 0))),
 oN (.move (.l 1)),
 ⟨none, .ca (.v 12), some (2, true)⟩,
 ⟨none, .field 1 1 false 1 (.v 12), some (2, true)⟩,
 ⟨none, .move (.v 4), some (2, true)⟩,
 ⟨none, .bin .neq (.l 4) (.l 5), some (2, true)⟩,
 oS 10 (.pick (.l 2) (.l 6) (.c (.bool false)))]
theorem a5r8_ev : Ev a5r8 (value_of% a5r8) := fun _ _ => rfl
def a5r9 : List AOper := [oS 5 (.move (.c (.bool true)))]
theorem a5r9_ev : Ev a5r9 (value_of% a5r9) := fun _ _ => rfl
def a5r10 : List AOper := [oN (.ca (.v 12)),
 oN (.field 1 1 false 1 (.v 12)),
 oS 4 (.move (.l 1))]
theorem a5r10_ev : Ev a5r10 (value_of% a5r10) := fun _ _ => rfl
def a5r4 : List AOper := [oN (.move (.v 6)),
 oN (.bin .add (.l 0) (.c (.int .i64 1))),
 oS 6 (.move (.l 1))]
theorem a5r4_ev : Ev a5r4 (value_of% a5r4) := fun _ _ => rfl
def a5b0 : AIR := .seq (.seq (.region a5r3 false) (.cond (.v 8) (.skip) (.exit 0))) (.seq (.block 1 (.seq (.region a5r5 false) (.seq (.seq (.region a5r6 false) (.cond (.v 9) (.seq (.region a5r7 false) (.ret)) (.skip))) (.seq (.seq (.region a5r8 false) (.cond (.v 10) (.region a5r9 false) (.skip))) (.region a5r10 false))))) (.region a5r4 false))
def a5l0 : AIR := .loop true [0, 1, 2, 3, 4, 5, 6, 11] a5b0
theorem a5l0_run {E GP} (st) : run E GP a5l0 st = loopK (run E GP) a5l0 st.heap.length true [0, 1, 2, 3, 4, 5, 6, 11] st.rs (run E GP a5b0 { vars := st.vars, heap := st.heap, rs := false }) := run_loop _ _ _ _
def a5r11 : List AOper := [oS 11 (.move (.v 5))]
theorem a5r11_ev : Ev a5r11 (value_of% a5r11) := fun _ _ => rfl
def a5r12 : List AOper := [oS 2 (.move (.c (.int .i64 0))),
 oS 3 (.move (.c (.int .i64 260)))]
theorem a5r12_ev : Ev a5r12 (value_of% a5r12) := fun _ _ => rfl
def a5r13 : List AOper := [oN (.move (.v 4)),
 oS 2 (.move (.l 0)),
 oS 3 (.move (.c (.int .i64 0)))]
theorem a5r13_ev : Ev a5r13 (value_of% a5r13) := fun _ _ => rfl
def a5 : AFun := .mk .iso 2 13 [.v 2, .v 3] (.seq (.region a5r0 false) (.seq (.region a5r1 false) (.seq (.seq (.region a5r2 false) (.block 0 (a5l0))) (.seq (.seq (.region a5r11 false) (.cond (.v 11) (.seq (.region a5r12 false) (.ret)) (.skip))) (.seq (.region a5r13 false) (.ret))))))
def a6r0 : List AOper := [oS 2 (.move (.c (.isl []))),
 oS 3 (.move (.c (.int .i64 0)))]
theorem a6r0_ev : Ev a6r0 (value_of% a6r0) := fun _ _ => rfl
def a6r1 : List AOper := [oN (.move (.v 0)),
 oN (.move (.v 1)),
 oN (.call 30 [.l 0, .l 1]),
 oN (.move (.l 2)),
 oN (.extract 0 (.l 3)),
 oN (.extract 1 (.l 3)),
 oN (.extract 2 (.l 3)),
 oS 4 (.move (.l 4)),
 oN (.move (.l 5)),
 oS 5 (.move (.l 6))]
theorem a6r1_ev : Ev a6r1 (value_of% a6r1) := fun _ _ => rfl
def a6r2 : List AOper := [oN (.move (.v 5)),
 oS 8 (.bin .neq (.l 0) (.c (.int .i64 0)))]
theorem a6r2_ev : Ev a6r2 (value_of% a6r2) := fun _ _ => rfl
def a6r3 : List AOper := [oN (.move (.v 5)),
 oS 2 (.move (.c (.isl []))),
 oS 3 (.move (.l 0))]
theorem a6r3_ev : Ev a6r3 (value_of% a6r3) := fun _ _ => rfl
def a6r4 : List AOper := [oN (.mkmap),
 oS 6 (.move (.l 0))]
theorem a6r4_ev : Ev a6r4 (value_of% a6r4) := fun _ _ => rfl
def a6r5 : List AOper := [oS 9 (.move (.v 4)),
 oS 10 (.len 0 (.l 0)),
 oS 11 (.move (.c (.int .i64 0)))]
theorem a6r5_ev : Ev a6r5 (value_of% a6r5) := fun _ _ => rfl
def a6r6 : List AOper := [oS 12 (.bin .lss (.v 11) (.v 10))]
theorem a6r6_ev : Ev a6r6 (value_of% a6r6) := fun _ _ => rfl
def a6r7 : List AOper := [oN (.move (.v 11)),
 oN (.indexAddr 3 (.v 9) (.v 11)),
 oN (.load true 3 (.l 1)),
 oS 17 (.cn (.agg [.int .i64 0, .int .i64 0, .nl])),
 oS 7 (.move (.l 0)),
 oS 17 (.cs 3 (.l 3) (.l 2))]
theorem a6r7_ev : Ev a6r7 (value_of% a6r7) := fun _ _ => rfl
def a6r8 : List AOper := [oN (.ca (.v 17)),
 oS 13 (.field 2 2 false 1 (.v 17)),
 oS 14 (.len 0 (.l 1)),
 oS 15 (.move (.c (.int .i64 0)))]
theorem a6r8_ev : Ev a6r8 (value_of% a6r8) := fun _ _ => rfl
def a6r9 : List AOper := [oS 16 (.bin .lss (.v 15) (.v 14))]
theorem a6r9_ev : Ev a6r9 (value_of% a6r9) := fun _ _ => rfl
def a6r10 : List AOper := [oN (.indexAddr 3 (.v 13) (.v 15)),
 oN (.load true 3 (.l 0)),
 oS 18 (.cn (.agg [.int .i64 0, .agg [.bool false, .isl []]])),
 oS 18 (.cs 3 (.l 2) (.l 1))]
theorem a6r10_ev : Ev a6r10 (value_of% a6r10) := fun _ _ => rfl
def a6r11 : List AOper := [oN (.move (.v 6)),
 oN (.ca (.v 18)),
 oN (.field 0 0 false 1 (.v 18)),
 oN (.move (.v 1)),
 oN (.move (.v 7)),
 oN (.indexAddr 3 (.l 3) (.l 4)),
 oN (.fieldAddr 1 1 (.l 5)),
 oN (.load true 2 (.l 6)),
 oN (.ca (.v 18)),
 oN (.field 1 1 true 2 (.v 18)),
 oN (.call 32 [.l 7, .l 9]),
 oN (.call 33 [.l 0, .l 2, .l 10])]
theorem a6r11_ev : Ev a6r11 (value_of% a6r11) := fun _ _ => rfl
def a6r12 : List AOper := [oN (.bin .add (.v 15) (.c (.int .i64 1))),
 oS 15 (.move (.l 0))]
theorem a6r12_ev : Ev a6r12 (value_of% a6r12) := fun _ _ => rfl
def a6b1 : AIR := .seq (.region a6r9 false) (.seq (.cond (.v 16) (.skip) (.exit 2)) (.seq (.block 3 (.seq (.region a6r10 false) (.region a6r11 true))) (.region a6r12 false)))
def a6l1 : AIR := .loop true [0, 1, 2, 3, 4, 5, 6, 7, 8, 9, 10, 11, 12, 13, 14, 15, 17] a6b1
theorem a6l1_run {E GP} (st) : run E GP a6l1 st = loopK (run E GP) a6l1 st.heap.length true [0, 1, 2, 3, 4, 5, 6, 7, 8, 9, 10, 11, 12, 13, 14, 15, 17] st.rs (run E GP a6b1 { vars := st.vars, heap := st.heap, rs := false }) := run_loop _ _ _ _
def a6r13 : List AOper := [oN (.bin .add (.v 11) (.c (.int .i64 1))),
 oS 11 (.move (.l 0))]
theorem a6r13_ev : Ev a6r13 (value_of% a6r13) := fun _ _ => rfl
def a6b0 : AIR := .seq (.region a6r6 false) (.seq (.cond (.v 12) (.skip) (.exit 0)) (.seq (.block 1 (.seq (.region a6r7 false) (.seq (.region a6r8 false) (.block 2 (a6l1))))) (.region a6r13 false)))
def a6l0 : AIR := .loop true [0, 1, 2, 3, 4, 5, 6, 8, 9, 10, 11] a6b0
theorem a6l0_run {E GP} (st) : run E GP a6l0 st = loopK (run E GP) a6l0 st.heap.length true [0, 1, 2, 3, 4, 5, 6, 8, 9, 10, 11] st.rs (run E GP a6b0 { vars := st.vars, heap := st.heap, rs := false }) := run_loop _ _ _ _
def a6r14 : List AOper := [oN (.move (.v 6)),
 oN (.call 34 [.l 0]),
 oS 2 (.move (.l 1)),
 oS 3 (.move (.c (.int .i64 0)))]
theorem a6r14_ev : Ev a6r14 (value_of% a6r14) := fun _ _ => rfl
def a6 : AFun := .mk .iso 2 19 [.v 2, .v 3] (.seq (.region a6r0 false) (.seq (.region a6r1 false) (.seq (.seq (.region a6r2 false) (.cond (.v 8) (.seq (.region a6r3 false) (.ret)) (.skip))) (.seq (.region a6r4 false) (.seq (.seq (.region a6r5 false) (.block 0 (a6l0))) (.seq (.region a6r14 false) (.ret)))))))
def a7r0 : List AOper := [oS 2 (.move (.c (.isl []))),
 oS 3 (.move (.c (.int .i64 0)))]
theorem a7r0_ev : Ev a7r0 (value_of% a7r0) := fun _ _ => rfl
def a7r1 : List AOper := [oN (.move (.v 0)),
 oN (.move (.v 1)),
 oN (.call 5 [.l 0, .l 1]),
 oN (.move (.l 2)),
 oN (.extract 0 (.l 3)),
 oN (.extract 1 (.l 3)),
 oN (.move (.l 4)),
 oS 4 (.move (.l 5))]
theorem a7r1_ev : Ev a7r1 (value_of% a7r1) := fun _ _ => rfl
def a7r2 : List AOper := [oN (.move (.v 4)),
 oS 7 (.bin .neq (.l 0) (.c (.int .i64 0)))]
theorem a7r2_ev : Ev a7r2 (value_of% a7r2) := fun _ _ => rfl
def a7r3 : List AOper := [oN (.move (.v 4)),
 oS 2 (.move (.c (.isl []))),
 oS 3 (.move (.l 0))]
theorem a7r3_ev : Ev a7r3 (value_of% a7r3) := fun _ _ => rfl
def a7r4 : List AOper := [oN (.bslice false 3 (.agg [.int .i64 0, .agg [.bool false, .isl []]]) 0 []),
 oS 5 (.move (.l 0))]
theorem a7r4_ev : Ev a7r4 (value_of% a7r4) := fun _ _ => rfl
def a7r5 : List AOper := [oS 6 (.move (.c (.int .i64 0)))]
theorem a7r5_ev : Ev a7r5 (value_of% a7r5) := fun _ _ => rfl
def a7r6 : List AOper := [oN (.move (.v 6)),
 oN (.move (.v 1)),
 oN (.len 0 (.l 1)),
 oS 8 (.bin .lss (.l 0) (.l 2))]
theorem a7r6_ev : Ev a7r6 (value_of% a7r6) := fun _ _ => rfl
def a7r8 : List AOper := [oN (.move (.v 0)),
 oN (.move (.v 1)),
 oN (.move (.v 6)),
 oN (.indexAddr 3 (.l 1) (.l 2)),
 oN (.fieldAddr 0 0 (.l 3)),
 oN (.load false 1 (.l 4)),
 oN (.call 31 [.l 0, .l 5]),
 oN (.move (.l 6)),
 oN (.extract 0 (.l 7)),
 oN (.extract 1 (.l 7)),
 oS 9 (.cn (.agg [.int .i64 0, .int .i64 0, .nl])),
 oS 9 (.cs 3 (.l 10) (.l 8)),
 oN (.move (.l 9))]
theorem a7r8_ev : Ev a7r8 (value_of% a7r8) := fun _ _ => rfl
def a7r9 : List AOper := [oN (.move (.v 5)),
 oN (.ca (.v 9)),
 oN (.field 2 2 false 1 (.v 9)),
 oN (.move (.v 1)),
 oN (.move (.v 6)),
 oN (.indexAddr 3 (.l 3) (.l 4)),
 oN (.fieldAddr 1 1 (.l 5)),
 oN (.load true 2 (.l 6)),
 oN (.call 16 [.l 0, .l 2, .l 7]),
 oS 5 (.move (.l 8))]
theorem a7r9_ev : Ev a7r9 (value_of% a7r9) := fun _ _ => rfl
def a7r7 : List AOper := [oN (.move (.v 6)),
 oN (.bin .add (.l 0) (.c (.int .i64 1))),
 oS 6 (.move (.l 1))]
theorem a7r7_ev : Ev a7r7 (value_of% a7r7) := fun _ _ => rfl
def a7b0 : AIR := .seq (.seq (.region a7r6 false) (.cond (.v 8) (.skip) (.exit 0))) (.seq (.block 1 (.seq (.region a7r8 false) (.region a7r9 true))) (.region a7r7 false))
def a7l0 : AIR := .loop true [0, 1, 2, 3, 4, 5, 6, 7] a7b0
theorem a7l0_run {E GP} (st) : run E GP a7l0 st = loopK (run E GP) a7l0 st.heap.length true [0, 1, 2, 3, 4, 5, 6, 7] st.rs (run E GP a7b0 { vars := st.vars, heap := st.heap, rs := false }) := run_loop _ _ _ _
def a7r10 : List AOper := [oN (.move (.v 5)),
 oS 2 (.move (.l 0)),
 oS 3 (.move (.c (.int .i64 0)))]
theorem a7r10_ev : Ev a7r10 (value_of% a7r10) := fun _ _ => rfl
def a7 : AFun := .mk .iso 2 10 [.v 2, .v 3] (.seq (.region a7r0 false) (.seq (.region a7r1 false) (.seq (.seq (.region a7r2 false) (.cond (.v 7) (.seq (.region a7r3 false) (.ret)) (.skip))) (.seq (.region a7r4 false) (.seq (.seq (.region a7r5 false) (.block 0 (a7l0))) (.seq (.region a7r10 false) (.ret)))))))
def a8r0 : List AOper := [oS 3 (.move (.c (.isl []))),
 oS 4 (.move (.c (.int .i64 0)))]
theorem a8r0_ev : Ev a8r0 (value_of% a8r0) := fun _ _ => rfl
def a8r1 : List AOper := [oN (.move (.v 0)),
 oN (.move (.v 2)),
 oN (.call 30 [.l 0, .l 1]),
 oN (.move (.l 2)),
 oN (.extract 0 (.l 3)),
 oN (.extract 1 (.l 3)),
 oN (.extract 2 (.l 3)),
 oN (.move (.l 4)),
 oS 5 (.move (.l 5)),
 oS 6 (.move (.l 6))]
theorem a8r1_ev : Ev a8r1 (value_of% a8r1) := fun _ _ => rfl
def a8r2 : List AOper := [oN (.move (.v 6)),
 oN (.bin .neq (.l 0) (.c (.int .i64 0))),
 oS 10 (.move (.l 1))]
theorem a8r2_ev : Ev a8r2 (value_of% a8r2) := fun _ _ => rfl
def a8r3 : List AOper := [oN (.move (.v 6)),
 oS 3 (.move (.c (.isl []))),
 oS 4 (.move (.l 0))]
theorem a8r3_ev : Ev a8r3 (value_of% a8r3) := fun _ _ => rfl
def a8r4 : List AOper := [oN (.move (.v 2)),
 oN (.len 0 (.l 0)),
 oN (.bin .gtr (.l 1) (.c (.int .i64 0))),
 oN (.move (.l 2)),
 ⟨none, .move (.v 5), some (3, true)⟩,
 ⟨none, .move (.v 1), some (3, true)⟩,
 ⟨none, .bin .neq (.l 4) (.l 5), some (3, true)⟩,
 oN (.pick (.l 3) (.l 6) (.c (.bool false))),
 oS 11 (.move (.l 7))]
theorem a8r4_ev : Ev a8r4 (value_of% a8r4) := fun _ _ => rfl
def a8r5 : List AOper := [oS 3 (.move (.c (.isl []))),
 oS 4 (.move (.c (.int .i64 260)))]
theorem a8r5_ev : Ev a8r5 (value_of% a8r5) := fun _ _ => rfl
def a8r6 : List AOper := [oN (.mkmap),
 oS 7 (.move (.l 0))]
theorem a8r6_ev : Ev a8r6 (value_of% a8r6) := fun _ _ => rfl
def a8r7 : List AOper := [oS 12 (.move (.v 2)),
 oS 13 (.len 0 (.l 0)),
 oS 14 (.move (.c (.int .i64 0)))]
theorem a8r7_ev : Ev a8r7 (value_of% a8r7) := fun _ _ => rfl
def a8r8 : List AOper := [oS 15 (.bin .lss (.v 14) (.v 13))]
theorem a8r8_ev : Ev a8r8 (value_of% a8r8) := fun _ _ => rfl
def a8r9 : List AOper := [oN (.indexAddr 3 (.v 12) (.v 14)),
 oN (.load true 3 (.l 0)),
 oS 20 (.cn (.agg [.int .i64 0, .agg [.bool false, .isl []]])),
 oS 20 (.cs 3 (.l 2) (.l 1))]
theorem a8r9_ev : Ev a8r9 (value_of% a8r9) := fun _ _ => rfl
def a8r10 : List AOper := [oN (.move (.v 7)),
 oN (.ca (.v 20)),
 oN (.field 0 0 false 1 (.v 20)),
 oN (.ca (.v 20)),
 oN (.field 1 1 true 2 (.v 20)),
 oN (.mupd (.l 0) (.l 2) (.l 4))]
theorem a8r10_ev : Ev a8r10 (value_of% a8r10) := fun _ _ => rfl
def a8r11 : List AOper := [oN (.bin .add (.v 14) (.c (.int .i64 1))),
 oS 14 (.move (.l 0))]
theorem a8r11_ev : Ev a8r11 (value_of% a8r11) := fun _ _ => rfl
def a8b0 : AIR := .seq (.region a8r8 false) (.seq (.cond (.v 15) (.skip) (.exit 1)) (.seq (.block 2 (.seq (.region a8r9 false) (.region a8r10 false))) (.region a8r11 false)))
def a8l0 : AIR := .loop true [0, 1, 2, 3, 4, 5, 6, 7, 8, 9, 10, 11, 12, 13, 14, 16, 17, 18, 19] a8b0
theorem a8l0_run {E GP} (st) : run E GP a8l0 st = loopK (run E GP) a8l0 st.heap.length true [0, 1, 2, 3, 4, 5, 6, 7, 8, 9, 10, 11, 12, 13, 14, 16, 17, 18, 19] st.rs (run E GP a8b0 { vars := st.vars, heap := st.heap, rs := false }) := run_loop _ _ _ _
def a8r12 : List AOper := [oS 8 (.nils 2)]
theorem a8r12_ev : Ev a8r12 (value_of% a8r12) := fun _ _ => rfl
def a8r13 : List AOper := [oN (.move (.v 0)),
 oN (.move (.v 1)),
 oS 16 (.call 35 [.l 0, .l 1]),
 oS 17 (.len 0 (.l 2)),
 oS 18 (.move (.c (.int .i64 0)))]
theorem a8r13_ev : Ev a8r13 (value_of% a8r13) := fun _ _ => rfl
def a8r14 : List AOper := [oS 19 (.bin .lss (.v 18) (.v 17))]
theorem a8r14_ev : Ev a8r14 (value_of% a8r14) := fun _ _ => rfl
def a8r15 : List AOper := [oN (.indexAddr 1 (.v 16) (.v 18)),
 oN (.load false 1 (.l 0)),
 oS 9 (.move (.l 1))]
theorem a8r15_ev : Ev a8r15 (value_of% a8r15) := fun _ _ => rfl
def a8r16 : List AOper := [oN (.move (.v 8)),
 oN (.move (.v 7)),
 oN (.move (.v 9)),
 oN (.lookup (.agg [.bool false, .isl []]) false (.l 1) (.l 2)),
 oN (.bslice false 2 (.agg [.bool false, .isl []]) 1 [(0, .l 3)]),
 oN (.append 2 32 (.l 0) (.l 4)),
 oS 8 (.move (.l 5))]
theorem a8r16_ev : Ev a8r16 (value_of% a8r16) := fun _ _ => rfl
def a8r17 : List AOper := [oN (.bin .add (.v 18) (.c (.int .i64 1))),
 oS 18 (.move (.l 0))]
theorem a8r17_ev : Ev a8r17 (value_of% a8r17) := fun _ _ => rfl
def a8b1 : AIR := .seq (.region a8r14 false) (.seq (.cond (.v 19) (.skip) (.exit 3)) (.seq (.block 4 (.seq (.region a8r15 false) (.region a8r16 false))) (.region a8r17 false)))
def a8l1 : AIR := .loop true [0, 1, 2, 3, 4, 5, 6, 7, 8, 10, 11, 12, 13, 14, 15, 16, 17, 18, 20] a8b1
theorem a8l1_run {E GP} (st) : run E GP a8l1 st = loopK (run E GP) a8l1 st.heap.length true [0, 1, 2, 3, 4, 5, 6, 7, 8, 10, 11, 12, 13, 14, 15, 16, 17, 18, 20] st.rs (run E GP a8b1 { vars := st.vars, heap := st.heap, rs := false }) := run_loop _ _ _ _
def a8r18 : List AOper := [oN (.move (.v 8)),
 oS 3 (.move (.l 0)),
 oS 4 (.move (.c (.int .i64 0)))]
theorem a8r18_ev : Ev a8r18 (value_of% a8r18) := fun _ _ => rfl
def a8 : AFun := .mk .iso 3 21 [.v 3, .v 4] (.seq (.region a8r0 false) (.seq (.region a8r1 false) (.seq (.block 0 (.seq (.region a8r2 false) (.cond (.v 10) (.seq (.region a8r3 false) (.ret)) (.seq (.region a8r4 false) (.cond (.v 11) (.seq (.region a8r5 false) (.ret)) (.skip)))))) (.seq (.region a8r6 false) (.seq (.seq (.region a8r7 false) (.block 1 (a8l0))) (.seq (.region a8r12 false) (.seq (.seq (.region a8r13 false) (.block 3 (a8l1))) (.seq (.region a8r18 false) (.ret)))))))))
def a9r0 : List AOper := [oS 3 (.move (.c (.isl []))),
 oS 4 (.move (.c (.int .i64 0)))]
theorem a9r0_ev : Ev a9r0 (value_of% a9r0) := fun _ _ => rfl
def a9r1 : List AOper := [oN (.move (.v 0)),
 oN (.move (.v 2)),
 oN (.call 5 [.l 0, .l 1]),
 oN (.move (.l 2)),
 oN (.extract 0 (.l 3)),
 oN (.extract 1 (.l 3)),
 oS 5 (.move (.l 4)),
 oS 6 (.move (.l 5))]
theorem a9r1_ev : Ev a9r1 (value_of% a9r1) := fun _ _ => rfl
def a9r2 : List AOper := [oN (.move (.v 6)),
 oS 11 (.bin .neq (.l 0) (.c (.int .i64 0)))]
theorem a9r2_ev : Ev a9r2 (value_of% a9r2) := fun _ _ => rfl
def a9r3 : List AOper := [oN (.move (.v 6)),
 oS 3 (.move (.c (.isl []))),
 oS 4 (.move (.l 0))]
theorem a9r3_ev : Ev a9r3 (value_of% a9r3) := fun _ _ => rfl
def a9r4 : List AOper := [oN (.move (.v 2)),
 oN (.len 0 (.l 0)),
 oN (.bin .gtr (.l 1) (.c (.int .i64 0))),
 oN (.move (.l 2)),
 ⟨none, .move (.v 5), some (3, true)⟩,
 ⟨none, .move (.v 1), some (3, true)⟩,
 ⟨none, .bin .neq (.l 4) (.l 5), some (3, true)⟩,
 oS 12 (.pick (.l 3) (.l 6) (.c (.bool false)))]
theorem a9r4_ev : Ev a9r4 (value_of% a9r4) := fun _ _ => rfl
def a9r5 : List AOper := [oS 3 (.move (.c (.isl []))),
 oS 4 (.move (.c (.int .i64 260)))]
theorem a9r5_ev : Ev a9r5 (value_of% a9r5) := fun _ _ => rfl
def a9r6 : List AOper := [oN (.move (.v 0)),
 oN (.move (.v 1)),
 oN (.call 36 [.l 0, .l 1]),
 oN (.bslice true 2 (.agg [.bool false, .isl []]) 0 []),
 oS 7 (.move (.l 2)),
 oS 8 (.move (.l 3))]
theorem a9r6_ev : Ev a9r6 (value_of% a9r6) := fun _ _ => rfl
def a9r7 : List AOper := [oS 9 (.move (.c (.int .i64 0)))]
theorem a9r7_ev : Ev a9r7 (value_of% a9r7) := fun _ _ => rfl
def a9r8 : List AOper := [oN (.move (.v 9)),
 oN (.move (.v 7)),
 oN (.len 0 (.l 1)),
 oS 13 (.bin .lss (.l 0) (.l 2))]
theorem a9r8_ev : Ev a9r8 (value_of% a9r8) := fun _ _ => rfl
def a9r10 : List AOper := [oN (.call 14 [.c (.int .i64 0)]),
 oS 16 (.cn (.agg [.bool false, .isl []])),
 oS 16 (.cs 2 (.l 1) (.l 0))]
theorem a9r10_ev : Ev a9r10 (value_of% a9r10) := fun _ _ => rfl
def a9r11 : List AOper := [oS 10 (.move (.c (.int .i64 0)))]
theorem a9r11_ev : Ev a9r11 (value_of% a9r11) := fun _ _ => rfl
def a9r12 : List AOper := [oN (.move (.v 10)),
 oN (.move (.v 2)),
 oN (.len 0 (.l 1)),
 oS 14 (.bin .lss (.l 0) (.l 2))]
theorem a9r12_ev : Ev a9r12 (value_of% a9r12) := fun _ _ => rfl
def a9r14 : List AOper := [oN (.move (.v 2)),
 oN (.move (.v 10)),
 oN (.indexAddr 3 (.l 0) (.l 1)),
 oN (.fieldAddr 0 0 (.l 2)),
 oN (.load false 1 (.l 3)),
 oN (.move (.v 7)),
 oN (.move (.v 9)),
 oN (.indexAddr 1 (.l 5) (.l 6)),
 oN (.load false 1 (.l 7)),
 oS 15 (.bin .eql (.l 4) (.l 8))]
theorem a9r14_ev : Ev a9r14 (value_of% a9r14) := fun _ _ => rfl
def a9r15 : List AOper := [oN (.move (.v 2)),
 oN (.move (.v 10)),
 oN (.indexAddr 3 (.l 0) (.l 1)),
 oN (.fieldAddr 1 1 (.l 2)),
 oN (.load true 2 (.l 3)),
 oS 16 (.cs 2 (.v 16) (.l 4))]
theorem a9r15_ev : Ev a9r15 (value_of% a9r15) := fun _ _ => rfl
def a9r13 : List AOper := [oN (.move (.v 10)),
 oN (.bin .add (.l 0) (.c (.int .i64 1))),
 oS 10 (.move (.l 1))]
theorem a9r13_ev : Ev a9r13 (value_of% a9r13) := fun _ _ => rfl
def a9b1 : AIR := .seq (.seq (.region a9r12 false) (.cond (.v 14) (.skip) (.exit 2))) (.seq (.block 3 (.seq (.region a9r14 true) (.cond (.v 15) (.region a9r15 false) (.skip)))) (.region a9r13 false))
def a9l1 : AIR := .loop true [0, 1, 2, 3, 4, 5, 6, 7, 8, 9, 10, 11, 12, 13, 16] a9b1
theorem a9l1_run {E GP} (st) : run E GP a9l1 st = loopK (run E GP) a9l1 st.heap.length true [0, 1, 2, 3, 4, 5, 6, 7, 8, 9, 10, 11, 12, 13, 16] st.rs (run E GP a9b1 { vars := st.vars, heap := st.heap, rs := false }) := run_loop _ _ _ _
def a9r16 : List AOper := [oN (.move (.v 8)),
 oN (.cl true 2 (.v 16)),
 oN (.bslice false 2 (.agg [.bool false, .isl []]) 1 [(0, .l 1)]),
 oN (.append 2 32 (.l 0) (.l 2)),
 oS 8 (.move (.l 3))]
theorem a9r16_ev : Ev a9r16 (value_of% a9r16) := fun _ _ => rfl
def a9r9 : List AOper := [oN (.move (.v 9)),
 oN (.bin .add (.l 0) (.c (.int .i64 1))),
 oS 9 (.move (.l 1))]
theorem a9r9_ev : Ev a9r9 (value_of% a9r9) := fun _ _ => rfl
def a9b0 : AIR := .seq (.seq (.region a9r8 false) (.cond (.v 13) (.skip) (.exit 0))) (.seq (.block 1 (.seq (.region a9r10 false) (.seq (.seq (.region a9r11 false) (.block 2 (a9l1))) (.region a9r16 false)))) (.region a9r9 false))
def a9l0 : AIR := .loop true [0, 1, 2, 3, 4, 5, 6, 7, 8, 9, 11, 12] a9b0
theorem a9l0_run {E GP} (st) : run E GP a9l0 st = loopK (run E GP) a9l0 st.heap.length true [0, 1, 2, 3, 4, 5, 6, 7, 8, 9, 11, 12] st.rs (run E GP a9b0 { vars := st.vars, heap := st.heap, rs := false }) := run_loop _ _ _ _
def a9r17 : List AOper := [oN (.move (.v 8)),
 oS 3 (.move (.l 0)),
 oS 4 (.move (.c (.int .i64 0)))]
theorem a9r17_ev : Ev a9r17 (value_of% a9r17) := fun _ _ => rfl
def a9 : AFun := .mk .iso 3 17 [.v 3, .v 4] (.seq (.region a9r0 false) (.seq (.region a9r1 false) (.seq (.seq (.region a9r2 false) (.cond (.v 11) (.seq (.region a9r3 false) (.ret)) (.skip))) (.seq (.seq (.region a9r4 false) (.cond (.v 12) (.seq (.region a9r5 false) (.ret)) (.skip))) (.seq (.region a9r6 false) (.seq (.seq (.region a9r7 false) (.block 0 (a9l0))) (.seq (.region a9r17 false) (.ret))))))))
def a10r0 : List AOper := [oS 2 (.move (.c (.bool false)))]
theorem a10r0_ev : Ev a10r0 (value_of% a10r0) := fun _ _ => rfl
def a10r1 : List AOper := [oN (.move (.v 0)),
 oN (.len 0 (.l 0)),
 oN (.move (.v 1)),
 oN (.len 0 (.l 2)),
 oS 4 (.bin .neq (.l 1) (.l 3))]
theorem a10r1_ev : Ev a10r1 (value_of% a10r1) := fun _ _ => rfl
def a10r2 : List AOper := [oS 2 (.move (.c (.bool false)))]
theorem a10r2_ev : Ev a10r2 (value_of% a10r2) := fun _ _ => rfl
def a10r3 : List AOper := [oS 3 (.move (.c (.int .i64 0)))]
theorem a10r3_ev : Ev a10r3 (value_of% a10r3) := fun _ _ => rfl
def a10r4 : List AOper := [oN (.move (.v 3)),
 oN (.move (.v 0)),
 oN (.len 0 (.l 1)),
 oS 5 (.bin .lss (.l 0) (.l 2))]
theorem a10r4_ev : Ev a10r4 (value_of% a10r4) := fun _ _ => rfl
def a10r6 : List AOper := [oN (.move (.v 0)),
 oN (.move (.v 3)),
 oN (.indexAddr 3 (.l 0) (.l 1)),
 oN (.fieldAddr 0 0 (.l 2)),
 oN (.load false 1 (.l 3)),
 oN (.move (.v 1)),
 oN (.move (.v 3)),
 oN (.indexAddr 3 (.l 5) (.l 6)),
 oN (.fieldAddr 0 0 (.l 7)),
 oN (.load false 1 (.l 8)),
 oN (.bin .neq (.l 4) (.l 9)),
 oN (.move (.l 10)),
 ⟨none, .move (.v 0), some (11, false)⟩,
 ⟨none, .move (.v 3), some (11, false)⟩,
 ⟨none, .indexAddr 3 (.l 12) (.l 13), some (11, false)⟩,
 ⟨none, .fieldAddr 1 1 (.l 14), some (11, false)⟩,
 ⟨none, .load true 2 (.l 15), some (11, false)⟩,
 ⟨none, .move (.v 1), some (11, false)⟩,
 ⟨none, .move (.v 3), some (11, false)⟩,
 ⟨none, .indexAddr 3 (.l 17) (.l 18), some (11, false)⟩,
 ⟨none, .fieldAddr 1 1 (.l 19), some (11, false)⟩,
 ⟨none, .load true 2 (.l 20), some (11, false)⟩,
 ⟨none, .call 37 [.l 16, .l 21], some (11, false)⟩,
 ⟨none, .un .not (.l 22), some (11, false)⟩,
 oS 6 (.pick (.l 11) (.c (.bool true)) (.l 23))]
theorem a10r6_ev : Ev a10r6 (value_of% a10r6) := fun _ _ => rfl
def a10r7 : List AOper := [oS 2 (.move (.c (.bool false)))]
theorem a10r7_ev : Ev a10r7 (value_of% a10r7) := fun _ _ => rfl
def a10r5 : List AOper := [oN (.move (.v 3)),
 oN (.bin .add (.l 0) (.c (.int .i64 1))),
 oS 3 (.move (.l 1))]
theorem a10r5_ev : Ev a10r5 (value_of% a10r5) := fun _ _ => rfl
def a10b0 : AIR := .seq (.seq (.region a10r4 false) (.cond (.v 5) (.skip) (.exit 0))) (.seq (.block 1 (.seq (.region a10r6 true) (.cond (.v 6) (.seq (.region a10r7 false) (.ret)) (.skip)))) (.region a10r5 false))
def a10l0 : AIR := .loop true [0, 1, 2, 3, 4] a10b0
theorem a10l0_run {E GP} (st) : run E GP a10l0 st = loopK (run E GP) a10l0 st.heap.length true [0, 1, 2, 3, 4] st.rs (run E GP a10b0 { vars := st.vars, heap := st.heap, rs := false }) := run_loop _ _ _ _
def a10r8 : List AOper := [oS 2 (.move (.c (.bool true)))]
theorem a10r8_ev : Ev a10r8 (value_of% a10r8) := fun _ _ => rfl
def a10 : AFun := .mk .iso 2 7 [.v 2] (.seq (.region a10r0 false) (.seq (.seq (.region a10r1 false) (.cond (.v 4) (.seq (.region a10r2 false) (.ret)) (.skip))) (.seq (.seq (.region a10r3 false) (.block 0 (a10l0))) (.seq (.region a10r8 false) (.ret)))))
def a11r0 : List AOper := [oS 2 (.move (.c (.bool false)))]
theorem a11r0_ev : Ev a11r0 (value_of% a11r0) := fun _ _ => rfl
def a11r1 : List AOper := [oN (.move (.v 0)),
 oN (.move (.v 1)),
 oN (.call 6 [.l 0, .l 1]),
 oN (.move (.l 2)),
 oN (.extract 0 (.l 3)),
 oN (.extract 1 (.l 3)),
 oS 3 (.move (.l 4)),
 oS 4 (.move (.l 5))]
theorem a11r1_ev : Ev a11r1 (value_of% a11r1) := fun _ _ => rfl
def a11r2 : List AOper := [oN (.move (.v 4)),
 oN (.bin .eql (.l 0) (.c (.int .i64 0))),
 oN (.move (.l 1)),
 ⟨none, .move (.v 3), some (2, true)⟩,
 ⟨none, .len 0 (.l 3), some (2, true)⟩,
 ⟨none, .bin .eql (.l 4) (.c (.int .i64 0)), some (2, true)⟩,
 oN (.pick (.l 2) (.l 5) (.c (.bool false))),
 oS 2 (.move (.l 6))]
theorem a11r2_ev : Ev a11r2 (value_of% a11r2) := fun _ _ => rfl
def a11 : AFun := .mk .iso 2 5 [.v 2] (.seq (.region a11r0 false) (.seq (.region a11r1 false) (.seq (.region a11r2 false) (.ret))))
def a12r0 : List AOper := [oS 2 (.move (.c (.bool false)))]
theorem a12r0_ev : Ev a12r0 (value_of% a12r0) := fun _ _ => rfl
def a12r1 : List AOper := [oN (.move (.v 0)),
 oN (.move (.v 1)),
 oN (.call 7 [.l 0, .l 1]),
 oN (.move (.l 2)),
 oN (.extract 0 (.l 3)),
 oN (.extract 1 (.l 3)),
 oS 3 (.move (.l 4)),
 oS 4 (.move (.l 5))]
theorem a12r1_ev : Ev a12r1 (value_of% a12r1) := fun _ _ => rfl
def a12r2 : List AOper := [oN (.move (.v 4)),
 oN (.bin .eql (.l 0) (.c (.int .i64 0))),
 oN (.move (.l 1)),
 ⟨none, .move (.v 3), some (2, true)⟩,
 ⟨none, .len 0 (.l 3), some (2, true)⟩,
 ⟨none, .bin .eql (.l 4) (.c (.int .i64 0)), some (2, true)⟩,
 oN (.pick (.l 2) (.l 5) (.c (.bool false))),
 oS 2 (.move (.l 6))]
theorem a12r2_ev : Ev a12r2 (value_of% a12r2) := fun _ _ => rfl
def a12 : AFun := .mk .iso 2 5 [.v 2] (.seq (.region a12r0 false) (.seq (.region a12r1 false) (.seq (.region a12r2 false) (.ret))))
def a13r0 : List AOper := [oS 2 (.move (.c (.bool false)))]
theorem a13r0_ev : Ev a13r0 (value_of% a13r0) := fun _ _ => rfl
def a13r1 : List AOper := [oN (.move (.v 0)),
 oN (.len 0 (.l 0)),
 oN (.move (.v 1)),
 oN (.len 0 (.l 2)),
 oS 4 (.bin .neq (.l 1) (.l 3))]
theorem a13r1_ev : Ev a13r1 (value_of% a13r1) := fun _ _ => rfl
def a13r2 : List AOper := [oS 2 (.move (.c (.bool false)))]
theorem a13r2_ev : Ev a13r2 (value_of% a13r2) := fun _ _ => rfl
def a13r3 : List AOper := [oS 3 (.move (.c (.int .i64 0)))]
theorem a13r3_ev : Ev a13r3 (value_of% a13r3) := fun _ _ => rfl
def a13r4 : List AOper := [oN (.move (.v 3)),
 oN (.move (.v 0)),
 oN (.len 0 (.l 1)),
 oS 5 (.bin .lss (.l 0) (.l 2))]
theorem a13r4_ev : Ev a13r4 (value_of% a13r4) := fun _ _ => rfl
def a13r6 : List AOper := [oN (.move (.v 0)),
 oN (.move (.v 3)),
 oN (.indexAddr 2 (.l 0) (.l 1)),
 oN (.load true 2 (.l 2)),
 oN (.move (.v 1)),
 oN (.move (.v 3)),
 oN (.indexAddr 2 (.l 4) (.l 5)),
 oN (.load true 2 (.l 6)),
 oN (.call 37 [.l 3, .l 7]),
 oS 6 (.un .not (.l 8))]
theorem a13r6_ev : Ev a13r6 (value_of% a13r6) := fun _ _ => rfl
def a13r7 : List AOper := [oS 2 (.move (.c (.bool false)))]
theorem a13r7_ev : Ev a13r7 (value_of% a13r7) := fun _ _ => rfl
def a13r5 : List AOper := [oN (.move (.v 3)),
 oN (.bin .add (.l 0) (.c (.int .i64 1))),
 oS 3 (.move (.l 1))]
theorem a13r5_ev : Ev a13r5 (value_of% a13r5) := fun _ _ => rfl
def a13b0 : AIR := .seq (.seq (.region a13r4 false) (.cond (.v 5) (.skip) (.exit 0))) (.seq (.block 1 (.seq (.region a13r6 true) (.cond (.v 6) (.seq (.region a13r7 false) (.ret)) (.skip)))) (.region a13r5 false))
def a13l0 : AIR := .loop true [0, 1, 2, 3, 4] a13b0
theorem a13l0_run {E GP} (st) : run E GP a13l0 st = loopK (run E GP) a13l0 st.heap.length true [0, 1, 2, 3, 4] st.rs (run E GP a13b0 { vars := st.vars, heap := st.heap, rs := false }) := run_loop _ _ _ _
def a13r8 : List AOper := [oS 2 (.move (.c (.bool true)))]
theorem a13r8_ev : Ev a13r8 (value_of% a13r8) := fun _ _ => rfl
def a13 : AFun := .mk .iso 2 7 [.v 2] (.seq (.region a13r0 false) (.seq (.seq (.region a13r1 false) (.cond (.v 4) (.seq (.region a13r2 false) (.ret)) (.skip))) (.seq (.seq (.region a13r3 false) (.block 0 (a13l0))) (.seq (.region a13r8 false) (.ret)))))
def a14r0 : List AOper := [oS 3 (.cn (.agg [.bool false, .isl []]))]
theorem a14r0_ev : Ev a14r0 (value_of% a14r0) := fun _ _ => rfl
def a14r1 : List AOper := [oN (.move (.v 0)),
 oN (.conv .u64 (.l 0)),
 oS 1 (.move (.l 1))]
theorem a14r1_ev : Ev a14r1 (value_of% a14r1) := fun _ _ => rfl
def a14r2 : List AOper := [oN (.move (.v 0)),
 oS 2 (.bin .lss (.l 0) (.c (.int .i64 0)))]
theorem a14r2_ev : Ev a14r2 (value_of% a14r2) := fun _ _ => rfl
def a14r3 : List AOper := [oN (.move (.v 1)),
 oN (.un .neg (.l 0)),
 oS 1 (.move (.l 1))]
theorem a14r3_ev : Ev a14r3 (value_of% a14r3) := fun _ _ => rfl
def a14r4 : List AOper := [oN (.move (.v 1)),
 oN (.conv .u32 (.l 0)),
 oN (.move (.v 1)),
 oN (.bin .shr (.l 2) (.c (.int .u64 32))),
 oN (.conv .u32 (.l 3)),
 oN (.bslice false 1 (.int .u32 0) 2 [(0, .l 1), (1, .l 4)]),
 oN (.move (.v 0)),
 oN (.bin .lss (.l 6) (.c (.int .i64 0))),
 oN (.call 38 [.l 5, .l 7]),
 oS 3 (.cs 2 (.v 3) (.l 8))]
theorem a14r4_ev : Ev a14r4 (value_of% a14r4) := fun _ _ => rfl
def a14 : AFun := .mk .iso 1 4 [.c 3 true 2] (.seq (.region a14r0 false) (.seq (.region a14r1 false) (.seq (.seq (.region a14r2 false) (.cond (.v 2) (.region a14r3 false) (.skip))) (.seq (.region a14r4 false) (.ret)))))
def a15r0 : List AOper := [oS 3 (.move (.c (.isl [])))]
theorem a15r0_ev : Ev a15r0 (value_of% a15r0) := fun _ _ => rfl
def a15r1 : List AOper := [oN (.move (.v 0)),
 oN (.move (.v 1)),
 oN (.move (.v 2)),
 oN (.move (.v 0)),
 oN (.move (.v 1)),
 oN (.call 36 [.l 3, .l 4]),
 oN (.len 0 (.l 5)),
 oN (.call 39 [.l 2, .l 6]),
 oN (.call 40 [.l 0, .l 1, .l 7]),
 oS 3 (.move (.l 8))]
theorem a15r1_ev : Ev a15r1 (value_of% a15r1) := fun _ _ => rfl
def a15 : AFun := .mk .iso 3 4 [.v 3] (.seq (.region a15r0 false) (.seq (.region a15r1 false) (.ret)))
def a16r0 : List AOper := [oS 7 (.cb (.v 2)),
 oS 3 (.move (.c (.isl [])))]
theorem a16r0_ev : Ev a16r0 (value_of% a16r0) := fun _ _ => rfl
def a16r1 : List AOper := [oN (.move (.v 0)),
 oS 4 (.move (.l 0))]
theorem a16r1_ev : Ev a16r1 (value_of% a16r1) := fun _ _ => rfl
def a16r2 : List AOper := [oS 5 (.move (.c (.int .i64 0)))]
theorem a16r2_ev : Ev a16r2 (value_of% a16r2) := fun _ _ => rfl
def a16r3 : List AOper := [oN (.move (.v 5)),
 oN (.move (.v 1)),
 oN (.len 0 (.l 1)),
 oS 6 (.bin .lss (.l 0) (.l 2))]
theorem a16r3_ev : Ev a16r3 (value_of% a16r3) := fun _ _ => rfl
def a16r5 : List AOper := [oN (.move (.v 4)),
 oN (.move (.v 1)),
 oN (.move (.v 5)),
 oN (.indexAddr 3 (.l 1) (.l 2)),
 oN (.fieldAddr 0 0 (.l 3)),
 oN (.load false 1 (.l 4)),
 oN (.cl true 2 (.v 7)),
 oN (.move (.v 1)),
 oN (.move (.v 5)),
 oN (.indexAddr 3 (.l 7) (.l 8)),
 oN (.fieldAddr 1 1 (.l 9)),
 oN (.load true 2 (.l 10)),
 oN (.call 41 [.l 6, .l 11]),
 oN (.build [.int .i64 0, .agg [.bool false, .isl []]] [(0, .l 5), (1, .l 12)]),
 oN (.call 29 [.l 0, .l 13]),
 oS 4 (.move (.l 14))]
theorem a16r5_ev : Ev a16r5 (value_of% a16r5) := fun _ _ => rfl
def a16r4 : List AOper := [oN (.move (.v 5)),
 oN (.bin .add (.l 0) (.c (.int .i64 1))),
 oS 5 (.move (.l 1))]
theorem a16r4_ev : Ev a16r4 (value_of% a16r4) := fun _ _ => rfl
def a16b0 : AIR := .seq (.seq (.region a16r3 false) (.cond (.v 6) (.skip) (.exit 0))) (.seq (.block 1 (.region a16r5 true)) (.region a16r4 false))
def a16l0 : AIR := .loop true [0, 1, 2, 3, 4, 5, 7] a16b0
theorem a16l0_run {E GP} (st) : run E GP a16l0 st = loopK (run E GP) a16l0 st.heap.length true [0, 1, 2, 3, 4, 5, 7] st.rs (run E GP a16b0 { vars := st.vars, heap := st.heap, rs := false }) := run_loop _ _ _ _
def a16r6 : List AOper := [oN (.move (.v 4)),
 oS 3 (.move (.l 0))]
theorem a16r6_ev : Ev a16r6 (value_of% a16r6) := fun _ _ => rfl
def a16 : AFun := .mk .iso 3 8 [.v 3] (.seq (.region a16r0 false) (.seq (.region a16r1 false) (.seq (.seq (.region a16r2 false) (.block 0 (a16l0))) (.seq (.region a16r6 false) (.ret)))))
def a17r0 : List AOper := [oS 1 (.move (.c (.bool false)))]
theorem a17r0_ev : Ev a17r0 (value_of% a17r0) := fun _ _ => rfl
def a17r1 : List AOper := [oS 2 (.move (.c (.int .i64 0)))]
theorem a17r1_ev : Ev a17r1 (value_of% a17r1) := fun _ _ => rfl
def a17r2 : List AOper := [oN (.move (.v 2)),
 oN (.move (.v 0)),
 oN (.len 0 (.l 1)),
 oS 3 (.bin .lss (.l 0) (.l 2))]
theorem a17r2_ev : Ev a17r2 (value_of% a17r2) := fun _ _ => rfl
def a17r4 : List AOper := [oN (.move (.v 0)),
 oN (.move (.v 2)),
 oN (.indexAddr 3 (.l 0) (.l 1)),
 oN (.fieldAddr 1 1 (.l 2)),
 oN (.load true 2 (.l 3)),
 oN (.call 42 [.l 4]),
 oN (.un .not (.l 5)),
 oN (.move (.l 6)),
 ⟨none, .move (.v 0), some (7, false)⟩,
 ⟨none, .move (.v 2), some (7, false)⟩,
 ⟨none, .indexAddr 3 (.l 8) (.l 9), some (7, false)⟩,
 ⟨none, .fieldAddr 1 1 (.l 10), some (7, false)⟩,
 ⟨none, .load true 2 (.l 11), some (7, false)⟩,
 ⟨none, .call 43 [.l 12], some (7, false)⟩,
 ⟨none, .bin .eql (.l 13) (.c (.int .i64 0)), some (7, false)⟩,
 oN (.pick (.l 7) (.c (.bool true)) (.l 14)),
 oN (.move (.l 15)),
 ⟨none, .move (.v 2), some (16, false)⟩,
 ⟨none, .bin .gtr (.l 17) (.c (.int .i64 0)), some (16, false)⟩,
 ⟨none, .move (.l 18), some (16, false)⟩,
 ⟨none, .move (.v 0), some (19, true)⟩,
 ⟨none, .move (.v 2), some (19, true)⟩,
 ⟨none, .bin .sub (.l 21) (.c (.int .i64 1)), some (19, true)⟩,
 ⟨none, .indexAddr 3 (.l 20) (.l 22), some (19, true)⟩,
 ⟨none, .fieldAddr 0 0 (.l 23), some (19, true)⟩,
 ⟨none, .load false 1 (.l 24), some (19, true)⟩,
 ⟨none, .move (.v 0), some (19, true)⟩,
 ⟨none, .move (.v 2), some (19, true)⟩,
 ⟨none, .indexAddr 3 (.l 26) (.l 27), some (19, true)⟩,
 ⟨none, .fieldAddr 0 0 (.l 28), some (19, true)⟩,
 ⟨none, .load false 1 (.l 29), some (19, true)⟩,
 ⟨none, .bin .geq (.l 25) (.l 30), some (19, true)⟩,
 ⟨none, .pick (.l 19) (.l 31) (.c (.bool false)), some (16, false)⟩,
 oS 4 (.pick (.l 16) (.c (.bool true)) (.l 32))]
theorem a17r4_ev : Ev a17r4 (value_of% a17r4) := fun _ _ => rfl
def a17r5 : List AOper := [oS 1 (.move (.c (.bool false)))]
theorem a17r5_ev : Ev a17r5 (value_of% a17r5) := fun _ _ => rfl
def a17r3 : List AOper := [oN (.move (.v 2)),
 oN (.bin .add (.l 0) (.c (.int .i64 1))),
 oS 2 (.move (.l 1))]
theorem a17r3_ev : Ev a17r3 (value_of% a17r3) := fun _ _ => rfl
def a17b0 : AIR := .seq (.seq (.region a17r2 false) (.cond (.v 3) (.skip) (.exit 0))) (.seq (.block 1 (.seq (.region a17r4 true) (.cond (.v 4) (.seq (.region a17r5 false) (.ret)) (.skip)))) (.region a17r3 false))
def a17l0 : AIR := .loop true [0, 1, 2] a17b0
theorem a17l0_run {E GP} (st) : run E GP a17l0 st = loopK (run E GP) a17l0 st.heap.length true [0, 1, 2] st.rs (run E GP a17b0 { vars := st.vars, heap := st.heap, rs := false }) := run_loop _ _ _ _
def a17r6 : List AOper := [oS 1 (.move (.c (.bool true)))]
theorem a17r6_ev : Ev a17r6 (value_of% a17r6) := fun _ _ => rfl
def a17 : AFun := .mk .iso 1 5 [.v 1] (.seq (.region a17r0 false) (.seq (.seq (.region a17r1 false) (.block 0 (a17l0))) (.seq (.region a17r6 false) (.ret))))
def a20r0 : List AOper := [oS 4 (.cb (.v 1)),
 oS 2 (.move (.c (.isl [])))]
theorem a20r0_ev : Ev a20r0 (value_of% a20r0) := fun _ _ => rfl
def a20r1 : List AOper := [oN (.move (.v 0)),
 oN (.cl true 3 (.v 4)),
 oN (.call 44 [.l 0, .l 1]),
 oN (.move (.l 2)),
 oN (.extract 0 (.l 3)),
 oN (.extract 1 (.l 3)),
 oS 3 (.move (.l 4)),
 oN (.move (.l 5))]
theorem a20r1_ev : Ev a20r1 (value_of% a20r1) := fun _ _ => rfl
def a20r2 : List AOper := [oN (.move (.v 3)),
 oS 2 (.move (.l 0))]
theorem a20r2_ev : Ev a20r2 (value_of% a20r2) := fun _ _ => rfl
def a20 : AFun := .mk .iso 2 5 [.v 2] (.seq (.region a20r0 false) (.seq (.region a20r1 false) (.seq (.region a20r2 false) (.ret))))
def a18r0 : List AOper := [oS 3 (.move (.c (.isl [])))]
theorem a18r0_ev : Ev a18r0 (value_of% a18r0) := fun _ _ => rfl
def a18r1 : List AOper := [oN (.move (.v 0)),
 oN (.move (.v 1)),
 oN (.move (.v 2)),
 oN (.call 9 [.l 0, .l 1, .l 2]),
 oN (.move (.l 3)),
 oN (.extract 0 (.l 4)),
 oN (.extract 1 (.l 4)),
 oS 4 (.move (.l 5)),
 oN (.move (.l 6))]
theorem a18r1_ev : Ev a18r1 (value_of% a18r1) := fun _ _ => rfl
def a18r2 : List AOper := [oN (.move (.v 4)),
 oS 3 (.move (.l 0))]
theorem a18r2_ev : Ev a18r2 (value_of% a18r2) := fun _ _ => rfl
def a18 : AFun := .mk .iso 3 5 [.v 3] (.seq (.region a18r0 false) (.seq (.region a18r1 false) (.seq (.region a18r2 false) (.ret))))
def a19r0 : List AOper := [oS 7 (.cn (.agg [.int .i64 0, .int .i64 0, .nl]))]
theorem a19r0_ev : Ev a19r0 (value_of% a19r0) := fun _ _ => rfl
def a19r1 : List AOper := [oN (.move (.v 0)),
 oN (.move (.v 1)),
 oN (.call 36 [.l 0, .l 1]),
 oN (.move (.v 0)),
 oN (.move (.v 1)),
 oN (.bin .sub (.l 4) (.c (.int .i64 1))),
 oN (.call 36 [.l 3, .l 5]),
 oS 2 (.move (.l 2)),
 oS 3 (.move (.l 6))]
theorem a19r1_ev : Ev a19r1 (value_of% a19r1) := fun _ _ => rfl
def a19r2 : List AOper := [oN (.move (.v 2)),
 oN (.len 0 (.l 0)),
 oN (.move (.v 3)),
 oN (.len 0 (.l 2)),
 oN (.build [.int .i64 0, .int .i64 0, .nl] [(0, .l 1), (1, .l 3)]),
 oS 4 (.alloc (.agg [.int .i64 0, .int .i64 0, .nl])),
 oN (.store 3 (.l 5) (.l 4))]
theorem a19r2_ev : Ev a19r2 (value_of% a19r2) := fun _ _ => rfl
def a19r3 : List AOper := [oS 5 (.move (.c (.int .i64 0)))]
theorem a19r3_ev : Ev a19r3 (value_of% a19r3) := fun _ _ => rfl
def a19r4 : List AOper := [oN (.move (.v 5)),
 oN (.move (.v 2)),
 oN (.len 0 (.l 1)),
 oS 6 (.bin .lss (.l 0) (.l 2))]
theorem a19r4_ev : Ev a19r4 (value_of% a19r4) := fun _ _ => rfl
def a19r6 : List AOper := [oN (.move (.v 0)),
 oN (.move (.v 2)),
 oN (.move (.v 5)),
 oN (.indexAddr 1 (.l 1) (.l 2)),
 oN (.load false 1 (.l 3)),
 oN (.call 31 [.l 0, .l 4]),
 oN (.move (.l 5)),
 oN (.extract 0 (.l 6)),
 oN (.extract 1 (.l 6)),
 oS 8 (.cn (.agg [.int .i64 0, .int .i64 0, .nl])),
 oS 8 (.cs 3 (.l 9) (.l 7)),
 oN (.move (.l 8))]
theorem a19r6_ev : Ev a19r6 (value_of% a19r6) := fun _ _ => rfl
def a19r7 : List AOper := [oN (.fieldAddr 2 2 (.v 4)),
 oN (.load false 1 (.l 0)),
 oN (.ca (.v 8)),
 oN (.field 2 2 false 1 (.v 8)),
 oN (.move (.v 3)),
 oN (.call 45 [.l 3, .l 4]),
 oN (.bslice false 1 (.nl) 1 [(0, .l 5)]),
 oN (.append 1 24 (.l 1) (.l 6)),
 oN (.fieldAddr 2 2 (.v 4)),
 oN (.store 1 (.l 8) (.l 7))]
theorem a19r7_ev : Ev a19r7 (value_of% a19r7) := fun _ _ => rfl
def a19r5 : List AOper := [oN (.move (.v 5)),
 oN (.bin .add (.l 0) (.c (.int .i64 1))),
 oS 5 (.move (.l 1))]
theorem a19r5_ev : Ev a19r5 (value_of% a19r5) := fun _ _ => rfl
def a19b0 : AIR := .seq (.seq (.region a19r4 false) (.cond (.v 6) (.skip) (.exit 0))) (.seq (.block 1 (.seq (.region a19r6 false) (.region a19r7 true))) (.region a19r5 false))
def a19l0 : AIR := .loop false [0, 1, 2, 3, 4, 5, 7] a19b0
theorem a19l0_run {E GP} (st) : run E GP a19l0 st = loopK (run E GP) a19l0 st.heap.length false [0, 1, 2, 3, 4, 5, 7] st.rs (run E GP a19b0 { vars := st.vars, heap := st.heap, rs := false }) := run_loop _ _ _ _
def a19r8 : List AOper := [oN (.load true 3 (.v 4)),
 oS 7 (.cs 3 (.v 7) (.l 0))]
theorem a19r8_ev : Ev a19r8 (value_of% a19r8) := fun _ _ => rfl
def a19 : AFun := .mk .iso 2 9 [.c 7 true 3] (.seq (.region a19r0 false) (.seq (.region a19r1 false) (.seq (.region a19r2 false) (.seq (.seq (.region a19r3 false) (.block 0 (a19l0))) (.seq (.region a19r8 false) (.ret))))))
def a36r0 : List AOper := [oS 2 (.move (.c (.isl [])))]
theorem a36r0_ev : Ev a36r0 (value_of% a36r0) := fun _ _ => rfl
def a36r1 : List AOper := [oN (.bslice true 1 (.int .i64 0) 0 []),
 oS 3 (.move (.l 0))]
theorem a36r1_ev : Ev a36r1 (value_of% a36r1) := fun _ _ => rfl
def a36r2 : List AOper := [oS 4 (.move (.c (.int .i64 0)))]
theorem a36r2_ev : Ev a36r2 (value_of% a36r2) := fun _ _ => rfl
def a36r3 : List AOper := [oN (.move (.v 4)),
 oN (.move (.v 0)),
 oN (.len 0 (.l 1)),
 oS 5 (.bin .lss (.l 0) (.l 2))]
theorem a36r3_ev : Ev a36r3 (value_of% a36r3) := fun _ _ => rfl
def a36r5 : List AOper := [oN (.move (.v 0)),
 oN (.move (.v 4)),
 oN (.indexAddr 3 (.l 0) (.l 1)),
 oN (.fieldAddr 1 1 (.l 2)),
 oN (.load false 1 (.l 3)),
 oN (.move (.v 1)),
 oS 6 (.bin .eql (.l 4) (.l 5))]
theorem a36r5_ev : Ev a36r5 (value_of% a36r5) := fun _ _ => rfl
def a36r6 : List AOper := [oN (.move (.v 3)),
 oN (.move (.v 0)),
 oN (.move (.v 4)),
 oN (.indexAddr 3 (.l 1) (.l 2)),
 oN (.fieldAddr 0 0 (.l 3)),
 oN (.load false 1 (.l 4)),
 oN (.bslice false 1 (.int .i64 0) 1 [(0, .l 5)]),
 oN (.append 1 8 (.l 0) (.l 6)),
 oS 3 (.move (.l 7))]
theorem a36r6_ev : Ev a36r6 (value_of% a36r6) := fun _ _ => rfl
def a36r4 : List AOper := [oN (.move (.v 4)),
 oN (.bin .add (.l 0) (.c (.int .i64 1))),
 oS 4 (.move (.l 1))]
theorem a36r4_ev : Ev a36r4 (value_of% a36r4) := fun _ _ => rfl
def a36b0 : AIR := .seq (.seq (.region a36r3 false) (.cond (.v 5) (.skip) (.exit 0))) (.seq (.block 1 (.seq (.region a36r5 false) (.cond (.v 6) (.region a36r6 false) (.skip)))) (.region a36r4 false))
def a36l0 : AIR := .loop true [0, 1, 2, 3, 4] a36b0
theorem a36l0_run {E GP} (st) : run E GP a36l0 st = loopK (run E GP) a36l0 st.heap.length true [0, 1, 2, 3, 4] st.rs (run E GP a36b0 { vars := st.vars, heap := st.heap, rs := false }) := run_loop _ _ _ _
def a36r7 : List AOper := [oN (.move (.v 3)),
 oS 2 (.move (.l 0))]
theorem a36r7_ev : Ev a36r7 (value_of% a36r7) := fun _ _ => rfl
def a36 : AFun := .mk .iso 2 7 [.v 2] (.seq (.region a36r0 false) (.seq (.region a36r1 false) (.seq (.seq (.region a36r2 false) (.block 0 (a36l0))) (.seq (.region a36r7 false) (.ret)))))
def a39r0 : List AOper := [oS 2 (.move (.c (.isl [])))]
theorem a39r0_ev : Ev a39r0 (value_of% a39r0) := fun _ _ => rfl
def a39r1 : List AOper := [oN (.move (.v 1)),
 oN (.move (.v 0)),
 oN (.call 46 [.c (.int .i64 1), .l 0, .l 1]),
 oN (.field 2 2 false 1 (.l 2)),
 oN (.indexAddr 1 (.l 3) (.c (.int .i64 0))),
 oN (.load false 1 (.l 4)),
 oS 2 (.move (.l 5))]
theorem a39r1_ev : Ev a39r1 (value_of% a39r1) := fun _ _ => rfl
def a39 : AFun := .mk .iso 2 3 [.v 2] (.seq (.region a39r0 false) (.seq (.region a39r1 false) (.ret)))
def a24r0 : List AOper := [oS 3 (.move (.c (.isl []))),
 oS 4 (.move (.c (.int .i64 0)))]
theorem a24r0_ev : Ev a24r0 (value_of% a24r0) := fun _ _ => rfl
def a24r1 : List AOper := [oN (.move (.v 0)),
 oN (.move (.v 1)),
 oN (.call 35 [.l 0, .l 1]),
 oS 5 (.move (.l 2))]
theorem a24r1_ev : Ev a24r1 (value_of% a24r1) := fun _ _ => rfl
def a24r2 : List AOper := [oN (.move (.v 5)),
 oN (.len 0 (.l 0)),
 oN (.move (.v 2)),
 oN (.len 0 (.l 2)),
 oS 9 (.bin .neq (.l 1) (.l 3))]
theorem a24r2_ev : Ev a24r2 (value_of% a24r2) := fun _ _ => rfl
def a24r3 : List AOper := [oS 3 (.move (.c (.isl []))),
 oS 4 (.move (.c (.int .i64 50)))]
theorem a24r3_ev : Ev a24r3 (value_of% a24r3) := fun _ _ => rfl
def a24r4 : List AOper := [oN (.mkmap),
 oS 6 (.move (.l 0))]
theorem a24r4_ev : Ev a24r4 (value_of% a24r4) := fun _ _ => rfl
def a24r5 : List AOper := [oS 10 (.move (.v 5)),
 oS 11 (.len 0 (.l 0)),
 oS 12 (.move (.c (.int .i64 0)))]
theorem a24r5_ev : Ev a24r5 (value_of% a24r5) := fun _ _ => rfl
def a24r6 : List AOper := [oS 13 (.bin .lss (.v 12) (.v 11))]
theorem a24r6_ev : Ev a24r6 (value_of% a24r6) := fun _ _ => rfl
def a24r7 : List AOper := [oN (.move (.v 12)),
 oN (.indexAddr 1 (.v 10) (.v 12)),
 oN (.load false 1 (.l 1)),
 oS 7 (.move (.l 0)),
 oS 8 (.move (.l 2))]
theorem a24r7_ev : Ev a24r7 (value_of% a24r7) := fun _ _ => rfl
def a24r8 : List AOper := [oN (.move (.v 6)),
 oN (.move (.v 8)),
 oN (.move (.v 2)),
 oN (.move (.v 7)),
 oN (.indexAddr 2 (.l 2) (.l 3)),
 oN (.load true 2 (.l 4)),
 oN (.call 33 [.l 0, .l 1, .l 5])]
theorem a24r8_ev : Ev a24r8 (value_of% a24r8) := fun _ _ => rfl
def a24r9 : List AOper := [oN (.bin .add (.v 12) (.c (.int .i64 1))),
 oS 12 (.move (.l 0))]
theorem a24r9_ev : Ev a24r9 (value_of% a24r9) := fun _ _ => rfl
def a24b0 : AIR := .seq (.region a24r6 false) (.seq (.cond (.v 13) (.skip) (.exit 0)) (.seq (.block 1 (.seq (.region a24r7 false) (.region a24r8 false))) (.region a24r9 false)))
def a24l0 : AIR := .loop true [0, 1, 2, 3, 4, 5, 6, 9, 10, 11, 12] a24b0
theorem a24l0_run {E GP} (st) : run E GP a24l0 st = loopK (run E GP) a24l0 st.heap.length true [0, 1, 2, 3, 4, 5, 6, 9, 10, 11, 12] st.rs (run E GP a24b0 { vars := st.vars, heap := st.heap, rs := false }) := run_loop _ _ _ _
def a24r10 : List AOper := [oN (.move (.v 6)),
 oN (.call 34 [.l 0]),
 oS 3 (.move (.l 1)),
 oS 4 (.move (.c (.int .i64 0)))]
theorem a24r10_ev : Ev a24r10 (value_of% a24r10) := fun _ _ => rfl
def a24 : AFun := .mk .iso 3 14 [.v 3, .v 4] (.seq (.region a24r0 false) (.seq (.region a24r1 false) (.seq (.seq (.region a24r2 false) (.cond (.v 9) (.seq (.region a24r3 false) (.ret)) (.skip))) (.seq (.region a24r4 false) (.seq (.seq (.region a24r5 false) (.block 0 (a24l0))) (.seq (.region a24r10 false) (.ret)))))))
def a58r0 : List AOper := [oS 3 (.move (.c (.isl []))),
 oS 4 (.move (.c (.int .i64 0)))]
theorem a58r0_ev : Ev a58r0 (value_of% a58r0) := fun _ _ => rfl
def a58r1 : List AOper := [oN (.move (.v 0)),
 oN (.move (.v 1)),
 oN (.call 36 [.l 0, .l 1]),
 oS 5 (.move (.l 2))]
theorem a58r1_ev : Ev a58r1 (value_of% a58r1) := fun _ _ => rfl
def a58r2 : List AOper := [oN (.move (.v 2)),
 oN (.len 0 (.l 0)),
 oN (.move (.v 5)),
 oN (.len 0 (.l 2)),
 oS 8 (.bin .neq (.l 1) (.l 3))]
theorem a58r2_ev : Ev a58r2 (value_of% a58r2) := fun _ _ => rfl
def a58r3 : List AOper := [oS 3 (.move (.c (.isl []))),
 oS 4 (.move (.c (.int .i64 50)))]
theorem a58r3_ev : Ev a58r3 (value_of% a58r3) := fun _ _ => rfl
def a58r4 : List AOper := [oN (.bslice false 3 (.agg [.int .i64 0, .agg [.bool false, .isl []]]) 0 []),
 oS 6 (.move (.l 0))]
theorem a58r4_ev : Ev a58r4 (value_of% a58r4) := fun _ _ => rfl
def a58r5 : List AOper := [oS 7 (.move (.c (.int .i64 0)))]
theorem a58r5_ev : Ev a58r5 (value_of% a58r5) := fun _ _ => rfl
def a58r6 : List AOper := [oN (.move (.v 7)),
 oN (.move (.v 2)),
 oN (.len 0 (.l 1)),
 oS 9 (.bin .lss (.l 0) (.l 2))]
theorem a58r6_ev : Ev a58r6 (value_of% a58r6) := fun _ _ => rfl
def a58r8 : List AOper := [oN (.move (.v 6)),
 oN (.move (.v 5)),
 oN (.move (.v 7)),
 oN (.indexAddr 1 (.l 1) (.l 2)),
 oN (.load false 1 (.l 3)),
 oN (.move (.v 2)),
 oN (.move (.v 7)),
 oN (.indexAddr 2 (.l 5) (.l 6)),
 oN (.load true 2 (.l 7)),
 oN (.build [.int .i64 0, .agg [.bool false, .isl []]] [(0, .l 4), (1, .l 8)]),
 oN (.call 29 [.l 0, .l 9]),
 oS 6 (.move (.l 10))]
theorem a58r8_ev : Ev a58r8 (value_of% a58r8) := fun _ _ => rfl
def a58r7 : List AOper := [oN (.move (.v 7)),
 oN (.bin .add (.l 0) (.c (.int .i64 1))),
 oS 7 (.move (.l 1))]
theorem a58r7_ev : Ev a58r7 (value_of% a58r7) := fun _ _ => rfl
def a58b0 : AIR := .seq (.seq (.region a58r6 false) (.cond (.v 9) (.skip) (.exit 0))) (.seq (.block 1 (.region a58r8 true)) (.region a58r7 false))
def a58l0 : AIR := .loop true [0, 1, 2, 3, 4, 5, 6, 7, 8] a58b0
theorem a58l0_run {E GP} (st) : run E GP a58l0 st = loopK (run E GP) a58l0 st.heap.length true [0, 1, 2, 3, 4, 5, 6, 7, 8] st.rs (run E GP a58b0 { vars := st.vars, heap := st.heap, rs := false }) := run_loop _ _ _ _
def a58r9 : List AOper := [oN (.move (.v 6)),
 oS 3 (.move (.l 0)),
 oS 4 (.move (.c (.int .i64 0)))]
theorem a58r9_ev : Ev a58r9 (value_of% a58r9) := fun _ _ => rfl
def a58 : AFun := .mk .iso 3 10 [.v 3, .v 4] (.seq (.region a58r0 false) (.seq (.region a58r1 false) (.seq (.seq (.region a58r2 false) (.cond (.v 8) (.seq (.region a58r3 false) (.ret)) (.skip))) (.seq (.region a58r4 false) (.seq (.seq (.region a58r5 false) (.block 0 (a58l0))) (.seq (.region a58r9 false) (.ret)))))))
def a21r0 : List AOper := [oS 6 (.cn (.agg [.int .i64 0, .int .i64 0, .nl]))]
theorem a21r0_ev : Ev a21r0 (value_of% a21r0) := fun _ _ => rfl
def a21r1 : List AOper := [oN (.bslice false 3 (.agg [.int .i64 0, .agg [.bool false, .isl []]]) 0 []),
 oS 3 (.move (.l 0))]
theorem a21r1_ev : Ev a21r1 (value_of% a21r1) := fun _ _ => rfl
def a21r2 : List AOper := [oS 4 (.move (.c (.int .i64 0)))]
theorem a21r2_ev : Ev a21r2 (value_of% a21r2) := fun _ _ => rfl
def a21r3 : List AOper := [oN (.move (.v 4)),
 oN (.bin .add (.l 0) (.c (.int .i64 1))),
 oN (.move (.v 2)),
 oN (.len 0 (.l 2)),
 oS 5 (.bin .lss (.l 1) (.l 3))]
theorem a21r3_ev : Ev a21r3 (value_of% a21r3) := fun _ _ => rfl
def a21r5 : List AOper := [oN (.move (.v 3)),
 oN (.move (.v 2)),
 oN (.move (.v 4)),
 oN (.indexAddr 1 (.l 1) (.l 2)),
 oN (.load false 1 (.l 3)),
 oN (.move (.v 2)),
 oN (.move (.v 4)),
 oN (.bin .add (.l 6) (.c (.int .i64 1))),
 oN (.indexAddr 1 (.l 5) (.l 7)),
 oN (.load false 1 (.l 8)),
 oN (.call 14 [.l 9]),
 oN (.build [.int .i64 0, .agg [.bool false, .isl []]] [(0, .l 4), (1, .l 10)]),
 oN (.call 29 [.l 0, .l 11]),
 oS 3 (.move (.l 12))]
theorem a21r5_ev : Ev a21r5 (value_of% a21r5) := fun _ _ => rfl
def a21r4 : List AOper := [oN (.move (.v 4)),
 oN (.bin .add (.l 0) (.c (.int .i64 2))),
 oS 4 (.move (.l 1))]
theorem a21r4_ev : Ev a21r4 (value_of% a21r4) := fun _ _ => rfl
def a21b0 : AIR := .seq (.seq (.region a21r3 false) (.cond (.v 5) (.skip) (.exit 0))) (.seq (.block 1 (.region a21r5 true)) (.region a21r4 false))
def a21l0 : AIR := .loop true [0, 1, 2, 3, 4, 6] a21b0
theorem a21l0_run {E GP} (st) : run E GP a21l0 st = loopK (run E GP) a21l0 st.heap.length true [0, 1, 2, 3, 4, 6] st.rs (run E GP a21b0 { vars := st.vars, heap := st.heap, rs := false }) := run_loop _ _ _ _
def a21r6 : List AOper := [oN (.move (.v 0)),
 oN (.move (.v 1)),
 oN (.move (.v 3)),
 oN (.build [.int .i64 0, .int .i64 0, .nl] [(0, .l 0), (1, .l 1), (2, .l 2)]),
 oS 6 (.cs 3 (.v 6) (.l 3))]
theorem a21r6_ev : Ev a21r6 (value_of% a21r6) := fun _ _ => rfl
def a21 : AFun := .mk .iso 3 7 [.c 6 true 3] (.seq (.region a21r0 false) (.seq (.region a21r1 false) (.seq (.seq (.region a21r2 false) (.block 0 (a21l0))) (.seq (.region a21r6 false) (.ret)))))
def a22r0 : List AOper := [oS 1 (.move (.c (.isl [])))]
theorem a22r0_ev : Ev a22r0 (value_of% a22r0) := fun _ _ => rfl
def a22r1 : List AOper := [oN (.mkmap),
 oS 2 (.move (.l 0))]
theorem a22r1_ev : Ev a22r1 (value_of% a22r1) := fun _ _ => rfl
def a22r2 : List AOper := [oS 3 (.move (.v 0)),
 oS 4 (.len 0 (.l 0)),
 oS 5 (.move (.c (.int .i64 0)))]
theorem a22r2_ev : Ev a22r2 (value_of% a22r2) := fun _ _ => rfl
def a22r3 : List AOper := [oS 6 (.bin .lss (.v 5) (.v 4))]
theorem a22r3_ev : Ev a22r3 (value_of% a22r3) := fun _ _ => rfl
def a22r4 : List AOper := [oN (.indexAddr 3 (.v 3) (.v 5)),
 oN (.load true 3 (.l 0)),
 oS 7 (.cn (.agg [.int .i64 0, .agg [.bool false, .isl []]])),
 oS 7 (.cs 3 (.l 2) (.l 1))]
theorem a22r4_ev : Ev a22r4 (value_of% a22r4) := fun _ _ => rfl
def a22r5 : List AOper := [oN (.move (.v 2)),
 oN (.ca (.v 7)),
 oN (.field 0 0 false 1 (.v 7)),
 oN (.ca (.v 7)),
 oN (.field 1 1 true 2 (.v 7)),
 oN (.call 33 [.l 0, .l 2, .l 4])]
theorem a22r5_ev : Ev a22r5 (value_of% a22r5) := fun _ _ => rfl
def a22r6 : List AOper := [oN (.bin .add (.v 5) (.c (.int .i64 1))),
 oS 5 (.move (.l 0))]
theorem a22r6_ev : Ev a22r6 (value_of% a22r6) := fun _ _ => rfl
def a22b0 : AIR := .seq (.region a22r3 false) (.seq (.cond (.v 6) (.skip) (.exit 0)) (.seq (.block 1 (.seq (.region a22r4 false) (.region a22r5 false))) (.region a22r6 false)))
def a22l0 : AIR := .loop true [0, 1, 2, 3, 4, 5] a22b0
theorem a22l0_run {E GP} (st) : run E GP a22l0 st = loopK (run E GP) a22l0 st.heap.length true [0, 1, 2, 3, 4, 5] st.rs (run E GP a22b0 { vars := st.vars, heap := st.heap, rs := false }) := run_loop _ _ _ _
def a22r7 : List AOper := [oN (.move (.v 2)),
 oN (.call 34 [.l 0]),
 oS 1 (.move (.l 1))]
theorem a22r7_ev : Ev a22r7 (value_of% a22r7) := fun _ _ => rfl
def a22 : AFun := .mk .iso 1 8 [.v 1] (.seq (.region a22r0 false) (.seq (.region a22r1 false) (.seq (.seq (.region a22r2 false) (.block 0 (a22l0))) (.seq (.region a22r7 false) (.ret)))))
def a23r0 : List AOper := [oS 1 (.move (.c (.isl [])))]
theorem a23r0_ev : Ev a23r0 (value_of% a23r0) := fun _ _ => rfl
def a23r1 : List AOper := [oN (.move (.v 0)),
 oN (.call 21 [.c (.int .i64 0), .c (.int .i64 0), .l 0]),
 oN (.field 2 2 false 1 (.l 1)),
 oS 1 (.move (.l 2))]
theorem a23r1_ev : Ev a23r1 (value_of% a23r1) := fun _ _ => rfl
def a23 : AFun := .mk .iso 1 2 [.v 1] (.seq (.region a23r0 false) (.seq (.region a23r1 false) (.ret)))
def a25r0 : List AOper := [oS 13 (.cb (.v 2)),
 oS 3 (.move (.c (.isl [])))]
theorem a25r0_ev : Ev a25r0 (value_of% a25r0) := fun _ _ => rfl
def a25r1 : List AOper := [oN (.mkmap),
 oS 4 (.move (.l 0))]
theorem a25r1_ev : Ev a25r1 (value_of% a25r1) := fun _ _ => rfl
def a25r2 : List AOper := [oS 5 (.move (.v 0)),
 oS 6 (.len 0 (.l 0)),
 oS 7 (.move (.c (.int .i64 0)))]
theorem a25r2_ev : Ev a25r2 (value_of% a25r2) := fun _ _ => rfl
def a25r3 : List AOper := [oS 8 (.bin .lss (.v 7) (.v 6))]
theorem a25r3_ev : Ev a25r3 (value_of% a25r3) := fun _ _ => rfl
def a25r4 : List AOper := [oN (.indexAddr 3 (.v 5) (.v 7)),
 oN (.load true 3 (.l 0)),
 oS 14 (.cn (.agg [.int .i64 0, .agg [.bool false, .isl []]])),
 oS 14 (.cs 3 (.l 2) (.l 1))]
theorem a25r4_ev : Ev a25r4 (value_of% a25r4) := fun _ _ => rfl
def a25r5 : List AOper := [oN (.move (.v 4)),
 oN (.ca (.v 14)),
 oN (.field 0 0 false 1 (.v 14)),
 oN (.ca (.v 14)),
 oN (.field 1 1 true 2 (.v 14)),
 oN (.call 33 [.l 0, .l 2, .l 4])]
theorem a25r5_ev : Ev a25r5 (value_of% a25r5) := fun _ _ => rfl
def a25r6 : List AOper := [oN (.bin .add (.v 7) (.c (.int .i64 1))),
 oS 7 (.move (.l 0))]
theorem a25r6_ev : Ev a25r6 (value_of% a25r6) := fun _ _ => rfl
def a25b0 : AIR := .seq (.region a25r3 false) (.seq (.cond (.v 8) (.skip) (.exit 0)) (.seq (.block 1 (.seq (.region a25r4 false) (.region a25r5 false))) (.region a25r6 false)))
def a25l0 : AIR := .loop true [0, 1, 2, 3, 4, 5, 6, 7, 9, 10, 11, 12, 13, 15] a25b0
theorem a25l0_run {E GP} (st) : run E GP a25l0 st = loopK (run E GP) a25l0 st.heap.length true [0, 1, 2, 3, 4, 5, 6, 7, 9, 10, 11, 12, 13, 15] st.rs (run E GP a25b0 { vars := st.vars, heap := st.heap, rs := false }) := run_loop _ _ _ _
def a25r7 : List AOper := [oS 9 (.move (.v 1)),
 oS 10 (.len 0 (.l 0)),
 oS 11 (.move (.c (.int .i64 0)))]
theorem a25r7_ev : Ev a25r7 (value_of% a25r7) := fun _ _ => rfl
def a25r8 : List AOper := [oS 12 (.bin .lss (.v 11) (.v 10))]
theorem a25r8_ev : Ev a25r8 (value_of% a25r8) := fun _ _ => rfl
def a25r9 : List AOper := [oN (.indexAddr 3 (.v 9) (.v 11)),
 oN (.load true 3 (.l 0)),
 oS 15 (.cn (.agg [.int .i64 0, .agg [.bool false, .isl []]])),
 oS 15 (.cs 3 (.l 2) (.l 1))]
theorem a25r9_ev : Ev a25r9 (value_of% a25r9) := fun _ _ => rfl
def a25r10 : List AOper := [oN (.move (.v 4)),
 oN (.ca (.v 15)),
 oN (.field 0 0 false 1 (.v 15)),
 oN (.cl true 2 (.v 13)),
 oN (.ca (.v 15)),
 oN (.field 1 1 true 2 (.v 15)),
 oN (.call 32 [.l 3, .l 5]),
 oN (.call 33 [.l 0, .l 2, .l 6])]
theorem a25r10_ev : Ev a25r10 (value_of% a25r10) := fun _ _ => rfl
def a25r11 : List AOper := [oN (.bin .add (.v 11) (.c (.int .i64 1))),
 oS 11 (.move (.l 0))]
theorem a25r11_ev : Ev a25r11 (value_of% a25r11) := fun _ _ => rfl
def a25b1 : AIR := .seq (.region a25r8 false) (.seq (.cond (.v 12) (.skip) (.exit 2)) (.seq (.block 3 (.seq (.region a25r9 false) (.region a25r10 true))) (.region a25r11 false)))
def a25l1 : AIR := .loop true [0, 1, 2, 3, 4, 5, 6, 7, 8, 9, 10, 11, 13, 14] a25b1
theorem a25l1_run {E GP} (st) : run E GP a25l1 st = loopK (run E GP) a25l1 st.heap.length true [0, 1, 2, 3, 4, 5, 6, 7, 8, 9, 10, 11, 13, 14] st.rs (run E GP a25b1 { vars := st.vars, heap := st.heap, rs := false }) := run_loop _ _ _ _
def a25r12 : List AOper := [oN (.move (.v 4)),
 oN (.call 34 [.l 0]),
 oS 3 (.move (.l 1))]
theorem a25r12_ev : Ev a25r12 (value_of% a25r12) := fun _ _ => rfl
def a25 : AFun := .mk .iso 3 16 [.v 3] (.seq (.region a25r0 false) (.seq (.region a25r1 false) (.seq (.seq (.region a25r2 false) (.block 0 (a25l0))) (.seq (.seq (.region a25r7 false) (.block 2 (a25l1))) (.seq (.region a25r12 false) (.ret))))))
def a26r0 : List AOper := [oS 1 (.move (.c (.bool false)))]
theorem a26r0_ev : Ev a26r0 (value_of% a26r0) := fun _ _ => rfl
def a26r1 : List AOper := [oS 3 (.move (.v 0)),
 oS 4 (.len 0 (.l 0)),
 oS 5 (.move (.c (.int .i64 0)))]
theorem a26r1_ev : Ev a26r1 (value_of% a26r1) := fun _ _ => rfl
def a26r2 : List AOper := [oS 6 (.bin .lss (.v 5) (.v 4))]
theorem a26r2_ev : Ev a26r2 (value_of% a26r2) := fun _ _ => rfl
def a26r3 : List AOper := [oN (.move (.v 5)),
 oN (.indexAddr 3 (.v 3) (.v 5)),
 oN (.load true 3 (.l 1)),
 oS 8 (.cn (.agg [.int .i64 0, .agg [.bool false, .isl []]])),
 oS 2 (.move (.l 0)),
 oS 8 (.cs 3 (.l 3) (.l 2))]
theorem a26r3_ev : Ev a26r3 (value_of% a26r3) := fun _ _ => rfl
def a26r4 : List AOper := [oN (.ca (.v 8)),
 oN (.field 1 1 true 2 (.v 8)),
 oN (.call 47 [.l 1]),
 oN (.un .not (.l 2)),
 oN (.move (.l 3)),
 ⟨none, .ca (.v 8), some (4, false)⟩,
 ⟨none, .field 1 1 true 2 (.v 8), some (4, false)⟩,
 ⟨none, .call 48 [.l 6], some (4, false)⟩,
 ⟨none, .bin .eql (.l 7) (.c (.int .i64 0)), some (4, false)⟩,
 oN (.pick (.l 4) (.c (.bool true)) (.l 8)),
 oN (.move (.l 9)),
 ⟨none, .move (.v 2), some (10, false)⟩,
 ⟨none, .bin .gtr (.l 11) (.c (.int .i64 0)), some (10, false)⟩,
 ⟨none, .move (.l 12), some (10, false)⟩,
 ⟨none, .move (.v 0), some (13, true)⟩,
 ⟨none, .move (.v 2), some (13, true)⟩,
 ⟨none, .bin .sub (.l 15) (.c (.int .i64 1)), some (13, true)⟩,
 ⟨none, .indexAddr 3 (.l 14) (.l 16), some (13, true)⟩,
 ⟨none, .fieldAddr 0 0 (.l 17), some (13, true)⟩,
 ⟨none, .load false 1 (.l 18), some (13, true)⟩,
 ⟨none, .ca (.v 8), some (13, true)⟩,
 ⟨none, .field 0 0 false 1 (.v 8), some (13, true)⟩,
 ⟨none, .bin .geq (.l 19) (.l 21), some (13, true)⟩,
 ⟨none, .pick (.l 13) (.l 22) (.c (.bool false)), some (10, false)⟩,
 oS 7 (.pick (.l 10) (.c (.bool true)) (.l 23))]
theorem a26r4_ev : Ev a26r4 (value_of% a26r4) := fun _ _ => rfl
def a26r5 : List AOper := [oS 1 (.move (.c (.bool false)))]
theorem a26r5_ev : Ev a26r5 (value_of% a26r5) := fun _ _ => rfl
def a26r6 : List AOper := [oN (.bin .add (.v 5) (.c (.int .i64 1))),
 oS 5 (.move (.l 0))]
theorem a26r6_ev : Ev a26r6 (value_of% a26r6) := fun _ _ => rfl
def a26b0 : AIR := .seq (.region a26r2 false) (.seq (.cond (.v 6) (.skip) (.exit 0)) (.seq (.block 1 (.seq (.region a26r3 false) (.seq (.region a26r4 true) (.cond (.v 7) (.seq (.region a26r5 false) (.ret)) (.skip))))) (.region a26r6 false)))
def a26l0 : AIR := .loop true [0, 1, 3, 4, 5] a26b0
theorem a26l0_run {E GP} (st) : run E GP a26l0 st = loopK (run E GP) a26l0 st.heap.length true [0, 1, 3, 4, 5] st.rs (run E GP a26b0 { vars := st.vars, heap := st.heap, rs := false }) := run_loop _ _ _ _
def a26r7 : List AOper := [oS 1 (.move (.c (.bool true)))]
theorem a26r7_ev : Ev a26r7 (value_of% a26r7) := fun _ _ => rfl
def a26 : AFun := .mk .iso 1 9 [.v 1] (.seq (.region a26r0 false) (.seq (.seq (.region a26r1 false) (.block 0 (a26l0))) (.seq (.region a26r7 false) (.ret))))
def a27r0 : List AOper := [oS 1 (.move (.c (.isl [])))]
theorem a27r0_ev : Ev a27r0 (value_of% a27r0) := fun _ _ => rfl
def a27r1 : List AOper := [oN (.call 21 [.c (.int .i64 1), .c (.int .i64 0), .c (.isl [])]),
 oN (.call 21 [.c (.int .i64 2), .c (.int .i64 1), .c (.isl [])]),
 oS 17 (.cn (.agg [.int .i64 0, .int .i64 0, .nl])),
 oS 18 (.cn (.agg [.int .i64 0, .int .i64 0, .nl])),
 oS 17 (.cs 3 (.l 2) (.l 0)),
 oS 18 (.cs 3 (.l 3) (.l 1))]
theorem a27r1_ev : Ev a27r1 (value_of% a27r1) := fun _ _ => rfl
def a27r2 : List AOper := [oN (.cl true 3 (.v 17)),
 oN (.call 21 [.c (.int .i64 2), .c (.int .i64 0), .c (.isl [])]),
 oN (.call 21 [.c (.int .i64 3), .c (.int .i64 0), .c (.isl [])]),
 oN (.bslice false 1 (.int .i64 0) 4 [(0, .c (.int .i64 1)), (1, .c (.int .i64 (-1))), (2, .c (.int .i64 2)), (3, .c (.int .i64 1))]),
 oN (.call 21 [.c (.int .i64 4), .c (.int .i64 1), .l 3]),
 oN (.bslice false 1 (.int .i64 0) 4 [(0, .c (.int .i64 2)), (1, .c (.int .i64 (-1))), (2, .c (.int .i64 3)), (3, .c (.int .i64 1))]),
 oN (.call 21 [.c (.int .i64 5), .c (.int .i64 1), .l 5]),
 oN (.bslice false 1 (.int .i64 0) 4 [(0, .c (.int .i64 1)), (1, .c (.int .i64 1)), (2, .c (.int .i64 3)), (3, .c (.int .i64 (-1)))]),
 oN (.call 21 [.c (.int .i64 6), .c (.int .i64 1), .l 7]),
 oN (.bslice true 3 (.agg [.int .i64 0, .int .i64 0, .nl]) 6 [(0, .l 0), (1, .l 1), (2, .l 2), (3, .l 4), (4, .l 6), (5, .l 8)]),
 oS 2 (.move (.l 9))]
theorem a27r2_ev : Ev a27r2 (value_of% a27r2) := fun _ _ => rfl
def a27r3 : List AOper := [oN (.move (.v 0)),
 oS 3 (.bin .rem (.l 0) (.c (.int .u8 14)))]
theorem a27r3_ev : Ev a27r3 (value_of% a27r3) := fun _ _ => rfl
def a27r4 : List AOper := [oN (.bin .eql (.v 3) (.c (.int .u8 1))),
 oS 4 (.move (.l 0))]
theorem a27r4_ev : Ev a27r4 (value_of% a27r4) := fun _ _ => rfl
def a27r5 : List AOper := [oN (.cl true 3 (.v 17)),
 oN (.bslice false 3 (.agg [.int .i64 0, .int .i64 0, .nl]) 1 [(0, .l 0)]),
 oS 1 (.move (.l 1))]
theorem a27r5_ev : Ev a27r5 (value_of% a27r5) := fun _ _ => rfl
def a27r6 : List AOper := [oN (.bin .eql (.v 3) (.c (.int .u8 2))),
 oS 5 (.move (.l 0))]
theorem a27r6_ev : Ev a27r6 (value_of% a27r6) := fun _ _ => rfl
def a27r7 : List AOper := [oN (.cl true 3 (.v 17)),
 oN (.call 21 [.c (.int .i64 7), .c (.int .i64 0), .c (.isl [])]),
 oN (.bslice false 3 (.agg [.int .i64 0, .int .i64 0, .nl]) 2 [(0, .l 0), (1, .l 1)]),
 oS 1 (.move (.l 2))]
theorem a27r7_ev : Ev a27r7 (value_of% a27r7) := fun _ _ => rfl
def a27r8 : List AOper := [oN (.bin .eql (.v 3) (.c (.int .u8 3))),
 oS 6 (.move (.l 0))]
theorem a27r8_ev : Ev a27r8 (value_of% a27r8) := fun _ _ => rfl
def a27r9 : List AOper := [oN (.cl true 3 (.v 17)),
 oN (.call 21 [.c (.int .i64 2), .c (.int .i64 0), .c (.isl [])]),
 oN (.bslice false 1 (.int .i64 0) 4 [(0, .c (.int .i64 1)), (1, .c (.int .i64 (-1))), (2, .c (.int .i64 2)), (3, .c (.int .i64 1))]),
 oN (.call 21 [.c (.int .i64 3), .c (.int .i64 1), .l 2]),
 oN (.bslice false 3 (.agg [.int .i64 0, .int .i64 0, .nl]) 3 [(0, .l 0), (1, .l 1), (2, .l 3)]),
 oS 1 (.move (.l 4))]
theorem a27r9_ev : Ev a27r9 (value_of% a27r9) := fun _ _ => rfl
def a27r10 : List AOper := [oN (.bin .eql (.v 3) (.c (.int .u8 4))),
 oS 7 (.move (.l 0))]
theorem a27r10_ev : Ev a27r10 (value_of% a27r10) := fun _ _ => rfl
def a27r11 : List AOper := [oN (.cl true 3 (.v 17)),
 oN (.cl true 3 (.v 18)),
 oN (.bslice false 3 (.agg [.int .i64 0, .int .i64 0, .nl]) 2 [(0, .l 0), (1, .l 1)]),
 oS 1 (.move (.l 2))]
theorem a27r11_ev : Ev a27r11 (value_of% a27r11) := fun _ _ => rfl
def a27r12 : List AOper := [oN (.bin .eql (.v 3) (.c (.int .u8 5))),
 oS 8 (.move (.l 0))]
theorem a27r12_ev : Ev a27r12 (value_of% a27r12) := fun _ _ => rfl
def a27r13 : List AOper := [oN (.move (.v 2)),
 oS 1 (.move (.l 0))]
theorem a27r13_ev : Ev a27r13 (value_of% a27r13) := fun _ _ => rfl
def a27r14 : List AOper := [oN (.bin .eql (.v 3) (.c (.int .u8 6))),
 oS 9 (.move (.l 0))]
theorem a27r14_ev : Ev a27r14 (value_of% a27r14) := fun _ _ => rfl
def a27r15 : List AOper := [oN (.move (.v 2)),
 oN (.bslice false 1 (.int .i64 0) 6 [(0, .c (.int .i64 4)), (1, .c (.int .i64 1)), (2, .c (.int .i64 5)), (3, .c (.int .i64 1)), (4, .c (.int .i64 6)), (5, .c (.int .i64 1))]),
 oN (.call 21 [.c (.int .i64 9), .c (.int .i64 2), .l 1]),
 oN (.bslice false 3 (.agg [.int .i64 0, .int .i64 0, .nl]) 1 [(0, .l 2)]),
 oN (.append 3 40 (.l 0) (.l 3)),
 oS 1 (.move (.l 4))]
theorem a27r15_ev : Ev a27r15 (value_of% a27r15) := fun _ _ => rfl
def a27r16 : List AOper := [oN (.bin .eql (.v 3) (.c (.int .u8 7))),
 oS 10 (.move (.l 0))]
theorem a27r16_ev : Ev a27r16 (value_of% a27r16) := fun _ _ => rfl
def a27r17 : List AOper := [oN (.cl true 3 (.v 17)),
 oN (.call 21 [.c (.int .i64 2), .c (.int .i64 2), .c (.isl [])]),
 oN (.bslice false 3 (.agg [.int .i64 0, .int .i64 0, .nl]) 2 [(0, .l 0), (1, .l 1)]),
 oS 1 (.move (.l 2))]
theorem a27r17_ev : Ev a27r17 (value_of% a27r17) := fun _ _ => rfl
def a27r18 : List AOper := [oN (.bin .eql (.v 3) (.c (.int .u8 8))),
 oS 11 (.move (.l 0))]
theorem a27r18_ev : Ev a27r18 (value_of% a27r18) := fun _ _ => rfl
def a27r19 : List AOper := [oN (.cl true 3 (.v 17)),
 oN (.cl true 3 (.v 18)),
 oN (.call 21 [.c (.int .i64 3), .c (.int .i64 1), .c (.isl [])]),
 oN (.call 21 [.c (.int .i64 4), .c (.int .i64 2), .c (.isl [])]),
 oN (.bslice false 3 (.agg [.int .i64 0, .int .i64 0, .nl]) 4 [(0, .l 0), (1, .l 1), (2, .l 2), (3, .l 3)]),
 oS 1 (.move (.l 4))]
theorem a27r19_ev : Ev a27r19 (value_of% a27r19) := fun _ _ => rfl
def a27r20 : List AOper := [oN (.bin .eql (.v 3) (.c (.int .u8 9))),
 oS 12 (.move (.l 0))]
theorem a27r20_ev : Ev a27r20 (value_of% a27r20) := fun _ _ => rfl
def a27r21 : List AOper := [oN (.cl true 3 (.v 17)),
 oN (.cl true 3 (.v 18)),
 oN (.bslice false 1 (.int .i64 0) 2 [(0, .c (.int .i64 2)), (1, .c (.int .i64 2))]),
 oN (.call 21 [.c (.int .i64 3), .c (.int .i64 2), .l 2]),
 oN (.bslice false 3 (.agg [.int .i64 0, .int .i64 0, .nl]) 3 [(0, .l 0), (1, .l 1), (2, .l 3)]),
 oS 1 (.move (.l 4))]
theorem a27r21_ev : Ev a27r21 (value_of% a27r21) := fun _ _ => rfl
def a27r22 : List AOper := [oN (.bin .eql (.v 3) (.c (.int .u8 10))),
 oS 13 (.move (.l 0))]
theorem a27r22_ev : Ev a27r22 (value_of% a27r22) := fun _ _ => rfl
def a27r23 : List AOper := [oN (.cl true 3 (.v 17)),
 oN (.cl true 3 (.v 18)),
 oN (.call 21 [.c (.int .i64 3), .c (.int .i64 1), .c (.isl [])]),
 oN (.bslice false 1 (.int .i64 0) 2 [(0, .c (.int .i64 2)), (1, .c (.int .i64 2))]),
 oN (.call 21 [.c (.int .i64 4), .c (.int .i64 2), .l 3]),
 oN (.bslice false 3 (.agg [.int .i64 0, .int .i64 0, .nl]) 4 [(0, .l 0), (1, .l 1), (2, .l 2), (3, .l 4)]),
 oS 1 (.move (.l 5))]
theorem a27r23_ev : Ev a27r23 (value_of% a27r23) := fun _ _ => rfl
def a27r24 : List AOper := [oN (.bin .eql (.v 3) (.c (.int .u8 11))),
 oS 14 (.move (.l 0))]
theorem a27r24_ev : Ev a27r24 (value_of% a27r24) := fun _ _ => rfl
def a27r25 : List AOper := [oN (.cl true 3 (.v 17)),
 oN (.cl true 3 (.v 18)),
 oN (.bslice false 1 (.int .i64 0) 2 [(0, .c (.int .i64 2)), (1, .c (.int .i64 3))]),
 oN (.call 21 [.c (.int .i64 3), .c (.int .i64 2), .l 2]),
 oN (.call 21 [.c (.int .i64 4), .c (.int .i64 3), .c (.isl [])]),
 oN (.bslice false 3 (.agg [.int .i64 0, .int .i64 0, .nl]) 4 [(0, .l 0), (1, .l 1), (2, .l 3), (3, .l 4)]),
 oS 1 (.move (.l 5))]
theorem a27r25_ev : Ev a27r25 (value_of% a27r25) := fun _ _ => rfl
def a27r26 : List AOper := [oN (.bin .eql (.v 3) (.c (.int .u8 12))),
 oS 15 (.move (.l 0))]
theorem a27r26_ev : Ev a27r26 (value_of% a27r26) := fun _ _ => rfl
def a27r27 : List AOper := [oN (.cl true 3 (.v 17)),
 oN (.cl true 3 (.v 18)),
 oN (.bslice false 1 (.int .i64 0) 2 [(0, .c (.int .i64 2)), (1, .c (.int .i64 4))]),
 oN (.call 21 [.c (.int .i64 3), .c (.int .i64 2), .l 2]),
 oN (.bslice false 1 (.int .i64 0) 2 [(0, .c (.int .i64 2)), (1, .c (.int .i64 6))]),
 oN (.call 21 [.c (.int .i64 4), .c (.int .i64 2), .l 4]),
 oN (.bslice false 3 (.agg [.int .i64 0, .int .i64 0, .nl]) 4 [(0, .l 0), (1, .l 1), (2, .l 3), (3, .l 5)]),
 oS 1 (.move (.l 6))]
theorem a27r27_ev : Ev a27r27 (value_of% a27r27) := fun _ _ => rfl
def a27r28 : List AOper := [oN (.bin .eql (.v 3) (.c (.int .u8 13))),
 oS 16 (.move (.l 0))]
theorem a27r28_ev : Ev a27r28 (value_of% a27r28) := fun _ _ => rfl
def a27r29 : List AOper := [oN (.cl true 3 (.v 17)),
 oN (.cl true 3 (.v 18)),
 oN (.call 21 [.c (.int .i64 3), .c (.int .i64 0), .c (.isl [])]),
 oN (.call 21 [.c (.int .i64 5), .c (.int .i64 1), .c (.isl [])]),
 oN (.bslice false 1 (.int .i64 0) 2 [(0, .c (.int .i64 5)), (1, .c (.int .i64 2))]),
 oN (.call 21 [.c (.int .i64 6), .c (.int .i64 2), .l 4]),
 oN (.bslice false 3 (.agg [.int .i64 0, .int .i64 0, .nl]) 5 [(0, .l 0), (1, .l 1), (2, .l 2), (3, .l 3), (4, .l 5)]),
 oS 1 (.move (.l 6))]
theorem a27r29_ev : Ev a27r29 (value_of% a27r29) := fun _ _ => rfl
def a27r30 : List AOper := [oS 1 (.move (.c (.isl [])))]
theorem a27r30_ev : Ev a27r30 (value_of% a27r30) := fun _ _ => rfl
def a27 : AFun := .mk .iso 1 19 [.v 1] (.seq (.region a27r0 false) (.seq (.region a27r1 false) (.seq (.region a27r2 true) (.seq (.seq (.region a27r3 false) (.block 0 (.seq (.region a27r4 false) (.cond (.v 4) (.seq (.region a27r5 false) (.ret)) (.seq (.region a27r6 false) (.cond (.v 5) (.seq (.region a27r7 true) (.ret)) (.seq (.region a27r8 false) (.cond (.v 6) (.seq (.region a27r9 true) (.ret)) (.seq (.region a27r10 false) (.cond (.v 7) (.seq (.region a27r11 false) (.ret)) (.seq (.region a27r12 false) (.cond (.v 8) (.seq (.region a27r13 false) (.ret)) (.seq (.region a27r14 false) (.cond (.v 9) (.seq (.region a27r15 false) (.ret)) (.seq (.region a27r16 false) (.cond (.v 10) (.seq (.region a27r17 true) (.ret)) (.seq (.region a27r18 false) (.cond (.v 11) (.seq (.region a27r19 true) (.ret)) (.seq (.region a27r20 false) (.cond (.v 12) (.seq (.region a27r21 true) (.ret)) (.seq (.region a27r22 false) (.cond (.v 13) (.seq (.region a27r23 true) (.ret)) (.seq (.region a27r24 false) (.cond (.v 14) (.seq (.region a27r25 true) (.ret)) (.seq (.region a27r26 false) (.cond (.v 15) (.seq (.region a27r27 true) (.ret)) (.seq (.region a27r28 false) (.cond (.v 16) (.seq (.region a27r29 true) (.ret)) (.skip))))))))))))))))))))))))))))) (.seq (.region a27r30 false) (.ret))))))
def a28r0 : List AOper := [oS 2 (.box false (.v 1)),
 oS 3 (.move (.c (.isl [])))]
theorem a28r0_ev : Ev a28r0 (value_of% a28r0) := fun _ _ => rfl
def a28r1 : List AOper := [oN (.indexArr 4 1 (.v 2) (.c (.int .i64 0))),
 oN (.load false 1 (.l 0)),
 oN (.conv .u8 (.l 1)),
 oN (.bin .rem (.l 2) (.c (.int .u8 4))),
 oN (.conv .i64 (.l 3)),
 oN (.bslice false 3 (.agg [.int .i64 0, .agg [.bool false, .isl []]]) 0 []),
 oS 4 (.move (.l 4)),
 oS 5 (.move (.l 5)),
 oS 6 (.move (.c (.int .i64 1)))]
theorem a28r1_ev : Ev a28r1 (value_of% a28r1) := fun _ _ => rfl
def a28r2 : List AOper := [oN (.move (.v 0)),
 oN (.move (.v 4)),
 oN (.bin .sub (.l 1) (.c (.int .i64 1))),
 oN (.call 121 [.l 0, .l 2]),
 oS 7 (.move (.l 3))]
theorem a28r2_ev : Ev a28r2 (value_of% a28r2) := fun _ _ => rfl
def a28r3 : List AOper := [oS 8 (.move (.c (.int .i64 0)))]
theorem a28r3_ev : Ev a28r3 (value_of% a28r3) := fun _ _ => rfl
def a28r4 : List AOper := [oN (.move (.v 8)),
 oN (.move (.v 7)),
 oN (.len 0 (.l 1)),
 oN (.bin .lss (.l 0) (.l 2)),
 oN (.move (.l 3)),
 ⟨none, .move (.v 8), some (4, true)⟩,
 ⟨none, .bin .lss (.l 5) (.c (.int .i64 3)), some (4, true)⟩,
 oS 10 (.pick (.l 4) (.l 6) (.c (.bool false)))]
theorem a28r4_ev : Ev a28r4 (value_of% a28r4) := fun _ _ => rfl
def a28r6 : List AOper := [oN (.move (.v 5)),
 oN (.move (.v 7)),
 oN (.move (.v 8)),
 oN (.indexAddr 1 (.l 1) (.l 2)),
 oN (.load false 1 (.l 3)),
 oN (.move (.v 8)),
 oN (.bin .add (.l 5) (.c (.int .i64 1))),
 oN (.indexArr 4 1 (.v 2) (.l 6)),
 oN (.load false 1 (.l 7)),
 oN (.bin .rem (.l 8) (.c (.int .i8 4))),
 oN (.conv .i64 (.l 9)),
 oN (.call 14 [.l 10]),
 oN (.call 16 [.l 0, .l 4, .l 11]),
 oS 5 (.move (.l 12))]
theorem a28r6_ev : Ev a28r6 (value_of% a28r6) := fun _ _ => rfl
def a28r5 : List AOper := [oN (.move (.v 8)),
 oN (.bin .add (.l 0) (.c (.int .i64 1))),
 oS 8 (.move (.l 1))]
theorem a28r5_ev : Ev a28r5 (value_of% a28r5) := fun _ _ => rfl
def a28b0 : AIR := .seq (.seq (.region a28r4 false) (.cond (.v 10) (.skip) (.exit 0))) (.seq (.block 1 (.region a28r6 true)) (.region a28r5 false))
def a28l0 : AIR := .loop true [0, 1, 2, 3, 4, 5, 6, 7, 8, 9, 11] a28b0
theorem a28l0_run {E GP} (st) : run E GP a28l0 st = loopK (run E GP) a28l0 st.heap.length true [0, 1, 2, 3, 4, 5, 6, 7, 8, 9, 11] st.rs (run E GP a28b0 { vars := st.vars, heap := st.heap, rs := false }) := run_loop _ _ _ _
def a28r7 : List AOper := [oN (.move (.v 0)),
 oN (.len 0 (.l 0)),
 oS 11 (.bin .gtr (.l 1) (.c (.int .i64 0)))]
theorem a28r7_ev : Ev a28r7 (value_of% a28r7) := fun _ _ => rfl
def a28r8 : List AOper := [oN (.move (.v 0)),
 oN (.move (.v 0)),
 oN (.len 0 (.l 1)),
 oN (.bin .sub (.l 2) (.c (.int .i64 1))),
 oN (.indexAddr 3 (.l 0) (.l 3)),
 oN (.fieldAddr 0 0 (.l 4)),
 oN (.load false 1 (.l 5)),
 oN (.bin .add (.l 6) (.c (.int .i64 1))),
 oN (.indexArr 4 1 (.v 2) (.c (.int .i64 0))),
 oN (.load false 1 (.l 8)),
 oN (.conv .u8 (.l 9)),
 oN (.bin .quo (.l 10) (.c (.int .u8 128))),
 oN (.conv .i64 (.l 11)),
 oN (.bin .add (.l 7) (.l 12)),
 oS 6 (.move (.l 13))]
theorem a28r8_ev : Ev a28r8 (value_of% a28r8) := fun _ _ => rfl
def a28r9 : List AOper := [oN (.bslice true 3 (.agg [.int .i64 0, .int .i64 0, .nl]) 0 []),
 oN (.move (.v 0)),
 oN (.append 3 40 (.l 0) (.l 1)),
 oS 9 (.move (.l 2))]
theorem a28r9_ev : Ev a28r9 (value_of% a28r9) := fun _ _ => rfl
def a28r10 : List AOper := [oN (.move (.v 9)),
 oN (.move (.v 6)),
 oN (.move (.v 4)),
 oN (.move (.v 5)),
 oN (.build [.int .i64 0, .int .i64 0, .nl] [(0, .l 1), (1, .l 2), (2, .l 3)]),
 oN (.bslice false 3 (.agg [.int .i64 0, .int .i64 0, .nl]) 1 [(0, .l 4)]),
 oN (.append 3 40 (.l 0) (.l 5)),
 oS 3 (.move (.l 6))]
theorem a28r10_ev : Ev a28r10 (value_of% a28r10) := fun _ _ => rfl
def a28 : AFun := .mk .iso 2 12 [.v 3] (.seq (.region a28r0 false) (.seq (.region a28r1 false) (.seq (.region a28r2 false) (.seq (.seq (.region a28r3 false) (.block 0 (a28l0))) (.seq (.seq (.region a28r7 false) (.cond (.v 11) (.region a28r8 true) (.skip))) (.seq (.region a28r9 false) (.seq (.region a28r10 false) (.ret))))))))
def a29r0 : List AOper := [oS 11 (.cb (.v 1)),
 oS 2 (.move (.c (.isl [])))]
theorem a29r0_ev : Ev a29r0 (value_of% a29r0) := fun _ _ => rfl
def a29r1 : List AOper := [oN (.bslice true 3 (.agg [.int .i64 0, .agg [.bool false, .isl []]]) 0 []),
 oN (.ca (.v 11)),
 oN (.field 1 1 true 2 (.v 11)),
 oN (.call 43 [.l 2]),
 oN (.bin .eql (.l 3) (.c (.int .i64 0))),
 oS 3 (.move (.l 0)),
 oS 4 (.move (.l 4))]
theorem a29r1_ev : Ev a29r1 (value_of% a29r1) := fun _ _ => rfl
def a29r2 : List AOper := [oS 5 (.move (.c (.int .i64 0)))]
theorem a29r2_ev : Ev a29r2 (value_of% a29r2) := fun _ _ => rfl
def a29r3 : List AOper := [oN (.move (.v 5)),
 oN (.move (.v 0)),
 oN (.len 0 (.l 1)),
 oS 6 (.bin .lss (.l 0) (.l 2))]
theorem a29r3_ev : Ev a29r3 (value_of% a29r3) := fun _ _ => rfl
def a29r5 : List AOper := [oN (.move (.v 4)),
 oN (.un .not (.l 0)),
 oN (.move (.l 1)),
 ⟨none, .move (.v 0), some (2, true)⟩,
 ⟨none, .move (.v 5), some (2, true)⟩,
 ⟨none, .indexAddr 3 (.l 3) (.l 4), some (2, true)⟩,
 ⟨none, .fieldAddr 0 0 (.l 5), some (2, true)⟩,
 ⟨none, .load false 1 (.l 6), some (2, true)⟩,
 ⟨none, .ca (.v 11), some (2, true)⟩,
 ⟨none, .field 0 0 false 1 (.v 11), some (2, true)⟩,
 ⟨none, .bin .gtr (.l 7) (.l 9), some (2, true)⟩,
 oS 7 (.pick (.l 2) (.l 10) (.c (.bool false)))]
theorem a29r5_ev : Ev a29r5 (value_of% a29r5) := fun _ _ => rfl
def a29r6 : List AOper := [oN (.move (.v 3)),
 oN (.cl true 3 (.v 11)),
 oN (.bslice false 3 (.agg [.int .i64 0, .agg [.bool false, .isl []]]) 1 [(0, .l 1)]),
 oN (.append 3 40 (.l 0) (.l 2)),
 oS 3 (.move (.l 3))]
theorem a29r6_ev : Ev a29r6 (value_of% a29r6) := fun _ _ => rfl
def a29r7 : List AOper := [oS 4 (.move (.c (.bool true)))]
theorem a29r7_ev : Ev a29r7 (value_of% a29r7) := fun _ _ => rfl
def a29r8 : List AOper := [oN (.move (.v 4)),
 oN (.un .not (.l 0)),
 oN (.move (.l 1)),
 ⟨none, .move (.v 0), some (2, true)⟩,
 ⟨none, .move (.v 5), some (2, true)⟩,
 ⟨none, .indexAddr 3 (.l 3) (.l 4), some (2, true)⟩,
 ⟨none, .fieldAddr 0 0 (.l 5), some (2, true)⟩,
 ⟨none, .load false 1 (.l 6), some (2, true)⟩,
 ⟨none, .ca (.v 11), some (2, true)⟩,
 ⟨none, .field 0 0 false 1 (.v 11), some (2, true)⟩,
 ⟨none, .bin .eql (.l 7) (.l 9), some (2, true)⟩,
 oS 8 (.pick (.l 2) (.l 10) (.c (.bool false)))]
theorem a29r8_ev : Ev a29r8 (value_of% a29r8) := fun _ _ => rfl
def a29r9 : List AOper := [oN (.move (.v 0)),
 oN (.move (.v 5)),
 oN (.indexAddr 3 (.l 0) (.l 1)),
 oN (.fieldAddr 1 1 (.l 2)),
 oN (.load true 2 (.l 3)),
 oN (.ca (.v 11)),
 oN (.field 1 1 true 2 (.v 11)),
 oN (.call 49 [.l 4, .l 6]),
 oS 12 (.cn (.agg [.bool false, .isl []])),
 oS 12 (.cs 2 (.l 8) (.l 7))]
theorem a29r9_ev : Ev a29r9 (value_of% a29r9) := fun _ _ => rfl
def a29r10 : List AOper := [oN (.cl true 2 (.v 12)),
 oN (.call 43 [.l 0]),
 oS 9 (.bin .neq (.l 1) (.c (.int .i64 0)))]
theorem a29r10_ev : Ev a29r10 (value_of% a29r10) := fun _ _ => rfl
def a29r11 : List AOper := [oN (.move (.v 3)),
 oN (.ca (.v 11)),
 oN (.field 0 0 false 1 (.v 11)),
 oN (.cl true 2 (.v 12)),
 oN (.build [.int .i64 0, .agg [.bool false, .isl []]] [(0, .l 2), (1, .l 3)]),
 oN (.bslice false 3 (.agg [.int .i64 0, .agg [.bool false, .isl []]]) 1 [(0, .l 4)]),
 oN (.append 3 40 (.l 0) (.l 5)),
 oS 3 (.move (.l 6))]
theorem a29r11_ev : Ev a29r11 (value_of% a29r11) := fun _ _ => rfl
def a29r12 : List AOper := [oS 4 (.move (.c (.bool true)))]
theorem a29r12_ev : Ev a29r12 (value_of% a29r12) := fun _ _ => rfl
def a29r13 : List AOper := [oN (.move (.v 3)),
 oN (.move (.v 0)),
 oN (.move (.v 5)),
 oN (.indexAddr 3 (.l 1) (.l 2)),
 oN (.load true 3 (.l 3)),
 oN (.bslice false 3 (.agg [.int .i64 0, .agg [.bool false, .isl []]]) 1 [(0, .l 4)]),
 oN (.append 3 40 (.l 0) (.l 5)),
 oS 3 (.move (.l 6))]
theorem a29r13_ev : Ev a29r13 (value_of% a29r13) := fun _ _ => rfl
def a29r4 : List AOper := [oN (.move (.v 5)),
 oN (.bin .add (.l 0) (.c (.int .i64 1))),
 oS 5 (.move (.l 1))]
theorem a29r4_ev : Ev a29r4 (value_of% a29r4) := fun _ _ => rfl
def a29b0 : AIR := .seq (.seq (.region a29r3 false) (.cond (.v 6) (.skip) (.exit 0))) (.seq (.block 1 (.seq (.seq (.region a29r5 true) (.cond (.v 7) (.seq (.region a29r6 false) (.region a29r7 false)) (.skip))) (.seq (.seq (.region a29r8 true) (.cond (.v 8) (.seq (.region a29r9 true) (.seq (.seq (.region a29r10 false) (.cond (.v 9) (.region a29r11 false) (.skip))) (.seq (.region a29r12 false) (.exit 1)))) (.skip))) (.region a29r13 false)))) (.region a29r4 false))
def a29l0 : AIR := .loop true [0, 1, 2, 3, 4, 5, 10, 11] a29b0
theorem a29l0_run {E GP} (st) : run E GP a29l0 st = loopK (run E GP) a29l0 st.heap.length true [0, 1, 2, 3, 4, 5, 10, 11] st.rs (run E GP a29b0 { vars := st.vars, heap := st.heap, rs := false }) := run_loop _ _ _ _
def a29r14 : List AOper := [oN (.move (.v 4)),
 oS 10 (.un .not (.l 0))]
theorem a29r14_ev : Ev a29r14 (value_of% a29r14) := fun _ _ => rfl
def a29r15 : List AOper := [oN (.move (.v 3)),
 oN (.cl true 3 (.v 11)),
 oN (.bslice false 3 (.agg [.int .i64 0, .agg [.bool false, .isl []]]) 1 [(0, .l 1)]),
 oN (.append 3 40 (.l 0) (.l 2)),
 oS 3 (.move (.l 3))]
theorem a29r15_ev : Ev a29r15 (value_of% a29r15) := fun _ _ => rfl
def a29r16 : List AOper := [oN (.move (.v 3)),
 oS 2 (.move (.l 0))]
theorem a29r16_ev : Ev a29r16 (value_of% a29r16) := fun _ _ => rfl
def a29 : AFun := .mk .iso 2 13 [.v 2] (.seq (.region a29r0 false) (.seq (.region a29r1 false) (.seq (.seq (.region a29r2 false) (.block 0 (a29l0))) (.seq (.seq (.region a29r14 false) (.cond (.v 10) (.region a29r15 false) (.skip))) (.seq (.region a29r16 false) (.ret))))))
def a30r0 : List AOper := [oS 2 (.move (.c (.isl []))),
 oS 3 (.move (.c (.int .i64 0))),
 oS 4 (.move (.c (.int .i64 0)))]
theorem a30r0_ev : Ev a30r0 (value_of% a30r0) := fun _ _ => rfl
def a30r1 : List AOper := [oS 5 (.nils 3)]
theorem a30r1_ev : Ev a30r1 (value_of% a30r1) := fun _ _ => rfl
def a30r2 : List AOper := [oS 8 (.move (.v 1)),
 oS 9 (.len 0 (.l 0)),
 oS 10 (.move (.c (.int .i64 0)))]
theorem a30r2_ev : Ev a30r2 (value_of% a30r2) := fun _ _ => rfl
def a30r3 : List AOper := [oS 11 (.bin .lss (.v 10) (.v 9))]
theorem a30r3_ev : Ev a30r3 (value_of% a30r3) := fun _ _ => rfl
def a30r4 : List AOper := [oN (.indexAddr 3 (.v 8) (.v 10)),
 oN (.load true 3 (.l 0)),
 oS 15 (.cn (.agg [.int .i64 0, .agg [.bool false, .isl []]])),
 oS 15 (.cs 3 (.l 2) (.l 1))]
theorem a30r4_ev : Ev a30r4 (value_of% a30r4) := fun _ _ => rfl
def a30r5 : List AOper := [oN (.move (.v 0)),
 oN (.ca (.v 15)),
 oN (.field 0 0 false 1 (.v 15)),
 oN (.call 50 [.l 0, .l 2]),
 oN (.move (.l 3)),
 oN (.extract 0 (.l 4)),
 oN (.extract 1 (.l 4)),
 oS 16 (.cn (.agg [.int .i64 0, .int .i64 0, .nl])),
 oS 16 (.cs 3 (.l 7) (.l 5)),
 oS 6 (.move (.l 6))]
theorem a30r5_ev : Ev a30r5 (value_of% a30r5) := fun _ _ => rfl
def a30r6 : List AOper := [oN (.move (.v 6)),
 oS 12 (.un .not (.l 0))]
theorem a30r6_ev : Ev a30r6 (value_of% a30r6) := fun _ _ => rfl
def a30r7 : List AOper := [oS 2 (.move (.c (.isl []))),
 oS 3 (.move (.c (.int .i64 0))),
 oS 4 (.move (.c (.int .i64 250)))]
theorem a30r7_ev : Ev a30r7 (value_of% a30r7) := fun _ _ => rfl
def a30r8 : List AOper := [oN (.move (.v 5)),
 oN (.cl true 3 (.v 16)),
 oN (.bslice false 3 (.agg [.int .i64 0, .int .i64 0, .nl]) 1 [(0, .l 1)]),
 oN (.append 3 40 (.l 0) (.l 2)),
 oS 5 (.move (.l 3))]
theorem a30r8_ev : Ev a30r8 (value_of% a30r8) := fun _ _ => rfl
def a30r9 : List AOper := [oN (.bin .add (.v 10) (.c (.int .i64 1))),
 oS 10 (.move (.l 0))]
theorem a30r9_ev : Ev a30r9 (value_of% a30r9) := fun _ _ => rfl
def a30b0 : AIR := .seq (.region a30r3 false) (.seq (.cond (.v 11) (.skip) (.exit 0)) (.seq (.block 1 (.seq (.region a30r4 false) (.seq (.region a30r5 false) (.seq (.seq (.region a30r6 false) (.cond (.v 12) (.seq (.region a30r7 false) (.ret)) (.skip))) (.region a30r8 false))))) (.region a30r9 false)))
def a30l0 : AIR := .loop true [0, 1, 2, 3, 4, 5, 7, 8, 9, 10, 13, 14] a30b0
theorem a30l0_run {E GP} (st) : run E GP a30l0 st = loopK (run E GP) a30l0 st.heap.length true [0, 1, 2, 3, 4, 5, 7, 8, 9, 10, 13, 14] st.rs (run E GP a30b0 { vars := st.vars, heap := st.heap, rs := false }) := run_loop _ _ _ _
def a30r10 : List AOper := [oN (.move (.v 5)),
 oN (.len 0 (.l 0)),
 oS 13 (.bin .eql (.l 1) (.c (.int .i64 0)))]
theorem a30r10_ev : Ev a30r10 (value_of% a30r10) := fun _ _ => rfl
def a30r11 : List AOper := [oS 2 (.move (.c (.isl []))),
 oS 3 (.move (.c (.int .i64 (-1)))),
 oS 4 (.move (.c (.int .i64 0)))]
theorem a30r11_ev : Ev a30r11 (value_of% a30r11) := fun _ _ => rfl
def a30r12 : List AOper := [oN (.move (.v 5)),
 oN (.indexAddr 3 (.l 0) (.c (.int .i64 0))),
 oN (.fieldAddr 1 1 (.l 1)),
 oN (.load false 1 (.l 2)),
 oS 7 (.alloc (.int .i64 0)),
 oN (.store 1 (.l 4) (.l 3))]
theorem a30r12_ev : Ev a30r12 (value_of% a30r12) := fun _ _ => rfl
def a30r13 : List AOper := [oN (.move (.v 5)),
 oN (.mkfn 51 [.v 7]),
 oS 14 (.call 52 [.l 0, .l 1])]
theorem a30r13_ev : Ev a30r13 (value_of% a30r13) := fun _ _ => rfl
def a30r14 : List AOper := [oS 2 (.move (.c (.isl []))),
 oS 3 (.move (.c (.int .i64 0))),
 oS 4 (.move (.c (.int .i64 260)))]
theorem a30r14_ev : Ev a30r14 (value_of% a30r14) := fun _ _ => rfl
def a30r15 : List AOper := [oN (.move (.v 5)),
 oN (.load false 1 (.v 7)),
 oS 2 (.move (.l 0)),
 oS 3 (.move (.l 1)),
 oS 4 (.move (.c (.int .i64 0)))]
theorem a30r15_ev : Ev a30r15 (value_of% a30r15) := fun _ _ => rfl
def a30 : AFun := .mk .iso 2 17 [.v 2, .v 3, .v 4] (.seq (.region a30r0 false) (.seq (.region a30r1 false) (.seq (.seq (.region a30r2 false) (.block 0 (a30l0))) (.seq (.seq (.region a30r10 false) (.cond (.v 13) (.seq (.region a30r11 false) (.ret)) (.skip))) (.seq (.region a30r12 false) (.seq (.seq (.region a30r13 false) (.cond (.v 14) (.seq (.region a30r14 false) (.ret)) (.skip))) (.seq (.region a30r15 true) (.ret))))))))
def a31r0 : List AOper := [oS 6 (.cn (.agg [.int .i64 0, .int .i64 0, .nl])),
 oS 2 (.move (.c (.bool false)))]
theorem a31r0_ev : Ev a31r0 (value_of% a31r0) := fun _ _ => rfl
def a31r1 : List AOper := [oS 3 (.move (.c (.int .i64 0)))]
theorem a31r1_ev : Ev a31r1 (value_of% a31r1) := fun _ _ => rfl
def a31r2 : List AOper := [oN (.move (.v 3)),
 oN (.move (.v 0)),
 oN (.len 0 (.l 1)),
 oS 4 (.bin .lss (.l 0) (.l 2))]
theorem a31r2_ev : Ev a31r2 (value_of% a31r2) := fun _ _ => rfl
def a31r4 : List AOper := [oN (.move (.v 0)),
 oN (.move (.v 3)),
 oN (.indexAddr 3 (.l 0) (.l 1)),
 oN (.fieldAddr 0 0 (.l 2)),
 oN (.load false 1 (.l 3)),
 oN (.move (.v 1)),
 oS 5 (.bin .eql (.l 4) (.l 5))]
theorem a31r4_ev : Ev a31r4 (value_of% a31r4) := fun _ _ => rfl
def a31r5 : List AOper := [oN (.move (.v 0)),
 oN (.move (.v 3)),
 oN (.indexAddr 3 (.l 0) (.l 1)),
 oN (.load true 3 (.l 2)),
 oS 6 (.cs 3 (.v 6) (.l 3)),
 oS 2 (.move (.c (.bool true)))]
theorem a31r5_ev : Ev a31r5 (value_of% a31r5) := fun _ _ => rfl
def a31r3 : List AOper := [oN (.move (.v 3)),
 oN (.bin .add (.l 0) (.c (.int .i64 1))),
 oS 3 (.move (.l 1))]
theorem a31r3_ev : Ev a31r3 (value_of% a31r3) := fun _ _ => rfl
def a31b0 : AIR := .seq (.seq (.region a31r2 false) (.cond (.v 4) (.skip) (.exit 0))) (.seq (.block 1 (.seq (.region a31r4 false) (.cond (.v 5) (.seq (.region a31r5 false) (.ret)) (.skip)))) (.region a31r3 false))
def a31l0 : AIR := .loop true [0, 1, 2, 3, 6] a31b0
theorem a31l0_run {E GP} (st) : run E GP a31l0 st = loopK (run E GP) a31l0 st.heap.length true [0, 1, 2, 3, 6] st.rs (run E GP a31b0 { vars := st.vars, heap := st.heap, rs := false }) := run_loop _ _ _ _
def a31r6 : List AOper := [oN (.build [.int .i64 0, .int .i64 0, .nl] []),
 oS 6 (.cs 3 (.v 6) (.l 0)),
 oS 2 (.move (.c (.bool false)))]
theorem a31r6_ev : Ev a31r6 (value_of% a31r6) := fun _ _ => rfl
def a31 : AFun := .mk .iso 2 7 [.c 6 true 3, .v 2] (.seq (.region a31r0 false) (.seq (.seq (.region a31r1 false) (.block 0 (a31l0))) (.seq (.region a31r6 false) (.ret))))
def a33r0 : List AOper := [oS 4 (.cb (.v 2))]
theorem a33r0_ev : Ev a33r0 (value_of% a33r0) := fun _ _ => rfl
def a33r1 : List AOper := [oN (.move (.v 0)),
 oN (.move (.v 1)),
 oN (.lookup (.agg [.bool false, .isl []]) false (.l 0) (.l 1)),
 oN (.cl true 2 (.v 4)),
 oN (.call 53 [.l 2, .l 3]),
 oS 4 (.cs 2 (.v 4) (.l 4))]
theorem a33r1_ev : Ev a33r1 (value_of% a33r1) := fun _ _ => rfl
def a33r2 : List AOper := [oN (.cl true 2 (.v 4)),
 oN (.call 48 [.l 0]),
 oS 3 (.bin .eql (.l 1) (.c (.int .i64 0)))]
theorem a33r2_ev : Ev a33r2 (value_of% a33r2) := fun _ _ => rfl
def a33r3 : List AOper := [oN (.move (.v 0)),
 oN (.move (.v 1)),
 oN (.mdel (.l 0) (.l 1))]
theorem a33r3_ev : Ev a33r3 (value_of% a33r3) := fun _ _ => rfl
def a33r4 : List AOper := [oN (.move (.v 0)),
 oN (.move (.v 1)),
 oN (.cl true 2 (.v 4)),
 oN (.mupd (.l 0) (.l 1) (.l 2))]
theorem a33r4_ev : Ev a33r4 (value_of% a33r4) := fun _ _ => rfl
def a33 : AFun := .mk .shr 3 5 [] (.seq (.region a33r0 false) (.seq (.seq (.region a33r1 false) (.seq (.region a33r2 false) (.cond (.v 3) (.seq (.region a33r3 false) (.ret)) (.skip)))) (.region a33r4 false)))
def a32r0 : List AOper := [oS 16 (.cb (.v 0)),
 oS 17 (.cb (.v 1)),
 oS 18 (.cn (.agg [.bool false, .isl []]))]
theorem a32r0_ev : Ev a32r0 (value_of% a32r0) := fun _ _ => rfl
def a32r1 : List AOper := [oN (.ca (.v 16)),
 oN (.field 1 1 false 1 (.v 16)),
 oN (.len 0 (.l 1)),
 oN (.ca (.v 17)),
 oN (.field 1 1 false 1 (.v 17)),
 oN (.len 0 (.l 4)),
 oN (.bin .add (.l 2) (.l 5)),
 oN (.mkslice 1 4 (.int .u32 0) (.l 6) (.l 6)),
 oS 2 (.move (.l 7))]
theorem a32r1_ev : Ev a32r1 (value_of% a32r1) := fun _ _ => rfl
def a32r2 : List AOper := [oN (.ca (.v 16)),
 oS 8 (.field 1 1 false 1 (.v 16)),
 oS 9 (.len 0 (.l 1)),
 oS 10 (.move (.c (.int .i64 0)))]
theorem a32r2_ev : Ev a32r2 (value_of% a32r2) := fun _ _ => rfl
def a32r3 : List AOper := [oS 11 (.bin .lss (.v 10) (.v 9))]
theorem a32r3_ev : Ev a32r3 (value_of% a32r3) := fun _ _ => rfl
def a32r4 : List AOper := [oN (.move (.v 10)),
 oN (.indexAddr 1 (.v 8) (.v 10)),
 oN (.load false 1 (.l 1)),
 oS 3 (.move (.l 0)),
 oS 4 (.move (.l 2))]
theorem a32r4_ev : Ev a32r4 (value_of% a32r4) := fun _ _ => rfl
def a32r5 : List AOper := [oS 5 (.move (.c (.int .u64 0)))]
theorem a32r5_ev : Ev a32r5 (value_of% a32r5) := fun _ _ => rfl
def a32r6 : List AOper := [oN (.ca (.v 17)),
 oS 12 (.field 1 1 false 1 (.v 17)),
 oS 13 (.len 0 (.l 1)),
 oS 14 (.move (.c (.int .i64 0)))]
theorem a32r6_ev : Ev a32r6 (value_of% a32r6) := fun _ _ => rfl
def a32r7 : List AOper := [oS 15 (.bin .lss (.v 14) (.v 13))]
theorem a32r7_ev : Ev a32r7 (value_of% a32r7) := fun _ _ => rfl
def a32r8 : List AOper := [oN (.move (.v 14)),
 oN (.indexAddr 1 (.v 12) (.v 14)),
 oN (.load false 1 (.l 1)),
 oS 6 (.move (.l 0)),
 oS 7 (.move (.l 2))]
theorem a32r8_ev : Ev a32r8 (value_of% a32r8) := fun _ _ => rfl
def a32r9 : List AOper := [oN (.move (.v 5)),
 oN (.move (.v 4)),
 oN (.conv .u64 (.l 1)),
 oN (.move (.v 7)),
 oN (.conv .u64 (.l 3)),
 oN (.bin .mul (.l 2) (.l 4)),
 oN (.move (.v 2)),
 oN (.move (.v 3)),
 oN (.move (.v 6)),
 oN (.bin .add (.l 7) (.l 8)),
 oN (.indexAddr 1 (.l 6) (.l 9)),
 oN (.load false 1 (.l 10)),
 oN (.conv .u64 (.l 11)),
 oN (.bin .add (.l 5) (.l 12)),
 oN (.bin .add (.l 0) (.l 13)),
 oS 5 (.move (.l 14))]
theorem a32r9_ev : Ev a32r9 (value_of% a32r9) := fun _ _ => rfl
def a32r10 : List AOper := [oN (.move (.v 2)),
 oN (.move (.v 3)),
 oN (.move (.v 6)),
 oN (.bin .add (.l 1) (.l 2)),
 oN (.move (.v 5)),
 oN (.conv .u32 (.l 4)),
 oN (.indexAddr 1 (.l 0) (.l 3)),
 oN (.store 1 (.l 6) (.l 5))]
theorem a32r10_ev : Ev a32r10 (value_of% a32r10) := fun _ _ => rfl
def a32r11 : List AOper := [oN (.move (.v 5)),
 oN (.bin .shr (.l 0) (.c (.int .u64 32))),
 oS 5 (.move (.l 1))]
theorem a32r11_ev : Ev a32r11 (value_of% a32r11) := fun _ _ => rfl
def a32r12 : List AOper := [oN (.bin .add (.v 14) (.c (.int .i64 1))),
 oS 14 (.move (.l 0))]
theorem a32r12_ev : Ev a32r12 (value_of% a32r12) := fun _ _ => rfl
def a32b1 : AIR := .seq (.region a32r7 false) (.seq (.cond (.v 15) (.skip) (.exit 2)) (.seq (.block 3 (.seq (.region a32r8 false) (.seq (.region a32r9 false) (.seq (.region a32r10 false) (.region a32r11 false))))) (.region a32r12 false)))
def a32l1 : AIR := .loop true [0, 1, 2, 3, 4, 5, 8, 9, 10, 11, 12, 13, 14, 16, 17, 18] a32b1
theorem a32l1_run {E GP} (st) : run E GP a32l1 st = loopK (run E GP) a32l1 st.heap.length true [0, 1, 2, 3, 4, 5, 8, 9, 10, 11, 12, 13, 14, 16, 17, 18] st.rs (run E GP a32b1 { vars := st.vars, heap := st.heap, rs := false }) := run_loop _ _ _ _
def a32r13 : List AOper := [oN (.move (.v 2)),
 oN (.move (.v 3)),
 oN (.ca (.v 17)),
 oN (.field 1 1 false 1 (.v 17)),
 oN (.len 0 (.l 3)),
 oN (.bin .add (.l 1) (.l 4)),
 oN (.move (.v 5)),
 oN (.conv .u32 (.l 6)),
 oN (.indexAddr 1 (.l 0) (.l 5)),
 oN (.store 1 (.l 8) (.l 7))]
theorem a32r13_ev : Ev a32r13 (value_of% a32r13) := fun _ _ => rfl
def a32r14 : List AOper := [oN (.bin .add (.v 10) (.c (.int .i64 1))),
 oS 10 (.move (.l 0))]
theorem a32r14_ev : Ev a32r14 (value_of% a32r14) := fun _ _ => rfl
def a32b0 : AIR := .seq (.region a32r3 false) (.seq (.cond (.v 11) (.skip) (.exit 0)) (.seq (.block 1 (.seq (.region a32r4 false) (.seq (.region a32r5 false) (.seq (.seq (.region a32r6 false) (.block 2 (a32l1))) (.region a32r13 false))))) (.region a32r14 false)))
def a32l0 : AIR := .loop true [0, 1, 2, 8, 9, 10, 16, 17, 18] a32b0
theorem a32l0_run {E GP} (st) : run E GP a32l0 st = loopK (run E GP) a32l0 st.heap.length true [0, 1, 2, 8, 9, 10, 16, 17, 18] st.rs (run E GP a32b0 { vars := st.vars, heap := st.heap, rs := false }) := run_loop _ _ _ _
def a32r15 : List AOper := [oN (.move (.v 2)),
 oN (.ca (.v 16)),
 oN (.field 0 0 false 1 (.v 16)),
 oN (.ca (.v 17)),
 oN (.field 0 0 false 1 (.v 17)),
 oN (.binb true (.l 2) (.l 4)),
 oN (.call 54 [.l 0, .l 5]),
 oS 18 (.cs 2 (.v 18) (.l 6))]
theorem a32r15_ev : Ev a32r15 (value_of% a32r15) := fun _ _ => rfl
def a32 : AFun := .mk .iso 2 19 [.c 18 true 2] (.seq (.region a32r0 false) (.seq (.region a32r1 false) (.seq (.seq (.region a32r2 false) (.block 0 (a32l0))) (.seq (.region a32r15 false) (.ret)))))
def a34r0 : List AOper := [oS 1 (.move (.c (.isl [])))]
theorem a34r0_ev : Ev a34r0 (value_of% a34r0) := fun _ _ => rfl
def a34r1 : List AOper := [oS 2 (.nils 3)]
theorem a34r1_ev : Ev a34r1 (value_of% a34r1) := fun _ _ => rfl
def a34r2 : List AOper := [oN (.move (.v 0)),
 oN (.call 55 [.l 0]),
 oS 4 (.call 56 [.l 1]),
 oS 5 (.len 0 (.l 2)),
 oS 6 (.move (.c (.int .i64 0)))]
theorem a34r2_ev : Ev a34r2 (value_of% a34r2) := fun _ _ => rfl
def a34r3 : List AOper := [oS 7 (.bin .lss (.v 6) (.v 5))]
theorem a34r3_ev : Ev a34r3 (value_of% a34r3) := fun _ _ => rfl
def a34r4 : List AOper := [oN (.indexAddr 1 (.v 4) (.v 6)),
 oN (.load false 1 (.l 0)),
 oS 3 (.move (.l 1))]
theorem a34r4_ev : Ev a34r4 (value_of% a34r4) := fun _ _ => rfl
def a34r5 : List AOper := [oN (.move (.v 2)),
 oN (.move (.v 3)),
 oN (.move (.v 0)),
 oN (.move (.v 3)),
 oN (.lookup (.agg [.bool false, .isl []]) false (.l 2) (.l 3)),
 oN (.build [.int .i64 0, .agg [.bool false, .isl []]] [(0, .l 1), (1, .l 4)]),
 oN (.bslice false 3 (.agg [.int .i64 0, .agg [.bool false, .isl []]]) 1 [(0, .l 5)]),
 oN (.append 3 40 (.l 0) (.l 6)),
 oS 2 (.move (.l 7))]
theorem a34r5_ev : Ev a34r5 (value_of% a34r5) := fun _ _ => rfl
def a34r6 : List AOper := [oN (.bin .add (.v 6) (.c (.int .i64 1))),
 oS 6 (.move (.l 0))]
theorem a34r6_ev : Ev a34r6 (value_of% a34r6) := fun _ _ => rfl
def a34b0 : AIR := .seq (.region a34r3 false) (.seq (.cond (.v 7) (.skip) (.exit 0)) (.seq (.block 1 (.seq (.region a34r4 false) (.region a34r5 false))) (.region a34r6 false)))
def a34l0 : AIR := .loop true [0, 1, 2, 4, 5, 6] a34b0
theorem a34l0_run {E GP} (st) : run E GP a34l0 st = loopK (run E GP) a34l0 st.heap.length true [0, 1, 2, 4, 5, 6] st.rs (run E GP a34b0 { vars := st.vars, heap := st.heap, rs := false }) := run_loop _ _ _ _
def a34r7 : List AOper := [oN (.move (.v 2)),
 oS 1 (.move (.l 0))]
theorem a34r7_ev : Ev a34r7 (value_of% a34r7) := fun _ _ => rfl
def a34 : AFun := .mk .shr 1 8 [.v 1] (.seq (.region a34r0 false) (.seq (.region a34r1 false) (.seq (.seq (.region a34r2 false) (.block 0 (a34l0))) (.seq (.region a34r7 false) (.ret)))))
def a35r0 : List AOper := [oS 2 (.move (.c (.isl [])))]
theorem a35r0_ev : Ev a35r0 (value_of% a35r0) := fun _ _ => rfl
def a35r1 : List AOper := [oS 3 (.nils 1)]
theorem a35r1_ev : Ev a35r1 (value_of% a35r1) := fun _ _ => rfl
def a35r2 : List AOper := [oS 4 (.move (.v 0)),
 oS 5 (.len 0 (.l 0)),
 oS 6 (.move (.c (.int .i64 0)))]
theorem a35r2_ev : Ev a35r2 (value_of% a35r2) := fun _ _ => rfl
def a35r3 : List AOper := [oS 7 (.bin .lss (.v 6) (.v 5))]
theorem a35r3_ev : Ev a35r3 (value_of% a35r3) := fun _ _ => rfl
def a35r4 : List AOper := [oN (.indexAddr 3 (.v 4) (.v 6)),
 oN (.load true 3 (.l 0)),
 oS 9 (.cn (.agg [.int .i64 0, .int .i64 0, .nl])),
 oS 9 (.cs 3 (.l 2) (.l 1))]
theorem a35r4_ev : Ev a35r4 (value_of% a35r4) := fun _ _ => rfl
def a35r5 : List AOper := [oN (.ca (.v 9)),
 oN (.field 1 1 false 1 (.v 9)),
 oN (.move (.v 1)),
 oS 8 (.bin .eql (.l 1) (.l 2))]
theorem a35r5_ev : Ev a35r5 (value_of% a35r5) := fun _ _ => rfl
def a35r6 : List AOper := [oN (.move (.v 3)),
 oN (.ca (.v 9)),
 oN (.field 0 0 false 1 (.v 9)),
 oN (.bslice false 1 (.int .i64 0) 1 [(0, .l 2)]),
 oN (.append 1 8 (.l 0) (.l 3)),
 oS 3 (.move (.l 4))]
theorem a35r6_ev : Ev a35r6 (value_of% a35r6) := fun _ _ => rfl
def a35r7 : List AOper := [oN (.bin .add (.v 6) (.c (.int .i64 1))),
 oS 6 (.move (.l 0))]
theorem a35r7_ev : Ev a35r7 (value_of% a35r7) := fun _ _ => rfl
def a35b0 : AIR := .seq (.region a35r3 false) (.seq (.cond (.v 7) (.skip) (.exit 0)) (.seq (.block 1 (.seq (.region a35r4 false) (.seq (.region a35r5 false) (.cond (.v 8) (.region a35r6 false) (.skip))))) (.region a35r7 false)))
def a35l0 : AIR := .loop true [0, 1, 2, 3, 4, 5, 6] a35b0
theorem a35l0_run {E GP} (st) : run E GP a35l0 st = loopK (run E GP) a35l0 st.heap.length true [0, 1, 2, 3, 4, 5, 6] st.rs (run E GP a35b0 { vars := st.vars, heap := st.heap, rs := false }) := run_loop _ _ _ _
def a35r8 : List AOper := [oN (.move (.v 3)),
 oS 2 (.move (.l 0))]
theorem a35r8_ev : Ev a35r8 (value_of% a35r8) := fun _ _ => rfl
def a35 : AFun := .mk .iso 2 10 [.v 2] (.seq (.region a35r0 false) (.seq (.region a35r1 false) (.seq (.seq (.region a35r2 false) (.block 0 (a35l0))) (.seq (.region a35r8 false) (.ret)))))
def a37r0 : List AOper := [oS 3 (.cb (.v 0)),
 oS 4 (.cb (.v 1)),
 oS 2 (.move (.c (.bool false)))]
theorem a37r0_ev : Ev a37r0 (value_of% a37r0) := fun _ _ => rfl
def a37r1 : List AOper := [oN (.ca (.v 3)),
 oN (.field 0 0 false 1 (.v 3)),
 oN (.ca (.v 4)),
 oN (.field 0 0 false 1 (.v 4)),
 oN (.binb false (.l 1) (.l 3)),
 oN (.move (.l 4)),
 ⟨none, .ca (.v 3), some (5, true)⟩,
 ⟨none, .field 1 1 false 1 (.v 3), some (5, true)⟩,
 ⟨none, .ca (.v 4), some (5, true)⟩,
 ⟨none, .field 1 1 false 1 (.v 4), some (5, true)⟩,
 ⟨none, .call 57 [.l 7, .l 9], some (5, true)⟩,
 ⟨none, .un .not (.l 10), some (5, true)⟩,
 oN (.pick (.l 5) (.l 11) (.c (.bool false))),
 oN (.move (.l 12)),
 ⟨none, .ca (.v 4), some (13, true)⟩,
 ⟨none, .field 1 1 false 1 (.v 4), some (13, true)⟩,
 ⟨none, .ca (.v 3), some (13, true)⟩,
 ⟨none, .field 1 1 false 1 (.v 3), some (13, true)⟩,
 ⟨none, .call 57 [.l 15, .l 17], some (13, true)⟩,
 ⟨none, .un .not (.l 18), some (13, true)⟩,
 oN (.pick (.l 13) (.l 19) (.c (.bool false))),
 oS 2 (.move (.l 20))]
theorem a37r1_ev : Ev a37r1 (value_of% a37r1) := fun _ _ => rfl
def a37 : AFun := .mk .iso 2 5 [.v 2] (.seq (.region a37r0 false) (.seq (.region a37r1 false) (.ret)))
def a38r0 : List AOper := [oS 4 (.cn (.agg [.bool false, .isl []]))]
theorem a38r0_ev : Ev a38r0 (value_of% a38r0) := fun _ _ => rfl
def a38r1 : List AOper := [oN (.move (.v 0)),
 oN (.len 0 (.l 0)),
 oS 2 (.move (.l 1))]
theorem a38r1_ev : Ev a38r1 (value_of% a38r1) := fun _ _ => rfl
def a38r2 : List AOper := [oN (.move (.v 2)),
 oN (.bin .gtr (.l 0) (.c (.int .i64 0))),
 oN (.move (.l 1)),
 ⟨none, .move (.v 0), some (2, true)⟩,
 ⟨none, .move (.v 2), some (2, true)⟩,
 ⟨none, .bin .sub (.l 4) (.c (.int .i64 1)), some (2, true)⟩,
 ⟨none, .indexAddr 1 (.l 3) (.l 5), some (2, true)⟩,
 ⟨none, .load false 1 (.l 6), some (2, true)⟩,
 ⟨none, .bin .eql (.l 7) (.c (.int .u32 0)), some (2, true)⟩,
 oS 3 (.pick (.l 2) (.l 8) (.c (.bool false)))]
theorem a38r2_ev : Ev a38r2 (value_of% a38r2) := fun _ _ => rfl
def a38r3 : List AOper := [oN (.move (.v 2)),
 oN (.bin .sub (.l 0) (.c (.int .i64 1))),
 oS 2 (.move (.l 1))]
theorem a38r3_ev : Ev a38r3 (value_of% a38r3) := fun _ _ => rfl
def a38b0 : AIR := .seq (.seq (.region a38r2 false) (.cond (.v 3) (.skip) (.exit 0))) (.block 1 (.region a38r3 false))
def a38l0 : AIR := .loop true [0, 1, 2, 4] a38b0
theorem a38l0_run {E GP} (st) : run E GP a38l0 st = loopK (run E GP) a38l0 st.heap.length true [0, 1, 2, 4] st.rs (run E GP a38b0 { vars := st.vars, heap := st.heap, rs := false }) := run_loop _ _ _ _
def a38r4 : List AOper := [oN (.move (.v 1)),
 oN (.move (.l 0)),
 ⟨none, .move (.v 2), some (1, true)⟩,
 ⟨none, .bin .gtr (.l 2) (.c (.int .i64 0)), some (1, true)⟩,
 oN (.pick (.l 1) (.l 3) (.c (.bool false))),
 oN (.bslice true 1 (.int .u32 0) 0 []),
 oN (.move (.v 0)),
 oN (.move (.v 2)),
 oN (.slice 1 (.l 6) none (some (.l 7)) none),
 oN (.append 1 4 (.l 5) (.l 8)),
 oN (.build [.bool false, .isl []] [(0, .l 4), (1, .l 9)]),
 oS 4 (.cs 2 (.v 4) (.l 10))]
theorem a38r4_ev : Ev a38r4 (value_of% a38r4) := fun _ _ => rfl
def a38 : AFun := .mk .con 2 5 [.c 4 true 2] (.seq (.region a38r0 false) (.seq (.region a38r1 false) (.seq (.block 0 (a38l0)) (.seq (.region a38r4 false) (.ret)))))
def a40r0 : List AOper := [oS 3 (.move (.c (.isl [])))]
theorem a40r0_ev : Ev a40r0 (value_of% a40r0) := fun _ _ => rfl
def a40r1 : List AOper := [oN (.move (.v 0)),
 oN (.move (.v 1)),
 oN (.move (.v 2)),
 oN (.call 58 [.l 0, .l 1, .l 2]),
 oN (.move (.l 3)),
 oN (.extract 0 (.l 4)),
 oN (.extract 1 (.l 4)),
 oS 4 (.move (.l 5)),
 oN (.move (.l 6))]
theorem a40r1_ev : Ev a40r1 (value_of% a40r1) := fun _ _ => rfl
def a40r2 : List AOper := [oN (.move (.v 4)),
 oS 3 (.move (.l 0))]
theorem a40r2_ev : Ev a40r2 (value_of% a40r2) := fun _ _ => rfl
def a40 : AFun := .mk .iso 3 5 [.v 3] (.seq (.region a40r0 false) (.seq (.region a40r1 false) (.seq (.region a40r2 false) (.ret))))
def a41r0 : List AOper := [oS 9 (.cb (.v 0)),
 oS 10 (.cb (.v 1)),
 oS 11 (.cn (.agg [.bool false, .isl []]))]
theorem a41r0_ev : Ev a41r0 (value_of% a41r0) := fun _ _ => rfl
def a41r1 : List AOper := [oN (.ca (.v 9)),
 oN (.field 1 1 false 1 (.v 9)),
 oN (.len 0 (.l 1)),
 oN (.ca (.v 10)),
 oN (.field 1 1 false 1 (.v 10)),
 oN (.len 0 (.l 4)),
 oN (.bin .add (.l 2) (.l 5)),
 oN (.bin .add (.l 6) (.c (.int .i64 1))),
 oN (.mkslice 1 4 (.int .u32 0) (.l 7) (.l 7)),
 oS 2 (.move (.l 8))]
theorem a41r1_ev : Ev a41r1 (value_of% a41r1) := fun _ _ => rfl
def a41r2 : List AOper := [oS 3 (.move (.c (.int .i64 0)))]
theorem a41r2_ev : Ev a41r2 (value_of% a41r2) := fun _ _ => rfl
def a41r3 : List AOper := [oN (.move (.v 3)),
 oN (.ca (.v 9)),
 oN (.field 1 1 false 1 (.v 9)),
 oN (.len 0 (.l 2)),
 oS 6 (.bin .lss (.l 0) (.l 3))]
theorem a41r3_ev : Ev a41r3 (value_of% a41r3) := fun _ _ => rfl
def a41r5 : List AOper := [oS 4 (.move (.c (.int .u64 0)))]
theorem a41r5_ev : Ev a41r5 (value_of% a41r5) := fun _ _ => rfl
def a41r6 : List AOper := [oS 5 (.move (.c (.int .i64 0)))]
theorem a41r6_ev : Ev a41r6 (value_of% a41r6) := fun _ _ => rfl
def a41r7 : List AOper := [oN (.move (.v 5)),
 oN (.ca (.v 10)),
 oN (.field 1 1 false 1 (.v 10)),
 oN (.len 0 (.l 2)),
 oN (.bin .lss (.l 0) (.l 3)),
 oN (.move (.l 4)),
 ⟨none, .move (.v 4), some (5, false)⟩,
 ⟨none, .bin .gtr (.l 6) (.c (.int .u64 0)), some (5, false)⟩,
 oS 7 (.pick (.l 5) (.c (.bool true)) (.l 7))]
theorem a41r7_ev : Ev a41r7 (value_of% a41r7) := fun _ _ => rfl
def a41r9 : List AOper := [oN (.move (.v 4)),
 oN (.move (.v 2)),
 oN (.move (.v 3)),
 oN (.move (.v 5)),
 oN (.bin .add (.l 2) (.l 3)),
 oN (.indexAddr 1 (.l 1) (.l 4)),
 oN (.load false 1 (.l 5)),
 oN (.conv .u64 (.l 6)),
 oN (.bin .add (.l 0) (.l 7)),
 oS 4 (.move (.l 8))]
theorem a41r9_ev : Ev a41r9 (value_of% a41r9) := fun _ _ => rfl
def a41r10 : List AOper := [oN (.move (.v 5)),
 oN (.ca (.v 10)),
 oN (.field 1 1 false 1 (.v 10)),
 oN (.len 0 (.l 2)),
 oS 8 (.bin .lss (.l 0) (.l 3))]
theorem a41r10_ev : Ev a41r10 (value_of% a41r10) := fun _ _ => rfl
def a41r11 : List AOper := [oN (.move (.v 4)),
 oN (.ca (.v 9)),
 oN (.field 1 1 false 1 (.v 9)),
 oN (.move (.v 3)),
 oN (.indexAddr 1 (.l 2) (.l 3)),
 oN (.load false 1 (.l 4)),
 oN (.conv .u64 (.l 5)),
 oN (.ca (.v 10)),
 oN (.field 1 1 false 1 (.v 10)),
 oN (.move (.v 5)),
 oN (.indexAddr 1 (.l 8) (.l 9)),
 oN (.load false 1 (.l 10)),
 oN (.conv .u64 (.l 11)),
 oN (.bin .mul (.l 6) (.l 12)),
 oN (.bin .add (.l 0) (.l 13)),
 oS 4 (.move (.l 14))]
theorem a41r11_ev : Ev a41r11 (value_of% a41r11) := fun _ _ => rfl
def a41r12 : List AOper := [oN (.move (.v 2)),
 oN (.move (.v 3)),
 oN (.move (.v 5)),
 oN (.bin .add (.l 1) (.l 2)),
 oN (.move (.v 4)),
 oN (.conv .u32 (.l 4)),
 oN (.indexAddr 1 (.l 0) (.l 3)),
 oN (.store 1 (.l 6) (.l 5))]
theorem a41r12_ev : Ev a41r12 (value_of% a41r12) := fun _ _ => rfl
def a41r13 : List AOper := [oN (.move (.v 4)),
 oN (.bin .quo (.l 0) (.c (.int .u64 4294967296))),
 oS 4 (.move (.l 1))]
theorem a41r13_ev : Ev a41r13 (value_of% a41r13) := fun _ _ => rfl
def a41r8 : List AOper := [oN (.move (.v 5)),
 oN (.bin .add (.l 0) (.c (.int .i64 1))),
 oS 5 (.move (.l 1))]
theorem a41r8_ev : Ev a41r8 (value_of% a41r8) := fun _ _ => rfl
def a41b1 : AIR := .seq (.seq (.region a41r7 false) (.cond (.v 7) (.skip) (.exit 2))) (.seq (.block 3 (.seq (.region a41r9 false) (.seq (.seq (.region a41r10 false) (.cond (.v 8) (.region a41r11 true) (.skip))) (.seq (.region a41r12 false) (.region a41r13 false))))) (.region a41r8 false))
def a41l1 : AIR := .loop true [0, 1, 2, 3, 4, 5, 6, 9, 10, 11] a41b1
theorem a41l1_run {E GP} (st) : run E GP a41l1 st = loopK (run E GP) a41l1 st.heap.length true [0, 1, 2, 3, 4, 5, 6, 9, 10, 11] st.rs (run E GP a41b1 { vars := st.vars, heap := st.heap, rs := false }) := run_loop _ _ _ _
def a41r4 : List AOper := [oN (.move (.v 3)),
 oN (.bin .add (.l 0) (.c (.int .i64 1))),
 oS 3 (.move (.l 1))]
theorem a41r4_ev : Ev a41r4 (value_of% a41r4) := fun _ _ => rfl
def a41b0 : AIR := .seq (.seq (.region a41r3 false) (.cond (.v 6) (.skip) (.exit 0))) (.seq (.block 1 (.seq (.region a41r5 false) (.seq (.region a41r6 false) (.block 2 (a41l1))))) (.region a41r4 false))
def a41l0 : AIR := .loop true [0, 1, 2, 3, 9, 10, 11] a41b0
theorem a41l0_run {E GP} (st) : run E GP a41l0 st = loopK (run E GP) a41l0 st.heap.length true [0, 1, 2, 3, 9, 10, 11] st.rs (run E GP a41b0 { vars := st.vars, heap := st.heap, rs := false }) := run_loop _ _ _ _
def a41r14 : List AOper := [oN (.move (.v 2)),
 oN (.ca (.v 9)),
 oN (.field 0 0 false 1 (.v 9)),
 oN (.ca (.v 10)),
 oN (.field 0 0 false 1 (.v 10)),
 oN (.binb true (.l 2) (.l 4)),
 oN (.call 38 [.l 0, .l 5]),
 oS 11 (.cs 2 (.v 11) (.l 6))]
theorem a41r14_ev : Ev a41r14 (value_of% a41r14) := fun _ _ => rfl
def a41 : AFun := .mk .iso 2 12 [.c 11 true 2] (.seq (.region a41r0 false) (.seq (.region a41r1 false) (.seq (.seq (.region a41r2 false) (.block 0 (a41l0))) (.seq (.region a41r14 false) (.ret)))))
def a42r0 : List AOper := [oS 3 (.cb (.v 0)),
 oS 1 (.move (.c (.bool false)))]
theorem a42r0_ev : Ev a42r0 (value_of% a42r0) := fun _ _ => rfl
def a42r1 : List AOper := [oN (.ca (.v 3)),
 oN (.field 1 1 false 1 (.v 3)),
 oN (.len 0 (.l 1)),
 oS 2 (.bin .eql (.l 2) (.c (.int .i64 0)))]
theorem a42r1_ev : Ev a42r1 (value_of% a42r1) := fun _ _ => rfl
def a42r2 : List AOper := [oN (.ca (.v 3)),
 oN (.field 0 0 false 1 (.v 3)),
 oN (.un .not (.l 1)),
 oS 1 (.move (.l 2))]
theorem a42r2_ev : Ev a42r2 (value_of% a42r2) := fun _ _ => rfl
def a42r3 : List AOper := [oN (.ca (.v 3)),
 oN (.field 1 1 false 1 (.v 3)),
 oN (.ca (.v 3)),
 oN (.field 1 1 false 1 (.v 3)),
 oN (.len 0 (.l 3)),
 oN (.bin .sub (.l 4) (.c (.int .i64 1))),
 oN (.indexAddr 1 (.l 1) (.l 5)),
 oN (.load false 1 (.l 6)),
 oN (.bin .neq (.l 7) (.c (.int .u32 0))),
 oS 1 (.move (.l 8))]
theorem a42r3_ev : Ev a42r3 (value_of% a42r3) := fun _ _ => rfl
def a42 : AFun := .mk .iso 1 4 [.v 1] (.seq (.region a42r0 false) (.seq (.seq (.region a42r1 false) (.cond (.v 2) (.seq (.region a42r2 false) (.ret)) (.skip))) (.seq (.region a42r3 false) (.ret))))
def a43r0 : List AOper := [oS 4 (.cb (.v 0)),
 oS 1 (.move (.c (.int .i64 0)))]
theorem a43r0_ev : Ev a43r0 (value_of% a43r0) := fun _ _ => rfl
def a43r1 : List AOper := [oN (.ca (.v 4)),
 oN (.field 1 1 false 1 (.v 4)),
 oN (.len 0 (.l 1)),
 oS 2 (.bin .eql (.l 2) (.c (.int .i64 0)))]
theorem a43r1_ev : Ev a43r1 (value_of% a43r1) := fun _ _ => rfl
def a43r2 : List AOper := [oS 1 (.move (.c (.int .i64 0)))]
theorem a43r2_ev : Ev a43r2 (value_of% a43r2) := fun _ _ => rfl
def a43r3 : List AOper := [oN (.ca (.v 4)),
 oS 3 (.field 0 0 false 1 (.v 4))]
theorem a43r3_ev : Ev a43r3 (value_of% a43r3) := fun _ _ => rfl
def a43r4 : List AOper := [oS 1 (.move (.c (.int .i64 (-1))))]
theorem a43r4_ev : Ev a43r4 (value_of% a43r4) := fun _ _ => rfl
def a43r5 : List AOper := [oS 1 (.move (.c (.int .i64 1)))]
theorem a43r5_ev : Ev a43r5 (value_of% a43r5) := fun _ _ => rfl
def a43 : AFun := .mk .iso 1 5 [.v 1] (.seq (.region a43r0 false) (.seq (.seq (.region a43r1 false) (.cond (.v 2) (.seq (.region a43r2 false) (.ret)) (.skip))) (.seq (.seq (.region a43r3 false) (.cond (.v 3) (.seq (.region a43r4 false) (.ret)) (.skip))) (.seq (.region a43r5 false) (.ret)))))
def a44r0 : List AOper := [oS 5 (.cb (.v 1)),
 oS 2 (.move (.c (.isl []))),
 oS 3 (.move (.c (.int .i64 0)))]
theorem a44r0_ev : Ev a44r0 (value_of% a44r0) := fun _ _ => rfl
def a44r1 : List AOper := [oN (.move (.v 0)),
 oN (.len 0 (.l 0)),
 oN (.ca (.v 5)),
 oN (.field 0 0 false 1 (.v 5)),
 oS 4 (.bin .neq (.l 1) (.l 3))]
theorem a44r1_ev : Ev a44r1 (value_of% a44r1) := fun _ _ => rfl
def a44r2 : List AOper := [oS 2 (.move (.c (.isl []))),
 oS 3 (.move (.c (.int .i64 50)))]
theorem a44r2_ev : Ev a44r2 (value_of% a44r2) := fun _ _ => rfl
def a44r3 : List AOper := [oN (.move (.v 0)),
 oN (.call 59 [.l 0]),
 oN (.cl true 3 (.v 5)),
 oN (.call 60 [.l 1, .l 2]),
 oN (.field 2 2 false 1 (.l 3)),
 oN (.indexAddr 1 (.l 4) (.c (.int .i64 0))),
 oN (.load false 1 (.l 5)),
 oS 2 (.move (.l 6)),
 oS 3 (.move (.c (.int .i64 0)))]
theorem a44r3_ev : Ev a44r3 (value_of% a44r3) := fun _ _ => rfl
def a44 : AFun := .mk .iso 2 6 [.v 2, .v 3] (.seq (.region a44r0 false) (.seq (.seq (.region a44r1 false) (.cond (.v 4) (.seq (.region a44r2 false) (.ret)) (.skip))) (.seq (.region a44r3 true) (.ret))))
def a45r0 : List AOper := [oS 2 (.move (.c (.isl [])))]
theorem a45r0_ev : Ev a45r0 (value_of% a45r0) := fun _ _ => rfl
def a45r1 : List AOper := [oN (.move (.v 1)),
 oN (.len 0 (.l 0)),
 oN (.mkslice 2 32 (.agg [.bool false, .isl []]) (.l 1) (.l 1)),
 oS 3 (.move (.l 2))]
theorem a45r1_ev : Ev a45r1 (value_of% a45r1) := fun _ _ => rfl
def a45r2 : List AOper := [oS 4 (.move (.c (.int .i64 0)))]
theorem a45r2_ev : Ev a45r2 (value_of% a45r2) := fun _ _ => rfl
def a45r3 : List AOper := [oN (.move (.v 4)),
 oN (.move (.v 0)),
 oN (.len 0 (.l 1)),
 oS 6 (.bin .lss (.l 0) (.l 2))]
theorem a45r3_ev : Ev a45r3 (value_of% a45r3) := fun _ _ => rfl
def a45r5 : List AOper := [oS 5 (.move (.c (.int .i64 0)))]
theorem a45r5_ev : Ev a45r5 (value_of% a45r5) := fun _ _ => rfl
def a45r6 : List AOper := [oN (.move (.v 5)),
 oN (.move (.v 1)),
 oN (.len 0 (.l 1)),
 oS 7 (.bin .lss (.l 0) (.l 2))]
theorem a45r6_ev : Ev a45r6 (value_of% a45r6) := fun _ _ => rfl
def a45r8 : List AOper := [oN (.move (.v 1)),
 oN (.move (.v 5)),
 oN (.indexAddr 1 (.l 0) (.l 1)),
 oN (.load false 1 (.l 2)),
 oN (.move (.v 0)),
 oN (.move (.v 4)),
 oN (.indexAddr 3 (.l 4) (.l 5)),
 oN (.fieldAddr 0 0 (.l 6)),
 oN (.load false 1 (.l 7)),
 oS 8 (.bin .eql (.l 3) (.l 8))]
theorem a45r8_ev : Ev a45r8 (value_of% a45r8) := fun _ _ => rfl
def a45r9 : List AOper := [oN (.move (.v 3)),
 oN (.move (.v 5)),
 oN (.move (.v 0)),
 oN (.move (.v 4)),
 oN (.indexAddr 3 (.l 2) (.l 3)),
 oN (.fieldAddr 1 1 (.l 4)),
 oN (.load true 2 (.l 5)),
 oN (.indexAddr 2 (.l 0) (.l 1)),
 oN (.store 2 (.l 7) (.l 6))]
theorem a45r9_ev : Ev a45r9 (value_of% a45r9) := fun _ _ => rfl
def a45r7 : List AOper := [oN (.move (.v 5)),
 oN (.bin .add (.l 0) (.c (.int .i64 1))),
 oS 5 (.move (.l 1))]
theorem a45r7_ev : Ev a45r7 (value_of% a45r7) := fun _ _ => rfl
def a45b1 : AIR := .seq (.seq (.region a45r6 false) (.cond (.v 7) (.skip) (.exit 2))) (.seq (.block 3 (.seq (.region a45r8 true) (.cond (.v 8) (.region a45r9 false) (.skip)))) (.region a45r7 false))
def a45l1 : AIR := .loop true [0, 1, 2, 3, 4, 5, 6] a45b1
theorem a45l1_run {E GP} (st) : run E GP a45l1 st = loopK (run E GP) a45l1 st.heap.length true [0, 1, 2, 3, 4, 5, 6] st.rs (run E GP a45b1 { vars := st.vars, heap := st.heap, rs := false }) := run_loop _ _ _ _
def a45r4 : List AOper := [oN (.move (.v 4)),
 oN (.bin .add (.l 0) (.c (.int .i64 1))),
 oS 4 (.move (.l 1))]
theorem a45r4_ev : Ev a45r4 (value_of% a45r4) := fun _ _ => rfl
def a45b0 : AIR := .seq (.seq (.region a45r3 false) (.cond (.v 6) (.skip) (.exit 0))) (.seq (.block 1 (.seq (.region a45r5 false) (.block 2 (a45l1)))) (.region a45r4 false))
def a45l0 : AIR := .loop true [0, 1, 2, 3, 4] a45b0
theorem a45l0_run {E GP} (st) : run E GP a45l0 st = loopK (run E GP) a45l0 st.heap.length true [0, 1, 2, 3, 4] st.rs (run E GP a45b0 { vars := st.vars, heap := st.heap, rs := false }) := run_loop _ _ _ _
def a45r10 : List AOper := [oN (.move (.v 3)),
 oS 2 (.move (.l 0))]
theorem a45r10_ev : Ev a45r10 (value_of% a45r10) := fun _ _ => rfl
def a45 : AFun := .mk .iso 2 9 [.v 2] (.seq (.region a45r0 false) (.seq (.region a45r1 false) (.seq (.seq (.region a45r2 false) (.block 0 (a45l0))) (.seq (.region a45r10 false) (.ret)))))
def a46r0 : List AOper := [oS 7 (.cn (.agg [.int .i64 0, .int .i64 0, .nl]))]
theorem a46r0_ev : Ev a46r0 (value_of% a46r0) := fun _ _ => rfl
def a46r1 : List AOper := [oN (.move (.v 0)),
 oN (.max (.l 0) [.c (.int .i64 0)]),
 oN (.min (.l 1) [.c (.int .i64 16)]),
 oN (.move (.v 1)),
 oN (.max (.l 3) [.c (.int .i64 0)]),
 oN (.min (.l 4) [.c (.int .i64 16)]),
 oN (.call 61 [.l 2, .l 5]),
 oS 8 (.cn (.agg [.int .i64 0, .int .i64 0, .nl])),
 oS 8 (.cs 3 (.l 7) (.l 6))]
theorem a46r1_ev : Ev a46r1 (value_of% a46r1) := fun _ _ => rfl
def a46r2 : List AOper := [oS 3 (.move (.c (.int .i64 0)))]
theorem a46r2_ev : Ev a46r2 (value_of% a46r2) := fun _ _ => rfl
def a46r3 : List AOper := [oN (.move (.v 3)),
 oN (.ca (.v 8)),
 oN (.field 0 0 false 1 (.v 8)),
 oS 5 (.bin .lss (.l 0) (.l 2))]
theorem a46r3_ev : Ev a46r3 (value_of% a46r3) := fun _ _ => rfl
def a46r5 : List AOper := [oS 4 (.move (.c (.int .i64 0)))]
theorem a46r5_ev : Ev a46r5 (value_of% a46r5) := fun _ _ => rfl
def a46r6 : List AOper := [oN (.move (.v 4)),
 oN (.ca (.v 8)),
 oN (.field 1 1 false 1 (.v 8)),
 oN (.bin .lss (.l 0) (.l 2)),
 oN (.move (.l 3)),
 ⟨none, .move (.v 3), some (4, true)⟩,
 ⟨none, .ca (.v 8), some (4, true)⟩,
 ⟨none, .field 1 1 false 1 (.v 8), some (4, true)⟩,
 ⟨none, .bin .mul (.l 5) (.l 7), some (4, true)⟩,
 ⟨none, .move (.v 4), some (4, true)⟩,
 ⟨none, .bin .add (.l 8) (.l 9), some (4, true)⟩,
 ⟨none, .move (.v 2), some (4, true)⟩,
 ⟨none, .len 0 (.l 11), some (4, true)⟩,
 ⟨none, .bin .lss (.l 10) (.l 12), some (4, true)⟩,
 oS 6 (.pick (.l 4) (.l 13) (.c (.bool false)))]
theorem a46r6_ev : Ev a46r6 (value_of% a46r6) := fun _ _ => rfl
def a46r8 : List AOper := [oN (.ca (.v 8)),
 oN (.field 2 2 false 1 (.v 8)),
 oN (.move (.v 3)),
 oN (.indexAddr 1 (.l 1) (.l 2)),
 oN (.load false 1 (.l 3)),
 oN (.move (.v 4)),
 oN (.move (.v 2)),
 oN (.move (.v 3)),
 oN (.ca (.v 8)),
 oN (.field 1 1 false 1 (.v 8)),
 oN (.bin .mul (.l 7) (.l 9)),
 oN (.move (.v 4)),
 oN (.bin .add (.l 10) (.l 11)),
 oN (.indexAddr 1 (.l 6) (.l 12)),
 oN (.load false 1 (.l 13)),
 oN (.bin .rem (.l 14) (.c (.int .i8 10))),
 oN (.conv .i64 (.l 15)),
 oN (.call 14 [.l 16]),
 oN (.indexAddr 2 (.l 4) (.l 5)),
 oN (.store 2 (.l 18) (.l 17))]
theorem a46r8_ev : Ev a46r8 (value_of% a46r8) := fun _ _ => rfl
def a46r7 : List AOper := [oN (.move (.v 4)),
 oN (.bin .add (.l 0) (.c (.int .i64 1))),
 oS 4 (.move (.l 1))]
theorem a46r7_ev : Ev a46r7 (value_of% a46r7) := fun _ _ => rfl
def a46b1 : AIR := .seq (.seq (.region a46r6 false) (.cond (.v 6) (.skip) (.exit 2))) (.seq (.block 3 (.region a46r8 true)) (.region a46r7 false))
def a46l1 : AIR := .loop true [0, 1, 2, 3, 4, 5, 7, 8] a46b1
theorem a46l1_run {E GP} (st) : run E GP a46l1 st = loopK (run E GP) a46l1 st.heap.length true [0, 1, 2, 3, 4, 5, 7, 8] st.rs (run E GP a46b1 { vars := st.vars, heap := st.heap, rs := false }) := run_loop _ _ _ _
def a46r4 : List AOper := [oN (.move (.v 3)),
 oN (.bin .add (.l 0) (.c (.int .i64 1))),
 oS 3 (.move (.l 1))]
theorem a46r4_ev : Ev a46r4 (value_of% a46r4) := fun _ _ => rfl
def a46b0 : AIR := .seq (.seq (.region a46r3 false) (.cond (.v 5) (.skip) (.exit 0))) (.seq (.block 1 (.seq (.region a46r5 false) (.block 2 (a46l1)))) (.region a46r4 false))
def a46l0 : AIR := .loop true [0, 1, 2, 3, 7, 8] a46b0
theorem a46l0_run {E GP} (st) : run E GP a46l0 st = loopK (run E GP) a46l0 st.heap.length true [0, 1, 2, 3, 7, 8] st.rs (run E GP a46b0 { vars := st.vars, heap := st.heap, rs := false }) := run_loop _ _ _ _
def a46r9 : List AOper := [oN (.cl true 3 (.v 8)),
 oS 7 (.cs 3 (.v 7) (.l 0))]
theorem a46r9_ev : Ev a46r9 (value_of% a46r9) := fun _ _ => rfl
def a46 : AFun := .mk .iso 3 9 [.c 7 true 3] (.seq (.region a46r0 false) (.seq (.region a46r1 false) (.seq (.seq (.region a46r2 false) (.block 0 (a46l0))) (.seq (.region a46r9 false) (.ret)))))
def a47r0 : List AOper := [oS 3 (.cb (.v 0)),
 oS 1 (.move (.c (.bool false)))]
theorem a47r0_ev : Ev a47r0 (value_of% a47r0) := fun _ _ => rfl
def a47r1 : List AOper := [oN (.ca (.v 3)),
 oN (.field 1 1 false 1 (.v 3)),
 oN (.len 0 (.l 1)),
 oS 2 (.move (.l 2))]
theorem a47r1_ev : Ev a47r1 (value_of% a47r1) := fun _ _ => rfl
def a47r2 : List AOper := [oN (.move (.v 2)),
 oN (.bin .eql (.l 0) (.c (.int .i64 0))),
 oN (.move (.l 1)),
 ⟨none, .ca (.v 3), some (2, true)⟩,
 ⟨none, .field 0 0 false 1 (.v 3), some (2, true)⟩,
 ⟨none, .un .not (.l 4), some (2, true)⟩,
 oN (.pick (.l 2) (.l 5) (.c (.bool false))),
 oN (.move (.l 6)),
 ⟨none, .move (.v 2), some (7, false)⟩,
 ⟨none, .bin .gtr (.l 8) (.c (.int .i64 0)), some (7, false)⟩,
 ⟨none, .move (.l 9), some (7, false)⟩,
 ⟨none, .ca (.v 3), some (10, true)⟩,
 ⟨none, .field 1 1 false 1 (.v 3), some (10, true)⟩,
 ⟨none, .move (.v 2), some (10, true)⟩,
 ⟨none, .bin .sub (.l 13) (.c (.int .i64 1)), some (10, true)⟩,
 ⟨none, .indexAddr 1 (.l 12) (.l 14), some (10, true)⟩,
 ⟨none, .load false 1 (.l 15), some (10, true)⟩,
 ⟨none, .bin .neq (.l 16) (.c (.int .u32 0)), some (10, true)⟩,
 ⟨none, .pick (.l 10) (.l 17) (.c (.bool false)), some (7, false)⟩,
 oN (.pick (.l 7) (.c (.bool true)) (.l 18)),
 oS 1 (.move (.l 19))]
theorem a47r2_ev : Ev a47r2 (value_of% a47r2) := fun _ _ => rfl
def a47 : AFun := .mk .iso 1 4 [.v 1] (.seq (.region a47r0 false) (.seq (.region a47r1 false) (.seq (.region a47r2 false) (.ret))))
def a48r0 : List AOper := [oS 4 (.cb (.v 0)),
 oS 1 (.move (.c (.int .i64 0)))]
theorem a48r0_ev : Ev a48r0 (value_of% a48r0) := fun _ _ => rfl
def a48r1 : List AOper := [oN (.ca (.v 4)),
 oN (.field 1 1 false 1 (.v 4)),
 oN (.len 0 (.l 1)),
 oN (.bin .eql (.l 2) (.c (.int .i64 0))),
 oS 2 (.move (.l 3))]
theorem a48r1_ev : Ev a48r1 (value_of% a48r1) := fun _ _ => rfl
def a48r2 : List AOper := [oS 1 (.move (.c (.int .i64 0)))]
theorem a48r2_ev : Ev a48r2 (value_of% a48r2) := fun _ _ => rfl
def a48r3 : List AOper := [oN (.ca (.v 4)),
 oN (.field 0 0 false 1 (.v 4)),
 oS 3 (.move (.l 1))]
theorem a48r3_ev : Ev a48r3 (value_of% a48r3) := fun _ _ => rfl
def a48r4 : List AOper := [oS 1 (.move (.c (.int .i64 (-1))))]
theorem a48r4_ev : Ev a48r4 (value_of% a48r4) := fun _ _ => rfl
def a48r5 : List AOper := [oS 1 (.move (.c (.int .i64 1)))]
theorem a48r5_ev : Ev a48r5 (value_of% a48r5) := fun _ _ => rfl
def a48 : AFun := .mk .iso 1 5 [.v 1] (.seq (.region a48r0 false) (.seq (.block 0 (.seq (.region a48r1 false) (.cond (.v 2) (.seq (.region a48r2 false) (.ret)) (.seq (.region a48r3 false) (.cond (.v 3) (.seq (.region a48r4 false) (.ret)) (.skip)))))) (.seq (.region a48r5 false) (.ret))))
def a121r0 : List AOper := [oS 2 (.move (.c (.isl [])))]
theorem a121r0_ev : Ev a121r0 (value_of% a121r0) := fun _ _ => rfl
def a121r1 : List AOper := [oN (.bslice true 1 (.nl) 0 []),
 oS 3 (.move (.l 0))]
theorem a121r1_ev : Ev a121r1 (value_of% a121r1) := fun _ _ => rfl
def a121r2 : List AOper := [oN (.move (.v 1)),
 oS 5 (.bin .lss (.l 0) (.c (.int .i64 0)))]
theorem a121r2_ev : Ev a121r2 (value_of% a121r2) := fun _ _ => rfl
def a121r3 : List AOper := [oN (.move (.v 3)),
 oS 2 (.move (.l 0))]
theorem a121r3_ev : Ev a121r3 (value_of% a121r3) := fun _ _ => rfl
def a121r4 : List AOper := [oN (.move (.v 0)),
 oN (.move (.v 1)),
 oN (.call 19 [.l 0, .l 1]),
 oN (.call 62 [.l 2]),
 oS 7 (.cn (.agg [.int .i64 0, .int .i64 0, .nl])),
 oS 7 (.cs 3 (.l 4) (.l 3))]
theorem a121r4_ev : Ev a121r4 (value_of% a121r4) := fun _ _ => rfl
def a121r5 : List AOper := [oS 4 (.move (.c (.int .i64 0)))]
theorem a121r5_ev : Ev a121r5 (value_of% a121r5) := fun _ _ => rfl
def a121r6 : List AOper := [oN (.move (.v 4)),
 oN (.ca (.v 7)),
 oN (.field 0 0 false 1 (.v 7)),
 oS 6 (.bin .lss (.l 0) (.l 2))]
theorem a121r6_ev : Ev a121r6 (value_of% a121r6) := fun _ _ => rfl
def a121r8 : List AOper := [oN (.move (.v 3)),
 oN (.move (.v 0)),
 oN (.move (.v 1)),
 oN (.ca (.v 7)),
 oN (.field 2 2 false 1 (.v 7)),
 oN (.move (.v 4)),
 oN (.indexAddr 1 (.l 4) (.l 5)),
 oN (.load false 1 (.l 6)),
 oN (.call 40 [.l 1, .l 2, .l 7]),
 oN (.bslice false 1 (.nl) 1 [(0, .l 8)]),
 oN (.append 1 24 (.l 0) (.l 9)),
 oS 3 (.move (.l 10))]
theorem a121r8_ev : Ev a121r8 (value_of% a121r8) := fun _ _ => rfl
def a121r7 : List AOper := [oN (.move (.v 4)),
 oN (.bin .add (.l 0) (.c (.int .i64 1))),
 oS 4 (.move (.l 1))]
theorem a121r7_ev : Ev a121r7 (value_of% a121r7) := fun _ _ => rfl
def a121b0 : AIR := .seq (.seq (.region a121r6 false) (.cond (.v 6) (.skip) (.exit 0))) (.seq (.block 1 (.region a121r8 false)) (.region a121r7 false))
def a121l0 : AIR := .loop true [0, 1, 2, 3, 4, 5, 7] a121b0
theorem a121l0_run {E GP} (st) : run E GP a121l0 st = loopK (run E GP) a121l0 st.heap.length true [0, 1, 2, 3, 4, 5, 7] st.rs (run E GP a121b0 { vars := st.vars, heap := st.heap, rs := false }) := run_loop _ _ _ _
def a121r9 : List AOper := [oN (.move (.v 3)),
 oS 2 (.move (.l 0))]
theorem a121r9_ev : Ev a121r9 (value_of% a121r9) := fun _ _ => rfl
def a121 : AFun := .mk .iso 2 8 [.v 2] (.seq (.region a121r0 false) (.seq (.region a121r1 false) (.seq (.seq (.region a121r2 false) (.cond (.v 5) (.seq (.region a121r3 false) (.ret)) (.skip))) (.seq (.region a121r4 false) (.seq (.seq (.region a121r5 false) (.block 0 (a121l0))) (.seq (.region a121r9 false) (.ret)))))))
def a49r0 : List AOper := [oS 4 (.cb (.v 0)),
 oS 5 (.cb (.v 1)),
 oS 6 (.cn (.agg [.bool false, .isl []]))]
theorem a49r0_ev : Ev a49r0 (value_of% a49r0) := fun _ _ => rfl
def a49r1 : List AOper := [oN (.ca (.v 4)),
 oN (.field 0 0 false 1 (.v 4)),
 oN (.ca (.v 5)),
 oN (.field 0 0 false 1 (.v 5)),
 oS 2 (.binb false (.l 1) (.l 3))]
theorem a49r1_ev : Ev a49r1 (value_of% a49r1) := fun _ _ => rfl
def a49r2 : List AOper := [oN (.ca (.v 4)),
 oN (.field 1 1 false 1 (.v 4)),
 oN (.ca (.v 5)),
 oN (.field 1 1 false 1 (.v 5)),
 oN (.call 63 [.l 1, .l 3]),
 oN (.ca (.v 4)),
 oN (.field 0 0 false 1 (.v 4)),
 oN (.call 38 [.l 4, .l 6]),
 oS 6 (.cs 2 (.v 6) (.l 7))]
theorem a49r2_ev : Ev a49r2 (value_of% a49r2) := fun _ _ => rfl
def a49r3 : List AOper := [oN (.ca (.v 4)),
 oN (.field 1 1 false 1 (.v 4)),
 oN (.ca (.v 5)),
 oN (.field 1 1 false 1 (.v 5)),
 oS 3 (.call 57 [.l 1, .l 3])]
theorem a49r3_ev : Ev a49r3 (value_of% a49r3) := fun _ _ => rfl
def a49r4 : List AOper := [oN (.ca (.v 5)),
 oN (.field 1 1 false 1 (.v 5)),
 oN (.ca (.v 4)),
 oN (.field 1 1 false 1 (.v 4)),
 oN (.call 64 [.l 1, .l 3]),
 oN (.ca (.v 5)),
 oN (.field 0 0 false 1 (.v 5)),
 oN (.call 38 [.l 4, .l 6]),
 oS 6 (.cs 2 (.v 6) (.l 7))]
theorem a49r4_ev : Ev a49r4 (value_of% a49r4) := fun _ _ => rfl
def a49r5 : List AOper := [oN (.ca (.v 4)),
 oN (.field 1 1 false 1 (.v 4)),
 oN (.ca (.v 5)),
 oN (.field 1 1 false 1 (.v 5)),
 oN (.call 64 [.l 1, .l 3]),
 oN (.ca (.v 4)),
 oN (.field 0 0 false 1 (.v 4)),
 oN (.call 38 [.l 4, .l 6]),
 oS 6 (.cs 2 (.v 6) (.l 7))]
theorem a49r5_ev : Ev a49r5 (value_of% a49r5) := fun _ _ => rfl
def a49 : AFun := .mk .iso 2 7 [.c 6 true 2] (.seq (.region a49r0 false) (.seq (.seq (.region a49r1 false) (.cond (.v 2) (.seq (.region a49r2 true) (.ret)) (.skip))) (.seq (.seq (.region a49r3 false) (.cond (.v 3) (.seq (.region a49r4 true) (.ret)) (.skip))) (.seq (.region a49r5 true) (.ret)))))
def a50r0 : List AOper := [oS 6 (.cn (.agg [.int .i64 0, .int .i64 0, .nl])),
 oS 2 (.move (.c (.bool false)))]
theorem a50r0_ev : Ev a50r0 (value_of% a50r0) := fun _ _ => rfl
def a50r1 : List AOper := [oN (.move (.v 0)),
 oN (.move (.v 1)),
 oN (.call 65 [.l 0, .l 1]),
 oN (.move (.l 2)),
 oN (.extract 0 (.l 3)),
 oN (.extract 1 (.l 3)),
 oS 3 (.move (.l 4)),
 oS 4 (.move (.l 5))]
theorem a50r1_ev : Ev a50r1 (value_of% a50r1) := fun _ _ => rfl
def a50r2 : List AOper := [oN (.move (.v 4)),
 oS 5 (.un .not (.l 0))]
theorem a50r2_ev : Ev a50r2 (value_of% a50r2) := fun _ _ => rfl
def a50r3 : List AOper := [oN (.build [.int .i64 0, .int .i64 0, .nl] []),
 oS 6 (.cs 3 (.v 6) (.l 0)),
 oS 2 (.move (.c (.bool false)))]
theorem a50r3_ev : Ev a50r3 (value_of% a50r3) := fun _ _ => rfl
def a50r4 : List AOper := [oN (.move (.v 0)),
 oN (.move (.v 3)),
 oN (.indexAddr 3 (.l 0) (.l 1)),
 oN (.load true 3 (.l 2)),
 oS 6 (.cs 3 (.v 6) (.l 3)),
 oS 2 (.move (.c (.bool true)))]
theorem a50r4_ev : Ev a50r4 (value_of% a50r4) := fun _ _ => rfl
def a50 : AFun := .mk .iso 2 7 [.c 6 true 3, .v 2] (.seq (.region a50r0 false) (.seq (.region a50r1 false) (.seq (.seq (.region a50r2 false) (.cond (.v 5) (.seq (.region a50r3 false) (.ret)) (.skip))) (.seq (.region a50r4 false) (.ret)))))
def a52r0 : List AOper := [oS 2 (.move (.c (.bool false)))]
theorem a52r0_ev : Ev a52r0 (value_of% a52r0) := fun _ _ => rfl
def a52r1 : List AOper := [oN (.move (.v 0)),
 oN (.move (.v 1)),
 oN (.call 66 [.l 0, .l 1]),
 oN (.bin .geq (.l 2) (.c (.int .i64 0))),
 oS 2 (.move (.l 3))]
theorem a52r1_ev : Ev a52r1 (value_of% a52r1) := fun _ _ => rfl
def a52 : AFun := .mk .shr 2 3 [.v 2] (.seq (.region a52r0 false) (.seq (.region a52r1 false) (.ret)))
def a51r0 : List AOper := [oS 3 (.cb (.v 0)),
 oS 2 (.move (.c (.bool false)))]
theorem a51r0_ev : Ev a51r0 (value_of% a51r0) := fun _ _ => rfl
def a51r1 : List AOper := [oN (.ca (.v 3)),
 oN (.field 1 1 false 1 (.v 3)),
 oN (.load false 1 (.v 1)),
 oN (.bin .neq (.l 1) (.l 2)),
 oS 2 (.move (.l 3))]
theorem a51r1_ev : Ev a51r1 (value_of% a51r1) := fun _ _ => rfl
def a51 : AFun := .mk .shr 2 4 [.v 2] (.seq (.region a51r0 false) (.seq (.region a51r1 false) (.ret)))
def a53r0 : List AOper := [oS 4 (.cb (.v 0)),
 oS 5 (.cb (.v 1)),
 oS 6 (.cn (.agg [.bool false, .isl []]))]
theorem a53r0_ev : Ev a53r0 (value_of% a53r0) := fun _ _ => rfl
def a53r1 : List AOper := [oN (.ca (.v 4)),
 oN (.field 0 0 false 1 (.v 4)),
 oN (.ca (.v 5)),
 oN (.field 0 0 false 1 (.v 5)),
 oN (.binb false (.l 1) (.l 3)),
 oS 2 (.move (.l 4))]
theorem a53r1_ev : Ev a53r1 (value_of% a53r1) := fun _ _ => rfl
def a53r2 : List AOper := [oN (.ca (.v 4)),
 oN (.field 1 1 false 1 (.v 4)),
 oN (.ca (.v 5)),
 oN (.field 1 1 false 1 (.v 5)),
 oN (.call 67 [.l 1, .l 3]),
 oN (.ca (.v 4)),
 oN (.field 0 0 false 1 (.v 4)),
 oN (.call 54 [.l 4, .l 6]),
 oS 6 (.cs 2 (.v 6) (.l 7))]
theorem a53r2_ev : Ev a53r2 (value_of% a53r2) := fun _ _ => rfl
def a53r3 : List AOper := [oN (.ca (.v 4)),
 oN (.field 1 1 false 1 (.v 4)),
 oN (.ca (.v 5)),
 oN (.field 1 1 false 1 (.v 5)),
 oN (.call 68 [.l 1, .l 3]),
 oN (.bin .lss (.l 4) (.c (.int .i64 0))),
 oS 3 (.move (.l 5))]
theorem a53r3_ev : Ev a53r3 (value_of% a53r3) := fun _ _ => rfl
def a53r4 : List AOper := [oN (.ca (.v 5)),
 oN (.field 1 1 false 1 (.v 5)),
 oN (.ca (.v 4)),
 oN (.field 1 1 false 1 (.v 4)),
 oN (.call 69 [.l 1, .l 3]),
 oN (.ca (.v 5)),
 oN (.field 0 0 false 1 (.v 5)),
 oN (.call 54 [.l 4, .l 6]),
 oS 6 (.cs 2 (.v 6) (.l 7))]
theorem a53r4_ev : Ev a53r4 (value_of% a53r4) := fun _ _ => rfl
def a53r5 : List AOper := [oN (.ca (.v 4)),
 oN (.field 1 1 false 1 (.v 4)),
 oN (.ca (.v 5)),
 oN (.field 1 1 false 1 (.v 5)),
 oN (.call 69 [.l 1, .l 3]),
 oN (.ca (.v 4)),
 oN (.field 0 0 false 1 (.v 4)),
 oN (.call 54 [.l 4, .l 6]),
 oS 6 (.cs 2 (.v 6) (.l 7))]
theorem a53r5_ev : Ev a53r5 (value_of% a53r5) := fun _ _ => rfl
def a53 : AFun := .mk .iso 2 7 [.c 6 true 2] (.seq (.region a53r0 false) (.seq (.block 0 (.seq (.region a53r1 false) (.cond (.v 2) (.seq (.region a53r2 true) (.ret)) (.seq (.region a53r3 false) (.cond (.v 3) (.seq (.region a53r4 true) (.ret)) (.skip)))))) (.seq (.region a53r5 true) (.ret))))
def a54r0 : List AOper := [oS 5 (.cn (.agg [.bool false, .isl []]))]
theorem a54r0_ev : Ev a54r0 (value_of% a54r0) := fun _ _ => rfl
def a54r1 : List AOper := [oN (.move (.v 0)),
 oN (.len 0 (.l 0)),
 oS 2 (.move (.l 1))]
theorem a54r1_ev : Ev a54r1 (value_of% a54r1) := fun _ _ => rfl
def a54r2 : List AOper := [oN (.move (.v 2)),
 oS 3 (.bin .gtr (.l 0) (.c (.int .i64 0)))]
theorem a54r2_ev : Ev a54r2 (value_of% a54r2) := fun _ _ => rfl
def a54r3 : List AOper := [oN (.move (.v 0)),
 oN (.move (.v 2)),
 oN (.bin .sub (.l 1) (.c (.int .i64 1))),
 oN (.indexAddr 1 (.l 0) (.l 2)),
 oN (.load false 1 (.l 3)),
 oS 4 (.bin .neq (.l 4) (.c (.int .u32 0)))]
theorem a54r3_ev : Ev a54r3 (value_of% a54r3) := fun _ _ => rfl
def a54r4 : List AOper := [oN (.move (.v 2)),
 oN (.bin .sub (.l 0) (.c (.int .i64 1))),
 oS 2 (.move (.l 1))]
theorem a54r4_ev : Ev a54r4 (value_of% a54r4) := fun _ _ => rfl
def a54b0 : AIR := .seq (.seq (.region a54r2 false) (.cond (.v 3) (.skip) (.exit 0))) (.block 1 (.seq (.seq (.region a54r3 false) (.cond (.v 4) (.exit 0) (.skip))) (.region a54r4 false)))
def a54l0 : AIR := .loop true [0, 1, 2, 5] a54b0
theorem a54l0_run {E GP} (st) : run E GP a54l0 st = loopK (run E GP) a54l0 st.heap.length true [0, 1, 2, 5] st.rs (run E GP a54b0 { vars := st.vars, heap := st.heap, rs := false }) := run_loop _ _ _ _
def a54r5 : List AOper := [oN (.move (.v 1)),
 oN (.move (.l 0)),
 ⟨none, .move (.v 2), some (1, true)⟩,
 ⟨none, .bin .gtr (.l 2) (.c (.int .i64 0)), some (1, true)⟩,
 oN (.pick (.l 1) (.l 3) (.c (.bool false))),
 oN (.move (.v 0)),
 oN (.move (.v 2)),
 oN (.move (.v 2)),
 oN (.slice 1 (.l 5) none (some (.l 6)) (some (.l 7))),
 oN (.build [.bool false, .isl []] [(0, .l 4), (1, .l 8)]),
 oS 5 (.cs 2 (.v 5) (.l 9))]
theorem a54r5_ev : Ev a54r5 (value_of% a54r5) := fun _ _ => rfl
def a54 : AFun := .mk .con 2 6 [.c 5 true 2] (.seq (.region a54r0 false) (.scope (.seq (.region a54r1 false) (.seq (.label 0) (.seq (.block 0 (a54l0)) (.seq (.region a54r5 false) (.ret)))))))
def a55r0 : List AOper := [oS 1 (.box true (.v 0)),
 oS 2 (.move (.c (.a .nilFunc)))]
theorem a55r0_ev : Ev a55r0 (value_of% a55r0) := fun _ _ => rfl
def a55r1 : List AOper := [oN (.mkfn 72 [.v 1]),
 oS 2 (.move (.l 0))]
theorem a55r1_ev : Ev a55r1 (value_of% a55r1) := fun _ _ => rfl
def a55 : AFun := .mk .shr 1 3 [.v 2] (.seq (.region a55r0 false) (.seq (.region a55r1 false) (.ret)))
def a57r0 : List AOper := [oS 2 (.move (.c (.bool false)))]
theorem a57r0_ev : Ev a57r0 (value_of% a57r0) := fun _ _ => rfl
def a57r1 : List AOper := [oN (.move (.v 0)),
 oN (.len 0 (.l 0)),
 oN (.move (.v 1)),
 oN (.len 0 (.l 2)),
 oS 4 (.bin .neq (.l 1) (.l 3))]
theorem a57r1_ev : Ev a57r1 (value_of% a57r1) := fun _ _ => rfl
def a57r2 : List AOper := [oN (.move (.v 0)),
 oN (.len 0 (.l 0)),
 oN (.move (.v 1)),
 oN (.len 0 (.l 2)),
 oN (.bin .lss (.l 1) (.l 3)),
 oS 2 (.move (.l 4))]
theorem a57r2_ev : Ev a57r2 (value_of% a57r2) := fun _ _ => rfl
def a57r3 : List AOper := [oN (.move (.v 0)),
 oN (.len 0 (.l 0)),
 oN (.bin .sub (.l 1) (.c (.int .i64 1))),
 oS 3 (.move (.l 2))]
theorem a57r3_ev : Ev a57r3 (value_of% a57r3) := fun _ _ => rfl
def a57r4 : List AOper := [oN (.move (.v 3)),
 oS 5 (.bin .geq (.l 0) (.c (.int .i64 0)))]
theorem a57r4_ev : Ev a57r4 (value_of% a57r4) := fun _ _ => rfl
def a57r6 : List AOper := [oN (.move (.v 0)),
 oN (.move (.v 3)),
 oN (.indexAddr 1 (.l 0) (.l 1)),
 oN (.load false 1 (.l 2)),
 oN (.move (.v 1)),
 oN (.move (.v 3)),
 oN (.indexAddr 1 (.l 4) (.l 5)),
 oN (.load false 1 (.l 6)),
 oS 6 (.bin .neq (.l 3) (.l 7))]
theorem a57r6_ev : Ev a57r6 (value_of% a57r6) := fun _ _ => rfl
def a57r7 : List AOper := [oN (.move (.v 0)),
 oN (.move (.v 3)),
 oN (.indexAddr 1 (.l 0) (.l 1)),
 oN (.load false 1 (.l 2)),
 oN (.move (.v 1)),
 oN (.move (.v 3)),
 oN (.indexAddr 1 (.l 4) (.l 5)),
 oN (.load false 1 (.l 6)),
 oN (.bin .lss (.l 3) (.l 7)),
 oS 2 (.move (.l 8))]
theorem a57r7_ev : Ev a57r7 (value_of% a57r7) := fun _ _ => rfl
def a57r5 : List AOper := [oN (.move (.v 3)),
 oN (.bin .sub (.l 0) (.c (.int .i64 1))),
 oS 3 (.move (.l 1))]
theorem a57r5_ev : Ev a57r5 (value_of% a57r5) := fun _ _ => rfl
def a57b0 : AIR := .seq (.seq (.region a57r4 false) (.cond (.v 5) (.skip) (.exit 0))) (.seq (.block 1 (.seq (.region a57r6 true) (.cond (.v 6) (.seq (.region a57r7 true) (.ret)) (.skip)))) (.region a57r5 false))
def a57l0 : AIR := .loop true [0, 1, 2, 3, 4] a57b0
theorem a57l0_run {E GP} (st) : run E GP a57l0 st = loopK (run E GP) a57l0 st.heap.length true [0, 1, 2, 3, 4] st.rs (run E GP a57b0 { vars := st.vars, heap := st.heap, rs := false }) := run_loop _ _ _ _
def a57r8 : List AOper := [oS 2 (.move (.c (.bool false)))]
theorem a57r8_ev : Ev a57r8 (value_of% a57r8) := fun _ _ => rfl
def a57 : AFun := .mk .iso 2 7 [.v 2] (.seq (.region a57r0 false) (.seq (.seq (.region a57r1 false) (.cond (.v 4) (.seq (.region a57r2 false) (.ret)) (.skip))) (.seq (.seq (.region a57r3 false) (.block 0 (a57l0))) (.seq (.region a57r8 false) (.ret)))))
def a60r0 : List AOper := [oS 2 (.cb (.v 0)),
 oS 3 (.cb (.v 1)),
 oS 4 (.cn (.agg [.int .i64 0, .int .i64 0, .nl]))]
theorem a60r0_ev : Ev a60r0 (value_of% a60r0) := fun _ _ => rfl
def a60r1 : List AOper := [oN (.cl true 3 (.v 2)),
 oN (.cl true 3 (.v 3)),
 oN (.call 73 [.l 0, .l 1]),
 oN (.move (.l 2)),
 oN (.extract 0 (.l 3)),
 oN (.extract 1 (.l 3)),
 oS 5 (.cn (.agg [.int .i64 0, .int .i64 0, .nl])),
 oS 5 (.cs 3 (.l 6) (.l 4)),
 oN (.move (.l 5))]
theorem a60r1_ev : Ev a60r1 (value_of% a60r1) := fun _ _ => rfl
def a60r2 : List AOper := [oN (.cl true 3 (.v 5)),
 oS 4 (.cs 3 (.v 4) (.l 0))]
theorem a60r2_ev : Ev a60r2 (value_of% a60r2) := fun _ _ => rfl
def a60 : AFun := .mk .iso 2 6 [.c 4 true 3] (.seq (.region a60r0 false) (.seq (.region a60r1 false) (.seq (.region a60r2 false) (.ret))))
def a59r0 : List AOper := [oS 1 (.cn (.agg [.int .i64 0, .int .i64 0, .nl]))]
theorem a59r0_ev : Ev a59r0 (value_of% a59r0) := fun _ _ => rfl
def a59r1 : List AOper := [oN (.move (.v 0)),
 oN (.len 0 (.l 0)),
 oN (.move (.v 0)),
 oN (.bslice false 1 (.nl) 1 [(0, .l 2)]),
 oN (.build [.int .i64 0, .int .i64 0, .nl] [(0, .c (.int .i64 1)), (1, .l 1), (2, .l 3)]),
 oS 1 (.cs 3 (.v 1) (.l 4))]
theorem a59r1_ev : Ev a59r1 (value_of% a59r1) := fun _ _ => rfl
def a59 : AFun := .mk .iso 1 2 [.c 1 true 3] (.seq (.region a59r0 false) (.seq (.region a59r1 false) (.ret)))
def a61r0 : List AOper := [oS 5 (.cn (.agg [.int .i64 0, .int .i64 0, .nl]))]
theorem a61r0_ev : Ev a61r0 (value_of% a61r0) := fun _ _ => rfl
def a61r1 : List AOper := [oN (.bslice true 1 (.nl) 0 []),
 oS 2 (.move (.l 0))]
theorem a61r1_ev : Ev a61r1 (value_of% a61r1) := fun _ _ => rfl
def a61r2 : List AOper := [oS 3 (.move (.c (.int .i64 0)))]
theorem a61r2_ev : Ev a61r2 (value_of% a61r2) := fun _ _ => rfl
def a61r3 : List AOper := [oN (.move (.v 3)),
 oN (.move (.v 0)),
 oS 4 (.bin .lss (.l 0) (.l 1))]
theorem a61r3_ev : Ev a61r3 (value_of% a61r3) := fun _ _ => rfl
def a61r5 : List AOper := [oN (.move (.v 2)),
 oN (.move (.v 1)),
 oN (.mkslice 2 32 (.agg [.bool false, .isl []]) (.l 1) (.l 1)),
 oN (.bslice true 1 (.nl) 1 [(0, .l 2)]),
 oN (.append 1 24 (.l 0) (.l 3)),
 oS 2 (.move (.l 4))]
theorem a61r5_ev : Ev a61r5 (value_of% a61r5) := fun _ _ => rfl
def a61r4 : List AOper := [oN (.move (.v 3)),
 oN (.bin .add (.l 0) (.c (.int .i64 1))),
 oS 3 (.move (.l 1))]
theorem a61r4_ev : Ev a61r4 (value_of% a61r4) := fun _ _ => rfl
def a61b0 : AIR := .seq (.seq (.region a61r3 false) (.cond (.v 4) (.skip) (.exit 0))) (.seq (.block 1 (.region a61r5 false)) (.region a61r4 false))
def a61l0 : AIR := .loop false [0, 1, 2, 3, 5] a61b0
theorem a61l0_run {E GP} (st) : run E GP a61l0 st = loopK (run E GP) a61l0 st.heap.length false [0, 1, 2, 3, 5] st.rs (run E GP a61b0 { vars := st.vars, heap := st.heap, rs := false }) := run_loop _ _ _ _
def a61r6 : List AOper := [oN (.move (.v 0)),
 oN (.move (.v 1)),
 oN (.move (.v 2)),
 oN (.build [.int .i64 0, .int .i64 0, .nl] [(0, .l 0), (1, .l 1), (2, .l 2)]),
 oS 5 (.cs 3 (.v 5) (.l 3))]
theorem a61r6_ev : Ev a61r6 (value_of% a61r6) := fun _ _ => rfl
def a61 : AFun := .mk .keep 2 6 [.c 5 true 3] (.seq (.region a61r0 false) (.seq (.region a61r1 false) (.seq (.seq (.region a61r2 false) (.block 0 (a61l0))) (.seq (.region a61r6 false) (.ret)))))
def a62r0 : List AOper := [oS 3 (.cb (.v 0)),
 oS 4 (.cn (.agg [.int .i64 0, .int .i64 0, .nl]))]
theorem a62r0_ev : Ev a62r0 (value_of% a62r0) := fun _ _ => rfl
def a62r1 : List AOper := [oN (.cl true 3 (.v 3)),
 oN (.call 74 [.l 0]),
 oS 1 (.alloc (.agg [.agg [.int .i64 0, .int .i64 0, .nl], .agg [.int .i64 0, .int .i64 0, .nl], .agg [.int .i64 0, .int .i64 0, .nl]])),
 oN (.store 9 (.l 2) (.l 1))]
theorem a62r1_ev : Ev a62r1 (value_of% a62r1) := fun _ _ => rfl
def a62r2 : List AOper := [oN (.fieldAddr 0 0 (.v 1)),
 oN (.load true 3 (.l 0)),
 oN (.call 75 [.l 1]),
 oS 2 (.move (.l 2))]
theorem a62r2_ev : Ev a62r2 (value_of% a62r2) := fun _ _ => rfl
def a62r3 : List AOper := [oN (.ca (.v 3)),
 oN (.field 0 0 false 1 (.v 3)),
 oN (.move (.v 2)),
 oN (.bin .sub (.l 1) (.l 2)),
 oN (.ca (.v 3)),
 oN (.field 0 0 false 1 (.v 3)),
 oN (.fieldAddr 1 3 (.v 1)),
 oN (.fieldAddr 2 2 (.l 6)),
 oN (.load false 1 (.l 7)),
 oN (.move (.v 2)),
 oN (.slice 1 (.l 8) (some (.l 9)) none none),
 oN (.build [.int .i64 0, .int .i64 0, .nl] [(0, .l 3), (1, .l 5), (2, .l 10)]),
 oS 5 (.cn (.agg [.int .i64 0, .int .i64 0, .nl])),
 oS 5 (.cs 3 (.l 12) (.l 11))]
theorem a62r3_ev : Ev a62r3 (value_of% a62r3) := fun _ _ => rfl
def a62r4 : List AOper := [oN (.cl true 3 (.v 5)),
 oN (.call 76 [.l 0]),
 oS 4 (.cs 3 (.v 4) (.l 1))]
theorem a62r4_ev : Ev a62r4 (value_of% a62r4) := fun _ _ => rfl
def a62 : AFun := .mk .iso 1 6 [.c 4 true 3] (.seq (.region a62r0 false) (.seq (.region a62r1 false) (.seq (.region a62r2 false) (.seq (.region a62r3 true) (.seq (.region a62r4 false) (.ret))))))
def a63r0 : List AOper := [oS 2 (.move (.c (.isl [])))]
theorem a63r0_ev : Ev a63r0 (value_of% a63r0) := fun _ _ => rfl
def a63r1 : List AOper := [oN (.bslice true 1 (.int .u32 0) 0 []),
 oS 3 (.move (.l 0)),
 oS 4 (.move (.c (.int .u64 0)))]
theorem a63r1_ev : Ev a63r1 (value_of% a63r1) := fun _ _ => rfl
def a63r2 : List AOper := [oS 5 (.move (.c (.int .i64 0)))]
theorem a63r2_ev : Ev a63r2 (value_of% a63r2) := fun _ _ => rfl
def a63r3 : List AOper := [oN (.move (.v 5)),
 oN (.move (.v 0)),
 oN (.len 0 (.l 1)),
 oN (.bin .lss (.l 0) (.l 2)),
 oN (.move (.l 3)),
 ⟨none, .move (.v 5), some (4, false)⟩,
 ⟨none, .move (.v 1), some (4, false)⟩,
 ⟨none, .len 0 (.l 6), some (4, false)⟩,
 ⟨none, .bin .lss (.l 5) (.l 7), some (4, false)⟩,
 oN (.pick (.l 4) (.c (.bool true)) (.l 8)),
 oN (.move (.l 9)),
 ⟨none, .move (.v 4), some (10, false)⟩,
 ⟨none, .bin .gtr (.l 11) (.c (.int .u64 0)), some (10, false)⟩,
 oS 6 (.pick (.l 10) (.c (.bool true)) (.l 12))]
theorem a63r3_ev : Ev a63r3 (value_of% a63r3) := fun _ _ => rfl
def a63r5 : List AOper := [oN (.move (.v 5)),
 oN (.move (.v 0)),
 oN (.len 0 (.l 1)),
 oS 7 (.bin .lss (.l 0) (.l 2))]
theorem a63r5_ev : Ev a63r5 (value_of% a63r5) := fun _ _ => rfl
def a63r6 : List AOper := [oN (.move (.v 4)),
 oN (.move (.v 0)),
 oN (.move (.v 5)),
 oN (.indexAddr 1 (.l 1) (.l 2)),
 oN (.load false 1 (.l 3)),
 oN (.conv .u64 (.l 4)),
 oN (.bin .add (.l 0) (.l 5)),
 oS 4 (.move (.l 6))]
theorem a63r6_ev : Ev a63r6 (value_of% a63r6) := fun _ _ => rfl
def a63r7 : List AOper := [oN (.move (.v 5)),
 oN (.move (.v 1)),
 oN (.len 0 (.l 1)),
 oS 8 (.bin .lss (.l 0) (.l 2))]
theorem a63r7_ev : Ev a63r7 (value_of% a63r7) := fun _ _ => rfl
def a63r8 : List AOper := [oN (.move (.v 4)),
 oN (.move (.v 1)),
 oN (.move (.v 5)),
 oN (.indexAddr 1 (.l 1) (.l 2)),
 oN (.load false 1 (.l 3)),
 oN (.conv .u64 (.l 4)),
 oN (.bin .add (.l 0) (.l 5)),
 oS 4 (.move (.l 6))]
theorem a63r8_ev : Ev a63r8 (value_of% a63r8) := fun _ _ => rfl
def a63r9 : List AOper := [oN (.move (.v 3)),
 oN (.move (.v 4)),
 oN (.conv .u32 (.l 1)),
 oN (.bslice false 1 (.int .u32 0) 1 [(0, .l 2)]),
 oN (.append 1 4 (.l 0) (.l 3)),
 oS 3 (.move (.l 4))]
theorem a63r9_ev : Ev a63r9 (value_of% a63r9) := fun _ _ => rfl
def a63r10 : List AOper := [oN (.move (.v 4)),
 oN (.bin .quo (.l 0) (.c (.int .u64 4294967296))),
 oS 4 (.move (.l 1))]
theorem a63r10_ev : Ev a63r10 (value_of% a63r10) := fun _ _ => rfl
def a63r4 : List AOper := [oN (.move (.v 5)),
 oN (.bin .add (.l 0) (.c (.int .i64 1))),
 oS 5 (.move (.l 1))]
theorem a63r4_ev : Ev a63r4 (value_of% a63r4) := fun _ _ => rfl
def a63b0 : AIR := .seq (.seq (.region a63r3 false) (.cond (.v 6) (.skip) (.exit 0))) (.seq (.block 1 (.seq (.seq (.region a63r5 false) (.cond (.v 7) (.region a63r6 false) (.skip))) (.seq (.seq (.region a63r7 false) (.cond (.v 8) (.region a63r8 false) (.skip))) (.seq (.region a63r9 false) (.region a63r10 false))))) (.region a63r4 false))
def a63l0 : AIR := .loop true [0, 1, 2, 3, 4, 5] a63b0
theorem a63l0_run {E GP} (st) : run E GP a63l0 st = loopK (run E GP) a63l0 st.heap.length true [0, 1, 2, 3, 4, 5] st.rs (run E GP a63b0 { vars := st.vars, heap := st.heap, rs := false }) := run_loop _ _ _ _
def a63r11 : List AOper := [oN (.move (.v 3)),
 oS 2 (.move (.l 0))]
theorem a63r11_ev : Ev a63r11 (value_of% a63r11) := fun _ _ => rfl
def a63 : AFun := .mk .iso 2 9 [.v 2] (.seq (.region a63r0 false) (.seq (.region a63r1 false) (.seq (.seq (.region a63r2 false) (.block 0 (a63l0))) (.seq (.region a63r11 false) (.ret)))))
def a64r0 : List AOper := [oS 2 (.move (.c (.isl [])))]
theorem a64r0_ev : Ev a64r0 (value_of% a64r0) := fun _ _ => rfl
def a64r1 : List AOper := [oN (.bslice true 1 (.int .u32 0) 0 []),
 oS 3 (.move (.l 0)),
 oS 4 (.move (.c (.int .i64 0)))]
theorem a64r1_ev : Ev a64r1 (value_of% a64r1) := fun _ _ => rfl
def a64r2 : List AOper := [oS 5 (.move (.c (.int .i64 0)))]
theorem a64r2_ev : Ev a64r2 (value_of% a64r2) := fun _ _ => rfl
def a64r3 : List AOper := [oN (.move (.v 5)),
 oN (.move (.v 0)),
 oN (.len 0 (.l 1)),
 oS 7 (.bin .lss (.l 0) (.l 2))]
theorem a64r3_ev : Ev a64r3 (value_of% a64r3) := fun _ _ => rfl
def a64r5 : List AOper := [oN (.move (.v 0)),
 oN (.move (.v 5)),
 oN (.indexAddr 1 (.l 0) (.l 1)),
 oN (.load false 1 (.l 2)),
 oN (.conv .i64 (.l 3)),
 oN (.move (.v 4)),
 oN (.bin .sub (.l 4) (.l 5)),
 oS 6 (.move (.l 6))]
theorem a64r5_ev : Ev a64r5 (value_of% a64r5) := fun _ _ => rfl
def a64r6 : List AOper := [oN (.move (.v 5)),
 oN (.move (.v 1)),
 oN (.len 0 (.l 1)),
 oS 8 (.bin .lss (.l 0) (.l 2))]
theorem a64r6_ev : Ev a64r6 (value_of% a64r6) := fun _ _ => rfl
def a64r7 : List AOper := [oN (.move (.v 6)),
 oN (.move (.v 1)),
 oN (.move (.v 5)),
 oN (.indexAddr 1 (.l 1) (.l 2)),
 oN (.load false 1 (.l 3)),
 oN (.conv .i64 (.l 4)),
 oN (.bin .sub (.l 0) (.l 5)),
 oS 6 (.move (.l 6))]
theorem a64r7_ev : Ev a64r7 (value_of% a64r7) := fun _ _ => rfl
def a64r8 : List AOper := [oS 4 (.move (.c (.int .i64 0)))]
theorem a64r8_ev : Ev a64r8 (value_of% a64r8) := fun _ _ => rfl
def a64r9 : List AOper := [oN (.move (.v 6)),
 oS 9 (.bin .lss (.l 0) (.c (.int .i64 0)))]
theorem a64r9_ev : Ev a64r9 (value_of% a64r9) := fun _ _ => rfl
def a64r10 : List AOper := [oN (.move (.v 6)),
 oN (.bin .add (.l 0) (.c (.int .i64 4294967296))),
 oS 6 (.move (.l 1))]
theorem a64r10_ev : Ev a64r10 (value_of% a64r10) := fun _ _ => rfl
def a64r11 : List AOper := [oS 4 (.move (.c (.int .i64 1)))]
theorem a64r11_ev : Ev a64r11 (value_of% a64r11) := fun _ _ => rfl
def a64r12 : List AOper := [oN (.move (.v 3)),
 oN (.move (.v 6)),
 oN (.conv .u32 (.l 1)),
 oN (.bslice false 1 (.int .u32 0) 1 [(0, .l 2)]),
 oN (.append 1 4 (.l 0) (.l 3)),
 oS 3 (.move (.l 4))]
theorem a64r12_ev : Ev a64r12 (value_of% a64r12) := fun _ _ => rfl
def a64r4 : List AOper := [oN (.move (.v 5)),
 oN (.bin .add (.l 0) (.c (.int .i64 1))),
 oS 5 (.move (.l 1))]
theorem a64r4_ev : Ev a64r4 (value_of% a64r4) := fun _ _ => rfl
def a64b0 : AIR := .seq (.seq (.region a64r3 false) (.cond (.v 7) (.skip) (.exit 0))) (.seq (.block 1 (.seq (.region a64r5 false) (.seq (.seq (.region a64r6 false) (.cond (.v 8) (.region a64r7 false) (.skip))) (.seq (.region a64r8 false) (.seq (.seq (.region a64r9 false) (.cond (.v 9) (.seq (.region a64r10 false) (.region a64r11 false)) (.skip))) (.region a64r12 false)))))) (.region a64r4 false))
def a64l0 : AIR := .loop true [0, 1, 2, 3, 4, 5] a64b0
theorem a64l0_run {E GP} (st) : run E GP a64l0 st = loopK (run E GP) a64l0 st.heap.length true [0, 1, 2, 3, 4, 5] st.rs (run E GP a64b0 { vars := st.vars, heap := st.heap, rs := false }) := run_loop _ _ _ _
def a64r13 : List AOper := [oN (.move (.v 3)),
 oS 2 (.move (.l 0))]
theorem a64r13_ev : Ev a64r13 (value_of% a64r13) := fun _ _ => rfl
def a64 : AFun := .mk .iso 2 10 [.v 2] (.seq (.region a64r0 false) (.seq (.region a64r1 false) (.seq (.seq (.region a64r2 false) (.block 0 (a64l0))) (.seq (.region a64r13 false) (.ret)))))
def a65r0 : List AOper := [oS 2 (.move (.c (.int .i64 0))),
 oS 3 (.move (.c (.bool false)))]
theorem a65r0_ev : Ev a65r0 (value_of% a65r0) := fun _ _ => rfl
def a65r1 : List AOper := [oN (.move (.v 0)),
 oN (.move (.v 1)),
 oN (.call 78 [.l 0, .l 1, .f 77]),
 oN (.extract 0 (.l 2)),
 oN (.extract 1 (.l 2)),
 oS 2 (.move (.l 3)),
 oS 3 (.move (.l 4))]
theorem a65r1_ev : Ev a65r1 (value_of% a65r1) := fun _ _ => rfl
def a65 : AFun := .mk .iso 2 4 [.v 2, .v 3] (.seq (.region a65r0 false) (.seq (.region a65r1 false) (.ret)))
def a66r0 : List AOper := [oS 2 (.move (.c (.int .i64 0)))]
theorem a66r0_ev : Ev a66r0 (value_of% a66r0) := fun _ _ => rfl
def a66r1 : List AOper := [oN (.move (.v 0)),
 oS 4 (.len 0 (.l 0)),
 oS 5 (.move (.c (.int .i64 0)))]
theorem a66r1_ev : Ev a66r1 (value_of% a66r1) := fun _ _ => rfl
def a66r2 : List AOper := [oS 6 (.bin .lss (.v 5) (.v 4))]
theorem a66r2_ev : Ev a66r2 (value_of% a66r2) := fun _ _ => rfl
def a66r3 : List AOper := [oN (.move (.v 5)),
 oS 3 (.move (.l 0))]
theorem a66r3_ev : Ev a66r3 (value_of% a66r3) := fun _ _ => rfl
def a66r4 : List AOper := [oN (.move (.v 1)),
 oN (.move (.v 0)),
 oN (.move (.v 3)),
 oN (.indexAddr 3 (.l 1) (.l 2)),
 oN (.load true 3 (.l 3)),
 oS 7 (.callv (.l 0) [.l 4])]
theorem a66r4_ev : Ev a66r4 (value_of% a66r4) := fun _ _ => rfl
def a66r5 : List AOper := [oN (.move (.v 3)),
 oS 2 (.move (.l 0))]
theorem a66r5_ev : Ev a66r5 (value_of% a66r5) := fun _ _ => rfl
def a66r6 : List AOper := [oN (.bin .add (.v 5) (.c (.int .i64 1))),
 oS 5 (.move (.l 0))]
theorem a66r6_ev : Ev a66r6 (value_of% a66r6) := fun _ _ => rfl
def a66b0 : AIR := .seq (.region a66r2 false) (.seq (.cond (.v 6) (.skip) (.exit 0)) (.seq (.block 1 (.seq (.region a66r3 false) (.seq (.region a66r4 false) (.cond (.v 7) (.seq (.region a66r5 false) (.ret)) (.skip))))) (.region a66r6 false)))
def a66l0 : AIR := .loop true [0, 1, 2, 4, 5] a66b0
theorem a66l0_run {E GP} (st) : run E GP a66l0 st = loopK (run E GP) a66l0 st.heap.length true [0, 1, 2, 4, 5] st.rs (run E GP a66b0 { vars := st.vars, heap := st.heap, rs := false }) := run_loop _ _ _ _
def a66r7 : List AOper := [oS 2 (.move (.c (.int .i64 (-1))))]
theorem a66r7_ev : Ev a66r7 (value_of% a66r7) := fun _ _ => rfl
def a66 : AFun := .mk .shr 2 8 [.v 2] (.seq (.region a66r0 false) (.seq (.seq (.region a66r1 false) (.block 0 (a66l0))) (.seq (.region a66r7 false) (.ret))))
def a67r0 : List AOper := [oS 2 (.move (.c (.isl [])))]
theorem a67r0_ev : Ev a67r0 (value_of% a67r0) := fun _ _ => rfl
def a67r1 : List AOper := [oN (.move (.v 0)),
 oN (.len 0 (.l 0)),
 oN (.move (.v 1)),
 oN (.len 0 (.l 2)),
 oS 7 (.bin .lss (.l 1) (.l 3))]
theorem a67r1_ev : Ev a67r1 (value_of% a67r1) := fun _ _ => rfl
def a67r2 : List AOper := [oN (.move (.v 1)),
 oN (.move (.v 0)),
 oS 0 (.move (.l 0)),
 oS 1 (.move (.l 1))]
theorem a67r2_ev : Ev a67r2 (value_of% a67r2) := fun _ _ => rfl
def a67r3 : List AOper := [oN (.move (.v 0)),
 oN (.len 0 (.l 0)),
 oN (.bin .add (.l 1) (.c (.int .i64 1))),
 oN (.mkslice 1 4 (.int .u32 0) (.l 2) (.l 2)),
 oS 3 (.move (.l 3))]
theorem a67r3_ev : Ev a67r3 (value_of% a67r3) := fun _ _ => rfl
def a67r4 : List AOper := [oN (.move (.v 3)),
 oN (.move (.v 0)),
 oN (.copy 1 (.l 0) (.l 1))]
theorem a67r4_ev : Ev a67r4 (value_of% a67r4) := fun _ _ => rfl
def a67r5 : List AOper := [oS 4 (.move (.c (.int .u32 0)))]
theorem a67r5_ev : Ev a67r5 (value_of% a67r5) := fun _ _ => rfl
def a67r6 : List AOper := [oN (.move (.v 0)),
 oS 8 (.len 0 (.l 0)),
 oS 9 (.move (.c (.int .i64 0)))]
theorem a67r6_ev : Ev a67r6 (value_of% a67r6) := fun _ _ => rfl
def a67r7 : List AOper := [oS 10 (.bin .lss (.v 9) (.v 8))]
theorem a67r7_ev : Ev a67r7 (value_of% a67r7) := fun _ _ => rfl
def a67r8 : List AOper := [oN (.move (.v 9)),
 oS 5 (.move (.l 0))]
theorem a67r8_ev : Ev a67r8 (value_of% a67r8) := fun _ _ => rfl
def a67r9 : List AOper := [oS 6 (.move (.c (.int .u32 0)))]
theorem a67r9_ev : Ev a67r9 (value_of% a67r9) := fun _ _ => rfl
def a67r10 : List AOper := [oN (.move (.v 5)),
 oN (.move (.v 1)),
 oN (.len 0 (.l 1)),
 oS 11 (.bin .lss (.l 0) (.l 2))]
theorem a67r10_ev : Ev a67r10 (value_of% a67r10) := fun _ _ => rfl
def a67r11 : List AOper := [oN (.move (.v 1)),
 oN (.move (.v 5)),
 oN (.indexAddr 1 (.l 0) (.l 1)),
 oN (.load false 1 (.l 2)),
 oS 6 (.move (.l 3))]
theorem a67r11_ev : Ev a67r11 (value_of% a67r11) := fun _ _ => rfl
def a67r12 : List AOper := [oN (.move (.v 3)),
 oN (.move (.v 5)),
 oN (.move (.v 0)),
 oN (.move (.v 5)),
 oN (.indexAddr 1 (.l 2) (.l 3)),
 oN (.load false 1 (.l 4)),
 oN (.move (.v 6)),
 oN (.move (.v 4)),
 oN (.call 79 [.l 5, .l 6, .l 7]),
 oN (.move (.l 8)),
 oN (.extract 0 (.l 9)),
 oN (.extract 1 (.l 9)),
 oN (.indexAddr 1 (.l 0) (.l 1)),
 oN (.store 1 (.l 12) (.l 10)),
 oS 4 (.move (.l 11))]
theorem a67r12_ev : Ev a67r12 (value_of% a67r12) := fun _ _ => rfl
def a67r13 : List AOper := [oN (.bin .add (.v 9) (.c (.int .i64 1))),
 oS 9 (.move (.l 0))]
theorem a67r13_ev : Ev a67r13 (value_of% a67r13) := fun _ _ => rfl
def a67b0 : AIR := .seq (.region a67r7 false) (.seq (.cond (.v 10) (.skip) (.exit 0)) (.seq (.block 1 (.seq (.region a67r8 false) (.seq (.region a67r9 false) (.seq (.seq (.region a67r10 false) (.cond (.v 11) (.region a67r11 false) (.skip))) (.region a67r12 false))))) (.region a67r13 false)))
def a67l0 : AIR := .loop true [0, 1, 2, 3, 4, 7, 8, 9] a67b0
theorem a67l0_run {E GP} (st) : run E GP a67l0 st = loopK (run E GP) a67l0 st.heap.length true [0, 1, 2, 3, 4, 7, 8, 9] st.rs (run E GP a67b0 { vars := st.vars, heap := st.heap, rs := false }) := run_loop _ _ _ _
def a67r14 : List AOper := [oN (.move (.v 3)),
 oN (.move (.v 0)),
 oN (.len 0 (.l 1)),
 oN (.move (.v 4)),
 oN (.indexAddr 1 (.l 0) (.l 2)),
 oN (.store 1 (.l 4) (.l 3))]
theorem a67r14_ev : Ev a67r14 (value_of% a67r14) := fun _ _ => rfl
def a67r15 : List AOper := [oN (.move (.v 3)),
 oS 2 (.move (.l 0))]
theorem a67r15_ev : Ev a67r15 (value_of% a67r15) := fun _ _ => rfl
def a67 : AFun := .mk .iso 2 12 [.v 2] (.seq (.region a67r0 false) (.seq (.seq (.region a67r1 false) (.cond (.v 7) (.region a67r2 false) (.skip))) (.seq (.region a67r3 false) (.seq (.region a67r4 false) (.seq (.region a67r5 false) (.seq (.seq (.region a67r6 false) (.block 0 (a67l0))) (.seq (.region a67r14 false) (.seq (.region a67r15 false) (.ret)))))))))
def a68r0 : List AOper := [oS 2 (.move (.c (.int .i64 0)))]
theorem a68r0_ev : Ev a68r0 (value_of% a68r0) := fun _ _ => rfl
def a68r1 : List AOper := [oN (.move (.v 0)),
 oN (.len 0 (.l 0)),
 oN (.move (.v 1)),
 oN (.len 0 (.l 2)),
 oN (.call 80 [.l 1, .l 3]),
 oS 3 (.move (.l 4))]
theorem a68r1_ev : Ev a68r1 (value_of% a68r1) := fun _ _ => rfl
def a68r2 : List AOper := [oN (.move (.v 3)),
 oS 6 (.bin .neq (.l 0) (.c (.int .i64 0)))]
theorem a68r2_ev : Ev a68r2 (value_of% a68r2) := fun _ _ => rfl
def a68r3 : List AOper := [oN (.move (.v 3)),
 oS 2 (.move (.l 0))]
theorem a68r3_ev : Ev a68r3 (value_of% a68r3) := fun _ _ => rfl
def a68r4 : List AOper := [oN (.move (.v 0)),
 oN (.len 0 (.l 0)),
 oN (.bin .sub (.l 1) (.c (.int .i64 1))),
 oS 4 (.move (.l 2))]
theorem a68r4_ev : Ev a68r4 (value_of% a68r4) := fun _ _ => rfl
def a68r5 : List AOper := [oN (.move (.v 4)),
 oS 7 (.bin .geq (.l 0) (.c (.int .i64 0)))]
theorem a68r5_ev : Ev a68r5 (value_of% a68r5) := fun _ _ => rfl
def a68r7 : List AOper := [oN (.move (.v 0)),
 oN (.move (.v 4)),
 oN (.indexAddr 1 (.l 0) (.l 1)),
 oN (.load false 1 (.l 2)),
 oN (.move (.v 1)),
 oN (.move (.v 4)),
 oN (.indexAddr 1 (.l 4) (.l 5)),
 oN (.load false 1 (.l 6)),
 oN (.call 81 [.l 3, .l 7]),
 oS 5 (.move (.l 8))]
theorem a68r7_ev : Ev a68r7 (value_of% a68r7) := fun _ _ => rfl
def a68r8 : List AOper := [oN (.move (.v 5)),
 oS 8 (.bin .neq (.l 0) (.c (.int .i64 0)))]
theorem a68r8_ev : Ev a68r8 (value_of% a68r8) := fun _ _ => rfl
def a68r9 : List AOper := [oN (.move (.v 5)),
 oS 2 (.move (.l 0))]
theorem a68r9_ev : Ev a68r9 (value_of% a68r9) := fun _ _ => rfl
def a68r6 : List AOper := [oN (.move (.v 4)),
 oN (.bin .sub (.l 0) (.c (.int .i64 1))),
 oS 4 (.move (.l 1))]
theorem a68r6_ev : Ev a68r6 (value_of% a68r6) := fun _ _ => rfl
def a68b0 : AIR := .seq (.seq (.region a68r5 false) (.cond (.v 7) (.skip) (.exit 0))) (.seq (.block 1 (.seq (.region a68r7 true) (.seq (.region a68r8 false) (.cond (.v 8) (.seq (.region a68r9 false) (.ret)) (.skip))))) (.region a68r6 false))
def a68l0 : AIR := .loop true [0, 1, 2, 3, 4, 6] a68b0
theorem a68l0_run {E GP} (st) : run E GP a68l0 st = loopK (run E GP) a68l0 st.heap.length true [0, 1, 2, 3, 4, 6] st.rs (run E GP a68b0 { vars := st.vars, heap := st.heap, rs := false }) := run_loop _ _ _ _
def a68r10 : List AOper := [oS 2 (.move (.c (.int .i64 0)))]
theorem a68r10_ev : Ev a68r10 (value_of% a68r10) := fun _ _ => rfl
def a68 : AFun := .mk .iso 2 9 [.v 2] (.seq (.region a68r0 false) (.seq (.seq (.region a68r1 false) (.seq (.region a68r2 false) (.cond (.v 6) (.seq (.region a68r3 false) (.ret)) (.skip)))) (.seq (.seq (.region a68r4 false) (.block 0 (a68l0))) (.seq (.region a68r10 false) (.ret)))))
def a69r0 : List AOper := [oS 2 (.move (.c (.isl [])))]
theorem a69r0_ev : Ev a69r0 (value_of% a69r0) := fun _ _ => rfl
def a69r1 : List AOper := [oN (.move (.v 0)),
 oN (.len 0 (.l 0)),
 oN (.mkslice 1 4 (.int .u32 0) (.l 1) (.l 1)),
 oS 3 (.move (.l 2))]
theorem a69r1_ev : Ev a69r1 (value_of% a69r1) := fun _ _ => rfl
def a69r2 : List AOper := [oS 4 (.move (.c (.int .u32 0)))]
theorem a69r2_ev : Ev a69r2 (value_of% a69r2) := fun _ _ => rfl
def a69r3 : List AOper := [oN (.move (.v 0)),
 oS 7 (.len 0 (.l 0)),
 oS 8 (.move (.c (.int .i64 0)))]
theorem a69r3_ev : Ev a69r3 (value_of% a69r3) := fun _ _ => rfl
def a69r4 : List AOper := [oS 9 (.bin .lss (.v 8) (.v 7))]
theorem a69r4_ev : Ev a69r4 (value_of% a69r4) := fun _ _ => rfl
def a69r5 : List AOper := [oN (.move (.v 8)),
 oS 5 (.move (.l 0))]
theorem a69r5_ev : Ev a69r5 (value_of% a69r5) := fun _ _ => rfl
def a69r6 : List AOper := [oS 6 (.move (.c (.int .u32 0)))]
theorem a69r6_ev : Ev a69r6 (value_of% a69r6) := fun _ _ => rfl
def a69r7 : List AOper := [oN (.move (.v 5)),
 oN (.move (.v 1)),
 oN (.len 0 (.l 1)),
 oS 10 (.bin .lss (.l 0) (.l 2))]
theorem a69r7_ev : Ev a69r7 (value_of% a69r7) := fun _ _ => rfl
def a69r8 : List AOper := [oN (.move (.v 1)),
 oN (.move (.v 5)),
 oN (.indexAddr 1 (.l 0) (.l 1)),
 oN (.load false 1 (.l 2)),
 oS 6 (.move (.l 3))]
theorem a69r8_ev : Ev a69r8 (value_of% a69r8) := fun _ _ => rfl
def a69r9 : List AOper := [oN (.move (.v 3)),
 oN (.move (.v 5)),
 oN (.move (.v 0)),
 oN (.move (.v 5)),
 oN (.indexAddr 1 (.l 2) (.l 3)),
 oN (.load false 1 (.l 4)),
 oN (.move (.v 6)),
 oN (.move (.v 4)),
 oN (.call 82 [.l 5, .l 6, .l 7]),
 oN (.move (.l 8)),
 oN (.extract 0 (.l 9)),
 oN (.extract 1 (.l 9)),
 oN (.indexAddr 1 (.l 0) (.l 1)),
 oN (.store 1 (.l 12) (.l 10)),
 oS 4 (.move (.l 11))]
theorem a69r9_ev : Ev a69r9 (value_of% a69r9) := fun _ _ => rfl
def a69r10 : List AOper := [oN (.bin .add (.v 8) (.c (.int .i64 1))),
 oS 8 (.move (.l 0))]
theorem a69r10_ev : Ev a69r10 (value_of% a69r10) := fun _ _ => rfl
def a69b0 : AIR := .seq (.region a69r4 false) (.seq (.cond (.v 9) (.skip) (.exit 0)) (.seq (.block 1 (.seq (.region a69r5 false) (.seq (.region a69r6 false) (.seq (.seq (.region a69r7 false) (.cond (.v 10) (.region a69r8 false) (.skip))) (.region a69r9 false))))) (.region a69r10 false)))
def a69l0 : AIR := .loop true [0, 1, 2, 3, 4, 7, 8] a69b0
theorem a69l0_run {E GP} (st) : run E GP a69l0 st = loopK (run E GP) a69l0 st.heap.length true [0, 1, 2, 3, 4, 7, 8] st.rs (run E GP a69b0 { vars := st.vars, heap := st.heap, rs := false }) := run_loop _ _ _ _
def a69r11 : List AOper := [oN (.move (.v 3)),
 oS 2 (.move (.l 0))]
theorem a69r11_ev : Ev a69r11 (value_of% a69r11) := fun _ _ => rfl
def a69 : AFun := .mk .iso 2 11 [.v 2] (.seq (.region a69r0 false) (.seq (.region a69r1 false) (.seq (.region a69r2 false) (.seq (.seq (.region a69r3 false) (.block 0 (a69l0))) (.seq (.region a69r11 false) (.ret))))))
def a73r0 : List AOper := [oS 10 (.cb (.v 0)),
 oS 11 (.cb (.v 1)),
 oS 12 (.cn (.agg [.int .i64 0, .int .i64 0, .nl])),
 oS 2 (.move (.c (.int .i64 0)))]
theorem a73r0_ev : Ev a73r0 (value_of% a73r0) := fun _ _ => rfl
def a73r1 : List AOper := [oN (.ca (.v 10)),
 oN (.field 1 1 false 1 (.v 10)),
 oN (.ca (.v 11)),
 oN (.field 0 0 false 1 (.v 11)),
 oS 6 (.bin .neq (.l 1) (.l 3))]
theorem a73r1_ev : Ev a73r1 (value_of% a73r1) := fun _ _ => rfl
def a73r2 : List AOper := [oN (.build [.int .i64 0, .int .i64 0, .nl] []),
 oS 12 (.cs 3 (.v 12) (.l 0)),
 oS 2 (.move (.c (.int .i64 50)))]
theorem a73r2_ev : Ev a73r2 (value_of% a73r2) := fun _ _ => rfl
def a73r3 : List AOper := [oN (.ca (.v 10)),
 oN (.field 0 0 false 1 (.v 10)),
 oN (.ca (.v 11)),
 oN (.field 1 1 false 1 (.v 11)),
 oN (.call 61 [.l 1, .l 3]),
 oS 13 (.cn (.agg [.int .i64 0, .int .i64 0, .nl])),
 oS 13 (.cs 3 (.l 5) (.l 4))]
theorem a73r3_ev : Ev a73r3 (value_of% a73r3) := fun _ _ => rfl
def a73r4 : List AOper := [oS 3 (.move (.c (.int .i64 0)))]
theorem a73r4_ev : Ev a73r4 (value_of% a73r4) := fun _ _ => rfl
def a73r5 : List AOper := [oN (.move (.v 3)),
 oN (.ca (.v 10)),
 oN (.field 0 0 false 1 (.v 10)),
 oS 7 (.bin .lss (.l 0) (.l 2))]
theorem a73r5_ev : Ev a73r5 (value_of% a73r5) := fun _ _ => rfl
def a73r7 : List AOper := [oS 4 (.move (.c (.int .i64 0)))]
theorem a73r7_ev : Ev a73r7 (value_of% a73r7) := fun _ _ => rfl
def a73r8 : List AOper := [oN (.move (.v 4)),
 oN (.ca (.v 11)),
 oN (.field 1 1 false 1 (.v 11)),
 oS 8 (.bin .lss (.l 0) (.l 2))]
theorem a73r8_ev : Ev a73r8 (value_of% a73r8) := fun _ _ => rfl
def a73r10 : List AOper := [oS 5 (.move (.c (.int .i64 0)))]
theorem a73r10_ev : Ev a73r10 (value_of% a73r10) := fun _ _ => rfl
def a73r11 : List AOper := [oN (.move (.v 5)),
 oN (.ca (.v 10)),
 oN (.field 1 1 false 1 (.v 10)),
 oS 9 (.bin .lss (.l 0) (.l 2))]
theorem a73r11_ev : Ev a73r11 (value_of% a73r11) := fun _ _ => rfl
def a73r13 : List AOper := [oN (.ca (.v 13)),
 oN (.field 2 2 false 1 (.v 13)),
 oN (.move (.v 3)),
 oN (.indexAddr 1 (.l 1) (.l 2)),
 oN (.load false 1 (.l 3)),
 oN (.move (.v 4)),
 oN (.ca (.v 13)),
 oN (.field 2 2 false 1 (.v 13)),
 oN (.move (.v 3)),
 oN (.indexAddr 1 (.l 7) (.l 8)),
 oN (.load false 1 (.l 9)),
 oN (.move (.v 4)),
 oN (.indexAddr 2 (.l 10) (.l 11)),
 oN (.load true 2 (.l 12)),
 oN (.ca (.v 10)),
 oN (.field 2 2 false 1 (.v 10)),
 oN (.move (.v 3)),
 oN (.indexAddr 1 (.l 15) (.l 16)),
 oN (.load false 1 (.l 17)),
 oN (.move (.v 5)),
 oN (.indexAddr 2 (.l 18) (.l 19)),
 oN (.load true 2 (.l 20)),
 oN (.ca (.v 11)),
 oN (.field 2 2 false 1 (.v 11)),
 oN (.move (.v 5)),
 oN (.indexAddr 1 (.l 23) (.l 24)),
 oN (.load false 1 (.l 25)),
 oN (.move (.v 4)),
 oN (.indexAddr 2 (.l 26) (.l 27)),
 oN (.load true 2 (.l 28)),
 oN (.call 41 [.l 21, .l 29]),
 oN (.call 49 [.l 13, .l 30]),
 oN (.indexAddr 2 (.l 4) (.l 5)),
 oN (.store 2 (.l 32) (.l 31))]
theorem a73r13_ev : Ev a73r13 (value_of% a73r13) := fun _ _ => rfl
def a73r12 : List AOper := [oN (.move (.v 5)),
 oN (.bin .add (.l 0) (.c (.int .i64 1))),
 oS 5 (.move (.l 1))]
theorem a73r12_ev : Ev a73r12 (value_of% a73r12) := fun _ _ => rfl
def a73b2 : AIR := .seq (.seq (.region a73r11 false) (.cond (.v 9) (.skip) (.exit 4))) (.seq (.block 5 (.region a73r13 true)) (.region a73r12 false))
def a73l2 : AIR := .loop false [0, 1, 2, 3, 4, 5, 6, 7, 8, 10, 11, 12, 13] a73b2
theorem a73l2_run {E GP} (st) : run E GP a73l2 st = loopK (run E GP) a73l2 st.heap.length false [0, 1, 2, 3, 4, 5, 6, 7, 8, 10, 11, 12, 13] st.rs (run E GP a73b2 { vars := st.vars, heap := st.heap, rs := false }) := run_loop _ _ _ _
def a73r9 : List AOper := [oN (.move (.v 4)),
 oN (.bin .add (.l 0) (.c (.int .i64 1))),
 oS 4 (.move (.l 1))]
theorem a73r9_ev : Ev a73r9 (value_of% a73r9) := fun _ _ => rfl
def a73b1 : AIR := .seq (.seq (.region a73r8 false) (.cond (.v 8) (.skip) (.exit 2))) (.seq (.block 3 (.seq (.region a73r10 false) (.block 4 (a73l2)))) (.region a73r9 false))
def a73l1 : AIR := .loop false [0, 1, 2, 3, 4, 6, 7, 10, 11, 12, 13] a73b1
theorem a73l1_run {E GP} (st) : run E GP a73l1 st = loopK (run E GP) a73l1 st.heap.length false [0, 1, 2, 3, 4, 6, 7, 10, 11, 12, 13] st.rs (run E GP a73b1 { vars := st.vars, heap := st.heap, rs := false }) := run_loop _ _ _ _
def a73r6 : List AOper := [oN (.move (.v 3)),
 oN (.bin .add (.l 0) (.c (.int .i64 1))),
 oS 3 (.move (.l 1))]
theorem a73r6_ev : Ev a73r6 (value_of% a73r6) := fun _ _ => rfl
def a73b0 : AIR := .seq (.seq (.region a73r5 false) (.cond (.v 7) (.skip) (.exit 0))) (.seq (.block 1 (.seq (.region a73r7 false) (.block 2 (a73l1)))) (.region a73r6 false))
def a73l0 : AIR := .loop false [0, 1, 2, 3, 6, 10, 11, 12, 13] a73b0
theorem a73l0_run {E GP} (st) : run E GP a73l0 st = loopK (run E GP) a73l0 st.heap.length false [0, 1, 2, 3, 6, 10, 11, 12, 13] st.rs (run E GP a73b0 { vars := st.vars, heap := st.heap, rs := false }) := run_loop _ _ _ _
def a73r14 : List AOper := [oN (.cl true 3 (.v 13)),
 oS 12 (.cs 3 (.v 12) (.l 0)),
 oS 2 (.move (.c (.int .i64 0)))]
theorem a73r14_ev : Ev a73r14 (value_of% a73r14) := fun _ _ => rfl
def a73 : AFun := .mk .iso 2 14 [.c 12 true 3, .v 2] (.seq (.region a73r0 false) (.seq (.seq (.region a73r1 false) (.cond (.v 6) (.seq (.region a73r2 false) (.ret)) (.skip))) (.seq (.region a73r3 false) (.seq (.seq (.region a73r4 false) (.block 0 (a73l0))) (.seq (.region a73r14 false) (.ret))))))
def a74r0 : List AOper := [oS 13 (.cb (.v 0)),
 oS 14 (.cn (.agg [.agg [.int .i64 0, .int .i64 0, .nl], .agg [.int .i64 0, .int .i64 0, .nl], .agg [.int .i64 0, .int .i64 0, .nl]]))]
theorem a74r0_ev : Ev a74r0 (value_of% a74r0) := fun _ _ => rfl
def a74r1 : List AOper := [oN (.cl true 3 (.v 13)),
 oN (.call 86 [.l 0]),
 oS 1 (.move (.l 1))]
theorem a74r1_ev : Ev a74r1 (value_of% a74r1) := fun _ _ => rfl
def a74r2 : List AOper := [oS 2 (.move (.c (.int .i64 0)))]
theorem a74r2_ev : Ev a74r2 (value_of% a74r2) := fun _ _ => rfl
def a74r3 : List AOper := [oS 3 (.move (.c (.int .i64 0)))]
theorem a74r3_ev : Ev a74r3 (value_of% a74r3) := fun _ _ => rfl
def a74r4 : List AOper := [oN (.move (.v 3)),
 oN (.ca (.v 13)),
 oN (.field 1 1 false 1 (.v 13)),
 oN (.bin .lss (.l 0) (.l 2)),
 oN (.move (.l 3)),
 ⟨none, .move (.v 2), some (4, true)⟩,
 ⟨none, .ca (.v 13), some (4, true)⟩,
 ⟨none, .field 0 0 false 1 (.v 13), some (4, true)⟩,
 ⟨none, .bin .lss (.l 5) (.l 7), some (4, true)⟩,
 oS 6 (.pick (.l 4) (.l 8) (.c (.bool false)))]
theorem a74r4_ev : Ev a74r4 (value_of% a74r4) := fun _ _ => rfl
def a74r6 : List AOper := [oN (.move (.v 2)),
 oN (.bin .add (.l 0) (.c (.int .i64 1))),
 oS 4 (.move (.l 1))]
theorem a74r6_ev : Ev a74r6 (value_of% a74r6) := fun _ _ => rfl
def a74r7 : List AOper := [oN (.move (.v 4)),
 oN (.ca (.v 13)),
 oN (.field 0 0 false 1 (.v 13)),
 oS 7 (.bin .lss (.l 0) (.l 2))]
theorem a74r7_ev : Ev a74r7 (value_of% a74r7) := fun _ _ => rfl
def a74r9 : List AOper := [oN (.move (.v 1)),
 oN (.nilCheck (.l 0)),
 oN (.fieldAddr 0 0 (.l 1)),
 oN (.fieldAddr 2 2 (.l 2)),
 oN (.load false 1 (.l 3)),
 oN (.move (.v 4)),
 oN (.indexAddr 1 (.l 4) (.l 5)),
 oN (.load false 1 (.l 6)),
 oN (.move (.v 3)),
 oN (.indexAddr 2 (.l 7) (.l 8)),
 oN (.load true 2 (.l 9)),
 oN (.call 43 [.l 10]),
 oS 8 (.bin .neq (.l 11) (.c (.int .i64 0)))]
theorem a74r9_ev : Ev a74r9 (value_of% a74r9) := fun _ _ => rfl
def a74r10 : List AOper := [oN (.move (.v 1)),
 oN (.nilCheck (.l 0)),
 oN (.fieldAddr 0 0 (.l 1)),
 oN (.fieldAddr 2 2 (.l 2)),
 oN (.load false 1 (.l 3)),
 oN (.move (.v 2)),
 oN (.indexAddr 1 (.l 4) (.l 5)),
 oN (.load false 1 (.l 6)),
 oN (.move (.v 3)),
 oN (.indexAddr 2 (.l 7) (.l 8)),
 oN (.load true 2 (.l 9)),
 oN (.call 43 [.l 10]),
 oS 9 (.bin .neq (.l 11) (.c (.int .i64 0)))]
theorem a74r10_ev : Ev a74r10 (value_of% a74r10) := fun _ _ => rfl
def a74r11 : List AOper := [oN (.move (.v 1)),
 oN (.nilCheck (.l 0)),
 oN (.fieldAddr 0 0 (.l 1)),
 oN (.fieldAddr 2 2 (.l 2)),
 oN (.load false 1 (.l 3)),
 oN (.move (.v 2)),
 oN (.indexAddr 1 (.l 4) (.l 5)),
 oN (.load false 1 (.l 6)),
 oN (.move (.v 3)),
 oN (.indexAddr 2 (.l 7) (.l 8)),
 oN (.load true 2 (.l 9)),
 oN (.move (.v 1)),
 oN (.nilCheck (.l 11)),
 oN (.fieldAddr 0 0 (.l 12)),
 oN (.fieldAddr 2 2 (.l 13)),
 oN (.load false 1 (.l 14)),
 oN (.move (.v 4)),
 oN (.indexAddr 1 (.l 15) (.l 16)),
 oN (.load false 1 (.l 17)),
 oN (.move (.v 3)),
 oN (.indexAddr 2 (.l 18) (.l 19)),
 oN (.load true 2 (.l 20)),
 oN (.call 87 [.l 10, .l 21]),
 oN (.move (.l 22)),
 oN (.extract 0 (.l 23)),
 oN (.extract 1 (.l 23)),
 oN (.extract 2 (.l 23)),
 oS 15 (.cn (.agg [.bool false, .isl []])),
 oS 16 (.cn (.agg [.bool false, .isl []])),
 oS 15 (.cs 2 (.l 27) (.l 24)),
 oS 16 (.cs 2 (.l 28) (.l 25)),
 oN (.move (.l 26))]
theorem a74r11_ev : Ev a74r11 (value_of% a74r11) := fun _ _ => rfl
def a74r12 : List AOper := [oN (.move (.v 1)),
 oN (.move (.v 2)),
 oN (.move (.v 4)),
 oN (.cl true 2 (.v 15)),
 oN (.call 88 [.l 3]),
 oN (.call 89 [.l 0, .l 1, .l 2, .l 4])]
theorem a74r12_ev : Ev a74r12 (value_of% a74r12) := fun _ _ => rfl
def a74r13 : List AOper := [oN (.move (.v 1)),
 oN (.move (.v 2)),
 oN (.move (.v 4)),
 oN (.call 90 [.l 0, .l 1, .l 2])]
theorem a74r13_ev : Ev a74r13 (value_of% a74r13) := fun _ _ => rfl
def a74b2 : AIR := .seq (.seq (.region a74r9 false) (.cond (.v 8) (.skip) (.exit 4))) (.block 5 (.seq (.seq (.region a74r10 false) (.cond (.v 9) (.seq (.region a74r11 true) (.region a74r12 false)) (.skip))) (.region a74r13 false)))
def a74l2 : AIR := .loop false [0, 1, 2, 3, 4, 5, 6, 7, 10, 11, 12, 13, 14] a74b2
theorem a74l2_run {E GP} (st) : run E GP a74l2 st = loopK (run E GP) a74l2 st.heap.length false [0, 1, 2, 3, 4, 5, 6, 7, 10, 11, 12, 13, 14] st.rs (run E GP a74b2 { vars := st.vars, heap := st.heap, rs := false }) := run_loop _ _ _ _
def a74r8 : List AOper := [oN (.move (.v 4)),
 oN (.bin .add (.l 0) (.c (.int .i64 1))),
 oS 4 (.move (.l 1))]
theorem a74r8_ev : Ev a74r8 (value_of% a74r8) := fun _ _ => rfl
def a74b1 : AIR := .seq (.seq (.region a74r7 false) (.cond (.v 7) (.skip) (.exit 2))) (.seq (.block 3 (.block 4 (a74l2))) (.region a74r8 false))
def a74l1 : AIR := .loop false [0, 1, 2, 3, 4, 5, 6, 10, 11, 12, 13, 14] a74b1
theorem a74l1_run {E GP} (st) : run E GP a74l1 st = loopK (run E GP) a74l1 st.heap.length false [0, 1, 2, 3, 4, 5, 6, 10, 11, 12, 13, 14] st.rs (run E GP a74b1 { vars := st.vars, heap := st.heap, rs := false }) := run_loop _ _ _ _
def a74r14 : List AOper := [oN (.move (.v 1)),
 oN (.nilCheck (.l 0)),
 oN (.fieldAddr 0 0 (.l 1)),
 oN (.fieldAddr 2 2 (.l 2)),
 oN (.load false 1 (.l 3)),
 oN (.move (.v 2)),
 oN (.indexAddr 1 (.l 4) (.l 5)),
 oN (.load false 1 (.l 6)),
 oN (.move (.v 3)),
 oN (.indexAddr 2 (.l 7) (.l 8)),
 oN (.load true 2 (.l 9)),
 oN (.call 43 [.l 10]),
 oS 10 (.bin .eql (.l 11) (.c (.int .i64 0)))]
theorem a74r14_ev : Ev a74r14 (value_of% a74r14) := fun _ _ => rfl
def a74r15 : List AOper := [oN (.move (.v 1)),
 oN (.nilCheck (.l 0)),
 oN (.fieldAddr 0 0 (.l 1)),
 oN (.fieldAddr 2 2 (.l 2)),
 oN (.load false 1 (.l 3)),
 oN (.move (.v 2)),
 oN (.indexAddr 1 (.l 4) (.l 5)),
 oN (.load false 1 (.l 6)),
 oN (.move (.v 3)),
 oN (.indexAddr 2 (.l 7) (.l 8)),
 oN (.load true 2 (.l 9)),
 oN (.call 43 [.l 10]),
 oS 11 (.bin .lss (.l 11) (.c (.int .i64 0)))]
theorem a74r15_ev : Ev a74r15 (value_of% a74r15) := fun _ _ => rfl
def a74r16 : List AOper := [oN (.move (.v 1)),
 oN (.move (.v 2)),
 oN (.call 91 [.l 0, .l 1])]
theorem a74r16_ev : Ev a74r16 (value_of% a74r16) := fun _ _ => rfl
def a74r17 : List AOper := [oS 5 (.move (.c (.int .i64 0)))]
theorem a74r17_ev : Ev a74r17 (value_of% a74r17) := fun _ _ => rfl
def a74r18 : List AOper := [oN (.move (.v 5)),
 oN (.move (.v 2)),
 oS 12 (.bin .lss (.l 0) (.l 1))]
theorem a74r18_ev : Ev a74r18 (value_of% a74r18) := fun _ _ => rfl
def a74r20 : List AOper := [oN (.move (.v 1)),
 oN (.move (.v 5)),
 oN (.move (.v 2)),
 oN (.move (.v 1)),
 oN (.nilCheck (.l 3)),
 oN (.fieldAddr 0 0 (.l 4)),
 oN (.fieldAddr 2 2 (.l 5)),
 oN (.load false 1 (.l 6)),
 oN (.move (.v 5)),
 oN (.indexAddr 1 (.l 7) (.l 8)),
 oN (.load false 1 (.l 9)),
 oN (.move (.v 3)),
 oN (.indexAddr 2 (.l 10) (.l 11)),
 oN (.load true 2 (.l 12)),
 oN (.move (.v 1)),
 oN (.nilCheck (.l 14)),
 oN (.fieldAddr 0 0 (.l 15)),
 oN (.fieldAddr 2 2 (.l 16)),
 oN (.load false 1 (.l 17)),
 oN (.move (.v 2)),
 oN (.indexAddr 1 (.l 18) (.l 19)),
 oN (.load false 1 (.l 20)),
 oN (.move (.v 3)),
 oN (.indexAddr 2 (.l 21) (.l 22)),
 oN (.load true 2 (.l 23)),
 oN (.call 92 [.l 13, .l 24]),
 oN (.call 88 [.l 25]),
 oN (.call 89 [.l 0, .l 1, .l 2, .l 26])]
theorem a74r20_ev : Ev a74r20 (value_of% a74r20) := fun _ _ => rfl
def a74r19 : List AOper := [oN (.move (.v 5)),
 oN (.bin .add (.l 0) (.c (.int .i64 1))),
 oS 5 (.move (.l 1))]
theorem a74r19_ev : Ev a74r19 (value_of% a74r19) := fun _ _ => rfl
def a74b3 : AIR := .seq (.seq (.region a74r18 false) (.cond (.v 12) (.skip) (.exit 6))) (.seq (.block 7 (.region a74r20 true)) (.region a74r19 false))
def a74l3 : AIR := .loop false [0, 1, 2, 3, 4, 5, 6, 7, 8, 9, 10, 11, 13, 14, 15, 16] a74b3
theorem a74l3_run {E GP} (st) : run E GP a74l3 st = loopK (run E GP) a74l3 st.heap.length false [0, 1, 2, 3, 4, 5, 6, 7, 8, 9, 10, 11, 13, 14, 15, 16] st.rs (run E GP a74b3 { vars := st.vars, heap := st.heap, rs := false }) := run_loop _ _ _ _
def a74r21 : List AOper := [oN (.move (.v 2)),
 oN (.bin .add (.l 0) (.c (.int .i64 1))),
 oS 2 (.move (.l 1))]
theorem a74r21_ev : Ev a74r21 (value_of% a74r21) := fun _ _ => rfl
def a74r5 : List AOper := [oN (.move (.v 3)),
 oN (.bin .add (.l 0) (.c (.int .i64 1))),
 oS 3 (.move (.l 1))]
theorem a74r5_ev : Ev a74r5 (value_of% a74r5) := fun _ _ => rfl
def a74b0 : AIR := .seq (.seq (.region a74r4 false) (.cond (.v 6) (.skip) (.exit 0))) (.seq (.block 1 (.seq (.seq (.region a74r6 false) (.block 2 (a74l1))) (.seq (.seq (.region a74r14 false) (.cond (.v 10) (.exit 1) (.skip))) (.seq (.seq (.region a74r15 false) (.cond (.v 11) (.region a74r16 false) (.skip))) (.seq (.seq (.region a74r17 false) (.block 6 (a74l3))) (.region a74r21 false)))))) (.region a74r5 false))
def a74l0 : AIR := .loop false [0, 1, 2, 3, 13, 14] a74b0
theorem a74l0_run {E GP} (st) : run E GP a74l0 st = loopK (run E GP) a74l0 st.heap.length false [0, 1, 2, 3, 13, 14] st.rs (run E GP a74b0 { vars := st.vars, heap := st.heap, rs := false }) := run_loop _ _ _ _
def a74r22 : List AOper := [oN (.move (.v 1)),
 oN (.nilCheck (.l 0)),
 oN (.fieldAddr 0 0 (.l 1)),
 oN (.load true 3 (.l 2)),
 oN (.move (.v 1)),
 oN (.nilCheck (.l 4)),
 oN (.fieldAddr 1 3 (.l 5)),
 oN (.load true 3 (.l 6)),
 oN (.move (.v 1)),
 oN (.nilCheck (.l 8)),
 oN (.fieldAddr 2 6 (.l 9)),
 oN (.load true 3 (.l 10)),
 oN (.build [.agg [.int .i64 0, .int .i64 0, .nl], .agg [.int .i64 0, .int .i64 0, .nl], .agg [.int .i64 0, .int .i64 0, .nl]] [(0, .l 3), (1, .l 7), (2, .l 11)]),
 oS 14 (.cs 9 (.v 14) (.l 12))]
theorem a74r22_ev : Ev a74r22 (value_of% a74r22) := fun _ _ => rfl
def a74 : AFun := .mk .iso 1 17 [.c 14 true 9] (.seq (.region a74r0 false) (.seq (.region a74r1 false) (.seq (.region a74r2 false) (.seq (.seq (.region a74r3 false) (.block 0 (a74l0))) (.seq (.region a74r22 true) (.ret))))))
def a75r0 : List AOper := [oS 6 (.cb (.v 0)),
 oS 1 (.move (.c (.int .i64 0)))]
theorem a75r0_ev : Ev a75r0 (value_of% a75r0) := fun _ _ => rfl
def a75r1 : List AOper := [oS 2 (.move (.c (.int .i64 0)))]
theorem a75r1_ev : Ev a75r1 (value_of% a75r1) := fun _ _ => rfl
def a75r2 : List AOper := [oS 3 (.move (.c (.int .i64 0)))]
theorem a75r2_ev : Ev a75r2 (value_of% a75r2) := fun _ _ => rfl
def a75r3 : List AOper := [oN (.move (.v 3)),
 oN (.ca (.v 6)),
 oN (.field 0 0 false 1 (.v 6)),
 oS 4 (.bin .lss (.l 0) (.l 2))]
theorem a75r3_ev : Ev a75r3 (value_of% a75r3) := fun _ _ => rfl
def a75r5 : List AOper := [oN (.ca (.v 6)),
 oN (.field 2 2 false 1 (.v 6)),
 oN (.move (.v 3)),
 oN (.indexAddr 1 (.l 1) (.l 2)),
 oN (.load false 1 (.l 3)),
 oN (.call 93 [.l 4]),
 oS 5 (.bin .geq (.l 5) (.c (.int .i64 0)))]
theorem a75r5_ev : Ev a75r5 (value_of% a75r5) := fun _ _ => rfl
def a75r6 : List AOper := [oN (.move (.v 2)),
 oN (.bin .add (.l 0) (.c (.int .i64 1))),
 oS 2 (.move (.l 1))]
theorem a75r6_ev : Ev a75r6 (value_of% a75r6) := fun _ _ => rfl
def a75r4 : List AOper := [oN (.move (.v 3)),
 oN (.bin .add (.l 0) (.c (.int .i64 1))),
 oS 3 (.move (.l 1))]
theorem a75r4_ev : Ev a75r4 (value_of% a75r4) := fun _ _ => rfl
def a75b0 : AIR := .seq (.seq (.region a75r3 false) (.cond (.v 4) (.skip) (.exit 0))) (.seq (.block 1 (.seq (.region a75r5 false) (.cond (.v 5) (.region a75r6 false) (.skip)))) (.region a75r4 false))
def a75l0 : AIR := .loop true [0, 1, 2, 3, 6] a75b0
theorem a75l0_run {E GP} (st) : run E GP a75l0 st = loopK (run E GP) a75l0 st.heap.length true [0, 1, 2, 3, 6] st.rs (run E GP a75b0 { vars := st.vars, heap := st.heap, rs := false }) := run_loop _ _ _ _
def a75r7 : List AOper := [oN (.move (.v 2)),
 oS 1 (.move (.l 0))]
theorem a75r7_ev : Ev a75r7 (value_of% a75r7) := fun _ _ => rfl
def a75 : AFun := .mk .iso 1 7 [.v 1] (.seq (.region a75r0 false) (.seq (.region a75r1 false) (.seq (.seq (.region a75r2 false) (.block 0 (a75l0))) (.seq (.region a75r7 false) (.ret)))))
def a76r0 : List AOper := [oS 1 (.cb (.v 0)),
 oS 2 (.cn (.agg [.int .i64 0, .int .i64 0, .nl]))]
theorem a76r0_ev : Ev a76r0 (value_of% a76r0) := fun _ _ => rfl
def a76r1 : List AOper := [oN (.cl true 3 (.v 1)),
 oN (.call 74 [.l 0]),
 oS 3 (.cn (.agg [.agg [.int .i64 0, .int .i64 0, .nl], .agg [.int .i64 0, .int .i64 0, .nl], .agg [.int .i64 0, .int .i64 0, .nl]])),
 oS 3 (.cs 9 (.l 2) (.l 1))]
theorem a76r1_ev : Ev a76r1 (value_of% a76r1) := fun _ _ => rfl
def a76r2 : List AOper := [oN (.ca (.v 3)),
 oN (.field 0 0 true 3 (.v 3)),
 oN (.ca (.v 3)),
 oN (.field 0 0 true 3 (.v 3)),
 oN (.call 75 [.l 3]),
 oN (.call 94 [.l 1, .l 4]),
 oS 2 (.cs 3 (.v 2) (.l 5))]
theorem a76r2_ev : Ev a76r2 (value_of% a76r2) := fun _ _ => rfl
def a76 : AFun := .mk .iso 1 4 [.c 2 true 3] (.seq (.region a76r0 false) (.seq (.region a76r1 false) (.seq (.region a76r2 true) (.ret))))
def a78r0 : List AOper := [oS 3 (.move (.c (.int .i64 0))),
 oS 4 (.move (.c (.bool false)))]
theorem a78r0_ev : Ev a78r0 (value_of% a78r0) := fun _ _ => rfl
def a78r1 : List AOper := [oN (.move (.v 0)),
 oN (.len 0 (.l 0)),
 oS 5 (.move (.l 1))]
theorem a78r1_ev : Ev a78r1 (value_of% a78r1) := fun _ _ => rfl
def a78r2 : List AOper := [oN (.move (.v 5)),
 oS 6 (.move (.c (.int .i64 0))),
 oS 7 (.move (.l 0))]
theorem a78r2_ev : Ev a78r2 (value_of% a78r2) := fun _ _ => rfl
def a78r3 : List AOper := [oN (.move (.v 6)),
 oN (.move (.v 7)),
 oS 9 (.bin .lss (.l 0) (.l 1))]
theorem a78r3_ev : Ev a78r3 (value_of% a78r3) := fun _ _ => rfl
def a78r4 : List AOper := [oN (.move (.v 6)),
 oN (.move (.v 7)),
 oN (.bin .add (.l 0) (.l 1)),
 oN (.conv .u64 (.l 2)),
 oN (.bin .shr (.l 3) (.c (.int .u64 1))),
 oN (.conv .i64 (.l 4)),
 oS 8 (.move (.l 5))]
theorem a78r4_ev : Ev a78r4 (value_of% a78r4) := fun _ _ => rfl
def a78r5 : List AOper := [oN (.move (.v 2)),
 oN (.move (.v 0)),
 oN (.move (.v 8)),
 oN (.indexAddr 3 (.l 1) (.l 2)),
 oN (.load true 3 (.l 3)),
 oN (.move (.v 1)),
 oN (.callv (.l 0) [.l 4, .l 5]),
 oS 10 (.bin .lss (.l 6) (.c (.int .i64 0)))]
theorem a78r5_ev : Ev a78r5 (value_of% a78r5) := fun _ _ => rfl
def a78r6 : List AOper := [oN (.move (.v 8)),
 oN (.bin .add (.l 0) (.c (.int .i64 1))),
 oS 6 (.move (.l 1))]
theorem a78r6_ev : Ev a78r6 (value_of% a78r6) := fun _ _ => rfl
def a78r7 : List AOper := [oN (.move (.v 8)),
 oS 7 (.move (.l 0))]
theorem a78r7_ev : Ev a78r7 (value_of% a78r7) := fun _ _ => rfl
def a78b0 : AIR := .seq (.seq (.region a78r3 false) (.cond (.v 9) (.skip) (.exit 0))) (.block 1 (.seq (.region a78r4 false) (.seq (.region a78r5 false) (.cond (.v 10) (.region a78r6 false) (.region a78r7 false)))))
def a78l0 : AIR := .loop true [0, 1, 2, 3, 4, 5, 6, 7] a78b0
theorem a78l0_run {E GP} (st) : run E GP a78l0 st = loopK (run E GP) a78l0 st.heap.length true [0, 1, 2, 3, 4, 5, 6, 7] st.rs (run E GP a78b0 { vars := st.vars, heap := st.heap, rs := false }) := run_loop _ _ _ _
def a78r8 : List AOper := [oN (.move (.v 6)),
 oN (.move (.v 6)),
 oN (.move (.v 5)),
 oN (.bin .lss (.l 1) (.l 2)),
 oN (.move (.l 3)),
 ⟨none, .move (.v 2), some (4, true)⟩,
 ⟨none, .move (.v 0), some (4, true)⟩,
 ⟨none, .move (.v 6), some (4, true)⟩,
 ⟨none, .indexAddr 3 (.l 6) (.l 7), some (4, true)⟩,
 ⟨none, .load true 3 (.l 8), some (4, true)⟩,
 ⟨none, .move (.v 1), some (4, true)⟩,
 ⟨none, .callv (.l 5) [.l 9, .l 10], some (4, true)⟩,
 ⟨none, .bin .eql (.l 11) (.c (.int .i64 0)), some (4, true)⟩,
 oN (.pick (.l 4) (.l 12) (.c (.bool false))),
 oS 3 (.move (.l 0)),
 oS 4 (.move (.l 13))]
theorem a78r8_ev : Ev a78r8 (value_of% a78r8) := fun _ _ => rfl
def a78 : AFun := .mk .shr 3 11 [.v 3, .v 4] (.seq (.region a78r0 false) (.seq (.region a78r1 false) (.seq (.region a78r2 false) (.seq (.block 0 (a78l0)) (.seq (.region a78r8 false) (.ret))))))
def a77r0 : List AOper := [oS 3 (.cb (.v 0)),
 oS 2 (.move (.c (.int .i64 0)))]
theorem a77r0_ev : Ev a77r0 (value_of% a77r0) := fun _ _ => rfl
def a77r1 : List AOper := [oN (.ca (.v 3)),
 oN (.field 0 0 false 1 (.v 3)),
 oN (.move (.v 1)),
 oN (.call 80 [.l 1, .l 2]),
 oS 2 (.move (.l 3))]
theorem a77r1_ev : Ev a77r1 (value_of% a77r1) := fun _ _ => rfl
def a77 : AFun := .mk .iso 2 4 [.v 2] (.seq (.region a77r0 false) (.seq (.region a77r1 false) (.ret)))
def a80r0 : List AOper := [oS 2 (.move (.c (.int .i64 0)))]
theorem a80r0_ev : Ev a80r0 (value_of% a80r0) := fun _ _ => rfl
def a80r1 : List AOper := [oN (.move (.v 0)),
 oN (.call 95 [.l 0]),
 oS 3 (.move (.l 1))]
theorem a80r1_ev : Ev a80r1 (value_of% a80r1) := fun _ _ => rfl
def a80r2 : List AOper := [oN (.move (.v 1)),
 oN (.call 95 [.l 0]),
 oS 4 (.move (.l 1))]
theorem a80r2_ev : Ev a80r2 (value_of% a80r2) := fun _ _ => rfl
def a80r3 : List AOper := [oS 5 (.move (.v 3))]
theorem a80r3_ev : Ev a80r3 (value_of% a80r3) := fun _ _ => rfl
def a80r4 : List AOper := [oS 6 (.move (.v 4))]
theorem a80r4_ev : Ev a80r4 (value_of% a80r4) := fun _ _ => rfl
def a80r5 : List AOper := [oS 2 (.move (.c (.int .i64 0)))]
theorem a80r5_ev : Ev a80r5 (value_of% a80r5) := fun _ _ => rfl
def a80r6 : List AOper := [oS 2 (.move (.c (.int .i64 (-1))))]
theorem a80r6_ev : Ev a80r6 (value_of% a80r6) := fun _ _ => rfl
def a80r7 : List AOper := [oS 7 (.move (.v 4))]
theorem a80r7_ev : Ev a80r7 (value_of% a80r7) := fun _ _ => rfl
def a80r8 : List AOper := [oS 2 (.move (.c (.int .i64 1)))]
theorem a80r8_ev : Ev a80r8 (value_of% a80r8) := fun _ _ => rfl
def a80r9 : List AOper := [oN (.move (.v 0)),
 oN (.move (.v 1)),
 oS 8 (.bin .lss (.l 0) (.l 1))]
theorem a80r9_ev : Ev a80r9 (value_of% a80r9) := fun _ _ => rfl
def a80r10 : List AOper := [oS 2 (.move (.c (.int .i64 (-1))))]
theorem a80r10_ev : Ev a80r10 (value_of% a80r10) := fun _ _ => rfl
def a80r11 : List AOper := [oN (.move (.v 0)),
 oN (.move (.v 1)),
 oS 9 (.bin .gtr (.l 0) (.l 1))]
theorem a80r11_ev : Ev a80r11 (value_of% a80r11) := fun _ _ => rfl
def a80r12 : List AOper := [oS 2 (.move (.c (.int .i64 1)))]
theorem a80r12_ev : Ev a80r12 (value_of% a80r12) := fun _ _ => rfl
def a80r13 : List AOper := [oS 2 (.move (.c (.int .i64 0)))]
theorem a80r13_ev : Ev a80r13 (value_of% a80r13) := fun _ _ => rfl
def a80 : AFun := .mk .iso 2 10 [.v 2] (.seq (.region a80r0 false) (.seq (.region a80r1 false) (.seq (.region a80r2 false) (.seq (.seq (.region a80r3 false) (.cond (.v 5) (.seq (.seq (.region a80r4 false) (.cond (.v 6) (.seq (.region a80r5 false) (.ret)) (.skip))) (.seq (.region a80r6 false) (.ret))) (.skip))) (.seq (.seq (.region a80r7 false) (.cond (.v 7) (.seq (.region a80r8 false) (.ret)) (.skip))) (.seq (.seq (.region a80r9 false) (.cond (.v 8) (.seq (.region a80r10 false) (.ret)) (.skip))) (.seq (.seq (.region a80r11 false) (.cond (.v 9) (.seq (.region a80r12 false) (.ret)) (.skip))) (.seq (.region a80r13 false) (.ret)))))))))
def a79r0 : List AOper := [oS 3 (.move (.c (.int .u32 0))),
 oS 4 (.move (.c (.int .u32 0)))]
theorem a79r0_ev : Ev a79r0 (value_of% a79r0) := fun _ _ => rfl
def a79r1 : List AOper := [oN (.move (.v 0)),
 oN (.conv .u64 (.l 0)),
 oN (.move (.v 1)),
 oN (.conv .u64 (.l 2)),
 oN (.bin .add (.l 1) (.l 3)),
 oN (.move (.v 2)),
 oN (.conv .u64 (.l 5)),
 oN (.bin .add (.l 4) (.l 6)),
 oS 5 (.move (.l 7))]
theorem a79r1_ev : Ev a79r1 (value_of% a79r1) := fun _ _ => rfl
def a79r2 : List AOper := [oN (.move (.v 5)),
 oN (.conv .u32 (.l 0)),
 oS 3 (.move (.l 1))]
theorem a79r2_ev : Ev a79r2 (value_of% a79r2) := fun _ _ => rfl
def a79r3 : List AOper := [oN (.move (.v 5)),
 oN (.bin .shr (.l 0) (.c (.int .u64 32))),
 oN (.conv .u32 (.l 1)),
 oS 4 (.move (.l 2))]
theorem a79r3_ev : Ev a79r3 (value_of% a79r3) := fun _ _ => rfl
def a79 : AFun := .mk .iso 3 6 [.v 3, .v 4] (.seq (.region a79r0 false) (.seq (.region a79r1 false) (.seq (.region a79r2 false) (.seq (.region a79r3 false) (.ret)))))
def a81r0 : List AOper := [oS 2 (.move (.c (.int .i64 0)))]
theorem a81r0_ev : Ev a81r0 (value_of% a81r0) := fun _ _ => rfl
def a81r1 : List AOper := [oN (.move (.v 0)),
 oN (.call 96 [.l 0]),
 oS 3 (.move (.l 1))]
theorem a81r1_ev : Ev a81r1 (value_of% a81r1) := fun _ _ => rfl
def a81r2 : List AOper := [oN (.move (.v 1)),
 oN (.call 96 [.l 0]),
 oS 4 (.move (.l 1))]
theorem a81r2_ev : Ev a81r2 (value_of% a81r2) := fun _ _ => rfl
def a81r3 : List AOper := [oS 5 (.move (.v 3))]
theorem a81r3_ev : Ev a81r3 (value_of% a81r3) := fun _ _ => rfl
def a81r4 : List AOper := [oS 6 (.move (.v 4))]
theorem a81r4_ev : Ev a81r4 (value_of% a81r4) := fun _ _ => rfl
def a81r5 : List AOper := [oS 2 (.move (.c (.int .i64 0)))]
theorem a81r5_ev : Ev a81r5 (value_of% a81r5) := fun _ _ => rfl
def a81r6 : List AOper := [oS 2 (.move (.c (.int .i64 (-1))))]
theorem a81r6_ev : Ev a81r6 (value_of% a81r6) := fun _ _ => rfl
def a81r7 : List AOper := [oS 7 (.move (.v 4))]
theorem a81r7_ev : Ev a81r7 (value_of% a81r7) := fun _ _ => rfl
def a81r8 : List AOper := [oS 2 (.move (.c (.int .i64 1)))]
theorem a81r8_ev : Ev a81r8 (value_of% a81r8) := fun _ _ => rfl
def a81r9 : List AOper := [oN (.move (.v 0)),
 oN (.move (.v 1)),
 oS 8 (.bin .lss (.l 0) (.l 1))]
theorem a81r9_ev : Ev a81r9 (value_of% a81r9) := fun _ _ => rfl
def a81r10 : List AOper := [oS 2 (.move (.c (.int .i64 (-1))))]
theorem a81r10_ev : Ev a81r10 (value_of% a81r10) := fun _ _ => rfl
def a81r11 : List AOper := [oN (.move (.v 0)),
 oN (.move (.v 1)),
 oS 9 (.bin .gtr (.l 0) (.l 1))]
theorem a81r11_ev : Ev a81r11 (value_of% a81r11) := fun _ _ => rfl
def a81r12 : List AOper := [oS 2 (.move (.c (.int .i64 1)))]
theorem a81r12_ev : Ev a81r12 (value_of% a81r12) := fun _ _ => rfl
def a81r13 : List AOper := [oS 2 (.move (.c (.int .i64 0)))]
theorem a81r13_ev : Ev a81r13 (value_of% a81r13) := fun _ _ => rfl
def a81 : AFun := .mk .iso 2 10 [.v 2] (.seq (.region a81r0 false) (.seq (.region a81r1 false) (.seq (.region a81r2 false) (.seq (.seq (.region a81r3 false) (.cond (.v 5) (.seq (.seq (.region a81r4 false) (.cond (.v 6) (.seq (.region a81r5 false) (.ret)) (.skip))) (.seq (.region a81r6 false) (.ret))) (.skip))) (.seq (.seq (.region a81r7 false) (.cond (.v 7) (.seq (.region a81r8 false) (.ret)) (.skip))) (.seq (.seq (.region a81r9 false) (.cond (.v 8) (.seq (.region a81r10 false) (.ret)) (.skip))) (.seq (.seq (.region a81r11 false) (.cond (.v 9) (.seq (.region a81r12 false) (.ret)) (.skip))) (.seq (.region a81r13 false) (.ret)))))))))
def a82r0 : List AOper := [oS 3 (.move (.c (.int .u32 0))),
 oS 4 (.move (.c (.int .u32 0)))]
theorem a82r0_ev : Ev a82r0 (value_of% a82r0) := fun _ _ => rfl
def a82r1 : List AOper := [oN (.move (.v 0)),
 oN (.move (.v 1)),
 oN (.bin .sub (.l 0) (.l 1)),
 oN (.move (.v 2)),
 oN (.bin .sub (.l 2) (.l 3)),
 oS 3 (.move (.l 4))]
theorem a82r1_ev : Ev a82r1 (value_of% a82r1) := fun _ _ => rfl
def a82r2 : List AOper := [oN (.move (.v 0)),
 oN (.un .xor (.l 0)),
 oN (.move (.v 1)),
 oN (.bin .and (.l 1) (.l 2)),
 oN (.move (.v 0)),
 oN (.move (.v 1)),
 oN (.bin .xor (.l 4) (.l 5)),
 oN (.un .xor (.l 6)),
 oN (.move (.v 3)),
 oN (.bin .and (.l 7) (.l 8)),
 oN (.bin .or (.l 3) (.l 9)),
 oN (.bin .shr (.l 10) (.c (.int .u64 31))),
 oS 4 (.move (.l 11))]
theorem a82r2_ev : Ev a82r2 (value_of% a82r2) := fun _ _ => rfl
def a82 : AFun := .mk .iso 3 5 [.v 3, .v 4] (.seq (.region a82r0 false) (.seq (.region a82r1 false) (.seq (.region a82r2 false) (.ret))))
def a86r0 : List AOper := [oS 2 (.cb (.v 0)),
 oS 1 (.move (.c (.a (.pointer none))))]
theorem a86r0_ev : Ev a86r0 (value_of% a86r0) := fun _ _ => rfl
def a86r1 : List AOper := [oN (.cl true 3 (.v 2)),
 oN (.call 108 [.l 0]),
 oN (.ca (.v 2)),
 oN (.field 0 0 false 1 (.v 2)),
 oN (.call 109 [.l 3]),
 oN (.ca (.v 2)),
 oN (.field 0 0 false 1 (.v 2)),
 oN (.call 109 [.l 6]),
 oN (.build [.agg [.int .i64 0, .int .i64 0, .nl], .agg [.int .i64 0, .int .i64 0, .nl], .agg [.int .i64 0, .int .i64 0, .nl]] [(0, .l 1), (1, .l 4), (2, .l 7)]),
 oN (.box false (.l 8)),
 oS 1 (.move (.l 9))]
theorem a86r1_ev : Ev a86r1 (value_of% a86r1) := fun _ _ => rfl
def a86 : AFun := .mk .keep 1 3 [.v 1] (.seq (.region a86r0 false) (.seq (.region a86r1 true) (.ret)))
def a87r0 : List AOper := [oS 6 (.cb (.v 0)),
 oS 7 (.cb (.v 1)),
 oS 8 (.cn (.agg [.bool false, .isl []])),
 oS 9 (.cn (.agg [.bool false, .isl []])),
 oS 2 (.move (.c (.int .i64 0)))]
theorem a87r0_ev : Ev a87r0 (value_of% a87r0) := fun _ _ => rfl
def a87r1 : List AOper := [oN (.ca (.v 6)),
 oN (.field 1 1 false 1 (.v 6)),
 oN (.ca (.v 6)),
 oN (.field 0 0 false 1 (.v 6)),
 oN (.call 38 [.l 1, .l 3]),
 oN (.ca (.v 7)),
 oN (.field 1 1 false 1 (.v 7)),
 oN (.ca (.v 7)),
 oN (.field 0 0 false 1 (.v 7)),
 oN (.call 38 [.l 6, .l 8]),
 oS 6 (.cs 2 (.v 6) (.l 4)),
 oS 7 (.cs 2 (.v 7) (.l 9))]
theorem a87r1_ev : Ev a87r1 (value_of% a87r1) := fun _ _ => rfl
def a87r2 : List AOper := [oN (.cl true 2 (.v 7)),
 oN (.call 43 [.l 0]),
 oS 3 (.bin .eql (.l 1) (.c (.int .i64 0)))]
theorem a87r2_ev : Ev a87r2 (value_of% a87r2) := fun _ _ => rfl
def a87r3 : List AOper := [oN (.build [.bool false, .isl []] []),
 oN (.build [.bool false, .isl []] []),
 oS 8 (.cs 2 (.v 8) (.l 0)),
 oS 9 (.cs 2 (.v 9) (.l 1)),
 oS 2 (.move (.c (.int .i64 3)))]
theorem a87r3_ev : Ev a87r3 (value_of% a87r3) := fun _ _ => rfl
def a87r4 : List AOper := [oN (.ca (.v 6)),
 oN (.field 1 1 false 1 (.v 6)),
 oN (.ca (.v 7)),
 oN (.field 1 1 false 1 (.v 7)),
 oN (.call 110 [.l 1, .l 3]),
 oN (.move (.l 4)),
 oN (.extract 0 (.l 5)),
 oN (.extract 1 (.l 5)),
 oS 10 (.cn (.agg [.bool false, .isl []])),
 oS 11 (.cn (.agg [.bool false, .isl []])),
 oS 10 (.cs 2 (.l 8) (.l 6)),
 oS 11 (.cs 2 (.l 9) (.l 7))]
theorem a87r4_ev : Ev a87r4 (value_of% a87r4) := fun _ _ => rfl
def a87r5 : List AOper := [oN (.ca (.v 6)),
 oN (.field 0 0 false 1 (.v 6)),
 oN (.move (.l 1)),
 ⟨none, .cl true 2 (.v 11), some (2, true)⟩,
 ⟨none, .call 43 [.l 3], some (2, true)⟩,
 ⟨none, .bin .gtr (.l 4) (.c (.int .i64 0)), some (2, true)⟩,
 oS 4 (.pick (.l 2) (.l 5) (.c (.bool false)))]
theorem a87r5_ev : Ev a87r5 (value_of% a87r5) := fun _ _ => rfl
def a87r6 : List AOper := [oN (.cl true 2 (.v 10)),
 oN (.call 14 [.c (.int .i64 1)]),
 oN (.call 49 [.l 0, .l 1]),
 oS 10 (.cs 2 (.v 10) (.l 2))]
theorem a87r6_ev : Ev a87r6 (value_of% a87r6) := fun _ _ => rfl
def a87r7 : List AOper := [oN (.ca (.v 7)),
 oN (.field 1 1 false 1 (.v 7)),
 oN (.call 38 [.l 1, .c (.bool false)]),
 oN (.cl true 2 (.v 11)),
 oN (.call 111 [.l 2, .l 3]),
 oS 11 (.cs 2 (.v 11) (.l 4))]
theorem a87r7_ev : Ev a87r7 (value_of% a87r7) := fun _ _ => rfl
def a87r8 : List AOper := [oN (.ca (.v 6)),
 oN (.field 0 0 false 1 (.v 6)),
 oN (.ca (.v 7)),
 oN (.field 0 0 false 1 (.v 7)),
 oS 5 (.binb true (.l 1) (.l 3))]
theorem a87r8_ev : Ev a87r8 (value_of% a87r8) := fun _ _ => rfl
def a87r9 : List AOper := [oN (.cl true 2 (.v 10)),
 oN (.call 88 [.l 0]),
 oS 10 (.cs 2 (.v 10) (.l 1))]
theorem a87r9_ev : Ev a87r9 (value_of% a87r9) := fun _ _ => rfl
def a87r10 : List AOper := [oN (.cl true 2 (.v 10)),
 oN (.cl true 2 (.v 11)),
 oS 8 (.cs 2 (.v 8) (.l 0)),
 oS 9 (.cs 2 (.v 9) (.l 1)),
 oS 2 (.move (.c (.int .i64 0)))]
theorem a87r10_ev : Ev a87r10 (value_of% a87r10) := fun _ _ => rfl
def a87 : AFun := .mk .iso 2 12 [.c 8 true 2, .c 9 true 2, .v 2] (.seq (.region a87r0 false) (.seq (.region a87r1 true) (.seq (.seq (.region a87r2 false) (.cond (.v 3) (.seq (.region a87r3 false) (.ret)) (.skip))) (.seq (.region a87r4 false) (.seq (.seq (.region a87r5 false) (.cond (.v 4) (.seq (.region a87r6 true) (.region a87r7 true)) (.skip))) (.seq (.seq (.region a87r8 false) (.cond (.v 5) (.region a87r9 false) (.skip))) (.seq (.region a87r10 true) (.ret))))))))
def a89r0 : List AOper := [oS 10 (.cb (.v 3))]
theorem a89r0_ev : Ev a89r0 (value_of% a89r0) := fun _ _ => rfl
def a89r1 : List AOper := [oS 4 (.move (.c (.int .i64 0)))]
theorem a89r1_ev : Ev a89r1 (value_of% a89r1) := fun _ _ => rfl
def a89r2 : List AOper := [oN (.move (.v 4)),
 oN (.move (.v 0)),
 oN (.nilCheck (.l 1)),
 oN (.fieldAddr 0 0 (.l 2)),
 oN (.fieldAddr 1 1 (.l 3)),
 oN (.load false 1 (.l 4)),
 oS 7 (.bin .lss (.l 0) (.l 5))]
theorem a89r2_ev : Ev a89r2 (value_of% a89r2) := fun _ _ => rfl
def a89r4 : List AOper := [oN (.move (.v 0)),
 oN (.nilCheck (.l 0)),
 oN (.fieldAddr 0 0 (.l 1)),
 oN (.fieldAddr 2 2 (.l 2)),
 oN (.load false 1 (.l 3)),
 oN (.move (.v 1)),
 oN (.indexAddr 1 (.l 4) (.l 5)),
 oN (.load false 1 (.l 6)),
 oN (.move (.v 4)),
 oN (.move (.v 0)),
 oN (.nilCheck (.l 9)),
 oN (.fieldAddr 0 0 (.l 10)),
 oN (.fieldAddr 2 2 (.l 11)),
 oN (.load false 1 (.l 12)),
 oN (.move (.v 1)),
 oN (.indexAddr 1 (.l 13) (.l 14)),
 oN (.load false 1 (.l 15)),
 oN (.move (.v 4)),
 oN (.indexAddr 2 (.l 16) (.l 17)),
 oN (.load true 2 (.l 18)),
 oN (.cl true 2 (.v 10)),
 oN (.move (.v 0)),
 oN (.nilCheck (.l 21)),
 oN (.fieldAddr 0 0 (.l 22)),
 oN (.fieldAddr 2 2 (.l 23)),
 oN (.load false 1 (.l 24)),
 oN (.move (.v 2)),
 oN (.indexAddr 1 (.l 25) (.l 26)),
 oN (.load false 1 (.l 27)),
 oN (.move (.v 4)),
 oN (.indexAddr 2 (.l 28) (.l 29)),
 oN (.load true 2 (.l 30)),
 oN (.call 41 [.l 20, .l 31]),
 oN (.call 49 [.l 19, .l 32]),
 oN (.indexAddr 2 (.l 7) (.l 8)),
 oN (.store 2 (.l 34) (.l 33))]
theorem a89r4_ev : Ev a89r4 (value_of% a89r4) := fun _ _ => rfl
def a89r3 : List AOper := [oN (.move (.v 4)),
 oN (.bin .add (.l 0) (.c (.int .i64 1))),
 oS 4 (.move (.l 1))]
theorem a89r3_ev : Ev a89r3 (value_of% a89r3) := fun _ _ => rfl
def a89b0 : AIR := .seq (.seq (.region a89r2 false) (.cond (.v 7) (.skip) (.exit 0))) (.seq (.block 1 (.region a89r4 true)) (.region a89r3 false))
def a89l0 : AIR := .loop false [0, 1, 2, 3, 4, 5, 6, 8, 9, 10] a89b0
theorem a89l0_run {E GP} (st) : run E GP a89l0 st = loopK (run E GP) a89l0 st.heap.length false [0, 1, 2, 3, 4, 5, 6, 8, 9, 10] st.rs (run E GP a89b0 { vars := st.vars, heap := st.heap, rs := false }) := run_loop _ _ _ _
def a89r5 : List AOper := [oS 5 (.move (.c (.int .i64 0)))]
theorem a89r5_ev : Ev a89r5 (value_of% a89r5) := fun _ _ => rfl
def a89r6 : List AOper := [oN (.move (.v 5)),
 oN (.move (.v 0)),
 oN (.nilCheck (.l 1)),
 oN (.fieldAddr 1 3 (.l 2)),
 oN (.fieldAddr 1 1 (.l 3)),
 oN (.load false 1 (.l 4)),
 oS 8 (.bin .lss (.l 0) (.l 5))]
theorem a89r6_ev : Ev a89r6 (value_of% a89r6) := fun _ _ => rfl
def a89r8 : List AOper := [oN (.move (.v 0)),
 oN (.nilCheck (.l 0)),
 oN (.fieldAddr 1 3 (.l 1)),
 oN (.fieldAddr 2 2 (.l 2)),
 oN (.load false 1 (.l 3)),
 oN (.move (.v 1)),
 oN (.indexAddr 1 (.l 4) (.l 5)),
 oN (.load false 1 (.l 6)),
 oN (.move (.v 5)),
 oN (.move (.v 0)),
 oN (.nilCheck (.l 9)),
 oN (.fieldAddr 1 3 (.l 10)),
 oN (.fieldAddr 2 2 (.l 11)),
 oN (.load false 1 (.l 12)),
 oN (.move (.v 1)),
 oN (.indexAddr 1 (.l 13) (.l 14)),
 oN (.load false 1 (.l 15)),
 oN (.move (.v 5)),
 oN (.indexAddr 2 (.l 16) (.l 17)),
 oN (.load true 2 (.l 18)),
 oN (.cl true 2 (.v 10)),
 oN (.move (.v 0)),
 oN (.nilCheck (.l 21)),
 oN (.fieldAddr 1 3 (.l 22)),
 oN (.fieldAddr 2 2 (.l 23)),
 oN (.load false 1 (.l 24)),
 oN (.move (.v 2)),
 oN (.indexAddr 1 (.l 25) (.l 26)),
 oN (.load false 1 (.l 27)),
 oN (.move (.v 5)),
 oN (.indexAddr 2 (.l 28) (.l 29)),
 oN (.load true 2 (.l 30)),
 oN (.call 41 [.l 20, .l 31]),
 oN (.call 49 [.l 19, .l 32]),
 oN (.indexAddr 2 (.l 7) (.l 8)),
 oN (.store 2 (.l 34) (.l 33))]
theorem a89r8_ev : Ev a89r8 (value_of% a89r8) := fun _ _ => rfl
def a89r7 : List AOper := [oN (.move (.v 5)),
 oN (.bin .add (.l 0) (.c (.int .i64 1))),
 oS 5 (.move (.l 1))]
theorem a89r7_ev : Ev a89r7 (value_of% a89r7) := fun _ _ => rfl
def a89b1 : AIR := .seq (.seq (.region a89r6 false) (.cond (.v 8) (.skip) (.exit 2))) (.seq (.block 3 (.region a89r8 true)) (.region a89r7 false))
def a89l1 : AIR := .loop false [0, 1, 2, 3, 4, 5, 6, 7, 9, 10] a89b1
theorem a89l1_run {E GP} (st) : run E GP a89l1 st = loopK (run E GP) a89l1 st.heap.length false [0, 1, 2, 3, 4, 5, 6, 7, 9, 10] st.rs (run E GP a89b1 { vars := st.vars, heap := st.heap, rs := false }) := run_loop _ _ _ _
def a89r9 : List AOper := [oS 6 (.move (.c (.int .i64 0)))]
theorem a89r9_ev : Ev a89r9 (value_of% a89r9) := fun _ _ => rfl
def a89r10 : List AOper := [oN (.move (.v 6)),
 oN (.move (.v 0)),
 oN (.nilCheck (.l 1)),
 oN (.fieldAddr 2 6 (.l 2)),
 oN (.fieldAddr 0 0 (.l 3)),
 oN (.load false 1 (.l 4)),
 oS 9 (.bin .lss (.l 0) (.l 5))]
theorem a89r10_ev : Ev a89r10 (value_of% a89r10) := fun _ _ => rfl
def a89r12 : List AOper := [oN (.move (.v 0)),
 oN (.nilCheck (.l 0)),
 oN (.fieldAddr 2 6 (.l 1)),
 oN (.fieldAddr 2 2 (.l 2)),
 oN (.load false 1 (.l 3)),
 oN (.move (.v 6)),
 oN (.indexAddr 1 (.l 4) (.l 5)),
 oN (.load false 1 (.l 6)),
 oN (.move (.v 2)),
 oN (.move (.v 0)),
 oN (.nilCheck (.l 9)),
 oN (.fieldAddr 2 6 (.l 10)),
 oN (.fieldAddr 2 2 (.l 11)),
 oN (.load false 1 (.l 12)),
 oN (.move (.v 6)),
 oN (.indexAddr 1 (.l 13) (.l 14)),
 oN (.load false 1 (.l 15)),
 oN (.move (.v 2)),
 oN (.indexAddr 2 (.l 16) (.l 17)),
 oN (.load true 2 (.l 18)),
 oN (.cl true 2 (.v 10)),
 oN (.move (.v 0)),
 oN (.nilCheck (.l 21)),
 oN (.fieldAddr 2 6 (.l 22)),
 oN (.fieldAddr 2 2 (.l 23)),
 oN (.load false 1 (.l 24)),
 oN (.move (.v 6)),
 oN (.indexAddr 1 (.l 25) (.l 26)),
 oN (.load false 1 (.l 27)),
 oN (.move (.v 1)),
 oN (.indexAddr 2 (.l 28) (.l 29)),
 oN (.load true 2 (.l 30)),
 oN (.call 41 [.l 20, .l 31]),
 oN (.call 111 [.l 19, .l 32]),
 oN (.indexAddr 2 (.l 7) (.l 8)),
 oN (.store 2 (.l 34) (.l 33))]
theorem a89r12_ev : Ev a89r12 (value_of% a89r12) := fun _ _ => rfl
def a89r11 : List AOper := [oN (.move (.v 6)),
 oN (.bin .add (.l 0) (.c (.int .i64 1))),
 oS 6 (.move (.l 1))]
theorem a89r11_ev : Ev a89r11 (value_of% a89r11) := fun _ _ => rfl
def a89b2 : AIR := .seq (.seq (.region a89r10 false) (.cond (.v 9) (.skip) (.exit 4))) (.seq (.block 5 (.region a89r12 true)) (.region a89r11 false))
def a89l2 : AIR := .loop false [0, 1, 2, 3, 4, 5, 6, 7, 8, 10] a89b2
theorem a89l2_run {E GP} (st) : run E GP a89l2 st = loopK (run E GP) a89l2 st.heap.length false [0, 1, 2, 3, 4, 5, 6, 7, 8, 10] st.rs (run E GP a89b2 { vars := st.vars, heap := st.heap, rs := false }) := run_loop _ _ _ _
def a89 : AFun := .mk .keep 4 11 [] (.seq (.region a89r0 false) (.seq (.seq (.region a89r1 false) (.block 0 (a89l0))) (.seq (.seq (.region a89r5 false) (.block 2 (a89l1))) (.seq (.region a89r9 false) (.block 4 (a89l2))))))
def a88r0 : List AOper := [oS 1 (.cb (.v 0)),
 oS 2 (.cn (.agg [.bool false, .isl []]))]
theorem a88r0_ev : Ev a88r0 (value_of% a88r0) := fun _ _ => rfl
def a88r1 : List AOper := [oN (.ca (.v 1)),
 oN (.field 1 1 false 1 (.v 1)),
 oN (.ca (.v 1)),
 oN (.field 0 0 false 1 (.v 1)),
 oN (.un .not (.l 3)),
 oN (.call 38 [.l 1, .l 4]),
 oS 2 (.cs 2 (.v 2) (.l 5))]
theorem a88r1_ev : Ev a88r1 (value_of% a88r1) := fun _ _ => rfl
def a88 : AFun := .mk .iso 1 3 [.c 2 true 2] (.seq (.region a88r0 false) (.seq (.region a88r1 false) (.ret)))
def a90r0 : List AOper := [oN (.move (.v 0)),
 oN (.nilCheck (.l 0)),
 oN (.fieldAddr 0 0 (.l 1)),
 oN (.fieldAddr 2 2 (.l 2)),
 oN (.load false 1 (.l 3)),
 oN (.move (.v 1)),
 oN (.indexAddr 1 (.l 4) (.l 5)),
 oN (.load false 1 (.l 6)),
 oS 3 (.move (.l 7))]
theorem a90r0_ev : Ev a90r0 (value_of% a90r0) := fun _ _ => rfl
def a90r1 : List AOper := [oN (.move (.v 0)),
 oN (.nilCheck (.l 0)),
 oN (.fieldAddr 0 0 (.l 1)),
 oN (.fieldAddr 2 2 (.l 2)),
 oN (.load false 1 (.l 3)),
 oN (.move (.v 1)),
 oN (.move (.v 0)),
 oN (.nilCheck (.l 6)),
 oN (.fieldAddr 0 0 (.l 7)),
 oN (.fieldAddr 2 2 (.l 8)),
 oN (.load false 1 (.l 9)),
 oN (.move (.v 2)),
 oN (.indexAddr 1 (.l 10) (.l 11)),
 oN (.load false 1 (.l 12)),
 oN (.indexAddr 1 (.l 4) (.l 5)),
 oN (.store 1 (.l 14) (.l 13))]
theorem a90r1_ev : Ev a90r1 (value_of% a90r1) := fun _ _ => rfl
def a90r2 : List AOper := [oN (.move (.v 0)),
 oN (.nilCheck (.l 0)),
 oN (.fieldAddr 0 0 (.l 1)),
 oN (.fieldAddr 2 2 (.l 2)),
 oN (.load false 1 (.l 3)),
 oN (.move (.v 2)),
 oN (.move (.v 3)),
 oN (.indexAddr 1 (.l 4) (.l 5)),
 oN (.store 1 (.l 7) (.l 6))]
theorem a90r2_ev : Ev a90r2 (value_of% a90r2) := fun _ _ => rfl
def a90r3 : List AOper := [oN (.move (.v 0)),
 oN (.nilCheck (.l 0)),
 oN (.fieldAddr 1 3 (.l 1)),
 oN (.fieldAddr 2 2 (.l 2)),
 oN (.load false 1 (.l 3)),
 oN (.move (.v 1)),
 oN (.indexAddr 1 (.l 4) (.l 5)),
 oN (.load false 1 (.l 6)),
 oS 3 (.move (.l 7))]
theorem a90r3_ev : Ev a90r3 (value_of% a90r3) := fun _ _ => rfl
def a90r4 : List AOper := [oN (.move (.v 0)),
 oN (.nilCheck (.l 0)),
 oN (.fieldAddr 1 3 (.l 1)),
 oN (.fieldAddr 2 2 (.l 2)),
 oN (.load false 1 (.l 3)),
 oN (.move (.v 1)),
 oN (.move (.v 0)),
 oN (.nilCheck (.l 6)),
 oN (.fieldAddr 1 3 (.l 7)),
 oN (.fieldAddr 2 2 (.l 8)),
 oN (.load false 1 (.l 9)),
 oN (.move (.v 2)),
 oN (.indexAddr 1 (.l 10) (.l 11)),
 oN (.load false 1 (.l 12)),
 oN (.indexAddr 1 (.l 4) (.l 5)),
 oN (.store 1 (.l 14) (.l 13))]
theorem a90r4_ev : Ev a90r4 (value_of% a90r4) := fun _ _ => rfl
def a90r5 : List AOper := [oN (.move (.v 0)),
 oN (.nilCheck (.l 0)),
 oN (.fieldAddr 1 3 (.l 1)),
 oN (.fieldAddr 2 2 (.l 2)),
 oN (.load false 1 (.l 3)),
 oN (.move (.v 2)),
 oN (.move (.v 3)),
 oN (.indexAddr 1 (.l 4) (.l 5)),
 oN (.store 1 (.l 7) (.l 6))]
theorem a90r5_ev : Ev a90r5 (value_of% a90r5) := fun _ _ => rfl
def a90r6 : List AOper := [oS 4 (.move (.c (.int .i64 0)))]
theorem a90r6_ev : Ev a90r6 (value_of% a90r6) := fun _ _ => rfl
def a90r7 : List AOper := [oN (.move (.v 4)),
 oN (.move (.v 0)),
 oN (.nilCheck (.l 1)),
 oN (.fieldAddr 2 6 (.l 2)),
 oN (.fieldAddr 0 0 (.l 3)),
 oN (.load false 1 (.l 4)),
 oS 5 (.bin .lss (.l 0) (.l 5))]
theorem a90r7_ev : Ev a90r7 (value_of% a90r7) := fun _ _ => rfl
def a90r9 : List AOper := [oN (.move (.v 0)),
 oN (.nilCheck (.l 0)),
 oN (.fieldAddr 2 6 (.l 1)),
 oN (.fieldAddr 2 2 (.l 2)),
 oN (.load false 1 (.l 3)),
 oN (.move (.v 4)),
 oN (.indexAddr 1 (.l 4) (.l 5)),
 oN (.load false 1 (.l 6)),
 oN (.move (.v 1)),
 oN (.indexAddr 2 (.l 7) (.l 8)),
 oN (.load true 2 (.l 9)),
 oS 6 (.cn (.agg [.bool false, .isl []])),
 oS 6 (.cs 2 (.l 11) (.l 10))]
theorem a90r9_ev : Ev a90r9 (value_of% a90r9) := fun _ _ => rfl
def a90r10 : List AOper := [oN (.move (.v 0)),
 oN (.nilCheck (.l 0)),
 oN (.fieldAddr 2 6 (.l 1)),
 oN (.fieldAddr 2 2 (.l 2)),
 oN (.load false 1 (.l 3)),
 oN (.move (.v 4)),
 oN (.indexAddr 1 (.l 4) (.l 5)),
 oN (.load false 1 (.l 6)),
 oN (.move (.v 1)),
 oN (.move (.v 0)),
 oN (.nilCheck (.l 9)),
 oN (.fieldAddr 2 6 (.l 10)),
 oN (.fieldAddr 2 2 (.l 11)),
 oN (.load false 1 (.l 12)),
 oN (.move (.v 4)),
 oN (.indexAddr 1 (.l 13) (.l 14)),
 oN (.load false 1 (.l 15)),
 oN (.move (.v 2)),
 oN (.indexAddr 2 (.l 16) (.l 17)),
 oN (.load true 2 (.l 18)),
 oN (.indexAddr 2 (.l 7) (.l 8)),
 oN (.store 2 (.l 20) (.l 19))]
theorem a90r10_ev : Ev a90r10 (value_of% a90r10) := fun _ _ => rfl
def a90r11 : List AOper := [oN (.move (.v 0)),
 oN (.nilCheck (.l 0)),
 oN (.fieldAddr 2 6 (.l 1)),
 oN (.fieldAddr 2 2 (.l 2)),
 oN (.load false 1 (.l 3)),
 oN (.move (.v 4)),
 oN (.indexAddr 1 (.l 4) (.l 5)),
 oN (.load false 1 (.l 6)),
 oN (.move (.v 2)),
 oN (.cl true 2 (.v 6)),
 oN (.indexAddr 2 (.l 7) (.l 8)),
 oN (.store 2 (.l 10) (.l 9))]
theorem a90r11_ev : Ev a90r11 (value_of% a90r11) := fun _ _ => rfl
def a90r8 : List AOper := [oN (.move (.v 4)),
 oN (.bin .add (.l 0) (.c (.int .i64 1))),
 oS 4 (.move (.l 1))]
theorem a90r8_ev : Ev a90r8 (value_of% a90r8) := fun _ _ => rfl
def a90b0 : AIR := .seq (.seq (.region a90r7 false) (.cond (.v 5) (.skip) (.exit 0))) (.seq (.block 1 (.seq (.region a90r9 false) (.seq (.region a90r10 true) (.region a90r11 true)))) (.region a90r8 false))
def a90l0 : AIR := .loop false [0, 1, 2, 3, 4] a90b0
theorem a90l0_run {E GP} (st) : run E GP a90l0 st = loopK (run E GP) a90l0 st.heap.length false [0, 1, 2, 3, 4] st.rs (run E GP a90b0 { vars := st.vars, heap := st.heap, rs := false }) := run_loop _ _ _ _
def a90 : AFun := .mk .keep 3 7 [] (.seq (.region a90r0 false) (.seq (.region a90r1 true) (.seq (.region a90r2 false) (.seq (.region a90r3 false) (.seq (.region a90r4 true) (.seq (.region a90r5 false) (.seq (.region a90r6 false) (.block 0 (a90l0)))))))))
def a91r0 : List AOper := [oS 2 (.move (.c (.int .i64 0)))]
theorem a91r0_ev : Ev a91r0 (value_of% a91r0) := fun _ _ => rfl
def a91r1 : List AOper := [oN (.move (.v 2)),
 oN (.move (.v 0)),
 oN (.nilCheck (.l 1)),
 oN (.fieldAddr 0 0 (.l 2)),
 oN (.fieldAddr 1 1 (.l 3)),
 oN (.load false 1 (.l 4)),
 oS 5 (.bin .lss (.l 0) (.l 5))]
theorem a91r1_ev : Ev a91r1 (value_of% a91r1) := fun _ _ => rfl
def a91r3 : List AOper := [oN (.move (.v 0)),
 oN (.nilCheck (.l 0)),
 oN (.fieldAddr 0 0 (.l 1)),
 oN (.fieldAddr 2 2 (.l 2)),
 oN (.load false 1 (.l 3)),
 oN (.move (.v 1)),
 oN (.indexAddr 1 (.l 4) (.l 5)),
 oN (.load false 1 (.l 6)),
 oN (.move (.v 2)),
 oN (.move (.v 0)),
 oN (.nilCheck (.l 9)),
 oN (.fieldAddr 0 0 (.l 10)),
 oN (.fieldAddr 2 2 (.l 11)),
 oN (.load false 1 (.l 12)),
 oN (.move (.v 1)),
 oN (.indexAddr 1 (.l 13) (.l 14)),
 oN (.load false 1 (.l 15)),
 oN (.move (.v 2)),
 oN (.indexAddr 2 (.l 16) (.l 17)),
 oN (.load true 2 (.l 18)),
 oN (.call 88 [.l 19]),
 oN (.indexAddr 2 (.l 7) (.l 8)),
 oN (.store 2 (.l 21) (.l 20))]
theorem a91r3_ev : Ev a91r3 (value_of% a91r3) := fun _ _ => rfl
def a91r2 : List AOper := [oN (.move (.v 2)),
 oN (.bin .add (.l 0) (.c (.int .i64 1))),
 oS 2 (.move (.l 1))]
theorem a91r2_ev : Ev a91r2 (value_of% a91r2) := fun _ _ => rfl
def a91b0 : AIR := .seq (.seq (.region a91r1 false) (.cond (.v 5) (.skip) (.exit 0))) (.seq (.block 1 (.region a91r3 true)) (.region a91r2 false))
def a91l0 : AIR := .loop false [0, 1, 2, 3, 4, 6, 7] a91b0
theorem a91l0_run {E GP} (st) : run E GP a91l0 st = loopK (run E GP) a91l0 st.heap.length false [0, 1, 2, 3, 4, 6, 7] st.rs (run E GP a91b0 { vars := st.vars, heap := st.heap, rs := false }) := run_loop _ _ _ _
def a91r4 : List AOper := [oS 3 (.move (.c (.int .i64 0)))]
theorem a91r4_ev : Ev a91r4 (value_of% a91r4) := fun _ _ => rfl
def a91r5 : List AOper := [oN (.move (.v 3)),
 oN (.move (.v 0)),
 oN (.nilCheck (.l 1)),
 oN (.fieldAddr 1 3 (.l 2)),
 oN (.fieldAddr 1 1 (.l 3)),
 oN (.load false 1 (.l 4)),
 oS 6 (.bin .lss (.l 0) (.l 5))]
theorem a91r5_ev : Ev a91r5 (value_of% a91r5) := fun _ _ => rfl
def a91r7 : List AOper := [oN (.move (.v 0)),
 oN (.nilCheck (.l 0)),
 oN (.fieldAddr 1 3 (.l 1)),
 oN (.fieldAddr 2 2 (.l 2)),
 oN (.load false 1 (.l 3)),
 oN (.move (.v 1)),
 oN (.indexAddr 1 (.l 4) (.l 5)),
 oN (.load false 1 (.l 6)),
 oN (.move (.v 3)),
 oN (.move (.v 0)),
 oN (.nilCheck (.l 9)),
 oN (.fieldAddr 1 3 (.l 10)),
 oN (.fieldAddr 2 2 (.l 11)),
 oN (.load false 1 (.l 12)),
 oN (.move (.v 1)),
 oN (.indexAddr 1 (.l 13) (.l 14)),
 oN (.load false 1 (.l 15)),
 oN (.move (.v 3)),
 oN (.indexAddr 2 (.l 16) (.l 17)),
 oN (.load true 2 (.l 18)),
 oN (.call 88 [.l 19]),
 oN (.indexAddr 2 (.l 7) (.l 8)),
 oN (.store 2 (.l 21) (.l 20))]
theorem a91r7_ev : Ev a91r7 (value_of% a91r7) := fun _ _ => rfl
def a91r6 : List AOper := [oN (.move (.v 3)),
 oN (.bin .add (.l 0) (.c (.int .i64 1))),
 oS 3 (.move (.l 1))]
theorem a91r6_ev : Ev a91r6 (value_of% a91r6) := fun _ _ => rfl
def a91b1 : AIR := .seq (.seq (.region a91r5 false) (.cond (.v 6) (.skip) (.exit 2))) (.seq (.block 3 (.region a91r7 true)) (.region a91r6 false))
def a91l1 : AIR := .loop false [0, 1, 2, 3, 4, 5, 7] a91b1
theorem a91l1_run {E GP} (st) : run E GP a91l1 st = loopK (run E GP) a91l1 st.heap.length false [0, 1, 2, 3, 4, 5, 7] st.rs (run E GP a91b1 { vars := st.vars, heap := st.heap, rs := false }) := run_loop _ _ _ _
def a91r8 : List AOper := [oS 4 (.move (.c (.int .i64 0)))]
theorem a91r8_ev : Ev a91r8 (value_of% a91r8) := fun _ _ => rfl
def a91r9 : List AOper := [oN (.move (.v 4)),
 oN (.move (.v 0)),
 oN (.nilCheck (.l 1)),
 oN (.fieldAddr 2 6 (.l 2)),
 oN (.fieldAddr 0 0 (.l 3)),
 oN (.load false 1 (.l 4)),
 oS 7 (.bin .lss (.l 0) (.l 5))]
theorem a91r9_ev : Ev a91r9 (value_of% a91r9) := fun _ _ => rfl
def a91r11 : List AOper := [oN (.move (.v 0)),
 oN (.nilCheck (.l 0)),
 oN (.fieldAddr 2 6 (.l 1)),
 oN (.fieldAddr 2 2 (.l 2)),
 oN (.load false 1 (.l 3)),
 oN (.move (.v 4)),
 oN (.indexAddr 1 (.l 4) (.l 5)),
 oN (.load false 1 (.l 6)),
 oN (.move (.v 1)),
 oN (.move (.v 0)),
 oN (.nilCheck (.l 9)),
 oN (.fieldAddr 2 6 (.l 10)),
 oN (.fieldAddr 2 2 (.l 11)),
 oN (.load false 1 (.l 12)),
 oN (.move (.v 4)),
 oN (.indexAddr 1 (.l 13) (.l 14)),
 oN (.load false 1 (.l 15)),
 oN (.move (.v 1)),
 oN (.indexAddr 2 (.l 16) (.l 17)),
 oN (.load true 2 (.l 18)),
 oN (.call 88 [.l 19]),
 oN (.indexAddr 2 (.l 7) (.l 8)),
 oN (.store 2 (.l 21) (.l 20))]
theorem a91r11_ev : Ev a91r11 (value_of% a91r11) := fun _ _ => rfl
def a91r10 : List AOper := [oN (.move (.v 4)),
 oN (.bin .add (.l 0) (.c (.int .i64 1))),
 oS 4 (.move (.l 1))]
theorem a91r10_ev : Ev a91r10 (value_of% a91r10) := fun _ _ => rfl
def a91b2 : AIR := .seq (.seq (.region a91r9 false) (.cond (.v 7) (.skip) (.exit 4))) (.seq (.block 5 (.region a91r11 true)) (.region a91r10 false))
def a91l2 : AIR := .loop false [0, 1, 2, 3, 4, 5, 6] a91b2
theorem a91l2_run {E GP} (st) : run E GP a91l2 st = loopK (run E GP) a91l2 st.heap.length false [0, 1, 2, 3, 4, 5, 6] st.rs (run E GP a91b2 { vars := st.vars, heap := st.heap, rs := false }) := run_loop _ _ _ _
def a91 : AFun := .mk .keep 2 8 [] (.seq (.seq (.region a91r0 false) (.block 0 (a91l0))) (.seq (.seq (.region a91r4 false) (.block 2 (a91l1))) (.seq (.region a91r8 false) (.block 4 (a91l2)))))
def a92r0 : List AOper := [oS 2 (.cb (.v 0)),
 oS 3 (.cb (.v 1)),
 oS 4 (.cn (.agg [.bool false, .isl []]))]
theorem a92r0_ev : Ev a92r0 (value_of% a92r0) := fun _ _ => rfl
def a92r1 : List AOper := [oN (.cl true 2 (.v 2)),
 oN (.cl true 2 (.v 3)),
 oN (.call 87 [.l 0, .l 1]),
 oN (.move (.l 2)),
 oN (.extract 0 (.l 3)),
 oN (.extract 1 (.l 3)),
 oN (.extract 2 (.l 3)),
 oS 5 (.cn (.agg [.bool false, .isl []])),
 oS 6 (.cn (.agg [.bool false, .isl []])),
 oS 5 (.cs 2 (.l 7) (.l 4)),
 oS 6 (.cs 2 (.l 8) (.l 5)),
 oN (.move (.l 6))]
theorem a92r1_ev : Ev a92r1 (value_of% a92r1) := fun _ _ => rfl
def a92r2 : List AOper := [oN (.cl true 2 (.v 5)),
 oS 4 (.cs 2 (.v 4) (.l 0))]
theorem a92r2_ev : Ev a92r2 (value_of% a92r2) := fun _ _ => rfl
def a92 : AFun := .mk .iso 2 7 [.c 4 true 2] (.seq (.region a92r0 false) (.seq (.region a92r1 false) (.seq (.region a92r2 false) (.ret))))
def a93r0 : List AOper := [oS 1 (.move (.c (.int .i64 0)))]
theorem a93r0_ev : Ev a93r0 (value_of% a93r0) := fun _ _ => rfl
def a93r1 : List AOper := [oS 2 (.move (.c (.int .i64 0)))]
theorem a93r1_ev : Ev a93r1 (value_of% a93r1) := fun _ _ => rfl
def a93r2 : List AOper := [oN (.move (.v 2)),
 oN (.move (.v 0)),
 oN (.len 0 (.l 1)),
 oS 3 (.bin .lss (.l 0) (.l 2))]
theorem a93r2_ev : Ev a93r2 (value_of% a93r2) := fun _ _ => rfl
def a93r4 : List AOper := [oN (.move (.v 0)),
 oN (.move (.v 2)),
 oN (.indexAddr 2 (.l 0) (.l 1)),
 oN (.load true 2 (.l 2)),
 oN (.call 43 [.l 3]),
 oS 4 (.bin .neq (.l 4) (.c (.int .i64 0)))]
theorem a93r4_ev : Ev a93r4 (value_of% a93r4) := fun _ _ => rfl
def a93r5 : List AOper := [oN (.move (.v 2)),
 oS 1 (.move (.l 0))]
theorem a93r5_ev : Ev a93r5 (value_of% a93r5) := fun _ _ => rfl
def a93r3 : List AOper := [oN (.move (.v 2)),
 oN (.bin .add (.l 0) (.c (.int .i64 1))),
 oS 2 (.move (.l 1))]
theorem a93r3_ev : Ev a93r3 (value_of% a93r3) := fun _ _ => rfl
def a93b0 : AIR := .seq (.seq (.region a93r2 false) (.cond (.v 3) (.skip) (.exit 0))) (.seq (.block 1 (.seq (.region a93r4 false) (.cond (.v 4) (.seq (.region a93r5 false) (.ret)) (.skip)))) (.region a93r3 false))
def a93l0 : AIR := .loop true [0, 1, 2] a93b0
theorem a93l0_run {E GP} (st) : run E GP a93l0 st = loopK (run E GP) a93l0 st.heap.length true [0, 1, 2] st.rs (run E GP a93b0 { vars := st.vars, heap := st.heap, rs := false }) := run_loop _ _ _ _
def a93r6 : List AOper := [oS 1 (.move (.c (.int .i64 (-1))))]
theorem a93r6_ev : Ev a93r6 (value_of% a93r6) := fun _ _ => rfl
def a93 : AFun := .mk .iso 1 5 [.v 1] (.seq (.region a93r0 false) (.seq (.seq (.region a93r1 false) (.block 0 (a93l0))) (.seq (.region a93r6 false) (.ret))))
def a94r0 : List AOper := [oS 2 (.cb (.v 0)),
 oS 3 (.cn (.agg [.int .i64 0, .int .i64 0, .nl]))]
theorem a94r0_ev : Ev a94r0 (value_of% a94r0) := fun _ _ => rfl
def a94r1 : List AOper := [oN (.move (.v 1)),
 oN (.ca (.v 2)),
 oN (.field 1 1 false 1 (.v 2)),
 oN (.ca (.v 2)),
 oN (.field 2 2 false 1 (.v 2)),
 oN (.move (.v 1)),
 oN (.slice 1 (.l 4) none (some (.l 5)) none),
 oN (.build [.int .i64 0, .int .i64 0, .nl] [(0, .l 0), (1, .l 2), (2, .l 6)]),
 oS 3 (.cs 3 (.v 3) (.l 7))]
theorem a94r1_ev : Ev a94r1 (value_of% a94r1) := fun _ _ => rfl
def a94 : AFun := .mk .iso 2 4 [.c 3 true 3] (.seq (.region a94r0 false) (.seq (.region a94r1 true) (.ret)))
def a95r0 : List AOper := [oS 1 (.move (.c (.bool false)))]
theorem a95r0_ev : Ev a95r0 (value_of% a95r0) := fun _ _ => rfl
def a95r1 : List AOper := [oN (.move (.v 0)),
 oN (.move (.v 0)),
 oN (.bin .neq (.l 0) (.l 1)),
 oS 1 (.move (.l 2))]
theorem a95r1_ev : Ev a95r1 (value_of% a95r1) := fun _ _ => rfl
def a95 : AFun := .mk .iso 1 2 [.v 1] (.seq (.region a95r0 false) (.seq (.region a95r1 false) (.ret)))
def a96r0 : List AOper := [oS 1 (.move (.c (.bool false)))]
theorem a96r0_ev : Ev a96r0 (value_of% a96r0) := fun _ _ => rfl
def a96r1 : List AOper := [oN (.move (.v 0)),
 oN (.move (.v 0)),
 oN (.bin .neq (.l 0) (.l 1)),
 oS 1 (.move (.l 2))]
theorem a96r1_ev : Ev a96r1 (value_of% a96r1) := fun _ _ => rfl
def a96 : AFun := .mk .iso 1 2 [.v 1] (.seq (.region a96r0 false) (.seq (.region a96r1 false) (.ret)))
def a108r0 : List AOper := [oS 1 (.cb (.v 0)),
 oS 2 (.cn (.agg [.int .i64 0, .int .i64 0, .nl]))]
theorem a108r0_ev : Ev a108r0 (value_of% a108r0) := fun _ _ => rfl
def a108r1 : List AOper := [oN (.cl true 3 (.v 1)),
 oN (.call 14 [.c (.int .i64 1)]),
 oN (.call 117 [.l 0, .l 1]),
 oS 2 (.cs 3 (.v 2) (.l 2))]
theorem a108r1_ev : Ev a108r1 (value_of% a108r1) := fun _ _ => rfl
def a108 : AFun := .mk .keep 1 3 [.c 2 true 3] (.seq (.region a108r0 false) (.seq (.region a108r1 true) (.ret)))
def a109r0 : List AOper := [oS 3 (.cn (.agg [.int .i64 0, .int .i64 0, .nl]))]
theorem a109r0_ev : Ev a109r0 (value_of% a109r0) := fun _ _ => rfl
def a109r1 : List AOper := [oN (.move (.v 0)),
 oN (.move (.v 0)),
 oN (.call 61 [.l 0, .l 1]),
 oS 4 (.cn (.agg [.int .i64 0, .int .i64 0, .nl])),
 oS 4 (.cs 3 (.l 3) (.l 2))]
theorem a109r1_ev : Ev a109r1 (value_of% a109r1) := fun _ _ => rfl
def a109r2 : List AOper := [oS 1 (.move (.c (.int .i64 0)))]
theorem a109r2_ev : Ev a109r2 (value_of% a109r2) := fun _ _ => rfl
def a109r3 : List AOper := [oN (.move (.v 1)),
 oN (.move (.v 0)),
 oS 2 (.bin .lss (.l 0) (.l 1))]
theorem a109r3_ev : Ev a109r3 (value_of% a109r3) := fun _ _ => rfl
def a109r5 : List AOper := [oN (.ca (.v 4)),
 oN (.field 2 2 false 1 (.v 4)),
 oN (.move (.v 1)),
 oN (.indexAddr 1 (.l 1) (.l 2)),
 oN (.load false 1 (.l 3)),
 oN (.move (.v 1)),
 oN (.call 14 [.c (.int .i64 1)]),
 oN (.indexAddr 2 (.l 4) (.l 5)),
 oN (.store 2 (.l 7) (.l 6))]
theorem a109r5_ev : Ev a109r5 (value_of% a109r5) := fun _ _ => rfl
def a109r4 : List AOper := [oN (.move (.v 1)),
 oN (.bin .add (.l 0) (.c (.int .i64 1))),
 oS 1 (.move (.l 1))]
theorem a109r4_ev : Ev a109r4 (value_of% a109r4) := fun _ _ => rfl
def a109b0 : AIR := .seq (.seq (.region a109r3 false) (.cond (.v 2) (.skip) (.exit 0))) (.seq (.block 1 (.region a109r5 true)) (.region a109r4 false))
def a109l0 : AIR := .loop false [0, 1, 3, 4] a109b0
theorem a109l0_run {E GP} (st) : run E GP a109l0 st = loopK (run E GP) a109l0 st.heap.length false [0, 1, 3, 4] st.rs (run E GP a109b0 { vars := st.vars, heap := st.heap, rs := false }) := run_loop _ _ _ _
def a109r6 : List AOper := [oN (.cl true 3 (.v 4)),
 oS 3 (.cs 3 (.v 3) (.l 0))]
theorem a109r6_ev : Ev a109r6 (value_of% a109r6) := fun _ _ => rfl
def a109 : AFun := .mk .keep 1 5 [.c 3 true 3] (.seq (.region a109r0 false) (.seq (.region a109r1 false) (.seq (.seq (.region a109r2 false) (.block 0 (a109l0))) (.seq (.region a109r6 false) (.ret)))))
def a110r0 : List AOper := [oS 9 (.cn (.agg [.bool false, .isl []])),
 oS 10 (.cn (.agg [.bool false, .isl []]))]
theorem a110r0_ev : Ev a110r0 (value_of% a110r0) := fun _ _ => rfl
def a110r1 : List AOper := [oN (.move (.v 1)),
 oN (.len 0 (.l 0)),
 oS 6 (.bin .eql (.l 1) (.c (.int .i64 1)))]
theorem a110r1_ev : Ev a110r1 (value_of% a110r1) := fun _ _ => rfl
def a110r2 : List AOper := [oN (.move (.v 0)),
 oN (.move (.v 1)),
 oN (.indexAddr 1 (.l 1) (.c (.int .i64 0))),
 oN (.load false 1 (.l 2)),
 oN (.call 118 [.l 0, .l 3]),
 oN (.move (.l 4)),
 oN (.extract 0 (.l 5)),
 oN (.extract 1 (.l 5)),
 oS 2 (.move (.l 6)),
 oS 3 (.move (.l 7))]
theorem a110r2_ev : Ev a110r2 (value_of% a110r2) := fun _ _ => rfl
def a110r3 : List AOper := [oN (.move (.v 2)),
 oN (.call 38 [.l 0, .c (.bool false)]),
 oN (.move (.v 3)),
 oN (.bslice false 1 (.int .u32 0) 1 [(0, .l 2)]),
 oN (.call 38 [.l 3, .c (.bool false)]),
 oS 9 (.cs 2 (.v 9) (.l 1)),
 oS 10 (.cs 2 (.v 10) (.l 4))]
theorem a110r3_ev : Ev a110r3 (value_of% a110r3) := fun _ _ => rfl
def a110r4 : List AOper := [oS 4 (.move (.c (.int .u32 1)))]
theorem a110r4_ev : Ev a110r4 (value_of% a110r4) := fun _ _ => rfl
def a110r5 : List AOper := [oN (.move (.v 1)),
 oN (.move (.v 1)),
 oN (.len 0 (.l 1)),
 oN (.bin .sub (.l 2) (.c (.int .i64 1))),
 oN (.indexAddr 1 (.l 0) (.l 3)),
 oN (.load false 1 (.l 4)),
 oN (.conv .u64 (.l 5)),
 oN (.move (.v 4)),
 oN (.conv .u64 (.l 7)),
 oN (.bin .mul (.l 6) (.l 8)),
 oS 7 (.bin .lss (.l 9) (.c (.int .u64 2147483648)))]
theorem a110r5_ev : Ev a110r5 (value_of% a110r5) := fun _ _ => rfl
def a110r6 : List AOper := [oN (.move (.v 4)),
 oN (.bin .mul (.c (.int .u32 2)) (.l 0)),
 oS 4 (.move (.l 1))]
theorem a110r6_ev : Ev a110r6 (value_of% a110r6) := fun _ _ => rfl
def a110b0 : AIR := .seq (.seq (.region a110r5 false) (.cond (.v 7) (.skip) (.exit 0))) (.block 1 (.region a110r6 false))
def a110l0 : AIR := .loop true [0, 1, 2, 3, 4, 5, 6, 8, 9, 10, 11, 12, 13, 14, 15] a110b0
theorem a110l0_run {E GP} (st) : run E GP a110l0 st = loopK (run E GP) a110l0 st.heap.length true [0, 1, 2, 3, 4, 5, 6, 8, 9, 10, 11, 12, 13, 14, 15] st.rs (run E GP a110b0 { vars := st.vars, heap := st.heap, rs := false }) := run_loop _ _ _ _
def a110r7 : List AOper := [oN (.move (.v 4)),
 oN (.bslice false 1 (.int .u32 0) 1 [(0, .l 0)]),
 oN (.call 38 [.l 1, .c (.bool false)]),
 oS 11 (.cn (.agg [.bool false, .isl []])),
 oS 11 (.cs 2 (.l 3) (.l 2))]
theorem a110r7_ev : Ev a110r7 (value_of% a110r7) := fun _ _ => rfl
def a110r8 : List AOper := [oN (.move (.v 0)),
 oN (.call 38 [.l 0, .c (.bool false)]),
 oN (.cl true 2 (.v 11)),
 oN (.call 41 [.l 1, .l 2]),
 oN (.move (.v 1)),
 oN (.call 38 [.l 4, .c (.bool false)]),
 oN (.cl true 2 (.v 11)),
 oN (.call 41 [.l 5, .l 6]),
 oN (.build [.bool false, .isl []] []),
 oS 12 (.cn (.agg [.bool false, .isl []])),
 oS 13 (.cn (.agg [.bool false, .isl []])),
 oS 14 (.cn (.agg [.bool false, .isl []])),
 oS 12 (.cs 2 (.l 9) (.l 3)),
 oS 13 (.cs 2 (.l 10) (.l 7)),
 oS 14 (.cs 2 (.l 11) (.l 8))]
theorem a110r8_ev : Ev a110r8 (value_of% a110r8) := fun _ _ => rfl
def a110r9 : List AOper := [oN (.ca (.v 12)),
 oN (.field 1 1 false 1 (.v 12)),
 oN (.ca (.v 13)),
 oN (.field 1 1 false 1 (.v 13)),
 oN (.call 57 [.l 1, .l 3]),
 oS 8 (.un .not (.l 4))]
theorem a110r9_ev : Ev a110r9 (value_of% a110r9) := fun _ _ => rfl
def a110r10 : List AOper := [oN (.ca (.v 12)),
 oN (.field 1 1 false 1 (.v 12)),
 oN (.ca (.v 13)),
 oN (.field 1 1 false 1 (.v 13)),
 oN (.call 119 [.l 1, .l 3]),
 oS 15 (.cn (.agg [.bool false, .isl []])),
 oS 15 (.cs 2 (.l 5) (.l 4))]
theorem a110r10_ev : Ev a110r10 (value_of% a110r10) := fun _ _ => rfl
def a110r11 : List AOper := [oN (.cl true 2 (.v 14)),
 oN (.cl true 2 (.v 15)),
 oN (.call 49 [.l 0, .l 1]),
 oS 14 (.cs 2 (.v 14) (.l 2))]
theorem a110r11_ev : Ev a110r11 (value_of% a110r11) := fun _ _ => rfl
def a110r12 : List AOper := [oN (.cl true 2 (.v 12)),
 oN (.cl true 2 (.v 15)),
 oN (.cl true 2 (.v 13)),
 oN (.call 41 [.l 1, .l 2]),
 oN (.call 111 [.l 0, .l 3]),
 oS 12 (.cs 2 (.v 12) (.l 4))]
theorem a110r12_ev : Ev a110r12 (value_of% a110r12) := fun _ _ => rfl
def a110b1 : AIR := .seq (.seq (.region a110r9 false) (.cond (.v 8) (.skip) (.exit 2))) (.block 3 (.seq (.region a110r10 false) (.seq (.region a110r11 false) (.region a110r12 true))))
def a110l1 : AIR := .loop true [0, 1, 2, 3, 4, 5, 6, 7, 9, 10, 11, 12, 13, 14] a110b1
theorem a110l1_run {E GP} (st) : run E GP a110l1 st = loopK (run E GP) a110l1 st.heap.length true [0, 1, 2, 3, 4, 5, 6, 7, 9, 10, 11, 12, 13, 14] st.rs (run E GP a110b1 { vars := st.vars, heap := st.heap, rs := false }) := run_loop _ _ _ _
def a110r13 : List AOper := [oN (.ca (.v 12)),
 oN (.field 1 1 false 1 (.v 12)),
 oN (.move (.v 4)),
 oN (.call 118 [.l 1, .l 2]),
 oN (.move (.l 3)),
 oN (.extract 0 (.l 4)),
 oN (.extract 1 (.l 4)),
 oS 5 (.move (.l 5)),
 oN (.move (.l 6))]
theorem a110r13_ev : Ev a110r13 (value_of% a110r13) := fun _ _ => rfl
def a110r14 : List AOper := [oN (.cl true 2 (.v 14)),
 oN (.move (.v 5)),
 oN (.call 38 [.l 1, .c (.bool false)]),
 oS 9 (.cs 2 (.v 9) (.l 0)),
 oS 10 (.cs 2 (.v 10) (.l 2))]
theorem a110r14_ev : Ev a110r14 (value_of% a110r14) := fun _ _ => rfl
def a110 : AFun := .mk .iso 2 16 [.c 9 true 2, .c 10 true 2] (.seq (.region a110r0 false) (.seq (.seq (.region a110r1 false) (.cond (.v 6) (.seq (.region a110r2 false) (.seq (.region a110r3 false) (.ret))) (.skip))) (.seq (.region a110r4 false) (.seq (.block 0 (a110l0)) (.seq (.region a110r7 false) (.seq (.region a110r8 true) (.seq (.block 2 (a110l1)) (.seq (.region a110r13 false) (.seq (.region a110r14 true) (.ret))))))))))
def a111r0 : List AOper := [oS 2 (.cb (.v 0)),
 oS 3 (.cb (.v 1)),
 oS 4 (.cn (.agg [.bool false, .isl []]))]
theorem a111r0_ev : Ev a111r0 (value_of% a111r0) := fun _ _ => rfl
def a111r1 : List AOper := [oN (.cl true 2 (.v 2)),
 oN (.cl true 2 (.v 3)),
 oN (.call 88 [.l 1]),
 oN (.call 49 [.l 0, .l 2]),
 oS 4 (.cs 2 (.v 4) (.l 3))]
theorem a111r1_ev : Ev a111r1 (value_of% a111r1) := fun _ _ => rfl
def a111 : AFun := .mk .iso 2 5 [.c 4 true 2] (.seq (.region a111r0 false) (.seq (.region a111r1 true) (.ret)))
def a117r0 : List AOper := [oS 6 (.cb (.v 0)),
 oS 7 (.cb (.v 1)),
 oS 8 (.cn (.agg [.int .i64 0, .int .i64 0, .nl]))]
theorem a117r0_ev : Ev a117r0 (value_of% a117r0) := fun _ _ => rfl
def a117r1 : List AOper := [oN (.ca (.v 6)),
 oN (.field 0 0 false 1 (.v 6)),
 oN (.ca (.v 6)),
 oN (.field 1 1 false 1 (.v 6)),
 oN (.call 61 [.l 1, .l 3]),
 oS 9 (.cn (.agg [.int .i64 0, .int .i64 0, .nl])),
 oS 9 (.cs 3 (.l 5) (.l 4))]
theorem a117r1_ev : Ev a117r1 (value_of% a117r1) := fun _ _ => rfl
def a117r2 : List AOper := [oS 2 (.move (.c (.int .i64 0)))]
theorem a117r2_ev : Ev a117r2 (value_of% a117r2) := fun _ _ => rfl
def a117r3 : List AOper := [oN (.move (.v 2)),
 oN (.ca (.v 6)),
 oN (.field 0 0 false 1 (.v 6)),
 oS 4 (.bin .lss (.l 0) (.l 2))]
theorem a117r3_ev : Ev a117r3 (value_of% a117r3) := fun _ _ => rfl
def a117r5 : List AOper := [oS 3 (.move (.c (.int .i64 0)))]
theorem a117r5_ev : Ev a117r5 (value_of% a117r5) := fun _ _ => rfl
def a117r6 : List AOper := [oN (.move (.v 3)),
 oN (.ca (.v 6)),
 oN (.field 1 1 false 1 (.v 6)),
 oS 5 (.bin .lss (.l 0) (.l 2))]
theorem a117r6_ev : Ev a117r6 (value_of% a117r6) := fun _ _ => rfl
def a117r8 : List AOper := [oN (.ca (.v 9)),
 oN (.field 2 2 false 1 (.v 9)),
 oN (.move (.v 2)),
 oN (.indexAddr 1 (.l 1) (.l 2)),
 oN (.load false 1 (.l 3)),
 oN (.move (.v 3)),
 oN (.ca (.v 6)),
 oN (.field 2 2 false 1 (.v 6)),
 oN (.move (.v 2)),
 oN (.indexAddr 1 (.l 7) (.l 8)),
 oN (.load false 1 (.l 9)),
 oN (.move (.v 3)),
 oN (.indexAddr 2 (.l 10) (.l 11)),
 oN (.load true 2 (.l 12)),
 oN (.cl true 2 (.v 7)),
 oN (.call 41 [.l 13, .l 14]),
 oN (.indexAddr 2 (.l 4) (.l 5)),
 oN (.store 2 (.l 16) (.l 15))]
theorem a117r8_ev : Ev a117r8 (value_of% a117r8) := fun _ _ => rfl
def a117r7 : List AOper := [oN (.move (.v 3)),
 oN (.bin .add (.l 0) (.c (.int .i64 1))),
 oS 3 (.move (.l 1))]
theorem a117r7_ev : Ev a117r7 (value_of% a117r7) := fun _ _ => rfl
def a117b1 : AIR := .seq (.seq (.region a117r6 false) (.cond (.v 5) (.skip) (.exit 2))) (.seq (.block 3 (.region a117r8 true)) (.region a117r7 false))
def a117l1 : AIR := .loop false [0, 1, 2, 3, 4, 6, 7, 8, 9] a117b1
theorem a117l1_run {E GP} (st) : run E GP a117l1 st = loopK (run E GP) a117l1 st.heap.length false [0, 1, 2, 3, 4, 6, 7, 8, 9] st.rs (run E GP a117b1 { vars := st.vars, heap := st.heap, rs := false }) := run_loop _ _ _ _
def a117r4 : List AOper := [oN (.move (.v 2)),
 oN (.bin .add (.l 0) (.c (.int .i64 1))),
 oS 2 (.move (.l 1))]
theorem a117r4_ev : Ev a117r4 (value_of% a117r4) := fun _ _ => rfl
def a117b0 : AIR := .seq (.seq (.region a117r3 false) (.cond (.v 4) (.skip) (.exit 0))) (.seq (.block 1 (.seq (.region a117r5 false) (.block 2 (a117l1)))) (.region a117r4 false))
def a117l0 : AIR := .loop false [0, 1, 2, 6, 7, 8, 9] a117b0
theorem a117l0_run {E GP} (st) : run E GP a117l0 st = loopK (run E GP) a117l0 st.heap.length false [0, 1, 2, 6, 7, 8, 9] st.rs (run E GP a117b0 { vars := st.vars, heap := st.heap, rs := false }) := run_loop _ _ _ _
def a117r9 : List AOper := [oN (.cl true 3 (.v 9)),
 oS 8 (.cs 3 (.v 8) (.l 0))]
theorem a117r9_ev : Ev a117r9 (value_of% a117r9) := fun _ _ => rfl
def a117 : AFun := .mk .keep 2 10 [.c 8 true 3] (.seq (.region a117r0 false) (.seq (.region a117r1 false) (.seq (.seq (.region a117r2 false) (.block 0 (a117l0))) (.seq (.region a117r9 false) (.ret)))))
def a118r0 : List AOper := [oS 2 (.move (.c (.isl []))),
 oS 3 (.move (.c (.int .u32 0)))]
theorem a118r0_ev : Ev a118r0 (value_of% a118r0) := fun _ _ => rfl
def a118r1 : List AOper := [oN (.move (.v 0)),
 oN (.len 0 (.l 0)),
 oN (.mkslice 1 4 (.int .u32 0) (.l 1) (.l 1)),
 oS 4 (.move (.l 2)),
 oS 5 (.move (.c (.int .u64 0)))]
theorem a118r1_ev : Ev a118r1 (value_of% a118r1) := fun _ _ => rfl
def a118r2 : List AOper := [oN (.move (.v 0)),
 oN (.len 0 (.l 0)),
 oN (.bin .sub (.l 1) (.c (.int .i64 1))),
 oS 6 (.move (.l 2))]
theorem a118r2_ev : Ev a118r2 (value_of% a118r2) := fun _ _ => rfl
def a118r3 : List AOper := [oN (.move (.v 6)),
 oS 7 (.bin .geq (.l 0) (.c (.int .i64 0)))]
theorem a118r3_ev : Ev a118r3 (value_of% a118r3) := fun _ _ => rfl
def a118r5 : List AOper := [oN (.move (.v 5)),
 oN (.bin .mul (.l 0) (.c (.int .u64 4294967296))),
 oN (.move (.v 0)),
 oN (.move (.v 6)),
 oN (.indexAddr 1 (.l 2) (.l 3)),
 oN (.load false 1 (.l 4)),
 oN (.conv .u64 (.l 5)),
 oN (.bin .add (.l 1) (.l 6)),
 oS 5 (.move (.l 7))]
theorem a118r5_ev : Ev a118r5 (value_of% a118r5) := fun _ _ => rfl
def a118r6 : List AOper := [oN (.move (.v 4)),
 oN (.move (.v 6)),
 oN (.move (.v 5)),
 oN (.move (.v 1)),
 oN (.conv .u64 (.l 3)),
 oN (.bin .quo (.l 2) (.l 4)),
 oN (.conv .u32 (.l 5)),
 oN (.indexAddr 1 (.l 0) (.l 1)),
 oN (.store 1 (.l 7) (.l 6))]
theorem a118r6_ev : Ev a118r6 (value_of% a118r6) := fun _ _ => rfl
def a118r7 : List AOper := [oN (.move (.v 5)),
 oN (.move (.v 1)),
 oN (.conv .u64 (.l 1)),
 oN (.bin .rem (.l 0) (.l 2)),
 oS 5 (.move (.l 3))]
theorem a118r7_ev : Ev a118r7 (value_of% a118r7) := fun _ _ => rfl
def a118r4 : List AOper := [oN (.move (.v 6)),
 oN (.bin .sub (.l 0) (.c (.int .i64 1))),
 oS 6 (.move (.l 1))]
theorem a118r4_ev : Ev a118r4 (value_of% a118r4) := fun _ _ => rfl
def a118b0 : AIR := .seq (.seq (.region a118r3 false) (.cond (.v 7) (.skip) (.exit 0))) (.seq (.block 1 (.seq (.region a118r5 false) (.seq (.region a118r6 false) (.region a118r7 false)))) (.region a118r4 false))
def a118l0 : AIR := .loop true [0, 1, 2, 3, 4, 5, 6] a118b0
theorem a118l0_run {E GP} (st) : run E GP a118l0 st = loopK (run E GP) a118l0 st.heap.length true [0, 1, 2, 3, 4, 5, 6] st.rs (run E GP a118b0 { vars := st.vars, heap := st.heap, rs := false }) := run_loop _ _ _ _
def a118r8 : List AOper := [oN (.move (.v 4)),
 oN (.move (.v 5)),
 oN (.conv .u32 (.l 1)),
 oS 2 (.move (.l 0)),
 oS 3 (.move (.l 2))]
theorem a118r8_ev : Ev a118r8 (value_of% a118r8) := fun _ _ => rfl
def a118 : AFun := .mk .iso 2 8 [.v 2, .v 3] (.seq (.region a118r0 false) (.seq (.region a118r1 false) (.seq (.seq (.region a118r2 false) (.block 0 (a118l0))) (.seq (.region a118r8 false) (.ret)))))
def a119r0 : List AOper := [oS 8 (.cn (.agg [.bool false, .isl []]))]
theorem a119r0_ev : Ev a119r0 (value_of% a119r0) := fun _ _ => rfl
def a119r1 : List AOper := [oN (.move (.v 0)),
 oN (.len 0 (.l 0)),
 oN (.move (.v 1)),
 oN (.len 0 (.l 2)),
 oN (.bin .sub (.l 1) (.l 3)),
 oN (.move (.v 0)),
 oN (.len 0 (.l 5)),
 oN (.move (.v 1)),
 oN (.move (.v 1)),
 oN (.len 0 (.l 8)),
 oN (.bin .sub (.l 9) (.c (.int .i64 1))),
 oN (.indexAddr 1 (.l 7) (.l 10)),
 oN (.load false 1 (.l 11)),
 oN (.conv .u64 (.l 12)),
 oN (.bin .add (.l 13) (.c (.int .u64 1))),
 oS 2 (.move (.l 4)),
 oS 3 (.move (.l 6)),
 oS 4 (.move (.l 14))]
theorem a119r1_ev : Ev a119r1 (value_of% a119r1) := fun _ _ => rfl
def a119r2 : List AOper := [oN (.move (.v 2)),
 oS 7 (.bin .eql (.l 0) (.c (.int .i64 0)))]
theorem a119r2_ev : Ev a119r2 (value_of% a119r2) := fun _ _ => rfl
def a119r3 : List AOper := [oN (.move (.v 0)),
 oN (.move (.v 3)),
 oN (.bin .sub (.l 1) (.c (.int .i64 1))),
 oN (.indexAddr 1 (.l 0) (.l 2)),
 oN (.load false 1 (.l 3)),
 oN (.conv .u64 (.l 4)),
 oN (.move (.v 4)),
 oN (.bin .quo (.l 5) (.l 6)),
 oN (.max (.c (.int .u64 1)) [.l 7]),
 oN (.conv .i64 (.l 8)),
 oN (.call 14 [.l 9]),
 oS 8 (.cs 2 (.v 8) (.l 10))]
theorem a119r3_ev : Ev a119r3 (value_of% a119r3) := fun _ _ => rfl
def a119r4 : List AOper := [oN (.move (.v 0)),
 oN (.move (.v 3)),
 oN (.bin .sub (.l 1) (.c (.int .i64 1))),
 oN (.indexAddr 1 (.l 0) (.l 2)),
 oN (.load false 1 (.l 3)),
 oN (.conv .u64 (.l 4)),
 oN (.bin .mul (.l 5) (.c (.int .u64 4294967296))),
 oN (.move (.v 0)),
 oN (.move (.v 3)),
 oN (.bin .sub (.l 8) (.c (.int .i64 2))),
 oN (.indexAddr 1 (.l 7) (.l 9)),
 oN (.load false 1 (.l 10)),
 oN (.conv .u64 (.l 11)),
 oN (.bin .add (.l 6) (.l 12)),
 oN (.move (.v 4)),
 oN (.bin .quo (.l 13) (.l 14)),
 oS 5 (.move (.l 15))]
theorem a119r4_ev : Ev a119r4 (value_of% a119r4) := fun _ _ => rfl
def a119r5 : List AOper := [oN (.move (.v 2)),
 oN (.bin .sub (.l 0) (.c (.int .i64 1))),
 oN (.mkslice 1 4 (.int .u32 0) (.l 1) (.l 1)),
 oS 6 (.move (.l 2))]
theorem a119r5_ev : Ev a119r5 (value_of% a119r5) := fun _ _ => rfl
def a119r6 : List AOper := [oN (.move (.v 6)),
 oN (.move (.v 5)),
 oN (.conv .u32 (.l 1)),
 oN (.move (.v 5)),
 oN (.bin .shr (.l 3) (.c (.int .u64 32))),
 oN (.conv .u32 (.l 4)),
 oN (.bslice false 1 (.int .u32 0) 2 [(0, .l 2), (1, .l 5)]),
 oN (.append 1 4 (.l 0) (.l 6)),
 oN (.call 38 [.l 7, .c (.bool false)]),
 oS 8 (.cs 2 (.v 8) (.l 8))]
theorem a119r6_ev : Ev a119r6 (value_of% a119r6) := fun _ _ => rfl
def a119 : AFun := .mk .iso 2 9 [.c 8 true 2] (.seq (.region a119r0 false) (.seq (.region a119r1 true) (.seq (.seq (.region a119r2 false) (.cond (.v 7) (.seq (.region a119r3 false) (.ret)) (.skip))) (.seq (.region a119r4 true) (.seq (.region a119r5 false) (.seq (.region a119r6 false) (.ret)))))))
end Tor
