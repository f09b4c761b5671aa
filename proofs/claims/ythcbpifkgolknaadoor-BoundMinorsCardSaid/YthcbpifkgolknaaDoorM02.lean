/-
  A part of the proof: an abstract machine for the program, its soundness, and what the functions compute (Gp1, Gp, Eq).
  Conditions: none.
-/
import Derived.Test.YthcbpifkgolknaaDoorM01
set_option linter.unusedSectionVars false
set_option linter.unusedVariables false
set_option linter.unusedSimpArgs false
set_option linter.defProp false
namespace Tor
open Go
def a145R:Nat → Unit → List AOper
| 0,_=>[oS 14 (.cb (.v 0)),
oS 1 (.move (.c (.bool false)))]
| 1,_=>[oN (.call 130 []),
sL 2 0]
| 2,_=>[oN (.cl true 3 (.v 14)),
oN (.call 131 [.l 0,.n 4]),
oS 15 (.cn (.agg [.int .i64 0,.int .i64 0,.nl])),
oS 15 (.cs 3 (.l 2) (.l 1))]
| 3,_=>[oN (.cl true 3 (.v 15)),
oN (.call 135 [.l 0,.n 1]),
oS 16 (.cn zI),
oS 16 (.cs 2 (.l 2) (.l 1))]
| 4,_=>[oN (.cl true 3 (.v 15)),
oN (.call 135 [.l 0,.n 2]),
oS 17 (.cn zI),
oS 17 (.cs 2 (.l 2) (.l 1))]
| 5,_=>[oS 3 (.move (.n 0))]
| 6,_=>[mV 3,
oN (.ca (.v 15)),
oN (.field 0 0 false 1 (.v 15)),
oS 8 (.bin .lss (.l 0) (.l 2))]
| 7,_=>[mV 3,
oN (.bin .add (.l 0) (.n 1)),
sL 3 1]
| 8,_=>[oS 4 (.move (.n 0))]
| 9,_=>[mV 4,
oN (.ca (.v 15)),
oN (.field 1 1 false 1 (.v 15)),
oS 9 (.bin .lss (.l 0) (.l 2))]
| 10,_=>[mV 4,
oN (.bin .add (.l 0) (.n 1)),
sL 4 1]
| 11,_=>[oN (.ca (.v 15)),
oN (.field 2 2 false 1 (.v 15)),
mV 3,
oN (.indexAddr 1 (.l 1) (.l 2)),
oN (.load false 1 (.l 3)),
mV 4,
oN (.indexAddr 2 (.l 4) (.l 5)),
oN (.fieldAddr 1 1 (.l 6)),
oN (.load false 1 (.l 7)),
oN (.call 38 [.l 8,.c (.bool false)]),
oN (.cl true 2 (.v 16)),
oN (.call 143 [.l 9,.l 10]),
oS 10 (.bin .gtr (.l 11) (.n 0))]
| 12,_=>[oS 1 (.move (.c (.bool false)))]
| 13,_=>[oS 5 (.move (.n 0))]
| 14,_=>[mV 5,
mV 3,
oS 11 (.bin .lss (.l 0) (.l 1))]
| 15,_=>[mV 5,
oN (.bin .add (.l 0) (.n 1)),
sL 5 1]
| 16,_=>[oS 6 (.move (.n 0))]
| 17,_=>[mV 6,
mV 4,
oS 12 (.bin .lss (.l 0) (.l 1))]
| 18,_=>[mV 6,
oN (.bin .add (.l 0) (.n 1)),
sL 6 1]
| 19,_=>[oN (.ca (.v 15)),
oN (.field 2 2 false 1 (.v 15)),
mV 3,
oN (.indexAddr 1 (.l 1) (.l 2)),
oN (.load false 1 (.l 3)),
mV 4,
oN (.indexAddr 2 (.l 4) (.l 5)),
oN (.load true 2 (.l 6)),
oN (.ca (.v 15)),
oN (.field 2 2 false 1 (.v 15)),
mV 5,
oN (.indexAddr 1 (.l 9) (.l 10)),
oN (.load false 1 (.l 11)),
mV 6,
oN (.indexAddr 2 (.l 12) (.l 13)),
oN (.load true 2 (.l 14)),
oN (.call 41 [.l 7,.l 15]),
oN (.ca (.v 15)),
oN (.field 2 2 false 1 (.v 15)),
mV 3,
oN (.indexAddr 1 (.l 18) (.l 19)),
oN (.load false 1 (.l 20)),
mV 6,
oN (.indexAddr 2 (.l 21) (.l 22)),
oN (.load true 2 (.l 23)),
oN (.ca (.v 15)),
oN (.field 2 2 false 1 (.v 15)),
mV 5,
oN (.indexAddr 1 (.l 26) (.l 27)),
oN (.load false 1 (.l 28)),
mV 4,
oN (.indexAddr 2 (.l 29) (.l 30)),
oN (.load true 2 (.l 31)),
oN (.call 41 [.l 24,.l 32]),
oN (.call 111 [.l 16,.l 33]),
oS 18 (.cn zI),
oS 18 (.cs 2 (.l 35) (.l 34))]
| 20,_=>[oN (.ca (.v 18)),
oN (.field 1 1 false 1 (.v 18)),
oN (.call 38 [.l 1,.c (.bool false)]),
oN (.cl true 2 (.v 17)),
oN (.call 143 [.l 2,.l 3]),
oS 13 (.bin .gtr (.l 4) (.n 0))]
| 21,_=>[oS 1 (.move (.c (.bool false)))]
| 22,_=>[oN (.cl true 3 (.v 15)),
oN (.call 132 [.l 0]),
mL 1,
oN (.extract 0 (.l 2)),
oN (.extract 1 (.l 2)),
oS 19 (.cn zI),
oS 19 (.cs 2 (.l 5) (.l 3)),
sL 7 4]
| 23,_=>[mV 2,
mL 0,
oT 1 (.move (.v 7)),
oT 1 (.bin .neq (.l 2) (.n 0)),
oT 1 (.move (.l 3)),
oF 4 (.cl true 2 (.v 19)),
oF 4 (.cl true 3 (.v 15)),
oF 4 (.ca (.v 15)),
oF 4 (.field 0 0 false 1 (.v 15)),
oF 4 (.call 135 [.l 6,.l 8]),
oF 4 (.call 37 [.l 5,.l 9]),
oT 1 (.pick (.l 4) (.c (.bool true)) (.l 10)),
oN (.pick (.l 1) (.l 11) (.c (.bool false))),
sL 1 12]
| _,_=>[]
def a145b3:AIR:=.seq (.seq (.region (a145R 17) false) (.cond (.v 12) (.skip) (.exit 6))) (.seq (.block 7 (.seq (.region (a145R 19) true) (.seq (.region (a145R 20) true) (.cond (.v 13) (.seq (.region (a145R 21) false) (.ret)) (.skip))))) (.region (a145R 18) false))
def a145l3:AIR:=.loop true [0,1,2,3,4,5,6,7,8,9,10,11,14,15,16,17,19] a145b3
theorem a145l3_run:Lr a145l3 (value_of% a145l3):=fun _=>run_loop _ _ _ _
def a145b2:AIR:=.seq (.seq (.region (a145R 14) false) (.cond (.v 11) (.skip) (.exit 4))) (.seq (.block 5 (.seq (.region (a145R 16) false) (.block 6 (a145l3)))) (.region (a145R 15) false))
def a145l2:AIR:=.loop true [0,1,2,3,4,5,7,8,9,10,14,15,16,17,19] a145b2
theorem a145l2_run:Lr a145l2 (value_of% a145l2):=fun _=>run_loop _ _ _ _
def a145b1:AIR:=.seq (.seq (.region (a145R 9) false) (.cond (.v 9) (.skip) (.exit 2))) (.seq (.block 3 (.seq (.seq (.region (a145R 11) true) (.cond (.v 10) (.seq (.region (a145R 12) false) (.ret)) (.skip))) (.seq (.region (a145R 13) false) (.block 4 (a145l2))))) (.region (a145R 10) false))
def a145l1:AIR:=.loop true [0,1,2,3,4,7,8,14,15,16,17,19] a145b1
theorem a145l1_run:Lr a145l1 (value_of% a145l1):=fun _=>run_loop _ _ _ _
def a145b0:AIR:=.seq (.seq (.region (a145R 6) false) (.cond (.v 8) (.skip) (.exit 0))) (.seq (.block 1 (.seq (.region (a145R 8) false) (.block 2 (a145l1)))) (.region (a145R 7) false))
def a145l0:AIR:=.loop true [0,1,2,3,7,14,15,16,17,19] a145b0
theorem a145l0_run:Lr a145l0 (value_of% a145l0):=fun _=>run_loop _ _ _ _
def a145:AFun:=.mk .iso 1 20 [.v 1] (.seq (.region (a145R 0) false) (.seq (.region (a145R 1) false) (.seq (.region (a145R 2) false) (.seq (.region (a145R 3) false) (.seq (.region (a145R 4) false) (.seq (.seq (.region (a145R 5) false) (.block 0 (a145l0))) (.seq (.region (a145R 22) false) (.seq (.region (a145R 23) true) (.ret)))))))))
def a130R:Nat → Unit → List AOper
| 0,_=>[oS 0 (.move (.c (.bool false)))]
| 1,_=>[oN (.call 14 [.n 3]),
oN (.call 14 [.n 4]),
oN (.bslice false 2 zI 2 [(0,.l 0),(1,.l 1)]),
oN (.call 14 [.n 0]),
oN (.call 14 [.n 2]),
oN (.bslice false 2 zI 2 [(0,.l 3),(1,.l 4)]),
oN (.bslice false 1 (.nl) 2 [(0,.l 2),(1,.l 5)]),
oN (.build [.int .i64 0,.int .i64 0,.nl] [(0,.n 2),(1,.n 2),(2,.l 6)]),
oS 8 (.cn (.agg [.int .i64 0,.int .i64 0,.nl])),
oS 8 (.cs 3 (.l 8) (.l 7))]
| 2,_=>[oN (.call 14 [.n 1]),
oN (.call 14 [.n 1]),
oN (.bslice false 2 zI 2 [(0,.l 0),(1,.l 1)]),
oN (.call 14 [.n 1]),
oN (.call 14 [.n (-1)]),
oN (.bslice false 2 zI 2 [(0,.l 3),(1,.l 4)]),
oN (.bslice false 1 (.nl) 2 [(0,.l 2),(1,.l 5)]),
oN (.build [.int .i64 0,.int .i64 0,.nl] [(0,.n 2),(1,.n 2),(2,.l 6)]),
oS 9 (.cn (.agg [.int .i64 0,.int .i64 0,.nl])),
oS 9 (.cs 3 (.l 8) (.l 7))]
| 3,_=>[oN (.cl true 3 (.v 8)),
oN (.call 132 [.l 0]),
mL 1,
oN (.extract 0 (.l 2)),
oN (.extract 1 (.l 2)),
oS 10 (.cn zI),
oS 10 (.cs 2 (.l 5) (.l 3)),
sL 1 4]
| 4,_=>[oN (.cl true 3 (.v 9)),
oN (.call 132 [.l 0]),
mL 1,
oN (.extract 0 (.l 2)),
oN (.extract 1 (.l 2)),
oS 11 (.cn zI),
oS 11 (.cs 2 (.l 5) (.l 3)),
sL 2 4]
| 5,_=>[oN (.build [.int .i64 0,.int .i64 0,.nl] []),
oN (.call 132 [.l 0]),
mL 1,
oN (.extract 0 (.l 2)),
oN (.extract 1 (.l 2)),
oS 12 (.cn zI),
oS 12 (.cs 2 (.l 5) (.l 3)),
sL 3 4]
| 6,_=>[oN (.call 14 [.n 1]),
oN (.call 14 [.n 1]),
oN (.bslice false 2 zI 2 [(0,.l 0),(1,.l 1)]),
oN (.bslice false 1 (.nl) 1 [(0,.l 2)]),
oN (.build [.int .i64 0,.int .i64 0,.nl] [(0,.n 1),(1,.n 2),(2,.l 3)]),
oN (.call 132 [.l 4]),
mL 5,
oN (.extract 0 (.l 6)),
oN (.extract 1 (.l 6)),
oS 13 (.cn zI),
oS 13 (.cs 2 (.l 9) (.l 7)),
sL 4 8]
| 7,_=>[oN (.cl true 3 (.v 8)),
oN (.call 134 [.l 0]),
oS 14 (.cn (.agg [.int .i64 0,.int .i64 0,.int .i64 0])),
oS 14 (.cs 3 (.l 2) (.l 1))]
| 8,_=>[mV 1,
oN (.bin .eql (.l 0) (.n 0)),
mL 1,
oT 2 (.move (.v 2)),
oT 2 (.bin .eql (.l 3) (.n 0)),
oN (.pick (.l 2) (.l 4) (.c (.bool false))),
mL 5,
oT 6 (.move (.v 3)),
oT 6 (.bin .eql (.l 7) (.n 0)),
oN (.pick (.l 6) (.l 8) (.c (.bool false))),
mL 9,
oT 10 (.move (.v 4)),
oT 10 (.bin .eql (.l 11) (.n 50)),
oN (.pick (.l 10) (.l 12) (.c (.bool false))),
mL 13,
oT 14 (.cl true 2 (.v 10)),
oT 14 (.call 14 [.n 10]),
oT 14 (.call 37 [.l 15,.l 16]),
oN (.pick (.l 14) (.l 17) (.c (.bool false))),
mL 18,
oT 19 (.cl true 2 (.v 11)),
oT 19 (.call 14 [.n 2]),
oT 19 (.call 37 [.l 20,.l 21]),
oN (.pick (.l 19) (.l 22) (.c (.bool false))),
mL 23,
oT 24 (.cl true 2 (.v 12)),
oT 24 (.call 14 [.n 1]),
oT 24 (.call 37 [.l 25,.l 26]),
oN (.pick (.l 24) (.l 27) (.c (.bool false))),
mL 28,
oT 29 (.cl true 2 (.v 13)),
oT 29 (.call 43 [.l 30]),
oT 29 (.bin .eql (.l 31) (.n 0)),
oN (.pick (.l 29) (.l 32) (.c (.bool false))),
sL 5 33]
| 9,_=>[oN (.cl true 3 (.v 8)),
oN (.call 135 [.l 0,.n 1]),
oN (.call 14 [.n 5]),
oN (.call 37 [.l 1,.l 2]),
mL 3,
oT 4 (.cl true 3 (.v 8)),
oT 4 (.call 135 [.l 5,.n 0]),
oT 4 (.call 14 [.n 1]),
oT 4 (.call 37 [.l 6,.l 7]),
oN (.pick (.l 4) (.l 8) (.c (.bool false))),
mL 9,
oT 10 (.cl true 3 (.v 8)),
oT 10 (.call 135 [.l 11,.n 3]),
oT 10 (.call 43 [.l 12]),
oT 10 (.bin .eql (.l 13) (.n 0)),
oN (.pick (.l 10) (.l 14) (.c (.bool false))),
mL 15,
oT 16 (.cl true 3 (.v 9)),
oT 16 (.call 135 [.l 17,.n 1]),
oT 16 (.call 14 [.n 2]),
oT 16 (.call 37 [.l 18,.l 19]),
oN (.pick (.l 16) (.l 20) (.c (.bool false))),
mL 21,
oT 22 (.ca (.v 14)),
oT 22 (.field 0 0 false 1 (.v 14)),
oT 22 (.bin .eql (.l 24) (.n 3)),
oN (.pick (.l 22) (.l 25) (.c (.bool false))),
mL 26,
oT 27 (.ca (.v 14)),
oT 27 (.field 1 1 false 1 (.v 14)),
oT 27 (.bin .eql (.l 29) (.n 3)),
oN (.pick (.l 27) (.l 30) (.c (.bool false))),
mL 31,
oT 32 (.ca (.v 14)),
oT 32 (.field 2 2 false 1 (.v 14)),
oT 32 (.bin .eql (.l 34) (.n 8)),
oN (.pick (.l 32) (.l 35) (.c (.bool false))),
sL 6 36]
| 10,_=>[oN (.bslice false 1 (.int .u64 0) 3 [(0,.c (.int .u64 11)),(1,.c (.int .u64 7)),(2,.c (.int .u64 5))]),
sL 7 0]
| 11,_=>[mV 5,
mL 0,
oT 1 (.move (.v 6)),
oN (.pick (.l 1) (.l 2) (.c (.bool false))),
mL 3,
oT 4 (.call 147 [.c (.int .u64 12),.n 3]),
oT 4 (.move (.v 7)),
oT 4 (.call 149 [.l 5,.l 6]),
oN (.pick (.l 4) (.l 7) (.c (.bool false))),
mL 8,
oT 9 (.call 147 [.c (.int .u64 12),.n (-1)]),
oT 9 (.len 0 (.l 10)),
oT 9 (.bin .eql (.l 11) (.n 0)),
oN (.pick (.l 9) (.l 12) (.c (.bool false))),
mL 13,
oT 14 (.call 147 [.c (.int .u64 2),.n 5]),
oT 14 (.len 0 (.l 15)),
oT 14 (.bin .eql (.l 16) (.n 0)),
oN (.pick (.l 14) (.l 17) (.c (.bool false))),
mL 18,
oT 19 (.call 14 [.n 40]),
oT 19 (.call 152 [.l 20,.c (.int .u64 12)]),
oT 19 (.move (.v 7)),
oT 19 (.call 149 [.l 21,.l 22]),
oN (.pick (.l 19) (.l 23) (.c (.bool false))),
mL 24,
oT 25 (.call 14 [.n 0]),
oT 25 (.call 152 [.l 26,.c (.int .u64 12)]),
oT 25 (.len 0 (.l 27)),
oT 25 (.bin .eql (.l 28) (.n 0)),
oN (.pick (.l 25) (.l 29) (.c (.bool false))),
mL 30,
oT 31 (.call 14 [.n 3000]),
oT 31 (.call 152 [.l 32,.c (.int .u64 12)]),
oT 31 (.len 0 (.l 33)),
oT 31 (.bin .eql (.l 34) (.n 0)),
oN (.pick (.l 31) (.l 35) (.c (.bool false))),
mL 36,
oT 37 (.move (.v 7)),
oT 37 (.call 14 [.n 192]),
oT 37 (.call 154 [.l 38,.l 39]),
oN (.pick (.l 37) (.l 40) (.c (.bool false))),
mL 41,
oT 42 (.bslice false 1 (.int .u64 0) 1 [(0,.c (.int .u64 6))]),
oT 42 (.call 14 [.n 3]),
oT 42 (.call 154 [.l 43,.l 44]),
oT 42 (.un .not (.l 45)),
oN (.pick (.l 42) (.l 46) (.c (.bool false))),
sL 0 47]
| _,_=>[]
def a130:AFun:=.mk .iso 0 15 [.v 0] (.seq (.region (a130R 0) false) (.seq (.region (a130R 1) false) (.seq (.region (a130R 2) false) (.seq (.region (a130R 3) false) (.seq (.region (a130R 4) false) (.seq (.region (a130R 5) false) (.seq (.region (a130R 6) false) (.seq (.region (a130R 7) false) (.seq (.region (a130R 8) true) (.seq (.region (a130R 9) false) (.seq (.region (a130R 10) false) (.seq (.region (a130R 11) false) (.ret)))))))))))))
def a131R:Nat → Unit → List AOper
| 0,_=>[oS 2 (.cb (.v 0)),
oS 3 (.cn (.agg [.int .i64 0,.int .i64 0,.nl]))]
| 1,_=>[oN (.cl true 3 (.v 2)),
oN (.ca (.v 2)),
oN (.field 0 0 false 1 (.v 2)),
oN (.conv .i64 (.l 2)),
mV 1,
oN (.bin .add (.l 4) (.n 1)),
oN (.bin .rem (.l 3) (.l 5)),
oN (.ca (.v 2)),
oN (.field 1 1 false 1 (.v 2)),
oN (.conv .i64 (.l 8)),
mV 1,
oN (.bin .add (.l 10) (.n 1)),
oN (.bin .rem (.l 9) (.l 11)),
oN (.call 139 [.l 0,.l 6,.l 12]),
oS 3 (.cs 3 (.v 3) (.l 13))]
| _,_=>[]
def a131:AFun:=.mk .iso 2 4 [.c 3 true 3] (.seq (.region (a131R 0) false) (.seq (.region (a131R 1) true) (.ret)))
def a132R:Nat → Unit → List AOper
| 0,_=>[oS 3 (.cb (.v 0)),
oS 4 (.cn zI),
oS 1 (.move (.n 0))]
| 1,_=>[oN (.ca (.v 3)),
oN (.field 0 0 false 1 (.v 3)),
oN (.ca (.v 3)),
oN (.field 1 1 false 1 (.v 3)),
oS 2 (.bin .neq (.l 1) (.l 3))]
| 2,_=>[oN (.build [.bool false,.isl []] []),
oS 4 (.cs 2 (.v 4) (.l 0)),
oS 1 (.move (.n 50))]
| 3,_=>[oN (.cl true 3 (.v 3)),
oN (.call 156 [.l 0]),
oN (.call 157 [.l 1]),
oS 4 (.cs 2 (.v 4) (.l 2)),
oS 1 (.move (.n 0))]
| _,_=>[]
def a132:AFun:=.mk .iso 1 5 [.c 4 true 2,.v 1] (.seq (.region (a132R 0) false) (.seq (.seq (.region (a132R 1) false) (.cond (.v 2) (.seq (.region (a132R 2) false) (.ret)) (.skip))) (.seq (.region (a132R 3) false) (.ret))))
def a134R:Nat → Unit → List AOper
| 0,_=>[oS 13 (.cb (.v 0)),
oS 14 (.cn (.agg [.int .i64 0,.int .i64 0,.int .i64 0]))]
| 1,_=>[oS 1 (.alloc (.agg [.int .i64 0,.int .i64 0,.int .i64 0]))]
| 2,_=>[oN (.ca (.v 13)),
oS 4 (.field 2 2 false 1 (.v 13)),
oS 5 (.len 0 (.l 1)),
oS 6 (.move (.n 0))]
| 3,_=>[oS 7 (.bin .lss (.v 6) (.v 5))]
| 4,_=>[oN (.indexAddr 1 (.v 4) (.v 6)),
oN (.load false 1 (.l 0)),
sL 2 1]
| 5,_=>[oS 8 (.move (.v 2)),
oS 9 (.len 0 (.l 0)),
oS 10 (.move (.n 0))]
| 6,_=>[oS 11 (.bin .lss (.v 10) (.v 9))]
| 7,_=>[oN (.indexAddr 2 (.v 8) (.v 10)),
oN (.load true 2 (.l 0)),
oS 15 (.cn zI),
oS 15 (.cs 2 (.l 2) (.l 1))]
| 8,_=>[oN (.cl true 2 (.v 15)),
oN (.call 48 [.l 0]),
oS 12 (.bin .neq (.l 1) (.n 0))]
| 9,_=>[oN (.fieldAddr 0 0 (.v 1)),
oN (.load false 1 (.l 0)),
oN (.bin .add (.l 1) (.n 1)),
oN (.fieldAddr 0 0 (.v 1)),
oN (.store 1 (.l 3) (.l 2))]
| 10,_=>[oN (.fieldAddr 1 1 (.v 1)),
oN (.load false 1 (.l 0)),
oN (.cl true 2 (.v 15)),
oN (.call 159 [.l 2]),
oN (.max (.l 1) [.l 3]),
oN (.fieldAddr 1 1 (.v 1)),
oN (.store 1 (.l 5) (.l 4))]
| 11,_=>[oN (.bin .add (.v 10) (.n 1)),
sL 10 0]
| 12,_=>[oN (.bin .add (.v 6) (.n 1)),
sL 6 0]
| 13,_=>[oN (.ca (.v 13)),
oN (.field 0 0 false 1 (.v 13)),
oN (.ca (.v 13)),
oN (.field 1 1 false 1 (.v 13)),
oN (.min (.l 1) [.l 3]),
sL 3 4]
| 14,_=>[oN (.ca (.v 13)),
oN (.field 0 0 false 1 (.v 13)),
oN (.ca (.v 13)),
oN (.field 1 1 false 1 (.v 13)),
oN (.bin .mul (.l 1) (.l 3)),
mV 3,
oN (.bin .mul (.l 4) (.l 5)),
oN (.fieldAddr 1 1 (.v 1)),
oN (.load false 1 (.l 7)),
mV 3,
oN (.bin .mul (.l 8) (.l 9)),
oN (.bin .quo (.l 10) (.n 32)),
oN (.bin .add (.n 1) (.l 11)),
oN (.bin .mul (.l 6) (.l 12)),
oN (.fieldAddr 2 2 (.v 1)),
oN (.store 1 (.l 14) (.l 13))]
| 15,_=>[oN (.load true 3 (.v 1)),
oS 14 (.cs 3 (.v 14) (.l 0))]
| _,_=>[]
def a134b1:AIR:=.seq (.region (a134R 6) false) (.seq (.cond (.v 11) (.skip) (.exit 2)) (.seq (.block 3 (.seq (.region (a134R 7) false) (.seq (.seq (.region (a134R 8) false) (.cond (.v 12) (.region (a134R 9) false) (.skip))) (.region (a134R 10) true)))) (.region (a134R 11) false)))
def a134l1:AIR:=.loop true [0,1,2,3,4,5,6,7,8,9,10,13,14] a134b1
def a134b0:AIR:=.seq (.region (a134R 3) false) (.seq (.cond (.v 7) (.skip) (.exit 0)) (.seq (.block 1 (.seq (.region (a134R 4) false) (.seq (.region (a134R 5) false) (.block 2 (a134l1))))) (.region (a134R 12) false)))
def a134l0:AIR:=.loop true [0,1,3,4,5,6,13,14] a134b0
def a134:AFun:=.mk .iso 1 16 [.c 14 true 3] (.seq (.region (a134R 0) false) (.seq (.region (a134R 1) false) (.seq (.seq (.region (a134R 2) false) (.block 0 (a134l0))) (.seq (.region (a134R 13) false) (.seq (.region (a134R 14) false) (.seq (.region (a134R 15) false) (.ret)))))))
def a37R:Nat → Unit → List AOper
| 0,_=>[oS 3 (.cb (.v 0)),
oS 4 (.cb (.v 1)),
oS 2 (.move (.c (.bool false)))]
| 1,_=>[oN (.ca (.v 3)),
oN (.field 0 0 false 1 (.v 3)),
oN (.ca (.v 4)),
oN (.field 0 0 false 1 (.v 4)),
oN (.binb false (.l 1) (.l 3)),
mL 4,
oT 5 (.ca (.v 3)),
oT 5 (.field 1 1 false 1 (.v 3)),
oT 5 (.ca (.v 4)),
oT 5 (.field 1 1 false 1 (.v 4)),
oT 5 (.call 57 [.l 7,.l 9]),
oT 5 (.un .not (.l 10)),
oN (.pick (.l 5) (.l 11) (.c (.bool false))),
mL 12,
oT 13 (.ca (.v 4)),
oT 13 (.field 1 1 false 1 (.v 4)),
oT 13 (.ca (.v 3)),
oT 13 (.field 1 1 false 1 (.v 3)),
oT 13 (.call 57 [.l 15,.l 17]),
oT 13 (.un .not (.l 18)),
oN (.pick (.l 13) (.l 19) (.c (.bool false))),
sL 2 20]
| _,_=>[]
def a37:AFun:=.mk .iso 2 5 [.v 2] (.seq (.region (a37R 0) false) (.seq (.region (a37R 1) false) (.ret)))
def a135R:Nat → Unit → List AOper
| 0,_=>[oS 4 (.cb (.v 0)),
oS 5 (.cn zI)]
| 1,_=>[mV 1,
oN (.bin .leq (.l 0) (.n 0)),
sL 2 1]
| 2,_=>[oN (.call 160 [.n 1]),
oS 5 (.cs 2 (.v 5) (.l 0))]
| 3,_=>[mV 1,
oN (.ca (.v 4)),
oN (.field 0 0 false 1 (.v 4)),
oN (.bin .gtr (.l 0) (.l 2)),
sL 3 3]
| 4,_=>[oN (.build [.bool false,.isl []] []),
oS 5 (.cs 2 (.v 5) (.l 0))]
| 5,_=>[oN (.cl true 3 (.v 4)),
oN (.call 156 [.l 0]),
mV 1,
oN (.slice 2 (.l 1) none (some (.l 2)) none),
oN (.call 157 [.l 3]),
oS 5 (.cs 2 (.v 5) (.l 4))]
| _,_=>[]
def a135:AFun:=.mk .iso 2 6 [.c 5 true 2] (.seq (.region (a135R 0) false) (.seq (.block 0 (.seq (.region (a135R 1) false) (.cond (.v 2) (.seq (.region (a135R 2) false) (.ret)) (.seq (.region (a135R 3) false) (.cond (.v 3) (.seq (.region (a135R 4) false) (.ret)) (.skip)))))) (.seq (.region (a135R 5) false) (.ret))))
def a139R:Nat → Unit → List AOper
| 0,_=>[oS 11 (.cb (.v 0)),
oS 12 (.cn (.agg [.int .i64 0,.int .i64 0,.nl]))]
| 1,_=>[mV 1,
mV 2,
oN (.build [.int .i64 0,.int .i64 0,.nl] [(0,.l 0),(1,.l 1)]),
oS 3 (.alloc (.agg [.int .i64 0,.int .i64 0,.nl])),
oN (.store 3 (.l 3) (.l 2))]
| 2,_=>[oS 4 (.move (.n 0))]
| 3,_=>[mV 4,
mV 1,
oS 8 (.bin .lss (.l 0) (.l 1))]
| 4,_=>[mV 4,
oN (.bin .add (.l 0) (.n 1)),
sL 4 1]
| 5,_=>[oN (.bslice true 2 zI 0 []),
sL 5 0]
| 6,_=>[oS 6 (.move (.n 0))]
| 7,_=>[mV 6,
mV 2,
oS 9 (.bin .lss (.l 0) (.l 1))]
| 8,_=>[mV 6,
oN (.bin .add (.l 0) (.n 1)),
sL 6 1]
| 9,_=>[oS 7 (.move (.n 0))]
| 10,_=>[mV 4,
mV 2,
oN (.bin .mul (.l 0) (.l 1)),
mV 6,
oN (.bin .add (.l 2) (.l 3)),
oN (.ca (.v 11)),
oN (.field 2 2 false 1 (.v 11)),
oN (.len 0 (.l 6)),
oS 10 (.bin .lss (.l 4) (.l 7))]
| 11,_=>[oN (.ca (.v 11)),
oN (.field 2 2 false 1 (.v 11)),
mV 4,
mV 2,
oN (.bin .mul (.l 2) (.l 3)),
mV 6,
oN (.bin .add (.l 4) (.l 5)),
oN (.indexAddr 1 (.l 1) (.l 6)),
oN (.load false 1 (.l 7)),
oN (.bin .rem (.l 8) (.c (.int .i8 10))),
oN (.conv .i64 (.l 9)),
sL 7 10]
| 12,_=>[mV 5,
mV 7,
oN (.call 14 [.l 1]),
oN (.bslice false 2 zI 1 [(0,.l 2)]),
oN (.append 2 32 (.l 0) (.l 3)),
sL 5 4]
| 13,_=>[oN (.fieldAddr 2 2 (.v 3)),
oN (.load false 1 (.l 0)),
oN (.frz (.v 5)),
oN (.bslice false 1 (.nl) 1 [(0,.l 2)]),
oN (.append 1 24 (.l 1) (.l 3)),
oN (.fieldAddr 2 2 (.v 3)),
oN (.store 1 (.l 5) (.l 4))]
| 14,_=>[oN (.load true 3 (.v 3)),
oS 12 (.cs 3 (.v 12) (.l 0))]
| _,_=>[]
def a139b1:AIR:=.seq (.seq (.region (a139R 7) false) (.cond (.v 9) (.skip) (.exit 2))) (.seq (.block 3 (.seq (.region (a139R 9) false) (.seq (.seq (.region (a139R 10) false) (.cond (.v 10) (.region (a139R 11) false) (.skip))) (.region (a139R 12) false)))) (.region (a139R 8) false))
def a139l1:AIR:=.loop false [0,1,2,3,4,5,6,8,11,12] a139b1
theorem a139l1_run:Lr a139l1 (value_of% a139l1):=fun _=>run_loop _ _ _ _
def a139b0:AIR:=.seq (.seq (.region (a139R 3) false) (.cond (.v 8) (.skip) (.exit 0))) (.seq (.block 1 (.seq (.region (a139R 5) false) (.seq (.seq (.region (a139R 6) false) (.block 2 (a139l1))) (.region (a139R 13) false)))) (.region (a139R 4) false))
def a139l0:AIR:=.loop false [0,1,2,3,4,11,12] a139b0
theorem a139l0_run:Lr a139l0 (value_of% a139l0):=fun _=>run_loop _ _ _ _
def a139:AFun:=.mk .iso 3 13 [.c 12 true 3] (.seq (.region (a139R 0) false) (.seq (.region (a139R 1) false) (.seq (.seq (.region (a139R 2) false) (.block 0 (a139l0))) (.seq (.region (a139R 14) false) (.ret)))))
def a43R:Nat → Unit → List AOper
| 0,_=>[oS 4 (.cb (.v 0)),
oS 1 (.move (.n 0))]
| 1,_=>[oN (.ca (.v 4)),
oN (.field 1 1 false 1 (.v 4)),
oN (.len 0 (.l 1)),
oS 2 (.bin .eql (.l 2) (.n 0))]
| 2,_=>[oS 1 (.move (.n 0))]
| 3,_=>[oN (.ca (.v 4)),
oS 3 (.field 0 0 false 1 (.v 4))]
| 4,_=>[oS 1 (.move (.n (-1)))]
| 5,_=>[oS 1 (.move (.n 1))]
| _,_=>[]
def a43:AFun:=.mk .iso 1 5 [.v 1] (.seq (.region (a43R 0) false) (.seq (.seq (.region (a43R 1) false) (.cond (.v 2) (.seq (.region (a43R 2) false) (.ret)) (.skip))) (.seq (.seq (.region (a43R 3) false) (.cond (.v 3) (.seq (.region (a43R 4) false) (.ret)) (.skip))) (.seq (.region (a43R 5) false) (.ret)))))
def a14R:Nat → Unit → List AOper
| 0,_=>[oS 3 (.cn zI)]
| 1,_=>[mV 0,
oN (.conv .u64 (.l 0)),
sL 1 1]
| 2,_=>[mV 0,
oS 2 (.bin .lss (.l 0) (.n 0))]
| 3,_=>[mV 1,
oN (.un .neg (.l 0)),
sL 1 1]
| 4,_=>[mV 1,
oN (.conv .u32 (.l 0)),
mV 1,
oN (.bin .shr (.l 2) (.c (.int .u64 32))),
oN (.conv .u32 (.l 3)),
oN (.bslice false 1 (.int .u32 0) 2 [(0,.l 1),(1,.l 4)]),
mV 0,
oN (.bin .lss (.l 6) (.n 0)),
oN (.call 38 [.l 5,.l 7]),
oS 3 (.cs 2 (.v 3) (.l 8))]
| _,_=>[]
def a14:AFun:=.mk .iso 1 4 [.c 3 true 2] (.seq (.region (a14R 0) false) (.seq (.region (a14R 1) false) (.seq (.seq (.region (a14R 2) false) (.cond (.v 2) (.region (a14R 3) false) (.skip))) (.seq (.region (a14R 4) false) (.ret)))))
def a41R:Nat → Unit → List AOper
| 0,_=>[oS 9 (.cb (.v 0)),
oS 10 (.cb (.v 1)),
oS 11 (.cn zI)]
| 1,_=>[oN (.ca (.v 9)),
oN (.field 1 1 false 1 (.v 9)),
oN (.len 0 (.l 1)),
oN (.ca (.v 10)),
oN (.field 1 1 false 1 (.v 10)),
oN (.len 0 (.l 4)),
oN (.bin .add (.l 2) (.l 5)),
oN (.bin .add (.l 6) (.n 1)),
oN (.mkslice 1 4 (.int .u32 0) (.l 7) (.l 7)),
sL 2 8]
| 2,_=>[oS 3 (.move (.n 0))]
| 3,_=>[mV 3,
oN (.ca (.v 9)),
oN (.field 1 1 false 1 (.v 9)),
oN (.len 0 (.l 2)),
oS 6 (.bin .lss (.l 0) (.l 3))]
| 4,_=>[mV 3,
oN (.bin .add (.l 0) (.n 1)),
sL 3 1]
| 5,_=>[oS 4 (.move (.c (.int .u64 0)))]
| 6,_=>[oS 5 (.move (.n 0))]
| 7,_=>[mV 5,
oN (.ca (.v 10)),
oN (.field 1 1 false 1 (.v 10)),
oN (.len 0 (.l 2)),
oN (.bin .lss (.l 0) (.l 3)),
mL 4,
oF 5 (.move (.v 4)),
oF 5 (.bin .gtr (.l 6) (.c (.int .u64 0))),
oS 7 (.pick (.l 5) (.c (.bool true)) (.l 7))]
| 8,_=>[mV 5,
oN (.bin .add (.l 0) (.n 1)),
sL 5 1]
| 9,_=>[mV 4,
mV 2,
mV 3,
mV 5,
oN (.bin .add (.l 2) (.l 3)),
oN (.indexAddr 1 (.l 1) (.l 4)),
oN (.load false 1 (.l 5)),
oN (.conv .u64 (.l 6)),
oN (.bin .add (.l 0) (.l 7)),
sL 4 8]
| 10,_=>[mV 5,
oN (.ca (.v 10)),
oN (.field 1 1 false 1 (.v 10)),
oN (.len 0 (.l 2)),
oS 8 (.bin .lss (.l 0) (.l 3))]
| 11,_=>[mV 4,
oN (.ca (.v 9)),
oN (.field 1 1 false 1 (.v 9)),
mV 3,
oN (.indexAddr 1 (.l 2) (.l 3)),
oN (.load false 1 (.l 4)),
oN (.conv .u64 (.l 5)),
oN (.ca (.v 10)),
oN (.field 1 1 false 1 (.v 10)),
mV 5,
oN (.indexAddr 1 (.l 8) (.l 9)),
oN (.load false 1 (.l 10)),
oN (.conv .u64 (.l 11)),
oN (.bin .mul (.l 6) (.l 12)),
oN (.bin .add (.l 0) (.l 13)),
sL 4 14]
| 12,_=>[mV 2,
mV 3,
mV 5,
oN (.bin .add (.l 1) (.l 2)),
mV 4,
oN (.conv .u32 (.l 4)),
oN (.indexAddr 1 (.l 0) (.l 3)),
oN (.store 1 (.l 6) (.l 5))]
| 13,_=>[mV 4,
oN (.bin .quo (.l 0) (.c (.int .u64 4294967296))),
sL 4 1]
| 14,_=>[mV 2,
oN (.ca (.v 9)),
oN (.field 0 0 false 1 (.v 9)),
oN (.ca (.v 10)),
oN (.field 0 0 false 1 (.v 10)),
oN (.binb true (.l 2) (.l 4)),
oN (.call 38 [.l 0,.l 5]),
oS 11 (.cs 2 (.v 11) (.l 6))]
| _,_=>[]
def a41b1:AIR:=.seq (.seq (.region (a41R 7) false) (.cond (.v 7) (.skip) (.exit 2))) (.seq (.block 3 (.seq (.region (a41R 9) false) (.seq (.seq (.region (a41R 10) false) (.cond (.v 8) (.region (a41R 11) true) (.skip))) (.seq (.region (a41R 12) false) (.region (a41R 13) false))))) (.region (a41R 8) false))
def a41l1:AIR:=.loop true [0,1,2,3,4,5,6,9,10,11] a41b1
theorem a41l1_run:Lr a41l1 (value_of% a41l1):=fun _=>run_loop _ _ _ _
def a41b0:AIR:=.seq (.seq (.region (a41R 3) false) (.cond (.v 6) (.skip) (.exit 0))) (.seq (.block 1 (.seq (.region (a41R 5) false) (.seq (.region (a41R 6) false) (.block 2 (a41l1))))) (.region (a41R 4) false))
def a41l0:AIR:=.loop true [0,1,2,3,9,10,11] a41b0
theorem a41l0_run:Lr a41l0 (value_of% a41l0):=fun _=>run_loop _ _ _ _
def a41:AFun:=.mk .iso 2 12 [.c 11 true 2] (.seq (.region (a41R 0) false) (.seq (.region (a41R 1) false) (.seq (.seq (.region (a41R 2) false) (.block 0 (a41l0))) (.seq (.region (a41R 14) false) (.ret)))))
def a111R:Nat → Unit → List AOper
| 0,_=>[oS 2 (.cb (.v 0)),
oS 3 (.cb (.v 1)),
oS 4 (.cn zI)]
| 1,_=>[oN (.cl true 2 (.v 2)),
oN (.cl true 2 (.v 3)),
oN (.call 88 [.l 1]),
oN (.call 49 [.l 0,.l 2]),
oS 4 (.cs 2 (.v 4) (.l 3))]
| _,_=>[]
def a111:AFun:=.mk .iso 2 5 [.c 4 true 2] (.seq (.region (a111R 0) false) (.seq (.region (a111R 1) true) (.ret)))
def a143R:Nat → Unit → List AOper
| 0,_=>[oS 3 (.cb (.v 0)),
oS 4 (.cb (.v 1)),
oS 2 (.move (.n 0))]
| 1,_=>[oN (.cl true 2 (.v 3)),
oN (.cl true 2 (.v 4)),
oN (.call 111 [.l 0,.l 1]),
oN (.call 43 [.l 2]),
sL 2 3]
| _,_=>[]
def a143:AFun:=.mk .iso 2 5 [.v 2] (.seq (.region (a143R 0) false) (.seq (.region (a143R 1) false) (.ret)))
def a38R:Nat → Unit → List AOper
| 0,_=>[oS 4 (.cn zI)]
| 1,_=>[mV 0,
oN (.len 0 (.l 0)),
sL 2 1]
| 2,_=>[mV 2,
oN (.bin .gtr (.l 0) (.n 0)),
mL 1,
oT 2 (.move (.v 0)),
oT 2 (.move (.v 2)),
oT 2 (.bin .sub (.l 4) (.n 1)),
oT 2 (.indexAddr 1 (.l 3) (.l 5)),
oT 2 (.load false 1 (.l 6)),
oT 2 (.bin .eql (.l 7) (.c (.int .u32 0))),
oS 3 (.pick (.l 2) (.l 8) (.c (.bool false)))]
| 3,_=>[mV 2,
oN (.bin .sub (.l 0) (.n 1)),
sL 2 1]
| 4,_=>[mV 1,
mL 0,
oT 1 (.move (.v 2)),
oT 1 (.bin .gtr (.l 2) (.n 0)),
oN (.pick (.l 1) (.l 3) (.c (.bool false))),
oN (.bslice true 1 (.int .u32 0) 0 []),
mV 0,
mV 2,
oN (.slice 1 (.l 6) none (some (.l 7)) none),
oN (.append 1 4 (.l 5) (.l 8)),
oN (.build [.bool false,.isl []] [(0,.l 4),(1,.l 9)]),
oS 4 (.cs 2 (.v 4) (.l 10))]
| _,_=>[]
def a38b0:AIR:=.seq (.seq (.region (a38R 2) false) (.cond (.v 3) (.skip) (.exit 0))) (.block 1 (.region (a38R 3) false))
def a38l0:AIR:=.loop true [0,1,2,4] a38b0
theorem a38l0_run:Lr a38l0 (value_of% a38l0):=fun _=>run_loop _ _ _ _
def a38:AFun:=.mk .con 2 5 [.c 4 true 2] (.seq (.region (a38R 0) false) (.seq (.region (a38R 1) false) (.seq (.block 0 (a38l0)) (.seq (.region (a38R 4) false) (.ret)))))
def a149R:Nat → Unit → List AOper
| 0,_=>[oS 2 (.move (.c (.bool false)))]
| 1,_=>[mV 0,
oN (.len 0 (.l 0)),
mV 1,
oN (.len 0 (.l 2)),
oS 4 (.bin .neq (.l 1) (.l 3))]
| 2,_=>[oS 2 (.move (.c (.bool false)))]
| 3,_=>[oS 3 (.move (.n 0))]
| 4,_=>[mV 3,
mV 0,
oN (.len 0 (.l 1)),
oS 5 (.bin .lss (.l 0) (.l 2))]
| 5,_=>[mV 3,
oN (.bin .add (.l 0) (.n 1)),
sL 3 1]
| 6,_=>[mV 0,
mV 3,
oN (.indexAddr 1 (.l 0) (.l 1)),
oN (.load false 1 (.l 2)),
mV 1,
mV 3,
oN (.indexAddr 1 (.l 4) (.l 5)),
oN (.load false 1 (.l 6)),
oS 6 (.bin .neq (.l 3) (.l 7))]
| 7,_=>[oS 2 (.move (.c (.bool false)))]
| 8,_=>[oS 2 (.move (.c (.bool true)))]
| _,_=>[]
def a149b0:AIR:=.seq (.seq (.region (a149R 4) false) (.cond (.v 5) (.skip) (.exit 0))) (.seq (.block 1 (.seq (.region (a149R 6) true) (.cond (.v 6) (.seq (.region (a149R 7) false) (.ret)) (.skip)))) (.region (a149R 5) false))
def a149l0:AIR:=.loop true [0,1,2,3,4] a149b0
def a149:AFun:=.mk .iso 2 7 [.v 2] (.seq (.region (a149R 0) false) (.seq (.seq (.region (a149R 1) false) (.cond (.v 4) (.seq (.region (a149R 2) false) (.ret)) (.skip))) (.seq (.seq (.region (a149R 3) false) (.block 0 (a149l0))) (.seq (.region (a149R 8) false) (.ret)))))
def a154R:Nat → Unit → List AOper
| 0,_=>[oS 8 (.cb (.v 1)),
oS 2 (.move (.c (.bool false)))]
| 1,_=>[oN (.call 160 [.n 1]),
oS 9 (.cn zI),
oS 9 (.cs 2 (.l 1) (.l 0))]
| 2,_=>[oS 4 (.move (.v 0)),
oS 5 (.len 0 (.l 0)),
oS 6 (.move (.n 0))]
| 3,_=>[oS 7 (.bin .lss (.v 6) (.v 5))]
| 4,_=>[oN (.indexAddr 1 (.v 4) (.v 6)),
oN (.load false 1 (.l 0)),
sL 3 1]
| 5,_=>[oN (.cl true 2 (.v 9)),
mV 3,
oN (.call 164 [.l 0,.l 1]),
oS 9 (.cs 2 (.v 9) (.l 2))]
| 6,_=>[oN (.bin .add (.v 6) (.n 1)),
sL 6 0]
| 7,_=>[oN (.cl true 2 (.v 9)),
oN (.cl true 2 (.v 8)),
oN (.call 165 [.l 0,.l 1]),
sL 2 2]
| _,_=>[]
def a154b0:AIR:=.seq (.region (a154R 3) false) (.seq (.cond (.v 7) (.skip) (.exit 0)) (.seq (.block 1 (.seq (.region (a154R 4) false) (.region (a154R 5) false))) (.region (a154R 6) false)))
def a154l0:AIR:=.loop true [0,1,2,4,5,6,8,9] a154b0
def a154:AFun:=.mk .iso 2 10 [.v 2] (.seq (.region (a154R 0) false) (.seq (.region (a154R 1) false) (.seq (.seq (.region (a154R 2) false) (.block 0 (a154l0))) (.seq (.region (a154R 7) false) (.ret)))))
def a157R:Nat → Unit → List AOper
| 0,_=>[oS 6 (.cn zI)]
| 1,_=>[oN (.call 160 [.n 1]),
oS 7 (.cn zI),
oS 7 (.cs 2 (.l 1) (.l 0))]
| 2,_=>[oS 1 (.move (.v 0)),
oS 2 (.len 0 (.l 0)),
oS 3 (.move (.n 0))]
| 3,_=>[oS 4 (.bin .lss (.v 3) (.v 2))]
| 4,_=>[oN (.indexAddr 2 (.v 1) (.v 3)),
oN (.load true 2 (.l 0)),
oS 8 (.cn zI),
oS 8 (.cs 2 (.l 2) (.l 1))]
| 5,_=>[oN (.cl true 2 (.v 7)),
oN (.cl true 2 (.v 8)),
oN (.call 32 [.l 0,.l 1]),
oS 7 (.cs 2 (.v 7) (.l 2))]
| 6,_=>[oN (.bin .add (.v 3) (.n 1)),
sL 3 0]
| 7,_=>[oN (.cl true 2 (.v 7)),
oN (.call 167 [.l 0]),
mL 1,
oN (.extract 0 (.l 2)),
oN (.extract 1 (.l 2)),
oS 9 (.cn zI),
oS 9 (.cs 2 (.l 5) (.l 3)),
mL 4]
| 8,_=>[oN (.cl true 2 (.v 9)),
oN (.cl true 2 (.v 9)),
oN (.call 32 [.l 0,.l 1]),
oN (.cl true 2 (.v 7)),
oN (.call 168 [.l 2,.l 3]),
oS 5 (.bin .lss (.l 4) (.n 0))]
| 9,_=>[oN (.cl true 2 (.v 9)),
oN (.call 160 [.n 1]),
oN (.call 53 [.l 0,.l 1]),
oS 9 (.cs 2 (.v 9) (.l 2))]
| 10,_=>[oN (.cl true 2 (.v 9)),
oS 6 (.cs 2 (.v 6) (.l 0))]
| _,_=>[]
def a157b0:AIR:=.seq (.region (a157R 3) false) (.seq (.cond (.v 4) (.skip) (.exit 0)) (.seq (.block 1 (.seq (.region (a157R 4) false) (.region (a157R 5) false))) (.region (a157R 6) false)))
def a157l0:AIR:=.loop true [0,1,2,3,5,6,7,9] a157b0
theorem a157l0_run:Lr a157l0 (value_of% a157l0):=fun _=>run_loop _ _ _ _
def a157:AFun:=.mk .iso 1 10 [.c 6 true 2] (.seq (.region (a157R 0) false) (.seq (.region (a157R 1) false) (.seq (.seq (.region (a157R 2) false) (.block 0 (a157l0))) (.seq (.region (a157R 7) false) (.seq (.seq (.region (a157R 8) true) (.cond (.v 5) (.region (a157R 9) true) (.skip))) (.seq (.region (a157R 10) false) (.ret)))))))
def a156R:Nat → Unit → List AOper
| 0,_=>[oS 8 (.cb (.v 0)),
oS 1 (.move (.c (.isl [])))]
| 1,_=>[oS 2 (.nils 2)]
| 2,_=>[oN (.ca (.v 8)),
oS 4 (.field 2 2 false 1 (.v 8)),
oS 5 (.len 0 (.l 1)),
oS 6 (.move (.n 0))]
| 3,_=>[oS 7 (.bin .lss (.v 6) (.v 5))]
| 4,_=>[oN (.indexAddr 1 (.v 4) (.v 6)),
oN (.load false 1 (.l 0)),
sL 3 1]
| 5,_=>[mV 2,
mV 3,
oN (.call 169 [.l 1]),
oN (.bslice false 2 zI 1 [(0,.l 2)]),
oN (.append 2 32 (.l 0) (.l 3)),
sL 2 4]
| 6,_=>[oN (.bin .add (.v 6) (.n 1)),
sL 6 0]
| 7,_=>[mV 2,
oN (.call 171 [.l 0,.f 170])]
| 8,_=>[mV 2,
sL 1 0]
| _,_=>[]
def a156b0:AIR:=.seq (.region (a156R 3) false) (.seq (.cond (.v 7) (.skip) (.exit 0)) (.seq (.block 1 (.seq (.region (a156R 4) false) (.region (a156R 5) false))) (.region (a156R 6) false)))
def a156l0:AIR:=.loop true [0,1,2,4,5,6,8] a156b0
theorem a156l0_run:Lr a156l0 (value_of% a156l0):=fun _=>run_loop _ _ _ _
def a156:AFun:=.mk .iso 1 9 [.v 1] (.seq (.region (a156R 0) false) (.seq (.region (a156R 1) false) (.seq (.seq (.region (a156R 2) false) (.block 0 (a156l0))) (.seq (.region (a156R 7) false) (.seq (.region (a156R 8) false) (.ret))))))
def a48R:Nat → Unit → List AOper
| 0,_=>[oS 4 (.cb (.v 0)),
oS 1 (.move (.n 0))]
| 1,_=>[oN (.ca (.v 4)),
oN (.field 1 1 false 1 (.v 4)),
oN (.len 0 (.l 1)),
oN (.bin .eql (.l 2) (.n 0)),
sL 2 3]
| 2,_=>[oS 1 (.move (.n 0))]
| 3,_=>[oN (.ca (.v 4)),
oN (.field 0 0 false 1 (.v 4)),
sL 3 1]
| 4,_=>[oS 1 (.move (.n (-1)))]
| 5,_=>[oS 1 (.move (.n 1))]
| _,_=>[]
def a48:AFun:=.mk .iso 1 5 [.v 1] (.seq (.region (a48R 0) false) (.seq (.block 0 (.seq (.region (a48R 1) false) (.cond (.v 2) (.seq (.region (a48R 2) false) (.ret)) (.seq (.region (a48R 3) false) (.cond (.v 3) (.seq (.region (a48R 4) false) (.ret)) (.skip)))))) (.seq (.region (a48R 5) false) (.ret))))
def a159R:Nat → Unit → List AOper
| 0,_=>[oS 4 (.cb (.v 0)),
oS 1 (.move (.n 0))]
| 1,_=>[oN (.ca (.v 4)),
oN (.field 1 1 false 1 (.v 4)),
oN (.len 0 (.l 1)),
sL 2 2]
| 2,_=>[mV 2,
oS 3 (.bin .eql (.l 0) (.n 0))]
| 3,_=>[oS 1 (.move (.n 0))]
| 4,_=>[mV 2,
oN (.bin .sub (.l 0) (.n 1)),
oN (.bin .mul (.n 32) (.l 1)),
oN (.ca (.v 4)),
oN (.field 1 1 false 1 (.v 4)),
mV 2,
oN (.bin .sub (.l 5) (.n 1)),
oN (.indexAddr 1 (.l 4) (.l 6)),
oN (.load false 1 (.l 7)),
oN (.call 106 [.l 8]),
oN (.bin .add (.l 2) (.l 9)),
sL 1 10]
| _,_=>[]
def a159:AFun:=.mk .iso 1 5 [.v 1] (.seq (.region (a159R 0) false) (.seq (.region (a159R 1) false) (.seq (.seq (.region (a159R 2) false) (.cond (.v 3) (.seq (.region (a159R 3) false) (.ret)) (.skip))) (.seq (.region (a159R 4) false) (.ret)))))
def a57R:Nat → Unit → List AOper
| 0,_=>[oS 2 (.move (.c (.bool false)))]
| 1,_=>[mV 0,
oN (.len 0 (.l 0)),
mV 1,
oN (.len 0 (.l 2)),
oS 4 (.bin .neq (.l 1) (.l 3))]
| 2,_=>[mV 0,
oN (.len 0 (.l 0)),
mV 1,
oN (.len 0 (.l 2)),
oN (.bin .lss (.l 1) (.l 3)),
sL 2 4]
| 3,_=>[mV 0,
oN (.len 0 (.l 0)),
oN (.bin .sub (.l 1) (.n 1)),
sL 3 2]
| 4,_=>[mV 3,
oS 5 (.bin .geq (.l 0) (.n 0))]
| 5,_=>[mV 3,
oN (.bin .sub (.l 0) (.n 1)),
sL 3 1]
| 6,_=>[mV 0,
mV 3,
oN (.indexAddr 1 (.l 0) (.l 1)),
oN (.load false 1 (.l 2)),
mV 1,
mV 3,
oN (.indexAddr 1 (.l 4) (.l 5)),
oN (.load false 1 (.l 6)),
oS 6 (.bin .neq (.l 3) (.l 7))]
| 7,_=>[mV 0,
mV 3,
oN (.indexAddr 1 (.l 0) (.l 1)),
oN (.load false 1 (.l 2)),
mV 1,
mV 3,
oN (.indexAddr 1 (.l 4) (.l 5)),
oN (.load false 1 (.l 6)),
oN (.bin .lss (.l 3) (.l 7)),
sL 2 8]
| 8,_=>[oS 2 (.move (.c (.bool false)))]
| _,_=>[]
def a57b0:AIR:=.seq (.seq (.region (a57R 4) false) (.cond (.v 5) (.skip) (.exit 0))) (.seq (.block 1 (.seq (.region (a57R 6) true) (.cond (.v 6) (.seq (.region (a57R 7) true) (.ret)) (.skip)))) (.region (a57R 5) false))
def a57l0:AIR:=.loop true [0,1,2,3,4] a57b0
theorem a57l0_run:Lr a57l0 (value_of% a57l0):=fun _=>run_loop _ _ _ _
def a57:AFun:=.mk .iso 2 7 [.v 2] (.seq (.region (a57R 0) false) (.seq (.seq (.region (a57R 1) false) (.cond (.v 4) (.seq (.region (a57R 2) false) (.ret)) (.skip))) (.seq (.seq (.region (a57R 3) false) (.block 0 (a57l0))) (.seq (.region (a57R 8) false) (.ret)))))
def a160R:Nat → Unit → List AOper
| 0,_=>[oS 3 (.cn zI)]
| 1,_=>[mV 0,
oN (.conv .u64 (.l 0)),
sL 1 1]
| 2,_=>[mV 0,
oS 2 (.bin .lss (.l 0) (.n 0))]
| 3,_=>[mV 1,
oN (.un .neg (.l 0)),
sL 1 1]
| 4,_=>[mV 1,
oN (.conv .u32 (.l 0)),
mV 1,
oN (.bin .shr (.l 2) (.c (.int .u64 32))),
oN (.conv .u32 (.l 3)),
oN (.bslice false 1 (.int .u32 0) 2 [(0,.l 1),(1,.l 4)]),
mV 0,
oN (.bin .lss (.l 6) (.n 0)),
oN (.call 54 [.l 5,.l 7]),
oS 3 (.cs 2 (.v 3) (.l 8))]
| _,_=>[]
def a160:AFun:=.mk .iso 1 4 [.c 3 true 2] (.seq (.region (a160R 0) false) (.seq (.region (a160R 1) false) (.seq (.seq (.region (a160R 2) false) (.cond (.v 2) (.region (a160R 3) false) (.skip))) (.seq (.region (a160R 4) false) (.ret)))))
def a49R:Nat → Unit → List AOper
| 0,_=>[oS 4 (.cb (.v 0)),
oS 5 (.cb (.v 1)),
oS 6 (.cn zI)]
| 1,_=>[oN (.ca (.v 4)),
oN (.field 0 0 false 1 (.v 4)),
oN (.ca (.v 5)),
oN (.field 0 0 false 1 (.v 5)),
oS 2 (.binb false (.l 1) (.l 3))]
| 2,_=>[oN (.ca (.v 4)),
oN (.field 1 1 false 1 (.v 4)),
oN (.ca (.v 5)),
oN (.field 1 1 false 1 (.v 5)),
oN (.call 63 [.l 1,.l 3]),
oN (.ca (.v 4)),
oN (.field 0 0 false 1 (.v 4)),
oN (.call 38 [.l 4,.l 6]),
oS 6 (.cs 2 (.v 6) (.l 7))]
| 3,_=>[oN (.ca (.v 4)),
oN (.field 1 1 false 1 (.v 4)),
oN (.ca (.v 5)),
oN (.field 1 1 false 1 (.v 5)),
oS 3 (.call 57 [.l 1,.l 3])]
| 4,_=>[oN (.ca (.v 5)),
oN (.field 1 1 false 1 (.v 5)),
oN (.ca (.v 4)),
oN (.field 1 1 false 1 (.v 4)),
oN (.call 64 [.l 1,.l 3]),
oN (.ca (.v 5)),
oN (.field 0 0 false 1 (.v 5)),
oN (.call 38 [.l 4,.l 6]),
oS 6 (.cs 2 (.v 6) (.l 7))]
| 5,_=>[oN (.ca (.v 4)),
oN (.field 1 1 false 1 (.v 4)),
oN (.ca (.v 5)),
oN (.field 1 1 false 1 (.v 5)),
oN (.call 64 [.l 1,.l 3]),
oN (.ca (.v 4)),
oN (.field 0 0 false 1 (.v 4)),
oN (.call 38 [.l 4,.l 6]),
oS 6 (.cs 2 (.v 6) (.l 7))]
| _,_=>[]
def a49:AFun:=.mk .iso 2 7 [.c 6 true 2] (.seq (.region (a49R 0) false) (.seq (.seq (.region (a49R 1) false) (.cond (.v 2) (.seq (.region (a49R 2) true) (.ret)) (.skip))) (.seq (.seq (.region (a49R 3) false) (.cond (.v 3) (.seq (.region (a49R 4) true) (.ret)) (.skip))) (.seq (.region (a49R 5) true) (.ret)))))
def a88R:Nat → Unit → List AOper
| 0,_=>[oS 1 (.cb (.v 0)),
oS 2 (.cn zI)]
| 1,_=>[oN (.ca (.v 1)),
oN (.field 1 1 false 1 (.v 1)),
oN (.ca (.v 1)),
oN (.field 0 0 false 1 (.v 1)),
oN (.un .not (.l 3)),
oN (.call 38 [.l 1,.l 4]),
oS 2 (.cs 2 (.v 2) (.l 5))]
| _,_=>[]
def a88:AFun:=.mk .iso 1 3 [.c 2 true 2] (.seq (.region (a88R 0) false) (.seq (.region (a88R 1) false) (.ret)))
def a165R:Nat → Unit → List AOper
| 0,_=>[oS 3 (.cb (.v 0)),
oS 4 (.cb (.v 1)),
oS 2 (.move (.c (.bool false)))]
| 1,_=>[oN (.cl true 2 (.v 3)),
oN (.cl true 2 (.v 4)),
oN (.cl true 2 (.v 4)),
oN (.call 53 [.l 1,.l 2]),
oN (.call 168 [.l 0,.l 3]),
oN (.bin .gtr (.l 4) (.n 0)),
sL 2 5]
| _,_=>[]
def a165:AFun:=.mk .iso 2 5 [.v 2] (.seq (.region (a165R 0) false) (.seq (.region (a165R 1) true) (.ret)))
def a164R:Nat → Unit → List AOper
| 0,_=>[oS 2 (.cb (.v 0)),
oS 3 (.cn zI)]
| 1,_=>[oN (.cl true 2 (.v 2)),
mV 1,
oN (.conv .i64 (.l 1)),
oN (.call 160 [.l 2]),
oN (.call 32 [.l 0,.l 3]),
oS 3 (.cs 2 (.v 3) (.l 4))]
| _,_=>[]
def a164:AFun:=.mk .iso 2 4 [.c 3 true 2] (.seq (.region (a164R 0) false) (.seq (.region (a164R 1) true) (.ret)))
def a32R:Nat → Unit → List AOper
| 0,_=>[oS 16 (.cb (.v 0)),
oS 17 (.cb (.v 1)),
oS 18 (.cn zI)]
| 1,_=>[oN (.ca (.v 16)),
oN (.field 1 1 false 1 (.v 16)),
oN (.len 0 (.l 1)),
oN (.ca (.v 17)),
oN (.field 1 1 false 1 (.v 17)),
oN (.len 0 (.l 4)),
oN (.bin .add (.l 2) (.l 5)),
oN (.mkslice 1 4 (.int .u32 0) (.l 6) (.l 6)),
sL 2 7]
| 2,_=>[oN (.ca (.v 16)),
oS 8 (.field 1 1 false 1 (.v 16)),
oS 9 (.len 0 (.l 1)),
oS 10 (.move (.n 0))]
| 3,_=>[oS 11 (.bin .lss (.v 10) (.v 9))]
| 4,_=>[mV 10,
oN (.indexAddr 1 (.v 8) (.v 10)),
oN (.load false 1 (.l 1)),
sL 3 0,
sL 4 2]
| 5,_=>[oS 5 (.move (.c (.int .u64 0)))]
| 6,_=>[oN (.ca (.v 17)),
oS 12 (.field 1 1 false 1 (.v 17)),
oS 13 (.len 0 (.l 1)),
oS 14 (.move (.n 0))]
| 7,_=>[oS 15 (.bin .lss (.v 14) (.v 13))]
| 8,_=>[mV 14,
oN (.indexAddr 1 (.v 12) (.v 14)),
oN (.load false 1 (.l 1)),
sL 6 0,
sL 7 2]
| 9,_=>[mV 5,
mV 4,
oN (.conv .u64 (.l 1)),
mV 7,
oN (.conv .u64 (.l 3)),
oN (.bin .mul (.l 2) (.l 4)),
mV 2,
mV 3,
mV 6,
oN (.bin .add (.l 7) (.l 8)),
oN (.indexAddr 1 (.l 6) (.l 9)),
oN (.load false 1 (.l 10)),
oN (.conv .u64 (.l 11)),
oN (.bin .add (.l 5) (.l 12)),
oN (.bin .add (.l 0) (.l 13)),
sL 5 14]
| 10,_=>[mV 2,
mV 3,
mV 6,
oN (.bin .add (.l 1) (.l 2)),
mV 5,
oN (.conv .u32 (.l 4)),
oN (.indexAddr 1 (.l 0) (.l 3)),
oN (.store 1 (.l 6) (.l 5))]
| 11,_=>[mV 5,
oN (.bin .shr (.l 0) (.c (.int .u64 32))),
sL 5 1]
| 12,_=>[oN (.bin .add (.v 14) (.n 1)),
sL 14 0]
| 13,_=>[mV 2,
mV 3,
oN (.ca (.v 17)),
oN (.field 1 1 false 1 (.v 17)),
oN (.len 0 (.l 3)),
oN (.bin .add (.l 1) (.l 4)),
mV 5,
oN (.conv .u32 (.l 6)),
oN (.indexAddr 1 (.l 0) (.l 5)),
oN (.store 1 (.l 8) (.l 7))]
| 14,_=>[oN (.bin .add (.v 10) (.n 1)),
sL 10 0]
| 15,_=>[mV 2,
oN (.ca (.v 16)),
oN (.field 0 0 false 1 (.v 16)),
oN (.ca (.v 17)),
oN (.field 0 0 false 1 (.v 17)),
oN (.binb true (.l 2) (.l 4)),
oN (.call 54 [.l 0,.l 5]),
oS 18 (.cs 2 (.v 18) (.l 6))]
| _,_=>[]
def a32b1:AIR:=.seq (.region (a32R 7) false) (.seq (.cond (.v 15) (.skip) (.exit 2)) (.seq (.block 3 (.seq (.region (a32R 8) false) (.seq (.region (a32R 9) false) (.seq (.region (a32R 10) false) (.region (a32R 11) false))))) (.region (a32R 12) false)))
def a32l1:AIR:=.loop true [0,1,2,3,4,5,8,9,10,11,12,13,14,16,17,18] a32b1
theorem a32l1_run:Lr a32l1 (value_of% a32l1):=fun _=>run_loop _ _ _ _
def a32b0:AIR:=.seq (.region (a32R 3) false) (.seq (.cond (.v 11) (.skip) (.exit 0)) (.seq (.block 1 (.seq (.region (a32R 4) false) (.seq (.region (a32R 5) false) (.seq (.seq (.region (a32R 6) false) (.block 2 (a32l1))) (.region (a32R 13) false))))) (.region (a32R 14) false)))
def a32l0:AIR:=.loop true [0,1,2,8,9,10,16,17,18] a32b0
theorem a32l0_run:Lr a32l0 (value_of% a32l0):=fun _=>run_loop _ _ _ _
def a32:AFun:=.mk .iso 2 19 [.c 18 true 2] (.seq (.region (a32R 0) false) (.seq (.region (a32R 1) false) (.seq (.seq (.region (a32R 2) false) (.block 0 (a32l0))) (.seq (.region (a32R 15) false) (.ret)))))
def a167R:Nat → Unit → List AOper
| 0,_=>[oS 6 (.cb (.v 0)),
oS 7 (.cn zI),
oS 1 (.move (.n 0))]
| 1,_=>[oN (.ca (.v 6)),
oS 3 (.field 0 0 false 1 (.v 6))]
| 2,_=>[oN (.build [.bool false,.isl []] []),
oS 7 (.cs 2 (.v 7) (.l 0)),
oS 1 (.move (.n 1))]
| 3,_=>[oN (.ca (.v 6)),
oN (.field 1 1 false 1 (.v 6)),
oN (.len 0 (.l 1)),
oS 4 (.bin .eql (.l 2) (.n 0))]
| 4,_=>[oN (.cl true 2 (.v 6)),
oS 7 (.cs 2 (.v 7) (.l 0)),
oS 1 (.move (.n 0))]
| 5,_=>[oN (.cl true 2 (.v 6)),
oN (.call 159 [.l 0]),
oN (.bin .add (.l 1) (.n 1)),
oN (.bin .quo (.l 2) (.n 2)),
sL 2 3]
| 6,_=>[mV 2,
oN (.bin .quo (.l 0) (.n 32)),
oN (.mkslice 1 4 (.int .u32 0) (.l 1) (.l 1)),
mV 2,
oN (.bin .rem (.l 3) (.n 32)),
oN (.bin .shl (.c (.int .u32 1)) (.l 4)),
oN (.bslice false 1 (.int .u32 0) 1 [(0,.l 5)]),
oN (.append 1 4 (.l 2) (.l 6)),
oN (.call 54 [.l 7,.c (.bool false)]),
oS 8 (.cn zI),
oS 8 (.cs 2 (.l 9) (.l 8))]
| 7,_=>[oN (.cl true 2 (.v 6)),
oN (.cl true 2 (.v 8)),
oN (.call 175 [.l 0,.l 1]),
mL 2,
oN (.extract 0 (.l 3)),
oN (.extract 1 (.l 3)),
oN (.extract 2 (.l 3)),
oS 9 (.cn zI),
oS 10 (.cn zI),
oS 9 (.cs 2 (.l 7) (.l 4)),
oS 10 (.cs 2 (.l 8) (.l 5)),
mL 6]
| 8,_=>[oN (.cl true 2 (.v 8)),
oN (.cl true 2 (.v 9)),
oN (.call 53 [.l 0,.l 1]),
oN (.call 160 [.n 2]),
oN (.call 175 [.l 2,.l 3]),
mL 4,
oN (.extract 0 (.l 5)),
oN (.extract 1 (.l 5)),
oN (.extract 2 (.l 5)),
oS 11 (.cn zI),
oS 12 (.cn zI),
oS 11 (.cs 2 (.l 9) (.l 6)),
oS 12 (.cs 2 (.l 10) (.l 7)),
mL 8]
| 9,_=>[oN (.cl true 2 (.v 11)),
oN (.cl true 2 (.v 8)),
oN (.call 168 [.l 0,.l 1]),
oS 5 (.bin .geq (.l 2) (.n 0))]
| 10,_=>[oN (.cl true 2 (.v 8)),
oS 7 (.cs 2 (.v 7) (.l 0)),
oS 1 (.move (.n 0))]
| 11,_=>[oN (.cl true 2 (.v 11)),
oS 8 (.cs 2 (.v 8) (.l 0))]
| _,_=>[]
def a167b0:AIR:=.block 1 (.seq (.region (a167R 7) false) (.seq (.region (a167R 8) false) (.seq (.seq (.region (a167R 9) false) (.cond (.v 5) (.seq (.region (a167R 10) false) (.ret)) (.skip))) (.region (a167R 11) false))))
def a167l0:AIR:=.loop true [0,1,2,3,4,6,7,8] a167b0
theorem a167l0_run:Lr a167l0 (value_of% a167l0):=fun _=>run_loop _ _ _ _
def a167:AFun:=.mk .iso 1 13 [.c 7 true 2,.v 1] (.seq (.region (a167R 0) false) (.seq (.seq (.region (a167R 1) false) (.cond (.v 3) (.seq (.region (a167R 2) false) (.ret)) (.skip))) (.seq (.seq (.region (a167R 3) false) (.cond (.v 4) (.seq (.region (a167R 4) false) (.ret)) (.skip))) (.seq (.region (a167R 5) false) (.seq (.region (a167R 6) true) (.block 0 (a167l0)))))))
def a168R:Nat → Unit → List AOper
| 0,_=>[oS 6 (.cb (.v 0)),
oS 7 (.cb (.v 1)),
oS 2 (.move (.n 0))]
| 1,_=>[oN (.ca (.v 6)),
oN (.field 0 0 false 1 (.v 6)),
mL 1,
oT 2 (.ca (.v 7)),
oT 2 (.field 0 0 false 1 (.v 7)),
oT 2 (.un .not (.l 4)),
oN (.pick (.l 2) (.l 5) (.c (.bool false))),
sL 3 6]
| 2,_=>[oS 2 (.move (.n (-1)))]
| 3,_=>[oN (.ca (.v 7)),
oN (.field 0 0 false 1 (.v 7)),
mL 1,
oT 2 (.ca (.v 6)),
oT 2 (.field 0 0 false 1 (.v 6)),
oT 2 (.un .not (.l 4)),
oN (.pick (.l 2) (.l 5) (.c (.bool false))),
sL 4 6]
| 4,_=>[oS 2 (.move (.n 1))]
| 5,_=>[oN (.ca (.v 6)),
oN (.field 0 0 false 1 (.v 6)),
sL 5 1]
| 6,_=>[oN (.ca (.v 7)),
oN (.field 1 1 false 1 (.v 7)),
oN (.ca (.v 6)),
oN (.field 1 1 false 1 (.v 6)),
oN (.call 68 [.l 1,.l 3]),
sL 2 4]
| 7,_=>[oN (.ca (.v 6)),
oN (.field 1 1 false 1 (.v 6)),
oN (.ca (.v 7)),
oN (.field 1 1 false 1 (.v 7)),
oN (.call 68 [.l 1,.l 3]),
sL 2 4]
| _,_=>[]
def a168:AFun:=.mk .iso 2 8 [.v 2] (.seq (.region (a168R 0) false) (.seq (.block 0 (.seq (.region (a168R 1) false) (.cond (.v 3) (.seq (.region (a168R 2) false) (.ret)) (.seq (.region (a168R 3) false) (.cond (.v 4) (.seq (.region (a168R 4) false) (.ret)) (.seq (.region (a168R 5) false) (.cond (.v 5) (.seq (.region (a168R 6) false) (.ret)) (.skip)))))))) (.seq (.region (a168R 7) false) (.ret))))
def a53R:Nat → Unit → List AOper
| 0,_=>[oS 4 (.cb (.v 0)),
oS 5 (.cb (.v 1)),
oS 6 (.cn zI)]
| 1,_=>[oN (.ca (.v 4)),
oN (.field 0 0 false 1 (.v 4)),
oN (.ca (.v 5)),
oN (.field 0 0 false 1 (.v 5)),
oN (.binb false (.l 1) (.l 3)),
sL 2 4]
| 2,_=>[oN (.ca (.v 4)),
oN (.field 1 1 false 1 (.v 4)),
oN (.ca (.v 5)),
oN (.field 1 1 false 1 (.v 5)),
oN (.call 67 [.l 1,.l 3]),
oN (.ca (.v 4)),
oN (.field 0 0 false 1 (.v 4)),
oN (.call 54 [.l 4,.l 6]),
oS 6 (.cs 2 (.v 6) (.l 7))]
| 3,_=>[oN (.ca (.v 4)),
oN (.field 1 1 false 1 (.v 4)),
oN (.ca (.v 5)),
oN (.field 1 1 false 1 (.v 5)),
oN (.call 68 [.l 1,.l 3]),
oN (.bin .lss (.l 4) (.n 0)),
sL 3 5]
| 4,_=>[oN (.ca (.v 5)),
oN (.field 1 1 false 1 (.v 5)),
oN (.ca (.v 4)),
oN (.field 1 1 false 1 (.v 4)),
oN (.call 69 [.l 1,.l 3]),
oN (.ca (.v 5)),
oN (.field 0 0 false 1 (.v 5)),
oN (.call 54 [.l 4,.l 6]),
oS 6 (.cs 2 (.v 6) (.l 7))]
| 5,_=>[oN (.ca (.v 4)),
oN (.field 1 1 false 1 (.v 4)),
oN (.ca (.v 5)),
oN (.field 1 1 false 1 (.v 5)),
oN (.call 69 [.l 1,.l 3]),
oN (.ca (.v 4)),
oN (.field 0 0 false 1 (.v 4)),
oN (.call 54 [.l 4,.l 6]),
oS 6 (.cs 2 (.v 6) (.l 7))]
| _,_=>[]
def a53:AFun:=.mk .iso 2 7 [.c 6 true 2] (.seq (.region (a53R 0) false) (.seq (.block 0 (.seq (.region (a53R 1) false) (.cond (.v 2) (.seq (.region (a53R 2) true) (.ret)) (.seq (.region (a53R 3) false) (.cond (.v 3) (.seq (.region (a53R 4) true) (.ret)) (.skip)))))) (.seq (.region (a53R 5) true) (.ret))))
def a169R:Nat → Unit → List AOper
| 0,_=>[oS 1 (.cn zI)]
| 1,_=>[mV 0,
mV 0,
oN (.call 176 [.l 0,.l 1]),
mL 2,
oN (.extract 0 (.l 3)),
oN (.extract 1 (.l 3)),
oS 2 (.cn zI),
oS 2 (.cs 2 (.l 6) (.l 4)),
mL 5]
| 2,_=>[oN (.cl true 2 (.v 2)),
oS 1 (.cs 2 (.v 1) (.l 0))]
| _,_=>[]
def a169:AFun:=.mk .iso 1 3 [.c 1 true 2] (.seq (.region (a169R 0) false) (.seq (.region (a169R 1) false) (.seq (.region (a169R 2) false) (.ret))))
def a171R:Nat → Unit → List AOper
| 0,_=>[mV 0,
oN (.len 0 (.l 0)),
sL 2 1]
| 1,_=>[mV 0,
mV 2,
mV 2,
oN (.conv .u64 (.l 2)),
oN (.call 84 [.l 3]),
mV 1,
oN (.call 177 [.l 0,.n 0,.l 1,.l 4,.l 5])]
| _,_=>[]
def a171:AFun:=.mk .keep 2 3 [] (.seq (.region (a171R 0) false) (.region (a171R 1) false))
def a170R:Nat → Unit → List AOper
| 0,_=>[oS 3 (.cb (.v 0)),
oS 4 (.cb (.v 1)),
oS 2 (.move (.n 0))]
| 1,_=>[oN (.cl true 2 (.v 4)),
oN (.cl true 2 (.v 3)),
oN (.call 168 [.l 0,.l 1]),
sL 2 2]
| _,_=>[]
def a170:AFun:=.mk .iso 2 5 [.v 2] (.seq (.region (a170R 0) false) (.seq (.region (a170R 1) false) (.ret)))
def a106R:Nat → Unit → List AOper
| 0,_=>[oS 1 (.move (.n 0))]
| 1,_=>[mV 0,
oS 2 (.bin .geq (.l 0) (.c (.int .u32 65536)))]
| 2,_=>[mV 0,
oN (.bin .shr (.l 0) (.c (.int .u64 16))),
sL 0 1]
| 3,_=>[oS 1 (.move (.n 16))]
| 4,_=>[mV 0,
oS 3 (.bin .geq (.l 0) (.c (.int .u32 256)))]
| 5,_=>[mV 0,
oN (.bin .shr (.l 0) (.c (.int .u64 8))),
sL 0 1]
| 6,_=>[mV 1,
oN (.bin .add (.l 0) (.n 8)),
sL 1 1]
| 7,_=>[mV 1,
mV 0,
oN (.conv .u8 (.l 1)),
oN (.indexStr (.c (.a (.string ⟨#[0,1,2,2,3,3,3,3,4,4,4,4,4,4,4,4,5,5,5,5,5,5,5,5,5,5,5,5,5,5,5,5,6,6,6,6,6,6,6,6,6,6,6,6,6,6,6,6,6,6,6,6,6,6,6,6,6,6,6,6,6,6,6,6,7,7,7,7,7,7,7,7,7,7,7,7,7,7,7,7,7,7,7,7,7,7,7,7,7,7,7,7,7,7,7,7,7,7,7,7,7,7,7,7,7,7,7,7,7,7,7,7,7,7,7,7,7,7,7,7,7,7,7,7,7,7,7,7,8,8,8,8,8,8,8,8,8,8,8,8,8,8,8,8,8,8,8,8,8,8,8,8,8,8,8,8,8,8,8,8,8,8,8,8,8,8,8,8,8,8,8,8,8,8,8,8,8,8,8,8,8,8,8,8,8,8,8,8,8,8,8,8,8,8,8,8,8,8,8,8,8,8,8,8,8,8,8,8,8,8,8,8,8,8,8,8,8,8,8,8,8,8,8,8,8,8,8,8,8,8,8,8,8,8,8,8,8,8,8,8,8,8,8,8,8,8,8,8,8,8,8,8,8,8,8,8]⟩))) (.l 2)),
oN (.conv .i64 (.l 3)),
oN (.bin .add (.l 0) (.l 4)),
sL 1 5]
| _,_=>[]
def a106:AFun:=.mk .iso 1 4 [.v 1] (.seq (.region (a106R 0) false) (.seq (.seq (.region (a106R 1) false) (.cond (.v 2) (.seq (.region (a106R 2) false) (.region (a106R 3) false)) (.skip))) (.seq (.seq (.region (a106R 4) false) (.cond (.v 3) (.seq (.region (a106R 5) false) (.region (a106R 6) false)) (.skip))) (.seq (.region (a106R 7) false) (.ret)))))
def a54R:Nat → Unit → List AOper
| 0,_=>[oS 5 (.cn zI)]
| 1,_=>[mV 0,
oN (.len 0 (.l 0)),
sL 2 1]
| 2,_=>[mV 2,
oS 3 (.bin .gtr (.l 0) (.n 0))]
| 3,_=>[mV 0,
mV 2,
oN (.bin .sub (.l 1) (.n 1)),
oN (.indexAddr 1 (.l 0) (.l 2)),
oN (.load false 1 (.l 3)),
oS 4 (.bin .neq (.l 4) (.c (.int .u32 0)))]
| 4,_=>[mV 2,
oN (.bin .sub (.l 0) (.n 1)),
sL 2 1]
| 5,_=>[mV 1,
mL 0,
oT 1 (.move (.v 2)),
oT 1 (.bin .gtr (.l 2) (.n 0)),
oN (.pick (.l 1) (.l 3) (.c (.bool false))),
mV 0,
mV 2,
mV 2,
oN (.slice 1 (.l 5) none (some (.l 6)) (some (.l 7))),
oN (.build [.bool false,.isl []] [(0,.l 4),(1,.l 8)]),
oS 5 (.cs 2 (.v 5) (.l 9))]
| _,_=>[]
def a54b0:AIR:=.seq (.seq (.region (a54R 2) false) (.cond (.v 3) (.skip) (.exit 0))) (.block 1 (.seq (.seq (.region (a54R 3) false) (.cond (.v 4) (.exit 0) (.skip))) (.region (a54R 4) false)))
def a54l0:AIR:=.loop true [0,1,2,5] a54b0
theorem a54l0_run:Lr a54l0 (value_of% a54l0):=fun _=>run_loop _ _ _ _
def a54:AFun:=.mk .con 2 6 [.c 5 true 2] (.seq (.region (a54R 0) false) (.scope (.seq (.region (a54R 1) false) (.seq (.label 0) (.seq (.block 0 (a54l0)) (.seq (.region (a54R 5) false) (.ret)))))))
def a63R:Nat → Unit → List AOper
| 0,_=>[oS 2 (.move (.c (.isl [])))]
| 1,_=>[oN (.bslice true 1 (.int .u32 0) 0 []),
sL 3 0,
oS 4 (.move (.c (.int .u64 0)))]
| 2,_=>[oS 5 (.move (.n 0))]
| 3,_=>[mV 5,
mV 0,
oN (.len 0 (.l 1)),
oN (.bin .lss (.l 0) (.l 2)),
mL 3,
oF 4 (.move (.v 5)),
oF 4 (.move (.v 1)),
oF 4 (.len 0 (.l 6)),
oF 4 (.bin .lss (.l 5) (.l 7)),
oN (.pick (.l 4) (.c (.bool true)) (.l 8)),
mL 9,
oF 10 (.move (.v 4)),
oF 10 (.bin .gtr (.l 11) (.c (.int .u64 0))),
oS 6 (.pick (.l 10) (.c (.bool true)) (.l 12))]
| 4,_=>[mV 5,
oN (.bin .add (.l 0) (.n 1)),
sL 5 1]
| 5,_=>[mV 5,
mV 0,
oN (.len 0 (.l 1)),
oS 7 (.bin .lss (.l 0) (.l 2))]
| 6,_=>[mV 4,
mV 0,
mV 5,
oN (.indexAddr 1 (.l 1) (.l 2)),
oN (.load false 1 (.l 3)),
oN (.conv .u64 (.l 4)),
oN (.bin .add (.l 0) (.l 5)),
sL 4 6]
| 7,_=>[mV 5,
mV 1,
oN (.len 0 (.l 1)),
oS 8 (.bin .lss (.l 0) (.l 2))]
| 8,_=>[mV 4,
mV 1,
mV 5,
oN (.indexAddr 1 (.l 1) (.l 2)),
oN (.load false 1 (.l 3)),
oN (.conv .u64 (.l 4)),
oN (.bin .add (.l 0) (.l 5)),
sL 4 6]
| 9,_=>[mV 3,
mV 4,
oN (.conv .u32 (.l 1)),
oN (.bslice false 1 (.int .u32 0) 1 [(0,.l 2)]),
oN (.append 1 4 (.l 0) (.l 3)),
sL 3 4]
| 10,_=>[mV 4,
oN (.bin .quo (.l 0) (.c (.int .u64 4294967296))),
sL 4 1]
| 11,_=>[mV 3,
sL 2 0]
| _,_=>[]
def a63b0:AIR:=.seq (.seq (.region (a63R 3) false) (.cond (.v 6) (.skip) (.exit 0))) (.seq (.block 1 (.seq (.seq (.region (a63R 5) false) (.cond (.v 7) (.region (a63R 6) false) (.skip))) (.seq (.seq (.region (a63R 7) false) (.cond (.v 8) (.region (a63R 8) false) (.skip))) (.seq (.region (a63R 9) false) (.region (a63R 10) false))))) (.region (a63R 4) false))
def a63l0:AIR:=.loop true [0,1,2,3,4,5] a63b0
theorem a63l0_run:Lr a63l0 (value_of% a63l0):=fun _=>run_loop _ _ _ _
def a63:AFun:=.mk .iso 2 9 [.v 2] (.seq (.region (a63R 0) false) (.seq (.region (a63R 1) false) (.seq (.seq (.region (a63R 2) false) (.block 0 (a63l0))) (.seq (.region (a63R 11) false) (.ret)))))
def a64R:Nat → Unit → List AOper
| 0,_=>[oS 2 (.move (.c (.isl [])))]
| 1,_=>[oN (.bslice true 1 (.int .u32 0) 0 []),
sL 3 0,
oS 4 (.move (.n 0))]
| 2,_=>[oS 5 (.move (.n 0))]
| 3,_=>[mV 5,
mV 0,
oN (.len 0 (.l 1)),
oS 7 (.bin .lss (.l 0) (.l 2))]
| 4,_=>[mV 5,
oN (.bin .add (.l 0) (.n 1)),
sL 5 1]
| 5,_=>[mV 0,
mV 5,
oN (.indexAddr 1 (.l 0) (.l 1)),
oN (.load false 1 (.l 2)),
oN (.conv .i64 (.l 3)),
mV 4,
oN (.bin .sub (.l 4) (.l 5)),
sL 6 6]
| 6,_=>[mV 5,
mV 1,
oN (.len 0 (.l 1)),
oS 8 (.bin .lss (.l 0) (.l 2))]
| 7,_=>[mV 6,
mV 1,
mV 5,
oN (.indexAddr 1 (.l 1) (.l 2)),
oN (.load false 1 (.l 3)),
oN (.conv .i64 (.l 4)),
oN (.bin .sub (.l 0) (.l 5)),
sL 6 6]
| 8,_=>[oS 4 (.move (.n 0))]
| 9,_=>[mV 6,
oS 9 (.bin .lss (.l 0) (.n 0))]
| 10,_=>[mV 6,
oN (.bin .add (.l 0) (.n 4294967296)),
sL 6 1]
| 11,_=>[oS 4 (.move (.n 1))]
| 12,_=>[mV 3,
mV 6,
oN (.conv .u32 (.l 1)),
oN (.bslice false 1 (.int .u32 0) 1 [(0,.l 2)]),
oN (.append 1 4 (.l 0) (.l 3)),
sL 3 4]
| 13,_=>[mV 3,
sL 2 0]
| _,_=>[]
def a64b0:AIR:=.seq (.seq (.region (a64R 3) false) (.cond (.v 7) (.skip) (.exit 0))) (.seq (.block 1 (.seq (.region (a64R 5) false) (.seq (.seq (.region (a64R 6) false) (.cond (.v 8) (.region (a64R 7) false) (.skip))) (.seq (.region (a64R 8) false) (.seq (.seq (.region (a64R 9) false) (.cond (.v 9) (.seq (.region (a64R 10) false) (.region (a64R 11) false)) (.skip))) (.region (a64R 12) false)))))) (.region (a64R 4) false))
def a64l0:AIR:=.loop true [0,1,2,3,4,5] a64b0
theorem a64l0_run:Lr a64l0 (value_of% a64l0):=fun _=>run_loop _ _ _ _
def a64:AFun:=.mk .iso 2 10 [.v 2] (.seq (.region (a64R 0) false) (.seq (.region (a64R 1) false) (.seq (.seq (.region (a64R 2) false) (.block 0 (a64l0))) (.seq (.region (a64R 13) false) (.ret)))))
def a175R:Nat → Unit → List AOper
| 0,_=>[oS 8 (.cb (.v 0)),
oS 9 (.cb (.v 1)),
oS 10 (.cn zI),
oS 11 (.cn zI),
oS 2 (.move (.n 0))]
| 1,_=>[oN (.ca (.v 9)),
oN (.field 1 1 false 1 (.v 9)),
oN (.len 0 (.l 1)),
oS 5 (.bin .eql (.l 2) (.n 0))]
| 2,_=>[oN (.build [.bool false,.isl []] []),
oN (.build [.bool false,.isl []] []),
oS 10 (.cs 2 (.v 10) (.l 0)),
oS 11 (.cs 2 (.v 11) (.l 1)),
oS 2 (.move (.n 3))]
| 3,_=>[oN (.ca (.v 8)),
oN (.field 1 1 false 1 (.v 8)),
oN (.ca (.v 9)),
oN (.field 1 1 false 1 (.v 9)),
oN (.call 182 [.l 1,.l 3]),
mL 4,
oN (.extract 0 (.l 5)),
oN (.extract 1 (.l 5)),
sL 3 6,
sL 4 7]
| 4,_=>[mV 3,
oN (.call 54 [.l 0,.c (.bool false)]),
mV 4,
oN (.call 54 [.l 2,.c (.bool false)]),
oS 12 (.cn zI),
oS 13 (.cn zI),
oS 12 (.cs 2 (.l 4) (.l 1)),
oS 13 (.cs 2 (.l 5) (.l 3))]
| 5,_=>[oN (.ca (.v 8)),
oN (.field 0 0 false 1 (.v 8)),
mL 1,
oT 2 (.ca (.v 13)),
oT 2 (.field 1 1 false 1 (.v 13)),
oT 2 (.len 0 (.l 4)),
oT 2 (.bin .gtr (.l 5) (.n 0)),
oS 6 (.pick (.l 2) (.l 6) (.c (.bool false)))]
| 6,_=>[oN (.cl true 2 (.v 12)),
oN (.call 160 [.n 1]),
oN (.call 53 [.l 0,.l 1]),
oS 12 (.cs 2 (.v 12) (.l 2))]
| 7,_=>[oN (.ca (.v 9)),
oN (.field 1 1 false 1 (.v 9)),
oN (.ca (.v 13)),
oN (.field 1 1 false 1 (.v 13)),
oN (.call 69 [.l 1,.l 3]),
oN (.call 54 [.l 4,.c (.bool false)]),
oS 13 (.cs 2 (.v 13) (.l 5))]
| 8,_=>[oN (.ca (.v 8)),
oN (.field 0 0 false 1 (.v 8)),
oN (.ca (.v 9)),
oN (.field 0 0 false 1 (.v 9)),
oS 7 (.binb true (.l 1) (.l 3))]
| 9,_=>[oN (.cl true 2 (.v 12)),
oN (.call 183 [.l 0]),
oS 12 (.cs 2 (.v 12) (.l 1))]
| 10,_=>[oN (.cl true 2 (.v 12)),
oN (.cl true 2 (.v 13)),
oS 10 (.cs 2 (.v 10) (.l 0)),
oS 11 (.cs 2 (.v 11) (.l 1)),
oS 2 (.move (.n 0))]
| _,_=>[]
def a175:AFun:=.mk .iso 2 14 [.c 10 true 2,.c 11 true 2,.v 2] (.seq (.region (a175R 0) false) (.seq (.seq (.region (a175R 1) false) (.cond (.v 5) (.seq (.region (a175R 2) false) (.ret)) (.skip))) (.seq (.region (a175R 3) false) (.seq (.region (a175R 4) false) (.seq (.seq (.region (a175R 5) false) (.cond (.v 6) (.seq (.region (a175R 6) true) (.region (a175R 7) false)) (.skip))) (.seq (.seq (.region (a175R 8) false) (.cond (.v 7) (.region (a175R 9) false) (.skip))) (.seq (.region (a175R 10) true) (.ret))))))))
def a68R:Nat → Unit → List AOper
| 0,_=>[oS 2 (.move (.n 0))]
| 1,_=>[mV 0,
oN (.len 0 (.l 0)),
mV 1,
oN (.len 0 (.l 2)),
oN (.call 80 [.l 1,.l 3]),
sL 3 4]
| 2,_=>[mV 3,
oS 6 (.bin .neq (.l 0) (.n 0))]
| 3,_=>[mV 3,
sL 2 0]
| 4,_=>[mV 0,
oN (.len 0 (.l 0)),
oN (.bin .sub (.l 1) (.n 1)),
sL 4 2]
| 5,_=>[mV 4,
oS 7 (.bin .geq (.l 0) (.n 0))]
| 6,_=>[mV 4,
oN (.bin .sub (.l 0) (.n 1)),
sL 4 1]
| 7,_=>[mV 0,
mV 4,
oN (.indexAddr 1 (.l 0) (.l 1)),
oN (.load false 1 (.l 2)),
mV 1,
mV 4,
oN (.indexAddr 1 (.l 4) (.l 5)),
oN (.load false 1 (.l 6)),
oN (.call 81 [.l 3,.l 7]),
sL 5 8]
| 8,_=>[mV 5,
oS 8 (.bin .neq (.l 0) (.n 0))]
| 9,_=>[mV 5,
sL 2 0]
| 10,_=>[oS 2 (.move (.n 0))]
| _,_=>[]
def a68b0:AIR:=.seq (.seq (.region (a68R 5) false) (.cond (.v 7) (.skip) (.exit 0))) (.seq (.block 1 (.seq (.region (a68R 7) true) (.seq (.region (a68R 8) false) (.cond (.v 8) (.seq (.region (a68R 9) false) (.ret)) (.skip))))) (.region (a68R 6) false))
def a68l0:AIR:=.loop true [0,1,2,3,4,6] a68b0
theorem a68l0_run:Lr a68l0 (value_of% a68l0):=fun _=>run_loop _ _ _ _
def a68:AFun:=.mk .iso 2 9 [.v 2] (.seq (.region (a68R 0) false) (.seq (.seq (.region (a68R 1) false) (.seq (.region (a68R 2) false) (.cond (.v 6) (.seq (.region (a68R 3) false) (.ret)) (.skip)))) (.seq (.seq (.region (a68R 4) false) (.block 0 (a68l0))) (.seq (.region (a68R 10) false) (.ret)))))
def a67R:Nat → Unit → List AOper
| 0,_=>[oS 2 (.move (.c (.isl [])))]
| 1,_=>[mV 0,
oN (.len 0 (.l 0)),
mV 1,
oN (.len 0 (.l 2)),
oS 7 (.bin .lss (.l 1) (.l 3))]
| 2,_=>[mV 1,
mV 0,
sL 0 0,
sL 1 1]
| 3,_=>[mV 0,
oN (.len 0 (.l 0)),
oN (.bin .add (.l 1) (.n 1)),
oN (.mkslice 1 4 (.int .u32 0) (.l 2) (.l 2)),
sL 3 3]
| 4,_=>[mV 3,
mV 0,
oN (.copy 1 (.l 0) (.l 1))]
| 5,_=>[oS 4 (.move (.c (.int .u32 0)))]
| 6,_=>[mV 0,
oS 8 (.len 0 (.l 0)),
oS 9 (.move (.n 0))]
| 7,_=>[oS 10 (.bin .lss (.v 9) (.v 8))]
| 8,_=>[mV 9,
sL 5 0]
| 9,_=>[oS 6 (.move (.c (.int .u32 0)))]
| 10,_=>[mV 5,
mV 1,
oN (.len 0 (.l 1)),
oS 11 (.bin .lss (.l 0) (.l 2))]
| 11,_=>[mV 1,
mV 5,
oN (.indexAddr 1 (.l 0) (.l 1)),
oN (.load false 1 (.l 2)),
sL 6 3]
| 12,_=>[mV 3,
mV 5,
mV 0,
mV 5,
oN (.indexAddr 1 (.l 2) (.l 3)),
oN (.load false 1 (.l 4)),
mV 6,
mV 4,
oN (.call 79 [.l 5,.l 6,.l 7]),
mL 8,
oN (.extract 0 (.l 9)),
oN (.extract 1 (.l 9)),
oN (.indexAddr 1 (.l 0) (.l 1)),
oN (.store 1 (.l 12) (.l 10)),
sL 4 11]
| 13,_=>[oN (.bin .add (.v 9) (.n 1)),
sL 9 0]
| 14,_=>[mV 3,
mV 0,
oN (.len 0 (.l 1)),
mV 4,
oN (.indexAddr 1 (.l 0) (.l 2)),
oN (.store 1 (.l 4) (.l 3))]
| 15,_=>[mV 3,
sL 2 0]
| _,_=>[]
def a67b0:AIR:=.seq (.region (a67R 7) false) (.seq (.cond (.v 10) (.skip) (.exit 0)) (.seq (.block 1 (.seq (.region (a67R 8) false) (.seq (.region (a67R 9) false) (.seq (.seq (.region (a67R 10) false) (.cond (.v 11) (.region (a67R 11) false) (.skip))) (.region (a67R 12) false))))) (.region (a67R 13) false)))
def a67l0:AIR:=.loop true [0,1,2,3,4,7,8,9] a67b0
theorem a67l0_run:Lr a67l0 (value_of% a67l0):=fun _=>run_loop _ _ _ _
def a67:AFun:=.mk .iso 2 12 [.v 2] (.seq (.region (a67R 0) false) (.seq (.seq (.region (a67R 1) false) (.cond (.v 7) (.region (a67R 2) false) (.skip))) (.seq (.region (a67R 3) false) (.seq (.region (a67R 4) false) (.seq (.region (a67R 5) false) (.seq (.seq (.region (a67R 6) false) (.block 0 (a67l0))) (.seq (.region (a67R 14) false) (.seq (.region (a67R 15) false) (.ret)))))))))
def a69R:Nat → Unit → List AOper
| 0,_=>[oS 2 (.move (.c (.isl [])))]
| 1,_=>[mV 0,
oN (.len 0 (.l 0)),
oN (.mkslice 1 4 (.int .u32 0) (.l 1) (.l 1)),
sL 3 2]
| 2,_=>[oS 4 (.move (.c (.int .u32 0)))]
| 3,_=>[mV 0,
oS 7 (.len 0 (.l 0)),
oS 8 (.move (.n 0))]
| 4,_=>[oS 9 (.bin .lss (.v 8) (.v 7))]
| 5,_=>[mV 8,
sL 5 0]
| 6,_=>[oS 6 (.move (.c (.int .u32 0)))]
| 7,_=>[mV 5,
mV 1,
oN (.len 0 (.l 1)),
oS 10 (.bin .lss (.l 0) (.l 2))]
| 8,_=>[mV 1,
mV 5,
oN (.indexAddr 1 (.l 0) (.l 1)),
oN (.load false 1 (.l 2)),
sL 6 3]
| 9,_=>[mV 3,
mV 5,
mV 0,
mV 5,
oN (.indexAddr 1 (.l 2) (.l 3)),
oN (.load false 1 (.l 4)),
mV 6,
mV 4,
oN (.call 82 [.l 5,.l 6,.l 7]),
mL 8,
oN (.extract 0 (.l 9)),
oN (.extract 1 (.l 9)),
oN (.indexAddr 1 (.l 0) (.l 1)),
oN (.store 1 (.l 12) (.l 10)),
sL 4 11]
| 10,_=>[oN (.bin .add (.v 8) (.n 1)),
sL 8 0]
| 11,_=>[mV 3,
sL 2 0]
| _,_=>[]
def a69b0:AIR:=.seq (.region (a69R 4) false) (.seq (.cond (.v 9) (.skip) (.exit 0)) (.seq (.block 1 (.seq (.region (a69R 5) false) (.seq (.region (a69R 6) false) (.seq (.seq (.region (a69R 7) false) (.cond (.v 10) (.region (a69R 8) false) (.skip))) (.region (a69R 9) false))))) (.region (a69R 10) false)))
def a69l0:AIR:=.loop true [0,1,2,3,4,7,8] a69b0
theorem a69l0_run:Lr a69l0 (value_of% a69l0):=fun _=>run_loop _ _ _ _
def a69:AFun:=.mk .iso 2 11 [.v 2] (.seq (.region (a69R 0) false) (.seq (.region (a69R 1) false) (.seq (.region (a69R 2) false) (.seq (.seq (.region (a69R 3) false) (.block 0 (a69l0))) (.seq (.region (a69R 11) false) (.ret))))))
def a176R:Nat → Unit → List AOper
| 0,_=>[oS 4 (.cn zI),
oS 2 (.move (.n 0))]
| 1,_=>[mV 0,
oN (.len 0 (.l 0)),
mV 1,
oN (.len 0 (.l 2)),
oS 3 (.bin .neq (.l 1) (.l 3))]
| 2,_=>[oN (.build [.bool false,.isl []] []),
oS 4 (.cs 2 (.v 4) (.l 0)),
oS 2 (.move (.n 50))]
| 3,_=>[mV 0,
mV 1,
oN (.call 184 [.l 0,.l 1]),
oS 4 (.cs 2 (.v 4) (.l 2)),
oS 2 (.move (.n 0))]
| _,_=>[]
def a176:AFun:=.mk .iso 2 5 [.c 4 true 2,.v 2] (.seq (.region (a176R 0) false) (.seq (.seq (.region (a176R 1) false) (.cond (.v 3) (.seq (.region (a176R 2) false) (.ret)) (.skip))) (.seq (.region (a176R 3) false) (.ret))))
def a177R:Nat → Unit → List AOper
| 0,_=>[oS 5 (.move (.c (.bool true)))]
| 1,_=>[oS 6 (.move (.c (.bool true)))]
| 2,_=>[mV 2,
mV 1,
oN (.bin .sub (.l 0) (.l 1)),
sL 7 2]
| 3,_=>[mV 7,
oS 16 (.bin .leq (.l 0) (.n 12))]
| 4,_=>[mV 0,
mV 1,
mV 2,
mV 4,
oN (.call 185 [.l 0,.l 1,.l 2,.l 3])]
| 5,_=>[mV 3,
oS 17 (.bin .eql (.l 0) (.n 0))]
| 6,_=>[mV 0,
mV 1,
mV 2,
mV 4,
oN (.call 186 [.l 0,.l 1,.l 2,.l 3])]
| 7,_=>[mV 5,
oS 18 (.un .not (.l 0))]
| 8,_=>[mV 0,
mV 1,
mV 2,
mV 4,
oN (.call 187 [.l 0,.l 1,.l 2,.l 3])]
| 9,_=>[mV 3,
oN (.bin .sub (.l 0) (.n 1)),
sL 3 1]
| 10,_=>[mV 0,
mV 1,
mV 2,
mV 4,
oN (.call 188 [.l 0,.l 1,.l 2,.l 3]),
mL 4,
oN (.extract 0 (.l 5)),
oN (.extract 1 (.l 5)),
sL 8 6,
sL 9 7]
| 11,_=>[mV 9,
oS 19 (.bin .eql (.l 0) (.n 2))]
| 12,_=>[mV 0,
mV 1,
mV 2,
mV 4,
oN (.call 189 [.l 0,.l 1,.l 2,.l 3])]
| 13,_=>[mV 2,
oN (.bin .sub (.l 0) (.n 1)),
mV 8,
mV 1,
oN (.bin .sub (.l 2) (.l 3)),
oN (.bin .sub (.l 1) (.l 4)),
sL 8 5]
| 14,_=>[oS 9 (.move (.n 1))]
| 15,_=>[mV 5,
mL 0,
oT 1 (.move (.v 6)),
oN (.pick (.l 1) (.l 2) (.c (.bool false))),
mL 3,
oT 4 (.move (.v 9)),
oT 4 (.bin .eql (.l 5) (.n 1)),
oS 20 (.pick (.l 4) (.l 6) (.c (.bool false)))]
| 16,_=>[mV 0,
mV 1,
mV 2,
mV 4,
oS 21 (.call 190 [.l 0,.l 1,.l 2,.l 3])]
| 17,_=>[mV 1,
oN (.bin .gtr (.l 0) (.n 0)),
mL 1,
oT 2 (.move (.v 4)),
oT 2 (.move (.v 0)),
oT 2 (.move (.v 1)),
oT 2 (.bin .sub (.l 5) (.n 1)),
oT 2 (.indexAddr 2 (.l 4) (.l 6)),
oT 2 (.load true 2 (.l 7)),
oT 2 (.move (.v 0)),
oT 2 (.move (.v 8)),
oT 2 (.indexAddr 2 (.l 9) (.l 10)),
oT 2 (.load true 2 (.l 11)),
oT 2 (.callv (.l 3) [.l 8,.l 12]),
oT 2 (.bin .lss (.l 13) (.n 0)),
oT 2 (.un .not (.l 14)),
oS 22 (.pick (.l 2) (.l 15) (.c (.bool false)))]
| 18,_=>[mV 0,
mV 1,
mV 2,
mV 8,
mV 4,
oN (.call 191 [.l 0,.l 1,.l 2,.l 3,.l 4]),
sL 10 5]
| 19,_=>[mV 10,
sL 1 0]
| 20,_=>[mV 0,
mV 1,
mV 2,
mV 8,
mV 4,
oN (.call 192 [.l 0,.l 1,.l 2,.l 3,.l 4]),
mL 5,
oN (.extract 0 (.l 6)),
oN (.extract 1 (.l 6)),
sL 11 7,
sL 12 8]
| 21,_=>[mV 12,
sL 6 0]
| 22,_=>[mV 11,
mV 1,
oN (.bin .sub (.l 0) (.l 1)),
mV 2,
mV 11,
oN (.bin .sub (.l 3) (.l 4)),
sL 13 2,
sL 14 5]
| 23,_=>[mV 7,
oN (.bin .quo (.l 0) (.n 8)),
sL 15 1]
| 24,_=>[mV 13,
mV 14,
oS 23 (.bin .lss (.l 0) (.l 1))]
| 25,_=>[mV 13,
mV 15,
oN (.bin .geq (.l 0) (.l 1)),
sL 5 2]
| 26,_=>[mV 0,
mV 1,
mV 11,
mV 3,
mV 4,
oN (.call 177 [.l 0,.l 1,.l 2,.l 3,.l 4])]
| 27,_=>[mV 11,
oN (.bin .add (.l 0) (.n 1)),
sL 1 1]
| 28,_=>[mV 14,
mV 15,
oN (.bin .geq (.l 0) (.l 1)),
sL 5 2]
| 29,_=>[mV 0,
mV 11,
oN (.bin .add (.l 1) (.n 1)),
mV 2,
mV 3,
mV 4,
oN (.call 177 [.l 0,.l 2,.l 3,.l 4,.l 5])]
| 30,_=>[mV 11,
sL 2 0]
| _,_=>[]
def a177b0:AIR:=.block 1 (.seq (.region (a177R 2) false) (.seq (.seq (.region (a177R 3) false) (.cond (.v 16) (.seq (.region (a177R 4) false) (.ret)) (.skip))) (.seq (.seq (.region (a177R 5) false) (.cond (.v 17) (.seq (.region (a177R 6) false) (.ret)) (.skip))) (.seq (.seq (.region (a177R 7) false) (.cond (.v 18) (.seq (.region (a177R 8) false) (.region (a177R 9) false)) (.skip))) (.seq (.region (a177R 10) false) (.seq (.seq (.region (a177R 11) false) (.cond (.v 19) (.seq (.region (a177R 12) false) (.seq (.region (a177R 13) false) (.region (a177R 14) false))) (.skip))) (.seq (.seq (.region (a177R 15) false) (.cond (.v 20) (.seq (.region (a177R 16) false) (.cond (.v 21) (.ret) (.skip))) (.skip))) (.seq (.seq (.region (a177R 17) true) (.cond (.v 22) (.seq (.region (a177R 18) false) (.seq (.region (a177R 19) false) (.exit 1))) (.skip))) (.seq (.region (a177R 20) false) (.seq (.region (a177R 21) false) (.seq (.region (a177R 22) false) (.seq (.region (a177R 23) false) (.seq (.region (a177R 24) false) (.cond (.v 23) (.seq (.region (a177R 25) false) (.seq (.region (a177R 26) false) (.region (a177R 27) false))) (.seq (.region (a177R 28) false) (.seq (.region (a177R 29) false) (.region (a177R 30) false)))))))))))))))))
def a177l0:AIR:=.loop false [0,1,2,3,4,5,6] a177b0
theorem a177l0_run:Lr a177l0 (value_of% a177l0):=fun _=>run_loop _ _ _ _
def a177:AFun:=.mk .keep 5 24 [] (.seq (.region (a177R 0) false) (.seq (.region (a177R 1) false) (.block 0 (a177l0))))
def a84R:Nat → Unit → List AOper
| 0,_=>[oS 1 (.move (.n 0))]
| 1,_=>[mV 0,
oN (.conv .u32 (.l 0)),
oN (.call 106 [.l 1]),
sL 1 2]
| 2,_=>[mV 0,
oN (.call 107 [.l 0]),
sL 1 1]
| _,_=>[]
def a84:AFun:=.mk .iso 1 2 [.v 1] (.seq (.region (a84R 0) false) (.seq (.cond (.c (.bool false)) (.seq (.region (a84R 1) false) (.ret)) (.skip)) (.seq (.region (a84R 2) false) (.ret))))
def a182R:Nat → Unit → List AOper
| 0,_=>[oS 2 (.move (.c (.isl []))),
oS 3 (.move (.c (.isl [])))]
| 1,_=>[mV 0,
mV 1,
oN (.call 68 [.l 0,.l 1]),
oN (.bin .lss (.l 2) (.n 0)),
sL 6 3]
| 2,_=>[mV 0,
oN (.call 194 [.l 0]),
oS 2 (.move (.c (.isl []))),
sL 3 1]
| 3,_=>[mV 1,
oN (.len 0 (.l 0)),
oN (.bin .eql (.l 1) (.n 1)),
sL 7 2]
| 4,_=>[mV 0,
mV 1,
oN (.indexAddr 1 (.l 1) (.n 0)),
oN (.load false 1 (.l 2)),
oN (.call 195 [.l 0,.l 3]),
mL 4,
oN (.extract 0 (.l 5)),
oN (.extract 1 (.l 5)),
sL 4 6,
sL 5 7]
| 5,_=>[mV 4,
mV 5,
oN (.bslice false 1 (.int .u32 0) 1 [(0,.l 1)]),
sL 2 0,
sL 3 2]
| 6,_=>[mV 0,
mV 1,
oN (.call 196 [.l 0,.l 1]),
oN (.extract 0 (.l 2)),
oN (.extract 1 (.l 2)),
sL 2 3,
sL 3 4]
| _,_=>[]
def a182:AFun:=.mk .iso 2 8 [.v 2,.v 3] (.seq (.region (a182R 0) false) (.seq (.block 0 (.seq (.region (a182R 1) false) (.cond (.v 6) (.seq (.region (a182R 2) false) (.ret)) (.seq (.region (a182R 3) false) (.cond (.v 7) (.seq (.region (a182R 4) false) (.seq (.region (a182R 5) false) (.ret))) (.skip)))))) (.seq (.region (a182R 6) false) (.ret))))
def a183R:Nat → Unit → List AOper
| 0,_=>[oS 1 (.cb (.v 0)),
oS 2 (.cn zI)]
| 1,_=>[oN (.ca (.v 1)),
oN (.field 0 0 false 1 (.v 1)),
oN (.un .not (.l 1)),
mL 2,
oT 3 (.ca (.v 1)),
oT 3 (.field 1 1 false 1 (.v 1)),
oT 3 (.len 0 (.l 5)),
oT 3 (.bin .gtr (.l 6) (.n 0)),
oN (.pick (.l 3) (.l 7) (.c (.bool false))),
oN (.ca (.v 1)),
oN (.field 1 1 false 1 (.v 1)),
oN (.build [.bool false,.isl []] [(0,.l 8),(1,.l 10)]),
oS 2 (.cs 2 (.v 2) (.l 11))]
| _,_=>[]
def a183:AFun:=.mk .iso 1 3 [.c 2 true 2] (.seq (.region (a183R 0) false) (.seq (.region (a183R 1) false) (.ret)))
def a80R:Nat → Unit → List AOper
| 0,_=>[oS 2 (.move (.n 0))]
| 1,_=>[mV 0,
oN (.call 95 [.l 0]),
sL 3 1]
| 2,_=>[mV 1,
oN (.call 95 [.l 0]),
sL 4 1]
| 3,_=>[oS 5 (.move (.v 3))]
| 4,_=>[oS 6 (.move (.v 4))]
| 5,_=>[oS 2 (.move (.n 0))]
| 6,_=>[oS 2 (.move (.n (-1)))]
| 7,_=>[oS 7 (.move (.v 4))]
| 8,_=>[oS 2 (.move (.n 1))]
| 9,_=>[mV 0,
mV 1,
oS 8 (.bin .lss (.l 0) (.l 1))]
| 10,_=>[oS 2 (.move (.n (-1)))]
| 11,_=>[mV 0,
mV 1,
oS 9 (.bin .gtr (.l 0) (.l 1))]
| 12,_=>[oS 2 (.move (.n 1))]
| 13,_=>[oS 2 (.move (.n 0))]
| _,_=>[]
def a80:AFun:=.mk .iso 2 10 [.v 2] (.seq (.region (a80R 0) false) (.seq (.region (a80R 1) false) (.seq (.region (a80R 2) false) (.seq (.seq (.region (a80R 3) false) (.cond (.v 5) (.seq (.seq (.region (a80R 4) false) (.cond (.v 6) (.seq (.region (a80R 5) false) (.ret)) (.skip))) (.seq (.region (a80R 6) false) (.ret))) (.skip))) (.seq (.seq (.region (a80R 7) false) (.cond (.v 7) (.seq (.region (a80R 8) false) (.ret)) (.skip))) (.seq (.seq (.region (a80R 9) false) (.cond (.v 8) (.seq (.region (a80R 10) false) (.ret)) (.skip))) (.seq (.seq (.region (a80R 11) false) (.cond (.v 9) (.seq (.region (a80R 12) false) (.ret)) (.skip))) (.seq (.region (a80R 13) false) (.ret)))))))))
def a81R:Nat → Unit → List AOper
| 0,_=>[oS 2 (.move (.n 0))]
| 1,_=>[mV 0,
oN (.call 96 [.l 0]),
sL 3 1]
| 2,_=>[mV 1,
oN (.call 96 [.l 0]),
sL 4 1]
| 3,_=>[oS 5 (.move (.v 3))]
| 4,_=>[oS 6 (.move (.v 4))]
| 5,_=>[oS 2 (.move (.n 0))]
| 6,_=>[oS 2 (.move (.n (-1)))]
| 7,_=>[oS 7 (.move (.v 4))]
| 8,_=>[oS 2 (.move (.n 1))]
| 9,_=>[mV 0,
mV 1,
oS 8 (.bin .lss (.l 0) (.l 1))]
| 10,_=>[oS 2 (.move (.n (-1)))]
| 11,_=>[mV 0,
mV 1,
oS 9 (.bin .gtr (.l 0) (.l 1))]
| 12,_=>[oS 2 (.move (.n 1))]
| 13,_=>[oS 2 (.move (.n 0))]
| _,_=>[]
def a81:AFun:=.mk .iso 2 10 [.v 2] (.seq (.region (a81R 0) false) (.seq (.region (a81R 1) false) (.seq (.region (a81R 2) false) (.seq (.seq (.region (a81R 3) false) (.cond (.v 5) (.seq (.seq (.region (a81R 4) false) (.cond (.v 6) (.seq (.region (a81R 5) false) (.ret)) (.skip))) (.seq (.region (a81R 6) false) (.ret))) (.skip))) (.seq (.seq (.region (a81R 7) false) (.cond (.v 7) (.seq (.region (a81R 8) false) (.ret)) (.skip))) (.seq (.seq (.region (a81R 9) false) (.cond (.v 8) (.seq (.region (a81R 10) false) (.ret)) (.skip))) (.seq (.seq (.region (a81R 11) false) (.cond (.v 9) (.seq (.region (a81R 12) false) (.ret)) (.skip))) (.seq (.region (a81R 13) false) (.ret)))))))))
def a79R:Nat → Unit → List AOper
| 0,_=>[oS 3 (.move (.c (.int .u32 0))),
oS 4 (.move (.c (.int .u32 0)))]
| 1,_=>[mV 0,
oN (.conv .u64 (.l 0)),
mV 1,
oN (.conv .u64 (.l 2)),
oN (.bin .add (.l 1) (.l 3)),
mV 2,
oN (.conv .u64 (.l 5)),
oN (.bin .add (.l 4) (.l 6)),
sL 5 7]
| 2,_=>[mV 5,
oN (.conv .u32 (.l 0)),
sL 3 1]
| 3,_=>[mV 5,
oN (.bin .shr (.l 0) (.c (.int .u64 32))),
oN (.conv .u32 (.l 1)),
sL 4 2]
| _,_=>[]
def a79:AFun:=.mk .iso 3 6 [.v 3,.v 4] (.seq (.region (a79R 0) false) (.seq (.region (a79R 1) false) (.seq (.region (a79R 2) false) (.seq (.region (a79R 3) false) (.ret)))))
def a82R:Nat → Unit → List AOper
| 0,_=>[oS 3 (.move (.c (.int .u32 0))),
oS 4 (.move (.c (.int .u32 0)))]
| 1,_=>[mV 0,
mV 1,
oN (.bin .sub (.l 0) (.l 1)),
mV 2,
oN (.bin .sub (.l 2) (.l 3)),
sL 3 4]
| 2,_=>[mV 0,
oN (.un .xor (.l 0)),
mV 1,
oN (.bin .and (.l 1) (.l 2)),
mV 0,
mV 1,
oN (.bin .xor (.l 4) (.l 5)),
oN (.un .xor (.l 6)),
mV 3,
oN (.bin .and (.l 7) (.l 8)),
oN (.bin .or (.l 3) (.l 9)),
oN (.bin .shr (.l 10) (.c (.int .u64 31))),
sL 4 11]
| _,_=>[]
def a82:AFun:=.mk .iso 3 5 [.v 3,.v 4] (.seq (.region (a82R 0) false) (.seq (.region (a82R 1) false) (.seq (.region (a82R 2) false) (.ret))))
def a184R:Nat → Unit → List AOper
| 0,_=>[oS 2 (.cn zI)]
| 1,_=>[mV 0,
mV 1,
oN (.build [.bool false,.isl []] []),
oN (.call 198 [.l 0,.l 1,.l 2,.f 197]),
oS 2 (.cs 2 (.v 2) (.l 3))]
| _,_=>[]
def a184:AFun:=.mk .iso 2 3 [.c 2 true 2] (.seq (.region (a184R 0) false) (.seq (.region (a184R 1) false) (.ret)))
def a185R:Nat → Unit → List AOper
| 0,_=>[mV 1,
oN (.bin .add (.l 0) (.n 1)),
sL 4 1]
| 1,_=>[mV 4,
mV 2,
oS 6 (.bin .lss (.l 0) (.l 1))]
| 2,_=>[mV 4,
oN (.bin .add (.l 0) (.n 1)),
sL 4 1]
| 3,_=>[mV 4,
sL 5 0]
| 4,_=>[mV 5,
mV 1,
oN (.bin .gtr (.l 0) (.l 1)),
mL 2,
oT 3 (.move (.v 3)),
oT 3 (.move (.v 0)),
oT 3 (.move (.v 5)),
oT 3 (.indexAddr 2 (.l 5) (.l 6)),
oT 3 (.load true 2 (.l 7)),
oT 3 (.move (.v 0)),
oT 3 (.move (.v 5)),
oT 3 (.bin .sub (.l 10) (.n 1)),
oT 3 (.indexAddr 2 (.l 9) (.l 11)),
oT 3 (.load true 2 (.l 12)),
oT 3 (.callv (.l 4) [.l 8,.l 13]),
oT 3 (.bin .lss (.l 14) (.n 0)),
oS 7 (.pick (.l 3) (.l 15) (.c (.bool false)))]
| 5,_=>[mV 5,
oN (.bin .sub (.l 0) (.n 1)),
sL 5 1]
| 6,_=>[mV 0,
mV 5,
mV 0,
mV 5,
oN (.bin .sub (.l 3) (.n 1)),
mV 0,
mV 5,
oN (.bin .sub (.l 6) (.n 1)),
oN (.indexAddr 2 (.l 5) (.l 7)),
oN (.load true 2 (.l 8)),
mV 0,
mV 5,
oN (.indexAddr 2 (.l 10) (.l 11)),
oN (.load true 2 (.l 12)),
oN (.indexAddr 2 (.l 0) (.l 1)),
oN (.store 2 (.l 14) (.l 9)),
oN (.indexAddr 2 (.l 2) (.l 4)),
oN (.store 2 (.l 16) (.l 13))]
| _,_=>[]
def a185b1:AIR:=.seq (.seq (.region (a185R 4) true) (.cond (.v 7) (.skip) (.exit 2))) (.seq (.block 3 (.region (a185R 6) true)) (.region (a185R 5) false))
def a185l1:AIR:=.loop false [0,1,2,3,4,5,6] a185b1
theorem a185l1_run:Lr a185l1 (value_of% a185l1):=fun _=>run_loop _ _ _ _
def a185b0:AIR:=.seq (.seq (.region (a185R 1) false) (.cond (.v 6) (.skip) (.exit 0))) (.seq (.block 1 (.seq (.region (a185R 3) false) (.block 2 (a185l1)))) (.region (a185R 2) false))
def a185l0:AIR:=.loop false [0,1,2,3,4] a185b0
theorem a185l0_run:Lr a185l0 (value_of% a185l0):=fun _=>run_loop _ _ _ _
def a185:AFun:=.mk .keep 4 8 [] (.seq (.region (a185R 0) false) (.block 0 (a185l0)))
def a107R:Nat → Unit → List AOper
| 0,_=>[oS 1 (.move (.n 0))]
| 1,_=>[mV 0,
oS 2 (.bin .geq (.l 0) (.c (.int .u64 4294967296)))]
| 2,_=>[mV 0,
oN (.bin .shr (.l 0) (.c (.int .u64 32))),
sL 0 1]
| 3,_=>[oS 1 (.move (.n 32))]
| 4,_=>[mV 0,
oS 3 (.bin .geq (.l 0) (.c (.int .u64 65536)))]
| 5,_=>[mV 0,
oN (.bin .shr (.l 0) (.c (.int .u64 16))),
sL 0 1]
| 6,_=>[mV 1,
oN (.bin .add (.l 0) (.n 16)),
sL 1 1]
| 7,_=>[mV 0,
oS 4 (.bin .geq (.l 0) (.c (.int .u64 256)))]
| 8,_=>[mV 0,
oN (.bin .shr (.l 0) (.c (.int .u64 8))),
sL 0 1]
| 9,_=>[mV 1,
oN (.bin .add (.l 0) (.n 8)),
sL 1 1]
| 10,_=>[mV 1,
mV 0,
oN (.conv .u8 (.l 1)),
oN (.indexStr (.c (.a (.string ⟨#[0,1,2,2,3,3,3,3,4,4,4,4,4,4,4,4,5,5,5,5,5,5,5,5,5,5,5,5,5,5,5,5,6,6,6,6,6,6,6,6,6,6,6,6,6,6,6,6,6,6,6,6,6,6,6,6,6,6,6,6,6,6,6,6,7,7,7,7,7,7,7,7,7,7,7,7,7,7,7,7,7,7,7,7,7,7,7,7,7,7,7,7,7,7,7,7,7,7,7,7,7,7,7,7,7,7,7,7,7,7,7,7,7,7,7,7,7,7,7,7,7,7,7,7,7,7,7,7,8,8,8,8,8,8,8,8,8,8,8,8,8,8,8,8,8,8,8,8,8,8,8,8,8,8,8,8,8,8,8,8,8,8,8,8,8,8,8,8,8,8,8,8,8,8,8,8,8,8,8,8,8,8,8,8,8,8,8,8,8,8,8,8,8,8,8,8,8,8,8,8,8,8,8,8,8,8,8,8,8,8,8,8,8,8,8,8,8,8,8,8,8,8,8,8,8,8,8,8,8,8,8,8,8,8,8,8,8,8,8,8,8,8,8,8,8,8,8,8,8,8,8,8,8,8,8,8]⟩))) (.l 2)),
oN (.conv .i64 (.l 3)),
oN (.bin .add (.l 0) (.l 4)),
sL 1 5]
| _,_=>[]
def a107:AFun:=.mk .iso 1 5 [.v 1] (.seq (.region (a107R 0) false) (.seq (.seq (.region (a107R 1) false) (.cond (.v 2) (.seq (.region (a107R 2) false) (.region (a107R 3) false)) (.skip))) (.seq (.seq (.region (a107R 4) false) (.cond (.v 3) (.seq (.region (a107R 5) false) (.region (a107R 6) false)) (.skip))) (.seq (.seq (.region (a107R 7) false) (.cond (.v 4) (.seq (.region (a107R 8) false) (.region (a107R 9) false)) (.skip))) (.seq (.region (a107R 10) false) (.ret))))))
def a202R:Nat → Unit → List AOper
| 0,_=>[oS 1 (.move (.c (.bool false)))]
| 1,_=>[mV 0,
oN (.bin .lss (.l 0) (.c (.int .u64 2))),
mL 1,
oF 2 (.move (.v 0)),
oF 2 (.bin .geq (.l 3) (.c (.int .u64 2147483648))),
oS 3 (.pick (.l 2) (.c (.bool true)) (.l 4))]
| 2,_=>[oS 1 (.move (.c (.bool false)))]
| 3,_=>[oS 4 (.build [.int .u64 0,.int .u64 0,.int .u64 0,.int .u64 0] [(0,.c (.int .u64 2)),(1,.c (.int .u64 3)),(2,.c (.int .u64 5)),(3,.c (.int .u64 7))]),
oS 5 (.move (.n 0))]
| 4,_=>[oS 6 (.bin .lss (.v 5) (.n 4))]
| 5,_=>[oN (.x2 (.idx 4 1 false) (.v 4) (.v 5)),
sL 2 0]
| 6,_=>[mV 0,
mV 2,
oN (.bin .eql (.l 0) (.l 1)),
sL 7 2]
| 7,_=>[oS 1 (.move (.c (.bool true)))]
| 8,_=>[mV 0,
mV 2,
oN (.bin .rem (.l 0) (.l 1)),
oN (.bin .eql (.l 2) (.c (.int .u64 0))),
sL 8 3]
| 9,_=>[oS 1 (.move (.c (.bool false)))]
| 10,_=>[mV 0,
mV 2,
oN (.call 206 [.l 0,.l 1]),
sL 9 2]
| 11,_=>[oS 1 (.move (.c (.bool false)))]
| 12,_=>[oN (.bin .add (.v 5) (.n 1)),
sL 5 0]
| 13,_=>[oS 1 (.move (.c (.bool true)))]
| _,_=>[]
def a202b0:AIR:=.seq (.region (a202R 4) false) (.seq (.cond (.v 6) (.skip) (.exit 0)) (.seq (.block 1 (.seq (.region (a202R 5) false) (.seq (.block 2 (.seq (.region (a202R 6) false) (.cond (.v 7) (.seq (.region (a202R 7) false) (.ret)) (.seq (.region (a202R 8) false) (.cond (.v 8) (.seq (.region (a202R 9) false) (.ret)) (.seq (.region (a202R 10) false) (.cond (.v 9) (.exit 1) (.skip)))))))) (.seq (.region (a202R 11) false) (.ret))))) (.region (a202R 12) false)))
def a202l0:AIR:=.loop true [0,1,3,4,5] a202b0
theorem a202l0_run:Lr a202l0 (value_of% a202l0):=fun _=>run_loop _ _ _ _
def a202:AFun:=.mk .iso 1 10 [.v 1] (.seq (.region (a202R 0) false) (.scope (.seq (.seq (.region (a202R 1) false) (.cond (.v 3) (.seq (.region (a202R 2) false) (.ret)) (.skip))) (.seq (.label 0) (.seq (.seq (.region (a202R 3) false) (.block 0 (a202l0))) (.seq (.region (a202R 13) false) (.ret)))))))
def a194R:Nat → Unit → List AOper
| 0,_=>[oS 1 (.move (.c (.isl [])))]
| 1,_=>[mV 0,
oS 2 (.x2 (.isnil false) (.l 0) (.c .nl))]
| 2,_=>[oS 1 (.move (.c (.isl [])))]
| 3,_=>[oN (.bslice true 1 (.int .u32 0) 0 []),
mV 0,
oN (.append 1 4 (.l 0) (.l 1)),
sL 1 2]
| _,_=>[]
def a194:AFun:=.mk .iso 1 3 [.v 1] (.seq (.region (a194R 0) false) (.seq (.seq (.region (a194R 1) false) (.cond (.v 2) (.seq (.region (a194R 2) false) (.ret)) (.skip))) (.seq (.region (a194R 3) false) (.ret))))
def a195R:Nat → Unit → List AOper
| 0,_=>[oS 2 (.move (.c (.isl []))),
oS 3 (.move (.c (.int .u32 0)))]
| 1,_=>[mV 0,
oN (.len 0 (.l 0)),
oN (.mkslice 1 4 (.int .u32 0) (.l 1) (.l 1)),
sL 4 2]
| 2,_=>[oS 5 (.move (.c (.int .u64 0)))]
| 3,_=>[mV 0,
oN (.len 0 (.l 0)),
oN (.bin .sub (.l 1) (.n 1)),
sL 6 2]
| 4,_=>[mV 6,
oS 7 (.bin .geq (.l 0) (.n 0))]
| 5,_=>[mV 6,
oN (.bin .sub (.l 0) (.n 1)),
sL 6 1]
| 6,_=>[mV 5,
oN (.bin .shl (.l 0) (.c (.int .u64 32))),
mV 0,
mV 6,
oN (.indexAddr 1 (.l 2) (.l 3)),
oN (.load false 1 (.l 4)),
oN (.conv .u64 (.l 5)),
oN (.bin .or (.l 1) (.l 6)),
sL 5 7]
| 7,_=>[mV 4,
mV 6,
mV 5,
mV 1,
oN (.conv .u64 (.l 3)),
oN (.bin .quo (.l 2) (.l 4)),
oN (.conv .u32 (.l 5)),
oN (.indexAddr 1 (.l 0) (.l 1)),
oN (.store 1 (.l 7) (.l 6))]
| 8,_=>[mV 5,
mV 1,
oN (.conv .u64 (.l 1)),
oN (.bin .rem (.l 0) (.l 2)),
sL 5 3]
| 9,_=>[mV 4,
mV 5,
oN (.conv .u32 (.l 1)),
sL 2 0,
sL 3 2]
| _,_=>[]
def a195b0:AIR:=.seq (.seq (.region (a195R 4) false) (.cond (.v 7) (.skip) (.exit 0))) (.seq (.block 1 (.seq (.region (a195R 6) false) (.seq (.region (a195R 7) false) (.region (a195R 8) false)))) (.region (a195R 5) false))
def a195l0:AIR:=.loop true [0,1,2,3,4,5,6] a195b0
theorem a195l0_run:Lr a195l0 (value_of% a195l0):=fun _=>run_loop _ _ _ _
def a195:AFun:=.mk .iso 2 8 [.v 2,.v 3] (.seq (.region (a195R 0) false) (.seq (.region (a195R 1) false) (.seq (.region (a195R 2) false) (.seq (.seq (.region (a195R 3) false) (.block 0 (a195l0))) (.seq (.region (a195R 9) false) (.ret))))))
def a95R:Nat → Unit → List AOper
| 0,_=>[oS 1 (.move (.c (.bool false)))]
| 1,_=>[mV 0,
mV 0,
oN (.bin .neq (.l 0) (.l 1)),
sL 1 2]
| _,_=>[]
def a95:AFun:=.mk .iso 1 2 [.v 1] (.seq (.region (a95R 0) false) (.seq (.region (a95R 1) false) (.ret)))
def a96R:Nat → Unit → List AOper
| 0,_=>[oS 1 (.move (.c (.bool false)))]
| 1,_=>[mV 0,
mV 0,
oN (.bin .neq (.l 0) (.l 1)),
sL 1 2]
| _,_=>[]
def a96:AFun:=.mk .iso 1 2 [.v 1] (.seq (.region (a96R 0) false) (.seq (.region (a96R 1) false) (.ret)))
def a198R:Nat → Unit → List AOper
| 0,_=>[oS 8 (.cb (.v 2)),
oS 9 (.cn zI)]
| 1,_=>[mV 0,
oS 5 (.len 0 (.l 0)),
oS 6 (.move (.n 0))]
| 2,_=>[oS 7 (.bin .lss (.v 6) (.v 5))]
| 3,_=>[mV 6,
sL 4 0]
| 4,_=>[mV 3,
oN (.cl true 2 (.v 8)),
mV 0,
mV 4,
oN (.indexAddr 2 (.l 2) (.l 3)),
oN (.load true 2 (.l 4)),
mV 1,
mV 4,
oN (.indexAddr 2 (.l 6) (.l 7)),
oN (.load true 2 (.l 8)),
oN (.callv (.l 0) [.l 1,.l 5,.l 9]),
oS 8 (.cs 2 (.v 8) (.l 10))]
| 5,_=>[oN (.bin .add (.v 6) (.n 1)),
sL 6 0]
| 6,_=>[oN (.cl true 2 (.v 8)),
oS 9 (.cs 2 (.v 9) (.l 0))]
| _,_=>[]
def a198b0:AIR:=.seq (.region (a198R 2) false) (.seq (.cond (.v 7) (.skip) (.exit 0)) (.seq (.block 1 (.seq (.region (a198R 3) false) (.region (a198R 4) true))) (.region (a198R 5) false)))
def a198l0:AIR:=.loop true [0,1,2,3,5,6,8,9] a198b0
theorem a198l0_run:Lr a198l0 (value_of% a198l0):=fun _=>run_loop _ _ _ _
def a198:AFun:=.mk .iso 4 10 [.c 9 true 2] (.seq (.region (a198R 0) false) (.seq (.seq (.region (a198R 1) false) (.block 0 (a198l0))) (.seq (.region (a198R 6) false) (.ret))))
def a197R:Nat → Unit → List AOper
| 0,_=>[oS 4 (.cb (.v 0)),
oS 5 (.cb (.v 1)),
oS 6 (.cb (.v 2)),
oS 7 (.cn zI)]
| 1,_=>[oN (.cl true 2 (.v 5)),
oN (.call 48 [.l 0]),
oN (.bin .eql (.l 1) (.n 0)),
mL 2,
oF 3 (.cl true 2 (.v 6)),
oF 3 (.call 48 [.l 4]),
oF 3 (.bin .eql (.l 5) (.n 0)),
oS 3 (.pick (.l 3) (.c (.bool true)) (.l 6))]
| 2,_=>[oN (.cl true 2 (.v 4)),
oS 7 (.cs 2 (.v 7) (.l 0))]
| 3,_=>[oN (.cl true 2 (.v 4)),
oN (.cl true 2 (.v 5)),
oN (.cl true 2 (.v 6)),
oN (.call 32 [.l 1,.l 2]),
oN (.call 53 [.l 0,.l 3]),
oS 7 (.cs 2 (.v 7) (.l 4))]
| _,_=>[]
def a197:AFun:=.mk .iso 3 8 [.c 7 true 2] (.seq (.region (a197R 0) false) (.seq (.seq (.region (a197R 1) false) (.cond (.v 3) (.seq (.region (a197R 2) false) (.ret)) (.skip))) (.seq (.region (a197R 3) true) (.ret))))
def a206R:Nat → Unit → List AOper
| 0,_=>[oS 2 (.move (.c (.bool false)))]
| 1,_=>[mV 0,
oN (.bin .sub (.l 0) (.c (.int .u64 1))),
oN (.call 207 [.l 1]),
sL 3 2]
| 2,_=>[mV 0,
mV 1,
mV 0,
oN (.bin .rem (.l 1) (.l 2)),
mV 0,
oN (.bin .sub (.l 4) (.c (.int .u64 1))),
mV 3,
oN (.bin .shr (.l 5) (.l 6)),
oN (.call 208 [.l 0,.l 3,.l 7]),
sL 4 8]
| 3,_=>[mV 4,
oN (.bin .eql (.l 0) (.c (.int .u64 1))),
mL 1,
oF 2 (.move (.v 4)),
oF 2 (.move (.v 0)),
oF 2 (.bin .sub (.l 4) (.c (.int .u64 1))),
oF 2 (.bin .eql (.l 3) (.l 5)),
oS 5 (.pick (.l 2) (.c (.bool true)) (.l 6))]
| 4,_=>[oS 2 (.move (.c (.bool true)))]
| 5,_=>[mV 3,
oS 6 (.bin .sub (.l 0) (.n 1)),
oS 7 (.move (.n 0))]
| 6,_=>[oS 8 (.bin .lss (.v 7) (.v 6))]
| 7,_=>[mV 0,
mV 4,
mV 4,
oN (.call 209 [.l 0,.l 1,.l 2]),
sL 4 3]
| 8,_=>[mV 4,
mV 0,
oN (.bin .sub (.l 1) (.c (.int .u64 1))),
oS 9 (.bin .eql (.l 0) (.l 2))]
| 9,_=>[oS 2 (.move (.c (.bool true)))]
| 10,_=>[oN (.bin .add (.v 7) (.n 1)),
sL 7 0]
| 11,_=>[oS 2 (.move (.c (.bool false)))]
| _,_=>[]
def a206b0:AIR:=.seq (.region (a206R 6) false) (.seq (.cond (.v 8) (.skip) (.exit 0)) (.seq (.block 1 (.seq (.region (a206R 7) false) (.seq (.region (a206R 8) false) (.cond (.v 9) (.seq (.region (a206R 9) false) (.ret)) (.skip))))) (.region (a206R 10) false)))
def a206l0:AIR:=.loop true [0,1,2,3,4,5,6,7] a206b0
theorem a206l0_run:Lr a206l0 (value_of% a206l0):=fun _=>run_loop _ _ _ _
def a206:AFun:=.mk .iso 2 10 [.v 2] (.seq (.region (a206R 0) false) (.seq (.region (a206R 1) false) (.seq (.region (a206R 2) true) (.seq (.seq (.region (a206R 3) false) (.cond (.v 5) (.seq (.region (a206R 4) false) (.ret)) (.skip))) (.seq (.seq (.region (a206R 5) false) (.block 0 (a206l0))) (.seq (.region (a206R 11) false) (.ret)))))))
def a208R:Nat → Unit → List AOper
| 0,_=>[oS 3 (.move (.c (.int .u64 0)))]
| 1,_=>[mV 0,
oN (.bin .rem (.c (.int .u64 1)) (.l 0)),
sL 4 1]
| 2,_=>[mV 2,
oS 5 (.bin .gtr (.l 0) (.c (.int .u64 0)))]
| 3,_=>[mV 2,
oN (.bin .shr (.l 0) (.c (.int .u64 1))),
sL 2 1]
| 4,_=>[mV 2,
oN (.bin .and (.l 0) (.c (.int .u64 1))),
oS 6 (.bin .eql (.l 1) (.c (.int .u64 1)))]
| 5,_=>[mV 0,
mV 4,
mV 1,
oN (.call 209 [.l 0,.l 1,.l 2]),
sL 4 3]
| 6,_=>[mV 0,
mV 1,
mV 1,
oN (.call 209 [.l 0,.l 1,.l 2]),
sL 1 3]
| 7,_=>[mV 4,
sL 3 0]
| _,_=>[]
def a208b0:AIR:=.seq (.seq (.region (a208R 2) false) (.cond (.v 5) (.skip) (.exit 0))) (.seq (.block 1 (.seq (.seq (.region (a208R 4) false) (.cond (.v 6) (.region (a208R 5) false) (.skip))) (.region (a208R 6) false))) (.region (a208R 3) false))
def a208l0:AIR:=.loop true [0,1,2,3,4] a208b0
theorem a208l0_run:Lr a208l0 (value_of% a208l0):=fun _=>run_loop _ _ _ _
def a208:AFun:=.mk .iso 3 7 [.v 3] (.seq (.region (a208R 0) false) (.seq (.region (a208R 1) false) (.seq (.block 0 (a208l0)) (.seq (.region (a208R 7) false) (.ret)))))
def a209R:Nat → Unit → List AOper
| 0,_=>[oS 3 (.move (.c (.int .u64 0)))]
| 1,_=>[mV 1,
mV 2,
oN (.bin .mul (.l 0) (.l 1)),
mV 0,
oN (.bin .rem (.l 2) (.l 3)),
sL 3 4]
| _,_=>[]
def a209:AFun:=.mk .iso 3 4 [.v 3] (.seq (.region (a209R 0) false) (.seq (.region (a209R 1) false) (.ret)))
end Tor
namespace Tor
open Go
def GP:Nat → Option AFun
  | 14=>some a14
  | 32=>some a32
  | 37=>some a37
  | 38=>some a38
  | 41=>some a41
  | 43=>some a43
  | 48=>some a48
  | 49=>some a49
  | 53=>some a53
  | 54=>some a54
  | 57=>some a57
  | 63=>some a63
  | 64=>some a64
  | 67=>some a67
  | 68=>some a68
  | 69=>some a69
  | 79=>some a79
  | 80=>some a80
  | 81=>some a81
  | 82=>some a82
  | 84=>some a84
  | 88=>some a88
  | 95=>some a95
  | 96=>some a96
  | 106=>some a106
  | 107=>some a107
  | 111=>some a111
  | 130=>some a130
  | 131=>some a131
  | 132=>some a132
  | 134=>some a134
  | 135=>some a135
  | 139=>some a139
  | 143=>some a143
  | 145=>some a145
  | 149=>some a149
  | 154=>some a154
  | 156=>some a156
  | 157=>some a157
  | 159=>some a159
  | 160=>some a160
  | 164=>some a164
  | 165=>some a165
  | 167=>some a167
  | 168=>some a168
  | 169=>some a169
  | 170=>some a170
  | 171=>some a171
  | 175=>some a175
  | 176=>some a176
  | 177=>some a177
  | 182=>some a182
  | 183=>some a183
  | 184=>some a184
  | 185=>some a185
  | 194=>some a194
  | 195=>some a195
  | 197=>some a197
  | 198=>some a198
  | 202=>some a202
  | 206=>some a206
  | 208=>some a208
  | 209=>some a209
  | _=>none
end Tor
namespace Tor
open Go
theorem objGet_e1 {g p x}:objGet (.var x) (g) (p) =
  (if g = 0 then nav x p else none):=rfl
theorem objGet_e2 {g g' i l off p sz}:objGet (.arr g' sz l) (g) ((i,off) :: p) =
  (if g = g' ∧ off = i * sz then (match l[i]? with | some y=>nav y p | none=>none) else none):=rfl
theorem objSet_e1 {g p x y}:objSet (.var x) (g) (p) (y) =
  (if g = 0 then (match upd x p y with | some x'=>some (.var x') | none=>none) else none):=rfl
theorem objSet_e2 {g g' i l off p sz y}:objSet (.arr g' sz l) (g) ((i,off) :: p) (y) =
  (if g = g' ∧ off = i * sz then (match l[i]? with
      | some z=>(match upd z p y with | some z'=>some (.arr g' sz (l.set i z')) | none=>none)
      | none=>none) else none):=rfl
theorem elems_e1 {H l}:elems H (.isl l) =
  (some l):=rfl
theorem elems_e2 {H}:elems H (.nl) =
  (some []):=rfl
theorem elems_e3 {H g len o st sz}:elems H (.sl o g sz st len) =
  (match H[o]? with
    | some (.arr g' sz' l)=>if g = g' ∧ sz = sz' ∧ st + len ≤ l.length then some ((l.drop st).take len) else none
    | _=>none):=rfl
theorem ev_e1 {L vars i}:ev L vars (.l i) =
  (L.getD i .u):=rfl
theorem ev_e2 {L vars k}:ev L vars (.v k) =
  (vars.getD k .u):=rfl
theorem ev_e3 {L vars x}:ev L vars (.c x) =
  (x):=rfl
theorem ev_e4 {L vars g}:ev L vars (.f g) =
  (.fn g []):=rfl
theorem headSize_e1 {sz}:headSize sz ([]) =
  (true):=rfl
theorem headSize_e2 {sz w1 x}:headSize sz (x :: w1) =
  (x.size == sz):=rfl
theorem bound_e1 {d}:bound (none) (d) =
  (some d):=rfl
theorem bound_e2 {n w1 w2}:bound (some (.int w1 n)) (w2) =
  (some n):=rfl
theorem ret_e1 {st x}:ret st (some x) =
  (some (x,st)):=rfl
theorem ret_e2 {st}:ret st (none) =
  (none):=rfl
theorem eff_e1 {st H b x}:eff st (some (x,H,b)) =
  (some (x,{ vars:=st.vars,heap:=H,rs:=st.rs || b })):=rfl
theorem eff_e2 {st}:eff st (none) =
  (none):=rfl
theorem doPick_e1 {w1 x}:doPick (.bool true) (x) (w1) =
  (some x):=rfl
theorem doPick_e2 {w1 y}:doPick (.bool false) (w1) (y) =
  (some y):=rfl
theorem doBuild_e1 {l}:doBuild (some l) =
  (some (.agg l)):=rfl
theorem doBuild_e2:doBuild (none) =
  (none):=rfl
theorem doBslice_e1 {mt sz n H l}:doBslice mt sz n H (some l) =
  (if mt then some (.sl H.length 0 sz 0 n,H ++ [.arr 0 sz l],AV.hasRefs l)
    else if AV.hasRefs l then none else some (.isl l,H,false)):=rfl
theorem doBslice_e2 {mt sz n H}:doBslice mt sz n H (none) =
  (none):=rfl
theorem fits_e1 {ag sz y}:fits ag sz (some y) =
  (if y.size = sz ∧ y.isA = ag then some y else none):=rfl
theorem fits_e2 {ag sz}:fits ag sz (none) =
  (none):=rfl
theorem doLoad_e1 {ag sz H y}:doLoad ag sz H (.iptr y) =
  (fits ag sz (some y)):=rfl
theorem doLoad_e2 {ag sz H g o p}:doLoad ag sz H (.ptr o g p) =
  (fits ag sz (getIn g p H[o]?)):=rfl
theorem put_e1 {H o b ob}:put H o b (some ob) =
  (some (nothing,H.set o ob,b)):=rfl
theorem put_e2 {H o b}:put H o b (none) =
  (none):=rfl
theorem doStore_e1 {sz H g o p y}:doStore sz H (.ptr o g p) (y) =
  (if y.known ∧ y.size = sz then put H o y.hasRef (setIn g p y H[o]?) else none):=rfl
theorem doNilCheck_e1 {y}:doNilCheck (.iptr y) =
  (some (.iptr y)):=rfl
theorem doNilCheck_e2 {g o p}:doNilCheck (.ptr o g p) =
  (some (.ptr o g p)):=rfl
theorem doNilCheck_e3 {f l}:doNilCheck (.fn f l) =
  (some (.fn f l)):=rfl
theorem doConv_e1 {k n w1}:doConv k (.int w1 n) =
  (some (.int k (k.wrap n))):=rfl
theorem doMkslice_e1 {sz bytes z H c n}:doMkslice sz bytes z H (.int .i64 n) (.int .i64 c) =
  (if 0 ≤ n ∧ n ≤ c ∧ c ≤ maxLenA ∧ bytes ≤ 4096 ∧ z.size = sz ∧ z.hasRef = false then
      some (.sl H.length 0 sz 0 n.toNat,H ++ [.arr 0 sz (List.replicate n.toNat z)],false)
    else none):=rfl
theorem sliceIn_e1 {n i j k}:sliceIn n (some i) (some j) (some k) =
  (if 0 ≤ i ∧ i ≤ j ∧ j ≤ k ∧ k ≤ n then some (i.toNat,j.toNat) else none):=rfl
theorem cutI_e1 {l i j}:cutI l (some (i,j)) =
  (some (.isl ((l.take j).drop i))):=rfl
theorem cutI_e2 {l}:cutI l (none) =
  (none):=rfl
theorem cutS_e1 {o g sz s i j}:cutS o g sz s (some (i,j)) =
  (some (.sl o g sz (s + i) (j - i))):=rfl
theorem cutS_e2 {o g sz s}:cutS o g sz s (none) =
  (none):=rfl
theorem doSlice_e1 {sz lo hi mx l}:doSlice sz lo hi mx (.isl l) =
  (if headSize sz l = true then cutI l (sliceIn l.length (bound lo 0) (bound hi l.length) (bound mx l.length)) else none):=rfl
theorem doSlice_e2 {sz lo hi mx g len o s sz'}:doSlice sz lo hi mx (.sl o g sz' s len) =
  (if sz' = sz then cutS o g sz' s (sliceIn len (bound lo 0) (bound hi len) (bound mx len)) else none):=rfl
theorem doSlice0_e1 {sz H w1}:doSlice0 sz H (.isl w1) =
  (some (.sl H.length 0 sz 0 0,H ++ [.arr 0 sz []],false)):=rfl
theorem doSlice0_e2 {sz H w1 w2 w3 w4 w5}:doSlice0 sz H (.sl w1 w2 w3 w4 w5) =
  (some (.sl H.length 0 sz 0 0,H ++ [.arr 0 sz []],false)):=rfl
theorem doSlice0_e3 {sz H}:doSlice0 sz H (.nl) =
  (some (.sl H.length 0 sz 0 0,H ++ [.arr 0 sz []],false)):=rfl
theorem toIptr_e1 {y}:toIptr (some y) =
  (some (.iptr y)):=rfl
theorem toIptr_e2:toIptr (none) =
  (none):=rfl
theorem doFieldAddr_e1 {i off l}:doFieldAddr i off (.iptr (.agg l)) =
  (if AV.sizes (l.take i) = off then toIptr l[i]? else none):=rfl
theorem doFieldAddr_e2 {i off g o p}:doFieldAddr i off (.ptr o g p) =
  (some (.ptr o g (p ++ [(i,off)]))):=rfl
theorem doField_e1 {i off ag sz l}:doField i off ag sz (.agg l) =
  (if AV.sizes (l.take i) = off then fits ag sz l[i]? else none):=rfl
theorem iptrOf_e1 {sz y}:iptrOf sz (some y) =
  (if y.size = sz then some (.iptr y) else none):=rfl
theorem iptrOf_e2 {sz}:iptrOf sz (none) =
  (none):=rfl
theorem doIndexAddr_e1 {sz l n w1}:doIndexAddr sz (.isl l) (.int w1 n) =
  (if 0 ≤ n then iptrOf sz l[n.toNat]? else none):=rfl
theorem doIndexAddr_e2 {sz g len n o s sz' w1}:doIndexAddr sz (.sl o g sz' s len) (.int w1 n) =
  (if 0 ≤ n ∧ n < len ∧ sz = sz' then some (.ptr o g [(s + n.toNat,(s + n.toNat) * sz)]) else none):=rfl
theorem doIndexArr_e1 {m sz l n w1}:doIndexArr m sz (.iptr (.agg l)) (.int w1 n) =
  (if 0 ≤ n ∧ n < m ∧ AV.sizes (l.take n.toNat) = n.toNat * sz then iptrOf sz l[n.toNat]? else none):=rfl
theorem doIndexArr_e2 {m sz g n o p w1}:doIndexArr m sz (.ptr o g p) (.int w1 n) =
  (if 0 ≤ n ∧ n < m then some (.ptr o g (p ++ [(n.toNat,n.toNat * sz)])) else none):=rfl
theorem byteOf_e1 {b}:byteOf (some b) =
  (some (.int .u8 b.toNat)):=rfl
theorem byteOf_e2:byteOf (none) =
  (none):=rfl
theorem doIndexStr_e1 {n s w1}:doIndexStr (.a (.string s)) (.int w1 n) =
  (if 0 ≤ n then byteOf s[n.toNat]? else none):=rfl
theorem orElse_e1 {z ok y}:orElse z ok (some y) =
  (if ok then .tup [y,.bool true] else y):=rfl
theorem orElse_e2 {z ok}:orElse z ok (none) =
  (if ok then .tup [z,.bool false] else z):=rfl
theorem lookIn_e1 {z ok n kvs}:lookIn z ok n (some (.map kvs)) =
  (some (orElse z ok (mfind n kvs))):=rfl
theorem doLookup_e1 {z ok H n o}:doLookup z ok H (.mp o) (.int .i64 n) =
  (lookIn z ok n H[o]?):=rfl
theorem mupdIn_e1 {n y kvs}:mupdIn n y (some (.map kvs)) =
  (some (.map (mset n y kvs))):=rfl
theorem doMupd_e1 {H n o y}:doMupd H (.mp o) (.int .i64 n) (y) =
  (if y.known then put H o y.hasRef (mupdIn n y H[o]?) else none):=rfl
theorem mdelIn_e1 {n kvs}:mdelIn n (some (.map kvs)) =
  (some (.map (mdel n kvs))):=rfl
theorem doMdel_e1 {H n o}:doMdel H (.mp o) (.int .i64 n) =
  (put H o false (mdelIn n H[o]?)):=rfl
theorem mlen_e1 {kvs}:mlen (some (.map kvs)) =
  (some (.int .i64 kvs.length)):=rfl
theorem doLen_e1 {H l}:doLen H (0) (.isl l) =
  (some (.int .i64 l.length)):=rfl
theorem doLen_e2 {H}:doLen H (0) (.nl) =
  (some (.int .i64 0)):=rfl
theorem doLen_e3 {H len w1 w2 w3 w4}:doLen H (0) (.sl w1 w2 w3 w4 len) =
  (some (.int .i64 len)):=rfl
theorem doLen_e4 {H o}:doLen H (1) (.mp o) =
  (mlen H[o]?):=rfl
theorem doLen_e5 {H s}:doLen H (2) (.a (.string s)) =
  (some (.int .i64 s.size)):=rfl
theorem appTo_e1 {sz bytes H o g sz' s len g' l l2 sz''}:appTo sz bytes H o g sz' s len (some (.arr g' sz'' l)) (some l2) =
  (if g = g' ∧ sz' = sz ∧ sz'' = sz ∧ s + len = l.length ∧ bytes ≤ 4096 ∧ headSize sz l2 = true ∧ len + l2.length ≤ maxLenA then
      some (.sl o (g + 1) sz 0 (len + l2.length),H.set o (.arr (g + 1) sz (l.drop s ++ l2)),AV.hasRefs l2)
    else appIn sz bytes H o g sz' s len g' sz'' l l2):=rfl
theorem appNil_e1 {sz bytes H l2}:appNil sz bytes H (some l2) =
  (if bytes ≤ 4096 ∧ headSize sz l2 = true ∧ l2.length ≤ maxLenA then
      some (.sl H.length 0 sz 0 l2.length,H ++ [.arr 0 sz l2],AV.hasRefs l2) else none):=rfl
theorem appNil_e2 {sz bytes H}:appNil sz bytes H (none) =
  (none):=rfl
theorem doAppend_e1 {sz bytes H g len o s sz' y}:doAppend sz bytes H (.sl o g sz' s len) (y) =
  (appTo sz bytes H o g sz' s len H[o]? (elems H y)):=rfl
theorem doAppend_e2 {sz bytes H y}:doAppend sz bytes H (.nl) (y) =
  (appNil sz bytes H (elems H y)):=rfl
theorem copyTo_e1 {sz H o g sz' s len g' l l2 sz''}:copyTo sz H o g sz' s len (some (.arr g' sz'' l)) (some l2) =
  (if g = g' ∧ sz' = sz ∧ sz'' = sz ∧ s + len ≤ l.length ∧ headSize sz l2 = true then
      some (.int .i64 (Nat.min l2.length len:Nat),H.set o (.arr g sz (l.take s ++ l2.take len ++ l.drop (s + Nat.min l2.length len))),AV.hasRefs l2)
    else none):=rfl
theorem doCopy_e1 {sz H g len o s sz' y}:doCopy sz H (.sl o g sz' s len) (y) =
  (copyTo sz H o g sz' s len H[o]? (elems H y)):=rfl
theorem doExtract_e1 {i l}:doExtract i (.tup l) =
  (l[i]?):=rfl
theorem doCallv_e1 {C H args caps g}:doCallv C H args (.fn g caps) =
  (C g (args ++ caps) H):=rfl
theorem doX_e1 {m sz ag l k n}:doX (.idx m sz ag) (.agg l) (.int k n) = (if 0 ≤ n ∧ n < m ∧ AV.sizes (l.take n.toNat) = n.toNat * sz then fits ag sz l[n.toNat]? else none):=rfl
theorem doX_e2 {ne}:doX (.isnil ne) .nl .nl = some (.bool (!ne)):=rfl
theorem doX_e3 {ne x l}:doX (.isnil ne) (.isl (x :: l)) .nl = some (.bool ne):=rfl
theorem doX_e4 {ne o g sz st n}:doX (.isnil ne) (.sl o g sz st (n + 1)) .nl = some (.bool ne):=rfl
theorem doCallp_e1 {C gs H args caps g}:doCallp C gs H args (.fn g caps) =
  (if memN g gs then C g (args ++ caps) H else none):=rfl
theorem memN_e1 {g}:memN g [] = false:=rfl
theorem memN_e2 {g x r}:memN g (x :: r) = if g = x then true else memN g r:=rfl
theorem wantsK_e1 {b c}:wantsK b (.bool c) =
  (some (c == b)):=rfl
theorem wantsK_e2 {b}:wantsK b (.tup []) =
  (some false):=rfl
theorem wants_e1 {L}:wants L (none) =
  (some true):=rfl
theorem wants_e2 {L b j}:wants L (some (j,b)) =
  (wantsK b (L.getD j .u)):=rfl
theorem setVar_e1 {st w1}:setVar st (none) (w1) =
  (st):=rfl
theorem setVar_e2 {st k x}:setVar st (some k) (x) =
  ({ vars:=st.vars.set k x,heap:=st.heap,rs:=st.rs }):=rfl
theorem regionK_e1 {st}:regionK (some st) =
  (some (.normal,st)):=rfl
theorem regionK_e2:regionK (none) =
  (none):=rfl
theorem blockK_e1 {id j st}:blockK id (some (.exit j,st)) =
  (if j = id then some (.normal,st) else some (.exit j,st)):=rfl
theorem blockK_e2 {id st}:blockK id (some (.normal,st)) =
  (some (.normal,st)):=rfl
theorem blockK_e3 {id st}:blockK id (some (.ret,st)) =
  (some (.ret,st)):=rfl
theorem blockK_e4 {id}:blockK id (none) =
  (none):=rfl
theorem resOf_e1 {H vars k}:resOf H vars (.v k) =
  (some (vars.getD k .u)):=rfl
theorem resOf_e2 {H vars ag k sz}:resOf H vars (.cell k ag sz) =
  (doLoad ag sz H (vars.getD k .u)):=rfl
theorem resOf_e3 {H vars ag k sz}:resOf H vars (.c k ag sz) =
  (doCl ag sz (vars.getD k .u)):=rfl
theorem consO_e1 {x xs}:consO (some x) (some xs) =
  (some (x :: xs)):=rfl
theorem oneOf_e1 {x}:oneOf (some [x]) =
  (some x):=rfl
theorem oneOf_e2:oneOf (some []) =
  (some (.tup [])):=rfl
theorem oneOf_e3 {l x y}:oneOf (some (x :: y :: l)) =
  (tupOf (x :: y :: l)):=rfl
theorem oneOf_e4:oneOf (none) =
  (none):=rfl
theorem consume1_e1 {xs H l}:consume1 xs (some (l,H)) =
  (some (xs :: l,H)):=rfl
theorem consume1_e2 {xs}:consume1 xs (none) =
  (none):=rfl
theorem ended_e1 {st}:ended (some (.normal,st)) =
  (some st):=rfl
theorem ended_e2 {st}:ended (some (.ret,st)) =
  (some st):=rfl
theorem shut_e1 {n0 H r}:shut n0 H (some r) =
  (if (fz n0 H fzDepth r).under n0 = true ∧ (fz n0 H fzDepth r).solid = true then some (fz n0 H fzDepth r) else none):=rfl
theorem shut_e2 {n0 H}:shut n0 H (none) =
  (none):=rfl
theorem isoEnd_e1 {rs st}:isoEnd rs (some st) =
  (shut 0 st.heap (resAll st rs)):=rfl
theorem isoEnd_e2 {rs}:isoEnd rs (none) =
  (none):=rfl
theorem withHeap_e1 {H b r}:withHeap H b (some r) =
  (some (r,H,b)):=rfl
theorem withHeap_e2 {H b}:withHeap H b (none) =
  (none):=rfl
theorem shrEnd_e1 {n0 rs st}:shrEnd n0 rs (some st) =
  (if st.rs then none else withHeap (st.heap.take n0) false (shut n0 st.heap (resAll st rs))):=rfl
theorem shrEnd_e2 {n0 rs}:shrEnd n0 rs (none) =
  (none):=rfl
theorem keepEnd_e1 {rs st}:keepEnd rs (some st) =
  (withHeap st.heap st.rs (resAll st rs)):=rfl
theorem keepEnd_e2 {rs}:keepEnd rs (none) =
  (none):=rfl
theorem isA_u:AV.u.isA = false:=rfl
theorem known_u:AV.u.known = false:=rfl
theorem hasRef_u:AV.u.hasRef = false:=by simp only [AV.hasRef]
theorem under_u {n_}:AV.u.under n_ = true:=by simp only [AV.under]
theorem plain_u:AV.u.plain = true:=rfl
theorem fz_u {n_ H_ d_}:fz n_ H_ (d_ + 1) AV.u = AV.u:=by simp only [fz]
theorem size_u:AV.u.size = 1:=by simp only [AV.size]
theorem isA_bool {b}:(AV.bool b).isA = false:=rfl
theorem known_bool {b}:(AV.bool b).known = true:=rfl
theorem hasRef_bool {b}:(AV.bool b).hasRef = false:=by simp only [AV.hasRef]
theorem under_bool {n_} {b}:(AV.bool b).under n_ = true:=by simp only [AV.under]
theorem solid_bool {b}:(AV.bool b).solid = true:=by simp only [AV.solid]
theorem plain_bool {b}:(AV.bool b).plain = true:=rfl
theorem fz_bool {n_ H_ d_} {b}:fz n_ H_ (d_ + 1) (AV.bool b) = (AV.bool b):=by simp only [fz]
theorem size_bool {b}:(AV.bool b).size = 1:=by simp only [AV.size]
theorem isA_int {k n}:(AV.int k n).isA = false:=rfl
theorem known_int {k n}:(AV.int k n).known = true:=rfl
theorem hasRef_int {k n}:(AV.int k n).hasRef = false:=by simp only [AV.hasRef]
theorem under_int {n_} {k n}:(AV.int k n).under n_ = true:=by simp only [AV.under]
theorem solid_int {k n}:(AV.int k n).solid = true:=by simp only [AV.solid]
theorem plain_int {k n}:(AV.int k n).plain = true:=rfl
theorem fz_int {n_ H_ d_} {k n}:fz n_ H_ (d_ + 1) (AV.int k n) = (AV.int k n):=by simp only [fz]
theorem size_int {k n}:(AV.int k n).size = 1:=by simp only [AV.size]
theorem isA_a {x}:(AV.a x).isA = false:=rfl
theorem known_a {x}:(AV.a x).known = true:=rfl
theorem hasRef_a {x}:(AV.a x).hasRef = false:=by simp only [AV.hasRef]
theorem under_a {n_} {x}:(AV.a x).under n_ = true:=by simp only [AV.under]
theorem solid_a {x}:(AV.a x).solid = true:=by simp only [AV.solid]
theorem plain_a {x}:(AV.a x).plain = true:=rfl
theorem fz_a {n_ H_ d_} {x}:fz n_ H_ (d_ + 1) (AV.a x) = (AV.a x):=by simp only [fz]
theorem size_a {x}:(AV.a x).size = 1:=by simp only [AV.size]
theorem isA_nl:AV.nl.isA = false:=rfl
theorem known_nl:AV.nl.known = true:=rfl
theorem hasRef_nl:AV.nl.hasRef = false:=by simp only [AV.hasRef]
theorem under_nl {n_}:AV.nl.under n_ = true:=by simp only [AV.under]
theorem solid_nl:AV.nl.solid = true:=by simp only [AV.solid]
theorem plain_nl:AV.nl.plain = true:=rfl
theorem size_nl:AV.nl.size = 1:=by simp only [AV.size]
theorem isA_bx {o}:(AV.bx o).isA = false:=rfl
theorem known_bx {o}:(AV.bx o).known = true:=rfl
theorem solid_bx {o}:(AV.bx o).solid = true:=by simp only [AV.solid]
theorem plain_bx {o}:(AV.bx o).plain = true:=rfl
theorem size_bx {o}:(AV.bx o).size = 1:=by simp only [AV.size]
theorem isA_agg {l}:(AV.agg l).isA = true:=rfl
theorem known_agg {l}:(AV.agg l).known = true:=rfl
theorem plain_agg {l}:(AV.agg l).plain = true:=rfl
theorem isA_isl {l}:(AV.isl l).isA = false:=rfl
theorem known_isl {l}:(AV.isl l).known = true:=rfl
theorem hasRef_isl {l}:(AV.isl l).hasRef = false:=by simp only [AV.hasRef]
theorem under_isl {n_} {l}:(AV.isl l).under n_ = true:=by simp only [AV.under]
theorem plain_isl {l}:(AV.isl l).plain = true:=rfl
theorem fz_isl {n_ H_ d_} {l}:fz n_ H_ (d_ + 1) (AV.isl l) = (AV.isl l):=by simp only [fz]
theorem size_isl {l}:(AV.isl l).size = 1:=by simp only [AV.size]
theorem isA_iptr {x}:(AV.iptr x).isA = false:=rfl
theorem known_iptr {x}:(AV.iptr x).known = true:=rfl
theorem plain_iptr {x}:(AV.iptr x).plain = true:=rfl
theorem size_iptr {x}:(AV.iptr x).size = 1:=by simp only [AV.size]
theorem isA_ptr {o g p}:(AV.ptr o g p).isA = false:=rfl
theorem known_ptr {o g p}:(AV.ptr o g p).known = true:=rfl
theorem solid_ptr {o g p}:(AV.ptr o g p).solid = true:=by simp only [AV.solid]
theorem plain_ptr {o g p}:(AV.ptr o g p).plain = true:=rfl
theorem size_ptr {o g p}:(AV.ptr o g p).size = 1:=by simp only [AV.size]
theorem isA_sl {o g sz st len}:(AV.sl o g sz st len).isA = false:=rfl
theorem known_sl {o g sz st len}:(AV.sl o g sz st len).known = true:=rfl
theorem solid_sl {o g sz st len}:(AV.sl o g sz st len).solid = true:=by simp only [AV.solid]
theorem plain_sl {o g sz st len}:(AV.sl o g sz st len).plain = true:=rfl
theorem size_sl {o g sz st len}:(AV.sl o g sz st len).size = 1:=by simp only [AV.size]
theorem isA_fn {f l}:(AV.fn f l).isA = false:=rfl
theorem known_fn {f l}:(AV.fn f l).known = true:=rfl
theorem plain_fn {f l}:(AV.fn f l).plain = true:=rfl
theorem size_fn {f l}:(AV.fn f l).size = 1:=by simp only [AV.size]
theorem isA_mp {o}:(AV.mp o).isA = false:=rfl
theorem known_mp {o}:(AV.mp o).known = true:=rfl
theorem solid_mp {o}:(AV.mp o).solid = true:=by simp only [AV.solid]
theorem plain_mp {o}:(AV.mp o).plain = true:=rfl
theorem size_mp {o}:(AV.mp o).size = 1:=by simp only [AV.size]
theorem isA_tup {l}:(AV.tup l).isA = false:=rfl
theorem known_tup {l}:(AV.tup l).known = false:=rfl
theorem plain_tup {l}:(AV.tup l).plain = false:=rfl
theorem size_tup {l}:(AV.tup l).size = 1:=by simp only [AV.size]
theorem size_agg {l}:(AV.agg l).size = AV.sizes l:=by simp only [AV.size]
theorem bxOf_mp {o}:bxOf (.mp o) = .bx o:=rfl
theorem bxOf_agg {l}:bxOf (.agg l) = .iptr (.agg l):=rfl
theorem bxOf_isl {l}:bxOf (.isl l) = .iptr (.isl l):=rfl
theorem bxOf_int {k n}:bxOf (.int k n) = .iptr (.int k n):=rfl
theorem bxOf_bool {b}:bxOf (.bool b) = .iptr (.bool b):=rfl
theorem getIn_s {g p ob}:getIn g p (some ob) = objGet ob g p:=rfl
theorem setIn_s {g p y ob}:setIn g p y (some ob) = objSet ob g p y:=rfl
theorem seqK_n {R y st}:seqK R y (some (.normal,st)) = R y st:=rfl
theorem seqK_e {R y j st}:seqK R y (some (.exit j,st)) = some (.exit j,st):=rfl
theorem seqK_r {R y st}:seqK R y (some (.ret,st)) = some (.ret,st):=rfl
theorem condK_t {R x y st}:condK R x y st (.bool true) = R x st:=rfl
theorem condK_f {R x y st}:condK R x y st (.bool false) = R y st:=rfl
theorem loopC_s {R c b st}:loopC R c b (some st) = R c (orRs b st):=rfl
theorem loopK_n {R c n0 gc keep b st}:loopK R c n0 gc keep b (some (.normal,st)) = loopC R c b (clean n0 gc keep st):=rfl
theorem loopK_e {R c n0 gc keep b j st}:loopK R c n0 gc keep b (some (.exit j,st)) = some (.exit j,orRs b st):=rfl
theorem loopK_r {R c n0 gc keep b st}:loopK R c n0 gc keep b (some (.ret,st)) = some (.ret,orRs b st):=rfl
theorem conCall_s {R f args H}:conCall R f (some (args,H)) = withHeap H false (runIso R f args):=rfl
theorem callFun_i {R args H f}:callFun R args H f .iso = withHeap H false (runIso R f args):=rfl
theorem callFun_c {R args H f}:callFun R args H f .con = conCall R f (consume H args):=rfl
theorem callFun_s {R args H f}:callFun R args H f .shr = shrEnd H.length f.results (ended (R f.body (start f args H))):=rfl
theorem callFun_k {R args H f}:callFun R args H f .keep = keepEnd f.results (ended (R f.body (start f args H))):=rfl
theorem binInt_add {k x y}:binInt .add k x y = some (.int k (k.wrap (x + y))):=rfl
theorem binInt_sub {k x y}:binInt .sub k x y = some (.int k (k.wrap (x - y))):=rfl
theorem binInt_mul {k x y}:binInt .mul k x y = some (.int k (k.wrap (x * y))):=rfl
theorem binInt_eql {k x y}:binInt .eql k x y = some (.bool (decide (x = y))):=by unfold binInt; by_cases h:x = y <;> simp [h]
theorem binInt_neq {k x y}:binInt .neq k x y = some (.bool (!decide (x = y))):=by unfold binInt; by_cases h:x = y <;> simp [h]
theorem binInt_lss {k x y}:binInt .lss k x y = some (.bool (decide (x < y))):=rfl
theorem binInt_leq {k x y}:binInt .leq k x y = some (.bool (decide (x ≤ y))):=rfl
theorem binInt_gtr {k x y}:binInt .gtr k x y = some (.bool (decide (x > y))):=rfl
theorem binInt_geq {k x y}:binInt .geq k x y = some (.bool (decide (x ≥ y))):=rfl
theorem binInt_quo {k x y}:binInt .quo k x y = if y = 0 then none else some (.int k (k.wrap (x.tdiv y))):=rfl
theorem binInt_rem {k x y}:binInt .rem k x y = if y = 0 then none else some (.int k (x.tmod y)):=rfl
theorem binInt_and {k x y}:binInt .and k x y = some (.int k (k.wrap (BitVec.ofInt k.bits x &&& BitVec.ofInt k.bits y).toNat)):=rfl
theorem binAV_add {k x y}:binAV .add (.int k x) (.int k y) = binInt .add k x y:=if_pos rfl
theorem binAV_sub {k x y}:binAV .sub (.int k x) (.int k y) = binInt .sub k x y:=if_pos rfl
theorem binAV_mul {k x y}:binAV .mul (.int k x) (.int k y) = binInt .mul k x y:=if_pos rfl
theorem binAV_quo {k x y}:binAV .quo (.int k x) (.int k y) = binInt .quo k x y:=if_pos rfl
theorem binAV_rem {k x y}:binAV .rem (.int k x) (.int k y) = binInt .rem k x y:=if_pos rfl
theorem binAV_eql {k x y}:binAV .eql (.int k x) (.int k y) = binInt .eql k x y:=if_pos rfl
theorem binAV_neq {k x y}:binAV .neq (.int k x) (.int k y) = binInt .neq k x y:=if_pos rfl
theorem binAV_lss {k x y}:binAV .lss (.int k x) (.int k y) = binInt .lss k x y:=if_pos rfl
theorem binAV_leq {k x y}:binAV .leq (.int k x) (.int k y) = binInt .leq k x y:=if_pos rfl
theorem binAV_gtr {k x y}:binAV .gtr (.int k x) (.int k y) = binInt .gtr k x y:=if_pos rfl
theorem binAV_geq {k x y}:binAV .geq (.int k x) (.int k y) = binInt .geq k x y:=if_pos rfl
theorem binAV_and {k x y}:binAV .and (.int k x) (.int k y) = binInt .and k x y:=if_pos rfl
theorem binAV_or {k x y}:binAV .or (.int k x) (.int k y) = binInt .or k x y:=if_pos rfl
theorem binAV_xor {k x y}:binAV .xor (.int k x) (.int k y) = binInt .xor k x y:=if_pos rfl
theorem binAV_andNot {k x y}:binAV .andNot (.int k x) (.int k y) = binInt .andNot k x y:=if_pos rfl
theorem binB_eql {a b}:binB false (.bool a) (.bool b) = some (.bool (a == b)):=rfl
theorem binB_neq {a b}:binB true (.bool a) (.bool b) = some (.bool (a != b)):=rfl
theorem unAV_not {b}:unAV .not (.bool b) = some (.bool !b):=rfl
theorem unAV_neg {k n}:unAV .neg (.int k n) = some (.int k (k.wrap (0 - n))):=rfl
theorem binAV_shl {k x j y}:binAV .shl (.int k x) (.int j y) = if y < 0 then none else some (.int k (k.wrap (x * 2 ^ (Nat.min y.toNat k.bits)))):=rfl
theorem binAV_shr {k x j y}:binAV .shr (.int k x) (.int j y) = if y < 0 then none else some (.int k (x.fdiv (2 ^ (Nat.min y.toNat k.bits)))):=rfl
end Tor
