/-
  A part of the proof: an abstract machine for the program, its soundness, and what the functions compute (Gp1).
  Conditions: none.
-/
import Derived.Test.YtejciamannpljaaGreatM01
set_option linter.unusedSectionVars false
set_option linter.unusedVariables false
set_option linter.unusedSimpArgs false
set_option linter.defProp false
namespace Tor
open Go
def a222R:Nat → Unit → List AOper
| 0,_=>[oS 16 (.cb (.v 0)),
oS 17 (.cb (.v 1)),
oS 2 (.move (.c (.bool false)))]
| 1,_=>[oN (.call 211 []),
sL 3 0]
| 2,_=>[oN (.cl true 5 (.v 16)),
oN (.call 212 [.l 0]),
mL 1,
oN (.extract 0 (.l 2)),
oN (.extract 1 (.l 2)),
oN (.extract 2 (.l 2)),
sL 4 3,
sL 5 4,
sL 6 5]
| 3,_=>[mV 6,
oN (.cl true 4 (.v 17)),
oN (.call 223 [.l 0,.l 1]),
sL 7 2]
| 4,_=>[mV 4,
mV 5,
mV 7,
oN (.call 224 [.l 0,.l 1,.l 2]),
sL 8 3]
| 5,_=>[mV 4,
mV 5,
mV 7,
oN (.call 213 [.l 0,.l 1,.l 2]),
mV 8,
oN (.binb true (.l 3) (.l 4)),
mL 5,
oF 6 (.move (.v 5)),
oF 6 (.move (.v 4)),
oF 6 (.move (.v 6)),
oF 6 (.call 213 [.l 7,.l 8,.l 9]),
oF 6 (.move (.v 5)),
oF 6 (.move (.v 4)),
oF 6 (.move (.v 6)),
oF 6 (.call 224 [.l 11,.l 12,.l 13]),
oF 6 (.binb true (.l 10) (.l 14)),
oS 14 (.pick (.l 6) (.c (.bool true)) (.l 15))]
| 6,_=>[oS 2 (.move (.c (.bool false)))]
| 7,_=>[mV 7,
oN (.call 225 [.l 0]),
oS 15 (.un .not (.l 1))]
| 8,_=>[mV 3,
sL 2 0]
| 9,_=>[mV 4,
mV 5,
mV 7,
oN (.ca (.v 17)),
oN (.field 1 1 false 1 (.v 17)),
oN (.bin .rem (.l 4) (.c (.int .u8 4))),
oN (.conv .i64 (.l 5)),
oN (.call 217 [.l 0,.l 1,.l 2,.l 6]),
mL 7,
oN (.extract 0 (.l 8)),
oN (.extract 1 (.l 8)),
oS 18 (.cn (.agg [.int .i64 0,.int .i64 0,.nl])),
oS 18 (.cs 3 (.l 11) (.l 9)),
sL 9 10]
| 10,_=>[mV 7,
mV 6,
oN (.call 226 [.l 0,.l 1]),
mL 2,
oN (.extract 0 (.l 3)),
oN (.extract 1 (.l 3)),
sL 10 4,
sL 11 5]
| 11,_=>[mV 7,
mV 6,
oN (.call 227 [.l 0,.l 1]),
mL 2,
oN (.extract 0 (.l 3)),
oN (.extract 1 (.l 3)),
sL 12 4,
sL 13 5]
| 12,_=>[mV 9,
oN (.bin .eql (.l 0) (.n 0)),
mV 8,
oN (.binb false (.l 1) (.l 2)),
mL 3,
oT 4 (.move (.v 9)),
oT 4 (.bin .eql (.l 5) (.n 290)),
oT 4 (.move (.v 8)),
oT 4 (.un .not (.l 7)),
oT 4 (.binb false (.l 6) (.l 8)),
oN (.pick (.l 4) (.l 9) (.c (.bool false))),
mL 10,
oT 11 (.move (.v 10)),
oT 11 (.move (.v 12)),
oT 11 (.call 216 [.l 12,.l 13]),
oN (.pick (.l 11) (.l 14) (.c (.bool false))),
mL 15,
oT 16 (.move (.v 11)),
oT 16 (.move (.v 13)),
oT 16 (.bin .eql (.l 17) (.l 18)),
oN (.pick (.l 16) (.l 19) (.c (.bool false))),
mL 20,
oT 21 (.move (.v 3)),
oN (.pick (.l 21) (.l 22) (.c (.bool false))),
sL 2 23]
| _,_=>[]
def a222:AFun:=.mk .iso 2 19 [.v 2] (.seq (.region (a222R 0) false) (.seq (.region (a222R 1) false) (.seq (.region (a222R 2) false) (.seq (.region (a222R 3) false) (.seq (.region (a222R 4) false) (.seq (.seq (.region (a222R 5) false) (.cond (.v 14) (.seq (.region (a222R 6) false) (.ret)) (.skip))) (.seq (.seq (.region (a222R 7) false) (.cond (.v 15) (.seq (.region (a222R 8) false) (.ret)) (.skip))) (.seq (.region (a222R 9) false) (.seq (.region (a222R 10) false) (.seq (.region (a222R 11) false) (.seq (.region (a222R 12) false) (.ret))))))))))))
def a211R:Nat → Unit → List AOper
| 0,_=>[oS 0 (.move (.c (.bool false)))]
| 1,_=>[oN (.call 27 [.c (.int .u8 4)]),
oN (.call 27 [.c (.int .u8 9)]),
sL 1 0,
sL 2 1]
| 2,_=>[oN (.call 279 [.n 3]),
oN (.bslice false 1 (.int .i64 0) 2 [(0,.n 3),(1,.n 3)]),
oN (.call 21 [.n 0,.n 0,.l 1]),
oN (.field 2 2 false 1 (.l 2)),
oN (.build [.int .i64 0,.nl] [(0,.n 3),(1,.l 3)]),
oN (.bslice false 2 (.agg [.int .i64 0,.nl]) 1 [(0,.l 4)]),
oN (.append 2 32 (.l 0) (.l 5)),
oS 3 (.frz (.l 6))]
| 3,_=>[oN (.call 279 [.n 1]),
oN (.build [.int .i64 0,.nl] [(0,.n 3)]),
oN (.bslice false 2 (.agg [.int .i64 0,.nl]) 1 [(0,.l 1)]),
oN (.append 2 32 (.l 0) (.l 2)),
oS 4 (.frz (.l 3))]
| 4,_=>[oN (.call 234 [.n 5]),
oN (.call 234 [.n 5]),
oN (.call 226 [.l 0,.l 1]),
mL 2,
oN (.extract 0 (.l 3)),
oN (.extract 1 (.l 3)),
sL 5 4,
sL 6 5]
| 5,_=>[mV 1,
mV 1,
oN (.call 234 [.n 25]),
oN (.call 217 [.l 0,.l 1,.l 2,.n 1]),
mL 3,
oN (.extract 0 (.l 4)),
oN (.extract 1 (.l 4)),
oS 14 (.cn (.agg [.int .i64 0,.int .i64 0,.nl])),
oS 14 (.cs 3 (.l 7) (.l 5)),
sL 7 6]
| 6,_=>[mV 1,
oN (.call 215 [.l 0]),
oN (.bslice false 1 (.int .i64 0) 2 [(0,.n 3),(1,.n 1)]),
oN (.call 21 [.n 0,.n 0,.l 2]),
oN (.field 2 2 false 1 (.l 3)),
oN (.call 219 [.l 1,.l 4]),
mL 5,
oN (.extract 0 (.l 6)),
oN (.extract 1 (.l 6)),
mL 7,
sL 8 8]
| 7,_=>[oN (.bslice false 1 (.int .i64 0) 2 [(0,.n 3),(1,.n 1)]),
oN (.call 21 [.n 0,.n 0,.l 0]),
oN (.field 2 2 false 1 (.l 1)),
oN (.build [.int .i64 0,.nl] [(0,.n 1),(1,.l 2)]),
oN (.bslice false 1 (.int .i64 0) 2 [(0,.n 3),(1,.n 1)]),
oN (.call 21 [.n 0,.n 0,.l 4]),
oN (.field 2 2 false 1 (.l 5)),
oN (.build [.int .i64 0,.nl] [(0,.n 2),(1,.l 6)]),
oN (.bslice false 2 (.agg [.int .i64 0,.nl]) 2 [(0,.l 3),(1,.l 7)]),
oN (.bslice false 1 (.int .i64 0) 4 [(0,.n 1),(1,.n 1),(2,.n 2),(3,.n (-1))]),
oN (.call 21 [.n 0,.n 0,.l 9]),
oN (.field 2 2 false 1 (.l 10)),
oN (.call 219 [.l 8,.l 11]),
mL 12,
oN (.extract 0 (.l 13)),
oN (.extract 1 (.l 13)),
sL 9 14,
sL 10 15]
| 8,_=>[mV 2,
mV 1,
mV 4,
oN (.call 217 [.l 0,.l 1,.l 2,.n 1]),
mL 3,
oN (.extract 0 (.l 4)),
oN (.extract 1 (.l 4)),
oS 15 (.cn (.agg [.int .i64 0,.int .i64 0,.nl])),
oS 15 (.cs 3 (.l 7) (.l 5)),
sL 11 6]
| 9,_=>[oN (.call 234 [.n 1]),
oN (.build [.int .i64 0,.nl] [(0,.n 1)]),
oN (.bslice false 2 (.agg [.int .i64 0,.nl]) 1 [(0,.l 1)]),
oN (.call 226 [.l 0,.l 2]),
mL 3,
oN (.extract 0 (.l 4)),
oN (.extract 1 (.l 4)),
mL 5,
sL 12 6]
| 10,_=>[mV 1,
mV 1,
oN (.call 234 [.n 5]),
oN (.call 213 [.l 0,.l 1,.l 2]),
mL 3,
oT 4 (.move (.v 1)),
oT 4 (.move (.v 2)),
oT 4 (.move (.v 1)),
oT 4 (.call 215 [.l 7]),
oT 4 (.call 213 [.l 5,.l 6,.l 8]),
oN (.pick (.l 4) (.l 9) (.c (.bool false))),
mL 10,
oT 11 (.move (.v 2)),
oT 11 (.move (.v 1)),
oT 11 (.move (.v 4)),
oT 11 (.call 213 [.l 12,.l 13,.l 14]),
oT 11 (.un .not (.l 15)),
oN (.pick (.l 11) (.l 16) (.c (.bool false))),
mL 17,
oT 18 (.move (.v 2)),
oT 18 (.move (.v 2)),
oT 18 (.move (.v 3)),
oT 18 (.call 213 [.l 19,.l 20,.l 21]),
oN (.pick (.l 18) (.l 22) (.c (.bool false))),
mL 23,
oT 24 (.move (.v 1)),
oT 24 (.move (.v 1)),
oT 24 (.call 234 [.n 5]),
oT 24 (.slice 2 (.l 27) none (some (.n 1)) none),
oT 24 (.call 213 [.l 25,.l 26,.l 28]),
oT 24 (.un .not (.l 29)),
oN (.pick (.l 24) (.l 30) (.c (.bool false))),
sL 13 31]
| 11,_=>[mV 13,
mL 0,
oT 1 (.move (.v 6)),
oT 1 (.bin .eql (.l 2) (.n 0)),
oN (.pick (.l 1) (.l 3) (.c (.bool false))),
mL 4,
oT 5 (.move (.v 5)),
oT 5 (.call 234 [.n 25]),
oT 5 (.call 216 [.l 6,.l 7]),
oN (.pick (.l 5) (.l 8) (.c (.bool false))),
mL 9,
oT 10 (.move (.v 7)),
oT 10 (.bin .eql (.l 11) (.n 0)),
oN (.pick (.l 10) (.l 12) (.c (.bool false))),
mL 13,
oT 14 (.cl true 3 (.v 14)),
oT 14 (.bslice false 1 (.int .i64 0) 1 [(0,.n 25)]),
oT 14 (.call 235 [.n 1,.n 1,.l 16]),
oT 14 (.call 220 [.l 15,.l 17]),
oN (.pick (.l 14) (.l 18) (.c (.bool false))),
mL 19,
oT 20 (.move (.v 8)),
oT 20 (.bin .eql (.l 21) (.n 290)),
oN (.pick (.l 20) (.l 22) (.c (.bool false))),
mL 23,
oT 24 (.move (.v 10)),
oT 24 (.bin .eql (.l 25) (.n 0)),
oN (.pick (.l 24) (.l 26) (.c (.bool false))),
mL 27,
oT 28 (.move (.v 9)),
oT 28 (.len 0 (.l 29)),
oT 28 (.bin .eql (.l 30) (.n 0)),
oN (.pick (.l 28) (.l 31) (.c (.bool false))),
mL 32,
oT 33 (.move (.v 11)),
oT 33 (.bin .eql (.l 34) (.n 290)),
oN (.pick (.l 33) (.l 35) (.c (.bool false))),
mL 36,
oT 37 (.move (.v 12)),
oT 37 (.bin .eql (.l 38) (.n 290)),
oN (.pick (.l 37) (.l 39) (.c (.bool false))),
mL 40,
oT 41 (.move (.v 1)),
oT 41 (.call 214 [.l 42]),
oT 41 (.move (.v 1)),
oT 41 (.call 215 [.l 44]),
oT 41 (.call 216 [.l 43,.l 45]),
oN (.pick (.l 41) (.l 46) (.c (.bool false))),
sL 0 47]
| _,_=>[]
def a211:AFun:=.mk .iso 0 16 [.v 0] (.seq (.region (a211R 0) false) (.seq (.region (a211R 1) false) (.seq (.region (a211R 2) false) (.seq (.region (a211R 3) false) (.seq (.region (a211R 4) false) (.seq (.region (a211R 5) false) (.seq (.region (a211R 6) false) (.seq (.region (a211R 7) false) (.seq (.region (a211R 8) false) (.seq (.region (a211R 9) false) (.seq (.region (a211R 10) false) (.seq (.region (a211R 11) true) (.ret)))))))))))))
def a212R:Nat → Unit → List AOper
| 0,_=>[oS 1 (.box true (.v 0)),
oS 2 (.move (.c (.isl []))),
oS 3 (.move (.c (.isl []))),
oS 4 (.move (.c (.isl [])))]
| 1,_=>[oN (.fieldAddr 0 0 (.v 1)),
oN (.load true 2 (.l 0)),
oN (.call 1 [.l 1]),
sL 5 2]
| 2,_=>[mV 5,
oN (.len 0 (.l 0)),
oN (.fieldAddr 1 2 (.v 1)),
oN (.load false 1 (.l 2)),
oN (.conv .i64 (.l 3)),
oN (.bin .rem (.l 4) (.n 3)),
oN (.bin .sub (.l 1) (.l 5)),
sL 6 6]
| 3,_=>[mV 6,
mV 5,
oN (.len 0 (.l 1)),
oN (.fieldAddr 0 0 (.v 1)),
oN (.fieldAddr 1 1 (.l 3)),
oN (.load false 1 (.l 4)),
oN (.len 0 (.l 5)),
oN (.bin .sub (.l 2) (.l 6)),
oN (.bin .lss (.l 0) (.l 7)),
mL 8,
oF 9 (.move (.v 6)),
oF 9 (.bin .lss (.l 10) (.n 0)),
oS 7 (.pick (.l 9) (.c (.bool true)) (.l 11))]
| 4,_=>[mV 5,
oN (.len 0 (.l 0)),
sL 6 1]
| 5,_=>[mV 5,
mV 6,
oN (.slice 3 (.l 0) none (some (.l 1)) none),
mV 5,
mV 5,
oN (.fieldAddr 2 3 (.v 1)),
oN (.load false 1 (.l 5)),
oN (.bin .rem (.l 6) (.c (.int .i8 4))),
oN (.conv .i64 (.l 7)),
oN (.fieldAddr 3 4 (.v 1)),
oN (.load false 1 (.l 9)),
oN (.call 233 [.l 4,.l 8,.l 10]),
mV 6,
oN (.slice 2 (.l 11) none (some (.l 12)) none),
sL 2 2,
sL 3 3,
sL 4 13]
| _,_=>[]
def a212:AFun:=.mk .iso 1 8 [.v 2,.v 3,.v 4] (.seq (.region (a212R 0) false) (.seq (.region (a212R 1) false) (.seq (.region (a212R 2) false) (.seq (.seq (.region (a212R 3) false) (.cond (.v 7) (.region (a212R 4) false) (.skip))) (.seq (.region (a212R 5) true) (.ret))))))
def a213R:Nat → Unit → List AOper
| 0,_=>[oS 3 (.move (.c (.bool false)))]
| 1,_=>[mV 0,
mV 2,
oN (.call 237 [.l 0,.l 1,.f 236]),
oS 11 (.un .not (.l 2))]
| 2,_=>[oS 3 (.move (.c (.bool false)))]
| 3,_=>[mV 2,
oN (.build [.nl,.agg [.agg [],.agg [.agg [],.int .u32 0],.agg [.agg [],.agg [.int .i32 0,.int .u32 0]]],.a (.map none)] [(0,.l 0)]),
oN (.box false (.l 1)),
sL 4 2]
| 4,_=>[oS 12 (.move (.v 0)),
oS 13 (.len 0 (.l 0)),
oS 14 (.move (.n 0))]
| 5,_=>[oS 15 (.bin .lss (.v 14) (.v 13))]
| 6,_=>[mV 14,
oN (.indexAddr 3 (.v 12) (.v 14)),
oN (.load true 3 (.l 1)),
oS 18 (.cn (.agg [.int .i64 0,.int .i64 0,.nl])),
sL 5 0,
oS 18 (.cs 3 (.l 3) (.l 2))]
| 7,_=>[mV 1,
mV 2,
mV 5,
oN (.indexAddr 2 (.l 1) (.l 2)),
oN (.fieldAddr 1 1 (.l 3)),
oN (.load false 1 (.l 4)),
oN (.call 4 [.l 0,.l 5]),
mL 6,
oN (.extract 0 (.l 7)),
oN (.extract 1 (.l 7)),
sL 6 8,
sL 7 9]
| 8,_=>[mV 7,
oN (.bin .neq (.l 0) (.n 0)),
mL 1,
oF 2 (.move (.v 6)),
oF 2 (.bin .geq (.l 3) (.n 0)),
oF 2 (.move (.l 4)),
oT 5 (.move (.v 6)),
oT 5 (.ca (.v 18)),
oT 5 (.field 1 1 false 1 (.v 18)),
oT 5 (.bin .neq (.l 6) (.l 8)),
oF 2 (.pick (.l 5) (.l 9) (.c (.bool false))),
oS 16 (.pick (.l 2) (.c (.bool true)) (.l 10))]
| 9,_=>[oS 3 (.move (.c (.bool false)))]
| 10,_=>[mV 1,
mV 2,
mV 5,
oN (.indexAddr 2 (.l 1) (.l 2)),
oN (.fieldAddr 1 1 (.l 3)),
oN (.load false 1 (.l 4)),
oN (.call 6 [.l 0,.l 5]),
mL 6,
oN (.extract 0 (.l 7)),
oN (.extract 1 (.l 7)),
sL 8 8,
mL 9]
| 11,_=>[mV 4,
oN (.ca (.v 18)),
oN (.field 2 2 false 1 (.v 18)),
oN (.call 238 [.l 0,.l 2]),
mL 3,
oN (.extract 0 (.l 4)),
oN (.extract 1 (.l 4)),
sL 9 5,
sL 10 6]
| 12,_=>[mV 10,
oN (.bin .neq (.l 0) (.n 0)),
mL 1,
oF 2 (.move (.v 8)),
oF 2 (.move (.v 9)),
oF 2 (.call 239 [.l 3,.l 4]),
oF 2 (.un .not (.l 5)),
oS 17 (.pick (.l 2) (.c (.bool true)) (.l 6))]
| 13,_=>[oS 3 (.move (.c (.bool false)))]
| 14,_=>[oN (.bin .add (.v 14) (.n 1)),
sL 14 0]
| 15,_=>[oS 3 (.move (.c (.bool true)))]
| _,_=>[]
def a213b0:AIR:=.seq (.region (a213R 5) false) (.seq (.cond (.v 15) (.skip) (.exit 0)) (.seq (.block 1 (.seq (.region (a213R 6) false) (.seq (.region (a213R 7) false) (.seq (.seq (.region (a213R 8) false) (.cond (.v 16) (.seq (.region (a213R 9) false) (.ret)) (.skip))) (.seq (.region (a213R 10) false) (.seq (.region (a213R 11) false) (.seq (.region (a213R 12) false) (.cond (.v 17) (.seq (.region (a213R 13) false) (.ret)) (.skip))))))))) (.region (a213R 14) false)))
def a213l0:AIR:=.loop false [0,1,2,3,4,11,12,13,14] a213b0
theorem a213l0_run:Lr a213l0 (value_of% a213l0):=fun _=>run_loop _ _ _ _
def a213:AFun:=.mk .iso 3 19 [.v 3] (.seq (.region (a213R 0) false) (.seq (.seq (.region (a213R 1) false) (.cond (.v 11) (.seq (.region (a213R 2) false) (.ret)) (.skip))) (.seq (.region (a213R 3) false) (.seq (.seq (.region (a213R 4) false) (.block 0 (a213l0))) (.seq (.region (a213R 15) false) (.ret))))))
def a216R:Nat → Unit → List AOper
| 0,_=>[oS 2 (.move (.c (.bool false)))]
| 1,_=>[mV 0,
oN (.len 0 (.l 0)),
mV 1,
oN (.len 0 (.l 2)),
oS 4 (.bin .neq (.l 1) (.l 3))]
| 2,_=>[oS 2 (.move (.c (.bool false)))]
| 3,_=>[oS 3 (.move (.n 0))]
| 4,_=>[mV 3,
mV 0,
oN (.len 0 (.l 1)),
oS 5 (.bin .lss (.l 0) (.l 2))]
| 5,_=>[mV 3,
oN (.bin .add (.l 0) (.n 1)),
sL 3 1]
| 6,_=>[mV 0,
mV 3,
oN (.indexAddr 2 (.l 0) (.l 1)),
oN (.fieldAddr 0 0 (.l 2)),
oN (.load false 1 (.l 3)),
mV 1,
mV 3,
oN (.indexAddr 2 (.l 5) (.l 6)),
oN (.fieldAddr 0 0 (.l 7)),
oN (.load false 1 (.l 8)),
oN (.bin .neq (.l 4) (.l 9)),
mL 10,
oF 11 (.move (.v 0)),
oF 11 (.move (.v 3)),
oF 11 (.indexAddr 2 (.l 12) (.l 13)),
oF 11 (.fieldAddr 1 1 (.l 14)),
oF 11 (.load false 1 (.l 15)),
oF 11 (.move (.v 1)),
oF 11 (.move (.v 3)),
oF 11 (.indexAddr 2 (.l 17) (.l 18)),
oF 11 (.fieldAddr 1 1 (.l 19)),
oF 11 (.load false 1 (.l 20)),
oF 11 (.call 10 [.l 16,.l 21]),
oF 11 (.un .not (.l 22)),
oS 6 (.pick (.l 11) (.c (.bool true)) (.l 23))]
| 7,_=>[oS 2 (.move (.c (.bool false)))]
| 8,_=>[oS 2 (.move (.c (.bool true)))]
| _,_=>[]
def a216b0:AIR:=.seq (.seq (.region (a216R 4) false) (.cond (.v 5) (.skip) (.exit 0))) (.seq (.block 1 (.seq (.region (a216R 6) true) (.cond (.v 6) (.seq (.region (a216R 7) false) (.ret)) (.skip)))) (.region (a216R 5) false))
def a216l0:AIR:=.loop true [0,1,2,3,4] a216b0
theorem a216l0_run:Lr a216l0 (value_of% a216l0):=fun _=>run_loop _ _ _ _
def a216:AFun:=.mk .iso 2 7 [.v 2] (.seq (.region (a216R 0) false) (.seq (.seq (.region (a216R 1) false) (.cond (.v 4) (.seq (.region (a216R 2) false) (.ret)) (.skip))) (.seq (.seq (.region (a216R 3) false) (.block 0 (a216l0))) (.seq (.region (a216R 8) false) (.ret)))))
def a214R:Nat → Unit → List AOper
| 0,_=>[oS 1 (.move (.c (.isl [])))]
| 1,_=>[oS 2 (.nils 2)]
| 2,_=>[oS 3 (.move (.v 0)),
oS 4 (.len 0 (.l 0)),
oS 5 (.move (.n 0))]
| 3,_=>[oS 6 (.bin .lss (.v 5) (.v 4))]
| 4,_=>[oN (.indexAddr 3 (.v 3) (.v 5)),
oN (.load true 3 (.l 0)),
oS 7 (.cn (.agg [.int .i64 0,.int .i64 0,.nl])),
oS 7 (.cs 3 (.l 2) (.l 1))]
| 5,_=>[mV 2,
oN (.ca (.v 7)),
oN (.field 0 0 false 1 (.v 7)),
oN (.ca (.v 7)),
oN (.field 0 0 false 1 (.v 7)),
oN (.call 160 [.n 1]),
oN (.build [.int .i64 0,zI] [(0,.l 4),(1,.l 5)]),
oN (.bslice false 3 (.agg [.int .i64 0,zI]) 1 [(0,.l 6)]),
oN (.build [.int .i64 0,.nl] [(0,.l 2),(1,.l 7)]),
oN (.bslice false 2 (.agg [.int .i64 0,.nl]) 1 [(0,.l 8)]),
oN (.append 2 32 (.l 0) (.l 9)),
sL 2 10]
| 6,_=>[oN (.bin .add (.v 5) (.n 1)),
sL 5 0]
| 7,_=>[mV 2,
sL 1 0]
| _,_=>[]
def a214b0:AIR:=.seq (.region (a214R 3) false) (.seq (.cond (.v 6) (.skip) (.exit 0)) (.seq (.block 1 (.seq (.region (a214R 4) false) (.region (a214R 5) true))) (.region (a214R 6) false)))
def a214l0:AIR:=.loop true [0,1,2,3,4,5] a214b0
def a214:AFun:=.mk .iso 1 8 [.v 1] (.seq (.region (a214R 0) false) (.seq (.region (a214R 1) false) (.seq (.seq (.region (a214R 2) false) (.block 0 (a214l0))) (.seq (.region (a214R 7) false) (.ret)))))
def a215R:Nat → Unit → List AOper
| 0,_=>[oS 1 (.move (.c (.isl [])))]
| 1,_=>[oN (.bslice true 2 (.agg [.int .i64 0,.nl]) 0 []),
sL 2 0]
| 2,_=>[oS 3 (.move (.n 0))]
| 3,_=>[mV 3,
mV 0,
oN (.len 0 (.l 1)),
oS 4 (.bin .lss (.l 0) (.l 2))]
| 4,_=>[mV 3,
oN (.bin .add (.l 0) (.n 1)),
sL 3 1]
| 5,_=>[mV 2,
mV 0,
mV 3,
oN (.indexAddr 3 (.l 1) (.l 2)),
oN (.fieldAddr 0 0 (.l 3)),
oN (.load false 1 (.l 4)),
mV 0,
mV 3,
oN (.indexAddr 3 (.l 6) (.l 7)),
oN (.fieldAddr 0 0 (.l 8)),
oN (.load false 1 (.l 9)),
oN (.call 14 [.n 1]),
oN (.build [.int .i64 0,zI] [(0,.l 10),(1,.l 11)]),
oN (.bslice false 3 (.agg [.int .i64 0,zI]) 1 [(0,.l 12)]),
oN (.build [.int .i64 0,.nl] [(0,.l 5),(1,.l 13)]),
oN (.bslice false 2 (.agg [.int .i64 0,.nl]) 1 [(0,.l 14)]),
oN (.append 2 32 (.l 0) (.l 15)),
sL 2 16]
| 6,_=>[mV 2,
sL 1 0]
| _,_=>[]
def a215b0:AIR:=.seq (.seq (.region (a215R 3) false) (.cond (.v 4) (.skip) (.exit 0))) (.seq (.block 1 (.region (a215R 5) true)) (.region (a215R 4) false))
def a215l0:AIR:=.loop true [0,1,2,3] a215b0
def a215:AFun:=.mk .iso 1 5 [.v 1] (.seq (.region (a215R 0) false) (.seq (.region (a215R 1) false) (.seq (.seq (.region (a215R 2) false) (.block 0 (a215l0))) (.seq (.region (a215R 6) false) (.ret)))))
def a217R:Nat → Unit → List AOper
| 0,_=>[oS 16 (.cn (.agg [.int .i64 0,.int .i64 0,.nl])),
oS 4 (.move (.n 0))]
| 1,_=>[mV 0,
mV 1,
mV 2,
oN (.call 213 [.l 0,.l 1,.l 2]),
oS 11 (.un .not (.l 3))]
| 2,_=>[oN (.build [.int .i64 0,.int .i64 0,.nl] []),
oS 16 (.cs 3 (.v 16) (.l 0)),
oS 4 (.move (.n 290))]
| 3,_=>[mV 0,
mV 3,
oN (.call 35 [.l 0,.l 1]),
sL 5 2]
| 4,_=>[mV 5,
oN (.len 0 (.l 0)),
mV 1,
mV 3,
oN (.call 35 [.l 2,.l 3]),
oN (.len 0 (.l 4)),
oN (.call 280 [.l 1,.l 5]),
oS 17 (.cn (.agg [.int .i64 0,.int .i64 0,.nl])),
oS 17 (.cs 3 (.l 7) (.l 6))]
| 5,_=>[mV 2,
oN (.build [.nl,.agg [.agg [],.agg [.agg [],.int .u32 0],.agg [.agg [],.agg [.int .i32 0,.int .u32 0]]],.a (.map none)] [(0,.l 0)]),
oN (.box false (.l 1)),
sL 6 2]
| 6,_=>[oS 12 (.move (.v 5)),
oS 13 (.len 0 (.l 0)),
oS 14 (.move (.n 0))]
| 7,_=>[oS 15 (.bin .lss (.v 14) (.v 13))]
| 8,_=>[mV 14,
oN (.indexAddr 1 (.v 12) (.v 14)),
oN (.load false 1 (.l 1)),
sL 7 0,
sL 8 2]
| 9,_=>[mV 6,
mV 8,
oN (.call 241 [.l 0,.l 1]),
mL 2,
oN (.extract 0 (.l 3)),
oN (.extract 1 (.l 3)),
sL 9 4,
mL 5]
| 10,_=>[mV 1,
mV 3,
mV 9,
oN (.call 8 [.l 0,.l 1,.l 2]),
mL 3,
oN (.extract 0 (.l 4)),
oN (.extract 1 (.l 4)),
sL 10 5,
mL 6]
| 11,_=>[oN (.ca (.v 17)),
oN (.field 2 2 false 1 (.v 17)),
mV 7,
oN (.indexAddr 1 (.l 1) (.l 2)),
oN (.load false 1 (.l 3)),
mV 10,
oN (.copy 2 (.l 4) (.l 5))]
| 12,_=>[oN (.bin .add (.v 14) (.n 1)),
sL 14 0]
| 13,_=>[oN (.cl true 3 (.v 17)),
oS 16 (.cs 3 (.v 16) (.l 0)),
oS 4 (.move (.n 0))]
| _,_=>[]
def a217b0:AIR:=.seq (.region (a217R 7) false) (.seq (.cond (.v 15) (.skip) (.exit 0)) (.seq (.block 1 (.seq (.region (a217R 8) false) (.seq (.region (a217R 9) false) (.seq (.region (a217R 10) false) (.region (a217R 11) false))))) (.region (a217R 12) false)))
def a217l0:AIR:=.loop false [0,1,2,3,4,5,6,11,12,13,14,16,17] a217b0
theorem a217l0_run:Lr a217l0 (value_of% a217l0):=fun _=>run_loop _ _ _ _
def a217:AFun:=.mk .iso 4 18 [.c 16 true 3,.v 4] (.seq (.region (a217R 0) false) (.seq (.seq (.region (a217R 1) false) (.cond (.v 11) (.seq (.region (a217R 2) false) (.ret)) (.skip))) (.seq (.region (a217R 3) false) (.seq (.region (a217R 4) false) (.seq (.region (a217R 5) false) (.seq (.seq (.region (a217R 6) false) (.block 0 (a217l0))) (.seq (.region (a217R 13) false) (.ret))))))))
def a219R:Nat → Unit → List AOper
| 0,_=>[oS 2 (.move (.c (.isl []))),
oS 3 (.move (.n 0))]
| 1,_=>[mV 0,
oN (.build [.nl,.agg [.agg [],.agg [.agg [],.int .u32 0],.agg [.agg [],.agg [.int .i32 0,.int .u32 0]]],.a (.map none)] [(0,.l 0)]),
oN (.box false (.l 1)),
mV 1,
oN (.call 238 [.l 2,.l 3]),
oN (.extract 0 (.l 4)),
oN (.extract 1 (.l 4)),
sL 2 5,
sL 3 6]
| _,_=>[]
def a219:AFun:=.mk .iso 2 4 [.v 2,.v 3] (.seq (.region (a219R 0) false) (.seq (.region (a219R 1) false) (.ret)))
def a220R:Nat → Unit → List AOper
| 0,_=>[oS 7 (.cb (.v 0)),
oS 8 (.cb (.v 1)),
oS 2 (.move (.c (.bool false)))]
| 1,_=>[oN (.ca (.v 7)),
oN (.field 0 0 false 1 (.v 7)),
oN (.ca (.v 8)),
oN (.field 0 0 false 1 (.v 8)),
oN (.bin .neq (.l 1) (.l 3)),
mL 4,
oF 5 (.ca (.v 7)),
oF 5 (.field 1 1 false 1 (.v 7)),
oF 5 (.ca (.v 8)),
oF 5 (.field 1 1 false 1 (.v 8)),
oF 5 (.bin .neq (.l 7) (.l 9)),
oN (.pick (.l 5) (.c (.bool true)) (.l 10)),
mL 11,
oF 12 (.ca (.v 7)),
oF 12 (.field 2 2 false 1 (.v 7)),
oF 12 (.len 0 (.l 14)),
oF 12 (.ca (.v 8)),
oF 12 (.field 2 2 false 1 (.v 8)),
oF 12 (.len 0 (.l 17)),
oF 12 (.bin .neq (.l 15) (.l 18)),
oS 4 (.pick (.l 12) (.c (.bool true)) (.l 19))]
| 2,_=>[oS 2 (.move (.c (.bool false)))]
| 3,_=>[oS 3 (.move (.n 0))]
| 4,_=>[mV 3,
oN (.ca (.v 7)),
oN (.field 2 2 false 1 (.v 7)),
oN (.len 0 (.l 2)),
oS 5 (.bin .lss (.l 0) (.l 3))]
| 5,_=>[mV 3,
oN (.bin .add (.l 0) (.n 1)),
sL 3 1]
| 6,_=>[oN (.ca (.v 7)),
oN (.field 2 2 false 1 (.v 7)),
mV 3,
oN (.indexAddr 1 (.l 1) (.l 2)),
oN (.load false 1 (.l 3)),
oN (.ca (.v 8)),
oN (.field 2 2 false 1 (.v 8)),
mV 3,
oN (.indexAddr 1 (.l 6) (.l 7)),
oN (.load false 1 (.l 8)),
oN (.call 13 [.l 4,.l 9]),
oS 6 (.un .not (.l 10))]
| 7,_=>[oS 2 (.move (.c (.bool false)))]
| 8,_=>[oS 2 (.move (.c (.bool true)))]
| _,_=>[]
def a220b0:AIR:=.seq (.seq (.region (a220R 4) false) (.cond (.v 5) (.skip) (.exit 0))) (.seq (.block 1 (.seq (.region (a220R 6) true) (.cond (.v 6) (.seq (.region (a220R 7) false) (.ret)) (.skip)))) (.region (a220R 5) false))
def a220l0:AIR:=.loop true [0,1,2,3,4,7,8] a220b0
def a220:AFun:=.mk .iso 2 9 [.v 2] (.seq (.region (a220R 0) false) (.seq (.seq (.region (a220R 1) false) (.cond (.v 4) (.seq (.region (a220R 2) false) (.ret)) (.skip))) (.seq (.seq (.region (a220R 3) false) (.block 0 (a220l0))) (.seq (.region (a220R 8) false) (.ret)))))
def a10R:Nat → Unit → List AOper
| 0,_=>[oS 2 (.move (.c (.bool false)))]
| 1,_=>[mV 0,
oN (.len 0 (.l 0)),
mV 1,
oN (.len 0 (.l 2)),
oS 4 (.bin .neq (.l 1) (.l 3))]
| 2,_=>[oS 2 (.move (.c (.bool false)))]
| 3,_=>[oS 3 (.move (.n 0))]
| 4,_=>[mV 3,
mV 0,
oN (.len 0 (.l 1)),
oS 5 (.bin .lss (.l 0) (.l 2))]
| 5,_=>[mV 3,
oN (.bin .add (.l 0) (.n 1)),
sL 3 1]
| 6,_=>[mV 0,
mV 3,
oN (.indexAddr 3 (.l 0) (.l 1)),
oN (.fieldAddr 0 0 (.l 2)),
oN (.load false 1 (.l 3)),
mV 1,
mV 3,
oN (.indexAddr 3 (.l 5) (.l 6)),
oN (.fieldAddr 0 0 (.l 7)),
oN (.load false 1 (.l 8)),
oN (.bin .neq (.l 4) (.l 9)),
mL 10,
oF 11 (.move (.v 0)),
oF 11 (.move (.v 3)),
oF 11 (.indexAddr 3 (.l 12) (.l 13)),
oF 11 (.fieldAddr 1 1 (.l 14)),
oF 11 (.load true 2 (.l 15)),
oF 11 (.move (.v 1)),
oF 11 (.move (.v 3)),
oF 11 (.indexAddr 3 (.l 17) (.l 18)),
oF 11 (.fieldAddr 1 1 (.l 19)),
oF 11 (.load true 2 (.l 20)),
oF 11 (.call 37 [.l 16,.l 21]),
oF 11 (.un .not (.l 22)),
oS 6 (.pick (.l 11) (.c (.bool true)) (.l 23))]
| 7,_=>[oS 2 (.move (.c (.bool false)))]
| 8,_=>[oS 2 (.move (.c (.bool true)))]
| _,_=>[]
def a10b0:AIR:=.seq (.seq (.region (a10R 4) false) (.cond (.v 5) (.skip) (.exit 0))) (.seq (.block 1 (.seq (.region (a10R 6) true) (.cond (.v 6) (.seq (.region (a10R 7) false) (.ret)) (.skip)))) (.region (a10R 5) false))
def a10l0:AIR:=.loop true [0,1,2,3,4] a10b0
theorem a10l0_run:Lr a10l0 (value_of% a10l0):=fun _=>run_loop _ _ _ _
def a10:AFun:=.mk .iso 2 7 [.v 2] (.seq (.region (a10R 0) false) (.seq (.seq (.region (a10R 1) false) (.cond (.v 4) (.seq (.region (a10R 2) false) (.ret)) (.skip))) (.seq (.seq (.region (a10R 3) false) (.block 0 (a10l0))) (.seq (.region (a10R 8) false) (.ret)))))
def a221R:Nat → Unit → List AOper
| 0,_=>[oS 2 (.move (.c (.isl [])))]
| 1,_=>[mV 0,
mV 1,
oN (.call 243 [.l 0,.l 1]),
mL 2,
oN (.extract 0 (.l 3)),
oN (.extract 1 (.l 3)),
sL 3 4,
mL 5]
| 2,_=>[mV 3,
sL 2 0]
| _,_=>[]
def a221:AFun:=.mk .iso 2 4 [.v 2] (.seq (.region (a221R 0) false) (.seq (.region (a221R 1) false) (.seq (.region (a221R 2) false) (.ret))))
def a223R:Nat → Unit → List AOper
| 0,_=>[oS 2 (.box false (.v 1)),
oS 3 (.move (.c (.isl [])))]
| 1,_=>[oN (.bslice true 2 (.agg [.int .i64 0,.nl]) 0 []),
mV 0,
oN (.append 2 32 (.l 0) (.l 1)),
sL 4 2]
| 2,_=>[mV 4,
oN (.len 0 (.l 0)),
oS 7 (.bin .eql (.l 1) (.n 0))]
| 3,_=>[mV 4,
oN (.fieldAddr 1 1 (.v 2)),
oN (.load false 1 (.l 1)),
oN (.conv .i64 (.l 2)),
oN (.build [.int .i64 0,.nl] [(0,.l 3)]),
oN (.bslice false 2 (.agg [.int .i64 0,.nl]) 1 [(0,.l 4)]),
oN (.append 2 32 (.l 0) (.l 5)),
sL 3 6]
| 4,_=>[oN (.fieldAddr 1 1 (.v 2)),
oN (.load false 1 (.l 0)),
oN (.conv .i64 (.l 1)),
mV 4,
oN (.len 0 (.l 3)),
oN (.bin .rem (.l 2) (.l 4)),
sL 5 5]
| 5,_=>[oN (.fieldAddr 2 2 (.v 2)),
oN (.load true 2 (.l 0)),
oN (.bslice false 2 (.agg [.int .i8 0,.int .i8 0]) 1 [(0,.l 1)]),
oN (.call 2 [.l 2]),
sL 6 3]
| 6,_=>[oN (.fieldAddr 0 0 (.v 2)),
oN (.load false 1 (.l 0)),
oS 8 (.bin .rem (.l 1) (.c (.int .u8 6)))]
| 7,_=>[mV 4,
mV 5,
oN (.indexAddr 2 (.l 0) (.l 1)),
oN (.fieldAddr 1 1 (.l 2)),
oN (.store 1 (.l 3) (.c (.isl [])))]
| 8,_=>[oN (.bin .eql (.v 8) (.c (.int .u8 0))),
sL 9 0]
| 9,_=>[mV 4,
mV 5,
mV 4,
mV 5,
oN (.indexAddr 2 (.l 2) (.l 3)),
oN (.fieldAddr 1 1 (.l 4)),
oN (.load false 1 (.l 5)),
mV 6,
oN (.call 3 [.l 7]),
oN (.call 14 [.n 1]),
oN (.call 16 [.l 6,.l 8,.l 9]),
oN (.indexAddr 2 (.l 0) (.l 1)),
oN (.fieldAddr 1 1 (.l 11)),
oN (.store 1 (.l 12) (.l 10))]
| 10,_=>[oN (.bin .eql (.v 8) (.c (.int .u8 1))),
sL 10 0]
| 11,_=>[mV 4,
mV 5,
oN (.indexAddr 2 (.l 0) (.l 1)),
oN (.fieldAddr 0 0 (.l 2)),
oN (.load false 1 (.l 3)),
oN (.fieldAddr 2 2 (.v 2)),
oN (.indexArr 2 1 (.l 5) (.n 1)),
oN (.load false 1 (.l 6)),
oN (.bin .rem (.l 7) (.c (.int .i8 2))),
oN (.conv .i64 (.l 8)),
oN (.bin .add (.l 4) (.l 9)),
oN (.indexAddr 2 (.l 0) (.l 1)),
oN (.fieldAddr 0 0 (.l 11)),
oN (.store 1 (.l 12) (.l 10))]
| 12,_=>[oN (.bin .eql (.v 8) (.c (.int .u8 2))),
sL 11 0]
| 13,_=>[mV 4,
mV 5,
oN (.slice 2 (.l 0) none (some (.l 1)) none),
mV 4,
mV 5,
oN (.bin .add (.l 4) (.n 1)),
oN (.slice 2 (.l 3) (some (.l 5)) none none),
oN (.append 2 32 (.l 2) (.l 6)),
sL 4 7]
| 14,_=>[oN (.bin .eql (.v 8) (.c (.int .u8 3))),
sL 12 0]
| 15,_=>[mV 4,
mV 5,
oN (.bslice true 3 (.agg [.int .i64 0,zI]) 0 []),
mV 4,
mV 5,
oN (.indexAddr 2 (.l 3) (.l 4)),
oN (.fieldAddr 1 1 (.l 5)),
oN (.load false 1 (.l 6)),
oN (.append 3 40 (.l 2) (.l 7)),
mV 6,
oN (.append 3 40 (.l 8) (.l 9)),
oN (.indexAddr 2 (.l 0) (.l 1)),
oN (.fieldAddr 1 1 (.l 11)),
oN (.store 1 (.l 12) (.l 10))]
| 16,_=>[oN (.bin .eql (.v 8) (.c (.int .u8 4))),
sL 13 0]
| 17,_=>[mV 4,
mV 4,
mV 4,
oN (.len 0 (.l 2)),
oN (.bin .sub (.l 3) (.n 1)),
oN (.indexAddr 2 (.l 1) (.l 4)),
oN (.fieldAddr 0 0 (.l 5)),
oN (.load false 1 (.l 6)),
oN (.fieldAddr 2 2 (.v 2)),
oN (.indexArr 2 1 (.l 8) (.n 1)),
oN (.load false 1 (.l 9)),
oN (.bin .rem (.l 10) (.c (.int .i8 3))),
oN (.conv .i64 (.l 11)),
oN (.bin .add (.l 7) (.l 12)),
oN (.build [.int .i64 0,.nl] [(0,.l 13)]),
oN (.bslice false 2 (.agg [.int .i64 0,.nl]) 1 [(0,.l 14)]),
oN (.append 2 32 (.l 0) (.l 15)),
sL 4 16]
| 18,_=>[mV 4,
sL 3 0]
| _,_=>[]
def a223:AFun:=.mk .iso 2 14 [.v 3] (.seq (.region (a223R 0) false) (.seq (.region (a223R 1) false) (.seq (.seq (.region (a223R 2) false) (.cond (.v 7) (.seq (.region (a223R 3) false) (.ret)) (.skip))) (.seq (.region (a223R 4) false) (.seq (.region (a223R 5) false) (.seq (.seq (.region (a223R 6) false) (.block 0 (.seq (.region (a223R 8) false) (.cond (.v 9) (.region (a223R 9) true) (.seq (.region (a223R 10) false) (.cond (.v 10) (.region (a223R 11) true) (.seq (.region (a223R 12) false) (.cond (.v 11) (.region (a223R 13) true) (.seq (.region (a223R 14) false) (.cond (.v 12) (.region (a223R 15) false) (.seq (.region (a223R 16) false) (.cond (.v 13) (.region (a223R 17) true) (.region (a223R 7) false))))))))))))) (.seq (.region (a223R 18) false) (.ret))))))))
def a224R:Nat → Unit → List AOper
| 0,_=>[oS 3 (.move (.c (.bool false)))]
| 1,_=>[mV 2,
oN (.call 225 [.l 0]),
oN (.un .not (.l 1)),
mL 2,
oF 3 (.move (.v 2)),
oF 3 (.len 0 (.l 4)),
oF 3 (.move (.v 0)),
oF 3 (.len 0 (.l 6)),
oF 3 (.bin .neq (.l 5) (.l 7)),
oS 8 (.pick (.l 3) (.c (.bool true)) (.l 8))]
| 2,_=>[oS 3 (.move (.c (.bool false)))]
| 3,_=>[oS 4 (.move (.n 0))]
| 4,_=>[mV 4,
mV 0,
oN (.len 0 (.l 1)),
oS 9 (.bin .lss (.l 0) (.l 2))]
| 5,_=>[mV 4,
oN (.bin .add (.l 0) (.n 1)),
sL 4 1]
| 6,_=>[mV 2,
mV 4,
oN (.indexAddr 2 (.l 0) (.l 1)),
oN (.fieldAddr 0 0 (.l 2)),
oN (.load false 1 (.l 3)),
mV 0,
mV 4,
oN (.indexAddr 3 (.l 5) (.l 6)),
oN (.fieldAddr 0 0 (.l 7)),
oN (.load false 1 (.l 8)),
oS 10 (.bin .neq (.l 4) (.l 9))]
| 7,_=>[oS 3 (.move (.c (.bool false)))]
| 8,_=>[mV 1,
mV 2,
mV 4,
oN (.indexAddr 2 (.l 1) (.l 2)),
oN (.fieldAddr 1 1 (.l 3)),
oN (.load false 1 (.l 4)),
oN (.call 5 [.l 0,.l 5]),
mL 6,
oN (.extract 0 (.l 7)),
oN (.extract 1 (.l 7)),
sL 5 8,
sL 6 9]
| 9,_=>[mV 6,
oN (.bin .neq (.l 0) (.n 0)),
mL 1,
oF 2 (.move (.v 2)),
oF 2 (.move (.v 4)),
oF 2 (.indexAddr 2 (.l 3) (.l 4)),
oF 2 (.fieldAddr 1 1 (.l 5)),
oF 2 (.load false 1 (.l 6)),
oF 2 (.len 0 (.l 7)),
oF 2 (.bin .gtr (.l 8) (.n 0)),
oF 2 (.move (.l 9)),
oT 10 (.move (.v 5)),
oT 10 (.move (.v 0)),
oT 10 (.move (.v 4)),
oT 10 (.indexAddr 3 (.l 12) (.l 13)),
oT 10 (.fieldAddr 1 1 (.l 14)),
oT 10 (.load false 1 (.l 15)),
oT 10 (.bin .neq (.l 11) (.l 16)),
oF 2 (.pick (.l 10) (.l 17) (.c (.bool false))),
oS 11 (.pick (.l 2) (.c (.bool true)) (.l 18))]
| 10,_=>[oS 3 (.move (.c (.bool false)))]
| 11,_=>[oS 7 (.move (.n 0))]
| 12,_=>[mV 7,
mV 0,
oN (.len 0 (.l 1)),
oS 12 (.bin .lss (.l 0) (.l 2))]
| 13,_=>[mV 7,
oN (.bin .add (.l 0) (.n 1)),
sL 7 1]
| 14,_=>[mV 1,
mV 2,
mV 7,
oN (.indexAddr 2 (.l 1) (.l 2)),
oN (.fieldAddr 1 1 (.l 3)),
oN (.load false 1 (.l 4)),
oN (.call 244 [.l 0,.l 5]),
mV 2,
mV 0,
mV 7,
oN (.indexAddr 3 (.l 8) (.l 9)),
oN (.fieldAddr 2 2 (.l 10)),
oN (.load false 1 (.l 11)),
oN (.call 221 [.l 7,.l 12]),
oN (.call 10 [.l 6,.l 13]),
oS 13 (.un .not (.l 14))]
| 15,_=>[oS 3 (.move (.c (.bool false)))]
| 16,_=>[oS 3 (.move (.c (.bool true)))]
| _,_=>[]
def a224b0:AIR:=.seq (.seq (.region (a224R 4) false) (.cond (.v 9) (.skip) (.exit 0))) (.seq (.block 1 (.seq (.seq (.region (a224R 6) true) (.cond (.v 10) (.seq (.region (a224R 7) false) (.ret)) (.skip))) (.seq (.region (a224R 8) false) (.seq (.region (a224R 9) false) (.cond (.v 11) (.seq (.region (a224R 10) false) (.ret)) (.skip)))))) (.region (a224R 5) false))
def a224l0:AIR:=.loop true [0,1,2,3,4,7,8,12,13] a224b0
theorem a224l0_run:Lr a224l0 (value_of% a224l0):=fun _=>run_loop _ _ _ _
def a224b1:AIR:=.seq (.seq (.region (a224R 12) false) (.cond (.v 12) (.skip) (.exit 2))) (.seq (.block 3 (.seq (.region (a224R 14) true) (.cond (.v 13) (.seq (.region (a224R 15) false) (.ret)) (.skip)))) (.region (a224R 13) false))
def a224l1:AIR:=.loop true [0,1,2,3,4,5,6,7,8,9,10,11] a224b1
theorem a224l1_run:Lr a224l1 (value_of% a224l1):=fun _=>run_loop _ _ _ _
def a224:AFun:=.mk .iso 3 14 [.v 3] (.seq (.region (a224R 0) false) (.seq (.seq (.region (a224R 1) false) (.cond (.v 8) (.seq (.region (a224R 2) false) (.ret)) (.skip))) (.seq (.seq (.region (a224R 3) false) (.block 0 (a224l0))) (.seq (.seq (.region (a224R 11) false) (.block 2 (a224l1))) (.seq (.region (a224R 16) false) (.ret))))))
def a225R:Nat → Unit → List AOper
| 0,_=>[oS 1 (.move (.c (.bool false)))]
| 1,_=>[oS 2 (.move (.n 0))]
| 2,_=>[mV 2,
mV 0,
oN (.len 0 (.l 1)),
oS 3 (.bin .lss (.l 0) (.l 2))]
| 3,_=>[mV 2,
oN (.bin .add (.l 0) (.n 1)),
sL 2 1]
| 4,_=>[mV 2,
oN (.bin .gtr (.l 0) (.n 0)),
mL 1,
oT 2 (.move (.v 0)),
oT 2 (.move (.v 2)),
oT 2 (.bin .sub (.l 4) (.n 1)),
oT 2 (.indexAddr 2 (.l 3) (.l 5)),
oT 2 (.fieldAddr 0 0 (.l 6)),
oT 2 (.load false 1 (.l 7)),
oT 2 (.move (.v 0)),
oT 2 (.move (.v 2)),
oT 2 (.indexAddr 2 (.l 9) (.l 10)),
oT 2 (.fieldAddr 0 0 (.l 11)),
oT 2 (.load false 1 (.l 12)),
oT 2 (.bin .geq (.l 8) (.l 13)),
oN (.pick (.l 2) (.l 14) (.c (.bool false))),
mL 15,
oF 16 (.move (.v 0)),
oF 16 (.move (.v 2)),
oF 16 (.indexAddr 2 (.l 17) (.l 18)),
oF 16 (.fieldAddr 1 1 (.l 19)),
oF 16 (.load false 1 (.l 20)),
oF 16 (.call 17 [.l 21]),
oF 16 (.un .not (.l 22)),
oS 4 (.pick (.l 16) (.c (.bool true)) (.l 23))]
| 5,_=>[oS 1 (.move (.c (.bool false)))]
| 6,_=>[oS 1 (.move (.c (.bool true)))]
| _,_=>[]
def a225b0:AIR:=.seq (.seq (.region (a225R 2) false) (.cond (.v 3) (.skip) (.exit 0))) (.seq (.block 1 (.seq (.region (a225R 4) true) (.cond (.v 4) (.seq (.region (a225R 5) false) (.ret)) (.skip)))) (.region (a225R 3) false))
def a225l0:AIR:=.loop true [0,1,2] a225b0
theorem a225l0_run:Lr a225l0 (value_of% a225l0):=fun _=>run_loop _ _ _ _
def a225:AFun:=.mk .iso 1 5 [.v 1] (.seq (.region (a225R 0) false) (.seq (.seq (.region (a225R 1) false) (.block 0 (a225l0))) (.seq (.region (a225R 6) false) (.ret))))
def a226R:Nat → Unit → List AOper
| 0,_=>[oS 2 (.move (.c (.isl []))),
oS 3 (.move (.n 0))]
| 1,_=>[mV 1,
oN (.build [.nl,.agg [.agg [],.agg [.agg [],.int .u32 0],.agg [.agg [],.agg [.int .i32 0,.int .u32 0]]],.a (.map none)] [(0,.l 0)]),
oN (.box false (.l 1)),
sL 4 2]
| 2,_=>[oS 5 (.nils 2)]
| 3,_=>[oS 8 (.move (.v 0)),
oS 9 (.len 0 (.l 0)),
oS 10 (.move (.n 0))]
| 4,_=>[oS 11 (.bin .lss (.v 10) (.v 9))]
| 5,_=>[oN (.indexAddr 2 (.v 8) (.v 10)),
oN (.load true 2 (.l 0)),
oS 13 (.cn (.agg [.int .i64 0,.nl])),
oS 13 (.cs 2 (.l 2) (.l 1))]
| 6,_=>[mV 4,
oN (.ca (.v 13)),
oN (.field 1 1 false 1 (.v 13)),
oN (.call 238 [.l 0,.l 2]),
mL 3,
oN (.extract 0 (.l 4)),
oN (.extract 1 (.l 4)),
sL 6 5,
sL 7 6]
| 7,_=>[mV 7,
oS 12 (.bin .neq (.l 0) (.n 0))]
| 8,_=>[mV 7,
oS 2 (.move (.c (.isl []))),
sL 3 0]
| 9,_=>[mV 5,
oN (.ca (.v 13)),
oN (.field 0 0 false 1 (.v 13)),
mV 6,
oN (.build [.int .i64 0,.nl] [(0,.l 2),(1,.l 3)]),
oN (.bslice false 2 (.agg [.int .i64 0,.nl]) 1 [(0,.l 4)]),
oN (.append 2 32 (.l 0) (.l 5)),
sL 5 6]
| 10,_=>[oN (.bin .add (.v 10) (.n 1)),
sL 10 0]
| 11,_=>[mV 5,
sL 2 0,
oS 3 (.move (.n 0))]
| _,_=>[]
def a226b0:AIR:=.seq (.region (a226R 4) false) (.seq (.cond (.v 11) (.skip) (.exit 0)) (.seq (.block 1 (.seq (.region (a226R 5) false) (.seq (.region (a226R 6) false) (.seq (.seq (.region (a226R 7) false) (.cond (.v 12) (.seq (.region (a226R 8) false) (.ret)) (.skip))) (.region (a226R 9) false))))) (.region (a226R 10) false)))
def a226l0:AIR:=.loop false [0,1,2,3,4,5,8,9,10] a226b0
theorem a226l0_run:Lr a226l0 (value_of% a226l0):=fun _=>run_loop _ _ _ _
def a226:AFun:=.mk .iso 2 14 [.v 2,.v 3] (.seq (.region (a226R 0) false) (.seq (.region (a226R 1) false) (.seq (.region (a226R 2) false) (.seq (.seq (.region (a226R 3) false) (.block 0 (a226l0))) (.seq (.region (a226R 11) false) (.ret))))))
def a227R:Nat → Unit → List AOper
| 0,_=>[oS 2 (.move (.c (.isl []))),
oS 3 (.move (.n 0))]
| 1,_=>[oN (.bslice true 2 (.agg [.int .i64 0,.nl]) 0 []),
sL 4 0]
| 2,_=>[oS 5 (.move (.n 0))]
| 3,_=>[mV 5,
mV 0,
oN (.len 0 (.l 1)),
oS 8 (.bin .lss (.l 0) (.l 2))]
| 4,_=>[mV 5,
oN (.bin .add (.l 0) (.n 1)),
sL 5 1]
| 5,_=>[mV 1,
mV 0,
mV 5,
oN (.indexAddr 2 (.l 1) (.l 2)),
oN (.fieldAddr 1 1 (.l 3)),
oN (.load false 1 (.l 4)),
oN (.call 243 [.l 0,.l 5]),
mL 6,
oN (.extract 0 (.l 7)),
oN (.extract 1 (.l 7)),
sL 6 8,
sL 7 9]
| 6,_=>[mV 7,
oS 9 (.bin .neq (.l 0) (.n 0))]
| 7,_=>[mV 7,
oS 2 (.move (.c (.isl []))),
sL 3 0]
| 8,_=>[mV 4,
mV 0,
mV 5,
oN (.indexAddr 2 (.l 1) (.l 2)),
oN (.fieldAddr 0 0 (.l 3)),
oN (.load false 1 (.l 4)),
mV 6,
oN (.build [.int .i64 0,.nl] [(0,.l 5),(1,.l 6)]),
oN (.bslice false 2 (.agg [.int .i64 0,.nl]) 1 [(0,.l 7)]),
oN (.append 2 32 (.l 0) (.l 8)),
sL 4 9]
| 9,_=>[mV 4,
sL 2 0,
oS 3 (.move (.n 0))]
| _,_=>[]
def a227b0:AIR:=.seq (.seq (.region (a227R 3) false) (.cond (.v 8) (.skip) (.exit 0))) (.seq (.block 1 (.seq (.region (a227R 5) false) (.seq (.seq (.region (a227R 6) false) (.cond (.v 9) (.seq (.region (a227R 7) false) (.ret)) (.skip))) (.region (a227R 8) false)))) (.region (a227R 4) false))
def a227l0:AIR:=.loop true [0,1,2,3,4,5] a227b0
theorem a227l0_run:Lr a227l0 (value_of% a227l0):=fun _=>run_loop _ _ _ _
def a227:AFun:=.mk .iso 2 10 [.v 2,.v 3] (.seq (.region (a227R 0) false) (.seq (.region (a227R 1) false) (.seq (.seq (.region (a227R 2) false) (.block 0 (a227l0))) (.seq (.region (a227R 9) false) (.ret)))))
def a14R:Nat → Unit → List AOper
| 0,_=>[oS 3 (.cn zI)]
| 1,_=>[mV 0,
oN (.conv .u64 (.l 0)),
sL 1 1]
| 2,_=>[mV 0,
oS 2 (.bin .lss (.l 0) (.n 0))]
| 3,_=>[mV 1,
oN (.un .neg (.l 0)),
sL 1 1]
| 4,_=>[mV 1,
oN (.conv .u32 (.l 0)),
mV 1,
oN (.bin .shr (.l 2) (.c (.int .u64 32))),
oN (.conv .u32 (.l 3)),
oN (.bslice false 1 (.int .u32 0) 2 [(0,.l 1),(1,.l 4)]),
mV 0,
oN (.bin .lss (.l 6) (.n 0)),
oN (.call 38 [.l 5,.l 7]),
oS 3 (.cs 2 (.v 3) (.l 8))]
| _,_=>[]
def a14:AFun:=.mk .iso 1 4 [.c 3 true 2] (.seq (.region (a14R 0) false) (.seq (.region (a14R 1) false) (.seq (.seq (.region (a14R 2) false) (.cond (.v 2) (.region (a14R 3) false) (.skip))) (.seq (.region (a14R 4) false) (.ret)))))
def a16R:Nat → Unit → List AOper
| 0,_=>[oS 7 (.cb (.v 2)),
oS 3 (.move (.c (.isl [])))]
| 1,_=>[mV 0,
sL 4 0]
| 2,_=>[oS 5 (.move (.n 0))]
| 3,_=>[mV 5,
mV 1,
oN (.len 0 (.l 1)),
oS 6 (.bin .lss (.l 0) (.l 2))]
| 4,_=>[mV 5,
oN (.bin .add (.l 0) (.n 1)),
sL 5 1]
| 5,_=>[mV 4,
mV 1,
mV 5,
oN (.indexAddr 3 (.l 1) (.l 2)),
oN (.fieldAddr 0 0 (.l 3)),
oN (.load false 1 (.l 4)),
oN (.cl true 2 (.v 7)),
mV 1,
mV 5,
oN (.indexAddr 3 (.l 7) (.l 8)),
oN (.fieldAddr 1 1 (.l 9)),
oN (.load true 2 (.l 10)),
oN (.call 41 [.l 6,.l 11]),
oN (.build [.int .i64 0,zI] [(0,.l 5),(1,.l 12)]),
oN (.call 29 [.l 0,.l 13]),
sL 4 14]
| 6,_=>[mV 4,
sL 3 0]
| _,_=>[]
def a16b0:AIR:=.seq (.seq (.region (a16R 3) false) (.cond (.v 6) (.skip) (.exit 0))) (.seq (.block 1 (.region (a16R 5) true)) (.region (a16R 4) false))
def a16l0:AIR:=.loop true [0,1,2,3,4,5,7] a16b0
theorem a16l0_run:Lr a16l0 (value_of% a16l0):=fun _=>run_loop _ _ _ _
def a16:AFun:=.mk .iso 3 8 [.v 3] (.seq (.region (a16R 0) false) (.seq (.region (a16R 1) false) (.seq (.seq (.region (a16R 2) false) (.block 0 (a16l0))) (.seq (.region (a16R 6) false) (.ret)))))
def a17R:Nat → Unit → List AOper
| 0,_=>[oS 1 (.move (.c (.bool false)))]
| 1,_=>[oS 2 (.move (.n 0))]
| 2,_=>[mV 2,
mV 0,
oN (.len 0 (.l 1)),
oS 3 (.bin .lss (.l 0) (.l 2))]
| 3,_=>[mV 2,
oN (.bin .add (.l 0) (.n 1)),
sL 2 1]
| 4,_=>[mV 0,
mV 2,
oN (.indexAddr 3 (.l 0) (.l 1)),
oN (.fieldAddr 1 1 (.l 2)),
oN (.load true 2 (.l 3)),
oN (.call 42 [.l 4]),
oN (.un .not (.l 5)),
mL 6,
oF 7 (.move (.v 0)),
oF 7 (.move (.v 2)),
oF 7 (.indexAddr 3 (.l 8) (.l 9)),
oF 7 (.fieldAddr 1 1 (.l 10)),
oF 7 (.load true 2 (.l 11)),
oF 7 (.call 43 [.l 12]),
oF 7 (.bin .eql (.l 13) (.n 0)),
oN (.pick (.l 7) (.c (.bool true)) (.l 14)),
mL 15,
oF 16 (.move (.v 2)),
oF 16 (.bin .gtr (.l 17) (.n 0)),
oF 16 (.move (.l 18)),
oT 19 (.move (.v 0)),
oT 19 (.move (.v 2)),
oT 19 (.bin .sub (.l 21) (.n 1)),
oT 19 (.indexAddr 3 (.l 20) (.l 22)),
oT 19 (.fieldAddr 0 0 (.l 23)),
oT 19 (.load false 1 (.l 24)),
oT 19 (.move (.v 0)),
oT 19 (.move (.v 2)),
oT 19 (.indexAddr 3 (.l 26) (.l 27)),
oT 19 (.fieldAddr 0 0 (.l 28)),
oT 19 (.load false 1 (.l 29)),
oT 19 (.bin .geq (.l 25) (.l 30)),
oF 16 (.pick (.l 19) (.l 31) (.c (.bool false))),
oS 4 (.pick (.l 16) (.c (.bool true)) (.l 32))]
| 5,_=>[oS 1 (.move (.c (.bool false)))]
| 6,_=>[oS 1 (.move (.c (.bool true)))]
| _,_=>[]
def a17b0:AIR:=.seq (.seq (.region (a17R 2) false) (.cond (.v 3) (.skip) (.exit 0))) (.seq (.block 1 (.seq (.region (a17R 4) true) (.cond (.v 4) (.seq (.region (a17R 5) false) (.ret)) (.skip)))) (.region (a17R 3) false))
def a17l0:AIR:=.loop true [0,1,2] a17b0
theorem a17l0_run:Lr a17l0 (value_of% a17l0):=fun _=>run_loop _ _ _ _
def a17:AFun:=.mk .iso 1 5 [.v 1] (.seq (.region (a17R 0) false) (.seq (.seq (.region (a17R 1) false) (.block 0 (a17l0))) (.seq (.region (a17R 6) false) (.ret))))
def a19R:Nat → Unit → List AOper
| 0,_=>[oS 7 (.cn (.agg [.int .i64 0,.int .i64 0,.nl]))]
| 1,_=>[mV 0,
mV 1,
oN (.call 36 [.l 0,.l 1]),
mV 0,
mV 1,
oN (.bin .sub (.l 4) (.n 1)),
oN (.call 36 [.l 3,.l 5]),
sL 2 2,
sL 3 6]
| 2,_=>[mV 2,
oN (.len 0 (.l 0)),
mV 3,
oN (.len 0 (.l 2)),
oN (.build [.int .i64 0,.int .i64 0,.nl] [(0,.l 1),(1,.l 3)]),
oS 4 (.alloc (.agg [.int .i64 0,.int .i64 0,.nl])),
oN (.store 3 (.l 5) (.l 4))]
| 3,_=>[oS 5 (.move (.n 0))]
| 4,_=>[mV 5,
mV 2,
oN (.len 0 (.l 1)),
oS 6 (.bin .lss (.l 0) (.l 2))]
| 5,_=>[mV 5,
oN (.bin .add (.l 0) (.n 1)),
sL 5 1]
| 6,_=>[mV 0,
mV 2,
mV 5,
oN (.indexAddr 1 (.l 1) (.l 2)),
oN (.load false 1 (.l 3)),
oN (.call 31 [.l 0,.l 4]),
mL 5,
oN (.extract 0 (.l 6)),
oN (.extract 1 (.l 6)),
oS 8 (.cn (.agg [.int .i64 0,.int .i64 0,.nl])),
oS 8 (.cs 3 (.l 9) (.l 7)),
mL 8]
| 7,_=>[oN (.fieldAddr 2 2 (.v 4)),
oN (.load false 1 (.l 0)),
oN (.ca (.v 8)),
oN (.field 2 2 false 1 (.v 8)),
mV 3,
oN (.call 45 [.l 3,.l 4]),
oN (.bslice false 1 (.nl) 1 [(0,.l 5)]),
oN (.append 1 24 (.l 1) (.l 6)),
oN (.fieldAddr 2 2 (.v 4)),
oN (.store 1 (.l 8) (.l 7))]
| 8,_=>[oN (.load true 3 (.v 4)),
oS 7 (.cs 3 (.v 7) (.l 0))]
| _,_=>[]
def a19b0:AIR:=.seq (.seq (.region (a19R 4) false) (.cond (.v 6) (.skip) (.exit 0))) (.seq (.block 1 (.seq (.region (a19R 6) false) (.region (a19R 7) true))) (.region (a19R 5) false))
def a19l0:AIR:=.loop false [0,1,2,3,4,5,7] a19b0
theorem a19l0_run:Lr a19l0 (value_of% a19l0):=fun _=>run_loop _ _ _ _
def a19:AFun:=.mk .iso 2 9 [.c 7 true 3] (.seq (.region (a19R 0) false) (.seq (.region (a19R 1) false) (.seq (.region (a19R 2) false) (.seq (.seq (.region (a19R 3) false) (.block 0 (a19l0))) (.seq (.region (a19R 8) false) (.ret))))))
def a233R:Nat → Unit → List AOper
| 0,_=>[oS 3 (.move (.c (.isl [])))]
| 1,_=>[oN (.bslice true 2 (.agg [.int .i64 0,.nl]) 0 []),
sL 4 0]
| 2,_=>[oS 5 (.move (.n 0))]
| 3,_=>[mV 5,
mV 0,
oN (.len 0 (.l 1)),
oS 8 (.bin .lss (.l 0) (.l 2))]
| 4,_=>[mV 5,
oN (.bin .add (.l 0) (.n 1)),
sL 5 1]
| 5,_=>[mV 0,
mV 5,
oN (.indexAddr 3 (.l 0) (.l 1)),
oN (.fieldAddr 0 0 (.l 2)),
oN (.load false 1 (.l 3)),
oN (.call 14 [.n 1]),
oN (.build [.int .i64 0,zI] [(0,.l 4),(1,.l 5)]),
oN (.bslice false 3 (.agg [.int .i64 0,zI]) 1 [(0,.l 6)]),
sL 6 7]
| 6,_=>[mV 6,
mV 1,
oN (.call 14 [.l 1]),
oN (.call 246 [.l 0,.l 2]),
sL 7 3]
| 7,_=>[mV 7,
mV 0,
mV 0,
mV 6,
mV 2,
oN (.call 247 [.l 2,.l 3,.l 4]),
oN (.call 244 [.l 1,.l 5]),
oN (.call 14 [.n 1]),
oN (.call 16 [.l 0,.l 6,.l 7]),
sL 7 8]
| 8,_=>[mV 7,
mV 0,
mV 0,
mV 5,
oN (.indexAddr 3 (.l 2) (.l 3)),
oN (.fieldAddr 2 2 (.l 4)),
oN (.load false 1 (.l 5)),
mV 2,
oN (.call 247 [.l 1,.l 6,.l 7]),
oN (.call 14 [.n 1]),
oN (.call 16 [.l 0,.l 8,.l 9]),
sL 7 10]
| 9,_=>[mV 4,
mV 0,
mV 5,
oN (.indexAddr 3 (.l 1) (.l 2)),
oN (.fieldAddr 0 0 (.l 3)),
oN (.load false 1 (.l 4)),
mV 7,
oN (.build [.int .i64 0,.nl] [(0,.l 5),(1,.l 6)]),
oN (.bslice false 2 (.agg [.int .i64 0,.nl]) 1 [(0,.l 7)]),
oN (.append 2 32 (.l 0) (.l 8)),
sL 4 9]
| 10,_=>[mV 4,
sL 3 0]
| _,_=>[]
def a233b0:AIR:=.seq (.seq (.region (a233R 3) false) (.cond (.v 8) (.skip) (.exit 0))) (.seq (.block 1 (.seq (.region (a233R 5) true) (.seq (.region (a233R 6) false) (.seq (.region (a233R 7) false) (.seq (.region (a233R 8) false) (.region (a233R 9) false)))))) (.region (a233R 4) false))
def a233l0:AIR:=.loop true [0,1,2,3,4,5] a233b0
theorem a233l0_run:Lr a233l0 (value_of% a233l0):=fun _=>run_loop _ _ _ _
def a233:AFun:=.mk .iso 3 9 [.v 3] (.seq (.region (a233R 0) false) (.seq (.region (a233R 1) false) (.seq (.seq (.region (a233R 2) false) (.block 0 (a233l0))) (.seq (.region (a233R 10) false) (.ret)))))
def a36R:Nat → Unit → List AOper
| 0,_=>[oS 2 (.move (.c (.isl [])))]
| 1,_=>[oN (.bslice true 1 (.int .i64 0) 0 []),
sL 3 0]
| 2,_=>[oS 4 (.move (.n 0))]
| 3,_=>[mV 4,
mV 0,
oN (.len 0 (.l 1)),
oS 5 (.bin .lss (.l 0) (.l 2))]
| 4,_=>[mV 4,
oN (.bin .add (.l 0) (.n 1)),
sL 4 1]
| 5,_=>[mV 0,
mV 4,
oN (.indexAddr 3 (.l 0) (.l 1)),
oN (.fieldAddr 1 1 (.l 2)),
oN (.load false 1 (.l 3)),
mV 1,
oS 6 (.bin .eql (.l 4) (.l 5))]
| 6,_=>[mV 3,
mV 0,
mV 4,
oN (.indexAddr 3 (.l 1) (.l 2)),
oN (.fieldAddr 0 0 (.l 3)),
oN (.load false 1 (.l 4)),
oN (.bslice false 1 (.int .i64 0) 1 [(0,.l 5)]),
oN (.append 1 8 (.l 0) (.l 6)),
sL 3 7]
| 7,_=>[mV 3,
sL 2 0]
| _,_=>[]
def a36b0:AIR:=.seq (.seq (.region (a36R 3) false) (.cond (.v 5) (.skip) (.exit 0))) (.seq (.block 1 (.seq (.region (a36R 5) false) (.cond (.v 6) (.region (a36R 6) false) (.skip)))) (.region (a36R 4) false))
def a36l0:AIR:=.loop true [0,1,2,3,4] a36b0
theorem a36l0_run:Lr a36l0 (value_of% a36l0):=fun _=>run_loop _ _ _ _
def a36:AFun:=.mk .iso 2 7 [.v 2] (.seq (.region (a36R 0) false) (.seq (.region (a36R 1) false) (.seq (.seq (.region (a36R 2) false) (.block 0 (a36l0))) (.seq (.region (a36R 7) false) (.ret)))))
def a27R:Nat → Unit → List AOper
| 0,_=>[oS 1 (.move (.c (.isl [])))]
| 1,_=>[oN (.call 21 [.n 1,.n 0,.c (.isl [])]),
oN (.call 21 [.n 2,.n 1,.c (.isl [])]),
oS 17 (.cn (.agg [.int .i64 0,.int .i64 0,.nl])),
oS 18 (.cn (.agg [.int .i64 0,.int .i64 0,.nl])),
oS 17 (.cs 3 (.l 2) (.l 0)),
oS 18 (.cs 3 (.l 3) (.l 1))]
| 2,_=>[oN (.cl true 3 (.v 17)),
oN (.call 21 [.n 2,.n 0,.c (.isl [])]),
oN (.call 21 [.n 3,.n 0,.c (.isl [])]),
oN (.bslice false 1 (.int .i64 0) 4 [(0,.n 1),(1,.n (-1)),(2,.n 2),(3,.n 1)]),
oN (.call 21 [.n 4,.n 1,.l 3]),
oN (.bslice false 1 (.int .i64 0) 4 [(0,.n 2),(1,.n (-1)),(2,.n 3),(3,.n 1)]),
oN (.call 21 [.n 5,.n 1,.l 5]),
oN (.bslice false 1 (.int .i64 0) 4 [(0,.n 1),(1,.n 1),(2,.n 3),(3,.n (-1))]),
oN (.call 21 [.n 6,.n 1,.l 7]),
oN (.bslice true 3 (.agg [.int .i64 0,.int .i64 0,.nl]) 6 [(0,.l 0),(1,.l 1),(2,.l 2),(3,.l 4),(4,.l 6),(5,.l 8)]),
sL 2 9]
| 3,_=>[mV 0,
oS 3 (.bin .rem (.l 0) (.c (.int .u8 14)))]
| 4,_=>[oN (.bin .eql (.v 3) (.c (.int .u8 1))),
sL 4 0]
| 5,_=>[oN (.cl true 3 (.v 17)),
oN (.bslice false 3 (.agg [.int .i64 0,.int .i64 0,.nl]) 1 [(0,.l 0)]),
sL 1 1]
| 6,_=>[oN (.bin .eql (.v 3) (.c (.int .u8 2))),
sL 5 0]
| 7,_=>[oN (.cl true 3 (.v 17)),
oN (.call 21 [.n 7,.n 0,.c (.isl [])]),
oN (.bslice false 3 (.agg [.int .i64 0,.int .i64 0,.nl]) 2 [(0,.l 0),(1,.l 1)]),
sL 1 2]
| 8,_=>[oN (.bin .eql (.v 3) (.c (.int .u8 3))),
sL 6 0]
| 9,_=>[oN (.cl true 3 (.v 17)),
oN (.call 21 [.n 2,.n 0,.c (.isl [])]),
oN (.bslice false 1 (.int .i64 0) 4 [(0,.n 1),(1,.n (-1)),(2,.n 2),(3,.n 1)]),
oN (.call 21 [.n 3,.n 1,.l 2]),
oN (.bslice false 3 (.agg [.int .i64 0,.int .i64 0,.nl]) 3 [(0,.l 0),(1,.l 1),(2,.l 3)]),
sL 1 4]
| 10,_=>[oN (.bin .eql (.v 3) (.c (.int .u8 4))),
sL 7 0]
| 11,_=>[oN (.cl true 3 (.v 17)),
oN (.cl true 3 (.v 18)),
oN (.bslice false 3 (.agg [.int .i64 0,.int .i64 0,.nl]) 2 [(0,.l 0),(1,.l 1)]),
sL 1 2]
| 12,_=>[oN (.bin .eql (.v 3) (.c (.int .u8 5))),
sL 8 0]
| 13,_=>[mV 2,
sL 1 0]
| 14,_=>[oN (.bin .eql (.v 3) (.c (.int .u8 6))),
sL 9 0]
| 15,_=>[mV 2,
oN (.bslice false 1 (.int .i64 0) 6 [(0,.n 4),(1,.n 1),(2,.n 5),(3,.n 1),(4,.n 6),(5,.n 1)]),
oN (.call 21 [.n 9,.n 2,.l 1]),
oN (.bslice false 3 (.agg [.int .i64 0,.int .i64 0,.nl]) 1 [(0,.l 2)]),
oN (.append 3 40 (.l 0) (.l 3)),
sL 1 4]
| 16,_=>[oN (.bin .eql (.v 3) (.c (.int .u8 7))),
sL 10 0]
| 17,_=>[oN (.cl true 3 (.v 17)),
oN (.call 21 [.n 2,.n 2,.c (.isl [])]),
oN (.bslice false 3 (.agg [.int .i64 0,.int .i64 0,.nl]) 2 [(0,.l 0),(1,.l 1)]),
sL 1 2]
| 18,_=>[oN (.bin .eql (.v 3) (.c (.int .u8 8))),
sL 11 0]
| 19,_=>[oN (.cl true 3 (.v 17)),
oN (.cl true 3 (.v 18)),
oN (.call 21 [.n 3,.n 1,.c (.isl [])]),
oN (.call 21 [.n 4,.n 2,.c (.isl [])]),
oN (.bslice false 3 (.agg [.int .i64 0,.int .i64 0,.nl]) 4 [(0,.l 0),(1,.l 1),(2,.l 2),(3,.l 3)]),
sL 1 4]
| 20,_=>[oN (.bin .eql (.v 3) (.c (.int .u8 9))),
sL 12 0]
| 21,_=>[oN (.cl true 3 (.v 17)),
oN (.cl true 3 (.v 18)),
oN (.bslice false 1 (.int .i64 0) 2 [(0,.n 2),(1,.n 2)]),
oN (.call 21 [.n 3,.n 2,.l 2]),
oN (.bslice false 3 (.agg [.int .i64 0,.int .i64 0,.nl]) 3 [(0,.l 0),(1,.l 1),(2,.l 3)]),
sL 1 4]
| 22,_=>[oN (.bin .eql (.v 3) (.c (.int .u8 10))),
sL 13 0]
| 23,_=>[oN (.cl true 3 (.v 17)),
oN (.cl true 3 (.v 18)),
oN (.call 21 [.n 3,.n 1,.c (.isl [])]),
oN (.bslice false 1 (.int .i64 0) 2 [(0,.n 2),(1,.n 2)]),
oN (.call 21 [.n 4,.n 2,.l 3]),
oN (.bslice false 3 (.agg [.int .i64 0,.int .i64 0,.nl]) 4 [(0,.l 0),(1,.l 1),(2,.l 2),(3,.l 4)]),
sL 1 5]
| 24,_=>[oN (.bin .eql (.v 3) (.c (.int .u8 11))),
sL 14 0]
| 25,_=>[oN (.cl true 3 (.v 17)),
oN (.cl true 3 (.v 18)),
oN (.bslice false 1 (.int .i64 0) 2 [(0,.n 2),(1,.n 3)]),
oN (.call 21 [.n 3,.n 2,.l 2]),
oN (.call 21 [.n 4,.n 3,.c (.isl [])]),
oN (.bslice false 3 (.agg [.int .i64 0,.int .i64 0,.nl]) 4 [(0,.l 0),(1,.l 1),(2,.l 3),(3,.l 4)]),
sL 1 5]
| 26,_=>[oN (.bin .eql (.v 3) (.c (.int .u8 12))),
sL 15 0]
| 27,_=>[oN (.cl true 3 (.v 17)),
oN (.cl true 3 (.v 18)),
oN (.bslice false 1 (.int .i64 0) 2 [(0,.n 2),(1,.n 4)]),
oN (.call 21 [.n 3,.n 2,.l 2]),
oN (.bslice false 1 (.int .i64 0) 2 [(0,.n 2),(1,.n 6)]),
oN (.call 21 [.n 4,.n 2,.l 4]),
oN (.bslice false 3 (.agg [.int .i64 0,.int .i64 0,.nl]) 4 [(0,.l 0),(1,.l 1),(2,.l 3),(3,.l 5)]),
sL 1 6]
| 28,_=>[oN (.bin .eql (.v 3) (.c (.int .u8 13))),
sL 16 0]
| 29,_=>[oN (.cl true 3 (.v 17)),
oN (.cl true 3 (.v 18)),
oN (.call 21 [.n 3,.n 0,.c (.isl [])]),
oN (.call 21 [.n 5,.n 1,.c (.isl [])]),
oN (.bslice false 1 (.int .i64 0) 2 [(0,.n 5),(1,.n 2)]),
oN (.call 21 [.n 6,.n 2,.l 4]),
oN (.bslice false 3 (.agg [.int .i64 0,.int .i64 0,.nl]) 5 [(0,.l 0),(1,.l 1),(2,.l 2),(3,.l 3),(4,.l 5)]),
sL 1 6]
| 30,_=>[oS 1 (.move (.c (.isl [])))]
| _,_=>[]
def a27:AFun:=.mk .iso 1 19 [.v 1] (.seq (.region (a27R 0) false) (.seq (.region (a27R 1) false) (.seq (.region (a27R 2) true) (.seq (.seq (.region (a27R 3) false) (.block 0 (.seq (.region (a27R 4) false) (.cond (.v 4) (.seq (.region (a27R 5) false) (.ret)) (.seq (.region (a27R 6) false) (.cond (.v 5) (.seq (.region (a27R 7) true) (.ret)) (.seq (.region (a27R 8) false) (.cond (.v 6) (.seq (.region (a27R 9) true) (.ret)) (.seq (.region (a27R 10) false) (.cond (.v 7) (.seq (.region (a27R 11) false) (.ret)) (.seq (.region (a27R 12) false) (.cond (.v 8) (.seq (.region (a27R 13) false) (.ret)) (.seq (.region (a27R 14) false) (.cond (.v 9) (.seq (.region (a27R 15) false) (.ret)) (.seq (.region (a27R 16) false) (.cond (.v 10) (.seq (.region (a27R 17) true) (.ret)) (.seq (.region (a27R 18) false) (.cond (.v 11) (.seq (.region (a27R 19) true) (.ret)) (.seq (.region (a27R 20) false) (.cond (.v 12) (.seq (.region (a27R 21) true) (.ret)) (.seq (.region (a27R 22) false) (.cond (.v 13) (.seq (.region (a27R 23) true) (.ret)) (.seq (.region (a27R 24) false) (.cond (.v 14) (.seq (.region (a27R 25) true) (.ret)) (.seq (.region (a27R 26) false) (.cond (.v 15) (.seq (.region (a27R 27) true) (.ret)) (.seq (.region (a27R 28) false) (.cond (.v 16) (.seq (.region (a27R 29) true) (.ret)) (.skip))))))))))))))))))))))))))))) (.seq (.region (a27R 30) false) (.ret))))))
def a234R:Nat → Unit → List AOper
| 0,_=>[oS 1 (.move (.c (.isl [])))]
| 1,_=>[oN (.bslice false 1 (.int .i64 0) 2 [(0,.n 1),(1,.n 1)]),
oN (.call 21 [.n 0,.n 0,.l 0]),
oN (.field 2 2 false 1 (.l 1)),
oN (.build [.int .i64 0,.nl] [(0,.n 1),(1,.l 2)]),
mV 0,
oN (.bslice false 1 (.int .i64 0) 2 [(0,.n 2),(1,.l 4)]),
oN (.call 21 [.n 0,.n 0,.l 5]),
oN (.field 2 2 false 1 (.l 6)),
oN (.build [.int .i64 0,.nl] [(0,.n 2),(1,.l 7)]),
oN (.bslice true 2 (.agg [.int .i64 0,.nl]) 2 [(0,.l 3),(1,.l 8)]),
sL 1 9]
| _,_=>[]
def a234:AFun:=.mk .iso 1 2 [.v 1] (.seq (.region (a234R 0) false) (.seq (.region (a234R 1) false) (.ret)))
def a279:AFun:=.mk .keep a234.params a234.slots a234.results a234.body
def a21R:Nat → Unit → List AOper
| 0,_=>[oS 6 (.cn (.agg [.int .i64 0,.int .i64 0,.nl]))]
| 1,_=>[oN (.bslice false 3 (.agg [.int .i64 0,zI]) 0 []),
sL 3 0]
| 2,_=>[oS 4 (.move (.n 0))]
| 3,_=>[mV 4,
oN (.bin .add (.l 0) (.n 1)),
mV 2,
oN (.len 0 (.l 2)),
oS 5 (.bin .lss (.l 1) (.l 3))]
| 4,_=>[mV 4,
oN (.bin .add (.l 0) (.n 2)),
sL 4 1]
| 5,_=>[mV 3,
mV 2,
mV 4,
oN (.indexAddr 1 (.l 1) (.l 2)),
oN (.load false 1 (.l 3)),
mV 2,
mV 4,
oN (.bin .add (.l 6) (.n 1)),
oN (.indexAddr 1 (.l 5) (.l 7)),
oN (.load false 1 (.l 8)),
oN (.call 14 [.l 9]),
oN (.build [.int .i64 0,zI] [(0,.l 4),(1,.l 10)]),
oN (.call 29 [.l 0,.l 11]),
sL 3 12]
| 6,_=>[mV 0,
mV 1,
mV 3,
oN (.build [.int .i64 0,.int .i64 0,.nl] [(0,.l 0),(1,.l 1),(2,.l 2)]),
oS 6 (.cs 3 (.v 6) (.l 3))]
| _,_=>[]
def a21b0:AIR:=.seq (.seq (.region (a21R 3) false) (.cond (.v 5) (.skip) (.exit 0))) (.seq (.block 1 (.region (a21R 5) true)) (.region (a21R 4) false))
def a21l0:AIR:=.loop true [0,1,2,3,4,6] a21b0
def a21:AFun:=.mk .iso 3 7 [.c 6 true 3] (.seq (.region (a21R 0) false) (.seq (.region (a21R 1) false) (.seq (.seq (.region (a21R 2) false) (.block 0 (a21l0))) (.seq (.region (a21R 6) false) (.ret)))))
def a235R:Nat → Unit → List AOper
| 0,_=>[oS 7 (.cn (.agg [.int .i64 0,.int .i64 0,.nl]))]
| 1,_=>[mV 0,
mV 1,
oN (.call 61 [.l 0,.l 1]),
oS 8 (.cn (.agg [.int .i64 0,.int .i64 0,.nl])),
oS 8 (.cs 3 (.l 3) (.l 2))]
| 2,_=>[oS 3 (.move (.n 0))]
| 3,_=>[mV 3,
mV 0,
oS 5 (.bin .lss (.l 0) (.l 1))]
| 4,_=>[mV 3,
oN (.bin .add (.l 0) (.n 1)),
sL 3 1]
| 5,_=>[oS 4 (.move (.n 0))]
| 6,_=>[mV 4,
mV 1,
oN (.bin .lss (.l 0) (.l 1)),
mL 2,
oT 3 (.move (.v 3)),
oT 3 (.move (.v 1)),
oT 3 (.bin .mul (.l 4) (.l 5)),
oT 3 (.move (.v 4)),
oT 3 (.bin .add (.l 6) (.l 7)),
oT 3 (.move (.v 2)),
oT 3 (.len 0 (.l 9)),
oT 3 (.bin .lss (.l 8) (.l 10)),
oS 6 (.pick (.l 3) (.l 11) (.c (.bool false)))]
| 7,_=>[mV 4,
oN (.bin .add (.l 0) (.n 1)),
sL 4 1]
| 8,_=>[oN (.ca (.v 8)),
oN (.field 2 2 false 1 (.v 8)),
mV 3,
oN (.indexAddr 1 (.l 1) (.l 2)),
oN (.load false 1 (.l 3)),
mV 4,
mV 2,
mV 3,
mV 1,
oN (.bin .mul (.l 7) (.l 8)),
mV 4,
oN (.bin .add (.l 9) (.l 10)),
oN (.indexAddr 1 (.l 6) (.l 11)),
oN (.load false 1 (.l 12)),
oN (.call 14 [.l 13]),
oN (.indexAddr 2 (.l 4) (.l 5)),
oN (.store 2 (.l 15) (.l 14))]
| 9,_=>[oN (.cl true 3 (.v 8)),
oS 7 (.cs 3 (.v 7) (.l 0))]
| _,_=>[]
def a235b1:AIR:=.seq (.seq (.region (a235R 6) false) (.cond (.v 6) (.skip) (.exit 2))) (.seq (.block 3 (.region (a235R 8) true)) (.region (a235R 7) false))
def a235l1:AIR:=.loop true [0,1,2,3,4,5,7,8] a235b1
def a235b0:AIR:=.seq (.seq (.region (a235R 3) false) (.cond (.v 5) (.skip) (.exit 0))) (.seq (.block 1 (.seq (.region (a235R 5) false) (.block 2 (a235l1)))) (.region (a235R 4) false))
def a235l0:AIR:=.loop true [0,1,2,3,7,8] a235b0
def a235:AFun:=.mk .iso 3 9 [.c 7 true 3] (.seq (.region (a235R 0) false) (.seq (.region (a235R 1) false) (.seq (.seq (.region (a235R 2) false) (.block 0 (a235l0))) (.seq (.region (a235R 9) false) (.ret)))))
def a1R:Nat → Unit → List AOper
| 0,_=>[oS 5 (.cb (.v 0)),
oS 1 (.move (.c (.isl [])))]
| 1,_=>[oN (.ca (.v 5)),
oN (.field 0 0 false 1 (.v 5)),
oN (.call 27 [.l 1]),
sL 2 2]
| 2,_=>[oS 3 (.move (.n 0))]
| 3,_=>[mV 3,
oN (.ca (.v 5)),
oN (.field 1 1 false 1 (.v 5)),
oN (.len 0 (.l 2)),
oN (.bin .lss (.l 0) (.l 3)),
mL 4,
oT 5 (.move (.v 3)),
oT 5 (.bin .lss (.l 6) (.n 4)),
oS 4 (.pick (.l 5) (.l 7) (.c (.bool false)))]
| 4,_=>[mV 3,
oN (.bin .add (.l 0) (.n 1)),
sL 3 1]
| 5,_=>[mV 2,
oN (.ca (.v 5)),
oN (.field 1 1 false 1 (.v 5)),
mV 3,
oN (.indexAddr 4 (.l 2) (.l 3)),
oN (.load true 4 (.l 4)),
oN (.call 28 [.l 0,.l 5]),
sL 2 6]
| 6,_=>[mV 2,
sL 1 0]
| _,_=>[]
def a1b0:AIR:=.seq (.seq (.region (a1R 3) false) (.cond (.v 4) (.skip) (.exit 0))) (.seq (.block 1 (.region (a1R 5) false)) (.region (a1R 4) false))
def a1l0:AIR:=.loop true [0,1,2,3,5] a1b0
theorem a1l0_run:Lr a1l0 (value_of% a1l0):=fun _=>run_loop _ _ _ _
def a1:AFun:=.mk .iso 1 6 [.v 1] (.seq (.region (a1R 0) false) (.seq (.region (a1R 1) false) (.seq (.seq (.region (a1R 2) false) (.block 0 (a1l0))) (.seq (.region (a1R 6) false) (.ret)))))
def a237R:Nat → Unit → List AOper
| 0,_=>[oS 3 (.move (.c (.bool false)))]
| 1,_=>[mV 0,
oN (.len 0 (.l 0)),
mV 1,
oN (.len 0 (.l 2)),
oS 5 (.bin .neq (.l 1) (.l 3))]
| 2,_=>[oS 3 (.move (.c (.bool false)))]
| 3,_=>[oS 6 (.move (.v 0)),
oS 7 (.len 0 (.l 0)),
oS 8 (.move (.n 0))]
| 4,_=>[oS 9 (.bin .lss (.v 8) (.v 7))]
| 5,_=>[mV 8,
oN (.indexAddr 3 (.v 6) (.v 8)),
oN (.load true 3 (.l 1)),
oS 11 (.cn (.agg [.int .i64 0,.int .i64 0,.nl])),
sL 4 0,
oS 11 (.cs 3 (.l 3) (.l 2))]
| 6,_=>[mV 1,
mV 4,
oN (.indexAddr 2 (.l 0) (.l 1)),
oN (.load true 2 (.l 2)),
oS 12 (.cn (.agg [.int .i64 0,.nl])),
oS 12 (.cs 2 (.l 4) (.l 3))]
| 7,_=>[mV 2,
oN (.cl true 3 (.v 11)),
oN (.cl true 2 (.v 12)),
oN (.callv (.l 0) [.l 1,.l 2]),
oS 10 (.un .not (.l 3))]
| 8,_=>[oS 3 (.move (.c (.bool false)))]
| 9,_=>[oN (.bin .add (.v 8) (.n 1)),
sL 8 0]
| 10,_=>[oS 3 (.move (.c (.bool true)))]
| _,_=>[]
def a237b0:AIR:=.seq (.region (a237R 4) false) (.seq (.cond (.v 9) (.skip) (.exit 0)) (.seq (.block 1 (.seq (.region (a237R 5) false) (.seq (.region (a237R 6) false) (.seq (.region (a237R 7) false) (.cond (.v 10) (.seq (.region (a237R 8) false) (.ret)) (.skip)))))) (.region (a237R 9) false)))
def a237l0:AIR:=.loop true [0,1,2,3,5,6,7,8] a237b0
theorem a237l0_run:Lr a237l0 (value_of% a237l0):=fun _=>run_loop _ _ _ _
def a237:AFun:=.mk .iso 3 13 [.v 3] (.seq (.region (a237R 0) false) (.seq (.seq (.region (a237R 1) false) (.cond (.v 5) (.seq (.region (a237R 2) false) (.ret)) (.skip))) (.seq (.seq (.region (a237R 3) false) (.block 0 (a237l0))) (.seq (.region (a237R 10) false) (.ret)))))
def a236R:Nat → Unit → List AOper
| 0,_=>[oS 3 (.cb (.v 0)),
oS 4 (.cb (.v 1)),
oS 2 (.move (.c (.bool false)))]
| 1,_=>[oN (.ca (.v 3)),
oN (.field 0 0 false 1 (.v 3)),
oN (.ca (.v 4)),
oN (.field 0 0 false 1 (.v 4)),
oN (.bin .eql (.l 1) (.l 3)),
mL 4,
oT 5 (.ca (.v 4)),
oT 5 (.field 1 1 false 1 (.v 4)),
oT 5 (.call 26 [.l 7]),
oN (.pick (.l 5) (.l 8) (.c (.bool false))),
sL 2 9]
| _,_=>[]
def a236:AFun:=.mk .iso 2 5 [.v 2] (.seq (.region (a236R 0) false) (.seq (.region (a236R 1) false) (.ret)))
def a26R:Nat → Unit → List AOper
| 0,_=>[oS 1 (.move (.c (.bool false)))]
| 1,_=>[oS 3 (.move (.v 0)),
oS 4 (.len 0 (.l 0)),
oS 5 (.move (.n 0))]
| 2,_=>[oS 6 (.bin .lss (.v 5) (.v 4))]
| 3,_=>[mV 5,
oN (.indexAddr 3 (.v 3) (.v 5)),
oN (.load true 3 (.l 1)),
oS 8 (.cn (.agg [.int .i64 0,zI])),
sL 2 0,
oS 8 (.cs 3 (.l 3) (.l 2))]
| 4,_=>[oN (.ca (.v 8)),
oN (.field 1 1 true 2 (.v 8)),
oN (.call 47 [.l 1]),
oN (.un .not (.l 2)),
mL 3,
oF 4 (.ca (.v 8)),
oF 4 (.field 1 1 true 2 (.v 8)),
oF 4 (.call 48 [.l 6]),
oF 4 (.bin .eql (.l 7) (.n 0)),
oN (.pick (.l 4) (.c (.bool true)) (.l 8)),
mL 9,
oF 10 (.move (.v 2)),
oF 10 (.bin .gtr (.l 11) (.n 0)),
oF 10 (.move (.l 12)),
oT 13 (.move (.v 0)),
oT 13 (.move (.v 2)),
oT 13 (.bin .sub (.l 15) (.n 1)),
oT 13 (.indexAddr 3 (.l 14) (.l 16)),
oT 13 (.fieldAddr 0 0 (.l 17)),
oT 13 (.load false 1 (.l 18)),
oT 13 (.ca (.v 8)),
oT 13 (.field 0 0 false 1 (.v 8)),
oT 13 (.bin .geq (.l 19) (.l 21)),
oF 10 (.pick (.l 13) (.l 22) (.c (.bool false))),
oS 7 (.pick (.l 10) (.c (.bool true)) (.l 23))]
| 5,_=>[oS 1 (.move (.c (.bool false)))]
| 6,_=>[oN (.bin .add (.v 5) (.n 1)),
sL 5 0]
| 7,_=>[oS 1 (.move (.c (.bool true)))]
| _,_=>[]
def a26b0:AIR:=.seq (.region (a26R 2) false) (.seq (.cond (.v 6) (.skip) (.exit 0)) (.seq (.block 1 (.seq (.region (a26R 3) false) (.seq (.region (a26R 4) true) (.cond (.v 7) (.seq (.region (a26R 5) false) (.ret)) (.skip))))) (.region (a26R 6) false)))
def a26l0:AIR:=.loop true [0,1,3,4,5] a26b0
theorem a26l0_run:Lr a26l0 (value_of% a26l0):=fun _=>run_loop _ _ _ _
def a26:AFun:=.mk .iso 1 9 [.v 1] (.seq (.region (a26R 0) false) (.seq (.seq (.region (a26R 1) false) (.block 0 (a26l0))) (.seq (.region (a26R 7) false) (.ret))))
def a4R:Nat → Unit → List AOper
| 0,_=>[oS 2 (.move (.n 0)),
oS 3 (.move (.n 0))]
| 1,_=>[mV 0,
mV 1,
oN (.call 30 [.l 0,.l 1]),
mL 2,
oN (.extract 0 (.l 3)),
oN (.extract 1 (.l 3)),
oN (.extract 2 (.l 3)),
mL 4,
sL 4 5,
sL 5 6]
| 2,_=>[mV 4,
mV 5,
sL 2 0,
sL 3 1]
| _,_=>[]
def a4:AFun:=.mk .iso 2 6 [.v 2,.v 3] (.seq (.region (a4R 0) false) (.seq (.region (a4R 1) false) (.seq (.region (a4R 2) false) (.ret))))
def a6R:Nat → Unit → List AOper
| 0,_=>[oS 2 (.move (.c (.isl []))),
oS 3 (.move (.n 0))]
| 1,_=>[mV 0,
mV 1,
oN (.call 30 [.l 0,.l 1]),
mL 2,
oN (.extract 0 (.l 3)),
oN (.extract 1 (.l 3)),
oN (.extract 2 (.l 3)),
sL 4 4,
mL 5,
sL 5 6]
| 2,_=>[mV 5,
oS 8 (.bin .neq (.l 0) (.n 0))]
| 3,_=>[mV 5,
oS 2 (.move (.c (.isl []))),
sL 3 0]
| 4,_=>[oN (.mkmap),
sL 6 0]
| 5,_=>[oS 9 (.move (.v 4)),
oS 10 (.len 0 (.l 0)),
oS 11 (.move (.n 0))]
| 6,_=>[oS 12 (.bin .lss (.v 11) (.v 10))]
| 7,_=>[mV 11,
oN (.indexAddr 3 (.v 9) (.v 11)),
oN (.load true 3 (.l 1)),
oS 17 (.cn (.agg [.int .i64 0,.int .i64 0,.nl])),
sL 7 0,
oS 17 (.cs 3 (.l 3) (.l 2))]
| 8,_=>[oN (.ca (.v 17)),
oS 13 (.field 2 2 false 1 (.v 17)),
oS 14 (.len 0 (.l 1)),
oS 15 (.move (.n 0))]
| 9,_=>[oS 16 (.bin .lss (.v 15) (.v 14))]
| 10,_=>[oN (.indexAddr 3 (.v 13) (.v 15)),
oN (.load true 3 (.l 0)),
oS 18 (.cn (.agg [.int .i64 0,zI])),
oS 18 (.cs 3 (.l 2) (.l 1))]
| 11,_=>[mV 6,
oN (.ca (.v 18)),
oN (.field 0 0 false 1 (.v 18)),
mV 1,
mV 7,
oN (.indexAddr 3 (.l 3) (.l 4)),
oN (.fieldAddr 1 1 (.l 5)),
oN (.load true 2 (.l 6)),
oN (.ca (.v 18)),
oN (.field 1 1 true 2 (.v 18)),
oN (.call 32 [.l 7,.l 9]),
oN (.call 33 [.l 0,.l 2,.l 10])]
| 12,_=>[oN (.bin .add (.v 15) (.n 1)),
sL 15 0]
| 13,_=>[oN (.bin .add (.v 11) (.n 1)),
sL 11 0]
| 14,_=>[mV 6,
oN (.call 34 [.l 0]),
sL 2 1,
oS 3 (.move (.n 0))]
| _,_=>[]
def a6b1:AIR:=.seq (.region (a6R 9) false) (.seq (.cond (.v 16) (.skip) (.exit 2)) (.seq (.block 3 (.seq (.region (a6R 10) false) (.region (a6R 11) true))) (.region (a6R 12) false)))
def a6l1:AIR:=.loop true [0,1,2,3,4,5,6,7,8,9,10,11,12,13,14,15,17] a6b1
theorem a6l1_run:Lr a6l1 (value_of% a6l1):=fun _=>run_loop _ _ _ _
def a6b0:AIR:=.seq (.region (a6R 6) false) (.seq (.cond (.v 12) (.skip) (.exit 0)) (.seq (.block 1 (.seq (.region (a6R 7) false) (.seq (.region (a6R 8) false) (.block 2 (a6l1))))) (.region (a6R 13) false)))
def a6l0:AIR:=.loop true [0,1,2,3,4,5,6,8,9,10,11] a6b0
theorem a6l0_run:Lr a6l0 (value_of% a6l0):=fun _=>run_loop _ _ _ _
def a6:AFun:=.mk .iso 2 19 [.v 2,.v 3] (.seq (.region (a6R 0) false) (.seq (.region (a6R 1) false) (.seq (.seq (.region (a6R 2) false) (.cond (.v 8) (.seq (.region (a6R 3) false) (.ret)) (.skip))) (.seq (.region (a6R 4) false) (.seq (.seq (.region (a6R 5) false) (.block 0 (a6l0))) (.seq (.region (a6R 14) false) (.ret)))))))
def a238R:Nat → Unit → List AOper
| 0,_=>[oS 2 (.move (.c (.isl []))),
oS 3 (.move (.n 0))]
| 1,_=>[oS 4 (.nils 3)]
| 2,_=>[oS 7 (.move (.v 1)),
oS 8 (.len 0 (.l 0)),
oS 9 (.move (.n 0))]
| 3,_=>[oS 10 (.bin .lss (.v 9) (.v 8))]
| 4,_=>[oN (.indexAddr 3 (.v 7) (.v 9)),
oN (.load true 3 (.l 0)),
oS 16 (.cn (.agg [.int .i64 0,zI])),
oS 16 (.cs 3 (.l 2) (.l 1))]
| 5,_=>[mV 0,
oN (.ca (.v 16)),
oN (.field 0 0 false 1 (.v 16)),
oN (.call 241 [.l 0,.l 2]),
mL 3,
oN (.extract 0 (.l 4)),
oN (.extract 1 (.l 4)),
sL 5 5,
sL 6 6]
| 6,_=>[mV 6,
oS 11 (.un .not (.l 0))]
| 7,_=>[oS 2 (.move (.c (.isl []))),
oS 3 (.move (.n 290))]
| 8,_=>[oS 12 (.move (.v 5)),
oS 13 (.len 0 (.l 0)),
oS 14 (.move (.n 0))]
| 9,_=>[oS 15 (.bin .lss (.v 14) (.v 13))]
| 10,_=>[oN (.indexAddr 3 (.v 12) (.v 14)),
oN (.load true 3 (.l 0)),
oS 17 (.cn (.agg [.int .i64 0,zI])),
oS 17 (.cs 3 (.l 2) (.l 1))]
| 11,_=>[mV 4,
oN (.ca (.v 17)),
oN (.field 0 0 false 1 (.v 17)),
oN (.ca (.v 16)),
oN (.field 1 1 true 2 (.v 16)),
oN (.ca (.v 17)),
oN (.field 1 1 true 2 (.v 17)),
oN (.call 32 [.l 4,.l 6]),
oN (.build [.int .i64 0,zI] [(0,.l 2),(1,.l 7)]),
oN (.bslice false 3 (.agg [.int .i64 0,zI]) 1 [(0,.l 8)]),
oN (.append 3 40 (.l 0) (.l 9)),
sL 4 10]
| 12,_=>[oN (.bin .add (.v 14) (.n 1)),
sL 14 0]
| 13,_=>[oN (.bin .add (.v 9) (.n 1)),
sL 9 0]
| 14,_=>[mV 4,
oN (.call 128 [.l 0]),
sL 2 1,
oS 3 (.move (.n 0))]
| _,_=>[]
def a238b1:AIR:=.seq (.region (a238R 9) false) (.seq (.cond (.v 15) (.skip) (.exit 2)) (.seq (.block 3 (.seq (.region (a238R 10) false) (.region (a238R 11) true))) (.region (a238R 12) false)))
def a238l1:AIR:=.loop false [0,1,2,3,4,5,6,7,8,9,10,11,12,13,14,16] a238b1
theorem a238l1_run:Lr a238l1 (value_of% a238l1):=fun _=>run_loop _ _ _ _
def a238b0:AIR:=.seq (.region (a238R 3) false) (.seq (.cond (.v 10) (.skip) (.exit 0)) (.seq (.block 1 (.seq (.region (a238R 4) false) (.seq (.region (a238R 5) false) (.seq (.seq (.region (a238R 6) false) (.cond (.v 11) (.seq (.region (a238R 7) false) (.ret)) (.skip))) (.seq (.region (a238R 8) false) (.block 2 (a238l1))))))) (.region (a238R 13) false)))
def a238l0:AIR:=.loop false [0,1,2,3,4,7,8,9] a238b0
theorem a238l0_run:Lr a238l0 (value_of% a238l0):=fun _=>run_loop _ _ _ _
def a238:AFun:=.mk .keep 2 18 [.v 2,.v 3] (.seq (.region (a238R 0) false) (.seq (.region (a238R 1) false) (.seq (.seq (.region (a238R 2) false) (.block 0 (a238l0))) (.seq (.region (a238R 14) false) (.ret)))))
def a239R:Nat → Unit → List AOper
| 0,_=>[oS 2 (.move (.c (.bool false)))]
| 1,_=>[mV 0,
mV 1,
oN (.call 249 [.l 0,.l 1,.f 248]),
sL 2 2]
| _,_=>[]
def a239:AFun:=.mk .iso 2 3 [.v 2] (.seq (.region (a239R 0) false) (.seq (.region (a239R 1) false) (.ret)))
def a160R:Nat → Unit → List AOper
| 0,_=>[oS 3 (.cn zI)]
| 1,_=>[mV 0,
oN (.conv .u64 (.l 0)),
sL 1 1]
| 2,_=>[mV 0,
oS 2 (.bin .lss (.l 0) (.n 0))]
| 3,_=>[mV 1,
oN (.un .neg (.l 0)),
sL 1 1]
| 4,_=>[mV 1,
oN (.conv .u32 (.l 0)),
mV 1,
oN (.bin .shr (.l 2) (.c (.int .u64 32))),
oN (.conv .u32 (.l 3)),
oN (.bslice false 1 (.int .u32 0) 2 [(0,.l 1),(1,.l 4)]),
mV 0,
oN (.bin .lss (.l 6) (.n 0)),
oN (.call 54 [.l 5,.l 7]),
oS 3 (.cs 2 (.v 3) (.l 8))]
| _,_=>[]
def a160:AFun:=.mk .iso 1 4 [.c 3 true 2] (.seq (.region (a160R 0) false) (.seq (.region (a160R 1) false) (.seq (.seq (.region (a160R 2) false) (.cond (.v 2) (.region (a160R 3) false) (.skip))) (.seq (.region (a160R 4) false) (.ret)))))
def a35R:Nat → Unit → List AOper
| 0,_=>[oS 2 (.move (.c (.isl [])))]
| 1,_=>[oS 3 (.nils 1)]
| 2,_=>[oS 4 (.move (.v 0)),
oS 5 (.len 0 (.l 0)),
oS 6 (.move (.n 0))]
| 3,_=>[oS 7 (.bin .lss (.v 6) (.v 5))]
| 4,_=>[oN (.indexAddr 3 (.v 4) (.v 6)),
oN (.load true 3 (.l 0)),
oS 9 (.cn (.agg [.int .i64 0,.int .i64 0,.nl])),
oS 9 (.cs 3 (.l 2) (.l 1))]
| 5,_=>[oN (.ca (.v 9)),
oN (.field 1 1 false 1 (.v 9)),
mV 1,
oS 8 (.bin .eql (.l 1) (.l 2))]
| 6,_=>[mV 3,
oN (.ca (.v 9)),
oN (.field 0 0 false 1 (.v 9)),
oN (.bslice false 1 (.int .i64 0) 1 [(0,.l 2)]),
oN (.append 1 8 (.l 0) (.l 3)),
sL 3 4]
| 7,_=>[oN (.bin .add (.v 6) (.n 1)),
sL 6 0]
| 8,_=>[mV 3,
sL 2 0]
| _,_=>[]
def a35b0:AIR:=.seq (.region (a35R 3) false) (.seq (.cond (.v 7) (.skip) (.exit 0)) (.seq (.block 1 (.seq (.region (a35R 4) false) (.seq (.region (a35R 5) false) (.cond (.v 8) (.region (a35R 6) false) (.skip))))) (.region (a35R 7) false)))
def a35l0:AIR:=.loop true [0,1,2,3,4,5,6] a35b0
theorem a35l0_run:Lr a35l0 (value_of% a35l0):=fun _=>run_loop _ _ _ _
def a35:AFun:=.mk .iso 2 10 [.v 2] (.seq (.region (a35R 0) false) (.seq (.region (a35R 1) false) (.seq (.seq (.region (a35R 2) false) (.block 0 (a35l0))) (.seq (.region (a35R 8) false) (.ret)))))
def a240R:Nat → Unit → List AOper
| 0,_=>[oS 2 (.cn (.agg [.int .i64 0,.int .i64 0,.nl]))]
| 1,_=>[mV 0,
mV 1,
oN (.call 281 [.l 0,.l 1,.f 250]),
oS 2 (.cs 3 (.v 2) (.l 2))]
| _,_=>[]
def a240:AFun:=.mk .iso 2 3 [.c 2 true 3] (.seq (.region (a240R 0) false) (.seq (.region (a240R 1) false) (.ret)))
def a280:AFun:=.mk .keep a240.params a240.slots a240.results a240.body
def a241R:Nat → Unit → List AOper
| 0,_=>[oS 2 (.box false (.v 0)),
oS 3 (.move (.c (.isl []))),
oS 4 (.move (.c (.bool false)))]
| 1,_=>[oN (.load false 1 (.v 2)),
oN (.nilCheck (.l 0)),
oN (.fieldAddr 1 1 (.l 1)),
oN (.mkfn 252 [.v 2]),
oN (.call 253 [.l 2,.l 3])]
| 2,_=>[oN (.load false 1 (.v 2)),
oN (.nilCheck (.l 0)),
oN (.fieldAddr 2 4 (.l 1)),
oN (.load false 1 (.l 2)),
mV 1,
oN (.lookup (.nl) true (.l 3) (.l 4)),
mL 5,
oN (.extract 0 (.l 6)),
oN (.extract 1 (.l 6)),
sL 5 7,
sL 6 8]
| 3,_=>[mV 5,
mV 6,
sL 3 0,
sL 4 1]
| _,_=>[]
def a241:AFun:=.mk .keep 2 7 [.v 3,.v 4] (.seq (.region (a241R 0) false) (.seq (.region (a241R 1) false) (.seq (.region (a241R 2) false) (.seq (.region (a241R 3) false) (.ret)))))
def a8R:Nat → Unit → List AOper
| 0,_=>[oS 3 (.move (.c (.isl []))),
oS 4 (.move (.n 0))]
| 1,_=>[mV 0,
mV 2,
oN (.call 30 [.l 0,.l 1]),
mL 2,
oN (.extract 0 (.l 3)),
oN (.extract 1 (.l 3)),
oN (.extract 2 (.l 3)),
mL 4,
sL 5 5,
sL 6 6]
| 2,_=>[mV 6,
oN (.bin .neq (.l 0) (.n 0)),
sL 10 1]
| 3,_=>[mV 6,
oS 3 (.move (.c (.isl []))),
sL 4 0]
| 4,_=>[mV 2,
oN (.len 0 (.l 0)),
oN (.bin .gtr (.l 1) (.n 0)),
mL 2,
oT 3 (.move (.v 5)),
oT 3 (.move (.v 1)),
oT 3 (.bin .neq (.l 4) (.l 5)),
oN (.pick (.l 3) (.l 6) (.c (.bool false))),
sL 11 7]
| 5,_=>[oS 3 (.move (.c (.isl []))),
oS 4 (.move (.n 260))]
| 6,_=>[oN (.mkmap),
sL 7 0]
| 7,_=>[oS 12 (.move (.v 2)),
oS 13 (.len 0 (.l 0)),
oS 14 (.move (.n 0))]
| 8,_=>[oS 15 (.bin .lss (.v 14) (.v 13))]
| 9,_=>[oN (.indexAddr 3 (.v 12) (.v 14)),
oN (.load true 3 (.l 0)),
oS 20 (.cn (.agg [.int .i64 0,zI])),
oS 20 (.cs 3 (.l 2) (.l 1))]
| 10,_=>[mV 7,
oN (.ca (.v 20)),
oN (.field 0 0 false 1 (.v 20)),
oN (.ca (.v 20)),
oN (.field 1 1 true 2 (.v 20)),
oN (.mupd (.l 0) (.l 2) (.l 4))]
| 11,_=>[oN (.bin .add (.v 14) (.n 1)),
sL 14 0]
| 12,_=>[oS 8 (.nils 2)]
| 13,_=>[mV 0,
mV 1,
oS 16 (.call 35 [.l 0,.l 1]),
oS 17 (.len 0 (.l 2)),
oS 18 (.move (.n 0))]
| 14,_=>[oS 19 (.bin .lss (.v 18) (.v 17))]
| 15,_=>[oN (.indexAddr 1 (.v 16) (.v 18)),
oN (.load false 1 (.l 0)),
sL 9 1]
| 16,_=>[mV 8,
mV 7,
mV 9,
oN (.lookup zI false (.l 1) (.l 2)),
oN (.bslice false 2 zI 1 [(0,.l 3)]),
oN (.append 2 32 (.l 0) (.l 4)),
sL 8 5]
| 17,_=>[oN (.bin .add (.v 18) (.n 1)),
sL 18 0]
| 18,_=>[mV 8,
sL 3 0,
oS 4 (.move (.n 0))]
| _,_=>[]
def a8b0:AIR:=.seq (.region (a8R 8) false) (.seq (.cond (.v 15) (.skip) (.exit 1)) (.seq (.block 2 (.seq (.region (a8R 9) false) (.region (a8R 10) false))) (.region (a8R 11) false)))
def a8l0:AIR:=.loop true [0,1,2,3,4,5,6,7,8,9,10,11,12,13,14,16,17,18,19] a8b0
theorem a8l0_run:Lr a8l0 (value_of% a8l0):=fun _=>run_loop _ _ _ _
def a8b1:AIR:=.seq (.region (a8R 14) false) (.seq (.cond (.v 19) (.skip) (.exit 3)) (.seq (.block 4 (.seq (.region (a8R 15) false) (.region (a8R 16) false))) (.region (a8R 17) false)))
def a8l1:AIR:=.loop true [0,1,2,3,4,5,6,7,8,10,11,12,13,14,15,16,17,18,20] a8b1
theorem a8l1_run:Lr a8l1 (value_of% a8l1):=fun _=>run_loop _ _ _ _
def a8:AFun:=.mk .iso 3 21 [.v 3,.v 4] (.seq (.region (a8R 0) false) (.seq (.region (a8R 1) false) (.seq (.block 0 (.seq (.region (a8R 2) false) (.cond (.v 10) (.seq (.region (a8R 3) false) (.ret)) (.seq (.region (a8R 4) false) (.cond (.v 11) (.seq (.region (a8R 5) false) (.ret)) (.skip)))))) (.seq (.region (a8R 6) false) (.seq (.seq (.region (a8R 7) false) (.block 1 (a8l0))) (.seq (.region (a8R 12) false) (.seq (.seq (.region (a8R 13) false) (.block 3 (a8l1))) (.seq (.region (a8R 18) false) (.ret)))))))))
def a61R:Nat → Unit → List AOper
| 0,_=>[oS 5 (.cn (.agg [.int .i64 0,.int .i64 0,.nl]))]
| 1,_=>[oN (.bslice true 1 (.nl) 0 []),
sL 2 0]
| 2,_=>[oS 3 (.move (.n 0))]
| 3,_=>[mV 3,
mV 0,
oS 4 (.bin .lss (.l 0) (.l 1))]
| 4,_=>[mV 3,
oN (.bin .add (.l 0) (.n 1)),
sL 3 1]
| 5,_=>[mV 2,
mV 1,
oN (.mkslice 2 32 zI (.l 1) (.l 1)),
oN (.bslice true 1 (.nl) 1 [(0,.l 2)]),
oN (.append 1 24 (.l 0) (.l 3)),
sL 2 4]
| 6,_=>[mV 0,
mV 1,
mV 2,
oN (.build [.int .i64 0,.int .i64 0,.nl] [(0,.l 0),(1,.l 1),(2,.l 2)]),
oS 5 (.cs 3 (.v 5) (.l 3))]
| _,_=>[]
def a61b0:AIR:=.seq (.seq (.region (a61R 3) false) (.cond (.v 4) (.skip) (.exit 0))) (.seq (.block 1 (.region (a61R 5) false)) (.region (a61R 4) false))
def a61l0:AIR:=.loop false [0,1,2,3,5] a61b0
theorem a61l0_run:Lr a61l0 (value_of% a61l0):=fun _=>run_loop _ _ _ _
def a61:AFun:=.mk .keep 2 6 [.c 5 true 3] (.seq (.region (a61R 0) false) (.seq (.region (a61R 1) false) (.seq (.seq (.region (a61R 2) false) (.block 0 (a61l0))) (.seq (.region (a61R 6) false) (.ret)))))
def a242R:Nat → Unit → List AOper
| 0,_=>[oS 2 (.move (.c (.isl []))),
oS 3 (.move (.c (.bool false)))]
| 1,_=>[oS 4 (.move (.n 0))]
| 2,_=>[mV 4,
mV 0,
oN (.len 0 (.l 1)),
oS 5 (.bin .lss (.l 0) (.l 2))]
| 3,_=>[mV 4,
oN (.bin .add (.l 0) (.n 1)),
sL 4 1]
| 4,_=>[mV 0,
mV 4,
oN (.indexAddr 2 (.l 0) (.l 1)),
oN (.fieldAddr 0 0 (.l 2)),
oN (.load false 1 (.l 3)),
mV 1,
oS 6 (.bin .eql (.l 4) (.l 5))]
| 5,_=>[mV 0,
mV 4,
oN (.indexAddr 2 (.l 0) (.l 1)),
oN (.fieldAddr 1 1 (.l 2)),
oN (.load false 1 (.l 3)),
sL 2 4,
oS 3 (.move (.c (.bool true)))]
| 6,_=>[oS 2 (.move (.c (.isl []))),
oS 3 (.move (.c (.bool false)))]
| _,_=>[]
def a242b0:AIR:=.seq (.seq (.region (a242R 2) false) (.cond (.v 5) (.skip) (.exit 0))) (.seq (.block 1 (.seq (.region (a242R 4) false) (.cond (.v 6) (.seq (.region (a242R 5) false) (.ret)) (.skip)))) (.region (a242R 3) false))
def a242l0:AIR:=.loop true [0,1,2,3,4] a242b0
theorem a242l0_run:Lr a242l0 (value_of% a242l0):=fun _=>run_loop _ _ _ _
def a242:AFun:=.mk .iso 2 7 [.v 2,.v 3] (.seq (.region (a242R 0) false) (.seq (.seq (.region (a242R 1) false) (.block 0 (a242l0))) (.seq (.region (a242R 6) false) (.ret))))
def a40R:Nat → Unit → List AOper
| 0,_=>[oS 3 (.move (.c (.isl [])))]
| 1,_=>[mV 0,
mV 1,
mV 2,
oN (.call 58 [.l 0,.l 1,.l 2]),
mL 3,
oN (.extract 0 (.l 4)),
oN (.extract 1 (.l 4)),
sL 4 5,
mL 6]
| 2,_=>[mV 4,
sL 3 0]
| _,_=>[]
def a40:AFun:=.mk .iso 3 5 [.v 3] (.seq (.region (a40R 0) false) (.seq (.region (a40R 1) false) (.seq (.region (a40R 2) false) (.ret))))
def a13R:Nat → Unit → List AOper
| 0,_=>[oS 2 (.move (.c (.bool false)))]
| 1,_=>[mV 0,
oN (.len 0 (.l 0)),
mV 1,
oN (.len 0 (.l 2)),
oS 4 (.bin .neq (.l 1) (.l 3))]
| 2,_=>[oS 2 (.move (.c (.bool false)))]
| 3,_=>[oS 3 (.move (.n 0))]
| 4,_=>[mV 3,
mV 0,
oN (.len 0 (.l 1)),
oS 5 (.bin .lss (.l 0) (.l 2))]
| 5,_=>[mV 3,
oN (.bin .add (.l 0) (.n 1)),
sL 3 1]
| 6,_=>[mV 0,
mV 3,
oN (.indexAddr 2 (.l 0) (.l 1)),
oN (.load true 2 (.l 2)),
mV 1,
mV 3,
oN (.indexAddr 2 (.l 4) (.l 5)),
oN (.load true 2 (.l 6)),
oN (.call 37 [.l 3,.l 7]),
oS 6 (.un .not (.l 8))]
| 7,_=>[oS 2 (.move (.c (.bool false)))]
| 8,_=>[oS 2 (.move (.c (.bool true)))]
| _,_=>[]
def a13b0:AIR:=.seq (.seq (.region (a13R 4) false) (.cond (.v 5) (.skip) (.exit 0))) (.seq (.block 1 (.seq (.region (a13R 6) true) (.cond (.v 6) (.seq (.region (a13R 7) false) (.ret)) (.skip)))) (.region (a13R 5) false))
def a13l0:AIR:=.loop true [0,1,2,3,4] a13b0
def a13:AFun:=.mk .iso 2 7 [.v 2] (.seq (.region (a13R 0) false) (.seq (.seq (.region (a13R 1) false) (.cond (.v 4) (.seq (.region (a13R 2) false) (.ret)) (.skip))) (.seq (.seq (.region (a13R 3) false) (.block 0 (a13l0))) (.seq (.region (a13R 8) false) (.ret)))))
def a37R:Nat → Unit → List AOper
| 0,_=>[oS 3 (.cb (.v 0)),
oS 4 (.cb (.v 1)),
oS 2 (.move (.c (.bool false)))]
| 1,_=>[oN (.ca (.v 3)),
oN (.field 0 0 false 1 (.v 3)),
oN (.ca (.v 4)),
oN (.field 0 0 false 1 (.v 4)),
oN (.binb false (.l 1) (.l 3)),
mL 4,
oT 5 (.ca (.v 3)),
oT 5 (.field 1 1 false 1 (.v 3)),
oT 5 (.ca (.v 4)),
oT 5 (.field 1 1 false 1 (.v 4)),
oT 5 (.call 57 [.l 7,.l 9]),
oT 5 (.un .not (.l 10)),
oN (.pick (.l 5) (.l 11) (.c (.bool false))),
mL 12,
oT 13 (.ca (.v 4)),
oT 13 (.field 1 1 false 1 (.v 4)),
oT 13 (.ca (.v 3)),
oT 13 (.field 1 1 false 1 (.v 3)),
oT 13 (.call 57 [.l 15,.l 17]),
oT 13 (.un .not (.l 18)),
oN (.pick (.l 13) (.l 19) (.c (.bool false))),
sL 2 20]
| _,_=>[]
def a37:AFun:=.mk .iso 2 5 [.v 2] (.seq (.region (a37R 0) false) (.seq (.region (a37R 1) false) (.ret)))
def a243R:Nat → Unit → List AOper
| 0,_=>[oS 2 (.move (.c (.isl []))),
oS 3 (.move (.n 0))]
| 1,_=>[oN (.bslice false 3 (.agg [.int .i64 0,zI]) 0 []),
sL 4 0]
| 2,_=>[oS 5 (.move (.n 0))]
| 3,_=>[mV 5,
mV 1,
oN (.len 0 (.l 1)),
oS 8 (.bin .lss (.l 0) (.l 2))]
| 4,_=>[mV 5,
oN (.bin .add (.l 0) (.n 1)),
sL 5 1]
| 5,_=>[mV 0,
mV 1,
mV 5,
oN (.indexAddr 3 (.l 1) (.l 2)),
oN (.fieldAddr 0 0 (.l 3)),
oN (.load false 1 (.l 4)),
oN (.call 242 [.l 0,.l 5]),
mL 6,
oN (.extract 0 (.l 7)),
oN (.extract 1 (.l 7)),
sL 6 8,
sL 7 9]
| 6,_=>[mV 7,
oS 9 (.un .not (.l 0))]
| 7,_=>[oS 2 (.move (.c (.isl []))),
oS 3 (.move (.n 290))]
| 8,_=>[mV 4,
mV 6,
mV 1,
mV 5,
oN (.indexAddr 3 (.l 2) (.l 3)),
oN (.fieldAddr 1 1 (.l 4)),
oN (.load true 2 (.l 5)),
oN (.call 16 [.l 0,.l 1,.l 6]),
sL 4 7]
| 9,_=>[mV 4,
sL 2 0,
oS 3 (.move (.n 0))]
| _,_=>[]
def a243b0:AIR:=.seq (.seq (.region (a243R 3) false) (.cond (.v 8) (.skip) (.exit 0))) (.seq (.block 1 (.seq (.region (a243R 5) false) (.seq (.seq (.region (a243R 6) false) (.cond (.v 9) (.seq (.region (a243R 7) false) (.ret)) (.skip))) (.region (a243R 8) false)))) (.region (a243R 4) false))
def a243l0:AIR:=.loop true [0,1,2,3,4,5] a243b0
theorem a243l0_run:Lr a243l0 (value_of% a243l0):=fun _=>run_loop _ _ _ _
def a243:AFun:=.mk .iso 2 10 [.v 2,.v 3] (.seq (.region (a243R 0) false) (.seq (.region (a243R 1) false) (.seq (.seq (.region (a243R 2) false) (.block 0 (a243l0))) (.seq (.region (a243R 9) false) (.ret)))))
def a2R:Nat → Unit → List AOper
| 0,_=>[oS 1 (.move (.c (.isl [])))]
| 1,_=>[oN (.bslice true 3 (.agg [.int .i64 0,zI]) 0 []),
sL 2 0]
| 2,_=>[oS 3 (.move (.n 0))]
| 3,_=>[mV 3,
mV 0,
oN (.len 0 (.l 1)),
oN (.bin .lss (.l 0) (.l 2)),
mL 3,
oT 4 (.move (.v 3)),
oT 4 (.bin .lss (.l 5) (.n 6)),
oS 4 (.pick (.l 4) (.l 6) (.c (.bool false)))]
| 4,_=>[mV 3,
oN (.bin .add (.l 0) (.n 1)),
sL 3 1]
| 5,_=>[mV 2,
mV 0,
mV 3,
oN (.indexAddr 2 (.l 1) (.l 2)),
oN (.indexArr 2 1 (.l 3) (.n 0)),
oN (.load false 1 (.l 4)),
oN (.conv .u8 (.l 5)),
oN (.bin .rem (.l 6) (.c (.int .u8 10))),
oN (.conv .i64 (.l 7)),
mV 0,
mV 3,
oN (.indexAddr 2 (.l 9) (.l 10)),
oN (.indexArr 2 1 (.l 11) (.n 1)),
oN (.load false 1 (.l 12)),
oN (.bin .rem (.l 13) (.c (.int .i8 4))),
oN (.conv .i64 (.l 14)),
oN (.call 14 [.l 15]),
oN (.build [.int .i64 0,zI] [(0,.l 8),(1,.l 16)]),
oN (.bslice false 3 (.agg [.int .i64 0,zI]) 1 [(0,.l 17)]),
oN (.append 3 40 (.l 0) (.l 18)),
sL 2 19]
| 6,_=>[mV 2,
sL 1 0]
| _,_=>[]
def a2b0:AIR:=.seq (.seq (.region (a2R 3) false) (.cond (.v 4) (.skip) (.exit 0))) (.seq (.block 1 (.region (a2R 5) true)) (.region (a2R 4) false))
def a2l0:AIR:=.loop true [0,1,2,3] a2b0
theorem a2l0_run:Lr a2l0 (value_of% a2l0):=fun _=>run_loop _ _ _ _
def a2:AFun:=.mk .iso 1 5 [.v 1] (.seq (.region (a2R 0) false) (.seq (.region (a2R 1) false) (.seq (.seq (.region (a2R 2) false) (.block 0 (a2l0))) (.seq (.region (a2R 6) false) (.ret)))))
def a3R:Nat → Unit → List AOper
| 0,_=>[oS 1 (.move (.c (.isl [])))]
| 1,_=>[oN (.bslice false 3 (.agg [.int .i64 0,zI]) 0 []),
sL 2 0]
| 2,_=>[oS 3 (.move (.n 0))]
| 3,_=>[mV 3,
mV 0,
oN (.len 0 (.l 1)),
oS 4 (.bin .lss (.l 0) (.l 2))]
| 4,_=>[mV 3,
oN (.bin .add (.l 0) (.n 1)),
sL 3 1]
| 5,_=>[mV 2,
mV 0,
mV 3,
oN (.indexAddr 3 (.l 1) (.l 2)),
oN (.load true 3 (.l 3)),
oN (.call 29 [.l 0,.l 4]),
sL 2 5]
| 6,_=>[mV 2,
sL 1 0]
| _,_=>[]
def a3b0:AIR:=.seq (.seq (.region (a3R 3) false) (.cond (.v 4) (.skip) (.exit 0))) (.seq (.block 1 (.region (a3R 5) false)) (.region (a3R 4) false))
def a3l0:AIR:=.loop true [0,1,2,3] a3b0
theorem a3l0_run:Lr a3l0 (value_of% a3l0):=fun _=>run_loop _ _ _ _
def a3:AFun:=.mk .iso 1 5 [.v 1] (.seq (.region (a3R 0) false) (.seq (.region (a3R 1) false) (.seq (.seq (.region (a3R 2) false) (.block 0 (a3l0))) (.seq (.region (a3R 6) false) (.ret)))))
def a5R:Nat → Unit → List AOper
| 0,_=>[oS 2 (.move (.n 0)),
oS 3 (.move (.n 0))]
| 1,_=>[oS 4 (.move (.n (-1))),
oS 5 (.move (.c (.bool false)))]
| 2,_=>[oS 6 (.move (.n 0))]
| 3,_=>[mV 6,
mV 1,
oN (.len 0 (.l 1)),
oS 8 (.bin .lss (.l 0) (.l 2))]
| 4,_=>[mV 6,
oN (.bin .add (.l 0) (.n 1)),
sL 6 1]
| 5,_=>[mV 0,
mV 1,
mV 6,
oN (.indexAddr 3 (.l 1) (.l 2)),
oN (.fieldAddr 0 0 (.l 3)),
oN (.load false 1 (.l 4)),
oN (.call 31 [.l 0,.l 5]),
mL 6,
oN (.extract 0 (.l 7)),
oN (.extract 1 (.l 7)),
oS 12 (.cn (.agg [.int .i64 0,.int .i64 0,.nl])),
oS 12 (.cs 3 (.l 10) (.l 8)),
sL 7 9]
| 6,_=>[mV 7,
oS 9 (.un .not (.l 0))]
| 7,_=>[oS 2 (.move (.n 0)),
oS 3 (.move (.n 250))]
| 8,_=>[mV 6,
oN (.bin .gtr (.l 0) (.n 0)),
mL 1,
oT 2 (.ca (.v 12)),
oT 2 (.field 1 1 false 1 (.v 12)),
oT 2 (.move (.v 4)),
oT 2 (.bin .neq (.l 4) (.l 5)),
oS 10 (.pick (.l 2) (.l 6) (.c (.bool false)))]
| 9,_=>[oS 5 (.move (.c (.bool true)))]
| 10,_=>[oN (.ca (.v 12)),
oN (.field 1 1 false 1 (.v 12)),
sL 4 1]
| 11,_=>[oS 11 (.move (.v 5))]
| 12,_=>[oS 2 (.move (.n 0)),
oS 3 (.move (.n 260))]
| 13,_=>[mV 4,
sL 2 0,
oS 3 (.move (.n 0))]
| _,_=>[]
def a5b0:AIR:=.seq (.seq (.region (a5R 3) false) (.cond (.v 8) (.skip) (.exit 0))) (.seq (.block 1 (.seq (.region (a5R 5) false) (.seq (.seq (.region (a5R 6) false) (.cond (.v 9) (.seq (.region (a5R 7) false) (.ret)) (.skip))) (.seq (.seq (.region (a5R 8) false) (.cond (.v 10) (.region (a5R 9) false) (.skip))) (.region (a5R 10) false))))) (.region (a5R 4) false))
def a5l0:AIR:=.loop true [0,1,2,3,4,5,6,11] a5b0
theorem a5l0_run:Lr a5l0 (value_of% a5l0):=fun _=>run_loop _ _ _ _
def a5:AFun:=.mk .iso 2 13 [.v 2,.v 3] (.seq (.region (a5R 0) false) (.seq (.region (a5R 1) false) (.seq (.seq (.region (a5R 2) false) (.block 0 (a5l0))) (.seq (.seq (.region (a5R 11) false) (.cond (.v 11) (.seq (.region (a5R 12) false) (.ret)) (.skip))) (.seq (.region (a5R 13) false) (.ret))))))
def a244R:Nat → Unit → List AOper
| 0,_=>[oS 2 (.move (.c (.isl [])))]
| 1,_=>[mV 0,
mV 1,
oN (.call 7 [.l 0,.l 1]),
mL 2,
oN (.extract 0 (.l 3)),
oN (.extract 1 (.l 3)),
sL 3 4,
mL 5]
| 2,_=>[mV 3,
sL 2 0]
| _,_=>[]
def a244:AFun:=.mk .iso 2 4 [.v 2] (.seq (.region (a244R 0) false) (.seq (.region (a244R 1) false) (.seq (.region (a244R 2) false) (.ret))))
def a38R:Nat → Unit → List AOper
| 0,_=>[oS 4 (.cn zI)]
| 1,_=>[mV 0,
oN (.len 0 (.l 0)),
sL 2 1]
| 2,_=>[mV 2,
oN (.bin .gtr (.l 0) (.n 0)),
mL 1,
oT 2 (.move (.v 0)),
oT 2 (.move (.v 2)),
oT 2 (.bin .sub (.l 4) (.n 1)),
oT 2 (.indexAddr 1 (.l 3) (.l 5)),
oT 2 (.load false 1 (.l 6)),
oT 2 (.bin .eql (.l 7) (.c (.int .u32 0))),
oS 3 (.pick (.l 2) (.l 8) (.c (.bool false)))]
| 3,_=>[mV 2,
oN (.bin .sub (.l 0) (.n 1)),
sL 2 1]
| 4,_=>[mV 1,
mL 0,
oT 1 (.move (.v 2)),
oT 1 (.bin .gtr (.l 2) (.n 0)),
oN (.pick (.l 1) (.l 3) (.c (.bool false))),
oN (.bslice true 1 (.int .u32 0) 0 []),
mV 0,
mV 2,
oN (.slice 1 (.l 6) none (some (.l 7)) none),
oN (.append 1 4 (.l 5) (.l 8)),
oN (.build [.bool false,.isl []] [(0,.l 4),(1,.l 9)]),
oS 4 (.cs 2 (.v 4) (.l 10))]
| _,_=>[]
def a38b0:AIR:=.seq (.seq (.region (a38R 2) false) (.cond (.v 3) (.skip) (.exit 0))) (.block 1 (.region (a38R 3) false))
def a38l0:AIR:=.loop true [0,1,2,4] a38b0
theorem a38l0_run:Lr a38l0 (value_of% a38l0):=fun _=>run_loop _ _ _ _
def a38:AFun:=.mk .con 2 5 [.c 4 true 2] (.seq (.region (a38R 0) false) (.seq (.region (a38R 1) false) (.seq (.block 0 (a38l0)) (.seq (.region (a38R 4) false) (.ret)))))
def a29R:Nat → Unit → List AOper
| 0,_=>[oS 11 (.cb (.v 1)),
oS 2 (.move (.c (.isl [])))]
| 1,_=>[oN (.bslice true 3 (.agg [.int .i64 0,zI]) 0 []),
oN (.ca (.v 11)),
oN (.field 1 1 true 2 (.v 11)),
oN (.call 43 [.l 2]),
oN (.bin .eql (.l 3) (.n 0)),
sL 3 0,
sL 4 4]
| 2,_=>[oS 5 (.move (.n 0))]
| 3,_=>[mV 5,
mV 0,
oN (.len 0 (.l 1)),
oS 6 (.bin .lss (.l 0) (.l 2))]
| 4,_=>[mV 5,
oN (.bin .add (.l 0) (.n 1)),
sL 5 1]
| 5,_=>[mV 4,
oN (.un .not (.l 0)),
mL 1,
oT 2 (.move (.v 0)),
oT 2 (.move (.v 5)),
oT 2 (.indexAddr 3 (.l 3) (.l 4)),
oT 2 (.fieldAddr 0 0 (.l 5)),
oT 2 (.load false 1 (.l 6)),
oT 2 (.ca (.v 11)),
oT 2 (.field 0 0 false 1 (.v 11)),
oT 2 (.bin .gtr (.l 7) (.l 9)),
oS 7 (.pick (.l 2) (.l 10) (.c (.bool false)))]
| 6,_=>[mV 3,
oN (.cl true 3 (.v 11)),
oN (.bslice false 3 (.agg [.int .i64 0,zI]) 1 [(0,.l 1)]),
oN (.append 3 40 (.l 0) (.l 2)),
sL 3 3]
| 7,_=>[oS 4 (.move (.c (.bool true)))]
| 8,_=>[mV 4,
oN (.un .not (.l 0)),
mL 1,
oT 2 (.move (.v 0)),
oT 2 (.move (.v 5)),
oT 2 (.indexAddr 3 (.l 3) (.l 4)),
oT 2 (.fieldAddr 0 0 (.l 5)),
oT 2 (.load false 1 (.l 6)),
oT 2 (.ca (.v 11)),
oT 2 (.field 0 0 false 1 (.v 11)),
oT 2 (.bin .eql (.l 7) (.l 9)),
oS 8 (.pick (.l 2) (.l 10) (.c (.bool false)))]
| 9,_=>[mV 0,
mV 5,
oN (.indexAddr 3 (.l 0) (.l 1)),
oN (.fieldAddr 1 1 (.l 2)),
oN (.load true 2 (.l 3)),
oN (.ca (.v 11)),
oN (.field 1 1 true 2 (.v 11)),
oN (.call 49 [.l 4,.l 6]),
oS 12 (.cn zI),
oS 12 (.cs 2 (.l 8) (.l 7))]
| 10,_=>[oN (.cl true 2 (.v 12)),
oN (.call 43 [.l 0]),
oS 9 (.bin .neq (.l 1) (.n 0))]
| 11,_=>[mV 3,
oN (.ca (.v 11)),
oN (.field 0 0 false 1 (.v 11)),
oN (.cl true 2 (.v 12)),
oN (.build [.int .i64 0,zI] [(0,.l 2),(1,.l 3)]),
oN (.bslice false 3 (.agg [.int .i64 0,zI]) 1 [(0,.l 4)]),
oN (.append 3 40 (.l 0) (.l 5)),
sL 3 6]
| 12,_=>[oS 4 (.move (.c (.bool true)))]
| 13,_=>[mV 3,
mV 0,
mV 5,
oN (.indexAddr 3 (.l 1) (.l 2)),
oN (.load true 3 (.l 3)),
oN (.bslice false 3 (.agg [.int .i64 0,zI]) 1 [(0,.l 4)]),
oN (.append 3 40 (.l 0) (.l 5)),
sL 3 6]
| 14,_=>[mV 4,
oS 10 (.un .not (.l 0))]
| 15,_=>[mV 3,
oN (.cl true 3 (.v 11)),
oN (.bslice false 3 (.agg [.int .i64 0,zI]) 1 [(0,.l 1)]),
oN (.append 3 40 (.l 0) (.l 2)),
sL 3 3]
| 16,_=>[mV 3,
sL 2 0]
| _,_=>[]
def a29b0:AIR:=.seq (.seq (.region (a29R 3) false) (.cond (.v 6) (.skip) (.exit 0))) (.seq (.block 1 (.seq (.seq (.region (a29R 5) true) (.cond (.v 7) (.seq (.region (a29R 6) false) (.region (a29R 7) false)) (.skip))) (.seq (.seq (.region (a29R 8) true) (.cond (.v 8) (.seq (.region (a29R 9) true) (.seq (.seq (.region (a29R 10) false) (.cond (.v 9) (.region (a29R 11) false) (.skip))) (.seq (.region (a29R 12) false) (.exit 1)))) (.skip))) (.region (a29R 13) false)))) (.region (a29R 4) false))
def a29l0:AIR:=.loop true [0,1,2,3,4,5,10,11] a29b0
theorem a29l0_run:Lr a29l0 (value_of% a29l0):=fun _=>run_loop _ _ _ _
def a29:AFun:=.mk .iso 2 13 [.v 2] (.seq (.region (a29R 0) false) (.seq (.region (a29R 1) false) (.seq (.seq (.region (a29R 2) false) (.block 0 (a29l0))) (.seq (.seq (.region (a29R 14) false) (.cond (.v 10) (.region (a29R 15) false) (.skip))) (.seq (.region (a29R 16) false) (.ret))))))
def a41R:Nat → Unit → List AOper
| 0,_=>[oS 9 (.cb (.v 0)),
oS 10 (.cb (.v 1)),
oS 11 (.cn zI)]
| 1,_=>[oN (.ca (.v 9)),
oN (.field 1 1 false 1 (.v 9)),
oN (.len 0 (.l 1)),
oN (.ca (.v 10)),
oN (.field 1 1 false 1 (.v 10)),
oN (.len 0 (.l 4)),
oN (.bin .add (.l 2) (.l 5)),
oN (.bin .add (.l 6) (.n 1)),
oN (.mkslice 1 4 (.int .u32 0) (.l 7) (.l 7)),
sL 2 8]
| 2,_=>[oS 3 (.move (.n 0))]
| 3,_=>[mV 3,
oN (.ca (.v 9)),
oN (.field 1 1 false 1 (.v 9)),
oN (.len 0 (.l 2)),
oS 6 (.bin .lss (.l 0) (.l 3))]
| 4,_=>[mV 3,
oN (.bin .add (.l 0) (.n 1)),
sL 3 1]
| 5,_=>[oS 4 (.move (.c (.int .u64 0)))]
| 6,_=>[oS 5 (.move (.n 0))]
| 7,_=>[mV 5,
oN (.ca (.v 10)),
oN (.field 1 1 false 1 (.v 10)),
oN (.len 0 (.l 2)),
oN (.bin .lss (.l 0) (.l 3)),
mL 4,
oF 5 (.move (.v 4)),
oF 5 (.bin .gtr (.l 6) (.c (.int .u64 0))),
oS 7 (.pick (.l 5) (.c (.bool true)) (.l 7))]
| 8,_=>[mV 5,
oN (.bin .add (.l 0) (.n 1)),
sL 5 1]
| 9,_=>[mV 4,
mV 2,
mV 3,
mV 5,
oN (.bin .add (.l 2) (.l 3)),
oN (.indexAddr 1 (.l 1) (.l 4)),
oN (.load false 1 (.l 5)),
oN (.conv .u64 (.l 6)),
oN (.bin .add (.l 0) (.l 7)),
sL 4 8]
| 10,_=>[mV 5,
oN (.ca (.v 10)),
oN (.field 1 1 false 1 (.v 10)),
oN (.len 0 (.l 2)),
oS 8 (.bin .lss (.l 0) (.l 3))]
| 11,_=>[mV 4,
oN (.ca (.v 9)),
oN (.field 1 1 false 1 (.v 9)),
mV 3,
oN (.indexAddr 1 (.l 2) (.l 3)),
oN (.load false 1 (.l 4)),
oN (.conv .u64 (.l 5)),
oN (.ca (.v 10)),
oN (.field 1 1 false 1 (.v 10)),
mV 5,
oN (.indexAddr 1 (.l 8) (.l 9)),
oN (.load false 1 (.l 10)),
oN (.conv .u64 (.l 11)),
oN (.bin .mul (.l 6) (.l 12)),
oN (.bin .add (.l 0) (.l 13)),
sL 4 14]
| 12,_=>[mV 2,
mV 3,
mV 5,
oN (.bin .add (.l 1) (.l 2)),
mV 4,
oN (.conv .u32 (.l 4)),
oN (.indexAddr 1 (.l 0) (.l 3)),
oN (.store 1 (.l 6) (.l 5))]
| 13,_=>[mV 4,
oN (.bin .quo (.l 0) (.c (.int .u64 4294967296))),
sL 4 1]
| 14,_=>[mV 2,
oN (.ca (.v 9)),
oN (.field 0 0 false 1 (.v 9)),
oN (.ca (.v 10)),
oN (.field 0 0 false 1 (.v 10)),
oN (.binb true (.l 2) (.l 4)),
oN (.call 38 [.l 0,.l 5]),
oS 11 (.cs 2 (.v 11) (.l 6))]
| _,_=>[]
def a41b1:AIR:=.seq (.seq (.region (a41R 7) false) (.cond (.v 7) (.skip) (.exit 2))) (.seq (.block 3 (.seq (.region (a41R 9) false) (.seq (.seq (.region (a41R 10) false) (.cond (.v 8) (.region (a41R 11) true) (.skip))) (.seq (.region (a41R 12) false) (.region (a41R 13) false))))) (.region (a41R 8) false))
def a41l1:AIR:=.loop true [0,1,2,3,4,5,6,9,10,11] a41b1
theorem a41l1_run:Lr a41l1 (value_of% a41l1):=fun _=>run_loop _ _ _ _
def a41b0:AIR:=.seq (.seq (.region (a41R 3) false) (.cond (.v 6) (.skip) (.exit 0))) (.seq (.block 1 (.seq (.region (a41R 5) false) (.seq (.region (a41R 6) false) (.block 2 (a41l1))))) (.region (a41R 4) false))
def a41l0:AIR:=.loop true [0,1,2,3,9,10,11] a41b0
theorem a41l0_run:Lr a41l0 (value_of% a41l0):=fun _=>run_loop _ _ _ _
def a41:AFun:=.mk .iso 2 12 [.c 11 true 2] (.seq (.region (a41R 0) false) (.seq (.region (a41R 1) false) (.seq (.seq (.region (a41R 2) false) (.block 0 (a41l0))) (.seq (.region (a41R 14) false) (.ret)))))
def a42R:Nat → Unit → List AOper
| 0,_=>[oS 3 (.cb (.v 0)),
oS 1 (.move (.c (.bool false)))]
| 1,_=>[oN (.ca (.v 3)),
oN (.field 1 1 false 1 (.v 3)),
oN (.len 0 (.l 1)),
oS 2 (.bin .eql (.l 2) (.n 0))]
| 2,_=>[oN (.ca (.v 3)),
oN (.field 0 0 false 1 (.v 3)),
oN (.un .not (.l 1)),
sL 1 2]
| 3,_=>[oN (.ca (.v 3)),
oN (.field 1 1 false 1 (.v 3)),
oN (.ca (.v 3)),
oN (.field 1 1 false 1 (.v 3)),
oN (.len 0 (.l 3)),
oN (.bin .sub (.l 4) (.n 1)),
oN (.indexAddr 1 (.l 1) (.l 5)),
oN (.load false 1 (.l 6)),
oN (.bin .neq (.l 7) (.c (.int .u32 0))),
sL 1 8]
| _,_=>[]
def a42:AFun:=.mk .iso 1 4 [.v 1] (.seq (.region (a42R 0) false) (.seq (.seq (.region (a42R 1) false) (.cond (.v 2) (.seq (.region (a42R 2) false) (.ret)) (.skip))) (.seq (.region (a42R 3) false) (.ret))))
def a43R:Nat → Unit → List AOper
| 0,_=>[oS 4 (.cb (.v 0)),
oS 1 (.move (.n 0))]
| 1,_=>[oN (.ca (.v 4)),
oN (.field 1 1 false 1 (.v 4)),
oN (.len 0 (.l 1)),
oS 2 (.bin .eql (.l 2) (.n 0))]
| 2,_=>[oS 1 (.move (.n 0))]
| 3,_=>[oN (.ca (.v 4)),
oS 3 (.field 0 0 false 1 (.v 4))]
| 4,_=>[oS 1 (.move (.n (-1)))]
| 5,_=>[oS 1 (.move (.n 1))]
| _,_=>[]
def a43:AFun:=.mk .iso 1 5 [.v 1] (.seq (.region (a43R 0) false) (.seq (.seq (.region (a43R 1) false) (.cond (.v 2) (.seq (.region (a43R 2) false) (.ret)) (.skip))) (.seq (.seq (.region (a43R 3) false) (.cond (.v 3) (.seq (.region (a43R 4) false) (.ret)) (.skip))) (.seq (.region (a43R 5) false) (.ret)))))
def a31R:Nat → Unit → List AOper
| 0,_=>[oS 6 (.cn (.agg [.int .i64 0,.int .i64 0,.nl])),
oS 2 (.move (.c (.bool false)))]
| 1,_=>[oS 3 (.move (.n 0))]
| 2,_=>[mV 3,
mV 0,
oN (.len 0 (.l 1)),
oS 4 (.bin .lss (.l 0) (.l 2))]
| 3,_=>[mV 3,
oN (.bin .add (.l 0) (.n 1)),
sL 3 1]
| 4,_=>[mV 0,
mV 3,
oN (.indexAddr 3 (.l 0) (.l 1)),
oN (.fieldAddr 0 0 (.l 2)),
oN (.load false 1 (.l 3)),
mV 1,
oS 5 (.bin .eql (.l 4) (.l 5))]
| 5,_=>[mV 0,
mV 3,
oN (.indexAddr 3 (.l 0) (.l 1)),
oN (.load true 3 (.l 2)),
oS 6 (.cs 3 (.v 6) (.l 3)),
oS 2 (.move (.c (.bool true)))]
| 6,_=>[oN (.build [.int .i64 0,.int .i64 0,.nl] []),
oS 6 (.cs 3 (.v 6) (.l 0)),
oS 2 (.move (.c (.bool false)))]
| _,_=>[]
def a31b0:AIR:=.seq (.seq (.region (a31R 2) false) (.cond (.v 4) (.skip) (.exit 0))) (.seq (.block 1 (.seq (.region (a31R 4) false) (.cond (.v 5) (.seq (.region (a31R 5) false) (.ret)) (.skip)))) (.region (a31R 3) false))
def a31l0:AIR:=.loop true [0,1,2,3,6] a31b0
theorem a31l0_run:Lr a31l0 (value_of% a31l0):=fun _=>run_loop _ _ _ _
def a31:AFun:=.mk .iso 2 7 [.c 6 true 3,.v 2] (.seq (.region (a31R 0) false) (.seq (.seq (.region (a31R 1) false) (.block 0 (a31l0))) (.seq (.region (a31R 6) false) (.ret))))
def a45R:Nat → Unit → List AOper
| 0,_=>[oS 2 (.move (.c (.isl [])))]
| 1,_=>[mV 1,
oN (.len 0 (.l 0)),
oN (.mkslice 2 32 zI (.l 1) (.l 1)),
sL 3 2]
| 2,_=>[oS 4 (.move (.n 0))]
| 3,_=>[mV 4,
mV 0,
oN (.len 0 (.l 1)),
oS 6 (.bin .lss (.l 0) (.l 2))]
| 4,_=>[mV 4,
oN (.bin .add (.l 0) (.n 1)),
sL 4 1]
| 5,_=>[oS 5 (.move (.n 0))]
| 6,_=>[mV 5,
mV 1,
oN (.len 0 (.l 1)),
oS 7 (.bin .lss (.l 0) (.l 2))]
| 7,_=>[mV 5,
oN (.bin .add (.l 0) (.n 1)),
sL 5 1]
| 8,_=>[mV 1,
mV 5,
oN (.indexAddr 1 (.l 0) (.l 1)),
oN (.load false 1 (.l 2)),
mV 0,
mV 4,
oN (.indexAddr 3 (.l 4) (.l 5)),
oN (.fieldAddr 0 0 (.l 6)),
oN (.load false 1 (.l 7)),
oS 8 (.bin .eql (.l 3) (.l 8))]
| 9,_=>[mV 3,
mV 5,
mV 0,
mV 4,
oN (.indexAddr 3 (.l 2) (.l 3)),
oN (.fieldAddr 1 1 (.l 4)),
oN (.load true 2 (.l 5)),
oN (.indexAddr 2 (.l 0) (.l 1)),
oN (.store 2 (.l 7) (.l 6))]
| 10,_=>[mV 3,
sL 2 0]
| _,_=>[]
def a45b1:AIR:=.seq (.seq (.region (a45R 6) false) (.cond (.v 7) (.skip) (.exit 2))) (.seq (.block 3 (.seq (.region (a45R 8) true) (.cond (.v 8) (.region (a45R 9) false) (.skip)))) (.region (a45R 7) false))
def a45l1:AIR:=.loop true [0,1,2,3,4,5,6] a45b1
theorem a45l1_run:Lr a45l1 (value_of% a45l1):=fun _=>run_loop _ _ _ _
def a45b0:AIR:=.seq (.seq (.region (a45R 3) false) (.cond (.v 6) (.skip) (.exit 0))) (.seq (.block 1 (.seq (.region (a45R 5) false) (.block 2 (a45l1)))) (.region (a45R 4) false))
def a45l0:AIR:=.loop true [0,1,2,3,4] a45b0
theorem a45l0_run:Lr a45l0 (value_of% a45l0):=fun _=>run_loop _ _ _ _
def a45:AFun:=.mk .iso 2 9 [.v 2] (.seq (.region (a45R 0) false) (.seq (.region (a45R 1) false) (.seq (.seq (.region (a45R 2) false) (.block 0 (a45l0))) (.seq (.region (a45R 10) false) (.ret)))))
def a121R:Nat → Unit → List AOper
| 0,_=>[oS 2 (.move (.c (.isl [])))]
| 1,_=>[oN (.bslice true 1 (.nl) 0 []),
sL 3 0]
| 2,_=>[mV 1,
oS 5 (.bin .lss (.l 0) (.n 0))]
| 3,_=>[mV 3,
sL 2 0]
| 4,_=>[mV 0,
mV 1,
oN (.call 19 [.l 0,.l 1]),
oN (.call 62 [.l 2]),
oS 7 (.cn (.agg [.int .i64 0,.int .i64 0,.nl])),
oS 7 (.cs 3 (.l 4) (.l 3))]
| 5,_=>[oS 4 (.move (.n 0))]
| 6,_=>[mV 4,
oN (.ca (.v 7)),
oN (.field 0 0 false 1 (.v 7)),
oS 6 (.bin .lss (.l 0) (.l 2))]
| 7,_=>[mV 4,
oN (.bin .add (.l 0) (.n 1)),
sL 4 1]
| 8,_=>[mV 3,
mV 0,
mV 1,
oN (.ca (.v 7)),
oN (.field 2 2 false 1 (.v 7)),
mV 4,
oN (.indexAddr 1 (.l 4) (.l 5)),
oN (.load false 1 (.l 6)),
oN (.call 40 [.l 1,.l 2,.l 7]),
oN (.bslice false 1 (.nl) 1 [(0,.l 8)]),
oN (.append 1 24 (.l 0) (.l 9)),
sL 3 10]
| 9,_=>[mV 3,
sL 2 0]
| _,_=>[]
def a121b0:AIR:=.seq (.seq (.region (a121R 6) false) (.cond (.v 6) (.skip) (.exit 0))) (.seq (.block 1 (.region (a121R 8) false)) (.region (a121R 7) false))
def a121l0:AIR:=.loop true [0,1,2,3,4,5,7] a121b0
theorem a121l0_run:Lr a121l0 (value_of% a121l0):=fun _=>run_loop _ _ _ _
def a121:AFun:=.mk .iso 2 8 [.v 2] (.seq (.region (a121R 0) false) (.seq (.region (a121R 1) false) (.seq (.seq (.region (a121R 2) false) (.cond (.v 5) (.seq (.region (a121R 3) false) (.ret)) (.skip))) (.seq (.region (a121R 4) false) (.seq (.seq (.region (a121R 5) false) (.block 0 (a121l0))) (.seq (.region (a121R 9) false) (.ret)))))))
def a7R:Nat → Unit → List AOper
| 0,_=>[oS 2 (.move (.c (.isl []))),
oS 3 (.move (.n 0))]
| 1,_=>[mV 0,
mV 1,
oN (.call 5 [.l 0,.l 1]),
mL 2,
oN (.extract 0 (.l 3)),
oN (.extract 1 (.l 3)),
mL 4,
sL 4 5]
| 2,_=>[mV 4,
oS 7 (.bin .neq (.l 0) (.n 0))]
| 3,_=>[mV 4,
oS 2 (.move (.c (.isl []))),
sL 3 0]
| 4,_=>[oN (.bslice false 3 (.agg [.int .i64 0,zI]) 0 []),
sL 5 0]
| 5,_=>[oS 6 (.move (.n 0))]
| 6,_=>[mV 6,
mV 1,
oN (.len 0 (.l 1)),
oS 8 (.bin .lss (.l 0) (.l 2))]
| 7,_=>[mV 6,
oN (.bin .add (.l 0) (.n 1)),
sL 6 1]
| 8,_=>[mV 0,
mV 1,
mV 6,
oN (.indexAddr 3 (.l 1) (.l 2)),
oN (.fieldAddr 0 0 (.l 3)),
oN (.load false 1 (.l 4)),
oN (.call 31 [.l 0,.l 5]),
mL 6,
oN (.extract 0 (.l 7)),
oN (.extract 1 (.l 7)),
oS 9 (.cn (.agg [.int .i64 0,.int .i64 0,.nl])),
oS 9 (.cs 3 (.l 10) (.l 8)),
mL 9]
| 9,_=>[mV 5,
oN (.ca (.v 9)),
oN (.field 2 2 false 1 (.v 9)),
mV 1,
mV 6,
oN (.indexAddr 3 (.l 3) (.l 4)),
oN (.fieldAddr 1 1 (.l 5)),
oN (.load true 2 (.l 6)),
oN (.call 16 [.l 0,.l 2,.l 7]),
sL 5 8]
| 10,_=>[mV 5,
sL 2 0,
oS 3 (.move (.n 0))]
| _,_=>[]
def a7b0:AIR:=.seq (.seq (.region (a7R 6) false) (.cond (.v 8) (.skip) (.exit 0))) (.seq (.block 1 (.seq (.region (a7R 8) false) (.region (a7R 9) true))) (.region (a7R 7) false))
def a7l0:AIR:=.loop true [0,1,2,3,4,5,6,7] a7b0
theorem a7l0_run:Lr a7l0 (value_of% a7l0):=fun _=>run_loop _ _ _ _
def a7:AFun:=.mk .iso 2 10 [.v 2,.v 3] (.seq (.region (a7R 0) false) (.seq (.region (a7R 1) false) (.seq (.seq (.region (a7R 2) false) (.cond (.v 7) (.seq (.region (a7R 3) false) (.ret)) (.skip))) (.seq (.region (a7R 4) false) (.seq (.seq (.region (a7R 5) false) (.block 0 (a7l0))) (.seq (.region (a7R 10) false) (.ret)))))))
def a246R:Nat → Unit → List AOper
| 0,_=>[oS 3 (.cb (.v 1)),
oS 2 (.move (.c (.isl [])))]
| 1,_=>[mV 0,
oN (.cl true 2 (.v 3)),
oN (.call 16 [.c (.isl []),.l 0,.l 1]),
sL 2 2]
| _,_=>[]
def a246:AFun:=.mk .iso 2 4 [.v 2] (.seq (.region (a246R 0) false) (.seq (.region (a246R 1) false) (.ret)))
def a247R:Nat → Unit → List AOper
| 0,_=>[oS 3 (.move (.c (.isl [])))]
| 1,_=>[oN (.bslice false 3 (.agg [.int .i64 0,zI]) 0 []),
sL 4 0]
| 2,_=>[oS 5 (.move (.n 0))]
| 3,_=>[mV 5,
mV 0,
oN (.len 0 (.l 1)),
oS 7 (.bin .lss (.l 0) (.l 2))]
| 4,_=>[mV 5,
oN (.bin .add (.l 0) (.n 1)),
sL 5 1]
| 5,_=>[oS 6 (.move (.n 0))]
| 6,_=>[mV 6,
mV 1,
oN (.len 0 (.l 1)),
oS 8 (.bin .lss (.l 0) (.l 2))]
| 7,_=>[mV 6,
oN (.bin .add (.l 0) (.n 1)),
sL 6 1]
| 8,_=>[mV 1,
mV 6,
oN (.indexAddr 3 (.l 0) (.l 1)),
oN (.fieldAddr 0 0 (.l 2)),
oN (.load false 1 (.l 3)),
mV 0,
mV 5,
oN (.indexAddr 3 (.l 5) (.l 6)),
oN (.fieldAddr 0 0 (.l 7)),
oN (.load false 1 (.l 8)),
oS 9 (.bin .eql (.l 4) (.l 9))]
| 9,_=>[mV 4,
mV 0,
mV 5,
mV 2,
oN (.call 255 [.l 1,.l 2,.l 3]),
mV 1,
mV 6,
oN (.indexAddr 3 (.l 5) (.l 6)),
oN (.fieldAddr 1 1 (.l 7)),
oN (.load true 2 (.l 8)),
oN (.call 16 [.l 0,.l 4,.l 9]),
sL 4 10]
| 10,_=>[mV 4,
sL 3 0]
| _,_=>[]
def a247b1:AIR:=.seq (.seq (.region (a247R 6) false) (.cond (.v 8) (.skip) (.exit 2))) (.seq (.block 3 (.seq (.region (a247R 8) true) (.cond (.v 9) (.region (a247R 9) true) (.skip)))) (.region (a247R 7) false))
def a247l1:AIR:=.loop true [0,1,2,3,4,5,6,7] a247b1
theorem a247l1_run:Lr a247l1 (value_of% a247l1):=fun _=>run_loop _ _ _ _
def a247b0:AIR:=.seq (.seq (.region (a247R 3) false) (.cond (.v 7) (.skip) (.exit 0))) (.seq (.block 1 (.seq (.region (a247R 5) false) (.block 2 (a247l1)))) (.region (a247R 4) false))
def a247l0:AIR:=.loop true [0,1,2,3,4,5] a247b0
theorem a247l0_run:Lr a247l0 (value_of% a247l0):=fun _=>run_loop _ _ _ _
def a247:AFun:=.mk .iso 3 10 [.v 3] (.seq (.region (a247R 0) false) (.seq (.region (a247R 1) false) (.seq (.seq (.region (a247R 2) false) (.block 0 (a247l0))) (.seq (.region (a247R 10) false) (.ret)))))
def a28R:Nat → Unit → List AOper
| 0,_=>[oS 2 (.box false (.v 1)),
oS 3 (.move (.c (.isl [])))]
| 1,_=>[oN (.indexArr 4 1 (.v 2) (.n 0)),
oN (.load false 1 (.l 0)),
oN (.conv .u8 (.l 1)),
oN (.bin .rem (.l 2) (.c (.int .u8 4))),
oN (.conv .i64 (.l 3)),
oN (.bslice false 3 (.agg [.int .i64 0,zI]) 0 []),
sL 4 4,
sL 5 5,
oS 6 (.move (.n 1))]
| 2,_=>[mV 0,
mV 4,
oN (.bin .sub (.l 1) (.n 1)),
oN (.call 121 [.l 0,.l 2]),
sL 7 3]
| 3,_=>[oS 8 (.move (.n 0))]
| 4,_=>[mV 8,
mV 7,
oN (.len 0 (.l 1)),
oN (.bin .lss (.l 0) (.l 2)),
mL 3,
oT 4 (.move (.v 8)),
oT 4 (.bin .lss (.l 5) (.n 3)),
oS 10 (.pick (.l 4) (.l 6) (.c (.bool false)))]
| 5,_=>[mV 8,
oN (.bin .add (.l 0) (.n 1)),
sL 8 1]
| 6,_=>[mV 5,
mV 7,
mV 8,
oN (.indexAddr 1 (.l 1) (.l 2)),
oN (.load false 1 (.l 3)),
mV 8,
oN (.bin .add (.l 5) (.n 1)),
oN (.indexArr 4 1 (.v 2) (.l 6)),
oN (.load false 1 (.l 7)),
oN (.bin .rem (.l 8) (.c (.int .i8 4))),
oN (.conv .i64 (.l 9)),
oN (.call 14 [.l 10]),
oN (.call 16 [.l 0,.l 4,.l 11]),
sL 5 12]
| 7,_=>[mV 0,
oN (.len 0 (.l 0)),
oS 11 (.bin .gtr (.l 1) (.n 0))]
| 8,_=>[mV 0,
mV 0,
oN (.len 0 (.l 1)),
oN (.bin .sub (.l 2) (.n 1)),
oN (.indexAddr 3 (.l 0) (.l 3)),
oN (.fieldAddr 0 0 (.l 4)),
oN (.load false 1 (.l 5)),
oN (.bin .add (.l 6) (.n 1)),
oN (.indexArr 4 1 (.v 2) (.n 0)),
oN (.load false 1 (.l 8)),
oN (.conv .u8 (.l 9)),
oN (.bin .quo (.l 10) (.c (.int .u8 128))),
oN (.conv .i64 (.l 11)),
oN (.bin .add (.l 7) (.l 12)),
sL 6 13]
| 9,_=>[oN (.bslice true 3 (.agg [.int .i64 0,.int .i64 0,.nl]) 0 []),
mV 0,
oN (.append 3 40 (.l 0) (.l 1)),
sL 9 2]
| 10,_=>[mV 9,
mV 6,
mV 4,
mV 5,
oN (.build [.int .i64 0,.int .i64 0,.nl] [(0,.l 1),(1,.l 2),(2,.l 3)]),
oN (.bslice false 3 (.agg [.int .i64 0,.int .i64 0,.nl]) 1 [(0,.l 4)]),
oN (.append 3 40 (.l 0) (.l 5)),
sL 3 6]
| _,_=>[]
def a28b0:AIR:=.seq (.seq (.region (a28R 4) false) (.cond (.v 10) (.skip) (.exit 0))) (.seq (.block 1 (.region (a28R 6) true)) (.region (a28R 5) false))
def a28l0:AIR:=.loop true [0,1,2,3,4,5,6,7,8,9,11] a28b0
theorem a28l0_run:Lr a28l0 (value_of% a28l0):=fun _=>run_loop _ _ _ _
def a28:AFun:=.mk .iso 2 12 [.v 3] (.seq (.region (a28R 0) false) (.seq (.region (a28R 1) false) (.seq (.region (a28R 2) false) (.seq (.seq (.region (a28R 3) false) (.block 0 (a28l0))) (.seq (.seq (.region (a28R 7) false) (.cond (.v 11) (.region (a28R 8) true) (.skip))) (.seq (.region (a28R 9) false) (.seq (.region (a28R 10) false) (.ret))))))))
def a47R:Nat → Unit → List AOper
| 0,_=>[oS 3 (.cb (.v 0)),
oS 1 (.move (.c (.bool false)))]
| 1,_=>[oN (.ca (.v 3)),
oN (.field 1 1 false 1 (.v 3)),
oN (.len 0 (.l 1)),
sL 2 2]
| 2,_=>[mV 2,
oN (.bin .eql (.l 0) (.n 0)),
mL 1,
oT 2 (.ca (.v 3)),
oT 2 (.field 0 0 false 1 (.v 3)),
oT 2 (.un .not (.l 4)),
oN (.pick (.l 2) (.l 5) (.c (.bool false))),
mL 6,
oF 7 (.move (.v 2)),
oF 7 (.bin .gtr (.l 8) (.n 0)),
oF 7 (.move (.l 9)),
oT 10 (.ca (.v 3)),
oT 10 (.field 1 1 false 1 (.v 3)),
oT 10 (.move (.v 2)),
oT 10 (.bin .sub (.l 13) (.n 1)),
oT 10 (.indexAddr 1 (.l 12) (.l 14)),
oT 10 (.load false 1 (.l 15)),
oT 10 (.bin .neq (.l 16) (.c (.int .u32 0))),
oF 7 (.pick (.l 10) (.l 17) (.c (.bool false))),
oN (.pick (.l 7) (.c (.bool true)) (.l 18)),
sL 1 19]
| _,_=>[]
def a47:AFun:=.mk .iso 1 4 [.v 1] (.seq (.region (a47R 0) false) (.seq (.region (a47R 1) false) (.seq (.region (a47R 2) false) (.ret))))
def a48R:Nat → Unit → List AOper
| 0,_=>[oS 4 (.cb (.v 0)),
oS 1 (.move (.n 0))]
| 1,_=>[oN (.ca (.v 4)),
oN (.field 1 1 false 1 (.v 4)),
oN (.len 0 (.l 1)),
oN (.bin .eql (.l 2) (.n 0)),
sL 2 3]
| 2,_=>[oS 1 (.move (.n 0))]
| 3,_=>[oN (.ca (.v 4)),
oN (.field 0 0 false 1 (.v 4)),
sL 3 1]
| 4,_=>[oS 1 (.move (.n (-1)))]
| 5,_=>[oS 1 (.move (.n 1))]
| _,_=>[]
def a48:AFun:=.mk .iso 1 5 [.v 1] (.seq (.region (a48R 0) false) (.seq (.block 0 (.seq (.region (a48R 1) false) (.cond (.v 2) (.seq (.region (a48R 2) false) (.ret)) (.seq (.region (a48R 3) false) (.cond (.v 3) (.seq (.region (a48R 4) false) (.ret)) (.skip)))))) (.seq (.region (a48R 5) false) (.ret))))
def a30R:Nat → Unit → List AOper
| 0,_=>[oS 2 (.move (.c (.isl []))),
oS 3 (.move (.n 0)),
oS 4 (.move (.n 0))]
| 1,_=>[oS 5 (.nils 3)]
| 2,_=>[oS 8 (.move (.v 1)),
oS 9 (.len 0 (.l 0)),
oS 10 (.move (.n 0))]
| 3,_=>[oS 11 (.bin .lss (.v 10) (.v 9))]
| 4,_=>[oN (.indexAddr 3 (.v 8) (.v 10)),
oN (.load true 3 (.l 0)),
oS 15 (.cn (.agg [.int .i64 0,zI])),
oS 15 (.cs 3 (.l 2) (.l 1))]
| 5,_=>[mV 0,
oN (.ca (.v 15)),
oN (.field 0 0 false 1 (.v 15)),
oN (.call 50 [.l 0,.l 2]),
mL 3,
oN (.extract 0 (.l 4)),
oN (.extract 1 (.l 4)),
oS 16 (.cn (.agg [.int .i64 0,.int .i64 0,.nl])),
oS 16 (.cs 3 (.l 7) (.l 5)),
sL 6 6]
| 6,_=>[mV 6,
oS 12 (.un .not (.l 0))]
| 7,_=>[oS 2 (.move (.c (.isl []))),
oS 3 (.move (.n 0)),
oS 4 (.move (.n 250))]
| 8,_=>[mV 5,
oN (.cl true 3 (.v 16)),
oN (.bslice false 3 (.agg [.int .i64 0,.int .i64 0,.nl]) 1 [(0,.l 1)]),
oN (.append 3 40 (.l 0) (.l 2)),
sL 5 3]
| 9,_=>[oN (.bin .add (.v 10) (.n 1)),
sL 10 0]
| 10,_=>[mV 5,
oN (.len 0 (.l 0)),
oS 13 (.bin .eql (.l 1) (.n 0))]
| 11,_=>[oS 2 (.move (.c (.isl []))),
oS 3 (.move (.n (-1))),
oS 4 (.move (.n 0))]
| 12,_=>[mV 5,
oN (.indexAddr 3 (.l 0) (.n 0)),
oN (.fieldAddr 1 1 (.l 1)),
oN (.load false 1 (.l 2)),
oS 7 (.alloc (.int .i64 0)),
oN (.store 1 (.l 4) (.l 3))]
| 13,_=>[mV 5,
oN (.mkfn 51 [.v 7]),
oS 14 (.call 52 [.l 0,.l 1])]
| 14,_=>[oS 2 (.move (.c (.isl []))),
oS 3 (.move (.n 0)),
oS 4 (.move (.n 260))]
| 15,_=>[mV 5,
oN (.load false 1 (.v 7)),
sL 2 0,
sL 3 1,
oS 4 (.move (.n 0))]
| _,_=>[]
def a30b0:AIR:=.seq (.region (a30R 3) false) (.seq (.cond (.v 11) (.skip) (.exit 0)) (.seq (.block 1 (.seq (.region (a30R 4) false) (.seq (.region (a30R 5) false) (.seq (.seq (.region (a30R 6) false) (.cond (.v 12) (.seq (.region (a30R 7) false) (.ret)) (.skip))) (.region (a30R 8) false))))) (.region (a30R 9) false)))
def a30l0:AIR:=.loop true [0,1,2,3,4,5,7,8,9,10,13,14] a30b0
theorem a30l0_run:Lr a30l0 (value_of% a30l0):=fun _=>run_loop _ _ _ _
def a30:AFun:=.mk .iso 2 17 [.v 2,.v 3,.v 4] (.seq (.region (a30R 0) false) (.seq (.region (a30R 1) false) (.seq (.seq (.region (a30R 2) false) (.block 0 (a30l0))) (.seq (.seq (.region (a30R 10) false) (.cond (.v 13) (.seq (.region (a30R 11) false) (.ret)) (.skip))) (.seq (.region (a30R 12) false) (.seq (.seq (.region (a30R 13) false) (.cond (.v 14) (.seq (.region (a30R 14) false) (.ret)) (.skip))) (.seq (.region (a30R 15) true) (.ret))))))))
def a33R:Nat → Unit → List AOper
| 0,_=>[oS 4 (.cb (.v 2))]
| 1,_=>[mV 0,
mV 1,
oN (.lookup zI false (.l 0) (.l 1)),
oN (.cl true 2 (.v 4)),
oN (.call 53 [.l 2,.l 3]),
oS 4 (.cs 2 (.v 4) (.l 4))]
| 2,_=>[oN (.cl true 2 (.v 4)),
oN (.call 48 [.l 0]),
oS 3 (.bin .eql (.l 1) (.n 0))]
| 3,_=>[mV 0,
mV 1,
oN (.mdel (.l 0) (.l 1))]
| 4,_=>[mV 0,
mV 1,
oN (.cl true 2 (.v 4)),
oN (.mupd (.l 0) (.l 1) (.l 2))]
| _,_=>[]
def a33:AFun:=.mk .shr 3 5 [] (.seq (.region (a33R 0) false) (.seq (.seq (.region (a33R 1) false) (.seq (.region (a33R 2) false) (.cond (.v 3) (.seq (.region (a33R 3) false) (.ret)) (.skip)))) (.region (a33R 4) false)))
def a32R:Nat → Unit → List AOper
| 0,_=>[oS 16 (.cb (.v 0)),
oS 17 (.cb (.v 1)),
oS 18 (.cn zI)]
| 1,_=>[oN (.ca (.v 16)),
oN (.field 1 1 false 1 (.v 16)),
oN (.len 0 (.l 1)),
oN (.ca (.v 17)),
oN (.field 1 1 false 1 (.v 17)),
oN (.len 0 (.l 4)),
oN (.bin .add (.l 2) (.l 5)),
oN (.mkslice 1 4 (.int .u32 0) (.l 6) (.l 6)),
sL 2 7]
| 2,_=>[oN (.ca (.v 16)),
oS 8 (.field 1 1 false 1 (.v 16)),
oS 9 (.len 0 (.l 1)),
oS 10 (.move (.n 0))]
| 3,_=>[oS 11 (.bin .lss (.v 10) (.v 9))]
| 4,_=>[mV 10,
oN (.indexAddr 1 (.v 8) (.v 10)),
oN (.load false 1 (.l 1)),
sL 3 0,
sL 4 2]
| 5,_=>[oS 5 (.move (.c (.int .u64 0)))]
| 6,_=>[oN (.ca (.v 17)),
oS 12 (.field 1 1 false 1 (.v 17)),
oS 13 (.len 0 (.l 1)),
oS 14 (.move (.n 0))]
| 7,_=>[oS 15 (.bin .lss (.v 14) (.v 13))]
| 8,_=>[mV 14,
oN (.indexAddr 1 (.v 12) (.v 14)),
oN (.load false 1 (.l 1)),
sL 6 0,
sL 7 2]
| 9,_=>[mV 5,
mV 4,
oN (.conv .u64 (.l 1)),
mV 7,
oN (.conv .u64 (.l 3)),
oN (.bin .mul (.l 2) (.l 4)),
mV 2,
mV 3,
mV 6,
oN (.bin .add (.l 7) (.l 8)),
oN (.indexAddr 1 (.l 6) (.l 9)),
oN (.load false 1 (.l 10)),
oN (.conv .u64 (.l 11)),
oN (.bin .add (.l 5) (.l 12)),
oN (.bin .add (.l 0) (.l 13)),
sL 5 14]
| 10,_=>[mV 2,
mV 3,
mV 6,
oN (.bin .add (.l 1) (.l 2)),
mV 5,
oN (.conv .u32 (.l 4)),
oN (.indexAddr 1 (.l 0) (.l 3)),
oN (.store 1 (.l 6) (.l 5))]
| 11,_=>[mV 5,
oN (.bin .shr (.l 0) (.c (.int .u64 32))),
sL 5 1]
| 12,_=>[oN (.bin .add (.v 14) (.n 1)),
sL 14 0]
| 13,_=>[mV 2,
mV 3,
oN (.ca (.v 17)),
oN (.field 1 1 false 1 (.v 17)),
oN (.len 0 (.l 3)),
oN (.bin .add (.l 1) (.l 4)),
mV 5,
oN (.conv .u32 (.l 6)),
oN (.indexAddr 1 (.l 0) (.l 5)),
oN (.store 1 (.l 8) (.l 7))]
| 14,_=>[oN (.bin .add (.v 10) (.n 1)),
sL 10 0]
| 15,_=>[mV 2,
oN (.ca (.v 16)),
oN (.field 0 0 false 1 (.v 16)),
oN (.ca (.v 17)),
oN (.field 0 0 false 1 (.v 17)),
oN (.binb true (.l 2) (.l 4)),
oN (.call 54 [.l 0,.l 5]),
oS 18 (.cs 2 (.v 18) (.l 6))]
| _,_=>[]
def a32b1:AIR:=.seq (.region (a32R 7) false) (.seq (.cond (.v 15) (.skip) (.exit 2)) (.seq (.block 3 (.seq (.region (a32R 8) false) (.seq (.region (a32R 9) false) (.seq (.region (a32R 10) false) (.region (a32R 11) false))))) (.region (a32R 12) false)))
def a32l1:AIR:=.loop true [0,1,2,3,4,5,8,9,10,11,12,13,14,16,17,18] a32b1
theorem a32l1_run:Lr a32l1 (value_of% a32l1):=fun _=>run_loop _ _ _ _
def a32b0:AIR:=.seq (.region (a32R 3) false) (.seq (.cond (.v 11) (.skip) (.exit 0)) (.seq (.block 1 (.seq (.region (a32R 4) false) (.seq (.region (a32R 5) false) (.seq (.seq (.region (a32R 6) false) (.block 2 (a32l1))) (.region (a32R 13) false))))) (.region (a32R 14) false)))
def a32l0:AIR:=.loop true [0,1,2,8,9,10,16,17,18] a32b0
theorem a32l0_run:Lr a32l0 (value_of% a32l0):=fun _=>run_loop _ _ _ _
def a32:AFun:=.mk .iso 2 19 [.c 18 true 2] (.seq (.region (a32R 0) false) (.seq (.region (a32R 1) false) (.seq (.seq (.region (a32R 2) false) (.block 0 (a32l0))) (.seq (.region (a32R 15) false) (.ret)))))
def a34R:Nat → Unit → List AOper
| 0,_=>[oS 1 (.move (.c (.isl [])))]
| 1,_=>[oS 2 (.nils 3)]
| 2,_=>[mV 0,
oN (.call 55 [.l 0]),
oS 4 (.call 56 [.l 1]),
oS 5 (.len 0 (.l 2)),
oS 6 (.move (.n 0))]
| 3,_=>[oS 7 (.bin .lss (.v 6) (.v 5))]
| 4,_=>[oN (.indexAddr 1 (.v 4) (.v 6)),
oN (.load false 1 (.l 0)),
sL 3 1]
| 5,_=>[mV 2,
mV 3,
mV 0,
mV 3,
oN (.lookup zI false (.l 2) (.l 3)),
oN (.build [.int .i64 0,zI] [(0,.l 1),(1,.l 4)]),
oN (.bslice false 3 (.agg [.int .i64 0,zI]) 1 [(0,.l 5)]),
oN (.append 3 40 (.l 0) (.l 6)),
sL 2 7]
| 6,_=>[oN (.bin .add (.v 6) (.n 1)),
sL 6 0]
| 7,_=>[mV 2,
sL 1 0]
| _,_=>[]
def a34b0:AIR:=.seq (.region (a34R 3) false) (.seq (.cond (.v 7) (.skip) (.exit 0)) (.seq (.block 1 (.seq (.region (a34R 4) false) (.region (a34R 5) false))) (.region (a34R 6) false)))
def a34l0:AIR:=.loop true [0,1,2,4,5,6] a34b0
theorem a34l0_run:Lr a34l0 (value_of% a34l0):=fun _=>run_loop _ _ _ _
def a34:AFun:=.mk .shr 1 8 [.v 1] (.seq (.region (a34R 0) false) (.seq (.region (a34R 1) false) (.seq (.seq (.region (a34R 2) false) (.block 0 (a34l0))) (.seq (.region (a34R 7) false) (.ret)))))
def a22R:Nat → Unit → List AOper
| 0,_=>[oS 1 (.move (.c (.isl [])))]
| 1,_=>[oN (.mkmap),
sL 2 0]
| 2,_=>[oS 3 (.move (.v 0)),
oS 4 (.len 0 (.l 0)),
oS 5 (.move (.n 0))]
| 3,_=>[oS 6 (.bin .lss (.v 5) (.v 4))]
| 4,_=>[oN (.indexAddr 3 (.v 3) (.v 5)),
oN (.load true 3 (.l 0)),
oS 7 (.cn (.agg [.int .i64 0,zI])),
oS 7 (.cs 3 (.l 2) (.l 1))]
| 5,_=>[mV 2,
oN (.ca (.v 7)),
oN (.field 0 0 false 1 (.v 7)),
oN (.ca (.v 7)),
oN (.field 1 1 true 2 (.v 7)),
oN (.call 33 [.l 0,.l 2,.l 4])]
| 6,_=>[oN (.bin .add (.v 5) (.n 1)),
sL 5 0]
| 7,_=>[mV 2,
oN (.call 34 [.l 0]),
sL 1 1]
| _,_=>[]
def a22b0:AIR:=.seq (.region (a22R 3) false) (.seq (.cond (.v 6) (.skip) (.exit 0)) (.seq (.block 1 (.seq (.region (a22R 4) false) (.region (a22R 5) false))) (.region (a22R 6) false)))
def a22l0:AIR:=.loop true [0,1,2,3,4,5] a22b0
theorem a22l0_run:Lr a22l0 (value_of% a22l0):=fun _=>run_loop _ _ _ _
def a22:AFun:=.mk .iso 1 8 [.v 1] (.seq (.region (a22R 0) false) (.seq (.region (a22R 1) false) (.seq (.seq (.region (a22R 2) false) (.block 0 (a22l0))) (.seq (.region (a22R 7) false) (.ret)))))
def a128:AFun:=.mk .con a22.params a22.slots a22.results a22.body
def a249R:Nat → Unit → List AOper
| 0,_=>[oS 3 (.move (.c (.bool false)))]
| 1,_=>[mV 0,
oN (.len 0 (.l 0)),
mV 1,
oN (.len 0 (.l 2)),
oS 5 (.bin .neq (.l 1) (.l 3))]
| 2,_=>[oS 3 (.move (.c (.bool false)))]
| 3,_=>[oS 6 (.move (.v 0)),
oS 7 (.len 0 (.l 0)),
oS 8 (.move (.n 0))]
| 4,_=>[oS 9 (.bin .lss (.v 8) (.v 7))]
| 5,_=>[mV 8,
oN (.indexAddr 3 (.v 6) (.v 8)),
oN (.load true 3 (.l 1)),
oS 11 (.cn (.agg [.int .i64 0,zI])),
sL 4 0,
oS 11 (.cs 3 (.l 3) (.l 2))]
| 6,_=>[mV 1,
mV 4,
oN (.indexAddr 3 (.l 0) (.l 1)),
oN (.load true 3 (.l 2)),
oS 12 (.cn (.agg [.int .i64 0,zI])),
oS 12 (.cs 3 (.l 4) (.l 3))]
| 7,_=>[mV 2,
oN (.cl true 3 (.v 11)),
oN (.cl true 3 (.v 12)),
oN (.callv (.l 0) [.l 1,.l 2]),
oS 10 (.un .not (.l 3))]
| 8,_=>[oS 3 (.move (.c (.bool false)))]
| 9,_=>[oN (.bin .add (.v 8) (.n 1)),
sL 8 0]
| 10,_=>[oS 3 (.move (.c (.bool true)))]
| _,_=>[]
def a249b0:AIR:=.seq (.region (a249R 4) false) (.seq (.cond (.v 9) (.skip) (.exit 0)) (.seq (.block 1 (.seq (.region (a249R 5) false) (.seq (.region (a249R 6) false) (.seq (.region (a249R 7) false) (.cond (.v 10) (.seq (.region (a249R 8) false) (.ret)) (.skip)))))) (.region (a249R 9) false)))
def a249l0:AIR:=.loop true [0,1,2,3,5,6,7,8] a249b0
theorem a249l0_run:Lr a249l0 (value_of% a249l0):=fun _=>run_loop _ _ _ _
def a249:AFun:=.mk .iso 3 13 [.v 3] (.seq (.region (a249R 0) false) (.seq (.seq (.region (a249R 1) false) (.cond (.v 5) (.seq (.region (a249R 2) false) (.ret)) (.skip))) (.seq (.seq (.region (a249R 3) false) (.block 0 (a249l0))) (.seq (.region (a249R 10) false) (.ret)))))
def a248R:Nat → Unit → List AOper
| 0,_=>[oS 3 (.cb (.v 0)),
oS 4 (.cb (.v 1)),
oS 2 (.move (.c (.bool false)))]
| 1,_=>[oN (.ca (.v 3)),
oN (.field 0 0 false 1 (.v 3)),
oN (.ca (.v 4)),
oN (.field 0 0 false 1 (.v 4)),
oN (.bin .eql (.l 1) (.l 3)),
mL 4,
oT 5 (.ca (.v 3)),
oT 5 (.field 1 1 true 2 (.v 3)),
oT 5 (.ca (.v 4)),
oT 5 (.field 1 1 true 2 (.v 4)),
oT 5 (.call 168 [.l 7,.l 9]),
oT 5 (.bin .eql (.l 10) (.n 0)),
oN (.pick (.l 5) (.l 11) (.c (.bool false))),
sL 2 12]
| _,_=>[]
def a248:AFun:=.mk .iso 2 5 [.v 2] (.seq (.region (a248R 0) false) (.seq (.region (a248R 1) false) (.ret)))
def a168R:Nat → Unit → List AOper
| 0,_=>[oS 6 (.cb (.v 0)),
oS 7 (.cb (.v 1)),
oS 2 (.move (.n 0))]
| 1,_=>[oN (.ca (.v 6)),
oN (.field 0 0 false 1 (.v 6)),
mL 1,
oT 2 (.ca (.v 7)),
oT 2 (.field 0 0 false 1 (.v 7)),
oT 2 (.un .not (.l 4)),
oN (.pick (.l 2) (.l 5) (.c (.bool false))),
sL 3 6]
| 2,_=>[oS 2 (.move (.n (-1)))]
| 3,_=>[oN (.ca (.v 7)),
oN (.field 0 0 false 1 (.v 7)),
mL 1,
oT 2 (.ca (.v 6)),
oT 2 (.field 0 0 false 1 (.v 6)),
oT 2 (.un .not (.l 4)),
oN (.pick (.l 2) (.l 5) (.c (.bool false))),
sL 4 6]
| 4,_=>[oS 2 (.move (.n 1))]
| 5,_=>[oN (.ca (.v 6)),
oN (.field 0 0 false 1 (.v 6)),
sL 5 1]
| 6,_=>[oN (.ca (.v 7)),
oN (.field 1 1 false 1 (.v 7)),
oN (.ca (.v 6)),
oN (.field 1 1 false 1 (.v 6)),
oN (.call 68 [.l 1,.l 3]),
sL 2 4]
| 7,_=>[oN (.ca (.v 6)),
oN (.field 1 1 false 1 (.v 6)),
oN (.ca (.v 7)),
oN (.field 1 1 false 1 (.v 7)),
oN (.call 68 [.l 1,.l 3]),
sL 2 4]
| _,_=>[]
def a168:AFun:=.mk .iso 2 8 [.v 2] (.seq (.region (a168R 0) false) (.seq (.block 0 (.seq (.region (a168R 1) false) (.cond (.v 3) (.seq (.region (a168R 2) false) (.ret)) (.seq (.region (a168R 3) false) (.cond (.v 4) (.seq (.region (a168R 4) false) (.ret)) (.seq (.region (a168R 5) false) (.cond (.v 5) (.seq (.region (a168R 6) false) (.ret)) (.skip)))))))) (.seq (.region (a168R 7) false) (.ret))))
def a54R:Nat → Unit → List AOper
| 0,_=>[oS 5 (.cn zI)]
| 1,_=>[mV 0,
oN (.len 0 (.l 0)),
sL 2 1]
| 2,_=>[mV 2,
oS 3 (.bin .gtr (.l 0) (.n 0))]
| 3,_=>[mV 0,
mV 2,
oN (.bin .sub (.l 1) (.n 1)),
oN (.indexAddr 1 (.l 0) (.l 2)),
oN (.load false 1 (.l 3)),
oS 4 (.bin .neq (.l 4) (.c (.int .u32 0)))]
| 4,_=>[mV 2,
oN (.bin .sub (.l 0) (.n 1)),
sL 2 1]
| 5,_=>[mV 1,
mL 0,
oT 1 (.move (.v 2)),
oT 1 (.bin .gtr (.l 2) (.n 0)),
oN (.pick (.l 1) (.l 3) (.c (.bool false))),
mV 0,
mV 2,
mV 2,
oN (.slice 1 (.l 5) none (some (.l 6)) (some (.l 7))),
oN (.build [.bool false,.isl []] [(0,.l 4),(1,.l 8)]),
oS 5 (.cs 2 (.v 5) (.l 9))]
| _,_=>[]
def a54b0:AIR:=.seq (.seq (.region (a54R 2) false) (.cond (.v 3) (.skip) (.exit 0))) (.block 1 (.seq (.seq (.region (a54R 3) false) (.cond (.v 4) (.exit 0) (.skip))) (.region (a54R 4) false)))
def a54l0:AIR:=.loop true [0,1,2,5] a54b0
theorem a54l0_run:Lr a54l0 (value_of% a54l0):=fun _=>run_loop _ _ _ _
def a54:AFun:=.mk .con 2 6 [.c 5 true 2] (.seq (.region (a54R 0) false) (.scope (.seq (.region (a54R 1) false) (.seq (.label 0) (.seq (.block 0 (a54l0)) (.seq (.region (a54R 5) false) (.ret)))))))
def a251R:Nat → Unit → List AOper
| 0,_=>[oS 11 (.cn (.agg [.int .i64 0,.int .i64 0,.nl]))]
| 1,_=>[mV 0,
mV 1,
mV 0,
oN (.mkslice 1 24 (.nl) (.l 2) (.l 2)),
oN (.build [.int .i64 0,.int .i64 0,.nl] [(0,.l 0),(1,.l 1),(2,.l 3)]),
oS 12 (.cn (.agg [.int .i64 0,.int .i64 0,.nl])),
oS 12 (.cs 3 (.l 5) (.l 4))]
| 2,_=>[oS 5 (.move (.v 0)),
oS 6 (.move (.n 0))]
| 3,_=>[oS 7 (.bin .lss (.v 6) (.v 5))]
| 4,_=>[mV 6,
sL 3 0]
| 5,_=>[oN (.ca (.v 12)),
oN (.field 2 2 false 1 (.v 12)),
mV 3,
mV 1,
oN (.mkslice 2 32 zI (.l 3) (.l 3)),
oN (.indexAddr 1 (.l 1) (.l 2)),
oN (.store 1 (.l 5) (.l 4))]
| 6,_=>[oS 8 (.move (.v 1)),
oS 9 (.move (.n 0))]
| 7,_=>[oS 10 (.bin .lss (.v 9) (.v 8))]
| 8,_=>[mV 9,
sL 4 0]
| 9,_=>[oN (.ca (.v 12)),
oN (.field 2 2 false 1 (.v 12)),
mV 3,
oN (.indexAddr 1 (.l 1) (.l 2)),
oN (.load false 1 (.l 3)),
mV 4,
mV 2,
mV 3,
mV 4,
oN (.callp [250] (.l 6) [.l 7,.l 8]),
oN (.indexAddr 2 (.l 4) (.l 5)),
oN (.store 2 (.l 10) (.l 9))]
| 10,_=>[oN (.bin .add (.v 9) (.n 1)),
sL 9 0]
| 11,_=>[oN (.bin .add (.v 6) (.n 1)),
sL 6 0]
| 12,_=>[oN (.cl true 3 (.v 12)),
oS 11 (.cs 3 (.v 11) (.l 0))]
| _,_=>[]
def a251b1:AIR:=.seq (.region (a251R 7) false) (.seq (.cond (.v 10) (.skip) (.exit 2)) (.seq (.block 3 (.seq (.region (a251R 8) false) (.region (a251R 9) true))) (.region (a251R 10) false)))
def a251l1:AIR:=.loop false [0,1,2,3,5,6,7,8,9,11,12] a251b1
theorem a251l1_run:Lr a251l1 (value_of% a251l1):=fun _=>run_loop _ _ _ _
def a251b0:AIR:=.seq (.region (a251R 3) false) (.seq (.cond (.v 7) (.skip) (.exit 0)) (.seq (.block 1 (.seq (.region (a251R 4) false) (.seq (.region (a251R 5) true) (.seq (.region (a251R 6) false) (.block 2 (a251l1)))))) (.region (a251R 11) false)))
def a251l0:AIR:=.loop false [0,1,2,5,6,11,12] a251b0
theorem a251l0_run:Lr a251l0 (value_of% a251l0):=fun _=>run_loop _ _ _ _
def a251:AFun:=.mk .iso 3 13 [.c 11 true 3] (.seq (.region (a251R 0) false) (.seq (.region (a251R 1) false) (.seq (.seq (.region (a251R 2) false) (.block 0 (a251l0))) (.seq (.region (a251R 12) false) (.ret)))))
def a281:AFun:=.mk .keep a251.params a251.slots a251.results a251.body
def a250R:Nat → Unit → List AOper
| 0,_=>[oS 2 (.cn zI)]
| 1,_=>[oN (.build [.bool false,.isl []] []),
oS 2 (.cs 2 (.v 2) (.l 0))]
| _,_=>[]
def a250:AFun:=.mk .iso 2 3 [.c 2 true 2] (.seq (.region (a250R 0) false) (.seq (.region (a250R 1) false) (.ret)))
def a252R:Nat → Unit → List AOper
| 0,_=>[oN (.load false 1 (.v 0)),
oN (.mkmap),
oN (.nilCheck (.l 0)),
oN (.fieldAddr 2 4 (.l 2)),
oN (.store 1 (.l 3) (.l 1))]
| 1,_=>[oN (.load false 1 (.v 0)),
oN (.nilCheck (.l 0)),
oN (.fieldAddr 0 0 (.l 1)),
oS 1 (.load false 1 (.l 2)),
oS 2 (.len 0 (.l 3)),
oS 3 (.move (.n 0))]
| 2,_=>[oS 4 (.bin .lss (.v 3) (.v 2))]
| 3,_=>[oN (.indexAddr 2 (.v 1) (.v 3)),
oN (.load true 2 (.l 0)),
oS 5 (.cn (.agg [.int .i64 0,.nl])),
oS 5 (.cs 2 (.l 2) (.l 1))]
| 4,_=>[oN (.load false 1 (.v 0)),
oN (.nilCheck (.l 0)),
oN (.fieldAddr 2 4 (.l 1)),
oN (.load false 1 (.l 2)),
oN (.ca (.v 5)),
oN (.field 0 0 false 1 (.v 5)),
oN (.ca (.v 5)),
oN (.field 1 1 false 1 (.v 5)),
oN (.mupd (.l 3) (.l 5) (.l 7))]
| 5,_=>[oN (.bin .add (.v 3) (.n 1)),
sL 3 0]
| _,_=>[]
def a252b0:AIR:=.seq (.region (a252R 2) false) (.seq (.cond (.v 4) (.skip) (.exit 0)) (.seq (.block 1 (.seq (.region (a252R 3) false) (.region (a252R 4) true))) (.region (a252R 5) false)))
def a252l0:AIR:=.loop false [0,1,2,3] a252b0
theorem a252l0_run:Lr a252l0 (value_of% a252l0):=fun _=>run_loop _ _ _ _
def a252:AFun:=.mk .keep 1 6 [] (.seq (.region (a252R 0) false) (.seq (.region (a252R 1) false) (.block 0 (a252l0))))
def a58R:Nat → Unit → List AOper
| 0,_=>[oS 3 (.move (.c (.isl []))),
oS 4 (.move (.n 0))]
| 1,_=>[mV 0,
mV 1,
oN (.call 36 [.l 0,.l 1]),
sL 5 2]
| 2,_=>[mV 2,
oN (.len 0 (.l 0)),
mV 5,
oN (.len 0 (.l 2)),
oS 8 (.bin .neq (.l 1) (.l 3))]
| 3,_=>[oS 3 (.move (.c (.isl []))),
oS 4 (.move (.n 50))]
| 4,_=>[oN (.bslice false 3 (.agg [.int .i64 0,zI]) 0 []),
sL 6 0]
| 5,_=>[oS 7 (.move (.n 0))]
| 6,_=>[mV 7,
mV 2,
oN (.len 0 (.l 1)),
oS 9 (.bin .lss (.l 0) (.l 2))]
| 7,_=>[mV 7,
oN (.bin .add (.l 0) (.n 1)),
sL 7 1]
| 8,_=>[mV 6,
mV 5,
mV 7,
oN (.indexAddr 1 (.l 1) (.l 2)),
oN (.load false 1 (.l 3)),
mV 2,
mV 7,
oN (.indexAddr 2 (.l 5) (.l 6)),
oN (.load true 2 (.l 7)),
oN (.build [.int .i64 0,zI] [(0,.l 4),(1,.l 8)]),
oN (.call 29 [.l 0,.l 9]),
sL 6 10]
| 9,_=>[mV 6,
sL 3 0,
oS 4 (.move (.n 0))]
| _,_=>[]
def a58b0:AIR:=.seq (.seq (.region (a58R 6) false) (.cond (.v 9) (.skip) (.exit 0))) (.seq (.block 1 (.region (a58R 8) true)) (.region (a58R 7) false))
def a58l0:AIR:=.loop true [0,1,2,3,4,5,6,7,8] a58b0
theorem a58l0_run:Lr a58l0 (value_of% a58l0):=fun _=>run_loop _ _ _ _
def a58:AFun:=.mk .iso 3 10 [.v 3,.v 4] (.seq (.region (a58R 0) false) (.seq (.region (a58R 1) false) (.seq (.seq (.region (a58R 2) false) (.cond (.v 8) (.seq (.region (a58R 3) false) (.ret)) (.skip))) (.seq (.region (a58R 4) false) (.seq (.seq (.region (a58R 5) false) (.block 0 (a58l0))) (.seq (.region (a58R 9) false) (.ret)))))))
def a57R:Nat → Unit → List AOper
| 0,_=>[oS 2 (.move (.c (.bool false)))]
| 1,_=>[mV 0,
oN (.len 0 (.l 0)),
mV 1,
oN (.len 0 (.l 2)),
oS 4 (.bin .neq (.l 1) (.l 3))]
| 2,_=>[mV 0,
oN (.len 0 (.l 0)),
mV 1,
oN (.len 0 (.l 2)),
oN (.bin .lss (.l 1) (.l 3)),
sL 2 4]
| 3,_=>[mV 0,
oN (.len 0 (.l 0)),
oN (.bin .sub (.l 1) (.n 1)),
sL 3 2]
| 4,_=>[mV 3,
oS 5 (.bin .geq (.l 0) (.n 0))]
| 5,_=>[mV 3,
oN (.bin .sub (.l 0) (.n 1)),
sL 3 1]
| 6,_=>[mV 0,
mV 3,
oN (.indexAddr 1 (.l 0) (.l 1)),
oN (.load false 1 (.l 2)),
mV 1,
mV 3,
oN (.indexAddr 1 (.l 4) (.l 5)),
oN (.load false 1 (.l 6)),
oS 6 (.bin .neq (.l 3) (.l 7))]
| 7,_=>[mV 0,
mV 3,
oN (.indexAddr 1 (.l 0) (.l 1)),
oN (.load false 1 (.l 2)),
mV 1,
mV 3,
oN (.indexAddr 1 (.l 4) (.l 5)),
oN (.load false 1 (.l 6)),
oN (.bin .lss (.l 3) (.l 7)),
sL 2 8]
| 8,_=>[oS 2 (.move (.c (.bool false)))]
| _,_=>[]
def a57b0:AIR:=.seq (.seq (.region (a57R 4) false) (.cond (.v 5) (.skip) (.exit 0))) (.seq (.block 1 (.seq (.region (a57R 6) true) (.cond (.v 6) (.seq (.region (a57R 7) true) (.ret)) (.skip)))) (.region (a57R 5) false))
def a57l0:AIR:=.loop true [0,1,2,3,4] a57b0
theorem a57l0_run:Lr a57l0 (value_of% a57l0):=fun _=>run_loop _ _ _ _
def a57:AFun:=.mk .iso 2 7 [.v 2] (.seq (.region (a57R 0) false) (.seq (.seq (.region (a57R 1) false) (.cond (.v 4) (.seq (.region (a57R 2) false) (.ret)) (.skip))) (.seq (.seq (.region (a57R 3) false) (.block 0 (a57l0))) (.seq (.region (a57R 8) false) (.ret)))))
def a49R:Nat → Unit → List AOper
| 0,_=>[oS 4 (.cb (.v 0)),
oS 5 (.cb (.v 1)),
oS 6 (.cn zI)]
| 1,_=>[oN (.ca (.v 4)),
oN (.field 0 0 false 1 (.v 4)),
oN (.ca (.v 5)),
oN (.field 0 0 false 1 (.v 5)),
oS 2 (.binb false (.l 1) (.l 3))]
| 2,_=>[oN (.ca (.v 4)),
oN (.field 1 1 false 1 (.v 4)),
oN (.ca (.v 5)),
oN (.field 1 1 false 1 (.v 5)),
oN (.call 63 [.l 1,.l 3]),
oN (.ca (.v 4)),
oN (.field 0 0 false 1 (.v 4)),
oN (.call 38 [.l 4,.l 6]),
oS 6 (.cs 2 (.v 6) (.l 7))]
| 3,_=>[oN (.ca (.v 4)),
oN (.field 1 1 false 1 (.v 4)),
oN (.ca (.v 5)),
oN (.field 1 1 false 1 (.v 5)),
oS 3 (.call 57 [.l 1,.l 3])]
| 4,_=>[oN (.ca (.v 5)),
oN (.field 1 1 false 1 (.v 5)),
oN (.ca (.v 4)),
oN (.field 1 1 false 1 (.v 4)),
oN (.call 64 [.l 1,.l 3]),
oN (.ca (.v 5)),
oN (.field 0 0 false 1 (.v 5)),
oN (.call 38 [.l 4,.l 6]),
oS 6 (.cs 2 (.v 6) (.l 7))]
| 5,_=>[oN (.ca (.v 4)),
oN (.field 1 1 false 1 (.v 4)),
oN (.ca (.v 5)),
oN (.field 1 1 false 1 (.v 5)),
oN (.call 64 [.l 1,.l 3]),
oN (.ca (.v 4)),
oN (.field 0 0 false 1 (.v 4)),
oN (.call 38 [.l 4,.l 6]),
oS 6 (.cs 2 (.v 6) (.l 7))]
| _,_=>[]
def a49:AFun:=.mk .iso 2 7 [.c 6 true 2] (.seq (.region (a49R 0) false) (.seq (.seq (.region (a49R 1) false) (.cond (.v 2) (.seq (.region (a49R 2) true) (.ret)) (.skip))) (.seq (.seq (.region (a49R 3) false) (.cond (.v 3) (.seq (.region (a49R 4) true) (.ret)) (.skip))) (.seq (.region (a49R 5) true) (.ret)))))
def a62R:Nat → Unit → List AOper
| 0,_=>[oS 3 (.cb (.v 0)),
oS 4 (.cn (.agg [.int .i64 0,.int .i64 0,.nl]))]
| 1,_=>[oN (.cl true 3 (.v 3)),
oN (.call 74 [.l 0]),
oS 1 (.alloc (.agg [.agg [.int .i64 0,.int .i64 0,.nl],.agg [.int .i64 0,.int .i64 0,.nl],.agg [.int .i64 0,.int .i64 0,.nl]])),
oN (.store 9 (.l 2) (.l 1))]
| 2,_=>[oN (.fieldAddr 0 0 (.v 1)),
oN (.load true 3 (.l 0)),
oN (.call 75 [.l 1]),
sL 2 2]
| 3,_=>[oN (.ca (.v 3)),
oN (.field 0 0 false 1 (.v 3)),
mV 2,
oN (.bin .sub (.l 1) (.l 2)),
oN (.ca (.v 3)),
oN (.field 0 0 false 1 (.v 3)),
oN (.fieldAddr 1 3 (.v 1)),
oN (.fieldAddr 2 2 (.l 6)),
oN (.load false 1 (.l 7)),
mV 2,
oN (.slice 1 (.l 8) (some (.l 9)) none none),
oN (.build [.int .i64 0,.int .i64 0,.nl] [(0,.l 3),(1,.l 5),(2,.l 10)]),
oS 5 (.cn (.agg [.int .i64 0,.int .i64 0,.nl])),
oS 5 (.cs 3 (.l 12) (.l 11))]
| 4,_=>[oN (.cl true 3 (.v 5)),
oN (.call 76 [.l 0]),
oS 4 (.cs 3 (.v 4) (.l 1))]
| _,_=>[]
def a62:AFun:=.mk .iso 1 6 [.c 4 true 3] (.seq (.region (a62R 0) false) (.seq (.region (a62R 1) false) (.seq (.region (a62R 2) false) (.seq (.region (a62R 3) true) (.seq (.region (a62R 4) false) (.ret))))))
def a255R:Nat → Unit → List AOper
| 0,_=>[oS 3 (.move (.c (.isl [])))]
| 1,_=>[mV 0,
mV 1,
oN (.indexAddr 3 (.l 0) (.l 1)),
oN (.load true 3 (.l 2)),
oN (.bslice false 3 (.agg [.int .i64 0,zI]) 0 []),
oS 9 (.cn (.agg [.int .i64 0,.int .i64 0,.nl])),
oS 9 (.cs 3 (.l 5) (.l 3)),
sL 4 4]
| 2,_=>[mV 0,
oN (.ca (.v 9)),
oN (.field 1 1 false 1 (.v 9)),
oN (.bin .add (.l 2) (.n 1)),
oN (.call 36 [.l 0,.l 3]),
sL 5 4]
| 3,_=>[oS 6 (.move (.n 0))]
| 4,_=>[mV 6,
mV 5,
oN (.len 0 (.l 1)),
oN (.bin .lss (.l 0) (.l 2)),
mL 3,
oT 4 (.move (.v 2)),
oT 4 (.len 0 (.l 5)),
oT 4 (.bin .gtr (.l 6) (.n 0)),
oS 8 (.pick (.l 4) (.l 7) (.c (.bool false)))]
| 5,_=>[mV 6,
oN (.bin .add (.l 0) (.n 1)),
sL 6 1]
| 6,_=>[mV 2,
mV 1,
mV 6,
oN (.bin .mul (.n 3) (.l 2)),
oN (.bin .add (.l 1) (.l 3)),
mV 2,
oN (.len 0 (.l 5)),
oN (.bin .rem (.l 4) (.l 6)),
oN (.indexAddr 1 (.l 0) (.l 7)),
oN (.load false 1 (.l 8)),
sL 7 9]
| 7,_=>[mV 4,
mV 5,
mV 6,
oN (.indexAddr 1 (.l 1) (.l 2)),
oN (.load false 1 (.l 3)),
oN (.call 14 [.n 1]),
oN (.build [.int .i64 0,zI] [(0,.l 4),(1,.l 5)]),
oN (.bslice false 3 (.agg [.int .i64 0,zI]) 1 [(0,.l 6)]),
mV 7,
oN (.bin .rem (.l 8) (.c (.int .i8 3))),
oN (.conv .i64 (.l 9)),
oN (.call 14 [.l 10]),
oN (.call 16 [.l 0,.l 7,.l 11]),
sL 4 12]
| 8,_=>[mV 4,
sL 3 0]
| _,_=>[]
def a255b0:AIR:=.seq (.seq (.region (a255R 4) false) (.cond (.v 8) (.skip) (.exit 0))) (.seq (.block 1 (.seq (.region (a255R 6) false) (.region (a255R 7) true))) (.region (a255R 5) false))
def a255l0:AIR:=.loop true [0,1,2,3,4,5,6,9] a255b0
theorem a255l0_run:Lr a255l0 (value_of% a255l0):=fun _=>run_loop _ _ _ _
def a255:AFun:=.mk .iso 3 10 [.v 3] (.seq (.region (a255R 0) false) (.seq (.region (a255R 1) false) (.seq (.region (a255R 2) false) (.seq (.seq (.region (a255R 3) false) (.block 0 (a255l0))) (.seq (.region (a255R 8) false) (.ret))))))
def a50R:Nat → Unit → List AOper
| 0,_=>[oS 6 (.cn (.agg [.int .i64 0,.int .i64 0,.nl])),
oS 2 (.move (.c (.bool false)))]
| 1,_=>[mV 0,
mV 1,
oN (.call 65 [.l 0,.l 1]),
mL 2,
oN (.extract 0 (.l 3)),
oN (.extract 1 (.l 3)),
sL 3 4,
sL 4 5]
| 2,_=>[mV 4,
oS 5 (.un .not (.l 0))]
| 3,_=>[oN (.build [.int .i64 0,.int .i64 0,.nl] []),
oS 6 (.cs 3 (.v 6) (.l 0)),
oS 2 (.move (.c (.bool false)))]
| 4,_=>[mV 0,
mV 3,
oN (.indexAddr 3 (.l 0) (.l 1)),
oN (.load true 3 (.l 2)),
oS 6 (.cs 3 (.v 6) (.l 3)),
oS 2 (.move (.c (.bool true)))]
| _,_=>[]
def a50:AFun:=.mk .iso 2 7 [.c 6 true 3,.v 2] (.seq (.region (a50R 0) false) (.seq (.region (a50R 1) false) (.seq (.seq (.region (a50R 2) false) (.cond (.v 5) (.seq (.region (a50R 3) false) (.ret)) (.skip))) (.seq (.region (a50R 4) false) (.ret)))))
def a52R:Nat → Unit → List AOper
| 0,_=>[oS 2 (.move (.c (.bool false)))]
| 1,_=>[mV 0,
mV 1,
oN (.call 66 [.l 0,.l 1]),
oN (.bin .geq (.l 2) (.n 0)),
sL 2 3]
| _,_=>[]
def a52:AFun:=.mk .shr 2 3 [.v 2] (.seq (.region (a52R 0) false) (.seq (.region (a52R 1) false) (.ret)))
def a51R:Nat → Unit → List AOper
| 0,_=>[oS 3 (.cb (.v 0)),
oS 2 (.move (.c (.bool false)))]
| 1,_=>[oN (.ca (.v 3)),
oN (.field 1 1 false 1 (.v 3)),
oN (.load false 1 (.v 1)),
oN (.bin .neq (.l 1) (.l 2)),
sL 2 3]
| _,_=>[]
def a51:AFun:=.mk .shr 2 4 [.v 2] (.seq (.region (a51R 0) false) (.seq (.region (a51R 1) false) (.ret)))
def a53R:Nat → Unit → List AOper
| 0,_=>[oS 4 (.cb (.v 0)),
oS 5 (.cb (.v 1)),
oS 6 (.cn zI)]
| 1,_=>[oN (.ca (.v 4)),
oN (.field 0 0 false 1 (.v 4)),
oN (.ca (.v 5)),
oN (.field 0 0 false 1 (.v 5)),
oN (.binb false (.l 1) (.l 3)),
sL 2 4]
| 2,_=>[oN (.ca (.v 4)),
oN (.field 1 1 false 1 (.v 4)),
oN (.ca (.v 5)),
oN (.field 1 1 false 1 (.v 5)),
oN (.call 67 [.l 1,.l 3]),
oN (.ca (.v 4)),
oN (.field 0 0 false 1 (.v 4)),
oN (.call 54 [.l 4,.l 6]),
oS 6 (.cs 2 (.v 6) (.l 7))]
| 3,_=>[oN (.ca (.v 4)),
oN (.field 1 1 false 1 (.v 4)),
oN (.ca (.v 5)),
oN (.field 1 1 false 1 (.v 5)),
oN (.call 68 [.l 1,.l 3]),
oN (.bin .lss (.l 4) (.n 0)),
sL 3 5]
| 4,_=>[oN (.ca (.v 5)),
oN (.field 1 1 false 1 (.v 5)),
oN (.ca (.v 4)),
oN (.field 1 1 false 1 (.v 4)),
oN (.call 69 [.l 1,.l 3]),
oN (.ca (.v 5)),
oN (.field 0 0 false 1 (.v 5)),
oN (.call 54 [.l 4,.l 6]),
oS 6 (.cs 2 (.v 6) (.l 7))]
| 5,_=>[oN (.ca (.v 4)),
oN (.field 1 1 false 1 (.v 4)),
oN (.ca (.v 5)),
oN (.field 1 1 false 1 (.v 5)),
oN (.call 69 [.l 1,.l 3]),
oN (.ca (.v 4)),
oN (.field 0 0 false 1 (.v 4)),
oN (.call 54 [.l 4,.l 6]),
oS 6 (.cs 2 (.v 6) (.l 7))]
| _,_=>[]
def a53:AFun:=.mk .iso 2 7 [.c 6 true 2] (.seq (.region (a53R 0) false) (.seq (.block 0 (.seq (.region (a53R 1) false) (.cond (.v 2) (.seq (.region (a53R 2) true) (.ret)) (.seq (.region (a53R 3) false) (.cond (.v 3) (.seq (.region (a53R 4) true) (.ret)) (.skip)))))) (.seq (.region (a53R 5) true) (.ret))))
def a55R:Nat → Unit → List AOper
| 0,_=>[oS 1 (.box true (.v 0)),
oS 2 (.move (.c (.a .nilFunc)))]
| 1,_=>[oN (.mkfn 72 [.v 1]),
sL 2 0]
| _,_=>[]
def a55:AFun:=.mk .shr 1 3 [.v 2] (.seq (.region (a55R 0) false) (.seq (.region (a55R 1) false) (.ret)))
def a68R:Nat → Unit → List AOper
| 0,_=>[oS 2 (.move (.n 0))]
| 1,_=>[mV 0,
oN (.len 0 (.l 0)),
mV 1,
oN (.len 0 (.l 2)),
oN (.call 80 [.l 1,.l 3]),
sL 3 4]
| 2,_=>[mV 3,
oS 6 (.bin .neq (.l 0) (.n 0))]
| 3,_=>[mV 3,
sL 2 0]
| 4,_=>[mV 0,
oN (.len 0 (.l 0)),
oN (.bin .sub (.l 1) (.n 1)),
sL 4 2]
| 5,_=>[mV 4,
oS 7 (.bin .geq (.l 0) (.n 0))]
| 6,_=>[mV 4,
oN (.bin .sub (.l 0) (.n 1)),
sL 4 1]
| 7,_=>[mV 0,
mV 4,
oN (.indexAddr 1 (.l 0) (.l 1)),
oN (.load false 1 (.l 2)),
mV 1,
mV 4,
oN (.indexAddr 1 (.l 4) (.l 5)),
oN (.load false 1 (.l 6)),
oN (.call 81 [.l 3,.l 7]),
sL 5 8]
| 8,_=>[mV 5,
oS 8 (.bin .neq (.l 0) (.n 0))]
| 9,_=>[mV 5,
sL 2 0]
| 10,_=>[oS 2 (.move (.n 0))]
| _,_=>[]
def a68b0:AIR:=.seq (.seq (.region (a68R 5) false) (.cond (.v 7) (.skip) (.exit 0))) (.seq (.block 1 (.seq (.region (a68R 7) true) (.seq (.region (a68R 8) false) (.cond (.v 8) (.seq (.region (a68R 9) false) (.ret)) (.skip))))) (.region (a68R 6) false))
def a68l0:AIR:=.loop true [0,1,2,3,4,6] a68b0
theorem a68l0_run:Lr a68l0 (value_of% a68l0):=fun _=>run_loop _ _ _ _
def a68:AFun:=.mk .iso 2 9 [.v 2] (.seq (.region (a68R 0) false) (.seq (.seq (.region (a68R 1) false) (.seq (.region (a68R 2) false) (.cond (.v 6) (.seq (.region (a68R 3) false) (.ret)) (.skip)))) (.seq (.seq (.region (a68R 4) false) (.block 0 (a68l0))) (.seq (.region (a68R 10) false) (.ret)))))
def a63R:Nat → Unit → List AOper
| 0,_=>[oS 2 (.move (.c (.isl [])))]
| 1,_=>[oN (.bslice true 1 (.int .u32 0) 0 []),
sL 3 0,
oS 4 (.move (.c (.int .u64 0)))]
| 2,_=>[oS 5 (.move (.n 0))]
| 3,_=>[mV 5,
mV 0,
oN (.len 0 (.l 1)),
oN (.bin .lss (.l 0) (.l 2)),
mL 3,
oF 4 (.move (.v 5)),
oF 4 (.move (.v 1)),
oF 4 (.len 0 (.l 6)),
oF 4 (.bin .lss (.l 5) (.l 7)),
oN (.pick (.l 4) (.c (.bool true)) (.l 8)),
mL 9,
oF 10 (.move (.v 4)),
oF 10 (.bin .gtr (.l 11) (.c (.int .u64 0))),
oS 6 (.pick (.l 10) (.c (.bool true)) (.l 12))]
| 4,_=>[mV 5,
oN (.bin .add (.l 0) (.n 1)),
sL 5 1]
| 5,_=>[mV 5,
mV 0,
oN (.len 0 (.l 1)),
oS 7 (.bin .lss (.l 0) (.l 2))]
| 6,_=>[mV 4,
mV 0,
mV 5,
oN (.indexAddr 1 (.l 1) (.l 2)),
oN (.load false 1 (.l 3)),
oN (.conv .u64 (.l 4)),
oN (.bin .add (.l 0) (.l 5)),
sL 4 6]
| 7,_=>[mV 5,
mV 1,
oN (.len 0 (.l 1)),
oS 8 (.bin .lss (.l 0) (.l 2))]
| 8,_=>[mV 4,
mV 1,
mV 5,
oN (.indexAddr 1 (.l 1) (.l 2)),
oN (.load false 1 (.l 3)),
oN (.conv .u64 (.l 4)),
oN (.bin .add (.l 0) (.l 5)),
sL 4 6]
| 9,_=>[mV 3,
mV 4,
oN (.conv .u32 (.l 1)),
oN (.bslice false 1 (.int .u32 0) 1 [(0,.l 2)]),
oN (.append 1 4 (.l 0) (.l 3)),
sL 3 4]
| 10,_=>[mV 4,
oN (.bin .quo (.l 0) (.c (.int .u64 4294967296))),
sL 4 1]
| 11,_=>[mV 3,
sL 2 0]
| _,_=>[]
def a63b0:AIR:=.seq (.seq (.region (a63R 3) false) (.cond (.v 6) (.skip) (.exit 0))) (.seq (.block 1 (.seq (.seq (.region (a63R 5) false) (.cond (.v 7) (.region (a63R 6) false) (.skip))) (.seq (.seq (.region (a63R 7) false) (.cond (.v 8) (.region (a63R 8) false) (.skip))) (.seq (.region (a63R 9) false) (.region (a63R 10) false))))) (.region (a63R 4) false))
def a63l0:AIR:=.loop true [0,1,2,3,4,5] a63b0
theorem a63l0_run:Lr a63l0 (value_of% a63l0):=fun _=>run_loop _ _ _ _
def a63:AFun:=.mk .iso 2 9 [.v 2] (.seq (.region (a63R 0) false) (.seq (.region (a63R 1) false) (.seq (.seq (.region (a63R 2) false) (.block 0 (a63l0))) (.seq (.region (a63R 11) false) (.ret)))))
def a64R:Nat → Unit → List AOper
| 0,_=>[oS 2 (.move (.c (.isl [])))]
| 1,_=>[oN (.bslice true 1 (.int .u32 0) 0 []),
sL 3 0,
oS 4 (.move (.n 0))]
| 2,_=>[oS 5 (.move (.n 0))]
| 3,_=>[mV 5,
mV 0,
oN (.len 0 (.l 1)),
oS 7 (.bin .lss (.l 0) (.l 2))]
| 4,_=>[mV 5,
oN (.bin .add (.l 0) (.n 1)),
sL 5 1]
| 5,_=>[mV 0,
mV 5,
oN (.indexAddr 1 (.l 0) (.l 1)),
oN (.load false 1 (.l 2)),
oN (.conv .i64 (.l 3)),
mV 4,
oN (.bin .sub (.l 4) (.l 5)),
sL 6 6]
| 6,_=>[mV 5,
mV 1,
oN (.len 0 (.l 1)),
oS 8 (.bin .lss (.l 0) (.l 2))]
| 7,_=>[mV 6,
mV 1,
mV 5,
oN (.indexAddr 1 (.l 1) (.l 2)),
oN (.load false 1 (.l 3)),
oN (.conv .i64 (.l 4)),
oN (.bin .sub (.l 0) (.l 5)),
sL 6 6]
| 8,_=>[oS 4 (.move (.n 0))]
| 9,_=>[mV 6,
oS 9 (.bin .lss (.l 0) (.n 0))]
| 10,_=>[mV 6,
oN (.bin .add (.l 0) (.n 4294967296)),
sL 6 1]
| 11,_=>[oS 4 (.move (.n 1))]
| 12,_=>[mV 3,
mV 6,
oN (.conv .u32 (.l 1)),
oN (.bslice false 1 (.int .u32 0) 1 [(0,.l 2)]),
oN (.append 1 4 (.l 0) (.l 3)),
sL 3 4]
| 13,_=>[mV 3,
sL 2 0]
| _,_=>[]
def a64b0:AIR:=.seq (.seq (.region (a64R 3) false) (.cond (.v 7) (.skip) (.exit 0))) (.seq (.block 1 (.seq (.region (a64R 5) false) (.seq (.seq (.region (a64R 6) false) (.cond (.v 8) (.region (a64R 7) false) (.skip))) (.seq (.region (a64R 8) false) (.seq (.seq (.region (a64R 9) false) (.cond (.v 9) (.seq (.region (a64R 10) false) (.region (a64R 11) false)) (.skip))) (.region (a64R 12) false)))))) (.region (a64R 4) false))
def a64l0:AIR:=.loop true [0,1,2,3,4,5] a64b0
theorem a64l0_run:Lr a64l0 (value_of% a64l0):=fun _=>run_loop _ _ _ _
def a64:AFun:=.mk .iso 2 10 [.v 2] (.seq (.region (a64R 0) false) (.seq (.region (a64R 1) false) (.seq (.seq (.region (a64R 2) false) (.block 0 (a64l0))) (.seq (.region (a64R 13) false) (.ret)))))
def a74R:Nat → Unit → List AOper
| 0,_=>[oS 13 (.cb (.v 0)),
oS 14 (.cn (.agg [.agg [.int .i64 0,.int .i64 0,.nl],.agg [.int .i64 0,.int .i64 0,.nl],.agg [.int .i64 0,.int .i64 0,.nl]]))]
| 1,_=>[oN (.cl true 3 (.v 13)),
oN (.call 86 [.l 0]),
sL 1 1]
| 2,_=>[oS 2 (.move (.n 0))]
| 3,_=>[oS 3 (.move (.n 0))]
| 4,_=>[mV 3,
oN (.ca (.v 13)),
oN (.field 1 1 false 1 (.v 13)),
oN (.bin .lss (.l 0) (.l 2)),
mL 3,
oT 4 (.move (.v 2)),
oT 4 (.ca (.v 13)),
oT 4 (.field 0 0 false 1 (.v 13)),
oT 4 (.bin .lss (.l 5) (.l 7)),
oS 6 (.pick (.l 4) (.l 8) (.c (.bool false)))]
| 5,_=>[mV 3,
oN (.bin .add (.l 0) (.n 1)),
sL 3 1]
| 6,_=>[mV 2,
oN (.bin .add (.l 0) (.n 1)),
sL 4 1]
| 7,_=>[mV 4,
oN (.ca (.v 13)),
oN (.field 0 0 false 1 (.v 13)),
oS 7 (.bin .lss (.l 0) (.l 2))]
| 8,_=>[mV 4,
oN (.bin .add (.l 0) (.n 1)),
sL 4 1]
| 9,_=>[mV 1,
oN (.nilCheck (.l 0)),
oN (.fieldAddr 0 0 (.l 1)),
oN (.fieldAddr 2 2 (.l 2)),
oN (.load false 1 (.l 3)),
mV 4,
oN (.indexAddr 1 (.l 4) (.l 5)),
oN (.load false 1 (.l 6)),
mV 3,
oN (.indexAddr 2 (.l 7) (.l 8)),
oN (.load true 2 (.l 9)),
oN (.call 43 [.l 10]),
oS 8 (.bin .neq (.l 11) (.n 0))]
| 10,_=>[mV 1,
oN (.nilCheck (.l 0)),
oN (.fieldAddr 0 0 (.l 1)),
oN (.fieldAddr 2 2 (.l 2)),
oN (.load false 1 (.l 3)),
mV 2,
oN (.indexAddr 1 (.l 4) (.l 5)),
oN (.load false 1 (.l 6)),
mV 3,
oN (.indexAddr 2 (.l 7) (.l 8)),
oN (.load true 2 (.l 9)),
oN (.call 43 [.l 10]),
oS 9 (.bin .neq (.l 11) (.n 0))]
| 11,_=>[mV 1,
oN (.nilCheck (.l 0)),
oN (.fieldAddr 0 0 (.l 1)),
oN (.fieldAddr 2 2 (.l 2)),
oN (.load false 1 (.l 3)),
mV 2,
oN (.indexAddr 1 (.l 4) (.l 5)),
oN (.load false 1 (.l 6)),
mV 3,
oN (.indexAddr 2 (.l 7) (.l 8)),
oN (.load true 2 (.l 9)),
mV 1,
oN (.nilCheck (.l 11)),
oN (.fieldAddr 0 0 (.l 12)),
oN (.fieldAddr 2 2 (.l 13)),
oN (.load false 1 (.l 14)),
mV 4,
oN (.indexAddr 1 (.l 15) (.l 16)),
oN (.load false 1 (.l 17)),
mV 3,
oN (.indexAddr 2 (.l 18) (.l 19)),
oN (.load true 2 (.l 20)),
oN (.call 87 [.l 10,.l 21]),
mL 22,
oN (.extract 0 (.l 23)),
oN (.extract 1 (.l 23)),
oN (.extract 2 (.l 23)),
oS 15 (.cn zI),
oS 16 (.cn zI),
oS 15 (.cs 2 (.l 27) (.l 24)),
oS 16 (.cs 2 (.l 28) (.l 25)),
mL 26]
| 12,_=>[mV 1,
mV 2,
mV 4,
oN (.cl true 2 (.v 15)),
oN (.call 88 [.l 3]),
oN (.call 89 [.l 0,.l 1,.l 2,.l 4])]
| 13,_=>[mV 1,
mV 2,
mV 4,
oN (.call 90 [.l 0,.l 1,.l 2])]
| 14,_=>[mV 1,
oN (.nilCheck (.l 0)),
oN (.fieldAddr 0 0 (.l 1)),
oN (.fieldAddr 2 2 (.l 2)),
oN (.load false 1 (.l 3)),
mV 2,
oN (.indexAddr 1 (.l 4) (.l 5)),
oN (.load false 1 (.l 6)),
mV 3,
oN (.indexAddr 2 (.l 7) (.l 8)),
oN (.load true 2 (.l 9)),
oN (.call 43 [.l 10]),
oS 10 (.bin .eql (.l 11) (.n 0))]
| 15,_=>[mV 1,
oN (.nilCheck (.l 0)),
oN (.fieldAddr 0 0 (.l 1)),
oN (.fieldAddr 2 2 (.l 2)),
oN (.load false 1 (.l 3)),
mV 2,
oN (.indexAddr 1 (.l 4) (.l 5)),
oN (.load false 1 (.l 6)),
mV 3,
oN (.indexAddr 2 (.l 7) (.l 8)),
oN (.load true 2 (.l 9)),
oN (.call 43 [.l 10]),
oS 11 (.bin .lss (.l 11) (.n 0))]
| 16,_=>[mV 1,
mV 2,
oN (.call 91 [.l 0,.l 1])]
| 17,_=>[oS 5 (.move (.n 0))]
| 18,_=>[mV 5,
mV 2,
oS 12 (.bin .lss (.l 0) (.l 1))]
| 19,_=>[mV 5,
oN (.bin .add (.l 0) (.n 1)),
sL 5 1]
| 20,_=>[mV 1,
mV 5,
mV 2,
mV 1,
oN (.nilCheck (.l 3)),
oN (.fieldAddr 0 0 (.l 4)),
oN (.fieldAddr 2 2 (.l 5)),
oN (.load false 1 (.l 6)),
mV 5,
oN (.indexAddr 1 (.l 7) (.l 8)),
oN (.load false 1 (.l 9)),
mV 3,
oN (.indexAddr 2 (.l 10) (.l 11)),
oN (.load true 2 (.l 12)),
mV 1,
oN (.nilCheck (.l 14)),
oN (.fieldAddr 0 0 (.l 15)),
oN (.fieldAddr 2 2 (.l 16)),
oN (.load false 1 (.l 17)),
mV 2,
oN (.indexAddr 1 (.l 18) (.l 19)),
oN (.load false 1 (.l 20)),
mV 3,
oN (.indexAddr 2 (.l 21) (.l 22)),
oN (.load true 2 (.l 23)),
oN (.call 92 [.l 13,.l 24]),
oN (.call 88 [.l 25]),
oN (.call 89 [.l 0,.l 1,.l 2,.l 26])]
| 21,_=>[mV 2,
oN (.bin .add (.l 0) (.n 1)),
sL 2 1]
| 22,_=>[mV 1,
oN (.nilCheck (.l 0)),
oN (.fieldAddr 0 0 (.l 1)),
oN (.load true 3 (.l 2)),
mV 1,
oN (.nilCheck (.l 4)),
oN (.fieldAddr 1 3 (.l 5)),
oN (.load true 3 (.l 6)),
mV 1,
oN (.nilCheck (.l 8)),
oN (.fieldAddr 2 6 (.l 9)),
oN (.load true 3 (.l 10)),
oN (.build [.agg [.int .i64 0,.int .i64 0,.nl],.agg [.int .i64 0,.int .i64 0,.nl],.agg [.int .i64 0,.int .i64 0,.nl]] [(0,.l 3),(1,.l 7),(2,.l 11)]),
oS 14 (.cs 9 (.v 14) (.l 12))]
| _,_=>[]
def a74b2:AIR:=.seq (.seq (.region (a74R 9) false) (.cond (.v 8) (.skip) (.exit 4))) (.block 5 (.seq (.seq (.region (a74R 10) false) (.cond (.v 9) (.seq (.region (a74R 11) true) (.region (a74R 12) false)) (.skip))) (.region (a74R 13) false)))
def a74l2:AIR:=.loop false [0,1,2,3,4,5,6,7,10,11,12,13,14] a74b2
theorem a74l2_run:Lr a74l2 (value_of% a74l2):=fun _=>run_loop _ _ _ _
def a74b1:AIR:=.seq (.seq (.region (a74R 7) false) (.cond (.v 7) (.skip) (.exit 2))) (.seq (.block 3 (.block 4 (a74l2))) (.region (a74R 8) false))
def a74l1:AIR:=.loop false [0,1,2,3,4,5,6,10,11,12,13,14] a74b1
theorem a74l1_run:Lr a74l1 (value_of% a74l1):=fun _=>run_loop _ _ _ _
def a74b3:AIR:=.seq (.seq (.region (a74R 18) false) (.cond (.v 12) (.skip) (.exit 6))) (.seq (.block 7 (.region (a74R 20) true)) (.region (a74R 19) false))
def a74l3:AIR:=.loop false [0,1,2,3,4,5,6,7,8,9,10,11,13,14,15,16] a74b3
theorem a74l3_run:Lr a74l3 (value_of% a74l3):=fun _=>run_loop _ _ _ _
def a74b0:AIR:=.seq (.seq (.region (a74R 4) false) (.cond (.v 6) (.skip) (.exit 0))) (.seq (.block 1 (.seq (.seq (.region (a74R 6) false) (.block 2 (a74l1))) (.seq (.seq (.region (a74R 14) false) (.cond (.v 10) (.exit 1) (.skip))) (.seq (.seq (.region (a74R 15) false) (.cond (.v 11) (.region (a74R 16) false) (.skip))) (.seq (.seq (.region (a74R 17) false) (.block 6 (a74l3))) (.region (a74R 21) false)))))) (.region (a74R 5) false))
def a74l0:AIR:=.loop false [0,1,2,3,13,14] a74b0
theorem a74l0_run:Lr a74l0 (value_of% a74l0):=fun _=>run_loop _ _ _ _
def a74:AFun:=.mk .iso 1 17 [.c 14 true 9] (.seq (.region (a74R 0) false) (.seq (.region (a74R 1) false) (.seq (.region (a74R 2) false) (.seq (.seq (.region (a74R 3) false) (.block 0 (a74l0))) (.seq (.region (a74R 22) true) (.ret))))))
def a75R:Nat → Unit → List AOper
| 0,_=>[oS 6 (.cb (.v 0)),
oS 1 (.move (.n 0))]
| 1,_=>[oS 2 (.move (.n 0))]
| 2,_=>[oS 3 (.move (.n 0))]
| 3,_=>[mV 3,
oN (.ca (.v 6)),
oN (.field 0 0 false 1 (.v 6)),
oS 4 (.bin .lss (.l 0) (.l 2))]
| 4,_=>[mV 3,
oN (.bin .add (.l 0) (.n 1)),
sL 3 1]
| 5,_=>[oN (.ca (.v 6)),
oN (.field 2 2 false 1 (.v 6)),
mV 3,
oN (.indexAddr 1 (.l 1) (.l 2)),
oN (.load false 1 (.l 3)),
oN (.call 93 [.l 4]),
oS 5 (.bin .geq (.l 5) (.n 0))]
| 6,_=>[mV 2,
oN (.bin .add (.l 0) (.n 1)),
sL 2 1]
| 7,_=>[mV 2,
sL 1 0]
| _,_=>[]
def a75b0:AIR:=.seq (.seq (.region (a75R 3) false) (.cond (.v 4) (.skip) (.exit 0))) (.seq (.block 1 (.seq (.region (a75R 5) false) (.cond (.v 5) (.region (a75R 6) false) (.skip)))) (.region (a75R 4) false))
def a75l0:AIR:=.loop true [0,1,2,3,6] a75b0
theorem a75l0_run:Lr a75l0 (value_of% a75l0):=fun _=>run_loop _ _ _ _
def a75:AFun:=.mk .iso 1 7 [.v 1] (.seq (.region (a75R 0) false) (.seq (.region (a75R 1) false) (.seq (.seq (.region (a75R 2) false) (.block 0 (a75l0))) (.seq (.region (a75R 7) false) (.ret)))))
def a76R:Nat → Unit → List AOper
| 0,_=>[oS 1 (.cb (.v 0)),
oS 2 (.cn (.agg [.int .i64 0,.int .i64 0,.nl]))]
| 1,_=>[oN (.cl true 3 (.v 1)),
oN (.call 74 [.l 0]),
oS 3 (.cn (.agg [.agg [.int .i64 0,.int .i64 0,.nl],.agg [.int .i64 0,.int .i64 0,.nl],.agg [.int .i64 0,.int .i64 0,.nl]])),
oS 3 (.cs 9 (.l 2) (.l 1))]
| 2,_=>[oN (.ca (.v 3)),
oN (.field 0 0 true 3 (.v 3)),
oN (.ca (.v 3)),
oN (.field 0 0 true 3 (.v 3)),
oN (.call 75 [.l 3]),
oN (.call 94 [.l 1,.l 4]),
oS 2 (.cs 3 (.v 2) (.l 5))]
| _,_=>[]
def a76:AFun:=.mk .iso 1 4 [.c 2 true 3] (.seq (.region (a76R 0) false) (.seq (.region (a76R 1) false) (.seq (.region (a76R 2) true) (.ret))))
def a65R:Nat → Unit → List AOper
| 0,_=>[oS 2 (.move (.n 0)),
oS 3 (.move (.c (.bool false)))]
| 1,_=>[mV 0,
mV 1,
oN (.call 78 [.l 0,.l 1,.f 77]),
oN (.extract 0 (.l 2)),
oN (.extract 1 (.l 2)),
sL 2 3,
sL 3 4]
| _,_=>[]
def a65:AFun:=.mk .iso 2 4 [.v 2,.v 3] (.seq (.region (a65R 0) false) (.seq (.region (a65R 1) false) (.ret)))
def a66R:Nat → Unit → List AOper
| 0,_=>[oS 2 (.move (.n 0))]
| 1,_=>[mV 0,
oS 4 (.len 0 (.l 0)),
oS 5 (.move (.n 0))]
| 2,_=>[oS 6 (.bin .lss (.v 5) (.v 4))]
| 3,_=>[mV 5,
sL 3 0]
| 4,_=>[mV 1,
mV 0,
mV 3,
oN (.indexAddr 3 (.l 1) (.l 2)),
oN (.load true 3 (.l 3)),
oS 7 (.callv (.l 0) [.l 4])]
| 5,_=>[mV 3,
sL 2 0]
| 6,_=>[oN (.bin .add (.v 5) (.n 1)),
sL 5 0]
| 7,_=>[oS 2 (.move (.n (-1)))]
| _,_=>[]
def a66b0:AIR:=.seq (.region (a66R 2) false) (.seq (.cond (.v 6) (.skip) (.exit 0)) (.seq (.block 1 (.seq (.region (a66R 3) false) (.seq (.region (a66R 4) false) (.cond (.v 7) (.seq (.region (a66R 5) false) (.ret)) (.skip))))) (.region (a66R 6) false)))
def a66l0:AIR:=.loop true [0,1,2,4,5] a66b0
theorem a66l0_run:Lr a66l0 (value_of% a66l0):=fun _=>run_loop _ _ _ _
def a66:AFun:=.mk .shr 2 8 [.v 2] (.seq (.region (a66R 0) false) (.seq (.seq (.region (a66R 1) false) (.block 0 (a66l0))) (.seq (.region (a66R 7) false) (.ret))))
def a67R:Nat → Unit → List AOper
| 0,_=>[oS 2 (.move (.c (.isl [])))]
| 1,_=>[mV 0,
oN (.len 0 (.l 0)),
mV 1,
oN (.len 0 (.l 2)),
oS 7 (.bin .lss (.l 1) (.l 3))]
| 2,_=>[mV 1,
mV 0,
sL 0 0,
sL 1 1]
| 3,_=>[mV 0,
oN (.len 0 (.l 0)),
oN (.bin .add (.l 1) (.n 1)),
oN (.mkslice 1 4 (.int .u32 0) (.l 2) (.l 2)),
sL 3 3]
| 4,_=>[mV 3,
mV 0,
oN (.copy 1 (.l 0) (.l 1))]
| 5,_=>[oS 4 (.move (.c (.int .u32 0)))]
| 6,_=>[mV 0,
oS 8 (.len 0 (.l 0)),
oS 9 (.move (.n 0))]
| 7,_=>[oS 10 (.bin .lss (.v 9) (.v 8))]
| 8,_=>[mV 9,
sL 5 0]
| 9,_=>[oS 6 (.move (.c (.int .u32 0)))]
| 10,_=>[mV 5,
mV 1,
oN (.len 0 (.l 1)),
oS 11 (.bin .lss (.l 0) (.l 2))]
| 11,_=>[mV 1,
mV 5,
oN (.indexAddr 1 (.l 0) (.l 1)),
oN (.load false 1 (.l 2)),
sL 6 3]
| 12,_=>[mV 3,
mV 5,
mV 0,
mV 5,
oN (.indexAddr 1 (.l 2) (.l 3)),
oN (.load false 1 (.l 4)),
mV 6,
mV 4,
oN (.call 79 [.l 5,.l 6,.l 7]),
mL 8,
oN (.extract 0 (.l 9)),
oN (.extract 1 (.l 9)),
oN (.indexAddr 1 (.l 0) (.l 1)),
oN (.store 1 (.l 12) (.l 10)),
sL 4 11]
| 13,_=>[oN (.bin .add (.v 9) (.n 1)),
sL 9 0]
| 14,_=>[mV 3,
mV 0,
oN (.len 0 (.l 1)),
mV 4,
oN (.indexAddr 1 (.l 0) (.l 2)),
oN (.store 1 (.l 4) (.l 3))]
| 15,_=>[mV 3,
sL 2 0]
| _,_=>[]
def a67b0:AIR:=.seq (.region (a67R 7) false) (.seq (.cond (.v 10) (.skip) (.exit 0)) (.seq (.block 1 (.seq (.region (a67R 8) false) (.seq (.region (a67R 9) false) (.seq (.seq (.region (a67R 10) false) (.cond (.v 11) (.region (a67R 11) false) (.skip))) (.region (a67R 12) false))))) (.region (a67R 13) false)))
def a67l0:AIR:=.loop true [0,1,2,3,4,7,8,9] a67b0
theorem a67l0_run:Lr a67l0 (value_of% a67l0):=fun _=>run_loop _ _ _ _
def a67:AFun:=.mk .iso 2 12 [.v 2] (.seq (.region (a67R 0) false) (.seq (.seq (.region (a67R 1) false) (.cond (.v 7) (.region (a67R 2) false) (.skip))) (.seq (.region (a67R 3) false) (.seq (.region (a67R 4) false) (.seq (.region (a67R 5) false) (.seq (.seq (.region (a67R 6) false) (.block 0 (a67l0))) (.seq (.region (a67R 14) false) (.seq (.region (a67R 15) false) (.ret)))))))))
def a69R:Nat → Unit → List AOper
| 0,_=>[oS 2 (.move (.c (.isl [])))]
| 1,_=>[mV 0,
oN (.len 0 (.l 0)),
oN (.mkslice 1 4 (.int .u32 0) (.l 1) (.l 1)),
sL 3 2]
| 2,_=>[oS 4 (.move (.c (.int .u32 0)))]
| 3,_=>[mV 0,
oS 7 (.len 0 (.l 0)),
oS 8 (.move (.n 0))]
| 4,_=>[oS 9 (.bin .lss (.v 8) (.v 7))]
| 5,_=>[mV 8,
sL 5 0]
| 6,_=>[oS 6 (.move (.c (.int .u32 0)))]
| 7,_=>[mV 5,
mV 1,
oN (.len 0 (.l 1)),
oS 10 (.bin .lss (.l 0) (.l 2))]
| 8,_=>[mV 1,
mV 5,
oN (.indexAddr 1 (.l 0) (.l 1)),
oN (.load false 1 (.l 2)),
sL 6 3]
| 9,_=>[mV 3,
mV 5,
mV 0,
mV 5,
oN (.indexAddr 1 (.l 2) (.l 3)),
oN (.load false 1 (.l 4)),
mV 6,
mV 4,
oN (.call 82 [.l 5,.l 6,.l 7]),
mL 8,
oN (.extract 0 (.l 9)),
oN (.extract 1 (.l 9)),
oN (.indexAddr 1 (.l 0) (.l 1)),
oN (.store 1 (.l 12) (.l 10)),
sL 4 11]
| 10,_=>[oN (.bin .add (.v 8) (.n 1)),
sL 8 0]
| 11,_=>[mV 3,
sL 2 0]
| _,_=>[]
def a69b0:AIR:=.seq (.region (a69R 4) false) (.seq (.cond (.v 9) (.skip) (.exit 0)) (.seq (.block 1 (.seq (.region (a69R 5) false) (.seq (.region (a69R 6) false) (.seq (.seq (.region (a69R 7) false) (.cond (.v 10) (.region (a69R 8) false) (.skip))) (.region (a69R 9) false))))) (.region (a69R 10) false)))
def a69l0:AIR:=.loop true [0,1,2,3,4,7,8] a69b0
theorem a69l0_run:Lr a69l0 (value_of% a69l0):=fun _=>run_loop _ _ _ _
def a69:AFun:=.mk .iso 2 11 [.v 2] (.seq (.region (a69R 0) false) (.seq (.region (a69R 1) false) (.seq (.region (a69R 2) false) (.seq (.seq (.region (a69R 3) false) (.block 0 (a69l0))) (.seq (.region (a69R 11) false) (.ret))))))
def a80R:Nat → Unit → List AOper
| 0,_=>[oS 2 (.move (.n 0))]
| 1,_=>[mV 0,
oN (.call 95 [.l 0]),
sL 3 1]
| 2,_=>[mV 1,
oN (.call 95 [.l 0]),
sL 4 1]
| 3,_=>[oS 5 (.move (.v 3))]
| 4,_=>[oS 6 (.move (.v 4))]
| 5,_=>[oS 2 (.move (.n 0))]
| 6,_=>[oS 2 (.move (.n (-1)))]
| 7,_=>[oS 7 (.move (.v 4))]
| 8,_=>[oS 2 (.move (.n 1))]
| 9,_=>[mV 0,
mV 1,
oS 8 (.bin .lss (.l 0) (.l 1))]
| 10,_=>[oS 2 (.move (.n (-1)))]
| 11,_=>[mV 0,
mV 1,
oS 9 (.bin .gtr (.l 0) (.l 1))]
| 12,_=>[oS 2 (.move (.n 1))]
| 13,_=>[oS 2 (.move (.n 0))]
| _,_=>[]
def a80:AFun:=.mk .iso 2 10 [.v 2] (.seq (.region (a80R 0) false) (.seq (.region (a80R 1) false) (.seq (.region (a80R 2) false) (.seq (.seq (.region (a80R 3) false) (.cond (.v 5) (.seq (.seq (.region (a80R 4) false) (.cond (.v 6) (.seq (.region (a80R 5) false) (.ret)) (.skip))) (.seq (.region (a80R 6) false) (.ret))) (.skip))) (.seq (.seq (.region (a80R 7) false) (.cond (.v 7) (.seq (.region (a80R 8) false) (.ret)) (.skip))) (.seq (.seq (.region (a80R 9) false) (.cond (.v 8) (.seq (.region (a80R 10) false) (.ret)) (.skip))) (.seq (.seq (.region (a80R 11) false) (.cond (.v 9) (.seq (.region (a80R 12) false) (.ret)) (.skip))) (.seq (.region (a80R 13) false) (.ret)))))))))
def a81R:Nat → Unit → List AOper
| 0,_=>[oS 2 (.move (.n 0))]
| 1,_=>[mV 0,
oN (.call 96 [.l 0]),
sL 3 1]
| 2,_=>[mV 1,
oN (.call 96 [.l 0]),
sL 4 1]
| 3,_=>[oS 5 (.move (.v 3))]
| 4,_=>[oS 6 (.move (.v 4))]
| 5,_=>[oS 2 (.move (.n 0))]
| 6,_=>[oS 2 (.move (.n (-1)))]
| 7,_=>[oS 7 (.move (.v 4))]
| 8,_=>[oS 2 (.move (.n 1))]
| 9,_=>[mV 0,
mV 1,
oS 8 (.bin .lss (.l 0) (.l 1))]
| 10,_=>[oS 2 (.move (.n (-1)))]
| 11,_=>[mV 0,
mV 1,
oS 9 (.bin .gtr (.l 0) (.l 1))]
| 12,_=>[oS 2 (.move (.n 1))]
| 13,_=>[oS 2 (.move (.n 0))]
| _,_=>[]
def a81:AFun:=.mk .iso 2 10 [.v 2] (.seq (.region (a81R 0) false) (.seq (.region (a81R 1) false) (.seq (.region (a81R 2) false) (.seq (.seq (.region (a81R 3) false) (.cond (.v 5) (.seq (.seq (.region (a81R 4) false) (.cond (.v 6) (.seq (.region (a81R 5) false) (.ret)) (.skip))) (.seq (.region (a81R 6) false) (.ret))) (.skip))) (.seq (.seq (.region (a81R 7) false) (.cond (.v 7) (.seq (.region (a81R 8) false) (.ret)) (.skip))) (.seq (.seq (.region (a81R 9) false) (.cond (.v 8) (.seq (.region (a81R 10) false) (.ret)) (.skip))) (.seq (.seq (.region (a81R 11) false) (.cond (.v 9) (.seq (.region (a81R 12) false) (.ret)) (.skip))) (.seq (.region (a81R 13) false) (.ret)))))))))
def a86R:Nat → Unit → List AOper
| 0,_=>[oS 2 (.cb (.v 0)),
oS 1 (.move (.c (.a (.pointer none))))]
| 1,_=>[oN (.cl true 3 (.v 2)),
oN (.call 108 [.l 0]),
oN (.ca (.v 2)),
oN (.field 0 0 false 1 (.v 2)),
oN (.call 109 [.l 3]),
oN (.ca (.v 2)),
oN (.field 0 0 false 1 (.v 2)),
oN (.call 109 [.l 6]),
oN (.build [.agg [.int .i64 0,.int .i64 0,.nl],.agg [.int .i64 0,.int .i64 0,.nl],.agg [.int .i64 0,.int .i64 0,.nl]] [(0,.l 1),(1,.l 4),(2,.l 7)]),
oN (.box false (.l 8)),
sL 1 9]
| _,_=>[]
def a86:AFun:=.mk .keep 1 3 [.v 1] (.seq (.region (a86R 0) false) (.seq (.region (a86R 1) true) (.ret)))
def a87R:Nat → Unit → List AOper
| 0,_=>[oS 6 (.cb (.v 0)),
oS 7 (.cb (.v 1)),
oS 8 (.cn zI),
oS 9 (.cn zI),
oS 2 (.move (.n 0))]
| 1,_=>[oN (.ca (.v 6)),
oN (.field 1 1 false 1 (.v 6)),
oN (.ca (.v 6)),
oN (.field 0 0 false 1 (.v 6)),
oN (.call 38 [.l 1,.l 3]),
oN (.ca (.v 7)),
oN (.field 1 1 false 1 (.v 7)),
oN (.ca (.v 7)),
oN (.field 0 0 false 1 (.v 7)),
oN (.call 38 [.l 6,.l 8]),
oS 6 (.cs 2 (.v 6) (.l 4)),
oS 7 (.cs 2 (.v 7) (.l 9))]
| 2,_=>[oN (.cl true 2 (.v 7)),
oN (.call 43 [.l 0]),
oS 3 (.bin .eql (.l 1) (.n 0))]
| 3,_=>[oN (.build [.bool false,.isl []] []),
oN (.build [.bool false,.isl []] []),
oS 8 (.cs 2 (.v 8) (.l 0)),
oS 9 (.cs 2 (.v 9) (.l 1)),
oS 2 (.move (.n 3))]
| 4,_=>[oN (.ca (.v 6)),
oN (.field 1 1 false 1 (.v 6)),
oN (.ca (.v 7)),
oN (.field 1 1 false 1 (.v 7)),
oN (.call 110 [.l 1,.l 3]),
mL 4,
oN (.extract 0 (.l 5)),
oN (.extract 1 (.l 5)),
oS 10 (.cn zI),
oS 11 (.cn zI),
oS 10 (.cs 2 (.l 8) (.l 6)),
oS 11 (.cs 2 (.l 9) (.l 7))]
| 5,_=>[oN (.ca (.v 6)),
oN (.field 0 0 false 1 (.v 6)),
mL 1,
oT 2 (.cl true 2 (.v 11)),
oT 2 (.call 43 [.l 3]),
oT 2 (.bin .gtr (.l 4) (.n 0)),
oS 4 (.pick (.l 2) (.l 5) (.c (.bool false)))]
| 6,_=>[oN (.cl true 2 (.v 10)),
oN (.call 14 [.n 1]),
oN (.call 49 [.l 0,.l 1]),
oS 10 (.cs 2 (.v 10) (.l 2))]
| 7,_=>[oN (.ca (.v 7)),
oN (.field 1 1 false 1 (.v 7)),
oN (.call 38 [.l 1,.c (.bool false)]),
oN (.cl true 2 (.v 11)),
oN (.call 111 [.l 2,.l 3]),
oS 11 (.cs 2 (.v 11) (.l 4))]
| 8,_=>[oN (.ca (.v 6)),
oN (.field 0 0 false 1 (.v 6)),
oN (.ca (.v 7)),
oN (.field 0 0 false 1 (.v 7)),
oS 5 (.binb true (.l 1) (.l 3))]
| 9,_=>[oN (.cl true 2 (.v 10)),
oN (.call 88 [.l 0]),
oS 10 (.cs 2 (.v 10) (.l 1))]
| 10,_=>[oN (.cl true 2 (.v 10)),
oN (.cl true 2 (.v 11)),
oS 8 (.cs 2 (.v 8) (.l 0)),
oS 9 (.cs 2 (.v 9) (.l 1)),
oS 2 (.move (.n 0))]
| _,_=>[]
def a87:AFun:=.mk .iso 2 12 [.c 8 true 2,.c 9 true 2,.v 2] (.seq (.region (a87R 0) false) (.seq (.region (a87R 1) true) (.seq (.seq (.region (a87R 2) false) (.cond (.v 3) (.seq (.region (a87R 3) false) (.ret)) (.skip))) (.seq (.region (a87R 4) false) (.seq (.seq (.region (a87R 5) false) (.cond (.v 4) (.seq (.region (a87R 6) true) (.region (a87R 7) true)) (.skip))) (.seq (.seq (.region (a87R 8) false) (.cond (.v 5) (.region (a87R 9) false) (.skip))) (.seq (.region (a87R 10) true) (.ret))))))))
def a89R:Nat → Unit → List AOper
| 0,_=>[oS 10 (.cb (.v 3))]
| 1,_=>[oS 4 (.move (.n 0))]
| 2,_=>[mV 4,
mV 0,
oN (.nilCheck (.l 1)),
oN (.fieldAddr 0 0 (.l 2)),
oN (.fieldAddr 1 1 (.l 3)),
oN (.load false 1 (.l 4)),
oS 7 (.bin .lss (.l 0) (.l 5))]
| 3,_=>[mV 4,
oN (.bin .add (.l 0) (.n 1)),
sL 4 1]
| 4,_=>[mV 0,
oN (.nilCheck (.l 0)),
oN (.fieldAddr 0 0 (.l 1)),
oN (.fieldAddr 2 2 (.l 2)),
oN (.load false 1 (.l 3)),
mV 1,
oN (.indexAddr 1 (.l 4) (.l 5)),
oN (.load false 1 (.l 6)),
mV 4,
mV 0,
oN (.nilCheck (.l 9)),
oN (.fieldAddr 0 0 (.l 10)),
oN (.fieldAddr 2 2 (.l 11)),
oN (.load false 1 (.l 12)),
mV 1,
oN (.indexAddr 1 (.l 13) (.l 14)),
oN (.load false 1 (.l 15)),
mV 4,
oN (.indexAddr 2 (.l 16) (.l 17)),
oN (.load true 2 (.l 18)),
oN (.cl true 2 (.v 10)),
mV 0,
oN (.nilCheck (.l 21)),
oN (.fieldAddr 0 0 (.l 22)),
oN (.fieldAddr 2 2 (.l 23)),
oN (.load false 1 (.l 24)),
mV 2,
oN (.indexAddr 1 (.l 25) (.l 26)),
oN (.load false 1 (.l 27)),
mV 4,
oN (.indexAddr 2 (.l 28) (.l 29)),
oN (.load true 2 (.l 30)),
oN (.call 41 [.l 20,.l 31]),
oN (.call 49 [.l 19,.l 32]),
oN (.indexAddr 2 (.l 7) (.l 8)),
oN (.store 2 (.l 34) (.l 33))]
| 5,_=>[oS 5 (.move (.n 0))]
| 6,_=>[mV 5,
mV 0,
oN (.nilCheck (.l 1)),
oN (.fieldAddr 1 3 (.l 2)),
oN (.fieldAddr 1 1 (.l 3)),
oN (.load false 1 (.l 4)),
oS 8 (.bin .lss (.l 0) (.l 5))]
| 7,_=>[mV 5,
oN (.bin .add (.l 0) (.n 1)),
sL 5 1]
| 8,_=>[mV 0,
oN (.nilCheck (.l 0)),
oN (.fieldAddr 1 3 (.l 1)),
oN (.fieldAddr 2 2 (.l 2)),
oN (.load false 1 (.l 3)),
mV 1,
oN (.indexAddr 1 (.l 4) (.l 5)),
oN (.load false 1 (.l 6)),
mV 5,
mV 0,
oN (.nilCheck (.l 9)),
oN (.fieldAddr 1 3 (.l 10)),
oN (.fieldAddr 2 2 (.l 11)),
oN (.load false 1 (.l 12)),
mV 1,
oN (.indexAddr 1 (.l 13) (.l 14)),
oN (.load false 1 (.l 15)),
mV 5,
oN (.indexAddr 2 (.l 16) (.l 17)),
oN (.load true 2 (.l 18)),
oN (.cl true 2 (.v 10)),
mV 0,
oN (.nilCheck (.l 21)),
oN (.fieldAddr 1 3 (.l 22)),
oN (.fieldAddr 2 2 (.l 23)),
oN (.load false 1 (.l 24)),
mV 2,
oN (.indexAddr 1 (.l 25) (.l 26)),
oN (.load false 1 (.l 27)),
mV 5,
oN (.indexAddr 2 (.l 28) (.l 29)),
oN (.load true 2 (.l 30)),
oN (.call 41 [.l 20,.l 31]),
oN (.call 49 [.l 19,.l 32]),
oN (.indexAddr 2 (.l 7) (.l 8)),
oN (.store 2 (.l 34) (.l 33))]
| 9,_=>[oS 6 (.move (.n 0))]
| 10,_=>[mV 6,
mV 0,
oN (.nilCheck (.l 1)),
oN (.fieldAddr 2 6 (.l 2)),
oN (.fieldAddr 0 0 (.l 3)),
oN (.load false 1 (.l 4)),
oS 9 (.bin .lss (.l 0) (.l 5))]
| 11,_=>[mV 6,
oN (.bin .add (.l 0) (.n 1)),
sL 6 1]
| 12,_=>[mV 0,
oN (.nilCheck (.l 0)),
oN (.fieldAddr 2 6 (.l 1)),
oN (.fieldAddr 2 2 (.l 2)),
oN (.load false 1 (.l 3)),
mV 6,
oN (.indexAddr 1 (.l 4) (.l 5)),
oN (.load false 1 (.l 6)),
mV 2,
mV 0,
oN (.nilCheck (.l 9)),
oN (.fieldAddr 2 6 (.l 10)),
oN (.fieldAddr 2 2 (.l 11)),
oN (.load false 1 (.l 12)),
mV 6,
oN (.indexAddr 1 (.l 13) (.l 14)),
oN (.load false 1 (.l 15)),
mV 2,
oN (.indexAddr 2 (.l 16) (.l 17)),
oN (.load true 2 (.l 18)),
oN (.cl true 2 (.v 10)),
mV 0,
oN (.nilCheck (.l 21)),
oN (.fieldAddr 2 6 (.l 22)),
oN (.fieldAddr 2 2 (.l 23)),
oN (.load false 1 (.l 24)),
mV 6,
oN (.indexAddr 1 (.l 25) (.l 26)),
oN (.load false 1 (.l 27)),
mV 1,
oN (.indexAddr 2 (.l 28) (.l 29)),
oN (.load true 2 (.l 30)),
oN (.call 41 [.l 20,.l 31]),
oN (.call 111 [.l 19,.l 32]),
oN (.indexAddr 2 (.l 7) (.l 8)),
oN (.store 2 (.l 34) (.l 33))]
| _,_=>[]
def a89b0:AIR:=.seq (.seq (.region (a89R 2) false) (.cond (.v 7) (.skip) (.exit 0))) (.seq (.block 1 (.region (a89R 4) true)) (.region (a89R 3) false))
def a89l0:AIR:=.loop false [0,1,2,3,4,5,6,8,9,10] a89b0
theorem a89l0_run:Lr a89l0 (value_of% a89l0):=fun _=>run_loop _ _ _ _
def a89b1:AIR:=.seq (.seq (.region (a89R 6) false) (.cond (.v 8) (.skip) (.exit 2))) (.seq (.block 3 (.region (a89R 8) true)) (.region (a89R 7) false))
def a89l1:AIR:=.loop false [0,1,2,3,4,5,6,7,9,10] a89b1
theorem a89l1_run:Lr a89l1 (value_of% a89l1):=fun _=>run_loop _ _ _ _
def a89b2:AIR:=.seq (.seq (.region (a89R 10) false) (.cond (.v 9) (.skip) (.exit 4))) (.seq (.block 5 (.region (a89R 12) true)) (.region (a89R 11) false))
def a89l2:AIR:=.loop false [0,1,2,3,4,5,6,7,8,10] a89b2
theorem a89l2_run:Lr a89l2 (value_of% a89l2):=fun _=>run_loop _ _ _ _
def a89:AFun:=.mk .keep 4 11 [] (.seq (.region (a89R 0) false) (.seq (.seq (.region (a89R 1) false) (.block 0 (a89l0))) (.seq (.seq (.region (a89R 5) false) (.block 2 (a89l1))) (.seq (.region (a89R 9) false) (.block 4 (a89l2))))))
def a88R:Nat → Unit → List AOper
| 0,_=>[oS 1 (.cb (.v 0)),
oS 2 (.cn zI)]
| 1,_=>[oN (.ca (.v 1)),
oN (.field 1 1 false 1 (.v 1)),
oN (.ca (.v 1)),
oN (.field 0 0 false 1 (.v 1)),
oN (.un .not (.l 3)),
oN (.call 38 [.l 1,.l 4]),
oS 2 (.cs 2 (.v 2) (.l 5))]
| _,_=>[]
def a88:AFun:=.mk .iso 1 3 [.c 2 true 2] (.seq (.region (a88R 0) false) (.seq (.region (a88R 1) false) (.ret)))
def a90R:Nat → Unit → List AOper
| 0,_=>[mV 0,
oN (.nilCheck (.l 0)),
oN (.fieldAddr 0 0 (.l 1)),
oN (.fieldAddr 2 2 (.l 2)),
oN (.load false 1 (.l 3)),
mV 1,
oN (.indexAddr 1 (.l 4) (.l 5)),
oN (.load false 1 (.l 6)),
sL 3 7]
| 1,_=>[mV 0,
oN (.nilCheck (.l 0)),
oN (.fieldAddr 0 0 (.l 1)),
oN (.fieldAddr 2 2 (.l 2)),
oN (.load false 1 (.l 3)),
mV 1,
mV 0,
oN (.nilCheck (.l 6)),
oN (.fieldAddr 0 0 (.l 7)),
oN (.fieldAddr 2 2 (.l 8)),
oN (.load false 1 (.l 9)),
mV 2,
oN (.indexAddr 1 (.l 10) (.l 11)),
oN (.load false 1 (.l 12)),
oN (.indexAddr 1 (.l 4) (.l 5)),
oN (.store 1 (.l 14) (.l 13))]
| 2,_=>[mV 0,
oN (.nilCheck (.l 0)),
oN (.fieldAddr 0 0 (.l 1)),
oN (.fieldAddr 2 2 (.l 2)),
oN (.load false 1 (.l 3)),
mV 2,
mV 3,
oN (.indexAddr 1 (.l 4) (.l 5)),
oN (.store 1 (.l 7) (.l 6))]
| 3,_=>[mV 0,
oN (.nilCheck (.l 0)),
oN (.fieldAddr 1 3 (.l 1)),
oN (.fieldAddr 2 2 (.l 2)),
oN (.load false 1 (.l 3)),
mV 1,
oN (.indexAddr 1 (.l 4) (.l 5)),
oN (.load false 1 (.l 6)),
sL 3 7]
| 4,_=>[mV 0,
oN (.nilCheck (.l 0)),
oN (.fieldAddr 1 3 (.l 1)),
oN (.fieldAddr 2 2 (.l 2)),
oN (.load false 1 (.l 3)),
mV 1,
mV 0,
oN (.nilCheck (.l 6)),
oN (.fieldAddr 1 3 (.l 7)),
oN (.fieldAddr 2 2 (.l 8)),
oN (.load false 1 (.l 9)),
mV 2,
oN (.indexAddr 1 (.l 10) (.l 11)),
oN (.load false 1 (.l 12)),
oN (.indexAddr 1 (.l 4) (.l 5)),
oN (.store 1 (.l 14) (.l 13))]
| 5,_=>[mV 0,
oN (.nilCheck (.l 0)),
oN (.fieldAddr 1 3 (.l 1)),
oN (.fieldAddr 2 2 (.l 2)),
oN (.load false 1 (.l 3)),
mV 2,
mV 3,
oN (.indexAddr 1 (.l 4) (.l 5)),
oN (.store 1 (.l 7) (.l 6))]
| 6,_=>[oS 4 (.move (.n 0))]
| 7,_=>[mV 4,
mV 0,
oN (.nilCheck (.l 1)),
oN (.fieldAddr 2 6 (.l 2)),
oN (.fieldAddr 0 0 (.l 3)),
oN (.load false 1 (.l 4)),
oS 5 (.bin .lss (.l 0) (.l 5))]
| 8,_=>[mV 4,
oN (.bin .add (.l 0) (.n 1)),
sL 4 1]
| 9,_=>[mV 0,
oN (.nilCheck (.l 0)),
oN (.fieldAddr 2 6 (.l 1)),
oN (.fieldAddr 2 2 (.l 2)),
oN (.load false 1 (.l 3)),
mV 4,
oN (.indexAddr 1 (.l 4) (.l 5)),
oN (.load false 1 (.l 6)),
mV 1,
oN (.indexAddr 2 (.l 7) (.l 8)),
oN (.load true 2 (.l 9)),
oS 6 (.cn zI),
oS 6 (.cs 2 (.l 11) (.l 10))]
| 10,_=>[mV 0,
oN (.nilCheck (.l 0)),
oN (.fieldAddr 2 6 (.l 1)),
oN (.fieldAddr 2 2 (.l 2)),
oN (.load false 1 (.l 3)),
mV 4,
oN (.indexAddr 1 (.l 4) (.l 5)),
oN (.load false 1 (.l 6)),
mV 1,
mV 0,
oN (.nilCheck (.l 9)),
oN (.fieldAddr 2 6 (.l 10)),
oN (.fieldAddr 2 2 (.l 11)),
oN (.load false 1 (.l 12)),
mV 4,
oN (.indexAddr 1 (.l 13) (.l 14)),
oN (.load false 1 (.l 15)),
mV 2,
oN (.indexAddr 2 (.l 16) (.l 17)),
oN (.load true 2 (.l 18)),
oN (.indexAddr 2 (.l 7) (.l 8)),
oN (.store 2 (.l 20) (.l 19))]
| 11,_=>[mV 0,
oN (.nilCheck (.l 0)),
oN (.fieldAddr 2 6 (.l 1)),
oN (.fieldAddr 2 2 (.l 2)),
oN (.load false 1 (.l 3)),
mV 4,
oN (.indexAddr 1 (.l 4) (.l 5)),
oN (.load false 1 (.l 6)),
mV 2,
oN (.cl true 2 (.v 6)),
oN (.indexAddr 2 (.l 7) (.l 8)),
oN (.store 2 (.l 10) (.l 9))]
| _,_=>[]
def a90b0:AIR:=.seq (.seq (.region (a90R 7) false) (.cond (.v 5) (.skip) (.exit 0))) (.seq (.block 1 (.seq (.region (a90R 9) false) (.seq (.region (a90R 10) true) (.region (a90R 11) true)))) (.region (a90R 8) false))
def a90l0:AIR:=.loop false [0,1,2,3,4] a90b0
theorem a90l0_run:Lr a90l0 (value_of% a90l0):=fun _=>run_loop _ _ _ _
def a90:AFun:=.mk .keep 3 7 [] (.seq (.region (a90R 0) false) (.seq (.region (a90R 1) true) (.seq (.region (a90R 2) false) (.seq (.region (a90R 3) false) (.seq (.region (a90R 4) true) (.seq (.region (a90R 5) false) (.seq (.region (a90R 6) false) (.block 0 (a90l0)))))))))
def a91R:Nat → Unit → List AOper
| 0,_=>[oS 2 (.move (.n 0))]
| 1,_=>[mV 2,
mV 0,
oN (.nilCheck (.l 1)),
oN (.fieldAddr 0 0 (.l 2)),
oN (.fieldAddr 1 1 (.l 3)),
oN (.load false 1 (.l 4)),
oS 5 (.bin .lss (.l 0) (.l 5))]
| 2,_=>[mV 2,
oN (.bin .add (.l 0) (.n 1)),
sL 2 1]
| 3,_=>[mV 0,
oN (.nilCheck (.l 0)),
oN (.fieldAddr 0 0 (.l 1)),
oN (.fieldAddr 2 2 (.l 2)),
oN (.load false 1 (.l 3)),
mV 1,
oN (.indexAddr 1 (.l 4) (.l 5)),
oN (.load false 1 (.l 6)),
mV 2,
mV 0,
oN (.nilCheck (.l 9)),
oN (.fieldAddr 0 0 (.l 10)),
oN (.fieldAddr 2 2 (.l 11)),
oN (.load false 1 (.l 12)),
mV 1,
oN (.indexAddr 1 (.l 13) (.l 14)),
oN (.load false 1 (.l 15)),
mV 2,
oN (.indexAddr 2 (.l 16) (.l 17)),
oN (.load true 2 (.l 18)),
oN (.call 88 [.l 19]),
oN (.indexAddr 2 (.l 7) (.l 8)),
oN (.store 2 (.l 21) (.l 20))]
| 4,_=>[oS 3 (.move (.n 0))]
| 5,_=>[mV 3,
mV 0,
oN (.nilCheck (.l 1)),
oN (.fieldAddr 1 3 (.l 2)),
oN (.fieldAddr 1 1 (.l 3)),
oN (.load false 1 (.l 4)),
oS 6 (.bin .lss (.l 0) (.l 5))]
| 6,_=>[mV 3,
oN (.bin .add (.l 0) (.n 1)),
sL 3 1]
| 7,_=>[mV 0,
oN (.nilCheck (.l 0)),
oN (.fieldAddr 1 3 (.l 1)),
oN (.fieldAddr 2 2 (.l 2)),
oN (.load false 1 (.l 3)),
mV 1,
oN (.indexAddr 1 (.l 4) (.l 5)),
oN (.load false 1 (.l 6)),
mV 3,
mV 0,
oN (.nilCheck (.l 9)),
oN (.fieldAddr 1 3 (.l 10)),
oN (.fieldAddr 2 2 (.l 11)),
oN (.load false 1 (.l 12)),
mV 1,
oN (.indexAddr 1 (.l 13) (.l 14)),
oN (.load false 1 (.l 15)),
mV 3,
oN (.indexAddr 2 (.l 16) (.l 17)),
oN (.load true 2 (.l 18)),
oN (.call 88 [.l 19]),
oN (.indexAddr 2 (.l 7) (.l 8)),
oN (.store 2 (.l 21) (.l 20))]
| 8,_=>[oS 4 (.move (.n 0))]
| 9,_=>[mV 4,
mV 0,
oN (.nilCheck (.l 1)),
oN (.fieldAddr 2 6 (.l 2)),
oN (.fieldAddr 0 0 (.l 3)),
oN (.load false 1 (.l 4)),
oS 7 (.bin .lss (.l 0) (.l 5))]
| 10,_=>[mV 4,
oN (.bin .add (.l 0) (.n 1)),
sL 4 1]
| 11,_=>[mV 0,
oN (.nilCheck (.l 0)),
oN (.fieldAddr 2 6 (.l 1)),
oN (.fieldAddr 2 2 (.l 2)),
oN (.load false 1 (.l 3)),
mV 4,
oN (.indexAddr 1 (.l 4) (.l 5)),
oN (.load false 1 (.l 6)),
mV 1,
mV 0,
oN (.nilCheck (.l 9)),
oN (.fieldAddr 2 6 (.l 10)),
oN (.fieldAddr 2 2 (.l 11)),
oN (.load false 1 (.l 12)),
mV 4,
oN (.indexAddr 1 (.l 13) (.l 14)),
oN (.load false 1 (.l 15)),
mV 1,
oN (.indexAddr 2 (.l 16) (.l 17)),
oN (.load true 2 (.l 18)),
oN (.call 88 [.l 19]),
oN (.indexAddr 2 (.l 7) (.l 8)),
oN (.store 2 (.l 21) (.l 20))]
| _,_=>[]
def a91b0:AIR:=.seq (.seq (.region (a91R 1) false) (.cond (.v 5) (.skip) (.exit 0))) (.seq (.block 1 (.region (a91R 3) true)) (.region (a91R 2) false))
def a91l0:AIR:=.loop false [0,1,2,3,4,6,7] a91b0
theorem a91l0_run:Lr a91l0 (value_of% a91l0):=fun _=>run_loop _ _ _ _
def a91b1:AIR:=.seq (.seq (.region (a91R 5) false) (.cond (.v 6) (.skip) (.exit 2))) (.seq (.block 3 (.region (a91R 7) true)) (.region (a91R 6) false))
def a91l1:AIR:=.loop false [0,1,2,3,4,5,7] a91b1
theorem a91l1_run:Lr a91l1 (value_of% a91l1):=fun _=>run_loop _ _ _ _
def a91b2:AIR:=.seq (.seq (.region (a91R 9) false) (.cond (.v 7) (.skip) (.exit 4))) (.seq (.block 5 (.region (a91R 11) true)) (.region (a91R 10) false))
def a91l2:AIR:=.loop false [0,1,2,3,4,5,6] a91b2
theorem a91l2_run:Lr a91l2 (value_of% a91l2):=fun _=>run_loop _ _ _ _
def a91:AFun:=.mk .keep 2 8 [] (.seq (.seq (.region (a91R 0) false) (.block 0 (a91l0))) (.seq (.seq (.region (a91R 4) false) (.block 2 (a91l1))) (.seq (.region (a91R 8) false) (.block 4 (a91l2)))))
def a92R:Nat → Unit → List AOper
| 0,_=>[oS 2 (.cb (.v 0)),
oS 3 (.cb (.v 1)),
oS 4 (.cn zI)]
| 1,_=>[oN (.cl true 2 (.v 2)),
oN (.cl true 2 (.v 3)),
oN (.call 87 [.l 0,.l 1]),
mL 2,
oN (.extract 0 (.l 3)),
oN (.extract 1 (.l 3)),
oN (.extract 2 (.l 3)),
oS 5 (.cn zI),
oS 6 (.cn zI),
oS 5 (.cs 2 (.l 7) (.l 4)),
oS 6 (.cs 2 (.l 8) (.l 5)),
mL 6]
| 2,_=>[oN (.cl true 2 (.v 5)),
oS 4 (.cs 2 (.v 4) (.l 0))]
| _,_=>[]
def a92:AFun:=.mk .iso 2 7 [.c 4 true 2] (.seq (.region (a92R 0) false) (.seq (.region (a92R 1) false) (.seq (.region (a92R 2) false) (.ret))))
def a93R:Nat → Unit → List AOper
| 0,_=>[oS 1 (.move (.n 0))]
| 1,_=>[oS 2 (.move (.n 0))]
| 2,_=>[mV 2,
mV 0,
oN (.len 0 (.l 1)),
oS 3 (.bin .lss (.l 0) (.l 2))]
| 3,_=>[mV 2,
oN (.bin .add (.l 0) (.n 1)),
sL 2 1]
| 4,_=>[mV 0,
mV 2,
oN (.indexAddr 2 (.l 0) (.l 1)),
oN (.load true 2 (.l 2)),
oN (.call 43 [.l 3]),
oS 4 (.bin .neq (.l 4) (.n 0))]
| 5,_=>[mV 2,
sL 1 0]
| 6,_=>[oS 1 (.move (.n (-1)))]
| _,_=>[]
def a93b0:AIR:=.seq (.seq (.region (a93R 2) false) (.cond (.v 3) (.skip) (.exit 0))) (.seq (.block 1 (.seq (.region (a93R 4) false) (.cond (.v 4) (.seq (.region (a93R 5) false) (.ret)) (.skip)))) (.region (a93R 3) false))
def a93l0:AIR:=.loop true [0,1,2] a93b0
theorem a93l0_run:Lr a93l0 (value_of% a93l0):=fun _=>run_loop _ _ _ _
def a93:AFun:=.mk .iso 1 5 [.v 1] (.seq (.region (a93R 0) false) (.seq (.seq (.region (a93R 1) false) (.block 0 (a93l0))) (.seq (.region (a93R 6) false) (.ret))))
def a94R:Nat → Unit → List AOper
| 0,_=>[oS 2 (.cb (.v 0)),
oS 3 (.cn (.agg [.int .i64 0,.int .i64 0,.nl]))]
| 1,_=>[mV 1,
oN (.ca (.v 2)),
oN (.field 1 1 false 1 (.v 2)),
oN (.ca (.v 2)),
oN (.field 2 2 false 1 (.v 2)),
mV 1,
oN (.slice 1 (.l 4) none (some (.l 5)) none),
oN (.build [.int .i64 0,.int .i64 0,.nl] [(0,.l 0),(1,.l 2),(2,.l 6)]),
oS 3 (.cs 3 (.v 3) (.l 7))]
| _,_=>[]
def a94:AFun:=.mk .iso 2 4 [.c 3 true 3] (.seq (.region (a94R 0) false) (.seq (.region (a94R 1) true) (.ret)))
def a78R:Nat → Unit → List AOper
| 0,_=>[oS 3 (.move (.n 0)),
oS 4 (.move (.c (.bool false)))]
| 1,_=>[mV 0,
oN (.len 0 (.l 0)),
sL 5 1]
| 2,_=>[mV 5,
oS 6 (.move (.n 0)),
sL 7 0]
| 3,_=>[mV 6,
mV 7,
oS 9 (.bin .lss (.l 0) (.l 1))]
| 4,_=>[mV 6,
mV 7,
oN (.bin .add (.l 0) (.l 1)),
oN (.conv .u64 (.l 2)),
oN (.bin .shr (.l 3) (.c (.int .u64 1))),
oN (.conv .i64 (.l 4)),
sL 8 5]
| 5,_=>[mV 2,
mV 0,
mV 8,
oN (.indexAddr 3 (.l 1) (.l 2)),
oN (.load true 3 (.l 3)),
mV 1,
oN (.callv (.l 0) [.l 4,.l 5]),
oS 10 (.bin .lss (.l 6) (.n 0))]
| 6,_=>[mV 8,
oN (.bin .add (.l 0) (.n 1)),
sL 6 1]
| 7,_=>[mV 8,
sL 7 0]
| 8,_=>[mV 6,
mV 6,
mV 5,
oN (.bin .lss (.l 1) (.l 2)),
mL 3,
oT 4 (.move (.v 2)),
oT 4 (.move (.v 0)),
oT 4 (.move (.v 6)),
oT 4 (.indexAddr 3 (.l 6) (.l 7)),
oT 4 (.load true 3 (.l 8)),
oT 4 (.move (.v 1)),
oT 4 (.callv (.l 5) [.l 9,.l 10]),
oT 4 (.bin .eql (.l 11) (.n 0)),
oN (.pick (.l 4) (.l 12) (.c (.bool false))),
sL 3 0,
sL 4 13]
| _,_=>[]
def a78b0:AIR:=.seq (.seq (.region (a78R 3) false) (.cond (.v 9) (.skip) (.exit 0))) (.block 1 (.seq (.region (a78R 4) false) (.seq (.region (a78R 5) false) (.cond (.v 10) (.region (a78R 6) false) (.region (a78R 7) false)))))
def a78l0:AIR:=.loop true [0,1,2,3,4,5,6,7] a78b0
theorem a78l0_run:Lr a78l0 (value_of% a78l0):=fun _=>run_loop _ _ _ _
def a78:AFun:=.mk .shr 3 11 [.v 3,.v 4] (.seq (.region (a78R 0) false) (.seq (.region (a78R 1) false) (.seq (.region (a78R 2) false) (.seq (.block 0 (a78l0)) (.seq (.region (a78R 8) false) (.ret))))))
def a77R:Nat → Unit → List AOper
| 0,_=>[oS 3 (.cb (.v 0)),
oS 2 (.move (.n 0))]
| 1,_=>[oN (.ca (.v 3)),
oN (.field 0 0 false 1 (.v 3)),
mV 1,
oN (.call 80 [.l 1,.l 2]),
sL 2 3]
| _,_=>[]
def a77:AFun:=.mk .iso 2 4 [.v 2] (.seq (.region (a77R 0) false) (.seq (.region (a77R 1) false) (.ret)))
def a79R:Nat → Unit → List AOper
| 0,_=>[oS 3 (.move (.c (.int .u32 0))),
oS 4 (.move (.c (.int .u32 0)))]
| 1,_=>[mV 0,
oN (.conv .u64 (.l 0)),
mV 1,
oN (.conv .u64 (.l 2)),
oN (.bin .add (.l 1) (.l 3)),
mV 2,
oN (.conv .u64 (.l 5)),
oN (.bin .add (.l 4) (.l 6)),
sL 5 7]
| 2,_=>[mV 5,
oN (.conv .u32 (.l 0)),
sL 3 1]
| 3,_=>[mV 5,
oN (.bin .shr (.l 0) (.c (.int .u64 32))),
oN (.conv .u32 (.l 1)),
sL 4 2]
| _,_=>[]
def a79:AFun:=.mk .iso 3 6 [.v 3,.v 4] (.seq (.region (a79R 0) false) (.seq (.region (a79R 1) false) (.seq (.region (a79R 2) false) (.seq (.region (a79R 3) false) (.ret)))))
def a82R:Nat → Unit → List AOper
| 0,_=>[oS 3 (.move (.c (.int .u32 0))),
oS 4 (.move (.c (.int .u32 0)))]
| 1,_=>[mV 0,
mV 1,
oN (.bin .sub (.l 0) (.l 1)),
mV 2,
oN (.bin .sub (.l 2) (.l 3)),
sL 3 4]
| 2,_=>[mV 0,
oN (.un .xor (.l 0)),
mV 1,
oN (.bin .and (.l 1) (.l 2)),
mV 0,
mV 1,
oN (.bin .xor (.l 4) (.l 5)),
oN (.un .xor (.l 6)),
mV 3,
oN (.bin .and (.l 7) (.l 8)),
oN (.bin .or (.l 3) (.l 9)),
oN (.bin .shr (.l 10) (.c (.int .u64 31))),
sL 4 11]
| _,_=>[]
def a82:AFun:=.mk .iso 3 5 [.v 3,.v 4] (.seq (.region (a82R 0) false) (.seq (.region (a82R 1) false) (.seq (.region (a82R 2) false) (.ret))))
def a95R:Nat → Unit → List AOper
| 0,_=>[oS 1 (.move (.c (.bool false)))]
| 1,_=>[mV 0,
mV 0,
oN (.bin .neq (.l 0) (.l 1)),
sL 1 2]
| _,_=>[]
def a95:AFun:=.mk .iso 1 2 [.v 1] (.seq (.region (a95R 0) false) (.seq (.region (a95R 1) false) (.ret)))
def a96R:Nat → Unit → List AOper
| 0,_=>[oS 1 (.move (.c (.bool false)))]
| 1,_=>[mV 0,
mV 0,
oN (.bin .neq (.l 0) (.l 1)),
sL 1 2]
| _,_=>[]
def a96:AFun:=.mk .iso 1 2 [.v 1] (.seq (.region (a96R 0) false) (.seq (.region (a96R 1) false) (.ret)))
def a108R:Nat → Unit → List AOper
| 0,_=>[oS 1 (.cb (.v 0)),
oS 2 (.cn (.agg [.int .i64 0,.int .i64 0,.nl]))]
| 1,_=>[oN (.cl true 3 (.v 1)),
oN (.call 14 [.n 1]),
oN (.call 117 [.l 0,.l 1]),
oS 2 (.cs 3 (.v 2) (.l 2))]
| _,_=>[]
def a108:AFun:=.mk .keep 1 3 [.c 2 true 3] (.seq (.region (a108R 0) false) (.seq (.region (a108R 1) true) (.ret)))
def a109R:Nat → Unit → List AOper
| 0,_=>[oS 3 (.cn (.agg [.int .i64 0,.int .i64 0,.nl]))]
| 1,_=>[mV 0,
mV 0,
oN (.call 61 [.l 0,.l 1]),
oS 4 (.cn (.agg [.int .i64 0,.int .i64 0,.nl])),
oS 4 (.cs 3 (.l 3) (.l 2))]
| 2,_=>[oS 1 (.move (.n 0))]
| 3,_=>[mV 1,
mV 0,
oS 2 (.bin .lss (.l 0) (.l 1))]
| 4,_=>[mV 1,
oN (.bin .add (.l 0) (.n 1)),
sL 1 1]
| 5,_=>[oN (.ca (.v 4)),
oN (.field 2 2 false 1 (.v 4)),
mV 1,
oN (.indexAddr 1 (.l 1) (.l 2)),
oN (.load false 1 (.l 3)),
mV 1,
oN (.call 14 [.n 1]),
oN (.indexAddr 2 (.l 4) (.l 5)),
oN (.store 2 (.l 7) (.l 6))]
| 6,_=>[oN (.cl true 3 (.v 4)),
oS 3 (.cs 3 (.v 3) (.l 0))]
| _,_=>[]
def a109b0:AIR:=.seq (.seq (.region (a109R 3) false) (.cond (.v 2) (.skip) (.exit 0))) (.seq (.block 1 (.region (a109R 5) true)) (.region (a109R 4) false))
def a109l0:AIR:=.loop false [0,1,3,4] a109b0
theorem a109l0_run:Lr a109l0 (value_of% a109l0):=fun _=>run_loop _ _ _ _
def a109:AFun:=.mk .keep 1 5 [.c 3 true 3] (.seq (.region (a109R 0) false) (.seq (.region (a109R 1) false) (.seq (.seq (.region (a109R 2) false) (.block 0 (a109l0))) (.seq (.region (a109R 6) false) (.ret)))))
def a110R:Nat → Unit → List AOper
| 0,_=>[oS 9 (.cn zI),
oS 10 (.cn zI)]
| 1,_=>[mV 1,
oN (.len 0 (.l 0)),
oS 6 (.bin .eql (.l 1) (.n 1))]
| 2,_=>[mV 0,
mV 1,
oN (.indexAddr 1 (.l 1) (.n 0)),
oN (.load false 1 (.l 2)),
oN (.call 118 [.l 0,.l 3]),
mL 4,
oN (.extract 0 (.l 5)),
oN (.extract 1 (.l 5)),
sL 2 6,
sL 3 7]
| 3,_=>[mV 2,
oN (.call 38 [.l 0,.c (.bool false)]),
mV 3,
oN (.bslice false 1 (.int .u32 0) 1 [(0,.l 2)]),
oN (.call 38 [.l 3,.c (.bool false)]),
oS 9 (.cs 2 (.v 9) (.l 1)),
oS 10 (.cs 2 (.v 10) (.l 4))]
| 4,_=>[oS 4 (.move (.c (.int .u32 1)))]
| 5,_=>[mV 1,
mV 1,
oN (.len 0 (.l 1)),
oN (.bin .sub (.l 2) (.n 1)),
oN (.indexAddr 1 (.l 0) (.l 3)),
oN (.load false 1 (.l 4)),
oN (.conv .u64 (.l 5)),
mV 4,
oN (.conv .u64 (.l 7)),
oN (.bin .mul (.l 6) (.l 8)),
oS 7 (.bin .lss (.l 9) (.c (.int .u64 2147483648)))]
| 6,_=>[mV 4,
oN (.bin .mul (.c (.int .u32 2)) (.l 0)),
sL 4 1]
| 7,_=>[mV 4,
oN (.bslice false 1 (.int .u32 0) 1 [(0,.l 0)]),
oN (.call 38 [.l 1,.c (.bool false)]),
oS 11 (.cn zI),
oS 11 (.cs 2 (.l 3) (.l 2))]
| 8,_=>[mV 0,
oN (.call 38 [.l 0,.c (.bool false)]),
oN (.cl true 2 (.v 11)),
oN (.call 41 [.l 1,.l 2]),
mV 1,
oN (.call 38 [.l 4,.c (.bool false)]),
oN (.cl true 2 (.v 11)),
oN (.call 41 [.l 5,.l 6]),
oN (.build [.bool false,.isl []] []),
oS 12 (.cn zI),
oS 13 (.cn zI),
oS 14 (.cn zI),
oS 12 (.cs 2 (.l 9) (.l 3)),
oS 13 (.cs 2 (.l 10) (.l 7)),
oS 14 (.cs 2 (.l 11) (.l 8))]
| 9,_=>[oN (.ca (.v 12)),
oN (.field 1 1 false 1 (.v 12)),
oN (.ca (.v 13)),
oN (.field 1 1 false 1 (.v 13)),
oN (.call 57 [.l 1,.l 3]),
oS 8 (.un .not (.l 4))]
| 10,_=>[oN (.ca (.v 12)),
oN (.field 1 1 false 1 (.v 12)),
oN (.ca (.v 13)),
oN (.field 1 1 false 1 (.v 13)),
oN (.call 119 [.l 1,.l 3]),
oS 15 (.cn zI),
oS 15 (.cs 2 (.l 5) (.l 4))]
| 11,_=>[oN (.cl true 2 (.v 14)),
oN (.cl true 2 (.v 15)),
oN (.call 49 [.l 0,.l 1]),
oS 14 (.cs 2 (.v 14) (.l 2))]
| 12,_=>[oN (.cl true 2 (.v 12)),
oN (.cl true 2 (.v 15)),
oN (.cl true 2 (.v 13)),
oN (.call 41 [.l 1,.l 2]),
oN (.call 111 [.l 0,.l 3]),
oS 12 (.cs 2 (.v 12) (.l 4))]
| 13,_=>[oN (.ca (.v 12)),
oN (.field 1 1 false 1 (.v 12)),
mV 4,
oN (.call 118 [.l 1,.l 2]),
mL 3,
oN (.extract 0 (.l 4)),
oN (.extract 1 (.l 4)),
sL 5 5,
mL 6]
| 14,_=>[oN (.cl true 2 (.v 14)),
mV 5,
oN (.call 38 [.l 1,.c (.bool false)]),
oS 9 (.cs 2 (.v 9) (.l 0)),
oS 10 (.cs 2 (.v 10) (.l 2))]
| _,_=>[]
def a110b0:AIR:=.seq (.seq (.region (a110R 5) false) (.cond (.v 7) (.skip) (.exit 0))) (.block 1 (.region (a110R 6) false))
def a110l0:AIR:=.loop true [0,1,2,3,4,5,6,8,9,10,11,12,13,14,15] a110b0
theorem a110l0_run:Lr a110l0 (value_of% a110l0):=fun _=>run_loop _ _ _ _
def a110b1:AIR:=.seq (.seq (.region (a110R 9) false) (.cond (.v 8) (.skip) (.exit 2))) (.block 3 (.seq (.region (a110R 10) false) (.seq (.region (a110R 11) false) (.region (a110R 12) true))))
def a110l1:AIR:=.loop true [0,1,2,3,4,5,6,7,9,10,11,12,13,14] a110b1
theorem a110l1_run:Lr a110l1 (value_of% a110l1):=fun _=>run_loop _ _ _ _
def a110:AFun:=.mk .iso 2 16 [.c 9 true 2,.c 10 true 2] (.seq (.region (a110R 0) false) (.seq (.seq (.region (a110R 1) false) (.cond (.v 6) (.seq (.region (a110R 2) false) (.seq (.region (a110R 3) false) (.ret))) (.skip))) (.seq (.region (a110R 4) false) (.seq (.block 0 (a110l0)) (.seq (.region (a110R 7) false) (.seq (.region (a110R 8) true) (.seq (.block 2 (a110l1)) (.seq (.region (a110R 13) false) (.seq (.region (a110R 14) true) (.ret))))))))))
def a111R:Nat → Unit → List AOper
| 0,_=>[oS 2 (.cb (.v 0)),
oS 3 (.cb (.v 1)),
oS 4 (.cn zI)]
| 1,_=>[oN (.cl true 2 (.v 2)),
oN (.cl true 2 (.v 3)),
oN (.call 88 [.l 1]),
oN (.call 49 [.l 0,.l 2]),
oS 4 (.cs 2 (.v 4) (.l 3))]
| _,_=>[]
def a111:AFun:=.mk .iso 2 5 [.c 4 true 2] (.seq (.region (a111R 0) false) (.seq (.region (a111R 1) true) (.ret)))
def a117R:Nat → Unit → List AOper
| 0,_=>[oS 6 (.cb (.v 0)),
oS 7 (.cb (.v 1)),
oS 8 (.cn (.agg [.int .i64 0,.int .i64 0,.nl]))]
| 1,_=>[oN (.ca (.v 6)),
oN (.field 0 0 false 1 (.v 6)),
oN (.ca (.v 6)),
oN (.field 1 1 false 1 (.v 6)),
oN (.call 61 [.l 1,.l 3]),
oS 9 (.cn (.agg [.int .i64 0,.int .i64 0,.nl])),
oS 9 (.cs 3 (.l 5) (.l 4))]
| 2,_=>[oS 2 (.move (.n 0))]
| 3,_=>[mV 2,
oN (.ca (.v 6)),
oN (.field 0 0 false 1 (.v 6)),
oS 4 (.bin .lss (.l 0) (.l 2))]
| 4,_=>[mV 2,
oN (.bin .add (.l 0) (.n 1)),
sL 2 1]
| 5,_=>[oS 3 (.move (.n 0))]
| 6,_=>[mV 3,
oN (.ca (.v 6)),
oN (.field 1 1 false 1 (.v 6)),
oS 5 (.bin .lss (.l 0) (.l 2))]
| 7,_=>[mV 3,
oN (.bin .add (.l 0) (.n 1)),
sL 3 1]
| 8,_=>[oN (.ca (.v 9)),
oN (.field 2 2 false 1 (.v 9)),
mV 2,
oN (.indexAddr 1 (.l 1) (.l 2)),
oN (.load false 1 (.l 3)),
mV 3,
oN (.ca (.v 6)),
oN (.field 2 2 false 1 (.v 6)),
mV 2,
oN (.indexAddr 1 (.l 7) (.l 8)),
oN (.load false 1 (.l 9)),
mV 3,
oN (.indexAddr 2 (.l 10) (.l 11)),
oN (.load true 2 (.l 12)),
oN (.cl true 2 (.v 7)),
oN (.call 41 [.l 13,.l 14]),
oN (.indexAddr 2 (.l 4) (.l 5)),
oN (.store 2 (.l 16) (.l 15))]
| 9,_=>[oN (.cl true 3 (.v 9)),
oS 8 (.cs 3 (.v 8) (.l 0))]
| _,_=>[]
def a117b1:AIR:=.seq (.seq (.region (a117R 6) false) (.cond (.v 5) (.skip) (.exit 2))) (.seq (.block 3 (.region (a117R 8) true)) (.region (a117R 7) false))
def a117l1:AIR:=.loop false [0,1,2,3,4,6,7,8,9] a117b1
theorem a117l1_run:Lr a117l1 (value_of% a117l1):=fun _=>run_loop _ _ _ _
def a117b0:AIR:=.seq (.seq (.region (a117R 3) false) (.cond (.v 4) (.skip) (.exit 0))) (.seq (.block 1 (.seq (.region (a117R 5) false) (.block 2 (a117l1)))) (.region (a117R 4) false))
def a117l0:AIR:=.loop false [0,1,2,6,7,8,9] a117b0
theorem a117l0_run:Lr a117l0 (value_of% a117l0):=fun _=>run_loop _ _ _ _
def a117:AFun:=.mk .keep 2 10 [.c 8 true 3] (.seq (.region (a117R 0) false) (.seq (.region (a117R 1) false) (.seq (.seq (.region (a117R 2) false) (.block 0 (a117l0))) (.seq (.region (a117R 9) false) (.ret)))))
def a118R:Nat → Unit → List AOper
| 0,_=>[oS 2 (.move (.c (.isl []))),
oS 3 (.move (.c (.int .u32 0)))]
| 1,_=>[mV 0,
oN (.len 0 (.l 0)),
oN (.mkslice 1 4 (.int .u32 0) (.l 1) (.l 1)),
sL 4 2,
oS 5 (.move (.c (.int .u64 0)))]
| 2,_=>[mV 0,
oN (.len 0 (.l 0)),
oN (.bin .sub (.l 1) (.n 1)),
sL 6 2]
| 3,_=>[mV 6,
oS 7 (.bin .geq (.l 0) (.n 0))]
| 4,_=>[mV 6,
oN (.bin .sub (.l 0) (.n 1)),
sL 6 1]
| 5,_=>[mV 5,
oN (.bin .mul (.l 0) (.c (.int .u64 4294967296))),
mV 0,
mV 6,
oN (.indexAddr 1 (.l 2) (.l 3)),
oN (.load false 1 (.l 4)),
oN (.conv .u64 (.l 5)),
oN (.bin .add (.l 1) (.l 6)),
sL 5 7]
| 6,_=>[mV 4,
mV 6,
mV 5,
mV 1,
oN (.conv .u64 (.l 3)),
oN (.bin .quo (.l 2) (.l 4)),
oN (.conv .u32 (.l 5)),
oN (.indexAddr 1 (.l 0) (.l 1)),
oN (.store 1 (.l 7) (.l 6))]
| 7,_=>[mV 5,
mV 1,
oN (.conv .u64 (.l 1)),
oN (.bin .rem (.l 0) (.l 2)),
sL 5 3]
| 8,_=>[mV 4,
mV 5,
oN (.conv .u32 (.l 1)),
sL 2 0,
sL 3 2]
| _,_=>[]
def a118b0:AIR:=.seq (.seq (.region (a118R 3) false) (.cond (.v 7) (.skip) (.exit 0))) (.seq (.block 1 (.seq (.region (a118R 5) false) (.seq (.region (a118R 6) false) (.region (a118R 7) false)))) (.region (a118R 4) false))
def a118l0:AIR:=.loop true [0,1,2,3,4,5,6] a118b0
theorem a118l0_run:Lr a118l0 (value_of% a118l0):=fun _=>run_loop _ _ _ _
def a118:AFun:=.mk .iso 2 8 [.v 2,.v 3] (.seq (.region (a118R 0) false) (.seq (.region (a118R 1) false) (.seq (.seq (.region (a118R 2) false) (.block 0 (a118l0))) (.seq (.region (a118R 8) false) (.ret)))))
def a119R:Nat → Unit → List AOper
| 0,_=>[oS 8 (.cn zI)]
| 1,_=>[mV 0,
oN (.len 0 (.l 0)),
mV 1,
oN (.len 0 (.l 2)),
oN (.bin .sub (.l 1) (.l 3)),
mV 0,
oN (.len 0 (.l 5)),
mV 1,
mV 1,
oN (.len 0 (.l 8)),
oN (.bin .sub (.l 9) (.n 1)),
oN (.indexAddr 1 (.l 7) (.l 10)),
oN (.load false 1 (.l 11)),
oN (.conv .u64 (.l 12)),
oN (.bin .add (.l 13) (.c (.int .u64 1))),
sL 2 4,
sL 3 6,
sL 4 14]
| 2,_=>[mV 2,
oS 7 (.bin .eql (.l 0) (.n 0))]
| 3,_=>[mV 0,
mV 3,
oN (.bin .sub (.l 1) (.n 1)),
oN (.indexAddr 1 (.l 0) (.l 2)),
oN (.load false 1 (.l 3)),
oN (.conv .u64 (.l 4)),
mV 4,
oN (.bin .quo (.l 5) (.l 6)),
oN (.max (.c (.int .u64 1)) [.l 7]),
oN (.conv .i64 (.l 8)),
oN (.call 14 [.l 9]),
oS 8 (.cs 2 (.v 8) (.l 10))]
| 4,_=>[mV 0,
mV 3,
oN (.bin .sub (.l 1) (.n 1)),
oN (.indexAddr 1 (.l 0) (.l 2)),
oN (.load false 1 (.l 3)),
oN (.conv .u64 (.l 4)),
oN (.bin .mul (.l 5) (.c (.int .u64 4294967296))),
mV 0,
mV 3,
oN (.bin .sub (.l 8) (.n 2)),
oN (.indexAddr 1 (.l 7) (.l 9)),
oN (.load false 1 (.l 10)),
oN (.conv .u64 (.l 11)),
oN (.bin .add (.l 6) (.l 12)),
mV 4,
oN (.bin .quo (.l 13) (.l 14)),
sL 5 15]
| 5,_=>[mV 2,
oN (.bin .sub (.l 0) (.n 1)),
oN (.mkslice 1 4 (.int .u32 0) (.l 1) (.l 1)),
sL 6 2]
| 6,_=>[mV 6,
mV 5,
oN (.conv .u32 (.l 1)),
mV 5,
oN (.bin .shr (.l 3) (.c (.int .u64 32))),
oN (.conv .u32 (.l 4)),
oN (.bslice false 1 (.int .u32 0) 2 [(0,.l 2),(1,.l 5)]),
oN (.append 1 4 (.l 0) (.l 6)),
oN (.call 38 [.l 7,.c (.bool false)]),
oS 8 (.cs 2 (.v 8) (.l 8))]
| _,_=>[]
def a119:AFun:=.mk .iso 2 9 [.c 8 true 2] (.seq (.region (a119R 0) false) (.seq (.region (a119R 1) true) (.seq (.seq (.region (a119R 2) false) (.cond (.v 7) (.seq (.region (a119R 3) false) (.ret)) (.skip))) (.seq (.region (a119R 4) true) (.seq (.region (a119R 5) false) (.seq (.region (a119R 6) false) (.ret)))))))
end Tor
