/- The walks of functions: the code comes to the answers that QgD tells. Written by a program of ours. -/
import Derived.Test.YtdmclbbhhcpjfaaQgW1
set_option linter.all false
set_option maxHeartbeats 4000000
set_option linter.unusedVariables false
set_option maxRecDepth 100000
namespace Go.Ev

/- loop.example/g00149/laws.FnTorn -/
def c206_r0 : List Ins := [⟨some 4, .p (.mv (.c (.bool false))), none⟩]
def c206_r1 : List Ins := [⟨some 29, .p (.mv (.t 0)), none⟩,
 ⟨some 30, .p (.len (.t 29)), none⟩,
 ⟨some 31, .p (.bin .gtr (.t 30) (.c (.int .i64 1048576))), none⟩,
 ⟨some 32, .p (.mv (.t 31)), none⟩,
 ⟨some 33, .p (.mv (.t 1)), some (32, false)⟩,
 ⟨some 34, .p (.len (.t 33)), some (32, false)⟩,
 ⟨some 35, .p (.bin .gtr (.t 34) (.c (.int .i64 1048576))), some (32, false)⟩,
 ⟨some 36, .pick (.t 32) (.c (.bool true)) (.t 35), none⟩]
def c206_r2 : List Ins := [⟨some 4, .p (.mv (.c (.bool true))), none⟩]
def c206_r3 : List Ins := [⟨some 37, .p (.mv (.t 0)), none⟩,
 ⟨some 38, .call 217 [(.t 37)], none⟩,
 ⟨some 5, .p (.mv (.t 38)), none⟩]
def c206_r4 : List Ins := [⟨some 39, .p (.build [(.own 2497 0 1 []), (.own 2498 0 2 [])] []), none⟩,
 ⟨some 6, .alloc [(.own 385 0 1 []), (.own 386 0 2 [])], none⟩,
 ⟨none, .store (.t 6) (.t 39) 2, none⟩]
def c206_r5 : List Ins := [⟨some 7, .p (.mv (.c (.int .i64 0))), none⟩]
def c206_r6 : List Ins := [⟨some 8, .p (.mv (.c (.int .i64 0))), none⟩]
def c206_r7 : List Ins := [⟨some 40, .p (.mv (.t 8)), none⟩,
 ⟨some 41, .p (.bin .add (.t 40) (.c (.int .i64 1))), none⟩,
 ⟨some 42, .p (.mv (.t 5)), none⟩,
 ⟨some 43, .p (.len (.t 42)), none⟩,
 ⟨some 44, .p (.bin .lss (.t 41) (.t 43)), none⟩]
def c206_r8 : DP := (.take ⟨some 48, .p (.load (.t 6) 2 true), none⟩
 (.take ⟨some 49, .p (.mv (.t 5)), none⟩
 (.take ⟨some 50, .p (.mv (.t 8)), none⟩
 (.take ⟨some 51, .p (.idxA (.t 49) (.t 50) 1), none⟩
 (.take ⟨some 52, .p (.load (.t 51) 1 false), none⟩
 (.alt [] ⟨some 53, .call 240 [(.t 48), (.t 52)], none⟩
 (.take ⟨some 47, .p (.mv (.t 53)), none⟩
 (.take ⟨some 54, .p (.ext (.t 47) 0), none⟩
 (.take ⟨some 55, .p (.ext (.t 47) 1), none⟩
 (.alt [⟨some 55, .p (.ext (.t 47) 1), none⟩, ⟨some 54, .p (.ext (.t 47) 0), none⟩, ⟨some 47, .p (.mv (.t 53)), none⟩] ⟨some 9, .alloc [(.own 577 0 1 []), (.own 578 0 2 [])], none⟩
 (.alt [⟨some 55, .p (.ext (.t 47) 1), none⟩] ⟨none, .store (.t 9) (.t 54) 2, none⟩
 (.take ⟨some 10, .p (.mv (.t 55)), none⟩
 .fin)
 .stop)
 .stop))))
 (.alt [⟨some 52, .p (.load (.t 51) 1 false), none⟩, ⟨some 51, .p (.idxA (.t 49) (.t 50) 1), none⟩, ⟨some 50, .p (.mv (.t 8)), none⟩, ⟨some 49, .p (.mv (.t 5)), none⟩, ⟨some 48, .p (.load (.t 6) 2 true), none⟩] ⟨some 9, .alloc [(.own 577 0 1 []), (.own 578 0 2 [])], none⟩
 (.alt [] ⟨some 53, .call 240 [(.t 48), (.t 52)], none⟩
 (.take ⟨some 47, .p (.mv (.t 53)), none⟩
 (.take ⟨some 54, .p (.ext (.t 47) 0), none⟩
 (.take ⟨some 55, .p (.ext (.t 47) 1), none⟩
 (.alt [⟨some 55, .p (.ext (.t 47) 1), none⟩] ⟨none, .store (.t 9) (.t 54) 2, none⟩
 (.take ⟨some 10, .p (.mv (.t 55)), none⟩
 .fin)
 .stop))))
 .stop)
 .stop)))))))
def c206_r9 : List Ins := [⟨some 57, .p (.mv (.t 5)), none⟩,
 ⟨some 58, .p (.mv (.t 8)), none⟩,
 ⟨some 59, .p (.idxA (.t 57) (.t 58) 1), none⟩,
 ⟨some 60, .p (.load (.t 59) 1 false), none⟩,
 ⟨some 61, .call 241 [(.t 60)], none⟩,
 ⟨some 56, .p (.mv (.t 61)), none⟩,
 ⟨some 62, .p (.ext (.t 56) 0), none⟩,
 ⟨some 63, .p (.ext (.t 56) 1), none⟩,
 ⟨some 11, .p (.mv (.t 62)), none⟩,
 ⟨some 12, .p (.mv (.t 63)), none⟩]
def c206_r10 : List Ins := [⟨some 64, .p (.mv (.t 10)), none⟩,
 ⟨some 65, .p (.bin .neq (.t 64) (.c (.int .i64 0))), none⟩]
def c206_r11 : List Ins := [⟨some 4, .p (.mv (.c (.bool true))), none⟩]
def c206_r12 : List Ins := [⟨some 66, .p (.load (.t 9) 2 true), none⟩,
 ⟨none, .store (.t 6) (.t 66) 2, none⟩]
def c206_r13 : List Ins := [⟨some 67, .p (.mv (.t 7)), none⟩,
 ⟨some 68, .p (.mv (.t 11)), none⟩,
 ⟨some 69, .p (.len (.t 68)), none⟩,
 ⟨some 70, .p (.bin .add (.t 67) (.t 69)), none⟩,
 ⟨some 7, .p (.mv (.t 70)), none⟩]
def c206_r14 : List Ins := [⟨some 45, .p (.mv (.t 8)), none⟩,
 ⟨some 46, .p (.bin .add (.t 45) (.c (.int .i64 1))), none⟩,
 ⟨some 8, .p (.mv (.t 46)), none⟩]
def c206_l0 : IR := (.seq (.seq (.reg c206_r7) (.ite (.t 44) .skip (.exit 0))) (.seq (.block 1 (.seq (.draw c206_r8) (.seq (.reg c206_r9) (.seq (.seq (.reg c206_r10) (.ite (.t 65) (.seq (.reg c206_r11) .ret) .skip)) (.seq (.reg c206_r12) (.reg c206_r13)))))) (.reg c206_r14)))
def c206_r15 : List Ins := [⟨some 71, .p (.mv (.t 5)), none⟩,
 ⟨some 72, .p (.len (.t 71)), none⟩,
 ⟨some 73, .p (.bin .eql (.t 72) (.c (.int .i64 0))), none⟩]
def c206_r16 : List Ins := [⟨some 4, .p (.mv (.c (.bool true))), none⟩]
def c206_r17 : List Ins := [⟨some 75, .p (.mv (.t 5)), none⟩,
 ⟨some 76, .p (.mv (.t 5)), none⟩,
 ⟨some 77, .p (.len (.t 76)), none⟩,
 ⟨some 78, .p (.bin .sub (.t 77) (.c (.int .i64 1))), none⟩,
 ⟨some 79, .p (.idxA (.t 75) (.t 78) 1), none⟩,
 ⟨some 80, .p (.load (.t 79) 1 false), none⟩,
 ⟨some 81, .call 219 [(.t 80)], none⟩,
 ⟨some 74, .p (.mv (.t 81)), none⟩,
 ⟨some 82, .p (.ext (.t 74) 0), none⟩,
 ⟨some 83, .p (.ext (.t 74) 1), none⟩,
 ⟨some 13, .p (.mv (.t 82)), none⟩,
 ⟨some 14, .p (.mv (.t 83)), none⟩]
def c206_r18 : List Ins := [⟨some 85, .p (.load (.t 6) 2 true), none⟩,
 ⟨some 86, .p (.mv (.t 7)), none⟩,
 ⟨some 87, .p (.mv (.t 13)), none⟩,
 ⟨some 88, .call 214 [(.t 85), (.t 86), (.t 87)], none⟩,
 ⟨some 84, .p (.mv (.t 88)), none⟩,
 ⟨some 89, .p (.ext (.t 84) 0), none⟩,
 ⟨some 90, .p (.ext (.t 84) 1), none⟩,
 ⟨some 15, .alloc [(.own 961 0 1 []), (.own 962 0 2 [])], none⟩,
 ⟨none, .store (.t 15) (.t 89) 2, none⟩,
 ⟨some 16, .p (.mv (.t 90)), none⟩]
def c206_r19 : List Ins := [⟨some 91, .p (.mv (.t 16)), none⟩,
 ⟨some 92, .p (.bin .eql (.t 91) (.c (.int .i64 9))), none⟩]
def c206_r20 : List Ins := [⟨some 4, .p (.mv (.c (.bool true))), none⟩]
def c206_r21 : DP := (.take ⟨some 94, .p (.load (.t 15) 2 true), none⟩
 (.take ⟨some 95, .p (.mv (.t 1)), none⟩
 (.alt [⟨some 94, .p (.load (.t 15) 2 true), none⟩] ⟨some 96, .call 243 [(.t 95)], none⟩
 (.alt [] ⟨some 97, .call 242 [(.t 94), (.t 96)], none⟩
 (.take ⟨some 93, .p (.mv (.t 97)), none⟩
 (.take ⟨some 98, .p (.ext (.t 93) 0), none⟩
 (.take ⟨some 99, .p (.ext (.t 93) 1), none⟩
 (.alt [⟨some 99, .p (.ext (.t 93) 1), none⟩, ⟨some 98, .p (.ext (.t 93) 0), none⟩, ⟨some 93, .p (.mv (.t 97)), none⟩] ⟨some 17, .alloc [(.own 1089 0 1 []), (.own 1090 0 2 [])], none⟩
 (.alt [⟨some 99, .p (.ext (.t 93) 1), none⟩] ⟨none, .store (.t 17) (.t 98) 2, none⟩
 (.take ⟨some 18, .p (.mv (.t 99)), none⟩
 .fin)
 .stop)
 .stop))))
 (.alt [⟨some 94, .p (.load (.t 15) 2 true), none⟩] ⟨some 17, .alloc [(.own 1089 0 1 []), (.own 1090 0 2 [])], none⟩
 (.alt [] ⟨some 97, .call 242 [(.t 94), (.t 96)], none⟩
 (.take ⟨some 93, .p (.mv (.t 97)), none⟩
 (.take ⟨some 98, .p (.ext (.t 93) 0), none⟩
 (.take ⟨some 99, .p (.ext (.t 93) 1), none⟩
 (.alt [⟨some 99, .p (.ext (.t 93) 1), none⟩] ⟨none, .store (.t 17) (.t 98) 2, none⟩
 (.take ⟨some 18, .p (.mv (.t 99)), none⟩
 .fin)
 .stop))))
 .stop)
 .stop))
 (.alt [⟨some 95, .p (.mv (.t 1)), none⟩, ⟨some 94, .p (.load (.t 15) 2 true), none⟩] ⟨some 17, .alloc [(.own 1089 0 1 []), (.own 1090 0 2 [])], none⟩
 (.alt [⟨some 94, .p (.load (.t 15) 2 true), none⟩] ⟨some 96, .call 243 [(.t 95)], none⟩
 (.alt [] ⟨some 97, .call 242 [(.t 94), (.t 96)], none⟩
 (.take ⟨some 93, .p (.mv (.t 97)), none⟩
 (.take ⟨some 98, .p (.ext (.t 93) 0), none⟩
 (.take ⟨some 99, .p (.ext (.t 93) 1), none⟩
 (.alt [⟨some 99, .p (.ext (.t 93) 1), none⟩] ⟨none, .store (.t 17) (.t 98) 2, none⟩
 (.take ⟨some 18, .p (.mv (.t 99)), none⟩
 .fin)
 .stop))))
 .stop)
 .stop)
 .stop))))
def c206_r22 : List Ins := [⟨some 101, .p (.load (.t 17) 2 true), none⟩,
 ⟨some 102, .call 220 [(.t 101)], none⟩,
 ⟨some 100, .p (.mv (.t 102)), none⟩,
 ⟨some 103, .p (.ext (.t 100) 0), none⟩,
 ⟨some 104, .p (.ext (.t 100) 1), none⟩,
 ⟨some 19, .p (.mv (.t 103)), none⟩,
 ⟨some 20, .p (.mv (.t 104)), none⟩]
def c206_r23 : List Ins := [⟨some 106, .p (.load (.t 15) 2 true), none⟩,
 ⟨some 107, .call 220 [(.t 106)], none⟩,
 ⟨some 105, .p (.mv (.t 107)), none⟩,
 ⟨some 108, .p (.ext (.t 105) 0), none⟩,
 ⟨some 109, .p (.ext (.t 105) 1), none⟩,
 ⟨some 21, .p (.mv (.t 108)), none⟩,
 ⟨some 22, .p (.mv (.t 109)), none⟩]
def c206_r24 : List Ins := [⟨some 110, .p (.mv (.t 16)), none⟩,
 ⟨some 111, .p (.bin .neq (.t 110) (.c (.int .i64 0))), none⟩,
 ⟨some 112, .p (.mv (.t 111)), none⟩,
 ⟨some 113, .p (.mv (.t 18)), some (112, false)⟩,
 ⟨some 114, .p (.bin .neq (.t 113) (.c (.int .i64 0))), some (112, false)⟩,
 ⟨some 115, .pick (.t 112) (.c (.bool true)) (.t 114), none⟩,
 ⟨some 116, .p (.mv (.t 115)), none⟩,
 ⟨some 117, .p (.mv (.t 20)), some (116, false)⟩,
 ⟨some 118, .p (.bin .neq (.t 117) (.c (.int .i64 0))), some (116, false)⟩,
 ⟨some 119, .pick (.t 116) (.c (.bool true)) (.t 118), none⟩,
 ⟨some 120, .p (.mv (.t 119)), none⟩,
 ⟨some 121, .p (.mv (.t 22)), some (120, false)⟩,
 ⟨some 122, .p (.bin .neq (.t 121) (.c (.int .i64 0))), some (120, false)⟩,
 ⟨some 123, .pick (.t 120) (.c (.bool true)) (.t 122), none⟩,
 ⟨some 124, .p (.mv (.t 123)), none⟩,
 ⟨some 125, .p (.mv (.t 21)), some (124, false)⟩,
 ⟨some 126, .p (.mv (.t 5)), some (124, false)⟩,
 ⟨some 127, .call 222 [(.t 125), (.t 126)], some (124, false)⟩,
 ⟨some 128, .p (.un .not (.t 127)), some (124, false)⟩,
 ⟨some 129, .pick (.t 124) (.c (.bool true)) (.t 128), none⟩]
def c206_r25 : List Ins := [⟨some 4, .p (.mv (.c (.bool false))), none⟩]
def c206_r26 : List Ins := [⟨some 130, .p (.fieldA (.t 15) 1), none⟩,
 ⟨some 131, .p (.load (.t 130) 1 false), none⟩,
 ⟨some 132, .p (.len (.t 131)), none⟩,
 ⟨some 133, .make 1 1 [(.bool false)] (.t 132) (.t 132), none⟩,
 ⟨some 23, .p (.mv (.t 133)), none⟩]
def c206_r27 : List Ins := [⟨some 24, .p (.mv (.c (.int .i64 0))), none⟩]
def c206_r28 : List Ins := [⟨some 134, .p (.mv (.t 24)), none⟩,
 ⟨some 135, .p (.mv (.t 23)), none⟩,
 ⟨some 136, .p (.len (.t 135)), none⟩,
 ⟨some 137, .p (.bin .lss (.t 134) (.t 136)), none⟩]
def c206_r29 : List Ins := [⟨some 140, .p (.mv (.t 23)), none⟩,
 ⟨some 141, .p (.mv (.t 24)), none⟩,
 ⟨some 142, .p (.idxA (.t 140) (.t 141) 1), none⟩,
 ⟨none, .store (.t 142) (.c (.bool true)) 1, none⟩]
def c206_r30 : List Ins := [⟨some 138, .p (.mv (.t 24)), none⟩,
 ⟨some 139, .p (.bin .add (.t 138) (.c (.int .i64 1))), none⟩,
 ⟨some 24, .p (.mv (.t 139)), none⟩]
def c206_l1 : IR := (.seq (.seq (.reg c206_r28) (.ite (.t 137) .skip (.exit 2))) (.seq (.block 3 (.reg c206_r29)) (.reg c206_r30)))
def c206_r31 : List Ins := [⟨some 144, .p (.load (.t 15) 2 true), none⟩,
 ⟨some 145, .p (.mv (.t 23)), none⟩,
 ⟨some 146, .call 242 [(.t 144), (.t 145)], none⟩,
 ⟨some 143, .p (.mv (.t 146)), none⟩,
 ⟨some 147, .p (.ext (.t 143) 0), none⟩,
 ⟨some 148, .p (.ext (.t 143) 1), none⟩,
 ⟨some 25, .alloc [(.own 1601 0 1 []), (.own 1602 0 2 [])], none⟩,
 ⟨none, .store (.t 25) (.t 147) 2, none⟩,
 ⟨some 26, .p (.mv (.t 148)), none⟩]
def c206_r32 : List Ins := [⟨some 150, .p (.load (.t 25) 2 true), none⟩,
 ⟨some 151, .call 220 [(.t 150)], none⟩,
 ⟨some 149, .p (.mv (.t 151)), none⟩,
 ⟨some 152, .p (.ext (.t 149) 0), none⟩,
 ⟨some 153, .p (.ext (.t 149) 1), none⟩,
 ⟨some 27, .p (.mv (.t 152)), none⟩,
 ⟨some 28, .p (.mv (.t 153)), none⟩]
def c206_r33 : DP := (.take ⟨some 154, .p (.mv (.t 26)), none⟩
 (.take ⟨some 155, .p (.bin .eql (.t 154) (.c (.int .i64 0))), none⟩
 (.take ⟨some 156, .p (.mv (.t 155)), none⟩
 (.take ⟨some 157, .p (.mv (.t 28)), some (156, true)⟩
 (.take ⟨some 158, .p (.bin .eql (.t 157) (.c (.int .i64 0))), some (156, true)⟩
 (.take ⟨some 159, .pick (.t 156) (.t 158) (.c (.bool false)), none⟩
 (.take ⟨some 160, .p (.mv (.t 159)), none⟩
 (.take ⟨some 161, .p (.mv (.t 27)), some (160, true)⟩
 (.take ⟨some 162, .p (.mv (.t 5)), some (160, true)⟩
 (.alt [] ⟨some 163, .call 222 [(.t 161), (.t 162)], some (160, true)⟩
 (.take ⟨some 164, .pick (.t 160) (.t 163) (.c (.bool false)), none⟩
 (.take ⟨some 165, .p (.mv (.t 164)), none⟩
 (.take ⟨some 166, .p (.mv (.t 19)), some (165, true)⟩
 (.take ⟨some 167, .p (.len (.t 166)), some (165, true)⟩
 (.take ⟨some 168, .p (.mv (.t 5)), some (165, true)⟩
 (.take ⟨some 169, .p (.len (.t 168)), some (165, true)⟩
 (.take ⟨some 170, .p (.bin .sub (.t 169) (.c (.int .i64 1))), some (165, true)⟩
 (.take ⟨some 171, .p (.bin .geq (.t 167) (.t 170)), some (165, true)⟩
 (.take ⟨some 172, .pick (.t 165) (.t 171) (.c (.bool false)), none⟩
 (.take ⟨some 173, .p (.mv (.t 172)), none⟩
 (.take ⟨some 174, .p (.mv (.t 19)), some (173, true)⟩
 (.take ⟨some 175, .p (.mv (.t 5)), some (173, true)⟩
 (.take ⟨some 176, .p (.len (.t 175)), some (173, true)⟩
 (.take ⟨some 177, .p (.bin .sub (.t 176) (.c (.int .i64 1))), some (173, true)⟩
 (.take ⟨some 178, .p (.slice (.t 174) none (some (.t 177)) 1), some (173, true)⟩
 (.take ⟨some 179, .p (.mv (.t 5)), some (173, true)⟩
 (.take ⟨some 180, .p (.mv (.t 5)), some (173, true)⟩
 (.take ⟨some 181, .p (.len (.t 180)), some (173, true)⟩
 (.take ⟨some 182, .p (.bin .sub (.t 181) (.c (.int .i64 1))), some (173, true)⟩
 (.take ⟨some 183, .p (.slice (.t 179) none (some (.t 182)) 1), some (173, true)⟩
 (.alt [] ⟨some 184, .call 222 [(.t 178), (.t 183)], some (173, true)⟩
 (.take ⟨some 185, .pick (.t 173) (.t 184) (.c (.bool false)), none⟩
 (.take ⟨some 4, .p (.mv (.t 185)), none⟩
 .fin))
 .stop)))))))))))))))))))))
 .stop))))))))))
def c206 : XFn := { np := 2, nt := 186, res := [.t 4], body := (.seq (.reg c206_r0) (.seq (.seq (.reg c206_r1) (.ite (.t 36) (.seq (.reg c206_r2) .ret) .skip)) (.seq (.reg c206_r3) (.seq (.reg c206_r4) (.seq (.reg c206_r5) (.seq (.seq (.reg c206_r6) (.block 0 (.loop c206_l0))) (.seq (.seq (.reg c206_r15) (.ite (.t 73) (.seq (.reg c206_r16) .ret) .skip)) (.seq (.reg c206_r17) (.seq (.reg c206_r18) (.seq (.seq (.reg c206_r19) (.ite (.t 92) (.seq (.reg c206_r20) .ret) .skip)) (.seq (.draw c206_r21) (.seq (.reg c206_r22) (.seq (.reg c206_r23) (.seq (.seq (.reg c206_r24) (.ite (.t 129) (.seq (.reg c206_r25) .ret) .skip)) (.seq (.reg c206_r26) (.seq (.seq (.reg c206_r27) (.block 2 (.loop c206_l1))) (.seq (.reg c206_r31) (.seq (.reg c206_r32) (.seq (.draw c206_r33) .ret))))))))))))))))))) }
def K206 (C : CRel) : Prop := ∀ (a0 : List UInt8) (a1 : List UInt8) (r : Bool), g206 a0 a1 = some r → C 206 ⟨[.lst 1 (a0.map eU8), .lst 1 (a1.map eU8)], []⟩ ⟨.bool r, [], []⟩
theorem F206 {C : CRel} (H214 : K214 C) (H217 : K217 C) (H219 : K219 C) (H220 : K220 C) (H222 : K222 C) (H240 : K240 C) (H241 : K241 C) (H242 : K242 C) (H243 : K243 C) (a0 : List UInt8) (a1 : List UInt8) (r : Bool) (h0 : g206 a0 a1 = some r) : FnOK C c206 ⟨[.lst 1 (a0.map eU8), .lst 1 (a1.map eU8)], []⟩ ⟨.bool r, [], []⟩ := by
  refine fn_ (Nat.le_of_ble_eq_true rfl) ?_
  refine seq_ ?_
  refine reg_ ?_
  refine st (mvc_ trivial ?_)
  refine oe_ ?_
  refine wk_ ⟨[(0, .lst 1 (a0.map eU8)), (1, .lst 1 (a1.map eU8))], [], []⟩ (fgk (by kernel_rfl)) ?_
  refine seq_ ?_
  refine seq_ ?_
  refine reg_ ?_
  refine st (mv_ rfl trivial ?_)
  refine st (c_ (clenL (e := eU8) (l0 := a0) rfl rfl trivial) ?_)
  refine st (c_ (cp_ ⟨trivial, trivial, trivial⟩ rfl trivial) ?_)
  refine st (mv_ rfl trivial ?_)
  refine st (pg_ (u := .lst 1 (a1.map eU8)) rfl (fun hg => (cmv (v := .lst 1 (a1.map eU8)) rfl trivial)) ?_)
  refine st (pg_ (u := .int .i64 (a1.length : Int)) rfl (fun hg => (clenL (e := eU8) (l0 := a1) rfl rfl (fun _ => hg))) ?_)
  refine st (pg_ (u := .bool (decide ((a1.length : Int) > 1048576))) rfl (fun hg => (cp_ ⟨(fun _ => hg), trivial, trivial⟩ rfl trivial)) ?_)
  refine st (pick_ rfl rfl rfl trivial (fun h => eqf h) rfl ?_)
  refine oe_ ?_
  obtain ⟨v1, e2, h0⟩ := bl h0
  refine wk_ ⟨[(0, .lst 1 (a0.map eU8)), (1, .lst 1 (a1.map eU8)), (36, .bool v1)], [], []⟩ (fgk (by subst e2; kernel_rfl)) ?_
  refine ite_ (cb := v1) rfl (fun c3 => ?_) (fun c3 => ?_)
  · replace h0 := ip c3 h0
    refine seq_ ?_
    refine reg_ ?_
    refine st (mvc_ trivial ?_)
    refine oe_ ?_
    refine wk_ ⟨[(4, .bool true)], [], []⟩ (fgk (by kernel_rfl)) ?_
    obtain rfl := Option.some.inj h0
    exact rt_ (ret_ rfl rfl rfl rfl rfl trivial)
  · replace h0 := inb c3 h0
    refine sk_ ?_
    refine wk_ ⟨[(0, .lst 1 (a0.map eU8)), (1, .lst 1 (a1.map eU8))], [], []⟩ (fgk (by kernel_rfl)) ?_
    refine seq_ ?_
    refine reg_ ?_
    refine st (mv_ rfl trivial ?_)
    obtain ⟨r4, e5, h0⟩ := bnd h0
    refine st (call0_ (r := .own 0 0 1 (r4.map (eL 1 eU8))) true (H217 a0 r4 e5) ⟨trivial, trivial⟩ rfl rfl (fun h => nomatch h) ?_)
    refine st (mv_ rfl trivial ?_)
    refine oe_ ?_
    refine wk_ ⟨[(1, .lst 1 (a1.map eU8)), (5, .own 2432 0 1 (r4.map (eL 1 eU8)))], [], []⟩ (fgk (by kernel_rfl)) ?_
    refine seq_ ?_
    refine reg_ ?_
    refine st (c_ (v := .agg [.own 2497 0 1 (([] : List UInt8).map eU8), .own 2498 0 2 (([] : List DSector).map eDSector)]) (cp_ trivial rfl trivial) ?_)
    refine st (alloc_ ?_)
    refine st (stp_ rfl rfl trivial rfl rfl rfl (Nat.le_of_ble_eq_true rfl) ?_)
    refine oe_ ?_
    refine wk_ ⟨[(1, .lst 1 (a1.map eU8)), (5, .own 2432 0 1 (r4.map (eL 1 eU8))), (6, .ptr 384 0)], [(384, [.own 2497 0 1 (([] : List UInt8).map eU8), .own 2498 0 2 (([] : List DSector).map eDSector)])], []⟩ (fgk (by kernel_rfl)) ?_
    refine seq_ ?_
    refine reg_ ?_
    refine st (mvc_ trivial ?_)
    refine oe_ ?_
    refine wk_ ⟨[(1, .lst 1 (a1.map eU8)), (5, .own 2432 0 1 (r4.map (eL 1 eU8))), (6, .ptr 384 0), (7, .int .i64 0)], [(384, [.own 2497 0 1 (([] : List UInt8).map eU8), .own 2498 0 2 (([] : List DSector).map eDSector)])], []⟩ (fgk (by kernel_rfl)) ?_
    refine seq_ ?_
    refine seq_ ?_
    refine reg_ ?_
    refine st (mvc_ trivial ?_)
    refine oe_ ?_
    refine wk_ ⟨[(1, .lst 1 (a1.map eU8)), (5, .own 2432 0 1 (r4.map (eL 1 eU8))), (6, .ptr 384 0), (7, .int .i64 0), (8, .int .i64 0)], [(384, [.own 2497 0 1 (([] : List UInt8).map eU8), .own 2498 0 2 (([] : List DSector).map eDSector)])], []⟩ (fgk (by kernel_rfl)) ?_
    refine block_ ?_
    obtain ⟨r62, e63, h0⟩ := bnd h0
    refine loop_ (R := (fun S => ∃ p44 : Int, ∃ p45 : List UInt8, ∃ p46 : List DSector, .inl (p44, p45, p46) = r62 ∧ S = ⟨[(1, .lst 1 (a1.map eU8)), (5, .own 2432 0 1 (r4.map (eL 1 eU8))), (6, .ptr 384 0), (7, .int .i64 p44)], [(384, [.own 2497 0 1 (p45.map eU8), .own 2498 0 2 (p46.map eDSector)])], []⟩)) (g206_l0 r4) (fun s S => match s with | (p21, p22, p23, p24) => S = ⟨[(1, .lst 1 (a1.map eU8)), (5, .own 2432 0 1 (r4.map (eL 1 eU8))), (6, .ptr 384 0), (7, .int .i64 p21), (8, .int .i64 p22)], [(384, [.own 2497 0 1 (p23.map eU8), .own 2498 0 2 (p24.map eDSector)])], []⟩) e63 ⟨[(1, .lst 1 (a1.map eU8)), (5, .own 2432 0 1 (r4.map (eL 1 eU8))), (6, .ptr 384 0), (7, .int .i64 0), (8, .int .i64 0)], [(384, [.own 2497 0 1 (([] : List UInt8).map eU8), .own 2498 0 2 (([] : List DSector).map eDSector)])], []⟩ (fgk (by kernel_rfl)) rfl 0 (fun _ => rfl) ?_ ?_
    · rintro S _ hfg ⟨p44, p45, p46, rfl, rfl⟩
      refine wk_ ⟨[(1, .lst 1 (a1.map eU8)), (5, .own 2432 0 1 (r4.map (eL 1 eU8))), (6, .ptr 384 0), (7, .int .i64 p44)], [(384, [.own 2497 0 1 (p45.map eU8), .own 2498 0 2 (p46.map eDSector)])], []⟩ (fglk hfg (by kernel_rfl)) ?_
      refine seq_ ?_
      refine seq_ ?_
      refine reg_ ?_
      refine st (mv_ rfl trivial ?_)
      refine st (c_ (clenO (e := (eL 1 eU8)) (l0 := r4) rfl rfl trivial) ?_)
      refine st (c_ (cp_ ⟨trivial, trivial, trivial⟩ rfl trivial) ?_)
      refine oe_ ?_
      refine wk_ ⟨[(1, .lst 1 (a1.map eU8)), (5, .own 2432 0 1 (r4.map (eL 1 eU8))), (6, .ptr 384 0), (7, .int .i64 p44), (73, .bool ((r4.length : Int) == 0))], [(384, [.own 2497 0 1 (p45.map eU8), .own 2498 0 2 (p46.map eDSector)])], []⟩ (fgk (by kernel_rfl)) ?_
      refine ite_ (cb := ((r4.length : Int) == 0)) rfl (fun c64 => ?_) (fun c64 => ?_)
      · replace h0 := ip c64 h0
        refine seq_ ?_
        refine reg_ ?_
        refine st (mvc_ trivial ?_)
        refine oe_ ?_
        refine wk_ ⟨[(4, .bool true)], [], []⟩ (fgk (by kernel_rfl)) ?_
        obtain rfl := Option.some.inj h0
        exact rt_ (ret_ rfl rfl rfl rfl rfl trivial)
      · replace h0 := inb c64 h0
        refine sk_ ?_
        refine wk_ ⟨[(1, .lst 1 (a1.map eU8)), (5, .own 2432 0 1 (r4.map (eL 1 eU8))), (6, .ptr 384 0), (7, .int .i64 p44)], [(384, [.own 2497 0 1 (p45.map eU8), .own 2498 0 2 (p46.map eDSector)])], []⟩ (fgk (by kernel_rfl)) ?_
        refine seq_ ?_
        refine reg_ ?_
        refine st (mv_ rfl trivial ?_)
        refine st (mv_ rfl trivial ?_)
        refine st (c_ (clenO (e := (eL 1 eU8)) (l0 := r4) rfl rfl trivial) ?_)
        refine st (c_ (cp_ ⟨trivial, trivial, trivial⟩ rfl trivial) ?_)
        obtain ⟨y65, e66, h0⟩ := bnd h0
        refine st (c_ (cidxO (e := (eL 1 eU8)) (y := y65) rfl rfl trivial rfl rfl trivial e66) ?_)
        obtain ⟨y67, e68, h0⟩ := bnd h0
        refine st (c_ (cloadO (e := (eL 1 eU8)) (y := y67) (v := .lst 1 (y67.map eU8)) rfl rfl trivial rfl rfl e68 rfl (Nat.le_of_ble_eq_true rfl) rfl) ?_)
        obtain ⟨r69, e70, h0⟩ := bnd h0
        refine st (call0_ (r := .tup [.own 0 0 1 (r69.1.map eU8), .int .i64 r69.2]) false (H219 y67 r69 e70) ⟨trivial, trivial⟩ rfl rfl (fun _ => (and_ (fl1 (fun _ => rfl)) (and_ rfl rfl))) ?_)
        refine st (mv_ rfl trivial ?_)
        refine st (c_ (cp_ ⟨trivial, trivial⟩ rfl trivial) ?_)
        refine st (c_ (cp_ ⟨trivial, trivial⟩ rfl trivial) ?_)
        refine st (mv_ rfl trivial ?_)
        refine st (mv_ rfl trivial ?_)
        refine oe_ ?_
        refine wk_ ⟨[(1, .lst 1 (a1.map eU8)), (5, .own 2432 0 1 (r4.map (eL 1 eU8))), (6, .ptr 384 0), (7, .int .i64 p44), (13, .own 5184 0 1 (r69.1.map eU8))], [(384, [.own 2497 0 1 (p45.map eU8), .own 2498 0 2 (p46.map eDSector)])], []⟩ (fgk (by kernel_rfl)) ?_
        refine seq_ ?_
        refine reg_ ?_
        refine st (c_ (v := .agg [.own 2497 0 1 (p45.map eU8), .own 2498 0 2 (p46.map eDSector)]) (cp_ ⟨trivial, trivial⟩ rfl (Nat.le_of_ble_eq_true rfl)) ?_)
        refine st (mv_ rfl trivial ?_)
        refine st (mv_ rfl trivial ?_)
        obtain ⟨r71, e72, h0⟩ := bnd h0
        refine st (call0_ (r := .tup [.agg [.own 0 0 1 (r71.1.held.map eU8), .own 1 0 2 (r71.1.waiting.map eDSector)], .int .i64 r71.2]) true (H214 (DDevice.mk p45 p46) p44 r69.1 r71 e72) ⟨trivial, trivial, trivial, trivial⟩ rfl rfl (fun h => nomatch h) ?_)
        refine sw ⟨[(1, .lst 1 (a1.map eU8)), (5, .own 2432 0 1 (r4.map (eL 1 eU8))), (88, .tup [.agg [.own 5632 0 1 (r71.1.held.map eU8), .own 5633 0 2 (r71.1.waiting.map eDSector)], .int .i64 r71.2])], [], []⟩ (fgk (by kernel_rfl)) (mv_ rfl trivial ?_)
        refine st (c_ (cp_ ⟨trivial, trivial⟩ rfl trivial) ?_)
        refine st (c_ (cp_ ⟨trivial, trivial⟩ rfl trivial) ?_)
        refine st (alloc_ ?_)
        refine st (stp_ rfl rfl trivial rfl rfl rfl (Nat.le_of_ble_eq_true rfl) ?_)
        refine st (mv_ rfl trivial ?_)
        refine oe_ ?_
        refine wk_ ⟨[(1, .lst 1 (a1.map eU8)), (5, .own 2432 0 1 (r4.map (eL 1 eU8))), (15, .ptr 960 0), (16, .int .i64 r71.2)], [(960, [.own 5632 0 1 (r71.1.held.map eU8), .own 5633 0 2 (r71.1.waiting.map eDSector)])], []⟩ (fgk (by kernel_rfl)) ?_
        refine seq_ ?_
        refine seq_ ?_
        refine reg_ ?_
        refine st (mv_ rfl trivial ?_)
        refine st (c_ (cp_ ⟨trivial, trivial, trivial⟩ rfl trivial) ?_)
        refine oe_ ?_
        refine wk_ ⟨[(1, .lst 1 (a1.map eU8)), (5, .own 2432 0 1 (r4.map (eL 1 eU8))), (15, .ptr 960 0), (16, .int .i64 r71.2), (92, .bool (r71.2 == 9))], [(960, [.own 5632 0 1 (r71.1.held.map eU8), .own 5633 0 2 (r71.1.waiting.map eDSector)])], []⟩ (fgk (by kernel_rfl)) ?_
        refine ite_ (cb := (r71.2 == 9)) rfl (fun c73 => ?_) (fun c73 => ?_)
        · replace h0 := ip c73 h0
          refine seq_ ?_
          refine reg_ ?_
          refine st (mvc_ trivial ?_)
          refine oe_ ?_
          refine wk_ ⟨[(4, .bool true)], [], []⟩ (fgk (by kernel_rfl)) ?_
          obtain rfl := Option.some.inj h0
          exact rt_ (ret_ rfl rfl rfl rfl rfl trivial)
        · replace h0 := inb c73 h0
          refine sk_ ?_
          refine wk_ ⟨[(1, .lst 1 (a1.map eU8)), (5, .own 2432 0 1 (r4.map (eL 1 eU8))), (15, .ptr 960 0), (16, .int .i64 r71.2)], [(960, [.own 5632 0 1 (r71.1.held.map eU8), .own 5633 0 2 (r71.1.waiting.map eDSector)])], []⟩ (fgk (by kernel_rfl)) ?_
          refine seq_ ?_
          obtain ⟨r74, e75, h0⟩ := bnd h0
          obtain ⟨r76, e77, h0⟩ := bnd h0
          refine drawJ (fun S => S = ⟨[(5, .own 2432 0 1 (r4.map (eL 1 eU8))), (15, .ptr 960 0), (16, .int .i64 r71.2), (17, .ptr 1088 0), (18, .int .i64 r76.2)], [(960, [.lst 1 (r71.1.held.map eU8), .lst 2 (r71.1.waiting.map eDSector)]), (1088, [.own 6208 0 1 (r76.1.held.map eU8), .own 6209 0 2 (r76.1.waiting.map eDSector)])], []⟩) ?_ (fun J78 => ?_)
          · rintro _ rfl
            refine seq_ ?_
            refine reg_ ?_
            refine st (c_ (v := .agg [.own 6208 0 1 (r76.1.held.map eU8), .own 6209 0 2 (r76.1.waiting.map eDSector)]) (cp_ ⟨trivial, trivial⟩ rfl (Nat.le_of_ble_eq_true rfl)) ?_)
            obtain ⟨r79, e80, h0⟩ := bnd h0
            refine st (call0_ (r := .tup [.own 0 0 1 (r79.1.map (eL 1 eU8)), .int .i64 r79.2]) true (H220 r76.1 r79 e80) ⟨trivial, trivial⟩ rfl rfl (fun h => nomatch h) ?_)
            refine sw ⟨[(5, .own 2432 0 1 (r4.map (eL 1 eU8))), (15, .ptr 960 0), (16, .int .i64 r71.2), (18, .int .i64 r76.2), (102, .tup [.own 6528 0 1 (r79.1.map (eL 1 eU8)), .int .i64 r79.2])], [(960, [.lst 1 (r71.1.held.map eU8), .lst 2 (r71.1.waiting.map eDSector)])], []⟩ (fgk (by kernel_rfl)) (mv_ rfl trivial ?_)
            refine st (c_ (cp_ ⟨trivial, trivial⟩ rfl trivial) ?_)
            refine st (c_ (cp_ ⟨trivial, trivial⟩ rfl trivial) ?_)
            refine st (mv_ rfl trivial ?_)
            refine st (mv_ rfl trivial ?_)
            refine oe_ ?_
            refine wk_ ⟨[(5, .own 2432 0 1 (r4.map (eL 1 eU8))), (15, .ptr 960 0), (16, .int .i64 r71.2), (18, .int .i64 r76.2), (19, .own 6528 0 1 (r79.1.map (eL 1 eU8))), (20, .int .i64 r79.2)], [(960, [.lst 1 (r71.1.held.map eU8), .lst 2 (r71.1.waiting.map eDSector)])], []⟩ (fgk (by kernel_rfl)) ?_
            refine seq_ ?_
            refine reg_ ?_
            refine st (c_ (v := .agg [.lst 1 (r71.1.held.map eU8), .lst 2 (r71.1.waiting.map eDSector)]) (cp_ ⟨trivial, trivial⟩ rfl (Nat.le_of_ble_eq_true rfl)) ?_)
            obtain ⟨r81, e82, h0⟩ := bnd h0
            refine st (call0_ (r := .tup [.own 0 0 1 (r81.1.map (eL 1 eU8)), .int .i64 r81.2]) true (H220 r71.1 r81 e82) ⟨trivial, trivial⟩ rfl rfl (fun h => nomatch h) ?_)
            refine st (mv_ rfl trivial ?_)
            refine st (c_ (cp_ ⟨trivial, trivial⟩ rfl trivial) ?_)
            refine st (c_ (cp_ ⟨trivial, trivial⟩ rfl trivial) ?_)
            refine st (mv_ rfl trivial ?_)
            refine st (mv_ rfl trivial ?_)
            refine oe_ ?_
            refine wk_ ⟨[(5, .own 2432 0 1 (r4.map (eL 1 eU8))), (15, .ptr 960 0), (16, .int .i64 r71.2), (18, .int .i64 r76.2), (19, .own 6528 0 1 (r79.1.map (eL 1 eU8))), (20, .int .i64 r79.2), (21, .own 6848 0 1 (r81.1.map (eL 1 eU8))), (22, .int .i64 r81.2)], [(960, [.lst 1 (r71.1.held.map eU8), .lst 2 (r71.1.waiting.map eDSector)])], []⟩ (fgk (by kernel_rfl)) ?_
            refine seq_ ?_
            refine seq_ ?_
            refine reg_ ?_
            refine st (mv_ rfl trivial ?_)
            refine st (c_ (cp_ ⟨trivial, trivial, trivial⟩ rfl trivial) ?_)
            refine st (mv_ rfl trivial ?_)
            refine st (pg_ (u := .int .i64 r76.2) rfl (fun hg => (cmv (v := .int .i64 r76.2) rfl trivial)) ?_)
            refine st (pg_ (u := .bool (r76.2 != 0)) rfl (fun hg => (cp_ ⟨(fun _ => hg), trivial, trivial⟩ rfl trivial)) ?_)
            refine st (pick_ rfl rfl rfl trivial (fun h => eqf h) rfl ?_)
            refine st (mv_ rfl trivial ?_)
            refine st (pg_ (u := .int .i64 r79.2) rfl (fun hg => (cmv (v := .int .i64 r79.2) rfl trivial)) ?_)
            refine st (pg_ (u := .bool (r79.2 != 0)) rfl (fun hg => (cp_ ⟨(fun _ => hg), trivial, trivial⟩ rfl trivial)) ?_)
            refine st (pick_ rfl rfl rfl trivial (fun h => eqf h) rfl ?_)
            refine st (mv_ rfl trivial ?_)
            refine st (pg_ (u := .int .i64 r81.2) rfl (fun hg => (cmv (v := .int .i64 r81.2) rfl trivial)) ?_)
            refine st (pg_ (u := .bool (r81.2 != 0)) rfl (fun hg => (cp_ ⟨(fun _ => hg), trivial, trivial⟩ rfl trivial)) ?_)
            refine st (pick_ rfl rfl rfl trivial (fun h => eqf h) rfl ?_)
            refine st (mv_ rfl trivial ?_)
            refine sw ⟨[(5, .own 2432 0 1 (r4.map (eL 1 eU8))), (15, .ptr 960 0), (19, .own 6528 0 1 (r79.1.map (eL 1 eU8))), (21, .own 6848 0 1 (r81.1.map (eL 1 eU8))), (124, .bool (bif (bif (bif (r71.2 != 0) then true else (r76.2 != 0)) then true else (r79.2 != 0)) then true else (r81.2 != 0)))], [(960, [.lst 1 (r71.1.held.map eU8), .lst 2 (r71.1.waiting.map eDSector)])], []⟩ (fgk (by kernel_rfl)) (pg_ (u := .own 6848 0 1 (r81.1.map (eL 1 eU8))) rfl (fun hg => (cmv (v := .own 6848 0 1 (r81.1.map (eL 1 eU8))) rfl trivial)) ?_)
            refine st (pg_ (u := .own 2432 0 1 (r4.map (eL 1 eU8))) rfl (fun hg => (cmv (v := .own 2432 0 1 (r4.map (eL 1 eU8))) rfl trivial)) ?_)
            obtain ⟨r83, e84, h0⟩ := bnd h0
            refine st (callg_ (r := .bool r83) rfl false (fun hg => H222 r81.1 r4 r83 (ip hg e84)) ⟨(fun hg => hg), (fun hg => hg), trivial⟩ (fun _ => rfl) (fun _ => rfl) (fun _ => rfl) (fun h => nomatch h) ?_)
            refine st (pg_ (u := .bool (!r83)) rfl (fun hg => (cp_ ⟨(fun _ => hg), trivial⟩ rfl trivial)) ?_)
            refine st (pick_ rfl rfl rfl trivial (fun h => eqf h) rfl ?_)
            refine oe_ ?_
            obtain ⟨v85, e86, h0⟩ := bl h0
            refine wk_ ⟨[(5, .own 2432 0 1 (r4.map (eL 1 eU8))), (15, .ptr 960 0), (19, .own 6528 0 1 (r79.1.map (eL 1 eU8))), (129, .bool v85)], [(960, [.lst 1 (r71.1.held.map eU8), .lst 2 (r71.1.waiting.map eDSector)])], []⟩ (fgk (by subst e86; kernel_rfl)) ?_
            refine ite_ (cb := v85) rfl (fun c87 => ?_) (fun c87 => ?_)
            · replace h0 := ip c87 h0
              refine seq_ ?_
              refine reg_ ?_
              refine st (mvc_ trivial ?_)
              refine oe_ ?_
              refine wk_ ⟨[(4, .bool false)], [], []⟩ (fgk (by kernel_rfl)) ?_
              obtain rfl := Option.some.inj h0
              exact rt_ (ret_ rfl rfl rfl rfl rfl trivial)
            · replace h0 := inb c87 h0
              refine sk_ ?_
              refine wk_ ⟨[(5, .own 2432 0 1 (r4.map (eL 1 eU8))), (15, .ptr 960 0), (19, .own 6528 0 1 (r79.1.map (eL 1 eU8)))], [(960, [.lst 1 (r71.1.held.map eU8), .lst 2 (r71.1.waiting.map eDSector)])], []⟩ (fgk (by kernel_rfl)) ?_
              refine seq_ ?_
              refine reg_ ?_
              refine st (c_ (cp_ ⟨trivial, trivial⟩ rfl trivial) ?_)
              refine st (c_ (cp_ ⟨trivial, trivial⟩ rfl (Nat.le_of_ble_eq_true rfl)) ?_)
              refine st (c_ (clenL (e := eDSector) (l0 := r71.1.waiting) rfl rfl trivial) ?_)
              obtain ⟨c88, h0⟩ := grd h0
              obtain ⟨c89, h0⟩ := grd h0
              refine st (make_ (e := eB) false rfl rfl c88 rfl c89 rfl ?_)
              refine st (mv_ rfl trivial ?_)
              refine oe_ ?_
              refine wk_ ⟨[(5, .own 2432 0 1 (r4.map (eL 1 eU8))), (15, .ptr 960 0), (19, .own 6528 0 1 (r79.1.map (eL 1 eU8))), (23, .own 8512 0 1 ((List.replicate (r71.1.waiting.length : Int).toNat false).map eB))], [(960, [.lst 1 (r71.1.held.map eU8), .lst 2 (r71.1.waiting.map eDSector)])], []⟩ (fgk (by kernel_rfl)) ?_
              refine seq_ ?_
              refine seq_ ?_
              refine reg_ ?_
              refine st (mvc_ trivial ?_)
              refine oe_ ?_
              refine wk_ ⟨[(5, .own 2432 0 1 (r4.map (eL 1 eU8))), (15, .ptr 960 0), (19, .own 6528 0 1 (r79.1.map (eL 1 eU8))), (23, .own 8512 0 1 ((List.replicate (r71.1.waiting.length : Int).toNat false).map eB)), (24, .int .i64 0)], [(960, [.lst 1 (r71.1.held.map eU8), .lst 2 (r71.1.waiting.map eDSector)])], []⟩ (fgk (by kernel_rfl)) ?_
              refine block_ ?_
              obtain ⟨r112, e113, h0⟩ := bnd h0
              refine loop_ (R := (fun S => ∃ p106 : List Bool, p106 = r112 ∧ S = ⟨[(5, .own 2432 0 1 (r4.map (eL 1 eU8))), (15, .ptr 960 0), (19, .own 6528 0 1 (r79.1.map (eL 1 eU8))), (23, .own 8512 0 1 (p106.map eB))], [(960, [.lst 1 (r71.1.held.map eU8), .lst 2 (r71.1.waiting.map eDSector)])], []⟩)) (g206_l1) (fun s S => match s with | (p97, p98) => S = ⟨[(5, .own 2432 0 1 (r4.map (eL 1 eU8))), (15, .ptr 960 0), (19, .own 6528 0 1 (r79.1.map (eL 1 eU8))), (23, .own 8512 0 1 (p97.map eB)), (24, .int .i64 p98)], [(960, [.lst 1 (r71.1.held.map eU8), .lst 2 (r71.1.waiting.map eDSector)])], []⟩) e113 ⟨[(5, .own 2432 0 1 (r4.map (eL 1 eU8))), (15, .ptr 960 0), (19, .own 6528 0 1 (r79.1.map (eL 1 eU8))), (23, .own 8512 0 1 ((List.replicate (r71.1.waiting.length : Int).toNat false).map eB)), (24, .int .i64 0)], [(960, [.lst 1 (r71.1.held.map eU8), .lst 2 (r71.1.waiting.map eDSector)])], []⟩ (fgk (by kernel_rfl)) rfl 2 (fun _ => rfl) ?_ ?_
              · rintro S _ hfg ⟨p106, rfl, rfl⟩
                refine wk_ ⟨[(5, .own 2432 0 1 (r4.map (eL 1 eU8))), (15, .ptr 960 0), (19, .own 6528 0 1 (r79.1.map (eL 1 eU8))), (23, .own 8512 0 1 (p106.map eB))], [(960, [.lst 1 (r71.1.held.map eU8), .lst 2 (r71.1.waiting.map eDSector)])], []⟩ (fglk hfg (by kernel_rfl)) ?_
                refine seq_ ?_
                refine reg_ ?_
                refine st (c_ (v := .agg [.lst 1 (r71.1.held.map eU8), .lst 2 (r71.1.waiting.map eDSector)]) (cp_ ⟨trivial, trivial⟩ rfl (Nat.le_of_ble_eq_true rfl)) ?_)
                refine st (mv_ rfl trivial ?_)
                obtain ⟨r114, e115, h0⟩ := bnd h0
                refine st (call0_ (r := .tup [.agg [.own 0 0 1 (r114.1.held.map eU8), .own 1 0 2 (r114.1.waiting.map eDSector)], .int .i64 r114.2]) true (H242 r71.1 p106 r114 e115) ⟨trivial, trivial, trivial⟩ rfl rfl (fun h => nomatch h) ?_)
                refine sw ⟨[(5, .own 2432 0 1 (r4.map (eL 1 eU8))), (19, .own 6528 0 1 (r79.1.map (eL 1 eU8))), (146, .tup [.agg [.own 9344 0 1 (r114.1.held.map eU8), .own 9345 0 2 (r114.1.waiting.map eDSector)], .int .i64 r114.2])], [], []⟩ (fgk (by kernel_rfl)) (mv_ rfl trivial ?_)
                refine st (c_ (cp_ ⟨trivial, trivial⟩ rfl trivial) ?_)
                refine st (c_ (cp_ ⟨trivial, trivial⟩ rfl trivial) ?_)
                refine st (alloc_ ?_)
                refine st (stp_ rfl rfl trivial rfl rfl rfl (Nat.le_of_ble_eq_true rfl) ?_)
                refine st (mv_ rfl trivial ?_)
                refine oe_ ?_
                refine wk_ ⟨[(5, .own 2432 0 1 (r4.map (eL 1 eU8))), (19, .own 6528 0 1 (r79.1.map (eL 1 eU8))), (25, .ptr 1600 0), (26, .int .i64 r114.2)], [(1600, [.own 9344 0 1 (r114.1.held.map eU8), .own 9345 0 2 (r114.1.waiting.map eDSector)])], []⟩ (fgk (by kernel_rfl)) ?_
                refine seq_ ?_
                refine reg_ ?_
                refine st (c_ (v := .agg [.own 9344 0 1 (r114.1.held.map eU8), .own 9345 0 2 (r114.1.waiting.map eDSector)]) (cp_ ⟨trivial, trivial⟩ rfl (Nat.le_of_ble_eq_true rfl)) ?_)
                obtain ⟨r116, e117, h0⟩ := bnd h0
                refine st (call0_ (r := .tup [.own 0 0 1 (r116.1.map (eL 1 eU8)), .int .i64 r116.2]) true (H220 r114.1 r116 e117) ⟨trivial, trivial⟩ rfl rfl (fun h => nomatch h) ?_)
                refine sw ⟨[(5, .own 2432 0 1 (r4.map (eL 1 eU8))), (19, .own 6528 0 1 (r79.1.map (eL 1 eU8))), (26, .int .i64 r114.2), (151, .tup [.own 9664 0 1 (r116.1.map (eL 1 eU8)), .int .i64 r116.2])], [], []⟩ (fgk (by kernel_rfl)) (mv_ rfl trivial ?_)
                refine st (c_ (cp_ ⟨trivial, trivial⟩ rfl trivial) ?_)
                refine st (c_ (cp_ ⟨trivial, trivial⟩ rfl trivial) ?_)
                refine st (mv_ rfl trivial ?_)
                refine st (mv_ rfl trivial ?_)
                refine oe_ ?_
                refine wk_ ⟨[(5, .own 2432 0 1 (r4.map (eL 1 eU8))), (19, .own 6528 0 1 (r79.1.map (eL 1 eU8))), (26, .int .i64 r114.2), (27, .own 9664 0 1 (r116.1.map (eL 1 eU8))), (28, .int .i64 r116.2)], [], []⟩ (fgk (by kernel_rfl)) ?_
                refine seq_ ?_
                obtain ⟨r118, e119, h0⟩ := bnd h0
                obtain ⟨s120, e121, h0⟩ := bnd h0
                obtain ⟨s122, e123, h0⟩ := bnd h0
                obtain ⟨r124, e125, h0⟩ := bnd h0
                refine draw_ ?_
                refine dtake trivial (mv_ rfl trivial ?_)
                refine ⟨trivial, ?_⟩
                refine dtake trivial (c_ (cp_ ⟨trivial, trivial, trivial⟩ rfl trivial) ?_)
                refine ⟨trivial, ?_⟩
                refine dtake trivial (mv_ rfl trivial ?_)
                refine ⟨trivial, ?_⟩
                refine dtake trivial (pg_ (u := .int .i64 r116.2) rfl (fun hg => (cmv (v := .int .i64 r116.2) rfl trivial)) ?_)
                refine ⟨trivial, ?_⟩
                refine dtake trivial (pg_ (u := .bool (r116.2 == 0)) rfl (fun hg => (cp_ ⟨(fun _ => hg), trivial, trivial⟩ rfl trivial)) ?_)
                refine ⟨trivial, ?_⟩
                refine dtake trivial (pick_ rfl rfl rfl (fun h => eqt h) trivial rfl ?_)
                refine ⟨trivial, ?_⟩
                refine dtake trivial (mv_ rfl trivial ?_)
                refine ⟨trivial, ?_⟩
                refine dtake trivial (pg_ (u := .own 9664 0 1 (r116.1.map (eL 1 eU8))) rfl (fun hg => (cmv (v := .own 9664 0 1 (r116.1.map (eL 1 eU8))) rfl trivial)) ?_)
                refine ⟨trivial, ?_⟩
                refine dtake trivial (pg_ (u := .own 2432 0 1 (r4.map (eL 1 eU8))) rfl (fun hg => (cmv (v := .own 2432 0 1 (r4.map (eL 1 eU8))) rfl trivial)) ?_)
                refine ⟨trivial, ?_⟩
                refine dalt (callg_ (r := .bool r118) rfl false (fun hg => H222 r116.1 r4 r118 (ip hg e119)) ⟨(fun hg => hg), (fun hg => hg), trivial⟩ (fun _ => rfl) (fun _ => rfl) (fun _ => rfl) (fun h => nomatch h) ?_) dstop
                refine dkw ⟨[(5, .own 2432 0 1 (r4.map (eL 1 eU8))), (19, .own 6528 0 1 (r79.1.map (eL 1 eU8))), (160, .bool (bif (r114.2 == 0) then (r116.2 == 0) else false)), (163, .may ((bif (r114.2 == 0) then (r116.2 == 0) else false) == true) (.bool r118))], [], []⟩ (fgk (by kernel_rfl)) ⟨[], trivial, trivial, ?_⟩
                refine dtake trivial (pick_ rfl rfl rfl (fun h => eqt h) trivial rfl ?_)
                refine ⟨trivial, ?_⟩
                refine dtake trivial (mv_ rfl trivial ?_)
                refine ⟨trivial, ?_⟩
                refine dtake trivial (pg_ (u := .own 6528 0 1 (r79.1.map (eL 1 eU8))) rfl (fun hg => (cmv (v := .own 6528 0 1 (r79.1.map (eL 1 eU8))) rfl trivial)) ?_)
                refine ⟨trivial, ?_⟩
                refine dtake trivial (pg_ (u := .int .i64 (r79.1.length : Int)) rfl (fun hg => (clenO (e := (eL 1 eU8)) (l0 := r79.1) rfl rfl (fun _ => hg))) ?_)
                refine ⟨trivial, ?_⟩
                refine dtake trivial (pg_ (u := .own 2432 0 1 (r4.map (eL 1 eU8))) rfl (fun hg => (cmv (v := .own 2432 0 1 (r4.map (eL 1 eU8))) rfl trivial)) ?_)
                refine ⟨trivial, ?_⟩
                refine dtake trivial (pg_ (u := .int .i64 (r4.length : Int)) rfl (fun hg => (clenO (e := (eL 1 eU8)) (l0 := r4) rfl rfl (fun _ => hg))) ?_)
                refine ⟨trivial, ?_⟩
                refine dtake trivial (pg_ (u := .int .i64 (IntKind.i64.wrap ((r4.length : Int) - 1))) rfl (fun hg => (cp_ ⟨(fun _ => hg), trivial, trivial⟩ rfl trivial)) ?_)
                refine ⟨trivial, ?_⟩
                refine dtake trivial (pg_ (u := .bool (decide ((r79.1.length : Int) ≥ (IntKind.i64.wrap ((r4.length : Int) - 1))))) rfl (fun hg => (cp_ ⟨(fun _ => hg), (fun _ => hg), trivial⟩ rfl trivial)) ?_)
                refine ⟨trivial, ?_⟩
                refine dtake trivial (pick_ rfl rfl rfl (fun h => eqt h) trivial rfl ?_)
                refine ⟨trivial, ?_⟩
                refine dtake trivial (mv_ rfl trivial ?_)
                refine ⟨trivial, ?_⟩
                refine dtake trivial (pg_ (u := .own 6528 0 1 (r79.1.map (eL 1 eU8))) rfl (fun hg => (cmv (v := .own 6528 0 1 (r79.1.map (eL 1 eU8))) rfl trivial)) ?_)
                refine ⟨trivial, ?_⟩
                refine dtake trivial (pg_ (u := .own 2432 0 1 (r4.map (eL 1 eU8))) rfl (fun hg => (cmv (v := .own 2432 0 1 (r4.map (eL 1 eU8))) rfl trivial)) ?_)
                refine ⟨trivial, ?_⟩
                refine dtake trivial (pg_ (u := .int .i64 (r4.length : Int)) rfl (fun hg => (clenO (e := (eL 1 eU8)) (l0 := r4) rfl rfl (fun _ => hg))) ?_)
                refine ⟨trivial, ?_⟩
                refine dtake trivial (pg_ (u := .int .i64 (IntKind.i64.wrap ((r4.length : Int) - 1))) rfl (fun hg => (cp_ ⟨(fun _ => hg), trivial, trivial⟩ rfl trivial)) ?_)
                refine ⟨trivial, ?_⟩
                refine dtake trivial (pg_ (u := .own 6528 0 1 (s120.map (eL 1 eU8))) rfl (fun hg => (csliceO (e := (eL 1 eU8)) (y := s120) (off := 0) (a := none) (b := (some (IntKind.i64.wrap ((r4.length : Int) - 1)))) rfl rfl (fun _ => hg) ⟨(fun _ => hg), trivial⟩ rfl rfl (ip hg e121))) ?_)
                refine ⟨trivial, ?_⟩
                refine dtake trivial (pg_ (u := .own 2432 0 1 (r4.map (eL 1 eU8))) rfl (fun hg => (cmv (v := .own 2432 0 1 (r4.map (eL 1 eU8))) rfl trivial)) ?_)
                refine ⟨trivial, ?_⟩
                refine dtake trivial (pg_ (u := .own 2432 0 1 (r4.map (eL 1 eU8))) rfl (fun hg => (cmv (v := .own 2432 0 1 (r4.map (eL 1 eU8))) rfl trivial)) ?_)
                refine ⟨trivial, ?_⟩
                refine dtake trivial (pg_ (u := .int .i64 (r4.length : Int)) rfl (fun hg => (clenO (e := (eL 1 eU8)) (l0 := r4) rfl rfl (fun _ => hg))) ?_)
                refine ⟨trivial, ?_⟩
                refine dtake trivial (pg_ (u := .int .i64 (IntKind.i64.wrap ((r4.length : Int) - 1))) rfl (fun hg => (cp_ ⟨(fun _ => hg), trivial, trivial⟩ rfl trivial)) ?_)
                refine ⟨trivial, ?_⟩
                refine dtake trivial (pg_ (u := .own 2432 0 1 (s122.map (eL 1 eU8))) rfl (fun hg => (csliceO (e := (eL 1 eU8)) (y := s122) (off := 0) (a := none) (b := (some (IntKind.i64.wrap ((r4.length : Int) - 1)))) rfl rfl (fun _ => hg) ⟨(fun _ => hg), trivial⟩ rfl rfl (ip hg e123))) ?_)
                refine ⟨trivial, ?_⟩
                refine dalt (callg_ (r := .bool r124) rfl false (fun hg => H222 s120 s122 r124 (ip hg e125)) ⟨(fun hg => hg), (fun hg => hg), trivial⟩ (fun _ => rfl) (fun _ => rfl) (fun _ => rfl) (fun h => nomatch h) ?_) dstop
                refine dkw ⟨[(173, .bool (bif (bif (bif (r114.2 == 0) then (r116.2 == 0) else false) then r118 else false) then (decide ((r79.1.length : Int) ≥ (IntKind.i64.wrap ((r4.length : Int) - 1)))) else false)), (184, .may ((bif (bif (bif (r114.2 == 0) then (r116.2 == 0) else false) then r118 else false) then (decide ((r79.1.length : Int) ≥ (IntKind.i64.wrap ((r4.length : Int) - 1)))) else false) == true) (.bool r124))], [], []⟩ (fgk (by kernel_rfl)) ⟨[], trivial, trivial, ?_⟩
                refine dtake trivial (pick_ rfl rfl rfl (fun h => eqt h) trivial rfl ?_)
                refine ⟨trivial, ?_⟩
                refine dtake trivial (mv_ rfl trivial ?_)
                refine ⟨trivial, ?_⟩
                refine dfin ?_
                obtain ⟨v126, e127, h0⟩ := bl h0
                refine wk_ ⟨[(4, .bool v126)], [], []⟩ (fgk (by subst e127; kernel_rfl)) ?_
                obtain rfl := Option.some.inj h0
                exact rt_ (ret_ rfl rfl rfl rfl rfl trivial)
              · rintro ⟨p97, p98⟩ o1 _ K1 rfl h1 hx1 hK1 hE1 hR1
                refine seq_ ?_
                refine seq_ ?_
                refine reg_ ?_
                refine st (mv_ rfl trivial ?_)
                refine st (mv_ rfl trivial ?_)
                refine st (c_ (clenO (e := eB) (l0 := p97) rfl rfl trivial) ?_)
                refine st (c_ (cp_ ⟨trivial, trivial, trivial⟩ rfl trivial) ?_)
                refine oe_ ?_
                refine wk_ ⟨[(5, .own 2432 0 1 (r4.map (eL 1 eU8))), (15, .ptr 960 0), (19, .own 6528 0 1 (r79.1.map (eL 1 eU8))), (23, .own 8512 0 1 (p97.map eB)), (24, .int .i64 p98), (137, .bool (decide (p98 < (p97.length : Int))))], [(960, [.lst 1 (r71.1.held.map eU8), .lst 2 (r71.1.waiting.map eDSector)])], []⟩ (fgk (by kernel_rfl)) ?_
                refine ite_ (cb := (decide (p98 < (p97.length : Int)))) rfl (fun c107 => ?_) (fun c107 => ?_)
                · replace h1 := ip c107 h1
                  refine sk_ ?_
                  refine wk_ ⟨[(5, .own 2432 0 1 (r4.map (eL 1 eU8))), (15, .ptr 960 0), (19, .own 6528 0 1 (r79.1.map (eL 1 eU8))), (23, .own 8512 0 1 (p97.map eB)), (24, .int .i64 p98)], [(960, [.lst 1 (r71.1.held.map eU8), .lst 2 (r71.1.waiting.map eDSector)])], []⟩ (fgk (by kernel_rfl)) ?_
                  refine seq_ ?_
                  refine block_ ?_
                  refine reg_ ?_
                  refine st (mv_ rfl trivial ?_)
                  refine st (mv_ rfl trivial ?_)
                  obtain ⟨y108, e109, h1⟩ := bnd h1
                  refine st (c_ (cidxO (e := eB) (y := y108) rfl rfl trivial rfl rfl trivial e109) ?_)
                  obtain ⟨y110, e111, h1⟩ := bnd h1
                  refine st (sto_ (y' := true) rfl rfl trivial rfl rfl rfl rfl e111 (Nat.le_of_ble_eq_true rfl) rfl rfl rfl rfl ?_)
                  refine oe_ ?_
                  refine bn_ ?_
                  refine wk_ ⟨[(5, .own 2432 0 1 (r4.map (eL 1 eU8))), (15, .ptr 960 0), (19, .own 6528 0 1 (r79.1.map (eL 1 eU8))), (23, .own 8512 0 1 ((p97.set p98.toNat true).map eB)), (24, .int .i64 p98)], [(960, [.lst 1 (r71.1.held.map eU8), .lst 2 (r71.1.waiting.map eDSector)])], []⟩ (fg ⟨rfl, rfl, rfl, (congrArg (fun z => some ((.own 8512 0 1 z : V))) overlay_map), rfl, trivial⟩ ⟨rfl, trivial⟩) ?_
                  refine reg_ ?_
                  refine st (mv_ rfl trivial ?_)
                  refine st (c_ (cp_ ⟨trivial, trivial, trivial⟩ rfl trivial) ?_)
                  refine st (mv_ rfl trivial ?_)
                  refine oe_ ?_
                  obtain rfl := Option.some.inj h1
                  exact hK1 _ rfl _ ⟨[(5, .own 2432 0 1 (r4.map (eL 1 eU8))), (15, .ptr 960 0), (19, .own 6528 0 1 (r79.1.map (eL 1 eU8))), (23, .own 8512 0 1 ((p97.set p98.toNat true).map eB)), (24, .int .i64 (IntKind.i64.wrap (p98 + 1)))], [(960, [.lst 1 (r71.1.held.map eU8), .lst 2 (r71.1.waiting.map eDSector)])], []⟩ (fgk (by kernel_rfl)) rfl
                · replace h1 := inb c107 h1
                  obtain rfl := Option.some.inj h1
                  obtain rfl := hx1 _ rfl
                  refine exQ rfl ?_
                  exact hE1 _ ⟨[(5, .own 2432 0 1 (r4.map (eL 1 eU8))), (15, .ptr 960 0), (19, .own 6528 0 1 (r79.1.map (eL 1 eU8))), (23, .own 8512 0 1 (p97.map eB))], [(960, [.lst 1 (r71.1.held.map eU8), .lst 2 (r71.1.waiting.map eDSector)])], []⟩ (fgk (by kernel_rfl)) ⟨_, rfl, rfl⟩
          · refine dtake trivial (c_ (v := .agg [.own 5632 0 1 (r71.1.held.map eU8), .own 5633 0 2 (r71.1.waiting.map eDSector)]) (cp_ ⟨trivial, trivial⟩ rfl (Nat.le_of_ble_eq_true rfl)) ?_)
            refine ⟨trivial, ?_⟩
            refine dtake trivial (mv_ rfl trivial ?_)
            refine ⟨trivial, ?_⟩
            refine dalt (call0_ (r := .own 0 0 1 (r74.map eB)) false (H243 a1 r74 e75) ⟨trivial, trivial⟩ rfl rfl (fun _ => (and_ (fl1 (fun _ => rfl)) rfl)) ?_) ?_
            · refine dkw ⟨[(5, .own 2432 0 1 (r4.map (eL 1 eU8))), (15, .ptr 960 0), (16, .int .i64 r71.2), (94, .agg [.own 5632 0 1 (r71.1.held.map eU8), .own 5633 0 2 (r71.1.waiting.map eDSector)]), (96, .own 6144 0 1 (r74.map eB))], [(960, [.own 5632 0 1 (r71.1.held.map eU8), .own 5633 0 2 (r71.1.waiting.map eDSector)])], []⟩ (fgk (by kernel_rfl)) ⟨[], ⟨⟨.inl trivial, (again1 (cp_ ⟨trivial, trivial⟩ rfl (Nat.le_of_ble_eq_true rfl)) rfl)⟩, trivial⟩, trivial, ?_⟩
              refine dalt (call0_ (r := .tup [.agg [.own 0 0 1 (r76.1.held.map eU8), .own 1 0 2 (r76.1.waiting.map eDSector)], .int .i64 r76.2]) true (H242 r71.1 r74 r76 e77) ⟨trivial, trivial, trivial⟩ rfl rfl (fun h => nomatch h) ?_) ?_
              · refine dkw ⟨[(5, .own 2432 0 1 (r4.map (eL 1 eU8))), (15, .ptr 960 0), (16, .int .i64 r71.2), (97, .tup [.agg [.own 6208 0 1 (r76.1.held.map eU8), .own 6209 0 2 (r76.1.waiting.map eDSector)], .int .i64 r76.2])], [(960, [.lst 1 (r71.1.held.map eU8), .lst 2 (r71.1.waiting.map eDSector)])], []⟩ (fgk (by kernel_rfl)) ⟨[], trivial, trivial, ?_⟩
                refine dtake trivial (mv_ rfl trivial ?_)
                refine ⟨trivial, ?_⟩
                refine dtake trivial (c_ (cp_ ⟨trivial, trivial⟩ rfl trivial) ?_)
                refine ⟨trivial, ?_⟩
                refine dtake trivial (c_ (cp_ ⟨trivial, trivial⟩ rfl trivial) ?_)
                refine ⟨trivial, ?_⟩
                refine dalt (alloc_ ?_) dstop
                refine dk0 ⟨[], ⟨⟨.inl trivial, (again1 (cp_ ⟨trivial, trivial⟩ rfl trivial) rfl)⟩, ⟨.inl trivial, (again1 (cp_ ⟨trivial, trivial⟩ rfl trivial) rfl)⟩, ⟨.inl trivial, (again1 (cmv (v := .tup [.agg [.own 6208 0 1 (r76.1.held.map eU8), .own 6209 0 2 (r76.1.waiting.map eDSector)], .int .i64 r76.2]) rfl trivial) rfl)⟩, trivial⟩, trivial, ?_⟩
                refine dalt (stp_ rfl rfl trivial rfl rfl rfl (Nat.le_of_ble_eq_true rfl) ?_) dstop
                refine dk0 ⟨[], ⟨⟨.inl trivial, (again1 (cp_ ⟨trivial, trivial⟩ rfl trivial) rfl)⟩, trivial⟩, trivial, ?_⟩
                refine dtake trivial (mv_ rfl trivial ?_)
                refine ⟨trivial, ?_⟩
                refine dfin ?_
                exact J78 _ ⟨[(5, .own 2432 0 1 (r4.map (eL 1 eU8))), (15, .ptr 960 0), (16, .int .i64 r71.2), (17, .ptr 1088 0), (18, .int .i64 r76.2)], [(960, [.lst 1 (r71.1.held.map eU8), .lst 2 (r71.1.waiting.map eDSector)]), (1088, [.own 6208 0 1 (r76.1.held.map eU8), .own 6209 0 2 (r76.1.waiting.map eDSector)])], []⟩ (fgk (by kernel_rfl)) rfl
              · refine dalt (alloc_ ?_) dstop
                refine dk0 ⟨[], ⟨⟨.inl trivial, (again1 (cp_ ⟨trivial, trivial⟩ rfl (Nat.le_of_ble_eq_true rfl)) rfl)⟩, trivial⟩, trivial, ?_⟩
                refine dalt (call0_ (r := .tup [.agg [.own 0 0 1 (r76.1.held.map eU8), .own 1 0 2 (r76.1.waiting.map eDSector)], .int .i64 r76.2]) true (H242 r71.1 r74 r76 e77) ⟨trivial, trivial, trivial⟩ rfl rfl (fun h => nomatch h) ?_) dstop
                refine dkw ⟨[(5, .own 2432 0 1 (r4.map (eL 1 eU8))), (15, .ptr 960 0), (16, .int .i64 r71.2), (17, .ptr 1088 0), (97, .tup [.agg [.own 6208 0 1 (r76.1.held.map eU8), .own 6209 0 2 (r76.1.waiting.map eDSector)], .int .i64 r76.2])], [(960, [.lst 1 (r71.1.held.map eU8), .lst 2 (r71.1.waiting.map eDSector)]), (1088, [.own 1089 0 1 (([] : List UInt8).map eU8), .own 1090 0 2 (([] : List DSector).map eDSector)])], []⟩ (fgk (by kernel_rfl)) ⟨[], trivial, trivial, ?_⟩
                refine dtake trivial (mv_ rfl trivial ?_)
                refine ⟨trivial, ?_⟩
                refine dtake trivial (c_ (cp_ ⟨trivial, trivial⟩ rfl trivial) ?_)
                refine ⟨trivial, ?_⟩
                refine dtake trivial (c_ (cp_ ⟨trivial, trivial⟩ rfl trivial) ?_)
                refine ⟨trivial, ?_⟩
                refine dalt (stp_ rfl rfl trivial rfl rfl rfl (Nat.le_of_ble_eq_true rfl) ?_) dstop
                refine dk0 ⟨[], ⟨⟨.inl trivial, (again1 (cp_ ⟨trivial, trivial⟩ rfl trivial) rfl)⟩, trivial⟩, trivial, ?_⟩
                refine dtake trivial (mv_ rfl trivial ?_)
                refine ⟨trivial, ?_⟩
                refine dfin ?_
                exact J78 _ ⟨[(5, .own 2432 0 1 (r4.map (eL 1 eU8))), (15, .ptr 960 0), (16, .int .i64 r71.2), (17, .ptr 1088 0), (18, .int .i64 r76.2)], [(960, [.lst 1 (r71.1.held.map eU8), .lst 2 (r71.1.waiting.map eDSector)]), (1088, [.own 6208 0 1 (r76.1.held.map eU8), .own 6209 0 2 (r76.1.waiting.map eDSector)])], []⟩ (fgk (by kernel_rfl)) rfl
            · refine dalt (alloc_ ?_) dstop
              refine dk0 ⟨[], ⟨⟨.inl trivial, (again1 (cmv (v := .lst 1 (a1.map eU8)) rfl trivial) rfl)⟩, ⟨.inl trivial, (again1 (cp_ ⟨trivial, trivial⟩ rfl (Nat.le_of_ble_eq_true rfl)) rfl)⟩, trivial⟩, trivial, ?_⟩
              refine dalt (call0_ (r := .own 0 0 1 (r74.map eB)) false (H243 a1 r74 e75) ⟨trivial, trivial⟩ rfl rfl (fun _ => (and_ (fl1 (fun _ => rfl)) rfl)) ?_) dstop
              refine dkw ⟨[(5, .own 2432 0 1 (r4.map (eL 1 eU8))), (15, .ptr 960 0), (16, .int .i64 r71.2), (17, .ptr 1088 0), (94, .agg [.own 5632 0 1 (r71.1.held.map eU8), .own 5633 0 2 (r71.1.waiting.map eDSector)]), (96, .own 6144 0 1 (r74.map eB))], [(960, [.own 5632 0 1 (r71.1.held.map eU8), .own 5633 0 2 (r71.1.waiting.map eDSector)]), (1088, [.own 1089 0 1 (([] : List UInt8).map eU8), .own 1090 0 2 (([] : List DSector).map eDSector)])], []⟩ (fgk (by kernel_rfl)) ⟨[], ⟨⟨.inl trivial, (again1 (cp_ ⟨trivial, trivial⟩ rfl (Nat.le_of_ble_eq_true rfl)) rfl)⟩, trivial⟩, trivial, ?_⟩
              refine dalt (call0_ (r := .tup [.agg [.own 0 0 1 (r76.1.held.map eU8), .own 1 0 2 (r76.1.waiting.map eDSector)], .int .i64 r76.2]) true (H242 r71.1 r74 r76 e77) ⟨trivial, trivial, trivial⟩ rfl rfl (fun h => nomatch h) ?_) dstop
              refine dkw ⟨[(5, .own 2432 0 1 (r4.map (eL 1 eU8))), (15, .ptr 960 0), (16, .int .i64 r71.2), (17, .ptr 1088 0), (97, .tup [.agg [.own 6208 0 1 (r76.1.held.map eU8), .own 6209 0 2 (r76.1.waiting.map eDSector)], .int .i64 r76.2])], [(960, [.lst 1 (r71.1.held.map eU8), .lst 2 (r71.1.waiting.map eDSector)]), (1088, [.own 1089 0 1 (([] : List UInt8).map eU8), .own 1090 0 2 (([] : List DSector).map eDSector)])], []⟩ (fgk (by kernel_rfl)) ⟨[], trivial, trivial, ?_⟩
              refine dtake trivial (mv_ rfl trivial ?_)
              refine ⟨trivial, ?_⟩
              refine dtake trivial (c_ (cp_ ⟨trivial, trivial⟩ rfl trivial) ?_)
              refine ⟨trivial, ?_⟩
              refine dtake trivial (c_ (cp_ ⟨trivial, trivial⟩ rfl trivial) ?_)
              refine ⟨trivial, ?_⟩
              refine dalt (stp_ rfl rfl trivial rfl rfl rfl (Nat.le_of_ble_eq_true rfl) ?_) dstop
              refine dk0 ⟨[], ⟨⟨.inl trivial, (again1 (cp_ ⟨trivial, trivial⟩ rfl trivial) rfl)⟩, trivial⟩, trivial, ?_⟩
              refine dtake trivial (mv_ rfl trivial ?_)
              refine ⟨trivial, ?_⟩
              refine dfin ?_
              exact J78 _ ⟨[(5, .own 2432 0 1 (r4.map (eL 1 eU8))), (15, .ptr 960 0), (16, .int .i64 r71.2), (17, .ptr 1088 0), (18, .int .i64 r76.2)], [(960, [.lst 1 (r71.1.held.map eU8), .lst 2 (r71.1.waiting.map eDSector)]), (1088, [.own 6208 0 1 (r76.1.held.map eU8), .own 6209 0 2 (r76.1.waiting.map eDSector)])], []⟩ (fgk (by kernel_rfl)) rfl
    · rintro ⟨p21, p22, p23, p24⟩ o1 _ K1 rfl h1 hx1 hK1 hE1 hR1
      refine seq_ ?_
      refine seq_ ?_
      refine reg_ ?_
      refine st (mv_ rfl trivial ?_)
      refine st (c_ (cp_ ⟨trivial, trivial, trivial⟩ rfl trivial) ?_)
      refine st (mv_ rfl trivial ?_)
      refine st (c_ (clenO (e := (eL 1 eU8)) (l0 := r4) rfl rfl trivial) ?_)
      refine st (c_ (cp_ ⟨trivial, trivial, trivial⟩ rfl trivial) ?_)
      refine oe_ ?_
      refine wk_ ⟨[(1, .lst 1 (a1.map eU8)), (5, .own 2432 0 1 (r4.map (eL 1 eU8))), (6, .ptr 384 0), (7, .int .i64 p21), (8, .int .i64 p22), (44, .bool (decide ((IntKind.i64.wrap (p22 + 1)) < (r4.length : Int))))], [(384, [.own 2497 0 1 (p23.map eU8), .own 2498 0 2 (p24.map eDSector)])], []⟩ (fgk (by kernel_rfl)) ?_
      refine ite_ (cb := (decide ((IntKind.i64.wrap (p22 + 1)) < (r4.length : Int)))) rfl (fun c47 => ?_) (fun c47 => ?_)
      · replace h1 := ip c47 h1
        refine sk_ ?_
        refine wk_ ⟨[(1, .lst 1 (a1.map eU8)), (5, .own 2432 0 1 (r4.map (eL 1 eU8))), (6, .ptr 384 0), (7, .int .i64 p21), (8, .int .i64 p22)], [(384, [.own 2497 0 1 (p23.map eU8), .own 2498 0 2 (p24.map eDSector)])], []⟩ (fgk (by kernel_rfl)) ?_
        refine seq_ ?_
        refine block_ ?_
        refine seq_ ?_
        obtain ⟨y48, e49, h1⟩ := bnd h1
        obtain ⟨y50, e51, h1⟩ := bnd h1
        obtain ⟨r52, e53, h1⟩ := bnd h1
        refine drawJ (fun S => S = ⟨[(1, .lst 1 (a1.map eU8)), (5, .own 2432 0 1 (r4.map (eL 1 eU8))), (6, .ptr 384 0), (7, .int .i64 p21), (8, .int .i64 p22), (9, .ptr 576 0), (10, .int .i64 r52.2)], [(384, [.lst 1 (p23.map eU8), .lst 2 (p24.map eDSector)]), (576, [.own 3392 0 1 (r52.1.held.map eU8), .own 3393 0 2 (r52.1.waiting.map eDSector)])], []⟩) ?_ (fun J54 => ?_)
        · rintro _ rfl
          refine seq_ ?_
          refine reg_ ?_
          refine st (mv_ rfl trivial ?_)
          refine st (mv_ rfl trivial ?_)
          obtain ⟨y55, e56, h1⟩ := bnd h1
          refine st (c_ (cidxO (e := (eL 1 eU8)) (y := y55) rfl rfl trivial rfl rfl trivial e56) ?_)
          obtain ⟨y57, e58, h1⟩ := bnd h1
          refine st (c_ (cloadO (e := (eL 1 eU8)) (y := y57) (v := .lst 1 (y57.map eU8)) rfl rfl trivial rfl rfl e58 rfl (Nat.le_of_ble_eq_true rfl) rfl) ?_)
          obtain ⟨r59, e60, h1⟩ := bnd h1
          refine st (call0_ (r := .tup [.own 0 0 1 (r59.1.map eU8), .int .i64 r59.2]) false (H241 y57 r59 e60) ⟨trivial, trivial⟩ rfl rfl (fun _ => (and_ (fl1 (fun _ => rfl)) (and_ rfl rfl))) ?_)
          refine st (mv_ rfl trivial ?_)
          refine st (c_ (cp_ ⟨trivial, trivial⟩ rfl trivial) ?_)
          refine st (c_ (cp_ ⟨trivial, trivial⟩ rfl trivial) ?_)
          refine st (mv_ rfl trivial ?_)
          refine st (mv_ rfl trivial ?_)
          refine oe_ ?_
          refine wk_ ⟨[(1, .lst 1 (a1.map eU8)), (5, .own 2432 0 1 (r4.map (eL 1 eU8))), (6, .ptr 384 0), (7, .int .i64 p21), (8, .int .i64 p22), (9, .ptr 576 0), (10, .int .i64 r52.2), (11, .own 3904 0 1 (r59.1.map eU8))], [(384, [.lst 1 (p23.map eU8), .lst 2 (p24.map eDSector)]), (576, [.own 3392 0 1 (r52.1.held.map eU8), .own 3393 0 2 (r52.1.waiting.map eDSector)])], []⟩ (fgk (by kernel_rfl)) ?_
          refine seq_ ?_
          refine seq_ ?_
          refine reg_ ?_
          refine st (mv_ rfl trivial ?_)
          refine st (c_ (cp_ ⟨trivial, trivial, trivial⟩ rfl trivial) ?_)
          refine oe_ ?_
          refine wk_ ⟨[(1, .lst 1 (a1.map eU8)), (5, .own 2432 0 1 (r4.map (eL 1 eU8))), (6, .ptr 384 0), (7, .int .i64 p21), (8, .int .i64 p22), (9, .ptr 576 0), (11, .own 3904 0 1 (r59.1.map eU8)), (65, .bool (r52.2 != 0))], [(384, [.lst 1 (p23.map eU8), .lst 2 (p24.map eDSector)]), (576, [.own 3392 0 1 (r52.1.held.map eU8), .own 3393 0 2 (r52.1.waiting.map eDSector)])], []⟩ (fgk (by kernel_rfl)) ?_
          refine ite_ (cb := (r52.2 != 0)) rfl (fun c61 => ?_) (fun c61 => ?_)
          · replace h1 := ip c61 h1
            refine seq_ ?_
            refine reg_ ?_
            refine st (mvc_ trivial ?_)
            refine oe_ ?_
            refine wk_ ⟨[(4, .bool true)], [], []⟩ (fgk (by kernel_rfl)) ?_
            obtain rfl := Option.some.inj h1
            obtain rfl := hx1 _ rfl
            obtain rfl := Option.some.inj h0
            exact rt_ (hR1 _ (ret_ rfl rfl rfl rfl rfl trivial))
          · replace h1 := inb c61 h1
            refine sk_ ?_
            refine wk_ ⟨[(1, .lst 1 (a1.map eU8)), (5, .own 2432 0 1 (r4.map (eL 1 eU8))), (6, .ptr 384 0), (7, .int .i64 p21), (8, .int .i64 p22), (9, .ptr 576 0), (11, .own 3904 0 1 (r59.1.map eU8))], [(384, [.lst 1 (p23.map eU8), .lst 2 (p24.map eDSector)]), (576, [.own 3392 0 1 (r52.1.held.map eU8), .own 3393 0 2 (r52.1.waiting.map eDSector)])], []⟩ (fgk (by kernel_rfl)) ?_
            refine seq_ ?_
            refine reg_ ?_
            refine st (c_ (v := .agg [.own 3392 0 1 (r52.1.held.map eU8), .own 3393 0 2 (r52.1.waiting.map eDSector)]) (cp_ ⟨trivial, trivial⟩ rfl (Nat.le_of_ble_eq_true rfl)) ?_)
            refine st (stp_ rfl rfl trivial rfl rfl rfl (Nat.le_of_ble_eq_true rfl) ?_)
            refine oe_ ?_
            refine wk_ ⟨[(1, .lst 1 (a1.map eU8)), (5, .own 2432 0 1 (r4.map (eL 1 eU8))), (6, .ptr 384 0), (7, .int .i64 p21), (8, .int .i64 p22), (11, .own 3904 0 1 (r59.1.map eU8))], [(384, [.own 3392 0 1 (r52.1.held.map eU8), .own 3393 0 2 (r52.1.waiting.map eDSector)])], []⟩ (fgk (by kernel_rfl)) ?_
            refine reg_ ?_
            refine st (mv_ rfl trivial ?_)
            refine st (mv_ rfl trivial ?_)
            refine st (c_ (clenO (e := eU8) (l0 := r59.1) rfl rfl trivial) ?_)
            refine st (c_ (cp_ ⟨trivial, trivial, trivial⟩ rfl trivial) ?_)
            refine st (mv_ rfl trivial ?_)
            refine oe_ ?_
            refine bn_ ?_
            refine wk_ ⟨[(1, .lst 1 (a1.map eU8)), (5, .own 2432 0 1 (r4.map (eL 1 eU8))), (6, .ptr 384 0), (7, .int .i64 (IntKind.i64.wrap (p21 + (r59.1.length : Int)))), (8, .int .i64 p22)], [(384, [.own 3392 0 1 (r52.1.held.map eU8), .own 3393 0 2 (r52.1.waiting.map eDSector)])], []⟩ (fgk (by kernel_rfl)) ?_
            refine reg_ ?_
            refine st (mv_ rfl trivial ?_)
            refine st (c_ (cp_ ⟨trivial, trivial, trivial⟩ rfl trivial) ?_)
            refine st (mv_ rfl trivial ?_)
            refine oe_ ?_
            obtain rfl := Option.some.inj h1
            exact hK1 _ rfl _ ⟨[(1, .lst 1 (a1.map eU8)), (5, .own 2432 0 1 (r4.map (eL 1 eU8))), (6, .ptr 384 0), (7, .int .i64 (IntKind.i64.wrap (p21 + (r59.1.length : Int)))), (8, .int .i64 (IntKind.i64.wrap (p22 + 1)))], [(384, [.own 2497 0 1 (r52.1.held.map eU8), .own 2498 0 2 (r52.1.waiting.map eDSector)])], []⟩ (fgsk [] [(3392, 2497), (3393, 2498)] rfl (by kernel_rfl)) rfl
        · refine dtake trivial (c_ (v := .agg [.own 2497 0 1 (p23.map eU8), .own 2498 0 2 (p24.map eDSector)]) (cp_ ⟨trivial, trivial⟩ rfl (Nat.le_of_ble_eq_true rfl)) ?_)
          refine ⟨trivial, ?_⟩
          refine dtake trivial (mv_ rfl trivial ?_)
          refine ⟨trivial, ?_⟩
          refine dtake trivial (mv_ rfl trivial ?_)
          refine ⟨trivial, ?_⟩
          refine dtake trivial (c_ (cidxO (e := (eL 1 eU8)) (y := y48) rfl rfl trivial rfl rfl trivial e49) ?_)
          refine ⟨trivial, ?_⟩
          refine dtakeO (c_ (cloadO (e := (eL 1 eU8)) (y := y50) (v := .lst 1 (y50.map eU8)) rfl rfl trivial rfl rfl e51 rfl (Nat.le_of_ble_eq_true rfl) rfl) ?_)
          refine ⟨⟨(again1 (cloadO (e := (eL 1 eU8)) (y := y50) (v := .lst 1 (y50.map eU8)) rfl rfl trivial rfl rfl e51 rfl (Nat.le_of_ble_eq_true rfl) rfl) rfl), trivial⟩, ?_⟩
          refine dalt (call0_ (r := .tup [.agg [.own 0 0 1 (r52.1.held.map eU8), .own 1 0 2 (r52.1.waiting.map eDSector)], .int .i64 r52.2]) true (H240 (DDevice.mk p23 p24) y50 r52 e53) ⟨trivial, trivial, trivial⟩ rfl rfl (fun h => nomatch h) ?_) ?_
          · refine dkw ⟨[(1, .lst 1 (a1.map eU8)), (5, .own 2432 0 1 (r4.map (eL 1 eU8))), (6, .ptr 384 0), (7, .int .i64 p21), (8, .int .i64 p22), (53, .tup [.agg [.own 3392 0 1 (r52.1.held.map eU8), .own 3393 0 2 (r52.1.waiting.map eDSector)], .int .i64 r52.2])], [(384, [.lst 1 (p23.map eU8), .lst 2 (p24.map eDSector)])], []⟩ (fgk (by kernel_rfl)) ⟨[], trivial, trivial, ?_⟩
            refine dtake trivial (mv_ rfl trivial ?_)
            refine ⟨trivial, ?_⟩
            refine dtake trivial (c_ (cp_ ⟨trivial, trivial⟩ rfl trivial) ?_)
            refine ⟨trivial, ?_⟩
            refine dtake trivial (c_ (cp_ ⟨trivial, trivial⟩ rfl trivial) ?_)
            refine ⟨trivial, ?_⟩
            refine dalt (alloc_ ?_) dstop
            refine dk0 ⟨[], ⟨⟨.inl trivial, (again1 (cp_ ⟨trivial, trivial⟩ rfl trivial) rfl)⟩, ⟨.inl trivial, (again1 (cp_ ⟨trivial, trivial⟩ rfl trivial) rfl)⟩, ⟨.inl trivial, (again1 (cmv (v := .tup [.agg [.own 3392 0 1 (r52.1.held.map eU8), .own 3393 0 2 (r52.1.waiting.map eDSector)], .int .i64 r52.2]) rfl trivial) rfl)⟩, trivial⟩, trivial, ?_⟩
            refine dalt (stp_ rfl rfl trivial rfl rfl rfl (Nat.le_of_ble_eq_true rfl) ?_) dstop
            refine dk0 ⟨[], ⟨⟨.inl trivial, (again1 (cp_ ⟨trivial, trivial⟩ rfl trivial) rfl)⟩, trivial⟩, trivial, ?_⟩
            refine dtake trivial (mv_ rfl trivial ?_)
            refine ⟨trivial, ?_⟩
            refine dfin ?_
            exact J54 _ ⟨[(1, .lst 1 (a1.map eU8)), (5, .own 2432 0 1 (r4.map (eL 1 eU8))), (6, .ptr 384 0), (7, .int .i64 p21), (8, .int .i64 p22), (9, .ptr 576 0), (10, .int .i64 r52.2)], [(384, [.lst 1 (p23.map eU8), .lst 2 (p24.map eDSector)]), (576, [.own 3392 0 1 (r52.1.held.map eU8), .own 3393 0 2 (r52.1.waiting.map eDSector)])], []⟩ (fgk (by kernel_rfl)) rfl
          · refine dalt (alloc_ ?_) dstop
            refine dk0 ⟨[⟨some 52, .p (.load (.t 51) 1 false), none⟩], ⟨⟨.inr (.head _), (again1 (cloadO (e := (eL 1 eU8)) (y := y50) (v := .lst 1 (y50.map eU8)) rfl rfl trivial rfl rfl e51 rfl (Nat.le_of_ble_eq_true rfl) rfl) rfl)⟩, ⟨.inl trivial, (again1 (cidxO (e := (eL 1 eU8)) (y := y48) rfl rfl trivial rfl rfl trivial e49) rfl)⟩, ⟨.inl trivial, (again1 (cmv (v := .int .i64 p22) rfl trivial) rfl)⟩, ⟨.inl trivial, (again1 (cmv (v := .own 2432 0 1 (r4.map (eL 1 eU8))) rfl trivial) rfl)⟩, ⟨.inl trivial, (again1 (cp_ ⟨trivial, trivial⟩ rfl (Nat.le_of_ble_eq_true rfl)) rfl)⟩, trivial⟩, ⟨(again1 (cloadO (e := (eL 1 eU8)) (y := y50) (v := .lst 1 (y50.map eU8)) rfl rfl trivial rfl rfl e51 rfl (Nat.le_of_ble_eq_true rfl) rfl) rfl), trivial⟩, ?_⟩
            refine dalt (call0_ (r := .tup [.agg [.own 0 0 1 (r52.1.held.map eU8), .own 1 0 2 (r52.1.waiting.map eDSector)], .int .i64 r52.2]) true (H240 (DDevice.mk p23 p24) y50 r52 e53) ⟨trivial, trivial, trivial⟩ rfl rfl (fun h => nomatch h) ?_) dstop
            refine dkw ⟨[(1, .lst 1 (a1.map eU8)), (5, .own 2432 0 1 (r4.map (eL 1 eU8))), (6, .ptr 384 0), (7, .int .i64 p21), (8, .int .i64 p22), (9, .ptr 576 0), (53, .tup [.agg [.own 3392 0 1 (r52.1.held.map eU8), .own 3393 0 2 (r52.1.waiting.map eDSector)], .int .i64 r52.2])], [(384, [.lst 1 (p23.map eU8), .lst 2 (p24.map eDSector)]), (576, [.own 577 0 1 (([] : List UInt8).map eU8), .own 578 0 2 (([] : List DSector).map eDSector)])], []⟩ (fgk (by kernel_rfl)) ⟨[], trivial, trivial, ?_⟩
            refine dtake trivial (mv_ rfl trivial ?_)
            refine ⟨trivial, ?_⟩
            refine dtake trivial (c_ (cp_ ⟨trivial, trivial⟩ rfl trivial) ?_)
            refine ⟨trivial, ?_⟩
            refine dtake trivial (c_ (cp_ ⟨trivial, trivial⟩ rfl trivial) ?_)
            refine ⟨trivial, ?_⟩
            refine dalt (stp_ rfl rfl trivial rfl rfl rfl (Nat.le_of_ble_eq_true rfl) ?_) dstop
            refine dk0 ⟨[], ⟨⟨.inl trivial, (again1 (cp_ ⟨trivial, trivial⟩ rfl trivial) rfl)⟩, trivial⟩, trivial, ?_⟩
            refine dtake trivial (mv_ rfl trivial ?_)
            refine ⟨trivial, ?_⟩
            refine dfin ?_
            exact J54 _ ⟨[(1, .lst 1 (a1.map eU8)), (5, .own 2432 0 1 (r4.map (eL 1 eU8))), (6, .ptr 384 0), (7, .int .i64 p21), (8, .int .i64 p22), (9, .ptr 576 0), (10, .int .i64 r52.2)], [(384, [.lst 1 (p23.map eU8), .lst 2 (p24.map eDSector)]), (576, [.own 3392 0 1 (r52.1.held.map eU8), .own 3393 0 2 (r52.1.waiting.map eDSector)])], []⟩ (fgk (by kernel_rfl)) rfl
      · replace h1 := inb c47 h1
        obtain rfl := Option.some.inj h1
        obtain rfl := hx1 _ rfl
        refine exQ rfl ?_
        exact hE1 _ ⟨[(1, .lst 1 (a1.map eU8)), (5, .own 2432 0 1 (r4.map (eL 1 eU8))), (6, .ptr 384 0), (7, .int .i64 p21)], [(384, [.own 2497 0 1 (p23.map eU8), .own 2498 0 2 (p24.map eDSector)])], []⟩ (fgk (by kernel_rfl)) ⟨_, _, _, rfl, rfl⟩
end Go.Ev
