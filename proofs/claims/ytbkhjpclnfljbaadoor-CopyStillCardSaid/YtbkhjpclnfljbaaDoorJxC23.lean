/- The plain machine's functions of this seat, as a program of mine printed them (Prt.lean), and that they are what compiling gives. -/
import Derived.Test.YtbkhjpclnfljbaaDoorJxKRun
import Derived.Test.YtbkhjpclnfljbaaDoorJxW3
import Derived.Test.YtbkhjpclnfljbaaDoorChecked
namespace Go.Proofs.YtbkhjpclnfljbaaDoor
open Go Go.Jx
def jxX : Exts := exts [9,9,0,0,0,0,0,0,0,0,0,0,0,0,0,0,0,0,0,0,0,0,0,0,0,0,0,0,0,0,0,0,0,0,0,0,0,0,0,0,0,0,0,0,0,0,0,0,0,0,0,0,0,0,0,0,0,0,0,1,0,0,0,0,0,0,0,0,0,0,0,0,0,0,9,9,0,2]
def m3_r0 : List MI := [
  ⟨(some 10), .move (.k (.sc (.bool false))), none⟩]
def m3_r1 : List MI := [
  ⟨(some 23), .move (.t 0), none⟩,
  ⟨(some 24), .call 9 [(.t 23)], none⟩,
  ⟨(some 25), .move (.t 24), none⟩,
  ⟨(some 26), .move (.t 4), (some (25, false))⟩,
  ⟨(some 27), .lenStr (.t 26), (some (25, false))⟩,
  ⟨(some 28), .bin .lss .no (.t 27) (.k (.sc (.int .i64 1))), (some (25, false))⟩,
  ⟨(some 29), .pick (.t 25) (.k (.sc (.bool true))) (.t 28), none⟩,
  ⟨(some 30), .move (.t 29), none⟩,
  ⟨(some 31), .move (.t 4), (some (30, false))⟩,
  ⟨(some 32), .lenStr (.t 31), (some (30, false))⟩,
  ⟨(some 33), .bin .gtr .no (.t 32) (.k (.sc (.int .i64 32))), (some (30, false))⟩,
  ⟨(some 34), .pick (.t 30) (.k (.sc (.bool true))) (.t 33), none⟩]
def m3_r2 : List MI := [
  ⟨(some 35), .call 10 [], none⟩,
  ⟨(some 10), .move (.t 35), none⟩]
def m3_r3 : List MI := [
  ⟨(some 11), .move (.k (.sc (.int .i64 0))), none⟩]
def m3_r5 : List MI := [
  ⟨(some 36), .move (.t 11), none⟩,
  ⟨(some 37), .move (.t 0), none⟩,
  ⟨(some 38), .lenSlice (.t 37), none⟩,
  ⟨(some 39), .bin .lss .no (.t 36) (.t 38), none⟩]
def m3_r6 : List MI := [
  ⟨(some 42), .move (.t 0), none⟩,
  ⟨(some 43), .move (.t 11), none⟩,
  ⟨(some 44), .indexSlice 3 (.t 42) (.t 43), none⟩,
  ⟨(some 45), .fieldAddr 1 (.t 44), none⟩,
  ⟨(some 46), .load none (.t 45), none⟩]
def m3_r7 : List MI := [
  ⟨(some 47), .call 10 [], none⟩,
  ⟨(some 10), .move (.t 47), none⟩]
def m3_r8 : List MI := [
  ⟨(some 40), .move (.t 11), none⟩,
  ⟨(some 41), .bin .add .no (.t 40) (.k (.sc (.int .i64 1))), none⟩,
  ⟨(some 11), .move (.t 41), none⟩]
def m3_l4 : MCode := (.seq (.seq (.ops m3_r5) (.cond (.t 39) .skip (.exit 0))) (.seq (.block 1 (.seq (.ops m3_r6) (.cond (.t 46) (.seq (.ops m3_r7) .ret) .skip))) (.ops m3_r8)))
def m3_r9 : List MI := [
  ⟨(some 49), .move (.t 0), none⟩,
  ⟨(some 50), .move (.t 1), none⟩,
  ⟨(some 51), .call 11 [(.t 49), (.t 50)], none⟩,
  ⟨(some 48), .move (.t 51), none⟩,
  ⟨(some 52), .extract (.t 48) 0, none⟩,
  ⟨(some 53), .extract (.t 48) 1, none⟩,
  ⟨(some 12), .move (.t 52), none⟩,
  ⟨(some 13), .move (.t 53), none⟩]
def m3_r10 : List MI := [
  ⟨(some 54), .move (.t 13), none⟩,
  ⟨(some 55), .bin .neq .no (.t 54) (.k (.sc (.int .i64 0))), none⟩]
def m3_r11 : List MI := [
  ⟨(some 56), .move (.t 12), none⟩,
  ⟨(some 57), .bin .eql .ptr (.t 56) (.k (.sc (.nilp))), none⟩,
  ⟨(some 58), .move (.t 57), none⟩,
  ⟨(some 59), .call 10 [], (some (58, true))⟩,
  ⟨(some 60), .pick (.t 58) (.t 59) (.k (.sc (.bool false))), none⟩,
  ⟨(some 10), .move (.t 60), none⟩]
def m3_r12 : List MI := [
  ⟨(some 61), .move (.t 12), none⟩,
  ⟨(some 62), .bin .eql .ptr (.t 61) (.k (.sc (.nilp))), none⟩]
def m3_r13 : List MI := [
  ⟨(some 10), .move (.k (.sc (.bool false))), none⟩]
def m3_r14 : List MI := [
  ⟨(some 63), .move (.t 12), none⟩,
  ⟨(some 64), .move (.t 2), none⟩,
  ⟨(some 65), .move (.t 3), none⟩,
  ⟨(some 66), .call 12 [(.t 63), (.t 64), (.t 65)], none⟩]
def m3_r15 : List MI := [
  ⟨(some 67), .move (.t 12), none⟩,
  ⟨(some 68), .move (.t 4), none⟩,
  ⟨(some 69), .call 13 [(.t 67), (.t 68), (.k (.sc (.bool false)))], none⟩,
  ⟨(some 70), .bin .neq .no (.t 69) (.k (.sc (.int .i64 0))), none⟩]
def m3_r16 : List MI := [
  ⟨(some 72), .move (.t 12), none⟩,
  ⟨(some 73), .call 14 [(.t 72)], none⟩,
  ⟨(some 71), .move (.t 73), none⟩,
  ⟨(some 74), .extract (.t 71) 0, none⟩,
  ⟨(some 75), .extract (.t 71) 1, none⟩,
  ⟨(some 14), .move (.t 74), none⟩,
  ⟨(some 15), .move (.t 75), none⟩]
def m3_r17 : List MI := [
  ⟨(some 76), .move (.t 12), none⟩,
  ⟨(some 77), .move (.t 2), none⟩,
  ⟨(some 78), .move (.t 3), none⟩,
  ⟨(some 79), .call 12 [(.t 76), (.t 77), (.t 78)], none⟩]
def m3_r18 : List MI := [
  ⟨(some 81), .move (.t 12), none⟩,
  ⟨(some 82), .call 14 [(.t 81)], none⟩,
  ⟨(some 80), .move (.t 82), none⟩,
  ⟨(some 83), .extract (.t 80) 0, none⟩,
  ⟨(some 84), .extract (.t 80) 1, none⟩,
  ⟨(some 16), .move (.t 83), none⟩,
  ⟨(some 17), .move (.t 84), none⟩]
def m3_r19 : List MI := [
  ⟨(some 85), .move (.t 14), none⟩,
  ⟨(some 86), .move (.t 16), none⟩,
  ⟨(some 87), .bin .eql .no (.t 85) (.t 86), none⟩,
  ⟨(some 88), .move (.t 87), none⟩,
  ⟨(some 89), .move (.t 15), (some (88, true))⟩,
  ⟨(some 90), .move (.t 17), (some (88, true))⟩,
  ⟨(some 91), .bin .eql .no (.t 89) (.t 90), (some (88, true))⟩,
  ⟨(some 92), .pick (.t 88) (.t 91) (.k (.sc (.bool false))), none⟩,
  ⟨(some 93), .move (.t 92), none⟩,
  ⟨(some 94), .move (.t 12), (some (93, true))⟩,
  ⟨(some 95), .move (.t 4), (some (93, true))⟩,
  ⟨(some 96), .call 13 [(.t 94), (.t 95), (.k (.sc (.bool true)))], (some (93, true))⟩,
  ⟨(some 97), .bin .eql .no (.t 96) (.k (.sc (.int .i64 4))), (some (93, true))⟩,
  ⟨(some 98), .pick (.t 93) (.t 97) (.k (.sc (.bool false))), none⟩,
  ⟨(some 99), .move (.t 98), none⟩,
  ⟨(some 100), .call 10 [], (some (99, true))⟩,
  ⟨(some 101), .pick (.t 99) (.t 100) (.k (.sc (.bool false))), none⟩,
  ⟨(some 10), .move (.t 101), none⟩]
def m3_r20 : List MI := [
  ⟨(some 102), .move (.t 12), none⟩,
  ⟨(some 103), .call 15 [(.t 102)], none⟩]
def m3_r21 : List MI := [
  ⟨(some 105), .move (.t 12), none⟩,
  ⟨(some 106), .call 14 [(.t 105)], none⟩,
  ⟨(some 104), .move (.t 106), none⟩,
  ⟨(some 107), .extract (.t 104) 0, none⟩,
  ⟨(some 108), .extract (.t 104) 1, none⟩,
  ⟨(some 18), .move (.t 107), none⟩,
  ⟨(some 19), .move (.t 108), none⟩]
def m3_r22 : List MI := [
  ⟨(some 109), .move (.t 4), none⟩,
  ⟨(some 110), .move (.t 4), none⟩,
  ⟨(some 111), .lenStr (.t 110), none⟩,
  ⟨(some 112), .bin .sub .no (.t 111) (.k (.sc (.int .i64 1))), none⟩,
  ⟨(some 113), .idxStr (.t 109) (.t 112), none⟩,
  ⟨(some 114), .bin .neq .no (.t 113) (.k (.sc (.int .u8 32))), none⟩]
def m3_r23 : List MI := [
  ⟨(some 115), .move (.t 12), none⟩,
  ⟨(some 116), .move (.t 19), none⟩,
  ⟨(some 117), .call 12 [(.t 115), (.k (.sc (.int .i64 1000))), (.t 116)], none⟩]
def m3_r24 : List MI := [
  ⟨(some 118), .move (.t 12), none⟩,
  ⟨(some 119), .call 16 [(.t 118)], none⟩,
  ⟨(some 20), .move (.t 119), none⟩]
def m3_r25 : List MI := [
  ⟨(some 120), .move (.t 20), none⟩,
  ⟨(some 121), .lenStr (.t 120), none⟩,
  ⟨(some 122), .move (.t 4), none⟩,
  ⟨(some 123), .lenStr (.t 122), none⟩,
  ⟨(some 124), .bin .lss .no (.t 121) (.t 123), none⟩,
  ⟨(some 125), .move (.t 124), none⟩,
  ⟨(some 126), .move (.t 20), (some (125, false))⟩,
  ⟨(some 127), .move (.t 4), (some (125, false))⟩,
  ⟨(some 128), .lenStr (.t 127), (some (125, false))⟩,
  ⟨(some 129), .sliceStr (.t 126) none (some (.t 128)), (some (125, false))⟩,
  ⟨(some 130), .move (.t 4), (some (125, false))⟩,
  ⟨(some 131), .bin .neq .no (.t 129) (.t 130), (some (125, false))⟩,
  ⟨(some 132), .pick (.t 125) (.k (.sc (.bool true))) (.t 131), none⟩]
def m3_r26 : List MI := [
  ⟨(some 10), .move (.k (.sc (.bool false))), none⟩]
def m3_r27 : List MI := [
  ⟨(some 133), .move (.t 12), none⟩,
  ⟨(some 134), .move (.t 18), none⟩,
  ⟨(some 135), .move (.t 19), none⟩,
  ⟨(some 136), .call 12 [(.t 133), (.t 134), (.t 135)], none⟩]
def m3_r28 : List MI := [
  ⟨(some 137), .move (.t 12), none⟩,
  ⟨(some 138), .move (.t 4), none⟩,
  ⟨(some 139), .call 13 [(.t 137), (.t 138), (.k (.sc (.bool false)))], none⟩,
  ⟨(some 140), .bin .neq .no (.t 139) (.k (.sc (.int .i64 0))), none⟩,
  ⟨(some 141), .move (.t 140), none⟩,
  ⟨(some 142), .move (.t 12), (some (141, false))⟩,
  ⟨(some 143), .move (.t 4), (some (141, false))⟩,
  ⟨(some 144), .call 13 [(.t 142), (.t 143), (.k (.sc (.bool true)))], (some (141, false))⟩,
  ⟨(some 145), .bin .neq .no (.t 144) (.k (.sc (.int .i64 0))), (some (141, false))⟩,
  ⟨(some 146), .pick (.t 141) (.k (.sc (.bool true))) (.t 145), none⟩]
def m3_r29 : List MI := [
  ⟨(some 10), .move (.k (.sc (.bool false))), none⟩]
def m3_r30 : List MI := [
  ⟨(some 148), .move (.t 12), none⟩,
  ⟨(some 149), .call 14 [(.t 148)], none⟩,
  ⟨(some 147), .move (.t 149), none⟩,
  ⟨(some 150), .extract (.t 147) 0, none⟩,
  ⟨(some 151), .extract (.t 147) 1, none⟩,
  ⟨(some 21), .move (.t 150), none⟩,
  ⟨(some 22), .move (.t 151), none⟩]
def m3_r31 : List MI := [
  ⟨(some 152), .move (.t 21), none⟩,
  ⟨(some 153), .move (.t 18), none⟩,
  ⟨(some 154), .bin .eql .no (.t 152) (.t 153), none⟩,
  ⟨(some 155), .move (.t 154), none⟩,
  ⟨(some 156), .move (.t 22), (some (155, true))⟩,
  ⟨(some 157), .move (.t 19), (some (155, true))⟩,
  ⟨(some 158), .bin .eql .no (.t 156) (.t 157), (some (155, true))⟩,
  ⟨(some 159), .pick (.t 155) (.t 158) (.k (.sc (.bool false))), none⟩,
  ⟨(some 160), .move (.t 159), none⟩,
  ⟨(some 161), .call 10 [], (some (160, true))⟩,
  ⟨(some 162), .pick (.t 160) (.t 161) (.k (.sc (.bool false))), none⟩,
  ⟨(some 10), .move (.t 162), none⟩]
def m3_code : MCode := (.seq (.ops m3_r0) (.seq (.seq (.ops m3_r1) (.cond (.t 34) (.seq (.ops m3_r2) .ret) .skip)) (.seq (.seq (.ops m3_r3) (.block 0 (.loop m3_l4))) (.seq (.ops m3_r9) (.seq (.seq (.ops m3_r10) (.cond (.t 55) (.seq (.ops m3_r11) .ret) .skip)) (.seq (.seq (.ops m3_r12) (.cond (.t 62) (.seq (.ops m3_r13) .ret) .skip)) (.seq (.ops m3_r14) (.seq (.seq (.ops m3_r15) (.cond (.t 70) (.seq (.ops m3_r16) (.seq (.ops m3_r17) (.seq (.ops m3_r18) (.seq (.ops m3_r19) .ret)))) .skip)) (.seq (.ops m3_r20) (.seq (.ops m3_r21) (.seq (.seq (.ops m3_r22) (.cond (.t 114) (.seq (.ops m3_r23) (.seq (.ops m3_r24) (.seq (.ops m3_r25) (.cond (.t 132) (.seq (.ops m3_r26) .ret) .skip)))) .skip)) (.seq (.ops m3_r27) (.seq (.seq (.ops m3_r28) (.cond (.t 146) (.seq (.ops m3_r29) .ret) .skip)) (.seq (.ops m3_r30) (.seq (.ops m3_r31) .ret)))))))))))))))
def m3 : MFunc := ⟨163, [.tmp 10], m3_code⟩

def m4_r0 : List MI := [
  ⟨(some 12), .move (.k (.sc (.bool false))), none⟩]
def m4_r1 : List MI := [
  ⟨(some 20), .move (.t 0), none⟩,
  ⟨(some 21), .call 9 [(.t 20)], none⟩]
def m4_r2 : List MI := [
  ⟨(some 22), .call 10 [], none⟩,
  ⟨(some 12), .move (.t 22), none⟩]
def m4_r3 : List MI := [
  ⟨(some 24), .move (.t 0), none⟩,
  ⟨(some 25), .move (.t 1), none⟩,
  ⟨(some 26), .call 11 [(.t 24), (.t 25)], none⟩,
  ⟨(some 23), .move (.t 26), none⟩,
  ⟨(some 27), .extract (.t 23) 0, none⟩,
  ⟨(some 28), .extract (.t 23) 1, none⟩,
  ⟨(some 13), .move (.t 27), none⟩,
  ⟨(some 14), .move (.t 28), none⟩]
def m4_r4 : List MI := [
  ⟨(some 30), .move (.t 0), none⟩,
  ⟨(some 31), .move (.t 1), none⟩,
  ⟨(some 32), .call 11 [(.t 30), (.t 31)], none⟩,
  ⟨(some 29), .move (.t 32), none⟩,
  ⟨(some 33), .extract (.t 29) 0, none⟩,
  ⟨(some 34), .extract (.t 29) 1, none⟩,
  ⟨(some 15), .move (.t 33), none⟩,
  ⟨(some 16), .move (.t 34), none⟩]
def m4_r5 : List MI := [
  ⟨(some 35), .move (.t 14), none⟩,
  ⟨(some 36), .bin .neq .no (.t 35) (.k (.sc (.int .i64 0))), none⟩,
  ⟨(some 37), .move (.t 36), none⟩,
  ⟨(some 38), .move (.t 16), (some (37, false))⟩,
  ⟨(some 39), .bin .neq .no (.t 38) (.k (.sc (.int .i64 0))), (some (37, false))⟩,
  ⟨(some 40), .pick (.t 37) (.k (.sc (.bool true))) (.t 39), none⟩]
def m4_r6 : List MI := [
  ⟨(some 41), .move (.t 14), none⟩,
  ⟨(some 42), .move (.t 16), none⟩,
  ⟨(some 43), .bin .eql .no (.t 41) (.t 42), none⟩,
  ⟨(some 44), .move (.t 43), none⟩,
  ⟨(some 45), .call 10 [], (some (44, true))⟩,
  ⟨(some 46), .pick (.t 44) (.t 45) (.k (.sc (.bool false))), none⟩,
  ⟨(some 12), .move (.t 46), none⟩]
def m4_r7 : List MI := [
  ⟨(some 47), .move (.t 13), none⟩,
  ⟨(some 48), .call 16 [(.t 47)], none⟩,
  ⟨(some 49), .bin .neq .no (.t 48) (.k (.sc (.str []))), none⟩]
def m4_r8 : List MI := [
  ⟨(some 12), .move (.k (.sc (.bool false))), none⟩]
def m4_r9 : List MI := [
  ⟨(some 50), .move (.t 13), none⟩,
  ⟨(some 51), .move (.t 2), none⟩,
  ⟨(some 52), .move (.t 3), none⟩,
  ⟨(some 53), .call 12 [(.t 50), (.t 51), (.t 52)], none⟩]
def m4_r10 : List MI := [
  ⟨(some 54), .move (.t 13), none⟩,
  ⟨(some 55), .call 15 [(.t 54)], none⟩]
def m4_r11 : List MI := [
  ⟨(some 56), .move (.t 13), none⟩,
  ⟨(some 57), .call 16 [(.t 56)], none⟩,
  ⟨(some 17), .move (.t 57), none⟩]
def m4_r12 : List MI := [
  ⟨(some 58), .move (.t 13), none⟩,
  ⟨(some 59), .move (.t 4), none⟩,
  ⟨(some 60), .move (.t 5), none⟩,
  ⟨(some 61), .call 12 [(.t 58), (.t 59), (.t 60)], none⟩]
def m4_r13 : List MI := [
  ⟨(some 62), .move (.t 15), none⟩,
  ⟨(some 63), .move (.t 4), none⟩,
  ⟨(some 64), .move (.t 5), none⟩,
  ⟨(some 65), .call 12 [(.t 62), (.t 63), (.t 64)], none⟩]
def m4_r14 : List MI := [
  ⟨(some 66), .move (.t 15), none⟩,
  ⟨(some 67), .call 15 [(.t 66)], none⟩]
def m4_r15 : List MI := [
  ⟨(some 68), .move (.t 15), none⟩,
  ⟨(some 69), .move (.t 2), none⟩,
  ⟨(some 70), .move (.t 3), none⟩,
  ⟨(some 71), .call 12 [(.t 68), (.t 69), (.t 70)], none⟩]
def m4_r16 : List MI := [
  ⟨(some 18), .move (.k (.sc (.int .i64 0))), none⟩]
def m4_r17 : List MI := [
  ⟨(some 72), .move (.t 17), none⟩,
  ⟨(some 73), .range (.t 72), none⟩]
def m4_r19 : List MI := [
  ⟨(some 74), .next (.t 73), none⟩,
  ⟨(some 75), .extract (.t 74) 0, none⟩]
def m4_r20 : List MI := [
  ⟨(some 76), .move (.t 18), none⟩,
  ⟨(some 77), .bin .add .no (.t 76) (.k (.sc (.int .i64 1))), none⟩,
  ⟨(some 18), .move (.t 77), none⟩]
def m4_l18 : MCode := (.seq (.ops m4_r19) (.seq (.cond (.t 75) .skip (.exit 0)) (.block 1 (.ops m4_r20))))
def m4_r21 : List MI := [
  ⟨(some 78), .move (.t 13), none⟩,
  ⟨(some 79), .call 16 [(.t 78)], none⟩,
  ⟨(some 19), .move (.t 79), none⟩]
def m4_r22 : List MI := [
  ⟨(some 80), .move (.t 13), none⟩,
  ⟨(some 81), .call 17 [(.t 80)], none⟩]
def m4_r23 : List MI := [
  ⟨(some 82), .move (.t 18), none⟩,
  ⟨(some 83), .bin .leq .no (.t 82) (.k (.sc (.int .i64 1))), none⟩,
  ⟨(some 84), .move (.t 83), none⟩,
  ⟨(some 85), .move (.t 19), (some (84, true))⟩,
  ⟨(some 86), .move (.t 15), (some (84, true))⟩,
  ⟨(some 87), .call 16 [(.t 86)], (some (84, true))⟩,
  ⟨(some 88), .bin .eql .no (.t 85) (.t 87), (some (84, true))⟩,
  ⟨(some 89), .pick (.t 84) (.t 88) (.k (.sc (.bool false))), none⟩,
  ⟨(some 90), .move (.t 89), none⟩,
  ⟨(some 91), .move (.t 13), (some (90, true))⟩,
  ⟨(some 92), .call 16 [(.t 91)], (some (90, true))⟩,
  ⟨(some 93), .bin .eql .no (.t 92) (.k (.sc (.str []))), (some (90, true))⟩,
  ⟨(some 94), .pick (.t 90) (.t 93) (.k (.sc (.bool false))), none⟩,
  ⟨(some 95), .move (.t 94), none⟩,
  ⟨(some 96), .call 10 [], (some (95, true))⟩,
  ⟨(some 97), .pick (.t 95) (.t 96) (.k (.sc (.bool false))), none⟩,
  ⟨(some 12), .move (.t 97), none⟩]
def m4_code : MCode := (.seq (.ops m4_r0) (.seq (.seq (.ops m4_r1) (.cond (.t 21) (.seq (.ops m4_r2) .ret) .skip)) (.seq (.ops m4_r3) (.seq (.ops m4_r4) (.seq (.seq (.ops m4_r5) (.cond (.t 40) (.seq (.ops m4_r6) .ret) .skip)) (.seq (.seq (.ops m4_r7) (.cond (.t 49) (.seq (.ops m4_r8) .ret) .skip)) (.seq (.ops m4_r9) (.seq (.ops m4_r10) (.seq (.ops m4_r11) (.seq (.ops m4_r12) (.seq (.ops m4_r13) (.seq (.ops m4_r14) (.seq (.ops m4_r15) (.seq (.ops m4_r16) (.seq (.seq (.ops m4_r17) (.block 0 (.loop m4_l18))) (.seq (.ops m4_r21) (.seq (.ops m4_r22) (.seq (.ops m4_r23) .ret))))))))))))))))))
def m4 : MFunc := ⟨98, [.tmp 12], m4_code⟩

def m5_r0 : List MI := [
  ⟨(some 0), .move (.k (.sc (.bool false))), none⟩]
def m5_r1 : List MI := [
  ⟨(some 31), .call 18 [], none⟩,
  ⟨(some 32), .call 11 [(.t 31), (.k (.sc (.int .i64 2)))], none⟩,
  ⟨(some 30), .move (.t 32), none⟩,
  ⟨(some 33), .extract (.t 30) 0, none⟩,
  ⟨(some 34), .extract (.t 30) 1, none⟩,
  ⟨(some 1), .move (.t 33), none⟩,
  ⟨(some 2), .move (.t 34), none⟩]
def m5_r2 : List MI := [
  ⟨(some 35), .move (.t 2), none⟩,
  ⟨(some 36), .bin .neq .no (.t 35) (.k (.sc (.int .i64 0))), none⟩,
  ⟨(some 37), .move (.t 36), none⟩,
  ⟨(some 38), .move (.t 1), (some (37, false))⟩,
  ⟨(some 39), .bin .eql .ptr (.t 38) (.k (.sc (.nilp))), (some (37, false))⟩,
  ⟨(some 40), .pick (.t 37) (.k (.sc (.bool true))) (.t 39), none⟩]
def m5_r3 : List MI := [
  ⟨(some 0), .move (.k (.sc (.bool false))), none⟩]
def m5_r4 : List MI := [
  ⟨(some 41), .move (.t 1), none⟩,
  ⟨(some 42), .call 13 [(.t 41), (.k (.sc (.str [99]))), (.k (.sc (.bool false)))], none⟩,
  ⟨(some 3), .move (.t 42), none⟩]
def m5_r5 : List MI := [
  ⟨(some 44), .move (.t 1), none⟩,
  ⟨(some 45), .call 14 [(.t 44)], none⟩,
  ⟨(some 43), .move (.t 45), none⟩,
  ⟨(some 46), .extract (.t 43) 0, none⟩,
  ⟨(some 47), .extract (.t 43) 1, none⟩,
  ⟨(some 4), .move (.t 46), none⟩,
  ⟨(some 5), .move (.t 47), none⟩]
def m5_r6 : List MI := [
  ⟨(some 48), .move (.t 1), none⟩,
  ⟨(some 49), .call 13 [(.t 48), (.k (.sc (.str [99]))), (.k (.sc (.bool true)))], none⟩,
  ⟨(some 6), .move (.t 49), none⟩]
def m5_r7 : List MI := [
  ⟨(some 50), .move (.t 1), none⟩,
  ⟨(some 51), .call 13 [(.t 50), (.k (.sc (.str [120]))), (.k (.sc (.bool false)))], none⟩,
  ⟨(some 7), .move (.t 51), none⟩]
def m5_r8 : List MI := [
  ⟨(some 52), .move (.t 1), none⟩,
  ⟨(some 53), .call 13 [(.t 52), (.k (.sc (.str [102]))), (.k (.sc (.bool true)))], none⟩,
  ⟨(some 8), .move (.t 53), none⟩]
def m5_r9 : List MI := [
  ⟨(some 55), .move (.t 1), none⟩,
  ⟨(some 56), .call 14 [(.t 55)], none⟩,
  ⟨(some 54), .move (.t 56), none⟩,
  ⟨(some 57), .extract (.t 54) 0, none⟩,
  ⟨(some 58), .extract (.t 54) 1, none⟩,
  ⟨(some 9), .move (.t 57), none⟩,
  ⟨(some 10), .move (.t 58), none⟩]
def m5_r10 : List MI := [
  ⟨(some 59), .move (.t 3), none⟩,
  ⟨(some 60), .bin .eql .no (.t 59) (.k (.sc (.int .i64 0))), none⟩,
  ⟨(some 61), .move (.t 60), none⟩,
  ⟨(some 62), .move (.t 4), (some (61, true))⟩,
  ⟨(some 63), .bin .eql .no (.t 62) (.k (.sc (.int .i64 2))), (some (61, true))⟩,
  ⟨(some 64), .pick (.t 61) (.t 63) (.k (.sc (.bool false))), none⟩,
  ⟨(some 65), .move (.t 64), none⟩,
  ⟨(some 66), .move (.t 5), (some (65, true))⟩,
  ⟨(some 67), .bin .eql .no (.t 66) (.k (.sc (.int .i64 0))), (some (65, true))⟩,
  ⟨(some 68), .pick (.t 65) (.t 67) (.k (.sc (.bool false))), none⟩,
  ⟨(some 69), .move (.t 68), none⟩,
  ⟨(some 70), .move (.t 6), (some (69, true))⟩,
  ⟨(some 71), .bin .eql .no (.t 70) (.k (.sc (.int .i64 0))), (some (69, true))⟩,
  ⟨(some 72), .pick (.t 69) (.t 71) (.k (.sc (.bool false))), none⟩,
  ⟨(some 73), .move (.t 72), none⟩,
  ⟨(some 74), .move (.t 7), (some (73, true))⟩,
  ⟨(some 75), .bin .eql .no (.t 74) (.k (.sc (.int .i64 4))), (some (73, true))⟩,
  ⟨(some 76), .pick (.t 73) (.t 75) (.k (.sc (.bool false))), none⟩,
  ⟨(some 77), .move (.t 76), none⟩,
  ⟨(some 78), .move (.t 8), (some (77, true))⟩,
  ⟨(some 79), .bin .eql .no (.t 78) (.k (.sc (.int .i64 0))), (some (77, true))⟩,
  ⟨(some 80), .pick (.t 77) (.t 79) (.k (.sc (.bool false))), none⟩,
  ⟨(some 81), .move (.t 80), none⟩,
  ⟨(some 82), .move (.t 9), (some (81, true))⟩,
  ⟨(some 83), .bin .eql .no (.t 82) (.k (.sc (.int .i64 1))), (some (81, true))⟩,
  ⟨(some 84), .pick (.t 81) (.t 83) (.k (.sc (.bool false))), none⟩,
  ⟨(some 85), .move (.t 84), none⟩,
  ⟨(some 86), .move (.t 10), (some (85, true))⟩,
  ⟨(some 87), .bin .eql .no (.t 86) (.k (.sc (.int .i64 1))), (some (85, true))⟩,
  ⟨(some 88), .pick (.t 85) (.t 87) (.k (.sc (.bool false))), none⟩,
  ⟨(some 89), .move (.t 88), none⟩,
  ⟨(some 90), .move (.t 1), (some (89, true))⟩,
  ⟨(some 91), .call 13 [(.t 90), (.k (.sc (.str []))), (.k (.sc (.bool false)))], (some (89, true))⟩,
  ⟨(some 92), .bin .eql .no (.t 91) (.k (.sc (.int .i64 1))), (some (89, true))⟩,
  ⟨(some 93), .pick (.t 89) (.t 92) (.k (.sc (.bool false))), none⟩,
  ⟨(some 94), .move (.t 93), none⟩,
  ⟨(some 95), .move (.t 1), (some (94, true))⟩,
  ⟨(some 96), .call 13 [(.t 95), (.k (.sc (.str [48, 49, 50, 51, 52, 53, 54, 55, 56, 57, 48, 49, 50, 51, 52, 53, 54, 55, 56, 57, 48, 49, 50, 51, 52, 53, 54, 55, 56, 57, 48, 49, 50]))), (.k (.sc (.bool false)))], (some (94, true))⟩,
  ⟨(some 97), .bin .eql .no (.t 96) (.k (.sc (.int .i64 1))), (some (94, true))⟩,
  ⟨(some 98), .pick (.t 94) (.t 97) (.k (.sc (.bool false))), none⟩,
  ⟨(some 11), .move (.t 98), none⟩]
def m5_r11 : List MI := [
  ⟨(some 99), .move (.t 1), none⟩,
  ⟨(some 100), .call 12 [(.t 99), (.k (.sc (.int .i64 99))), (.k (.sc (.int .i64 (-1))))], none⟩]
def m5_r12 : List MI := [
  ⟨(some 102), .move (.t 1), none⟩,
  ⟨(some 103), .call 14 [(.t 102)], none⟩,
  ⟨(some 101), .move (.t 103), none⟩,
  ⟨(some 104), .extract (.t 101) 0, none⟩,
  ⟨(some 105), .extract (.t 101) 1, none⟩,
  ⟨(some 4), .move (.t 104), none⟩,
  ⟨(some 5), .move (.t 105), none⟩]
def m5_r13 : List MI := [
  ⟨(some 106), .move (.t 1), none⟩,
  ⟨(some 107), .call 19 [(.t 106), (.k (.sc (.int .i64 (-4611686018427387904)))), (.k (.sc (.int .i64 4611686018427387904)))], none⟩]
def m5_r14 : List MI := [
  ⟨(some 109), .move (.t 1), none⟩,
  ⟨(some 110), .call 14 [(.t 109)], none⟩,
  ⟨(some 108), .move (.t 110), none⟩,
  ⟨(some 111), .extract (.t 108) 0, none⟩,
  ⟨(some 112), .extract (.t 108) 1, none⟩,
  ⟨(some 9), .move (.t 111), none⟩,
  ⟨(some 10), .move (.t 112), none⟩]
def m5_r15 : List MI := [
  ⟨(some 113), .move (.t 4), none⟩,
  ⟨(some 114), .bin .eql .no (.t 113) (.k (.sc (.int .i64 3))), none⟩,
  ⟨(some 115), .move (.t 114), none⟩,
  ⟨(some 116), .move (.t 5), (some (115, true))⟩,
  ⟨(some 117), .bin .eql .no (.t 116) (.k (.sc (.int .i64 0))), (some (115, true))⟩,
  ⟨(some 118), .pick (.t 115) (.t 117) (.k (.sc (.bool false))), none⟩,
  ⟨(some 119), .move (.t 118), none⟩,
  ⟨(some 120), .move (.t 9), (some (119, true))⟩,
  ⟨(some 121), .bin .eql .no (.t 120) (.k (.sc (.int .i64 0))), (some (119, true))⟩,
  ⟨(some 122), .pick (.t 119) (.t 121) (.k (.sc (.bool false))), none⟩,
  ⟨(some 123), .move (.t 122), none⟩,
  ⟨(some 124), .move (.t 10), (some (123, true))⟩,
  ⟨(some 125), .bin .eql .no (.t 124) (.k (.sc (.int .i64 2))), (some (123, true))⟩,
  ⟨(some 126), .pick (.t 123) (.t 125) (.k (.sc (.bool false))), none⟩,
  ⟨(some 127), .move (.t 126), none⟩,
  ⟨(some 128), .move (.t 1), (some (127, true))⟩,
  ⟨(some 129), .call 20 [(.t 128)], (some (127, true))⟩,
  ⟨(some 130), .bin .eql .no (.t 129) (.k (.sc (.int .i64 1))), (some (127, true))⟩,
  ⟨(some 131), .pick (.t 127) (.t 130) (.k (.sc (.bool false))), none⟩,
  ⟨(some 12), .move (.t 131), none⟩]
def m5_r16 : List MI := [
  ⟨(some 133), .call 21 [(.k (.sc (.str [97, 98, 32]))), (.k (.sc (.bool true))), (.k (.sc (.bool true)))], none⟩,
  ⟨(some 134), .call 21 [(.k (.sc (.str [228, 184, 128, 32, 99, 32]))), (.k (.sc (.bool false))), (.k (.sc (.bool false)))], none⟩,
  ⟨(some 135), .call 21 [(.k (.sc (.str [32, 32]))), (.k (.sc (.bool false))), (.k (.sc (.bool false)))], none⟩,
  ⟨(some 136), .buildSlice 27 3 3 [.nils, .bool false, .bool false] [(0, 3, (.t 133)), (3, 3, (.t 134)), (6, 3, (.t 135))], none⟩,
  ⟨(some 137), .call 11 [(.t 136), (.k (.sc (.int .i64 9)))], none⟩,
  ⟨(some 132), .move (.t 137), none⟩,
  ⟨(some 138), .extract (.t 132) 0, none⟩,
  ⟨(some 139), .extract (.t 132) 1, none⟩,
  ⟨(some 13), .move (.t 138), none⟩,
  ⟨(some 2), .move (.t 139), none⟩]
def m5_r17 : List MI := [
  ⟨(some 140), .move (.t 2), none⟩,
  ⟨(some 141), .bin .neq .no (.t 140) (.k (.sc (.int .i64 0))), none⟩,
  ⟨(some 142), .move (.t 141), none⟩,
  ⟨(some 143), .move (.t 13), (some (142, false))⟩,
  ⟨(some 144), .bin .eql .ptr (.t 143) (.k (.sc (.nilp))), (some (142, false))⟩,
  ⟨(some 145), .pick (.t 142) (.k (.sc (.bool true))) (.t 144), none⟩]
def m5_r18 : List MI := [
  ⟨(some 0), .move (.k (.sc (.bool false))), none⟩]
def m5_r19 : List MI := [
  ⟨(some 146), .move (.t 13), none⟩,
  ⟨(some 147), .call 12 [(.t 146), (.k (.sc (.int .i64 0))), (.k (.sc (.int .i64 0)))], none⟩]
def m5_r20 : List MI := [
  ⟨(some 148), .move (.t 13), none⟩,
  ⟨(some 149), .call 15 [(.t 148)], none⟩]
def m5_r21 : List MI := [
  ⟨(some 150), .move (.t 13), none⟩,
  ⟨(some 151), .call 12 [(.t 150), (.k (.sc (.int .i64 9))), (.k (.sc (.int .i64 9)))], none⟩]
def m5_r22 : List MI := [
  ⟨(some 152), .move (.t 13), none⟩,
  ⟨(some 153), .call 16 [(.t 152)], none⟩,
  ⟨(some 14), .move (.t 153), none⟩]
def m5_r23 : List MI := [
  ⟨(some 154), .move (.t 13), none⟩,
  ⟨(some 155), .call 12 [(.t 154), (.k (.sc (.int .i64 1))), (.k (.sc (.int .i64 1)))], none⟩]
def m5_r24 : List MI := [
  ⟨(some 156), .move (.t 13), none⟩,
  ⟨(some 157), .call 16 [(.t 156)], none⟩,
  ⟨(some 15), .move (.t 157), none⟩]
def m5_r25 : List MI := [
  ⟨(some 158), .move (.t 13), none⟩,
  ⟨(some 159), .call 15 [(.t 158)], none⟩]
def m5_r26 : List MI := [
  ⟨(some 160), .move (.t 13), none⟩,
  ⟨(some 161), .call 16 [(.t 160)], none⟩,
  ⟨(some 16), .move (.t 161), none⟩]
def m5_r27 : List MI := [
  ⟨(some 162), .move (.t 13), none⟩,
  ⟨(some 163), .call 12 [(.t 162), (.k (.sc (.int .i64 3))), (.k (.sc (.int .i64 1)))], none⟩]
def m5_r28 : List MI := [
  ⟨(some 164), .move (.t 13), none⟩,
  ⟨(some 165), .call 16 [(.t 164)], none⟩,
  ⟨(some 17), .move (.t 165), none⟩]
def m5_r29 : List MI := [
  ⟨(some 166), .move (.t 13), none⟩,
  ⟨(some 167), .call 13 [(.t 166), (.k (.sc (.str [228, 184, 128, 32, 99]))), (.k (.sc (.bool false)))], none⟩,
  ⟨(some 18), .move (.t 167), none⟩]
def m5_r30 : List MI := [
  ⟨(some 169), .move (.t 13), none⟩,
  ⟨(some 170), .call 14 [(.t 169)], none⟩,
  ⟨(some 168), .move (.t 170), none⟩,
  ⟨(some 171), .extract (.t 168) 0, none⟩,
  ⟨(some 172), .extract (.t 168) 1, none⟩,
  ⟨(some 4), .move (.t 171), none⟩,
  ⟨(some 5), .move (.t 172), none⟩]
def m5_r31 : List MI := [
  ⟨(some 173), .move (.t 14), none⟩,
  ⟨(some 174), .bin .eql .no (.t 173) (.k (.sc (.str [97, 98, 228, 184, 128, 32, 99, 10]))), none⟩,
  ⟨(some 175), .move (.t 174), none⟩,
  ⟨(some 176), .move (.t 15), (some (175, true))⟩,
  ⟨(some 177), .bin .eql .no (.t 176) (.k (.sc (.str [97, 98, 228, 184, 128]))), (some (175, true))⟩,
  ⟨(some 178), .pick (.t 175) (.t 177) (.k (.sc (.bool false))), none⟩,
  ⟨(some 179), .move (.t 178), none⟩,
  ⟨(some 180), .move (.t 16), (some (179, true))⟩,
  ⟨(some 181), .bin .eql .no (.t 180) (.k (.sc (.str [228, 184, 128]))), (some (179, true))⟩,
  ⟨(some 182), .pick (.t 179) (.t 181) (.k (.sc (.bool false))), none⟩,
  ⟨(some 183), .move (.t 182), none⟩,
  ⟨(some 184), .move (.t 17), (some (183, true))⟩,
  ⟨(some 185), .bin .eql .no (.t 184) (.k (.sc (.str [228, 184, 128, 32, 99]))), (some (183, true))⟩,
  ⟨(some 186), .pick (.t 183) (.t 185) (.k (.sc (.bool false))), none⟩,
  ⟨(some 187), .move (.t 186), none⟩,
  ⟨(some 188), .move (.t 18), (some (187, true))⟩,
  ⟨(some 189), .bin .eql .no (.t 188) (.k (.sc (.int .i64 0))), (some (187, true))⟩,
  ⟨(some 190), .pick (.t 187) (.t 189) (.k (.sc (.bool false))), none⟩,
  ⟨(some 191), .move (.t 190), none⟩,
  ⟨(some 192), .move (.t 4), (some (191, true))⟩,
  ⟨(some 193), .bin .eql .no (.t 192) (.k (.sc (.int .i64 0))), (some (191, true))⟩,
  ⟨(some 194), .pick (.t 191) (.t 193) (.k (.sc (.bool false))), none⟩,
  ⟨(some 195), .move (.t 194), none⟩,
  ⟨(some 196), .move (.t 5), (some (195, true))⟩,
  ⟨(some 197), .bin .eql .no (.t 196) (.k (.sc (.int .i64 1))), (some (195, true))⟩,
  ⟨(some 198), .pick (.t 195) (.t 197) (.k (.sc (.bool false))), none⟩,
  ⟨(some 199), .move (.t 198), none⟩,
  ⟨(some 200), .move (.t 13), (some (199, true))⟩,
  ⟨(some 201), .call 20 [(.t 200)], (some (199, true))⟩,
  ⟨(some 202), .bin .eql .no (.t 201) (.k (.sc (.int .i64 0))), (some (199, true))⟩,
  ⟨(some 203), .pick (.t 199) (.t 202) (.k (.sc (.bool false))), none⟩,
  ⟨(some 204), .move (.t 203), none⟩,
  ⟨(some 205), .move (.t 13), (some (204, true))⟩,
  ⟨(some 206), .call 22 [(.t 205)], (some (204, true))⟩,
  ⟨(some 207), .lenSlice (.t 206), (some (204, true))⟩,
  ⟨(some 208), .bin .eql .no (.t 207) (.k (.sc (.int .i64 3))), (some (204, true))⟩,
  ⟨(some 209), .pick (.t 204) (.t 208) (.k (.sc (.bool false))), none⟩,
  ⟨(some 19), .move (.t 209), none⟩]
def m5_r32 : List MI := [
  ⟨(some 211), .call 11 [(.k (.sc (.nils))), (.k (.sc (.int .i64 1)))], none⟩,
  ⟨(some 210), .move (.t 211), none⟩,
  ⟨(some 212), .extract (.t 210) 0, none⟩,
  ⟨(some 213), .extract (.t 210) 1, none⟩,
  ⟨(some 20), .move (.t 212), none⟩,
  ⟨(some 21), .move (.t 213), none⟩]
def m5_r33 : List MI := [
  ⟨(some 215), .call 18 [], none⟩,
  ⟨(some 216), .call 11 [(.t 215), (.k (.sc (.int .i64 0)))], none⟩,
  ⟨(some 214), .move (.t 216), none⟩,
  ⟨(some 217), .extract (.t 214) 0, none⟩,
  ⟨(some 218), .extract (.t 214) 1, none⟩,
  ⟨(some 22), .move (.t 217), none⟩,
  ⟨(some 23), .move (.t 218), none⟩]
def m5_r34 : List MI := [
  ⟨(some 220), .call 18 [], none⟩,
  ⟨(some 221), .call 11 [(.t 220), (.k (.sc (.int .i64 401)))], none⟩,
  ⟨(some 219), .move (.t 221), none⟩,
  ⟨(some 222), .extract (.t 219) 0, none⟩,
  ⟨(some 223), .extract (.t 219) 1, none⟩,
  ⟨(some 24), .move (.t 222), none⟩,
  ⟨(some 25), .move (.t 223), none⟩]
def m5_r35 : List MI := [
  ⟨(some 225), .build [.nils, .bool false, .bool false] [], none⟩,
  ⟨(some 226), .buildSlice 27 3 1 [.nils, .bool false, .bool false] [(0, 3, (.t 225))], none⟩,
  ⟨(some 227), .call 11 [(.t 226), (.k (.sc (.int .i64 1)))], none⟩,
  ⟨(some 224), .move (.t 227), none⟩,
  ⟨(some 228), .extract (.t 224) 0, none⟩,
  ⟨(some 229), .extract (.t 224) 1, none⟩,
  ⟨(some 26), .move (.t 228), none⟩,
  ⟨(some 27), .move (.t 229), none⟩]
def m5_r36 : List MI := [
  ⟨(some 231), .makeSlice 27 3 32 [.nils, .bool false, .bool false] (.k (.sc (.int .i64 901))) (.k (.sc (.int .i64 901))), none⟩,
  ⟨(some 232), .call 11 [(.t 231), (.k (.sc (.int .i64 1)))], none⟩,
  ⟨(some 230), .move (.t 232), none⟩,
  ⟨(some 233), .extract (.t 230) 0, none⟩,
  ⟨(some 234), .extract (.t 230) 1, none⟩,
  ⟨(some 28), .move (.t 233), none⟩,
  ⟨(some 29), .move (.t 234), none⟩]
def m5_r37 : List MI := [
  ⟨(some 235), .move (.t 11), none⟩,
  ⟨(some 236), .move (.t 235), none⟩,
  ⟨(some 237), .move (.t 12), (some (236, true))⟩,
  ⟨(some 238), .pick (.t 236) (.t 237) (.k (.sc (.bool false))), none⟩,
  ⟨(some 239), .move (.t 238), none⟩,
  ⟨(some 240), .move (.t 19), (some (239, true))⟩,
  ⟨(some 241), .pick (.t 239) (.t 240) (.k (.sc (.bool false))), none⟩,
  ⟨(some 242), .move (.t 241), none⟩,
  ⟨(some 243), .move (.t 21), (some (242, true))⟩,
  ⟨(some 244), .bin .eql .no (.t 243) (.k (.sc (.int .i64 1))), (some (242, true))⟩,
  ⟨(some 245), .pick (.t 242) (.t 244) (.k (.sc (.bool false))), none⟩,
  ⟨(some 246), .move (.t 245), none⟩,
  ⟨(some 247), .move (.t 23), (some (246, true))⟩,
  ⟨(some 248), .bin .eql .no (.t 247) (.k (.sc (.int .i64 1))), (some (246, true))⟩,
  ⟨(some 249), .pick (.t 246) (.t 248) (.k (.sc (.bool false))), none⟩,
  ⟨(some 250), .move (.t 249), none⟩,
  ⟨(some 251), .move (.t 25), (some (250, true))⟩,
  ⟨(some 252), .bin .eql .no (.t 251) (.k (.sc (.int .i64 1))), (some (250, true))⟩,
  ⟨(some 253), .pick (.t 250) (.t 252) (.k (.sc (.bool false))), none⟩,
  ⟨(some 254), .move (.t 253), none⟩,
  ⟨(some 255), .move (.t 27), (some (254, true))⟩,
  ⟨(some 256), .bin .eql .no (.t 255) (.k (.sc (.int .i64 1))), (some (254, true))⟩,
  ⟨(some 257), .pick (.t 254) (.t 256) (.k (.sc (.bool false))), none⟩,
  ⟨(some 258), .move (.t 257), none⟩,
  ⟨(some 259), .move (.t 29), (some (258, true))⟩,
  ⟨(some 260), .bin .eql .no (.t 259) (.k (.sc (.int .i64 1))), (some (258, true))⟩,
  ⟨(some 261), .pick (.t 258) (.t 260) (.k (.sc (.bool false))), none⟩,
  ⟨(some 262), .move (.t 261), none⟩,
  ⟨(some 263), .call 10 [], (some (262, true))⟩,
  ⟨(some 264), .pick (.t 262) (.t 263) (.k (.sc (.bool false))), none⟩,
  ⟨(some 0), .move (.t 264), none⟩]
def m5_code : MCode := (.seq (.ops m5_r0) (.seq (.ops m5_r1) (.seq (.seq (.ops m5_r2) (.cond (.t 40) (.seq (.ops m5_r3) .ret) .skip)) (.seq (.ops m5_r4) (.seq (.ops m5_r5) (.seq (.ops m5_r6) (.seq (.ops m5_r7) (.seq (.ops m5_r8) (.seq (.ops m5_r9) (.seq (.ops m5_r10) (.seq (.ops m5_r11) (.seq (.ops m5_r12) (.seq (.ops m5_r13) (.seq (.ops m5_r14) (.seq (.ops m5_r15) (.seq (.ops m5_r16) (.seq (.seq (.ops m5_r17) (.cond (.t 145) (.seq (.ops m5_r18) .ret) .skip)) (.seq (.ops m5_r19) (.seq (.ops m5_r20) (.seq (.ops m5_r21) (.seq (.ops m5_r22) (.seq (.ops m5_r23) (.seq (.ops m5_r24) (.seq (.ops m5_r25) (.seq (.ops m5_r26) (.seq (.ops m5_r27) (.seq (.ops m5_r28) (.seq (.ops m5_r29) (.seq (.ops m5_r30) (.seq (.ops m5_r31) (.seq (.ops m5_r32) (.seq (.ops m5_r33) (.seq (.ops m5_r34) (.seq (.ops m5_r35) (.seq (.ops m5_r36) (.seq (.ops m5_r37) .ret))))))))))))))))))))))))))))))))))))
def m5 : MFunc := ⟨265, [.tmp 0], m5_code⟩

def m6_r0 : List MI := [
  ⟨(some 6), .move (.k (.sc (.bool false))), none⟩]
def m6_r1 : List MI := [
  ⟨(some 16), .move (.t 0), none⟩,
  ⟨(some 17), .call 9 [(.t 16)], none⟩,
  ⟨(some 18), .move (.t 17), none⟩,
  ⟨(some 19), .move (.t 2), (some (18, false))⟩,
  ⟨(some 20), .lenSlice (.t 19), (some (18, false))⟩,
  ⟨(some 21), .bin .gtr .no (.t 20) (.k (.sc (.int .i64 60))), (some (18, false))⟩,
  ⟨(some 22), .pick (.t 18) (.k (.sc (.bool true))) (.t 21), none⟩]
def m6_r2 : List MI := [
  ⟨(some 23), .call 10 [], none⟩,
  ⟨(some 6), .move (.t 23), none⟩]
def m6_r3 : List MI := [
  ⟨(some 25), .move (.t 0), none⟩,
  ⟨(some 26), .move (.t 1), none⟩,
  ⟨(some 27), .call 11 [(.t 25), (.t 26)], none⟩,
  ⟨(some 24), .move (.t 27), none⟩,
  ⟨(some 28), .extract (.t 24) 0, none⟩,
  ⟨(some 29), .extract (.t 24) 1, none⟩,
  ⟨(some 7), .move (.t 28), none⟩,
  ⟨(some 8), .move (.t 29), none⟩]
def m6_r4 : List MI := [
  ⟨(some 30), .move (.t 0), none⟩,
  ⟨(some 31), .call 24 [(.t 30)], none⟩,
  ⟨(some 32), .move (.t 1), none⟩,
  ⟨(some 33), .call 23 [(.t 31), (.t 32)], none⟩,
  ⟨(some 34), .un .not (.t 33), none⟩]
def m6_r5 : List MI := [
  ⟨(some 35), .move (.t 7), none⟩,
  ⟨(some 36), .bin .eql .ptr (.t 35) (.k (.sc (.nilp))), none⟩,
  ⟨(some 37), .move (.t 36), none⟩,
  ⟨(some 38), .move (.t 8), (some (37, true))⟩,
  ⟨(some 39), .bin .eql .no (.t 38) (.k (.sc (.int .i64 1))), (some (37, true))⟩,
  ⟨(some 40), .pick (.t 37) (.t 39) (.k (.sc (.bool false))), none⟩,
  ⟨(some 41), .move (.t 40), none⟩,
  ⟨(some 42), .call 10 [], (some (41, true))⟩,
  ⟨(some 43), .pick (.t 41) (.t 42) (.k (.sc (.bool false))), none⟩,
  ⟨(some 6), .move (.t 43), none⟩]
def m6_r6 : List MI := [
  ⟨(some 44), .move (.t 8), none⟩,
  ⟨(some 45), .bin .neq .no (.t 44) (.k (.sc (.int .i64 0))), none⟩,
  ⟨(some 46), .move (.t 45), none⟩,
  ⟨(some 47), .move (.t 7), (some (46, false))⟩,
  ⟨(some 48), .bin .eql .ptr (.t 47) (.k (.sc (.nilp))), (some (46, false))⟩,
  ⟨(some 49), .pick (.t 46) (.k (.sc (.bool true))) (.t 48), none⟩]
def m6_r7 : List MI := [
  ⟨(some 6), .move (.k (.sc (.bool false))), none⟩]
def m6_r8 : List MI := [
  ⟨(some 50), .move (.t 0), none⟩,
  ⟨(some 51), .call 24 [(.t 50)], none⟩,
  ⟨(some 52), .move (.t 1), none⟩,
  ⟨(some 53), .call 25 [(.t 51), (.t 52)], none⟩,
  ⟨(some 9), .move (.t 53), none⟩]
def m6_r9 : List MI := [
  ⟨(some 10), .move (.k (.sc (.int .i64 0))), none⟩]
def m6_r11 : List MI := [
  ⟨(some 54), .move (.t 10), none⟩,
  ⟨(some 55), .move (.t 2), none⟩,
  ⟨(some 56), .lenSlice (.t 55), none⟩,
  ⟨(some 57), .bin .lss .no (.t 54) (.t 56), none⟩]
def m6_r12 : List MI := [
  ⟨(some 60), .move (.t 7), none⟩,
  ⟨(some 61), .move (.t 9), none⟩,
  ⟨(some 62), .move (.t 2), none⟩,
  ⟨(some 63), .move (.t 10), none⟩,
  ⟨(some 64), .indexSlice 4 (.t 62) (.t 63), none⟩,
  ⟨(some 65), .load (some 4) (.t 64), none⟩,
  ⟨(some 66), .call 26 [(.t 60), (.t 61), (.t 65)], none⟩,
  ⟨(some 67), .un .not (.t 66), none⟩]
def m6_r13 : List MI := [
  ⟨(some 6), .move (.k (.sc (.bool false))), none⟩]
def m6_r14 : List MI := [
  ⟨(some 69), .move (.t 7), none⟩,
  ⟨(some 70), .call 14 [(.t 69)], none⟩,
  ⟨(some 68), .move (.t 70), none⟩,
  ⟨(some 71), .extract (.t 68) 0, none⟩,
  ⟨(some 72), .extract (.t 68) 1, none⟩,
  ⟨(some 11), .move (.t 71), none⟩,
  ⟨(some 12), .move (.t 72), none⟩]
def m6_r15 : List MI := [
  ⟨(some 74), .move (.t 7), none⟩,
  ⟨(some 75), .call 27 [(.t 74)], none⟩,
  ⟨(some 73), .move (.t 75), none⟩,
  ⟨(some 76), .extract (.t 73) 0, none⟩,
  ⟨(some 77), .extract (.t 73) 1, none⟩,
  ⟨(some 78), .extract (.t 73) 2, none⟩,
  ⟨(some 13), .move (.t 76), none⟩,
  ⟨(some 14), .move (.t 77), none⟩,
  ⟨(some 15), .move (.t 78), none⟩]
def m6_r16 : List DI := [
  ⟨⟨(some 79), .move (.t 11), none⟩, 0, [], []⟩,
  ⟨⟨(some 80), .move (.t 9), none⟩, 0, [], []⟩,
  ⟨⟨(some 81), .nilCheck (.t 80), none⟩, 0, [], []⟩,
  ⟨⟨(some 82), .fieldAddr 3 (.t 81), none⟩, 0, [], []⟩,
  ⟨⟨(some 83), .load none (.t 82), none⟩, 1, [], []⟩,
  ⟨⟨(some 84), .bin .neq .no (.t 79) (.t 83), none⟩, 0, [], []⟩,
  ⟨⟨(some 85), .move (.t 84), none⟩, 0, [], []⟩,
  ⟨⟨(some 86), .move (.t 12), (some (85, false))⟩, 0, [], []⟩,
  ⟨⟨(some 87), .move (.t 9), (some (85, false))⟩, 0, [], []⟩,
  ⟨⟨(some 88), .nilCheck (.t 87), (some (85, false))⟩, 0, [], []⟩,
  ⟨⟨(some 89), .fieldAddr 4 (.t 88), (some (85, false))⟩, 0, [], []⟩,
  ⟨⟨(some 90), .load none (.t 89), (some (85, false))⟩, 1, [], []⟩,
  ⟨⟨(some 91), .bin .neq .no (.t 86) (.t 90), (some (85, false))⟩, 0, [], []⟩,
  ⟨⟨(some 92), .pick (.t 85) (.k (.sc (.bool true))) (.t 91), none⟩, 0, [], []⟩,
  ⟨⟨(some 93), .move (.t 92), none⟩, 0, [], []⟩,
  ⟨⟨(some 94), .move (.t 7), (some (93, false))⟩, 0, [], []⟩,
  ⟨⟨(some 95), .call 20 [(.t 94)], (some (93, false))⟩, 2, [], []⟩,
  ⟨⟨(some 96), .move (.t 9), (some (93, false))⟩, 0, [16], []⟩,
  ⟨⟨(some 97), .nilCheck (.t 96), (some (93, false))⟩, 0, [16], []⟩,
  ⟨⟨(some 98), .fieldAddr 2 (.t 97), (some (93, false))⟩, 0, [16], []⟩,
  ⟨⟨(some 99), .load none (.t 98), (some (93, false))⟩, 1, [16], []⟩,
  ⟨⟨(some 100), .bin .neq .no (.t 95) (.t 99), (some (93, false))⟩, 0, [], []⟩,
  ⟨⟨(some 101), .pick (.t 93) (.k (.sc (.bool true))) (.t 100), none⟩, 0, [], []⟩,
  ⟨⟨(some 102), .move (.t 101), none⟩, 0, [], []⟩,
  ⟨⟨(some 103), .move (.t 13), (some (102, false))⟩, 0, [], []⟩,
  ⟨⟨(some 104), .move (.t 9), (some (102, false))⟩, 0, [], []⟩,
  ⟨⟨(some 105), .nilCheck (.t 104), (some (102, false))⟩, 0, [], []⟩,
  ⟨⟨(some 106), .fieldAddr 6 (.t 105), (some (102, false))⟩, 0, [], []⟩,
  ⟨⟨(some 107), .load none (.t 106), (some (102, false))⟩, 1, [], []⟩,
  ⟨⟨(some 108), .bin .neq .no (.t 103) (.t 107), (some (102, false))⟩, 0, [], []⟩,
  ⟨⟨(some 109), .pick (.t 102) (.k (.sc (.bool true))) (.t 108), none⟩, 0, [], []⟩,
  ⟨⟨(some 110), .move (.t 109), none⟩, 0, [], []⟩,
  ⟨⟨(some 111), .move (.t 14), (some (110, false))⟩, 0, [], []⟩,
  ⟨⟨(some 112), .move (.t 9), (some (110, false))⟩, 0, [], []⟩,
  ⟨⟨(some 113), .nilCheck (.t 112), (some (110, false))⟩, 0, [], []⟩,
  ⟨⟨(some 114), .fieldAddr 7 (.t 113), (some (110, false))⟩, 0, [], []⟩,
  ⟨⟨(some 115), .load none (.t 114), (some (110, false))⟩, 1, [], []⟩,
  ⟨⟨(some 116), .bin .neq .no (.t 111) (.t 115), (some (110, false))⟩, 0, [], []⟩,
  ⟨⟨(some 117), .pick (.t 110) (.k (.sc (.bool true))) (.t 116), none⟩, 0, [], []⟩,
  ⟨⟨(some 118), .move (.t 117), none⟩, 0, [], []⟩,
  ⟨⟨(some 119), .move (.t 15), (some (118, false))⟩, 0, [], []⟩,
  ⟨⟨(some 120), .move (.t 9), (some (118, false))⟩, 0, [], []⟩,
  ⟨⟨(some 121), .nilCheck (.t 120), (some (118, false))⟩, 0, [], []⟩,
  ⟨⟨(some 122), .fieldAddr 5 (.t 121), (some (118, false))⟩, 0, [], []⟩,
  ⟨⟨(some 123), .load none (.t 122), (some (118, false))⟩, 1, [], []⟩,
  ⟨⟨(some 124), .bin .neq .bool (.t 119) (.t 123), (some (118, false))⟩, 0, [], []⟩,
  ⟨⟨(some 125), .pick (.t 118) (.k (.sc (.bool true))) (.t 124), none⟩, 0, [], []⟩,
  ⟨⟨(some 126), .move (.t 125), none⟩, 0, [], []⟩,
  ⟨⟨(some 127), .move (.t 7), (some (126, false))⟩, 0, [], []⟩,
  ⟨⟨(some 128), .call 16 [(.t 127)], (some (126, false))⟩, 2, [], []⟩,
  ⟨⟨(some 129), .move (.t 9), (some (126, false))⟩, 0, [49], []⟩,
  ⟨⟨(some 130), .call 28 [(.t 129)], (some (126, false))⟩, 2, [], []⟩,
  ⟨⟨(some 131), .bin .neq .no (.t 128) (.t 130), (some (126, false))⟩, 0, [], []⟩,
  ⟨⟨(some 132), .pick (.t 126) (.k (.sc (.bool true))) (.t 131), none⟩, 0, [], []⟩]
def m6_r17 : List MI := [
  ⟨(some 6), .move (.k (.sc (.bool false))), none⟩]
def m6_r18 : List DI := [
  ⟨⟨(some 133), .move (.t 7), none⟩, 0, [], []⟩,
  ⟨⟨(some 134), .call 22 [(.t 133)], none⟩, 2, [], []⟩,
  ⟨⟨(some 135), .call 24 [(.t 134)], none⟩, 2, [], []⟩,
  ⟨⟨(some 136), .move (.t 9), none⟩, 0, [1, 2], []⟩,
  ⟨⟨(some 137), .nilCheck (.t 136), none⟩, 0, [1, 2], []⟩,
  ⟨⟨(some 138), .fieldAddr 0 (.t 137), none⟩, 0, [1, 2], []⟩,
  ⟨⟨(some 139), .load none (.t 138), none⟩, 1, [1, 2], []⟩,
  ⟨⟨(some 140), .move (.t 9), none⟩, 0, [1, 2], []⟩,
  ⟨⟨(some 141), .nilCheck (.t 140), none⟩, 0, [1, 2], []⟩,
  ⟨⟨(some 142), .fieldAddr 2 (.t 141), none⟩, 0, [1, 2], []⟩,
  ⟨⟨(some 143), .load none (.t 142), none⟩, 1, [1, 2], []⟩,
  ⟨⟨(some 144), .move (.t 9), none⟩, 0, [1, 2], []⟩,
  ⟨⟨(some 145), .nilCheck (.t 144), none⟩, 0, [1, 2], []⟩,
  ⟨⟨(some 146), .fieldAddr 2 (.t 145), none⟩, 0, [1, 2], []⟩,
  ⟨⟨(some 147), .load none (.t 146), none⟩, 1, [1, 2], []⟩,
  ⟨⟨(some 148), .move (.t 9), none⟩, 0, [1, 2], []⟩,
  ⟨⟨(some 149), .nilCheck (.t 148), none⟩, 0, [1, 2], []⟩,
  ⟨⟨(some 150), .fieldAddr 1 (.t 149), none⟩, 0, [1, 2], []⟩,
  ⟨⟨(some 151), .load none (.t 150), none⟩, 1, [1, 2], []⟩,
  ⟨⟨(some 152), .bin .add .no (.t 147) (.t 151), none⟩, 0, [1, 2], []⟩,
  ⟨⟨(some 153), .move (.t 9), none⟩, 0, [1, 2], []⟩,
  ⟨⟨(some 154), .nilCheck (.t 153), none⟩, 0, [1, 2], []⟩,
  ⟨⟨(some 155), .fieldAddr 0 (.t 154), none⟩, 0, [1, 2], []⟩,
  ⟨⟨(some 156), .load none (.t 155), none⟩, 1, [1, 2], []⟩,
  ⟨⟨(some 157), .lenSlice (.t 156), none⟩, 0, [1, 2], []⟩,
  ⟨⟨(some 158), .min [(.t 152), (.t 157)], none⟩, 0, [1, 2], []⟩,
  ⟨⟨(some 159), .slice 3 (.t 139) (some (.t 143)) (some (.t 158)), none⟩, 0, [1, 2], []⟩,
  ⟨⟨(some 160), .call 29 [(.t 135), (.t 159)], none⟩, 2, [], []⟩,
  ⟨⟨(some 161), .un .not (.t 160), none⟩, 0, [], []⟩]
def m6_r19 : List MI := [
  ⟨(some 6), .move (.k (.sc (.bool false))), none⟩]
def m6_r20 : List MI := [
  ⟨(some 58), .move (.t 10), none⟩,
  ⟨(some 59), .bin .add .no (.t 58) (.k (.sc (.int .i64 1))), none⟩,
  ⟨(some 10), .move (.t 59), none⟩]
def m6_l10 : MCode := (.seq (.seq (.ops m6_r11) (.cond (.t 57) .skip (.exit 0))) (.seq (.block 1 (.seq (.seq (.ops m6_r12) (.cond (.t 67) (.seq (.ops m6_r13) .ret) .skip)) (.seq (.ops m6_r14) (.seq (.ops m6_r15) (.seq (.seq (.draw m6_r16) (.cond (.t 132) (.seq (.ops m6_r17) .ret) .skip)) (.seq (.draw m6_r18) (.cond (.t 161) (.seq (.ops m6_r19) .ret) .skip))))))) (.ops m6_r20)))
def m6_r21 : List MI := [
  ⟨(some 162), .call 10 [], none⟩,
  ⟨(some 6), .move (.t 162), none⟩]
def m6_code : MCode := (.seq (.ops m6_r0) (.seq (.seq (.ops m6_r1) (.cond (.t 22) (.seq (.ops m6_r2) .ret) .skip)) (.seq (.ops m6_r3) (.seq (.seq (.ops m6_r4) (.cond (.t 34) (.seq (.ops m6_r5) .ret) .skip)) (.seq (.seq (.ops m6_r6) (.cond (.t 49) (.seq (.ops m6_r7) .ret) .skip)) (.seq (.ops m6_r8) (.seq (.seq (.ops m6_r9) (.block 0 (.loop m6_l10))) (.seq (.ops m6_r21) .ret))))))))
def m6 : MFunc := ⟨163, [.tmp 6], m6_code⟩

def m7_r0 : List MI := [
  ⟨(some 1), .box 50 (.t 0), none⟩,
  ⟨(some 2), .move (.k (.sc (.bool false))), none⟩]
def m7_r1 : List MI := [
  ⟨(some 10), .build [.nils, .int .i64 0, .int .i64 0, .int .i64 0, .int .i64 0, .nilp] [], none⟩,
  ⟨(some 11), .box 61 (.t 10), none⟩,
  ⟨(some 12), .buildSlice 28 1 2 [.nilp] [(0, 1, (.k (.sc (.nilp)))), (1, 1, (.t 11))], none⟩,
  ⟨(some 13), .lenSlice (.t 12), none⟩,
  ⟨(some 14), .move (.k (.sc (.int .i64 0))), none⟩]
def m7_r3 : List MI := [
  ⟨(some 15), .bin .lss .no (.t 14) (.t 13), none⟩]
def m7_r4 : List MI := [
  ⟨(some 16), .indexSlice 1 (.t 12) (.t 14), none⟩,
  ⟨(some 17), .load none (.t 16), none⟩,
  ⟨(some 4), .move (.t 17), none⟩]
def m7_r5 : List MI := [
  ⟨(some 18), .move (.t 4), none⟩,
  ⟨(some 19), .fieldAddr 1 (.t 1), none⟩,
  ⟨(some 20), .load none (.t 19), none⟩,
  ⟨(some 21), .fieldAddr 2 (.t 1), none⟩,
  ⟨(some 22), .load none (.t 21), none⟩,
  ⟨(some 23), .call 12 [(.t 18), (.t 20), (.t 22)], none⟩]
def m7_r6 : List MI := [
  ⟨(some 24), .move (.t 4), none⟩,
  ⟨(some 25), .fieldAddr 1 (.t 1), none⟩,
  ⟨(some 26), .load none (.t 25), none⟩,
  ⟨(some 27), .fieldAddr 2 (.t 1), none⟩,
  ⟨(some 28), .load none (.t 27), none⟩,
  ⟨(some 29), .call 19 [(.t 24), (.t 26), (.t 28)], none⟩]
def m7_r7 : List MI := [
  ⟨(some 30), .move (.t 4), none⟩,
  ⟨(some 31), .call 15 [(.t 30)], none⟩]
def m7_r8 : List MI := [
  ⟨(some 32), .move (.t 4), none⟩,
  ⟨(some 33), .call 17 [(.t 32)], none⟩]
def m7_r9 : List MI := [
  ⟨(some 35), .move (.t 4), none⟩,
  ⟨(some 36), .call 14 [(.t 35)], none⟩,
  ⟨(some 34), .move (.t 36), none⟩,
  ⟨(some 37), .extract (.t 34) 0, none⟩,
  ⟨(some 38), .extract (.t 34) 1, none⟩,
  ⟨(some 5), .move (.t 37), none⟩,
  ⟨(some 6), .move (.t 38), none⟩]
def m7_r10 : List MI := [
  ⟨(some 40), .move (.t 4), none⟩,
  ⟨(some 41), .call 27 [(.t 40)], none⟩,
  ⟨(some 39), .move (.t 41), none⟩,
  ⟨(some 42), .extract (.t 39) 0, none⟩,
  ⟨(some 43), .extract (.t 39) 1, none⟩,
  ⟨(some 44), .extract (.t 39) 2, none⟩,
  ⟨(some 7), .move (.t 42), none⟩,
  ⟨(some 8), .move (.t 43), none⟩,
  ⟨(some 9), .move (.t 44), none⟩]
def m7_r11 : List MI := [
  ⟨(some 45), .move (.t 4), none⟩,
  ⟨(some 46), .fieldAddr 3 (.t 1), none⟩,
  ⟨(some 47), .load none (.t 46), none⟩,
  ⟨(some 48), .fieldAddr 1 (.t 1), none⟩,
  ⟨(some 49), .load none (.t 48), none⟩,
  ⟨(some 50), .bin .lss .no (.t 49) (.k (.sc (.int .i64 0))), none⟩,
  ⟨(some 51), .call 13 [(.t 45), (.t 47), (.t 50)], none⟩,
  ⟨(some 52), .bin .neq .no (.t 51) (.k (.sc (.int .i64 2))), none⟩,
  ⟨(some 53), .move (.t 52), none⟩,
  ⟨(some 54), .move (.t 5), (some (53, false))⟩,
  ⟨(some 55), .bin .neq .no (.t 54) (.k (.sc (.int .i64 0))), (some (53, false))⟩,
  ⟨(some 56), .pick (.t 53) (.k (.sc (.bool true))) (.t 55), none⟩,
  ⟨(some 57), .move (.t 56), none⟩,
  ⟨(some 58), .move (.t 6), (some (57, false))⟩,
  ⟨(some 59), .bin .neq .no (.t 58) (.k (.sc (.int .i64 0))), (some (57, false))⟩,
  ⟨(some 60), .pick (.t 57) (.k (.sc (.bool true))) (.t 59), none⟩,
  ⟨(some 61), .move (.t 60), none⟩,
  ⟨(some 62), .move (.t 7), (some (61, false))⟩,
  ⟨(some 63), .bin .neq .no (.t 62) (.k (.sc (.int .i64 0))), (some (61, false))⟩,
  ⟨(some 64), .pick (.t 61) (.k (.sc (.bool true))) (.t 63), none⟩,
  ⟨(some 65), .move (.t 64), none⟩,
  ⟨(some 66), .move (.t 8), (some (65, false))⟩,
  ⟨(some 67), .bin .neq .no (.t 66) (.k (.sc (.int .i64 0))), (some (65, false))⟩,
  ⟨(some 68), .pick (.t 65) (.k (.sc (.bool true))) (.t 67), none⟩,
  ⟨(some 69), .move (.t 68), none⟩,
  ⟨(some 70), .move (.t 9), (some (69, false))⟩,
  ⟨(some 71), .pick (.t 69) (.k (.sc (.bool true))) (.t 70), none⟩,
  ⟨(some 72), .move (.t 71), none⟩,
  ⟨(some 73), .move (.t 4), (some (72, false))⟩,
  ⟨(some 74), .call 20 [(.t 73)], (some (72, false))⟩,
  ⟨(some 75), .bin .neq .no (.t 74) (.k (.sc (.int .i64 0))), (some (72, false))⟩,
  ⟨(some 76), .pick (.t 72) (.k (.sc (.bool true))) (.t 75), none⟩,
  ⟨(some 77), .move (.t 76), none⟩,
  ⟨(some 78), .move (.t 4), (some (77, false))⟩,
  ⟨(some 79), .call 22 [(.t 78)], (some (77, false))⟩,
  ⟨(some 80), .lenSlice (.t 79), (some (77, false))⟩,
  ⟨(some 81), .bin .neq .no (.t 80) (.k (.sc (.int .i64 0))), (some (77, false))⟩,
  ⟨(some 82), .pick (.t 77) (.k (.sc (.bool true))) (.t 81), none⟩,
  ⟨(some 83), .move (.t 82), none⟩,
  ⟨(some 84), .move (.t 4), (some (83, false))⟩,
  ⟨(some 85), .call 16 [(.t 84)], (some (83, false))⟩,
  ⟨(some 86), .bin .neq .no (.t 85) (.k (.sc (.str []))), (some (83, false))⟩,
  ⟨(some 87), .pick (.t 83) (.k (.sc (.bool true))) (.t 86), none⟩]
def m7_r12 : List MI := [
  ⟨(some 2), .move (.k (.sc (.bool false))), none⟩]
def m7_r13 : List MI := [
  ⟨(some 88), .bin .add .no (.t 14) (.k (.sc (.int .i64 1))), none⟩,
  ⟨(some 14), .move (.t 88), none⟩]
def m7_l2 : MCode := (.seq (.ops m7_r3) (.seq (.cond (.t 15) .skip (.exit 0)) (.seq (.block 1 (.seq (.ops m7_r4) (.seq (.ops m7_r5) (.seq (.ops m7_r6) (.seq (.ops m7_r7) (.seq (.ops m7_r8) (.seq (.ops m7_r9) (.seq (.ops m7_r10) (.seq (.ops m7_r11) (.cond (.t 87) (.seq (.ops m7_r12) .ret) .skip)))))))))) (.ops m7_r13))))
def m7_r14 : List MI := [
  ⟨(some 89), .call 10 [], none⟩,
  ⟨(some 2), .move (.t 89), none⟩]
def m7_code : MCode := (.seq (.ops m7_r0) (.seq (.seq (.ops m7_r1) (.block 0 (.loop m7_l2))) (.seq (.ops m7_r14) .ret)))
def m7 : MFunc := ⟨90, [.tmp 2], m7_code⟩

def m8_r0 : List MI := [
  ⟨(some 6), .move (.k (.sc (.bool false))), none⟩]
def m8_r1 : List MI := [
  ⟨(some 25), .move (.t 0), none⟩,
  ⟨(some 26), .call 9 [(.t 25)], none⟩,
  ⟨(some 27), .move (.t 26), none⟩,
  ⟨(some 28), .move (.t 2), (some (27, false))⟩,
  ⟨(some 29), .lenSlice (.t 28), (some (27, false))⟩,
  ⟨(some 30), .bin .gtr .no (.t 29) (.k (.sc (.int .i64 60))), (some (27, false))⟩,
  ⟨(some 31), .pick (.t 27) (.k (.sc (.bool true))) (.t 30), none⟩]
def m8_r2 : List MI := [
  ⟨(some 32), .call 10 [], none⟩,
  ⟨(some 6), .move (.t 32), none⟩]
def m8_r3 : List MI := [
  ⟨(some 7), .move (.k (.sc (.nils))), none⟩]
def m8_r4 : List MI := [
  ⟨(some 8), .move (.k (.sc (.int .i64 0))), none⟩]
def m8_r6 : List MI := [
  ⟨(some 33), .move (.t 8), none⟩,
  ⟨(some 34), .move (.t 0), none⟩,
  ⟨(some 35), .lenSlice (.t 34), none⟩,
  ⟨(some 36), .bin .lss .no (.t 33) (.t 35), none⟩]
def m8_r7 : List DI := [
  ⟨⟨(some 39), .move (.t 7), none⟩, 0, [], [1, 7, 19]⟩,
  ⟨⟨(some 40), .buildSlice 71 7 0 [.int .i32 0, .int .u8 0, .int .u16 0, .int .u8 0, .int .u32 0, .int .u8 0, .int .u32 0] [], none⟩, 2, [], []⟩,
  ⟨⟨(some 41), .move (.t 0), none⟩, 0, [1], []⟩,
  ⟨⟨(some 42), .move (.t 8), none⟩, 0, [1], []⟩,
  ⟨⟨(some 43), .indexSlice 3 (.t 41) (.t 42), none⟩, 0, [1], []⟩,
  ⟨⟨(some 44), .fieldAddr 0 (.t 43), none⟩, 0, [1], []⟩,
  ⟨⟨(some 45), .load none (.t 44), none⟩, 1, [1], []⟩,
  ⟨⟨(some 46), .append 71 7 28 [.int .i32 0, .int .u8 0, .int .u16 0, .int .u8 0, .int .u32 0, .int .u8 0, .int .u32 0] (.t 40) (.t 45), none⟩, 2, [], []⟩,
  ⟨⟨(some 47), .move (.t 0), none⟩, 0, [1, 7], []⟩,
  ⟨⟨(some 48), .move (.t 8), none⟩, 0, [1, 7], []⟩,
  ⟨⟨(some 49), .indexSlice 3 (.t 47) (.t 48), none⟩, 0, [1, 7], []⟩,
  ⟨⟨(some 50), .fieldAddr 1 (.t 49), none⟩, 0, [1, 7], []⟩,
  ⟨⟨(some 51), .load none (.t 50), none⟩, 1, [1, 7], []⟩,
  ⟨⟨(some 52), .move (.t 0), none⟩, 0, [1, 7], []⟩,
  ⟨⟨(some 53), .move (.t 8), none⟩, 0, [1, 7], []⟩,
  ⟨⟨(some 54), .indexSlice 3 (.t 52) (.t 53), none⟩, 0, [1, 7], []⟩,
  ⟨⟨(some 55), .fieldAddr 2 (.t 54), none⟩, 0, [1, 7], []⟩,
  ⟨⟨(some 56), .load none (.t 55), none⟩, 1, [1, 7], []⟩,
  ⟨⟨(some 57), .build [.nils, .bool false, .bool false] [(0, 1, (.t 46)), (1, 1, (.t 51)), (2, 1, (.t 56))], none⟩, 0, [], []⟩,
  ⟨⟨(some 58), .buildSlice 27 3 1 [.nils, .bool false, .bool false] [(0, 3, (.t 57))], none⟩, 2, [], []⟩,
  ⟨⟨(some 59), .append 27 3 32 [.nils, .bool false, .bool false] (.t 39) (.t 58), none⟩, 2, [], []⟩,
  ⟨⟨(some 7), .move (.t 59), none⟩, 0, [], []⟩]
def m8_r8 : List MI := [
  ⟨(some 37), .move (.t 8), none⟩,
  ⟨(some 38), .bin .add .no (.t 37) (.k (.sc (.int .i64 1))), none⟩,
  ⟨(some 8), .move (.t 38), none⟩]
def m8_l5 : MCode := (.seq (.seq (.ops m8_r6) (.cond (.t 36) .skip (.exit 0))) (.seq (.block 1 (.draw m8_r7)) (.ops m8_r8)))
def m8_r9 : List MI := [
  ⟨(some 61), .move (.t 7), none⟩,
  ⟨(some 62), .move (.t 1), none⟩,
  ⟨(some 63), .call 11 [(.t 61), (.t 62)], none⟩,
  ⟨(some 60), .move (.t 63), none⟩,
  ⟨(some 64), .extract (.t 60) 0, none⟩,
  ⟨(some 65), .extract (.t 60) 1, none⟩,
  ⟨(some 9), .move (.t 64), none⟩,
  ⟨(some 10), .move (.t 65), none⟩]
def m8_r10 : List MI := [
  ⟨(some 67), .move (.t 0), none⟩,
  ⟨(some 68), .move (.t 1), none⟩,
  ⟨(some 69), .call 11 [(.t 67), (.t 68)], none⟩,
  ⟨(some 66), .move (.t 69), none⟩,
  ⟨(some 70), .extract (.t 66) 0, none⟩,
  ⟨(some 71), .extract (.t 66) 1, none⟩,
  ⟨(some 11), .move (.t 70), none⟩,
  ⟨(some 12), .move (.t 71), none⟩]
def m8_r11 : List MI := [
  ⟨(some 72), .move (.t 10), none⟩,
  ⟨(some 73), .bin .neq .no (.t 72) (.k (.sc (.int .i64 0))), none⟩,
  ⟨(some 74), .move (.t 73), none⟩,
  ⟨(some 75), .move (.t 12), (some (74, false))⟩,
  ⟨(some 76), .bin .neq .no (.t 75) (.k (.sc (.int .i64 0))), (some (74, false))⟩,
  ⟨(some 77), .pick (.t 74) (.k (.sc (.bool true))) (.t 76), none⟩]
def m8_r12 : List MI := [
  ⟨(some 78), .move (.t 10), none⟩,
  ⟨(some 79), .move (.t 12), none⟩,
  ⟨(some 80), .bin .eql .no (.t 78) (.t 79), none⟩,
  ⟨(some 81), .move (.t 80), none⟩,
  ⟨(some 82), .call 10 [], (some (81, true))⟩,
  ⟨(some 83), .pick (.t 81) (.t 82) (.k (.sc (.bool false))), none⟩,
  ⟨(some 6), .move (.t 83), none⟩]
def m8_r13 : List MI := [
  ⟨(some 13), .move (.k (.sc (.int .i64 0))), none⟩]
def m8_r15 : List MI := [
  ⟨(some 84), .move (.t 13), none⟩,
  ⟨(some 85), .move (.t 7), none⟩,
  ⟨(some 86), .lenSlice (.t 85), none⟩,
  ⟨(some 87), .bin .lss .no (.t 84) (.t 86), none⟩]
def m8_r16 : List MI := [
  ⟨(some 90), .move (.t 7), none⟩,
  ⟨(some 91), .move (.t 13), none⟩,
  ⟨(some 92), .move (.t 7), none⟩,
  ⟨(some 93), .move (.t 13), none⟩,
  ⟨(some 94), .indexSlice 3 (.t 92) (.t 93), none⟩,
  ⟨(some 95), .fieldAddr 1 (.t 94), none⟩,
  ⟨(some 96), .load none (.t 95), none⟩,
  ⟨(some 97), .un .not (.t 96), none⟩,
  ⟨(some 98), .indexSlice 3 (.t 90) (.t 91), none⟩,
  ⟨(some 99), .fieldAddr 1 (.t 98), none⟩,
  ⟨none, .store 1 (.t 99) (.t 97), none⟩]
def m8_r17 : List MI := [
  ⟨(some 14), .move (.k (.sc (.int .i64 0))), none⟩]
def m8_r19 : List MI := [
  ⟨(some 100), .move (.t 14), none⟩,
  ⟨(some 101), .move (.t 7), none⟩,
  ⟨(some 102), .move (.t 13), none⟩,
  ⟨(some 103), .indexSlice 3 (.t 101) (.t 102), none⟩,
  ⟨(some 104), .fieldAddr 0 (.t 103), none⟩,
  ⟨(some 105), .load none (.t 104), none⟩,
  ⟨(some 106), .lenSlice (.t 105), none⟩,
  ⟨(some 107), .bin .lss .no (.t 100) (.t 106), none⟩]
def m8_r20 : List MI := [
  ⟨(some 110), .move (.t 7), none⟩,
  ⟨(some 111), .move (.t 13), none⟩,
  ⟨(some 112), .indexSlice 3 (.t 110) (.t 111), none⟩,
  ⟨(some 113), .fieldAddr 0 (.t 112), none⟩,
  ⟨(some 114), .load none (.t 113), none⟩,
  ⟨(some 115), .move (.t 14), none⟩,
  ⟨(some 116), .build [.int .i32 0, .int .u8 0, .int .u16 0, .int .u8 0, .int .u32 0, .int .u8 0, .int .u32 0] [(0, 1, (.k (.sc (.int .i32 122))))], none⟩,
  ⟨(some 117), .indexSlice 7 (.t 114) (.t 115), none⟩,
  ⟨none, .store 7 (.t 117) (.t 116), none⟩]
def m8_r21 : List MI := [
  ⟨(some 108), .move (.t 14), none⟩,
  ⟨(some 109), .bin .add .no (.t 108) (.k (.sc (.int .i64 1))), none⟩,
  ⟨(some 14), .move (.t 109), none⟩]
def m8_l18 : MCode := (.seq (.seq (.ops m8_r19) (.cond (.t 107) .skip (.exit 4))) (.seq (.block 5 (.ops m8_r20)) (.ops m8_r21)))
def m8_r22 : List MI := [
  ⟨(some 88), .move (.t 13), none⟩,
  ⟨(some 89), .bin .add .no (.t 88) (.k (.sc (.int .i64 1))), none⟩,
  ⟨(some 13), .move (.t 89), none⟩]
def m8_l14 : MCode := (.seq (.seq (.ops m8_r15) (.cond (.t 87) .skip (.exit 2))) (.seq (.block 3 (.seq (.ops m8_r16) (.seq (.ops m8_r17) (.block 4 (.loop m8_l18))))) (.ops m8_r22)))
def m8_r23 : List MI := [
  ⟨(some 15), .move (.k (.sc (.int .i64 0))), none⟩]
def m8_r25 : List MI := [
  ⟨(some 118), .move (.t 15), none⟩,
  ⟨(some 119), .move (.t 2), none⟩,
  ⟨(some 120), .lenSlice (.t 119), none⟩,
  ⟨(some 121), .bin .lss .no (.t 118) (.t 120), none⟩]
def m8_r26 : List MI := [
  ⟨(some 124), .move (.t 9), none⟩,
  ⟨(some 125), .move (.t 11), none⟩,
  ⟨(some 126), .buildSlice 28 1 2 [.nilp] [(0, 1, (.t 124)), (1, 1, (.t 125))], none⟩,
  ⟨(some 127), .lenSlice (.t 126), none⟩,
  ⟨(some 128), .move (.k (.sc (.int .i64 0))), none⟩]
def m8_r28 : List MI := [
  ⟨(some 129), .bin .lss .no (.t 128) (.t 127), none⟩]
def m8_r29 : List MI := [
  ⟨(some 130), .indexSlice 1 (.t 126) (.t 128), none⟩,
  ⟨(some 131), .load none (.t 130), none⟩,
  ⟨(some 17), .move (.t 131), none⟩]
def m8_r30 : List MI := [
  ⟨(some 132), .move (.t 2), none⟩,
  ⟨(some 133), .move (.t 15), none⟩,
  ⟨(some 134), .indexSlice 4 (.t 132) (.t 133), none⟩,
  ⟨(some 135), .fieldAddr 0 (.t 134), none⟩,
  ⟨(some 136), .load none (.t 135), none⟩]
def m8_r31 : List MI := [
  ⟨(some 138), .bin .eql .no (.t 136) (.k (.sc (.int .u8 0))), none⟩,
  ⟨(some 137), .move (.t 138), none⟩]
def m8_r32 : List DI := [
  ⟨⟨(some 139), .move (.t 17), none⟩, 0, [], []⟩,
  ⟨⟨(some 140), .move (.t 2), none⟩, 0, [], []⟩,
  ⟨⟨(some 141), .move (.t 15), none⟩, 0, [], []⟩,
  ⟨⟨(some 142), .indexSlice 4 (.t 140) (.t 141), none⟩, 0, [], []⟩,
  ⟨⟨(some 143), .fieldAddr 1 (.t 142), none⟩, 0, [], []⟩,
  ⟨⟨(some 144), .load none (.t 143), none⟩, 1, [], []⟩,
  ⟨⟨(some 145), .move (.t 2), none⟩, 0, [], []⟩,
  ⟨⟨(some 146), .move (.t 15), none⟩, 0, [], []⟩,
  ⟨⟨(some 147), .indexSlice 4 (.t 145) (.t 146), none⟩, 0, [], []⟩,
  ⟨⟨(some 148), .fieldAddr 2 (.t 147), none⟩, 0, [], []⟩,
  ⟨⟨(some 149), .load none (.t 148), none⟩, 1, [], []⟩,
  ⟨⟨(some 150), .call 12 [(.t 139), (.t 144), (.t 149)], none⟩, 2, [], []⟩]
def m8_r33 : List MI := [
  ⟨(some 152), .bin .eql .no (.t 136) (.k (.sc (.int .u8 1))), none⟩,
  ⟨(some 151), .move (.t 152), none⟩]
def m8_r34 : List DI := [
  ⟨⟨(some 153), .move (.t 17), none⟩, 0, [], []⟩,
  ⟨⟨(some 154), .move (.t 2), none⟩, 0, [], []⟩,
  ⟨⟨(some 155), .move (.t 15), none⟩, 0, [], []⟩,
  ⟨⟨(some 156), .indexSlice 4 (.t 154) (.t 155), none⟩, 0, [], []⟩,
  ⟨⟨(some 157), .fieldAddr 1 (.t 156), none⟩, 0, [], []⟩,
  ⟨⟨(some 158), .load none (.t 157), none⟩, 1, [], []⟩,
  ⟨⟨(some 159), .move (.t 2), none⟩, 0, [], []⟩,
  ⟨⟨(some 160), .move (.t 15), none⟩, 0, [], []⟩,
  ⟨⟨(some 161), .indexSlice 4 (.t 159) (.t 160), none⟩, 0, [], []⟩,
  ⟨⟨(some 162), .fieldAddr 2 (.t 161), none⟩, 0, [], []⟩,
  ⟨⟨(some 163), .load none (.t 162), none⟩, 1, [], []⟩,
  ⟨⟨(some 164), .call 19 [(.t 153), (.t 158), (.t 163)], none⟩, 2, [], []⟩]
def m8_r35 : List MI := [
  ⟨(some 166), .bin .eql .no (.t 136) (.k (.sc (.int .u8 2))), none⟩,
  ⟨(some 165), .move (.t 166), none⟩]
def m8_r36 : List MI := [
  ⟨(some 167), .move (.t 17), none⟩,
  ⟨(some 168), .call 15 [(.t 167)], none⟩]
def m8_r37 : List MI := [
  ⟨(some 170), .bin .eql .no (.t 136) (.k (.sc (.int .u8 3))), none⟩,
  ⟨(some 169), .move (.t 170), none⟩]
def m8_r38 : List MI := [
  ⟨(some 171), .move (.t 17), none⟩,
  ⟨(some 172), .call 17 [(.t 171)], none⟩]
def m8_r39 : List MI := [
  ⟨(some 174), .bin .eql .no (.t 136) (.k (.sc (.int .u8 4))), none⟩,
  ⟨(some 173), .move (.t 174), none⟩]
def m8_r40 : List DI := [
  ⟨⟨(some 175), .move (.t 17), none⟩, 0, [], []⟩,
  ⟨⟨(some 176), .move (.t 2), none⟩, 0, [], []⟩,
  ⟨⟨(some 177), .move (.t 15), none⟩, 0, [], []⟩,
  ⟨⟨(some 178), .indexSlice 4 (.t 176) (.t 177), none⟩, 0, [], []⟩,
  ⟨⟨(some 179), .fieldAddr 3 (.t 178), none⟩, 0, [], []⟩,
  ⟨⟨(some 180), .load none (.t 179), none⟩, 1, [], []⟩,
  ⟨⟨(some 181), .move (.t 2), none⟩, 0, [], []⟩,
  ⟨⟨(some 182), .move (.t 15), none⟩, 0, [], []⟩,
  ⟨⟨(some 183), .indexSlice 4 (.t 181) (.t 182), none⟩, 0, [], []⟩,
  ⟨⟨(some 184), .fieldAddr 1 (.t 183), none⟩, 0, [], []⟩,
  ⟨⟨(some 185), .load none (.t 184), none⟩, 1, [], []⟩,
  ⟨⟨(some 186), .bin .lss .no (.t 185) (.k (.sc (.int .i64 0))), none⟩, 0, [], []⟩,
  ⟨⟨(some 187), .call 13 [(.t 175), (.t 180), (.t 186)], none⟩, 2, [], []⟩]
def m8_r41 : List MI := [
  ⟨(some 188), .bin .add .no (.t 128) (.k (.sc (.int .i64 1))), none⟩,
  ⟨(some 128), .move (.t 188), none⟩]
def m8_l27 : MCode := (.seq (.ops m8_r28) (.seq (.cond (.t 129) .skip (.exit 8)) (.seq (.block 9 (.seq (.ops m8_r29) (.seq (.ops m8_r30) (.block 10 (.seq (.ops m8_r31) (.cond (.t 137) (.draw m8_r32) (.seq (.ops m8_r33) (.cond (.t 151) (.draw m8_r34) (.seq (.ops m8_r35) (.cond (.t 165) (.ops m8_r36) (.seq (.ops m8_r37) (.cond (.t 169) (.ops m8_r38) (.seq (.ops m8_r39) (.cond (.t 173) (.draw m8_r40) .skip)))))))))))))) (.ops m8_r41))))
def m8_r42 : List MI := [
  ⟨(some 189), .move (.t 9), none⟩,
  ⟨(some 190), .call 22 [(.t 189)], none⟩,
  ⟨(some 18), .move (.t 190), none⟩]
def m8_r43 : List MI := [
  ⟨(some 19), .move (.k (.sc (.int .i64 0))), none⟩]
def m8_r45 : List MI := [
  ⟨(some 191), .move (.t 19), none⟩,
  ⟨(some 192), .move (.t 18), none⟩,
  ⟨(some 193), .lenSlice (.t 192), none⟩,
  ⟨(some 194), .bin .lss .no (.t 191) (.t 193), none⟩]
def m8_r46 : List MI := [
  ⟨(some 20), .move (.k (.sc (.int .i64 0))), none⟩]
def m8_r48 : List MI := [
  ⟨(some 197), .move (.t 20), none⟩,
  ⟨(some 198), .move (.t 18), none⟩,
  ⟨(some 199), .move (.t 19), none⟩,
  ⟨(some 200), .indexSlice 3 (.t 198) (.t 199), none⟩,
  ⟨(some 201), .fieldAddr 0 (.t 200), none⟩,
  ⟨(some 202), .load none (.t 201), none⟩,
  ⟨(some 203), .lenSlice (.t 202), none⟩,
  ⟨(some 204), .bin .lss .no (.t 197) (.t 203), none⟩]
def m8_r49 : List MI := [
  ⟨(some 207), .move (.t 18), none⟩,
  ⟨(some 208), .move (.t 19), none⟩,
  ⟨(some 209), .indexSlice 3 (.t 207) (.t 208), none⟩,
  ⟨(some 210), .fieldAddr 0 (.t 209), none⟩,
  ⟨(some 211), .load none (.t 210), none⟩,
  ⟨(some 212), .move (.t 20), none⟩,
  ⟨(some 213), .indexSlice 7 (.t 211) (.t 212), none⟩,
  ⟨(some 214), .fieldAddr 0 (.t 213), none⟩,
  ⟨none, .store 1 (.t 214) (.k (.sc (.int .i32 121))), none⟩]
def m8_r50 : List MI := [
  ⟨(some 205), .move (.t 20), none⟩,
  ⟨(some 206), .bin .add .no (.t 205) (.k (.sc (.int .i64 1))), none⟩,
  ⟨(some 20), .move (.t 206), none⟩]
def m8_l47 : MCode := (.seq (.seq (.ops m8_r48) (.cond (.t 204) .skip (.exit 13))) (.seq (.block 14 (.ops m8_r49)) (.ops m8_r50)))
def m8_r51 : List MI := [
  ⟨(some 195), .move (.t 19), none⟩,
  ⟨(some 196), .bin .add .no (.t 195) (.k (.sc (.int .i64 1))), none⟩,
  ⟨(some 19), .move (.t 196), none⟩]
def m8_l44 : MCode := (.seq (.seq (.ops m8_r45) (.cond (.t 194) .skip (.exit 11))) (.seq (.block 12 (.seq (.ops m8_r46) (.block 13 (.loop m8_l47)))) (.ops m8_r51)))
def m8_r52 : List MI := [
  ⟨(some 216), .move (.t 9), none⟩,
  ⟨(some 217), .call 14 [(.t 216)], none⟩,
  ⟨(some 215), .move (.t 217), none⟩,
  ⟨(some 218), .extract (.t 215) 0, none⟩,
  ⟨(some 219), .extract (.t 215) 1, none⟩,
  ⟨(some 21), .move (.t 218), none⟩,
  ⟨(some 22), .move (.t 219), none⟩]
def m8_r53 : List MI := [
  ⟨(some 221), .move (.t 11), none⟩,
  ⟨(some 222), .call 14 [(.t 221)], none⟩,
  ⟨(some 220), .move (.t 222), none⟩,
  ⟨(some 223), .extract (.t 220) 0, none⟩,
  ⟨(some 224), .extract (.t 220) 1, none⟩,
  ⟨(some 23), .move (.t 223), none⟩,
  ⟨(some 24), .move (.t 224), none⟩]
def m8_r54 : List MI := [
  ⟨(some 225), .move (.t 21), none⟩,
  ⟨(some 226), .move (.t 23), none⟩,
  ⟨(some 227), .bin .neq .no (.t 225) (.t 226), none⟩,
  ⟨(some 228), .move (.t 227), none⟩,
  ⟨(some 229), .move (.t 22), (some (228, false))⟩,
  ⟨(some 230), .move (.t 24), (some (228, false))⟩,
  ⟨(some 231), .bin .neq .no (.t 229) (.t 230), (some (228, false))⟩,
  ⟨(some 232), .pick (.t 228) (.k (.sc (.bool true))) (.t 231), none⟩,
  ⟨(some 233), .move (.t 232), none⟩,
  ⟨(some 234), .move (.t 9), (some (233, false))⟩,
  ⟨(some 235), .call 16 [(.t 234)], (some (233, false))⟩,
  ⟨(some 236), .move (.t 11), (some (233, false))⟩,
  ⟨(some 237), .call 16 [(.t 236)], (some (233, false))⟩,
  ⟨(some 238), .bin .neq .no (.t 235) (.t 237), (some (233, false))⟩,
  ⟨(some 239), .pick (.t 233) (.k (.sc (.bool true))) (.t 238), none⟩,
  ⟨(some 240), .move (.t 239), none⟩,
  ⟨(some 241), .move (.t 9), (some (240, false))⟩,
  ⟨(some 242), .call 20 [(.t 241)], (some (240, false))⟩,
  ⟨(some 243), .move (.t 11), (some (240, false))⟩,
  ⟨(some 244), .call 20 [(.t 243)], (some (240, false))⟩,
  ⟨(some 245), .bin .neq .no (.t 242) (.t 244), (some (240, false))⟩,
  ⟨(some 246), .pick (.t 240) (.k (.sc (.bool true))) (.t 245), none⟩,
  ⟨(some 247), .move (.t 246), none⟩,
  ⟨(some 248), .move (.t 22), (some (247, false))⟩,
  ⟨(some 249), .move (.t 9), (some (247, false))⟩,
  ⟨(some 250), .call 20 [(.t 249)], (some (247, false))⟩,
  ⟨(some 251), .bin .lss .no (.t 248) (.t 250), (some (247, false))⟩,
  ⟨(some 252), .pick (.t 247) (.k (.sc (.bool true))) (.t 251), none⟩,
  ⟨(some 253), .move (.t 252), none⟩,
  ⟨(some 254), .move (.t 22), (some (253, false))⟩,
  ⟨(some 255), .move (.t 9), (some (253, false))⟩,
  ⟨(some 256), .call 20 [(.t 255)], (some (253, false))⟩,
  ⟨(some 257), .move (.t 1), (some (253, false))⟩,
  ⟨(some 258), .bin .add .no (.t 256) (.t 257), (some (253, false))⟩,
  ⟨(some 259), .bin .geq .no (.t 254) (.t 258), (some (253, false))⟩,
  ⟨(some 260), .pick (.t 253) (.k (.sc (.bool true))) (.t 259), none⟩,
  ⟨(some 261), .move (.t 260), none⟩,
  ⟨(some 262), .move (.t 18), (some (261, false))⟩,
  ⟨(some 263), .lenSlice (.t 262), (some (261, false))⟩,
  ⟨(some 264), .bin .lss .no (.t 263) (.k (.sc (.int .i64 1))), (some (261, false))⟩,
  ⟨(some 265), .pick (.t 261) (.k (.sc (.bool true))) (.t 264), none⟩]
def m8_r55 : List MI := [
  ⟨(some 6), .move (.k (.sc (.bool false))), none⟩]
def m8_r56 : List MI := [
  ⟨(some 122), .move (.t 15), none⟩,
  ⟨(some 123), .bin .add .no (.t 122) (.k (.sc (.int .i64 1))), none⟩,
  ⟨(some 15), .move (.t 123), none⟩]
def m8_l24 : MCode := (.seq (.seq (.ops m8_r25) (.cond (.t 121) .skip (.exit 6))) (.seq (.block 7 (.seq (.seq (.ops m8_r26) (.block 8 (.loop m8_l27))) (.seq (.ops m8_r42) (.seq (.seq (.ops m8_r43) (.block 11 (.loop m8_l44))) (.seq (.ops m8_r52) (.seq (.ops m8_r53) (.seq (.ops m8_r54) (.cond (.t 265) (.seq (.ops m8_r55) .ret) .skip)))))))) (.ops m8_r56)))
def m8_r57 : List MI := [
  ⟨(some 266), .call 10 [], none⟩,
  ⟨(some 6), .move (.t 266), none⟩]
def m8_code : MCode := (.seq (.ops m8_r0) (.seq (.seq (.ops m8_r1) (.cond (.t 31) (.seq (.ops m8_r2) .ret) .skip)) (.seq (.ops m8_r3) (.seq (.seq (.ops m8_r4) (.block 0 (.loop m8_l5))) (.seq (.ops m8_r9) (.seq (.ops m8_r10) (.seq (.seq (.ops m8_r11) (.cond (.t 77) (.seq (.ops m8_r12) .ret) .skip)) (.seq (.seq (.ops m8_r13) (.block 2 (.loop m8_l14))) (.seq (.seq (.ops m8_r23) (.block 6 (.loop m8_l24))) (.seq (.ops m8_r57) .ret))))))))))
def m8 : MFunc := ⟨267, [.tmp 6], m8_code⟩

def m9_r0 : List MI := [
  ⟨(some 2), .move (.k (.sc (.bool false))), none⟩]
def m9_r1 : List MI := [
  ⟨(some 4), .move (.t 0), none⟩,
  ⟨(some 5), .lenSlice (.t 4), none⟩,
  ⟨(some 6), .bin .gtr .no (.t 5) (.k (.sc (.int .i64 25))), none⟩]
def m9_r2 : List MI := [
  ⟨(some 2), .move (.k (.sc (.bool true))), none⟩]
def m9_r3 : List MI := [
  ⟨(some 3), .move (.k (.sc (.int .i64 0))), none⟩]
def m9_r5 : List MI := [
  ⟨(some 7), .move (.t 3), none⟩,
  ⟨(some 8), .move (.t 0), none⟩,
  ⟨(some 9), .lenSlice (.t 8), none⟩,
  ⟨(some 10), .bin .lss .no (.t 7) (.t 9), none⟩]
def m9_r6 : List MI := [
  ⟨(some 13), .move (.t 0), none⟩,
  ⟨(some 14), .move (.t 3), none⟩,
  ⟨(some 15), .indexSlice 3 (.t 13) (.t 14), none⟩,
  ⟨(some 16), .fieldAddr 0 (.t 15), none⟩,
  ⟨(some 17), .load none (.t 16), none⟩,
  ⟨(some 18), .lenSlice (.t 17), none⟩,
  ⟨(some 19), .bin .gtr .no (.t 18) (.k (.sc (.int .i64 30))), none⟩]
def m9_r7 : List MI := [
  ⟨(some 2), .move (.k (.sc (.bool true))), none⟩]
def m9_r8 : List MI := [
  ⟨(some 11), .move (.t 3), none⟩,
  ⟨(some 12), .bin .add .no (.t 11) (.k (.sc (.int .i64 1))), none⟩,
  ⟨(some 3), .move (.t 12), none⟩]
def m9_l4 : MCode := (.seq (.seq (.ops m9_r5) (.cond (.t 10) .skip (.exit 0))) (.seq (.block 1 (.seq (.ops m9_r6) (.cond (.t 19) (.seq (.ops m9_r7) .ret) .skip))) (.ops m9_r8)))
def m9_r9 : List MI := [
  ⟨(some 2), .move (.k (.sc (.bool false))), none⟩]
def m9_code : MCode := (.seq (.ops m9_r0) (.seq (.seq (.ops m9_r1) (.cond (.t 6) (.seq (.ops m9_r2) .ret) .skip)) (.seq (.seq (.ops m9_r3) (.block 0 (.loop m9_l4))) (.seq (.ops m9_r9) .ret))))
def m9 : MFunc := ⟨20, [.tmp 2], m9_code⟩

def m10_r0 : List MI := [
  ⟨(some 0), .move (.k (.sc (.bool false))), none⟩]
def m10_r1 : List MI := [
  ⟨(some 10), .call 18 [], none⟩,
  ⟨(some 11), .call 11 [(.t 10), (.k (.sc (.int .i64 2)))], none⟩,
  ⟨(some 9), .move (.t 11), none⟩,
  ⟨(some 12), .extract (.t 9) 0, none⟩,
  ⟨(some 13), .extract (.t 9) 1, none⟩,
  ⟨(some 1), .move (.t 12), none⟩,
  ⟨(some 2), .move (.t 13), none⟩]
def m10_r2 : List MI := [
  ⟨(some 14), .move (.t 2), none⟩,
  ⟨(some 15), .bin .neq .no (.t 14) (.k (.sc (.int .i64 0))), none⟩,
  ⟨(some 16), .move (.t 15), none⟩,
  ⟨(some 17), .move (.t 1), (some (16, false))⟩,
  ⟨(some 18), .bin .eql .ptr (.t 17) (.k (.sc (.nilp))), (some (16, false))⟩,
  ⟨(some 19), .pick (.t 16) (.k (.sc (.bool true))) (.t 18), none⟩]
def m10_r3 : List MI := [
  ⟨(some 0), .move (.k (.sc (.bool false))), none⟩]
def m10_r4 : List MI := [
  ⟨(some 21), .move (.t 1), none⟩,
  ⟨(some 22), .call 14 [(.t 21)], none⟩,
  ⟨(some 20), .move (.t 22), none⟩,
  ⟨(some 23), .extract (.t 20) 0, none⟩,
  ⟨(some 24), .extract (.t 20) 1, none⟩,
  ⟨(some 3), .move (.t 23), none⟩,
  ⟨(some 4), .move (.t 24), none⟩]
def m10_r5 : List MI := [
  ⟨(some 25), .move (.t 1), none⟩,
  ⟨(some 26), .call 20 [(.t 25)], none⟩,
  ⟨(some 5), .move (.t 26), none⟩]
def m10_r6 : List MI := [
  ⟨(some 27), .move (.t 1), none⟩,
  ⟨(some 28), .call 12 [(.t 27), (.k (.sc (.int .i64 1))), (.k (.sc (.int .i64 0)))], none⟩]
def m10_r7 : List MI := [
  ⟨(some 29), .move (.t 1), none⟩,
  ⟨(some 30), .call 15 [(.t 29)], none⟩]
def m10_r8 : List MI := [
  ⟨(some 31), .move (.t 1), none⟩,
  ⟨(some 32), .call 12 [(.t 31), (.k (.sc (.int .i64 0))), (.k (.sc (.int .i64 2)))], none⟩]
def m10_r9 : List MI := [
  ⟨(some 34), .move (.t 1), none⟩,
  ⟨(some 35), .call 27 [(.t 34)], none⟩,
  ⟨(some 33), .move (.t 35), none⟩,
  ⟨(some 36), .extract (.t 33) 0, none⟩,
  ⟨(some 37), .extract (.t 33) 1, none⟩,
  ⟨(some 38), .extract (.t 33) 2, none⟩,
  ⟨(some 6), .move (.t 36), none⟩,
  ⟨(some 7), .move (.t 37), none⟩,
  ⟨(some 8), .move (.t 38), none⟩]
def m10_r10 : List MI := [
  ⟨(some 39), .move (.t 3), none⟩,
  ⟨(some 40), .bin .eql .no (.t 39) (.k (.sc (.int .i64 0))), none⟩,
  ⟨(some 41), .move (.t 40), none⟩,
  ⟨(some 42), .move (.t 4), (some (41, true))⟩,
  ⟨(some 43), .bin .eql .no (.t 42) (.k (.sc (.int .i64 2))), (some (41, true))⟩,
  ⟨(some 44), .pick (.t 41) (.t 43) (.k (.sc (.bool false))), none⟩,
  ⟨(some 45), .move (.t 44), none⟩,
  ⟨(some 46), .move (.t 5), (some (45, true))⟩,
  ⟨(some 47), .bin .eql .no (.t 46) (.k (.sc (.int .i64 1))), (some (45, true))⟩,
  ⟨(some 48), .pick (.t 45) (.t 47) (.k (.sc (.bool false))), none⟩,
  ⟨(some 49), .move (.t 48), none⟩,
  ⟨(some 50), .move (.t 1), (some (49, true))⟩,
  ⟨(some 51), .call 16 [(.t 50)], (some (49, true))⟩,
  ⟨(some 52), .bin .eql .no (.t 51) (.k (.sc (.str [98, 99, 100, 101, 102, 10, 103]))), (some (49, true))⟩,
  ⟨(some 53), .pick (.t 49) (.t 52) (.k (.sc (.bool false))), none⟩,
  ⟨(some 54), .move (.t 53), none⟩,
  ⟨(some 55), .move (.t 1), (some (54, true))⟩,
  ⟨(some 56), .call 20 [(.t 55)], (some (54, true))⟩,
  ⟨(some 57), .bin .eql .no (.t 56) (.k (.sc (.int .i64 1))), (some (54, true))⟩,
  ⟨(some 58), .pick (.t 54) (.t 57) (.k (.sc (.bool false))), none⟩,
  ⟨(some 59), .move (.t 58), none⟩,
  ⟨(some 60), .move (.t 6), (some (59, true))⟩,
  ⟨(some 61), .bin .eql .no (.t 60) (.k (.sc (.int .i64 1))), (some (59, true))⟩,
  ⟨(some 62), .pick (.t 59) (.t 61) (.k (.sc (.bool false))), none⟩,
  ⟨(some 63), .move (.t 62), none⟩,
  ⟨(some 64), .move (.t 7), (some (63, true))⟩,
  ⟨(some 65), .bin .eql .no (.t 64) (.k (.sc (.int .i64 0))), (some (63, true))⟩,
  ⟨(some 66), .pick (.t 63) (.t 65) (.k (.sc (.bool false))), none⟩,
  ⟨(some 67), .move (.t 66), none⟩,
  ⟨(some 68), .move (.t 8), (some (67, true))⟩,
  ⟨(some 69), .pick (.t 67) (.t 68) (.k (.sc (.bool false))), none⟩,
  ⟨(some 70), .move (.t 69), none⟩,
  ⟨(some 71), .move (.t 1), (some (70, true))⟩,
  ⟨(some 72), .call 22 [(.t 71)], (some (70, true))⟩,
  ⟨(some 73), .lenSlice (.t 72), (some (70, true))⟩,
  ⟨(some 74), .bin .eql .no (.t 73) (.k (.sc (.int .i64 2))), (some (70, true))⟩,
  ⟨(some 75), .pick (.t 70) (.t 74) (.k (.sc (.bool false))), none⟩,
  ⟨(some 76), .move (.t 75), none⟩,
  ⟨(some 77), .move (.t 1), (some (76, true))⟩,
  ⟨(some 78), .call 13 [(.t 77), (.k (.sc (.str [99]))), (.k (.sc (.bool false)))], (some (76, true))⟩,
  ⟨(some 79), .bin .eql .no (.t 78) (.k (.sc (.int .i64 0))), (some (76, true))⟩,
  ⟨(some 80), .pick (.t 76) (.t 79) (.k (.sc (.bool false))), none⟩,
  ⟨(some 0), .move (.t 80), none⟩]
def m10_code : MCode := (.seq (.ops m10_r0) (.seq (.ops m10_r1) (.seq (.seq (.ops m10_r2) (.cond (.t 19) (.seq (.ops m10_r3) .ret) .skip)) (.seq (.ops m10_r4) (.seq (.ops m10_r5) (.seq (.ops m10_r6) (.seq (.ops m10_r7) (.seq (.ops m10_r8) (.seq (.ops m10_r9) (.seq (.ops m10_r10) .ret))))))))))
def m10 : MFunc := ⟨81, [.tmp 0], m10_code⟩

def m11_r0 : List MI := [
  ⟨(some 4), .move (.k (.sc (.nilp))), none⟩,
  ⟨(some 5), .move (.k (.sc (.int .i64 0))), none⟩]
def m11_r1 : List MI := [
  ⟨(some 7), .move (.t 0), none⟩,
  ⟨(some 8), .lenSlice (.t 7), none⟩,
  ⟨(some 9), .bin .lss .no (.t 8) (.k (.sc (.int .i64 1))), none⟩,
  ⟨(some 10), .move (.t 9), none⟩,
  ⟨(some 11), .move (.t 0), (some (10, false))⟩,
  ⟨(some 12), .lenSlice (.t 11), (some (10, false))⟩,
  ⟨(some 13), .bin .gtr .no (.t 12) (.k (.sc (.int .i64 900))), (some (10, false))⟩,
  ⟨(some 14), .pick (.t 10) (.k (.sc (.bool true))) (.t 13), none⟩,
  ⟨(some 15), .move (.t 14), none⟩,
  ⟨(some 16), .move (.t 1), (some (15, false))⟩,
  ⟨(some 17), .bin .lss .no (.t 16) (.k (.sc (.int .i64 1))), (some (15, false))⟩,
  ⟨(some 18), .pick (.t 15) (.k (.sc (.bool true))) (.t 17), none⟩,
  ⟨(some 19), .move (.t 18), none⟩,
  ⟨(some 20), .move (.t 1), (some (19, false))⟩,
  ⟨(some 21), .bin .gtr .no (.t 20) (.k (.sc (.int .i64 400))), (some (19, false))⟩,
  ⟨(some 22), .pick (.t 19) (.k (.sc (.bool true))) (.t 21), none⟩,
  ⟨(some 23), .move (.t 22), none⟩,
  ⟨(some 24), .move (.t 0), (some (23, false))⟩,
  ⟨(some 25), .call 30 [(.t 24), (.k (.sc (.func 31 [])))], (some (23, false))⟩,
  ⟨(some 26), .pick (.t 23) (.k (.sc (.bool true))) (.t 25), none⟩]
def m11_r2 : List MI := [
  ⟨(some 4), .move (.k (.sc (.nilp))), none⟩,
  ⟨(some 5), .move (.k (.sc (.int .i64 1))), none⟩]
def m11_r3 : List MI := [
  ⟨(some 27), .move (.t 0), none⟩,
  ⟨(some 28), .call 32 [(.t 27)], none⟩,
  ⟨(some 29), .move (.t 1), none⟩,
  ⟨(some 30), .move (.t 0), none⟩,
  ⟨(some 31), .lenSlice (.t 30), none⟩,
  ⟨(some 32), .move (.t 1), none⟩,
  ⟨(some 33), .bin .sub .no (.t 31) (.t 32), none⟩,
  ⟨(some 34), .max [(.t 33), (.k (.sc (.int .i64 0)))], none⟩,
  ⟨(some 35), .build [.nils, .int .i64 0, .int .i64 0, .int .i64 0, .int .i64 0, .nilp] [(0, 1, (.t 28)), (1, 1, (.t 29)), (2, 1, (.t 34))], none⟩,
  ⟨(some 36), .box 61 (.t 35), none⟩,
  ⟨(some 6), .move (.t 36), none⟩]
def m11_r4 : List MI := [
  ⟨(some 37), .move (.t 6), none⟩,
  ⟨(some 38), .move (.t 0), none⟩,
  ⟨(some 39), .lenSlice (.t 38), none⟩,
  ⟨(some 40), .bin .sub .no (.t 39) (.k (.sc (.int .i64 1))), none⟩,
  ⟨(some 41), .nilCheck (.t 37), none⟩,
  ⟨(some 42), .fieldAddr 3 (.t 41), none⟩,
  ⟨(some 43), .fieldAddr 1 (.t 42), none⟩,
  ⟨none, .store 1 (.t 43) (.t 40), none⟩]
def m11_r5 : List MI := [
  ⟨(some 44), .move (.t 6), none⟩,
  ⟨(some 4), .move (.t 44), none⟩,
  ⟨(some 5), .move (.k (.sc (.int .i64 0))), none⟩]
def m11_code : MCode := (.seq (.ops m11_r0) (.seq (.seq (.ops m11_r1) (.cond (.t 26) (.seq (.ops m11_r2) .ret) .skip)) (.seq (.ops m11_r3) (.seq (.ops m11_r4) (.seq (.ops m11_r5) .ret)))))
def m11 : MFunc := ⟨45, [.tmp 4, .tmp 5], m11_code⟩

def m12_r0 : List MI := [
  ⟨(some 6), .move (.t 0), none⟩,
  ⟨(some 7), .call 33 [(.t 6)], none⟩]
def m12_r1 : List MI := [
  ⟨(some 8), .move (.t 0), none⟩,
  ⟨(some 9), .move (.t 2), none⟩,
  ⟨(some 10), .move (.t 0), none⟩,
  ⟨(some 11), .nilCheck (.t 10), none⟩,
  ⟨(some 12), .fieldAddr 0 (.t 11), none⟩,
  ⟨(some 13), .load none (.t 12), none⟩,
  ⟨(some 14), .lenSlice (.t 13), none⟩,
  ⟨(some 15), .bin .sub .no (.t 14) (.k (.sc (.int .i64 1))), none⟩,
  ⟨(some 16), .call 34 [(.t 9), (.k (.sc (.int .i64 0))), (.t 15)], none⟩,
  ⟨(some 17), .nilCheck (.t 8), none⟩,
  ⟨(some 18), .fieldAddr 3 (.t 17), none⟩,
  ⟨(some 19), .fieldAddr 1 (.t 18), none⟩,
  ⟨none, .store 1 (.t 19) (.t 16), none⟩]
def m12_r2 : List DI := [
  ⟨⟨(some 20), .move (.t 0), none⟩, 0, [], [16]⟩,
  ⟨⟨(some 21), .move (.t 1), none⟩, 0, [], []⟩,
  ⟨⟨(some 22), .move (.t 0), none⟩, 0, [], []⟩,
  ⟨⟨(some 23), .nilCheck (.t 22), none⟩, 0, [], []⟩,
  ⟨⟨(some 24), .fieldAddr 0 (.t 23), none⟩, 0, [], []⟩,
  ⟨⟨(some 25), .load none (.t 24), none⟩, 1, [], []⟩,
  ⟨⟨(some 26), .move (.t 0), none⟩, 0, [], []⟩,
  ⟨⟨(some 27), .nilCheck (.t 26), none⟩, 0, [], []⟩,
  ⟨⟨(some 28), .fieldAddr 3 (.t 27), none⟩, 0, [], []⟩,
  ⟨⟨(some 29), .fieldAddr 1 (.t 28), none⟩, 0, [], []⟩,
  ⟨⟨(some 30), .load none (.t 29), none⟩, 1, [], []⟩,
  ⟨⟨(some 31), .indexSlice 3 (.t 25) (.t 30), none⟩, 0, [], []⟩,
  ⟨⟨(some 32), .fieldAddr 0 (.t 31), none⟩, 0, [], []⟩,
  ⟨⟨(some 33), .load none (.t 32), none⟩, 1, [], []⟩,
  ⟨⟨(some 34), .lenSlice (.t 33), none⟩, 0, [], []⟩,
  ⟨⟨(some 35), .bin .sub .no (.t 34) (.k (.sc (.int .i64 1))), none⟩, 0, [], []⟩,
  ⟨⟨(some 36), .call 34 [(.t 21), (.k (.sc (.int .i64 0))), (.t 35)], none⟩, 2, [], []⟩,
  ⟨⟨(some 37), .nilCheck (.t 20), none⟩, 0, [], []⟩,
  ⟨⟨(some 38), .fieldAddr 3 (.t 37), none⟩, 0, [], []⟩,
  ⟨⟨(some 39), .fieldAddr 0 (.t 38), none⟩, 0, [], []⟩,
  ⟨⟨none, .store 1 (.t 39) (.t 36), none⟩, 2, [], []⟩]
def m12_r3 : List DI := [
  ⟨⟨(some 40), .move (.t 0), none⟩, 0, [], [21]⟩,
  ⟨⟨(some 41), .move (.t 0), none⟩, 0, [], []⟩,
  ⟨⟨(some 42), .nilCheck (.t 41), none⟩, 0, [], []⟩,
  ⟨⟨(some 43), .fieldAddr 2 (.t 42), none⟩, 0, [], []⟩,
  ⟨⟨(some 44), .load none (.t 43), none⟩, 1, [], []⟩,
  ⟨⟨(some 45), .move (.t 0), none⟩, 0, [], []⟩,
  ⟨⟨(some 46), .nilCheck (.t 45), none⟩, 0, [], []⟩,
  ⟨⟨(some 47), .fieldAddr 3 (.t 46), none⟩, 0, [], []⟩,
  ⟨⟨(some 48), .fieldAddr 1 (.t 47), none⟩, 0, [], []⟩,
  ⟨⟨(some 49), .load none (.t 48), none⟩, 1, [], []⟩,
  ⟨⟨(some 50), .move (.t 0), none⟩, 0, [], []⟩,
  ⟨⟨(some 51), .nilCheck (.t 50), none⟩, 0, [], []⟩,
  ⟨⟨(some 52), .fieldAddr 1 (.t 51), none⟩, 0, [], []⟩,
  ⟨⟨(some 53), .load none (.t 52), none⟩, 1, [], []⟩,
  ⟨⟨(some 54), .bin .sub .no (.t 49) (.t 53), none⟩, 0, [], []⟩,
  ⟨⟨(some 55), .bin .add .no (.t 54) (.k (.sc (.int .i64 1))), none⟩, 0, [], []⟩,
  ⟨⟨(some 56), .move (.t 0), none⟩, 0, [], []⟩,
  ⟨⟨(some 57), .nilCheck (.t 56), none⟩, 0, [], []⟩,
  ⟨⟨(some 58), .fieldAddr 3 (.t 57), none⟩, 0, [], []⟩,
  ⟨⟨(some 59), .fieldAddr 1 (.t 58), none⟩, 0, [], []⟩,
  ⟨⟨(some 60), .load none (.t 59), none⟩, 1, [], []⟩,
  ⟨⟨(some 61), .call 34 [(.t 44), (.t 55), (.t 60)], none⟩, 2, [], []⟩,
  ⟨⟨(some 62), .nilCheck (.t 40), none⟩, 0, [], []⟩,
  ⟨⟨(some 63), .fieldAddr 2 (.t 62), none⟩, 0, [], []⟩,
  ⟨⟨none, .store 1 (.t 63) (.t 61), none⟩, 2, [], []⟩]
def m12_code : MCode := (.seq (.seq (.ops m12_r0) (.cond (.t 7) .ret .skip)) (.seq (.ops m12_r1) (.seq (.draw m12_r2) (.draw m12_r3))))
def m12 : MFunc := ⟨64, [], m12_code⟩

def m13_r0 : List MI := [
  ⟨(some 6), .move (.k (.sc (.int .i64 0))), none⟩]
def m13_r1 : List MI := [
  ⟨(some 16), .move (.t 0), none⟩,
  ⟨(some 17), .call 33 [(.t 16)], none⟩,
  ⟨(some 15), .move (.t 17), none⟩]
def m13_r2 : List MI := [
  ⟨(some 6), .move (.k (.sc (.int .i64 2))), none⟩]
def m13_r3 : List MI := [
  ⟨(some 19), .move (.t 1), none⟩,
  ⟨(some 20), .lenStr (.t 19), none⟩,
  ⟨(some 21), .bin .lss .no (.t 20) (.k (.sc (.int .i64 1))), none⟩,
  ⟨(some 22), .move (.t 21), none⟩,
  ⟨(some 23), .move (.t 1), (some (22, false))⟩,
  ⟨(some 24), .lenStr (.t 23), (some (22, false))⟩,
  ⟨(some 25), .bin .gtr .no (.t 24) (.k (.sc (.int .i64 32))), (some (22, false))⟩,
  ⟨(some 26), .pick (.t 22) (.k (.sc (.bool true))) (.t 25), none⟩,
  ⟨(some 18), .move (.t 26), none⟩]
def m13_r4 : List MI := [
  ⟨(some 6), .move (.k (.sc (.int .i64 1))), none⟩]
def m13_r5 : List MI := [
  ⟨(some 7), .move (.k (.sc (.nils))), none⟩]
def m13_r6 : List MI := [
  ⟨(some 27), .move (.t 0), none⟩,
  ⟨(some 28), .nilCheck (.t 27), none⟩,
  ⟨(some 29), .fieldAddr 0 (.t 28), none⟩,
  ⟨(some 30), .load none (.t 29), none⟩,
  ⟨(some 31), .lenSlice (.t 30), none⟩,
  ⟨(some 32), .move (.k (.sc (.int .i64 0))), none⟩]
def m13_r8 : List MI := [
  ⟨(some 33), .bin .lss .no (.t 32) (.t 31), none⟩]
def m13_r9 : List MI := [
  ⟨(some 34), .move (.t 32), none⟩,
  ⟨(some 35), .indexSlice 3 (.t 30) (.t 32), none⟩,
  ⟨(some 36), .load (some 3) (.t 35), none⟩,
  ⟨(some 9), .alloc 27 [.nils, .bool false, .bool false], none⟩,
  ⟨(some 8), .move (.t 34), none⟩,
  ⟨none, .store 3 (.t 9) (.t 36), none⟩]
def m13_r10 : List MI := [
  ⟨(some 37), .load (some 3) (.t 9), none⟩,
  ⟨(some 38), .move (.t 1), none⟩,
  ⟨(some 39), .call 35 [(.t 37), (.t 38)], none⟩,
  ⟨(some 40), .lenSlice (.t 39), none⟩,
  ⟨(some 41), .move (.k (.sc (.int .i64 0))), none⟩]
def m13_r12 : List MI := [
  ⟨(some 42), .bin .lss .no (.t 41) (.t 40), none⟩]
def m13_r13 : List MI := [
  ⟨(some 43), .indexSlice 1 (.t 39) (.t 41), none⟩,
  ⟨(some 44), .load none (.t 43), none⟩,
  ⟨(some 11), .move (.t 44), none⟩]
def m13_r14 : List MI := [
  ⟨(some 45), .move (.t 7), none⟩,
  ⟨(some 46), .move (.t 11), none⟩,
  ⟨(some 47), .move (.t 8), none⟩,
  ⟨(some 48), .build [.int .i64 0, .int .i64 0] [(0, 1, (.t 46)), (1, 1, (.t 47))], none⟩,
  ⟨(some 49), .buildSlice 58 2 1 [.int .i64 0, .int .i64 0] [(0, 2, (.t 48))], none⟩,
  ⟨(some 50), .append 58 2 16 [.int .i64 0, .int .i64 0] (.t 45) (.t 49), none⟩,
  ⟨(some 7), .move (.t 50), none⟩]
def m13_r15 : List MI := [
  ⟨(some 51), .bin .add .no (.t 41) (.k (.sc (.int .i64 1))), none⟩,
  ⟨(some 41), .move (.t 51), none⟩]
def m13_l11 : MCode := (.seq (.ops m13_r12) (.seq (.cond (.t 42) .skip (.exit 3)) (.seq (.block 4 (.seq (.ops m13_r13) (.ops m13_r14))) (.ops m13_r15))))
def m13_r16 : List MI := [
  ⟨(some 52), .bin .add .no (.t 32) (.k (.sc (.int .i64 1))), none⟩,
  ⟨(some 32), .move (.t 52), none⟩]
def m13_l7 : MCode := (.seq (.ops m13_r8) (.seq (.cond (.t 33) .skip (.exit 1)) (.seq (.block 2 (.seq (.ops m13_r9) (.seq (.ops m13_r10) (.block 3 (.loop m13_l11))))) (.ops m13_r16))))
def m13_r17 : List MI := [
  ⟨(some 53), .move (.t 7), none⟩,
  ⟨(some 54), .lenSlice (.t 53), none⟩,
  ⟨(some 55), .bin .eql .no (.t 54) (.k (.sc (.int .i64 0))), none⟩]
def m13_r18 : List MI := [
  ⟨(some 6), .move (.k (.sc (.int .i64 4))), none⟩]
def m13_r19 : List MI := [
  ⟨(some 56), .move (.t 7), none⟩,
  ⟨(some 57), .indexSlice 2 (.t 56) (.k (.sc (.int .i64 0))), none⟩,
  ⟨(some 58), .load (some 2) (.t 57), none⟩,
  ⟨(some 12), .alloc 58 [.int .i64 0, .int .i64 0], none⟩,
  ⟨none, .store 2 (.t 12) (.t 58), none⟩]
def m13_r20 : List MI := [
  ⟨(some 59), .move (.t 2), none⟩]
def m13_r21 : List MI := [
  ⟨(some 60), .move (.t 7), none⟩,
  ⟨(some 61), .move (.t 7), none⟩,
  ⟨(some 62), .lenSlice (.t 61), none⟩,
  ⟨(some 63), .bin .sub .no (.t 62) (.k (.sc (.int .i64 1))), none⟩,
  ⟨(some 64), .indexSlice 2 (.t 60) (.t 63), none⟩,
  ⟨(some 65), .load (some 2) (.t 64), none⟩,
  ⟨none, .store 2 (.t 12) (.t 65), none⟩]
def m13_r22 : List MI := [
  ⟨(some 66), .move (.t 7), none⟩,
  ⟨(some 67), .lenSlice (.t 66), none⟩,
  ⟨(some 68), .move (.k (.sc (.int .i64 0))), none⟩]
def m13_r24 : List MI := [
  ⟨(some 69), .bin .lss .no (.t 68) (.t 67), none⟩]
def m13_r25 : List MI := [
  ⟨(some 70), .indexSlice 2 (.t 66) (.t 68), none⟩,
  ⟨(some 71), .load (some 2) (.t 70), none⟩,
  ⟨(some 14), .alloc 58 [.int .i64 0, .int .i64 0], none⟩,
  ⟨none, .store 2 (.t 14) (.t 71), none⟩]
def m13_r26 : List DI := [
  ⟨⟨(some 72), .move (.t 2), none⟩, 0, [], []⟩,
  ⟨⟨(some 73), .un .not (.t 72), none⟩, 0, [], []⟩,
  ⟨⟨(some 74), .move (.t 73), none⟩, 0, [], []⟩,
  ⟨⟨(some 75), .move (.t 0), (some (74, true))⟩, 0, [], []⟩,
  ⟨⟨(some 76), .nilCheck (.t 75), (some (74, true))⟩, 0, [], []⟩,
  ⟨⟨(some 77), .fieldAddr 3 (.t 76), (some (74, true))⟩, 0, [], []⟩,
  ⟨⟨(some 78), .load (some 2) (.t 77), (some (74, true))⟩, 1, [], []⟩,
  ⟨⟨(some 79), .load (some 2) (.t 14), (some (74, true))⟩, 1, [], []⟩,
  ⟨⟨(some 80), .call 36 [(.t 78), (.t 79)], (some (74, true))⟩, 2, [], []⟩,
  ⟨⟨(some 81), .pick (.t 74) (.t 80) (.k (.sc (.bool false))), none⟩, 0, [], []⟩]
def m13_r27 : List MI := [
  ⟨(some 82), .load (some 2) (.t 14), none⟩,
  ⟨none, .store 2 (.t 12) (.t 82), none⟩]
def m13_r28 : List DI := [
  ⟨⟨(some 83), .move (.t 2), none⟩, 0, [], []⟩,
  ⟨⟨(some 84), .move (.t 83), none⟩, 0, [], []⟩,
  ⟨⟨(some 85), .load (some 2) (.t 14), (some (84, true))⟩, 1, [], []⟩,
  ⟨⟨(some 86), .move (.t 0), (some (84, true))⟩, 0, [], []⟩,
  ⟨⟨(some 87), .nilCheck (.t 86), (some (84, true))⟩, 0, [], []⟩,
  ⟨⟨(some 88), .fieldAddr 3 (.t 87), (some (84, true))⟩, 0, [], []⟩,
  ⟨⟨(some 89), .load (some 2) (.t 88), (some (84, true))⟩, 1, [], []⟩,
  ⟨⟨(some 90), .call 36 [(.t 85), (.t 89)], (some (84, true))⟩, 2, [], []⟩,
  ⟨⟨(some 91), .pick (.t 84) (.t 90) (.k (.sc (.bool false))), none⟩, 0, [], []⟩]
def m13_r29 : List MI := [
  ⟨(some 92), .load (some 2) (.t 14), none⟩,
  ⟨none, .store 2 (.t 12) (.t 92), none⟩]
def m13_r30 : List MI := [
  ⟨(some 93), .bin .add .no (.t 68) (.k (.sc (.int .i64 1))), none⟩,
  ⟨(some 68), .move (.t 93), none⟩]
def m13_l23 : MCode := (.seq (.ops m13_r24) (.seq (.cond (.t 69) .skip (.exit 5)) (.seq (.block 6 (.seq (.ops m13_r25) (.seq (.seq (.draw m13_r26) (.cond (.t 81) (.seq (.ops m13_r27) (.exit 5)) .skip)) (.seq (.draw m13_r28) (.cond (.t 91) (.ops m13_r29) .skip))))) (.ops m13_r30))))
def m13_r31 : List MI := [
  ⟨(some 94), .move (.t 0), none⟩,
  ⟨(some 95), .fieldAddr 0 (.t 12), none⟩,
  ⟨(some 96), .load none (.t 95), none⟩,
  ⟨(some 97), .fieldAddr 1 (.t 12), none⟩,
  ⟨(some 98), .load none (.t 97), none⟩,
  ⟨(some 99), .call 12 [(.t 94), (.t 96), (.t 98)], none⟩]
def m13_r32 : List MI := [
  ⟨(some 6), .move (.k (.sc (.int .i64 0))), none⟩]
def m13_code : MCode := (.seq (.ops m13_r0) (.seq (.block 0 (.seq (.ops m13_r1) (.cond (.t 15) (.seq (.ops m13_r2) .ret) (.seq (.ops m13_r3) (.cond (.t 18) (.seq (.ops m13_r4) .ret) .skip))))) (.seq (.ops m13_r5) (.seq (.seq (.ops m13_r6) (.block 1 (.loop m13_l7))) (.seq (.seq (.ops m13_r17) (.cond (.t 55) (.seq (.ops m13_r18) .ret) .skip)) (.seq (.ops m13_r19) (.seq (.seq (.ops m13_r20) (.cond (.t 59) (.ops m13_r21) .skip)) (.seq (.seq (.ops m13_r22) (.block 5 (.loop m13_l23))) (.seq (.ops m13_r31) (.seq (.ops m13_r32) .ret))))))))))
def m13 : MFunc := ⟨100, [.tmp 6], m13_code⟩

def m14_r0 : List MI := [
  ⟨(some 2), .move (.k (.sc (.int .i64 0))), none⟩,
  ⟨(some 3), .move (.k (.sc (.int .i64 0))), none⟩]
def m14_r1 : List MI := [
  ⟨(some 4), .move (.t 0), none⟩,
  ⟨(some 5), .call 33 [(.t 4)], none⟩]
def m14_r2 : List MI := [
  ⟨(some 2), .move (.k (.sc (.int .i64 0))), none⟩,
  ⟨(some 3), .move (.k (.sc (.int .i64 0))), none⟩]
def m14_r3 : List DI := [
  ⟨⟨(some 6), .move (.t 0), none⟩, 0, [], []⟩,
  ⟨⟨(some 7), .nilCheck (.t 6), none⟩, 0, [], []⟩,
  ⟨⟨(some 8), .fieldAddr 3 (.t 7), none⟩, 0, [], []⟩,
  ⟨⟨(some 9), .fieldAddr 0 (.t 8), none⟩, 0, [], []⟩,
  ⟨⟨(some 10), .load none (.t 9), none⟩, 1, [], []⟩,
  ⟨⟨(some 11), .move (.t 0), none⟩, 0, [], []⟩,
  ⟨⟨(some 12), .nilCheck (.t 11), none⟩, 0, [], []⟩,
  ⟨⟨(some 13), .fieldAddr 3 (.t 12), none⟩, 0, [], []⟩,
  ⟨⟨(some 14), .fieldAddr 1 (.t 13), none⟩, 0, [], []⟩,
  ⟨⟨(some 15), .load none (.t 14), none⟩, 1, [], []⟩,
  ⟨⟨(some 2), .move (.t 10), none⟩, 0, [], []⟩,
  ⟨⟨(some 3), .move (.t 15), none⟩, 0, [], []⟩]
def m14_code : MCode := (.seq (.ops m14_r0) (.seq (.seq (.ops m14_r1) (.cond (.t 5) (.seq (.ops m14_r2) .ret) .skip)) (.seq (.draw m14_r3) .ret)))
def m14 : MFunc := ⟨16, [.tmp 2, .tmp 3], m14_code⟩

def m15_r0 : List MI := [
  ⟨(some 3), .move (.t 0), none⟩,
  ⟨(some 4), .call 33 [(.t 3)], none⟩,
  ⟨(some 5), .un .not (.t 4), none⟩]
def m15_r1 : List MI := [
  ⟨(some 6), .move (.t 0), none⟩,
  ⟨(some 7), .nilCheck (.t 6), none⟩,
  ⟨(some 8), .fieldAddr 3 (.t 7), none⟩,
  ⟨(some 9), .load (some 2) (.t 8), none⟩,
  ⟨(some 2), .alloc 58 [.int .i64 0, .int .i64 0], none⟩,
  ⟨none, .store 2 (.t 2) (.t 9), none⟩]
def m15_r2 : List MI := [
  ⟨(some 10), .move (.t 0), none⟩,
  ⟨(some 11), .nilCheck (.t 10), none⟩,
  ⟨(some 12), .fieldAddr 5 (.t 11), none⟩,
  ⟨none, .store 1 (.t 12) (.t 2), none⟩]
def m15_code : MCode := (.seq (.ops m15_r0) (.cond (.t 5) (.seq (.ops m15_r1) (.ops m15_r2)) .skip))
def m15 : MFunc := ⟨13, [], m15_code⟩

def m16_r0 : List MI := [
  ⟨(some 2), .move (.k (.sc (.str []))), none⟩]
def m16_r1 : List MI := [
  ⟨(some 9), .move (.t 0), none⟩,
  ⟨(some 10), .call 33 [(.t 9)], none⟩,
  ⟨(some 11), .move (.t 10), none⟩,
  ⟨(some 12), .move (.t 0), (some (11, false))⟩,
  ⟨(some 13), .nilCheck (.t 12), (some (11, false))⟩,
  ⟨(some 14), .fieldAddr 5 (.t 13), (some (11, false))⟩,
  ⟨(some 15), .load none (.t 14), (some (11, false))⟩,
  ⟨(some 16), .bin .eql .ptr (.t 15) (.k (.sc (.nilp))), (some (11, false))⟩,
  ⟨(some 17), .pick (.t 11) (.k (.sc (.bool true))) (.t 16), none⟩]
def m16_r2 : List MI := [
  ⟨(some 2), .move (.k (.sc (.str []))), none⟩]
def m16_r3 : List MI := [
  ⟨(some 3), .alloc 58 [.int .i64 0, .int .i64 0], none⟩,
  ⟨(some 4), .alloc 58 [.int .i64 0, .int .i64 0], none⟩]
def m16_r4 : List DI := [
  ⟨⟨(some 18), .move (.t 0), none⟩, 0, [], []⟩,
  ⟨⟨(some 19), .nilCheck (.t 18), none⟩, 0, [], []⟩,
  ⟨⟨(some 20), .fieldAddr 5 (.t 19), none⟩, 0, [], []⟩,
  ⟨⟨(some 21), .load none (.t 20), none⟩, 1, [], []⟩,
  ⟨⟨(some 22), .nilCheck (.t 21), none⟩, 0, [], []⟩,
  ⟨⟨(some 23), .load (some 2) (.t 22), none⟩, 1, [], []⟩,
  ⟨⟨(some 24), .move (.t 0), none⟩, 0, [], [12]⟩,
  ⟨⟨(some 25), .nilCheck (.t 24), none⟩, 0, [], [12]⟩,
  ⟨⟨(some 26), .fieldAddr 3 (.t 25), none⟩, 0, [], [12]⟩,
  ⟨⟨(some 27), .load (some 2) (.t 26), none⟩, 1, [], [12]⟩,
  ⟨⟨(some 3), .move (.t 3), none⟩, 0, [], []⟩,
  ⟨⟨(some 4), .move (.t 4), none⟩, 0, [], []⟩,
  ⟨⟨none, .store 2 (.t 3) (.t 23), none⟩, 2, [], []⟩,
  ⟨⟨none, .store 2 (.t 4) (.t 27), none⟩, 2, [], []⟩]
def m16_r5 : List MI := [
  ⟨(some 28), .load (some 2) (.t 4), none⟩,
  ⟨(some 29), .load (some 2) (.t 3), none⟩,
  ⟨(some 30), .call 36 [(.t 28), (.t 29)], none⟩]
def m16_r6 : List MI := [
  ⟨(some 31), .load (some 2) (.t 4), none⟩,
  ⟨(some 32), .load (some 2) (.t 3), none⟩,
  ⟨none, .store 2 (.t 3) (.t 31), none⟩,
  ⟨none, .store 2 (.t 4) (.t 32), none⟩]
def m16_r7 : List MI := [
  ⟨(some 5), .alloc 83 [.nilp, .nils], none⟩]
def m16_r8 : List MI := [
  ⟨(some 33), .fieldAddr 1 (.t 3), none⟩,
  ⟨(some 34), .load none (.t 33), none⟩,
  ⟨(some 6), .move (.t 34), none⟩]
def m16_r10 : List MI := [
  ⟨(some 35), .move (.t 6), none⟩,
  ⟨(some 36), .fieldAddr 1 (.t 4), none⟩,
  ⟨(some 37), .load none (.t 36), none⟩,
  ⟨(some 38), .bin .leq .no (.t 35) (.t 37), none⟩]
def m16_r11 : List DI := [
  ⟨⟨(some 41), .move (.t 0), none⟩, 0, [], []⟩,
  ⟨⟨(some 42), .nilCheck (.t 41), none⟩, 0, [], []⟩,
  ⟨⟨(some 43), .fieldAddr 0 (.t 42), none⟩, 0, [], []⟩,
  ⟨⟨(some 44), .load none (.t 43), none⟩, 1, [], []⟩,
  ⟨⟨(some 45), .move (.t 6), none⟩, 0, [], []⟩,
  ⟨⟨(some 46), .indexSlice 3 (.t 44) (.t 45), none⟩, 0, [], []⟩,
  ⟨⟨(some 47), .fieldAddr 0 (.t 46), none⟩, 0, [], []⟩,
  ⟨⟨(some 48), .load none (.t 47), none⟩, 1, [], []⟩,
  ⟨⟨(some 49), .lenSlice (.t 48), none⟩, 0, [], []⟩,
  ⟨⟨(some 50), .bin .sub .no (.t 49) (.k (.sc (.int .i64 1))), none⟩, 0, [], []⟩,
  ⟨⟨(some 7), .move (.k (.sc (.int .i64 0))), none⟩, 0, [], []⟩,
  ⟨⟨(some 8), .move (.t 50), none⟩, 0, [], []⟩]
def m16_r12 : List MI := [
  ⟨(some 51), .move (.t 6), none⟩,
  ⟨(some 52), .fieldAddr 1 (.t 3), none⟩,
  ⟨(some 53), .load none (.t 52), none⟩,
  ⟨(some 54), .bin .eql .no (.t 51) (.t 53), none⟩]
def m16_r13 : List MI := [
  ⟨(some 55), .fieldAddr 0 (.t 3), none⟩,
  ⟨(some 56), .load none (.t 55), none⟩,
  ⟨(some 7), .move (.t 56), none⟩]
def m16_r14 : List MI := [
  ⟨(some 57), .move (.t 6), none⟩,
  ⟨(some 58), .fieldAddr 1 (.t 4), none⟩,
  ⟨(some 59), .load none (.t 58), none⟩,
  ⟨(some 60), .bin .eql .no (.t 57) (.t 59), none⟩]
def m16_r15 : List MI := [
  ⟨(some 61), .fieldAddr 0 (.t 4), none⟩,
  ⟨(some 62), .load none (.t 61), none⟩,
  ⟨(some 8), .move (.t 62), none⟩]
def m16_r16 : List MI := [
  ⟨(some 63), .move (.t 6), none⟩,
  ⟨(some 64), .fieldAddr 1 (.t 3), none⟩,
  ⟨(some 65), .load none (.t 64), none⟩,
  ⟨(some 66), .bin .gtr .no (.t 63) (.t 65), none⟩,
  ⟨(some 67), .move (.t 66), none⟩,
  ⟨(some 68), .move (.t 0), (some (67, true))⟩,
  ⟨(some 69), .nilCheck (.t 68), (some (67, true))⟩,
  ⟨(some 70), .fieldAddr 0 (.t 69), (some (67, true))⟩,
  ⟨(some 71), .load none (.t 70), (some (67, true))⟩,
  ⟨(some 72), .move (.t 6), (some (67, true))⟩,
  ⟨(some 73), .bin .sub .no (.t 72) (.k (.sc (.int .i64 1))), (some (67, true))⟩,
  ⟨(some 74), .indexSlice 3 (.t 71) (.t 73), (some (67, true))⟩,
  ⟨(some 75), .fieldAddr 1 (.t 74), (some (67, true))⟩,
  ⟨(some 76), .load none (.t 75), (some (67, true))⟩,
  ⟨(some 77), .un .not (.t 76), (some (67, true))⟩,
  ⟨(some 78), .pick (.t 67) (.t 77) (.k (.sc (.bool false))), none⟩]
def m16_r17 : List MI := [
  ⟨(some 79), .call 37 [(.t 5), (.k (.sc (.int .u8 10)))], none⟩]
def m16_r18 : List MI := [
  ⟨(some 80), .move (.t 0), none⟩,
  ⟨(some 81), .nilCheck (.t 80), none⟩,
  ⟨(some 82), .fieldAddr 0 (.t 81), none⟩,
  ⟨(some 83), .load none (.t 82), none⟩,
  ⟨(some 84), .move (.t 6), none⟩,
  ⟨(some 85), .indexSlice 3 (.t 83) (.t 84), none⟩,
  ⟨(some 86), .load (some 3) (.t 85), none⟩,
  ⟨(some 87), .move (.t 7), none⟩,
  ⟨(some 88), .move (.t 8), none⟩,
  ⟨(some 89), .call 39 [(.t 86), (.t 87), (.t 88)], none⟩,
  ⟨(some 90), .call 38 [(.t 5), (.t 89)], none⟩]
def m16_r19 : List MI := [
  ⟨(some 39), .move (.t 6), none⟩,
  ⟨(some 40), .bin .add .no (.t 39) (.k (.sc (.int .i64 1))), none⟩,
  ⟨(some 6), .move (.t 40), none⟩]
def m16_l9 : MCode := (.seq (.seq (.ops m16_r10) (.cond (.t 38) .skip (.exit 0))) (.seq (.block 1 (.seq (.draw m16_r11) (.seq (.seq (.ops m16_r12) (.cond (.t 54) (.ops m16_r13) .skip)) (.seq (.seq (.ops m16_r14) (.cond (.t 60) (.ops m16_r15) .skip)) (.seq (.seq (.ops m16_r16) (.cond (.t 78) (.ops m16_r17) .skip)) (.ops m16_r18)))))) (.ops m16_r19)))
def m16_r20 : List MI := [
  ⟨(some 91), .call 40 [(.t 5)], none⟩,
  ⟨(some 2), .move (.t 91), none⟩]
def m16_code : MCode := (.seq (.ops m16_r0) (.seq (.seq (.ops m16_r1) (.cond (.t 17) (.seq (.ops m16_r2) .ret) .skip)) (.seq (.seq (.ops m16_r3) (.draw m16_r4)) (.seq (.seq (.ops m16_r5) (.cond (.t 30) (.ops m16_r6) .skip)) (.seq (.ops m16_r7) (.seq (.seq (.ops m16_r8) (.block 0 (.loop m16_l9))) (.seq (.ops m16_r20) .ret)))))))
def m16 : MFunc := ⟨92, [.tmp 2], m16_code⟩

def m17_r0 : List MI := [
  ⟨(some 2), .move (.t 0), none⟩,
  ⟨(some 3), .bin .neq .ptr (.t 2) (.k (.sc (.nilp))), none⟩]
def m17_r1 : List MI := [
  ⟨(some 4), .move (.t 0), none⟩,
  ⟨(some 5), .nilCheck (.t 4), none⟩,
  ⟨(some 6), .fieldAddr 5 (.t 5), none⟩,
  ⟨none, .store 1 (.t 6) (.k (.sc (.nilp))), none⟩]
def m17_code : MCode := (.seq (.ops m17_r0) (.cond (.t 3) (.ops m17_r1) .skip))
def m17 : MFunc := ⟨7, [], m17_code⟩

def m18_r0 : List MI := [
  ⟨(some 0), .move (.k (.sc (.nils))), none⟩]
def m18_r1 : List MI := [
  ⟨(some 1), .call 21 [(.k (.sc (.str [97, 98, 99, 100]))), (.k (.sc (.bool true))), (.k (.sc (.bool false)))], none⟩,
  ⟨(some 2), .call 21 [(.k (.sc (.str [101, 102, 32]))), (.k (.sc (.bool false))), (.k (.sc (.bool false)))], none⟩,
  ⟨(some 3), .call 21 [(.k (.sc (.str [103, 104, 32]))), (.k (.sc (.bool false))), (.k (.sc (.bool false)))], none⟩,
  ⟨(some 4), .buildSlice 27 3 3 [.nils, .bool false, .bool false] [(0, 3, (.t 1)), (3, 3, (.t 2)), (6, 3, (.t 3))], none⟩,
  ⟨(some 0), .move (.t 4), none⟩]
def m18_code : MCode := (.seq (.ops m18_r0) (.seq (.ops m18_r1) .ret))
def m18 : MFunc := ⟨5, [.tmp 0], m18_code⟩

def m19_r0 : List MI := [
  ⟨(some 6), .move (.t 0), none⟩,
  ⟨(some 7), .call 33 [(.t 6)], none⟩,
  ⟨(some 8), .un .not (.t 7), none⟩]
def m19_r1 : List DI := [
  ⟨⟨(some 9), .move (.t 0), none⟩, 0, [], [7, 15]⟩,
  ⟨⟨(some 10), .move (.t 0), none⟩, 0, [], [7, 15]⟩,
  ⟨⟨(some 11), .nilCheck (.t 10), none⟩, 0, [], [7, 15]⟩,
  ⟨⟨(some 12), .fieldAddr 3 (.t 11), none⟩, 0, [], [7, 15]⟩,
  ⟨⟨(some 13), .fieldAddr 0 (.t 12), none⟩, 0, [], [7, 15]⟩,
  ⟨⟨(some 14), .load none (.t 13), none⟩, 1, [], [7, 15]⟩,
  ⟨⟨(some 15), .move (.t 1), none⟩, 0, [], []⟩,
  ⟨⟨(some 16), .call 34 [(.t 15), (.k (.sc (.int .i64 (-1000)))), (.k (.sc (.int .i64 1000)))], none⟩, 2, [], []⟩,
  ⟨⟨(some 17), .bin .add .no (.t 14) (.t 16), none⟩, 0, [], [15]⟩,
  ⟨⟨(some 18), .move (.t 0), none⟩, 0, [7], [15]⟩,
  ⟨⟨(some 19), .nilCheck (.t 18), none⟩, 0, [7], [15]⟩,
  ⟨⟨(some 20), .fieldAddr 3 (.t 19), none⟩, 0, [7], [15]⟩,
  ⟨⟨(some 21), .fieldAddr 1 (.t 20), none⟩, 0, [7], [15]⟩,
  ⟨⟨(some 22), .load none (.t 21), none⟩, 1, [7], [15]⟩,
  ⟨⟨(some 23), .move (.t 2), none⟩, 0, [7], []⟩,
  ⟨⟨(some 24), .call 34 [(.t 23), (.k (.sc (.int .i64 (-1000)))), (.k (.sc (.int .i64 1000)))], none⟩, 2, [], []⟩,
  ⟨⟨(some 25), .bin .add .no (.t 22) (.t 24), none⟩, 0, [], []⟩,
  ⟨⟨(some 26), .call 12 [(.t 9), (.t 17), (.t 25)], none⟩, 2, [], []⟩]
def m19_code : MCode := (.seq (.ops m19_r0) (.cond (.t 8) (.draw m19_r1) .skip))
def m19 : MFunc := ⟨27, [], m19_code⟩

def m20_r0 : List MI := [
  ⟨(some 2), .move (.k (.sc (.int .i64 0))), none⟩]
def m20_r1 : List MI := [
  ⟨(some 3), .move (.t 0), none⟩,
  ⟨(some 4), .call 33 [(.t 3)], none⟩]
def m20_r2 : List MI := [
  ⟨(some 2), .move (.k (.sc (.int .i64 0))), none⟩]
def m20_r3 : List MI := [
  ⟨(some 5), .move (.t 0), none⟩,
  ⟨(some 6), .nilCheck (.t 5), none⟩,
  ⟨(some 7), .fieldAddr 2 (.t 6), none⟩,
  ⟨(some 8), .load none (.t 7), none⟩,
  ⟨(some 2), .move (.t 8), none⟩]
def m20_code : MCode := (.seq (.ops m20_r0) (.seq (.seq (.ops m20_r1) (.cond (.t 4) (.seq (.ops m20_r2) .ret) .skip)) (.seq (.ops m20_r3) .ret)))
def m20 : MFunc := ⟨9, [.tmp 2], m20_code⟩

def m21_r0 : List MI := [
  ⟨(some 6), .alloc 27 [.nils, .bool false, .bool false], none⟩]
def m21_r1 : List MI := [
  ⟨(some 10), .move (.t 1), none⟩,
  ⟨(some 11), .move (.t 2), none⟩,
  ⟨(some 12), .build [.nils, .bool false, .bool false] [(1, 1, (.t 10)), (2, 1, (.t 11))], none⟩,
  ⟨(some 7), .alloc 27 [.nils, .bool false, .bool false], none⟩,
  ⟨none, .store 3 (.t 7) (.t 12), none⟩]
def m21_r2 : List MI := [
  ⟨(some 13), .move (.t 0), none⟩,
  ⟨(some 14), .range (.t 13), none⟩]
def m21_r4 : List MI := [
  ⟨(some 15), .next (.t 14), none⟩,
  ⟨(some 16), .extract (.t 15) 0, none⟩]
def m21_r5 : List MI := [
  ⟨(some 17), .extract (.t 15) 2, none⟩,
  ⟨(some 9), .move (.t 17), none⟩]
def m21_r6 : List MI := [
  ⟨(some 18), .move (.t 9), none⟩,
  ⟨(some 19), .bin .gtr .no (.t 18) (.k (.sc (.int .i32 255))), none⟩]
def m21_r7 : List MI := [
  ⟨(some 20), .fieldAddr 0 (.t 7), none⟩,
  ⟨(some 21), .load none (.t 20), none⟩,
  ⟨(some 22), .move (.t 9), none⟩,
  ⟨(some 23), .build [.int .i32 0, .int .u8 0, .int .u16 0, .int .u8 0, .int .u32 0, .int .u8 0, .int .u32 0] [(0, 1, (.t 22)), (1, 1, (.k (.sc (.int .u8 1))))], none⟩,
  ⟨(some 24), .move (.t 9), none⟩,
  ⟨(some 25), .build [.int .i32 0, .int .u8 0, .int .u16 0, .int .u8 0, .int .u32 0, .int .u8 0, .int .u32 0] [(0, 1, (.t 24)), (1, 1, (.k (.sc (.int .u8 2))))], none⟩,
  ⟨(some 26), .buildSlice 71 7 2 [.int .i32 0, .int .u8 0, .int .u16 0, .int .u8 0, .int .u32 0, .int .u8 0, .int .u32 0] [(0, 7, (.t 23)), (7, 7, (.t 25))], none⟩,
  ⟨(some 27), .append 71 7 28 [.int .i32 0, .int .u8 0, .int .u16 0, .int .u8 0, .int .u32 0, .int .u8 0, .int .u32 0] (.t 21) (.t 26), none⟩,
  ⟨(some 28), .fieldAddr 0 (.t 7), none⟩,
  ⟨none, .store 1 (.t 28) (.t 27), none⟩]
def m21_r8 : List MI := [
  ⟨(some 29), .fieldAddr 0 (.t 7), none⟩,
  ⟨(some 30), .load none (.t 29), none⟩,
  ⟨(some 31), .move (.t 9), none⟩,
  ⟨(some 32), .build [.int .i32 0, .int .u8 0, .int .u16 0, .int .u8 0, .int .u32 0, .int .u8 0, .int .u32 0] [(0, 1, (.t 31))], none⟩,
  ⟨(some 33), .buildSlice 71 7 1 [.int .i32 0, .int .u8 0, .int .u16 0, .int .u8 0, .int .u32 0, .int .u8 0, .int .u32 0] [(0, 7, (.t 32))], none⟩,
  ⟨(some 34), .append 71 7 28 [.int .i32 0, .int .u8 0, .int .u16 0, .int .u8 0, .int .u32 0, .int .u8 0, .int .u32 0] (.t 30) (.t 33), none⟩,
  ⟨(some 35), .fieldAddr 0 (.t 7), none⟩,
  ⟨none, .store 1 (.t 35) (.t 34), none⟩]
def m21_l3 : MCode := (.seq (.ops m21_r4) (.seq (.cond (.t 16) .skip (.exit 0)) (.block 1 (.seq (.ops m21_r5) (.seq (.ops m21_r6) (.cond (.t 19) (.ops m21_r7) (.ops m21_r8)))))))
def m21_r9 : List MI := [
  ⟨(some 36), .load (some 3) (.t 7), none⟩,
  ⟨none, .store 3 (.t 6) (.t 36), none⟩]
def m21_code : MCode := (.seq (.ops m21_r0) (.seq (.ops m21_r1) (.seq (.seq (.ops m21_r2) (.block 0 (.loop m21_l3))) (.seq (.ops m21_r9) .ret))))
def m21 : MFunc := ⟨37, [.cell 6 (some 3)], m21_code⟩

def m22_r0 : List MI := [
  ⟨(some 2), .move (.k (.sc (.nils))), none⟩]
def m22_r1 : List MI := [
  ⟨(some 3), .move (.t 0), none⟩,
  ⟨(some 4), .call 33 [(.t 3)], none⟩]
def m22_r2 : List MI := [
  ⟨(some 2), .move (.k (.sc (.nils))), none⟩]
def m22_r3 : List DI := [
  ⟨⟨(some 5), .move (.t 0), none⟩, 0, [], []⟩,
  ⟨⟨(some 6), .nilCheck (.t 5), none⟩, 0, [], []⟩,
  ⟨⟨(some 7), .fieldAddr 0 (.t 6), none⟩, 0, [], []⟩,
  ⟨⟨(some 8), .load none (.t 7), none⟩, 1, [], []⟩,
  ⟨⟨(some 9), .move (.t 0), none⟩, 0, [], []⟩,
  ⟨⟨(some 10), .nilCheck (.t 9), none⟩, 0, [], []⟩,
  ⟨⟨(some 11), .fieldAddr 2 (.t 10), none⟩, 0, [], []⟩,
  ⟨⟨(some 12), .load none (.t 11), none⟩, 1, [], []⟩,
  ⟨⟨(some 13), .move (.t 0), none⟩, 0, [], []⟩,
  ⟨⟨(some 14), .nilCheck (.t 13), none⟩, 0, [], []⟩,
  ⟨⟨(some 15), .fieldAddr 2 (.t 14), none⟩, 0, [], []⟩,
  ⟨⟨(some 16), .load none (.t 15), none⟩, 1, [], []⟩,
  ⟨⟨(some 17), .move (.t 0), none⟩, 0, [], []⟩,
  ⟨⟨(some 18), .nilCheck (.t 17), none⟩, 0, [], []⟩,
  ⟨⟨(some 19), .fieldAddr 1 (.t 18), none⟩, 0, [], []⟩,
  ⟨⟨(some 20), .load none (.t 19), none⟩, 1, [], []⟩,
  ⟨⟨(some 21), .bin .add .no (.t 16) (.t 20), none⟩, 0, [], []⟩,
  ⟨⟨(some 22), .move (.t 0), none⟩, 0, [], []⟩,
  ⟨⟨(some 23), .nilCheck (.t 22), none⟩, 0, [], []⟩,
  ⟨⟨(some 24), .fieldAddr 0 (.t 23), none⟩, 0, [], []⟩,
  ⟨⟨(some 25), .load none (.t 24), none⟩, 1, [], []⟩,
  ⟨⟨(some 26), .lenSlice (.t 25), none⟩, 0, [], []⟩,
  ⟨⟨(some 27), .min [(.t 21), (.t 26)], none⟩, 0, [], []⟩,
  ⟨⟨(some 28), .slice 3 (.t 8) (some (.t 12)) (some (.t 27)), none⟩, 0, [], []⟩,
  ⟨⟨(some 29), .call 32 [(.t 28)], none⟩, 2, [], []⟩,
  ⟨⟨(some 2), .move (.t 29), none⟩, 0, [], []⟩]
def m22_code : MCode := (.seq (.ops m22_r0) (.seq (.seq (.ops m22_r1) (.cond (.t 4) (.seq (.ops m22_r2) .ret) .skip)) (.seq (.draw m22_r3) .ret)))
def m22 : MFunc := ⟨30, [.tmp 2], m22_code⟩

def m23_r0 : List MI := [
  ⟨(some 4), .move (.k (.sc (.bool false))), none⟩]
def m23_r1 : List MI := [
  ⟨(some 5), .move (.k (.sc (.int .i64 0))), none⟩]
def m23_r3 : List MI := [
  ⟨(some 6), .move (.t 5), none⟩,
  ⟨(some 7), .move (.t 0), none⟩,
  ⟨(some 8), .lenSlice (.t 7), none⟩,
  ⟨(some 9), .bin .lss .no (.t 6) (.t 8), none⟩]
def m23_r4 : List MI := [
  ⟨(some 12), .move (.t 0), none⟩,
  ⟨(some 13), .move (.t 5), none⟩,
  ⟨(some 14), .indexSlice 3 (.t 12) (.t 13), none⟩,
  ⟨(some 15), .fieldAddr 0 (.t 14), none⟩,
  ⟨(some 16), .load none (.t 15), none⟩,
  ⟨(some 17), .lenSlice (.t 16), none⟩,
  ⟨(some 18), .bin .eql .no (.t 17) (.k (.sc (.int .i64 0))), none⟩]
def m23_r5 : List MI := [
  ⟨(some 4), .move (.k (.sc (.bool false))), none⟩]
def m23_r6 : List MI := [
  ⟨(some 10), .move (.t 5), none⟩,
  ⟨(some 11), .bin .add .no (.t 10) (.k (.sc (.int .i64 1))), none⟩,
  ⟨(some 5), .move (.t 11), none⟩]
def m23_l2 : MCode := (.seq (.seq (.ops m23_r3) (.cond (.t 9) .skip (.exit 0))) (.seq (.block 1 (.seq (.ops m23_r4) (.cond (.t 18) (.seq (.ops m23_r5) .ret) .skip))) (.ops m23_r6)))
def m23_r7 : List MI := [
  ⟨(some 19), .move (.t 0), none⟩,
  ⟨(some 20), .lenSlice (.t 19), none⟩,
  ⟨(some 21), .bin .geq .no (.t 20) (.k (.sc (.int .i64 1))), none⟩,
  ⟨(some 22), .move (.t 21), none⟩,
  ⟨(some 23), .move (.t 0), (some (22, true))⟩,
  ⟨(some 24), .lenSlice (.t 23), (some (22, true))⟩,
  ⟨(some 25), .bin .leq .no (.t 24) (.k (.sc (.int .i64 900))), (some (22, true))⟩,
  ⟨(some 26), .pick (.t 22) (.t 25) (.k (.sc (.bool false))), none⟩,
  ⟨(some 27), .move (.t 26), none⟩,
  ⟨(some 28), .move (.t 1), (some (27, true))⟩,
  ⟨(some 29), .bin .geq .no (.t 28) (.k (.sc (.int .i64 1))), (some (27, true))⟩,
  ⟨(some 30), .pick (.t 27) (.t 29) (.k (.sc (.bool false))), none⟩,
  ⟨(some 31), .move (.t 30), none⟩,
  ⟨(some 32), .move (.t 1), (some (31, true))⟩,
  ⟨(some 33), .bin .leq .no (.t 32) (.k (.sc (.int .i64 400))), (some (31, true))⟩,
  ⟨(some 34), .pick (.t 31) (.t 33) (.k (.sc (.bool false))), none⟩,
  ⟨(some 4), .move (.t 34), none⟩]
def m23_code : MCode := (.seq (.ops m23_r0) (.seq (.seq (.ops m23_r1) (.block 0 (.loop m23_l2))) (.seq (.ops m23_r7) .ret)))
def m23 : MFunc := ⟨35, [.tmp 4], m23_code⟩

def m24_r0 : List MI := [
  ⟨(some 2), .move (.k (.sc (.nils))), none⟩]
def m24_r1 : List MI := [
  ⟨(some 3), .move (.k (.sc (.nils))), none⟩]
def m24_r2 : List MI := [
  ⟨(some 4), .move (.k (.sc (.int .i64 0))), none⟩]
def m24_r4 : List MI := [
  ⟨(some 5), .move (.t 4), none⟩,
  ⟨(some 6), .move (.t 0), none⟩,
  ⟨(some 7), .lenSlice (.t 6), none⟩,
  ⟨(some 8), .bin .lss .no (.t 5) (.t 7), none⟩]
def m24_r5 : List MI := [
  ⟨(some 11), .move (.t 3), none⟩,
  ⟨(some 12), .move (.t 0), none⟩,
  ⟨(some 13), .move (.t 4), none⟩,
  ⟨(some 14), .indexSlice 3 (.t 12) (.t 13), none⟩,
  ⟨(some 15), .load (some 3) (.t 14), none⟩,
  ⟨(some 16), .buildSlice 90 3 1 [.nils, .bool false, .bool false] [(0, 3, (.t 15))], none⟩,
  ⟨(some 17), .append 90 3 32 [.nils, .bool false, .bool false] (.t 11) (.t 16), none⟩,
  ⟨(some 3), .move (.t 17), none⟩]
def m24_r6 : List MI := [
  ⟨(some 9), .move (.t 4), none⟩,
  ⟨(some 10), .bin .add .no (.t 9) (.k (.sc (.int .i64 1))), none⟩,
  ⟨(some 4), .move (.t 10), none⟩]
def m24_l3 : MCode := (.seq (.seq (.ops m24_r4) (.cond (.t 8) .skip (.exit 0))) (.seq (.block 1 (.ops m24_r5)) (.ops m24_r6)))
def m24_r7 : List MI := [
  ⟨(some 18), .move (.t 3), none⟩,
  ⟨(some 2), .move (.t 18), none⟩]
def m24_code : MCode := (.seq (.ops m24_r0) (.seq (.ops m24_r1) (.seq (.seq (.ops m24_r2) (.block 0 (.loop m24_l3))) (.seq (.ops m24_r7) .ret))))
def m24 : MFunc := ⟨19, [.tmp 2], m24_code⟩

def m25_r0 : List MI := [
  ⟨(some 4), .move (.k (.sc (.nilp))), none⟩]
def m25_r1 : List MI := [
  ⟨(some 6), .move (.t 0), none⟩,
  ⟨(some 7), .move (.t 1), none⟩,
  ⟨(some 8), .move (.t 0), none⟩,
  ⟨(some 9), .lenSlice (.t 8), none⟩,
  ⟨(some 10), .bin .sub .no (.t 9) (.k (.sc (.int .i64 1))), none⟩,
  ⟨(some 11), .build [.nils, .int .i64 0, .int .i64 0, .int .i64 0, .int .i64 0, .bool false, .int .i64 0, .int .i64 0] [(0, 1, (.t 6)), (1, 1, (.t 7)), (4, 1, (.t 10))], none⟩,
  ⟨(some 12), .box 54 (.t 11), none⟩,
  ⟨(some 5), .move (.t 12), none⟩]
def m25_r2 : List MI := [
  ⟨(some 13), .move (.t 0), none⟩,
  ⟨(some 14), .lenSlice (.t 13), none⟩,
  ⟨(some 15), .move (.t 1), none⟩,
  ⟨(some 16), .bin .gtr .no (.t 14) (.t 15), none⟩]
def m25_r3 : List MI := [
  ⟨(some 17), .move (.t 5), none⟩,
  ⟨(some 18), .move (.t 0), none⟩,
  ⟨(some 19), .lenSlice (.t 18), none⟩,
  ⟨(some 20), .move (.t 1), none⟩,
  ⟨(some 21), .bin .sub .no (.t 19) (.t 20), none⟩,
  ⟨(some 22), .nilCheck (.t 17), none⟩,
  ⟨(some 23), .fieldAddr 2 (.t 22), none⟩,
  ⟨none, .store 1 (.t 23) (.t 21), none⟩]
def m25_r4 : List MI := [
  ⟨(some 24), .move (.t 5), none⟩,
  ⟨(some 4), .move (.t 24), none⟩]
def m25_code : MCode := (.seq (.ops m25_r0) (.seq (.ops m25_r1) (.seq (.seq (.ops m25_r2) (.cond (.t 16) (.ops m25_r3) .skip)) (.seq (.ops m25_r4) .ret))))
def m25 : MFunc := ⟨25, [.tmp 4], m25_code⟩

def m26_r0 : List MI := [
  ⟨(some 5), .box 50 (.t 2), none⟩,
  ⟨(some 6), .move (.k (.sc (.bool false))), none⟩]
def m26_r1 : List MI := [
  ⟨(some 8), .fieldAddr 0 (.t 5), none⟩,
  ⟨(some 9), .load none (.t 8), none⟩]
def m26_r2 : List MI := [
  ⟨(some 11), .bin .eql .no (.t 9) (.k (.sc (.int .u8 0))), none⟩,
  ⟨(some 10), .move (.t 11), none⟩]
def m26_r3 : List MI := [
  ⟨(some 12), .move (.t 0), none⟩,
  ⟨(some 13), .fieldAddr 1 (.t 5), none⟩,
  ⟨(some 14), .load none (.t 13), none⟩,
  ⟨(some 15), .fieldAddr 2 (.t 5), none⟩,
  ⟨(some 16), .load none (.t 15), none⟩,
  ⟨(some 17), .call 12 [(.t 12), (.t 14), (.t 16)], none⟩]
def m26_r4 : List MI := [
  ⟨(some 18), .move (.t 1), none⟩,
  ⟨(some 19), .fieldAddr 1 (.t 5), none⟩,
  ⟨(some 20), .load none (.t 19), none⟩,
  ⟨(some 21), .fieldAddr 2 (.t 5), none⟩,
  ⟨(some 22), .load none (.t 21), none⟩,
  ⟨(some 23), .call 41 [(.t 18), (.t 20), (.t 22)], none⟩]
def m26_r5 : List MI := [
  ⟨(some 25), .bin .eql .no (.t 9) (.k (.sc (.int .u8 1))), none⟩,
  ⟨(some 24), .move (.t 25), none⟩]
def m26_r6 : List MI := [
  ⟨(some 26), .move (.t 0), none⟩,
  ⟨(some 27), .fieldAddr 1 (.t 5), none⟩,
  ⟨(some 28), .load none (.t 27), none⟩,
  ⟨(some 29), .fieldAddr 2 (.t 5), none⟩,
  ⟨(some 30), .load none (.t 29), none⟩,
  ⟨(some 31), .call 19 [(.t 26), (.t 28), (.t 30)], none⟩]
def m26_r7 : List MI := [
  ⟨(some 32), .move (.t 1), none⟩,
  ⟨(some 33), .fieldAddr 1 (.t 5), none⟩,
  ⟨(some 34), .load none (.t 33), none⟩,
  ⟨(some 35), .fieldAddr 2 (.t 5), none⟩,
  ⟨(some 36), .load none (.t 35), none⟩,
  ⟨(some 37), .call 42 [(.t 32), (.t 34), (.t 36)], none⟩]
def m26_r8 : List MI := [
  ⟨(some 39), .bin .eql .no (.t 9) (.k (.sc (.int .u8 2))), none⟩,
  ⟨(some 38), .move (.t 39), none⟩]
def m26_r9 : List MI := [
  ⟨(some 40), .move (.t 0), none⟩,
  ⟨(some 41), .call 15 [(.t 40)], none⟩]
def m26_r10 : List MI := [
  ⟨(some 42), .move (.t 1), none⟩,
  ⟨(some 43), .nilCheck (.t 42), none⟩,
  ⟨(some 44), .fieldAddr 5 (.t 43), none⟩,
  ⟨none, .store 1 (.t 44) (.k (.sc (.bool true))), none⟩]
def m26_r11 : List MI := [
  ⟨(some 45), .move (.t 1), none⟩,
  ⟨(some 46), .move (.t 1), none⟩,
  ⟨(some 47), .nilCheck (.t 46), none⟩,
  ⟨(some 48), .fieldAddr 3 (.t 47), none⟩,
  ⟨(some 49), .load none (.t 48), none⟩,
  ⟨(some 50), .nilCheck (.t 45), none⟩,
  ⟨(some 51), .fieldAddr 6 (.t 50), none⟩,
  ⟨none, .store 1 (.t 51) (.t 49), none⟩]
def m26_r12 : List MI := [
  ⟨(some 52), .move (.t 1), none⟩,
  ⟨(some 53), .move (.t 1), none⟩,
  ⟨(some 54), .nilCheck (.t 53), none⟩,
  ⟨(some 55), .fieldAddr 4 (.t 54), none⟩,
  ⟨(some 56), .load none (.t 55), none⟩,
  ⟨(some 57), .nilCheck (.t 52), none⟩,
  ⟨(some 58), .fieldAddr 7 (.t 57), none⟩,
  ⟨none, .store 1 (.t 58) (.t 56), none⟩]
def m26_r13 : List MI := [
  ⟨(some 60), .bin .eql .no (.t 9) (.k (.sc (.int .u8 3))), none⟩,
  ⟨(some 59), .move (.t 60), none⟩]
def m26_r14 : List MI := [
  ⟨(some 61), .move (.t 0), none⟩,
  ⟨(some 62), .call 17 [(.t 61)], none⟩]
def m26_r15 : List MI := [
  ⟨(some 63), .move (.t 1), none⟩,
  ⟨(some 64), .nilCheck (.t 63), none⟩,
  ⟨(some 65), .fieldAddr 5 (.t 64), none⟩,
  ⟨none, .store 1 (.t 65) (.k (.sc (.bool false))), none⟩]
def m26_r16 : List MI := [
  ⟨(some 66), .move (.t 1), none⟩,
  ⟨(some 67), .nilCheck (.t 66), none⟩,
  ⟨(some 68), .fieldAddr 6 (.t 67), none⟩,
  ⟨none, .store 1 (.t 68) (.k (.sc (.int .i64 0))), none⟩]
def m26_r17 : List MI := [
  ⟨(some 69), .move (.t 1), none⟩,
  ⟨(some 70), .nilCheck (.t 69), none⟩,
  ⟨(some 71), .fieldAddr 7 (.t 70), none⟩,
  ⟨none, .store 1 (.t 71) (.k (.sc (.int .i64 0))), none⟩]
def m26_r18 : List MI := [
  ⟨(some 73), .bin .eql .no (.t 9) (.k (.sc (.int .u8 4))), none⟩,
  ⟨(some 72), .move (.t 73), none⟩]
def m26_r19 : List MI := [
  ⟨(some 74), .move (.t 0), none⟩,
  ⟨(some 75), .fieldAddr 3 (.t 5), none⟩,
  ⟨(some 76), .load none (.t 75), none⟩,
  ⟨(some 77), .fieldAddr 1 (.t 5), none⟩,
  ⟨(some 78), .load none (.t 77), none⟩,
  ⟨(some 79), .bin .lss .no (.t 78) (.k (.sc (.int .i64 0))), none⟩,
  ⟨(some 80), .call 13 [(.t 74), (.t 76), (.t 79)], none⟩,
  ⟨(some 7), .move (.t 80), none⟩]
def m26_r20 : List MI := [
  ⟨(some 81), .fieldAddr 3 (.t 5), none⟩,
  ⟨(some 82), .load none (.t 81), none⟩,
  ⟨(some 83), .lenStr (.t 82), none⟩,
  ⟨(some 84), .bin .lss .no (.t 83) (.k (.sc (.int .i64 1))), none⟩,
  ⟨(some 85), .move (.t 84), none⟩,
  ⟨(some 86), .fieldAddr 3 (.t 5), (some (85, false))⟩,
  ⟨(some 87), .load none (.t 86), (some (85, false))⟩,
  ⟨(some 88), .lenStr (.t 87), (some (85, false))⟩,
  ⟨(some 89), .bin .gtr .no (.t 88) (.k (.sc (.int .i64 32))), (some (85, false))⟩,
  ⟨(some 90), .pick (.t 85) (.k (.sc (.bool true))) (.t 89), none⟩]
def m26_r21 : List MI := [
  ⟨(some 91), .move (.t 7), none⟩,
  ⟨(some 92), .bin .eql .no (.t 91) (.k (.sc (.int .i64 1))), none⟩,
  ⟨(some 6), .move (.t 92), none⟩]
def m26_r22 : List MI := [
  ⟨(some 93), .move (.t 1), none⟩,
  ⟨(some 94), .fieldAddr 3 (.t 5), none⟩,
  ⟨(some 95), .load none (.t 94), none⟩,
  ⟨(some 96), .fieldAddr 1 (.t 5), none⟩,
  ⟨(some 97), .load none (.t 96), none⟩,
  ⟨(some 98), .bin .lss .no (.t 97) (.k (.sc (.int .i64 0))), none⟩,
  ⟨(some 99), .call 43 [(.t 93), (.t 95), (.t 98)], none⟩]
def m26_r23 : List MI := [
  ⟨(some 100), .move (.t 7), none⟩,
  ⟨(some 101), .bin .eql .no (.t 100) (.k (.sc (.int .i64 0))), none⟩,
  ⟨(some 6), .move (.t 101), none⟩]
def m26_r24 : List MI := [
  ⟨(some 102), .move (.t 7), none⟩,
  ⟨(some 103), .bin .eql .no (.t 102) (.k (.sc (.int .i64 4))), none⟩,
  ⟨(some 6), .move (.t 103), none⟩]
def m26_r25 : List MI := [
  ⟨(some 6), .move (.k (.sc (.bool true))), none⟩]
def m26_code : MCode := (.seq (.ops m26_r0) (.seq (.seq (.ops m26_r1) (.block 0 (.seq (.ops m26_r2) (.cond (.t 10) (.seq (.ops m26_r3) (.ops m26_r4)) (.seq (.ops m26_r5) (.cond (.t 24) (.seq (.ops m26_r6) (.ops m26_r7)) (.seq (.ops m26_r8) (.cond (.t 38) (.seq (.ops m26_r9) (.seq (.ops m26_r10) (.seq (.ops m26_r11) (.ops m26_r12)))) (.seq (.ops m26_r13) (.cond (.t 59) (.seq (.ops m26_r14) (.seq (.ops m26_r15) (.seq (.ops m26_r16) (.ops m26_r17)))) (.seq (.ops m26_r18) (.cond (.t 72) (.seq (.ops m26_r19) (.seq (.seq (.ops m26_r20) (.cond (.t 90) (.seq (.ops m26_r21) .ret) .skip)) (.seq (.seq (.ops m26_r22) (.cond (.t 99) (.seq (.ops m26_r23) .ret) .skip)) (.seq (.ops m26_r24) .ret)))) .skip)))))))))))) (.seq (.ops m26_r25) .ret)))
def m26 : MFunc := ⟨104, [.tmp 6], m26_code⟩

def m27_r0 : List MI := [
  ⟨(some 2), .move (.k (.sc (.int .i64 0))), none⟩,
  ⟨(some 3), .move (.k (.sc (.int .i64 0))), none⟩,
  ⟨(some 4), .move (.k (.sc (.bool false))), none⟩]
def m27_r1 : List MI := [
  ⟨(some 5), .move (.t 0), none⟩,
  ⟨(some 6), .call 33 [(.t 5)], none⟩,
  ⟨(some 7), .move (.t 6), none⟩,
  ⟨(some 8), .move (.t 0), (some (7, false))⟩,
  ⟨(some 9), .nilCheck (.t 8), (some (7, false))⟩,
  ⟨(some 10), .fieldAddr 5 (.t 9), (some (7, false))⟩,
  ⟨(some 11), .load none (.t 10), (some (7, false))⟩,
  ⟨(some 12), .bin .eql .ptr (.t 11) (.k (.sc (.nilp))), (some (7, false))⟩,
  ⟨(some 13), .pick (.t 7) (.k (.sc (.bool true))) (.t 12), none⟩]
def m27_r2 : List MI := [
  ⟨(some 2), .move (.k (.sc (.int .i64 0))), none⟩,
  ⟨(some 3), .move (.k (.sc (.int .i64 0))), none⟩,
  ⟨(some 4), .move (.k (.sc (.bool false))), none⟩]
def m27_r3 : List DI := [
  ⟨⟨(some 14), .move (.t 0), none⟩, 0, [], []⟩,
  ⟨⟨(some 15), .nilCheck (.t 14), none⟩, 0, [], []⟩,
  ⟨⟨(some 16), .fieldAddr 5 (.t 15), none⟩, 0, [], []⟩,
  ⟨⟨(some 17), .load none (.t 16), none⟩, 1, [], []⟩,
  ⟨⟨(some 18), .nilCheck (.t 17), none⟩, 0, [], []⟩,
  ⟨⟨(some 19), .fieldAddr 0 (.t 18), none⟩, 0, [], []⟩,
  ⟨⟨(some 20), .load none (.t 19), none⟩, 1, [], []⟩,
  ⟨⟨(some 21), .move (.t 0), none⟩, 0, [], []⟩,
  ⟨⟨(some 22), .nilCheck (.t 21), none⟩, 0, [], []⟩,
  ⟨⟨(some 23), .fieldAddr 5 (.t 22), none⟩, 0, [], []⟩,
  ⟨⟨(some 24), .load none (.t 23), none⟩, 1, [], []⟩,
  ⟨⟨(some 25), .nilCheck (.t 24), none⟩, 0, [], []⟩,
  ⟨⟨(some 26), .fieldAddr 1 (.t 25), none⟩, 0, [], []⟩,
  ⟨⟨(some 27), .load none (.t 26), none⟩, 1, [], []⟩,
  ⟨⟨(some 2), .move (.t 20), none⟩, 0, [], []⟩,
  ⟨⟨(some 3), .move (.t 27), none⟩, 0, [], []⟩,
  ⟨⟨(some 4), .move (.k (.sc (.bool true))), none⟩, 0, [], []⟩]
def m27_code : MCode := (.seq (.ops m27_r0) (.seq (.seq (.ops m27_r1) (.cond (.t 13) (.seq (.ops m27_r2) .ret) .skip)) (.seq (.draw m27_r3) .ret)))
def m27 : MFunc := ⟨28, [.tmp 2, .tmp 3, .tmp 4], m27_code⟩

def m28_r0 : List MI := [
  ⟨(some 2), .move (.k (.sc (.str []))), none⟩]
def m28_r1 : List MI := [
  ⟨(some 14), .move (.t 0), none⟩,
  ⟨(some 15), .nilCheck (.t 14), none⟩,
  ⟨(some 16), .fieldAddr 5 (.t 15), none⟩,
  ⟨(some 17), .load none (.t 16), none⟩,
  ⟨(some 18), .un .not (.t 17), none⟩]
def m28_r2 : List MI := [
  ⟨(some 2), .move (.k (.sc (.str []))), none⟩]
def m28_r3 : List DI := [
  ⟨⟨(some 19), .move (.t 0), none⟩, 0, [], []⟩,
  ⟨⟨(some 20), .nilCheck (.t 19), none⟩, 0, [], []⟩,
  ⟨⟨(some 21), .fieldAddr 6 (.t 20), none⟩, 0, [], []⟩,
  ⟨⟨(some 22), .load none (.t 21), none⟩, 1, [], []⟩,
  ⟨⟨(some 23), .move (.t 0), none⟩, 0, [], []⟩,
  ⟨⟨(some 24), .nilCheck (.t 23), none⟩, 0, [], []⟩,
  ⟨⟨(some 25), .fieldAddr 7 (.t 24), none⟩, 0, [], []⟩,
  ⟨⟨(some 26), .load none (.t 25), none⟩, 1, [], []⟩,
  ⟨⟨(some 27), .move (.t 0), none⟩, 0, [], []⟩,
  ⟨⟨(some 28), .nilCheck (.t 27), none⟩, 0, [], []⟩,
  ⟨⟨(some 29), .fieldAddr 3 (.t 28), none⟩, 0, [], []⟩,
  ⟨⟨(some 30), .load none (.t 29), none⟩, 1, [], []⟩,
  ⟨⟨(some 31), .move (.t 0), none⟩, 0, [], []⟩,
  ⟨⟨(some 32), .nilCheck (.t 31), none⟩, 0, [], []⟩,
  ⟨⟨(some 33), .fieldAddr 4 (.t 32), none⟩, 0, [], []⟩,
  ⟨⟨(some 34), .load none (.t 33), none⟩, 1, [], []⟩,
  ⟨⟨(some 3), .move (.t 22), none⟩, 0, [], []⟩,
  ⟨⟨(some 4), .move (.t 26), none⟩, 0, [], []⟩,
  ⟨⟨(some 5), .move (.t 30), none⟩, 0, [], []⟩,
  ⟨⟨(some 6), .move (.t 34), none⟩, 0, [], []⟩]
def m28_r4 : List MI := [
  ⟨(some 35), .move (.t 6), none⟩,
  ⟨(some 36), .move (.t 4), none⟩,
  ⟨(some 37), .bin .lss .no (.t 35) (.t 36), none⟩,
  ⟨(some 38), .move (.t 37), none⟩,
  ⟨(some 39), .move (.t 6), (some (38, false))⟩,
  ⟨(some 40), .move (.t 4), (some (38, false))⟩,
  ⟨(some 41), .bin .eql .no (.t 39) (.t 40), (some (38, false))⟩,
  ⟨(some 42), .move (.t 41), (some (38, false))⟩,
  ⟨(some 43), .move (.t 5), (some (42, true))⟩,
  ⟨(some 44), .move (.t 3), (some (42, true))⟩,
  ⟨(some 45), .bin .lss .no (.t 43) (.t 44), (some (42, true))⟩,
  ⟨(some 46), .pick (.t 42) (.t 45) (.k (.sc (.bool false))), (some (38, false))⟩,
  ⟨(some 47), .pick (.t 38) (.k (.sc (.bool true))) (.t 46), none⟩]
def m28_r5 : List MI := [
  ⟨(some 48), .move (.t 5), none⟩,
  ⟨(some 49), .move (.t 6), none⟩,
  ⟨(some 50), .move (.t 3), none⟩,
  ⟨(some 51), .move (.t 4), none⟩,
  ⟨(some 3), .move (.t 48), none⟩,
  ⟨(some 4), .move (.t 49), none⟩,
  ⟨(some 5), .move (.t 50), none⟩,
  ⟨(some 6), .move (.t 51), none⟩]
def m28_r6 : List MI := [
  ⟨(some 7), .move (.k (.sc (.str []))), none⟩]
def m28_r7 : List MI := [
  ⟨(some 52), .move (.t 4), none⟩,
  ⟨(some 8), .move (.t 52), none⟩]
def m28_r9 : List MI := [
  ⟨(some 53), .move (.t 8), none⟩,
  ⟨(some 54), .move (.t 6), none⟩,
  ⟨(some 55), .bin .leq .no (.t 53) (.t 54), none⟩]
def m28_r10 : List MI := [
  ⟨(some 58), .move (.t 0), none⟩,
  ⟨(some 59), .nilCheck (.t 58), none⟩,
  ⟨(some 60), .fieldAddr 0 (.t 59), none⟩,
  ⟨(some 61), .load none (.t 60), none⟩,
  ⟨(some 62), .move (.t 8), none⟩,
  ⟨(some 63), .indexSlice 3 (.t 61) (.t 62), none⟩,
  ⟨(some 64), .load (some 3) (.t 63), none⟩,
  ⟨(some 9), .alloc 90 [.nils, .bool false, .bool false], none⟩,
  ⟨none, .store 3 (.t 9) (.t 64), none⟩]
def m28_r11 : List MI := [
  ⟨(some 10), .move (.k (.sc (.str []))), none⟩]
def m28_r12 : List MI := [
  ⟨(some 11), .move (.k (.sc (.int .i64 0))), none⟩]
def m28_r13 : List MI := [
  ⟨(some 12), .move (.k (.sc (.bool true))), none⟩]
def m28_r14 : List MI := [
  ⟨(some 13), .move (.k (.sc (.int .i64 0))), none⟩]
def m28_r16 : List MI := [
  ⟨(some 65), .move (.t 13), none⟩,
  ⟨(some 66), .fieldAddr 0 (.t 9), none⟩,
  ⟨(some 67), .load none (.t 66), none⟩,
  ⟨(some 68), .lenSlice (.t 67), none⟩,
  ⟨(some 69), .bin .lss .no (.t 65) (.t 68), none⟩]
def m28_r17 : List MI := [
  ⟨(some 72), .move (.t 8), none⟩,
  ⟨(some 73), .move (.t 4), none⟩,
  ⟨(some 74), .bin .eql .no (.t 72) (.t 73), none⟩,
  ⟨(some 75), .move (.t 74), none⟩,
  ⟨(some 76), .move (.t 13), (some (75, true))⟩,
  ⟨(some 77), .move (.t 3), (some (75, true))⟩,
  ⟨(some 78), .bin .lss .no (.t 76) (.t 77), (some (75, true))⟩,
  ⟨(some 79), .pick (.t 75) (.t 78) (.k (.sc (.bool false))), none⟩,
  ⟨(some 80), .move (.t 79), none⟩,
  ⟨(some 81), .move (.t 8), (some (80, false))⟩,
  ⟨(some 82), .move (.t 6), (some (80, false))⟩,
  ⟨(some 83), .bin .eql .no (.t 81) (.t 82), (some (80, false))⟩,
  ⟨(some 84), .move (.t 83), (some (80, false))⟩,
  ⟨(some 85), .move (.t 13), (some (84, true))⟩,
  ⟨(some 86), .move (.t 5), (some (84, true))⟩,
  ⟨(some 87), .bin .gtr .no (.t 85) (.t 86), (some (84, true))⟩,
  ⟨(some 88), .pick (.t 84) (.t 87) (.k (.sc (.bool false))), (some (80, false))⟩,
  ⟨(some 89), .pick (.t 80) (.k (.sc (.bool true))) (.t 88), none⟩,
  ⟨(some 90), .move (.t 89), none⟩,
  ⟨(some 91), .move (.t 13), (some (90, false))⟩,
  ⟨(some 92), .fieldAddr 0 (.t 9), (some (90, false))⟩,
  ⟨(some 93), .load none (.t 92), (some (90, false))⟩,
  ⟨(some 94), .lenSlice (.t 93), (some (90, false))⟩,
  ⟨(some 95), .bin .sub .no (.t 94) (.k (.sc (.int .i64 1))), (some (90, false))⟩,
  ⟨(some 96), .bin .eql .no (.t 91) (.t 95), (some (90, false))⟩,
  ⟨(some 97), .move (.t 96), (some (90, false))⟩,
  ⟨(some 98), .fieldAddr 1 (.t 9), (some (97, true))⟩,
  ⟨(some 99), .load none (.t 98), (some (97, true))⟩,
  ⟨(some 100), .pick (.t 97) (.t 99) (.k (.sc (.bool false))), (some (90, false))⟩,
  ⟨(some 101), .move (.t 100), (some (90, false))⟩,
  ⟨(some 102), .fieldAddr 2 (.t 9), (some (101, true))⟩,
  ⟨(some 103), .load none (.t 102), (some (101, true))⟩,
  ⟨(some 104), .pick (.t 101) (.t 103) (.k (.sc (.bool false))), (some (90, false))⟩,
  ⟨(some 105), .pick (.t 90) (.k (.sc (.bool true))) (.t 104), none⟩]
def m28_r18 : List MI := [
  ⟨(some 106), .move (.t 12), none⟩,
  ⟨(some 107), .move (.t 106), none⟩,
  ⟨(some 108), .fieldAddr 0 (.t 9), (some (107, false))⟩,
  ⟨(some 109), .load none (.t 108), (some (107, false))⟩,
  ⟨(some 110), .move (.t 13), (some (107, false))⟩,
  ⟨(some 111), .indexSlice 7 (.t 109) (.t 110), (some (107, false))⟩,
  ⟨(some 112), .fieldAddr 1 (.t 111), (some (107, false))⟩,
  ⟨(some 113), .load none (.t 112), (some (107, false))⟩,
  ⟨(some 114), .bin .neq .no (.t 113) (.k (.sc (.int .u8 2))), (some (107, false))⟩,
  ⟨(some 115), .pick (.t 107) (.k (.sc (.bool true))) (.t 114), none⟩]
def m28_r19 : List MI := [
  ⟨(some 116), .move (.t 10), none⟩,
  ⟨(some 117), .fieldAddr 0 (.t 9), none⟩,
  ⟨(some 118), .load none (.t 117), none⟩,
  ⟨(some 119), .move (.t 13), none⟩,
  ⟨(some 120), .indexSlice 7 (.t 118) (.t 119), none⟩,
  ⟨(some 121), .fieldAddr 0 (.t 120), none⟩,
  ⟨(some 122), .load none (.t 121), none⟩,
  ⟨(some 123), .call 44 [(.t 122)], none⟩,
  ⟨(some 124), .bin .add .no (.t 116) (.t 123), none⟩,
  ⟨(some 10), .move (.t 124), none⟩]
def m28_r20 : List MI := [
  ⟨(some 125), .fieldAddr 0 (.t 9), none⟩,
  ⟨(some 126), .load none (.t 125), none⟩,
  ⟨(some 127), .move (.t 13), none⟩,
  ⟨(some 128), .indexSlice 7 (.t 126) (.t 127), none⟩,
  ⟨(some 129), .fieldAddr 0 (.t 128), none⟩,
  ⟨(some 130), .load none (.t 129), none⟩,
  ⟨(some 131), .bin .neq .no (.t 130) (.k (.sc (.int .i32 32))), none⟩]
def m28_r21 : List MI := [
  ⟨(some 132), .move (.t 10), none⟩,
  ⟨(some 133), .lenStr (.t 132), none⟩,
  ⟨(some 11), .move (.t 133), none⟩]
def m28_r22 : List MI := [
  ⟨(some 12), .move (.k (.sc (.bool false))), none⟩]
def m28_r23 : List MI := [
  ⟨(some 70), .move (.t 13), none⟩,
  ⟨(some 71), .bin .add .no (.t 70) (.k (.sc (.int .i64 1))), none⟩,
  ⟨(some 13), .move (.t 71), none⟩]
def m28_l15 : MCode := (.seq (.seq (.ops m28_r16) (.cond (.t 69) .skip (.exit 2))) (.seq (.block 3 (.seq (.seq (.ops m28_r17) (.cond (.t 105) (.exit 3) .skip)) (.seq (.seq (.ops m28_r18) (.cond (.t 115) (.seq (.ops m28_r19) (.seq (.ops m28_r20) (.cond (.t 131) (.ops m28_r21) .skip))) .skip)) (.ops m28_r22)))) (.ops m28_r23)))
def m28_r24 : List MI := [
  ⟨(some 134), .fieldAddr 1 (.t 9), none⟩,
  ⟨(some 135), .load none (.t 134), none⟩,
  ⟨(some 136), .un .not (.t 135), none⟩,
  ⟨(some 137), .move (.t 136), none⟩,
  ⟨(some 138), .move (.t 8), (some (137, true))⟩,
  ⟨(some 139), .move (.t 6), (some (137, true))⟩,
  ⟨(some 140), .bin .lss .no (.t 138) (.t 139), (some (137, true))⟩,
  ⟨(some 141), .move (.t 140), (some (137, true))⟩,
  ⟨(some 142), .move (.t 5), (some (141, false))⟩,
  ⟨(some 143), .fieldAddr 0 (.t 9), (some (141, false))⟩,
  ⟨(some 144), .load none (.t 143), (some (141, false))⟩,
  ⟨(some 145), .lenSlice (.t 144), (some (141, false))⟩,
  ⟨(some 146), .bin .sub .no (.t 145) (.k (.sc (.int .i64 1))), (some (141, false))⟩,
  ⟨(some 147), .bin .eql .no (.t 142) (.t 146), (some (141, false))⟩,
  ⟨(some 148), .pick (.t 141) (.k (.sc (.bool true))) (.t 147), (some (137, true))⟩,
  ⟨(some 149), .pick (.t 137) (.t 148) (.k (.sc (.bool false))), none⟩]
def m28_r25 : List MI := [
  ⟨(some 150), .move (.t 10), none⟩,
  ⟨(some 151), .move (.t 11), none⟩,
  ⟨(some 152), .sliceStr (.t 150) none (some (.t 151)), none⟩,
  ⟨(some 10), .move (.t 152), none⟩]
def m28_r26 : List MI := [
  ⟨(some 153), .move (.t 8), none⟩,
  ⟨(some 154), .move (.t 4), none⟩,
  ⟨(some 155), .bin .gtr .no (.t 153) (.t 154), none⟩,
  ⟨(some 156), .move (.t 155), none⟩,
  ⟨(some 157), .move (.t 0), (some (156, true))⟩,
  ⟨(some 158), .nilCheck (.t 157), (some (156, true))⟩,
  ⟨(some 159), .fieldAddr 0 (.t 158), (some (156, true))⟩,
  ⟨(some 160), .load none (.t 159), (some (156, true))⟩,
  ⟨(some 161), .move (.t 8), (some (156, true))⟩,
  ⟨(some 162), .bin .sub .no (.t 161) (.k (.sc (.int .i64 1))), (some (156, true))⟩,
  ⟨(some 163), .indexSlice 3 (.t 160) (.t 162), (some (156, true))⟩,
  ⟨(some 164), .fieldAddr 1 (.t 163), (some (156, true))⟩,
  ⟨(some 165), .load none (.t 164), (some (156, true))⟩,
  ⟨(some 166), .un .not (.t 165), (some (156, true))⟩,
  ⟨(some 167), .pick (.t 156) (.t 166) (.k (.sc (.bool false))), none⟩]
def m28_r27 : List MI := [
  ⟨(some 168), .move (.t 7), none⟩,
  ⟨(some 169), .bin .add .no (.t 168) (.k (.sc (.str [10]))), none⟩,
  ⟨(some 7), .move (.t 169), none⟩]
def m28_r28 : List MI := [
  ⟨(some 170), .move (.t 7), none⟩,
  ⟨(some 171), .move (.t 10), none⟩,
  ⟨(some 172), .bin .add .no (.t 170) (.t 171), none⟩,
  ⟨(some 7), .move (.t 172), none⟩]
def m28_r29 : List MI := [
  ⟨(some 56), .move (.t 8), none⟩,
  ⟨(some 57), .bin .add .no (.t 56) (.k (.sc (.int .i64 1))), none⟩,
  ⟨(some 8), .move (.t 57), none⟩]
def m28_l8 : MCode := (.seq (.seq (.ops m28_r9) (.cond (.t 55) .skip (.exit 0))) (.seq (.block 1 (.seq (.ops m28_r10) (.seq (.ops m28_r11) (.seq (.ops m28_r12) (.seq (.ops m28_r13) (.seq (.seq (.ops m28_r14) (.block 2 (.loop m28_l15))) (.seq (.seq (.ops m28_r24) (.cond (.t 149) (.ops m28_r25) .skip)) (.seq (.seq (.ops m28_r26) (.cond (.t 167) (.ops m28_r27) .skip)) (.ops m28_r28))))))))) (.ops m28_r29)))
def m28_r30 : List MI := [
  ⟨(some 173), .move (.t 7), none⟩,
  ⟨(some 2), .move (.t 173), none⟩]
def m28_code : MCode := (.seq (.ops m28_r0) (.seq (.seq (.ops m28_r1) (.cond (.t 18) (.seq (.ops m28_r2) .ret) .skip)) (.seq (.draw m28_r3) (.seq (.seq (.ops m28_r4) (.cond (.t 47) (.ops m28_r5) .skip)) (.seq (.ops m28_r6) (.seq (.seq (.ops m28_r7) (.block 0 (.loop m28_l8))) (.seq (.ops m28_r30) .ret)))))))
def m28 : MFunc := ⟨174, [.tmp 2], m28_code⟩

def m29_r0 : List MI := [
  ⟨(some 4), .move (.k (.sc (.bool false))), none⟩]
def m29_r1 : List MI := [
  ⟨(some 6), .move (.t 0), none⟩,
  ⟨(some 7), .lenSlice (.t 6), none⟩,
  ⟨(some 8), .move (.t 1), none⟩,
  ⟨(some 9), .lenSlice (.t 8), none⟩,
  ⟨(some 10), .bin .neq .no (.t 7) (.t 9), none⟩]
def m29_r2 : List MI := [
  ⟨(some 4), .move (.k (.sc (.bool false))), none⟩]
def m29_r3 : List MI := [
  ⟨(some 5), .move (.k (.sc (.int .i64 0))), none⟩]
def m29_r5 : List MI := [
  ⟨(some 11), .move (.t 5), none⟩,
  ⟨(some 12), .move (.t 0), none⟩,
  ⟨(some 13), .lenSlice (.t 12), none⟩,
  ⟨(some 14), .bin .lss .no (.t 11) (.t 13), none⟩]
def m29_r6 : List DI := [
  ⟨⟨(some 17), .move (.t 0), none⟩, 0, [], []⟩,
  ⟨⟨(some 18), .move (.t 5), none⟩, 0, [], []⟩,
  ⟨⟨(some 19), .indexSlice 3 (.t 17) (.t 18), none⟩, 0, [], []⟩,
  ⟨⟨(some 20), .fieldAddr 1 (.t 19), none⟩, 0, [], []⟩,
  ⟨⟨(some 21), .load none (.t 20), none⟩, 1, [], []⟩,
  ⟨⟨(some 22), .move (.t 1), none⟩, 0, [], []⟩,
  ⟨⟨(some 23), .move (.t 5), none⟩, 0, [], []⟩,
  ⟨⟨(some 24), .indexSlice 3 (.t 22) (.t 23), none⟩, 0, [], []⟩,
  ⟨⟨(some 25), .fieldAddr 1 (.t 24), none⟩, 0, [], []⟩,
  ⟨⟨(some 26), .load none (.t 25), none⟩, 1, [], []⟩,
  ⟨⟨(some 27), .bin .neq .bool (.t 21) (.t 26), none⟩, 0, [], []⟩,
  ⟨⟨(some 28), .move (.t 27), none⟩, 0, [], []⟩,
  ⟨⟨(some 29), .move (.t 0), (some (28, false))⟩, 0, [], []⟩,
  ⟨⟨(some 30), .move (.t 5), (some (28, false))⟩, 0, [], []⟩,
  ⟨⟨(some 31), .indexSlice 3 (.t 29) (.t 30), (some (28, false))⟩, 0, [], []⟩,
  ⟨⟨(some 32), .fieldAddr 2 (.t 31), (some (28, false))⟩, 0, [], []⟩,
  ⟨⟨(some 33), .load none (.t 32), (some (28, false))⟩, 1, [], []⟩,
  ⟨⟨(some 34), .move (.t 1), (some (28, false))⟩, 0, [], []⟩,
  ⟨⟨(some 35), .move (.t 5), (some (28, false))⟩, 0, [], []⟩,
  ⟨⟨(some 36), .indexSlice 3 (.t 34) (.t 35), (some (28, false))⟩, 0, [], []⟩,
  ⟨⟨(some 37), .fieldAddr 2 (.t 36), (some (28, false))⟩, 0, [], []⟩,
  ⟨⟨(some 38), .load none (.t 37), (some (28, false))⟩, 1, [], []⟩,
  ⟨⟨(some 39), .bin .neq .bool (.t 33) (.t 38), (some (28, false))⟩, 0, [], []⟩,
  ⟨⟨(some 40), .pick (.t 28) (.k (.sc (.bool true))) (.t 39), none⟩, 0, [], []⟩,
  ⟨⟨(some 41), .move (.t 40), none⟩, 0, [], []⟩,
  ⟨⟨(some 42), .move (.t 0), (some (41, false))⟩, 0, [], []⟩,
  ⟨⟨(some 43), .move (.t 5), (some (41, false))⟩, 0, [], []⟩,
  ⟨⟨(some 44), .indexSlice 3 (.t 42) (.t 43), (some (41, false))⟩, 0, [], []⟩,
  ⟨⟨(some 45), .fieldAddr 0 (.t 44), (some (41, false))⟩, 0, [], []⟩,
  ⟨⟨(some 46), .load none (.t 45), (some (41, false))⟩, 1, [], []⟩,
  ⟨⟨(some 47), .move (.t 1), (some (41, false))⟩, 0, [], []⟩,
  ⟨⟨(some 48), .move (.t 5), (some (41, false))⟩, 0, [], []⟩,
  ⟨⟨(some 49), .indexSlice 3 (.t 47) (.t 48), (some (41, false))⟩, 0, [], []⟩,
  ⟨⟨(some 50), .fieldAddr 0 (.t 49), (some (41, false))⟩, 0, [], []⟩,
  ⟨⟨(some 51), .load none (.t 50), (some (41, false))⟩, 1, [], []⟩,
  ⟨⟨(some 52), .call 45 [(.t 46), (.t 51)], (some (41, false))⟩, 2, [], []⟩,
  ⟨⟨(some 53), .un .not (.t 52), (some (41, false))⟩, 0, [], []⟩,
  ⟨⟨(some 54), .pick (.t 41) (.k (.sc (.bool true))) (.t 53), none⟩, 0, [], []⟩]
def m29_r7 : List MI := [
  ⟨(some 4), .move (.k (.sc (.bool false))), none⟩]
def m29_r8 : List MI := [
  ⟨(some 15), .move (.t 5), none⟩,
  ⟨(some 16), .bin .add .no (.t 15) (.k (.sc (.int .i64 1))), none⟩,
  ⟨(some 5), .move (.t 16), none⟩]
def m29_l4 : MCode := (.seq (.seq (.ops m29_r5) (.cond (.t 14) .skip (.exit 0))) (.seq (.block 1 (.seq (.draw m29_r6) (.cond (.t 54) (.seq (.ops m29_r7) .ret) .skip))) (.ops m29_r8)))
def m29_r9 : List MI := [
  ⟨(some 4), .move (.k (.sc (.bool true))), none⟩]
def m29_code : MCode := (.seq (.ops m29_r0) (.seq (.seq (.ops m29_r1) (.cond (.t 10) (.seq (.ops m29_r2) .ret) .skip)) (.seq (.seq (.ops m29_r3) (.block 0 (.loop m29_l4))) (.seq (.ops m29_r9) .ret))))
def m29 : MFunc := ⟨55, [.tmp 4], m29_code⟩

def m30_r0 : List MI := [
  ⟨(some 4), .move (.k (.sc (.bool false))), none⟩]
def m30_r1 : List MI := [
  ⟨(some 5), .move (.t 0), none⟩,
  ⟨(some 6), .move (.t 1), none⟩,
  ⟨(some 7), .call 46 [(.t 5), (.t 6)], none⟩,
  ⟨(some 8), .bin .geq .no (.t 7) (.k (.sc (.int .i64 0))), none⟩,
  ⟨(some 4), .move (.t 8), none⟩]
def m30_code : MCode := (.seq (.ops m30_r0) (.seq (.ops m30_r1) .ret))
def m30 : MFunc := ⟨9, [.tmp 4], m30_code⟩

def m31_r0 : List MI := [
  ⟨(some 1), .box 27 (.t 0), none⟩,
  ⟨(some 2), .move (.k (.sc (.bool false))), none⟩]
def m31_r1 : List MI := [
  ⟨(some 3), .fieldAddr 0 (.t 1), none⟩,
  ⟨(some 4), .load none (.t 3), none⟩,
  ⟨(some 5), .lenSlice (.t 4), none⟩,
  ⟨(some 6), .bin .eql .no (.t 5) (.k (.sc (.int .i64 0))), none⟩,
  ⟨(some 2), .move (.t 6), none⟩]
def m31_code : MCode := (.seq (.ops m31_r0) (.seq (.ops m31_r1) .ret))
def m31 : MFunc := ⟨7, [.tmp 2], m31_code⟩

def m32_r0 : List MI := [
  ⟨(some 2), .move (.k (.sc (.nils))), none⟩]
def m32_r1 : List MI := [
  ⟨(some 5), .move (.t 0), none⟩,
  ⟨(some 6), .call 47 [(.t 5)], none⟩,
  ⟨(some 3), .move (.t 6), none⟩]
def m32_r2 : List MI := [
  ⟨(some 7), .move (.t 3), none⟩,
  ⟨(some 8), .lenSlice (.t 7), none⟩,
  ⟨(some 9), .move (.k (.sc (.int .i64 0))), none⟩]
def m32_r4 : List MI := [
  ⟨(some 10), .bin .lss .no (.t 9) (.t 8), none⟩]
def m32_r5 : List MI := [
  ⟨(some 11), .move (.t 9), none⟩,
  ⟨(some 4), .move (.t 11), none⟩]
def m32_r6 : List MI := [
  ⟨(some 12), .move (.t 3), none⟩,
  ⟨(some 13), .move (.t 4), none⟩,
  ⟨(some 14), .move (.t 3), none⟩,
  ⟨(some 15), .move (.t 4), none⟩,
  ⟨(some 16), .indexSlice 3 (.t 14) (.t 15), none⟩,
  ⟨(some 17), .fieldAddr 0 (.t 16), none⟩,
  ⟨(some 18), .load none (.t 17), none⟩,
  ⟨(some 19), .call 48 [(.t 18)], none⟩,
  ⟨(some 20), .indexSlice 3 (.t 12) (.t 13), none⟩,
  ⟨(some 21), .fieldAddr 0 (.t 20), none⟩,
  ⟨none, .store 1 (.t 21) (.t 19), none⟩]
def m32_r7 : List MI := [
  ⟨(some 22), .bin .add .no (.t 9) (.k (.sc (.int .i64 1))), none⟩,
  ⟨(some 9), .move (.t 22), none⟩]
def m32_l3 : MCode := (.seq (.ops m32_r4) (.seq (.cond (.t 10) .skip (.exit 0)) (.seq (.block 1 (.seq (.ops m32_r5) (.ops m32_r6))) (.ops m32_r7))))
def m32_r8 : List MI := [
  ⟨(some 23), .move (.t 3), none⟩,
  ⟨(some 2), .move (.t 23), none⟩]
def m32_code : MCode := (.seq (.ops m32_r0) (.seq (.ops m32_r1) (.seq (.seq (.ops m32_r2) (.block 0 (.loop m32_l3))) (.seq (.ops m32_r8) .ret))))
def m32 : MFunc := ⟨24, [.tmp 2], m32_code⟩

def m33_r0 : List MI := [
  ⟨(some 2), .move (.k (.sc (.bool false))), none⟩]
def m33_r1 : List MI := [
  ⟨(some 3), .move (.t 0), none⟩,
  ⟨(some 4), .bin .eql .ptr (.t 3) (.k (.sc (.nilp))), none⟩,
  ⟨(some 5), .move (.t 4), none⟩,
  ⟨(some 6), .move (.t 0), (some (5, false))⟩,
  ⟨(some 7), .nilCheck (.t 6), (some (5, false))⟩,
  ⟨(some 8), .fieldAddr 0 (.t 7), (some (5, false))⟩,
  ⟨(some 9), .load none (.t 8), (some (5, false))⟩,
  ⟨(some 10), .lenSlice (.t 9), (some (5, false))⟩,
  ⟨(some 11), .bin .eql .no (.t 10) (.k (.sc (.int .i64 0))), (some (5, false))⟩,
  ⟨(some 12), .pick (.t 5) (.k (.sc (.bool true))) (.t 11), none⟩,
  ⟨(some 2), .move (.t 12), none⟩]
def m33_code : MCode := (.seq (.ops m33_r0) (.seq (.ops m33_r1) .ret))
def m33 : MFunc := ⟨13, [.tmp 2], m33_code⟩

def m34_r0 : List MI := [
  ⟨(some 6), .move (.k (.sc (.int .i64 0))), none⟩]
def m34_r1 : List MI := [
  ⟨(some 7), .move (.t 0), none⟩,
  ⟨(some 8), .move (.t 1), none⟩,
  ⟨(some 9), .max [(.t 7), (.t 8)], none⟩,
  ⟨(some 10), .move (.t 2), none⟩,
  ⟨(some 11), .min [(.t 9), (.t 10)], none⟩,
  ⟨(some 6), .move (.t 11), none⟩]
def m34_code : MCode := (.seq (.ops m34_r0) (.seq (.ops m34_r1) .ret))
def m34 : MFunc := ⟨12, [.tmp 6], m34_code⟩

def m35_r0 : List MI := [
  ⟨(some 2), .box 27 (.t 0), none⟩,
  ⟨(some 4), .move (.k (.sc (.nils))), none⟩]
def m35_r1 : List MI := [
  ⟨(some 5), .alloc 83 [.nilp, .nils], none⟩]
def m35_r2 : List MI := [
  ⟨(some 6), .move (.k (.sc (.nils))), none⟩,
  ⟨(some 7), .move (.k (.sc (.nils))), none⟩,
  ⟨(some 8), .move (.k (.sc (.nils))), none⟩]
def m35_r3 : List MI := [
  ⟨(some 13), .fieldAddr 0 (.t 2), none⟩,
  ⟨(some 14), .load none (.t 13), none⟩,
  ⟨(some 15), .lenSlice (.t 14), none⟩,
  ⟨(some 16), .move (.k (.sc (.int .i64 0))), none⟩]
def m35_r5 : List MI := [
  ⟨(some 17), .bin .lss .no (.t 16) (.t 15), none⟩]
def m35_r6 : List MI := [
  ⟨(some 18), .move (.t 16), none⟩,
  ⟨(some 19), .indexSlice 7 (.t 14) (.t 16), none⟩,
  ⟨(some 20), .load (some 7) (.t 19), none⟩,
  ⟨(some 10), .alloc 71 [.int .i32 0, .int .u8 0, .int .u16 0, .int .u8 0, .int .u32 0, .int .u8 0, .int .u32 0], none⟩,
  ⟨(some 9), .move (.t 18), none⟩,
  ⟨none, .store 7 (.t 10) (.t 20), none⟩]
def m35_r7 : List MI := [
  ⟨(some 21), .fieldAddr 1 (.t 10), none⟩,
  ⟨(some 22), .load none (.t 21), none⟩,
  ⟨(some 23), .bin .neq .no (.t 22) (.k (.sc (.int .u8 2))), none⟩]
def m35_r8 : List MI := [
  ⟨(some 24), .move (.t 7), none⟩,
  ⟨(some 25), .call 49 [(.t 5)], none⟩,
  ⟨(some 26), .buildSlice 3 1 1 [.int .i64 0] [(0, 1, (.t 25))], none⟩,
  ⟨(some 27), .append 3 1 8 [.int .i64 0] (.t 24) (.t 26), none⟩,
  ⟨(some 28), .move (.t 8), none⟩,
  ⟨(some 29), .move (.t 9), none⟩,
  ⟨(some 30), .buildSlice 3 1 1 [.int .i64 0] [(0, 1, (.t 29))], none⟩,
  ⟨(some 31), .append 3 1 8 [.int .i64 0] (.t 28) (.t 30), none⟩,
  ⟨(some 7), .move (.t 27), none⟩,
  ⟨(some 8), .move (.t 31), none⟩]
def m35_r9 : List MI := [
  ⟨(some 32), .fieldAddr 0 (.t 10), none⟩,
  ⟨(some 33), .load none (.t 32), none⟩,
  ⟨(some 34), .call 50 [(.t 5), (.t 33)], none⟩]
def m35_r10 : List MI := [
  ⟨(some 35), .bin .add .no (.t 16) (.k (.sc (.int .i64 1))), none⟩,
  ⟨(some 16), .move (.t 35), none⟩]
def m35_l4 : MCode := (.seq (.ops m35_r5) (.seq (.cond (.t 17) .skip (.exit 0)) (.seq (.block 1 (.seq (.ops m35_r6) (.seq (.ops m35_r7) (.cond (.t 23) (.seq (.ops m35_r8) (.ops m35_r9)) .skip)))) (.ops m35_r10))))
def m35_r11 : List MI := [
  ⟨(some 36), .call 40 [(.t 5)], none⟩,
  ⟨(some 11), .move (.k (.sc (.int .i64 0))), none⟩,
  ⟨(some 12), .move (.t 36), none⟩]
def m35_r13 : List MI := [
  ⟨(some 37), .move (.t 11), none⟩,
  ⟨(some 38), .move (.t 7), none⟩,
  ⟨(some 39), .lenSlice (.t 38), none⟩,
  ⟨(some 40), .bin .lss .no (.t 37) (.t 39), none⟩]
def m35_r14 : List MI := [
  ⟨(some 43), .move (.t 12), none⟩,
  ⟨(some 44), .move (.t 7), none⟩,
  ⟨(some 45), .move (.t 11), none⟩,
  ⟨(some 46), .indexSlice 1 (.t 44) (.t 45), none⟩,
  ⟨(some 47), .load none (.t 46), none⟩,
  ⟨(some 48), .sliceStr (.t 43) (some (.t 47)) none, none⟩,
  ⟨(some 49), .move (.t 1), none⟩,
  ⟨(some 50), .call 51 [(.t 48), (.t 49)], none⟩]
def m35_r15 : List MI := [
  ⟨(some 51), .move (.t 6), none⟩,
  ⟨(some 52), .move (.t 8), none⟩,
  ⟨(some 53), .move (.t 11), none⟩,
  ⟨(some 54), .indexSlice 1 (.t 52) (.t 53), none⟩,
  ⟨(some 55), .load none (.t 54), none⟩,
  ⟨(some 56), .buildSlice 3 1 1 [.int .i64 0] [(0, 1, (.t 55))], none⟩,
  ⟨(some 57), .append 3 1 8 [.int .i64 0] (.t 51) (.t 56), none⟩,
  ⟨(some 6), .move (.t 57), none⟩]
def m35_r16 : List MI := [
  ⟨(some 41), .move (.t 11), none⟩,
  ⟨(some 42), .bin .add .no (.t 41) (.k (.sc (.int .i64 1))), none⟩,
  ⟨(some 11), .move (.t 42), none⟩]
def m35_l12 : MCode := (.seq (.seq (.ops m35_r13) (.cond (.t 40) .skip (.exit 2))) (.seq (.block 3 (.seq (.ops m35_r14) (.cond (.t 50) (.ops m35_r15) .skip))) (.ops m35_r16)))
def m35_r17 : List MI := [
  ⟨(some 58), .move (.t 6), none⟩,
  ⟨(some 4), .move (.t 58), none⟩]
def m35_code : MCode := (.seq (.ops m35_r0) (.seq (.ops m35_r1) (.seq (.ops m35_r2) (.seq (.seq (.ops m35_r3) (.block 0 (.loop m35_l4))) (.seq (.seq (.ops m35_r11) (.block 2 (.loop m35_l12))) (.seq (.ops m35_r17) .ret))))))
def m35 : MFunc := ⟨59, [.tmp 4], m35_code⟩

def m36_r0 : List MI := [
  ⟨(some 2), .box 58 (.t 0), none⟩,
  ⟨(some 3), .box 58 (.t 1), none⟩,
  ⟨(some 4), .move (.k (.sc (.bool false))), none⟩]
def m36_r1 : List MI := [
  ⟨(some 5), .fieldAddr 1 (.t 2), none⟩,
  ⟨(some 6), .load none (.t 5), none⟩,
  ⟨(some 7), .fieldAddr 1 (.t 3), none⟩,
  ⟨(some 8), .load none (.t 7), none⟩,
  ⟨(some 9), .bin .lss .no (.t 6) (.t 8), none⟩,
  ⟨(some 10), .move (.t 9), none⟩,
  ⟨(some 11), .fieldAddr 1 (.t 2), (some (10, false))⟩,
  ⟨(some 12), .load none (.t 11), (some (10, false))⟩,
  ⟨(some 13), .fieldAddr 1 (.t 3), (some (10, false))⟩,
  ⟨(some 14), .load none (.t 13), (some (10, false))⟩,
  ⟨(some 15), .bin .eql .no (.t 12) (.t 14), (some (10, false))⟩,
  ⟨(some 16), .move (.t 15), (some (10, false))⟩,
  ⟨(some 17), .fieldAddr 0 (.t 2), (some (16, true))⟩,
  ⟨(some 18), .load none (.t 17), (some (16, true))⟩,
  ⟨(some 19), .fieldAddr 0 (.t 3), (some (16, true))⟩,
  ⟨(some 20), .load none (.t 19), (some (16, true))⟩,
  ⟨(some 21), .bin .lss .no (.t 18) (.t 20), (some (16, true))⟩,
  ⟨(some 22), .pick (.t 16) (.t 21) (.k (.sc (.bool false))), (some (10, false))⟩,
  ⟨(some 23), .pick (.t 10) (.k (.sc (.bool true))) (.t 22), none⟩,
  ⟨(some 4), .move (.t 23), none⟩]
def m36_code : MCode := (.seq (.ops m36_r0) (.seq (.ops m36_r1) .ret))
def m36 : MFunc := ⟨24, [.tmp 4], m36_code⟩

def m37_r0 : List MI := [
  ⟨(some 4), .move (.k (.sc (.nili))), none⟩]
def m37_r1 : List MI := [
  ⟨(some 5), .move (.t 0), none⟩,
  ⟨(some 6), .call 52 [(.t 5)], none⟩]
def m37_r2 : List MI := [
  ⟨(some 7), .move (.t 0), none⟩,
  ⟨(some 8), .move (.t 0), none⟩,
  ⟨(some 9), .nilCheck (.t 8), none⟩,
  ⟨(some 10), .fieldAddr 1 (.t 9), none⟩,
  ⟨(some 11), .load none (.t 10), none⟩,
  ⟨(some 12), .move (.t 1), none⟩,
  ⟨(some 13), .buildSlice 5 1 1 [.int .u8 0] [(0, 1, (.t 12))], none⟩,
  ⟨(some 14), .append 5 1 1 [.int .u8 0] (.t 11) (.t 13), none⟩,
  ⟨(some 15), .nilCheck (.t 7), none⟩,
  ⟨(some 16), .fieldAddr 1 (.t 15), none⟩,
  ⟨none, .store 1 (.t 16) (.t 14), none⟩]
def m37_r3 : List MI := [
  ⟨(some 4), .move (.k (.sc (.nili))), none⟩]
def m37_code : MCode := (.seq (.ops m37_r0) (.seq (.ops m37_r1) (.seq (.ops m37_r2) (.seq (.ops m37_r3) .ret))))
def m37 : MFunc := ⟨17, [.tmp 4], m37_code⟩

def m38_r0 : List MI := [
  ⟨(some 4), .move (.k (.sc (.int .i64 0))), none⟩,
  ⟨(some 5), .move (.k (.sc (.nili))), none⟩]
def m38_r1 : List MI := [
  ⟨(some 6), .move (.t 0), none⟩,
  ⟨(some 7), .call 52 [(.t 6)], none⟩]
def m38_r2 : List MI := [
  ⟨(some 8), .move (.t 0), none⟩,
  ⟨(some 9), .move (.t 0), none⟩,
  ⟨(some 10), .nilCheck (.t 9), none⟩,
  ⟨(some 11), .fieldAddr 1 (.t 10), none⟩,
  ⟨(some 12), .load none (.t 11), none⟩,
  ⟨(some 13), .move (.t 1), none⟩,
  ⟨(some 14), .append 5 1 1 [.int .u8 0] (.t 12) (.t 13), none⟩,
  ⟨(some 15), .nilCheck (.t 8), none⟩,
  ⟨(some 16), .fieldAddr 1 (.t 15), none⟩,
  ⟨none, .store 1 (.t 16) (.t 14), none⟩]
def m38_r3 : List MI := [
  ⟨(some 17), .move (.t 1), none⟩,
  ⟨(some 18), .lenStr (.t 17), none⟩,
  ⟨(some 4), .move (.t 18), none⟩,
  ⟨(some 5), .move (.k (.sc (.nili))), none⟩]
def m38_code : MCode := (.seq (.ops m38_r0) (.seq (.ops m38_r1) (.seq (.ops m38_r2) (.seq (.ops m38_r3) .ret))))
def m38 : MFunc := ⟨19, [.tmp 4, .tmp 5], m38_code⟩

def m39_r0 : List MI := [
  ⟨(some 3), .box 27 (.t 0), none⟩,
  ⟨(some 6), .move (.k (.sc (.str []))), none⟩]
def m39_r1 : List MI := [
  ⟨(some 12), .fieldAddr 0 (.t 3), none⟩,
  ⟨(some 13), .load none (.t 12), none⟩,
  ⟨(some 14), .lenSlice (.t 13), none⟩,
  ⟨(some 15), .bin .sub .no (.t 14) (.k (.sc (.int .i64 1))), none⟩,
  ⟨(some 7), .move (.t 15), none⟩]
def m39_r2 : List MI := [
  ⟨(some 16), .move (.t 2), none⟩,
  ⟨(some 17), .move (.t 7), none⟩,
  ⟨(some 18), .bin .eql .no (.t 16) (.t 17), none⟩,
  ⟨(some 8), .move (.t 18), none⟩]
def m39_r3 : List MI := [
  ⟨(some 19), .move (.t 8), none⟩,
  ⟨(some 20), .move (.t 19), none⟩,
  ⟨(some 21), .fieldAddr 1 (.t 3), (some (20, true))⟩,
  ⟨(some 22), .load none (.t 21), (some (20, true))⟩,
  ⟨(some 23), .pick (.t 20) (.t 22) (.k (.sc (.bool false))), none⟩,
  ⟨(some 24), .move (.t 23), none⟩,
  ⟨(some 25), .fieldAddr 2 (.t 3), (some (24, true))⟩,
  ⟨(some 26), .load none (.t 25), (some (24, true))⟩,
  ⟨(some 27), .pick (.t 24) (.t 26) (.k (.sc (.bool false))), none⟩]
def m39_r4 : List MI := [
  ⟨(some 28), .move (.t 2), none⟩,
  ⟨(some 29), .bin .sub .no (.t 28) (.k (.sc (.int .i64 1))), none⟩,
  ⟨(some 2), .move (.t 29), none⟩]
def m39_r5 : List MI := [
  ⟨(some 9), .alloc 83 [.nilp, .nils], none⟩]
def m39_r6 : List MI := [
  ⟨(some 30), .move (.t 1), none⟩,
  ⟨(some 10), .move (.t 30), none⟩]
def m39_r8 : List MI := [
  ⟨(some 31), .move (.t 10), none⟩,
  ⟨(some 32), .move (.t 2), none⟩,
  ⟨(some 33), .bin .leq .no (.t 31) (.t 32), none⟩]
def m39_r9 : List MI := [
  ⟨(some 36), .fieldAddr 0 (.t 3), none⟩,
  ⟨(some 37), .load none (.t 36), none⟩,
  ⟨(some 38), .move (.t 10), none⟩,
  ⟨(some 39), .indexSlice 7 (.t 37) (.t 38), none⟩,
  ⟨(some 40), .load (some 7) (.t 39), none⟩,
  ⟨(some 11), .alloc 71 [.int .i32 0, .int .u8 0, .int .u16 0, .int .u8 0, .int .u32 0, .int .u8 0, .int .u32 0], none⟩,
  ⟨none, .store 7 (.t 11) (.t 40), none⟩]
def m39_r10 : List MI := [
  ⟨(some 41), .fieldAddr 1 (.t 11), none⟩,
  ⟨(some 42), .load none (.t 41), none⟩,
  ⟨(some 43), .bin .neq .no (.t 42) (.k (.sc (.int .u8 2))), none⟩,
  ⟨(some 44), .move (.t 43), none⟩,
  ⟨(some 45), .move (.t 10), (some (44, false))⟩,
  ⟨(some 46), .move (.t 1), (some (44, false))⟩,
  ⟨(some 47), .bin .eql .no (.t 45) (.t 46), (some (44, false))⟩,
  ⟨(some 48), .pick (.t 44) (.k (.sc (.bool true))) (.t 47), none⟩]
def m39_r11 : List MI := [
  ⟨(some 49), .fieldAddr 0 (.t 11), none⟩,
  ⟨(some 50), .load none (.t 49), none⟩,
  ⟨(some 51), .call 50 [(.t 9), (.t 50)], none⟩]
def m39_r12 : List MI := [
  ⟨(some 34), .move (.t 10), none⟩,
  ⟨(some 35), .bin .add .no (.t 34) (.k (.sc (.int .i64 1))), none⟩,
  ⟨(some 10), .move (.t 35), none⟩]
def m39_l7 : MCode := (.seq (.seq (.ops m39_r8) (.cond (.t 33) .skip (.exit 0))) (.seq (.block 1 (.seq (.ops m39_r9) (.seq (.ops m39_r10) (.cond (.t 48) (.ops m39_r11) .skip)))) (.ops m39_r12)))
def m39_r13 : List MI := [
  ⟨(some 52), .move (.t 8), none⟩,
  ⟨(some 53), .move (.t 52), none⟩,
  ⟨(some 54), .fieldAddr 1 (.t 3), (some (53, true))⟩,
  ⟨(some 55), .load none (.t 54), (some (53, true))⟩,
  ⟨(some 56), .un .not (.t 55), (some (53, true))⟩,
  ⟨(some 57), .pick (.t 53) (.t 56) (.k (.sc (.bool false))), none⟩]
def m39_r14 : List MI := [
  ⟨(some 58), .call 40 [(.t 9)], none⟩,
  ⟨(some 59), .call 53 [(.t 58), (.k (.sc (.str [32])))], none⟩,
  ⟨(some 6), .move (.t 59), none⟩]
def m39_r15 : List MI := [
  ⟨(some 60), .call 40 [(.t 9)], none⟩,
  ⟨(some 6), .move (.t 60), none⟩]
def m39_code : MCode := (.seq (.ops m39_r0) (.seq (.ops m39_r1) (.seq (.ops m39_r2) (.seq (.seq (.ops m39_r3) (.cond (.t 27) (.ops m39_r4) .skip)) (.seq (.ops m39_r5) (.seq (.seq (.ops m39_r6) (.block 0 (.loop m39_l7))) (.seq (.seq (.ops m39_r13) (.cond (.t 57) (.seq (.ops m39_r14) .ret) .skip)) (.seq (.ops m39_r15) .ret))))))))
def m39 : MFunc := ⟨61, [.tmp 6], m39_code⟩

def m40_r0 : List MI := [
  ⟨(some 2), .move (.k (.sc (.str []))), none⟩]
def m40_r1 : List DI := [
  ⟨⟨(some 3), .move (.t 0), none⟩, 0, [], []⟩,
  ⟨⟨(some 4), .nilCheck (.t 3), none⟩, 0, [], []⟩,
  ⟨⟨(some 5), .fieldAddr 1 (.t 4), none⟩, 0, [], []⟩,
  ⟨⟨(some 6), .load none (.t 5), none⟩, 1, [], []⟩,
  ⟨⟨(some 7), .usliceData (.t 6), none⟩, 2, [], []⟩,
  ⟨⟨(some 8), .move (.t 0), none⟩, 0, [4], []⟩,
  ⟨⟨(some 9), .nilCheck (.t 8), none⟩, 0, [4], []⟩,
  ⟨⟨(some 10), .fieldAddr 1 (.t 9), none⟩, 0, [4], []⟩,
  ⟨⟨(some 11), .load none (.t 10), none⟩, 1, [4], []⟩,
  ⟨⟨(some 12), .lenSlice (.t 11), none⟩, 0, [4], []⟩,
  ⟨⟨(some 13), .ustring 5 (.t 7) (.t 12), none⟩, 2, [], []⟩,
  ⟨⟨(some 2), .move (.t 13), none⟩, 0, [], []⟩]
def m40_code : MCode := (.seq (.ops m40_r0) (.seq (.draw m40_r1) .ret))
def m40 : MFunc := ⟨14, [.tmp 2], m40_code⟩

def m41_r0 : List MI := [
  ⟨(some 6), .move (.t 0), none⟩,
  ⟨(some 7), .move (.t 2), none⟩,
  ⟨(some 8), .move (.t 0), none⟩,
  ⟨(some 9), .nilCheck (.t 8), none⟩,
  ⟨(some 10), .fieldAddr 0 (.t 9), none⟩,
  ⟨(some 11), .load none (.t 10), none⟩,
  ⟨(some 12), .lenSlice (.t 11), none⟩,
  ⟨(some 13), .bin .sub .no (.t 12) (.k (.sc (.int .i64 1))), none⟩,
  ⟨(some 14), .call 54 [(.t 7), (.k (.sc (.int .i64 0))), (.t 13)], none⟩,
  ⟨(some 15), .nilCheck (.t 6), none⟩,
  ⟨(some 16), .fieldAddr 4 (.t 15), none⟩,
  ⟨none, .store 1 (.t 16) (.t 14), none⟩]
def m41_r1 : List DI := [
  ⟨⟨(some 17), .move (.t 0), none⟩, 0, [], [15]⟩,
  ⟨⟨(some 18), .move (.t 1), none⟩, 0, [], []⟩,
  ⟨⟨(some 19), .move (.t 0), none⟩, 0, [], []⟩,
  ⟨⟨(some 20), .nilCheck (.t 19), none⟩, 0, [], []⟩,
  ⟨⟨(some 21), .fieldAddr 0 (.t 20), none⟩, 0, [], []⟩,
  ⟨⟨(some 22), .load none (.t 21), none⟩, 1, [], []⟩,
  ⟨⟨(some 23), .move (.t 0), none⟩, 0, [], []⟩,
  ⟨⟨(some 24), .nilCheck (.t 23), none⟩, 0, [], []⟩,
  ⟨⟨(some 25), .fieldAddr 4 (.t 24), none⟩, 0, [], []⟩,
  ⟨⟨(some 26), .load none (.t 25), none⟩, 1, [], []⟩,
  ⟨⟨(some 27), .indexSlice 3 (.t 22) (.t 26), none⟩, 0, [], []⟩,
  ⟨⟨(some 28), .fieldAddr 0 (.t 27), none⟩, 0, [], []⟩,
  ⟨⟨(some 29), .load none (.t 28), none⟩, 1, [], []⟩,
  ⟨⟨(some 30), .lenSlice (.t 29), none⟩, 0, [], []⟩,
  ⟨⟨(some 31), .bin .sub .no (.t 30) (.k (.sc (.int .i64 1))), none⟩, 0, [], []⟩,
  ⟨⟨(some 32), .call 54 [(.t 18), (.k (.sc (.int .i64 0))), (.t 31)], none⟩, 2, [], []⟩,
  ⟨⟨(some 33), .nilCheck (.t 17), none⟩, 0, [], []⟩,
  ⟨⟨(some 34), .fieldAddr 3 (.t 33), none⟩, 0, [], []⟩,
  ⟨⟨none, .store 1 (.t 34) (.t 32), none⟩, 2, [], []⟩]
def m41_r2 : List DI := [
  ⟨⟨(some 35), .move (.t 0), none⟩, 0, [], []⟩,
  ⟨⟨(some 36), .nilCheck (.t 35), none⟩, 0, [], []⟩,
  ⟨⟨(some 37), .fieldAddr 4 (.t 36), none⟩, 0, [], []⟩,
  ⟨⟨(some 38), .load none (.t 37), none⟩, 1, [], []⟩,
  ⟨⟨(some 39), .move (.t 0), none⟩, 0, [], []⟩,
  ⟨⟨(some 40), .nilCheck (.t 39), none⟩, 0, [], []⟩,
  ⟨⟨(some 41), .fieldAddr 2 (.t 40), none⟩, 0, [], []⟩,
  ⟨⟨(some 42), .load none (.t 41), none⟩, 1, [], []⟩,
  ⟨⟨(some 43), .bin .lss .no (.t 38) (.t 42), none⟩, 0, [], []⟩]
def m41_r3 : List MI := [
  ⟨(some 44), .move (.t 0), none⟩,
  ⟨(some 45), .move (.t 0), none⟩,
  ⟨(some 46), .nilCheck (.t 45), none⟩,
  ⟨(some 47), .fieldAddr 4 (.t 46), none⟩,
  ⟨(some 48), .load none (.t 47), none⟩,
  ⟨(some 49), .nilCheck (.t 44), none⟩,
  ⟨(some 50), .fieldAddr 2 (.t 49), none⟩,
  ⟨none, .store 1 (.t 50) (.t 48), none⟩]
def m41_r4 : List DI := [
  ⟨⟨(some 51), .move (.t 0), none⟩, 0, [], []⟩,
  ⟨⟨(some 52), .nilCheck (.t 51), none⟩, 0, [], []⟩,
  ⟨⟨(some 53), .fieldAddr 4 (.t 52), none⟩, 0, [], []⟩,
  ⟨⟨(some 54), .load none (.t 53), none⟩, 1, [], []⟩,
  ⟨⟨(some 55), .move (.t 0), none⟩, 0, [], []⟩,
  ⟨⟨(some 56), .nilCheck (.t 55), none⟩, 0, [], []⟩,
  ⟨⟨(some 57), .fieldAddr 2 (.t 56), none⟩, 0, [], []⟩,
  ⟨⟨(some 58), .load none (.t 57), none⟩, 1, [], []⟩,
  ⟨⟨(some 59), .move (.t 0), none⟩, 0, [], []⟩,
  ⟨⟨(some 60), .nilCheck (.t 59), none⟩, 0, [], []⟩,
  ⟨⟨(some 61), .fieldAddr 1 (.t 60), none⟩, 0, [], []⟩,
  ⟨⟨(some 62), .load none (.t 61), none⟩, 1, [], []⟩,
  ⟨⟨(some 63), .bin .add .no (.t 58) (.t 62), none⟩, 0, [], []⟩,
  ⟨⟨(some 64), .bin .geq .no (.t 54) (.t 63), none⟩, 0, [], []⟩]
def m41_r5 : List DI := [
  ⟨⟨(some 65), .move (.t 0), none⟩, 0, [], []⟩,
  ⟨⟨(some 66), .move (.t 0), none⟩, 0, [], []⟩,
  ⟨⟨(some 67), .nilCheck (.t 66), none⟩, 0, [], []⟩,
  ⟨⟨(some 68), .fieldAddr 4 (.t 67), none⟩, 0, [], []⟩,
  ⟨⟨(some 69), .load none (.t 68), none⟩, 1, [], []⟩,
  ⟨⟨(some 70), .move (.t 0), none⟩, 0, [], []⟩,
  ⟨⟨(some 71), .nilCheck (.t 70), none⟩, 0, [], []⟩,
  ⟨⟨(some 72), .fieldAddr 1 (.t 71), none⟩, 0, [], []⟩,
  ⟨⟨(some 73), .load none (.t 72), none⟩, 1, [], []⟩,
  ⟨⟨(some 74), .bin .sub .no (.t 69) (.t 73), none⟩, 0, [], []⟩,
  ⟨⟨(some 75), .bin .add .no (.t 74) (.k (.sc (.int .i64 1))), none⟩, 0, [], []⟩,
  ⟨⟨(some 76), .nilCheck (.t 65), none⟩, 0, [], []⟩,
  ⟨⟨(some 77), .fieldAddr 2 (.t 76), none⟩, 0, [], []⟩,
  ⟨⟨none, .store 1 (.t 77) (.t 75), none⟩, 2, [], []⟩]
def m41_code : MCode := (.seq (.ops m41_r0) (.seq (.draw m41_r1) (.seq (.seq (.draw m41_r2) (.cond (.t 43) (.ops m41_r3) .skip)) (.seq (.draw m41_r4) (.cond (.t 64) (.draw m41_r5) .skip)))))
def m41 : MFunc := ⟨78, [], m41_code⟩

def m42_r0 : List DI := [
  ⟨⟨(some 6), .move (.t 0), none⟩, 0, [], [6, 13]⟩,
  ⟨⟨(some 7), .move (.t 0), none⟩, 0, [], [6, 13]⟩,
  ⟨⟨(some 8), .nilCheck (.t 7), none⟩, 0, [], [6, 13]⟩,
  ⟨⟨(some 9), .fieldAddr 3 (.t 8), none⟩, 0, [], [6, 13]⟩,
  ⟨⟨(some 10), .load none (.t 9), none⟩, 1, [], [6, 13]⟩,
  ⟨⟨(some 11), .move (.t 1), none⟩, 0, [], []⟩,
  ⟨⟨(some 12), .call 54 [(.t 11), (.k (.sc (.int .i64 (-1000)))), (.k (.sc (.int .i64 1000)))], none⟩, 2, [], []⟩,
  ⟨⟨(some 13), .bin .add .no (.t 10) (.t 12), none⟩, 0, [], [13]⟩,
  ⟨⟨(some 14), .move (.t 0), none⟩, 0, [6], [13]⟩,
  ⟨⟨(some 15), .nilCheck (.t 14), none⟩, 0, [6], [13]⟩,
  ⟨⟨(some 16), .fieldAddr 4 (.t 15), none⟩, 0, [6], [13]⟩,
  ⟨⟨(some 17), .load none (.t 16), none⟩, 1, [6], [13]⟩,
  ⟨⟨(some 18), .move (.t 2), none⟩, 0, [6], []⟩,
  ⟨⟨(some 19), .call 54 [(.t 18), (.k (.sc (.int .i64 (-1000)))), (.k (.sc (.int .i64 1000)))], none⟩, 2, [], []⟩,
  ⟨⟨(some 20), .bin .add .no (.t 17) (.t 19), none⟩, 0, [], []⟩,
  ⟨⟨(some 21), .call 41 [(.t 6), (.t 13), (.t 20)], none⟩, 2, [], []⟩]
def m42_code : MCode := (.draw m42_r0)
def m42 : MFunc := ⟨22, [], m42_code⟩

def m43_r0 : List MI := [
  ⟨(some 6), .move (.k (.sc (.bool false))), none⟩]
def m43_r1 : List MI := [
  ⟨(some 7), .move (.k (.sc (.int .i64 1))), none⟩]
def m43_r2 : List MI := [
  ⟨(some 10), .move (.t 2), none⟩]
def m43_r3 : List MI := [
  ⟨(some 7), .move (.k (.sc (.int .i64 (-1)))), none⟩]
def m43_r4 : List DI := [
  ⟨⟨(some 11), .move (.t 0), none⟩, 0, [], []⟩,
  ⟨⟨(some 12), .nilCheck (.t 11), none⟩, 0, [], []⟩,
  ⟨⟨(some 13), .fieldAddr 3 (.t 12), none⟩, 0, [], []⟩,
  ⟨⟨(some 14), .load none (.t 13), none⟩, 1, [], []⟩,
  ⟨⟨(some 15), .move (.t 0), none⟩, 0, [], []⟩,
  ⟨⟨(some 16), .nilCheck (.t 15), none⟩, 0, [], []⟩,
  ⟨⟨(some 17), .fieldAddr 4 (.t 16), none⟩, 0, [], []⟩,
  ⟨⟨(some 18), .load none (.t 17), none⟩, 1, [], []⟩,
  ⟨⟨(some 8), .move (.t 14), none⟩, 0, [], []⟩,
  ⟨⟨(some 9), .move (.t 18), none⟩, 0, [], []⟩]
def m43_r6 : List MI := [
  ⟨(some 20), .move (.t 0), none⟩,
  ⟨(some 21), .move (.t 8), none⟩,
  ⟨(some 22), .move (.t 9), none⟩,
  ⟨(some 23), .move (.t 7), none⟩,
  ⟨(some 24), .call 55 [(.t 20), (.t 21), (.t 22), (.t 23)], none⟩,
  ⟨(some 19), .move (.t 24), none⟩,
  ⟨(some 25), .extract (.t 19) 0, none⟩,
  ⟨(some 26), .extract (.t 19) 1, none⟩,
  ⟨(some 8), .move (.t 25), none⟩,
  ⟨(some 9), .move (.t 26), none⟩]
def m43_r7 : List MI := [
  ⟨(some 27), .move (.t 0), none⟩,
  ⟨(some 28), .move (.t 8), none⟩,
  ⟨(some 29), .move (.t 9), none⟩,
  ⟨(some 30), .move (.t 1), none⟩,
  ⟨(some 31), .call 56 [(.t 27), (.t 28), (.t 29), (.t 30)], none⟩]
def m43_r8 : List MI := [
  ⟨(some 32), .move (.t 0), none⟩,
  ⟨(some 33), .move (.t 8), none⟩,
  ⟨(some 34), .move (.t 9), none⟩,
  ⟨(some 35), .call 41 [(.t 32), (.t 33), (.t 34)], none⟩]
def m43_r9 : List MI := [
  ⟨(some 6), .move (.k (.sc (.bool true))), none⟩]
def m43_r10 : List MI := [
  ⟨(some 36), .move (.t 8), none⟩,
  ⟨(some 37), .move (.t 0), none⟩,
  ⟨(some 38), .nilCheck (.t 37), none⟩,
  ⟨(some 39), .fieldAddr 3 (.t 38), none⟩,
  ⟨(some 40), .load none (.t 39), none⟩,
  ⟨(some 41), .bin .eql .no (.t 36) (.t 40), none⟩,
  ⟨(some 42), .move (.t 41), none⟩,
  ⟨(some 43), .move (.t 9), (some (42, true))⟩,
  ⟨(some 44), .move (.t 0), (some (42, true))⟩,
  ⟨(some 45), .nilCheck (.t 44), (some (42, true))⟩,
  ⟨(some 46), .fieldAddr 4 (.t 45), (some (42, true))⟩,
  ⟨(some 47), .load none (.t 46), (some (42, true))⟩,
  ⟨(some 48), .bin .eql .no (.t 43) (.t 47), (some (42, true))⟩,
  ⟨(some 49), .pick (.t 42) (.t 48) (.k (.sc (.bool false))), none⟩]
def m43_r11 : List MI := [
  ⟨(some 6), .move (.k (.sc (.bool false))), none⟩]
def m43_l5 : MCode := (.block 1 (.seq (.ops m43_r6) (.seq (.seq (.ops m43_r7) (.cond (.t 31) (.seq (.ops m43_r8) (.seq (.ops m43_r9) .ret)) .skip)) (.seq (.ops m43_r10) (.cond (.t 49) (.seq (.ops m43_r11) .ret) .skip)))))
def m43_code : MCode := (.seq (.ops m43_r0) (.seq (.ops m43_r1) (.seq (.seq (.ops m43_r2) (.cond (.t 10) (.ops m43_r3) .skip)) (.seq (.draw m43_r4) (.block 0 (.loop m43_l5))))))
def m43 : MFunc := ⟨50, [.tmp 6], m43_code⟩

def m44_r0 : List MI := [
  ⟨(some 2), .move (.k (.sc (.str []))), none⟩]
def m44_r1 : List MI := [
  ⟨(some 3), .move (.t 0), none⟩,
  ⟨(some 4), .buildSlice 21 1 1 [.int .i32 0] [(0, 1, (.t 3))], none⟩,
  ⟨(some 5), .conv .runesStr (.t 4), none⟩,
  ⟨(some 2), .move (.t 5), none⟩]
def m44_code : MCode := (.seq (.ops m44_r0) (.seq (.ops m44_r1) .ret))
def m44 : MFunc := ⟨6, [.tmp 2], m44_code⟩

def m45_r0 : List MI := [
  ⟨(some 4), .move (.k (.sc (.bool false))), none⟩]
def m45_r1 : List MI := [
  ⟨(some 6), .move (.t 0), none⟩,
  ⟨(some 7), .lenSlice (.t 6), none⟩,
  ⟨(some 8), .move (.t 1), none⟩,
  ⟨(some 9), .lenSlice (.t 8), none⟩,
  ⟨(some 10), .bin .neq .no (.t 7) (.t 9), none⟩]
def m45_r2 : List MI := [
  ⟨(some 4), .move (.k (.sc (.bool false))), none⟩]
def m45_r3 : List MI := [
  ⟨(some 5), .move (.k (.sc (.int .i64 0))), none⟩]
def m45_r5 : List MI := [
  ⟨(some 11), .move (.t 5), none⟩,
  ⟨(some 12), .move (.t 0), none⟩,
  ⟨(some 13), .lenSlice (.t 12), none⟩,
  ⟨(some 14), .bin .lss .no (.t 11) (.t 13), none⟩]
def m45_r6 : List DI := [
  ⟨⟨(some 17), .move (.t 0), none⟩, 0, [], []⟩,
  ⟨⟨(some 18), .move (.t 5), none⟩, 0, [], []⟩,
  ⟨⟨(some 19), .indexSlice 7 (.t 17) (.t 18), none⟩, 0, [], []⟩,
  ⟨⟨(some 20), .load (some 7) (.t 19), none⟩, 1, [], []⟩,
  ⟨⟨(some 21), .move (.t 1), none⟩, 0, [], []⟩,
  ⟨⟨(some 22), .move (.t 5), none⟩, 0, [], []⟩,
  ⟨⟨(some 23), .indexSlice 7 (.t 21) (.t 22), none⟩, 0, [], []⟩,
  ⟨⟨(some 24), .load (some 7) (.t 23), none⟩, 1, [], []⟩,
  ⟨⟨(some 25), .bin .neq (.agg [.int .i32, .int .u8, .int .u16, .int .u8, .int .u32, .int .u8, .int .u32]) (.t 20) (.t 24), none⟩, 0, [], []⟩]
def m45_r7 : List MI := [
  ⟨(some 4), .move (.k (.sc (.bool false))), none⟩]
def m45_r8 : List MI := [
  ⟨(some 15), .move (.t 5), none⟩,
  ⟨(some 16), .bin .add .no (.t 15) (.k (.sc (.int .i64 1))), none⟩,
  ⟨(some 5), .move (.t 16), none⟩]
def m45_l4 : MCode := (.seq (.seq (.ops m45_r5) (.cond (.t 14) .skip (.exit 0))) (.seq (.block 1 (.seq (.draw m45_r6) (.cond (.t 25) (.seq (.ops m45_r7) .ret) .skip))) (.ops m45_r8)))
def m45_r9 : List MI := [
  ⟨(some 4), .move (.k (.sc (.bool true))), none⟩]
def m45_code : MCode := (.seq (.ops m45_r0) (.seq (.seq (.ops m45_r1) (.cond (.t 10) (.seq (.ops m45_r2) .ret) .skip)) (.seq (.seq (.ops m45_r3) (.block 0 (.loop m45_l4))) (.seq (.ops m45_r9) .ret))))
def m45 : MFunc := ⟨26, [.tmp 4], m45_code⟩

def m46_r0 : List MI := [
  ⟨(some 4), .move (.k (.sc (.int .i64 0))), none⟩]
def m46_r1 : List MI := [
  ⟨(some 6), .move (.t 0), none⟩,
  ⟨(some 7), .lenSlice (.t 6), none⟩,
  ⟨(some 8), .move (.k (.sc (.int .i64 0))), none⟩]
def m46_r3 : List MI := [
  ⟨(some 9), .bin .lss .no (.t 8) (.t 7), none⟩]
def m46_r4 : List MI := [
  ⟨(some 10), .move (.t 8), none⟩,
  ⟨(some 5), .move (.t 10), none⟩]
def m46_r5 : List MI := [
  ⟨(some 11), .move (.t 1), none⟩,
  ⟨(some 12), .move (.t 0), none⟩,
  ⟨(some 13), .move (.t 5), none⟩,
  ⟨(some 14), .indexSlice 3 (.t 12) (.t 13), none⟩,
  ⟨(some 15), .load (some 3) (.t 14), none⟩,
  ⟨(some 16), .callv (.t 11) [(.t 15)], none⟩]
def m46_r6 : List MI := [
  ⟨(some 17), .move (.t 5), none⟩,
  ⟨(some 4), .move (.t 17), none⟩]
def m46_r7 : List MI := [
  ⟨(some 18), .bin .add .no (.t 8) (.k (.sc (.int .i64 1))), none⟩,
  ⟨(some 8), .move (.t 18), none⟩]
def m46_l2 : MCode := (.seq (.ops m46_r3) (.seq (.cond (.t 9) .skip (.exit 0)) (.seq (.block 1 (.seq (.ops m46_r4) (.seq (.ops m46_r5) (.cond (.t 16) (.seq (.ops m46_r6) .ret) .skip)))) (.ops m46_r7))))
def m46_r8 : List MI := [
  ⟨(some 4), .move (.k (.sc (.int .i64 (-1)))), none⟩]
def m46_code : MCode := (.seq (.ops m46_r0) (.seq (.seq (.ops m46_r1) (.block 0 (.loop m46_l2))) (.seq (.ops m46_r8) .ret)))
def m46 : MFunc := ⟨19, [.tmp 4], m46_code⟩

def m47_r0 : List MI := [
  ⟨(some 2), .move (.k (.sc (.nils))), none⟩]
def m47_r1 : List MI := [
  ⟨(some 3), .move (.t 0), none⟩,
  ⟨(some 4), .bin .eql .slice (.t 3) (.k (.sc (.nils))), none⟩]
def m47_r2 : List MI := [
  ⟨(some 2), .move (.k (.sc (.nils))), none⟩]
def m47_r3 : List MI := [
  ⟨(some 5), .buildSlice 27 3 0 [.nils, .bool false, .bool false] [], none⟩,
  ⟨(some 6), .move (.t 0), none⟩,
  ⟨(some 7), .append 27 3 32 [.nils, .bool false, .bool false] (.t 5) (.t 6), none⟩,
  ⟨(some 2), .move (.t 7), none⟩]
def m47_code : MCode := (.seq (.ops m47_r0) (.seq (.seq (.ops m47_r1) (.cond (.t 4) (.seq (.ops m47_r2) .ret) .skip)) (.seq (.ops m47_r3) .ret)))
def m47 : MFunc := ⟨8, [.tmp 2], m47_code⟩

def m48_r0 : List MI := [
  ⟨(some 2), .move (.k (.sc (.nils))), none⟩]
def m48_r1 : List MI := [
  ⟨(some 3), .move (.t 0), none⟩,
  ⟨(some 4), .bin .eql .slice (.t 3) (.k (.sc (.nils))), none⟩]
def m48_r2 : List MI := [
  ⟨(some 2), .move (.k (.sc (.nils))), none⟩]
def m48_r3 : List MI := [
  ⟨(some 5), .buildSlice 71 7 0 [.int .i32 0, .int .u8 0, .int .u16 0, .int .u8 0, .int .u32 0, .int .u8 0, .int .u32 0] [], none⟩,
  ⟨(some 6), .move (.t 0), none⟩,
  ⟨(some 7), .append 71 7 28 [.int .i32 0, .int .u8 0, .int .u16 0, .int .u8 0, .int .u32 0, .int .u8 0, .int .u32 0] (.t 5) (.t 6), none⟩,
  ⟨(some 2), .move (.t 7), none⟩]
def m48_code : MCode := (.seq (.ops m48_r0) (.seq (.seq (.ops m48_r1) (.cond (.t 4) (.seq (.ops m48_r2) .ret) .skip)) (.seq (.ops m48_r3) .ret)))
def m48 : MFunc := ⟨8, [.tmp 2], m48_code⟩

def m49_r0 : List MI := [
  ⟨(some 2), .move (.k (.sc (.int .i64 0))), none⟩]
def m49_r1 : List MI := [
  ⟨(some 3), .move (.t 0), none⟩,
  ⟨(some 4), .nilCheck (.t 3), none⟩,
  ⟨(some 5), .fieldAddr 1 (.t 4), none⟩,
  ⟨(some 6), .load none (.t 5), none⟩,
  ⟨(some 7), .lenSlice (.t 6), none⟩,
  ⟨(some 2), .move (.t 7), none⟩]
def m49_code : MCode := (.seq (.ops m49_r0) (.seq (.ops m49_r1) .ret))
def m49 : MFunc := ⟨8, [.tmp 2], m49_code⟩

def m50_r0 : List MI := [
  ⟨(some 4), .move (.k (.sc (.int .i64 0))), none⟩,
  ⟨(some 5), .move (.k (.sc (.nili))), none⟩]
def m50_r1 : List MI := [
  ⟨(some 7), .move (.t 0), none⟩,
  ⟨(some 8), .call 52 [(.t 7)], none⟩]
def m50_r2 : List MI := [
  ⟨(some 9), .move (.t 0), none⟩,
  ⟨(some 10), .nilCheck (.t 9), none⟩,
  ⟨(some 11), .fieldAddr 1 (.t 10), none⟩,
  ⟨(some 12), .load none (.t 11), none⟩,
  ⟨(some 13), .lenSlice (.t 12), none⟩,
  ⟨(some 6), .move (.t 13), none⟩]
def m50_r3 : List MI := [
  ⟨(some 14), .move (.t 0), none⟩,
  ⟨(some 15), .move (.t 0), none⟩,
  ⟨(some 16), .nilCheck (.t 15), none⟩,
  ⟨(some 17), .fieldAddr 1 (.t 16), none⟩,
  ⟨(some 18), .load none (.t 17), none⟩,
  ⟨(some 19), .move (.t 1), none⟩,
  ⟨(some 20), .call 57 [(.t 18), (.t 19)], none⟩,
  ⟨(some 21), .nilCheck (.t 14), none⟩,
  ⟨(some 22), .fieldAddr 1 (.t 21), none⟩,
  ⟨none, .store 1 (.t 22) (.t 20), none⟩]
def m50_r4 : List MI := [
  ⟨(some 23), .move (.t 0), none⟩,
  ⟨(some 24), .nilCheck (.t 23), none⟩,
  ⟨(some 25), .fieldAddr 1 (.t 24), none⟩,
  ⟨(some 26), .load none (.t 25), none⟩,
  ⟨(some 27), .lenSlice (.t 26), none⟩,
  ⟨(some 28), .move (.t 6), none⟩,
  ⟨(some 29), .bin .sub .no (.t 27) (.t 28), none⟩,
  ⟨(some 4), .move (.t 29), none⟩,
  ⟨(some 5), .move (.k (.sc (.nili))), none⟩]
def m50_code : MCode := (.seq (.ops m50_r0) (.seq (.ops m50_r1) (.seq (.ops m50_r2) (.seq (.ops m50_r3) (.seq (.ops m50_r4) .ret)))))
def m50 : MFunc := ⟨30, [.tmp 4, .tmp 5], m50_code⟩

def m51_r0 : List MI := [
  ⟨(some 4), .move (.k (.sc (.bool false))), none⟩]
def m51_r1 : List MI := [
  ⟨(some 5), .move (.t 0), none⟩,
  ⟨(some 6), .move (.t 1), none⟩,
  ⟨(some 7), .call 58 [(.t 5), (.t 6)], none⟩,
  ⟨(some 4), .move (.t 7), none⟩]
def m51_code : MCode := (.seq (.ops m51_r0) (.seq (.ops m51_r1) .ret))
def m51 : MFunc := ⟨8, [.tmp 4], m51_code⟩

def m52_r0 : List MI := [
  ⟨(some 2), .move (.t 0), none⟩,
  ⟨(some 3), .nilCheck (.t 2), none⟩,
  ⟨(some 4), .fieldAddr 0 (.t 3), none⟩,
  ⟨(some 5), .load none (.t 4), none⟩,
  ⟨(some 6), .bin .eql .ptr (.t 5) (.k (.sc (.nilp))), none⟩]
def m52_r1 : List MI := [
  ⟨(some 7), .move (.t 0), none⟩,
  ⟨(some 8), .move (.t 0), none⟩,
  ⟨(some 9), .conv .ptrUnsafe (.t 8), none⟩,
  ⟨(some 10), .same (.t 9), none⟩,
  ⟨(some 11), .conv (.unsafePtr 83 2) (.t 10), none⟩,
  ⟨(some 12), .nilCheck (.t 7), none⟩,
  ⟨(some 13), .fieldAddr 0 (.t 12), none⟩,
  ⟨none, .store 1 (.t 13) (.t 11), none⟩]
def m52_r2 : List MI := [
  ⟨(some 14), .move (.t 0), none⟩,
  ⟨(some 15), .nilCheck (.t 14), none⟩,
  ⟨(some 16), .fieldAddr 0 (.t 15), none⟩,
  ⟨(some 17), .load none (.t 16), none⟩,
  ⟨(some 18), .move (.t 0), none⟩,
  ⟨(some 19), .bin .neq .ptr (.t 17) (.t 18), none⟩]
def m52_code : MCode := (.seq (.ops m52_r0) (.cond (.t 6) (.ops m52_r1) (.seq (.ops m52_r2) (.cond (.t 19) .bad .skip))))
def m52 : MFunc := ⟨20, [], m52_code⟩

def m53_r0 : List MI := [
  ⟨(some 4), .move (.k (.sc (.str []))), none⟩]
def m53_r1 : List MI := [
  ⟨(some 7), .move (.t 0), none⟩,
  ⟨(some 8), .bin .eql .no (.t 7) (.k (.sc (.str []))), none⟩,
  ⟨(some 9), .move (.t 8), none⟩,
  ⟨(some 10), .move (.t 1), (some (9, false))⟩,
  ⟨(some 11), .bin .eql .no (.t 10) (.k (.sc (.str []))), (some (9, false))⟩,
  ⟨(some 12), .pick (.t 9) (.k (.sc (.bool true))) (.t 11), none⟩]
def m53_r2 : List MI := [
  ⟨(some 13), .move (.t 0), none⟩,
  ⟨(some 4), .move (.t 13), none⟩]
def m53_r3 : List MI := [
  ⟨(some 14), .move (.t 1), none⟩,
  ⟨(some 15), .lenStr (.t 14), none⟩,
  ⟨(some 16), .bin .eql .no (.t 15) (.k (.sc (.int .i64 1))), none⟩,
  ⟨(some 17), .move (.t 16), none⟩,
  ⟨(some 18), .move (.t 1), (some (17, true))⟩,
  ⟨(some 19), .idxStr (.t 18) (.k (.sc (.int .i64 0))), (some (17, true))⟩,
  ⟨(some 20), .bin .lss .no (.t 19) (.k (.sc (.int .u8 128))), (some (17, true))⟩,
  ⟨(some 21), .pick (.t 17) (.t 20) (.k (.sc (.bool false))), none⟩]
def m53_r4 : List MI := [
  ⟨(some 22), .move (.t 0), none⟩,
  ⟨(some 23), .move (.t 1), none⟩,
  ⟨(some 24), .idxStr (.t 23) (.k (.sc (.int .i64 0))), none⟩,
  ⟨(some 25), .call 60 [(.t 22), (.t 24)], none⟩,
  ⟨(some 4), .move (.t 25), none⟩]
def m53_r5 : List MI := [
  ⟨(some 27), .move (.t 1), none⟩,
  ⟨(some 28), .call 61 [(.t 27)], none⟩,
  ⟨(some 26), .move (.t 28), none⟩,
  ⟨(some 29), .extract (.t 26) 0, none⟩,
  ⟨(some 30), .extract (.t 26) 1, none⟩,
  ⟨(some 5), .alloc 108 [.bool false, .bool false, .bool false, .bool false, .bool false, .bool false, .bool false, .bool false, .bool false, .bool false, .bool false, .bool false, .bool false, .bool false, .bool false, .bool false, .bool false, .bool false, .bool false, .bool false, .bool false, .bool false, .bool false, .bool false, .bool false, .bool false, .bool false, .bool false, .bool false, .bool false, .bool false, .bool false, .bool false, .bool false, .bool false, .bool false, .bool false, .bool false, .bool false, .bool false, .bool false, .bool false, .bool false, .bool false, .bool false, .bool false, .bool false, .bool false, .bool false, .bool false, .bool false, .bool false, .bool false, .bool false, .bool false, .bool false, .bool false, .bool false, .bool false, .bool false, .bool false, .bool false, .bool false, .bool false, .bool false, .bool false, .bool false, .bool false, .bool false, .bool false, .bool false, .bool false, .bool false, .bool false, .bool false, .bool false, .bool false, .bool false, .bool false, .bool false, .bool false, .bool false, .bool false, .bool false, .bool false, .bool false, .bool false, .bool false, .bool false, .bool false, .bool false, .bool false, .bool false, .bool false, .bool false, .bool false, .bool false, .bool false, .bool false, .bool false, .bool false, .bool false, .bool false, .bool false, .bool false, .bool false, .bool false, .bool false, .bool false, .bool false, .bool false, .bool false, .bool false, .bool false, .bool false, .bool false, .bool false, .bool false, .bool false, .bool false, .bool false, .bool false, .bool false, .bool false, .bool false, .bool false, .bool false, .bool false, .bool false, .bool false, .bool false, .bool false, .bool false, .bool false, .bool false, .bool false, .bool false, .bool false, .bool false, .bool false, .bool false, .bool false, .bool false, .bool false, .bool false, .bool false, .bool false, .bool false, .bool false, .bool false, .bool false, .bool false, .bool false, .bool false, .bool false, .bool false, .bool false, .bool false, .bool false, .bool false, .bool false, .bool false, .bool false, .bool false, .bool false, .bool false, .bool false, .bool false, .bool false, .bool false, .bool false, .bool false, .bool false, .bool false, .bool false, .bool false, .bool false, .bool false, .bool false, .bool false, .bool false, .bool false, .bool false, .bool false, .bool false, .bool false, .bool false, .bool false, .bool false, .bool false, .bool false, .bool false, .bool false, .bool false, .bool false, .bool false, .bool false, .bool false, .bool false, .bool false, .bool false, .bool false, .bool false, .bool false, .bool false, .bool false, .bool false, .bool false, .bool false, .bool false, .bool false, .bool false, .bool false, .bool false, .bool false, .bool false, .bool false, .bool false, .bool false, .bool false, .bool false, .bool false, .bool false, .bool false, .bool false, .bool false, .bool false, .bool false, .bool false, .bool false, .bool false, .bool false, .bool false, .bool false, .bool false, .bool false, .bool false, .bool false, .bool false, .bool false, .bool false, .bool false, .bool false, .bool false, .bool false, .bool false, .bool false, .bool false, .bool false, .bool false, .bool false, .bool false, .bool false, .bool false, .bool false, .bool false], none⟩,
  ⟨none, .store 256 (.t 5) (.t 29), none⟩,
  ⟨(some 6), .move (.t 30), none⟩]
def m53_r6 : List MI := [
  ⟨(some 31), .move (.t 6), none⟩]
def m53_r7 : List MI := [
  ⟨(some 32), .move (.t 0), none⟩,
  ⟨(some 33), .call 62 [(.t 32), (.t 5)], none⟩,
  ⟨(some 4), .move (.t 33), none⟩]
def m53_r8 : List MI := [
  ⟨(some 34), .move (.t 0), none⟩,
  ⟨(some 35), .move (.t 1), none⟩,
  ⟨(some 36), .call 63 [(.t 34), (.t 35)], none⟩,
  ⟨(some 4), .move (.t 36), none⟩]
def m53_code : MCode := (.seq (.ops m53_r0) (.seq (.seq (.ops m53_r1) (.cond (.t 12) (.seq (.ops m53_r2) .ret) .skip)) (.seq (.seq (.ops m53_r3) (.cond (.t 21) (.seq (.ops m53_r4) .ret) .skip)) (.seq (.seq (.ops m53_r5) (.seq (.ops m53_r6) (.cond (.t 31) (.seq (.ops m53_r7) .ret) .skip))) (.seq (.ops m53_r8) .ret)))))
def m53 : MFunc := ⟨37, [.tmp 4], m53_code⟩

def m54_r0 : List MI := [
  ⟨(some 6), .move (.k (.sc (.int .i64 0))), none⟩]
def m54_r1 : List MI := [
  ⟨(some 7), .move (.t 0), none⟩,
  ⟨(some 8), .move (.t 1), none⟩,
  ⟨(some 9), .bin .lss .no (.t 7) (.t 8), none⟩]
def m54_r2 : List MI := [
  ⟨(some 10), .move (.t 1), none⟩,
  ⟨(some 6), .move (.t 10), none⟩]
def m54_r3 : List MI := [
  ⟨(some 11), .move (.t 0), none⟩,
  ⟨(some 12), .move (.t 2), none⟩,
  ⟨(some 13), .bin .gtr .no (.t 11) (.t 12), none⟩]
def m54_r4 : List MI := [
  ⟨(some 14), .move (.t 2), none⟩,
  ⟨(some 6), .move (.t 14), none⟩]
def m54_r5 : List MI := [
  ⟨(some 15), .move (.t 0), none⟩,
  ⟨(some 6), .move (.t 15), none⟩]
def m54_code : MCode := (.seq (.ops m54_r0) (.seq (.seq (.ops m54_r1) (.cond (.t 9) (.seq (.ops m54_r2) .ret) .skip)) (.seq (.seq (.ops m54_r3) (.cond (.t 13) (.seq (.ops m54_r4) .ret) .skip)) (.seq (.ops m54_r5) .ret))))
def m54 : MFunc := ⟨16, [.tmp 6], m54_code⟩

def m55_r0 : List MI := [
  ⟨(some 8), .move (.k (.sc (.int .i64 0))), none⟩,
  ⟨(some 9), .move (.k (.sc (.int .i64 0))), none⟩]
def m55_r1 : List MI := [
  ⟨(some 10), .move (.t 1), none⟩,
  ⟨(some 11), .move (.t 3), none⟩,
  ⟨(some 12), .bin .add .no (.t 10) (.t 11), none⟩,
  ⟨(some 1), .move (.t 12), none⟩]
def m55_r2 : List MI := [
  ⟨(some 13), .move (.t 1), none⟩,
  ⟨(some 14), .bin .lss .no (.t 13) (.k (.sc (.int .i64 0))), none⟩]
def m55_r3 : List MI := [
  ⟨(some 15), .move (.t 2), none⟩,
  ⟨(some 16), .bin .sub .no (.t 15) (.k (.sc (.int .i64 1))), none⟩,
  ⟨(some 2), .move (.t 16), none⟩]
def m55_r4 : List MI := [
  ⟨(some 17), .move (.t 2), none⟩,
  ⟨(some 18), .bin .lss .no (.t 17) (.k (.sc (.int .i64 0))), none⟩]
def m55_r5 : List MI := [
  ⟨(some 19), .move (.t 0), none⟩,
  ⟨(some 20), .nilCheck (.t 19), none⟩,
  ⟨(some 21), .fieldAddr 0 (.t 20), none⟩,
  ⟨(some 22), .load none (.t 21), none⟩,
  ⟨(some 23), .lenSlice (.t 22), none⟩,
  ⟨(some 24), .bin .sub .no (.t 23) (.k (.sc (.int .i64 1))), none⟩,
  ⟨(some 2), .move (.t 24), none⟩]
def m55_r6 : List MI := [
  ⟨(some 25), .move (.t 0), none⟩,
  ⟨(some 26), .nilCheck (.t 25), none⟩,
  ⟨(some 27), .fieldAddr 0 (.t 26), none⟩,
  ⟨(some 28), .load none (.t 27), none⟩,
  ⟨(some 29), .move (.t 2), none⟩,
  ⟨(some 30), .indexSlice 3 (.t 28) (.t 29), none⟩,
  ⟨(some 31), .fieldAddr 0 (.t 30), none⟩,
  ⟨(some 32), .load none (.t 31), none⟩,
  ⟨(some 33), .lenSlice (.t 32), none⟩,
  ⟨(some 34), .bin .sub .no (.t 33) (.k (.sc (.int .i64 1))), none⟩,
  ⟨(some 1), .move (.t 34), none⟩]
def m55_r7 : List MI := [
  ⟨(some 35), .move (.t 1), none⟩,
  ⟨(some 36), .move (.t 0), none⟩,
  ⟨(some 37), .nilCheck (.t 36), none⟩,
  ⟨(some 38), .fieldAddr 0 (.t 37), none⟩,
  ⟨(some 39), .load none (.t 38), none⟩,
  ⟨(some 40), .move (.t 2), none⟩,
  ⟨(some 41), .indexSlice 3 (.t 39) (.t 40), none⟩,
  ⟨(some 42), .fieldAddr 0 (.t 41), none⟩,
  ⟨(some 43), .load none (.t 42), none⟩,
  ⟨(some 44), .lenSlice (.t 43), none⟩,
  ⟨(some 45), .bin .geq .no (.t 35) (.t 44), none⟩]
def m55_r8 : List MI := [
  ⟨(some 46), .move (.t 2), none⟩,
  ⟨(some 47), .bin .add .no (.t 46) (.k (.sc (.int .i64 1))), none⟩,
  ⟨(some 48), .move (.t 0), none⟩,
  ⟨(some 49), .nilCheck (.t 48), none⟩,
  ⟨(some 50), .fieldAddr 0 (.t 49), none⟩,
  ⟨(some 51), .load none (.t 50), none⟩,
  ⟨(some 52), .lenSlice (.t 51), none⟩,
  ⟨(some 53), .bin .rem .no (.t 47) (.t 52), none⟩,
  ⟨(some 2), .move (.t 53), none⟩]
def m55_r9 : List MI := [
  ⟨(some 1), .move (.k (.sc (.int .i64 0))), none⟩]
def m55_r10 : List MI := [
  ⟨(some 54), .move (.t 1), none⟩,
  ⟨(some 55), .move (.t 2), none⟩,
  ⟨(some 8), .move (.t 54), none⟩,
  ⟨(some 9), .move (.t 55), none⟩]
def m55_code : MCode := (.seq (.ops m55_r0) (.seq (.ops m55_r1) (.seq (.seq (.ops m55_r2) (.cond (.t 14) (.seq (.ops m55_r3) (.seq (.seq (.ops m55_r4) (.cond (.t 18) (.ops m55_r5) .skip)) (.ops m55_r6))) (.seq (.ops m55_r7) (.cond (.t 45) (.seq (.ops m55_r8) (.ops m55_r9)) .skip)))) (.seq (.ops m55_r10) .ret))))
def m55 : MFunc := ⟨56, [.tmp 8, .tmp 9], m55_code⟩

def m56_r0 : List MI := [
  ⟨(some 8), .move (.k (.sc (.bool false))), none⟩]
def m56_r1 : List MI := [
  ⟨(some 12), .move (.t 0), none⟩,
  ⟨(some 13), .nilCheck (.t 12), none⟩,
  ⟨(some 14), .fieldAddr 0 (.t 13), none⟩,
  ⟨(some 15), .load none (.t 14), none⟩,
  ⟨(some 16), .move (.t 2), none⟩,
  ⟨(some 17), .indexSlice 3 (.t 15) (.t 16), none⟩,
  ⟨(some 18), .fieldAddr 0 (.t 17), none⟩,
  ⟨(some 19), .load none (.t 18), none⟩,
  ⟨(some 9), .move (.t 19), none⟩]
def m56_r2 : List MI := [
  ⟨(some 20), .move (.t 9), none⟩,
  ⟨(some 21), .move (.t 1), none⟩,
  ⟨(some 22), .indexSlice 7 (.t 20) (.t 21), none⟩,
  ⟨(some 23), .fieldAddr 1 (.t 22), none⟩,
  ⟨(some 24), .load none (.t 23), none⟩,
  ⟨(some 25), .bin .eql .no (.t 24) (.k (.sc (.int .u8 2))), none⟩]
def m56_r3 : List MI := [
  ⟨(some 8), .move (.k (.sc (.bool false))), none⟩]
def m56_r4 : List MI := [
  ⟨(some 10), .move (.k (.sc (.str []))), none⟩]
def m56_r5 : List MI := [
  ⟨(some 26), .move (.t 1), none⟩,
  ⟨(some 11), .move (.t 26), none⟩]
def m56_r7 : List MI := [
  ⟨(some 27), .move (.t 11), none⟩,
  ⟨(some 28), .move (.t 9), none⟩,
  ⟨(some 29), .lenSlice (.t 28), none⟩,
  ⟨(some 30), .bin .lss .no (.t 27) (.t 29), none⟩,
  ⟨(some 31), .move (.t 30), none⟩,
  ⟨(some 32), .move (.t 10), (some (31, true))⟩,
  ⟨(some 33), .lenStr (.t 32), (some (31, true))⟩,
  ⟨(some 34), .move (.t 3), (some (31, true))⟩,
  ⟨(some 35), .lenStr (.t 34), (some (31, true))⟩,
  ⟨(some 36), .bin .lss .no (.t 33) (.t 35), (some (31, true))⟩,
  ⟨(some 37), .pick (.t 31) (.t 36) (.k (.sc (.bool false))), none⟩]
def m56_r8 : List MI := [
  ⟨(some 40), .move (.t 9), none⟩,
  ⟨(some 41), .move (.t 11), none⟩,
  ⟨(some 42), .indexSlice 7 (.t 40) (.t 41), none⟩,
  ⟨(some 43), .fieldAddr 1 (.t 42), none⟩,
  ⟨(some 44), .load none (.t 43), none⟩,
  ⟨(some 45), .bin .neq .no (.t 44) (.k (.sc (.int .u8 2))), none⟩]
def m56_r9 : List MI := [
  ⟨(some 46), .move (.t 10), none⟩,
  ⟨(some 47), .move (.t 9), none⟩,
  ⟨(some 48), .move (.t 11), none⟩,
  ⟨(some 49), .indexSlice 7 (.t 47) (.t 48), none⟩,
  ⟨(some 50), .fieldAddr 0 (.t 49), none⟩,
  ⟨(some 51), .load none (.t 50), none⟩,
  ⟨(some 52), .call 44 [(.t 51)], none⟩,
  ⟨(some 53), .bin .add .no (.t 46) (.t 52), none⟩,
  ⟨(some 10), .move (.t 53), none⟩]
def m56_r10 : List MI := [
  ⟨(some 38), .move (.t 11), none⟩,
  ⟨(some 39), .bin .add .no (.t 38) (.k (.sc (.int .i64 1))), none⟩,
  ⟨(some 11), .move (.t 39), none⟩]
def m56_l6 : MCode := (.seq (.seq (.ops m56_r7) (.cond (.t 37) .skip (.exit 0))) (.seq (.block 1 (.seq (.ops m56_r8) (.cond (.t 45) (.ops m56_r9) .skip))) (.ops m56_r10)))
def m56_r11 : List MI := [
  ⟨(some 54), .move (.t 10), none⟩,
  ⟨(some 55), .lenStr (.t 54), none⟩,
  ⟨(some 56), .move (.t 3), none⟩,
  ⟨(some 57), .lenStr (.t 56), none⟩,
  ⟨(some 58), .bin .geq .no (.t 55) (.t 57), none⟩,
  ⟨(some 59), .move (.t 58), none⟩,
  ⟨(some 60), .move (.t 10), (some (59, true))⟩,
  ⟨(some 61), .move (.t 3), (some (59, true))⟩,
  ⟨(some 62), .lenStr (.t 61), (some (59, true))⟩,
  ⟨(some 63), .sliceStr (.t 60) none (some (.t 62)), (some (59, true))⟩,
  ⟨(some 64), .move (.t 3), (some (59, true))⟩,
  ⟨(some 65), .bin .eql .no (.t 63) (.t 64), (some (59, true))⟩,
  ⟨(some 66), .pick (.t 59) (.t 65) (.k (.sc (.bool false))), none⟩,
  ⟨(some 8), .move (.t 66), none⟩]
def m56_code : MCode := (.seq (.ops m56_r0) (.seq (.ops m56_r1) (.seq (.seq (.ops m56_r2) (.cond (.t 25) (.seq (.ops m56_r3) .ret) .skip)) (.seq (.ops m56_r4) (.seq (.seq (.ops m56_r5) (.block 0 (.loop m56_l6))) (.seq (.ops m56_r11) .ret))))))
def m56 : MFunc := ⟨67, [.tmp 8], m56_code⟩

def m57_r0 : List MI := [
  ⟨(some 4), .move (.k (.sc (.nils))), none⟩]
def m57_r1 : List MI := [
  ⟨(some 5), .move (.t 1), none⟩,
  ⟨(some 6), .conv (.int .u32) (.t 5), none⟩,
  ⟨(some 7), .bin .leq .no (.t 6) (.k (.sc (.int .u32 127))), none⟩]
def m57_r2 : List MI := [
  ⟨(some 8), .move (.t 0), none⟩,
  ⟨(some 9), .move (.t 1), none⟩,
  ⟨(some 10), .conv (.int .u8) (.t 9), none⟩,
  ⟨(some 11), .buildSlice 5 1 1 [.int .u8 0] [(0, 1, (.t 10))], none⟩,
  ⟨(some 12), .append 5 1 1 [.int .u8 0] (.t 8) (.t 11), none⟩,
  ⟨(some 4), .move (.t 12), none⟩]
def m57_r3 : List MI := [
  ⟨(some 13), .move (.t 0), none⟩,
  ⟨(some 14), .move (.t 1), none⟩,
  ⟨(some 15), .call 64 [(.t 13), (.t 14)], none⟩,
  ⟨(some 4), .move (.t 15), none⟩]
def m57_code : MCode := (.seq (.ops m57_r0) (.seq (.seq (.ops m57_r1) (.cond (.t 7) (.seq (.ops m57_r2) .ret) .skip)) (.seq (.ops m57_r3) .ret)))
def m57 : MFunc := ⟨16, [.tmp 4], m57_code⟩

def m58_r0 : List MI := [
  ⟨(some 4), .move (.k (.sc (.bool false))), none⟩]
def m58_r1 : List MI := [
  ⟨(some 5), .move (.t 0), none⟩,
  ⟨(some 6), .lenStr (.t 5), none⟩,
  ⟨(some 7), .move (.t 1), none⟩,
  ⟨(some 8), .lenStr (.t 7), none⟩,
  ⟨(some 9), .bin .geq .no (.t 6) (.t 8), none⟩,
  ⟨(some 10), .move (.t 9), none⟩,
  ⟨(some 11), .move (.t 0), (some (10, true))⟩,
  ⟨(some 12), .move (.t 1), (some (10, true))⟩,
  ⟨(some 13), .lenStr (.t 12), (some (10, true))⟩,
  ⟨(some 14), .sliceStr (.t 11) none (some (.t 13)), (some (10, true))⟩,
  ⟨(some 15), .move (.t 1), (some (10, true))⟩,
  ⟨(some 16), .bin .eql .no (.t 14) (.t 15), (some (10, true))⟩,
  ⟨(some 17), .pick (.t 10) (.t 16) (.k (.sc (.bool false))), none⟩,
  ⟨(some 4), .move (.t 17), none⟩]
def m58_code : MCode := (.seq (.ops m58_r0) (.seq (.ops m58_r1) .ret))
def m58 : MFunc := ⟨18, [.tmp 4], m58_code⟩

def m60_r0 : List MI := [
  ⟨(some 4), .move (.k (.sc (.str []))), none⟩]
def m60_r2 : List MI := [
  ⟨(some 5), .move (.t 0), none⟩,
  ⟨(some 6), .lenStr (.t 5), none⟩,
  ⟨(some 7), .bin .gtr .no (.t 6) (.k (.sc (.int .i64 0))), none⟩,
  ⟨(some 8), .move (.t 7), none⟩,
  ⟨(some 9), .move (.t 0), (some (8, true))⟩,
  ⟨(some 10), .move (.t 0), (some (8, true))⟩,
  ⟨(some 11), .lenStr (.t 10), (some (8, true))⟩,
  ⟨(some 12), .bin .sub .no (.t 11) (.k (.sc (.int .i64 1))), (some (8, true))⟩,
  ⟨(some 13), .idxStr (.t 9) (.t 12), (some (8, true))⟩,
  ⟨(some 14), .move (.t 1), (some (8, true))⟩,
  ⟨(some 15), .bin .eql .no (.t 13) (.t 14), (some (8, true))⟩,
  ⟨(some 16), .pick (.t 8) (.t 15) (.k (.sc (.bool false))), none⟩]
def m60_r3 : List MI := [
  ⟨(some 17), .move (.t 0), none⟩,
  ⟨(some 18), .move (.t 0), none⟩,
  ⟨(some 19), .lenStr (.t 18), none⟩,
  ⟨(some 20), .bin .sub .no (.t 19) (.k (.sc (.int .i64 1))), none⟩,
  ⟨(some 21), .sliceStr (.t 17) none (some (.t 20)), none⟩,
  ⟨(some 0), .move (.t 21), none⟩]
def m60_l1 : MCode := (.seq (.seq (.ops m60_r2) (.cond (.t 16) .skip (.exit 0))) (.block 1 (.ops m60_r3)))
def m60_r4 : List MI := [
  ⟨(some 22), .move (.t 0), none⟩,
  ⟨(some 4), .move (.t 22), none⟩]
def m60_code : MCode := (.seq (.ops m60_r0) (.seq (.block 0 (.loop m60_l1)) (.seq (.ops m60_r4) .ret)))
def m60 : MFunc := ⟨23, [.tmp 4], m60_code⟩

def m61_r0 : List MI := [
  ⟨(some 2), .alloc 108 [.bool false, .bool false, .bool false, .bool false, .bool false, .bool false, .bool false, .bool false, .bool false, .bool false, .bool false, .bool false, .bool false, .bool false, .bool false, .bool false, .bool false, .bool false, .bool false, .bool false, .bool false, .bool false, .bool false, .bool false, .bool false, .bool false, .bool false, .bool false, .bool false, .bool false, .bool false, .bool false, .bool false, .bool false, .bool false, .bool false, .bool false, .bool false, .bool false, .bool false, .bool false, .bool false, .bool false, .bool false, .bool false, .bool false, .bool false, .bool false, .bool false, .bool false, .bool false, .bool false, .bool false, .bool false, .bool false, .bool false, .bool false, .bool false, .bool false, .bool false, .bool false, .bool false, .bool false, .bool false, .bool false, .bool false, .bool false, .bool false, .bool false, .bool false, .bool false, .bool false, .bool false, .bool false, .bool false, .bool false, .bool false, .bool false, .bool false, .bool false, .bool false, .bool false, .bool false, .bool false, .bool false, .bool false, .bool false, .bool false, .bool false, .bool false, .bool false, .bool false, .bool false, .bool false, .bool false, .bool false, .bool false, .bool false, .bool false, .bool false, .bool false, .bool false, .bool false, .bool false, .bool false, .bool false, .bool false, .bool false, .bool false, .bool false, .bool false, .bool false, .bool false, .bool false, .bool false, .bool false, .bool false, .bool false, .bool false, .bool false, .bool false, .bool false, .bool false, .bool false, .bool false, .bool false, .bool false, .bool false, .bool false, .bool false, .bool false, .bool false, .bool false, .bool false, .bool false, .bool false, .bool false, .bool false, .bool false, .bool false, .bool false, .bool false, .bool false, .bool false, .bool false, .bool false, .bool false, .bool false, .bool false, .bool false, .bool false, .bool false, .bool false, .bool false, .bool false, .bool false, .bool false, .bool false, .bool false, .bool false, .bool false, .bool false, .bool false, .bool false, .bool false, .bool false, .bool false, .bool false, .bool false, .bool false, .bool false, .bool false, .bool false, .bool false, .bool false, .bool false, .bool false, .bool false, .bool false, .bool false, .bool false, .bool false, .bool false, .bool false, .bool false, .bool false, .bool false, .bool false, .bool false, .bool false, .bool false, .bool false, .bool false, .bool false, .bool false, .bool false, .bool false, .bool false, .bool false, .bool false, .bool false, .bool false, .bool false, .bool false, .bool false, .bool false, .bool false, .bool false, .bool false, .bool false, .bool false, .bool false, .bool false, .bool false, .bool false, .bool false, .bool false, .bool false, .bool false, .bool false, .bool false, .bool false, .bool false, .bool false, .bool false, .bool false, .bool false, .bool false, .bool false, .bool false, .bool false, .bool false, .bool false, .bool false, .bool false, .bool false, .bool false, .bool false, .bool false, .bool false, .bool false, .bool false, .bool false, .bool false, .bool false, .bool false, .bool false, .bool false, .bool false, .bool false, .bool false, .bool false, .bool false, .bool false, .bool false, .bool false], none⟩,
  ⟨(some 3), .move (.k (.sc (.bool false))), none⟩]
def m61_r1 : List MI := [
  ⟨(some 4), .move (.k (.sc (.int .i64 0))), none⟩]
def m61_r3 : List MI := [
  ⟨(some 6), .move (.t 4), none⟩,
  ⟨(some 7), .move (.t 0), none⟩,
  ⟨(some 8), .lenStr (.t 7), none⟩,
  ⟨(some 9), .bin .lss .no (.t 6) (.t 8), none⟩]
def m61_r4 : List MI := [
  ⟨(some 12), .move (.t 0), none⟩,
  ⟨(some 13), .move (.t 4), none⟩,
  ⟨(some 14), .idxStr (.t 12) (.t 13), none⟩,
  ⟨(some 5), .move (.t 14), none⟩]
def m61_r5 : List MI := [
  ⟨(some 15), .move (.t 5), none⟩,
  ⟨(some 16), .bin .geq .no (.t 15) (.k (.sc (.int .u8 128))), none⟩]
def m61_r6 : List MI := [
  ⟨(some 17), .load (some 256) (.t 2), none⟩,
  ⟨none, .store 256 (.t 2) (.t 17), none⟩,
  ⟨(some 3), .move (.k (.sc (.bool false))), none⟩]
def m61_r7 : List MI := [
  ⟨(some 18), .move (.t 5), none⟩,
  ⟨(some 19), .indexArr 256 1 (.t 2) (.t 18), none⟩,
  ⟨none, .store 1 (.t 19) (.k (.sc (.bool true))), none⟩]
def m61_r8 : List MI := [
  ⟨(some 10), .move (.t 4), none⟩,
  ⟨(some 11), .bin .add .no (.t 10) (.k (.sc (.int .i64 1))), none⟩,
  ⟨(some 4), .move (.t 11), none⟩]
def m61_l2 : MCode := (.seq (.seq (.ops m61_r3) (.cond (.t 9) .skip (.exit 0))) (.seq (.block 1 (.seq (.ops m61_r4) (.seq (.seq (.ops m61_r5) (.cond (.t 16) (.seq (.ops m61_r6) .ret) .skip)) (.ops m61_r7)))) (.ops m61_r8)))
def m61_r9 : List MI := [
  ⟨(some 20), .load (some 256) (.t 2), none⟩,
  ⟨none, .store 256 (.t 2) (.t 20), none⟩,
  ⟨(some 3), .move (.k (.sc (.bool true))), none⟩]
def m61_code : MCode := (.seq (.ops m61_r0) (.seq (.seq (.ops m61_r1) (.block 0 (.loop m61_l2))) (.seq (.ops m61_r9) .ret)))
def m61 : MFunc := ⟨21, [.cell 2 (some 256), .tmp 3], m61_code⟩

def m62_r0 : List MI := [
  ⟨(some 4), .move (.k (.sc (.str []))), none⟩]
def m62_r2 : List MI := [
  ⟨(some 5), .move (.t 0), none⟩,
  ⟨(some 6), .lenStr (.t 5), none⟩,
  ⟨(some 7), .bin .gtr .no (.t 6) (.k (.sc (.int .i64 0))), none⟩]
def m62_r3 : List MI := [
  ⟨(some 8), .move (.t 1), none⟩,
  ⟨(some 9), .move (.t 0), none⟩,
  ⟨(some 10), .move (.t 0), none⟩,
  ⟨(some 11), .lenStr (.t 10), none⟩,
  ⟨(some 12), .bin .sub .no (.t 11) (.k (.sc (.int .i64 1))), none⟩,
  ⟨(some 13), .idxStr (.t 9) (.t 12), none⟩,
  ⟨(some 14), .call 65 [(.t 8), (.t 13)], none⟩,
  ⟨(some 15), .un .not (.t 14), none⟩]
def m62_r4 : List MI := [
  ⟨(some 16), .move (.t 0), none⟩,
  ⟨(some 17), .move (.t 0), none⟩,
  ⟨(some 18), .lenStr (.t 17), none⟩,
  ⟨(some 19), .bin .sub .no (.t 18) (.k (.sc (.int .i64 1))), none⟩,
  ⟨(some 20), .sliceStr (.t 16) none (some (.t 19)), none⟩,
  ⟨(some 0), .move (.t 20), none⟩]
def m62_l1 : MCode := (.seq (.seq (.ops m62_r2) (.cond (.t 7) .skip (.exit 0))) (.block 1 (.seq (.seq (.ops m62_r3) (.cond (.t 15) (.exit 0) .skip)) (.ops m62_r4))))
def m62_r5 : List MI := [
  ⟨(some 21), .move (.t 0), none⟩,
  ⟨(some 4), .move (.t 21), none⟩]
def m62_code : MCode := (.seq (.ops m62_r0) (.seq (.block 0 (.loop m62_l1)) (.seq (.ops m62_r5) .ret)))
def m62 : MFunc := ⟨22, [.tmp 4], m62_code⟩

def m63_r0 : List MI := [
  ⟨(some 4), .move (.k (.sc (.str []))), none⟩]
def m63_r2 : List MI := [
  ⟨(some 7), .move (.t 0), none⟩,
  ⟨(some 8), .lenStr (.t 7), none⟩,
  ⟨(some 9), .bin .gtr .no (.t 8) (.k (.sc (.int .i64 0))), none⟩]
def m63_r3 : List MI := [
  ⟨(some 10), .move (.t 0), none⟩,
  ⟨(some 11), .move (.t 0), none⟩,
  ⟨(some 12), .lenStr (.t 11), none⟩,
  ⟨(some 13), .bin .sub .no (.t 12) (.k (.sc (.int .i64 1))), none⟩,
  ⟨(some 14), .idxStr (.t 10) (.t 13), none⟩,
  ⟨(some 15), .conv (.int .i32) (.t 14), none⟩,
  ⟨(some 5), .move (.t 15), none⟩,
  ⟨(some 6), .move (.k (.sc (.int .i64 1))), none⟩]
def m63_r4 : List MI := [
  ⟨(some 16), .move (.t 5), none⟩,
  ⟨(some 17), .bin .geq .no (.t 16) (.k (.sc (.int .i32 128))), none⟩]
def m63_r5 : List MI := [
  ⟨(some 19), .move (.t 0), none⟩,
  ⟨(some 20), .call 66 [(.t 19)], none⟩,
  ⟨(some 18), .move (.t 20), none⟩,
  ⟨(some 21), .extract (.t 18) 0, none⟩,
  ⟨(some 22), .extract (.t 18) 1, none⟩,
  ⟨(some 5), .move (.t 21), none⟩,
  ⟨(some 6), .move (.t 22), none⟩]
def m63_r6 : List MI := [
  ⟨(some 23), .move (.t 1), none⟩,
  ⟨(some 24), .move (.t 5), none⟩,
  ⟨(some 25), .call 67 [(.t 23), (.t 24)], none⟩,
  ⟨(some 26), .un .not (.t 25), none⟩]
def m63_r7 : List MI := [
  ⟨(some 27), .move (.t 0), none⟩,
  ⟨(some 28), .move (.t 0), none⟩,
  ⟨(some 29), .lenStr (.t 28), none⟩,
  ⟨(some 30), .move (.t 6), none⟩,
  ⟨(some 31), .bin .sub .no (.t 29) (.t 30), none⟩,
  ⟨(some 32), .sliceStr (.t 27) none (some (.t 31)), none⟩,
  ⟨(some 0), .move (.t 32), none⟩]
def m63_l1 : MCode := (.seq (.seq (.ops m63_r2) (.cond (.t 9) .skip (.exit 0))) (.block 1 (.seq (.ops m63_r3) (.seq (.seq (.ops m63_r4) (.cond (.t 17) (.ops m63_r5) .skip)) (.seq (.seq (.ops m63_r6) (.cond (.t 26) (.exit 0) .skip)) (.ops m63_r7))))))
def m63_r8 : List MI := [
  ⟨(some 33), .move (.t 0), none⟩,
  ⟨(some 4), .move (.t 33), none⟩]
def m63_code : MCode := (.seq (.ops m63_r0) (.seq (.block 0 (.loop m63_l1)) (.seq (.ops m63_r8) .ret)))
def m63 : MFunc := ⟨34, [.tmp 4], m63_code⟩

def m64_r0 : List MI := [
  ⟨(some 4), .move (.k (.sc (.nils))), none⟩]
def m64_r1 : List MI := [
  ⟨(some 6), .move (.t 1), none⟩,
  ⟨(some 7), .conv (.int .u32) (.t 6), none⟩,
  ⟨(some 5), .move (.t 7), none⟩]
def m64_r2 : List MI := [
  ⟨(some 12), .move (.t 5), none⟩,
  ⟨(some 13), .bin .leq .no (.t 12) (.k (.sc (.int .u32 2047))), none⟩,
  ⟨(some 11), .move (.t 13), none⟩]
def m64_r3 : List MI := [
  ⟨(some 14), .move (.t 0), none⟩,
  ⟨(some 15), .move (.t 1), none⟩,
  ⟨(some 16), .bin .shr .no (.t 15) (.k (.sc (.int .u64 6))), none⟩,
  ⟨(some 17), .conv (.int .u8) (.t 16), none⟩,
  ⟨(some 18), .bin .or .no (.k (.sc (.int .u8 192))) (.t 17), none⟩,
  ⟨(some 19), .move (.t 1), none⟩,
  ⟨(some 20), .conv (.int .u8) (.t 19), none⟩,
  ⟨(some 21), .bin .and .no (.t 20) (.k (.sc (.int .u8 63))), none⟩,
  ⟨(some 22), .bin .or .no (.k (.sc (.int .u8 128))) (.t 21), none⟩,
  ⟨(some 23), .buildSlice 5 1 2 [.int .u8 0] [(0, 1, (.t 18)), (1, 1, (.t 22))], none⟩,
  ⟨(some 24), .append 5 1 1 [.int .u8 0] (.t 14) (.t 23), none⟩,
  ⟨(some 4), .move (.t 24), none⟩]
def m64_r4 : List MI := [
  ⟨(some 26), .move (.t 5), none⟩,
  ⟨(some 27), .bin .lss .no (.t 26) (.k (.sc (.int .u32 55296))), none⟩,
  ⟨(some 25), .move (.t 27), none⟩]
def m64_r5 : List MI := [
  ⟨(some 28), .move (.t 5), none⟩,
  ⟨(some 29), .bin .lss .no (.k (.sc (.int .u32 57343))) (.t 28), none⟩,
  ⟨(some 30), .move (.t 29), none⟩,
  ⟨(some 31), .move (.t 5), (some (30, true))⟩,
  ⟨(some 32), .bin .leq .no (.t 31) (.k (.sc (.int .u32 65535))), (some (30, true))⟩,
  ⟨(some 33), .pick (.t 30) (.t 32) (.k (.sc (.bool false))), none⟩,
  ⟨(some 25), .move (.t 33), none⟩]
def m64_r6 : List MI := [
  ⟨(some 34), .move (.t 0), none⟩,
  ⟨(some 35), .move (.t 1), none⟩,
  ⟨(some 36), .bin .shr .no (.t 35) (.k (.sc (.int .u64 12))), none⟩,
  ⟨(some 37), .conv (.int .u8) (.t 36), none⟩,
  ⟨(some 38), .bin .or .no (.k (.sc (.int .u8 224))) (.t 37), none⟩,
  ⟨(some 39), .move (.t 1), none⟩,
  ⟨(some 40), .bin .shr .no (.t 39) (.k (.sc (.int .u64 6))), none⟩,
  ⟨(some 41), .conv (.int .u8) (.t 40), none⟩,
  ⟨(some 42), .bin .and .no (.t 41) (.k (.sc (.int .u8 63))), none⟩,
  ⟨(some 43), .bin .or .no (.k (.sc (.int .u8 128))) (.t 42), none⟩,
  ⟨(some 44), .move (.t 1), none⟩,
  ⟨(some 45), .conv (.int .u8) (.t 44), none⟩,
  ⟨(some 46), .bin .and .no (.t 45) (.k (.sc (.int .u8 63))), none⟩,
  ⟨(some 47), .bin .or .no (.k (.sc (.int .u8 128))) (.t 46), none⟩,
  ⟨(some 48), .buildSlice 5 1 3 [.int .u8 0] [(0, 1, (.t 38)), (1, 1, (.t 43)), (2, 1, (.t 47))], none⟩,
  ⟨(some 49), .append 5 1 1 [.int .u8 0] (.t 34) (.t 48), none⟩,
  ⟨(some 4), .move (.t 49), none⟩]
def m64_r7 : List MI := [
  ⟨(some 51), .move (.t 5), none⟩,
  ⟨(some 52), .bin .gtr .no (.t 51) (.k (.sc (.int .u32 65535))), none⟩,
  ⟨(some 53), .move (.t 52), none⟩,
  ⟨(some 54), .move (.t 5), (some (53, true))⟩,
  ⟨(some 55), .bin .leq .no (.t 54) (.k (.sc (.int .u32 1114111))), (some (53, true))⟩,
  ⟨(some 56), .pick (.t 53) (.t 55) (.k (.sc (.bool false))), none⟩,
  ⟨(some 50), .move (.t 56), none⟩]
def m64_r8 : List MI := [
  ⟨(some 57), .move (.t 0), none⟩,
  ⟨(some 58), .move (.t 1), none⟩,
  ⟨(some 59), .bin .shr .no (.t 58) (.k (.sc (.int .u64 18))), none⟩,
  ⟨(some 60), .conv (.int .u8) (.t 59), none⟩,
  ⟨(some 61), .bin .or .no (.k (.sc (.int .u8 240))) (.t 60), none⟩,
  ⟨(some 62), .move (.t 1), none⟩,
  ⟨(some 63), .bin .shr .no (.t 62) (.k (.sc (.int .u64 12))), none⟩,
  ⟨(some 64), .conv (.int .u8) (.t 63), none⟩,
  ⟨(some 65), .bin .and .no (.t 64) (.k (.sc (.int .u8 63))), none⟩,
  ⟨(some 66), .bin .or .no (.k (.sc (.int .u8 128))) (.t 65), none⟩,
  ⟨(some 67), .move (.t 1), none⟩,
  ⟨(some 68), .bin .shr .no (.t 67) (.k (.sc (.int .u64 6))), none⟩,
  ⟨(some 69), .conv (.int .u8) (.t 68), none⟩,
  ⟨(some 70), .bin .and .no (.t 69) (.k (.sc (.int .u8 63))), none⟩,
  ⟨(some 71), .bin .or .no (.k (.sc (.int .u8 128))) (.t 70), none⟩,
  ⟨(some 72), .move (.t 1), none⟩,
  ⟨(some 73), .conv (.int .u8) (.t 72), none⟩,
  ⟨(some 74), .bin .and .no (.t 73) (.k (.sc (.int .u8 63))), none⟩,
  ⟨(some 75), .bin .or .no (.k (.sc (.int .u8 128))) (.t 74), none⟩,
  ⟨(some 76), .buildSlice 5 1 4 [.int .u8 0] [(0, 1, (.t 61)), (1, 1, (.t 66)), (2, 1, (.t 71)), (3, 1, (.t 75))], none⟩,
  ⟨(some 77), .append 5 1 1 [.int .u8 0] (.t 57) (.t 76), none⟩,
  ⟨(some 4), .move (.t 77), none⟩]
def m64_r9 : List MI := [
  ⟨(some 8), .move (.t 0), none⟩,
  ⟨(some 9), .buildSlice 5 1 3 [.int .u8 0] [(0, 1, (.k (.sc (.int .u8 239)))), (1, 1, (.k (.sc (.int .u8 191)))), (2, 1, (.k (.sc (.int .u8 189))))], none⟩,
  ⟨(some 10), .append 5 1 1 [.int .u8 0] (.t 8) (.t 9), none⟩,
  ⟨(some 4), .move (.t 10), none⟩]
def m64_code : MCode := (.seq (.ops m64_r0) (.seq (.ops m64_r1) (.block 0 (.seq (.ops m64_r2) (.cond (.t 11) (.seq (.ops m64_r3) .ret) (.seq (.seq (.ops m64_r4) (.cond (.t 25) .skip (.ops m64_r5))) (.cond (.t 25) (.seq (.ops m64_r6) .ret) (.seq (.ops m64_r7) (.cond (.t 50) (.seq (.ops m64_r8) .ret) (.seq (.ops m64_r9) .ret))))))))))
def m64 : MFunc := ⟨78, [.tmp 4], m64_code⟩

def m65_r0 : List MI := [
  ⟨(some 4), .move (.k (.sc (.bool false))), none⟩]
def m65_r1 : List MI := [
  ⟨(some 5), .move (.t 0), none⟩,
  ⟨(some 6), .move (.t 1), none⟩,
  ⟨(some 7), .nilCheck (.t 5), none⟩,
  ⟨(some 8), .indexArr 256 1 (.t 7) (.t 6), none⟩,
  ⟨(some 9), .load none (.t 8), none⟩,
  ⟨(some 4), .move (.t 9), none⟩]
def m65_code : MCode := (.seq (.ops m65_r0) (.seq (.ops m65_r1) .ret))
def m65 : MFunc := ⟨10, [.tmp 4], m65_code⟩

def m66_r0 : List MI := [
  ⟨(some 2), .move (.k (.sc (.int .i32 0))), none⟩,
  ⟨(some 3), .move (.k (.sc (.int .i64 0))), none⟩]
def m66_r1 : List MI := [
  ⟨(some 7), .move (.t 0), none⟩,
  ⟨(some 8), .lenStr (.t 7), none⟩,
  ⟨(some 4), .move (.t 8), none⟩]
def m66_r2 : List MI := [
  ⟨(some 9), .move (.t 4), none⟩,
  ⟨(some 10), .bin .eql .no (.t 9) (.k (.sc (.int .i64 0))), none⟩]
def m66_r3 : List MI := [
  ⟨(some 2), .move (.k (.sc (.int .i32 65533))), none⟩,
  ⟨(some 3), .move (.k (.sc (.int .i64 0))), none⟩]
def m66_r4 : List MI := [
  ⟨(some 11), .move (.t 4), none⟩,
  ⟨(some 12), .bin .sub .no (.t 11) (.k (.sc (.int .i64 1))), none⟩,
  ⟨(some 5), .move (.t 12), none⟩]
def m66_r5 : List MI := [
  ⟨(some 13), .move (.t 0), none⟩,
  ⟨(some 14), .move (.t 5), none⟩,
  ⟨(some 15), .idxStr (.t 13) (.t 14), none⟩,
  ⟨(some 16), .conv (.int .i32) (.t 15), none⟩,
  ⟨(some 2), .move (.t 16), none⟩]
def m66_r6 : List MI := [
  ⟨(some 17), .move (.t 2), none⟩,
  ⟨(some 18), .bin .lss .no (.t 17) (.k (.sc (.int .i32 128))), none⟩]
def m66_r7 : List MI := [
  ⟨(some 19), .move (.t 2), none⟩,
  ⟨(some 2), .move (.t 19), none⟩,
  ⟨(some 3), .move (.k (.sc (.int .i64 1))), none⟩]
def m66_r8 : List MI := [
  ⟨(some 20), .move (.t 4), none⟩,
  ⟨(some 21), .bin .sub .no (.t 20) (.k (.sc (.int .i64 4))), none⟩,
  ⟨(some 22), .max [(.t 21), (.k (.sc (.int .i64 0)))], none⟩,
  ⟨(some 6), .move (.t 22), none⟩]
def m66_r9 : List MI := [
  ⟨(some 23), .move (.t 5), none⟩,
  ⟨(some 24), .bin .sub .no (.t 23) (.k (.sc (.int .i64 1))), none⟩,
  ⟨(some 5), .move (.t 24), none⟩]
def m66_r11 : List MI := [
  ⟨(some 25), .move (.t 5), none⟩,
  ⟨(some 26), .move (.t 6), none⟩,
  ⟨(some 27), .bin .geq .no (.t 25) (.t 26), none⟩]
def m66_r12 : List MI := [
  ⟨(some 30), .move (.t 0), none⟩,
  ⟨(some 31), .move (.t 5), none⟩,
  ⟨(some 32), .idxStr (.t 30) (.t 31), none⟩,
  ⟨(some 33), .call 68 [(.t 32)], none⟩]
def m66_r13 : List MI := [
  ⟨(some 28), .move (.t 5), none⟩,
  ⟨(some 29), .bin .sub .no (.t 28) (.k (.sc (.int .i64 1))), none⟩,
  ⟨(some 5), .move (.t 29), none⟩]
def m66_l10 : MCode := (.seq (.seq (.ops m66_r11) (.cond (.t 27) .skip (.exit 0))) (.seq (.block 1 (.seq (.ops m66_r12) (.cond (.t 33) (.exit 0) .skip))) (.ops m66_r13)))
def m66_r14 : List MI := [
  ⟨(some 34), .move (.t 5), none⟩,
  ⟨(some 35), .bin .lss .no (.t 34) (.k (.sc (.int .i64 0))), none⟩]
def m66_r15 : List MI := [
  ⟨(some 5), .move (.k (.sc (.int .i64 0))), none⟩]
def m66_r16 : List MI := [
  ⟨(some 37), .move (.t 0), none⟩,
  ⟨(some 38), .move (.t 5), none⟩,
  ⟨(some 39), .move (.t 4), none⟩,
  ⟨(some 40), .sliceStr (.t 37) (some (.t 38)) (some (.t 39)), none⟩,
  ⟨(some 41), .call 69 [(.t 40)], none⟩,
  ⟨(some 36), .move (.t 41), none⟩,
  ⟨(some 42), .extract (.t 36) 0, none⟩,
  ⟨(some 43), .extract (.t 36) 1, none⟩,
  ⟨(some 2), .move (.t 42), none⟩,
  ⟨(some 3), .move (.t 43), none⟩]
def m66_r17 : List MI := [
  ⟨(some 44), .move (.t 5), none⟩,
  ⟨(some 45), .move (.t 3), none⟩,
  ⟨(some 46), .bin .add .no (.t 44) (.t 45), none⟩,
  ⟨(some 47), .move (.t 4), none⟩,
  ⟨(some 48), .bin .neq .no (.t 46) (.t 47), none⟩]
def m66_r18 : List MI := [
  ⟨(some 2), .move (.k (.sc (.int .i32 65533))), none⟩,
  ⟨(some 3), .move (.k (.sc (.int .i64 1))), none⟩]
def m66_r19 : List MI := [
  ⟨(some 49), .move (.t 2), none⟩,
  ⟨(some 50), .move (.t 3), none⟩,
  ⟨(some 2), .move (.t 49), none⟩,
  ⟨(some 3), .move (.t 50), none⟩]
def m66_code : MCode := (.seq (.ops m66_r0) (.seq (.ops m66_r1) (.seq (.seq (.ops m66_r2) (.cond (.t 10) (.seq (.ops m66_r3) .ret) .skip)) (.seq (.ops m66_r4) (.seq (.ops m66_r5) (.seq (.seq (.ops m66_r6) (.cond (.t 18) (.seq (.ops m66_r7) .ret) .skip)) (.seq (.ops m66_r8) (.seq (.seq (.ops m66_r9) (.block 0 (.loop m66_l10))) (.seq (.seq (.ops m66_r14) (.cond (.t 35) (.ops m66_r15) .skip)) (.seq (.ops m66_r16) (.seq (.seq (.ops m66_r17) (.cond (.t 48) (.seq (.ops m66_r18) .ret) .skip)) (.seq (.ops m66_r19) .ret))))))))))))
def m66 : MFunc := ⟨51, [.tmp 2, .tmp 3], m66_code⟩

def m67_r0 : List MI := [
  ⟨(some 4), .move (.k (.sc (.bool false))), none⟩]
def m67_r1 : List MI := [
  ⟨(some 5), .move (.t 0), none⟩,
  ⟨(some 6), .move (.t 1), none⟩,
  ⟨(some 7), .call 70 [(.t 5), (.t 6)], none⟩,
  ⟨(some 8), .bin .geq .no (.t 7) (.k (.sc (.int .i64 0))), none⟩,
  ⟨(some 4), .move (.t 8), none⟩]
def m67_code : MCode := (.seq (.ops m67_r0) (.seq (.ops m67_r1) .ret))
def m67 : MFunc := ⟨9, [.tmp 4], m67_code⟩

def m68_r0 : List MI := [
  ⟨(some 2), .move (.k (.sc (.bool false))), none⟩]
def m68_r1 : List MI := [
  ⟨(some 3), .move (.t 0), none⟩,
  ⟨(some 4), .bin .and .no (.t 3) (.k (.sc (.int .u8 192))), none⟩,
  ⟨(some 5), .bin .neq .no (.t 4) (.k (.sc (.int .u8 128))), none⟩,
  ⟨(some 2), .move (.t 5), none⟩]
def m68_code : MCode := (.seq (.ops m68_r0) (.seq (.ops m68_r1) .ret))
def m68 : MFunc := ⟨6, [.tmp 2], m68_code⟩

def m69_r0 : List MI := [
  ⟨(some 2), .move (.k (.sc (.int .i32 0))), none⟩,
  ⟨(some 3), .move (.k (.sc (.int .i64 0))), none⟩]
def m69_r1 : List MI := [
  ⟨(some 4), .move (.t 0), none⟩,
  ⟨(some 5), .bin .neq .no (.t 4) (.k (.sc (.str []))), none⟩,
  ⟨(some 6), .move (.t 5), none⟩,
  ⟨(some 7), .move (.t 0), (some (6, true))⟩,
  ⟨(some 8), .idxStr (.t 7) (.k (.sc (.int .i64 0))), (some (6, true))⟩,
  ⟨(some 9), .bin .lss .no (.t 8) (.k (.sc (.int .u8 128))), (some (6, true))⟩,
  ⟨(some 10), .pick (.t 6) (.t 9) (.k (.sc (.bool false))), none⟩]
def m69_r2 : List MI := [
  ⟨(some 11), .move (.t 0), none⟩,
  ⟨(some 12), .idxStr (.t 11) (.k (.sc (.int .i64 0))), none⟩,
  ⟨(some 13), .conv (.int .i32) (.t 12), none⟩,
  ⟨(some 2), .move (.t 13), none⟩,
  ⟨(some 3), .move (.k (.sc (.int .i64 1))), none⟩]
def m69_r3 : List MI := [
  ⟨(some 15), .move (.t 0), none⟩,
  ⟨(some 16), .call 71 [(.t 15)], none⟩,
  ⟨(some 14), .move (.t 16), none⟩,
  ⟨(some 17), .extract (.t 14) 0, none⟩,
  ⟨(some 18), .extract (.t 14) 1, none⟩,
  ⟨(some 2), .move (.t 17), none⟩,
  ⟨(some 3), .move (.t 18), none⟩]
def m69_code : MCode := (.seq (.ops m69_r0) (.seq (.seq (.ops m69_r1) (.cond (.t 10) (.seq (.ops m69_r2) .ret) (.ops m69_r3))) .ret))
def m69 : MFunc := ⟨19, [.tmp 2, .tmp 3], m69_code⟩

def m70_r0 : List MI := [
  ⟨(some 4), .move (.k (.sc (.int .i64 0))), none⟩]
def m70_r1 : List MI := [
  ⟨(some 161), .move (.t 1), none⟩,
  ⟨(some 162), .bin .leq .no (.k (.sc (.int .i32 0))) (.t 161), none⟩,
  ⟨(some 163), .move (.t 162), none⟩,
  ⟨(some 164), .move (.t 1), (some (163, true))⟩,
  ⟨(some 165), .bin .lss .no (.t 164) (.k (.sc (.int .i32 128))), (some (163, true))⟩,
  ⟨(some 166), .pick (.t 163) (.t 165) (.k (.sc (.bool false))), none⟩,
  ⟨(some 160), .move (.t 166), none⟩]
def m70_r2 : List MI := [
  ⟨(some 167), .move (.t 0), none⟩,
  ⟨(some 168), .move (.t 1), none⟩,
  ⟨(some 169), .conv (.int .u8) (.t 168), none⟩,
  ⟨(some 170), .call 72 [(.t 167), (.t 169)], none⟩,
  ⟨(some 4), .move (.t 170), none⟩]
def m70_r3 : List MI := [
  ⟨(some 172), .move (.t 1), none⟩,
  ⟨(some 173), .bin .eql .no (.t 172) (.k (.sc (.int .i32 65533))), none⟩,
  ⟨(some 171), .move (.t 173), none⟩]
def m70_r4 : List MI := [
  ⟨(some 174), .move (.t 0), none⟩,
  ⟨(some 175), .range (.t 174), none⟩]
def m70_r6 : List MI := [
  ⟨(some 176), .next (.t 175), none⟩,
  ⟨(some 177), .extract (.t 176) 0, none⟩]
def m70_r7 : List MI := [
  ⟨(some 178), .extract (.t 176) 1, none⟩,
  ⟨(some 179), .extract (.t 176) 2, none⟩,
  ⟨(some 5), .move (.t 178), none⟩,
  ⟨(some 6), .move (.t 179), none⟩]
def m70_r8 : List MI := [
  ⟨(some 180), .move (.t 6), none⟩,
  ⟨(some 181), .bin .eql .no (.t 180) (.k (.sc (.int .i32 65533))), none⟩]
def m70_r9 : List MI := [
  ⟨(some 182), .move (.t 5), none⟩,
  ⟨(some 4), .move (.t 182), none⟩]
def m70_l5 : MCode := (.seq (.ops m70_r6) (.seq (.cond (.t 177) .skip (.exit 9)) (.block 10 (.seq (.ops m70_r7) (.seq (.ops m70_r8) (.cond (.t 181) (.seq (.ops m70_r9) .ret) .skip))))))
def m70_r10 : List MI := [
  ⟨(some 4), .move (.k (.sc (.int .i64 (-1)))), none⟩]
def m70_r11 : List MI := [
  ⟨(some 184), .move (.t 1), none⟩,
  ⟨(some 185), .call 73 [(.t 184)], none⟩,
  ⟨(some 186), .un .not (.t 185), none⟩,
  ⟨(some 183), .move (.t 186), none⟩]
def m70_r12 : List MI := [
  ⟨(some 4), .move (.k (.sc (.int .i64 (-1)))), none⟩]
def m70_code : MCode := (.seq (.ops m70_r0) (.block 0 (.seq (.ops m70_r1) (.cond (.t 160) (.seq (.ops m70_r2) .ret) (.seq (.ops m70_r3) (.cond (.t 171) (.seq (.seq (.ops m70_r4) (.block 9 (.loop m70_l5))) (.seq (.ops m70_r10) .ret)) (.seq (.ops m70_r11) (.cond (.t 183) (.seq (.ops m70_r12) .ret) .bad))))))))
def m70 : MFunc := ⟨187, [.tmp 4], m70_code⟩

def m71_r0 : List MI := [
  ⟨(some 2), .move (.k (.sc (.int .i32 0))), none⟩,
  ⟨(some 3), .move (.k (.sc (.int .i64 0))), none⟩]
def m71_r1 : List MI := [
  ⟨(some 13), .move (.t 0), none⟩,
  ⟨(some 14), .lenStr (.t 13), none⟩,
  ⟨(some 4), .move (.t 14), none⟩]
def m71_r2 : List MI := [
  ⟨(some 15), .move (.t 4), none⟩,
  ⟨(some 16), .bin .lss .no (.t 15) (.k (.sc (.int .i64 1))), none⟩]
def m71_r3 : List MI := [
  ⟨(some 2), .move (.k (.sc (.int .i32 65533))), none⟩,
  ⟨(some 3), .move (.k (.sc (.int .i64 0))), none⟩]
def m71_r4 : List MI := [
  ⟨(some 17), .move (.t 0), none⟩,
  ⟨(some 18), .idxStr (.t 17) (.k (.sc (.int .i64 0))), none⟩,
  ⟨(some 5), .move (.t 18), none⟩]
def m71_r5 : List MI := [
  ⟨(some 19), .move (.t 5), none⟩,
  ⟨(some 20), .indexArr 256 1 (.k (.sc (.ptr 0 0))) (.t 19), none⟩,
  ⟨(some 21), .load none (.t 20), none⟩,
  ⟨(some 6), .move (.t 21), none⟩]
def m71_r6 : List MI := [
  ⟨(some 22), .move (.t 6), none⟩,
  ⟨(some 23), .bin .geq .no (.t 22) (.k (.sc (.int .u8 240))), none⟩]
def m71_r7 : List MI := [
  ⟨(some 24), .move (.t 6), none⟩,
  ⟨(some 25), .conv (.int .i32) (.t 24), none⟩,
  ⟨(some 26), .bin .shl .no (.t 25) (.k (.sc (.int .u64 31))), none⟩,
  ⟨(some 27), .bin .shr .no (.t 26) (.k (.sc (.int .u64 31))), none⟩,
  ⟨(some 7), .move (.t 27), none⟩]
def m71_r8 : List MI := [
  ⟨(some 28), .move (.t 0), none⟩,
  ⟨(some 29), .idxStr (.t 28) (.k (.sc (.int .i64 0))), none⟩,
  ⟨(some 30), .conv (.int .i32) (.t 29), none⟩,
  ⟨(some 31), .move (.t 7), none⟩,
  ⟨(some 32), .bin .andNot .no (.t 30) (.t 31), none⟩,
  ⟨(some 33), .move (.t 7), none⟩,
  ⟨(some 34), .bin .and .no (.k (.sc (.int .i32 65533))) (.t 33), none⟩,
  ⟨(some 35), .bin .or .no (.t 32) (.t 34), none⟩,
  ⟨(some 2), .move (.t 35), none⟩,
  ⟨(some 3), .move (.k (.sc (.int .i64 1))), none⟩]
def m71_r9 : List MI := [
  ⟨(some 36), .move (.t 6), none⟩,
  ⟨(some 37), .bin .and .no (.t 36) (.k (.sc (.int .u8 7))), none⟩,
  ⟨(some 38), .conv (.int .i64) (.t 37), none⟩,
  ⟨(some 8), .move (.t 38), none⟩]
def m71_r10 : List MI := [
  ⟨(some 39), .move (.t 6), none⟩,
  ⟨(some 40), .bin .shr .no (.t 39) (.k (.sc (.int .u64 4))), none⟩,
  ⟨(some 41), .indexArr 16 2 (.k (.sc (.ptr 1 0))) (.t 40), none⟩,
  ⟨(some 42), .load (some 2) (.t 41), none⟩,
  ⟨(some 9), .alloc 125 [.int .u8 0, .int .u8 0], none⟩,
  ⟨none, .store 2 (.t 9) (.t 42), none⟩]
def m71_r11 : List MI := [
  ⟨(some 43), .move (.t 4), none⟩,
  ⟨(some 44), .move (.t 8), none⟩,
  ⟨(some 45), .bin .lss .no (.t 43) (.t 44), none⟩]
def m71_r12 : List MI := [
  ⟨(some 2), .move (.k (.sc (.int .i32 65533))), none⟩,
  ⟨(some 3), .move (.k (.sc (.int .i64 1))), none⟩]
def m71_r13 : List MI := [
  ⟨(some 46), .move (.t 0), none⟩,
  ⟨(some 47), .idxStr (.t 46) (.k (.sc (.int .i64 1))), none⟩,
  ⟨(some 10), .move (.t 47), none⟩]
def m71_r14 : List MI := [
  ⟨(some 48), .move (.t 10), none⟩,
  ⟨(some 49), .fieldAddr 0 (.t 9), none⟩,
  ⟨(some 50), .load none (.t 49), none⟩,
  ⟨(some 51), .bin .lss .no (.t 48) (.t 50), none⟩,
  ⟨(some 52), .move (.t 51), none⟩,
  ⟨(some 53), .fieldAddr 1 (.t 9), (some (52, false))⟩,
  ⟨(some 54), .load none (.t 53), (some (52, false))⟩,
  ⟨(some 55), .move (.t 10), (some (52, false))⟩,
  ⟨(some 56), .bin .lss .no (.t 54) (.t 55), (some (52, false))⟩,
  ⟨(some 57), .pick (.t 52) (.k (.sc (.bool true))) (.t 56), none⟩]
def m71_r15 : List MI := [
  ⟨(some 2), .move (.k (.sc (.int .i32 65533))), none⟩,
  ⟨(some 3), .move (.k (.sc (.int .i64 1))), none⟩]
def m71_r16 : List MI := [
  ⟨(some 58), .move (.t 8), none⟩,
  ⟨(some 59), .bin .leq .no (.t 58) (.k (.sc (.int .i64 2))), none⟩]
def m71_r17 : List MI := [
  ⟨(some 60), .move (.t 5), none⟩,
  ⟨(some 61), .bin .and .no (.t 60) (.k (.sc (.int .u8 31))), none⟩,
  ⟨(some 62), .conv (.int .i32) (.t 61), none⟩,
  ⟨(some 63), .bin .shl .no (.t 62) (.k (.sc (.int .u64 6))), none⟩,
  ⟨(some 64), .move (.t 10), none⟩,
  ⟨(some 65), .bin .and .no (.t 64) (.k (.sc (.int .u8 63))), none⟩,
  ⟨(some 66), .conv (.int .i32) (.t 65), none⟩,
  ⟨(some 67), .bin .or .no (.t 63) (.t 66), none⟩,
  ⟨(some 2), .move (.t 67), none⟩,
  ⟨(some 3), .move (.k (.sc (.int .i64 2))), none⟩]
def m71_r18 : List MI := [
  ⟨(some 68), .move (.t 0), none⟩,
  ⟨(some 69), .idxStr (.t 68) (.k (.sc (.int .i64 2))), none⟩,
  ⟨(some 11), .move (.t 69), none⟩]
def m71_r19 : List MI := [
  ⟨(some 70), .move (.t 11), none⟩,
  ⟨(some 71), .bin .lss .no (.t 70) (.k (.sc (.int .u8 128))), none⟩,
  ⟨(some 72), .move (.t 71), none⟩,
  ⟨(some 73), .move (.t 11), (some (72, false))⟩,
  ⟨(some 74), .bin .lss .no (.k (.sc (.int .u8 191))) (.t 73), (some (72, false))⟩,
  ⟨(some 75), .pick (.t 72) (.k (.sc (.bool true))) (.t 74), none⟩]
def m71_r20 : List MI := [
  ⟨(some 2), .move (.k (.sc (.int .i32 65533))), none⟩,
  ⟨(some 3), .move (.k (.sc (.int .i64 1))), none⟩]
def m71_r21 : List MI := [
  ⟨(some 76), .move (.t 8), none⟩,
  ⟨(some 77), .bin .leq .no (.t 76) (.k (.sc (.int .i64 3))), none⟩]
def m71_r22 : List MI := [
  ⟨(some 78), .move (.t 5), none⟩,
  ⟨(some 79), .bin .and .no (.t 78) (.k (.sc (.int .u8 15))), none⟩,
  ⟨(some 80), .conv (.int .i32) (.t 79), none⟩,
  ⟨(some 81), .bin .shl .no (.t 80) (.k (.sc (.int .u64 12))), none⟩,
  ⟨(some 82), .move (.t 10), none⟩,
  ⟨(some 83), .bin .and .no (.t 82) (.k (.sc (.int .u8 63))), none⟩,
  ⟨(some 84), .conv (.int .i32) (.t 83), none⟩,
  ⟨(some 85), .bin .shl .no (.t 84) (.k (.sc (.int .u64 6))), none⟩,
  ⟨(some 86), .bin .or .no (.t 81) (.t 85), none⟩,
  ⟨(some 87), .move (.t 11), none⟩,
  ⟨(some 88), .bin .and .no (.t 87) (.k (.sc (.int .u8 63))), none⟩,
  ⟨(some 89), .conv (.int .i32) (.t 88), none⟩,
  ⟨(some 90), .bin .or .no (.t 86) (.t 89), none⟩,
  ⟨(some 2), .move (.t 90), none⟩,
  ⟨(some 3), .move (.k (.sc (.int .i64 3))), none⟩]
def m71_r23 : List MI := [
  ⟨(some 91), .move (.t 0), none⟩,
  ⟨(some 92), .idxStr (.t 91) (.k (.sc (.int .i64 3))), none⟩,
  ⟨(some 12), .move (.t 92), none⟩]
def m71_r24 : List MI := [
  ⟨(some 93), .move (.t 12), none⟩,
  ⟨(some 94), .bin .lss .no (.t 93) (.k (.sc (.int .u8 128))), none⟩,
  ⟨(some 95), .move (.t 94), none⟩,
  ⟨(some 96), .move (.t 12), (some (95, false))⟩,
  ⟨(some 97), .bin .lss .no (.k (.sc (.int .u8 191))) (.t 96), (some (95, false))⟩,
  ⟨(some 98), .pick (.t 95) (.k (.sc (.bool true))) (.t 97), none⟩]
def m71_r25 : List MI := [
  ⟨(some 2), .move (.k (.sc (.int .i32 65533))), none⟩,
  ⟨(some 3), .move (.k (.sc (.int .i64 1))), none⟩]
def m71_r26 : List MI := [
  ⟨(some 99), .move (.t 5), none⟩,
  ⟨(some 100), .bin .and .no (.t 99) (.k (.sc (.int .u8 7))), none⟩,
  ⟨(some 101), .conv (.int .i32) (.t 100), none⟩,
  ⟨(some 102), .bin .shl .no (.t 101) (.k (.sc (.int .u64 18))), none⟩,
  ⟨(some 103), .move (.t 10), none⟩,
  ⟨(some 104), .bin .and .no (.t 103) (.k (.sc (.int .u8 63))), none⟩,
  ⟨(some 105), .conv (.int .i32) (.t 104), none⟩,
  ⟨(some 106), .bin .shl .no (.t 105) (.k (.sc (.int .u64 12))), none⟩,
  ⟨(some 107), .bin .or .no (.t 102) (.t 106), none⟩,
  ⟨(some 108), .move (.t 11), none⟩,
  ⟨(some 109), .bin .and .no (.t 108) (.k (.sc (.int .u8 63))), none⟩,
  ⟨(some 110), .conv (.int .i32) (.t 109), none⟩,
  ⟨(some 111), .bin .shl .no (.t 110) (.k (.sc (.int .u64 6))), none⟩,
  ⟨(some 112), .bin .or .no (.t 107) (.t 111), none⟩,
  ⟨(some 113), .move (.t 12), none⟩,
  ⟨(some 114), .bin .and .no (.t 113) (.k (.sc (.int .u8 63))), none⟩,
  ⟨(some 115), .conv (.int .i32) (.t 114), none⟩,
  ⟨(some 116), .bin .or .no (.t 112) (.t 115), none⟩,
  ⟨(some 2), .move (.t 116), none⟩,
  ⟨(some 3), .move (.k (.sc (.int .i64 4))), none⟩]
def m71_code : MCode := (.seq (.ops m71_r0) (.seq (.ops m71_r1) (.seq (.seq (.ops m71_r2) (.cond (.t 16) (.seq (.ops m71_r3) .ret) .skip)) (.seq (.ops m71_r4) (.seq (.ops m71_r5) (.seq (.seq (.ops m71_r6) (.cond (.t 23) (.seq (.ops m71_r7) (.seq (.ops m71_r8) .ret)) .skip)) (.seq (.ops m71_r9) (.seq (.ops m71_r10) (.seq (.seq (.ops m71_r11) (.cond (.t 45) (.seq (.ops m71_r12) .ret) .skip)) (.seq (.ops m71_r13) (.seq (.seq (.ops m71_r14) (.cond (.t 57) (.seq (.ops m71_r15) .ret) .skip)) (.seq (.seq (.ops m71_r16) (.cond (.t 59) (.seq (.ops m71_r17) .ret) .skip)) (.seq (.ops m71_r18) (.seq (.seq (.ops m71_r19) (.cond (.t 75) (.seq (.ops m71_r20) .ret) .skip)) (.seq (.seq (.ops m71_r21) (.cond (.t 77) (.seq (.ops m71_r22) .ret) .skip)) (.seq (.ops m71_r23) (.seq (.seq (.ops m71_r24) (.cond (.t 98) (.seq (.ops m71_r25) .ret) .skip)) (.seq (.ops m71_r26) .ret))))))))))))))))))
def m71 : MFunc := ⟨117, [.tmp 2, .tmp 3], m71_code⟩

def m72_r0 : List MI := [
  ⟨(some 4), .move (.k (.sc (.int .i64 0))), none⟩]
def m72_r1 : List MI := [
  ⟨(some 5), .move (.t 0), none⟩,
  ⟨(some 6), .move (.t 1), none⟩,
  ⟨(some 7), .call 76 [(.t 5), (.t 6)], none⟩,
  ⟨(some 4), .move (.t 7), none⟩]
def m72_code : MCode := (.seq (.ops m72_r0) (.seq (.ops m72_r1) .ret))
def m72 : MFunc := ⟨8, [.tmp 4], m72_code⟩

def m73_r0 : List MI := [
  ⟨(some 2), .move (.k (.sc (.bool false))), none⟩]
def m73_r1 : List MI := [
  ⟨(some 4), .move (.t 0), none⟩,
  ⟨(some 5), .bin .leq .no (.k (.sc (.int .i32 0))) (.t 4), none⟩,
  ⟨(some 6), .move (.t 5), none⟩,
  ⟨(some 7), .move (.t 0), (some (6, true))⟩,
  ⟨(some 8), .bin .lss .no (.t 7) (.k (.sc (.int .i32 55296))), (some (6, true))⟩,
  ⟨(some 9), .pick (.t 6) (.t 8) (.k (.sc (.bool false))), none⟩,
  ⟨(some 3), .move (.t 9), none⟩]
def m73_r2 : List MI := [
  ⟨(some 2), .move (.k (.sc (.bool true))), none⟩]
def m73_r3 : List MI := [
  ⟨(some 11), .move (.t 0), none⟩,
  ⟨(some 12), .bin .lss .no (.k (.sc (.int .i32 57343))) (.t 11), none⟩,
  ⟨(some 13), .move (.t 12), none⟩,
  ⟨(some 14), .move (.t 0), (some (13, true))⟩,
  ⟨(some 15), .bin .leq .no (.t 14) (.k (.sc (.int .i32 1114111))), (some (13, true))⟩,
  ⟨(some 16), .pick (.t 13) (.t 15) (.k (.sc (.bool false))), none⟩,
  ⟨(some 10), .move (.t 16), none⟩]
def m73_r4 : List MI := [
  ⟨(some 2), .move (.k (.sc (.bool true))), none⟩]
def m73_r5 : List MI := [
  ⟨(some 2), .move (.k (.sc (.bool false))), none⟩]
def m73_code : MCode := (.seq (.ops m73_r0) (.seq (.block 0 (.seq (.ops m73_r1) (.cond (.t 3) (.seq (.ops m73_r2) .ret) (.seq (.ops m73_r3) (.cond (.t 10) (.seq (.ops m73_r4) .ret) .skip))))) (.seq (.ops m73_r5) .ret)))
def m73 : MFunc := ⟨17, [.tmp 2], m73_code⟩

def m76_r0 : List MI := [
  ⟨(some 4), .move (.k (.sc (.int .i64 0))), none⟩]
def m76_r1 : List MI := [
  ⟨(some 5), .move (.t 0), none⟩,
  ⟨(some 6), .move (.t 1), none⟩,
  ⟨(some 7), .indexByte (.t 5) (.t 6), none⟩,
  ⟨(some 4), .move (.t 7), none⟩]
def m76_code : MCode := (.seq (.ops m76_r0) (.seq (.ops m76_r1) .ret))
def m76 : MFunc := ⟨8, [.tmp 4], m76_code⟩

def DD0 : Nat → Option MFunc := fun f => match f with
  | 3 => some m3
  | 4 => some m4
  | 5 => some m5
  | 6 => some m6
  | 7 => some m7
  | 8 => some m8
  | 9 => some m9
  | 10 => some m10
  | 11 => some m11
  | 12 => some m12
  | 13 => some m13
  | 14 => some m14
  | 15 => some m15
  | 16 => some m16
  | 17 => some m17
  | 18 => some m18
  | 19 => some m19
  | 20 => some m20
  | 21 => some m21
  | 22 => some m22
  | 23 => some m23
  | 24 => some m24
  | 25 => some m25
  | 26 => some m26
  | 27 => some m27
  | 28 => some m28
  | 29 => some m29
  | 30 => some m30
  | 31 => some m31
  | 32 => some m32
  | 33 => some m33
  | 34 => some m34
  | 35 => some m35
  | 36 => some m36
  | 37 => some m37
  | 38 => some m38
  | 39 => some m39
  | 40 => some m40
  | 41 => some m41
  | 42 => some m42
  | 43 => some m43
  | 44 => some m44
  | 45 => some m45
  | 46 => some m46
  | 47 => some m47
  | 48 => some m48
  | 49 => some m49
  | 50 => some m50
  | 51 => some m51
  | 52 => some m52
  | 53 => some m53
  | 54 => some m54
  | 55 => some m55
  | 56 => some m56
  | 57 => some m57
  | 58 => some m58
  | 60 => some m60
  | 61 => some m61
  | 62 => some m62
  | 63 => some m63
  | 64 => some m64
  | 65 => some m65
  | 66 => some m66
  | 67 => some m67
  | 68 => some m68
  | 69 => some m69
  | 70 => some m70
  | 71 => some m71
  | 72 => some m72
  | 73 => some m73
  | 76 => some m76
  | _ => none
def DD : Nat → Option MFunc := withKnown [10] DD0
theorem c3 : mfun Tryd.prog jxX 3 = some m3 := by kernel_rfl
theorem c4 : mfun Tryd.prog jxX 4 = some m4 := by kernel_rfl
theorem c5 : mfun Tryd.prog jxX 5 = some m5 := by kernel_rfl
theorem c6 : mfun Tryd.prog jxX 6 = some m6 := by kernel_rfl
theorem c7 : mfun Tryd.prog jxX 7 = some m7 := by kernel_rfl
theorem c8 : mfun Tryd.prog jxX 8 = some m8 := by kernel_rfl
theorem c9 : mfun Tryd.prog jxX 9 = some m9 := by kernel_rfl
theorem c10 : mfun Tryd.prog jxX 10 = some m10 := by kernel_rfl
theorem c11 : mfun Tryd.prog jxX 11 = some m11 := by kernel_rfl
theorem c12 : mfun Tryd.prog jxX 12 = some m12 := by kernel_rfl
theorem c13 : mfun Tryd.prog jxX 13 = some m13 := by kernel_rfl
theorem c14 : mfun Tryd.prog jxX 14 = some m14 := by kernel_rfl
theorem c15 : mfun Tryd.prog jxX 15 = some m15 := by kernel_rfl
theorem c16 : mfun Tryd.prog jxX 16 = some m16 := by kernel_rfl
theorem c17 : mfun Tryd.prog jxX 17 = some m17 := by kernel_rfl
theorem c18 : mfun Tryd.prog jxX 18 = some m18 := by kernel_rfl
theorem c19 : mfun Tryd.prog jxX 19 = some m19 := by kernel_rfl
theorem c20 : mfun Tryd.prog jxX 20 = some m20 := by kernel_rfl
theorem c21 : mfun Tryd.prog jxX 21 = some m21 := by kernel_rfl
theorem c22 : mfun Tryd.prog jxX 22 = some m22 := by kernel_rfl
theorem c23 : mfun Tryd.prog jxX 23 = some m23 := by kernel_rfl
theorem c24 : mfun Tryd.prog jxX 24 = some m24 := by kernel_rfl
theorem c25 : mfun Tryd.prog jxX 25 = some m25 := by kernel_rfl
theorem c26 : mfun Tryd.prog jxX 26 = some m26 := by kernel_rfl
theorem c27 : mfun Tryd.prog jxX 27 = some m27 := by kernel_rfl
theorem c28 : mfun Tryd.prog jxX 28 = some m28 := by kernel_rfl
theorem c29 : mfun Tryd.prog jxX 29 = some m29 := by kernel_rfl
theorem c30 : mfun Tryd.prog jxX 30 = some m30 := by kernel_rfl
theorem c31 : mfun Tryd.prog jxX 31 = some m31 := by kernel_rfl
theorem c32 : mfun Tryd.prog jxX 32 = some m32 := by kernel_rfl
theorem c33 : mfun Tryd.prog jxX 33 = some m33 := by kernel_rfl
theorem c34 : mfun Tryd.prog jxX 34 = some m34 := by kernel_rfl
theorem c35 : mfun Tryd.prog jxX 35 = some m35 := by kernel_rfl
theorem c36 : mfun Tryd.prog jxX 36 = some m36 := by kernel_rfl
theorem c37 : mfun Tryd.prog jxX 37 = some m37 := by kernel_rfl
theorem c38 : mfun Tryd.prog jxX 38 = some m38 := by kernel_rfl
theorem c39 : mfun Tryd.prog jxX 39 = some m39 := by kernel_rfl
theorem c40 : mfun Tryd.prog jxX 40 = some m40 := by kernel_rfl
theorem c41 : mfun Tryd.prog jxX 41 = some m41 := by kernel_rfl
theorem c42 : mfun Tryd.prog jxX 42 = some m42 := by kernel_rfl
theorem c43 : mfun Tryd.prog jxX 43 = some m43 := by kernel_rfl
theorem c44 : mfun Tryd.prog jxX 44 = some m44 := by kernel_rfl
theorem c45 : mfun Tryd.prog jxX 45 = some m45 := by kernel_rfl
theorem c46 : mfun Tryd.prog jxX 46 = some m46 := by kernel_rfl
theorem c47 : mfun Tryd.prog jxX 47 = some m47 := by kernel_rfl
theorem c48 : mfun Tryd.prog jxX 48 = some m48 := by kernel_rfl
theorem c49 : mfun Tryd.prog jxX 49 = some m49 := by kernel_rfl
theorem c50 : mfun Tryd.prog jxX 50 = some m50 := by kernel_rfl
theorem c51 : mfun Tryd.prog jxX 51 = some m51 := by kernel_rfl
theorem c52 : mfun Tryd.prog jxX 52 = some m52 := by kernel_rfl
theorem c53 : mfun Tryd.prog jxX 53 = some m53 := by kernel_rfl
theorem c54 : mfun Tryd.prog jxX 54 = some m54 := by kernel_rfl
theorem c55 : mfun Tryd.prog jxX 55 = some m55 := by kernel_rfl
theorem c56 : mfun Tryd.prog jxX 56 = some m56 := by kernel_rfl
theorem c57 : mfun Tryd.prog jxX 57 = some m57 := by kernel_rfl
theorem c58 : mfun Tryd.prog jxX 58 = some m58 := by kernel_rfl
theorem c60 : mfun Tryd.prog jxX 60 = some m60 := by kernel_rfl
theorem c61 : mfun Tryd.prog jxX 61 = some m61 := by kernel_rfl
theorem c62 : mfun Tryd.prog jxX 62 = some m62 := by kernel_rfl
theorem c63 : mfun Tryd.prog jxX 63 = some m63 := by kernel_rfl
theorem c64 : mfun Tryd.prog jxX 64 = some m64 := by kernel_rfl
theorem c65 : mfun Tryd.prog jxX 65 = some m65 := by kernel_rfl
theorem c66 : mfun Tryd.prog jxX 66 = some m66 := by kernel_rfl
theorem c67 : mfun Tryd.prog jxX 67 = some m67 := by kernel_rfl
theorem c68 : mfun Tryd.prog jxX 68 = some m68 := by kernel_rfl
theorem c69 : mfun Tryd.prog jxX 69 = some m69 := by kernel_rfl
theorem c70 : mfun Tryd.prog jxX 70 = some m70 := by kernel_rfl
theorem c71 : mfun Tryd.prog jxX 71 = some m71 := by kernel_rfl
theorem c72 : mfun Tryd.prog jxX 72 = some m72 := by kernel_rfl
theorem c73 : mfun Tryd.prog jxX 73 = some m73 := by kernel_rfl
theorem c76 : mfun Tryd.prog jxX 76 = some m76 := by kernel_rfl
theorem d3 : DD 3 = some m3 := rfl
theorem d4 : DD 4 = some m4 := rfl
theorem d5 : DD 5 = some m5 := rfl
theorem d6 : DD 6 = some m6 := rfl
theorem d7 : DD 7 = some m7 := rfl
theorem d8 : DD 8 = some m8 := rfl
theorem d9 : DD 9 = some m9 := rfl
theorem d10 : DD 10 = some knownM := rfl
theorem d11 : DD 11 = some m11 := rfl
theorem d12 : DD 12 = some m12 := rfl
theorem d13 : DD 13 = some m13 := rfl
theorem d14 : DD 14 = some m14 := rfl
theorem d15 : DD 15 = some m15 := rfl
theorem d16 : DD 16 = some m16 := rfl
theorem d17 : DD 17 = some m17 := rfl
theorem d18 : DD 18 = some m18 := rfl
theorem d19 : DD 19 = some m19 := rfl
theorem d20 : DD 20 = some m20 := rfl
theorem d21 : DD 21 = some m21 := rfl
theorem d22 : DD 22 = some m22 := rfl
theorem d23 : DD 23 = some m23 := rfl
theorem d24 : DD 24 = some m24 := rfl
theorem d25 : DD 25 = some m25 := rfl
theorem d26 : DD 26 = some m26 := rfl
theorem d27 : DD 27 = some m27 := rfl
theorem d28 : DD 28 = some m28 := rfl
theorem d29 : DD 29 = some m29 := rfl
theorem d30 : DD 30 = some m30 := rfl
theorem d31 : DD 31 = some m31 := rfl
theorem d32 : DD 32 = some m32 := rfl
theorem d33 : DD 33 = some m33 := rfl
theorem d34 : DD 34 = some m34 := rfl
theorem d35 : DD 35 = some m35 := rfl
theorem d36 : DD 36 = some m36 := rfl
theorem d37 : DD 37 = some m37 := rfl
theorem d38 : DD 38 = some m38 := rfl
theorem d39 : DD 39 = some m39 := rfl
theorem d40 : DD 40 = some m40 := rfl
theorem d41 : DD 41 = some m41 := rfl
theorem d42 : DD 42 = some m42 := rfl
theorem d43 : DD 43 = some m43 := rfl
theorem d44 : DD 44 = some m44 := rfl
theorem d45 : DD 45 = some m45 := rfl
theorem d46 : DD 46 = some m46 := rfl
theorem d47 : DD 47 = some m47 := rfl
theorem d48 : DD 48 = some m48 := rfl
theorem d49 : DD 49 = some m49 := rfl
theorem d50 : DD 50 = some m50 := rfl
theorem d51 : DD 51 = some m51 := rfl
theorem d52 : DD 52 = some m52 := rfl
theorem d53 : DD 53 = some m53 := rfl
theorem d54 : DD 54 = some m54 := rfl
theorem d55 : DD 55 = some m55 := rfl
theorem d56 : DD 56 = some m56 := rfl
theorem d57 : DD 57 = some m57 := rfl
theorem d58 : DD 58 = some m58 := rfl
theorem d60 : DD 60 = some m60 := rfl
theorem d61 : DD 61 = some m61 := rfl
theorem d62 : DD 62 = some m62 := rfl
theorem d63 : DD 63 = some m63 := rfl
theorem d64 : DD 64 = some m64 := rfl
theorem d65 : DD 65 = some m65 := rfl
theorem d66 : DD 66 = some m66 := rfl
theorem d67 : DD 67 = some m67 := rfl
theorem d68 : DD 68 = some m68 := rfl
theorem d69 : DD 69 = some m69 := rfl
theorem d70 : DD 70 = some m70 := rfl
theorem d71 : DD 71 = some m71 := rfl
theorem d72 : DD 72 = some m72 := rfl
theorem d73 : DD 73 = some m73 := rfl
theorem d76 : DD 76 = some m76 := rfl
theorem DD0_ok (w : World) : FunOk Tryd.prog w jxX DD0 := by
  intro f m h
  refine mfun_ok _ w _ f m ?_
  unfold DD0 at h
  split at h
  · cases h; exact c3
  · cases h; exact c4
  · cases h; exact c5
  · cases h; exact c6
  · cases h; exact c7
  · cases h; exact c8
  · cases h; exact c9
  · cases h; exact c10
  · cases h; exact c11
  · cases h; exact c12
  · cases h; exact c13
  · cases h; exact c14
  · cases h; exact c15
  · cases h; exact c16
  · cases h; exact c17
  · cases h; exact c18
  · cases h; exact c19
  · cases h; exact c20
  · cases h; exact c21
  · cases h; exact c22
  · cases h; exact c23
  · cases h; exact c24
  · cases h; exact c25
  · cases h; exact c26
  · cases h; exact c27
  · cases h; exact c28
  · cases h; exact c29
  · cases h; exact c30
  · cases h; exact c31
  · cases h; exact c32
  · cases h; exact c33
  · cases h; exact c34
  · cases h; exact c35
  · cases h; exact c36
  · cases h; exact c37
  · cases h; exact c38
  · cases h; exact c39
  · cases h; exact c40
  · cases h; exact c41
  · cases h; exact c42
  · cases h; exact c43
  · cases h; exact c44
  · cases h; exact c45
  · cases h; exact c46
  · cases h; exact c47
  · cases h; exact c48
  · cases h; exact c49
  · cases h; exact c50
  · cases h; exact c51
  · cases h; exact c52
  · cases h; exact c53
  · cases h; exact c54
  · cases h; exact c55
  · cases h; exact c56
  · cases h; exact c57
  · cases h; exact c58
  · cases h; exact c60
  · cases h; exact c61
  · cases h; exact c62
  · cases h; exact c63
  · cases h; exact c64
  · cases h; exact c65
  · cases h; exact c66
  · cases h; exact c67
  · cases h; exact c68
  · cases h; exact c69
  · cases h; exact c70
  · cases h; exact c71
  · cases h; exact c72
  · cases h; exact c73
  · cases h; exact c76
  · cases h
end Go.Proofs.YtbkhjpclnfljbaaDoor
