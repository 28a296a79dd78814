/- The plain machine's functions of this seat, as a program of mine printed them (Prt.lean), and that they are what compiling gives. -/
import Derived.Test.YtjadhoelknmnkaaJxKRun
import Derived.Test.YtjadhoelknmnkaaJxW3
import Derived.Test.YtjadhoelknmnkaaChecked
namespace Go.Proofs.Ytjadhoelknmnkaa
open Go Go.Jx
def jxX : Exts := exts [9,9,0,0,0,0,0,0,0,0,0,0,0,0,0,0,0,0,0,0,0,0,0,0,0,0,0,0,0,0,0,0,0,0,0,0,0,0,0]
def m3_r0 : List MI := [
  ⟨(some 8), .box 5 (.t 2), none⟩,
  ⟨(some 9), .box 5 (.t 3), none⟩,
  ⟨(some 10), .box 5 (.t 4), none⟩,
  ⟨(some 12), .move (.k (.sc (.bool false))), none⟩]
def m3_r1 : List MI := [
  ⟨(some 23), .move (.t 0), none⟩,
  ⟨(some 24), .bin .lss .no (.t 23) (.k (.sc (.int .i64 0))), none⟩,
  ⟨(some 25), .move (.t 24), none⟩,
  ⟨(some 26), .move (.t 0), (some (25, false))⟩,
  ⟨(some 27), .bin .gtr .no (.t 26) (.k (.sc (.int .i64 500))), (some (25, false))⟩,
  ⟨(some 28), .pick (.t 25) (.k (.sc (.bool true))) (.t 27), none⟩,
  ⟨(some 29), .move (.t 28), none⟩,
  ⟨(some 30), .move (.t 1), (some (29, false))⟩,
  ⟨(some 31), .lenSlice (.t 30), (some (29, false))⟩,
  ⟨(some 32), .bin .gtr .no (.t 31) (.k (.sc (.int .i64 60))), (some (29, false))⟩,
  ⟨(some 33), .pick (.t 29) (.k (.sc (.bool true))) (.t 32), none⟩]
def m3_r2 : List MI := [
  ⟨(some 34), .call 8 [], none⟩,
  ⟨(some 12), .move (.t 34), none⟩]
def m3_r3 : List MI := [
  ⟨(some 36), .move (.t 0), none⟩,
  ⟨(some 37), .call 9 [(.t 36)], none⟩,
  ⟨(some 35), .move (.t 37), none⟩,
  ⟨(some 38), .extract (.t 35) 0, none⟩,
  ⟨(some 39), .extract (.t 35) 1, none⟩,
  ⟨(some 13), .alloc 24 [.nilp], none⟩,
  ⟨none, .store 1 (.t 13) (.t 38), none⟩,
  ⟨(some 14), .move (.t 39), none⟩]
def m3_r4 : List MI := [
  ⟨(some 40), .move (.t 14), none⟩,
  ⟨(some 41), .bin .neq .no (.t 40) (.k (.sc (.int .i64 0))), none⟩,
  ⟨(some 42), .move (.t 41), none⟩,
  ⟨(some 43), .load none (.t 13), (some (42, false))⟩,
  ⟨(some 44), .bin .eql .ptr (.t 43) (.k (.sc (.nilp))), (some (42, false))⟩,
  ⟨(some 45), .pick (.t 42) (.k (.sc (.bool true))) (.t 44), none⟩]
def m3_r5 : List MI := [
  ⟨(some 12), .move (.k (.sc (.bool false))), none⟩]
def m3_r6 : List MI := [
  ⟨(some 15), .move (.k (.sc (.int .i64 0))), none⟩]
def m3_r8 : List MI := [
  ⟨(some 46), .move (.t 15), none⟩,
  ⟨(some 47), .move (.t 1), none⟩,
  ⟨(some 48), .lenSlice (.t 47), none⟩,
  ⟨(some 49), .bin .lss .no (.t 46) (.t 48), none⟩]
def m3_r9 : List DI := [
  ⟨⟨(some 52), .load none (.t 13), none⟩, 1, [], []⟩,
  ⟨⟨(some 53), .move (.t 1), none⟩, 0, [], []⟩,
  ⟨⟨(some 54), .move (.t 15), none⟩, 0, [], []⟩,
  ⟨⟨(some 55), .indexSlice 1 (.t 53) (.t 54), none⟩, 0, [], []⟩,
  ⟨⟨(some 56), .load none (.t 55), none⟩, 1, [], []⟩,
  ⟨⟨(some 57), .call 10 [(.t 52), (.t 56)], none⟩, 2, [], []⟩]
def m3_r10 : List MI := [
  ⟨(some 50), .move (.t 15), none⟩,
  ⟨(some 51), .bin .add .no (.t 50) (.k (.sc (.int .i64 1))), none⟩,
  ⟨(some 15), .move (.t 51), none⟩]
def m3_l7 : MCode := (.seq (.seq (.ops m3_r8) (.cond (.t 49) .skip (.exit 0))) (.seq (.block 1 (.draw m3_r9)) (.ops m3_r10)))
def m3_r11 : List MI := [
  ⟨(some 58), .load none (.t 13), none⟩,
  ⟨(some 59), .call 11 [(.t 58), (.k (.sc (.int .i64 1000)))], none⟩,
  ⟨(some 16), .move (.t 59), none⟩]
def m3_r12 : List MI := [
  ⟨(some 60), .move (.t 5), none⟩,
  ⟨(some 61), .bin .rem .no (.t 60) (.k (.sc (.int .u8 70))), none⟩,
  ⟨(some 62), .conv (.int .i64) (.t 61), none⟩,
  ⟨(some 63), .bin .add .no (.k (.sc (.int .i64 1))) (.t 62), none⟩,
  ⟨(some 17), .alloc 3 [.int .i64 0], none⟩,
  ⟨none, .store 1 (.t 17) (.t 63), none⟩]
def m3_r13 : List MI := [
  ⟨(some 18), .alloc 22 [.nils], none⟩]
def m3_r14 : List MI := [
  ⟨(some 64), .load none (.t 13), none⟩,
  ⟨(some 65), .call 12 [(.t 64)], none⟩,
  ⟨(some 66), .bin .eql .func (.t 65) (.k (.sc (.nilf))), none⟩]
def m3_r15 : List MI := [
  ⟨(some 12), .move (.k (.sc (.bool false))), none⟩]
def m3_r16 : List MI := [
  ⟨(some 67), .load none (.t 13), none⟩,
  ⟨(some 68), .call 12 [(.t 67)], none⟩]
def m3_r19 : List MI := [
  ⟨(some 19), .move (.t 69), none⟩]
def m3_r20 : List MI := [
  ⟨(some 20), .move (.t 70), none⟩]
def m3_r21 : List MI := [
  ⟨(some 71), .move (.t 19), none⟩,
  ⟨(some 72), .load none (.t 8), none⟩,
  ⟨(some 73), .bin .rem .no (.t 72) (.k (.sc (.int .u8 50))), none⟩,
  ⟨(some 74), .conv (.int .i64) (.t 73), none⟩,
  ⟨(some 75), .bin .eql .no (.t 71) (.t 74), none⟩]
def m3_r22 : List MI := [
  ⟨(some 21), .move (.k (.sc (.int .i64 0))), none⟩]
def m3_r24 : List MI := [
  ⟨(some 76), .move (.t 21), none⟩,
  ⟨(some 77), .load none (.t 9), none⟩,
  ⟨(some 78), .bin .rem .no (.t 77) (.k (.sc (.int .u8 30))), none⟩,
  ⟨(some 79), .conv (.int .i64) (.t 78), none⟩,
  ⟨(some 80), .bin .lss .no (.t 76) (.t 79), none⟩]
def m3_r25 : List MI := [
  ⟨(some 83), .load none (.t 13), none⟩,
  ⟨(some 84), .move (.t 21), none⟩,
  ⟨(some 85), .un .neg (.t 84), none⟩,
  ⟨(some 86), .call 10 [(.t 83), (.t 85)], none⟩]
def m3_r26 : List MI := [
  ⟨(some 81), .move (.t 21), none⟩,
  ⟨(some 82), .bin .add .no (.t 81) (.k (.sc (.int .i64 1))), none⟩,
  ⟨(some 21), .move (.t 82), none⟩]
def m3_l23 : MCode := (.seq (.seq (.ops m3_r24) (.cond (.t 80) .skip (.exit 4))) (.seq (.block 5 (.ops m3_r25)) (.ops m3_r26)))
def m3_r27 : List MI := [
  ⟨(some 22), .move (.k (.sc (.int .i64 0))), none⟩]
def m3_r29 : List MI := [
  ⟨(some 87), .move (.t 22), none⟩,
  ⟨(some 88), .load none (.t 10), none⟩,
  ⟨(some 89), .bin .rem .no (.t 88) (.k (.sc (.int .u8 30))), none⟩,
  ⟨(some 90), .conv (.int .i64) (.t 89), none⟩,
  ⟨(some 91), .bin .lss .no (.t 87) (.t 90), none⟩]
def m3_r30 : List MI := [
  ⟨(some 94), .load none (.t 13), none⟩,
  ⟨(some 95), .call 13 [(.t 94)], none⟩]
def m3_r31 : List MI := [
  ⟨(some 92), .move (.t 22), none⟩,
  ⟨(some 93), .bin .add .no (.t 92) (.k (.sc (.int .i64 1))), none⟩,
  ⟨(some 22), .move (.t 93), none⟩]
def m3_l28 : MCode := (.seq (.seq (.ops m3_r29) (.cond (.t 91) .skip (.exit 6))) (.seq (.block 7 (.ops m3_r30)) (.ops m3_r31)))
def m3_r32 : List MI := [
  ⟨(some 96), .load none (.t 18), none⟩,
  ⟨(some 97), .move (.t 20), none⟩,
  ⟨(some 98), .buildSlice 3 1 1 [.int .i64 0] [(0, 1, (.t 97))], none⟩,
  ⟨(some 99), .append 3 1 8 [.int .i64 0] (.t 96) (.t 98), none⟩,
  ⟨none, .store 1 (.t 18) (.t 99), none⟩]
def m3_r33 : List MI := [
  ⟨(some 100), .load none (.t 18), none⟩,
  ⟨(some 101), .lenSlice (.t 100), none⟩,
  ⟨(some 102), .load none (.t 17), none⟩,
  ⟨(some 103), .bin .eql .no (.t 101) (.t 102), none⟩]
def m3_l17 : MCode := (.seq (.ops m3_r19) (.ops m3_r20))
def m3_l18 : MCode := (.block 3 (.seq (.seq (.ops m3_r21) (.cond (.t 75) (.seq (.seq (.ops m3_r22) (.block 4 (.loop m3_l23))) (.seq (.ops m3_r27) (.block 6 (.loop m3_l28)))) .skip)) (.seq (.ops m3_r32) (.seq (.ops m3_r33) (.cond (.t 103) (.exit 2) .skip)))))
def m3_r34 : List MI := [
  ⟨(some 104), .move (.t 16), none⟩,
  ⟨(some 105), .lenSlice (.t 104), none⟩,
  ⟨(some 106), .load none (.t 17), none⟩,
  ⟨(some 107), .bin .gtr .no (.t 105) (.t 106), none⟩]
def m3_r35 : List MI := [
  ⟨(some 108), .move (.t 16), none⟩,
  ⟨(some 109), .load none (.t 17), none⟩,
  ⟨(some 110), .slice 1 (.t 108) none (some (.t 109)), none⟩,
  ⟨(some 16), .move (.t 110), none⟩]
def m3_r36 : List MI := [
  ⟨(some 111), .load none (.t 18), none⟩,
  ⟨(some 112), .move (.t 16), none⟩,
  ⟨(some 113), .call 14 [(.t 111), (.t 112)], none⟩,
  ⟨(some 114), .move (.t 113), none⟩,
  ⟨(some 115), .call 8 [], (some (114, true))⟩,
  ⟨(some 116), .pick (.t 114) (.t 115) (.k (.sc (.bool false))), none⟩,
  ⟨(some 12), .move (.t 116), none⟩]
def m3_code : MCode := (.marked (.seq (.ops m3_r0) (.seq (.seq (.ops m3_r1) (.cond (.t 33) (.seq (.ops m3_r2) .ret) .skip)) (.seq (.ops m3_r3) (.seq (.seq (.ops m3_r4) (.cond (.t 45) (.seq (.ops m3_r5) .ret) .skip)) (.seq (.seq (.ops m3_r6) (.block 0 (.loop m3_l7))) (.seq (.ops m3_r11) (.seq (.ops m3_r12) (.seq (.ops m3_r13) (.seq (.seq (.ops m3_r14) (.cond (.t 66) (.seq (.ops m3_r15) .ret) .skip)) (.seq (.seq (.ops m3_r16) (.block 2 (.rangeF (.t 68) [69, 70] m3_l17 m3_l18))) (.seq (.seq (.ops m3_r34) (.cond (.t 107) (.ops m3_r35) .skip)) (.seq (.ops m3_r36) .ret)))))))))))))
def m3 : MFunc := ⟨117, [.tmp 12], m3_code⟩

def m4_r0 : List MI := [
  ⟨(some 0), .move (.k (.sc (.bool false))), none⟩]
def m4_r1 : List MI := [
  ⟨(some 28), .call 15 [(.k (.sc (.int .i64 2)))], none⟩,
  ⟨(some 27), .move (.t 28), none⟩,
  ⟨(some 29), .extract (.t 27) 0, none⟩,
  ⟨(some 30), .extract (.t 27) 1, none⟩,
  ⟨(some 1), .move (.t 29), none⟩,
  ⟨(some 2), .move (.t 30), none⟩]
def m4_r2 : List MI := [
  ⟨(some 31), .move (.t 2), none⟩,
  ⟨(some 32), .bin .neq .no (.t 31) (.k (.sc (.int .i64 0))), none⟩,
  ⟨(some 33), .move (.t 32), none⟩,
  ⟨(some 34), .move (.t 1), (some (33, false))⟩,
  ⟨(some 35), .bin .eql .ptr (.t 34) (.k (.sc (.nilp))), (some (33, false))⟩,
  ⟨(some 36), .pick (.t 33) (.k (.sc (.bool true))) (.t 35), none⟩]
def m4_r3 : List MI := [
  ⟨(some 0), .move (.k (.sc (.bool false))), none⟩]
def m4_r4 : List MI := [
  ⟨(some 37), .move (.t 1), none⟩,
  ⟨(some 38), .call 16 [(.t 37), (.k (.sc (.str [97])))], none⟩,
  ⟨(some 39), .un .not (.t 38), none⟩,
  ⟨(some 40), .move (.t 39), none⟩,
  ⟨(some 41), .move (.t 1), (some (40, true))⟩,
  ⟨(some 42), .call 16 [(.t 41), (.k (.sc (.str [98])))], (some (40, true))⟩,
  ⟨(some 43), .un .not (.t 42), (some (40, true))⟩,
  ⟨(some 44), .pick (.t 40) (.t 43) (.k (.sc (.bool false))), none⟩,
  ⟨(some 45), .move (.t 44), none⟩,
  ⟨(some 46), .move (.t 1), (some (45, true))⟩,
  ⟨(some 47), .call 16 [(.t 46), (.k (.sc (.str [99])))], (some (45, true))⟩,
  ⟨(some 48), .pick (.t 45) (.t 47) (.k (.sc (.bool false))), none⟩,
  ⟨(some 49), .move (.t 48), none⟩,
  ⟨(some 50), .move (.t 1), (some (49, true))⟩,
  ⟨(some 51), .call 17 [(.t 50)], (some (49, true))⟩,
  ⟨(some 52), .bin .eql .no (.t 51) (.k (.sc (.int .i64 2))), (some (49, true))⟩,
  ⟨(some 53), .pick (.t 49) (.t 52) (.k (.sc (.bool false))), none⟩,
  ⟨(some 54), .move (.t 53), none⟩,
  ⟨(some 55), .move (.t 1), (some (54, true))⟩,
  ⟨(some 56), .call 18 [(.t 55)], (some (54, true))⟩,
  ⟨(some 57), .bin .eql .no (.t 56) (.k (.sc (.int .i64 1))), (some (54, true))⟩,
  ⟨(some 58), .pick (.t 54) (.t 57) (.k (.sc (.bool false))), none⟩,
  ⟨(some 3), .move (.t 58), none⟩]
def m4_r5 : List MI := [
  ⟨(some 60), .move (.t 1), none⟩,
  ⟨(some 61), .call 19 [(.t 60), (.k (.sc (.int .i64 0)))], none⟩,
  ⟨(some 59), .move (.t 61), none⟩,
  ⟨(some 62), .extract (.t 59) 0, none⟩,
  ⟨(some 63), .extract (.t 59) 1, none⟩,
  ⟨(some 4), .move (.t 62), none⟩,
  ⟨(some 5), .move (.t 63), none⟩]
def m4_r6 : List MI := [
  ⟨(some 65), .move (.t 1), none⟩,
  ⟨(some 66), .call 19 [(.t 65), (.k (.sc (.int .i64 2)))], none⟩,
  ⟨(some 64), .move (.t 66), none⟩,
  ⟨(some 67), .extract (.t 64) 0, none⟩,
  ⟨(some 68), .extract (.t 64) 1, none⟩,
  ⟨(some 6), .move (.t 67), none⟩,
  ⟨(some 7), .move (.t 68), none⟩]
def m4_r7 : List MI := [
  ⟨(some 70), .move (.t 1), none⟩,
  ⟨(some 71), .call 19 [(.t 70), (.k (.sc (.int .i64 (-1))))], none⟩,
  ⟨(some 69), .move (.t 71), none⟩,
  ⟨(some 72), .extract (.t 69) 0, none⟩,
  ⟨(some 73), .extract (.t 69) 1, none⟩,
  ⟨(some 8), .move (.t 72), none⟩,
  ⟨(some 9), .move (.t 73), none⟩]
def m4_r8 : List MI := [
  ⟨(some 74), .move (.t 1), none⟩,
  ⟨(some 75), .call 20 [(.t 74), (.k (.sc (.int .i64 1)))], none⟩,
  ⟨(some 10), .move (.t 75), none⟩]
def m4_r9 : List MI := [
  ⟨(some 76), .move (.t 4), none⟩,
  ⟨(some 77), .bin .eql .no (.t 76) (.k (.sc (.str [98]))), none⟩,
  ⟨(some 78), .move (.t 77), none⟩,
  ⟨(some 79), .move (.t 5), (some (78, true))⟩,
  ⟨(some 80), .pick (.t 78) (.t 79) (.k (.sc (.bool false))), none⟩,
  ⟨(some 81), .move (.t 80), none⟩,
  ⟨(some 82), .move (.t 7), (some (81, true))⟩,
  ⟨(some 83), .un .not (.t 82), (some (81, true))⟩,
  ⟨(some 84), .pick (.t 81) (.t 83) (.k (.sc (.bool false))), none⟩,
  ⟨(some 85), .move (.t 84), none⟩,
  ⟨(some 86), .move (.t 9), (some (85, true))⟩,
  ⟨(some 87), .un .not (.t 86), (some (85, true))⟩,
  ⟨(some 88), .pick (.t 85) (.t 87) (.k (.sc (.bool false))), none⟩,
  ⟨(some 89), .move (.t 88), none⟩,
  ⟨(some 90), .move (.t 10), (some (89, true))⟩,
  ⟨(some 91), .lenSlice (.t 90), (some (89, true))⟩,
  ⟨(some 92), .bin .eql .no (.t 91) (.k (.sc (.int .i64 1))), (some (89, true))⟩,
  ⟨(some 93), .pick (.t 89) (.t 92) (.k (.sc (.bool false))), none⟩,
  ⟨(some 94), .move (.t 93), none⟩,
  ⟨(some 95), .move (.t 10), (some (94, true))⟩,
  ⟨(some 96), .indexSlice 1 (.t 95) (.k (.sc (.int .i64 0))), (some (94, true))⟩,
  ⟨(some 97), .load none (.t 96), (some (94, true))⟩,
  ⟨(some 98), .bin .eql .no (.t 97) (.k (.sc (.str [99]))), (some (94, true))⟩,
  ⟨(some 99), .pick (.t 94) (.t 98) (.k (.sc (.bool false))), none⟩,
  ⟨(some 100), .move (.t 99), none⟩,
  ⟨(some 101), .move (.t 1), (some (100, true))⟩,
  ⟨(some 102), .call 20 [(.t 101), (.k (.sc (.int .i64 0)))], (some (100, true))⟩,
  ⟨(some 103), .lenSlice (.t 102), (some (100, true))⟩,
  ⟨(some 104), .bin .eql .no (.t 103) (.k (.sc (.int .i64 0))), (some (100, true))⟩,
  ⟨(some 105), .pick (.t 100) (.t 104) (.k (.sc (.bool false))), none⟩,
  ⟨(some 106), .move (.t 105), none⟩,
  ⟨(some 107), .move (.t 1), (some (106, true))⟩,
  ⟨(some 108), .call 20 [(.t 107), (.k (.sc (.int .i64 (-1))))], (some (106, true))⟩,
  ⟨(some 109), .lenSlice (.t 108), (some (106, true))⟩,
  ⟨(some 110), .bin .eql .no (.t 109) (.k (.sc (.int .i64 0))), (some (106, true))⟩,
  ⟨(some 111), .pick (.t 106) (.t 110) (.k (.sc (.bool false))), none⟩,
  ⟨(some 11), .move (.t 111), none⟩]
def m4_r10 : List MI := [
  ⟨(some 113), .move (.t 1), none⟩,
  ⟨(some 114), .call 21 [(.t 113)], none⟩,
  ⟨(some 112), .move (.t 114), none⟩,
  ⟨(some 115), .extract (.t 112) 0, none⟩,
  ⟨(some 116), .extract (.t 112) 1, none⟩,
  ⟨(some 12), .move (.t 115), none⟩,
  ⟨(some 13), .move (.t 116), none⟩]
def m4_r11 : List MI := [
  ⟨(some 118), .move (.t 1), none⟩,
  ⟨(some 119), .call 21 [(.t 118)], none⟩,
  ⟨(some 117), .move (.t 119), none⟩,
  ⟨(some 120), .extract (.t 117) 0, none⟩,
  ⟨(some 121), .extract (.t 117) 1, none⟩,
  ⟨(some 14), .move (.t 120), none⟩,
  ⟨(some 15), .move (.t 121), none⟩]
def m4_r12 : List MI := [
  ⟨(some 123), .move (.t 1), none⟩,
  ⟨(some 124), .call 21 [(.t 123)], none⟩,
  ⟨(some 122), .move (.t 124), none⟩,
  ⟨(some 125), .extract (.t 122) 0, none⟩,
  ⟨(some 126), .extract (.t 122) 1, none⟩,
  ⟨(some 16), .move (.t 125), none⟩,
  ⟨(some 17), .move (.t 126), none⟩]
def m4_r13 : List MI := [
  ⟨(some 127), .move (.t 12), none⟩,
  ⟨(some 128), .bin .eql .no (.t 127) (.k (.sc (.str [99]))), none⟩,
  ⟨(some 129), .move (.t 128), none⟩,
  ⟨(some 130), .move (.t 13), (some (129, true))⟩,
  ⟨(some 131), .pick (.t 129) (.t 130) (.k (.sc (.bool false))), none⟩,
  ⟨(some 132), .move (.t 131), none⟩,
  ⟨(some 133), .move (.t 14), (some (132, true))⟩,
  ⟨(some 134), .bin .eql .no (.t 133) (.k (.sc (.str [98]))), (some (132, true))⟩,
  ⟨(some 135), .pick (.t 132) (.t 134) (.k (.sc (.bool false))), none⟩,
  ⟨(some 136), .move (.t 135), none⟩,
  ⟨(some 137), .move (.t 15), (some (136, true))⟩,
  ⟨(some 138), .pick (.t 136) (.t 137) (.k (.sc (.bool false))), none⟩,
  ⟨(some 139), .move (.t 138), none⟩,
  ⟨(some 140), .move (.t 17), (some (139, true))⟩,
  ⟨(some 141), .un .not (.t 140), (some (139, true))⟩,
  ⟨(some 142), .pick (.t 139) (.t 141) (.k (.sc (.bool false))), none⟩,
  ⟨(some 143), .move (.t 142), none⟩,
  ⟨(some 144), .move (.t 1), (some (143, true))⟩,
  ⟨(some 145), .call 16 [(.t 144), (.k (.sc (.str [100])))], (some (143, true))⟩,
  ⟨(some 146), .un .not (.t 145), (some (143, true))⟩,
  ⟨(some 147), .pick (.t 143) (.t 146) (.k (.sc (.bool false))), none⟩,
  ⟨(some 148), .move (.t 147), none⟩,
  ⟨(some 149), .move (.t 1), (some (148, true))⟩,
  ⟨(some 150), .call 17 [(.t 149)], (some (148, true))⟩,
  ⟨(some 151), .bin .eql .no (.t 150) (.k (.sc (.int .i64 1))), (some (148, true))⟩,
  ⟨(some 152), .pick (.t 148) (.t 151) (.k (.sc (.bool false))), none⟩,
  ⟨(some 18), .move (.t 152), none⟩]
def m4_r14 : List MI := [
  ⟨(some 154), .call 9 [(.k (.sc (.int .i64 0)))], none⟩,
  ⟨(some 153), .move (.t 154), none⟩,
  ⟨(some 155), .extract (.t 153) 0, none⟩,
  ⟨(some 156), .extract (.t 153) 1, none⟩,
  ⟨(some 19), .move (.t 155), none⟩,
  ⟨(some 20), .move (.t 156), none⟩]
def m4_r15 : List MI := [
  ⟨(some 158), .call 9 [(.k (.sc (.int .i64 (-1))))], none⟩,
  ⟨(some 157), .move (.t 158), none⟩,
  ⟨(some 159), .extract (.t 157) 0, none⟩,
  ⟨(some 160), .extract (.t 157) 1, none⟩,
  ⟨(some 21), .move (.t 159), none⟩,
  ⟨(some 22), .move (.t 160), none⟩]
def m4_r16 : List MI := [
  ⟨(some 162), .call 9 [(.k (.sc (.int .i64 501)))], none⟩,
  ⟨(some 161), .move (.t 162), none⟩,
  ⟨(some 163), .extract (.t 161) 0, none⟩,
  ⟨(some 164), .extract (.t 161) 1, none⟩,
  ⟨(some 23), .move (.t 163), none⟩,
  ⟨(some 24), .move (.t 164), none⟩]
def m4_r17 : List MI := [
  ⟨(some 166), .call 9 [(.k (.sc (.int .i64 500)))], none⟩,
  ⟨(some 165), .move (.t 166), none⟩,
  ⟨(some 167), .extract (.t 165) 0, none⟩,
  ⟨(some 168), .extract (.t 165) 1, none⟩,
  ⟨(some 25), .move (.t 167), none⟩,
  ⟨(some 26), .move (.t 168), none⟩]
def m4_r18 : List MI := [
  ⟨(some 169), .move (.t 3), none⟩,
  ⟨(some 170), .move (.t 169), none⟩,
  ⟨(some 171), .move (.t 11), (some (170, true))⟩,
  ⟨(some 172), .pick (.t 170) (.t 171) (.k (.sc (.bool false))), none⟩,
  ⟨(some 173), .move (.t 172), none⟩,
  ⟨(some 174), .move (.t 18), (some (173, true))⟩,
  ⟨(some 175), .pick (.t 173) (.t 174) (.k (.sc (.bool false))), none⟩,
  ⟨(some 176), .move (.t 175), none⟩,
  ⟨(some 177), .move (.t 20), (some (176, true))⟩,
  ⟨(some 178), .bin .eql .no (.t 177) (.k (.sc (.int .i64 0))), (some (176, true))⟩,
  ⟨(some 179), .pick (.t 176) (.t 178) (.k (.sc (.bool false))), none⟩,
  ⟨(some 180), .move (.t 179), none⟩,
  ⟨(some 181), .move (.t 19), (some (180, true))⟩,
  ⟨(some 182), .call 10 [(.t 181), (.k (.sc (.int .i64 1)))], (some (180, true))⟩,
  ⟨(some 183), .pick (.t 180) (.t 182) (.k (.sc (.bool false))), none⟩,
  ⟨(some 184), .move (.t 183), none⟩,
  ⟨(some 185), .move (.t 19), (some (184, true))⟩,
  ⟨(some 186), .call 22 [(.t 185)], (some (184, true))⟩,
  ⟨(some 187), .bin .eql .no (.t 186) (.k (.sc (.int .i64 0))), (some (184, true))⟩,
  ⟨(some 188), .pick (.t 184) (.t 187) (.k (.sc (.bool false))), none⟩,
  ⟨(some 189), .move (.t 188), none⟩,
  ⟨(some 190), .move (.t 19), (some (189, true))⟩,
  ⟨(some 191), .call 23 [(.t 190)], (some (189, true))⟩,
  ⟨(some 192), .bin .eql .no (.t 191) (.k (.sc (.int .i64 1))), (some (189, true))⟩,
  ⟨(some 193), .pick (.t 189) (.t 192) (.k (.sc (.bool false))), none⟩,
  ⟨(some 194), .move (.t 193), none⟩,
  ⟨(some 195), .move (.t 22), (some (194, true))⟩,
  ⟨(some 196), .bin .eql .no (.t 195) (.k (.sc (.int .i64 1))), (some (194, true))⟩,
  ⟨(some 197), .pick (.t 194) (.t 196) (.k (.sc (.bool false))), none⟩,
  ⟨(some 198), .move (.t 197), none⟩,
  ⟨(some 199), .move (.t 24), (some (198, true))⟩,
  ⟨(some 200), .bin .eql .no (.t 199) (.k (.sc (.int .i64 1))), (some (198, true))⟩,
  ⟨(some 201), .pick (.t 198) (.t 200) (.k (.sc (.bool false))), none⟩,
  ⟨(some 202), .move (.t 201), none⟩,
  ⟨(some 203), .move (.t 26), (some (202, true))⟩,
  ⟨(some 204), .bin .eql .no (.t 203) (.k (.sc (.int .i64 0))), (some (202, true))⟩,
  ⟨(some 205), .pick (.t 202) (.t 204) (.k (.sc (.bool false))), none⟩,
  ⟨(some 206), .move (.t 205), none⟩,
  ⟨(some 207), .call 8 [], (some (206, true))⟩,
  ⟨(some 208), .pick (.t 206) (.t 207) (.k (.sc (.bool false))), none⟩,
  ⟨(some 0), .move (.t 208), none⟩]
def m4_code : MCode := (.seq (.ops m4_r0) (.seq (.ops m4_r1) (.seq (.seq (.ops m4_r2) (.cond (.t 36) (.seq (.ops m4_r3) .ret) .skip)) (.seq (.ops m4_r4) (.seq (.ops m4_r5) (.seq (.ops m4_r6) (.seq (.ops m4_r7) (.seq (.ops m4_r8) (.seq (.ops m4_r9) (.seq (.ops m4_r10) (.seq (.ops m4_r11) (.seq (.ops m4_r12) (.seq (.ops m4_r13) (.seq (.ops m4_r14) (.seq (.ops m4_r15) (.seq (.ops m4_r16) (.seq (.ops m4_r17) (.seq (.ops m4_r18) .ret))))))))))))))))))
def m4 : MFunc := ⟨209, [.tmp 0], m4_code⟩

def m5_r0 : List MI := [
  ⟨(some 6), .move (.k (.sc (.bool false))), none⟩]
def m5_r1 : List MI := [
  ⟨(some 19), .move (.t 1), none⟩,
  ⟨(some 20), .lenSlice (.t 19), none⟩,
  ⟨(some 21), .bin .gtr .no (.t 20) (.k (.sc (.int .i64 300))), none⟩]
def m5_r2 : List MI := [
  ⟨(some 22), .call 8 [], none⟩,
  ⟨(some 6), .move (.t 22), none⟩]
def m5_r3 : List MI := [
  ⟨(some 24), .move (.t 0), none⟩,
  ⟨(some 25), .call 9 [(.t 24)], none⟩,
  ⟨(some 23), .move (.t 25), none⟩,
  ⟨(some 26), .extract (.t 23) 0, none⟩,
  ⟨(some 27), .extract (.t 23) 1, none⟩,
  ⟨(some 7), .move (.t 26), none⟩,
  ⟨(some 8), .move (.t 27), none⟩]
def m5_r4 : List MI := [
  ⟨(some 28), .move (.t 0), none⟩,
  ⟨(some 29), .bin .lss .no (.t 28) (.k (.sc (.int .i64 0))), none⟩,
  ⟨(some 30), .move (.t 29), none⟩,
  ⟨(some 31), .move (.t 0), (some (30, false))⟩,
  ⟨(some 32), .bin .gtr .no (.t 31) (.k (.sc (.int .i64 500))), (some (30, false))⟩,
  ⟨(some 33), .pick (.t 30) (.k (.sc (.bool true))) (.t 32), none⟩]
def m5_r5 : List MI := [
  ⟨(some 34), .move (.t 7), none⟩,
  ⟨(some 35), .bin .eql .ptr (.t 34) (.k (.sc (.nilp))), none⟩,
  ⟨(some 36), .move (.t 35), none⟩,
  ⟨(some 37), .move (.t 8), (some (36, true))⟩,
  ⟨(some 38), .bin .eql .no (.t 37) (.k (.sc (.int .i64 1))), (some (36, true))⟩,
  ⟨(some 39), .pick (.t 36) (.t 38) (.k (.sc (.bool false))), none⟩,
  ⟨(some 40), .move (.t 39), none⟩,
  ⟨(some 41), .call 8 [], (some (40, true))⟩,
  ⟨(some 42), .pick (.t 40) (.t 41) (.k (.sc (.bool false))), none⟩,
  ⟨(some 6), .move (.t 42), none⟩]
def m5_r6 : List MI := [
  ⟨(some 43), .move (.t 8), none⟩,
  ⟨(some 44), .bin .neq .no (.t 43) (.k (.sc (.int .i64 0))), none⟩,
  ⟨(some 45), .move (.t 44), none⟩,
  ⟨(some 46), .move (.t 7), (some (45, false))⟩,
  ⟨(some 47), .bin .eql .ptr (.t 46) (.k (.sc (.nilp))), (some (45, false))⟩,
  ⟨(some 48), .pick (.t 45) (.k (.sc (.bool true))) (.t 47), none⟩]
def m5_r7 : List MI := [
  ⟨(some 6), .move (.k (.sc (.bool false))), none⟩]
def m5_r8 : List MI := [
  ⟨(some 49), .move (.t 0), none⟩,
  ⟨(some 50), .build [.int .i64 0, .nils, .int .i64 0] [(0, 1, (.t 49))], none⟩,
  ⟨(some 51), .box 49 (.t 50), none⟩,
  ⟨(some 9), .move (.t 51), none⟩]
def m5_r9 : List MI := [
  ⟨(some 10), .move (.k (.sc (.int .i64 0))), none⟩]
def m5_r11 : List MI := [
  ⟨(some 52), .move (.t 10), none⟩,
  ⟨(some 53), .move (.t 1), none⟩,
  ⟨(some 54), .lenSlice (.t 53), none⟩,
  ⟨(some 55), .bin .lss .no (.t 52) (.t 54), none⟩]
def m5_r12 : List MI := [
  ⟨(some 58), .move (.t 1), none⟩,
  ⟨(some 59), .move (.t 10), none⟩,
  ⟨(some 60), .indexSlice 1 (.t 58) (.t 59), none⟩,
  ⟨(some 61), .load none (.t 60), none⟩,
  ⟨(some 62), .bin .geq .no (.t 61) (.k (.sc (.int .i64 0))), none⟩]
def m5_r13 : List DI := [
  ⟨⟨(some 63), .move (.t 7), none⟩, 0, [], []⟩,
  ⟨⟨(some 64), .move (.t 1), none⟩, 0, [], []⟩,
  ⟨⟨(some 65), .move (.t 10), none⟩, 0, [], []⟩,
  ⟨⟨(some 66), .indexSlice 1 (.t 64) (.t 65), none⟩, 0, [], []⟩,
  ⟨⟨(some 67), .load none (.t 66), none⟩, 1, [], []⟩,
  ⟨⟨(some 68), .call 10 [(.t 63), (.t 67)], none⟩, 2, [], []⟩,
  ⟨⟨(some 69), .move (.t 9), none⟩, 0, [5], []⟩,
  ⟨⟨(some 70), .move (.t 1), none⟩, 0, [5], []⟩,
  ⟨⟨(some 71), .move (.t 10), none⟩, 0, [5], []⟩,
  ⟨⟨(some 72), .indexSlice 1 (.t 70) (.t 71), none⟩, 0, [5], []⟩,
  ⟨⟨(some 73), .load none (.t 72), none⟩, 1, [5], []⟩,
  ⟨⟨(some 74), .call 24 [(.t 69), (.t 73)], none⟩, 2, [], []⟩,
  ⟨⟨(some 75), .bin .neq .bool (.t 68) (.t 74), none⟩, 0, [], []⟩]
def m5_r14 : List MI := [
  ⟨(some 6), .move (.k (.sc (.bool false))), none⟩]
def m5_r15 : List MI := [
  ⟨(some 76), .move (.t 1), none⟩,
  ⟨(some 77), .move (.t 10), none⟩,
  ⟨(some 78), .indexSlice 1 (.t 76) (.t 77), none⟩,
  ⟨(some 79), .load none (.t 78), none⟩,
  ⟨(some 11), .move (.t 79), none⟩]
def m5_r17 : List MI := [
  ⟨(some 80), .move (.t 11), none⟩,
  ⟨(some 81), .bin .lss .no (.t 80) (.k (.sc (.int .i64 0))), none⟩,
  ⟨(some 82), .move (.t 81), none⟩,
  ⟨(some 83), .move (.t 11), (some (82, true))⟩,
  ⟨(some 84), .move (.t 1), (some (82, true))⟩,
  ⟨(some 85), .move (.t 10), (some (82, true))⟩,
  ⟨(some 86), .indexSlice 1 (.t 84) (.t 85), (some (82, true))⟩,
  ⟨(some 87), .load none (.t 86), (some (82, true))⟩,
  ⟨(some 88), .bin .add .no (.t 87) (.k (.sc (.int .i64 6))), (some (82, true))⟩,
  ⟨(some 89), .bin .lss .no (.t 83) (.t 88), (some (82, true))⟩,
  ⟨(some 90), .pick (.t 82) (.t 89) (.k (.sc (.bool false))), none⟩]
def m5_r18 : List MI := [
  ⟨(some 94), .move (.t 7), none⟩,
  ⟨(some 95), .call 13 [(.t 94)], none⟩,
  ⟨(some 93), .move (.t 95), none⟩,
  ⟨(some 96), .extract (.t 93) 0, none⟩,
  ⟨(some 97), .extract (.t 93) 1, none⟩,
  ⟨(some 12), .move (.t 96), none⟩,
  ⟨(some 13), .move (.t 97), none⟩]
def m5_r19 : List MI := [
  ⟨(some 99), .move (.t 9), none⟩,
  ⟨(some 100), .call 25 [(.t 99)], none⟩,
  ⟨(some 98), .move (.t 100), none⟩,
  ⟨(some 101), .extract (.t 98) 0, none⟩,
  ⟨(some 102), .extract (.t 98) 1, none⟩,
  ⟨(some 14), .move (.t 101), none⟩,
  ⟨(some 15), .move (.t 102), none⟩]
def m5_r20 : List MI := [
  ⟨(some 103), .move (.t 12), none⟩,
  ⟨(some 104), .move (.t 14), none⟩,
  ⟨(some 105), .bin .neq .no (.t 103) (.t 104), none⟩,
  ⟨(some 106), .move (.t 105), none⟩,
  ⟨(some 107), .move (.t 13), (some (106, false))⟩,
  ⟨(some 108), .move (.t 15), (some (106, false))⟩,
  ⟨(some 109), .bin .neq .bool (.t 107) (.t 108), (some (106, false))⟩,
  ⟨(some 110), .pick (.t 106) (.k (.sc (.bool true))) (.t 109), none⟩]
def m5_r21 : List MI := [
  ⟨(some 6), .move (.k (.sc (.bool false))), none⟩]
def m5_r22 : List MI := [
  ⟨(some 91), .move (.t 11), none⟩,
  ⟨(some 92), .bin .add .no (.t 91) (.k (.sc (.int .i64 1))), none⟩,
  ⟨(some 11), .move (.t 92), none⟩]
def m5_l16 : MCode := (.seq (.seq (.ops m5_r17) (.cond (.t 90) .skip (.exit 2))) (.seq (.block 3 (.seq (.ops m5_r18) (.seq (.ops m5_r19) (.seq (.ops m5_r20) (.cond (.t 110) (.seq (.ops m5_r21) .ret) .skip))))) (.ops m5_r22)))
def m5_r23 : List MI := [
  ⟨(some 112), .move (.t 7), none⟩,
  ⟨(some 113), .move (.t 2), none⟩,
  ⟨(some 114), .call 26 [(.t 112), (.t 113)], none⟩,
  ⟨(some 111), .move (.t 114), none⟩,
  ⟨(some 115), .extract (.t 111) 0, none⟩,
  ⟨(some 116), .extract (.t 111) 1, none⟩,
  ⟨(some 16), .move (.t 115), none⟩,
  ⟨(some 17), .move (.t 116), none⟩]
def m5_r24 : List MI := [
  ⟨(some 117), .move (.t 2), none⟩,
  ⟨(some 118), .bin .geq .no (.t 117) (.k (.sc (.int .i64 0))), none⟩,
  ⟨(some 119), .move (.t 118), none⟩,
  ⟨(some 120), .move (.t 2), (some (119, true))⟩,
  ⟨(some 121), .move (.t 9), (some (119, true))⟩,
  ⟨(some 122), .nilCheck (.t 121), (some (119, true))⟩,
  ⟨(some 123), .fieldAddr 1 (.t 122), (some (119, true))⟩,
  ⟨(some 124), .load none (.t 123), (some (119, true))⟩,
  ⟨(some 125), .lenSlice (.t 124), (some (119, true))⟩,
  ⟨(some 126), .bin .lss .no (.t 120) (.t 125), (some (119, true))⟩,
  ⟨(some 127), .pick (.t 119) (.t 126) (.k (.sc (.bool false))), none⟩,
  ⟨(some 18), .move (.t 127), none⟩]
def m5_r25 : List DI := [
  ⟨⟨(some 128), .move (.t 17), none⟩, 0, [], []⟩,
  ⟨⟨(some 129), .move (.t 18), none⟩, 0, [], []⟩,
  ⟨⟨(some 130), .bin .neq .bool (.t 128) (.t 129), none⟩, 0, [], []⟩,
  ⟨⟨(some 131), .move (.t 130), none⟩, 0, [], []⟩,
  ⟨⟨(some 132), .move (.t 17), (some (131, false))⟩, 0, [], []⟩,
  ⟨⟨(some 133), .move (.t 132), (some (131, false))⟩, 0, [], []⟩,
  ⟨⟨(some 134), .move (.t 16), (some (133, true))⟩, 0, [], []⟩,
  ⟨⟨(some 135), .move (.t 9), (some (133, true))⟩, 0, [], []⟩,
  ⟨⟨(some 136), .nilCheck (.t 135), (some (133, true))⟩, 0, [], []⟩,
  ⟨⟨(some 137), .fieldAddr 1 (.t 136), (some (133, true))⟩, 0, [], []⟩,
  ⟨⟨(some 138), .load none (.t 137), (some (133, true))⟩, 1, [], []⟩,
  ⟨⟨(some 139), .move (.t 2), (some (133, true))⟩, 0, [], []⟩,
  ⟨⟨(some 140), .indexSlice 1 (.t 138) (.t 139), (some (133, true))⟩, 0, [], []⟩,
  ⟨⟨(some 141), .load none (.t 140), (some (133, true))⟩, 1, [], []⟩,
  ⟨⟨(some 142), .bin .neq .no (.t 134) (.t 141), (some (133, true))⟩, 0, [], []⟩,
  ⟨⟨(some 143), .pick (.t 133) (.t 142) (.k (.sc (.bool false))), (some (131, false))⟩, 0, [], []⟩,
  ⟨⟨(some 144), .pick (.t 131) (.k (.sc (.bool true))) (.t 143), none⟩, 0, [], []⟩,
  ⟨⟨(some 145), .move (.t 144), none⟩, 0, [], []⟩,
  ⟨⟨(some 146), .move (.t 17), (some (145, false))⟩, 0, [], []⟩,
  ⟨⟨(some 147), .un .not (.t 146), (some (145, false))⟩, 0, [], []⟩,
  ⟨⟨(some 148), .move (.t 147), (some (145, false))⟩, 0, [], []⟩,
  ⟨⟨(some 149), .move (.t 16), (some (148, true))⟩, 0, [], []⟩,
  ⟨⟨(some 150), .bin .neq .no (.t 149) (.k (.sc (.int .i64 0))), (some (148, true))⟩, 0, [], []⟩,
  ⟨⟨(some 151), .pick (.t 148) (.t 150) (.k (.sc (.bool false))), (some (145, false))⟩, 0, [], []⟩,
  ⟨⟨(some 152), .pick (.t 145) (.k (.sc (.bool true))) (.t 151), none⟩, 0, [], []⟩,
  ⟨⟨(some 153), .move (.t 152), none⟩, 0, [], []⟩,
  ⟨⟨(some 154), .move (.t 7), (some (153, false))⟩, 0, [], []⟩,
  ⟨⟨(some 155), .call 22 [(.t 154)], (some (153, false))⟩, 2, [], []⟩,
  ⟨⟨(some 156), .move (.t 9), (some (153, false))⟩, 0, [27], []⟩,
  ⟨⟨(some 157), .nilCheck (.t 156), (some (153, false))⟩, 0, [27], []⟩,
  ⟨⟨(some 158), .fieldAddr 1 (.t 157), (some (153, false))⟩, 0, [27], []⟩,
  ⟨⟨(some 159), .load none (.t 158), (some (153, false))⟩, 1, [27], []⟩,
  ⟨⟨(some 160), .lenSlice (.t 159), (some (153, false))⟩, 0, [27], []⟩,
  ⟨⟨(some 161), .bin .neq .no (.t 155) (.t 160), (some (153, false))⟩, 0, [], []⟩,
  ⟨⟨(some 162), .pick (.t 153) (.k (.sc (.bool true))) (.t 161), none⟩, 0, [], []⟩,
  ⟨⟨(some 163), .move (.t 162), none⟩, 0, [], []⟩,
  ⟨⟨(some 164), .move (.t 7), (some (163, false))⟩, 0, [], []⟩,
  ⟨⟨(some 165), .call 23 [(.t 164)], (some (163, false))⟩, 2, [], []⟩,
  ⟨⟨(some 166), .move (.t 9), (some (163, false))⟩, 0, [37], []⟩,
  ⟨⟨(some 167), .nilCheck (.t 166), (some (163, false))⟩, 0, [37], []⟩,
  ⟨⟨(some 168), .fieldAddr 2 (.t 167), (some (163, false))⟩, 0, [37], []⟩,
  ⟨⟨(some 169), .load none (.t 168), (some (163, false))⟩, 1, [37], []⟩,
  ⟨⟨(some 170), .bin .neq .no (.t 165) (.t 169), (some (163, false))⟩, 0, [], []⟩,
  ⟨⟨(some 171), .pick (.t 163) (.k (.sc (.bool true))) (.t 170), none⟩, 0, [], []⟩,
  ⟨⟨(some 172), .move (.t 171), none⟩, 0, [], []⟩,
  ⟨⟨(some 173), .move (.t 7), (some (172, false))⟩, 0, [], []⟩,
  ⟨⟨(some 174), .move (.t 2), (some (172, false))⟩, 0, [], []⟩,
  ⟨⟨(some 175), .call 11 [(.t 173), (.t 174)], (some (172, false))⟩, 2, [], []⟩,
  ⟨⟨(some 176), .move (.t 9), (some (172, false))⟩, 0, [47], []⟩,
  ⟨⟨(some 177), .move (.t 2), (some (172, false))⟩, 0, [47], []⟩,
  ⟨⟨(some 178), .call 27 [(.t 176), (.t 177)], (some (172, false))⟩, 2, [], []⟩,
  ⟨⟨(some 179), .call 14 [(.t 175), (.t 178)], (some (172, false))⟩, 2, [], []⟩,
  ⟨⟨(some 180), .un .not (.t 179), (some (172, false))⟩, 0, [], []⟩,
  ⟨⟨(some 181), .pick (.t 172) (.k (.sc (.bool true))) (.t 180), none⟩, 0, [], []⟩,
  ⟨⟨(some 182), .move (.t 181), none⟩, 0, [], []⟩,
  ⟨⟨(some 183), .move (.t 7), (some (182, false))⟩, 0, [], []⟩,
  ⟨⟨(some 184), .call 28 [(.t 183), (.k (.sc (.int .i64 1000)))], (some (182, false))⟩, 2, [], []⟩,
  ⟨⟨(some 185), .move (.t 9), (some (182, false))⟩, 0, [56], []⟩,
  ⟨⟨(some 186), .nilCheck (.t 185), (some (182, false))⟩, 0, [56], []⟩,
  ⟨⟨(some 187), .fieldAddr 1 (.t 186), (some (182, false))⟩, 0, [56], []⟩,
  ⟨⟨(some 188), .load none (.t 187), (some (182, false))⟩, 1, [56], []⟩,
  ⟨⟨(some 189), .call 14 [(.t 184), (.t 188)], (some (182, false))⟩, 2, [], []⟩,
  ⟨⟨(some 190), .un .not (.t 189), (some (182, false))⟩, 0, [], []⟩,
  ⟨⟨(some 191), .pick (.t 182) (.k (.sc (.bool true))) (.t 190), none⟩, 0, [], []⟩]
def m5_r26 : List MI := [
  ⟨(some 6), .move (.k (.sc (.bool false))), none⟩]
def m5_r27 : List MI := [
  ⟨(some 56), .move (.t 10), none⟩,
  ⟨(some 57), .bin .add .no (.t 56) (.k (.sc (.int .i64 1))), none⟩,
  ⟨(some 10), .move (.t 57), none⟩]
def m5_l10 : MCode := (.seq (.seq (.ops m5_r11) (.cond (.t 55) .skip (.exit 0))) (.seq (.block 1 (.seq (.seq (.ops m5_r12) (.cond (.t 62) (.seq (.draw m5_r13) (.cond (.t 75) (.seq (.ops m5_r14) .ret) .skip)) (.seq (.ops m5_r15) (.block 2 (.loop m5_l16))))) (.seq (.ops m5_r23) (.seq (.ops m5_r24) (.seq (.draw m5_r25) (.cond (.t 191) (.seq (.ops m5_r26) .ret) .skip)))))) (.ops m5_r27)))
def m5_r28 : List MI := [
  ⟨(some 192), .move (.t 7), none⟩,
  ⟨(some 193), .call 29 [(.t 192)], none⟩]
def m5_r29 : List DI := [
  ⟨⟨(some 194), .move (.t 7), none⟩, 0, [], []⟩,
  ⟨⟨(some 195), .call 22 [(.t 194)], none⟩, 2, [], []⟩,
  ⟨⟨(some 196), .bin .eql .no (.t 195) (.k (.sc (.int .i64 0))), none⟩, 0, [], []⟩,
  ⟨⟨(some 197), .move (.t 196), none⟩, 0, [], []⟩,
  ⟨⟨(some 198), .move (.t 7), (some (197, true))⟩, 0, [], []⟩,
  ⟨⟨(some 199), .call 23 [(.t 198)], (some (197, true))⟩, 2, [], []⟩,
  ⟨⟨(some 200), .move (.t 9), (some (197, true))⟩, 0, [5], []⟩,
  ⟨⟨(some 201), .nilCheck (.t 200), (some (197, true))⟩, 0, [5], []⟩,
  ⟨⟨(some 202), .fieldAddr 2 (.t 201), (some (197, true))⟩, 0, [5], []⟩,
  ⟨⟨(some 203), .load none (.t 202), (some (197, true))⟩, 1, [5], []⟩,
  ⟨⟨(some 204), .bin .eql .no (.t 199) (.t 203), (some (197, true))⟩, 0, [], []⟩,
  ⟨⟨(some 205), .pick (.t 197) (.t 204) (.k (.sc (.bool false))), none⟩, 0, [], []⟩,
  ⟨⟨(some 206), .move (.t 205), none⟩, 0, [], []⟩,
  ⟨⟨(some 207), .move (.t 7), (some (206, true))⟩, 0, [], []⟩,
  ⟨⟨(some 208), .call 28 [(.t 207), (.k (.sc (.int .i64 9)))], (some (206, true))⟩, 2, [], []⟩,
  ⟨⟨(some 209), .lenSlice (.t 208), (some (206, true))⟩, 0, [], []⟩,
  ⟨⟨(some 210), .bin .eql .no (.t 209) (.k (.sc (.int .i64 0))), (some (206, true))⟩, 0, [], []⟩,
  ⟨⟨(some 211), .pick (.t 206) (.t 210) (.k (.sc (.bool false))), none⟩, 0, [], []⟩,
  ⟨⟨(some 212), .move (.t 211), none⟩, 0, [], []⟩,
  ⟨⟨(some 213), .call 8 [], (some (212, true))⟩, 2, [], []⟩,
  ⟨⟨(some 214), .pick (.t 212) (.t 213) (.k (.sc (.bool false))), none⟩, 0, [], []⟩,
  ⟨⟨(some 6), .move (.t 214), none⟩, 0, [], []⟩]
def m5_code : MCode := (.seq (.ops m5_r0) (.seq (.seq (.ops m5_r1) (.cond (.t 21) (.seq (.ops m5_r2) .ret) .skip)) (.seq (.ops m5_r3) (.seq (.seq (.ops m5_r4) (.cond (.t 33) (.seq (.ops m5_r5) .ret) .skip)) (.seq (.seq (.ops m5_r6) (.cond (.t 48) (.seq (.ops m5_r7) .ret) .skip)) (.seq (.ops m5_r8) (.seq (.seq (.ops m5_r9) (.block 0 (.loop m5_l10))) (.seq (.ops m5_r28) (.seq (.draw m5_r29) .ret)))))))))
def m5 : MFunc := ⟨215, [.tmp 6], m5_code⟩

def m6_r0 : List MI := [
  ⟨(some 4), .move (.k (.sc (.bool false))), none⟩]
def m6_r1 : List MI := [
  ⟨(some 5), .move (.k (.sc (.nilp))), none⟩]
def m6_r2 : List MI := [
  ⟨(some 13), .build [.bool false, .int .i64 0, .nils, .int .i64 0, .int .i64 0, .int .i64 0] [], none⟩,
  ⟨(some 14), .box 54 (.t 13), none⟩,
  ⟨(some 6), .move (.t 14), none⟩]
def m6_r3 : List MI := [
  ⟨(some 15), .move (.t 5), none⟩,
  ⟨(some 16), .move (.t 6), none⟩,
  ⟨(some 17), .buildSlice 24 1 2 [.nilp] [(0, 1, (.t 15)), (1, 1, (.t 16))], none⟩,
  ⟨(some 18), .lenSlice (.t 17), none⟩,
  ⟨(some 19), .move (.k (.sc (.int .i64 0))), none⟩]
def m6_r5 : List MI := [
  ⟨(some 20), .bin .lss .no (.t 19) (.t 18), none⟩]
def m6_r6 : List MI := [
  ⟨(some 21), .indexSlice 1 (.t 17) (.t 19), none⟩,
  ⟨(some 22), .load none (.t 21), none⟩,
  ⟨(some 8), .move (.t 22), none⟩]
def m6_r7 : List MI := [
  ⟨(some 23), .move (.t 8), none⟩,
  ⟨(some 24), .call 29 [(.t 23)], none⟩]
def m6_r8 : List MI := [
  ⟨(some 26), .move (.t 8), none⟩,
  ⟨(some 27), .call 13 [(.t 26)], none⟩,
  ⟨(some 25), .move (.t 27), none⟩,
  ⟨(some 28), .extract (.t 25) 0, none⟩,
  ⟨(some 29), .extract (.t 25) 1, none⟩,
  ⟨(some 9), .move (.t 28), none⟩,
  ⟨(some 10), .move (.t 29), none⟩]
def m6_r9 : List MI := [
  ⟨(some 31), .move (.t 8), none⟩,
  ⟨(some 32), .move (.t 1), none⟩,
  ⟨(some 33), .call 26 [(.t 31), (.t 32)], none⟩,
  ⟨(some 30), .move (.t 33), none⟩,
  ⟨(some 34), .extract (.t 30) 0, none⟩,
  ⟨(some 35), .extract (.t 30) 1, none⟩,
  ⟨(some 11), .move (.t 34), none⟩,
  ⟨(some 12), .move (.t 35), none⟩]
def m6_r10 : List MI := [
  ⟨(some 36), .move (.t 8), none⟩,
  ⟨(some 37), .move (.t 0), none⟩,
  ⟨(some 38), .call 10 [(.t 36), (.t 37)], none⟩,
  ⟨(some 39), .move (.t 38), none⟩,
  ⟨(some 40), .move (.t 9), (some (39, false))⟩,
  ⟨(some 41), .bin .neq .no (.t 40) (.k (.sc (.int .i64 0))), (some (39, false))⟩,
  ⟨(some 42), .pick (.t 39) (.k (.sc (.bool true))) (.t 41), none⟩,
  ⟨(some 43), .move (.t 42), none⟩,
  ⟨(some 44), .move (.t 10), (some (43, false))⟩,
  ⟨(some 45), .pick (.t 43) (.k (.sc (.bool true))) (.t 44), none⟩,
  ⟨(some 46), .move (.t 45), none⟩,
  ⟨(some 47), .move (.t 11), (some (46, false))⟩,
  ⟨(some 48), .bin .neq .no (.t 47) (.k (.sc (.int .i64 0))), (some (46, false))⟩,
  ⟨(some 49), .pick (.t 46) (.k (.sc (.bool true))) (.t 48), none⟩,
  ⟨(some 50), .move (.t 49), none⟩,
  ⟨(some 51), .move (.t 12), (some (50, false))⟩,
  ⟨(some 52), .pick (.t 50) (.k (.sc (.bool true))) (.t 51), none⟩,
  ⟨(some 53), .move (.t 52), none⟩,
  ⟨(some 54), .move (.t 8), (some (53, false))⟩,
  ⟨(some 55), .move (.t 1), (some (53, false))⟩,
  ⟨(some 56), .call 11 [(.t 54), (.t 55)], (some (53, false))⟩,
  ⟨(some 57), .lenSlice (.t 56), (some (53, false))⟩,
  ⟨(some 58), .bin .neq .no (.t 57) (.k (.sc (.int .i64 0))), (some (53, false))⟩,
  ⟨(some 59), .pick (.t 53) (.k (.sc (.bool true))) (.t 58), none⟩,
  ⟨(some 60), .move (.t 59), none⟩,
  ⟨(some 61), .move (.t 8), (some (60, false))⟩,
  ⟨(some 62), .call 28 [(.t 61), (.k (.sc (.int .i64 9)))], (some (60, false))⟩,
  ⟨(some 63), .lenSlice (.t 62), (some (60, false))⟩,
  ⟨(some 64), .bin .neq .no (.t 63) (.k (.sc (.int .i64 0))), (some (60, false))⟩,
  ⟨(some 65), .pick (.t 60) (.k (.sc (.bool true))) (.t 64), none⟩,
  ⟨(some 66), .move (.t 65), none⟩,
  ⟨(some 67), .move (.t 8), (some (66, false))⟩,
  ⟨(some 68), .call 22 [(.t 67)], (some (66, false))⟩,
  ⟨(some 69), .bin .neq .no (.t 68) (.k (.sc (.int .i64 0))), (some (66, false))⟩,
  ⟨(some 70), .pick (.t 66) (.k (.sc (.bool true))) (.t 69), none⟩,
  ⟨(some 71), .move (.t 70), none⟩,
  ⟨(some 72), .move (.t 8), (some (71, false))⟩,
  ⟨(some 73), .call 23 [(.t 72)], (some (71, false))⟩,
  ⟨(some 74), .bin .neq .no (.t 73) (.k (.sc (.int .i64 0))), (some (71, false))⟩,
  ⟨(some 75), .pick (.t 71) (.k (.sc (.bool true))) (.t 74), none⟩]
def m6_r11 : List MI := [
  ⟨(some 4), .move (.k (.sc (.bool false))), none⟩]
def m6_r12 : List MI := [
  ⟨(some 76), .bin .add .no (.t 19) (.k (.sc (.int .i64 1))), none⟩,
  ⟨(some 19), .move (.t 76), none⟩]
def m6_l4 : MCode := (.seq (.ops m6_r5) (.seq (.cond (.t 20) .skip (.exit 0)) (.seq (.block 1 (.seq (.ops m6_r6) (.seq (.ops m6_r7) (.seq (.ops m6_r8) (.seq (.ops m6_r9) (.seq (.ops m6_r10) (.cond (.t 75) (.seq (.ops m6_r11) .ret) .skip))))))) (.ops m6_r12))))
def m6_r13 : List MI := [
  ⟨(some 77), .call 8 [], none⟩,
  ⟨(some 4), .move (.t 77), none⟩]
def m6_code : MCode := (.seq (.ops m6_r0) (.seq (.ops m6_r1) (.seq (.ops m6_r2) (.seq (.seq (.ops m6_r3) (.block 0 (.loop m6_l4))) (.seq (.ops m6_r13) .ret)))))
def m6 : MFunc := ⟨78, [.tmp 4], m6_code⟩

def m7_r0 : List MI := [
  ⟨(some 6), .move (.k (.sc (.bool false))), none⟩]
def m7_r1 : List MI := [
  ⟨(some 13), .move (.t 0), none⟩,
  ⟨(some 14), .bin .lss .no (.t 13) (.k (.sc (.int .i64 0))), none⟩,
  ⟨(some 15), .move (.t 14), none⟩,
  ⟨(some 16), .move (.t 0), (some (15, false))⟩,
  ⟨(some 17), .bin .gtr .no (.t 16) (.k (.sc (.int .i64 500))), (some (15, false))⟩,
  ⟨(some 18), .pick (.t 15) (.k (.sc (.bool true))) (.t 17), none⟩,
  ⟨(some 19), .move (.t 18), none⟩,
  ⟨(some 20), .move (.t 1), (some (19, false))⟩,
  ⟨(some 21), .lenSlice (.t 20), (some (19, false))⟩,
  ⟨(some 22), .bin .gtr .no (.t 21) (.k (.sc (.int .i64 600))), (some (19, false))⟩,
  ⟨(some 23), .pick (.t 19) (.k (.sc (.bool true))) (.t 22), none⟩,
  ⟨(some 24), .move (.t 23), none⟩,
  ⟨(some 25), .move (.t 2), (some (24, false))⟩,
  ⟨(some 26), .lenSlice (.t 25), (some (24, false))⟩,
  ⟨(some 27), .bin .gtr .no (.t 26) (.k (.sc (.int .i64 600))), (some (24, false))⟩,
  ⟨(some 28), .pick (.t 24) (.k (.sc (.bool true))) (.t 27), none⟩]
def m7_r2 : List MI := [
  ⟨(some 29), .call 8 [], none⟩,
  ⟨(some 6), .move (.t 29), none⟩]
def m7_r3 : List MI := [
  ⟨(some 31), .move (.t 0), none⟩,
  ⟨(some 32), .call 9 [(.t 31)], none⟩,
  ⟨(some 30), .move (.t 32), none⟩,
  ⟨(some 33), .extract (.t 30) 0, none⟩,
  ⟨(some 34), .extract (.t 30) 1, none⟩,
  ⟨(some 7), .move (.t 33), none⟩,
  ⟨(some 8), .move (.t 34), none⟩]
def m7_r4 : List MI := [
  ⟨(some 35), .move (.t 8), none⟩,
  ⟨(some 36), .bin .neq .no (.t 35) (.k (.sc (.int .i64 0))), none⟩,
  ⟨(some 37), .move (.t 36), none⟩,
  ⟨(some 38), .move (.t 7), (some (37, false))⟩,
  ⟨(some 39), .bin .eql .ptr (.t 38) (.k (.sc (.nilp))), (some (37, false))⟩,
  ⟨(some 40), .pick (.t 37) (.k (.sc (.bool true))) (.t 39), none⟩]
def m7_r5 : List MI := [
  ⟨(some 6), .move (.k (.sc (.bool false))), none⟩]
def m7_r6 : List MI := [
  ⟨(some 9), .move (.k (.sc (.int .i64 0))), none⟩]
def m7_r8 : List MI := [
  ⟨(some 41), .move (.t 9), none⟩,
  ⟨(some 42), .move (.t 1), none⟩,
  ⟨(some 43), .lenSlice (.t 42), none⟩,
  ⟨(some 44), .bin .lss .no (.t 41) (.t 43), none⟩]
def m7_r9 : List MI := [
  ⟨(some 47), .move (.t 7), none⟩,
  ⟨(some 48), .move (.t 1), none⟩,
  ⟨(some 49), .move (.t 9), none⟩,
  ⟨(some 50), .indexSlice 1 (.t 48) (.t 49), none⟩,
  ⟨(some 51), .load none (.t 50), none⟩,
  ⟨(some 52), .call 10 [(.t 47), (.t 51)], none⟩]
def m7_r10 : List MI := [
  ⟨(some 45), .move (.t 9), none⟩,
  ⟨(some 46), .bin .add .no (.t 45) (.k (.sc (.int .i64 1))), none⟩,
  ⟨(some 9), .move (.t 46), none⟩]
def m7_l7 : MCode := (.seq (.seq (.ops m7_r8) (.cond (.t 44) .skip (.exit 0))) (.seq (.block 1 (.ops m7_r9)) (.ops m7_r10)))
def m7_r11 : List MI := [
  ⟨(some 53), .move (.t 7), none⟩,
  ⟨(some 54), .call 29 [(.t 53)], none⟩]
def m7_r12 : List MI := [
  ⟨(some 55), .move (.t 7), none⟩,
  ⟨(some 56), .call 23 [(.t 55)], none⟩,
  ⟨(some 10), .move (.t 56), none⟩]
def m7_r13 : List MI := [
  ⟨(some 11), .move (.k (.sc (.int .i64 0))), none⟩]
def m7_r15 : List MI := [
  ⟨(some 57), .move (.t 11), none⟩,
  ⟨(some 58), .move (.t 2), none⟩,
  ⟨(some 59), .lenSlice (.t 58), none⟩,
  ⟨(some 60), .bin .lss .no (.t 57) (.t 59), none⟩]
def m7_r16 : List MI := [
  ⟨(some 63), .move (.t 7), none⟩,
  ⟨(some 64), .move (.t 2), none⟩,
  ⟨(some 65), .move (.t 11), none⟩,
  ⟨(some 66), .indexSlice 1 (.t 64) (.t 65), none⟩,
  ⟨(some 67), .load none (.t 66), none⟩,
  ⟨(some 68), .call 10 [(.t 63), (.t 67)], none⟩,
  ⟨(some 69), .move (.t 11), none⟩,
  ⟨(some 70), .move (.t 0), none⟩,
  ⟨(some 71), .bin .geq .no (.t 69) (.t 70), none⟩,
  ⟨(some 72), .bin .neq .bool (.t 68) (.t 71), none⟩]
def m7_r17 : List MI := [
  ⟨(some 6), .move (.k (.sc (.bool false))), none⟩]
def m7_r18 : List MI := [
  ⟨(some 61), .move (.t 11), none⟩,
  ⟨(some 62), .bin .add .no (.t 61) (.k (.sc (.int .i64 1))), none⟩,
  ⟨(some 11), .move (.t 62), none⟩]
def m7_l14 : MCode := (.seq (.seq (.ops m7_r15) (.cond (.t 60) .skip (.exit 2))) (.seq (.block 3 (.seq (.ops m7_r16) (.cond (.t 72) (.seq (.ops m7_r17) .ret) .skip))) (.ops m7_r18)))
def m7_r19 : List MI := [
  ⟨(some 73), .move (.t 2), none⟩,
  ⟨(some 74), .lenSlice (.t 73), none⟩,
  ⟨(some 75), .move (.t 0), none⟩,
  ⟨(some 76), .bin .sub .no (.t 74) (.t 75), none⟩,
  ⟨(some 77), .max [(.t 76), (.k (.sc (.int .i64 0)))], none⟩,
  ⟨(some 12), .move (.t 77), none⟩]
def m7_r20 : List DI := [
  ⟨⟨(some 78), .move (.t 10), none⟩, 0, [], []⟩,
  ⟨⟨(some 79), .move (.t 1), none⟩, 0, [], []⟩,
  ⟨⟨(some 80), .lenSlice (.t 79), none⟩, 0, [], []⟩,
  ⟨⟨(some 81), .move (.t 0), none⟩, 0, [], []⟩,
  ⟨⟨(some 82), .bin .sub .no (.t 80) (.t 81), none⟩, 0, [], []⟩,
  ⟨⟨(some 83), .max [(.t 82), (.k (.sc (.int .i64 0)))], none⟩, 0, [], []⟩,
  ⟨⟨(some 84), .bin .eql .no (.t 78) (.t 83), none⟩, 0, [], []⟩,
  ⟨⟨(some 85), .move (.t 84), none⟩, 0, [], []⟩,
  ⟨⟨(some 86), .move (.t 7), (some (85, true))⟩, 0, [], []⟩,
  ⟨⟨(some 87), .call 23 [(.t 86)], (some (85, true))⟩, 2, [], []⟩,
  ⟨⟨(some 88), .move (.t 10), (some (85, true))⟩, 0, [9], []⟩,
  ⟨⟨(some 89), .move (.t 12), (some (85, true))⟩, 0, [9], []⟩,
  ⟨⟨(some 90), .bin .add .no (.t 88) (.t 89), (some (85, true))⟩, 0, [9], []⟩,
  ⟨⟨(some 91), .bin .eql .no (.t 87) (.t 90), (some (85, true))⟩, 0, [], []⟩,
  ⟨⟨(some 92), .pick (.t 85) (.t 91) (.k (.sc (.bool false))), none⟩, 0, [], []⟩,
  ⟨⟨(some 93), .move (.t 92), none⟩, 0, [], []⟩,
  ⟨⟨(some 94), .move (.t 7), (some (93, true))⟩, 0, [], []⟩,
  ⟨⟨(some 95), .call 11 [(.t 94), (.k (.sc (.int .i64 1000)))], (some (93, true))⟩, 2, [], []⟩,
  ⟨⟨(some 96), .move (.t 2), (some (93, true))⟩, 0, [17], []⟩,
  ⟨⟨(some 97), .move (.t 12), (some (93, true))⟩, 0, [17], []⟩,
  ⟨⟨(some 98), .slice 1 (.t 96) (some (.t 97)) none, (some (93, true))⟩, 0, [17], []⟩,
  ⟨⟨(some 99), .call 14 [(.t 95), (.t 98)], (some (93, true))⟩, 2, [], []⟩,
  ⟨⟨(some 100), .pick (.t 93) (.t 99) (.k (.sc (.bool false))), none⟩, 0, [], []⟩,
  ⟨⟨(some 101), .move (.t 100), none⟩, 0, [], []⟩,
  ⟨⟨(some 102), .move (.t 7), (some (101, true))⟩, 0, [], []⟩,
  ⟨⟨(some 103), .call 28 [(.t 102), (.k (.sc (.int .i64 1000)))], (some (101, true))⟩, 2, [], []⟩,
  ⟨⟨(some 104), .move (.t 2), (some (101, true))⟩, 0, [25], []⟩,
  ⟨⟨(some 105), .move (.t 12), (some (101, true))⟩, 0, [25], []⟩,
  ⟨⟨(some 106), .slice 1 (.t 104) (some (.t 105)) none, (some (101, true))⟩, 0, [25], []⟩,
  ⟨⟨(some 107), .call 14 [(.t 103), (.t 106)], (some (101, true))⟩, 2, [], []⟩,
  ⟨⟨(some 108), .pick (.t 101) (.t 107) (.k (.sc (.bool false))), none⟩, 0, [], []⟩,
  ⟨⟨(some 109), .move (.t 108), none⟩, 0, [], []⟩,
  ⟨⟨(some 110), .call 8 [], (some (109, true))⟩, 2, [], []⟩,
  ⟨⟨(some 111), .pick (.t 109) (.t 110) (.k (.sc (.bool false))), none⟩, 0, [], []⟩,
  ⟨⟨(some 6), .move (.t 111), none⟩, 0, [], []⟩]
def m7_code : MCode := (.seq (.ops m7_r0) (.seq (.seq (.ops m7_r1) (.cond (.t 28) (.seq (.ops m7_r2) .ret) .skip)) (.seq (.ops m7_r3) (.seq (.seq (.ops m7_r4) (.cond (.t 40) (.seq (.ops m7_r5) .ret) .skip)) (.seq (.seq (.ops m7_r6) (.block 0 (.loop m7_l7))) (.seq (.ops m7_r11) (.seq (.ops m7_r12) (.seq (.seq (.ops m7_r13) (.block 2 (.loop m7_l14))) (.seq (.ops m7_r19) (.seq (.draw m7_r20) .ret))))))))))
def m7 : MFunc := ⟨112, [.tmp 6], m7_code⟩

def m8_r0 : List MI := [
  ⟨(some 0), .move (.k (.sc (.bool false))), none⟩]
def m8_r1 : List MI := [
  ⟨(some 8), .call 9 [(.k (.sc (.int .i64 2)))], none⟩,
  ⟨(some 7), .move (.t 8), none⟩,
  ⟨(some 9), .extract (.t 7) 0, none⟩,
  ⟨(some 10), .extract (.t 7) 1, none⟩,
  ⟨(some 1), .move (.t 9), none⟩,
  ⟨(some 2), .move (.t 10), none⟩]
def m8_r2 : List MI := [
  ⟨(some 11), .move (.t 2), none⟩,
  ⟨(some 12), .bin .neq .no (.t 11) (.k (.sc (.int .i64 0))), none⟩,
  ⟨(some 13), .move (.t 12), none⟩,
  ⟨(some 14), .move (.t 1), (some (13, false))⟩,
  ⟨(some 15), .bin .eql .ptr (.t 14) (.k (.sc (.nilp))), (some (13, false))⟩,
  ⟨(some 16), .pick (.t 13) (.k (.sc (.bool true))) (.t 15), none⟩]
def m8_r3 : List MI := [
  ⟨(some 0), .move (.k (.sc (.bool false))), none⟩]
def m8_r4 : List MI := [
  ⟨(some 17), .move (.t 1), none⟩,
  ⟨(some 18), .call 10 [(.t 17), (.k (.sc (.int .i64 1)))], none⟩,
  ⟨(some 3), .move (.t 18), none⟩]
def m8_r5 : List MI := [
  ⟨(some 19), .move (.t 1), none⟩,
  ⟨(some 20), .call 10 [(.t 19), (.k (.sc (.int .i64 2)))], none⟩]
def m8_r6 : List MI := [
  ⟨(some 21), .move (.t 1), none⟩,
  ⟨(some 22), .call 10 [(.t 21), (.k (.sc (.int .i64 3)))], none⟩,
  ⟨(some 4), .move (.t 22), none⟩]
def m8_r7 : List MI := [
  ⟨(some 24), .move (.t 1), none⟩,
  ⟨(some 25), .call 26 [(.t 24), (.k (.sc (.int .i64 0)))], none⟩,
  ⟨(some 23), .move (.t 25), none⟩,
  ⟨(some 26), .extract (.t 23) 0, none⟩,
  ⟨(some 27), .extract (.t 23) 1, none⟩,
  ⟨(some 5), .move (.t 26), none⟩,
  ⟨(some 6), .move (.t 27), none⟩]
def m8_r8 : List MI := [
  ⟨(some 28), .move (.t 3), none⟩,
  ⟨(some 29), .un .not (.t 28), none⟩,
  ⟨(some 30), .move (.t 29), none⟩,
  ⟨(some 31), .move (.t 4), (some (30, true))⟩,
  ⟨(some 32), .pick (.t 30) (.t 31) (.k (.sc (.bool false))), none⟩,
  ⟨(some 33), .move (.t 32), none⟩,
  ⟨(some 34), .move (.t 5), (some (33, true))⟩,
  ⟨(some 35), .bin .eql .no (.t 34) (.k (.sc (.int .i64 2))), (some (33, true))⟩,
  ⟨(some 36), .pick (.t 33) (.t 35) (.k (.sc (.bool false))), none⟩,
  ⟨(some 37), .move (.t 36), none⟩,
  ⟨(some 38), .move (.t 6), (some (37, true))⟩,
  ⟨(some 39), .pick (.t 37) (.t 38) (.k (.sc (.bool false))), none⟩,
  ⟨(some 40), .move (.t 39), none⟩,
  ⟨(some 41), .move (.t 1), (some (40, true))⟩,
  ⟨(some 42), .call 11 [(.t 41), (.k (.sc (.int .i64 9)))], (some (40, true))⟩,
  ⟨(some 43), .buildSlice 3 1 2 [.int .i64 0] [(0, 1, (.k (.sc (.int .i64 2)))), (1, 1, (.k (.sc (.int .i64 3))))], (some (40, true))⟩,
  ⟨(some 44), .call 14 [(.t 42), (.t 43)], (some (40, true))⟩,
  ⟨(some 45), .pick (.t 40) (.t 44) (.k (.sc (.bool false))), none⟩,
  ⟨(some 46), .move (.t 45), none⟩,
  ⟨(some 47), .move (.t 1), (some (46, true))⟩,
  ⟨(some 48), .call 22 [(.t 47)], (some (46, true))⟩,
  ⟨(some 49), .bin .eql .no (.t 48) (.k (.sc (.int .i64 2))), (some (46, true))⟩,
  ⟨(some 50), .pick (.t 46) (.t 49) (.k (.sc (.bool false))), none⟩,
  ⟨(some 51), .move (.t 50), none⟩,
  ⟨(some 52), .move (.t 1), (some (51, true))⟩,
  ⟨(some 53), .call 23 [(.t 52)], (some (51, true))⟩,
  ⟨(some 54), .bin .eql .no (.t 53) (.k (.sc (.int .i64 1))), (some (51, true))⟩,
  ⟨(some 55), .pick (.t 51) (.t 54) (.k (.sc (.bool false))), none⟩,
  ⟨(some 56), .move (.t 55), none⟩,
  ⟨(some 57), .move (.t 1), (some (56, true))⟩,
  ⟨(some 58), .call 28 [(.t 57), (.k (.sc (.int .i64 9)))], (some (56, true))⟩,
  ⟨(some 59), .buildSlice 3 1 2 [.int .i64 0] [(0, 1, (.k (.sc (.int .i64 2)))), (1, 1, (.k (.sc (.int .i64 3))))], (some (56, true))⟩,
  ⟨(some 60), .call 14 [(.t 58), (.t 59)], (some (56, true))⟩,
  ⟨(some 61), .pick (.t 56) (.t 60) (.k (.sc (.bool false))), none⟩,
  ⟨(some 0), .move (.t 61), none⟩]
def m8_code : MCode := (.seq (.ops m8_r0) (.seq (.ops m8_r1) (.seq (.seq (.ops m8_r2) (.cond (.t 16) (.seq (.ops m8_r3) .ret) .skip)) (.seq (.ops m8_r4) (.seq (.ops m8_r5) (.seq (.ops m8_r6) (.seq (.ops m8_r7) (.seq (.ops m8_r8) .ret))))))))
def m8 : MFunc := ⟨62, [.tmp 0], m8_code⟩

def m9_r0 : List MI := [
  ⟨(some 2), .move (.k (.sc (.nilp))), none⟩,
  ⟨(some 3), .move (.k (.sc (.int .i64 0))), none⟩]
def m9_r1 : List MI := [
  ⟨(some 4), .move (.t 0), none⟩,
  ⟨(some 5), .bin .lss .no (.t 4) (.k (.sc (.int .i64 0))), none⟩,
  ⟨(some 6), .move (.t 5), none⟩,
  ⟨(some 7), .move (.t 0), (some (6, false))⟩,
  ⟨(some 8), .bin .gtr .no (.t 7) (.k (.sc (.int .i64 500))), (some (6, false))⟩,
  ⟨(some 9), .pick (.t 6) (.k (.sc (.bool true))) (.t 8), none⟩]
def m9_r2 : List MI := [
  ⟨(some 2), .move (.k (.sc (.nilp))), none⟩,
  ⟨(some 3), .move (.k (.sc (.int .i64 1))), none⟩]
def m9_r3 : List MI := [
  ⟨(some 10), .move (.t 0), none⟩,
  ⟨(some 11), .build [.bool false, .int .i64 0, .nils, .int .i64 0, .int .i64 0, .int .i64 0] [(0, 1, (.k (.sc (.bool true)))), (1, 1, (.t 10))], none⟩,
  ⟨(some 12), .box 54 (.t 11), none⟩,
  ⟨(some 2), .move (.t 12), none⟩,
  ⟨(some 3), .move (.k (.sc (.int .i64 0))), none⟩]
def m9_code : MCode := (.seq (.ops m9_r0) (.seq (.seq (.ops m9_r1) (.cond (.t 9) (.seq (.ops m9_r2) .ret) .skip)) (.seq (.ops m9_r3) .ret)))
def m9 : MFunc := ⟨13, [.tmp 2, .tmp 3], m9_code⟩

def m10_r0 : List MI := [
  ⟨(some 4), .move (.k (.sc (.bool false))), none⟩]
def m10_r1 : List MI := [
  ⟨(some 5), .move (.t 0), none⟩,
  ⟨(some 6), .call 30 [(.t 5)], none⟩]
def m10_r2 : List MI := [
  ⟨(some 4), .move (.k (.sc (.bool false))), none⟩]
def m10_r3 : List MI := [
  ⟨(some 7), .move (.t 0), none⟩,
  ⟨(some 8), .nilCheck (.t 7), none⟩,
  ⟨(some 9), .fieldAddr 1 (.t 8), none⟩,
  ⟨(some 10), .load none (.t 9), none⟩,
  ⟨(some 11), .bin .eql .no (.t 10) (.k (.sc (.int .i64 0))), none⟩]
def m10_r4 : List MI := [
  ⟨(some 12), .move (.t 0), none⟩,
  ⟨(some 13), .nilCheck (.t 12), none⟩,
  ⟨(some 14), .fieldAddr 5 (.t 13), none⟩,
  ⟨(some 15), .load none (.t 14), none⟩,
  ⟨(some 16), .bin .add .no (.t 15) (.k (.sc (.int .i64 1))), none⟩,
  ⟨(some 17), .nilCheck (.t 12), none⟩,
  ⟨(some 18), .fieldAddr 5 (.t 17), none⟩,
  ⟨none, .store 1 (.t 18) (.t 16), none⟩]
def m10_r5 : List MI := [
  ⟨(some 4), .move (.k (.sc (.bool true))), none⟩]
def m10_r6 : List DI := [
  ⟨⟨(some 19), .move (.t 0), none⟩, 0, [], []⟩,
  ⟨⟨(some 20), .nilCheck (.t 19), none⟩, 0, [], []⟩,
  ⟨⟨(some 21), .fieldAddr 4 (.t 20), none⟩, 0, [], []⟩,
  ⟨⟨(some 22), .load none (.t 21), none⟩, 1, [], []⟩,
  ⟨⟨(some 23), .move (.t 0), none⟩, 0, [], []⟩,
  ⟨⟨(some 24), .nilCheck (.t 23), none⟩, 0, [], []⟩,
  ⟨⟨(some 25), .fieldAddr 2 (.t 24), none⟩, 0, [], []⟩,
  ⟨⟨(some 26), .load none (.t 25), none⟩, 1, [], []⟩,
  ⟨⟨(some 27), .lenSlice (.t 26), none⟩, 0, [], []⟩,
  ⟨⟨(some 28), .bin .eql .no (.t 22) (.t 27), none⟩, 0, [], []⟩,
  ⟨⟨(some 29), .move (.t 28), none⟩, 0, [], []⟩,
  ⟨⟨(some 30), .move (.t 0), (some (29, true))⟩, 0, [], []⟩,
  ⟨⟨(some 31), .nilCheck (.t 30), (some (29, true))⟩, 0, [], []⟩,
  ⟨⟨(some 32), .fieldAddr 4 (.t 31), (some (29, true))⟩, 0, [], []⟩,
  ⟨⟨(some 33), .load none (.t 32), (some (29, true))⟩, 1, [], []⟩,
  ⟨⟨(some 34), .move (.t 0), (some (29, true))⟩, 0, [], []⟩,
  ⟨⟨(some 35), .nilCheck (.t 34), (some (29, true))⟩, 0, [], []⟩,
  ⟨⟨(some 36), .fieldAddr 1 (.t 35), (some (29, true))⟩, 0, [], []⟩,
  ⟨⟨(some 37), .load none (.t 36), (some (29, true))⟩, 1, [], []⟩,
  ⟨⟨(some 38), .bin .lss .no (.t 33) (.t 37), (some (29, true))⟩, 0, [], []⟩,
  ⟨⟨(some 39), .pick (.t 29) (.t 38) (.k (.sc (.bool false))), none⟩, 0, [], []⟩]
def m10_r7 : List MI := [
  ⟨(some 40), .move (.t 0), none⟩,
  ⟨(some 41), .call 31 [(.t 40)], none⟩]
def m10_r8 : List DI := [
  ⟨⟨(some 42), .move (.t 0), none⟩, 0, [], []⟩,
  ⟨⟨(some 43), .nilCheck (.t 42), none⟩, 0, [], []⟩,
  ⟨⟨(some 44), .fieldAddr 4 (.t 43), none⟩, 0, [], []⟩,
  ⟨⟨(some 45), .load none (.t 44), none⟩, 1, [], []⟩,
  ⟨⟨(some 46), .move (.t 0), none⟩, 0, [], []⟩,
  ⟨⟨(some 47), .nilCheck (.t 46), none⟩, 0, [], []⟩,
  ⟨⟨(some 48), .fieldAddr 2 (.t 47), none⟩, 0, [], []⟩,
  ⟨⟨(some 49), .load none (.t 48), none⟩, 1, [], []⟩,
  ⟨⟨(some 50), .lenSlice (.t 49), none⟩, 0, [], []⟩,
  ⟨⟨(some 51), .bin .lss .no (.t 45) (.t 50), none⟩, 0, [], []⟩]
def m10_r9 : List MI := [
  ⟨(some 52), .move (.t 0), none⟩,
  ⟨(some 53), .nilCheck (.t 52), none⟩,
  ⟨(some 54), .fieldAddr 4 (.t 53), none⟩,
  ⟨(some 55), .load none (.t 54), none⟩,
  ⟨(some 56), .bin .add .no (.t 55) (.k (.sc (.int .i64 1))), none⟩,
  ⟨(some 57), .nilCheck (.t 52), none⟩,
  ⟨(some 58), .fieldAddr 4 (.t 57), none⟩,
  ⟨none, .store 1 (.t 58) (.t 56), none⟩]
def m10_r10 : List DI := [
  ⟨⟨(some 59), .move (.t 0), none⟩, 0, [], [10]⟩,
  ⟨⟨(some 60), .nilCheck (.t 59), none⟩, 0, [], [10]⟩,
  ⟨⟨(some 61), .fieldAddr 2 (.t 60), none⟩, 0, [], [10]⟩,
  ⟨⟨(some 62), .load none (.t 61), none⟩, 1, [], [10]⟩,
  ⟨⟨(some 63), .move (.t 0), none⟩, 0, [], []⟩,
  ⟨⟨(some 64), .move (.t 0), none⟩, 0, [], []⟩,
  ⟨⟨(some 65), .nilCheck (.t 64), none⟩, 0, [], []⟩,
  ⟨⟨(some 66), .fieldAddr 4 (.t 65), none⟩, 0, [], []⟩,
  ⟨⟨(some 67), .load none (.t 66), none⟩, 1, [], []⟩,
  ⟨⟨(some 68), .bin .sub .no (.t 67) (.k (.sc (.int .i64 1))), none⟩, 0, [], []⟩,
  ⟨⟨(some 69), .call 32 [(.t 63), (.t 68)], none⟩, 2, [], []⟩,
  ⟨⟨(some 70), .move (.t 1), none⟩, 0, [10], []⟩,
  ⟨⟨(some 71), .indexSlice 1 (.t 62) (.t 69), none⟩, 0, [], []⟩,
  ⟨⟨none, .store 1 (.t 71) (.t 70), none⟩, 2, [], []⟩]
def m10_r11 : List MI := [
  ⟨(some 4), .move (.k (.sc (.bool false))), none⟩]
def m10_r12 : List DI := [
  ⟨⟨(some 72), .move (.t 0), none⟩, 0, [], []⟩,
  ⟨⟨(some 73), .nilCheck (.t 72), none⟩, 0, [], []⟩,
  ⟨⟨(some 74), .fieldAddr 2 (.t 73), none⟩, 0, [], []⟩,
  ⟨⟨(some 75), .load none (.t 74), none⟩, 1, [], []⟩,
  ⟨⟨(some 76), .move (.t 0), none⟩, 0, [], []⟩,
  ⟨⟨(some 77), .nilCheck (.t 76), none⟩, 0, [], []⟩,
  ⟨⟨(some 78), .fieldAddr 3 (.t 77), none⟩, 0, [], []⟩,
  ⟨⟨(some 79), .load none (.t 78), none⟩, 1, [], []⟩,
  ⟨⟨(some 80), .move (.t 1), none⟩, 0, [], []⟩,
  ⟨⟨(some 81), .indexSlice 1 (.t 75) (.t 79), none⟩, 0, [], []⟩,
  ⟨⟨none, .store 1 (.t 81) (.t 80), none⟩, 2, [], []⟩]
def m10_r13 : List MI := [
  ⟨(some 82), .move (.t 0), none⟩,
  ⟨(some 83), .move (.t 0), none⟩,
  ⟨(some 84), .call 32 [(.t 83), (.k (.sc (.int .i64 1)))], none⟩,
  ⟨(some 85), .nilCheck (.t 82), none⟩,
  ⟨(some 86), .fieldAddr 3 (.t 85), none⟩,
  ⟨none, .store 1 (.t 86) (.t 84), none⟩]
def m10_r14 : List MI := [
  ⟨(some 87), .move (.t 0), none⟩,
  ⟨(some 88), .nilCheck (.t 87), none⟩,
  ⟨(some 89), .fieldAddr 5 (.t 88), none⟩,
  ⟨(some 90), .load none (.t 89), none⟩,
  ⟨(some 91), .bin .add .no (.t 90) (.k (.sc (.int .i64 1))), none⟩,
  ⟨(some 92), .nilCheck (.t 87), none⟩,
  ⟨(some 93), .fieldAddr 5 (.t 92), none⟩,
  ⟨none, .store 1 (.t 93) (.t 91), none⟩]
def m10_r15 : List MI := [
  ⟨(some 4), .move (.k (.sc (.bool true))), none⟩]
def m10_code : MCode := (.seq (.ops m10_r0) (.seq (.seq (.ops m10_r1) (.cond (.t 6) (.seq (.ops m10_r2) .ret) .skip)) (.seq (.seq (.ops m10_r3) (.cond (.t 11) (.seq (.ops m10_r4) (.seq (.ops m10_r5) .ret)) .skip)) (.seq (.seq (.draw m10_r6) (.cond (.t 39) (.ops m10_r7) .skip)) (.seq (.seq (.draw m10_r8) (.cond (.t 51) (.seq (.ops m10_r9) (.seq (.draw m10_r10) (.seq (.ops m10_r11) .ret))) .skip)) (.seq (.draw m10_r12) (.seq (.ops m10_r13) (.seq (.ops m10_r14) (.seq (.ops m10_r15) .ret)))))))))
def m10 : MFunc := ⟨94, [.tmp 4], m10_code⟩

def m11_r0 : List MI := [
  ⟨(some 4), .move (.k (.sc (.nils))), none⟩]
def m11_r1 : List MI := [
  ⟨(some 5), .alloc 22 [.nils], none⟩]
def m11_r2 : List MI := [
  ⟨(some 9), .move (.t 0), none⟩,
  ⟨(some 10), .call 22 [(.t 9)], none⟩,
  ⟨(some 11), .move (.t 1), none⟩,
  ⟨(some 12), .max [(.t 11), (.k (.sc (.int .i64 0)))], none⟩,
  ⟨(some 13), .bin .sub .no (.t 10) (.t 12), none⟩,
  ⟨(some 6), .alloc 3 [.int .i64 0], none⟩,
  ⟨none, .store 1 (.t 6) (.t 13), none⟩]
def m11_r3 : List MI := [
  ⟨(some 14), .move (.t 0), none⟩,
  ⟨(some 15), .call 12 [(.t 14)], none⟩]
def m11_r6 : List MI := [
  ⟨(some 7), .move (.t 16), none⟩]
def m11_r7 : List MI := [
  ⟨(some 8), .move (.t 17), none⟩]
def m11_r8 : List MI := [
  ⟨(some 18), .move (.t 7), none⟩,
  ⟨(some 19), .load none (.t 6), none⟩,
  ⟨(some 20), .bin .geq .no (.t 18) (.t 19), none⟩]
def m11_r9 : List MI := [
  ⟨(some 21), .load none (.t 5), none⟩,
  ⟨(some 22), .move (.t 8), none⟩,
  ⟨(some 23), .buildSlice 3 1 1 [.int .i64 0] [(0, 1, (.t 22))], none⟩,
  ⟨(some 24), .append 3 1 8 [.int .i64 0] (.t 21) (.t 23), none⟩,
  ⟨none, .store 1 (.t 5) (.t 24), none⟩]
def m11_l4 : MCode := (.seq (.ops m11_r6) (.ops m11_r7))
def m11_l5 : MCode := (.block 1 (.seq (.ops m11_r8) (.cond (.t 20) (.ops m11_r9) .skip)))
def m11_r10 : List MI := [
  ⟨(some 25), .load none (.t 5), none⟩,
  ⟨(some 4), .move (.t 25), none⟩]
def m11_code : MCode := (.marked (.seq (.ops m11_r0) (.seq (.ops m11_r1) (.seq (.ops m11_r2) (.seq (.seq (.ops m11_r3) (.block 0 (.rangeF (.t 15) [16, 17] m11_l4 m11_l5))) (.seq (.ops m11_r10) .ret))))))
def m11 : MFunc := ⟨26, [.tmp 4], m11_code⟩

def m12_r0 : List MI := [
  ⟨(some 1), .box 24 (.t 0), none⟩,
  ⟨(some 2), .move (.k (.sc (.nilf))), none⟩]
def m12_r1 : List MI := [
  ⟨(some 3), .makeFunc 33 [(.t 1)], none⟩,
  ⟨(some 2), .move (.t 3), none⟩]
def m12_code : MCode := (.seq (.ops m12_r0) (.seq (.ops m12_r1) .ret))
def m12 : MFunc := ⟨4, [.tmp 2], m12_code⟩

def m13_r0 : List MI := [
  ⟨(some 2), .move (.k (.sc (.int .i64 0))), none⟩,
  ⟨(some 3), .move (.k (.sc (.bool false))), none⟩]
def m13_r1 : List MI := [
  ⟨(some 5), .move (.t 0), none⟩,
  ⟨(some 6), .call 22 [(.t 5)], none⟩,
  ⟨(some 7), .bin .eql .no (.t 6) (.k (.sc (.int .i64 0))), none⟩]
def m13_r2 : List MI := [
  ⟨(some 8), .move (.t 2), none⟩,
  ⟨(some 2), .move (.t 8), none⟩,
  ⟨(some 3), .move (.k (.sc (.bool false))), none⟩]
def m13_r3 : List MI := [
  ⟨(some 9), .move (.t 0), none⟩,
  ⟨(some 10), .move (.t 0), none⟩,
  ⟨(some 11), .nilCheck (.t 10), none⟩,
  ⟨(some 12), .fieldAddr 4 (.t 11), none⟩,
  ⟨(some 13), .load none (.t 12), none⟩,
  ⟨(some 14), .bin .sub .no (.t 13) (.k (.sc (.int .i64 1))), none⟩,
  ⟨(some 15), .call 32 [(.t 9), (.t 14)], none⟩,
  ⟨(some 4), .move (.t 15), none⟩]
def m13_r4 : List DI := [
  ⟨⟨(some 16), .move (.t 0), none⟩, 0, [], []⟩,
  ⟨⟨(some 17), .nilCheck (.t 16), none⟩, 0, [], []⟩,
  ⟨⟨(some 18), .fieldAddr 2 (.t 17), none⟩, 0, [], []⟩,
  ⟨⟨(some 19), .load none (.t 18), none⟩, 1, [], []⟩,
  ⟨⟨(some 20), .move (.t 4), none⟩, 0, [], []⟩,
  ⟨⟨(some 21), .move (.t 0), none⟩, 0, [], []⟩,
  ⟨⟨(some 22), .nilCheck (.t 21), none⟩, 0, [], []⟩,
  ⟨⟨(some 23), .fieldAddr 2 (.t 22), none⟩, 0, [], []⟩,
  ⟨⟨(some 24), .load none (.t 23), none⟩, 1, [], []⟩,
  ⟨⟨(some 25), .move (.t 4), none⟩, 0, [], []⟩,
  ⟨⟨(some 26), .indexSlice 1 (.t 24) (.t 25), none⟩, 0, [], []⟩,
  ⟨⟨(some 27), .load none (.t 26), none⟩, 1, [], []⟩,
  ⟨⟨(some 28), .move (.t 2), none⟩, 0, [], []⟩,
  ⟨⟨(some 2), .move (.t 27), none⟩, 0, [], []⟩,
  ⟨⟨(some 29), .indexSlice 1 (.t 19) (.t 20), none⟩, 0, [], []⟩,
  ⟨⟨none, .store 1 (.t 29) (.t 28), none⟩, 2, [], []⟩]
def m13_r5 : List MI := [
  ⟨(some 30), .move (.t 0), none⟩,
  ⟨(some 31), .nilCheck (.t 30), none⟩,
  ⟨(some 32), .fieldAddr 4 (.t 31), none⟩,
  ⟨(some 33), .load none (.t 32), none⟩,
  ⟨(some 34), .bin .sub .no (.t 33) (.k (.sc (.int .i64 1))), none⟩,
  ⟨(some 35), .nilCheck (.t 30), none⟩,
  ⟨(some 36), .fieldAddr 4 (.t 35), none⟩,
  ⟨none, .store 1 (.t 36) (.t 34), none⟩]
def m13_r6 : List MI := [
  ⟨(some 37), .move (.t 2), none⟩,
  ⟨(some 2), .move (.t 37), none⟩,
  ⟨(some 3), .move (.k (.sc (.bool true))), none⟩]
def m13_code : MCode := (.seq (.ops m13_r0) (.seq (.seq (.ops m13_r1) (.cond (.t 7) (.seq (.ops m13_r2) .ret) .skip)) (.seq (.ops m13_r3) (.seq (.draw m13_r4) (.seq (.ops m13_r5) (.seq (.ops m13_r6) .ret))))))
def m13 : MFunc := ⟨38, [.tmp 2, .tmp 3], m13_code⟩

def m14_r0 : List MI := [
  ⟨(some 4), .move (.k (.sc (.bool false))), none⟩]
def m14_r1 : List MI := [
  ⟨(some 6), .move (.t 0), none⟩,
  ⟨(some 7), .lenSlice (.t 6), none⟩,
  ⟨(some 8), .move (.t 1), none⟩,
  ⟨(some 9), .lenSlice (.t 8), none⟩,
  ⟨(some 10), .bin .neq .no (.t 7) (.t 9), none⟩]
def m14_r2 : List MI := [
  ⟨(some 4), .move (.k (.sc (.bool false))), none⟩]
def m14_r3 : List MI := [
  ⟨(some 5), .move (.k (.sc (.int .i64 0))), none⟩]
def m14_r5 : List MI := [
  ⟨(some 11), .move (.t 5), none⟩,
  ⟨(some 12), .move (.t 0), none⟩,
  ⟨(some 13), .lenSlice (.t 12), none⟩,
  ⟨(some 14), .bin .lss .no (.t 11) (.t 13), none⟩]
def m14_r6 : List DI := [
  ⟨⟨(some 17), .move (.t 0), none⟩, 0, [], []⟩,
  ⟨⟨(some 18), .move (.t 5), none⟩, 0, [], []⟩,
  ⟨⟨(some 19), .indexSlice 1 (.t 17) (.t 18), none⟩, 0, [], []⟩,
  ⟨⟨(some 20), .load none (.t 19), none⟩, 1, [], []⟩,
  ⟨⟨(some 21), .move (.t 1), none⟩, 0, [], []⟩,
  ⟨⟨(some 22), .move (.t 5), none⟩, 0, [], []⟩,
  ⟨⟨(some 23), .indexSlice 1 (.t 21) (.t 22), none⟩, 0, [], []⟩,
  ⟨⟨(some 24), .load none (.t 23), none⟩, 1, [], []⟩,
  ⟨⟨(some 25), .bin .neq .no (.t 20) (.t 24), none⟩, 0, [], []⟩]
def m14_r7 : List MI := [
  ⟨(some 4), .move (.k (.sc (.bool false))), none⟩]
def m14_r8 : List MI := [
  ⟨(some 15), .move (.t 5), none⟩,
  ⟨(some 16), .bin .add .no (.t 15) (.k (.sc (.int .i64 1))), none⟩,
  ⟨(some 5), .move (.t 16), none⟩]
def m14_l4 : MCode := (.seq (.seq (.ops m14_r5) (.cond (.t 14) .skip (.exit 0))) (.seq (.block 1 (.seq (.draw m14_r6) (.cond (.t 25) (.seq (.ops m14_r7) .ret) .skip))) (.ops m14_r8)))
def m14_r9 : List MI := [
  ⟨(some 4), .move (.k (.sc (.bool true))), none⟩]
def m14_code : MCode := (.seq (.ops m14_r0) (.seq (.seq (.ops m14_r1) (.cond (.t 10) (.seq (.ops m14_r2) .ret) .skip)) (.seq (.seq (.ops m14_r3) (.block 0 (.loop m14_l4))) (.seq (.ops m14_r9) .ret))))
def m14 : MFunc := ⟨26, [.tmp 4], m14_code⟩

def m15_r0 : List MI := [
  ⟨(some 2), .move (.k (.sc (.nilp))), none⟩,
  ⟨(some 3), .move (.k (.sc (.int .i64 0))), none⟩]
def m15_r1 : List MI := [
  ⟨(some 4), .move (.t 0), none⟩,
  ⟨(some 5), .bin .lss .no (.t 4) (.k (.sc (.int .i64 0))), none⟩,
  ⟨(some 6), .move (.t 5), none⟩,
  ⟨(some 7), .move (.t 0), (some (6, false))⟩,
  ⟨(some 8), .bin .gtr .no (.t 7) (.k (.sc (.int .i64 500))), (some (6, false))⟩,
  ⟨(some 9), .pick (.t 6) (.k (.sc (.bool true))) (.t 8), none⟩]
def m15_r2 : List MI := [
  ⟨(some 2), .move (.k (.sc (.nilp))), none⟩,
  ⟨(some 3), .move (.k (.sc (.int .i64 1))), none⟩]
def m15_r3 : List MI := [
  ⟨(some 10), .move (.t 0), none⟩,
  ⟨(some 11), .build [.bool false, .int .i64 0, .nils, .int .i64 0, .int .i64 0, .int .i64 0] [(0, 1, (.k (.sc (.bool true)))), (1, 1, (.t 10))], none⟩,
  ⟨(some 12), .box 60 (.t 11), none⟩,
  ⟨(some 2), .move (.t 12), none⟩,
  ⟨(some 3), .move (.k (.sc (.int .i64 0))), none⟩]
def m15_code : MCode := (.seq (.ops m15_r0) (.seq (.seq (.ops m15_r1) (.cond (.t 9) (.seq (.ops m15_r2) .ret) .skip)) (.seq (.ops m15_r3) .ret)))
def m15 : MFunc := ⟨13, [.tmp 2, .tmp 3], m15_code⟩

def m16_r0 : List MI := [
  ⟨(some 4), .move (.k (.sc (.bool false))), none⟩]
def m16_r1 : List MI := [
  ⟨(some 5), .move (.t 0), none⟩,
  ⟨(some 6), .call 34 [(.t 5)], none⟩]
def m16_r2 : List MI := [
  ⟨(some 4), .move (.k (.sc (.bool false))), none⟩]
def m16_r3 : List MI := [
  ⟨(some 7), .move (.t 0), none⟩,
  ⟨(some 8), .nilCheck (.t 7), none⟩,
  ⟨(some 9), .fieldAddr 1 (.t 8), none⟩,
  ⟨(some 10), .load none (.t 9), none⟩,
  ⟨(some 11), .bin .eql .no (.t 10) (.k (.sc (.int .i64 0))), none⟩]
def m16_r4 : List MI := [
  ⟨(some 12), .move (.t 0), none⟩,
  ⟨(some 13), .nilCheck (.t 12), none⟩,
  ⟨(some 14), .fieldAddr 5 (.t 13), none⟩,
  ⟨(some 15), .load none (.t 14), none⟩,
  ⟨(some 16), .bin .add .no (.t 15) (.k (.sc (.int .i64 1))), none⟩,
  ⟨(some 17), .nilCheck (.t 12), none⟩,
  ⟨(some 18), .fieldAddr 5 (.t 17), none⟩,
  ⟨none, .store 1 (.t 18) (.t 16), none⟩]
def m16_r5 : List MI := [
  ⟨(some 4), .move (.k (.sc (.bool true))), none⟩]
def m16_r6 : List DI := [
  ⟨⟨(some 19), .move (.t 0), none⟩, 0, [], []⟩,
  ⟨⟨(some 20), .nilCheck (.t 19), none⟩, 0, [], []⟩,
  ⟨⟨(some 21), .fieldAddr 4 (.t 20), none⟩, 0, [], []⟩,
  ⟨⟨(some 22), .load none (.t 21), none⟩, 1, [], []⟩,
  ⟨⟨(some 23), .move (.t 0), none⟩, 0, [], []⟩,
  ⟨⟨(some 24), .nilCheck (.t 23), none⟩, 0, [], []⟩,
  ⟨⟨(some 25), .fieldAddr 2 (.t 24), none⟩, 0, [], []⟩,
  ⟨⟨(some 26), .load none (.t 25), none⟩, 1, [], []⟩,
  ⟨⟨(some 27), .lenSlice (.t 26), none⟩, 0, [], []⟩,
  ⟨⟨(some 28), .bin .eql .no (.t 22) (.t 27), none⟩, 0, [], []⟩,
  ⟨⟨(some 29), .move (.t 28), none⟩, 0, [], []⟩,
  ⟨⟨(some 30), .move (.t 0), (some (29, true))⟩, 0, [], []⟩,
  ⟨⟨(some 31), .nilCheck (.t 30), (some (29, true))⟩, 0, [], []⟩,
  ⟨⟨(some 32), .fieldAddr 4 (.t 31), (some (29, true))⟩, 0, [], []⟩,
  ⟨⟨(some 33), .load none (.t 32), (some (29, true))⟩, 1, [], []⟩,
  ⟨⟨(some 34), .move (.t 0), (some (29, true))⟩, 0, [], []⟩,
  ⟨⟨(some 35), .nilCheck (.t 34), (some (29, true))⟩, 0, [], []⟩,
  ⟨⟨(some 36), .fieldAddr 1 (.t 35), (some (29, true))⟩, 0, [], []⟩,
  ⟨⟨(some 37), .load none (.t 36), (some (29, true))⟩, 1, [], []⟩,
  ⟨⟨(some 38), .bin .lss .no (.t 33) (.t 37), (some (29, true))⟩, 0, [], []⟩,
  ⟨⟨(some 39), .pick (.t 29) (.t 38) (.k (.sc (.bool false))), none⟩, 0, [], []⟩]
def m16_r7 : List MI := [
  ⟨(some 40), .move (.t 0), none⟩,
  ⟨(some 41), .call 35 [(.t 40)], none⟩]
def m16_r8 : List DI := [
  ⟨⟨(some 42), .move (.t 0), none⟩, 0, [], []⟩,
  ⟨⟨(some 43), .nilCheck (.t 42), none⟩, 0, [], []⟩,
  ⟨⟨(some 44), .fieldAddr 4 (.t 43), none⟩, 0, [], []⟩,
  ⟨⟨(some 45), .load none (.t 44), none⟩, 1, [], []⟩,
  ⟨⟨(some 46), .move (.t 0), none⟩, 0, [], []⟩,
  ⟨⟨(some 47), .nilCheck (.t 46), none⟩, 0, [], []⟩,
  ⟨⟨(some 48), .fieldAddr 2 (.t 47), none⟩, 0, [], []⟩,
  ⟨⟨(some 49), .load none (.t 48), none⟩, 1, [], []⟩,
  ⟨⟨(some 50), .lenSlice (.t 49), none⟩, 0, [], []⟩,
  ⟨⟨(some 51), .bin .lss .no (.t 45) (.t 50), none⟩, 0, [], []⟩]
def m16_r9 : List MI := [
  ⟨(some 52), .move (.t 0), none⟩,
  ⟨(some 53), .nilCheck (.t 52), none⟩,
  ⟨(some 54), .fieldAddr 4 (.t 53), none⟩,
  ⟨(some 55), .load none (.t 54), none⟩,
  ⟨(some 56), .bin .add .no (.t 55) (.k (.sc (.int .i64 1))), none⟩,
  ⟨(some 57), .nilCheck (.t 52), none⟩,
  ⟨(some 58), .fieldAddr 4 (.t 57), none⟩,
  ⟨none, .store 1 (.t 58) (.t 56), none⟩]
def m16_r10 : List DI := [
  ⟨⟨(some 59), .move (.t 0), none⟩, 0, [], [10]⟩,
  ⟨⟨(some 60), .nilCheck (.t 59), none⟩, 0, [], [10]⟩,
  ⟨⟨(some 61), .fieldAddr 2 (.t 60), none⟩, 0, [], [10]⟩,
  ⟨⟨(some 62), .load none (.t 61), none⟩, 1, [], [10]⟩,
  ⟨⟨(some 63), .move (.t 0), none⟩, 0, [], []⟩,
  ⟨⟨(some 64), .move (.t 0), none⟩, 0, [], []⟩,
  ⟨⟨(some 65), .nilCheck (.t 64), none⟩, 0, [], []⟩,
  ⟨⟨(some 66), .fieldAddr 4 (.t 65), none⟩, 0, [], []⟩,
  ⟨⟨(some 67), .load none (.t 66), none⟩, 1, [], []⟩,
  ⟨⟨(some 68), .bin .sub .no (.t 67) (.k (.sc (.int .i64 1))), none⟩, 0, [], []⟩,
  ⟨⟨(some 69), .call 36 [(.t 63), (.t 68)], none⟩, 2, [], []⟩,
  ⟨⟨(some 70), .move (.t 1), none⟩, 0, [10], []⟩,
  ⟨⟨(some 71), .indexSlice 1 (.t 62) (.t 69), none⟩, 0, [], []⟩,
  ⟨⟨none, .store 1 (.t 71) (.t 70), none⟩, 2, [], []⟩]
def m16_r11 : List MI := [
  ⟨(some 4), .move (.k (.sc (.bool false))), none⟩]
def m16_r12 : List DI := [
  ⟨⟨(some 72), .move (.t 0), none⟩, 0, [], []⟩,
  ⟨⟨(some 73), .nilCheck (.t 72), none⟩, 0, [], []⟩,
  ⟨⟨(some 74), .fieldAddr 2 (.t 73), none⟩, 0, [], []⟩,
  ⟨⟨(some 75), .load none (.t 74), none⟩, 1, [], []⟩,
  ⟨⟨(some 76), .move (.t 0), none⟩, 0, [], []⟩,
  ⟨⟨(some 77), .nilCheck (.t 76), none⟩, 0, [], []⟩,
  ⟨⟨(some 78), .fieldAddr 3 (.t 77), none⟩, 0, [], []⟩,
  ⟨⟨(some 79), .load none (.t 78), none⟩, 1, [], []⟩,
  ⟨⟨(some 80), .move (.t 1), none⟩, 0, [], []⟩,
  ⟨⟨(some 81), .indexSlice 1 (.t 75) (.t 79), none⟩, 0, [], []⟩,
  ⟨⟨none, .store 1 (.t 81) (.t 80), none⟩, 2, [], []⟩]
def m16_r13 : List MI := [
  ⟨(some 82), .move (.t 0), none⟩,
  ⟨(some 83), .move (.t 0), none⟩,
  ⟨(some 84), .call 36 [(.t 83), (.k (.sc (.int .i64 1)))], none⟩,
  ⟨(some 85), .nilCheck (.t 82), none⟩,
  ⟨(some 86), .fieldAddr 3 (.t 85), none⟩,
  ⟨none, .store 1 (.t 86) (.t 84), none⟩]
def m16_r14 : List MI := [
  ⟨(some 87), .move (.t 0), none⟩,
  ⟨(some 88), .nilCheck (.t 87), none⟩,
  ⟨(some 89), .fieldAddr 5 (.t 88), none⟩,
  ⟨(some 90), .load none (.t 89), none⟩,
  ⟨(some 91), .bin .add .no (.t 90) (.k (.sc (.int .i64 1))), none⟩,
  ⟨(some 92), .nilCheck (.t 87), none⟩,
  ⟨(some 93), .fieldAddr 5 (.t 92), none⟩,
  ⟨none, .store 1 (.t 93) (.t 91), none⟩]
def m16_r15 : List MI := [
  ⟨(some 4), .move (.k (.sc (.bool true))), none⟩]
def m16_code : MCode := (.seq (.ops m16_r0) (.seq (.seq (.ops m16_r1) (.cond (.t 6) (.seq (.ops m16_r2) .ret) .skip)) (.seq (.seq (.ops m16_r3) (.cond (.t 11) (.seq (.ops m16_r4) (.seq (.ops m16_r5) .ret)) .skip)) (.seq (.seq (.draw m16_r6) (.cond (.t 39) (.ops m16_r7) .skip)) (.seq (.seq (.draw m16_r8) (.cond (.t 51) (.seq (.ops m16_r9) (.seq (.draw m16_r10) (.seq (.ops m16_r11) .ret))) .skip)) (.seq (.draw m16_r12) (.seq (.ops m16_r13) (.seq (.ops m16_r14) (.seq (.ops m16_r15) .ret)))))))))
def m16 : MFunc := ⟨94, [.tmp 4], m16_code⟩

def m17_r0 : List MI := [
  ⟨(some 2), .move (.k (.sc (.int .i64 0))), none⟩]
def m17_r1 : List MI := [
  ⟨(some 3), .move (.t 0), none⟩,
  ⟨(some 4), .call 34 [(.t 3)], none⟩]
def m17_r2 : List MI := [
  ⟨(some 2), .move (.k (.sc (.int .i64 0))), none⟩]
def m17_r3 : List MI := [
  ⟨(some 5), .move (.t 0), none⟩,
  ⟨(some 6), .nilCheck (.t 5), none⟩,
  ⟨(some 7), .fieldAddr 4 (.t 6), none⟩,
  ⟨(some 8), .load none (.t 7), none⟩,
  ⟨(some 2), .move (.t 8), none⟩]
def m17_code : MCode := (.seq (.ops m17_r0) (.seq (.seq (.ops m17_r1) (.cond (.t 4) (.seq (.ops m17_r2) .ret) .skip)) (.seq (.ops m17_r3) .ret)))
def m17 : MFunc := ⟨9, [.tmp 2], m17_code⟩

def m18_r0 : List MI := [
  ⟨(some 2), .move (.k (.sc (.int .i64 0))), none⟩]
def m18_r1 : List MI := [
  ⟨(some 3), .move (.t 0), none⟩,
  ⟨(some 4), .call 34 [(.t 3)], none⟩]
def m18_r2 : List MI := [
  ⟨(some 2), .move (.k (.sc (.int .i64 0))), none⟩]
def m18_r3 : List MI := [
  ⟨(some 5), .move (.t 0), none⟩,
  ⟨(some 6), .nilCheck (.t 5), none⟩,
  ⟨(some 7), .fieldAddr 5 (.t 6), none⟩,
  ⟨(some 8), .load none (.t 7), none⟩,
  ⟨(some 2), .move (.t 8), none⟩]
def m18_code : MCode := (.seq (.ops m18_r0) (.seq (.seq (.ops m18_r1) (.cond (.t 4) (.seq (.ops m18_r2) .ret) .skip)) (.seq (.ops m18_r3) .ret)))
def m18 : MFunc := ⟨9, [.tmp 2], m18_code⟩

def m19_r0 : List MI := [
  ⟨(some 4), .move (.k (.sc (.str []))), none⟩,
  ⟨(some 5), .move (.k (.sc (.bool false))), none⟩]
def m19_r1 : List MI := [
  ⟨(some 6), .move (.t 1), none⟩,
  ⟨(some 7), .bin .lss .no (.t 6) (.k (.sc (.int .i64 0))), none⟩,
  ⟨(some 8), .move (.t 7), none⟩,
  ⟨(some 9), .move (.t 1), (some (8, false))⟩,
  ⟨(some 10), .move (.t 0), (some (8, false))⟩,
  ⟨(some 11), .call 17 [(.t 10)], (some (8, false))⟩,
  ⟨(some 12), .bin .geq .no (.t 9) (.t 11), (some (8, false))⟩,
  ⟨(some 13), .pick (.t 8) (.k (.sc (.bool true))) (.t 12), none⟩]
def m19_r2 : List MI := [
  ⟨(some 14), .move (.t 4), none⟩,
  ⟨(some 4), .move (.t 14), none⟩,
  ⟨(some 5), .move (.k (.sc (.bool false))), none⟩]
def m19_r3 : List DI := [
  ⟨⟨(some 15), .move (.t 0), none⟩, 0, [], [6]⟩,
  ⟨⟨(some 16), .nilCheck (.t 15), none⟩, 0, [], [6]⟩,
  ⟨⟨(some 17), .fieldAddr 2 (.t 16), none⟩, 0, [], [6]⟩,
  ⟨⟨(some 18), .load none (.t 17), none⟩, 1, [], [6]⟩,
  ⟨⟨(some 19), .move (.t 0), none⟩, 0, [], []⟩,
  ⟨⟨(some 20), .move (.t 1), none⟩, 0, [], []⟩,
  ⟨⟨(some 21), .call 36 [(.t 19), (.t 20)], none⟩, 2, [], []⟩,
  ⟨⟨(some 22), .indexSlice 1 (.t 18) (.t 21), none⟩, 0, [], []⟩,
  ⟨⟨(some 23), .load none (.t 22), none⟩, 1, [], []⟩,
  ⟨⟨(some 4), .move (.t 23), none⟩, 0, [], []⟩,
  ⟨⟨(some 5), .move (.k (.sc (.bool true))), none⟩, 0, [], []⟩]
def m19_code : MCode := (.seq (.ops m19_r0) (.seq (.seq (.ops m19_r1) (.cond (.t 13) (.seq (.ops m19_r2) .ret) .skip)) (.seq (.draw m19_r3) .ret)))
def m19 : MFunc := ⟨24, [.tmp 4, .tmp 5], m19_code⟩

def m20_r0 : List MI := [
  ⟨(some 4), .move (.k (.sc (.nils))), none⟩]
def m20_r1 : List MI := [
  ⟨(some 5), .alloc 44 [.nils], none⟩]
def m20_r2 : List MI := [
  ⟨(some 9), .move (.t 0), none⟩,
  ⟨(some 10), .call 17 [(.t 9)], none⟩,
  ⟨(some 11), .move (.t 1), none⟩,
  ⟨(some 12), .max [(.t 11), (.k (.sc (.int .i64 0)))], none⟩,
  ⟨(some 13), .bin .sub .no (.t 10) (.t 12), none⟩,
  ⟨(some 6), .alloc 3 [.int .i64 0], none⟩,
  ⟨none, .store 1 (.t 6) (.t 13), none⟩]
def m20_r3 : List MI := [
  ⟨(some 14), .move (.t 0), none⟩,
  ⟨(some 15), .call 37 [(.t 14)], none⟩]
def m20_r6 : List MI := [
  ⟨(some 7), .move (.t 16), none⟩]
def m20_r7 : List MI := [
  ⟨(some 8), .move (.t 17), none⟩]
def m20_r8 : List MI := [
  ⟨(some 18), .move (.t 7), none⟩,
  ⟨(some 19), .load none (.t 6), none⟩,
  ⟨(some 20), .bin .geq .no (.t 18) (.t 19), none⟩]
def m20_r9 : List MI := [
  ⟨(some 21), .load none (.t 5), none⟩,
  ⟨(some 22), .move (.t 8), none⟩,
  ⟨(some 23), .buildSlice 9 1 1 [.str []] [(0, 1, (.t 22))], none⟩,
  ⟨(some 24), .append 9 1 16 [.str []] (.t 21) (.t 23), none⟩,
  ⟨none, .store 1 (.t 5) (.t 24), none⟩]
def m20_l4 : MCode := (.seq (.ops m20_r6) (.ops m20_r7))
def m20_l5 : MCode := (.block 1 (.seq (.ops m20_r8) (.cond (.t 20) (.ops m20_r9) .skip)))
def m20_r10 : List MI := [
  ⟨(some 25), .load none (.t 5), none⟩,
  ⟨(some 4), .move (.t 25), none⟩]
def m20_code : MCode := (.marked (.seq (.ops m20_r0) (.seq (.ops m20_r1) (.seq (.ops m20_r2) (.seq (.seq (.ops m20_r3) (.block 0 (.rangeF (.t 15) [16, 17] m20_l4 m20_l5))) (.seq (.ops m20_r10) .ret))))))
def m20 : MFunc := ⟨26, [.tmp 4], m20_code⟩

def m21_r0 : List MI := [
  ⟨(some 2), .move (.k (.sc (.str []))), none⟩,
  ⟨(some 3), .move (.k (.sc (.bool false))), none⟩]
def m21_r1 : List MI := [
  ⟨(some 5), .move (.t 0), none⟩,
  ⟨(some 6), .call 17 [(.t 5)], none⟩,
  ⟨(some 7), .bin .eql .no (.t 6) (.k (.sc (.int .i64 0))), none⟩]
def m21_r2 : List MI := [
  ⟨(some 8), .move (.t 2), none⟩,
  ⟨(some 2), .move (.t 8), none⟩,
  ⟨(some 3), .move (.k (.sc (.bool false))), none⟩]
def m21_r3 : List MI := [
  ⟨(some 9), .move (.t 0), none⟩,
  ⟨(some 10), .move (.t 0), none⟩,
  ⟨(some 11), .nilCheck (.t 10), none⟩,
  ⟨(some 12), .fieldAddr 4 (.t 11), none⟩,
  ⟨(some 13), .load none (.t 12), none⟩,
  ⟨(some 14), .bin .sub .no (.t 13) (.k (.sc (.int .i64 1))), none⟩,
  ⟨(some 15), .call 36 [(.t 9), (.t 14)], none⟩,
  ⟨(some 4), .move (.t 15), none⟩]
def m21_r4 : List DI := [
  ⟨⟨(some 16), .move (.t 0), none⟩, 0, [], []⟩,
  ⟨⟨(some 17), .nilCheck (.t 16), none⟩, 0, [], []⟩,
  ⟨⟨(some 18), .fieldAddr 2 (.t 17), none⟩, 0, [], []⟩,
  ⟨⟨(some 19), .load none (.t 18), none⟩, 1, [], []⟩,
  ⟨⟨(some 20), .move (.t 4), none⟩, 0, [], []⟩,
  ⟨⟨(some 21), .move (.t 0), none⟩, 0, [], []⟩,
  ⟨⟨(some 22), .nilCheck (.t 21), none⟩, 0, [], []⟩,
  ⟨⟨(some 23), .fieldAddr 2 (.t 22), none⟩, 0, [], []⟩,
  ⟨⟨(some 24), .load none (.t 23), none⟩, 1, [], []⟩,
  ⟨⟨(some 25), .move (.t 4), none⟩, 0, [], []⟩,
  ⟨⟨(some 26), .indexSlice 1 (.t 24) (.t 25), none⟩, 0, [], []⟩,
  ⟨⟨(some 27), .load none (.t 26), none⟩, 1, [], []⟩,
  ⟨⟨(some 28), .move (.t 2), none⟩, 0, [], []⟩,
  ⟨⟨(some 2), .move (.t 27), none⟩, 0, [], []⟩,
  ⟨⟨(some 29), .indexSlice 1 (.t 19) (.t 20), none⟩, 0, [], []⟩,
  ⟨⟨none, .store 1 (.t 29) (.t 28), none⟩, 2, [], []⟩]
def m21_r5 : List MI := [
  ⟨(some 30), .move (.t 0), none⟩,
  ⟨(some 31), .nilCheck (.t 30), none⟩,
  ⟨(some 32), .fieldAddr 4 (.t 31), none⟩,
  ⟨(some 33), .load none (.t 32), none⟩,
  ⟨(some 34), .bin .sub .no (.t 33) (.k (.sc (.int .i64 1))), none⟩,
  ⟨(some 35), .nilCheck (.t 30), none⟩,
  ⟨(some 36), .fieldAddr 4 (.t 35), none⟩,
  ⟨none, .store 1 (.t 36) (.t 34), none⟩]
def m21_r6 : List MI := [
  ⟨(some 37), .move (.t 2), none⟩,
  ⟨(some 2), .move (.t 37), none⟩,
  ⟨(some 3), .move (.k (.sc (.bool true))), none⟩]
def m21_code : MCode := (.seq (.ops m21_r0) (.seq (.seq (.ops m21_r1) (.cond (.t 7) (.seq (.ops m21_r2) .ret) .skip)) (.seq (.ops m21_r3) (.seq (.draw m21_r4) (.seq (.ops m21_r5) (.seq (.ops m21_r6) .ret))))))
def m21 : MFunc := ⟨38, [.tmp 2, .tmp 3], m21_code⟩

def m22_r0 : List MI := [
  ⟨(some 2), .move (.k (.sc (.int .i64 0))), none⟩]
def m22_r1 : List MI := [
  ⟨(some 3), .move (.t 0), none⟩,
  ⟨(some 4), .call 30 [(.t 3)], none⟩]
def m22_r2 : List MI := [
  ⟨(some 2), .move (.k (.sc (.int .i64 0))), none⟩]
def m22_r3 : List MI := [
  ⟨(some 5), .move (.t 0), none⟩,
  ⟨(some 6), .nilCheck (.t 5), none⟩,
  ⟨(some 7), .fieldAddr 4 (.t 6), none⟩,
  ⟨(some 8), .load none (.t 7), none⟩,
  ⟨(some 2), .move (.t 8), none⟩]
def m22_code : MCode := (.seq (.ops m22_r0) (.seq (.seq (.ops m22_r1) (.cond (.t 4) (.seq (.ops m22_r2) .ret) .skip)) (.seq (.ops m22_r3) .ret)))
def m22 : MFunc := ⟨9, [.tmp 2], m22_code⟩

def m23_r0 : List MI := [
  ⟨(some 2), .move (.k (.sc (.int .i64 0))), none⟩]
def m23_r1 : List MI := [
  ⟨(some 3), .move (.t 0), none⟩,
  ⟨(some 4), .call 30 [(.t 3)], none⟩]
def m23_r2 : List MI := [
  ⟨(some 2), .move (.k (.sc (.int .i64 0))), none⟩]
def m23_r3 : List MI := [
  ⟨(some 5), .move (.t 0), none⟩,
  ⟨(some 6), .nilCheck (.t 5), none⟩,
  ⟨(some 7), .fieldAddr 5 (.t 6), none⟩,
  ⟨(some 8), .load none (.t 7), none⟩,
  ⟨(some 2), .move (.t 8), none⟩]
def m23_code : MCode := (.seq (.ops m23_r0) (.seq (.seq (.ops m23_r1) (.cond (.t 4) (.seq (.ops m23_r2) .ret) .skip)) (.seq (.ops m23_r3) .ret)))
def m23 : MFunc := ⟨9, [.tmp 2], m23_code⟩

def m24_r0 : List MI := [
  ⟨(some 4), .move (.k (.sc (.bool false))), none⟩]
def m24_r1 : List MI := [
  ⟨(some 5), .move (.t 0), none⟩,
  ⟨(some 6), .buildSlice 3 1 0 [.int .i64 0] [], none⟩,
  ⟨(some 7), .move (.t 0), none⟩,
  ⟨(some 8), .nilCheck (.t 7), none⟩,
  ⟨(some 9), .fieldAddr 1 (.t 8), none⟩,
  ⟨(some 10), .load none (.t 9), none⟩,
  ⟨(some 11), .append 3 1 8 [.int .i64 0] (.t 6) (.t 10), none⟩,
  ⟨(some 12), .move (.t 1), none⟩,
  ⟨(some 13), .buildSlice 3 1 1 [.int .i64 0] [(0, 1, (.t 12))], none⟩,
  ⟨(some 14), .append 3 1 8 [.int .i64 0] (.t 11) (.t 13), none⟩,
  ⟨(some 15), .nilCheck (.t 5), none⟩,
  ⟨(some 16), .fieldAddr 1 (.t 15), none⟩,
  ⟨none, .store 1 (.t 16) (.t 14), none⟩]
def m24_r2 : List DI := [
  ⟨⟨(some 17), .move (.t 0), none⟩, 0, [], []⟩,
  ⟨⟨(some 18), .nilCheck (.t 17), none⟩, 0, [], []⟩,
  ⟨⟨(some 19), .fieldAddr 1 (.t 18), none⟩, 0, [], []⟩,
  ⟨⟨(some 20), .load none (.t 19), none⟩, 1, [], []⟩,
  ⟨⟨(some 21), .lenSlice (.t 20), none⟩, 0, [], []⟩,
  ⟨⟨(some 22), .move (.t 0), none⟩, 0, [], []⟩,
  ⟨⟨(some 23), .nilCheck (.t 22), none⟩, 0, [], []⟩,
  ⟨⟨(some 24), .fieldAddr 0 (.t 23), none⟩, 0, [], []⟩,
  ⟨⟨(some 25), .load none (.t 24), none⟩, 1, [], []⟩,
  ⟨⟨(some 26), .bin .gtr .no (.t 21) (.t 25), none⟩, 0, [], []⟩]
def m24_r3 : List MI := [
  ⟨(some 27), .move (.t 0), none⟩,
  ⟨(some 28), .move (.t 0), none⟩,
  ⟨(some 29), .nilCheck (.t 28), none⟩,
  ⟨(some 30), .fieldAddr 1 (.t 29), none⟩,
  ⟨(some 31), .load none (.t 30), none⟩,
  ⟨(some 32), .slice 1 (.t 31) (some (.k (.sc (.int .i64 1)))) none, none⟩,
  ⟨(some 33), .nilCheck (.t 27), none⟩,
  ⟨(some 34), .fieldAddr 1 (.t 33), none⟩,
  ⟨none, .store 1 (.t 34) (.t 32), none⟩]
def m24_r4 : List MI := [
  ⟨(some 35), .move (.t 0), none⟩,
  ⟨(some 36), .move (.t 0), none⟩,
  ⟨(some 37), .nilCheck (.t 36), none⟩,
  ⟨(some 38), .fieldAddr 2 (.t 37), none⟩,
  ⟨(some 39), .load none (.t 38), none⟩,
  ⟨(some 40), .bin .add .no (.t 39) (.k (.sc (.int .i64 1))), none⟩,
  ⟨(some 41), .nilCheck (.t 35), none⟩,
  ⟨(some 42), .fieldAddr 2 (.t 41), none⟩,
  ⟨none, .store 1 (.t 42) (.t 40), none⟩]
def m24_r5 : List MI := [
  ⟨(some 4), .move (.k (.sc (.bool true))), none⟩]
def m24_r6 : List MI := [
  ⟨(some 4), .move (.k (.sc (.bool false))), none⟩]
def m24_code : MCode := (.seq (.ops m24_r0) (.seq (.ops m24_r1) (.seq (.seq (.draw m24_r2) (.cond (.t 26) (.seq (.ops m24_r3) (.seq (.ops m24_r4) (.seq (.ops m24_r5) .ret))) .skip)) (.seq (.ops m24_r6) .ret))))
def m24 : MFunc := ⟨43, [.tmp 4], m24_code⟩

def m25_r0 : List MI := [
  ⟨(some 2), .move (.k (.sc (.int .i64 0))), none⟩,
  ⟨(some 3), .move (.k (.sc (.bool false))), none⟩]
def m25_r1 : List MI := [
  ⟨(some 6), .move (.t 0), none⟩,
  ⟨(some 7), .nilCheck (.t 6), none⟩,
  ⟨(some 8), .fieldAddr 1 (.t 7), none⟩,
  ⟨(some 9), .load none (.t 8), none⟩,
  ⟨(some 10), .lenSlice (.t 9), none⟩,
  ⟨(some 4), .move (.t 10), none⟩]
def m25_r2 : List MI := [
  ⟨(some 11), .move (.t 4), none⟩,
  ⟨(some 12), .bin .eql .no (.t 11) (.k (.sc (.int .i64 0))), none⟩]
def m25_r3 : List MI := [
  ⟨(some 2), .move (.k (.sc (.int .i64 0))), none⟩,
  ⟨(some 3), .move (.k (.sc (.bool false))), none⟩]
def m25_r4 : List MI := [
  ⟨(some 13), .move (.t 0), none⟩,
  ⟨(some 14), .nilCheck (.t 13), none⟩,
  ⟨(some 15), .fieldAddr 1 (.t 14), none⟩,
  ⟨(some 16), .load none (.t 15), none⟩,
  ⟨(some 17), .move (.t 4), none⟩,
  ⟨(some 18), .bin .sub .no (.t 17) (.k (.sc (.int .i64 1))), none⟩,
  ⟨(some 19), .indexSlice 1 (.t 16) (.t 18), none⟩,
  ⟨(some 20), .load none (.t 19), none⟩,
  ⟨(some 5), .move (.t 20), none⟩]
def m25_r5 : List MI := [
  ⟨(some 21), .move (.t 0), none⟩,
  ⟨(some 22), .move (.t 0), none⟩,
  ⟨(some 23), .nilCheck (.t 22), none⟩,
  ⟨(some 24), .fieldAddr 1 (.t 23), none⟩,
  ⟨(some 25), .load none (.t 24), none⟩,
  ⟨(some 26), .move (.t 4), none⟩,
  ⟨(some 27), .bin .sub .no (.t 26) (.k (.sc (.int .i64 1))), none⟩,
  ⟨(some 28), .slice 1 (.t 25) none (some (.t 27)), none⟩,
  ⟨(some 29), .nilCheck (.t 21), none⟩,
  ⟨(some 30), .fieldAddr 1 (.t 29), none⟩,
  ⟨none, .store 1 (.t 30) (.t 28), none⟩]
def m25_r6 : List MI := [
  ⟨(some 31), .move (.t 5), none⟩,
  ⟨(some 2), .move (.t 31), none⟩,
  ⟨(some 3), .move (.k (.sc (.bool true))), none⟩]
def m25_code : MCode := (.seq (.ops m25_r0) (.seq (.ops m25_r1) (.seq (.seq (.ops m25_r2) (.cond (.t 12) (.seq (.ops m25_r3) .ret) .skip)) (.seq (.ops m25_r4) (.seq (.ops m25_r5) (.seq (.ops m25_r6) .ret))))))
def m25 : MFunc := ⟨32, [.tmp 2, .tmp 3], m25_code⟩

def m26_r0 : List MI := [
  ⟨(some 4), .move (.k (.sc (.int .i64 0))), none⟩,
  ⟨(some 5), .move (.k (.sc (.bool false))), none⟩]
def m26_r1 : List MI := [
  ⟨(some 6), .move (.t 1), none⟩,
  ⟨(some 7), .bin .lss .no (.t 6) (.k (.sc (.int .i64 0))), none⟩,
  ⟨(some 8), .move (.t 7), none⟩,
  ⟨(some 9), .move (.t 1), (some (8, false))⟩,
  ⟨(some 10), .move (.t 0), (some (8, false))⟩,
  ⟨(some 11), .call 22 [(.t 10)], (some (8, false))⟩,
  ⟨(some 12), .bin .geq .no (.t 9) (.t 11), (some (8, false))⟩,
  ⟨(some 13), .pick (.t 8) (.k (.sc (.bool true))) (.t 12), none⟩]
def m26_r2 : List MI := [
  ⟨(some 14), .move (.t 4), none⟩,
  ⟨(some 4), .move (.t 14), none⟩,
  ⟨(some 5), .move (.k (.sc (.bool false))), none⟩]
def m26_r3 : List DI := [
  ⟨⟨(some 15), .move (.t 0), none⟩, 0, [], [6]⟩,
  ⟨⟨(some 16), .nilCheck (.t 15), none⟩, 0, [], [6]⟩,
  ⟨⟨(some 17), .fieldAddr 2 (.t 16), none⟩, 0, [], [6]⟩,
  ⟨⟨(some 18), .load none (.t 17), none⟩, 1, [], [6]⟩,
  ⟨⟨(some 19), .move (.t 0), none⟩, 0, [], []⟩,
  ⟨⟨(some 20), .move (.t 1), none⟩, 0, [], []⟩,
  ⟨⟨(some 21), .call 32 [(.t 19), (.t 20)], none⟩, 2, [], []⟩,
  ⟨⟨(some 22), .indexSlice 1 (.t 18) (.t 21), none⟩, 0, [], []⟩,
  ⟨⟨(some 23), .load none (.t 22), none⟩, 1, [], []⟩,
  ⟨⟨(some 4), .move (.t 23), none⟩, 0, [], []⟩,
  ⟨⟨(some 5), .move (.k (.sc (.bool true))), none⟩, 0, [], []⟩]
def m26_code : MCode := (.seq (.ops m26_r0) (.seq (.seq (.ops m26_r1) (.cond (.t 13) (.seq (.ops m26_r2) .ret) .skip)) (.seq (.draw m26_r3) .ret)))
def m26 : MFunc := ⟨24, [.tmp 4, .tmp 5], m26_code⟩

def m27_r0 : List MI := [
  ⟨(some 4), .move (.k (.sc (.nils))), none⟩]
def m27_r1 : List MI := [
  ⟨(some 5), .move (.t 1), none⟩,
  ⟨(some 6), .bin .lss .no (.t 5) (.k (.sc (.int .i64 1))), none⟩]
def m27_r2 : List MI := [
  ⟨(some 4), .move (.k (.sc (.nils))), none⟩]
def m27_r3 : List MI := [
  ⟨(some 7), .move (.t 1), none⟩,
  ⟨(some 8), .move (.t 0), none⟩,
  ⟨(some 9), .nilCheck (.t 8), none⟩,
  ⟨(some 10), .fieldAddr 1 (.t 9), none⟩,
  ⟨(some 11), .load none (.t 10), none⟩,
  ⟨(some 12), .lenSlice (.t 11), none⟩,
  ⟨(some 13), .bin .gtr .no (.t 7) (.t 12), none⟩]
def m27_r4 : List MI := [
  ⟨(some 14), .move (.t 0), none⟩,
  ⟨(some 15), .nilCheck (.t 14), none⟩,
  ⟨(some 16), .fieldAddr 1 (.t 15), none⟩,
  ⟨(some 17), .load none (.t 16), none⟩,
  ⟨(some 4), .move (.t 17), none⟩]
def m27_r5 : List DI := [
  ⟨⟨(some 18), .move (.t 0), none⟩, 0, [], []⟩,
  ⟨⟨(some 19), .nilCheck (.t 18), none⟩, 0, [], []⟩,
  ⟨⟨(some 20), .fieldAddr 1 (.t 19), none⟩, 0, [], []⟩,
  ⟨⟨(some 21), .load none (.t 20), none⟩, 1, [], []⟩,
  ⟨⟨(some 22), .move (.t 0), none⟩, 0, [], []⟩,
  ⟨⟨(some 23), .nilCheck (.t 22), none⟩, 0, [], []⟩,
  ⟨⟨(some 24), .fieldAddr 1 (.t 23), none⟩, 0, [], []⟩,
  ⟨⟨(some 25), .load none (.t 24), none⟩, 1, [], []⟩,
  ⟨⟨(some 26), .lenSlice (.t 25), none⟩, 0, [], []⟩,
  ⟨⟨(some 27), .move (.t 1), none⟩, 0, [], []⟩,
  ⟨⟨(some 28), .bin .sub .no (.t 26) (.t 27), none⟩, 0, [], []⟩,
  ⟨⟨(some 29), .slice 1 (.t 21) (some (.t 28)) none, none⟩, 0, [], []⟩,
  ⟨⟨(some 4), .move (.t 29), none⟩, 0, [], []⟩]
def m27_code : MCode := (.seq (.ops m27_r0) (.seq (.seq (.ops m27_r1) (.cond (.t 6) (.seq (.ops m27_r2) .ret) .skip)) (.seq (.seq (.ops m27_r3) (.cond (.t 13) (.seq (.ops m27_r4) .ret) .skip)) (.seq (.draw m27_r5) .ret))))
def m27 : MFunc := ⟨30, [.tmp 4], m27_code⟩

def m28_r0 : List MI := [
  ⟨(some 3), .box 3 (.t 1), none⟩,
  ⟨(some 4), .alloc 22 [.nils], none⟩]
def m28_r1 : List MI := [
  ⟨(some 5), .alloc 22 [.nils], none⟩]
def m28_r2 : List MI := [
  ⟨(some 8), .load none (.t 3), none⟩,
  ⟨(some 9), .bin .lss .no (.t 8) (.k (.sc (.int .i64 1))), none⟩]
def m28_r3 : List MI := [
  ⟨none, .store 1 (.t 4) (.k (.sc (.nils))), none⟩]
def m28_r4 : List MI := [
  ⟨(some 10), .move (.t 0), none⟩,
  ⟨(some 11), .call 12 [(.t 10)], none⟩,
  ⟨(some 12), .bin .eql .func (.t 11) (.k (.sc (.nilf))), none⟩]
def m28_r5 : List MI := [
  ⟨none, .store 1 (.t 4) (.k (.sc (.nils))), none⟩]
def m28_r6 : List MI := [
  ⟨(some 13), .move (.t 0), none⟩,
  ⟨(some 14), .call 12 [(.t 13)], none⟩]
def m28_r9 : List MI := [
  ⟨(some 6), .move (.t 15), none⟩]
def m28_r10 : List MI := [
  ⟨(some 7), .move (.t 16), none⟩]
def m28_r11 : List MI := [
  ⟨(some 17), .move (.t 6), none⟩,
  ⟨(some 18), .load none (.t 5), none⟩,
  ⟨(some 19), .lenSlice (.t 18), none⟩,
  ⟨(some 20), .bin .neq .no (.t 17) (.t 19), none⟩]
def m28_r12 : List MI := [
  ⟨none, .store 1 (.t 4) (.k (.sc (.nils))), none⟩]
def m28_r13 : List MI := [
  ⟨(some 21), .load none (.t 5), none⟩,
  ⟨(some 22), .move (.t 7), none⟩,
  ⟨(some 23), .buildSlice 3 1 1 [.int .i64 0] [(0, 1, (.t 22))], none⟩,
  ⟨(some 24), .append 3 1 8 [.int .i64 0] (.t 21) (.t 23), none⟩,
  ⟨none, .store 1 (.t 5) (.t 24), none⟩]
def m28_r14 : List MI := [
  ⟨(some 25), .load none (.t 5), none⟩,
  ⟨(some 26), .lenSlice (.t 25), none⟩,
  ⟨(some 27), .load none (.t 3), none⟩,
  ⟨(some 28), .bin .eql .no (.t 26) (.t 27), none⟩]
def m28_l7 : MCode := (.seq (.ops m28_r9) (.ops m28_r10))
def m28_l8 : MCode := (.block 1 (.seq (.seq (.ops m28_r11) (.cond (.t 20) (.seq (.ops m28_r12) .ret) .skip)) (.seq (.ops m28_r13) (.seq (.ops m28_r14) (.cond (.t 28) (.exit 0) .skip)))))
def m28_r15 : List MI := [
  ⟨(some 29), .load none (.t 5), none⟩,
  ⟨none, .store 1 (.t 4) (.t 29), none⟩]
def m28_code : MCode := (.marked (.seq (.ops m28_r0) (.seq (.ops m28_r1) (.seq (.seq (.ops m28_r2) (.cond (.t 9) (.seq (.ops m28_r3) .ret) .skip)) (.seq (.seq (.ops m28_r4) (.cond (.t 12) (.seq (.ops m28_r5) .ret) .skip)) (.seq (.seq (.ops m28_r6) (.block 0 (.rangeF (.t 14) [15, 16] m28_l7 m28_l8))) (.seq (.ops m28_r15) .ret)))))))
def m28 : MFunc := ⟨30, [.cell 4 none], m28_code⟩

def m29_r0 : List MI := [
  ⟨(some 5), .move (.t 0), none⟩,
  ⟨(some 6), .call 13 [(.t 5)], none⟩,
  ⟨(some 4), .move (.t 6), none⟩,
  ⟨(some 7), .extract (.t 4) 0, none⟩,
  ⟨(some 8), .extract (.t 4) 1, none⟩,
  ⟨(some 2), .move (.t 7), none⟩,
  ⟨(some 3), .move (.t 8), none⟩]
def m29_r2 : List MI := [
  ⟨(some 9), .move (.t 3), none⟩]
def m29_r3 : List MI := [
  ⟨(some 11), .move (.t 0), none⟩,
  ⟨(some 12), .call 13 [(.t 11)], none⟩,
  ⟨(some 10), .move (.t 12), none⟩,
  ⟨(some 13), .extract (.t 10) 0, none⟩,
  ⟨(some 14), .extract (.t 10) 1, none⟩,
  ⟨(some 3), .move (.t 14), none⟩]
def m29_l1 : MCode := (.seq (.seq (.ops m29_r2) (.cond (.t 9) .skip (.exit 0))) (.seq (.block 1 .skip) (.ops m29_r3)))
def m29_code : MCode := (.seq (.ops m29_r0) (.block 0 (.loop m29_l1)))
def m29 : MFunc := ⟨15, [], m29_code⟩

def m30_r0 : List MI := [
  ⟨(some 2), .move (.k (.sc (.bool false))), none⟩]
def m30_r1 : List MI := [
  ⟨(some 3), .move (.t 0), none⟩,
  ⟨(some 4), .bin .eql .ptr (.t 3) (.k (.sc (.nilp))), none⟩,
  ⟨(some 5), .move (.t 4), none⟩,
  ⟨(some 6), .move (.t 0), (some (5, false))⟩,
  ⟨(some 7), .nilCheck (.t 6), (some (5, false))⟩,
  ⟨(some 8), .fieldAddr 0 (.t 7), (some (5, false))⟩,
  ⟨(some 9), .load none (.t 8), (some (5, false))⟩,
  ⟨(some 10), .un .not (.t 9), (some (5, false))⟩,
  ⟨(some 11), .pick (.t 5) (.k (.sc (.bool true))) (.t 10), none⟩,
  ⟨(some 2), .move (.t 11), none⟩]
def m30_code : MCode := (.seq (.ops m30_r0) (.seq (.ops m30_r1) .ret))
def m30 : MFunc := ⟨12, [.tmp 2], m30_code⟩

def m31_r0 : List DI := [
  ⟨⟨(some 4), .move (.t 0), none⟩, 0, [], []⟩,
  ⟨⟨(some 5), .nilCheck (.t 4), none⟩, 0, [], []⟩,
  ⟨⟨(some 6), .fieldAddr 1 (.t 5), none⟩, 0, [], []⟩,
  ⟨⟨(some 7), .load none (.t 6), none⟩, 1, [], []⟩,
  ⟨⟨(some 8), .move (.t 0), none⟩, 0, [], []⟩,
  ⟨⟨(some 9), .nilCheck (.t 8), none⟩, 0, [], []⟩,
  ⟨⟨(some 10), .fieldAddr 4 (.t 9), none⟩, 0, [], []⟩,
  ⟨⟨(some 11), .load none (.t 10), none⟩, 1, [], []⟩,
  ⟨⟨(some 12), .bin .mul .no (.k (.sc (.int .i64 2))) (.t 11), none⟩, 0, [], []⟩,
  ⟨⟨(some 13), .bin .add .no (.t 12) (.k (.sc (.int .i64 4))), none⟩, 0, [], []⟩,
  ⟨⟨(some 14), .min [(.t 7), (.t 13)], none⟩, 0, [], []⟩,
  ⟨⟨(some 15), .makeSlice 3 1 8 [.int .i64 0] (.t 14) (.t 14), none⟩, 2, [], []⟩,
  ⟨⟨(some 2), .move (.t 15), none⟩, 0, [], []⟩]
def m31_r1 : List MI := [
  ⟨(some 16), .move (.t 0), none⟩,
  ⟨(some 17), .nilCheck (.t 16), none⟩,
  ⟨(some 18), .fieldAddr 4 (.t 17), none⟩,
  ⟨(some 19), .load none (.t 18), none⟩,
  ⟨(some 20), .move (.k (.sc (.int .i64 0))), none⟩]
def m31_r3 : List MI := [
  ⟨(some 21), .bin .lss .no (.t 20) (.t 19), none⟩]
def m31_r4 : List MI := [
  ⟨(some 22), .move (.t 20), none⟩,
  ⟨(some 3), .move (.t 22), none⟩]
def m31_r5 : List DI := [
  ⟨⟨(some 23), .move (.t 2), none⟩, 0, [], [8]⟩,
  ⟨⟨(some 24), .move (.t 3), none⟩, 0, [], [8]⟩,
  ⟨⟨(some 25), .move (.t 0), none⟩, 0, [], [8]⟩,
  ⟨⟨(some 26), .nilCheck (.t 25), none⟩, 0, [], [8]⟩,
  ⟨⟨(some 27), .fieldAddr 2 (.t 26), none⟩, 0, [], [8]⟩,
  ⟨⟨(some 28), .load none (.t 27), none⟩, 1, [], [8]⟩,
  ⟨⟨(some 29), .move (.t 0), none⟩, 0, [], []⟩,
  ⟨⟨(some 30), .move (.t 3), none⟩, 0, [], []⟩,
  ⟨⟨(some 31), .call 32 [(.t 29), (.t 30)], none⟩, 2, [], []⟩,
  ⟨⟨(some 32), .indexSlice 1 (.t 28) (.t 31), none⟩, 0, [], []⟩,
  ⟨⟨(some 33), .load none (.t 32), none⟩, 1, [], []⟩,
  ⟨⟨(some 34), .indexSlice 1 (.t 23) (.t 24), none⟩, 0, [], []⟩,
  ⟨⟨none, .store 1 (.t 34) (.t 33), none⟩, 2, [], []⟩]
def m31_r6 : List MI := [
  ⟨(some 35), .bin .add .no (.t 20) (.k (.sc (.int .i64 1))), none⟩,
  ⟨(some 20), .move (.t 35), none⟩]
def m31_l2 : MCode := (.seq (.ops m31_r3) (.seq (.cond (.t 21) .skip (.exit 0)) (.seq (.block 1 (.seq (.ops m31_r4) (.draw m31_r5))) (.ops m31_r6))))
def m31_r7 : List MI := [
  ⟨(some 36), .move (.t 0), none⟩,
  ⟨(some 37), .move (.t 0), none⟩,
  ⟨(some 38), .move (.t 2), none⟩,
  ⟨(some 39), .nilCheck (.t 36), none⟩,
  ⟨(some 40), .fieldAddr 2 (.t 39), none⟩,
  ⟨none, .store 1 (.t 40) (.t 38), none⟩,
  ⟨(some 41), .nilCheck (.t 37), none⟩,
  ⟨(some 42), .fieldAddr 3 (.t 41), none⟩,
  ⟨none, .store 1 (.t 42) (.k (.sc (.int .i64 0))), none⟩]
def m31_code : MCode := (.seq (.draw m31_r0) (.seq (.seq (.ops m31_r1) (.block 0 (.loop m31_l2))) (.ops m31_r7)))
def m31 : MFunc := ⟨43, [], m31_code⟩

def m32_r0 : List MI := [
  ⟨(some 4), .move (.k (.sc (.int .i64 0))), none⟩]
def m32_r1 : List DI := [
  ⟨⟨(some 5), .move (.t 0), none⟩, 0, [], []⟩,
  ⟨⟨(some 6), .nilCheck (.t 5), none⟩, 0, [], []⟩,
  ⟨⟨(some 7), .fieldAddr 3 (.t 6), none⟩, 0, [], []⟩,
  ⟨⟨(some 8), .load none (.t 7), none⟩, 1, [], []⟩,
  ⟨⟨(some 9), .move (.t 1), none⟩, 0, [], []⟩,
  ⟨⟨(some 10), .bin .add .no (.t 8) (.t 9), none⟩, 0, [], []⟩,
  ⟨⟨(some 11), .move (.t 0), none⟩, 0, [], []⟩,
  ⟨⟨(some 12), .nilCheck (.t 11), none⟩, 0, [], []⟩,
  ⟨⟨(some 13), .fieldAddr 2 (.t 12), none⟩, 0, [], []⟩,
  ⟨⟨(some 14), .load none (.t 13), none⟩, 1, [], []⟩,
  ⟨⟨(some 15), .lenSlice (.t 14), none⟩, 0, [], []⟩,
  ⟨⟨(some 16), .bin .rem .no (.t 10) (.t 15), none⟩, 0, [], []⟩,
  ⟨⟨(some 4), .move (.t 16), none⟩, 0, [], []⟩]
def m32_code : MCode := (.seq (.ops m32_r0) (.seq (.draw m32_r1) .ret))
def m32 : MFunc := ⟨17, [.tmp 4], m32_code⟩

def m33_r0 : List MI := [
  ⟨(some 3), .move (.k (.sc (.nils))), none⟩]
def m33_r1 : List MI := [
  ⟨(some 7), .load none (.t 1), none⟩,
  ⟨(some 8), .call 22 [(.t 7)], none⟩,
  ⟨(some 9), .move (.k (.sc (.int .i64 0))), none⟩]
def m33_r3 : List MI := [
  ⟨(some 10), .bin .lss .no (.t 9) (.t 8), none⟩]
def m33_r4 : List MI := [
  ⟨(some 11), .move (.t 9), none⟩,
  ⟨(some 4), .move (.t 11), none⟩]
def m33_r5 : List DI := [
  ⟨⟨(some 12), .move (.t 3), none⟩, 0, [], [7, 10]⟩,
  ⟨⟨(some 13), .load none (.t 1), none⟩, 1, [], [7]⟩,
  ⟨⟨(some 14), .nilCheck (.t 13), none⟩, 0, [], [7]⟩,
  ⟨⟨(some 15), .fieldAddr 2 (.t 14), none⟩, 0, [], [7]⟩,
  ⟨⟨(some 16), .load none (.t 15), none⟩, 1, [], [7]⟩,
  ⟨⟨(some 17), .load none (.t 1), none⟩, 1, [], []⟩,
  ⟨⟨(some 18), .move (.t 4), none⟩, 0, [], []⟩,
  ⟨⟨(some 19), .call 32 [(.t 17), (.t 18)], none⟩, 2, [], []⟩,
  ⟨⟨(some 20), .indexSlice 1 (.t 16) (.t 19), none⟩, 0, [], []⟩,
  ⟨⟨(some 21), .load none (.t 20), none⟩, 1, [], []⟩,
  ⟨⟨(some 22), .buildSlice 3 1 1 [.int .i64 0] [(0, 1, (.t 21))], none⟩, 2, [], []⟩,
  ⟨⟨(some 23), .append 3 1 8 [.int .i64 0] (.t 12) (.t 22), none⟩, 2, [], []⟩,
  ⟨⟨(some 3), .move (.t 23), none⟩, 0, [], []⟩]
def m33_r6 : List MI := [
  ⟨(some 24), .bin .add .no (.t 9) (.k (.sc (.int .i64 1))), none⟩,
  ⟨(some 9), .move (.t 24), none⟩]
def m33_l2 : MCode := (.seq (.ops m33_r3) (.seq (.cond (.t 10) .skip (.exit 0)) (.seq (.block 1 (.seq (.ops m33_r4) (.draw m33_r5))) (.ops m33_r6))))
def m33_r7 : List MI := [
  ⟨(some 25), .move (.t 3), none⟩,
  ⟨(some 26), .lenSlice (.t 25), none⟩,
  ⟨(some 27), .move (.k (.sc (.int .i64 0))), none⟩]
def m33_r9 : List MI := [
  ⟨(some 28), .bin .lss .no (.t 27) (.t 26), none⟩]
def m33_r10 : List MI := [
  ⟨(some 29), .move (.t 27), none⟩,
  ⟨(some 30), .indexSlice 1 (.t 25) (.t 27), none⟩,
  ⟨(some 31), .load none (.t 30), none⟩,
  ⟨(some 5), .move (.t 29), none⟩,
  ⟨(some 6), .move (.t 31), none⟩]
def m33_r11 : List MI := [
  ⟨(some 32), .move (.t 0), none⟩,
  ⟨(some 33), .move (.t 5), none⟩,
  ⟨(some 34), .move (.t 6), none⟩,
  ⟨(some 35), .callv (.t 32) [(.t 33), (.t 34)], none⟩,
  ⟨(some 36), .un .not (.t 35), none⟩]
def m33_r12 : List MI := [
  ⟨(some 37), .bin .add .no (.t 27) (.k (.sc (.int .i64 1))), none⟩,
  ⟨(some 27), .move (.t 37), none⟩]
def m33_l8 : MCode := (.seq (.ops m33_r9) (.seq (.cond (.t 28) .skip (.exit 2)) (.seq (.block 3 (.seq (.ops m33_r10) (.seq (.ops m33_r11) (.cond (.t 36) .ret .skip)))) (.ops m33_r12))))
def m33_code : MCode := (.seq (.ops m33_r0) (.seq (.seq (.ops m33_r1) (.block 0 (.loop m33_l2))) (.seq (.ops m33_r7) (.block 2 (.loop m33_l8)))))
def m33 : MFunc := ⟨38, [], m33_code⟩

def m34_r0 : List MI := [
  ⟨(some 2), .move (.k (.sc (.bool false))), none⟩]
def m34_r1 : List MI := [
  ⟨(some 3), .move (.t 0), none⟩,
  ⟨(some 4), .bin .eql .ptr (.t 3) (.k (.sc (.nilp))), none⟩,
  ⟨(some 5), .move (.t 4), none⟩,
  ⟨(some 6), .move (.t 0), (some (5, false))⟩,
  ⟨(some 7), .nilCheck (.t 6), (some (5, false))⟩,
  ⟨(some 8), .fieldAddr 0 (.t 7), (some (5, false))⟩,
  ⟨(some 9), .load none (.t 8), (some (5, false))⟩,
  ⟨(some 10), .un .not (.t 9), (some (5, false))⟩,
  ⟨(some 11), .pick (.t 5) (.k (.sc (.bool true))) (.t 10), none⟩,
  ⟨(some 2), .move (.t 11), none⟩]
def m34_code : MCode := (.seq (.ops m34_r0) (.seq (.ops m34_r1) .ret))
def m34 : MFunc := ⟨12, [.tmp 2], m34_code⟩

def m35_r0 : List DI := [
  ⟨⟨(some 4), .move (.t 0), none⟩, 0, [], []⟩,
  ⟨⟨(some 5), .nilCheck (.t 4), none⟩, 0, [], []⟩,
  ⟨⟨(some 6), .fieldAddr 1 (.t 5), none⟩, 0, [], []⟩,
  ⟨⟨(some 7), .load none (.t 6), none⟩, 1, [], []⟩,
  ⟨⟨(some 8), .move (.t 0), none⟩, 0, [], []⟩,
  ⟨⟨(some 9), .nilCheck (.t 8), none⟩, 0, [], []⟩,
  ⟨⟨(some 10), .fieldAddr 4 (.t 9), none⟩, 0, [], []⟩,
  ⟨⟨(some 11), .load none (.t 10), none⟩, 1, [], []⟩,
  ⟨⟨(some 12), .bin .mul .no (.k (.sc (.int .i64 2))) (.t 11), none⟩, 0, [], []⟩,
  ⟨⟨(some 13), .bin .add .no (.t 12) (.k (.sc (.int .i64 4))), none⟩, 0, [], []⟩,
  ⟨⟨(some 14), .min [(.t 7), (.t 13)], none⟩, 0, [], []⟩,
  ⟨⟨(some 15), .makeSlice 9 1 16 [.str []] (.t 14) (.t 14), none⟩, 2, [], []⟩,
  ⟨⟨(some 2), .move (.t 15), none⟩, 0, [], []⟩]
def m35_r1 : List MI := [
  ⟨(some 16), .move (.t 0), none⟩,
  ⟨(some 17), .nilCheck (.t 16), none⟩,
  ⟨(some 18), .fieldAddr 4 (.t 17), none⟩,
  ⟨(some 19), .load none (.t 18), none⟩,
  ⟨(some 20), .move (.k (.sc (.int .i64 0))), none⟩]
def m35_r3 : List MI := [
  ⟨(some 21), .bin .lss .no (.t 20) (.t 19), none⟩]
def m35_r4 : List MI := [
  ⟨(some 22), .move (.t 20), none⟩,
  ⟨(some 3), .move (.t 22), none⟩]
def m35_r5 : List DI := [
  ⟨⟨(some 23), .move (.t 2), none⟩, 0, [], [8]⟩,
  ⟨⟨(some 24), .move (.t 3), none⟩, 0, [], [8]⟩,
  ⟨⟨(some 25), .move (.t 0), none⟩, 0, [], [8]⟩,
  ⟨⟨(some 26), .nilCheck (.t 25), none⟩, 0, [], [8]⟩,
  ⟨⟨(some 27), .fieldAddr 2 (.t 26), none⟩, 0, [], [8]⟩,
  ⟨⟨(some 28), .load none (.t 27), none⟩, 1, [], [8]⟩,
  ⟨⟨(some 29), .move (.t 0), none⟩, 0, [], []⟩,
  ⟨⟨(some 30), .move (.t 3), none⟩, 0, [], []⟩,
  ⟨⟨(some 31), .call 36 [(.t 29), (.t 30)], none⟩, 2, [], []⟩,
  ⟨⟨(some 32), .indexSlice 1 (.t 28) (.t 31), none⟩, 0, [], []⟩,
  ⟨⟨(some 33), .load none (.t 32), none⟩, 1, [], []⟩,
  ⟨⟨(some 34), .indexSlice 1 (.t 23) (.t 24), none⟩, 0, [], []⟩,
  ⟨⟨none, .store 1 (.t 34) (.t 33), none⟩, 2, [], []⟩]
def m35_r6 : List MI := [
  ⟨(some 35), .bin .add .no (.t 20) (.k (.sc (.int .i64 1))), none⟩,
  ⟨(some 20), .move (.t 35), none⟩]
def m35_l2 : MCode := (.seq (.ops m35_r3) (.seq (.cond (.t 21) .skip (.exit 0)) (.seq (.block 1 (.seq (.ops m35_r4) (.draw m35_r5))) (.ops m35_r6))))
def m35_r7 : List MI := [
  ⟨(some 36), .move (.t 0), none⟩,
  ⟨(some 37), .move (.t 0), none⟩,
  ⟨(some 38), .move (.t 2), none⟩,
  ⟨(some 39), .nilCheck (.t 36), none⟩,
  ⟨(some 40), .fieldAddr 2 (.t 39), none⟩,
  ⟨none, .store 1 (.t 40) (.t 38), none⟩,
  ⟨(some 41), .nilCheck (.t 37), none⟩,
  ⟨(some 42), .fieldAddr 3 (.t 41), none⟩,
  ⟨none, .store 1 (.t 42) (.k (.sc (.int .i64 0))), none⟩]
def m35_code : MCode := (.seq (.draw m35_r0) (.seq (.seq (.ops m35_r1) (.block 0 (.loop m35_l2))) (.ops m35_r7)))
def m35 : MFunc := ⟨43, [], m35_code⟩

def m36_r0 : List MI := [
  ⟨(some 4), .move (.k (.sc (.int .i64 0))), none⟩]
def m36_r1 : List DI := [
  ⟨⟨(some 5), .move (.t 0), none⟩, 0, [], []⟩,
  ⟨⟨(some 6), .nilCheck (.t 5), none⟩, 0, [], []⟩,
  ⟨⟨(some 7), .fieldAddr 3 (.t 6), none⟩, 0, [], []⟩,
  ⟨⟨(some 8), .load none (.t 7), none⟩, 1, [], []⟩,
  ⟨⟨(some 9), .move (.t 1), none⟩, 0, [], []⟩,
  ⟨⟨(some 10), .bin .add .no (.t 8) (.t 9), none⟩, 0, [], []⟩,
  ⟨⟨(some 11), .move (.t 0), none⟩, 0, [], []⟩,
  ⟨⟨(some 12), .nilCheck (.t 11), none⟩, 0, [], []⟩,
  ⟨⟨(some 13), .fieldAddr 2 (.t 12), none⟩, 0, [], []⟩,
  ⟨⟨(some 14), .load none (.t 13), none⟩, 1, [], []⟩,
  ⟨⟨(some 15), .lenSlice (.t 14), none⟩, 0, [], []⟩,
  ⟨⟨(some 16), .bin .rem .no (.t 10) (.t 15), none⟩, 0, [], []⟩,
  ⟨⟨(some 4), .move (.t 16), none⟩, 0, [], []⟩]
def m36_code : MCode := (.seq (.ops m36_r0) (.seq (.draw m36_r1) .ret))
def m36 : MFunc := ⟨17, [.tmp 4], m36_code⟩

def m37_r0 : List MI := [
  ⟨(some 1), .box 37 (.t 0), none⟩,
  ⟨(some 2), .move (.k (.sc (.nilf))), none⟩]
def m37_r1 : List MI := [
  ⟨(some 3), .makeFunc 38 [(.t 1)], none⟩,
  ⟨(some 2), .move (.t 3), none⟩]
def m37_code : MCode := (.seq (.ops m37_r0) (.seq (.ops m37_r1) .ret))
def m37 : MFunc := ⟨4, [.tmp 2], m37_code⟩

def m38_r0 : List MI := [
  ⟨(some 3), .move (.k (.sc (.nils))), none⟩]
def m38_r1 : List MI := [
  ⟨(some 7), .load none (.t 1), none⟩,
  ⟨(some 8), .call 17 [(.t 7)], none⟩,
  ⟨(some 9), .move (.k (.sc (.int .i64 0))), none⟩]
def m38_r3 : List MI := [
  ⟨(some 10), .bin .lss .no (.t 9) (.t 8), none⟩]
def m38_r4 : List MI := [
  ⟨(some 11), .move (.t 9), none⟩,
  ⟨(some 4), .move (.t 11), none⟩]
def m38_r5 : List DI := [
  ⟨⟨(some 12), .move (.t 3), none⟩, 0, [], [7, 10]⟩,
  ⟨⟨(some 13), .load none (.t 1), none⟩, 1, [], [7]⟩,
  ⟨⟨(some 14), .nilCheck (.t 13), none⟩, 0, [], [7]⟩,
  ⟨⟨(some 15), .fieldAddr 2 (.t 14), none⟩, 0, [], [7]⟩,
  ⟨⟨(some 16), .load none (.t 15), none⟩, 1, [], [7]⟩,
  ⟨⟨(some 17), .load none (.t 1), none⟩, 1, [], []⟩,
  ⟨⟨(some 18), .move (.t 4), none⟩, 0, [], []⟩,
  ⟨⟨(some 19), .call 36 [(.t 17), (.t 18)], none⟩, 2, [], []⟩,
  ⟨⟨(some 20), .indexSlice 1 (.t 16) (.t 19), none⟩, 0, [], []⟩,
  ⟨⟨(some 21), .load none (.t 20), none⟩, 1, [], []⟩,
  ⟨⟨(some 22), .buildSlice 9 1 1 [.str []] [(0, 1, (.t 21))], none⟩, 2, [], []⟩,
  ⟨⟨(some 23), .append 9 1 16 [.str []] (.t 12) (.t 22), none⟩, 2, [], []⟩,
  ⟨⟨(some 3), .move (.t 23), none⟩, 0, [], []⟩]
def m38_r6 : List MI := [
  ⟨(some 24), .bin .add .no (.t 9) (.k (.sc (.int .i64 1))), none⟩,
  ⟨(some 9), .move (.t 24), none⟩]
def m38_l2 : MCode := (.seq (.ops m38_r3) (.seq (.cond (.t 10) .skip (.exit 0)) (.seq (.block 1 (.seq (.ops m38_r4) (.draw m38_r5))) (.ops m38_r6))))
def m38_r7 : List MI := [
  ⟨(some 25), .move (.t 3), none⟩,
  ⟨(some 26), .lenSlice (.t 25), none⟩,
  ⟨(some 27), .move (.k (.sc (.int .i64 0))), none⟩]
def m38_r9 : List MI := [
  ⟨(some 28), .bin .lss .no (.t 27) (.t 26), none⟩]
def m38_r10 : List MI := [
  ⟨(some 29), .move (.t 27), none⟩,
  ⟨(some 30), .indexSlice 1 (.t 25) (.t 27), none⟩,
  ⟨(some 31), .load none (.t 30), none⟩,
  ⟨(some 5), .move (.t 29), none⟩,
  ⟨(some 6), .move (.t 31), none⟩]
def m38_r11 : List MI := [
  ⟨(some 32), .move (.t 0), none⟩,
  ⟨(some 33), .move (.t 5), none⟩,
  ⟨(some 34), .move (.t 6), none⟩,
  ⟨(some 35), .callv (.t 32) [(.t 33), (.t 34)], none⟩,
  ⟨(some 36), .un .not (.t 35), none⟩]
def m38_r12 : List MI := [
  ⟨(some 37), .bin .add .no (.t 27) (.k (.sc (.int .i64 1))), none⟩,
  ⟨(some 27), .move (.t 37), none⟩]
def m38_l8 : MCode := (.seq (.ops m38_r9) (.seq (.cond (.t 28) .skip (.exit 2)) (.seq (.block 3 (.seq (.ops m38_r10) (.seq (.ops m38_r11) (.cond (.t 36) .ret .skip)))) (.ops m38_r12))))
def m38_code : MCode := (.seq (.ops m38_r0) (.seq (.seq (.ops m38_r1) (.block 0 (.loop m38_l2))) (.seq (.ops m38_r7) (.block 2 (.loop m38_l8)))))
def m38 : MFunc := ⟨38, [], m38_code⟩

def DD0 : Nat → Option MFunc := fun f => match f with
  | 3 => some m3
  | 4 => some m4
  | 5 => some m5
  | 6 => some m6
  | 7 => some m7
  | 8 => some m8
  | 9 => some m9
  | 10 => some m10
  | 11 => some m11
  | 12 => some m12
  | 13 => some m13
  | 14 => some m14
  | 15 => some m15
  | 16 => some m16
  | 17 => some m17
  | 18 => some m18
  | 19 => some m19
  | 20 => some m20
  | 21 => some m21
  | 22 => some m22
  | 23 => some m23
  | 24 => some m24
  | 25 => some m25
  | 26 => some m26
  | 27 => some m27
  | 28 => some m28
  | 29 => some m29
  | 30 => some m30
  | 31 => some m31
  | 32 => some m32
  | 33 => some m33
  | 34 => some m34
  | 35 => some m35
  | 36 => some m36
  | 37 => some m37
  | 38 => some m38
  | _ => none
def DD : Nat → Option MFunc := withKnown [8] DD0
theorem c3 : mfun Try.prog jxX 3 = some m3 := by kernel_rfl
theorem c4 : mfun Try.prog jxX 4 = some m4 := by kernel_rfl
theorem c5 : mfun Try.prog jxX 5 = some m5 := by kernel_rfl
theorem c6 : mfun Try.prog jxX 6 = some m6 := by kernel_rfl
theorem c7 : mfun Try.prog jxX 7 = some m7 := by kernel_rfl
theorem c8 : mfun Try.prog jxX 8 = some m8 := by kernel_rfl
theorem c9 : mfun Try.prog jxX 9 = some m9 := by kernel_rfl
theorem c10 : mfun Try.prog jxX 10 = some m10 := by kernel_rfl
theorem c11 : mfun Try.prog jxX 11 = some m11 := by kernel_rfl
theorem c12 : mfun Try.prog jxX 12 = some m12 := by kernel_rfl
theorem c13 : mfun Try.prog jxX 13 = some m13 := by kernel_rfl
theorem c14 : mfun Try.prog jxX 14 = some m14 := by kernel_rfl
theorem c15 : mfun Try.prog jxX 15 = some m15 := by kernel_rfl
theorem c16 : mfun Try.prog jxX 16 = some m16 := by kernel_rfl
theorem c17 : mfun Try.prog jxX 17 = some m17 := by kernel_rfl
theorem c18 : mfun Try.prog jxX 18 = some m18 := by kernel_rfl
theorem c19 : mfun Try.prog jxX 19 = some m19 := by kernel_rfl
theorem c20 : mfun Try.prog jxX 20 = some m20 := by kernel_rfl
theorem c21 : mfun Try.prog jxX 21 = some m21 := by kernel_rfl
theorem c22 : mfun Try.prog jxX 22 = some m22 := by kernel_rfl
theorem c23 : mfun Try.prog jxX 23 = some m23 := by kernel_rfl
theorem c24 : mfun Try.prog jxX 24 = some m24 := by kernel_rfl
theorem c25 : mfun Try.prog jxX 25 = some m25 := by kernel_rfl
theorem c26 : mfun Try.prog jxX 26 = some m26 := by kernel_rfl
theorem c27 : mfun Try.prog jxX 27 = some m27 := by kernel_rfl
theorem c28 : mfun Try.prog jxX 28 = some m28 := by kernel_rfl
theorem c29 : mfun Try.prog jxX 29 = some m29 := by kernel_rfl
theorem c30 : mfun Try.prog jxX 30 = some m30 := by kernel_rfl
theorem c31 : mfun Try.prog jxX 31 = some m31 := by kernel_rfl
theorem c32 : mfun Try.prog jxX 32 = some m32 := by kernel_rfl
theorem c33 : mfun Try.prog jxX 33 = some m33 := by kernel_rfl
theorem c34 : mfun Try.prog jxX 34 = some m34 := by kernel_rfl
theorem c35 : mfun Try.prog jxX 35 = some m35 := by kernel_rfl
theorem c36 : mfun Try.prog jxX 36 = some m36 := by kernel_rfl
theorem c37 : mfun Try.prog jxX 37 = some m37 := by kernel_rfl
theorem c38 : mfun Try.prog jxX 38 = some m38 := by kernel_rfl
theorem d3 : DD 3 = some m3 := rfl
theorem d4 : DD 4 = some m4 := rfl
theorem d5 : DD 5 = some m5 := rfl
theorem d6 : DD 6 = some m6 := rfl
theorem d7 : DD 7 = some m7 := rfl
theorem d8 : DD 8 = some knownM := rfl
theorem d9 : DD 9 = some m9 := rfl
theorem d10 : DD 10 = some m10 := rfl
theorem d11 : DD 11 = some m11 := rfl
theorem d12 : DD 12 = some m12 := rfl
theorem d13 : DD 13 = some m13 := rfl
theorem d14 : DD 14 = some m14 := rfl
theorem d15 : DD 15 = some m15 := rfl
theorem d16 : DD 16 = some m16 := rfl
theorem d17 : DD 17 = some m17 := rfl
theorem d18 : DD 18 = some m18 := rfl
theorem d19 : DD 19 = some m19 := rfl
theorem d20 : DD 20 = some m20 := rfl
theorem d21 : DD 21 = some m21 := rfl
theorem d22 : DD 22 = some m22 := rfl
theorem d23 : DD 23 = some m23 := rfl
theorem d24 : DD 24 = some m24 := rfl
theorem d25 : DD 25 = some m25 := rfl
theorem d26 : DD 26 = some m26 := rfl
theorem d27 : DD 27 = some m27 := rfl
theorem d28 : DD 28 = some m28 := rfl
theorem d29 : DD 29 = some m29 := rfl
theorem d30 : DD 30 = some m30 := rfl
theorem d31 : DD 31 = some m31 := rfl
theorem d32 : DD 32 = some m32 := rfl
theorem d33 : DD 33 = some m33 := rfl
theorem d34 : DD 34 = some m34 := rfl
theorem d35 : DD 35 = some m35 := rfl
theorem d36 : DD 36 = some m36 := rfl
theorem d37 : DD 37 = some m37 := rfl
theorem d38 : DD 38 = some m38 := rfl
theorem DD0_ok (w : World) : FunOk Try.prog w jxX DD0 := by
  intro f m h
  refine mfun_ok _ w _ f m ?_
  unfold DD0 at h
  split at h
  · cases h; exact c3
  · cases h; exact c4
  · cases h; exact c5
  · cases h; exact c6
  · cases h; exact c7
  · cases h; exact c8
  · cases h; exact c9
  · cases h; exact c10
  · cases h; exact c11
  · cases h; exact c12
  · cases h; exact c13
  · cases h; exact c14
  · cases h; exact c15
  · cases h; exact c16
  · cases h; exact c17
  · cases h; exact c18
  · cases h; exact c19
  · cases h; exact c20
  · cases h; exact c21
  · cases h; exact c22
  · cases h; exact c23
  · cases h; exact c24
  · cases h; exact c25
  · cases h; exact c26
  · cases h; exact c27
  · cases h; exact c28
  · cases h; exact c29
  · cases h; exact c30
  · cases h; exact c31
  · cases h; exact c32
  · cases h; exact c33
  · cases h; exact c34
  · cases h; exact c35
  · cases h; exact c36
  · cases h; exact c37
  · cases h; exact c38
  · cases h
end Go.Proofs.Ytjadhoelknmnkaa
