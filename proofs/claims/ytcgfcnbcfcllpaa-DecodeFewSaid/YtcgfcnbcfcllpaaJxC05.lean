/- The plain machine's functions of this seat, as a program of mine printed them (Prt.lean), and that they are what compiling gives. -/
import Derived.Test.YtcgfcnbcfcllpaaJxKRun
import Derived.Test.YtcgfcnbcfcllpaaJxW3
import Derived.Test.YtcgfcnbcfcllpaaChecked
namespace Go.Proofs.Ytcgfcnbcfcllpaa
open Go Go.Jx
def jxX : Exts := exts [9,9,0,0,0,0,0,0,0,0,0,0,0,0,0,0,0,0,0,0,0,0]
def m3_r0 : List MI := [
  ⟨(some 0), .move (.k (.sc (.bool false))), none⟩]
def m3_r1 : List MI := [
  ⟨(some 1), .call 9 [], none⟩,
  ⟨(some 2), .move (.t 1), none⟩,
  ⟨(some 3), .call 11 [(.k (.sc (.str [97, 195, 169])))], (some (2, true))⟩,
  ⟨(some 4), .buildSlice 21 1 2 [.int .i32 0] [(0, 1, (.k (.sc (.int .i32 97)))), (1, 1, (.k (.sc (.int .i32 233))))], (some (2, true))⟩,
  ⟨(some 5), .call 10 [(.t 3), (.t 4)], (some (2, true))⟩,
  ⟨(some 6), .pick (.t 2) (.t 5) (.k (.sc (.bool false))), none⟩,
  ⟨(some 7), .move (.t 6), none⟩,
  ⟨(some 8), .call 11 [(.k (.sc (.str [195])))], (some (7, true))⟩,
  ⟨(some 9), .buildSlice 21 1 1 [.int .i32 0] [(0, 1, (.k (.sc (.int .i32 65533))))], (some (7, true))⟩,
  ⟨(some 10), .call 10 [(.t 8), (.t 9)], (some (7, true))⟩,
  ⟨(some 11), .pick (.t 7) (.t 10) (.k (.sc (.bool false))), none⟩,
  ⟨(some 12), .move (.t 11), none⟩,
  ⟨(some 13), .call 11 [(.k (.sc (.str [195, 97])))], (some (12, true))⟩,
  ⟨(some 14), .buildSlice 21 1 2 [.int .i32 0] [(0, 1, (.k (.sc (.int .i32 65533)))), (1, 1, (.k (.sc (.int .i32 97))))], (some (12, true))⟩,
  ⟨(some 15), .call 10 [(.t 13), (.t 14)], (some (12, true))⟩,
  ⟨(some 16), .pick (.t 12) (.t 15) (.k (.sc (.bool false))), none⟩,
  ⟨(some 17), .move (.t 16), none⟩,
  ⟨(some 18), .call 11 [(.k (.sc (.str [237, 160, 128])))], (some (17, true))⟩,
  ⟨(some 19), .buildSlice 21 1 3 [.int .i32 0] [(0, 1, (.k (.sc (.int .i32 65533)))), (1, 1, (.k (.sc (.int .i32 65533)))), (2, 1, (.k (.sc (.int .i32 65533))))], (some (17, true))⟩,
  ⟨(some 20), .call 10 [(.t 18), (.t 19)], (some (17, true))⟩,
  ⟨(some 21), .pick (.t 17) (.t 20) (.k (.sc (.bool false))), none⟩,
  ⟨(some 22), .move (.t 21), none⟩,
  ⟨(some 23), .call 11 [(.k (.sc (.str [240, 159, 152, 128])))], (some (22, true))⟩,
  ⟨(some 24), .buildSlice 21 1 1 [.int .i32 0] [(0, 1, (.k (.sc (.int .i32 128512))))], (some (22, true))⟩,
  ⟨(some 25), .call 10 [(.t 23), (.t 24)], (some (22, true))⟩,
  ⟨(some 26), .pick (.t 22) (.t 25) (.k (.sc (.bool false))), none⟩,
  ⟨(some 27), .move (.t 26), none⟩,
  ⟨(some 28), .call 11 [(.k (.sc (.str [])))], (some (27, true))⟩,
  ⟨(some 29), .lenSlice (.t 28), (some (27, true))⟩,
  ⟨(some 30), .bin .eql .no (.t 29) (.k (.sc (.int .i64 0))), (some (27, true))⟩,
  ⟨(some 31), .pick (.t 27) (.t 30) (.k (.sc (.bool false))), none⟩,
  ⟨(some 0), .move (.t 31), none⟩]
def m3_code : MCode := (.seq (.ops m3_r0) (.seq (.ops m3_r1) .ret))
def m3 : MFunc := ⟨32, [.tmp 0], m3_code⟩

def m4_r0 : List MI := [
  ⟨(some 2), .move (.k (.sc (.bool false))), none⟩]
def m4_r1 : List MI := [
  ⟨(some 12), .call 9 [], none⟩,
  ⟨(some 13), .un .not (.t 12), none⟩]
def m4_r2 : List MI := [
  ⟨(some 2), .move (.k (.sc (.bool false))), none⟩]
def m4_r3 : List MI := [
  ⟨(some 14), .move (.t 0), none⟩,
  ⟨(some 15), .lenStr (.t 14), none⟩,
  ⟨(some 16), .bin .gtr .no (.t 15) (.k (.sc (.int .i64 5000))), none⟩]
def m4_r4 : List MI := [
  ⟨(some 2), .move (.k (.sc (.bool true))), none⟩]
def m4_r5 : List MI := [
  ⟨(some 17), .build [.int .i64 0, .int .i64 0, .int .u8 0, .int .u8 0, .int .i32 0] [], none⟩,
  ⟨(some 18), .box 28 (.t 17), none⟩,
  ⟨(some 3), .move (.t 18), none⟩]
def m4_r6 : List MI := [
  ⟨(some 19), .build [.str []] [], none⟩,
  ⟨(some 20), .box 31 (.t 19), none⟩,
  ⟨(some 4), .move (.t 20), none⟩]
def m4_r7 : List MI := [
  ⟨(some 5), .move (.k (.sc (.int .i64 0))), none⟩]
def m4_r9 : List MI := [
  ⟨(some 21), .move (.t 5), none⟩,
  ⟨(some 22), .move (.t 0), none⟩,
  ⟨(some 23), .lenStr (.t 22), none⟩,
  ⟨(some 24), .bin .lss .no (.t 21) (.t 23), none⟩]
def m4_r10 : List MI := [
  ⟨(some 28), .move (.t 3), none⟩,
  ⟨(some 29), .move (.t 0), none⟩,
  ⟨(some 30), .move (.t 5), none⟩,
  ⟨(some 31), .idxStr (.t 29) (.t 30), none⟩,
  ⟨(some 32), .call 12 [(.t 28), (.t 31)], none⟩,
  ⟨(some 27), .move (.t 32), none⟩,
  ⟨(some 33), .extract (.t 27) 0, none⟩,
  ⟨(some 34), .extract (.t 27) 1, none⟩,
  ⟨(some 6), .alloc 32 [.int .i32 0, .int .i32 0], none⟩,
  ⟨none, .store 2 (.t 6) (.t 33), none⟩,
  ⟨(some 7), .move (.t 34), none⟩]
def m4_r11 : List MI := [
  ⟨(some 35), .move (.t 4), none⟩,
  ⟨(some 36), .move (.t 0), none⟩,
  ⟨(some 37), .move (.t 5), none⟩,
  ⟨(some 38), .idxStr (.t 36) (.t 37), none⟩,
  ⟨(some 39), .call 13 [(.t 35), (.t 38)], none⟩,
  ⟨(some 8), .move (.t 39), none⟩]
def m4_r12 : List DI := [
  ⟨⟨(some 40), .move (.t 7), none⟩, 0, [], []⟩,
  ⟨⟨(some 41), .move (.t 8), none⟩, 0, [], []⟩,
  ⟨⟨(some 42), .lenSlice (.t 41), none⟩, 0, [], []⟩,
  ⟨⟨(some 43), .bin .neq .no (.t 40) (.t 42), none⟩, 0, [], []⟩,
  ⟨⟨(some 44), .move (.t 43), none⟩, 0, [], []⟩,
  ⟨⟨(some 45), .move (.t 7), (some (44, false))⟩, 0, [], []⟩,
  ⟨⟨(some 46), .bin .gtr .no (.t 45) (.k (.sc (.int .i64 2))), (some (44, false))⟩, 0, [], []⟩,
  ⟨⟨(some 47), .pick (.t 44) (.k (.sc (.bool true))) (.t 46), none⟩, 0, [], []⟩,
  ⟨⟨(some 48), .move (.t 47), none⟩, 0, [], []⟩,
  ⟨⟨(some 49), .move (.t 3), (some (48, false))⟩, 0, [], []⟩,
  ⟨⟨(some 50), .call 14 [(.t 49)], (some (48, false))⟩, 2, [], []⟩,
  ⟨⟨(some 51), .move (.t 4), (some (48, false))⟩, 0, [10], []⟩,
  ⟨⟨(some 52), .nilCheck (.t 51), (some (48, false))⟩, 0, [10], []⟩,
  ⟨⟨(some 53), .fieldAddr 0 (.t 52), (some (48, false))⟩, 0, [10], []⟩,
  ⟨⟨(some 54), .load none (.t 53), (some (48, false))⟩, 1, [10], []⟩,
  ⟨⟨(some 55), .lenStr (.t 54), (some (48, false))⟩, 0, [10], []⟩,
  ⟨⟨(some 56), .bin .neq .no (.t 50) (.t 55), (some (48, false))⟩, 0, [], []⟩,
  ⟨⟨(some 57), .pick (.t 48) (.k (.sc (.bool true))) (.t 56), none⟩, 0, [], []⟩]
def m4_r13 : List MI := [
  ⟨(some 2), .move (.k (.sc (.bool false))), none⟩]
def m4_r14 : List MI := [
  ⟨(some 9), .move (.k (.sc (.int .i64 0))), none⟩]
def m4_r16 : List MI := [
  ⟨(some 58), .move (.t 9), none⟩,
  ⟨(some 59), .bin .lss .no (.t 58) (.k (.sc (.int .i64 2))), none⟩]
def m4_r17 : List DI := [
  ⟨⟨(some 62), .move (.t 9), none⟩, 0, [], []⟩,
  ⟨⟨(some 63), .move (.t 7), none⟩, 0, [], []⟩,
  ⟨⟨(some 64), .bin .lss .no (.t 62) (.t 63), none⟩, 0, [], []⟩,
  ⟨⟨(some 65), .move (.t 64), none⟩, 0, [], []⟩,
  ⟨⟨(some 66), .move (.t 9), (some (65, true))⟩, 0, [], []⟩,
  ⟨⟨(some 67), .indexArr 2 1 (.t 6) (.t 66), (some (65, true))⟩, 0, [], []⟩,
  ⟨⟨(some 68), .load none (.t 67), (some (65, true))⟩, 1, [], []⟩,
  ⟨⟨(some 69), .move (.t 8), (some (65, true))⟩, 0, [], []⟩,
  ⟨⟨(some 70), .move (.t 9), (some (65, true))⟩, 0, [], []⟩,
  ⟨⟨(some 71), .indexSlice 1 (.t 69) (.t 70), (some (65, true))⟩, 0, [], []⟩,
  ⟨⟨(some 72), .load none (.t 71), (some (65, true))⟩, 1, [], []⟩,
  ⟨⟨(some 73), .bin .neq .no (.t 68) (.t 72), (some (65, true))⟩, 0, [], []⟩,
  ⟨⟨(some 74), .pick (.t 65) (.t 73) (.k (.sc (.bool false))), none⟩, 0, [], []⟩,
  ⟨⟨(some 75), .move (.t 74), none⟩, 0, [], []⟩,
  ⟨⟨(some 76), .move (.t 9), (some (75, false))⟩, 0, [], []⟩,
  ⟨⟨(some 77), .move (.t 7), (some (75, false))⟩, 0, [], []⟩,
  ⟨⟨(some 78), .bin .geq .no (.t 76) (.t 77), (some (75, false))⟩, 0, [], []⟩,
  ⟨⟨(some 79), .move (.t 78), (some (75, false))⟩, 0, [], []⟩,
  ⟨⟨(some 80), .move (.t 9), (some (79, true))⟩, 0, [], []⟩,
  ⟨⟨(some 81), .indexArr 2 1 (.t 6) (.t 80), (some (79, true))⟩, 0, [], []⟩,
  ⟨⟨(some 82), .load none (.t 81), (some (79, true))⟩, 1, [], []⟩,
  ⟨⟨(some 83), .bin .neq .no (.t 82) (.k (.sc (.int .i32 0))), (some (79, true))⟩, 0, [], []⟩,
  ⟨⟨(some 84), .pick (.t 79) (.t 83) (.k (.sc (.bool false))), (some (75, false))⟩, 0, [], []⟩,
  ⟨⟨(some 85), .pick (.t 75) (.k (.sc (.bool true))) (.t 84), none⟩, 0, [], []⟩]
def m4_r18 : List MI := [
  ⟨(some 2), .move (.k (.sc (.bool false))), none⟩]
def m4_r19 : List MI := [
  ⟨(some 60), .move (.t 9), none⟩,
  ⟨(some 61), .bin .add .no (.t 60) (.k (.sc (.int .i64 1))), none⟩,
  ⟨(some 9), .move (.t 61), none⟩]
def m4_l15 : MCode := (.seq (.seq (.ops m4_r16) (.cond (.t 59) .skip (.exit 2))) (.seq (.block 3 (.seq (.draw m4_r17) (.cond (.t 85) (.seq (.ops m4_r18) .ret) .skip))) (.ops m4_r19)))
def m4_r20 : List MI := [
  ⟨(some 25), .move (.t 5), none⟩,
  ⟨(some 26), .bin .add .no (.t 25) (.k (.sc (.int .i64 1))), none⟩,
  ⟨(some 5), .move (.t 26), none⟩]
def m4_l8 : MCode := (.seq (.seq (.ops m4_r9) (.cond (.t 24) .skip (.exit 0))) (.seq (.block 1 (.seq (.ops m4_r10) (.seq (.ops m4_r11) (.seq (.seq (.draw m4_r12) (.cond (.t 57) (.seq (.ops m4_r13) .ret) .skip)) (.seq (.ops m4_r14) (.block 2 (.loop m4_l15))))))) (.ops m4_r20)))
def m4_r21 : List MI := [
  ⟨(some 87), .move (.t 3), none⟩,
  ⟨(some 88), .call 15 [(.t 87)], none⟩,
  ⟨(some 86), .move (.t 88), none⟩,
  ⟨(some 89), .extract (.t 86) 0, none⟩,
  ⟨(some 90), .extract (.t 86) 1, none⟩,
  ⟨(some 10), .move (.t 89), none⟩,
  ⟨(some 11), .move (.t 90), none⟩]
def m4_r22 : List MI := [
  ⟨(some 91), .move (.t 11), none⟩,
  ⟨(some 92), .move (.t 4), none⟩,
  ⟨(some 93), .nilCheck (.t 92), none⟩,
  ⟨(some 94), .fieldAddr 0 (.t 93), none⟩,
  ⟨(some 95), .load none (.t 94), none⟩,
  ⟨(some 96), .bin .neq .no (.t 95) (.k (.sc (.str []))), none⟩,
  ⟨(some 97), .bin .neq .bool (.t 91) (.t 96), none⟩,
  ⟨(some 98), .move (.t 97), none⟩,
  ⟨(some 99), .move (.t 11), (some (98, false))⟩,
  ⟨(some 100), .move (.t 99), (some (98, false))⟩,
  ⟨(some 101), .move (.t 10), (some (100, true))⟩,
  ⟨(some 102), .bin .neq .no (.t 101) (.k (.sc (.int .i32 65533))), (some (100, true))⟩,
  ⟨(some 103), .pick (.t 100) (.t 102) (.k (.sc (.bool false))), (some (98, false))⟩,
  ⟨(some 104), .pick (.t 98) (.k (.sc (.bool true))) (.t 103), none⟩,
  ⟨(some 105), .move (.t 104), none⟩,
  ⟨(some 106), .move (.t 11), (some (105, false))⟩,
  ⟨(some 107), .un .not (.t 106), (some (105, false))⟩,
  ⟨(some 108), .move (.t 107), (some (105, false))⟩,
  ⟨(some 109), .move (.t 10), (some (108, true))⟩,
  ⟨(some 110), .bin .neq .no (.t 109) (.k (.sc (.int .i32 0))), (some (108, true))⟩,
  ⟨(some 111), .pick (.t 108) (.t 110) (.k (.sc (.bool false))), (some (105, false))⟩,
  ⟨(some 112), .pick (.t 105) (.k (.sc (.bool true))) (.t 111), none⟩,
  ⟨(some 113), .move (.t 112), none⟩,
  ⟨(some 114), .move (.t 3), (some (113, false))⟩,
  ⟨(some 115), .call 14 [(.t 114)], (some (113, false))⟩,
  ⟨(some 116), .bin .neq .no (.t 115) (.k (.sc (.int .i64 0))), (some (113, false))⟩,
  ⟨(some 117), .pick (.t 113) (.k (.sc (.bool true))) (.t 116), none⟩]
def m4_r23 : List MI := [
  ⟨(some 2), .move (.k (.sc (.bool false))), none⟩]
def m4_r24 : List MI := [
  ⟨(some 118), .move (.t 0), none⟩,
  ⟨(some 119), .call 11 [(.t 118)], none⟩,
  ⟨(some 120), .move (.t 0), none⟩,
  ⟨(some 121), .call 16 [(.t 120)], none⟩,
  ⟨(some 122), .call 10 [(.t 119), (.t 121)], none⟩,
  ⟨(some 2), .move (.t 122), none⟩]
def m4_code : MCode := (.seq (.ops m4_r0) (.seq (.seq (.ops m4_r1) (.cond (.t 13) (.seq (.ops m4_r2) .ret) .skip)) (.seq (.seq (.ops m4_r3) (.cond (.t 16) (.seq (.ops m4_r4) .ret) .skip)) (.seq (.ops m4_r5) (.seq (.ops m4_r6) (.seq (.seq (.ops m4_r7) (.block 0 (.loop m4_l8))) (.seq (.ops m4_r21) (.seq (.seq (.ops m4_r22) (.cond (.t 117) (.seq (.ops m4_r23) .ret) .skip)) (.seq (.ops m4_r24) .ret)))))))))
def m4 : MFunc := ⟨123, [.tmp 2], m4_code⟩

def m5_r0 : List MI := [
  ⟨(some 8), .move (.k (.sc (.bool false))), none⟩]
def m5_r1 : List MI := [
  ⟨(some 10), .call 9 [], none⟩,
  ⟨(some 11), .un .not (.t 10), none⟩]
def m5_r2 : List MI := [
  ⟨(some 8), .move (.k (.sc (.bool false))), none⟩]
def m5_r3 : List MI := [
  ⟨(some 12), .move (.t 3), none⟩,
  ⟨(some 13), .lenStr (.t 12), none⟩,
  ⟨(some 14), .bin .gtr .no (.t 13) (.k (.sc (.int .i64 200))), none⟩]
def m5_r4 : List MI := [
  ⟨(some 8), .move (.k (.sc (.bool true))), none⟩]
def m5_r5 : List MI := [
  ⟨(some 15), .move (.t 0), none⟩,
  ⟨(some 16), .move (.t 1), none⟩,
  ⟨(some 17), .move (.t 2), none⟩,
  ⟨(some 18), .buildSlice 5 1 3 [.int .u8 0] [(0, 1, (.t 15)), (1, 1, (.t 16)), (2, 1, (.t 17))], none⟩,
  ⟨(some 19), .conv .bytesStr (.t 18), none⟩,
  ⟨(some 9), .move (.t 19), none⟩]
def m5_r6 : List MI := [
  ⟨(some 20), .move (.t 9), none⟩,
  ⟨(some 21), .move (.t 3), none⟩,
  ⟨(some 22), .bin .add .no (.t 20) (.t 21), none⟩,
  ⟨(some 23), .call 4 [(.t 22)], none⟩,
  ⟨(some 24), .move (.t 23), none⟩,
  ⟨(some 25), .move (.t 9), (some (24, true))⟩,
  ⟨(some 26), .sliceStr (.t 25) none (some (.k (.sc (.int .i64 2)))), (some (24, true))⟩,
  ⟨(some 27), .move (.t 3), (some (24, true))⟩,
  ⟨(some 28), .bin .add .no (.t 26) (.t 27), (some (24, true))⟩,
  ⟨(some 29), .call 4 [(.t 28)], (some (24, true))⟩,
  ⟨(some 30), .pick (.t 24) (.t 29) (.k (.sc (.bool false))), none⟩,
  ⟨(some 31), .move (.t 30), none⟩,
  ⟨(some 32), .move (.t 3), (some (31, true))⟩,
  ⟨(some 33), .move (.t 9), (some (31, true))⟩,
  ⟨(some 34), .bin .add .no (.t 32) (.t 33), (some (31, true))⟩,
  ⟨(some 35), .call 4 [(.t 34)], (some (31, true))⟩,
  ⟨(some 36), .pick (.t 31) (.t 35) (.k (.sc (.bool false))), none⟩,
  ⟨(some 37), .move (.t 36), none⟩,
  ⟨(some 38), .move (.t 9), (some (37, true))⟩,
  ⟨(some 39), .bin .add .no (.k (.sc (.str [240, 159]))) (.t 38), (some (37, true))⟩,
  ⟨(some 40), .call 4 [(.t 39)], (some (37, true))⟩,
  ⟨(some 41), .pick (.t 37) (.t 40) (.k (.sc (.bool false))), none⟩,
  ⟨(some 8), .move (.t 41), none⟩]
def m5_code : MCode := (.seq (.ops m5_r0) (.seq (.seq (.ops m5_r1) (.cond (.t 11) (.seq (.ops m5_r2) .ret) .skip)) (.seq (.seq (.ops m5_r3) (.cond (.t 14) (.seq (.ops m5_r4) .ret) .skip)) (.seq (.ops m5_r5) (.seq (.ops m5_r6) .ret)))))
def m5 : MFunc := ⟨42, [.tmp 8], m5_code⟩

def m6_r0 : List MI := [
  ⟨(some 2), .move (.k (.sc (.bool false))), none⟩]
def m6_r1 : List MI := [
  ⟨(some 8), .call 9 [], none⟩,
  ⟨(some 9), .un .not (.t 8), none⟩]
def m6_r2 : List MI := [
  ⟨(some 2), .move (.k (.sc (.bool false))), none⟩]
def m6_r3 : List MI := [
  ⟨(some 3), .move (.k (.sc (.nilp))), none⟩]
def m6_r4 : List MI := [
  ⟨(some 11), .move (.t 3), none⟩,
  ⟨(some 12), .move (.t 0), none⟩,
  ⟨(some 13), .call 12 [(.t 11), (.t 12)], none⟩,
  ⟨(some 10), .move (.t 13), none⟩,
  ⟨(some 14), .extract (.t 10) 0, none⟩,
  ⟨(some 15), .extract (.t 10) 1, none⟩,
  ⟨(some 4), .alloc 32 [.int .i32 0, .int .i32 0], none⟩,
  ⟨none, .store 2 (.t 4) (.t 14), none⟩,
  ⟨(some 5), .move (.t 15), none⟩]
def m6_r5 : List MI := [
  ⟨(some 17), .move (.t 3), none⟩,
  ⟨(some 18), .call 15 [(.t 17)], none⟩,
  ⟨(some 16), .move (.t 18), none⟩,
  ⟨(some 19), .extract (.t 16) 0, none⟩,
  ⟨(some 20), .extract (.t 16) 1, none⟩,
  ⟨(some 6), .move (.t 19), none⟩,
  ⟨(some 7), .move (.t 20), none⟩]
def m6_r6 : List MI := [
  ⟨(some 21), .move (.t 5), none⟩,
  ⟨(some 22), .bin .eql .no (.t 21) (.k (.sc (.int .i64 0))), none⟩,
  ⟨(some 23), .move (.t 22), none⟩,
  ⟨(some 24), .load (some 2) (.t 4), (some (23, true))⟩,
  ⟨(some 25), .build [.int .i32 0, .int .i32 0] [], (some (23, true))⟩,
  ⟨(some 26), .bin .eql (.agg [.int .i32, .int .i32]) (.t 24) (.t 25), (some (23, true))⟩,
  ⟨(some 27), .pick (.t 23) (.t 26) (.k (.sc (.bool false))), none⟩,
  ⟨(some 28), .move (.t 27), none⟩,
  ⟨(some 29), .move (.t 6), (some (28, true))⟩,
  ⟨(some 30), .bin .eql .no (.t 29) (.k (.sc (.int .i32 0))), (some (28, true))⟩,
  ⟨(some 31), .pick (.t 28) (.t 30) (.k (.sc (.bool false))), none⟩,
  ⟨(some 32), .move (.t 31), none⟩,
  ⟨(some 33), .move (.t 7), (some (32, true))⟩,
  ⟨(some 34), .un .not (.t 33), (some (32, true))⟩,
  ⟨(some 35), .pick (.t 32) (.t 34) (.k (.sc (.bool false))), none⟩,
  ⟨(some 36), .move (.t 35), none⟩,
  ⟨(some 37), .move (.t 3), (some (36, true))⟩,
  ⟨(some 38), .call 14 [(.t 37)], (some (36, true))⟩,
  ⟨(some 39), .bin .eql .no (.t 38) (.k (.sc (.int .i64 0))), (some (36, true))⟩,
  ⟨(some 40), .pick (.t 36) (.t 39) (.k (.sc (.bool false))), none⟩,
  ⟨(some 2), .move (.t 40), none⟩]
def m6_code : MCode := (.seq (.ops m6_r0) (.seq (.seq (.ops m6_r1) (.cond (.t 9) (.seq (.ops m6_r2) .ret) .skip)) (.seq (.ops m6_r3) (.seq (.ops m6_r4) (.seq (.ops m6_r5) (.seq (.ops m6_r6) .ret))))))
def m6 : MFunc := ⟨41, [.tmp 2], m6_code⟩

def m7_r0 : List MI := [
  ⟨(some 2), .move (.k (.sc (.bool false))), none⟩]
def m7_r1 : List MI := [
  ⟨(some 8), .call 9 [], none⟩,
  ⟨(some 9), .un .not (.t 8), none⟩]
def m7_r2 : List MI := [
  ⟨(some 2), .move (.k (.sc (.bool false))), none⟩]
def m7_r3 : List MI := [
  ⟨(some 10), .move (.t 0), none⟩,
  ⟨(some 11), .lenStr (.t 10), none⟩,
  ⟨(some 12), .bin .gtr .no (.t 11) (.k (.sc (.int .i64 5000))), none⟩]
def m7_r4 : List MI := [
  ⟨(some 2), .move (.k (.sc (.bool true))), none⟩]
def m7_r5 : List MI := [
  ⟨(some 3), .move (.k (.sc (.nils))), none⟩]
def m7_r6 : List MI := [
  ⟨(some 4), .move (.k (.sc (.bool true))), none⟩]
def m7_r7 : List MI := [
  ⟨(some 13), .move (.t 0), none⟩,
  ⟨(some 14), .range (.t 13), none⟩]
def m7_r9 : List MI := [
  ⟨(some 15), .next (.t 14), none⟩,
  ⟨(some 16), .extract (.t 15) 0, none⟩]
def m7_r10 : List MI := [
  ⟨(some 17), .extract (.t 15) 1, none⟩,
  ⟨(some 18), .extract (.t 15) 2, none⟩,
  ⟨(some 5), .move (.t 17), none⟩,
  ⟨(some 6), .move (.t 18), none⟩]
def m7_r11 : List MI := [
  ⟨(some 19), .move (.t 6), none⟩,
  ⟨(some 20), .bin .eql .no (.t 19) (.k (.sc (.int .i32 65533))), none⟩,
  ⟨(some 21), .move (.t 20), none⟩,
  ⟨(some 22), .move (.t 5), (some (21, true))⟩,
  ⟨(some 23), .bin .add .no (.t 22) (.k (.sc (.int .i64 3))), (some (21, true))⟩,
  ⟨(some 24), .move (.t 0), (some (21, true))⟩,
  ⟨(some 25), .lenStr (.t 24), (some (21, true))⟩,
  ⟨(some 26), .bin .gtr .no (.t 23) (.t 25), (some (21, true))⟩,
  ⟨(some 27), .move (.t 26), (some (21, true))⟩,
  ⟨(some 28), .move (.t 0), (some (27, false))⟩,
  ⟨(some 29), .move (.t 5), (some (27, false))⟩,
  ⟨(some 30), .move (.t 5), (some (27, false))⟩,
  ⟨(some 31), .bin .add .no (.t 30) (.k (.sc (.int .i64 3))), (some (27, false))⟩,
  ⟨(some 32), .sliceStr (.t 28) (some (.t 29)) (some (.t 31)), (some (27, false))⟩,
  ⟨(some 33), .bin .neq .no (.t 32) (.k (.sc (.str [239, 191, 189]))), (some (27, false))⟩,
  ⟨(some 34), .pick (.t 27) (.k (.sc (.bool true))) (.t 33), (some (21, true))⟩,
  ⟨(some 35), .pick (.t 21) (.t 34) (.k (.sc (.bool false))), none⟩]
def m7_r12 : List MI := [
  ⟨(some 4), .move (.k (.sc (.bool false))), none⟩]
def m7_r13 : List MI := [
  ⟨(some 36), .move (.t 3), none⟩,
  ⟨(some 37), .move (.t 6), none⟩,
  ⟨(some 38), .buildSlice 21 1 1 [.int .i32 0] [(0, 1, (.t 37))], none⟩,
  ⟨(some 39), .append 21 1 4 [.int .i32 0] (.t 36) (.t 38), none⟩,
  ⟨(some 3), .move (.t 39), none⟩]
def m7_l8 : MCode := (.seq (.ops m7_r9) (.seq (.cond (.t 16) .skip (.exit 0)) (.block 1 (.seq (.ops m7_r10) (.seq (.seq (.ops m7_r11) (.cond (.t 35) (.ops m7_r12) .skip)) (.ops m7_r13))))))
def m7_r14 : List MI := [
  ⟨(some 40), .move (.t 0), none⟩,
  ⟨(some 41), .call 11 [(.t 40)], none⟩,
  ⟨(some 7), .move (.t 41), none⟩]
def m7_r15 : List MI := [
  ⟨(some 42), .move (.t 4), none⟩]
def m7_r16 : List MI := [
  ⟨(some 43), .move (.t 7), none⟩,
  ⟨(some 44), .move (.t 3), none⟩,
  ⟨(some 45), .call 10 [(.t 43), (.t 44)], none⟩,
  ⟨(some 2), .move (.t 45), none⟩]
def m7_r17 : List MI := [
  ⟨(some 46), .move (.t 7), none⟩,
  ⟨(some 47), .lenSlice (.t 46), none⟩,
  ⟨(some 48), .move (.t 3), none⟩,
  ⟨(some 49), .lenSlice (.t 48), none⟩,
  ⟨(some 50), .bin .leq .no (.t 47) (.t 49), none⟩,
  ⟨(some 51), .move (.t 50), none⟩,
  ⟨(some 52), .move (.t 7), (some (51, true))⟩,
  ⟨(some 53), .lenSlice (.t 52), (some (51, true))⟩,
  ⟨(some 54), .bin .gtr .no (.t 53) (.k (.sc (.int .i64 0))), (some (51, true))⟩,
  ⟨(some 55), .pick (.t 51) (.t 54) (.k (.sc (.bool false))), none⟩,
  ⟨(some 2), .move (.t 55), none⟩]
def m7_code : MCode := (.seq (.ops m7_r0) (.seq (.seq (.ops m7_r1) (.cond (.t 9) (.seq (.ops m7_r2) .ret) .skip)) (.seq (.seq (.ops m7_r3) (.cond (.t 12) (.seq (.ops m7_r4) .ret) .skip)) (.seq (.ops m7_r5) (.seq (.ops m7_r6) (.seq (.seq (.ops m7_r7) (.block 0 (.loop m7_l8))) (.seq (.ops m7_r14) (.seq (.seq (.ops m7_r15) (.cond (.t 42) (.seq (.ops m7_r16) .ret) .skip)) (.seq (.ops m7_r17) .ret)))))))))
def m7 : MFunc := ⟨56, [.tmp 2], m7_code⟩

def m8_r0 : List MI := [
  ⟨(some 4), .move (.k (.sc (.bool false))), none⟩]
def m8_r1 : List MI := [
  ⟨(some 10), .call 9 [], none⟩,
  ⟨(some 11), .un .not (.t 10), none⟩]
def m8_r2 : List MI := [
  ⟨(some 4), .move (.k (.sc (.bool false))), none⟩]
def m8_r3 : List MI := [
  ⟨(some 12), .move (.t 0), none⟩,
  ⟨(some 13), .lenStr (.t 12), none⟩,
  ⟨(some 14), .bin .gtr .no (.t 13) (.k (.sc (.int .i64 3000))), none⟩,
  ⟨(some 15), .move (.t 14), none⟩,
  ⟨(some 16), .move (.t 1), (some (15, false))⟩,
  ⟨(some 17), .lenStr (.t 16), (some (15, false))⟩,
  ⟨(some 18), .bin .gtr .no (.t 17) (.k (.sc (.int .i64 3000))), (some (15, false))⟩,
  ⟨(some 19), .pick (.t 15) (.k (.sc (.bool true))) (.t 18), none⟩]
def m8_r4 : List MI := [
  ⟨(some 4), .move (.k (.sc (.bool true))), none⟩]
def m8_r5 : List MI := [
  ⟨(some 20), .move (.t 0), none⟩,
  ⟨(some 21), .call 11 [(.t 20)], none⟩,
  ⟨(some 22), .move (.t 1), none⟩,
  ⟨(some 23), .call 11 [(.t 22)], none⟩,
  ⟨(some 24), .move (.t 0), none⟩,
  ⟨(some 25), .move (.t 1), none⟩,
  ⟨(some 26), .bin .add .no (.t 24) (.t 25), none⟩,
  ⟨(some 27), .call 11 [(.t 26)], none⟩,
  ⟨(some 5), .move (.t 21), none⟩,
  ⟨(some 6), .move (.t 23), none⟩,
  ⟨(some 7), .move (.t 27), none⟩]
def m8_r6 : List MI := [
  ⟨(some 28), .move (.t 5), none⟩,
  ⟨(some 29), .lenSlice (.t 28), none⟩,
  ⟨(some 30), .move (.t 0), none⟩,
  ⟨(some 31), .lenStr (.t 30), none⟩,
  ⟨(some 32), .bin .gtr .no (.t 29) (.t 31), none⟩,
  ⟨(some 33), .move (.t 32), none⟩,
  ⟨(some 34), .move (.t 5), (some (33, false))⟩,
  ⟨(some 35), .lenSlice (.t 34), (some (33, false))⟩,
  ⟨(some 36), .bin .mul .no (.k (.sc (.int .i64 4))) (.t 35), (some (33, false))⟩,
  ⟨(some 37), .move (.t 0), (some (33, false))⟩,
  ⟨(some 38), .lenStr (.t 37), (some (33, false))⟩,
  ⟨(some 39), .bin .lss .no (.t 36) (.t 38), (some (33, false))⟩,
  ⟨(some 40), .pick (.t 33) (.k (.sc (.bool true))) (.t 39), none⟩]
def m8_r7 : List MI := [
  ⟨(some 4), .move (.k (.sc (.bool false))), none⟩]
def m8_r8 : List MI := [
  ⟨(some 41), .build [.int .i64 0, .int .i64 0, .int .u8 0, .int .u8 0, .int .i32 0] [], none⟩,
  ⟨(some 42), .box 28 (.t 41), none⟩,
  ⟨(some 8), .move (.t 42), none⟩]
def m8_r9 : List MI := [
  ⟨(some 9), .move (.k (.sc (.int .i64 0))), none⟩]
def m8_r11 : List MI := [
  ⟨(some 43), .move (.t 9), none⟩,
  ⟨(some 44), .move (.t 0), none⟩,
  ⟨(some 45), .lenStr (.t 44), none⟩,
  ⟨(some 46), .bin .lss .no (.t 43) (.t 45), none⟩]
def m8_r12 : List MI := [
  ⟨(some 49), .move (.t 8), none⟩,
  ⟨(some 50), .move (.t 0), none⟩,
  ⟨(some 51), .move (.t 9), none⟩,
  ⟨(some 52), .idxStr (.t 50) (.t 51), none⟩,
  ⟨(some 53), .call 12 [(.t 49), (.t 52)], none⟩]
def m8_r13 : List MI := [
  ⟨(some 47), .move (.t 9), none⟩,
  ⟨(some 48), .bin .add .no (.t 47) (.k (.sc (.int .i64 1))), none⟩,
  ⟨(some 9), .move (.t 48), none⟩]
def m8_l10 : MCode := (.seq (.seq (.ops m8_r11) (.cond (.t 46) .skip (.exit 0))) (.seq (.block 1 (.ops m8_r12)) (.ops m8_r13)))
def m8_r14 : List MI := [
  ⟨(some 54), .move (.t 8), none⟩,
  ⟨(some 55), .call 14 [(.t 54)], none⟩,
  ⟨(some 56), .bin .gtr .no (.t 55) (.k (.sc (.int .i64 3))), none⟩]
def m8_r15 : List MI := [
  ⟨(some 4), .move (.k (.sc (.bool false))), none⟩]
def m8_r16 : List MI := [
  ⟨(some 57), .move (.t 8), none⟩,
  ⟨(some 58), .call 14 [(.t 57)], none⟩,
  ⟨(some 59), .bin .gtr .no (.t 58) (.k (.sc (.int .i64 0))), none⟩,
  ⟨(some 60), .move (.t 59), none⟩,
  ⟨(some 61), .move (.t 7), (some (60, false))⟩,
  ⟨(some 62), .buildSlice 21 1 0 [.int .i32 0] [], (some (60, false))⟩,
  ⟨(some 63), .move (.t 5), (some (60, false))⟩,
  ⟨(some 64), .append 21 1 4 [.int .i32 0] (.t 62) (.t 63), (some (60, false))⟩,
  ⟨(some 65), .move (.t 6), (some (60, false))⟩,
  ⟨(some 66), .append 21 1 4 [.int .i32 0] (.t 64) (.t 65), (some (60, false))⟩,
  ⟨(some 67), .call 10 [(.t 61), (.t 66)], (some (60, false))⟩,
  ⟨(some 68), .pick (.t 60) (.k (.sc (.bool true))) (.t 67), none⟩,
  ⟨(some 4), .move (.t 68), none⟩]
def m8_code : MCode := (.seq (.ops m8_r0) (.seq (.seq (.ops m8_r1) (.cond (.t 11) (.seq (.ops m8_r2) .ret) .skip)) (.seq (.seq (.ops m8_r3) (.cond (.t 19) (.seq (.ops m8_r4) .ret) .skip)) (.seq (.ops m8_r5) (.seq (.seq (.ops m8_r6) (.cond (.t 40) (.seq (.ops m8_r7) .ret) .skip)) (.seq (.ops m8_r8) (.seq (.seq (.ops m8_r9) (.block 0 (.loop m8_l10))) (.seq (.seq (.ops m8_r14) (.cond (.t 56) (.seq (.ops m8_r15) .ret) .skip)) (.seq (.ops m8_r16) .ret)))))))))
def m8 : MFunc := ⟨69, [.tmp 4], m8_code⟩

def m9_r0 : List MI := [
  ⟨(some 0), .move (.k (.sc (.bool false))), none⟩]
def m9_r1 : List MI := [
  ⟨(some 9), .build [.int .i64 0, .int .i64 0, .int .u8 0, .int .u8 0, .int .i32 0] [], none⟩,
  ⟨(some 10), .box 28 (.t 9), none⟩,
  ⟨(some 1), .move (.t 10), none⟩]
def m9_r2 : List MI := [
  ⟨(some 12), .move (.t 1), none⟩,
  ⟨(some 13), .call 12 [(.t 12), (.k (.sc (.int .u8 195)))], none⟩,
  ⟨(some 11), .move (.t 13), none⟩,
  ⟨(some 14), .extract (.t 11) 0, none⟩,
  ⟨(some 15), .extract (.t 11) 1, none⟩,
  ⟨(some 2), .alloc 32 [.int .i32 0, .int .i32 0], none⟩,
  ⟨none, .store 2 (.t 2) (.t 14), none⟩,
  ⟨(some 3), .move (.t 15), none⟩]
def m9_r3 : List MI := [
  ⟨(some 16), .move (.t 1), none⟩,
  ⟨(some 17), .call 14 [(.t 16)], none⟩,
  ⟨(some 4), .move (.t 17), none⟩]
def m9_r4 : List MI := [
  ⟨(some 19), .move (.t 1), none⟩,
  ⟨(some 20), .call 12 [(.t 19), (.k (.sc (.int .u8 169)))], none⟩,
  ⟨(some 18), .move (.t 20), none⟩,
  ⟨(some 21), .extract (.t 18) 0, none⟩,
  ⟨(some 22), .extract (.t 18) 1, none⟩,
  ⟨(some 5), .alloc 32 [.int .i32 0, .int .i32 0], none⟩,
  ⟨none, .store 2 (.t 5) (.t 21), none⟩,
  ⟨(some 6), .move (.t 22), none⟩]
def m9_r5 : List MI := [
  ⟨(some 23), .move (.t 1), none⟩,
  ⟨(some 24), .call 12 [(.t 23), (.k (.sc (.int .u8 226)))], none⟩]
def m9_r6 : List MI := [
  ⟨(some 26), .move (.t 1), none⟩,
  ⟨(some 27), .call 15 [(.t 26)], none⟩,
  ⟨(some 25), .move (.t 27), none⟩,
  ⟨(some 28), .extract (.t 25) 0, none⟩,
  ⟨(some 29), .extract (.t 25) 1, none⟩,
  ⟨(some 7), .move (.t 28), none⟩,
  ⟨(some 8), .move (.t 29), none⟩]
def m9_r7 : List MI := [
  ⟨(some 30), .move (.t 3), none⟩,
  ⟨(some 31), .bin .eql .no (.t 30) (.k (.sc (.int .i64 0))), none⟩,
  ⟨(some 32), .move (.t 31), none⟩,
  ⟨(some 33), .move (.t 4), (some (32, true))⟩,
  ⟨(some 34), .bin .eql .no (.t 33) (.k (.sc (.int .i64 1))), (some (32, true))⟩,
  ⟨(some 35), .pick (.t 32) (.t 34) (.k (.sc (.bool false))), none⟩,
  ⟨(some 36), .move (.t 35), none⟩,
  ⟨(some 37), .move (.t 6), (some (36, true))⟩,
  ⟨(some 38), .bin .eql .no (.t 37) (.k (.sc (.int .i64 1))), (some (36, true))⟩,
  ⟨(some 39), .pick (.t 36) (.t 38) (.k (.sc (.bool false))), none⟩,
  ⟨(some 40), .move (.t 39), none⟩,
  ⟨(some 41), .load (some 2) (.t 5), (some (40, true))⟩,
  ⟨(some 42), .build [.int .i32 0, .int .i32 0] [(0, 1, (.k (.sc (.int .i32 233)))), (1, 1, (.k (.sc (.int .i32 0))))], (some (40, true))⟩,
  ⟨(some 43), .bin .eql (.agg [.int .i32, .int .i32]) (.t 41) (.t 42), (some (40, true))⟩,
  ⟨(some 44), .pick (.t 40) (.t 43) (.k (.sc (.bool false))), none⟩,
  ⟨(some 45), .move (.t 44), none⟩,
  ⟨(some 46), .move (.t 8), (some (45, true))⟩,
  ⟨(some 47), .pick (.t 45) (.t 46) (.k (.sc (.bool false))), none⟩,
  ⟨(some 48), .move (.t 47), none⟩,
  ⟨(some 49), .move (.t 7), (some (48, true))⟩,
  ⟨(some 50), .bin .eql .no (.t 49) (.k (.sc (.int .i32 65533))), (some (48, true))⟩,
  ⟨(some 51), .pick (.t 48) (.t 50) (.k (.sc (.bool false))), none⟩,
  ⟨(some 52), .move (.t 51), none⟩,
  ⟨(some 53), .call 11 [(.k (.sc (.str [226, 130, 195, 169])))], (some (52, true))⟩,
  ⟨(some 54), .buildSlice 21 1 2 [.int .i32 0] [(0, 1, (.k (.sc (.int .i32 65533)))), (1, 1, (.k (.sc (.int .i32 233))))], (some (52, true))⟩,
  ⟨(some 55), .call 10 [(.t 53), (.t 54)], (some (52, true))⟩,
  ⟨(some 56), .pick (.t 52) (.t 55) (.k (.sc (.bool false))), none⟩,
  ⟨(some 0), .move (.t 56), none⟩]
def m9_code : MCode := (.seq (.ops m9_r0) (.seq (.ops m9_r1) (.seq (.ops m9_r2) (.seq (.ops m9_r3) (.seq (.ops m9_r4) (.seq (.ops m9_r5) (.seq (.ops m9_r6) (.seq (.ops m9_r7) .ret))))))))
def m9 : MFunc := ⟨57, [.tmp 0], m9_code⟩

def m10_r0 : List MI := [
  ⟨(some 4), .move (.k (.sc (.bool false))), none⟩]
def m10_r1 : List MI := [
  ⟨(some 6), .move (.t 0), none⟩,
  ⟨(some 7), .lenSlice (.t 6), none⟩,
  ⟨(some 8), .move (.t 1), none⟩,
  ⟨(some 9), .lenSlice (.t 8), none⟩,
  ⟨(some 10), .bin .neq .no (.t 7) (.t 9), none⟩]
def m10_r2 : List MI := [
  ⟨(some 4), .move (.k (.sc (.bool false))), none⟩]
def m10_r3 : List MI := [
  ⟨(some 5), .move (.k (.sc (.int .i64 0))), none⟩]
def m10_r5 : List MI := [
  ⟨(some 11), .move (.t 5), none⟩,
  ⟨(some 12), .move (.t 0), none⟩,
  ⟨(some 13), .lenSlice (.t 12), none⟩,
  ⟨(some 14), .bin .lss .no (.t 11) (.t 13), none⟩]
def m10_r6 : List DI := [
  ⟨⟨(some 17), .move (.t 0), none⟩, 0, [], []⟩,
  ⟨⟨(some 18), .move (.t 5), none⟩, 0, [], []⟩,
  ⟨⟨(some 19), .indexSlice 1 (.t 17) (.t 18), none⟩, 0, [], []⟩,
  ⟨⟨(some 20), .load none (.t 19), none⟩, 1, [], []⟩,
  ⟨⟨(some 21), .move (.t 1), none⟩, 0, [], []⟩,
  ⟨⟨(some 22), .move (.t 5), none⟩, 0, [], []⟩,
  ⟨⟨(some 23), .indexSlice 1 (.t 21) (.t 22), none⟩, 0, [], []⟩,
  ⟨⟨(some 24), .load none (.t 23), none⟩, 1, [], []⟩,
  ⟨⟨(some 25), .bin .neq .no (.t 20) (.t 24), none⟩, 0, [], []⟩]
def m10_r7 : List MI := [
  ⟨(some 4), .move (.k (.sc (.bool false))), none⟩]
def m10_r8 : List MI := [
  ⟨(some 15), .move (.t 5), none⟩,
  ⟨(some 16), .bin .add .no (.t 15) (.k (.sc (.int .i64 1))), none⟩,
  ⟨(some 5), .move (.t 16), none⟩]
def m10_l4 : MCode := (.seq (.seq (.ops m10_r5) (.cond (.t 14) .skip (.exit 0))) (.seq (.block 1 (.seq (.draw m10_r6) (.cond (.t 25) (.seq (.ops m10_r7) .ret) .skip))) (.ops m10_r8)))
def m10_r9 : List MI := [
  ⟨(some 4), .move (.k (.sc (.bool true))), none⟩]
def m10_code : MCode := (.seq (.ops m10_r0) (.seq (.seq (.ops m10_r1) (.cond (.t 10) (.seq (.ops m10_r2) .ret) .skip)) (.seq (.seq (.ops m10_r3) (.block 0 (.loop m10_l4))) (.seq (.ops m10_r9) .ret))))
def m10 : MFunc := ⟨26, [.tmp 4], m10_code⟩

def m11_r0 : List MI := [
  ⟨(some 2), .move (.k (.sc (.nils))), none⟩]
def m11_r1 : List MI := [
  ⟨(some 3), .move (.k (.sc (.nils))), none⟩]
def m11_r2 : List MI := [
  ⟨(some 4), .alloc 28 [.int .i64 0, .int .i64 0, .int .u8 0, .int .u8 0, .int .i32 0], none⟩]
def m11_r3 : List MI := [
  ⟨(some 10), .move (.t 0), none⟩,
  ⟨(some 11), .lenStr (.t 10), none⟩,
  ⟨(some 12), .move (.k (.sc (.int .i64 0))), none⟩]
def m11_r5 : List MI := [
  ⟨(some 13), .bin .lss .no (.t 12) (.t 11), none⟩]
def m11_r6 : List MI := [
  ⟨(some 14), .move (.t 12), none⟩,
  ⟨(some 5), .move (.t 14), none⟩]
def m11_r7 : List MI := [
  ⟨(some 16), .move (.t 0), none⟩,
  ⟨(some 17), .move (.t 5), none⟩,
  ⟨(some 18), .idxStr (.t 16) (.t 17), none⟩,
  ⟨(some 19), .call 12 [(.t 4), (.t 18)], none⟩,
  ⟨(some 15), .move (.t 19), none⟩,
  ⟨(some 20), .extract (.t 15) 0, none⟩,
  ⟨(some 21), .extract (.t 15) 1, none⟩,
  ⟨(some 6), .alloc 32 [.int .i32 0, .int .i32 0], none⟩,
  ⟨none, .store 2 (.t 6) (.t 20), none⟩,
  ⟨(some 7), .move (.t 21), none⟩]
def m11_r8 : List MI := [
  ⟨(some 22), .move (.t 3), none⟩,
  ⟨(some 23), .move (.t 7), none⟩,
  ⟨(some 24), .sliceArr 2 1 (.t 6) none (some (.t 23)), none⟩,
  ⟨(some 25), .append 21 1 4 [.int .i32 0] (.t 22) (.t 24), none⟩,
  ⟨(some 3), .move (.t 25), none⟩]
def m11_r9 : List MI := [
  ⟨(some 26), .bin .add .no (.t 12) (.k (.sc (.int .i64 1))), none⟩,
  ⟨(some 12), .move (.t 26), none⟩]
def m11_l4 : MCode := (.seq (.ops m11_r5) (.seq (.cond (.t 13) .skip (.exit 0)) (.seq (.block 1 (.seq (.ops m11_r6) (.seq (.ops m11_r7) (.ops m11_r8)))) (.ops m11_r9))))
def m11_r10 : List MI := [
  ⟨(some 28), .call 15 [(.t 4)], none⟩,
  ⟨(some 27), .move (.t 28), none⟩,
  ⟨(some 29), .extract (.t 27) 0, none⟩,
  ⟨(some 30), .extract (.t 27) 1, none⟩,
  ⟨(some 8), .move (.t 29), none⟩,
  ⟨(some 9), .move (.t 30), none⟩]
def m11_r11 : List MI := [
  ⟨(some 31), .move (.t 9), none⟩]
def m11_r12 : List MI := [
  ⟨(some 32), .move (.t 3), none⟩,
  ⟨(some 33), .move (.t 8), none⟩,
  ⟨(some 34), .buildSlice 21 1 1 [.int .i32 0] [(0, 1, (.t 33))], none⟩,
  ⟨(some 35), .append 21 1 4 [.int .i32 0] (.t 32) (.t 34), none⟩,
  ⟨(some 3), .move (.t 35), none⟩]
def m11_r13 : List MI := [
  ⟨(some 36), .move (.t 3), none⟩,
  ⟨(some 2), .move (.t 36), none⟩]
def m11_code : MCode := (.seq (.ops m11_r0) (.seq (.ops m11_r1) (.seq (.ops m11_r2) (.seq (.seq (.ops m11_r3) (.block 0 (.loop m11_l4))) (.seq (.seq (.ops m11_r10) (.seq (.ops m11_r11) (.cond (.t 31) (.ops m11_r12) .skip))) (.seq (.ops m11_r13) .ret))))))
def m11 : MFunc := ⟨37, [.tmp 2], m11_code⟩

def m12_r0 : List MI := [
  ⟨(some 4), .alloc 32 [.int .i32 0, .int .i32 0], none⟩,
  ⟨(some 5), .move (.k (.sc (.int .i64 0))), none⟩]
def m12_r1 : List MI := [
  ⟨(some 8), .move (.t 0), none⟩,
  ⟨(some 9), .bin .eql .ptr (.t 8) (.k (.sc (.nilp))), none⟩]
def m12_r2 : List MI := [
  ⟨(some 10), .load (some 2) (.t 4), none⟩,
  ⟨none, .store 2 (.t 4) (.t 10), none⟩,
  ⟨(some 5), .move (.k (.sc (.int .i64 0))), none⟩]
def m12_r3 : List MI := [
  ⟨(some 11), .move (.t 0), none⟩,
  ⟨(some 12), .nilCheck (.t 11), none⟩,
  ⟨(some 13), .fieldAddr 0 (.t 12), none⟩,
  ⟨(some 14), .load none (.t 13), none⟩,
  ⟨(some 15), .bin .gtr .no (.t 14) (.k (.sc (.int .i64 0))), none⟩,
  ⟨(some 16), .move (.t 15), none⟩,
  ⟨(some 17), .move (.t 1), (some (16, true))⟩,
  ⟨(some 18), .move (.t 0), (some (16, true))⟩,
  ⟨(some 19), .nilCheck (.t 18), (some (16, true))⟩,
  ⟨(some 20), .fieldAddr 2 (.t 19), (some (16, true))⟩,
  ⟨(some 21), .load none (.t 20), (some (16, true))⟩,
  ⟨(some 22), .bin .geq .no (.t 17) (.t 21), (some (16, true))⟩,
  ⟨(some 23), .pick (.t 16) (.t 22) (.k (.sc (.bool false))), none⟩,
  ⟨(some 24), .move (.t 23), none⟩,
  ⟨(some 25), .move (.t 1), (some (24, true))⟩,
  ⟨(some 26), .move (.t 0), (some (24, true))⟩,
  ⟨(some 27), .nilCheck (.t 26), (some (24, true))⟩,
  ⟨(some 28), .fieldAddr 3 (.t 27), (some (24, true))⟩,
  ⟨(some 29), .load none (.t 28), (some (24, true))⟩,
  ⟨(some 30), .bin .leq .no (.t 25) (.t 29), (some (24, true))⟩,
  ⟨(some 31), .pick (.t 24) (.t 30) (.k (.sc (.bool false))), none⟩]
def m12_r4 : List DI := [
  ⟨⟨(some 32), .move (.t 0), none⟩, 0, [], []⟩,
  ⟨⟨(some 33), .move (.t 0), none⟩, 0, [], []⟩,
  ⟨⟨(some 34), .nilCheck (.t 33), none⟩, 0, [], []⟩,
  ⟨⟨(some 35), .fieldAddr 0 (.t 34), none⟩, 0, [], []⟩,
  ⟨⟨(some 36), .load none (.t 35), none⟩, 1, [], []⟩,
  ⟨⟨(some 37), .bin .add .no (.t 36) (.k (.sc (.int .i64 1))), none⟩, 0, [], []⟩,
  ⟨⟨(some 38), .move (.t 0), none⟩, 0, [], []⟩,
  ⟨⟨(some 39), .nilCheck (.t 38), none⟩, 0, [], []⟩,
  ⟨⟨(some 40), .fieldAddr 1 (.t 39), none⟩, 0, [], []⟩,
  ⟨⟨(some 41), .load none (.t 40), none⟩, 1, [], []⟩,
  ⟨⟨(some 42), .bin .sub .no (.t 41) (.k (.sc (.int .i64 1))), none⟩, 0, [], []⟩,
  ⟨⟨(some 43), .move (.t 0), none⟩, 0, [], []⟩,
  ⟨⟨(some 44), .nilCheck (.t 43), none⟩, 0, [], []⟩,
  ⟨⟨(some 45), .fieldAddr 4 (.t 44), none⟩, 0, [], []⟩,
  ⟨⟨(some 46), .load none (.t 45), none⟩, 1, [], []⟩,
  ⟨⟨(some 47), .bin .shl .no (.t 46) (.k (.sc (.int .u64 6))), none⟩, 0, [], []⟩,
  ⟨⟨(some 48), .move (.t 1), none⟩, 0, [], []⟩,
  ⟨⟨(some 49), .bin .and .no (.t 48) (.k (.sc (.int .u8 63))), none⟩, 0, [], []⟩,
  ⟨⟨(some 50), .conv (.int .i32) (.t 49), none⟩, 0, [], []⟩,
  ⟨⟨(some 51), .bin .or .no (.t 47) (.t 50), none⟩, 0, [], []⟩,
  ⟨⟨(some 52), .build [.int .i64 0, .int .i64 0, .int .u8 0, .int .u8 0, .int .i32 0] [(0, 1, (.t 37)), (1, 1, (.t 42)), (2, 1, (.k (.sc (.int .u8 128)))), (3, 1, (.k (.sc (.int .u8 191)))), (4, 1, (.t 51))], none⟩, 0, [], []⟩,
  ⟨⟨(some 53), .nilCheck (.t 32), none⟩, 0, [], []⟩,
  ⟨⟨none, .store 5 (.t 53) (.t 52), none⟩, 2, [], []⟩]
def m12_r5 : List MI := [
  ⟨(some 54), .move (.t 0), none⟩,
  ⟨(some 55), .nilCheck (.t 54), none⟩,
  ⟨(some 56), .fieldAddr 1 (.t 55), none⟩,
  ⟨(some 57), .load none (.t 56), none⟩,
  ⟨(some 58), .bin .eql .no (.t 57) (.k (.sc (.int .i64 0))), none⟩]
def m12_r6 : List MI := [
  ⟨(some 59), .move (.t 0), none⟩,
  ⟨(some 60), .nilCheck (.t 59), none⟩,
  ⟨(some 61), .fieldAddr 4 (.t 60), none⟩,
  ⟨(some 62), .load none (.t 61), none⟩,
  ⟨(some 63), .indexArr 2 1 (.t 4) (.k (.sc (.int .i64 0))), none⟩,
  ⟨none, .store 1 (.t 63) (.t 62), none⟩,
  ⟨(some 5), .move (.k (.sc (.int .i64 1))), none⟩]
def m12_r7 : List MI := [
  ⟨(some 64), .move (.t 0), none⟩,
  ⟨(some 65), .build [.int .i64 0, .int .i64 0, .int .u8 0, .int .u8 0, .int .i32 0] [], none⟩,
  ⟨(some 66), .nilCheck (.t 64), none⟩,
  ⟨none, .store 5 (.t 66) (.t 65), none⟩]
def m12_r8 : List MI := [
  ⟨(some 67), .load (some 2) (.t 4), none⟩,
  ⟨(some 68), .move (.t 5), none⟩,
  ⟨none, .store 2 (.t 4) (.t 67), none⟩,
  ⟨(some 5), .move (.t 68), none⟩]
def m12_r9 : List MI := [
  ⟨(some 69), .move (.t 0), none⟩,
  ⟨(some 70), .nilCheck (.t 69), none⟩,
  ⟨(some 71), .fieldAddr 0 (.t 70), none⟩,
  ⟨(some 72), .load none (.t 71), none⟩,
  ⟨(some 73), .bin .gtr .no (.t 72) (.k (.sc (.int .i64 0))), none⟩]
def m12_r10 : List MI := [
  ⟨(some 74), .move (.t 0), none⟩,
  ⟨(some 75), .build [.int .i64 0, .int .i64 0, .int .u8 0, .int .u8 0, .int .i32 0] [], none⟩,
  ⟨(some 76), .nilCheck (.t 74), none⟩,
  ⟨none, .store 5 (.t 76) (.t 75), none⟩]
def m12_r11 : List MI := [
  ⟨(some 77), .indexArr 2 1 (.t 4) (.k (.sc (.int .i64 0))), none⟩,
  ⟨none, .store 1 (.t 77) (.k (.sc (.int .i32 65533))), none⟩,
  ⟨(some 5), .move (.k (.sc (.int .i64 1))), none⟩]
def m12_r12 : List MI := [
  ⟨(some 79), .move (.t 0), none⟩,
  ⟨(some 80), .move (.t 1), none⟩,
  ⟨(some 81), .call 17 [(.t 79), (.t 80)], none⟩,
  ⟨(some 78), .move (.t 81), none⟩,
  ⟨(some 82), .extract (.t 78) 0, none⟩,
  ⟨(some 83), .extract (.t 78) 1, none⟩,
  ⟨(some 6), .move (.t 82), none⟩,
  ⟨(some 7), .move (.t 83), none⟩]
def m12_r13 : List MI := [
  ⟨(some 84), .move (.t 7), none⟩]
def m12_r14 : List MI := [
  ⟨(some 85), .move (.t 5), none⟩,
  ⟨(some 86), .move (.t 6), none⟩,
  ⟨(some 87), .indexArr 2 1 (.t 4) (.t 85), none⟩,
  ⟨none, .store 1 (.t 87) (.t 86), none⟩]
def m12_r15 : List MI := [
  ⟨(some 88), .move (.t 5), none⟩,
  ⟨(some 89), .bin .add .no (.t 88) (.k (.sc (.int .i64 1))), none⟩,
  ⟨(some 5), .move (.t 89), none⟩]
def m12_r16 : List MI := [
  ⟨(some 90), .load (some 2) (.t 4), none⟩,
  ⟨(some 91), .move (.t 5), none⟩,
  ⟨none, .store 2 (.t 4) (.t 90), none⟩,
  ⟨(some 5), .move (.t 91), none⟩]
def m12_code : MCode := (.seq (.ops m12_r0) (.seq (.seq (.ops m12_r1) (.cond (.t 9) (.seq (.ops m12_r2) .ret) .skip)) (.seq (.seq (.ops m12_r3) (.cond (.t 31) (.seq (.draw m12_r4) (.seq (.seq (.ops m12_r5) (.cond (.t 58) (.seq (.ops m12_r6) (.ops m12_r7)) .skip)) (.seq (.ops m12_r8) .ret))) .skip)) (.seq (.seq (.ops m12_r9) (.cond (.t 73) (.seq (.ops m12_r10) (.ops m12_r11)) .skip)) (.seq (.seq (.ops m12_r12) (.seq (.ops m12_r13) (.cond (.t 84) (.seq (.ops m12_r14) (.ops m12_r15)) .skip))) (.seq (.ops m12_r16) .ret))))))
def m12 : MFunc := ⟨92, [.cell 4 (some 2), .tmp 5], m12_code⟩

def m13_r0 : List MI := [
  ⟨(some 4), .move (.k (.sc (.nils))), none⟩]
def m13_r1 : List MI := [
  ⟨(some 5), .move (.k (.sc (.nils))), none⟩]
def m13_r2 : List DI := [
  ⟨⟨(some 7), .move (.t 0), none⟩, 0, [], [5, 6]⟩,
  ⟨⟨(some 8), .nilCheck (.t 7), none⟩, 0, [], [5, 6]⟩,
  ⟨⟨(some 9), .fieldAddr 0 (.t 8), none⟩, 0, [], [5, 6]⟩,
  ⟨⟨(some 10), .load none (.t 9), none⟩, 1, [], [5, 6]⟩,
  ⟨⟨(some 11), .move (.t 1), none⟩, 0, [], []⟩,
  ⟨⟨(some 12), .buildSlice 5 1 1 [.int .u8 0] [(0, 1, (.t 11))], none⟩, 2, [], []⟩,
  ⟨⟨(some 13), .conv .bytesStr (.t 12), none⟩, 2, [], []⟩,
  ⟨⟨(some 14), .bin .add .no (.t 10) (.t 13), none⟩, 0, [], []⟩,
  ⟨⟨(some 6), .move (.t 14), none⟩, 0, [], []⟩]
def m13_r3 : List MI := [
  ⟨(some 15), .move (.t 0), none⟩,
  ⟨(some 16), .nilCheck (.t 15), none⟩,
  ⟨(some 17), .fieldAddr 0 (.t 16), none⟩,
  ⟨(some 18), .load none (.t 17), none⟩,
  ⟨(some 19), .bin .neq .no (.t 18) (.k (.sc (.str []))), none⟩,
  ⟨(some 20), .move (.t 19), none⟩,
  ⟨(some 21), .move (.t 6), (some (20, true))⟩,
  ⟨(some 22), .call 18 [(.t 21)], (some (20, true))⟩,
  ⟨(some 23), .bin .eql .no (.t 22) (.k (.sc (.int .i64 0))), (some (20, true))⟩,
  ⟨(some 24), .pick (.t 20) (.t 23) (.k (.sc (.bool false))), none⟩]
def m13_r4 : List MI := [
  ⟨(some 25), .move (.t 5), none⟩,
  ⟨(some 26), .buildSlice 21 1 1 [.int .i32 0] [(0, 1, (.k (.sc (.int .i32 65533))))], none⟩,
  ⟨(some 27), .append 21 1 4 [.int .i32 0] (.t 25) (.t 26), none⟩,
  ⟨(some 5), .move (.t 27), none⟩]
def m13_r5 : List MI := [
  ⟨(some 28), .move (.t 1), none⟩,
  ⟨(some 29), .buildSlice 5 1 1 [.int .u8 0] [(0, 1, (.t 28))], none⟩,
  ⟨(some 30), .conv .bytesStr (.t 29), none⟩,
  ⟨(some 6), .move (.t 30), none⟩]
def m13_r6 : List MI := [
  ⟨(some 31), .move (.t 0), none⟩,
  ⟨(some 32), .nilCheck (.t 31), none⟩,
  ⟨(some 33), .fieldAddr 0 (.t 32), none⟩,
  ⟨none, .store 1 (.t 33) (.k (.sc (.str []))), none⟩]
def m13_r7 : List MI := [
  ⟨(some 34), .move (.t 6), none⟩,
  ⟨(some 35), .call 18 [(.t 34)], none⟩]
def m13_r8 : List MI := [
  ⟨(some 37), .bin .eql .no (.t 35) (.k (.sc (.int .i64 0))), none⟩,
  ⟨(some 36), .move (.t 37), none⟩]
def m13_r9 : List MI := [
  ⟨(some 38), .move (.t 5), none⟩,
  ⟨(some 39), .buildSlice 21 1 1 [.int .i32 0] [(0, 1, (.k (.sc (.int .i32 65533))))], none⟩,
  ⟨(some 40), .append 21 1 4 [.int .i32 0] (.t 38) (.t 39), none⟩,
  ⟨(some 4), .move (.t 40), none⟩]
def m13_r10 : List MI := [
  ⟨(some 42), .bin .eql .no (.t 35) (.k (.sc (.int .i64 1))), none⟩,
  ⟨(some 41), .move (.t 42), none⟩]
def m13_r11 : List MI := [
  ⟨(some 43), .move (.t 0), none⟩,
  ⟨(some 44), .move (.t 6), none⟩,
  ⟨(some 45), .nilCheck (.t 43), none⟩,
  ⟨(some 46), .fieldAddr 0 (.t 45), none⟩,
  ⟨none, .store 1 (.t 46) (.t 44), none⟩]
def m13_r12 : List MI := [
  ⟨(some 47), .move (.t 5), none⟩,
  ⟨(some 4), .move (.t 47), none⟩]
def m13_r13 : List MI := [
  ⟨(some 48), .move (.t 5), none⟩,
  ⟨(some 49), .move (.t 6), none⟩,
  ⟨(some 50), .call 19 [(.t 49)], none⟩,
  ⟨(some 51), .buildSlice 21 1 1 [.int .i32 0] [(0, 1, (.t 50))], none⟩,
  ⟨(some 52), .append 21 1 4 [.int .i32 0] (.t 48) (.t 51), none⟩,
  ⟨(some 4), .move (.t 52), none⟩]
def m13_code : MCode := (.seq (.ops m13_r0) (.seq (.ops m13_r1) (.seq (.draw m13_r2) (.seq (.seq (.ops m13_r3) (.cond (.t 24) (.seq (.ops m13_r4) (.ops m13_r5)) .skip)) (.seq (.ops m13_r6) (.seq (.seq (.ops m13_r7) (.block 0 (.seq (.ops m13_r8) (.cond (.t 36) (.seq (.ops m13_r9) .ret) (.seq (.ops m13_r10) (.cond (.t 41) (.seq (.ops m13_r11) (.seq (.ops m13_r12) .ret)) .skip)))))) (.seq (.ops m13_r13) .ret)))))))
def m13 : MFunc := ⟨53, [.tmp 4], m13_code⟩

def m14_r0 : List MI := [
  ⟨(some 2), .move (.k (.sc (.int .i64 0))), none⟩]
def m14_r1 : List MI := [
  ⟨(some 3), .move (.t 0), none⟩,
  ⟨(some 4), .bin .eql .ptr (.t 3) (.k (.sc (.nilp))), none⟩]
def m14_r2 : List MI := [
  ⟨(some 2), .move (.k (.sc (.int .i64 0))), none⟩]
def m14_r3 : List MI := [
  ⟨(some 5), .move (.t 0), none⟩,
  ⟨(some 6), .nilCheck (.t 5), none⟩,
  ⟨(some 7), .fieldAddr 0 (.t 6), none⟩,
  ⟨(some 8), .load none (.t 7), none⟩,
  ⟨(some 2), .move (.t 8), none⟩]
def m14_code : MCode := (.seq (.ops m14_r0) (.seq (.seq (.ops m14_r1) (.cond (.t 4) (.seq (.ops m14_r2) .ret) .skip)) (.seq (.ops m14_r3) .ret)))
def m14 : MFunc := ⟨9, [.tmp 2], m14_code⟩

def m15_r0 : List MI := [
  ⟨(some 2), .move (.k (.sc (.int .i32 0))), none⟩,
  ⟨(some 3), .move (.k (.sc (.bool false))), none⟩]
def m15_r1 : List MI := [
  ⟨(some 4), .move (.t 0), none⟩,
  ⟨(some 5), .call 14 [(.t 4)], none⟩,
  ⟨(some 6), .bin .eql .no (.t 5) (.k (.sc (.int .i64 0))), none⟩]
def m15_r2 : List MI := [
  ⟨(some 2), .move (.k (.sc (.int .i32 0))), none⟩,
  ⟨(some 3), .move (.k (.sc (.bool false))), none⟩]
def m15_r3 : List MI := [
  ⟨(some 7), .move (.t 0), none⟩,
  ⟨(some 8), .build [.int .i64 0, .int .i64 0, .int .u8 0, .int .u8 0, .int .i32 0] [], none⟩,
  ⟨(some 9), .nilCheck (.t 7), none⟩,
  ⟨none, .store 5 (.t 9) (.t 8), none⟩]
def m15_r4 : List MI := [
  ⟨(some 2), .move (.k (.sc (.int .i32 65533))), none⟩,
  ⟨(some 3), .move (.k (.sc (.bool true))), none⟩]
def m15_code : MCode := (.seq (.ops m15_r0) (.seq (.seq (.ops m15_r1) (.cond (.t 6) (.seq (.ops m15_r2) .ret) .skip)) (.seq (.ops m15_r3) (.seq (.ops m15_r4) .ret))))
def m15 : MFunc := ⟨10, [.tmp 2, .tmp 3], m15_code⟩

def m16_r0 : List MI := [
  ⟨(some 2), .move (.k (.sc (.nils))), none⟩]
def m16_r1 : List MI := [
  ⟨(some 3), .move (.k (.sc (.nils))), none⟩]
def m16_r2 : List MI := [
  ⟨(some 6), .build [.str []] [], none⟩,
  ⟨(some 7), .box 31 (.t 6), none⟩,
  ⟨(some 4), .move (.t 7), none⟩]
def m16_r3 : List MI := [
  ⟨(some 5), .move (.k (.sc (.int .i64 0))), none⟩]
def m16_r5 : List MI := [
  ⟨(some 8), .move (.t 5), none⟩,
  ⟨(some 9), .move (.t 0), none⟩,
  ⟨(some 10), .lenStr (.t 9), none⟩,
  ⟨(some 11), .bin .lss .no (.t 8) (.t 10), none⟩]
def m16_r6 : List MI := [
  ⟨(some 14), .move (.t 3), none⟩,
  ⟨(some 15), .move (.t 4), none⟩,
  ⟨(some 16), .move (.t 0), none⟩,
  ⟨(some 17), .move (.t 5), none⟩,
  ⟨(some 18), .idxStr (.t 16) (.t 17), none⟩,
  ⟨(some 19), .call 13 [(.t 15), (.t 18)], none⟩,
  ⟨(some 20), .append 21 1 4 [.int .i32 0] (.t 14) (.t 19), none⟩,
  ⟨(some 3), .move (.t 20), none⟩]
def m16_r7 : List MI := [
  ⟨(some 12), .move (.t 5), none⟩,
  ⟨(some 13), .bin .add .no (.t 12) (.k (.sc (.int .i64 1))), none⟩,
  ⟨(some 5), .move (.t 13), none⟩]
def m16_l4 : MCode := (.seq (.seq (.ops m16_r5) (.cond (.t 11) .skip (.exit 0))) (.seq (.block 1 (.ops m16_r6)) (.ops m16_r7)))
def m16_r8 : List MI := [
  ⟨(some 21), .move (.t 4), none⟩,
  ⟨(some 22), .nilCheck (.t 21), none⟩,
  ⟨(some 23), .fieldAddr 0 (.t 22), none⟩,
  ⟨(some 24), .load none (.t 23), none⟩,
  ⟨(some 25), .bin .neq .no (.t 24) (.k (.sc (.str []))), none⟩]
def m16_r9 : List MI := [
  ⟨(some 26), .move (.t 3), none⟩,
  ⟨(some 27), .buildSlice 21 1 1 [.int .i32 0] [(0, 1, (.k (.sc (.int .i32 65533))))], none⟩,
  ⟨(some 28), .append 21 1 4 [.int .i32 0] (.t 26) (.t 27), none⟩,
  ⟨(some 3), .move (.t 28), none⟩]
def m16_r10 : List MI := [
  ⟨(some 29), .move (.t 3), none⟩,
  ⟨(some 2), .move (.t 29), none⟩]
def m16_code : MCode := (.seq (.ops m16_r0) (.seq (.ops m16_r1) (.seq (.ops m16_r2) (.seq (.seq (.ops m16_r3) (.block 0 (.loop m16_l4))) (.seq (.seq (.ops m16_r8) (.cond (.t 25) (.ops m16_r9) .skip)) (.seq (.ops m16_r10) .ret))))))
def m16 : MFunc := ⟨30, [.tmp 2], m16_code⟩

def m17_r0 : List MI := [
  ⟨(some 4), .move (.k (.sc (.int .i32 0))), none⟩,
  ⟨(some 5), .move (.k (.sc (.bool false))), none⟩]
def m17_r1 : List MI := [
  ⟨(some 11), .move (.t 1), none⟩,
  ⟨(some 12), .call 20 [(.t 11)], none⟩,
  ⟨(some 10), .move (.t 12), none⟩,
  ⟨(some 13), .extract (.t 10) 0, none⟩,
  ⟨(some 14), .extract (.t 10) 1, none⟩,
  ⟨(some 15), .extract (.t 10) 2, none⟩,
  ⟨(some 16), .extract (.t 10) 3, none⟩,
  ⟨(some 6), .move (.t 13), none⟩,
  ⟨(some 7), .move (.t 14), none⟩,
  ⟨(some 8), .move (.t 15), none⟩,
  ⟨(some 9), .move (.t 16), none⟩]
def m17_r2 : List MI := [
  ⟨(some 18), .move (.t 6), none⟩,
  ⟨(some 19), .bin .lss .no (.t 18) (.k (.sc (.int .i64 0))), none⟩,
  ⟨(some 17), .move (.t 19), none⟩]
def m17_r3 : List MI := [
  ⟨(some 4), .move (.k (.sc (.int .i32 65533))), none⟩,
  ⟨(some 5), .move (.k (.sc (.bool true))), none⟩]
def m17_r4 : List MI := [
  ⟨(some 21), .move (.t 6), none⟩,
  ⟨(some 22), .bin .eql .no (.t 21) (.k (.sc (.int .i64 0))), none⟩,
  ⟨(some 20), .move (.t 22), none⟩]
def m17_r5 : List MI := [
  ⟨(some 23), .move (.t 9), none⟩,
  ⟨(some 4), .move (.t 23), none⟩,
  ⟨(some 5), .move (.k (.sc (.bool true))), none⟩]
def m17_r6 : List MI := [
  ⟨(some 24), .move (.t 0), none⟩,
  ⟨(some 25), .move (.t 6), none⟩,
  ⟨(some 26), .move (.t 7), none⟩,
  ⟨(some 27), .move (.t 8), none⟩,
  ⟨(some 28), .move (.t 9), none⟩,
  ⟨(some 29), .build [.int .i64 0, .int .i64 0, .int .u8 0, .int .u8 0, .int .i32 0] [(0, 1, (.k (.sc (.int .i64 1)))), (1, 1, (.t 25)), (2, 1, (.t 26)), (3, 1, (.t 27)), (4, 1, (.t 28))], none⟩,
  ⟨(some 30), .nilCheck (.t 24), none⟩,
  ⟨none, .store 5 (.t 30) (.t 29), none⟩]
def m17_r7 : List MI := [
  ⟨(some 4), .move (.k (.sc (.int .i32 0))), none⟩,
  ⟨(some 5), .move (.k (.sc (.bool false))), none⟩]
def m17_code : MCode := (.seq (.ops m17_r0) (.seq (.ops m17_r1) (.seq (.block 0 (.seq (.ops m17_r2) (.cond (.t 17) (.seq (.ops m17_r3) .ret) (.seq (.ops m17_r4) (.cond (.t 20) (.seq (.ops m17_r5) .ret) .skip))))) (.seq (.ops m17_r6) (.seq (.ops m17_r7) .ret)))))
def m17 : MFunc := ⟨31, [.tmp 4, .tmp 5], m17_code⟩

def m18_r0 : List MI := [
  ⟨(some 2), .move (.k (.sc (.int .i64 0))), none⟩]
def m18_r1 : List MI := [
  ⟨(some 7), .call 21 [], none⟩,
  ⟨(some 3), .move (.t 7), none⟩]
def m18_r2 : List MI := [
  ⟨(some 4), .move (.k (.sc (.int .i64 0))), none⟩]
def m18_r4 : List MI := [
  ⟨(some 8), .move (.t 4), none⟩,
  ⟨(some 9), .move (.t 3), none⟩,
  ⟨(some 10), .lenSlice (.t 9), none⟩,
  ⟨(some 11), .bin .lss .no (.t 8) (.t 10), none⟩]
def m18_r5 : List MI := [
  ⟨(some 14), .move (.t 0), none⟩,
  ⟨(some 15), .lenStr (.t 14), none⟩,
  ⟨(some 16), .move (.t 3), none⟩,
  ⟨(some 17), .move (.t 4), none⟩,
  ⟨(some 18), .indexSlice 1 (.t 16) (.t 17), none⟩,
  ⟨(some 19), .load none (.t 18), none⟩,
  ⟨(some 20), .lenSlice (.t 19), none⟩,
  ⟨(some 21), .bin .leq .no (.t 15) (.t 20), none⟩,
  ⟨(some 5), .move (.t 21), none⟩]
def m18_r6 : List MI := [
  ⟨(some 6), .move (.k (.sc (.int .i64 0))), none⟩]
def m18_r8 : List MI := [
  ⟨(some 22), .move (.t 6), none⟩,
  ⟨(some 23), .move (.t 0), none⟩,
  ⟨(some 24), .lenStr (.t 23), none⟩,
  ⟨(some 25), .bin .lss .no (.t 22) (.t 24), none⟩,
  ⟨(some 26), .move (.t 25), none⟩,
  ⟨(some 27), .move (.t 5), (some (26, true))⟩,
  ⟨(some 28), .pick (.t 26) (.t 27) (.k (.sc (.bool false))), none⟩]
def m18_r9 : List DI := [
  ⟨⟨(some 31), .move (.t 0), none⟩, 0, [], []⟩,
  ⟨⟨(some 32), .move (.t 6), none⟩, 0, [], []⟩,
  ⟨⟨(some 33), .idxStr (.t 31) (.t 32), none⟩, 0, [], []⟩,
  ⟨⟨(some 34), .move (.t 3), none⟩, 0, [], []⟩,
  ⟨⟨(some 35), .move (.t 4), none⟩, 0, [], []⟩,
  ⟨⟨(some 36), .indexSlice 1 (.t 34) (.t 35), none⟩, 0, [], []⟩,
  ⟨⟨(some 37), .load none (.t 36), none⟩, 1, [], []⟩,
  ⟨⟨(some 38), .move (.t 6), none⟩, 0, [], []⟩,
  ⟨⟨(some 39), .indexSlice 2 (.t 37) (.t 38), none⟩, 0, [], []⟩,
  ⟨⟨(some 40), .indexArr 2 1 (.t 39) (.k (.sc (.int .i64 0))), none⟩, 0, [], []⟩,
  ⟨⟨(some 41), .load none (.t 40), none⟩, 1, [], []⟩,
  ⟨⟨(some 42), .bin .geq .no (.t 33) (.t 41), none⟩, 0, [], []⟩,
  ⟨⟨(some 43), .move (.t 42), none⟩, 0, [], []⟩,
  ⟨⟨(some 44), .move (.t 0), (some (43, true))⟩, 0, [], []⟩,
  ⟨⟨(some 45), .move (.t 6), (some (43, true))⟩, 0, [], []⟩,
  ⟨⟨(some 46), .idxStr (.t 44) (.t 45), (some (43, true))⟩, 0, [], []⟩,
  ⟨⟨(some 47), .move (.t 3), (some (43, true))⟩, 0, [], []⟩,
  ⟨⟨(some 48), .move (.t 4), (some (43, true))⟩, 0, [], []⟩,
  ⟨⟨(some 49), .indexSlice 1 (.t 47) (.t 48), (some (43, true))⟩, 0, [], []⟩,
  ⟨⟨(some 50), .load none (.t 49), (some (43, true))⟩, 1, [], []⟩,
  ⟨⟨(some 51), .move (.t 6), (some (43, true))⟩, 0, [], []⟩,
  ⟨⟨(some 52), .indexSlice 2 (.t 50) (.t 51), (some (43, true))⟩, 0, [], []⟩,
  ⟨⟨(some 53), .indexArr 2 1 (.t 52) (.k (.sc (.int .i64 1))), (some (43, true))⟩, 0, [], []⟩,
  ⟨⟨(some 54), .load none (.t 53), (some (43, true))⟩, 1, [], []⟩,
  ⟨⟨(some 55), .bin .leq .no (.t 46) (.t 54), (some (43, true))⟩, 0, [], []⟩,
  ⟨⟨(some 56), .pick (.t 43) (.t 55) (.k (.sc (.bool false))), none⟩, 0, [], []⟩,
  ⟨⟨(some 5), .move (.t 56), none⟩, 0, [], []⟩]
def m18_r10 : List MI := [
  ⟨(some 29), .move (.t 6), none⟩,
  ⟨(some 30), .bin .add .no (.t 29) (.k (.sc (.int .i64 1))), none⟩,
  ⟨(some 6), .move (.t 30), none⟩]
def m18_l7 : MCode := (.seq (.seq (.ops m18_r8) (.cond (.t 28) .skip (.exit 2))) (.seq (.block 3 (.draw m18_r9)) (.ops m18_r10)))
def m18_r11 : List MI := [
  ⟨(some 57), .move (.t 5), none⟩,
  ⟨(some 58), .move (.t 57), none⟩,
  ⟨(some 59), .move (.t 0), (some (58, true))⟩,
  ⟨(some 60), .lenStr (.t 59), (some (58, true))⟩,
  ⟨(some 61), .move (.t 3), (some (58, true))⟩,
  ⟨(some 62), .move (.t 4), (some (58, true))⟩,
  ⟨(some 63), .indexSlice 1 (.t 61) (.t 62), (some (58, true))⟩,
  ⟨(some 64), .load none (.t 63), (some (58, true))⟩,
  ⟨(some 65), .lenSlice (.t 64), (some (58, true))⟩,
  ⟨(some 66), .bin .eql .no (.t 60) (.t 65), (some (58, true))⟩,
  ⟨(some 67), .pick (.t 58) (.t 66) (.k (.sc (.bool false))), none⟩]
def m18_r12 : List MI := [
  ⟨(some 2), .move (.k (.sc (.int .i64 2))), none⟩]
def m18_r13 : List MI := [
  ⟨(some 68), .move (.t 5), none⟩]
def m18_r14 : List MI := [
  ⟨(some 2), .move (.k (.sc (.int .i64 1))), none⟩]
def m18_r15 : List MI := [
  ⟨(some 12), .move (.t 4), none⟩,
  ⟨(some 13), .bin .add .no (.t 12) (.k (.sc (.int .i64 1))), none⟩,
  ⟨(some 4), .move (.t 13), none⟩]
def m18_l3 : MCode := (.seq (.seq (.ops m18_r4) (.cond (.t 11) .skip (.exit 0))) (.seq (.block 1 (.seq (.ops m18_r5) (.seq (.seq (.ops m18_r6) (.block 2 (.loop m18_l7))) (.seq (.seq (.ops m18_r11) (.cond (.t 67) (.seq (.ops m18_r12) .ret) .skip)) (.seq (.ops m18_r13) (.cond (.t 68) (.seq (.ops m18_r14) .ret) .skip)))))) (.ops m18_r15)))
def m18_r16 : List MI := [
  ⟨(some 2), .move (.k (.sc (.int .i64 0))), none⟩]
def m18_code : MCode := (.seq (.ops m18_r0) (.seq (.ops m18_r1) (.seq (.seq (.ops m18_r2) (.block 0 (.loop m18_l3))) (.seq (.ops m18_r16) .ret))))
def m18 : MFunc := ⟨69, [.tmp 2], m18_code⟩

def m19_r0 : List MI := [
  ⟨(some 2), .move (.k (.sc (.int .i32 0))), none⟩]
def m19_r1 : List MI := [
  ⟨(some 5), .move (.t 0), none⟩,
  ⟨(some 6), .idxStr (.t 5) (.k (.sc (.int .i64 0))), none⟩,
  ⟨(some 7), .conv (.int .i32) (.t 6), none⟩,
  ⟨(some 3), .move (.t 7), none⟩]
def m19_r2 : List MI := [
  ⟨(some 8), .move (.t 0), none⟩,
  ⟨(some 9), .lenStr (.t 8), none⟩]
def m19_r3 : List MI := [
  ⟨(some 11), .bin .eql .no (.t 9) (.k (.sc (.int .i64 2))), none⟩,
  ⟨(some 10), .move (.t 11), none⟩]
def m19_r4 : List MI := [
  ⟨(some 12), .move (.t 3), none⟩,
  ⟨(some 13), .bin .rem .no (.t 12) (.k (.sc (.int .i32 32))), none⟩,
  ⟨(some 3), .move (.t 13), none⟩]
def m19_r5 : List MI := [
  ⟨(some 15), .bin .eql .no (.t 9) (.k (.sc (.int .i64 3))), none⟩,
  ⟨(some 14), .move (.t 15), none⟩]
def m19_r6 : List MI := [
  ⟨(some 16), .move (.t 3), none⟩,
  ⟨(some 17), .bin .rem .no (.t 16) (.k (.sc (.int .i32 16))), none⟩,
  ⟨(some 3), .move (.t 17), none⟩]
def m19_r7 : List MI := [
  ⟨(some 19), .bin .eql .no (.t 9) (.k (.sc (.int .i64 4))), none⟩,
  ⟨(some 18), .move (.t 19), none⟩]
def m19_r8 : List MI := [
  ⟨(some 20), .move (.t 3), none⟩,
  ⟨(some 21), .bin .rem .no (.t 20) (.k (.sc (.int .i32 8))), none⟩,
  ⟨(some 3), .move (.t 21), none⟩]
def m19_r9 : List MI := [
  ⟨(some 4), .move (.k (.sc (.int .i64 1))), none⟩]
def m19_r11 : List MI := [
  ⟨(some 22), .move (.t 4), none⟩,
  ⟨(some 23), .move (.t 0), none⟩,
  ⟨(some 24), .lenStr (.t 23), none⟩,
  ⟨(some 25), .bin .lss .no (.t 22) (.t 24), none⟩]
def m19_r12 : List MI := [
  ⟨(some 28), .move (.t 3), none⟩,
  ⟨(some 29), .bin .mul .no (.k (.sc (.int .i32 64))) (.t 28), none⟩,
  ⟨(some 30), .move (.t 0), none⟩,
  ⟨(some 31), .move (.t 4), none⟩,
  ⟨(some 32), .idxStr (.t 30) (.t 31), none⟩,
  ⟨(some 33), .conv (.int .i32) (.t 32), none⟩,
  ⟨(some 34), .bin .rem .no (.t 33) (.k (.sc (.int .i32 64))), none⟩,
  ⟨(some 35), .bin .add .no (.t 29) (.t 34), none⟩,
  ⟨(some 3), .move (.t 35), none⟩]
def m19_r13 : List MI := [
  ⟨(some 26), .move (.t 4), none⟩,
  ⟨(some 27), .bin .add .no (.t 26) (.k (.sc (.int .i64 1))), none⟩,
  ⟨(some 4), .move (.t 27), none⟩]
def m19_l10 : MCode := (.seq (.seq (.ops m19_r11) (.cond (.t 25) .skip (.exit 1))) (.seq (.block 2 (.ops m19_r12)) (.ops m19_r13)))
def m19_r14 : List MI := [
  ⟨(some 36), .move (.t 3), none⟩,
  ⟨(some 2), .move (.t 36), none⟩]
def m19_code : MCode := (.seq (.ops m19_r0) (.seq (.ops m19_r1) (.seq (.seq (.ops m19_r2) (.block 0 (.seq (.ops m19_r3) (.cond (.t 10) (.ops m19_r4) (.seq (.ops m19_r5) (.cond (.t 14) (.ops m19_r6) (.seq (.ops m19_r7) (.cond (.t 18) (.ops m19_r8) .skip)))))))) (.seq (.seq (.ops m19_r9) (.block 1 (.loop m19_l10))) (.seq (.ops m19_r14) .ret)))))
def m19 : MFunc := ⟨37, [.tmp 2], m19_code⟩

def m20_r0 : List MI := [
  ⟨(some 2), .move (.k (.sc (.int .i64 0))), none⟩,
  ⟨(some 3), .move (.k (.sc (.int .u8 0))), none⟩,
  ⟨(some 4), .move (.k (.sc (.int .u8 0))), none⟩,
  ⟨(some 5), .move (.k (.sc (.int .i32 0))), none⟩]
def m20_r1 : List MI := [
  ⟨(some 7), .move (.t 0), none⟩,
  ⟨(some 8), .bin .lss .no (.t 7) (.k (.sc (.int .u8 128))), none⟩,
  ⟨(some 6), .move (.t 8), none⟩]
def m20_r2 : List MI := [
  ⟨(some 9), .move (.t 0), none⟩,
  ⟨(some 10), .conv (.int .i32) (.t 9), none⟩,
  ⟨(some 2), .move (.k (.sc (.int .i64 0))), none⟩,
  ⟨(some 3), .move (.k (.sc (.int .u8 0))), none⟩,
  ⟨(some 4), .move (.k (.sc (.int .u8 0))), none⟩,
  ⟨(some 5), .move (.t 10), none⟩]
def m20_r3 : List MI := [
  ⟨(some 12), .move (.t 0), none⟩,
  ⟨(some 13), .bin .lss .no (.t 12) (.k (.sc (.int .u8 194))), none⟩,
  ⟨(some 14), .move (.t 13), none⟩,
  ⟨(some 15), .move (.t 0), (some (14, false))⟩,
  ⟨(some 16), .bin .gtr .no (.t 15) (.k (.sc (.int .u8 244))), (some (14, false))⟩,
  ⟨(some 17), .pick (.t 14) (.k (.sc (.bool true))) (.t 16), none⟩,
  ⟨(some 11), .move (.t 17), none⟩]
def m20_r4 : List MI := [
  ⟨(some 2), .move (.k (.sc (.int .i64 (-1)))), none⟩,
  ⟨(some 3), .move (.k (.sc (.int .u8 0))), none⟩,
  ⟨(some 4), .move (.k (.sc (.int .u8 0))), none⟩,
  ⟨(some 5), .move (.k (.sc (.int .i32 0))), none⟩]
def m20_r5 : List MI := [
  ⟨(some 19), .move (.t 0), none⟩,
  ⟨(some 20), .bin .lss .no (.t 19) (.k (.sc (.int .u8 224))), none⟩,
  ⟨(some 18), .move (.t 20), none⟩]
def m20_r6 : List MI := [
  ⟨(some 21), .move (.t 0), none⟩,
  ⟨(some 22), .bin .and .no (.t 21) (.k (.sc (.int .u8 31))), none⟩,
  ⟨(some 23), .conv (.int .i32) (.t 22), none⟩,
  ⟨(some 2), .move (.k (.sc (.int .i64 1))), none⟩,
  ⟨(some 3), .move (.k (.sc (.int .u8 128))), none⟩,
  ⟨(some 4), .move (.k (.sc (.int .u8 191))), none⟩,
  ⟨(some 5), .move (.t 23), none⟩]
def m20_r7 : List MI := [
  ⟨(some 25), .move (.t 0), none⟩,
  ⟨(some 26), .bin .eql .no (.t 25) (.k (.sc (.int .u8 224))), none⟩,
  ⟨(some 24), .move (.t 26), none⟩]
def m20_r8 : List MI := [
  ⟨(some 2), .move (.k (.sc (.int .i64 2))), none⟩,
  ⟨(some 3), .move (.k (.sc (.int .u8 160))), none⟩,
  ⟨(some 4), .move (.k (.sc (.int .u8 191))), none⟩,
  ⟨(some 5), .move (.k (.sc (.int .i32 0))), none⟩]
def m20_r9 : List MI := [
  ⟨(some 28), .move (.t 0), none⟩,
  ⟨(some 29), .bin .eql .no (.t 28) (.k (.sc (.int .u8 237))), none⟩,
  ⟨(some 27), .move (.t 29), none⟩]
def m20_r10 : List MI := [
  ⟨(some 30), .move (.t 0), none⟩,
  ⟨(some 31), .bin .and .no (.t 30) (.k (.sc (.int .u8 15))), none⟩,
  ⟨(some 32), .conv (.int .i32) (.t 31), none⟩,
  ⟨(some 2), .move (.k (.sc (.int .i64 2))), none⟩,
  ⟨(some 3), .move (.k (.sc (.int .u8 128))), none⟩,
  ⟨(some 4), .move (.k (.sc (.int .u8 159))), none⟩,
  ⟨(some 5), .move (.t 32), none⟩]
def m20_r11 : List MI := [
  ⟨(some 34), .move (.t 0), none⟩,
  ⟨(some 35), .bin .lss .no (.t 34) (.k (.sc (.int .u8 240))), none⟩,
  ⟨(some 33), .move (.t 35), none⟩]
def m20_r12 : List MI := [
  ⟨(some 36), .move (.t 0), none⟩,
  ⟨(some 37), .bin .and .no (.t 36) (.k (.sc (.int .u8 15))), none⟩,
  ⟨(some 38), .conv (.int .i32) (.t 37), none⟩,
  ⟨(some 2), .move (.k (.sc (.int .i64 2))), none⟩,
  ⟨(some 3), .move (.k (.sc (.int .u8 128))), none⟩,
  ⟨(some 4), .move (.k (.sc (.int .u8 191))), none⟩,
  ⟨(some 5), .move (.t 38), none⟩]
def m20_r13 : List MI := [
  ⟨(some 40), .move (.t 0), none⟩,
  ⟨(some 41), .bin .eql .no (.t 40) (.k (.sc (.int .u8 240))), none⟩,
  ⟨(some 39), .move (.t 41), none⟩]
def m20_r14 : List MI := [
  ⟨(some 2), .move (.k (.sc (.int .i64 3))), none⟩,
  ⟨(some 3), .move (.k (.sc (.int .u8 144))), none⟩,
  ⟨(some 4), .move (.k (.sc (.int .u8 191))), none⟩,
  ⟨(some 5), .move (.k (.sc (.int .i32 0))), none⟩]
def m20_r15 : List MI := [
  ⟨(some 43), .move (.t 0), none⟩,
  ⟨(some 44), .bin .eql .no (.t 43) (.k (.sc (.int .u8 244))), none⟩,
  ⟨(some 42), .move (.t 44), none⟩]
def m20_r16 : List MI := [
  ⟨(some 45), .move (.t 0), none⟩,
  ⟨(some 46), .bin .and .no (.t 45) (.k (.sc (.int .u8 7))), none⟩,
  ⟨(some 47), .conv (.int .i32) (.t 46), none⟩,
  ⟨(some 2), .move (.k (.sc (.int .i64 3))), none⟩,
  ⟨(some 3), .move (.k (.sc (.int .u8 128))), none⟩,
  ⟨(some 4), .move (.k (.sc (.int .u8 143))), none⟩,
  ⟨(some 5), .move (.t 47), none⟩]
def m20_r17 : List MI := [
  ⟨(some 48), .move (.t 0), none⟩,
  ⟨(some 49), .bin .and .no (.t 48) (.k (.sc (.int .u8 7))), none⟩,
  ⟨(some 50), .conv (.int .i32) (.t 49), none⟩,
  ⟨(some 2), .move (.k (.sc (.int .i64 3))), none⟩,
  ⟨(some 3), .move (.k (.sc (.int .u8 128))), none⟩,
  ⟨(some 4), .move (.k (.sc (.int .u8 191))), none⟩,
  ⟨(some 5), .move (.t 50), none⟩]
def m20_code : MCode := (.seq (.ops m20_r0) (.seq (.block 0 (.seq (.ops m20_r1) (.cond (.t 6) (.seq (.ops m20_r2) .ret) (.seq (.ops m20_r3) (.cond (.t 11) (.seq (.ops m20_r4) .ret) (.seq (.ops m20_r5) (.cond (.t 18) (.seq (.ops m20_r6) .ret) (.seq (.ops m20_r7) (.cond (.t 24) (.seq (.ops m20_r8) .ret) (.seq (.ops m20_r9) (.cond (.t 27) (.seq (.ops m20_r10) .ret) (.seq (.ops m20_r11) (.cond (.t 33) (.seq (.ops m20_r12) .ret) (.seq (.ops m20_r13) (.cond (.t 39) (.seq (.ops m20_r14) .ret) (.seq (.ops m20_r15) (.cond (.t 42) (.seq (.ops m20_r16) .ret) .skip))))))))))))))))) (.seq (.ops m20_r17) .ret)))
def m20 : MFunc := ⟨51, [.tmp 2, .tmp 3, .tmp 4, .tmp 5], m20_code⟩

def m21_r0 : List MI := [
  ⟨(some 0), .move (.k (.sc (.nils))), none⟩]
def m21_r1 : List MI := [
  ⟨(some 2), .build [.int .u8 0, .int .u8 0] [(0, 1, (.k (.sc (.int .u8 128)))), (1, 1, (.k (.sc (.int .u8 191))))], none⟩,
  ⟨(some 1), .alloc 53 [.int .u8 0, .int .u8 0], none⟩,
  ⟨none, .store 2 (.t 1) (.t 2), none⟩]
def m21_r2 : List MI := [
  ⟨(some 3), .build [.int .u8 0, .int .u8 0] [(0, 1, (.k (.sc (.int .u8 0)))), (1, 1, (.k (.sc (.int .u8 127))))], none⟩,
  ⟨(some 4), .buildSlice 53 2 1 [.int .u8 0, .int .u8 0] [(0, 2, (.t 3))], none⟩,
  ⟨(some 5), .build [.int .u8 0, .int .u8 0] [(0, 1, (.k (.sc (.int .u8 194)))), (1, 1, (.k (.sc (.int .u8 223))))], none⟩,
  ⟨(some 6), .load (some 2) (.t 1), none⟩,
  ⟨(some 7), .buildSlice 53 2 2 [.int .u8 0, .int .u8 0] [(0, 2, (.t 5)), (2, 2, (.t 6))], none⟩,
  ⟨(some 8), .build [.int .u8 0, .int .u8 0] [(0, 1, (.k (.sc (.int .u8 224)))), (1, 1, (.k (.sc (.int .u8 224))))], none⟩,
  ⟨(some 9), .build [.int .u8 0, .int .u8 0] [(0, 1, (.k (.sc (.int .u8 160)))), (1, 1, (.k (.sc (.int .u8 191))))], none⟩,
  ⟨(some 10), .load (some 2) (.t 1), none⟩,
  ⟨(some 11), .buildSlice 53 2 3 [.int .u8 0, .int .u8 0] [(0, 2, (.t 8)), (2, 2, (.t 9)), (4, 2, (.t 10))], none⟩,
  ⟨(some 12), .build [.int .u8 0, .int .u8 0] [(0, 1, (.k (.sc (.int .u8 225)))), (1, 1, (.k (.sc (.int .u8 236))))], none⟩,
  ⟨(some 13), .load (some 2) (.t 1), none⟩,
  ⟨(some 14), .load (some 2) (.t 1), none⟩,
  ⟨(some 15), .buildSlice 53 2 3 [.int .u8 0, .int .u8 0] [(0, 2, (.t 12)), (2, 2, (.t 13)), (4, 2, (.t 14))], none⟩,
  ⟨(some 16), .build [.int .u8 0, .int .u8 0] [(0, 1, (.k (.sc (.int .u8 237)))), (1, 1, (.k (.sc (.int .u8 237))))], none⟩,
  ⟨(some 17), .build [.int .u8 0, .int .u8 0] [(0, 1, (.k (.sc (.int .u8 128)))), (1, 1, (.k (.sc (.int .u8 159))))], none⟩,
  ⟨(some 18), .load (some 2) (.t 1), none⟩,
  ⟨(some 19), .buildSlice 53 2 3 [.int .u8 0, .int .u8 0] [(0, 2, (.t 16)), (2, 2, (.t 17)), (4, 2, (.t 18))], none⟩,
  ⟨(some 20), .build [.int .u8 0, .int .u8 0] [(0, 1, (.k (.sc (.int .u8 238)))), (1, 1, (.k (.sc (.int .u8 239))))], none⟩,
  ⟨(some 21), .load (some 2) (.t 1), none⟩,
  ⟨(some 22), .load (some 2) (.t 1), none⟩,
  ⟨(some 23), .buildSlice 53 2 3 [.int .u8 0, .int .u8 0] [(0, 2, (.t 20)), (2, 2, (.t 21)), (4, 2, (.t 22))], none⟩,
  ⟨(some 24), .build [.int .u8 0, .int .u8 0] [(0, 1, (.k (.sc (.int .u8 240)))), (1, 1, (.k (.sc (.int .u8 240))))], none⟩,
  ⟨(some 25), .build [.int .u8 0, .int .u8 0] [(0, 1, (.k (.sc (.int .u8 144)))), (1, 1, (.k (.sc (.int .u8 191))))], none⟩,
  ⟨(some 26), .load (some 2) (.t 1), none⟩,
  ⟨(some 27), .load (some 2) (.t 1), none⟩,
  ⟨(some 28), .buildSlice 53 2 4 [.int .u8 0, .int .u8 0] [(0, 2, (.t 24)), (2, 2, (.t 25)), (4, 2, (.t 26)), (6, 2, (.t 27))], none⟩,
  ⟨(some 29), .build [.int .u8 0, .int .u8 0] [(0, 1, (.k (.sc (.int .u8 241)))), (1, 1, (.k (.sc (.int .u8 243))))], none⟩,
  ⟨(some 30), .load (some 2) (.t 1), none⟩,
  ⟨(some 31), .load (some 2) (.t 1), none⟩,
  ⟨(some 32), .load (some 2) (.t 1), none⟩,
  ⟨(some 33), .buildSlice 53 2 4 [.int .u8 0, .int .u8 0] [(0, 2, (.t 29)), (2, 2, (.t 30)), (4, 2, (.t 31)), (6, 2, (.t 32))], none⟩,
  ⟨(some 34), .build [.int .u8 0, .int .u8 0] [(0, 1, (.k (.sc (.int .u8 244)))), (1, 1, (.k (.sc (.int .u8 244))))], none⟩,
  ⟨(some 35), .build [.int .u8 0, .int .u8 0] [(0, 1, (.k (.sc (.int .u8 128)))), (1, 1, (.k (.sc (.int .u8 143))))], none⟩,
  ⟨(some 36), .load (some 2) (.t 1), none⟩,
  ⟨(some 37), .load (some 2) (.t 1), none⟩,
  ⟨(some 38), .buildSlice 53 2 4 [.int .u8 0, .int .u8 0] [(0, 2, (.t 34)), (2, 2, (.t 35)), (4, 2, (.t 36)), (6, 2, (.t 37))], none⟩,
  ⟨(some 39), .buildSlice 52 1 9 [.nils] [(0, 1, (.t 4)), (1, 1, (.t 7)), (2, 1, (.t 11)), (3, 1, (.t 15)), (4, 1, (.t 19)), (5, 1, (.t 23)), (6, 1, (.t 28)), (7, 1, (.t 33)), (8, 1, (.t 38))], none⟩,
  ⟨(some 0), .move (.t 39), none⟩]
def m21_code : MCode := (.seq (.ops m21_r0) (.seq (.ops m21_r1) (.seq (.ops m21_r2) .ret)))
def m21 : MFunc := ⟨40, [.tmp 0], m21_code⟩

def DD0 : Nat → Option MFunc := fun f => match f with
  | 3 => some m3
  | 4 => some m4
  | 5 => some m5
  | 6 => some m6
  | 7 => some m7
  | 8 => some m8
  | 9 => some m9
  | 10 => some m10
  | 11 => some m11
  | 12 => some m12
  | 13 => some m13
  | 14 => some m14
  | 15 => some m15
  | 16 => some m16
  | 17 => some m17
  | 18 => some m18
  | 19 => some m19
  | 20 => some m20
  | 21 => some m21
  | _ => none
def DD : Nat → Option MFunc := withKnown [9] DD0
theorem c3 : mfun Try.prog jxX 3 = some m3 := by kernel_rfl
theorem c4 : mfun Try.prog jxX 4 = some m4 := by kernel_rfl
theorem c5 : mfun Try.prog jxX 5 = some m5 := by kernel_rfl
theorem c6 : mfun Try.prog jxX 6 = some m6 := by kernel_rfl
theorem c7 : mfun Try.prog jxX 7 = some m7 := by kernel_rfl
theorem c8 : mfun Try.prog jxX 8 = some m8 := by kernel_rfl
theorem c9 : mfun Try.prog jxX 9 = some m9 := by kernel_rfl
theorem c10 : mfun Try.prog jxX 10 = some m10 := by kernel_rfl
theorem c11 : mfun Try.prog jxX 11 = some m11 := by kernel_rfl
theorem c12 : mfun Try.prog jxX 12 = some m12 := by kernel_rfl
theorem c13 : mfun Try.prog jxX 13 = some m13 := by kernel_rfl
theorem c14 : mfun Try.prog jxX 14 = some m14 := by kernel_rfl
theorem c15 : mfun Try.prog jxX 15 = some m15 := by kernel_rfl
theorem c16 : mfun Try.prog jxX 16 = some m16 := by kernel_rfl
theorem c17 : mfun Try.prog jxX 17 = some m17 := by kernel_rfl
theorem c18 : mfun Try.prog jxX 18 = some m18 := by kernel_rfl
theorem c19 : mfun Try.prog jxX 19 = some m19 := by kernel_rfl
theorem c20 : mfun Try.prog jxX 20 = some m20 := by kernel_rfl
theorem c21 : mfun Try.prog jxX 21 = some m21 := by kernel_rfl
theorem d3 : DD 3 = some m3 := rfl
theorem d4 : DD 4 = some m4 := rfl
theorem d5 : DD 5 = some m5 := rfl
theorem d6 : DD 6 = some m6 := rfl
theorem d7 : DD 7 = some m7 := rfl
theorem d8 : DD 8 = some m8 := rfl
theorem d9 : DD 9 = some knownM := rfl
theorem d10 : DD 10 = some m10 := rfl
theorem d11 : DD 11 = some m11 := rfl
theorem d12 : DD 12 = some m12 := rfl
theorem d13 : DD 13 = some m13 := rfl
theorem d14 : DD 14 = some m14 := rfl
theorem d15 : DD 15 = some m15 := rfl
theorem d16 : DD 16 = some m16 := rfl
theorem d17 : DD 17 = some m17 := rfl
theorem d18 : DD 18 = some m18 := rfl
theorem d19 : DD 19 = some m19 := rfl
theorem d20 : DD 20 = some m20 := rfl
theorem d21 : DD 21 = some m21 := rfl
theorem DD0_ok (w : World) : FunOk Try.prog w jxX DD0 := by
  intro f m h
  refine mfun_ok _ w _ f m ?_
  unfold DD0 at h
  split at h
  · cases h; exact c3
  · cases h; exact c4
  · cases h; exact c5
  · cases h; exact c6
  · cases h; exact c7
  · cases h; exact c8
  · cases h; exact c9
  · cases h; exact c10
  · cases h; exact c11
  · cases h; exact c12
  · cases h; exact c13
  · cases h; exact c14
  · cases h; exact c15
  · cases h; exact c16
  · cases h; exact c17
  · cases h; exact c18
  · cases h; exact c19
  · cases h; exact c20
  · cases h; exact c21
  · cases h
end Go.Proofs.Ytcgfcnbcfcllpaa
