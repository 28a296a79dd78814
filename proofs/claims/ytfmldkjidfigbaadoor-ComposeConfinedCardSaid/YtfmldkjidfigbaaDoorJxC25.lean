/- The plain machine's functions of this seat, as a program of mine printed them (Prt.lean), and that they are what compiling gives. -/
import Derived.Test.YtfmldkjidfigbaaDoorJxKRun
import Derived.Test.YtfmldkjidfigbaaDoorJxW3
import Derived.Test.YtfmldkjidfigbaaDoorChecked
namespace Go.Proofs.YtfmldkjidfigbaaDoor
open Go Go.Jx
def jxX : Exts := exts [9,9,0,0,0,0,0,0,0,0,0,0,0,0,0,0,0,0,0,0,0,0,0,0,0,0,0,0,0,0,0,0,0,0,0,0,0,0,0,0,0,0,0,0,0,0,0,0,0,0,0]
def m3_r0 : List MI := [
  ⟨(some 0), .move (.k (.sc (.bool false))), none⟩]
def m3_r1 : List MI := [
  ⟨(some 12), .call 7 [], none⟩,
  ⟨(some 1), .alloc 25 [.int .i64 0, .int .i64 0, .nils, .nils, .str [], .int .i64 0, .int .i64 0, .bool false], none⟩,
  ⟨none, .store 8 (.t 1) (.t 12), none⟩]
def m3_r2 : List MI := [
  ⟨(some 13), .fieldAddr 2 (.t 1), none⟩,
  ⟨(some 14), .load none (.t 13), none⟩,
  ⟨(some 15), .indexSlice 6 (.t 14) (.k (.sc (.int .i64 0))), none⟩,
  ⟨(some 16), .fieldAddr 5 (.t 15), none⟩,
  ⟨(some 17), .load none (.t 16), none⟩,
  ⟨(some 18), .build [.int .i32 0, .int .u8 0, .int .u16 0, .int .u8 0, .int .u32 0, .int .u8 0, .int .u32 0] [(0, 1, (.k (.sc (.int .i32 97))))], none⟩,
  ⟨(some 19), .build [.int .i32 0, .int .u8 0, .int .u16 0, .int .u8 0, .int .u32 0, .int .u8 0, .int .u32 0] [(0, 1, (.k (.sc (.int .i32 20013)))), (1, 1, (.k (.sc (.int .u8 1))))], none⟩,
  ⟨(some 20), .build [.int .i32 0, .int .u8 0, .int .u16 0, .int .u8 0, .int .u32 0, .int .u8 0, .int .u32 0] [(0, 1, (.k (.sc (.int .i32 20013)))), (1, 1, (.k (.sc (.int .u8 2))))], none⟩,
  ⟨(some 21), .buildSlice 34 7 3 [.int .i32 0, .int .u8 0, .int .u16 0, .int .u8 0, .int .u32 0, .int .u8 0, .int .u32 0] [(0, 7, (.t 18)), (7, 7, (.t 19)), (14, 7, (.t 20))], none⟩,
  ⟨(some 22), .indexSlice 1 (.t 17) (.k (.sc (.int .i64 0))), none⟩,
  ⟨none, .store 1 (.t 22) (.t 21), none⟩]
def m3_r3 : List MI := [
  ⟨(some 24), .load (some 8) (.t 1), none⟩,
  ⟨(some 25), .call 8 [(.t 24)], none⟩,
  ⟨(some 23), .move (.t 25), none⟩,
  ⟨(some 26), .extract (.t 23) 0, none⟩,
  ⟨(some 27), .extract (.t 23) 1, none⟩,
  ⟨(some 2), .alloc 42 [.int .i64 0, .int .i64 0, .nils, .int .i64 0, .int .i64 0, .bool false], none⟩,
  ⟨none, .store 6 (.t 2) (.t 26), none⟩,
  ⟨(some 3), .move (.t 27), none⟩]
def m3_r4 : List MI := [
  ⟨(some 28), .fieldAddr 2 (.t 1), none⟩,
  ⟨(some 29), .load none (.t 28), none⟩,
  ⟨(some 30), .indexSlice 6 (.t 29) (.k (.sc (.int .i64 1))), none⟩,
  ⟨(some 31), .fieldAddr 4 (.t 30), none⟩,
  ⟨none, .store 1 (.t 31) (.k (.sc (.bool true))), none⟩]
def m3_r5 : List MI := [
  ⟨(some 32), .fieldAddr 7 (.t 1), none⟩,
  ⟨none, .store 1 (.t 32) (.k (.sc (.bool false))), none⟩]
def m3_r6 : List MI := [
  ⟨(some 34), .load (some 8) (.t 1), none⟩,
  ⟨(some 35), .call 8 [(.t 34)], none⟩,
  ⟨(some 33), .move (.t 35), none⟩,
  ⟨(some 36), .extract (.t 33) 0, none⟩,
  ⟨(some 37), .extract (.t 33) 1, none⟩,
  ⟨(some 4), .alloc 42 [.int .i64 0, .int .i64 0, .nils, .int .i64 0, .int .i64 0, .bool false], none⟩,
  ⟨none, .store 6 (.t 4) (.t 36), none⟩,
  ⟨(some 5), .move (.t 37), none⟩]
def m3_r7 : List MI := [
  ⟨(some 39), .build [.int .i64 0, .int .i64 0, .nils, .nils, .str [], .int .i64 0, .int .i64 0, .bool false] [(0, 1, (.k (.sc (.int .i64 0)))), (1, 1, (.k (.sc (.int .i64 1))))], none⟩,
  ⟨(some 40), .call 8 [(.t 39)], none⟩,
  ⟨(some 38), .move (.t 40), none⟩,
  ⟨(some 41), .extract (.t 38) 0, none⟩,
  ⟨(some 42), .extract (.t 38) 1, none⟩,
  ⟨(some 6), .alloc 42 [.int .i64 0, .int .i64 0, .nils, .int .i64 0, .int .i64 0, .bool false], none⟩,
  ⟨none, .store 6 (.t 6) (.t 41), none⟩,
  ⟨(some 7), .move (.t 42), none⟩]
def m3_r8 : List MI := [
  ⟨(some 44), .build [.int .i64 0, .int .i64 0, .nils, .nils, .str [], .int .i64 0, .int .i64 0, .bool false] [(0, 1, (.k (.sc (.int .i64 401)))), (1, 1, (.k (.sc (.int .i64 1))))], none⟩,
  ⟨(some 45), .call 8 [(.t 44)], none⟩,
  ⟨(some 43), .move (.t 45), none⟩,
  ⟨(some 46), .extract (.t 43) 0, none⟩,
  ⟨(some 47), .extract (.t 43) 1, none⟩,
  ⟨(some 8), .alloc 42 [.int .i64 0, .int .i64 0, .nils, .int .i64 0, .int .i64 0, .bool false], none⟩,
  ⟨none, .store 6 (.t 8) (.t 46), none⟩,
  ⟨(some 9), .move (.t 47), none⟩]
def m3_r9 : List MI := [
  ⟨(some 49), .build [.int .i64 0, .int .i64 0, .nils, .nils, .str [], .int .i64 0, .int .i64 0, .bool false] [(0, 1, (.k (.sc (.int .i64 2)))), (1, 1, (.k (.sc (.int .i64 1)))), (4, 1, (.k (.sc (.str [27, 120, 121, 122])))), (7, 1, (.k (.sc (.bool true))))], none⟩,
  ⟨(some 50), .call 8 [(.t 49)], none⟩,
  ⟨(some 48), .move (.t 50), none⟩,
  ⟨(some 51), .extract (.t 48) 0, none⟩,
  ⟨(some 52), .extract (.t 48) 1, none⟩,
  ⟨(some 10), .alloc 42 [.int .i64 0, .int .i64 0, .nils, .int .i64 0, .int .i64 0, .bool false], none⟩,
  ⟨none, .store 6 (.t 10) (.t 51), none⟩,
  ⟨(some 11), .move (.t 52), none⟩]
def m3_r10 : List MI := [
  ⟨(some 53), .call 9 [], none⟩,
  ⟨(some 54), .move (.t 53), none⟩,
  ⟨(some 55), .fieldAddr 2 (.t 2), (some (54, true))⟩,
  ⟨(some 56), .load none (.t 55), (some (54, true))⟩,
  ⟨(some 57), .lenSlice (.t 56), (some (54, true))⟩,
  ⟨(some 58), .bin .eql .no (.t 57) (.k (.sc (.int .i64 18))), (some (54, true))⟩,
  ⟨(some 59), .pick (.t 54) (.t 58) (.k (.sc (.bool false))), none⟩,
  ⟨(some 60), .move (.t 59), none⟩,
  ⟨(some 61), .fieldAddr 2 (.t 2), (some (60, true))⟩,
  ⟨(some 62), .load none (.t 61), (some (60, true))⟩,
  ⟨(some 63), .indexSlice 7 (.t 62) (.k (.sc (.int .i64 1))), (some (60, true))⟩,
  ⟨(some 64), .load (some 7) (.t 63), (some (60, true))⟩,
  ⟨(some 65), .build [.int .i32 0, .int .u8 0, .int .u16 0, .int .u8 0, .int .u32 0, .int .u8 0, .int .u32 0] [(0, 1, (.k (.sc (.int .i32 32))))], (some (60, true))⟩,
  ⟨(some 66), .bin .eql (.agg [.int .i32, .int .u8, .int .u16, .int .u8, .int .u32, .int .u8, .int .u32]) (.t 64) (.t 65), (some (60, true))⟩,
  ⟨(some 67), .pick (.t 60) (.t 66) (.k (.sc (.bool false))), none⟩,
  ⟨(some 68), .move (.t 67), none⟩,
  ⟨(some 69), .fieldAddr 2 (.t 4), (some (68, true))⟩,
  ⟨(some 70), .load none (.t 69), (some (68, true))⟩,
  ⟨(some 71), .lenSlice (.t 70), (some (68, true))⟩,
  ⟨(some 72), .bin .eql .no (.t 71) (.k (.sc (.int .i64 18))), (some (68, true))⟩,
  ⟨(some 73), .pick (.t 68) (.t 72) (.k (.sc (.bool false))), none⟩,
  ⟨(some 74), .move (.t 73), none⟩,
  ⟨(some 75), .fieldAddr 2 (.t 4), (some (74, true))⟩,
  ⟨(some 76), .load none (.t 75), (some (74, true))⟩,
  ⟨(some 77), .indexSlice 7 (.t 76) (.k (.sc (.int .i64 3))), (some (74, true))⟩,
  ⟨(some 78), .load (some 7) (.t 77), (some (74, true))⟩,
  ⟨(some 79), .build [.int .i32 0, .int .u8 0, .int .u16 0, .int .u8 0, .int .u32 0, .int .u8 0, .int .u32 0] [(0, 1, (.k (.sc (.int .i32 32))))], (some (74, true))⟩,
  ⟨(some 80), .bin .eql (.agg [.int .i32, .int .u8, .int .u16, .int .u8, .int .u32, .int .u8, .int .u32]) (.t 78) (.t 79), (some (74, true))⟩,
  ⟨(some 81), .pick (.t 74) (.t 80) (.k (.sc (.bool false))), none⟩,
  ⟨(some 82), .move (.t 81), none⟩,
  ⟨(some 83), .fieldAddr 5 (.t 4), (some (82, true))⟩,
  ⟨(some 84), .load none (.t 83), (some (82, true))⟩,
  ⟨(some 85), .un .not (.t 84), (some (82, true))⟩,
  ⟨(some 86), .pick (.t 82) (.t 85) (.k (.sc (.bool false))), none⟩,
  ⟨(some 87), .move (.t 86), none⟩,
  ⟨(some 88), .fieldAddr 3 (.t 4), (some (87, true))⟩,
  ⟨(some 89), .load none (.t 88), (some (87, true))⟩,
  ⟨(some 90), .bin .eql .no (.t 89) (.k (.sc (.int .i64 0))), (some (87, true))⟩,
  ⟨(some 91), .pick (.t 87) (.t 90) (.k (.sc (.bool false))), none⟩,
  ⟨(some 92), .move (.t 91), none⟩,
  ⟨(some 93), .move (.t 7), (some (92, true))⟩,
  ⟨(some 94), .bin .eql .no (.t 93) (.k (.sc (.int .i64 1))), (some (92, true))⟩,
  ⟨(some 95), .pick (.t 92) (.t 94) (.k (.sc (.bool false))), none⟩,
  ⟨(some 96), .move (.t 95), none⟩,
  ⟨(some 97), .move (.t 9), (some (96, true))⟩,
  ⟨(some 98), .bin .eql .no (.t 97) (.k (.sc (.int .i64 1))), (some (96, true))⟩,
  ⟨(some 99), .pick (.t 96) (.t 98) (.k (.sc (.bool false))), none⟩,
  ⟨(some 100), .move (.t 99), none⟩,
  ⟨(some 101), .move (.t 11), (some (100, true))⟩,
  ⟨(some 102), .bin .eql .no (.t 101) (.k (.sc (.int .i64 0))), (some (100, true))⟩,
  ⟨(some 103), .pick (.t 100) (.t 102) (.k (.sc (.bool false))), none⟩,
  ⟨(some 104), .move (.t 103), none⟩,
  ⟨(some 105), .fieldAddr 2 (.t 10), (some (104, true))⟩,
  ⟨(some 106), .load none (.t 105), (some (104, true))⟩,
  ⟨(some 107), .lenSlice (.t 106), (some (104, true))⟩,
  ⟨(some 108), .bin .eql .no (.t 107) (.k (.sc (.int .i64 2))), (some (104, true))⟩,
  ⟨(some 109), .pick (.t 104) (.t 108) (.k (.sc (.bool false))), none⟩,
  ⟨(some 110), .move (.t 109), none⟩,
  ⟨(some 111), .fieldAddr 2 (.t 10), (some (110, true))⟩,
  ⟨(some 112), .load none (.t 111), (some (110, true))⟩,
  ⟨(some 113), .indexSlice 7 (.t 112) (.k (.sc (.int .i64 0))), (some (110, true))⟩,
  ⟨(some 114), .fieldAddr 0 (.t 113), (some (110, true))⟩,
  ⟨(some 115), .load none (.t 114), (some (110, true))⟩,
  ⟨(some 116), .bin .eql .no (.t 115) (.k (.sc (.int .i32 63))), (some (110, true))⟩,
  ⟨(some 117), .pick (.t 110) (.t 116) (.k (.sc (.bool false))), none⟩,
  ⟨(some 118), .move (.t 117), none⟩,
  ⟨(some 119), .fieldAddr 2 (.t 10), (some (118, true))⟩,
  ⟨(some 120), .load none (.t 119), (some (118, true))⟩,
  ⟨(some 121), .indexSlice 7 (.t 120) (.k (.sc (.int .i64 1))), (some (118, true))⟩,
  ⟨(some 122), .fieldAddr 0 (.t 121), (some (118, true))⟩,
  ⟨(some 123), .load none (.t 122), (some (118, true))⟩,
  ⟨(some 124), .bin .eql .no (.t 123) (.k (.sc (.int .i32 120))), (some (118, true))⟩,
  ⟨(some 125), .pick (.t 118) (.t 124) (.k (.sc (.bool false))), none⟩,
  ⟨(some 126), .move (.t 125), none⟩,
  ⟨(some 127), .fieldAddr 5 (.t 10), (some (126, true))⟩,
  ⟨(some 128), .load none (.t 127), (some (126, true))⟩,
  ⟨(some 129), .un .not (.t 128), (some (126, true))⟩,
  ⟨(some 130), .pick (.t 126) (.t 129) (.k (.sc (.bool false))), none⟩,
  ⟨(some 0), .move (.t 130), none⟩]
def m3_code : MCode := (.seq (.ops m3_r0) (.seq (.ops m3_r1) (.seq (.ops m3_r2) (.seq (.ops m3_r3) (.seq (.ops m3_r4) (.seq (.ops m3_r5) (.seq (.ops m3_r6) (.seq (.ops m3_r7) (.seq (.ops m3_r8) (.seq (.ops m3_r9) (.seq (.ops m3_r10) .ret)))))))))))
def m3 : MFunc := ⟨131, [.tmp 0], m3_code⟩

def m4_r0 : List MI := [
  ⟨(some 2), .move (.k (.sc (.bool false))), none⟩]
def m4_r1 : List MI := [
  ⟨(some 6), .call 9 [], none⟩,
  ⟨(some 7), .un .not (.t 6), none⟩]
def m4_r2 : List MI := [
  ⟨(some 2), .move (.k (.sc (.bool false))), none⟩]
def m4_r3 : List MI := [
  ⟨(some 8), .move (.t 0), none⟩,
  ⟨(some 9), .lenSlice (.t 8), none⟩,
  ⟨(some 10), .bin .gtr .no (.t 9) (.k (.sc (.int .i64 1000))), none⟩]
def m4_r4 : List MI := [
  ⟨(some 2), .move (.k (.sc (.bool true))), none⟩]
def m4_r5 : List MI := [
  ⟨(some 11), .move (.t 0), none⟩,
  ⟨(some 12), .call 10 [(.t 11)], none⟩,
  ⟨(some 13), .move (.t 0), none⟩,
  ⟨(some 14), .call 11 [(.t 13)], none⟩,
  ⟨(some 3), .move (.t 12), none⟩,
  ⟨(some 4), .move (.t 14), none⟩]
def m4_r6 : List MI := [
  ⟨(some 15), .move (.t 3), none⟩,
  ⟨(some 16), .lenSlice (.t 15), none⟩,
  ⟨(some 17), .move (.t 4), none⟩,
  ⟨(some 18), .lenSlice (.t 17), none⟩,
  ⟨(some 19), .bin .neq .no (.t 16) (.t 18), none⟩]
def m4_r7 : List MI := [
  ⟨(some 2), .move (.k (.sc (.bool false))), none⟩]
def m4_r8 : List MI := [
  ⟨(some 5), .move (.k (.sc (.int .i64 0))), none⟩]
def m4_r10 : List MI := [
  ⟨(some 20), .move (.t 5), none⟩,
  ⟨(some 21), .move (.t 3), none⟩,
  ⟨(some 22), .lenSlice (.t 21), none⟩,
  ⟨(some 23), .bin .lss .no (.t 20) (.t 22), none⟩]
def m4_r11 : List DI := [
  ⟨⟨(some 26), .move (.t 3), none⟩, 0, [], []⟩,
  ⟨⟨(some 27), .move (.t 5), none⟩, 0, [], []⟩,
  ⟨⟨(some 28), .indexSlice 7 (.t 26) (.t 27), none⟩, 0, [], []⟩,
  ⟨⟨(some 29), .load (some 7) (.t 28), none⟩, 1, [], []⟩,
  ⟨⟨(some 30), .move (.t 4), none⟩, 0, [], []⟩,
  ⟨⟨(some 31), .move (.t 5), none⟩, 0, [], []⟩,
  ⟨⟨(some 32), .indexSlice 7 (.t 30) (.t 31), none⟩, 0, [], []⟩,
  ⟨⟨(some 33), .load (some 7) (.t 32), none⟩, 1, [], []⟩,
  ⟨⟨(some 34), .bin .neq (.agg [.int .i32, .int .u8, .int .u16, .int .u8, .int .u32, .int .u8, .int .u32]) (.t 29) (.t 33), none⟩, 0, [], []⟩]
def m4_r12 : List MI := [
  ⟨(some 2), .move (.k (.sc (.bool false))), none⟩]
def m4_r13 : List MI := [
  ⟨(some 24), .move (.t 5), none⟩,
  ⟨(some 25), .bin .add .no (.t 24) (.k (.sc (.int .i64 1))), none⟩,
  ⟨(some 5), .move (.t 25), none⟩]
def m4_l9 : MCode := (.seq (.seq (.ops m4_r10) (.cond (.t 23) .skip (.exit 0))) (.seq (.block 1 (.seq (.draw m4_r11) (.cond (.t 34) (.seq (.ops m4_r12) .ret) .skip))) (.ops m4_r13)))
def m4_r14 : List MI := [
  ⟨(some 2), .move (.k (.sc (.bool true))), none⟩]
def m4_code : MCode := (.seq (.ops m4_r0) (.seq (.seq (.ops m4_r1) (.cond (.t 7) (.seq (.ops m4_r2) .ret) .skip)) (.seq (.seq (.ops m4_r3) (.cond (.t 10) (.seq (.ops m4_r4) .ret) .skip)) (.seq (.ops m4_r5) (.seq (.seq (.ops m4_r6) (.cond (.t 19) (.seq (.ops m4_r7) .ret) .skip)) (.seq (.seq (.ops m4_r8) (.block 0 (.loop m4_l9))) (.seq (.ops m4_r14) .ret)))))))
def m4 : MFunc := ⟨35, [.tmp 2], m4_code⟩

def m5_r0 : List MI := [
  ⟨(some 3), .box 25 (.t 0), none⟩,
  ⟨(some 6), .move (.k (.sc (.bool false))), none⟩]
def m5_r1 : List MI := [
  ⟨(some 16), .call 9 [], none⟩,
  ⟨(some 17), .un .not (.t 16), none⟩]
def m5_r2 : List MI := [
  ⟨(some 6), .move (.k (.sc (.bool false))), none⟩]
def m5_r3 : List MI := [
  ⟨(some 19), .load (some 8) (.t 3), none⟩,
  ⟨(some 20), .call 8 [(.t 19)], none⟩,
  ⟨(some 18), .move (.t 20), none⟩,
  ⟨(some 21), .extract (.t 18) 0, none⟩,
  ⟨(some 22), .extract (.t 18) 1, none⟩,
  ⟨(some 7), .alloc 42 [.int .i64 0, .int .i64 0, .nils, .int .i64 0, .int .i64 0, .bool false], none⟩,
  ⟨none, .store 6 (.t 7) (.t 21), none⟩,
  ⟨(some 8), .move (.t 22), none⟩]
def m5_r4 : List MI := [
  ⟨(some 23), .load (some 8) (.t 3), none⟩,
  ⟨(some 24), .call 12 [(.t 23)], none⟩,
  ⟨(some 25), .move (.t 24), none⟩,
  ⟨(some 26), .fieldAddr 2 (.t 3), (some (25, false))⟩,
  ⟨(some 27), .load none (.t 26), (some (25, false))⟩,
  ⟨(some 28), .lenSlice (.t 27), (some (25, false))⟩,
  ⟨(some 29), .bin .eql .no (.t 28) (.k (.sc (.int .i64 0))), (some (25, false))⟩,
  ⟨(some 30), .pick (.t 25) (.k (.sc (.bool true))) (.t 29), none⟩,
  ⟨(some 31), .move (.t 30), none⟩,
  ⟨(some 32), .move (.t 8), (some (31, false))⟩,
  ⟨(some 33), .bin .neq .no (.t 32) (.k (.sc (.int .i64 0))), (some (31, false))⟩,
  ⟨(some 34), .pick (.t 31) (.k (.sc (.bool true))) (.t 33), none⟩]
def m5_r5 : List MI := [
  ⟨(some 6), .move (.k (.sc (.bool true))), none⟩]
def m5_r6 : List MI := [
  ⟨(some 35), .move (.t 1), none⟩,
  ⟨(some 36), .conv (.int .i64) (.t 35), none⟩,
  ⟨(some 37), .fieldAddr 2 (.t 3), none⟩,
  ⟨(some 38), .load none (.t 37), none⟩,
  ⟨(some 39), .lenSlice (.t 38), none⟩,
  ⟨(some 40), .bin .rem .no (.t 36) (.t 39), none⟩,
  ⟨(some 9), .move (.t 40), none⟩]
def m5_r7 : List MI := [
  ⟨(some 41), .load (some 8) (.t 3), none⟩,
  ⟨(some 10), .alloc 25 [.int .i64 0, .int .i64 0, .nils, .nils, .str [], .int .i64 0, .int .i64 0, .bool false], none⟩,
  ⟨none, .store 8 (.t 10) (.t 41), none⟩]
def m5_r8 : List MI := [
  ⟨(some 42), .buildSlice 40 6 0 [.int .i64 0, .int .i64 0, .int .i64 0, .int .i64 0, .bool false, .nils] [], none⟩,
  ⟨(some 43), .fieldAddr 2 (.t 3), none⟩,
  ⟨(some 44), .load none (.t 43), none⟩,
  ⟨(some 45), .append 40 6 64 [.int .i64 0, .int .i64 0, .int .i64 0, .int .i64 0, .bool false, .nils] (.t 42) (.t 44), none⟩,
  ⟨(some 46), .fieldAddr 2 (.t 10), none⟩,
  ⟨none, .store 1 (.t 46) (.t 45), none⟩]
def m5_r9 : List MI := [
  ⟨(some 47), .fieldAddr 2 (.t 10), none⟩,
  ⟨(some 48), .load none (.t 47), none⟩,
  ⟨(some 49), .move (.t 9), none⟩,
  ⟨(some 50), .move (.t 2), none⟩,
  ⟨(some 51), .indexSlice 6 (.t 48) (.t 49), none⟩,
  ⟨(some 52), .fieldAddr 5 (.t 51), none⟩,
  ⟨none, .store 1 (.t 52) (.t 50), none⟩]
def m5_r10 : List MI := [
  ⟨(some 53), .load (some 8) (.t 10), none⟩,
  ⟨(some 54), .call 12 [(.t 53)], none⟩]
def m5_r11 : List MI := [
  ⟨(some 6), .move (.k (.sc (.bool true))), none⟩]
def m5_r12 : List MI := [
  ⟨(some 55), .fieldAddr 2 (.t 3), none⟩,
  ⟨(some 56), .load none (.t 55), none⟩,
  ⟨(some 57), .move (.t 9), none⟩,
  ⟨(some 58), .indexSlice 6 (.t 56) (.t 57), none⟩,
  ⟨(some 59), .fieldAddr 0 (.t 58), none⟩,
  ⟨(some 60), .load (some 4) (.t 59), none⟩,
  ⟨(some 11), .alloc 37 [.int .i64 0, .int .i64 0, .int .i64 0, .int .i64 0], none⟩,
  ⟨none, .store 4 (.t 11) (.t 60), none⟩]
def m5_r13 : List MI := [
  ⟨(some 12), .move (.k (.sc (.int .i64 0))), none⟩]
def m5_r15 : List MI := [
  ⟨(some 61), .move (.t 12), none⟩,
  ⟨(some 62), .fieldAddr 2 (.t 3), none⟩,
  ⟨(some 63), .load none (.t 62), none⟩,
  ⟨(some 64), .lenSlice (.t 63), none⟩,
  ⟨(some 65), .bin .lss .no (.t 61) (.t 64), none⟩]
def m5_r16 : List DI := [
  ⟨⟨(some 68), .move (.t 12), none⟩, 0, [], []⟩,
  ⟨⟨(some 69), .move (.t 9), none⟩, 0, [], []⟩,
  ⟨⟨(some 70), .bin .neq .no (.t 68) (.t 69), none⟩, 0, [], []⟩,
  ⟨⟨(some 71), .move (.t 70), none⟩, 0, [], []⟩,
  ⟨⟨(some 72), .load (some 4) (.t 11), (some (71, true))⟩, 1, [], []⟩,
  ⟨⟨(some 73), .fieldAddr 2 (.t 3), (some (71, true))⟩, 0, [], []⟩,
  ⟨⟨(some 74), .load none (.t 73), (some (71, true))⟩, 1, [], []⟩,
  ⟨⟨(some 75), .move (.t 12), (some (71, true))⟩, 0, [], []⟩,
  ⟨⟨(some 76), .indexSlice 6 (.t 74) (.t 75), (some (71, true))⟩, 0, [], []⟩,
  ⟨⟨(some 77), .fieldAddr 0 (.t 76), (some (71, true))⟩, 0, [], []⟩,
  ⟨⟨(some 78), .load (some 4) (.t 77), (some (71, true))⟩, 1, [], []⟩,
  ⟨⟨(some 79), .call 13 [(.t 72), (.t 78)], (some (71, true))⟩, 2, [], []⟩,
  ⟨⟨(some 80), .build [.int .i64 0, .int .i64 0, .int .i64 0, .int .i64 0] [], (some (71, true))⟩, 0, [11], []⟩,
  ⟨⟨(some 81), .bin .neq (.agg [.int .i64, .int .i64, .int .i64, .int .i64]) (.t 79) (.t 80), (some (71, true))⟩, 0, [], []⟩,
  ⟨⟨(some 82), .pick (.t 71) (.t 81) (.k (.sc (.bool false))), none⟩, 0, [], []⟩]
def m5_r17 : List MI := [
  ⟨(some 6), .move (.k (.sc (.bool true))), none⟩]
def m5_r18 : List MI := [
  ⟨(some 66), .move (.t 12), none⟩,
  ⟨(some 67), .bin .add .no (.t 66) (.k (.sc (.int .i64 1))), none⟩,
  ⟨(some 12), .move (.t 67), none⟩]
def m5_l14 : MCode := (.seq (.seq (.ops m5_r15) (.cond (.t 65) .skip (.exit 0))) (.seq (.block 1 (.seq (.draw m5_r16) (.cond (.t 82) (.seq (.ops m5_r17) .ret) .skip))) (.ops m5_r18)))
def m5_r19 : List MI := [
  ⟨(some 84), .load (some 8) (.t 10), none⟩,
  ⟨(some 85), .call 8 [(.t 84)], none⟩,
  ⟨(some 83), .move (.t 85), none⟩,
  ⟨(some 86), .extract (.t 83) 0, none⟩,
  ⟨(some 87), .extract (.t 83) 1, none⟩,
  ⟨(some 13), .alloc 42 [.int .i64 0, .int .i64 0, .nils, .int .i64 0, .int .i64 0, .bool false], none⟩,
  ⟨none, .store 6 (.t 13) (.t 86), none⟩,
  ⟨(some 14), .move (.t 87), none⟩]
def m5_r20 : List MI := [
  ⟨(some 88), .move (.t 14), none⟩,
  ⟨(some 89), .bin .neq .no (.t 88) (.k (.sc (.int .i64 0))), none⟩,
  ⟨(some 90), .move (.t 89), none⟩,
  ⟨(some 91), .load (some 6) (.t 7), (some (90, false))⟩,
  ⟨(some 92), .call 14 [(.t 91)], (some (90, false))⟩,
  ⟨(some 93), .un .not (.t 92), (some (90, false))⟩,
  ⟨(some 94), .pick (.t 90) (.k (.sc (.bool true))) (.t 93), none⟩,
  ⟨(some 95), .move (.t 94), none⟩,
  ⟨(some 96), .load (some 6) (.t 13), (some (95, false))⟩,
  ⟨(some 97), .call 14 [(.t 96)], (some (95, false))⟩,
  ⟨(some 98), .un .not (.t 97), (some (95, false))⟩,
  ⟨(some 99), .pick (.t 95) (.k (.sc (.bool true))) (.t 98), none⟩,
  ⟨(some 100), .move (.t 99), none⟩,
  ⟨(some 101), .fieldAddr 0 (.t 7), (some (100, false))⟩,
  ⟨(some 102), .load none (.t 101), (some (100, false))⟩,
  ⟨(some 103), .fieldAddr 0 (.t 13), (some (100, false))⟩,
  ⟨(some 104), .load none (.t 103), (some (100, false))⟩,
  ⟨(some 105), .bin .neq .no (.t 102) (.t 104), (some (100, false))⟩,
  ⟨(some 106), .pick (.t 100) (.k (.sc (.bool true))) (.t 105), none⟩,
  ⟨(some 107), .move (.t 106), none⟩,
  ⟨(some 108), .fieldAddr 1 (.t 7), (some (107, false))⟩,
  ⟨(some 109), .load none (.t 108), (some (107, false))⟩,
  ⟨(some 110), .fieldAddr 1 (.t 13), (some (107, false))⟩,
  ⟨(some 111), .load none (.t 110), (some (107, false))⟩,
  ⟨(some 112), .bin .neq .no (.t 109) (.t 111), (some (107, false))⟩,
  ⟨(some 113), .pick (.t 107) (.k (.sc (.bool true))) (.t 112), none⟩,
  ⟨(some 114), .move (.t 113), none⟩,
  ⟨(some 115), .fieldAddr 5 (.t 7), (some (114, false))⟩,
  ⟨(some 116), .load none (.t 115), (some (114, false))⟩,
  ⟨(some 117), .fieldAddr 5 (.t 13), (some (114, false))⟩,
  ⟨(some 118), .load none (.t 117), (some (114, false))⟩,
  ⟨(some 119), .bin .neq .bool (.t 116) (.t 118), (some (114, false))⟩,
  ⟨(some 120), .pick (.t 114) (.k (.sc (.bool true))) (.t 119), none⟩,
  ⟨(some 121), .move (.t 120), none⟩,
  ⟨(some 122), .fieldAddr 3 (.t 7), (some (121, false))⟩,
  ⟨(some 123), .load none (.t 122), (some (121, false))⟩,
  ⟨(some 124), .fieldAddr 3 (.t 13), (some (121, false))⟩,
  ⟨(some 125), .load none (.t 124), (some (121, false))⟩,
  ⟨(some 126), .bin .neq .no (.t 123) (.t 125), (some (121, false))⟩,
  ⟨(some 127), .pick (.t 121) (.k (.sc (.bool true))) (.t 126), none⟩,
  ⟨(some 128), .move (.t 127), none⟩,
  ⟨(some 129), .fieldAddr 4 (.t 7), (some (128, false))⟩,
  ⟨(some 130), .load none (.t 129), (some (128, false))⟩,
  ⟨(some 131), .fieldAddr 4 (.t 13), (some (128, false))⟩,
  ⟨(some 132), .load none (.t 131), (some (128, false))⟩,
  ⟨(some 133), .bin .neq .no (.t 130) (.t 132), (some (128, false))⟩,
  ⟨(some 134), .pick (.t 128) (.k (.sc (.bool true))) (.t 133), none⟩]
def m5_r21 : List MI := [
  ⟨(some 6), .move (.k (.sc (.bool false))), none⟩]
def m5_r22 : List MI := [
  ⟨(some 15), .move (.k (.sc (.int .i64 0))), none⟩]
def m5_r24 : List MI := [
  ⟨(some 135), .move (.t 15), none⟩,
  ⟨(some 136), .fieldAddr 2 (.t 7), none⟩,
  ⟨(some 137), .load none (.t 136), none⟩,
  ⟨(some 138), .lenSlice (.t 137), none⟩,
  ⟨(some 139), .bin .lss .no (.t 135) (.t 138), none⟩]
def m5_r25 : List DI := [
  ⟨⟨(some 142), .fieldAddr 2 (.t 7), none⟩, 0, [], []⟩,
  ⟨⟨(some 143), .load none (.t 142), none⟩, 1, [], []⟩,
  ⟨⟨(some 144), .move (.t 15), none⟩, 0, [], []⟩,
  ⟨⟨(some 145), .indexSlice 7 (.t 143) (.t 144), none⟩, 0, [], []⟩,
  ⟨⟨(some 146), .load (some 7) (.t 145), none⟩, 1, [], []⟩,
  ⟨⟨(some 147), .fieldAddr 2 (.t 13), none⟩, 0, [], []⟩,
  ⟨⟨(some 148), .load none (.t 147), none⟩, 1, [], []⟩,
  ⟨⟨(some 149), .move (.t 15), none⟩, 0, [], []⟩,
  ⟨⟨(some 150), .indexSlice 7 (.t 148) (.t 149), none⟩, 0, [], []⟩,
  ⟨⟨(some 151), .load (some 7) (.t 150), none⟩, 1, [], []⟩,
  ⟨⟨(some 152), .bin .neq (.agg [.int .i32, .int .u8, .int .u16, .int .u8, .int .u32, .int .u8, .int .u32]) (.t 146) (.t 151), none⟩, 0, [], []⟩,
  ⟨⟨(some 153), .move (.t 152), none⟩, 0, [], []⟩,
  ⟨⟨(some 154), .fieldAddr 2 (.t 3), (some (153, true))⟩, 0, [], []⟩,
  ⟨⟨(some 155), .load none (.t 154), (some (153, true))⟩, 1, [], []⟩,
  ⟨⟨(some 156), .move (.t 9), (some (153, true))⟩, 0, [], []⟩,
  ⟨⟨(some 157), .indexSlice 6 (.t 155) (.t 156), (some (153, true))⟩, 0, [], []⟩,
  ⟨⟨(some 158), .fieldAddr 4 (.t 157), (some (153, true))⟩, 0, [], []⟩,
  ⟨⟨(some 159), .load none (.t 158), (some (153, true))⟩, 1, [], []⟩,
  ⟨⟨(some 160), .un .not (.t 159), (some (153, true))⟩, 0, [], []⟩,
  ⟨⟨(some 161), .move (.t 160), (some (153, true))⟩, 0, [], []⟩,
  ⟨⟨(some 162), .load (some 4) (.t 11), (some (161, false))⟩, 1, [], []⟩,
  ⟨⟨(some 163), .move (.t 15), (some (161, false))⟩, 0, [], []⟩,
  ⟨⟨(some 164), .fieldAddr 0 (.t 7), (some (161, false))⟩, 0, [], []⟩,
  ⟨⟨(some 165), .load none (.t 164), (some (161, false))⟩, 1, [], []⟩,
  ⟨⟨(some 166), .bin .rem .no (.t 163) (.t 165), (some (161, false))⟩, 0, [], []⟩,
  ⟨⟨(some 167), .move (.t 15), (some (161, false))⟩, 0, [], []⟩,
  ⟨⟨(some 168), .fieldAddr 0 (.t 7), (some (161, false))⟩, 0, [], []⟩,
  ⟨⟨(some 169), .load none (.t 168), (some (161, false))⟩, 1, [], []⟩,
  ⟨⟨(some 170), .bin .quo .no (.t 167) (.t 169), (some (161, false))⟩, 0, [], []⟩,
  ⟨⟨(some 171), .call 15 [(.t 162), (.t 166), (.t 170)], (some (161, false))⟩, 2, [], []⟩,
  ⟨⟨(some 172), .un .not (.t 171), (some (161, false))⟩, 0, [], []⟩,
  ⟨⟨(some 173), .pick (.t 161) (.k (.sc (.bool true))) (.t 172), (some (153, true))⟩, 0, [], []⟩,
  ⟨⟨(some 174), .pick (.t 153) (.t 173) (.k (.sc (.bool false))), none⟩, 0, [], []⟩]
def m5_r26 : List MI := [
  ⟨(some 6), .move (.k (.sc (.bool false))), none⟩]
def m5_r27 : List MI := [
  ⟨(some 140), .move (.t 15), none⟩,
  ⟨(some 141), .bin .add .no (.t 140) (.k (.sc (.int .i64 1))), none⟩,
  ⟨(some 15), .move (.t 141), none⟩]
def m5_l23 : MCode := (.seq (.seq (.ops m5_r24) (.cond (.t 139) .skip (.exit 2))) (.seq (.block 3 (.seq (.draw m5_r25) (.cond (.t 174) (.seq (.ops m5_r26) .ret) .skip))) (.ops m5_r27)))
def m5_r28 : List MI := [
  ⟨(some 6), .move (.k (.sc (.bool true))), none⟩]
def m5_code : MCode := (.seq (.ops m5_r0) (.seq (.seq (.ops m5_r1) (.cond (.t 17) (.seq (.ops m5_r2) .ret) .skip)) (.seq (.ops m5_r3) (.seq (.seq (.ops m5_r4) (.cond (.t 34) (.seq (.ops m5_r5) .ret) .skip)) (.seq (.ops m5_r6) (.seq (.ops m5_r7) (.seq (.ops m5_r8) (.seq (.ops m5_r9) (.seq (.seq (.ops m5_r10) (.cond (.t 54) (.seq (.ops m5_r11) .ret) .skip)) (.seq (.ops m5_r12) (.seq (.seq (.ops m5_r13) (.block 0 (.loop m5_l14))) (.seq (.ops m5_r19) (.seq (.seq (.ops m5_r20) (.cond (.t 134) (.seq (.ops m5_r21) .ret) .skip)) (.seq (.seq (.ops m5_r22) (.block 2 (.loop m5_l23))) (.seq (.ops m5_r28) .ret)))))))))))))))
def m5 : MFunc := ⟨175, [.tmp 6], m5_code⟩

def m6_r0 : List MI := [
  ⟨(some 1), .box 25 (.t 0), none⟩,
  ⟨(some 2), .move (.k (.sc (.bool false))), none⟩]
def m6_r1 : List MI := [
  ⟨(some 13), .call 9 [], none⟩,
  ⟨(some 14), .un .not (.t 13), none⟩]
def m6_r2 : List MI := [
  ⟨(some 2), .move (.k (.sc (.bool false))), none⟩]
def m6_r3 : List MI := [
  ⟨(some 16), .load (some 8) (.t 1), none⟩,
  ⟨(some 17), .call 8 [(.t 16)], none⟩,
  ⟨(some 15), .move (.t 17), none⟩,
  ⟨(some 18), .extract (.t 15) 0, none⟩,
  ⟨(some 19), .extract (.t 15) 1, none⟩,
  ⟨(some 3), .alloc 42 [.int .i64 0, .int .i64 0, .nils, .int .i64 0, .int .i64 0, .bool false], none⟩,
  ⟨none, .store 6 (.t 3) (.t 18), none⟩,
  ⟨(some 4), .move (.t 19), none⟩]
def m6_r4 : List MI := [
  ⟨(some 20), .load (some 8) (.t 1), none⟩,
  ⟨(some 21), .call 12 [(.t 20)], none⟩,
  ⟨(some 22), .move (.t 21), none⟩,
  ⟨(some 23), .move (.t 4), (some (22, false))⟩,
  ⟨(some 24), .bin .neq .no (.t 23) (.k (.sc (.int .i64 0))), (some (22, false))⟩,
  ⟨(some 25), .pick (.t 22) (.k (.sc (.bool true))) (.t 24), none⟩]
def m6_r5 : List MI := [
  ⟨(some 2), .move (.k (.sc (.bool true))), none⟩]
def m6_r6 : List MI := [
  ⟨(some 26), .load (some 8) (.t 1), none⟩,
  ⟨(some 5), .alloc 25 [.int .i64 0, .int .i64 0, .nils, .nils, .str [], .int .i64 0, .int .i64 0, .bool false], none⟩,
  ⟨none, .store 8 (.t 5) (.t 26), none⟩]
def m6_r7 : List MI := [
  ⟨(some 27), .fieldAddr 2 (.t 5), none⟩,
  ⟨none, .store 1 (.t 27) (.k (.sc (.nils))), none⟩]
def m6_r8 : List MI := [
  ⟨(some 29), .load (some 8) (.t 5), none⟩,
  ⟨(some 30), .call 8 [(.t 29)], none⟩,
  ⟨(some 28), .move (.t 30), none⟩,
  ⟨(some 31), .extract (.t 28) 0, none⟩,
  ⟨(some 32), .extract (.t 28) 1, none⟩,
  ⟨(some 6), .alloc 42 [.int .i64 0, .int .i64 0, .nils, .int .i64 0, .int .i64 0, .bool false], none⟩,
  ⟨none, .store 6 (.t 6) (.t 31), none⟩,
  ⟨(some 7), .move (.t 32), none⟩]
def m6_r9 : List MI := [
  ⟨(some 33), .move (.t 7), none⟩,
  ⟨(some 34), .bin .neq .no (.t 33) (.k (.sc (.int .i64 0))), none⟩,
  ⟨(some 35), .move (.t 34), none⟩,
  ⟨(some 36), .load (some 6) (.t 3), (some (35, false))⟩,
  ⟨(some 37), .call 14 [(.t 36)], (some (35, false))⟩,
  ⟨(some 38), .un .not (.t 37), (some (35, false))⟩,
  ⟨(some 39), .pick (.t 35) (.k (.sc (.bool true))) (.t 38), none⟩,
  ⟨(some 40), .move (.t 39), none⟩,
  ⟨(some 41), .load (some 6) (.t 6), (some (40, false))⟩,
  ⟨(some 42), .call 14 [(.t 41)], (some (40, false))⟩,
  ⟨(some 43), .un .not (.t 42), (some (40, false))⟩,
  ⟨(some 44), .pick (.t 40) (.k (.sc (.bool true))) (.t 43), none⟩,
  ⟨(some 45), .move (.t 44), none⟩,
  ⟨(some 46), .fieldAddr 2 (.t 3), (some (45, false))⟩,
  ⟨(some 47), .load none (.t 46), (some (45, false))⟩,
  ⟨(some 48), .lenSlice (.t 47), (some (45, false))⟩,
  ⟨(some 49), .fieldAddr 2 (.t 6), (some (45, false))⟩,
  ⟨(some 50), .load none (.t 49), (some (45, false))⟩,
  ⟨(some 51), .lenSlice (.t 50), (some (45, false))⟩,
  ⟨(some 52), .bin .neq .no (.t 48) (.t 51), (some (45, false))⟩,
  ⟨(some 53), .pick (.t 45) (.k (.sc (.bool true))) (.t 52), none⟩]
def m6_r10 : List MI := [
  ⟨(some 2), .move (.k (.sc (.bool false))), none⟩]
def m6_r11 : List MI := [
  ⟨(some 8), .move (.k (.sc (.int .i64 0))), none⟩]
def m6_r13 : List MI := [
  ⟨(some 54), .move (.t 8), none⟩,
  ⟨(some 55), .fieldAddr 2 (.t 3), none⟩,
  ⟨(some 56), .load none (.t 55), none⟩,
  ⟨(some 57), .lenSlice (.t 56), none⟩,
  ⟨(some 58), .bin .lss .no (.t 54) (.t 57), none⟩]
def m6_r14 : List DI := [
  ⟨⟨(some 61), .move (.t 8), none⟩, 0, [], []⟩,
  ⟨⟨(some 62), .fieldAddr 0 (.t 3), none⟩, 0, [], []⟩,
  ⟨⟨(some 63), .load none (.t 62), none⟩, 1, [], []⟩,
  ⟨⟨(some 64), .bin .rem .no (.t 61) (.t 63), none⟩, 0, [], []⟩,
  ⟨⟨(some 65), .move (.t 8), none⟩, 0, [], []⟩,
  ⟨⟨(some 66), .fieldAddr 0 (.t 3), none⟩, 0, [], []⟩,
  ⟨⟨(some 67), .load none (.t 66), none⟩, 1, [], []⟩,
  ⟨⟨(some 68), .bin .quo .no (.t 65) (.t 67), none⟩, 0, [], []⟩,
  ⟨⟨(some 9), .move (.t 64), none⟩, 0, [], []⟩,
  ⟨⟨(some 10), .move (.t 68), none⟩, 0, [], []⟩]
def m6_r15 : List MI := [
  ⟨(some 11), .move (.k (.sc (.bool false))), none⟩]
def m6_r16 : List MI := [
  ⟨(some 12), .move (.k (.sc (.int .i64 0))), none⟩]
def m6_r18 : List MI := [
  ⟨(some 69), .move (.t 12), none⟩,
  ⟨(some 70), .fieldAddr 2 (.t 1), none⟩,
  ⟨(some 71), .load none (.t 70), none⟩,
  ⟨(some 72), .lenSlice (.t 71), none⟩,
  ⟨(some 73), .bin .lss .no (.t 69) (.t 72), none⟩]
def m6_r19 : List MI := [
  ⟨(some 76), .move (.t 11), none⟩,
  ⟨(some 77), .move (.t 76), none⟩,
  ⟨(some 78), .fieldAddr 2 (.t 1), (some (77, false))⟩,
  ⟨(some 79), .load none (.t 78), (some (77, false))⟩,
  ⟨(some 80), .move (.t 12), (some (77, false))⟩,
  ⟨(some 81), .indexSlice 6 (.t 79) (.t 80), (some (77, false))⟩,
  ⟨(some 82), .fieldAddr 0 (.t 81), (some (77, false))⟩,
  ⟨(some 83), .load (some 4) (.t 82), (some (77, false))⟩,
  ⟨(some 84), .move (.t 9), (some (77, false))⟩,
  ⟨(some 85), .move (.t 10), (some (77, false))⟩,
  ⟨(some 86), .call 15 [(.t 83), (.t 84), (.t 85)], (some (77, false))⟩,
  ⟨(some 87), .pick (.t 77) (.k (.sc (.bool true))) (.t 86), none⟩,
  ⟨(some 11), .move (.t 87), none⟩]
def m6_r20 : List MI := [
  ⟨(some 74), .move (.t 12), none⟩,
  ⟨(some 75), .bin .add .no (.t 74) (.k (.sc (.int .i64 1))), none⟩,
  ⟨(some 12), .move (.t 75), none⟩]
def m6_l17 : MCode := (.seq (.seq (.ops m6_r18) (.cond (.t 73) .skip (.exit 2))) (.seq (.block 3 (.ops m6_r19)) (.ops m6_r20)))
def m6_r21 : List DI := [
  ⟨⟨(some 88), .move (.t 10), none⟩, 0, [], []⟩,
  ⟨⟨(some 89), .fieldAddr 1 (.t 3), none⟩, 0, [], []⟩,
  ⟨⟨(some 90), .load none (.t 89), none⟩, 1, [], []⟩,
  ⟨⟨(some 91), .bin .sub .no (.t 90) (.k (.sc (.int .i64 1))), none⟩, 0, [], []⟩,
  ⟨⟨(some 92), .bin .eql .no (.t 88) (.t 91), none⟩, 0, [], []⟩,
  ⟨⟨(some 93), .move (.t 92), none⟩, 0, [], []⟩,
  ⟨⟨(some 94), .move (.t 11), (some (93, false))⟩, 0, [], []⟩,
  ⟨⟨(some 95), .un .not (.t 94), (some (93, false))⟩, 0, [], []⟩,
  ⟨⟨(some 96), .pick (.t 93) (.k (.sc (.bool true))) (.t 95), none⟩, 0, [], []⟩,
  ⟨⟨(some 97), .move (.t 96), none⟩, 0, [], []⟩,
  ⟨⟨(some 98), .fieldAddr 2 (.t 3), (some (97, true))⟩, 0, [], []⟩,
  ⟨⟨(some 99), .load none (.t 98), (some (97, true))⟩, 1, [], []⟩,
  ⟨⟨(some 100), .move (.t 8), (some (97, true))⟩, 0, [], []⟩,
  ⟨⟨(some 101), .indexSlice 7 (.t 99) (.t 100), (some (97, true))⟩, 0, [], []⟩,
  ⟨⟨(some 102), .load (some 7) (.t 101), (some (97, true))⟩, 1, [], []⟩,
  ⟨⟨(some 103), .fieldAddr 2 (.t 6), (some (97, true))⟩, 0, [], []⟩,
  ⟨⟨(some 104), .load none (.t 103), (some (97, true))⟩, 1, [], []⟩,
  ⟨⟨(some 105), .move (.t 8), (some (97, true))⟩, 0, [], []⟩,
  ⟨⟨(some 106), .indexSlice 7 (.t 104) (.t 105), (some (97, true))⟩, 0, [], []⟩,
  ⟨⟨(some 107), .load (some 7) (.t 106), (some (97, true))⟩, 1, [], []⟩,
  ⟨⟨(some 108), .bin .neq (.agg [.int .i32, .int .u8, .int .u16, .int .u8, .int .u32, .int .u8, .int .u32]) (.t 102) (.t 107), (some (97, true))⟩, 0, [], []⟩,
  ⟨⟨(some 109), .pick (.t 97) (.t 108) (.k (.sc (.bool false))), none⟩, 0, [], []⟩]
def m6_r22 : List MI := [
  ⟨(some 2), .move (.k (.sc (.bool false))), none⟩]
def m6_r23 : List MI := [
  ⟨(some 59), .move (.t 8), none⟩,
  ⟨(some 60), .bin .add .no (.t 59) (.k (.sc (.int .i64 1))), none⟩,
  ⟨(some 8), .move (.t 60), none⟩]
def m6_l12 : MCode := (.seq (.seq (.ops m6_r13) (.cond (.t 58) .skip (.exit 0))) (.seq (.block 1 (.seq (.draw m6_r14) (.seq (.ops m6_r15) (.seq (.seq (.ops m6_r16) (.block 2 (.loop m6_l17))) (.seq (.draw m6_r21) (.cond (.t 109) (.seq (.ops m6_r22) .ret) .skip)))))) (.ops m6_r23)))
def m6_r24 : List MI := [
  ⟨(some 110), .fieldAddr 5 (.t 6), none⟩,
  ⟨(some 111), .load none (.t 110), none⟩,
  ⟨(some 112), .un .not (.t 111), none⟩,
  ⟨(some 2), .move (.t 112), none⟩]
def m6_code : MCode := (.seq (.ops m6_r0) (.seq (.seq (.ops m6_r1) (.cond (.t 14) (.seq (.ops m6_r2) .ret) .skip)) (.seq (.ops m6_r3) (.seq (.seq (.ops m6_r4) (.cond (.t 25) (.seq (.ops m6_r5) .ret) .skip)) (.seq (.ops m6_r6) (.seq (.ops m6_r7) (.seq (.ops m6_r8) (.seq (.seq (.ops m6_r9) (.cond (.t 53) (.seq (.ops m6_r10) .ret) .skip)) (.seq (.seq (.ops m6_r11) (.block 0 (.loop m6_l12))) (.seq (.ops m6_r24) .ret))))))))))
def m6 : MFunc := ⟨113, [.tmp 2], m6_code⟩

def m7_r0 : List MI := [
  ⟨(some 0), .alloc 25 [.int .i64 0, .int .i64 0, .nils, .nils, .str [], .int .i64 0, .int .i64 0, .bool false], none⟩]
def m7_r1 : List MI := [
  ⟨(some 1), .build [.int .i64 0, .int .i64 0, .int .i64 0, .int .i64 0] [(2, 1, (.k (.sc (.int .i64 2)))), (3, 1, (.k (.sc (.int .i64 2))))], none⟩,
  ⟨(some 2), .call 16 [(.k (.sc (.str [97, 98])))], none⟩,
  ⟨(some 3), .call 16 [(.k (.sc (.str [99])))], none⟩,
  ⟨(some 4), .buildSlice 35 1 2 [.nils] [(0, 1, (.t 2)), (1, 1, (.t 3))], none⟩,
  ⟨(some 5), .build [.int .i64 0, .int .i64 0, .int .i64 0, .int .i64 0, .bool false, .nils] [(0, 4, (.t 1)), (4, 1, (.k (.sc (.bool true)))), (5, 1, (.t 4))], none⟩,
  ⟨(some 6), .build [.int .i64 0, .int .i64 0, .int .i64 0, .int .i64 0] [(0, 1, (.k (.sc (.int .i64 3)))), (2, 1, (.k (.sc (.int .i64 3)))), (3, 1, (.k (.sc (.int .i64 2))))], none⟩,
  ⟨(some 7), .build [.int .i64 0, .int .i64 0, .int .i64 0, .int .i64 0, .bool false, .nils] [(0, 4, (.t 6))], none⟩,
  ⟨(some 8), .buildSlice 40 6 2 [.int .i64 0, .int .i64 0, .int .i64 0, .int .i64 0, .bool false, .nils] [(0, 6, (.t 5)), (6, 6, (.t 7))], none⟩,
  ⟨(some 9), .build [.int .i64 0, .int .i64 0, .int .i64 0, .int .i64 0] [(0, 1, (.k (.sc (.int .i64 2)))), (2, 1, (.k (.sc (.int .i64 1)))), (3, 1, (.k (.sc (.int .i64 2))))], none⟩,
  ⟨(some 10), .buildSlice 37 4 1 [.int .i64 0, .int .i64 0, .int .i64 0, .int .i64 0] [(0, 4, (.t 9))], none⟩,
  ⟨(some 11), .build [.int .i64 0, .int .i64 0, .nils, .nils, .str [], .int .i64 0, .int .i64 0, .bool false] [(0, 1, (.k (.sc (.int .i64 6)))), (1, 1, (.k (.sc (.int .i64 3)))), (2, 1, (.t 8)), (3, 1, (.t 10)), (4, 1, (.k (.sc (.str [104, 105])))), (5, 1, (.k (.sc (.int .i64 1)))), (6, 1, (.k (.sc (.int .i64 1)))), (7, 1, (.k (.sc (.bool true))))], none⟩,
  ⟨none, .store 8 (.t 0) (.t 11), none⟩]
def m7_code : MCode := (.seq (.ops m7_r0) (.seq (.ops m7_r1) .ret))
def m7 : MFunc := ⟨12, [.cell 0 (some 8)], m7_code⟩

def m8_r0 : List MI := [
  ⟨(some 1), .box 25 (.t 0), none⟩,
  ⟨(some 2), .alloc 42 [.int .i64 0, .int .i64 0, .nils, .int .i64 0, .int .i64 0, .bool false], none⟩,
  ⟨(some 3), .move (.k (.sc (.int .i64 0))), none⟩]
def m8_r1 : List MI := [
  ⟨(some 12), .fieldAddr 0 (.t 1), none⟩,
  ⟨(some 13), .load none (.t 12), none⟩,
  ⟨(some 14), .fieldAddr 1 (.t 1), none⟩,
  ⟨(some 15), .load none (.t 14), none⟩,
  ⟨(some 16), .min [(.t 13), (.t 15)], none⟩,
  ⟨(some 17), .bin .lss .no (.t 16) (.k (.sc (.int .i64 1))), none⟩,
  ⟨(some 18), .move (.t 17), none⟩,
  ⟨(some 19), .fieldAddr 0 (.t 1), (some (18, false))⟩,
  ⟨(some 20), .load none (.t 19), (some (18, false))⟩,
  ⟨(some 21), .fieldAddr 1 (.t 1), (some (18, false))⟩,
  ⟨(some 22), .load none (.t 21), (some (18, false))⟩,
  ⟨(some 23), .max [(.t 20), (.t 22)], (some (18, false))⟩,
  ⟨(some 24), .bin .gtr .no (.t 23) (.k (.sc (.int .i64 400))), (some (18, false))⟩,
  ⟨(some 25), .pick (.t 18) (.k (.sc (.bool true))) (.t 24), none⟩]
def m8_r2 : List MI := [
  ⟨(some 26), .build [.int .i64 0, .int .i64 0, .nils, .int .i64 0, .int .i64 0, .bool false] [], none⟩,
  ⟨none, .store 6 (.t 2) (.t 26), none⟩,
  ⟨(some 3), .move (.k (.sc (.int .i64 1))), none⟩]
def m8_r3 : List MI := [
  ⟨(some 27), .fieldAddr 0 (.t 1), none⟩,
  ⟨(some 28), .load none (.t 27), none⟩,
  ⟨(some 29), .fieldAddr 1 (.t 1), none⟩,
  ⟨(some 30), .load none (.t 29), none⟩,
  ⟨(some 31), .bin .sub .no (.t 30) (.k (.sc (.int .i64 1))), none⟩,
  ⟨(some 32), .build [.int .i64 0, .int .i64 0, .int .i64 0, .int .i64 0] [(2, 1, (.t 28)), (3, 1, (.t 31))], none⟩,
  ⟨(some 33), .build [.int .i64 0, .int .i64 0, .int .i64 0, .int .i64 0, .nils] [(0, 4, (.t 32))], none⟩,
  ⟨(some 34), .box 57 (.t 33), none⟩,
  ⟨(some 4), .move (.t 34), none⟩]
def m8_r4 : List MI := [
  ⟨(some 35), .fieldAddr 1 (.t 1), none⟩,
  ⟨(some 36), .load none (.t 35), none⟩,
  ⟨(some 37), .bin .sub .no (.t 36) (.k (.sc (.int .i64 1))), none⟩,
  ⟨(some 38), .move (.k (.sc (.int .i64 0))), none⟩]
def m8_r6 : List MI := [
  ⟨(some 39), .bin .lss .no (.t 38) (.t 37), none⟩]
def m8_r7 : List DI := [
  ⟨⟨(some 40), .move (.t 4), none⟩, 0, [], [8, 9, 10]⟩,
  ⟨⟨(some 41), .move (.t 4), none⟩, 0, [], [8, 9]⟩,
  ⟨⟨(some 42), .nilCheck (.t 41), none⟩, 0, [], [8, 9]⟩,
  ⟨⟨(some 43), .fieldAddr 4 (.t 42), none⟩, 0, [], [8, 9]⟩,
  ⟨⟨(some 44), .load none (.t 43), none⟩, 1, [], [8, 9]⟩,
  ⟨⟨(some 45), .fieldAddr 0 (.t 1), none⟩, 0, [], []⟩,
  ⟨⟨(some 46), .load none (.t 45), none⟩, 1, [], []⟩,
  ⟨⟨(some 47), .build [.int .u16 0, .int .u8 0, .int .u32 0, .int .u8 0, .int .u32 0] [], none⟩, 0, [], []⟩,
  ⟨⟨(some 48), .call 17 [(.t 46), (.t 47)], none⟩, 2, [], []⟩,
  ⟨⟨(some 49), .buildSlice 35 1 1 [.nils] [(0, 1, (.t 48))], none⟩, 2, [], []⟩,
  ⟨⟨(some 50), .append 35 1 24 [.nils] (.t 44) (.t 49), none⟩, 2, [], []⟩,
  ⟨⟨(some 51), .nilCheck (.t 40), none⟩, 0, [], []⟩,
  ⟨⟨(some 52), .fieldAddr 4 (.t 51), none⟩, 0, [], []⟩,
  ⟨⟨none, .store 1 (.t 52) (.t 50), none⟩, 2, [], []⟩]
def m8_r8 : List MI := [
  ⟨(some 53), .bin .add .no (.t 38) (.k (.sc (.int .i64 1))), none⟩,
  ⟨(some 38), .move (.t 53), none⟩]
def m8_l5 : MCode := (.seq (.ops m8_r6) (.seq (.cond (.t 39) .skip (.exit 0)) (.seq (.block 1 (.draw m8_r7)) (.ops m8_r8))))
def m8_r9 : List MI := [
  ⟨(some 54), .fieldAddr 0 (.t 1), none⟩,
  ⟨(some 55), .load none (.t 54), none⟩,
  ⟨(some 56), .fieldAddr 1 (.t 1), none⟩,
  ⟨(some 57), .load none (.t 56), none⟩,
  ⟨(some 58), .build [.int .i64 0, .int .i64 0, .nils, .int .i64 0, .int .i64 0, .bool false] [(0, 1, (.t 55)), (1, 1, (.t 57))], none⟩,
  ⟨(some 5), .alloc 42 [.int .i64 0, .int .i64 0, .nils, .int .i64 0, .int .i64 0, .bool false], none⟩,
  ⟨none, .store 6 (.t 5) (.t 58), none⟩]
def m8_r10 : List MI := [
  ⟨(some 59), .fieldAddr 2 (.t 1), none⟩,
  ⟨(some 60), .load none (.t 59), none⟩,
  ⟨(some 61), .lenSlice (.t 60), none⟩,
  ⟨(some 62), .move (.k (.sc (.int .i64 0))), none⟩]
def m8_r12 : List MI := [
  ⟨(some 63), .bin .lss .no (.t 62) (.t 61), none⟩]
def m8_r13 : List MI := [
  ⟨(some 64), .indexSlice 6 (.t 60) (.t 62), none⟩,
  ⟨(some 65), .load (some 6) (.t 64), none⟩,
  ⟨(some 7), .alloc 40 [.int .i64 0, .int .i64 0, .int .i64 0, .int .i64 0, .bool false, .nils], none⟩,
  ⟨none, .store 6 (.t 7) (.t 65), none⟩]
def m8_r14 : List MI := [
  ⟨(some 66), .move (.t 4), none⟩,
  ⟨(some 67), .load (some 6) (.t 7), none⟩,
  ⟨(some 68), .call 18 [(.t 66), (.t 67)], none⟩]
def m8_r15 : List DI := [
  ⟨⟨(some 69), .fieldAddr 7 (.t 1), none⟩, 0, [], []⟩,
  ⟨⟨(some 70), .load none (.t 69), none⟩, 1, [], []⟩,
  ⟨⟨(some 71), .move (.t 70), none⟩, 0, [], []⟩,
  ⟨⟨(some 72), .fieldAddr 4 (.t 7), (some (71, true))⟩, 0, [], []⟩,
  ⟨⟨(some 73), .load none (.t 72), (some (71, true))⟩, 1, [], []⟩,
  ⟨⟨(some 74), .pick (.t 71) (.t 73) (.k (.sc (.bool false))), none⟩, 0, [], []⟩,
  ⟨⟨(some 75), .move (.t 74), none⟩, 0, [], []⟩,
  ⟨⟨(some 76), .fieldAddr 0 (.t 7), (some (75, true))⟩, 0, [], []⟩,
  ⟨⟨(some 77), .load (some 4) (.t 76), (some (75, true))⟩, 1, [], []⟩,
  ⟨⟨(some 78), .move (.t 4), (some (75, true))⟩, 0, [], []⟩,
  ⟨⟨(some 79), .nilCheck (.t 78), (some (75, true))⟩, 0, [], []⟩,
  ⟨⟨(some 80), .fieldAddr 0 (.t 79), (some (75, true))⟩, 0, [], []⟩,
  ⟨⟨(some 81), .load (some 4) (.t 80), (some (75, true))⟩, 1, [], []⟩,
  ⟨⟨(some 82), .call 13 [(.t 77), (.t 81)], (some (75, true))⟩, 2, [], []⟩,
  ⟨⟨(some 83), .fieldAddr 5 (.t 1), (some (75, true))⟩, 0, [13], []⟩,
  ⟨⟨(some 84), .load none (.t 83), (some (75, true))⟩, 1, [13], []⟩,
  ⟨⟨(some 85), .fieldAddr 6 (.t 1), (some (75, true))⟩, 0, [13], []⟩,
  ⟨⟨(some 86), .load none (.t 85), (some (75, true))⟩, 1, [13], []⟩,
  ⟨⟨(some 87), .call 15 [(.t 82), (.t 84), (.t 86)], (some (75, true))⟩, 2, [], []⟩,
  ⟨⟨(some 88), .pick (.t 75) (.t 87) (.k (.sc (.bool false))), none⟩, 0, [], []⟩]
def m8_r16 : List DI := [
  ⟨⟨(some 89), .fieldAddr 5 (.t 1), none⟩, 0, [], []⟩,
  ⟨⟨(some 90), .load none (.t 89), none⟩, 1, [], []⟩,
  ⟨⟨(some 91), .fieldAddr 6 (.t 1), none⟩, 0, [], [5]⟩,
  ⟨⟨(some 92), .load none (.t 91), none⟩, 1, [], [5]⟩,
  ⟨⟨(some 93), .fieldAddr 3 (.t 5), none⟩, 0, [], []⟩,
  ⟨⟨none, .store 1 (.t 93) (.t 90), none⟩, 2, [], []⟩,
  ⟨⟨(some 94), .fieldAddr 4 (.t 5), none⟩, 0, [], []⟩,
  ⟨⟨none, .store 1 (.t 94) (.t 92), none⟩, 2, [], []⟩,
  ⟨⟨(some 95), .fieldAddr 5 (.t 5), none⟩, 0, [], []⟩,
  ⟨⟨none, .store 1 (.t 95) (.k (.sc (.bool true))), none⟩, 2, [], []⟩]
def m8_r17 : List MI := [
  ⟨(some 96), .bin .add .no (.t 62) (.k (.sc (.int .i64 1))), none⟩,
  ⟨(some 62), .move (.t 96), none⟩]
def m8_l11 : MCode := (.seq (.ops m8_r12) (.seq (.cond (.t 63) .skip (.exit 2)) (.seq (.block 3 (.seq (.ops m8_r13) (.seq (.ops m8_r14) (.seq (.draw m8_r15) (.cond (.t 88) (.draw m8_r16) .skip))))) (.ops m8_r17))))
def m8_r18 : List MI := [
  ⟨(some 97), .fieldAddr 3 (.t 1), none⟩,
  ⟨(some 98), .load none (.t 97), none⟩,
  ⟨(some 99), .lenSlice (.t 98), none⟩,
  ⟨(some 100), .move (.k (.sc (.int .i64 0))), none⟩]
def m8_r20 : List MI := [
  ⟨(some 101), .bin .lss .no (.t 100) (.t 99), none⟩]
def m8_r21 : List MI := [
  ⟨(some 102), .indexSlice 4 (.t 98) (.t 100), none⟩,
  ⟨(some 103), .load (some 4) (.t 102), none⟩,
  ⟨(some 9), .alloc 37 [.int .i64 0, .int .i64 0, .int .i64 0, .int .i64 0], none⟩,
  ⟨none, .store 4 (.t 9) (.t 103), none⟩]
def m8_r22 : List MI := [
  ⟨(some 104), .move (.t 4), none⟩,
  ⟨(some 105), .load (some 4) (.t 9), none⟩,
  ⟨(some 106), .call 19 [(.t 104), (.t 105)], none⟩]
def m8_r23 : List MI := [
  ⟨(some 107), .bin .add .no (.t 100) (.k (.sc (.int .i64 1))), none⟩,
  ⟨(some 100), .move (.t 107), none⟩]
def m8_l19 : MCode := (.seq (.ops m8_r20) (.seq (.cond (.t 101) .skip (.exit 4)) (.seq (.block 5 (.seq (.ops m8_r21) (.ops m8_r22))) (.ops m8_r23))))
def m8_r24 : List MI := [
  ⟨(some 108), .move (.t 4), none⟩,
  ⟨(some 109), .nilCheck (.t 108), none⟩,
  ⟨(some 110), .fieldAddr 4 (.t 109), none⟩,
  ⟨(some 111), .load none (.t 110), none⟩,
  ⟨(some 112), .lenSlice (.t 111), none⟩,
  ⟨(some 113), .move (.k (.sc (.int .i64 0))), none⟩]
def m8_r26 : List MI := [
  ⟨(some 114), .bin .lss .no (.t 113) (.t 112), none⟩]
def m8_r27 : List MI := [
  ⟨(some 115), .indexSlice 1 (.t 111) (.t 113), none⟩,
  ⟨(some 116), .load none (.t 115), none⟩,
  ⟨(some 11), .move (.t 116), none⟩]
def m8_r28 : List MI := [
  ⟨(some 117), .fieldAddr 2 (.t 5), none⟩,
  ⟨(some 118), .load none (.t 117), none⟩,
  ⟨(some 119), .move (.t 11), none⟩,
  ⟨(some 120), .append 34 7 28 [.int .i32 0, .int .u8 0, .int .u16 0, .int .u8 0, .int .u32 0, .int .u8 0, .int .u32 0] (.t 118) (.t 119), none⟩,
  ⟨(some 121), .fieldAddr 2 (.t 5), none⟩,
  ⟨none, .store 1 (.t 121) (.t 120), none⟩]
def m8_r29 : List MI := [
  ⟨(some 122), .bin .add .no (.t 113) (.k (.sc (.int .i64 1))), none⟩,
  ⟨(some 113), .move (.t 122), none⟩]
def m8_l25 : MCode := (.seq (.ops m8_r26) (.seq (.cond (.t 114) .skip (.exit 6)) (.seq (.block 7 (.seq (.ops m8_r27) (.ops m8_r28))) (.ops m8_r29))))
def m8_r30 : List DI := [
  ⟨⟨(some 123), .fieldAddr 2 (.t 5), none⟩, 0, [], [6]⟩,
  ⟨⟨(some 124), .load none (.t 123), none⟩, 1, [], [6]⟩,
  ⟨⟨(some 125), .fieldAddr 4 (.t 1), none⟩, 0, [], []⟩,
  ⟨⟨(some 126), .load none (.t 125), none⟩, 1, [], []⟩,
  ⟨⟨(some 127), .fieldAddr 0 (.t 1), none⟩, 0, [], []⟩,
  ⟨⟨(some 128), .load none (.t 127), none⟩, 1, [], []⟩,
  ⟨⟨(some 129), .call 20 [(.t 126), (.t 128)], none⟩, 2, [], []⟩,
  ⟨⟨(some 130), .append 34 7 28 [.int .i32 0, .int .u8 0, .int .u16 0, .int .u8 0, .int .u32 0, .int .u8 0, .int .u32 0] (.t 124) (.t 129), none⟩, 2, [], []⟩,
  ⟨⟨(some 131), .fieldAddr 2 (.t 5), none⟩, 0, [], []⟩,
  ⟨⟨none, .store 1 (.t 131) (.t 130), none⟩, 2, [], []⟩]
def m8_r31 : List MI := [
  ⟨(some 132), .load (some 6) (.t 5), none⟩,
  ⟨none, .store 6 (.t 2) (.t 132), none⟩,
  ⟨(some 3), .move (.k (.sc (.int .i64 0))), none⟩]
def m8_code : MCode := (.seq (.ops m8_r0) (.seq (.seq (.ops m8_r1) (.cond (.t 25) (.seq (.ops m8_r2) .ret) .skip)) (.seq (.ops m8_r3) (.seq (.seq (.ops m8_r4) (.block 0 (.loop m8_l5))) (.seq (.ops m8_r9) (.seq (.seq (.ops m8_r10) (.block 2 (.loop m8_l11))) (.seq (.seq (.ops m8_r18) (.block 4 (.loop m8_l19))) (.seq (.seq (.ops m8_r24) (.block 6 (.loop m8_l25))) (.seq (.draw m8_r30) (.seq (.ops m8_r31) .ret))))))))))
def m8 : MFunc := ⟨133, [.cell 2 (some 6), .tmp 3], m8_code⟩

def m9_r0 : List MI := [
  ⟨(some 0), .move (.k (.sc (.bool false))), none⟩]
def m9_r1 : List MI := [
  ⟨(some 7), .call 7 [], none⟩,
  ⟨(some 8), .call 8 [(.t 7)], none⟩,
  ⟨(some 6), .move (.t 8), none⟩,
  ⟨(some 9), .extract (.t 6) 0, none⟩,
  ⟨(some 10), .extract (.t 6) 1, none⟩,
  ⟨(some 1), .alloc 42 [.int .i64 0, .int .i64 0, .nils, .int .i64 0, .int .i64 0, .bool false], none⟩,
  ⟨none, .store 6 (.t 1) (.t 9), none⟩,
  ⟨(some 2), .move (.t 10), none⟩]
def m9_r2 : List MI := [
  ⟨(some 11), .build [.int .i32 0, .int .u8 0, .int .u16 0, .int .u8 0, .int .u32 0, .int .u8 0, .int .u32 0] [(0, 1, (.k (.sc (.int .i32 20013)))), (1, 1, (.k (.sc (.int .u8 1))))], none⟩,
  ⟨(some 3), .alloc 34 [.int .i32 0, .int .u8 0, .int .u16 0, .int .u8 0, .int .u32 0, .int .u8 0, .int .u32 0], none⟩,
  ⟨none, .store 7 (.t 3) (.t 11), none⟩]
def m9_r3 : List MI := [
  ⟨(some 12), .build [.int .i32 0, .int .u8 0, .int .u16 0, .int .u8 0, .int .u32 0, .int .u8 0, .int .u32 0] [(0, 1, (.k (.sc (.int .i32 20013)))), (1, 1, (.k (.sc (.int .u8 2))))], none⟩,
  ⟨(some 4), .alloc 34 [.int .i32 0, .int .u8 0, .int .u16 0, .int .u8 0, .int .u32 0, .int .u8 0, .int .u32 0], none⟩,
  ⟨none, .store 7 (.t 4) (.t 12), none⟩]
def m9_r4 : List MI := [
  ⟨(some 13), .load (some 7) (.t 3), none⟩,
  ⟨(some 14), .load (some 7) (.t 4), none⟩,
  ⟨(some 15), .load (some 7) (.t 3), none⟩,
  ⟨(some 16), .buildSlice 34 7 3 [.int .i32 0, .int .u8 0, .int .u16 0, .int .u8 0, .int .u32 0, .int .u8 0, .int .u32 0] [(0, 7, (.t 13)), (7, 7, (.t 14)), (14, 7, (.t 15))], none⟩,
  ⟨(some 17), .call 10 [(.t 16)], none⟩,
  ⟨(some 5), .move (.t 17), none⟩]
def m9_r5 : List DI := [
  ⟨⟨(some 18), .move (.t 2), none⟩, 0, [], []⟩,
  ⟨⟨(some 19), .bin .eql .no (.t 18) (.k (.sc (.int .i64 0))), none⟩, 0, [], []⟩,
  ⟨⟨(some 20), .move (.t 19), none⟩, 0, [], []⟩,
  ⟨⟨(some 21), .fieldAddr 2 (.t 1), (some (20, true))⟩, 0, [], []⟩,
  ⟨⟨(some 22), .load none (.t 21), (some (20, true))⟩, 1, [], []⟩,
  ⟨⟨(some 23), .lenSlice (.t 22), (some (20, true))⟩, 0, [], []⟩,
  ⟨⟨(some 24), .bin .eql .no (.t 23) (.k (.sc (.int .i64 18))), (some (20, true))⟩, 0, [], []⟩,
  ⟨⟨(some 25), .pick (.t 20) (.t 24) (.k (.sc (.bool false))), none⟩, 0, [], []⟩,
  ⟨⟨(some 26), .move (.t 25), none⟩, 0, [], []⟩,
  ⟨⟨(some 27), .fieldAddr 2 (.t 1), (some (26, true))⟩, 0, [], []⟩,
  ⟨⟨(some 28), .load none (.t 27), (some (26, true))⟩, 1, [], []⟩,
  ⟨⟨(some 29), .indexSlice 7 (.t 28) (.k (.sc (.int .i64 0))), (some (26, true))⟩, 0, [], []⟩,
  ⟨⟨(some 30), .fieldAddr 0 (.t 29), (some (26, true))⟩, 0, [], []⟩,
  ⟨⟨(some 31), .load none (.t 30), (some (26, true))⟩, 1, [], []⟩,
  ⟨⟨(some 32), .bin .eql .no (.t 31) (.k (.sc (.int .i32 97))), (some (26, true))⟩, 0, [], []⟩,
  ⟨⟨(some 33), .pick (.t 26) (.t 32) (.k (.sc (.bool false))), none⟩, 0, [], []⟩,
  ⟨⟨(some 34), .move (.t 33), none⟩, 0, [], []⟩,
  ⟨⟨(some 35), .fieldAddr 2 (.t 1), (some (34, true))⟩, 0, [], []⟩,
  ⟨⟨(some 36), .load none (.t 35), (some (34, true))⟩, 1, [], []⟩,
  ⟨⟨(some 37), .indexSlice 7 (.t 36) (.k (.sc (.int .i64 2))), (some (34, true))⟩, 0, [], []⟩,
  ⟨⟨(some 38), .fieldAddr 0 (.t 37), (some (34, true))⟩, 0, [], []⟩,
  ⟨⟨(some 39), .load none (.t 38), (some (34, true))⟩, 1, [], []⟩,
  ⟨⟨(some 40), .bin .eql .no (.t 39) (.k (.sc (.int .i32 9474))), (some (34, true))⟩, 0, [], []⟩,
  ⟨⟨(some 41), .pick (.t 34) (.t 40) (.k (.sc (.bool false))), none⟩, 0, [], []⟩,
  ⟨⟨(some 42), .move (.t 41), none⟩, 0, [], []⟩,
  ⟨⟨(some 43), .fieldAddr 2 (.t 1), (some (42, true))⟩, 0, [], []⟩,
  ⟨⟨(some 44), .load none (.t 43), (some (42, true))⟩, 1, [], []⟩,
  ⟨⟨(some 45), .indexSlice 7 (.t 44) (.k (.sc (.int .i64 3))), (some (42, true))⟩, 0, [], []⟩,
  ⟨⟨(some 46), .fieldAddr 0 (.t 45), (some (42, true))⟩, 0, [], []⟩,
  ⟨⟨(some 47), .load none (.t 46), (some (42, true))⟩, 1, [], []⟩,
  ⟨⟨(some 48), .bin .eql .no (.t 47) (.k (.sc (.int .i32 9617))), (some (42, true))⟩, 0, [], []⟩,
  ⟨⟨(some 49), .pick (.t 42) (.t 48) (.k (.sc (.bool false))), none⟩, 0, [], []⟩,
  ⟨⟨(some 50), .move (.t 49), none⟩, 0, [], []⟩,
  ⟨⟨(some 51), .fieldAddr 2 (.t 1), (some (50, true))⟩, 0, [], []⟩,
  ⟨⟨(some 52), .load none (.t 51), (some (50, true))⟩, 1, [], []⟩,
  ⟨⟨(some 53), .indexSlice 7 (.t 52) (.k (.sc (.int .i64 3))), (some (50, true))⟩, 0, [], []⟩,
  ⟨⟨(some 54), .fieldAddr 2 (.t 53), (some (50, true))⟩, 0, [], []⟩,
  ⟨⟨(some 55), .fieldAddr 0 (.t 54), (some (50, true))⟩, 0, [], []⟩,
  ⟨⟨(some 56), .load none (.t 55), (some (50, true))⟩, 1, [], []⟩,
  ⟨⟨(some 57), .bin .eql .no (.t 56) (.k (.sc (.int .u16 2))), (some (50, true))⟩, 0, [], []⟩,
  ⟨⟨(some 58), .pick (.t 50) (.t 57) (.k (.sc (.bool false))), none⟩, 0, [], []⟩,
  ⟨⟨(some 59), .move (.t 58), none⟩, 0, [], []⟩,
  ⟨⟨(some 60), .fieldAddr 2 (.t 1), (some (59, true))⟩, 0, [], []⟩,
  ⟨⟨(some 61), .load none (.t 60), (some (59, true))⟩, 1, [], []⟩,
  ⟨⟨(some 62), .indexSlice 7 (.t 61) (.k (.sc (.int .i64 12))), (some (59, true))⟩, 0, [], []⟩,
  ⟨⟨(some 63), .fieldAddr 0 (.t 62), (some (59, true))⟩, 0, [], []⟩,
  ⟨⟨(some 64), .load none (.t 63), (some (59, true))⟩, 1, [], []⟩,
  ⟨⟨(some 65), .bin .eql .no (.t 64) (.k (.sc (.int .i32 104))), (some (59, true))⟩, 0, [], []⟩,
  ⟨⟨(some 66), .pick (.t 59) (.t 65) (.k (.sc (.bool false))), none⟩, 0, [], []⟩,
  ⟨⟨(some 67), .move (.t 66), none⟩, 0, [], []⟩,
  ⟨⟨(some 68), .fieldAddr 2 (.t 1), (some (67, true))⟩, 0, [], []⟩,
  ⟨⟨(some 69), .load none (.t 68), (some (67, true))⟩, 1, [], []⟩,
  ⟨⟨(some 70), .indexSlice 7 (.t 69) (.k (.sc (.int .i64 17))), (some (67, true))⟩, 0, [], []⟩,
  ⟨⟨(some 71), .fieldAddr 2 (.t 70), (some (67, true))⟩, 0, [], []⟩,
  ⟨⟨(some 72), .fieldAddr 0 (.t 71), (some (67, true))⟩, 0, [], []⟩,
  ⟨⟨(some 73), .load none (.t 72), (some (67, true))⟩, 1, [], []⟩,
  ⟨⟨(some 74), .bin .eql .no (.t 73) (.k (.sc (.int .u16 32))), (some (67, true))⟩, 0, [], []⟩,
  ⟨⟨(some 75), .pick (.t 67) (.t 74) (.k (.sc (.bool false))), none⟩, 0, [], []⟩,
  ⟨⟨(some 76), .move (.t 75), none⟩, 0, [], []⟩,
  ⟨⟨(some 77), .fieldAddr 5 (.t 1), (some (76, true))⟩, 0, [], []⟩,
  ⟨⟨(some 78), .load none (.t 77), (some (76, true))⟩, 1, [], []⟩,
  ⟨⟨(some 79), .pick (.t 76) (.t 78) (.k (.sc (.bool false))), none⟩, 0, [], []⟩,
  ⟨⟨(some 80), .move (.t 79), none⟩, 0, [], []⟩,
  ⟨⟨(some 81), .fieldAddr 3 (.t 1), (some (80, true))⟩, 0, [], []⟩,
  ⟨⟨(some 82), .load none (.t 81), (some (80, true))⟩, 1, [], []⟩,
  ⟨⟨(some 83), .bin .eql .no (.t 82) (.k (.sc (.int .i64 1))), (some (80, true))⟩, 0, [], []⟩,
  ⟨⟨(some 84), .pick (.t 80) (.t 83) (.k (.sc (.bool false))), none⟩, 0, [], []⟩,
  ⟨⟨(some 85), .move (.t 84), none⟩, 0, [], []⟩,
  ⟨⟨(some 86), .fieldAddr 4 (.t 1), (some (85, true))⟩, 0, [], []⟩,
  ⟨⟨(some 87), .load none (.t 86), (some (85, true))⟩, 1, [], []⟩,
  ⟨⟨(some 88), .bin .eql .no (.t 87) (.k (.sc (.int .i64 1))), (some (85, true))⟩, 0, [], []⟩,
  ⟨⟨(some 89), .pick (.t 85) (.t 88) (.k (.sc (.bool false))), none⟩, 0, [], []⟩,
  ⟨⟨(some 90), .move (.t 89), none⟩, 0, [], []⟩,
  ⟨⟨(some 91), .move (.t 5), (some (90, true))⟩, 0, [], []⟩,
  ⟨⟨(some 92), .lenSlice (.t 91), (some (90, true))⟩, 0, [], []⟩,
  ⟨⟨(some 93), .bin .eql .no (.t 92) (.k (.sc (.int .i64 3))), (some (90, true))⟩, 0, [], []⟩,
  ⟨⟨(some 94), .pick (.t 90) (.t 93) (.k (.sc (.bool false))), none⟩, 0, [], []⟩,
  ⟨⟨(some 95), .move (.t 94), none⟩, 0, [], []⟩,
  ⟨⟨(some 96), .move (.t 5), (some (95, true))⟩, 0, [], []⟩,
  ⟨⟨(some 97), .indexSlice 7 (.t 96) (.k (.sc (.int .i64 0))), (some (95, true))⟩, 0, [], []⟩,
  ⟨⟨(some 98), .load (some 7) (.t 97), (some (95, true))⟩, 1, [], []⟩,
  ⟨⟨(some 99), .load (some 7) (.t 3), (some (95, true))⟩, 1, [], []⟩,
  ⟨⟨(some 100), .bin .eql (.agg [.int .i32, .int .u8, .int .u16, .int .u8, .int .u32, .int .u8, .int .u32]) (.t 98) (.t 99), (some (95, true))⟩, 0, [], []⟩,
  ⟨⟨(some 101), .pick (.t 95) (.t 100) (.k (.sc (.bool false))), none⟩, 0, [], []⟩,
  ⟨⟨(some 102), .move (.t 101), none⟩, 0, [], []⟩,
  ⟨⟨(some 103), .move (.t 5), (some (102, true))⟩, 0, [], []⟩,
  ⟨⟨(some 104), .indexSlice 7 (.t 103) (.k (.sc (.int .i64 1))), (some (102, true))⟩, 0, [], []⟩,
  ⟨⟨(some 105), .load (some 7) (.t 104), (some (102, true))⟩, 1, [], []⟩,
  ⟨⟨(some 106), .load (some 7) (.t 4), (some (102, true))⟩, 1, [], []⟩,
  ⟨⟨(some 107), .bin .eql (.agg [.int .i32, .int .u8, .int .u16, .int .u8, .int .u32, .int .u8, .int .u32]) (.t 105) (.t 106), (some (102, true))⟩, 0, [], []⟩,
  ⟨⟨(some 108), .pick (.t 102) (.t 107) (.k (.sc (.bool false))), none⟩, 0, [], []⟩,
  ⟨⟨(some 109), .move (.t 108), none⟩, 0, [], []⟩,
  ⟨⟨(some 110), .move (.t 5), (some (109, true))⟩, 0, [], []⟩,
  ⟨⟨(some 111), .indexSlice 7 (.t 110) (.k (.sc (.int .i64 2))), (some (109, true))⟩, 0, [], []⟩,
  ⟨⟨(some 112), .load (some 7) (.t 111), (some (109, true))⟩, 1, [], []⟩,
  ⟨⟨(some 113), .build [.int .i32 0, .int .u8 0, .int .u16 0, .int .u8 0, .int .u32 0, .int .u8 0, .int .u32 0] [(0, 1, (.k (.sc (.int .i32 32))))], (some (109, true))⟩, 0, [], []⟩,
  ⟨⟨(some 114), .bin .eql (.agg [.int .i32, .int .u8, .int .u16, .int .u8, .int .u32, .int .u8, .int .u32]) (.t 112) (.t 113), (some (109, true))⟩, 0, [], []⟩,
  ⟨⟨(some 115), .pick (.t 109) (.t 114) (.k (.sc (.bool false))), none⟩, 0, [], []⟩,
  ⟨⟨(some 0), .move (.t 115), none⟩, 0, [], []⟩]
def m9_code : MCode := (.seq (.ops m9_r0) (.seq (.ops m9_r1) (.seq (.ops m9_r2) (.seq (.ops m9_r3) (.seq (.ops m9_r4) (.seq (.draw m9_r5) .ret))))))
def m9 : MFunc := ⟨116, [.tmp 0], m9_code⟩

def m10_r0 : List MI := [
  ⟨(some 2), .move (.k (.sc (.nils))), none⟩]
def m10_r1 : List MI := [
  ⟨(some 7), .move (.t 0), none⟩,
  ⟨(some 8), .call 21 [(.t 7)], none⟩,
  ⟨(some 3), .move (.t 8), none⟩]
def m10_r2 : List MI := [
  ⟨(some 9), .move (.t 0), none⟩,
  ⟨(some 10), .lenSlice (.t 9), none⟩,
  ⟨(some 11), .move (.k (.sc (.int .i64 0))), none⟩]
def m10_r4 : List MI := [
  ⟨(some 12), .bin .lss .no (.t 11) (.t 10), none⟩]
def m10_r5 : List MI := [
  ⟨(some 13), .move (.t 11), none⟩,
  ⟨(some 14), .indexSlice 7 (.t 9) (.t 11), none⟩,
  ⟨(some 15), .load (some 7) (.t 14), none⟩,
  ⟨(some 5), .alloc 34 [.int .i32 0, .int .u8 0, .int .u16 0, .int .u8 0, .int .u32 0, .int .u8 0, .int .u32 0], none⟩,
  ⟨(some 4), .move (.t 13), none⟩,
  ⟨none, .store 7 (.t 5) (.t 15), none⟩]
def m10_r6 : List MI := [
  ⟨(some 16), .fieldAddr 1 (.t 5), none⟩,
  ⟨(some 17), .load none (.t 16), none⟩,
  ⟨(some 18), .bin .eql .no (.t 17) (.k (.sc (.int .u8 0))), none⟩,
  ⟨(some 19), .move (.t 18), none⟩,
  ⟨(some 20), .fieldAddr 0 (.t 5), (some (19, true))⟩,
  ⟨(some 21), .load none (.t 20), (some (19, true))⟩,
  ⟨(some 22), .call 22 [(.t 21)], (some (19, true))⟩,
  ⟨(some 23), .bin .eql .no (.t 22) (.k (.sc (.int .i64 1))), (some (19, true))⟩,
  ⟨(some 24), .pick (.t 19) (.t 23) (.k (.sc (.bool false))), none⟩,
  ⟨(some 25), .move (.t 24), none⟩,
  ⟨(some 26), .fieldAddr 0 (.t 5), (some (25, true))⟩,
  ⟨(some 27), .load none (.t 26), (some (25, true))⟩,
  ⟨(some 28), .call 23 [(.t 27)], (some (25, true))⟩,
  ⟨(some 29), .pick (.t 25) (.t 28) (.k (.sc (.bool false))), none⟩,
  ⟨(some 6), .move (.t 29), none⟩]
def m10_r7 : List MI := [
  ⟨(some 30), .move (.t 6), none⟩,
  ⟨(some 31), .un .not (.t 30), none⟩,
  ⟨(some 32), .move (.t 31), none⟩,
  ⟨(some 33), .move (.t 0), (some (32, true))⟩,
  ⟨(some 34), .move (.t 4), (some (32, true))⟩,
  ⟨(some 35), .call 24 [(.t 33), (.t 34)], (some (32, true))⟩,
  ⟨(some 36), .un .not (.t 35), (some (32, true))⟩,
  ⟨(some 37), .pick (.t 32) (.t 36) (.k (.sc (.bool false))), none⟩,
  ⟨(some 38), .move (.t 37), none⟩,
  ⟨(some 39), .move (.t 0), (some (38, true))⟩,
  ⟨(some 40), .move (.t 4), (some (38, true))⟩,
  ⟨(some 41), .bin .sub .no (.t 40) (.k (.sc (.int .i64 1))), (some (38, true))⟩,
  ⟨(some 42), .call 24 [(.t 39), (.t 41)], (some (38, true))⟩,
  ⟨(some 43), .un .not (.t 42), (some (38, true))⟩,
  ⟨(some 44), .pick (.t 38) (.t 43) (.k (.sc (.bool false))), none⟩]
def m10_r8 : List MI := [
  ⟨(some 45), .move (.t 3), none⟩,
  ⟨(some 46), .move (.t 4), none⟩,
  ⟨(some 47), .build [.int .i32 0, .int .u8 0, .int .u16 0, .int .u8 0, .int .u32 0, .int .u8 0, .int .u32 0] [(0, 1, (.k (.sc (.int .i32 32))))], none⟩,
  ⟨(some 48), .indexSlice 7 (.t 45) (.t 46), none⟩,
  ⟨none, .store 7 (.t 48) (.t 47), none⟩]
def m10_r9 : List MI := [
  ⟨(some 49), .move (.t 3), none⟩,
  ⟨(some 50), .move (.t 4), none⟩,
  ⟨(some 51), .indexSlice 7 (.t 49) (.t 50), none⟩,
  ⟨(some 52), .fieldAddr 2 (.t 51), none⟩,
  ⟨(some 53), .load (some 5) (.t 52), none⟩,
  ⟨(some 54), .call 25 [(.t 53)], none⟩,
  ⟨(some 55), .un .not (.t 54), none⟩]
def m10_r10 : List MI := [
  ⟨(some 56), .move (.t 3), none⟩,
  ⟨(some 57), .move (.t 4), none⟩,
  ⟨(some 58), .build [.int .u16 0, .int .u8 0, .int .u32 0, .int .u8 0, .int .u32 0] [], none⟩,
  ⟨(some 59), .indexSlice 7 (.t 56) (.t 57), none⟩,
  ⟨(some 60), .fieldAddr 2 (.t 59), none⟩,
  ⟨none, .store 5 (.t 60) (.t 58), none⟩]
def m10_r11 : List MI := [
  ⟨(some 61), .bin .add .no (.t 11) (.k (.sc (.int .i64 1))), none⟩,
  ⟨(some 11), .move (.t 61), none⟩]
def m10_l3 : MCode := (.seq (.ops m10_r4) (.seq (.cond (.t 12) .skip (.exit 0)) (.seq (.block 1 (.seq (.ops m10_r5) (.seq (.ops m10_r6) (.seq (.seq (.ops m10_r7) (.cond (.t 44) (.ops m10_r8) .skip)) (.seq (.ops m10_r9) (.cond (.t 55) (.ops m10_r10) .skip)))))) (.ops m10_r11))))
def m10_r12 : List MI := [
  ⟨(some 62), .move (.t 3), none⟩,
  ⟨(some 2), .move (.t 62), none⟩]
def m10_code : MCode := (.seq (.ops m10_r0) (.seq (.ops m10_r1) (.seq (.seq (.ops m10_r2) (.block 0 (.loop m10_l3))) (.seq (.ops m10_r12) .ret))))
def m10 : MFunc := ⟨63, [.tmp 2], m10_code⟩

def m11_r0 : List MI := [
  ⟨(some 2), .move (.k (.sc (.nils))), none⟩]
def m11_r1 : List MI := [
  ⟨(some 3), .move (.k (.sc (.nils))), none⟩]
def m11_r2 : List MI := [
  ⟨(some 4), .move (.k (.sc (.int .i64 0))), none⟩]
def m11_r4 : List MI := [
  ⟨(some 7), .move (.t 4), none⟩,
  ⟨(some 8), .move (.t 0), none⟩,
  ⟨(some 9), .lenSlice (.t 8), none⟩,
  ⟨(some 10), .bin .lss .no (.t 7) (.t 9), none⟩]
def m11_r5 : List MI := [
  ⟨(some 13), .move (.t 0), none⟩,
  ⟨(some 14), .move (.t 4), none⟩,
  ⟨(some 15), .indexSlice 7 (.t 13) (.t 14), none⟩,
  ⟨(some 16), .load (some 7) (.t 15), none⟩,
  ⟨(some 5), .alloc 34 [.int .i32 0, .int .u8 0, .int .u16 0, .int .u8 0, .int .u32 0, .int .u8 0, .int .u32 0], none⟩,
  ⟨none, .store 7 (.t 5) (.t 16), none⟩]
def m11_r6 : List MI := [
  ⟨(some 17), .fieldAddr 1 (.t 5), none⟩,
  ⟨(some 18), .load none (.t 17), none⟩,
  ⟨(some 19), .bin .eql .no (.t 18) (.k (.sc (.int .u8 0))), none⟩,
  ⟨(some 20), .move (.t 19), none⟩,
  ⟨(some 21), .fieldAddr 0 (.t 5), (some (20, true))⟩,
  ⟨(some 22), .load none (.t 21), (some (20, true))⟩,
  ⟨(some 23), .call 26 [(.t 22)], (some (20, true))⟩,
  ⟨(some 24), .pick (.t 20) (.t 23) (.k (.sc (.bool false))), none⟩,
  ⟨(some 25), .move (.t 24), none⟩,
  ⟨(some 26), .fieldAddr 0 (.t 5), (some (25, true))⟩,
  ⟨(some 27), .load none (.t 26), (some (25, true))⟩,
  ⟨(some 28), .call 27 [(.t 27)], (some (25, true))⟩,
  ⟨(some 29), .bin .eql .no (.t 28) (.k (.sc (.int .i64 1))), (some (25, true))⟩,
  ⟨(some 30), .pick (.t 25) (.t 29) (.k (.sc (.bool false))), none⟩,
  ⟨(some 6), .move (.t 30), none⟩]
def m11_r7 : List DI := [
  ⟨⟨(some 31), .move (.t 6), none⟩, 0, [], []⟩,
  ⟨⟨(some 32), .move (.t 31), none⟩, 0, [], []⟩,
  ⟨⟨(some 33), .move (.t 4), (some (32, false))⟩, 0, [], []⟩,
  ⟨⟨(some 34), .bin .add .no (.t 33) (.k (.sc (.int .i64 1))), (some (32, false))⟩, 0, [], []⟩,
  ⟨⟨(some 35), .move (.t 0), (some (32, false))⟩, 0, [], []⟩,
  ⟨⟨(some 36), .lenSlice (.t 35), (some (32, false))⟩, 0, [], []⟩,
  ⟨⟨(some 37), .bin .lss .no (.t 34) (.t 36), (some (32, false))⟩, 0, [], []⟩,
  ⟨⟨(some 38), .move (.t 37), (some (32, false))⟩, 0, [], []⟩,
  ⟨⟨(some 39), .load (some 7) (.t 5), (some (38, true))⟩, 1, [], []⟩,
  ⟨⟨(some 40), .move (.t 0), (some (38, true))⟩, 0, [], []⟩,
  ⟨⟨(some 41), .move (.t 4), (some (38, true))⟩, 0, [], []⟩,
  ⟨⟨(some 42), .bin .add .no (.t 41) (.k (.sc (.int .i64 1))), (some (38, true))⟩, 0, [], []⟩,
  ⟨⟨(some 43), .indexSlice 7 (.t 40) (.t 42), (some (38, true))⟩, 0, [], []⟩,
  ⟨⟨(some 44), .load (some 7) (.t 43), (some (38, true))⟩, 1, [], []⟩,
  ⟨⟨(some 45), .call 28 [(.t 39), (.t 44)], (some (38, true))⟩, 2, [], []⟩,
  ⟨⟨(some 46), .pick (.t 38) (.t 45) (.k (.sc (.bool false))), (some (32, false))⟩, 0, [], []⟩,
  ⟨⟨(some 47), .pick (.t 32) (.k (.sc (.bool true))) (.t 46), none⟩, 0, [], []⟩,
  ⟨⟨(some 48), .move (.t 47), none⟩, 0, [], []⟩,
  ⟨⟨(some 49), .move (.t 4), (some (48, false))⟩, 0, [], []⟩,
  ⟨⟨(some 50), .bin .gtr .no (.t 49) (.k (.sc (.int .i64 0))), (some (48, false))⟩, 0, [], []⟩,
  ⟨⟨(some 51), .move (.t 50), (some (48, false))⟩, 0, [], []⟩,
  ⟨⟨(some 52), .move (.t 0), (some (51, true))⟩, 0, [], []⟩,
  ⟨⟨(some 53), .move (.t 4), (some (51, true))⟩, 0, [], []⟩,
  ⟨⟨(some 54), .bin .sub .no (.t 53) (.k (.sc (.int .i64 1))), (some (51, true))⟩, 0, [], []⟩,
  ⟨⟨(some 55), .indexSlice 7 (.t 52) (.t 54), (some (51, true))⟩, 0, [], []⟩,
  ⟨⟨(some 56), .load (some 7) (.t 55), (some (51, true))⟩, 1, [], []⟩,
  ⟨⟨(some 57), .load (some 7) (.t 5), (some (51, true))⟩, 1, [], []⟩,
  ⟨⟨(some 58), .call 28 [(.t 56), (.t 57)], (some (51, true))⟩, 2, [], []⟩,
  ⟨⟨(some 59), .pick (.t 51) (.t 58) (.k (.sc (.bool false))), (some (48, false))⟩, 0, [], []⟩,
  ⟨⟨(some 60), .pick (.t 48) (.k (.sc (.bool true))) (.t 59), none⟩, 0, [], []⟩,
  ⟨⟨(some 6), .move (.t 60), none⟩, 0, [], []⟩]
def m11_r8 : List MI := [
  ⟨(some 61), .move (.t 6), none⟩,
  ⟨(some 62), .un .not (.t 61), none⟩]
def m11_r9 : List MI := [
  ⟨(some 63), .call 29 [], none⟩,
  ⟨none, .store 7 (.t 5) (.t 63), none⟩]
def m11_r10 : List MI := [
  ⟨(some 64), .fieldAddr 2 (.t 5), none⟩,
  ⟨(some 65), .load (some 5) (.t 64), none⟩,
  ⟨(some 66), .call 30 [(.t 65)], none⟩,
  ⟨(some 67), .un .not (.t 66), none⟩]
def m11_r11 : List MI := [
  ⟨(some 68), .build [.int .u16 0, .int .u8 0, .int .u32 0, .int .u8 0, .int .u32 0] [], none⟩,
  ⟨(some 69), .fieldAddr 2 (.t 5), none⟩,
  ⟨none, .store 5 (.t 69) (.t 68), none⟩]
def m11_r12 : List MI := [
  ⟨(some 70), .move (.t 3), none⟩,
  ⟨(some 71), .load (some 7) (.t 5), none⟩,
  ⟨(some 72), .buildSlice 34 7 1 [.int .i32 0, .int .u8 0, .int .u16 0, .int .u8 0, .int .u32 0, .int .u8 0, .int .u32 0] [(0, 7, (.t 71))], none⟩,
  ⟨(some 73), .append 34 7 28 [.int .i32 0, .int .u8 0, .int .u16 0, .int .u8 0, .int .u32 0, .int .u8 0, .int .u32 0] (.t 70) (.t 72), none⟩,
  ⟨(some 3), .move (.t 73), none⟩]
def m11_r13 : List MI := [
  ⟨(some 11), .move (.t 4), none⟩,
  ⟨(some 12), .bin .add .no (.t 11) (.k (.sc (.int .i64 1))), none⟩,
  ⟨(some 4), .move (.t 12), none⟩]
def m11_l3 : MCode := (.seq (.seq (.ops m11_r4) (.cond (.t 10) .skip (.exit 0))) (.seq (.block 1 (.seq (.ops m11_r5) (.seq (.ops m11_r6) (.seq (.draw m11_r7) (.seq (.seq (.ops m11_r8) (.cond (.t 62) (.ops m11_r9) .skip)) (.seq (.seq (.ops m11_r10) (.cond (.t 67) (.ops m11_r11) .skip)) (.ops m11_r12))))))) (.ops m11_r13)))
def m11_r14 : List MI := [
  ⟨(some 74), .move (.t 3), none⟩,
  ⟨(some 2), .move (.t 74), none⟩]
def m11_code : MCode := (.seq (.ops m11_r0) (.seq (.ops m11_r1) (.seq (.seq (.ops m11_r2) (.block 0 (.loop m11_l3))) (.seq (.ops m11_r14) .ret))))
def m11 : MFunc := ⟨75, [.tmp 2], m11_code⟩

def m12_r0 : List MI := [
  ⟨(some 1), .box 25 (.t 0), none⟩,
  ⟨(some 2), .move (.k (.sc (.bool false))), none⟩]
def m12_r1 : List MI := [
  ⟨(some 7), .fieldAddr 2 (.t 1), none⟩,
  ⟨(some 8), .load none (.t 7), none⟩,
  ⟨(some 9), .lenSlice (.t 8), none⟩,
  ⟨(some 10), .bin .gtr .no (.t 9) (.k (.sc (.int .i64 12))), none⟩,
  ⟨(some 11), .move (.t 10), none⟩,
  ⟨(some 12), .fieldAddr 3 (.t 1), (some (11, false))⟩,
  ⟨(some 13), .load none (.t 12), (some (11, false))⟩,
  ⟨(some 14), .lenSlice (.t 13), (some (11, false))⟩,
  ⟨(some 15), .bin .gtr .no (.t 14) (.k (.sc (.int .i64 12))), (some (11, false))⟩,
  ⟨(some 16), .pick (.t 11) (.k (.sc (.bool true))) (.t 15), none⟩,
  ⟨(some 17), .move (.t 16), none⟩,
  ⟨(some 18), .fieldAddr 4 (.t 1), (some (17, false))⟩,
  ⟨(some 19), .load none (.t 18), (some (17, false))⟩,
  ⟨(some 20), .lenStr (.t 19), (some (17, false))⟩,
  ⟨(some 21), .bin .gtr .no (.t 20) (.k (.sc (.int .i64 2000))), (some (17, false))⟩,
  ⟨(some 22), .pick (.t 17) (.k (.sc (.bool true))) (.t 21), none⟩,
  ⟨(some 23), .move (.t 22), none⟩,
  ⟨(some 24), .fieldAddr 0 (.t 1), (some (23, false))⟩,
  ⟨(some 25), .load none (.t 24), (some (23, false))⟩,
  ⟨(some 26), .bin .gtr .no (.t 25) (.k (.sc (.int .i64 0))), (some (23, false))⟩,
  ⟨(some 27), .move (.t 26), (some (23, false))⟩,
  ⟨(some 28), .fieldAddr 0 (.t 1), (some (27, true))⟩,
  ⟨(some 29), .load none (.t 28), (some (27, true))⟩,
  ⟨(some 30), .bin .leq .no (.t 29) (.k (.sc (.int .i64 400))), (some (27, true))⟩,
  ⟨(some 31), .pick (.t 27) (.t 30) (.k (.sc (.bool false))), (some (23, false))⟩,
  ⟨(some 32), .move (.t 31), (some (23, false))⟩,
  ⟨(some 33), .fieldAddr 1 (.t 1), (some (32, true))⟩,
  ⟨(some 34), .load none (.t 33), (some (32, true))⟩,
  ⟨(some 35), .bin .gtr .no (.t 34) (.k (.sc (.int .i64 0))), (some (32, true))⟩,
  ⟨(some 36), .pick (.t 32) (.t 35) (.k (.sc (.bool false))), (some (23, false))⟩,
  ⟨(some 37), .move (.t 36), (some (23, false))⟩,
  ⟨(some 38), .fieldAddr 1 (.t 1), (some (37, true))⟩,
  ⟨(some 39), .load none (.t 38), (some (37, true))⟩,
  ⟨(some 40), .bin .leq .no (.t 39) (.k (.sc (.int .i64 400))), (some (37, true))⟩,
  ⟨(some 41), .pick (.t 37) (.t 40) (.k (.sc (.bool false))), (some (23, false))⟩,
  ⟨(some 42), .move (.t 41), (some (23, false))⟩,
  ⟨(some 43), .fieldAddr 0 (.t 1), (some (42, true))⟩,
  ⟨(some 44), .load none (.t 43), (some (42, true))⟩,
  ⟨(some 45), .fieldAddr 1 (.t 1), (some (42, true))⟩,
  ⟨(some 46), .load none (.t 45), (some (42, true))⟩,
  ⟨(some 47), .bin .mul .no (.t 44) (.t 46), (some (42, true))⟩,
  ⟨(some 48), .bin .gtr .no (.t 47) (.k (.sc (.int .i64 3000))), (some (42, true))⟩,
  ⟨(some 49), .pick (.t 42) (.t 48) (.k (.sc (.bool false))), (some (23, false))⟩,
  ⟨(some 50), .pick (.t 23) (.k (.sc (.bool true))) (.t 49), none⟩]
def m12_r2 : List MI := [
  ⟨(some 2), .move (.k (.sc (.bool true))), none⟩]
def m12_r3 : List MI := [
  ⟨(some 3), .move (.k (.sc (.int .i64 0))), none⟩]
def m12_r4 : List MI := [
  ⟨(some 4), .move (.k (.sc (.int .i64 0))), none⟩]
def m12_r6 : List MI := [
  ⟨(some 51), .move (.t 4), none⟩,
  ⟨(some 52), .fieldAddr 2 (.t 1), none⟩,
  ⟨(some 53), .load none (.t 52), none⟩,
  ⟨(some 54), .lenSlice (.t 53), none⟩,
  ⟨(some 55), .bin .lss .no (.t 51) (.t 54), none⟩]
def m12_r7 : List MI := [
  ⟨(some 58), .fieldAddr 2 (.t 1), none⟩,
  ⟨(some 59), .load none (.t 58), none⟩,
  ⟨(some 60), .move (.t 4), none⟩,
  ⟨(some 61), .indexSlice 6 (.t 59) (.t 60), none⟩,
  ⟨(some 62), .fieldAddr 0 (.t 61), none⟩,
  ⟨(some 63), .load (some 4) (.t 62), none⟩,
  ⟨(some 64), .call 31 [(.t 63)], none⟩,
  ⟨(some 65), .move (.t 64), none⟩,
  ⟨(some 66), .fieldAddr 2 (.t 1), (some (65, false))⟩,
  ⟨(some 67), .load none (.t 66), (some (65, false))⟩,
  ⟨(some 68), .move (.t 4), (some (65, false))⟩,
  ⟨(some 69), .indexSlice 6 (.t 67) (.t 68), (some (65, false))⟩,
  ⟨(some 70), .fieldAddr 5 (.t 69), (some (65, false))⟩,
  ⟨(some 71), .load none (.t 70), (some (65, false))⟩,
  ⟨(some 72), .lenSlice (.t 71), (some (65, false))⟩,
  ⟨(some 73), .bin .gtr .no (.t 72) (.k (.sc (.int .i64 200))), (some (65, false))⟩,
  ⟨(some 74), .pick (.t 65) (.k (.sc (.bool true))) (.t 73), none⟩]
def m12_r8 : List MI := [
  ⟨(some 2), .move (.k (.sc (.bool true))), none⟩]
def m12_r9 : List MI := [
  ⟨(some 5), .move (.k (.sc (.int .i64 0))), none⟩]
def m12_r11 : List MI := [
  ⟨(some 75), .move (.t 5), none⟩,
  ⟨(some 76), .fieldAddr 2 (.t 1), none⟩,
  ⟨(some 77), .load none (.t 76), none⟩,
  ⟨(some 78), .move (.t 4), none⟩,
  ⟨(some 79), .indexSlice 6 (.t 77) (.t 78), none⟩,
  ⟨(some 80), .fieldAddr 5 (.t 79), none⟩,
  ⟨(some 81), .load none (.t 80), none⟩,
  ⟨(some 82), .lenSlice (.t 81), none⟩,
  ⟨(some 83), .bin .lss .no (.t 75) (.t 82), none⟩]
def m12_r12 : List MI := [
  ⟨(some 86), .move (.t 3), none⟩,
  ⟨(some 87), .fieldAddr 2 (.t 1), none⟩,
  ⟨(some 88), .load none (.t 87), none⟩,
  ⟨(some 89), .move (.t 4), none⟩,
  ⟨(some 90), .indexSlice 6 (.t 88) (.t 89), none⟩,
  ⟨(some 91), .fieldAddr 5 (.t 90), none⟩,
  ⟨(some 92), .load none (.t 91), none⟩,
  ⟨(some 93), .move (.t 5), none⟩,
  ⟨(some 94), .indexSlice 1 (.t 92) (.t 93), none⟩,
  ⟨(some 95), .load none (.t 94), none⟩,
  ⟨(some 96), .lenSlice (.t 95), none⟩,
  ⟨(some 97), .min [(.t 96), (.k (.sc (.int .i64 3001)))], none⟩,
  ⟨(some 98), .bin .add .no (.t 86) (.t 97), none⟩,
  ⟨(some 3), .move (.t 98), none⟩]
def m12_r13 : List MI := [
  ⟨(some 84), .move (.t 5), none⟩,
  ⟨(some 85), .bin .add .no (.t 84) (.k (.sc (.int .i64 1))), none⟩,
  ⟨(some 5), .move (.t 85), none⟩]
def m12_l10 : MCode := (.seq (.seq (.ops m12_r11) (.cond (.t 83) .skip (.exit 2))) (.seq (.block 3 (.ops m12_r12)) (.ops m12_r13)))
def m12_r14 : List MI := [
  ⟨(some 56), .move (.t 4), none⟩,
  ⟨(some 57), .bin .add .no (.t 56) (.k (.sc (.int .i64 1))), none⟩,
  ⟨(some 4), .move (.t 57), none⟩]
def m12_l5 : MCode := (.seq (.seq (.ops m12_r6) (.cond (.t 55) .skip (.exit 0))) (.seq (.block 1 (.seq (.seq (.ops m12_r7) (.cond (.t 74) (.seq (.ops m12_r8) .ret) .skip)) (.seq (.ops m12_r9) (.block 2 (.loop m12_l10))))) (.ops m12_r14)))
def m12_r15 : List MI := [
  ⟨(some 6), .move (.k (.sc (.int .i64 0))), none⟩]
def m12_r17 : List MI := [
  ⟨(some 99), .move (.t 6), none⟩,
  ⟨(some 100), .fieldAddr 3 (.t 1), none⟩,
  ⟨(some 101), .load none (.t 100), none⟩,
  ⟨(some 102), .lenSlice (.t 101), none⟩,
  ⟨(some 103), .bin .lss .no (.t 99) (.t 102), none⟩]
def m12_r18 : List MI := [
  ⟨(some 106), .fieldAddr 3 (.t 1), none⟩,
  ⟨(some 107), .load none (.t 106), none⟩,
  ⟨(some 108), .move (.t 6), none⟩,
  ⟨(some 109), .indexSlice 4 (.t 107) (.t 108), none⟩,
  ⟨(some 110), .load (some 4) (.t 109), none⟩,
  ⟨(some 111), .call 31 [(.t 110)], none⟩]
def m12_r19 : List MI := [
  ⟨(some 2), .move (.k (.sc (.bool true))), none⟩]
def m12_r20 : List MI := [
  ⟨(some 104), .move (.t 6), none⟩,
  ⟨(some 105), .bin .add .no (.t 104) (.k (.sc (.int .i64 1))), none⟩,
  ⟨(some 6), .move (.t 105), none⟩]
def m12_l16 : MCode := (.seq (.seq (.ops m12_r17) (.cond (.t 103) .skip (.exit 4))) (.seq (.block 5 (.seq (.ops m12_r18) (.cond (.t 111) (.seq (.ops m12_r19) .ret) .skip))) (.ops m12_r20)))
def m12_r21 : List MI := [
  ⟨(some 112), .move (.t 3), none⟩,
  ⟨(some 113), .bin .gtr .no (.t 112) (.k (.sc (.int .i64 3000))), none⟩,
  ⟨(some 2), .move (.t 113), none⟩]
def m12_code : MCode := (.seq (.ops m12_r0) (.seq (.seq (.ops m12_r1) (.cond (.t 50) (.seq (.ops m12_r2) .ret) .skip)) (.seq (.ops m12_r3) (.seq (.seq (.ops m12_r4) (.block 0 (.loop m12_l5))) (.seq (.seq (.ops m12_r15) (.block 4 (.loop m12_l16))) (.seq (.ops m12_r21) .ret))))))
def m12 : MFunc := ⟨114, [.tmp 2], m12_code⟩

def m13_r0 : List MI := [
  ⟨(some 2), .box 37 (.t 0), none⟩,
  ⟨(some 3), .box 37 (.t 1), none⟩,
  ⟨(some 4), .alloc 37 [.int .i64 0, .int .i64 0, .int .i64 0, .int .i64 0], none⟩]
def m13_r1 : List MI := [
  ⟨(some 9), .fieldAddr 2 (.t 2), none⟩,
  ⟨(some 10), .load none (.t 9), none⟩,
  ⟨(some 11), .bin .leq .no (.t 10) (.k (.sc (.int .i64 0))), none⟩,
  ⟨(some 12), .move (.t 11), none⟩,
  ⟨(some 13), .fieldAddr 3 (.t 2), (some (12, false))⟩,
  ⟨(some 14), .load none (.t 13), (some (12, false))⟩,
  ⟨(some 15), .bin .leq .no (.t 14) (.k (.sc (.int .i64 0))), (some (12, false))⟩,
  ⟨(some 16), .pick (.t 12) (.k (.sc (.bool true))) (.t 15), none⟩,
  ⟨(some 17), .move (.t 16), none⟩,
  ⟨(some 18), .fieldAddr 2 (.t 3), (some (17, false))⟩,
  ⟨(some 19), .load none (.t 18), (some (17, false))⟩,
  ⟨(some 20), .bin .leq .no (.t 19) (.k (.sc (.int .i64 0))), (some (17, false))⟩,
  ⟨(some 21), .pick (.t 17) (.k (.sc (.bool true))) (.t 20), none⟩,
  ⟨(some 22), .move (.t 21), none⟩,
  ⟨(some 23), .fieldAddr 3 (.t 3), (some (22, false))⟩,
  ⟨(some 24), .load none (.t 23), (some (22, false))⟩,
  ⟨(some 25), .bin .leq .no (.t 24) (.k (.sc (.int .i64 0))), (some (22, false))⟩,
  ⟨(some 26), .pick (.t 22) (.k (.sc (.bool true))) (.t 25), none⟩]
def m13_r2 : List MI := [
  ⟨(some 27), .build [.int .i64 0, .int .i64 0, .int .i64 0, .int .i64 0] [], none⟩,
  ⟨none, .store 4 (.t 4) (.t 27), none⟩]
def m13_r3 : List DI := [
  ⟨⟨(some 28), .fieldAddr 0 (.t 2), none⟩, 0, [], []⟩,
  ⟨⟨(some 29), .load none (.t 28), none⟩, 1, [], []⟩,
  ⟨⟨(some 30), .fieldAddr 0 (.t 3), none⟩, 0, [], []⟩,
  ⟨⟨(some 31), .load none (.t 30), none⟩, 1, [], []⟩,
  ⟨⟨(some 32), .max [(.t 29), (.t 31)], none⟩, 0, [], []⟩,
  ⟨⟨(some 33), .fieldAddr 1 (.t 2), none⟩, 0, [], []⟩,
  ⟨⟨(some 34), .load none (.t 33), none⟩, 1, [], []⟩,
  ⟨⟨(some 35), .fieldAddr 1 (.t 3), none⟩, 0, [], []⟩,
  ⟨⟨(some 36), .load none (.t 35), none⟩, 1, [], []⟩,
  ⟨⟨(some 37), .max [(.t 34), (.t 36)], none⟩, 0, [], []⟩,
  ⟨⟨(some 5), .move (.t 32), none⟩, 0, [], []⟩,
  ⟨⟨(some 6), .move (.t 37), none⟩, 0, [], []⟩]
def m13_r4 : List DI := [
  ⟨⟨(some 38), .fieldAddr 0 (.t 2), none⟩, 0, [], []⟩,
  ⟨⟨(some 39), .load none (.t 38), none⟩, 1, [], []⟩,
  ⟨⟨(some 40), .fieldAddr 2 (.t 2), none⟩, 0, [], []⟩,
  ⟨⟨(some 41), .load none (.t 40), none⟩, 1, [], []⟩,
  ⟨⟨(some 42), .call 32 [(.t 39), (.t 41)], none⟩, 2, [], []⟩,
  ⟨⟨(some 43), .fieldAddr 0 (.t 3), none⟩, 0, [4], []⟩,
  ⟨⟨(some 44), .load none (.t 43), none⟩, 1, [4], []⟩,
  ⟨⟨(some 45), .fieldAddr 2 (.t 3), none⟩, 0, [4], []⟩,
  ⟨⟨(some 46), .load none (.t 45), none⟩, 1, [4], []⟩,
  ⟨⟨(some 47), .call 32 [(.t 44), (.t 46)], none⟩, 2, [], []⟩,
  ⟨⟨(some 48), .min [(.t 42), (.t 47)], none⟩, 0, [], [15, 20]⟩,
  ⟨⟨(some 49), .fieldAddr 1 (.t 2), none⟩, 0, [4, 9], []⟩,
  ⟨⟨(some 50), .load none (.t 49), none⟩, 1, [4, 9], []⟩,
  ⟨⟨(some 51), .fieldAddr 3 (.t 2), none⟩, 0, [4, 9], []⟩,
  ⟨⟨(some 52), .load none (.t 51), none⟩, 1, [4, 9], []⟩,
  ⟨⟨(some 53), .call 32 [(.t 50), (.t 52)], none⟩, 2, [], []⟩,
  ⟨⟨(some 54), .fieldAddr 1 (.t 3), none⟩, 0, [4, 9, 15], []⟩,
  ⟨⟨(some 55), .load none (.t 54), none⟩, 1, [4, 9, 15], []⟩,
  ⟨⟨(some 56), .fieldAddr 3 (.t 3), none⟩, 0, [4, 9, 15], []⟩,
  ⟨⟨(some 57), .load none (.t 56), none⟩, 1, [4, 9, 15], []⟩,
  ⟨⟨(some 58), .call 32 [(.t 55), (.t 57)], none⟩, 2, [], []⟩,
  ⟨⟨(some 59), .min [(.t 53), (.t 58)], none⟩, 0, [], []⟩,
  ⟨⟨(some 7), .move (.t 48), none⟩, 0, [], []⟩,
  ⟨⟨(some 8), .move (.t 59), none⟩, 0, [], []⟩]
def m13_r5 : List MI := [
  ⟨(some 60), .move (.t 5), none⟩,
  ⟨(some 61), .move (.t 7), none⟩,
  ⟨(some 62), .bin .geq .no (.t 60) (.t 61), none⟩,
  ⟨(some 63), .move (.t 62), none⟩,
  ⟨(some 64), .move (.t 6), (some (63, false))⟩,
  ⟨(some 65), .move (.t 8), (some (63, false))⟩,
  ⟨(some 66), .bin .geq .no (.t 64) (.t 65), (some (63, false))⟩,
  ⟨(some 67), .pick (.t 63) (.k (.sc (.bool true))) (.t 66), none⟩]
def m13_r6 : List MI := [
  ⟨(some 68), .build [.int .i64 0, .int .i64 0, .int .i64 0, .int .i64 0] [], none⟩,
  ⟨none, .store 4 (.t 4) (.t 68), none⟩]
def m13_r7 : List MI := [
  ⟨(some 69), .move (.t 5), none⟩,
  ⟨(some 70), .move (.t 6), none⟩,
  ⟨(some 71), .move (.t 7), none⟩,
  ⟨(some 72), .move (.t 5), none⟩,
  ⟨(some 73), .bin .sub .no (.t 71) (.t 72), none⟩,
  ⟨(some 74), .move (.t 8), none⟩,
  ⟨(some 75), .move (.t 6), none⟩,
  ⟨(some 76), .bin .sub .no (.t 74) (.t 75), none⟩,
  ⟨(some 77), .build [.int .i64 0, .int .i64 0, .int .i64 0, .int .i64 0] [(0, 1, (.t 69)), (1, 1, (.t 70)), (2, 1, (.t 73)), (3, 1, (.t 76))], none⟩,
  ⟨none, .store 4 (.t 4) (.t 77), none⟩]
def m13_code : MCode := (.seq (.ops m13_r0) (.seq (.seq (.ops m13_r1) (.cond (.t 26) (.seq (.ops m13_r2) .ret) .skip)) (.seq (.draw m13_r3) (.seq (.draw m13_r4) (.seq (.seq (.ops m13_r5) (.cond (.t 67) (.seq (.ops m13_r6) .ret) .skip)) (.seq (.ops m13_r7) .ret))))))
def m13 : MFunc := ⟨78, [.cell 4 (some 4)], m13_code⟩

def m14_r0 : List MI := [
  ⟨(some 1), .box 42 (.t 0), none⟩,
  ⟨(some 2), .move (.k (.sc (.bool false))), none⟩]
def m14_r1 : List MI := [
  ⟨(some 4), .fieldAddr 2 (.t 1), none⟩,
  ⟨(some 5), .load none (.t 4), none⟩,
  ⟨(some 6), .lenSlice (.t 5), none⟩,
  ⟨(some 7), .fieldAddr 0 (.t 1), none⟩,
  ⟨(some 8), .load none (.t 7), none⟩,
  ⟨(some 9), .fieldAddr 1 (.t 1), none⟩,
  ⟨(some 10), .load none (.t 9), none⟩,
  ⟨(some 11), .bin .mul .no (.t 8) (.t 10), none⟩,
  ⟨(some 12), .bin .neq .no (.t 6) (.t 11), none⟩]
def m14_r2 : List MI := [
  ⟨(some 2), .move (.k (.sc (.bool false))), none⟩]
def m14_r3 : List MI := [
  ⟨(some 3), .move (.k (.sc (.int .i64 0))), none⟩]
def m14_r5 : List MI := [
  ⟨(some 13), .move (.t 3), none⟩,
  ⟨(some 14), .fieldAddr 1 (.t 1), none⟩,
  ⟨(some 15), .load none (.t 14), none⟩,
  ⟨(some 16), .bin .lss .no (.t 13) (.t 15), none⟩]
def m14_r6 : List MI := [
  ⟨(some 19), .fieldAddr 2 (.t 1), none⟩,
  ⟨(some 20), .load none (.t 19), none⟩,
  ⟨(some 21), .move (.t 3), none⟩,
  ⟨(some 22), .fieldAddr 0 (.t 1), none⟩,
  ⟨(some 23), .load none (.t 22), none⟩,
  ⟨(some 24), .bin .mul .no (.t 21) (.t 23), none⟩,
  ⟨(some 25), .move (.t 3), none⟩,
  ⟨(some 26), .bin .add .no (.t 25) (.k (.sc (.int .i64 1))), none⟩,
  ⟨(some 27), .fieldAddr 0 (.t 1), none⟩,
  ⟨(some 28), .load none (.t 27), none⟩,
  ⟨(some 29), .bin .mul .no (.t 26) (.t 28), none⟩,
  ⟨(some 30), .slice 7 (.t 20) (some (.t 24)) (some (.t 29)), none⟩,
  ⟨(some 31), .call 33 [(.t 30)], none⟩,
  ⟨(some 32), .un .not (.t 31), none⟩]
def m14_r7 : List MI := [
  ⟨(some 2), .move (.k (.sc (.bool false))), none⟩]
def m14_r8 : List MI := [
  ⟨(some 17), .move (.t 3), none⟩,
  ⟨(some 18), .bin .add .no (.t 17) (.k (.sc (.int .i64 1))), none⟩,
  ⟨(some 3), .move (.t 18), none⟩]
def m14_l4 : MCode := (.seq (.seq (.ops m14_r5) (.cond (.t 16) .skip (.exit 0))) (.seq (.block 1 (.seq (.ops m14_r6) (.cond (.t 32) (.seq (.ops m14_r7) .ret) .skip))) (.ops m14_r8)))
def m14_r9 : List MI := [
  ⟨(some 2), .move (.k (.sc (.bool true))), none⟩]
def m14_code : MCode := (.seq (.ops m14_r0) (.seq (.seq (.ops m14_r1) (.cond (.t 12) (.seq (.ops m14_r2) .ret) .skip)) (.seq (.seq (.ops m14_r3) (.block 0 (.loop m14_l4))) (.seq (.ops m14_r9) .ret))))
def m14 : MFunc := ⟨33, [.tmp 2], m14_code⟩

def m15_r0 : List MI := [
  ⟨(some 3), .box 37 (.t 0), none⟩,
  ⟨(some 6), .move (.k (.sc (.bool false))), none⟩]
def m15_r1 : List MI := [
  ⟨(some 7), .fieldAddr 2 (.t 3), none⟩,
  ⟨(some 8), .load none (.t 7), none⟩,
  ⟨(some 9), .bin .gtr .no (.t 8) (.k (.sc (.int .i64 0))), none⟩,
  ⟨(some 10), .move (.t 9), none⟩,
  ⟨(some 11), .fieldAddr 3 (.t 3), (some (10, true))⟩,
  ⟨(some 12), .load none (.t 11), (some (10, true))⟩,
  ⟨(some 13), .bin .gtr .no (.t 12) (.k (.sc (.int .i64 0))), (some (10, true))⟩,
  ⟨(some 14), .pick (.t 10) (.t 13) (.k (.sc (.bool false))), none⟩,
  ⟨(some 15), .move (.t 14), none⟩,
  ⟨(some 16), .move (.t 1), (some (15, true))⟩,
  ⟨(some 17), .fieldAddr 0 (.t 3), (some (15, true))⟩,
  ⟨(some 18), .load none (.t 17), (some (15, true))⟩,
  ⟨(some 19), .bin .geq .no (.t 16) (.t 18), (some (15, true))⟩,
  ⟨(some 20), .pick (.t 15) (.t 19) (.k (.sc (.bool false))), none⟩,
  ⟨(some 21), .move (.t 20), none⟩,
  ⟨(some 22), .move (.t 2), (some (21, true))⟩,
  ⟨(some 23), .fieldAddr 1 (.t 3), (some (21, true))⟩,
  ⟨(some 24), .load none (.t 23), (some (21, true))⟩,
  ⟨(some 25), .bin .geq .no (.t 22) (.t 24), (some (21, true))⟩,
  ⟨(some 26), .pick (.t 21) (.t 25) (.k (.sc (.bool false))), none⟩,
  ⟨(some 27), .move (.t 26), none⟩,
  ⟨(some 28), .move (.t 1), (some (27, true))⟩,
  ⟨(some 29), .fieldAddr 0 (.t 3), (some (27, true))⟩,
  ⟨(some 30), .load none (.t 29), (some (27, true))⟩,
  ⟨(some 31), .fieldAddr 2 (.t 3), (some (27, true))⟩,
  ⟨(some 32), .load none (.t 31), (some (27, true))⟩,
  ⟨(some 33), .call 32 [(.t 30), (.t 32)], (some (27, true))⟩,
  ⟨(some 34), .bin .lss .no (.t 28) (.t 33), (some (27, true))⟩,
  ⟨(some 35), .pick (.t 27) (.t 34) (.k (.sc (.bool false))), none⟩,
  ⟨(some 36), .move (.t 35), none⟩,
  ⟨(some 37), .move (.t 2), (some (36, true))⟩,
  ⟨(some 38), .fieldAddr 1 (.t 3), (some (36, true))⟩,
  ⟨(some 39), .load none (.t 38), (some (36, true))⟩,
  ⟨(some 40), .fieldAddr 3 (.t 3), (some (36, true))⟩,
  ⟨(some 41), .load none (.t 40), (some (36, true))⟩,
  ⟨(some 42), .call 32 [(.t 39), (.t 41)], (some (36, true))⟩,
  ⟨(some 43), .bin .lss .no (.t 37) (.t 42), (some (36, true))⟩,
  ⟨(some 44), .pick (.t 36) (.t 43) (.k (.sc (.bool false))), none⟩,
  ⟨(some 6), .move (.t 44), none⟩]
def m15_code : MCode := (.seq (.ops m15_r0) (.seq (.ops m15_r1) .ret))
def m15 : MFunc := ⟨45, [.tmp 6], m15_code⟩

def m16_r0 : List MI := [
  ⟨(some 2), .move (.k (.sc (.nils))), none⟩]
def m16_r1 : List MI := [
  ⟨(some 3), .move (.k (.sc (.nils))), none⟩]
def m16_r2 : List MI := [
  ⟨(some 6), .move (.t 0), none⟩,
  ⟨(some 7), .range (.t 6), none⟩]
def m16_r4 : List MI := [
  ⟨(some 8), .next (.t 7), none⟩,
  ⟨(some 9), .extract (.t 8) 0, none⟩]
def m16_r5 : List MI := [
  ⟨(some 10), .extract (.t 8) 2, none⟩,
  ⟨(some 5), .move (.t 10), none⟩]
def m16_r6 : List MI := [
  ⟨(some 11), .move (.t 3), none⟩,
  ⟨(some 12), .move (.t 5), none⟩,
  ⟨(some 13), .build [.int .i32 0, .int .u8 0, .int .u16 0, .int .u8 0, .int .u32 0, .int .u8 0, .int .u32 0] [(0, 1, (.t 12))], none⟩,
  ⟨(some 14), .buildSlice 34 7 1 [.int .i32 0, .int .u8 0, .int .u16 0, .int .u8 0, .int .u32 0, .int .u8 0, .int .u32 0] [(0, 7, (.t 13))], none⟩,
  ⟨(some 15), .append 34 7 28 [.int .i32 0, .int .u8 0, .int .u16 0, .int .u8 0, .int .u32 0, .int .u8 0, .int .u32 0] (.t 11) (.t 14), none⟩,
  ⟨(some 3), .move (.t 15), none⟩]
def m16_l3 : MCode := (.seq (.ops m16_r4) (.seq (.cond (.t 9) .skip (.exit 0)) (.block 1 (.seq (.ops m16_r5) (.ops m16_r6)))))
def m16_r7 : List MI := [
  ⟨(some 16), .move (.t 3), none⟩,
  ⟨(some 2), .move (.t 16), none⟩]
def m16_code : MCode := (.seq (.ops m16_r0) (.seq (.ops m16_r1) (.seq (.seq (.ops m16_r2) (.block 0 (.loop m16_l3))) (.seq (.ops m16_r7) .ret))))
def m16 : MFunc := ⟨17, [.tmp 2], m16_code⟩

def m17_r0 : List MI := [
  ⟨(some 3), .box 32 (.t 1), none⟩,
  ⟨(some 4), .move (.k (.sc (.nils))), none⟩]
def m17_r1 : List MI := [
  ⟨(some 6), .move (.t 0), none⟩,
  ⟨(some 7), .bin .lss .no (.t 6) (.k (.sc (.int .i64 1))), none⟩,
  ⟨(some 8), .move (.t 7), none⟩,
  ⟨(some 9), .move (.t 0), (some (8, false))⟩,
  ⟨(some 10), .bin .gtr .no (.t 9) (.k (.sc (.int .i64 400))), (some (8, false))⟩,
  ⟨(some 11), .pick (.t 8) (.k (.sc (.bool true))) (.t 10), none⟩]
def m17_r2 : List MI := [
  ⟨(some 4), .move (.k (.sc (.nils))), none⟩]
def m17_r3 : List MI := [
  ⟨(some 12), .move (.t 0), none⟩,
  ⟨(some 13), .makeSlice 34 7 28 [.int .i32 0, .int .u8 0, .int .u16 0, .int .u8 0, .int .u32 0, .int .u8 0, .int .u32 0] (.t 12) (.t 12), none⟩,
  ⟨(some 5), .move (.t 13), none⟩]
def m17_r4 : List MI := [
  ⟨(some 14), .move (.t 5), none⟩,
  ⟨(some 15), .load (some 5) (.t 3), none⟩,
  ⟨(some 16), .call 34 [(.t 14), (.t 15)], none⟩]
def m17_r5 : List MI := [
  ⟨(some 17), .move (.t 5), none⟩,
  ⟨(some 4), .move (.t 17), none⟩]
def m17_code : MCode := (.seq (.ops m17_r0) (.seq (.seq (.ops m17_r1) (.cond (.t 11) (.seq (.ops m17_r2) .ret) .skip)) (.seq (.ops m17_r3) (.seq (.ops m17_r4) (.seq (.ops m17_r5) .ret)))))
def m17 : MFunc := ⟨18, [.tmp 4], m17_code⟩

def m18_r0 : List MI := [
  ⟨(some 3), .box 40 (.t 1), none⟩]
def m18_r1 : List MI := [
  ⟨(some 4), .alloc 37 [.int .i64 0, .int .i64 0, .int .i64 0, .int .i64 0], none⟩]
def m18_r2 : List DI := [
  ⟨⟨(some 6), .fieldAddr 0 (.t 3), none⟩, 0, [], []⟩,
  ⟨⟨(some 7), .load (some 4) (.t 6), none⟩, 1, [], []⟩,
  ⟨⟨(some 8), .move (.t 0), none⟩, 0, [], []⟩,
  ⟨⟨(some 9), .nilCheck (.t 8), none⟩, 0, [], []⟩,
  ⟨⟨(some 10), .fieldAddr 0 (.t 9), none⟩, 0, [], []⟩,
  ⟨⟨(some 11), .load (some 4) (.t 10), none⟩, 1, [], []⟩,
  ⟨⟨(some 12), .call 13 [(.t 7), (.t 11)], none⟩, 2, [], []⟩,
  ⟨⟨(some 4), .move (.t 4), none⟩, 0, [6], []⟩,
  ⟨⟨none, .store 4 (.t 4) (.t 12), none⟩, 2, [], []⟩]
def m18_r3 : List MI := [
  ⟨(some 13), .fieldAddr 4 (.t 3), none⟩,
  ⟨(some 14), .load none (.t 13), none⟩,
  ⟨(some 15), .un .not (.t 14), none⟩]
def m18_r4 : List MI := [
  ⟨(some 16), .move (.t 0), none⟩,
  ⟨(some 17), .load (some 4) (.t 4), none⟩,
  ⟨(some 18), .build [.int .u16 0, .int .u8 0, .int .u32 0, .int .u8 0, .int .u32 0] [(0, 1, (.k (.sc (.int .u16 2))))], none⟩,
  ⟨(some 19), .build [.int .i32 0, .int .u8 0, .int .u16 0, .int .u8 0, .int .u32 0, .int .u8 0, .int .u32 0] [(0, 1, (.k (.sc (.int .i32 9617)))), (2, 5, (.t 18))], none⟩,
  ⟨(some 20), .call 35 [(.t 16), (.t 17), (.t 19)], none⟩]
def m18_r5 : List MI := [
  ⟨(some 21), .fieldAddr 1 (.t 4), none⟩,
  ⟨(some 22), .load none (.t 21), none⟩,
  ⟨(some 5), .move (.t 22), none⟩]
def m18_r7 : List MI := [
  ⟨(some 23), .move (.t 5), none⟩,
  ⟨(some 24), .fieldAddr 1 (.t 4), none⟩,
  ⟨(some 25), .load none (.t 24), none⟩,
  ⟨(some 26), .fieldAddr 3 (.t 4), none⟩,
  ⟨(some 27), .load none (.t 26), none⟩,
  ⟨(some 28), .bin .add .no (.t 25) (.t 27), none⟩,
  ⟨(some 29), .bin .lss .no (.t 23) (.t 28), none⟩]
def m18_r8 : List DI := [
  ⟨⟨(some 32), .move (.t 0), none⟩, 0, [], [7]⟩,
  ⟨⟨(some 33), .fieldAddr 0 (.t 4), none⟩, 0, [], [7]⟩,
  ⟨⟨(some 34), .load none (.t 33), none⟩, 1, [], [7]⟩,
  ⟨⟨(some 35), .move (.t 5), none⟩, 0, [], [7]⟩,
  ⟨⟨(some 36), .load (some 6) (.t 3), none⟩, 1, [], []⟩,
  ⟨⟨(some 37), .move (.t 5), none⟩, 0, [], []⟩,
  ⟨⟨(some 38), .load (some 4) (.t 4), none⟩, 1, [], []⟩,
  ⟨⟨(some 39), .call 37 [(.t 36), (.t 37), (.t 38)], none⟩, 2, [], []⟩,
  ⟨⟨(some 40), .call 36 [(.t 32), (.t 34), (.t 35), (.t 39)], none⟩, 2, [], []⟩]
def m18_r9 : List MI := [
  ⟨(some 30), .move (.t 5), none⟩,
  ⟨(some 31), .bin .add .no (.t 30) (.k (.sc (.int .i64 1))), none⟩,
  ⟨(some 5), .move (.t 31), none⟩]
def m18_l6 : MCode := (.seq (.seq (.ops m18_r7) (.cond (.t 29) .skip (.exit 0))) (.seq (.block 1 (.draw m18_r8)) (.ops m18_r9)))
def m18_code : MCode := (.seq (.ops m18_r0) (.seq (.seq (.ops m18_r1) (.draw m18_r2)) (.seq (.seq (.ops m18_r3) (.cond (.t 15) (.seq (.ops m18_r4) .ret) .skip)) (.seq (.ops m18_r5) (.block 0 (.loop m18_l6))))))
def m18 : MFunc := ⟨41, [], m18_code⟩

def m19_r0 : List MI := [
  ⟨(some 3), .box 37 (.t 1), none⟩]
def m19_r1 : List MI := [
  ⟨(some 5), .build [.int .i32 0, .int .u8 0, .int .u16 0, .int .u8 0, .int .u32 0, .int .u8 0, .int .u32 0] [(0, 1, (.k (.sc (.int .i32 9472))))], none⟩,
  ⟨(some 4), .alloc 34 [.int .i32 0, .int .u8 0, .int .u16 0, .int .u8 0, .int .u32 0, .int .u8 0, .int .u32 0], none⟩,
  ⟨none, .store 7 (.t 4) (.t 5), none⟩]
def m19_r2 : List MI := [
  ⟨(some 6), .fieldAddr 2 (.t 3), none⟩,
  ⟨(some 7), .load none (.t 6), none⟩,
  ⟨(some 8), .bin .eql .no (.t 7) (.k (.sc (.int .i64 1))), none⟩]
def m19_r3 : List MI := [
  ⟨(some 9), .fieldAddr 0 (.t 4), none⟩,
  ⟨none, .store 1 (.t 9) (.k (.sc (.int .i32 9474))), none⟩]
def m19_r4 : List DI := [
  ⟨⟨(some 10), .move (.t 0), none⟩, 0, [], [6]⟩,
  ⟨⟨(some 11), .load (some 4) (.t 3), none⟩, 1, [], []⟩,
  ⟨⟨(some 12), .move (.t 0), none⟩, 0, [], []⟩,
  ⟨⟨(some 13), .nilCheck (.t 12), none⟩, 0, [], []⟩,
  ⟨⟨(some 14), .fieldAddr 0 (.t 13), none⟩, 0, [], []⟩,
  ⟨⟨(some 15), .load (some 4) (.t 14), none⟩, 1, [], []⟩,
  ⟨⟨(some 16), .call 13 [(.t 11), (.t 15)], none⟩, 2, [], []⟩,
  ⟨⟨(some 17), .load (some 7) (.t 4), none⟩, 1, [6], []⟩,
  ⟨⟨(some 18), .call 35 [(.t 10), (.t 16), (.t 17)], none⟩, 2, [], []⟩]
def m19_code : MCode := (.seq (.ops m19_r0) (.seq (.ops m19_r1) (.seq (.seq (.ops m19_r2) (.cond (.t 8) (.ops m19_r3) .skip)) (.draw m19_r4))))
def m19 : MFunc := ⟨19, [], m19_code⟩

def m20_r0 : List MI := [
  ⟨(some 4), .move (.k (.sc (.nils))), none⟩]
def m20_r1 : List MI := [
  ⟨(some 8), .build [.int .u16 0, .int .u8 0, .int .u32 0, .int .u8 0, .int .u32 0] [(0, 1, (.k (.sc (.int .u16 32))))], none⟩,
  ⟨(some 5), .alloc 32 [.int .u16 0, .int .u8 0, .int .u32 0, .int .u8 0, .int .u32 0], none⟩,
  ⟨none, .store 5 (.t 5) (.t 8), none⟩]
def m20_r2 : List MI := [
  ⟨(some 9), .move (.t 1), none⟩,
  ⟨(some 10), .load (some 5) (.t 5), none⟩,
  ⟨(some 11), .call 17 [(.t 9), (.t 10)], none⟩,
  ⟨(some 6), .move (.t 11), none⟩]
def m20_r3 : List MI := [
  ⟨(some 12), .move (.t 0), none⟩,
  ⟨(some 13), .lenStr (.t 12), none⟩,
  ⟨(some 14), .move (.t 1), none⟩,
  ⟨(some 15), .min [(.t 13), (.t 14)], none⟩,
  ⟨(some 16), .move (.k (.sc (.int .i64 0))), none⟩]
def m20_r5 : List MI := [
  ⟨(some 17), .bin .lss .no (.t 16) (.t 15), none⟩]
def m20_r6 : List MI := [
  ⟨(some 18), .move (.t 16), none⟩,
  ⟨(some 7), .move (.t 18), none⟩]
def m20_r7 : List MI := [
  ⟨(some 19), .move (.t 6), none⟩,
  ⟨(some 20), .move (.t 7), none⟩,
  ⟨(some 21), .indexSlice 7 (.t 19) (.t 20), none⟩,
  ⟨(some 22), .fieldAddr 0 (.t 21), none⟩,
  ⟨none, .store 1 (.t 22) (.k (.sc (.int .i32 63))), none⟩]
def m20_r8 : List MI := [
  ⟨(some 23), .move (.t 0), none⟩,
  ⟨(some 24), .move (.t 7), none⟩,
  ⟨(some 25), .idxStr (.t 23) (.t 24), none⟩,
  ⟨(some 26), .bin .geq .no (.t 25) (.k (.sc (.int .u8 32))), none⟩,
  ⟨(some 27), .move (.t 26), none⟩,
  ⟨(some 28), .move (.t 0), (some (27, true))⟩,
  ⟨(some 29), .move (.t 7), (some (27, true))⟩,
  ⟨(some 30), .idxStr (.t 28) (.t 29), (some (27, true))⟩,
  ⟨(some 31), .bin .leq .no (.t 30) (.k (.sc (.int .u8 126))), (some (27, true))⟩,
  ⟨(some 32), .pick (.t 27) (.t 31) (.k (.sc (.bool false))), none⟩]
def m20_r9 : List MI := [
  ⟨(some 33), .move (.t 6), none⟩,
  ⟨(some 34), .move (.t 7), none⟩,
  ⟨(some 35), .move (.t 0), none⟩,
  ⟨(some 36), .move (.t 7), none⟩,
  ⟨(some 37), .idxStr (.t 35) (.t 36), none⟩,
  ⟨(some 38), .conv (.int .i32) (.t 37), none⟩,
  ⟨(some 39), .indexSlice 7 (.t 33) (.t 34), none⟩,
  ⟨(some 40), .fieldAddr 0 (.t 39), none⟩,
  ⟨none, .store 1 (.t 40) (.t 38), none⟩]
def m20_r10 : List MI := [
  ⟨(some 41), .bin .add .no (.t 16) (.k (.sc (.int .i64 1))), none⟩,
  ⟨(some 16), .move (.t 41), none⟩]
def m20_l4 : MCode := (.seq (.ops m20_r5) (.seq (.cond (.t 17) .skip (.exit 0)) (.seq (.block 1 (.seq (.ops m20_r6) (.seq (.ops m20_r7) (.seq (.ops m20_r8) (.cond (.t 32) (.ops m20_r9) .skip))))) (.ops m20_r10))))
def m20_r11 : List MI := [
  ⟨(some 42), .move (.t 6), none⟩,
  ⟨(some 4), .move (.t 42), none⟩]
def m20_code : MCode := (.seq (.ops m20_r0) (.seq (.ops m20_r1) (.seq (.ops m20_r2) (.seq (.seq (.ops m20_r3) (.block 0 (.loop m20_l4))) (.seq (.ops m20_r11) .ret)))))
def m20 : MFunc := ⟨43, [.tmp 4], m20_code⟩

def m21_r0 : List MI := [
  ⟨(some 2), .move (.k (.sc (.nils))), none⟩]
def m21_r1 : List MI := [
  ⟨(some 3), .move (.t 0), none⟩,
  ⟨(some 4), .bin .eql .slice (.t 3) (.k (.sc (.nils))), none⟩]
def m21_r2 : List MI := [
  ⟨(some 2), .move (.k (.sc (.nils))), none⟩]
def m21_r3 : List MI := [
  ⟨(some 5), .buildSlice 34 7 0 [.int .i32 0, .int .u8 0, .int .u16 0, .int .u8 0, .int .u32 0, .int .u8 0, .int .u32 0] [], none⟩,
  ⟨(some 6), .move (.t 0), none⟩,
  ⟨(some 7), .append 34 7 28 [.int .i32 0, .int .u8 0, .int .u16 0, .int .u8 0, .int .u32 0, .int .u8 0, .int .u32 0] (.t 5) (.t 6), none⟩,
  ⟨(some 2), .move (.t 7), none⟩]
def m21_code : MCode := (.seq (.ops m21_r0) (.seq (.seq (.ops m21_r1) (.cond (.t 4) (.seq (.ops m21_r2) .ret) .skip)) (.seq (.ops m21_r3) .ret)))
def m21 : MFunc := ⟨8, [.tmp 2], m21_code⟩

def m22_r0 : List MI := [
  ⟨(some 2), .move (.k (.sc (.int .i64 0))), none⟩]
def m22_r1 : List MI := [
  ⟨(some 3), .move (.k (.sc (.int .i64 0))), none⟩,
  ⟨(some 4), .move (.k (.sc (.int .i64 26))), none⟩]
def m22_r3 : List MI := [
  ⟨(some 6), .move (.t 3), none⟩,
  ⟨(some 7), .move (.t 4), none⟩,
  ⟨(some 8), .bin .lss .no (.t 6) (.t 7), none⟩]
def m22_r4 : List MI := [
  ⟨(some 9), .move (.t 3), none⟩,
  ⟨(some 10), .move (.t 4), none⟩,
  ⟨(some 11), .bin .add .no (.t 9) (.t 10), none⟩,
  ⟨(some 12), .bin .quo .no (.t 11) (.k (.sc (.int .i64 2))), none⟩,
  ⟨(some 5), .move (.t 12), none⟩]
def m22_r5 : List MI := [
  ⟨(some 14), .move (.t 0), none⟩,
  ⟨(some 15), .move (.t 5), none⟩,
  ⟨(some 16), .indexArr 26 2 (.k (.sc (.ptr 0 0))) (.t 15), none⟩,
  ⟨(some 17), .indexArr 2 1 (.t 16) (.k (.sc (.int .i64 0))), none⟩,
  ⟨(some 18), .load none (.t 17), none⟩,
  ⟨(some 19), .bin .lss .no (.t 14) (.t 18), none⟩,
  ⟨(some 13), .move (.t 19), none⟩]
def m22_r6 : List MI := [
  ⟨(some 20), .move (.t 5), none⟩,
  ⟨(some 4), .move (.t 20), none⟩]
def m22_r7 : List MI := [
  ⟨(some 22), .move (.t 0), none⟩,
  ⟨(some 23), .move (.t 5), none⟩,
  ⟨(some 24), .indexArr 26 2 (.k (.sc (.ptr 0 0))) (.t 23), none⟩,
  ⟨(some 25), .indexArr 2 1 (.t 24) (.k (.sc (.int .i64 1))), none⟩,
  ⟨(some 26), .load none (.t 25), none⟩,
  ⟨(some 27), .bin .gtr .no (.t 22) (.t 26), none⟩,
  ⟨(some 21), .move (.t 27), none⟩]
def m22_r8 : List MI := [
  ⟨(some 28), .move (.t 5), none⟩,
  ⟨(some 29), .bin .add .no (.t 28) (.k (.sc (.int .i64 1))), none⟩,
  ⟨(some 3), .move (.t 29), none⟩]
def m22_r9 : List MI := [
  ⟨(some 31), .move (.t 5), none⟩,
  ⟨(some 32), .bin .shr .no (.k (.sc (.int .i64 33948543))) (.t 31), none⟩,
  ⟨(some 33), .bin .and .no (.t 32) (.k (.sc (.int .i64 1))), none⟩,
  ⟨(some 34), .bin .eql .no (.t 33) (.k (.sc (.int .i64 1))), none⟩,
  ⟨(some 30), .move (.t 34), none⟩]
def m22_r10 : List MI := [
  ⟨(some 2), .move (.k (.sc (.int .i64 0))), none⟩]
def m22_r11 : List MI := [
  ⟨(some 2), .move (.k (.sc (.int .i64 2))), none⟩]
def m22_l2 : MCode := (.seq (.seq (.ops m22_r3) (.cond (.t 8) .skip (.exit 0))) (.block 1 (.seq (.ops m22_r4) (.block 2 (.seq (.ops m22_r5) (.cond (.t 13) (.ops m22_r6) (.seq (.ops m22_r7) (.cond (.t 21) (.ops m22_r8) (.seq (.ops m22_r9) (.cond (.t 30) (.seq (.ops m22_r10) .ret) (.seq (.ops m22_r11) .ret)))))))))))
def m22_r12 : List MI := [
  ⟨(some 2), .move (.k (.sc (.int .i64 1))), none⟩]
def m22_code : MCode := (.seq (.ops m22_r0) (.seq (.ops m22_r1) (.seq (.block 0 (.loop m22_l2)) (.seq (.ops m22_r12) .ret))))
def m22 : MFunc := ⟨35, [.tmp 2], m22_code⟩

def m23_r0 : List MI := [
  ⟨(some 2), .move (.k (.sc (.bool false))), none⟩]
def m23_r1 : List MI := [
  ⟨(some 4), .move (.t 0), none⟩,
  ⟨(some 5), .bin .leq .no (.k (.sc (.int .i32 0))) (.t 4), none⟩,
  ⟨(some 6), .move (.t 5), none⟩,
  ⟨(some 7), .move (.t 0), (some (6, true))⟩,
  ⟨(some 8), .bin .lss .no (.t 7) (.k (.sc (.int .i32 55296))), (some (6, true))⟩,
  ⟨(some 9), .pick (.t 6) (.t 8) (.k (.sc (.bool false))), none⟩,
  ⟨(some 3), .move (.t 9), none⟩]
def m23_r2 : List MI := [
  ⟨(some 2), .move (.k (.sc (.bool true))), none⟩]
def m23_r3 : List MI := [
  ⟨(some 11), .move (.t 0), none⟩,
  ⟨(some 12), .bin .lss .no (.k (.sc (.int .i32 57343))) (.t 11), none⟩,
  ⟨(some 13), .move (.t 12), none⟩,
  ⟨(some 14), .move (.t 0), (some (13, true))⟩,
  ⟨(some 15), .bin .leq .no (.t 14) (.k (.sc (.int .i32 1114111))), (some (13, true))⟩,
  ⟨(some 16), .pick (.t 13) (.t 15) (.k (.sc (.bool false))), none⟩,
  ⟨(some 10), .move (.t 16), none⟩]
def m23_r4 : List MI := [
  ⟨(some 2), .move (.k (.sc (.bool true))), none⟩]
def m23_r5 : List MI := [
  ⟨(some 2), .move (.k (.sc (.bool false))), none⟩]
def m23_code : MCode := (.seq (.ops m23_r0) (.seq (.block 0 (.seq (.ops m23_r1) (.cond (.t 3) (.seq (.ops m23_r2) .ret) (.seq (.ops m23_r3) (.cond (.t 10) (.seq (.ops m23_r4) .ret) .skip))))) (.seq (.ops m23_r5) .ret)))
def m23 : MFunc := ⟨17, [.tmp 2], m23_code⟩

def m24_r0 : List MI := [
  ⟨(some 4), .move (.k (.sc (.bool false))), none⟩]
def m24_r1 : List MI := [
  ⟨(some 6), .move (.t 1), none⟩,
  ⟨(some 7), .bin .lss .no (.t 6) (.k (.sc (.int .i64 0))), none⟩,
  ⟨(some 8), .move (.t 7), none⟩,
  ⟨(some 9), .move (.t 1), (some (8, false))⟩,
  ⟨(some 10), .bin .add .no (.t 9) (.k (.sc (.int .i64 1))), (some (8, false))⟩,
  ⟨(some 11), .move (.t 0), (some (8, false))⟩,
  ⟨(some 12), .lenSlice (.t 11), (some (8, false))⟩,
  ⟨(some 13), .bin .geq .no (.t 10) (.t 12), (some (8, false))⟩,
  ⟨(some 14), .pick (.t 8) (.k (.sc (.bool true))) (.t 13), none⟩,
  ⟨(some 15), .move (.t 14), none⟩,
  ⟨(some 16), .move (.t 0), (some (15, false))⟩,
  ⟨(some 17), .move (.t 1), (some (15, false))⟩,
  ⟨(some 18), .indexSlice 7 (.t 16) (.t 17), (some (15, false))⟩,
  ⟨(some 19), .fieldAddr 1 (.t 18), (some (15, false))⟩,
  ⟨(some 20), .load none (.t 19), (some (15, false))⟩,
  ⟨(some 21), .bin .neq .no (.t 20) (.k (.sc (.int .u8 1))), (some (15, false))⟩,
  ⟨(some 22), .pick (.t 15) (.k (.sc (.bool true))) (.t 21), none⟩,
  ⟨(some 23), .move (.t 22), none⟩,
  ⟨(some 24), .move (.t 0), (some (23, false))⟩,
  ⟨(some 25), .move (.t 1), (some (23, false))⟩,
  ⟨(some 26), .indexSlice 7 (.t 24) (.t 25), (some (23, false))⟩,
  ⟨(some 27), .fieldAddr 0 (.t 26), (some (23, false))⟩,
  ⟨(some 28), .load none (.t 27), (some (23, false))⟩,
  ⟨(some 29), .call 22 [(.t 28)], (some (23, false))⟩,
  ⟨(some 30), .bin .neq .no (.t 29) (.k (.sc (.int .i64 2))), (some (23, false))⟩,
  ⟨(some 31), .pick (.t 23) (.k (.sc (.bool true))) (.t 30), none⟩]
def m24_r2 : List MI := [
  ⟨(some 4), .move (.k (.sc (.bool false))), none⟩]
def m24_r3 : List MI := [
  ⟨(some 32), .move (.t 0), none⟩,
  ⟨(some 33), .move (.t 1), none⟩,
  ⟨(some 34), .indexSlice 7 (.t 32) (.t 33), none⟩,
  ⟨(some 35), .load (some 7) (.t 34), none⟩,
  ⟨(some 5), .alloc 34 [.int .i32 0, .int .u8 0, .int .u16 0, .int .u8 0, .int .u32 0, .int .u8 0, .int .u32 0], none⟩,
  ⟨none, .store 7 (.t 5) (.t 35), none⟩]
def m24_r4 : List MI := [
  ⟨(some 36), .fieldAddr 1 (.t 5), none⟩,
  ⟨none, .store 1 (.t 36) (.k (.sc (.int .u8 2))), none⟩]
def m24_r5 : List DI := [
  ⟨⟨(some 37), .move (.t 0), none⟩, 0, [], []⟩,
  ⟨⟨(some 38), .move (.t 1), none⟩, 0, [], []⟩,
  ⟨⟨(some 39), .bin .add .no (.t 38) (.k (.sc (.int .i64 1))), none⟩, 0, [], []⟩,
  ⟨⟨(some 40), .indexSlice 7 (.t 37) (.t 39), none⟩, 0, [], []⟩,
  ⟨⟨(some 41), .load (some 7) (.t 40), none⟩, 1, [], []⟩,
  ⟨⟨(some 42), .load (some 7) (.t 5), none⟩, 1, [], []⟩,
  ⟨⟨(some 43), .bin .eql (.agg [.int .i32, .int .u8, .int .u16, .int .u8, .int .u32, .int .u8, .int .u32]) (.t 41) (.t 42), none⟩, 0, [], []⟩,
  ⟨⟨(some 4), .move (.t 43), none⟩, 0, [], []⟩]
def m24_code : MCode := (.seq (.ops m24_r0) (.seq (.seq (.ops m24_r1) (.cond (.t 31) (.seq (.ops m24_r2) .ret) .skip)) (.seq (.ops m24_r3) (.seq (.ops m24_r4) (.seq (.draw m24_r5) .ret)))))
def m24 : MFunc := ⟨44, [.tmp 4], m24_code⟩

def m25_r0 : List MI := [
  ⟨(some 1), .box 32 (.t 0), none⟩,
  ⟨(some 2), .move (.k (.sc (.bool false))), none⟩]
def m25_r1 : List MI := [
  ⟨(some 3), .fieldAddr 0 (.t 1), none⟩,
  ⟨(some 4), .load none (.t 3), none⟩,
  ⟨(some 5), .bin .leq .no (.t 4) (.k (.sc (.int .u16 255))), none⟩,
  ⟨(some 6), .move (.t 5), none⟩,
  ⟨(some 7), .fieldAddr 1 (.t 1), (some (6, true))⟩,
  ⟨(some 8), .load (some 2) (.t 7), (some (6, true))⟩,
  ⟨(some 9), .call 38 [(.t 8)], (some (6, true))⟩,
  ⟨(some 10), .pick (.t 6) (.t 9) (.k (.sc (.bool false))), none⟩,
  ⟨(some 11), .move (.t 10), none⟩,
  ⟨(some 12), .fieldAddr 3 (.t 1), (some (11, true))⟩,
  ⟨(some 13), .load (some 2) (.t 12), (some (11, true))⟩,
  ⟨(some 14), .call 38 [(.t 13)], (some (11, true))⟩,
  ⟨(some 15), .pick (.t 11) (.t 14) (.k (.sc (.bool false))), none⟩,
  ⟨(some 2), .move (.t 15), none⟩]
def m25_code : MCode := (.seq (.ops m25_r0) (.seq (.ops m25_r1) .ret))
def m25 : MFunc := ⟨16, [.tmp 2], m25_code⟩

def m26_r0 : List MI := [
  ⟨(some 2), .move (.k (.sc (.bool false))), none⟩]
def m26_r1 : List MI := [
  ⟨(some 3), .move (.t 0), none⟩,
  ⟨(some 4), .bin .geq .no (.t 3) (.k (.sc (.int .i32 0))), none⟩,
  ⟨(some 5), .move (.t 4), none⟩,
  ⟨(some 6), .move (.t 0), (some (5, true))⟩,
  ⟨(some 7), .bin .leq .no (.t 6) (.k (.sc (.int .i32 1114111))), (some (5, true))⟩,
  ⟨(some 8), .pick (.t 5) (.t 7) (.k (.sc (.bool false))), none⟩,
  ⟨(some 9), .move (.t 8), none⟩,
  ⟨(some 10), .move (.t 0), (some (9, true))⟩,
  ⟨(some 11), .bin .lss .no (.t 10) (.k (.sc (.int .i32 55296))), (some (9, true))⟩,
  ⟨(some 12), .move (.t 11), (some (9, true))⟩,
  ⟨(some 13), .move (.t 0), (some (12, false))⟩,
  ⟨(some 14), .bin .gtr .no (.t 13) (.k (.sc (.int .i32 57343))), (some (12, false))⟩,
  ⟨(some 15), .pick (.t 12) (.k (.sc (.bool true))) (.t 14), (some (9, true))⟩,
  ⟨(some 16), .pick (.t 9) (.t 15) (.k (.sc (.bool false))), none⟩,
  ⟨(some 2), .move (.t 16), none⟩]
def m26_code : MCode := (.seq (.ops m26_r0) (.seq (.ops m26_r1) .ret))
def m26 : MFunc := ⟨17, [.tmp 2], m26_code⟩

def m27_r0 : List MI := [
  ⟨(some 2), .move (.k (.sc (.int .i64 0))), none⟩]
def m27_r1 : List MI := [
  ⟨(some 5), .build [.int .i32 0, .int .i32 0, .int .i32 0] [(0, 1, (.k (.sc (.int .i32 0)))), (1, 1, (.k (.sc (.int .i32 31)))), (2, 1, (.k (.sc (.int .i32 0))))], none⟩,
  ⟨(some 6), .build [.int .i32 0, .int .i32 0, .int .i32 0] [(0, 1, (.k (.sc (.int .i32 127)))), (1, 1, (.k (.sc (.int .i32 159)))), (2, 1, (.k (.sc (.int .i32 0))))], none⟩,
  ⟨(some 7), .build [.int .i32 0, .int .i32 0, .int .i32 0] [(0, 1, (.k (.sc (.int .i32 768)))), (1, 1, (.k (.sc (.int .i32 879)))), (2, 1, (.k (.sc (.int .i32 0))))], none⟩,
  ⟨(some 8), .build [.int .i32 0, .int .i32 0, .int .i32 0] [(0, 1, (.k (.sc (.int .i32 1155)))), (1, 1, (.k (.sc (.int .i32 1161)))), (2, 1, (.k (.sc (.int .i32 0))))], none⟩,
  ⟨(some 9), .build [.int .i32 0, .int .i32 0, .int .i32 0] [(0, 1, (.k (.sc (.int .i32 1425)))), (1, 1, (.k (.sc (.int .i32 1469)))), (2, 1, (.k (.sc (.int .i32 0))))], none⟩,
  ⟨(some 10), .build [.int .i32 0, .int .i32 0, .int .i32 0] [(0, 1, (.k (.sc (.int .i32 1552)))), (1, 1, (.k (.sc (.int .i32 1562)))), (2, 1, (.k (.sc (.int .i32 0))))], none⟩,
  ⟨(some 11), .build [.int .i32 0, .int .i32 0, .int .i32 0] [(0, 1, (.k (.sc (.int .i32 1611)))), (1, 1, (.k (.sc (.int .i32 1631)))), (2, 1, (.k (.sc (.int .i32 0))))], none⟩,
  ⟨(some 12), .build [.int .i32 0, .int .i32 0, .int .i32 0] [(0, 1, (.k (.sc (.int .i32 8203)))), (1, 1, (.k (.sc (.int .i32 8207)))), (2, 1, (.k (.sc (.int .i32 0))))], none⟩,
  ⟨(some 13), .build [.int .i32 0, .int .i32 0, .int .i32 0] [(0, 1, (.k (.sc (.int .i32 8400)))), (1, 1, (.k (.sc (.int .i32 8447)))), (2, 1, (.k (.sc (.int .i32 0))))], none⟩,
  ⟨(some 14), .build [.int .i32 0, .int .i32 0, .int .i32 0] [(0, 1, (.k (.sc (.int .i32 65024)))), (1, 1, (.k (.sc (.int .i32 65039)))), (2, 1, (.k (.sc (.int .i32 0))))], none⟩,
  ⟨(some 15), .build [.int .i32 0, .int .i32 0, .int .i32 0] [(0, 1, (.k (.sc (.int .i32 65056)))), (1, 1, (.k (.sc (.int .i32 65071)))), (2, 1, (.k (.sc (.int .i32 0))))], none⟩,
  ⟨(some 16), .build [.int .i32 0, .int .i32 0, .int .i32 0] [(0, 1, (.k (.sc (.int .i32 917760)))), (1, 1, (.k (.sc (.int .i32 917999)))), (2, 1, (.k (.sc (.int .i32 0))))], none⟩,
  ⟨(some 17), .build [.int .i32 0, .int .i32 0, .int .i32 0] [(0, 1, (.k (.sc (.int .i32 4352)))), (1, 1, (.k (.sc (.int .i32 4447)))), (2, 1, (.k (.sc (.int .i32 2))))], none⟩,
  ⟨(some 18), .build [.int .i32 0, .int .i32 0, .int .i32 0] [(0, 1, (.k (.sc (.int .i32 11904)))), (1, 1, (.k (.sc (.int .i32 12350)))), (2, 1, (.k (.sc (.int .i32 2))))], none⟩,
  ⟨(some 19), .build [.int .i32 0, .int .i32 0, .int .i32 0] [(0, 1, (.k (.sc (.int .i32 12353)))), (1, 1, (.k (.sc (.int .i32 13311)))), (2, 1, (.k (.sc (.int .i32 2))))], none⟩,
  ⟨(some 20), .build [.int .i32 0, .int .i32 0, .int .i32 0] [(0, 1, (.k (.sc (.int .i32 13312)))), (1, 1, (.k (.sc (.int .i32 19903)))), (2, 1, (.k (.sc (.int .i32 2))))], none⟩,
  ⟨(some 21), .build [.int .i32 0, .int .i32 0, .int .i32 0] [(0, 1, (.k (.sc (.int .i32 19968)))), (1, 1, (.k (.sc (.int .i32 40959)))), (2, 1, (.k (.sc (.int .i32 2))))], none⟩,
  ⟨(some 22), .build [.int .i32 0, .int .i32 0, .int .i32 0] [(0, 1, (.k (.sc (.int .i32 40960)))), (1, 1, (.k (.sc (.int .i32 42191)))), (2, 1, (.k (.sc (.int .i32 2))))], none⟩,
  ⟨(some 23), .build [.int .i32 0, .int .i32 0, .int .i32 0] [(0, 1, (.k (.sc (.int .i32 44032)))), (1, 1, (.k (.sc (.int .i32 55203)))), (2, 1, (.k (.sc (.int .i32 2))))], none⟩,
  ⟨(some 24), .build [.int .i32 0, .int .i32 0, .int .i32 0] [(0, 1, (.k (.sc (.int .i32 63744)))), (1, 1, (.k (.sc (.int .i32 64255)))), (2, 1, (.k (.sc (.int .i32 2))))], none⟩,
  ⟨(some 25), .build [.int .i32 0, .int .i32 0, .int .i32 0] [(0, 1, (.k (.sc (.int .i32 65072)))), (1, 1, (.k (.sc (.int .i32 65135)))), (2, 1, (.k (.sc (.int .i32 2))))], none⟩,
  ⟨(some 26), .build [.int .i32 0, .int .i32 0, .int .i32 0] [(0, 1, (.k (.sc (.int .i32 65280)))), (1, 1, (.k (.sc (.int .i32 65376)))), (2, 1, (.k (.sc (.int .i32 2))))], none⟩,
  ⟨(some 27), .build [.int .i32 0, .int .i32 0, .int .i32 0] [(0, 1, (.k (.sc (.int .i32 65504)))), (1, 1, (.k (.sc (.int .i32 65510)))), (2, 1, (.k (.sc (.int .i32 2))))], none⟩,
  ⟨(some 28), .build [.int .i32 0, .int .i32 0, .int .i32 0] [(0, 1, (.k (.sc (.int .i32 127744)))), (1, 1, (.k (.sc (.int .i32 128591)))), (2, 1, (.k (.sc (.int .i32 2))))], none⟩,
  ⟨(some 29), .build [.int .i32 0, .int .i32 0, .int .i32 0] [(0, 1, (.k (.sc (.int .i32 129280)))), (1, 1, (.k (.sc (.int .i32 129535)))), (2, 1, (.k (.sc (.int .i32 2))))], none⟩,
  ⟨(some 30), .build [.int .i32 0, .int .i32 0, .int .i32 0] [(0, 1, (.k (.sc (.int .i32 131072)))), (1, 1, (.k (.sc (.int .i32 262141)))), (2, 1, (.k (.sc (.int .i32 2))))], none⟩,
  ⟨(some 31), .buildSlice 77 3 26 [.int .i32 0, .int .i32 0, .int .i32 0] [(0, 3, (.t 5)), (3, 3, (.t 6)), (6, 3, (.t 7)), (9, 3, (.t 8)), (12, 3, (.t 9)), (15, 3, (.t 10)), (18, 3, (.t 11)), (21, 3, (.t 12)), (24, 3, (.t 13)), (27, 3, (.t 14)), (30, 3, (.t 15)), (33, 3, (.t 16)), (36, 3, (.t 17)), (39, 3, (.t 18)), (42, 3, (.t 19)), (45, 3, (.t 20)), (48, 3, (.t 21)), (51, 3, (.t 22)), (54, 3, (.t 23)), (57, 3, (.t 24)), (60, 3, (.t 25)), (63, 3, (.t 26)), (66, 3, (.t 27)), (69, 3, (.t 28)), (72, 3, (.t 29)), (75, 3, (.t 30))], none⟩,
  ⟨(some 3), .move (.t 31), none⟩]
def m27_r2 : List MI := [
  ⟨(some 4), .move (.k (.sc (.int .i64 0))), none⟩]
def m27_r4 : List MI := [
  ⟨(some 32), .move (.t 4), none⟩,
  ⟨(some 33), .move (.t 3), none⟩,
  ⟨(some 34), .lenSlice (.t 33), none⟩,
  ⟨(some 35), .bin .lss .no (.t 32) (.t 34), none⟩]
def m27_r5 : List MI := [
  ⟨(some 38), .move (.t 0), none⟩,
  ⟨(some 39), .move (.t 3), none⟩,
  ⟨(some 40), .move (.t 4), none⟩,
  ⟨(some 41), .indexSlice 3 (.t 39) (.t 40), none⟩,
  ⟨(some 42), .indexArr 3 1 (.t 41) (.k (.sc (.int .i64 0))), none⟩,
  ⟨(some 43), .load none (.t 42), none⟩,
  ⟨(some 44), .bin .geq .no (.t 38) (.t 43), none⟩,
  ⟨(some 45), .move (.t 44), none⟩,
  ⟨(some 46), .move (.t 0), (some (45, true))⟩,
  ⟨(some 47), .move (.t 3), (some (45, true))⟩,
  ⟨(some 48), .move (.t 4), (some (45, true))⟩,
  ⟨(some 49), .indexSlice 3 (.t 47) (.t 48), (some (45, true))⟩,
  ⟨(some 50), .indexArr 3 1 (.t 49) (.k (.sc (.int .i64 1))), (some (45, true))⟩,
  ⟨(some 51), .load none (.t 50), (some (45, true))⟩,
  ⟨(some 52), .bin .leq .no (.t 46) (.t 51), (some (45, true))⟩,
  ⟨(some 53), .pick (.t 45) (.t 52) (.k (.sc (.bool false))), none⟩]
def m27_r6 : List MI := [
  ⟨(some 54), .move (.t 3), none⟩,
  ⟨(some 55), .move (.t 4), none⟩,
  ⟨(some 56), .indexSlice 3 (.t 54) (.t 55), none⟩,
  ⟨(some 57), .indexArr 3 1 (.t 56) (.k (.sc (.int .i64 2))), none⟩,
  ⟨(some 58), .load none (.t 57), none⟩,
  ⟨(some 59), .conv (.int .i64) (.t 58), none⟩,
  ⟨(some 2), .move (.t 59), none⟩]
def m27_r7 : List MI := [
  ⟨(some 36), .move (.t 4), none⟩,
  ⟨(some 37), .bin .add .no (.t 36) (.k (.sc (.int .i64 1))), none⟩,
  ⟨(some 4), .move (.t 37), none⟩]
def m27_l3 : MCode := (.seq (.seq (.ops m27_r4) (.cond (.t 35) .skip (.exit 0))) (.seq (.block 1 (.seq (.ops m27_r5) (.cond (.t 53) (.seq (.ops m27_r6) .ret) .skip))) (.ops m27_r7)))
def m27_r8 : List MI := [
  ⟨(some 2), .move (.k (.sc (.int .i64 1))), none⟩]
def m27_code : MCode := (.seq (.ops m27_r0) (.seq (.ops m27_r1) (.seq (.seq (.ops m27_r2) (.block 0 (.loop m27_l3))) (.seq (.ops m27_r8) .ret))))
def m27 : MFunc := ⟨60, [.tmp 2], m27_code⟩

def m28_r0 : List MI := [
  ⟨(some 2), .box 34 (.t 0), none⟩,
  ⟨(some 3), .box 34 (.t 1), none⟩,
  ⟨(some 4), .move (.k (.sc (.bool false))), none⟩]
def m28_r1 : List MI := [
  ⟨(some 5), .fieldAddr 1 (.t 2), none⟩,
  ⟨(some 6), .load none (.t 5), none⟩,
  ⟨(some 7), .bin .eql .no (.t 6) (.k (.sc (.int .u8 1))), none⟩,
  ⟨(some 8), .move (.t 7), none⟩,
  ⟨(some 9), .fieldAddr 1 (.t 3), (some (8, true))⟩,
  ⟨(some 10), .load none (.t 9), (some (8, true))⟩,
  ⟨(some 11), .bin .eql .no (.t 10) (.k (.sc (.int .u8 2))), (some (8, true))⟩,
  ⟨(some 12), .pick (.t 8) (.t 11) (.k (.sc (.bool false))), none⟩,
  ⟨(some 13), .move (.t 12), none⟩,
  ⟨(some 14), .fieldAddr 0 (.t 2), (some (13, true))⟩,
  ⟨(some 15), .load none (.t 14), (some (13, true))⟩,
  ⟨(some 16), .call 26 [(.t 15)], (some (13, true))⟩,
  ⟨(some 17), .pick (.t 13) (.t 16) (.k (.sc (.bool false))), none⟩,
  ⟨(some 18), .move (.t 17), none⟩,
  ⟨(some 19), .fieldAddr 0 (.t 2), (some (18, true))⟩,
  ⟨(some 20), .load none (.t 19), (some (18, true))⟩,
  ⟨(some 21), .call 27 [(.t 20)], (some (18, true))⟩,
  ⟨(some 22), .bin .eql .no (.t 21) (.k (.sc (.int .i64 2))), (some (18, true))⟩,
  ⟨(some 23), .pick (.t 18) (.t 22) (.k (.sc (.bool false))), none⟩,
  ⟨(some 24), .move (.t 23), none⟩,
  ⟨(some 25), .fieldAddr 0 (.t 2), (some (24, true))⟩,
  ⟨(some 26), .load none (.t 25), (some (24, true))⟩,
  ⟨(some 27), .fieldAddr 0 (.t 3), (some (24, true))⟩,
  ⟨(some 28), .load none (.t 27), (some (24, true))⟩,
  ⟨(some 29), .bin .eql .no (.t 26) (.t 28), (some (24, true))⟩,
  ⟨(some 30), .pick (.t 24) (.t 29) (.k (.sc (.bool false))), none⟩,
  ⟨(some 31), .move (.t 30), none⟩,
  ⟨(some 32), .fieldAddr 2 (.t 2), (some (31, true))⟩,
  ⟨(some 33), .load (some 5) (.t 32), (some (31, true))⟩,
  ⟨(some 34), .fieldAddr 2 (.t 3), (some (31, true))⟩,
  ⟨(some 35), .load (some 5) (.t 34), (some (31, true))⟩,
  ⟨(some 36), .bin .eql (.agg [.int .u16, .int .u8, .int .u32, .int .u8, .int .u32]) (.t 33) (.t 35), (some (31, true))⟩,
  ⟨(some 37), .pick (.t 31) (.t 36) (.k (.sc (.bool false))), none⟩,
  ⟨(some 4), .move (.t 37), none⟩]
def m28_code : MCode := (.seq (.ops m28_r0) (.seq (.ops m28_r1) .ret))
def m28 : MFunc := ⟨38, [.tmp 4], m28_code⟩

def m29_r0 : List MI := [
  ⟨(some 0), .alloc 34 [.int .i32 0, .int .u8 0, .int .u16 0, .int .u8 0, .int .u32 0, .int .u8 0, .int .u32 0], none⟩]
def m29_r1 : List MI := [
  ⟨(some 1), .build [.int .i32 0, .int .u8 0, .int .u16 0, .int .u8 0, .int .u32 0, .int .u8 0, .int .u32 0] [(0, 1, (.k (.sc (.int .i32 32))))], none⟩,
  ⟨none, .store 7 (.t 0) (.t 1), none⟩]
def m29_code : MCode := (.seq (.ops m29_r0) (.seq (.ops m29_r1) .ret))
def m29 : MFunc := ⟨2, [.cell 0 (some 7)], m29_code⟩

def m30_r0 : List MI := [
  ⟨(some 1), .box 32 (.t 0), none⟩,
  ⟨(some 2), .move (.k (.sc (.bool false))), none⟩]
def m30_r1 : List MI := [
  ⟨(some 3), .fieldAddr 0 (.t 1), none⟩,
  ⟨(some 4), .load none (.t 3), none⟩,
  ⟨(some 5), .bin .leq .no (.t 4) (.k (.sc (.int .u16 255))), none⟩,
  ⟨(some 6), .move (.t 5), none⟩,
  ⟨(some 7), .fieldAddr 1 (.t 1), (some (6, true))⟩,
  ⟨(some 8), .load (some 2) (.t 7), (some (6, true))⟩,
  ⟨(some 9), .call 39 [(.t 8)], (some (6, true))⟩,
  ⟨(some 10), .pick (.t 6) (.t 9) (.k (.sc (.bool false))), none⟩,
  ⟨(some 11), .move (.t 10), none⟩,
  ⟨(some 12), .fieldAddr 3 (.t 1), (some (11, true))⟩,
  ⟨(some 13), .load (some 2) (.t 12), (some (11, true))⟩,
  ⟨(some 14), .call 39 [(.t 13)], (some (11, true))⟩,
  ⟨(some 15), .pick (.t 11) (.t 14) (.k (.sc (.bool false))), none⟩,
  ⟨(some 2), .move (.t 15), none⟩]
def m30_code : MCode := (.seq (.ops m30_r0) (.seq (.ops m30_r1) .ret))
def m30 : MFunc := ⟨16, [.tmp 2], m30_code⟩

def m31_r0 : List MI := [
  ⟨(some 1), .box 37 (.t 0), none⟩,
  ⟨(some 2), .move (.k (.sc (.bool false))), none⟩]
def m31_r1 : List MI := [
  ⟨(some 5), .fieldAddr 0 (.t 1), none⟩,
  ⟨(some 6), .load none (.t 5), none⟩,
  ⟨(some 7), .fieldAddr 1 (.t 1), none⟩,
  ⟨(some 8), .load none (.t 7), none⟩,
  ⟨(some 9), .fieldAddr 2 (.t 1), none⟩,
  ⟨(some 10), .load none (.t 9), none⟩,
  ⟨(some 11), .fieldAddr 3 (.t 1), none⟩,
  ⟨(some 12), .load none (.t 11), none⟩,
  ⟨(some 13), .buildSlice 3 1 4 [.int .i64 0] [(0, 1, (.t 6)), (1, 1, (.t 8)), (2, 1, (.t 10)), (3, 1, (.t 12))], none⟩,
  ⟨(some 14), .lenSlice (.t 13), none⟩,
  ⟨(some 15), .move (.k (.sc (.int .i64 0))), none⟩]
def m31_r3 : List MI := [
  ⟨(some 16), .bin .lss .no (.t 15) (.t 14), none⟩]
def m31_r4 : List MI := [
  ⟨(some 17), .indexSlice 1 (.t 13) (.t 15), none⟩,
  ⟨(some 18), .load none (.t 17), none⟩,
  ⟨(some 4), .move (.t 18), none⟩]
def m31_r5 : List MI := [
  ⟨(some 19), .move (.t 4), none⟩,
  ⟨(some 20), .bin .gtr .no (.t 19) (.k (.sc (.int .i64 1099511627776))), none⟩,
  ⟨(some 21), .move (.t 20), none⟩,
  ⟨(some 22), .move (.t 4), (some (21, false))⟩,
  ⟨(some 23), .bin .lss .no (.t 22) (.k (.sc (.int .i64 (-1099511627776)))), (some (21, false))⟩,
  ⟨(some 24), .pick (.t 21) (.k (.sc (.bool true))) (.t 23), none⟩]
def m31_r6 : List MI := [
  ⟨(some 2), .move (.k (.sc (.bool true))), none⟩]
def m31_r7 : List MI := [
  ⟨(some 25), .bin .add .no (.t 15) (.k (.sc (.int .i64 1))), none⟩,
  ⟨(some 15), .move (.t 25), none⟩]
def m31_l2 : MCode := (.seq (.ops m31_r3) (.seq (.cond (.t 16) .skip (.exit 0)) (.seq (.block 1 (.seq (.ops m31_r4) (.seq (.ops m31_r5) (.cond (.t 24) (.seq (.ops m31_r6) .ret) .skip)))) (.ops m31_r7))))
def m31_r8 : List MI := [
  ⟨(some 2), .move (.k (.sc (.bool false))), none⟩]
def m31_code : MCode := (.seq (.ops m31_r0) (.seq (.seq (.ops m31_r1) (.block 0 (.loop m31_l2))) (.seq (.ops m31_r8) .ret)))
def m31 : MFunc := ⟨26, [.tmp 2], m31_code⟩

def m32_r0 : List MI := [
  ⟨(some 4), .move (.k (.sc (.int .i64 0))), none⟩]
def m32_r1 : List MI := [
  ⟨(some 5), .move (.t 1), none⟩,
  ⟨(some 6), .bin .gtr .no (.t 5) (.k (.sc (.int .i64 0))), none⟩,
  ⟨(some 7), .move (.t 6), none⟩,
  ⟨(some 8), .move (.t 0), (some (7, true))⟩,
  ⟨(some 9), .move (.t 1), (some (7, true))⟩,
  ⟨(some 10), .bin .sub .no (.k (.sc (.int .i64 9223372036854775807))) (.t 9), (some (7, true))⟩,
  ⟨(some 11), .bin .gtr .no (.t 8) (.t 10), (some (7, true))⟩,
  ⟨(some 12), .pick (.t 7) (.t 11) (.k (.sc (.bool false))), none⟩]
def m32_r2 : List MI := [
  ⟨(some 4), .move (.k (.sc (.int .i64 9223372036854775807))), none⟩]
def m32_r3 : List MI := [
  ⟨(some 13), .move (.t 0), none⟩,
  ⟨(some 14), .move (.t 1), none⟩,
  ⟨(some 15), .bin .add .no (.t 13) (.t 14), none⟩,
  ⟨(some 4), .move (.t 15), none⟩]
def m32_code : MCode := (.seq (.ops m32_r0) (.seq (.seq (.ops m32_r1) (.cond (.t 12) (.seq (.ops m32_r2) .ret) .skip)) (.seq (.ops m32_r3) .ret)))
def m32 : MFunc := ⟨16, [.tmp 4], m32_code⟩

def m33_r0 : List MI := [
  ⟨(some 2), .move (.k (.sc (.bool false))), none⟩]
def m33_r1 : List MI := [
  ⟨(some 3), .move (.k (.sc (.int .i64 0))), none⟩]
def m33_r3 : List MI := [
  ⟨(some 4), .move (.t 3), none⟩,
  ⟨(some 5), .move (.t 0), none⟩,
  ⟨(some 6), .lenSlice (.t 5), none⟩,
  ⟨(some 7), .bin .lss .no (.t 4) (.t 6), none⟩]
def m33_r4 : List MI := [
  ⟨(some 11), .move (.t 0), none⟩,
  ⟨(some 12), .move (.t 3), none⟩,
  ⟨(some 13), .indexSlice 7 (.t 11) (.t 12), none⟩,
  ⟨(some 14), .fieldAddr 1 (.t 13), none⟩,
  ⟨(some 15), .load none (.t 14), none⟩,
  ⟨(some 16), .bin .eql .no (.t 15) (.k (.sc (.int .u8 0))), none⟩,
  ⟨(some 10), .move (.t 16), none⟩]
def m33_r5 : List MI := [
  ⟨(some 18), .move (.t 0), none⟩,
  ⟨(some 19), .move (.t 3), none⟩,
  ⟨(some 20), .indexSlice 7 (.t 18) (.t 19), none⟩,
  ⟨(some 21), .fieldAddr 1 (.t 20), none⟩,
  ⟨(some 22), .load none (.t 21), none⟩,
  ⟨(some 23), .bin .eql .no (.t 22) (.k (.sc (.int .u8 1))), none⟩,
  ⟨(some 24), .move (.t 23), none⟩,
  ⟨(some 25), .move (.t 3), (some (24, true))⟩,
  ⟨(some 26), .bin .add .no (.t 25) (.k (.sc (.int .i64 1))), (some (24, true))⟩,
  ⟨(some 27), .move (.t 0), (some (24, true))⟩,
  ⟨(some 28), .lenSlice (.t 27), (some (24, true))⟩,
  ⟨(some 29), .bin .lss .no (.t 26) (.t 28), (some (24, true))⟩,
  ⟨(some 30), .pick (.t 24) (.t 29) (.k (.sc (.bool false))), none⟩,
  ⟨(some 31), .move (.t 30), none⟩,
  ⟨(some 32), .move (.t 0), (some (31, true))⟩,
  ⟨(some 33), .move (.t 3), (some (31, true))⟩,
  ⟨(some 34), .bin .add .no (.t 33) (.k (.sc (.int .i64 1))), (some (31, true))⟩,
  ⟨(some 35), .indexSlice 7 (.t 32) (.t 34), (some (31, true))⟩,
  ⟨(some 36), .fieldAddr 1 (.t 35), (some (31, true))⟩,
  ⟨(some 37), .load none (.t 36), (some (31, true))⟩,
  ⟨(some 38), .bin .eql .no (.t 37) (.k (.sc (.int .u8 2))), (some (31, true))⟩,
  ⟨(some 39), .pick (.t 31) (.t 38) (.k (.sc (.bool false))), none⟩,
  ⟨(some 17), .move (.t 39), none⟩]
def m33_r6 : List MI := [
  ⟨(some 40), .move (.t 3), none⟩,
  ⟨(some 41), .bin .add .no (.t 40) (.k (.sc (.int .i64 1))), none⟩,
  ⟨(some 3), .move (.t 41), none⟩]
def m33_r7 : List MI := [
  ⟨(some 2), .move (.k (.sc (.bool false))), none⟩]
def m33_r8 : List MI := [
  ⟨(some 8), .move (.t 3), none⟩,
  ⟨(some 9), .bin .add .no (.t 8) (.k (.sc (.int .i64 1))), none⟩,
  ⟨(some 3), .move (.t 9), none⟩]
def m33_l2 : MCode := (.seq (.seq (.ops m33_r3) (.cond (.t 7) .skip (.exit 0))) (.seq (.block 1 (.block 2 (.seq (.ops m33_r4) (.cond (.t 10) .skip (.seq (.ops m33_r5) (.cond (.t 17) (.ops m33_r6) (.seq (.ops m33_r7) .ret))))))) (.ops m33_r8)))
def m33_r9 : List MI := [
  ⟨(some 2), .move (.k (.sc (.bool true))), none⟩]
def m33_code : MCode := (.seq (.ops m33_r0) (.seq (.seq (.ops m33_r1) (.block 0 (.loop m33_l2))) (.seq (.ops m33_r9) .ret)))
def m33 : MFunc := ⟨42, [.tmp 2], m33_code⟩

def m34_r0 : List MI := [
  ⟨(some 3), .box 32 (.t 1), none⟩]
def m34_r1 : List MI := [
  ⟨(some 5), .move (.t 0), none⟩,
  ⟨(some 6), .lenSlice (.t 5), none⟩,
  ⟨(some 7), .move (.k (.sc (.int .i64 0))), none⟩]
def m34_r3 : List MI := [
  ⟨(some 8), .bin .lss .no (.t 7) (.t 6), none⟩]
def m34_r4 : List MI := [
  ⟨(some 9), .move (.t 7), none⟩,
  ⟨(some 4), .move (.t 9), none⟩]
def m34_r5 : List MI := [
  ⟨(some 10), .move (.t 0), none⟩,
  ⟨(some 11), .move (.t 4), none⟩,
  ⟨(some 12), .load (some 5) (.t 3), none⟩,
  ⟨(some 13), .call 40 [(.t 12)], none⟩,
  ⟨(some 14), .indexSlice 7 (.t 10) (.t 11), none⟩,
  ⟨none, .store 7 (.t 14) (.t 13), none⟩]
def m34_r6 : List MI := [
  ⟨(some 15), .bin .add .no (.t 7) (.k (.sc (.int .i64 1))), none⟩,
  ⟨(some 7), .move (.t 15), none⟩]
def m34_l2 : MCode := (.seq (.ops m34_r3) (.seq (.cond (.t 8) .skip (.exit 0)) (.seq (.block 1 (.seq (.ops m34_r4) (.ops m34_r5))) (.ops m34_r6))))
def m34_code : MCode := (.seq (.ops m34_r0) (.seq (.ops m34_r1) (.block 0 (.loop m34_l2))))
def m34 : MFunc := ⟨16, [], m34_code⟩

def m35_r0 : List MI := [
  ⟨(some 4), .box 37 (.t 1), none⟩,
  ⟨(some 5), .box 34 (.t 2), none⟩]
def m35_r1 : List MI := [
  ⟨(some 8), .load (some 7) (.t 5), none⟩,
  ⟨(some 9), .buildSlice 34 7 1 [.int .i32 0, .int .u8 0, .int .u16 0, .int .u8 0, .int .u32 0, .int .u8 0, .int .u32 0] [(0, 7, (.t 8))], none⟩,
  ⟨(some 10), .fieldAddr 2 (.t 4), none⟩,
  ⟨(some 11), .load none (.t 10), none⟩,
  ⟨(some 12), .call 41 [(.t 9), (.t 11)], none⟩,
  ⟨(some 6), .move (.t 12), none⟩]
def m35_r2 : List MI := [
  ⟨(some 13), .fieldAddr 1 (.t 4), none⟩,
  ⟨(some 14), .load none (.t 13), none⟩,
  ⟨(some 7), .move (.t 14), none⟩]
def m35_r4 : List MI := [
  ⟨(some 15), .move (.t 7), none⟩,
  ⟨(some 16), .fieldAddr 1 (.t 4), none⟩,
  ⟨(some 17), .load none (.t 16), none⟩,
  ⟨(some 18), .fieldAddr 3 (.t 4), none⟩,
  ⟨(some 19), .load none (.t 18), none⟩,
  ⟨(some 20), .bin .add .no (.t 17) (.t 19), none⟩,
  ⟨(some 21), .bin .lss .no (.t 15) (.t 20), none⟩]
def m35_r5 : List MI := [
  ⟨(some 24), .move (.t 0), none⟩,
  ⟨(some 25), .fieldAddr 0 (.t 4), none⟩,
  ⟨(some 26), .load none (.t 25), none⟩,
  ⟨(some 27), .move (.t 7), none⟩,
  ⟨(some 28), .move (.t 6), none⟩,
  ⟨(some 29), .call 36 [(.t 24), (.t 26), (.t 27), (.t 28)], none⟩]
def m35_r6 : List MI := [
  ⟨(some 22), .move (.t 7), none⟩,
  ⟨(some 23), .bin .add .no (.t 22) (.k (.sc (.int .i64 1))), none⟩,
  ⟨(some 7), .move (.t 23), none⟩]
def m35_l3 : MCode := (.seq (.seq (.ops m35_r4) (.cond (.t 21) .skip (.exit 0))) (.seq (.block 1 (.ops m35_r5)) (.ops m35_r6)))
def m35_code : MCode := (.seq (.ops m35_r0) (.seq (.ops m35_r1) (.seq (.ops m35_r2) (.block 0 (.loop m35_l3)))))
def m35 : MFunc := ⟨30, [], m35_code⟩

def m36_r0 : List DI := [
  ⟨⟨(some 8), .move (.t 0), none⟩, 0, [], [16]⟩,
  ⟨⟨(some 9), .nilCheck (.t 8), none⟩, 0, [], [16]⟩,
  ⟨⟨(some 10), .fieldAddr 4 (.t 9), none⟩, 0, [], [16]⟩,
  ⟨⟨(some 11), .load none (.t 10), none⟩, 1, [], [16]⟩,
  ⟨⟨(some 12), .move (.t 2), none⟩, 0, [], [16]⟩,
  ⟨⟨(some 13), .move (.t 0), none⟩, 0, [], []⟩,
  ⟨⟨(some 14), .nilCheck (.t 13), none⟩, 0, [], []⟩,
  ⟨⟨(some 15), .fieldAddr 4 (.t 14), none⟩, 0, [], []⟩,
  ⟨⟨(some 16), .load none (.t 15), none⟩, 1, [], []⟩,
  ⟨⟨(some 17), .move (.t 2), none⟩, 0, [], []⟩,
  ⟨⟨(some 18), .indexSlice 1 (.t 16) (.t 17), none⟩, 0, [], []⟩,
  ⟨⟨(some 19), .load none (.t 18), none⟩, 1, [], []⟩,
  ⟨⟨(some 20), .move (.t 1), none⟩, 0, [], []⟩,
  ⟨⟨(some 21), .move (.t 3), none⟩, 0, [], []⟩,
  ⟨⟨(some 22), .lenSlice (.t 21), none⟩, 0, [], []⟩,
  ⟨⟨(some 23), .build [.int .u16 0, .int .u8 0, .int .u32 0, .int .u8 0, .int .u32 0] [], none⟩, 0, [], []⟩,
  ⟨⟨(some 24), .call 42 [(.t 19), (.t 20), (.t 22), (.t 23)], none⟩, 2, [], []⟩,
  ⟨⟨(some 25), .indexSlice 1 (.t 11) (.t 12), none⟩, 0, [], []⟩,
  ⟨⟨none, .store 1 (.t 25) (.t 24), none⟩, 2, [], []⟩]
def m36_r1 : List MI := [
  ⟨(some 26), .move (.t 0), none⟩,
  ⟨(some 27), .nilCheck (.t 26), none⟩,
  ⟨(some 28), .fieldAddr 4 (.t 27), none⟩,
  ⟨(some 29), .load none (.t 28), none⟩,
  ⟨(some 30), .move (.t 2), none⟩,
  ⟨(some 31), .indexSlice 1 (.t 29) (.t 30), none⟩,
  ⟨(some 32), .load none (.t 31), none⟩,
  ⟨(some 33), .move (.t 1), none⟩,
  ⟨(some 34), .slice 7 (.t 32) (some (.t 33)) none, none⟩,
  ⟨(some 35), .move (.t 3), none⟩,
  ⟨(some 36), .copy 7 (.t 34) (.t 35), none⟩]
def m36_code : MCode := (.seq (.draw m36_r0) (.ops m36_r1))
def m36 : MFunc := ⟨37, [], m36_code⟩

def m37_r0 : List MI := [
  ⟨(some 3), .box 40 (.t 0), none⟩,
  ⟨(some 5), .box 37 (.t 2), none⟩,
  ⟨(some 6), .move (.k (.sc (.nils))), none⟩]
def m37_r1 : List MI := [
  ⟨(some 9), .move (.t 1), none⟩,
  ⟨(some 10), .fieldAddr 0 (.t 3), none⟩,
  ⟨(some 11), .fieldAddr 1 (.t 10), none⟩,
  ⟨(some 12), .load none (.t 11), none⟩,
  ⟨(some 13), .bin .sub .no (.t 9) (.t 12), none⟩,
  ⟨(some 7), .move (.t 13), none⟩]
def m37_r2 : List MI := [
  ⟨(some 14), .fieldAddr 0 (.t 3), none⟩,
  ⟨(some 15), .fieldAddr 2 (.t 14), none⟩,
  ⟨(some 16), .load none (.t 15), none⟩,
  ⟨(some 17), .bin .gtr .no (.t 16) (.k (.sc (.int .i64 400))), none⟩,
  ⟨(some 18), .move (.t 17), none⟩,
  ⟨(some 19), .move (.t 7), (some (18, false))⟩,
  ⟨(some 20), .fieldAddr 5 (.t 3), (some (18, false))⟩,
  ⟨(some 21), .load none (.t 20), (some (18, false))⟩,
  ⟨(some 22), .lenSlice (.t 21), (some (18, false))⟩,
  ⟨(some 23), .bin .geq .no (.t 19) (.t 22), (some (18, false))⟩,
  ⟨(some 24), .pick (.t 18) (.k (.sc (.bool true))) (.t 23), none⟩,
  ⟨(some 25), .move (.t 24), none⟩,
  ⟨(some 26), .fieldAddr 5 (.t 3), (some (25, false))⟩,
  ⟨(some 27), .load none (.t 26), (some (25, false))⟩,
  ⟨(some 28), .move (.t 7), (some (25, false))⟩,
  ⟨(some 29), .indexSlice 1 (.t 27) (.t 28), (some (25, false))⟩,
  ⟨(some 30), .load none (.t 29), (some (25, false))⟩,
  ⟨(some 31), .lenSlice (.t 30), (some (25, false))⟩,
  ⟨(some 32), .bin .eql .no (.t 31) (.k (.sc (.int .i64 0))), (some (25, false))⟩,
  ⟨(some 33), .pick (.t 25) (.k (.sc (.bool true))) (.t 32), none⟩]
def m37_r3 : List MI := [
  ⟨(some 34), .fieldAddr 2 (.t 5), none⟩,
  ⟨(some 35), .load none (.t 34), none⟩,
  ⟨(some 36), .build [.int .u16 0, .int .u8 0, .int .u32 0, .int .u8 0, .int .u32 0] [], none⟩,
  ⟨(some 37), .call 17 [(.t 35), (.t 36)], none⟩,
  ⟨(some 6), .move (.t 37), none⟩]
def m37_r4 : List DI := [
  ⟨⟨(some 38), .fieldAddr 5 (.t 3), none⟩, 0, [], []⟩,
  ⟨⟨(some 39), .load none (.t 38), none⟩, 1, [], []⟩,
  ⟨⟨(some 40), .move (.t 7), none⟩, 0, [], []⟩,
  ⟨⟨(some 41), .indexSlice 1 (.t 39) (.t 40), none⟩, 0, [], []⟩,
  ⟨⟨(some 42), .load none (.t 41), none⟩, 1, [], []⟩,
  ⟨⟨(some 43), .call 10 [(.t 42)], none⟩, 2, [], []⟩,
  ⟨⟨(some 44), .fieldAddr 0 (.t 3), none⟩, 0, [5], []⟩,
  ⟨⟨(some 45), .fieldAddr 2 (.t 44), none⟩, 0, [5], []⟩,
  ⟨⟨(some 46), .load none (.t 45), none⟩, 1, [5], []⟩,
  ⟨⟨(some 47), .build [.int .u16 0, .int .u8 0, .int .u32 0, .int .u8 0, .int .u32 0] [], none⟩, 0, [5], []⟩,
  ⟨⟨(some 48), .call 43 [(.t 43), (.t 46), (.t 47)], none⟩, 2, [], []⟩,
  ⟨⟨(some 8), .move (.t 48), none⟩, 0, [], []⟩]
def m37_r5 : List MI := [
  ⟨(some 49), .move (.t 8), none⟩,
  ⟨(some 50), .fieldAddr 0 (.t 5), none⟩,
  ⟨(some 51), .load none (.t 50), none⟩,
  ⟨(some 52), .fieldAddr 0 (.t 3), none⟩,
  ⟨(some 53), .fieldAddr 0 (.t 52), none⟩,
  ⟨(some 54), .load none (.t 53), none⟩,
  ⟨(some 55), .bin .sub .no (.t 51) (.t 54), none⟩,
  ⟨(some 56), .build [.int .u16 0, .int .u8 0, .int .u32 0, .int .u8 0, .int .u32 0] [], none⟩,
  ⟨(some 57), .call 44 [(.t 49), (.k (.sc (.int .i64 0))), (.t 55), (.t 56)], none⟩,
  ⟨(some 8), .move (.t 57), none⟩]
def m37_r6 : List MI := [
  ⟨(some 58), .move (.t 8), none⟩,
  ⟨(some 59), .fieldAddr 2 (.t 5), none⟩,
  ⟨(some 60), .load none (.t 59), none⟩,
  ⟨(some 61), .build [.int .u16 0, .int .u8 0, .int .u32 0, .int .u8 0, .int .u32 0] [], none⟩,
  ⟨(some 62), .call 43 [(.t 58), (.t 60), (.t 61)], none⟩,
  ⟨(some 6), .move (.t 62), none⟩]
def m37_code : MCode := (.seq (.ops m37_r0) (.seq (.ops m37_r1) (.seq (.seq (.ops m37_r2) (.cond (.t 33) (.seq (.ops m37_r3) .ret) .skip)) (.seq (.draw m37_r4) (.seq (.ops m37_r5) (.seq (.ops m37_r6) .ret))))))
def m37 : MFunc := ⟨63, [.tmp 6], m37_code⟩

def m38_r0 : List MI := [
  ⟨(some 1), .box 30 (.t 0), none⟩,
  ⟨(some 2), .move (.k (.sc (.bool false))), none⟩]
def m38_r1 : List MI := [
  ⟨(some 3), .fieldAddr 0 (.t 1), none⟩,
  ⟨(some 4), .load none (.t 3), none⟩,
  ⟨(some 5), .bin .eql .no (.t 4) (.k (.sc (.int .u8 0))), none⟩,
  ⟨(some 6), .move (.t 5), none⟩,
  ⟨(some 7), .fieldAddr 1 (.t 1), (some (6, true))⟩,
  ⟨(some 8), .load none (.t 7), (some (6, true))⟩,
  ⟨(some 9), .bin .eql .no (.t 8) (.k (.sc (.int .u32 0))), (some (6, true))⟩,
  ⟨(some 10), .pick (.t 6) (.t 9) (.k (.sc (.bool false))), none⟩,
  ⟨(some 11), .move (.t 10), none⟩,
  ⟨(some 12), .fieldAddr 0 (.t 1), (some (11, false))⟩,
  ⟨(some 13), .load none (.t 12), (some (11, false))⟩,
  ⟨(some 14), .bin .eql .no (.t 13) (.k (.sc (.int .u8 1))), (some (11, false))⟩,
  ⟨(some 15), .move (.t 14), (some (11, false))⟩,
  ⟨(some 16), .fieldAddr 1 (.t 1), (some (15, true))⟩,
  ⟨(some 17), .load none (.t 16), (some (15, true))⟩,
  ⟨(some 18), .bin .leq .no (.t 17) (.k (.sc (.int .u32 255))), (some (15, true))⟩,
  ⟨(some 19), .pick (.t 15) (.t 18) (.k (.sc (.bool false))), (some (11, false))⟩,
  ⟨(some 20), .pick (.t 11) (.k (.sc (.bool true))) (.t 19), none⟩,
  ⟨(some 21), .move (.t 20), none⟩,
  ⟨(some 22), .fieldAddr 0 (.t 1), (some (21, false))⟩,
  ⟨(some 23), .load none (.t 22), (some (21, false))⟩,
  ⟨(some 24), .bin .eql .no (.t 23) (.k (.sc (.int .u8 2))), (some (21, false))⟩,
  ⟨(some 25), .move (.t 24), (some (21, false))⟩,
  ⟨(some 26), .fieldAddr 1 (.t 1), (some (25, true))⟩,
  ⟨(some 27), .load none (.t 26), (some (25, true))⟩,
  ⟨(some 28), .bin .lss .no (.t 27) (.k (.sc (.int .u32 16777216))), (some (25, true))⟩,
  ⟨(some 29), .pick (.t 25) (.t 28) (.k (.sc (.bool false))), (some (21, false))⟩,
  ⟨(some 30), .pick (.t 21) (.k (.sc (.bool true))) (.t 29), none⟩,
  ⟨(some 2), .move (.t 30), none⟩]
def m38_code : MCode := (.seq (.ops m38_r0) (.seq (.ops m38_r1) .ret))
def m38 : MFunc := ⟨31, [.tmp 2], m38_code⟩

def m39_r0 : List MI := [
  ⟨(some 1), .box 30 (.t 0), none⟩,
  ⟨(some 2), .move (.k (.sc (.bool false))), none⟩]
def m39_r1 : List MI := [
  ⟨(some 3), .fieldAddr 0 (.t 1), none⟩,
  ⟨(some 4), .load none (.t 3), none⟩]
def m39_r2 : List MI := [
  ⟨(some 6), .bin .eql .no (.t 4) (.k (.sc (.int .u8 0))), none⟩,
  ⟨(some 5), .move (.t 6), none⟩]
def m39_r3 : List MI := [
  ⟨(some 7), .fieldAddr 1 (.t 1), none⟩,
  ⟨(some 8), .load none (.t 7), none⟩,
  ⟨(some 9), .bin .eql .no (.t 8) (.k (.sc (.int .u32 0))), none⟩,
  ⟨(some 2), .move (.t 9), none⟩]
def m39_r4 : List MI := [
  ⟨(some 11), .bin .eql .no (.t 4) (.k (.sc (.int .u8 1))), none⟩,
  ⟨(some 10), .move (.t 11), none⟩]
def m39_r5 : List MI := [
  ⟨(some 12), .fieldAddr 1 (.t 1), none⟩,
  ⟨(some 13), .load none (.t 12), none⟩,
  ⟨(some 14), .bin .leq .no (.t 13) (.k (.sc (.int .u32 255))), none⟩,
  ⟨(some 2), .move (.t 14), none⟩]
def m39_r6 : List MI := [
  ⟨(some 16), .bin .eql .no (.t 4) (.k (.sc (.int .u8 2))), none⟩,
  ⟨(some 15), .move (.t 16), none⟩]
def m39_r7 : List MI := [
  ⟨(some 17), .fieldAddr 1 (.t 1), none⟩,
  ⟨(some 18), .load none (.t 17), none⟩,
  ⟨(some 19), .bin .leq .no (.t 18) (.k (.sc (.int .u32 16777215))), none⟩,
  ⟨(some 2), .move (.t 19), none⟩]
def m39_r8 : List MI := [
  ⟨(some 2), .move (.k (.sc (.bool false))), none⟩]
def m39_code : MCode := (.seq (.ops m39_r0) (.seq (.seq (.ops m39_r1) (.block 0 (.seq (.ops m39_r2) (.cond (.t 5) (.seq (.ops m39_r3) .ret) (.seq (.ops m39_r4) (.cond (.t 10) (.seq (.ops m39_r5) .ret) (.seq (.ops m39_r6) (.cond (.t 15) (.seq (.ops m39_r7) .ret) .skip)))))))) (.seq (.ops m39_r8) .ret)))
def m39 : MFunc := ⟨20, [.tmp 2], m39_code⟩

def m40_r0 : List MI := [
  ⟨(some 1), .box 32 (.t 0), none⟩,
  ⟨(some 2), .alloc 34 [.int .i32 0, .int .u8 0, .int .u16 0, .int .u8 0, .int .u32 0, .int .u8 0, .int .u32 0], none⟩]
def m40_r1 : List MI := [
  ⟨(some 3), .load (some 5) (.t 1), none⟩,
  ⟨(some 4), .build [.int .i32 0, .int .u8 0, .int .u16 0, .int .u8 0, .int .u32 0, .int .u8 0, .int .u32 0] [(0, 1, (.k (.sc (.int .i32 32)))), (2, 5, (.t 3))], none⟩,
  ⟨none, .store 7 (.t 2) (.t 4), none⟩]
def m40_code : MCode := (.seq (.ops m40_r0) (.seq (.ops m40_r1) .ret))
def m40 : MFunc := ⟨5, [.cell 2 (some 7)], m40_code⟩

def m41_r0 : List MI := [
  ⟨(some 4), .move (.k (.sc (.nils))), none⟩]
def m41_r1 : List MI := [
  ⟨(some 9), .move (.t 1), none⟩,
  ⟨(some 10), .bin .lss .no (.t 9) (.k (.sc (.int .i64 0))), none⟩]
def m41_r2 : List MI := [
  ⟨none, .bad, none⟩,
  ⟨none, .bad, none⟩]
def m41_r3 : List MI := [
  ⟨(some 13), .move (.t 0), none⟩,
  ⟨(some 14), .lenSlice (.t 13), none⟩,
  ⟨(some 15), .conv (.int .u64) (.t 14), none⟩,
  ⟨(some 16), .move (.t 1), none⟩,
  ⟨(some 17), .conv (.int .u64) (.t 16), none⟩,
  ⟨(some 18), .call 45 [(.t 15), (.t 17)], none⟩,
  ⟨(some 12), .move (.t 18), none⟩,
  ⟨(some 19), .extract (.t 12) 0, none⟩,
  ⟨(some 20), .extract (.t 12) 1, none⟩,
  ⟨(some 5), .move (.t 19), none⟩,
  ⟨(some 6), .move (.t 20), none⟩]
def m41_r4 : List MI := [
  ⟨(some 21), .move (.t 5), none⟩,
  ⟨(some 22), .bin .gtr .no (.t 21) (.k (.sc (.int .u64 0))), none⟩,
  ⟨(some 23), .move (.t 22), none⟩,
  ⟨(some 24), .move (.t 6), (some (23, false))⟩,
  ⟨(some 25), .bin .gtr .no (.t 24) (.k (.sc (.int .u64 9223372036854775807))), (some (23, false))⟩,
  ⟨(some 26), .pick (.t 23) (.k (.sc (.bool true))) (.t 25), none⟩]
def m41_r5 : List MI := [
  ⟨none, .bad, none⟩,
  ⟨none, .bad, none⟩]
def m41_r6 : List MI := [
  ⟨(some 28), .move (.t 6), none⟩,
  ⟨(some 29), .conv (.int .i64) (.t 28), none⟩,
  ⟨(some 30), .makeSlice 34 7 28 [.int .i32 0, .int .u8 0, .int .u16 0, .int .u8 0, .int .u32 0, .int .u8 0, .int .u32 0] (.t 29) (.t 29), none⟩,
  ⟨(some 7), .move (.t 30), none⟩]
def m41_r7 : List MI := [
  ⟨(some 31), .move (.t 7), none⟩,
  ⟨(some 32), .move (.t 0), none⟩,
  ⟨(some 33), .copy 7 (.t 31) (.t 32), none⟩,
  ⟨(some 8), .move (.t 33), none⟩]
def m41_r9 : List MI := [
  ⟨(some 34), .move (.t 8), none⟩,
  ⟨(some 35), .move (.t 7), none⟩,
  ⟨(some 36), .lenSlice (.t 35), none⟩,
  ⟨(some 37), .bin .lss .no (.t 34) (.t 36), none⟩]
def m41_r10 : List DI := [
  ⟨⟨(some 38), .move (.t 8), none⟩, 0, [], [7]⟩,
  ⟨⟨(some 39), .move (.t 7), none⟩, 0, [], []⟩,
  ⟨⟨(some 40), .move (.t 8), none⟩, 0, [], []⟩,
  ⟨⟨(some 41), .slice 7 (.t 39) (some (.t 40)) none, none⟩, 0, [], []⟩,
  ⟨⟨(some 42), .move (.t 7), none⟩, 0, [], []⟩,
  ⟨⟨(some 43), .move (.t 8), none⟩, 0, [], []⟩,
  ⟨⟨(some 44), .slice 7 (.t 42) none (some (.t 43)), none⟩, 0, [], []⟩,
  ⟨⟨(some 45), .copy 7 (.t 41) (.t 44), none⟩, 2, [], []⟩,
  ⟨⟨(some 46), .bin .add .no (.t 38) (.t 45), none⟩, 0, [], []⟩,
  ⟨⟨(some 8), .move (.t 46), none⟩, 0, [], []⟩]
def m41_l8 : MCode := (.seq (.seq (.ops m41_r9) (.cond (.t 37) .skip (.exit 0))) (.block 1 (.draw m41_r10)))
def m41_r11 : List MI := [
  ⟨(some 47), .move (.t 7), none⟩,
  ⟨(some 4), .move (.t 47), none⟩]
def m41_code : MCode := (.seq (.ops m41_r0) (.seq (.seq (.ops m41_r1) (.cond (.t 10) (.ops m41_r2) .skip)) (.seq (.ops m41_r3) (.seq (.seq (.ops m41_r4) (.cond (.t 26) (.ops m41_r5) .skip)) (.seq (.ops m41_r6) (.seq (.ops m41_r7) (.seq (.block 0 (.loop m41_l8)) (.seq (.ops m41_r11) .ret))))))))
def m41 : MFunc := ⟨48, [.tmp 4], m41_code⟩

def m42_r0 : List MI := [
  ⟨(some 7), .box 32 (.t 3), none⟩,
  ⟨(some 8), .move (.k (.sc (.nils))), none⟩]
def m42_r1 : List MI := [
  ⟨(some 9), .move (.t 0), none⟩,
  ⟨(some 10), .call 21 [(.t 9)], none⟩,
  ⟨(some 11), .move (.t 0), none⟩,
  ⟨(some 12), .move (.t 1), none⟩,
  ⟨(some 13), .move (.t 2), none⟩,
  ⟨(some 14), .call 46 [(.t 11), (.t 12), (.t 13)], none⟩,
  ⟨(some 0), .move (.t 10), none⟩,
  ⟨(some 2), .move (.t 14), none⟩]
def m42_r2 : List MI := [
  ⟨(some 15), .move (.t 2), none⟩,
  ⟨(some 16), .bin .eql .no (.t 15) (.k (.sc (.int .i64 0))), none⟩]
def m42_r3 : List MI := [
  ⟨(some 17), .move (.t 0), none⟩,
  ⟨(some 8), .move (.t 17), none⟩]
def m42_r4 : List MI := [
  ⟨(some 18), .move (.t 0), none⟩,
  ⟨(some 19), .move (.t 1), none⟩,
  ⟨(some 20), .call 47 [(.t 18), (.t 19)], none⟩]
def m42_r5 : List MI := [
  ⟨(some 21), .move (.t 0), none⟩,
  ⟨(some 22), .move (.t 1), none⟩,
  ⟨(some 23), .move (.t 2), none⟩,
  ⟨(some 24), .bin .add .no (.t 22) (.t 23), none⟩,
  ⟨(some 25), .call 47 [(.t 21), (.t 24)], none⟩]
def m42_r6 : List DI := [
  ⟨⟨(some 26), .move (.t 0), none⟩, 0, [], []⟩,
  ⟨⟨(some 27), .move (.t 1), none⟩, 0, [], []⟩,
  ⟨⟨(some 28), .move (.t 1), none⟩, 0, [], []⟩,
  ⟨⟨(some 29), .move (.t 2), none⟩, 0, [], []⟩,
  ⟨⟨(some 30), .bin .add .no (.t 28) (.t 29), none⟩, 0, [], []⟩,
  ⟨⟨(some 31), .slice 7 (.t 26) (some (.t 27)) (some (.t 30)), none⟩, 0, [], []⟩,
  ⟨⟨(some 32), .load (some 5) (.t 7), none⟩, 1, [], []⟩,
  ⟨⟨(some 33), .call 34 [(.t 31), (.t 32)], none⟩, 2, [], []⟩]
def m42_r7 : List MI := [
  ⟨(some 34), .move (.t 0), none⟩,
  ⟨(some 8), .move (.t 34), none⟩]
def m42_code : MCode := (.seq (.ops m42_r0) (.seq (.ops m42_r1) (.seq (.seq (.ops m42_r2) (.cond (.t 16) (.seq (.ops m42_r3) .ret) .skip)) (.seq (.ops m42_r4) (.seq (.ops m42_r5) (.seq (.draw m42_r6) (.seq (.ops m42_r7) .ret)))))))
def m42 : MFunc := ⟨35, [.tmp 8], m42_code⟩

def m43_r0 : List MI := [
  ⟨(some 5), .box 32 (.t 2), none⟩,
  ⟨(some 6), .move (.k (.sc (.nils))), none⟩]
def m43_r1 : List MI := [
  ⟨(some 7), .move (.t 0), none⟩,
  ⟨(some 8), .call 21 [(.t 7)], none⟩,
  ⟨(some 0), .move (.t 8), none⟩]
def m43_r2 : List MI := [
  ⟨(some 9), .move (.t 1), none⟩,
  ⟨(some 10), .bin .lss .no (.t 9) (.k (.sc (.int .i64 1))), none⟩,
  ⟨(some 11), .move (.t 10), none⟩,
  ⟨(some 12), .move (.t 1), (some (11, false))⟩,
  ⟨(some 13), .bin .gtr .no (.t 12) (.k (.sc (.int .i64 400))), (some (11, false))⟩,
  ⟨(some 14), .pick (.t 11) (.k (.sc (.bool true))) (.t 13), none⟩]
def m43_r3 : List MI := [
  ⟨(some 15), .move (.t 0), none⟩,
  ⟨(some 6), .move (.t 15), none⟩]
def m43_r4 : List MI := [
  ⟨(some 16), .move (.t 0), none⟩,
  ⟨(some 17), .move (.t 1), none⟩,
  ⟨(some 18), .call 47 [(.t 16), (.t 17)], none⟩]
def m43_r5 : List MI := [
  ⟨(some 19), .move (.t 1), none⟩,
  ⟨(some 20), .move (.t 0), none⟩,
  ⟨(some 21), .lenSlice (.t 20), none⟩,
  ⟨(some 22), .bin .leq .no (.t 19) (.t 21), none⟩]
def m43_r6 : List MI := [
  ⟨(some 23), .move (.t 0), none⟩,
  ⟨(some 24), .move (.t 1), none⟩,
  ⟨(some 25), .slice 7 (.t 23) none (some (.t 24)), none⟩,
  ⟨(some 6), .move (.t 25), none⟩]
def m43_r7 : List MI := [
  ⟨(some 26), .move (.t 0), none⟩,
  ⟨(some 27), .move (.t 1), none⟩,
  ⟨(some 28), .move (.t 0), none⟩,
  ⟨(some 29), .lenSlice (.t 28), none⟩,
  ⟨(some 30), .bin .sub .no (.t 27) (.t 29), none⟩,
  ⟨(some 31), .load (some 5) (.t 5), none⟩,
  ⟨(some 32), .call 17 [(.t 30), (.t 31)], none⟩,
  ⟨(some 33), .append 34 7 28 [.int .i32 0, .int .u8 0, .int .u16 0, .int .u8 0, .int .u32 0, .int .u8 0, .int .u32 0] (.t 26) (.t 32), none⟩,
  ⟨(some 6), .move (.t 33), none⟩]
def m43_code : MCode := (.seq (.ops m43_r0) (.seq (.ops m43_r1) (.seq (.seq (.ops m43_r2) (.cond (.t 14) (.seq (.ops m43_r3) .ret) .skip)) (.seq (.ops m43_r4) (.seq (.seq (.ops m43_r5) (.cond (.t 22) (.seq (.ops m43_r6) .ret) .skip)) (.seq (.ops m43_r7) .ret))))))
def m43 : MFunc := ⟨34, [.tmp 6], m43_code⟩

def m44_r0 : List MI := [
  ⟨(some 7), .box 32 (.t 3), none⟩,
  ⟨(some 8), .move (.k (.sc (.nils))), none⟩]
def m44_r1 : List MI := [
  ⟨(some 9), .move (.t 0), none⟩,
  ⟨(some 10), .call 21 [(.t 9)], none⟩,
  ⟨(some 11), .move (.t 0), none⟩,
  ⟨(some 12), .move (.t 1), none⟩,
  ⟨(some 13), .move (.t 2), none⟩,
  ⟨(some 14), .call 46 [(.t 11), (.t 12), (.t 13)], none⟩,
  ⟨(some 0), .move (.t 10), none⟩,
  ⟨(some 2), .move (.t 14), none⟩]
def m44_r2 : List MI := [
  ⟨(some 15), .move (.t 2), none⟩,
  ⟨(some 16), .bin .eql .no (.t 15) (.k (.sc (.int .i64 0))), none⟩]
def m44_r3 : List MI := [
  ⟨(some 17), .move (.t 0), none⟩,
  ⟨(some 8), .move (.t 17), none⟩]
def m44_r4 : List MI := [
  ⟨(some 18), .move (.t 0), none⟩,
  ⟨(some 19), .move (.t 1), none⟩,
  ⟨(some 20), .call 47 [(.t 18), (.t 19)], none⟩]
def m44_r5 : List MI := [
  ⟨(some 21), .move (.t 0), none⟩,
  ⟨(some 22), .move (.t 1), none⟩,
  ⟨(some 23), .move (.t 2), none⟩,
  ⟨(some 24), .bin .add .no (.t 22) (.t 23), none⟩,
  ⟨(some 25), .call 47 [(.t 21), (.t 24)], none⟩]
def m44_r6 : List DI := [
  ⟨⟨(some 26), .move (.t 0), none⟩, 0, [], []⟩,
  ⟨⟨(some 27), .move (.t 1), none⟩, 0, [], []⟩,
  ⟨⟨(some 28), .slice 7 (.t 26) (some (.t 27)) none, none⟩, 0, [], []⟩,
  ⟨⟨(some 29), .move (.t 0), none⟩, 0, [], []⟩,
  ⟨⟨(some 30), .move (.t 1), none⟩, 0, [], []⟩,
  ⟨⟨(some 31), .move (.t 2), none⟩, 0, [], []⟩,
  ⟨⟨(some 32), .bin .add .no (.t 30) (.t 31), none⟩, 0, [], []⟩,
  ⟨⟨(some 33), .slice 7 (.t 29) (some (.t 32)) none, none⟩, 0, [], []⟩,
  ⟨⟨(some 34), .copy 7 (.t 28) (.t 33), none⟩, 2, [], []⟩]
def m44_r7 : List DI := [
  ⟨⟨(some 35), .move (.t 0), none⟩, 0, [], []⟩,
  ⟨⟨(some 36), .move (.t 0), none⟩, 0, [], []⟩,
  ⟨⟨(some 37), .lenSlice (.t 36), none⟩, 0, [], []⟩,
  ⟨⟨(some 38), .move (.t 2), none⟩, 0, [], []⟩,
  ⟨⟨(some 39), .bin .sub .no (.t 37) (.t 38), none⟩, 0, [], []⟩,
  ⟨⟨(some 40), .slice 7 (.t 35) (some (.t 39)) none, none⟩, 0, [], []⟩,
  ⟨⟨(some 41), .load (some 5) (.t 7), none⟩, 1, [], []⟩,
  ⟨⟨(some 42), .call 34 [(.t 40), (.t 41)], none⟩, 2, [], []⟩]
def m44_r8 : List MI := [
  ⟨(some 43), .move (.t 0), none⟩,
  ⟨(some 8), .move (.t 43), none⟩]
def m44_code : MCode := (.seq (.ops m44_r0) (.seq (.ops m44_r1) (.seq (.seq (.ops m44_r2) (.cond (.t 16) (.seq (.ops m44_r3) .ret) .skip)) (.seq (.ops m44_r4) (.seq (.ops m44_r5) (.seq (.draw m44_r6) (.seq (.draw m44_r7) (.seq (.ops m44_r8) .ret))))))))
def m44 : MFunc := ⟨44, [.tmp 8], m44_code⟩

def m45_r0 : List MI := [
  ⟨(some 4), .move (.k (.sc (.int .u64 0))), none⟩,
  ⟨(some 5), .move (.k (.sc (.int .u64 0))), none⟩]
def m45_r1 : List MI := [
  ⟨(some 11), .move (.t 0), none⟩,
  ⟨(some 12), .conv (.int .u32) (.t 11), none⟩,
  ⟨(some 13), .move (.t 1), none⟩,
  ⟨(some 14), .conv (.int .u32) (.t 13), none⟩,
  ⟨(some 15), .call 48 [(.t 12), (.t 14)], none⟩,
  ⟨(some 10), .move (.t 15), none⟩,
  ⟨(some 16), .extract (.t 10) 0, none⟩,
  ⟨(some 17), .extract (.t 10) 1, none⟩,
  ⟨(some 6), .move (.t 16), none⟩,
  ⟨(some 7), .move (.t 17), none⟩]
def m45_r2 : List MI := [
  ⟨(some 18), .move (.t 6), none⟩,
  ⟨(some 19), .conv (.int .u64) (.t 18), none⟩,
  ⟨(some 20), .move (.t 7), none⟩,
  ⟨(some 21), .conv (.int .u64) (.t 20), none⟩,
  ⟨(some 4), .move (.t 19), none⟩,
  ⟨(some 5), .move (.t 21), none⟩]
def m45_r3 : List MI := [
  ⟨(some 23), .move (.t 0), none⟩,
  ⟨(some 24), .move (.t 1), none⟩,
  ⟨(some 25), .call 49 [(.t 23), (.t 24)], none⟩,
  ⟨(some 22), .move (.t 25), none⟩,
  ⟨(some 26), .extract (.t 22) 0, none⟩,
  ⟨(some 27), .extract (.t 22) 1, none⟩,
  ⟨(some 8), .move (.t 26), none⟩,
  ⟨(some 9), .move (.t 27), none⟩]
def m45_r4 : List MI := [
  ⟨(some 28), .move (.t 8), none⟩,
  ⟨(some 29), .move (.t 9), none⟩,
  ⟨(some 4), .move (.t 28), none⟩,
  ⟨(some 5), .move (.t 29), none⟩]
def m45_code : MCode := (.seq (.ops m45_r0) (.seq (.cond (.k (.sc (.bool false))) (.seq (.ops m45_r1) (.seq (.ops m45_r2) .ret)) .skip) (.seq (.ops m45_r3) (.seq (.ops m45_r4) .ret))))
def m45 : MFunc := ⟨30, [.tmp 4, .tmp 5], m45_code⟩

def m46_r0 : List MI := [
  ⟨(some 6), .move (.k (.sc (.int .i64 0))), none⟩]
def m46_r1 : List MI := [
  ⟨(some 7), .move (.t 0), none⟩,
  ⟨(some 8), .move (.t 1), none⟩,
  ⟨(some 9), .call 50 [(.t 7), (.t 8)], none⟩,
  ⟨(some 10), .un .not (.t 9), none⟩,
  ⟨(some 11), .move (.t 10), none⟩,
  ⟨(some 12), .move (.t 2), (some (11, false))⟩,
  ⟨(some 13), .bin .lss .no (.t 12) (.k (.sc (.int .i64 1))), (some (11, false))⟩,
  ⟨(some 14), .pick (.t 11) (.k (.sc (.bool true))) (.t 13), none⟩]
def m46_r2 : List MI := [
  ⟨(some 6), .move (.k (.sc (.int .i64 0))), none⟩]
def m46_r3 : List MI := [
  ⟨(some 15), .move (.t 2), none⟩,
  ⟨(some 16), .move (.t 0), none⟩,
  ⟨(some 17), .lenSlice (.t 16), none⟩,
  ⟨(some 18), .move (.t 1), none⟩,
  ⟨(some 19), .bin .sub .no (.t 17) (.t 18), none⟩,
  ⟨(some 20), .min [(.t 15), (.t 19)], none⟩,
  ⟨(some 6), .move (.t 20), none⟩]
def m46_code : MCode := (.seq (.ops m46_r0) (.seq (.seq (.ops m46_r1) (.cond (.t 14) (.seq (.ops m46_r2) .ret) .skip)) (.seq (.ops m46_r3) .ret)))
def m46 : MFunc := ⟨21, [.tmp 6], m46_code⟩

def m47_r0 : List MI := [
  ⟨(some 4), .move (.t 1), none⟩,
  ⟨(some 5), .bin .gtr .no (.t 4) (.k (.sc (.int .i64 0))), none⟩,
  ⟨(some 6), .move (.t 5), none⟩,
  ⟨(some 7), .move (.t 1), (some (6, true))⟩,
  ⟨(some 8), .move (.t 0), (some (6, true))⟩,
  ⟨(some 9), .lenSlice (.t 8), (some (6, true))⟩,
  ⟨(some 10), .bin .lss .no (.t 7) (.t 9), (some (6, true))⟩,
  ⟨(some 11), .pick (.t 6) (.t 10) (.k (.sc (.bool false))), none⟩,
  ⟨(some 12), .move (.t 11), none⟩,
  ⟨(some 13), .move (.t 0), (some (12, true))⟩,
  ⟨(some 14), .move (.t 1), (some (12, true))⟩,
  ⟨(some 15), .indexSlice 7 (.t 13) (.t 14), (some (12, true))⟩,
  ⟨(some 16), .fieldAddr 1 (.t 15), (some (12, true))⟩,
  ⟨(some 17), .load none (.t 16), (some (12, true))⟩,
  ⟨(some 18), .bin .eql .no (.t 17) (.k (.sc (.int .u8 2))), (some (12, true))⟩,
  ⟨(some 19), .pick (.t 12) (.t 18) (.k (.sc (.bool false))), none⟩]
def m47_r1 : List DI := [
  ⟨⟨(some 20), .move (.t 0), none⟩, 0, [], [11, 17]⟩,
  ⟨⟨(some 21), .move (.t 1), none⟩, 0, [], [11, 17]⟩,
  ⟨⟨(some 22), .bin .sub .no (.t 21) (.k (.sc (.int .i64 1))), none⟩, 0, [], [11, 17]⟩,
  ⟨⟨(some 23), .move (.t 0), none⟩, 0, [], [11, 17, 19]⟩,
  ⟨⟨(some 24), .move (.t 1), none⟩, 0, [], [11, 17, 19]⟩,
  ⟨⟨(some 25), .move (.t 0), none⟩, 0, [], []⟩,
  ⟨⟨(some 26), .move (.t 1), none⟩, 0, [], []⟩,
  ⟨⟨(some 27), .bin .sub .no (.t 26) (.k (.sc (.int .i64 1))), none⟩, 0, [], []⟩,
  ⟨⟨(some 28), .indexSlice 7 (.t 25) (.t 27), none⟩, 0, [], []⟩,
  ⟨⟨(some 29), .fieldAddr 2 (.t 28), none⟩, 0, [], []⟩,
  ⟨⟨(some 30), .load (some 5) (.t 29), none⟩, 1, [], []⟩,
  ⟨⟨(some 31), .call 40 [(.t 30)], none⟩, 2, [], []⟩,
  ⟨⟨(some 32), .move (.t 0), none⟩, 0, [11], []⟩,
  ⟨⟨(some 33), .move (.t 1), none⟩, 0, [11], []⟩,
  ⟨⟨(some 34), .indexSlice 7 (.t 32) (.t 33), none⟩, 0, [11], []⟩,
  ⟨⟨(some 35), .fieldAddr 2 (.t 34), none⟩, 0, [11], []⟩,
  ⟨⟨(some 36), .load (some 5) (.t 35), none⟩, 1, [11], []⟩,
  ⟨⟨(some 37), .call 40 [(.t 36)], none⟩, 2, [], []⟩,
  ⟨⟨(some 38), .indexSlice 7 (.t 20) (.t 22), none⟩, 0, [], []⟩,
  ⟨⟨none, .store 7 (.t 38) (.t 31), none⟩, 2, [], []⟩,
  ⟨⟨(some 39), .indexSlice 7 (.t 23) (.t 24), none⟩, 0, [], []⟩,
  ⟨⟨none, .store 7 (.t 39) (.t 37), none⟩, 2, [], []⟩]
def m47_code : MCode := (.seq (.ops m47_r0) (.cond (.t 19) (.draw m47_r1) .skip))
def m47 : MFunc := ⟨40, [], m47_code⟩

def m48_r0 : List MI := [
  ⟨(some 4), .move (.k (.sc (.int .u32 0))), none⟩,
  ⟨(some 5), .move (.k (.sc (.int .u32 0))), none⟩]
def m48_r1 : List MI := [
  ⟨(some 7), .move (.t 0), none⟩,
  ⟨(some 8), .conv (.int .u64) (.t 7), none⟩,
  ⟨(some 9), .move (.t 1), none⟩,
  ⟨(some 10), .conv (.int .u64) (.t 9), none⟩,
  ⟨(some 11), .bin .mul .no (.t 8) (.t 10), none⟩,
  ⟨(some 6), .move (.t 11), none⟩]
def m48_r2 : List MI := [
  ⟨(some 12), .move (.t 6), none⟩,
  ⟨(some 13), .bin .shr .no (.t 12) (.k (.sc (.int .u64 32))), none⟩,
  ⟨(some 14), .conv (.int .u32) (.t 13), none⟩,
  ⟨(some 15), .move (.t 6), none⟩,
  ⟨(some 16), .conv (.int .u32) (.t 15), none⟩,
  ⟨(some 4), .move (.t 14), none⟩,
  ⟨(some 5), .move (.t 16), none⟩]
def m48_code : MCode := (.seq (.ops m48_r0) (.seq (.ops m48_r1) (.seq (.ops m48_r2) .ret)))
def m48 : MFunc := ⟨17, [.tmp 4, .tmp 5], m48_code⟩

def m49_r0 : List MI := [
  ⟨(some 4), .move (.k (.sc (.int .u64 0))), none⟩,
  ⟨(some 5), .move (.k (.sc (.int .u64 0))), none⟩]
def m49_r1 : List MI := [
  ⟨(some 14), .move (.t 0), none⟩,
  ⟨(some 15), .bin .and .no (.t 14) (.k (.sc (.int .u64 4294967295))), none⟩,
  ⟨(some 6), .move (.t 15), none⟩]
def m49_r2 : List MI := [
  ⟨(some 16), .move (.t 0), none⟩,
  ⟨(some 17), .bin .shr .no (.t 16) (.k (.sc (.int .u64 32))), none⟩,
  ⟨(some 7), .move (.t 17), none⟩]
def m49_r3 : List MI := [
  ⟨(some 18), .move (.t 1), none⟩,
  ⟨(some 19), .bin .and .no (.t 18) (.k (.sc (.int .u64 4294967295))), none⟩,
  ⟨(some 8), .move (.t 19), none⟩]
def m49_r4 : List MI := [
  ⟨(some 20), .move (.t 1), none⟩,
  ⟨(some 21), .bin .shr .no (.t 20) (.k (.sc (.int .u64 32))), none⟩,
  ⟨(some 9), .move (.t 21), none⟩]
def m49_r5 : List MI := [
  ⟨(some 22), .move (.t 6), none⟩,
  ⟨(some 23), .move (.t 8), none⟩,
  ⟨(some 24), .bin .mul .no (.t 22) (.t 23), none⟩,
  ⟨(some 10), .move (.t 24), none⟩]
def m49_r6 : List MI := [
  ⟨(some 25), .move (.t 7), none⟩,
  ⟨(some 26), .move (.t 8), none⟩,
  ⟨(some 27), .bin .mul .no (.t 25) (.t 26), none⟩,
  ⟨(some 28), .move (.t 10), none⟩,
  ⟨(some 29), .bin .shr .no (.t 28) (.k (.sc (.int .u64 32))), none⟩,
  ⟨(some 30), .bin .add .no (.t 27) (.t 29), none⟩,
  ⟨(some 11), .move (.t 30), none⟩]
def m49_r7 : List MI := [
  ⟨(some 31), .move (.t 11), none⟩,
  ⟨(some 32), .bin .and .no (.t 31) (.k (.sc (.int .u64 4294967295))), none⟩,
  ⟨(some 12), .move (.t 32), none⟩]
def m49_r8 : List MI := [
  ⟨(some 33), .move (.t 11), none⟩,
  ⟨(some 34), .bin .shr .no (.t 33) (.k (.sc (.int .u64 32))), none⟩,
  ⟨(some 13), .move (.t 34), none⟩]
def m49_r9 : List MI := [
  ⟨(some 35), .move (.t 12), none⟩,
  ⟨(some 36), .move (.t 6), none⟩,
  ⟨(some 37), .move (.t 9), none⟩,
  ⟨(some 38), .bin .mul .no (.t 36) (.t 37), none⟩,
  ⟨(some 39), .bin .add .no (.t 35) (.t 38), none⟩,
  ⟨(some 12), .move (.t 39), none⟩]
def m49_r10 : List MI := [
  ⟨(some 40), .move (.t 7), none⟩,
  ⟨(some 41), .move (.t 9), none⟩,
  ⟨(some 42), .bin .mul .no (.t 40) (.t 41), none⟩,
  ⟨(some 43), .move (.t 13), none⟩,
  ⟨(some 44), .bin .add .no (.t 42) (.t 43), none⟩,
  ⟨(some 45), .move (.t 12), none⟩,
  ⟨(some 46), .bin .shr .no (.t 45) (.k (.sc (.int .u64 32))), none⟩,
  ⟨(some 47), .bin .add .no (.t 44) (.t 46), none⟩,
  ⟨(some 4), .move (.t 47), none⟩]
def m49_r11 : List MI := [
  ⟨(some 48), .move (.t 0), none⟩,
  ⟨(some 49), .move (.t 1), none⟩,
  ⟨(some 50), .bin .mul .no (.t 48) (.t 49), none⟩,
  ⟨(some 5), .move (.t 50), none⟩]
def m49_code : MCode := (.seq (.ops m49_r0) (.seq (.ops m49_r1) (.seq (.ops m49_r2) (.seq (.ops m49_r3) (.seq (.ops m49_r4) (.seq (.ops m49_r5) (.seq (.ops m49_r6) (.seq (.ops m49_r7) (.seq (.ops m49_r8) (.seq (.ops m49_r9) (.seq (.ops m49_r10) (.seq (.ops m49_r11) .ret))))))))))))
def m49 : MFunc := ⟨51, [.tmp 4, .tmp 5], m49_code⟩

def m50_r0 : List MI := [
  ⟨(some 4), .move (.k (.sc (.bool false))), none⟩]
def m50_r1 : List MI := [
  ⟨(some 5), .move (.t 1), none⟩,
  ⟨(some 6), .bin .geq .no (.t 5) (.k (.sc (.int .i64 0))), none⟩,
  ⟨(some 7), .move (.t 6), none⟩,
  ⟨(some 8), .move (.t 1), (some (7, true))⟩,
  ⟨(some 9), .move (.t 0), (some (7, true))⟩,
  ⟨(some 10), .lenSlice (.t 9), (some (7, true))⟩,
  ⟨(some 11), .bin .lss .no (.t 8) (.t 10), (some (7, true))⟩,
  ⟨(some 12), .pick (.t 7) (.t 11) (.k (.sc (.bool false))), none⟩,
  ⟨(some 4), .move (.t 12), none⟩]
def m50_code : MCode := (.seq (.ops m50_r0) (.seq (.ops m50_r1) .ret))
def m50 : MFunc := ⟨13, [.tmp 4], m50_code⟩

def DD0 : Nat → Option MFunc := fun f => match f with
  | 3 => some m3
  | 4 => some m4
  | 5 => some m5
  | 6 => some m6
  | 7 => some m7
  | 8 => some m8
  | 9 => some m9
  | 10 => some m10
  | 11 => some m11
  | 12 => some m12
  | 13 => some m13
  | 14 => some m14
  | 15 => some m15
  | 16 => some m16
  | 17 => some m17
  | 18 => some m18
  | 19 => some m19
  | 20 => some m20
  | 21 => some m21
  | 22 => some m22
  | 23 => some m23
  | 24 => some m24
  | 25 => some m25
  | 26 => some m26
  | 27 => some m27
  | 28 => some m28
  | 29 => some m29
  | 30 => some m30
  | 31 => some m31
  | 32 => some m32
  | 33 => some m33
  | 34 => some m34
  | 35 => some m35
  | 36 => some m36
  | 37 => some m37
  | 38 => some m38
  | 39 => some m39
  | 40 => some m40
  | 41 => some m41
  | 42 => some m42
  | 43 => some m43
  | 44 => some m44
  | 45 => some m45
  | 46 => some m46
  | 47 => some m47
  | 48 => some m48
  | 49 => some m49
  | 50 => some m50
  | _ => none
def DD : Nat → Option MFunc := withKnown [9] DD0
theorem c3 : mfun Tryd.prog jxX 3 = some m3 := by kernel_rfl
theorem c4 : mfun Tryd.prog jxX 4 = some m4 := by kernel_rfl
theorem c5 : mfun Tryd.prog jxX 5 = some m5 := by kernel_rfl
theorem c6 : mfun Tryd.prog jxX 6 = some m6 := by kernel_rfl
theorem c7 : mfun Tryd.prog jxX 7 = some m7 := by kernel_rfl
theorem c8 : mfun Tryd.prog jxX 8 = some m8 := by kernel_rfl
theorem c9 : mfun Tryd.prog jxX 9 = some m9 := by kernel_rfl
theorem c10 : mfun Tryd.prog jxX 10 = some m10 := by kernel_rfl
theorem c11 : mfun Tryd.prog jxX 11 = some m11 := by kernel_rfl
theorem c12 : mfun Tryd.prog jxX 12 = some m12 := by kernel_rfl
theorem c13 : mfun Tryd.prog jxX 13 = some m13 := by kernel_rfl
theorem c14 : mfun Tryd.prog jxX 14 = some m14 := by kernel_rfl
theorem c15 : mfun Tryd.prog jxX 15 = some m15 := by kernel_rfl
theorem c16 : mfun Tryd.prog jxX 16 = some m16 := by kernel_rfl
theorem c17 : mfun Tryd.prog jxX 17 = some m17 := by kernel_rfl
theorem c18 : mfun Tryd.prog jxX 18 = some m18 := by kernel_rfl
theorem c19 : mfun Tryd.prog jxX 19 = some m19 := by kernel_rfl
theorem c20 : mfun Tryd.prog jxX 20 = some m20 := by kernel_rfl
theorem c21 : mfun Tryd.prog jxX 21 = some m21 := by kernel_rfl
theorem c22 : mfun Tryd.prog jxX 22 = some m22 := by kernel_rfl
theorem c23 : mfun Tryd.prog jxX 23 = some m23 := by kernel_rfl
theorem c24 : mfun Tryd.prog jxX 24 = some m24 := by kernel_rfl
theorem c25 : mfun Tryd.prog jxX 25 = some m25 := by kernel_rfl
theorem c26 : mfun Tryd.prog jxX 26 = some m26 := by kernel_rfl
theorem c27 : mfun Tryd.prog jxX 27 = some m27 := by kernel_rfl
theorem c28 : mfun Tryd.prog jxX 28 = some m28 := by kernel_rfl
theorem c29 : mfun Tryd.prog jxX 29 = some m29 := by kernel_rfl
theorem c30 : mfun Tryd.prog jxX 30 = some m30 := by kernel_rfl
theorem c31 : mfun Tryd.prog jxX 31 = some m31 := by kernel_rfl
theorem c32 : mfun Tryd.prog jxX 32 = some m32 := by kernel_rfl
theorem c33 : mfun Tryd.prog jxX 33 = some m33 := by kernel_rfl
theorem c34 : mfun Tryd.prog jxX 34 = some m34 := by kernel_rfl
theorem c35 : mfun Tryd.prog jxX 35 = some m35 := by kernel_rfl
theorem c36 : mfun Tryd.prog jxX 36 = some m36 := by kernel_rfl
theorem c37 : mfun Tryd.prog jxX 37 = some m37 := by kernel_rfl
theorem c38 : mfun Tryd.prog jxX 38 = some m38 := by kernel_rfl
theorem c39 : mfun Tryd.prog jxX 39 = some m39 := by kernel_rfl
theorem c40 : mfun Tryd.prog jxX 40 = some m40 := by kernel_rfl
theorem c41 : mfun Tryd.prog jxX 41 = some m41 := by kernel_rfl
theorem c42 : mfun Tryd.prog jxX 42 = some m42 := by kernel_rfl
theorem c43 : mfun Tryd.prog jxX 43 = some m43 := by kernel_rfl
theorem c44 : mfun Tryd.prog jxX 44 = some m44 := by kernel_rfl
theorem c45 : mfun Tryd.prog jxX 45 = some m45 := by kernel_rfl
theorem c46 : mfun Tryd.prog jxX 46 = some m46 := by kernel_rfl
theorem c47 : mfun Tryd.prog jxX 47 = some m47 := by kernel_rfl
theorem c48 : mfun Tryd.prog jxX 48 = some m48 := by kernel_rfl
theorem c49 : mfun Tryd.prog jxX 49 = some m49 := by kernel_rfl
theorem c50 : mfun Tryd.prog jxX 50 = some m50 := by kernel_rfl
theorem d3 : DD 3 = some m3 := rfl
theorem d4 : DD 4 = some m4 := rfl
theorem d5 : DD 5 = some m5 := rfl
theorem d6 : DD 6 = some m6 := rfl
theorem d7 : DD 7 = some m7 := rfl
theorem d8 : DD 8 = some m8 := rfl
theorem d9 : DD 9 = some knownM := rfl
theorem d10 : DD 10 = some m10 := rfl
theorem d11 : DD 11 = some m11 := rfl
theorem d12 : DD 12 = some m12 := rfl
theorem d13 : DD 13 = some m13 := rfl
theorem d14 : DD 14 = some m14 := rfl
theorem d15 : DD 15 = some m15 := rfl
theorem d16 : DD 16 = some m16 := rfl
theorem d17 : DD 17 = some m17 := rfl
theorem d18 : DD 18 = some m18 := rfl
theorem d19 : DD 19 = some m19 := rfl
theorem d20 : DD 20 = some m20 := rfl
theorem d21 : DD 21 = some m21 := rfl
theorem d22 : DD 22 = some m22 := rfl
theorem d23 : DD 23 = some m23 := rfl
theorem d24 : DD 24 = some m24 := rfl
theorem d25 : DD 25 = some m25 := rfl
theorem d26 : DD 26 = some m26 := rfl
theorem d27 : DD 27 = some m27 := rfl
theorem d28 : DD 28 = some m28 := rfl
theorem d29 : DD 29 = some m29 := rfl
theorem d30 : DD 30 = some m30 := rfl
theorem d31 : DD 31 = some m31 := rfl
theorem d32 : DD 32 = some m32 := rfl
theorem d33 : DD 33 = some m33 := rfl
theorem d34 : DD 34 = some m34 := rfl
theorem d35 : DD 35 = some m35 := rfl
theorem d36 : DD 36 = some m36 := rfl
theorem d37 : DD 37 = some m37 := rfl
theorem d38 : DD 38 = some m38 := rfl
theorem d39 : DD 39 = some m39 := rfl
theorem d40 : DD 40 = some m40 := rfl
theorem d41 : DD 41 = some m41 := rfl
theorem d42 : DD 42 = some m42 := rfl
theorem d43 : DD 43 = some m43 := rfl
theorem d44 : DD 44 = some m44 := rfl
theorem d45 : DD 45 = some m45 := rfl
theorem d46 : DD 46 = some m46 := rfl
theorem d47 : DD 47 = some m47 := rfl
theorem d48 : DD 48 = some m48 := rfl
theorem d49 : DD 49 = some m49 := rfl
theorem d50 : DD 50 = some m50 := rfl
theorem DD0_ok (w : World) : FunOk Tryd.prog w jxX DD0 := by
  intro f m h
  refine mfun_ok _ w _ f m ?_
  unfold DD0 at h
  split at h
  · cases h; exact c3
  · cases h; exact c4
  · cases h; exact c5
  · cases h; exact c6
  · cases h; exact c7
  · cases h; exact c8
  · cases h; exact c9
  · cases h; exact c10
  · cases h; exact c11
  · cases h; exact c12
  · cases h; exact c13
  · cases h; exact c14
  · cases h; exact c15
  · cases h; exact c16
  · cases h; exact c17
  · cases h; exact c18
  · cases h; exact c19
  · cases h; exact c20
  · cases h; exact c21
  · cases h; exact c22
  · cases h; exact c23
  · cases h; exact c24
  · cases h; exact c25
  · cases h; exact c26
  · cases h; exact c27
  · cases h; exact c28
  · cases h; exact c29
  · cases h; exact c30
  · cases h; exact c31
  · cases h; exact c32
  · cases h; exact c33
  · cases h; exact c34
  · cases h; exact c35
  · cases h; exact c36
  · cases h; exact c37
  · cases h; exact c38
  · cases h; exact c39
  · cases h; exact c40
  · cases h; exact c41
  · cases h; exact c42
  · cases h; exact c43
  · cases h; exact c44
  · cases h; exact c45
  · cases h; exact c46
  · cases h; exact c47
  · cases h; exact c48
  · cases h; exact c49
  · cases h; exact c50
  · cases h
end Go.Proofs.YtfmldkjidfigbaaDoor
