/- The plain machine's functions of this seat, as a program of mine printed them (Prt.lean), and that they are what compiling gives. -/
import Derived.Test.YtkkkigkfklngdaaDoorJxKRun
import Derived.Test.YtkkkigkfklngdaaDoorJxW3
import Derived.Test.YtkkkigkfklngdaaDoorChecked
namespace Go.Proofs.YtkkkigkfklngdaaDoor
open Go Go.Jx
def jxX : Exts := exts [9,9,0,0,0,0,0,0,0,0,0,0,0,0,0,0,0,0,0,0,0,0,0,0,0,0,0,0,0,0,0,0,0,0,0,0,0,0,0,0,0,0,0,0,0,0,1,0,0,0,0,0,0,0,0,0,0,9,9,0,2]
def m3_r0 : List MI := [
  ⟨(some 3), .box 27 (.t 1), none⟩,
  ⟨(some 4), .move (.k (.sc (.bool false))), none⟩]
def m3_r1 : List MI := [
  ⟨(some 6), .move (.t 0), none⟩,
  ⟨(some 7), .load (some 5) (.t 3), none⟩,
  ⟨(some 8), .call 8 [(.t 6), (.t 7)], none⟩,
  ⟨(some 5), .move (.t 8), none⟩]
def m3_r2 : List MI := [
  ⟨(some 9), .move (.t 0), none⟩,
  ⟨(some 10), .bin .lss .no (.t 9) (.k (.sc (.int .i64 1))), none⟩,
  ⟨(some 11), .move (.t 10), none⟩,
  ⟨(some 12), .move (.t 0), (some (11, false))⟩,
  ⟨(some 13), .bin .gtr .no (.t 12) (.k (.sc (.int .i64 400))), (some (11, false))⟩,
  ⟨(some 14), .pick (.t 11) (.k (.sc (.bool true))) (.t 13), none⟩]
def m3_r3 : List MI := [
  ⟨(some 15), .move (.t 5), none⟩,
  ⟨(some 16), .lenSlice (.t 15), none⟩,
  ⟨(some 17), .bin .eql .no (.t 16) (.k (.sc (.int .i64 0))), none⟩,
  ⟨(some 18), .move (.t 17), none⟩,
  ⟨(some 19), .call 9 [], (some (18, true))⟩,
  ⟨(some 20), .pick (.t 18) (.t 19) (.k (.sc (.bool false))), none⟩,
  ⟨(some 4), .move (.t 20), none⟩]
def m3_r4 : List MI := [
  ⟨(some 21), .move (.t 5), none⟩,
  ⟨(some 22), .move (.t 0), none⟩,
  ⟨(some 23), .load (some 5) (.t 3), none⟩,
  ⟨(some 24), .call 11 [(.t 22), (.t 23)], none⟩,
  ⟨(some 25), .call 10 [(.t 21), (.t 24)], none⟩,
  ⟨(some 26), .move (.t 25), none⟩,
  ⟨(some 27), .move (.t 5), (some (26, true))⟩,
  ⟨(some 28), .call 12 [(.t 27)], (some (26, true))⟩,
  ⟨(some 29), .pick (.t 26) (.t 28) (.k (.sc (.bool false))), none⟩,
  ⟨(some 30), .move (.t 29), none⟩,
  ⟨(some 31), .move (.t 5), (some (30, true))⟩,
  ⟨(some 32), .call 13 [(.t 31)], (some (30, true))⟩,
  ⟨(some 33), .bin .eql .no (.t 32) (.k (.sc (.str []))), (some (30, true))⟩,
  ⟨(some 34), .pick (.t 30) (.t 33) (.k (.sc (.bool false))), none⟩,
  ⟨(some 35), .move (.t 34), none⟩,
  ⟨(some 36), .call 9 [], (some (35, true))⟩,
  ⟨(some 37), .pick (.t 35) (.t 36) (.k (.sc (.bool false))), none⟩,
  ⟨(some 4), .move (.t 37), none⟩]
def m3_code : MCode := (.seq (.ops m3_r0) (.seq (.ops m3_r1) (.seq (.seq (.ops m3_r2) (.cond (.t 14) (.seq (.ops m3_r3) .ret) .skip)) (.seq (.ops m3_r4) .ret))))
def m3 : MFunc := ⟨38, [.tmp 4], m3_code⟩

def m4_r0 : List MI := [
  ⟨(some 7), .box 27 (.t 3), none⟩,
  ⟨(some 8), .move (.k (.sc (.bool false))), none⟩]
def m4_r1 : List MI := [
  ⟨(some 18), .move (.t 0), none⟩,
  ⟨(some 19), .lenSlice (.t 18), none⟩,
  ⟨(some 20), .bin .gtr .no (.t 19) (.k (.sc (.int .i64 400))), none⟩,
  ⟨(some 21), .move (.t 20), none⟩,
  ⟨(some 22), .move (.t 0), (some (21, false))⟩,
  ⟨(some 23), .call 14 [(.t 22)], (some (21, false))⟩,
  ⟨(some 24), .un .not (.t 23), (some (21, false))⟩,
  ⟨(some 25), .pick (.t 21) (.k (.sc (.bool true))) (.t 24), none⟩,
  ⟨(some 26), .move (.t 25), none⟩,
  ⟨(some 27), .move (.t 1), (some (26, false))⟩,
  ⟨(some 28), .bin .lss .no (.t 27) (.k (.sc (.int .i64 0))), (some (26, false))⟩,
  ⟨(some 29), .pick (.t 26) (.k (.sc (.bool true))) (.t 28), none⟩,
  ⟨(some 30), .move (.t 29), none⟩,
  ⟨(some 31), .move (.t 1), (some (30, false))⟩,
  ⟨(some 32), .move (.t 0), (some (30, false))⟩,
  ⟨(some 33), .lenSlice (.t 32), (some (30, false))⟩,
  ⟨(some 34), .bin .geq .no (.t 31) (.t 33), (some (30, false))⟩,
  ⟨(some 35), .pick (.t 30) (.k (.sc (.bool true))) (.t 34), none⟩,
  ⟨(some 36), .move (.t 35), none⟩,
  ⟨(some 37), .move (.t 2), (some (36, false))⟩,
  ⟨(some 38), .bin .lss .no (.t 37) (.k (.sc (.int .i64 1))), (some (36, false))⟩,
  ⟨(some 39), .pick (.t 36) (.k (.sc (.bool true))) (.t 38), none⟩,
  ⟨(some 40), .move (.t 39), none⟩,
  ⟨(some 41), .move (.t 2), (some (40, false))⟩,
  ⟨(some 42), .move (.t 0), (some (40, false))⟩,
  ⟨(some 43), .lenSlice (.t 42), (some (40, false))⟩,
  ⟨(some 44), .move (.t 1), (some (40, false))⟩,
  ⟨(some 45), .bin .sub .no (.t 43) (.t 44), (some (40, false))⟩,
  ⟨(some 46), .bin .gtr .no (.t 41) (.t 45), (some (40, false))⟩,
  ⟨(some 47), .pick (.t 40) (.k (.sc (.bool true))) (.t 46), none⟩]
def m4_r2 : List MI := [
  ⟨(some 48), .call 9 [], none⟩,
  ⟨(some 8), .move (.t 48), none⟩]
def m4_r3 : List DI := [
  ⟨⟨(some 49), .move (.t 0), none⟩, 0, [], []⟩,
  ⟨⟨(some 50), .move (.t 1), none⟩, 0, [], []⟩,
  ⟨⟨(some 51), .move (.t 2), none⟩, 0, [], []⟩,
  ⟨⟨(some 52), .load (some 5) (.t 7), none⟩, 1, [], []⟩,
  ⟨⟨(some 53), .call 16 [(.t 49), (.t 50), (.t 51), (.t 52)], none⟩, 2, [], []⟩,
  ⟨⟨(some 54), .move (.t 1), none⟩, 0, [4], []⟩,
  ⟨⟨(some 55), .move (.t 2), none⟩, 0, [4], []⟩,
  ⟨⟨(some 56), .load (some 5) (.t 7), none⟩, 1, [4], []⟩,
  ⟨⟨(some 57), .call 15 [(.t 53), (.t 54), (.t 55), (.t 56)], none⟩, 2, [], []⟩,
  ⟨⟨(some 9), .move (.t 57), none⟩, 0, [], []⟩]
def m4_r4 : List MI := [
  ⟨(some 58), .move (.t 0), none⟩,
  ⟨(some 59), .move (.t 1), none⟩,
  ⟨(some 60), .move (.t 2), none⟩,
  ⟨(some 61), .load (some 5) (.t 7), none⟩,
  ⟨(some 62), .call 17 [(.t 58), (.t 59), (.t 60), (.t 61)], none⟩,
  ⟨(some 10), .move (.t 62), none⟩]
def m4_r5 : List MI := [
  ⟨(some 63), .move (.t 9), none⟩,
  ⟨(some 64), .lenSlice (.t 63), none⟩,
  ⟨(some 65), .move (.t 0), none⟩,
  ⟨(some 66), .lenSlice (.t 65), none⟩,
  ⟨(some 67), .bin .neq .no (.t 64) (.t 66), none⟩,
  ⟨(some 68), .move (.t 67), none⟩,
  ⟨(some 69), .move (.t 10), (some (68, false))⟩,
  ⟨(some 70), .lenSlice (.t 69), (some (68, false))⟩,
  ⟨(some 71), .move (.t 0), (some (68, false))⟩,
  ⟨(some 72), .lenSlice (.t 71), (some (68, false))⟩,
  ⟨(some 73), .bin .neq .no (.t 70) (.t 72), (some (68, false))⟩,
  ⟨(some 74), .pick (.t 68) (.k (.sc (.bool true))) (.t 73), none⟩]
def m4_r6 : List MI := [
  ⟨(some 8), .move (.k (.sc (.bool false))), none⟩]
def m4_r7 : List MI := [
  ⟨(some 75), .load (some 5) (.t 7), none⟩,
  ⟨(some 76), .build [.int .i32 0, .int .u8 0, .int .u16 0, .int .u8 0, .int .u32 0, .int .u8 0, .int .u32 0] [(0, 1, (.k (.sc (.int .i32 32)))), (2, 5, (.t 75))], none⟩,
  ⟨(some 11), .alloc 37 [.int .i32 0, .int .u8 0, .int .u16 0, .int .u8 0, .int .u32 0, .int .u8 0, .int .u32 0], none⟩,
  ⟨none, .store 7 (.t 11) (.t 76), none⟩]
def m4_r8 : List MI := [
  ⟨(some 12), .move (.k (.sc (.int .i64 0))), none⟩]
def m4_r10 : List MI := [
  ⟨(some 77), .move (.t 12), none⟩,
  ⟨(some 78), .move (.t 0), none⟩,
  ⟨(some 79), .lenSlice (.t 78), none⟩,
  ⟨(some 80), .bin .lss .no (.t 77) (.t 79), none⟩]
def m4_r11 : List MI := [
  ⟨(some 83), .move (.t 0), none⟩,
  ⟨(some 84), .move (.t 12), none⟩,
  ⟨(some 85), .indexSlice 7 (.t 83) (.t 84), none⟩,
  ⟨(some 86), .fieldAddr 2 (.t 85), none⟩,
  ⟨(some 87), .load (some 5) (.t 86), none⟩,
  ⟨(some 88), .build [.int .i32 0, .int .u8 0, .int .u16 0, .int .u8 0, .int .u32 0, .int .u8 0, .int .u32 0] [(0, 1, (.k (.sc (.int .i32 32)))), (2, 5, (.t 87))], none⟩,
  ⟨(some 13), .alloc 37 [.int .i32 0, .int .u8 0, .int .u16 0, .int .u8 0, .int .u32 0, .int .u8 0, .int .u32 0], none⟩,
  ⟨none, .store 7 (.t 13) (.t 88), none⟩]
def m4_r12 : List MI := [
  ⟨(some 89), .move (.t 12), none⟩,
  ⟨(some 90), .move (.t 1), none⟩,
  ⟨(some 91), .bin .sub .no (.t 90) (.k (.sc (.int .i64 1))), none⟩,
  ⟨(some 92), .bin .eql .no (.t 89) (.t 91), none⟩,
  ⟨(some 93), .move (.t 92), none⟩,
  ⟨(some 94), .move (.t 0), (some (93, true))⟩,
  ⟨(some 95), .move (.t 1), (some (93, true))⟩,
  ⟨(some 96), .indexSlice 7 (.t 94) (.t 95), (some (93, true))⟩,
  ⟨(some 97), .fieldAddr 1 (.t 96), (some (93, true))⟩,
  ⟨(some 98), .load none (.t 97), (some (93, true))⟩,
  ⟨(some 99), .bin .eql .no (.t 98) (.k (.sc (.int .u8 2))), (some (93, true))⟩,
  ⟨(some 100), .pick (.t 93) (.t 99) (.k (.sc (.bool false))), none⟩,
  ⟨(some 101), .move (.t 100), none⟩,
  ⟨(some 102), .move (.t 12), (some (101, false))⟩,
  ⟨(some 103), .move (.t 1), (some (101, false))⟩,
  ⟨(some 104), .bin .eql .no (.t 102) (.t 103), (some (101, false))⟩,
  ⟨(some 105), .move (.t 104), (some (101, false))⟩,
  ⟨(some 106), .move (.t 0), (some (105, true))⟩,
  ⟨(some 107), .move (.t 1), (some (105, true))⟩,
  ⟨(some 108), .indexSlice 7 (.t 106) (.t 107), (some (105, true))⟩,
  ⟨(some 109), .fieldAddr 1 (.t 108), (some (105, true))⟩,
  ⟨(some 110), .load none (.t 109), (some (105, true))⟩,
  ⟨(some 111), .bin .eql .no (.t 110) (.k (.sc (.int .u8 2))), (some (105, true))⟩,
  ⟨(some 112), .pick (.t 105) (.t 111) (.k (.sc (.bool false))), (some (101, false))⟩,
  ⟨(some 113), .pick (.t 101) (.k (.sc (.bool true))) (.t 112), none⟩,
  ⟨(some 14), .move (.t 113), none⟩]
def m4_r13 : List MI := [
  ⟨(some 114), .move (.t 0), none⟩,
  ⟨(some 115), .lenSlice (.t 114), none⟩,
  ⟨(some 116), .move (.t 2), none⟩,
  ⟨(some 117), .bin .sub .no (.t 115) (.t 116), none⟩,
  ⟨(some 15), .move (.t 117), none⟩]
def m4_r14 : List MI := [
  ⟨(some 118), .move (.t 15), none⟩,
  ⟨(some 119), .bin .gtr .no (.t 118) (.k (.sc (.int .i64 0))), none⟩,
  ⟨(some 120), .move (.t 119), none⟩,
  ⟨(some 121), .move (.t 15), (some (120, true))⟩,
  ⟨(some 122), .move (.t 0), (some (120, true))⟩,
  ⟨(some 123), .lenSlice (.t 122), (some (120, true))⟩,
  ⟨(some 124), .bin .lss .no (.t 121) (.t 123), (some (120, true))⟩,
  ⟨(some 125), .pick (.t 120) (.t 124) (.k (.sc (.bool false))), none⟩,
  ⟨(some 126), .move (.t 125), none⟩,
  ⟨(some 127), .move (.t 0), (some (126, true))⟩,
  ⟨(some 128), .move (.t 15), (some (126, true))⟩,
  ⟨(some 129), .indexSlice 7 (.t 127) (.t 128), (some (126, true))⟩,
  ⟨(some 130), .fieldAddr 1 (.t 129), (some (126, true))⟩,
  ⟨(some 131), .load none (.t 130), (some (126, true))⟩,
  ⟨(some 132), .bin .eql .no (.t 131) (.k (.sc (.int .u8 2))), (some (126, true))⟩,
  ⟨(some 133), .pick (.t 126) (.t 132) (.k (.sc (.bool false))), none⟩,
  ⟨(some 134), .move (.t 133), none⟩,
  ⟨(some 135), .move (.t 12), (some (134, true))⟩,
  ⟨(some 136), .move (.t 15), (some (134, true))⟩,
  ⟨(some 137), .bin .sub .no (.t 136) (.k (.sc (.int .i64 1))), (some (134, true))⟩,
  ⟨(some 138), .bin .eql .no (.t 135) (.t 137), (some (134, true))⟩,
  ⟨(some 139), .pick (.t 134) (.t 138) (.k (.sc (.bool false))), none⟩,
  ⟨(some 16), .move (.t 139), none⟩]
def m4_r15 : List MI := [
  ⟨(some 150), .move (.t 12), none⟩,
  ⟨(some 151), .move (.t 15), none⟩,
  ⟨(some 152), .bin .geq .no (.t 150) (.t 151), none⟩,
  ⟨(some 149), .move (.t 152), none⟩]
def m4_r16 : List DI := [
  ⟨⟨(some 153), .move (.t 9), none⟩, 0, [], []⟩,
  ⟨⟨(some 154), .move (.t 12), none⟩, 0, [], []⟩,
  ⟨⟨(some 155), .indexSlice 7 (.t 153) (.t 154), none⟩, 0, [], []⟩,
  ⟨⟨(some 156), .load (some 7) (.t 155), none⟩, 1, [], []⟩,
  ⟨⟨(some 157), .load (some 7) (.t 11), none⟩, 1, [], []⟩,
  ⟨⟨(some 158), .bin .neq (.agg [.int .i32, .int .u8, .int .u16, .int .u8, .int .u32, .int .u8, .int .u32]) (.t 156) (.t 157), none⟩, 0, [], []⟩]
def m4_r17 : List MI := [
  ⟨(some 8), .move (.k (.sc (.bool false))), none⟩]
def m4_r18 : List MI := [
  ⟨(some 160), .move (.t 14), none⟩,
  ⟨(some 161), .move (.t 160), none⟩,
  ⟨(some 162), .move (.t 16), (some (161, false))⟩,
  ⟨(some 163), .pick (.t 161) (.k (.sc (.bool true))) (.t 162), none⟩,
  ⟨(some 159), .move (.t 163), none⟩]
def m4_r19 : List DI := [
  ⟨⟨(some 164), .move (.t 9), none⟩, 0, [], []⟩,
  ⟨⟨(some 165), .move (.t 12), none⟩, 0, [], []⟩,
  ⟨⟨(some 166), .indexSlice 7 (.t 164) (.t 165), none⟩, 0, [], []⟩,
  ⟨⟨(some 167), .load (some 7) (.t 166), none⟩, 1, [], []⟩,
  ⟨⟨(some 168), .load (some 7) (.t 13), none⟩, 1, [], []⟩,
  ⟨⟨(some 169), .bin .neq (.agg [.int .i32, .int .u8, .int .u16, .int .u8, .int .u32, .int .u8, .int .u32]) (.t 167) (.t 168), none⟩, 0, [], []⟩]
def m4_r20 : List MI := [
  ⟨(some 8), .move (.k (.sc (.bool false))), none⟩]
def m4_r21 : List DI := [
  ⟨⟨(some 140), .move (.t 9), none⟩, 0, [], []⟩,
  ⟨⟨(some 141), .move (.t 12), none⟩, 0, [], []⟩,
  ⟨⟨(some 142), .indexSlice 7 (.t 140) (.t 141), none⟩, 0, [], []⟩,
  ⟨⟨(some 143), .load (some 7) (.t 142), none⟩, 1, [], []⟩,
  ⟨⟨(some 144), .move (.t 0), none⟩, 0, [], []⟩,
  ⟨⟨(some 145), .move (.t 12), none⟩, 0, [], []⟩,
  ⟨⟨(some 146), .indexSlice 7 (.t 144) (.t 145), none⟩, 0, [], []⟩,
  ⟨⟨(some 147), .load (some 7) (.t 146), none⟩, 1, [], []⟩,
  ⟨⟨(some 148), .bin .neq (.agg [.int .i32, .int .u8, .int .u16, .int .u8, .int .u32, .int .u8, .int .u32]) (.t 143) (.t 147), none⟩, 0, [], []⟩]
def m4_r22 : List MI := [
  ⟨(some 8), .move (.k (.sc (.bool false))), none⟩]
def m4_r23 : List MI := [
  ⟨(some 170), .move (.t 1), none⟩,
  ⟨(some 171), .move (.t 2), none⟩,
  ⟨(some 172), .bin .add .no (.t 170) (.t 171), none⟩,
  ⟨(some 173), .move (.t 0), none⟩,
  ⟨(some 174), .lenSlice (.t 173), none⟩,
  ⟨(some 175), .bin .lss .no (.t 172) (.t 174), none⟩,
  ⟨(some 176), .move (.t 175), none⟩,
  ⟨(some 177), .move (.t 0), (some (176, true))⟩,
  ⟨(some 178), .move (.t 1), (some (176, true))⟩,
  ⟨(some 179), .move (.t 2), (some (176, true))⟩,
  ⟨(some 180), .bin .add .no (.t 178) (.t 179), (some (176, true))⟩,
  ⟨(some 181), .indexSlice 7 (.t 177) (.t 180), (some (176, true))⟩,
  ⟨(some 182), .fieldAddr 1 (.t 181), (some (176, true))⟩,
  ⟨(some 183), .load none (.t 182), (some (176, true))⟩,
  ⟨(some 184), .bin .eql .no (.t 183) (.k (.sc (.int .u8 2))), (some (176, true))⟩,
  ⟨(some 185), .pick (.t 176) (.t 184) (.k (.sc (.bool false))), none⟩,
  ⟨(some 186), .move (.t 185), none⟩,
  ⟨(some 187), .move (.t 12), (some (186, true))⟩,
  ⟨(some 188), .move (.t 1), (some (186, true))⟩,
  ⟨(some 189), .move (.t 2), (some (186, true))⟩,
  ⟨(some 190), .bin .add .no (.t 188) (.t 189), (some (186, true))⟩,
  ⟨(some 191), .bin .eql .no (.t 187) (.t 190), (some (186, true))⟩,
  ⟨(some 192), .pick (.t 186) (.t 191) (.k (.sc (.bool false))), none⟩,
  ⟨(some 17), .move (.t 192), none⟩]
def m4_r24 : List MI := [
  ⟨(some 203), .move (.t 12), none⟩,
  ⟨(some 204), .move (.t 1), none⟩,
  ⟨(some 205), .bin .geq .no (.t 203) (.t 204), none⟩,
  ⟨(some 206), .move (.t 205), none⟩,
  ⟨(some 207), .move (.t 12), (some (206, true))⟩,
  ⟨(some 208), .move (.t 1), (some (206, true))⟩,
  ⟨(some 209), .move (.t 2), (some (206, true))⟩,
  ⟨(some 210), .bin .add .no (.t 208) (.t 209), (some (206, true))⟩,
  ⟨(some 211), .bin .lss .no (.t 207) (.t 210), (some (206, true))⟩,
  ⟨(some 212), .pick (.t 206) (.t 211) (.k (.sc (.bool false))), none⟩,
  ⟨(some 202), .move (.t 212), none⟩]
def m4_r25 : List DI := [
  ⟨⟨(some 213), .move (.t 10), none⟩, 0, [], []⟩,
  ⟨⟨(some 214), .move (.t 12), none⟩, 0, [], []⟩,
  ⟨⟨(some 215), .indexSlice 7 (.t 213) (.t 214), none⟩, 0, [], []⟩,
  ⟨⟨(some 216), .load (some 7) (.t 215), none⟩, 1, [], []⟩,
  ⟨⟨(some 217), .load (some 7) (.t 11), none⟩, 1, [], []⟩,
  ⟨⟨(some 218), .bin .neq (.agg [.int .i32, .int .u8, .int .u16, .int .u8, .int .u32, .int .u8, .int .u32]) (.t 216) (.t 217), none⟩, 0, [], []⟩]
def m4_r26 : List MI := [
  ⟨(some 8), .move (.k (.sc (.bool false))), none⟩]
def m4_r27 : List MI := [
  ⟨(some 220), .move (.t 12), none⟩,
  ⟨(some 221), .move (.t 1), none⟩,
  ⟨(some 222), .bin .sub .no (.t 221) (.k (.sc (.int .i64 1))), none⟩,
  ⟨(some 223), .bin .eql .no (.t 220) (.t 222), none⟩,
  ⟨(some 224), .move (.t 223), none⟩,
  ⟨(some 225), .move (.t 0), (some (224, true))⟩,
  ⟨(some 226), .move (.t 1), (some (224, true))⟩,
  ⟨(some 227), .indexSlice 7 (.t 225) (.t 226), (some (224, true))⟩,
  ⟨(some 228), .fieldAddr 1 (.t 227), (some (224, true))⟩,
  ⟨(some 229), .load none (.t 228), (some (224, true))⟩,
  ⟨(some 230), .bin .eql .no (.t 229) (.k (.sc (.int .u8 2))), (some (224, true))⟩,
  ⟨(some 231), .pick (.t 224) (.t 230) (.k (.sc (.bool false))), none⟩,
  ⟨(some 232), .move (.t 231), none⟩,
  ⟨(some 233), .move (.t 17), (some (232, false))⟩,
  ⟨(some 234), .pick (.t 232) (.k (.sc (.bool true))) (.t 233), none⟩,
  ⟨(some 219), .move (.t 234), none⟩]
def m4_r28 : List DI := [
  ⟨⟨(some 235), .move (.t 10), none⟩, 0, [], []⟩,
  ⟨⟨(some 236), .move (.t 12), none⟩, 0, [], []⟩,
  ⟨⟨(some 237), .indexSlice 7 (.t 235) (.t 236), none⟩, 0, [], []⟩,
  ⟨⟨(some 238), .load (some 7) (.t 237), none⟩, 1, [], []⟩,
  ⟨⟨(some 239), .load (some 7) (.t 13), none⟩, 1, [], []⟩,
  ⟨⟨(some 240), .bin .neq (.agg [.int .i32, .int .u8, .int .u16, .int .u8, .int .u32, .int .u8, .int .u32]) (.t 238) (.t 239), none⟩, 0, [], []⟩]
def m4_r29 : List MI := [
  ⟨(some 8), .move (.k (.sc (.bool false))), none⟩]
def m4_r30 : List DI := [
  ⟨⟨(some 193), .move (.t 10), none⟩, 0, [], []⟩,
  ⟨⟨(some 194), .move (.t 12), none⟩, 0, [], []⟩,
  ⟨⟨(some 195), .indexSlice 7 (.t 193) (.t 194), none⟩, 0, [], []⟩,
  ⟨⟨(some 196), .load (some 7) (.t 195), none⟩, 1, [], []⟩,
  ⟨⟨(some 197), .move (.t 0), none⟩, 0, [], []⟩,
  ⟨⟨(some 198), .move (.t 12), none⟩, 0, [], []⟩,
  ⟨⟨(some 199), .indexSlice 7 (.t 197) (.t 198), none⟩, 0, [], []⟩,
  ⟨⟨(some 200), .load (some 7) (.t 199), none⟩, 1, [], []⟩,
  ⟨⟨(some 201), .bin .neq (.agg [.int .i32, .int .u8, .int .u16, .int .u8, .int .u32, .int .u8, .int .u32]) (.t 196) (.t 200), none⟩, 0, [], []⟩]
def m4_r31 : List MI := [
  ⟨(some 8), .move (.k (.sc (.bool false))), none⟩]
def m4_r32 : List MI := [
  ⟨(some 81), .move (.t 12), none⟩,
  ⟨(some 82), .bin .add .no (.t 81) (.k (.sc (.int .i64 1))), none⟩,
  ⟨(some 12), .move (.t 82), none⟩]
def m4_l9 : MCode := (.seq (.seq (.ops m4_r10) (.cond (.t 80) .skip (.exit 0))) (.seq (.block 1 (.seq (.ops m4_r11) (.seq (.ops m4_r12) (.seq (.ops m4_r13) (.seq (.ops m4_r14) (.seq (.block 2 (.seq (.ops m4_r15) (.cond (.t 149) (.seq (.draw m4_r16) (.cond (.t 158) (.seq (.ops m4_r17) .ret) .skip)) (.seq (.ops m4_r18) (.cond (.t 159) (.seq (.draw m4_r19) (.cond (.t 169) (.seq (.ops m4_r20) .ret) .skip)) (.seq (.draw m4_r21) (.cond (.t 148) (.seq (.ops m4_r22) .ret) .skip))))))) (.seq (.ops m4_r23) (.block 3 (.seq (.ops m4_r24) (.cond (.t 202) (.seq (.draw m4_r25) (.cond (.t 218) (.seq (.ops m4_r26) .ret) .skip)) (.seq (.ops m4_r27) (.cond (.t 219) (.seq (.draw m4_r28) (.cond (.t 240) (.seq (.ops m4_r29) .ret) .skip)) (.seq (.draw m4_r30) (.cond (.t 201) (.seq (.ops m4_r31) .ret) .skip)))))))))))))) (.ops m4_r32)))
def m4_r33 : List MI := [
  ⟨(some 241), .call 9 [], none⟩,
  ⟨(some 8), .move (.t 241), none⟩]
def m4_code : MCode := (.seq (.ops m4_r0) (.seq (.seq (.ops m4_r1) (.cond (.t 47) (.seq (.ops m4_r2) .ret) .skip)) (.seq (.draw m4_r3) (.seq (.ops m4_r4) (.seq (.seq (.ops m4_r5) (.cond (.t 74) (.seq (.ops m4_r6) .ret) .skip)) (.seq (.ops m4_r7) (.seq (.seq (.ops m4_r8) (.block 0 (.loop m4_l9))) (.seq (.ops m4_r33) .ret))))))))
def m4 : MFunc := ⟨242, [.tmp 8], m4_code⟩

def m5_r0 : List MI := [
  ⟨(some 4), .move (.k (.sc (.bool false))), none⟩]
def m5_r1 : List MI := [
  ⟨(some 12), .move (.t 1), none⟩,
  ⟨(some 13), .lenSlice (.t 12), none⟩,
  ⟨(some 14), .bin .gtr .no (.t 13) (.k (.sc (.int .i64 80))), none⟩]
def m5_r2 : List MI := [
  ⟨(some 15), .call 9 [], none⟩,
  ⟨(some 4), .move (.t 15), none⟩]
def m5_r3 : List MI := [
  ⟨(some 16), .move (.t 0), none⟩,
  ⟨(some 17), .build [.int .u16 0, .int .u8 0, .int .u32 0, .int .u8 0, .int .u32 0] [], none⟩,
  ⟨(some 18), .call 8 [(.t 16), (.t 17)], none⟩,
  ⟨(some 5), .move (.t 18), none⟩]
def m5_r4 : List MI := [
  ⟨(some 19), .move (.t 5), none⟩,
  ⟨(some 20), .lenSlice (.t 19), none⟩,
  ⟨(some 21), .bin .eql .no (.t 20) (.k (.sc (.int .i64 0))), none⟩]
def m5_r5 : List MI := [
  ⟨(some 22), .move (.t 0), none⟩,
  ⟨(some 23), .bin .lss .no (.t 22) (.k (.sc (.int .i64 1))), none⟩,
  ⟨(some 24), .move (.t 23), none⟩,
  ⟨(some 25), .move (.t 0), (some (24, false))⟩,
  ⟨(some 26), .bin .gtr .no (.t 25) (.k (.sc (.int .i64 400))), (some (24, false))⟩,
  ⟨(some 27), .pick (.t 24) (.k (.sc (.bool true))) (.t 26), none⟩,
  ⟨(some 28), .move (.t 27), none⟩,
  ⟨(some 29), .call 9 [], (some (28, true))⟩,
  ⟨(some 30), .pick (.t 28) (.t 29) (.k (.sc (.bool false))), none⟩,
  ⟨(some 4), .move (.t 30), none⟩]
def m5_r6 : List MI := [
  ⟨(some 6), .move (.k (.sc (.int .i64 0))), none⟩]
def m5_r8 : List MI := [
  ⟨(some 31), .move (.t 6), none⟩,
  ⟨(some 32), .move (.t 1), none⟩,
  ⟨(some 33), .lenSlice (.t 32), none⟩,
  ⟨(some 34), .bin .lss .no (.t 31) (.t 33), none⟩]
def m5_r9 : List MI := [
  ⟨(some 37), .move (.t 1), none⟩,
  ⟨(some 38), .move (.t 6), none⟩,
  ⟨(some 39), .indexSlice 10 (.t 37) (.t 38), none⟩,
  ⟨(some 40), .load (some 10) (.t 39), none⟩,
  ⟨(some 7), .alloc 41 [.int .u8 0, .int .i64 0, .int .i64 0, .int .i32 0, .bool false, .int .u16 0, .int .u8 0, .int .u32 0, .int .u8 0, .int .u32 0], none⟩,
  ⟨none, .store 10 (.t 7) (.t 40), none⟩]
def m5_r10 : List MI := [
  ⟨(some 41), .move (.t 5), none⟩,
  ⟨(some 42), .lenSlice (.t 41), none⟩,
  ⟨(some 8), .move (.t 42), none⟩]
def m5_r11 : List MI := [
  ⟨(some 43), .fieldAddr 0 (.t 7), none⟩,
  ⟨(some 44), .load none (.t 43), none⟩]
def m5_r12 : List MI := [
  ⟨(some 62), .bin .eql .no (.t 44) (.k (.sc (.int .u8 0))), none⟩,
  ⟨(some 61), .move (.t 62), none⟩]
def m5_r13 : List MI := [
  ⟨(some 64), .move (.t 5), none⟩,
  ⟨(some 65), .fieldAddr 1 (.t 7), none⟩,
  ⟨(some 66), .load none (.t 65), none⟩,
  ⟨(some 67), .fieldAddr 3 (.t 7), none⟩,
  ⟨(some 68), .load none (.t 67), none⟩,
  ⟨(some 69), .fieldAddr 4 (.t 7), none⟩,
  ⟨(some 70), .load none (.t 69), none⟩,
  ⟨(some 71), .fieldAddr 5 (.t 7), none⟩,
  ⟨(some 72), .load (some 5) (.t 71), none⟩,
  ⟨(some 73), .call 18 [(.t 64), (.t 66), (.t 68), (.t 70), (.t 72)], none⟩,
  ⟨(some 63), .move (.t 73), none⟩,
  ⟨(some 74), .extract (.t 63) 0, none⟩,
  ⟨(some 75), .extract (.t 63) 1, none⟩,
  ⟨(some 9), .move (.t 74), none⟩,
  ⟨(some 10), .move (.t 75), none⟩]
def m5_r14 : List MI := [
  ⟨(some 76), .fieldAddr 1 (.t 7), none⟩,
  ⟨(some 77), .load none (.t 76), none⟩,
  ⟨(some 78), .bin .geq .no (.t 77) (.k (.sc (.int .i64 0))), none⟩,
  ⟨(some 79), .move (.t 78), none⟩,
  ⟨(some 80), .fieldAddr 1 (.t 7), (some (79, true))⟩,
  ⟨(some 81), .load none (.t 80), (some (79, true))⟩,
  ⟨(some 82), .move (.t 8), (some (79, true))⟩,
  ⟨(some 83), .bin .lss .no (.t 81) (.t 82), (some (79, true))⟩,
  ⟨(some 84), .pick (.t 79) (.t 83) (.k (.sc (.bool false))), none⟩,
  ⟨(some 85), .move (.t 84), none⟩,
  ⟨(some 86), .fieldAddr 4 (.t 7), (some (85, true))⟩,
  ⟨(some 87), .load none (.t 86), (some (85, true))⟩,
  ⟨(some 88), .un .not (.t 87), (some (85, true))⟩,
  ⟨(some 89), .move (.t 88), (some (85, true))⟩,
  ⟨(some 90), .fieldAddr 1 (.t 7), (some (89, false))⟩,
  ⟨(some 91), .load none (.t 90), (some (89, false))⟩,
  ⟨(some 92), .move (.t 8), (some (89, false))⟩,
  ⟨(some 93), .bin .sub .no (.t 92) (.k (.sc (.int .i64 1))), (some (89, false))⟩,
  ⟨(some 94), .bin .lss .no (.t 91) (.t 93), (some (89, false))⟩,
  ⟨(some 95), .pick (.t 89) (.k (.sc (.bool true))) (.t 94), (some (85, true))⟩,
  ⟨(some 96), .pick (.t 85) (.t 95) (.k (.sc (.bool false))), none⟩,
  ⟨(some 11), .move (.t 96), none⟩]
def m5_r15 : List MI := [
  ⟨(some 97), .move (.t 10), none⟩,
  ⟨(some 98), .move (.t 11), none⟩,
  ⟨(some 99), .bin .neq .bool (.t 97) (.t 98), none⟩]
def m5_r16 : List MI := [
  ⟨(some 4), .move (.k (.sc (.bool false))), none⟩]
def m5_r17 : List MI := [
  ⟨(some 100), .move (.t 10), none⟩]
def m5_r18 : List MI := [
  ⟨(some 101), .move (.t 9), none⟩,
  ⟨(some 5), .move (.t 101), none⟩]
def m5_r19 : List MI := [
  ⟨(some 103), .bin .eql .no (.t 44) (.k (.sc (.int .u8 1))), none⟩,
  ⟨(some 102), .move (.t 103), none⟩]
def m5_r20 : List MI := [
  ⟨(some 104), .move (.t 5), none⟩,
  ⟨(some 105), .fieldAddr 1 (.t 7), none⟩,
  ⟨(some 106), .load none (.t 105), none⟩,
  ⟨(some 107), .fieldAddr 2 (.t 7), none⟩,
  ⟨(some 108), .load none (.t 107), none⟩,
  ⟨(some 109), .fieldAddr 5 (.t 7), none⟩,
  ⟨(some 110), .load (some 5) (.t 109), none⟩,
  ⟨(some 111), .call 16 [(.t 104), (.t 106), (.t 108), (.t 110)], none⟩,
  ⟨(some 5), .move (.t 111), none⟩]
def m5_r21 : List MI := [
  ⟨(some 113), .bin .eql .no (.t 44) (.k (.sc (.int .u8 2))), none⟩,
  ⟨(some 112), .move (.t 113), none⟩]
def m5_r22 : List MI := [
  ⟨(some 114), .move (.t 5), none⟩,
  ⟨(some 115), .fieldAddr 1 (.t 7), none⟩,
  ⟨(some 116), .load none (.t 115), none⟩,
  ⟨(some 117), .fieldAddr 2 (.t 7), none⟩,
  ⟨(some 118), .load none (.t 117), none⟩,
  ⟨(some 119), .fieldAddr 5 (.t 7), none⟩,
  ⟨(some 120), .load (some 5) (.t 119), none⟩,
  ⟨(some 121), .call 15 [(.t 114), (.t 116), (.t 118), (.t 120)], none⟩,
  ⟨(some 5), .move (.t 121), none⟩]
def m5_r23 : List MI := [
  ⟨(some 123), .bin .eql .no (.t 44) (.k (.sc (.int .u8 3))), none⟩,
  ⟨(some 122), .move (.t 123), none⟩]
def m5_r24 : List MI := [
  ⟨(some 124), .move (.t 5), none⟩,
  ⟨(some 125), .fieldAddr 1 (.t 7), none⟩,
  ⟨(some 126), .load none (.t 125), none⟩,
  ⟨(some 127), .fieldAddr 2 (.t 7), none⟩,
  ⟨(some 128), .load none (.t 127), none⟩,
  ⟨(some 129), .fieldAddr 5 (.t 7), none⟩,
  ⟨(some 130), .load (some 5) (.t 129), none⟩,
  ⟨(some 131), .call 17 [(.t 124), (.t 126), (.t 128), (.t 130)], none⟩,
  ⟨(some 5), .move (.t 131), none⟩]
def m5_r25 : List MI := [
  ⟨(some 45), .move (.t 5), none⟩,
  ⟨(some 46), .fieldAddr 2 (.t 7), none⟩,
  ⟨(some 47), .load none (.t 46), none⟩,
  ⟨(some 48), .fieldAddr 5 (.t 7), none⟩,
  ⟨(some 49), .load (some 5) (.t 48), none⟩,
  ⟨(some 50), .call 19 [(.t 45), (.t 47), (.t 49)], none⟩,
  ⟨(some 5), .move (.t 50), none⟩]
def m5_r26 : List MI := [
  ⟨(some 51), .fieldAddr 2 (.t 7), none⟩,
  ⟨(some 52), .load none (.t 51), none⟩,
  ⟨(some 53), .bin .geq .no (.t 52) (.k (.sc (.int .i64 1))), none⟩,
  ⟨(some 54), .move (.t 53), none⟩,
  ⟨(some 55), .fieldAddr 2 (.t 7), (some (54, true))⟩,
  ⟨(some 56), .load none (.t 55), (some (54, true))⟩,
  ⟨(some 57), .bin .leq .no (.t 56) (.k (.sc (.int .i64 400))), (some (54, true))⟩,
  ⟨(some 58), .pick (.t 54) (.t 57) (.k (.sc (.bool false))), none⟩]
def m5_r27 : List MI := [
  ⟨(some 59), .fieldAddr 2 (.t 7), none⟩,
  ⟨(some 60), .load none (.t 59), none⟩,
  ⟨(some 8), .move (.t 60), none⟩]
def m5_r28 : List MI := [
  ⟨(some 132), .move (.t 5), none⟩,
  ⟨(some 133), .lenSlice (.t 132), none⟩,
  ⟨(some 134), .move (.t 8), none⟩,
  ⟨(some 135), .bin .neq .no (.t 133) (.t 134), none⟩,
  ⟨(some 136), .move (.t 135), none⟩,
  ⟨(some 137), .move (.t 5), (some (136, false))⟩,
  ⟨(some 138), .call 12 [(.t 137)], (some (136, false))⟩,
  ⟨(some 139), .un .not (.t 138), (some (136, false))⟩,
  ⟨(some 140), .pick (.t 136) (.k (.sc (.bool true))) (.t 139), none⟩]
def m5_r29 : List MI := [
  ⟨(some 4), .move (.k (.sc (.bool false))), none⟩]
def m5_r30 : List MI := [
  ⟨(some 35), .move (.t 6), none⟩,
  ⟨(some 36), .bin .add .no (.t 35) (.k (.sc (.int .i64 1))), none⟩,
  ⟨(some 6), .move (.t 36), none⟩]
def m5_l7 : MCode := (.seq (.seq (.ops m5_r8) (.cond (.t 34) .skip (.exit 0))) (.seq (.block 1 (.seq (.ops m5_r9) (.seq (.ops m5_r10) (.seq (.seq (.ops m5_r11) (.block 2 (.seq (.ops m5_r12) (.cond (.t 61) (.seq (.ops m5_r13) (.seq (.ops m5_r14) (.seq (.seq (.ops m5_r15) (.cond (.t 99) (.seq (.ops m5_r16) .ret) .skip)) (.seq (.ops m5_r17) (.cond (.t 100) (.ops m5_r18) .skip))))) (.seq (.ops m5_r19) (.cond (.t 102) (.ops m5_r20) (.seq (.ops m5_r21) (.cond (.t 112) (.ops m5_r22) (.seq (.ops m5_r23) (.cond (.t 122) (.ops m5_r24) (.seq (.ops m5_r25) (.seq (.ops m5_r26) (.cond (.t 58) (.ops m5_r27) .skip))))))))))))) (.seq (.ops m5_r28) (.cond (.t 140) (.seq (.ops m5_r29) .ret) .skip)))))) (.ops m5_r30)))
def m5_r31 : List MI := [
  ⟨(some 141), .call 9 [], none⟩,
  ⟨(some 4), .move (.t 141), none⟩]
def m5_code : MCode := (.seq (.ops m5_r0) (.seq (.seq (.ops m5_r1) (.cond (.t 14) (.seq (.ops m5_r2) .ret) .skip)) (.seq (.ops m5_r3) (.seq (.seq (.ops m5_r4) (.cond (.t 21) (.seq (.ops m5_r5) .ret) .skip)) (.seq (.seq (.ops m5_r6) (.block 0 (.loop m5_l7))) (.seq (.ops m5_r31) .ret))))))
def m5 : MFunc := ⟨142, [.tmp 4], m5_code⟩

def m6_r0 : List MI := [
  ⟨(some 3), .box 41 (.t 1), none⟩,
  ⟨(some 4), .move (.k (.sc (.bool false))), none⟩]
def m6_r1 : List MI := [
  ⟨(some 13), .move (.t 0), none⟩,
  ⟨(some 14), .call 20 [(.t 13)], none⟩]
def m6_r2 : List MI := [
  ⟨(some 15), .call 9 [], none⟩,
  ⟨(some 4), .move (.t 15), none⟩]
def m6_r3 : List MI := [
  ⟨(some 16), .buildSlice 37 7 0 [.int .i32 0, .int .u8 0, .int .u16 0, .int .u8 0, .int .u32 0, .int .u8 0, .int .u32 0] [], none⟩,
  ⟨(some 17), .move (.t 0), none⟩,
  ⟨(some 18), .append 37 7 28 [.int .i32 0, .int .u8 0, .int .u16 0, .int .u8 0, .int .u32 0, .int .u8 0, .int .u32 0] (.t 16) (.t 17), none⟩,
  ⟨(some 5), .move (.t 18), none⟩]
def m6_r4 : List MI := [
  ⟨(some 20), .move (.t 0), none⟩,
  ⟨(some 21), .load (some 10) (.t 3), none⟩,
  ⟨(some 22), .call 21 [(.t 20), (.t 21)], none⟩,
  ⟨(some 19), .move (.t 22), none⟩,
  ⟨(some 23), .extract (.t 19) 0, none⟩,
  ⟨(some 24), .extract (.t 19) 1, none⟩,
  ⟨(some 25), .extract (.t 19) 2, none⟩,
  ⟨(some 6), .move (.t 23), none⟩,
  ⟨(some 7), .move (.t 24), none⟩,
  ⟨(some 8), .move (.t 25), none⟩]
def m6_r5 : List MI := [
  ⟨(some 9), .move (.k (.sc (.int .i64 0))), none⟩]
def m6_r7 : List MI := [
  ⟨(some 26), .move (.t 9), none⟩,
  ⟨(some 27), .move (.t 6), none⟩,
  ⟨(some 28), .lenSlice (.t 27), none⟩,
  ⟨(some 29), .bin .lss .no (.t 26) (.t 28), none⟩]
def m6_r8 : List MI := [
  ⟨(some 32), .move (.t 6), none⟩,
  ⟨(some 33), .move (.t 9), none⟩,
  ⟨(some 34), .build [.int .i32 0, .int .u8 0, .int .u16 0, .int .u8 0, .int .u32 0, .int .u8 0, .int .u32 0] [(0, 1, (.k (.sc (.int .i32 1)))), (1, 1, (.k (.sc (.int .u8 9))))], none⟩,
  ⟨(some 35), .indexSlice 7 (.t 32) (.t 33), none⟩,
  ⟨none, .store 7 (.t 35) (.t 34), none⟩]
def m6_r9 : List MI := [
  ⟨(some 30), .move (.t 9), none⟩,
  ⟨(some 31), .bin .add .no (.t 30) (.k (.sc (.int .i64 1))), none⟩,
  ⟨(some 9), .move (.t 31), none⟩]
def m6_l6 : MCode := (.seq (.seq (.ops m6_r7) (.cond (.t 29) .skip (.exit 0))) (.seq (.block 1 (.ops m6_r8)) (.ops m6_r9)))
def m6_r10 : List MI := [
  ⟨(some 36), .move (.t 0), none⟩,
  ⟨(some 37), .move (.t 5), none⟩,
  ⟨(some 38), .call 10 [(.t 36), (.t 37)], none⟩,
  ⟨(some 39), .un .not (.t 38), none⟩]
def m6_r11 : List MI := [
  ⟨(some 4), .move (.k (.sc (.bool false))), none⟩]
def m6_r12 : List MI := [
  ⟨(some 41), .move (.t 0), none⟩,
  ⟨(some 42), .load (some 10) (.t 3), none⟩,
  ⟨(some 43), .call 21 [(.t 41), (.t 42)], none⟩,
  ⟨(some 40), .move (.t 43), none⟩,
  ⟨(some 44), .extract (.t 40) 0, none⟩,
  ⟨(some 45), .extract (.t 40) 1, none⟩,
  ⟨(some 46), .extract (.t 40) 2, none⟩,
  ⟨(some 10), .move (.t 44), none⟩,
  ⟨(some 11), .move (.t 45), none⟩,
  ⟨(some 12), .move (.t 46), none⟩]
def m6_r13 : List MI := [
  ⟨(some 47), .move (.t 12), none⟩,
  ⟨(some 48), .move (.t 47), none⟩,
  ⟨(some 49), .move (.t 10), (some (48, true))⟩,
  ⟨(some 50), .move (.t 11), (some (48, true))⟩,
  ⟨(some 51), .call 10 [(.t 49), (.t 50)], (some (48, true))⟩,
  ⟨(some 52), .pick (.t 48) (.t 51) (.k (.sc (.bool false))), none⟩,
  ⟨(some 53), .move (.t 52), none⟩,
  ⟨(some 54), .call 9 [], (some (53, true))⟩,
  ⟨(some 55), .pick (.t 53) (.t 54) (.k (.sc (.bool false))), none⟩,
  ⟨(some 4), .move (.t 55), none⟩]
def m6_code : MCode := (.seq (.ops m6_r0) (.seq (.seq (.ops m6_r1) (.cond (.t 14) (.seq (.ops m6_r2) .ret) .skip)) (.seq (.ops m6_r3) (.seq (.ops m6_r4) (.seq (.seq (.ops m6_r5) (.block 0 (.loop m6_l6))) (.seq (.seq (.ops m6_r10) (.cond (.t 39) (.seq (.ops m6_r11) .ret) .skip)) (.seq (.ops m6_r12) (.seq (.ops m6_r13) .ret))))))))
def m6 : MFunc := ⟨56, [.tmp 4], m6_code⟩

def m7_r0 : List MI := [
  ⟨(some 0), .move (.k (.sc (.bool false))), none⟩]
def m7_r1 : List MI := [
  ⟨(some 19), .call 22 [(.k (.sc (.str [97, 228, 184, 128, 98])))], none⟩,
  ⟨(some 1), .move (.t 19), none⟩]
def m7_r2 : List MI := [
  ⟨(some 20), .build [.int .u16 0, .int .u8 0, .int .u32 0, .int .u8 0, .int .u32 0] [], none⟩,
  ⟨(some 2), .alloc 27 [.int .u16 0, .int .u8 0, .int .u32 0, .int .u8 0, .int .u32 0], none⟩,
  ⟨none, .store 5 (.t 2) (.t 20), none⟩]
def m7_r3 : List MI := [
  ⟨(some 3), .move (.k (.sc (.func 10 []))), none⟩]
def m7_r4 : List MI := [
  ⟨(some 22), .move (.t 1), none⟩,
  ⟨(some 23), .load (some 5) (.t 2), none⟩,
  ⟨(some 24), .call 18 [(.t 22), (.k (.sc (.int .i64 2))), (.k (.sc (.int .i32 120))), (.k (.sc (.bool false))), (.t 23)], none⟩,
  ⟨(some 21), .move (.t 24), none⟩,
  ⟨(some 25), .extract (.t 21) 0, none⟩,
  ⟨(some 26), .extract (.t 21) 1, none⟩,
  ⟨(some 4), .move (.t 25), none⟩,
  ⟨(some 5), .move (.t 26), none⟩]
def m7_r5 : List MI := [
  ⟨(some 28), .move (.t 1), none⟩,
  ⟨(some 29), .load (some 5) (.t 2), none⟩,
  ⟨(some 30), .call 18 [(.t 28), (.k (.sc (.int .i64 0))), (.k (.sc (.int .i32 19969))), (.k (.sc (.bool true))), (.t 29)], none⟩,
  ⟨(some 27), .move (.t 30), none⟩,
  ⟨(some 31), .extract (.t 27) 0, none⟩,
  ⟨(some 32), .extract (.t 27) 1, none⟩,
  ⟨(some 6), .move (.t 31), none⟩,
  ⟨(some 7), .move (.t 32), none⟩]
def m7_r6 : List MI := [
  ⟨(some 34), .move (.t 1), none⟩,
  ⟨(some 35), .load (some 5) (.t 2), none⟩,
  ⟨(some 36), .call 18 [(.t 34), (.k (.sc (.int .i64 3))), (.k (.sc (.int .i32 19969))), (.k (.sc (.bool true))), (.t 35)], none⟩,
  ⟨(some 33), .move (.t 36), none⟩,
  ⟨(some 37), .extract (.t 33) 0, none⟩,
  ⟨(some 38), .extract (.t 33) 1, none⟩,
  ⟨(some 8), .move (.t 37), none⟩,
  ⟨(some 9), .move (.t 38), none⟩]
def m7_r7 : List MI := [
  ⟨(some 40), .move (.t 1), none⟩,
  ⟨(some 41), .load (some 5) (.t 2), none⟩,
  ⟨(some 42), .call 18 [(.t 40), (.k (.sc (.int .i64 4))), (.k (.sc (.int .i32 120))), (.k (.sc (.bool false))), (.t 41)], none⟩,
  ⟨(some 39), .move (.t 42), none⟩,
  ⟨(some 43), .extract (.t 39) 0, none⟩,
  ⟨(some 44), .extract (.t 39) 1, none⟩,
  ⟨(some 10), .move (.t 43), none⟩,
  ⟨(some 11), .move (.t 44), none⟩]
def m7_r8 : List MI := [
  ⟨(some 46), .move (.t 1), none⟩,
  ⟨(some 47), .load (some 5) (.t 2), none⟩,
  ⟨(some 48), .call 18 [(.t 46), (.k (.sc (.int .i64 (-1)))), (.k (.sc (.int .i32 120))), (.k (.sc (.bool false))), (.t 47)], none⟩,
  ⟨(some 45), .move (.t 48), none⟩,
  ⟨(some 49), .extract (.t 45) 0, none⟩,
  ⟨(some 50), .extract (.t 45) 1, none⟩,
  ⟨(some 12), .move (.t 49), none⟩,
  ⟨(some 13), .move (.t 50), none⟩]
def m7_r9 : List MI := [
  ⟨(some 51), .move (.t 5), none⟩,
  ⟨(some 52), .move (.t 51), none⟩,
  ⟨(some 53), .move (.t 3), (some (52, true))⟩,
  ⟨(some 54), .move (.t 4), (some (52, true))⟩,
  ⟨(some 55), .call 22 [(.k (.sc (.str [97, 32, 120, 98])))], (some (52, true))⟩,
  ⟨(some 56), .callv (.t 53) [(.t 54), (.t 55)], (some (52, true))⟩,
  ⟨(some 57), .pick (.t 52) (.t 56) (.k (.sc (.bool false))), none⟩,
  ⟨(some 58), .move (.t 57), none⟩,
  ⟨(some 59), .move (.t 7), (some (58, true))⟩,
  ⟨(some 60), .pick (.t 58) (.t 59) (.k (.sc (.bool false))), none⟩,
  ⟨(some 61), .move (.t 60), none⟩,
  ⟨(some 62), .move (.t 3), (some (61, true))⟩,
  ⟨(some 63), .move (.t 6), (some (61, true))⟩,
  ⟨(some 64), .call 22 [(.k (.sc (.str [228, 184, 129, 32, 98])))], (some (61, true))⟩,
  ⟨(some 65), .callv (.t 62) [(.t 63), (.t 64)], (some (61, true))⟩,
  ⟨(some 66), .pick (.t 61) (.t 65) (.k (.sc (.bool false))), none⟩,
  ⟨(some 67), .move (.t 66), none⟩,
  ⟨(some 68), .move (.t 9), (some (67, true))⟩,
  ⟨(some 69), .un .not (.t 68), (some (67, true))⟩,
  ⟨(some 70), .pick (.t 67) (.t 69) (.k (.sc (.bool false))), none⟩,
  ⟨(some 71), .move (.t 70), none⟩,
  ⟨(some 72), .move (.t 11), (some (71, true))⟩,
  ⟨(some 73), .un .not (.t 72), (some (71, true))⟩,
  ⟨(some 74), .pick (.t 71) (.t 73) (.k (.sc (.bool false))), none⟩,
  ⟨(some 75), .move (.t 74), none⟩,
  ⟨(some 76), .move (.t 13), (some (75, true))⟩,
  ⟨(some 77), .un .not (.t 76), (some (75, true))⟩,
  ⟨(some 78), .pick (.t 75) (.t 77) (.k (.sc (.bool false))), none⟩,
  ⟨(some 14), .move (.t 78), none⟩]
def m7_r10 : List MI := [
  ⟨(some 79), .move (.t 3), none⟩,
  ⟨(some 80), .move (.t 1), none⟩,
  ⟨(some 81), .load (some 5) (.t 2), none⟩,
  ⟨(some 82), .call 16 [(.t 80), (.k (.sc (.int .i64 2))), (.k (.sc (.int .i64 1))), (.t 81)], none⟩,
  ⟨(some 83), .call 22 [(.k (.sc (.str [97, 32, 32, 32])))], none⟩,
  ⟨(some 84), .callv (.t 79) [(.t 82), (.t 83)], none⟩,
  ⟨(some 85), .move (.t 84), none⟩,
  ⟨(some 86), .move (.t 3), (some (85, true))⟩,
  ⟨(some 87), .move (.t 1), (some (85, true))⟩,
  ⟨(some 88), .load (some 5) (.t 2), (some (85, true))⟩,
  ⟨(some 89), .call 16 [(.t 87), (.k (.sc (.int .i64 0))), (.k (.sc (.int .i64 1))), (.t 88)], (some (85, true))⟩,
  ⟨(some 90), .call 22 [(.k (.sc (.str [32, 97, 228, 184, 128])))], (some (85, true))⟩,
  ⟨(some 91), .callv (.t 86) [(.t 89), (.t 90)], (some (85, true))⟩,
  ⟨(some 92), .pick (.t 85) (.t 91) (.k (.sc (.bool false))), none⟩,
  ⟨(some 93), .move (.t 92), none⟩,
  ⟨(some 94), .move (.t 3), (some (93, true))⟩,
  ⟨(some 95), .move (.t 1), (some (93, true))⟩,
  ⟨(some 96), .load (some 5) (.t 2), (some (93, true))⟩,
  ⟨(some 97), .call 16 [(.t 95), (.k (.sc (.int .i64 0))), (.k (.sc (.int .i64 2))), (.t 96)], (some (93, true))⟩,
  ⟨(some 98), .call 22 [(.k (.sc (.str [32, 32, 97, 32])))], (some (93, true))⟩,
  ⟨(some 99), .callv (.t 94) [(.t 97), (.t 98)], (some (93, true))⟩,
  ⟨(some 100), .pick (.t 93) (.t 99) (.k (.sc (.bool false))), none⟩,
  ⟨(some 101), .move (.t 100), none⟩,
  ⟨(some 102), .move (.t 3), (some (101, true))⟩,
  ⟨(some 103), .move (.t 1), (some (101, true))⟩,
  ⟨(some 104), .load (some 5) (.t 2), (some (101, true))⟩,
  ⟨(some 105), .call 15 [(.t 103), (.k (.sc (.int .i64 2))), (.k (.sc (.int .i64 1))), (.t 104)], (some (101, true))⟩,
  ⟨(some 106), .call 22 [(.k (.sc (.str [97, 32, 98, 32])))], (some (101, true))⟩,
  ⟨(some 107), .callv (.t 102) [(.t 105), (.t 106)], (some (101, true))⟩,
  ⟨(some 108), .pick (.t 101) (.t 107) (.k (.sc (.bool false))), none⟩,
  ⟨(some 109), .move (.t 108), none⟩,
  ⟨(some 110), .move (.t 3), (some (109, true))⟩,
  ⟨(some 111), .move (.t 1), (some (109, true))⟩,
  ⟨(some 112), .load (some 5) (.t 2), (some (109, true))⟩,
  ⟨(some 113), .call 15 [(.t 111), (.k (.sc (.int .i64 1))), (.k (.sc (.int .i64 9))), (.t 112)], (some (109, true))⟩,
  ⟨(some 114), .call 22 [(.k (.sc (.str [97, 32, 32, 32])))], (some (109, true))⟩,
  ⟨(some 115), .callv (.t 110) [(.t 113), (.t 114)], (some (109, true))⟩,
  ⟨(some 116), .pick (.t 109) (.t 115) (.k (.sc (.bool false))), none⟩,
  ⟨(some 117), .move (.t 116), none⟩,
  ⟨(some 118), .move (.t 3), (some (117, true))⟩,
  ⟨(some 119), .move (.t 1), (some (117, true))⟩,
  ⟨(some 120), .load (some 5) (.t 2), (some (117, true))⟩,
  ⟨(some 121), .call 17 [(.t 119), (.k (.sc (.int .i64 1))), (.k (.sc (.int .i64 1))), (.t 120)], (some (117, true))⟩,
  ⟨(some 122), .call 22 [(.k (.sc (.str [97, 32, 32, 98])))], (some (117, true))⟩,
  ⟨(some 123), .callv (.t 118) [(.t 121), (.t 122)], (some (117, true))⟩,
  ⟨(some 124), .pick (.t 117) (.t 123) (.k (.sc (.bool false))), none⟩,
  ⟨(some 125), .move (.t 124), none⟩,
  ⟨(some 126), .move (.t 3), (some (125, true))⟩,
  ⟨(some 127), .move (.t 1), (some (125, true))⟩,
  ⟨(some 128), .load (some 5) (.t 2), (some (125, true))⟩,
  ⟨(some 129), .call 17 [(.t 127), (.k (.sc (.int .i64 3))), (.k (.sc (.int .i64 4611686018427387904))), (.t 128)], (some (125, true))⟩,
  ⟨(some 130), .call 22 [(.k (.sc (.str [97, 228, 184, 128, 32])))], (some (125, true))⟩,
  ⟨(some 131), .callv (.t 126) [(.t 129), (.t 130)], (some (125, true))⟩,
  ⟨(some 132), .pick (.t 125) (.t 131) (.k (.sc (.bool false))), none⟩,
  ⟨(some 133), .move (.t 132), none⟩,
  ⟨(some 134), .move (.t 3), (some (133, true))⟩,
  ⟨(some 135), .move (.t 1), (some (133, true))⟩,
  ⟨(some 136), .load (some 5) (.t 2), (some (133, true))⟩,
  ⟨(some 137), .call 17 [(.t 135), (.k (.sc (.int .i64 4))), (.k (.sc (.int .i64 1))), (.t 136)], (some (133, true))⟩,
  ⟨(some 138), .move (.t 1), (some (133, true))⟩,
  ⟨(some 139), .callv (.t 134) [(.t 137), (.t 138)], (some (133, true))⟩,
  ⟨(some 140), .pick (.t 133) (.t 139) (.k (.sc (.bool false))), none⟩,
  ⟨(some 141), .move (.t 140), none⟩,
  ⟨(some 142), .move (.t 3), (some (141, true))⟩,
  ⟨(some 143), .move (.t 1), (some (141, true))⟩,
  ⟨(some 144), .load (some 5) (.t 2), (some (141, true))⟩,
  ⟨(some 145), .call 15 [(.t 143), (.k (.sc (.int .i64 (-1)))), (.k (.sc (.int .i64 3))), (.t 144)], (some (141, true))⟩,
  ⟨(some 146), .move (.t 1), (some (141, true))⟩,
  ⟨(some 147), .callv (.t 142) [(.t 145), (.t 146)], (some (141, true))⟩,
  ⟨(some 148), .pick (.t 141) (.t 147) (.k (.sc (.bool false))), none⟩,
  ⟨(some 149), .move (.t 148), none⟩,
  ⟨(some 150), .move (.t 3), (some (149, true))⟩,
  ⟨(some 151), .move (.t 1), (some (149, true))⟩,
  ⟨(some 152), .load (some 5) (.t 2), (some (149, true))⟩,
  ⟨(some 153), .call 16 [(.t 151), (.k (.sc (.int .i64 0))), (.k (.sc (.int .i64 0))), (.t 152)], (some (149, true))⟩,
  ⟨(some 154), .move (.t 1), (some (149, true))⟩,
  ⟨(some 155), .callv (.t 150) [(.t 153), (.t 154)], (some (149, true))⟩,
  ⟨(some 156), .pick (.t 149) (.t 155) (.k (.sc (.bool false))), none⟩,
  ⟨(some 15), .move (.t 156), none⟩]
def m7_r11 : List MI := [
  ⟨(some 157), .move (.t 3), none⟩,
  ⟨(some 158), .move (.t 1), none⟩,
  ⟨(some 159), .load (some 5) (.t 2), none⟩,
  ⟨(some 160), .call 19 [(.t 158), (.k (.sc (.int .i64 2))), (.t 159)], none⟩,
  ⟨(some 161), .call 22 [(.k (.sc (.str [97, 32])))], none⟩,
  ⟨(some 162), .callv (.t 157) [(.t 160), (.t 161)], none⟩,
  ⟨(some 163), .move (.t 162), none⟩,
  ⟨(some 164), .move (.t 3), (some (163, true))⟩,
  ⟨(some 165), .move (.t 1), (some (163, true))⟩,
  ⟨(some 166), .load (some 5) (.t 2), (some (163, true))⟩,
  ⟨(some 167), .call 19 [(.t 165), (.k (.sc (.int .i64 3))), (.t 166)], (some (163, true))⟩,
  ⟨(some 168), .call 22 [(.k (.sc (.str [97, 228, 184, 128])))], (some (163, true))⟩,
  ⟨(some 169), .callv (.t 164) [(.t 167), (.t 168)], (some (163, true))⟩,
  ⟨(some 170), .pick (.t 163) (.t 169) (.k (.sc (.bool false))), none⟩,
  ⟨(some 171), .move (.t 170), none⟩,
  ⟨(some 172), .move (.t 3), (some (171, true))⟩,
  ⟨(some 173), .move (.t 1), (some (171, true))⟩,
  ⟨(some 174), .load (some 5) (.t 2), (some (171, true))⟩,
  ⟨(some 175), .call 19 [(.t 173), (.k (.sc (.int .i64 6))), (.t 174)], (some (171, true))⟩,
  ⟨(some 176), .call 22 [(.k (.sc (.str [97, 228, 184, 128, 98, 32, 32])))], (some (171, true))⟩,
  ⟨(some 177), .callv (.t 172) [(.t 175), (.t 176)], (some (171, true))⟩,
  ⟨(some 178), .pick (.t 171) (.t 177) (.k (.sc (.bool false))), none⟩,
  ⟨(some 179), .move (.t 178), none⟩,
  ⟨(some 180), .move (.t 3), (some (179, true))⟩,
  ⟨(some 181), .move (.t 1), (some (179, true))⟩,
  ⟨(some 182), .load (some 5) (.t 2), (some (179, true))⟩,
  ⟨(some 183), .call 19 [(.t 181), (.k (.sc (.int .i64 0))), (.t 182)], (some (179, true))⟩,
  ⟨(some 184), .move (.t 1), (some (179, true))⟩,
  ⟨(some 185), .callv (.t 180) [(.t 183), (.t 184)], (some (179, true))⟩,
  ⟨(some 186), .pick (.t 179) (.t 185) (.k (.sc (.bool false))), none⟩,
  ⟨(some 187), .move (.t 186), none⟩,
  ⟨(some 188), .move (.t 3), (some (187, true))⟩,
  ⟨(some 189), .move (.t 1), (some (187, true))⟩,
  ⟨(some 190), .load (some 5) (.t 2), (some (187, true))⟩,
  ⟨(some 191), .call 19 [(.t 189), (.k (.sc (.int .i64 401))), (.t 190)], (some (187, true))⟩,
  ⟨(some 192), .move (.t 1), (some (187, true))⟩,
  ⟨(some 193), .callv (.t 188) [(.t 191), (.t 192)], (some (187, true))⟩,
  ⟨(some 194), .pick (.t 187) (.t 193) (.k (.sc (.bool false))), none⟩,
  ⟨(some 16), .move (.t 194), none⟩]
def m7_r12 : List MI := [
  ⟨(some 195), .build [.int .i32 0, .int .u8 0, .int .u16 0, .int .u8 0, .int .u32 0, .int .u8 0, .int .u32 0] [(1, 1, (.k (.sc (.int .u8 2))))], none⟩,
  ⟨(some 196), .build [.int .i32 0, .int .u8 0, .int .u16 0, .int .u8 0, .int .u32 0, .int .u8 0, .int .u32 0] [(1, 1, (.k (.sc (.int .u8 1))))], none⟩,
  ⟨(some 197), .build [.int .i32 0, .int .u8 0, .int .u16 0, .int .u8 0, .int .u32 0, .int .u8 0, .int .u32 0] [(1, 1, (.k (.sc (.int .u8 3))))], none⟩,
  ⟨(some 198), .buildSlice 37 7 3 [.int .i32 0, .int .u8 0, .int .u16 0, .int .u8 0, .int .u32 0, .int .u8 0, .int .u32 0] [(0, 7, (.t 195)), (7, 7, (.t 196)), (14, 7, (.t 197))], none⟩,
  ⟨(some 17), .move (.t 198), none⟩]
def m7_r13 : List MI := [
  ⟨(some 199), .move (.t 17), none⟩,
  ⟨(some 200), .slice 7 (.t 199) none (some (.k (.sc (.int .i64 1)))), none⟩,
  ⟨(some 201), .call 12 [(.t 200)], none⟩,
  ⟨(some 202), .un .not (.t 201), none⟩,
  ⟨(some 203), .move (.t 202), none⟩,
  ⟨(some 204), .move (.t 17), (some (203, true))⟩,
  ⟨(some 205), .slice 7 (.t 204) (some (.k (.sc (.int .i64 1)))) (some (.k (.sc (.int .i64 2)))), (some (203, true))⟩,
  ⟨(some 206), .call 12 [(.t 205)], (some (203, true))⟩,
  ⟨(some 207), .un .not (.t 206), (some (203, true))⟩,
  ⟨(some 208), .pick (.t 203) (.t 207) (.k (.sc (.bool false))), none⟩,
  ⟨(some 209), .move (.t 208), none⟩,
  ⟨(some 210), .move (.t 17), (some (209, true))⟩,
  ⟨(some 211), .slice 7 (.t 210) (some (.k (.sc (.int .i64 2)))) none, (some (209, true))⟩,
  ⟨(some 212), .call 12 [(.t 211)], (some (209, true))⟩,
  ⟨(some 213), .un .not (.t 212), (some (209, true))⟩,
  ⟨(some 214), .pick (.t 209) (.t 213) (.k (.sc (.bool false))), none⟩,
  ⟨(some 215), .move (.t 214), none⟩,
  ⟨(some 216), .call 12 [(.k (.sc (.nils)))], (some (215, true))⟩,
  ⟨(some 217), .pick (.t 215) (.t 216) (.k (.sc (.bool false))), none⟩,
  ⟨(some 218), .move (.t 217), none⟩,
  ⟨(some 219), .build [.int .i32 0, .int .u8 0, .int .u16 0, .int .u8 0, .int .u32 0, .int .u8 0, .int .u32 0] [(1, 1, (.k (.sc (.int .u8 1))))], (some (218, true))⟩,
  ⟨(some 220), .build [.int .i32 0, .int .u8 0, .int .u16 0, .int .u8 0, .int .u32 0, .int .u8 0, .int .u32 0] [(1, 1, (.k (.sc (.int .u8 1))))], (some (218, true))⟩,
  ⟨(some 221), .build [.int .i32 0, .int .u8 0, .int .u16 0, .int .u8 0, .int .u32 0, .int .u8 0, .int .u32 0] [(1, 1, (.k (.sc (.int .u8 2))))], (some (218, true))⟩,
  ⟨(some 222), .build [.int .i32 0, .int .u8 0, .int .u16 0, .int .u8 0, .int .u32 0, .int .u8 0, .int .u32 0] [(1, 1, (.k (.sc (.int .u8 2))))], (some (218, true))⟩,
  ⟨(some 223), .buildSlice 37 7 4 [.int .i32 0, .int .u8 0, .int .u16 0, .int .u8 0, .int .u32 0, .int .u8 0, .int .u32 0] [(0, 7, (.t 219)), (7, 7, (.t 220)), (14, 7, (.t 221)), (21, 7, (.t 222))], (some (218, true))⟩,
  ⟨(some 224), .call 12 [(.t 223)], (some (218, true))⟩,
  ⟨(some 225), .un .not (.t 224), (some (218, true))⟩,
  ⟨(some 226), .pick (.t 218) (.t 225) (.k (.sc (.bool false))), none⟩,
  ⟨(some 18), .move (.t 226), none⟩]
def m7_r14 : List MI := [
  ⟨(some 227), .move (.t 14), none⟩,
  ⟨(some 228), .move (.t 227), none⟩,
  ⟨(some 229), .move (.t 15), (some (228, true))⟩,
  ⟨(some 230), .pick (.t 228) (.t 229) (.k (.sc (.bool false))), none⟩,
  ⟨(some 231), .move (.t 230), none⟩,
  ⟨(some 232), .move (.t 16), (some (231, true))⟩,
  ⟨(some 233), .pick (.t 231) (.t 232) (.k (.sc (.bool false))), none⟩,
  ⟨(some 234), .move (.t 233), none⟩,
  ⟨(some 235), .move (.t 18), (some (234, true))⟩,
  ⟨(some 236), .pick (.t 234) (.t 235) (.k (.sc (.bool false))), none⟩,
  ⟨(some 237), .move (.t 236), none⟩,
  ⟨(some 238), .call 22 [(.k (.sc (.str [97, 228, 184, 128, 32, 32])))], (some (237, true))⟩,
  ⟨(some 239), .call 13 [(.t 238)], (some (237, true))⟩,
  ⟨(some 240), .bin .eql .no (.t 239) (.k (.sc (.str [97, 228, 184, 128]))), (some (237, true))⟩,
  ⟨(some 241), .pick (.t 237) (.t 240) (.k (.sc (.bool false))), none⟩,
  ⟨(some 242), .move (.t 241), none⟩,
  ⟨(some 243), .call 22 [(.k (.sc (.str [32, 32, 97])))], (some (242, true))⟩,
  ⟨(some 244), .call 13 [(.t 243)], (some (242, true))⟩,
  ⟨(some 245), .bin .eql .no (.t 244) (.k (.sc (.str [32, 32, 97]))), (some (242, true))⟩,
  ⟨(some 246), .pick (.t 242) (.t 245) (.k (.sc (.bool false))), none⟩,
  ⟨(some 247), .move (.t 246), none⟩,
  ⟨(some 248), .build [.int .i32 0, .int .u8 0, .int .u16 0, .int .u8 0, .int .u32 0, .int .u8 0, .int .u32 0] [(0, 1, (.k (.sc (.int .i32 (-1)))))], (some (247, true))⟩,
  ⟨(some 249), .build [.int .i32 0, .int .u8 0, .int .u16 0, .int .u8 0, .int .u32 0, .int .u8 0, .int .u32 0] [(0, 1, (.k (.sc (.int .i32 55296))))], (some (247, true))⟩,
  ⟨(some 250), .buildSlice 37 7 2 [.int .i32 0, .int .u8 0, .int .u16 0, .int .u8 0, .int .u32 0, .int .u8 0, .int .u32 0] [(0, 7, (.t 248)), (7, 7, (.t 249))], (some (247, true))⟩,
  ⟨(some 251), .call 13 [(.t 250)], (some (247, true))⟩,
  ⟨(some 252), .bin .eql .no (.t 251) (.k (.sc (.str [239, 191, 189, 239, 191, 189]))), (some (247, true))⟩,
  ⟨(some 253), .pick (.t 247) (.t 252) (.k (.sc (.bool false))), none⟩,
  ⟨(some 254), .move (.t 253), none⟩,
  ⟨(some 255), .call 13 [(.k (.sc (.nils)))], (some (254, true))⟩,
  ⟨(some 256), .bin .eql .no (.t 255) (.k (.sc (.str []))), (some (254, true))⟩,
  ⟨(some 257), .pick (.t 254) (.t 256) (.k (.sc (.bool false))), none⟩,
  ⟨(some 258), .move (.t 257), none⟩,
  ⟨(some 259), .call 9 [], (some (258, true))⟩,
  ⟨(some 260), .pick (.t 258) (.t 259) (.k (.sc (.bool false))), none⟩,
  ⟨(some 0), .move (.t 260), none⟩]
def m7_code : MCode := (.seq (.ops m7_r0) (.seq (.ops m7_r1) (.seq (.ops m7_r2) (.seq (.ops m7_r3) (.seq (.ops m7_r4) (.seq (.ops m7_r5) (.seq (.ops m7_r6) (.seq (.ops m7_r7) (.seq (.ops m7_r8) (.seq (.ops m7_r9) (.seq (.ops m7_r10) (.seq (.ops m7_r11) (.seq (.ops m7_r12) (.seq (.ops m7_r13) (.seq (.ops m7_r14) .ret)))))))))))))))
def m7 : MFunc := ⟨261, [.tmp 0], m7_code⟩

def m8_r0 : List MI := [
  ⟨(some 3), .box 27 (.t 1), none⟩,
  ⟨(some 4), .move (.k (.sc (.nils))), none⟩]
def m8_r1 : List MI := [
  ⟨(some 6), .move (.t 0), none⟩,
  ⟨(some 7), .bin .lss .no (.t 6) (.k (.sc (.int .i64 1))), none⟩,
  ⟨(some 8), .move (.t 7), none⟩,
  ⟨(some 9), .move (.t 0), (some (8, false))⟩,
  ⟨(some 10), .bin .gtr .no (.t 9) (.k (.sc (.int .i64 400))), (some (8, false))⟩,
  ⟨(some 11), .pick (.t 8) (.k (.sc (.bool true))) (.t 10), none⟩]
def m8_r2 : List MI := [
  ⟨(some 4), .move (.k (.sc (.nils))), none⟩]
def m8_r3 : List MI := [
  ⟨(some 12), .move (.t 0), none⟩,
  ⟨(some 13), .makeSlice 37 7 28 [.int .i32 0, .int .u8 0, .int .u16 0, .int .u8 0, .int .u32 0, .int .u8 0, .int .u32 0] (.t 12) (.t 12), none⟩,
  ⟨(some 5), .move (.t 13), none⟩]
def m8_r4 : List MI := [
  ⟨(some 14), .move (.t 5), none⟩,
  ⟨(some 15), .load (some 5) (.t 3), none⟩,
  ⟨(some 16), .call 23 [(.t 14), (.t 15)], none⟩]
def m8_r5 : List MI := [
  ⟨(some 17), .move (.t 5), none⟩,
  ⟨(some 4), .move (.t 17), none⟩]
def m8_code : MCode := (.seq (.ops m8_r0) (.seq (.seq (.ops m8_r1) (.cond (.t 11) (.seq (.ops m8_r2) .ret) .skip)) (.seq (.ops m8_r3) (.seq (.ops m8_r4) (.seq (.ops m8_r5) .ret)))))
def m8 : MFunc := ⟨18, [.tmp 4], m8_code⟩

def m9_r0 : List MI := [
  ⟨(some 0), .move (.k (.sc (.bool false))), none⟩]
def m9_r1 : List MI := [
  ⟨(some 6), .call 22 [(.k (.sc (.str [97, 228, 184, 128, 98])))], none⟩,
  ⟨(some 1), .move (.t 6), none⟩]
def m9_r2 : List MI := [
  ⟨(some 8), .move (.t 1), none⟩,
  ⟨(some 9), .build [.int .u16 0, .int .u8 0, .int .u32 0, .int .u8 0, .int .u32 0] [], none⟩,
  ⟨(some 10), .call 18 [(.t 8), (.k (.sc (.int .i64 2))), (.k (.sc (.int .i32 120))), (.k (.sc (.bool false))), (.t 9)], none⟩,
  ⟨(some 7), .move (.t 10), none⟩,
  ⟨(some 11), .extract (.t 7) 0, none⟩,
  ⟨(some 12), .extract (.t 7) 1, none⟩,
  ⟨(some 2), .move (.t 11), none⟩,
  ⟨(some 3), .move (.t 12), none⟩]
def m9_r3 : List MI := [
  ⟨(some 13), .move (.t 1), none⟩,
  ⟨(some 14), .build [.int .u16 0, .int .u8 0, .int .u32 0, .int .u8 0, .int .u32 0] [], none⟩,
  ⟨(some 15), .call 16 [(.t 13), (.k (.sc (.int .i64 2))), (.k (.sc (.int .i64 1))), (.t 14)], none⟩,
  ⟨(some 4), .move (.t 15), none⟩]
def m9_r4 : List MI := [
  ⟨(some 16), .move (.t 1), none⟩,
  ⟨(some 17), .build [.int .u16 0, .int .u8 0, .int .u32 0, .int .u8 0, .int .u32 0] [], none⟩,
  ⟨(some 18), .call 15 [(.t 16), (.k (.sc (.int .i64 2))), (.k (.sc (.int .i64 1))), (.t 17)], none⟩,
  ⟨(some 5), .move (.t 18), none⟩]
def m9_r5 : List MI := [
  ⟨(some 19), .move (.t 3), none⟩,
  ⟨(some 20), .move (.t 19), none⟩,
  ⟨(some 21), .move (.t 2), (some (20, true))⟩,
  ⟨(some 22), .call 22 [(.k (.sc (.str [97, 32, 120, 98])))], (some (20, true))⟩,
  ⟨(some 23), .call 10 [(.t 21), (.t 22)], (some (20, true))⟩,
  ⟨(some 24), .pick (.t 20) (.t 23) (.k (.sc (.bool false))), none⟩,
  ⟨(some 25), .move (.t 24), none⟩,
  ⟨(some 26), .move (.t 4), (some (25, true))⟩,
  ⟨(some 27), .call 22 [(.k (.sc (.str [97, 32, 32, 32])))], (some (25, true))⟩,
  ⟨(some 28), .call 10 [(.t 26), (.t 27)], (some (25, true))⟩,
  ⟨(some 29), .pick (.t 25) (.t 28) (.k (.sc (.bool false))), none⟩,
  ⟨(some 30), .move (.t 29), none⟩,
  ⟨(some 31), .move (.t 5), (some (30, true))⟩,
  ⟨(some 32), .call 22 [(.k (.sc (.str [97, 32, 98, 32])))], (some (30, true))⟩,
  ⟨(some 33), .call 10 [(.t 31), (.t 32)], (some (30, true))⟩,
  ⟨(some 34), .pick (.t 30) (.t 33) (.k (.sc (.bool false))), none⟩,
  ⟨(some 35), .move (.t 34), none⟩,
  ⟨(some 36), .move (.t 1), (some (35, true))⟩,
  ⟨(some 37), .call 12 [(.t 36)], (some (35, true))⟩,
  ⟨(some 38), .pick (.t 35) (.t 37) (.k (.sc (.bool false))), none⟩,
  ⟨(some 39), .move (.t 38), none⟩,
  ⟨(some 40), .move (.t 1), (some (39, true))⟩,
  ⟨(some 41), .call 13 [(.t 40)], (some (39, true))⟩,
  ⟨(some 42), .bin .eql .no (.t 41) (.k (.sc (.str [97, 228, 184, 128, 98]))), (some (39, true))⟩,
  ⟨(some 43), .pick (.t 39) (.t 42) (.k (.sc (.bool false))), none⟩,
  ⟨(some 44), .move (.t 43), none⟩,
  ⟨(some 45), .build [.int .u16 0, .int .u8 0, .int .u32 0, .int .u8 0, .int .u32 0] [], (some (44, true))⟩,
  ⟨(some 46), .call 8 [(.k (.sc (.int .i64 3))), (.t 45)], (some (44, true))⟩,
  ⟨(some 47), .lenSlice (.t 46), (some (44, true))⟩,
  ⟨(some 48), .bin .eql .no (.t 47) (.k (.sc (.int .i64 3))), (some (44, true))⟩,
  ⟨(some 49), .pick (.t 44) (.t 48) (.k (.sc (.bool false))), none⟩,
  ⟨(some 0), .move (.t 49), none⟩]
def m9_code : MCode := (.seq (.ops m9_r0) (.seq (.ops m9_r1) (.seq (.ops m9_r2) (.seq (.ops m9_r3) (.seq (.ops m9_r4) (.seq (.ops m9_r5) .ret))))))
def m9 : MFunc := ⟨50, [.tmp 0], m9_code⟩

def m10_r0 : List MI := [
  ⟨(some 4), .move (.k (.sc (.bool false))), none⟩]
def m10_r1 : List MI := [
  ⟨(some 6), .move (.t 0), none⟩,
  ⟨(some 7), .lenSlice (.t 6), none⟩,
  ⟨(some 8), .move (.t 1), none⟩,
  ⟨(some 9), .lenSlice (.t 8), none⟩,
  ⟨(some 10), .bin .neq .no (.t 7) (.t 9), none⟩]
def m10_r2 : List MI := [
  ⟨(some 4), .move (.k (.sc (.bool false))), none⟩]
def m10_r3 : List MI := [
  ⟨(some 5), .move (.k (.sc (.int .i64 0))), none⟩]
def m10_r5 : List MI := [
  ⟨(some 11), .move (.t 5), none⟩,
  ⟨(some 12), .move (.t 0), none⟩,
  ⟨(some 13), .lenSlice (.t 12), none⟩,
  ⟨(some 14), .bin .lss .no (.t 11) (.t 13), none⟩]
def m10_r6 : List DI := [
  ⟨⟨(some 17), .move (.t 0), none⟩, 0, [], []⟩,
  ⟨⟨(some 18), .move (.t 5), none⟩, 0, [], []⟩,
  ⟨⟨(some 19), .indexSlice 7 (.t 17) (.t 18), none⟩, 0, [], []⟩,
  ⟨⟨(some 20), .load (some 7) (.t 19), none⟩, 1, [], []⟩,
  ⟨⟨(some 21), .move (.t 1), none⟩, 0, [], []⟩,
  ⟨⟨(some 22), .move (.t 5), none⟩, 0, [], []⟩,
  ⟨⟨(some 23), .indexSlice 7 (.t 21) (.t 22), none⟩, 0, [], []⟩,
  ⟨⟨(some 24), .load (some 7) (.t 23), none⟩, 1, [], []⟩,
  ⟨⟨(some 25), .bin .neq (.agg [.int .i32, .int .u8, .int .u16, .int .u8, .int .u32, .int .u8, .int .u32]) (.t 20) (.t 24), none⟩, 0, [], []⟩]
def m10_r7 : List MI := [
  ⟨(some 4), .move (.k (.sc (.bool false))), none⟩]
def m10_r8 : List MI := [
  ⟨(some 15), .move (.t 5), none⟩,
  ⟨(some 16), .bin .add .no (.t 15) (.k (.sc (.int .i64 1))), none⟩,
  ⟨(some 5), .move (.t 16), none⟩]
def m10_l4 : MCode := (.seq (.seq (.ops m10_r5) (.cond (.t 14) .skip (.exit 0))) (.seq (.block 1 (.seq (.draw m10_r6) (.cond (.t 25) (.seq (.ops m10_r7) .ret) .skip))) (.ops m10_r8)))
def m10_r9 : List MI := [
  ⟨(some 4), .move (.k (.sc (.bool true))), none⟩]
def m10_code : MCode := (.seq (.ops m10_r0) (.seq (.seq (.ops m10_r1) (.cond (.t 10) (.seq (.ops m10_r2) .ret) .skip)) (.seq (.seq (.ops m10_r3) (.block 0 (.loop m10_l4))) (.seq (.ops m10_r9) .ret))))
def m10 : MFunc := ⟨26, [.tmp 4], m10_code⟩

def m11_r0 : List MI := [
  ⟨(some 3), .box 27 (.t 1), none⟩,
  ⟨(some 4), .move (.k (.sc (.nils))), none⟩]
def m11_r1 : List MI := [
  ⟨(some 5), .move (.k (.sc (.nils))), none⟩]
def m11_r2 : List MI := [
  ⟨(some 6), .move (.k (.sc (.int .i64 0))), none⟩]
def m11_r4 : List MI := [
  ⟨(some 7), .move (.t 6), none⟩,
  ⟨(some 8), .move (.t 0), none⟩,
  ⟨(some 9), .bin .lss .no (.t 7) (.t 8), none⟩]
def m11_r5 : List MI := [
  ⟨(some 12), .move (.t 5), none⟩,
  ⟨(some 13), .load (some 5) (.t 3), none⟩,
  ⟨(some 14), .build [.int .i32 0, .int .u8 0, .int .u16 0, .int .u8 0, .int .u32 0, .int .u8 0, .int .u32 0] [(0, 1, (.k (.sc (.int .i32 32)))), (2, 5, (.t 13))], none⟩,
  ⟨(some 15), .buildSlice 37 7 1 [.int .i32 0, .int .u8 0, .int .u16 0, .int .u8 0, .int .u32 0, .int .u8 0, .int .u32 0] [(0, 7, (.t 14))], none⟩,
  ⟨(some 16), .append 37 7 28 [.int .i32 0, .int .u8 0, .int .u16 0, .int .u8 0, .int .u32 0, .int .u8 0, .int .u32 0] (.t 12) (.t 15), none⟩,
  ⟨(some 5), .move (.t 16), none⟩]
def m11_r6 : List MI := [
  ⟨(some 10), .move (.t 6), none⟩,
  ⟨(some 11), .bin .add .no (.t 10) (.k (.sc (.int .i64 1))), none⟩,
  ⟨(some 6), .move (.t 11), none⟩]
def m11_l3 : MCode := (.seq (.seq (.ops m11_r4) (.cond (.t 9) .skip (.exit 0))) (.seq (.block 1 (.ops m11_r5)) (.ops m11_r6)))
def m11_r7 : List MI := [
  ⟨(some 17), .move (.t 5), none⟩,
  ⟨(some 4), .move (.t 17), none⟩]
def m11_code : MCode := (.seq (.ops m11_r0) (.seq (.ops m11_r1) (.seq (.seq (.ops m11_r2) (.block 0 (.loop m11_l3))) (.seq (.ops m11_r7) .ret))))
def m11 : MFunc := ⟨18, [.tmp 4], m11_code⟩

def m12_r0 : List MI := [
  ⟨(some 2), .move (.k (.sc (.bool false))), none⟩]
def m12_r1 : List MI := [
  ⟨(some 3), .move (.k (.sc (.int .i64 0))), none⟩]
def m12_r3 : List MI := [
  ⟨(some 4), .move (.t 3), none⟩,
  ⟨(some 5), .move (.t 0), none⟩,
  ⟨(some 6), .lenSlice (.t 5), none⟩,
  ⟨(some 7), .bin .lss .no (.t 4) (.t 6), none⟩]
def m12_r4 : List MI := [
  ⟨(some 11), .move (.t 0), none⟩,
  ⟨(some 12), .move (.t 3), none⟩,
  ⟨(some 13), .indexSlice 7 (.t 11) (.t 12), none⟩,
  ⟨(some 14), .fieldAddr 1 (.t 13), none⟩,
  ⟨(some 15), .load none (.t 14), none⟩,
  ⟨(some 16), .bin .eql .no (.t 15) (.k (.sc (.int .u8 0))), none⟩,
  ⟨(some 10), .move (.t 16), none⟩]
def m12_r5 : List MI := [
  ⟨(some 18), .move (.t 0), none⟩,
  ⟨(some 19), .move (.t 3), none⟩,
  ⟨(some 20), .indexSlice 7 (.t 18) (.t 19), none⟩,
  ⟨(some 21), .fieldAddr 1 (.t 20), none⟩,
  ⟨(some 22), .load none (.t 21), none⟩,
  ⟨(some 23), .bin .eql .no (.t 22) (.k (.sc (.int .u8 1))), none⟩,
  ⟨(some 24), .move (.t 23), none⟩,
  ⟨(some 25), .move (.t 3), (some (24, true))⟩,
  ⟨(some 26), .bin .add .no (.t 25) (.k (.sc (.int .i64 1))), (some (24, true))⟩,
  ⟨(some 27), .move (.t 0), (some (24, true))⟩,
  ⟨(some 28), .lenSlice (.t 27), (some (24, true))⟩,
  ⟨(some 29), .bin .lss .no (.t 26) (.t 28), (some (24, true))⟩,
  ⟨(some 30), .pick (.t 24) (.t 29) (.k (.sc (.bool false))), none⟩,
  ⟨(some 31), .move (.t 30), none⟩,
  ⟨(some 32), .move (.t 0), (some (31, true))⟩,
  ⟨(some 33), .move (.t 3), (some (31, true))⟩,
  ⟨(some 34), .bin .add .no (.t 33) (.k (.sc (.int .i64 1))), (some (31, true))⟩,
  ⟨(some 35), .indexSlice 7 (.t 32) (.t 34), (some (31, true))⟩,
  ⟨(some 36), .fieldAddr 1 (.t 35), (some (31, true))⟩,
  ⟨(some 37), .load none (.t 36), (some (31, true))⟩,
  ⟨(some 38), .bin .eql .no (.t 37) (.k (.sc (.int .u8 2))), (some (31, true))⟩,
  ⟨(some 39), .pick (.t 31) (.t 38) (.k (.sc (.bool false))), none⟩,
  ⟨(some 17), .move (.t 39), none⟩]
def m12_r6 : List MI := [
  ⟨(some 40), .move (.t 3), none⟩,
  ⟨(some 41), .bin .add .no (.t 40) (.k (.sc (.int .i64 1))), none⟩,
  ⟨(some 3), .move (.t 41), none⟩]
def m12_r7 : List MI := [
  ⟨(some 2), .move (.k (.sc (.bool false))), none⟩]
def m12_r8 : List MI := [
  ⟨(some 8), .move (.t 3), none⟩,
  ⟨(some 9), .bin .add .no (.t 8) (.k (.sc (.int .i64 1))), none⟩,
  ⟨(some 3), .move (.t 9), none⟩]
def m12_l2 : MCode := (.seq (.seq (.ops m12_r3) (.cond (.t 7) .skip (.exit 0))) (.seq (.block 1 (.block 2 (.seq (.ops m12_r4) (.cond (.t 10) .skip (.seq (.ops m12_r5) (.cond (.t 17) (.ops m12_r6) (.seq (.ops m12_r7) .ret))))))) (.ops m12_r8)))
def m12_r9 : List MI := [
  ⟨(some 2), .move (.k (.sc (.bool true))), none⟩]
def m12_code : MCode := (.seq (.ops m12_r0) (.seq (.seq (.ops m12_r1) (.block 0 (.loop m12_l2))) (.seq (.ops m12_r9) .ret)))
def m12 : MFunc := ⟨42, [.tmp 2], m12_code⟩

def m13_r0 : List MI := [
  ⟨(some 2), .move (.k (.sc (.str []))), none⟩]
def m13_r1 : List MI := [
  ⟨(some 3), .alloc 54 [.nilp, .nils], none⟩]
def m13_r2 : List MI := [
  ⟨(some 6), .move (.t 0), none⟩,
  ⟨(some 7), .lenSlice (.t 6), none⟩,
  ⟨(some 8), .move (.k (.sc (.int .i64 0))), none⟩]
def m13_r4 : List MI := [
  ⟨(some 9), .bin .lss .no (.t 8) (.t 7), none⟩]
def m13_r5 : List MI := [
  ⟨(some 10), .indexSlice 7 (.t 6) (.t 8), none⟩,
  ⟨(some 11), .load (some 7) (.t 10), none⟩,
  ⟨(some 5), .alloc 37 [.int .i32 0, .int .u8 0, .int .u16 0, .int .u8 0, .int .u32 0, .int .u8 0, .int .u32 0], none⟩,
  ⟨none, .store 7 (.t 5) (.t 11), none⟩]
def m13_r6 : List MI := [
  ⟨(some 12), .fieldAddr 1 (.t 5), none⟩,
  ⟨(some 13), .load none (.t 12), none⟩,
  ⟨(some 14), .bin .neq .no (.t 13) (.k (.sc (.int .u8 2))), none⟩]
def m13_r7 : List MI := [
  ⟨(some 15), .fieldAddr 0 (.t 5), none⟩,
  ⟨(some 16), .load none (.t 15), none⟩,
  ⟨(some 17), .call 24 [(.t 3), (.t 16)], none⟩]
def m13_r8 : List MI := [
  ⟨(some 18), .bin .add .no (.t 8) (.k (.sc (.int .i64 1))), none⟩,
  ⟨(some 8), .move (.t 18), none⟩]
def m13_l3 : MCode := (.seq (.ops m13_r4) (.seq (.cond (.t 9) .skip (.exit 0)) (.seq (.block 1 (.seq (.ops m13_r5) (.seq (.ops m13_r6) (.cond (.t 14) (.ops m13_r7) .skip)))) (.ops m13_r8))))
def m13_r9 : List MI := [
  ⟨(some 19), .call 26 [(.t 3)], none⟩,
  ⟨(some 20), .call 25 [(.t 19), (.k (.sc (.str [32])))], none⟩,
  ⟨(some 2), .move (.t 20), none⟩]
def m13_code : MCode := (.seq (.ops m13_r0) (.seq (.ops m13_r1) (.seq (.seq (.ops m13_r2) (.block 0 (.loop m13_l3))) (.seq (.ops m13_r9) .ret))))
def m13 : MFunc := ⟨21, [.tmp 2], m13_code⟩

def m14_r0 : List MI := [
  ⟨(some 2), .move (.k (.sc (.bool false))), none⟩]
def m14_r1 : List MI := [
  ⟨(some 3), .move (.k (.sc (.bool false))), none⟩]
def m14_r2 : List MI := [
  ⟨(some 4), .move (.k (.sc (.int .i64 0))), none⟩]
def m14_r4 : List MI := [
  ⟨(some 6), .move (.t 4), none⟩,
  ⟨(some 7), .move (.t 0), none⟩,
  ⟨(some 8), .lenSlice (.t 7), none⟩,
  ⟨(some 9), .bin .lss .no (.t 6) (.t 8), none⟩]
def m14_r5 : List MI := [
  ⟨(some 12), .move (.t 0), none⟩,
  ⟨(some 13), .move (.t 4), none⟩,
  ⟨(some 14), .indexSlice 7 (.t 12) (.t 13), none⟩,
  ⟨(some 15), .fieldAddr 1 (.t 14), none⟩,
  ⟨(some 16), .load none (.t 15), none⟩,
  ⟨(some 5), .move (.t 16), none⟩]
def m14_r6 : List MI := [
  ⟨(some 17), .move (.t 5), none⟩,
  ⟨(some 18), .bin .gtr .no (.t 17) (.k (.sc (.int .u8 2))), none⟩,
  ⟨(some 19), .move (.t 18), none⟩,
  ⟨(some 20), .move (.t 3), (some (19, false))⟩,
  ⟨(some 21), .move (.t 5), (some (19, false))⟩,
  ⟨(some 22), .bin .eql .no (.t 21) (.k (.sc (.int .u8 2))), (some (19, false))⟩,
  ⟨(some 23), .bin .neq .bool (.t 20) (.t 22), (some (19, false))⟩,
  ⟨(some 24), .pick (.t 19) (.k (.sc (.bool true))) (.t 23), none⟩]
def m14_r7 : List MI := [
  ⟨(some 2), .move (.k (.sc (.bool false))), none⟩]
def m14_r8 : List MI := [
  ⟨(some 25), .move (.t 5), none⟩,
  ⟨(some 26), .bin .eql .no (.t 25) (.k (.sc (.int .u8 1))), none⟩,
  ⟨(some 3), .move (.t 26), none⟩]
def m14_r9 : List MI := [
  ⟨(some 10), .move (.t 4), none⟩,
  ⟨(some 11), .bin .add .no (.t 10) (.k (.sc (.int .i64 1))), none⟩,
  ⟨(some 4), .move (.t 11), none⟩]
def m14_l3 : MCode := (.seq (.seq (.ops m14_r4) (.cond (.t 9) .skip (.exit 0))) (.seq (.block 1 (.seq (.ops m14_r5) (.seq (.seq (.ops m14_r6) (.cond (.t 24) (.seq (.ops m14_r7) .ret) .skip)) (.ops m14_r8)))) (.ops m14_r9)))
def m14_r10 : List MI := [
  ⟨(some 27), .move (.t 3), none⟩,
  ⟨(some 28), .un .not (.t 27), none⟩,
  ⟨(some 2), .move (.t 28), none⟩]
def m14_code : MCode := (.seq (.ops m14_r0) (.seq (.ops m14_r1) (.seq (.seq (.ops m14_r2) (.block 0 (.loop m14_l3))) (.seq (.ops m14_r10) .ret))))
def m14 : MFunc := ⟨29, [.tmp 2], m14_code⟩

def m15_r0 : List MI := [
  ⟨(some 7), .box 27 (.t 3), none⟩,
  ⟨(some 8), .move (.k (.sc (.nils))), none⟩]
def m15_r1 : List MI := [
  ⟨(some 9), .move (.t 0), none⟩,
  ⟨(some 10), .call 27 [(.t 9)], none⟩,
  ⟨(some 11), .move (.t 0), none⟩,
  ⟨(some 12), .move (.t 1), none⟩,
  ⟨(some 13), .move (.t 2), none⟩,
  ⟨(some 14), .call 28 [(.t 11), (.t 12), (.t 13)], none⟩,
  ⟨(some 0), .move (.t 10), none⟩,
  ⟨(some 2), .move (.t 14), none⟩]
def m15_r2 : List MI := [
  ⟨(some 15), .move (.t 2), none⟩,
  ⟨(some 16), .bin .eql .no (.t 15) (.k (.sc (.int .i64 0))), none⟩]
def m15_r3 : List MI := [
  ⟨(some 17), .move (.t 0), none⟩,
  ⟨(some 8), .move (.t 17), none⟩]
def m15_r4 : List MI := [
  ⟨(some 18), .move (.t 0), none⟩,
  ⟨(some 19), .move (.t 1), none⟩,
  ⟨(some 20), .call 29 [(.t 18), (.t 19)], none⟩]
def m15_r5 : List MI := [
  ⟨(some 21), .move (.t 0), none⟩,
  ⟨(some 22), .move (.t 1), none⟩,
  ⟨(some 23), .move (.t 2), none⟩,
  ⟨(some 24), .bin .add .no (.t 22) (.t 23), none⟩,
  ⟨(some 25), .call 29 [(.t 21), (.t 24)], none⟩]
def m15_r6 : List DI := [
  ⟨⟨(some 26), .move (.t 0), none⟩, 0, [], []⟩,
  ⟨⟨(some 27), .move (.t 1), none⟩, 0, [], []⟩,
  ⟨⟨(some 28), .slice 7 (.t 26) (some (.t 27)) none, none⟩, 0, [], []⟩,
  ⟨⟨(some 29), .move (.t 0), none⟩, 0, [], []⟩,
  ⟨⟨(some 30), .move (.t 1), none⟩, 0, [], []⟩,
  ⟨⟨(some 31), .move (.t 2), none⟩, 0, [], []⟩,
  ⟨⟨(some 32), .bin .add .no (.t 30) (.t 31), none⟩, 0, [], []⟩,
  ⟨⟨(some 33), .slice 7 (.t 29) (some (.t 32)) none, none⟩, 0, [], []⟩,
  ⟨⟨(some 34), .copy 7 (.t 28) (.t 33), none⟩, 2, [], []⟩]
def m15_r7 : List DI := [
  ⟨⟨(some 35), .move (.t 0), none⟩, 0, [], []⟩,
  ⟨⟨(some 36), .move (.t 0), none⟩, 0, [], []⟩,
  ⟨⟨(some 37), .lenSlice (.t 36), none⟩, 0, [], []⟩,
  ⟨⟨(some 38), .move (.t 2), none⟩, 0, [], []⟩,
  ⟨⟨(some 39), .bin .sub .no (.t 37) (.t 38), none⟩, 0, [], []⟩,
  ⟨⟨(some 40), .slice 7 (.t 35) (some (.t 39)) none, none⟩, 0, [], []⟩,
  ⟨⟨(some 41), .load (some 5) (.t 7), none⟩, 1, [], []⟩,
  ⟨⟨(some 42), .call 23 [(.t 40), (.t 41)], none⟩, 2, [], []⟩]
def m15_r8 : List MI := [
  ⟨(some 43), .move (.t 0), none⟩,
  ⟨(some 8), .move (.t 43), none⟩]
def m15_code : MCode := (.seq (.ops m15_r0) (.seq (.ops m15_r1) (.seq (.seq (.ops m15_r2) (.cond (.t 16) (.seq (.ops m15_r3) .ret) .skip)) (.seq (.ops m15_r4) (.seq (.ops m15_r5) (.seq (.draw m15_r6) (.seq (.draw m15_r7) (.seq (.ops m15_r8) .ret))))))))
def m15 : MFunc := ⟨44, [.tmp 8], m15_code⟩

def m16_r0 : List MI := [
  ⟨(some 7), .box 27 (.t 3), none⟩,
  ⟨(some 8), .move (.k (.sc (.nils))), none⟩]
def m16_r1 : List MI := [
  ⟨(some 9), .move (.t 0), none⟩,
  ⟨(some 10), .call 27 [(.t 9)], none⟩,
  ⟨(some 11), .move (.t 0), none⟩,
  ⟨(some 12), .move (.t 1), none⟩,
  ⟨(some 13), .move (.t 2), none⟩,
  ⟨(some 14), .call 28 [(.t 11), (.t 12), (.t 13)], none⟩,
  ⟨(some 0), .move (.t 10), none⟩,
  ⟨(some 2), .move (.t 14), none⟩]
def m16_r2 : List MI := [
  ⟨(some 15), .move (.t 2), none⟩,
  ⟨(some 16), .bin .eql .no (.t 15) (.k (.sc (.int .i64 0))), none⟩]
def m16_r3 : List MI := [
  ⟨(some 17), .move (.t 0), none⟩,
  ⟨(some 8), .move (.t 17), none⟩]
def m16_r4 : List MI := [
  ⟨(some 18), .move (.t 0), none⟩,
  ⟨(some 19), .move (.t 1), none⟩,
  ⟨(some 20), .call 29 [(.t 18), (.t 19)], none⟩]
def m16_r5 : List MI := [
  ⟨(some 21), .move (.t 0), none⟩,
  ⟨(some 22), .move (.t 0), none⟩,
  ⟨(some 23), .lenSlice (.t 22), none⟩,
  ⟨(some 24), .move (.t 2), none⟩,
  ⟨(some 25), .bin .sub .no (.t 23) (.t 24), none⟩,
  ⟨(some 26), .call 29 [(.t 21), (.t 25)], none⟩]
def m16_r6 : List DI := [
  ⟨⟨(some 27), .move (.t 0), none⟩, 0, [], []⟩,
  ⟨⟨(some 28), .move (.t 1), none⟩, 0, [], []⟩,
  ⟨⟨(some 29), .move (.t 2), none⟩, 0, [], []⟩,
  ⟨⟨(some 30), .bin .add .no (.t 28) (.t 29), none⟩, 0, [], []⟩,
  ⟨⟨(some 31), .slice 7 (.t 27) (some (.t 30)) none, none⟩, 0, [], []⟩,
  ⟨⟨(some 32), .move (.t 0), none⟩, 0, [], []⟩,
  ⟨⟨(some 33), .move (.t 1), none⟩, 0, [], []⟩,
  ⟨⟨(some 34), .move (.t 0), none⟩, 0, [], []⟩,
  ⟨⟨(some 35), .lenSlice (.t 34), none⟩, 0, [], []⟩,
  ⟨⟨(some 36), .move (.t 2), none⟩, 0, [], []⟩,
  ⟨⟨(some 37), .bin .sub .no (.t 35) (.t 36), none⟩, 0, [], []⟩,
  ⟨⟨(some 38), .slice 7 (.t 32) (some (.t 33)) (some (.t 37)), none⟩, 0, [], []⟩,
  ⟨⟨(some 39), .copy 7 (.t 31) (.t 38), none⟩, 2, [], []⟩]
def m16_r7 : List DI := [
  ⟨⟨(some 40), .move (.t 0), none⟩, 0, [], []⟩,
  ⟨⟨(some 41), .move (.t 1), none⟩, 0, [], []⟩,
  ⟨⟨(some 42), .move (.t 1), none⟩, 0, [], []⟩,
  ⟨⟨(some 43), .move (.t 2), none⟩, 0, [], []⟩,
  ⟨⟨(some 44), .bin .add .no (.t 42) (.t 43), none⟩, 0, [], []⟩,
  ⟨⟨(some 45), .slice 7 (.t 40) (some (.t 41)) (some (.t 44)), none⟩, 0, [], []⟩,
  ⟨⟨(some 46), .load (some 5) (.t 7), none⟩, 1, [], []⟩,
  ⟨⟨(some 47), .call 23 [(.t 45), (.t 46)], none⟩, 2, [], []⟩]
def m16_r8 : List MI := [
  ⟨(some 48), .move (.t 0), none⟩,
  ⟨(some 8), .move (.t 48), none⟩]
def m16_code : MCode := (.seq (.ops m16_r0) (.seq (.ops m16_r1) (.seq (.seq (.ops m16_r2) (.cond (.t 16) (.seq (.ops m16_r3) .ret) .skip)) (.seq (.ops m16_r4) (.seq (.ops m16_r5) (.seq (.draw m16_r6) (.seq (.draw m16_r7) (.seq (.ops m16_r8) .ret))))))))
def m16 : MFunc := ⟨49, [.tmp 8], m16_code⟩

def m17_r0 : List MI := [
  ⟨(some 7), .box 27 (.t 3), none⟩,
  ⟨(some 8), .move (.k (.sc (.nils))), none⟩]
def m17_r1 : List MI := [
  ⟨(some 9), .move (.t 0), none⟩,
  ⟨(some 10), .call 27 [(.t 9)], none⟩,
  ⟨(some 11), .move (.t 0), none⟩,
  ⟨(some 12), .move (.t 1), none⟩,
  ⟨(some 13), .move (.t 2), none⟩,
  ⟨(some 14), .call 28 [(.t 11), (.t 12), (.t 13)], none⟩,
  ⟨(some 0), .move (.t 10), none⟩,
  ⟨(some 2), .move (.t 14), none⟩]
def m17_r2 : List MI := [
  ⟨(some 15), .move (.t 2), none⟩,
  ⟨(some 16), .bin .eql .no (.t 15) (.k (.sc (.int .i64 0))), none⟩]
def m17_r3 : List MI := [
  ⟨(some 17), .move (.t 0), none⟩,
  ⟨(some 8), .move (.t 17), none⟩]
def m17_r4 : List MI := [
  ⟨(some 18), .move (.t 0), none⟩,
  ⟨(some 19), .move (.t 1), none⟩,
  ⟨(some 20), .call 29 [(.t 18), (.t 19)], none⟩]
def m17_r5 : List MI := [
  ⟨(some 21), .move (.t 0), none⟩,
  ⟨(some 22), .move (.t 1), none⟩,
  ⟨(some 23), .move (.t 2), none⟩,
  ⟨(some 24), .bin .add .no (.t 22) (.t 23), none⟩,
  ⟨(some 25), .call 29 [(.t 21), (.t 24)], none⟩]
def m17_r6 : List DI := [
  ⟨⟨(some 26), .move (.t 0), none⟩, 0, [], []⟩,
  ⟨⟨(some 27), .move (.t 1), none⟩, 0, [], []⟩,
  ⟨⟨(some 28), .move (.t 1), none⟩, 0, [], []⟩,
  ⟨⟨(some 29), .move (.t 2), none⟩, 0, [], []⟩,
  ⟨⟨(some 30), .bin .add .no (.t 28) (.t 29), none⟩, 0, [], []⟩,
  ⟨⟨(some 31), .slice 7 (.t 26) (some (.t 27)) (some (.t 30)), none⟩, 0, [], []⟩,
  ⟨⟨(some 32), .load (some 5) (.t 7), none⟩, 1, [], []⟩,
  ⟨⟨(some 33), .call 23 [(.t 31), (.t 32)], none⟩, 2, [], []⟩]
def m17_r7 : List MI := [
  ⟨(some 34), .move (.t 0), none⟩,
  ⟨(some 8), .move (.t 34), none⟩]
def m17_code : MCode := (.seq (.ops m17_r0) (.seq (.ops m17_r1) (.seq (.seq (.ops m17_r2) (.cond (.t 16) (.seq (.ops m17_r3) .ret) .skip)) (.seq (.ops m17_r4) (.seq (.ops m17_r5) (.seq (.draw m17_r6) (.seq (.ops m17_r7) .ret)))))))
def m17 : MFunc := ⟨35, [.tmp 8], m17_code⟩

def m18_r0 : List MI := [
  ⟨(some 9), .box 27 (.t 4), none⟩,
  ⟨(some 10), .move (.k (.sc (.nils))), none⟩,
  ⟨(some 11), .move (.k (.sc (.bool false))), none⟩]
def m18_r1 : List MI := [
  ⟨(some 12), .move (.k (.sc (.int .i64 1))), none⟩]
def m18_r2 : List MI := [
  ⟨(some 13), .move (.t 3), none⟩]
def m18_r3 : List MI := [
  ⟨(some 12), .move (.k (.sc (.int .i64 2))), none⟩]
def m18_r4 : List MI := [
  ⟨(some 14), .move (.t 0), none⟩,
  ⟨(some 15), .move (.t 1), none⟩,
  ⟨(some 16), .call 30 [(.t 14), (.t 15)], none⟩,
  ⟨(some 17), .un .not (.t 16), none⟩,
  ⟨(some 18), .move (.t 17), none⟩,
  ⟨(some 19), .move (.t 0), (some (18, false))⟩,
  ⟨(some 20), .move (.t 1), (some (18, false))⟩,
  ⟨(some 21), .move (.t 12), (some (18, false))⟩,
  ⟨(some 22), .bin .add .no (.t 20) (.t 21), (some (18, false))⟩,
  ⟨(some 23), .bin .sub .no (.t 22) (.k (.sc (.int .i64 1))), (some (18, false))⟩,
  ⟨(some 24), .call 30 [(.t 19), (.t 23)], (some (18, false))⟩,
  ⟨(some 25), .un .not (.t 24), (some (18, false))⟩,
  ⟨(some 26), .pick (.t 18) (.k (.sc (.bool true))) (.t 25), none⟩]
def m18_r5 : List MI := [
  ⟨(some 10), .move (.k (.sc (.nils))), none⟩,
  ⟨(some 11), .move (.k (.sc (.bool false))), none⟩]
def m18_r6 : List MI := [
  ⟨(some 27), .move (.t 0), none⟩,
  ⟨(some 28), .call 27 [(.t 27)], none⟩,
  ⟨(some 0), .move (.t 28), none⟩]
def m18_r7 : List MI := [
  ⟨(some 29), .move (.t 0), none⟩,
  ⟨(some 30), .move (.t 1), none⟩,
  ⟨(some 31), .call 29 [(.t 29), (.t 30)], none⟩]
def m18_r8 : List MI := [
  ⟨(some 32), .move (.t 0), none⟩,
  ⟨(some 33), .move (.t 1), none⟩,
  ⟨(some 34), .move (.t 12), none⟩,
  ⟨(some 35), .bin .add .no (.t 33) (.t 34), none⟩,
  ⟨(some 36), .call 29 [(.t 32), (.t 35)], none⟩]
def m18_r9 : List MI := [
  ⟨(some 37), .move (.t 0), none⟩,
  ⟨(some 38), .move (.t 1), none⟩,
  ⟨(some 39), .move (.t 2), none⟩,
  ⟨(some 40), .load (some 5) (.t 9), none⟩,
  ⟨(some 41), .build [.int .i32 0, .int .u8 0, .int .u16 0, .int .u8 0, .int .u32 0, .int .u8 0, .int .u32 0] [(0, 1, (.t 39)), (2, 5, (.t 40))], none⟩,
  ⟨(some 42), .indexSlice 7 (.t 37) (.t 38), none⟩,
  ⟨none, .store 7 (.t 42) (.t 41), none⟩]
def m18_r10 : List MI := [
  ⟨(some 43), .move (.t 3), none⟩]
def m18_r11 : List MI := [
  ⟨(some 44), .move (.t 0), none⟩,
  ⟨(some 45), .move (.t 1), none⟩,
  ⟨(some 46), .indexSlice 7 (.t 44) (.t 45), none⟩,
  ⟨(some 47), .fieldAddr 1 (.t 46), none⟩,
  ⟨none, .store 1 (.t 47) (.k (.sc (.int .u8 1))), none⟩]
def m18_r12 : List MI := [
  ⟨(some 48), .move (.t 0), none⟩,
  ⟨(some 49), .move (.t 1), none⟩,
  ⟨(some 50), .bin .add .no (.t 49) (.k (.sc (.int .i64 1))), none⟩,
  ⟨(some 51), .move (.t 2), none⟩,
  ⟨(some 52), .load (some 5) (.t 9), none⟩,
  ⟨(some 53), .build [.int .i32 0, .int .u8 0, .int .u16 0, .int .u8 0, .int .u32 0, .int .u8 0, .int .u32 0] [(0, 1, (.t 51)), (1, 1, (.k (.sc (.int .u8 2)))), (2, 5, (.t 52))], none⟩,
  ⟨(some 54), .indexSlice 7 (.t 48) (.t 50), none⟩,
  ⟨none, .store 7 (.t 54) (.t 53), none⟩]
def m18_r13 : List MI := [
  ⟨(some 55), .move (.t 0), none⟩,
  ⟨(some 10), .move (.t 55), none⟩,
  ⟨(some 11), .move (.k (.sc (.bool true))), none⟩]
def m18_code : MCode := (.seq (.ops m18_r0) (.seq (.ops m18_r1) (.seq (.seq (.ops m18_r2) (.cond (.t 13) (.ops m18_r3) .skip)) (.seq (.seq (.ops m18_r4) (.cond (.t 26) (.seq (.ops m18_r5) .ret) .skip)) (.seq (.ops m18_r6) (.seq (.ops m18_r7) (.seq (.ops m18_r8) (.seq (.ops m18_r9) (.seq (.seq (.ops m18_r10) (.cond (.t 43) (.seq (.ops m18_r11) (.ops m18_r12)) .skip)) (.seq (.ops m18_r13) .ret))))))))))
def m18 : MFunc := ⟨56, [.tmp 10, .tmp 11], m18_code⟩

def m19_r0 : List MI := [
  ⟨(some 5), .box 27 (.t 2), none⟩,
  ⟨(some 6), .move (.k (.sc (.nils))), none⟩]
def m19_r1 : List MI := [
  ⟨(some 7), .move (.t 0), none⟩,
  ⟨(some 8), .call 27 [(.t 7)], none⟩,
  ⟨(some 0), .move (.t 8), none⟩]
def m19_r2 : List MI := [
  ⟨(some 9), .move (.t 1), none⟩,
  ⟨(some 10), .bin .lss .no (.t 9) (.k (.sc (.int .i64 1))), none⟩,
  ⟨(some 11), .move (.t 10), none⟩,
  ⟨(some 12), .move (.t 1), (some (11, false))⟩,
  ⟨(some 13), .bin .gtr .no (.t 12) (.k (.sc (.int .i64 400))), (some (11, false))⟩,
  ⟨(some 14), .pick (.t 11) (.k (.sc (.bool true))) (.t 13), none⟩]
def m19_r3 : List MI := [
  ⟨(some 15), .move (.t 0), none⟩,
  ⟨(some 6), .move (.t 15), none⟩]
def m19_r4 : List MI := [
  ⟨(some 16), .move (.t 0), none⟩,
  ⟨(some 17), .move (.t 1), none⟩,
  ⟨(some 18), .call 29 [(.t 16), (.t 17)], none⟩]
def m19_r5 : List MI := [
  ⟨(some 19), .move (.t 1), none⟩,
  ⟨(some 20), .move (.t 0), none⟩,
  ⟨(some 21), .lenSlice (.t 20), none⟩,
  ⟨(some 22), .bin .leq .no (.t 19) (.t 21), none⟩]
def m19_r6 : List MI := [
  ⟨(some 23), .move (.t 0), none⟩,
  ⟨(some 24), .move (.t 1), none⟩,
  ⟨(some 25), .slice 7 (.t 23) none (some (.t 24)), none⟩,
  ⟨(some 6), .move (.t 25), none⟩]
def m19_r7 : List MI := [
  ⟨(some 26), .move (.t 0), none⟩,
  ⟨(some 27), .move (.t 1), none⟩,
  ⟨(some 28), .move (.t 0), none⟩,
  ⟨(some 29), .lenSlice (.t 28), none⟩,
  ⟨(some 30), .bin .sub .no (.t 27) (.t 29), none⟩,
  ⟨(some 31), .load (some 5) (.t 5), none⟩,
  ⟨(some 32), .call 8 [(.t 30), (.t 31)], none⟩,
  ⟨(some 33), .append 37 7 28 [.int .i32 0, .int .u8 0, .int .u16 0, .int .u8 0, .int .u32 0, .int .u8 0, .int .u32 0] (.t 26) (.t 32), none⟩,
  ⟨(some 6), .move (.t 33), none⟩]
def m19_code : MCode := (.seq (.ops m19_r0) (.seq (.ops m19_r1) (.seq (.seq (.ops m19_r2) (.cond (.t 14) (.seq (.ops m19_r3) .ret) .skip)) (.seq (.ops m19_r4) (.seq (.seq (.ops m19_r5) (.cond (.t 22) (.seq (.ops m19_r6) .ret) .skip)) (.seq (.ops m19_r7) .ret))))))
def m19 : MFunc := ⟨34, [.tmp 6], m19_code⟩

def m20_r0 : List MI := [
  ⟨(some 2), .move (.k (.sc (.bool false))), none⟩]
def m20_r1 : List MI := [
  ⟨(some 3), .move (.t 0), none⟩,
  ⟨(some 4), .lenSlice (.t 3), none⟩,
  ⟨(some 5), .bin .gtr .no (.t 4) (.k (.sc (.int .i64 500))), none⟩,
  ⟨(some 2), .move (.t 5), none⟩]
def m20_code : MCode := (.seq (.ops m20_r0) (.seq (.ops m20_r1) .ret))
def m20 : MFunc := ⟨6, [.tmp 2], m20_code⟩

def m21_r0 : List MI := [
  ⟨(some 3), .box 41 (.t 1), none⟩,
  ⟨(some 4), .move (.k (.sc (.nils))), none⟩,
  ⟨(some 5), .move (.k (.sc (.nils))), none⟩,
  ⟨(some 6), .move (.k (.sc (.bool false))), none⟩]
def m21_r1 : List MI := [
  ⟨(some 11), .fieldAddr 0 (.t 3), none⟩,
  ⟨(some 12), .load none (.t 11), none⟩]
def m21_r2 : List MI := [
  ⟨(some 14), .bin .eql .no (.t 12) (.k (.sc (.int .u8 0))), none⟩,
  ⟨(some 13), .move (.t 14), none⟩]
def m21_r3 : List MI := [
  ⟨(some 16), .move (.t 0), none⟩,
  ⟨(some 17), .fieldAddr 1 (.t 3), none⟩,
  ⟨(some 18), .load none (.t 17), none⟩,
  ⟨(some 19), .fieldAddr 3 (.t 3), none⟩,
  ⟨(some 20), .load none (.t 19), none⟩,
  ⟨(some 21), .fieldAddr 4 (.t 3), none⟩,
  ⟨(some 22), .load none (.t 21), none⟩,
  ⟨(some 23), .fieldAddr 5 (.t 3), none⟩,
  ⟨(some 24), .load (some 5) (.t 23), none⟩,
  ⟨(some 25), .call 18 [(.t 16), (.t 18), (.t 20), (.t 22), (.t 24)], none⟩,
  ⟨(some 15), .move (.t 25), none⟩,
  ⟨(some 26), .extract (.t 15) 0, none⟩,
  ⟨(some 27), .extract (.t 15) 1, none⟩,
  ⟨(some 7), .move (.t 26), none⟩,
  ⟨(some 8), .move (.t 27), none⟩]
def m21_r4 : List MI := [
  ⟨(some 29), .move (.t 0), none⟩,
  ⟨(some 30), .fieldAddr 1 (.t 3), none⟩,
  ⟨(some 31), .load none (.t 30), none⟩,
  ⟨(some 32), .fieldAddr 3 (.t 3), none⟩,
  ⟨(some 33), .load none (.t 32), none⟩,
  ⟨(some 34), .fieldAddr 4 (.t 3), none⟩,
  ⟨(some 35), .load none (.t 34), none⟩,
  ⟨(some 36), .fieldAddr 5 (.t 3), none⟩,
  ⟨(some 37), .load (some 5) (.t 36), none⟩,
  ⟨(some 38), .call 31 [(.t 29), (.t 31), (.t 33), (.t 35), (.t 37)], none⟩,
  ⟨(some 28), .move (.t 38), none⟩,
  ⟨(some 39), .extract (.t 28) 0, none⟩,
  ⟨(some 40), .extract (.t 28) 1, none⟩,
  ⟨(some 9), .move (.t 39), none⟩,
  ⟨(some 10), .move (.t 40), none⟩]
def m21_r5 : List MI := [
  ⟨(some 41), .move (.t 7), none⟩,
  ⟨(some 42), .move (.t 9), none⟩,
  ⟨(some 43), .move (.t 8), none⟩,
  ⟨(some 44), .move (.t 10), none⟩,
  ⟨(some 45), .bin .eql .bool (.t 43) (.t 44), none⟩,
  ⟨(some 46), .move (.t 45), none⟩,
  ⟨(some 47), .move (.t 8), (some (46, true))⟩,
  ⟨(some 48), .move (.t 47), (some (46, true))⟩,
  ⟨(some 49), .move (.t 7), (some (48, false))⟩,
  ⟨(some 50), .lenSlice (.t 49), (some (48, false))⟩,
  ⟨(some 51), .bin .eql .no (.t 50) (.k (.sc (.int .i64 0))), (some (48, false))⟩,
  ⟨(some 52), .pick (.t 48) (.k (.sc (.bool true))) (.t 51), (some (46, true))⟩,
  ⟨(some 53), .pick (.t 46) (.t 52) (.k (.sc (.bool false))), none⟩,
  ⟨(some 4), .move (.t 41), none⟩,
  ⟨(some 5), .move (.t 42), none⟩,
  ⟨(some 6), .move (.t 53), none⟩]
def m21_r6 : List MI := [
  ⟨(some 55), .bin .eql .no (.t 12) (.k (.sc (.int .u8 1))), none⟩,
  ⟨(some 54), .move (.t 55), none⟩]
def m21_r7 : List DI := [
  ⟨⟨(some 56), .move (.t 0), none⟩, 0, [], []⟩,
  ⟨⟨(some 57), .fieldAddr 1 (.t 3), none⟩, 0, [], []⟩,
  ⟨⟨(some 58), .load none (.t 57), none⟩, 1, [], []⟩,
  ⟨⟨(some 59), .fieldAddr 2 (.t 3), none⟩, 0, [], []⟩,
  ⟨⟨(some 60), .load none (.t 59), none⟩, 1, [], []⟩,
  ⟨⟨(some 61), .fieldAddr 5 (.t 3), none⟩, 0, [], []⟩,
  ⟨⟨(some 62), .load (some 5) (.t 61), none⟩, 1, [], []⟩,
  ⟨⟨(some 63), .call 16 [(.t 56), (.t 58), (.t 60), (.t 62)], none⟩, 2, [], []⟩,
  ⟨⟨(some 64), .move (.t 0), none⟩, 0, [7], []⟩,
  ⟨⟨(some 65), .fieldAddr 1 (.t 3), none⟩, 0, [7], []⟩,
  ⟨⟨(some 66), .load none (.t 65), none⟩, 1, [7], []⟩,
  ⟨⟨(some 67), .fieldAddr 2 (.t 3), none⟩, 0, [7], []⟩,
  ⟨⟨(some 68), .load none (.t 67), none⟩, 1, [7], []⟩,
  ⟨⟨(some 69), .fieldAddr 5 (.t 3), none⟩, 0, [7], []⟩,
  ⟨⟨(some 70), .load (some 5) (.t 69), none⟩, 1, [7], []⟩,
  ⟨⟨(some 71), .call 32 [(.t 64), (.t 66), (.t 68), (.t 70)], none⟩, 2, [], []⟩,
  ⟨⟨(some 4), .move (.t 63), none⟩, 0, [], []⟩,
  ⟨⟨(some 5), .move (.t 71), none⟩, 0, [], []⟩,
  ⟨⟨(some 6), .move (.k (.sc (.bool true))), none⟩, 0, [], []⟩]
def m21_r8 : List MI := [
  ⟨(some 73), .bin .eql .no (.t 12) (.k (.sc (.int .u8 2))), none⟩,
  ⟨(some 72), .move (.t 73), none⟩]
def m21_r9 : List DI := [
  ⟨⟨(some 74), .move (.t 0), none⟩, 0, [], []⟩,
  ⟨⟨(some 75), .fieldAddr 1 (.t 3), none⟩, 0, [], []⟩,
  ⟨⟨(some 76), .load none (.t 75), none⟩, 1, [], []⟩,
  ⟨⟨(some 77), .fieldAddr 2 (.t 3), none⟩, 0, [], []⟩,
  ⟨⟨(some 78), .load none (.t 77), none⟩, 1, [], []⟩,
  ⟨⟨(some 79), .fieldAddr 5 (.t 3), none⟩, 0, [], []⟩,
  ⟨⟨(some 80), .load (some 5) (.t 79), none⟩, 1, [], []⟩,
  ⟨⟨(some 81), .call 15 [(.t 74), (.t 76), (.t 78), (.t 80)], none⟩, 2, [], []⟩,
  ⟨⟨(some 82), .move (.t 0), none⟩, 0, [7], []⟩,
  ⟨⟨(some 83), .fieldAddr 1 (.t 3), none⟩, 0, [7], []⟩,
  ⟨⟨(some 84), .load none (.t 83), none⟩, 1, [7], []⟩,
  ⟨⟨(some 85), .fieldAddr 2 (.t 3), none⟩, 0, [7], []⟩,
  ⟨⟨(some 86), .load none (.t 85), none⟩, 1, [7], []⟩,
  ⟨⟨(some 87), .fieldAddr 5 (.t 3), none⟩, 0, [7], []⟩,
  ⟨⟨(some 88), .load (some 5) (.t 87), none⟩, 1, [7], []⟩,
  ⟨⟨(some 89), .call 33 [(.t 82), (.t 84), (.t 86), (.t 88)], none⟩, 2, [], []⟩,
  ⟨⟨(some 4), .move (.t 81), none⟩, 0, [], []⟩,
  ⟨⟨(some 5), .move (.t 89), none⟩, 0, [], []⟩,
  ⟨⟨(some 6), .move (.k (.sc (.bool true))), none⟩, 0, [], []⟩]
def m21_r10 : List MI := [
  ⟨(some 91), .bin .eql .no (.t 12) (.k (.sc (.int .u8 3))), none⟩,
  ⟨(some 90), .move (.t 91), none⟩]
def m21_r11 : List DI := [
  ⟨⟨(some 92), .move (.t 0), none⟩, 0, [], []⟩,
  ⟨⟨(some 93), .fieldAddr 1 (.t 3), none⟩, 0, [], []⟩,
  ⟨⟨(some 94), .load none (.t 93), none⟩, 1, [], []⟩,
  ⟨⟨(some 95), .fieldAddr 2 (.t 3), none⟩, 0, [], []⟩,
  ⟨⟨(some 96), .load none (.t 95), none⟩, 1, [], []⟩,
  ⟨⟨(some 97), .fieldAddr 5 (.t 3), none⟩, 0, [], []⟩,
  ⟨⟨(some 98), .load (some 5) (.t 97), none⟩, 1, [], []⟩,
  ⟨⟨(some 99), .call 17 [(.t 92), (.t 94), (.t 96), (.t 98)], none⟩, 2, [], []⟩,
  ⟨⟨(some 100), .move (.t 0), none⟩, 0, [7], []⟩,
  ⟨⟨(some 101), .fieldAddr 1 (.t 3), none⟩, 0, [7], []⟩,
  ⟨⟨(some 102), .load none (.t 101), none⟩, 1, [7], []⟩,
  ⟨⟨(some 103), .fieldAddr 2 (.t 3), none⟩, 0, [7], []⟩,
  ⟨⟨(some 104), .load none (.t 103), none⟩, 1, [7], []⟩,
  ⟨⟨(some 105), .fieldAddr 5 (.t 3), none⟩, 0, [7], []⟩,
  ⟨⟨(some 106), .load (some 5) (.t 105), none⟩, 1, [7], []⟩,
  ⟨⟨(some 107), .call 34 [(.t 100), (.t 102), (.t 104), (.t 106)], none⟩, 2, [], []⟩,
  ⟨⟨(some 4), .move (.t 99), none⟩, 0, [], []⟩,
  ⟨⟨(some 5), .move (.t 107), none⟩, 0, [], []⟩,
  ⟨⟨(some 6), .move (.k (.sc (.bool true))), none⟩, 0, [], []⟩]
def m21_r12 : List DI := [
  ⟨⟨(some 108), .move (.t 0), none⟩, 0, [], []⟩,
  ⟨⟨(some 109), .fieldAddr 2 (.t 3), none⟩, 0, [], []⟩,
  ⟨⟨(some 110), .load none (.t 109), none⟩, 1, [], []⟩,
  ⟨⟨(some 111), .fieldAddr 5 (.t 3), none⟩, 0, [], []⟩,
  ⟨⟨(some 112), .load (some 5) (.t 111), none⟩, 1, [], []⟩,
  ⟨⟨(some 113), .call 19 [(.t 108), (.t 110), (.t 112)], none⟩, 2, [], []⟩,
  ⟨⟨(some 114), .move (.t 0), none⟩, 0, [5], []⟩,
  ⟨⟨(some 115), .fieldAddr 2 (.t 3), none⟩, 0, [5], []⟩,
  ⟨⟨(some 116), .load none (.t 115), none⟩, 1, [5], []⟩,
  ⟨⟨(some 117), .fieldAddr 5 (.t 3), none⟩, 0, [5], []⟩,
  ⟨⟨(some 118), .load (some 5) (.t 117), none⟩, 1, [5], []⟩,
  ⟨⟨(some 119), .call 35 [(.t 114), (.t 116), (.t 118)], none⟩, 2, [], []⟩,
  ⟨⟨(some 4), .move (.t 113), none⟩, 0, [], []⟩,
  ⟨⟨(some 5), .move (.t 119), none⟩, 0, [], []⟩,
  ⟨⟨(some 6), .move (.k (.sc (.bool true))), none⟩, 0, [], []⟩]
def m21_code : MCode := (.seq (.ops m21_r0) (.seq (.seq (.ops m21_r1) (.block 0 (.seq (.ops m21_r2) (.cond (.t 13) (.seq (.ops m21_r3) (.seq (.ops m21_r4) (.seq (.ops m21_r5) .ret))) (.seq (.ops m21_r6) (.cond (.t 54) (.seq (.draw m21_r7) .ret) (.seq (.ops m21_r8) (.cond (.t 72) (.seq (.draw m21_r9) .ret) (.seq (.ops m21_r10) (.cond (.t 90) (.seq (.draw m21_r11) .ret) .skip)))))))))) (.seq (.draw m21_r12) .ret)))
def m21 : MFunc := ⟨120, [.tmp 4, .tmp 5, .tmp 6], m21_code⟩

def m22_r0 : List MI := [
  ⟨(some 2), .move (.k (.sc (.nils))), none⟩]
def m22_r1 : List MI := [
  ⟨(some 3), .move (.k (.sc (.nils))), none⟩]
def m22_r2 : List MI := [
  ⟨(some 6), .move (.t 0), none⟩,
  ⟨(some 7), .range (.t 6), none⟩]
def m22_r4 : List MI := [
  ⟨(some 8), .next (.t 7), none⟩,
  ⟨(some 9), .extract (.t 8) 0, none⟩]
def m22_r5 : List MI := [
  ⟨(some 10), .extract (.t 8) 2, none⟩,
  ⟨(some 5), .move (.t 10), none⟩]
def m22_r6 : List MI := [
  ⟨(some 11), .move (.t 5), none⟩,
  ⟨(some 12), .bin .gtr .no (.t 11) (.k (.sc (.int .i32 255))), none⟩]
def m22_r7 : List MI := [
  ⟨(some 13), .move (.t 3), none⟩,
  ⟨(some 14), .move (.t 5), none⟩,
  ⟨(some 15), .build [.int .i32 0, .int .u8 0, .int .u16 0, .int .u8 0, .int .u32 0, .int .u8 0, .int .u32 0] [(0, 1, (.t 14)), (1, 1, (.k (.sc (.int .u8 1))))], none⟩,
  ⟨(some 16), .move (.t 5), none⟩,
  ⟨(some 17), .build [.int .i32 0, .int .u8 0, .int .u16 0, .int .u8 0, .int .u32 0, .int .u8 0, .int .u32 0] [(0, 1, (.t 16)), (1, 1, (.k (.sc (.int .u8 2))))], none⟩,
  ⟨(some 18), .buildSlice 37 7 2 [.int .i32 0, .int .u8 0, .int .u16 0, .int .u8 0, .int .u32 0, .int .u8 0, .int .u32 0] [(0, 7, (.t 15)), (7, 7, (.t 17))], none⟩,
  ⟨(some 19), .append 37 7 28 [.int .i32 0, .int .u8 0, .int .u16 0, .int .u8 0, .int .u32 0, .int .u8 0, .int .u32 0] (.t 13) (.t 18), none⟩,
  ⟨(some 3), .move (.t 19), none⟩]
def m22_r8 : List MI := [
  ⟨(some 20), .move (.t 3), none⟩,
  ⟨(some 21), .move (.t 5), none⟩,
  ⟨(some 22), .build [.int .i32 0, .int .u8 0, .int .u16 0, .int .u8 0, .int .u32 0, .int .u8 0, .int .u32 0] [(0, 1, (.t 21))], none⟩,
  ⟨(some 23), .buildSlice 37 7 1 [.int .i32 0, .int .u8 0, .int .u16 0, .int .u8 0, .int .u32 0, .int .u8 0, .int .u32 0] [(0, 7, (.t 22))], none⟩,
  ⟨(some 24), .append 37 7 28 [.int .i32 0, .int .u8 0, .int .u16 0, .int .u8 0, .int .u32 0, .int .u8 0, .int .u32 0] (.t 20) (.t 23), none⟩,
  ⟨(some 3), .move (.t 24), none⟩]
def m22_l3 : MCode := (.seq (.ops m22_r4) (.seq (.cond (.t 9) .skip (.exit 0)) (.block 1 (.seq (.ops m22_r5) (.seq (.ops m22_r6) (.cond (.t 12) (.ops m22_r7) (.ops m22_r8)))))))
def m22_r9 : List MI := [
  ⟨(some 25), .move (.t 3), none⟩,
  ⟨(some 2), .move (.t 25), none⟩]
def m22_code : MCode := (.seq (.ops m22_r0) (.seq (.ops m22_r1) (.seq (.seq (.ops m22_r2) (.block 0 (.loop m22_l3))) (.seq (.ops m22_r9) .ret))))
def m22 : MFunc := ⟨26, [.tmp 2], m22_code⟩

def m23_r0 : List MI := [
  ⟨(some 3), .box 27 (.t 1), none⟩]
def m23_r1 : List MI := [
  ⟨(some 5), .move (.t 0), none⟩,
  ⟨(some 6), .lenSlice (.t 5), none⟩,
  ⟨(some 7), .move (.k (.sc (.int .i64 0))), none⟩]
def m23_r3 : List MI := [
  ⟨(some 8), .bin .lss .no (.t 7) (.t 6), none⟩]
def m23_r4 : List MI := [
  ⟨(some 9), .move (.t 7), none⟩,
  ⟨(some 4), .move (.t 9), none⟩]
def m23_r5 : List MI := [
  ⟨(some 10), .move (.t 0), none⟩,
  ⟨(some 11), .move (.t 4), none⟩,
  ⟨(some 12), .load (some 5) (.t 3), none⟩,
  ⟨(some 13), .call 36 [(.t 12)], none⟩,
  ⟨(some 14), .indexSlice 7 (.t 10) (.t 11), none⟩,
  ⟨none, .store 7 (.t 14) (.t 13), none⟩]
def m23_r6 : List MI := [
  ⟨(some 15), .bin .add .no (.t 7) (.k (.sc (.int .i64 1))), none⟩,
  ⟨(some 7), .move (.t 15), none⟩]
def m23_l2 : MCode := (.seq (.ops m23_r3) (.seq (.cond (.t 8) .skip (.exit 0)) (.seq (.block 1 (.seq (.ops m23_r4) (.ops m23_r5))) (.ops m23_r6))))
def m23_code : MCode := (.seq (.ops m23_r0) (.seq (.ops m23_r1) (.block 0 (.loop m23_l2))))
def m23 : MFunc := ⟨16, [], m23_code⟩

def m24_r0 : List MI := [
  ⟨(some 4), .move (.k (.sc (.int .i64 0))), none⟩,
  ⟨(some 5), .move (.k (.sc (.nili))), none⟩]
def m24_r1 : List MI := [
  ⟨(some 7), .move (.t 0), none⟩,
  ⟨(some 8), .call 37 [(.t 7)], none⟩]
def m24_r2 : List MI := [
  ⟨(some 9), .move (.t 0), none⟩,
  ⟨(some 10), .nilCheck (.t 9), none⟩,
  ⟨(some 11), .fieldAddr 1 (.t 10), none⟩,
  ⟨(some 12), .load none (.t 11), none⟩,
  ⟨(some 13), .lenSlice (.t 12), none⟩,
  ⟨(some 6), .move (.t 13), none⟩]
def m24_r3 : List MI := [
  ⟨(some 14), .move (.t 0), none⟩,
  ⟨(some 15), .move (.t 0), none⟩,
  ⟨(some 16), .nilCheck (.t 15), none⟩,
  ⟨(some 17), .fieldAddr 1 (.t 16), none⟩,
  ⟨(some 18), .load none (.t 17), none⟩,
  ⟨(some 19), .move (.t 1), none⟩,
  ⟨(some 20), .call 38 [(.t 18), (.t 19)], none⟩,
  ⟨(some 21), .nilCheck (.t 14), none⟩,
  ⟨(some 22), .fieldAddr 1 (.t 21), none⟩,
  ⟨none, .store 1 (.t 22) (.t 20), none⟩]
def m24_r4 : List MI := [
  ⟨(some 23), .move (.t 0), none⟩,
  ⟨(some 24), .nilCheck (.t 23), none⟩,
  ⟨(some 25), .fieldAddr 1 (.t 24), none⟩,
  ⟨(some 26), .load none (.t 25), none⟩,
  ⟨(some 27), .lenSlice (.t 26), none⟩,
  ⟨(some 28), .move (.t 6), none⟩,
  ⟨(some 29), .bin .sub .no (.t 27) (.t 28), none⟩,
  ⟨(some 4), .move (.t 29), none⟩,
  ⟨(some 5), .move (.k (.sc (.nili))), none⟩]
def m24_code : MCode := (.seq (.ops m24_r0) (.seq (.ops m24_r1) (.seq (.ops m24_r2) (.seq (.ops m24_r3) (.seq (.ops m24_r4) .ret)))))
def m24 : MFunc := ⟨30, [.tmp 4, .tmp 5], m24_code⟩

def m25_r0 : List MI := [
  ⟨(some 4), .move (.k (.sc (.str []))), none⟩]
def m25_r1 : List MI := [
  ⟨(some 7), .move (.t 0), none⟩,
  ⟨(some 8), .bin .eql .no (.t 7) (.k (.sc (.str []))), none⟩,
  ⟨(some 9), .move (.t 8), none⟩,
  ⟨(some 10), .move (.t 1), (some (9, false))⟩,
  ⟨(some 11), .bin .eql .no (.t 10) (.k (.sc (.str []))), (some (9, false))⟩,
  ⟨(some 12), .pick (.t 9) (.k (.sc (.bool true))) (.t 11), none⟩]
def m25_r2 : List MI := [
  ⟨(some 13), .move (.t 0), none⟩,
  ⟨(some 4), .move (.t 13), none⟩]
def m25_r3 : List MI := [
  ⟨(some 14), .move (.t 1), none⟩,
  ⟨(some 15), .lenStr (.t 14), none⟩,
  ⟨(some 16), .bin .eql .no (.t 15) (.k (.sc (.int .i64 1))), none⟩,
  ⟨(some 17), .move (.t 16), none⟩,
  ⟨(some 18), .move (.t 1), (some (17, true))⟩,
  ⟨(some 19), .idxStr (.t 18) (.k (.sc (.int .i64 0))), (some (17, true))⟩,
  ⟨(some 20), .bin .lss .no (.t 19) (.k (.sc (.int .u8 128))), (some (17, true))⟩,
  ⟨(some 21), .pick (.t 17) (.t 20) (.k (.sc (.bool false))), none⟩]
def m25_r4 : List MI := [
  ⟨(some 22), .move (.t 0), none⟩,
  ⟨(some 23), .move (.t 1), none⟩,
  ⟨(some 24), .idxStr (.t 23) (.k (.sc (.int .i64 0))), none⟩,
  ⟨(some 25), .call 39 [(.t 22), (.t 24)], none⟩,
  ⟨(some 4), .move (.t 25), none⟩]
def m25_r5 : List MI := [
  ⟨(some 27), .move (.t 1), none⟩,
  ⟨(some 28), .call 40 [(.t 27)], none⟩,
  ⟨(some 26), .move (.t 28), none⟩,
  ⟨(some 29), .extract (.t 26) 0, none⟩,
  ⟨(some 30), .extract (.t 26) 1, none⟩,
  ⟨(some 5), .alloc 69 [.bool false, .bool false, .bool false, .bool false, .bool false, .bool false, .bool false, .bool false, .bool false, .bool false, .bool false, .bool false, .bool false, .bool false, .bool false, .bool false, .bool false, .bool false, .bool false, .bool false, .bool false, .bool false, .bool false, .bool false, .bool false, .bool false, .bool false, .bool false, .bool false, .bool false, .bool false, .bool false, .bool false, .bool false, .bool false, .bool false, .bool false, .bool false, .bool false, .bool false, .bool false, .bool false, .bool false, .bool false, .bool false, .bool false, .bool false, .bool false, .bool false, .bool false, .bool false, .bool false, .bool false, .bool false, .bool false, .bool false, .bool false, .bool false, .bool false, .bool false, .bool false, .bool false, .bool false, .bool false, .bool false, .bool false, .bool false, .bool false, .bool false, .bool false, .bool false, .bool false, .bool false, .bool false, .bool false, .bool false, .bool false, .bool false, .bool false, .bool false, .bool false, .bool false, .bool false, .bool false, .bool false, .bool false, .bool false, .bool false, .bool false, .bool false, .bool false, .bool false, .bool false, .bool false, .bool false, .bool false, .bool false, .bool false, .bool false, .bool false, .bool false, .bool false, .bool false, .bool false, .bool false, .bool false, .bool false, .bool false, .bool false, .bool false, .bool false, .bool false, .bool false, .bool false, .bool false, .bool false, .bool false, .bool false, .bool false, .bool false, .bool false, .bool false, .bool false, .bool false, .bool false, .bool false, .bool false, .bool false, .bool false, .bool false, .bool false, .bool false, .bool false, .bool false, .bool false, .bool false, .bool false, .bool false, .bool false, .bool false, .bool false, .bool false, .bool false, .bool false, .bool false, .bool false, .bool false, .bool false, .bool false, .bool false, .bool false, .bool false, .bool false, .bool false, .bool false, .bool false, .bool false, .bool false, .bool false, .bool false, .bool false, .bool false, .bool false, .bool false, .bool false, .bool false, .bool false, .bool false, .bool false, .bool false, .bool false, .bool false, .bool false, .bool false, .bool false, .bool false, .bool false, .bool false, .bool false, .bool false, .bool false, .bool false, .bool false, .bool false, .bool false, .bool false, .bool false, .bool false, .bool false, .bool false, .bool false, .bool false, .bool false, .bool false, .bool false, .bool false, .bool false, .bool false, .bool false, .bool false, .bool false, .bool false, .bool false, .bool false, .bool false, .bool false, .bool false, .bool false, .bool false, .bool false, .bool false, .bool false, .bool false, .bool false, .bool false, .bool false, .bool false, .bool false, .bool false, .bool false, .bool false, .bool false, .bool false, .bool false, .bool false, .bool false, .bool false, .bool false, .bool false, .bool false, .bool false, .bool false, .bool false, .bool false, .bool false, .bool false, .bool false, .bool false, .bool false, .bool false, .bool false, .bool false, .bool false, .bool false, .bool false, .bool false, .bool false, .bool false, .bool false, .bool false, .bool false, .bool false, .bool false, .bool false, .bool false, .bool false], none⟩,
  ⟨none, .store 256 (.t 5) (.t 29), none⟩,
  ⟨(some 6), .move (.t 30), none⟩]
def m25_r6 : List MI := [
  ⟨(some 31), .move (.t 6), none⟩]
def m25_r7 : List MI := [
  ⟨(some 32), .move (.t 0), none⟩,
  ⟨(some 33), .call 41 [(.t 32), (.t 5)], none⟩,
  ⟨(some 4), .move (.t 33), none⟩]
def m25_r8 : List MI := [
  ⟨(some 34), .move (.t 0), none⟩,
  ⟨(some 35), .move (.t 1), none⟩,
  ⟨(some 36), .call 42 [(.t 34), (.t 35)], none⟩,
  ⟨(some 4), .move (.t 36), none⟩]
def m25_code : MCode := (.seq (.ops m25_r0) (.seq (.seq (.ops m25_r1) (.cond (.t 12) (.seq (.ops m25_r2) .ret) .skip)) (.seq (.seq (.ops m25_r3) (.cond (.t 21) (.seq (.ops m25_r4) .ret) .skip)) (.seq (.seq (.ops m25_r5) (.seq (.ops m25_r6) (.cond (.t 31) (.seq (.ops m25_r7) .ret) .skip))) (.seq (.ops m25_r8) .ret)))))
def m25 : MFunc := ⟨37, [.tmp 4], m25_code⟩

def m26_r0 : List MI := [
  ⟨(some 2), .move (.k (.sc (.str []))), none⟩]
def m26_r1 : List DI := [
  ⟨⟨(some 3), .move (.t 0), none⟩, 0, [], []⟩,
  ⟨⟨(some 4), .nilCheck (.t 3), none⟩, 0, [], []⟩,
  ⟨⟨(some 5), .fieldAddr 1 (.t 4), none⟩, 0, [], []⟩,
  ⟨⟨(some 6), .load none (.t 5), none⟩, 1, [], []⟩,
  ⟨⟨(some 7), .usliceData (.t 6), none⟩, 2, [], []⟩,
  ⟨⟨(some 8), .move (.t 0), none⟩, 0, [4], []⟩,
  ⟨⟨(some 9), .nilCheck (.t 8), none⟩, 0, [4], []⟩,
  ⟨⟨(some 10), .fieldAddr 1 (.t 9), none⟩, 0, [4], []⟩,
  ⟨⟨(some 11), .load none (.t 10), none⟩, 1, [4], []⟩,
  ⟨⟨(some 12), .lenSlice (.t 11), none⟩, 0, [4], []⟩,
  ⟨⟨(some 13), .ustring 5 (.t 7) (.t 12), none⟩, 2, [], []⟩,
  ⟨⟨(some 2), .move (.t 13), none⟩, 0, [], []⟩]
def m26_code : MCode := (.seq (.ops m26_r0) (.seq (.draw m26_r1) .ret))
def m26 : MFunc := ⟨14, [.tmp 2], m26_code⟩

def m27_r0 : List MI := [
  ⟨(some 2), .move (.k (.sc (.nils))), none⟩]
def m27_r1 : List MI := [
  ⟨(some 3), .move (.t 0), none⟩,
  ⟨(some 4), .bin .eql .slice (.t 3) (.k (.sc (.nils))), none⟩]
def m27_r2 : List MI := [
  ⟨(some 2), .move (.k (.sc (.nils))), none⟩]
def m27_r3 : List MI := [
  ⟨(some 5), .buildSlice 37 7 0 [.int .i32 0, .int .u8 0, .int .u16 0, .int .u8 0, .int .u32 0, .int .u8 0, .int .u32 0] [], none⟩,
  ⟨(some 6), .move (.t 0), none⟩,
  ⟨(some 7), .append 37 7 28 [.int .i32 0, .int .u8 0, .int .u16 0, .int .u8 0, .int .u32 0, .int .u8 0, .int .u32 0] (.t 5) (.t 6), none⟩,
  ⟨(some 2), .move (.t 7), none⟩]
def m27_code : MCode := (.seq (.ops m27_r0) (.seq (.seq (.ops m27_r1) (.cond (.t 4) (.seq (.ops m27_r2) .ret) .skip)) (.seq (.ops m27_r3) .ret)))
def m27 : MFunc := ⟨8, [.tmp 2], m27_code⟩

def m28_r0 : List MI := [
  ⟨(some 6), .move (.k (.sc (.int .i64 0))), none⟩]
def m28_r1 : List MI := [
  ⟨(some 7), .move (.t 0), none⟩,
  ⟨(some 8), .move (.t 1), none⟩,
  ⟨(some 9), .call 30 [(.t 7), (.t 8)], none⟩,
  ⟨(some 10), .un .not (.t 9), none⟩,
  ⟨(some 11), .move (.t 10), none⟩,
  ⟨(some 12), .move (.t 2), (some (11, false))⟩,
  ⟨(some 13), .bin .lss .no (.t 12) (.k (.sc (.int .i64 1))), (some (11, false))⟩,
  ⟨(some 14), .pick (.t 11) (.k (.sc (.bool true))) (.t 13), none⟩]
def m28_r2 : List MI := [
  ⟨(some 6), .move (.k (.sc (.int .i64 0))), none⟩]
def m28_r3 : List MI := [
  ⟨(some 15), .move (.t 2), none⟩,
  ⟨(some 16), .move (.t 0), none⟩,
  ⟨(some 17), .lenSlice (.t 16), none⟩,
  ⟨(some 18), .move (.t 1), none⟩,
  ⟨(some 19), .bin .sub .no (.t 17) (.t 18), none⟩,
  ⟨(some 20), .min [(.t 15), (.t 19)], none⟩,
  ⟨(some 6), .move (.t 20), none⟩]
def m28_code : MCode := (.seq (.ops m28_r0) (.seq (.seq (.ops m28_r1) (.cond (.t 14) (.seq (.ops m28_r2) .ret) .skip)) (.seq (.ops m28_r3) .ret)))
def m28 : MFunc := ⟨21, [.tmp 6], m28_code⟩

def m29_r0 : List MI := [
  ⟨(some 4), .move (.t 1), none⟩,
  ⟨(some 5), .bin .gtr .no (.t 4) (.k (.sc (.int .i64 0))), none⟩,
  ⟨(some 6), .move (.t 5), none⟩,
  ⟨(some 7), .move (.t 1), (some (6, true))⟩,
  ⟨(some 8), .move (.t 0), (some (6, true))⟩,
  ⟨(some 9), .lenSlice (.t 8), (some (6, true))⟩,
  ⟨(some 10), .bin .lss .no (.t 7) (.t 9), (some (6, true))⟩,
  ⟨(some 11), .pick (.t 6) (.t 10) (.k (.sc (.bool false))), none⟩,
  ⟨(some 12), .move (.t 11), none⟩,
  ⟨(some 13), .move (.t 0), (some (12, true))⟩,
  ⟨(some 14), .move (.t 1), (some (12, true))⟩,
  ⟨(some 15), .indexSlice 7 (.t 13) (.t 14), (some (12, true))⟩,
  ⟨(some 16), .fieldAddr 1 (.t 15), (some (12, true))⟩,
  ⟨(some 17), .load none (.t 16), (some (12, true))⟩,
  ⟨(some 18), .bin .eql .no (.t 17) (.k (.sc (.int .u8 2))), (some (12, true))⟩,
  ⟨(some 19), .pick (.t 12) (.t 18) (.k (.sc (.bool false))), none⟩]
def m29_r1 : List DI := [
  ⟨⟨(some 20), .move (.t 0), none⟩, 0, [], [11, 17]⟩,
  ⟨⟨(some 21), .move (.t 1), none⟩, 0, [], [11, 17]⟩,
  ⟨⟨(some 22), .bin .sub .no (.t 21) (.k (.sc (.int .i64 1))), none⟩, 0, [], [11, 17]⟩,
  ⟨⟨(some 23), .move (.t 0), none⟩, 0, [], [11, 17, 19]⟩,
  ⟨⟨(some 24), .move (.t 1), none⟩, 0, [], [11, 17, 19]⟩,
  ⟨⟨(some 25), .move (.t 0), none⟩, 0, [], []⟩,
  ⟨⟨(some 26), .move (.t 1), none⟩, 0, [], []⟩,
  ⟨⟨(some 27), .bin .sub .no (.t 26) (.k (.sc (.int .i64 1))), none⟩, 0, [], []⟩,
  ⟨⟨(some 28), .indexSlice 7 (.t 25) (.t 27), none⟩, 0, [], []⟩,
  ⟨⟨(some 29), .fieldAddr 2 (.t 28), none⟩, 0, [], []⟩,
  ⟨⟨(some 30), .load (some 5) (.t 29), none⟩, 1, [], []⟩,
  ⟨⟨(some 31), .call 36 [(.t 30)], none⟩, 2, [], []⟩,
  ⟨⟨(some 32), .move (.t 0), none⟩, 0, [11], []⟩,
  ⟨⟨(some 33), .move (.t 1), none⟩, 0, [11], []⟩,
  ⟨⟨(some 34), .indexSlice 7 (.t 32) (.t 33), none⟩, 0, [11], []⟩,
  ⟨⟨(some 35), .fieldAddr 2 (.t 34), none⟩, 0, [11], []⟩,
  ⟨⟨(some 36), .load (some 5) (.t 35), none⟩, 1, [11], []⟩,
  ⟨⟨(some 37), .call 36 [(.t 36)], none⟩, 2, [], []⟩,
  ⟨⟨(some 38), .indexSlice 7 (.t 20) (.t 22), none⟩, 0, [], []⟩,
  ⟨⟨none, .store 7 (.t 38) (.t 31), none⟩, 2, [], []⟩,
  ⟨⟨(some 39), .indexSlice 7 (.t 23) (.t 24), none⟩, 0, [], []⟩,
  ⟨⟨none, .store 7 (.t 39) (.t 37), none⟩, 2, [], []⟩]
def m29_code : MCode := (.seq (.ops m29_r0) (.cond (.t 19) (.draw m29_r1) .skip))
def m29 : MFunc := ⟨40, [], m29_code⟩

def m30_r0 : List MI := [
  ⟨(some 4), .move (.k (.sc (.bool false))), none⟩]
def m30_r1 : List MI := [
  ⟨(some 5), .move (.t 1), none⟩,
  ⟨(some 6), .bin .geq .no (.t 5) (.k (.sc (.int .i64 0))), none⟩,
  ⟨(some 7), .move (.t 6), none⟩,
  ⟨(some 8), .move (.t 1), (some (7, true))⟩,
  ⟨(some 9), .move (.t 0), (some (7, true))⟩,
  ⟨(some 10), .lenSlice (.t 9), (some (7, true))⟩,
  ⟨(some 11), .bin .lss .no (.t 8) (.t 10), (some (7, true))⟩,
  ⟨(some 12), .pick (.t 7) (.t 11) (.k (.sc (.bool false))), none⟩,
  ⟨(some 4), .move (.t 12), none⟩]
def m30_code : MCode := (.seq (.ops m30_r0) (.seq (.ops m30_r1) .ret))
def m30 : MFunc := ⟨13, [.tmp 4], m30_code⟩

def m31_r0 : List MI := [
  ⟨(some 9), .box 27 (.t 4), none⟩,
  ⟨(some 10), .move (.k (.sc (.nils))), none⟩,
  ⟨(some 11), .move (.k (.sc (.bool false))), none⟩]
def m31_r1 : List MI := [
  ⟨(some 13), .move (.t 2), none⟩,
  ⟨(some 14), .load (some 5) (.t 9), none⟩,
  ⟨(some 15), .build [.int .i32 0, .int .u8 0, .int .u16 0, .int .u8 0, .int .u32 0, .int .u8 0, .int .u32 0] [(0, 1, (.t 13)), (2, 5, (.t 14))], none⟩,
  ⟨(some 16), .buildSlice 37 7 1 [.int .i32 0, .int .u8 0, .int .u16 0, .int .u8 0, .int .u32 0, .int .u8 0, .int .u32 0] [(0, 7, (.t 15))], none⟩,
  ⟨(some 12), .move (.t 16), none⟩]
def m31_r2 : List MI := [
  ⟨(some 17), .move (.t 3), none⟩]
def m31_r3 : List MI := [
  ⟨(some 18), .move (.t 2), none⟩,
  ⟨(some 19), .load (some 5) (.t 9), none⟩,
  ⟨(some 20), .build [.int .i32 0, .int .u8 0, .int .u16 0, .int .u8 0, .int .u32 0, .int .u8 0, .int .u32 0] [(0, 1, (.t 18)), (1, 1, (.k (.sc (.int .u8 1)))), (2, 5, (.t 19))], none⟩,
  ⟨(some 21), .move (.t 2), none⟩,
  ⟨(some 22), .load (some 5) (.t 9), none⟩,
  ⟨(some 23), .build [.int .i32 0, .int .u8 0, .int .u16 0, .int .u8 0, .int .u32 0, .int .u8 0, .int .u32 0] [(0, 1, (.t 21)), (1, 1, (.k (.sc (.int .u8 2)))), (2, 5, (.t 22))], none⟩,
  ⟨(some 24), .buildSlice 37 7 2 [.int .i32 0, .int .u8 0, .int .u16 0, .int .u8 0, .int .u32 0, .int .u8 0, .int .u32 0] [(0, 7, (.t 20)), (7, 7, (.t 23))], none⟩,
  ⟨(some 12), .move (.t 24), none⟩]
def m31_r4 : List MI := [
  ⟨(some 25), .move (.t 1), none⟩,
  ⟨(some 26), .bin .lss .no (.t 25) (.k (.sc (.int .i64 0))), none⟩,
  ⟨(some 27), .move (.t 26), none⟩,
  ⟨(some 28), .move (.t 1), (some (27, false))⟩,
  ⟨(some 29), .move (.t 0), (some (27, false))⟩,
  ⟨(some 30), .lenSlice (.t 29), (some (27, false))⟩,
  ⟨(some 31), .move (.t 12), (some (27, false))⟩,
  ⟨(some 32), .lenSlice (.t 31), (some (27, false))⟩,
  ⟨(some 33), .bin .sub .no (.t 30) (.t 32), (some (27, false))⟩,
  ⟨(some 34), .bin .gtr .no (.t 28) (.t 33), (some (27, false))⟩,
  ⟨(some 35), .pick (.t 27) (.k (.sc (.bool true))) (.t 34), none⟩]
def m31_r5 : List MI := [
  ⟨(some 10), .move (.k (.sc (.nils))), none⟩,
  ⟨(some 11), .move (.k (.sc (.bool false))), none⟩]
def m31_r6 : List MI := [
  ⟨(some 36), .move (.t 0), none⟩,
  ⟨(some 37), .move (.t 1), none⟩,
  ⟨(some 38), .call 43 [(.t 36), (.t 37)], none⟩,
  ⟨(some 39), .move (.t 1), none⟩,
  ⟨(some 40), .move (.t 12), none⟩,
  ⟨(some 41), .lenSlice (.t 40), none⟩,
  ⟨(some 42), .bin .add .no (.t 39) (.t 41), none⟩,
  ⟨(some 43), .call 43 [(.t 38), (.t 42)], none⟩,
  ⟨(some 0), .move (.t 43), none⟩]
def m31_r7 : List DI := [
  ⟨⟨(some 44), .move (.t 0), none⟩, 0, [], []⟩,
  ⟨⟨(some 45), .move (.t 1), none⟩, 0, [], []⟩,
  ⟨⟨(some 46), .slice 7 (.t 44) none (some (.t 45)), none⟩, 0, [], []⟩,
  ⟨⟨(some 47), .move (.t 12), none⟩, 0, [], []⟩,
  ⟨⟨(some 48), .move (.t 0), none⟩, 0, [], []⟩,
  ⟨⟨(some 49), .move (.t 1), none⟩, 0, [], []⟩,
  ⟨⟨(some 50), .move (.t 12), none⟩, 0, [], []⟩,
  ⟨⟨(some 51), .lenSlice (.t 50), none⟩, 0, [], []⟩,
  ⟨⟨(some 52), .bin .add .no (.t 49) (.t 51), none⟩, 0, [], []⟩,
  ⟨⟨(some 53), .slice 7 (.t 48) (some (.t 52)) none, none⟩, 0, [], []⟩,
  ⟨⟨(some 54), .call 44 [(.t 46), (.t 47), (.t 53)], none⟩, 2, [], []⟩,
  ⟨⟨(some 10), .move (.t 54), none⟩, 0, [], []⟩,
  ⟨⟨(some 11), .move (.k (.sc (.bool true))), none⟩, 0, [], []⟩]
def m31_code : MCode := (.seq (.ops m31_r0) (.seq (.ops m31_r1) (.seq (.seq (.ops m31_r2) (.cond (.t 17) (.ops m31_r3) .skip)) (.seq (.seq (.ops m31_r4) (.cond (.t 35) (.seq (.ops m31_r5) .ret) .skip)) (.seq (.ops m31_r6) (.seq (.draw m31_r7) .ret))))))
def m31 : MFunc := ⟨55, [.tmp 10, .tmp 11], m31_code⟩

def m32_r0 : List MI := [
  ⟨(some 7), .box 27 (.t 3), none⟩,
  ⟨(some 8), .move (.k (.sc (.nils))), none⟩]
def m32_r1 : List MI := [
  ⟨(some 9), .move (.t 0), none⟩,
  ⟨(some 10), .move (.t 1), none⟩,
  ⟨(some 11), .move (.t 2), none⟩,
  ⟨(some 12), .call 45 [(.t 9), (.t 10), (.t 11)], none⟩,
  ⟨(some 2), .move (.t 12), none⟩]
def m32_r2 : List MI := [
  ⟨(some 13), .move (.t 2), none⟩,
  ⟨(some 14), .bin .eql .no (.t 13) (.k (.sc (.int .i64 0))), none⟩]
def m32_r3 : List MI := [
  ⟨(some 15), .buildSlice 37 7 0 [.int .i32 0, .int .u8 0, .int .u16 0, .int .u8 0, .int .u32 0, .int .u8 0, .int .u32 0] [], none⟩,
  ⟨(some 16), .move (.t 0), none⟩,
  ⟨(some 17), .append 37 7 28 [.int .i32 0, .int .u8 0, .int .u16 0, .int .u8 0, .int .u32 0, .int .u8 0, .int .u32 0] (.t 15) (.t 16), none⟩,
  ⟨(some 8), .move (.t 17), none⟩]
def m32_r4 : List MI := [
  ⟨(some 18), .move (.t 0), none⟩,
  ⟨(some 19), .move (.t 1), none⟩,
  ⟨(some 20), .call 43 [(.t 18), (.t 19)], none⟩,
  ⟨(some 21), .move (.t 0), none⟩,
  ⟨(some 22), .lenSlice (.t 21), none⟩,
  ⟨(some 23), .move (.t 2), none⟩,
  ⟨(some 24), .bin .sub .no (.t 22) (.t 23), none⟩,
  ⟨(some 25), .call 43 [(.t 20), (.t 24)], none⟩,
  ⟨(some 0), .move (.t 25), none⟩]
def m32_r5 : List DI := [
  ⟨⟨(some 26), .move (.t 0), none⟩, 0, [], [5]⟩,
  ⟨⟨(some 27), .move (.t 1), none⟩, 0, [], [5]⟩,
  ⟨⟨(some 28), .slice 7 (.t 26) none (some (.t 27)), none⟩, 0, [], [5]⟩,
  ⟨⟨(some 29), .move (.t 2), none⟩, 0, [], []⟩,
  ⟨⟨(some 30), .load (some 5) (.t 7), none⟩, 1, [], []⟩,
  ⟨⟨(some 31), .call 11 [(.t 29), (.t 30)], none⟩, 2, [], []⟩,
  ⟨⟨(some 32), .move (.t 0), none⟩, 0, [5], []⟩,
  ⟨⟨(some 33), .move (.t 1), none⟩, 0, [5], []⟩,
  ⟨⟨(some 34), .move (.t 0), none⟩, 0, [5], []⟩,
  ⟨⟨(some 35), .lenSlice (.t 34), none⟩, 0, [5], []⟩,
  ⟨⟨(some 36), .move (.t 2), none⟩, 0, [5], []⟩,
  ⟨⟨(some 37), .bin .sub .no (.t 35) (.t 36), none⟩, 0, [5], []⟩,
  ⟨⟨(some 38), .slice 7 (.t 32) (some (.t 33)) (some (.t 37)), none⟩, 0, [5], []⟩,
  ⟨⟨(some 39), .call 44 [(.t 28), (.t 31), (.t 38)], none⟩, 2, [], []⟩,
  ⟨⟨(some 8), .move (.t 39), none⟩, 0, [], []⟩]
def m32_code : MCode := (.seq (.ops m32_r0) (.seq (.ops m32_r1) (.seq (.seq (.ops m32_r2) (.cond (.t 14) (.seq (.ops m32_r3) .ret) .skip)) (.seq (.ops m32_r4) (.seq (.draw m32_r5) .ret)))))
def m32 : MFunc := ⟨40, [.tmp 8], m32_code⟩

def m33_r0 : List MI := [
  ⟨(some 7), .box 27 (.t 3), none⟩,
  ⟨(some 8), .move (.k (.sc (.nils))), none⟩]
def m33_r1 : List MI := [
  ⟨(some 9), .move (.t 0), none⟩,
  ⟨(some 10), .move (.t 1), none⟩,
  ⟨(some 11), .move (.t 2), none⟩,
  ⟨(some 12), .call 45 [(.t 9), (.t 10), (.t 11)], none⟩,
  ⟨(some 2), .move (.t 12), none⟩]
def m33_r2 : List MI := [
  ⟨(some 13), .move (.t 2), none⟩,
  ⟨(some 14), .bin .eql .no (.t 13) (.k (.sc (.int .i64 0))), none⟩]
def m33_r3 : List MI := [
  ⟨(some 15), .buildSlice 37 7 0 [.int .i32 0, .int .u8 0, .int .u16 0, .int .u8 0, .int .u32 0, .int .u8 0, .int .u32 0] [], none⟩,
  ⟨(some 16), .move (.t 0), none⟩,
  ⟨(some 17), .append 37 7 28 [.int .i32 0, .int .u8 0, .int .u16 0, .int .u8 0, .int .u32 0, .int .u8 0, .int .u32 0] (.t 15) (.t 16), none⟩,
  ⟨(some 8), .move (.t 17), none⟩]
def m33_r4 : List MI := [
  ⟨(some 18), .move (.t 0), none⟩,
  ⟨(some 19), .move (.t 1), none⟩,
  ⟨(some 20), .call 43 [(.t 18), (.t 19)], none⟩,
  ⟨(some 21), .move (.t 1), none⟩,
  ⟨(some 22), .move (.t 2), none⟩,
  ⟨(some 23), .bin .add .no (.t 21) (.t 22), none⟩,
  ⟨(some 24), .call 43 [(.t 20), (.t 23)], none⟩,
  ⟨(some 0), .move (.t 24), none⟩]
def m33_r5 : List DI := [
  ⟨⟨(some 25), .move (.t 0), none⟩, 0, [], [10]⟩,
  ⟨⟨(some 26), .move (.t 1), none⟩, 0, [], [10]⟩,
  ⟨⟨(some 27), .slice 7 (.t 25) none (some (.t 26)), none⟩, 0, [], [10]⟩,
  ⟨⟨(some 28), .move (.t 0), none⟩, 0, [], [10]⟩,
  ⟨⟨(some 29), .move (.t 1), none⟩, 0, [], [10]⟩,
  ⟨⟨(some 30), .move (.t 2), none⟩, 0, [], [10]⟩,
  ⟨⟨(some 31), .bin .add .no (.t 29) (.t 30), none⟩, 0, [], [10]⟩,
  ⟨⟨(some 32), .slice 7 (.t 28) (some (.t 31)) none, none⟩, 0, [], [10]⟩,
  ⟨⟨(some 33), .move (.t 2), none⟩, 0, [], []⟩,
  ⟨⟨(some 34), .load (some 5) (.t 7), none⟩, 1, [], []⟩,
  ⟨⟨(some 35), .call 11 [(.t 33), (.t 34)], none⟩, 2, [], []⟩,
  ⟨⟨(some 36), .call 44 [(.t 27), (.t 32), (.t 35)], none⟩, 2, [], []⟩,
  ⟨⟨(some 8), .move (.t 36), none⟩, 0, [], []⟩]
def m33_code : MCode := (.seq (.ops m33_r0) (.seq (.ops m33_r1) (.seq (.seq (.ops m33_r2) (.cond (.t 14) (.seq (.ops m33_r3) .ret) .skip)) (.seq (.ops m33_r4) (.seq (.draw m33_r5) .ret)))))
def m33 : MFunc := ⟨37, [.tmp 8], m33_code⟩

def m34_r0 : List MI := [
  ⟨(some 7), .box 27 (.t 3), none⟩,
  ⟨(some 8), .move (.k (.sc (.nils))), none⟩]
def m34_r1 : List MI := [
  ⟨(some 9), .move (.t 0), none⟩,
  ⟨(some 10), .move (.t 1), none⟩,
  ⟨(some 11), .move (.t 2), none⟩,
  ⟨(some 12), .call 45 [(.t 9), (.t 10), (.t 11)], none⟩,
  ⟨(some 2), .move (.t 12), none⟩]
def m34_r2 : List MI := [
  ⟨(some 13), .move (.t 2), none⟩,
  ⟨(some 14), .bin .eql .no (.t 13) (.k (.sc (.int .i64 0))), none⟩]
def m34_r3 : List MI := [
  ⟨(some 15), .buildSlice 37 7 0 [.int .i32 0, .int .u8 0, .int .u16 0, .int .u8 0, .int .u32 0, .int .u8 0, .int .u32 0] [], none⟩,
  ⟨(some 16), .move (.t 0), none⟩,
  ⟨(some 17), .append 37 7 28 [.int .i32 0, .int .u8 0, .int .u16 0, .int .u8 0, .int .u32 0, .int .u8 0, .int .u32 0] (.t 15) (.t 16), none⟩,
  ⟨(some 8), .move (.t 17), none⟩]
def m34_r4 : List MI := [
  ⟨(some 18), .move (.t 0), none⟩,
  ⟨(some 19), .move (.t 1), none⟩,
  ⟨(some 20), .call 43 [(.t 18), (.t 19)], none⟩,
  ⟨(some 21), .move (.t 1), none⟩,
  ⟨(some 22), .move (.t 2), none⟩,
  ⟨(some 23), .bin .add .no (.t 21) (.t 22), none⟩,
  ⟨(some 24), .call 43 [(.t 20), (.t 23)], none⟩,
  ⟨(some 0), .move (.t 24), none⟩]
def m34_r5 : List DI := [
  ⟨⟨(some 25), .move (.t 0), none⟩, 0, [], [5]⟩,
  ⟨⟨(some 26), .move (.t 1), none⟩, 0, [], [5]⟩,
  ⟨⟨(some 27), .slice 7 (.t 25) none (some (.t 26)), none⟩, 0, [], [5]⟩,
  ⟨⟨(some 28), .move (.t 2), none⟩, 0, [], []⟩,
  ⟨⟨(some 29), .load (some 5) (.t 7), none⟩, 1, [], []⟩,
  ⟨⟨(some 30), .call 11 [(.t 28), (.t 29)], none⟩, 2, [], []⟩,
  ⟨⟨(some 31), .move (.t 0), none⟩, 0, [5], []⟩,
  ⟨⟨(some 32), .move (.t 1), none⟩, 0, [5], []⟩,
  ⟨⟨(some 33), .move (.t 2), none⟩, 0, [5], []⟩,
  ⟨⟨(some 34), .bin .add .no (.t 32) (.t 33), none⟩, 0, [5], []⟩,
  ⟨⟨(some 35), .slice 7 (.t 31) (some (.t 34)) none, none⟩, 0, [5], []⟩,
  ⟨⟨(some 36), .call 44 [(.t 27), (.t 30), (.t 35)], none⟩, 2, [], []⟩,
  ⟨⟨(some 8), .move (.t 36), none⟩, 0, [], []⟩]
def m34_code : MCode := (.seq (.ops m34_r0) (.seq (.ops m34_r1) (.seq (.seq (.ops m34_r2) (.cond (.t 14) (.seq (.ops m34_r3) .ret) .skip)) (.seq (.ops m34_r4) (.seq (.draw m34_r5) .ret)))))
def m34 : MFunc := ⟨37, [.tmp 8], m34_code⟩

def m35_r0 : List MI := [
  ⟨(some 5), .box 27 (.t 2), none⟩,
  ⟨(some 6), .move (.k (.sc (.nils))), none⟩]
def m35_r1 : List MI := [
  ⟨(some 7), .move (.t 1), none⟩,
  ⟨(some 8), .bin .lss .no (.t 7) (.k (.sc (.int .i64 1))), none⟩,
  ⟨(some 9), .move (.t 8), none⟩,
  ⟨(some 10), .move (.t 1), (some (9, false))⟩,
  ⟨(some 11), .bin .gtr .no (.t 10) (.k (.sc (.int .i64 400))), (some (9, false))⟩,
  ⟨(some 12), .pick (.t 9) (.k (.sc (.bool true))) (.t 11), none⟩]
def m35_r2 : List MI := [
  ⟨(some 13), .buildSlice 37 7 0 [.int .i32 0, .int .u8 0, .int .u16 0, .int .u8 0, .int .u32 0, .int .u8 0, .int .u32 0] [], none⟩,
  ⟨(some 14), .move (.t 0), none⟩,
  ⟨(some 15), .append 37 7 28 [.int .i32 0, .int .u8 0, .int .u16 0, .int .u8 0, .int .u32 0, .int .u8 0, .int .u32 0] (.t 13) (.t 14), none⟩,
  ⟨(some 6), .move (.t 15), none⟩]
def m35_r3 : List MI := [
  ⟨(some 16), .move (.t 0), none⟩,
  ⟨(some 17), .move (.t 1), none⟩,
  ⟨(some 18), .call 43 [(.t 16), (.t 17)], none⟩,
  ⟨(some 0), .move (.t 18), none⟩]
def m35_r4 : List MI := [
  ⟨(some 19), .move (.t 1), none⟩,
  ⟨(some 20), .move (.t 0), none⟩,
  ⟨(some 21), .lenSlice (.t 20), none⟩,
  ⟨(some 22), .bin .leq .no (.t 19) (.t 21), none⟩]
def m35_r5 : List MI := [
  ⟨(some 23), .move (.t 0), none⟩,
  ⟨(some 24), .move (.t 1), none⟩,
  ⟨(some 25), .slice 7 (.t 23) none (some (.t 24)), none⟩,
  ⟨(some 6), .move (.t 25), none⟩]
def m35_r6 : List MI := [
  ⟨(some 26), .move (.t 0), none⟩,
  ⟨(some 27), .move (.t 1), none⟩,
  ⟨(some 28), .move (.t 0), none⟩,
  ⟨(some 29), .lenSlice (.t 28), none⟩,
  ⟨(some 30), .bin .sub .no (.t 27) (.t 29), none⟩,
  ⟨(some 31), .load (some 5) (.t 5), none⟩,
  ⟨(some 32), .call 11 [(.t 30), (.t 31)], none⟩,
  ⟨(some 33), .call 44 [(.t 26), (.t 32), (.k (.sc (.nils)))], none⟩,
  ⟨(some 6), .move (.t 33), none⟩]
def m35_code : MCode := (.seq (.ops m35_r0) (.seq (.seq (.ops m35_r1) (.cond (.t 12) (.seq (.ops m35_r2) .ret) .skip)) (.seq (.ops m35_r3) (.seq (.seq (.ops m35_r4) (.cond (.t 22) (.seq (.ops m35_r5) .ret) .skip)) (.seq (.ops m35_r6) .ret)))))
def m35 : MFunc := ⟨34, [.tmp 6], m35_code⟩

def m36_r0 : List MI := [
  ⟨(some 1), .box 27 (.t 0), none⟩,
  ⟨(some 2), .alloc 37 [.int .i32 0, .int .u8 0, .int .u16 0, .int .u8 0, .int .u32 0, .int .u8 0, .int .u32 0], none⟩]
def m36_r1 : List MI := [
  ⟨(some 3), .load (some 5) (.t 1), none⟩,
  ⟨(some 4), .build [.int .i32 0, .int .u8 0, .int .u16 0, .int .u8 0, .int .u32 0, .int .u8 0, .int .u32 0] [(0, 1, (.k (.sc (.int .i32 32)))), (2, 5, (.t 3))], none⟩,
  ⟨none, .store 7 (.t 2) (.t 4), none⟩]
def m36_code : MCode := (.seq (.ops m36_r0) (.seq (.ops m36_r1) .ret))
def m36 : MFunc := ⟨5, [.cell 2 (some 7)], m36_code⟩

def m37_r0 : List MI := [
  ⟨(some 2), .move (.t 0), none⟩,
  ⟨(some 3), .nilCheck (.t 2), none⟩,
  ⟨(some 4), .fieldAddr 0 (.t 3), none⟩,
  ⟨(some 5), .load none (.t 4), none⟩,
  ⟨(some 6), .bin .eql .ptr (.t 5) (.k (.sc (.nilp))), none⟩]
def m37_r1 : List MI := [
  ⟨(some 7), .move (.t 0), none⟩,
  ⟨(some 8), .move (.t 0), none⟩,
  ⟨(some 9), .conv .ptrUnsafe (.t 8), none⟩,
  ⟨(some 10), .same (.t 9), none⟩,
  ⟨(some 11), .conv (.unsafePtr 54 2) (.t 10), none⟩,
  ⟨(some 12), .nilCheck (.t 7), none⟩,
  ⟨(some 13), .fieldAddr 0 (.t 12), none⟩,
  ⟨none, .store 1 (.t 13) (.t 11), none⟩]
def m37_r2 : List MI := [
  ⟨(some 14), .move (.t 0), none⟩,
  ⟨(some 15), .nilCheck (.t 14), none⟩,
  ⟨(some 16), .fieldAddr 0 (.t 15), none⟩,
  ⟨(some 17), .load none (.t 16), none⟩,
  ⟨(some 18), .move (.t 0), none⟩,
  ⟨(some 19), .bin .neq .ptr (.t 17) (.t 18), none⟩]
def m37_code : MCode := (.seq (.ops m37_r0) (.cond (.t 6) (.ops m37_r1) (.seq (.ops m37_r2) (.cond (.t 19) .bad .skip))))
def m37 : MFunc := ⟨20, [], m37_code⟩

def m38_r0 : List MI := [
  ⟨(some 4), .move (.k (.sc (.nils))), none⟩]
def m38_r1 : List MI := [
  ⟨(some 5), .move (.t 1), none⟩,
  ⟨(some 6), .conv (.int .u32) (.t 5), none⟩,
  ⟨(some 7), .bin .leq .no (.t 6) (.k (.sc (.int .u32 127))), none⟩]
def m38_r2 : List MI := [
  ⟨(some 8), .move (.t 0), none⟩,
  ⟨(some 9), .move (.t 1), none⟩,
  ⟨(some 10), .conv (.int .u8) (.t 9), none⟩,
  ⟨(some 11), .buildSlice 5 1 1 [.int .u8 0] [(0, 1, (.t 10))], none⟩,
  ⟨(some 12), .append 5 1 1 [.int .u8 0] (.t 8) (.t 11), none⟩,
  ⟨(some 4), .move (.t 12), none⟩]
def m38_r3 : List MI := [
  ⟨(some 13), .move (.t 0), none⟩,
  ⟨(some 14), .move (.t 1), none⟩,
  ⟨(some 15), .call 47 [(.t 13), (.t 14)], none⟩,
  ⟨(some 4), .move (.t 15), none⟩]
def m38_code : MCode := (.seq (.ops m38_r0) (.seq (.seq (.ops m38_r1) (.cond (.t 7) (.seq (.ops m38_r2) .ret) .skip)) (.seq (.ops m38_r3) .ret)))
def m38 : MFunc := ⟨16, [.tmp 4], m38_code⟩

def m39_r0 : List MI := [
  ⟨(some 4), .move (.k (.sc (.str []))), none⟩]
def m39_r2 : List MI := [
  ⟨(some 5), .move (.t 0), none⟩,
  ⟨(some 6), .lenStr (.t 5), none⟩,
  ⟨(some 7), .bin .gtr .no (.t 6) (.k (.sc (.int .i64 0))), none⟩,
  ⟨(some 8), .move (.t 7), none⟩,
  ⟨(some 9), .move (.t 0), (some (8, true))⟩,
  ⟨(some 10), .move (.t 0), (some (8, true))⟩,
  ⟨(some 11), .lenStr (.t 10), (some (8, true))⟩,
  ⟨(some 12), .bin .sub .no (.t 11) (.k (.sc (.int .i64 1))), (some (8, true))⟩,
  ⟨(some 13), .idxStr (.t 9) (.t 12), (some (8, true))⟩,
  ⟨(some 14), .move (.t 1), (some (8, true))⟩,
  ⟨(some 15), .bin .eql .no (.t 13) (.t 14), (some (8, true))⟩,
  ⟨(some 16), .pick (.t 8) (.t 15) (.k (.sc (.bool false))), none⟩]
def m39_r3 : List MI := [
  ⟨(some 17), .move (.t 0), none⟩,
  ⟨(some 18), .move (.t 0), none⟩,
  ⟨(some 19), .lenStr (.t 18), none⟩,
  ⟨(some 20), .bin .sub .no (.t 19) (.k (.sc (.int .i64 1))), none⟩,
  ⟨(some 21), .sliceStr (.t 17) none (some (.t 20)), none⟩,
  ⟨(some 0), .move (.t 21), none⟩]
def m39_l1 : MCode := (.seq (.seq (.ops m39_r2) (.cond (.t 16) .skip (.exit 0))) (.block 1 (.ops m39_r3)))
def m39_r4 : List MI := [
  ⟨(some 22), .move (.t 0), none⟩,
  ⟨(some 4), .move (.t 22), none⟩]
def m39_code : MCode := (.seq (.ops m39_r0) (.seq (.block 0 (.loop m39_l1)) (.seq (.ops m39_r4) .ret)))
def m39 : MFunc := ⟨23, [.tmp 4], m39_code⟩

def m40_r0 : List MI := [
  ⟨(some 2), .alloc 69 [.bool false, .bool false, .bool false, .bool false, .bool false, .bool false, .bool false, .bool false, .bool false, .bool false, .bool false, .bool false, .bool false, .bool false, .bool false, .bool false, .bool false, .bool false, .bool false, .bool false, .bool false, .bool false, .bool false, .bool false, .bool false, .bool false, .bool false, .bool false, .bool false, .bool false, .bool false, .bool false, .bool false, .bool false, .bool false, .bool false, .bool false, .bool false, .bool false, .bool false, .bool false, .bool false, .bool false, .bool false, .bool false, .bool false, .bool false, .bool false, .bool false, .bool false, .bool false, .bool false, .bool false, .bool false, .bool false, .bool false, .bool false, .bool false, .bool false, .bool false, .bool false, .bool false, .bool false, .bool false, .bool false, .bool false, .bool false, .bool false, .bool false, .bool false, .bool false, .bool false, .bool false, .bool false, .bool false, .bool false, .bool false, .bool false, .bool false, .bool false, .bool false, .bool false, .bool false, .bool false, .bool false, .bool false, .bool false, .bool false, .bool false, .bool false, .bool false, .bool false, .bool false, .bool false, .bool false, .bool false, .bool false, .bool false, .bool false, .bool false, .bool false, .bool false, .bool false, .bool false, .bool false, .bool false, .bool false, .bool false, .bool false, .bool false, .bool false, .bool false, .bool false, .bool false, .bool false, .bool false, .bool false, .bool false, .bool false, .bool false, .bool false, .bool false, .bool false, .bool false, .bool false, .bool false, .bool false, .bool false, .bool false, .bool false, .bool false, .bool false, .bool false, .bool false, .bool false, .bool false, .bool false, .bool false, .bool false, .bool false, .bool false, .bool false, .bool false, .bool false, .bool false, .bool false, .bool false, .bool false, .bool false, .bool false, .bool false, .bool false, .bool false, .bool false, .bool false, .bool false, .bool false, .bool false, .bool false, .bool false, .bool false, .bool false, .bool false, .bool false, .bool false, .bool false, .bool false, .bool false, .bool false, .bool false, .bool false, .bool false, .bool false, .bool false, .bool false, .bool false, .bool false, .bool false, .bool false, .bool false, .bool false, .bool false, .bool false, .bool false, .bool false, .bool false, .bool false, .bool false, .bool false, .bool false, .bool false, .bool false, .bool false, .bool false, .bool false, .bool false, .bool false, .bool false, .bool false, .bool false, .bool false, .bool false, .bool false, .bool false, .bool false, .bool false, .bool false, .bool false, .bool false, .bool false, .bool false, .bool false, .bool false, .bool false, .bool false, .bool false, .bool false, .bool false, .bool false, .bool false, .bool false, .bool false, .bool false, .bool false, .bool false, .bool false, .bool false, .bool false, .bool false, .bool false, .bool false, .bool false, .bool false, .bool false, .bool false, .bool false, .bool false, .bool false, .bool false, .bool false, .bool false, .bool false, .bool false, .bool false, .bool false, .bool false, .bool false, .bool false, .bool false, .bool false, .bool false, .bool false, .bool false, .bool false, .bool false, .bool false], none⟩,
  ⟨(some 3), .move (.k (.sc (.bool false))), none⟩]
def m40_r1 : List MI := [
  ⟨(some 4), .move (.k (.sc (.int .i64 0))), none⟩]
def m40_r3 : List MI := [
  ⟨(some 6), .move (.t 4), none⟩,
  ⟨(some 7), .move (.t 0), none⟩,
  ⟨(some 8), .lenStr (.t 7), none⟩,
  ⟨(some 9), .bin .lss .no (.t 6) (.t 8), none⟩]
def m40_r4 : List MI := [
  ⟨(some 12), .move (.t 0), none⟩,
  ⟨(some 13), .move (.t 4), none⟩,
  ⟨(some 14), .idxStr (.t 12) (.t 13), none⟩,
  ⟨(some 5), .move (.t 14), none⟩]
def m40_r5 : List MI := [
  ⟨(some 15), .move (.t 5), none⟩,
  ⟨(some 16), .bin .geq .no (.t 15) (.k (.sc (.int .u8 128))), none⟩]
def m40_r6 : List MI := [
  ⟨(some 17), .load (some 256) (.t 2), none⟩,
  ⟨none, .store 256 (.t 2) (.t 17), none⟩,
  ⟨(some 3), .move (.k (.sc (.bool false))), none⟩]
def m40_r7 : List MI := [
  ⟨(some 18), .move (.t 5), none⟩,
  ⟨(some 19), .indexArr 256 1 (.t 2) (.t 18), none⟩,
  ⟨none, .store 1 (.t 19) (.k (.sc (.bool true))), none⟩]
def m40_r8 : List MI := [
  ⟨(some 10), .move (.t 4), none⟩,
  ⟨(some 11), .bin .add .no (.t 10) (.k (.sc (.int .i64 1))), none⟩,
  ⟨(some 4), .move (.t 11), none⟩]
def m40_l2 : MCode := (.seq (.seq (.ops m40_r3) (.cond (.t 9) .skip (.exit 0))) (.seq (.block 1 (.seq (.ops m40_r4) (.seq (.seq (.ops m40_r5) (.cond (.t 16) (.seq (.ops m40_r6) .ret) .skip)) (.ops m40_r7)))) (.ops m40_r8)))
def m40_r9 : List MI := [
  ⟨(some 20), .load (some 256) (.t 2), none⟩,
  ⟨none, .store 256 (.t 2) (.t 20), none⟩,
  ⟨(some 3), .move (.k (.sc (.bool true))), none⟩]
def m40_code : MCode := (.seq (.ops m40_r0) (.seq (.seq (.ops m40_r1) (.block 0 (.loop m40_l2))) (.seq (.ops m40_r9) .ret)))
def m40 : MFunc := ⟨21, [.cell 2 (some 256), .tmp 3], m40_code⟩

def m41_r0 : List MI := [
  ⟨(some 4), .move (.k (.sc (.str []))), none⟩]
def m41_r2 : List MI := [
  ⟨(some 5), .move (.t 0), none⟩,
  ⟨(some 6), .lenStr (.t 5), none⟩,
  ⟨(some 7), .bin .gtr .no (.t 6) (.k (.sc (.int .i64 0))), none⟩]
def m41_r3 : List MI := [
  ⟨(some 8), .move (.t 1), none⟩,
  ⟨(some 9), .move (.t 0), none⟩,
  ⟨(some 10), .move (.t 0), none⟩,
  ⟨(some 11), .lenStr (.t 10), none⟩,
  ⟨(some 12), .bin .sub .no (.t 11) (.k (.sc (.int .i64 1))), none⟩,
  ⟨(some 13), .idxStr (.t 9) (.t 12), none⟩,
  ⟨(some 14), .call 48 [(.t 8), (.t 13)], none⟩,
  ⟨(some 15), .un .not (.t 14), none⟩]
def m41_r4 : List MI := [
  ⟨(some 16), .move (.t 0), none⟩,
  ⟨(some 17), .move (.t 0), none⟩,
  ⟨(some 18), .lenStr (.t 17), none⟩,
  ⟨(some 19), .bin .sub .no (.t 18) (.k (.sc (.int .i64 1))), none⟩,
  ⟨(some 20), .sliceStr (.t 16) none (some (.t 19)), none⟩,
  ⟨(some 0), .move (.t 20), none⟩]
def m41_l1 : MCode := (.seq (.seq (.ops m41_r2) (.cond (.t 7) .skip (.exit 0))) (.block 1 (.seq (.seq (.ops m41_r3) (.cond (.t 15) (.exit 0) .skip)) (.ops m41_r4))))
def m41_r5 : List MI := [
  ⟨(some 21), .move (.t 0), none⟩,
  ⟨(some 4), .move (.t 21), none⟩]
def m41_code : MCode := (.seq (.ops m41_r0) (.seq (.block 0 (.loop m41_l1)) (.seq (.ops m41_r5) .ret)))
def m41 : MFunc := ⟨22, [.tmp 4], m41_code⟩

def m42_r0 : List MI := [
  ⟨(some 4), .move (.k (.sc (.str []))), none⟩]
def m42_r2 : List MI := [
  ⟨(some 7), .move (.t 0), none⟩,
  ⟨(some 8), .lenStr (.t 7), none⟩,
  ⟨(some 9), .bin .gtr .no (.t 8) (.k (.sc (.int .i64 0))), none⟩]
def m42_r3 : List MI := [
  ⟨(some 10), .move (.t 0), none⟩,
  ⟨(some 11), .move (.t 0), none⟩,
  ⟨(some 12), .lenStr (.t 11), none⟩,
  ⟨(some 13), .bin .sub .no (.t 12) (.k (.sc (.int .i64 1))), none⟩,
  ⟨(some 14), .idxStr (.t 10) (.t 13), none⟩,
  ⟨(some 15), .conv (.int .i32) (.t 14), none⟩,
  ⟨(some 5), .move (.t 15), none⟩,
  ⟨(some 6), .move (.k (.sc (.int .i64 1))), none⟩]
def m42_r4 : List MI := [
  ⟨(some 16), .move (.t 5), none⟩,
  ⟨(some 17), .bin .geq .no (.t 16) (.k (.sc (.int .i32 128))), none⟩]
def m42_r5 : List MI := [
  ⟨(some 19), .move (.t 0), none⟩,
  ⟨(some 20), .call 49 [(.t 19)], none⟩,
  ⟨(some 18), .move (.t 20), none⟩,
  ⟨(some 21), .extract (.t 18) 0, none⟩,
  ⟨(some 22), .extract (.t 18) 1, none⟩,
  ⟨(some 5), .move (.t 21), none⟩,
  ⟨(some 6), .move (.t 22), none⟩]
def m42_r6 : List MI := [
  ⟨(some 23), .move (.t 1), none⟩,
  ⟨(some 24), .move (.t 5), none⟩,
  ⟨(some 25), .call 50 [(.t 23), (.t 24)], none⟩,
  ⟨(some 26), .un .not (.t 25), none⟩]
def m42_r7 : List MI := [
  ⟨(some 27), .move (.t 0), none⟩,
  ⟨(some 28), .move (.t 0), none⟩,
  ⟨(some 29), .lenStr (.t 28), none⟩,
  ⟨(some 30), .move (.t 6), none⟩,
  ⟨(some 31), .bin .sub .no (.t 29) (.t 30), none⟩,
  ⟨(some 32), .sliceStr (.t 27) none (some (.t 31)), none⟩,
  ⟨(some 0), .move (.t 32), none⟩]
def m42_l1 : MCode := (.seq (.seq (.ops m42_r2) (.cond (.t 9) .skip (.exit 0))) (.block 1 (.seq (.ops m42_r3) (.seq (.seq (.ops m42_r4) (.cond (.t 17) (.ops m42_r5) .skip)) (.seq (.seq (.ops m42_r6) (.cond (.t 26) (.exit 0) .skip)) (.ops m42_r7))))))
def m42_r8 : List MI := [
  ⟨(some 33), .move (.t 0), none⟩,
  ⟨(some 4), .move (.t 33), none⟩]
def m42_code : MCode := (.seq (.ops m42_r0) (.seq (.block 0 (.loop m42_l1)) (.seq (.ops m42_r8) .ret)))
def m42 : MFunc := ⟨34, [.tmp 4], m42_code⟩

def m43_r0 : List MI := [
  ⟨(some 4), .move (.k (.sc (.nils))), none⟩]
def m43_r1 : List MI := [
  ⟨(some 6), .buildSlice 37 7 0 [.int .i32 0, .int .u8 0, .int .u16 0, .int .u8 0, .int .u32 0, .int .u8 0, .int .u32 0] [], none⟩,
  ⟨(some 7), .move (.t 0), none⟩,
  ⟨(some 8), .append 37 7 28 [.int .i32 0, .int .u8 0, .int .u16 0, .int .u8 0, .int .u32 0, .int .u8 0, .int .u32 0] (.t 6) (.t 7), none⟩,
  ⟨(some 5), .move (.t 8), none⟩]
def m43_r2 : List MI := [
  ⟨(some 9), .move (.t 1), none⟩,
  ⟨(some 10), .bin .geq .no (.t 9) (.k (.sc (.int .i64 1))), none⟩,
  ⟨(some 11), .move (.t 10), none⟩,
  ⟨(some 12), .move (.t 1), (some (11, true))⟩,
  ⟨(some 13), .move (.t 0), (some (11, true))⟩,
  ⟨(some 14), .lenSlice (.t 13), (some (11, true))⟩,
  ⟨(some 15), .bin .lss .no (.t 12) (.t 14), (some (11, true))⟩,
  ⟨(some 16), .pick (.t 11) (.t 15) (.k (.sc (.bool false))), none⟩,
  ⟨(some 17), .move (.t 16), none⟩,
  ⟨(some 18), .move (.t 0), (some (17, true))⟩,
  ⟨(some 19), .move (.t 1), (some (17, true))⟩,
  ⟨(some 20), .indexSlice 7 (.t 18) (.t 19), (some (17, true))⟩,
  ⟨(some 21), .fieldAddr 1 (.t 20), (some (17, true))⟩,
  ⟨(some 22), .load none (.t 21), (some (17, true))⟩,
  ⟨(some 23), .bin .eql .no (.t 22) (.k (.sc (.int .u8 2))), (some (17, true))⟩,
  ⟨(some 24), .pick (.t 17) (.t 23) (.k (.sc (.bool false))), none⟩]
def m43_r3 : List MI := [
  ⟨(some 25), .move (.t 5), none⟩,
  ⟨(some 26), .move (.t 1), none⟩,
  ⟨(some 27), .bin .sub .no (.t 26) (.k (.sc (.int .i64 1))), none⟩,
  ⟨(some 28), .move (.t 0), none⟩,
  ⟨(some 29), .move (.t 1), none⟩,
  ⟨(some 30), .bin .sub .no (.t 29) (.k (.sc (.int .i64 1))), none⟩,
  ⟨(some 31), .indexSlice 7 (.t 28) (.t 30), none⟩,
  ⟨(some 32), .fieldAddr 2 (.t 31), none⟩,
  ⟨(some 33), .load (some 5) (.t 32), none⟩,
  ⟨(some 34), .build [.int .i32 0, .int .u8 0, .int .u16 0, .int .u8 0, .int .u32 0, .int .u8 0, .int .u32 0] [(0, 1, (.k (.sc (.int .i32 32)))), (2, 5, (.t 33))], none⟩,
  ⟨(some 35), .indexSlice 7 (.t 25) (.t 27), none⟩,
  ⟨none, .store 7 (.t 35) (.t 34), none⟩]
def m43_r4 : List MI := [
  ⟨(some 36), .move (.t 5), none⟩,
  ⟨(some 37), .move (.t 1), none⟩,
  ⟨(some 38), .move (.t 0), none⟩,
  ⟨(some 39), .move (.t 1), none⟩,
  ⟨(some 40), .indexSlice 7 (.t 38) (.t 39), none⟩,
  ⟨(some 41), .fieldAddr 2 (.t 40), none⟩,
  ⟨(some 42), .load (some 5) (.t 41), none⟩,
  ⟨(some 43), .build [.int .i32 0, .int .u8 0, .int .u16 0, .int .u8 0, .int .u32 0, .int .u8 0, .int .u32 0] [(0, 1, (.k (.sc (.int .i32 32)))), (2, 5, (.t 42))], none⟩,
  ⟨(some 44), .indexSlice 7 (.t 36) (.t 37), none⟩,
  ⟨none, .store 7 (.t 44) (.t 43), none⟩]
def m43_r5 : List MI := [
  ⟨(some 45), .move (.t 5), none⟩,
  ⟨(some 4), .move (.t 45), none⟩]
def m43_code : MCode := (.seq (.ops m43_r0) (.seq (.ops m43_r1) (.seq (.seq (.ops m43_r2) (.cond (.t 24) (.seq (.ops m43_r3) (.ops m43_r4)) .skip)) (.seq (.ops m43_r5) .ret))))
def m43 : MFunc := ⟨46, [.tmp 4], m43_code⟩

def m44_r0 : List MI := [
  ⟨(some 6), .move (.k (.sc (.nils))), none⟩]
def m44_r1 : List MI := [
  ⟨(some 8), .buildSlice 37 7 0 [.int .i32 0, .int .u8 0, .int .u16 0, .int .u8 0, .int .u32 0, .int .u8 0, .int .u32 0] [], none⟩,
  ⟨(some 9), .move (.t 0), none⟩,
  ⟨(some 10), .append 37 7 28 [.int .i32 0, .int .u8 0, .int .u16 0, .int .u8 0, .int .u32 0, .int .u8 0, .int .u32 0] (.t 8) (.t 9), none⟩,
  ⟨(some 7), .move (.t 10), none⟩]
def m44_r2 : List MI := [
  ⟨(some 11), .move (.t 7), none⟩,
  ⟨(some 12), .move (.t 1), none⟩,
  ⟨(some 13), .append 37 7 28 [.int .i32 0, .int .u8 0, .int .u16 0, .int .u8 0, .int .u32 0, .int .u8 0, .int .u32 0] (.t 11) (.t 12), none⟩,
  ⟨(some 7), .move (.t 13), none⟩]
def m44_r3 : List MI := [
  ⟨(some 14), .move (.t 7), none⟩,
  ⟨(some 15), .move (.t 2), none⟩,
  ⟨(some 16), .append 37 7 28 [.int .i32 0, .int .u8 0, .int .u16 0, .int .u8 0, .int .u32 0, .int .u8 0, .int .u32 0] (.t 14) (.t 15), none⟩,
  ⟨(some 6), .move (.t 16), none⟩]
def m44_code : MCode := (.seq (.ops m44_r0) (.seq (.ops m44_r1) (.seq (.ops m44_r2) (.seq (.ops m44_r3) .ret))))
def m44 : MFunc := ⟨17, [.tmp 6], m44_code⟩

def m45_r0 : List MI := [
  ⟨(some 6), .move (.k (.sc (.int .i64 0))), none⟩]
def m45_r1 : List MI := [
  ⟨(some 7), .move (.t 1), none⟩,
  ⟨(some 8), .bin .lss .no (.t 7) (.k (.sc (.int .i64 0))), none⟩,
  ⟨(some 9), .move (.t 8), none⟩,
  ⟨(some 10), .move (.t 1), (some (9, false))⟩,
  ⟨(some 11), .move (.t 0), (some (9, false))⟩,
  ⟨(some 12), .lenSlice (.t 11), (some (9, false))⟩,
  ⟨(some 13), .bin .geq .no (.t 10) (.t 12), (some (9, false))⟩,
  ⟨(some 14), .pick (.t 9) (.k (.sc (.bool true))) (.t 13), none⟩,
  ⟨(some 15), .move (.t 14), none⟩,
  ⟨(some 16), .move (.t 2), (some (15, false))⟩,
  ⟨(some 17), .bin .lss .no (.t 16) (.k (.sc (.int .i64 1))), (some (15, false))⟩,
  ⟨(some 18), .pick (.t 15) (.k (.sc (.bool true))) (.t 17), none⟩]
def m45_r2 : List MI := [
  ⟨(some 6), .move (.k (.sc (.int .i64 0))), none⟩]
def m45_r3 : List MI := [
  ⟨(some 19), .move (.t 2), none⟩,
  ⟨(some 20), .move (.t 0), none⟩,
  ⟨(some 21), .lenSlice (.t 20), none⟩,
  ⟨(some 22), .move (.t 1), none⟩,
  ⟨(some 23), .bin .sub .no (.t 21) (.t 22), none⟩,
  ⟨(some 24), .bin .gtr .no (.t 19) (.t 23), none⟩]
def m45_r4 : List MI := [
  ⟨(some 25), .move (.t 0), none⟩,
  ⟨(some 26), .lenSlice (.t 25), none⟩,
  ⟨(some 27), .move (.t 1), none⟩,
  ⟨(some 28), .bin .sub .no (.t 26) (.t 27), none⟩,
  ⟨(some 6), .move (.t 28), none⟩]
def m45_r5 : List MI := [
  ⟨(some 29), .move (.t 2), none⟩,
  ⟨(some 6), .move (.t 29), none⟩]
def m45_code : MCode := (.seq (.ops m45_r0) (.seq (.seq (.ops m45_r1) (.cond (.t 18) (.seq (.ops m45_r2) .ret) .skip)) (.seq (.seq (.ops m45_r3) (.cond (.t 24) (.seq (.ops m45_r4) .ret) .skip)) (.seq (.ops m45_r5) .ret))))
def m45 : MFunc := ⟨30, [.tmp 6], m45_code⟩

def m47_r0 : List MI := [
  ⟨(some 4), .move (.k (.sc (.nils))), none⟩]
def m47_r1 : List MI := [
  ⟨(some 6), .move (.t 1), none⟩,
  ⟨(some 7), .conv (.int .u32) (.t 6), none⟩,
  ⟨(some 5), .move (.t 7), none⟩]
def m47_r2 : List MI := [
  ⟨(some 12), .move (.t 5), none⟩,
  ⟨(some 13), .bin .leq .no (.t 12) (.k (.sc (.int .u32 2047))), none⟩,
  ⟨(some 11), .move (.t 13), none⟩]
def m47_r3 : List MI := [
  ⟨(some 14), .move (.t 0), none⟩,
  ⟨(some 15), .move (.t 1), none⟩,
  ⟨(some 16), .bin .shr .no (.t 15) (.k (.sc (.int .u64 6))), none⟩,
  ⟨(some 17), .conv (.int .u8) (.t 16), none⟩,
  ⟨(some 18), .bin .or .no (.k (.sc (.int .u8 192))) (.t 17), none⟩,
  ⟨(some 19), .move (.t 1), none⟩,
  ⟨(some 20), .conv (.int .u8) (.t 19), none⟩,
  ⟨(some 21), .bin .and .no (.t 20) (.k (.sc (.int .u8 63))), none⟩,
  ⟨(some 22), .bin .or .no (.k (.sc (.int .u8 128))) (.t 21), none⟩,
  ⟨(some 23), .buildSlice 5 1 2 [.int .u8 0] [(0, 1, (.t 18)), (1, 1, (.t 22))], none⟩,
  ⟨(some 24), .append 5 1 1 [.int .u8 0] (.t 14) (.t 23), none⟩,
  ⟨(some 4), .move (.t 24), none⟩]
def m47_r4 : List MI := [
  ⟨(some 26), .move (.t 5), none⟩,
  ⟨(some 27), .bin .lss .no (.t 26) (.k (.sc (.int .u32 55296))), none⟩,
  ⟨(some 25), .move (.t 27), none⟩]
def m47_r5 : List MI := [
  ⟨(some 28), .move (.t 5), none⟩,
  ⟨(some 29), .bin .lss .no (.k (.sc (.int .u32 57343))) (.t 28), none⟩,
  ⟨(some 30), .move (.t 29), none⟩,
  ⟨(some 31), .move (.t 5), (some (30, true))⟩,
  ⟨(some 32), .bin .leq .no (.t 31) (.k (.sc (.int .u32 65535))), (some (30, true))⟩,
  ⟨(some 33), .pick (.t 30) (.t 32) (.k (.sc (.bool false))), none⟩,
  ⟨(some 25), .move (.t 33), none⟩]
def m47_r6 : List MI := [
  ⟨(some 34), .move (.t 0), none⟩,
  ⟨(some 35), .move (.t 1), none⟩,
  ⟨(some 36), .bin .shr .no (.t 35) (.k (.sc (.int .u64 12))), none⟩,
  ⟨(some 37), .conv (.int .u8) (.t 36), none⟩,
  ⟨(some 38), .bin .or .no (.k (.sc (.int .u8 224))) (.t 37), none⟩,
  ⟨(some 39), .move (.t 1), none⟩,
  ⟨(some 40), .bin .shr .no (.t 39) (.k (.sc (.int .u64 6))), none⟩,
  ⟨(some 41), .conv (.int .u8) (.t 40), none⟩,
  ⟨(some 42), .bin .and .no (.t 41) (.k (.sc (.int .u8 63))), none⟩,
  ⟨(some 43), .bin .or .no (.k (.sc (.int .u8 128))) (.t 42), none⟩,
  ⟨(some 44), .move (.t 1), none⟩,
  ⟨(some 45), .conv (.int .u8) (.t 44), none⟩,
  ⟨(some 46), .bin .and .no (.t 45) (.k (.sc (.int .u8 63))), none⟩,
  ⟨(some 47), .bin .or .no (.k (.sc (.int .u8 128))) (.t 46), none⟩,
  ⟨(some 48), .buildSlice 5 1 3 [.int .u8 0] [(0, 1, (.t 38)), (1, 1, (.t 43)), (2, 1, (.t 47))], none⟩,
  ⟨(some 49), .append 5 1 1 [.int .u8 0] (.t 34) (.t 48), none⟩,
  ⟨(some 4), .move (.t 49), none⟩]
def m47_r7 : List MI := [
  ⟨(some 51), .move (.t 5), none⟩,
  ⟨(some 52), .bin .gtr .no (.t 51) (.k (.sc (.int .u32 65535))), none⟩,
  ⟨(some 53), .move (.t 52), none⟩,
  ⟨(some 54), .move (.t 5), (some (53, true))⟩,
  ⟨(some 55), .bin .leq .no (.t 54) (.k (.sc (.int .u32 1114111))), (some (53, true))⟩,
  ⟨(some 56), .pick (.t 53) (.t 55) (.k (.sc (.bool false))), none⟩,
  ⟨(some 50), .move (.t 56), none⟩]
def m47_r8 : List MI := [
  ⟨(some 57), .move (.t 0), none⟩,
  ⟨(some 58), .move (.t 1), none⟩,
  ⟨(some 59), .bin .shr .no (.t 58) (.k (.sc (.int .u64 18))), none⟩,
  ⟨(some 60), .conv (.int .u8) (.t 59), none⟩,
  ⟨(some 61), .bin .or .no (.k (.sc (.int .u8 240))) (.t 60), none⟩,
  ⟨(some 62), .move (.t 1), none⟩,
  ⟨(some 63), .bin .shr .no (.t 62) (.k (.sc (.int .u64 12))), none⟩,
  ⟨(some 64), .conv (.int .u8) (.t 63), none⟩,
  ⟨(some 65), .bin .and .no (.t 64) (.k (.sc (.int .u8 63))), none⟩,
  ⟨(some 66), .bin .or .no (.k (.sc (.int .u8 128))) (.t 65), none⟩,
  ⟨(some 67), .move (.t 1), none⟩,
  ⟨(some 68), .bin .shr .no (.t 67) (.k (.sc (.int .u64 6))), none⟩,
  ⟨(some 69), .conv (.int .u8) (.t 68), none⟩,
  ⟨(some 70), .bin .and .no (.t 69) (.k (.sc (.int .u8 63))), none⟩,
  ⟨(some 71), .bin .or .no (.k (.sc (.int .u8 128))) (.t 70), none⟩,
  ⟨(some 72), .move (.t 1), none⟩,
  ⟨(some 73), .conv (.int .u8) (.t 72), none⟩,
  ⟨(some 74), .bin .and .no (.t 73) (.k (.sc (.int .u8 63))), none⟩,
  ⟨(some 75), .bin .or .no (.k (.sc (.int .u8 128))) (.t 74), none⟩,
  ⟨(some 76), .buildSlice 5 1 4 [.int .u8 0] [(0, 1, (.t 61)), (1, 1, (.t 66)), (2, 1, (.t 71)), (3, 1, (.t 75))], none⟩,
  ⟨(some 77), .append 5 1 1 [.int .u8 0] (.t 57) (.t 76), none⟩,
  ⟨(some 4), .move (.t 77), none⟩]
def m47_r9 : List MI := [
  ⟨(some 8), .move (.t 0), none⟩,
  ⟨(some 9), .buildSlice 5 1 3 [.int .u8 0] [(0, 1, (.k (.sc (.int .u8 239)))), (1, 1, (.k (.sc (.int .u8 191)))), (2, 1, (.k (.sc (.int .u8 189))))], none⟩,
  ⟨(some 10), .append 5 1 1 [.int .u8 0] (.t 8) (.t 9), none⟩,
  ⟨(some 4), .move (.t 10), none⟩]
def m47_code : MCode := (.seq (.ops m47_r0) (.seq (.ops m47_r1) (.block 0 (.seq (.ops m47_r2) (.cond (.t 11) (.seq (.ops m47_r3) .ret) (.seq (.seq (.ops m47_r4) (.cond (.t 25) .skip (.ops m47_r5))) (.cond (.t 25) (.seq (.ops m47_r6) .ret) (.seq (.ops m47_r7) (.cond (.t 50) (.seq (.ops m47_r8) .ret) (.seq (.ops m47_r9) .ret))))))))))
def m47 : MFunc := ⟨78, [.tmp 4], m47_code⟩

def m48_r0 : List MI := [
  ⟨(some 4), .move (.k (.sc (.bool false))), none⟩]
def m48_r1 : List MI := [
  ⟨(some 5), .move (.t 0), none⟩,
  ⟨(some 6), .move (.t 1), none⟩,
  ⟨(some 7), .nilCheck (.t 5), none⟩,
  ⟨(some 8), .indexArr 256 1 (.t 7) (.t 6), none⟩,
  ⟨(some 9), .load none (.t 8), none⟩,
  ⟨(some 4), .move (.t 9), none⟩]
def m48_code : MCode := (.seq (.ops m48_r0) (.seq (.ops m48_r1) .ret))
def m48 : MFunc := ⟨10, [.tmp 4], m48_code⟩

def m49_r0 : List MI := [
  ⟨(some 2), .move (.k (.sc (.int .i32 0))), none⟩,
  ⟨(some 3), .move (.k (.sc (.int .i64 0))), none⟩]
def m49_r1 : List MI := [
  ⟨(some 7), .move (.t 0), none⟩,
  ⟨(some 8), .lenStr (.t 7), none⟩,
  ⟨(some 4), .move (.t 8), none⟩]
def m49_r2 : List MI := [
  ⟨(some 9), .move (.t 4), none⟩,
  ⟨(some 10), .bin .eql .no (.t 9) (.k (.sc (.int .i64 0))), none⟩]
def m49_r3 : List MI := [
  ⟨(some 2), .move (.k (.sc (.int .i32 65533))), none⟩,
  ⟨(some 3), .move (.k (.sc (.int .i64 0))), none⟩]
def m49_r4 : List MI := [
  ⟨(some 11), .move (.t 4), none⟩,
  ⟨(some 12), .bin .sub .no (.t 11) (.k (.sc (.int .i64 1))), none⟩,
  ⟨(some 5), .move (.t 12), none⟩]
def m49_r5 : List MI := [
  ⟨(some 13), .move (.t 0), none⟩,
  ⟨(some 14), .move (.t 5), none⟩,
  ⟨(some 15), .idxStr (.t 13) (.t 14), none⟩,
  ⟨(some 16), .conv (.int .i32) (.t 15), none⟩,
  ⟨(some 2), .move (.t 16), none⟩]
def m49_r6 : List MI := [
  ⟨(some 17), .move (.t 2), none⟩,
  ⟨(some 18), .bin .lss .no (.t 17) (.k (.sc (.int .i32 128))), none⟩]
def m49_r7 : List MI := [
  ⟨(some 19), .move (.t 2), none⟩,
  ⟨(some 2), .move (.t 19), none⟩,
  ⟨(some 3), .move (.k (.sc (.int .i64 1))), none⟩]
def m49_r8 : List MI := [
  ⟨(some 20), .move (.t 4), none⟩,
  ⟨(some 21), .bin .sub .no (.t 20) (.k (.sc (.int .i64 4))), none⟩,
  ⟨(some 22), .max [(.t 21), (.k (.sc (.int .i64 0)))], none⟩,
  ⟨(some 6), .move (.t 22), none⟩]
def m49_r9 : List MI := [
  ⟨(some 23), .move (.t 5), none⟩,
  ⟨(some 24), .bin .sub .no (.t 23) (.k (.sc (.int .i64 1))), none⟩,
  ⟨(some 5), .move (.t 24), none⟩]
def m49_r11 : List MI := [
  ⟨(some 25), .move (.t 5), none⟩,
  ⟨(some 26), .move (.t 6), none⟩,
  ⟨(some 27), .bin .geq .no (.t 25) (.t 26), none⟩]
def m49_r12 : List MI := [
  ⟨(some 30), .move (.t 0), none⟩,
  ⟨(some 31), .move (.t 5), none⟩,
  ⟨(some 32), .idxStr (.t 30) (.t 31), none⟩,
  ⟨(some 33), .call 51 [(.t 32)], none⟩]
def m49_r13 : List MI := [
  ⟨(some 28), .move (.t 5), none⟩,
  ⟨(some 29), .bin .sub .no (.t 28) (.k (.sc (.int .i64 1))), none⟩,
  ⟨(some 5), .move (.t 29), none⟩]
def m49_l10 : MCode := (.seq (.seq (.ops m49_r11) (.cond (.t 27) .skip (.exit 0))) (.seq (.block 1 (.seq (.ops m49_r12) (.cond (.t 33) (.exit 0) .skip))) (.ops m49_r13)))
def m49_r14 : List MI := [
  ⟨(some 34), .move (.t 5), none⟩,
  ⟨(some 35), .bin .lss .no (.t 34) (.k (.sc (.int .i64 0))), none⟩]
def m49_r15 : List MI := [
  ⟨(some 5), .move (.k (.sc (.int .i64 0))), none⟩]
def m49_r16 : List MI := [
  ⟨(some 37), .move (.t 0), none⟩,
  ⟨(some 38), .move (.t 5), none⟩,
  ⟨(some 39), .move (.t 4), none⟩,
  ⟨(some 40), .sliceStr (.t 37) (some (.t 38)) (some (.t 39)), none⟩,
  ⟨(some 41), .call 52 [(.t 40)], none⟩,
  ⟨(some 36), .move (.t 41), none⟩,
  ⟨(some 42), .extract (.t 36) 0, none⟩,
  ⟨(some 43), .extract (.t 36) 1, none⟩,
  ⟨(some 2), .move (.t 42), none⟩,
  ⟨(some 3), .move (.t 43), none⟩]
def m49_r17 : List MI := [
  ⟨(some 44), .move (.t 5), none⟩,
  ⟨(some 45), .move (.t 3), none⟩,
  ⟨(some 46), .bin .add .no (.t 44) (.t 45), none⟩,
  ⟨(some 47), .move (.t 4), none⟩,
  ⟨(some 48), .bin .neq .no (.t 46) (.t 47), none⟩]
def m49_r18 : List MI := [
  ⟨(some 2), .move (.k (.sc (.int .i32 65533))), none⟩,
  ⟨(some 3), .move (.k (.sc (.int .i64 1))), none⟩]
def m49_r19 : List MI := [
  ⟨(some 49), .move (.t 2), none⟩,
  ⟨(some 50), .move (.t 3), none⟩,
  ⟨(some 2), .move (.t 49), none⟩,
  ⟨(some 3), .move (.t 50), none⟩]
def m49_code : MCode := (.seq (.ops m49_r0) (.seq (.ops m49_r1) (.seq (.seq (.ops m49_r2) (.cond (.t 10) (.seq (.ops m49_r3) .ret) .skip)) (.seq (.ops m49_r4) (.seq (.ops m49_r5) (.seq (.seq (.ops m49_r6) (.cond (.t 18) (.seq (.ops m49_r7) .ret) .skip)) (.seq (.ops m49_r8) (.seq (.seq (.ops m49_r9) (.block 0 (.loop m49_l10))) (.seq (.seq (.ops m49_r14) (.cond (.t 35) (.ops m49_r15) .skip)) (.seq (.ops m49_r16) (.seq (.seq (.ops m49_r17) (.cond (.t 48) (.seq (.ops m49_r18) .ret) .skip)) (.seq (.ops m49_r19) .ret))))))))))))
def m49 : MFunc := ⟨51, [.tmp 2, .tmp 3], m49_code⟩

def m50_r0 : List MI := [
  ⟨(some 4), .move (.k (.sc (.bool false))), none⟩]
def m50_r1 : List MI := [
  ⟨(some 5), .move (.t 0), none⟩,
  ⟨(some 6), .move (.t 1), none⟩,
  ⟨(some 7), .call 53 [(.t 5), (.t 6)], none⟩,
  ⟨(some 8), .bin .geq .no (.t 7) (.k (.sc (.int .i64 0))), none⟩,
  ⟨(some 4), .move (.t 8), none⟩]
def m50_code : MCode := (.seq (.ops m50_r0) (.seq (.ops m50_r1) .ret))
def m50 : MFunc := ⟨9, [.tmp 4], m50_code⟩

def m51_r0 : List MI := [
  ⟨(some 2), .move (.k (.sc (.bool false))), none⟩]
def m51_r1 : List MI := [
  ⟨(some 3), .move (.t 0), none⟩,
  ⟨(some 4), .bin .and .no (.t 3) (.k (.sc (.int .u8 192))), none⟩,
  ⟨(some 5), .bin .neq .no (.t 4) (.k (.sc (.int .u8 128))), none⟩,
  ⟨(some 2), .move (.t 5), none⟩]
def m51_code : MCode := (.seq (.ops m51_r0) (.seq (.ops m51_r1) .ret))
def m51 : MFunc := ⟨6, [.tmp 2], m51_code⟩

def m52_r0 : List MI := [
  ⟨(some 2), .move (.k (.sc (.int .i32 0))), none⟩,
  ⟨(some 3), .move (.k (.sc (.int .i64 0))), none⟩]
def m52_r1 : List MI := [
  ⟨(some 4), .move (.t 0), none⟩,
  ⟨(some 5), .bin .neq .no (.t 4) (.k (.sc (.str []))), none⟩,
  ⟨(some 6), .move (.t 5), none⟩,
  ⟨(some 7), .move (.t 0), (some (6, true))⟩,
  ⟨(some 8), .idxStr (.t 7) (.k (.sc (.int .i64 0))), (some (6, true))⟩,
  ⟨(some 9), .bin .lss .no (.t 8) (.k (.sc (.int .u8 128))), (some (6, true))⟩,
  ⟨(some 10), .pick (.t 6) (.t 9) (.k (.sc (.bool false))), none⟩]
def m52_r2 : List MI := [
  ⟨(some 11), .move (.t 0), none⟩,
  ⟨(some 12), .idxStr (.t 11) (.k (.sc (.int .i64 0))), none⟩,
  ⟨(some 13), .conv (.int .i32) (.t 12), none⟩,
  ⟨(some 2), .move (.t 13), none⟩,
  ⟨(some 3), .move (.k (.sc (.int .i64 1))), none⟩]
def m52_r3 : List MI := [
  ⟨(some 15), .move (.t 0), none⟩,
  ⟨(some 16), .call 54 [(.t 15)], none⟩,
  ⟨(some 14), .move (.t 16), none⟩,
  ⟨(some 17), .extract (.t 14) 0, none⟩,
  ⟨(some 18), .extract (.t 14) 1, none⟩,
  ⟨(some 2), .move (.t 17), none⟩,
  ⟨(some 3), .move (.t 18), none⟩]
def m52_code : MCode := (.seq (.ops m52_r0) (.seq (.seq (.ops m52_r1) (.cond (.t 10) (.seq (.ops m52_r2) .ret) (.ops m52_r3))) .ret))
def m52 : MFunc := ⟨19, [.tmp 2, .tmp 3], m52_code⟩

def m53_r0 : List MI := [
  ⟨(some 4), .move (.k (.sc (.int .i64 0))), none⟩]
def m53_r1 : List MI := [
  ⟨(some 161), .move (.t 1), none⟩,
  ⟨(some 162), .bin .leq .no (.k (.sc (.int .i32 0))) (.t 161), none⟩,
  ⟨(some 163), .move (.t 162), none⟩,
  ⟨(some 164), .move (.t 1), (some (163, true))⟩,
  ⟨(some 165), .bin .lss .no (.t 164) (.k (.sc (.int .i32 128))), (some (163, true))⟩,
  ⟨(some 166), .pick (.t 163) (.t 165) (.k (.sc (.bool false))), none⟩,
  ⟨(some 160), .move (.t 166), none⟩]
def m53_r2 : List MI := [
  ⟨(some 167), .move (.t 0), none⟩,
  ⟨(some 168), .move (.t 1), none⟩,
  ⟨(some 169), .conv (.int .u8) (.t 168), none⟩,
  ⟨(some 170), .call 55 [(.t 167), (.t 169)], none⟩,
  ⟨(some 4), .move (.t 170), none⟩]
def m53_r3 : List MI := [
  ⟨(some 172), .move (.t 1), none⟩,
  ⟨(some 173), .bin .eql .no (.t 172) (.k (.sc (.int .i32 65533))), none⟩,
  ⟨(some 171), .move (.t 173), none⟩]
def m53_r4 : List MI := [
  ⟨(some 174), .move (.t 0), none⟩,
  ⟨(some 175), .range (.t 174), none⟩]
def m53_r6 : List MI := [
  ⟨(some 176), .next (.t 175), none⟩,
  ⟨(some 177), .extract (.t 176) 0, none⟩]
def m53_r7 : List MI := [
  ⟨(some 178), .extract (.t 176) 1, none⟩,
  ⟨(some 179), .extract (.t 176) 2, none⟩,
  ⟨(some 5), .move (.t 178), none⟩,
  ⟨(some 6), .move (.t 179), none⟩]
def m53_r8 : List MI := [
  ⟨(some 180), .move (.t 6), none⟩,
  ⟨(some 181), .bin .eql .no (.t 180) (.k (.sc (.int .i32 65533))), none⟩]
def m53_r9 : List MI := [
  ⟨(some 182), .move (.t 5), none⟩,
  ⟨(some 4), .move (.t 182), none⟩]
def m53_l5 : MCode := (.seq (.ops m53_r6) (.seq (.cond (.t 177) .skip (.exit 9)) (.block 10 (.seq (.ops m53_r7) (.seq (.ops m53_r8) (.cond (.t 181) (.seq (.ops m53_r9) .ret) .skip))))))
def m53_r10 : List MI := [
  ⟨(some 4), .move (.k (.sc (.int .i64 (-1)))), none⟩]
def m53_r11 : List MI := [
  ⟨(some 184), .move (.t 1), none⟩,
  ⟨(some 185), .call 56 [(.t 184)], none⟩,
  ⟨(some 186), .un .not (.t 185), none⟩,
  ⟨(some 183), .move (.t 186), none⟩]
def m53_r12 : List MI := [
  ⟨(some 4), .move (.k (.sc (.int .i64 (-1)))), none⟩]
def m53_code : MCode := (.seq (.ops m53_r0) (.block 0 (.seq (.ops m53_r1) (.cond (.t 160) (.seq (.ops m53_r2) .ret) (.seq (.ops m53_r3) (.cond (.t 171) (.seq (.seq (.ops m53_r4) (.block 9 (.loop m53_l5))) (.seq (.ops m53_r10) .ret)) (.seq (.ops m53_r11) (.cond (.t 183) (.seq (.ops m53_r12) .ret) .bad))))))))
def m53 : MFunc := ⟨187, [.tmp 4], m53_code⟩

def m54_r0 : List MI := [
  ⟨(some 2), .move (.k (.sc (.int .i32 0))), none⟩,
  ⟨(some 3), .move (.k (.sc (.int .i64 0))), none⟩]
def m54_r1 : List MI := [
  ⟨(some 13), .move (.t 0), none⟩,
  ⟨(some 14), .lenStr (.t 13), none⟩,
  ⟨(some 4), .move (.t 14), none⟩]
def m54_r2 : List MI := [
  ⟨(some 15), .move (.t 4), none⟩,
  ⟨(some 16), .bin .lss .no (.t 15) (.k (.sc (.int .i64 1))), none⟩]
def m54_r3 : List MI := [
  ⟨(some 2), .move (.k (.sc (.int .i32 65533))), none⟩,
  ⟨(some 3), .move (.k (.sc (.int .i64 0))), none⟩]
def m54_r4 : List MI := [
  ⟨(some 17), .move (.t 0), none⟩,
  ⟨(some 18), .idxStr (.t 17) (.k (.sc (.int .i64 0))), none⟩,
  ⟨(some 5), .move (.t 18), none⟩]
def m54_r5 : List MI := [
  ⟨(some 19), .move (.t 5), none⟩,
  ⟨(some 20), .indexArr 256 1 (.k (.sc (.ptr 0 0))) (.t 19), none⟩,
  ⟨(some 21), .load none (.t 20), none⟩,
  ⟨(some 6), .move (.t 21), none⟩]
def m54_r6 : List MI := [
  ⟨(some 22), .move (.t 6), none⟩,
  ⟨(some 23), .bin .geq .no (.t 22) (.k (.sc (.int .u8 240))), none⟩]
def m54_r7 : List MI := [
  ⟨(some 24), .move (.t 6), none⟩,
  ⟨(some 25), .conv (.int .i32) (.t 24), none⟩,
  ⟨(some 26), .bin .shl .no (.t 25) (.k (.sc (.int .u64 31))), none⟩,
  ⟨(some 27), .bin .shr .no (.t 26) (.k (.sc (.int .u64 31))), none⟩,
  ⟨(some 7), .move (.t 27), none⟩]
def m54_r8 : List MI := [
  ⟨(some 28), .move (.t 0), none⟩,
  ⟨(some 29), .idxStr (.t 28) (.k (.sc (.int .i64 0))), none⟩,
  ⟨(some 30), .conv (.int .i32) (.t 29), none⟩,
  ⟨(some 31), .move (.t 7), none⟩,
  ⟨(some 32), .bin .andNot .no (.t 30) (.t 31), none⟩,
  ⟨(some 33), .move (.t 7), none⟩,
  ⟨(some 34), .bin .and .no (.k (.sc (.int .i32 65533))) (.t 33), none⟩,
  ⟨(some 35), .bin .or .no (.t 32) (.t 34), none⟩,
  ⟨(some 2), .move (.t 35), none⟩,
  ⟨(some 3), .move (.k (.sc (.int .i64 1))), none⟩]
def m54_r9 : List MI := [
  ⟨(some 36), .move (.t 6), none⟩,
  ⟨(some 37), .bin .and .no (.t 36) (.k (.sc (.int .u8 7))), none⟩,
  ⟨(some 38), .conv (.int .i64) (.t 37), none⟩,
  ⟨(some 8), .move (.t 38), none⟩]
def m54_r10 : List MI := [
  ⟨(some 39), .move (.t 6), none⟩,
  ⟨(some 40), .bin .shr .no (.t 39) (.k (.sc (.int .u64 4))), none⟩,
  ⟨(some 41), .indexArr 16 2 (.k (.sc (.ptr 1 0))) (.t 40), none⟩,
  ⟨(some 42), .load (some 2) (.t 41), none⟩,
  ⟨(some 9), .alloc 91 [.int .u8 0, .int .u8 0], none⟩,
  ⟨none, .store 2 (.t 9) (.t 42), none⟩]
def m54_r11 : List MI := [
  ⟨(some 43), .move (.t 4), none⟩,
  ⟨(some 44), .move (.t 8), none⟩,
  ⟨(some 45), .bin .lss .no (.t 43) (.t 44), none⟩]
def m54_r12 : List MI := [
  ⟨(some 2), .move (.k (.sc (.int .i32 65533))), none⟩,
  ⟨(some 3), .move (.k (.sc (.int .i64 1))), none⟩]
def m54_r13 : List MI := [
  ⟨(some 46), .move (.t 0), none⟩,
  ⟨(some 47), .idxStr (.t 46) (.k (.sc (.int .i64 1))), none⟩,
  ⟨(some 10), .move (.t 47), none⟩]
def m54_r14 : List MI := [
  ⟨(some 48), .move (.t 10), none⟩,
  ⟨(some 49), .fieldAddr 0 (.t 9), none⟩,
  ⟨(some 50), .load none (.t 49), none⟩,
  ⟨(some 51), .bin .lss .no (.t 48) (.t 50), none⟩,
  ⟨(some 52), .move (.t 51), none⟩,
  ⟨(some 53), .fieldAddr 1 (.t 9), (some (52, false))⟩,
  ⟨(some 54), .load none (.t 53), (some (52, false))⟩,
  ⟨(some 55), .move (.t 10), (some (52, false))⟩,
  ⟨(some 56), .bin .lss .no (.t 54) (.t 55), (some (52, false))⟩,
  ⟨(some 57), .pick (.t 52) (.k (.sc (.bool true))) (.t 56), none⟩]
def m54_r15 : List MI := [
  ⟨(some 2), .move (.k (.sc (.int .i32 65533))), none⟩,
  ⟨(some 3), .move (.k (.sc (.int .i64 1))), none⟩]
def m54_r16 : List MI := [
  ⟨(some 58), .move (.t 8), none⟩,
  ⟨(some 59), .bin .leq .no (.t 58) (.k (.sc (.int .i64 2))), none⟩]
def m54_r17 : List MI := [
  ⟨(some 60), .move (.t 5), none⟩,
  ⟨(some 61), .bin .and .no (.t 60) (.k (.sc (.int .u8 31))), none⟩,
  ⟨(some 62), .conv (.int .i32) (.t 61), none⟩,
  ⟨(some 63), .bin .shl .no (.t 62) (.k (.sc (.int .u64 6))), none⟩,
  ⟨(some 64), .move (.t 10), none⟩,
  ⟨(some 65), .bin .and .no (.t 64) (.k (.sc (.int .u8 63))), none⟩,
  ⟨(some 66), .conv (.int .i32) (.t 65), none⟩,
  ⟨(some 67), .bin .or .no (.t 63) (.t 66), none⟩,
  ⟨(some 2), .move (.t 67), none⟩,
  ⟨(some 3), .move (.k (.sc (.int .i64 2))), none⟩]
def m54_r18 : List MI := [
  ⟨(some 68), .move (.t 0), none⟩,
  ⟨(some 69), .idxStr (.t 68) (.k (.sc (.int .i64 2))), none⟩,
  ⟨(some 11), .move (.t 69), none⟩]
def m54_r19 : List MI := [
  ⟨(some 70), .move (.t 11), none⟩,
  ⟨(some 71), .bin .lss .no (.t 70) (.k (.sc (.int .u8 128))), none⟩,
  ⟨(some 72), .move (.t 71), none⟩,
  ⟨(some 73), .move (.t 11), (some (72, false))⟩,
  ⟨(some 74), .bin .lss .no (.k (.sc (.int .u8 191))) (.t 73), (some (72, false))⟩,
  ⟨(some 75), .pick (.t 72) (.k (.sc (.bool true))) (.t 74), none⟩]
def m54_r20 : List MI := [
  ⟨(some 2), .move (.k (.sc (.int .i32 65533))), none⟩,
  ⟨(some 3), .move (.k (.sc (.int .i64 1))), none⟩]
def m54_r21 : List MI := [
  ⟨(some 76), .move (.t 8), none⟩,
  ⟨(some 77), .bin .leq .no (.t 76) (.k (.sc (.int .i64 3))), none⟩]
def m54_r22 : List MI := [
  ⟨(some 78), .move (.t 5), none⟩,
  ⟨(some 79), .bin .and .no (.t 78) (.k (.sc (.int .u8 15))), none⟩,
  ⟨(some 80), .conv (.int .i32) (.t 79), none⟩,
  ⟨(some 81), .bin .shl .no (.t 80) (.k (.sc (.int .u64 12))), none⟩,
  ⟨(some 82), .move (.t 10), none⟩,
  ⟨(some 83), .bin .and .no (.t 82) (.k (.sc (.int .u8 63))), none⟩,
  ⟨(some 84), .conv (.int .i32) (.t 83), none⟩,
  ⟨(some 85), .bin .shl .no (.t 84) (.k (.sc (.int .u64 6))), none⟩,
  ⟨(some 86), .bin .or .no (.t 81) (.t 85), none⟩,
  ⟨(some 87), .move (.t 11), none⟩,
  ⟨(some 88), .bin .and .no (.t 87) (.k (.sc (.int .u8 63))), none⟩,
  ⟨(some 89), .conv (.int .i32) (.t 88), none⟩,
  ⟨(some 90), .bin .or .no (.t 86) (.t 89), none⟩,
  ⟨(some 2), .move (.t 90), none⟩,
  ⟨(some 3), .move (.k (.sc (.int .i64 3))), none⟩]
def m54_r23 : List MI := [
  ⟨(some 91), .move (.t 0), none⟩,
  ⟨(some 92), .idxStr (.t 91) (.k (.sc (.int .i64 3))), none⟩,
  ⟨(some 12), .move (.t 92), none⟩]
def m54_r24 : List MI := [
  ⟨(some 93), .move (.t 12), none⟩,
  ⟨(some 94), .bin .lss .no (.t 93) (.k (.sc (.int .u8 128))), none⟩,
  ⟨(some 95), .move (.t 94), none⟩,
  ⟨(some 96), .move (.t 12), (some (95, false))⟩,
  ⟨(some 97), .bin .lss .no (.k (.sc (.int .u8 191))) (.t 96), (some (95, false))⟩,
  ⟨(some 98), .pick (.t 95) (.k (.sc (.bool true))) (.t 97), none⟩]
def m54_r25 : List MI := [
  ⟨(some 2), .move (.k (.sc (.int .i32 65533))), none⟩,
  ⟨(some 3), .move (.k (.sc (.int .i64 1))), none⟩]
def m54_r26 : List MI := [
  ⟨(some 99), .move (.t 5), none⟩,
  ⟨(some 100), .bin .and .no (.t 99) (.k (.sc (.int .u8 7))), none⟩,
  ⟨(some 101), .conv (.int .i32) (.t 100), none⟩,
  ⟨(some 102), .bin .shl .no (.t 101) (.k (.sc (.int .u64 18))), none⟩,
  ⟨(some 103), .move (.t 10), none⟩,
  ⟨(some 104), .bin .and .no (.t 103) (.k (.sc (.int .u8 63))), none⟩,
  ⟨(some 105), .conv (.int .i32) (.t 104), none⟩,
  ⟨(some 106), .bin .shl .no (.t 105) (.k (.sc (.int .u64 12))), none⟩,
  ⟨(some 107), .bin .or .no (.t 102) (.t 106), none⟩,
  ⟨(some 108), .move (.t 11), none⟩,
  ⟨(some 109), .bin .and .no (.t 108) (.k (.sc (.int .u8 63))), none⟩,
  ⟨(some 110), .conv (.int .i32) (.t 109), none⟩,
  ⟨(some 111), .bin .shl .no (.t 110) (.k (.sc (.int .u64 6))), none⟩,
  ⟨(some 112), .bin .or .no (.t 107) (.t 111), none⟩,
  ⟨(some 113), .move (.t 12), none⟩,
  ⟨(some 114), .bin .and .no (.t 113) (.k (.sc (.int .u8 63))), none⟩,
  ⟨(some 115), .conv (.int .i32) (.t 114), none⟩,
  ⟨(some 116), .bin .or .no (.t 112) (.t 115), none⟩,
  ⟨(some 2), .move (.t 116), none⟩,
  ⟨(some 3), .move (.k (.sc (.int .i64 4))), none⟩]
def m54_code : MCode := (.seq (.ops m54_r0) (.seq (.ops m54_r1) (.seq (.seq (.ops m54_r2) (.cond (.t 16) (.seq (.ops m54_r3) .ret) .skip)) (.seq (.ops m54_r4) (.seq (.ops m54_r5) (.seq (.seq (.ops m54_r6) (.cond (.t 23) (.seq (.ops m54_r7) (.seq (.ops m54_r8) .ret)) .skip)) (.seq (.ops m54_r9) (.seq (.ops m54_r10) (.seq (.seq (.ops m54_r11) (.cond (.t 45) (.seq (.ops m54_r12) .ret) .skip)) (.seq (.ops m54_r13) (.seq (.seq (.ops m54_r14) (.cond (.t 57) (.seq (.ops m54_r15) .ret) .skip)) (.seq (.seq (.ops m54_r16) (.cond (.t 59) (.seq (.ops m54_r17) .ret) .skip)) (.seq (.ops m54_r18) (.seq (.seq (.ops m54_r19) (.cond (.t 75) (.seq (.ops m54_r20) .ret) .skip)) (.seq (.seq (.ops m54_r21) (.cond (.t 77) (.seq (.ops m54_r22) .ret) .skip)) (.seq (.ops m54_r23) (.seq (.seq (.ops m54_r24) (.cond (.t 98) (.seq (.ops m54_r25) .ret) .skip)) (.seq (.ops m54_r26) .ret))))))))))))))))))
def m54 : MFunc := ⟨117, [.tmp 2, .tmp 3], m54_code⟩

def m55_r0 : List MI := [
  ⟨(some 4), .move (.k (.sc (.int .i64 0))), none⟩]
def m55_r1 : List MI := [
  ⟨(some 5), .move (.t 0), none⟩,
  ⟨(some 6), .move (.t 1), none⟩,
  ⟨(some 7), .call 59 [(.t 5), (.t 6)], none⟩,
  ⟨(some 4), .move (.t 7), none⟩]
def m55_code : MCode := (.seq (.ops m55_r0) (.seq (.ops m55_r1) .ret))
def m55 : MFunc := ⟨8, [.tmp 4], m55_code⟩

def m56_r0 : List MI := [
  ⟨(some 2), .move (.k (.sc (.bool false))), none⟩]
def m56_r1 : List MI := [
  ⟨(some 4), .move (.t 0), none⟩,
  ⟨(some 5), .bin .leq .no (.k (.sc (.int .i32 0))) (.t 4), none⟩,
  ⟨(some 6), .move (.t 5), none⟩,
  ⟨(some 7), .move (.t 0), (some (6, true))⟩,
  ⟨(some 8), .bin .lss .no (.t 7) (.k (.sc (.int .i32 55296))), (some (6, true))⟩,
  ⟨(some 9), .pick (.t 6) (.t 8) (.k (.sc (.bool false))), none⟩,
  ⟨(some 3), .move (.t 9), none⟩]
def m56_r2 : List MI := [
  ⟨(some 2), .move (.k (.sc (.bool true))), none⟩]
def m56_r3 : List MI := [
  ⟨(some 11), .move (.t 0), none⟩,
  ⟨(some 12), .bin .lss .no (.k (.sc (.int .i32 57343))) (.t 11), none⟩,
  ⟨(some 13), .move (.t 12), none⟩,
  ⟨(some 14), .move (.t 0), (some (13, true))⟩,
  ⟨(some 15), .bin .leq .no (.t 14) (.k (.sc (.int .i32 1114111))), (some (13, true))⟩,
  ⟨(some 16), .pick (.t 13) (.t 15) (.k (.sc (.bool false))), none⟩,
  ⟨(some 10), .move (.t 16), none⟩]
def m56_r4 : List MI := [
  ⟨(some 2), .move (.k (.sc (.bool true))), none⟩]
def m56_r5 : List MI := [
  ⟨(some 2), .move (.k (.sc (.bool false))), none⟩]
def m56_code : MCode := (.seq (.ops m56_r0) (.seq (.block 0 (.seq (.ops m56_r1) (.cond (.t 3) (.seq (.ops m56_r2) .ret) (.seq (.ops m56_r3) (.cond (.t 10) (.seq (.ops m56_r4) .ret) .skip))))) (.seq (.ops m56_r5) .ret)))
def m56 : MFunc := ⟨17, [.tmp 2], m56_code⟩

def m59_r0 : List MI := [
  ⟨(some 4), .move (.k (.sc (.int .i64 0))), none⟩]
def m59_r1 : List MI := [
  ⟨(some 5), .move (.t 0), none⟩,
  ⟨(some 6), .move (.t 1), none⟩,
  ⟨(some 7), .indexByte (.t 5) (.t 6), none⟩,
  ⟨(some 4), .move (.t 7), none⟩]
def m59_code : MCode := (.seq (.ops m59_r0) (.seq (.ops m59_r1) .ret))
def m59 : MFunc := ⟨8, [.tmp 4], m59_code⟩

def DD0 : Nat → Option MFunc := fun f => match f with
  | 3 => some m3
  | 4 => some m4
  | 5 => some m5
  | 6 => some m6
  | 7 => some m7
  | 8 => some m8
  | 9 => some m9
  | 10 => some m10
  | 11 => some m11
  | 12 => some m12
  | 13 => some m13
  | 14 => some m14
  | 15 => some m15
  | 16 => some m16
  | 17 => some m17
  | 18 => some m18
  | 19 => some m19
  | 20 => some m20
  | 21 => some m21
  | 22 => some m22
  | 23 => some m23
  | 24 => some m24
  | 25 => some m25
  | 26 => some m26
  | 27 => some m27
  | 28 => some m28
  | 29 => some m29
  | 30 => some m30
  | 31 => some m31
  | 32 => some m32
  | 33 => some m33
  | 34 => some m34
  | 35 => some m35
  | 36 => some m36
  | 37 => some m37
  | 38 => some m38
  | 39 => some m39
  | 40 => some m40
  | 41 => some m41
  | 42 => some m42
  | 43 => some m43
  | 44 => some m44
  | 45 => some m45
  | 47 => some m47
  | 48 => some m48
  | 49 => some m49
  | 50 => some m50
  | 51 => some m51
  | 52 => some m52
  | 53 => some m53
  | 54 => some m54
  | 55 => some m55
  | 56 => some m56
  | 59 => some m59
  | _ => none
def DD : Nat → Option MFunc := withKnown [9] DD0
theorem c3 : mfun Tryd.prog jxX 3 = some m3 := by kernel_rfl
theorem c4 : mfun Tryd.prog jxX 4 = some m4 := by kernel_rfl
theorem c5 : mfun Tryd.prog jxX 5 = some m5 := by kernel_rfl
theorem c6 : mfun Tryd.prog jxX 6 = some m6 := by kernel_rfl
theorem c7 : mfun Tryd.prog jxX 7 = some m7 := by kernel_rfl
theorem c8 : mfun Tryd.prog jxX 8 = some m8 := by kernel_rfl
theorem c9 : mfun Tryd.prog jxX 9 = some m9 := by kernel_rfl
theorem c10 : mfun Tryd.prog jxX 10 = some m10 := by kernel_rfl
theorem c11 : mfun Tryd.prog jxX 11 = some m11 := by kernel_rfl
theorem c12 : mfun Tryd.prog jxX 12 = some m12 := by kernel_rfl
theorem c13 : mfun Tryd.prog jxX 13 = some m13 := by kernel_rfl
theorem c14 : mfun Tryd.prog jxX 14 = some m14 := by kernel_rfl
theorem c15 : mfun Tryd.prog jxX 15 = some m15 := by kernel_rfl
theorem c16 : mfun Tryd.prog jxX 16 = some m16 := by kernel_rfl
theorem c17 : mfun Tryd.prog jxX 17 = some m17 := by kernel_rfl
theorem c18 : mfun Tryd.prog jxX 18 = some m18 := by kernel_rfl
theorem c19 : mfun Tryd.prog jxX 19 = some m19 := by kernel_rfl
theorem c20 : mfun Tryd.prog jxX 20 = some m20 := by kernel_rfl
theorem c21 : mfun Tryd.prog jxX 21 = some m21 := by kernel_rfl
theorem c22 : mfun Tryd.prog jxX 22 = some m22 := by kernel_rfl
theorem c23 : mfun Tryd.prog jxX 23 = some m23 := by kernel_rfl
theorem c24 : mfun Tryd.prog jxX 24 = some m24 := by kernel_rfl
theorem c25 : mfun Tryd.prog jxX 25 = some m25 := by kernel_rfl
theorem c26 : mfun Tryd.prog jxX 26 = some m26 := by kernel_rfl
theorem c27 : mfun Tryd.prog jxX 27 = some m27 := by kernel_rfl
theorem c28 : mfun Tryd.prog jxX 28 = some m28 := by kernel_rfl
theorem c29 : mfun Tryd.prog jxX 29 = some m29 := by kernel_rfl
theorem c30 : mfun Tryd.prog jxX 30 = some m30 := by kernel_rfl
theorem c31 : mfun Tryd.prog jxX 31 = some m31 := by kernel_rfl
theorem c32 : mfun Tryd.prog jxX 32 = some m32 := by kernel_rfl
theorem c33 : mfun Tryd.prog jxX 33 = some m33 := by kernel_rfl
theorem c34 : mfun Tryd.prog jxX 34 = some m34 := by kernel_rfl
theorem c35 : mfun Tryd.prog jxX 35 = some m35 := by kernel_rfl
theorem c36 : mfun Tryd.prog jxX 36 = some m36 := by kernel_rfl
theorem c37 : mfun Tryd.prog jxX 37 = some m37 := by kernel_rfl
theorem c38 : mfun Tryd.prog jxX 38 = some m38 := by kernel_rfl
theorem c39 : mfun Tryd.prog jxX 39 = some m39 := by kernel_rfl
theorem c40 : mfun Tryd.prog jxX 40 = some m40 := by kernel_rfl
theorem c41 : mfun Tryd.prog jxX 41 = some m41 := by kernel_rfl
theorem c42 : mfun Tryd.prog jxX 42 = some m42 := by kernel_rfl
theorem c43 : mfun Tryd.prog jxX 43 = some m43 := by kernel_rfl
theorem c44 : mfun Tryd.prog jxX 44 = some m44 := by kernel_rfl
theorem c45 : mfun Tryd.prog jxX 45 = some m45 := by kernel_rfl
theorem c47 : mfun Tryd.prog jxX 47 = some m47 := by kernel_rfl
theorem c48 : mfun Tryd.prog jxX 48 = some m48 := by kernel_rfl
theorem c49 : mfun Tryd.prog jxX 49 = some m49 := by kernel_rfl
theorem c50 : mfun Tryd.prog jxX 50 = some m50 := by kernel_rfl
theorem c51 : mfun Tryd.prog jxX 51 = some m51 := by kernel_rfl
theorem c52 : mfun Tryd.prog jxX 52 = some m52 := by kernel_rfl
theorem c53 : mfun Tryd.prog jxX 53 = some m53 := by kernel_rfl
theorem c54 : mfun Tryd.prog jxX 54 = some m54 := by kernel_rfl
theorem c55 : mfun Tryd.prog jxX 55 = some m55 := by kernel_rfl
theorem c56 : mfun Tryd.prog jxX 56 = some m56 := by kernel_rfl
theorem c59 : mfun Tryd.prog jxX 59 = some m59 := by kernel_rfl
theorem d3 : DD 3 = some m3 := rfl
theorem d4 : DD 4 = some m4 := rfl
theorem d5 : DD 5 = some m5 := rfl
theorem d6 : DD 6 = some m6 := rfl
theorem d7 : DD 7 = some m7 := rfl
theorem d8 : DD 8 = some m8 := rfl
theorem d9 : DD 9 = some knownM := rfl
theorem d10 : DD 10 = some m10 := rfl
theorem d11 : DD 11 = some m11 := rfl
theorem d12 : DD 12 = some m12 := rfl
theorem d13 : DD 13 = some m13 := rfl
theorem d14 : DD 14 = some m14 := rfl
theorem d15 : DD 15 = some m15 := rfl
theorem d16 : DD 16 = some m16 := rfl
theorem d17 : DD 17 = some m17 := rfl
theorem d18 : DD 18 = some m18 := rfl
theorem d19 : DD 19 = some m19 := rfl
theorem d20 : DD 20 = some m20 := rfl
theorem d21 : DD 21 = some m21 := rfl
theorem d22 : DD 22 = some m22 := rfl
theorem d23 : DD 23 = some m23 := rfl
theorem d24 : DD 24 = some m24 := rfl
theorem d25 : DD 25 = some m25 := rfl
theorem d26 : DD 26 = some m26 := rfl
theorem d27 : DD 27 = some m27 := rfl
theorem d28 : DD 28 = some m28 := rfl
theorem d29 : DD 29 = some m29 := rfl
theorem d30 : DD 30 = some m30 := rfl
theorem d31 : DD 31 = some m31 := rfl
theorem d32 : DD 32 = some m32 := rfl
theorem d33 : DD 33 = some m33 := rfl
theorem d34 : DD 34 = some m34 := rfl
theorem d35 : DD 35 = some m35 := rfl
theorem d36 : DD 36 = some m36 := rfl
theorem d37 : DD 37 = some m37 := rfl
theorem d38 : DD 38 = some m38 := rfl
theorem d39 : DD 39 = some m39 := rfl
theorem d40 : DD 40 = some m40 := rfl
theorem d41 : DD 41 = some m41 := rfl
theorem d42 : DD 42 = some m42 := rfl
theorem d43 : DD 43 = some m43 := rfl
theorem d44 : DD 44 = some m44 := rfl
theorem d45 : DD 45 = some m45 := rfl
theorem d47 : DD 47 = some m47 := rfl
theorem d48 : DD 48 = some m48 := rfl
theorem d49 : DD 49 = some m49 := rfl
theorem d50 : DD 50 = some m50 := rfl
theorem d51 : DD 51 = some m51 := rfl
theorem d52 : DD 52 = some m52 := rfl
theorem d53 : DD 53 = some m53 := rfl
theorem d54 : DD 54 = some m54 := rfl
theorem d55 : DD 55 = some m55 := rfl
theorem d56 : DD 56 = some m56 := rfl
theorem d59 : DD 59 = some m59 := rfl
theorem DD0_ok (w : World) : FunOk Tryd.prog w jxX DD0 := by
  intro f m h
  refine mfun_ok _ w _ f m ?_
  unfold DD0 at h
  split at h
  · cases h; exact c3
  · cases h; exact c4
  · cases h; exact c5
  · cases h; exact c6
  · cases h; exact c7
  · cases h; exact c8
  · cases h; exact c9
  · cases h; exact c10
  · cases h; exact c11
  · cases h; exact c12
  · cases h; exact c13
  · cases h; exact c14
  · cases h; exact c15
  · cases h; exact c16
  · cases h; exact c17
  · cases h; exact c18
  · cases h; exact c19
  · cases h; exact c20
  · cases h; exact c21
  · cases h; exact c22
  · cases h; exact c23
  · cases h; exact c24
  · cases h; exact c25
  · cases h; exact c26
  · cases h; exact c27
  · cases h; exact c28
  · cases h; exact c29
  · cases h; exact c30
  · cases h; exact c31
  · cases h; exact c32
  · cases h; exact c33
  · cases h; exact c34
  · cases h; exact c35
  · cases h; exact c36
  · cases h; exact c37
  · cases h; exact c38
  · cases h; exact c39
  · cases h; exact c40
  · cases h; exact c41
  · cases h; exact c42
  · cases h; exact c43
  · cases h; exact c44
  · cases h; exact c45
  · cases h; exact c47
  · cases h; exact c48
  · cases h; exact c49
  · cases h; exact c50
  · cases h; exact c51
  · cases h; exact c52
  · cases h; exact c53
  · cases h; exact c54
  · cases h; exact c55
  · cases h; exact c56
  · cases h; exact c59
  · cases h
end Go.Proofs.YtkkkigkfklngdaaDoor
