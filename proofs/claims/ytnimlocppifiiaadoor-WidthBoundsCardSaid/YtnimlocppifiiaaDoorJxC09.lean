/- The plain machine's functions of this seat, as a program of mine printed them (Prt.lean), and that they are what compiling gives. -/
import Derived.Test.YtnimlocppifiiaaDoorJxKRun
import Derived.Test.YtnimlocppifiiaaDoorJxW3
import Derived.Test.YtnimlocppifiiaaDoorChecked
namespace Go.Proofs.YtnimlocppifiiaaDoor
open Go Go.Jx
def jxX : Exts := exts [9,9,0,0,0,0,0,0,0,0,0,0,0,0]
def m3_r0 : List MI := [
  ⟨(some 0), .move (.k (.sc (.bool false))), none⟩]
def m3_r1 : List MI := [
  ⟨(some 6), .build [.int .i32 0, .int .i32 0, .int .i32 0] [(0, 1, (.k (.sc (.int .i32 0)))), (1, 1, (.k (.sc (.int .i32 31)))), (2, 1, (.k (.sc (.int .i32 0))))], none⟩,
  ⟨(some 7), .build [.int .i32 0, .int .i32 0, .int .i32 0] [(0, 1, (.k (.sc (.int .i32 127)))), (1, 1, (.k (.sc (.int .i32 159)))), (2, 1, (.k (.sc (.int .i32 0))))], none⟩,
  ⟨(some 8), .build [.int .i32 0, .int .i32 0, .int .i32 0] [(0, 1, (.k (.sc (.int .i32 768)))), (1, 1, (.k (.sc (.int .i32 879)))), (2, 1, (.k (.sc (.int .i32 0))))], none⟩,
  ⟨(some 9), .build [.int .i32 0, .int .i32 0, .int .i32 0] [(0, 1, (.k (.sc (.int .i32 1155)))), (1, 1, (.k (.sc (.int .i32 1161)))), (2, 1, (.k (.sc (.int .i32 0))))], none⟩,
  ⟨(some 10), .build [.int .i32 0, .int .i32 0, .int .i32 0] [(0, 1, (.k (.sc (.int .i32 1425)))), (1, 1, (.k (.sc (.int .i32 1469)))), (2, 1, (.k (.sc (.int .i32 0))))], none⟩,
  ⟨(some 11), .build [.int .i32 0, .int .i32 0, .int .i32 0] [(0, 1, (.k (.sc (.int .i32 1552)))), (1, 1, (.k (.sc (.int .i32 1562)))), (2, 1, (.k (.sc (.int .i32 0))))], none⟩,
  ⟨(some 12), .build [.int .i32 0, .int .i32 0, .int .i32 0] [(0, 1, (.k (.sc (.int .i32 1611)))), (1, 1, (.k (.sc (.int .i32 1631)))), (2, 1, (.k (.sc (.int .i32 0))))], none⟩,
  ⟨(some 13), .build [.int .i32 0, .int .i32 0, .int .i32 0] [(0, 1, (.k (.sc (.int .i32 8203)))), (1, 1, (.k (.sc (.int .i32 8207)))), (2, 1, (.k (.sc (.int .i32 0))))], none⟩,
  ⟨(some 14), .build [.int .i32 0, .int .i32 0, .int .i32 0] [(0, 1, (.k (.sc (.int .i32 8400)))), (1, 1, (.k (.sc (.int .i32 8447)))), (2, 1, (.k (.sc (.int .i32 0))))], none⟩,
  ⟨(some 15), .build [.int .i32 0, .int .i32 0, .int .i32 0] [(0, 1, (.k (.sc (.int .i32 65024)))), (1, 1, (.k (.sc (.int .i32 65039)))), (2, 1, (.k (.sc (.int .i32 0))))], none⟩,
  ⟨(some 16), .build [.int .i32 0, .int .i32 0, .int .i32 0] [(0, 1, (.k (.sc (.int .i32 65056)))), (1, 1, (.k (.sc (.int .i32 65071)))), (2, 1, (.k (.sc (.int .i32 0))))], none⟩,
  ⟨(some 17), .build [.int .i32 0, .int .i32 0, .int .i32 0] [(0, 1, (.k (.sc (.int .i32 917760)))), (1, 1, (.k (.sc (.int .i32 917999)))), (2, 1, (.k (.sc (.int .i32 0))))], none⟩,
  ⟨(some 18), .build [.int .i32 0, .int .i32 0, .int .i32 0] [(0, 1, (.k (.sc (.int .i32 4352)))), (1, 1, (.k (.sc (.int .i32 4447)))), (2, 1, (.k (.sc (.int .i32 2))))], none⟩,
  ⟨(some 19), .build [.int .i32 0, .int .i32 0, .int .i32 0] [(0, 1, (.k (.sc (.int .i32 11904)))), (1, 1, (.k (.sc (.int .i32 12350)))), (2, 1, (.k (.sc (.int .i32 2))))], none⟩,
  ⟨(some 20), .build [.int .i32 0, .int .i32 0, .int .i32 0] [(0, 1, (.k (.sc (.int .i32 12353)))), (1, 1, (.k (.sc (.int .i32 13311)))), (2, 1, (.k (.sc (.int .i32 2))))], none⟩,
  ⟨(some 21), .build [.int .i32 0, .int .i32 0, .int .i32 0] [(0, 1, (.k (.sc (.int .i32 13312)))), (1, 1, (.k (.sc (.int .i32 19903)))), (2, 1, (.k (.sc (.int .i32 2))))], none⟩,
  ⟨(some 22), .build [.int .i32 0, .int .i32 0, .int .i32 0] [(0, 1, (.k (.sc (.int .i32 19968)))), (1, 1, (.k (.sc (.int .i32 40959)))), (2, 1, (.k (.sc (.int .i32 2))))], none⟩,
  ⟨(some 23), .build [.int .i32 0, .int .i32 0, .int .i32 0] [(0, 1, (.k (.sc (.int .i32 40960)))), (1, 1, (.k (.sc (.int .i32 42191)))), (2, 1, (.k (.sc (.int .i32 2))))], none⟩,
  ⟨(some 24), .build [.int .i32 0, .int .i32 0, .int .i32 0] [(0, 1, (.k (.sc (.int .i32 44032)))), (1, 1, (.k (.sc (.int .i32 55203)))), (2, 1, (.k (.sc (.int .i32 2))))], none⟩,
  ⟨(some 25), .build [.int .i32 0, .int .i32 0, .int .i32 0] [(0, 1, (.k (.sc (.int .i32 63744)))), (1, 1, (.k (.sc (.int .i32 64255)))), (2, 1, (.k (.sc (.int .i32 2))))], none⟩,
  ⟨(some 26), .build [.int .i32 0, .int .i32 0, .int .i32 0] [(0, 1, (.k (.sc (.int .i32 65072)))), (1, 1, (.k (.sc (.int .i32 65135)))), (2, 1, (.k (.sc (.int .i32 2))))], none⟩,
  ⟨(some 27), .build [.int .i32 0, .int .i32 0, .int .i32 0] [(0, 1, (.k (.sc (.int .i32 65280)))), (1, 1, (.k (.sc (.int .i32 65376)))), (2, 1, (.k (.sc (.int .i32 2))))], none⟩,
  ⟨(some 28), .build [.int .i32 0, .int .i32 0, .int .i32 0] [(0, 1, (.k (.sc (.int .i32 65504)))), (1, 1, (.k (.sc (.int .i32 65510)))), (2, 1, (.k (.sc (.int .i32 2))))], none⟩,
  ⟨(some 29), .build [.int .i32 0, .int .i32 0, .int .i32 0] [(0, 1, (.k (.sc (.int .i32 127744)))), (1, 1, (.k (.sc (.int .i32 128591)))), (2, 1, (.k (.sc (.int .i32 2))))], none⟩,
  ⟨(some 30), .build [.int .i32 0, .int .i32 0, .int .i32 0] [(0, 1, (.k (.sc (.int .i32 129280)))), (1, 1, (.k (.sc (.int .i32 129535)))), (2, 1, (.k (.sc (.int .i32 2))))], none⟩,
  ⟨(some 31), .build [.int .i32 0, .int .i32 0, .int .i32 0] [(0, 1, (.k (.sc (.int .i32 131072)))), (1, 1, (.k (.sc (.int .i32 262141)))), (2, 1, (.k (.sc (.int .i32 2))))], none⟩,
  ⟨(some 32), .buildSlice 22 3 26 [.int .i32 0, .int .i32 0, .int .i32 0] [(0, 3, (.t 6)), (3, 3, (.t 7)), (6, 3, (.t 8)), (9, 3, (.t 9)), (12, 3, (.t 10)), (15, 3, (.t 11)), (18, 3, (.t 12)), (21, 3, (.t 13)), (24, 3, (.t 14)), (27, 3, (.t 15)), (30, 3, (.t 16)), (33, 3, (.t 17)), (36, 3, (.t 18)), (39, 3, (.t 19)), (42, 3, (.t 20)), (45, 3, (.t 21)), (48, 3, (.t 22)), (51, 3, (.t 23)), (54, 3, (.t 24)), (57, 3, (.t 25)), (60, 3, (.t 26)), (63, 3, (.t 27)), (66, 3, (.t 28)), (69, 3, (.t 29)), (72, 3, (.t 30)), (75, 3, (.t 31))], none⟩,
  ⟨(some 1), .move (.t 32), none⟩]
def m3_r2 : List MI := [
  ⟨(some 2), .move (.k (.sc (.int .i64 0))), none⟩]
def m3_r4 : List MI := [
  ⟨(some 33), .move (.t 2), none⟩,
  ⟨(some 34), .move (.t 1), none⟩,
  ⟨(some 35), .lenSlice (.t 34), none⟩,
  ⟨(some 36), .bin .lss .no (.t 33) (.t 35), none⟩]
def m3_r5 : List MI := [
  ⟨(some 3), .move (.k (.sc (.int .i32 (-1)))), none⟩]
def m3_r7 : List MI := [
  ⟨(some 39), .move (.t 3), none⟩,
  ⟨(some 40), .bin .leq .no (.t 39) (.k (.sc (.int .i32 1))), none⟩]
def m3_r8 : List MI := [
  ⟨(some 43), .move (.t 1), none⟩,
  ⟨(some 44), .move (.t 2), none⟩,
  ⟨(some 45), .indexSlice 3 (.t 43) (.t 44), none⟩,
  ⟨(some 46), .indexArr 3 1 (.t 45) (.k (.sc (.int .i64 0))), none⟩,
  ⟨(some 47), .load none (.t 46), none⟩,
  ⟨(some 48), .move (.t 3), none⟩,
  ⟨(some 49), .bin .add .no (.t 47) (.t 48), none⟩,
  ⟨(some 50), .call 4 [(.t 49)], none⟩,
  ⟨(some 51), .un .not (.t 50), none⟩,
  ⟨(some 52), .move (.t 51), none⟩,
  ⟨(some 53), .move (.t 1), (some (52, false))⟩,
  ⟨(some 54), .move (.t 2), (some (52, false))⟩,
  ⟨(some 55), .indexSlice 3 (.t 53) (.t 54), (some (52, false))⟩,
  ⟨(some 56), .indexArr 3 1 (.t 55) (.k (.sc (.int .i64 1))), (some (52, false))⟩,
  ⟨(some 57), .load none (.t 56), (some (52, false))⟩,
  ⟨(some 58), .move (.t 3), (some (52, false))⟩,
  ⟨(some 59), .bin .add .no (.t 57) (.t 58), (some (52, false))⟩,
  ⟨(some 60), .call 4 [(.t 59)], (some (52, false))⟩,
  ⟨(some 61), .un .not (.t 60), (some (52, false))⟩,
  ⟨(some 62), .pick (.t 52) (.k (.sc (.bool true))) (.t 61), none⟩]
def m3_r9 : List MI := [
  ⟨(some 0), .move (.k (.sc (.bool false))), none⟩]
def m3_r10 : List MI := [
  ⟨(some 41), .move (.t 3), none⟩,
  ⟨(some 42), .bin .add .no (.t 41) (.k (.sc (.int .i32 1))), none⟩,
  ⟨(some 3), .move (.t 42), none⟩]
def m3_l6 : MCode := (.seq (.seq (.ops m3_r7) (.cond (.t 40) .skip (.exit 2))) (.seq (.block 3 (.seq (.ops m3_r8) (.cond (.t 62) (.seq (.ops m3_r9) .ret) .skip))) (.ops m3_r10)))
def m3_r11 : List DI := [
  ⟨⟨(some 63), .move (.t 1), none⟩, 0, [], []⟩,
  ⟨⟨(some 64), .move (.t 2), none⟩, 0, [], []⟩,
  ⟨⟨(some 65), .indexSlice 3 (.t 63) (.t 64), none⟩, 0, [], []⟩,
  ⟨⟨(some 66), .indexArr 3 1 (.t 65) (.k (.sc (.int .i64 0))), none⟩, 0, [], []⟩,
  ⟨⟨(some 67), .load none (.t 66), none⟩, 1, [], []⟩,
  ⟨⟨(some 68), .call 7 [(.t 67)], none⟩, 2, [], []⟩,
  ⟨⟨(some 69), .move (.t 1), none⟩, 0, [5], []⟩,
  ⟨⟨(some 70), .move (.t 2), none⟩, 0, [5], []⟩,
  ⟨⟨(some 71), .indexSlice 3 (.t 69) (.t 70), none⟩, 0, [5], []⟩,
  ⟨⟨(some 72), .indexArr 3 1 (.t 71) (.k (.sc (.int .i64 2))), none⟩, 0, [5], []⟩,
  ⟨⟨(some 73), .load none (.t 72), none⟩, 1, [5], []⟩,
  ⟨⟨(some 74), .conv (.int .i64) (.t 73), none⟩, 0, [5], []⟩,
  ⟨⟨(some 75), .bin .neq .no (.t 68) (.t 74), none⟩, 0, [], []⟩,
  ⟨⟨(some 76), .move (.t 75), none⟩, 0, [], []⟩,
  ⟨⟨(some 77), .move (.t 1), (some (76, false))⟩, 0, [], []⟩,
  ⟨⟨(some 78), .move (.t 2), (some (76, false))⟩, 0, [], []⟩,
  ⟨⟨(some 79), .indexSlice 3 (.t 77) (.t 78), (some (76, false))⟩, 0, [], []⟩,
  ⟨⟨(some 80), .indexArr 3 1 (.t 79) (.k (.sc (.int .i64 1))), (some (76, false))⟩, 0, [], []⟩,
  ⟨⟨(some 81), .load none (.t 80), (some (76, false))⟩, 1, [], []⟩,
  ⟨⟨(some 82), .call 7 [(.t 81)], (some (76, false))⟩, 2, [], []⟩,
  ⟨⟨(some 83), .move (.t 1), (some (76, false))⟩, 0, [19], []⟩,
  ⟨⟨(some 84), .move (.t 2), (some (76, false))⟩, 0, [19], []⟩,
  ⟨⟨(some 85), .indexSlice 3 (.t 83) (.t 84), (some (76, false))⟩, 0, [19], []⟩,
  ⟨⟨(some 86), .indexArr 3 1 (.t 85) (.k (.sc (.int .i64 2))), (some (76, false))⟩, 0, [19], []⟩,
  ⟨⟨(some 87), .load none (.t 86), (some (76, false))⟩, 1, [19], []⟩,
  ⟨⟨(some 88), .conv (.int .i64) (.t 87), (some (76, false))⟩, 0, [19], []⟩,
  ⟨⟨(some 89), .bin .neq .no (.t 82) (.t 88), (some (76, false))⟩, 0, [], []⟩,
  ⟨⟨(some 90), .pick (.t 76) (.k (.sc (.bool true))) (.t 89), none⟩, 0, [], []⟩]
def m3_r12 : List MI := [
  ⟨(some 0), .move (.k (.sc (.bool false))), none⟩]
def m3_r13 : List MI := [
  ⟨(some 37), .move (.t 2), none⟩,
  ⟨(some 38), .bin .add .no (.t 37) (.k (.sc (.int .i64 1))), none⟩,
  ⟨(some 2), .move (.t 38), none⟩]
def m3_l3 : MCode := (.seq (.seq (.ops m3_r4) (.cond (.t 36) .skip (.exit 0))) (.seq (.block 1 (.seq (.seq (.ops m3_r5) (.block 2 (.loop m3_l6))) (.seq (.draw m3_r11) (.cond (.t 90) (.seq (.ops m3_r12) .ret) .skip)))) (.ops m3_r13)))
def m3_r14 : List MI := [
  ⟨(some 92), .buildSlice 21 1 3 [.int .i32 0] [(0, 1, (.k (.sc (.int .i32 101)))), (1, 1, (.k (.sc (.int .i32 769)))), (2, 1, (.k (.sc (.int .i32 98))))], none⟩,
  ⟨(some 93), .call 8 [(.t 92), (.k (.sc (.int .i64 1)))], none⟩,
  ⟨(some 91), .move (.t 93), none⟩,
  ⟨(some 94), .extract (.t 91) 0, none⟩,
  ⟨(some 95), .extract (.t 91) 1, none⟩,
  ⟨(some 4), .move (.t 94), none⟩,
  ⟨(some 5), .move (.t 95), none⟩]
def m3_r15 : List MI := [
  ⟨(some 96), .call 9 [], none⟩,
  ⟨(some 97), .move (.t 96), none⟩,
  ⟨(some 98), .move (.t 4), (some (97, true))⟩,
  ⟨(some 99), .bin .eql .no (.t 98) (.k (.sc (.int .i64 2))), (some (97, true))⟩,
  ⟨(some 100), .pick (.t 97) (.t 99) (.k (.sc (.bool false))), none⟩,
  ⟨(some 101), .move (.t 100), none⟩,
  ⟨(some 102), .move (.t 5), (some (101, true))⟩,
  ⟨(some 103), .bin .eql .no (.t 102) (.k (.sc (.int .i64 0))), (some (101, true))⟩,
  ⟨(some 104), .pick (.t 101) (.t 103) (.k (.sc (.bool false))), none⟩,
  ⟨(some 105), .move (.t 104), none⟩,
  ⟨(some 106), .call 7 [(.k (.sc (.int .i32 (-1))))], (some (105, true))⟩,
  ⟨(some 107), .bin .eql .no (.t 106) (.k (.sc (.int .i64 1))), (some (105, true))⟩,
  ⟨(some 108), .pick (.t 105) (.t 107) (.k (.sc (.bool false))), none⟩,
  ⟨(some 109), .move (.t 108), none⟩,
  ⟨(some 110), .call 7 [(.k (.sc (.int .i32 1114112)))], (some (109, true))⟩,
  ⟨(some 111), .bin .eql .no (.t 110) (.k (.sc (.int .i64 1))), (some (109, true))⟩,
  ⟨(some 112), .pick (.t 109) (.t 111) (.k (.sc (.bool false))), none⟩,
  ⟨(some 113), .move (.t 112), none⟩,
  ⟨(some 114), .call 7 [(.k (.sc (.int .i32 128512)))], (some (113, true))⟩,
  ⟨(some 115), .bin .eql .no (.t 114) (.k (.sc (.int .i64 2))), (some (113, true))⟩,
  ⟨(some 116), .pick (.t 113) (.t 115) (.k (.sc (.bool false))), none⟩,
  ⟨(some 117), .move (.t 116), none⟩,
  ⟨(some 118), .call 7 [(.k (.sc (.int .i32 65533)))], (some (117, true))⟩,
  ⟨(some 119), .bin .eql .no (.t 118) (.k (.sc (.int .i64 1))), (some (117, true))⟩,
  ⟨(some 120), .pick (.t 117) (.t 119) (.k (.sc (.bool false))), none⟩,
  ⟨(some 0), .move (.t 120), none⟩]
def m3_code : MCode := (.seq (.ops m3_r0) (.seq (.ops m3_r1) (.seq (.seq (.ops m3_r2) (.block 0 (.loop m3_l3))) (.seq (.ops m3_r14) (.seq (.ops m3_r15) .ret)))))
def m3 : MFunc := ⟨121, [.tmp 0], m3_code⟩

def m4_r0 : List MI := [
  ⟨(some 2), .move (.k (.sc (.bool false))), none⟩]
def m4_r1 : List MI := [
  ⟨(some 3), .call 9 [], none⟩,
  ⟨(some 4), .un .not (.t 3), none⟩]
def m4_r2 : List MI := [
  ⟨(some 2), .move (.k (.sc (.bool false))), none⟩]
def m4_r3 : List MI := [
  ⟨(some 5), .move (.t 0), none⟩,
  ⟨(some 6), .call 7 [(.t 5)], none⟩,
  ⟨(some 7), .move (.t 0), none⟩,
  ⟨(some 8), .call 10 [(.t 7)], none⟩,
  ⟨(some 9), .bin .eql .no (.t 6) (.t 8), none⟩,
  ⟨(some 10), .move (.t 9), none⟩,
  ⟨(some 11), .move (.t 0), (some (10, true))⟩,
  ⟨(some 12), .bin .add .no (.t 11) (.k (.sc (.int .i32 1))), (some (10, true))⟩,
  ⟨(some 13), .call 7 [(.t 12)], (some (10, true))⟩,
  ⟨(some 14), .move (.t 0), (some (10, true))⟩,
  ⟨(some 15), .bin .add .no (.t 14) (.k (.sc (.int .i32 1))), (some (10, true))⟩,
  ⟨(some 16), .call 10 [(.t 15)], (some (10, true))⟩,
  ⟨(some 17), .bin .eql .no (.t 13) (.t 16), (some (10, true))⟩,
  ⟨(some 18), .pick (.t 10) (.t 17) (.k (.sc (.bool false))), none⟩,
  ⟨(some 19), .move (.t 18), none⟩,
  ⟨(some 20), .move (.t 0), (some (19, true))⟩,
  ⟨(some 21), .bin .sub .no (.t 20) (.k (.sc (.int .i32 1))), (some (19, true))⟩,
  ⟨(some 22), .call 7 [(.t 21)], (some (19, true))⟩,
  ⟨(some 23), .move (.t 0), (some (19, true))⟩,
  ⟨(some 24), .bin .sub .no (.t 23) (.k (.sc (.int .i32 1))), (some (19, true))⟩,
  ⟨(some 25), .call 10 [(.t 24)], (some (19, true))⟩,
  ⟨(some 26), .bin .eql .no (.t 22) (.t 25), (some (19, true))⟩,
  ⟨(some 27), .pick (.t 19) (.t 26) (.k (.sc (.bool false))), none⟩,
  ⟨(some 2), .move (.t 27), none⟩]
def m4_code : MCode := (.seq (.ops m4_r0) (.seq (.seq (.ops m4_r1) (.cond (.t 4) (.seq (.ops m4_r2) .ret) .skip)) (.seq (.ops m4_r3) .ret)))
def m4 : MFunc := ⟨28, [.tmp 2], m4_code⟩

def m5_r0 : List MI := [
  ⟨(some 4), .move (.k (.sc (.bool false))), none⟩]
def m5_r1 : List MI := [
  ⟨(some 9), .call 9 [], none⟩,
  ⟨(some 10), .un .not (.t 9), none⟩]
def m5_r2 : List MI := [
  ⟨(some 4), .move (.k (.sc (.bool false))), none⟩]
def m5_r3 : List MI := [
  ⟨(some 11), .move (.t 0), none⟩,
  ⟨(some 12), .lenSlice (.t 11), none⟩,
  ⟨(some 13), .bin .gtr .no (.t 12) (.k (.sc (.int .i64 300))), none⟩]
def m5_r4 : List MI := [
  ⟨(some 4), .move (.k (.sc (.bool true))), none⟩]
def m5_r5 : List MI := [
  ⟨(some 15), .move (.t 0), none⟩,
  ⟨(some 16), .move (.t 1), none⟩,
  ⟨(some 17), .call 8 [(.t 15), (.t 16)], none⟩,
  ⟨(some 14), .move (.t 17), none⟩,
  ⟨(some 18), .extract (.t 14) 0, none⟩,
  ⟨(some 19), .extract (.t 14) 1, none⟩,
  ⟨(some 5), .move (.t 18), none⟩,
  ⟨(some 6), .move (.t 19), none⟩]
def m5_r6 : List MI := [
  ⟨(some 21), .move (.t 0), none⟩,
  ⟨(some 22), .move (.t 1), none⟩,
  ⟨(some 23), .call 11 [(.t 21), (.t 22)], none⟩,
  ⟨(some 20), .move (.t 23), none⟩,
  ⟨(some 24), .extract (.t 20) 0, none⟩,
  ⟨(some 25), .extract (.t 20) 1, none⟩,
  ⟨(some 7), .move (.t 24), none⟩,
  ⟨(some 8), .move (.t 25), none⟩]
def m5_r7 : List MI := [
  ⟨(some 26), .move (.t 0), none⟩,
  ⟨(some 27), .call 12 [(.t 26)], none⟩,
  ⟨(some 28), .move (.t 0), none⟩,
  ⟨(some 29), .call 13 [(.t 28)], none⟩,
  ⟨(some 30), .bin .eql .no (.t 27) (.t 29), none⟩,
  ⟨(some 31), .move (.t 30), none⟩,
  ⟨(some 32), .move (.t 5), (some (31, true))⟩,
  ⟨(some 33), .move (.t 7), (some (31, true))⟩,
  ⟨(some 34), .bin .eql .no (.t 32) (.t 33), (some (31, true))⟩,
  ⟨(some 35), .pick (.t 31) (.t 34) (.k (.sc (.bool false))), none⟩,
  ⟨(some 36), .move (.t 35), none⟩,
  ⟨(some 37), .move (.t 6), (some (36, true))⟩,
  ⟨(some 38), .move (.t 8), (some (36, true))⟩,
  ⟨(some 39), .bin .eql .no (.t 37) (.t 38), (some (36, true))⟩,
  ⟨(some 40), .pick (.t 36) (.t 39) (.k (.sc (.bool false))), none⟩,
  ⟨(some 4), .move (.t 40), none⟩]
def m5_code : MCode := (.seq (.ops m5_r0) (.seq (.seq (.ops m5_r1) (.cond (.t 10) (.seq (.ops m5_r2) .ret) .skip)) (.seq (.seq (.ops m5_r3) (.cond (.t 13) (.seq (.ops m5_r4) .ret) .skip)) (.seq (.ops m5_r5) (.seq (.ops m5_r6) (.seq (.ops m5_r7) .ret))))))
def m5 : MFunc := ⟨41, [.tmp 4], m5_code⟩

def m6_r0 : List MI := [
  ⟨(some 6), .move (.k (.sc (.bool false))), none⟩]
def m6_r1 : List MI := [
  ⟨(some 10), .call 9 [], none⟩,
  ⟨(some 11), .un .not (.t 10), none⟩]
def m6_r2 : List MI := [
  ⟨(some 6), .move (.k (.sc (.bool false))), none⟩]
def m6_r3 : List MI := [
  ⟨(some 12), .move (.t 0), none⟩,
  ⟨(some 13), .lenSlice (.t 12), none⟩,
  ⟨(some 14), .bin .gtr .no (.t 13) (.k (.sc (.int .i64 300))), none⟩,
  ⟨(some 15), .move (.t 14), none⟩,
  ⟨(some 16), .move (.t 1), (some (15, false))⟩,
  ⟨(some 17), .lenSlice (.t 16), (some (15, false))⟩,
  ⟨(some 18), .bin .gtr .no (.t 17) (.k (.sc (.int .i64 300))), (some (15, false))⟩,
  ⟨(some 19), .pick (.t 15) (.k (.sc (.bool true))) (.t 18), none⟩]
def m6_r4 : List MI := [
  ⟨(some 6), .move (.k (.sc (.bool true))), none⟩]
def m6_r5 : List MI := [
  ⟨(some 21), .move (.t 0), none⟩,
  ⟨(some 22), .move (.t 2), none⟩,
  ⟨(some 23), .call 8 [(.t 21), (.t 22)], none⟩,
  ⟨(some 20), .move (.t 23), none⟩,
  ⟨(some 24), .extract (.t 20) 0, none⟩,
  ⟨(some 25), .extract (.t 20) 1, none⟩,
  ⟨(some 7), .move (.t 24), none⟩,
  ⟨(some 8), .move (.t 25), none⟩]
def m6_r6 : List MI := [
  ⟨(some 26), .move (.t 7), none⟩,
  ⟨(some 27), .bin .lss .no (.t 26) (.k (.sc (.int .i64 0))), none⟩,
  ⟨(some 28), .move (.t 27), none⟩,
  ⟨(some 29), .move (.t 7), (some (28, false))⟩,
  ⟨(some 30), .move (.t 0), (some (28, false))⟩,
  ⟨(some 31), .lenSlice (.t 30), (some (28, false))⟩,
  ⟨(some 32), .bin .gtr .no (.t 29) (.t 31), (some (28, false))⟩,
  ⟨(some 33), .pick (.t 28) (.k (.sc (.bool true))) (.t 32), none⟩,
  ⟨(some 34), .move (.t 33), none⟩,
  ⟨(some 35), .move (.t 8), (some (34, false))⟩,
  ⟨(some 36), .bin .lss .no (.t 35) (.k (.sc (.int .i64 0))), (some (34, false))⟩,
  ⟨(some 37), .pick (.t 34) (.k (.sc (.bool true))) (.t 36), none⟩]
def m6_r7 : List MI := [
  ⟨(some 6), .move (.k (.sc (.bool false))), none⟩]
def m6_r8 : List MI := [
  ⟨(some 38), .move (.t 2), none⟩,
  ⟨(some 39), .bin .lss .no (.t 38) (.k (.sc (.int .i64 0))), none⟩]
def m6_r9 : List MI := [
  ⟨(some 40), .move (.t 7), none⟩,
  ⟨(some 41), .bin .eql .no (.t 40) (.k (.sc (.int .i64 0))), none⟩,
  ⟨(some 42), .move (.t 41), none⟩,
  ⟨(some 43), .move (.t 8), (some (42, true))⟩,
  ⟨(some 44), .bin .eql .no (.t 43) (.k (.sc (.int .i64 0))), (some (42, true))⟩,
  ⟨(some 45), .pick (.t 42) (.t 44) (.k (.sc (.bool false))), none⟩,
  ⟨(some 6), .move (.t 45), none⟩]
def m6_r10 : List MI := [
  ⟨(some 46), .move (.t 0), none⟩,
  ⟨(some 47), .move (.t 7), none⟩,
  ⟨(some 48), .slice 1 (.t 46) none (some (.t 47)), none⟩,
  ⟨(some 49), .call 12 [(.t 48)], none⟩,
  ⟨(some 50), .move (.t 2), none⟩,
  ⟨(some 51), .move (.t 8), none⟩,
  ⟨(some 52), .bin .sub .no (.t 50) (.t 51), none⟩,
  ⟨(some 53), .bin .neq .no (.t 49) (.t 52), none⟩,
  ⟨(some 54), .move (.t 53), none⟩,
  ⟨(some 55), .move (.t 7), (some (54, false))⟩,
  ⟨(some 56), .move (.t 0), (some (54, false))⟩,
  ⟨(some 57), .lenSlice (.t 56), (some (54, false))⟩,
  ⟨(some 58), .bin .lss .no (.t 55) (.t 57), (some (54, false))⟩,
  ⟨(some 59), .move (.t 58), (some (54, false))⟩,
  ⟨(some 60), .move (.t 0), (some (59, true))⟩,
  ⟨(some 61), .move (.t 7), (some (59, true))⟩,
  ⟨(some 62), .indexSlice 1 (.t 60) (.t 61), (some (59, true))⟩,
  ⟨(some 63), .load none (.t 62), (some (59, true))⟩,
  ⟨(some 64), .call 7 [(.t 63)], (some (59, true))⟩,
  ⟨(some 65), .move (.t 8), (some (59, true))⟩,
  ⟨(some 66), .bin .leq .no (.t 64) (.t 65), (some (59, true))⟩,
  ⟨(some 67), .pick (.t 59) (.t 66) (.k (.sc (.bool false))), (some (54, false))⟩,
  ⟨(some 68), .pick (.t 54) (.k (.sc (.bool true))) (.t 67), none⟩]
def m6_r11 : List MI := [
  ⟨(some 6), .move (.k (.sc (.bool false))), none⟩]
def m6_r12 : List MI := [
  ⟨(some 69), .buildSlice 21 1 0 [.int .i32 0] [], none⟩,
  ⟨(some 70), .move (.t 0), none⟩,
  ⟨(some 71), .append 21 1 4 [.int .i32 0] (.t 69) (.t 70), none⟩,
  ⟨(some 72), .move (.t 1), none⟩,
  ⟨(some 73), .append 21 1 4 [.int .i32 0] (.t 71) (.t 72), none⟩,
  ⟨(some 9), .move (.t 73), none⟩]
def m6_r13 : List MI := [
  ⟨(some 74), .move (.t 9), none⟩,
  ⟨(some 75), .call 12 [(.t 74)], none⟩,
  ⟨(some 76), .move (.t 0), none⟩,
  ⟨(some 77), .call 12 [(.t 76)], none⟩,
  ⟨(some 78), .move (.t 1), none⟩,
  ⟨(some 79), .call 12 [(.t 78)], none⟩,
  ⟨(some 80), .bin .add .no (.t 77) (.t 79), none⟩,
  ⟨(some 81), .bin .eql .no (.t 75) (.t 80), none⟩,
  ⟨(some 82), .move (.t 81), none⟩,
  ⟨(some 83), .move (.t 0), (some (82, true))⟩,
  ⟨(some 84), .call 12 [(.t 83)], (some (82, true))⟩,
  ⟨(some 85), .move (.t 0), (some (82, true))⟩,
  ⟨(some 86), .lenSlice (.t 85), (some (82, true))⟩,
  ⟨(some 87), .bin .mul .no (.k (.sc (.int .i64 2))) (.t 86), (some (82, true))⟩,
  ⟨(some 88), .bin .leq .no (.t 84) (.t 87), (some (82, true))⟩,
  ⟨(some 89), .pick (.t 82) (.t 88) (.k (.sc (.bool false))), none⟩,
  ⟨(some 6), .move (.t 89), none⟩]
def m6_code : MCode := (.seq (.ops m6_r0) (.seq (.seq (.ops m6_r1) (.cond (.t 11) (.seq (.ops m6_r2) .ret) .skip)) (.seq (.seq (.ops m6_r3) (.cond (.t 19) (.seq (.ops m6_r4) .ret) .skip)) (.seq (.ops m6_r5) (.seq (.seq (.ops m6_r6) (.cond (.t 37) (.seq (.ops m6_r7) .ret) .skip)) (.seq (.seq (.ops m6_r8) (.cond (.t 39) (.seq (.ops m6_r9) .ret) .skip)) (.seq (.seq (.ops m6_r10) (.cond (.t 68) (.seq (.ops m6_r11) .ret) .skip)) (.seq (.ops m6_r12) (.seq (.ops m6_r13) .ret)))))))))
def m6 : MFunc := ⟨90, [.tmp 6], m6_code⟩

def m7_r0 : List MI := [
  ⟨(some 2), .move (.k (.sc (.int .i64 0))), none⟩]
def m7_r1 : List MI := [
  ⟨(some 3), .move (.k (.sc (.int .i64 0))), none⟩,
  ⟨(some 4), .move (.k (.sc (.int .i64 26))), none⟩]
def m7_r3 : List MI := [
  ⟨(some 6), .move (.t 3), none⟩,
  ⟨(some 7), .move (.t 4), none⟩,
  ⟨(some 8), .bin .lss .no (.t 6) (.t 7), none⟩]
def m7_r4 : List MI := [
  ⟨(some 9), .move (.t 3), none⟩,
  ⟨(some 10), .move (.t 4), none⟩,
  ⟨(some 11), .bin .add .no (.t 9) (.t 10), none⟩,
  ⟨(some 12), .bin .quo .no (.t 11) (.k (.sc (.int .i64 2))), none⟩,
  ⟨(some 5), .move (.t 12), none⟩]
def m7_r5 : List MI := [
  ⟨(some 14), .move (.t 0), none⟩,
  ⟨(some 15), .move (.t 5), none⟩,
  ⟨(some 16), .indexArr 26 2 (.k (.sc (.ptr 0 0))) (.t 15), none⟩,
  ⟨(some 17), .indexArr 2 1 (.t 16) (.k (.sc (.int .i64 0))), none⟩,
  ⟨(some 18), .load none (.t 17), none⟩,
  ⟨(some 19), .bin .lss .no (.t 14) (.t 18), none⟩,
  ⟨(some 13), .move (.t 19), none⟩]
def m7_r6 : List MI := [
  ⟨(some 20), .move (.t 5), none⟩,
  ⟨(some 4), .move (.t 20), none⟩]
def m7_r7 : List MI := [
  ⟨(some 22), .move (.t 0), none⟩,
  ⟨(some 23), .move (.t 5), none⟩,
  ⟨(some 24), .indexArr 26 2 (.k (.sc (.ptr 0 0))) (.t 23), none⟩,
  ⟨(some 25), .indexArr 2 1 (.t 24) (.k (.sc (.int .i64 1))), none⟩,
  ⟨(some 26), .load none (.t 25), none⟩,
  ⟨(some 27), .bin .gtr .no (.t 22) (.t 26), none⟩,
  ⟨(some 21), .move (.t 27), none⟩]
def m7_r8 : List MI := [
  ⟨(some 28), .move (.t 5), none⟩,
  ⟨(some 29), .bin .add .no (.t 28) (.k (.sc (.int .i64 1))), none⟩,
  ⟨(some 3), .move (.t 29), none⟩]
def m7_r9 : List MI := [
  ⟨(some 31), .move (.t 5), none⟩,
  ⟨(some 32), .bin .shr .no (.k (.sc (.int .i64 33948543))) (.t 31), none⟩,
  ⟨(some 33), .bin .and .no (.t 32) (.k (.sc (.int .i64 1))), none⟩,
  ⟨(some 34), .bin .eql .no (.t 33) (.k (.sc (.int .i64 1))), none⟩,
  ⟨(some 30), .move (.t 34), none⟩]
def m7_r10 : List MI := [
  ⟨(some 2), .move (.k (.sc (.int .i64 0))), none⟩]
def m7_r11 : List MI := [
  ⟨(some 2), .move (.k (.sc (.int .i64 2))), none⟩]
def m7_l2 : MCode := (.seq (.seq (.ops m7_r3) (.cond (.t 8) .skip (.exit 0))) (.block 1 (.seq (.ops m7_r4) (.block 2 (.seq (.ops m7_r5) (.cond (.t 13) (.ops m7_r6) (.seq (.ops m7_r7) (.cond (.t 21) (.ops m7_r8) (.seq (.ops m7_r9) (.cond (.t 30) (.seq (.ops m7_r10) .ret) (.seq (.ops m7_r11) .ret)))))))))))
def m7_r12 : List MI := [
  ⟨(some 2), .move (.k (.sc (.int .i64 1))), none⟩]
def m7_code : MCode := (.seq (.ops m7_r0) (.seq (.ops m7_r1) (.seq (.block 0 (.loop m7_l2)) (.seq (.ops m7_r12) .ret))))
def m7 : MFunc := ⟨35, [.tmp 2], m7_code⟩

def m8_r0 : List MI := [
  ⟨(some 4), .move (.k (.sc (.int .i64 0))), none⟩,
  ⟨(some 5), .move (.k (.sc (.int .i64 0))), none⟩]
def m8_r1 : List MI := [
  ⟨(some 6), .move (.t 1), none⟩,
  ⟨(some 7), .bin .lss .no (.t 6) (.k (.sc (.int .i64 0))), none⟩]
def m8_r2 : List MI := [
  ⟨(some 4), .move (.k (.sc (.int .i64 0))), none⟩,
  ⟨(some 5), .move (.k (.sc (.int .i64 0))), none⟩]
def m8_r4 : List MI := [
  ⟨(some 8), .move (.t 4), none⟩,
  ⟨(some 9), .move (.t 0), none⟩,
  ⟨(some 10), .lenSlice (.t 9), none⟩,
  ⟨(some 11), .bin .lss .no (.t 8) (.t 10), none⟩,
  ⟨(some 12), .move (.t 11), none⟩,
  ⟨(some 13), .move (.t 0), (some (12, true))⟩,
  ⟨(some 14), .move (.t 4), (some (12, true))⟩,
  ⟨(some 15), .indexSlice 1 (.t 13) (.t 14), (some (12, true))⟩,
  ⟨(some 16), .load none (.t 15), (some (12, true))⟩,
  ⟨(some 17), .call 7 [(.t 16)], (some (12, true))⟩,
  ⟨(some 18), .move (.t 1), (some (12, true))⟩,
  ⟨(some 19), .bin .leq .no (.t 17) (.t 18), (some (12, true))⟩,
  ⟨(some 20), .pick (.t 12) (.t 19) (.k (.sc (.bool false))), none⟩]
def m8_r5 : List MI := [
  ⟨(some 21), .move (.t 1), none⟩,
  ⟨(some 22), .move (.t 0), none⟩,
  ⟨(some 23), .move (.t 4), none⟩,
  ⟨(some 24), .indexSlice 1 (.t 22) (.t 23), none⟩,
  ⟨(some 25), .load none (.t 24), none⟩,
  ⟨(some 26), .call 7 [(.t 25)], none⟩,
  ⟨(some 27), .bin .sub .no (.t 21) (.t 26), none⟩,
  ⟨(some 1), .move (.t 27), none⟩]
def m8_r6 : List MI := [
  ⟨(some 28), .move (.t 4), none⟩,
  ⟨(some 29), .bin .add .no (.t 28) (.k (.sc (.int .i64 1))), none⟩,
  ⟨(some 4), .move (.t 29), none⟩]
def m8_l3 : MCode := (.seq (.seq (.ops m8_r4) (.cond (.t 20) .skip (.exit 0))) (.block 1 (.seq (.ops m8_r5) (.ops m8_r6))))
def m8_r7 : List MI := [
  ⟨(some 30), .move (.t 4), none⟩,
  ⟨(some 31), .move (.t 1), none⟩,
  ⟨(some 4), .move (.t 30), none⟩,
  ⟨(some 5), .move (.t 31), none⟩]
def m8_code : MCode := (.seq (.ops m8_r0) (.seq (.seq (.ops m8_r1) (.cond (.t 7) (.seq (.ops m8_r2) .ret) .skip)) (.seq (.block 0 (.loop m8_l3)) (.seq (.ops m8_r7) .ret))))
def m8 : MFunc := ⟨32, [.tmp 4, .tmp 5], m8_code⟩

def m9_r0 : List MI := [
  ⟨(some 0), .move (.k (.sc (.bool false))), none⟩]
def m9_r1 : List MI := [
  ⟨(some 4), .buildSlice 21 1 3 [.int .i32 0] [(0, 1, (.k (.sc (.int .i32 97)))), (1, 1, (.k (.sc (.int .i32 20013)))), (2, 1, (.k (.sc (.int .i32 98))))], none⟩,
  ⟨(some 5), .call 8 [(.t 4), (.k (.sc (.int .i64 2)))], none⟩,
  ⟨(some 3), .move (.t 5), none⟩,
  ⟨(some 6), .extract (.t 3) 0, none⟩,
  ⟨(some 7), .extract (.t 3) 1, none⟩,
  ⟨(some 1), .move (.t 6), none⟩,
  ⟨(some 2), .move (.t 7), none⟩]
def m9_r2 : List MI := [
  ⟨(some 8), .call 7 [(.k (.sc (.int .i32 97)))], none⟩,
  ⟨(some 9), .bin .eql .no (.t 8) (.k (.sc (.int .i64 1))), none⟩,
  ⟨(some 10), .move (.t 9), none⟩,
  ⟨(some 11), .call 7 [(.k (.sc (.int .i32 20013)))], (some (10, true))⟩,
  ⟨(some 12), .bin .eql .no (.t 11) (.k (.sc (.int .i64 2))), (some (10, true))⟩,
  ⟨(some 13), .pick (.t 10) (.t 12) (.k (.sc (.bool false))), none⟩,
  ⟨(some 14), .move (.t 13), none⟩,
  ⟨(some 15), .call 7 [(.k (.sc (.int .i32 769)))], (some (14, true))⟩,
  ⟨(some 16), .bin .eql .no (.t 15) (.k (.sc (.int .i64 0))), (some (14, true))⟩,
  ⟨(some 17), .pick (.t 14) (.t 16) (.k (.sc (.bool false))), none⟩,
  ⟨(some 18), .move (.t 17), none⟩,
  ⟨(some 19), .buildSlice 21 1 2 [.int .i32 0] [(0, 1, (.k (.sc (.int .i32 97)))), (1, 1, (.k (.sc (.int .i32 20013))))], (some (18, true))⟩,
  ⟨(some 20), .call 12 [(.t 19)], (some (18, true))⟩,
  ⟨(some 21), .bin .eql .no (.t 20) (.k (.sc (.int .i64 3))), (some (18, true))⟩,
  ⟨(some 22), .pick (.t 18) (.t 21) (.k (.sc (.bool false))), none⟩,
  ⟨(some 23), .move (.t 22), none⟩,
  ⟨(some 24), .move (.t 1), (some (23, true))⟩,
  ⟨(some 25), .bin .eql .no (.t 24) (.k (.sc (.int .i64 1))), (some (23, true))⟩,
  ⟨(some 26), .pick (.t 23) (.t 25) (.k (.sc (.bool false))), none⟩,
  ⟨(some 27), .move (.t 26), none⟩,
  ⟨(some 28), .move (.t 2), (some (27, true))⟩,
  ⟨(some 29), .bin .eql .no (.t 28) (.k (.sc (.int .i64 1))), (some (27, true))⟩,
  ⟨(some 30), .pick (.t 27) (.t 29) (.k (.sc (.bool false))), none⟩,
  ⟨(some 0), .move (.t 30), none⟩]
def m9_code : MCode := (.seq (.ops m9_r0) (.seq (.ops m9_r1) (.seq (.ops m9_r2) .ret)))
def m9 : MFunc := ⟨31, [.tmp 0], m9_code⟩

def m10_r0 : List MI := [
  ⟨(some 2), .move (.k (.sc (.int .i64 0))), none⟩]
def m10_r1 : List MI := [
  ⟨(some 5), .build [.int .i32 0, .int .i32 0, .int .i32 0] [(0, 1, (.k (.sc (.int .i32 0)))), (1, 1, (.k (.sc (.int .i32 31)))), (2, 1, (.k (.sc (.int .i32 0))))], none⟩,
  ⟨(some 6), .build [.int .i32 0, .int .i32 0, .int .i32 0] [(0, 1, (.k (.sc (.int .i32 127)))), (1, 1, (.k (.sc (.int .i32 159)))), (2, 1, (.k (.sc (.int .i32 0))))], none⟩,
  ⟨(some 7), .build [.int .i32 0, .int .i32 0, .int .i32 0] [(0, 1, (.k (.sc (.int .i32 768)))), (1, 1, (.k (.sc (.int .i32 879)))), (2, 1, (.k (.sc (.int .i32 0))))], none⟩,
  ⟨(some 8), .build [.int .i32 0, .int .i32 0, .int .i32 0] [(0, 1, (.k (.sc (.int .i32 1155)))), (1, 1, (.k (.sc (.int .i32 1161)))), (2, 1, (.k (.sc (.int .i32 0))))], none⟩,
  ⟨(some 9), .build [.int .i32 0, .int .i32 0, .int .i32 0] [(0, 1, (.k (.sc (.int .i32 1425)))), (1, 1, (.k (.sc (.int .i32 1469)))), (2, 1, (.k (.sc (.int .i32 0))))], none⟩,
  ⟨(some 10), .build [.int .i32 0, .int .i32 0, .int .i32 0] [(0, 1, (.k (.sc (.int .i32 1552)))), (1, 1, (.k (.sc (.int .i32 1562)))), (2, 1, (.k (.sc (.int .i32 0))))], none⟩,
  ⟨(some 11), .build [.int .i32 0, .int .i32 0, .int .i32 0] [(0, 1, (.k (.sc (.int .i32 1611)))), (1, 1, (.k (.sc (.int .i32 1631)))), (2, 1, (.k (.sc (.int .i32 0))))], none⟩,
  ⟨(some 12), .build [.int .i32 0, .int .i32 0, .int .i32 0] [(0, 1, (.k (.sc (.int .i32 8203)))), (1, 1, (.k (.sc (.int .i32 8207)))), (2, 1, (.k (.sc (.int .i32 0))))], none⟩,
  ⟨(some 13), .build [.int .i32 0, .int .i32 0, .int .i32 0] [(0, 1, (.k (.sc (.int .i32 8400)))), (1, 1, (.k (.sc (.int .i32 8447)))), (2, 1, (.k (.sc (.int .i32 0))))], none⟩,
  ⟨(some 14), .build [.int .i32 0, .int .i32 0, .int .i32 0] [(0, 1, (.k (.sc (.int .i32 65024)))), (1, 1, (.k (.sc (.int .i32 65039)))), (2, 1, (.k (.sc (.int .i32 0))))], none⟩,
  ⟨(some 15), .build [.int .i32 0, .int .i32 0, .int .i32 0] [(0, 1, (.k (.sc (.int .i32 65056)))), (1, 1, (.k (.sc (.int .i32 65071)))), (2, 1, (.k (.sc (.int .i32 0))))], none⟩,
  ⟨(some 16), .build [.int .i32 0, .int .i32 0, .int .i32 0] [(0, 1, (.k (.sc (.int .i32 917760)))), (1, 1, (.k (.sc (.int .i32 917999)))), (2, 1, (.k (.sc (.int .i32 0))))], none⟩,
  ⟨(some 17), .build [.int .i32 0, .int .i32 0, .int .i32 0] [(0, 1, (.k (.sc (.int .i32 4352)))), (1, 1, (.k (.sc (.int .i32 4447)))), (2, 1, (.k (.sc (.int .i32 2))))], none⟩,
  ⟨(some 18), .build [.int .i32 0, .int .i32 0, .int .i32 0] [(0, 1, (.k (.sc (.int .i32 11904)))), (1, 1, (.k (.sc (.int .i32 12350)))), (2, 1, (.k (.sc (.int .i32 2))))], none⟩,
  ⟨(some 19), .build [.int .i32 0, .int .i32 0, .int .i32 0] [(0, 1, (.k (.sc (.int .i32 12353)))), (1, 1, (.k (.sc (.int .i32 13311)))), (2, 1, (.k (.sc (.int .i32 2))))], none⟩,
  ⟨(some 20), .build [.int .i32 0, .int .i32 0, .int .i32 0] [(0, 1, (.k (.sc (.int .i32 13312)))), (1, 1, (.k (.sc (.int .i32 19903)))), (2, 1, (.k (.sc (.int .i32 2))))], none⟩,
  ⟨(some 21), .build [.int .i32 0, .int .i32 0, .int .i32 0] [(0, 1, (.k (.sc (.int .i32 19968)))), (1, 1, (.k (.sc (.int .i32 40959)))), (2, 1, (.k (.sc (.int .i32 2))))], none⟩,
  ⟨(some 22), .build [.int .i32 0, .int .i32 0, .int .i32 0] [(0, 1, (.k (.sc (.int .i32 40960)))), (1, 1, (.k (.sc (.int .i32 42191)))), (2, 1, (.k (.sc (.int .i32 2))))], none⟩,
  ⟨(some 23), .build [.int .i32 0, .int .i32 0, .int .i32 0] [(0, 1, (.k (.sc (.int .i32 44032)))), (1, 1, (.k (.sc (.int .i32 55203)))), (2, 1, (.k (.sc (.int .i32 2))))], none⟩,
  ⟨(some 24), .build [.int .i32 0, .int .i32 0, .int .i32 0] [(0, 1, (.k (.sc (.int .i32 63744)))), (1, 1, (.k (.sc (.int .i32 64255)))), (2, 1, (.k (.sc (.int .i32 2))))], none⟩,
  ⟨(some 25), .build [.int .i32 0, .int .i32 0, .int .i32 0] [(0, 1, (.k (.sc (.int .i32 65072)))), (1, 1, (.k (.sc (.int .i32 65135)))), (2, 1, (.k (.sc (.int .i32 2))))], none⟩,
  ⟨(some 26), .build [.int .i32 0, .int .i32 0, .int .i32 0] [(0, 1, (.k (.sc (.int .i32 65280)))), (1, 1, (.k (.sc (.int .i32 65376)))), (2, 1, (.k (.sc (.int .i32 2))))], none⟩,
  ⟨(some 27), .build [.int .i32 0, .int .i32 0, .int .i32 0] [(0, 1, (.k (.sc (.int .i32 65504)))), (1, 1, (.k (.sc (.int .i32 65510)))), (2, 1, (.k (.sc (.int .i32 2))))], none⟩,
  ⟨(some 28), .build [.int .i32 0, .int .i32 0, .int .i32 0] [(0, 1, (.k (.sc (.int .i32 127744)))), (1, 1, (.k (.sc (.int .i32 128591)))), (2, 1, (.k (.sc (.int .i32 2))))], none⟩,
  ⟨(some 29), .build [.int .i32 0, .int .i32 0, .int .i32 0] [(0, 1, (.k (.sc (.int .i32 129280)))), (1, 1, (.k (.sc (.int .i32 129535)))), (2, 1, (.k (.sc (.int .i32 2))))], none⟩,
  ⟨(some 30), .build [.int .i32 0, .int .i32 0, .int .i32 0] [(0, 1, (.k (.sc (.int .i32 131072)))), (1, 1, (.k (.sc (.int .i32 262141)))), (2, 1, (.k (.sc (.int .i32 2))))], none⟩,
  ⟨(some 31), .buildSlice 22 3 26 [.int .i32 0, .int .i32 0, .int .i32 0] [(0, 3, (.t 5)), (3, 3, (.t 6)), (6, 3, (.t 7)), (9, 3, (.t 8)), (12, 3, (.t 9)), (15, 3, (.t 10)), (18, 3, (.t 11)), (21, 3, (.t 12)), (24, 3, (.t 13)), (27, 3, (.t 14)), (30, 3, (.t 15)), (33, 3, (.t 16)), (36, 3, (.t 17)), (39, 3, (.t 18)), (42, 3, (.t 19)), (45, 3, (.t 20)), (48, 3, (.t 21)), (51, 3, (.t 22)), (54, 3, (.t 23)), (57, 3, (.t 24)), (60, 3, (.t 25)), (63, 3, (.t 26)), (66, 3, (.t 27)), (69, 3, (.t 28)), (72, 3, (.t 29)), (75, 3, (.t 30))], none⟩,
  ⟨(some 3), .move (.t 31), none⟩]
def m10_r2 : List MI := [
  ⟨(some 4), .move (.k (.sc (.int .i64 0))), none⟩]
def m10_r4 : List MI := [
  ⟨(some 32), .move (.t 4), none⟩,
  ⟨(some 33), .move (.t 3), none⟩,
  ⟨(some 34), .lenSlice (.t 33), none⟩,
  ⟨(some 35), .bin .lss .no (.t 32) (.t 34), none⟩]
def m10_r5 : List MI := [
  ⟨(some 38), .move (.t 0), none⟩,
  ⟨(some 39), .move (.t 3), none⟩,
  ⟨(some 40), .move (.t 4), none⟩,
  ⟨(some 41), .indexSlice 3 (.t 39) (.t 40), none⟩,
  ⟨(some 42), .indexArr 3 1 (.t 41) (.k (.sc (.int .i64 0))), none⟩,
  ⟨(some 43), .load none (.t 42), none⟩,
  ⟨(some 44), .bin .geq .no (.t 38) (.t 43), none⟩,
  ⟨(some 45), .move (.t 44), none⟩,
  ⟨(some 46), .move (.t 0), (some (45, true))⟩,
  ⟨(some 47), .move (.t 3), (some (45, true))⟩,
  ⟨(some 48), .move (.t 4), (some (45, true))⟩,
  ⟨(some 49), .indexSlice 3 (.t 47) (.t 48), (some (45, true))⟩,
  ⟨(some 50), .indexArr 3 1 (.t 49) (.k (.sc (.int .i64 1))), (some (45, true))⟩,
  ⟨(some 51), .load none (.t 50), (some (45, true))⟩,
  ⟨(some 52), .bin .leq .no (.t 46) (.t 51), (some (45, true))⟩,
  ⟨(some 53), .pick (.t 45) (.t 52) (.k (.sc (.bool false))), none⟩]
def m10_r6 : List MI := [
  ⟨(some 54), .move (.t 3), none⟩,
  ⟨(some 55), .move (.t 4), none⟩,
  ⟨(some 56), .indexSlice 3 (.t 54) (.t 55), none⟩,
  ⟨(some 57), .indexArr 3 1 (.t 56) (.k (.sc (.int .i64 2))), none⟩,
  ⟨(some 58), .load none (.t 57), none⟩,
  ⟨(some 59), .conv (.int .i64) (.t 58), none⟩,
  ⟨(some 2), .move (.t 59), none⟩]
def m10_r7 : List MI := [
  ⟨(some 36), .move (.t 4), none⟩,
  ⟨(some 37), .bin .add .no (.t 36) (.k (.sc (.int .i64 1))), none⟩,
  ⟨(some 4), .move (.t 37), none⟩]
def m10_l3 : MCode := (.seq (.seq (.ops m10_r4) (.cond (.t 35) .skip (.exit 0))) (.seq (.block 1 (.seq (.ops m10_r5) (.cond (.t 53) (.seq (.ops m10_r6) .ret) .skip))) (.ops m10_r7)))
def m10_r8 : List MI := [
  ⟨(some 2), .move (.k (.sc (.int .i64 1))), none⟩]
def m10_code : MCode := (.seq (.ops m10_r0) (.seq (.ops m10_r1) (.seq (.seq (.ops m10_r2) (.block 0 (.loop m10_l3))) (.seq (.ops m10_r8) .ret))))
def m10 : MFunc := ⟨60, [.tmp 2], m10_code⟩

def m11_r0 : List MI := [
  ⟨(some 4), .move (.k (.sc (.int .i64 0))), none⟩,
  ⟨(some 5), .move (.k (.sc (.int .i64 0))), none⟩]
def m11_r1 : List MI := [
  ⟨(some 7), .move (.t 1), none⟩,
  ⟨(some 8), .bin .lss .no (.t 7) (.k (.sc (.int .i64 0))), none⟩]
def m11_r2 : List MI := [
  ⟨(some 4), .move (.k (.sc (.int .i64 0))), none⟩,
  ⟨(some 5), .move (.k (.sc (.int .i64 0))), none⟩]
def m11_r3 : List MI := [
  ⟨(some 6), .move (.k (.sc (.int .i64 0))), none⟩]
def m11_r5 : List MI := [
  ⟨(some 9), .move (.t 6), none⟩,
  ⟨(some 10), .move (.t 0), none⟩,
  ⟨(some 11), .lenSlice (.t 10), none⟩,
  ⟨(some 12), .bin .lss .no (.t 9) (.t 11), none⟩,
  ⟨(some 13), .move (.t 12), none⟩,
  ⟨(some 14), .move (.t 0), (some (13, true))⟩,
  ⟨(some 15), .move (.t 6), (some (13, true))⟩,
  ⟨(some 16), .bin .add .no (.t 15) (.k (.sc (.int .i64 1))), (some (13, true))⟩,
  ⟨(some 17), .slice 1 (.t 14) none (some (.t 16)), (some (13, true))⟩,
  ⟨(some 18), .call 13 [(.t 17)], (some (13, true))⟩,
  ⟨(some 19), .move (.t 1), (some (13, true))⟩,
  ⟨(some 20), .bin .leq .no (.t 18) (.t 19), (some (13, true))⟩,
  ⟨(some 21), .pick (.t 13) (.t 20) (.k (.sc (.bool false))), none⟩]
def m11_r6 : List MI := [
  ⟨(some 22), .move (.t 6), none⟩,
  ⟨(some 23), .bin .add .no (.t 22) (.k (.sc (.int .i64 1))), none⟩,
  ⟨(some 6), .move (.t 23), none⟩]
def m11_l4 : MCode := (.seq (.seq (.ops m11_r5) (.cond (.t 21) .skip (.exit 0))) (.block 1 (.ops m11_r6)))
def m11_r7 : List MI := [
  ⟨(some 24), .move (.t 6), none⟩,
  ⟨(some 25), .move (.t 1), none⟩,
  ⟨(some 26), .move (.t 0), none⟩,
  ⟨(some 27), .move (.t 6), none⟩,
  ⟨(some 28), .slice 1 (.t 26) none (some (.t 27)), none⟩,
  ⟨(some 29), .call 13 [(.t 28)], none⟩,
  ⟨(some 30), .bin .sub .no (.t 25) (.t 29), none⟩,
  ⟨(some 4), .move (.t 24), none⟩,
  ⟨(some 5), .move (.t 30), none⟩]
def m11_code : MCode := (.seq (.ops m11_r0) (.seq (.seq (.ops m11_r1) (.cond (.t 8) (.seq (.ops m11_r2) .ret) .skip)) (.seq (.ops m11_r3) (.seq (.block 0 (.loop m11_l4)) (.seq (.ops m11_r7) .ret)))))
def m11 : MFunc := ⟨31, [.tmp 4, .tmp 5], m11_code⟩

def m12_r0 : List MI := [
  ⟨(some 2), .move (.k (.sc (.int .i64 0))), none⟩]
def m12_r1 : List MI := [
  ⟨(some 3), .move (.k (.sc (.int .i64 0))), none⟩]
def m12_r2 : List MI := [
  ⟨(some 6), .move (.t 0), none⟩,
  ⟨(some 7), .lenSlice (.t 6), none⟩,
  ⟨(some 8), .move (.k (.sc (.int .i64 0))), none⟩]
def m12_r4 : List MI := [
  ⟨(some 9), .bin .lss .no (.t 8) (.t 7), none⟩]
def m12_r5 : List MI := [
  ⟨(some 10), .indexSlice 1 (.t 6) (.t 8), none⟩,
  ⟨(some 11), .load none (.t 10), none⟩,
  ⟨(some 5), .move (.t 11), none⟩]
def m12_r6 : List MI := [
  ⟨(some 12), .move (.t 3), none⟩,
  ⟨(some 13), .move (.t 5), none⟩,
  ⟨(some 14), .call 7 [(.t 13)], none⟩,
  ⟨(some 15), .bin .add .no (.t 12) (.t 14), none⟩,
  ⟨(some 3), .move (.t 15), none⟩]
def m12_r7 : List MI := [
  ⟨(some 16), .bin .add .no (.t 8) (.k (.sc (.int .i64 1))), none⟩,
  ⟨(some 8), .move (.t 16), none⟩]
def m12_l3 : MCode := (.seq (.ops m12_r4) (.seq (.cond (.t 9) .skip (.exit 0)) (.seq (.block 1 (.seq (.ops m12_r5) (.ops m12_r6))) (.ops m12_r7))))
def m12_r8 : List MI := [
  ⟨(some 17), .move (.t 3), none⟩,
  ⟨(some 2), .move (.t 17), none⟩]
def m12_code : MCode := (.seq (.ops m12_r0) (.seq (.ops m12_r1) (.seq (.seq (.ops m12_r2) (.block 0 (.loop m12_l3))) (.seq (.ops m12_r8) .ret))))
def m12 : MFunc := ⟨18, [.tmp 2], m12_code⟩

def m13_r0 : List MI := [
  ⟨(some 2), .move (.k (.sc (.int .i64 0))), none⟩]
def m13_r1 : List MI := [
  ⟨(some 3), .move (.k (.sc (.int .i64 0))), none⟩]
def m13_r2 : List MI := [
  ⟨(some 4), .move (.k (.sc (.int .i64 0))), none⟩]
def m13_r4 : List MI := [
  ⟨(some 5), .move (.t 4), none⟩,
  ⟨(some 6), .move (.t 0), none⟩,
  ⟨(some 7), .lenSlice (.t 6), none⟩,
  ⟨(some 8), .bin .lss .no (.t 5) (.t 7), none⟩]
def m13_r5 : List MI := [
  ⟨(some 11), .move (.t 3), none⟩,
  ⟨(some 12), .move (.t 0), none⟩,
  ⟨(some 13), .move (.t 4), none⟩,
  ⟨(some 14), .indexSlice 1 (.t 12) (.t 13), none⟩,
  ⟨(some 15), .load none (.t 14), none⟩,
  ⟨(some 16), .call 10 [(.t 15)], none⟩,
  ⟨(some 17), .bin .add .no (.t 11) (.t 16), none⟩,
  ⟨(some 3), .move (.t 17), none⟩]
def m13_r6 : List MI := [
  ⟨(some 9), .move (.t 4), none⟩,
  ⟨(some 10), .bin .add .no (.t 9) (.k (.sc (.int .i64 1))), none⟩,
  ⟨(some 4), .move (.t 10), none⟩]
def m13_l3 : MCode := (.seq (.seq (.ops m13_r4) (.cond (.t 8) .skip (.exit 0))) (.seq (.block 1 (.ops m13_r5)) (.ops m13_r6)))
def m13_r7 : List MI := [
  ⟨(some 18), .move (.t 3), none⟩,
  ⟨(some 2), .move (.t 18), none⟩]
def m13_code : MCode := (.seq (.ops m13_r0) (.seq (.ops m13_r1) (.seq (.seq (.ops m13_r2) (.block 0 (.loop m13_l3))) (.seq (.ops m13_r7) .ret))))
def m13 : MFunc := ⟨19, [.tmp 2], m13_code⟩

def DD0 : Nat → Option MFunc := fun f => match f with
  | 3 => some m3
  | 4 => some m4
  | 5 => some m5
  | 6 => some m6
  | 7 => some m7
  | 8 => some m8
  | 9 => some m9
  | 10 => some m10
  | 11 => some m11
  | 12 => some m12
  | 13 => some m13
  | _ => none
def DD : Nat → Option MFunc := withKnown [9] DD0
theorem c3 : mfun Tryd.prog jxX 3 = some m3 := by kernel_rfl
theorem c4 : mfun Tryd.prog jxX 4 = some m4 := by kernel_rfl
theorem c5 : mfun Tryd.prog jxX 5 = some m5 := by kernel_rfl
theorem c6 : mfun Tryd.prog jxX 6 = some m6 := by kernel_rfl
theorem c7 : mfun Tryd.prog jxX 7 = some m7 := by kernel_rfl
theorem c8 : mfun Tryd.prog jxX 8 = some m8 := by kernel_rfl
theorem c9 : mfun Tryd.prog jxX 9 = some m9 := by kernel_rfl
theorem c10 : mfun Tryd.prog jxX 10 = some m10 := by kernel_rfl
theorem c11 : mfun Tryd.prog jxX 11 = some m11 := by kernel_rfl
theorem c12 : mfun Tryd.prog jxX 12 = some m12 := by kernel_rfl
theorem c13 : mfun Tryd.prog jxX 13 = some m13 := by kernel_rfl
theorem d3 : DD 3 = some m3 := rfl
theorem d4 : DD 4 = some m4 := rfl
theorem d5 : DD 5 = some m5 := rfl
theorem d6 : DD 6 = some m6 := rfl
theorem d7 : DD 7 = some m7 := rfl
theorem d8 : DD 8 = some m8 := rfl
theorem d9 : DD 9 = some knownM := rfl
theorem d10 : DD 10 = some m10 := rfl
theorem d11 : DD 11 = some m11 := rfl
theorem d12 : DD 12 = some m12 := rfl
theorem d13 : DD 13 = some m13 := rfl
theorem DD0_ok (w : World) : FunOk Tryd.prog w jxX DD0 := by
  intro f m h
  refine mfun_ok _ w _ f m ?_
  unfold DD0 at h
  split at h
  · cases h; exact c3
  · cases h; exact c4
  · cases h; exact c5
  · cases h; exact c6
  · cases h; exact c7
  · cases h; exact c8
  · cases h; exact c9
  · cases h; exact c10
  · cases h; exact c11
  · cases h; exact c12
  · cases h; exact c13
  · cases h
end Go.Proofs.YtnimlocppifiiaaDoor
