/- The plain machine's functions of this seat, as a program of mine printed them (Prt.lean), and that they are what compiling gives. -/
import Derived.Test.YtggkbkbhegcbkaaDoorJxKRun
import Derived.Test.YtggkbkbhegcbkaaDoorJxW3
import Derived.Test.YtggkbkbhegcbkaaDoorChecked
namespace Go.Proofs.YtggkbkbhegcbkaaDoor
open Go Go.Jx
def jxX : Exts := exts [9,9,0,0,0,0,0,0,0,0,0,0,0,0,0,0,0,0,0,0,0,0,0,0,0,0,0,0,0,0,0,0,0,0,0,0,0,0,0,0,0,0,0,0,0,0,0,0,0,0,0,0,0,0,0,0,9,9,9,0,9,9,9,0,0,0,0,0,0,2,9,9,9,9,0,0,0,9,9,9,9,9]
def m6_r0 : List MI := [
  ⟨(some 2), .move (.k (.sc (.bool false))), none⟩]
def m6_r1 : List MI := [
  ⟨(some 5), .call 8 [], none⟩,
  ⟨(some 6), .un .not (.t 5), none⟩]
def m6_r2 : List MI := [
  ⟨(some 2), .move (.k (.sc (.bool false))), none⟩]
def m6_r3 : List MI := [
  ⟨(some 7), .move (.t 0), none⟩,
  ⟨(some 8), .lenStr (.t 7), none⟩,
  ⟨(some 9), .bin .gtr .no (.t 8) (.k (.sc (.int .i64 5000))), none⟩]
def m6_r4 : List MI := [
  ⟨(some 2), .move (.k (.sc (.bool true))), none⟩]
def m6_r5 : List MI := [
  ⟨(some 10), .move (.t 0), none⟩,
  ⟨(some 11), .call 17 [(.t 10)], none⟩,
  ⟨(some 3), .move (.t 11), none⟩]
def m6_r6 : List MI := [
  ⟨(some 4), .move (.k (.sc (.int .i64 0))), none⟩]
def m6_r8 : List MI := [
  ⟨(some 12), .move (.t 4), none⟩,
  ⟨(some 13), .move (.t 3), none⟩,
  ⟨(some 14), .lenSlice (.t 13), none⟩,
  ⟨(some 15), .bin .lss .no (.t 12) (.t 14), none⟩]
def m6_r9 : List DI := [
  ⟨⟨(some 18), .move (.t 3), none⟩, 0, [], []⟩,
  ⟨⟨(some 19), .move (.t 4), none⟩, 0, [], []⟩,
  ⟨⟨(some 20), .indexSlice 6 (.t 18) (.t 19), none⟩, 0, [], []⟩,
  ⟨⟨(some 21), .load (some 6) (.t 20), none⟩, 1, [], []⟩,
  ⟨⟨(some 22), .call 9 [(.t 21)], none⟩, 2, [], []⟩,
  ⟨⟨(some 23), .move (.t 3), none⟩, 0, [4], []⟩,
  ⟨⟨(some 24), .move (.t 4), none⟩, 0, [4], []⟩,
  ⟨⟨(some 25), .indexSlice 6 (.t 23) (.t 24), none⟩, 0, [4], []⟩,
  ⟨⟨(some 26), .load (some 6) (.t 25), none⟩, 1, [4], []⟩,
  ⟨⟨(some 27), .call 15 [(.t 26)], none⟩, 2, [], []⟩,
  ⟨⟨(some 28), .bin .neq (.agg [.int .i64, .int .i64, .str]) (.t 22) (.t 27), none⟩, 0, [], []⟩]
def m6_r10 : List MI := [
  ⟨(some 2), .move (.k (.sc (.bool false))), none⟩]
def m6_r11 : List MI := [
  ⟨(some 16), .move (.t 4), none⟩,
  ⟨(some 17), .bin .add .no (.t 16) (.k (.sc (.int .i64 1))), none⟩,
  ⟨(some 4), .move (.t 17), none⟩]
def m6_l7 : MCode := (.seq (.seq (.ops m6_r8) (.cond (.t 15) .skip (.exit 0))) (.seq (.block 1 (.seq (.draw m6_r9) (.cond (.t 28) (.seq (.ops m6_r10) .ret) .skip))) (.ops m6_r11)))
def m6_r12 : List MI := [
  ⟨(some 2), .move (.k (.sc (.bool true))), none⟩]
def m6_code : MCode := (.seq (.ops m6_r0) (.seq (.seq (.ops m6_r1) (.cond (.t 6) (.seq (.ops m6_r2) .ret) .skip)) (.seq (.seq (.ops m6_r3) (.cond (.t 9) (.seq (.ops m6_r4) .ret) .skip)) (.seq (.ops m6_r5) (.seq (.seq (.ops m6_r6) (.block 0 (.loop m6_l7))) (.seq (.ops m6_r12) .ret))))))
def m6 : MFunc := ⟨29, [.tmp 2], m6_code⟩

def m8_r0 : List MI := [
  ⟨(some 0), .move (.k (.sc (.bool false))), none⟩]
def m8_r1 : List MI := [
  ⟨(some 4), .call 13 [(.k (.sc (.str [97, 71, 107, 61])))], none⟩,
  ⟨(some 3), .move (.t 4), none⟩,
  ⟨(some 5), .extract (.t 3) 0, none⟩,
  ⟨(some 6), .extract (.t 3) 1, none⟩,
  ⟨(some 1), .move (.t 5), none⟩,
  ⟨(some 2), .move (.t 6), none⟩]
def m8_r2 : List MI := [
  ⟨(some 7), .buildSlice 3 1 1 [.int .i64 0] [(0, 1, (.k (.sc (.int .i64 5))))], none⟩,
  ⟨(some 8), .buildSlice 26 1 1 [.nils] [(0, 1, (.t 7))], none⟩,
  ⟨(some 9), .call 16 [(.k (.sc (.str []))), (.k (.sc (.int .u8 110))), (.t 8)], none⟩,
  ⟨(some 10), .build [.int .i64 0, .int .i64 0, .str []] [(0, 1, (.k (.sc (.int .i64 6)))), (1, 1, (.k (.sc (.int .i64 3))))], none⟩,
  ⟨(some 11), .bin .eql (.agg [.int .i64, .int .i64, .str]) (.t 9) (.t 10), none⟩,
  ⟨(some 12), .move (.t 11), none⟩,
  ⟨(some 13), .buildSlice 3 1 1 [.int .i64 0] [(0, 1, (.k (.sc (.int .i64 25))))], (some (12, true))⟩,
  ⟨(some 14), .buildSlice 26 1 1 [.nils] [(0, 1, (.t 13))], (some (12, true))⟩,
  ⟨(some 15), .call 16 [(.k (.sc (.str [63]))), (.k (.sc (.int .u8 108))), (.t 14)], (some (12, true))⟩,
  ⟨(some 16), .field 0 none (.t 15), (some (12, true))⟩,
  ⟨(some 17), .bin .eql .no (.t 16) (.k (.sc (.int .i64 1))), (some (12, true))⟩,
  ⟨(some 18), .pick (.t 12) (.t 17) (.k (.sc (.bool false))), none⟩,
  ⟨(some 19), .move (.t 18), none⟩,
  ⟨(some 20), .call 16 [(.k (.sc (.str []))), (.k (.sc (.int .u8 116))), (.k (.sc (.nils)))], (some (19, true))⟩,
  ⟨(some 21), .field 0 none (.t 20), (some (19, true))⟩,
  ⟨(some 22), .bin .eql .no (.t 21) (.k (.sc (.int .i64 7))), (some (19, true))⟩,
  ⟨(some 23), .pick (.t 19) (.t 22) (.k (.sc (.bool false))), none⟩,
  ⟨(some 24), .move (.t 23), none⟩,
  ⟨(some 25), .call 14 [(.k (.sc (.str [48, 59, 97, 7, 98])))], (some (24, true))⟩,
  ⟨(some 26), .build [.int .i64 0, .int .i64 0, .str []] [(0, 1, (.k (.sc (.int .i64 2)))), (2, 1, (.k (.sc (.str [97, 98]))))], (some (24, true))⟩,
  ⟨(some 27), .bin .eql (.agg [.int .i64, .int .i64, .str]) (.t 25) (.t 26), (some (24, true))⟩,
  ⟨(some 28), .pick (.t 24) (.t 27) (.k (.sc (.bool false))), none⟩,
  ⟨(some 29), .move (.t 28), none⟩,
  ⟨(some 30), .call 14 [(.k (.sc (.str [53, 50, 59, 99, 59, 97, 71, 107, 61])))], (some (29, true))⟩,
  ⟨(some 31), .build [.int .i64 0, .int .i64 0, .str []] [(0, 1, (.k (.sc (.int .i64 4)))), (2, 1, (.k (.sc (.str [104, 105]))))], (some (29, true))⟩,
  ⟨(some 32), .bin .eql (.agg [.int .i64, .int .i64, .str]) (.t 30) (.t 31), (some (29, true))⟩,
  ⟨(some 33), .pick (.t 29) (.t 32) (.k (.sc (.bool false))), none⟩,
  ⟨(some 34), .move (.t 33), none⟩,
  ⟨(some 35), .call 11 [(.k (.sc (.str [97, 10, 98])))], (some (34, true))⟩,
  ⟨(some 36), .bin .eql .no (.t 35) (.k (.sc (.str [97, 98]))), (some (34, true))⟩,
  ⟨(some 37), .pick (.t 34) (.t 36) (.k (.sc (.bool false))), none⟩,
  ⟨(some 38), .move (.t 37), none⟩,
  ⟨(some 39), .move (.t 2), (some (38, true))⟩,
  ⟨(some 40), .pick (.t 38) (.t 39) (.k (.sc (.bool false))), none⟩,
  ⟨(some 41), .move (.t 40), none⟩,
  ⟨(some 42), .move (.t 1), (some (41, true))⟩,
  ⟨(some 43), .bin .eql .no (.t 42) (.k (.sc (.str [104, 105]))), (some (41, true))⟩,
  ⟨(some 44), .pick (.t 41) (.t 43) (.k (.sc (.bool false))), none⟩,
  ⟨(some 0), .move (.t 44), none⟩]
def m8_code : MCode := (.seq (.ops m8_r0) (.seq (.ops m8_r1) (.seq (.ops m8_r2) .ret)))
def m8 : MFunc := ⟨45, [.tmp 0], m8_code⟩

def m9_r0 : List MI := [
  ⟨(some 1), .box 24 (.t 0), none⟩,
  ⟨(some 2), .alloc 28 [.int .i64 0, .int .i64 0, .str []], none⟩]
def m9_r1 : List MI := [
  ⟨(some 4), .load (some 6) (.t 1), none⟩,
  ⟨(some 5), .call 20 [(.t 4)], none⟩,
  ⟨(some 3), .move (.t 5), none⟩]
def m9_r2 : List MI := [
  ⟨(some 6), .build [.int .i64 0, .int .i64 0, .str []] [(0, 1, (.k (.sc (.int .i64 1))))], none⟩,
  ⟨none, .store 3 (.t 2) (.t 6), none⟩]
def m9_r3 : List MI := [
  ⟨(some 8), .fieldAddr 0 (.t 1), none⟩,
  ⟨(some 9), .load none (.t 8), none⟩,
  ⟨(some 10), .bin .eql .no (.t 9) (.k (.sc (.int .i64 2))), none⟩,
  ⟨(some 11), .move (.t 10), none⟩,
  ⟨(some 12), .fieldAddr 2 (.t 1), (some (11, true))⟩,
  ⟨(some 13), .load none (.t 12), (some (11, true))⟩,
  ⟨(some 14), .bin .eql .no (.t 13) (.k (.sc (.int .u8 7))), (some (11, true))⟩,
  ⟨(some 15), .pick (.t 11) (.t 14) (.k (.sc (.bool false))), none⟩,
  ⟨(some 7), .move (.t 15), none⟩]
def m9_r4 : List MI := [
  ⟨(some 16), .build [.int .i64 0, .int .i64 0, .str []] [(0, 1, (.k (.sc (.int .i64 3))))], none⟩,
  ⟨none, .store 3 (.t 2) (.t 16), none⟩]
def m9_r5 : List MI := [
  ⟨(some 18), .fieldAddr 0 (.t 1), none⟩,
  ⟨(some 19), .load none (.t 18), none⟩,
  ⟨(some 20), .bin .eql .no (.t 19) (.k (.sc (.int .i64 5))), none⟩,
  ⟨(some 17), .move (.t 20), none⟩]
def m9_r6 : List MI := [
  ⟨(some 21), .fieldAddr 5 (.t 1), none⟩,
  ⟨(some 22), .load none (.t 21), none⟩,
  ⟨(some 23), .call 21 [(.t 22)], none⟩,
  ⟨none, .store 3 (.t 2) (.t 23), none⟩]
def m9_r7 : List MI := [
  ⟨(some 25), .fieldAddr 0 (.t 1), none⟩,
  ⟨(some 26), .load none (.t 25), none⟩,
  ⟨(some 27), .bin .eql .no (.t 26) (.k (.sc (.int .i64 4))), none⟩,
  ⟨(some 28), .move (.t 27), none⟩,
  ⟨(some 29), .load (some 6) (.t 1), (some (28, true))⟩,
  ⟨(some 30), .call 22 [(.t 29)], (some (28, true))⟩,
  ⟨(some 31), .bin .gtr .no (.t 30) (.k (.sc (.int .i64 0))), (some (28, true))⟩,
  ⟨(some 32), .pick (.t 28) (.t 31) (.k (.sc (.bool false))), none⟩,
  ⟨(some 24), .move (.t 32), none⟩]
def m9_r8 : List MI := [
  ⟨(some 33), .load (some 6) (.t 1), none⟩,
  ⟨(some 34), .call 22 [(.t 33)], none⟩,
  ⟨(some 35), .build [.int .i64 0, .int .i64 0, .str []] [(0, 1, (.k (.sc (.int .i64 6)))), (1, 1, (.t 34))], none⟩,
  ⟨none, .store 3 (.t 2) (.t 35), none⟩]
def m9_r9 : List MI := [
  ⟨(some 36), .build [.int .i64 0, .int .i64 0, .str []] [(0, 1, (.k (.sc (.int .i64 7))))], none⟩,
  ⟨none, .store 3 (.t 2) (.t 36), none⟩]
def m9_code : MCode := (.seq (.ops m9_r0) (.seq (.block 0 (.seq (.ops m9_r1) (.cond (.t 3) (.seq (.ops m9_r2) .ret) (.seq (.ops m9_r3) (.cond (.t 7) (.seq (.ops m9_r4) .ret) (.seq (.ops m9_r5) (.cond (.t 17) (.seq (.ops m9_r6) .ret) (.seq (.ops m9_r7) (.cond (.t 24) (.seq (.ops m9_r8) .ret) .skip))))))))) (.seq (.ops m9_r9) .ret)))
def m9 : MFunc := ⟨37, [.cell 2 (some 3)], m9_code⟩

def m10_r0 : List MI := [
  ⟨(some 2), .move (.k (.sc (.nils))), none⟩]
def m10_r1 : List MI := [
  ⟨(some 3), .move (.k (.sc (.nils))), none⟩]
def m10_r2 : List MI := [
  ⟨(some 4), .alloc 49 [.int .i64 0, .int .i64 0, .int .u8 0, .int .u8 0, .int .i32 0], none⟩]
def m10_r3 : List MI := [
  ⟨(some 10), .move (.t 0), none⟩,
  ⟨(some 11), .lenStr (.t 10), none⟩,
  ⟨(some 12), .move (.k (.sc (.int .i64 0))), none⟩]
def m10_r5 : List MI := [
  ⟨(some 13), .bin .lss .no (.t 12) (.t 11), none⟩]
def m10_r6 : List MI := [
  ⟨(some 14), .move (.t 12), none⟩,
  ⟨(some 5), .move (.t 14), none⟩]
def m10_r7 : List MI := [
  ⟨(some 16), .move (.t 0), none⟩,
  ⟨(some 17), .move (.t 5), none⟩,
  ⟨(some 18), .idxStr (.t 16) (.t 17), none⟩,
  ⟨(some 19), .call 23 [(.t 4), (.t 18)], none⟩,
  ⟨(some 15), .move (.t 19), none⟩,
  ⟨(some 20), .extract (.t 15) 0, none⟩,
  ⟨(some 21), .extract (.t 15) 1, none⟩,
  ⟨(some 6), .alloc 50 [.int .i32 0, .int .i32 0], none⟩,
  ⟨none, .store 2 (.t 6) (.t 20), none⟩,
  ⟨(some 7), .move (.t 21), none⟩]
def m10_r8 : List MI := [
  ⟨(some 22), .move (.t 3), none⟩,
  ⟨(some 23), .move (.t 7), none⟩,
  ⟨(some 24), .sliceArr 2 1 (.t 6) none (some (.t 23)), none⟩,
  ⟨(some 25), .append 21 1 4 [.int .i32 0] (.t 22) (.t 24), none⟩,
  ⟨(some 3), .move (.t 25), none⟩]
def m10_r9 : List MI := [
  ⟨(some 26), .bin .add .no (.t 12) (.k (.sc (.int .i64 1))), none⟩,
  ⟨(some 12), .move (.t 26), none⟩]
def m10_l4 : MCode := (.seq (.ops m10_r5) (.seq (.cond (.t 13) .skip (.exit 0)) (.seq (.block 1 (.seq (.ops m10_r6) (.seq (.ops m10_r7) (.ops m10_r8)))) (.ops m10_r9))))
def m10_r10 : List MI := [
  ⟨(some 28), .call 24 [(.t 4)], none⟩,
  ⟨(some 27), .move (.t 28), none⟩,
  ⟨(some 29), .extract (.t 27) 0, none⟩,
  ⟨(some 30), .extract (.t 27) 1, none⟩,
  ⟨(some 8), .move (.t 29), none⟩,
  ⟨(some 9), .move (.t 30), none⟩]
def m10_r11 : List MI := [
  ⟨(some 31), .move (.t 9), none⟩]
def m10_r12 : List MI := [
  ⟨(some 32), .move (.t 3), none⟩,
  ⟨(some 33), .move (.t 8), none⟩,
  ⟨(some 34), .buildSlice 21 1 1 [.int .i32 0] [(0, 1, (.t 33))], none⟩,
  ⟨(some 35), .append 21 1 4 [.int .i32 0] (.t 32) (.t 34), none⟩,
  ⟨(some 3), .move (.t 35), none⟩]
def m10_r13 : List MI := [
  ⟨(some 36), .move (.t 3), none⟩,
  ⟨(some 2), .move (.t 36), none⟩]
def m10_code : MCode := (.seq (.ops m10_r0) (.seq (.ops m10_r1) (.seq (.ops m10_r2) (.seq (.seq (.ops m10_r3) (.block 0 (.loop m10_l4))) (.seq (.seq (.ops m10_r10) (.seq (.ops m10_r11) (.cond (.t 31) (.ops m10_r12) .skip))) (.seq (.ops m10_r13) .ret))))))
def m10 : MFunc := ⟨37, [.tmp 2], m10_code⟩

def m11_r0 : List MI := [
  ⟨(some 2), .move (.k (.sc (.str []))), none⟩]
def m11_r1 : List MI := [
  ⟨(some 4), .move (.t 0), none⟩,
  ⟨(some 5), .call 10 [(.t 4)], none⟩,
  ⟨(some 6), .call 25 [(.t 5), (.k (.sc (.func 26 [])))], none⟩,
  ⟨(some 3), .move (.t 6), none⟩]
def m11_r2 : List MI := [
  ⟨(some 7), .move (.t 3), none⟩,
  ⟨(some 8), .move (.t 3), none⟩,
  ⟨(some 9), .lenSlice (.t 8), none⟩,
  ⟨(some 10), .min [(.t 9), (.k (.sc (.int .i64 32)))], none⟩,
  ⟨(some 11), .slice 1 (.t 7) none (some (.t 10)), none⟩,
  ⟨(some 12), .conv .runesStr (.t 11), none⟩,
  ⟨(some 2), .move (.t 12), none⟩]
def m11_code : MCode := (.seq (.ops m11_r0) (.seq (.ops m11_r1) (.seq (.ops m11_r2) .ret)))
def m11 : MFunc := ⟨13, [.tmp 2], m11_code⟩

def m12_r0 : List MI := [
  ⟨(some 4), .move (.k (.sc (.bool false))), none⟩]
def m12_r1 : List MI := [
  ⟨(some 5), .move (.t 0), none⟩,
  ⟨(some 6), .move (.t 1), none⟩,
  ⟨(some 7), .call 27 [(.t 5), (.t 6)], none⟩,
  ⟨(some 8), .bin .geq .no (.t 7) (.k (.sc (.int .i64 0))), none⟩,
  ⟨(some 4), .move (.t 8), none⟩]
def m12_code : MCode := (.seq (.ops m12_r0) (.seq (.ops m12_r1) .ret))
def m12 : MFunc := ⟨9, [.tmp 4], m12_code⟩

def m13_r0 : List MI := [
  ⟨(some 2), .move (.k (.sc (.str []))), none⟩,
  ⟨(some 3), .move (.k (.sc (.bool false))), none⟩]
def m13_r1 : List MI := [
  ⟨(some 8), .move (.t 0), none⟩,
  ⟨(some 9), .lenStr (.t 8), none⟩,
  ⟨(some 10), .bin .rem .no (.t 9) (.k (.sc (.int .i64 4))), none⟩,
  ⟨(some 11), .bin .neq .no (.t 10) (.k (.sc (.int .i64 0))), none⟩]
def m13_r2 : List MI := [
  ⟨(some 2), .move (.k (.sc (.str []))), none⟩,
  ⟨(some 3), .move (.k (.sc (.bool false))), none⟩]
def m13_r3 : List MI := [
  ⟨(some 4), .move (.k (.sc (.nils))), none⟩]
def m13_r4 : List MI := [
  ⟨(some 5), .move (.k (.sc (.int .i64 0))), none⟩]
def m13_r6 : List MI := [
  ⟨(some 12), .move (.t 5), none⟩,
  ⟨(some 13), .move (.t 0), none⟩,
  ⟨(some 14), .lenStr (.t 13), none⟩,
  ⟨(some 15), .bin .lss .no (.t 12) (.t 14), none⟩]
def m13_r7 : List MI := [
  ⟨(some 19), .move (.t 0), none⟩,
  ⟨(some 20), .move (.t 5), none⟩,
  ⟨(some 21), .move (.t 5), none⟩,
  ⟨(some 22), .bin .add .no (.t 21) (.k (.sc (.int .i64 4))), none⟩,
  ⟨(some 23), .sliceStr (.t 19) (some (.t 20)) (some (.t 22)), none⟩,
  ⟨(some 24), .move (.t 5), none⟩,
  ⟨(some 25), .bin .add .no (.t 24) (.k (.sc (.int .i64 4))), none⟩,
  ⟨(some 26), .move (.t 0), none⟩,
  ⟨(some 27), .lenStr (.t 26), none⟩,
  ⟨(some 28), .bin .eql .no (.t 25) (.t 27), none⟩,
  ⟨(some 29), .call 28 [(.t 23), (.t 28)], none⟩,
  ⟨(some 18), .move (.t 29), none⟩,
  ⟨(some 30), .extract (.t 18) 0, none⟩,
  ⟨(some 31), .extract (.t 18) 1, none⟩,
  ⟨(some 6), .move (.t 30), none⟩,
  ⟨(some 7), .move (.t 31), none⟩]
def m13_r8 : List MI := [
  ⟨(some 32), .move (.t 7), none⟩,
  ⟨(some 33), .un .not (.t 32), none⟩]
def m13_r9 : List MI := [
  ⟨(some 2), .move (.k (.sc (.str []))), none⟩,
  ⟨(some 3), .move (.k (.sc (.bool false))), none⟩]
def m13_r10 : List MI := [
  ⟨(some 34), .move (.t 4), none⟩,
  ⟨(some 35), .move (.t 6), none⟩,
  ⟨(some 36), .append 5 1 1 [.int .u8 0] (.t 34) (.t 35), none⟩,
  ⟨(some 4), .move (.t 36), none⟩]
def m13_r11 : List MI := [
  ⟨(some 16), .move (.t 5), none⟩,
  ⟨(some 17), .bin .add .no (.t 16) (.k (.sc (.int .i64 4))), none⟩,
  ⟨(some 5), .move (.t 17), none⟩]
def m13_l5 : MCode := (.seq (.seq (.ops m13_r6) (.cond (.t 15) .skip (.exit 0))) (.seq (.block 1 (.seq (.ops m13_r7) (.seq (.seq (.ops m13_r8) (.cond (.t 33) (.seq (.ops m13_r9) .ret) .skip)) (.ops m13_r10)))) (.ops m13_r11)))
def m13_r12 : List MI := [
  ⟨(some 37), .move (.t 4), none⟩,
  ⟨(some 38), .conv .bytesStr (.t 37), none⟩,
  ⟨(some 2), .move (.t 38), none⟩,
  ⟨(some 3), .move (.k (.sc (.bool true))), none⟩]
def m13_code : MCode := (.seq (.ops m13_r0) (.seq (.seq (.ops m13_r1) (.cond (.t 11) (.seq (.ops m13_r2) .ret) .skip)) (.seq (.ops m13_r3) (.seq (.seq (.ops m13_r4) (.block 0 (.loop m13_l5))) (.seq (.ops m13_r12) .ret)))))
def m13 : MFunc := ⟨39, [.tmp 2, .tmp 3], m13_code⟩

def m14_r0 : List MI := [
  ⟨(some 2), .alloc 28 [.int .i64 0, .int .i64 0, .str []], none⟩]
def m14_r1 : List MI := [
  ⟨(some 3), .move (.t 0), none⟩,
  ⟨(some 4), .build [.int .i64 0, .int .i32 0, .int .u8 0, .str [], .nils, .str []] [(0, 1, (.k (.sc (.int .i64 5)))), (5, 1, (.t 3))], none⟩,
  ⟨(some 5), .call 9 [(.t 4)], none⟩,
  ⟨none, .store 3 (.t 2) (.t 5), none⟩]
def m14_code : MCode := (.seq (.ops m14_r0) (.seq (.ops m14_r1) .ret))
def m14 : MFunc := ⟨6, [.cell 2 (some 3)], m14_code⟩

def m15_r0 : List MI := [
  ⟨(some 1), .box 42 (.t 0), none⟩,
  ⟨(some 2), .alloc 40 [.int .i64 0, .int .i64 0, .str []], none⟩]
def m15_r1 : List MI := [
  ⟨(some 3), .fieldAddr 0 (.t 1), none⟩,
  ⟨(some 4), .load none (.t 3), none⟩]
def m15_r2 : List MI := [
  ⟨(some 6), .bin .eql .no (.t 4) (.k (.sc (.int .i64 1))), none⟩,
  ⟨(some 5), .move (.t 6), none⟩]
def m15_r3 : List MI := [
  ⟨(some 7), .build [.int .i64 0, .int .i64 0, .str []] [(0, 1, (.k (.sc (.int .i64 1))))], none⟩,
  ⟨none, .store 3 (.t 2) (.t 7), none⟩]
def m15_r4 : List MI := [
  ⟨(some 9), .bin .eql .no (.t 4) (.k (.sc (.int .i64 2))), none⟩,
  ⟨(some 8), .move (.t 9), none⟩]
def m15_r5 : List MI := [
  ⟨(some 10), .fieldAddr 2 (.t 1), none⟩,
  ⟨(some 11), .load none (.t 10), none⟩,
  ⟨(some 12), .bin .eql .no (.t 11) (.k (.sc (.int .u8 7))), none⟩]
def m15_r6 : List MI := [
  ⟨(some 13), .build [.int .i64 0, .int .i64 0, .str []] [(0, 1, (.k (.sc (.int .i64 3))))], none⟩,
  ⟨none, .store 3 (.t 2) (.t 13), none⟩]
def m15_r7 : List MI := [
  ⟨(some 14), .fieldAddr 2 (.t 1), none⟩,
  ⟨(some 15), .load none (.t 14), none⟩,
  ⟨(some 16), .bin .geq .no (.t 15) (.k (.sc (.int .u8 8))), none⟩,
  ⟨(some 17), .move (.t 16), none⟩,
  ⟨(some 18), .fieldAddr 2 (.t 1), (some (17, true))⟩,
  ⟨(some 19), .load none (.t 18), (some (17, true))⟩,
  ⟨(some 20), .bin .leq .no (.t 19) (.k (.sc (.int .u8 13))), (some (17, true))⟩,
  ⟨(some 21), .pick (.t 17) (.t 20) (.k (.sc (.bool false))), none⟩]
def m15_r8 : List MI := [
  ⟨(some 22), .build [.int .i64 0, .int .i64 0, .str []] [(0, 1, (.k (.sc (.int .i64 1))))], none⟩,
  ⟨none, .store 3 (.t 2) (.t 22), none⟩]
def m15_r9 : List MI := [
  ⟨(some 24), .bin .eql .no (.t 4) (.k (.sc (.int .i64 3))), none⟩,
  ⟨(some 23), .move (.t 24), none⟩]
def m15_r10 : List MI := [
  ⟨(some 25), .fieldAddr 3 (.t 1), none⟩,
  ⟨(some 26), .load none (.t 25), none⟩,
  ⟨(some 27), .bin .eql .no (.t 26) (.k (.sc (.str []))), none⟩,
  ⟨(some 28), .move (.t 27), none⟩,
  ⟨(some 29), .fieldAddr 2 (.t 1), (some (28, true))⟩,
  ⟨(some 30), .load none (.t 29), (some (28, true))⟩,
  ⟨(some 31), .call 29 [(.t 30), (.k (.sc (.str [55, 56, 68, 69, 72, 77, 99])))], (some (28, true))⟩,
  ⟨(some 32), .pick (.t 28) (.t 31) (.k (.sc (.bool false))), none⟩,
  ⟨(some 33), .move (.t 32), none⟩,
  ⟨(some 34), .fieldAddr 3 (.t 1), (some (33, false))⟩,
  ⟨(some 35), .load none (.t 34), (some (33, false))⟩,
  ⟨(some 36), .bin .eql .no (.t 35) (.k (.sc (.str [35]))), (some (33, false))⟩,
  ⟨(some 37), .move (.t 36), (some (33, false))⟩,
  ⟨(some 38), .fieldAddr 2 (.t 1), (some (37, true))⟩,
  ⟨(some 39), .load none (.t 38), (some (37, true))⟩,
  ⟨(some 40), .bin .eql .no (.t 39) (.k (.sc (.int .u8 56))), (some (37, true))⟩,
  ⟨(some 41), .pick (.t 37) (.t 40) (.k (.sc (.bool false))), (some (33, false))⟩,
  ⟨(some 42), .pick (.t 33) (.k (.sc (.bool true))) (.t 41), none⟩]
def m15_r11 : List MI := [
  ⟨(some 43), .build [.int .i64 0, .int .i64 0, .str []] [(0, 1, (.k (.sc (.int .i64 1))))], none⟩,
  ⟨none, .store 3 (.t 2) (.t 43), none⟩]
def m15_r12 : List MI := [
  ⟨(some 45), .bin .eql .no (.t 4) (.k (.sc (.int .i64 4))), none⟩,
  ⟨(some 44), .move (.t 45), none⟩]
def m15_r13 : List MI := [
  ⟨(some 46), .load (some 6) (.t 1), none⟩,
  ⟨(some 47), .call 30 [(.t 46)], none⟩,
  ⟨none, .store 3 (.t 2) (.t 47), none⟩]
def m15_r14 : List MI := [
  ⟨(some 49), .bin .eql .no (.t 4) (.k (.sc (.int .i64 5))), none⟩,
  ⟨(some 48), .move (.t 49), none⟩]
def m15_r15 : List MI := [
  ⟨(some 50), .fieldAddr 5 (.t 1), none⟩,
  ⟨(some 51), .load none (.t 50), none⟩,
  ⟨(some 52), .call 31 [(.t 51)], none⟩,
  ⟨none, .store 3 (.t 2) (.t 52), none⟩]
def m15_r16 : List MI := [
  ⟨(some 53), .build [.int .i64 0, .int .i64 0, .str []] [(0, 1, (.k (.sc (.int .i64 7))))], none⟩,
  ⟨none, .store 3 (.t 2) (.t 53), none⟩]
def m15_code : MCode := (.seq (.ops m15_r0) (.seq (.seq (.ops m15_r1) (.block 0 (.seq (.ops m15_r2) (.cond (.t 5) (.seq (.ops m15_r3) .ret) (.seq (.ops m15_r4) (.cond (.t 8) (.seq (.seq (.ops m15_r5) (.cond (.t 12) (.seq (.ops m15_r6) .ret) .skip)) (.seq (.ops m15_r7) (.cond (.t 21) (.seq (.ops m15_r8) .ret) .skip))) (.seq (.ops m15_r9) (.cond (.t 23) (.seq (.ops m15_r10) (.cond (.t 42) (.seq (.ops m15_r11) .ret) .skip)) (.seq (.ops m15_r12) (.cond (.t 44) (.seq (.ops m15_r13) .ret) (.seq (.ops m15_r14) (.cond (.t 48) (.seq (.ops m15_r15) .ret) .skip)))))))))))) (.seq (.ops m15_r16) .ret)))
def m15 : MFunc := ⟨54, [.cell 2 (some 3)], m15_code⟩

def m16_r0 : List MI := [
  ⟨(some 6), .alloc 28 [.int .i64 0, .int .i64 0, .str []], none⟩]
def m16_r1 : List MI := [
  ⟨(some 7), .move (.t 0), none⟩,
  ⟨(some 8), .move (.t 1), none⟩,
  ⟨(some 9), .move (.t 2), none⟩,
  ⟨(some 10), .build [.int .i64 0, .int .i32 0, .int .u8 0, .str [], .nils, .str []] [(0, 1, (.k (.sc (.int .i64 4)))), (3, 1, (.t 7)), (2, 1, (.t 8)), (4, 1, (.t 9))], none⟩,
  ⟨(some 11), .call 9 [(.t 10)], none⟩,
  ⟨none, .store 3 (.t 6) (.t 11), none⟩]
def m16_code : MCode := (.seq (.ops m16_r0) (.seq (.ops m16_r1) .ret))
def m16 : MFunc := ⟨12, [.cell 6 (some 3)], m16_code⟩

def m17_r0 : List MI := [
  ⟨(some 2), .move (.k (.sc (.nils))), none⟩]
def m17_r1 : List MI := [
  ⟨(some 5), .build [.int .i64 0, .str [], .str [], .str [], .int .u8 0, .str [], .nils] [], none⟩,
  ⟨(some 6), .box 66 (.t 5), none⟩,
  ⟨(some 3), .move (.t 6), none⟩]
def m17_r2 : List MI := [
  ⟨(some 4), .move (.k (.sc (.int .i64 0))), none⟩]
def m17_r4 : List MI := [
  ⟨(some 7), .move (.t 4), none⟩,
  ⟨(some 8), .move (.t 0), none⟩,
  ⟨(some 9), .lenStr (.t 8), none⟩,
  ⟨(some 10), .bin .lss .no (.t 7) (.t 9), none⟩]
def m17_r5 : List MI := [
  ⟨(some 13), .move (.t 3), none⟩,
  ⟨(some 14), .move (.t 0), none⟩,
  ⟨(some 15), .move (.t 4), none⟩,
  ⟨(some 16), .idxStr (.t 14) (.t 15), none⟩,
  ⟨(some 17), .call 32 [(.t 13), (.t 16)], none⟩]
def m17_r6 : List MI := [
  ⟨(some 11), .move (.t 4), none⟩,
  ⟨(some 12), .bin .add .no (.t 11) (.k (.sc (.int .i64 1))), none⟩,
  ⟨(some 4), .move (.t 12), none⟩]
def m17_l3 : MCode := (.seq (.seq (.ops m17_r4) (.cond (.t 10) .skip (.exit 0))) (.seq (.block 1 (.ops m17_r5)) (.ops m17_r6)))
def m17_r7 : List MI := [
  ⟨(some 18), .move (.t 3), none⟩,
  ⟨(some 19), .call 33 [(.t 18)], none⟩]
def m17_r8 : List MI := [
  ⟨(some 20), .move (.t 3), none⟩,
  ⟨(some 21), .nilCheck (.t 20), none⟩,
  ⟨(some 22), .fieldAddr 6 (.t 21), none⟩,
  ⟨(some 23), .load none (.t 22), none⟩,
  ⟨(some 2), .move (.t 23), none⟩]
def m17_code : MCode := (.seq (.ops m17_r0) (.seq (.ops m17_r1) (.seq (.seq (.ops m17_r2) (.block 0 (.loop m17_l3))) (.seq (.ops m17_r7) (.seq (.ops m17_r8) .ret)))))
def m17 : MFunc := ⟨24, [.tmp 2], m17_code⟩

def m18_r0 : List MI := [
  ⟨(some 2), .move (.k (.sc (.str []))), none⟩,
  ⟨(some 3), .move (.k (.sc (.bool false))), none⟩]
def m18_r1 : List MI := [
  ⟨(some 14), .move (.t 0), none⟩,
  ⟨(some 15), .lenStr (.t 14), none⟩,
  ⟨(some 16), .bin .rem .no (.t 15) (.k (.sc (.int .i64 4))), none⟩,
  ⟨(some 17), .bin .neq .no (.t 16) (.k (.sc (.int .i64 0))), none⟩]
def m18_r2 : List MI := [
  ⟨(some 2), .move (.k (.sc (.str []))), none⟩,
  ⟨(some 3), .move (.k (.sc (.bool false))), none⟩]
def m18_r3 : List MI := [
  ⟨(some 18), .move (.t 0), none⟩,
  ⟨(some 19), .lenStr (.t 18), none⟩,
  ⟨(some 4), .move (.t 19), none⟩]
def m18_r4 : List MI := [
  ⟨(some 5), .move (.k (.sc (.int .i64 0))), none⟩]
def m18_r6 : List MI := [
  ⟨(some 20), .move (.t 5), none⟩,
  ⟨(some 21), .bin .lss .no (.t 20) (.k (.sc (.int .i64 2))), none⟩,
  ⟨(some 22), .move (.t 21), none⟩,
  ⟨(some 23), .move (.t 4), (some (22, true))⟩,
  ⟨(some 24), .bin .gtr .no (.t 23) (.k (.sc (.int .i64 0))), (some (22, true))⟩,
  ⟨(some 25), .pick (.t 22) (.t 24) (.k (.sc (.bool false))), none⟩,
  ⟨(some 26), .move (.t 25), none⟩,
  ⟨(some 27), .move (.t 0), (some (26, true))⟩,
  ⟨(some 28), .move (.t 4), (some (26, true))⟩,
  ⟨(some 29), .bin .sub .no (.t 28) (.k (.sc (.int .i64 1))), (some (26, true))⟩,
  ⟨(some 30), .idxStr (.t 27) (.t 29), (some (26, true))⟩,
  ⟨(some 31), .bin .eql .no (.t 30) (.k (.sc (.int .u8 61))), (some (26, true))⟩,
  ⟨(some 32), .pick (.t 26) (.t 31) (.k (.sc (.bool false))), none⟩]
def m18_r7 : List MI := [
  ⟨(some 35), .move (.t 4), none⟩,
  ⟨(some 36), .bin .sub .no (.t 35) (.k (.sc (.int .i64 1))), none⟩,
  ⟨(some 4), .move (.t 36), none⟩]
def m18_r8 : List MI := [
  ⟨(some 33), .move (.t 5), none⟩,
  ⟨(some 34), .bin .add .no (.t 33) (.k (.sc (.int .i64 1))), none⟩,
  ⟨(some 5), .move (.t 34), none⟩]
def m18_l5 : MCode := (.seq (.seq (.ops m18_r6) (.cond (.t 32) .skip (.exit 0))) (.seq (.block 1 (.ops m18_r7)) (.ops m18_r8)))
def m18_r9 : List MI := [
  ⟨(some 6), .move (.k (.sc (.nils))), none⟩]
def m18_r10 : List MI := [
  ⟨(some 7), .move (.k (.sc (.int .i64 0))), none⟩]
def m18_r12 : List MI := [
  ⟨(some 37), .move (.t 7), none⟩,
  ⟨(some 38), .move (.t 4), none⟩,
  ⟨(some 39), .bin .lss .no (.t 37) (.t 38), none⟩]
def m18_r13 : List MI := [
  ⟨(some 42), .move (.t 0), none⟩,
  ⟨(some 43), .move (.t 7), none⟩,
  ⟨(some 44), .idxStr (.t 42) (.t 43), none⟩,
  ⟨(some 45), .call 34 [(.t 44)], none⟩,
  ⟨(some 8), .move (.t 45), none⟩]
def m18_r14 : List MI := [
  ⟨(some 46), .move (.t 8), none⟩,
  ⟨(some 47), .bin .lss .no (.t 46) (.k (.sc (.int .i64 0))), none⟩]
def m18_r15 : List MI := [
  ⟨(some 2), .move (.k (.sc (.str []))), none⟩,
  ⟨(some 3), .move (.k (.sc (.bool false))), none⟩]
def m18_r16 : List MI := [
  ⟨(some 9), .move (.k (.sc (.int .i64 32))), none⟩]
def m18_r18 : List MI := [
  ⟨(some 48), .move (.t 9), none⟩,
  ⟨(some 49), .bin .gtr .no (.t 48) (.k (.sc (.int .i64 0))), none⟩]
def m18_r19 : List MI := [
  ⟨(some 52), .move (.t 6), none⟩,
  ⟨(some 53), .move (.t 8), none⟩,
  ⟨(some 54), .move (.t 9), none⟩,
  ⟨(some 55), .bin .quo .no (.t 53) (.t 54), none⟩,
  ⟨(some 56), .bin .rem .no (.t 55) (.k (.sc (.int .i64 2))), none⟩,
  ⟨(some 57), .buildSlice 3 1 1 [.int .i64 0] [(0, 1, (.t 56))], none⟩,
  ⟨(some 58), .append 3 1 8 [.int .i64 0] (.t 52) (.t 57), none⟩,
  ⟨(some 6), .move (.t 58), none⟩]
def m18_r20 : List MI := [
  ⟨(some 50), .move (.t 9), none⟩,
  ⟨(some 51), .bin .quo .no (.t 50) (.k (.sc (.int .i64 2))), none⟩,
  ⟨(some 9), .move (.t 51), none⟩]
def m18_l17 : MCode := (.seq (.seq (.ops m18_r18) (.cond (.t 49) .skip (.exit 4))) (.seq (.block 5 (.ops m18_r19)) (.ops m18_r20)))
def m18_r21 : List MI := [
  ⟨(some 40), .move (.t 7), none⟩,
  ⟨(some 41), .bin .add .no (.t 40) (.k (.sc (.int .i64 1))), none⟩,
  ⟨(some 7), .move (.t 41), none⟩]
def m18_l11 : MCode := (.seq (.seq (.ops m18_r12) (.cond (.t 39) .skip (.exit 2))) (.seq (.block 3 (.seq (.ops m18_r13) (.seq (.seq (.ops m18_r14) (.cond (.t 47) (.seq (.ops m18_r15) .ret) .skip)) (.seq (.ops m18_r16) (.block 4 (.loop m18_l17)))))) (.ops m18_r21)))
def m18_r22 : List MI := [
  ⟨(some 10), .move (.k (.sc (.nils))), none⟩]
def m18_r24 : List MI := [
  ⟨(some 59), .move (.t 6), none⟩,
  ⟨(some 60), .lenSlice (.t 59), none⟩,
  ⟨(some 61), .bin .geq .no (.t 60) (.k (.sc (.int .i64 8))), none⟩]
def m18_r25 : List MI := [
  ⟨(some 11), .move (.k (.sc (.int .i64 0))), none⟩]
def m18_r26 : List MI := [
  ⟨(some 12), .move (.k (.sc (.int .i64 0))), none⟩]
def m18_r28 : List MI := [
  ⟨(some 62), .move (.t 12), none⟩,
  ⟨(some 63), .bin .lss .no (.t 62) (.k (.sc (.int .i64 8))), none⟩]
def m18_r29 : List MI := [
  ⟨(some 66), .move (.t 11), none⟩,
  ⟨(some 67), .bin .mul .no (.k (.sc (.int .i64 2))) (.t 66), none⟩,
  ⟨(some 68), .move (.t 6), none⟩,
  ⟨(some 69), .move (.t 12), none⟩,
  ⟨(some 70), .indexSlice 1 (.t 68) (.t 69), none⟩,
  ⟨(some 71), .load none (.t 70), none⟩,
  ⟨(some 72), .bin .add .no (.t 67) (.t 71), none⟩,
  ⟨(some 11), .move (.t 72), none⟩]
def m18_r30 : List MI := [
  ⟨(some 64), .move (.t 12), none⟩,
  ⟨(some 65), .bin .add .no (.t 64) (.k (.sc (.int .i64 1))), none⟩,
  ⟨(some 12), .move (.t 65), none⟩]
def m18_l27 : MCode := (.seq (.seq (.ops m18_r28) (.cond (.t 63) .skip (.exit 8))) (.seq (.block 9 (.ops m18_r29)) (.ops m18_r30)))
def m18_r31 : List MI := [
  ⟨(some 73), .move (.t 10), none⟩,
  ⟨(some 74), .move (.t 11), none⟩,
  ⟨(some 75), .conv (.int .u8) (.t 74), none⟩,
  ⟨(some 76), .buildSlice 5 1 1 [.int .u8 0] [(0, 1, (.t 75))], none⟩,
  ⟨(some 77), .append 5 1 1 [.int .u8 0] (.t 73) (.t 76), none⟩,
  ⟨(some 10), .move (.t 77), none⟩]
def m18_r32 : List MI := [
  ⟨(some 78), .move (.t 6), none⟩,
  ⟨(some 79), .slice 1 (.t 78) (some (.k (.sc (.int .i64 8)))) none, none⟩,
  ⟨(some 6), .move (.t 79), none⟩]
def m18_l23 : MCode := (.seq (.seq (.ops m18_r24) (.cond (.t 61) .skip (.exit 6))) (.block 7 (.seq (.ops m18_r25) (.seq (.seq (.ops m18_r26) (.block 8 (.loop m18_l27))) (.seq (.ops m18_r31) (.ops m18_r32))))))
def m18_r33 : List MI := [
  ⟨(some 13), .move (.k (.sc (.int .i64 0))), none⟩]
def m18_r35 : List MI := [
  ⟨(some 80), .move (.t 13), none⟩,
  ⟨(some 81), .move (.t 6), none⟩,
  ⟨(some 82), .lenSlice (.t 81), none⟩,
  ⟨(some 83), .bin .lss .no (.t 80) (.t 82), none⟩]
def m18_r36 : List MI := [
  ⟨(some 86), .move (.t 6), none⟩,
  ⟨(some 87), .move (.t 13), none⟩,
  ⟨(some 88), .indexSlice 1 (.t 86) (.t 87), none⟩,
  ⟨(some 89), .load none (.t 88), none⟩,
  ⟨(some 90), .bin .eql .no (.t 89) (.k (.sc (.int .i64 1))), none⟩]
def m18_r37 : List MI := [
  ⟨(some 2), .move (.k (.sc (.str []))), none⟩,
  ⟨(some 3), .move (.k (.sc (.bool false))), none⟩]
def m18_r38 : List MI := [
  ⟨(some 84), .move (.t 13), none⟩,
  ⟨(some 85), .bin .add .no (.t 84) (.k (.sc (.int .i64 1))), none⟩,
  ⟨(some 13), .move (.t 85), none⟩]
def m18_l34 : MCode := (.seq (.seq (.ops m18_r35) (.cond (.t 83) .skip (.exit 10))) (.seq (.block 11 (.seq (.ops m18_r36) (.cond (.t 90) (.seq (.ops m18_r37) .ret) .skip))) (.ops m18_r38)))
def m18_r39 : List MI := [
  ⟨(some 91), .move (.t 10), none⟩,
  ⟨(some 92), .conv .bytesStr (.t 91), none⟩,
  ⟨(some 2), .move (.t 92), none⟩,
  ⟨(some 3), .move (.k (.sc (.bool true))), none⟩]
def m18_code : MCode := (.seq (.ops m18_r0) (.seq (.seq (.ops m18_r1) (.cond (.t 17) (.seq (.ops m18_r2) .ret) .skip)) (.seq (.ops m18_r3) (.seq (.seq (.ops m18_r4) (.block 0 (.loop m18_l5))) (.seq (.ops m18_r9) (.seq (.seq (.ops m18_r10) (.block 2 (.loop m18_l11))) (.seq (.ops m18_r22) (.seq (.block 6 (.loop m18_l23)) (.seq (.seq (.ops m18_r33) (.block 10 (.loop m18_l34))) (.seq (.ops m18_r39) .ret))))))))))
def m18 : MFunc := ⟨93, [.tmp 2, .tmp 3], m18_code⟩

def m19_r0 : List MI := [
  ⟨(some 2), .move (.k (.sc (.str []))), none⟩]
def m19_r1 : List MI := [
  ⟨(some 3), .move (.k (.sc (.str []))), none⟩]
def m19_r2 : List MI := [
  ⟨(some 4), .move (.k (.sc (.int .i64 0))), none⟩]
def m19_r3 : List MI := [
  ⟨(some 7), .move (.t 0), none⟩,
  ⟨(some 8), .call 35 [(.t 7)], none⟩,
  ⟨(some 5), .move (.t 8), none⟩]
def m19_r4 : List MI := [
  ⟨(some 6), .move (.k (.sc (.int .i64 0))), none⟩]
def m19_r6 : List MI := [
  ⟨(some 9), .move (.t 6), none⟩,
  ⟨(some 10), .move (.t 5), none⟩,
  ⟨(some 11), .lenSlice (.t 10), none⟩,
  ⟨(some 12), .bin .lss .no (.t 9) (.t 11), none⟩]
def m19_r7 : List MI := [
  ⟨(some 15), .move (.t 5), none⟩,
  ⟨(some 16), .move (.t 6), none⟩,
  ⟨(some 17), .indexSlice 1 (.t 15) (.t 16), none⟩,
  ⟨(some 18), .load none (.t 17), none⟩,
  ⟨(some 19), .bin .lss .no (.t 18) (.k (.sc (.int .i32 32))), none⟩,
  ⟨(some 20), .move (.t 19), none⟩,
  ⟨(some 21), .move (.t 5), (some (20, false))⟩,
  ⟨(some 22), .move (.t 6), (some (20, false))⟩,
  ⟨(some 23), .indexSlice 1 (.t 21) (.t 22), (some (20, false))⟩,
  ⟨(some 24), .load none (.t 23), (some (20, false))⟩,
  ⟨(some 25), .bin .gtr .no (.t 24) (.k (.sc (.int .i32 126))), (some (20, false))⟩,
  ⟨(some 26), .move (.t 25), (some (20, false))⟩,
  ⟨(some 27), .move (.t 5), (some (26, true))⟩,
  ⟨(some 28), .move (.t 6), (some (26, true))⟩,
  ⟨(some 29), .indexSlice 1 (.t 27) (.t 28), (some (26, true))⟩,
  ⟨(some 30), .load none (.t 29), (some (26, true))⟩,
  ⟨(some 31), .bin .lss .no (.t 30) (.k (.sc (.int .i32 160))), (some (26, true))⟩,
  ⟨(some 32), .pick (.t 26) (.t 31) (.k (.sc (.bool false))), (some (20, false))⟩,
  ⟨(some 33), .pick (.t 20) (.k (.sc (.bool true))) (.t 32), none⟩,
  ⟨(some 34), .move (.t 33), none⟩,
  ⟨(some 35), .move (.t 4), (some (34, false))⟩,
  ⟨(some 36), .bin .eql .no (.t 35) (.k (.sc (.int .i64 32))), (some (34, false))⟩,
  ⟨(some 37), .pick (.t 34) (.k (.sc (.bool true))) (.t 36), none⟩]
def m19_r8 : List MI := [
  ⟨(some 38), .move (.t 3), none⟩,
  ⟨(some 39), .move (.t 5), none⟩,
  ⟨(some 40), .move (.t 6), none⟩,
  ⟨(some 41), .indexSlice 1 (.t 39) (.t 40), none⟩,
  ⟨(some 42), .load none (.t 41), none⟩,
  ⟨(some 43), .call 36 [(.t 42)], none⟩,
  ⟨(some 44), .bin .add .no (.t 38) (.t 43), none⟩,
  ⟨(some 3), .move (.t 44), none⟩]
def m19_r9 : List MI := [
  ⟨(some 45), .move (.t 4), none⟩,
  ⟨(some 46), .bin .add .no (.t 45) (.k (.sc (.int .i64 1))), none⟩,
  ⟨(some 4), .move (.t 46), none⟩]
def m19_r10 : List MI := [
  ⟨(some 13), .move (.t 6), none⟩,
  ⟨(some 14), .bin .add .no (.t 13) (.k (.sc (.int .i64 1))), none⟩,
  ⟨(some 6), .move (.t 14), none⟩]
def m19_l5 : MCode := (.seq (.seq (.ops m19_r6) (.cond (.t 12) .skip (.exit 0))) (.seq (.block 1 (.seq (.seq (.ops m19_r7) (.cond (.t 37) (.exit 1) .skip)) (.seq (.ops m19_r8) (.ops m19_r9)))) (.ops m19_r10)))
def m19_r11 : List MI := [
  ⟨(some 47), .move (.t 3), none⟩,
  ⟨(some 2), .move (.t 47), none⟩]
def m19_code : MCode := (.seq (.ops m19_r0) (.seq (.ops m19_r1) (.seq (.ops m19_r2) (.seq (.ops m19_r3) (.seq (.seq (.ops m19_r4) (.block 0 (.loop m19_l5))) (.seq (.ops m19_r11) .ret))))))
def m19 : MFunc := ⟨48, [.tmp 2], m19_code⟩

def m20_r0 : List MI := [
  ⟨(some 1), .box 24 (.t 0), none⟩,
  ⟨(some 2), .move (.k (.sc (.bool false))), none⟩]
def m20_r1 : List MI := [
  ⟨(some 3), .fieldAddr 0 (.t 1), none⟩,
  ⟨(some 4), .load none (.t 3), none⟩]
def m20_r2 : List MI := [
  ⟨(some 6), .bin .eql .no (.t 4) (.k (.sc (.int .i64 1))), none⟩,
  ⟨(some 5), .move (.t 6), none⟩]
def m20_r3 : List MI := [
  ⟨(some 2), .move (.k (.sc (.bool true))), none⟩]
def m20_r4 : List MI := [
  ⟨(some 8), .bin .eql .no (.t 4) (.k (.sc (.int .i64 2))), none⟩,
  ⟨(some 7), .move (.t 8), none⟩]
def m20_r5 : List MI := [
  ⟨(some 9), .fieldAddr 2 (.t 1), none⟩,
  ⟨(some 10), .load none (.t 9), none⟩,
  ⟨(some 11), .bin .geq .no (.t 10) (.k (.sc (.int .u8 8))), none⟩,
  ⟨(some 12), .move (.t 11), none⟩,
  ⟨(some 13), .fieldAddr 2 (.t 1), (some (12, true))⟩,
  ⟨(some 14), .load none (.t 13), (some (12, true))⟩,
  ⟨(some 15), .bin .leq .no (.t 14) (.k (.sc (.int .u8 13))), (some (12, true))⟩,
  ⟨(some 16), .pick (.t 12) (.t 15) (.k (.sc (.bool false))), none⟩,
  ⟨(some 2), .move (.t 16), none⟩]
def m20_r6 : List MI := [
  ⟨(some 18), .bin .eql .no (.t 4) (.k (.sc (.int .i64 4))), none⟩,
  ⟨(some 17), .move (.t 18), none⟩]
def m20_r7 : List MI := [
  ⟨(some 19), .load (some 6) (.t 1), none⟩,
  ⟨(some 20), .call 37 [(.t 19)], none⟩,
  ⟨(some 2), .move (.t 20), none⟩]
def m20_r8 : List MI := [
  ⟨(some 21), .fieldAddr 0 (.t 1), none⟩,
  ⟨(some 22), .load none (.t 21), none⟩,
  ⟨(some 23), .bin .eql .no (.t 22) (.k (.sc (.int .i64 3))), none⟩,
  ⟨(some 24), .move (.t 23), none⟩,
  ⟨(some 25), .fieldAddr 3 (.t 1), (some (24, true))⟩,
  ⟨(some 26), .load none (.t 25), (some (24, true))⟩,
  ⟨(some 27), .bin .eql .no (.t 26) (.k (.sc (.str []))), (some (24, true))⟩,
  ⟨(some 28), .move (.t 27), (some (24, true))⟩,
  ⟨(some 29), .fieldAddr 2 (.t 1), (some (28, true))⟩,
  ⟨(some 30), .load none (.t 29), (some (28, true))⟩,
  ⟨(some 31), .call 38 [(.k (.sc (.str [55, 56, 68, 69, 72, 77, 99]))), (.t 30)], (some (28, true))⟩,
  ⟨(some 32), .bin .geq .no (.t 31) (.k (.sc (.int .i64 0))), (some (28, true))⟩,
  ⟨(some 33), .pick (.t 28) (.t 32) (.k (.sc (.bool false))), (some (24, true))⟩,
  ⟨(some 34), .move (.t 33), (some (24, true))⟩,
  ⟨(some 35), .fieldAddr 3 (.t 1), (some (34, false))⟩,
  ⟨(some 36), .load none (.t 35), (some (34, false))⟩,
  ⟨(some 37), .bin .eql .no (.t 36) (.k (.sc (.str [35]))), (some (34, false))⟩,
  ⟨(some 38), .move (.t 37), (some (34, false))⟩,
  ⟨(some 39), .fieldAddr 2 (.t 1), (some (38, true))⟩,
  ⟨(some 40), .load none (.t 39), (some (38, true))⟩,
  ⟨(some 41), .bin .eql .no (.t 40) (.k (.sc (.int .u8 56))), (some (38, true))⟩,
  ⟨(some 42), .pick (.t 38) (.t 41) (.k (.sc (.bool false))), (some (34, false))⟩,
  ⟨(some 43), .pick (.t 34) (.k (.sc (.bool true))) (.t 42), (some (24, true))⟩,
  ⟨(some 44), .pick (.t 24) (.t 43) (.k (.sc (.bool false))), none⟩,
  ⟨(some 2), .move (.t 44), none⟩]
def m20_code : MCode := (.seq (.ops m20_r0) (.seq (.seq (.ops m20_r1) (.block 0 (.seq (.ops m20_r2) (.cond (.t 5) (.seq (.ops m20_r3) .ret) (.seq (.ops m20_r4) (.cond (.t 7) (.seq (.ops m20_r5) .ret) (.seq (.ops m20_r6) (.cond (.t 17) (.seq (.ops m20_r7) .ret) .skip)))))))) (.seq (.ops m20_r8) .ret)))
def m20 : MFunc := ⟨45, [.tmp 2], m20_code⟩

def m21_r0 : List MI := [
  ⟨(some 2), .alloc 28 [.int .i64 0, .int .i64 0, .str []], none⟩]
def m21_r1 : List MI := [
  ⟨(some 12), .move (.t 0), none⟩,
  ⟨(some 13), .call 39 [(.t 12), (.k (.sc (.str [59])))], none⟩,
  ⟨(some 11), .move (.t 13), none⟩,
  ⟨(some 14), .extract (.t 11) 0, none⟩,
  ⟨(some 15), .extract (.t 11) 1, none⟩,
  ⟨(some 16), .extract (.t 11) 2, none⟩,
  ⟨(some 3), .move (.t 14), none⟩,
  ⟨(some 4), .move (.t 15), none⟩,
  ⟨(some 5), .move (.t 16), none⟩]
def m21_r2 : List MI := [
  ⟨(some 17), .move (.t 3), none⟩]
def m21_r3 : List MI := [
  ⟨(some 19), .bin .eql .no (.t 17) (.k (.sc (.str [48]))), none⟩,
  ⟨(some 18), .move (.t 19), none⟩]
def m21_r4 : List MI := [
  ⟨(some 21), .bin .eql .no (.t 17) (.k (.sc (.str [50]))), none⟩,
  ⟨(some 20), .move (.t 21), none⟩]
def m21_r5 : List MI := [
  ⟨(some 23), .bin .eql .no (.t 17) (.k (.sc (.str [53, 50]))), none⟩,
  ⟨(some 22), .move (.t 23), none⟩]
def m21_r6 : List MI := [
  ⟨(some 24), .move (.t 0), none⟩,
  ⟨(some 25), .lenStr (.t 24), none⟩,
  ⟨(some 26), .move (.t 3), none⟩,
  ⟨(some 27), .lenStr (.t 26), none⟩,
  ⟨(some 28), .bin .gtr .no (.t 25) (.t 27), none⟩]
def m21_r7 : List MI := [
  ⟨(some 29), .move (.t 4), none⟩,
  ⟨(some 30), .call 11 [(.t 29)], none⟩,
  ⟨(some 31), .build [.int .i64 0, .int .i64 0, .str []] [(0, 1, (.k (.sc (.int .i64 2)))), (2, 1, (.t 30))], none⟩,
  ⟨none, .store 3 (.t 2) (.t 31), none⟩]
def m21_r8 : List MI := [
  ⟨(some 33), .move (.t 4), none⟩,
  ⟨(some 34), .call 39 [(.t 33), (.k (.sc (.str [59])))], none⟩,
  ⟨(some 32), .move (.t 34), none⟩,
  ⟨(some 35), .extract (.t 32) 0, none⟩,
  ⟨(some 36), .extract (.t 32) 1, none⟩,
  ⟨(some 37), .extract (.t 32) 2, none⟩,
  ⟨(some 6), .move (.t 35), none⟩,
  ⟨(some 7), .move (.t 36), none⟩,
  ⟨(some 8), .move (.t 37), none⟩]
def m21_r9 : List MI := [
  ⟨(some 39), .move (.t 7), none⟩,
  ⟨(some 40), .call 13 [(.t 39)], none⟩,
  ⟨(some 38), .move (.t 40), none⟩,
  ⟨(some 41), .extract (.t 38) 0, none⟩,
  ⟨(some 42), .extract (.t 38) 1, none⟩,
  ⟨(some 9), .move (.t 41), none⟩,
  ⟨(some 10), .move (.t 42), none⟩]
def m21_r10 : List MI := [
  ⟨(some 44), .move (.t 8), none⟩,
  ⟨(some 45), .move (.t 44), none⟩,
  ⟨(some 46), .move (.t 7), (some (45, true))⟩,
  ⟨(some 47), .bin .eql .no (.t 46) (.k (.sc (.str [63]))), (some (45, true))⟩,
  ⟨(some 48), .pick (.t 45) (.t 47) (.k (.sc (.bool false))), none⟩,
  ⟨(some 43), .move (.t 48), none⟩]
def m21_r11 : List MI := [
  ⟨(some 49), .build [.int .i64 0, .int .i64 0, .str []] [(0, 1, (.k (.sc (.int .i64 5))))], none⟩,
  ⟨none, .store 3 (.t 2) (.t 49), none⟩]
def m21_r12 : List MI := [
  ⟨(some 51), .move (.t 8), none⟩,
  ⟨(some 52), .move (.t 51), none⟩,
  ⟨(some 53), .move (.t 10), (some (52, true))⟩,
  ⟨(some 54), .pick (.t 52) (.t 53) (.k (.sc (.bool false))), none⟩,
  ⟨(some 55), .move (.t 54), none⟩,
  ⟨(some 56), .move (.t 9), (some (55, true))⟩,
  ⟨(some 57), .lenStr (.t 56), (some (55, true))⟩,
  ⟨(some 58), .bin .leq .no (.t 57) (.k (.sc (.int .i64 4096))), (some (55, true))⟩,
  ⟨(some 59), .pick (.t 55) (.t 58) (.k (.sc (.bool false))), none⟩,
  ⟨(some 50), .move (.t 59), none⟩]
def m21_r13 : List MI := [
  ⟨(some 60), .move (.t 9), none⟩,
  ⟨(some 61), .build [.int .i64 0, .int .i64 0, .str []] [(0, 1, (.k (.sc (.int .i64 4)))), (2, 1, (.t 60))], none⟩,
  ⟨none, .store 3 (.t 2) (.t 61), none⟩]
def m21_r14 : List MI := [
  ⟨(some 62), .build [.int .i64 0, .int .i64 0, .str []] [(0, 1, (.k (.sc (.int .i64 7))))], none⟩,
  ⟨none, .store 3 (.t 2) (.t 62), none⟩]
def m21_code : MCode := (.seq (.ops m21_r0) (.seq (.ops m21_r1) (.seq (.seq (.ops m21_r2) (.block 0 (.seq (.block 3 (.seq (.block 2 (.block 1 (.seq (.seq (.seq (.ops m21_r3) (.cond (.t 18) (.exit 1) .skip)) (.seq (.seq (.ops m21_r4) (.cond (.t 20) (.exit 2) .skip)) (.seq (.ops m21_r5) (.cond (.t 22) (.exit 3) .skip)))) (.exit 0)))) (.seq (.seq (.ops m21_r6) (.cond (.t 28) (.seq (.ops m21_r7) .ret) .skip)) (.exit 0)))) (.seq (.seq (.ops m21_r8) (.seq (.ops m21_r9) (.block 4 (.seq (.ops m21_r10) (.cond (.t 43) (.seq (.ops m21_r11) .ret) (.seq (.ops m21_r12) (.cond (.t 50) (.seq (.ops m21_r13) .ret) .skip))))))) (.exit 0))))) (.seq (.ops m21_r14) .ret))))
def m21 : MFunc := ⟨63, [.cell 2 (some 3)], m21_code⟩

def m22_r0 : List MI := [
  ⟨(some 1), .box 24 (.t 0), none⟩,
  ⟨(some 2), .move (.k (.sc (.int .i64 0))), none⟩]
def m22_r1 : List MI := [
  ⟨(some 4), .fieldAddr 4 (.t 1), none⟩,
  ⟨(some 5), .load none (.t 4), none⟩,
  ⟨(some 6), .call 40 [(.t 5)], none⟩,
  ⟨(some 3), .move (.t 6), none⟩]
def m22_r2 : List MI := [
  ⟨(some 7), .fieldAddr 3 (.t 1), none⟩,
  ⟨(some 8), .load none (.t 7), none⟩,
  ⟨(some 9), .fieldAddr 2 (.t 1), none⟩,
  ⟨(some 10), .load none (.t 9), none⟩,
  ⟨(some 11), .buildSlice 5 1 1 [.int .u8 0] [(0, 1, (.t 10))], none⟩,
  ⟨(some 12), .conv .bytesStr (.t 11), none⟩,
  ⟨(some 13), .bin .add .no (.t 8) (.t 12), none⟩]
def m22_r3 : List MI := [
  ⟨(some 15), .bin .eql .no (.t 13) (.k (.sc (.str [99]))), none⟩,
  ⟨(some 14), .move (.t 15), none⟩]
def m22_r4 : List MI := [
  ⟨(some 16), .move (.t 3), none⟩,
  ⟨(some 17), .bin .eql .no (.t 16) (.k (.sc (.int .i64 0))), none⟩]
def m22_r5 : List MI := [
  ⟨(some 2), .move (.k (.sc (.int .i64 1))), none⟩]
def m22_r6 : List MI := [
  ⟨(some 19), .bin .eql .no (.t 13) (.k (.sc (.str [62, 99]))), none⟩,
  ⟨(some 18), .move (.t 19), none⟩]
def m22_r7 : List MI := [
  ⟨(some 20), .move (.t 3), none⟩,
  ⟨(some 21), .bin .eql .no (.t 20) (.k (.sc (.int .i64 0))), none⟩]
def m22_r8 : List MI := [
  ⟨(some 2), .move (.k (.sc (.int .i64 2))), none⟩]
def m22_r9 : List MI := [
  ⟨(some 23), .bin .eql .no (.t 13) (.k (.sc (.str [110]))), none⟩,
  ⟨(some 22), .move (.t 23), none⟩]
def m22_r10 : List MI := [
  ⟨(some 24), .move (.t 3), none⟩,
  ⟨(some 25), .bin .eql .no (.t 24) (.k (.sc (.int .i64 5))), none⟩,
  ⟨(some 26), .move (.t 25), none⟩,
  ⟨(some 27), .move (.t 3), (some (26, false))⟩,
  ⟨(some 28), .bin .eql .no (.t 27) (.k (.sc (.int .i64 6))), (some (26, false))⟩,
  ⟨(some 29), .pick (.t 26) (.k (.sc (.bool true))) (.t 28), none⟩]
def m22_r11 : List MI := [
  ⟨(some 30), .move (.t 3), none⟩,
  ⟨(some 31), .bin .sub .no (.t 30) (.k (.sc (.int .i64 2))), none⟩,
  ⟨(some 2), .move (.t 31), none⟩]
def m22_r12 : List MI := [
  ⟨(some 33), .bin .eql .no (.t 13) (.k (.sc (.str [63, 110]))), none⟩,
  ⟨(some 32), .move (.t 33), none⟩]
def m22_r13 : List MI := [
  ⟨(some 34), .move (.t 3), none⟩,
  ⟨(some 35), .bin .eql .no (.t 34) (.k (.sc (.int .i64 6))), none⟩]
def m22_r14 : List MI := [
  ⟨(some 2), .move (.k (.sc (.int .i64 5))), none⟩]
def m22_r15 : List MI := [
  ⟨(some 2), .move (.k (.sc (.int .i64 0))), none⟩]
def m22_code : MCode := (.seq (.ops m22_r0) (.seq (.ops m22_r1) (.seq (.seq (.ops m22_r2) (.block 0 (.seq (.ops m22_r3) (.cond (.t 14) (.seq (.ops m22_r4) (.cond (.t 17) (.seq (.ops m22_r5) .ret) .skip)) (.seq (.ops m22_r6) (.cond (.t 18) (.seq (.ops m22_r7) (.cond (.t 21) (.seq (.ops m22_r8) .ret) .skip)) (.seq (.ops m22_r9) (.cond (.t 22) (.seq (.ops m22_r10) (.cond (.t 29) (.seq (.ops m22_r11) .ret) .skip)) (.seq (.ops m22_r12) (.cond (.t 32) (.seq (.ops m22_r13) (.cond (.t 35) (.seq (.ops m22_r14) .ret) .skip)) .skip)))))))))) (.seq (.ops m22_r15) .ret))))
def m22 : MFunc := ⟨36, [.tmp 2], m22_code⟩

def m23_r0 : List MI := [
  ⟨(some 4), .alloc 50 [.int .i32 0, .int .i32 0], none⟩,
  ⟨(some 5), .move (.k (.sc (.int .i64 0))), none⟩]
def m23_r1 : List MI := [
  ⟨(some 8), .move (.t 0), none⟩,
  ⟨(some 9), .bin .eql .ptr (.t 8) (.k (.sc (.nilp))), none⟩]
def m23_r2 : List MI := [
  ⟨(some 10), .load (some 2) (.t 4), none⟩,
  ⟨none, .store 2 (.t 4) (.t 10), none⟩,
  ⟨(some 5), .move (.k (.sc (.int .i64 0))), none⟩]
def m23_r3 : List MI := [
  ⟨(some 11), .move (.t 0), none⟩,
  ⟨(some 12), .nilCheck (.t 11), none⟩,
  ⟨(some 13), .fieldAddr 0 (.t 12), none⟩,
  ⟨(some 14), .load none (.t 13), none⟩,
  ⟨(some 15), .bin .gtr .no (.t 14) (.k (.sc (.int .i64 0))), none⟩,
  ⟨(some 16), .move (.t 15), none⟩,
  ⟨(some 17), .move (.t 1), (some (16, true))⟩,
  ⟨(some 18), .move (.t 0), (some (16, true))⟩,
  ⟨(some 19), .nilCheck (.t 18), (some (16, true))⟩,
  ⟨(some 20), .fieldAddr 2 (.t 19), (some (16, true))⟩,
  ⟨(some 21), .load none (.t 20), (some (16, true))⟩,
  ⟨(some 22), .bin .geq .no (.t 17) (.t 21), (some (16, true))⟩,
  ⟨(some 23), .pick (.t 16) (.t 22) (.k (.sc (.bool false))), none⟩,
  ⟨(some 24), .move (.t 23), none⟩,
  ⟨(some 25), .move (.t 1), (some (24, true))⟩,
  ⟨(some 26), .move (.t 0), (some (24, true))⟩,
  ⟨(some 27), .nilCheck (.t 26), (some (24, true))⟩,
  ⟨(some 28), .fieldAddr 3 (.t 27), (some (24, true))⟩,
  ⟨(some 29), .load none (.t 28), (some (24, true))⟩,
  ⟨(some 30), .bin .leq .no (.t 25) (.t 29), (some (24, true))⟩,
  ⟨(some 31), .pick (.t 24) (.t 30) (.k (.sc (.bool false))), none⟩]
def m23_r4 : List DI := [
  ⟨⟨(some 32), .move (.t 0), none⟩, 0, [], []⟩,
  ⟨⟨(some 33), .move (.t 0), none⟩, 0, [], []⟩,
  ⟨⟨(some 34), .nilCheck (.t 33), none⟩, 0, [], []⟩,
  ⟨⟨(some 35), .fieldAddr 0 (.t 34), none⟩, 0, [], []⟩,
  ⟨⟨(some 36), .load none (.t 35), none⟩, 1, [], []⟩,
  ⟨⟨(some 37), .bin .add .no (.t 36) (.k (.sc (.int .i64 1))), none⟩, 0, [], []⟩,
  ⟨⟨(some 38), .move (.t 0), none⟩, 0, [], []⟩,
  ⟨⟨(some 39), .nilCheck (.t 38), none⟩, 0, [], []⟩,
  ⟨⟨(some 40), .fieldAddr 1 (.t 39), none⟩, 0, [], []⟩,
  ⟨⟨(some 41), .load none (.t 40), none⟩, 1, [], []⟩,
  ⟨⟨(some 42), .bin .sub .no (.t 41) (.k (.sc (.int .i64 1))), none⟩, 0, [], []⟩,
  ⟨⟨(some 43), .move (.t 0), none⟩, 0, [], []⟩,
  ⟨⟨(some 44), .nilCheck (.t 43), none⟩, 0, [], []⟩,
  ⟨⟨(some 45), .fieldAddr 4 (.t 44), none⟩, 0, [], []⟩,
  ⟨⟨(some 46), .load none (.t 45), none⟩, 1, [], []⟩,
  ⟨⟨(some 47), .bin .shl .no (.t 46) (.k (.sc (.int .u64 6))), none⟩, 0, [], []⟩,
  ⟨⟨(some 48), .move (.t 1), none⟩, 0, [], []⟩,
  ⟨⟨(some 49), .bin .and .no (.t 48) (.k (.sc (.int .u8 63))), none⟩, 0, [], []⟩,
  ⟨⟨(some 50), .conv (.int .i32) (.t 49), none⟩, 0, [], []⟩,
  ⟨⟨(some 51), .bin .or .no (.t 47) (.t 50), none⟩, 0, [], []⟩,
  ⟨⟨(some 52), .build [.int .i64 0, .int .i64 0, .int .u8 0, .int .u8 0, .int .i32 0] [(0, 1, (.t 37)), (1, 1, (.t 42)), (2, 1, (.k (.sc (.int .u8 128)))), (3, 1, (.k (.sc (.int .u8 191)))), (4, 1, (.t 51))], none⟩, 0, [], []⟩,
  ⟨⟨(some 53), .nilCheck (.t 32), none⟩, 0, [], []⟩,
  ⟨⟨none, .store 5 (.t 53) (.t 52), none⟩, 2, [], []⟩]
def m23_r5 : List MI := [
  ⟨(some 54), .move (.t 0), none⟩,
  ⟨(some 55), .nilCheck (.t 54), none⟩,
  ⟨(some 56), .fieldAddr 1 (.t 55), none⟩,
  ⟨(some 57), .load none (.t 56), none⟩,
  ⟨(some 58), .bin .eql .no (.t 57) (.k (.sc (.int .i64 0))), none⟩]
def m23_r6 : List MI := [
  ⟨(some 59), .move (.t 0), none⟩,
  ⟨(some 60), .nilCheck (.t 59), none⟩,
  ⟨(some 61), .fieldAddr 4 (.t 60), none⟩,
  ⟨(some 62), .load none (.t 61), none⟩,
  ⟨(some 63), .indexArr 2 1 (.t 4) (.k (.sc (.int .i64 0))), none⟩,
  ⟨none, .store 1 (.t 63) (.t 62), none⟩,
  ⟨(some 5), .move (.k (.sc (.int .i64 1))), none⟩]
def m23_r7 : List MI := [
  ⟨(some 64), .move (.t 0), none⟩,
  ⟨(some 65), .build [.int .i64 0, .int .i64 0, .int .u8 0, .int .u8 0, .int .i32 0] [], none⟩,
  ⟨(some 66), .nilCheck (.t 64), none⟩,
  ⟨none, .store 5 (.t 66) (.t 65), none⟩]
def m23_r8 : List MI := [
  ⟨(some 67), .load (some 2) (.t 4), none⟩,
  ⟨(some 68), .move (.t 5), none⟩,
  ⟨none, .store 2 (.t 4) (.t 67), none⟩,
  ⟨(some 5), .move (.t 68), none⟩]
def m23_r9 : List MI := [
  ⟨(some 69), .move (.t 0), none⟩,
  ⟨(some 70), .nilCheck (.t 69), none⟩,
  ⟨(some 71), .fieldAddr 0 (.t 70), none⟩,
  ⟨(some 72), .load none (.t 71), none⟩,
  ⟨(some 73), .bin .gtr .no (.t 72) (.k (.sc (.int .i64 0))), none⟩]
def m23_r10 : List MI := [
  ⟨(some 74), .move (.t 0), none⟩,
  ⟨(some 75), .build [.int .i64 0, .int .i64 0, .int .u8 0, .int .u8 0, .int .i32 0] [], none⟩,
  ⟨(some 76), .nilCheck (.t 74), none⟩,
  ⟨none, .store 5 (.t 76) (.t 75), none⟩]
def m23_r11 : List MI := [
  ⟨(some 77), .indexArr 2 1 (.t 4) (.k (.sc (.int .i64 0))), none⟩,
  ⟨none, .store 1 (.t 77) (.k (.sc (.int .i32 65533))), none⟩,
  ⟨(some 5), .move (.k (.sc (.int .i64 1))), none⟩]
def m23_r12 : List MI := [
  ⟨(some 79), .move (.t 0), none⟩,
  ⟨(some 80), .move (.t 1), none⟩,
  ⟨(some 81), .call 41 [(.t 79), (.t 80)], none⟩,
  ⟨(some 78), .move (.t 81), none⟩,
  ⟨(some 82), .extract (.t 78) 0, none⟩,
  ⟨(some 83), .extract (.t 78) 1, none⟩,
  ⟨(some 6), .move (.t 82), none⟩,
  ⟨(some 7), .move (.t 83), none⟩]
def m23_r13 : List MI := [
  ⟨(some 84), .move (.t 7), none⟩]
def m23_r14 : List MI := [
  ⟨(some 85), .move (.t 5), none⟩,
  ⟨(some 86), .move (.t 6), none⟩,
  ⟨(some 87), .indexArr 2 1 (.t 4) (.t 85), none⟩,
  ⟨none, .store 1 (.t 87) (.t 86), none⟩]
def m23_r15 : List MI := [
  ⟨(some 88), .move (.t 5), none⟩,
  ⟨(some 89), .bin .add .no (.t 88) (.k (.sc (.int .i64 1))), none⟩,
  ⟨(some 5), .move (.t 89), none⟩]
def m23_r16 : List MI := [
  ⟨(some 90), .load (some 2) (.t 4), none⟩,
  ⟨(some 91), .move (.t 5), none⟩,
  ⟨none, .store 2 (.t 4) (.t 90), none⟩,
  ⟨(some 5), .move (.t 91), none⟩]
def m23_code : MCode := (.seq (.ops m23_r0) (.seq (.seq (.ops m23_r1) (.cond (.t 9) (.seq (.ops m23_r2) .ret) .skip)) (.seq (.seq (.ops m23_r3) (.cond (.t 31) (.seq (.draw m23_r4) (.seq (.seq (.ops m23_r5) (.cond (.t 58) (.seq (.ops m23_r6) (.ops m23_r7)) .skip)) (.seq (.ops m23_r8) .ret))) .skip)) (.seq (.seq (.ops m23_r9) (.cond (.t 73) (.seq (.ops m23_r10) (.ops m23_r11)) .skip)) (.seq (.seq (.ops m23_r12) (.seq (.ops m23_r13) (.cond (.t 84) (.seq (.ops m23_r14) (.ops m23_r15)) .skip))) (.seq (.ops m23_r16) .ret))))))
def m23 : MFunc := ⟨92, [.cell 4 (some 2), .tmp 5], m23_code⟩

def m24_r0 : List MI := [
  ⟨(some 2), .move (.k (.sc (.int .i32 0))), none⟩,
  ⟨(some 3), .move (.k (.sc (.bool false))), none⟩]
def m24_r1 : List MI := [
  ⟨(some 4), .move (.t 0), none⟩,
  ⟨(some 5), .call 42 [(.t 4)], none⟩,
  ⟨(some 6), .bin .eql .no (.t 5) (.k (.sc (.int .i64 0))), none⟩]
def m24_r2 : List MI := [
  ⟨(some 2), .move (.k (.sc (.int .i32 0))), none⟩,
  ⟨(some 3), .move (.k (.sc (.bool false))), none⟩]
def m24_r3 : List MI := [
  ⟨(some 7), .move (.t 0), none⟩,
  ⟨(some 8), .build [.int .i64 0, .int .i64 0, .int .u8 0, .int .u8 0, .int .i32 0] [], none⟩,
  ⟨(some 9), .nilCheck (.t 7), none⟩,
  ⟨none, .store 5 (.t 9) (.t 8), none⟩]
def m24_r4 : List MI := [
  ⟨(some 2), .move (.k (.sc (.int .i32 65533))), none⟩,
  ⟨(some 3), .move (.k (.sc (.bool true))), none⟩]
def m24_code : MCode := (.seq (.ops m24_r0) (.seq (.seq (.ops m24_r1) (.cond (.t 6) (.seq (.ops m24_r2) .ret) .skip)) (.seq (.ops m24_r3) (.seq (.ops m24_r4) .ret))))
def m24 : MFunc := ⟨10, [.tmp 2, .tmp 3], m24_code⟩

def m25_r0 : List MI := [
  ⟨(some 4), .move (.k (.sc (.nils))), none⟩]
def m25_r1 : List MI := [
  ⟨(some 8), .move (.t 0), none⟩,
  ⟨(some 9), .move (.t 1), none⟩,
  ⟨(some 10), .call 43 [(.t 8), (.t 9)], none⟩,
  ⟨(some 5), .move (.t 10), none⟩]
def m25_r2 : List MI := [
  ⟨(some 11), .move (.t 5), none⟩,
  ⟨(some 12), .bin .eql .no (.t 11) (.k (.sc (.int .i64 (-1)))), none⟩]
def m25_r3 : List MI := [
  ⟨(some 13), .move (.t 0), none⟩,
  ⟨(some 4), .move (.t 13), none⟩]
def m25_r4 : List MI := [
  ⟨(some 14), .move (.t 5), none⟩,
  ⟨(some 15), .bin .add .no (.t 14) (.k (.sc (.int .i64 1))), none⟩,
  ⟨(some 6), .move (.t 15), none⟩]
def m25_r6 : List MI := [
  ⟨(some 16), .move (.t 6), none⟩,
  ⟨(some 17), .move (.t 0), none⟩,
  ⟨(some 18), .lenSlice (.t 17), none⟩,
  ⟨(some 19), .bin .lss .no (.t 16) (.t 18), none⟩]
def m25_r7 : List MI := [
  ⟨(some 22), .move (.t 0), none⟩,
  ⟨(some 23), .move (.t 6), none⟩,
  ⟨(some 24), .indexSlice 1 (.t 22) (.t 23), none⟩,
  ⟨(some 25), .load none (.t 24), none⟩,
  ⟨(some 7), .move (.t 25), none⟩]
def m25_r8 : List MI := [
  ⟨(some 26), .move (.t 1), none⟩,
  ⟨(some 27), .move (.t 7), none⟩,
  ⟨(some 28), .callv (.t 26) [(.t 27)], none⟩,
  ⟨(some 29), .un .not (.t 28), none⟩]
def m25_r9 : List MI := [
  ⟨(some 30), .move (.t 0), none⟩,
  ⟨(some 31), .move (.t 5), none⟩,
  ⟨(some 32), .move (.t 7), none⟩,
  ⟨(some 33), .indexSlice 1 (.t 30) (.t 31), none⟩,
  ⟨none, .store 1 (.t 33) (.t 32), none⟩]
def m25_r10 : List MI := [
  ⟨(some 34), .move (.t 5), none⟩,
  ⟨(some 35), .bin .add .no (.t 34) (.k (.sc (.int .i64 1))), none⟩,
  ⟨(some 5), .move (.t 35), none⟩]
def m25_r11 : List MI := [
  ⟨(some 20), .move (.t 6), none⟩,
  ⟨(some 21), .bin .add .no (.t 20) (.k (.sc (.int .i64 1))), none⟩,
  ⟨(some 6), .move (.t 21), none⟩]
def m25_l5 : MCode := (.seq (.seq (.ops m25_r6) (.cond (.t 19) .skip (.exit 0))) (.seq (.block 1 (.seq (.ops m25_r7) (.seq (.ops m25_r8) (.cond (.t 29) (.seq (.ops m25_r9) (.ops m25_r10)) .skip)))) (.ops m25_r11)))
def m25_r12 : List MI := [
  ⟨(some 36), .move (.t 0), none⟩,
  ⟨(some 37), .move (.t 5), none⟩,
  ⟨(some 38), .slice 1 (.t 36) (some (.t 37)) none, none⟩,
  ⟨none, .clear [.int .i32 0] (.t 38), none⟩]
def m25_r13 : List MI := [
  ⟨(some 39), .move (.t 0), none⟩,
  ⟨(some 40), .move (.t 5), none⟩,
  ⟨(some 41), .slice 1 (.t 39) none (some (.t 40)), none⟩,
  ⟨(some 4), .move (.t 41), none⟩]
def m25_code : MCode := (.seq (.ops m25_r0) (.seq (.ops m25_r1) (.seq (.seq (.ops m25_r2) (.cond (.t 12) (.seq (.ops m25_r3) .ret) .skip)) (.seq (.seq (.ops m25_r4) (.block 0 (.loop m25_l5))) (.seq (.ops m25_r12) (.seq (.ops m25_r13) .ret))))))
def m25 : MFunc := ⟨42, [.tmp 4], m25_code⟩

def m26_r0 : List MI := [
  ⟨(some 2), .move (.k (.sc (.bool false))), none⟩]
def m26_r1 : List MI := [
  ⟨(some 3), .move (.t 0), none⟩,
  ⟨(some 4), .bin .lss .no (.t 3) (.k (.sc (.int .i32 32))), none⟩,
  ⟨(some 5), .move (.t 4), none⟩,
  ⟨(some 6), .move (.t 0), (some (5, false))⟩,
  ⟨(some 7), .bin .geq .no (.t 6) (.k (.sc (.int .i32 127))), (some (5, false))⟩,
  ⟨(some 8), .move (.t 7), (some (5, false))⟩,
  ⟨(some 9), .move (.t 0), (some (8, true))⟩,
  ⟨(some 10), .bin .leq .no (.t 9) (.k (.sc (.int .i32 159))), (some (8, true))⟩,
  ⟨(some 11), .pick (.t 8) (.t 10) (.k (.sc (.bool false))), (some (5, false))⟩,
  ⟨(some 12), .pick (.t 5) (.k (.sc (.bool true))) (.t 11), none⟩,
  ⟨(some 2), .move (.t 12), none⟩]
def m26_code : MCode := (.seq (.ops m26_r0) (.seq (.ops m26_r1) .ret))
def m26 : MFunc := ⟨13, [.tmp 2], m26_code⟩

def m27_r0 : List MI := [
  ⟨(some 4), .move (.k (.sc (.int .i64 0))), none⟩]
def m27_r1 : List MI := [
  ⟨(some 5), .move (.t 0), none⟩,
  ⟨(some 6), .move (.t 1), none⟩,
  ⟨(some 7), .call 44 [(.t 5), (.t 6)], none⟩,
  ⟨(some 4), .move (.t 7), none⟩]
def m27_code : MCode := (.seq (.ops m27_r0) (.seq (.ops m27_r1) .ret))
def m27 : MFunc := ⟨8, [.tmp 4], m27_code⟩

def m28_r0 : List MI := [
  ⟨(some 4), .move (.k (.sc (.nils))), none⟩,
  ⟨(some 5), .move (.k (.sc (.bool false))), none⟩]
def m28_r1 : List MI := [
  ⟨(some 13), .move (.t 0), none⟩,
  ⟨(some 14), .call 45 [(.t 13), (.k (.sc (.str [61])))], none⟩,
  ⟨(some 15), .lenStr (.t 14), none⟩,
  ⟨(some 6), .move (.t 15), none⟩]
def m28_r2 : List MI := [
  ⟨(some 16), .move (.t 6), none⟩,
  ⟨(some 17), .bin .lss .no (.t 16) (.k (.sc (.int .i64 2))), none⟩,
  ⟨(some 18), .move (.t 17), none⟩,
  ⟨(some 19), .move (.t 6), (some (18, false))⟩,
  ⟨(some 20), .bin .lss .no (.t 19) (.k (.sc (.int .i64 4))), (some (18, false))⟩,
  ⟨(some 21), .move (.t 20), (some (18, false))⟩,
  ⟨(some 22), .move (.t 1), (some (21, true))⟩,
  ⟨(some 23), .un .not (.t 22), (some (21, true))⟩,
  ⟨(some 24), .pick (.t 21) (.t 23) (.k (.sc (.bool false))), (some (18, false))⟩,
  ⟨(some 25), .pick (.t 18) (.k (.sc (.bool true))) (.t 24), none⟩]
def m28_r3 : List MI := [
  ⟨(some 4), .move (.k (.sc (.nils))), none⟩,
  ⟨(some 5), .move (.k (.sc (.bool false))), none⟩]
def m28_r4 : List MI := [
  ⟨(some 7), .move (.k (.sc (.int .i64 0))), none⟩]
def m28_r5 : List MI := [
  ⟨(some 26), .move (.k (.sc (.int .i64 0))), none⟩]
def m28_r7 : List MI := [
  ⟨(some 27), .bin .lss .no (.t 26) (.k (.sc (.int .i64 4))), none⟩]
def m28_r8 : List MI := [
  ⟨(some 28), .move (.t 26), none⟩,
  ⟨(some 8), .move (.t 28), none⟩]
def m28_r9 : List MI := [
  ⟨(some 9), .move (.k (.sc (.int .i64 0))), none⟩]
def m28_r10 : List MI := [
  ⟨(some 29), .move (.t 8), none⟩,
  ⟨(some 30), .move (.t 6), none⟩,
  ⟨(some 31), .bin .lss .no (.t 29) (.t 30), none⟩]
def m28_r11 : List MI := [
  ⟨(some 32), .move (.t 0), none⟩,
  ⟨(some 33), .move (.t 8), none⟩,
  ⟨(some 34), .idxStr (.t 32) (.t 33), none⟩,
  ⟨(some 35), .call 38 [(.k (.sc (.str [65, 66, 67, 68, 69, 70, 71, 72, 73, 74, 75, 76, 77, 78, 79, 80, 81, 82, 83, 84, 85, 86, 87, 88, 89, 90, 97, 98, 99, 100, 101, 102, 103, 104, 105, 106, 107, 108, 109, 110, 111, 112, 113, 114, 115, 116, 117, 118, 119, 120, 121, 122, 48, 49, 50, 51, 52, 53, 54, 55, 56, 57, 43, 47]))), (.t 34)], none⟩,
  ⟨(some 9), .move (.t 35), none⟩]
def m28_r12 : List MI := [
  ⟨(some 36), .move (.t 9), none⟩,
  ⟨(some 37), .bin .lss .no (.t 36) (.k (.sc (.int .i64 0))), none⟩]
def m28_r13 : List MI := [
  ⟨(some 4), .move (.k (.sc (.nils))), none⟩,
  ⟨(some 5), .move (.k (.sc (.bool false))), none⟩]
def m28_r14 : List MI := [
  ⟨(some 38), .move (.t 7), none⟩,
  ⟨(some 39), .bin .shl .no (.t 38) (.k (.sc (.int .u64 6))), none⟩,
  ⟨(some 40), .move (.t 9), none⟩,
  ⟨(some 41), .bin .or .no (.t 39) (.t 40), none⟩,
  ⟨(some 7), .move (.t 41), none⟩]
def m28_r15 : List MI := [
  ⟨(some 42), .bin .add .no (.t 26) (.k (.sc (.int .i64 1))), none⟩,
  ⟨(some 26), .move (.t 42), none⟩]
def m28_l6 : MCode := (.seq (.ops m28_r7) (.seq (.cond (.t 27) .skip (.exit 0)) (.seq (.block 1 (.seq (.ops m28_r8) (.seq (.ops m28_r9) (.seq (.seq (.ops m28_r10) (.cond (.t 31) (.ops m28_r11) .skip)) (.seq (.seq (.ops m28_r12) (.cond (.t 37) (.seq (.ops m28_r13) .ret) .skip)) (.ops m28_r14)))))) (.ops m28_r15))))
def m28_r16 : List MI := [
  ⟨(some 43), .move (.t 7), none⟩,
  ⟨(some 44), .bin .shr .no (.t 43) (.k (.sc (.int .u64 16))), none⟩,
  ⟨(some 45), .conv (.int .u8) (.t 44), none⟩,
  ⟨(some 46), .move (.t 7), none⟩,
  ⟨(some 47), .bin .shr .no (.t 46) (.k (.sc (.int .u64 8))), none⟩,
  ⟨(some 48), .conv (.int .u8) (.t 47), none⟩,
  ⟨(some 49), .move (.t 7), none⟩,
  ⟨(some 50), .conv (.int .u8) (.t 49), none⟩,
  ⟨(some 51), .buildSlice 5 1 3 [.int .u8 0] [(0, 1, (.t 45)), (1, 1, (.t 48)), (2, 1, (.t 50))], none⟩,
  ⟨(some 10), .move (.t 51), none⟩]
def m28_r17 : List MI := [
  ⟨(some 52), .move (.t 10), none⟩,
  ⟨(some 53), .move (.t 6), none⟩,
  ⟨(some 54), .bin .sub .no (.t 53) (.k (.sc (.int .i64 1))), none⟩,
  ⟨(some 55), .slice 1 (.t 52) (some (.t 54)) none, none⟩,
  ⟨(some 56), .lenSlice (.t 55), none⟩,
  ⟨(some 57), .move (.k (.sc (.int .i64 0))), none⟩]
def m28_r19 : List MI := [
  ⟨(some 58), .bin .lss .no (.t 57) (.t 56), none⟩]
def m28_r20 : List MI := [
  ⟨(some 59), .indexSlice 1 (.t 55) (.t 57), none⟩,
  ⟨(some 60), .load none (.t 59), none⟩,
  ⟨(some 12), .move (.t 60), none⟩]
def m28_r21 : List MI := [
  ⟨(some 61), .move (.t 12), none⟩,
  ⟨(some 62), .bin .neq .no (.t 61) (.k (.sc (.int .u8 0))), none⟩]
def m28_r22 : List MI := [
  ⟨(some 4), .move (.k (.sc (.nils))), none⟩,
  ⟨(some 5), .move (.k (.sc (.bool false))), none⟩]
def m28_r23 : List MI := [
  ⟨(some 63), .bin .add .no (.t 57) (.k (.sc (.int .i64 1))), none⟩,
  ⟨(some 57), .move (.t 63), none⟩]
def m28_l18 : MCode := (.seq (.ops m28_r19) (.seq (.cond (.t 58) .skip (.exit 2)) (.seq (.block 3 (.seq (.ops m28_r20) (.seq (.ops m28_r21) (.cond (.t 62) (.seq (.ops m28_r22) .ret) .skip)))) (.ops m28_r23))))
def m28_r24 : List MI := [
  ⟨(some 64), .move (.t 10), none⟩,
  ⟨(some 65), .move (.t 6), none⟩,
  ⟨(some 66), .bin .sub .no (.t 65) (.k (.sc (.int .i64 1))), none⟩,
  ⟨(some 67), .slice 1 (.t 64) none (some (.t 66)), none⟩,
  ⟨(some 4), .move (.t 67), none⟩,
  ⟨(some 5), .move (.k (.sc (.bool true))), none⟩]
def m28_code : MCode := (.seq (.ops m28_r0) (.seq (.ops m28_r1) (.seq (.seq (.ops m28_r2) (.cond (.t 25) (.seq (.ops m28_r3) .ret) .skip)) (.seq (.ops m28_r4) (.seq (.seq (.ops m28_r5) (.block 0 (.loop m28_l6))) (.seq (.ops m28_r16) (.seq (.seq (.ops m28_r17) (.block 2 (.loop m28_l18))) (.seq (.ops m28_r24) .ret))))))))
def m28 : MFunc := ⟨68, [.tmp 4, .tmp 5], m28_code⟩

def m29_r0 : List MI := [
  ⟨(some 4), .move (.k (.sc (.bool false))), none⟩]
def m29_r1 : List MI := [
  ⟨(some 5), .move (.k (.sc (.int .i64 0))), none⟩]
def m29_r3 : List MI := [
  ⟨(some 6), .move (.t 5), none⟩,
  ⟨(some 7), .move (.t 1), none⟩,
  ⟨(some 8), .lenStr (.t 7), none⟩,
  ⟨(some 9), .bin .lss .no (.t 6) (.t 8), none⟩]
def m29_r4 : List MI := [
  ⟨(some 12), .move (.t 1), none⟩,
  ⟨(some 13), .move (.t 5), none⟩,
  ⟨(some 14), .idxStr (.t 12) (.t 13), none⟩,
  ⟨(some 15), .move (.t 0), none⟩,
  ⟨(some 16), .bin .eql .no (.t 14) (.t 15), none⟩]
def m29_r5 : List MI := [
  ⟨(some 4), .move (.k (.sc (.bool true))), none⟩]
def m29_r6 : List MI := [
  ⟨(some 10), .move (.t 5), none⟩,
  ⟨(some 11), .bin .add .no (.t 10) (.k (.sc (.int .i64 1))), none⟩,
  ⟨(some 5), .move (.t 11), none⟩]
def m29_l2 : MCode := (.seq (.seq (.ops m29_r3) (.cond (.t 9) .skip (.exit 0))) (.seq (.block 1 (.seq (.ops m29_r4) (.cond (.t 16) (.seq (.ops m29_r5) .ret) .skip))) (.ops m29_r6)))
def m29_r7 : List MI := [
  ⟨(some 4), .move (.k (.sc (.bool false))), none⟩]
def m29_code : MCode := (.seq (.ops m29_r0) (.seq (.seq (.ops m29_r1) (.block 0 (.loop m29_l2))) (.seq (.ops m29_r7) .ret)))
def m29 : MFunc := ⟨17, [.tmp 4], m29_code⟩

def m30_r0 : List MI := [
  ⟨(some 1), .box 42 (.t 0), none⟩,
  ⟨(some 2), .alloc 40 [.int .i64 0, .int .i64 0, .str []], none⟩]
def m30_r1 : List MI := [
  ⟨(some 3), .move (.k (.sc (.int .i64 0))), none⟩]
def m30_r2 : List MI := [
  ⟨(some 7), .fieldAddr 4 (.t 1), none⟩,
  ⟨(some 8), .load none (.t 7), none⟩,
  ⟨(some 9), .lenSlice (.t 8), none⟩,
  ⟨(some 10), .bin .gtr .no (.t 9) (.k (.sc (.int .i64 0))), none⟩]
def m30_r3 : List MI := [
  ⟨(some 3), .move (.k (.sc (.int .i64 (-1)))), none⟩]
def m30_r4 : List MI := [
  ⟨(some 11), .fieldAddr 4 (.t 1), none⟩,
  ⟨(some 12), .load none (.t 11), none⟩,
  ⟨(some 13), .indexSlice 1 (.t 12) (.k (.sc (.int .i64 0))), none⟩,
  ⟨(some 14), .load none (.t 13), none⟩,
  ⟨(some 15), .lenSlice (.t 14), none⟩,
  ⟨(some 16), .bin .eql .no (.t 15) (.k (.sc (.int .i64 1))), none⟩]
def m30_r5 : List MI := [
  ⟨(some 17), .fieldAddr 4 (.t 1), none⟩,
  ⟨(some 18), .load none (.t 17), none⟩,
  ⟨(some 19), .indexSlice 1 (.t 18) (.k (.sc (.int .i64 0))), none⟩,
  ⟨(some 20), .load none (.t 19), none⟩,
  ⟨(some 21), .indexSlice 1 (.t 20) (.k (.sc (.int .i64 0))), none⟩,
  ⟨(some 22), .load none (.t 21), none⟩,
  ⟨(some 3), .move (.t 22), none⟩]
def m30_r6 : List MI := [
  ⟨(some 23), .fieldAddr 2 (.t 1), none⟩,
  ⟨(some 24), .load none (.t 23), none⟩,
  ⟨(some 25), .bin .eql .no (.t 24) (.k (.sc (.int .u8 104))), none⟩,
  ⟨(some 26), .move (.t 25), none⟩,
  ⟨(some 27), .fieldAddr 2 (.t 1), (some (26, false))⟩,
  ⟨(some 28), .load none (.t 27), (some (26, false))⟩,
  ⟨(some 29), .bin .eql .no (.t 28) (.k (.sc (.int .u8 108))), (some (26, false))⟩,
  ⟨(some 30), .pick (.t 26) (.k (.sc (.bool true))) (.t 29), none⟩,
  ⟨(some 4), .move (.t 30), none⟩]
def m30_r7 : List MI := [
  ⟨(some 31), .fieldAddr 3 (.t 1), none⟩,
  ⟨(some 32), .load none (.t 31), none⟩,
  ⟨(some 33), .bin .eql .no (.t 32) (.k (.sc (.str []))), none⟩,
  ⟨(some 34), .move (.t 33), none⟩,
  ⟨(some 35), .fieldAddr 2 (.t 1), (some (34, true))⟩,
  ⟨(some 36), .load none (.t 35), (some (34, true))⟩,
  ⟨(some 37), .call 29 [(.t 36), (.k (.sc (.str [64, 65, 66, 67, 68, 69, 70, 71, 72, 73, 74, 75, 76, 77, 80, 83, 84, 88, 90, 96, 97, 98, 100, 101, 102, 103, 109, 114, 115, 117])))], (some (34, true))⟩,
  ⟨(some 38), .move (.t 37), (some (34, true))⟩,
  ⟨(some 39), .move (.t 4), (some (38, false))⟩,
  ⟨(some 40), .move (.t 39), (some (38, false))⟩,
  ⟨(some 41), .fieldAddr 4 (.t 1), (some (40, true))⟩,
  ⟨(some 42), .load none (.t 41), (some (40, true))⟩,
  ⟨(some 43), .buildSlice 3 1 1 [.int .i64 0] [(0, 1, (.k (.sc (.int .i64 4))))], (some (40, true))⟩,
  ⟨(some 44), .call 46 [(.t 42), (.t 43)], (some (40, true))⟩,
  ⟨(some 45), .pick (.t 40) (.t 44) (.k (.sc (.bool false))), (some (38, false))⟩,
  ⟨(some 46), .pick (.t 38) (.k (.sc (.bool true))) (.t 45), (some (34, true))⟩,
  ⟨(some 47), .pick (.t 34) (.t 46) (.k (.sc (.bool false))), none⟩,
  ⟨(some 48), .move (.t 47), none⟩,
  ⟨(some 49), .fieldAddr 3 (.t 1), (some (48, false))⟩,
  ⟨(some 50), .load none (.t 49), (some (48, false))⟩,
  ⟨(some 51), .bin .eql .no (.t 50) (.k (.sc (.str [63]))), (some (48, false))⟩,
  ⟨(some 52), .move (.t 51), (some (48, false))⟩,
  ⟨(some 53), .move (.t 4), (some (52, true))⟩,
  ⟨(some 54), .pick (.t 52) (.t 53) (.k (.sc (.bool false))), (some (48, false))⟩,
  ⟨(some 55), .move (.t 54), (some (48, false))⟩,
  ⟨(some 56), .fieldAddr 4 (.t 1), (some (55, true))⟩,
  ⟨(some 57), .load none (.t 56), (some (55, true))⟩,
  ⟨(some 58), .buildSlice 3 1 6 [.int .i64 0] [(0, 1, (.k (.sc (.int .i64 1)))), (1, 1, (.k (.sc (.int .i64 6)))), (2, 1, (.k (.sc (.int .i64 7)))), (3, 1, (.k (.sc (.int .i64 25)))), (4, 1, (.k (.sc (.int .i64 1049)))), (5, 1, (.k (.sc (.int .i64 2004))))], (some (55, true))⟩,
  ⟨(some 59), .call 46 [(.t 57), (.t 58)], (some (55, true))⟩,
  ⟨(some 60), .pick (.t 55) (.t 59) (.k (.sc (.bool false))), (some (48, false))⟩,
  ⟨(some 61), .pick (.t 48) (.k (.sc (.bool true))) (.t 60), none⟩,
  ⟨(some 62), .move (.t 61), none⟩,
  ⟨(some 63), .fieldAddr 3 (.t 1), (some (62, false))⟩,
  ⟨(some 64), .load none (.t 63), (some (62, false))⟩,
  ⟨(some 65), .bin .eql .no (.t 64) (.k (.sc (.str [33]))), (some (62, false))⟩,
  ⟨(some 66), .move (.t 65), (some (62, false))⟩,
  ⟨(some 67), .fieldAddr 2 (.t 1), (some (66, true))⟩,
  ⟨(some 68), .load none (.t 67), (some (66, true))⟩,
  ⟨(some 69), .bin .eql .no (.t 68) (.k (.sc (.int .u8 112))), (some (66, true))⟩,
  ⟨(some 70), .pick (.t 66) (.t 69) (.k (.sc (.bool false))), (some (62, false))⟩,
  ⟨(some 71), .pick (.t 62) (.k (.sc (.bool true))) (.t 70), none⟩,
  ⟨(some 5), .move (.t 71), none⟩]
def m30_r8 : List MI := [
  ⟨(some 72), .move (.t 5), none⟩]
def m30_r9 : List MI := [
  ⟨(some 73), .build [.int .i64 0, .int .i64 0, .str []] [(0, 1, (.k (.sc (.int .i64 1))))], none⟩,
  ⟨none, .store 3 (.t 2) (.t 73), none⟩]
def m30_r10 : List MI := [
  ⟨(some 6), .move (.k (.sc (.int .i64 0))), none⟩]
def m30_r11 : List MI := [
  ⟨(some 74), .fieldAddr 2 (.t 1), none⟩,
  ⟨(some 75), .load none (.t 74), none⟩,
  ⟨(some 76), .bin .eql .no (.t 75) (.k (.sc (.int .u8 99))), none⟩,
  ⟨(some 77), .move (.t 76), none⟩,
  ⟨(some 78), .move (.t 3), (some (77, true))⟩,
  ⟨(some 79), .bin .eql .no (.t 78) (.k (.sc (.int .i64 0))), (some (77, true))⟩,
  ⟨(some 80), .pick (.t 77) (.t 79) (.k (.sc (.bool false))), none⟩,
  ⟨(some 81), .move (.t 80), none⟩,
  ⟨(some 82), .fieldAddr 3 (.t 1), (some (81, true))⟩,
  ⟨(some 83), .load none (.t 82), (some (81, true))⟩,
  ⟨(some 84), .bin .eql .no (.t 83) (.k (.sc (.str []))), (some (81, true))⟩,
  ⟨(some 85), .pick (.t 81) (.t 84) (.k (.sc (.bool false))), none⟩]
def m30_r12 : List MI := [
  ⟨(some 6), .move (.k (.sc (.int .i64 1))), none⟩]
def m30_r13 : List MI := [
  ⟨(some 86), .fieldAddr 2 (.t 1), none⟩,
  ⟨(some 87), .load none (.t 86), none⟩,
  ⟨(some 88), .bin .eql .no (.t 87) (.k (.sc (.int .u8 99))), none⟩,
  ⟨(some 89), .move (.t 88), none⟩,
  ⟨(some 90), .move (.t 3), (some (89, true))⟩,
  ⟨(some 91), .bin .eql .no (.t 90) (.k (.sc (.int .i64 0))), (some (89, true))⟩,
  ⟨(some 92), .pick (.t 89) (.t 91) (.k (.sc (.bool false))), none⟩,
  ⟨(some 93), .move (.t 92), none⟩,
  ⟨(some 94), .fieldAddr 3 (.t 1), (some (93, true))⟩,
  ⟨(some 95), .load none (.t 94), (some (93, true))⟩,
  ⟨(some 96), .bin .eql .no (.t 95) (.k (.sc (.str [62]))), (some (93, true))⟩,
  ⟨(some 97), .pick (.t 93) (.t 96) (.k (.sc (.bool false))), none⟩]
def m30_r14 : List MI := [
  ⟨(some 6), .move (.k (.sc (.int .i64 2))), none⟩]
def m30_r15 : List MI := [
  ⟨(some 98), .fieldAddr 2 (.t 1), none⟩,
  ⟨(some 99), .load none (.t 98), none⟩,
  ⟨(some 100), .bin .eql .no (.t 99) (.k (.sc (.int .u8 110))), none⟩,
  ⟨(some 101), .move (.t 100), none⟩,
  ⟨(some 102), .fieldAddr 3 (.t 1), (some (101, true))⟩,
  ⟨(some 103), .load none (.t 102), (some (101, true))⟩,
  ⟨(some 104), .bin .eql .no (.t 103) (.k (.sc (.str []))), (some (101, true))⟩,
  ⟨(some 105), .pick (.t 101) (.t 104) (.k (.sc (.bool false))), none⟩,
  ⟨(some 106), .move (.t 105), none⟩,
  ⟨(some 107), .move (.t 3), (some (106, true))⟩,
  ⟨(some 108), .bin .eql .no (.t 107) (.k (.sc (.int .i64 5))), (some (106, true))⟩,
  ⟨(some 109), .pick (.t 106) (.t 108) (.k (.sc (.bool false))), none⟩]
def m30_r16 : List MI := [
  ⟨(some 6), .move (.k (.sc (.int .i64 3))), none⟩]
def m30_r17 : List MI := [
  ⟨(some 110), .fieldAddr 2 (.t 1), none⟩,
  ⟨(some 111), .load none (.t 110), none⟩,
  ⟨(some 112), .bin .eql .no (.t 111) (.k (.sc (.int .u8 110))), none⟩,
  ⟨(some 113), .move (.t 112), none⟩,
  ⟨(some 114), .fieldAddr 3 (.t 1), (some (113, true))⟩,
  ⟨(some 115), .load none (.t 114), (some (113, true))⟩,
  ⟨(some 116), .bin .eql .no (.t 115) (.k (.sc (.str []))), (some (113, true))⟩,
  ⟨(some 117), .pick (.t 113) (.t 116) (.k (.sc (.bool false))), none⟩,
  ⟨(some 118), .move (.t 117), none⟩,
  ⟨(some 119), .move (.t 3), (some (118, true))⟩,
  ⟨(some 120), .bin .eql .no (.t 119) (.k (.sc (.int .i64 6))), (some (118, true))⟩,
  ⟨(some 121), .pick (.t 118) (.t 120) (.k (.sc (.bool false))), none⟩]
def m30_r18 : List MI := [
  ⟨(some 6), .move (.k (.sc (.int .i64 4))), none⟩]
def m30_r19 : List MI := [
  ⟨(some 122), .fieldAddr 2 (.t 1), none⟩,
  ⟨(some 123), .load none (.t 122), none⟩,
  ⟨(some 124), .bin .eql .no (.t 123) (.k (.sc (.int .u8 110))), none⟩,
  ⟨(some 125), .move (.t 124), none⟩,
  ⟨(some 126), .fieldAddr 3 (.t 1), (some (125, true))⟩,
  ⟨(some 127), .load none (.t 126), (some (125, true))⟩,
  ⟨(some 128), .bin .eql .no (.t 127) (.k (.sc (.str [63]))), (some (125, true))⟩,
  ⟨(some 129), .pick (.t 125) (.t 128) (.k (.sc (.bool false))), none⟩,
  ⟨(some 130), .move (.t 129), none⟩,
  ⟨(some 131), .move (.t 3), (some (130, true))⟩,
  ⟨(some 132), .bin .eql .no (.t 131) (.k (.sc (.int .i64 6))), (some (130, true))⟩,
  ⟨(some 133), .pick (.t 130) (.t 132) (.k (.sc (.bool false))), none⟩]
def m30_r20 : List MI := [
  ⟨(some 6), .move (.k (.sc (.int .i64 5))), none⟩]
def m30_r21 : List MI := [
  ⟨(some 134), .move (.t 6), none⟩,
  ⟨(some 135), .bin .gtr .no (.t 134) (.k (.sc (.int .i64 0))), none⟩]
def m30_r22 : List MI := [
  ⟨(some 136), .move (.t 6), none⟩,
  ⟨(some 137), .build [.int .i64 0, .int .i64 0, .str []] [(0, 1, (.k (.sc (.int .i64 6)))), (1, 1, (.t 136))], none⟩,
  ⟨none, .store 3 (.t 2) (.t 137), none⟩]
def m30_r23 : List MI := [
  ⟨(some 138), .build [.int .i64 0, .int .i64 0, .str []] [(0, 1, (.k (.sc (.int .i64 7))))], none⟩,
  ⟨none, .store 3 (.t 2) (.t 138), none⟩]
def m30_code : MCode := (.seq (.ops m30_r0) (.seq (.ops m30_r1) (.seq (.seq (.ops m30_r2) (.cond (.t 10) (.seq (.ops m30_r3) (.seq (.ops m30_r4) (.cond (.t 16) (.ops m30_r5) .skip))) .skip)) (.seq (.ops m30_r6) (.seq (.ops m30_r7) (.seq (.seq (.ops m30_r8) (.cond (.t 72) (.seq (.ops m30_r9) .ret) .skip)) (.seq (.ops m30_r10) (.seq (.seq (.ops m30_r11) (.cond (.t 85) (.ops m30_r12) .skip)) (.seq (.seq (.ops m30_r13) (.cond (.t 97) (.ops m30_r14) .skip)) (.seq (.seq (.ops m30_r15) (.cond (.t 109) (.ops m30_r16) .skip)) (.seq (.seq (.ops m30_r17) (.cond (.t 121) (.ops m30_r18) .skip)) (.seq (.seq (.ops m30_r19) (.cond (.t 133) (.ops m30_r20) .skip)) (.seq (.seq (.ops m30_r21) (.cond (.t 135) (.seq (.ops m30_r22) .ret) .skip)) (.seq (.ops m30_r23) .ret))))))))))))))
def m30 : MFunc := ⟨139, [.cell 2 (some 3)], m30_code⟩

def m31_r0 : List MI := [
  ⟨(some 2), .alloc 40 [.int .i64 0, .int .i64 0, .str []], none⟩]
def m31_r1 : List MI := [
  ⟨(some 7), .move (.t 0), none⟩,
  ⟨(some 8), .lenStr (.t 7), none⟩,
  ⟨(some 9), .bin .gtr .no (.t 8) (.k (.sc (.int .i64 1))), none⟩,
  ⟨(some 10), .move (.t 9), none⟩,
  ⟨(some 11), .move (.t 0), (some (10, true))⟩,
  ⟨(some 12), .sliceStr (.t 11) none (some (.k (.sc (.int .i64 2)))), (some (10, true))⟩,
  ⟨(some 13), .bin .eql .no (.t 12) (.k (.sc (.str [48, 59]))), (some (10, true))⟩,
  ⟨(some 14), .move (.t 13), (some (10, true))⟩,
  ⟨(some 15), .move (.t 0), (some (14, false))⟩,
  ⟨(some 16), .sliceStr (.t 15) none (some (.k (.sc (.int .i64 2)))), (some (14, false))⟩,
  ⟨(some 17), .bin .eql .no (.t 16) (.k (.sc (.str [50, 59]))), (some (14, false))⟩,
  ⟨(some 18), .pick (.t 14) (.k (.sc (.bool true))) (.t 17), (some (10, true))⟩,
  ⟨(some 19), .pick (.t 10) (.t 18) (.k (.sc (.bool false))), none⟩]
def m31_r2 : List MI := [
  ⟨(some 20), .move (.t 0), none⟩,
  ⟨(some 21), .sliceStr (.t 20) (some (.k (.sc (.int .i64 2)))) none, none⟩,
  ⟨(some 22), .call 19 [(.t 21)], none⟩,
  ⟨(some 23), .build [.int .i64 0, .int .i64 0, .str []] [(0, 1, (.k (.sc (.int .i64 2)))), (2, 1, (.t 22))], none⟩,
  ⟨none, .store 3 (.t 2) (.t 23), none⟩]
def m31_r3 : List MI := [
  ⟨(some 24), .move (.t 0), none⟩,
  ⟨(some 25), .lenStr (.t 24), none⟩,
  ⟨(some 26), .bin .gtr .no (.t 25) (.k (.sc (.int .i64 3))), none⟩,
  ⟨(some 27), .move (.t 26), none⟩,
  ⟨(some 28), .move (.t 0), (some (27, true))⟩,
  ⟨(some 29), .sliceStr (.t 28) none (some (.k (.sc (.int .i64 3)))), (some (27, true))⟩,
  ⟨(some 30), .bin .eql .no (.t 29) (.k (.sc (.str [53, 50, 59]))), (some (27, true))⟩,
  ⟨(some 31), .pick (.t 27) (.t 30) (.k (.sc (.bool false))), none⟩]
def m31_r4 : List MI := [
  ⟨(some 3), .move (.k (.sc (.int .i64 3))), none⟩]
def m31_r6 : List MI := [
  ⟨(some 32), .move (.t 3), none⟩,
  ⟨(some 33), .move (.t 0), none⟩,
  ⟨(some 34), .lenStr (.t 33), none⟩,
  ⟨(some 35), .bin .lss .no (.t 32) (.t 34), none⟩]
def m31_r7 : List MI := [
  ⟨(some 38), .move (.t 0), none⟩,
  ⟨(some 39), .move (.t 3), none⟩,
  ⟨(some 40), .idxStr (.t 38) (.t 39), none⟩,
  ⟨(some 41), .bin .neq .no (.t 40) (.k (.sc (.int .u8 59))), none⟩]
def m31_r8 : List MI := [
  ⟨(some 42), .move (.t 0), none⟩,
  ⟨(some 43), .move (.t 3), none⟩,
  ⟨(some 44), .bin .add .no (.t 43) (.k (.sc (.int .i64 1))), none⟩,
  ⟨(some 45), .sliceStr (.t 42) (some (.t 44)) none, none⟩,
  ⟨(some 4), .move (.t 45), none⟩]
def m31_r9 : List MI := [
  ⟨(some 46), .move (.t 4), none⟩,
  ⟨(some 47), .bin .eql .no (.t 46) (.k (.sc (.str [63]))), none⟩]
def m31_r10 : List MI := [
  ⟨(some 48), .build [.int .i64 0, .int .i64 0, .str []] [(0, 1, (.k (.sc (.int .i64 5))))], none⟩,
  ⟨none, .store 3 (.t 2) (.t 48), none⟩]
def m31_r11 : List MI := [
  ⟨(some 50), .move (.t 4), none⟩,
  ⟨(some 51), .call 18 [(.t 50)], none⟩,
  ⟨(some 49), .move (.t 51), none⟩,
  ⟨(some 52), .extract (.t 49) 0, none⟩,
  ⟨(some 53), .extract (.t 49) 1, none⟩,
  ⟨(some 5), .move (.t 52), none⟩,
  ⟨(some 6), .move (.t 53), none⟩]
def m31_r12 : List MI := [
  ⟨(some 54), .move (.t 6), none⟩,
  ⟨(some 55), .move (.t 54), none⟩,
  ⟨(some 56), .move (.t 5), (some (55, true))⟩,
  ⟨(some 57), .lenStr (.t 56), (some (55, true))⟩,
  ⟨(some 58), .bin .leq .no (.t 57) (.k (.sc (.int .i64 4096))), (some (55, true))⟩,
  ⟨(some 59), .pick (.t 55) (.t 58) (.k (.sc (.bool false))), none⟩]
def m31_r13 : List MI := [
  ⟨(some 60), .move (.t 5), none⟩,
  ⟨(some 61), .build [.int .i64 0, .int .i64 0, .str []] [(0, 1, (.k (.sc (.int .i64 4)))), (2, 1, (.t 60))], none⟩,
  ⟨none, .store 3 (.t 2) (.t 61), none⟩]
def m31_r14 : List MI := [
  ⟨(some 62), .build [.int .i64 0, .int .i64 0, .str []] [(0, 1, (.k (.sc (.int .i64 7))))], none⟩,
  ⟨none, .store 3 (.t 2) (.t 62), none⟩]
def m31_r15 : List MI := [
  ⟨(some 36), .move (.t 3), none⟩,
  ⟨(some 37), .bin .add .no (.t 36) (.k (.sc (.int .i64 1))), none⟩,
  ⟨(some 3), .move (.t 37), none⟩]
def m31_l5 : MCode := (.seq (.seq (.ops m31_r6) (.cond (.t 35) .skip (.exit 0))) (.seq (.block 1 (.seq (.seq (.ops m31_r7) (.cond (.t 41) (.exit 1) .skip)) (.seq (.ops m31_r8) (.seq (.seq (.ops m31_r9) (.cond (.t 47) (.seq (.ops m31_r10) .ret) .skip)) (.seq (.ops m31_r11) (.seq (.seq (.ops m31_r12) (.cond (.t 59) (.seq (.ops m31_r13) .ret) .skip)) (.seq (.ops m31_r14) .ret))))))) (.ops m31_r15)))
def m31_r16 : List MI := [
  ⟨(some 63), .build [.int .i64 0, .int .i64 0, .str []] [(0, 1, (.k (.sc (.int .i64 7))))], none⟩,
  ⟨none, .store 3 (.t 2) (.t 63), none⟩]
def m31_code : MCode := (.seq (.ops m31_r0) (.seq (.seq (.ops m31_r1) (.cond (.t 19) (.seq (.ops m31_r2) .ret) .skip)) (.seq (.seq (.ops m31_r3) (.cond (.t 31) (.seq (.ops m31_r4) (.block 0 (.loop m31_l5))) .skip)) (.seq (.ops m31_r16) .ret))))
def m31 : MFunc := ⟨64, [.cell 2 (some 3)], m31_code⟩

def m32_r0 : List MI := [
  ⟨(some 9), .move (.t 0), none⟩,
  ⟨(some 10), .nilCheck (.t 9), none⟩,
  ⟨(some 11), .fieldAddr 0 (.t 10), none⟩,
  ⟨(some 12), .load none (.t 11), none⟩,
  ⟨(some 13), .move (.t 1), none⟩,
  ⟨(some 14), .call 47 [(.t 12), (.t 13)], none⟩,
  ⟨(some 8), .move (.t 14), none⟩,
  ⟨(some 15), .extract (.t 8) 0, none⟩,
  ⟨(some 16), .extract (.t 8) 1, none⟩,
  ⟨(some 4), .move (.t 15), none⟩,
  ⟨(some 5), .move (.t 16), none⟩]
def m32_r1 : List MI := [
  ⟨(some 17), .move (.t 4), none⟩,
  ⟨(some 18), .bin .neq .no (.t 17) (.k (.sc (.int .i64 1))), none⟩]
def m32_r2 : List MI := [
  ⟨(some 19), .move (.t 0), none⟩,
  ⟨(some 20), .call 33 [(.t 19)], none⟩]
def m32_r3 : List MI := [
  ⟨(some 21), .move (.t 5), none⟩,
  ⟨(some 22), .move (.t 0), none⟩,
  ⟨(some 23), .nilCheck (.t 22), none⟩,
  ⟨(some 24), .fieldAddr 0 (.t 23), none⟩,
  ⟨(some 25), .load none (.t 24), none⟩,
  ⟨(some 26), .bin .neq .no (.t 21) (.t 25), none⟩,
  ⟨(some 27), .move (.t 26), none⟩,
  ⟨(some 28), .move (.t 0), (some (27, true))⟩,
  ⟨(some 29), .nilCheck (.t 28), (some (27, true))⟩,
  ⟨(some 30), .fieldAddr 0 (.t 29), (some (27, true))⟩,
  ⟨(some 31), .load none (.t 30), (some (27, true))⟩,
  ⟨(some 32), .bin .eql .no (.t 31) (.k (.sc (.int .i64 10))), (some (27, true))⟩,
  ⟨(some 33), .move (.t 32), (some (27, true))⟩,
  ⟨(some 34), .move (.t 0), (some (33, false))⟩,
  ⟨(some 35), .nilCheck (.t 34), (some (33, false))⟩,
  ⟨(some 36), .fieldAddr 0 (.t 35), (some (33, false))⟩,
  ⟨(some 37), .load none (.t 36), (some (33, false))⟩,
  ⟨(some 38), .bin .eql .no (.t 37) (.k (.sc (.int .i64 12))), (some (33, false))⟩,
  ⟨(some 39), .pick (.t 33) (.k (.sc (.bool true))) (.t 38), (some (27, true))⟩,
  ⟨(some 40), .pick (.t 27) (.t 39) (.k (.sc (.bool false))), none⟩]
def m32_r4 : List MI := [
  ⟨(some 41), .move (.t 0), none⟩,
  ⟨(some 42), .move (.t 1), none⟩,
  ⟨(some 43), .call 48 [(.t 41), (.t 42)], none⟩]
def m32_r5 : List MI := [
  ⟨(some 44), .move (.t 5), none⟩,
  ⟨(some 45), .move (.t 0), none⟩,
  ⟨(some 46), .nilCheck (.t 45), none⟩,
  ⟨(some 47), .fieldAddr 0 (.t 46), none⟩,
  ⟨(some 48), .load none (.t 47), none⟩,
  ⟨(some 49), .bin .neq .no (.t 44) (.t 48), none⟩,
  ⟨(some 50), .move (.t 49), none⟩,
  ⟨(some 51), .move (.t 5), (some (50, true))⟩,
  ⟨(some 52), .bin .eql .no (.t 51) (.k (.sc (.int .i64 1))), (some (50, true))⟩,
  ⟨(some 53), .move (.t 52), (some (50, true))⟩,
  ⟨(some 54), .move (.t 5), (some (53, false))⟩,
  ⟨(some 55), .bin .eql .no (.t 54) (.k (.sc (.int .i64 3))), (some (53, false))⟩,
  ⟨(some 56), .pick (.t 53) (.k (.sc (.bool true))) (.t 55), (some (50, true))⟩,
  ⟨(some 57), .move (.t 56), (some (50, true))⟩,
  ⟨(some 58), .move (.t 5), (some (57, false))⟩,
  ⟨(some 59), .bin .eql .no (.t 58) (.k (.sc (.int .i64 7))), (some (57, false))⟩,
  ⟨(some 60), .pick (.t 57) (.k (.sc (.bool true))) (.t 59), (some (50, true))⟩,
  ⟨(some 61), .move (.t 60), (some (50, true))⟩,
  ⟨(some 62), .move (.t 5), (some (61, false))⟩,
  ⟨(some 63), .bin .eql .no (.t 62) (.k (.sc (.int .i64 12))), (some (61, false))⟩,
  ⟨(some 64), .pick (.t 61) (.k (.sc (.bool true))) (.t 63), (some (50, true))⟩,
  ⟨(some 65), .pick (.t 50) (.t 64) (.k (.sc (.bool false))), none⟩]
def m32_r6 : List MI := [
  ⟨(some 66), .move (.t 0), none⟩,
  ⟨(some 67), .nilCheck (.t 66), none⟩,
  ⟨(some 68), .fieldAddr 2 (.t 67), none⟩,
  ⟨none, .store 1 (.t 68) (.k (.sc (.str []))), none⟩]
def m32_r7 : List MI := [
  ⟨(some 69), .move (.t 0), none⟩,
  ⟨(some 70), .nilCheck (.t 69), none⟩,
  ⟨(some 71), .fieldAddr 3 (.t 70), none⟩,
  ⟨none, .store 1 (.t 71) (.k (.sc (.str []))), none⟩]
def m32_r8 : List MI := [
  ⟨(some 72), .move (.t 0), none⟩,
  ⟨(some 73), .nilCheck (.t 72), none⟩,
  ⟨(some 74), .fieldAddr 5 (.t 73), none⟩,
  ⟨none, .store 1 (.t 74) (.k (.sc (.str []))), none⟩]
def m32_r9 : List MI := [
  ⟨(some 75), .move (.t 4), none⟩]
def m32_r10 : List MI := [
  ⟨(some 77), .bin .eql .no (.t 75) (.k (.sc (.int .i64 1))), none⟩,
  ⟨(some 76), .move (.t 77), none⟩]
def m32_r11 : List MI := [
  ⟨(some 78), .move (.t 0), none⟩,
  ⟨(some 79), .nilCheck (.t 78), none⟩,
  ⟨(some 80), .fieldAddr 1 (.t 79), none⟩,
  ⟨(some 81), .move (.t 1), none⟩,
  ⟨(some 82), .call 49 [(.t 80), (.t 81)], none⟩,
  ⟨(some 6), .move (.t 82), none⟩]
def m32_r12 : List MI := [
  ⟨(some 7), .move (.k (.sc (.int .i64 0))), none⟩]
def m32_r14 : List MI := [
  ⟨(some 83), .move (.t 7), none⟩,
  ⟨(some 84), .move (.t 6), none⟩,
  ⟨(some 85), .lenSlice (.t 84), none⟩,
  ⟨(some 86), .bin .lss .no (.t 83) (.t 85), none⟩]
def m32_r15 : List MI := [
  ⟨(some 89), .move (.t 0), none⟩,
  ⟨(some 90), .move (.t 6), none⟩,
  ⟨(some 91), .move (.t 7), none⟩,
  ⟨(some 92), .indexSlice 1 (.t 90) (.t 91), none⟩,
  ⟨(some 93), .load none (.t 92), none⟩,
  ⟨(some 94), .call 50 [(.t 89), (.t 93)], none⟩]
def m32_r16 : List MI := [
  ⟨(some 87), .move (.t 7), none⟩,
  ⟨(some 88), .bin .add .no (.t 87) (.k (.sc (.int .i64 1))), none⟩,
  ⟨(some 7), .move (.t 88), none⟩]
def m32_l13 : MCode := (.seq (.seq (.ops m32_r14) (.cond (.t 86) .skip (.exit 1))) (.seq (.block 2 (.ops m32_r15)) (.ops m32_r16)))
def m32_r17 : List MI := [
  ⟨(some 96), .bin .eql .no (.t 75) (.k (.sc (.int .i64 2))), none⟩,
  ⟨(some 95), .move (.t 96), none⟩]
def m32_r18 : List MI := [
  ⟨(some 97), .move (.t 0), none⟩,
  ⟨(some 98), .move (.t 0), none⟩,
  ⟨(some 99), .nilCheck (.t 98), none⟩,
  ⟨(some 100), .fieldAddr 6 (.t 99), none⟩,
  ⟨(some 101), .load none (.t 100), none⟩,
  ⟨(some 102), .move (.t 1), none⟩,
  ⟨(some 103), .build [.int .i64 0, .int .i32 0, .int .u8 0, .str [], .nils, .str []] [(0, 1, (.k (.sc (.int .i64 2)))), (2, 1, (.t 102))], none⟩,
  ⟨(some 104), .buildSlice 42 6 1 [.int .i64 0, .int .i32 0, .int .u8 0, .str [], .nils, .str []] [(0, 6, (.t 103))], none⟩,
  ⟨(some 105), .append 42 6 72 [.int .i64 0, .int .i32 0, .int .u8 0, .str [], .nils, .str []] (.t 101) (.t 104), none⟩,
  ⟨(some 106), .nilCheck (.t 97), none⟩,
  ⟨(some 107), .fieldAddr 6 (.t 106), none⟩,
  ⟨none, .store 1 (.t 107) (.t 105), none⟩]
def m32_r19 : List MI := [
  ⟨(some 109), .bin .eql .no (.t 75) (.k (.sc (.int .i64 3))), none⟩,
  ⟨(some 108), .move (.t 109), none⟩]
def m32_r20 : List DI := [
  ⟨⟨(some 110), .move (.t 0), none⟩, 0, [], [6, 7]⟩,
  ⟨⟨(some 111), .move (.t 0), none⟩, 0, [], [6, 7]⟩,
  ⟨⟨(some 112), .nilCheck (.t 111), none⟩, 0, [], [6, 7]⟩,
  ⟨⟨(some 113), .fieldAddr 3 (.t 112), none⟩, 0, [], [6, 7]⟩,
  ⟨⟨(some 114), .load none (.t 113), none⟩, 1, [], [6, 7]⟩,
  ⟨⟨(some 115), .move (.t 1), none⟩, 0, [], []⟩,
  ⟨⟨(some 116), .buildSlice 5 1 1 [.int .u8 0] [(0, 1, (.t 115))], none⟩, 2, [], []⟩,
  ⟨⟨(some 117), .conv .bytesStr (.t 116), none⟩, 2, [], []⟩,
  ⟨⟨(some 118), .bin .add .no (.t 114) (.t 117), none⟩, 0, [], []⟩,
  ⟨⟨(some 119), .nilCheck (.t 110), none⟩, 0, [], []⟩,
  ⟨⟨(some 120), .fieldAddr 3 (.t 119), none⟩, 0, [], []⟩,
  ⟨⟨none, .store 1 (.t 120) (.t 118), none⟩, 2, [], []⟩]
def m32_r21 : List MI := [
  ⟨(some 122), .bin .eql .no (.t 75) (.k (.sc (.int .i64 4))), none⟩,
  ⟨(some 121), .move (.t 122), none⟩]
def m32_r22 : List DI := [
  ⟨⟨(some 123), .move (.t 0), none⟩, 0, [], [6, 7]⟩,
  ⟨⟨(some 124), .move (.t 0), none⟩, 0, [], [6, 7]⟩,
  ⟨⟨(some 125), .nilCheck (.t 124), none⟩, 0, [], [6, 7]⟩,
  ⟨⟨(some 126), .fieldAddr 2 (.t 125), none⟩, 0, [], [6, 7]⟩,
  ⟨⟨(some 127), .load none (.t 126), none⟩, 1, [], [6, 7]⟩,
  ⟨⟨(some 128), .move (.t 1), none⟩, 0, [], []⟩,
  ⟨⟨(some 129), .buildSlice 5 1 1 [.int .u8 0] [(0, 1, (.t 128))], none⟩, 2, [], []⟩,
  ⟨⟨(some 130), .conv .bytesStr (.t 129), none⟩, 2, [], []⟩,
  ⟨⟨(some 131), .bin .add .no (.t 127) (.t 130), none⟩, 0, [], []⟩,
  ⟨⟨(some 132), .nilCheck (.t 123), none⟩, 0, [], []⟩,
  ⟨⟨(some 133), .fieldAddr 2 (.t 132), none⟩, 0, [], []⟩,
  ⟨⟨none, .store 1 (.t 133) (.t 131), none⟩, 2, [], []⟩]
def m32_r23 : List MI := [
  ⟨(some 135), .bin .eql .no (.t 75) (.k (.sc (.int .i64 5))), none⟩,
  ⟨(some 134), .move (.t 135), none⟩]
def m32_r24 : List MI := [
  ⟨(some 136), .move (.t 0), none⟩,
  ⟨(some 137), .nilCheck (.t 136), none⟩,
  ⟨(some 138), .fieldAddr 3 (.t 137), none⟩,
  ⟨(some 139), .load none (.t 138), none⟩,
  ⟨(some 140), .lenStr (.t 139), none⟩,
  ⟨(some 141), .bin .leq .no (.t 140) (.k (.sc (.int .i64 2))), none⟩,
  ⟨(some 142), .move (.t 141), none⟩,
  ⟨(some 143), .move (.t 1), (some (142, true))⟩,
  ⟨(some 144), .bin .neq .no (.t 143) (.k (.sc (.int .u8 92))), (some (142, true))⟩,
  ⟨(some 145), .move (.t 144), (some (142, true))⟩,
  ⟨(some 146), .move (.t 0), (some (145, false))⟩,
  ⟨(some 147), .nilCheck (.t 146), (some (145, false))⟩,
  ⟨(some 148), .fieldAddr 3 (.t 147), (some (145, false))⟩,
  ⟨(some 149), .load none (.t 148), (some (145, false))⟩,
  ⟨(some 150), .bin .neq .no (.t 149) (.k (.sc (.str []))), (some (145, false))⟩,
  ⟨(some 151), .pick (.t 145) (.k (.sc (.bool true))) (.t 150), (some (142, true))⟩,
  ⟨(some 152), .pick (.t 142) (.t 151) (.k (.sc (.bool false))), none⟩]
def m32_r25 : List DI := [
  ⟨⟨(some 153), .move (.t 0), none⟩, 0, [], [11, 12]⟩,
  ⟨⟨(some 154), .move (.t 0), none⟩, 0, [], [11]⟩,
  ⟨⟨(some 155), .nilCheck (.t 154), none⟩, 0, [], [11]⟩,
  ⟨⟨(some 156), .fieldAddr 6 (.t 155), none⟩, 0, [], [11]⟩,
  ⟨⟨(some 157), .load none (.t 156), none⟩, 1, [], [11]⟩,
  ⟨⟨(some 158), .move (.t 1), none⟩, 0, [], []⟩,
  ⟨⟨(some 159), .move (.t 0), none⟩, 0, [], []⟩,
  ⟨⟨(some 160), .nilCheck (.t 159), none⟩, 0, [], []⟩,
  ⟨⟨(some 161), .fieldAddr 3 (.t 160), none⟩, 0, [], []⟩,
  ⟨⟨(some 162), .load none (.t 161), none⟩, 1, [], []⟩,
  ⟨⟨(some 163), .build [.int .i64 0, .int .i32 0, .int .u8 0, .str [], .nils, .str []] [(0, 1, (.k (.sc (.int .i64 3)))), (2, 1, (.t 158)), (3, 1, (.t 162))], none⟩, 0, [], []⟩,
  ⟨⟨(some 164), .buildSlice 42 6 1 [.int .i64 0, .int .i32 0, .int .u8 0, .str [], .nils, .str []] [(0, 6, (.t 163))], none⟩, 2, [], []⟩,
  ⟨⟨(some 165), .append 42 6 72 [.int .i64 0, .int .i32 0, .int .u8 0, .str [], .nils, .str []] (.t 157) (.t 164), none⟩, 2, [], []⟩,
  ⟨⟨(some 166), .nilCheck (.t 153), none⟩, 0, [], []⟩,
  ⟨⟨(some 167), .fieldAddr 6 (.t 166), none⟩, 0, [], []⟩,
  ⟨⟨none, .store 1 (.t 167) (.t 165), none⟩, 2, [], []⟩]
def m32_r26 : List MI := [
  ⟨(some 169), .bin .eql .no (.t 75) (.k (.sc (.int .i64 6))), none⟩,
  ⟨(some 168), .move (.t 169), none⟩]
def m32_r27 : List MI := [
  ⟨(some 170), .move (.t 0), none⟩,
  ⟨(some 171), .nilCheck (.t 170), none⟩,
  ⟨(some 172), .fieldAddr 3 (.t 171), none⟩,
  ⟨(some 173), .load none (.t 172), none⟩,
  ⟨(some 174), .lenStr (.t 173), none⟩,
  ⟨(some 175), .bin .leq .no (.t 174) (.k (.sc (.int .i64 2))), none⟩]
def m32_r28 : List DI := [
  ⟨⟨(some 176), .move (.t 0), none⟩, 0, [], [14, 16, 17]⟩,
  ⟨⟨(some 177), .move (.t 0), none⟩, 0, [], [14, 16]⟩,
  ⟨⟨(some 178), .nilCheck (.t 177), none⟩, 0, [], [14, 16]⟩,
  ⟨⟨(some 179), .fieldAddr 6 (.t 178), none⟩, 0, [], [14, 16]⟩,
  ⟨⟨(some 180), .load none (.t 179), none⟩, 1, [], [14, 16]⟩,
  ⟨⟨(some 181), .move (.t 1), none⟩, 0, [], [14]⟩,
  ⟨⟨(some 182), .move (.t 0), none⟩, 0, [], [14]⟩,
  ⟨⟨(some 183), .nilCheck (.t 182), none⟩, 0, [], [14]⟩,
  ⟨⟨(some 184), .fieldAddr 3 (.t 183), none⟩, 0, [], [14]⟩,
  ⟨⟨(some 185), .load none (.t 184), none⟩, 1, [], [14]⟩,
  ⟨⟨(some 186), .move (.t 0), none⟩, 0, [], []⟩,
  ⟨⟨(some 187), .nilCheck (.t 186), none⟩, 0, [], []⟩,
  ⟨⟨(some 188), .fieldAddr 2 (.t 187), none⟩, 0, [], []⟩,
  ⟨⟨(some 189), .load none (.t 188), none⟩, 1, [], []⟩,
  ⟨⟨(some 190), .call 51 [(.t 189)], none⟩, 2, [], []⟩,
  ⟨⟨(some 191), .build [.int .i64 0, .int .i32 0, .int .u8 0, .str [], .nils, .str []] [(0, 1, (.k (.sc (.int .i64 4)))), (2, 1, (.t 181)), (3, 1, (.t 185)), (4, 1, (.t 190))], none⟩, 0, [], []⟩,
  ⟨⟨(some 192), .buildSlice 42 6 1 [.int .i64 0, .int .i32 0, .int .u8 0, .str [], .nils, .str []] [(0, 6, (.t 191))], none⟩, 2, [], []⟩,
  ⟨⟨(some 193), .append 42 6 72 [.int .i64 0, .int .i32 0, .int .u8 0, .str [], .nils, .str []] (.t 180) (.t 192), none⟩, 2, [], []⟩,
  ⟨⟨(some 194), .nilCheck (.t 176), none⟩, 0, [], []⟩,
  ⟨⟨(some 195), .fieldAddr 6 (.t 194), none⟩, 0, [], []⟩,
  ⟨⟨none, .store 1 (.t 195) (.t 193), none⟩, 2, [], []⟩]
def m32_r29 : List MI := [
  ⟨(some 197), .bin .eql .no (.t 75) (.k (.sc (.int .i64 7))), none⟩,
  ⟨(some 196), .move (.t 197), none⟩]
def m32_r30 : List MI := [
  ⟨(some 198), .move (.t 0), none⟩,
  ⟨(some 199), .move (.t 1), none⟩,
  ⟨(some 200), .nilCheck (.t 198), none⟩,
  ⟨(some 201), .fieldAddr 4 (.t 200), none⟩,
  ⟨none, .store 1 (.t 201) (.t 199), none⟩]
def m32_r31 : List MI := [
  ⟨(some 203), .bin .eql .no (.t 75) (.k (.sc (.int .i64 8))), none⟩,
  ⟨(some 202), .move (.t 203), none⟩]
def m32_r32 : List DI := [
  ⟨⟨(some 204), .move (.t 0), none⟩, 0, [], [6, 7]⟩,
  ⟨⟨(some 205), .move (.t 0), none⟩, 0, [], [6, 7]⟩,
  ⟨⟨(some 206), .nilCheck (.t 205), none⟩, 0, [], [6, 7]⟩,
  ⟨⟨(some 207), .fieldAddr 5 (.t 206), none⟩, 0, [], [6, 7]⟩,
  ⟨⟨(some 208), .load none (.t 207), none⟩, 1, [], [6, 7]⟩,
  ⟨⟨(some 209), .move (.t 1), none⟩, 0, [], []⟩,
  ⟨⟨(some 210), .buildSlice 5 1 1 [.int .u8 0] [(0, 1, (.t 209))], none⟩, 2, [], []⟩,
  ⟨⟨(some 211), .conv .bytesStr (.t 210), none⟩, 2, [], []⟩,
  ⟨⟨(some 212), .bin .add .no (.t 208) (.t 211), none⟩, 0, [], []⟩,
  ⟨⟨(some 213), .nilCheck (.t 204), none⟩, 0, [], []⟩,
  ⟨⟨(some 214), .fieldAddr 5 (.t 213), none⟩, 0, [], []⟩,
  ⟨⟨none, .store 1 (.t 214) (.t 212), none⟩, 2, [], []⟩]
def m32_r33 : List MI := [
  ⟨(some 215), .move (.t 0), none⟩,
  ⟨(some 216), .move (.t 5), none⟩,
  ⟨(some 217), .nilCheck (.t 215), none⟩,
  ⟨(some 218), .fieldAddr 0 (.t 217), none⟩,
  ⟨none, .store 1 (.t 218) (.t 216), none⟩]
def m32_code : MCode := (.seq (.ops m32_r0) (.seq (.seq (.ops m32_r1) (.cond (.t 18) (.ops m32_r2) .skip)) (.seq (.seq (.ops m32_r3) (.cond (.t 40) (.ops m32_r4) .skip)) (.seq (.seq (.ops m32_r5) (.cond (.t 65) (.seq (.ops m32_r6) (.seq (.ops m32_r7) (.ops m32_r8))) .skip)) (.seq (.seq (.ops m32_r9) (.block 0 (.seq (.ops m32_r10) (.cond (.t 76) (.seq (.ops m32_r11) (.seq (.ops m32_r12) (.block 1 (.loop m32_l13)))) (.seq (.ops m32_r17) (.cond (.t 95) (.ops m32_r18) (.seq (.ops m32_r19) (.cond (.t 108) (.draw m32_r20) (.seq (.ops m32_r21) (.cond (.t 121) (.draw m32_r22) (.seq (.ops m32_r23) (.cond (.t 134) (.seq (.ops m32_r24) (.cond (.t 152) (.draw m32_r25) .skip)) (.seq (.ops m32_r26) (.cond (.t 168) (.seq (.ops m32_r27) (.cond (.t 175) (.draw m32_r28) .skip)) (.seq (.ops m32_r29) (.cond (.t 196) (.ops m32_r30) (.seq (.ops m32_r31) (.cond (.t 202) (.draw m32_r32) .skip)))))))))))))))))) (.ops m32_r33))))))
def m32 : MFunc := ⟨219, [], m32_code⟩

def m33_r0 : List MI := [
  ⟨(some 2), .move (.t 0), none⟩,
  ⟨(some 3), .nilCheck (.t 2), none⟩,
  ⟨(some 4), .fieldAddr 1 (.t 3), none⟩,
  ⟨(some 5), .fieldAddr 0 (.t 4), none⟩,
  ⟨(some 6), .load none (.t 5), none⟩,
  ⟨(some 7), .bin .neq .no (.t 6) (.k (.sc (.str []))), none⟩]
def m33_r1 : List MI := [
  ⟨(some 8), .move (.t 0), none⟩,
  ⟨(some 9), .call 50 [(.t 8), (.k (.sc (.int .i32 65533)))], none⟩]
def m33_r2 : List MI := [
  ⟨(some 10), .move (.t 0), none⟩,
  ⟨(some 11), .nilCheck (.t 10), none⟩,
  ⟨(some 12), .fieldAddr 1 (.t 11), none⟩,
  ⟨(some 13), .fieldAddr 0 (.t 12), none⟩,
  ⟨none, .store 1 (.t 13) (.k (.sc (.str []))), none⟩]
def m33_code : MCode := (.seq (.ops m33_r0) (.cond (.t 7) (.seq (.ops m33_r1) (.ops m33_r2)) .skip))
def m33 : MFunc := ⟨14, [], m33_code⟩

def m34_r0 : List MI := [
  ⟨(some 2), .move (.k (.sc (.int .i64 0))), none⟩]
def m34_r1 : List MI := [
  ⟨(some 4), .move (.t 0), none⟩,
  ⟨(some 5), .bin .geq .no (.t 4) (.k (.sc (.int .u8 65))), none⟩,
  ⟨(some 6), .move (.t 5), none⟩,
  ⟨(some 7), .move (.t 0), (some (6, true))⟩,
  ⟨(some 8), .bin .leq .no (.t 7) (.k (.sc (.int .u8 90))), (some (6, true))⟩,
  ⟨(some 9), .pick (.t 6) (.t 8) (.k (.sc (.bool false))), none⟩,
  ⟨(some 3), .move (.t 9), none⟩]
def m34_r2 : List MI := [
  ⟨(some 10), .move (.t 0), none⟩,
  ⟨(some 11), .conv (.int .i64) (.t 10), none⟩,
  ⟨(some 12), .bin .sub .no (.t 11) (.k (.sc (.int .i64 65))), none⟩,
  ⟨(some 2), .move (.t 12), none⟩]
def m34_r3 : List MI := [
  ⟨(some 14), .move (.t 0), none⟩,
  ⟨(some 15), .bin .geq .no (.t 14) (.k (.sc (.int .u8 97))), none⟩,
  ⟨(some 16), .move (.t 15), none⟩,
  ⟨(some 17), .move (.t 0), (some (16, true))⟩,
  ⟨(some 18), .bin .leq .no (.t 17) (.k (.sc (.int .u8 122))), (some (16, true))⟩,
  ⟨(some 19), .pick (.t 16) (.t 18) (.k (.sc (.bool false))), none⟩,
  ⟨(some 13), .move (.t 19), none⟩]
def m34_r4 : List MI := [
  ⟨(some 20), .move (.t 0), none⟩,
  ⟨(some 21), .conv (.int .i64) (.t 20), none⟩,
  ⟨(some 22), .bin .sub .no (.t 21) (.k (.sc (.int .i64 97))), none⟩,
  ⟨(some 23), .bin .add .no (.t 22) (.k (.sc (.int .i64 26))), none⟩,
  ⟨(some 2), .move (.t 23), none⟩]
def m34_r5 : List MI := [
  ⟨(some 25), .move (.t 0), none⟩,
  ⟨(some 26), .bin .geq .no (.t 25) (.k (.sc (.int .u8 48))), none⟩,
  ⟨(some 27), .move (.t 26), none⟩,
  ⟨(some 28), .move (.t 0), (some (27, true))⟩,
  ⟨(some 29), .bin .leq .no (.t 28) (.k (.sc (.int .u8 57))), (some (27, true))⟩,
  ⟨(some 30), .pick (.t 27) (.t 29) (.k (.sc (.bool false))), none⟩,
  ⟨(some 24), .move (.t 30), none⟩]
def m34_r6 : List MI := [
  ⟨(some 31), .move (.t 0), none⟩,
  ⟨(some 32), .conv (.int .i64) (.t 31), none⟩,
  ⟨(some 33), .bin .sub .no (.t 32) (.k (.sc (.int .i64 48))), none⟩,
  ⟨(some 34), .bin .add .no (.t 33) (.k (.sc (.int .i64 52))), none⟩,
  ⟨(some 2), .move (.t 34), none⟩]
def m34_r7 : List MI := [
  ⟨(some 36), .move (.t 0), none⟩,
  ⟨(some 37), .bin .eql .no (.t 36) (.k (.sc (.int .u8 43))), none⟩,
  ⟨(some 35), .move (.t 37), none⟩]
def m34_r8 : List MI := [
  ⟨(some 2), .move (.k (.sc (.int .i64 62))), none⟩]
def m34_r9 : List MI := [
  ⟨(some 39), .move (.t 0), none⟩,
  ⟨(some 40), .bin .eql .no (.t 39) (.k (.sc (.int .u8 47))), none⟩,
  ⟨(some 38), .move (.t 40), none⟩]
def m34_r10 : List MI := [
  ⟨(some 2), .move (.k (.sc (.int .i64 63))), none⟩]
def m34_r11 : List MI := [
  ⟨(some 2), .move (.k (.sc (.int .i64 (-1)))), none⟩]
def m34_code : MCode := (.seq (.ops m34_r0) (.seq (.block 0 (.seq (.ops m34_r1) (.cond (.t 3) (.seq (.ops m34_r2) .ret) (.seq (.ops m34_r3) (.cond (.t 13) (.seq (.ops m34_r4) .ret) (.seq (.ops m34_r5) (.cond (.t 24) (.seq (.ops m34_r6) .ret) (.seq (.ops m34_r7) (.cond (.t 35) (.seq (.ops m34_r8) .ret) (.seq (.ops m34_r9) (.cond (.t 38) (.seq (.ops m34_r10) .ret) .skip))))))))))) (.seq (.ops m34_r11) .ret)))
def m34 : MFunc := ⟨41, [.tmp 2], m34_code⟩

def m35_r0 : List MI := [
  ⟨(some 2), .move (.k (.sc (.nils))), none⟩]
def m35_r1 : List MI := [
  ⟨(some 3), .move (.k (.sc (.nils))), none⟩]
def m35_r2 : List MI := [
  ⟨(some 6), .build [.str []] [], none⟩,
  ⟨(some 7), .box 64 (.t 6), none⟩,
  ⟨(some 4), .move (.t 7), none⟩]
def m35_r3 : List MI := [
  ⟨(some 5), .move (.k (.sc (.int .i64 0))), none⟩]
def m35_r5 : List MI := [
  ⟨(some 8), .move (.t 5), none⟩,
  ⟨(some 9), .move (.t 0), none⟩,
  ⟨(some 10), .lenStr (.t 9), none⟩,
  ⟨(some 11), .bin .lss .no (.t 8) (.t 10), none⟩]
def m35_r6 : List MI := [
  ⟨(some 14), .move (.t 3), none⟩,
  ⟨(some 15), .move (.t 4), none⟩,
  ⟨(some 16), .move (.t 0), none⟩,
  ⟨(some 17), .move (.t 5), none⟩,
  ⟨(some 18), .idxStr (.t 16) (.t 17), none⟩,
  ⟨(some 19), .call 49 [(.t 15), (.t 18)], none⟩,
  ⟨(some 20), .append 21 1 4 [.int .i32 0] (.t 14) (.t 19), none⟩,
  ⟨(some 3), .move (.t 20), none⟩]
def m35_r7 : List MI := [
  ⟨(some 12), .move (.t 5), none⟩,
  ⟨(some 13), .bin .add .no (.t 12) (.k (.sc (.int .i64 1))), none⟩,
  ⟨(some 5), .move (.t 13), none⟩]
def m35_l4 : MCode := (.seq (.seq (.ops m35_r5) (.cond (.t 11) .skip (.exit 0))) (.seq (.block 1 (.ops m35_r6)) (.ops m35_r7)))
def m35_r8 : List MI := [
  ⟨(some 21), .move (.t 4), none⟩,
  ⟨(some 22), .nilCheck (.t 21), none⟩,
  ⟨(some 23), .fieldAddr 0 (.t 22), none⟩,
  ⟨(some 24), .load none (.t 23), none⟩,
  ⟨(some 25), .bin .neq .no (.t 24) (.k (.sc (.str []))), none⟩]
def m35_r9 : List MI := [
  ⟨(some 26), .move (.t 3), none⟩,
  ⟨(some 27), .buildSlice 21 1 1 [.int .i32 0] [(0, 1, (.k (.sc (.int .i32 65533))))], none⟩,
  ⟨(some 28), .append 21 1 4 [.int .i32 0] (.t 26) (.t 27), none⟩,
  ⟨(some 3), .move (.t 28), none⟩]
def m35_r10 : List MI := [
  ⟨(some 29), .move (.t 3), none⟩,
  ⟨(some 2), .move (.t 29), none⟩]
def m35_code : MCode := (.seq (.ops m35_r0) (.seq (.ops m35_r1) (.seq (.ops m35_r2) (.seq (.seq (.ops m35_r3) (.block 0 (.loop m35_l4))) (.seq (.seq (.ops m35_r8) (.cond (.t 25) (.ops m35_r9) .skip)) (.seq (.ops m35_r10) .ret))))))
def m35 : MFunc := ⟨30, [.tmp 2], m35_code⟩

def m36_r0 : List MI := [
  ⟨(some 2), .move (.k (.sc (.str []))), none⟩]
def m36_r1 : List MI := [
  ⟨(some 3), .move (.t 0), none⟩,
  ⟨(some 4), .bin .lss .no (.t 3) (.k (.sc (.int .i32 128))), none⟩]
def m36_r2 : List MI := [
  ⟨(some 5), .move (.t 0), none⟩,
  ⟨(some 6), .conv (.int .u8) (.t 5), none⟩,
  ⟨(some 7), .buildSlice 5 1 1 [.int .u8 0] [(0, 1, (.t 6))], none⟩,
  ⟨(some 8), .conv .bytesStr (.t 7), none⟩,
  ⟨(some 2), .move (.t 8), none⟩]
def m36_r3 : List MI := [
  ⟨(some 9), .move (.t 0), none⟩,
  ⟨(some 10), .bin .lss .no (.t 9) (.k (.sc (.int .i32 2048))), none⟩]
def m36_r4 : List MI := [
  ⟨(some 11), .move (.t 0), none⟩,
  ⟨(some 12), .bin .quo .no (.t 11) (.k (.sc (.int .i32 64))), none⟩,
  ⟨(some 13), .bin .add .no (.k (.sc (.int .i32 192))) (.t 12), none⟩,
  ⟨(some 14), .conv (.int .u8) (.t 13), none⟩,
  ⟨(some 15), .move (.t 0), none⟩,
  ⟨(some 16), .bin .rem .no (.t 15) (.k (.sc (.int .i32 64))), none⟩,
  ⟨(some 17), .bin .add .no (.k (.sc (.int .i32 128))) (.t 16), none⟩,
  ⟨(some 18), .conv (.int .u8) (.t 17), none⟩,
  ⟨(some 19), .buildSlice 5 1 2 [.int .u8 0] [(0, 1, (.t 14)), (1, 1, (.t 18))], none⟩,
  ⟨(some 20), .conv .bytesStr (.t 19), none⟩,
  ⟨(some 2), .move (.t 20), none⟩]
def m36_r5 : List MI := [
  ⟨(some 21), .move (.t 0), none⟩,
  ⟨(some 22), .bin .lss .no (.t 21) (.k (.sc (.int .i32 65536))), none⟩]
def m36_r6 : List MI := [
  ⟨(some 23), .move (.t 0), none⟩,
  ⟨(some 24), .bin .quo .no (.t 23) (.k (.sc (.int .i32 4096))), none⟩,
  ⟨(some 25), .bin .add .no (.k (.sc (.int .i32 224))) (.t 24), none⟩,
  ⟨(some 26), .conv (.int .u8) (.t 25), none⟩,
  ⟨(some 27), .move (.t 0), none⟩,
  ⟨(some 28), .bin .quo .no (.t 27) (.k (.sc (.int .i32 64))), none⟩,
  ⟨(some 29), .bin .rem .no (.t 28) (.k (.sc (.int .i32 64))), none⟩,
  ⟨(some 30), .bin .add .no (.k (.sc (.int .i32 128))) (.t 29), none⟩,
  ⟨(some 31), .conv (.int .u8) (.t 30), none⟩,
  ⟨(some 32), .move (.t 0), none⟩,
  ⟨(some 33), .bin .rem .no (.t 32) (.k (.sc (.int .i32 64))), none⟩,
  ⟨(some 34), .bin .add .no (.k (.sc (.int .i32 128))) (.t 33), none⟩,
  ⟨(some 35), .conv (.int .u8) (.t 34), none⟩,
  ⟨(some 36), .buildSlice 5 1 3 [.int .u8 0] [(0, 1, (.t 26)), (1, 1, (.t 31)), (2, 1, (.t 35))], none⟩,
  ⟨(some 37), .conv .bytesStr (.t 36), none⟩,
  ⟨(some 2), .move (.t 37), none⟩]
def m36_r7 : List MI := [
  ⟨(some 38), .move (.t 0), none⟩,
  ⟨(some 39), .bin .quo .no (.t 38) (.k (.sc (.int .i32 262144))), none⟩,
  ⟨(some 40), .bin .add .no (.k (.sc (.int .i32 240))) (.t 39), none⟩,
  ⟨(some 41), .conv (.int .u8) (.t 40), none⟩,
  ⟨(some 42), .move (.t 0), none⟩,
  ⟨(some 43), .bin .quo .no (.t 42) (.k (.sc (.int .i32 4096))), none⟩,
  ⟨(some 44), .bin .rem .no (.t 43) (.k (.sc (.int .i32 64))), none⟩,
  ⟨(some 45), .bin .add .no (.k (.sc (.int .i32 128))) (.t 44), none⟩,
  ⟨(some 46), .conv (.int .u8) (.t 45), none⟩,
  ⟨(some 47), .move (.t 0), none⟩,
  ⟨(some 48), .bin .quo .no (.t 47) (.k (.sc (.int .i32 64))), none⟩,
  ⟨(some 49), .bin .rem .no (.t 48) (.k (.sc (.int .i32 64))), none⟩,
  ⟨(some 50), .bin .add .no (.k (.sc (.int .i32 128))) (.t 49), none⟩,
  ⟨(some 51), .conv (.int .u8) (.t 50), none⟩,
  ⟨(some 52), .move (.t 0), none⟩,
  ⟨(some 53), .bin .rem .no (.t 52) (.k (.sc (.int .i32 64))), none⟩,
  ⟨(some 54), .bin .add .no (.k (.sc (.int .i32 128))) (.t 53), none⟩,
  ⟨(some 55), .conv (.int .u8) (.t 54), none⟩,
  ⟨(some 56), .buildSlice 5 1 4 [.int .u8 0] [(0, 1, (.t 41)), (1, 1, (.t 46)), (2, 1, (.t 51)), (3, 1, (.t 55))], none⟩,
  ⟨(some 57), .conv .bytesStr (.t 56), none⟩,
  ⟨(some 2), .move (.t 57), none⟩]
def m36_code : MCode := (.seq (.ops m36_r0) (.seq (.seq (.ops m36_r1) (.cond (.t 4) (.seq (.ops m36_r2) .ret) .skip)) (.seq (.seq (.ops m36_r3) (.cond (.t 10) (.seq (.ops m36_r4) .ret) .skip)) (.seq (.seq (.ops m36_r5) (.cond (.t 22) (.seq (.ops m36_r6) .ret) .skip)) (.seq (.ops m36_r7) .ret)))))
def m36 : MFunc := ⟨58, [.tmp 2], m36_code⟩

def m37_r0 : List MI := [
  ⟨(some 1), .box 24 (.t 0), none⟩,
  ⟨(some 2), .move (.k (.sc (.bool false))), none⟩]
def m37_r1 : List MI := [
  ⟨(some 4), .fieldAddr 2 (.t 1), none⟩,
  ⟨(some 5), .load none (.t 4), none⟩,
  ⟨(some 6), .bin .eql .no (.t 5) (.k (.sc (.int .u8 104))), none⟩,
  ⟨(some 7), .move (.t 6), none⟩,
  ⟨(some 8), .fieldAddr 2 (.t 1), (some (7, false))⟩,
  ⟨(some 9), .load none (.t 8), (some (7, false))⟩,
  ⟨(some 10), .bin .eql .no (.t 9) (.k (.sc (.int .u8 108))), (some (7, false))⟩,
  ⟨(some 11), .pick (.t 7) (.k (.sc (.bool true))) (.t 10), none⟩,
  ⟨(some 3), .move (.t 11), none⟩]
def m37_r2 : List MI := [
  ⟨(some 12), .fieldAddr 3 (.t 1), none⟩,
  ⟨(some 13), .load none (.t 12), none⟩]
def m37_r3 : List MI := [
  ⟨(some 15), .bin .eql .no (.t 13) (.k (.sc (.str []))), none⟩,
  ⟨(some 14), .move (.t 15), none⟩]
def m37_r4 : List MI := [
  ⟨(some 16), .fieldAddr 2 (.t 1), none⟩,
  ⟨(some 17), .load none (.t 16), none⟩,
  ⟨(some 18), .call 38 [(.k (.sc (.str [64, 65, 66, 67, 68, 69, 70, 71, 72, 73, 74, 75, 76, 77, 80, 83, 84, 88, 90, 96, 97, 98, 100, 101, 102, 103, 109, 114, 115, 117]))), (.t 17)], none⟩,
  ⟨(some 19), .bin .geq .no (.t 18) (.k (.sc (.int .i64 0))), none⟩,
  ⟨(some 20), .move (.t 19), none⟩,
  ⟨(some 21), .move (.t 3), (some (20, false))⟩,
  ⟨(some 22), .move (.t 21), (some (20, false))⟩,
  ⟨(some 23), .fieldAddr 4 (.t 1), (some (22, true))⟩,
  ⟨(some 24), .load none (.t 23), (some (22, true))⟩,
  ⟨(some 25), .buildSlice 3 1 1 [.int .i64 0] [(0, 1, (.k (.sc (.int .i64 4))))], (some (22, true))⟩,
  ⟨(some 26), .call 52 [(.t 24), (.t 25)], (some (22, true))⟩,
  ⟨(some 27), .pick (.t 22) (.t 26) (.k (.sc (.bool false))), (some (20, false))⟩,
  ⟨(some 28), .pick (.t 20) (.k (.sc (.bool true))) (.t 27), none⟩,
  ⟨(some 2), .move (.t 28), none⟩]
def m37_r5 : List MI := [
  ⟨(some 30), .bin .eql .no (.t 13) (.k (.sc (.str [63]))), none⟩,
  ⟨(some 29), .move (.t 30), none⟩]
def m37_r6 : List MI := [
  ⟨(some 31), .move (.t 3), none⟩,
  ⟨(some 32), .move (.t 31), none⟩,
  ⟨(some 33), .fieldAddr 4 (.t 1), (some (32, true))⟩,
  ⟨(some 34), .load none (.t 33), (some (32, true))⟩,
  ⟨(some 35), .buildSlice 3 1 6 [.int .i64 0] [(0, 1, (.k (.sc (.int .i64 1)))), (1, 1, (.k (.sc (.int .i64 6)))), (2, 1, (.k (.sc (.int .i64 7)))), (3, 1, (.k (.sc (.int .i64 25)))), (4, 1, (.k (.sc (.int .i64 1049)))), (5, 1, (.k (.sc (.int .i64 2004))))], (some (32, true))⟩,
  ⟨(some 36), .call 52 [(.t 34), (.t 35)], (some (32, true))⟩,
  ⟨(some 37), .pick (.t 32) (.t 36) (.k (.sc (.bool false))), none⟩,
  ⟨(some 2), .move (.t 37), none⟩]
def m37_r7 : List MI := [
  ⟨(some 38), .fieldAddr 3 (.t 1), none⟩,
  ⟨(some 39), .load none (.t 38), none⟩,
  ⟨(some 40), .bin .eql .no (.t 39) (.k (.sc (.str [33]))), none⟩,
  ⟨(some 41), .move (.t 40), none⟩,
  ⟨(some 42), .fieldAddr 2 (.t 1), (some (41, true))⟩,
  ⟨(some 43), .load none (.t 42), (some (41, true))⟩,
  ⟨(some 44), .bin .eql .no (.t 43) (.k (.sc (.int .u8 112))), (some (41, true))⟩,
  ⟨(some 45), .pick (.t 41) (.t 44) (.k (.sc (.bool false))), none⟩,
  ⟨(some 2), .move (.t 45), none⟩]
def m37_code : MCode := (.seq (.ops m37_r0) (.seq (.ops m37_r1) (.seq (.seq (.ops m37_r2) (.block 0 (.seq (.ops m37_r3) (.cond (.t 14) (.seq (.ops m37_r4) .ret) (.seq (.ops m37_r5) (.cond (.t 29) (.seq (.ops m37_r6) .ret) .skip)))))) (.seq (.ops m37_r7) .ret))))
def m37 : MFunc := ⟨46, [.tmp 2], m37_code⟩

def m38_r0 : List MI := [
  ⟨(some 4), .move (.k (.sc (.int .i64 0))), none⟩]
def m38_r1 : List MI := [
  ⟨(some 5), .move (.t 0), none⟩,
  ⟨(some 6), .move (.t 1), none⟩,
  ⟨(some 7), .call 53 [(.t 5), (.t 6)], none⟩,
  ⟨(some 4), .move (.t 7), none⟩]
def m38_code : MCode := (.seq (.ops m38_r0) (.seq (.ops m38_r1) .ret))
def m38 : MFunc := ⟨8, [.tmp 4], m38_code⟩

def m39_r0 : List MI := [
  ⟨(some 4), .move (.k (.sc (.str []))), none⟩,
  ⟨(some 5), .move (.k (.sc (.str []))), none⟩,
  ⟨(some 6), .move (.k (.sc (.bool false))), none⟩]
def m39_r1 : List MI := [
  ⟨(some 7), .move (.t 0), none⟩,
  ⟨(some 8), .move (.t 1), none⟩,
  ⟨(some 9), .call 54 [(.t 7), (.t 8)], none⟩,
  ⟨(some 10), .extract (.t 9) 0, none⟩,
  ⟨(some 11), .extract (.t 9) 1, none⟩,
  ⟨(some 12), .extract (.t 9) 2, none⟩,
  ⟨(some 4), .move (.t 10), none⟩,
  ⟨(some 5), .move (.t 11), none⟩,
  ⟨(some 6), .move (.t 12), none⟩]
def m39_code : MCode := (.seq (.ops m39_r0) (.seq (.ops m39_r1) .ret))
def m39 : MFunc := ⟨13, [.tmp 4, .tmp 5, .tmp 6], m39_code⟩

def m40_r0 : List MI := [
  ⟨(some 2), .move (.k (.sc (.int .i64 0))), none⟩]
def m40_r1 : List MI := [
  ⟨(some 4), .move (.t 0), none⟩,
  ⟨(some 5), .lenSlice (.t 4), none⟩,
  ⟨(some 6), .bin .eql .no (.t 5) (.k (.sc (.int .i64 0))), none⟩,
  ⟨(some 3), .move (.t 6), none⟩]
def m40_r2 : List MI := [
  ⟨(some 2), .move (.k (.sc (.int .i64 0))), none⟩]
def m40_r3 : List MI := [
  ⟨(some 8), .move (.t 0), none⟩,
  ⟨(some 9), .indexSlice 1 (.t 8) (.k (.sc (.int .i64 0))), none⟩,
  ⟨(some 10), .load none (.t 9), none⟩,
  ⟨(some 11), .lenSlice (.t 10), none⟩,
  ⟨(some 12), .bin .neq .no (.t 11) (.k (.sc (.int .i64 1))), none⟩,
  ⟨(some 7), .move (.t 12), none⟩]
def m40_r4 : List MI := [
  ⟨(some 2), .move (.k (.sc (.int .i64 (-1)))), none⟩]
def m40_r5 : List MI := [
  ⟨(some 13), .move (.t 0), none⟩,
  ⟨(some 14), .indexSlice 1 (.t 13) (.k (.sc (.int .i64 0))), none⟩,
  ⟨(some 15), .load none (.t 14), none⟩,
  ⟨(some 16), .indexSlice 1 (.t 15) (.k (.sc (.int .i64 0))), none⟩,
  ⟨(some 17), .load none (.t 16), none⟩,
  ⟨(some 2), .move (.t 17), none⟩]
def m40_code : MCode := (.seq (.ops m40_r0) (.seq (.block 0 (.seq (.ops m40_r1) (.cond (.t 3) (.seq (.ops m40_r2) .ret) (.seq (.ops m40_r3) (.cond (.t 7) (.seq (.ops m40_r4) .ret) .skip))))) (.seq (.ops m40_r5) .ret)))
def m40 : MFunc := ⟨18, [.tmp 2], m40_code⟩

def m41_r0 : List MI := [
  ⟨(some 4), .move (.k (.sc (.int .i32 0))), none⟩,
  ⟨(some 5), .move (.k (.sc (.bool false))), none⟩]
def m41_r1 : List MI := [
  ⟨(some 11), .move (.t 1), none⟩,
  ⟨(some 12), .call 55 [(.t 11)], none⟩,
  ⟨(some 10), .move (.t 12), none⟩,
  ⟨(some 13), .extract (.t 10) 0, none⟩,
  ⟨(some 14), .extract (.t 10) 1, none⟩,
  ⟨(some 15), .extract (.t 10) 2, none⟩,
  ⟨(some 16), .extract (.t 10) 3, none⟩,
  ⟨(some 6), .move (.t 13), none⟩,
  ⟨(some 7), .move (.t 14), none⟩,
  ⟨(some 8), .move (.t 15), none⟩,
  ⟨(some 9), .move (.t 16), none⟩]
def m41_r2 : List MI := [
  ⟨(some 18), .move (.t 6), none⟩,
  ⟨(some 19), .bin .lss .no (.t 18) (.k (.sc (.int .i64 0))), none⟩,
  ⟨(some 17), .move (.t 19), none⟩]
def m41_r3 : List MI := [
  ⟨(some 4), .move (.k (.sc (.int .i32 65533))), none⟩,
  ⟨(some 5), .move (.k (.sc (.bool true))), none⟩]
def m41_r4 : List MI := [
  ⟨(some 21), .move (.t 6), none⟩,
  ⟨(some 22), .bin .eql .no (.t 21) (.k (.sc (.int .i64 0))), none⟩,
  ⟨(some 20), .move (.t 22), none⟩]
def m41_r5 : List MI := [
  ⟨(some 23), .move (.t 9), none⟩,
  ⟨(some 4), .move (.t 23), none⟩,
  ⟨(some 5), .move (.k (.sc (.bool true))), none⟩]
def m41_r6 : List MI := [
  ⟨(some 24), .move (.t 0), none⟩,
  ⟨(some 25), .move (.t 6), none⟩,
  ⟨(some 26), .move (.t 7), none⟩,
  ⟨(some 27), .move (.t 8), none⟩,
  ⟨(some 28), .move (.t 9), none⟩,
  ⟨(some 29), .build [.int .i64 0, .int .i64 0, .int .u8 0, .int .u8 0, .int .i32 0] [(0, 1, (.k (.sc (.int .i64 1)))), (1, 1, (.t 25)), (2, 1, (.t 26)), (3, 1, (.t 27)), (4, 1, (.t 28))], none⟩,
  ⟨(some 30), .nilCheck (.t 24), none⟩,
  ⟨none, .store 5 (.t 30) (.t 29), none⟩]
def m41_r7 : List MI := [
  ⟨(some 4), .move (.k (.sc (.int .i32 0))), none⟩,
  ⟨(some 5), .move (.k (.sc (.bool false))), none⟩]
def m41_code : MCode := (.seq (.ops m41_r0) (.seq (.ops m41_r1) (.seq (.block 0 (.seq (.ops m41_r2) (.cond (.t 17) (.seq (.ops m41_r3) .ret) (.seq (.ops m41_r4) (.cond (.t 20) (.seq (.ops m41_r5) .ret) .skip))))) (.seq (.ops m41_r6) (.seq (.ops m41_r7) .ret)))))
def m41 : MFunc := ⟨31, [.tmp 4, .tmp 5], m41_code⟩

def m42_r0 : List MI := [
  ⟨(some 2), .move (.k (.sc (.int .i64 0))), none⟩]
def m42_r1 : List MI := [
  ⟨(some 3), .move (.t 0), none⟩,
  ⟨(some 4), .bin .eql .ptr (.t 3) (.k (.sc (.nilp))), none⟩]
def m42_r2 : List MI := [
  ⟨(some 2), .move (.k (.sc (.int .i64 0))), none⟩]
def m42_r3 : List MI := [
  ⟨(some 5), .move (.t 0), none⟩,
  ⟨(some 6), .nilCheck (.t 5), none⟩,
  ⟨(some 7), .fieldAddr 0 (.t 6), none⟩,
  ⟨(some 8), .load none (.t 7), none⟩,
  ⟨(some 2), .move (.t 8), none⟩]
def m42_code : MCode := (.seq (.ops m42_r0) (.seq (.seq (.ops m42_r1) (.cond (.t 4) (.seq (.ops m42_r2) .ret) .skip)) (.seq (.ops m42_r3) .ret)))
def m42 : MFunc := ⟨9, [.tmp 2], m42_code⟩

def m43_r0 : List MI := [
  ⟨(some 4), .move (.k (.sc (.int .i64 0))), none⟩]
def m43_r1 : List MI := [
  ⟨(some 6), .move (.t 0), none⟩,
  ⟨(some 7), .lenSlice (.t 6), none⟩,
  ⟨(some 8), .move (.k (.sc (.int .i64 0))), none⟩]
def m43_r3 : List MI := [
  ⟨(some 9), .bin .lss .no (.t 8) (.t 7), none⟩]
def m43_r4 : List MI := [
  ⟨(some 10), .move (.t 8), none⟩,
  ⟨(some 5), .move (.t 10), none⟩]
def m43_r5 : List MI := [
  ⟨(some 11), .move (.t 1), none⟩,
  ⟨(some 12), .move (.t 0), none⟩,
  ⟨(some 13), .move (.t 5), none⟩,
  ⟨(some 14), .indexSlice 1 (.t 12) (.t 13), none⟩,
  ⟨(some 15), .load none (.t 14), none⟩,
  ⟨(some 16), .callv (.t 11) [(.t 15)], none⟩]
def m43_r6 : List MI := [
  ⟨(some 17), .move (.t 5), none⟩,
  ⟨(some 4), .move (.t 17), none⟩]
def m43_r7 : List MI := [
  ⟨(some 18), .bin .add .no (.t 8) (.k (.sc (.int .i64 1))), none⟩,
  ⟨(some 8), .move (.t 18), none⟩]
def m43_l2 : MCode := (.seq (.ops m43_r3) (.seq (.cond (.t 9) .skip (.exit 0)) (.seq (.block 1 (.seq (.ops m43_r4) (.seq (.ops m43_r5) (.cond (.t 16) (.seq (.ops m43_r6) .ret) .skip)))) (.ops m43_r7))))
def m43_r8 : List MI := [
  ⟨(some 4), .move (.k (.sc (.int .i64 (-1)))), none⟩]
def m43_code : MCode := (.seq (.ops m43_r0) (.seq (.seq (.ops m43_r1) (.block 0 (.loop m43_l2))) (.seq (.ops m43_r8) .ret)))
def m43 : MFunc := ⟨19, [.tmp 4], m43_code⟩

def m44_r0 : List MI := [
  ⟨(some 4), .move (.k (.sc (.int .i64 0))), none⟩]
def m44_r1 : List MI := [
  ⟨(some 14), .move (.t 1), none⟩,
  ⟨(some 15), .lenStr (.t 14), none⟩,
  ⟨(some 5), .move (.t 15), none⟩]
def m44_r2 : List MI := [
  ⟨(some 17), .move (.t 5), none⟩,
  ⟨(some 18), .bin .eql .no (.t 17) (.k (.sc (.int .i64 0))), none⟩,
  ⟨(some 19), .move (.t 18), none⟩,
  ⟨(some 20), .move (.t 1), (some (19, false))⟩,
  ⟨(some 21), .move (.t 0), (some (19, false))⟩,
  ⟨(some 22), .bin .eql .no (.t 20) (.t 21), (some (19, false))⟩,
  ⟨(some 23), .pick (.t 19) (.k (.sc (.bool true))) (.t 22), none⟩,
  ⟨(some 16), .move (.t 23), none⟩]
def m44_r3 : List MI := [
  ⟨(some 4), .move (.k (.sc (.int .i64 0))), none⟩]
def m44_r4 : List MI := [
  ⟨(some 25), .move (.t 5), none⟩,
  ⟨(some 26), .bin .eql .no (.t 25) (.k (.sc (.int .i64 1))), none⟩,
  ⟨(some 24), .move (.t 26), none⟩]
def m44_r5 : List MI := [
  ⟨(some 27), .move (.t 0), none⟩,
  ⟨(some 28), .move (.t 1), none⟩,
  ⟨(some 29), .idxStr (.t 28) (.k (.sc (.int .i64 0))), none⟩,
  ⟨(some 30), .call 53 [(.t 27), (.t 29)], none⟩,
  ⟨(some 4), .move (.t 30), none⟩]
def m44_r6 : List MI := [
  ⟨(some 32), .move (.t 5), none⟩,
  ⟨(some 33), .move (.t 0), none⟩,
  ⟨(some 34), .lenStr (.t 33), none⟩,
  ⟨(some 35), .bin .geq .no (.t 32) (.t 34), none⟩,
  ⟨(some 31), .move (.t 35), none⟩]
def m44_r7 : List MI := [
  ⟨(some 4), .move (.k (.sc (.int .i64 (-1)))), none⟩]
def m44_r8 : List MI := [
  ⟨(some 37), .move (.t 5), none⟩,
  ⟨(some 38), .load none (.k (.sc (.ptr 0 0))), none⟩,
  ⟨(some 39), .bin .leq .no (.t 37) (.t 38), none⟩,
  ⟨(some 40), .move (.t 39), none⟩,
  ⟨(some 41), .move (.t 0), (some (40, true))⟩,
  ⟨(some 42), .lenStr (.t 41), (some (40, true))⟩,
  ⟨(some 43), .bin .leq .no (.t 42) (.k (.sc (.int .i64 64))), (some (40, true))⟩,
  ⟨(some 44), .pick (.t 40) (.t 43) (.k (.sc (.bool false))), none⟩,
  ⟨(some 36), .move (.t 44), none⟩]
def m44_r9 : List MI := [
  ⟨(some 45), .move (.t 0), none⟩,
  ⟨(some 46), .move (.t 1), none⟩,
  ⟨none, .bad, none⟩,
  ⟨(some 4), .move (.t 47), none⟩]
def m44_r10 : List MI := [
  ⟨(some 48), .move (.t 1), none⟩,
  ⟨(some 49), .idxStr (.t 48) (.k (.sc (.int .i64 0))), none⟩,
  ⟨(some 6), .move (.t 49), none⟩]
def m44_r11 : List MI := [
  ⟨(some 50), .move (.t 1), none⟩,
  ⟨(some 51), .idxStr (.t 50) (.k (.sc (.int .i64 1))), none⟩,
  ⟨(some 7), .move (.t 51), none⟩]
def m44_r12 : List MI := [
  ⟨(some 8), .move (.k (.sc (.int .i64 0))), none⟩]
def m44_r13 : List MI := [
  ⟨(some 52), .move (.t 0), none⟩,
  ⟨(some 53), .lenStr (.t 52), none⟩,
  ⟨(some 54), .move (.t 5), none⟩,
  ⟨(some 55), .bin .sub .no (.t 53) (.t 54), none⟩,
  ⟨(some 56), .bin .add .no (.t 55) (.k (.sc (.int .i64 1))), none⟩,
  ⟨(some 9), .move (.t 56), none⟩]
def m44_r14 : List MI := [
  ⟨(some 10), .move (.k (.sc (.int .i64 0))), none⟩]
def m44_r16 : List MI := [
  ⟨(some 57), .move (.t 8), none⟩,
  ⟨(some 58), .move (.t 9), none⟩,
  ⟨(some 59), .bin .lss .no (.t 57) (.t 58), none⟩]
def m44_r17 : List MI := [
  ⟨(some 60), .move (.t 0), none⟩,
  ⟨(some 61), .move (.t 8), none⟩,
  ⟨(some 62), .idxStr (.t 60) (.t 61), none⟩,
  ⟨(some 63), .move (.t 6), none⟩,
  ⟨(some 64), .bin .neq .no (.t 62) (.t 63), none⟩]
def m44_r18 : List MI := [
  ⟨(some 65), .move (.t 0), none⟩,
  ⟨(some 66), .move (.t 8), none⟩,
  ⟨(some 67), .bin .add .no (.t 66) (.k (.sc (.int .i64 1))), none⟩,
  ⟨(some 68), .move (.t 9), none⟩,
  ⟨(some 69), .sliceStr (.t 65) (some (.t 67)) (some (.t 68)), none⟩,
  ⟨(some 70), .move (.t 6), none⟩,
  ⟨(some 71), .call 53 [(.t 69), (.t 70)], none⟩,
  ⟨(some 11), .move (.t 71), none⟩]
def m44_r19 : List MI := [
  ⟨(some 72), .move (.t 11), none⟩,
  ⟨(some 73), .bin .lss .no (.t 72) (.k (.sc (.int .i64 0))), none⟩]
def m44_r20 : List MI := [
  ⟨(some 4), .move (.k (.sc (.int .i64 (-1)))), none⟩]
def m44_r21 : List MI := [
  ⟨(some 74), .move (.t 8), none⟩,
  ⟨(some 75), .move (.t 11), none⟩,
  ⟨(some 76), .bin .add .no (.t 75) (.k (.sc (.int .i64 1))), none⟩,
  ⟨(some 77), .bin .add .no (.t 74) (.t 76), none⟩,
  ⟨(some 8), .move (.t 77), none⟩]
def m44_r22 : List MI := [
  ⟨(some 78), .move (.t 0), none⟩,
  ⟨(some 79), .move (.t 8), none⟩,
  ⟨(some 80), .bin .add .no (.t 79) (.k (.sc (.int .i64 1))), none⟩,
  ⟨(some 81), .idxStr (.t 78) (.t 80), none⟩,
  ⟨(some 82), .move (.t 7), none⟩,
  ⟨(some 83), .bin .eql .no (.t 81) (.t 82), none⟩,
  ⟨(some 84), .move (.t 83), none⟩,
  ⟨(some 85), .move (.t 0), (some (84, true))⟩,
  ⟨(some 86), .move (.t 8), (some (84, true))⟩,
  ⟨(some 87), .move (.t 8), (some (84, true))⟩,
  ⟨(some 88), .move (.t 5), (some (84, true))⟩,
  ⟨(some 89), .bin .add .no (.t 87) (.t 88), (some (84, true))⟩,
  ⟨(some 90), .sliceStr (.t 85) (some (.t 86)) (some (.t 89)), (some (84, true))⟩,
  ⟨(some 91), .move (.t 1), (some (84, true))⟩,
  ⟨(some 92), .bin .eql .no (.t 90) (.t 91), (some (84, true))⟩,
  ⟨(some 93), .pick (.t 84) (.t 92) (.k (.sc (.bool false))), none⟩]
def m44_r23 : List MI := [
  ⟨(some 94), .move (.t 8), none⟩,
  ⟨(some 4), .move (.t 94), none⟩]
def m44_r24 : List MI := [
  ⟨(some 95), .move (.t 8), none⟩,
  ⟨(some 96), .bin .add .no (.t 95) (.k (.sc (.int .i64 1))), none⟩,
  ⟨(some 8), .move (.t 96), none⟩]
def m44_r25 : List MI := [
  ⟨(some 97), .move (.t 10), none⟩,
  ⟨(some 98), .bin .add .no (.t 97) (.k (.sc (.int .i64 1))), none⟩,
  ⟨(some 10), .move (.t 98), none⟩]
def m44_r26 : List MI := [
  ⟨(some 99), .move (.t 5), none⟩,
  ⟨(some 100), .load none (.k (.sc (.ptr 0 0))), none⟩,
  ⟨(some 101), .bin .leq .no (.t 99) (.t 100), none⟩,
  ⟨(some 102), .move (.t 101), none⟩,
  ⟨(some 103), .move (.t 10), (some (102, true))⟩,
  ⟨(some 104), .move (.t 8), (some (102, true))⟩,
  ⟨none, .bad, none⟩,
  ⟨(some 106), .bin .gtr .no (.t 103) (.t 105), (some (102, true))⟩,
  ⟨(some 107), .pick (.t 102) (.t 106) (.k (.sc (.bool false))), none⟩]
def m44_r27 : List MI := [
  ⟨(some 108), .move (.t 0), none⟩,
  ⟨(some 109), .move (.t 8), none⟩,
  ⟨(some 110), .sliceStr (.t 108) (some (.t 109)) none, none⟩,
  ⟨(some 111), .move (.t 1), none⟩,
  ⟨none, .bad, none⟩,
  ⟨(some 12), .move (.t 112), none⟩]
def m44_r28 : List MI := [
  ⟨(some 113), .move (.t 12), none⟩,
  ⟨(some 114), .bin .geq .no (.t 113) (.k (.sc (.int .i64 0))), none⟩]
def m44_r29 : List MI := [
  ⟨(some 115), .move (.t 12), none⟩,
  ⟨(some 116), .move (.t 8), none⟩,
  ⟨(some 117), .bin .add .no (.t 115) (.t 116), none⟩,
  ⟨(some 4), .move (.t 117), none⟩]
def m44_r30 : List MI := [
  ⟨(some 4), .move (.k (.sc (.int .i64 (-1)))), none⟩]
def m44_r31 : List MI := [
  ⟨(some 118), .move (.t 5), none⟩,
  ⟨(some 119), .load none (.k (.sc (.ptr 0 0))), none⟩,
  ⟨(some 120), .bin .gtr .no (.t 118) (.t 119), none⟩,
  ⟨(some 121), .move (.t 120), none⟩,
  ⟨(some 122), .move (.t 10), (some (121, true))⟩,
  ⟨(some 123), .move (.t 8), (some (121, true))⟩,
  ⟨(some 124), .bin .shr .no (.t 123) (.k (.sc (.int .u64 4))), (some (121, true))⟩,
  ⟨(some 125), .bin .add .no (.k (.sc (.int .i64 4))) (.t 124), (some (121, true))⟩,
  ⟨(some 126), .bin .geq .no (.t 122) (.t 125), (some (121, true))⟩,
  ⟨(some 127), .pick (.t 121) (.t 126) (.k (.sc (.bool false))), none⟩,
  ⟨(some 128), .move (.t 127), none⟩,
  ⟨(some 129), .move (.t 8), (some (128, true))⟩,
  ⟨(some 130), .move (.t 9), (some (128, true))⟩,
  ⟨(some 131), .bin .lss .no (.t 129) (.t 130), (some (128, true))⟩,
  ⟨(some 132), .pick (.t 128) (.t 131) (.k (.sc (.bool false))), none⟩]
def m44_r32 : List MI := [
  ⟨(some 133), .move (.t 0), none⟩,
  ⟨(some 134), .move (.t 8), none⟩,
  ⟨(some 135), .sliceStr (.t 133) (some (.t 134)) none, none⟩,
  ⟨(some 136), .move (.t 1), none⟩,
  ⟨none, .bad, none⟩,
  ⟨(some 13), .move (.t 137), none⟩]
def m44_r33 : List MI := [
  ⟨(some 138), .move (.t 13), none⟩,
  ⟨(some 139), .bin .lss .no (.t 138) (.k (.sc (.int .i64 0))), none⟩]
def m44_r34 : List MI := [
  ⟨(some 4), .move (.k (.sc (.int .i64 (-1)))), none⟩]
def m44_r35 : List MI := [
  ⟨(some 140), .move (.t 8), none⟩,
  ⟨(some 141), .move (.t 13), none⟩,
  ⟨(some 142), .bin .add .no (.t 140) (.t 141), none⟩,
  ⟨(some 4), .move (.t 142), none⟩]
def m44_l15 : MCode := (.seq (.seq (.ops m44_r16) (.cond (.t 59) .skip (.exit 1))) (.block 2 (.seq (.seq (.ops m44_r17) (.cond (.t 64) (.seq (.ops m44_r18) (.seq (.seq (.ops m44_r19) (.cond (.t 73) (.seq (.ops m44_r20) .ret) .skip)) (.ops m44_r21))) .skip)) (.seq (.seq (.ops m44_r22) (.cond (.t 93) (.seq (.ops m44_r23) .ret) .skip)) (.seq (.ops m44_r24) (.seq (.ops m44_r25) (.seq (.ops m44_r26) (.cond (.t 107) (.seq (.ops m44_r27) (.seq (.seq (.ops m44_r28) (.cond (.t 114) (.seq (.ops m44_r29) .ret) .skip)) (.seq (.ops m44_r30) .ret))) (.seq (.ops m44_r31) (.cond (.t 132) (.seq (.ops m44_r32) (.seq (.seq (.ops m44_r33) (.cond (.t 139) (.seq (.ops m44_r34) .ret) .skip)) (.seq (.ops m44_r35) .ret))) .skip))))))))))
def m44_r36 : List MI := [
  ⟨(some 4), .move (.k (.sc (.int .i64 (-1)))), none⟩]
def m44_code : MCode := (.seq (.ops m44_r0) (.seq (.ops m44_r1) (.seq (.block 0 (.seq (.ops m44_r2) (.cond (.t 16) (.seq (.ops m44_r3) .ret) (.seq (.ops m44_r4) (.cond (.t 24) (.seq (.ops m44_r5) .ret) (.seq (.ops m44_r6) (.cond (.t 31) (.seq (.ops m44_r7) .ret) (.seq (.ops m44_r8) (.cond (.t 36) (.seq (.ops m44_r9) .ret) .skip))))))))) (.seq (.ops m44_r10) (.seq (.ops m44_r11) (.seq (.ops m44_r12) (.seq (.ops m44_r13) (.seq (.ops m44_r14) (.seq (.block 1 (.loop m44_l15)) (.seq (.ops m44_r36) .ret))))))))))
def m44 : MFunc := ⟨143, [.tmp 4], m44_code⟩

def m45_r0 : List MI := [
  ⟨(some 4), .move (.k (.sc (.str []))), none⟩]
def m45_r1 : List MI := [
  ⟨(some 7), .move (.t 0), none⟩,
  ⟨(some 8), .bin .eql .no (.t 7) (.k (.sc (.str []))), none⟩,
  ⟨(some 9), .move (.t 8), none⟩,
  ⟨(some 10), .move (.t 1), (some (9, false))⟩,
  ⟨(some 11), .bin .eql .no (.t 10) (.k (.sc (.str []))), (some (9, false))⟩,
  ⟨(some 12), .pick (.t 9) (.k (.sc (.bool true))) (.t 11), none⟩]
def m45_r2 : List MI := [
  ⟨(some 13), .move (.t 0), none⟩,
  ⟨(some 4), .move (.t 13), none⟩]
def m45_r3 : List MI := [
  ⟨(some 14), .move (.t 1), none⟩,
  ⟨(some 15), .lenStr (.t 14), none⟩,
  ⟨(some 16), .bin .eql .no (.t 15) (.k (.sc (.int .i64 1))), none⟩,
  ⟨(some 17), .move (.t 16), none⟩,
  ⟨(some 18), .move (.t 1), (some (17, true))⟩,
  ⟨(some 19), .idxStr (.t 18) (.k (.sc (.int .i64 0))), (some (17, true))⟩,
  ⟨(some 20), .bin .lss .no (.t 19) (.k (.sc (.int .u8 128))), (some (17, true))⟩,
  ⟨(some 21), .pick (.t 17) (.t 20) (.k (.sc (.bool false))), none⟩]
def m45_r4 : List MI := [
  ⟨(some 22), .move (.t 0), none⟩,
  ⟨(some 23), .move (.t 1), none⟩,
  ⟨(some 24), .idxStr (.t 23) (.k (.sc (.int .i64 0))), none⟩,
  ⟨(some 25), .call 59 [(.t 22), (.t 24)], none⟩,
  ⟨(some 4), .move (.t 25), none⟩]
def m45_r5 : List MI := [
  ⟨(some 27), .move (.t 1), none⟩,
  ⟨none, .bad, none⟩,
  ⟨(some 26), .move (.t 28), none⟩,
  ⟨(some 29), .extract (.t 26) 0, none⟩,
  ⟨(some 30), .extract (.t 26) 1, none⟩,
  ⟨(some 5), .alloc 93 [.bool false, .bool false, .bool false, .bool false, .bool false, .bool false, .bool false, .bool false, .bool false, .bool false, .bool false, .bool false, .bool false, .bool false, .bool false, .bool false, .bool false, .bool false, .bool false, .bool false, .bool false, .bool false, .bool false, .bool false, .bool false, .bool false, .bool false, .bool false, .bool false, .bool false, .bool false, .bool false, .bool false, .bool false, .bool false, .bool false, .bool false, .bool false, .bool false, .bool false, .bool false, .bool false, .bool false, .bool false, .bool false, .bool false, .bool false, .bool false, .bool false, .bool false, .bool false, .bool false, .bool false, .bool false, .bool false, .bool false, .bool false, .bool false, .bool false, .bool false, .bool false, .bool false, .bool false, .bool false, .bool false, .bool false, .bool false, .bool false, .bool false, .bool false, .bool false, .bool false, .bool false, .bool false, .bool false, .bool false, .bool false, .bool false, .bool false, .bool false, .bool false, .bool false, .bool false, .bool false, .bool false, .bool false, .bool false, .bool false, .bool false, .bool false, .bool false, .bool false, .bool false, .bool false, .bool false, .bool false, .bool false, .bool false, .bool false, .bool false, .bool false, .bool false, .bool false, .bool false, .bool false, .bool false, .bool false, .bool false, .bool false, .bool false, .bool false, .bool false, .bool false, .bool false, .bool false, .bool false, .bool false, .bool false, .bool false, .bool false, .bool false, .bool false, .bool false, .bool false, .bool false, .bool false, .bool false, .bool false, .bool false, .bool false, .bool false, .bool false, .bool false, .bool false, .bool false, .bool false, .bool false, .bool false, .bool false, .bool false, .bool false, .bool false, .bool false, .bool false, .bool false, .bool false, .bool false, .bool false, .bool false, .bool false, .bool false, .bool false, .bool false, .bool false, .bool false, .bool false, .bool false, .bool false, .bool false, .bool false, .bool false, .bool false, .bool false, .bool false, .bool false, .bool false, .bool false, .bool false, .bool false, .bool false, .bool false, .bool false, .bool false, .bool false, .bool false, .bool false, .bool false, .bool false, .bool false, .bool false, .bool false, .bool false, .bool false, .bool false, .bool false, .bool false, .bool false, .bool false, .bool false, .bool false, .bool false, .bool false, .bool false, .bool false, .bool false, .bool false, .bool false, .bool false, .bool false, .bool false, .bool false, .bool false, .bool false, .bool false, .bool false, .bool false, .bool false, .bool false, .bool false, .bool false, .bool false, .bool false, .bool false, .bool false, .bool false, .bool false, .bool false, .bool false, .bool false, .bool false, .bool false, .bool false, .bool false, .bool false, .bool false, .bool false, .bool false, .bool false, .bool false, .bool false, .bool false, .bool false, .bool false, .bool false, .bool false, .bool false, .bool false, .bool false, .bool false, .bool false, .bool false, .bool false, .bool false, .bool false, .bool false, .bool false, .bool false, .bool false, .bool false, .bool false, .bool false, .bool false, .bool false, .bool false, .bool false, .bool false], none⟩,
  ⟨none, .store 256 (.t 5) (.t 29), none⟩,
  ⟨(some 6), .move (.t 30), none⟩]
def m45_r6 : List MI := [
  ⟨(some 31), .move (.t 6), none⟩]
def m45_r7 : List MI := [
  ⟨(some 32), .move (.t 0), none⟩,
  ⟨none, .bad, none⟩,
  ⟨(some 4), .move (.t 33), none⟩]
def m45_r8 : List MI := [
  ⟨(some 34), .move (.t 0), none⟩,
  ⟨(some 35), .move (.t 1), none⟩,
  ⟨none, .bad, none⟩,
  ⟨(some 4), .move (.t 36), none⟩]
def m45_code : MCode := (.seq (.ops m45_r0) (.seq (.seq (.ops m45_r1) (.cond (.t 12) (.seq (.ops m45_r2) .ret) .skip)) (.seq (.seq (.ops m45_r3) (.cond (.t 21) (.seq (.ops m45_r4) .ret) .skip)) (.seq (.seq (.ops m45_r5) (.seq (.ops m45_r6) (.cond (.t 31) (.seq (.ops m45_r7) .ret) .skip))) (.seq (.ops m45_r8) .ret)))))
def m45 : MFunc := ⟨37, [.tmp 4], m45_code⟩

def m46_r0 : List MI := [
  ⟨(some 4), .move (.k (.sc (.bool false))), none⟩]
def m46_r1 : List MI := [
  ⟨(some 5), .move (.k (.sc (.int .i64 0))), none⟩]
def m46_r3 : List MI := [
  ⟨(some 8), .move (.t 5), none⟩,
  ⟨(some 9), .move (.t 0), none⟩,
  ⟨(some 10), .lenSlice (.t 9), none⟩,
  ⟨(some 11), .bin .lss .no (.t 8) (.t 10), none⟩]
def m46_r4 : List MI := [
  ⟨(some 6), .move (.k (.sc (.bool false))), none⟩]
def m46_r5 : List MI := [
  ⟨(some 7), .move (.k (.sc (.int .i64 0))), none⟩]
def m46_r7 : List MI := [
  ⟨(some 14), .move (.t 7), none⟩,
  ⟨(some 15), .move (.t 1), none⟩,
  ⟨(some 16), .lenSlice (.t 15), none⟩,
  ⟨(some 17), .bin .lss .no (.t 14) (.t 16), none⟩]
def m46_r8 : List DI := [
  ⟨⟨(some 20), .move (.t 6), none⟩, 0, [], []⟩,
  ⟨⟨(some 21), .move (.t 20), none⟩, 0, [], []⟩,
  ⟨⟨(some 22), .move (.t 0), (some (21, false))⟩, 0, [], []⟩,
  ⟨⟨(some 23), .move (.t 5), (some (21, false))⟩, 0, [], []⟩,
  ⟨⟨(some 24), .indexSlice 1 (.t 22) (.t 23), (some (21, false))⟩, 0, [], []⟩,
  ⟨⟨(some 25), .load none (.t 24), (some (21, false))⟩, 1, [], []⟩,
  ⟨⟨(some 26), .lenSlice (.t 25), (some (21, false))⟩, 0, [], []⟩,
  ⟨⟨(some 27), .bin .eql .no (.t 26) (.k (.sc (.int .i64 1))), (some (21, false))⟩, 0, [], []⟩,
  ⟨⟨(some 28), .move (.t 27), (some (21, false))⟩, 0, [], []⟩,
  ⟨⟨(some 29), .move (.t 0), (some (28, true))⟩, 0, [], []⟩,
  ⟨⟨(some 30), .move (.t 5), (some (28, true))⟩, 0, [], []⟩,
  ⟨⟨(some 31), .indexSlice 1 (.t 29) (.t 30), (some (28, true))⟩, 0, [], []⟩,
  ⟨⟨(some 32), .load none (.t 31), (some (28, true))⟩, 1, [], []⟩,
  ⟨⟨(some 33), .indexSlice 1 (.t 32) (.k (.sc (.int .i64 0))), (some (28, true))⟩, 0, [], []⟩,
  ⟨⟨(some 34), .load none (.t 33), (some (28, true))⟩, 1, [], []⟩,
  ⟨⟨(some 35), .move (.t 1), (some (28, true))⟩, 0, [], []⟩,
  ⟨⟨(some 36), .move (.t 7), (some (28, true))⟩, 0, [], []⟩,
  ⟨⟨(some 37), .indexSlice 1 (.t 35) (.t 36), (some (28, true))⟩, 0, [], []⟩,
  ⟨⟨(some 38), .load none (.t 37), (some (28, true))⟩, 1, [], []⟩,
  ⟨⟨(some 39), .bin .eql .no (.t 34) (.t 38), (some (28, true))⟩, 0, [], []⟩,
  ⟨⟨(some 40), .pick (.t 28) (.t 39) (.k (.sc (.bool false))), (some (21, false))⟩, 0, [], []⟩,
  ⟨⟨(some 41), .pick (.t 21) (.k (.sc (.bool true))) (.t 40), none⟩, 0, [], []⟩,
  ⟨⟨(some 6), .move (.t 41), none⟩, 0, [], []⟩]
def m46_r9 : List MI := [
  ⟨(some 18), .move (.t 7), none⟩,
  ⟨(some 19), .bin .add .no (.t 18) (.k (.sc (.int .i64 1))), none⟩,
  ⟨(some 7), .move (.t 19), none⟩]
def m46_l6 : MCode := (.seq (.seq (.ops m46_r7) (.cond (.t 17) .skip (.exit 2))) (.seq (.block 3 (.draw m46_r8)) (.ops m46_r9)))
def m46_r10 : List MI := [
  ⟨(some 42), .move (.t 6), none⟩,
  ⟨(some 43), .un .not (.t 42), none⟩]
def m46_r11 : List MI := [
  ⟨(some 4), .move (.k (.sc (.bool false))), none⟩]
def m46_r12 : List MI := [
  ⟨(some 12), .move (.t 5), none⟩,
  ⟨(some 13), .bin .add .no (.t 12) (.k (.sc (.int .i64 1))), none⟩,
  ⟨(some 5), .move (.t 13), none⟩]
def m46_l2 : MCode := (.seq (.seq (.ops m46_r3) (.cond (.t 11) .skip (.exit 0))) (.seq (.block 1 (.seq (.ops m46_r4) (.seq (.seq (.ops m46_r5) (.block 2 (.loop m46_l6))) (.seq (.ops m46_r10) (.cond (.t 43) (.seq (.ops m46_r11) .ret) .skip))))) (.ops m46_r12)))
def m46_r13 : List MI := [
  ⟨(some 44), .move (.t 0), none⟩,
  ⟨(some 45), .lenSlice (.t 44), none⟩,
  ⟨(some 46), .bin .gtr .no (.t 45) (.k (.sc (.int .i64 0))), none⟩,
  ⟨(some 4), .move (.t 46), none⟩]
def m46_code : MCode := (.seq (.ops m46_r0) (.seq (.seq (.ops m46_r1) (.block 0 (.loop m46_l2))) (.seq (.ops m46_r13) .ret)))
def m46 : MFunc := ⟨47, [.tmp 4], m46_code⟩

def m47_r0 : List MI := [
  ⟨(some 4), .move (.k (.sc (.int .i64 0))), none⟩,
  ⟨(some 5), .move (.k (.sc (.int .i64 0))), none⟩]
def m47_r1 : List MI := [
  ⟨(some 8), .move (.t 1), none⟩,
  ⟨(some 9), .bin .eql .no (.t 8) (.k (.sc (.int .u8 24))), none⟩,
  ⟨(some 10), .move (.t 9), none⟩,
  ⟨(some 11), .move (.t 1), (some (10, false))⟩,
  ⟨(some 12), .bin .eql .no (.t 11) (.k (.sc (.int .u8 26))), (some (10, false))⟩,
  ⟨(some 13), .pick (.t 10) (.k (.sc (.bool true))) (.t 12), none⟩]
def m47_r2 : List MI := [
  ⟨(some 4), .move (.k (.sc (.int .i64 2))), none⟩,
  ⟨(some 5), .move (.k (.sc (.int .i64 0))), none⟩]
def m47_r3 : List MI := [
  ⟨(some 14), .move (.t 1), none⟩,
  ⟨(some 15), .bin .eql .no (.t 14) (.k (.sc (.int .u8 27))), none⟩]
def m47_r4 : List MI := [
  ⟨(some 4), .move (.k (.sc (.int .i64 0))), none⟩,
  ⟨(some 5), .move (.k (.sc (.int .i64 1))), none⟩]
def m47_r5 : List MI := [
  ⟨(some 16), .move (.t 0), none⟩,
  ⟨(some 17), .bin .lss .no (.t 16) (.k (.sc (.int .i64 0))), none⟩,
  ⟨(some 18), .move (.t 17), none⟩,
  ⟨(some 19), .move (.t 0), (some (18, false))⟩,
  ⟨(some 20), .bin .gtr .no (.t 19) (.k (.sc (.int .i64 13))), (some (18, false))⟩,
  ⟨(some 21), .pick (.t 18) (.k (.sc (.bool true))) (.t 20), none⟩]
def m47_r6 : List MI := [
  ⟨(some 0), .move (.k (.sc (.int .i64 0))), none⟩]
def m47_r7 : List MI := [
  ⟨(some 22), .call 63 [], none⟩,
  ⟨(some 6), .move (.t 22), none⟩]
def m47_r8 : List MI := [
  ⟨(some 7), .move (.k (.sc (.int .i64 0))), none⟩]
def m47_r10 : List MI := [
  ⟨(some 23), .move (.t 7), none⟩,
  ⟨(some 24), .move (.t 6), none⟩,
  ⟨(some 25), .lenSlice (.t 24), none⟩,
  ⟨(some 26), .bin .lss .no (.t 23) (.t 25), none⟩]
def m47_r11 : List MI := [
  ⟨(some 29), .move (.t 6), none⟩,
  ⟨(some 30), .move (.t 7), none⟩,
  ⟨(some 31), .indexSlice 5 (.t 29) (.t 30), none⟩,
  ⟨(some 32), .fieldAddr 0 (.t 31), none⟩,
  ⟨(some 33), .load none (.t 32), none⟩,
  ⟨(some 34), .move (.t 0), none⟩,
  ⟨(some 35), .bin .eql .no (.t 33) (.t 34), none⟩,
  ⟨(some 36), .move (.t 35), none⟩,
  ⟨(some 37), .move (.t 1), (some (36, true))⟩,
  ⟨(some 38), .conv (.int .i64) (.t 37), (some (36, true))⟩,
  ⟨(some 39), .move (.t 6), (some (36, true))⟩,
  ⟨(some 40), .move (.t 7), (some (36, true))⟩,
  ⟨(some 41), .indexSlice 5 (.t 39) (.t 40), (some (36, true))⟩,
  ⟨(some 42), .fieldAddr 1 (.t 41), (some (36, true))⟩,
  ⟨(some 43), .load none (.t 42), (some (36, true))⟩,
  ⟨(some 44), .bin .geq .no (.t 38) (.t 43), (some (36, true))⟩,
  ⟨(some 45), .pick (.t 36) (.t 44) (.k (.sc (.bool false))), none⟩,
  ⟨(some 46), .move (.t 45), none⟩,
  ⟨(some 47), .move (.t 1), (some (46, true))⟩,
  ⟨(some 48), .conv (.int .i64) (.t 47), (some (46, true))⟩,
  ⟨(some 49), .move (.t 6), (some (46, true))⟩,
  ⟨(some 50), .move (.t 7), (some (46, true))⟩,
  ⟨(some 51), .indexSlice 5 (.t 49) (.t 50), (some (46, true))⟩,
  ⟨(some 52), .fieldAddr 2 (.t 51), (some (46, true))⟩,
  ⟨(some 53), .load none (.t 52), (some (46, true))⟩,
  ⟨(some 54), .bin .leq .no (.t 48) (.t 53), (some (46, true))⟩,
  ⟨(some 55), .pick (.t 46) (.t 54) (.k (.sc (.bool false))), none⟩]
def m47_r12 : List DI := [
  ⟨⟨(some 56), .move (.t 6), none⟩, 0, [], []⟩,
  ⟨⟨(some 57), .move (.t 7), none⟩, 0, [], []⟩,
  ⟨⟨(some 58), .indexSlice 5 (.t 56) (.t 57), none⟩, 0, [], []⟩,
  ⟨⟨(some 59), .fieldAddr 3 (.t 58), none⟩, 0, [], []⟩,
  ⟨⟨(some 60), .load none (.t 59), none⟩, 1, [], []⟩,
  ⟨⟨(some 61), .move (.t 6), none⟩, 0, [], []⟩,
  ⟨⟨(some 62), .move (.t 7), none⟩, 0, [], []⟩,
  ⟨⟨(some 63), .indexSlice 5 (.t 61) (.t 62), none⟩, 0, [], []⟩,
  ⟨⟨(some 64), .fieldAddr 4 (.t 63), none⟩, 0, [], []⟩,
  ⟨⟨(some 65), .load none (.t 64), none⟩, 1, [], []⟩,
  ⟨⟨(some 4), .move (.t 60), none⟩, 0, [], []⟩,
  ⟨⟨(some 5), .move (.t 65), none⟩, 0, [], []⟩]
def m47_r13 : List MI := [
  ⟨(some 27), .move (.t 7), none⟩,
  ⟨(some 28), .bin .add .no (.t 27) (.k (.sc (.int .i64 1))), none⟩,
  ⟨(some 7), .move (.t 28), none⟩]
def m47_l9 : MCode := (.seq (.seq (.ops m47_r10) (.cond (.t 26) .skip (.exit 0))) (.seq (.block 1 (.seq (.ops m47_r11) (.cond (.t 55) (.seq (.draw m47_r12) .ret) .skip))) (.ops m47_r13)))
def m47_r14 : List MI := [
  ⟨(some 4), .move (.k (.sc (.int .i64 0))), none⟩,
  ⟨(some 5), .move (.k (.sc (.int .i64 0))), none⟩]
def m47_code : MCode := (.seq (.ops m47_r0) (.seq (.seq (.ops m47_r1) (.cond (.t 13) (.seq (.ops m47_r2) .ret) .skip)) (.seq (.seq (.ops m47_r3) (.cond (.t 15) (.seq (.ops m47_r4) .ret) .skip)) (.seq (.seq (.ops m47_r5) (.cond (.t 21) (.ops m47_r6) .skip)) (.seq (.ops m47_r7) (.seq (.seq (.ops m47_r8) (.block 0 (.loop m47_l9))) (.seq (.ops m47_r14) .ret)))))))
def m47 : MFunc := ⟨66, [.tmp 4, .tmp 5], m47_code⟩

def m48_r0 : List MI := [
  ⟨(some 4), .move (.t 1), none⟩,
  ⟨(some 5), .bin .eql .no (.t 4) (.k (.sc (.int .u8 24))), none⟩,
  ⟨(some 6), .move (.t 5), none⟩,
  ⟨(some 7), .move (.t 1), (some (6, false))⟩,
  ⟨(some 8), .bin .eql .no (.t 7) (.k (.sc (.int .u8 26))), (some (6, false))⟩,
  ⟨(some 9), .pick (.t 6) (.k (.sc (.bool true))) (.t 8), none⟩]
def m48_r1 : List MI := [
  ⟨(some 10), .move (.t 0), none⟩,
  ⟨(some 11), .nilCheck (.t 10), none⟩,
  ⟨(some 12), .fieldAddr 0 (.t 11), none⟩,
  ⟨(some 13), .load none (.t 12), none⟩,
  ⟨(some 14), .bin .eql .no (.t 13) (.k (.sc (.int .i64 12))), none⟩]
def m48_r2 : List MI := [
  ⟨(some 15), .move (.t 0), none⟩,
  ⟨(some 16), .nilCheck (.t 15), none⟩,
  ⟨(some 17), .fieldAddr 5 (.t 16), none⟩,
  ⟨(some 18), .load none (.t 17), none⟩,
  ⟨(some 19), .lenStr (.t 18), none⟩,
  ⟨(some 20), .bin .leq .no (.t 19) (.k (.sc (.int .i64 1024))), none⟩]
def m48_r3 : List DI := [
  ⟨⟨(some 21), .move (.t 0), none⟩, 0, [], [10, 11]⟩,
  ⟨⟨(some 22), .move (.t 0), none⟩, 0, [], [10]⟩,
  ⟨⟨(some 23), .nilCheck (.t 22), none⟩, 0, [], [10]⟩,
  ⟨⟨(some 24), .fieldAddr 6 (.t 23), none⟩, 0, [], [10]⟩,
  ⟨⟨(some 25), .load none (.t 24), none⟩, 1, [], [10]⟩,
  ⟨⟨(some 26), .move (.t 0), none⟩, 0, [], []⟩,
  ⟨⟨(some 27), .nilCheck (.t 26), none⟩, 0, [], []⟩,
  ⟨⟨(some 28), .fieldAddr 5 (.t 27), none⟩, 0, [], []⟩,
  ⟨⟨(some 29), .load none (.t 28), none⟩, 1, [], []⟩,
  ⟨⟨(some 30), .build [.int .i64 0, .int .i32 0, .int .u8 0, .str [], .nils, .str []] [(0, 1, (.k (.sc (.int .i64 5)))), (5, 1, (.t 29))], none⟩, 0, [], []⟩,
  ⟨⟨(some 31), .buildSlice 42 6 1 [.int .i64 0, .int .i32 0, .int .u8 0, .str [], .nils, .str []] [(0, 6, (.t 30))], none⟩, 2, [], []⟩,
  ⟨⟨(some 32), .append 42 6 72 [.int .i64 0, .int .i32 0, .int .u8 0, .str [], .nils, .str []] (.t 25) (.t 31), none⟩, 2, [], []⟩,
  ⟨⟨(some 33), .nilCheck (.t 21), none⟩, 0, [], []⟩,
  ⟨⟨(some 34), .fieldAddr 6 (.t 33), none⟩, 0, [], []⟩,
  ⟨⟨none, .store 1 (.t 34) (.t 32), none⟩, 2, [], []⟩]
def m48_r4 : List MI := [
  ⟨(some 35), .move (.t 0), none⟩,
  ⟨(some 36), .nilCheck (.t 35), none⟩,
  ⟨(some 37), .fieldAddr 5 (.t 36), none⟩,
  ⟨(some 38), .load none (.t 37), none⟩,
  ⟨(some 39), .lenStr (.t 38), none⟩,
  ⟨(some 40), .bin .leq .no (.t 39) (.k (.sc (.int .i64 256))), none⟩,
  ⟨(some 41), .move (.t 40), none⟩,
  ⟨(some 42), .move (.t 0), (some (41, true))⟩,
  ⟨(some 43), .nilCheck (.t 42), (some (41, true))⟩,
  ⟨(some 44), .fieldAddr 3 (.t 43), (some (41, true))⟩,
  ⟨(some 45), .load none (.t 44), (some (41, true))⟩,
  ⟨(some 46), .lenStr (.t 45), (some (41, true))⟩,
  ⟨(some 47), .bin .leq .no (.t 46) (.k (.sc (.int .i64 2))), (some (41, true))⟩,
  ⟨(some 48), .pick (.t 41) (.t 47) (.k (.sc (.bool false))), none⟩]
def m48_r5 : List DI := [
  ⟨⟨(some 49), .move (.t 0), none⟩, 0, [], [17, 23, 24]⟩,
  ⟨⟨(some 50), .move (.t 0), none⟩, 0, [], [17, 23]⟩,
  ⟨⟨(some 51), .nilCheck (.t 50), none⟩, 0, [], [17, 23]⟩,
  ⟨⟨(some 52), .fieldAddr 6 (.t 51), none⟩, 0, [], [17, 23]⟩,
  ⟨⟨(some 53), .load none (.t 52), none⟩, 1, [], [17, 23]⟩,
  ⟨⟨(some 54), .move (.t 0), none⟩, 0, [], [17]⟩,
  ⟨⟨(some 55), .nilCheck (.t 54), none⟩, 0, [], [17]⟩,
  ⟨⟨(some 56), .fieldAddr 4 (.t 55), none⟩, 0, [], [17]⟩,
  ⟨⟨(some 57), .load none (.t 56), none⟩, 1, [], [17]⟩,
  ⟨⟨(some 58), .move (.t 0), none⟩, 0, [], [17]⟩,
  ⟨⟨(some 59), .nilCheck (.t 58), none⟩, 0, [], [17]⟩,
  ⟨⟨(some 60), .fieldAddr 3 (.t 59), none⟩, 0, [], [17]⟩,
  ⟨⟨(some 61), .load none (.t 60), none⟩, 1, [], [17]⟩,
  ⟨⟨(some 62), .move (.t 0), none⟩, 0, [], []⟩,
  ⟨⟨(some 63), .nilCheck (.t 62), none⟩, 0, [], []⟩,
  ⟨⟨(some 64), .fieldAddr 2 (.t 63), none⟩, 0, [], []⟩,
  ⟨⟨(some 65), .load none (.t 64), none⟩, 1, [], []⟩,
  ⟨⟨(some 66), .call 51 [(.t 65)], none⟩, 2, [], []⟩,
  ⟨⟨(some 67), .move (.t 0), none⟩, 0, [17], []⟩,
  ⟨⟨(some 68), .nilCheck (.t 67), none⟩, 0, [17], []⟩,
  ⟨⟨(some 69), .fieldAddr 5 (.t 68), none⟩, 0, [17], []⟩,
  ⟨⟨(some 70), .load none (.t 69), none⟩, 1, [17], []⟩,
  ⟨⟨(some 71), .build [.int .i64 0, .int .i32 0, .int .u8 0, .str [], .nils, .str []] [(0, 1, (.k (.sc (.int .i64 6)))), (2, 1, (.t 57)), (3, 1, (.t 61)), (4, 1, (.t 66)), (5, 1, (.t 70))], none⟩, 0, [], []⟩,
  ⟨⟨(some 72), .buildSlice 42 6 1 [.int .i64 0, .int .i32 0, .int .u8 0, .str [], .nils, .str []] [(0, 6, (.t 71))], none⟩, 2, [], []⟩,
  ⟨⟨(some 73), .append 42 6 72 [.int .i64 0, .int .i32 0, .int .u8 0, .str [], .nils, .str []] (.t 53) (.t 72), none⟩, 2, [], []⟩,
  ⟨⟨(some 74), .nilCheck (.t 49), none⟩, 0, [], []⟩,
  ⟨⟨(some 75), .fieldAddr 6 (.t 74), none⟩, 0, [], []⟩,
  ⟨⟨none, .store 1 (.t 75) (.t 73), none⟩, 2, [], []⟩]
def m48_code : MCode := (.seq (.seq (.ops m48_r0) (.cond (.t 9) .ret .skip)) (.seq (.seq (.ops m48_r1) (.cond (.t 14) (.seq (.seq (.ops m48_r2) (.cond (.t 20) (.draw m48_r3) .skip)) .ret) .skip)) (.seq (.ops m48_r4) (.cond (.t 48) (.draw m48_r5) .skip))))
def m48 : MFunc := ⟨76, [], m48_code⟩

def m49_r0 : List MI := [
  ⟨(some 4), .move (.k (.sc (.nils))), none⟩]
def m49_r1 : List MI := [
  ⟨(some 5), .move (.k (.sc (.nils))), none⟩]
def m49_r2 : List DI := [
  ⟨⟨(some 7), .move (.t 0), none⟩, 0, [], [5, 6]⟩,
  ⟨⟨(some 8), .nilCheck (.t 7), none⟩, 0, [], [5, 6]⟩,
  ⟨⟨(some 9), .fieldAddr 0 (.t 8), none⟩, 0, [], [5, 6]⟩,
  ⟨⟨(some 10), .load none (.t 9), none⟩, 1, [], [5, 6]⟩,
  ⟨⟨(some 11), .move (.t 1), none⟩, 0, [], []⟩,
  ⟨⟨(some 12), .buildSlice 5 1 1 [.int .u8 0] [(0, 1, (.t 11))], none⟩, 2, [], []⟩,
  ⟨⟨(some 13), .conv .bytesStr (.t 12), none⟩, 2, [], []⟩,
  ⟨⟨(some 14), .bin .add .no (.t 10) (.t 13), none⟩, 0, [], []⟩,
  ⟨⟨(some 6), .move (.t 14), none⟩, 0, [], []⟩]
def m49_r3 : List MI := [
  ⟨(some 15), .move (.t 0), none⟩,
  ⟨(some 16), .nilCheck (.t 15), none⟩,
  ⟨(some 17), .fieldAddr 0 (.t 16), none⟩,
  ⟨(some 18), .load none (.t 17), none⟩,
  ⟨(some 19), .bin .neq .no (.t 18) (.k (.sc (.str []))), none⟩,
  ⟨(some 20), .move (.t 19), none⟩,
  ⟨(some 21), .move (.t 6), (some (20, true))⟩,
  ⟨(some 22), .call 64 [(.t 21)], (some (20, true))⟩,
  ⟨(some 23), .bin .eql .no (.t 22) (.k (.sc (.int .i64 0))), (some (20, true))⟩,
  ⟨(some 24), .pick (.t 20) (.t 23) (.k (.sc (.bool false))), none⟩]
def m49_r4 : List MI := [
  ⟨(some 25), .move (.t 5), none⟩,
  ⟨(some 26), .buildSlice 21 1 1 [.int .i32 0] [(0, 1, (.k (.sc (.int .i32 65533))))], none⟩,
  ⟨(some 27), .append 21 1 4 [.int .i32 0] (.t 25) (.t 26), none⟩,
  ⟨(some 5), .move (.t 27), none⟩]
def m49_r5 : List MI := [
  ⟨(some 28), .move (.t 1), none⟩,
  ⟨(some 29), .buildSlice 5 1 1 [.int .u8 0] [(0, 1, (.t 28))], none⟩,
  ⟨(some 30), .conv .bytesStr (.t 29), none⟩,
  ⟨(some 6), .move (.t 30), none⟩]
def m49_r6 : List MI := [
  ⟨(some 31), .move (.t 0), none⟩,
  ⟨(some 32), .nilCheck (.t 31), none⟩,
  ⟨(some 33), .fieldAddr 0 (.t 32), none⟩,
  ⟨none, .store 1 (.t 33) (.k (.sc (.str []))), none⟩]
def m49_r7 : List MI := [
  ⟨(some 34), .move (.t 6), none⟩,
  ⟨(some 35), .call 64 [(.t 34)], none⟩]
def m49_r8 : List MI := [
  ⟨(some 37), .bin .eql .no (.t 35) (.k (.sc (.int .i64 0))), none⟩,
  ⟨(some 36), .move (.t 37), none⟩]
def m49_r9 : List MI := [
  ⟨(some 38), .move (.t 5), none⟩,
  ⟨(some 39), .buildSlice 21 1 1 [.int .i32 0] [(0, 1, (.k (.sc (.int .i32 65533))))], none⟩,
  ⟨(some 40), .append 21 1 4 [.int .i32 0] (.t 38) (.t 39), none⟩,
  ⟨(some 4), .move (.t 40), none⟩]
def m49_r10 : List MI := [
  ⟨(some 42), .bin .eql .no (.t 35) (.k (.sc (.int .i64 1))), none⟩,
  ⟨(some 41), .move (.t 42), none⟩]
def m49_r11 : List MI := [
  ⟨(some 43), .move (.t 0), none⟩,
  ⟨(some 44), .move (.t 6), none⟩,
  ⟨(some 45), .nilCheck (.t 43), none⟩,
  ⟨(some 46), .fieldAddr 0 (.t 45), none⟩,
  ⟨none, .store 1 (.t 46) (.t 44), none⟩]
def m49_r12 : List MI := [
  ⟨(some 47), .move (.t 5), none⟩,
  ⟨(some 4), .move (.t 47), none⟩]
def m49_r13 : List MI := [
  ⟨(some 48), .move (.t 5), none⟩,
  ⟨(some 49), .move (.t 6), none⟩,
  ⟨(some 50), .call 65 [(.t 49)], none⟩,
  ⟨(some 51), .buildSlice 21 1 1 [.int .i32 0] [(0, 1, (.t 50))], none⟩,
  ⟨(some 52), .append 21 1 4 [.int .i32 0] (.t 48) (.t 51), none⟩,
  ⟨(some 4), .move (.t 52), none⟩]
def m49_code : MCode := (.seq (.ops m49_r0) (.seq (.ops m49_r1) (.seq (.draw m49_r2) (.seq (.seq (.ops m49_r3) (.cond (.t 24) (.seq (.ops m49_r4) (.ops m49_r5)) .skip)) (.seq (.ops m49_r6) (.seq (.seq (.ops m49_r7) (.block 0 (.seq (.ops m49_r8) (.cond (.t 36) (.seq (.ops m49_r9) .ret) (.seq (.ops m49_r10) (.cond (.t 41) (.seq (.ops m49_r11) (.seq (.ops m49_r12) .ret)) .skip)))))) (.seq (.ops m49_r13) .ret)))))))
def m49 : MFunc := ⟨53, [.tmp 4], m49_code⟩

def m50_r0 : List MI := [
  ⟨(some 4), .move (.t 0), none⟩,
  ⟨(some 5), .move (.t 0), none⟩,
  ⟨(some 6), .nilCheck (.t 5), none⟩,
  ⟨(some 7), .fieldAddr 6 (.t 6), none⟩,
  ⟨(some 8), .load none (.t 7), none⟩,
  ⟨(some 9), .move (.t 1), none⟩,
  ⟨(some 10), .build [.int .i64 0, .int .i32 0, .int .u8 0, .str [], .nils, .str []] [(0, 1, (.k (.sc (.int .i64 1)))), (1, 1, (.t 9))], none⟩,
  ⟨(some 11), .buildSlice 42 6 1 [.int .i64 0, .int .i32 0, .int .u8 0, .str [], .nils, .str []] [(0, 6, (.t 10))], none⟩,
  ⟨(some 12), .append 42 6 72 [.int .i64 0, .int .i32 0, .int .u8 0, .str [], .nils, .str []] (.t 8) (.t 11), none⟩,
  ⟨(some 13), .nilCheck (.t 4), none⟩,
  ⟨(some 14), .fieldAddr 6 (.t 13), none⟩,
  ⟨none, .store 1 (.t 14) (.t 12), none⟩]
def m50_code : MCode := (.ops m50_r0)
def m50 : MFunc := ⟨15, [], m50_code⟩

def m51_r0 : List MI := [
  ⟨(some 2), .move (.k (.sc (.nils))), none⟩]
def m51_r1 : List MI := [
  ⟨(some 3), .move (.k (.sc (.nils))), none⟩]
def m51_r2 : List MI := [
  ⟨(some 10), .buildSlice 3 1 0 [.int .i64 0] [], none⟩,
  ⟨(some 4), .move (.t 10), none⟩]
def m51_r3 : List MI := [
  ⟨(some 5), .move (.k (.sc (.int .i64 0))), none⟩]
def m51_r4 : List MI := [
  ⟨(some 6), .move (.k (.sc (.bool false))), none⟩]
def m51_r5 : List MI := [
  ⟨(some 7), .move (.k (.sc (.int .i64 1))), none⟩]
def m51_r6 : List MI := [
  ⟨(some 8), .move (.k (.sc (.int .i64 0))), none⟩]
def m51_r8 : List MI := [
  ⟨(some 11), .move (.t 8), none⟩,
  ⟨(some 12), .move (.t 0), none⟩,
  ⟨(some 13), .lenStr (.t 12), none⟩,
  ⟨(some 14), .bin .leq .no (.t 11) (.t 13), none⟩]
def m51_r9 : List MI := [
  ⟨(some 9), .move (.k (.sc (.int .u8 59))), none⟩]
def m51_r10 : List MI := [
  ⟨(some 17), .move (.t 8), none⟩,
  ⟨(some 18), .move (.t 0), none⟩,
  ⟨(some 19), .lenStr (.t 18), none⟩,
  ⟨(some 20), .bin .lss .no (.t 17) (.t 19), none⟩]
def m51_r11 : List MI := [
  ⟨(some 21), .move (.t 0), none⟩,
  ⟨(some 22), .move (.t 8), none⟩,
  ⟨(some 23), .idxStr (.t 21) (.t 22), none⟩,
  ⟨(some 9), .move (.t 23), none⟩]
def m51_r12 : List MI := [
  ⟨(some 24), .move (.t 9), none⟩,
  ⟨(some 25), .bin .lss .no (.t 24) (.k (.sc (.int .u8 48))), none⟩,
  ⟨(some 26), .move (.t 25), none⟩,
  ⟨(some 27), .move (.t 9), (some (26, false))⟩,
  ⟨(some 28), .bin .gtr .no (.t 27) (.k (.sc (.int .u8 59))), (some (26, false))⟩,
  ⟨(some 29), .pick (.t 26) (.k (.sc (.bool true))) (.t 28), none⟩]
def m51_r13 : List MI := [
  ⟨(some 30), .move (.t 8), none⟩,
  ⟨(some 31), .move (.t 0), none⟩,
  ⟨(some 32), .lenStr (.t 31), none⟩,
  ⟨(some 33), .bin .lss .no (.t 30) (.t 32), none⟩]
def m51_r14 : List MI := [
  ⟨(some 6), .move (.k (.sc (.bool true))), none⟩]
def m51_r15 : List MI := [
  ⟨(some 34), .move (.t 9), none⟩,
  ⟨(some 35), .bin .leq .no (.t 34) (.k (.sc (.int .u8 57))), none⟩]
def m51_r16 : List MI := [
  ⟨(some 36), .move (.t 7), none⟩,
  ⟨(some 37), .bin .leq .no (.t 36) (.k (.sc (.int .i64 8))), none⟩]
def m51_r17 : List MI := [
  ⟨(some 38), .move (.t 5), none⟩,
  ⟨(some 39), .bin .mul .no (.k (.sc (.int .i64 10))) (.t 38), none⟩,
  ⟨(some 40), .move (.t 9), none⟩,
  ⟨(some 41), .conv (.int .i64) (.t 40), none⟩,
  ⟨(some 42), .bin .add .no (.t 39) (.t 41), none⟩,
  ⟨(some 43), .bin .sub .no (.t 42) (.k (.sc (.int .i64 48))), none⟩,
  ⟨(some 5), .move (.t 43), none⟩]
def m51_r18 : List MI := [
  ⟨(some 44), .move (.t 5), none⟩,
  ⟨(some 45), .bin .gtr .no (.t 44) (.k (.sc (.int .i64 9999))), none⟩]
def m51_r19 : List MI := [
  ⟨(some 5), .move (.k (.sc (.int .i64 9999))), none⟩]
def m51_r20 : List MI := [
  ⟨(some 46), .move (.t 7), none⟩,
  ⟨(some 47), .bin .leq .no (.t 46) (.k (.sc (.int .i64 8))), none⟩]
def m51_r21 : List MI := [
  ⟨(some 48), .move (.t 4), none⟩,
  ⟨(some 49), .move (.t 5), none⟩,
  ⟨(some 50), .buildSlice 3 1 1 [.int .i64 0] [(0, 1, (.t 49))], none⟩,
  ⟨(some 51), .append 3 1 8 [.int .i64 0] (.t 48) (.t 50), none⟩,
  ⟨(some 4), .move (.t 51), none⟩]
def m51_r22 : List MI := [
  ⟨(some 5), .move (.k (.sc (.int .i64 0))), none⟩]
def m51_r23 : List MI := [
  ⟨(some 52), .move (.t 7), none⟩,
  ⟨(some 53), .bin .add .no (.t 52) (.k (.sc (.int .i64 1))), none⟩,
  ⟨(some 7), .move (.t 53), none⟩]
def m51_r24 : List MI := [
  ⟨(some 54), .move (.t 9), none⟩,
  ⟨(some 55), .bin .eql .no (.t 54) (.k (.sc (.int .u8 59))), none⟩]
def m51_r25 : List MI := [
  ⟨(some 56), .move (.t 6), none⟩,
  ⟨(some 57), .move (.t 56), none⟩,
  ⟨(some 58), .move (.t 3), (some (57, true))⟩,
  ⟨(some 59), .lenSlice (.t 58), (some (57, true))⟩,
  ⟨(some 60), .bin .lss .no (.t 59) (.k (.sc (.int .i64 16))), (some (57, true))⟩,
  ⟨(some 61), .pick (.t 57) (.t 60) (.k (.sc (.bool false))), none⟩]
def m51_r26 : List MI := [
  ⟨(some 62), .move (.t 3), none⟩,
  ⟨(some 63), .move (.t 4), none⟩,
  ⟨(some 64), .buildSlice 26 1 1 [.nils] [(0, 1, (.t 63))], none⟩,
  ⟨(some 65), .append 26 1 24 [.nils] (.t 62) (.t 64), none⟩,
  ⟨(some 3), .move (.t 65), none⟩]
def m51_r27 : List MI := [
  ⟨(some 66), .buildSlice 3 1 0 [.int .i64 0] [], none⟩,
  ⟨(some 4), .move (.t 66), none⟩]
def m51_r28 : List MI := [
  ⟨(some 7), .move (.k (.sc (.int .i64 1))), none⟩]
def m51_r29 : List MI := [
  ⟨(some 15), .move (.t 8), none⟩,
  ⟨(some 16), .bin .add .no (.t 15) (.k (.sc (.int .i64 1))), none⟩,
  ⟨(some 8), .move (.t 16), none⟩]
def m51_l7 : MCode := (.seq (.seq (.ops m51_r8) (.cond (.t 14) .skip (.exit 0))) (.seq (.block 1 (.seq (.ops m51_r9) (.seq (.seq (.ops m51_r10) (.cond (.t 20) (.ops m51_r11) .skip)) (.seq (.seq (.ops m51_r12) (.cond (.t 29) (.exit 1) .skip)) (.seq (.seq (.ops m51_r13) (.cond (.t 33) (.ops m51_r14) .skip)) (.seq (.seq (.ops m51_r15) (.cond (.t 35) (.seq (.seq (.ops m51_r16) (.cond (.t 37) (.seq (.ops m51_r17) (.seq (.ops m51_r18) (.cond (.t 45) (.ops m51_r19) .skip))) .skip)) (.exit 1)) .skip)) (.seq (.seq (.ops m51_r20) (.cond (.t 47) (.ops m51_r21) .skip)) (.seq (.ops m51_r22) (.seq (.ops m51_r23) (.seq (.ops m51_r24) (.cond (.t 55) (.seq (.seq (.ops m51_r25) (.cond (.t 61) (.ops m51_r26) .skip)) (.seq (.ops m51_r27) (.ops m51_r28))) .skip))))))))))) (.ops m51_r29)))
def m51_r30 : List MI := [
  ⟨(some 67), .move (.t 3), none⟩,
  ⟨(some 2), .move (.t 67), none⟩]
def m51_code : MCode := (.seq (.ops m51_r0) (.seq (.ops m51_r1) (.seq (.ops m51_r2) (.seq (.ops m51_r3) (.seq (.ops m51_r4) (.seq (.ops m51_r5) (.seq (.seq (.ops m51_r6) (.block 0 (.loop m51_l7))) (.seq (.ops m51_r30) .ret))))))))
def m51 : MFunc := ⟨68, [.tmp 2], m51_code⟩

def m52_r0 : List MI := [
  ⟨(some 3), .box 26 (.t 1), none⟩,
  ⟨(some 4), .move (.k (.sc (.bool false))), none⟩]
def m52_r1 : List MI := [
  ⟨(some 5), .move (.t 0), none⟩,
  ⟨(some 6), .lenSlice (.t 5), none⟩,
  ⟨(some 7), .bin .gtr .no (.t 6) (.k (.sc (.int .i64 0))), none⟩,
  ⟨(some 8), .move (.t 7), none⟩,
  ⟨(some 9), .move (.t 0), (some (8, true))⟩,
  ⟨(some 10), .makeFunc 67 [(.t 3)], (some (8, true))⟩,
  ⟨(some 11), .call 66 [(.t 9), (.t 10)], (some (8, true))⟩,
  ⟨(some 12), .un .not (.t 11), (some (8, true))⟩,
  ⟨(some 13), .pick (.t 8) (.t 12) (.k (.sc (.bool false))), none⟩,
  ⟨(some 4), .move (.t 13), none⟩]
def m52_code : MCode := (.seq (.ops m52_r0) (.seq (.ops m52_r1) .ret))
def m52 : MFunc := ⟨14, [.tmp 4], m52_code⟩

def m53_r0 : List MI := [
  ⟨(some 4), .move (.k (.sc (.int .i64 0))), none⟩]
def m53_r1 : List MI := [
  ⟨(some 5), .move (.t 0), none⟩,
  ⟨(some 6), .move (.t 1), none⟩,
  ⟨(some 7), .indexByte (.t 5) (.t 6), none⟩,
  ⟨(some 4), .move (.t 7), none⟩]
def m53_code : MCode := (.seq (.ops m53_r0) (.seq (.ops m53_r1) .ret))
def m53 : MFunc := ⟨8, [.tmp 4], m53_code⟩

def m54_r0 : List MI := [
  ⟨(some 4), .move (.k (.sc (.str []))), none⟩,
  ⟨(some 5), .move (.k (.sc (.str []))), none⟩,
  ⟨(some 6), .move (.k (.sc (.bool false))), none⟩]
def m54_r1 : List MI := [
  ⟨(some 8), .move (.t 0), none⟩,
  ⟨(some 9), .move (.t 1), none⟩,
  ⟨(some 10), .call 44 [(.t 8), (.t 9)], none⟩,
  ⟨(some 7), .move (.t 10), none⟩]
def m54_r2 : List MI := [
  ⟨(some 11), .move (.t 7), none⟩,
  ⟨(some 12), .bin .geq .no (.t 11) (.k (.sc (.int .i64 0))), none⟩]
def m54_r3 : List DI := [
  ⟨⟨(some 13), .move (.t 0), none⟩, 0, [], []⟩,
  ⟨⟨(some 14), .move (.t 7), none⟩, 0, [], []⟩,
  ⟨⟨(some 15), .sliceStr (.t 13) none (some (.t 14)), none⟩, 0, [], []⟩,
  ⟨⟨(some 16), .move (.t 0), none⟩, 0, [], []⟩,
  ⟨⟨(some 17), .move (.t 7), none⟩, 0, [], []⟩,
  ⟨⟨(some 18), .move (.t 1), none⟩, 0, [], []⟩,
  ⟨⟨(some 19), .lenStr (.t 18), none⟩, 0, [], []⟩,
  ⟨⟨(some 20), .bin .add .no (.t 17) (.t 19), none⟩, 0, [], []⟩,
  ⟨⟨(some 21), .sliceStr (.t 16) (some (.t 20)) none, none⟩, 0, [], []⟩,
  ⟨⟨(some 4), .move (.t 15), none⟩, 0, [], []⟩,
  ⟨⟨(some 5), .move (.t 21), none⟩, 0, [], []⟩,
  ⟨⟨(some 6), .move (.k (.sc (.bool true))), none⟩, 0, [], []⟩]
def m54_r4 : List MI := [
  ⟨(some 22), .move (.t 0), none⟩,
  ⟨(some 4), .move (.t 22), none⟩,
  ⟨(some 5), .move (.k (.sc (.str []))), none⟩,
  ⟨(some 6), .move (.k (.sc (.bool false))), none⟩]
def m54_code : MCode := (.seq (.ops m54_r0) (.seq (.seq (.ops m54_r1) (.seq (.ops m54_r2) (.cond (.t 12) (.seq (.draw m54_r3) .ret) .skip))) (.seq (.ops m54_r4) .ret)))
def m54 : MFunc := ⟨23, [.tmp 4, .tmp 5, .tmp 6], m54_code⟩

def m55_r0 : List MI := [
  ⟨(some 2), .move (.k (.sc (.int .i64 0))), none⟩,
  ⟨(some 3), .move (.k (.sc (.int .u8 0))), none⟩,
  ⟨(some 4), .move (.k (.sc (.int .u8 0))), none⟩,
  ⟨(some 5), .move (.k (.sc (.int .i32 0))), none⟩]
def m55_r1 : List MI := [
  ⟨(some 7), .move (.t 0), none⟩,
  ⟨(some 8), .bin .lss .no (.t 7) (.k (.sc (.int .u8 128))), none⟩,
  ⟨(some 6), .move (.t 8), none⟩]
def m55_r2 : List MI := [
  ⟨(some 9), .move (.t 0), none⟩,
  ⟨(some 10), .conv (.int .i32) (.t 9), none⟩,
  ⟨(some 2), .move (.k (.sc (.int .i64 0))), none⟩,
  ⟨(some 3), .move (.k (.sc (.int .u8 0))), none⟩,
  ⟨(some 4), .move (.k (.sc (.int .u8 0))), none⟩,
  ⟨(some 5), .move (.t 10), none⟩]
def m55_r3 : List MI := [
  ⟨(some 12), .move (.t 0), none⟩,
  ⟨(some 13), .bin .lss .no (.t 12) (.k (.sc (.int .u8 194))), none⟩,
  ⟨(some 14), .move (.t 13), none⟩,
  ⟨(some 15), .move (.t 0), (some (14, false))⟩,
  ⟨(some 16), .bin .gtr .no (.t 15) (.k (.sc (.int .u8 244))), (some (14, false))⟩,
  ⟨(some 17), .pick (.t 14) (.k (.sc (.bool true))) (.t 16), none⟩,
  ⟨(some 11), .move (.t 17), none⟩]
def m55_r4 : List MI := [
  ⟨(some 2), .move (.k (.sc (.int .i64 (-1)))), none⟩,
  ⟨(some 3), .move (.k (.sc (.int .u8 0))), none⟩,
  ⟨(some 4), .move (.k (.sc (.int .u8 0))), none⟩,
  ⟨(some 5), .move (.k (.sc (.int .i32 0))), none⟩]
def m55_r5 : List MI := [
  ⟨(some 19), .move (.t 0), none⟩,
  ⟨(some 20), .bin .lss .no (.t 19) (.k (.sc (.int .u8 224))), none⟩,
  ⟨(some 18), .move (.t 20), none⟩]
def m55_r6 : List MI := [
  ⟨(some 21), .move (.t 0), none⟩,
  ⟨(some 22), .bin .and .no (.t 21) (.k (.sc (.int .u8 31))), none⟩,
  ⟨(some 23), .conv (.int .i32) (.t 22), none⟩,
  ⟨(some 2), .move (.k (.sc (.int .i64 1))), none⟩,
  ⟨(some 3), .move (.k (.sc (.int .u8 128))), none⟩,
  ⟨(some 4), .move (.k (.sc (.int .u8 191))), none⟩,
  ⟨(some 5), .move (.t 23), none⟩]
def m55_r7 : List MI := [
  ⟨(some 25), .move (.t 0), none⟩,
  ⟨(some 26), .bin .eql .no (.t 25) (.k (.sc (.int .u8 224))), none⟩,
  ⟨(some 24), .move (.t 26), none⟩]
def m55_r8 : List MI := [
  ⟨(some 2), .move (.k (.sc (.int .i64 2))), none⟩,
  ⟨(some 3), .move (.k (.sc (.int .u8 160))), none⟩,
  ⟨(some 4), .move (.k (.sc (.int .u8 191))), none⟩,
  ⟨(some 5), .move (.k (.sc (.int .i32 0))), none⟩]
def m55_r9 : List MI := [
  ⟨(some 28), .move (.t 0), none⟩,
  ⟨(some 29), .bin .eql .no (.t 28) (.k (.sc (.int .u8 237))), none⟩,
  ⟨(some 27), .move (.t 29), none⟩]
def m55_r10 : List MI := [
  ⟨(some 30), .move (.t 0), none⟩,
  ⟨(some 31), .bin .and .no (.t 30) (.k (.sc (.int .u8 15))), none⟩,
  ⟨(some 32), .conv (.int .i32) (.t 31), none⟩,
  ⟨(some 2), .move (.k (.sc (.int .i64 2))), none⟩,
  ⟨(some 3), .move (.k (.sc (.int .u8 128))), none⟩,
  ⟨(some 4), .move (.k (.sc (.int .u8 159))), none⟩,
  ⟨(some 5), .move (.t 32), none⟩]
def m55_r11 : List MI := [
  ⟨(some 34), .move (.t 0), none⟩,
  ⟨(some 35), .bin .lss .no (.t 34) (.k (.sc (.int .u8 240))), none⟩,
  ⟨(some 33), .move (.t 35), none⟩]
def m55_r12 : List MI := [
  ⟨(some 36), .move (.t 0), none⟩,
  ⟨(some 37), .bin .and .no (.t 36) (.k (.sc (.int .u8 15))), none⟩,
  ⟨(some 38), .conv (.int .i32) (.t 37), none⟩,
  ⟨(some 2), .move (.k (.sc (.int .i64 2))), none⟩,
  ⟨(some 3), .move (.k (.sc (.int .u8 128))), none⟩,
  ⟨(some 4), .move (.k (.sc (.int .u8 191))), none⟩,
  ⟨(some 5), .move (.t 38), none⟩]
def m55_r13 : List MI := [
  ⟨(some 40), .move (.t 0), none⟩,
  ⟨(some 41), .bin .eql .no (.t 40) (.k (.sc (.int .u8 240))), none⟩,
  ⟨(some 39), .move (.t 41), none⟩]
def m55_r14 : List MI := [
  ⟨(some 2), .move (.k (.sc (.int .i64 3))), none⟩,
  ⟨(some 3), .move (.k (.sc (.int .u8 144))), none⟩,
  ⟨(some 4), .move (.k (.sc (.int .u8 191))), none⟩,
  ⟨(some 5), .move (.k (.sc (.int .i32 0))), none⟩]
def m55_r15 : List MI := [
  ⟨(some 43), .move (.t 0), none⟩,
  ⟨(some 44), .bin .eql .no (.t 43) (.k (.sc (.int .u8 244))), none⟩,
  ⟨(some 42), .move (.t 44), none⟩]
def m55_r16 : List MI := [
  ⟨(some 45), .move (.t 0), none⟩,
  ⟨(some 46), .bin .and .no (.t 45) (.k (.sc (.int .u8 7))), none⟩,
  ⟨(some 47), .conv (.int .i32) (.t 46), none⟩,
  ⟨(some 2), .move (.k (.sc (.int .i64 3))), none⟩,
  ⟨(some 3), .move (.k (.sc (.int .u8 128))), none⟩,
  ⟨(some 4), .move (.k (.sc (.int .u8 143))), none⟩,
  ⟨(some 5), .move (.t 47), none⟩]
def m55_r17 : List MI := [
  ⟨(some 48), .move (.t 0), none⟩,
  ⟨(some 49), .bin .and .no (.t 48) (.k (.sc (.int .u8 7))), none⟩,
  ⟨(some 50), .conv (.int .i32) (.t 49), none⟩,
  ⟨(some 2), .move (.k (.sc (.int .i64 3))), none⟩,
  ⟨(some 3), .move (.k (.sc (.int .u8 128))), none⟩,
  ⟨(some 4), .move (.k (.sc (.int .u8 191))), none⟩,
  ⟨(some 5), .move (.t 50), none⟩]
def m55_code : MCode := (.seq (.ops m55_r0) (.seq (.block 0 (.seq (.ops m55_r1) (.cond (.t 6) (.seq (.ops m55_r2) .ret) (.seq (.ops m55_r3) (.cond (.t 11) (.seq (.ops m55_r4) .ret) (.seq (.ops m55_r5) (.cond (.t 18) (.seq (.ops m55_r6) .ret) (.seq (.ops m55_r7) (.cond (.t 24) (.seq (.ops m55_r8) .ret) (.seq (.ops m55_r9) (.cond (.t 27) (.seq (.ops m55_r10) .ret) (.seq (.ops m55_r11) (.cond (.t 33) (.seq (.ops m55_r12) .ret) (.seq (.ops m55_r13) (.cond (.t 39) (.seq (.ops m55_r14) .ret) (.seq (.ops m55_r15) (.cond (.t 42) (.seq (.ops m55_r16) .ret) .skip))))))))))))))))) (.seq (.ops m55_r17) .ret)))
def m55 : MFunc := ⟨51, [.tmp 2, .tmp 3, .tmp 4, .tmp 5], m55_code⟩

def m59_r0 : List MI := [
  ⟨(some 4), .move (.k (.sc (.str []))), none⟩]
def m59_r2 : List MI := [
  ⟨(some 5), .move (.t 0), none⟩,
  ⟨(some 6), .lenStr (.t 5), none⟩,
  ⟨(some 7), .bin .gtr .no (.t 6) (.k (.sc (.int .i64 0))), none⟩,
  ⟨(some 8), .move (.t 7), none⟩,
  ⟨(some 9), .move (.t 0), (some (8, true))⟩,
  ⟨(some 10), .move (.t 0), (some (8, true))⟩,
  ⟨(some 11), .lenStr (.t 10), (some (8, true))⟩,
  ⟨(some 12), .bin .sub .no (.t 11) (.k (.sc (.int .i64 1))), (some (8, true))⟩,
  ⟨(some 13), .idxStr (.t 9) (.t 12), (some (8, true))⟩,
  ⟨(some 14), .move (.t 1), (some (8, true))⟩,
  ⟨(some 15), .bin .eql .no (.t 13) (.t 14), (some (8, true))⟩,
  ⟨(some 16), .pick (.t 8) (.t 15) (.k (.sc (.bool false))), none⟩]
def m59_r3 : List MI := [
  ⟨(some 17), .move (.t 0), none⟩,
  ⟨(some 18), .move (.t 0), none⟩,
  ⟨(some 19), .lenStr (.t 18), none⟩,
  ⟨(some 20), .bin .sub .no (.t 19) (.k (.sc (.int .i64 1))), none⟩,
  ⟨(some 21), .sliceStr (.t 17) none (some (.t 20)), none⟩,
  ⟨(some 0), .move (.t 21), none⟩]
def m59_l1 : MCode := (.seq (.seq (.ops m59_r2) (.cond (.t 16) .skip (.exit 0))) (.block 1 (.ops m59_r3)))
def m59_r4 : List MI := [
  ⟨(some 22), .move (.t 0), none⟩,
  ⟨(some 4), .move (.t 22), none⟩]
def m59_code : MCode := (.seq (.ops m59_r0) (.seq (.block 0 (.loop m59_l1)) (.seq (.ops m59_r4) .ret)))
def m59 : MFunc := ⟨23, [.tmp 4], m59_code⟩

def m63_r0 : List MI := [
  ⟨(some 0), .move (.k (.sc (.nils))), none⟩]
def m63_r1 : List MI := [
  ⟨(some 1), .build [.int .i64 0, .int .i64 0, .int .i64 0, .int .i64 0, .int .i64 0] [(0, 1, (.k (.sc (.int .i64 0)))), (1, 1, (.k (.sc (.int .i64 0)))), (2, 1, (.k (.sc (.int .i64 23)))), (3, 1, (.k (.sc (.int .i64 2)))), (4, 1, (.k (.sc (.int .i64 0))))], none⟩,
  ⟨(some 2), .build [.int .i64 0, .int .i64 0, .int .i64 0, .int .i64 0, .int .i64 0] [(0, 1, (.k (.sc (.int .i64 0)))), (1, 1, (.k (.sc (.int .i64 25)))), (2, 1, (.k (.sc (.int .i64 25)))), (3, 1, (.k (.sc (.int .i64 2)))), (4, 1, (.k (.sc (.int .i64 0))))], none⟩,
  ⟨(some 3), .build [.int .i64 0, .int .i64 0, .int .i64 0, .int .i64 0, .int .i64 0] [(0, 1, (.k (.sc (.int .i64 0)))), (1, 1, (.k (.sc (.int .i64 28)))), (2, 1, (.k (.sc (.int .i64 31)))), (3, 1, (.k (.sc (.int .i64 2)))), (4, 1, (.k (.sc (.int .i64 0))))], none⟩,
  ⟨(some 4), .build [.int .i64 0, .int .i64 0, .int .i64 0, .int .i64 0, .int .i64 0] [(0, 1, (.k (.sc (.int .i64 0)))), (1, 1, (.k (.sc (.int .i64 32)))), (2, 1, (.k (.sc (.int .i64 126)))), (3, 1, (.k (.sc (.int .i64 1)))), (4, 1, (.k (.sc (.int .i64 0))))], none⟩,
  ⟨(some 5), .build [.int .i64 0, .int .i64 0, .int .i64 0, .int .i64 0, .int .i64 0] [(0, 1, (.k (.sc (.int .i64 0)))), (1, 1, (.k (.sc (.int .i64 127)))), (2, 1, (.k (.sc (.int .i64 127)))), (3, 1, (.k (.sc (.int .i64 0)))), (4, 1, (.k (.sc (.int .i64 0))))], none⟩,
  ⟨(some 6), .build [.int .i64 0, .int .i64 0, .int .i64 0, .int .i64 0, .int .i64 0] [(0, 1, (.k (.sc (.int .i64 0)))), (1, 1, (.k (.sc (.int .i64 128)))), (2, 1, (.k (.sc (.int .i64 255)))), (3, 1, (.k (.sc (.int .i64 1)))), (4, 1, (.k (.sc (.int .i64 0))))], none⟩,
  ⟨(some 7), .build [.int .i64 0, .int .i64 0, .int .i64 0, .int .i64 0, .int .i64 0] [(0, 1, (.k (.sc (.int .i64 1)))), (1, 1, (.k (.sc (.int .i64 0)))), (2, 1, (.k (.sc (.int .i64 23)))), (3, 1, (.k (.sc (.int .i64 2)))), (4, 1, (.k (.sc (.int .i64 1))))], none⟩,
  ⟨(some 8), .build [.int .i64 0, .int .i64 0, .int .i64 0, .int .i64 0, .int .i64 0] [(0, 1, (.k (.sc (.int .i64 1)))), (1, 1, (.k (.sc (.int .i64 25)))), (2, 1, (.k (.sc (.int .i64 25)))), (3, 1, (.k (.sc (.int .i64 2)))), (4, 1, (.k (.sc (.int .i64 1))))], none⟩,
  ⟨(some 9), .build [.int .i64 0, .int .i64 0, .int .i64 0, .int .i64 0, .int .i64 0] [(0, 1, (.k (.sc (.int .i64 1)))), (1, 1, (.k (.sc (.int .i64 28)))), (2, 1, (.k (.sc (.int .i64 31)))), (3, 1, (.k (.sc (.int .i64 2)))), (4, 1, (.k (.sc (.int .i64 1))))], none⟩,
  ⟨(some 10), .build [.int .i64 0, .int .i64 0, .int .i64 0, .int .i64 0, .int .i64 0] [(0, 1, (.k (.sc (.int .i64 1)))), (1, 1, (.k (.sc (.int .i64 32)))), (2, 1, (.k (.sc (.int .i64 47)))), (3, 1, (.k (.sc (.int .i64 3)))), (4, 1, (.k (.sc (.int .i64 2))))], none⟩,
  ⟨(some 11), .build [.int .i64 0, .int .i64 0, .int .i64 0, .int .i64 0, .int .i64 0] [(0, 1, (.k (.sc (.int .i64 1)))), (1, 1, (.k (.sc (.int .i64 48)))), (2, 1, (.k (.sc (.int .i64 79)))), (3, 1, (.k (.sc (.int .i64 5)))), (4, 1, (.k (.sc (.int .i64 0))))], none⟩,
  ⟨(some 12), .build [.int .i64 0, .int .i64 0, .int .i64 0, .int .i64 0, .int .i64 0] [(0, 1, (.k (.sc (.int .i64 1)))), (1, 1, (.k (.sc (.int .i64 80)))), (2, 1, (.k (.sc (.int .i64 80)))), (3, 1, (.k (.sc (.int .i64 0)))), (4, 1, (.k (.sc (.int .i64 7))))], none⟩,
  ⟨(some 13), .build [.int .i64 0, .int .i64 0, .int .i64 0, .int .i64 0, .int .i64 0] [(0, 1, (.k (.sc (.int .i64 1)))), (1, 1, (.k (.sc (.int .i64 81)))), (2, 1, (.k (.sc (.int .i64 87)))), (3, 1, (.k (.sc (.int .i64 5)))), (4, 1, (.k (.sc (.int .i64 0))))], none⟩,
  ⟨(some 14), .build [.int .i64 0, .int .i64 0, .int .i64 0, .int .i64 0, .int .i64 0] [(0, 1, (.k (.sc (.int .i64 1)))), (1, 1, (.k (.sc (.int .i64 88)))), (2, 1, (.k (.sc (.int .i64 88)))), (3, 1, (.k (.sc (.int .i64 0)))), (4, 1, (.k (.sc (.int .i64 13))))], none⟩,
  ⟨(some 15), .build [.int .i64 0, .int .i64 0, .int .i64 0, .int .i64 0, .int .i64 0] [(0, 1, (.k (.sc (.int .i64 1)))), (1, 1, (.k (.sc (.int .i64 89)))), (2, 1, (.k (.sc (.int .i64 90)))), (3, 1, (.k (.sc (.int .i64 5)))), (4, 1, (.k (.sc (.int .i64 0))))], none⟩,
  ⟨(some 16), .build [.int .i64 0, .int .i64 0, .int .i64 0, .int .i64 0, .int .i64 0] [(0, 1, (.k (.sc (.int .i64 1)))), (1, 1, (.k (.sc (.int .i64 91)))), (2, 1, (.k (.sc (.int .i64 91)))), (3, 1, (.k (.sc (.int .i64 0)))), (4, 1, (.k (.sc (.int .i64 3))))], none⟩,
  ⟨(some 17), .build [.int .i64 0, .int .i64 0, .int .i64 0, .int .i64 0, .int .i64 0] [(0, 1, (.k (.sc (.int .i64 1)))), (1, 1, (.k (.sc (.int .i64 92)))), (2, 1, (.k (.sc (.int .i64 92)))), (3, 1, (.k (.sc (.int .i64 5)))), (4, 1, (.k (.sc (.int .i64 0))))], none⟩,
  ⟨(some 18), .build [.int .i64 0, .int .i64 0, .int .i64 0, .int .i64 0, .int .i64 0] [(0, 1, (.k (.sc (.int .i64 1)))), (1, 1, (.k (.sc (.int .i64 93)))), (2, 1, (.k (.sc (.int .i64 93)))), (3, 1, (.k (.sc (.int .i64 0)))), (4, 1, (.k (.sc (.int .i64 12))))], none⟩,
  ⟨(some 19), .build [.int .i64 0, .int .i64 0, .int .i64 0, .int .i64 0, .int .i64 0] [(0, 1, (.k (.sc (.int .i64 1)))), (1, 1, (.k (.sc (.int .i64 94)))), (2, 1, (.k (.sc (.int .i64 95)))), (3, 1, (.k (.sc (.int .i64 0)))), (4, 1, (.k (.sc (.int .i64 13))))], none⟩,
  ⟨(some 20), .build [.int .i64 0, .int .i64 0, .int .i64 0, .int .i64 0, .int .i64 0] [(0, 1, (.k (.sc (.int .i64 1)))), (1, 1, (.k (.sc (.int .i64 96)))), (2, 1, (.k (.sc (.int .i64 126)))), (3, 1, (.k (.sc (.int .i64 5)))), (4, 1, (.k (.sc (.int .i64 0))))], none⟩,
  ⟨(some 21), .build [.int .i64 0, .int .i64 0, .int .i64 0, .int .i64 0, .int .i64 0] [(0, 1, (.k (.sc (.int .i64 1)))), (1, 1, (.k (.sc (.int .i64 127)))), (2, 1, (.k (.sc (.int .i64 255)))), (3, 1, (.k (.sc (.int .i64 0)))), (4, 1, (.k (.sc (.int .i64 1))))], none⟩,
  ⟨(some 22), .build [.int .i64 0, .int .i64 0, .int .i64 0, .int .i64 0, .int .i64 0] [(0, 1, (.k (.sc (.int .i64 2)))), (1, 1, (.k (.sc (.int .i64 0)))), (2, 1, (.k (.sc (.int .i64 23)))), (3, 1, (.k (.sc (.int .i64 2)))), (4, 1, (.k (.sc (.int .i64 2))))], none⟩,
  ⟨(some 23), .build [.int .i64 0, .int .i64 0, .int .i64 0, .int .i64 0, .int .i64 0] [(0, 1, (.k (.sc (.int .i64 2)))), (1, 1, (.k (.sc (.int .i64 25)))), (2, 1, (.k (.sc (.int .i64 25)))), (3, 1, (.k (.sc (.int .i64 2)))), (4, 1, (.k (.sc (.int .i64 2))))], none⟩,
  ⟨(some 24), .build [.int .i64 0, .int .i64 0, .int .i64 0, .int .i64 0, .int .i64 0] [(0, 1, (.k (.sc (.int .i64 2)))), (1, 1, (.k (.sc (.int .i64 28)))), (2, 1, (.k (.sc (.int .i64 31)))), (3, 1, (.k (.sc (.int .i64 2)))), (4, 1, (.k (.sc (.int .i64 2))))], none⟩,
  ⟨(some 25), .build [.int .i64 0, .int .i64 0, .int .i64 0, .int .i64 0, .int .i64 0] [(0, 1, (.k (.sc (.int .i64 2)))), (1, 1, (.k (.sc (.int .i64 32)))), (2, 1, (.k (.sc (.int .i64 47)))), (3, 1, (.k (.sc (.int .i64 3)))), (4, 1, (.k (.sc (.int .i64 2))))], none⟩,
  ⟨(some 26), .build [.int .i64 0, .int .i64 0, .int .i64 0, .int .i64 0, .int .i64 0] [(0, 1, (.k (.sc (.int .i64 2)))), (1, 1, (.k (.sc (.int .i64 48)))), (2, 1, (.k (.sc (.int .i64 126)))), (3, 1, (.k (.sc (.int .i64 5)))), (4, 1, (.k (.sc (.int .i64 0))))], none⟩,
  ⟨(some 27), .build [.int .i64 0, .int .i64 0, .int .i64 0, .int .i64 0, .int .i64 0] [(0, 1, (.k (.sc (.int .i64 2)))), (1, 1, (.k (.sc (.int .i64 127)))), (2, 1, (.k (.sc (.int .i64 255)))), (3, 1, (.k (.sc (.int .i64 0)))), (4, 1, (.k (.sc (.int .i64 2))))], none⟩,
  ⟨(some 28), .build [.int .i64 0, .int .i64 0, .int .i64 0, .int .i64 0, .int .i64 0] [(0, 1, (.k (.sc (.int .i64 3)))), (1, 1, (.k (.sc (.int .i64 0)))), (2, 1, (.k (.sc (.int .i64 23)))), (3, 1, (.k (.sc (.int .i64 2)))), (4, 1, (.k (.sc (.int .i64 3))))], none⟩,
  ⟨(some 29), .build [.int .i64 0, .int .i64 0, .int .i64 0, .int .i64 0, .int .i64 0] [(0, 1, (.k (.sc (.int .i64 3)))), (1, 1, (.k (.sc (.int .i64 25)))), (2, 1, (.k (.sc (.int .i64 25)))), (3, 1, (.k (.sc (.int .i64 2)))), (4, 1, (.k (.sc (.int .i64 3))))], none⟩,
  ⟨(some 30), .build [.int .i64 0, .int .i64 0, .int .i64 0, .int .i64 0, .int .i64 0] [(0, 1, (.k (.sc (.int .i64 3)))), (1, 1, (.k (.sc (.int .i64 28)))), (2, 1, (.k (.sc (.int .i64 31)))), (3, 1, (.k (.sc (.int .i64 2)))), (4, 1, (.k (.sc (.int .i64 3))))], none⟩,
  ⟨(some 31), .build [.int .i64 0, .int .i64 0, .int .i64 0, .int .i64 0, .int .i64 0] [(0, 1, (.k (.sc (.int .i64 3)))), (1, 1, (.k (.sc (.int .i64 32)))), (2, 1, (.k (.sc (.int .i64 47)))), (3, 1, (.k (.sc (.int .i64 3)))), (4, 1, (.k (.sc (.int .i64 5))))], none⟩,
  ⟨(some 32), .build [.int .i64 0, .int .i64 0, .int .i64 0, .int .i64 0, .int .i64 0] [(0, 1, (.k (.sc (.int .i64 3)))), (1, 1, (.k (.sc (.int .i64 48)))), (2, 1, (.k (.sc (.int .i64 59)))), (3, 1, (.k (.sc (.int .i64 4)))), (4, 1, (.k (.sc (.int .i64 4))))], none⟩,
  ⟨(some 33), .build [.int .i64 0, .int .i64 0, .int .i64 0, .int .i64 0, .int .i64 0] [(0, 1, (.k (.sc (.int .i64 3)))), (1, 1, (.k (.sc (.int .i64 60)))), (2, 1, (.k (.sc (.int .i64 63)))), (3, 1, (.k (.sc (.int .i64 3)))), (4, 1, (.k (.sc (.int .i64 4))))], none⟩,
  ⟨(some 34), .build [.int .i64 0, .int .i64 0, .int .i64 0, .int .i64 0, .int .i64 0] [(0, 1, (.k (.sc (.int .i64 3)))), (1, 1, (.k (.sc (.int .i64 64)))), (2, 1, (.k (.sc (.int .i64 126)))), (3, 1, (.k (.sc (.int .i64 6)))), (4, 1, (.k (.sc (.int .i64 0))))], none⟩,
  ⟨(some 35), .build [.int .i64 0, .int .i64 0, .int .i64 0, .int .i64 0, .int .i64 0] [(0, 1, (.k (.sc (.int .i64 3)))), (1, 1, (.k (.sc (.int .i64 127)))), (2, 1, (.k (.sc (.int .i64 255)))), (3, 1, (.k (.sc (.int .i64 0)))), (4, 1, (.k (.sc (.int .i64 3))))], none⟩,
  ⟨(some 36), .build [.int .i64 0, .int .i64 0, .int .i64 0, .int .i64 0, .int .i64 0] [(0, 1, (.k (.sc (.int .i64 4)))), (1, 1, (.k (.sc (.int .i64 0)))), (2, 1, (.k (.sc (.int .i64 23)))), (3, 1, (.k (.sc (.int .i64 2)))), (4, 1, (.k (.sc (.int .i64 4))))], none⟩,
  ⟨(some 37), .build [.int .i64 0, .int .i64 0, .int .i64 0, .int .i64 0, .int .i64 0] [(0, 1, (.k (.sc (.int .i64 4)))), (1, 1, (.k (.sc (.int .i64 25)))), (2, 1, (.k (.sc (.int .i64 25)))), (3, 1, (.k (.sc (.int .i64 2)))), (4, 1, (.k (.sc (.int .i64 4))))], none⟩,
  ⟨(some 38), .build [.int .i64 0, .int .i64 0, .int .i64 0, .int .i64 0, .int .i64 0] [(0, 1, (.k (.sc (.int .i64 4)))), (1, 1, (.k (.sc (.int .i64 28)))), (2, 1, (.k (.sc (.int .i64 31)))), (3, 1, (.k (.sc (.int .i64 2)))), (4, 1, (.k (.sc (.int .i64 4))))], none⟩,
  ⟨(some 39), .build [.int .i64 0, .int .i64 0, .int .i64 0, .int .i64 0, .int .i64 0] [(0, 1, (.k (.sc (.int .i64 4)))), (1, 1, (.k (.sc (.int .i64 32)))), (2, 1, (.k (.sc (.int .i64 47)))), (3, 1, (.k (.sc (.int .i64 3)))), (4, 1, (.k (.sc (.int .i64 5))))], none⟩,
  ⟨(some 40), .build [.int .i64 0, .int .i64 0, .int .i64 0, .int .i64 0, .int .i64 0] [(0, 1, (.k (.sc (.int .i64 4)))), (1, 1, (.k (.sc (.int .i64 48)))), (2, 1, (.k (.sc (.int .i64 59)))), (3, 1, (.k (.sc (.int .i64 4)))), (4, 1, (.k (.sc (.int .i64 4))))], none⟩,
  ⟨(some 41), .build [.int .i64 0, .int .i64 0, .int .i64 0, .int .i64 0, .int .i64 0] [(0, 1, (.k (.sc (.int .i64 4)))), (1, 1, (.k (.sc (.int .i64 60)))), (2, 1, (.k (.sc (.int .i64 63)))), (3, 1, (.k (.sc (.int .i64 0)))), (4, 1, (.k (.sc (.int .i64 6))))], none⟩,
  ⟨(some 42), .build [.int .i64 0, .int .i64 0, .int .i64 0, .int .i64 0, .int .i64 0] [(0, 1, (.k (.sc (.int .i64 4)))), (1, 1, (.k (.sc (.int .i64 64)))), (2, 1, (.k (.sc (.int .i64 126)))), (3, 1, (.k (.sc (.int .i64 6)))), (4, 1, (.k (.sc (.int .i64 0))))], none⟩,
  ⟨(some 43), .build [.int .i64 0, .int .i64 0, .int .i64 0, .int .i64 0, .int .i64 0] [(0, 1, (.k (.sc (.int .i64 4)))), (1, 1, (.k (.sc (.int .i64 127)))), (2, 1, (.k (.sc (.int .i64 255)))), (3, 1, (.k (.sc (.int .i64 0)))), (4, 1, (.k (.sc (.int .i64 4))))], none⟩,
  ⟨(some 44), .build [.int .i64 0, .int .i64 0, .int .i64 0, .int .i64 0, .int .i64 0] [(0, 1, (.k (.sc (.int .i64 5)))), (1, 1, (.k (.sc (.int .i64 0)))), (2, 1, (.k (.sc (.int .i64 23)))), (3, 1, (.k (.sc (.int .i64 2)))), (4, 1, (.k (.sc (.int .i64 5))))], none⟩,
  ⟨(some 45), .build [.int .i64 0, .int .i64 0, .int .i64 0, .int .i64 0, .int .i64 0] [(0, 1, (.k (.sc (.int .i64 5)))), (1, 1, (.k (.sc (.int .i64 25)))), (2, 1, (.k (.sc (.int .i64 25)))), (3, 1, (.k (.sc (.int .i64 2)))), (4, 1, (.k (.sc (.int .i64 5))))], none⟩,
  ⟨(some 46), .build [.int .i64 0, .int .i64 0, .int .i64 0, .int .i64 0, .int .i64 0] [(0, 1, (.k (.sc (.int .i64 5)))), (1, 1, (.k (.sc (.int .i64 28)))), (2, 1, (.k (.sc (.int .i64 31)))), (3, 1, (.k (.sc (.int .i64 2)))), (4, 1, (.k (.sc (.int .i64 5))))], none⟩,
  ⟨(some 47), .build [.int .i64 0, .int .i64 0, .int .i64 0, .int .i64 0, .int .i64 0] [(0, 1, (.k (.sc (.int .i64 5)))), (1, 1, (.k (.sc (.int .i64 32)))), (2, 1, (.k (.sc (.int .i64 47)))), (3, 1, (.k (.sc (.int .i64 3)))), (4, 1, (.k (.sc (.int .i64 5))))], none⟩,
  ⟨(some 48), .build [.int .i64 0, .int .i64 0, .int .i64 0, .int .i64 0, .int .i64 0] [(0, 1, (.k (.sc (.int .i64 5)))), (1, 1, (.k (.sc (.int .i64 48)))), (2, 1, (.k (.sc (.int .i64 63)))), (3, 1, (.k (.sc (.int .i64 0)))), (4, 1, (.k (.sc (.int .i64 6))))], none⟩,
  ⟨(some 49), .build [.int .i64 0, .int .i64 0, .int .i64 0, .int .i64 0, .int .i64 0] [(0, 1, (.k (.sc (.int .i64 5)))), (1, 1, (.k (.sc (.int .i64 64)))), (2, 1, (.k (.sc (.int .i64 126)))), (3, 1, (.k (.sc (.int .i64 6)))), (4, 1, (.k (.sc (.int .i64 0))))], none⟩,
  ⟨(some 50), .build [.int .i64 0, .int .i64 0, .int .i64 0, .int .i64 0, .int .i64 0] [(0, 1, (.k (.sc (.int .i64 5)))), (1, 1, (.k (.sc (.int .i64 127)))), (2, 1, (.k (.sc (.int .i64 255)))), (3, 1, (.k (.sc (.int .i64 0)))), (4, 1, (.k (.sc (.int .i64 5))))], none⟩,
  ⟨(some 51), .build [.int .i64 0, .int .i64 0, .int .i64 0, .int .i64 0, .int .i64 0] [(0, 1, (.k (.sc (.int .i64 6)))), (1, 1, (.k (.sc (.int .i64 0)))), (2, 1, (.k (.sc (.int .i64 23)))), (3, 1, (.k (.sc (.int .i64 2)))), (4, 1, (.k (.sc (.int .i64 6))))], none⟩,
  ⟨(some 52), .build [.int .i64 0, .int .i64 0, .int .i64 0, .int .i64 0, .int .i64 0] [(0, 1, (.k (.sc (.int .i64 6)))), (1, 1, (.k (.sc (.int .i64 25)))), (2, 1, (.k (.sc (.int .i64 25)))), (3, 1, (.k (.sc (.int .i64 2)))), (4, 1, (.k (.sc (.int .i64 6))))], none⟩,
  ⟨(some 53), .build [.int .i64 0, .int .i64 0, .int .i64 0, .int .i64 0, .int .i64 0] [(0, 1, (.k (.sc (.int .i64 6)))), (1, 1, (.k (.sc (.int .i64 28)))), (2, 1, (.k (.sc (.int .i64 31)))), (3, 1, (.k (.sc (.int .i64 2)))), (4, 1, (.k (.sc (.int .i64 6))))], none⟩,
  ⟨(some 54), .build [.int .i64 0, .int .i64 0, .int .i64 0, .int .i64 0, .int .i64 0] [(0, 1, (.k (.sc (.int .i64 6)))), (1, 1, (.k (.sc (.int .i64 32)))), (2, 1, (.k (.sc (.int .i64 63)))), (3, 1, (.k (.sc (.int .i64 0)))), (4, 1, (.k (.sc (.int .i64 6))))], none⟩,
  ⟨(some 55), .build [.int .i64 0, .int .i64 0, .int .i64 0, .int .i64 0, .int .i64 0] [(0, 1, (.k (.sc (.int .i64 6)))), (1, 1, (.k (.sc (.int .i64 64)))), (2, 1, (.k (.sc (.int .i64 126)))), (3, 1, (.k (.sc (.int .i64 0)))), (4, 1, (.k (.sc (.int .i64 0))))], none⟩,
  ⟨(some 56), .build [.int .i64 0, .int .i64 0, .int .i64 0, .int .i64 0, .int .i64 0] [(0, 1, (.k (.sc (.int .i64 6)))), (1, 1, (.k (.sc (.int .i64 127)))), (2, 1, (.k (.sc (.int .i64 255)))), (3, 1, (.k (.sc (.int .i64 0)))), (4, 1, (.k (.sc (.int .i64 6))))], none⟩,
  ⟨(some 57), .build [.int .i64 0, .int .i64 0, .int .i64 0, .int .i64 0, .int .i64 0] [(0, 1, (.k (.sc (.int .i64 7)))), (1, 1, (.k (.sc (.int .i64 0)))), (2, 1, (.k (.sc (.int .i64 23)))), (3, 1, (.k (.sc (.int .i64 0)))), (4, 1, (.k (.sc (.int .i64 7))))], none⟩,
  ⟨(some 58), .build [.int .i64 0, .int .i64 0, .int .i64 0, .int .i64 0, .int .i64 0] [(0, 1, (.k (.sc (.int .i64 7)))), (1, 1, (.k (.sc (.int .i64 25)))), (2, 1, (.k (.sc (.int .i64 25)))), (3, 1, (.k (.sc (.int .i64 0)))), (4, 1, (.k (.sc (.int .i64 7))))], none⟩,
  ⟨(some 59), .build [.int .i64 0, .int .i64 0, .int .i64 0, .int .i64 0, .int .i64 0] [(0, 1, (.k (.sc (.int .i64 7)))), (1, 1, (.k (.sc (.int .i64 28)))), (2, 1, (.k (.sc (.int .i64 31)))), (3, 1, (.k (.sc (.int .i64 0)))), (4, 1, (.k (.sc (.int .i64 7))))], none⟩,
  ⟨(some 60), .build [.int .i64 0, .int .i64 0, .int .i64 0, .int .i64 0, .int .i64 0] [(0, 1, (.k (.sc (.int .i64 7)))), (1, 1, (.k (.sc (.int .i64 32)))), (2, 1, (.k (.sc (.int .i64 47)))), (3, 1, (.k (.sc (.int .i64 3)))), (4, 1, (.k (.sc (.int .i64 9))))], none⟩,
  ⟨(some 61), .build [.int .i64 0, .int .i64 0, .int .i64 0, .int .i64 0, .int .i64 0] [(0, 1, (.k (.sc (.int .i64 7)))), (1, 1, (.k (.sc (.int .i64 48)))), (2, 1, (.k (.sc (.int .i64 59)))), (3, 1, (.k (.sc (.int .i64 4)))), (4, 1, (.k (.sc (.int .i64 8))))], none⟩,
  ⟨(some 62), .build [.int .i64 0, .int .i64 0, .int .i64 0, .int .i64 0, .int .i64 0] [(0, 1, (.k (.sc (.int .i64 7)))), (1, 1, (.k (.sc (.int .i64 60)))), (2, 1, (.k (.sc (.int .i64 63)))), (3, 1, (.k (.sc (.int .i64 3)))), (4, 1, (.k (.sc (.int .i64 8))))], none⟩,
  ⟨(some 63), .build [.int .i64 0, .int .i64 0, .int .i64 0, .int .i64 0, .int .i64 0] [(0, 1, (.k (.sc (.int .i64 7)))), (1, 1, (.k (.sc (.int .i64 64)))), (2, 1, (.k (.sc (.int .i64 126)))), (3, 1, (.k (.sc (.int .i64 7)))), (4, 1, (.k (.sc (.int .i64 10))))], none⟩,
  ⟨(some 64), .build [.int .i64 0, .int .i64 0, .int .i64 0, .int .i64 0, .int .i64 0] [(0, 1, (.k (.sc (.int .i64 7)))), (1, 1, (.k (.sc (.int .i64 127)))), (2, 1, (.k (.sc (.int .i64 255)))), (3, 1, (.k (.sc (.int .i64 0)))), (4, 1, (.k (.sc (.int .i64 7))))], none⟩,
  ⟨(some 65), .build [.int .i64 0, .int .i64 0, .int .i64 0, .int .i64 0, .int .i64 0] [(0, 1, (.k (.sc (.int .i64 8)))), (1, 1, (.k (.sc (.int .i64 0)))), (2, 1, (.k (.sc (.int .i64 23)))), (3, 1, (.k (.sc (.int .i64 0)))), (4, 1, (.k (.sc (.int .i64 8))))], none⟩,
  ⟨(some 66), .build [.int .i64 0, .int .i64 0, .int .i64 0, .int .i64 0, .int .i64 0] [(0, 1, (.k (.sc (.int .i64 8)))), (1, 1, (.k (.sc (.int .i64 25)))), (2, 1, (.k (.sc (.int .i64 25)))), (3, 1, (.k (.sc (.int .i64 0)))), (4, 1, (.k (.sc (.int .i64 8))))], none⟩,
  ⟨(some 67), .build [.int .i64 0, .int .i64 0, .int .i64 0, .int .i64 0, .int .i64 0] [(0, 1, (.k (.sc (.int .i64 8)))), (1, 1, (.k (.sc (.int .i64 28)))), (2, 1, (.k (.sc (.int .i64 31)))), (3, 1, (.k (.sc (.int .i64 0)))), (4, 1, (.k (.sc (.int .i64 8))))], none⟩,
  ⟨(some 68), .build [.int .i64 0, .int .i64 0, .int .i64 0, .int .i64 0, .int .i64 0] [(0, 1, (.k (.sc (.int .i64 8)))), (1, 1, (.k (.sc (.int .i64 32)))), (2, 1, (.k (.sc (.int .i64 47)))), (3, 1, (.k (.sc (.int .i64 3)))), (4, 1, (.k (.sc (.int .i64 9))))], none⟩,
  ⟨(some 69), .build [.int .i64 0, .int .i64 0, .int .i64 0, .int .i64 0, .int .i64 0] [(0, 1, (.k (.sc (.int .i64 8)))), (1, 1, (.k (.sc (.int .i64 48)))), (2, 1, (.k (.sc (.int .i64 59)))), (3, 1, (.k (.sc (.int .i64 4)))), (4, 1, (.k (.sc (.int .i64 8))))], none⟩,
  ⟨(some 70), .build [.int .i64 0, .int .i64 0, .int .i64 0, .int .i64 0, .int .i64 0] [(0, 1, (.k (.sc (.int .i64 8)))), (1, 1, (.k (.sc (.int .i64 60)))), (2, 1, (.k (.sc (.int .i64 63)))), (3, 1, (.k (.sc (.int .i64 0)))), (4, 1, (.k (.sc (.int .i64 11))))], none⟩,
  ⟨(some 71), .build [.int .i64 0, .int .i64 0, .int .i64 0, .int .i64 0, .int .i64 0] [(0, 1, (.k (.sc (.int .i64 8)))), (1, 1, (.k (.sc (.int .i64 64)))), (2, 1, (.k (.sc (.int .i64 126)))), (3, 1, (.k (.sc (.int .i64 7)))), (4, 1, (.k (.sc (.int .i64 10))))], none⟩,
  ⟨(some 72), .build [.int .i64 0, .int .i64 0, .int .i64 0, .int .i64 0, .int .i64 0] [(0, 1, (.k (.sc (.int .i64 8)))), (1, 1, (.k (.sc (.int .i64 127)))), (2, 1, (.k (.sc (.int .i64 255)))), (3, 1, (.k (.sc (.int .i64 0)))), (4, 1, (.k (.sc (.int .i64 8))))], none⟩,
  ⟨(some 73), .build [.int .i64 0, .int .i64 0, .int .i64 0, .int .i64 0, .int .i64 0] [(0, 1, (.k (.sc (.int .i64 9)))), (1, 1, (.k (.sc (.int .i64 0)))), (2, 1, (.k (.sc (.int .i64 23)))), (3, 1, (.k (.sc (.int .i64 0)))), (4, 1, (.k (.sc (.int .i64 9))))], none⟩,
  ⟨(some 74), .build [.int .i64 0, .int .i64 0, .int .i64 0, .int .i64 0, .int .i64 0] [(0, 1, (.k (.sc (.int .i64 9)))), (1, 1, (.k (.sc (.int .i64 25)))), (2, 1, (.k (.sc (.int .i64 25)))), (3, 1, (.k (.sc (.int .i64 0)))), (4, 1, (.k (.sc (.int .i64 9))))], none⟩,
  ⟨(some 75), .build [.int .i64 0, .int .i64 0, .int .i64 0, .int .i64 0, .int .i64 0] [(0, 1, (.k (.sc (.int .i64 9)))), (1, 1, (.k (.sc (.int .i64 28)))), (2, 1, (.k (.sc (.int .i64 31)))), (3, 1, (.k (.sc (.int .i64 0)))), (4, 1, (.k (.sc (.int .i64 9))))], none⟩,
  ⟨(some 76), .build [.int .i64 0, .int .i64 0, .int .i64 0, .int .i64 0, .int .i64 0] [(0, 1, (.k (.sc (.int .i64 9)))), (1, 1, (.k (.sc (.int .i64 32)))), (2, 1, (.k (.sc (.int .i64 47)))), (3, 1, (.k (.sc (.int .i64 3)))), (4, 1, (.k (.sc (.int .i64 9))))], none⟩,
  ⟨(some 77), .build [.int .i64 0, .int .i64 0, .int .i64 0, .int .i64 0, .int .i64 0] [(0, 1, (.k (.sc (.int .i64 9)))), (1, 1, (.k (.sc (.int .i64 48)))), (2, 1, (.k (.sc (.int .i64 63)))), (3, 1, (.k (.sc (.int .i64 0)))), (4, 1, (.k (.sc (.int .i64 11))))], none⟩,
  ⟨(some 78), .build [.int .i64 0, .int .i64 0, .int .i64 0, .int .i64 0, .int .i64 0] [(0, 1, (.k (.sc (.int .i64 9)))), (1, 1, (.k (.sc (.int .i64 64)))), (2, 1, (.k (.sc (.int .i64 126)))), (3, 1, (.k (.sc (.int .i64 7)))), (4, 1, (.k (.sc (.int .i64 10))))], none⟩,
  ⟨(some 79), .build [.int .i64 0, .int .i64 0, .int .i64 0, .int .i64 0, .int .i64 0] [(0, 1, (.k (.sc (.int .i64 9)))), (1, 1, (.k (.sc (.int .i64 127)))), (2, 1, (.k (.sc (.int .i64 255)))), (3, 1, (.k (.sc (.int .i64 0)))), (4, 1, (.k (.sc (.int .i64 9))))], none⟩,
  ⟨(some 80), .build [.int .i64 0, .int .i64 0, .int .i64 0, .int .i64 0, .int .i64 0] [(0, 1, (.k (.sc (.int .i64 10)))), (1, 1, (.k (.sc (.int .i64 0)))), (2, 1, (.k (.sc (.int .i64 23)))), (3, 1, (.k (.sc (.int .i64 8)))), (4, 1, (.k (.sc (.int .i64 10))))], none⟩,
  ⟨(some 81), .build [.int .i64 0, .int .i64 0, .int .i64 0, .int .i64 0, .int .i64 0] [(0, 1, (.k (.sc (.int .i64 10)))), (1, 1, (.k (.sc (.int .i64 25)))), (2, 1, (.k (.sc (.int .i64 25)))), (3, 1, (.k (.sc (.int .i64 8)))), (4, 1, (.k (.sc (.int .i64 10))))], none⟩,
  ⟨(some 82), .build [.int .i64 0, .int .i64 0, .int .i64 0, .int .i64 0, .int .i64 0] [(0, 1, (.k (.sc (.int .i64 10)))), (1, 1, (.k (.sc (.int .i64 28)))), (2, 1, (.k (.sc (.int .i64 126)))), (3, 1, (.k (.sc (.int .i64 8)))), (4, 1, (.k (.sc (.int .i64 10))))], none⟩,
  ⟨(some 83), .build [.int .i64 0, .int .i64 0, .int .i64 0, .int .i64 0, .int .i64 0] [(0, 1, (.k (.sc (.int .i64 10)))), (1, 1, (.k (.sc (.int .i64 127)))), (2, 1, (.k (.sc (.int .i64 127)))), (3, 1, (.k (.sc (.int .i64 0)))), (4, 1, (.k (.sc (.int .i64 10))))], none⟩,
  ⟨(some 84), .build [.int .i64 0, .int .i64 0, .int .i64 0, .int .i64 0, .int .i64 0] [(0, 1, (.k (.sc (.int .i64 10)))), (1, 1, (.k (.sc (.int .i64 128)))), (2, 1, (.k (.sc (.int .i64 255)))), (3, 1, (.k (.sc (.int .i64 8)))), (4, 1, (.k (.sc (.int .i64 10))))], none⟩,
  ⟨(some 85), .build [.int .i64 0, .int .i64 0, .int .i64 0, .int .i64 0, .int .i64 0] [(0, 1, (.k (.sc (.int .i64 11)))), (1, 1, (.k (.sc (.int .i64 0)))), (2, 1, (.k (.sc (.int .i64 23)))), (3, 1, (.k (.sc (.int .i64 0)))), (4, 1, (.k (.sc (.int .i64 11))))], none⟩,
  ⟨(some 86), .build [.int .i64 0, .int .i64 0, .int .i64 0, .int .i64 0, .int .i64 0] [(0, 1, (.k (.sc (.int .i64 11)))), (1, 1, (.k (.sc (.int .i64 25)))), (2, 1, (.k (.sc (.int .i64 25)))), (3, 1, (.k (.sc (.int .i64 0)))), (4, 1, (.k (.sc (.int .i64 11))))], none⟩,
  ⟨(some 87), .build [.int .i64 0, .int .i64 0, .int .i64 0, .int .i64 0, .int .i64 0] [(0, 1, (.k (.sc (.int .i64 11)))), (1, 1, (.k (.sc (.int .i64 28)))), (2, 1, (.k (.sc (.int .i64 255)))), (3, 1, (.k (.sc (.int .i64 0)))), (4, 1, (.k (.sc (.int .i64 11))))], none⟩,
  ⟨(some 88), .build [.int .i64 0, .int .i64 0, .int .i64 0, .int .i64 0, .int .i64 0] [(0, 1, (.k (.sc (.int .i64 12)))), (1, 1, (.k (.sc (.int .i64 0)))), (2, 1, (.k (.sc (.int .i64 6)))), (3, 1, (.k (.sc (.int .i64 0)))), (4, 1, (.k (.sc (.int .i64 12))))], none⟩,
  ⟨(some 89), .build [.int .i64 0, .int .i64 0, .int .i64 0, .int .i64 0, .int .i64 0] [(0, 1, (.k (.sc (.int .i64 12)))), (1, 1, (.k (.sc (.int .i64 7)))), (2, 1, (.k (.sc (.int .i64 7)))), (3, 1, (.k (.sc (.int .i64 0)))), (4, 1, (.k (.sc (.int .i64 0))))], none⟩,
  ⟨(some 90), .build [.int .i64 0, .int .i64 0, .int .i64 0, .int .i64 0, .int .i64 0] [(0, 1, (.k (.sc (.int .i64 12)))), (1, 1, (.k (.sc (.int .i64 8)))), (2, 1, (.k (.sc (.int .i64 23)))), (3, 1, (.k (.sc (.int .i64 0)))), (4, 1, (.k (.sc (.int .i64 12))))], none⟩,
  ⟨(some 91), .build [.int .i64 0, .int .i64 0, .int .i64 0, .int .i64 0, .int .i64 0] [(0, 1, (.k (.sc (.int .i64 12)))), (1, 1, (.k (.sc (.int .i64 25)))), (2, 1, (.k (.sc (.int .i64 25)))), (3, 1, (.k (.sc (.int .i64 0)))), (4, 1, (.k (.sc (.int .i64 12))))], none⟩,
  ⟨(some 92), .build [.int .i64 0, .int .i64 0, .int .i64 0, .int .i64 0, .int .i64 0] [(0, 1, (.k (.sc (.int .i64 12)))), (1, 1, (.k (.sc (.int .i64 28)))), (2, 1, (.k (.sc (.int .i64 31)))), (3, 1, (.k (.sc (.int .i64 0)))), (4, 1, (.k (.sc (.int .i64 12))))], none⟩,
  ⟨(some 93), .build [.int .i64 0, .int .i64 0, .int .i64 0, .int .i64 0, .int .i64 0] [(0, 1, (.k (.sc (.int .i64 12)))), (1, 1, (.k (.sc (.int .i64 32)))), (2, 1, (.k (.sc (.int .i64 255)))), (3, 1, (.k (.sc (.int .i64 8)))), (4, 1, (.k (.sc (.int .i64 12))))], none⟩,
  ⟨(some 94), .build [.int .i64 0, .int .i64 0, .int .i64 0, .int .i64 0, .int .i64 0] [(0, 1, (.k (.sc (.int .i64 13)))), (1, 1, (.k (.sc (.int .i64 0)))), (2, 1, (.k (.sc (.int .i64 23)))), (3, 1, (.k (.sc (.int .i64 0)))), (4, 1, (.k (.sc (.int .i64 13))))], none⟩,
  ⟨(some 95), .build [.int .i64 0, .int .i64 0, .int .i64 0, .int .i64 0, .int .i64 0] [(0, 1, (.k (.sc (.int .i64 13)))), (1, 1, (.k (.sc (.int .i64 25)))), (2, 1, (.k (.sc (.int .i64 25)))), (3, 1, (.k (.sc (.int .i64 0)))), (4, 1, (.k (.sc (.int .i64 13))))], none⟩,
  ⟨(some 96), .build [.int .i64 0, .int .i64 0, .int .i64 0, .int .i64 0, .int .i64 0] [(0, 1, (.k (.sc (.int .i64 13)))), (1, 1, (.k (.sc (.int .i64 28)))), (2, 1, (.k (.sc (.int .i64 255)))), (3, 1, (.k (.sc (.int .i64 0)))), (4, 1, (.k (.sc (.int .i64 13))))], none⟩,
  ⟨(some 97), .buildSlice 101 5 96 [.int .i64 0, .int .i64 0, .int .i64 0, .int .i64 0, .int .i64 0] [(0, 5, (.t 1)), (5, 5, (.t 2)), (10, 5, (.t 3)), (15, 5, (.t 4)), (20, 5, (.t 5)), (25, 5, (.t 6)), (30, 5, (.t 7)), (35, 5, (.t 8)), (40, 5, (.t 9)), (45, 5, (.t 10)), (50, 5, (.t 11)), (55, 5, (.t 12)), (60, 5, (.t 13)), (65, 5, (.t 14)), (70, 5, (.t 15)), (75, 5, (.t 16)), (80, 5, (.t 17)), (85, 5, (.t 18)), (90, 5, (.t 19)), (95, 5, (.t 20)), (100, 5, (.t 21)), (105, 5, (.t 22)), (110, 5, (.t 23)), (115, 5, (.t 24)), (120, 5, (.t 25)), (125, 5, (.t 26)), (130, 5, (.t 27)), (135, 5, (.t 28)), (140, 5, (.t 29)), (145, 5, (.t 30)), (150, 5, (.t 31)), (155, 5, (.t 32)), (160, 5, (.t 33)), (165, 5, (.t 34)), (170, 5, (.t 35)), (175, 5, (.t 36)), (180, 5, (.t 37)), (185, 5, (.t 38)), (190, 5, (.t 39)), (195, 5, (.t 40)), (200, 5, (.t 41)), (205, 5, (.t 42)), (210, 5, (.t 43)), (215, 5, (.t 44)), (220, 5, (.t 45)), (225, 5, (.t 46)), (230, 5, (.t 47)), (235, 5, (.t 48)), (240, 5, (.t 49)), (245, 5, (.t 50)), (250, 5, (.t 51)), (255, 5, (.t 52)), (260, 5, (.t 53)), (265, 5, (.t 54)), (270, 5, (.t 55)), (275, 5, (.t 56)), (280, 5, (.t 57)), (285, 5, (.t 58)), (290, 5, (.t 59)), (295, 5, (.t 60)), (300, 5, (.t 61)), (305, 5, (.t 62)), (310, 5, (.t 63)), (315, 5, (.t 64)), (320, 5, (.t 65)), (325, 5, (.t 66)), (330, 5, (.t 67)), (335, 5, (.t 68)), (340, 5, (.t 69)), (345, 5, (.t 70)), (350, 5, (.t 71)), (355, 5, (.t 72)), (360, 5, (.t 73)), (365, 5, (.t 74)), (370, 5, (.t 75)), (375, 5, (.t 76)), (380, 5, (.t 77)), (385, 5, (.t 78)), (390, 5, (.t 79)), (395, 5, (.t 80)), (400, 5, (.t 81)), (405, 5, (.t 82)), (410, 5, (.t 83)), (415, 5, (.t 84)), (420, 5, (.t 85)), (425, 5, (.t 86)), (430, 5, (.t 87)), (435, 5, (.t 88)), (440, 5, (.t 89)), (445, 5, (.t 90)), (450, 5, (.t 91)), (455, 5, (.t 92)), (460, 5, (.t 93)), (465, 5, (.t 94)), (470, 5, (.t 95)), (475, 5, (.t 96))], none⟩,
  ⟨(some 0), .move (.t 97), none⟩]
def m63_code : MCode := (.seq (.ops m63_r0) (.seq (.ops m63_r1) .ret))
def m63 : MFunc := ⟨98, [.tmp 0], m63_code⟩

def m64_r0 : List MI := [
  ⟨(some 2), .move (.k (.sc (.int .i64 0))), none⟩]
def m64_r1 : List MI := [
  ⟨(some 7), .call 74 [], none⟩,
  ⟨(some 3), .move (.t 7), none⟩]
def m64_r2 : List MI := [
  ⟨(some 4), .move (.k (.sc (.int .i64 0))), none⟩]
def m64_r4 : List MI := [
  ⟨(some 8), .move (.t 4), none⟩,
  ⟨(some 9), .move (.t 3), none⟩,
  ⟨(some 10), .lenSlice (.t 9), none⟩,
  ⟨(some 11), .bin .lss .no (.t 8) (.t 10), none⟩]
def m64_r5 : List MI := [
  ⟨(some 14), .move (.t 0), none⟩,
  ⟨(some 15), .lenStr (.t 14), none⟩,
  ⟨(some 16), .move (.t 3), none⟩,
  ⟨(some 17), .move (.t 4), none⟩,
  ⟨(some 18), .indexSlice 1 (.t 16) (.t 17), none⟩,
  ⟨(some 19), .load none (.t 18), none⟩,
  ⟨(some 20), .lenSlice (.t 19), none⟩,
  ⟨(some 21), .bin .leq .no (.t 15) (.t 20), none⟩,
  ⟨(some 5), .move (.t 21), none⟩]
def m64_r6 : List MI := [
  ⟨(some 6), .move (.k (.sc (.int .i64 0))), none⟩]
def m64_r8 : List MI := [
  ⟨(some 22), .move (.t 6), none⟩,
  ⟨(some 23), .move (.t 0), none⟩,
  ⟨(some 24), .lenStr (.t 23), none⟩,
  ⟨(some 25), .bin .lss .no (.t 22) (.t 24), none⟩,
  ⟨(some 26), .move (.t 25), none⟩,
  ⟨(some 27), .move (.t 5), (some (26, true))⟩,
  ⟨(some 28), .pick (.t 26) (.t 27) (.k (.sc (.bool false))), none⟩]
def m64_r9 : List DI := [
  ⟨⟨(some 31), .move (.t 0), none⟩, 0, [], []⟩,
  ⟨⟨(some 32), .move (.t 6), none⟩, 0, [], []⟩,
  ⟨⟨(some 33), .idxStr (.t 31) (.t 32), none⟩, 0, [], []⟩,
  ⟨⟨(some 34), .move (.t 3), none⟩, 0, [], []⟩,
  ⟨⟨(some 35), .move (.t 4), none⟩, 0, [], []⟩,
  ⟨⟨(some 36), .indexSlice 1 (.t 34) (.t 35), none⟩, 0, [], []⟩,
  ⟨⟨(some 37), .load none (.t 36), none⟩, 1, [], []⟩,
  ⟨⟨(some 38), .move (.t 6), none⟩, 0, [], []⟩,
  ⟨⟨(some 39), .indexSlice 2 (.t 37) (.t 38), none⟩, 0, [], []⟩,
  ⟨⟨(some 40), .indexArr 2 1 (.t 39) (.k (.sc (.int .i64 0))), none⟩, 0, [], []⟩,
  ⟨⟨(some 41), .load none (.t 40), none⟩, 1, [], []⟩,
  ⟨⟨(some 42), .bin .geq .no (.t 33) (.t 41), none⟩, 0, [], []⟩,
  ⟨⟨(some 43), .move (.t 42), none⟩, 0, [], []⟩,
  ⟨⟨(some 44), .move (.t 0), (some (43, true))⟩, 0, [], []⟩,
  ⟨⟨(some 45), .move (.t 6), (some (43, true))⟩, 0, [], []⟩,
  ⟨⟨(some 46), .idxStr (.t 44) (.t 45), (some (43, true))⟩, 0, [], []⟩,
  ⟨⟨(some 47), .move (.t 3), (some (43, true))⟩, 0, [], []⟩,
  ⟨⟨(some 48), .move (.t 4), (some (43, true))⟩, 0, [], []⟩,
  ⟨⟨(some 49), .indexSlice 1 (.t 47) (.t 48), (some (43, true))⟩, 0, [], []⟩,
  ⟨⟨(some 50), .load none (.t 49), (some (43, true))⟩, 1, [], []⟩,
  ⟨⟨(some 51), .move (.t 6), (some (43, true))⟩, 0, [], []⟩,
  ⟨⟨(some 52), .indexSlice 2 (.t 50) (.t 51), (some (43, true))⟩, 0, [], []⟩,
  ⟨⟨(some 53), .indexArr 2 1 (.t 52) (.k (.sc (.int .i64 1))), (some (43, true))⟩, 0, [], []⟩,
  ⟨⟨(some 54), .load none (.t 53), (some (43, true))⟩, 1, [], []⟩,
  ⟨⟨(some 55), .bin .leq .no (.t 46) (.t 54), (some (43, true))⟩, 0, [], []⟩,
  ⟨⟨(some 56), .pick (.t 43) (.t 55) (.k (.sc (.bool false))), none⟩, 0, [], []⟩,
  ⟨⟨(some 5), .move (.t 56), none⟩, 0, [], []⟩]
def m64_r10 : List MI := [
  ⟨(some 29), .move (.t 6), none⟩,
  ⟨(some 30), .bin .add .no (.t 29) (.k (.sc (.int .i64 1))), none⟩,
  ⟨(some 6), .move (.t 30), none⟩]
def m64_l7 : MCode := (.seq (.seq (.ops m64_r8) (.cond (.t 28) .skip (.exit 2))) (.seq (.block 3 (.draw m64_r9)) (.ops m64_r10)))
def m64_r11 : List MI := [
  ⟨(some 57), .move (.t 5), none⟩,
  ⟨(some 58), .move (.t 57), none⟩,
  ⟨(some 59), .move (.t 0), (some (58, true))⟩,
  ⟨(some 60), .lenStr (.t 59), (some (58, true))⟩,
  ⟨(some 61), .move (.t 3), (some (58, true))⟩,
  ⟨(some 62), .move (.t 4), (some (58, true))⟩,
  ⟨(some 63), .indexSlice 1 (.t 61) (.t 62), (some (58, true))⟩,
  ⟨(some 64), .load none (.t 63), (some (58, true))⟩,
  ⟨(some 65), .lenSlice (.t 64), (some (58, true))⟩,
  ⟨(some 66), .bin .eql .no (.t 60) (.t 65), (some (58, true))⟩,
  ⟨(some 67), .pick (.t 58) (.t 66) (.k (.sc (.bool false))), none⟩]
def m64_r12 : List MI := [
  ⟨(some 2), .move (.k (.sc (.int .i64 2))), none⟩]
def m64_r13 : List MI := [
  ⟨(some 68), .move (.t 5), none⟩]
def m64_r14 : List MI := [
  ⟨(some 2), .move (.k (.sc (.int .i64 1))), none⟩]
def m64_r15 : List MI := [
  ⟨(some 12), .move (.t 4), none⟩,
  ⟨(some 13), .bin .add .no (.t 12) (.k (.sc (.int .i64 1))), none⟩,
  ⟨(some 4), .move (.t 13), none⟩]
def m64_l3 : MCode := (.seq (.seq (.ops m64_r4) (.cond (.t 11) .skip (.exit 0))) (.seq (.block 1 (.seq (.ops m64_r5) (.seq (.seq (.ops m64_r6) (.block 2 (.loop m64_l7))) (.seq (.seq (.ops m64_r11) (.cond (.t 67) (.seq (.ops m64_r12) .ret) .skip)) (.seq (.ops m64_r13) (.cond (.t 68) (.seq (.ops m64_r14) .ret) .skip)))))) (.ops m64_r15)))
def m64_r16 : List MI := [
  ⟨(some 2), .move (.k (.sc (.int .i64 0))), none⟩]
def m64_code : MCode := (.seq (.ops m64_r0) (.seq (.ops m64_r1) (.seq (.seq (.ops m64_r2) (.block 0 (.loop m64_l3))) (.seq (.ops m64_r16) .ret))))
def m64 : MFunc := ⟨69, [.tmp 2], m64_code⟩

def m65_r0 : List MI := [
  ⟨(some 2), .move (.k (.sc (.int .i32 0))), none⟩]
def m65_r1 : List MI := [
  ⟨(some 5), .move (.t 0), none⟩,
  ⟨(some 6), .idxStr (.t 5) (.k (.sc (.int .i64 0))), none⟩,
  ⟨(some 7), .conv (.int .i32) (.t 6), none⟩,
  ⟨(some 3), .move (.t 7), none⟩]
def m65_r2 : List MI := [
  ⟨(some 8), .move (.t 0), none⟩,
  ⟨(some 9), .lenStr (.t 8), none⟩]
def m65_r3 : List MI := [
  ⟨(some 11), .bin .eql .no (.t 9) (.k (.sc (.int .i64 2))), none⟩,
  ⟨(some 10), .move (.t 11), none⟩]
def m65_r4 : List MI := [
  ⟨(some 12), .move (.t 3), none⟩,
  ⟨(some 13), .bin .rem .no (.t 12) (.k (.sc (.int .i32 32))), none⟩,
  ⟨(some 3), .move (.t 13), none⟩]
def m65_r5 : List MI := [
  ⟨(some 15), .bin .eql .no (.t 9) (.k (.sc (.int .i64 3))), none⟩,
  ⟨(some 14), .move (.t 15), none⟩]
def m65_r6 : List MI := [
  ⟨(some 16), .move (.t 3), none⟩,
  ⟨(some 17), .bin .rem .no (.t 16) (.k (.sc (.int .i32 16))), none⟩,
  ⟨(some 3), .move (.t 17), none⟩]
def m65_r7 : List MI := [
  ⟨(some 19), .bin .eql .no (.t 9) (.k (.sc (.int .i64 4))), none⟩,
  ⟨(some 18), .move (.t 19), none⟩]
def m65_r8 : List MI := [
  ⟨(some 20), .move (.t 3), none⟩,
  ⟨(some 21), .bin .rem .no (.t 20) (.k (.sc (.int .i32 8))), none⟩,
  ⟨(some 3), .move (.t 21), none⟩]
def m65_r9 : List MI := [
  ⟨(some 4), .move (.k (.sc (.int .i64 1))), none⟩]
def m65_r11 : List MI := [
  ⟨(some 22), .move (.t 4), none⟩,
  ⟨(some 23), .move (.t 0), none⟩,
  ⟨(some 24), .lenStr (.t 23), none⟩,
  ⟨(some 25), .bin .lss .no (.t 22) (.t 24), none⟩]
def m65_r12 : List MI := [
  ⟨(some 28), .move (.t 3), none⟩,
  ⟨(some 29), .bin .mul .no (.k (.sc (.int .i32 64))) (.t 28), none⟩,
  ⟨(some 30), .move (.t 0), none⟩,
  ⟨(some 31), .move (.t 4), none⟩,
  ⟨(some 32), .idxStr (.t 30) (.t 31), none⟩,
  ⟨(some 33), .conv (.int .i32) (.t 32), none⟩,
  ⟨(some 34), .bin .rem .no (.t 33) (.k (.sc (.int .i32 64))), none⟩,
  ⟨(some 35), .bin .add .no (.t 29) (.t 34), none⟩,
  ⟨(some 3), .move (.t 35), none⟩]
def m65_r13 : List MI := [
  ⟨(some 26), .move (.t 4), none⟩,
  ⟨(some 27), .bin .add .no (.t 26) (.k (.sc (.int .i64 1))), none⟩,
  ⟨(some 4), .move (.t 27), none⟩]
def m65_l10 : MCode := (.seq (.seq (.ops m65_r11) (.cond (.t 25) .skip (.exit 1))) (.seq (.block 2 (.ops m65_r12)) (.ops m65_r13)))
def m65_r14 : List MI := [
  ⟨(some 36), .move (.t 3), none⟩,
  ⟨(some 2), .move (.t 36), none⟩]
def m65_code : MCode := (.seq (.ops m65_r0) (.seq (.ops m65_r1) (.seq (.seq (.ops m65_r2) (.block 0 (.seq (.ops m65_r3) (.cond (.t 10) (.ops m65_r4) (.seq (.ops m65_r5) (.cond (.t 14) (.ops m65_r6) (.seq (.ops m65_r7) (.cond (.t 18) (.ops m65_r8) .skip)))))))) (.seq (.seq (.ops m65_r9) (.block 1 (.loop m65_l10))) (.seq (.ops m65_r14) .ret)))))
def m65 : MFunc := ⟨37, [.tmp 2], m65_code⟩

def m66_r0 : List MI := [
  ⟨(some 4), .move (.k (.sc (.bool false))), none⟩]
def m66_r1 : List MI := [
  ⟨(some 5), .move (.t 0), none⟩,
  ⟨(some 6), .move (.t 1), none⟩,
  ⟨(some 7), .call 75 [(.t 5), (.t 6)], none⟩,
  ⟨(some 8), .bin .geq .no (.t 7) (.k (.sc (.int .i64 0))), none⟩,
  ⟨(some 4), .move (.t 8), none⟩]
def m66_code : MCode := (.seq (.ops m66_r0) (.seq (.ops m66_r1) .ret))
def m66 : MFunc := ⟨9, [.tmp 4], m66_code⟩

def m67_r0 : List MI := [
  ⟨(some 3), .move (.k (.sc (.bool false))), none⟩]
def m67_r1 : List DI := [
  ⟨⟨(some 4), .move (.t 0), none⟩, 0, [], []⟩,
  ⟨⟨(some 5), .lenSlice (.t 4), none⟩, 0, [], []⟩,
  ⟨⟨(some 6), .bin .neq .no (.t 5) (.k (.sc (.int .i64 1))), none⟩, 0, [], []⟩,
  ⟨⟨(some 7), .move (.t 6), none⟩, 0, [], []⟩,
  ⟨⟨(some 8), .load none (.t 1), (some (7, false))⟩, 1, [], []⟩,
  ⟨⟨(some 9), .move (.t 0), (some (7, false))⟩, 0, [], []⟩,
  ⟨⟨(some 10), .indexSlice 1 (.t 9) (.k (.sc (.int .i64 0))), (some (7, false))⟩, 0, [], []⟩,
  ⟨⟨(some 11), .load none (.t 10), (some (7, false))⟩, 1, [], []⟩,
  ⟨⟨(some 12), .call 68 [(.t 8), (.t 11)], (some (7, false))⟩, 2, [], []⟩,
  ⟨⟨(some 13), .un .not (.t 12), (some (7, false))⟩, 0, [], []⟩,
  ⟨⟨(some 14), .pick (.t 7) (.k (.sc (.bool true))) (.t 13), none⟩, 0, [], []⟩,
  ⟨⟨(some 3), .move (.t 14), none⟩, 0, [], []⟩]
def m67_code : MCode := (.seq (.ops m67_r0) (.seq (.draw m67_r1) .ret))
def m67 : MFunc := ⟨15, [.tmp 3], m67_code⟩

def m68_r0 : List MI := [
  ⟨(some 4), .move (.k (.sc (.bool false))), none⟩]
def m68_r1 : List MI := [
  ⟨(some 5), .move (.t 0), none⟩,
  ⟨(some 6), .move (.t 1), none⟩,
  ⟨(some 7), .call 76 [(.t 5), (.t 6)], none⟩,
  ⟨(some 8), .bin .geq .no (.t 7) (.k (.sc (.int .i64 0))), none⟩,
  ⟨(some 4), .move (.t 8), none⟩]
def m68_code : MCode := (.seq (.ops m68_r0) (.seq (.ops m68_r1) .ret))
def m68 : MFunc := ⟨9, [.tmp 4], m68_code⟩

def m74_r0 : List MI := [
  ⟨(some 0), .move (.k (.sc (.nils))), none⟩]
def m74_r1 : List MI := [
  ⟨(some 2), .build [.int .u8 0, .int .u8 0] [(0, 1, (.k (.sc (.int .u8 128)))), (1, 1, (.k (.sc (.int .u8 191))))], none⟩,
  ⟨(some 1), .alloc 117 [.int .u8 0, .int .u8 0], none⟩,
  ⟨none, .store 2 (.t 1) (.t 2), none⟩]
def m74_r2 : List MI := [
  ⟨(some 3), .build [.int .u8 0, .int .u8 0] [(0, 1, (.k (.sc (.int .u8 0)))), (1, 1, (.k (.sc (.int .u8 127))))], none⟩,
  ⟨(some 4), .buildSlice 117 2 1 [.int .u8 0, .int .u8 0] [(0, 2, (.t 3))], none⟩,
  ⟨(some 5), .build [.int .u8 0, .int .u8 0] [(0, 1, (.k (.sc (.int .u8 194)))), (1, 1, (.k (.sc (.int .u8 223))))], none⟩,
  ⟨(some 6), .load (some 2) (.t 1), none⟩,
  ⟨(some 7), .buildSlice 117 2 2 [.int .u8 0, .int .u8 0] [(0, 2, (.t 5)), (2, 2, (.t 6))], none⟩,
  ⟨(some 8), .build [.int .u8 0, .int .u8 0] [(0, 1, (.k (.sc (.int .u8 224)))), (1, 1, (.k (.sc (.int .u8 224))))], none⟩,
  ⟨(some 9), .build [.int .u8 0, .int .u8 0] [(0, 1, (.k (.sc (.int .u8 160)))), (1, 1, (.k (.sc (.int .u8 191))))], none⟩,
  ⟨(some 10), .load (some 2) (.t 1), none⟩,
  ⟨(some 11), .buildSlice 117 2 3 [.int .u8 0, .int .u8 0] [(0, 2, (.t 8)), (2, 2, (.t 9)), (4, 2, (.t 10))], none⟩,
  ⟨(some 12), .build [.int .u8 0, .int .u8 0] [(0, 1, (.k (.sc (.int .u8 225)))), (1, 1, (.k (.sc (.int .u8 236))))], none⟩,
  ⟨(some 13), .load (some 2) (.t 1), none⟩,
  ⟨(some 14), .load (some 2) (.t 1), none⟩,
  ⟨(some 15), .buildSlice 117 2 3 [.int .u8 0, .int .u8 0] [(0, 2, (.t 12)), (2, 2, (.t 13)), (4, 2, (.t 14))], none⟩,
  ⟨(some 16), .build [.int .u8 0, .int .u8 0] [(0, 1, (.k (.sc (.int .u8 237)))), (1, 1, (.k (.sc (.int .u8 237))))], none⟩,
  ⟨(some 17), .build [.int .u8 0, .int .u8 0] [(0, 1, (.k (.sc (.int .u8 128)))), (1, 1, (.k (.sc (.int .u8 159))))], none⟩,
  ⟨(some 18), .load (some 2) (.t 1), none⟩,
  ⟨(some 19), .buildSlice 117 2 3 [.int .u8 0, .int .u8 0] [(0, 2, (.t 16)), (2, 2, (.t 17)), (4, 2, (.t 18))], none⟩,
  ⟨(some 20), .build [.int .u8 0, .int .u8 0] [(0, 1, (.k (.sc (.int .u8 238)))), (1, 1, (.k (.sc (.int .u8 239))))], none⟩,
  ⟨(some 21), .load (some 2) (.t 1), none⟩,
  ⟨(some 22), .load (some 2) (.t 1), none⟩,
  ⟨(some 23), .buildSlice 117 2 3 [.int .u8 0, .int .u8 0] [(0, 2, (.t 20)), (2, 2, (.t 21)), (4, 2, (.t 22))], none⟩,
  ⟨(some 24), .build [.int .u8 0, .int .u8 0] [(0, 1, (.k (.sc (.int .u8 240)))), (1, 1, (.k (.sc (.int .u8 240))))], none⟩,
  ⟨(some 25), .build [.int .u8 0, .int .u8 0] [(0, 1, (.k (.sc (.int .u8 144)))), (1, 1, (.k (.sc (.int .u8 191))))], none⟩,
  ⟨(some 26), .load (some 2) (.t 1), none⟩,
  ⟨(some 27), .load (some 2) (.t 1), none⟩,
  ⟨(some 28), .buildSlice 117 2 4 [.int .u8 0, .int .u8 0] [(0, 2, (.t 24)), (2, 2, (.t 25)), (4, 2, (.t 26)), (6, 2, (.t 27))], none⟩,
  ⟨(some 29), .build [.int .u8 0, .int .u8 0] [(0, 1, (.k (.sc (.int .u8 241)))), (1, 1, (.k (.sc (.int .u8 243))))], none⟩,
  ⟨(some 30), .load (some 2) (.t 1), none⟩,
  ⟨(some 31), .load (some 2) (.t 1), none⟩,
  ⟨(some 32), .load (some 2) (.t 1), none⟩,
  ⟨(some 33), .buildSlice 117 2 4 [.int .u8 0, .int .u8 0] [(0, 2, (.t 29)), (2, 2, (.t 30)), (4, 2, (.t 31)), (6, 2, (.t 32))], none⟩,
  ⟨(some 34), .build [.int .u8 0, .int .u8 0] [(0, 1, (.k (.sc (.int .u8 244)))), (1, 1, (.k (.sc (.int .u8 244))))], none⟩,
  ⟨(some 35), .build [.int .u8 0, .int .u8 0] [(0, 1, (.k (.sc (.int .u8 128)))), (1, 1, (.k (.sc (.int .u8 143))))], none⟩,
  ⟨(some 36), .load (some 2) (.t 1), none⟩,
  ⟨(some 37), .load (some 2) (.t 1), none⟩,
  ⟨(some 38), .buildSlice 117 2 4 [.int .u8 0, .int .u8 0] [(0, 2, (.t 34)), (2, 2, (.t 35)), (4, 2, (.t 36)), (6, 2, (.t 37))], none⟩,
  ⟨(some 39), .buildSlice 116 1 9 [.nils] [(0, 1, (.t 4)), (1, 1, (.t 7)), (2, 1, (.t 11)), (3, 1, (.t 15)), (4, 1, (.t 19)), (5, 1, (.t 23)), (6, 1, (.t 28)), (7, 1, (.t 33)), (8, 1, (.t 38))], none⟩,
  ⟨(some 0), .move (.t 39), none⟩]
def m74_code : MCode := (.seq (.ops m74_r0) (.seq (.ops m74_r1) (.seq (.ops m74_r2) .ret)))
def m74 : MFunc := ⟨40, [.tmp 0], m74_code⟩

def m75_r0 : List MI := [
  ⟨(some 4), .move (.k (.sc (.int .i64 0))), none⟩]
def m75_r1 : List MI := [
  ⟨(some 6), .move (.t 0), none⟩,
  ⟨(some 7), .lenSlice (.t 6), none⟩,
  ⟨(some 8), .move (.k (.sc (.int .i64 0))), none⟩]
def m75_r3 : List MI := [
  ⟨(some 9), .bin .lss .no (.t 8) (.t 7), none⟩]
def m75_r4 : List MI := [
  ⟨(some 10), .move (.t 8), none⟩,
  ⟨(some 5), .move (.t 10), none⟩]
def m75_r5 : List MI := [
  ⟨(some 11), .move (.t 1), none⟩,
  ⟨(some 12), .move (.t 0), none⟩,
  ⟨(some 13), .move (.t 5), none⟩,
  ⟨(some 14), .indexSlice 1 (.t 12) (.t 13), none⟩,
  ⟨(some 15), .load none (.t 14), none⟩,
  ⟨(some 16), .callv (.t 11) [(.t 15)], none⟩]
def m75_r6 : List MI := [
  ⟨(some 17), .move (.t 5), none⟩,
  ⟨(some 4), .move (.t 17), none⟩]
def m75_r7 : List MI := [
  ⟨(some 18), .bin .add .no (.t 8) (.k (.sc (.int .i64 1))), none⟩,
  ⟨(some 8), .move (.t 18), none⟩]
def m75_l2 : MCode := (.seq (.ops m75_r3) (.seq (.cond (.t 9) .skip (.exit 0)) (.seq (.block 1 (.seq (.ops m75_r4) (.seq (.ops m75_r5) (.cond (.t 16) (.seq (.ops m75_r6) .ret) .skip)))) (.ops m75_r7))))
def m75_r8 : List MI := [
  ⟨(some 4), .move (.k (.sc (.int .i64 (-1)))), none⟩]
def m75_code : MCode := (.seq (.ops m75_r0) (.seq (.seq (.ops m75_r1) (.block 0 (.loop m75_l2))) (.seq (.ops m75_r8) .ret)))
def m75 : MFunc := ⟨19, [.tmp 4], m75_code⟩

def m76_r0 : List MI := [
  ⟨(some 4), .move (.k (.sc (.int .i64 0))), none⟩]
def m76_r1 : List MI := [
  ⟨(some 6), .move (.t 0), none⟩,
  ⟨(some 7), .lenSlice (.t 6), none⟩,
  ⟨(some 8), .move (.k (.sc (.int .i64 0))), none⟩]
def m76_r3 : List MI := [
  ⟨(some 9), .bin .lss .no (.t 8) (.t 7), none⟩]
def m76_r4 : List MI := [
  ⟨(some 10), .move (.t 8), none⟩,
  ⟨(some 5), .move (.t 10), none⟩]
def m76_r5 : List MI := [
  ⟨(some 11), .move (.t 1), none⟩,
  ⟨(some 12), .move (.t 0), none⟩,
  ⟨(some 13), .move (.t 5), none⟩,
  ⟨(some 14), .indexSlice 1 (.t 12) (.t 13), none⟩,
  ⟨(some 15), .load none (.t 14), none⟩,
  ⟨(some 16), .bin .eql .no (.t 11) (.t 15), none⟩]
def m76_r6 : List MI := [
  ⟨(some 17), .move (.t 5), none⟩,
  ⟨(some 4), .move (.t 17), none⟩]
def m76_r7 : List MI := [
  ⟨(some 18), .bin .add .no (.t 8) (.k (.sc (.int .i64 1))), none⟩,
  ⟨(some 8), .move (.t 18), none⟩]
def m76_l2 : MCode := (.seq (.ops m76_r3) (.seq (.cond (.t 9) .skip (.exit 0)) (.seq (.block 1 (.seq (.ops m76_r4) (.seq (.ops m76_r5) (.cond (.t 16) (.seq (.ops m76_r6) .ret) .skip)))) (.ops m76_r7))))
def m76_r8 : List MI := [
  ⟨(some 4), .move (.k (.sc (.int .i64 (-1)))), none⟩]
def m76_code : MCode := (.seq (.ops m76_r0) (.seq (.seq (.ops m76_r1) (.block 0 (.loop m76_l2))) (.seq (.ops m76_r8) .ret)))
def m76 : MFunc := ⟨19, [.tmp 4], m76_code⟩

def DD0 : Nat → Option MFunc := fun f => match f with
  | 6 => some m6
  | 8 => some m8
  | 9 => some m9
  | 10 => some m10
  | 11 => some m11
  | 12 => some m12
  | 13 => some m13
  | 14 => some m14
  | 15 => some m15
  | 16 => some m16
  | 17 => some m17
  | 18 => some m18
  | 19 => some m19
  | 20 => some m20
  | 21 => some m21
  | 22 => some m22
  | 23 => some m23
  | 24 => some m24
  | 25 => some m25
  | 26 => some m26
  | 27 => some m27
  | 28 => some m28
  | 29 => some m29
  | 30 => some m30
  | 31 => some m31
  | 32 => some m32
  | 33 => some m33
  | 34 => some m34
  | 35 => some m35
  | 36 => some m36
  | 37 => some m37
  | 38 => some m38
  | 39 => some m39
  | 40 => some m40
  | 41 => some m41
  | 42 => some m42
  | 43 => some m43
  | 44 => some m44
  | 45 => some m45
  | 46 => some m46
  | 47 => some m47
  | 48 => some m48
  | 49 => some m49
  | 50 => some m50
  | 51 => some m51
  | 52 => some m52
  | 53 => some m53
  | 54 => some m54
  | 55 => some m55
  | 59 => some m59
  | 63 => some m63
  | 64 => some m64
  | 65 => some m65
  | 66 => some m66
  | 67 => some m67
  | 68 => some m68
  | 74 => some m74
  | 75 => some m75
  | 76 => some m76
  | _ => none
def DD : Nat → Option MFunc := withKnown [8] DD0
theorem c6 : mfun Tryd.prog jxX 6 = some m6 := by kernel_rfl
theorem c8 : mfun Tryd.prog jxX 8 = some m8 := by kernel_rfl
theorem c9 : mfun Tryd.prog jxX 9 = some m9 := by kernel_rfl
theorem c10 : mfun Tryd.prog jxX 10 = some m10 := by kernel_rfl
theorem c11 : mfun Tryd.prog jxX 11 = some m11 := by kernel_rfl
theorem c12 : mfun Tryd.prog jxX 12 = some m12 := by kernel_rfl
theorem c13 : mfun Tryd.prog jxX 13 = some m13 := by kernel_rfl
theorem c14 : mfun Tryd.prog jxX 14 = some m14 := by kernel_rfl
theorem c15 : mfun Tryd.prog jxX 15 = some m15 := by kernel_rfl
theorem c16 : mfun Tryd.prog jxX 16 = some m16 := by kernel_rfl
theorem c17 : mfun Tryd.prog jxX 17 = some m17 := by kernel_rfl
theorem c18 : mfun Tryd.prog jxX 18 = some m18 := by kernel_rfl
theorem c19 : mfun Tryd.prog jxX 19 = some m19 := by kernel_rfl
theorem c20 : mfun Tryd.prog jxX 20 = some m20 := by kernel_rfl
theorem c21 : mfun Tryd.prog jxX 21 = some m21 := by kernel_rfl
theorem c22 : mfun Tryd.prog jxX 22 = some m22 := by kernel_rfl
theorem c23 : mfun Tryd.prog jxX 23 = some m23 := by kernel_rfl
theorem c24 : mfun Tryd.prog jxX 24 = some m24 := by kernel_rfl
theorem c25 : mfun Tryd.prog jxX 25 = some m25 := by kernel_rfl
theorem c26 : mfun Tryd.prog jxX 26 = some m26 := by kernel_rfl
theorem c27 : mfun Tryd.prog jxX 27 = some m27 := by kernel_rfl
theorem c28 : mfun Tryd.prog jxX 28 = some m28 := by kernel_rfl
theorem c29 : mfun Tryd.prog jxX 29 = some m29 := by kernel_rfl
theorem c30 : mfun Tryd.prog jxX 30 = some m30 := by kernel_rfl
theorem c31 : mfun Tryd.prog jxX 31 = some m31 := by kernel_rfl
theorem c32 : mfun Tryd.prog jxX 32 = some m32 := by kernel_rfl
theorem c33 : mfun Tryd.prog jxX 33 = some m33 := by kernel_rfl
theorem c34 : mfun Tryd.prog jxX 34 = some m34 := by kernel_rfl
theorem c35 : mfun Tryd.prog jxX 35 = some m35 := by kernel_rfl
theorem c36 : mfun Tryd.prog jxX 36 = some m36 := by kernel_rfl
theorem c37 : mfun Tryd.prog jxX 37 = some m37 := by kernel_rfl
theorem c38 : mfun Tryd.prog jxX 38 = some m38 := by kernel_rfl
theorem c39 : mfun Tryd.prog jxX 39 = some m39 := by kernel_rfl
theorem c40 : mfun Tryd.prog jxX 40 = some m40 := by kernel_rfl
theorem c41 : mfun Tryd.prog jxX 41 = some m41 := by kernel_rfl
theorem c42 : mfun Tryd.prog jxX 42 = some m42 := by kernel_rfl
theorem c43 : mfun Tryd.prog jxX 43 = some m43 := by kernel_rfl
theorem c44 : mfun Tryd.prog jxX 44 = some m44 := by kernel_rfl
theorem c45 : mfun Tryd.prog jxX 45 = some m45 := by kernel_rfl
theorem c46 : mfun Tryd.prog jxX 46 = some m46 := by kernel_rfl
theorem c47 : mfun Tryd.prog jxX 47 = some m47 := by kernel_rfl
theorem c48 : mfun Tryd.prog jxX 48 = some m48 := by kernel_rfl
theorem c49 : mfun Tryd.prog jxX 49 = some m49 := by kernel_rfl
theorem c50 : mfun Tryd.prog jxX 50 = some m50 := by kernel_rfl
theorem c51 : mfun Tryd.prog jxX 51 = some m51 := by kernel_rfl
theorem c52 : mfun Tryd.prog jxX 52 = some m52 := by kernel_rfl
theorem c53 : mfun Tryd.prog jxX 53 = some m53 := by kernel_rfl
theorem c54 : mfun Tryd.prog jxX 54 = some m54 := by kernel_rfl
theorem c55 : mfun Tryd.prog jxX 55 = some m55 := by kernel_rfl
theorem c59 : mfun Tryd.prog jxX 59 = some m59 := by kernel_rfl
theorem c63 : mfun Tryd.prog jxX 63 = some m63 := by kernel_rfl
theorem c64 : mfun Tryd.prog jxX 64 = some m64 := by kernel_rfl
theorem c65 : mfun Tryd.prog jxX 65 = some m65 := by kernel_rfl
theorem c66 : mfun Tryd.prog jxX 66 = some m66 := by kernel_rfl
theorem c67 : mfun Tryd.prog jxX 67 = some m67 := by kernel_rfl
theorem c68 : mfun Tryd.prog jxX 68 = some m68 := by kernel_rfl
theorem c74 : mfun Tryd.prog jxX 74 = some m74 := by kernel_rfl
theorem c75 : mfun Tryd.prog jxX 75 = some m75 := by kernel_rfl
theorem c76 : mfun Tryd.prog jxX 76 = some m76 := by kernel_rfl
theorem d6 : DD 6 = some m6 := rfl
theorem d8 : DD 8 = some knownM := rfl
theorem d9 : DD 9 = some m9 := rfl
theorem d10 : DD 10 = some m10 := rfl
theorem d11 : DD 11 = some m11 := rfl
theorem d12 : DD 12 = some m12 := rfl
theorem d13 : DD 13 = some m13 := rfl
theorem d14 : DD 14 = some m14 := rfl
theorem d15 : DD 15 = some m15 := rfl
theorem d16 : DD 16 = some m16 := rfl
theorem d17 : DD 17 = some m17 := rfl
theorem d18 : DD 18 = some m18 := rfl
theorem d19 : DD 19 = some m19 := rfl
theorem d20 : DD 20 = some m20 := rfl
theorem d21 : DD 21 = some m21 := rfl
theorem d22 : DD 22 = some m22 := rfl
theorem d23 : DD 23 = some m23 := rfl
theorem d24 : DD 24 = some m24 := rfl
theorem d25 : DD 25 = some m25 := rfl
theorem d26 : DD 26 = some m26 := rfl
theorem d27 : DD 27 = some m27 := rfl
theorem d28 : DD 28 = some m28 := rfl
theorem d29 : DD 29 = some m29 := rfl
theorem d30 : DD 30 = some m30 := rfl
theorem d31 : DD 31 = some m31 := rfl
theorem d32 : DD 32 = some m32 := rfl
theorem d33 : DD 33 = some m33 := rfl
theorem d34 : DD 34 = some m34 := rfl
theorem d35 : DD 35 = some m35 := rfl
theorem d36 : DD 36 = some m36 := rfl
theorem d37 : DD 37 = some m37 := rfl
theorem d38 : DD 38 = some m38 := rfl
theorem d39 : DD 39 = some m39 := rfl
theorem d40 : DD 40 = some m40 := rfl
theorem d41 : DD 41 = some m41 := rfl
theorem d42 : DD 42 = some m42 := rfl
theorem d43 : DD 43 = some m43 := rfl
theorem d44 : DD 44 = some m44 := rfl
theorem d45 : DD 45 = some m45 := rfl
theorem d46 : DD 46 = some m46 := rfl
theorem d47 : DD 47 = some m47 := rfl
theorem d48 : DD 48 = some m48 := rfl
theorem d49 : DD 49 = some m49 := rfl
theorem d50 : DD 50 = some m50 := rfl
theorem d51 : DD 51 = some m51 := rfl
theorem d52 : DD 52 = some m52 := rfl
theorem d53 : DD 53 = some m53 := rfl
theorem d54 : DD 54 = some m54 := rfl
theorem d55 : DD 55 = some m55 := rfl
theorem d59 : DD 59 = some m59 := rfl
theorem d63 : DD 63 = some m63 := rfl
theorem d64 : DD 64 = some m64 := rfl
theorem d65 : DD 65 = some m65 := rfl
theorem d66 : DD 66 = some m66 := rfl
theorem d67 : DD 67 = some m67 := rfl
theorem d68 : DD 68 = some m68 := rfl
theorem d74 : DD 74 = some m74 := rfl
theorem d75 : DD 75 = some m75 := rfl
theorem d76 : DD 76 = some m76 := rfl
theorem DD0_ok (w : World) : FunOk Tryd.prog w jxX DD0 := by
  intro f m h
  refine mfun_ok _ w _ f m ?_
  unfold DD0 at h
  split at h
  · cases h; exact c6
  · cases h; exact c8
  · cases h; exact c9
  · cases h; exact c10
  · cases h; exact c11
  · cases h; exact c12
  · cases h; exact c13
  · cases h; exact c14
  · cases h; exact c15
  · cases h; exact c16
  · cases h; exact c17
  · cases h; exact c18
  · cases h; exact c19
  · cases h; exact c20
  · cases h; exact c21
  · cases h; exact c22
  · cases h; exact c23
  · cases h; exact c24
  · cases h; exact c25
  · cases h; exact c26
  · cases h; exact c27
  · cases h; exact c28
  · cases h; exact c29
  · cases h; exact c30
  · cases h; exact c31
  · cases h; exact c32
  · cases h; exact c33
  · cases h; exact c34
  · cases h; exact c35
  · cases h; exact c36
  · cases h; exact c37
  · cases h; exact c38
  · cases h; exact c39
  · cases h; exact c40
  · cases h; exact c41
  · cases h; exact c42
  · cases h; exact c43
  · cases h; exact c44
  · cases h; exact c45
  · cases h; exact c46
  · cases h; exact c47
  · cases h; exact c48
  · cases h; exact c49
  · cases h; exact c50
  · cases h; exact c51
  · cases h; exact c52
  · cases h; exact c53
  · cases h; exact c54
  · cases h; exact c55
  · cases h; exact c59
  · cases h; exact c63
  · cases h; exact c64
  · cases h; exact c65
  · cases h; exact c66
  · cases h; exact c67
  · cases h; exact c68
  · cases h; exact c74
  · cases h; exact c75
  · cases h; exact c76
  · cases h
end Go.Proofs.YtggkbkbhegcbkaaDoor
