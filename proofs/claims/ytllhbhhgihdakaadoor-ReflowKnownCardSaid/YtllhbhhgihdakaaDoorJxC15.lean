/- The plain machine's functions of this seat, as a program of mine printed them (Prt.lean), and that they are what compiling gives. -/
import Derived.Test.YtllhbhhgihdakaaDoorJxKRun
import Derived.Test.YtllhbhhgihdakaaDoorJxW3
import Derived.Test.YtllhbhhgihdakaaDoorChecked
namespace Go.Proofs.YtllhbhhgihdakaaDoor
open Go Go.Jx
def jxX : Exts := exts [9,9,0,0,0,0,0,0,0,0,0,0,0,0,0,0,0,0,0,0,0,0,0,0,0,0,0,0,0,0,0,0,0,0,0,0,0,0,0,0,0,0,0,1,0,0,0,0,0,0,0,0,0,0,9,9,0,2]
def m3_r0 : List MI := [
  ⟨(some 8), .move (.k (.sc (.bool false))), none⟩]
def m3_r1 : List MI := [
  ⟨(some 13), .move (.t 0), none⟩,
  ⟨(some 14), .call 8 [(.t 13)], none⟩]
def m3_r2 : List MI := [
  ⟨(some 15), .call 9 [], none⟩,
  ⟨(some 8), .move (.t 15), none⟩]
def m3_r3 : List MI := [
  ⟨(some 17), .move (.t 0), none⟩,
  ⟨(some 18), .move (.t 1), none⟩,
  ⟨(some 19), .move (.t 2), none⟩,
  ⟨(some 20), .move (.t 3), none⟩,
  ⟨(some 21), .call 10 [(.t 17), (.t 18), (.t 19), (.t 20)], none⟩,
  ⟨(some 16), .move (.t 21), none⟩,
  ⟨(some 22), .extract (.t 16) 0, none⟩,
  ⟨(some 23), .extract (.t 16) 1, none⟩,
  ⟨(some 9), .move (.t 22), none⟩,
  ⟨(some 10), .move (.t 23), none⟩]
def m3_r4 : List MI := [
  ⟨(some 25), .move (.t 0), none⟩,
  ⟨(some 26), .call 12 [(.t 25)], none⟩,
  ⟨(some 27), .move (.t 1), none⟩,
  ⟨(some 28), .move (.t 2), none⟩,
  ⟨(some 29), .move (.t 3), none⟩,
  ⟨(some 30), .call 11 [(.t 26), (.t 27), (.t 28), (.t 29)], none⟩,
  ⟨(some 24), .move (.t 30), none⟩,
  ⟨(some 31), .extract (.t 24) 0, none⟩,
  ⟨(some 32), .extract (.t 24) 1, none⟩,
  ⟨(some 11), .move (.t 31), none⟩,
  ⟨(some 12), .move (.t 32), none⟩]
def m3_r5 : List MI := [
  ⟨(some 33), .move (.t 9), none⟩,
  ⟨(some 34), .move (.t 11), none⟩,
  ⟨(some 35), .bin .eql .no (.t 33) (.t 34), none⟩,
  ⟨(some 36), .move (.t 35), none⟩,
  ⟨(some 37), .move (.t 10), (some (36, true))⟩,
  ⟨(some 38), .move (.t 12), (some (36, true))⟩,
  ⟨(some 39), .bin .eql .no (.t 37) (.t 38), (some (36, true))⟩,
  ⟨(some 40), .pick (.t 36) (.t 39) (.k (.sc (.bool false))), none⟩,
  ⟨(some 41), .move (.t 40), none⟩,
  ⟨(some 42), .call 9 [], (some (41, true))⟩,
  ⟨(some 43), .pick (.t 41) (.t 42) (.k (.sc (.bool false))), none⟩,
  ⟨(some 8), .move (.t 43), none⟩]
def m3_code : MCode := (.seq (.ops m3_r0) (.seq (.seq (.ops m3_r1) (.cond (.t 14) (.seq (.ops m3_r2) .ret) .skip)) (.seq (.ops m3_r3) (.seq (.ops m3_r4) (.seq (.ops m3_r5) .ret)))))
def m3 : MFunc := ⟨44, [.tmp 8], m3_code⟩

def m4_r0 : List MI := [
  ⟨(some 6), .move (.k (.sc (.bool false))), none⟩]
def m4_r1 : List MI := [
  ⟨(some 11), .move (.t 0), none⟩,
  ⟨(some 12), .call 8 [(.t 11)], none⟩,
  ⟨(some 13), .move (.t 12), none⟩,
  ⟨(some 14), .move (.t 1), (some (13, false))⟩,
  ⟨(some 15), .bin .lss .no (.t 14) (.k (.sc (.int .i64 2))), (some (13, false))⟩,
  ⟨(some 16), .pick (.t 13) (.k (.sc (.bool true))) (.t 15), none⟩,
  ⟨(some 17), .move (.t 16), none⟩,
  ⟨(some 18), .move (.t 1), (some (17, false))⟩,
  ⟨(some 19), .bin .gtr .no (.t 18) (.k (.sc (.int .i64 400))), (some (17, false))⟩,
  ⟨(some 20), .pick (.t 17) (.k (.sc (.bool true))) (.t 19), none⟩,
  ⟨(some 21), .move (.t 20), none⟩,
  ⟨(some 22), .move (.t 2), (some (21, false))⟩,
  ⟨(some 23), .bin .lss .no (.t 22) (.k (.sc (.int .i64 2))), (some (21, false))⟩,
  ⟨(some 24), .pick (.t 21) (.k (.sc (.bool true))) (.t 23), none⟩,
  ⟨(some 25), .move (.t 24), none⟩,
  ⟨(some 26), .move (.t 2), (some (25, false))⟩,
  ⟨(some 27), .bin .gtr .no (.t 26) (.k (.sc (.int .i64 400))), (some (25, false))⟩,
  ⟨(some 28), .pick (.t 25) (.k (.sc (.bool true))) (.t 27), none⟩]
def m4_r2 : List MI := [
  ⟨(some 29), .call 9 [], none⟩,
  ⟨(some 6), .move (.t 29), none⟩]
def m4_r3 : List MI := [
  ⟨(some 30), .move (.t 0), none⟩,
  ⟨(some 31), .move (.t 1), none⟩,
  ⟨(some 32), .call 13 [(.t 30), (.t 31)], none⟩,
  ⟨(some 7), .move (.t 32), none⟩]
def m4_r4 : List MI := [
  ⟨(some 33), .move (.t 7), none⟩,
  ⟨(some 34), .move (.t 2), none⟩,
  ⟨(some 35), .call 13 [(.t 33), (.t 34)], none⟩,
  ⟨(some 36), .move (.t 0), none⟩,
  ⟨(some 37), .move (.t 2), none⟩,
  ⟨(some 38), .call 13 [(.t 36), (.t 37)], none⟩,
  ⟨(some 39), .call 14 [(.t 35), (.t 38)], none⟩,
  ⟨(some 40), .un .not (.t 39), none⟩,
  ⟨(some 41), .move (.t 40), none⟩,
  ⟨(some 42), .move (.t 7), (some (41, false))⟩,
  ⟨(some 43), .move (.t 1), (some (41, false))⟩,
  ⟨(some 44), .call 13 [(.t 42), (.t 43)], (some (41, false))⟩,
  ⟨(some 45), .move (.t 7), (some (41, false))⟩,
  ⟨(some 46), .call 14 [(.t 44), (.t 45)], (some (41, false))⟩,
  ⟨(some 47), .un .not (.t 46), (some (41, false))⟩,
  ⟨(some 48), .pick (.t 41) (.k (.sc (.bool true))) (.t 47), none⟩]
def m4_r5 : List MI := [
  ⟨(some 6), .move (.k (.sc (.bool false))), none⟩]
def m4_r6 : List MI := [
  ⟨(some 49), .move (.t 0), none⟩,
  ⟨(some 50), .call 15 [(.t 49)], none⟩,
  ⟨(some 8), .move (.t 50), none⟩]
def m4_r7 : List MI := [
  ⟨(some 51), .move (.t 7), none⟩,
  ⟨(some 52), .call 15 [(.t 51)], none⟩,
  ⟨(some 9), .move (.t 52), none⟩]
def m4_r8 : List MI := [
  ⟨(some 53), .move (.t 8), none⟩,
  ⟨(some 54), .lenSlice (.t 53), none⟩,
  ⟨(some 55), .move (.t 9), none⟩,
  ⟨(some 56), .lenSlice (.t 55), none⟩,
  ⟨(some 57), .bin .neq .no (.t 54) (.t 56), none⟩]
def m4_r9 : List MI := [
  ⟨(some 6), .move (.k (.sc (.bool false))), none⟩]
def m4_r10 : List MI := [
  ⟨(some 10), .move (.k (.sc (.int .i64 0))), none⟩]
def m4_r12 : List MI := [
  ⟨(some 58), .move (.t 10), none⟩,
  ⟨(some 59), .move (.t 8), none⟩,
  ⟨(some 60), .lenSlice (.t 59), none⟩,
  ⟨(some 61), .bin .lss .no (.t 58) (.t 60), none⟩]
def m4_r13 : List DI := [
  ⟨⟨(some 64), .move (.t 8), none⟩, 0, [], []⟩,
  ⟨⟨(some 65), .move (.t 10), none⟩, 0, [], []⟩,
  ⟨⟨(some 66), .indexSlice 1 (.t 64) (.t 65), none⟩, 0, [], []⟩,
  ⟨⟨(some 67), .load none (.t 66), none⟩, 1, [], []⟩,
  ⟨⟨(some 68), .move (.t 9), none⟩, 0, [], []⟩,
  ⟨⟨(some 69), .move (.t 10), none⟩, 0, [], []⟩,
  ⟨⟨(some 70), .indexSlice 1 (.t 68) (.t 69), none⟩, 0, [], []⟩,
  ⟨⟨(some 71), .load none (.t 70), none⟩, 1, [], []⟩,
  ⟨⟨(some 72), .call 16 [(.t 67), (.t 71)], none⟩, 2, [], []⟩,
  ⟨⟨(some 73), .un .not (.t 72), none⟩, 0, [], []⟩]
def m4_r14 : List MI := [
  ⟨(some 6), .move (.k (.sc (.bool false))), none⟩]
def m4_r15 : List MI := [
  ⟨(some 62), .move (.t 10), none⟩,
  ⟨(some 63), .bin .add .no (.t 62) (.k (.sc (.int .i64 1))), none⟩,
  ⟨(some 10), .move (.t 63), none⟩]
def m4_l11 : MCode := (.seq (.seq (.ops m4_r12) (.cond (.t 61) .skip (.exit 0))) (.seq (.block 1 (.seq (.draw m4_r13) (.cond (.t 73) (.seq (.ops m4_r14) .ret) .skip))) (.ops m4_r15)))
def m4_r16 : List MI := [
  ⟨(some 74), .call 9 [], none⟩,
  ⟨(some 6), .move (.t 74), none⟩]
def m4_code : MCode := (.seq (.ops m4_r0) (.seq (.seq (.ops m4_r1) (.cond (.t 28) (.seq (.ops m4_r2) .ret) .skip)) (.seq (.ops m4_r3) (.seq (.seq (.ops m4_r4) (.cond (.t 48) (.seq (.ops m4_r5) .ret) .skip)) (.seq (.ops m4_r6) (.seq (.ops m4_r7) (.seq (.seq (.ops m4_r8) (.cond (.t 57) (.seq (.ops m4_r9) .ret) .skip)) (.seq (.seq (.ops m4_r10) (.block 0 (.loop m4_l11))) (.seq (.ops m4_r16) .ret)))))))))
def m4 : MFunc := ⟨75, [.tmp 6], m4_code⟩

def m5_r0 : List MI := [
  ⟨(some 4), .move (.k (.sc (.bool false))), none⟩]
def m5_r1 : List MI := [
  ⟨(some 9), .move (.t 0), none⟩,
  ⟨(some 10), .call 8 [(.t 9)], none⟩]
def m5_r2 : List MI := [
  ⟨(some 11), .call 9 [], none⟩,
  ⟨(some 4), .move (.t 11), none⟩]
def m5_r3 : List MI := [
  ⟨(some 5), .move (.k (.sc (.int .i64 0))), none⟩]
def m5_r5 : List MI := [
  ⟨(some 12), .move (.t 5), none⟩,
  ⟨(some 13), .move (.t 0), none⟩,
  ⟨(some 14), .lenSlice (.t 13), none⟩,
  ⟨(some 15), .bin .lss .no (.t 12) (.t 14), none⟩]
def m5_r6 : List MI := [
  ⟨(some 18), .move (.t 0), none⟩,
  ⟨(some 19), .move (.t 5), none⟩,
  ⟨(some 20), .indexSlice 3 (.t 18) (.t 19), none⟩,
  ⟨(some 21), .fieldAddr 0 (.t 20), none⟩,
  ⟨(some 22), .load none (.t 21), none⟩,
  ⟨(some 23), .lenSlice (.t 22), none⟩,
  ⟨(some 6), .move (.t 23), none⟩]
def m5_r7 : List MI := [
  ⟨(some 24), .move (.t 0), none⟩,
  ⟨(some 25), .move (.t 5), none⟩,
  ⟨(some 26), .indexSlice 3 (.t 24) (.t 25), none⟩,
  ⟨(some 27), .fieldAddr 1 (.t 26), none⟩,
  ⟨(some 28), .load none (.t 27), none⟩,
  ⟨(some 29), .move (.t 28), none⟩,
  ⟨(some 30), .move (.t 0), (some (29, true))⟩,
  ⟨(some 31), .move (.t 5), (some (29, true))⟩,
  ⟨(some 32), .indexSlice 3 (.t 30) (.t 31), (some (29, true))⟩,
  ⟨(some 33), .fieldAddr 2 (.t 32), (some (29, true))⟩,
  ⟨(some 34), .load none (.t 33), (some (29, true))⟩,
  ⟨(some 35), .pick (.t 29) (.t 34) (.k (.sc (.bool false))), none⟩,
  ⟨(some 36), .move (.t 35), none⟩,
  ⟨(some 37), .move (.t 6), (some (36, true))⟩,
  ⟨(some 38), .bin .gtr .no (.t 37) (.k (.sc (.int .i64 0))), (some (36, true))⟩,
  ⟨(some 39), .pick (.t 36) (.t 38) (.k (.sc (.bool false))), none⟩]
def m5_r8 : List MI := [
  ⟨(some 40), .move (.t 6), none⟩,
  ⟨(some 41), .bin .sub .no (.t 40) (.k (.sc (.int .i64 1))), none⟩,
  ⟨(some 6), .move (.t 41), none⟩]
def m5_r9 : List MI := [
  ⟨(some 42), .move (.t 0), none⟩,
  ⟨(some 43), .move (.t 5), none⟩,
  ⟨(some 44), .indexSlice 3 (.t 42) (.t 43), none⟩,
  ⟨(some 45), .fieldAddr 0 (.t 44), none⟩,
  ⟨(some 46), .load none (.t 45), none⟩,
  ⟨(some 47), .call 17 [(.t 46)], none⟩,
  ⟨(some 48), .un .not (.t 47), none⟩,
  ⟨(some 49), .move (.t 48), none⟩,
  ⟨(some 50), .move (.t 0), (some (49, false))⟩,
  ⟨(some 51), .move (.t 5), (some (49, false))⟩,
  ⟨(some 52), .indexSlice 3 (.t 50) (.t 51), (some (49, false))⟩,
  ⟨(some 53), .fieldAddr 0 (.t 52), (some (49, false))⟩,
  ⟨(some 54), .load none (.t 53), (some (49, false))⟩,
  ⟨(some 55), .move (.t 6), (some (49, false))⟩,
  ⟨(some 56), .slice 7 (.t 54) none (some (.t 55)), (some (49, false))⟩,
  ⟨(some 57), .call 17 [(.t 56)], (some (49, false))⟩,
  ⟨(some 58), .un .not (.t 57), (some (49, false))⟩,
  ⟨(some 59), .pick (.t 49) (.k (.sc (.bool true))) (.t 58), none⟩]
def m5_r10 : List MI := [
  ⟨(some 60), .call 9 [], none⟩,
  ⟨(some 4), .move (.t 60), none⟩]
def m5_r11 : List MI := [
  ⟨(some 16), .move (.t 5), none⟩,
  ⟨(some 17), .bin .add .no (.t 16) (.k (.sc (.int .i64 1))), none⟩,
  ⟨(some 5), .move (.t 17), none⟩]
def m5_l4 : MCode := (.seq (.seq (.ops m5_r5) (.cond (.t 15) .skip (.exit 0))) (.seq (.block 1 (.seq (.ops m5_r6) (.seq (.seq (.ops m5_r7) (.cond (.t 39) (.ops m5_r8) .skip)) (.seq (.ops m5_r9) (.cond (.t 59) (.seq (.ops m5_r10) .ret) .skip))))) (.ops m5_r11)))
def m5_r12 : List MI := [
  ⟨(some 61), .move (.t 0), none⟩,
  ⟨(some 62), .move (.t 1), none⟩,
  ⟨(some 63), .call 13 [(.t 61), (.t 62)], none⟩,
  ⟨(some 7), .move (.t 63), none⟩]
def m5_r13 : List MI := [
  ⟨(some 64), .move (.t 1), none⟩,
  ⟨(some 65), .bin .lss .no (.t 64) (.k (.sc (.int .i64 2))), none⟩,
  ⟨(some 66), .move (.t 65), none⟩,
  ⟨(some 67), .move (.t 1), (some (66, false))⟩,
  ⟨(some 68), .bin .gtr .no (.t 67) (.k (.sc (.int .i64 400))), (some (66, false))⟩,
  ⟨(some 69), .pick (.t 66) (.k (.sc (.bool true))) (.t 68), none⟩]
def m5_r14 : List MI := [
  ⟨(some 70), .move (.t 7), none⟩,
  ⟨(some 71), .lenSlice (.t 70), none⟩,
  ⟨(some 72), .bin .eql .no (.t 71) (.k (.sc (.int .i64 0))), none⟩,
  ⟨(some 73), .move (.t 72), none⟩,
  ⟨(some 74), .call 9 [], (some (73, true))⟩,
  ⟨(some 75), .pick (.t 73) (.t 74) (.k (.sc (.bool false))), none⟩,
  ⟨(some 4), .move (.t 75), none⟩]
def m5_r15 : List MI := [
  ⟨(some 76), .move (.t 0), none⟩,
  ⟨(some 77), .lenSlice (.t 76), none⟩,
  ⟨(some 78), .bin .gtr .no (.t 77) (.k (.sc (.int .i64 0))), none⟩,
  ⟨(some 79), .move (.t 78), none⟩,
  ⟨(some 80), .move (.t 7), (some (79, true))⟩,
  ⟨(some 81), .lenSlice (.t 80), (some (79, true))⟩,
  ⟨(some 82), .bin .lss .no (.t 81) (.k (.sc (.int .i64 1))), (some (79, true))⟩,
  ⟨(some 83), .move (.t 82), (some (79, true))⟩,
  ⟨(some 84), .move (.t 7), (some (83, false))⟩,
  ⟨(some 85), .move (.t 7), (some (83, false))⟩,
  ⟨(some 86), .lenSlice (.t 85), (some (83, false))⟩,
  ⟨(some 87), .bin .sub .no (.t 86) (.k (.sc (.int .i64 1))), (some (83, false))⟩,
  ⟨(some 88), .indexSlice 3 (.t 84) (.t 87), (some (83, false))⟩,
  ⟨(some 89), .fieldAddr 1 (.t 88), (some (83, false))⟩,
  ⟨(some 90), .load none (.t 89), (some (83, false))⟩,
  ⟨(some 91), .pick (.t 83) (.k (.sc (.bool true))) (.t 90), (some (79, true))⟩,
  ⟨(some 92), .pick (.t 79) (.t 91) (.k (.sc (.bool false))), none⟩]
def m5_r16 : List MI := [
  ⟨(some 4), .move (.k (.sc (.bool false))), none⟩]
def m5_r17 : List MI := [
  ⟨(some 8), .move (.k (.sc (.int .i64 0))), none⟩]
def m5_r19 : List MI := [
  ⟨(some 93), .move (.t 8), none⟩,
  ⟨(some 94), .move (.t 7), none⟩,
  ⟨(some 95), .lenSlice (.t 94), none⟩,
  ⟨(some 96), .bin .lss .no (.t 93) (.t 95), none⟩]
def m5_r20 : List MI := [
  ⟨(some 99), .move (.t 7), none⟩,
  ⟨(some 100), .move (.t 8), none⟩,
  ⟨(some 101), .indexSlice 3 (.t 99) (.t 100), none⟩,
  ⟨(some 102), .fieldAddr 0 (.t 101), none⟩,
  ⟨(some 103), .load none (.t 102), none⟩,
  ⟨(some 104), .lenSlice (.t 103), none⟩,
  ⟨(some 105), .move (.t 1), none⟩,
  ⟨(some 106), .bin .neq .no (.t 104) (.t 105), none⟩,
  ⟨(some 107), .move (.t 106), none⟩,
  ⟨(some 108), .move (.t 7), (some (107, false))⟩,
  ⟨(some 109), .move (.t 8), (some (107, false))⟩,
  ⟨(some 110), .indexSlice 3 (.t 108) (.t 109), (some (107, false))⟩,
  ⟨(some 111), .fieldAddr 0 (.t 110), (some (107, false))⟩,
  ⟨(some 112), .load none (.t 111), (some (107, false))⟩,
  ⟨(some 113), .call 17 [(.t 112)], (some (107, false))⟩,
  ⟨(some 114), .un .not (.t 113), (some (107, false))⟩,
  ⟨(some 115), .pick (.t 107) (.k (.sc (.bool true))) (.t 114), none⟩]
def m5_r21 : List MI := [
  ⟨(some 4), .move (.k (.sc (.bool false))), none⟩]
def m5_r22 : List MI := [
  ⟨(some 116), .move (.t 7), none⟩,
  ⟨(some 117), .move (.t 8), none⟩,
  ⟨(some 118), .indexSlice 3 (.t 116) (.t 117), none⟩,
  ⟨(some 119), .fieldAddr 2 (.t 118), none⟩,
  ⟨(some 120), .load none (.t 119), none⟩,
  ⟨(some 121), .move (.t 120), none⟩,
  ⟨(some 122), .move (.t 7), (some (121, true))⟩,
  ⟨(some 123), .move (.t 8), (some (121, true))⟩,
  ⟨(some 124), .indexSlice 3 (.t 122) (.t 123), (some (121, true))⟩,
  ⟨(some 125), .fieldAddr 1 (.t 124), (some (121, true))⟩,
  ⟨(some 126), .load none (.t 125), (some (121, true))⟩,
  ⟨(some 127), .un .not (.t 126), (some (121, true))⟩,
  ⟨(some 128), .move (.t 127), (some (121, true))⟩,
  ⟨(some 129), .move (.t 7), (some (128, false))⟩,
  ⟨(some 130), .move (.t 8), (some (128, false))⟩,
  ⟨(some 131), .indexSlice 3 (.t 129) (.t 130), (some (128, false))⟩,
  ⟨(some 132), .fieldAddr 0 (.t 131), (some (128, false))⟩,
  ⟨(some 133), .load none (.t 132), (some (128, false))⟩,
  ⟨(some 134), .move (.t 1), (some (128, false))⟩,
  ⟨(some 135), .bin .sub .no (.t 134) (.k (.sc (.int .i64 1))), (some (128, false))⟩,
  ⟨(some 136), .indexSlice 7 (.t 133) (.t 135), (some (128, false))⟩,
  ⟨(some 137), .load (some 7) (.t 136), (some (128, false))⟩,
  ⟨(some 138), .build [.int .i32 0, .int .u8 0, .int .u16 0, .int .u8 0, .int .u32 0, .int .u8 0, .int .u32 0] [(0, 1, (.k (.sc (.int .i32 32))))], (some (128, false))⟩,
  ⟨(some 139), .bin .neq (.agg [.int .i32, .int .u8, .int .u16, .int .u8, .int .u32, .int .u8, .int .u32]) (.t 137) (.t 138), (some (128, false))⟩,
  ⟨(some 140), .pick (.t 128) (.k (.sc (.bool true))) (.t 139), (some (121, true))⟩,
  ⟨(some 141), .move (.t 140), (some (121, true))⟩,
  ⟨(some 142), .move (.t 8), (some (141, false))⟩,
  ⟨(some 143), .bin .add .no (.t 142) (.k (.sc (.int .i64 1))), (some (141, false))⟩,
  ⟨(some 144), .move (.t 7), (some (141, false))⟩,
  ⟨(some 145), .lenSlice (.t 144), (some (141, false))⟩,
  ⟨(some 146), .bin .geq .no (.t 143) (.t 145), (some (141, false))⟩,
  ⟨(some 147), .pick (.t 141) (.k (.sc (.bool true))) (.t 146), (some (121, true))⟩,
  ⟨(some 148), .move (.t 147), (some (121, true))⟩,
  ⟨(some 149), .move (.t 7), (some (148, false))⟩,
  ⟨(some 150), .move (.t 8), (some (148, false))⟩,
  ⟨(some 151), .bin .add .no (.t 150) (.k (.sc (.int .i64 1))), (some (148, false))⟩,
  ⟨(some 152), .indexSlice 3 (.t 149) (.t 151), (some (148, false))⟩,
  ⟨(some 153), .fieldAddr 0 (.t 152), (some (148, false))⟩,
  ⟨(some 154), .load none (.t 153), (some (148, false))⟩,
  ⟨(some 155), .lenSlice (.t 154), (some (148, false))⟩,
  ⟨(some 156), .bin .lss .no (.t 155) (.k (.sc (.int .i64 1))), (some (148, false))⟩,
  ⟨(some 157), .pick (.t 148) (.k (.sc (.bool true))) (.t 156), (some (121, true))⟩,
  ⟨(some 158), .move (.t 157), (some (121, true))⟩,
  ⟨(some 159), .move (.t 7), (some (158, false))⟩,
  ⟨(some 160), .move (.t 8), (some (158, false))⟩,
  ⟨(some 161), .bin .add .no (.t 160) (.k (.sc (.int .i64 1))), (some (158, false))⟩,
  ⟨(some 162), .indexSlice 3 (.t 159) (.t 161), (some (158, false))⟩,
  ⟨(some 163), .fieldAddr 0 (.t 162), (some (158, false))⟩,
  ⟨(some 164), .load none (.t 163), (some (158, false))⟩,
  ⟨(some 165), .indexSlice 7 (.t 164) (.k (.sc (.int .i64 0))), (some (158, false))⟩,
  ⟨(some 166), .fieldAddr 1 (.t 165), (some (158, false))⟩,
  ⟨(some 167), .load none (.t 166), (some (158, false))⟩,
  ⟨(some 168), .bin .neq .no (.t 167) (.k (.sc (.int .u8 1))), (some (158, false))⟩,
  ⟨(some 169), .pick (.t 158) (.k (.sc (.bool true))) (.t 168), (some (121, true))⟩,
  ⟨(some 170), .pick (.t 121) (.t 169) (.k (.sc (.bool false))), none⟩]
def m5_r23 : List MI := [
  ⟨(some 4), .move (.k (.sc (.bool false))), none⟩]
def m5_r24 : List MI := [
  ⟨(some 97), .move (.t 8), none⟩,
  ⟨(some 98), .bin .add .no (.t 97) (.k (.sc (.int .i64 1))), none⟩,
  ⟨(some 8), .move (.t 98), none⟩]
def m5_l18 : MCode := (.seq (.seq (.ops m5_r19) (.cond (.t 96) .skip (.exit 2))) (.seq (.block 3 (.seq (.seq (.ops m5_r20) (.cond (.t 115) (.seq (.ops m5_r21) .ret) .skip)) (.seq (.ops m5_r22) (.cond (.t 170) (.seq (.ops m5_r23) .ret) .skip)))) (.ops m5_r24)))
def m5_r25 : List MI := [
  ⟨(some 171), .call 9 [], none⟩,
  ⟨(some 4), .move (.t 171), none⟩]
def m5_code : MCode := (.seq (.ops m5_r0) (.seq (.seq (.ops m5_r1) (.cond (.t 10) (.seq (.ops m5_r2) .ret) .skip)) (.seq (.seq (.ops m5_r3) (.block 0 (.loop m5_l4))) (.seq (.ops m5_r12) (.seq (.seq (.ops m5_r13) (.cond (.t 69) (.seq (.ops m5_r14) .ret) .skip)) (.seq (.seq (.ops m5_r15) (.cond (.t 92) (.seq (.ops m5_r16) .ret) .skip)) (.seq (.seq (.ops m5_r17) (.block 2 (.loop m5_l18))) (.seq (.ops m5_r25) .ret))))))))
def m5 : MFunc := ⟨172, [.tmp 4], m5_code⟩

def m6_r0 : List MI := [
  ⟨(some 8), .move (.k (.sc (.bool false))), none⟩]
def m6_r1 : List MI := [
  ⟨(some 13), .move (.t 0), none⟩,
  ⟨(some 14), .call 8 [(.t 13)], none⟩,
  ⟨(some 15), .move (.t 14), none⟩,
  ⟨(some 16), .move (.t 1), (some (15, false))⟩,
  ⟨(some 17), .bin .lss .no (.t 16) (.k (.sc (.int .i64 2))), (some (15, false))⟩,
  ⟨(some 18), .pick (.t 15) (.k (.sc (.bool true))) (.t 17), none⟩,
  ⟨(some 19), .move (.t 18), none⟩,
  ⟨(some 20), .move (.t 1), (some (19, false))⟩,
  ⟨(some 21), .bin .gtr .no (.t 20) (.k (.sc (.int .i64 400))), (some (19, false))⟩,
  ⟨(some 22), .pick (.t 19) (.k (.sc (.bool true))) (.t 21), none⟩,
  ⟨(some 23), .move (.t 22), none⟩,
  ⟨(some 24), .move (.t 3), (some (23, false))⟩,
  ⟨(some 25), .bin .lss .no (.t 24) (.k (.sc (.int .i64 0))), (some (23, false))⟩,
  ⟨(some 26), .pick (.t 23) (.k (.sc (.bool true))) (.t 25), none⟩,
  ⟨(some 27), .move (.t 26), none⟩,
  ⟨(some 28), .move (.t 3), (some (27, false))⟩,
  ⟨(some 29), .move (.t 0), (some (27, false))⟩,
  ⟨(some 30), .lenSlice (.t 29), (some (27, false))⟩,
  ⟨(some 31), .bin .geq .no (.t 28) (.t 30), (some (27, false))⟩,
  ⟨(some 32), .pick (.t 27) (.k (.sc (.bool true))) (.t 31), none⟩,
  ⟨(some 33), .move (.t 32), none⟩,
  ⟨(some 34), .move (.t 2), (some (33, false))⟩,
  ⟨(some 35), .bin .lss .no (.t 34) (.k (.sc (.int .i64 0))), (some (33, false))⟩,
  ⟨(some 36), .pick (.t 33) (.k (.sc (.bool true))) (.t 35), none⟩]
def m6_r2 : List MI := [
  ⟨(some 37), .call 9 [], none⟩,
  ⟨(some 8), .move (.t 37), none⟩]
def m6_r3 : List MI := [
  ⟨(some 38), .move (.t 0), none⟩,
  ⟨(some 39), .move (.t 1), none⟩,
  ⟨(some 40), .call 13 [(.t 38), (.t 39)], none⟩,
  ⟨(some 9), .move (.t 40), none⟩]
def m6_r4 : List MI := [
  ⟨(some 42), .move (.t 0), none⟩,
  ⟨(some 43), .move (.t 1), none⟩,
  ⟨(some 44), .move (.t 2), none⟩,
  ⟨(some 45), .move (.t 3), none⟩,
  ⟨(some 46), .call 10 [(.t 42), (.t 43), (.t 44), (.t 45)], none⟩,
  ⟨(some 41), .move (.t 46), none⟩,
  ⟨(some 47), .extract (.t 41) 0, none⟩,
  ⟨(some 48), .extract (.t 41) 1, none⟩,
  ⟨(some 10), .move (.t 47), none⟩,
  ⟨(some 11), .move (.t 48), none⟩]
def m6_r5 : List MI := [
  ⟨(some 49), .move (.t 11), none⟩,
  ⟨(some 50), .bin .lss .no (.t 49) (.k (.sc (.int .i64 0))), none⟩,
  ⟨(some 51), .move (.t 50), none⟩,
  ⟨(some 52), .move (.t 11), (some (51, false))⟩,
  ⟨(some 53), .move (.t 9), (some (51, false))⟩,
  ⟨(some 54), .lenSlice (.t 53), (some (51, false))⟩,
  ⟨(some 55), .bin .geq .no (.t 52) (.t 54), (some (51, false))⟩,
  ⟨(some 56), .pick (.t 51) (.k (.sc (.bool true))) (.t 55), none⟩,
  ⟨(some 57), .move (.t 56), none⟩,
  ⟨(some 58), .move (.t 10), (some (57, false))⟩,
  ⟨(some 59), .bin .lss .no (.t 58) (.k (.sc (.int .i64 0))), (some (57, false))⟩,
  ⟨(some 60), .pick (.t 57) (.k (.sc (.bool true))) (.t 59), none⟩,
  ⟨(some 61), .move (.t 60), none⟩,
  ⟨(some 62), .move (.t 10), (some (61, false))⟩,
  ⟨(some 63), .move (.t 1), (some (61, false))⟩,
  ⟨(some 64), .bin .geq .no (.t 62) (.t 63), (some (61, false))⟩,
  ⟨(some 65), .pick (.t 61) (.k (.sc (.bool true))) (.t 64), none⟩,
  ⟨(some 66), .move (.t 65), none⟩,
  ⟨(some 67), .move (.t 9), (some (66, false))⟩,
  ⟨(some 68), .move (.t 11), (some (66, false))⟩,
  ⟨(some 69), .indexSlice 3 (.t 67) (.t 68), (some (66, false))⟩,
  ⟨(some 70), .fieldAddr 0 (.t 69), (some (66, false))⟩,
  ⟨(some 71), .load none (.t 70), (some (66, false))⟩,
  ⟨(some 72), .lenSlice (.t 71), (some (66, false))⟩,
  ⟨(some 73), .move (.t 1), (some (66, false))⟩,
  ⟨(some 74), .bin .neq .no (.t 72) (.t 73), (some (66, false))⟩,
  ⟨(some 75), .pick (.t 66) (.k (.sc (.bool true))) (.t 74), none⟩]
def m6_r6 : List MI := [
  ⟨(some 8), .move (.k (.sc (.bool false))), none⟩]
def m6_r7 : List MI := [
  ⟨(some 76), .move (.t 0), none⟩,
  ⟨(some 77), .move (.t 3), none⟩,
  ⟨(some 78), .indexSlice 3 (.t 76) (.t 77), none⟩,
  ⟨(some 79), .fieldAddr 0 (.t 78), none⟩,
  ⟨(some 80), .load none (.t 79), none⟩,
  ⟨(some 81), .lenSlice (.t 80), none⟩,
  ⟨(some 12), .move (.t 81), none⟩]
def m6_r8 : List MI := [
  ⟨(some 82), .move (.t 0), none⟩,
  ⟨(some 83), .move (.t 3), none⟩,
  ⟨(some 84), .indexSlice 3 (.t 82) (.t 83), none⟩,
  ⟨(some 85), .fieldAddr 1 (.t 84), none⟩,
  ⟨(some 86), .load none (.t 85), none⟩,
  ⟨(some 87), .move (.t 86), none⟩,
  ⟨(some 88), .move (.t 0), (some (87, true))⟩,
  ⟨(some 89), .move (.t 3), (some (87, true))⟩,
  ⟨(some 90), .indexSlice 3 (.t 88) (.t 89), (some (87, true))⟩,
  ⟨(some 91), .fieldAddr 2 (.t 90), (some (87, true))⟩,
  ⟨(some 92), .load none (.t 91), (some (87, true))⟩,
  ⟨(some 93), .pick (.t 87) (.t 92) (.k (.sc (.bool false))), none⟩]
def m6_r9 : List MI := [
  ⟨(some 94), .move (.t 12), none⟩,
  ⟨(some 95), .bin .sub .no (.t 94) (.k (.sc (.int .i64 1))), none⟩,
  ⟨(some 12), .move (.t 95), none⟩]
def m6_r10 : List MI := [
  ⟨(some 96), .move (.t 2), none⟩,
  ⟨(some 97), .move (.t 12), none⟩,
  ⟨(some 98), .bin .geq .no (.t 96) (.t 97), none⟩,
  ⟨(some 99), .move (.t 98), none⟩,
  ⟨(some 100), .move (.t 0), (some (99, false))⟩,
  ⟨(some 101), .move (.t 3), (some (99, false))⟩,
  ⟨(some 102), .indexSlice 3 (.t 100) (.t 101), (some (99, false))⟩,
  ⟨(some 103), .fieldAddr 0 (.t 102), (some (99, false))⟩,
  ⟨(some 104), .load none (.t 103), (some (99, false))⟩,
  ⟨(some 105), .move (.t 2), (some (99, false))⟩,
  ⟨(some 106), .indexSlice 7 (.t 104) (.t 105), (some (99, false))⟩,
  ⟨(some 107), .load (some 7) (.t 106), (some (99, false))⟩,
  ⟨(some 108), .build [.int .i32 0, .int .u8 0, .int .u16 0, .int .u8 0, .int .u32 0, .int .u8 0, .int .u32 0] [(0, 1, (.k (.sc (.int .i32 32))))], (some (99, false))⟩,
  ⟨(some 109), .bin .eql (.agg [.int .i32, .int .u8, .int .u16, .int .u8, .int .u32, .int .u8, .int .u32]) (.t 107) (.t 108), (some (99, false))⟩,
  ⟨(some 110), .pick (.t 99) (.k (.sc (.bool true))) (.t 109), none⟩]
def m6_r11 : List MI := [
  ⟨(some 111), .call 9 [], none⟩,
  ⟨(some 8), .move (.t 111), none⟩]
def m6_r12 : List DI := [
  ⟨⟨(some 112), .move (.t 9), none⟩, 0, [], []⟩,
  ⟨⟨(some 113), .move (.t 11), none⟩, 0, [], []⟩,
  ⟨⟨(some 114), .indexSlice 3 (.t 112) (.t 113), none⟩, 0, [], []⟩,
  ⟨⟨(some 115), .fieldAddr 0 (.t 114), none⟩, 0, [], []⟩,
  ⟨⟨(some 116), .load none (.t 115), none⟩, 1, [], []⟩,
  ⟨⟨(some 117), .move (.t 10), none⟩, 0, [], []⟩,
  ⟨⟨(some 118), .indexSlice 7 (.t 116) (.t 117), none⟩, 0, [], []⟩,
  ⟨⟨(some 119), .load (some 7) (.t 118), none⟩, 1, [], []⟩,
  ⟨⟨(some 120), .move (.t 0), none⟩, 0, [], []⟩,
  ⟨⟨(some 121), .move (.t 3), none⟩, 0, [], []⟩,
  ⟨⟨(some 122), .indexSlice 3 (.t 120) (.t 121), none⟩, 0, [], []⟩,
  ⟨⟨(some 123), .fieldAddr 0 (.t 122), none⟩, 0, [], []⟩,
  ⟨⟨(some 124), .load none (.t 123), none⟩, 1, [], []⟩,
  ⟨⟨(some 125), .move (.t 2), none⟩, 0, [], []⟩,
  ⟨⟨(some 126), .indexSlice 7 (.t 124) (.t 125), none⟩, 0, [], []⟩,
  ⟨⟨(some 127), .load (some 7) (.t 126), none⟩, 1, [], []⟩,
  ⟨⟨(some 128), .bin .eql (.agg [.int .i32, .int .u8, .int .u16, .int .u8, .int .u32, .int .u8, .int .u32]) (.t 119) (.t 127), none⟩, 0, [], []⟩,
  ⟨⟨(some 129), .move (.t 128), none⟩, 0, [], []⟩,
  ⟨⟨(some 130), .call 9 [], (some (129, true))⟩, 2, [], []⟩,
  ⟨⟨(some 131), .pick (.t 129) (.t 130) (.k (.sc (.bool false))), none⟩, 0, [], []⟩,
  ⟨⟨(some 8), .move (.t 131), none⟩, 0, [], []⟩]
def m6_code : MCode := (.seq (.ops m6_r0) (.seq (.seq (.ops m6_r1) (.cond (.t 36) (.seq (.ops m6_r2) .ret) .skip)) (.seq (.ops m6_r3) (.seq (.ops m6_r4) (.seq (.seq (.ops m6_r5) (.cond (.t 75) (.seq (.ops m6_r6) .ret) .skip)) (.seq (.ops m6_r7) (.seq (.seq (.ops m6_r8) (.cond (.t 93) (.ops m6_r9) .skip)) (.seq (.seq (.ops m6_r10) (.cond (.t 110) (.seq (.ops m6_r11) .ret) .skip)) (.seq (.draw m6_r12) .ret)))))))))
def m6 : MFunc := ⟨132, [.tmp 8], m6_code⟩

def m7_r0 : List MI := [
  ⟨(some 0), .move (.k (.sc (.bool false))), none⟩]
def m7_r1 : List MI := [
  ⟨(some 13), .build [.int .i64 0, .int .i64 0, .int .i64 0, .int .i64 0] [(0, 1, (.k (.sc (.int .i64 1)))), (1, 1, (.k (.sc (.int .i64 1)))), (2, 1, (.k (.sc (.int .i64 2)))), (3, 1, (.k (.sc (.int .i64 1))))], none⟩,
  ⟨(some 14), .build [.int .i64 0, .int .i64 0, .int .i64 0, .int .i64 0] [(0, 1, (.k (.sc (.int .i64 0)))), (1, 1, (.k (.sc (.int .i64 2)))), (2, 1, (.k (.sc (.int .i64 0)))), (3, 1, (.k (.sc (.int .i64 2))))], none⟩,
  ⟨(some 15), .build [.int .i64 0, .int .i64 0, .int .i64 0, .int .i64 0] [(0, 1, (.k (.sc (.int .i64 9)))), (1, 1, (.k (.sc (.int .i64 2)))), (2, 1, (.k (.sc (.int .i64 2)))), (3, 1, (.k (.sc (.int .i64 2))))], none⟩,
  ⟨(some 16), .build [.int .i64 0, .int .i64 0, .int .i64 0, .int .i64 0] [(0, 1, (.k (.sc (.int .i64 9)))), (1, 1, (.k (.sc (.int .i64 0)))), (2, 1, (.k (.sc (.int .i64 1)))), (3, 1, (.k (.sc (.int .i64 1))))], none⟩,
  ⟨(some 17), .build [.int .i64 0, .int .i64 0, .int .i64 0, .int .i64 0] [(0, 1, (.k (.sc (.int .i64 3)))), (1, 1, (.k (.sc (.int .i64 0)))), (2, 1, (.k (.sc (.int .i64 0)))), (3, 1, (.k (.sc (.int .i64 1))))], none⟩,
  ⟨(some 18), .build [.int .i64 0, .int .i64 0, .int .i64 0, .int .i64 0] [(0, 1, (.k (.sc (.int .i64 2)))), (1, 1, (.k (.sc (.int .i64 1)))), (2, 1, (.k (.sc (.int .i64 2)))), (3, 1, (.k (.sc (.int .i64 1))))], none⟩,
  ⟨(some 19), .build [.int .i64 0, .int .i64 0, .int .i64 0, .int .i64 0] [(0, 1, (.k (.sc (.int .i64 (-1))))), (1, 1, (.k (.sc (.int .i64 0)))), (2, 1, (.k (.sc (.int .i64 0)))), (3, 1, (.k (.sc (.int .i64 0))))], none⟩,
  ⟨(some 20), .build [.int .i64 0, .int .i64 0, .int .i64 0, .int .i64 0] [(0, 1, (.k (.sc (.int .i64 0)))), (1, 1, (.k (.sc (.int .i64 3)))), (2, 1, (.k (.sc (.int .i64 0)))), (3, 1, (.k (.sc (.int .i64 0))))], none⟩,
  ⟨(some 21), .build [.int .i64 0, .int .i64 0, .int .i64 0, .int .i64 0] [(0, 1, (.k (.sc (.int .i64 0)))), (1, 1, (.k (.sc (.int .i64 (-1))))), (2, 1, (.k (.sc (.int .i64 0)))), (3, 1, (.k (.sc (.int .i64 0))))], none⟩,
  ⟨(some 22), .build [.int .i64 0, .int .i64 0, .int .i64 0, .int .i64 0] [(0, 1, (.k (.sc (.int .i64 4611686018427387904)))), (1, 1, (.k (.sc (.int .i64 2)))), (2, 1, (.k (.sc (.int .i64 2)))), (3, 1, (.k (.sc (.int .i64 2))))], none⟩,
  ⟨(some 23), .buildSlice 50 4 10 [.int .i64 0, .int .i64 0, .int .i64 0, .int .i64 0] [(0, 4, (.t 13)), (4, 4, (.t 14)), (8, 4, (.t 15)), (12, 4, (.t 16)), (16, 4, (.t 17)), (20, 4, (.t 18)), (24, 4, (.t 19)), (28, 4, (.t 20)), (32, 4, (.t 21)), (36, 4, (.t 22))], none⟩,
  ⟨(some 1), .move (.t 23), none⟩]
def m7_r2 : List MI := [
  ⟨(some 2), .move (.k (.sc (.int .i64 0))), none⟩]
def m7_r4 : List MI := [
  ⟨(some 24), .move (.t 2), none⟩,
  ⟨(some 25), .move (.t 1), none⟩,
  ⟨(some 26), .lenSlice (.t 25), none⟩,
  ⟨(some 27), .bin .lss .no (.t 24) (.t 26), none⟩]
def m7_r5 : List DI := [
  ⟨⟨(some 31), .call 18 [], none⟩, 2, [], []⟩,
  ⟨⟨(some 32), .move (.t 1), none⟩, 0, [0], []⟩,
  ⟨⟨(some 33), .move (.t 2), none⟩, 0, [0], []⟩,
  ⟨⟨(some 34), .indexSlice 4 (.t 32) (.t 33), none⟩, 0, [0], []⟩,
  ⟨⟨(some 35), .indexArr 4 1 (.t 34) (.k (.sc (.int .i64 0))), none⟩, 0, [0], []⟩,
  ⟨⟨(some 36), .load none (.t 35), none⟩, 1, [0], []⟩,
  ⟨⟨(some 37), .move (.t 1), none⟩, 0, [0], []⟩,
  ⟨⟨(some 38), .move (.t 2), none⟩, 0, [0], []⟩,
  ⟨⟨(some 39), .indexSlice 4 (.t 37) (.t 38), none⟩, 0, [0], []⟩,
  ⟨⟨(some 40), .indexArr 4 1 (.t 39) (.k (.sc (.int .i64 1))), none⟩, 0, [0], []⟩,
  ⟨⟨(some 41), .load none (.t 40), none⟩, 1, [0], []⟩,
  ⟨⟨(some 42), .call 10 [(.t 31), (.k (.sc (.int .i64 3))), (.t 36), (.t 41)], none⟩, 2, [], []⟩,
  ⟨⟨(some 30), .move (.t 42), none⟩, 0, [], []⟩,
  ⟨⟨(some 43), .extract (.t 30) 0, none⟩, 0, [], []⟩,
  ⟨⟨(some 44), .extract (.t 30) 1, none⟩, 0, [], []⟩,
  ⟨⟨(some 3), .move (.t 43), none⟩, 0, [], []⟩,
  ⟨⟨(some 4), .move (.t 44), none⟩, 0, [], []⟩]
def m7_r6 : List MI := [
  ⟨(some 45), .move (.t 3), none⟩,
  ⟨(some 46), .move (.t 1), none⟩,
  ⟨(some 47), .move (.t 2), none⟩,
  ⟨(some 48), .indexSlice 4 (.t 46) (.t 47), none⟩,
  ⟨(some 49), .indexArr 4 1 (.t 48) (.k (.sc (.int .i64 2))), none⟩,
  ⟨(some 50), .load none (.t 49), none⟩,
  ⟨(some 51), .bin .neq .no (.t 45) (.t 50), none⟩,
  ⟨(some 52), .move (.t 51), none⟩,
  ⟨(some 53), .move (.t 4), (some (52, false))⟩,
  ⟨(some 54), .move (.t 1), (some (52, false))⟩,
  ⟨(some 55), .move (.t 2), (some (52, false))⟩,
  ⟨(some 56), .indexSlice 4 (.t 54) (.t 55), (some (52, false))⟩,
  ⟨(some 57), .indexArr 4 1 (.t 56) (.k (.sc (.int .i64 3))), (some (52, false))⟩,
  ⟨(some 58), .load none (.t 57), (some (52, false))⟩,
  ⟨(some 59), .bin .neq .no (.t 53) (.t 58), (some (52, false))⟩,
  ⟨(some 60), .pick (.t 52) (.k (.sc (.bool true))) (.t 59), none⟩]
def m7_r7 : List MI := [
  ⟨(some 0), .move (.k (.sc (.bool false))), none⟩]
def m7_r8 : List MI := [
  ⟨(some 28), .move (.t 2), none⟩,
  ⟨(some 29), .bin .add .no (.t 28) (.k (.sc (.int .i64 1))), none⟩,
  ⟨(some 2), .move (.t 29), none⟩]
def m7_l3 : MCode := (.seq (.seq (.ops m7_r4) (.cond (.t 27) .skip (.exit 0))) (.seq (.block 1 (.seq (.draw m7_r5) (.seq (.ops m7_r6) (.cond (.t 60) (.seq (.ops m7_r7) .ret) .skip)))) (.ops m7_r8)))
def m7_r9 : List MI := [
  ⟨(some 61), .call 19 [(.k (.sc (.str [97, 98, 228, 184, 128, 99]))), (.k (.sc (.bool false))), (.k (.sc (.bool false)))], none⟩,
  ⟨(some 62), .buildSlice 39 3 1 [.nils, .bool false, .bool false] [(0, 3, (.t 61))], none⟩,
  ⟨(some 5), .move (.t 62), none⟩]
def m7_r10 : List MI := [
  ⟨(some 63), .call 19 [(.k (.sc (.str [97, 98, 32]))), (.k (.sc (.bool true))), (.k (.sc (.bool true)))], none⟩,
  ⟨(some 64), .call 19 [(.k (.sc (.str [228, 184, 128, 99]))), (.k (.sc (.bool false))), (.k (.sc (.bool false)))], none⟩,
  ⟨(some 65), .buildSlice 39 3 2 [.nils, .bool false, .bool false] [(0, 3, (.t 63)), (3, 3, (.t 64))], none⟩,
  ⟨(some 6), .move (.t 65), none⟩]
def m7_r11 : List MI := [
  ⟨(some 66), .move (.t 5), none⟩,
  ⟨(some 67), .call 13 [(.t 66), (.k (.sc (.int .i64 3)))], none⟩,
  ⟨(some 68), .move (.t 6), none⟩,
  ⟨(some 69), .call 14 [(.t 67), (.t 68)], none⟩,
  ⟨(some 70), .move (.t 69), none⟩,
  ⟨(some 71), .move (.t 6), (some (70, true))⟩,
  ⟨(some 72), .call 13 [(.t 71), (.k (.sc (.int .i64 5)))], (some (70, true))⟩,
  ⟨(some 73), .move (.t 5), (some (70, true))⟩,
  ⟨(some 74), .call 14 [(.t 72), (.t 73)], (some (70, true))⟩,
  ⟨(some 75), .pick (.t 70) (.t 74) (.k (.sc (.bool false))), none⟩,
  ⟨(some 76), .move (.t 75), none⟩,
  ⟨(some 77), .move (.t 5), (some (76, true))⟩,
  ⟨(some 78), .call 13 [(.t 77), (.k (.sc (.int .i64 2)))], (some (76, true))⟩,
  ⟨(some 79), .call 19 [(.k (.sc (.str [97, 98]))), (.k (.sc (.bool true))), (.k (.sc (.bool false)))], (some (76, true))⟩,
  ⟨(some 80), .call 19 [(.k (.sc (.str [228, 184, 128]))), (.k (.sc (.bool true))), (.k (.sc (.bool false)))], (some (76, true))⟩,
  ⟨(some 81), .call 19 [(.k (.sc (.str [99, 32]))), (.k (.sc (.bool false))), (.k (.sc (.bool false)))], (some (76, true))⟩,
  ⟨(some 82), .buildSlice 39 3 3 [.nils, .bool false, .bool false] [(0, 3, (.t 79)), (3, 3, (.t 80)), (6, 3, (.t 81))], (some (76, true))⟩,
  ⟨(some 83), .call 14 [(.t 78), (.t 82)], (some (76, true))⟩,
  ⟨(some 84), .pick (.t 76) (.t 83) (.k (.sc (.bool false))), none⟩,
  ⟨(some 7), .move (.t 84), none⟩]
def m7_r12 : List MI := [
  ⟨(some 85), .call 19 [(.k (.sc (.str [97, 98, 32]))), (.k (.sc (.bool true))), (.k (.sc (.bool false)))], none⟩,
  ⟨(some 86), .call 19 [(.k (.sc (.str [32, 32, 32]))), (.k (.sc (.bool false))), (.k (.sc (.bool false)))], none⟩,
  ⟨(some 87), .call 19 [(.k (.sc (.str []))), (.k (.sc (.bool false))), (.k (.sc (.bool false)))], none⟩,
  ⟨(some 88), .call 19 [(.k (.sc (.str [32, 32, 99]))), (.k (.sc (.bool true))), (.k (.sc (.bool false)))], none⟩,
  ⟨(some 89), .buildSlice 39 3 4 [.nils, .bool false, .bool false] [(0, 3, (.t 85)), (3, 3, (.t 86)), (6, 3, (.t 87)), (9, 3, (.t 88))], none⟩,
  ⟨(some 8), .move (.t 89), none⟩]
def m7_r13 : List MI := [
  ⟨(some 90), .move (.t 8), none⟩,
  ⟨(some 91), .call 13 [(.t 90), (.k (.sc (.int .i64 2)))], none⟩,
  ⟨(some 92), .call 19 [(.k (.sc (.str [97, 98]))), (.k (.sc (.bool false))), (.k (.sc (.bool false)))], none⟩,
  ⟨(some 93), .call 19 [(.k (.sc (.str [32, 32]))), (.k (.sc (.bool false))), (.k (.sc (.bool false)))], none⟩,
  ⟨(some 94), .call 19 [(.k (.sc (.str [32, 32]))), (.k (.sc (.bool true))), (.k (.sc (.bool false)))], none⟩,
  ⟨(some 95), .call 19 [(.k (.sc (.str [99, 32]))), (.k (.sc (.bool false))), (.k (.sc (.bool false)))], none⟩,
  ⟨(some 96), .buildSlice 39 3 4 [.nils, .bool false, .bool false] [(0, 3, (.t 92)), (3, 3, (.t 93)), (6, 3, (.t 94)), (9, 3, (.t 95))], none⟩,
  ⟨(some 97), .call 14 [(.t 91), (.t 96)], none⟩,
  ⟨(some 9), .move (.t 97), none⟩]
def m7_r14 : List MI := [
  ⟨(some 98), .move (.t 8), none⟩,
  ⟨(some 99), .call 20 [(.t 98)], none⟩,
  ⟨(some 10), .move (.t 99), none⟩]
def m7_r15 : List MI := [
  ⟨(some 101), .move (.t 6), none⟩,
  ⟨(some 102), .call 10 [(.t 101), (.k (.sc (.int .i64 5))), (.k (.sc (.int .i64 2))), (.k (.sc (.int .i64 0)))], none⟩,
  ⟨(some 100), .move (.t 102), none⟩,
  ⟨(some 103), .extract (.t 100) 0, none⟩,
  ⟨(some 104), .extract (.t 100) 1, none⟩,
  ⟨(some 11), .move (.t 103), none⟩,
  ⟨(some 12), .move (.t 104), none⟩]
def m7_r16 : List MI := [
  ⟨(some 105), .move (.t 7), none⟩,
  ⟨(some 106), .move (.t 105), none⟩,
  ⟨(some 107), .move (.t 9), (some (106, true))⟩,
  ⟨(some 108), .pick (.t 106) (.t 107) (.k (.sc (.bool false))), none⟩,
  ⟨(some 109), .move (.t 108), none⟩,
  ⟨(some 110), .move (.t 10), (some (109, true))⟩,
  ⟨(some 111), .lenSlice (.t 110), (some (109, true))⟩,
  ⟨(some 112), .bin .eql .no (.t 111) (.k (.sc (.int .i64 3))), (some (109, true))⟩,
  ⟨(some 113), .pick (.t 109) (.t 112) (.k (.sc (.bool false))), none⟩,
  ⟨(some 114), .move (.t 113), none⟩,
  ⟨(some 115), .move (.t 10), (some (114, true))⟩,
  ⟨(some 116), .indexSlice 1 (.t 115) (.k (.sc (.int .i64 0))), (some (114, true))⟩,
  ⟨(some 117), .load none (.t 116), (some (114, true))⟩,
  ⟨(some 118), .bin .eql .no (.t 117) (.k (.sc (.str [97, 98]))), (some (114, true))⟩,
  ⟨(some 119), .pick (.t 114) (.t 118) (.k (.sc (.bool false))), none⟩,
  ⟨(some 120), .move (.t 119), none⟩,
  ⟨(some 121), .move (.t 10), (some (120, true))⟩,
  ⟨(some 122), .indexSlice 1 (.t 121) (.k (.sc (.int .i64 1))), (some (120, true))⟩,
  ⟨(some 123), .load none (.t 122), (some (120, true))⟩,
  ⟨(some 124), .bin .eql .no (.t 123) (.k (.sc (.str []))), (some (120, true))⟩,
  ⟨(some 125), .pick (.t 120) (.t 124) (.k (.sc (.bool false))), none⟩,
  ⟨(some 126), .move (.t 125), none⟩,
  ⟨(some 127), .move (.t 10), (some (126, true))⟩,
  ⟨(some 128), .indexSlice 1 (.t 127) (.k (.sc (.int .i64 2))), (some (126, true))⟩,
  ⟨(some 129), .load none (.t 128), (some (126, true))⟩,
  ⟨(some 130), .bin .eql .no (.t 129) (.k (.sc (.str [32, 32, 99]))), (some (126, true))⟩,
  ⟨(some 131), .pick (.t 126) (.t 130) (.k (.sc (.bool false))), none⟩,
  ⟨(some 132), .move (.t 131), none⟩,
  ⟨(some 133), .move (.t 11), (some (132, true))⟩,
  ⟨(some 134), .bin .eql .no (.t 133) (.k (.sc (.int .i64 2))), (some (132, true))⟩,
  ⟨(some 135), .pick (.t 132) (.t 134) (.k (.sc (.bool false))), none⟩,
  ⟨(some 136), .move (.t 135), none⟩,
  ⟨(some 137), .move (.t 12), (some (136, true))⟩,
  ⟨(some 138), .bin .eql .no (.t 137) (.k (.sc (.int .i64 0))), (some (136, true))⟩,
  ⟨(some 139), .pick (.t 136) (.t 138) (.k (.sc (.bool false))), none⟩,
  ⟨(some 140), .move (.t 139), none⟩,
  ⟨(some 141), .call 18 [], (some (140, true))⟩,
  ⟨(some 142), .call 13 [(.t 141), (.k (.sc (.int .i64 1)))], (some (140, true))⟩,
  ⟨(some 143), .lenSlice (.t 142), (some (140, true))⟩,
  ⟨(some 144), .bin .eql .no (.t 143) (.k (.sc (.int .i64 0))), (some (140, true))⟩,
  ⟨(some 145), .pick (.t 140) (.t 144) (.k (.sc (.bool false))), none⟩,
  ⟨(some 146), .move (.t 145), none⟩,
  ⟨(some 147), .call 18 [], (some (146, true))⟩,
  ⟨(some 148), .call 13 [(.t 147), (.k (.sc (.int .i64 401)))], (some (146, true))⟩,
  ⟨(some 149), .lenSlice (.t 148), (some (146, true))⟩,
  ⟨(some 150), .bin .eql .no (.t 149) (.k (.sc (.int .i64 0))), (some (146, true))⟩,
  ⟨(some 151), .pick (.t 146) (.t 150) (.k (.sc (.bool false))), none⟩,
  ⟨(some 152), .move (.t 151), none⟩,
  ⟨(some 153), .call 13 [(.k (.sc (.nils))), (.k (.sc (.int .i64 3)))], (some (152, true))⟩,
  ⟨(some 154), .lenSlice (.t 153), (some (152, true))⟩,
  ⟨(some 155), .bin .eql .no (.t 154) (.k (.sc (.int .i64 0))), (some (152, true))⟩,
  ⟨(some 156), .pick (.t 152) (.t 155) (.k (.sc (.bool false))), none⟩,
  ⟨(some 157), .move (.t 156), none⟩,
  ⟨(some 158), .call 9 [], (some (157, true))⟩,
  ⟨(some 159), .pick (.t 157) (.t 158) (.k (.sc (.bool false))), none⟩,
  ⟨(some 0), .move (.t 159), none⟩]
def m7_code : MCode := (.seq (.ops m7_r0) (.seq (.ops m7_r1) (.seq (.seq (.ops m7_r2) (.block 0 (.loop m7_l3))) (.seq (.ops m7_r9) (.seq (.ops m7_r10) (.seq (.ops m7_r11) (.seq (.ops m7_r12) (.seq (.ops m7_r13) (.seq (.ops m7_r14) (.seq (.ops m7_r15) (.seq (.ops m7_r16) .ret)))))))))))
def m7 : MFunc := ⟨160, [.tmp 0], m7_code⟩

def m8_r0 : List MI := [
  ⟨(some 2), .move (.k (.sc (.bool false))), none⟩]
def m8_r1 : List MI := [
  ⟨(some 4), .move (.t 0), none⟩,
  ⟨(some 5), .lenSlice (.t 4), none⟩,
  ⟨(some 6), .bin .gtr .no (.t 5) (.k (.sc (.int .i64 60))), none⟩]
def m8_r2 : List MI := [
  ⟨(some 2), .move (.k (.sc (.bool true))), none⟩]
def m8_r3 : List MI := [
  ⟨(some 3), .move (.k (.sc (.int .i64 0))), none⟩]
def m8_r5 : List MI := [
  ⟨(some 7), .move (.t 3), none⟩,
  ⟨(some 8), .move (.t 0), none⟩,
  ⟨(some 9), .lenSlice (.t 8), none⟩,
  ⟨(some 10), .bin .lss .no (.t 7) (.t 9), none⟩]
def m8_r6 : List MI := [
  ⟨(some 13), .move (.t 0), none⟩,
  ⟨(some 14), .move (.t 3), none⟩,
  ⟨(some 15), .indexSlice 3 (.t 13) (.t 14), none⟩,
  ⟨(some 16), .fieldAddr 0 (.t 15), none⟩,
  ⟨(some 17), .load none (.t 16), none⟩,
  ⟨(some 18), .lenSlice (.t 17), none⟩,
  ⟨(some 19), .bin .gtr .no (.t 18) (.k (.sc (.int .i64 60))), none⟩]
def m8_r7 : List MI := [
  ⟨(some 2), .move (.k (.sc (.bool true))), none⟩]
def m8_r8 : List MI := [
  ⟨(some 11), .move (.t 3), none⟩,
  ⟨(some 12), .bin .add .no (.t 11) (.k (.sc (.int .i64 1))), none⟩,
  ⟨(some 3), .move (.t 12), none⟩]
def m8_l4 : MCode := (.seq (.seq (.ops m8_r5) (.cond (.t 10) .skip (.exit 0))) (.seq (.block 1 (.seq (.ops m8_r6) (.cond (.t 19) (.seq (.ops m8_r7) .ret) .skip))) (.ops m8_r8)))
def m8_r9 : List MI := [
  ⟨(some 2), .move (.k (.sc (.bool false))), none⟩]
def m8_code : MCode := (.seq (.ops m8_r0) (.seq (.seq (.ops m8_r1) (.cond (.t 6) (.seq (.ops m8_r2) .ret) .skip)) (.seq (.seq (.ops m8_r3) (.block 0 (.loop m8_l4))) (.seq (.ops m8_r9) .ret))))
def m8 : MFunc := ⟨20, [.tmp 2], m8_code⟩

def m9_r0 : List MI := [
  ⟨(some 0), .move (.k (.sc (.bool false))), none⟩]
def m9_r1 : List MI := [
  ⟨(some 5), .call 18 [], none⟩,
  ⟨(some 6), .call 10 [(.t 5), (.k (.sc (.int .i64 3))), (.k (.sc (.int .i64 1))), (.k (.sc (.int .i64 1)))], none⟩,
  ⟨(some 4), .move (.t 6), none⟩,
  ⟨(some 7), .extract (.t 4) 0, none⟩,
  ⟨(some 8), .extract (.t 4) 1, none⟩,
  ⟨(some 1), .move (.t 7), none⟩,
  ⟨(some 2), .move (.t 8), none⟩]
def m9_r2 : List MI := [
  ⟨(some 9), .call 18 [], none⟩,
  ⟨(some 10), .call 20 [(.t 9)], none⟩,
  ⟨(some 3), .move (.t 10), none⟩]
def m9_r3 : List MI := [
  ⟨(some 11), .call 18 [], none⟩,
  ⟨(some 12), .call 13 [(.t 11), (.k (.sc (.int .i64 3)))], none⟩,
  ⟨(some 13), .call 19 [(.k (.sc (.str [97, 98, 99]))), (.k (.sc (.bool true))), (.k (.sc (.bool false)))], none⟩,
  ⟨(some 14), .call 19 [(.k (.sc (.str [100, 101, 102]))), (.k (.sc (.bool false))), (.k (.sc (.bool false)))], none⟩,
  ⟨(some 15), .call 19 [(.k (.sc (.str [103, 104, 32]))), (.k (.sc (.bool false))), (.k (.sc (.bool false)))], none⟩,
  ⟨(some 16), .buildSlice 39 3 3 [.nils, .bool false, .bool false] [(0, 3, (.t 13)), (3, 3, (.t 14)), (6, 3, (.t 15))], none⟩,
  ⟨(some 17), .call 14 [(.t 12), (.t 16)], none⟩,
  ⟨(some 18), .move (.t 17), none⟩,
  ⟨(some 19), .move (.t 1), (some (18, true))⟩,
  ⟨(some 20), .bin .eql .no (.t 19) (.k (.sc (.int .i64 2))), (some (18, true))⟩,
  ⟨(some 21), .pick (.t 18) (.t 20) (.k (.sc (.bool false))), none⟩,
  ⟨(some 22), .move (.t 21), none⟩,
  ⟨(some 23), .move (.t 2), (some (22, true))⟩,
  ⟨(some 24), .bin .eql .no (.t 23) (.k (.sc (.int .i64 1))), (some (22, true))⟩,
  ⟨(some 25), .pick (.t 22) (.t 24) (.k (.sc (.bool false))), none⟩,
  ⟨(some 26), .move (.t 25), none⟩,
  ⟨(some 27), .move (.t 3), (some (26, true))⟩,
  ⟨(some 28), .lenSlice (.t 27), (some (26, true))⟩,
  ⟨(some 29), .bin .eql .no (.t 28) (.k (.sc (.int .i64 2))), (some (26, true))⟩,
  ⟨(some 30), .pick (.t 26) (.t 29) (.k (.sc (.bool false))), none⟩,
  ⟨(some 31), .move (.t 30), none⟩,
  ⟨(some 32), .move (.t 3), (some (31, true))⟩,
  ⟨(some 33), .indexSlice 1 (.t 32) (.k (.sc (.int .i64 0))), (some (31, true))⟩,
  ⟨(some 34), .load none (.t 33), (some (31, true))⟩,
  ⟨(some 35), .bin .eql .no (.t 34) (.k (.sc (.str [97, 98, 99, 100, 101, 102]))), (some (31, true))⟩,
  ⟨(some 36), .pick (.t 31) (.t 35) (.k (.sc (.bool false))), none⟩,
  ⟨(some 37), .move (.t 36), none⟩,
  ⟨(some 38), .call 18 [], (some (37, true))⟩,
  ⟨(some 39), .call 15 [(.t 38)], (some (37, true))⟩,
  ⟨(some 40), .lenSlice (.t 39), (some (37, true))⟩,
  ⟨(some 41), .bin .eql .no (.t 40) (.k (.sc (.int .i64 2))), (some (37, true))⟩,
  ⟨(some 42), .pick (.t 37) (.t 41) (.k (.sc (.bool false))), none⟩,
  ⟨(some 0), .move (.t 42), none⟩]
def m9_code : MCode := (.seq (.ops m9_r0) (.seq (.ops m9_r1) (.seq (.ops m9_r2) (.seq (.ops m9_r3) .ret))))
def m9 : MFunc := ⟨43, [.tmp 0], m9_code⟩

def m10_r0 : List MI := [
  ⟨(some 8), .move (.k (.sc (.int .i64 0))), none⟩,
  ⟨(some 9), .move (.k (.sc (.int .i64 0))), none⟩]
def m10_r1 : List MI := [
  ⟨(some 15), .move (.t 1), none⟩,
  ⟨(some 16), .call 21 [(.t 15)], none⟩,
  ⟨(some 17), .un .not (.t 16), none⟩,
  ⟨(some 18), .move (.t 17), none⟩,
  ⟨(some 19), .move (.t 2), (some (18, false))⟩,
  ⟨(some 20), .bin .lss .no (.t 19) (.k (.sc (.int .i64 0))), (some (18, false))⟩,
  ⟨(some 21), .pick (.t 18) (.k (.sc (.bool true))) (.t 20), none⟩,
  ⟨(some 22), .move (.t 21), none⟩,
  ⟨(some 23), .move (.t 3), (some (22, false))⟩,
  ⟨(some 24), .bin .lss .no (.t 23) (.k (.sc (.int .i64 0))), (some (22, false))⟩,
  ⟨(some 25), .pick (.t 22) (.k (.sc (.bool true))) (.t 24), none⟩,
  ⟨(some 26), .move (.t 25), none⟩,
  ⟨(some 27), .move (.t 3), (some (26, false))⟩,
  ⟨(some 28), .move (.t 0), (some (26, false))⟩,
  ⟨(some 29), .lenSlice (.t 28), (some (26, false))⟩,
  ⟨(some 30), .bin .geq .no (.t 27) (.t 29), (some (26, false))⟩,
  ⟨(some 31), .pick (.t 26) (.k (.sc (.bool true))) (.t 30), none⟩]
def m10_r2 : List MI := [
  ⟨(some 8), .move (.k (.sc (.int .i64 0))), none⟩,
  ⟨(some 9), .move (.k (.sc (.int .i64 0))), none⟩]
def m10_r3 : List MI := [
  ⟨(some 32), .move (.t 2), none⟩,
  ⟨(some 33), .min [(.t 32), (.k (.sc (.int .i64 1048576)))], none⟩,
  ⟨(some 2), .move (.t 33), none⟩]
def m10_r4 : List MI := [
  ⟨(some 34), .move (.t 3), none⟩,
  ⟨(some 10), .move (.t 34), none⟩]
def m10_r6 : List MI := [
  ⟨(some 35), .move (.t 10), none⟩,
  ⟨(some 36), .bin .gtr .no (.t 35) (.k (.sc (.int .i64 0))), none⟩,
  ⟨(some 37), .move (.t 36), none⟩,
  ⟨(some 38), .move (.t 0), (some (37, true))⟩,
  ⟨(some 39), .move (.t 10), (some (37, true))⟩,
  ⟨(some 40), .bin .sub .no (.t 39) (.k (.sc (.int .i64 1))), (some (37, true))⟩,
  ⟨(some 41), .indexSlice 3 (.t 38) (.t 40), (some (37, true))⟩,
  ⟨(some 42), .fieldAddr 1 (.t 41), (some (37, true))⟩,
  ⟨(some 43), .load none (.t 42), (some (37, true))⟩,
  ⟨(some 44), .pick (.t 37) (.t 43) (.k (.sc (.bool false))), none⟩]
def m10_r7 : List MI := [
  ⟨(some 45), .move (.t 10), none⟩,
  ⟨(some 46), .bin .sub .no (.t 45) (.k (.sc (.int .i64 1))), none⟩,
  ⟨(some 10), .move (.t 46), none⟩]
def m10_l5 : MCode := (.seq (.seq (.ops m10_r6) (.cond (.t 44) .skip (.exit 0))) (.block 1 (.ops m10_r7)))
def m10_r8 : List MI := [
  ⟨(some 47), .move (.t 0), none⟩,
  ⟨(some 48), .move (.t 3), none⟩,
  ⟨(some 49), .indexSlice 3 (.t 47) (.t 48), none⟩,
  ⟨(some 50), .fieldAddr 1 (.t 49), none⟩,
  ⟨(some 51), .load none (.t 50), none⟩,
  ⟨(some 52), .move (.t 51), none⟩,
  ⟨(some 53), .move (.t 3), (some (52, true))⟩,
  ⟨(some 54), .move (.t 0), (some (52, true))⟩,
  ⟨(some 55), .lenSlice (.t 54), (some (52, true))⟩,
  ⟨(some 56), .bin .sub .no (.t 55) (.k (.sc (.int .i64 1))), (some (52, true))⟩,
  ⟨(some 57), .bin .lss .no (.t 53) (.t 56), (some (52, true))⟩,
  ⟨(some 58), .pick (.t 52) (.t 57) (.k (.sc (.bool false))), none⟩]
def m10_r9 : List MI := [
  ⟨(some 59), .move (.t 2), none⟩,
  ⟨(some 60), .move (.t 0), none⟩,
  ⟨(some 61), .move (.t 3), none⟩,
  ⟨(some 62), .indexSlice 3 (.t 60) (.t 61), none⟩,
  ⟨(some 63), .load (some 3) (.t 62), none⟩,
  ⟨(some 64), .call 22 [(.t 63)], none⟩,
  ⟨(some 65), .min [(.t 59), (.t 64)], none⟩,
  ⟨(some 2), .move (.t 65), none⟩]
def m10_r10 : List MI := [
  ⟨(some 66), .move (.t 0), none⟩,
  ⟨(some 67), .move (.t 10), none⟩,
  ⟨(some 68), .move (.t 3), none⟩,
  ⟨(some 69), .slice 3 (.t 66) (some (.t 67)) (some (.t 68)), none⟩,
  ⟨(some 70), .lenSlice (.t 69), none⟩,
  ⟨(some 71), .move (.k (.sc (.int .i64 0))), none⟩]
def m10_r12 : List MI := [
  ⟨(some 72), .bin .lss .no (.t 71) (.t 70), none⟩]
def m10_r13 : List MI := [
  ⟨(some 73), .indexSlice 3 (.t 69) (.t 71), none⟩,
  ⟨(some 74), .load (some 3) (.t 73), none⟩,
  ⟨(some 12), .alloc 39 [.nils, .bool false, .bool false], none⟩,
  ⟨none, .store 3 (.t 12) (.t 74), none⟩]
def m10_r14 : List MI := [
  ⟨(some 75), .move (.t 2), none⟩,
  ⟨(some 76), .load (some 3) (.t 12), none⟩,
  ⟨(some 77), .call 22 [(.t 76)], none⟩,
  ⟨(some 78), .bin .add .no (.t 75) (.t 77), none⟩,
  ⟨(some 2), .move (.t 78), none⟩]
def m10_r15 : List MI := [
  ⟨(some 79), .bin .add .no (.t 71) (.k (.sc (.int .i64 1))), none⟩,
  ⟨(some 71), .move (.t 79), none⟩]
def m10_l11 : MCode := (.seq (.ops m10_r12) (.seq (.cond (.t 72) .skip (.exit 2)) (.seq (.block 3 (.seq (.ops m10_r13) (.ops m10_r14))) (.ops m10_r15))))
def m10_r16 : List MI := [
  ⟨(some 80), .move (.t 0), none⟩,
  ⟨(some 81), .move (.t 10), none⟩,
  ⟨(some 82), .slice 3 (.t 80) none (some (.t 81)), none⟩,
  ⟨(some 83), .move (.t 1), none⟩,
  ⟨(some 84), .call 13 [(.t 82), (.t 83)], none⟩,
  ⟨(some 85), .lenSlice (.t 84), none⟩,
  ⟨(some 13), .move (.t 85), none⟩]
def m10_r17 : List MI := [
  ⟨(some 86), .move (.t 0), none⟩,
  ⟨(some 87), .move (.t 10), none⟩,
  ⟨(some 88), .slice 3 (.t 86) (some (.t 87)) none, none⟩,
  ⟨(some 89), .call 15 [(.t 88)], none⟩,
  ⟨(some 14), .move (.t 89), none⟩]
def m10_r18 : List MI := [
  ⟨(some 90), .move (.t 14), none⟩,
  ⟨(some 91), .indexSlice 1 (.t 90) (.k (.sc (.int .i64 0))), none⟩,
  ⟨(some 92), .load none (.t 91), none⟩,
  ⟨(some 93), .move (.t 1), none⟩,
  ⟨(some 94), .move (.t 2), none⟩,
  ⟨(some 95), .move (.t 13), none⟩,
  ⟨(some 96), .call 23 [(.t 92), (.t 93), (.t 94), (.t 95)], none⟩,
  ⟨(some 97), .extract (.t 96) 0, none⟩,
  ⟨(some 98), .extract (.t 96) 1, none⟩,
  ⟨(some 8), .move (.t 97), none⟩,
  ⟨(some 9), .move (.t 98), none⟩]
def m10_code : MCode := (.seq (.ops m10_r0) (.seq (.seq (.ops m10_r1) (.cond (.t 31) (.seq (.ops m10_r2) .ret) .skip)) (.seq (.ops m10_r3) (.seq (.ops m10_r4) (.seq (.block 0 (.loop m10_l5)) (.seq (.seq (.ops m10_r8) (.cond (.t 58) (.ops m10_r9) .skip)) (.seq (.seq (.ops m10_r10) (.block 2 (.loop m10_l11))) (.seq (.ops m10_r16) (.seq (.ops m10_r17) (.seq (.ops m10_r18) .ret))))))))))
def m10 : MFunc := ⟨99, [.tmp 8, .tmp 9], m10_code⟩

def m11_r0 : List MI := [
  ⟨(some 8), .move (.k (.sc (.int .i64 0))), none⟩,
  ⟨(some 9), .move (.k (.sc (.int .i64 0))), none⟩]
def m11_r1 : List MI := [
  ⟨(some 23), .move (.t 1), none⟩,
  ⟨(some 24), .bin .lss .no (.t 23) (.k (.sc (.int .i64 2))), none⟩,
  ⟨(some 25), .move (.t 24), none⟩,
  ⟨(some 26), .move (.t 1), (some (25, false))⟩,
  ⟨(some 27), .bin .gtr .no (.t 26) (.k (.sc (.int .i64 400))), (some (25, false))⟩,
  ⟨(some 28), .pick (.t 25) (.k (.sc (.bool true))) (.t 27), none⟩,
  ⟨(some 29), .move (.t 28), none⟩,
  ⟨(some 30), .move (.t 2), (some (29, false))⟩,
  ⟨(some 31), .bin .lss .no (.t 30) (.k (.sc (.int .i64 0))), (some (29, false))⟩,
  ⟨(some 32), .pick (.t 29) (.k (.sc (.bool true))) (.t 31), none⟩,
  ⟨(some 33), .move (.t 32), none⟩,
  ⟨(some 34), .move (.t 3), (some (33, false))⟩,
  ⟨(some 35), .bin .lss .no (.t 34) (.k (.sc (.int .i64 0))), (some (33, false))⟩,
  ⟨(some 36), .pick (.t 33) (.k (.sc (.bool true))) (.t 35), none⟩,
  ⟨(some 37), .move (.t 36), none⟩,
  ⟨(some 38), .move (.t 3), (some (37, false))⟩,
  ⟨(some 39), .move (.t 0), (some (37, false))⟩,
  ⟨(some 40), .lenSlice (.t 39), (some (37, false))⟩,
  ⟨(some 41), .bin .geq .no (.t 38) (.t 40), (some (37, false))⟩,
  ⟨(some 42), .pick (.t 37) (.k (.sc (.bool true))) (.t 41), none⟩]
def m11_r2 : List MI := [
  ⟨(some 8), .move (.k (.sc (.int .i64 0))), none⟩,
  ⟨(some 9), .move (.k (.sc (.int .i64 0))), none⟩]
def m11_r3 : List MI := [
  ⟨(some 43), .move (.t 2), none⟩,
  ⟨(some 44), .bin .gtr .no (.t 43) (.k (.sc (.int .i64 1048576))), none⟩]
def m11_r4 : List MI := [
  ⟨(some 2), .move (.k (.sc (.int .i64 1048576))), none⟩]
def m11_r5 : List MI := [
  ⟨(some 46), .move (.t 0), none⟩,
  ⟨(some 47), .call 24 [(.t 46)], none⟩,
  ⟨(some 45), .move (.t 47), none⟩,
  ⟨(some 48), .extract (.t 45) 0, none⟩,
  ⟨(some 49), .extract (.t 45) 1, none⟩,
  ⟨(some 10), .move (.t 48), none⟩,
  ⟨(some 11), .move (.t 49), none⟩]
def m11_r6 : List MI := [
  ⟨(some 12), .move (.k (.sc (.int .i64 0))), none⟩]
def m11_r7 : List MI := [
  ⟨(some 13), .move (.k (.sc (.int .i64 0))), none⟩]
def m11_r9 : List MI := [
  ⟨(some 50), .move (.t 12), none⟩,
  ⟨(some 51), .bin .add .no (.t 50) (.k (.sc (.int .i64 1))), none⟩,
  ⟨(some 52), .move (.t 11), none⟩,
  ⟨(some 53), .lenSlice (.t 52), none⟩,
  ⟨(some 54), .bin .lss .no (.t 51) (.t 53), none⟩,
  ⟨(some 55), .move (.t 54), none⟩,
  ⟨(some 56), .move (.t 11), (some (55, true))⟩,
  ⟨(some 57), .move (.t 12), (some (55, true))⟩,
  ⟨(some 58), .bin .add .no (.t 57) (.k (.sc (.int .i64 1))), (some (55, true))⟩,
  ⟨(some 59), .indexSlice 1 (.t 56) (.t 58), (some (55, true))⟩,
  ⟨(some 60), .load none (.t 59), (some (55, true))⟩,
  ⟨(some 61), .move (.t 3), (some (55, true))⟩,
  ⟨(some 62), .bin .leq .no (.t 60) (.t 61), (some (55, true))⟩,
  ⟨(some 63), .pick (.t 55) (.t 62) (.k (.sc (.bool false))), none⟩]
def m11_r10 : List MI := [
  ⟨(some 65), .move (.t 10), none⟩,
  ⟨(some 66), .move (.t 12), none⟩,
  ⟨(some 67), .indexSlice 1 (.t 65) (.t 66), none⟩,
  ⟨(some 68), .load none (.t 67), none⟩,
  ⟨(some 69), .move (.t 1), none⟩,
  ⟨(some 70), .call 25 [(.t 68), (.t 69)], none⟩,
  ⟨(some 64), .move (.t 70), none⟩,
  ⟨(some 71), .extract (.t 64) 0, none⟩,
  ⟨(some 72), .extract (.t 64) 1, none⟩,
  ⟨(some 14), .move (.t 71), none⟩,
  ⟨(some 15), .move (.t 72), none⟩]
def m11_r11 : List MI := [
  ⟨(some 73), .move (.t 13), none⟩,
  ⟨(some 74), .move (.t 14), none⟩,
  ⟨(some 75), .lenSlice (.t 74), none⟩,
  ⟨(some 76), .bin .add .no (.t 73) (.t 75), none⟩,
  ⟨(some 13), .move (.t 76), none⟩]
def m11_r12 : List MI := [
  ⟨(some 77), .move (.t 12), none⟩,
  ⟨(some 78), .bin .add .no (.t 77) (.k (.sc (.int .i64 1))), none⟩,
  ⟨(some 12), .move (.t 78), none⟩]
def m11_l8 : MCode := (.seq (.seq (.ops m11_r9) (.cond (.t 63) .skip (.exit 0))) (.block 1 (.seq (.ops m11_r10) (.seq (.ops m11_r11) (.ops m11_r12)))))
def m11_r13 : List MI := [
  ⟨(some 79), .move (.t 0), none⟩,
  ⟨(some 80), .move (.t 3), none⟩,
  ⟨(some 81), .indexSlice 3 (.t 79) (.t 80), none⟩,
  ⟨(some 82), .fieldAddr 1 (.t 81), none⟩,
  ⟨(some 83), .load none (.t 82), none⟩,
  ⟨(some 84), .move (.t 83), none⟩,
  ⟨(some 85), .move (.t 3), (some (84, true))⟩,
  ⟨(some 86), .move (.t 0), (some (84, true))⟩,
  ⟨(some 87), .lenSlice (.t 86), (some (84, true))⟩,
  ⟨(some 88), .bin .sub .no (.t 87) (.k (.sc (.int .i64 1))), (some (84, true))⟩,
  ⟨(some 89), .bin .lss .no (.t 85) (.t 88), (some (84, true))⟩,
  ⟨(some 90), .pick (.t 84) (.t 89) (.k (.sc (.bool false))), none⟩,
  ⟨(some 91), .move (.t 90), none⟩,
  ⟨(some 92), .move (.t 2), (some (91, true))⟩,
  ⟨(some 93), .move (.t 0), (some (91, true))⟩,
  ⟨(some 94), .move (.t 3), (some (91, true))⟩,
  ⟨(some 95), .indexSlice 3 (.t 93) (.t 94), (some (91, true))⟩,
  ⟨(some 96), .load (some 3) (.t 95), (some (91, true))⟩,
  ⟨(some 97), .call 26 [(.t 96)], (some (91, true))⟩,
  ⟨(some 98), .bin .gtr .no (.t 92) (.t 97), (some (91, true))⟩,
  ⟨(some 99), .pick (.t 91) (.t 98) (.k (.sc (.bool false))), none⟩]
def m11_r14 : List MI := [
  ⟨(some 100), .move (.t 0), none⟩,
  ⟨(some 101), .move (.t 3), none⟩,
  ⟨(some 102), .indexSlice 3 (.t 100) (.t 101), none⟩,
  ⟨(some 103), .load (some 3) (.t 102), none⟩,
  ⟨(some 104), .call 26 [(.t 103)], none⟩,
  ⟨(some 2), .move (.t 104), none⟩]
def m11_r15 : List MI := [
  ⟨(some 16), .move (.k (.sc (.int .i64 0))), none⟩]
def m11_r16 : List MI := [
  ⟨(some 105), .move (.t 11), none⟩,
  ⟨(some 106), .move (.t 12), none⟩,
  ⟨(some 107), .indexSlice 1 (.t 105) (.t 106), none⟩,
  ⟨(some 108), .load none (.t 107), none⟩,
  ⟨(some 17), .move (.t 108), none⟩]
def m11_r18 : List MI := [
  ⟨(some 109), .move (.t 17), none⟩,
  ⟨(some 110), .move (.t 3), none⟩,
  ⟨(some 111), .bin .lss .no (.t 109) (.t 110), none⟩]
def m11_r19 : List MI := [
  ⟨(some 114), .move (.t 16), none⟩,
  ⟨(some 115), .move (.t 0), none⟩,
  ⟨(some 116), .move (.t 17), none⟩,
  ⟨(some 117), .indexSlice 3 (.t 115) (.t 116), none⟩,
  ⟨(some 118), .load (some 3) (.t 117), none⟩,
  ⟨(some 119), .call 26 [(.t 118)], none⟩,
  ⟨(some 120), .bin .add .no (.t 114) (.t 119), none⟩,
  ⟨(some 16), .move (.t 120), none⟩]
def m11_r20 : List MI := [
  ⟨(some 112), .move (.t 17), none⟩,
  ⟨(some 113), .bin .add .no (.t 112) (.k (.sc (.int .i64 1))), none⟩,
  ⟨(some 17), .move (.t 113), none⟩]
def m11_l17 : MCode := (.seq (.seq (.ops m11_r18) (.cond (.t 111) .skip (.exit 2))) (.seq (.block 3 (.ops m11_r19)) (.ops m11_r20)))
def m11_r21 : List MI := [
  ⟨(some 122), .move (.t 10), none⟩,
  ⟨(some 123), .move (.t 12), none⟩,
  ⟨(some 124), .indexSlice 1 (.t 122) (.t 123), none⟩,
  ⟨(some 125), .load none (.t 124), none⟩,
  ⟨(some 126), .move (.t 1), none⟩,
  ⟨(some 127), .call 25 [(.t 125), (.t 126)], none⟩,
  ⟨(some 121), .move (.t 127), none⟩,
  ⟨(some 128), .extract (.t 121) 0, none⟩,
  ⟨(some 129), .extract (.t 121) 1, none⟩,
  ⟨(some 18), .move (.t 128), none⟩,
  ⟨(some 19), .move (.t 129), none⟩]
def m11_r22 : List MI := [
  ⟨(some 130), .move (.t 2), none⟩,
  ⟨(some 131), .move (.t 19), none⟩,
  ⟨(some 132), .lenSlice (.t 131), none⟩,
  ⟨(some 133), .move (.t 16), none⟩,
  ⟨(some 134), .bin .sub .no (.t 132) (.t 133), none⟩,
  ⟨(some 135), .bin .lss .no (.t 130) (.t 134), none⟩]
def m11_r23 : List MI := [
  ⟨(some 136), .move (.t 19), none⟩,
  ⟨(some 137), .move (.t 16), none⟩,
  ⟨(some 138), .move (.t 2), none⟩,
  ⟨(some 139), .bin .add .no (.t 137) (.t 138), none⟩,
  ⟨(some 140), .indexSlice 2 (.t 136) (.t 139), none⟩,
  ⟨(some 141), .load (some 2) (.t 140), none⟩,
  ⟨(some 20), .alloc 67 [.int .i64 0, .int .i64 0], none⟩,
  ⟨none, .store 2 (.t 20) (.t 141), none⟩]
def m11_r24 : List DI := [
  ⟨⟨(some 142), .indexArr 2 1 (.t 20) (.k (.sc (.int .i64 0))), none⟩, 0, [], []⟩,
  ⟨⟨(some 143), .load none (.t 142), none⟩, 1, [], []⟩,
  ⟨⟨(some 144), .move (.t 13), none⟩, 0, [], []⟩,
  ⟨⟨(some 145), .indexArr 2 1 (.t 20) (.k (.sc (.int .i64 1))), none⟩, 0, [], []⟩,
  ⟨⟨(some 146), .load none (.t 145), none⟩, 1, [], []⟩,
  ⟨⟨(some 147), .bin .add .no (.t 144) (.t 146), none⟩, 0, [], []⟩,
  ⟨⟨(some 8), .move (.t 143), none⟩, 0, [], []⟩,
  ⟨⟨(some 9), .move (.t 147), none⟩, 0, [], []⟩]
def m11_r25 : List MI := [
  ⟨(some 21), .move (.k (.sc (.int .i64 0))), none⟩]
def m11_r26 : List MI := [
  ⟨(some 148), .move (.t 19), none⟩,
  ⟨(some 149), .lenSlice (.t 148), none⟩,
  ⟨(some 150), .bin .gtr .no (.t 149) (.k (.sc (.int .i64 0))), none⟩]
def m11_r27 : List MI := [
  ⟨(some 151), .move (.t 19), none⟩,
  ⟨(some 152), .move (.t 19), none⟩,
  ⟨(some 153), .lenSlice (.t 152), none⟩,
  ⟨(some 154), .bin .sub .no (.t 153) (.k (.sc (.int .i64 1))), none⟩,
  ⟨(some 155), .indexSlice 2 (.t 151) (.t 154), none⟩,
  ⟨(some 156), .indexArr 2 1 (.t 155) (.k (.sc (.int .i64 0))), none⟩,
  ⟨(some 157), .load none (.t 156), none⟩,
  ⟨(some 158), .bin .add .no (.t 157) (.k (.sc (.int .i64 1))), none⟩,
  ⟨(some 21), .move (.t 158), none⟩]
def m11_r28 : List MI := [
  ⟨(some 159), .move (.t 2), none⟩,
  ⟨(some 160), .move (.t 19), none⟩,
  ⟨(some 161), .lenSlice (.t 160), none⟩,
  ⟨(some 162), .move (.t 16), none⟩,
  ⟨(some 163), .bin .sub .no (.t 161) (.t 162), none⟩,
  ⟨(some 164), .bin .sub .no (.t 159) (.t 163), none⟩,
  ⟨(some 22), .move (.t 164), none⟩]
def m11_r29 : List MI := [
  ⟨(some 165), .move (.t 22), none⟩,
  ⟨(some 166), .move (.t 1), none⟩,
  ⟨(some 167), .bin .sub .no (.t 166) (.k (.sc (.int .i64 1))), none⟩,
  ⟨(some 168), .move (.t 21), none⟩,
  ⟨(some 169), .bin .sub .no (.t 167) (.t 168), none⟩,
  ⟨(some 170), .bin .gtr .no (.t 165) (.t 169), none⟩]
def m11_r30 : List MI := [
  ⟨(some 171), .move (.t 1), none⟩,
  ⟨(some 172), .bin .sub .no (.t 171) (.k (.sc (.int .i64 1))), none⟩,
  ⟨(some 173), .move (.t 13), none⟩,
  ⟨(some 174), .move (.t 18), none⟩,
  ⟨(some 175), .lenSlice (.t 174), none⟩,
  ⟨(some 176), .bin .add .no (.t 173) (.t 175), none⟩,
  ⟨(some 177), .bin .sub .no (.t 176) (.k (.sc (.int .i64 1))), none⟩,
  ⟨(some 8), .move (.t 172), none⟩,
  ⟨(some 9), .move (.t 177), none⟩]
def m11_r31 : List MI := [
  ⟨(some 178), .move (.t 21), none⟩,
  ⟨(some 179), .move (.t 22), none⟩,
  ⟨(some 180), .bin .add .no (.t 178) (.t 179), none⟩,
  ⟨(some 181), .move (.t 13), none⟩,
  ⟨(some 182), .move (.t 18), none⟩,
  ⟨(some 183), .lenSlice (.t 182), none⟩,
  ⟨(some 184), .bin .add .no (.t 181) (.t 183), none⟩,
  ⟨(some 185), .bin .sub .no (.t 184) (.k (.sc (.int .i64 1))), none⟩,
  ⟨(some 8), .move (.t 180), none⟩,
  ⟨(some 9), .move (.t 185), none⟩]
def m11_code : MCode := (.seq (.ops m11_r0) (.seq (.seq (.ops m11_r1) (.cond (.t 42) (.seq (.ops m11_r2) .ret) .skip)) (.seq (.seq (.ops m11_r3) (.cond (.t 44) (.ops m11_r4) .skip)) (.seq (.ops m11_r5) (.seq (.ops m11_r6) (.seq (.ops m11_r7) (.seq (.block 0 (.loop m11_l8)) (.seq (.seq (.ops m11_r13) (.cond (.t 99) (.ops m11_r14) .skip)) (.seq (.ops m11_r15) (.seq (.seq (.ops m11_r16) (.block 2 (.loop m11_l17))) (.seq (.ops m11_r21) (.seq (.seq (.ops m11_r22) (.cond (.t 135) (.seq (.ops m11_r23) (.seq (.draw m11_r24) .ret)) .skip)) (.seq (.ops m11_r25) (.seq (.seq (.ops m11_r26) (.cond (.t 150) (.ops m11_r27) .skip)) (.seq (.ops m11_r28) (.seq (.seq (.ops m11_r29) (.cond (.t 170) (.seq (.ops m11_r30) .ret) .skip)) (.seq (.ops m11_r31) .ret)))))))))))))))))
def m11 : MFunc := ⟨186, [.tmp 8, .tmp 9], m11_code⟩

def m12_r0 : List MI := [
  ⟨(some 2), .move (.k (.sc (.nils))), none⟩]
def m12_r1 : List MI := [
  ⟨(some 3), .move (.k (.sc (.nils))), none⟩]
def m12_r2 : List MI := [
  ⟨(some 4), .move (.k (.sc (.int .i64 0))), none⟩]
def m12_r4 : List MI := [
  ⟨(some 5), .move (.t 4), none⟩,
  ⟨(some 6), .move (.t 0), none⟩,
  ⟨(some 7), .lenSlice (.t 6), none⟩,
  ⟨(some 8), .bin .lss .no (.t 5) (.t 7), none⟩]
def m12_r5 : List MI := [
  ⟨(some 11), .move (.t 3), none⟩,
  ⟨(some 12), .move (.t 0), none⟩,
  ⟨(some 13), .move (.t 4), none⟩,
  ⟨(some 14), .indexSlice 3 (.t 12) (.t 13), none⟩,
  ⟨(some 15), .load (some 3) (.t 14), none⟩,
  ⟨(some 16), .buildSlice 65 3 1 [.nils, .bool false, .bool false] [(0, 3, (.t 15))], none⟩,
  ⟨(some 17), .append 65 3 32 [.nils, .bool false, .bool false] (.t 11) (.t 16), none⟩,
  ⟨(some 3), .move (.t 17), none⟩]
def m12_r6 : List MI := [
  ⟨(some 9), .move (.t 4), none⟩,
  ⟨(some 10), .bin .add .no (.t 9) (.k (.sc (.int .i64 1))), none⟩,
  ⟨(some 4), .move (.t 10), none⟩]
def m12_l3 : MCode := (.seq (.seq (.ops m12_r4) (.cond (.t 8) .skip (.exit 0))) (.seq (.block 1 (.ops m12_r5)) (.ops m12_r6)))
def m12_r7 : List MI := [
  ⟨(some 18), .move (.t 3), none⟩,
  ⟨(some 2), .move (.t 18), none⟩]
def m12_code : MCode := (.seq (.ops m12_r0) (.seq (.ops m12_r1) (.seq (.seq (.ops m12_r2) (.block 0 (.loop m12_l3))) (.seq (.ops m12_r7) .ret))))
def m12 : MFunc := ⟨19, [.tmp 2], m12_code⟩

def m13_r0 : List MI := [
  ⟨(some 4), .move (.k (.sc (.nils))), none⟩]
def m13_r1 : List MI := [
  ⟨(some 8), .move (.t 1), none⟩,
  ⟨(some 9), .call 21 [(.t 8)], none⟩,
  ⟨(some 10), .un .not (.t 9), none⟩]
def m13_r2 : List MI := [
  ⟨(some 4), .move (.k (.sc (.nils))), none⟩]
def m13_r3 : List MI := [
  ⟨(some 5), .move (.k (.sc (.nils))), none⟩]
def m13_r4 : List MI := [
  ⟨(some 11), .move (.t 0), none⟩,
  ⟨(some 12), .call 15 [(.t 11)], none⟩,
  ⟨(some 13), .lenSlice (.t 12), none⟩,
  ⟨(some 14), .move (.k (.sc (.int .i64 0))), none⟩]
def m13_r6 : List MI := [
  ⟨(some 15), .bin .lss .no (.t 14) (.t 13), none⟩]
def m13_r7 : List MI := [
  ⟨(some 16), .indexSlice 1 (.t 12) (.t 14), none⟩,
  ⟨(some 17), .load none (.t 16), none⟩,
  ⟨(some 7), .move (.t 17), none⟩]
def m13_r8 : List MI := [
  ⟨(some 18), .move (.t 5), none⟩,
  ⟨(some 19), .move (.t 7), none⟩,
  ⟨(some 20), .move (.t 1), none⟩,
  ⟨(some 21), .call 27 [(.t 19), (.t 20)], none⟩,
  ⟨(some 22), .append 39 3 32 [.nils, .bool false, .bool false] (.t 18) (.t 21), none⟩,
  ⟨(some 5), .move (.t 22), none⟩]
def m13_r9 : List MI := [
  ⟨(some 23), .bin .add .no (.t 14) (.k (.sc (.int .i64 1))), none⟩,
  ⟨(some 14), .move (.t 23), none⟩]
def m13_l5 : MCode := (.seq (.ops m13_r6) (.seq (.cond (.t 15) .skip (.exit 0)) (.seq (.block 1 (.seq (.ops m13_r7) (.ops m13_r8))) (.ops m13_r9))))
def m13_r10 : List MI := [
  ⟨(some 24), .move (.t 5), none⟩,
  ⟨(some 4), .move (.t 24), none⟩]
def m13_code : MCode := (.seq (.ops m13_r0) (.seq (.seq (.ops m13_r1) (.cond (.t 10) (.seq (.ops m13_r2) .ret) .skip)) (.seq (.ops m13_r3) (.seq (.seq (.ops m13_r4) (.block 0 (.loop m13_l5))) (.seq (.ops m13_r10) .ret)))))
def m13 : MFunc := ⟨25, [.tmp 4], m13_code⟩

def m14_r0 : List MI := [
  ⟨(some 4), .move (.k (.sc (.bool false))), none⟩]
def m14_r1 : List MI := [
  ⟨(some 5), .move (.t 0), none⟩,
  ⟨(some 6), .call 12 [(.t 5)], none⟩,
  ⟨(some 7), .move (.t 1), none⟩,
  ⟨(some 8), .call 12 [(.t 7)], none⟩,
  ⟨(some 9), .call 28 [(.t 6), (.t 8)], none⟩,
  ⟨(some 4), .move (.t 9), none⟩]
def m14_code : MCode := (.seq (.ops m14_r0) (.seq (.ops m14_r1) .ret))
def m14 : MFunc := ⟨10, [.tmp 4], m14_code⟩

def m15_r0 : List MI := [
  ⟨(some 2), .move (.k (.sc (.nils))), none⟩]
def m15_r1 : List MI := [
  ⟨(some 3), .move (.k (.sc (.nils))), none⟩]
def m15_r2 : List MI := [
  ⟨(some 4), .move (.k (.sc (.nils))), none⟩]
def m15_r3 : List MI := [
  ⟨(some 8), .move (.t 0), none⟩,
  ⟨(some 9), .lenSlice (.t 8), none⟩,
  ⟨(some 10), .move (.k (.sc (.int .i64 0))), none⟩]
def m15_r5 : List MI := [
  ⟨(some 11), .bin .lss .no (.t 10) (.t 9), none⟩]
def m15_r6 : List MI := [
  ⟨(some 12), .move (.t 10), none⟩,
  ⟨(some 13), .indexSlice 3 (.t 8) (.t 10), none⟩,
  ⟨(some 14), .load (some 3) (.t 13), none⟩,
  ⟨(some 6), .alloc 39 [.nils, .bool false, .bool false], none⟩,
  ⟨(some 5), .move (.t 12), none⟩,
  ⟨none, .store 3 (.t 6) (.t 14), none⟩]
def m15_r7 : List DI := [
  ⟨⟨(some 15), .move (.t 4), none⟩, 0, [], [4]⟩,
  ⟨⟨(some 16), .fieldAddr 0 (.t 6), none⟩, 0, [], [4]⟩,
  ⟨⟨(some 17), .load none (.t 16), none⟩, 1, [], [4]⟩,
  ⟨⟨(some 18), .load (some 3) (.t 6), none⟩, 1, [], []⟩,
  ⟨⟨(some 19), .call 22 [(.t 18)], none⟩, 2, [], []⟩,
  ⟨⟨(some 20), .slice 7 (.t 17) none (some (.t 19)), none⟩, 0, [], []⟩,
  ⟨⟨(some 21), .append 48 7 28 [.int .i32 0, .int .u8 0, .int .u16 0, .int .u8 0, .int .u32 0, .int .u8 0, .int .u32 0] (.t 15) (.t 20), none⟩, 2, [], []⟩,
  ⟨⟨(some 4), .move (.t 21), none⟩, 0, [], []⟩]
def m15_r8 : List MI := [
  ⟨(some 22), .fieldAddr 1 (.t 6), none⟩,
  ⟨(some 23), .load none (.t 22), none⟩,
  ⟨(some 24), .move (.t 23), none⟩,
  ⟨(some 25), .move (.t 5), (some (24, true))⟩,
  ⟨(some 26), .move (.t 0), (some (24, true))⟩,
  ⟨(some 27), .lenSlice (.t 26), (some (24, true))⟩,
  ⟨(some 28), .bin .sub .no (.t 27) (.k (.sc (.int .i64 1))), (some (24, true))⟩,
  ⟨(some 29), .bin .lss .no (.t 25) (.t 28), (some (24, true))⟩,
  ⟨(some 30), .pick (.t 24) (.t 29) (.k (.sc (.bool false))), none⟩]
def m15_r9 : List MI := [
  ⟨(some 31), .move (.t 4), none⟩,
  ⟨(some 32), .lenSlice (.t 31), none⟩,
  ⟨(some 7), .move (.t 32), none⟩]
def m15_r11 : List DI := [
  ⟨⟨(some 33), .move (.t 7), none⟩, 0, [], []⟩,
  ⟨⟨(some 34), .bin .gtr .no (.t 33) (.k (.sc (.int .i64 0))), none⟩, 0, [], []⟩,
  ⟨⟨(some 35), .move (.t 34), none⟩, 0, [], []⟩,
  ⟨⟨(some 36), .move (.t 4), (some (35, true))⟩, 0, [], [8]⟩,
  ⟨⟨(some 37), .move (.t 7), (some (35, true))⟩, 0, [], [8]⟩,
  ⟨⟨(some 38), .bin .sub .no (.t 37) (.k (.sc (.int .i64 1))), (some (35, true))⟩, 0, [], [8]⟩,
  ⟨⟨(some 39), .indexSlice 7 (.t 36) (.t 38), (some (35, true))⟩, 0, [], [8]⟩,
  ⟨⟨(some 40), .load (some 7) (.t 39), (some (35, true))⟩, 1, [], [8]⟩,
  ⟨⟨(some 41), .call 29 [], (some (35, true))⟩, 2, [], []⟩,
  ⟨⟨(some 42), .bin .eql (.agg [.int .i32, .int .u8, .int .u16, .int .u8, .int .u32, .int .u8, .int .u32]) (.t 40) (.t 41), (some (35, true))⟩, 0, [], []⟩,
  ⟨⟨(some 43), .pick (.t 35) (.t 42) (.k (.sc (.bool false))), none⟩, 0, [], []⟩]
def m15_r12 : List MI := [
  ⟨(some 44), .move (.t 7), none⟩,
  ⟨(some 45), .bin .sub .no (.t 44) (.k (.sc (.int .i64 1))), none⟩,
  ⟨(some 7), .move (.t 45), none⟩]
def m15_l10 : MCode := (.seq (.seq (.draw m15_r11) (.cond (.t 43) .skip (.exit 2))) (.block 3 (.ops m15_r12)))
def m15_r13 : List MI := [
  ⟨(some 46), .move (.t 3), none⟩,
  ⟨(some 47), .move (.t 4), none⟩,
  ⟨(some 48), .move (.t 7), none⟩,
  ⟨(some 49), .slice 7 (.t 47) none (some (.t 48)), none⟩,
  ⟨(some 50), .buildSlice 36 1 1 [.nils] [(0, 1, (.t 49))], none⟩,
  ⟨(some 51), .append 36 1 24 [.nils] (.t 46) (.t 50), none⟩,
  ⟨(some 3), .move (.t 51), none⟩]
def m15_r14 : List MI := [
  ⟨(some 4), .move (.k (.sc (.nils))), none⟩]
def m15_r15 : List MI := [
  ⟨(some 52), .bin .add .no (.t 10) (.k (.sc (.int .i64 1))), none⟩,
  ⟨(some 10), .move (.t 52), none⟩]
def m15_l4 : MCode := (.seq (.ops m15_r5) (.seq (.cond (.t 11) .skip (.exit 0)) (.seq (.block 1 (.seq (.ops m15_r6) (.seq (.draw m15_r7) (.seq (.seq (.ops m15_r8) (.cond (.t 30) (.exit 1) .skip)) (.seq (.ops m15_r9) (.seq (.block 2 (.loop m15_l10)) (.seq (.ops m15_r13) (.ops m15_r14)))))))) (.ops m15_r15))))
def m15_r16 : List MI := [
  ⟨(some 53), .move (.t 3), none⟩,
  ⟨(some 2), .move (.t 53), none⟩]
def m15_code : MCode := (.seq (.ops m15_r0) (.seq (.ops m15_r1) (.seq (.ops m15_r2) (.seq (.seq (.ops m15_r3) (.block 0 (.loop m15_l4))) (.seq (.ops m15_r16) .ret)))))
def m15 : MFunc := ⟨54, [.tmp 2], m15_code⟩

def m16_r0 : List MI := [
  ⟨(some 4), .move (.k (.sc (.bool false))), none⟩]
def m16_r1 : List MI := [
  ⟨(some 6), .move (.t 0), none⟩,
  ⟨(some 7), .lenSlice (.t 6), none⟩,
  ⟨(some 8), .move (.t 1), none⟩,
  ⟨(some 9), .lenSlice (.t 8), none⟩,
  ⟨(some 10), .bin .neq .no (.t 7) (.t 9), none⟩]
def m16_r2 : List MI := [
  ⟨(some 4), .move (.k (.sc (.bool false))), none⟩]
def m16_r3 : List MI := [
  ⟨(some 5), .move (.k (.sc (.int .i64 0))), none⟩]
def m16_r5 : List MI := [
  ⟨(some 11), .move (.t 5), none⟩,
  ⟨(some 12), .move (.t 0), none⟩,
  ⟨(some 13), .lenSlice (.t 12), none⟩,
  ⟨(some 14), .bin .lss .no (.t 11) (.t 13), none⟩]
def m16_r6 : List DI := [
  ⟨⟨(some 17), .move (.t 0), none⟩, 0, [], []⟩,
  ⟨⟨(some 18), .move (.t 5), none⟩, 0, [], []⟩,
  ⟨⟨(some 19), .indexSlice 7 (.t 17) (.t 18), none⟩, 0, [], []⟩,
  ⟨⟨(some 20), .load (some 7) (.t 19), none⟩, 1, [], []⟩,
  ⟨⟨(some 21), .move (.t 1), none⟩, 0, [], []⟩,
  ⟨⟨(some 22), .move (.t 5), none⟩, 0, [], []⟩,
  ⟨⟨(some 23), .indexSlice 7 (.t 21) (.t 22), none⟩, 0, [], []⟩,
  ⟨⟨(some 24), .load (some 7) (.t 23), none⟩, 1, [], []⟩,
  ⟨⟨(some 25), .bin .neq (.agg [.int .i32, .int .u8, .int .u16, .int .u8, .int .u32, .int .u8, .int .u32]) (.t 20) (.t 24), none⟩, 0, [], []⟩]
def m16_r7 : List MI := [
  ⟨(some 4), .move (.k (.sc (.bool false))), none⟩]
def m16_r8 : List MI := [
  ⟨(some 15), .move (.t 5), none⟩,
  ⟨(some 16), .bin .add .no (.t 15) (.k (.sc (.int .i64 1))), none⟩,
  ⟨(some 5), .move (.t 16), none⟩]
def m16_l4 : MCode := (.seq (.seq (.ops m16_r5) (.cond (.t 14) .skip (.exit 0))) (.seq (.block 1 (.seq (.draw m16_r6) (.cond (.t 25) (.seq (.ops m16_r7) .ret) .skip))) (.ops m16_r8)))
def m16_r9 : List MI := [
  ⟨(some 4), .move (.k (.sc (.bool true))), none⟩]
def m16_code : MCode := (.seq (.ops m16_r0) (.seq (.seq (.ops m16_r1) (.cond (.t 10) (.seq (.ops m16_r2) .ret) .skip)) (.seq (.seq (.ops m16_r3) (.block 0 (.loop m16_l4))) (.seq (.ops m16_r9) .ret))))
def m16 : MFunc := ⟨26, [.tmp 4], m16_code⟩

def m17_r0 : List MI := [
  ⟨(some 2), .move (.k (.sc (.bool false))), none⟩]
def m17_r1 : List MI := [
  ⟨(some 3), .move (.k (.sc (.bool false))), none⟩]
def m17_r2 : List MI := [
  ⟨(some 4), .move (.k (.sc (.int .i64 0))), none⟩]
def m17_r4 : List MI := [
  ⟨(some 6), .move (.t 4), none⟩,
  ⟨(some 7), .move (.t 0), none⟩,
  ⟨(some 8), .lenSlice (.t 7), none⟩,
  ⟨(some 9), .bin .lss .no (.t 6) (.t 8), none⟩]
def m17_r5 : List MI := [
  ⟨(some 12), .move (.t 0), none⟩,
  ⟨(some 13), .move (.t 4), none⟩,
  ⟨(some 14), .indexSlice 7 (.t 12) (.t 13), none⟩,
  ⟨(some 15), .fieldAddr 1 (.t 14), none⟩,
  ⟨(some 16), .load none (.t 15), none⟩,
  ⟨(some 5), .move (.t 16), none⟩]
def m17_r6 : List MI := [
  ⟨(some 17), .move (.t 5), none⟩,
  ⟨(some 18), .bin .gtr .no (.t 17) (.k (.sc (.int .u8 2))), none⟩,
  ⟨(some 19), .move (.t 18), none⟩,
  ⟨(some 20), .move (.t 3), (some (19, false))⟩,
  ⟨(some 21), .move (.t 5), (some (19, false))⟩,
  ⟨(some 22), .bin .eql .no (.t 21) (.k (.sc (.int .u8 2))), (some (19, false))⟩,
  ⟨(some 23), .bin .neq .bool (.t 20) (.t 22), (some (19, false))⟩,
  ⟨(some 24), .pick (.t 19) (.k (.sc (.bool true))) (.t 23), none⟩]
def m17_r7 : List MI := [
  ⟨(some 2), .move (.k (.sc (.bool false))), none⟩]
def m17_r8 : List MI := [
  ⟨(some 25), .move (.t 5), none⟩,
  ⟨(some 26), .bin .eql .no (.t 25) (.k (.sc (.int .u8 1))), none⟩,
  ⟨(some 3), .move (.t 26), none⟩]
def m17_r9 : List MI := [
  ⟨(some 10), .move (.t 4), none⟩,
  ⟨(some 11), .bin .add .no (.t 10) (.k (.sc (.int .i64 1))), none⟩,
  ⟨(some 4), .move (.t 11), none⟩]
def m17_l3 : MCode := (.seq (.seq (.ops m17_r4) (.cond (.t 9) .skip (.exit 0))) (.seq (.block 1 (.seq (.ops m17_r5) (.seq (.seq (.ops m17_r6) (.cond (.t 24) (.seq (.ops m17_r7) .ret) .skip)) (.ops m17_r8)))) (.ops m17_r9)))
def m17_r10 : List MI := [
  ⟨(some 27), .move (.t 3), none⟩,
  ⟨(some 28), .un .not (.t 27), none⟩,
  ⟨(some 2), .move (.t 28), none⟩]
def m17_code : MCode := (.seq (.ops m17_r0) (.seq (.ops m17_r1) (.seq (.seq (.ops m17_r2) (.block 0 (.loop m17_l3))) (.seq (.ops m17_r10) .ret))))
def m17 : MFunc := ⟨29, [.tmp 2], m17_code⟩

def m18_r0 : List MI := [
  ⟨(some 0), .move (.k (.sc (.nils))), none⟩]
def m18_r1 : List MI := [
  ⟨(some 1), .call 19 [(.k (.sc (.str [97, 98, 99, 100]))), (.k (.sc (.bool true))), (.k (.sc (.bool false)))], none⟩,
  ⟨(some 2), .call 19 [(.k (.sc (.str [101, 102]))), (.k (.sc (.bool false))), (.k (.sc (.bool false)))], none⟩,
  ⟨(some 3), .call 19 [(.k (.sc (.str [103, 104]))), (.k (.sc (.bool false))), (.k (.sc (.bool false)))], none⟩,
  ⟨(some 4), .buildSlice 39 3 3 [.nils, .bool false, .bool false] [(0, 3, (.t 1)), (3, 3, (.t 2)), (6, 3, (.t 3))], none⟩,
  ⟨(some 0), .move (.t 4), none⟩]
def m18_code : MCode := (.seq (.ops m18_r0) (.seq (.ops m18_r1) .ret))
def m18 : MFunc := ⟨5, [.tmp 0], m18_code⟩

def m19_r0 : List MI := [
  ⟨(some 6), .alloc 39 [.nils, .bool false, .bool false], none⟩]
def m19_r1 : List MI := [
  ⟨(some 10), .move (.t 1), none⟩,
  ⟨(some 11), .move (.t 2), none⟩,
  ⟨(some 12), .build [.nils, .bool false, .bool false] [(1, 1, (.t 10)), (2, 1, (.t 11))], none⟩,
  ⟨(some 7), .alloc 39 [.nils, .bool false, .bool false], none⟩,
  ⟨none, .store 3 (.t 7) (.t 12), none⟩]
def m19_r2 : List MI := [
  ⟨(some 13), .move (.t 0), none⟩,
  ⟨(some 14), .range (.t 13), none⟩]
def m19_r4 : List MI := [
  ⟨(some 15), .next (.t 14), none⟩,
  ⟨(some 16), .extract (.t 15) 0, none⟩]
def m19_r5 : List MI := [
  ⟨(some 17), .extract (.t 15) 2, none⟩,
  ⟨(some 9), .move (.t 17), none⟩]
def m19_r6 : List MI := [
  ⟨(some 18), .move (.t 9), none⟩,
  ⟨(some 19), .bin .gtr .no (.t 18) (.k (.sc (.int .i32 255))), none⟩]
def m19_r7 : List MI := [
  ⟨(some 20), .fieldAddr 0 (.t 7), none⟩,
  ⟨(some 21), .load none (.t 20), none⟩,
  ⟨(some 22), .move (.t 9), none⟩,
  ⟨(some 23), .build [.int .i32 0, .int .u8 0, .int .u16 0, .int .u8 0, .int .u32 0, .int .u8 0, .int .u32 0] [(0, 1, (.t 22)), (1, 1, (.k (.sc (.int .u8 1))))], none⟩,
  ⟨(some 24), .move (.t 9), none⟩,
  ⟨(some 25), .build [.int .i32 0, .int .u8 0, .int .u16 0, .int .u8 0, .int .u32 0, .int .u8 0, .int .u32 0] [(0, 1, (.t 24)), (1, 1, (.k (.sc (.int .u8 2))))], none⟩,
  ⟨(some 26), .buildSlice 48 7 2 [.int .i32 0, .int .u8 0, .int .u16 0, .int .u8 0, .int .u32 0, .int .u8 0, .int .u32 0] [(0, 7, (.t 23)), (7, 7, (.t 25))], none⟩,
  ⟨(some 27), .append 48 7 28 [.int .i32 0, .int .u8 0, .int .u16 0, .int .u8 0, .int .u32 0, .int .u8 0, .int .u32 0] (.t 21) (.t 26), none⟩,
  ⟨(some 28), .fieldAddr 0 (.t 7), none⟩,
  ⟨none, .store 1 (.t 28) (.t 27), none⟩]
def m19_r8 : List MI := [
  ⟨(some 29), .fieldAddr 0 (.t 7), none⟩,
  ⟨(some 30), .load none (.t 29), none⟩,
  ⟨(some 31), .move (.t 9), none⟩,
  ⟨(some 32), .build [.int .i32 0, .int .u8 0, .int .u16 0, .int .u8 0, .int .u32 0, .int .u8 0, .int .u32 0] [(0, 1, (.t 31))], none⟩,
  ⟨(some 33), .buildSlice 48 7 1 [.int .i32 0, .int .u8 0, .int .u16 0, .int .u8 0, .int .u32 0, .int .u8 0, .int .u32 0] [(0, 7, (.t 32))], none⟩,
  ⟨(some 34), .append 48 7 28 [.int .i32 0, .int .u8 0, .int .u16 0, .int .u8 0, .int .u32 0, .int .u8 0, .int .u32 0] (.t 30) (.t 33), none⟩,
  ⟨(some 35), .fieldAddr 0 (.t 7), none⟩,
  ⟨none, .store 1 (.t 35) (.t 34), none⟩]
def m19_l3 : MCode := (.seq (.ops m19_r4) (.seq (.cond (.t 16) .skip (.exit 0)) (.block 1 (.seq (.ops m19_r5) (.seq (.ops m19_r6) (.cond (.t 19) (.ops m19_r7) (.ops m19_r8)))))))
def m19_r9 : List MI := [
  ⟨(some 36), .load (some 3) (.t 7), none⟩,
  ⟨none, .store 3 (.t 6) (.t 36), none⟩]
def m19_code : MCode := (.seq (.ops m19_r0) (.seq (.ops m19_r1) (.seq (.seq (.ops m19_r2) (.block 0 (.loop m19_l3))) (.seq (.ops m19_r9) .ret))))
def m19 : MFunc := ⟨37, [.cell 6 (some 3)], m19_code⟩

def m20_r0 : List MI := [
  ⟨(some 2), .move (.k (.sc (.nils))), none⟩]
def m20_r1 : List MI := [
  ⟨(some 3), .move (.k (.sc (.nils))), none⟩]
def m20_r2 : List MI := [
  ⟨(some 6), .move (.t 0), none⟩,
  ⟨(some 7), .call 15 [(.t 6)], none⟩,
  ⟨(some 8), .lenSlice (.t 7), none⟩,
  ⟨(some 9), .move (.k (.sc (.int .i64 0))), none⟩]
def m20_r4 : List MI := [
  ⟨(some 10), .bin .lss .no (.t 9) (.t 8), none⟩]
def m20_r5 : List MI := [
  ⟨(some 11), .indexSlice 1 (.t 7) (.t 9), none⟩,
  ⟨(some 12), .load none (.t 11), none⟩,
  ⟨(some 5), .move (.t 12), none⟩]
def m20_r6 : List MI := [
  ⟨(some 13), .move (.t 3), none⟩,
  ⟨(some 14), .move (.t 5), none⟩,
  ⟨(some 15), .call 31 [(.t 14)], none⟩,
  ⟨(some 16), .call 30 [(.t 15)], none⟩,
  ⟨(some 17), .buildSlice 9 1 1 [.str []] [(0, 1, (.t 16))], none⟩,
  ⟨(some 18), .append 9 1 16 [.str []] (.t 13) (.t 17), none⟩,
  ⟨(some 3), .move (.t 18), none⟩]
def m20_r7 : List MI := [
  ⟨(some 19), .bin .add .no (.t 9) (.k (.sc (.int .i64 1))), none⟩,
  ⟨(some 9), .move (.t 19), none⟩]
def m20_l3 : MCode := (.seq (.ops m20_r4) (.seq (.cond (.t 10) .skip (.exit 0)) (.seq (.block 1 (.seq (.ops m20_r5) (.ops m20_r6))) (.ops m20_r7))))
def m20_r8 : List MI := [
  ⟨(some 20), .move (.t 3), none⟩,
  ⟨(some 2), .move (.t 20), none⟩]
def m20_code : MCode := (.seq (.ops m20_r0) (.seq (.ops m20_r1) (.seq (.seq (.ops m20_r2) (.block 0 (.loop m20_l3))) (.seq (.ops m20_r8) .ret))))
def m20 : MFunc := ⟨21, [.tmp 2], m20_code⟩

def m21_r0 : List MI := [
  ⟨(some 2), .move (.k (.sc (.bool false))), none⟩]
def m21_r1 : List MI := [
  ⟨(some 3), .move (.t 0), none⟩,
  ⟨(some 4), .bin .geq .no (.t 3) (.k (.sc (.int .i64 2))), none⟩,
  ⟨(some 5), .move (.t 4), none⟩,
  ⟨(some 6), .move (.t 0), (some (5, true))⟩,
  ⟨(some 7), .bin .leq .no (.t 6) (.k (.sc (.int .i64 400))), (some (5, true))⟩,
  ⟨(some 8), .pick (.t 5) (.t 7) (.k (.sc (.bool false))), none⟩,
  ⟨(some 2), .move (.t 8), none⟩]
def m21_code : MCode := (.seq (.ops m21_r0) (.seq (.ops m21_r1) .ret))
def m21 : MFunc := ⟨9, [.tmp 2], m21_code⟩

def m22_r0 : List MI := [
  ⟨(some 1), .box 39 (.t 0), none⟩,
  ⟨(some 2), .move (.k (.sc (.int .i64 0))), none⟩]
def m22_r1 : List MI := [
  ⟨(some 3), .fieldAddr 1 (.t 1), none⟩,
  ⟨(some 4), .load none (.t 3), none⟩,
  ⟨(some 5), .move (.t 4), none⟩,
  ⟨(some 6), .fieldAddr 2 (.t 1), (some (5, true))⟩,
  ⟨(some 7), .load none (.t 6), (some (5, true))⟩,
  ⟨(some 8), .pick (.t 5) (.t 7) (.k (.sc (.bool false))), none⟩]
def m22_r2 : List MI := [
  ⟨(some 9), .fieldAddr 0 (.t 1), none⟩,
  ⟨(some 10), .load none (.t 9), none⟩,
  ⟨(some 11), .lenSlice (.t 10), none⟩,
  ⟨(some 12), .bin .sub .no (.t 11) (.k (.sc (.int .i64 1))), none⟩,
  ⟨(some 13), .max [(.t 12), (.k (.sc (.int .i64 0)))], none⟩,
  ⟨(some 2), .move (.t 13), none⟩]
def m22_r3 : List MI := [
  ⟨(some 14), .fieldAddr 0 (.t 1), none⟩,
  ⟨(some 15), .load none (.t 14), none⟩,
  ⟨(some 16), .lenSlice (.t 15), none⟩,
  ⟨(some 2), .move (.t 16), none⟩]
def m22_code : MCode := (.seq (.ops m22_r0) (.seq (.seq (.ops m22_r1) (.cond (.t 8) (.seq (.ops m22_r2) .ret) .skip)) (.seq (.ops m22_r3) .ret)))
def m22 : MFunc := ⟨17, [.tmp 2], m22_code⟩

def m23_r0 : List MI := [
  ⟨(some 8), .move (.k (.sc (.int .i64 0))), none⟩,
  ⟨(some 9), .move (.k (.sc (.int .i64 0))), none⟩]
def m23_r1 : List MI := [
  ⟨(some 10), .move (.k (.sc (.int .i64 0))), none⟩]
def m23_r2 : List MI := [
  ⟨(some 15), .move (.t 0), none⟩,
  ⟨(some 16), .move (.t 1), none⟩,
  ⟨(some 17), .call 27 [(.t 15), (.t 16)], none⟩,
  ⟨(some 11), .move (.t 17), none⟩]
def m23_r3 : List MI := [
  ⟨(some 18), .move (.t 11), none⟩,
  ⟨(some 19), .lenSlice (.t 18), none⟩,
  ⟨(some 20), .move (.k (.sc (.int .i64 0))), none⟩]
def m23_r5 : List MI := [
  ⟨(some 21), .bin .lss .no (.t 20) (.t 19), none⟩]
def m23_r6 : List MI := [
  ⟨(some 22), .move (.t 20), none⟩,
  ⟨(some 23), .indexSlice 3 (.t 18) (.t 20), none⟩,
  ⟨(some 24), .load (some 3) (.t 23), none⟩,
  ⟨(some 13), .alloc 39 [.nils, .bool false, .bool false], none⟩,
  ⟨(some 12), .move (.t 22), none⟩,
  ⟨none, .store 3 (.t 13) (.t 24), none⟩]
def m23_r7 : List MI := [
  ⟨(some 25), .load (some 3) (.t 13), none⟩,
  ⟨(some 26), .call 22 [(.t 25)], none⟩,
  ⟨(some 14), .move (.t 26), none⟩]
def m23_r8 : List MI := [
  ⟨(some 27), .move (.t 12), none⟩,
  ⟨(some 28), .move (.t 11), none⟩,
  ⟨(some 29), .lenSlice (.t 28), none⟩,
  ⟨(some 30), .bin .sub .no (.t 29) (.k (.sc (.int .i64 1))), none⟩,
  ⟨(some 31), .bin .eql .no (.t 27) (.t 30), none⟩]
def m23_r9 : List MI := [
  ⟨(some 32), .move (.t 0), none⟩,
  ⟨(some 33), .lenSlice (.t 32), none⟩,
  ⟨(some 34), .move (.t 10), none⟩,
  ⟨(some 35), .bin .sub .no (.t 33) (.t 34), none⟩,
  ⟨(some 14), .move (.t 35), none⟩]
def m23_r10 : List MI := [
  ⟨(some 36), .move (.t 2), none⟩,
  ⟨(some 37), .move (.t 10), none⟩,
  ⟨(some 38), .move (.t 14), none⟩,
  ⟨(some 39), .bin .add .no (.t 37) (.t 38), none⟩,
  ⟨(some 40), .bin .lss .no (.t 36) (.t 39), none⟩]
def m23_r11 : List MI := [
  ⟨(some 41), .move (.t 2), none⟩,
  ⟨(some 42), .move (.t 10), none⟩,
  ⟨(some 43), .bin .sub .no (.t 41) (.t 42), none⟩,
  ⟨(some 44), .move (.t 3), none⟩,
  ⟨(some 45), .move (.t 12), none⟩,
  ⟨(some 46), .bin .add .no (.t 44) (.t 45), none⟩,
  ⟨(some 8), .move (.t 43), none⟩,
  ⟨(some 9), .move (.t 46), none⟩]
def m23_r12 : List MI := [
  ⟨(some 47), .move (.t 12), none⟩,
  ⟨(some 48), .move (.t 11), none⟩,
  ⟨(some 49), .lenSlice (.t 48), none⟩,
  ⟨(some 50), .bin .sub .no (.t 49) (.k (.sc (.int .i64 1))), none⟩,
  ⟨(some 51), .bin .eql .no (.t 47) (.t 50), none⟩]
def m23_r13 : List MI := [
  ⟨(some 52), .move (.t 14), none⟩,
  ⟨(some 53), .move (.t 2), none⟩,
  ⟨(some 54), .move (.t 0), none⟩,
  ⟨(some 55), .lenSlice (.t 54), none⟩,
  ⟨(some 56), .bin .sub .no (.t 53) (.t 55), none⟩,
  ⟨(some 57), .move (.t 1), none⟩,
  ⟨(some 58), .min [(.t 56), (.t 57)], none⟩,
  ⟨(some 59), .bin .add .no (.t 52) (.t 58), none⟩,
  ⟨(some 60), .move (.t 1), none⟩,
  ⟨(some 61), .bin .sub .no (.t 60) (.k (.sc (.int .i64 1))), none⟩,
  ⟨(some 62), .min [(.t 59), (.t 61)], none⟩,
  ⟨(some 63), .move (.t 3), none⟩,
  ⟨(some 64), .move (.t 12), none⟩,
  ⟨(some 65), .bin .add .no (.t 63) (.t 64), none⟩,
  ⟨(some 8), .move (.t 62), none⟩,
  ⟨(some 9), .move (.t 65), none⟩]
def m23_r14 : List MI := [
  ⟨(some 66), .move (.t 10), none⟩,
  ⟨(some 67), .move (.t 14), none⟩,
  ⟨(some 68), .bin .add .no (.t 66) (.t 67), none⟩,
  ⟨(some 10), .move (.t 68), none⟩]
def m23_r15 : List MI := [
  ⟨(some 69), .bin .add .no (.t 20) (.k (.sc (.int .i64 1))), none⟩,
  ⟨(some 20), .move (.t 69), none⟩]
def m23_l4 : MCode := (.seq (.ops m23_r5) (.seq (.cond (.t 21) .skip (.exit 0)) (.seq (.block 1 (.seq (.ops m23_r6) (.seq (.ops m23_r7) (.seq (.seq (.ops m23_r8) (.cond (.t 31) (.ops m23_r9) .skip)) (.seq (.seq (.ops m23_r10) (.cond (.t 40) (.seq (.ops m23_r11) .ret) .skip)) (.seq (.seq (.ops m23_r12) (.cond (.t 51) (.seq (.ops m23_r13) .ret) .skip)) (.ops m23_r14))))))) (.ops m23_r15))))
def m23_r16 : List MI := [
  ⟨(some 70), .move (.t 3), none⟩,
  ⟨(some 8), .move (.k (.sc (.int .i64 0))), none⟩,
  ⟨(some 9), .move (.t 70), none⟩]
def m23_code : MCode := (.seq (.ops m23_r0) (.seq (.ops m23_r1) (.seq (.ops m23_r2) (.seq (.seq (.ops m23_r3) (.block 0 (.loop m23_l4))) (.seq (.ops m23_r16) .ret)))))
def m23 : MFunc := ⟨71, [.tmp 8, .tmp 9], m23_code⟩

def m24_r0 : List MI := [
  ⟨(some 2), .move (.k (.sc (.nils))), none⟩,
  ⟨(some 3), .move (.k (.sc (.nils))), none⟩]
def m24_r1 : List MI := [
  ⟨(some 4), .move (.k (.sc (.nils))), none⟩]
def m24_r2 : List MI := [
  ⟨(some 5), .move (.k (.sc (.nils))), none⟩]
def m24_r3 : List MI := [
  ⟨(some 6), .move (.k (.sc (.int .i64 0))), none⟩]
def m24_r5 : List MI := [
  ⟨(some 8), .move (.t 6), none⟩,
  ⟨(some 9), .move (.t 0), none⟩,
  ⟨(some 10), .lenSlice (.t 9), none⟩,
  ⟨(some 11), .bin .lss .no (.t 8) (.t 10), none⟩]
def m24_r6 : List MI := [
  ⟨(some 7), .move (.k (.sc (.nils))), none⟩]
def m24_r7 : List MI := [
  ⟨(some 14), .move (.t 5), none⟩,
  ⟨(some 15), .move (.t 6), none⟩,
  ⟨(some 16), .buildSlice 3 1 1 [.int .i64 0] [(0, 1, (.t 15))], none⟩,
  ⟨(some 17), .append 3 1 8 [.int .i64 0] (.t 14) (.t 16), none⟩,
  ⟨(some 5), .move (.t 17), none⟩]
def m24_r9 : List DI := [
  ⟨⟨(some 18), .move (.t 7), none⟩, 0, [], [10]⟩,
  ⟨⟨(some 19), .move (.t 0), none⟩, 0, [], [10]⟩,
  ⟨⟨(some 20), .move (.t 6), none⟩, 0, [], [10]⟩,
  ⟨⟨(some 21), .indexSlice 3 (.t 19) (.t 20), none⟩, 0, [], [10]⟩,
  ⟨⟨(some 22), .fieldAddr 0 (.t 21), none⟩, 0, [], [10]⟩,
  ⟨⟨(some 23), .load none (.t 22), none⟩, 1, [], [10]⟩,
  ⟨⟨(some 24), .move (.t 0), none⟩, 0, [], []⟩,
  ⟨⟨(some 25), .move (.t 6), none⟩, 0, [], []⟩,
  ⟨⟨(some 26), .indexSlice 3 (.t 24) (.t 25), none⟩, 0, [], []⟩,
  ⟨⟨(some 27), .load (some 3) (.t 26), none⟩, 1, [], []⟩,
  ⟨⟨(some 28), .call 26 [(.t 27)], none⟩, 2, [], []⟩,
  ⟨⟨(some 29), .slice 7 (.t 23) none (some (.t 28)), none⟩, 0, [], []⟩,
  ⟨⟨(some 30), .append 48 7 28 [.int .i32 0, .int .u8 0, .int .u16 0, .int .u8 0, .int .u32 0, .int .u8 0, .int .u32 0] (.t 18) (.t 29), none⟩, 2, [], []⟩,
  ⟨⟨(some 7), .move (.t 30), none⟩, 0, [], []⟩]
def m24_r10 : List MI := [
  ⟨(some 31), .move (.t 0), none⟩,
  ⟨(some 32), .move (.t 6), none⟩,
  ⟨(some 33), .indexSlice 3 (.t 31) (.t 32), none⟩,
  ⟨(some 34), .fieldAddr 1 (.t 33), none⟩,
  ⟨(some 35), .load none (.t 34), none⟩,
  ⟨(some 36), .un .not (.t 35), none⟩,
  ⟨(some 37), .move (.t 36), none⟩,
  ⟨(some 38), .move (.t 6), (some (37, false))⟩,
  ⟨(some 39), .move (.t 0), (some (37, false))⟩,
  ⟨(some 40), .lenSlice (.t 39), (some (37, false))⟩,
  ⟨(some 41), .bin .sub .no (.t 40) (.k (.sc (.int .i64 1))), (some (37, false))⟩,
  ⟨(some 42), .bin .eql .no (.t 38) (.t 41), (some (37, false))⟩,
  ⟨(some 43), .pick (.t 37) (.k (.sc (.bool true))) (.t 42), none⟩]
def m24_r11 : List MI := [
  ⟨(some 44), .move (.t 6), none⟩,
  ⟨(some 45), .bin .add .no (.t 44) (.k (.sc (.int .i64 1))), none⟩,
  ⟨(some 6), .move (.t 45), none⟩]
def m24_l8 : MCode := (.block 3 (.seq (.draw m24_r9) (.seq (.seq (.ops m24_r10) (.cond (.t 43) (.exit 2) .skip)) (.ops m24_r11))))
def m24_r13 : List MI := [
  ⟨(some 46), .move (.t 7), none⟩,
  ⟨(some 47), .lenSlice (.t 46), none⟩,
  ⟨(some 48), .bin .gtr .no (.t 47) (.k (.sc (.int .i64 0))), none⟩,
  ⟨(some 49), .move (.t 48), none⟩,
  ⟨(some 50), .move (.t 7), (some (49, true))⟩,
  ⟨(some 51), .move (.t 7), (some (49, true))⟩,
  ⟨(some 52), .lenSlice (.t 51), (some (49, true))⟩,
  ⟨(some 53), .bin .sub .no (.t 52) (.k (.sc (.int .i64 1))), (some (49, true))⟩,
  ⟨(some 54), .indexSlice 7 (.t 50) (.t 53), (some (49, true))⟩,
  ⟨(some 55), .load (some 7) (.t 54), (some (49, true))⟩,
  ⟨(some 56), .call 32 [(.t 55)], (some (49, true))⟩,
  ⟨(some 57), .pick (.t 49) (.t 56) (.k (.sc (.bool false))), none⟩]
def m24_r14 : List MI := [
  ⟨(some 58), .move (.t 7), none⟩,
  ⟨(some 59), .move (.t 7), none⟩,
  ⟨(some 60), .lenSlice (.t 59), none⟩,
  ⟨(some 61), .bin .sub .no (.t 60) (.k (.sc (.int .i64 1))), none⟩,
  ⟨(some 62), .slice 7 (.t 58) none (some (.t 61)), none⟩,
  ⟨(some 7), .move (.t 62), none⟩]
def m24_l12 : MCode := (.seq (.seq (.ops m24_r13) (.cond (.t 57) .skip (.exit 4))) (.block 5 (.ops m24_r14)))
def m24_r15 : List MI := [
  ⟨(some 63), .move (.t 4), none⟩,
  ⟨(some 64), .move (.t 7), none⟩,
  ⟨(some 65), .buildSlice 36 1 1 [.nils] [(0, 1, (.t 64))], none⟩,
  ⟨(some 66), .append 36 1 24 [.nils] (.t 63) (.t 65), none⟩,
  ⟨(some 4), .move (.t 66), none⟩]
def m24_r16 : List MI := [
  ⟨(some 12), .move (.t 6), none⟩,
  ⟨(some 13), .bin .add .no (.t 12) (.k (.sc (.int .i64 1))), none⟩,
  ⟨(some 6), .move (.t 13), none⟩]
def m24_l4 : MCode := (.seq (.seq (.ops m24_r5) (.cond (.t 11) .skip (.exit 0))) (.seq (.block 1 (.seq (.ops m24_r6) (.seq (.ops m24_r7) (.seq (.block 2 (.loop m24_l8)) (.seq (.block 4 (.loop m24_l12)) (.ops m24_r15)))))) (.ops m24_r16)))
def m24_r17 : List MI := [
  ⟨(some 67), .move (.t 4), none⟩,
  ⟨(some 68), .move (.t 5), none⟩,
  ⟨(some 2), .move (.t 67), none⟩,
  ⟨(some 3), .move (.t 68), none⟩]
def m24_code : MCode := (.seq (.ops m24_r0) (.seq (.ops m24_r1) (.seq (.ops m24_r2) (.seq (.seq (.ops m24_r3) (.block 0 (.loop m24_l4))) (.seq (.ops m24_r17) .ret)))))
def m24 : MFunc := ⟨69, [.tmp 2, .tmp 3], m24_code⟩

def m25_r0 : List MI := [
  ⟨(some 4), .move (.k (.sc (.nils))), none⟩,
  ⟨(some 5), .move (.k (.sc (.nils))), none⟩]
def m25_r1 : List MI := [
  ⟨(some 12), .build [.nils, .bool false, .bool false] [], none⟩,
  ⟨(some 13), .buildSlice 65 3 1 [.nils, .bool false, .bool false] [(0, 3, (.t 12))], none⟩,
  ⟨(some 6), .move (.t 13), none⟩]
def m25_r2 : List MI := [
  ⟨(some 7), .move (.k (.sc (.nils))), none⟩]
def m25_r3 : List MI := [
  ⟨(some 8), .move (.k (.sc (.int .i64 0))), none⟩]
def m25_r5 : List MI := [
  ⟨(some 14), .move (.t 8), none⟩,
  ⟨(some 15), .move (.t 0), none⟩,
  ⟨(some 16), .lenSlice (.t 15), none⟩,
  ⟨(some 17), .bin .lss .no (.t 14) (.t 16), none⟩]
def m25_r6 : List MI := [
  ⟨(some 20), .move (.t 6), none⟩,
  ⟨(some 21), .lenSlice (.t 20), none⟩,
  ⟨(some 22), .bin .sub .no (.t 21) (.k (.sc (.int .i64 1))), none⟩,
  ⟨(some 9), .move (.t 22), none⟩]
def m25_r7 : List MI := [
  ⟨(some 23), .move (.t 6), none⟩,
  ⟨(some 24), .move (.t 9), none⟩,
  ⟨(some 25), .indexSlice 3 (.t 23) (.t 24), none⟩,
  ⟨(some 26), .fieldAddr 0 (.t 25), none⟩,
  ⟨(some 27), .load none (.t 26), none⟩,
  ⟨(some 28), .lenSlice (.t 27), none⟩,
  ⟨(some 10), .move (.t 28), none⟩]
def m25_r8 : List MI := [
  ⟨(some 29), .move (.t 10), none⟩,
  ⟨(some 30), .move (.t 1), none⟩,
  ⟨(some 31), .bin .sub .no (.t 30) (.k (.sc (.int .i64 1))), none⟩,
  ⟨(some 32), .bin .eql .no (.t 29) (.t 31), none⟩,
  ⟨(some 33), .move (.t 32), none⟩,
  ⟨(some 34), .move (.t 0), (some (33, true))⟩,
  ⟨(some 35), .move (.t 8), (some (33, true))⟩,
  ⟨(some 36), .indexSlice 7 (.t 34) (.t 35), (some (33, true))⟩,
  ⟨(some 37), .fieldAddr 1 (.t 36), (some (33, true))⟩,
  ⟨(some 38), .load none (.t 37), (some (33, true))⟩,
  ⟨(some 39), .bin .eql .no (.t 38) (.k (.sc (.int .u8 1))), (some (33, true))⟩,
  ⟨(some 40), .pick (.t 33) (.t 39) (.k (.sc (.bool false))), none⟩]
def m25_r9 : List MI := [
  ⟨(some 41), .move (.t 6), none⟩,
  ⟨(some 42), .move (.t 9), none⟩,
  ⟨(some 43), .move (.t 6), none⟩,
  ⟨(some 44), .move (.t 9), none⟩,
  ⟨(some 45), .indexSlice 3 (.t 43) (.t 44), none⟩,
  ⟨(some 46), .fieldAddr 0 (.t 45), none⟩,
  ⟨(some 47), .load none (.t 46), none⟩,
  ⟨(some 48), .build [.int .i32 0, .int .u8 0, .int .u16 0, .int .u8 0, .int .u32 0, .int .u8 0, .int .u32 0] [(0, 1, (.k (.sc (.int .i32 32))))], none⟩,
  ⟨(some 49), .buildSlice 48 7 1 [.int .i32 0, .int .u8 0, .int .u16 0, .int .u8 0, .int .u32 0, .int .u8 0, .int .u32 0] [(0, 7, (.t 48))], none⟩,
  ⟨(some 50), .append 48 7 28 [.int .i32 0, .int .u8 0, .int .u16 0, .int .u8 0, .int .u32 0, .int .u8 0, .int .u32 0] (.t 47) (.t 49), none⟩,
  ⟨(some 51), .indexSlice 3 (.t 41) (.t 42), none⟩,
  ⟨(some 52), .fieldAddr 0 (.t 51), none⟩,
  ⟨none, .store 1 (.t 52) (.t 50), none⟩]
def m25_r10 : List MI := [
  ⟨(some 53), .move (.t 6), none⟩,
  ⟨(some 54), .move (.t 9), none⟩,
  ⟨(some 55), .indexSlice 3 (.t 53) (.t 54), none⟩,
  ⟨(some 56), .fieldAddr 2 (.t 55), none⟩,
  ⟨none, .store 1 (.t 56) (.k (.sc (.bool true))), none⟩]
def m25_r11 : List MI := [
  ⟨(some 57), .move (.t 1), none⟩,
  ⟨(some 10), .move (.t 57), none⟩]
def m25_r12 : List MI := [
  ⟨(some 58), .move (.t 10), none⟩,
  ⟨(some 59), .move (.t 1), none⟩,
  ⟨(some 60), .bin .eql .no (.t 58) (.t 59), none⟩]
def m25_r13 : List MI := [
  ⟨(some 61), .move (.t 6), none⟩,
  ⟨(some 62), .move (.t 9), none⟩,
  ⟨(some 63), .indexSlice 3 (.t 61) (.t 62), none⟩,
  ⟨(some 64), .fieldAddr 1 (.t 63), none⟩,
  ⟨none, .store 1 (.t 64) (.k (.sc (.bool true))), none⟩]
def m25_r14 : List MI := [
  ⟨(some 65), .move (.t 6), none⟩,
  ⟨(some 66), .build [.nils, .bool false, .bool false] [], none⟩,
  ⟨(some 67), .buildSlice 65 3 1 [.nils, .bool false, .bool false] [(0, 3, (.t 66))], none⟩,
  ⟨(some 68), .append 65 3 32 [.nils, .bool false, .bool false] (.t 65) (.t 67), none⟩,
  ⟨(some 6), .move (.t 68), none⟩]
def m25_r15 : List MI := [
  ⟨(some 69), .move (.t 9), none⟩,
  ⟨(some 70), .bin .add .no (.t 69) (.k (.sc (.int .i64 1))), none⟩,
  ⟨(some 9), .move (.t 70), none⟩]
def m25_r16 : List MI := [
  ⟨(some 10), .move (.k (.sc (.int .i64 0))), none⟩]
def m25_r17 : List DI := [
  ⟨⟨(some 71), .move (.t 6), none⟩, 0, [], [11, 12]⟩,
  ⟨⟨(some 72), .move (.t 9), none⟩, 0, [], [11, 12]⟩,
  ⟨⟨(some 73), .move (.t 6), none⟩, 0, [], [11]⟩,
  ⟨⟨(some 74), .move (.t 9), none⟩, 0, [], [11]⟩,
  ⟨⟨(some 75), .indexSlice 3 (.t 73) (.t 74), none⟩, 0, [], [11]⟩,
  ⟨⟨(some 76), .fieldAddr 0 (.t 75), none⟩, 0, [], [11]⟩,
  ⟨⟨(some 77), .load none (.t 76), none⟩, 1, [], [11]⟩,
  ⟨⟨(some 78), .move (.t 0), none⟩, 0, [], []⟩,
  ⟨⟨(some 79), .move (.t 8), none⟩, 0, [], []⟩,
  ⟨⟨(some 80), .indexSlice 7 (.t 78) (.t 79), none⟩, 0, [], []⟩,
  ⟨⟨(some 81), .load (some 7) (.t 80), none⟩, 1, [], []⟩,
  ⟨⟨(some 82), .buildSlice 48 7 1 [.int .i32 0, .int .u8 0, .int .u16 0, .int .u8 0, .int .u32 0, .int .u8 0, .int .u32 0] [(0, 7, (.t 81))], none⟩, 2, [], []⟩,
  ⟨⟨(some 83), .append 48 7 28 [.int .i32 0, .int .u8 0, .int .u16 0, .int .u8 0, .int .u32 0, .int .u8 0, .int .u32 0] (.t 77) (.t 82), none⟩, 2, [], []⟩,
  ⟨⟨(some 84), .indexSlice 3 (.t 71) (.t 72), none⟩, 0, [], []⟩,
  ⟨⟨(some 85), .fieldAddr 0 (.t 84), none⟩, 0, [], []⟩,
  ⟨⟨none, .store 1 (.t 85) (.t 83), none⟩, 2, [], []⟩]
def m25_r18 : List MI := [
  ⟨(some 86), .move (.t 7), none⟩,
  ⟨(some 87), .move (.t 10), none⟩,
  ⟨(some 88), .move (.t 9), none⟩,
  ⟨(some 89), .build [.int .i64 0, .int .i64 0] [(0, 1, (.t 87)), (1, 1, (.t 88))], none⟩,
  ⟨(some 90), .buildSlice 67 2 1 [.int .i64 0, .int .i64 0] [(0, 2, (.t 89))], none⟩,
  ⟨(some 91), .append 67 2 16 [.int .i64 0, .int .i64 0] (.t 86) (.t 90), none⟩,
  ⟨(some 7), .move (.t 91), none⟩]
def m25_r19 : List MI := [
  ⟨(some 18), .move (.t 8), none⟩,
  ⟨(some 19), .bin .add .no (.t 18) (.k (.sc (.int .i64 1))), none⟩,
  ⟨(some 8), .move (.t 19), none⟩]
def m25_l4 : MCode := (.seq (.seq (.ops m25_r5) (.cond (.t 17) .skip (.exit 0))) (.seq (.block 1 (.seq (.ops m25_r6) (.seq (.ops m25_r7) (.seq (.seq (.ops m25_r8) (.cond (.t 40) (.seq (.ops m25_r9) (.seq (.ops m25_r10) (.ops m25_r11))) .skip)) (.seq (.seq (.ops m25_r12) (.cond (.t 60) (.seq (.ops m25_r13) (.seq (.ops m25_r14) (.seq (.ops m25_r15) (.ops m25_r16)))) .skip)) (.seq (.draw m25_r17) (.ops m25_r18))))))) (.ops m25_r19)))
def m25_r20 : List MI := [
  ⟨(some 92), .move (.t 6), none⟩,
  ⟨(some 93), .lenSlice (.t 92), none⟩,
  ⟨(some 94), .bin .sub .no (.t 93) (.k (.sc (.int .i64 1))), none⟩,
  ⟨(some 11), .move (.t 94), none⟩]
def m25_r21 : List DI := [
  ⟨⟨(some 95), .move (.t 6), none⟩, 0, [], [16, 17]⟩,
  ⟨⟨(some 96), .move (.t 11), none⟩, 0, [], [16, 17]⟩,
  ⟨⟨(some 97), .move (.t 6), none⟩, 0, [], [16]⟩,
  ⟨⟨(some 98), .move (.t 11), none⟩, 0, [], [16]⟩,
  ⟨⟨(some 99), .indexSlice 3 (.t 97) (.t 98), none⟩, 0, [], [16]⟩,
  ⟨⟨(some 100), .fieldAddr 0 (.t 99), none⟩, 0, [], [16]⟩,
  ⟨⟨(some 101), .load none (.t 100), none⟩, 1, [], [16]⟩,
  ⟨⟨(some 102), .move (.t 1), none⟩, 0, [], []⟩,
  ⟨⟨(some 103), .move (.t 6), none⟩, 0, [], []⟩,
  ⟨⟨(some 104), .move (.t 11), none⟩, 0, [], []⟩,
  ⟨⟨(some 105), .indexSlice 3 (.t 103) (.t 104), none⟩, 0, [], []⟩,
  ⟨⟨(some 106), .fieldAddr 0 (.t 105), none⟩, 0, [], []⟩,
  ⟨⟨(some 107), .load none (.t 106), none⟩, 1, [], []⟩,
  ⟨⟨(some 108), .lenSlice (.t 107), none⟩, 0, [], []⟩,
  ⟨⟨(some 109), .bin .sub .no (.t 102) (.t 108), none⟩, 0, [], []⟩,
  ⟨⟨(some 110), .build [.int .u16 0, .int .u8 0, .int .u32 0, .int .u8 0, .int .u32 0] [], none⟩, 0, [], []⟩,
  ⟨⟨(some 111), .call 33 [(.t 109), (.t 110)], none⟩, 2, [], []⟩,
  ⟨⟨(some 112), .append 48 7 28 [.int .i32 0, .int .u8 0, .int .u16 0, .int .u8 0, .int .u32 0, .int .u8 0, .int .u32 0] (.t 101) (.t 111), none⟩, 2, [], []⟩,
  ⟨⟨(some 113), .indexSlice 3 (.t 95) (.t 96), none⟩, 0, [], []⟩,
  ⟨⟨(some 114), .fieldAddr 0 (.t 113), none⟩, 0, [], []⟩,
  ⟨⟨none, .store 1 (.t 114) (.t 112), none⟩, 2, [], []⟩]
def m25_r22 : List MI := [
  ⟨(some 115), .move (.t 6), none⟩,
  ⟨(some 116), .move (.t 7), none⟩,
  ⟨(some 4), .move (.t 115), none⟩,
  ⟨(some 5), .move (.t 116), none⟩]
def m25_code : MCode := (.seq (.ops m25_r0) (.seq (.ops m25_r1) (.seq (.ops m25_r2) (.seq (.seq (.ops m25_r3) (.block 0 (.loop m25_l4))) (.seq (.ops m25_r20) (.seq (.draw m25_r21) (.seq (.ops m25_r22) .ret)))))))
def m25 : MFunc := ⟨117, [.tmp 4, .tmp 5], m25_code⟩

def m26_r0 : List MI := [
  ⟨(some 1), .box 65 (.t 0), none⟩,
  ⟨(some 2), .move (.k (.sc (.int .i64 0))), none⟩]
def m26_r1 : List MI := [
  ⟨(some 4), .fieldAddr 0 (.t 1), none⟩,
  ⟨(some 5), .load none (.t 4), none⟩,
  ⟨(some 6), .lenSlice (.t 5), none⟩,
  ⟨(some 3), .move (.t 6), none⟩]
def m26_r2 : List MI := [
  ⟨(some 7), .fieldAddr 1 (.t 1), none⟩,
  ⟨(some 8), .load none (.t 7), none⟩,
  ⟨(some 9), .move (.t 8), none⟩,
  ⟨(some 10), .fieldAddr 2 (.t 1), (some (9, true))⟩,
  ⟨(some 11), .load none (.t 10), (some (9, true))⟩,
  ⟨(some 12), .pick (.t 9) (.t 11) (.k (.sc (.bool false))), none⟩,
  ⟨(some 13), .move (.t 12), none⟩,
  ⟨(some 14), .move (.t 3), (some (13, true))⟩,
  ⟨(some 15), .bin .gtr .no (.t 14) (.k (.sc (.int .i64 0))), (some (13, true))⟩,
  ⟨(some 16), .pick (.t 13) (.t 15) (.k (.sc (.bool false))), none⟩]
def m26_r3 : List MI := [
  ⟨(some 17), .move (.t 3), none⟩,
  ⟨(some 18), .bin .sub .no (.t 17) (.k (.sc (.int .i64 1))), none⟩,
  ⟨(some 3), .move (.t 18), none⟩]
def m26_r4 : List MI := [
  ⟨(some 19), .move (.t 3), none⟩,
  ⟨(some 2), .move (.t 19), none⟩]
def m26_code : MCode := (.seq (.ops m26_r0) (.seq (.ops m26_r1) (.seq (.seq (.ops m26_r2) (.cond (.t 16) (.ops m26_r3) .skip)) (.seq (.ops m26_r4) .ret))))
def m26 : MFunc := ⟨20, [.tmp 2], m26_code⟩

def m27_r0 : List MI := [
  ⟨(some 4), .move (.k (.sc (.nils))), none⟩]
def m27_r1 : List MI := [
  ⟨(some 5), .move (.k (.sc (.nils))), none⟩]
def m27_r2 : List MI := [
  ⟨(some 6), .alloc 39 [.nils, .bool false, .bool false], none⟩]
def m27_r3 : List MI := [
  ⟨(some 10), .move (.t 0), none⟩,
  ⟨(some 11), .lenSlice (.t 10), none⟩,
  ⟨(some 12), .move (.k (.sc (.int .i64 0))), none⟩]
def m27_r5 : List MI := [
  ⟨(some 13), .bin .lss .no (.t 12) (.t 11), none⟩]
def m27_r6 : List MI := [
  ⟨(some 14), .indexSlice 7 (.t 10) (.t 12), none⟩,
  ⟨(some 15), .load (some 7) (.t 14), none⟩,
  ⟨(some 8), .alloc 48 [.int .i32 0, .int .u8 0, .int .u16 0, .int .u8 0, .int .u32 0, .int .u8 0, .int .u32 0], none⟩,
  ⟨none, .store 7 (.t 8) (.t 15), none⟩]
def m27_r7 : List MI := [
  ⟨(some 16), .fieldAddr 1 (.t 8), none⟩,
  ⟨(some 17), .load none (.t 16), none⟩,
  ⟨(some 18), .bin .eql .no (.t 17) (.k (.sc (.int .u8 1))), none⟩,
  ⟨(some 19), .move (.t 18), none⟩,
  ⟨(some 20), .fieldAddr 0 (.t 6), (some (19, true))⟩,
  ⟨(some 21), .load none (.t 20), (some (19, true))⟩,
  ⟨(some 22), .lenSlice (.t 21), (some (19, true))⟩,
  ⟨(some 23), .move (.t 1), (some (19, true))⟩,
  ⟨(some 24), .bin .sub .no (.t 23) (.k (.sc (.int .i64 1))), (some (19, true))⟩,
  ⟨(some 25), .bin .eql .no (.t 22) (.t 24), (some (19, true))⟩,
  ⟨(some 26), .pick (.t 19) (.t 25) (.k (.sc (.bool false))), none⟩,
  ⟨(some 9), .move (.t 26), none⟩]
def m27_r8 : List MI := [
  ⟨(some 27), .move (.t 9), none⟩]
def m27_r9 : List DI := [
  ⟨⟨(some 28), .fieldAddr 0 (.t 6), none⟩, 0, [], [2, 3]⟩,
  ⟨⟨(some 29), .load none (.t 28), none⟩, 1, [], [2, 3]⟩,
  ⟨⟨(some 30), .call 29 [], none⟩, 2, [], []⟩,
  ⟨⟨(some 31), .buildSlice 48 7 1 [.int .i32 0, .int .u8 0, .int .u16 0, .int .u8 0, .int .u32 0, .int .u8 0, .int .u32 0] [(0, 7, (.t 30))], none⟩, 2, [], []⟩,
  ⟨⟨(some 32), .append 48 7 28 [.int .i32 0, .int .u8 0, .int .u16 0, .int .u8 0, .int .u32 0, .int .u8 0, .int .u32 0] (.t 29) (.t 31), none⟩, 2, [], []⟩,
  ⟨⟨(some 33), .fieldAddr 0 (.t 6), none⟩, 0, [], []⟩,
  ⟨⟨none, .store 1 (.t 33) (.t 32), none⟩, 2, [], []⟩]
def m27_r10 : List MI := [
  ⟨(some 34), .fieldAddr 0 (.t 6), none⟩,
  ⟨(some 35), .load none (.t 34), none⟩,
  ⟨(some 36), .lenSlice (.t 35), none⟩,
  ⟨(some 37), .move (.t 1), none⟩,
  ⟨(some 38), .bin .eql .no (.t 36) (.t 37), none⟩]
def m27_r11 : List MI := [
  ⟨(some 39), .move (.t 9), none⟩,
  ⟨(some 40), .fieldAddr 1 (.t 6), none⟩,
  ⟨none, .store 1 (.t 40) (.k (.sc (.bool true))), none⟩,
  ⟨(some 41), .fieldAddr 2 (.t 6), none⟩,
  ⟨none, .store 1 (.t 41) (.t 39), none⟩]
def m27_r12 : List MI := [
  ⟨(some 42), .move (.t 5), none⟩,
  ⟨(some 43), .load (some 3) (.t 6), none⟩,
  ⟨(some 44), .buildSlice 39 3 1 [.nils, .bool false, .bool false] [(0, 3, (.t 43))], none⟩,
  ⟨(some 45), .append 39 3 32 [.nils, .bool false, .bool false] (.t 42) (.t 44), none⟩,
  ⟨(some 5), .move (.t 45), none⟩]
def m27_r13 : List MI := [
  ⟨(some 46), .build [.nils, .bool false, .bool false] [], none⟩,
  ⟨none, .store 3 (.t 6) (.t 46), none⟩]
def m27_r14 : List MI := [
  ⟨(some 47), .fieldAddr 0 (.t 6), none⟩,
  ⟨(some 48), .load none (.t 47), none⟩,
  ⟨(some 49), .load (some 7) (.t 8), none⟩,
  ⟨(some 50), .buildSlice 48 7 1 [.int .i32 0, .int .u8 0, .int .u16 0, .int .u8 0, .int .u32 0, .int .u8 0, .int .u32 0] [(0, 7, (.t 49))], none⟩,
  ⟨(some 51), .append 48 7 28 [.int .i32 0, .int .u8 0, .int .u16 0, .int .u8 0, .int .u32 0, .int .u8 0, .int .u32 0] (.t 48) (.t 50), none⟩,
  ⟨(some 52), .fieldAddr 0 (.t 6), none⟩,
  ⟨none, .store 1 (.t 52) (.t 51), none⟩]
def m27_r15 : List MI := [
  ⟨(some 53), .bin .add .no (.t 12) (.k (.sc (.int .i64 1))), none⟩,
  ⟨(some 12), .move (.t 53), none⟩]
def m27_l4 : MCode := (.seq (.ops m27_r5) (.seq (.cond (.t 13) .skip (.exit 0)) (.seq (.block 1 (.seq (.ops m27_r6) (.seq (.ops m27_r7) (.seq (.seq (.ops m27_r8) (.cond (.t 27) (.draw m27_r9) .skip)) (.seq (.seq (.ops m27_r10) (.cond (.t 38) (.seq (.ops m27_r11) (.seq (.ops m27_r12) (.ops m27_r13))) .skip)) (.ops m27_r14)))))) (.ops m27_r15))))
def m27_r17 : List MI := [
  ⟨(some 54), .fieldAddr 0 (.t 6), none⟩,
  ⟨(some 55), .load none (.t 54), none⟩,
  ⟨(some 56), .lenSlice (.t 55), none⟩,
  ⟨(some 57), .move (.t 1), none⟩,
  ⟨(some 58), .bin .lss .no (.t 56) (.t 57), none⟩]
def m27_r18 : List DI := [
  ⟨⟨(some 59), .fieldAddr 0 (.t 6), none⟩, 0, [], [2, 3]⟩,
  ⟨⟨(some 60), .load none (.t 59), none⟩, 1, [], [2, 3]⟩,
  ⟨⟨(some 61), .call 29 [], none⟩, 2, [], []⟩,
  ⟨⟨(some 62), .buildSlice 48 7 1 [.int .i32 0, .int .u8 0, .int .u16 0, .int .u8 0, .int .u32 0, .int .u8 0, .int .u32 0] [(0, 7, (.t 61))], none⟩, 2, [], []⟩,
  ⟨⟨(some 63), .append 48 7 28 [.int .i32 0, .int .u8 0, .int .u16 0, .int .u8 0, .int .u32 0, .int .u8 0, .int .u32 0] (.t 60) (.t 62), none⟩, 2, [], []⟩,
  ⟨⟨(some 64), .fieldAddr 0 (.t 6), none⟩, 0, [], []⟩,
  ⟨⟨none, .store 1 (.t 64) (.t 63), none⟩, 2, [], []⟩]
def m27_l16 : MCode := (.seq (.seq (.ops m27_r17) (.cond (.t 58) .skip (.exit 2))) (.block 3 (.draw m27_r18)))
def m27_r19 : List MI := [
  ⟨(some 65), .move (.t 5), none⟩,
  ⟨(some 66), .load (some 3) (.t 6), none⟩,
  ⟨(some 67), .buildSlice 39 3 1 [.nils, .bool false, .bool false] [(0, 3, (.t 66))], none⟩,
  ⟨(some 68), .append 39 3 32 [.nils, .bool false, .bool false] (.t 65) (.t 67), none⟩,
  ⟨(some 4), .move (.t 68), none⟩]
def m27_code : MCode := (.seq (.ops m27_r0) (.seq (.ops m27_r1) (.seq (.ops m27_r2) (.seq (.seq (.ops m27_r3) (.block 0 (.loop m27_l4))) (.seq (.block 2 (.loop m27_l16)) (.seq (.ops m27_r19) .ret))))))
def m27 : MFunc := ⟨69, [.tmp 4], m27_code⟩

def m28_r0 : List MI := [
  ⟨(some 4), .move (.k (.sc (.bool false))), none⟩]
def m28_r1 : List MI := [
  ⟨(some 6), .move (.t 0), none⟩,
  ⟨(some 7), .lenSlice (.t 6), none⟩,
  ⟨(some 8), .move (.t 1), none⟩,
  ⟨(some 9), .lenSlice (.t 8), none⟩,
  ⟨(some 10), .bin .neq .no (.t 7) (.t 9), none⟩]
def m28_r2 : List MI := [
  ⟨(some 4), .move (.k (.sc (.bool false))), none⟩]
def m28_r3 : List MI := [
  ⟨(some 5), .move (.k (.sc (.int .i64 0))), none⟩]
def m28_r5 : List MI := [
  ⟨(some 11), .move (.t 5), none⟩,
  ⟨(some 12), .move (.t 0), none⟩,
  ⟨(some 13), .lenSlice (.t 12), none⟩,
  ⟨(some 14), .bin .lss .no (.t 11) (.t 13), none⟩]
def m28_r6 : List DI := [
  ⟨⟨(some 17), .move (.t 0), none⟩, 0, [], []⟩,
  ⟨⟨(some 18), .move (.t 5), none⟩, 0, [], []⟩,
  ⟨⟨(some 19), .indexSlice 3 (.t 17) (.t 18), none⟩, 0, [], []⟩,
  ⟨⟨(some 20), .fieldAddr 1 (.t 19), none⟩, 0, [], []⟩,
  ⟨⟨(some 21), .load none (.t 20), none⟩, 1, [], []⟩,
  ⟨⟨(some 22), .move (.t 1), none⟩, 0, [], []⟩,
  ⟨⟨(some 23), .move (.t 5), none⟩, 0, [], []⟩,
  ⟨⟨(some 24), .indexSlice 3 (.t 22) (.t 23), none⟩, 0, [], []⟩,
  ⟨⟨(some 25), .fieldAddr 1 (.t 24), none⟩, 0, [], []⟩,
  ⟨⟨(some 26), .load none (.t 25), none⟩, 1, [], []⟩,
  ⟨⟨(some 27), .bin .neq .bool (.t 21) (.t 26), none⟩, 0, [], []⟩,
  ⟨⟨(some 28), .move (.t 27), none⟩, 0, [], []⟩,
  ⟨⟨(some 29), .move (.t 0), (some (28, false))⟩, 0, [], []⟩,
  ⟨⟨(some 30), .move (.t 5), (some (28, false))⟩, 0, [], []⟩,
  ⟨⟨(some 31), .indexSlice 3 (.t 29) (.t 30), (some (28, false))⟩, 0, [], []⟩,
  ⟨⟨(some 32), .fieldAddr 2 (.t 31), (some (28, false))⟩, 0, [], []⟩,
  ⟨⟨(some 33), .load none (.t 32), (some (28, false))⟩, 1, [], []⟩,
  ⟨⟨(some 34), .move (.t 1), (some (28, false))⟩, 0, [], []⟩,
  ⟨⟨(some 35), .move (.t 5), (some (28, false))⟩, 0, [], []⟩,
  ⟨⟨(some 36), .indexSlice 3 (.t 34) (.t 35), (some (28, false))⟩, 0, [], []⟩,
  ⟨⟨(some 37), .fieldAddr 2 (.t 36), (some (28, false))⟩, 0, [], []⟩,
  ⟨⟨(some 38), .load none (.t 37), (some (28, false))⟩, 1, [], []⟩,
  ⟨⟨(some 39), .bin .neq .bool (.t 33) (.t 38), (some (28, false))⟩, 0, [], []⟩,
  ⟨⟨(some 40), .pick (.t 28) (.k (.sc (.bool true))) (.t 39), none⟩, 0, [], []⟩,
  ⟨⟨(some 41), .move (.t 40), none⟩, 0, [], []⟩,
  ⟨⟨(some 42), .move (.t 0), (some (41, false))⟩, 0, [], []⟩,
  ⟨⟨(some 43), .move (.t 5), (some (41, false))⟩, 0, [], []⟩,
  ⟨⟨(some 44), .indexSlice 3 (.t 42) (.t 43), (some (41, false))⟩, 0, [], []⟩,
  ⟨⟨(some 45), .fieldAddr 0 (.t 44), (some (41, false))⟩, 0, [], []⟩,
  ⟨⟨(some 46), .load none (.t 45), (some (41, false))⟩, 1, [], []⟩,
  ⟨⟨(some 47), .move (.t 1), (some (41, false))⟩, 0, [], []⟩,
  ⟨⟨(some 48), .move (.t 5), (some (41, false))⟩, 0, [], []⟩,
  ⟨⟨(some 49), .indexSlice 3 (.t 47) (.t 48), (some (41, false))⟩, 0, [], []⟩,
  ⟨⟨(some 50), .fieldAddr 0 (.t 49), (some (41, false))⟩, 0, [], []⟩,
  ⟨⟨(some 51), .load none (.t 50), (some (41, false))⟩, 1, [], []⟩,
  ⟨⟨(some 52), .call 16 [(.t 46), (.t 51)], (some (41, false))⟩, 2, [], []⟩,
  ⟨⟨(some 53), .un .not (.t 52), (some (41, false))⟩, 0, [], []⟩,
  ⟨⟨(some 54), .pick (.t 41) (.k (.sc (.bool true))) (.t 53), none⟩, 0, [], []⟩]
def m28_r7 : List MI := [
  ⟨(some 4), .move (.k (.sc (.bool false))), none⟩]
def m28_r8 : List MI := [
  ⟨(some 15), .move (.t 5), none⟩,
  ⟨(some 16), .bin .add .no (.t 15) (.k (.sc (.int .i64 1))), none⟩,
  ⟨(some 5), .move (.t 16), none⟩]
def m28_l4 : MCode := (.seq (.seq (.ops m28_r5) (.cond (.t 14) .skip (.exit 0))) (.seq (.block 1 (.seq (.draw m28_r6) (.cond (.t 54) (.seq (.ops m28_r7) .ret) .skip))) (.ops m28_r8)))
def m28_r9 : List MI := [
  ⟨(some 4), .move (.k (.sc (.bool true))), none⟩]
def m28_code : MCode := (.seq (.ops m28_r0) (.seq (.seq (.ops m28_r1) (.cond (.t 10) (.seq (.ops m28_r2) .ret) .skip)) (.seq (.seq (.ops m28_r3) (.block 0 (.loop m28_l4))) (.seq (.ops m28_r9) .ret))))
def m28 : MFunc := ⟨55, [.tmp 4], m28_code⟩

def m29_r0 : List MI := [
  ⟨(some 0), .alloc 48 [.int .i32 0, .int .u8 0, .int .u16 0, .int .u8 0, .int .u32 0, .int .u8 0, .int .u32 0], none⟩]
def m29_r1 : List MI := [
  ⟨(some 1), .build [.int .i32 0, .int .u8 0, .int .u16 0, .int .u8 0, .int .u32 0, .int .u8 0, .int .u32 0] [(0, 1, (.k (.sc (.int .i32 32))))], none⟩,
  ⟨none, .store 7 (.t 0) (.t 1), none⟩]
def m29_code : MCode := (.seq (.ops m29_r0) (.seq (.ops m29_r1) .ret))
def m29 : MFunc := ⟨2, [.cell 0 (some 7)], m29_code⟩

def m30_r0 : List MI := [
  ⟨(some 2), .move (.k (.sc (.str []))), none⟩]
def m30_r1 : List MI := [
  ⟨(some 3), .alloc 78 [.nilp, .nils], none⟩]
def m30_r2 : List MI := [
  ⟨(some 6), .move (.t 0), none⟩,
  ⟨(some 7), .lenSlice (.t 6), none⟩,
  ⟨(some 8), .move (.k (.sc (.int .i64 0))), none⟩]
def m30_r4 : List MI := [
  ⟨(some 9), .bin .lss .no (.t 8) (.t 7), none⟩]
def m30_r5 : List MI := [
  ⟨(some 10), .indexSlice 7 (.t 6) (.t 8), none⟩,
  ⟨(some 11), .load (some 7) (.t 10), none⟩,
  ⟨(some 5), .alloc 48 [.int .i32 0, .int .u8 0, .int .u16 0, .int .u8 0, .int .u32 0, .int .u8 0, .int .u32 0], none⟩,
  ⟨none, .store 7 (.t 5) (.t 11), none⟩]
def m30_r6 : List MI := [
  ⟨(some 12), .fieldAddr 1 (.t 5), none⟩,
  ⟨(some 13), .load none (.t 12), none⟩,
  ⟨(some 14), .bin .neq .no (.t 13) (.k (.sc (.int .u8 2))), none⟩]
def m30_r7 : List MI := [
  ⟨(some 15), .fieldAddr 0 (.t 5), none⟩,
  ⟨(some 16), .load none (.t 15), none⟩,
  ⟨(some 17), .call 34 [(.t 3), (.t 16)], none⟩]
def m30_r8 : List MI := [
  ⟨(some 18), .bin .add .no (.t 8) (.k (.sc (.int .i64 1))), none⟩,
  ⟨(some 8), .move (.t 18), none⟩]
def m30_l3 : MCode := (.seq (.ops m30_r4) (.seq (.cond (.t 9) .skip (.exit 0)) (.seq (.block 1 (.seq (.ops m30_r5) (.seq (.ops m30_r6) (.cond (.t 14) (.ops m30_r7) .skip)))) (.ops m30_r8))))
def m30_r9 : List MI := [
  ⟨(some 19), .call 36 [(.t 3)], none⟩,
  ⟨(some 20), .call 35 [(.t 19), (.k (.sc (.str [32])))], none⟩,
  ⟨(some 2), .move (.t 20), none⟩]
def m30_code : MCode := (.seq (.ops m30_r0) (.seq (.ops m30_r1) (.seq (.seq (.ops m30_r2) (.block 0 (.loop m30_l3))) (.seq (.ops m30_r9) .ret))))
def m30 : MFunc := ⟨21, [.tmp 2], m30_code⟩

def m31_r0 : List MI := [
  ⟨(some 2), .move (.k (.sc (.nils))), none⟩]
def m31_r1 : List MI := [
  ⟨(some 3), .move (.t 0), none⟩,
  ⟨(some 4), .bin .eql .slice (.t 3) (.k (.sc (.nils))), none⟩]
def m31_r2 : List MI := [
  ⟨(some 2), .move (.k (.sc (.nils))), none⟩]
def m31_r3 : List MI := [
  ⟨(some 5), .buildSlice 48 7 0 [.int .i32 0, .int .u8 0, .int .u16 0, .int .u8 0, .int .u32 0, .int .u8 0, .int .u32 0] [], none⟩,
  ⟨(some 6), .move (.t 0), none⟩,
  ⟨(some 7), .append 48 7 28 [.int .i32 0, .int .u8 0, .int .u16 0, .int .u8 0, .int .u32 0, .int .u8 0, .int .u32 0] (.t 5) (.t 6), none⟩,
  ⟨(some 2), .move (.t 7), none⟩]
def m31_code : MCode := (.seq (.ops m31_r0) (.seq (.seq (.ops m31_r1) (.cond (.t 4) (.seq (.ops m31_r2) .ret) .skip)) (.seq (.ops m31_r3) .ret)))
def m31 : MFunc := ⟨8, [.tmp 2], m31_code⟩

def m32_r0 : List MI := [
  ⟨(some 1), .box 48 (.t 0), none⟩,
  ⟨(some 2), .move (.k (.sc (.bool false))), none⟩]
def m32_r1 : List MI := [
  ⟨(some 3), .load (some 7) (.t 1), none⟩,
  ⟨(some 4), .build [.int .i32 0, .int .u8 0, .int .u16 0, .int .u8 0, .int .u32 0, .int .u8 0, .int .u32 0] [(0, 1, (.k (.sc (.int .i32 32))))], none⟩,
  ⟨(some 5), .bin .eql (.agg [.int .i32, .int .u8, .int .u16, .int .u8, .int .u32, .int .u8, .int .u32]) (.t 3) (.t 4), none⟩,
  ⟨(some 2), .move (.t 5), none⟩]
def m32_code : MCode := (.seq (.ops m32_r0) (.seq (.ops m32_r1) .ret))
def m32 : MFunc := ⟨6, [.tmp 2], m32_code⟩

def m33_r0 : List MI := [
  ⟨(some 3), .box 46 (.t 1), none⟩,
  ⟨(some 4), .move (.k (.sc (.nils))), none⟩]
def m33_r1 : List MI := [
  ⟨(some 5), .move (.k (.sc (.nils))), none⟩]
def m33_r2 : List MI := [
  ⟨(some 6), .move (.k (.sc (.int .i64 0))), none⟩]
def m33_r4 : List MI := [
  ⟨(some 7), .move (.t 6), none⟩,
  ⟨(some 8), .move (.t 0), none⟩,
  ⟨(some 9), .bin .lss .no (.t 7) (.t 8), none⟩]
def m33_r5 : List MI := [
  ⟨(some 12), .move (.t 5), none⟩,
  ⟨(some 13), .load (some 5) (.t 3), none⟩,
  ⟨(some 14), .build [.int .i32 0, .int .u8 0, .int .u16 0, .int .u8 0, .int .u32 0, .int .u8 0, .int .u32 0] [(0, 1, (.k (.sc (.int .i32 32)))), (2, 5, (.t 13))], none⟩,
  ⟨(some 15), .buildSlice 48 7 1 [.int .i32 0, .int .u8 0, .int .u16 0, .int .u8 0, .int .u32 0, .int .u8 0, .int .u32 0] [(0, 7, (.t 14))], none⟩,
  ⟨(some 16), .append 48 7 28 [.int .i32 0, .int .u8 0, .int .u16 0, .int .u8 0, .int .u32 0, .int .u8 0, .int .u32 0] (.t 12) (.t 15), none⟩,
  ⟨(some 5), .move (.t 16), none⟩]
def m33_r6 : List MI := [
  ⟨(some 10), .move (.t 6), none⟩,
  ⟨(some 11), .bin .add .no (.t 10) (.k (.sc (.int .i64 1))), none⟩,
  ⟨(some 6), .move (.t 11), none⟩]
def m33_l3 : MCode := (.seq (.seq (.ops m33_r4) (.cond (.t 9) .skip (.exit 0))) (.seq (.block 1 (.ops m33_r5)) (.ops m33_r6)))
def m33_r7 : List MI := [
  ⟨(some 17), .move (.t 5), none⟩,
  ⟨(some 4), .move (.t 17), none⟩]
def m33_code : MCode := (.seq (.ops m33_r0) (.seq (.ops m33_r1) (.seq (.seq (.ops m33_r2) (.block 0 (.loop m33_l3))) (.seq (.ops m33_r7) .ret))))
def m33 : MFunc := ⟨18, [.tmp 4], m33_code⟩

def m34_r0 : List MI := [
  ⟨(some 4), .move (.k (.sc (.int .i64 0))), none⟩,
  ⟨(some 5), .move (.k (.sc (.nili))), none⟩]
def m34_r1 : List MI := [
  ⟨(some 7), .move (.t 0), none⟩,
  ⟨(some 8), .call 37 [(.t 7)], none⟩]
def m34_r2 : List MI := [
  ⟨(some 9), .move (.t 0), none⟩,
  ⟨(some 10), .nilCheck (.t 9), none⟩,
  ⟨(some 11), .fieldAddr 1 (.t 10), none⟩,
  ⟨(some 12), .load none (.t 11), none⟩,
  ⟨(some 13), .lenSlice (.t 12), none⟩,
  ⟨(some 6), .move (.t 13), none⟩]
def m34_r3 : List MI := [
  ⟨(some 14), .move (.t 0), none⟩,
  ⟨(some 15), .move (.t 0), none⟩,
  ⟨(some 16), .nilCheck (.t 15), none⟩,
  ⟨(some 17), .fieldAddr 1 (.t 16), none⟩,
  ⟨(some 18), .load none (.t 17), none⟩,
  ⟨(some 19), .move (.t 1), none⟩,
  ⟨(some 20), .call 38 [(.t 18), (.t 19)], none⟩,
  ⟨(some 21), .nilCheck (.t 14), none⟩,
  ⟨(some 22), .fieldAddr 1 (.t 21), none⟩,
  ⟨none, .store 1 (.t 22) (.t 20), none⟩]
def m34_r4 : List MI := [
  ⟨(some 23), .move (.t 0), none⟩,
  ⟨(some 24), .nilCheck (.t 23), none⟩,
  ⟨(some 25), .fieldAddr 1 (.t 24), none⟩,
  ⟨(some 26), .load none (.t 25), none⟩,
  ⟨(some 27), .lenSlice (.t 26), none⟩,
  ⟨(some 28), .move (.t 6), none⟩,
  ⟨(some 29), .bin .sub .no (.t 27) (.t 28), none⟩,
  ⟨(some 4), .move (.t 29), none⟩,
  ⟨(some 5), .move (.k (.sc (.nili))), none⟩]
def m34_code : MCode := (.seq (.ops m34_r0) (.seq (.ops m34_r1) (.seq (.ops m34_r2) (.seq (.ops m34_r3) (.seq (.ops m34_r4) .ret)))))
def m34 : MFunc := ⟨30, [.tmp 4, .tmp 5], m34_code⟩

def m35_r0 : List MI := [
  ⟨(some 4), .move (.k (.sc (.str []))), none⟩]
def m35_r1 : List MI := [
  ⟨(some 7), .move (.t 0), none⟩,
  ⟨(some 8), .bin .eql .no (.t 7) (.k (.sc (.str []))), none⟩,
  ⟨(some 9), .move (.t 8), none⟩,
  ⟨(some 10), .move (.t 1), (some (9, false))⟩,
  ⟨(some 11), .bin .eql .no (.t 10) (.k (.sc (.str []))), (some (9, false))⟩,
  ⟨(some 12), .pick (.t 9) (.k (.sc (.bool true))) (.t 11), none⟩]
def m35_r2 : List MI := [
  ⟨(some 13), .move (.t 0), none⟩,
  ⟨(some 4), .move (.t 13), none⟩]
def m35_r3 : List MI := [
  ⟨(some 14), .move (.t 1), none⟩,
  ⟨(some 15), .lenStr (.t 14), none⟩,
  ⟨(some 16), .bin .eql .no (.t 15) (.k (.sc (.int .i64 1))), none⟩,
  ⟨(some 17), .move (.t 16), none⟩,
  ⟨(some 18), .move (.t 1), (some (17, true))⟩,
  ⟨(some 19), .idxStr (.t 18) (.k (.sc (.int .i64 0))), (some (17, true))⟩,
  ⟨(some 20), .bin .lss .no (.t 19) (.k (.sc (.int .u8 128))), (some (17, true))⟩,
  ⟨(some 21), .pick (.t 17) (.t 20) (.k (.sc (.bool false))), none⟩]
def m35_r4 : List MI := [
  ⟨(some 22), .move (.t 0), none⟩,
  ⟨(some 23), .move (.t 1), none⟩,
  ⟨(some 24), .idxStr (.t 23) (.k (.sc (.int .i64 0))), none⟩,
  ⟨(some 25), .call 39 [(.t 22), (.t 24)], none⟩,
  ⟨(some 4), .move (.t 25), none⟩]
def m35_r5 : List MI := [
  ⟨(some 27), .move (.t 1), none⟩,
  ⟨(some 28), .call 40 [(.t 27)], none⟩,
  ⟨(some 26), .move (.t 28), none⟩,
  ⟨(some 29), .extract (.t 26) 0, none⟩,
  ⟨(some 30), .extract (.t 26) 1, none⟩,
  ⟨(some 5), .alloc 88 [.bool false, .bool false, .bool false, .bool false, .bool false, .bool false, .bool false, .bool false, .bool false, .bool false, .bool false, .bool false, .bool false, .bool false, .bool false, .bool false, .bool false, .bool false, .bool false, .bool false, .bool false, .bool false, .bool false, .bool false, .bool false, .bool false, .bool false, .bool false, .bool false, .bool false, .bool false, .bool false, .bool false, .bool false, .bool false, .bool false, .bool false, .bool false, .bool false, .bool false, .bool false, .bool false, .bool false, .bool false, .bool false, .bool false, .bool false, .bool false, .bool false, .bool false, .bool false, .bool false, .bool false, .bool false, .bool false, .bool false, .bool false, .bool false, .bool false, .bool false, .bool false, .bool false, .bool false, .bool false, .bool false, .bool false, .bool false, .bool false, .bool false, .bool false, .bool false, .bool false, .bool false, .bool false, .bool false, .bool false, .bool false, .bool false, .bool false, .bool false, .bool false, .bool false, .bool false, .bool false, .bool false, .bool false, .bool false, .bool false, .bool false, .bool false, .bool false, .bool false, .bool false, .bool false, .bool false, .bool false, .bool false, .bool false, .bool false, .bool false, .bool false, .bool false, .bool false, .bool false, .bool false, .bool false, .bool false, .bool false, .bool false, .bool false, .bool false, .bool false, .bool false, .bool false, .bool false, .bool false, .bool false, .bool false, .bool false, .bool false, .bool false, .bool false, .bool false, .bool false, .bool false, .bool false, .bool false, .bool false, .bool false, .bool false, .bool false, .bool false, .bool false, .bool false, .bool false, .bool false, .bool false, .bool false, .bool false, .bool false, .bool false, .bool false, .bool false, .bool false, .bool false, .bool false, .bool false, .bool false, .bool false, .bool false, .bool false, .bool false, .bool false, .bool false, .bool false, .bool false, .bool false, .bool false, .bool false, .bool false, .bool false, .bool false, .bool false, .bool false, .bool false, .bool false, .bool false, .bool false, .bool false, .bool false, .bool false, .bool false, .bool false, .bool false, .bool false, .bool false, .bool false, .bool false, .bool false, .bool false, .bool false, .bool false, .bool false, .bool false, .bool false, .bool false, .bool false, .bool false, .bool false, .bool false, .bool false, .bool false, .bool false, .bool false, .bool false, .bool false, .bool false, .bool false, .bool false, .bool false, .bool false, .bool false, .bool false, .bool false, .bool false, .bool false, .bool false, .bool false, .bool false, .bool false, .bool false, .bool false, .bool false, .bool false, .bool false, .bool false, .bool false, .bool false, .bool false, .bool false, .bool false, .bool false, .bool false, .bool false, .bool false, .bool false, .bool false, .bool false, .bool false, .bool false, .bool false, .bool false, .bool false, .bool false, .bool false, .bool false, .bool false, .bool false, .bool false, .bool false, .bool false, .bool false, .bool false, .bool false, .bool false, .bool false, .bool false, .bool false, .bool false, .bool false, .bool false, .bool false, .bool false, .bool false, .bool false, .bool false], none⟩,
  ⟨none, .store 256 (.t 5) (.t 29), none⟩,
  ⟨(some 6), .move (.t 30), none⟩]
def m35_r6 : List MI := [
  ⟨(some 31), .move (.t 6), none⟩]
def m35_r7 : List MI := [
  ⟨(some 32), .move (.t 0), none⟩,
  ⟨(some 33), .call 41 [(.t 32), (.t 5)], none⟩,
  ⟨(some 4), .move (.t 33), none⟩]
def m35_r8 : List MI := [
  ⟨(some 34), .move (.t 0), none⟩,
  ⟨(some 35), .move (.t 1), none⟩,
  ⟨(some 36), .call 42 [(.t 34), (.t 35)], none⟩,
  ⟨(some 4), .move (.t 36), none⟩]
def m35_code : MCode := (.seq (.ops m35_r0) (.seq (.seq (.ops m35_r1) (.cond (.t 12) (.seq (.ops m35_r2) .ret) .skip)) (.seq (.seq (.ops m35_r3) (.cond (.t 21) (.seq (.ops m35_r4) .ret) .skip)) (.seq (.seq (.ops m35_r5) (.seq (.ops m35_r6) (.cond (.t 31) (.seq (.ops m35_r7) .ret) .skip))) (.seq (.ops m35_r8) .ret)))))
def m35 : MFunc := ⟨37, [.tmp 4], m35_code⟩

def m36_r0 : List MI := [
  ⟨(some 2), .move (.k (.sc (.str []))), none⟩]
def m36_r1 : List DI := [
  ⟨⟨(some 3), .move (.t 0), none⟩, 0, [], []⟩,
  ⟨⟨(some 4), .nilCheck (.t 3), none⟩, 0, [], []⟩,
  ⟨⟨(some 5), .fieldAddr 1 (.t 4), none⟩, 0, [], []⟩,
  ⟨⟨(some 6), .load none (.t 5), none⟩, 1, [], []⟩,
  ⟨⟨(some 7), .usliceData (.t 6), none⟩, 2, [], []⟩,
  ⟨⟨(some 8), .move (.t 0), none⟩, 0, [4], []⟩,
  ⟨⟨(some 9), .nilCheck (.t 8), none⟩, 0, [4], []⟩,
  ⟨⟨(some 10), .fieldAddr 1 (.t 9), none⟩, 0, [4], []⟩,
  ⟨⟨(some 11), .load none (.t 10), none⟩, 1, [4], []⟩,
  ⟨⟨(some 12), .lenSlice (.t 11), none⟩, 0, [4], []⟩,
  ⟨⟨(some 13), .ustring 5 (.t 7) (.t 12), none⟩, 2, [], []⟩,
  ⟨⟨(some 2), .move (.t 13), none⟩, 0, [], []⟩]
def m36_code : MCode := (.seq (.ops m36_r0) (.seq (.draw m36_r1) .ret))
def m36 : MFunc := ⟨14, [.tmp 2], m36_code⟩

def m37_r0 : List MI := [
  ⟨(some 2), .move (.t 0), none⟩,
  ⟨(some 3), .nilCheck (.t 2), none⟩,
  ⟨(some 4), .fieldAddr 0 (.t 3), none⟩,
  ⟨(some 5), .load none (.t 4), none⟩,
  ⟨(some 6), .bin .eql .ptr (.t 5) (.k (.sc (.nilp))), none⟩]
def m37_r1 : List MI := [
  ⟨(some 7), .move (.t 0), none⟩,
  ⟨(some 8), .move (.t 0), none⟩,
  ⟨(some 9), .conv .ptrUnsafe (.t 8), none⟩,
  ⟨(some 10), .same (.t 9), none⟩,
  ⟨(some 11), .conv (.unsafePtr 78 2) (.t 10), none⟩,
  ⟨(some 12), .nilCheck (.t 7), none⟩,
  ⟨(some 13), .fieldAddr 0 (.t 12), none⟩,
  ⟨none, .store 1 (.t 13) (.t 11), none⟩]
def m37_r2 : List MI := [
  ⟨(some 14), .move (.t 0), none⟩,
  ⟨(some 15), .nilCheck (.t 14), none⟩,
  ⟨(some 16), .fieldAddr 0 (.t 15), none⟩,
  ⟨(some 17), .load none (.t 16), none⟩,
  ⟨(some 18), .move (.t 0), none⟩,
  ⟨(some 19), .bin .neq .ptr (.t 17) (.t 18), none⟩]
def m37_code : MCode := (.seq (.ops m37_r0) (.cond (.t 6) (.ops m37_r1) (.seq (.ops m37_r2) (.cond (.t 19) .bad .skip))))
def m37 : MFunc := ⟨20, [], m37_code⟩

def m38_r0 : List MI := [
  ⟨(some 4), .move (.k (.sc (.nils))), none⟩]
def m38_r1 : List MI := [
  ⟨(some 5), .move (.t 1), none⟩,
  ⟨(some 6), .conv (.int .u32) (.t 5), none⟩,
  ⟨(some 7), .bin .leq .no (.t 6) (.k (.sc (.int .u32 127))), none⟩]
def m38_r2 : List MI := [
  ⟨(some 8), .move (.t 0), none⟩,
  ⟨(some 9), .move (.t 1), none⟩,
  ⟨(some 10), .conv (.int .u8) (.t 9), none⟩,
  ⟨(some 11), .buildSlice 5 1 1 [.int .u8 0] [(0, 1, (.t 10))], none⟩,
  ⟨(some 12), .append 5 1 1 [.int .u8 0] (.t 8) (.t 11), none⟩,
  ⟨(some 4), .move (.t 12), none⟩]
def m38_r3 : List MI := [
  ⟨(some 13), .move (.t 0), none⟩,
  ⟨(some 14), .move (.t 1), none⟩,
  ⟨(some 15), .call 44 [(.t 13), (.t 14)], none⟩,
  ⟨(some 4), .move (.t 15), none⟩]
def m38_code : MCode := (.seq (.ops m38_r0) (.seq (.seq (.ops m38_r1) (.cond (.t 7) (.seq (.ops m38_r2) .ret) .skip)) (.seq (.ops m38_r3) .ret)))
def m38 : MFunc := ⟨16, [.tmp 4], m38_code⟩

def m39_r0 : List MI := [
  ⟨(some 4), .move (.k (.sc (.str []))), none⟩]
def m39_r2 : List MI := [
  ⟨(some 5), .move (.t 0), none⟩,
  ⟨(some 6), .lenStr (.t 5), none⟩,
  ⟨(some 7), .bin .gtr .no (.t 6) (.k (.sc (.int .i64 0))), none⟩,
  ⟨(some 8), .move (.t 7), none⟩,
  ⟨(some 9), .move (.t 0), (some (8, true))⟩,
  ⟨(some 10), .move (.t 0), (some (8, true))⟩,
  ⟨(some 11), .lenStr (.t 10), (some (8, true))⟩,
  ⟨(some 12), .bin .sub .no (.t 11) (.k (.sc (.int .i64 1))), (some (8, true))⟩,
  ⟨(some 13), .idxStr (.t 9) (.t 12), (some (8, true))⟩,
  ⟨(some 14), .move (.t 1), (some (8, true))⟩,
  ⟨(some 15), .bin .eql .no (.t 13) (.t 14), (some (8, true))⟩,
  ⟨(some 16), .pick (.t 8) (.t 15) (.k (.sc (.bool false))), none⟩]
def m39_r3 : List MI := [
  ⟨(some 17), .move (.t 0), none⟩,
  ⟨(some 18), .move (.t 0), none⟩,
  ⟨(some 19), .lenStr (.t 18), none⟩,
  ⟨(some 20), .bin .sub .no (.t 19) (.k (.sc (.int .i64 1))), none⟩,
  ⟨(some 21), .sliceStr (.t 17) none (some (.t 20)), none⟩,
  ⟨(some 0), .move (.t 21), none⟩]
def m39_l1 : MCode := (.seq (.seq (.ops m39_r2) (.cond (.t 16) .skip (.exit 0))) (.block 1 (.ops m39_r3)))
def m39_r4 : List MI := [
  ⟨(some 22), .move (.t 0), none⟩,
  ⟨(some 4), .move (.t 22), none⟩]
def m39_code : MCode := (.seq (.ops m39_r0) (.seq (.block 0 (.loop m39_l1)) (.seq (.ops m39_r4) .ret)))
def m39 : MFunc := ⟨23, [.tmp 4], m39_code⟩

def m40_r0 : List MI := [
  ⟨(some 2), .alloc 88 [.bool false, .bool false, .bool false, .bool false, .bool false, .bool false, .bool false, .bool false, .bool false, .bool false, .bool false, .bool false, .bool false, .bool false, .bool false, .bool false, .bool false, .bool false, .bool false, .bool false, .bool false, .bool false, .bool false, .bool false, .bool false, .bool false, .bool false, .bool false, .bool false, .bool false, .bool false, .bool false, .bool false, .bool false, .bool false, .bool false, .bool false, .bool false, .bool false, .bool false, .bool false, .bool false, .bool false, .bool false, .bool false, .bool false, .bool false, .bool false, .bool false, .bool false, .bool false, .bool false, .bool false, .bool false, .bool false, .bool false, .bool false, .bool false, .bool false, .bool false, .bool false, .bool false, .bool false, .bool false, .bool false, .bool false, .bool false, .bool false, .bool false, .bool false, .bool false, .bool false, .bool false, .bool false, .bool false, .bool false, .bool false, .bool false, .bool false, .bool false, .bool false, .bool false, .bool false, .bool false, .bool false, .bool false, .bool false, .bool false, .bool false, .bool false, .bool false, .bool false, .bool false, .bool false, .bool false, .bool false, .bool false, .bool false, .bool false, .bool false, .bool false, .bool false, .bool false, .bool false, .bool false, .bool false, .bool false, .bool false, .bool false, .bool false, .bool false, .bool false, .bool false, .bool false, .bool false, .bool false, .bool false, .bool false, .bool false, .bool false, .bool false, .bool false, .bool false, .bool false, .bool false, .bool false, .bool false, .bool false, .bool false, .bool false, .bool false, .bool false, .bool false, .bool false, .bool false, .bool false, .bool false, .bool false, .bool false, .bool false, .bool false, .bool false, .bool false, .bool false, .bool false, .bool false, .bool false, .bool false, .bool false, .bool false, .bool false, .bool false, .bool false, .bool false, .bool false, .bool false, .bool false, .bool false, .bool false, .bool false, .bool false, .bool false, .bool false, .bool false, .bool false, .bool false, .bool false, .bool false, .bool false, .bool false, .bool false, .bool false, .bool false, .bool false, .bool false, .bool false, .bool false, .bool false, .bool false, .bool false, .bool false, .bool false, .bool false, .bool false, .bool false, .bool false, .bool false, .bool false, .bool false, .bool false, .bool false, .bool false, .bool false, .bool false, .bool false, .bool false, .bool false, .bool false, .bool false, .bool false, .bool false, .bool false, .bool false, .bool false, .bool false, .bool false, .bool false, .bool false, .bool false, .bool false, .bool false, .bool false, .bool false, .bool false, .bool false, .bool false, .bool false, .bool false, .bool false, .bool false, .bool false, .bool false, .bool false, .bool false, .bool false, .bool false, .bool false, .bool false, .bool false, .bool false, .bool false, .bool false, .bool false, .bool false, .bool false, .bool false, .bool false, .bool false, .bool false, .bool false, .bool false, .bool false, .bool false, .bool false, .bool false, .bool false, .bool false, .bool false, .bool false, .bool false, .bool false, .bool false, .bool false, .bool false, .bool false, .bool false], none⟩,
  ⟨(some 3), .move (.k (.sc (.bool false))), none⟩]
def m40_r1 : List MI := [
  ⟨(some 4), .move (.k (.sc (.int .i64 0))), none⟩]
def m40_r3 : List MI := [
  ⟨(some 6), .move (.t 4), none⟩,
  ⟨(some 7), .move (.t 0), none⟩,
  ⟨(some 8), .lenStr (.t 7), none⟩,
  ⟨(some 9), .bin .lss .no (.t 6) (.t 8), none⟩]
def m40_r4 : List MI := [
  ⟨(some 12), .move (.t 0), none⟩,
  ⟨(some 13), .move (.t 4), none⟩,
  ⟨(some 14), .idxStr (.t 12) (.t 13), none⟩,
  ⟨(some 5), .move (.t 14), none⟩]
def m40_r5 : List MI := [
  ⟨(some 15), .move (.t 5), none⟩,
  ⟨(some 16), .bin .geq .no (.t 15) (.k (.sc (.int .u8 128))), none⟩]
def m40_r6 : List MI := [
  ⟨(some 17), .load (some 256) (.t 2), none⟩,
  ⟨none, .store 256 (.t 2) (.t 17), none⟩,
  ⟨(some 3), .move (.k (.sc (.bool false))), none⟩]
def m40_r7 : List MI := [
  ⟨(some 18), .move (.t 5), none⟩,
  ⟨(some 19), .indexArr 256 1 (.t 2) (.t 18), none⟩,
  ⟨none, .store 1 (.t 19) (.k (.sc (.bool true))), none⟩]
def m40_r8 : List MI := [
  ⟨(some 10), .move (.t 4), none⟩,
  ⟨(some 11), .bin .add .no (.t 10) (.k (.sc (.int .i64 1))), none⟩,
  ⟨(some 4), .move (.t 11), none⟩]
def m40_l2 : MCode := (.seq (.seq (.ops m40_r3) (.cond (.t 9) .skip (.exit 0))) (.seq (.block 1 (.seq (.ops m40_r4) (.seq (.seq (.ops m40_r5) (.cond (.t 16) (.seq (.ops m40_r6) .ret) .skip)) (.ops m40_r7)))) (.ops m40_r8)))
def m40_r9 : List MI := [
  ⟨(some 20), .load (some 256) (.t 2), none⟩,
  ⟨none, .store 256 (.t 2) (.t 20), none⟩,
  ⟨(some 3), .move (.k (.sc (.bool true))), none⟩]
def m40_code : MCode := (.seq (.ops m40_r0) (.seq (.seq (.ops m40_r1) (.block 0 (.loop m40_l2))) (.seq (.ops m40_r9) .ret)))
def m40 : MFunc := ⟨21, [.cell 2 (some 256), .tmp 3], m40_code⟩

def m41_r0 : List MI := [
  ⟨(some 4), .move (.k (.sc (.str []))), none⟩]
def m41_r2 : List MI := [
  ⟨(some 5), .move (.t 0), none⟩,
  ⟨(some 6), .lenStr (.t 5), none⟩,
  ⟨(some 7), .bin .gtr .no (.t 6) (.k (.sc (.int .i64 0))), none⟩]
def m41_r3 : List MI := [
  ⟨(some 8), .move (.t 1), none⟩,
  ⟨(some 9), .move (.t 0), none⟩,
  ⟨(some 10), .move (.t 0), none⟩,
  ⟨(some 11), .lenStr (.t 10), none⟩,
  ⟨(some 12), .bin .sub .no (.t 11) (.k (.sc (.int .i64 1))), none⟩,
  ⟨(some 13), .idxStr (.t 9) (.t 12), none⟩,
  ⟨(some 14), .call 45 [(.t 8), (.t 13)], none⟩,
  ⟨(some 15), .un .not (.t 14), none⟩]
def m41_r4 : List MI := [
  ⟨(some 16), .move (.t 0), none⟩,
  ⟨(some 17), .move (.t 0), none⟩,
  ⟨(some 18), .lenStr (.t 17), none⟩,
  ⟨(some 19), .bin .sub .no (.t 18) (.k (.sc (.int .i64 1))), none⟩,
  ⟨(some 20), .sliceStr (.t 16) none (some (.t 19)), none⟩,
  ⟨(some 0), .move (.t 20), none⟩]
def m41_l1 : MCode := (.seq (.seq (.ops m41_r2) (.cond (.t 7) .skip (.exit 0))) (.block 1 (.seq (.seq (.ops m41_r3) (.cond (.t 15) (.exit 0) .skip)) (.ops m41_r4))))
def m41_r5 : List MI := [
  ⟨(some 21), .move (.t 0), none⟩,
  ⟨(some 4), .move (.t 21), none⟩]
def m41_code : MCode := (.seq (.ops m41_r0) (.seq (.block 0 (.loop m41_l1)) (.seq (.ops m41_r5) .ret)))
def m41 : MFunc := ⟨22, [.tmp 4], m41_code⟩

def m42_r0 : List MI := [
  ⟨(some 4), .move (.k (.sc (.str []))), none⟩]
def m42_r2 : List MI := [
  ⟨(some 7), .move (.t 0), none⟩,
  ⟨(some 8), .lenStr (.t 7), none⟩,
  ⟨(some 9), .bin .gtr .no (.t 8) (.k (.sc (.int .i64 0))), none⟩]
def m42_r3 : List MI := [
  ⟨(some 10), .move (.t 0), none⟩,
  ⟨(some 11), .move (.t 0), none⟩,
  ⟨(some 12), .lenStr (.t 11), none⟩,
  ⟨(some 13), .bin .sub .no (.t 12) (.k (.sc (.int .i64 1))), none⟩,
  ⟨(some 14), .idxStr (.t 10) (.t 13), none⟩,
  ⟨(some 15), .conv (.int .i32) (.t 14), none⟩,
  ⟨(some 5), .move (.t 15), none⟩,
  ⟨(some 6), .move (.k (.sc (.int .i64 1))), none⟩]
def m42_r4 : List MI := [
  ⟨(some 16), .move (.t 5), none⟩,
  ⟨(some 17), .bin .geq .no (.t 16) (.k (.sc (.int .i32 128))), none⟩]
def m42_r5 : List MI := [
  ⟨(some 19), .move (.t 0), none⟩,
  ⟨(some 20), .call 46 [(.t 19)], none⟩,
  ⟨(some 18), .move (.t 20), none⟩,
  ⟨(some 21), .extract (.t 18) 0, none⟩,
  ⟨(some 22), .extract (.t 18) 1, none⟩,
  ⟨(some 5), .move (.t 21), none⟩,
  ⟨(some 6), .move (.t 22), none⟩]
def m42_r6 : List MI := [
  ⟨(some 23), .move (.t 1), none⟩,
  ⟨(some 24), .move (.t 5), none⟩,
  ⟨(some 25), .call 47 [(.t 23), (.t 24)], none⟩,
  ⟨(some 26), .un .not (.t 25), none⟩]
def m42_r7 : List MI := [
  ⟨(some 27), .move (.t 0), none⟩,
  ⟨(some 28), .move (.t 0), none⟩,
  ⟨(some 29), .lenStr (.t 28), none⟩,
  ⟨(some 30), .move (.t 6), none⟩,
  ⟨(some 31), .bin .sub .no (.t 29) (.t 30), none⟩,
  ⟨(some 32), .sliceStr (.t 27) none (some (.t 31)), none⟩,
  ⟨(some 0), .move (.t 32), none⟩]
def m42_l1 : MCode := (.seq (.seq (.ops m42_r2) (.cond (.t 9) .skip (.exit 0))) (.block 1 (.seq (.ops m42_r3) (.seq (.seq (.ops m42_r4) (.cond (.t 17) (.ops m42_r5) .skip)) (.seq (.seq (.ops m42_r6) (.cond (.t 26) (.exit 0) .skip)) (.ops m42_r7))))))
def m42_r8 : List MI := [
  ⟨(some 33), .move (.t 0), none⟩,
  ⟨(some 4), .move (.t 33), none⟩]
def m42_code : MCode := (.seq (.ops m42_r0) (.seq (.block 0 (.loop m42_l1)) (.seq (.ops m42_r8) .ret)))
def m42 : MFunc := ⟨34, [.tmp 4], m42_code⟩

def m44_r0 : List MI := [
  ⟨(some 4), .move (.k (.sc (.nils))), none⟩]
def m44_r1 : List MI := [
  ⟨(some 6), .move (.t 1), none⟩,
  ⟨(some 7), .conv (.int .u32) (.t 6), none⟩,
  ⟨(some 5), .move (.t 7), none⟩]
def m44_r2 : List MI := [
  ⟨(some 12), .move (.t 5), none⟩,
  ⟨(some 13), .bin .leq .no (.t 12) (.k (.sc (.int .u32 2047))), none⟩,
  ⟨(some 11), .move (.t 13), none⟩]
def m44_r3 : List MI := [
  ⟨(some 14), .move (.t 0), none⟩,
  ⟨(some 15), .move (.t 1), none⟩,
  ⟨(some 16), .bin .shr .no (.t 15) (.k (.sc (.int .u64 6))), none⟩,
  ⟨(some 17), .conv (.int .u8) (.t 16), none⟩,
  ⟨(some 18), .bin .or .no (.k (.sc (.int .u8 192))) (.t 17), none⟩,
  ⟨(some 19), .move (.t 1), none⟩,
  ⟨(some 20), .conv (.int .u8) (.t 19), none⟩,
  ⟨(some 21), .bin .and .no (.t 20) (.k (.sc (.int .u8 63))), none⟩,
  ⟨(some 22), .bin .or .no (.k (.sc (.int .u8 128))) (.t 21), none⟩,
  ⟨(some 23), .buildSlice 5 1 2 [.int .u8 0] [(0, 1, (.t 18)), (1, 1, (.t 22))], none⟩,
  ⟨(some 24), .append 5 1 1 [.int .u8 0] (.t 14) (.t 23), none⟩,
  ⟨(some 4), .move (.t 24), none⟩]
def m44_r4 : List MI := [
  ⟨(some 26), .move (.t 5), none⟩,
  ⟨(some 27), .bin .lss .no (.t 26) (.k (.sc (.int .u32 55296))), none⟩,
  ⟨(some 25), .move (.t 27), none⟩]
def m44_r5 : List MI := [
  ⟨(some 28), .move (.t 5), none⟩,
  ⟨(some 29), .bin .lss .no (.k (.sc (.int .u32 57343))) (.t 28), none⟩,
  ⟨(some 30), .move (.t 29), none⟩,
  ⟨(some 31), .move (.t 5), (some (30, true))⟩,
  ⟨(some 32), .bin .leq .no (.t 31) (.k (.sc (.int .u32 65535))), (some (30, true))⟩,
  ⟨(some 33), .pick (.t 30) (.t 32) (.k (.sc (.bool false))), none⟩,
  ⟨(some 25), .move (.t 33), none⟩]
def m44_r6 : List MI := [
  ⟨(some 34), .move (.t 0), none⟩,
  ⟨(some 35), .move (.t 1), none⟩,
  ⟨(some 36), .bin .shr .no (.t 35) (.k (.sc (.int .u64 12))), none⟩,
  ⟨(some 37), .conv (.int .u8) (.t 36), none⟩,
  ⟨(some 38), .bin .or .no (.k (.sc (.int .u8 224))) (.t 37), none⟩,
  ⟨(some 39), .move (.t 1), none⟩,
  ⟨(some 40), .bin .shr .no (.t 39) (.k (.sc (.int .u64 6))), none⟩,
  ⟨(some 41), .conv (.int .u8) (.t 40), none⟩,
  ⟨(some 42), .bin .and .no (.t 41) (.k (.sc (.int .u8 63))), none⟩,
  ⟨(some 43), .bin .or .no (.k (.sc (.int .u8 128))) (.t 42), none⟩,
  ⟨(some 44), .move (.t 1), none⟩,
  ⟨(some 45), .conv (.int .u8) (.t 44), none⟩,
  ⟨(some 46), .bin .and .no (.t 45) (.k (.sc (.int .u8 63))), none⟩,
  ⟨(some 47), .bin .or .no (.k (.sc (.int .u8 128))) (.t 46), none⟩,
  ⟨(some 48), .buildSlice 5 1 3 [.int .u8 0] [(0, 1, (.t 38)), (1, 1, (.t 43)), (2, 1, (.t 47))], none⟩,
  ⟨(some 49), .append 5 1 1 [.int .u8 0] (.t 34) (.t 48), none⟩,
  ⟨(some 4), .move (.t 49), none⟩]
def m44_r7 : List MI := [
  ⟨(some 51), .move (.t 5), none⟩,
  ⟨(some 52), .bin .gtr .no (.t 51) (.k (.sc (.int .u32 65535))), none⟩,
  ⟨(some 53), .move (.t 52), none⟩,
  ⟨(some 54), .move (.t 5), (some (53, true))⟩,
  ⟨(some 55), .bin .leq .no (.t 54) (.k (.sc (.int .u32 1114111))), (some (53, true))⟩,
  ⟨(some 56), .pick (.t 53) (.t 55) (.k (.sc (.bool false))), none⟩,
  ⟨(some 50), .move (.t 56), none⟩]
def m44_r8 : List MI := [
  ⟨(some 57), .move (.t 0), none⟩,
  ⟨(some 58), .move (.t 1), none⟩,
  ⟨(some 59), .bin .shr .no (.t 58) (.k (.sc (.int .u64 18))), none⟩,
  ⟨(some 60), .conv (.int .u8) (.t 59), none⟩,
  ⟨(some 61), .bin .or .no (.k (.sc (.int .u8 240))) (.t 60), none⟩,
  ⟨(some 62), .move (.t 1), none⟩,
  ⟨(some 63), .bin .shr .no (.t 62) (.k (.sc (.int .u64 12))), none⟩,
  ⟨(some 64), .conv (.int .u8) (.t 63), none⟩,
  ⟨(some 65), .bin .and .no (.t 64) (.k (.sc (.int .u8 63))), none⟩,
  ⟨(some 66), .bin .or .no (.k (.sc (.int .u8 128))) (.t 65), none⟩,
  ⟨(some 67), .move (.t 1), none⟩,
  ⟨(some 68), .bin .shr .no (.t 67) (.k (.sc (.int .u64 6))), none⟩,
  ⟨(some 69), .conv (.int .u8) (.t 68), none⟩,
  ⟨(some 70), .bin .and .no (.t 69) (.k (.sc (.int .u8 63))), none⟩,
  ⟨(some 71), .bin .or .no (.k (.sc (.int .u8 128))) (.t 70), none⟩,
  ⟨(some 72), .move (.t 1), none⟩,
  ⟨(some 73), .conv (.int .u8) (.t 72), none⟩,
  ⟨(some 74), .bin .and .no (.t 73) (.k (.sc (.int .u8 63))), none⟩,
  ⟨(some 75), .bin .or .no (.k (.sc (.int .u8 128))) (.t 74), none⟩,
  ⟨(some 76), .buildSlice 5 1 4 [.int .u8 0] [(0, 1, (.t 61)), (1, 1, (.t 66)), (2, 1, (.t 71)), (3, 1, (.t 75))], none⟩,
  ⟨(some 77), .append 5 1 1 [.int .u8 0] (.t 57) (.t 76), none⟩,
  ⟨(some 4), .move (.t 77), none⟩]
def m44_r9 : List MI := [
  ⟨(some 8), .move (.t 0), none⟩,
  ⟨(some 9), .buildSlice 5 1 3 [.int .u8 0] [(0, 1, (.k (.sc (.int .u8 239)))), (1, 1, (.k (.sc (.int .u8 191)))), (2, 1, (.k (.sc (.int .u8 189))))], none⟩,
  ⟨(some 10), .append 5 1 1 [.int .u8 0] (.t 8) (.t 9), none⟩,
  ⟨(some 4), .move (.t 10), none⟩]
def m44_code : MCode := (.seq (.ops m44_r0) (.seq (.ops m44_r1) (.block 0 (.seq (.ops m44_r2) (.cond (.t 11) (.seq (.ops m44_r3) .ret) (.seq (.seq (.ops m44_r4) (.cond (.t 25) .skip (.ops m44_r5))) (.cond (.t 25) (.seq (.ops m44_r6) .ret) (.seq (.ops m44_r7) (.cond (.t 50) (.seq (.ops m44_r8) .ret) (.seq (.ops m44_r9) .ret))))))))))
def m44 : MFunc := ⟨78, [.tmp 4], m44_code⟩

def m45_r0 : List MI := [
  ⟨(some 4), .move (.k (.sc (.bool false))), none⟩]
def m45_r1 : List MI := [
  ⟨(some 5), .move (.t 0), none⟩,
  ⟨(some 6), .move (.t 1), none⟩,
  ⟨(some 7), .nilCheck (.t 5), none⟩,
  ⟨(some 8), .indexArr 256 1 (.t 7) (.t 6), none⟩,
  ⟨(some 9), .load none (.t 8), none⟩,
  ⟨(some 4), .move (.t 9), none⟩]
def m45_code : MCode := (.seq (.ops m45_r0) (.seq (.ops m45_r1) .ret))
def m45 : MFunc := ⟨10, [.tmp 4], m45_code⟩

def m46_r0 : List MI := [
  ⟨(some 2), .move (.k (.sc (.int .i32 0))), none⟩,
  ⟨(some 3), .move (.k (.sc (.int .i64 0))), none⟩]
def m46_r1 : List MI := [
  ⟨(some 7), .move (.t 0), none⟩,
  ⟨(some 8), .lenStr (.t 7), none⟩,
  ⟨(some 4), .move (.t 8), none⟩]
def m46_r2 : List MI := [
  ⟨(some 9), .move (.t 4), none⟩,
  ⟨(some 10), .bin .eql .no (.t 9) (.k (.sc (.int .i64 0))), none⟩]
def m46_r3 : List MI := [
  ⟨(some 2), .move (.k (.sc (.int .i32 65533))), none⟩,
  ⟨(some 3), .move (.k (.sc (.int .i64 0))), none⟩]
def m46_r4 : List MI := [
  ⟨(some 11), .move (.t 4), none⟩,
  ⟨(some 12), .bin .sub .no (.t 11) (.k (.sc (.int .i64 1))), none⟩,
  ⟨(some 5), .move (.t 12), none⟩]
def m46_r5 : List MI := [
  ⟨(some 13), .move (.t 0), none⟩,
  ⟨(some 14), .move (.t 5), none⟩,
  ⟨(some 15), .idxStr (.t 13) (.t 14), none⟩,
  ⟨(some 16), .conv (.int .i32) (.t 15), none⟩,
  ⟨(some 2), .move (.t 16), none⟩]
def m46_r6 : List MI := [
  ⟨(some 17), .move (.t 2), none⟩,
  ⟨(some 18), .bin .lss .no (.t 17) (.k (.sc (.int .i32 128))), none⟩]
def m46_r7 : List MI := [
  ⟨(some 19), .move (.t 2), none⟩,
  ⟨(some 2), .move (.t 19), none⟩,
  ⟨(some 3), .move (.k (.sc (.int .i64 1))), none⟩]
def m46_r8 : List MI := [
  ⟨(some 20), .move (.t 4), none⟩,
  ⟨(some 21), .bin .sub .no (.t 20) (.k (.sc (.int .i64 4))), none⟩,
  ⟨(some 22), .max [(.t 21), (.k (.sc (.int .i64 0)))], none⟩,
  ⟨(some 6), .move (.t 22), none⟩]
def m46_r9 : List MI := [
  ⟨(some 23), .move (.t 5), none⟩,
  ⟨(some 24), .bin .sub .no (.t 23) (.k (.sc (.int .i64 1))), none⟩,
  ⟨(some 5), .move (.t 24), none⟩]
def m46_r11 : List MI := [
  ⟨(some 25), .move (.t 5), none⟩,
  ⟨(some 26), .move (.t 6), none⟩,
  ⟨(some 27), .bin .geq .no (.t 25) (.t 26), none⟩]
def m46_r12 : List MI := [
  ⟨(some 30), .move (.t 0), none⟩,
  ⟨(some 31), .move (.t 5), none⟩,
  ⟨(some 32), .idxStr (.t 30) (.t 31), none⟩,
  ⟨(some 33), .call 48 [(.t 32)], none⟩]
def m46_r13 : List MI := [
  ⟨(some 28), .move (.t 5), none⟩,
  ⟨(some 29), .bin .sub .no (.t 28) (.k (.sc (.int .i64 1))), none⟩,
  ⟨(some 5), .move (.t 29), none⟩]
def m46_l10 : MCode := (.seq (.seq (.ops m46_r11) (.cond (.t 27) .skip (.exit 0))) (.seq (.block 1 (.seq (.ops m46_r12) (.cond (.t 33) (.exit 0) .skip))) (.ops m46_r13)))
def m46_r14 : List MI := [
  ⟨(some 34), .move (.t 5), none⟩,
  ⟨(some 35), .bin .lss .no (.t 34) (.k (.sc (.int .i64 0))), none⟩]
def m46_r15 : List MI := [
  ⟨(some 5), .move (.k (.sc (.int .i64 0))), none⟩]
def m46_r16 : List MI := [
  ⟨(some 37), .move (.t 0), none⟩,
  ⟨(some 38), .move (.t 5), none⟩,
  ⟨(some 39), .move (.t 4), none⟩,
  ⟨(some 40), .sliceStr (.t 37) (some (.t 38)) (some (.t 39)), none⟩,
  ⟨(some 41), .call 49 [(.t 40)], none⟩,
  ⟨(some 36), .move (.t 41), none⟩,
  ⟨(some 42), .extract (.t 36) 0, none⟩,
  ⟨(some 43), .extract (.t 36) 1, none⟩,
  ⟨(some 2), .move (.t 42), none⟩,
  ⟨(some 3), .move (.t 43), none⟩]
def m46_r17 : List MI := [
  ⟨(some 44), .move (.t 5), none⟩,
  ⟨(some 45), .move (.t 3), none⟩,
  ⟨(some 46), .bin .add .no (.t 44) (.t 45), none⟩,
  ⟨(some 47), .move (.t 4), none⟩,
  ⟨(some 48), .bin .neq .no (.t 46) (.t 47), none⟩]
def m46_r18 : List MI := [
  ⟨(some 2), .move (.k (.sc (.int .i32 65533))), none⟩,
  ⟨(some 3), .move (.k (.sc (.int .i64 1))), none⟩]
def m46_r19 : List MI := [
  ⟨(some 49), .move (.t 2), none⟩,
  ⟨(some 50), .move (.t 3), none⟩,
  ⟨(some 2), .move (.t 49), none⟩,
  ⟨(some 3), .move (.t 50), none⟩]
def m46_code : MCode := (.seq (.ops m46_r0) (.seq (.ops m46_r1) (.seq (.seq (.ops m46_r2) (.cond (.t 10) (.seq (.ops m46_r3) .ret) .skip)) (.seq (.ops m46_r4) (.seq (.ops m46_r5) (.seq (.seq (.ops m46_r6) (.cond (.t 18) (.seq (.ops m46_r7) .ret) .skip)) (.seq (.ops m46_r8) (.seq (.seq (.ops m46_r9) (.block 0 (.loop m46_l10))) (.seq (.seq (.ops m46_r14) (.cond (.t 35) (.ops m46_r15) .skip)) (.seq (.ops m46_r16) (.seq (.seq (.ops m46_r17) (.cond (.t 48) (.seq (.ops m46_r18) .ret) .skip)) (.seq (.ops m46_r19) .ret))))))))))))
def m46 : MFunc := ⟨51, [.tmp 2, .tmp 3], m46_code⟩

def m47_r0 : List MI := [
  ⟨(some 4), .move (.k (.sc (.bool false))), none⟩]
def m47_r1 : List MI := [
  ⟨(some 5), .move (.t 0), none⟩,
  ⟨(some 6), .move (.t 1), none⟩,
  ⟨(some 7), .call 50 [(.t 5), (.t 6)], none⟩,
  ⟨(some 8), .bin .geq .no (.t 7) (.k (.sc (.int .i64 0))), none⟩,
  ⟨(some 4), .move (.t 8), none⟩]
def m47_code : MCode := (.seq (.ops m47_r0) (.seq (.ops m47_r1) .ret))
def m47 : MFunc := ⟨9, [.tmp 4], m47_code⟩

def m48_r0 : List MI := [
  ⟨(some 2), .move (.k (.sc (.bool false))), none⟩]
def m48_r1 : List MI := [
  ⟨(some 3), .move (.t 0), none⟩,
  ⟨(some 4), .bin .and .no (.t 3) (.k (.sc (.int .u8 192))), none⟩,
  ⟨(some 5), .bin .neq .no (.t 4) (.k (.sc (.int .u8 128))), none⟩,
  ⟨(some 2), .move (.t 5), none⟩]
def m48_code : MCode := (.seq (.ops m48_r0) (.seq (.ops m48_r1) .ret))
def m48 : MFunc := ⟨6, [.tmp 2], m48_code⟩

def m49_r0 : List MI := [
  ⟨(some 2), .move (.k (.sc (.int .i32 0))), none⟩,
  ⟨(some 3), .move (.k (.sc (.int .i64 0))), none⟩]
def m49_r1 : List MI := [
  ⟨(some 4), .move (.t 0), none⟩,
  ⟨(some 5), .bin .neq .no (.t 4) (.k (.sc (.str []))), none⟩,
  ⟨(some 6), .move (.t 5), none⟩,
  ⟨(some 7), .move (.t 0), (some (6, true))⟩,
  ⟨(some 8), .idxStr (.t 7) (.k (.sc (.int .i64 0))), (some (6, true))⟩,
  ⟨(some 9), .bin .lss .no (.t 8) (.k (.sc (.int .u8 128))), (some (6, true))⟩,
  ⟨(some 10), .pick (.t 6) (.t 9) (.k (.sc (.bool false))), none⟩]
def m49_r2 : List MI := [
  ⟨(some 11), .move (.t 0), none⟩,
  ⟨(some 12), .idxStr (.t 11) (.k (.sc (.int .i64 0))), none⟩,
  ⟨(some 13), .conv (.int .i32) (.t 12), none⟩,
  ⟨(some 2), .move (.t 13), none⟩,
  ⟨(some 3), .move (.k (.sc (.int .i64 1))), none⟩]
def m49_r3 : List MI := [
  ⟨(some 15), .move (.t 0), none⟩,
  ⟨(some 16), .call 51 [(.t 15)], none⟩,
  ⟨(some 14), .move (.t 16), none⟩,
  ⟨(some 17), .extract (.t 14) 0, none⟩,
  ⟨(some 18), .extract (.t 14) 1, none⟩,
  ⟨(some 2), .move (.t 17), none⟩,
  ⟨(some 3), .move (.t 18), none⟩]
def m49_code : MCode := (.seq (.ops m49_r0) (.seq (.seq (.ops m49_r1) (.cond (.t 10) (.seq (.ops m49_r2) .ret) (.ops m49_r3))) .ret))
def m49 : MFunc := ⟨19, [.tmp 2, .tmp 3], m49_code⟩

def m50_r0 : List MI := [
  ⟨(some 4), .move (.k (.sc (.int .i64 0))), none⟩]
def m50_r1 : List MI := [
  ⟨(some 161), .move (.t 1), none⟩,
  ⟨(some 162), .bin .leq .no (.k (.sc (.int .i32 0))) (.t 161), none⟩,
  ⟨(some 163), .move (.t 162), none⟩,
  ⟨(some 164), .move (.t 1), (some (163, true))⟩,
  ⟨(some 165), .bin .lss .no (.t 164) (.k (.sc (.int .i32 128))), (some (163, true))⟩,
  ⟨(some 166), .pick (.t 163) (.t 165) (.k (.sc (.bool false))), none⟩,
  ⟨(some 160), .move (.t 166), none⟩]
def m50_r2 : List MI := [
  ⟨(some 167), .move (.t 0), none⟩,
  ⟨(some 168), .move (.t 1), none⟩,
  ⟨(some 169), .conv (.int .u8) (.t 168), none⟩,
  ⟨(some 170), .call 52 [(.t 167), (.t 169)], none⟩,
  ⟨(some 4), .move (.t 170), none⟩]
def m50_r3 : List MI := [
  ⟨(some 172), .move (.t 1), none⟩,
  ⟨(some 173), .bin .eql .no (.t 172) (.k (.sc (.int .i32 65533))), none⟩,
  ⟨(some 171), .move (.t 173), none⟩]
def m50_r4 : List MI := [
  ⟨(some 174), .move (.t 0), none⟩,
  ⟨(some 175), .range (.t 174), none⟩]
def m50_r6 : List MI := [
  ⟨(some 176), .next (.t 175), none⟩,
  ⟨(some 177), .extract (.t 176) 0, none⟩]
def m50_r7 : List MI := [
  ⟨(some 178), .extract (.t 176) 1, none⟩,
  ⟨(some 179), .extract (.t 176) 2, none⟩,
  ⟨(some 5), .move (.t 178), none⟩,
  ⟨(some 6), .move (.t 179), none⟩]
def m50_r8 : List MI := [
  ⟨(some 180), .move (.t 6), none⟩,
  ⟨(some 181), .bin .eql .no (.t 180) (.k (.sc (.int .i32 65533))), none⟩]
def m50_r9 : List MI := [
  ⟨(some 182), .move (.t 5), none⟩,
  ⟨(some 4), .move (.t 182), none⟩]
def m50_l5 : MCode := (.seq (.ops m50_r6) (.seq (.cond (.t 177) .skip (.exit 9)) (.block 10 (.seq (.ops m50_r7) (.seq (.ops m50_r8) (.cond (.t 181) (.seq (.ops m50_r9) .ret) .skip))))))
def m50_r10 : List MI := [
  ⟨(some 4), .move (.k (.sc (.int .i64 (-1)))), none⟩]
def m50_r11 : List MI := [
  ⟨(some 184), .move (.t 1), none⟩,
  ⟨(some 185), .call 53 [(.t 184)], none⟩,
  ⟨(some 186), .un .not (.t 185), none⟩,
  ⟨(some 183), .move (.t 186), none⟩]
def m50_r12 : List MI := [
  ⟨(some 4), .move (.k (.sc (.int .i64 (-1)))), none⟩]
def m50_code : MCode := (.seq (.ops m50_r0) (.block 0 (.seq (.ops m50_r1) (.cond (.t 160) (.seq (.ops m50_r2) .ret) (.seq (.ops m50_r3) (.cond (.t 171) (.seq (.seq (.ops m50_r4) (.block 9 (.loop m50_l5))) (.seq (.ops m50_r10) .ret)) (.seq (.ops m50_r11) (.cond (.t 183) (.seq (.ops m50_r12) .ret) .bad))))))))
def m50 : MFunc := ⟨187, [.tmp 4], m50_code⟩

def m51_r0 : List MI := [
  ⟨(some 2), .move (.k (.sc (.int .i32 0))), none⟩,
  ⟨(some 3), .move (.k (.sc (.int .i64 0))), none⟩]
def m51_r1 : List MI := [
  ⟨(some 13), .move (.t 0), none⟩,
  ⟨(some 14), .lenStr (.t 13), none⟩,
  ⟨(some 4), .move (.t 14), none⟩]
def m51_r2 : List MI := [
  ⟨(some 15), .move (.t 4), none⟩,
  ⟨(some 16), .bin .lss .no (.t 15) (.k (.sc (.int .i64 1))), none⟩]
def m51_r3 : List MI := [
  ⟨(some 2), .move (.k (.sc (.int .i32 65533))), none⟩,
  ⟨(some 3), .move (.k (.sc (.int .i64 0))), none⟩]
def m51_r4 : List MI := [
  ⟨(some 17), .move (.t 0), none⟩,
  ⟨(some 18), .idxStr (.t 17) (.k (.sc (.int .i64 0))), none⟩,
  ⟨(some 5), .move (.t 18), none⟩]
def m51_r5 : List MI := [
  ⟨(some 19), .move (.t 5), none⟩,
  ⟨(some 20), .indexArr 256 1 (.k (.sc (.ptr 0 0))) (.t 19), none⟩,
  ⟨(some 21), .load none (.t 20), none⟩,
  ⟨(some 6), .move (.t 21), none⟩]
def m51_r6 : List MI := [
  ⟨(some 22), .move (.t 6), none⟩,
  ⟨(some 23), .bin .geq .no (.t 22) (.k (.sc (.int .u8 240))), none⟩]
def m51_r7 : List MI := [
  ⟨(some 24), .move (.t 6), none⟩,
  ⟨(some 25), .conv (.int .i32) (.t 24), none⟩,
  ⟨(some 26), .bin .shl .no (.t 25) (.k (.sc (.int .u64 31))), none⟩,
  ⟨(some 27), .bin .shr .no (.t 26) (.k (.sc (.int .u64 31))), none⟩,
  ⟨(some 7), .move (.t 27), none⟩]
def m51_r8 : List MI := [
  ⟨(some 28), .move (.t 0), none⟩,
  ⟨(some 29), .idxStr (.t 28) (.k (.sc (.int .i64 0))), none⟩,
  ⟨(some 30), .conv (.int .i32) (.t 29), none⟩,
  ⟨(some 31), .move (.t 7), none⟩,
  ⟨(some 32), .bin .andNot .no (.t 30) (.t 31), none⟩,
  ⟨(some 33), .move (.t 7), none⟩,
  ⟨(some 34), .bin .and .no (.k (.sc (.int .i32 65533))) (.t 33), none⟩,
  ⟨(some 35), .bin .or .no (.t 32) (.t 34), none⟩,
  ⟨(some 2), .move (.t 35), none⟩,
  ⟨(some 3), .move (.k (.sc (.int .i64 1))), none⟩]
def m51_r9 : List MI := [
  ⟨(some 36), .move (.t 6), none⟩,
  ⟨(some 37), .bin .and .no (.t 36) (.k (.sc (.int .u8 7))), none⟩,
  ⟨(some 38), .conv (.int .i64) (.t 37), none⟩,
  ⟨(some 8), .move (.t 38), none⟩]
def m51_r10 : List MI := [
  ⟨(some 39), .move (.t 6), none⟩,
  ⟨(some 40), .bin .shr .no (.t 39) (.k (.sc (.int .u64 4))), none⟩,
  ⟨(some 41), .indexArr 16 2 (.k (.sc (.ptr 1 0))) (.t 40), none⟩,
  ⟨(some 42), .load (some 2) (.t 41), none⟩,
  ⟨(some 9), .alloc 108 [.int .u8 0, .int .u8 0], none⟩,
  ⟨none, .store 2 (.t 9) (.t 42), none⟩]
def m51_r11 : List MI := [
  ⟨(some 43), .move (.t 4), none⟩,
  ⟨(some 44), .move (.t 8), none⟩,
  ⟨(some 45), .bin .lss .no (.t 43) (.t 44), none⟩]
def m51_r12 : List MI := [
  ⟨(some 2), .move (.k (.sc (.int .i32 65533))), none⟩,
  ⟨(some 3), .move (.k (.sc (.int .i64 1))), none⟩]
def m51_r13 : List MI := [
  ⟨(some 46), .move (.t 0), none⟩,
  ⟨(some 47), .idxStr (.t 46) (.k (.sc (.int .i64 1))), none⟩,
  ⟨(some 10), .move (.t 47), none⟩]
def m51_r14 : List MI := [
  ⟨(some 48), .move (.t 10), none⟩,
  ⟨(some 49), .fieldAddr 0 (.t 9), none⟩,
  ⟨(some 50), .load none (.t 49), none⟩,
  ⟨(some 51), .bin .lss .no (.t 48) (.t 50), none⟩,
  ⟨(some 52), .move (.t 51), none⟩,
  ⟨(some 53), .fieldAddr 1 (.t 9), (some (52, false))⟩,
  ⟨(some 54), .load none (.t 53), (some (52, false))⟩,
  ⟨(some 55), .move (.t 10), (some (52, false))⟩,
  ⟨(some 56), .bin .lss .no (.t 54) (.t 55), (some (52, false))⟩,
  ⟨(some 57), .pick (.t 52) (.k (.sc (.bool true))) (.t 56), none⟩]
def m51_r15 : List MI := [
  ⟨(some 2), .move (.k (.sc (.int .i32 65533))), none⟩,
  ⟨(some 3), .move (.k (.sc (.int .i64 1))), none⟩]
def m51_r16 : List MI := [
  ⟨(some 58), .move (.t 8), none⟩,
  ⟨(some 59), .bin .leq .no (.t 58) (.k (.sc (.int .i64 2))), none⟩]
def m51_r17 : List MI := [
  ⟨(some 60), .move (.t 5), none⟩,
  ⟨(some 61), .bin .and .no (.t 60) (.k (.sc (.int .u8 31))), none⟩,
  ⟨(some 62), .conv (.int .i32) (.t 61), none⟩,
  ⟨(some 63), .bin .shl .no (.t 62) (.k (.sc (.int .u64 6))), none⟩,
  ⟨(some 64), .move (.t 10), none⟩,
  ⟨(some 65), .bin .and .no (.t 64) (.k (.sc (.int .u8 63))), none⟩,
  ⟨(some 66), .conv (.int .i32) (.t 65), none⟩,
  ⟨(some 67), .bin .or .no (.t 63) (.t 66), none⟩,
  ⟨(some 2), .move (.t 67), none⟩,
  ⟨(some 3), .move (.k (.sc (.int .i64 2))), none⟩]
def m51_r18 : List MI := [
  ⟨(some 68), .move (.t 0), none⟩,
  ⟨(some 69), .idxStr (.t 68) (.k (.sc (.int .i64 2))), none⟩,
  ⟨(some 11), .move (.t 69), none⟩]
def m51_r19 : List MI := [
  ⟨(some 70), .move (.t 11), none⟩,
  ⟨(some 71), .bin .lss .no (.t 70) (.k (.sc (.int .u8 128))), none⟩,
  ⟨(some 72), .move (.t 71), none⟩,
  ⟨(some 73), .move (.t 11), (some (72, false))⟩,
  ⟨(some 74), .bin .lss .no (.k (.sc (.int .u8 191))) (.t 73), (some (72, false))⟩,
  ⟨(some 75), .pick (.t 72) (.k (.sc (.bool true))) (.t 74), none⟩]
def m51_r20 : List MI := [
  ⟨(some 2), .move (.k (.sc (.int .i32 65533))), none⟩,
  ⟨(some 3), .move (.k (.sc (.int .i64 1))), none⟩]
def m51_r21 : List MI := [
  ⟨(some 76), .move (.t 8), none⟩,
  ⟨(some 77), .bin .leq .no (.t 76) (.k (.sc (.int .i64 3))), none⟩]
def m51_r22 : List MI := [
  ⟨(some 78), .move (.t 5), none⟩,
  ⟨(some 79), .bin .and .no (.t 78) (.k (.sc (.int .u8 15))), none⟩,
  ⟨(some 80), .conv (.int .i32) (.t 79), none⟩,
  ⟨(some 81), .bin .shl .no (.t 80) (.k (.sc (.int .u64 12))), none⟩,
  ⟨(some 82), .move (.t 10), none⟩,
  ⟨(some 83), .bin .and .no (.t 82) (.k (.sc (.int .u8 63))), none⟩,
  ⟨(some 84), .conv (.int .i32) (.t 83), none⟩,
  ⟨(some 85), .bin .shl .no (.t 84) (.k (.sc (.int .u64 6))), none⟩,
  ⟨(some 86), .bin .or .no (.t 81) (.t 85), none⟩,
  ⟨(some 87), .move (.t 11), none⟩,
  ⟨(some 88), .bin .and .no (.t 87) (.k (.sc (.int .u8 63))), none⟩,
  ⟨(some 89), .conv (.int .i32) (.t 88), none⟩,
  ⟨(some 90), .bin .or .no (.t 86) (.t 89), none⟩,
  ⟨(some 2), .move (.t 90), none⟩,
  ⟨(some 3), .move (.k (.sc (.int .i64 3))), none⟩]
def m51_r23 : List MI := [
  ⟨(some 91), .move (.t 0), none⟩,
  ⟨(some 92), .idxStr (.t 91) (.k (.sc (.int .i64 3))), none⟩,
  ⟨(some 12), .move (.t 92), none⟩]
def m51_r24 : List MI := [
  ⟨(some 93), .move (.t 12), none⟩,
  ⟨(some 94), .bin .lss .no (.t 93) (.k (.sc (.int .u8 128))), none⟩,
  ⟨(some 95), .move (.t 94), none⟩,
  ⟨(some 96), .move (.t 12), (some (95, false))⟩,
  ⟨(some 97), .bin .lss .no (.k (.sc (.int .u8 191))) (.t 96), (some (95, false))⟩,
  ⟨(some 98), .pick (.t 95) (.k (.sc (.bool true))) (.t 97), none⟩]
def m51_r25 : List MI := [
  ⟨(some 2), .move (.k (.sc (.int .i32 65533))), none⟩,
  ⟨(some 3), .move (.k (.sc (.int .i64 1))), none⟩]
def m51_r26 : List MI := [
  ⟨(some 99), .move (.t 5), none⟩,
  ⟨(some 100), .bin .and .no (.t 99) (.k (.sc (.int .u8 7))), none⟩,
  ⟨(some 101), .conv (.int .i32) (.t 100), none⟩,
  ⟨(some 102), .bin .shl .no (.t 101) (.k (.sc (.int .u64 18))), none⟩,
  ⟨(some 103), .move (.t 10), none⟩,
  ⟨(some 104), .bin .and .no (.t 103) (.k (.sc (.int .u8 63))), none⟩,
  ⟨(some 105), .conv (.int .i32) (.t 104), none⟩,
  ⟨(some 106), .bin .shl .no (.t 105) (.k (.sc (.int .u64 12))), none⟩,
  ⟨(some 107), .bin .or .no (.t 102) (.t 106), none⟩,
  ⟨(some 108), .move (.t 11), none⟩,
  ⟨(some 109), .bin .and .no (.t 108) (.k (.sc (.int .u8 63))), none⟩,
  ⟨(some 110), .conv (.int .i32) (.t 109), none⟩,
  ⟨(some 111), .bin .shl .no (.t 110) (.k (.sc (.int .u64 6))), none⟩,
  ⟨(some 112), .bin .or .no (.t 107) (.t 111), none⟩,
  ⟨(some 113), .move (.t 12), none⟩,
  ⟨(some 114), .bin .and .no (.t 113) (.k (.sc (.int .u8 63))), none⟩,
  ⟨(some 115), .conv (.int .i32) (.t 114), none⟩,
  ⟨(some 116), .bin .or .no (.t 112) (.t 115), none⟩,
  ⟨(some 2), .move (.t 116), none⟩,
  ⟨(some 3), .move (.k (.sc (.int .i64 4))), none⟩]
def m51_code : MCode := (.seq (.ops m51_r0) (.seq (.ops m51_r1) (.seq (.seq (.ops m51_r2) (.cond (.t 16) (.seq (.ops m51_r3) .ret) .skip)) (.seq (.ops m51_r4) (.seq (.ops m51_r5) (.seq (.seq (.ops m51_r6) (.cond (.t 23) (.seq (.ops m51_r7) (.seq (.ops m51_r8) .ret)) .skip)) (.seq (.ops m51_r9) (.seq (.ops m51_r10) (.seq (.seq (.ops m51_r11) (.cond (.t 45) (.seq (.ops m51_r12) .ret) .skip)) (.seq (.ops m51_r13) (.seq (.seq (.ops m51_r14) (.cond (.t 57) (.seq (.ops m51_r15) .ret) .skip)) (.seq (.seq (.ops m51_r16) (.cond (.t 59) (.seq (.ops m51_r17) .ret) .skip)) (.seq (.ops m51_r18) (.seq (.seq (.ops m51_r19) (.cond (.t 75) (.seq (.ops m51_r20) .ret) .skip)) (.seq (.seq (.ops m51_r21) (.cond (.t 77) (.seq (.ops m51_r22) .ret) .skip)) (.seq (.ops m51_r23) (.seq (.seq (.ops m51_r24) (.cond (.t 98) (.seq (.ops m51_r25) .ret) .skip)) (.seq (.ops m51_r26) .ret))))))))))))))))))
def m51 : MFunc := ⟨117, [.tmp 2, .tmp 3], m51_code⟩

def m52_r0 : List MI := [
  ⟨(some 4), .move (.k (.sc (.int .i64 0))), none⟩]
def m52_r1 : List MI := [
  ⟨(some 5), .move (.t 0), none⟩,
  ⟨(some 6), .move (.t 1), none⟩,
  ⟨(some 7), .call 56 [(.t 5), (.t 6)], none⟩,
  ⟨(some 4), .move (.t 7), none⟩]
def m52_code : MCode := (.seq (.ops m52_r0) (.seq (.ops m52_r1) .ret))
def m52 : MFunc := ⟨8, [.tmp 4], m52_code⟩

def m53_r0 : List MI := [
  ⟨(some 2), .move (.k (.sc (.bool false))), none⟩]
def m53_r1 : List MI := [
  ⟨(some 4), .move (.t 0), none⟩,
  ⟨(some 5), .bin .leq .no (.k (.sc (.int .i32 0))) (.t 4), none⟩,
  ⟨(some 6), .move (.t 5), none⟩,
  ⟨(some 7), .move (.t 0), (some (6, true))⟩,
  ⟨(some 8), .bin .lss .no (.t 7) (.k (.sc (.int .i32 55296))), (some (6, true))⟩,
  ⟨(some 9), .pick (.t 6) (.t 8) (.k (.sc (.bool false))), none⟩,
  ⟨(some 3), .move (.t 9), none⟩]
def m53_r2 : List MI := [
  ⟨(some 2), .move (.k (.sc (.bool true))), none⟩]
def m53_r3 : List MI := [
  ⟨(some 11), .move (.t 0), none⟩,
  ⟨(some 12), .bin .lss .no (.k (.sc (.int .i32 57343))) (.t 11), none⟩,
  ⟨(some 13), .move (.t 12), none⟩,
  ⟨(some 14), .move (.t 0), (some (13, true))⟩,
  ⟨(some 15), .bin .leq .no (.t 14) (.k (.sc (.int .i32 1114111))), (some (13, true))⟩,
  ⟨(some 16), .pick (.t 13) (.t 15) (.k (.sc (.bool false))), none⟩,
  ⟨(some 10), .move (.t 16), none⟩]
def m53_r4 : List MI := [
  ⟨(some 2), .move (.k (.sc (.bool true))), none⟩]
def m53_r5 : List MI := [
  ⟨(some 2), .move (.k (.sc (.bool false))), none⟩]
def m53_code : MCode := (.seq (.ops m53_r0) (.seq (.block 0 (.seq (.ops m53_r1) (.cond (.t 3) (.seq (.ops m53_r2) .ret) (.seq (.ops m53_r3) (.cond (.t 10) (.seq (.ops m53_r4) .ret) .skip))))) (.seq (.ops m53_r5) .ret)))
def m53 : MFunc := ⟨17, [.tmp 2], m53_code⟩

def m56_r0 : List MI := [
  ⟨(some 4), .move (.k (.sc (.int .i64 0))), none⟩]
def m56_r1 : List MI := [
  ⟨(some 5), .move (.t 0), none⟩,
  ⟨(some 6), .move (.t 1), none⟩,
  ⟨(some 7), .indexByte (.t 5) (.t 6), none⟩,
  ⟨(some 4), .move (.t 7), none⟩]
def m56_code : MCode := (.seq (.ops m56_r0) (.seq (.ops m56_r1) .ret))
def m56 : MFunc := ⟨8, [.tmp 4], m56_code⟩

def DD0 : Nat → Option MFunc := fun f => match f with
  | 3 => some m3
  | 4 => some m4
  | 5 => some m5
  | 6 => some m6
  | 7 => some m7
  | 8 => some m8
  | 9 => some m9
  | 10 => some m10
  | 11 => some m11
  | 12 => some m12
  | 13 => some m13
  | 14 => some m14
  | 15 => some m15
  | 16 => some m16
  | 17 => some m17
  | 18 => some m18
  | 19 => some m19
  | 20 => some m20
  | 21 => some m21
  | 22 => some m22
  | 23 => some m23
  | 24 => some m24
  | 25 => some m25
  | 26 => some m26
  | 27 => some m27
  | 28 => some m28
  | 29 => some m29
  | 30 => some m30
  | 31 => some m31
  | 32 => some m32
  | 33 => some m33
  | 34 => some m34
  | 35 => some m35
  | 36 => some m36
  | 37 => some m37
  | 38 => some m38
  | 39 => some m39
  | 40 => some m40
  | 41 => some m41
  | 42 => some m42
  | 44 => some m44
  | 45 => some m45
  | 46 => some m46
  | 47 => some m47
  | 48 => some m48
  | 49 => some m49
  | 50 => some m50
  | 51 => some m51
  | 52 => some m52
  | 53 => some m53
  | 56 => some m56
  | _ => none
def DD : Nat → Option MFunc := withKnown [9] DD0
theorem c3 : mfun Tryd.prog jxX 3 = some m3 := by kernel_rfl
theorem c4 : mfun Tryd.prog jxX 4 = some m4 := by kernel_rfl
theorem c5 : mfun Tryd.prog jxX 5 = some m5 := by kernel_rfl
theorem c6 : mfun Tryd.prog jxX 6 = some m6 := by kernel_rfl
theorem c7 : mfun Tryd.prog jxX 7 = some m7 := by kernel_rfl
theorem c8 : mfun Tryd.prog jxX 8 = some m8 := by kernel_rfl
theorem c9 : mfun Tryd.prog jxX 9 = some m9 := by kernel_rfl
theorem c10 : mfun Tryd.prog jxX 10 = some m10 := by kernel_rfl
theorem c11 : mfun Tryd.prog jxX 11 = some m11 := by kernel_rfl
theorem c12 : mfun Tryd.prog jxX 12 = some m12 := by kernel_rfl
theorem c13 : mfun Tryd.prog jxX 13 = some m13 := by kernel_rfl
theorem c14 : mfun Tryd.prog jxX 14 = some m14 := by kernel_rfl
theorem c15 : mfun Tryd.prog jxX 15 = some m15 := by kernel_rfl
theorem c16 : mfun Tryd.prog jxX 16 = some m16 := by kernel_rfl
theorem c17 : mfun Tryd.prog jxX 17 = some m17 := by kernel_rfl
theorem c18 : mfun Tryd.prog jxX 18 = some m18 := by kernel_rfl
theorem c19 : mfun Tryd.prog jxX 19 = some m19 := by kernel_rfl
theorem c20 : mfun Tryd.prog jxX 20 = some m20 := by kernel_rfl
theorem c21 : mfun Tryd.prog jxX 21 = some m21 := by kernel_rfl
theorem c22 : mfun Tryd.prog jxX 22 = some m22 := by kernel_rfl
theorem c23 : mfun Tryd.prog jxX 23 = some m23 := by kernel_rfl
theorem c24 : mfun Tryd.prog jxX 24 = some m24 := by kernel_rfl
theorem c25 : mfun Tryd.prog jxX 25 = some m25 := by kernel_rfl
theorem c26 : mfun Tryd.prog jxX 26 = some m26 := by kernel_rfl
theorem c27 : mfun Tryd.prog jxX 27 = some m27 := by kernel_rfl
theorem c28 : mfun Tryd.prog jxX 28 = some m28 := by kernel_rfl
theorem c29 : mfun Tryd.prog jxX 29 = some m29 := by kernel_rfl
theorem c30 : mfun Tryd.prog jxX 30 = some m30 := by kernel_rfl
theorem c31 : mfun Tryd.prog jxX 31 = some m31 := by kernel_rfl
theorem c32 : mfun Tryd.prog jxX 32 = some m32 := by kernel_rfl
theorem c33 : mfun Tryd.prog jxX 33 = some m33 := by kernel_rfl
theorem c34 : mfun Tryd.prog jxX 34 = some m34 := by kernel_rfl
theorem c35 : mfun Tryd.prog jxX 35 = some m35 := by kernel_rfl
theorem c36 : mfun Tryd.prog jxX 36 = some m36 := by kernel_rfl
theorem c37 : mfun Tryd.prog jxX 37 = some m37 := by kernel_rfl
theorem c38 : mfun Tryd.prog jxX 38 = some m38 := by kernel_rfl
theorem c39 : mfun Tryd.prog jxX 39 = some m39 := by kernel_rfl
theorem c40 : mfun Tryd.prog jxX 40 = some m40 := by kernel_rfl
theorem c41 : mfun Tryd.prog jxX 41 = some m41 := by kernel_rfl
theorem c42 : mfun Tryd.prog jxX 42 = some m42 := by kernel_rfl
theorem c44 : mfun Tryd.prog jxX 44 = some m44 := by kernel_rfl
theorem c45 : mfun Tryd.prog jxX 45 = some m45 := by kernel_rfl
theorem c46 : mfun Tryd.prog jxX 46 = some m46 := by kernel_rfl
theorem c47 : mfun Tryd.prog jxX 47 = some m47 := by kernel_rfl
theorem c48 : mfun Tryd.prog jxX 48 = some m48 := by kernel_rfl
theorem c49 : mfun Tryd.prog jxX 49 = some m49 := by kernel_rfl
theorem c50 : mfun Tryd.prog jxX 50 = some m50 := by kernel_rfl
theorem c51 : mfun Tryd.prog jxX 51 = some m51 := by kernel_rfl
theorem c52 : mfun Tryd.prog jxX 52 = some m52 := by kernel_rfl
theorem c53 : mfun Tryd.prog jxX 53 = some m53 := by kernel_rfl
theorem c56 : mfun Tryd.prog jxX 56 = some m56 := by kernel_rfl
theorem d3 : DD 3 = some m3 := rfl
theorem d4 : DD 4 = some m4 := rfl
theorem d5 : DD 5 = some m5 := rfl
theorem d6 : DD 6 = some m6 := rfl
theorem d7 : DD 7 = some m7 := rfl
theorem d8 : DD 8 = some m8 := rfl
theorem d9 : DD 9 = some knownM := rfl
theorem d10 : DD 10 = some m10 := rfl
theorem d11 : DD 11 = some m11 := rfl
theorem d12 : DD 12 = some m12 := rfl
theorem d13 : DD 13 = some m13 := rfl
theorem d14 : DD 14 = some m14 := rfl
theorem d15 : DD 15 = some m15 := rfl
theorem d16 : DD 16 = some m16 := rfl
theorem d17 : DD 17 = some m17 := rfl
theorem d18 : DD 18 = some m18 := rfl
theorem d19 : DD 19 = some m19 := rfl
theorem d20 : DD 20 = some m20 := rfl
theorem d21 : DD 21 = some m21 := rfl
theorem d22 : DD 22 = some m22 := rfl
theorem d23 : DD 23 = some m23 := rfl
theorem d24 : DD 24 = some m24 := rfl
theorem d25 : DD 25 = some m25 := rfl
theorem d26 : DD 26 = some m26 := rfl
theorem d27 : DD 27 = some m27 := rfl
theorem d28 : DD 28 = some m28 := rfl
theorem d29 : DD 29 = some m29 := rfl
theorem d30 : DD 30 = some m30 := rfl
theorem d31 : DD 31 = some m31 := rfl
theorem d32 : DD 32 = some m32 := rfl
theorem d33 : DD 33 = some m33 := rfl
theorem d34 : DD 34 = some m34 := rfl
theorem d35 : DD 35 = some m35 := rfl
theorem d36 : DD 36 = some m36 := rfl
theorem d37 : DD 37 = some m37 := rfl
theorem d38 : DD 38 = some m38 := rfl
theorem d39 : DD 39 = some m39 := rfl
theorem d40 : DD 40 = some m40 := rfl
theorem d41 : DD 41 = some m41 := rfl
theorem d42 : DD 42 = some m42 := rfl
theorem d44 : DD 44 = some m44 := rfl
theorem d45 : DD 45 = some m45 := rfl
theorem d46 : DD 46 = some m46 := rfl
theorem d47 : DD 47 = some m47 := rfl
theorem d48 : DD 48 = some m48 := rfl
theorem d49 : DD 49 = some m49 := rfl
theorem d50 : DD 50 = some m50 := rfl
theorem d51 : DD 51 = some m51 := rfl
theorem d52 : DD 52 = some m52 := rfl
theorem d53 : DD 53 = some m53 := rfl
theorem d56 : DD 56 = some m56 := rfl
theorem DD0_ok (w : World) : FunOk Tryd.prog w jxX DD0 := by
  intro f m h
  refine mfun_ok _ w _ f m ?_
  unfold DD0 at h
  split at h
  · cases h; exact c3
  · cases h; exact c4
  · cases h; exact c5
  · cases h; exact c6
  · cases h; exact c7
  · cases h; exact c8
  · cases h; exact c9
  · cases h; exact c10
  · cases h; exact c11
  · cases h; exact c12
  · cases h; exact c13
  · cases h; exact c14
  · cases h; exact c15
  · cases h; exact c16
  · cases h; exact c17
  · cases h; exact c18
  · cases h; exact c19
  · cases h; exact c20
  · cases h; exact c21
  · cases h; exact c22
  · cases h; exact c23
  · cases h; exact c24
  · cases h; exact c25
  · cases h; exact c26
  · cases h; exact c27
  · cases h; exact c28
  · cases h; exact c29
  · cases h; exact c30
  · cases h; exact c31
  · cases h; exact c32
  · cases h; exact c33
  · cases h; exact c34
  · cases h; exact c35
  · cases h; exact c36
  · cases h; exact c37
  · cases h; exact c38
  · cases h; exact c39
  · cases h; exact c40
  · cases h; exact c41
  · cases h; exact c42
  · cases h; exact c44
  · cases h; exact c45
  · cases h; exact c46
  · cases h; exact c47
  · cases h; exact c48
  · cases h; exact c49
  · cases h; exact c50
  · cases h; exact c51
  · cases h; exact c52
  · cases h; exact c53
  · cases h; exact c56
  · cases h
end Go.Proofs.YtllhbhhgihdakaaDoor
