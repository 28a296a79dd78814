/- The plain machine's functions of this seat, as a program of mine printed them (Prt.lean), and that they are what compiling gives. -/
import Derived.Test.YtdaeglcplpmlpaaJxKRun
import Derived.Test.YtdaeglcplpmlpaaJxW3
import Derived.Test.YtdaeglcplpmlpaaChecked
namespace Go.Proofs.Ytdaeglcplpmlpaa
open Go Go.Jx
def jxX : Exts := exts [9,9,0,0,0,0,0,0,0,0,0,0,0,0,0,0,0,0,0,0,0,0]
def m3_r0 : List MI := [
  ⟨(some 0), .move (.k (.sc (.bool false))), none⟩]
def m3_r1 : List MI := [
  ⟨(some 1), .move (.k (.sc (.int .i64 (-1)))), none⟩]
def m3_r3 : List MI := [
  ⟨(some 3), .move (.t 1), none⟩,
  ⟨(some 4), .bin .leq .no (.t 3) (.k (.sc (.int .i64 14))), none⟩]
def m3_r4 : List MI := [
  ⟨(some 2), .move (.k (.sc (.int .i64 0))), none⟩]
def m3_r6 : List MI := [
  ⟨(some 7), .move (.t 2), none⟩,
  ⟨(some 8), .bin .lss .no (.t 7) (.k (.sc (.int .i64 256))), none⟩]
def m3_r7 : List MI := [
  ⟨(some 11), .move (.t 1), none⟩,
  ⟨(some 12), .move (.t 2), none⟩,
  ⟨(some 13), .conv (.int .u8) (.t 12), none⟩,
  ⟨(some 14), .call 5 [(.t 11), (.t 13)], none⟩,
  ⟨(some 15), .un .not (.t 14), none⟩]
def m3_r8 : List MI := [
  ⟨(some 0), .move (.k (.sc (.bool false))), none⟩]
def m3_r9 : List MI := [
  ⟨(some 9), .move (.t 2), none⟩,
  ⟨(some 10), .bin .add .no (.t 9) (.k (.sc (.int .i64 1))), none⟩,
  ⟨(some 2), .move (.t 10), none⟩]
def m3_l5 : MCode := (.seq (.seq (.ops m3_r6) (.cond (.t 8) .skip (.exit 2))) (.seq (.block 3 (.seq (.ops m3_r7) (.cond (.t 15) (.seq (.ops m3_r8) .ret) .skip))) (.ops m3_r9)))
def m3_r10 : List MI := [
  ⟨(some 5), .move (.t 1), none⟩,
  ⟨(some 6), .bin .add .no (.t 5) (.k (.sc (.int .i64 1))), none⟩,
  ⟨(some 1), .move (.t 6), none⟩]
def m3_l2 : MCode := (.seq (.seq (.ops m3_r3) (.cond (.t 4) .skip (.exit 0))) (.seq (.block 1 (.seq (.ops m3_r4) (.block 2 (.loop m3_l5)))) (.ops m3_r10)))
def m3_r11 : List MI := [
  ⟨(some 16), .call 8 [], none⟩,
  ⟨(some 0), .move (.t 16), none⟩]
def m3_code : MCode := (.seq (.ops m3_r0) (.seq (.seq (.ops m3_r1) (.block 0 (.loop m3_l2))) (.seq (.ops m3_r11) .ret)))
def m3 : MFunc := ⟨17, [.tmp 0], m3_code⟩

def m4_r0 : List MI := [
  ⟨(some 0), .move (.k (.sc (.bool false))), none⟩]
def m4_r1 : List MI := [
  ⟨(some 1), .move (.k (.sc (.int .i64 (-1)))), none⟩]
def m4_r3 : List MI := [
  ⟨(some 3), .move (.t 1), none⟩,
  ⟨(some 4), .bin .leq .no (.t 3) (.k (.sc (.int .i64 14))), none⟩]
def m4_r4 : List MI := [
  ⟨(some 2), .move (.k (.sc (.int .i64 (-1)))), none⟩]
def m4_r6 : List MI := [
  ⟨(some 7), .move (.t 2), none⟩,
  ⟨(some 8), .bin .leq .no (.t 7) (.k (.sc (.int .i64 14))), none⟩]
def m4_r7 : List MI := [
  ⟨(some 11), .move (.t 1), none⟩,
  ⟨(some 12), .move (.t 2), none⟩,
  ⟨(some 13), .call 9 [(.t 11), (.t 12)], none⟩,
  ⟨(some 14), .move (.t 1), none⟩,
  ⟨(some 15), .move (.t 2), none⟩,
  ⟨(some 16), .bin .neq .no (.t 14) (.t 15), none⟩,
  ⟨(some 17), .move (.t 16), none⟩,
  ⟨(some 18), .move (.t 2), (some (17, true))⟩,
  ⟨(some 19), .bin .eql .no (.t 18) (.k (.sc (.int .i64 1))), (some (17, true))⟩,
  ⟨(some 20), .move (.t 19), (some (17, true))⟩,
  ⟨(some 21), .move (.t 2), (some (20, false))⟩,
  ⟨(some 22), .bin .eql .no (.t 21) (.k (.sc (.int .i64 3))), (some (20, false))⟩,
  ⟨(some 23), .pick (.t 20) (.k (.sc (.bool true))) (.t 22), (some (17, true))⟩,
  ⟨(some 24), .move (.t 23), (some (17, true))⟩,
  ⟨(some 25), .move (.t 2), (some (24, false))⟩,
  ⟨(some 26), .bin .eql .no (.t 25) (.k (.sc (.int .i64 7))), (some (24, false))⟩,
  ⟨(some 27), .pick (.t 24) (.k (.sc (.bool true))) (.t 26), (some (17, true))⟩,
  ⟨(some 28), .move (.t 27), (some (17, true))⟩,
  ⟨(some 29), .move (.t 2), (some (28, false))⟩,
  ⟨(some 30), .bin .eql .no (.t 29) (.k (.sc (.int .i64 12))), (some (28, false))⟩,
  ⟨(some 31), .pick (.t 28) (.k (.sc (.bool true))) (.t 30), (some (17, true))⟩,
  ⟨(some 32), .pick (.t 17) (.t 31) (.k (.sc (.bool false))), none⟩,
  ⟨(some 33), .bin .neq .bool (.t 13) (.t 32), none⟩,
  ⟨(some 34), .move (.t 33), none⟩,
  ⟨(some 35), .move (.t 1), (some (34, false))⟩,
  ⟨(some 36), .move (.t 2), (some (34, false))⟩,
  ⟨(some 37), .call 10 [(.t 35), (.t 36)], (some (34, false))⟩,
  ⟨(some 38), .move (.t 1), (some (34, false))⟩,
  ⟨(some 39), .move (.t 2), (some (34, false))⟩,
  ⟨(some 40), .bin .neq .no (.t 38) (.t 39), (some (34, false))⟩,
  ⟨(some 41), .move (.t 40), (some (34, false))⟩,
  ⟨(some 42), .move (.t 1), (some (41, true))⟩,
  ⟨(some 43), .bin .eql .no (.t 42) (.k (.sc (.int .i64 10))), (some (41, true))⟩,
  ⟨(some 44), .move (.t 43), (some (41, true))⟩,
  ⟨(some 45), .move (.t 1), (some (44, false))⟩,
  ⟨(some 46), .bin .eql .no (.t 45) (.k (.sc (.int .i64 12))), (some (44, false))⟩,
  ⟨(some 47), .pick (.t 44) (.k (.sc (.bool true))) (.t 46), (some (41, true))⟩,
  ⟨(some 48), .pick (.t 41) (.t 47) (.k (.sc (.bool false))), (some (34, false))⟩,
  ⟨(some 49), .bin .neq .bool (.t 37) (.t 48), (some (34, false))⟩,
  ⟨(some 50), .pick (.t 34) (.k (.sc (.bool true))) (.t 49), none⟩]
def m4_r8 : List MI := [
  ⟨(some 0), .move (.k (.sc (.bool false))), none⟩]
def m4_r9 : List MI := [
  ⟨(some 9), .move (.t 2), none⟩,
  ⟨(some 10), .bin .add .no (.t 9) (.k (.sc (.int .i64 1))), none⟩,
  ⟨(some 2), .move (.t 10), none⟩]
def m4_l5 : MCode := (.seq (.seq (.ops m4_r6) (.cond (.t 8) .skip (.exit 2))) (.seq (.block 3 (.seq (.ops m4_r7) (.cond (.t 50) (.seq (.ops m4_r8) .ret) .skip))) (.ops m4_r9)))
def m4_r10 : List MI := [
  ⟨(some 5), .move (.t 1), none⟩,
  ⟨(some 6), .bin .add .no (.t 5) (.k (.sc (.int .i64 1))), none⟩,
  ⟨(some 1), .move (.t 6), none⟩]
def m4_l2 : MCode := (.seq (.seq (.ops m4_r3) (.cond (.t 4) .skip (.exit 0))) (.seq (.block 1 (.seq (.ops m4_r4) (.block 2 (.loop m4_l5)))) (.ops m4_r10)))
def m4_r11 : List MI := [
  ⟨(some 51), .move (.k (.sc (.bool true))), none⟩,
  ⟨(some 52), .call 8 [], (some (51, true))⟩,
  ⟨(some 53), .pick (.t 51) (.t 52) (.k (.sc (.bool false))), none⟩,
  ⟨(some 54), .move (.t 53), none⟩,
  ⟨(some 55), .call 11 [(.k (.sc (.int .i64 12))), (.k (.sc (.int .u8 7))), (.k (.sc (.int .i64 0))), (.k (.sc (.int .i64 0)))], (some (54, true))⟩,
  ⟨(some 56), .pick (.t 54) (.t 55) (.k (.sc (.bool false))), none⟩,
  ⟨(some 57), .move (.t 56), none⟩,
  ⟨(some 58), .call 11 [(.k (.sc (.int .i64 99))), (.k (.sc (.int .u8 65))), (.k (.sc (.int .i64 1))), (.k (.sc (.int .i64 0)))], (some (57, true))⟩,
  ⟨(some 59), .pick (.t 57) (.t 58) (.k (.sc (.bool false))), none⟩,
  ⟨(some 0), .move (.t 59), none⟩]
def m4_code : MCode := (.seq (.ops m4_r0) (.seq (.seq (.ops m4_r1) (.block 0 (.loop m4_l2))) (.seq (.ops m4_r11) .ret)))
def m4 : MFunc := ⟨60, [.tmp 0], m4_code⟩

def m5_r0 : List MI := [
  ⟨(some 4), .move (.k (.sc (.bool false))), none⟩]
def m5_r1 : List MI := [
  ⟨(some 9), .call 8 [], none⟩,
  ⟨(some 10), .un .not (.t 9), none⟩]
def m5_r2 : List MI := [
  ⟨(some 4), .move (.k (.sc (.bool false))), none⟩]
def m5_r3 : List MI := [
  ⟨(some 12), .move (.t 0), none⟩,
  ⟨(some 13), .move (.t 1), none⟩,
  ⟨(some 14), .call 12 [(.t 12), (.t 13)], none⟩,
  ⟨(some 11), .move (.t 14), none⟩,
  ⟨(some 15), .extract (.t 11) 0, none⟩,
  ⟨(some 16), .extract (.t 11) 1, none⟩,
  ⟨(some 5), .move (.t 15), none⟩,
  ⟨(some 6), .move (.t 16), none⟩]
def m5_r4 : List MI := [
  ⟨(some 18), .move (.t 0), none⟩,
  ⟨(some 19), .move (.t 1), none⟩,
  ⟨(some 20), .call 13 [(.t 18), (.t 19)], none⟩,
  ⟨(some 17), .move (.t 20), none⟩,
  ⟨(some 21), .extract (.t 17) 0, none⟩,
  ⟨(some 22), .extract (.t 17) 1, none⟩,
  ⟨(some 7), .move (.t 21), none⟩,
  ⟨(some 8), .move (.t 22), none⟩]
def m5_r5 : List MI := [
  ⟨(some 23), .move (.t 5), none⟩,
  ⟨(some 24), .move (.t 7), none⟩,
  ⟨(some 25), .bin .eql .no (.t 23) (.t 24), none⟩,
  ⟨(some 26), .move (.t 25), none⟩,
  ⟨(some 27), .move (.t 6), (some (26, true))⟩,
  ⟨(some 28), .move (.t 8), (some (26, true))⟩,
  ⟨(some 29), .bin .eql .no (.t 27) (.t 28), (some (26, true))⟩,
  ⟨(some 30), .pick (.t 26) (.t 29) (.k (.sc (.bool false))), none⟩,
  ⟨(some 4), .move (.t 30), none⟩]
def m5_code : MCode := (.seq (.ops m5_r0) (.seq (.seq (.ops m5_r1) (.cond (.t 10) (.seq (.ops m5_r2) .ret) .skip)) (.seq (.ops m5_r3) (.seq (.ops m5_r4) (.seq (.ops m5_r5) .ret)))))
def m5 : MFunc := ⟨31, [.tmp 4], m5_code⟩

def m6_r0 : List MI := [
  ⟨(some 6), .move (.k (.sc (.bool false))), none⟩]
def m6_r1 : List MI := [
  ⟨(some 9), .call 8 [], none⟩,
  ⟨(some 10), .un .not (.t 9), none⟩]
def m6_r2 : List MI := [
  ⟨(some 6), .move (.k (.sc (.bool false))), none⟩]
def m6_r3 : List MI := [
  ⟨(some 11), .move (.t 1), none⟩,
  ⟨(some 12), .lenStr (.t 11), none⟩,
  ⟨(some 13), .bin .gtr .no (.t 12) (.k (.sc (.int .i64 3000))), none⟩,
  ⟨(some 14), .move (.t 13), none⟩,
  ⟨(some 15), .move (.t 2), (some (14, false))⟩,
  ⟨(some 16), .lenStr (.t 15), (some (14, false))⟩,
  ⟨(some 17), .bin .gtr .no (.t 16) (.k (.sc (.int .i64 3000))), (some (14, false))⟩,
  ⟨(some 18), .pick (.t 14) (.k (.sc (.bool true))) (.t 17), none⟩]
def m6_r4 : List MI := [
  ⟨(some 6), .move (.k (.sc (.bool true))), none⟩]
def m6_r5 : List MI := [
  ⟨(some 19), .move (.t 0), none⟩,
  ⟨(some 20), .bin .rem .no (.t 19) (.k (.sc (.int .u8 14))), none⟩,
  ⟨(some 21), .conv (.int .i64) (.t 20), none⟩,
  ⟨(some 7), .move (.t 21), none⟩]
def m6_r6 : List MI := [
  ⟨(some 22), .move (.t 7), none⟩,
  ⟨(some 23), .move (.t 1), none⟩,
  ⟨(some 24), .call 14 [(.t 22), (.t 23)], none⟩,
  ⟨(some 8), .move (.t 24), none⟩]
def m6_r7 : List MI := [
  ⟨(some 25), .move (.t 8), none⟩,
  ⟨(some 26), .bin .lss .no (.t 25) (.k (.sc (.int .i64 0))), none⟩,
  ⟨(some 27), .move (.t 26), none⟩,
  ⟨(some 28), .move (.t 8), (some (27, false))⟩,
  ⟨(some 29), .bin .gtr .no (.t 28) (.k (.sc (.int .i64 13))), (some (27, false))⟩,
  ⟨(some 30), .pick (.t 27) (.k (.sc (.bool true))) (.t 29), none⟩]
def m6_r8 : List MI := [
  ⟨(some 6), .move (.k (.sc (.bool false))), none⟩]
def m6_r9 : List MI := [
  ⟨(some 31), .move (.t 7), none⟩,
  ⟨(some 32), .move (.t 1), none⟩,
  ⟨(some 33), .bin .add .no (.t 32) (.k (.sc (.str [24]))), none⟩,
  ⟨(some 34), .move (.t 2), none⟩,
  ⟨(some 35), .bin .add .no (.t 33) (.t 34), none⟩,
  ⟨(some 36), .call 14 [(.t 31), (.t 35)], none⟩,
  ⟨(some 37), .move (.t 2), none⟩,
  ⟨(some 38), .call 14 [(.k (.sc (.int .i64 0))), (.t 37)], none⟩,
  ⟨(some 39), .bin .eql .no (.t 36) (.t 38), none⟩,
  ⟨(some 40), .move (.t 39), none⟩,
  ⟨(some 41), .move (.t 7), (some (40, true))⟩,
  ⟨(some 42), .move (.t 1), (some (40, true))⟩,
  ⟨(some 43), .bin .add .no (.t 42) (.k (.sc (.str [27]))), (some (40, true))⟩,
  ⟨(some 44), .move (.t 2), (some (40, true))⟩,
  ⟨(some 45), .bin .add .no (.t 43) (.t 44), (some (40, true))⟩,
  ⟨(some 46), .call 14 [(.t 41), (.t 45)], (some (40, true))⟩,
  ⟨(some 47), .move (.t 2), (some (40, true))⟩,
  ⟨(some 48), .call 14 [(.k (.sc (.int .i64 1))), (.t 47)], (some (40, true))⟩,
  ⟨(some 49), .bin .eql .no (.t 46) (.t 48), (some (40, true))⟩,
  ⟨(some 50), .pick (.t 40) (.t 49) (.k (.sc (.bool false))), none⟩,
  ⟨(some 51), .move (.t 50), none⟩,
  ⟨(some 52), .move (.t 7), (some (51, true))⟩,
  ⟨(some 53), .move (.t 1), (some (51, true))⟩,
  ⟨(some 54), .bin .add .no (.t 53) (.k (.sc (.str [26]))), (some (51, true))⟩,
  ⟨(some 55), .call 14 [(.t 52), (.t 54)], (some (51, true))⟩,
  ⟨(some 56), .bin .eql .no (.t 55) (.k (.sc (.int .i64 0))), (some (51, true))⟩,
  ⟨(some 57), .pick (.t 51) (.t 56) (.k (.sc (.bool false))), none⟩,
  ⟨(some 6), .move (.t 57), none⟩]
def m6_code : MCode := (.seq (.ops m6_r0) (.seq (.seq (.ops m6_r1) (.cond (.t 10) (.seq (.ops m6_r2) .ret) .skip)) (.seq (.seq (.ops m6_r3) (.cond (.t 18) (.seq (.ops m6_r4) .ret) .skip)) (.seq (.ops m6_r5) (.seq (.ops m6_r6) (.seq (.seq (.ops m6_r7) (.cond (.t 30) (.seq (.ops m6_r8) .ret) .skip)) (.seq (.ops m6_r9) .ret)))))))
def m6 : MFunc := ⟨58, [.tmp 6], m6_code⟩

def m7_r0 : List MI := [
  ⟨(some 6), .move (.k (.sc (.bool false))), none⟩]
def m7_r1 : List MI := [
  ⟨(some 10), .call 8 [], none⟩,
  ⟨(some 11), .un .not (.t 10), none⟩]
def m7_r2 : List MI := [
  ⟨(some 6), .move (.k (.sc (.bool false))), none⟩]
def m7_r3 : List MI := [
  ⟨(some 12), .move (.t 1), none⟩,
  ⟨(some 13), .lenStr (.t 12), none⟩,
  ⟨(some 14), .bin .gtr .no (.t 13) (.k (.sc (.int .i64 3000))), none⟩]
def m7_r4 : List MI := [
  ⟨(some 6), .move (.k (.sc (.bool true))), none⟩]
def m7_r5 : List MI := [
  ⟨(some 15), .move (.t 0), none⟩,
  ⟨(some 16), .bin .rem .no (.t 15) (.k (.sc (.int .u8 14))), none⟩,
  ⟨(some 17), .conv (.int .i64) (.t 16), none⟩,
  ⟨(some 18), .move (.t 1), none⟩,
  ⟨(some 19), .call 14 [(.t 17), (.t 18)], none⟩,
  ⟨(some 7), .move (.t 19), none⟩]
def m7_r6 : List MI := [
  ⟨(some 21), .move (.t 7), none⟩,
  ⟨(some 22), .move (.t 2), none⟩,
  ⟨(some 23), .call 12 [(.t 21), (.t 22)], none⟩,
  ⟨(some 20), .move (.t 23), none⟩,
  ⟨(some 24), .extract (.t 20) 0, none⟩,
  ⟨(some 25), .extract (.t 20) 1, none⟩,
  ⟨(some 8), .move (.t 24), none⟩,
  ⟨(some 9), .move (.t 25), none⟩]
def m7_r7 : List MI := [
  ⟨(some 26), .move (.t 7), none⟩,
  ⟨(some 27), .bin .geq .no (.t 26) (.k (.sc (.int .i64 2))), none⟩,
  ⟨(some 28), .move (.t 27), none⟩,
  ⟨(some 29), .move (.t 7), (some (28, true))⟩,
  ⟨(some 30), .bin .leq .no (.t 29) (.k (.sc (.int .i64 6))), (some (28, true))⟩,
  ⟨(some 31), .pick (.t 28) (.t 30) (.k (.sc (.bool false))), none⟩,
  ⟨(some 32), .move (.t 31), none⟩,
  ⟨(some 33), .move (.t 2), (some (32, true))⟩,
  ⟨(some 34), .bin .geq .no (.t 33) (.k (.sc (.int .u8 64))), (some (32, true))⟩,
  ⟨(some 35), .pick (.t 32) (.t 34) (.k (.sc (.bool false))), none⟩,
  ⟨(some 36), .move (.t 35), none⟩,
  ⟨(some 37), .move (.t 2), (some (36, true))⟩,
  ⟨(some 38), .bin .lss .no (.t 37) (.k (.sc (.int .u8 127))), (some (36, true))⟩,
  ⟨(some 39), .pick (.t 36) (.t 38) (.k (.sc (.bool false))), none⟩,
  ⟨(some 40), .move (.t 39), none⟩,
  ⟨(some 41), .move (.t 9), (some (40, true))⟩,
  ⟨(some 42), .bin .neq .no (.t 41) (.k (.sc (.int .i64 0))), (some (40, true))⟩,
  ⟨(some 43), .pick (.t 40) (.t 42) (.k (.sc (.bool false))), none⟩]
def m7_r8 : List MI := [
  ⟨(some 6), .move (.k (.sc (.bool false))), none⟩]
def m7_r9 : List MI := [
  ⟨(some 44), .move (.t 8), none⟩,
  ⟨(some 45), .bin .eql .no (.t 44) (.k (.sc (.int .i64 1))), none⟩,
  ⟨(some 46), .move (.t 45), none⟩,
  ⟨(some 47), .move (.t 7), (some (46, true))⟩,
  ⟨(some 48), .bin .neq .no (.t 47) (.k (.sc (.int .i64 0))), (some (46, true))⟩,
  ⟨(some 49), .move (.t 48), (some (46, true))⟩,
  ⟨(some 50), .move (.t 9), (some (49, false))⟩,
  ⟨(some 51), .bin .neq .no (.t 50) (.k (.sc (.int .i64 0))), (some (49, false))⟩,
  ⟨(some 52), .pick (.t 49) (.k (.sc (.bool true))) (.t 51), (some (46, true))⟩,
  ⟨(some 53), .pick (.t 46) (.t 52) (.k (.sc (.bool false))), none⟩,
  ⟨(some 54), .move (.t 53), none⟩,
  ⟨(some 55), .move (.t 8), (some (54, false))⟩,
  ⟨(some 56), .bin .eql .no (.t 55) (.k (.sc (.int .i64 8))), (some (54, false))⟩,
  ⟨(some 57), .move (.t 56), (some (54, false))⟩,
  ⟨(some 58), .move (.t 7), (some (57, true))⟩,
  ⟨(some 59), .bin .neq .no (.t 58) (.k (.sc (.int .i64 10))), (some (57, true))⟩,
  ⟨(some 60), .move (.t 59), (some (57, true))⟩,
  ⟨(some 61), .move (.t 7), (some (60, true))⟩,
  ⟨(some 62), .bin .neq .no (.t 61) (.k (.sc (.int .i64 12))), (some (60, true))⟩,
  ⟨(some 63), .pick (.t 60) (.t 62) (.k (.sc (.bool false))), (some (57, true))⟩,
  ⟨(some 64), .move (.t 63), (some (57, true))⟩,
  ⟨(some 65), .move (.t 9), (some (64, false))⟩,
  ⟨(some 66), .move (.t 7), (some (64, false))⟩,
  ⟨(some 67), .bin .neq .no (.t 65) (.t 66), (some (64, false))⟩,
  ⟨(some 68), .pick (.t 64) (.k (.sc (.bool true))) (.t 67), (some (57, true))⟩,
  ⟨(some 69), .pick (.t 57) (.t 68) (.k (.sc (.bool false))), (some (54, false))⟩,
  ⟨(some 70), .pick (.t 54) (.k (.sc (.bool true))) (.t 69), none⟩]
def m7_r10 : List MI := [
  ⟨(some 6), .move (.k (.sc (.bool false))), none⟩]
def m7_r11 : List MI := [
  ⟨(some 71), .move (.t 8), none⟩,
  ⟨(some 72), .bin .neq .no (.t 71) (.k (.sc (.int .i64 6))), none⟩,
  ⟨(some 73), .move (.t 72), none⟩,
  ⟨(some 74), .move (.t 8), (some (73, true))⟩,
  ⟨(some 75), .bin .neq .no (.t 74) (.k (.sc (.int .i64 5))), (some (73, true))⟩,
  ⟨(some 76), .pick (.t 73) (.t 75) (.k (.sc (.bool false))), none⟩,
  ⟨(some 77), .move (.t 76), none⟩,
  ⟨(some 78), .move (.t 9), (some (77, false))⟩,
  ⟨(some 79), .bin .eql .no (.t 78) (.k (.sc (.int .i64 0))), (some (77, false))⟩,
  ⟨(some 80), .move (.t 79), (some (77, false))⟩,
  ⟨(some 81), .move (.t 2), (some (80, true))⟩,
  ⟨(some 82), .bin .geq .no (.t 81) (.k (.sc (.int .u8 48))), (some (80, true))⟩,
  ⟨(some 83), .pick (.t 80) (.t 82) (.k (.sc (.bool false))), (some (77, false))⟩,
  ⟨(some 84), .move (.t 83), (some (77, false))⟩,
  ⟨(some 85), .move (.t 2), (some (84, true))⟩,
  ⟨(some 86), .bin .lss .no (.t 85) (.k (.sc (.int .u8 127))), (some (84, true))⟩,
  ⟨(some 87), .pick (.t 84) (.t 86) (.k (.sc (.bool false))), (some (77, false))⟩,
  ⟨(some 88), .pick (.t 77) (.k (.sc (.bool true))) (.t 87), none⟩,
  ⟨(some 6), .move (.t 88), none⟩]
def m7_code : MCode := (.seq (.ops m7_r0) (.seq (.seq (.ops m7_r1) (.cond (.t 11) (.seq (.ops m7_r2) .ret) .skip)) (.seq (.seq (.ops m7_r3) (.cond (.t 14) (.seq (.ops m7_r4) .ret) .skip)) (.seq (.ops m7_r5) (.seq (.ops m7_r6) (.seq (.seq (.ops m7_r7) (.cond (.t 43) (.seq (.ops m7_r8) .ret) .skip)) (.seq (.seq (.ops m7_r9) (.cond (.t 70) (.seq (.ops m7_r10) .ret) .skip)) (.seq (.ops m7_r11) .ret))))))))
def m7 : MFunc := ⟨89, [.tmp 6], m7_code⟩

def m8_r0 : List MI := [
  ⟨(some 0), .move (.k (.sc (.bool false))), none⟩]
def m8_r1 : List MI := [
  ⟨(some 1), .call 11 [(.k (.sc (.int .i64 0))), (.k (.sc (.int .u8 65))), (.k (.sc (.int .i64 1))), (.k (.sc (.int .i64 0)))], none⟩,
  ⟨(some 2), .move (.t 1), none⟩,
  ⟨(some 3), .call 11 [(.k (.sc (.int .i64 1))), (.k (.sc (.int .u8 91))), (.k (.sc (.int .i64 0))), (.k (.sc (.int .i64 3)))], (some (2, true))⟩,
  ⟨(some 4), .pick (.t 2) (.t 3) (.k (.sc (.bool false))), none⟩,
  ⟨(some 5), .move (.t 4), none⟩,
  ⟨(some 6), .call 11 [(.k (.sc (.int .i64 4))), (.k (.sc (.int .u8 109))), (.k (.sc (.int .i64 6))), (.k (.sc (.int .i64 0)))], (some (5, true))⟩,
  ⟨(some 7), .pick (.t 5) (.t 6) (.k (.sc (.bool false))), none⟩,
  ⟨(some 8), .move (.t 7), none⟩,
  ⟨(some 9), .call 9 [(.k (.sc (.int .i64 1))), (.k (.sc (.int .i64 3)))], (some (8, true))⟩,
  ⟨(some 10), .pick (.t 8) (.t 9) (.k (.sc (.bool false))), none⟩,
  ⟨(some 11), .move (.t 10), none⟩,
  ⟨(some 12), .call 10 [(.k (.sc (.int .i64 12))), (.k (.sc (.int .i64 0)))], (some (11, true))⟩,
  ⟨(some 13), .pick (.t 11) (.t 12) (.k (.sc (.bool false))), none⟩,
  ⟨(some 0), .move (.t 13), none⟩]
def m8_code : MCode := (.seq (.ops m8_r0) (.seq (.ops m8_r1) .ret))
def m8 : MFunc := ⟨14, [.tmp 0], m8_code⟩

def m9_r0 : List MI := [
  ⟨(some 4), .move (.k (.sc (.bool false))), none⟩]
def m9_r1 : List MI := [
  ⟨(some 5), .move (.t 1), none⟩,
  ⟨(some 6), .move (.t 0), none⟩,
  ⟨(some 7), .bin .neq .no (.t 5) (.t 6), none⟩,
  ⟨(some 8), .move (.t 7), none⟩,
  ⟨(some 9), .move (.t 1), (some (8, true))⟩,
  ⟨(some 10), .bin .eql .no (.t 9) (.k (.sc (.int .i64 1))), (some (8, true))⟩,
  ⟨(some 11), .move (.t 10), (some (8, true))⟩,
  ⟨(some 12), .move (.t 1), (some (11, false))⟩,
  ⟨(some 13), .bin .eql .no (.t 12) (.k (.sc (.int .i64 3))), (some (11, false))⟩,
  ⟨(some 14), .pick (.t 11) (.k (.sc (.bool true))) (.t 13), (some (8, true))⟩,
  ⟨(some 15), .move (.t 14), (some (8, true))⟩,
  ⟨(some 16), .move (.t 1), (some (15, false))⟩,
  ⟨(some 17), .bin .eql .no (.t 16) (.k (.sc (.int .i64 7))), (some (15, false))⟩,
  ⟨(some 18), .pick (.t 15) (.k (.sc (.bool true))) (.t 17), (some (8, true))⟩,
  ⟨(some 19), .move (.t 18), (some (8, true))⟩,
  ⟨(some 20), .move (.t 1), (some (19, false))⟩,
  ⟨(some 21), .bin .eql .no (.t 20) (.k (.sc (.int .i64 12))), (some (19, false))⟩,
  ⟨(some 22), .pick (.t 19) (.k (.sc (.bool true))) (.t 21), (some (8, true))⟩,
  ⟨(some 23), .pick (.t 8) (.t 22) (.k (.sc (.bool false))), none⟩,
  ⟨(some 4), .move (.t 23), none⟩]
def m9_code : MCode := (.seq (.ops m9_r0) (.seq (.ops m9_r1) .ret))
def m9 : MFunc := ⟨24, [.tmp 4], m9_code⟩

def m10_r0 : List MI := [
  ⟨(some 4), .move (.k (.sc (.bool false))), none⟩]
def m10_r1 : List MI := [
  ⟨(some 5), .move (.t 1), none⟩,
  ⟨(some 6), .move (.t 0), none⟩,
  ⟨(some 7), .bin .neq .no (.t 5) (.t 6), none⟩,
  ⟨(some 8), .move (.t 7), none⟩,
  ⟨(some 9), .move (.t 0), (some (8, true))⟩,
  ⟨(some 10), .bin .eql .no (.t 9) (.k (.sc (.int .i64 10))), (some (8, true))⟩,
  ⟨(some 11), .move (.t 10), (some (8, true))⟩,
  ⟨(some 12), .move (.t 0), (some (11, false))⟩,
  ⟨(some 13), .bin .eql .no (.t 12) (.k (.sc (.int .i64 12))), (some (11, false))⟩,
  ⟨(some 14), .pick (.t 11) (.k (.sc (.bool true))) (.t 13), (some (8, true))⟩,
  ⟨(some 15), .pick (.t 8) (.t 14) (.k (.sc (.bool false))), none⟩,
  ⟨(some 4), .move (.t 15), none⟩]
def m10_code : MCode := (.seq (.ops m10_r0) (.seq (.ops m10_r1) .ret))
def m10 : MFunc := ⟨16, [.tmp 4], m10_code⟩

def m11_r0 : List MI := [
  ⟨(some 8), .move (.k (.sc (.bool false))), none⟩]
def m11_r1 : List MI := [
  ⟨(some 12), .move (.t 0), none⟩,
  ⟨(some 13), .move (.t 1), none⟩,
  ⟨(some 14), .call 12 [(.t 12), (.t 13)], none⟩,
  ⟨(some 11), .move (.t 14), none⟩,
  ⟨(some 15), .extract (.t 11) 0, none⟩,
  ⟨(some 16), .extract (.t 11) 1, none⟩,
  ⟨(some 9), .move (.t 15), none⟩,
  ⟨(some 10), .move (.t 16), none⟩]
def m11_r2 : List MI := [
  ⟨(some 17), .move (.t 9), none⟩,
  ⟨(some 18), .move (.t 2), none⟩,
  ⟨(some 19), .bin .eql .no (.t 17) (.t 18), none⟩,
  ⟨(some 20), .move (.t 19), none⟩,
  ⟨(some 21), .move (.t 10), (some (20, true))⟩,
  ⟨(some 22), .move (.t 3), (some (20, true))⟩,
  ⟨(some 23), .bin .eql .no (.t 21) (.t 22), (some (20, true))⟩,
  ⟨(some 24), .pick (.t 20) (.t 23) (.k (.sc (.bool false))), none⟩,
  ⟨(some 8), .move (.t 24), none⟩]
def m11_code : MCode := (.seq (.ops m11_r0) (.seq (.ops m11_r1) (.seq (.ops m11_r2) .ret)))
def m11 : MFunc := ⟨25, [.tmp 8], m11_code⟩

def m12_r0 : List MI := [
  ⟨(some 4), .move (.k (.sc (.int .i64 0))), none⟩,
  ⟨(some 5), .move (.k (.sc (.int .i64 0))), none⟩]
def m12_r1 : List MI := [
  ⟨(some 6), .move (.t 1), none⟩]
def m12_r2 : List MI := [
  ⟨(some 8), .bin .eql .no (.t 6) (.k (.sc (.int .u8 24))), none⟩,
  ⟨(some 7), .move (.t 8), none⟩]
def m12_r3 : List MI := [
  ⟨(some 9), .bin .eql .no (.t 6) (.k (.sc (.int .u8 26))), none⟩,
  ⟨(some 7), .move (.t 9), none⟩]
def m12_r4 : List MI := [
  ⟨(some 4), .move (.k (.sc (.int .i64 2))), none⟩,
  ⟨(some 5), .move (.k (.sc (.int .i64 0))), none⟩]
def m12_r5 : List MI := [
  ⟨(some 11), .bin .eql .no (.t 6) (.k (.sc (.int .u8 27))), none⟩,
  ⟨(some 10), .move (.t 11), none⟩]
def m12_r6 : List MI := [
  ⟨(some 4), .move (.k (.sc (.int .i64 0))), none⟩,
  ⟨(some 5), .move (.k (.sc (.int .i64 1))), none⟩]
def m12_r7 : List MI := [
  ⟨(some 12), .move (.t 0), none⟩]
def m12_r8 : List MI := [
  ⟨(some 14), .bin .eql .no (.t 12) (.k (.sc (.int .i64 1))), none⟩,
  ⟨(some 13), .move (.t 14), none⟩]
def m12_r9 : List MI := [
  ⟨(some 15), .move (.t 1), none⟩,
  ⟨(some 16), .call 15 [(.t 15)], none⟩,
  ⟨(some 17), .extract (.t 16) 0, none⟩,
  ⟨(some 18), .extract (.t 16) 1, none⟩,
  ⟨(some 4), .move (.t 17), none⟩,
  ⟨(some 5), .move (.t 18), none⟩]
def m12_r10 : List MI := [
  ⟨(some 20), .bin .eql .no (.t 12) (.k (.sc (.int .i64 2))), none⟩,
  ⟨(some 19), .move (.t 20), none⟩]
def m12_r11 : List MI := [
  ⟨(some 21), .move (.t 1), none⟩,
  ⟨(some 22), .call 16 [(.t 21)], none⟩,
  ⟨(some 23), .extract (.t 22) 0, none⟩,
  ⟨(some 24), .extract (.t 22) 1, none⟩,
  ⟨(some 4), .move (.t 23), none⟩,
  ⟨(some 5), .move (.t 24), none⟩]
def m12_r12 : List MI := [
  ⟨(some 26), .bin .eql .no (.t 12) (.k (.sc (.int .i64 3))), none⟩,
  ⟨(some 25), .move (.t 26), none⟩]
def m12_r13 : List MI := [
  ⟨(some 27), .bin .eql .no (.t 12) (.k (.sc (.int .i64 4))), none⟩,
  ⟨(some 25), .move (.t 27), none⟩]
def m12_r14 : List MI := [
  ⟨(some 28), .bin .eql .no (.t 12) (.k (.sc (.int .i64 5))), none⟩,
  ⟨(some 25), .move (.t 28), none⟩]
def m12_r15 : List MI := [
  ⟨(some 29), .move (.t 1), none⟩,
  ⟨(some 30), .move (.t 0), none⟩,
  ⟨(some 31), .call 17 [(.t 29), (.t 30), (.k (.sc (.int .i64 5))), (.k (.sc (.int .i64 4))), (.k (.sc (.int .i64 6))), (.k (.sc (.int .i64 6)))], none⟩,
  ⟨(some 32), .extract (.t 31) 0, none⟩,
  ⟨(some 33), .extract (.t 31) 1, none⟩,
  ⟨(some 4), .move (.t 32), none⟩,
  ⟨(some 5), .move (.t 33), none⟩]
def m12_r16 : List MI := [
  ⟨(some 35), .bin .eql .no (.t 12) (.k (.sc (.int .i64 6))), none⟩,
  ⟨(some 34), .move (.t 35), none⟩]
def m12_r17 : List MI := [
  ⟨(some 36), .move (.t 1), none⟩,
  ⟨(some 37), .call 18 [(.t 36)], none⟩,
  ⟨(some 38), .extract (.t 37) 0, none⟩,
  ⟨(some 39), .extract (.t 37) 1, none⟩,
  ⟨(some 4), .move (.t 38), none⟩,
  ⟨(some 5), .move (.t 39), none⟩]
def m12_r18 : List MI := [
  ⟨(some 41), .bin .eql .no (.t 12) (.k (.sc (.int .i64 7))), none⟩,
  ⟨(some 40), .move (.t 41), none⟩]
def m12_r19 : List MI := [
  ⟨(some 42), .bin .eql .no (.t 12) (.k (.sc (.int .i64 8))), none⟩,
  ⟨(some 40), .move (.t 42), none⟩]
def m12_r20 : List MI := [
  ⟨(some 43), .bin .eql .no (.t 12) (.k (.sc (.int .i64 9))), none⟩,
  ⟨(some 40), .move (.t 43), none⟩]
def m12_r21 : List MI := [
  ⟨(some 44), .move (.t 1), none⟩,
  ⟨(some 45), .move (.t 0), none⟩,
  ⟨(some 46), .call 17 [(.t 44), (.t 45), (.k (.sc (.int .i64 9))), (.k (.sc (.int .i64 8))), (.k (.sc (.int .i64 11))), (.k (.sc (.int .i64 7)))], none⟩,
  ⟨(some 47), .extract (.t 46) 0, none⟩,
  ⟨(some 48), .extract (.t 46) 1, none⟩,
  ⟨(some 4), .move (.t 47), none⟩,
  ⟨(some 5), .move (.t 48), none⟩]
def m12_r22 : List MI := [
  ⟨(some 50), .bin .eql .no (.t 12) (.k (.sc (.int .i64 10))), none⟩,
  ⟨(some 49), .move (.t 50), none⟩]
def m12_r23 : List MI := [
  ⟨(some 51), .bin .eql .no (.t 12) (.k (.sc (.int .i64 11))), none⟩,
  ⟨(some 49), .move (.t 51), none⟩]
def m12_r24 : List MI := [
  ⟨(some 52), .bin .eql .no (.t 12) (.k (.sc (.int .i64 12))), none⟩,
  ⟨(some 49), .move (.t 52), none⟩]
def m12_r25 : List MI := [
  ⟨(some 53), .bin .eql .no (.t 12) (.k (.sc (.int .i64 13))), none⟩,
  ⟨(some 49), .move (.t 53), none⟩]
def m12_r26 : List MI := [
  ⟨(some 54), .move (.t 0), none⟩,
  ⟨(some 55), .move (.t 1), none⟩,
  ⟨(some 56), .call 19 [(.t 54), (.t 55)], none⟩,
  ⟨(some 57), .extract (.t 56) 0, none⟩,
  ⟨(some 58), .extract (.t 56) 1, none⟩,
  ⟨(some 4), .move (.t 57), none⟩,
  ⟨(some 5), .move (.t 58), none⟩]
def m12_r27 : List MI := [
  ⟨(some 59), .move (.t 1), none⟩,
  ⟨(some 60), .call 20 [(.t 59)], none⟩,
  ⟨(some 61), .extract (.t 60) 0, none⟩,
  ⟨(some 62), .extract (.t 60) 1, none⟩,
  ⟨(some 4), .move (.t 61), none⟩,
  ⟨(some 5), .move (.t 62), none⟩]
def m12_code : MCode := (.seq (.ops m12_r0) (.seq (.seq (.ops m12_r1) (.block 0 (.seq (.seq (.ops m12_r2) (.cond (.t 7) .skip (.ops m12_r3))) (.cond (.t 7) (.seq (.ops m12_r4) .ret) (.seq (.ops m12_r5) (.cond (.t 10) (.seq (.ops m12_r6) .ret) .skip)))))) (.seq (.seq (.ops m12_r7) (.block 1 (.seq (.ops m12_r8) (.cond (.t 13) (.seq (.ops m12_r9) .ret) (.seq (.ops m12_r10) (.cond (.t 19) (.seq (.ops m12_r11) .ret) (.seq (.seq (.ops m12_r12) (.cond (.t 25) .skip (.seq (.ops m12_r13) (.cond (.t 25) .skip (.ops m12_r14))))) (.cond (.t 25) (.seq (.ops m12_r15) .ret) (.seq (.ops m12_r16) (.cond (.t 34) (.seq (.ops m12_r17) .ret) (.seq (.seq (.ops m12_r18) (.cond (.t 40) .skip (.seq (.ops m12_r19) (.cond (.t 40) .skip (.ops m12_r20))))) (.cond (.t 40) (.seq (.ops m12_r21) .ret) (.seq (.seq (.ops m12_r22) (.cond (.t 49) .skip (.seq (.ops m12_r23) (.cond (.t 49) .skip (.seq (.ops m12_r24) (.cond (.t 49) .skip (.ops m12_r25))))))) (.cond (.t 49) (.seq (.ops m12_r26) .ret) .skip)))))))))))))) (.seq (.ops m12_r27) .ret))))
def m12 : MFunc := ⟨63, [.tmp 4, .tmp 5], m12_code⟩

def m13_r0 : List MI := [
  ⟨(some 4), .move (.k (.sc (.int .i64 0))), none⟩,
  ⟨(some 5), .move (.k (.sc (.int .i64 0))), none⟩]
def m13_r1 : List MI := [
  ⟨(some 8), .move (.t 1), none⟩,
  ⟨(some 9), .bin .eql .no (.t 8) (.k (.sc (.int .u8 24))), none⟩,
  ⟨(some 10), .move (.t 9), none⟩,
  ⟨(some 11), .move (.t 1), (some (10, false))⟩,
  ⟨(some 12), .bin .eql .no (.t 11) (.k (.sc (.int .u8 26))), (some (10, false))⟩,
  ⟨(some 13), .pick (.t 10) (.k (.sc (.bool true))) (.t 12), none⟩]
def m13_r2 : List MI := [
  ⟨(some 4), .move (.k (.sc (.int .i64 2))), none⟩,
  ⟨(some 5), .move (.k (.sc (.int .i64 0))), none⟩]
def m13_r3 : List MI := [
  ⟨(some 14), .move (.t 1), none⟩,
  ⟨(some 15), .bin .eql .no (.t 14) (.k (.sc (.int .u8 27))), none⟩]
def m13_r4 : List MI := [
  ⟨(some 4), .move (.k (.sc (.int .i64 0))), none⟩,
  ⟨(some 5), .move (.k (.sc (.int .i64 1))), none⟩]
def m13_r5 : List MI := [
  ⟨(some 16), .move (.t 0), none⟩,
  ⟨(some 17), .bin .lss .no (.t 16) (.k (.sc (.int .i64 0))), none⟩,
  ⟨(some 18), .move (.t 17), none⟩,
  ⟨(some 19), .move (.t 0), (some (18, false))⟩,
  ⟨(some 20), .bin .gtr .no (.t 19) (.k (.sc (.int .i64 13))), (some (18, false))⟩,
  ⟨(some 21), .pick (.t 18) (.k (.sc (.bool true))) (.t 20), none⟩]
def m13_r6 : List MI := [
  ⟨(some 0), .move (.k (.sc (.int .i64 0))), none⟩]
def m13_r7 : List MI := [
  ⟨(some 22), .call 21 [], none⟩,
  ⟨(some 6), .move (.t 22), none⟩]
def m13_r8 : List MI := [
  ⟨(some 7), .move (.k (.sc (.int .i64 0))), none⟩]
def m13_r10 : List MI := [
  ⟨(some 23), .move (.t 7), none⟩,
  ⟨(some 24), .move (.t 6), none⟩,
  ⟨(some 25), .lenSlice (.t 24), none⟩,
  ⟨(some 26), .bin .lss .no (.t 23) (.t 25), none⟩]
def m13_r11 : List MI := [
  ⟨(some 29), .move (.t 6), none⟩,
  ⟨(some 30), .move (.t 7), none⟩,
  ⟨(some 31), .indexSlice 5 (.t 29) (.t 30), none⟩,
  ⟨(some 32), .fieldAddr 0 (.t 31), none⟩,
  ⟨(some 33), .load none (.t 32), none⟩,
  ⟨(some 34), .move (.t 0), none⟩,
  ⟨(some 35), .bin .eql .no (.t 33) (.t 34), none⟩,
  ⟨(some 36), .move (.t 35), none⟩,
  ⟨(some 37), .move (.t 1), (some (36, true))⟩,
  ⟨(some 38), .conv (.int .i64) (.t 37), (some (36, true))⟩,
  ⟨(some 39), .move (.t 6), (some (36, true))⟩,
  ⟨(some 40), .move (.t 7), (some (36, true))⟩,
  ⟨(some 41), .indexSlice 5 (.t 39) (.t 40), (some (36, true))⟩,
  ⟨(some 42), .fieldAddr 1 (.t 41), (some (36, true))⟩,
  ⟨(some 43), .load none (.t 42), (some (36, true))⟩,
  ⟨(some 44), .bin .geq .no (.t 38) (.t 43), (some (36, true))⟩,
  ⟨(some 45), .pick (.t 36) (.t 44) (.k (.sc (.bool false))), none⟩,
  ⟨(some 46), .move (.t 45), none⟩,
  ⟨(some 47), .move (.t 1), (some (46, true))⟩,
  ⟨(some 48), .conv (.int .i64) (.t 47), (some (46, true))⟩,
  ⟨(some 49), .move (.t 6), (some (46, true))⟩,
  ⟨(some 50), .move (.t 7), (some (46, true))⟩,
  ⟨(some 51), .indexSlice 5 (.t 49) (.t 50), (some (46, true))⟩,
  ⟨(some 52), .fieldAddr 2 (.t 51), (some (46, true))⟩,
  ⟨(some 53), .load none (.t 52), (some (46, true))⟩,
  ⟨(some 54), .bin .leq .no (.t 48) (.t 53), (some (46, true))⟩,
  ⟨(some 55), .pick (.t 46) (.t 54) (.k (.sc (.bool false))), none⟩]
def m13_r12 : List DI := [
  ⟨⟨(some 56), .move (.t 6), none⟩, 0, [], []⟩,
  ⟨⟨(some 57), .move (.t 7), none⟩, 0, [], []⟩,
  ⟨⟨(some 58), .indexSlice 5 (.t 56) (.t 57), none⟩, 0, [], []⟩,
  ⟨⟨(some 59), .fieldAddr 3 (.t 58), none⟩, 0, [], []⟩,
  ⟨⟨(some 60), .load none (.t 59), none⟩, 1, [], []⟩,
  ⟨⟨(some 61), .move (.t 6), none⟩, 0, [], []⟩,
  ⟨⟨(some 62), .move (.t 7), none⟩, 0, [], []⟩,
  ⟨⟨(some 63), .indexSlice 5 (.t 61) (.t 62), none⟩, 0, [], []⟩,
  ⟨⟨(some 64), .fieldAddr 4 (.t 63), none⟩, 0, [], []⟩,
  ⟨⟨(some 65), .load none (.t 64), none⟩, 1, [], []⟩,
  ⟨⟨(some 4), .move (.t 60), none⟩, 0, [], []⟩,
  ⟨⟨(some 5), .move (.t 65), none⟩, 0, [], []⟩]
def m13_r13 : List MI := [
  ⟨(some 27), .move (.t 7), none⟩,
  ⟨(some 28), .bin .add .no (.t 27) (.k (.sc (.int .i64 1))), none⟩,
  ⟨(some 7), .move (.t 28), none⟩]
def m13_l9 : MCode := (.seq (.seq (.ops m13_r10) (.cond (.t 26) .skip (.exit 0))) (.seq (.block 1 (.seq (.ops m13_r11) (.cond (.t 55) (.seq (.draw m13_r12) .ret) .skip))) (.ops m13_r13)))
def m13_r14 : List MI := [
  ⟨(some 4), .move (.k (.sc (.int .i64 0))), none⟩,
  ⟨(some 5), .move (.k (.sc (.int .i64 0))), none⟩]
def m13_code : MCode := (.seq (.ops m13_r0) (.seq (.seq (.ops m13_r1) (.cond (.t 13) (.seq (.ops m13_r2) .ret) .skip)) (.seq (.seq (.ops m13_r3) (.cond (.t 15) (.seq (.ops m13_r4) .ret) .skip)) (.seq (.seq (.ops m13_r5) (.cond (.t 21) (.ops m13_r6) .skip)) (.seq (.ops m13_r7) (.seq (.seq (.ops m13_r8) (.block 0 (.loop m13_l9))) (.seq (.ops m13_r14) .ret)))))))
def m13 : MFunc := ⟨66, [.tmp 4, .tmp 5], m13_code⟩

def m14_r0 : List MI := [
  ⟨(some 4), .move (.k (.sc (.int .i64 0))), none⟩]
def m14_r1 : List MI := [
  ⟨(some 5), .move (.k (.sc (.int .i64 0))), none⟩]
def m14_r3 : List MI := [
  ⟨(some 6), .move (.t 5), none⟩,
  ⟨(some 7), .move (.t 1), none⟩,
  ⟨(some 8), .lenStr (.t 7), none⟩,
  ⟨(some 9), .bin .lss .no (.t 6) (.t 8), none⟩]
def m14_r4 : List MI := [
  ⟨(some 13), .move (.t 0), none⟩,
  ⟨(some 14), .move (.t 1), none⟩,
  ⟨(some 15), .move (.t 5), none⟩,
  ⟨(some 16), .idxStr (.t 14) (.t 15), none⟩,
  ⟨(some 17), .call 12 [(.t 13), (.t 16)], none⟩,
  ⟨(some 12), .move (.t 17), none⟩,
  ⟨(some 18), .extract (.t 12) 0, none⟩,
  ⟨(some 19), .extract (.t 12) 1, none⟩,
  ⟨(some 0), .move (.t 19), none⟩]
def m14_r5 : List MI := [
  ⟨(some 10), .move (.t 5), none⟩,
  ⟨(some 11), .bin .add .no (.t 10) (.k (.sc (.int .i64 1))), none⟩,
  ⟨(some 5), .move (.t 11), none⟩]
def m14_l2 : MCode := (.seq (.seq (.ops m14_r3) (.cond (.t 9) .skip (.exit 0))) (.seq (.block 1 (.ops m14_r4)) (.ops m14_r5)))
def m14_r6 : List MI := [
  ⟨(some 20), .move (.t 0), none⟩,
  ⟨(some 4), .move (.t 20), none⟩]
def m14_code : MCode := (.seq (.ops m14_r0) (.seq (.seq (.ops m14_r1) (.block 0 (.loop m14_l2))) (.seq (.ops m14_r6) .ret)))
def m14 : MFunc := ⟨21, [.tmp 4], m14_code⟩

def m15_r0 : List MI := [
  ⟨(some 2), .move (.k (.sc (.int .i64 0))), none⟩,
  ⟨(some 3), .move (.k (.sc (.int .i64 0))), none⟩]
def m15_r1 : List MI := [
  ⟨(some 5), .move (.t 0), none⟩,
  ⟨(some 6), .bin .lss .no (.t 5) (.k (.sc (.int .u8 32))), none⟩,
  ⟨(some 4), .move (.t 6), none⟩]
def m15_r2 : List MI := [
  ⟨(some 2), .move (.k (.sc (.int .i64 2))), none⟩,
  ⟨(some 3), .move (.k (.sc (.int .i64 1))), none⟩]
def m15_r3 : List MI := [
  ⟨(some 8), .move (.t 0), none⟩,
  ⟨(some 9), .bin .lss .no (.t 8) (.k (.sc (.int .u8 48))), none⟩,
  ⟨(some 7), .move (.t 9), none⟩]
def m15_r4 : List MI := [
  ⟨(some 2), .move (.k (.sc (.int .i64 3))), none⟩,
  ⟨(some 3), .move (.k (.sc (.int .i64 2))), none⟩]
def m15_r5 : List MI := [
  ⟨(some 11), .move (.t 0), none⟩,
  ⟨(some 12), .bin .eql .no (.t 11) (.k (.sc (.int .u8 80))), none⟩,
  ⟨(some 10), .move (.t 12), none⟩]
def m15_r6 : List MI := [
  ⟨(some 2), .move (.k (.sc (.int .i64 0))), none⟩,
  ⟨(some 3), .move (.k (.sc (.int .i64 7))), none⟩]
def m15_r7 : List MI := [
  ⟨(some 14), .move (.t 0), none⟩,
  ⟨(some 15), .bin .eql .no (.t 14) (.k (.sc (.int .u8 91))), none⟩,
  ⟨(some 13), .move (.t 15), none⟩]
def m15_r8 : List MI := [
  ⟨(some 2), .move (.k (.sc (.int .i64 0))), none⟩,
  ⟨(some 3), .move (.k (.sc (.int .i64 3))), none⟩]
def m15_r9 : List MI := [
  ⟨(some 17), .move (.t 0), none⟩,
  ⟨(some 18), .bin .eql .no (.t 17) (.k (.sc (.int .u8 93))), none⟩,
  ⟨(some 16), .move (.t 18), none⟩]
def m15_r10 : List MI := [
  ⟨(some 2), .move (.k (.sc (.int .i64 0))), none⟩,
  ⟨(some 3), .move (.k (.sc (.int .i64 12))), none⟩]
def m15_r11 : List MI := [
  ⟨(some 20), .move (.t 0), none⟩,
  ⟨(some 21), .bin .eql .no (.t 20) (.k (.sc (.int .u8 88))), none⟩,
  ⟨(some 22), .move (.t 21), none⟩,
  ⟨(some 23), .move (.t 0), (some (22, false))⟩,
  ⟨(some 24), .bin .eql .no (.t 23) (.k (.sc (.int .u8 94))), (some (22, false))⟩,
  ⟨(some 25), .pick (.t 22) (.k (.sc (.bool true))) (.t 24), none⟩,
  ⟨(some 26), .move (.t 25), none⟩,
  ⟨(some 27), .move (.t 0), (some (26, false))⟩,
  ⟨(some 28), .bin .eql .no (.t 27) (.k (.sc (.int .u8 95))), (some (26, false))⟩,
  ⟨(some 29), .pick (.t 26) (.k (.sc (.bool true))) (.t 28), none⟩,
  ⟨(some 19), .move (.t 29), none⟩]
def m15_r12 : List MI := [
  ⟨(some 2), .move (.k (.sc (.int .i64 0))), none⟩,
  ⟨(some 3), .move (.k (.sc (.int .i64 13))), none⟩]
def m15_r13 : List MI := [
  ⟨(some 31), .move (.t 0), none⟩,
  ⟨(some 32), .bin .lss .no (.t 31) (.k (.sc (.int .u8 127))), none⟩,
  ⟨(some 30), .move (.t 32), none⟩]
def m15_r14 : List MI := [
  ⟨(some 2), .move (.k (.sc (.int .i64 5))), none⟩,
  ⟨(some 3), .move (.k (.sc (.int .i64 0))), none⟩]
def m15_r15 : List MI := [
  ⟨(some 2), .move (.k (.sc (.int .i64 0))), none⟩,
  ⟨(some 3), .move (.k (.sc (.int .i64 1))), none⟩]
def m15_code : MCode := (.seq (.ops m15_r0) (.seq (.block 0 (.seq (.ops m15_r1) (.cond (.t 4) (.seq (.ops m15_r2) .ret) (.seq (.ops m15_r3) (.cond (.t 7) (.seq (.ops m15_r4) .ret) (.seq (.ops m15_r5) (.cond (.t 10) (.seq (.ops m15_r6) .ret) (.seq (.ops m15_r7) (.cond (.t 13) (.seq (.ops m15_r8) .ret) (.seq (.ops m15_r9) (.cond (.t 16) (.seq (.ops m15_r10) .ret) (.seq (.ops m15_r11) (.cond (.t 19) (.seq (.ops m15_r12) .ret) (.seq (.ops m15_r13) (.cond (.t 30) (.seq (.ops m15_r14) .ret) .skip))))))))))))))) (.seq (.ops m15_r15) .ret)))
def m15 : MFunc := ⟨33, [.tmp 2, .tmp 3], m15_code⟩

def m16_r0 : List MI := [
  ⟨(some 2), .move (.k (.sc (.int .i64 0))), none⟩,
  ⟨(some 3), .move (.k (.sc (.int .i64 0))), none⟩]
def m16_r1 : List MI := [
  ⟨(some 5), .move (.t 0), none⟩,
  ⟨(some 6), .bin .lss .no (.t 5) (.k (.sc (.int .u8 32))), none⟩,
  ⟨(some 4), .move (.t 6), none⟩]
def m16_r2 : List MI := [
  ⟨(some 2), .move (.k (.sc (.int .i64 2))), none⟩,
  ⟨(some 3), .move (.k (.sc (.int .i64 2))), none⟩]
def m16_r3 : List MI := [
  ⟨(some 8), .move (.t 0), none⟩,
  ⟨(some 9), .bin .lss .no (.t 8) (.k (.sc (.int .u8 48))), none⟩,
  ⟨(some 7), .move (.t 9), none⟩]
def m16_r4 : List MI := [
  ⟨(some 2), .move (.k (.sc (.int .i64 3))), none⟩,
  ⟨(some 3), .move (.k (.sc (.int .i64 2))), none⟩]
def m16_r5 : List MI := [
  ⟨(some 11), .move (.t 0), none⟩,
  ⟨(some 12), .bin .lss .no (.t 11) (.k (.sc (.int .u8 127))), none⟩,
  ⟨(some 10), .move (.t 12), none⟩]
def m16_r6 : List MI := [
  ⟨(some 2), .move (.k (.sc (.int .i64 5))), none⟩,
  ⟨(some 3), .move (.k (.sc (.int .i64 0))), none⟩]
def m16_r7 : List MI := [
  ⟨(some 2), .move (.k (.sc (.int .i64 0))), none⟩,
  ⟨(some 3), .move (.k (.sc (.int .i64 2))), none⟩]
def m16_code : MCode := (.seq (.ops m16_r0) (.seq (.block 0 (.seq (.ops m16_r1) (.cond (.t 4) (.seq (.ops m16_r2) .ret) (.seq (.ops m16_r3) (.cond (.t 7) (.seq (.ops m16_r4) .ret) (.seq (.ops m16_r5) (.cond (.t 10) (.seq (.ops m16_r6) .ret) .skip))))))) (.seq (.ops m16_r7) .ret)))
def m16 : MFunc := ⟨13, [.tmp 2, .tmp 3], m16_code⟩

def m17_r0 : List MI := [
  ⟨(some 12), .move (.k (.sc (.int .i64 0))), none⟩,
  ⟨(some 13), .move (.k (.sc (.int .i64 0))), none⟩]
def m17_r1 : List MI := [
  ⟨(some 15), .move (.t 1), none⟩,
  ⟨(some 16), .bin .eql .no (.t 15) (.k (.sc (.int .i64 3))), none⟩,
  ⟨(some 17), .move (.t 16), none⟩,
  ⟨(some 18), .move (.t 1), (some (17, false))⟩,
  ⟨(some 19), .bin .eql .no (.t 18) (.k (.sc (.int .i64 7))), (some (17, false))⟩,
  ⟨(some 20), .pick (.t 17) (.k (.sc (.bool true))) (.t 19), none⟩,
  ⟨(some 14), .move (.t 20), none⟩]
def m17_r2 : List MI := [
  ⟨(some 22), .move (.t 0), none⟩,
  ⟨(some 23), .bin .lss .no (.t 22) (.k (.sc (.int .u8 32))), none⟩,
  ⟨(some 24), .move (.t 23), none⟩,
  ⟨(some 25), .move (.t 5), (some (24, true))⟩,
  ⟨(some 26), .bin .eql .no (.t 25) (.k (.sc (.int .i64 6))), (some (24, true))⟩,
  ⟨(some 27), .pick (.t 24) (.t 26) (.k (.sc (.bool false))), none⟩,
  ⟨(some 21), .move (.t 27), none⟩]
def m17_r3 : List MI := [
  ⟨(some 28), .move (.t 1), none⟩,
  ⟨(some 12), .move (.k (.sc (.int .i64 2))), none⟩,
  ⟨(some 13), .move (.t 28), none⟩]
def m17_r4 : List MI := [
  ⟨(some 30), .move (.t 0), none⟩,
  ⟨(some 31), .bin .lss .no (.t 30) (.k (.sc (.int .u8 32))), none⟩,
  ⟨(some 32), .move (.t 31), none⟩,
  ⟨(some 33), .move (.t 0), (some (32, false))⟩,
  ⟨(some 34), .bin .geq .no (.t 33) (.k (.sc (.int .u8 127))), (some (32, false))⟩,
  ⟨(some 35), .pick (.t 32) (.k (.sc (.bool true))) (.t 34), none⟩,
  ⟨(some 29), .move (.t 35), none⟩]
def m17_r5 : List MI := [
  ⟨(some 36), .move (.t 1), none⟩,
  ⟨(some 12), .move (.k (.sc (.int .i64 0))), none⟩,
  ⟨(some 13), .move (.t 36), none⟩]
def m17_r6 : List MI := [
  ⟨(some 38), .move (.t 0), none⟩,
  ⟨(some 39), .bin .lss .no (.t 38) (.k (.sc (.int .u8 48))), none⟩,
  ⟨(some 37), .move (.t 39), none⟩]
def m17_r7 : List MI := [
  ⟨(some 40), .move (.t 2), none⟩,
  ⟨(some 12), .move (.k (.sc (.int .i64 3))), none⟩,
  ⟨(some 13), .move (.t 40), none⟩]
def m17_r8 : List MI := [
  ⟨(some 42), .move (.t 0), none⟩,
  ⟨(some 43), .bin .lss .no (.t 42) (.k (.sc (.int .u8 64))), none⟩,
  ⟨(some 44), .move (.t 43), none⟩,
  ⟨(some 45), .move (.t 1), (some (44, true))⟩,
  ⟨(some 46), .move (.t 2), (some (44, true))⟩,
  ⟨(some 47), .bin .eql .no (.t 45) (.t 46), (some (44, true))⟩,
  ⟨(some 48), .pick (.t 44) (.t 47) (.k (.sc (.bool false))), none⟩,
  ⟨(some 41), .move (.t 48), none⟩]
def m17_r9 : List MI := [
  ⟨(some 49), .move (.t 4), none⟩,
  ⟨(some 12), .move (.k (.sc (.int .i64 0))), none⟩,
  ⟨(some 13), .move (.t 49), none⟩]
def m17_r10 : List MI := [
  ⟨(some 51), .move (.t 0), none⟩,
  ⟨(some 52), .bin .lss .no (.t 51) (.k (.sc (.int .u8 60))), none⟩,
  ⟨(some 50), .move (.t 52), none⟩]
def m17_r11 : List MI := [
  ⟨(some 53), .move (.t 3), none⟩,
  ⟨(some 12), .move (.k (.sc (.int .i64 4))), none⟩,
  ⟨(some 13), .move (.t 53), none⟩]
def m17_r12 : List MI := [
  ⟨(some 55), .move (.t 0), none⟩,
  ⟨(some 56), .bin .lss .no (.t 55) (.k (.sc (.int .u8 64))), none⟩,
  ⟨(some 57), .move (.t 56), none⟩,
  ⟨(some 58), .move (.t 14), (some (57, true))⟩,
  ⟨(some 59), .pick (.t 57) (.t 58) (.k (.sc (.bool false))), none⟩,
  ⟨(some 54), .move (.t 59), none⟩]
def m17_r13 : List MI := [
  ⟨(some 60), .move (.t 3), none⟩,
  ⟨(some 12), .move (.k (.sc (.int .i64 3))), none⟩,
  ⟨(some 13), .move (.t 60), none⟩]
def m17_r14 : List MI := [
  ⟨(some 62), .move (.t 0), none⟩,
  ⟨(some 63), .bin .lss .no (.t 62) (.k (.sc (.int .u8 64))), none⟩,
  ⟨(some 61), .move (.t 63), none⟩]
def m17_r15 : List MI := [
  ⟨(some 64), .move (.t 4), none⟩,
  ⟨(some 12), .move (.k (.sc (.int .i64 0))), none⟩,
  ⟨(some 13), .move (.t 64), none⟩]
def m17_r16 : List MI := [
  ⟨(some 66), .move (.t 5), none⟩,
  ⟨(some 67), .bin .eql .no (.t 66) (.k (.sc (.int .i64 6))), none⟩,
  ⟨(some 65), .move (.t 67), none⟩]
def m17_r17 : List MI := [
  ⟨(some 12), .move (.k (.sc (.int .i64 6))), none⟩,
  ⟨(some 13), .move (.k (.sc (.int .i64 0))), none⟩]
def m17_r18 : List MI := [
  ⟨(some 12), .move (.k (.sc (.int .i64 7))), none⟩,
  ⟨(some 13), .move (.k (.sc (.int .i64 10))), none⟩]
def m17_code : MCode := (.seq (.ops m17_r0) (.seq (.ops m17_r1) (.seq (.block 0 (.seq (.ops m17_r2) (.cond (.t 21) (.seq (.ops m17_r3) .ret) (.seq (.ops m17_r4) (.cond (.t 29) (.seq (.ops m17_r5) .ret) (.seq (.ops m17_r6) (.cond (.t 37) (.seq (.ops m17_r7) .ret) (.seq (.ops m17_r8) (.cond (.t 41) (.seq (.ops m17_r9) .ret) (.seq (.ops m17_r10) (.cond (.t 50) (.seq (.ops m17_r11) .ret) (.seq (.ops m17_r12) (.cond (.t 54) (.seq (.ops m17_r13) .ret) (.seq (.ops m17_r14) (.cond (.t 61) (.seq (.ops m17_r15) .ret) (.seq (.ops m17_r16) (.cond (.t 65) (.seq (.ops m17_r17) .ret) .skip))))))))))))))))) (.seq (.ops m17_r18) .ret))))
def m17 : MFunc := ⟨68, [.tmp 12, .tmp 13], m17_code⟩

def m18_r0 : List MI := [
  ⟨(some 2), .move (.k (.sc (.int .i64 0))), none⟩,
  ⟨(some 3), .move (.k (.sc (.int .i64 0))), none⟩]
def m18_r1 : List MI := [
  ⟨(some 5), .move (.t 0), none⟩,
  ⟨(some 6), .bin .lss .no (.t 5) (.k (.sc (.int .u8 32))), none⟩,
  ⟨(some 4), .move (.t 6), none⟩]
def m18_r2 : List MI := [
  ⟨(some 2), .move (.k (.sc (.int .i64 2))), none⟩,
  ⟨(some 3), .move (.k (.sc (.int .i64 6))), none⟩]
def m18_r3 : List MI := [
  ⟨(some 8), .move (.t 0), none⟩,
  ⟨(some 9), .bin .geq .no (.t 8) (.k (.sc (.int .u8 64))), none⟩,
  ⟨(some 10), .move (.t 9), none⟩,
  ⟨(some 11), .move (.t 0), (some (10, true))⟩,
  ⟨(some 12), .bin .lss .no (.t 11) (.k (.sc (.int .u8 127))), (some (10, true))⟩,
  ⟨(some 13), .pick (.t 10) (.t 12) (.k (.sc (.bool false))), none⟩,
  ⟨(some 7), .move (.t 13), none⟩]
def m18_r4 : List MI := [
  ⟨(some 2), .move (.k (.sc (.int .i64 0))), none⟩,
  ⟨(some 3), .move (.k (.sc (.int .i64 0))), none⟩]
def m18_r5 : List MI := [
  ⟨(some 2), .move (.k (.sc (.int .i64 0))), none⟩,
  ⟨(some 3), .move (.k (.sc (.int .i64 6))), none⟩]
def m18_code : MCode := (.seq (.ops m18_r0) (.seq (.block 0 (.seq (.ops m18_r1) (.cond (.t 4) (.seq (.ops m18_r2) .ret) (.seq (.ops m18_r3) (.cond (.t 7) (.seq (.ops m18_r4) .ret) .skip))))) (.seq (.ops m18_r5) .ret)))
def m18 : MFunc := ⟨14, [.tmp 2, .tmp 3], m18_code⟩

def m19_r0 : List MI := [
  ⟨(some 4), .move (.k (.sc (.int .i64 0))), none⟩,
  ⟨(some 5), .move (.k (.sc (.int .i64 0))), none⟩]
def m19_r1 : List MI := [
  ⟨(some 7), .move (.t 0), none⟩,
  ⟨(some 8), .bin .eql .no (.t 7) (.k (.sc (.int .i64 10))), none⟩,
  ⟨(some 9), .move (.t 8), none⟩,
  ⟨(some 10), .move (.t 1), (some (9, true))⟩,
  ⟨(some 11), .bin .neq .no (.t 10) (.k (.sc (.int .u8 127))), (some (9, true))⟩,
  ⟨(some 12), .pick (.t 9) (.t 11) (.k (.sc (.bool false))), none⟩,
  ⟨(some 6), .move (.t 12), none⟩]
def m19_r2 : List MI := [
  ⟨(some 13), .move (.t 0), none⟩,
  ⟨(some 14), .bin .eql .no (.t 13) (.k (.sc (.int .i64 12))), none⟩,
  ⟨(some 15), .move (.t 14), none⟩,
  ⟨(some 16), .move (.t 1), (some (15, true))⟩,
  ⟨(some 17), .bin .geq .no (.t 16) (.k (.sc (.int .u8 32))), (some (15, true))⟩,
  ⟨(some 18), .pick (.t 15) (.t 17) (.k (.sc (.bool false))), none⟩,
  ⟨(some 6), .move (.t 18), none⟩]
def m19_r3 : List MI := [
  ⟨(some 19), .move (.t 0), none⟩,
  ⟨(some 4), .move (.k (.sc (.int .i64 8))), none⟩,
  ⟨(some 5), .move (.t 19), none⟩]
def m19_r4 : List MI := [
  ⟨(some 21), .move (.t 0), none⟩,
  ⟨(some 22), .bin .eql .no (.t 21) (.k (.sc (.int .i64 12))), none⟩,
  ⟨(some 23), .move (.t 22), none⟩,
  ⟨(some 24), .move (.t 1), (some (23, true))⟩,
  ⟨(some 25), .bin .eql .no (.t 24) (.k (.sc (.int .u8 7))), (some (23, true))⟩,
  ⟨(some 26), .pick (.t 23) (.t 25) (.k (.sc (.bool false))), none⟩,
  ⟨(some 20), .move (.t 26), none⟩]
def m19_r5 : List MI := [
  ⟨(some 4), .move (.k (.sc (.int .i64 0))), none⟩,
  ⟨(some 5), .move (.k (.sc (.int .i64 0))), none⟩]
def m19_r6 : List MI := [
  ⟨(some 27), .move (.t 0), none⟩,
  ⟨(some 4), .move (.k (.sc (.int .i64 0))), none⟩,
  ⟨(some 5), .move (.t 27), none⟩]
def m19_code : MCode := (.seq (.ops m19_r0) (.seq (.block 0 (.seq (.seq (.ops m19_r1) (.cond (.t 6) .skip (.ops m19_r2))) (.cond (.t 6) (.seq (.ops m19_r3) .ret) (.seq (.ops m19_r4) (.cond (.t 20) (.seq (.ops m19_r5) .ret) .skip))))) (.seq (.ops m19_r6) .ret)))
def m19 : MFunc := ⟨28, [.tmp 4, .tmp 5], m19_code⟩

def m20_r0 : List MI := [
  ⟨(some 2), .move (.k (.sc (.int .i64 0))), none⟩,
  ⟨(some 3), .move (.k (.sc (.int .i64 0))), none⟩]
def m20_r1 : List MI := [
  ⟨(some 5), .move (.t 0), none⟩,
  ⟨(some 6), .bin .lss .no (.t 5) (.k (.sc (.int .u8 32))), none⟩,
  ⟨(some 4), .move (.t 6), none⟩]
def m20_r2 : List MI := [
  ⟨(some 2), .move (.k (.sc (.int .i64 2))), none⟩,
  ⟨(some 3), .move (.k (.sc (.int .i64 0))), none⟩]
def m20_r3 : List MI := [
  ⟨(some 8), .move (.t 0), none⟩,
  ⟨(some 9), .bin .eql .no (.t 8) (.k (.sc (.int .u8 127))), none⟩,
  ⟨(some 7), .move (.t 9), none⟩]
def m20_r4 : List MI := [
  ⟨(some 2), .move (.k (.sc (.int .i64 0))), none⟩,
  ⟨(some 3), .move (.k (.sc (.int .i64 0))), none⟩]
def m20_r5 : List MI := [
  ⟨(some 2), .move (.k (.sc (.int .i64 1))), none⟩,
  ⟨(some 3), .move (.k (.sc (.int .i64 0))), none⟩]
def m20_code : MCode := (.seq (.ops m20_r0) (.seq (.block 0 (.seq (.ops m20_r1) (.cond (.t 4) (.seq (.ops m20_r2) .ret) (.seq (.ops m20_r3) (.cond (.t 7) (.seq (.ops m20_r4) .ret) .skip))))) (.seq (.ops m20_r5) .ret)))
def m20 : MFunc := ⟨10, [.tmp 2, .tmp 3], m20_code⟩

def m21_r0 : List MI := [
  ⟨(some 0), .move (.k (.sc (.nils))), none⟩]
def m21_r1 : List MI := [
  ⟨(some 1), .build [.int .i64 0, .int .i64 0, .int .i64 0, .int .i64 0, .int .i64 0] [(0, 1, (.k (.sc (.int .i64 0)))), (1, 1, (.k (.sc (.int .i64 0)))), (2, 1, (.k (.sc (.int .i64 23)))), (3, 1, (.k (.sc (.int .i64 2)))), (4, 1, (.k (.sc (.int .i64 0))))], none⟩,
  ⟨(some 2), .build [.int .i64 0, .int .i64 0, .int .i64 0, .int .i64 0, .int .i64 0] [(0, 1, (.k (.sc (.int .i64 0)))), (1, 1, (.k (.sc (.int .i64 25)))), (2, 1, (.k (.sc (.int .i64 25)))), (3, 1, (.k (.sc (.int .i64 2)))), (4, 1, (.k (.sc (.int .i64 0))))], none⟩,
  ⟨(some 3), .build [.int .i64 0, .int .i64 0, .int .i64 0, .int .i64 0, .int .i64 0] [(0, 1, (.k (.sc (.int .i64 0)))), (1, 1, (.k (.sc (.int .i64 28)))), (2, 1, (.k (.sc (.int .i64 31)))), (3, 1, (.k (.sc (.int .i64 2)))), (4, 1, (.k (.sc (.int .i64 0))))], none⟩,
  ⟨(some 4), .build [.int .i64 0, .int .i64 0, .int .i64 0, .int .i64 0, .int .i64 0] [(0, 1, (.k (.sc (.int .i64 0)))), (1, 1, (.k (.sc (.int .i64 32)))), (2, 1, (.k (.sc (.int .i64 126)))), (3, 1, (.k (.sc (.int .i64 1)))), (4, 1, (.k (.sc (.int .i64 0))))], none⟩,
  ⟨(some 5), .build [.int .i64 0, .int .i64 0, .int .i64 0, .int .i64 0, .int .i64 0] [(0, 1, (.k (.sc (.int .i64 0)))), (1, 1, (.k (.sc (.int .i64 127)))), (2, 1, (.k (.sc (.int .i64 127)))), (3, 1, (.k (.sc (.int .i64 0)))), (4, 1, (.k (.sc (.int .i64 0))))], none⟩,
  ⟨(some 6), .build [.int .i64 0, .int .i64 0, .int .i64 0, .int .i64 0, .int .i64 0] [(0, 1, (.k (.sc (.int .i64 0)))), (1, 1, (.k (.sc (.int .i64 128)))), (2, 1, (.k (.sc (.int .i64 255)))), (3, 1, (.k (.sc (.int .i64 1)))), (4, 1, (.k (.sc (.int .i64 0))))], none⟩,
  ⟨(some 7), .build [.int .i64 0, .int .i64 0, .int .i64 0, .int .i64 0, .int .i64 0] [(0, 1, (.k (.sc (.int .i64 1)))), (1, 1, (.k (.sc (.int .i64 0)))), (2, 1, (.k (.sc (.int .i64 23)))), (3, 1, (.k (.sc (.int .i64 2)))), (4, 1, (.k (.sc (.int .i64 1))))], none⟩,
  ⟨(some 8), .build [.int .i64 0, .int .i64 0, .int .i64 0, .int .i64 0, .int .i64 0] [(0, 1, (.k (.sc (.int .i64 1)))), (1, 1, (.k (.sc (.int .i64 25)))), (2, 1, (.k (.sc (.int .i64 25)))), (3, 1, (.k (.sc (.int .i64 2)))), (4, 1, (.k (.sc (.int .i64 1))))], none⟩,
  ⟨(some 9), .build [.int .i64 0, .int .i64 0, .int .i64 0, .int .i64 0, .int .i64 0] [(0, 1, (.k (.sc (.int .i64 1)))), (1, 1, (.k (.sc (.int .i64 28)))), (2, 1, (.k (.sc (.int .i64 31)))), (3, 1, (.k (.sc (.int .i64 2)))), (4, 1, (.k (.sc (.int .i64 1))))], none⟩,
  ⟨(some 10), .build [.int .i64 0, .int .i64 0, .int .i64 0, .int .i64 0, .int .i64 0] [(0, 1, (.k (.sc (.int .i64 1)))), (1, 1, (.k (.sc (.int .i64 32)))), (2, 1, (.k (.sc (.int .i64 47)))), (3, 1, (.k (.sc (.int .i64 3)))), (4, 1, (.k (.sc (.int .i64 2))))], none⟩,
  ⟨(some 11), .build [.int .i64 0, .int .i64 0, .int .i64 0, .int .i64 0, .int .i64 0] [(0, 1, (.k (.sc (.int .i64 1)))), (1, 1, (.k (.sc (.int .i64 48)))), (2, 1, (.k (.sc (.int .i64 79)))), (3, 1, (.k (.sc (.int .i64 5)))), (4, 1, (.k (.sc (.int .i64 0))))], none⟩,
  ⟨(some 12), .build [.int .i64 0, .int .i64 0, .int .i64 0, .int .i64 0, .int .i64 0] [(0, 1, (.k (.sc (.int .i64 1)))), (1, 1, (.k (.sc (.int .i64 80)))), (2, 1, (.k (.sc (.int .i64 80)))), (3, 1, (.k (.sc (.int .i64 0)))), (4, 1, (.k (.sc (.int .i64 7))))], none⟩,
  ⟨(some 13), .build [.int .i64 0, .int .i64 0, .int .i64 0, .int .i64 0, .int .i64 0] [(0, 1, (.k (.sc (.int .i64 1)))), (1, 1, (.k (.sc (.int .i64 81)))), (2, 1, (.k (.sc (.int .i64 87)))), (3, 1, (.k (.sc (.int .i64 5)))), (4, 1, (.k (.sc (.int .i64 0))))], none⟩,
  ⟨(some 14), .build [.int .i64 0, .int .i64 0, .int .i64 0, .int .i64 0, .int .i64 0] [(0, 1, (.k (.sc (.int .i64 1)))), (1, 1, (.k (.sc (.int .i64 88)))), (2, 1, (.k (.sc (.int .i64 88)))), (3, 1, (.k (.sc (.int .i64 0)))), (4, 1, (.k (.sc (.int .i64 13))))], none⟩,
  ⟨(some 15), .build [.int .i64 0, .int .i64 0, .int .i64 0, .int .i64 0, .int .i64 0] [(0, 1, (.k (.sc (.int .i64 1)))), (1, 1, (.k (.sc (.int .i64 89)))), (2, 1, (.k (.sc (.int .i64 90)))), (3, 1, (.k (.sc (.int .i64 5)))), (4, 1, (.k (.sc (.int .i64 0))))], none⟩,
  ⟨(some 16), .build [.int .i64 0, .int .i64 0, .int .i64 0, .int .i64 0, .int .i64 0] [(0, 1, (.k (.sc (.int .i64 1)))), (1, 1, (.k (.sc (.int .i64 91)))), (2, 1, (.k (.sc (.int .i64 91)))), (3, 1, (.k (.sc (.int .i64 0)))), (4, 1, (.k (.sc (.int .i64 3))))], none⟩,
  ⟨(some 17), .build [.int .i64 0, .int .i64 0, .int .i64 0, .int .i64 0, .int .i64 0] [(0, 1, (.k (.sc (.int .i64 1)))), (1, 1, (.k (.sc (.int .i64 92)))), (2, 1, (.k (.sc (.int .i64 92)))), (3, 1, (.k (.sc (.int .i64 5)))), (4, 1, (.k (.sc (.int .i64 0))))], none⟩,
  ⟨(some 18), .build [.int .i64 0, .int .i64 0, .int .i64 0, .int .i64 0, .int .i64 0] [(0, 1, (.k (.sc (.int .i64 1)))), (1, 1, (.k (.sc (.int .i64 93)))), (2, 1, (.k (.sc (.int .i64 93)))), (3, 1, (.k (.sc (.int .i64 0)))), (4, 1, (.k (.sc (.int .i64 12))))], none⟩,
  ⟨(some 19), .build [.int .i64 0, .int .i64 0, .int .i64 0, .int .i64 0, .int .i64 0] [(0, 1, (.k (.sc (.int .i64 1)))), (1, 1, (.k (.sc (.int .i64 94)))), (2, 1, (.k (.sc (.int .i64 95)))), (3, 1, (.k (.sc (.int .i64 0)))), (4, 1, (.k (.sc (.int .i64 13))))], none⟩,
  ⟨(some 20), .build [.int .i64 0, .int .i64 0, .int .i64 0, .int .i64 0, .int .i64 0] [(0, 1, (.k (.sc (.int .i64 1)))), (1, 1, (.k (.sc (.int .i64 96)))), (2, 1, (.k (.sc (.int .i64 126)))), (3, 1, (.k (.sc (.int .i64 5)))), (4, 1, (.k (.sc (.int .i64 0))))], none⟩,
  ⟨(some 21), .build [.int .i64 0, .int .i64 0, .int .i64 0, .int .i64 0, .int .i64 0] [(0, 1, (.k (.sc (.int .i64 1)))), (1, 1, (.k (.sc (.int .i64 127)))), (2, 1, (.k (.sc (.int .i64 255)))), (3, 1, (.k (.sc (.int .i64 0)))), (4, 1, (.k (.sc (.int .i64 1))))], none⟩,
  ⟨(some 22), .build [.int .i64 0, .int .i64 0, .int .i64 0, .int .i64 0, .int .i64 0] [(0, 1, (.k (.sc (.int .i64 2)))), (1, 1, (.k (.sc (.int .i64 0)))), (2, 1, (.k (.sc (.int .i64 23)))), (3, 1, (.k (.sc (.int .i64 2)))), (4, 1, (.k (.sc (.int .i64 2))))], none⟩,
  ⟨(some 23), .build [.int .i64 0, .int .i64 0, .int .i64 0, .int .i64 0, .int .i64 0] [(0, 1, (.k (.sc (.int .i64 2)))), (1, 1, (.k (.sc (.int .i64 25)))), (2, 1, (.k (.sc (.int .i64 25)))), (3, 1, (.k (.sc (.int .i64 2)))), (4, 1, (.k (.sc (.int .i64 2))))], none⟩,
  ⟨(some 24), .build [.int .i64 0, .int .i64 0, .int .i64 0, .int .i64 0, .int .i64 0] [(0, 1, (.k (.sc (.int .i64 2)))), (1, 1, (.k (.sc (.int .i64 28)))), (2, 1, (.k (.sc (.int .i64 31)))), (3, 1, (.k (.sc (.int .i64 2)))), (4, 1, (.k (.sc (.int .i64 2))))], none⟩,
  ⟨(some 25), .build [.int .i64 0, .int .i64 0, .int .i64 0, .int .i64 0, .int .i64 0] [(0, 1, (.k (.sc (.int .i64 2)))), (1, 1, (.k (.sc (.int .i64 32)))), (2, 1, (.k (.sc (.int .i64 47)))), (3, 1, (.k (.sc (.int .i64 3)))), (4, 1, (.k (.sc (.int .i64 2))))], none⟩,
  ⟨(some 26), .build [.int .i64 0, .int .i64 0, .int .i64 0, .int .i64 0, .int .i64 0] [(0, 1, (.k (.sc (.int .i64 2)))), (1, 1, (.k (.sc (.int .i64 48)))), (2, 1, (.k (.sc (.int .i64 126)))), (3, 1, (.k (.sc (.int .i64 5)))), (4, 1, (.k (.sc (.int .i64 0))))], none⟩,
  ⟨(some 27), .build [.int .i64 0, .int .i64 0, .int .i64 0, .int .i64 0, .int .i64 0] [(0, 1, (.k (.sc (.int .i64 2)))), (1, 1, (.k (.sc (.int .i64 127)))), (2, 1, (.k (.sc (.int .i64 255)))), (3, 1, (.k (.sc (.int .i64 0)))), (4, 1, (.k (.sc (.int .i64 2))))], none⟩,
  ⟨(some 28), .build [.int .i64 0, .int .i64 0, .int .i64 0, .int .i64 0, .int .i64 0] [(0, 1, (.k (.sc (.int .i64 3)))), (1, 1, (.k (.sc (.int .i64 0)))), (2, 1, (.k (.sc (.int .i64 23)))), (3, 1, (.k (.sc (.int .i64 2)))), (4, 1, (.k (.sc (.int .i64 3))))], none⟩,
  ⟨(some 29), .build [.int .i64 0, .int .i64 0, .int .i64 0, .int .i64 0, .int .i64 0] [(0, 1, (.k (.sc (.int .i64 3)))), (1, 1, (.k (.sc (.int .i64 25)))), (2, 1, (.k (.sc (.int .i64 25)))), (3, 1, (.k (.sc (.int .i64 2)))), (4, 1, (.k (.sc (.int .i64 3))))], none⟩,
  ⟨(some 30), .build [.int .i64 0, .int .i64 0, .int .i64 0, .int .i64 0, .int .i64 0] [(0, 1, (.k (.sc (.int .i64 3)))), (1, 1, (.k (.sc (.int .i64 28)))), (2, 1, (.k (.sc (.int .i64 31)))), (3, 1, (.k (.sc (.int .i64 2)))), (4, 1, (.k (.sc (.int .i64 3))))], none⟩,
  ⟨(some 31), .build [.int .i64 0, .int .i64 0, .int .i64 0, .int .i64 0, .int .i64 0] [(0, 1, (.k (.sc (.int .i64 3)))), (1, 1, (.k (.sc (.int .i64 32)))), (2, 1, (.k (.sc (.int .i64 47)))), (3, 1, (.k (.sc (.int .i64 3)))), (4, 1, (.k (.sc (.int .i64 5))))], none⟩,
  ⟨(some 32), .build [.int .i64 0, .int .i64 0, .int .i64 0, .int .i64 0, .int .i64 0] [(0, 1, (.k (.sc (.int .i64 3)))), (1, 1, (.k (.sc (.int .i64 48)))), (2, 1, (.k (.sc (.int .i64 59)))), (3, 1, (.k (.sc (.int .i64 4)))), (4, 1, (.k (.sc (.int .i64 4))))], none⟩,
  ⟨(some 33), .build [.int .i64 0, .int .i64 0, .int .i64 0, .int .i64 0, .int .i64 0] [(0, 1, (.k (.sc (.int .i64 3)))), (1, 1, (.k (.sc (.int .i64 60)))), (2, 1, (.k (.sc (.int .i64 63)))), (3, 1, (.k (.sc (.int .i64 3)))), (4, 1, (.k (.sc (.int .i64 4))))], none⟩,
  ⟨(some 34), .build [.int .i64 0, .int .i64 0, .int .i64 0, .int .i64 0, .int .i64 0] [(0, 1, (.k (.sc (.int .i64 3)))), (1, 1, (.k (.sc (.int .i64 64)))), (2, 1, (.k (.sc (.int .i64 126)))), (3, 1, (.k (.sc (.int .i64 6)))), (4, 1, (.k (.sc (.int .i64 0))))], none⟩,
  ⟨(some 35), .build [.int .i64 0, .int .i64 0, .int .i64 0, .int .i64 0, .int .i64 0] [(0, 1, (.k (.sc (.int .i64 3)))), (1, 1, (.k (.sc (.int .i64 127)))), (2, 1, (.k (.sc (.int .i64 255)))), (3, 1, (.k (.sc (.int .i64 0)))), (4, 1, (.k (.sc (.int .i64 3))))], none⟩,
  ⟨(some 36), .build [.int .i64 0, .int .i64 0, .int .i64 0, .int .i64 0, .int .i64 0] [(0, 1, (.k (.sc (.int .i64 4)))), (1, 1, (.k (.sc (.int .i64 0)))), (2, 1, (.k (.sc (.int .i64 23)))), (3, 1, (.k (.sc (.int .i64 2)))), (4, 1, (.k (.sc (.int .i64 4))))], none⟩,
  ⟨(some 37), .build [.int .i64 0, .int .i64 0, .int .i64 0, .int .i64 0, .int .i64 0] [(0, 1, (.k (.sc (.int .i64 4)))), (1, 1, (.k (.sc (.int .i64 25)))), (2, 1, (.k (.sc (.int .i64 25)))), (3, 1, (.k (.sc (.int .i64 2)))), (4, 1, (.k (.sc (.int .i64 4))))], none⟩,
  ⟨(some 38), .build [.int .i64 0, .int .i64 0, .int .i64 0, .int .i64 0, .int .i64 0] [(0, 1, (.k (.sc (.int .i64 4)))), (1, 1, (.k (.sc (.int .i64 28)))), (2, 1, (.k (.sc (.int .i64 31)))), (3, 1, (.k (.sc (.int .i64 2)))), (4, 1, (.k (.sc (.int .i64 4))))], none⟩,
  ⟨(some 39), .build [.int .i64 0, .int .i64 0, .int .i64 0, .int .i64 0, .int .i64 0] [(0, 1, (.k (.sc (.int .i64 4)))), (1, 1, (.k (.sc (.int .i64 32)))), (2, 1, (.k (.sc (.int .i64 47)))), (3, 1, (.k (.sc (.int .i64 3)))), (4, 1, (.k (.sc (.int .i64 5))))], none⟩,
  ⟨(some 40), .build [.int .i64 0, .int .i64 0, .int .i64 0, .int .i64 0, .int .i64 0] [(0, 1, (.k (.sc (.int .i64 4)))), (1, 1, (.k (.sc (.int .i64 48)))), (2, 1, (.k (.sc (.int .i64 59)))), (3, 1, (.k (.sc (.int .i64 4)))), (4, 1, (.k (.sc (.int .i64 4))))], none⟩,
  ⟨(some 41), .build [.int .i64 0, .int .i64 0, .int .i64 0, .int .i64 0, .int .i64 0] [(0, 1, (.k (.sc (.int .i64 4)))), (1, 1, (.k (.sc (.int .i64 60)))), (2, 1, (.k (.sc (.int .i64 63)))), (3, 1, (.k (.sc (.int .i64 0)))), (4, 1, (.k (.sc (.int .i64 6))))], none⟩,
  ⟨(some 42), .build [.int .i64 0, .int .i64 0, .int .i64 0, .int .i64 0, .int .i64 0] [(0, 1, (.k (.sc (.int .i64 4)))), (1, 1, (.k (.sc (.int .i64 64)))), (2, 1, (.k (.sc (.int .i64 126)))), (3, 1, (.k (.sc (.int .i64 6)))), (4, 1, (.k (.sc (.int .i64 0))))], none⟩,
  ⟨(some 43), .build [.int .i64 0, .int .i64 0, .int .i64 0, .int .i64 0, .int .i64 0] [(0, 1, (.k (.sc (.int .i64 4)))), (1, 1, (.k (.sc (.int .i64 127)))), (2, 1, (.k (.sc (.int .i64 255)))), (3, 1, (.k (.sc (.int .i64 0)))), (4, 1, (.k (.sc (.int .i64 4))))], none⟩,
  ⟨(some 44), .build [.int .i64 0, .int .i64 0, .int .i64 0, .int .i64 0, .int .i64 0] [(0, 1, (.k (.sc (.int .i64 5)))), (1, 1, (.k (.sc (.int .i64 0)))), (2, 1, (.k (.sc (.int .i64 23)))), (3, 1, (.k (.sc (.int .i64 2)))), (4, 1, (.k (.sc (.int .i64 5))))], none⟩,
  ⟨(some 45), .build [.int .i64 0, .int .i64 0, .int .i64 0, .int .i64 0, .int .i64 0] [(0, 1, (.k (.sc (.int .i64 5)))), (1, 1, (.k (.sc (.int .i64 25)))), (2, 1, (.k (.sc (.int .i64 25)))), (3, 1, (.k (.sc (.int .i64 2)))), (4, 1, (.k (.sc (.int .i64 5))))], none⟩,
  ⟨(some 46), .build [.int .i64 0, .int .i64 0, .int .i64 0, .int .i64 0, .int .i64 0] [(0, 1, (.k (.sc (.int .i64 5)))), (1, 1, (.k (.sc (.int .i64 28)))), (2, 1, (.k (.sc (.int .i64 31)))), (3, 1, (.k (.sc (.int .i64 2)))), (4, 1, (.k (.sc (.int .i64 5))))], none⟩,
  ⟨(some 47), .build [.int .i64 0, .int .i64 0, .int .i64 0, .int .i64 0, .int .i64 0] [(0, 1, (.k (.sc (.int .i64 5)))), (1, 1, (.k (.sc (.int .i64 32)))), (2, 1, (.k (.sc (.int .i64 47)))), (3, 1, (.k (.sc (.int .i64 3)))), (4, 1, (.k (.sc (.int .i64 5))))], none⟩,
  ⟨(some 48), .build [.int .i64 0, .int .i64 0, .int .i64 0, .int .i64 0, .int .i64 0] [(0, 1, (.k (.sc (.int .i64 5)))), (1, 1, (.k (.sc (.int .i64 48)))), (2, 1, (.k (.sc (.int .i64 63)))), (3, 1, (.k (.sc (.int .i64 0)))), (4, 1, (.k (.sc (.int .i64 6))))], none⟩,
  ⟨(some 49), .build [.int .i64 0, .int .i64 0, .int .i64 0, .int .i64 0, .int .i64 0] [(0, 1, (.k (.sc (.int .i64 5)))), (1, 1, (.k (.sc (.int .i64 64)))), (2, 1, (.k (.sc (.int .i64 126)))), (3, 1, (.k (.sc (.int .i64 6)))), (4, 1, (.k (.sc (.int .i64 0))))], none⟩,
  ⟨(some 50), .build [.int .i64 0, .int .i64 0, .int .i64 0, .int .i64 0, .int .i64 0] [(0, 1, (.k (.sc (.int .i64 5)))), (1, 1, (.k (.sc (.int .i64 127)))), (2, 1, (.k (.sc (.int .i64 255)))), (3, 1, (.k (.sc (.int .i64 0)))), (4, 1, (.k (.sc (.int .i64 5))))], none⟩,
  ⟨(some 51), .build [.int .i64 0, .int .i64 0, .int .i64 0, .int .i64 0, .int .i64 0] [(0, 1, (.k (.sc (.int .i64 6)))), (1, 1, (.k (.sc (.int .i64 0)))), (2, 1, (.k (.sc (.int .i64 23)))), (3, 1, (.k (.sc (.int .i64 2)))), (4, 1, (.k (.sc (.int .i64 6))))], none⟩,
  ⟨(some 52), .build [.int .i64 0, .int .i64 0, .int .i64 0, .int .i64 0, .int .i64 0] [(0, 1, (.k (.sc (.int .i64 6)))), (1, 1, (.k (.sc (.int .i64 25)))), (2, 1, (.k (.sc (.int .i64 25)))), (3, 1, (.k (.sc (.int .i64 2)))), (4, 1, (.k (.sc (.int .i64 6))))], none⟩,
  ⟨(some 53), .build [.int .i64 0, .int .i64 0, .int .i64 0, .int .i64 0, .int .i64 0] [(0, 1, (.k (.sc (.int .i64 6)))), (1, 1, (.k (.sc (.int .i64 28)))), (2, 1, (.k (.sc (.int .i64 31)))), (3, 1, (.k (.sc (.int .i64 2)))), (4, 1, (.k (.sc (.int .i64 6))))], none⟩,
  ⟨(some 54), .build [.int .i64 0, .int .i64 0, .int .i64 0, .int .i64 0, .int .i64 0] [(0, 1, (.k (.sc (.int .i64 6)))), (1, 1, (.k (.sc (.int .i64 32)))), (2, 1, (.k (.sc (.int .i64 63)))), (3, 1, (.k (.sc (.int .i64 0)))), (4, 1, (.k (.sc (.int .i64 6))))], none⟩,
  ⟨(some 55), .build [.int .i64 0, .int .i64 0, .int .i64 0, .int .i64 0, .int .i64 0] [(0, 1, (.k (.sc (.int .i64 6)))), (1, 1, (.k (.sc (.int .i64 64)))), (2, 1, (.k (.sc (.int .i64 126)))), (3, 1, (.k (.sc (.int .i64 0)))), (4, 1, (.k (.sc (.int .i64 0))))], none⟩,
  ⟨(some 56), .build [.int .i64 0, .int .i64 0, .int .i64 0, .int .i64 0, .int .i64 0] [(0, 1, (.k (.sc (.int .i64 6)))), (1, 1, (.k (.sc (.int .i64 127)))), (2, 1, (.k (.sc (.int .i64 255)))), (3, 1, (.k (.sc (.int .i64 0)))), (4, 1, (.k (.sc (.int .i64 6))))], none⟩,
  ⟨(some 57), .build [.int .i64 0, .int .i64 0, .int .i64 0, .int .i64 0, .int .i64 0] [(0, 1, (.k (.sc (.int .i64 7)))), (1, 1, (.k (.sc (.int .i64 0)))), (2, 1, (.k (.sc (.int .i64 23)))), (3, 1, (.k (.sc (.int .i64 0)))), (4, 1, (.k (.sc (.int .i64 7))))], none⟩,
  ⟨(some 58), .build [.int .i64 0, .int .i64 0, .int .i64 0, .int .i64 0, .int .i64 0] [(0, 1, (.k (.sc (.int .i64 7)))), (1, 1, (.k (.sc (.int .i64 25)))), (2, 1, (.k (.sc (.int .i64 25)))), (3, 1, (.k (.sc (.int .i64 0)))), (4, 1, (.k (.sc (.int .i64 7))))], none⟩,
  ⟨(some 59), .build [.int .i64 0, .int .i64 0, .int .i64 0, .int .i64 0, .int .i64 0] [(0, 1, (.k (.sc (.int .i64 7)))), (1, 1, (.k (.sc (.int .i64 28)))), (2, 1, (.k (.sc (.int .i64 31)))), (3, 1, (.k (.sc (.int .i64 0)))), (4, 1, (.k (.sc (.int .i64 7))))], none⟩,
  ⟨(some 60), .build [.int .i64 0, .int .i64 0, .int .i64 0, .int .i64 0, .int .i64 0] [(0, 1, (.k (.sc (.int .i64 7)))), (1, 1, (.k (.sc (.int .i64 32)))), (2, 1, (.k (.sc (.int .i64 47)))), (3, 1, (.k (.sc (.int .i64 3)))), (4, 1, (.k (.sc (.int .i64 9))))], none⟩,
  ⟨(some 61), .build [.int .i64 0, .int .i64 0, .int .i64 0, .int .i64 0, .int .i64 0] [(0, 1, (.k (.sc (.int .i64 7)))), (1, 1, (.k (.sc (.int .i64 48)))), (2, 1, (.k (.sc (.int .i64 59)))), (3, 1, (.k (.sc (.int .i64 4)))), (4, 1, (.k (.sc (.int .i64 8))))], none⟩,
  ⟨(some 62), .build [.int .i64 0, .int .i64 0, .int .i64 0, .int .i64 0, .int .i64 0] [(0, 1, (.k (.sc (.int .i64 7)))), (1, 1, (.k (.sc (.int .i64 60)))), (2, 1, (.k (.sc (.int .i64 63)))), (3, 1, (.k (.sc (.int .i64 3)))), (4, 1, (.k (.sc (.int .i64 8))))], none⟩,
  ⟨(some 63), .build [.int .i64 0, .int .i64 0, .int .i64 0, .int .i64 0, .int .i64 0] [(0, 1, (.k (.sc (.int .i64 7)))), (1, 1, (.k (.sc (.int .i64 64)))), (2, 1, (.k (.sc (.int .i64 126)))), (3, 1, (.k (.sc (.int .i64 7)))), (4, 1, (.k (.sc (.int .i64 10))))], none⟩,
  ⟨(some 64), .build [.int .i64 0, .int .i64 0, .int .i64 0, .int .i64 0, .int .i64 0] [(0, 1, (.k (.sc (.int .i64 7)))), (1, 1, (.k (.sc (.int .i64 127)))), (2, 1, (.k (.sc (.int .i64 255)))), (3, 1, (.k (.sc (.int .i64 0)))), (4, 1, (.k (.sc (.int .i64 7))))], none⟩,
  ⟨(some 65), .build [.int .i64 0, .int .i64 0, .int .i64 0, .int .i64 0, .int .i64 0] [(0, 1, (.k (.sc (.int .i64 8)))), (1, 1, (.k (.sc (.int .i64 0)))), (2, 1, (.k (.sc (.int .i64 23)))), (3, 1, (.k (.sc (.int .i64 0)))), (4, 1, (.k (.sc (.int .i64 8))))], none⟩,
  ⟨(some 66), .build [.int .i64 0, .int .i64 0, .int .i64 0, .int .i64 0, .int .i64 0] [(0, 1, (.k (.sc (.int .i64 8)))), (1, 1, (.k (.sc (.int .i64 25)))), (2, 1, (.k (.sc (.int .i64 25)))), (3, 1, (.k (.sc (.int .i64 0)))), (4, 1, (.k (.sc (.int .i64 8))))], none⟩,
  ⟨(some 67), .build [.int .i64 0, .int .i64 0, .int .i64 0, .int .i64 0, .int .i64 0] [(0, 1, (.k (.sc (.int .i64 8)))), (1, 1, (.k (.sc (.int .i64 28)))), (2, 1, (.k (.sc (.int .i64 31)))), (3, 1, (.k (.sc (.int .i64 0)))), (4, 1, (.k (.sc (.int .i64 8))))], none⟩,
  ⟨(some 68), .build [.int .i64 0, .int .i64 0, .int .i64 0, .int .i64 0, .int .i64 0] [(0, 1, (.k (.sc (.int .i64 8)))), (1, 1, (.k (.sc (.int .i64 32)))), (2, 1, (.k (.sc (.int .i64 47)))), (3, 1, (.k (.sc (.int .i64 3)))), (4, 1, (.k (.sc (.int .i64 9))))], none⟩,
  ⟨(some 69), .build [.int .i64 0, .int .i64 0, .int .i64 0, .int .i64 0, .int .i64 0] [(0, 1, (.k (.sc (.int .i64 8)))), (1, 1, (.k (.sc (.int .i64 48)))), (2, 1, (.k (.sc (.int .i64 59)))), (3, 1, (.k (.sc (.int .i64 4)))), (4, 1, (.k (.sc (.int .i64 8))))], none⟩,
  ⟨(some 70), .build [.int .i64 0, .int .i64 0, .int .i64 0, .int .i64 0, .int .i64 0] [(0, 1, (.k (.sc (.int .i64 8)))), (1, 1, (.k (.sc (.int .i64 60)))), (2, 1, (.k (.sc (.int .i64 63)))), (3, 1, (.k (.sc (.int .i64 0)))), (4, 1, (.k (.sc (.int .i64 11))))], none⟩,
  ⟨(some 71), .build [.int .i64 0, .int .i64 0, .int .i64 0, .int .i64 0, .int .i64 0] [(0, 1, (.k (.sc (.int .i64 8)))), (1, 1, (.k (.sc (.int .i64 64)))), (2, 1, (.k (.sc (.int .i64 126)))), (3, 1, (.k (.sc (.int .i64 7)))), (4, 1, (.k (.sc (.int .i64 10))))], none⟩,
  ⟨(some 72), .build [.int .i64 0, .int .i64 0, .int .i64 0, .int .i64 0, .int .i64 0] [(0, 1, (.k (.sc (.int .i64 8)))), (1, 1, (.k (.sc (.int .i64 127)))), (2, 1, (.k (.sc (.int .i64 255)))), (3, 1, (.k (.sc (.int .i64 0)))), (4, 1, (.k (.sc (.int .i64 8))))], none⟩,
  ⟨(some 73), .build [.int .i64 0, .int .i64 0, .int .i64 0, .int .i64 0, .int .i64 0] [(0, 1, (.k (.sc (.int .i64 9)))), (1, 1, (.k (.sc (.int .i64 0)))), (2, 1, (.k (.sc (.int .i64 23)))), (3, 1, (.k (.sc (.int .i64 0)))), (4, 1, (.k (.sc (.int .i64 9))))], none⟩,
  ⟨(some 74), .build [.int .i64 0, .int .i64 0, .int .i64 0, .int .i64 0, .int .i64 0] [(0, 1, (.k (.sc (.int .i64 9)))), (1, 1, (.k (.sc (.int .i64 25)))), (2, 1, (.k (.sc (.int .i64 25)))), (3, 1, (.k (.sc (.int .i64 0)))), (4, 1, (.k (.sc (.int .i64 9))))], none⟩,
  ⟨(some 75), .build [.int .i64 0, .int .i64 0, .int .i64 0, .int .i64 0, .int .i64 0] [(0, 1, (.k (.sc (.int .i64 9)))), (1, 1, (.k (.sc (.int .i64 28)))), (2, 1, (.k (.sc (.int .i64 31)))), (3, 1, (.k (.sc (.int .i64 0)))), (4, 1, (.k (.sc (.int .i64 9))))], none⟩,
  ⟨(some 76), .build [.int .i64 0, .int .i64 0, .int .i64 0, .int .i64 0, .int .i64 0] [(0, 1, (.k (.sc (.int .i64 9)))), (1, 1, (.k (.sc (.int .i64 32)))), (2, 1, (.k (.sc (.int .i64 47)))), (3, 1, (.k (.sc (.int .i64 3)))), (4, 1, (.k (.sc (.int .i64 9))))], none⟩,
  ⟨(some 77), .build [.int .i64 0, .int .i64 0, .int .i64 0, .int .i64 0, .int .i64 0] [(0, 1, (.k (.sc (.int .i64 9)))), (1, 1, (.k (.sc (.int .i64 48)))), (2, 1, (.k (.sc (.int .i64 63)))), (3, 1, (.k (.sc (.int .i64 0)))), (4, 1, (.k (.sc (.int .i64 11))))], none⟩,
  ⟨(some 78), .build [.int .i64 0, .int .i64 0, .int .i64 0, .int .i64 0, .int .i64 0] [(0, 1, (.k (.sc (.int .i64 9)))), (1, 1, (.k (.sc (.int .i64 64)))), (2, 1, (.k (.sc (.int .i64 126)))), (3, 1, (.k (.sc (.int .i64 7)))), (4, 1, (.k (.sc (.int .i64 10))))], none⟩,
  ⟨(some 79), .build [.int .i64 0, .int .i64 0, .int .i64 0, .int .i64 0, .int .i64 0] [(0, 1, (.k (.sc (.int .i64 9)))), (1, 1, (.k (.sc (.int .i64 127)))), (2, 1, (.k (.sc (.int .i64 255)))), (3, 1, (.k (.sc (.int .i64 0)))), (4, 1, (.k (.sc (.int .i64 9))))], none⟩,
  ⟨(some 80), .build [.int .i64 0, .int .i64 0, .int .i64 0, .int .i64 0, .int .i64 0] [(0, 1, (.k (.sc (.int .i64 10)))), (1, 1, (.k (.sc (.int .i64 0)))), (2, 1, (.k (.sc (.int .i64 23)))), (3, 1, (.k (.sc (.int .i64 8)))), (4, 1, (.k (.sc (.int .i64 10))))], none⟩,
  ⟨(some 81), .build [.int .i64 0, .int .i64 0, .int .i64 0, .int .i64 0, .int .i64 0] [(0, 1, (.k (.sc (.int .i64 10)))), (1, 1, (.k (.sc (.int .i64 25)))), (2, 1, (.k (.sc (.int .i64 25)))), (3, 1, (.k (.sc (.int .i64 8)))), (4, 1, (.k (.sc (.int .i64 10))))], none⟩,
  ⟨(some 82), .build [.int .i64 0, .int .i64 0, .int .i64 0, .int .i64 0, .int .i64 0] [(0, 1, (.k (.sc (.int .i64 10)))), (1, 1, (.k (.sc (.int .i64 28)))), (2, 1, (.k (.sc (.int .i64 126)))), (3, 1, (.k (.sc (.int .i64 8)))), (4, 1, (.k (.sc (.int .i64 10))))], none⟩,
  ⟨(some 83), .build [.int .i64 0, .int .i64 0, .int .i64 0, .int .i64 0, .int .i64 0] [(0, 1, (.k (.sc (.int .i64 10)))), (1, 1, (.k (.sc (.int .i64 127)))), (2, 1, (.k (.sc (.int .i64 127)))), (3, 1, (.k (.sc (.int .i64 0)))), (4, 1, (.k (.sc (.int .i64 10))))], none⟩,
  ⟨(some 84), .build [.int .i64 0, .int .i64 0, .int .i64 0, .int .i64 0, .int .i64 0] [(0, 1, (.k (.sc (.int .i64 10)))), (1, 1, (.k (.sc (.int .i64 128)))), (2, 1, (.k (.sc (.int .i64 255)))), (3, 1, (.k (.sc (.int .i64 8)))), (4, 1, (.k (.sc (.int .i64 10))))], none⟩,
  ⟨(some 85), .build [.int .i64 0, .int .i64 0, .int .i64 0, .int .i64 0, .int .i64 0] [(0, 1, (.k (.sc (.int .i64 11)))), (1, 1, (.k (.sc (.int .i64 0)))), (2, 1, (.k (.sc (.int .i64 23)))), (3, 1, (.k (.sc (.int .i64 0)))), (4, 1, (.k (.sc (.int .i64 11))))], none⟩,
  ⟨(some 86), .build [.int .i64 0, .int .i64 0, .int .i64 0, .int .i64 0, .int .i64 0] [(0, 1, (.k (.sc (.int .i64 11)))), (1, 1, (.k (.sc (.int .i64 25)))), (2, 1, (.k (.sc (.int .i64 25)))), (3, 1, (.k (.sc (.int .i64 0)))), (4, 1, (.k (.sc (.int .i64 11))))], none⟩,
  ⟨(some 87), .build [.int .i64 0, .int .i64 0, .int .i64 0, .int .i64 0, .int .i64 0] [(0, 1, (.k (.sc (.int .i64 11)))), (1, 1, (.k (.sc (.int .i64 28)))), (2, 1, (.k (.sc (.int .i64 255)))), (3, 1, (.k (.sc (.int .i64 0)))), (4, 1, (.k (.sc (.int .i64 11))))], none⟩,
  ⟨(some 88), .build [.int .i64 0, .int .i64 0, .int .i64 0, .int .i64 0, .int .i64 0] [(0, 1, (.k (.sc (.int .i64 12)))), (1, 1, (.k (.sc (.int .i64 0)))), (2, 1, (.k (.sc (.int .i64 6)))), (3, 1, (.k (.sc (.int .i64 0)))), (4, 1, (.k (.sc (.int .i64 12))))], none⟩,
  ⟨(some 89), .build [.int .i64 0, .int .i64 0, .int .i64 0, .int .i64 0, .int .i64 0] [(0, 1, (.k (.sc (.int .i64 12)))), (1, 1, (.k (.sc (.int .i64 7)))), (2, 1, (.k (.sc (.int .i64 7)))), (3, 1, (.k (.sc (.int .i64 0)))), (4, 1, (.k (.sc (.int .i64 0))))], none⟩,
  ⟨(some 90), .build [.int .i64 0, .int .i64 0, .int .i64 0, .int .i64 0, .int .i64 0] [(0, 1, (.k (.sc (.int .i64 12)))), (1, 1, (.k (.sc (.int .i64 8)))), (2, 1, (.k (.sc (.int .i64 23)))), (3, 1, (.k (.sc (.int .i64 0)))), (4, 1, (.k (.sc (.int .i64 12))))], none⟩,
  ⟨(some 91), .build [.int .i64 0, .int .i64 0, .int .i64 0, .int .i64 0, .int .i64 0] [(0, 1, (.k (.sc (.int .i64 12)))), (1, 1, (.k (.sc (.int .i64 25)))), (2, 1, (.k (.sc (.int .i64 25)))), (3, 1, (.k (.sc (.int .i64 0)))), (4, 1, (.k (.sc (.int .i64 12))))], none⟩,
  ⟨(some 92), .build [.int .i64 0, .int .i64 0, .int .i64 0, .int .i64 0, .int .i64 0] [(0, 1, (.k (.sc (.int .i64 12)))), (1, 1, (.k (.sc (.int .i64 28)))), (2, 1, (.k (.sc (.int .i64 31)))), (3, 1, (.k (.sc (.int .i64 0)))), (4, 1, (.k (.sc (.int .i64 12))))], none⟩,
  ⟨(some 93), .build [.int .i64 0, .int .i64 0, .int .i64 0, .int .i64 0, .int .i64 0] [(0, 1, (.k (.sc (.int .i64 12)))), (1, 1, (.k (.sc (.int .i64 32)))), (2, 1, (.k (.sc (.int .i64 255)))), (3, 1, (.k (.sc (.int .i64 8)))), (4, 1, (.k (.sc (.int .i64 12))))], none⟩,
  ⟨(some 94), .build [.int .i64 0, .int .i64 0, .int .i64 0, .int .i64 0, .int .i64 0] [(0, 1, (.k (.sc (.int .i64 13)))), (1, 1, (.k (.sc (.int .i64 0)))), (2, 1, (.k (.sc (.int .i64 23)))), (3, 1, (.k (.sc (.int .i64 0)))), (4, 1, (.k (.sc (.int .i64 13))))], none⟩,
  ⟨(some 95), .build [.int .i64 0, .int .i64 0, .int .i64 0, .int .i64 0, .int .i64 0] [(0, 1, (.k (.sc (.int .i64 13)))), (1, 1, (.k (.sc (.int .i64 25)))), (2, 1, (.k (.sc (.int .i64 25)))), (3, 1, (.k (.sc (.int .i64 0)))), (4, 1, (.k (.sc (.int .i64 13))))], none⟩,
  ⟨(some 96), .build [.int .i64 0, .int .i64 0, .int .i64 0, .int .i64 0, .int .i64 0] [(0, 1, (.k (.sc (.int .i64 13)))), (1, 1, (.k (.sc (.int .i64 28)))), (2, 1, (.k (.sc (.int .i64 255)))), (3, 1, (.k (.sc (.int .i64 0)))), (4, 1, (.k (.sc (.int .i64 13))))], none⟩,
  ⟨(some 97), .buildSlice 36 5 96 [.int .i64 0, .int .i64 0, .int .i64 0, .int .i64 0, .int .i64 0] [(0, 5, (.t 1)), (5, 5, (.t 2)), (10, 5, (.t 3)), (15, 5, (.t 4)), (20, 5, (.t 5)), (25, 5, (.t 6)), (30, 5, (.t 7)), (35, 5, (.t 8)), (40, 5, (.t 9)), (45, 5, (.t 10)), (50, 5, (.t 11)), (55, 5, (.t 12)), (60, 5, (.t 13)), (65, 5, (.t 14)), (70, 5, (.t 15)), (75, 5, (.t 16)), (80, 5, (.t 17)), (85, 5, (.t 18)), (90, 5, (.t 19)), (95, 5, (.t 20)), (100, 5, (.t 21)), (105, 5, (.t 22)), (110, 5, (.t 23)), (115, 5, (.t 24)), (120, 5, (.t 25)), (125, 5, (.t 26)), (130, 5, (.t 27)), (135, 5, (.t 28)), (140, 5, (.t 29)), (145, 5, (.t 30)), (150, 5, (.t 31)), (155, 5, (.t 32)), (160, 5, (.t 33)), (165, 5, (.t 34)), (170, 5, (.t 35)), (175, 5, (.t 36)), (180, 5, (.t 37)), (185, 5, (.t 38)), (190, 5, (.t 39)), (195, 5, (.t 40)), (200, 5, (.t 41)), (205, 5, (.t 42)), (210, 5, (.t 43)), (215, 5, (.t 44)), (220, 5, (.t 45)), (225, 5, (.t 46)), (230, 5, (.t 47)), (235, 5, (.t 48)), (240, 5, (.t 49)), (245, 5, (.t 50)), (250, 5, (.t 51)), (255, 5, (.t 52)), (260, 5, (.t 53)), (265, 5, (.t 54)), (270, 5, (.t 55)), (275, 5, (.t 56)), (280, 5, (.t 57)), (285, 5, (.t 58)), (290, 5, (.t 59)), (295, 5, (.t 60)), (300, 5, (.t 61)), (305, 5, (.t 62)), (310, 5, (.t 63)), (315, 5, (.t 64)), (320, 5, (.t 65)), (325, 5, (.t 66)), (330, 5, (.t 67)), (335, 5, (.t 68)), (340, 5, (.t 69)), (345, 5, (.t 70)), (350, 5, (.t 71)), (355, 5, (.t 72)), (360, 5, (.t 73)), (365, 5, (.t 74)), (370, 5, (.t 75)), (375, 5, (.t 76)), (380, 5, (.t 77)), (385, 5, (.t 78)), (390, 5, (.t 79)), (395, 5, (.t 80)), (400, 5, (.t 81)), (405, 5, (.t 82)), (410, 5, (.t 83)), (415, 5, (.t 84)), (420, 5, (.t 85)), (425, 5, (.t 86)), (430, 5, (.t 87)), (435, 5, (.t 88)), (440, 5, (.t 89)), (445, 5, (.t 90)), (450, 5, (.t 91)), (455, 5, (.t 92)), (460, 5, (.t 93)), (465, 5, (.t 94)), (470, 5, (.t 95)), (475, 5, (.t 96))], none⟩,
  ⟨(some 0), .move (.t 97), none⟩]
def m21_code : MCode := (.seq (.ops m21_r0) (.seq (.ops m21_r1) .ret))
def m21 : MFunc := ⟨98, [.tmp 0], m21_code⟩

def DD0 : Nat → Option MFunc := fun f => match f with
  | 3 => some m3
  | 4 => some m4
  | 5 => some m5
  | 6 => some m6
  | 7 => some m7
  | 8 => some m8
  | 9 => some m9
  | 10 => some m10
  | 11 => some m11
  | 12 => some m12
  | 13 => some m13
  | 14 => some m14
  | 15 => some m15
  | 16 => some m16
  | 17 => some m17
  | 18 => some m18
  | 19 => some m19
  | 20 => some m20
  | 21 => some m21
  | _ => none
def DD : Nat → Option MFunc := withKnown [8] DD0
theorem c3 : mfun Try.prog jxX 3 = some m3 := by kernel_rfl
theorem c4 : mfun Try.prog jxX 4 = some m4 := by kernel_rfl
theorem c5 : mfun Try.prog jxX 5 = some m5 := by kernel_rfl
theorem c6 : mfun Try.prog jxX 6 = some m6 := by kernel_rfl
theorem c7 : mfun Try.prog jxX 7 = some m7 := by kernel_rfl
theorem c8 : mfun Try.prog jxX 8 = some m8 := by kernel_rfl
theorem c9 : mfun Try.prog jxX 9 = some m9 := by kernel_rfl
theorem c10 : mfun Try.prog jxX 10 = some m10 := by kernel_rfl
theorem c11 : mfun Try.prog jxX 11 = some m11 := by kernel_rfl
theorem c12 : mfun Try.prog jxX 12 = some m12 := by kernel_rfl
theorem c13 : mfun Try.prog jxX 13 = some m13 := by kernel_rfl
theorem c14 : mfun Try.prog jxX 14 = some m14 := by kernel_rfl
theorem c15 : mfun Try.prog jxX 15 = some m15 := by kernel_rfl
theorem c16 : mfun Try.prog jxX 16 = some m16 := by kernel_rfl
theorem c17 : mfun Try.prog jxX 17 = some m17 := by kernel_rfl
theorem c18 : mfun Try.prog jxX 18 = some m18 := by kernel_rfl
theorem c19 : mfun Try.prog jxX 19 = some m19 := by kernel_rfl
theorem c20 : mfun Try.prog jxX 20 = some m20 := by kernel_rfl
theorem c21 : mfun Try.prog jxX 21 = some m21 := by kernel_rfl
theorem d3 : DD 3 = some m3 := rfl
theorem d4 : DD 4 = some m4 := rfl
theorem d5 : DD 5 = some m5 := rfl
theorem d6 : DD 6 = some m6 := rfl
theorem d7 : DD 7 = some m7 := rfl
theorem d8 : DD 8 = some knownM := rfl
theorem d9 : DD 9 = some m9 := rfl
theorem d10 : DD 10 = some m10 := rfl
theorem d11 : DD 11 = some m11 := rfl
theorem d12 : DD 12 = some m12 := rfl
theorem d13 : DD 13 = some m13 := rfl
theorem d14 : DD 14 = some m14 := rfl
theorem d15 : DD 15 = some m15 := rfl
theorem d16 : DD 16 = some m16 := rfl
theorem d17 : DD 17 = some m17 := rfl
theorem d18 : DD 18 = some m18 := rfl
theorem d19 : DD 19 = some m19 := rfl
theorem d20 : DD 20 = some m20 := rfl
theorem d21 : DD 21 = some m21 := rfl
theorem DD0_ok (w : World) : FunOk Try.prog w jxX DD0 := by
  intro f m h
  refine mfun_ok _ w _ f m ?_
  unfold DD0 at h
  split at h
  · cases h; exact c3
  · cases h; exact c4
  · cases h; exact c5
  · cases h; exact c6
  · cases h; exact c7
  · cases h; exact c8
  · cases h; exact c9
  · cases h; exact c10
  · cases h; exact c11
  · cases h; exact c12
  · cases h; exact c13
  · cases h; exact c14
  · cases h; exact c15
  · cases h; exact c16
  · cases h; exact c17
  · cases h; exact c18
  · cases h; exact c19
  · cases h; exact c20
  · cases h; exact c21
  · cases h
end Go.Proofs.Ytdaeglcplpmlpaa
