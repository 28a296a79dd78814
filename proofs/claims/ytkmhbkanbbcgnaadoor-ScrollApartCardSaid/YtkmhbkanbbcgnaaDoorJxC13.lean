/- The plain machine's functions of this seat, as a program of mine printed them (Prt.lean), and that they are what compiling gives. -/
import Derived.Test.YtkmhbkanbbcgnaaDoorJxKRun
import Derived.Test.YtkmhbkanbbcgnaaDoorJxW3
import Derived.Test.YtkmhbkanbbcgnaaDoorChecked
namespace Go.Proofs.YtkmhbkanbbcgnaaDoor
open Go Go.Jx
def jxX : Exts := exts [9,9,0,0,0,0,0,0,0,0,0,0,0,0,0,0,0,0,0,0,0,0,0,0,0,0,0,0,0,0,0,0,0,0,0,0,1,0,0,0,0,0,0,0,0,0,0,0,9,0,2]
def m3_r0 : List MI := [
  ⟨(some 3), .box 30 (.t 1), none⟩,
  ⟨(some 4), .move (.k (.sc (.bool false))), none⟩]
def m3_r1 : List MI := [
  ⟨(some 14), .move (.t 0), none⟩,
  ⟨(some 15), .call 6 [(.t 14)], none⟩,
  ⟨(some 16), .move (.t 15), none⟩,
  ⟨(some 17), .fieldAddr 1 (.t 3), (some (16, false))⟩,
  ⟨(some 18), .load none (.t 17), (some (16, false))⟩,
  ⟨(some 19), .bin .lss .no (.t 18) (.k (.sc (.int .i64 0))), (some (16, false))⟩,
  ⟨(some 20), .pick (.t 16) (.k (.sc (.bool true))) (.t 19), none⟩,
  ⟨(some 21), .move (.t 20), none⟩,
  ⟨(some 22), .fieldAddr 1 (.t 3), (some (21, false))⟩,
  ⟨(some 23), .load none (.t 22), (some (21, false))⟩,
  ⟨(some 24), .fieldAddr 2 (.t 3), (some (21, false))⟩,
  ⟨(some 25), .load none (.t 24), (some (21, false))⟩,
  ⟨(some 26), .bin .gtr .no (.t 23) (.t 25), (some (21, false))⟩,
  ⟨(some 27), .pick (.t 21) (.k (.sc (.bool true))) (.t 26), none⟩,
  ⟨(some 28), .move (.t 27), none⟩,
  ⟨(some 29), .fieldAddr 2 (.t 3), (some (28, false))⟩,
  ⟨(some 30), .load none (.t 29), (some (28, false))⟩,
  ⟨(some 31), .move (.t 0), (some (28, false))⟩,
  ⟨(some 32), .lenSlice (.t 31), (some (28, false))⟩,
  ⟨(some 33), .bin .geq .no (.t 30) (.t 32), (some (28, false))⟩,
  ⟨(some 34), .pick (.t 28) (.k (.sc (.bool true))) (.t 33), none⟩,
  ⟨(some 35), .move (.t 34), none⟩,
  ⟨(some 36), .fieldAddr 3 (.t 3), (some (35, false))⟩,
  ⟨(some 37), .load none (.t 36), (some (35, false))⟩,
  ⟨(some 38), .bin .lss .no (.t 37) (.k (.sc (.int .i64 1))), (some (35, false))⟩,
  ⟨(some 39), .pick (.t 35) (.k (.sc (.bool true))) (.t 38), none⟩,
  ⟨(some 40), .move (.t 39), none⟩,
  ⟨(some 41), .fieldAddr 4 (.t 3), (some (40, false))⟩,
  ⟨(some 42), .load none (.t 41), (some (40, false))⟩,
  ⟨(some 43), .bin .gtr .no (.t 42) (.k (.sc (.int .i64 60))), (some (40, false))⟩,
  ⟨(some 44), .pick (.t 40) (.k (.sc (.bool true))) (.t 43), none⟩]
def m3_r2 : List MI := [
  ⟨(some 45), .call 7 [], none⟩,
  ⟨(some 4), .move (.t 45), none⟩]
def m3_r3 : List MI := [
  ⟨(some 46), .fieldAddr 3 (.t 3), none⟩,
  ⟨(some 47), .load none (.t 46), none⟩,
  ⟨(some 48), .fieldAddr 2 (.t 3), none⟩,
  ⟨(some 49), .load none (.t 48), none⟩,
  ⟨(some 50), .fieldAddr 1 (.t 3), none⟩,
  ⟨(some 51), .load none (.t 50), none⟩,
  ⟨(some 52), .bin .sub .no (.t 49) (.t 51), none⟩,
  ⟨(some 53), .bin .add .no (.t 52) (.k (.sc (.int .i64 1))), none⟩,
  ⟨(some 54), .min [(.t 47), (.t 53)], none⟩,
  ⟨(some 5), .move (.t 54), none⟩]
def m3_r4 : List MI := [
  ⟨(some 56), .move (.t 0), none⟩,
  ⟨(some 57), .fieldAddr 1 (.t 3), none⟩,
  ⟨(some 58), .load none (.t 57), none⟩,
  ⟨(some 59), .fieldAddr 2 (.t 3), none⟩,
  ⟨(some 60), .load none (.t 59), none⟩,
  ⟨(some 61), .fieldAddr 3 (.t 3), none⟩,
  ⟨(some 62), .load none (.t 61), none⟩,
  ⟨(some 63), .fieldAddr 4 (.t 3), none⟩,
  ⟨(some 64), .load none (.t 63), none⟩,
  ⟨(some 65), .fieldAddr 5 (.t 3), none⟩,
  ⟨(some 66), .load (some 5) (.t 65), none⟩,
  ⟨(some 67), .call 8 [(.t 56), (.t 58), (.t 60), (.t 62), (.t 64), (.t 66)], none⟩,
  ⟨(some 55), .move (.t 67), none⟩,
  ⟨(some 68), .extract (.t 55) 0, none⟩,
  ⟨(some 69), .extract (.t 55) 1, none⟩,
  ⟨(some 6), .move (.t 68), none⟩,
  ⟨(some 7), .move (.t 69), none⟩]
def m3_r5 : List MI := [
  ⟨(some 71), .move (.t 6), none⟩,
  ⟨(some 72), .fieldAddr 1 (.t 3), none⟩,
  ⟨(some 73), .load none (.t 72), none⟩,
  ⟨(some 74), .fieldAddr 2 (.t 3), none⟩,
  ⟨(some 75), .load none (.t 74), none⟩,
  ⟨(some 76), .fieldAddr 3 (.t 3), none⟩,
  ⟨(some 77), .load none (.t 76), none⟩,
  ⟨(some 78), .fieldAddr 4 (.t 3), none⟩,
  ⟨(some 79), .load none (.t 78), none⟩,
  ⟨(some 80), .fieldAddr 5 (.t 3), none⟩,
  ⟨(some 81), .load (some 5) (.t 80), none⟩,
  ⟨(some 82), .call 9 [(.t 71), (.t 73), (.t 75), (.t 77), (.t 79), (.t 81)], none⟩,
  ⟨(some 70), .move (.t 82), none⟩,
  ⟨(some 83), .extract (.t 70) 0, none⟩,
  ⟨(some 84), .extract (.t 70) 1, none⟩,
  ⟨(some 8), .move (.t 83), none⟩,
  ⟨(some 9), .move (.t 84), none⟩]
def m3_r6 : List MI := [
  ⟨(some 86), .move (.t 0), none⟩,
  ⟨(some 87), .fieldAddr 1 (.t 3), none⟩,
  ⟨(some 88), .load none (.t 87), none⟩,
  ⟨(some 89), .fieldAddr 2 (.t 3), none⟩,
  ⟨(some 90), .load none (.t 89), none⟩,
  ⟨(some 91), .fieldAddr 3 (.t 3), none⟩,
  ⟨(some 92), .load none (.t 91), none⟩,
  ⟨(some 93), .fieldAddr 4 (.t 3), none⟩,
  ⟨(some 94), .load none (.t 93), none⟩,
  ⟨(some 95), .fieldAddr 5 (.t 3), none⟩,
  ⟨(some 96), .load (some 5) (.t 95), none⟩,
  ⟨(some 97), .call 9 [(.t 86), (.t 88), (.t 90), (.t 92), (.t 94), (.t 96)], none⟩,
  ⟨(some 85), .move (.t 97), none⟩,
  ⟨(some 98), .extract (.t 85) 0, none⟩,
  ⟨(some 99), .extract (.t 85) 1, none⟩,
  ⟨(some 10), .move (.t 98), none⟩,
  ⟨(some 11), .move (.t 99), none⟩]
def m3_r7 : List MI := [
  ⟨(some 100), .move (.t 6), none⟩,
  ⟨(some 101), .lenSlice (.t 100), none⟩,
  ⟨(some 102), .move (.t 0), none⟩,
  ⟨(some 103), .lenSlice (.t 102), none⟩,
  ⟨(some 104), .bin .neq .no (.t 101) (.t 103), none⟩,
  ⟨(some 105), .move (.t 104), none⟩,
  ⟨(some 106), .move (.t 8), (some (105, false))⟩,
  ⟨(some 107), .lenSlice (.t 106), (some (105, false))⟩,
  ⟨(some 108), .move (.t 0), (some (105, false))⟩,
  ⟨(some 109), .lenSlice (.t 108), (some (105, false))⟩,
  ⟨(some 110), .bin .neq .no (.t 107) (.t 109), (some (105, false))⟩,
  ⟨(some 111), .pick (.t 105) (.k (.sc (.bool true))) (.t 110), none⟩,
  ⟨(some 112), .move (.t 111), none⟩,
  ⟨(some 113), .move (.t 10), (some (112, false))⟩,
  ⟨(some 114), .lenSlice (.t 113), (some (112, false))⟩,
  ⟨(some 115), .move (.t 0), (some (112, false))⟩,
  ⟨(some 116), .lenSlice (.t 115), (some (112, false))⟩,
  ⟨(some 117), .bin .neq .no (.t 114) (.t 116), (some (112, false))⟩,
  ⟨(some 118), .pick (.t 112) (.k (.sc (.bool true))) (.t 117), none⟩,
  ⟨(some 119), .move (.t 118), none⟩,
  ⟨(some 120), .move (.t 7), (some (119, false))⟩,
  ⟨(some 121), .lenSlice (.t 120), (some (119, false))⟩,
  ⟨(some 122), .move (.t 5), (some (119, false))⟩,
  ⟨(some 123), .bin .neq .no (.t 121) (.t 122), (some (119, false))⟩,
  ⟨(some 124), .pick (.t 119) (.k (.sc (.bool true))) (.t 123), none⟩,
  ⟨(some 125), .move (.t 124), none⟩,
  ⟨(some 126), .move (.t 9), (some (125, false))⟩,
  ⟨(some 127), .lenSlice (.t 126), (some (125, false))⟩,
  ⟨(some 128), .move (.t 5), (some (125, false))⟩,
  ⟨(some 129), .bin .neq .no (.t 127) (.t 128), (some (125, false))⟩,
  ⟨(some 130), .pick (.t 125) (.k (.sc (.bool true))) (.t 129), none⟩,
  ⟨(some 131), .move (.t 130), none⟩,
  ⟨(some 132), .move (.t 11), (some (131, false))⟩,
  ⟨(some 133), .lenSlice (.t 132), (some (131, false))⟩,
  ⟨(some 134), .move (.t 5), (some (131, false))⟩,
  ⟨(some 135), .bin .neq .no (.t 133) (.t 134), (some (131, false))⟩,
  ⟨(some 136), .pick (.t 131) (.k (.sc (.bool true))) (.t 135), none⟩]
def m3_r8 : List MI := [
  ⟨(some 4), .move (.k (.sc (.bool false))), none⟩]
def m3_r9 : List MI := [
  ⟨(some 12), .move (.k (.sc (.func 10 []))), none⟩]
def m3_r10 : List MI := [
  ⟨(some 137), .fieldAddr 2 (.t 3), none⟩,
  ⟨(some 138), .load none (.t 137), none⟩,
  ⟨(some 139), .bin .add .no (.t 138) (.k (.sc (.int .i64 1))), none⟩,
  ⟨(some 13), .move (.t 139), none⟩]
def m3_r11 : List DI := [
  ⟨⟨(some 140), .move (.t 12), none⟩, 0, [], []⟩,
  ⟨⟨(some 141), .move (.t 8), none⟩, 0, [], []⟩,
  ⟨⟨(some 142), .move (.t 13), none⟩, 0, [], []⟩,
  ⟨⟨(some 143), .move (.t 5), none⟩, 0, [], []⟩,
  ⟨⟨(some 144), .bin .sub .no (.t 142) (.t 143), none⟩, 0, [], []⟩,
  ⟨⟨(some 145), .slice 1 (.t 141) none (some (.t 144)), none⟩, 0, [], []⟩,
  ⟨⟨(some 146), .move (.t 0), none⟩, 0, [], []⟩,
  ⟨⟨(some 147), .move (.t 13), none⟩, 0, [], []⟩,
  ⟨⟨(some 148), .move (.t 5), none⟩, 0, [], []⟩,
  ⟨⟨(some 149), .bin .sub .no (.t 147) (.t 148), none⟩, 0, [], []⟩,
  ⟨⟨(some 150), .slice 1 (.t 146) none (some (.t 149)), none⟩, 0, [], []⟩,
  ⟨⟨(some 151), .callv (.t 140) [(.t 145), (.t 150)], none⟩, 2, [], []⟩,
  ⟨⟨(some 152), .un .not (.t 151), none⟩, 0, [], []⟩,
  ⟨⟨(some 153), .move (.t 152), none⟩, 0, [], []⟩,
  ⟨⟨(some 154), .move (.t 12), (some (153, false))⟩, 0, [], []⟩,
  ⟨⟨(some 155), .move (.t 8), (some (153, false))⟩, 0, [], []⟩,
  ⟨⟨(some 156), .move (.t 13), (some (153, false))⟩, 0, [], []⟩,
  ⟨⟨(some 157), .slice 1 (.t 155) (some (.t 156)) none, (some (153, false))⟩, 0, [], []⟩,
  ⟨⟨(some 158), .move (.t 0), (some (153, false))⟩, 0, [], []⟩,
  ⟨⟨(some 159), .move (.t 13), (some (153, false))⟩, 0, [], []⟩,
  ⟨⟨(some 160), .slice 1 (.t 158) (some (.t 159)) none, (some (153, false))⟩, 0, [], []⟩,
  ⟨⟨(some 161), .callv (.t 154) [(.t 157), (.t 160)], (some (153, false))⟩, 2, [], []⟩,
  ⟨⟨(some 162), .un .not (.t 161), (some (153, false))⟩, 0, [], []⟩,
  ⟨⟨(some 163), .pick (.t 153) (.k (.sc (.bool true))) (.t 162), none⟩, 0, [], []⟩,
  ⟨⟨(some 164), .move (.t 163), none⟩, 0, [], []⟩,
  ⟨⟨(some 165), .move (.t 12), (some (164, false))⟩, 0, [], []⟩,
  ⟨⟨(some 166), .move (.t 7), (some (164, false))⟩, 0, [], []⟩,
  ⟨⟨(some 167), .move (.t 0), (some (164, false))⟩, 0, [], []⟩,
  ⟨⟨(some 168), .move (.t 13), (some (164, false))⟩, 0, [], []⟩,
  ⟨⟨(some 169), .move (.t 5), (some (164, false))⟩, 0, [], []⟩,
  ⟨⟨(some 170), .bin .sub .no (.t 168) (.t 169), (some (164, false))⟩, 0, [], []⟩,
  ⟨⟨(some 171), .move (.t 13), (some (164, false))⟩, 0, [], []⟩,
  ⟨⟨(some 172), .slice 1 (.t 167) (some (.t 170)) (some (.t 171)), (some (164, false))⟩, 0, [], []⟩,
  ⟨⟨(some 173), .callv (.t 165) [(.t 166), (.t 172)], (some (164, false))⟩, 2, [], []⟩,
  ⟨⟨(some 174), .un .not (.t 173), (some (164, false))⟩, 0, [], []⟩,
  ⟨⟨(some 175), .pick (.t 164) (.k (.sc (.bool true))) (.t 174), none⟩, 0, [], []⟩,
  ⟨⟨(some 176), .move (.t 175), none⟩, 0, [], []⟩,
  ⟨⟨(some 177), .move (.t 12), (some (176, false))⟩, 0, [], []⟩,
  ⟨⟨(some 178), .move (.t 11), (some (176, false))⟩, 0, [], []⟩,
  ⟨⟨(some 179), .move (.t 0), (some (176, false))⟩, 0, [], []⟩,
  ⟨⟨(some 180), .fieldAddr 1 (.t 3), (some (176, false))⟩, 0, [], []⟩,
  ⟨⟨(some 181), .load none (.t 180), (some (176, false))⟩, 1, [], []⟩,
  ⟨⟨(some 182), .fieldAddr 1 (.t 3), (some (176, false))⟩, 0, [], []⟩,
  ⟨⟨(some 183), .load none (.t 182), (some (176, false))⟩, 1, [], []⟩,
  ⟨⟨(some 184), .move (.t 5), (some (176, false))⟩, 0, [], []⟩,
  ⟨⟨(some 185), .bin .add .no (.t 183) (.t 184), (some (176, false))⟩, 0, [], []⟩,
  ⟨⟨(some 186), .slice 1 (.t 179) (some (.t 181)) (some (.t 185)), (some (176, false))⟩, 0, [], []⟩,
  ⟨⟨(some 187), .callv (.t 177) [(.t 178), (.t 186)], (some (176, false))⟩, 2, [], []⟩,
  ⟨⟨(some 188), .un .not (.t 187), (some (176, false))⟩, 0, [], []⟩,
  ⟨⟨(some 189), .pick (.t 176) (.k (.sc (.bool true))) (.t 188), none⟩, 0, [], []⟩]
def m3_r12 : List MI := [
  ⟨(some 4), .move (.k (.sc (.bool false))), none⟩]
def m3_r13 : List DI := [
  ⟨⟨(some 190), .move (.t 12), none⟩, 0, [], []⟩,
  ⟨⟨(some 191), .move (.t 6), none⟩, 0, [], []⟩,
  ⟨⟨(some 192), .fieldAddr 1 (.t 3), none⟩, 0, [], []⟩,
  ⟨⟨(some 193), .load none (.t 192), none⟩, 1, [], []⟩,
  ⟨⟨(some 194), .move (.t 5), none⟩, 0, [], []⟩,
  ⟨⟨(some 195), .bin .add .no (.t 193) (.t 194), none⟩, 0, [], []⟩,
  ⟨⟨(some 196), .move (.t 13), none⟩, 0, [], []⟩,
  ⟨⟨(some 197), .slice 1 (.t 191) (some (.t 195)) (some (.t 196)), none⟩, 0, [], []⟩,
  ⟨⟨(some 198), .move (.t 0), none⟩, 0, [], []⟩,
  ⟨⟨(some 199), .fieldAddr 1 (.t 3), none⟩, 0, [], []⟩,
  ⟨⟨(some 200), .load none (.t 199), none⟩, 1, [], []⟩,
  ⟨⟨(some 201), .move (.t 13), none⟩, 0, [], []⟩,
  ⟨⟨(some 202), .move (.t 5), none⟩, 0, [], []⟩,
  ⟨⟨(some 203), .bin .sub .no (.t 201) (.t 202), none⟩, 0, [], []⟩,
  ⟨⟨(some 204), .slice 1 (.t 198) (some (.t 200)) (some (.t 203)), none⟩, 0, [], []⟩,
  ⟨⟨(some 205), .callv (.t 190) [(.t 197), (.t 204)], none⟩, 2, [], []⟩,
  ⟨⟨(some 206), .move (.t 205), none⟩, 0, [], []⟩,
  ⟨⟨(some 207), .move (.t 12), (some (206, true))⟩, 0, [], []⟩,
  ⟨⟨(some 208), .move (.t 10), (some (206, true))⟩, 0, [], []⟩,
  ⟨⟨(some 209), .fieldAddr 1 (.t 3), (some (206, true))⟩, 0, [], []⟩,
  ⟨⟨(some 210), .load none (.t 209), (some (206, true))⟩, 1, [], []⟩,
  ⟨⟨(some 211), .move (.t 13), (some (206, true))⟩, 0, [], []⟩,
  ⟨⟨(some 212), .move (.t 5), (some (206, true))⟩, 0, [], []⟩,
  ⟨⟨(some 213), .bin .sub .no (.t 211) (.t 212), (some (206, true))⟩, 0, [], []⟩,
  ⟨⟨(some 214), .slice 1 (.t 208) (some (.t 210)) (some (.t 213)), (some (206, true))⟩, 0, [], []⟩,
  ⟨⟨(some 215), .move (.t 0), (some (206, true))⟩, 0, [], []⟩,
  ⟨⟨(some 216), .fieldAddr 1 (.t 3), (some (206, true))⟩, 0, [], []⟩,
  ⟨⟨(some 217), .load none (.t 216), (some (206, true))⟩, 1, [], []⟩,
  ⟨⟨(some 218), .move (.t 5), (some (206, true))⟩, 0, [], []⟩,
  ⟨⟨(some 219), .bin .add .no (.t 217) (.t 218), (some (206, true))⟩, 0, [], []⟩,
  ⟨⟨(some 220), .move (.t 13), (some (206, true))⟩, 0, [], []⟩,
  ⟨⟨(some 221), .slice 1 (.t 215) (some (.t 219)) (some (.t 220)), (some (206, true))⟩, 0, [], []⟩,
  ⟨⟨(some 222), .callv (.t 207) [(.t 214), (.t 221)], (some (206, true))⟩, 2, [], []⟩,
  ⟨⟨(some 223), .pick (.t 206) (.t 222) (.k (.sc (.bool false))), none⟩, 0, [], []⟩,
  ⟨⟨(some 224), .move (.t 223), none⟩, 0, [], []⟩,
  ⟨⟨(some 225), .move (.t 12), (some (224, true))⟩, 0, [], []⟩,
  ⟨⟨(some 226), .move (.t 10), (some (224, true))⟩, 0, [], []⟩,
  ⟨⟨(some 227), .fieldAddr 1 (.t 3), (some (224, true))⟩, 0, [], []⟩,
  ⟨⟨(some 228), .load none (.t 227), (some (224, true))⟩, 1, [], []⟩,
  ⟨⟨(some 229), .slice 1 (.t 226) none (some (.t 228)), (some (224, true))⟩, 0, [], []⟩,
  ⟨⟨(some 230), .move (.t 0), (some (224, true))⟩, 0, [], []⟩,
  ⟨⟨(some 231), .fieldAddr 1 (.t 3), (some (224, true))⟩, 0, [], []⟩,
  ⟨⟨(some 232), .load none (.t 231), (some (224, true))⟩, 1, [], []⟩,
  ⟨⟨(some 233), .slice 1 (.t 230) none (some (.t 232)), (some (224, true))⟩, 0, [], []⟩,
  ⟨⟨(some 234), .callv (.t 225) [(.t 229), (.t 233)], (some (224, true))⟩, 2, [], []⟩,
  ⟨⟨(some 235), .pick (.t 224) (.t 234) (.k (.sc (.bool false))), none⟩, 0, [], []⟩,
  ⟨⟨(some 236), .move (.t 235), none⟩, 0, [], []⟩,
  ⟨⟨(some 237), .move (.t 12), (some (236, true))⟩, 0, [], []⟩,
  ⟨⟨(some 238), .move (.t 6), (some (236, true))⟩, 0, [], []⟩,
  ⟨⟨(some 239), .move (.t 13), (some (236, true))⟩, 0, [], []⟩,
  ⟨⟨(some 240), .slice 1 (.t 238) (some (.t 239)) none, (some (236, true))⟩, 0, [], []⟩,
  ⟨⟨(some 241), .move (.t 0), (some (236, true))⟩, 0, [], []⟩,
  ⟨⟨(some 242), .move (.t 13), (some (236, true))⟩, 0, [], []⟩,
  ⟨⟨(some 243), .slice 1 (.t 241) (some (.t 242)) none, (some (236, true))⟩, 0, [], []⟩,
  ⟨⟨(some 244), .callv (.t 237) [(.t 240), (.t 243)], (some (236, true))⟩, 2, [], []⟩,
  ⟨⟨(some 245), .pick (.t 236) (.t 244) (.k (.sc (.bool false))), none⟩, 0, [], []⟩,
  ⟨⟨(some 246), .move (.t 245), none⟩, 0, [], []⟩,
  ⟨⟨(some 247), .move (.t 12), (some (246, true))⟩, 0, [], [64]⟩,
  ⟨⟨(some 248), .move (.t 9), (some (246, true))⟩, 0, [], [64]⟩,
  ⟨⟨(some 249), .move (.t 5), (some (246, true))⟩, 0, [], []⟩,
  ⟨⟨(some 250), .fieldAddr 4 (.t 3), (some (246, true))⟩, 0, [], []⟩,
  ⟨⟨(some 251), .load none (.t 250), (some (246, true))⟩, 1, [], []⟩,
  ⟨⟨(some 252), .fieldAddr 5 (.t 3), (some (246, true))⟩, 0, [], []⟩,
  ⟨⟨(some 253), .load (some 5) (.t 252), (some (246, true))⟩, 1, [], []⟩,
  ⟨⟨(some 254), .call 11 [(.t 249), (.t 251), (.t 253)], (some (246, true))⟩, 2, [], []⟩,
  ⟨⟨(some 255), .callv (.t 247) [(.t 248), (.t 254)], (some (246, true))⟩, 2, [], []⟩,
  ⟨⟨(some 256), .pick (.t 246) (.t 255) (.k (.sc (.bool false))), none⟩, 0, [], []⟩,
  ⟨⟨(some 257), .move (.t 256), none⟩, 0, [], []⟩,
  ⟨⟨(some 258), .call 7 [], (some (257, true))⟩, 2, [], []⟩,
  ⟨⟨(some 259), .pick (.t 257) (.t 258) (.k (.sc (.bool false))), none⟩, 0, [], []⟩,
  ⟨⟨(some 4), .move (.t 259), none⟩, 0, [], []⟩]
def m3_code : MCode := (.seq (.ops m3_r0) (.seq (.seq (.ops m3_r1) (.cond (.t 44) (.seq (.ops m3_r2) .ret) .skip)) (.seq (.ops m3_r3) (.seq (.ops m3_r4) (.seq (.ops m3_r5) (.seq (.ops m3_r6) (.seq (.seq (.ops m3_r7) (.cond (.t 136) (.seq (.ops m3_r8) .ret) .skip)) (.seq (.ops m3_r9) (.seq (.ops m3_r10) (.seq (.seq (.draw m3_r11) (.cond (.t 189) (.seq (.ops m3_r12) .ret) .skip)) (.seq (.draw m3_r13) .ret)))))))))))
def m3 : MFunc := ⟨260, [.tmp 4], m3_code⟩

def m4_r0 : List MI := [
  ⟨(some 3), .box 30 (.t 1), none⟩,
  ⟨(some 4), .move (.k (.sc (.bool false))), none⟩]
def m4_r1 : List MI := [
  ⟨(some 21), .move (.t 0), none⟩,
  ⟨(some 22), .call 6 [(.t 21)], none⟩,
  ⟨(some 23), .move (.t 22), none⟩,
  ⟨(some 24), .fieldAddr 4 (.t 3), (some (23, false))⟩,
  ⟨(some 25), .load none (.t 24), (some (23, false))⟩,
  ⟨(some 26), .bin .gtr .no (.t 25) (.k (.sc (.int .i64 60))), (some (23, false))⟩,
  ⟨(some 27), .pick (.t 23) (.k (.sc (.bool true))) (.t 26), none⟩]
def m4_r2 : List MI := [
  ⟨(some 28), .call 7 [], none⟩,
  ⟨(some 4), .move (.t 28), none⟩]
def m4_r3 : List MI := [
  ⟨(some 5), .move (.k (.sc (.int .i64 0))), none⟩]
def m4_r5 : List MI := [
  ⟨(some 29), .move (.t 5), none⟩,
  ⟨(some 30), .move (.t 0), none⟩,
  ⟨(some 31), .lenSlice (.t 30), none⟩,
  ⟨(some 32), .bin .lss .no (.t 29) (.t 31), none⟩]
def m4_r6 : List MI := [
  ⟨(some 6), .move (.k (.sc (.int .i64 0))), none⟩]
def m4_r8 : List MI := [
  ⟨(some 35), .move (.t 6), none⟩,
  ⟨(some 36), .move (.t 0), none⟩,
  ⟨(some 37), .move (.t 5), none⟩,
  ⟨(some 38), .indexSlice 1 (.t 36) (.t 37), none⟩,
  ⟨(some 39), .load none (.t 38), none⟩,
  ⟨(some 40), .lenSlice (.t 39), none⟩,
  ⟨(some 41), .bin .lss .no (.t 35) (.t 40), none⟩]
def m4_r9 : List MI := [
  ⟨(some 44), .move (.t 0), none⟩,
  ⟨(some 45), .move (.t 5), none⟩,
  ⟨(some 46), .indexSlice 1 (.t 44) (.t 45), none⟩,
  ⟨(some 47), .load none (.t 46), none⟩,
  ⟨(some 48), .move (.t 6), none⟩,
  ⟨(some 49), .indexSlice 7 (.t 47) (.t 48), none⟩,
  ⟨(some 50), .fieldAddr 1 (.t 49), none⟩,
  ⟨(some 51), .load none (.t 50), none⟩,
  ⟨(some 52), .bin .eql .no (.t 51) (.k (.sc (.int .u8 99))), none⟩]
def m4_r10 : List MI := [
  ⟨(some 53), .call 7 [], none⟩,
  ⟨(some 4), .move (.t 53), none⟩]
def m4_r11 : List MI := [
  ⟨(some 42), .move (.t 6), none⟩,
  ⟨(some 43), .bin .add .no (.t 42) (.k (.sc (.int .i64 1))), none⟩,
  ⟨(some 6), .move (.t 43), none⟩]
def m4_l7 : MCode := (.seq (.seq (.ops m4_r8) (.cond (.t 41) .skip (.exit 2))) (.seq (.block 3 (.seq (.ops m4_r9) (.cond (.t 52) (.seq (.ops m4_r10) .ret) .skip))) (.ops m4_r11)))
def m4_r12 : List MI := [
  ⟨(some 33), .move (.t 5), none⟩,
  ⟨(some 34), .bin .add .no (.t 33) (.k (.sc (.int .i64 1))), none⟩,
  ⟨(some 5), .move (.t 34), none⟩]
def m4_l4 : MCode := (.seq (.seq (.ops m4_r5) (.cond (.t 32) .skip (.exit 0))) (.seq (.block 1 (.seq (.ops m4_r6) (.block 2 (.loop m4_l7)))) (.ops m4_r12)))
def m4_r13 : List MI := [
  ⟨(some 7), .move (.k (.sc (.nils))), none⟩]
def m4_r14 : List MI := [
  ⟨(some 8), .move (.k (.sc (.int .i64 0))), none⟩]
def m4_r16 : List MI := [
  ⟨(some 54), .move (.t 8), none⟩,
  ⟨(some 55), .move (.t 0), none⟩,
  ⟨(some 56), .lenSlice (.t 55), none⟩,
  ⟨(some 57), .bin .lss .no (.t 54) (.t 56), none⟩]
def m4_r17 : List MI := [
  ⟨(some 60), .move (.t 7), none⟩,
  ⟨(some 61), .buildSlice 40 7 0 [.int .i32 0, .int .u8 0, .int .u16 0, .int .u8 0, .int .u32 0, .int .u8 0, .int .u32 0] [], none⟩,
  ⟨(some 62), .move (.t 0), none⟩,
  ⟨(some 63), .move (.t 8), none⟩,
  ⟨(some 64), .indexSlice 1 (.t 62) (.t 63), none⟩,
  ⟨(some 65), .load none (.t 64), none⟩,
  ⟨(some 66), .append 40 7 28 [.int .i32 0, .int .u8 0, .int .u16 0, .int .u8 0, .int .u32 0, .int .u8 0, .int .u32 0] (.t 61) (.t 65), none⟩,
  ⟨(some 67), .buildSlice 38 1 1 [.nils] [(0, 1, (.t 66))], none⟩,
  ⟨(some 68), .append 38 1 24 [.nils] (.t 60) (.t 67), none⟩,
  ⟨(some 7), .move (.t 68), none⟩]
def m4_r18 : List MI := [
  ⟨(some 58), .move (.t 8), none⟩,
  ⟨(some 59), .bin .add .no (.t 58) (.k (.sc (.int .i64 1))), none⟩,
  ⟨(some 8), .move (.t 59), none⟩]
def m4_l15 : MCode := (.seq (.seq (.ops m4_r16) (.cond (.t 57) .skip (.exit 4))) (.seq (.block 5 (.ops m4_r17)) (.ops m4_r18)))
def m4_r19 : List MI := [
  ⟨(some 70), .move (.t 0), none⟩,
  ⟨(some 71), .fieldAddr 1 (.t 3), none⟩,
  ⟨(some 72), .load none (.t 71), none⟩,
  ⟨(some 73), .fieldAddr 2 (.t 3), none⟩,
  ⟨(some 74), .load none (.t 73), none⟩,
  ⟨(some 75), .fieldAddr 3 (.t 3), none⟩,
  ⟨(some 76), .load none (.t 75), none⟩,
  ⟨(some 77), .fieldAddr 4 (.t 3), none⟩,
  ⟨(some 78), .load none (.t 77), none⟩,
  ⟨(some 79), .fieldAddr 5 (.t 3), none⟩,
  ⟨(some 80), .load (some 5) (.t 79), none⟩,
  ⟨(some 81), .call 9 [(.t 70), (.t 72), (.t 74), (.t 76), (.t 78), (.t 80)], none⟩,
  ⟨(some 69), .move (.t 81), none⟩,
  ⟨(some 82), .extract (.t 69) 0, none⟩,
  ⟨(some 83), .extract (.t 69) 1, none⟩,
  ⟨(some 9), .move (.t 82), none⟩,
  ⟨(some 10), .move (.t 83), none⟩]
def m4_r20 : List MI := [
  ⟨(some 85), .move (.t 0), none⟩,
  ⟨(some 86), .fieldAddr 1 (.t 3), none⟩,
  ⟨(some 87), .load none (.t 86), none⟩,
  ⟨(some 88), .fieldAddr 2 (.t 3), none⟩,
  ⟨(some 89), .load none (.t 88), none⟩,
  ⟨(some 90), .fieldAddr 3 (.t 3), none⟩,
  ⟨(some 91), .load none (.t 90), none⟩,
  ⟨(some 92), .fieldAddr 4 (.t 3), none⟩,
  ⟨(some 93), .load none (.t 92), none⟩,
  ⟨(some 94), .fieldAddr 5 (.t 3), none⟩,
  ⟨(some 95), .load (some 5) (.t 94), none⟩,
  ⟨(some 96), .call 8 [(.t 85), (.t 87), (.t 89), (.t 91), (.t 93), (.t 95)], none⟩,
  ⟨(some 84), .move (.t 96), none⟩,
  ⟨(some 97), .extract (.t 84) 0, none⟩,
  ⟨(some 98), .extract (.t 84) 1, none⟩,
  ⟨(some 11), .move (.t 97), none⟩,
  ⟨(some 12), .move (.t 98), none⟩]
def m4_r21 : List MI := [
  ⟨(some 99), .move (.t 0), none⟩,
  ⟨(some 100), .fieldAddr 0 (.t 3), none⟩,
  ⟨(some 101), .load none (.t 100), none⟩,
  ⟨(some 102), .fieldAddr 1 (.t 3), none⟩,
  ⟨(some 103), .load none (.t 102), none⟩,
  ⟨(some 104), .fieldAddr 2 (.t 3), none⟩,
  ⟨(some 105), .load none (.t 104), none⟩,
  ⟨(some 106), .fieldAddr 3 (.t 3), none⟩,
  ⟨(some 107), .load none (.t 106), none⟩,
  ⟨(some 108), .fieldAddr 4 (.t 3), none⟩,
  ⟨(some 109), .load none (.t 108), none⟩,
  ⟨(some 110), .fieldAddr 5 (.t 3), none⟩,
  ⟨(some 111), .load (some 5) (.t 110), none⟩,
  ⟨(some 112), .call 12 [(.t 99), (.t 101), (.t 103), (.t 105), (.t 107), (.t 109), (.t 111)], none⟩,
  ⟨(some 13), .move (.t 112), none⟩]
def m4_r22 : List MI := [
  ⟨(some 113), .move (.t 0), none⟩,
  ⟨(some 114), .fieldAddr 0 (.t 3), none⟩,
  ⟨(some 115), .load none (.t 114), none⟩,
  ⟨(some 116), .fieldAddr 1 (.t 3), none⟩,
  ⟨(some 117), .load none (.t 116), none⟩,
  ⟨(some 118), .fieldAddr 2 (.t 3), none⟩,
  ⟨(some 119), .load none (.t 118), none⟩,
  ⟨(some 120), .fieldAddr 3 (.t 3), none⟩,
  ⟨(some 121), .load none (.t 120), none⟩,
  ⟨(some 122), .fieldAddr 4 (.t 3), none⟩,
  ⟨(some 123), .load none (.t 122), none⟩,
  ⟨(some 124), .fieldAddr 5 (.t 3), none⟩,
  ⟨(some 125), .load (some 5) (.t 124), none⟩,
  ⟨(some 126), .call 13 [(.t 113), (.t 115), (.t 117), (.t 119), (.t 121), (.t 123), (.t 125)], none⟩,
  ⟨(some 14), .move (.t 126), none⟩]
def m4_r23 : List MI := [
  ⟨(some 127), .move (.t 9), none⟩,
  ⟨(some 128), .move (.t 10), none⟩,
  ⟨(some 129), .move (.t 11), none⟩,
  ⟨(some 130), .move (.t 12), none⟩,
  ⟨(some 131), .move (.t 13), none⟩,
  ⟨(some 132), .move (.t 14), none⟩,
  ⟨(some 133), .buildSlice 22 1 6 [.nils] [(0, 1, (.t 127)), (1, 1, (.t 128)), (2, 1, (.t 129)), (3, 1, (.t 130)), (4, 1, (.t 131)), (5, 1, (.t 132))], none⟩,
  ⟨(some 134), .lenSlice (.t 133), none⟩,
  ⟨(some 135), .move (.k (.sc (.int .i64 0))), none⟩]
def m4_r25 : List MI := [
  ⟨(some 136), .bin .lss .no (.t 135) (.t 134), none⟩]
def m4_r26 : List MI := [
  ⟨(some 137), .indexSlice 1 (.t 133) (.t 135), none⟩,
  ⟨(some 138), .load none (.t 137), none⟩,
  ⟨(some 16), .move (.t 138), none⟩]
def m4_r27 : List MI := [
  ⟨(some 17), .move (.k (.sc (.int .i64 0))), none⟩]
def m4_r29 : List MI := [
  ⟨(some 139), .move (.t 17), none⟩,
  ⟨(some 140), .move (.t 16), none⟩,
  ⟨(some 141), .lenSlice (.t 140), none⟩,
  ⟨(some 142), .bin .lss .no (.t 139) (.t 141), none⟩]
def m4_r30 : List MI := [
  ⟨(some 18), .move (.k (.sc (.int .i64 0))), none⟩]
def m4_r32 : List MI := [
  ⟨(some 145), .move (.t 18), none⟩,
  ⟨(some 146), .move (.t 16), none⟩,
  ⟨(some 147), .move (.t 17), none⟩,
  ⟨(some 148), .indexSlice 1 (.t 146) (.t 147), none⟩,
  ⟨(some 149), .load none (.t 148), none⟩,
  ⟨(some 150), .lenSlice (.t 149), none⟩,
  ⟨(some 151), .bin .lss .no (.t 145) (.t 150), none⟩]
def m4_r33 : List MI := [
  ⟨(some 154), .move (.t 16), none⟩,
  ⟨(some 155), .move (.t 17), none⟩,
  ⟨(some 156), .indexSlice 1 (.t 154) (.t 155), none⟩,
  ⟨(some 157), .load none (.t 156), none⟩,
  ⟨(some 158), .move (.t 18), none⟩,
  ⟨(some 159), .indexSlice 7 (.t 157) (.t 158), none⟩,
  ⟨(some 160), .fieldAddr 1 (.t 159), none⟩,
  ⟨(some 161), .load none (.t 160), none⟩,
  ⟨(some 162), .bin .eql .no (.t 161) (.k (.sc (.int .u8 99))), none⟩]
def m4_r34 : List MI := [
  ⟨(some 4), .move (.k (.sc (.bool false))), none⟩]
def m4_r35 : List MI := [
  ⟨(some 152), .move (.t 18), none⟩,
  ⟨(some 153), .bin .add .no (.t 152) (.k (.sc (.int .i64 1))), none⟩,
  ⟨(some 18), .move (.t 153), none⟩]
def m4_l31 : MCode := (.seq (.seq (.ops m4_r32) (.cond (.t 151) .skip (.exit 10))) (.seq (.block 11 (.seq (.ops m4_r33) (.cond (.t 162) (.seq (.ops m4_r34) .ret) .skip))) (.ops m4_r35)))
def m4_r36 : List MI := [
  ⟨(some 143), .move (.t 17), none⟩,
  ⟨(some 144), .bin .add .no (.t 143) (.k (.sc (.int .i64 1))), none⟩,
  ⟨(some 17), .move (.t 144), none⟩]
def m4_l28 : MCode := (.seq (.seq (.ops m4_r29) (.cond (.t 142) .skip (.exit 8))) (.seq (.block 9 (.seq (.ops m4_r30) (.block 10 (.loop m4_l31)))) (.ops m4_r36)))
def m4_r37 : List MI := [
  ⟨(some 19), .move (.k (.sc (.int .i64 0))), none⟩]
def m4_r39 : List MI := [
  ⟨(some 163), .move (.t 19), none⟩,
  ⟨(some 164), .move (.t 16), none⟩,
  ⟨(some 165), .lenSlice (.t 164), none⟩,
  ⟨(some 166), .bin .lss .no (.t 163) (.t 165), none⟩]
def m4_r40 : List MI := [
  ⟨(some 20), .move (.k (.sc (.int .i64 0))), none⟩]
def m4_r42 : List MI := [
  ⟨(some 169), .move (.t 20), none⟩,
  ⟨(some 170), .move (.t 16), none⟩,
  ⟨(some 171), .move (.t 19), none⟩,
  ⟨(some 172), .indexSlice 1 (.t 170) (.t 171), none⟩,
  ⟨(some 173), .load none (.t 172), none⟩,
  ⟨(some 174), .lenSlice (.t 173), none⟩,
  ⟨(some 175), .bin .lss .no (.t 169) (.t 174), none⟩]
def m4_r43 : List MI := [
  ⟨(some 178), .move (.t 16), none⟩,
  ⟨(some 179), .move (.t 19), none⟩,
  ⟨(some 180), .indexSlice 1 (.t 178) (.t 179), none⟩,
  ⟨(some 181), .load none (.t 180), none⟩,
  ⟨(some 182), .move (.t 20), none⟩,
  ⟨(some 183), .indexSlice 7 (.t 181) (.t 182), none⟩,
  ⟨(some 184), .fieldAddr 1 (.t 183), none⟩,
  ⟨none, .store 1 (.t 184) (.k (.sc (.int .u8 99))), none⟩]
def m4_r44 : List MI := [
  ⟨(some 176), .move (.t 20), none⟩,
  ⟨(some 177), .bin .add .no (.t 176) (.k (.sc (.int .i64 1))), none⟩,
  ⟨(some 20), .move (.t 177), none⟩]
def m4_l41 : MCode := (.seq (.seq (.ops m4_r42) (.cond (.t 175) .skip (.exit 14))) (.seq (.block 15 (.ops m4_r43)) (.ops m4_r44)))
def m4_r45 : List MI := [
  ⟨(some 185), .move (.t 16), none⟩,
  ⟨(some 186), .move (.t 19), none⟩,
  ⟨(some 187), .indexSlice 1 (.t 185) (.t 186), none⟩,
  ⟨none, .store 1 (.t 187) (.k (.sc (.nils))), none⟩]
def m4_r46 : List MI := [
  ⟨(some 167), .move (.t 19), none⟩,
  ⟨(some 168), .bin .add .no (.t 167) (.k (.sc (.int .i64 1))), none⟩,
  ⟨(some 19), .move (.t 168), none⟩]
def m4_l38 : MCode := (.seq (.seq (.ops m4_r39) (.cond (.t 166) .skip (.exit 12))) (.seq (.block 13 (.seq (.seq (.ops m4_r40) (.block 14 (.loop m4_l41))) (.ops m4_r45))) (.ops m4_r46)))
def m4_r47 : List MI := [
  ⟨(some 188), .bin .add .no (.t 135) (.k (.sc (.int .i64 1))), none⟩,
  ⟨(some 135), .move (.t 188), none⟩]
def m4_l24 : MCode := (.seq (.ops m4_r25) (.seq (.cond (.t 136) .skip (.exit 6)) (.seq (.block 7 (.seq (.ops m4_r26) (.seq (.seq (.ops m4_r27) (.block 8 (.loop m4_l28))) (.seq (.ops m4_r37) (.block 12 (.loop m4_l38)))))) (.ops m4_r47))))
def m4_r48 : List MI := [
  ⟨(some 189), .move (.t 0), none⟩,
  ⟨(some 190), .move (.t 7), none⟩,
  ⟨(some 191), .call 10 [(.t 189), (.t 190)], none⟩,
  ⟨(some 192), .move (.t 191), none⟩,
  ⟨(some 193), .call 7 [], (some (192, true))⟩,
  ⟨(some 194), .pick (.t 192) (.t 193) (.k (.sc (.bool false))), none⟩,
  ⟨(some 4), .move (.t 194), none⟩]
def m4_code : MCode := (.seq (.ops m4_r0) (.seq (.seq (.ops m4_r1) (.cond (.t 27) (.seq (.ops m4_r2) .ret) .skip)) (.seq (.seq (.ops m4_r3) (.block 0 (.loop m4_l4))) (.seq (.ops m4_r13) (.seq (.seq (.ops m4_r14) (.block 4 (.loop m4_l15))) (.seq (.ops m4_r19) (.seq (.ops m4_r20) (.seq (.ops m4_r21) (.seq (.ops m4_r22) (.seq (.seq (.ops m4_r23) (.block 6 (.loop m4_l24))) (.seq (.ops m4_r48) .ret)))))))))))
def m4 : MFunc := ⟨195, [.tmp 4], m4_code⟩

def m5_r0 : List MI := [
  ⟨(some 0), .move (.k (.sc (.bool false))), none⟩]
def m5_r1 : List MI := [
  ⟨(some 19), .call 14 [(.k (.sc (.str [97, 98, 99, 100, 101])))], none⟩,
  ⟨(some 1), .move (.t 19), none⟩]
def m5_r2 : List MI := [
  ⟨(some 20), .build [.int .u16 0, .int .u8 0, .int .u32 0, .int .u8 0, .int .u32 0] [], none⟩,
  ⟨(some 2), .alloc 28 [.int .u16 0, .int .u8 0, .int .u32 0, .int .u8 0, .int .u32 0], none⟩,
  ⟨none, .store 5 (.t 2) (.t 20), none⟩]
def m5_r3 : List MI := [
  ⟨(some 3), .move (.k (.sc (.func 10 []))), none⟩]
def m5_r4 : List MI := [
  ⟨(some 22), .move (.t 1), none⟩,
  ⟨(some 23), .load (some 5) (.t 2), none⟩,
  ⟨(some 24), .call 9 [(.t 22), (.k (.sc (.int .i64 1))), (.k (.sc (.int .i64 3))), (.k (.sc (.int .i64 1))), (.k (.sc (.int .i64 1))), (.t 23)], none⟩,
  ⟨(some 21), .move (.t 24), none⟩,
  ⟨(some 25), .extract (.t 21) 0, none⟩,
  ⟨(some 26), .extract (.t 21) 1, none⟩,
  ⟨(some 4), .move (.t 25), none⟩,
  ⟨(some 5), .move (.t 26), none⟩]
def m5_r5 : List MI := [
  ⟨(some 28), .move (.t 1), none⟩,
  ⟨(some 29), .load (some 5) (.t 2), none⟩,
  ⟨(some 30), .call 9 [(.t 28), (.k (.sc (.int .i64 1))), (.k (.sc (.int .i64 3))), (.k (.sc (.int .i64 9))), (.k (.sc (.int .i64 1))), (.t 29)], none⟩,
  ⟨(some 27), .move (.t 30), none⟩,
  ⟨(some 31), .extract (.t 27) 0, none⟩,
  ⟨(some 32), .extract (.t 27) 1, none⟩,
  ⟨(some 6), .move (.t 31), none⟩,
  ⟨(some 7), .move (.t 32), none⟩]
def m5_r6 : List MI := [
  ⟨(some 34), .move (.t 1), none⟩,
  ⟨(some 35), .load (some 5) (.t 2), none⟩,
  ⟨(some 36), .call 8 [(.t 34), (.k (.sc (.int .i64 1))), (.k (.sc (.int .i64 3))), (.k (.sc (.int .i64 2))), (.k (.sc (.int .i64 1))), (.t 35)], none⟩,
  ⟨(some 33), .move (.t 36), none⟩,
  ⟨(some 37), .extract (.t 33) 0, none⟩,
  ⟨(some 38), .extract (.t 33) 1, none⟩,
  ⟨(some 8), .move (.t 37), none⟩,
  ⟨(some 9), .move (.t 38), none⟩]
def m5_r7 : List MI := [
  ⟨(some 40), .move (.t 1), none⟩,
  ⟨(some 41), .load (some 5) (.t 2), none⟩,
  ⟨(some 42), .call 9 [(.t 40), (.k (.sc (.int .i64 3))), (.k (.sc (.int .i64 1))), (.k (.sc (.int .i64 1))), (.k (.sc (.int .i64 1))), (.t 41)], none⟩,
  ⟨(some 39), .move (.t 42), none⟩,
  ⟨(some 43), .extract (.t 39) 0, none⟩,
  ⟨(some 44), .extract (.t 39) 1, none⟩,
  ⟨(some 10), .move (.t 43), none⟩,
  ⟨(some 11), .move (.t 44), none⟩]
def m5_r8 : List MI := [
  ⟨(some 46), .move (.t 1), none⟩,
  ⟨(some 47), .load (some 5) (.t 2), none⟩,
  ⟨(some 48), .call 8 [(.t 46), (.k (.sc (.int .i64 0))), (.k (.sc (.int .i64 5))), (.k (.sc (.int .i64 1))), (.k (.sc (.int .i64 1))), (.t 47)], none⟩,
  ⟨(some 45), .move (.t 48), none⟩,
  ⟨(some 49), .extract (.t 45) 0, none⟩,
  ⟨(some 50), .extract (.t 45) 1, none⟩,
  ⟨(some 12), .move (.t 49), none⟩,
  ⟨(some 13), .move (.t 50), none⟩]
def m5_r9 : List MI := [
  ⟨(some 52), .move (.t 1), none⟩,
  ⟨(some 53), .load (some 5) (.t 2), none⟩,
  ⟨(some 54), .call 9 [(.t 52), (.k (.sc (.int .i64 0))), (.k (.sc (.int .i64 4))), (.k (.sc (.int .i64 0))), (.k (.sc (.int .i64 1))), (.t 53)], none⟩,
  ⟨(some 51), .move (.t 54), none⟩,
  ⟨(some 55), .extract (.t 51) 0, none⟩,
  ⟨(some 56), .extract (.t 51) 1, none⟩,
  ⟨(some 14), .move (.t 55), none⟩,
  ⟨(some 15), .move (.t 56), none⟩]
def m5_r10 : List MI := [
  ⟨(some 57), .move (.t 3), none⟩,
  ⟨(some 58), .move (.t 4), none⟩,
  ⟨(some 59), .call 14 [(.k (.sc (.str [97, 99, 100, 32, 101])))], none⟩,
  ⟨(some 60), .callv (.t 57) [(.t 58), (.t 59)], none⟩,
  ⟨(some 61), .move (.t 60), none⟩,
  ⟨(some 62), .move (.t 3), (some (61, true))⟩,
  ⟨(some 63), .move (.t 5), (some (61, true))⟩,
  ⟨(some 64), .call 14 [(.k (.sc (.str [98])))], (some (61, true))⟩,
  ⟨(some 65), .callv (.t 62) [(.t 63), (.t 64)], (some (61, true))⟩,
  ⟨(some 66), .pick (.t 61) (.t 65) (.k (.sc (.bool false))), none⟩,
  ⟨(some 67), .move (.t 66), none⟩,
  ⟨(some 68), .move (.t 3), (some (67, true))⟩,
  ⟨(some 69), .move (.t 6), (some (67, true))⟩,
  ⟨(some 70), .call 14 [(.k (.sc (.str [97, 32, 32, 32, 101])))], (some (67, true))⟩,
  ⟨(some 71), .callv (.t 68) [(.t 69), (.t 70)], (some (67, true))⟩,
  ⟨(some 72), .pick (.t 67) (.t 71) (.k (.sc (.bool false))), none⟩,
  ⟨(some 73), .move (.t 72), none⟩,
  ⟨(some 74), .move (.t 3), (some (73, true))⟩,
  ⟨(some 75), .move (.t 7), (some (73, true))⟩,
  ⟨(some 76), .call 14 [(.k (.sc (.str [98, 99, 100])))], (some (73, true))⟩,
  ⟨(some 77), .callv (.t 74) [(.t 75), (.t 76)], (some (73, true))⟩,
  ⟨(some 78), .pick (.t 73) (.t 77) (.k (.sc (.bool false))), none⟩,
  ⟨(some 79), .move (.t 78), none⟩,
  ⟨(some 80), .move (.t 3), (some (79, true))⟩,
  ⟨(some 81), .move (.t 8), (some (79, true))⟩,
  ⟨(some 82), .call 14 [(.k (.sc (.str [97, 32, 32, 98, 101])))], (some (79, true))⟩,
  ⟨(some 83), .callv (.t 80) [(.t 81), (.t 82)], (some (79, true))⟩,
  ⟨(some 84), .pick (.t 79) (.t 83) (.k (.sc (.bool false))), none⟩,
  ⟨(some 85), .move (.t 84), none⟩,
  ⟨(some 86), .move (.t 3), (some (85, true))⟩,
  ⟨(some 87), .move (.t 9), (some (85, true))⟩,
  ⟨(some 88), .call 14 [(.k (.sc (.str [99, 100])))], (some (85, true))⟩,
  ⟨(some 89), .callv (.t 86) [(.t 87), (.t 88)], (some (85, true))⟩,
  ⟨(some 90), .pick (.t 85) (.t 89) (.k (.sc (.bool false))), none⟩,
  ⟨(some 91), .move (.t 90), none⟩,
  ⟨(some 92), .move (.t 3), (some (91, true))⟩,
  ⟨(some 93), .move (.t 10), (some (91, true))⟩,
  ⟨(some 94), .move (.t 1), (some (91, true))⟩,
  ⟨(some 95), .callv (.t 92) [(.t 93), (.t 94)], (some (91, true))⟩,
  ⟨(some 96), .pick (.t 91) (.t 95) (.k (.sc (.bool false))), none⟩,
  ⟨(some 97), .move (.t 96), none⟩,
  ⟨(some 98), .move (.t 11), (some (97, true))⟩,
  ⟨(some 99), .lenSlice (.t 98), (some (97, true))⟩,
  ⟨(some 100), .bin .eql .no (.t 99) (.k (.sc (.int .i64 0))), (some (97, true))⟩,
  ⟨(some 101), .pick (.t 97) (.t 100) (.k (.sc (.bool false))), none⟩,
  ⟨(some 102), .move (.t 101), none⟩,
  ⟨(some 103), .move (.t 3), (some (102, true))⟩,
  ⟨(some 104), .move (.t 12), (some (102, true))⟩,
  ⟨(some 105), .move (.t 1), (some (102, true))⟩,
  ⟨(some 106), .callv (.t 103) [(.t 104), (.t 105)], (some (102, true))⟩,
  ⟨(some 107), .pick (.t 102) (.t 106) (.k (.sc (.bool false))), none⟩,
  ⟨(some 108), .move (.t 107), none⟩,
  ⟨(some 109), .move (.t 13), (some (108, true))⟩,
  ⟨(some 110), .lenSlice (.t 109), (some (108, true))⟩,
  ⟨(some 111), .bin .eql .no (.t 110) (.k (.sc (.int .i64 0))), (some (108, true))⟩,
  ⟨(some 112), .pick (.t 108) (.t 111) (.k (.sc (.bool false))), none⟩,
  ⟨(some 113), .move (.t 112), none⟩,
  ⟨(some 114), .move (.t 3), (some (113, true))⟩,
  ⟨(some 115), .move (.t 14), (some (113, true))⟩,
  ⟨(some 116), .move (.t 1), (some (113, true))⟩,
  ⟨(some 117), .callv (.t 114) [(.t 115), (.t 116)], (some (113, true))⟩,
  ⟨(some 118), .pick (.t 113) (.t 117) (.k (.sc (.bool false))), none⟩,
  ⟨(some 119), .move (.t 118), none⟩,
  ⟨(some 120), .move (.t 15), (some (119, true))⟩,
  ⟨(some 121), .lenSlice (.t 120), (some (119, true))⟩,
  ⟨(some 122), .bin .eql .no (.t 121) (.k (.sc (.int .i64 0))), (some (119, true))⟩,
  ⟨(some 123), .pick (.t 119) (.t 122) (.k (.sc (.bool false))), none⟩,
  ⟨(some 16), .move (.t 123), none⟩]
def m5_r11 : List MI := [
  ⟨(some 124), .move (.t 3), none⟩,
  ⟨(some 125), .move (.t 1), none⟩,
  ⟨(some 126), .load (some 5) (.t 2), none⟩,
  ⟨(some 127), .call 12 [(.t 125), (.k (.sc (.int .i64 2))), (.k (.sc (.int .i64 1))), (.k (.sc (.int .i64 3))), (.k (.sc (.int .i64 1))), (.k (.sc (.int .i64 1))), (.t 126)], none⟩,
  ⟨(some 128), .call 14 [(.k (.sc (.str [97, 98, 32, 99, 101])))], none⟩,
  ⟨(some 129), .callv (.t 124) [(.t 127), (.t 128)], none⟩,
  ⟨(some 130), .move (.t 129), none⟩,
  ⟨(some 131), .move (.t 3), (some (130, true))⟩,
  ⟨(some 132), .move (.t 1), (some (130, true))⟩,
  ⟨(some 133), .load (some 5) (.t 2), (some (130, true))⟩,
  ⟨(some 134), .call 13 [(.t 132), (.k (.sc (.int .i64 2))), (.k (.sc (.int .i64 1))), (.k (.sc (.int .i64 3))), (.k (.sc (.int .i64 1))), (.k (.sc (.int .i64 1))), (.t 133)], (some (130, true))⟩,
  ⟨(some 135), .call 14 [(.k (.sc (.str [97, 98, 100, 32, 101])))], (some (130, true))⟩,
  ⟨(some 136), .callv (.t 131) [(.t 134), (.t 135)], (some (130, true))⟩,
  ⟨(some 137), .pick (.t 130) (.t 136) (.k (.sc (.bool false))), none⟩,
  ⟨(some 138), .move (.t 137), none⟩,
  ⟨(some 139), .move (.t 3), (some (138, true))⟩,
  ⟨(some 140), .move (.t 1), (some (138, true))⟩,
  ⟨(some 141), .load (some 5) (.t 2), (some (138, true))⟩,
  ⟨(some 142), .call 12 [(.t 140), (.k (.sc (.int .i64 0))), (.k (.sc (.int .i64 1))), (.k (.sc (.int .i64 3))), (.k (.sc (.int .i64 1))), (.k (.sc (.int .i64 1))), (.t 141)], (some (138, true))⟩,
  ⟨(some 143), .move (.t 1), (some (138, true))⟩,
  ⟨(some 144), .callv (.t 139) [(.t 142), (.t 143)], (some (138, true))⟩,
  ⟨(some 145), .pick (.t 138) (.t 144) (.k (.sc (.bool false))), none⟩,
  ⟨(some 146), .move (.t 145), none⟩,
  ⟨(some 147), .move (.t 3), (some (146, true))⟩,
  ⟨(some 148), .move (.t 1), (some (146, true))⟩,
  ⟨(some 149), .load (some 5) (.t 2), (some (146, true))⟩,
  ⟨(some 150), .call 13 [(.t 148), (.k (.sc (.int .i64 4))), (.k (.sc (.int .i64 1))), (.k (.sc (.int .i64 3))), (.k (.sc (.int .i64 1))), (.k (.sc (.int .i64 1))), (.t 149)], (some (146, true))⟩,
  ⟨(some 151), .move (.t 1), (some (146, true))⟩,
  ⟨(some 152), .callv (.t 147) [(.t 150), (.t 151)], (some (146, true))⟩,
  ⟨(some 153), .pick (.t 146) (.t 152) (.k (.sc (.bool false))), none⟩,
  ⟨(some 154), .move (.t 153), none⟩,
  ⟨(some 155), .move (.t 3), (some (154, true))⟩,
  ⟨(some 156), .move (.t 1), (some (154, true))⟩,
  ⟨(some 157), .load (some 5) (.t 2), (some (154, true))⟩,
  ⟨(some 158), .call 12 [(.t 156), (.k (.sc (.int .i64 2))), (.k (.sc (.int .i64 (-1)))), (.k (.sc (.int .i64 3))), (.k (.sc (.int .i64 1))), (.k (.sc (.int .i64 1))), (.t 157)], (some (154, true))⟩,
  ⟨(some 159), .move (.t 1), (some (154, true))⟩,
  ⟨(some 160), .callv (.t 155) [(.t 158), (.t 159)], (some (154, true))⟩,
  ⟨(some 161), .pick (.t 154) (.t 160) (.k (.sc (.bool false))), none⟩,
  ⟨(some 162), .move (.t 161), none⟩,
  ⟨(some 163), .move (.t 3), (some (162, true))⟩,
  ⟨(some 164), .move (.t 1), (some (162, true))⟩,
  ⟨(some 165), .load (some 5) (.t 2), (some (162, true))⟩,
  ⟨(some 166), .call 12 [(.t 164), (.k (.sc (.int .i64 2))), (.k (.sc (.int .i64 1))), (.k (.sc (.int .i64 5))), (.k (.sc (.int .i64 1))), (.k (.sc (.int .i64 1))), (.t 165)], (some (162, true))⟩,
  ⟨(some 167), .move (.t 1), (some (162, true))⟩,
  ⟨(some 168), .callv (.t 163) [(.t 166), (.t 167)], (some (162, true))⟩,
  ⟨(some 169), .pick (.t 162) (.t 168) (.k (.sc (.bool false))), none⟩,
  ⟨(some 17), .move (.t 169), none⟩]
def m5_r12 : List MI := [
  ⟨(some 170), .build [.int .u16 0, .int .u8 0, .int .u32 0, .int .u8 0, .int .u32 0] [(0, 1, (.k (.sc (.int .u16 4))))], none⟩,
  ⟨(some 171), .call 11 [(.k (.sc (.int .i64 2))), (.k (.sc (.int .i64 3))), (.t 170)], none⟩,
  ⟨(some 18), .move (.t 171), none⟩]
def m5_r13 : List MI := [
  ⟨(some 172), .move (.t 16), none⟩,
  ⟨(some 173), .move (.t 172), none⟩,
  ⟨(some 174), .move (.t 17), (some (173, true))⟩,
  ⟨(some 175), .pick (.t 173) (.t 174) (.k (.sc (.bool false))), none⟩,
  ⟨(some 176), .move (.t 175), none⟩,
  ⟨(some 177), .move (.t 18), (some (176, true))⟩,
  ⟨(some 178), .lenSlice (.t 177), (some (176, true))⟩,
  ⟨(some 179), .bin .eql .no (.t 178) (.k (.sc (.int .i64 2))), (some (176, true))⟩,
  ⟨(some 180), .pick (.t 176) (.t 179) (.k (.sc (.bool false))), none⟩,
  ⟨(some 181), .move (.t 180), none⟩,
  ⟨(some 182), .move (.t 18), (some (181, true))⟩,
  ⟨(some 183), .indexSlice 1 (.t 182) (.k (.sc (.int .i64 1))), (some (181, true))⟩,
  ⟨(some 184), .load none (.t 183), (some (181, true))⟩,
  ⟨(some 185), .lenSlice (.t 184), (some (181, true))⟩,
  ⟨(some 186), .bin .eql .no (.t 185) (.k (.sc (.int .i64 3))), (some (181, true))⟩,
  ⟨(some 187), .pick (.t 181) (.t 186) (.k (.sc (.bool false))), none⟩,
  ⟨(some 188), .move (.t 187), none⟩,
  ⟨(some 189), .move (.t 18), (some (188, true))⟩,
  ⟨(some 190), .indexSlice 1 (.t 189) (.k (.sc (.int .i64 1))), (some (188, true))⟩,
  ⟨(some 191), .load none (.t 190), (some (188, true))⟩,
  ⟨(some 192), .indexSlice 7 (.t 191) (.k (.sc (.int .i64 2))), (some (188, true))⟩,
  ⟨(some 193), .fieldAddr 2 (.t 192), (some (188, true))⟩,
  ⟨(some 194), .fieldAddr 0 (.t 193), (some (188, true))⟩,
  ⟨(some 195), .load none (.t 194), (some (188, true))⟩,
  ⟨(some 196), .bin .eql .no (.t 195) (.k (.sc (.int .u16 4))), (some (188, true))⟩,
  ⟨(some 197), .pick (.t 188) (.t 196) (.k (.sc (.bool false))), none⟩,
  ⟨(some 198), .move (.t 197), none⟩,
  ⟨(some 199), .move (.t 18), (some (198, true))⟩,
  ⟨(some 200), .indexSlice 1 (.t 199) (.k (.sc (.int .i64 0))), (some (198, true))⟩,
  ⟨(some 201), .load none (.t 200), (some (198, true))⟩,
  ⟨(some 202), .indexSlice 7 (.t 201) (.k (.sc (.int .i64 0))), (some (198, true))⟩,
  ⟨(some 203), .fieldAddr 0 (.t 202), (some (198, true))⟩,
  ⟨(some 204), .load none (.t 203), (some (198, true))⟩,
  ⟨(some 205), .bin .eql .no (.t 204) (.k (.sc (.int .i32 32))), (some (198, true))⟩,
  ⟨(some 206), .pick (.t 198) (.t 205) (.k (.sc (.bool false))), none⟩,
  ⟨(some 207), .move (.t 206), none⟩,
  ⟨(some 208), .load (some 5) (.t 2), (some (207, true))⟩,
  ⟨(some 209), .call 11 [(.k (.sc (.int .i64 0))), (.k (.sc (.int .i64 3))), (.t 208)], (some (207, true))⟩,
  ⟨(some 210), .lenSlice (.t 209), (some (207, true))⟩,
  ⟨(some 211), .bin .eql .no (.t 210) (.k (.sc (.int .i64 0))), (some (207, true))⟩,
  ⟨(some 212), .pick (.t 207) (.t 211) (.k (.sc (.bool false))), none⟩,
  ⟨(some 213), .move (.t 212), none⟩,
  ⟨(some 214), .load (some 5) (.t 2), (some (213, true))⟩,
  ⟨(some 215), .call 11 [(.k (.sc (.int .i64 401))), (.k (.sc (.int .i64 3))), (.t 214)], (some (213, true))⟩,
  ⟨(some 216), .lenSlice (.t 215), (some (213, true))⟩,
  ⟨(some 217), .bin .eql .no (.t 216) (.k (.sc (.int .i64 0))), (some (213, true))⟩,
  ⟨(some 218), .pick (.t 213) (.t 217) (.k (.sc (.bool false))), none⟩,
  ⟨(some 219), .move (.t 218), none⟩,
  ⟨(some 220), .call 15 [(.k (.sc (.nils)))], (some (219, true))⟩,
  ⟨(some 221), .lenSlice (.t 220), (some (219, true))⟩,
  ⟨(some 222), .bin .eql .no (.t 221) (.k (.sc (.int .i64 0))), (some (219, true))⟩,
  ⟨(some 223), .pick (.t 219) (.t 222) (.k (.sc (.bool false))), none⟩,
  ⟨(some 224), .move (.t 223), none⟩,
  ⟨(some 225), .call 7 [], (some (224, true))⟩,
  ⟨(some 226), .pick (.t 224) (.t 225) (.k (.sc (.bool false))), none⟩,
  ⟨(some 0), .move (.t 226), none⟩]
def m5_code : MCode := (.seq (.ops m5_r0) (.seq (.ops m5_r1) (.seq (.ops m5_r2) (.seq (.ops m5_r3) (.seq (.ops m5_r4) (.seq (.ops m5_r5) (.seq (.ops m5_r6) (.seq (.ops m5_r7) (.seq (.ops m5_r8) (.seq (.ops m5_r9) (.seq (.ops m5_r10) (.seq (.ops m5_r11) (.seq (.ops m5_r12) (.seq (.ops m5_r13) .ret))))))))))))))
def m5 : MFunc := ⟨227, [.tmp 0], m5_code⟩

def m6_r0 : List MI := [
  ⟨(some 2), .move (.k (.sc (.bool false))), none⟩]
def m6_r1 : List MI := [
  ⟨(some 4), .move (.t 0), none⟩,
  ⟨(some 5), .lenSlice (.t 4), none⟩,
  ⟨(some 6), .bin .gtr .no (.t 5) (.k (.sc (.int .i64 60))), none⟩]
def m6_r2 : List MI := [
  ⟨(some 2), .move (.k (.sc (.bool true))), none⟩]
def m6_r3 : List MI := [
  ⟨(some 3), .move (.k (.sc (.int .i64 0))), none⟩]
def m6_r5 : List MI := [
  ⟨(some 7), .move (.t 3), none⟩,
  ⟨(some 8), .move (.t 0), none⟩,
  ⟨(some 9), .lenSlice (.t 8), none⟩,
  ⟨(some 10), .bin .lss .no (.t 7) (.t 9), none⟩]
def m6_r6 : List MI := [
  ⟨(some 13), .move (.t 0), none⟩,
  ⟨(some 14), .move (.t 3), none⟩,
  ⟨(some 15), .indexSlice 1 (.t 13) (.t 14), none⟩,
  ⟨(some 16), .load none (.t 15), none⟩,
  ⟨(some 17), .lenSlice (.t 16), none⟩,
  ⟨(some 18), .bin .gtr .no (.t 17) (.k (.sc (.int .i64 60))), none⟩]
def m6_r7 : List MI := [
  ⟨(some 2), .move (.k (.sc (.bool true))), none⟩]
def m6_r8 : List MI := [
  ⟨(some 11), .move (.t 3), none⟩,
  ⟨(some 12), .bin .add .no (.t 11) (.k (.sc (.int .i64 1))), none⟩,
  ⟨(some 3), .move (.t 12), none⟩]
def m6_l4 : MCode := (.seq (.seq (.ops m6_r5) (.cond (.t 10) .skip (.exit 0))) (.seq (.block 1 (.seq (.ops m6_r6) (.cond (.t 18) (.seq (.ops m6_r7) .ret) .skip))) (.ops m6_r8)))
def m6_r9 : List MI := [
  ⟨(some 2), .move (.k (.sc (.bool false))), none⟩]
def m6_code : MCode := (.seq (.ops m6_r0) (.seq (.seq (.ops m6_r1) (.cond (.t 6) (.seq (.ops m6_r2) .ret) .skip)) (.seq (.seq (.ops m6_r3) (.block 0 (.loop m6_l4))) (.seq (.ops m6_r9) .ret))))
def m6 : MFunc := ⟨19, [.tmp 2], m6_code⟩

def m7_r0 : List MI := [
  ⟨(some 0), .move (.k (.sc (.bool false))), none⟩]
def m7_r1 : List MI := [
  ⟨(some 7), .call 14 [(.k (.sc (.str [97, 98, 99, 100, 101])))], none⟩,
  ⟨(some 8), .build [.int .u16 0, .int .u8 0, .int .u32 0, .int .u8 0, .int .u32 0] [], none⟩,
  ⟨(some 9), .call 9 [(.t 7), (.k (.sc (.int .i64 1))), (.k (.sc (.int .i64 3))), (.k (.sc (.int .i64 1))), (.k (.sc (.int .i64 1))), (.t 8)], none⟩,
  ⟨(some 6), .move (.t 9), none⟩,
  ⟨(some 10), .extract (.t 6) 0, none⟩,
  ⟨(some 11), .extract (.t 6) 1, none⟩,
  ⟨(some 1), .move (.t 10), none⟩,
  ⟨(some 2), .move (.t 11), none⟩]
def m7_r2 : List MI := [
  ⟨(some 13), .call 14 [(.k (.sc (.str [97, 98, 99, 100, 101])))], none⟩,
  ⟨(some 14), .build [.int .u16 0, .int .u8 0, .int .u32 0, .int .u8 0, .int .u32 0] [], none⟩,
  ⟨(some 15), .call 8 [(.t 13), (.k (.sc (.int .i64 1))), (.k (.sc (.int .i64 3))), (.k (.sc (.int .i64 2))), (.k (.sc (.int .i64 1))), (.t 14)], none⟩,
  ⟨(some 12), .move (.t 15), none⟩,
  ⟨(some 16), .extract (.t 12) 0, none⟩,
  ⟨(some 17), .extract (.t 12) 1, none⟩,
  ⟨(some 3), .move (.t 16), none⟩,
  ⟨(some 4), .move (.t 17), none⟩]
def m7_r3 : List MI := [
  ⟨(some 18), .move (.t 1), none⟩,
  ⟨(some 19), .call 15 [(.t 18)], none⟩,
  ⟨(some 5), .move (.t 19), none⟩]
def m7_r4 : List MI := [
  ⟨(some 20), .move (.t 1), none⟩,
  ⟨(some 21), .call 14 [(.k (.sc (.str [97, 99, 100, 32, 101])))], none⟩,
  ⟨(some 22), .call 10 [(.t 20), (.t 21)], none⟩,
  ⟨(some 23), .move (.t 22), none⟩,
  ⟨(some 24), .move (.t 2), (some (23, true))⟩,
  ⟨(some 25), .call 14 [(.k (.sc (.str [98])))], (some (23, true))⟩,
  ⟨(some 26), .call 10 [(.t 24), (.t 25)], (some (23, true))⟩,
  ⟨(some 27), .pick (.t 23) (.t 26) (.k (.sc (.bool false))), none⟩,
  ⟨(some 28), .move (.t 27), none⟩,
  ⟨(some 29), .move (.t 3), (some (28, true))⟩,
  ⟨(some 30), .call 14 [(.k (.sc (.str [97, 32, 32, 98, 101])))], (some (28, true))⟩,
  ⟨(some 31), .call 10 [(.t 29), (.t 30)], (some (28, true))⟩,
  ⟨(some 32), .pick (.t 28) (.t 31) (.k (.sc (.bool false))), none⟩,
  ⟨(some 33), .move (.t 32), none⟩,
  ⟨(some 34), .move (.t 4), (some (33, true))⟩,
  ⟨(some 35), .call 14 [(.k (.sc (.str [99, 100])))], (some (33, true))⟩,
  ⟨(some 36), .call 10 [(.t 34), (.t 35)], (some (33, true))⟩,
  ⟨(some 37), .pick (.t 33) (.t 36) (.k (.sc (.bool false))), none⟩,
  ⟨(some 38), .move (.t 37), none⟩,
  ⟨(some 39), .move (.t 5), (some (38, true))⟩,
  ⟨(some 40), .lenSlice (.t 39), (some (38, true))⟩,
  ⟨(some 41), .bin .eql .no (.t 40) (.k (.sc (.int .i64 5))), (some (38, true))⟩,
  ⟨(some 42), .pick (.t 38) (.t 41) (.k (.sc (.bool false))), none⟩,
  ⟨(some 43), .move (.t 42), none⟩,
  ⟨(some 44), .move (.t 5), (some (43, true))⟩,
  ⟨(some 45), .indexSlice 1 (.t 44) (.k (.sc (.int .i64 1))), (some (43, true))⟩,
  ⟨(some 46), .load none (.t 45), (some (43, true))⟩,
  ⟨(some 47), .bin .eql .no (.t 46) (.k (.sc (.str [99]))), (some (43, true))⟩,
  ⟨(some 48), .pick (.t 43) (.t 47) (.k (.sc (.bool false))), none⟩,
  ⟨(some 49), .move (.t 48), none⟩,
  ⟨(some 50), .move (.t 5), (some (49, true))⟩,
  ⟨(some 51), .indexSlice 1 (.t 50) (.k (.sc (.int .i64 3))), (some (49, true))⟩,
  ⟨(some 52), .load none (.t 51), (some (49, true))⟩,
  ⟨(some 53), .bin .eql .no (.t 52) (.k (.sc (.str []))), (some (49, true))⟩,
  ⟨(some 54), .pick (.t 49) (.t 53) (.k (.sc (.bool false))), none⟩,
  ⟨(some 55), .move (.t 54), none⟩,
  ⟨(some 56), .build [.int .u16 0, .int .u8 0, .int .u32 0, .int .u8 0, .int .u32 0] [], (some (55, true))⟩,
  ⟨(some 57), .call 11 [(.k (.sc (.int .i64 2))), (.k (.sc (.int .i64 3))), (.t 56)], (some (55, true))⟩,
  ⟨(some 58), .lenSlice (.t 57), (some (55, true))⟩,
  ⟨(some 59), .bin .eql .no (.t 58) (.k (.sc (.int .i64 2))), (some (55, true))⟩,
  ⟨(some 60), .pick (.t 55) (.t 59) (.k (.sc (.bool false))), none⟩,
  ⟨(some 0), .move (.t 60), none⟩]
def m7_code : MCode := (.seq (.ops m7_r0) (.seq (.ops m7_r1) (.seq (.ops m7_r2) (.seq (.ops m7_r3) (.seq (.ops m7_r4) .ret)))))
def m7 : MFunc := ⟨61, [.tmp 0], m7_code⟩

def m8_r0 : List MI := [
  ⟨(some 11), .box 28 (.t 5), none⟩,
  ⟨(some 12), .move (.k (.sc (.nils))), none⟩,
  ⟨(some 13), .move (.k (.sc (.nils))), none⟩]
def m8_r1 : List MI := [
  ⟨(some 14), .move (.t 0), none⟩,
  ⟨(some 15), .call 16 [(.t 14)], none⟩,
  ⟨(some 12), .move (.t 15), none⟩]
def m8_r2 : List MI := [
  ⟨(some 16), .move (.t 0), none⟩,
  ⟨(some 17), .move (.t 1), none⟩,
  ⟨(some 18), .move (.t 2), none⟩,
  ⟨(some 19), .call 17 [(.t 16), (.t 17), (.t 18)], none⟩,
  ⟨(some 20), .un .not (.t 19), none⟩,
  ⟨(some 21), .move (.t 20), none⟩,
  ⟨(some 22), .move (.t 3), (some (21, false))⟩,
  ⟨(some 23), .bin .lss .no (.t 22) (.k (.sc (.int .i64 1))), (some (21, false))⟩,
  ⟨(some 24), .pick (.t 21) (.k (.sc (.bool true))) (.t 23), none⟩]
def m8_r3 : List MI := [
  ⟨(some 25), .move (.t 12), none⟩,
  ⟨(some 12), .move (.t 25), none⟩,
  ⟨(some 13), .move (.k (.sc (.nils))), none⟩]
def m8_r4 : List MI := [
  ⟨(some 26), .move (.t 3), none⟩,
  ⟨(some 27), .move (.t 2), none⟩,
  ⟨(some 28), .move (.t 1), none⟩,
  ⟨(some 29), .bin .sub .no (.t 27) (.t 28), none⟩,
  ⟨(some 30), .bin .add .no (.t 29) (.k (.sc (.int .i64 1))), none⟩,
  ⟨(some 31), .min [(.t 26), (.t 30)], none⟩,
  ⟨(some 3), .move (.t 31), none⟩]
def m8_r5 : List MI := [
  ⟨(some 32), .move (.t 12), none⟩,
  ⟨(some 33), .move (.t 2), none⟩,
  ⟨(some 34), .bin .add .no (.t 33) (.k (.sc (.int .i64 1))), none⟩,
  ⟨(some 35), .move (.t 3), none⟩,
  ⟨(some 36), .bin .sub .no (.t 34) (.t 35), none⟩,
  ⟨(some 37), .move (.t 2), none⟩,
  ⟨(some 38), .bin .add .no (.t 37) (.k (.sc (.int .i64 1))), none⟩,
  ⟨(some 39), .slice 1 (.t 32) (some (.t 36)) (some (.t 38)), none⟩,
  ⟨(some 40), .call 18 [(.t 39)], none⟩,
  ⟨(some 13), .move (.t 40), none⟩]
def m8_r6 : List DI := [
  ⟨⟨(some 41), .move (.t 12), none⟩, 0, [], []⟩,
  ⟨⟨(some 42), .move (.t 1), none⟩, 0, [], []⟩,
  ⟨⟨(some 43), .move (.t 3), none⟩, 0, [], []⟩,
  ⟨⟨(some 44), .bin .add .no (.t 42) (.t 43), none⟩, 0, [], []⟩,
  ⟨⟨(some 45), .move (.t 2), none⟩, 0, [], []⟩,
  ⟨⟨(some 46), .bin .add .no (.t 45) (.k (.sc (.int .i64 1))), none⟩, 0, [], []⟩,
  ⟨⟨(some 47), .slice 1 (.t 41) (some (.t 44)) (some (.t 46)), none⟩, 0, [], []⟩,
  ⟨⟨(some 48), .move (.t 12), none⟩, 0, [], []⟩,
  ⟨⟨(some 49), .move (.t 1), none⟩, 0, [], []⟩,
  ⟨⟨(some 50), .slice 1 (.t 48) (some (.t 49)) none, none⟩, 0, [], []⟩,
  ⟨⟨(some 51), .copy 1 (.t 47) (.t 50), none⟩, 2, [], []⟩]
def m8_r7 : List DI := [
  ⟨⟨(some 52), .move (.t 12), none⟩, 0, [], [6]⟩,
  ⟨⟨(some 53), .move (.t 1), none⟩, 0, [], [6]⟩,
  ⟨⟨(some 54), .slice 1 (.t 52) (some (.t 53)) none, none⟩, 0, [], [6]⟩,
  ⟨⟨(some 55), .move (.t 3), none⟩, 0, [], []⟩,
  ⟨⟨(some 56), .move (.t 4), none⟩, 0, [], []⟩,
  ⟨⟨(some 57), .load (some 5) (.t 11), none⟩, 1, [], []⟩,
  ⟨⟨(some 58), .call 19 [(.t 55), (.t 56), (.t 57)], none⟩, 2, [], []⟩,
  ⟨⟨(some 59), .copy 1 (.t 54) (.t 58), none⟩, 2, [], []⟩]
def m8_r8 : List MI := [
  ⟨(some 60), .move (.t 12), none⟩,
  ⟨(some 61), .move (.t 13), none⟩,
  ⟨(some 12), .move (.t 60), none⟩,
  ⟨(some 13), .move (.t 61), none⟩]
def m8_code : MCode := (.seq (.ops m8_r0) (.seq (.ops m8_r1) (.seq (.seq (.ops m8_r2) (.cond (.t 24) (.seq (.ops m8_r3) .ret) .skip)) (.seq (.ops m8_r4) (.seq (.ops m8_r5) (.seq (.draw m8_r6) (.seq (.draw m8_r7) (.seq (.ops m8_r8) .ret))))))))
def m8 : MFunc := ⟨62, [.tmp 12, .tmp 13], m8_code⟩

def m9_r0 : List MI := [
  ⟨(some 11), .box 28 (.t 5), none⟩,
  ⟨(some 12), .move (.k (.sc (.nils))), none⟩,
  ⟨(some 13), .move (.k (.sc (.nils))), none⟩]
def m9_r1 : List MI := [
  ⟨(some 14), .move (.t 0), none⟩,
  ⟨(some 15), .call 16 [(.t 14)], none⟩,
  ⟨(some 12), .move (.t 15), none⟩]
def m9_r2 : List MI := [
  ⟨(some 16), .move (.t 0), none⟩,
  ⟨(some 17), .move (.t 1), none⟩,
  ⟨(some 18), .move (.t 2), none⟩,
  ⟨(some 19), .call 17 [(.t 16), (.t 17), (.t 18)], none⟩,
  ⟨(some 20), .un .not (.t 19), none⟩,
  ⟨(some 21), .move (.t 20), none⟩,
  ⟨(some 22), .move (.t 3), (some (21, false))⟩,
  ⟨(some 23), .bin .lss .no (.t 22) (.k (.sc (.int .i64 1))), (some (21, false))⟩,
  ⟨(some 24), .pick (.t 21) (.k (.sc (.bool true))) (.t 23), none⟩]
def m9_r3 : List MI := [
  ⟨(some 25), .move (.t 12), none⟩,
  ⟨(some 12), .move (.t 25), none⟩,
  ⟨(some 13), .move (.k (.sc (.nils))), none⟩]
def m9_r4 : List MI := [
  ⟨(some 26), .move (.t 3), none⟩,
  ⟨(some 27), .move (.t 2), none⟩,
  ⟨(some 28), .move (.t 1), none⟩,
  ⟨(some 29), .bin .sub .no (.t 27) (.t 28), none⟩,
  ⟨(some 30), .bin .add .no (.t 29) (.k (.sc (.int .i64 1))), none⟩,
  ⟨(some 31), .min [(.t 26), (.t 30)], none⟩,
  ⟨(some 3), .move (.t 31), none⟩]
def m9_r5 : List MI := [
  ⟨(some 32), .move (.t 12), none⟩,
  ⟨(some 33), .move (.t 1), none⟩,
  ⟨(some 34), .move (.t 1), none⟩,
  ⟨(some 35), .move (.t 3), none⟩,
  ⟨(some 36), .bin .add .no (.t 34) (.t 35), none⟩,
  ⟨(some 37), .slice 1 (.t 32) (some (.t 33)) (some (.t 36)), none⟩,
  ⟨(some 38), .call 18 [(.t 37)], none⟩,
  ⟨(some 13), .move (.t 38), none⟩]
def m9_r6 : List DI := [
  ⟨⟨(some 39), .move (.t 12), none⟩, 0, [], []⟩,
  ⟨⟨(some 40), .move (.t 1), none⟩, 0, [], []⟩,
  ⟨⟨(some 41), .slice 1 (.t 39) (some (.t 40)) none, none⟩, 0, [], []⟩,
  ⟨⟨(some 42), .move (.t 12), none⟩, 0, [], []⟩,
  ⟨⟨(some 43), .move (.t 1), none⟩, 0, [], []⟩,
  ⟨⟨(some 44), .move (.t 3), none⟩, 0, [], []⟩,
  ⟨⟨(some 45), .bin .add .no (.t 43) (.t 44), none⟩, 0, [], []⟩,
  ⟨⟨(some 46), .move (.t 2), none⟩, 0, [], []⟩,
  ⟨⟨(some 47), .bin .add .no (.t 46) (.k (.sc (.int .i64 1))), none⟩, 0, [], []⟩,
  ⟨⟨(some 48), .slice 1 (.t 42) (some (.t 45)) (some (.t 47)), none⟩, 0, [], []⟩,
  ⟨⟨(some 49), .copy 1 (.t 41) (.t 48), none⟩, 2, [], []⟩]
def m9_r7 : List DI := [
  ⟨⟨(some 50), .move (.t 12), none⟩, 0, [], [9]⟩,
  ⟨⟨(some 51), .move (.t 2), none⟩, 0, [], [9]⟩,
  ⟨⟨(some 52), .bin .add .no (.t 51) (.k (.sc (.int .i64 1))), none⟩, 0, [], [9]⟩,
  ⟨⟨(some 53), .move (.t 3), none⟩, 0, [], [9]⟩,
  ⟨⟨(some 54), .bin .sub .no (.t 52) (.t 53), none⟩, 0, [], [9]⟩,
  ⟨⟨(some 55), .slice 1 (.t 50) (some (.t 54)) none, none⟩, 0, [], [9]⟩,
  ⟨⟨(some 56), .move (.t 3), none⟩, 0, [], []⟩,
  ⟨⟨(some 57), .move (.t 4), none⟩, 0, [], []⟩,
  ⟨⟨(some 58), .load (some 5) (.t 11), none⟩, 1, [], []⟩,
  ⟨⟨(some 59), .call 19 [(.t 56), (.t 57), (.t 58)], none⟩, 2, [], []⟩,
  ⟨⟨(some 60), .copy 1 (.t 55) (.t 59), none⟩, 2, [], []⟩]
def m9_r8 : List MI := [
  ⟨(some 61), .move (.t 12), none⟩,
  ⟨(some 62), .move (.t 13), none⟩,
  ⟨(some 12), .move (.t 61), none⟩,
  ⟨(some 13), .move (.t 62), none⟩]
def m9_code : MCode := (.seq (.ops m9_r0) (.seq (.ops m9_r1) (.seq (.seq (.ops m9_r2) (.cond (.t 24) (.seq (.ops m9_r3) .ret) .skip)) (.seq (.ops m9_r4) (.seq (.ops m9_r5) (.seq (.draw m9_r6) (.seq (.draw m9_r7) (.seq (.ops m9_r8) .ret))))))))
def m9 : MFunc := ⟨63, [.tmp 12, .tmp 13], m9_code⟩

def m10_r0 : List MI := [
  ⟨(some 4), .move (.k (.sc (.bool false))), none⟩]
def m10_r1 : List MI := [
  ⟨(some 6), .move (.t 0), none⟩,
  ⟨(some 7), .lenSlice (.t 6), none⟩,
  ⟨(some 8), .move (.t 1), none⟩,
  ⟨(some 9), .lenSlice (.t 8), none⟩,
  ⟨(some 10), .bin .neq .no (.t 7) (.t 9), none⟩]
def m10_r2 : List MI := [
  ⟨(some 4), .move (.k (.sc (.bool false))), none⟩]
def m10_r3 : List MI := [
  ⟨(some 5), .move (.k (.sc (.int .i64 0))), none⟩]
def m10_r5 : List MI := [
  ⟨(some 11), .move (.t 5), none⟩,
  ⟨(some 12), .move (.t 0), none⟩,
  ⟨(some 13), .lenSlice (.t 12), none⟩,
  ⟨(some 14), .bin .lss .no (.t 11) (.t 13), none⟩]
def m10_r6 : List DI := [
  ⟨⟨(some 17), .move (.t 0), none⟩, 0, [], []⟩,
  ⟨⟨(some 18), .move (.t 5), none⟩, 0, [], []⟩,
  ⟨⟨(some 19), .indexSlice 1 (.t 17) (.t 18), none⟩, 0, [], []⟩,
  ⟨⟨(some 20), .load none (.t 19), none⟩, 1, [], []⟩,
  ⟨⟨(some 21), .move (.t 1), none⟩, 0, [], []⟩,
  ⟨⟨(some 22), .move (.t 5), none⟩, 0, [], []⟩,
  ⟨⟨(some 23), .indexSlice 1 (.t 21) (.t 22), none⟩, 0, [], []⟩,
  ⟨⟨(some 24), .load none (.t 23), none⟩, 1, [], []⟩,
  ⟨⟨(some 25), .call 20 [(.t 20), (.t 24)], none⟩, 2, [], []⟩,
  ⟨⟨(some 26), .un .not (.t 25), none⟩, 0, [], []⟩]
def m10_r7 : List MI := [
  ⟨(some 4), .move (.k (.sc (.bool false))), none⟩]
def m10_r8 : List MI := [
  ⟨(some 15), .move (.t 5), none⟩,
  ⟨(some 16), .bin .add .no (.t 15) (.k (.sc (.int .i64 1))), none⟩,
  ⟨(some 5), .move (.t 16), none⟩]
def m10_l4 : MCode := (.seq (.seq (.ops m10_r5) (.cond (.t 14) .skip (.exit 0))) (.seq (.block 1 (.seq (.draw m10_r6) (.cond (.t 26) (.seq (.ops m10_r7) .ret) .skip))) (.ops m10_r8)))
def m10_r9 : List MI := [
  ⟨(some 4), .move (.k (.sc (.bool true))), none⟩]
def m10_code : MCode := (.seq (.ops m10_r0) (.seq (.seq (.ops m10_r1) (.cond (.t 10) (.seq (.ops m10_r2) .ret) .skip)) (.seq (.seq (.ops m10_r3) (.block 0 (.loop m10_l4))) (.seq (.ops m10_r9) .ret))))
def m10 : MFunc := ⟨27, [.tmp 4], m10_code⟩

def m11_r0 : List MI := [
  ⟨(some 5), .box 28 (.t 2), none⟩,
  ⟨(some 6), .move (.k (.sc (.nils))), none⟩]
def m11_r1 : List MI := [
  ⟨(some 7), .move (.t 0), none⟩,
  ⟨(some 8), .bin .gtr .no (.t 7) (.k (.sc (.int .i64 400))), none⟩]
def m11_r2 : List MI := [
  ⟨(some 6), .move (.k (.sc (.nils))), none⟩]
def m11_r3 : List MI := [
  ⟨(some 9), .move (.t 0), none⟩,
  ⟨(some 10), .move (.t 1), none⟩,
  ⟨(some 11), .load (some 5) (.t 5), none⟩,
  ⟨(some 12), .call 19 [(.t 9), (.t 10), (.t 11)], none⟩,
  ⟨(some 6), .move (.t 12), none⟩]
def m11_code : MCode := (.seq (.ops m11_r0) (.seq (.seq (.ops m11_r1) (.cond (.t 8) (.seq (.ops m11_r2) .ret) .skip)) (.seq (.ops m11_r3) .ret)))
def m11 : MFunc := ⟨13, [.tmp 6], m11_code⟩

def m12_r0 : List MI := [
  ⟨(some 13), .box 28 (.t 6), none⟩,
  ⟨(some 14), .move (.k (.sc (.nils))), none⟩]
def m12_r1 : List MI := [
  ⟨(some 17), .move (.t 0), none⟩,
  ⟨(some 18), .move (.t 1), none⟩,
  ⟨(some 19), .move (.t 2), none⟩,
  ⟨(some 20), .move (.t 3), none⟩,
  ⟨(some 21), .call 21 [(.t 17), (.t 18), (.t 19), (.t 20)], none⟩,
  ⟨(some 22), .un .not (.t 21), none⟩]
def m12_r2 : List MI := [
  ⟨(some 23), .move (.t 0), none⟩,
  ⟨(some 24), .call 16 [(.t 23)], none⟩,
  ⟨(some 14), .move (.t 24), none⟩]
def m12_r3 : List MI := [
  ⟨(some 26), .move (.t 0), none⟩,
  ⟨(some 27), .move (.t 1), none⟩,
  ⟨(some 28), .move (.t 3), none⟩,
  ⟨(some 29), .move (.t 4), none⟩,
  ⟨(some 30), .move (.t 5), none⟩,
  ⟨(some 31), .load (some 5) (.t 13), none⟩,
  ⟨(some 32), .call 8 [(.t 26), (.t 27), (.t 28), (.t 29), (.t 30), (.t 31)], none⟩,
  ⟨(some 25), .move (.t 32), none⟩,
  ⟨(some 33), .extract (.t 25) 0, none⟩,
  ⟨(some 34), .extract (.t 25) 1, none⟩,
  ⟨(some 15), .move (.t 33), none⟩,
  ⟨(some 16), .move (.t 34), none⟩]
def m12_r4 : List MI := [
  ⟨(some 35), .move (.t 15), none⟩,
  ⟨(some 14), .move (.t 35), none⟩]
def m12_code : MCode := (.seq (.ops m12_r0) (.seq (.seq (.ops m12_r1) (.cond (.t 22) (.seq (.ops m12_r2) .ret) .skip)) (.seq (.ops m12_r3) (.seq (.ops m12_r4) .ret))))
def m12 : MFunc := ⟨36, [.tmp 14], m12_code⟩

def m13_r0 : List MI := [
  ⟨(some 13), .box 28 (.t 6), none⟩,
  ⟨(some 14), .move (.k (.sc (.nils))), none⟩]
def m13_r1 : List MI := [
  ⟨(some 17), .move (.t 0), none⟩,
  ⟨(some 18), .move (.t 1), none⟩,
  ⟨(some 19), .move (.t 2), none⟩,
  ⟨(some 20), .move (.t 3), none⟩,
  ⟨(some 21), .call 21 [(.t 17), (.t 18), (.t 19), (.t 20)], none⟩,
  ⟨(some 22), .un .not (.t 21), none⟩]
def m13_r2 : List MI := [
  ⟨(some 23), .move (.t 0), none⟩,
  ⟨(some 24), .call 16 [(.t 23)], none⟩,
  ⟨(some 14), .move (.t 24), none⟩]
def m13_r3 : List MI := [
  ⟨(some 26), .move (.t 0), none⟩,
  ⟨(some 27), .move (.t 1), none⟩,
  ⟨(some 28), .move (.t 3), none⟩,
  ⟨(some 29), .move (.t 4), none⟩,
  ⟨(some 30), .move (.t 5), none⟩,
  ⟨(some 31), .load (some 5) (.t 13), none⟩,
  ⟨(some 32), .call 9 [(.t 26), (.t 27), (.t 28), (.t 29), (.t 30), (.t 31)], none⟩,
  ⟨(some 25), .move (.t 32), none⟩,
  ⟨(some 33), .extract (.t 25) 0, none⟩,
  ⟨(some 34), .extract (.t 25) 1, none⟩,
  ⟨(some 15), .move (.t 33), none⟩,
  ⟨(some 16), .move (.t 34), none⟩]
def m13_r4 : List MI := [
  ⟨(some 35), .move (.t 15), none⟩,
  ⟨(some 14), .move (.t 35), none⟩]
def m13_code : MCode := (.seq (.ops m13_r0) (.seq (.seq (.ops m13_r1) (.cond (.t 22) (.seq (.ops m13_r2) .ret) .skip)) (.seq (.ops m13_r3) (.seq (.ops m13_r4) .ret))))
def m13 : MFunc := ⟨36, [.tmp 14], m13_code⟩

def m14_r0 : List MI := [
  ⟨(some 2), .move (.k (.sc (.nils))), none⟩]
def m14_r1 : List MI := [
  ⟨(some 3), .move (.k (.sc (.nils))), none⟩]
def m14_r2 : List MI := [
  ⟨(some 4), .move (.k (.sc (.int .i64 0))), none⟩]
def m14_r4 : List MI := [
  ⟨(some 5), .move (.t 4), none⟩,
  ⟨(some 6), .move (.t 0), none⟩,
  ⟨(some 7), .lenStr (.t 6), none⟩,
  ⟨(some 8), .bin .lss .no (.t 5) (.t 7), none⟩]
def m14_r5 : List MI := [
  ⟨(some 11), .move (.t 3), none⟩,
  ⟨(some 12), .move (.t 0), none⟩,
  ⟨(some 13), .move (.t 4), none⟩,
  ⟨(some 14), .idxStr (.t 12) (.t 13), none⟩,
  ⟨(some 15), .conv (.int .i32) (.t 14), none⟩,
  ⟨(some 16), .build [.int .i32 0, .int .u8 0, .int .u16 0, .int .u8 0, .int .u32 0, .int .u8 0, .int .u32 0] [(0, 1, (.t 15))], none⟩,
  ⟨(some 17), .buildSlice 40 7 1 [.int .i32 0, .int .u8 0, .int .u16 0, .int .u8 0, .int .u32 0, .int .u8 0, .int .u32 0] [(0, 7, (.t 16))], none⟩,
  ⟨(some 18), .buildSlice 38 1 1 [.nils] [(0, 1, (.t 17))], none⟩,
  ⟨(some 19), .append 38 1 24 [.nils] (.t 11) (.t 18), none⟩,
  ⟨(some 3), .move (.t 19), none⟩]
def m14_r6 : List MI := [
  ⟨(some 9), .move (.t 4), none⟩,
  ⟨(some 10), .bin .add .no (.t 9) (.k (.sc (.int .i64 1))), none⟩,
  ⟨(some 4), .move (.t 10), none⟩]
def m14_l3 : MCode := (.seq (.seq (.ops m14_r4) (.cond (.t 8) .skip (.exit 0))) (.seq (.block 1 (.ops m14_r5)) (.ops m14_r6)))
def m14_r7 : List MI := [
  ⟨(some 20), .move (.t 3), none⟩,
  ⟨(some 2), .move (.t 20), none⟩]
def m14_code : MCode := (.seq (.ops m14_r0) (.seq (.ops m14_r1) (.seq (.seq (.ops m14_r2) (.block 0 (.loop m14_l3))) (.seq (.ops m14_r7) .ret))))
def m14 : MFunc := ⟨21, [.tmp 2], m14_code⟩

def m15_r0 : List MI := [
  ⟨(some 2), .move (.k (.sc (.nils))), none⟩]
def m15_r1 : List MI := [
  ⟨(some 3), .move (.k (.sc (.nils))), none⟩]
def m15_r2 : List MI := [
  ⟨(some 6), .move (.t 0), none⟩,
  ⟨(some 7), .lenSlice (.t 6), none⟩,
  ⟨(some 8), .move (.k (.sc (.int .i64 0))), none⟩]
def m15_r4 : List MI := [
  ⟨(some 9), .bin .lss .no (.t 8) (.t 7), none⟩]
def m15_r5 : List MI := [
  ⟨(some 10), .indexSlice 1 (.t 6) (.t 8), none⟩,
  ⟨(some 11), .load none (.t 10), none⟩,
  ⟨(some 5), .move (.t 11), none⟩]
def m15_r6 : List MI := [
  ⟨(some 12), .move (.t 3), none⟩,
  ⟨(some 13), .move (.t 5), none⟩,
  ⟨(some 14), .call 22 [(.t 13)], none⟩,
  ⟨(some 15), .buildSlice 9 1 1 [.str []] [(0, 1, (.t 14))], none⟩,
  ⟨(some 16), .append 9 1 16 [.str []] (.t 12) (.t 15), none⟩,
  ⟨(some 3), .move (.t 16), none⟩]
def m15_r7 : List MI := [
  ⟨(some 17), .bin .add .no (.t 8) (.k (.sc (.int .i64 1))), none⟩,
  ⟨(some 8), .move (.t 17), none⟩]
def m15_l3 : MCode := (.seq (.ops m15_r4) (.seq (.cond (.t 9) .skip (.exit 0)) (.seq (.block 1 (.seq (.ops m15_r5) (.ops m15_r6))) (.ops m15_r7))))
def m15_r8 : List MI := [
  ⟨(some 18), .move (.t 3), none⟩,
  ⟨(some 2), .move (.t 18), none⟩]
def m15_code : MCode := (.seq (.ops m15_r0) (.seq (.ops m15_r1) (.seq (.seq (.ops m15_r2) (.block 0 (.loop m15_l3))) (.seq (.ops m15_r8) .ret))))
def m15 : MFunc := ⟨19, [.tmp 2], m15_code⟩

def m16_r0 : List MI := [
  ⟨(some 2), .move (.k (.sc (.nils))), none⟩]
def m16_r1 : List MI := [
  ⟨(some 3), .move (.k (.sc (.nils))), none⟩]
def m16_r2 : List MI := [
  ⟨(some 6), .move (.t 0), none⟩,
  ⟨(some 7), .lenSlice (.t 6), none⟩,
  ⟨(some 8), .move (.k (.sc (.int .i64 0))), none⟩]
def m16_r4 : List MI := [
  ⟨(some 9), .bin .lss .no (.t 8) (.t 7), none⟩]
def m16_r5 : List MI := [
  ⟨(some 10), .indexSlice 1 (.t 6) (.t 8), none⟩,
  ⟨(some 11), .load none (.t 10), none⟩,
  ⟨(some 5), .move (.t 11), none⟩]
def m16_r6 : List MI := [
  ⟨(some 12), .move (.t 3), none⟩,
  ⟨(some 13), .move (.t 5), none⟩,
  ⟨(some 14), .call 23 [(.t 13)], none⟩,
  ⟨(some 15), .buildSlice 38 1 1 [.nils] [(0, 1, (.t 14))], none⟩,
  ⟨(some 16), .append 38 1 24 [.nils] (.t 12) (.t 15), none⟩,
  ⟨(some 3), .move (.t 16), none⟩]
def m16_r7 : List MI := [
  ⟨(some 17), .bin .add .no (.t 8) (.k (.sc (.int .i64 1))), none⟩,
  ⟨(some 8), .move (.t 17), none⟩]
def m16_l3 : MCode := (.seq (.ops m16_r4) (.seq (.cond (.t 9) .skip (.exit 0)) (.seq (.block 1 (.seq (.ops m16_r5) (.ops m16_r6))) (.ops m16_r7))))
def m16_r8 : List MI := [
  ⟨(some 18), .move (.t 3), none⟩,
  ⟨(some 2), .move (.t 18), none⟩]
def m16_code : MCode := (.seq (.ops m16_r0) (.seq (.ops m16_r1) (.seq (.seq (.ops m16_r2) (.block 0 (.loop m16_l3))) (.seq (.ops m16_r8) .ret))))
def m16 : MFunc := ⟨19, [.tmp 2], m16_code⟩

def m17_r0 : List MI := [
  ⟨(some 6), .move (.k (.sc (.bool false))), none⟩]
def m17_r1 : List MI := [
  ⟨(some 7), .move (.t 1), none⟩,
  ⟨(some 8), .bin .geq .no (.t 7) (.k (.sc (.int .i64 0))), none⟩,
  ⟨(some 9), .move (.t 8), none⟩,
  ⟨(some 10), .move (.t 1), (some (9, true))⟩,
  ⟨(some 11), .move (.t 2), (some (9, true))⟩,
  ⟨(some 12), .bin .leq .no (.t 10) (.t 11), (some (9, true))⟩,
  ⟨(some 13), .pick (.t 9) (.t 12) (.k (.sc (.bool false))), none⟩,
  ⟨(some 14), .move (.t 13), none⟩,
  ⟨(some 15), .move (.t 2), (some (14, true))⟩,
  ⟨(some 16), .move (.t 0), (some (14, true))⟩,
  ⟨(some 17), .lenSlice (.t 16), (some (14, true))⟩,
  ⟨(some 18), .bin .lss .no (.t 15) (.t 17), (some (14, true))⟩,
  ⟨(some 19), .pick (.t 14) (.t 18) (.k (.sc (.bool false))), none⟩,
  ⟨(some 6), .move (.t 19), none⟩]
def m17_code : MCode := (.seq (.ops m17_r0) (.seq (.ops m17_r1) .ret))
def m17 : MFunc := ⟨20, [.tmp 6], m17_code⟩

def m18_r0 : List MI := [
  ⟨(some 2), .move (.k (.sc (.nils))), none⟩]
def m18_r1 : List MI := [
  ⟨(some 3), .move (.t 0), none⟩,
  ⟨(some 4), .bin .eql .slice (.t 3) (.k (.sc (.nils))), none⟩]
def m18_r2 : List MI := [
  ⟨(some 2), .move (.k (.sc (.nils))), none⟩]
def m18_r3 : List MI := [
  ⟨(some 5), .buildSlice 38 1 0 [.nils] [], none⟩,
  ⟨(some 6), .move (.t 0), none⟩,
  ⟨(some 7), .append 38 1 24 [.nils] (.t 5) (.t 6), none⟩,
  ⟨(some 2), .move (.t 7), none⟩]
def m18_code : MCode := (.seq (.ops m18_r0) (.seq (.seq (.ops m18_r1) (.cond (.t 4) (.seq (.ops m18_r2) .ret) .skip)) (.seq (.ops m18_r3) .ret)))
def m18 : MFunc := ⟨8, [.tmp 2], m18_code⟩

def m19_r0 : List MI := [
  ⟨(some 5), .box 28 (.t 2), none⟩,
  ⟨(some 6), .move (.k (.sc (.nils))), none⟩]
def m19_r1 : List MI := [
  ⟨(some 7), .move (.k (.sc (.nils))), none⟩]
def m19_r2 : List MI := [
  ⟨(some 8), .move (.t 0), none⟩,
  ⟨(some 9), .move (.k (.sc (.int .i64 0))), none⟩]
def m19_r4 : List MI := [
  ⟨(some 10), .bin .lss .no (.t 9) (.t 8), none⟩]
def m19_r5 : List MI := [
  ⟨(some 11), .move (.t 7), none⟩,
  ⟨(some 12), .move (.t 1), none⟩,
  ⟨(some 13), .load (some 5) (.t 5), none⟩,
  ⟨(some 14), .call 24 [(.t 12), (.t 13)], none⟩,
  ⟨(some 15), .buildSlice 38 1 1 [.nils] [(0, 1, (.t 14))], none⟩,
  ⟨(some 16), .append 38 1 24 [.nils] (.t 11) (.t 15), none⟩,
  ⟨(some 7), .move (.t 16), none⟩]
def m19_r6 : List MI := [
  ⟨(some 17), .bin .add .no (.t 9) (.k (.sc (.int .i64 1))), none⟩,
  ⟨(some 9), .move (.t 17), none⟩]
def m19_l3 : MCode := (.seq (.ops m19_r4) (.seq (.cond (.t 10) .skip (.exit 0)) (.seq (.block 1 (.ops m19_r5)) (.ops m19_r6))))
def m19_r7 : List MI := [
  ⟨(some 18), .move (.t 7), none⟩,
  ⟨(some 6), .move (.t 18), none⟩]
def m19_code : MCode := (.seq (.ops m19_r0) (.seq (.ops m19_r1) (.seq (.seq (.ops m19_r2) (.block 0 (.loop m19_l3))) (.seq (.ops m19_r7) .ret))))
def m19 : MFunc := ⟨19, [.tmp 6], m19_code⟩

def m20_r0 : List MI := [
  ⟨(some 4), .move (.k (.sc (.bool false))), none⟩]
def m20_r1 : List MI := [
  ⟨(some 6), .move (.t 0), none⟩,
  ⟨(some 7), .lenSlice (.t 6), none⟩,
  ⟨(some 8), .move (.t 1), none⟩,
  ⟨(some 9), .lenSlice (.t 8), none⟩,
  ⟨(some 10), .bin .neq .no (.t 7) (.t 9), none⟩]
def m20_r2 : List MI := [
  ⟨(some 4), .move (.k (.sc (.bool false))), none⟩]
def m20_r3 : List MI := [
  ⟨(some 5), .move (.k (.sc (.int .i64 0))), none⟩]
def m20_r5 : List MI := [
  ⟨(some 11), .move (.t 5), none⟩,
  ⟨(some 12), .move (.t 0), none⟩,
  ⟨(some 13), .lenSlice (.t 12), none⟩,
  ⟨(some 14), .bin .lss .no (.t 11) (.t 13), none⟩]
def m20_r6 : List DI := [
  ⟨⟨(some 17), .move (.t 0), none⟩, 0, [], []⟩,
  ⟨⟨(some 18), .move (.t 5), none⟩, 0, [], []⟩,
  ⟨⟨(some 19), .indexSlice 7 (.t 17) (.t 18), none⟩, 0, [], []⟩,
  ⟨⟨(some 20), .load (some 7) (.t 19), none⟩, 1, [], []⟩,
  ⟨⟨(some 21), .move (.t 1), none⟩, 0, [], []⟩,
  ⟨⟨(some 22), .move (.t 5), none⟩, 0, [], []⟩,
  ⟨⟨(some 23), .indexSlice 7 (.t 21) (.t 22), none⟩, 0, [], []⟩,
  ⟨⟨(some 24), .load (some 7) (.t 23), none⟩, 1, [], []⟩,
  ⟨⟨(some 25), .bin .neq (.agg [.int .i32, .int .u8, .int .u16, .int .u8, .int .u32, .int .u8, .int .u32]) (.t 20) (.t 24), none⟩, 0, [], []⟩]
def m20_r7 : List MI := [
  ⟨(some 4), .move (.k (.sc (.bool false))), none⟩]
def m20_r8 : List MI := [
  ⟨(some 15), .move (.t 5), none⟩,
  ⟨(some 16), .bin .add .no (.t 15) (.k (.sc (.int .i64 1))), none⟩,
  ⟨(some 5), .move (.t 16), none⟩]
def m20_l4 : MCode := (.seq (.seq (.ops m20_r5) (.cond (.t 14) .skip (.exit 0))) (.seq (.block 1 (.seq (.draw m20_r6) (.cond (.t 25) (.seq (.ops m20_r7) .ret) .skip))) (.ops m20_r8)))
def m20_r9 : List MI := [
  ⟨(some 4), .move (.k (.sc (.bool true))), none⟩]
def m20_code : MCode := (.seq (.ops m20_r0) (.seq (.seq (.ops m20_r1) (.cond (.t 10) (.seq (.ops m20_r2) .ret) .skip)) (.seq (.seq (.ops m20_r3) (.block 0 (.loop m20_l4))) (.seq (.ops m20_r9) .ret))))
def m20 : MFunc := ⟨26, [.tmp 4], m20_code⟩

def m21_r0 : List MI := [
  ⟨(some 8), .move (.k (.sc (.bool false))), none⟩]
def m21_r1 : List MI := [
  ⟨(some 9), .move (.t 0), none⟩,
  ⟨(some 10), .move (.t 2), none⟩,
  ⟨(some 11), .move (.t 3), none⟩,
  ⟨(some 12), .call 17 [(.t 9), (.t 10), (.t 11)], none⟩,
  ⟨(some 13), .move (.t 12), none⟩,
  ⟨(some 14), .move (.t 1), (some (13, true))⟩,
  ⟨(some 15), .move (.t 2), (some (13, true))⟩,
  ⟨(some 16), .bin .geq .no (.t 14) (.t 15), (some (13, true))⟩,
  ⟨(some 17), .pick (.t 13) (.t 16) (.k (.sc (.bool false))), none⟩,
  ⟨(some 18), .move (.t 17), none⟩,
  ⟨(some 19), .move (.t 1), (some (18, true))⟩,
  ⟨(some 20), .move (.t 3), (some (18, true))⟩,
  ⟨(some 21), .bin .leq .no (.t 19) (.t 20), (some (18, true))⟩,
  ⟨(some 22), .pick (.t 18) (.t 21) (.k (.sc (.bool false))), none⟩,
  ⟨(some 8), .move (.t 22), none⟩]
def m21_code : MCode := (.seq (.ops m21_r0) (.seq (.ops m21_r1) .ret))
def m21 : MFunc := ⟨23, [.tmp 8], m21_code⟩

def m22_r0 : List MI := [
  ⟨(some 2), .move (.k (.sc (.str []))), none⟩]
def m22_r1 : List MI := [
  ⟨(some 3), .alloc 56 [.nilp, .nils], none⟩]
def m22_r2 : List MI := [
  ⟨(some 6), .move (.t 0), none⟩,
  ⟨(some 7), .lenSlice (.t 6), none⟩,
  ⟨(some 8), .move (.k (.sc (.int .i64 0))), none⟩]
def m22_r4 : List MI := [
  ⟨(some 9), .bin .lss .no (.t 8) (.t 7), none⟩]
def m22_r5 : List MI := [
  ⟨(some 10), .indexSlice 7 (.t 6) (.t 8), none⟩,
  ⟨(some 11), .load (some 7) (.t 10), none⟩,
  ⟨(some 5), .alloc 40 [.int .i32 0, .int .u8 0, .int .u16 0, .int .u8 0, .int .u32 0, .int .u8 0, .int .u32 0], none⟩,
  ⟨none, .store 7 (.t 5) (.t 11), none⟩]
def m22_r6 : List MI := [
  ⟨(some 12), .fieldAddr 1 (.t 5), none⟩,
  ⟨(some 13), .load none (.t 12), none⟩,
  ⟨(some 14), .bin .neq .no (.t 13) (.k (.sc (.int .u8 2))), none⟩]
def m22_r7 : List MI := [
  ⟨(some 15), .fieldAddr 0 (.t 5), none⟩,
  ⟨(some 16), .load none (.t 15), none⟩,
  ⟨(some 17), .call 25 [(.t 3), (.t 16)], none⟩]
def m22_r8 : List MI := [
  ⟨(some 18), .bin .add .no (.t 8) (.k (.sc (.int .i64 1))), none⟩,
  ⟨(some 8), .move (.t 18), none⟩]
def m22_l3 : MCode := (.seq (.ops m22_r4) (.seq (.cond (.t 9) .skip (.exit 0)) (.seq (.block 1 (.seq (.ops m22_r5) (.seq (.ops m22_r6) (.cond (.t 14) (.ops m22_r7) .skip)))) (.ops m22_r8))))
def m22_r9 : List MI := [
  ⟨(some 19), .call 27 [(.t 3)], none⟩,
  ⟨(some 20), .call 26 [(.t 19), (.k (.sc (.str [32])))], none⟩,
  ⟨(some 2), .move (.t 20), none⟩]
def m22_code : MCode := (.seq (.ops m22_r0) (.seq (.ops m22_r1) (.seq (.seq (.ops m22_r2) (.block 0 (.loop m22_l3))) (.seq (.ops m22_r9) .ret))))
def m22 : MFunc := ⟨21, [.tmp 2], m22_code⟩

def m23_r0 : List MI := [
  ⟨(some 2), .move (.k (.sc (.nils))), none⟩]
def m23_r1 : List MI := [
  ⟨(some 3), .move (.t 0), none⟩,
  ⟨(some 4), .bin .eql .slice (.t 3) (.k (.sc (.nils))), none⟩]
def m23_r2 : List MI := [
  ⟨(some 2), .move (.k (.sc (.nils))), none⟩]
def m23_r3 : List MI := [
  ⟨(some 5), .buildSlice 40 7 0 [.int .i32 0, .int .u8 0, .int .u16 0, .int .u8 0, .int .u32 0, .int .u8 0, .int .u32 0] [], none⟩,
  ⟨(some 6), .move (.t 0), none⟩,
  ⟨(some 7), .append 40 7 28 [.int .i32 0, .int .u8 0, .int .u16 0, .int .u8 0, .int .u32 0, .int .u8 0, .int .u32 0] (.t 5) (.t 6), none⟩,
  ⟨(some 2), .move (.t 7), none⟩]
def m23_code : MCode := (.seq (.ops m23_r0) (.seq (.seq (.ops m23_r1) (.cond (.t 4) (.seq (.ops m23_r2) .ret) .skip)) (.seq (.ops m23_r3) .ret)))
def m23 : MFunc := ⟨8, [.tmp 2], m23_code⟩

def m24_r0 : List MI := [
  ⟨(some 3), .box 28 (.t 1), none⟩,
  ⟨(some 4), .move (.k (.sc (.nils))), none⟩]
def m24_r1 : List MI := [
  ⟨(some 6), .move (.t 0), none⟩,
  ⟨(some 7), .bin .lss .no (.t 6) (.k (.sc (.int .i64 1))), none⟩,
  ⟨(some 8), .move (.t 7), none⟩,
  ⟨(some 9), .move (.t 0), (some (8, false))⟩,
  ⟨(some 10), .bin .gtr .no (.t 9) (.k (.sc (.int .i64 400))), (some (8, false))⟩,
  ⟨(some 11), .pick (.t 8) (.k (.sc (.bool true))) (.t 10), none⟩]
def m24_r2 : List MI := [
  ⟨(some 4), .move (.k (.sc (.nils))), none⟩]
def m24_r3 : List MI := [
  ⟨(some 12), .move (.t 0), none⟩,
  ⟨(some 13), .makeSlice 40 7 28 [.int .i32 0, .int .u8 0, .int .u16 0, .int .u8 0, .int .u32 0, .int .u8 0, .int .u32 0] (.t 12) (.t 12), none⟩,
  ⟨(some 5), .move (.t 13), none⟩]
def m24_r4 : List MI := [
  ⟨(some 14), .move (.t 5), none⟩,
  ⟨(some 15), .load (some 5) (.t 3), none⟩,
  ⟨(some 16), .call 28 [(.t 14), (.t 15)], none⟩]
def m24_r5 : List MI := [
  ⟨(some 17), .move (.t 5), none⟩,
  ⟨(some 4), .move (.t 17), none⟩]
def m24_code : MCode := (.seq (.ops m24_r0) (.seq (.seq (.ops m24_r1) (.cond (.t 11) (.seq (.ops m24_r2) .ret) .skip)) (.seq (.ops m24_r3) (.seq (.ops m24_r4) (.seq (.ops m24_r5) .ret)))))
def m24 : MFunc := ⟨18, [.tmp 4], m24_code⟩

def m25_r0 : List MI := [
  ⟨(some 4), .move (.k (.sc (.int .i64 0))), none⟩,
  ⟨(some 5), .move (.k (.sc (.nili))), none⟩]
def m25_r1 : List MI := [
  ⟨(some 7), .move (.t 0), none⟩,
  ⟨(some 8), .call 29 [(.t 7)], none⟩]
def m25_r2 : List MI := [
  ⟨(some 9), .move (.t 0), none⟩,
  ⟨(some 10), .nilCheck (.t 9), none⟩,
  ⟨(some 11), .fieldAddr 1 (.t 10), none⟩,
  ⟨(some 12), .load none (.t 11), none⟩,
  ⟨(some 13), .lenSlice (.t 12), none⟩,
  ⟨(some 6), .move (.t 13), none⟩]
def m25_r3 : List MI := [
  ⟨(some 14), .move (.t 0), none⟩,
  ⟨(some 15), .move (.t 0), none⟩,
  ⟨(some 16), .nilCheck (.t 15), none⟩,
  ⟨(some 17), .fieldAddr 1 (.t 16), none⟩,
  ⟨(some 18), .load none (.t 17), none⟩,
  ⟨(some 19), .move (.t 1), none⟩,
  ⟨(some 20), .call 30 [(.t 18), (.t 19)], none⟩,
  ⟨(some 21), .nilCheck (.t 14), none⟩,
  ⟨(some 22), .fieldAddr 1 (.t 21), none⟩,
  ⟨none, .store 1 (.t 22) (.t 20), none⟩]
def m25_r4 : List MI := [
  ⟨(some 23), .move (.t 0), none⟩,
  ⟨(some 24), .nilCheck (.t 23), none⟩,
  ⟨(some 25), .fieldAddr 1 (.t 24), none⟩,
  ⟨(some 26), .load none (.t 25), none⟩,
  ⟨(some 27), .lenSlice (.t 26), none⟩,
  ⟨(some 28), .move (.t 6), none⟩,
  ⟨(some 29), .bin .sub .no (.t 27) (.t 28), none⟩,
  ⟨(some 4), .move (.t 29), none⟩,
  ⟨(some 5), .move (.k (.sc (.nili))), none⟩]
def m25_code : MCode := (.seq (.ops m25_r0) (.seq (.ops m25_r1) (.seq (.ops m25_r2) (.seq (.ops m25_r3) (.seq (.ops m25_r4) .ret)))))
def m25 : MFunc := ⟨30, [.tmp 4, .tmp 5], m25_code⟩

def m26_r0 : List MI := [
  ⟨(some 4), .move (.k (.sc (.str []))), none⟩]
def m26_r1 : List MI := [
  ⟨(some 7), .move (.t 0), none⟩,
  ⟨(some 8), .bin .eql .no (.t 7) (.k (.sc (.str []))), none⟩,
  ⟨(some 9), .move (.t 8), none⟩,
  ⟨(some 10), .move (.t 1), (some (9, false))⟩,
  ⟨(some 11), .bin .eql .no (.t 10) (.k (.sc (.str []))), (some (9, false))⟩,
  ⟨(some 12), .pick (.t 9) (.k (.sc (.bool true))) (.t 11), none⟩]
def m26_r2 : List MI := [
  ⟨(some 13), .move (.t 0), none⟩,
  ⟨(some 4), .move (.t 13), none⟩]
def m26_r3 : List MI := [
  ⟨(some 14), .move (.t 1), none⟩,
  ⟨(some 15), .lenStr (.t 14), none⟩,
  ⟨(some 16), .bin .eql .no (.t 15) (.k (.sc (.int .i64 1))), none⟩,
  ⟨(some 17), .move (.t 16), none⟩,
  ⟨(some 18), .move (.t 1), (some (17, true))⟩,
  ⟨(some 19), .idxStr (.t 18) (.k (.sc (.int .i64 0))), (some (17, true))⟩,
  ⟨(some 20), .bin .lss .no (.t 19) (.k (.sc (.int .u8 128))), (some (17, true))⟩,
  ⟨(some 21), .pick (.t 17) (.t 20) (.k (.sc (.bool false))), none⟩]
def m26_r4 : List MI := [
  ⟨(some 22), .move (.t 0), none⟩,
  ⟨(some 23), .move (.t 1), none⟩,
  ⟨(some 24), .idxStr (.t 23) (.k (.sc (.int .i64 0))), none⟩,
  ⟨(some 25), .call 31 [(.t 22), (.t 24)], none⟩,
  ⟨(some 4), .move (.t 25), none⟩]
def m26_r5 : List MI := [
  ⟨(some 27), .move (.t 1), none⟩,
  ⟨(some 28), .call 32 [(.t 27)], none⟩,
  ⟨(some 26), .move (.t 28), none⟩,
  ⟨(some 29), .extract (.t 26) 0, none⟩,
  ⟨(some 30), .extract (.t 26) 1, none⟩,
  ⟨(some 5), .alloc 67 [.bool false, .bool false, .bool false, .bool false, .bool false, .bool false, .bool false, .bool false, .bool false, .bool false, .bool false, .bool false, .bool false, .bool false, .bool false, .bool false, .bool false, .bool false, .bool false, .bool false, .bool false, .bool false, .bool false, .bool false, .bool false, .bool false, .bool false, .bool false, .bool false, .bool false, .bool false, .bool false, .bool false, .bool false, .bool false, .bool false, .bool false, .bool false, .bool false, .bool false, .bool false, .bool false, .bool false, .bool false, .bool false, .bool false, .bool false, .bool false, .bool false, .bool false, .bool false, .bool false, .bool false, .bool false, .bool false, .bool false, .bool false, .bool false, .bool false, .bool false, .bool false, .bool false, .bool false, .bool false, .bool false, .bool false, .bool false, .bool false, .bool false, .bool false, .bool false, .bool false, .bool false, .bool false, .bool false, .bool false, .bool false, .bool false, .bool false, .bool false, .bool false, .bool false, .bool false, .bool false, .bool false, .bool false, .bool false, .bool false, .bool false, .bool false, .bool false, .bool false, .bool false, .bool false, .bool false, .bool false, .bool false, .bool false, .bool false, .bool false, .bool false, .bool false, .bool false, .bool false, .bool false, .bool false, .bool false, .bool false, .bool false, .bool false, .bool false, .bool false, .bool false, .bool false, .bool false, .bool false, .bool false, .bool false, .bool false, .bool false, .bool false, .bool false, .bool false, .bool false, .bool false, .bool false, .bool false, .bool false, .bool false, .bool false, .bool false, .bool false, .bool false, .bool false, .bool false, .bool false, .bool false, .bool false, .bool false, .bool false, .bool false, .bool false, .bool false, .bool false, .bool false, .bool false, .bool false, .bool false, .bool false, .bool false, .bool false, .bool false, .bool false, .bool false, .bool false, .bool false, .bool false, .bool false, .bool false, .bool false, .bool false, .bool false, .bool false, .bool false, .bool false, .bool false, .bool false, .bool false, .bool false, .bool false, .bool false, .bool false, .bool false, .bool false, .bool false, .bool false, .bool false, .bool false, .bool false, .bool false, .bool false, .bool false, .bool false, .bool false, .bool false, .bool false, .bool false, .bool false, .bool false, .bool false, .bool false, .bool false, .bool false, .bool false, .bool false, .bool false, .bool false, .bool false, .bool false, .bool false, .bool false, .bool false, .bool false, .bool false, .bool false, .bool false, .bool false, .bool false, .bool false, .bool false, .bool false, .bool false, .bool false, .bool false, .bool false, .bool false, .bool false, .bool false, .bool false, .bool false, .bool false, .bool false, .bool false, .bool false, .bool false, .bool false, .bool false, .bool false, .bool false, .bool false, .bool false, .bool false, .bool false, .bool false, .bool false, .bool false, .bool false, .bool false, .bool false, .bool false, .bool false, .bool false, .bool false, .bool false, .bool false, .bool false, .bool false, .bool false, .bool false, .bool false, .bool false, .bool false, .bool false, .bool false, .bool false, .bool false], none⟩,
  ⟨none, .store 256 (.t 5) (.t 29), none⟩,
  ⟨(some 6), .move (.t 30), none⟩]
def m26_r6 : List MI := [
  ⟨(some 31), .move (.t 6), none⟩]
def m26_r7 : List MI := [
  ⟨(some 32), .move (.t 0), none⟩,
  ⟨(some 33), .call 33 [(.t 32), (.t 5)], none⟩,
  ⟨(some 4), .move (.t 33), none⟩]
def m26_r8 : List MI := [
  ⟨(some 34), .move (.t 0), none⟩,
  ⟨(some 35), .move (.t 1), none⟩,
  ⟨(some 36), .call 34 [(.t 34), (.t 35)], none⟩,
  ⟨(some 4), .move (.t 36), none⟩]
def m26_code : MCode := (.seq (.ops m26_r0) (.seq (.seq (.ops m26_r1) (.cond (.t 12) (.seq (.ops m26_r2) .ret) .skip)) (.seq (.seq (.ops m26_r3) (.cond (.t 21) (.seq (.ops m26_r4) .ret) .skip)) (.seq (.seq (.ops m26_r5) (.seq (.ops m26_r6) (.cond (.t 31) (.seq (.ops m26_r7) .ret) .skip))) (.seq (.ops m26_r8) .ret)))))
def m26 : MFunc := ⟨37, [.tmp 4], m26_code⟩

def m27_r0 : List MI := [
  ⟨(some 2), .move (.k (.sc (.str []))), none⟩]
def m27_r1 : List DI := [
  ⟨⟨(some 3), .move (.t 0), none⟩, 0, [], []⟩,
  ⟨⟨(some 4), .nilCheck (.t 3), none⟩, 0, [], []⟩,
  ⟨⟨(some 5), .fieldAddr 1 (.t 4), none⟩, 0, [], []⟩,
  ⟨⟨(some 6), .load none (.t 5), none⟩, 1, [], []⟩,
  ⟨⟨(some 7), .usliceData (.t 6), none⟩, 2, [], []⟩,
  ⟨⟨(some 8), .move (.t 0), none⟩, 0, [4], []⟩,
  ⟨⟨(some 9), .nilCheck (.t 8), none⟩, 0, [4], []⟩,
  ⟨⟨(some 10), .fieldAddr 1 (.t 9), none⟩, 0, [4], []⟩,
  ⟨⟨(some 11), .load none (.t 10), none⟩, 1, [4], []⟩,
  ⟨⟨(some 12), .lenSlice (.t 11), none⟩, 0, [4], []⟩,
  ⟨⟨(some 13), .ustring 5 (.t 7) (.t 12), none⟩, 2, [], []⟩,
  ⟨⟨(some 2), .move (.t 13), none⟩, 0, [], []⟩]
def m27_code : MCode := (.seq (.ops m27_r0) (.seq (.draw m27_r1) .ret))
def m27 : MFunc := ⟨14, [.tmp 2], m27_code⟩

def m28_r0 : List MI := [
  ⟨(some 3), .box 28 (.t 1), none⟩]
def m28_r1 : List MI := [
  ⟨(some 5), .move (.t 0), none⟩,
  ⟨(some 6), .lenSlice (.t 5), none⟩,
  ⟨(some 7), .move (.k (.sc (.int .i64 0))), none⟩]
def m28_r3 : List MI := [
  ⟨(some 8), .bin .lss .no (.t 7) (.t 6), none⟩]
def m28_r4 : List MI := [
  ⟨(some 9), .move (.t 7), none⟩,
  ⟨(some 4), .move (.t 9), none⟩]
def m28_r5 : List MI := [
  ⟨(some 10), .move (.t 0), none⟩,
  ⟨(some 11), .move (.t 4), none⟩,
  ⟨(some 12), .load (some 5) (.t 3), none⟩,
  ⟨(some 13), .call 35 [(.t 12)], none⟩,
  ⟨(some 14), .indexSlice 7 (.t 10) (.t 11), none⟩,
  ⟨none, .store 7 (.t 14) (.t 13), none⟩]
def m28_r6 : List MI := [
  ⟨(some 15), .bin .add .no (.t 7) (.k (.sc (.int .i64 1))), none⟩,
  ⟨(some 7), .move (.t 15), none⟩]
def m28_l2 : MCode := (.seq (.ops m28_r3) (.seq (.cond (.t 8) .skip (.exit 0)) (.seq (.block 1 (.seq (.ops m28_r4) (.ops m28_r5))) (.ops m28_r6))))
def m28_code : MCode := (.seq (.ops m28_r0) (.seq (.ops m28_r1) (.block 0 (.loop m28_l2))))
def m28 : MFunc := ⟨16, [], m28_code⟩

def m29_r0 : List MI := [
  ⟨(some 2), .move (.t 0), none⟩,
  ⟨(some 3), .nilCheck (.t 2), none⟩,
  ⟨(some 4), .fieldAddr 0 (.t 3), none⟩,
  ⟨(some 5), .load none (.t 4), none⟩,
  ⟨(some 6), .bin .eql .ptr (.t 5) (.k (.sc (.nilp))), none⟩]
def m29_r1 : List MI := [
  ⟨(some 7), .move (.t 0), none⟩,
  ⟨(some 8), .move (.t 0), none⟩,
  ⟨(some 9), .conv .ptrUnsafe (.t 8), none⟩,
  ⟨(some 10), .same (.t 9), none⟩,
  ⟨(some 11), .conv (.unsafePtr 56 2) (.t 10), none⟩,
  ⟨(some 12), .nilCheck (.t 7), none⟩,
  ⟨(some 13), .fieldAddr 0 (.t 12), none⟩,
  ⟨none, .store 1 (.t 13) (.t 11), none⟩]
def m29_r2 : List MI := [
  ⟨(some 14), .move (.t 0), none⟩,
  ⟨(some 15), .nilCheck (.t 14), none⟩,
  ⟨(some 16), .fieldAddr 0 (.t 15), none⟩,
  ⟨(some 17), .load none (.t 16), none⟩,
  ⟨(some 18), .move (.t 0), none⟩,
  ⟨(some 19), .bin .neq .ptr (.t 17) (.t 18), none⟩]
def m29_code : MCode := (.seq (.ops m29_r0) (.cond (.t 6) (.ops m29_r1) (.seq (.ops m29_r2) (.cond (.t 19) .bad .skip))))
def m29 : MFunc := ⟨20, [], m29_code⟩

def m30_r0 : List MI := [
  ⟨(some 4), .move (.k (.sc (.nils))), none⟩]
def m30_r1 : List MI := [
  ⟨(some 5), .move (.t 1), none⟩,
  ⟨(some 6), .conv (.int .u32) (.t 5), none⟩,
  ⟨(some 7), .bin .leq .no (.t 6) (.k (.sc (.int .u32 127))), none⟩]
def m30_r2 : List MI := [
  ⟨(some 8), .move (.t 0), none⟩,
  ⟨(some 9), .move (.t 1), none⟩,
  ⟨(some 10), .conv (.int .u8) (.t 9), none⟩,
  ⟨(some 11), .buildSlice 5 1 1 [.int .u8 0] [(0, 1, (.t 10))], none⟩,
  ⟨(some 12), .append 5 1 1 [.int .u8 0] (.t 8) (.t 11), none⟩,
  ⟨(some 4), .move (.t 12), none⟩]
def m30_r3 : List MI := [
  ⟨(some 13), .move (.t 0), none⟩,
  ⟨(some 14), .move (.t 1), none⟩,
  ⟨(some 15), .call 37 [(.t 13), (.t 14)], none⟩,
  ⟨(some 4), .move (.t 15), none⟩]
def m30_code : MCode := (.seq (.ops m30_r0) (.seq (.seq (.ops m30_r1) (.cond (.t 7) (.seq (.ops m30_r2) .ret) .skip)) (.seq (.ops m30_r3) .ret)))
def m30 : MFunc := ⟨16, [.tmp 4], m30_code⟩

def m31_r0 : List MI := [
  ⟨(some 4), .move (.k (.sc (.str []))), none⟩]
def m31_r2 : List MI := [
  ⟨(some 5), .move (.t 0), none⟩,
  ⟨(some 6), .lenStr (.t 5), none⟩,
  ⟨(some 7), .bin .gtr .no (.t 6) (.k (.sc (.int .i64 0))), none⟩,
  ⟨(some 8), .move (.t 7), none⟩,
  ⟨(some 9), .move (.t 0), (some (8, true))⟩,
  ⟨(some 10), .move (.t 0), (some (8, true))⟩,
  ⟨(some 11), .lenStr (.t 10), (some (8, true))⟩,
  ⟨(some 12), .bin .sub .no (.t 11) (.k (.sc (.int .i64 1))), (some (8, true))⟩,
  ⟨(some 13), .idxStr (.t 9) (.t 12), (some (8, true))⟩,
  ⟨(some 14), .move (.t 1), (some (8, true))⟩,
  ⟨(some 15), .bin .eql .no (.t 13) (.t 14), (some (8, true))⟩,
  ⟨(some 16), .pick (.t 8) (.t 15) (.k (.sc (.bool false))), none⟩]
def m31_r3 : List MI := [
  ⟨(some 17), .move (.t 0), none⟩,
  ⟨(some 18), .move (.t 0), none⟩,
  ⟨(some 19), .lenStr (.t 18), none⟩,
  ⟨(some 20), .bin .sub .no (.t 19) (.k (.sc (.int .i64 1))), none⟩,
  ⟨(some 21), .sliceStr (.t 17) none (some (.t 20)), none⟩,
  ⟨(some 0), .move (.t 21), none⟩]
def m31_l1 : MCode := (.seq (.seq (.ops m31_r2) (.cond (.t 16) .skip (.exit 0))) (.block 1 (.ops m31_r3)))
def m31_r4 : List MI := [
  ⟨(some 22), .move (.t 0), none⟩,
  ⟨(some 4), .move (.t 22), none⟩]
def m31_code : MCode := (.seq (.ops m31_r0) (.seq (.block 0 (.loop m31_l1)) (.seq (.ops m31_r4) .ret)))
def m31 : MFunc := ⟨23, [.tmp 4], m31_code⟩

def m32_r0 : List MI := [
  ⟨(some 2), .alloc 67 [.bool false, .bool false, .bool false, .bool false, .bool false, .bool false, .bool false, .bool false, .bool false, .bool false, .bool false, .bool false, .bool false, .bool false, .bool false, .bool false, .bool false, .bool false, .bool false, .bool false, .bool false, .bool false, .bool false, .bool false, .bool false, .bool false, .bool false, .bool false, .bool false, .bool false, .bool false, .bool false, .bool false, .bool false, .bool false, .bool false, .bool false, .bool false, .bool false, .bool false, .bool false, .bool false, .bool false, .bool false, .bool false, .bool false, .bool false, .bool false, .bool false, .bool false, .bool false, .bool false, .bool false, .bool false, .bool false, .bool false, .bool false, .bool false, .bool false, .bool false, .bool false, .bool false, .bool false, .bool false, .bool false, .bool false, .bool false, .bool false, .bool false, .bool false, .bool false, .bool false, .bool false, .bool false, .bool false, .bool false, .bool false, .bool false, .bool false, .bool false, .bool false, .bool false, .bool false, .bool false, .bool false, .bool false, .bool false, .bool false, .bool false, .bool false, .bool false, .bool false, .bool false, .bool false, .bool false, .bool false, .bool false, .bool false, .bool false, .bool false, .bool false, .bool false, .bool false, .bool false, .bool false, .bool false, .bool false, .bool false, .bool false, .bool false, .bool false, .bool false, .bool false, .bool false, .bool false, .bool false, .bool false, .bool false, .bool false, .bool false, .bool false, .bool false, .bool false, .bool false, .bool false, .bool false, .bool false, .bool false, .bool false, .bool false, .bool false, .bool false, .bool false, .bool false, .bool false, .bool false, .bool false, .bool false, .bool false, .bool false, .bool false, .bool false, .bool false, .bool false, .bool false, .bool false, .bool false, .bool false, .bool false, .bool false, .bool false, .bool false, .bool false, .bool false, .bool false, .bool false, .bool false, .bool false, .bool false, .bool false, .bool false, .bool false, .bool false, .bool false, .bool false, .bool false, .bool false, .bool false, .bool false, .bool false, .bool false, .bool false, .bool false, .bool false, .bool false, .bool false, .bool false, .bool false, .bool false, .bool false, .bool false, .bool false, .bool false, .bool false, .bool false, .bool false, .bool false, .bool false, .bool false, .bool false, .bool false, .bool false, .bool false, .bool false, .bool false, .bool false, .bool false, .bool false, .bool false, .bool false, .bool false, .bool false, .bool false, .bool false, .bool false, .bool false, .bool false, .bool false, .bool false, .bool false, .bool false, .bool false, .bool false, .bool false, .bool false, .bool false, .bool false, .bool false, .bool false, .bool false, .bool false, .bool false, .bool false, .bool false, .bool false, .bool false, .bool false, .bool false, .bool false, .bool false, .bool false, .bool false, .bool false, .bool false, .bool false, .bool false, .bool false, .bool false, .bool false, .bool false, .bool false, .bool false, .bool false, .bool false, .bool false, .bool false, .bool false, .bool false, .bool false, .bool false, .bool false, .bool false, .bool false, .bool false, .bool false, .bool false], none⟩,
  ⟨(some 3), .move (.k (.sc (.bool false))), none⟩]
def m32_r1 : List MI := [
  ⟨(some 4), .move (.k (.sc (.int .i64 0))), none⟩]
def m32_r3 : List MI := [
  ⟨(some 6), .move (.t 4), none⟩,
  ⟨(some 7), .move (.t 0), none⟩,
  ⟨(some 8), .lenStr (.t 7), none⟩,
  ⟨(some 9), .bin .lss .no (.t 6) (.t 8), none⟩]
def m32_r4 : List MI := [
  ⟨(some 12), .move (.t 0), none⟩,
  ⟨(some 13), .move (.t 4), none⟩,
  ⟨(some 14), .idxStr (.t 12) (.t 13), none⟩,
  ⟨(some 5), .move (.t 14), none⟩]
def m32_r5 : List MI := [
  ⟨(some 15), .move (.t 5), none⟩,
  ⟨(some 16), .bin .geq .no (.t 15) (.k (.sc (.int .u8 128))), none⟩]
def m32_r6 : List MI := [
  ⟨(some 17), .load (some 256) (.t 2), none⟩,
  ⟨none, .store 256 (.t 2) (.t 17), none⟩,
  ⟨(some 3), .move (.k (.sc (.bool false))), none⟩]
def m32_r7 : List MI := [
  ⟨(some 18), .move (.t 5), none⟩,
  ⟨(some 19), .indexArr 256 1 (.t 2) (.t 18), none⟩,
  ⟨none, .store 1 (.t 19) (.k (.sc (.bool true))), none⟩]
def m32_r8 : List MI := [
  ⟨(some 10), .move (.t 4), none⟩,
  ⟨(some 11), .bin .add .no (.t 10) (.k (.sc (.int .i64 1))), none⟩,
  ⟨(some 4), .move (.t 11), none⟩]
def m32_l2 : MCode := (.seq (.seq (.ops m32_r3) (.cond (.t 9) .skip (.exit 0))) (.seq (.block 1 (.seq (.ops m32_r4) (.seq (.seq (.ops m32_r5) (.cond (.t 16) (.seq (.ops m32_r6) .ret) .skip)) (.ops m32_r7)))) (.ops m32_r8)))
def m32_r9 : List MI := [
  ⟨(some 20), .load (some 256) (.t 2), none⟩,
  ⟨none, .store 256 (.t 2) (.t 20), none⟩,
  ⟨(some 3), .move (.k (.sc (.bool true))), none⟩]
def m32_code : MCode := (.seq (.ops m32_r0) (.seq (.seq (.ops m32_r1) (.block 0 (.loop m32_l2))) (.seq (.ops m32_r9) .ret)))
def m32 : MFunc := ⟨21, [.cell 2 (some 256), .tmp 3], m32_code⟩

def m33_r0 : List MI := [
  ⟨(some 4), .move (.k (.sc (.str []))), none⟩]
def m33_r2 : List MI := [
  ⟨(some 5), .move (.t 0), none⟩,
  ⟨(some 6), .lenStr (.t 5), none⟩,
  ⟨(some 7), .bin .gtr .no (.t 6) (.k (.sc (.int .i64 0))), none⟩]
def m33_r3 : List MI := [
  ⟨(some 8), .move (.t 1), none⟩,
  ⟨(some 9), .move (.t 0), none⟩,
  ⟨(some 10), .move (.t 0), none⟩,
  ⟨(some 11), .lenStr (.t 10), none⟩,
  ⟨(some 12), .bin .sub .no (.t 11) (.k (.sc (.int .i64 1))), none⟩,
  ⟨(some 13), .idxStr (.t 9) (.t 12), none⟩,
  ⟨(some 14), .call 38 [(.t 8), (.t 13)], none⟩,
  ⟨(some 15), .un .not (.t 14), none⟩]
def m33_r4 : List MI := [
  ⟨(some 16), .move (.t 0), none⟩,
  ⟨(some 17), .move (.t 0), none⟩,
  ⟨(some 18), .lenStr (.t 17), none⟩,
  ⟨(some 19), .bin .sub .no (.t 18) (.k (.sc (.int .i64 1))), none⟩,
  ⟨(some 20), .sliceStr (.t 16) none (some (.t 19)), none⟩,
  ⟨(some 0), .move (.t 20), none⟩]
def m33_l1 : MCode := (.seq (.seq (.ops m33_r2) (.cond (.t 7) .skip (.exit 0))) (.block 1 (.seq (.seq (.ops m33_r3) (.cond (.t 15) (.exit 0) .skip)) (.ops m33_r4))))
def m33_r5 : List MI := [
  ⟨(some 21), .move (.t 0), none⟩,
  ⟨(some 4), .move (.t 21), none⟩]
def m33_code : MCode := (.seq (.ops m33_r0) (.seq (.block 0 (.loop m33_l1)) (.seq (.ops m33_r5) .ret)))
def m33 : MFunc := ⟨22, [.tmp 4], m33_code⟩

def m34_r0 : List MI := [
  ⟨(some 4), .move (.k (.sc (.str []))), none⟩]
def m34_r2 : List MI := [
  ⟨(some 7), .move (.t 0), none⟩,
  ⟨(some 8), .lenStr (.t 7), none⟩,
  ⟨(some 9), .bin .gtr .no (.t 8) (.k (.sc (.int .i64 0))), none⟩]
def m34_r3 : List MI := [
  ⟨(some 10), .move (.t 0), none⟩,
  ⟨(some 11), .move (.t 0), none⟩,
  ⟨(some 12), .lenStr (.t 11), none⟩,
  ⟨(some 13), .bin .sub .no (.t 12) (.k (.sc (.int .i64 1))), none⟩,
  ⟨(some 14), .idxStr (.t 10) (.t 13), none⟩,
  ⟨(some 15), .conv (.int .i32) (.t 14), none⟩,
  ⟨(some 5), .move (.t 15), none⟩,
  ⟨(some 6), .move (.k (.sc (.int .i64 1))), none⟩]
def m34_r4 : List MI := [
  ⟨(some 16), .move (.t 5), none⟩,
  ⟨(some 17), .bin .geq .no (.t 16) (.k (.sc (.int .i32 128))), none⟩]
def m34_r5 : List MI := [
  ⟨(some 19), .move (.t 0), none⟩,
  ⟨(some 20), .call 39 [(.t 19)], none⟩,
  ⟨(some 18), .move (.t 20), none⟩,
  ⟨(some 21), .extract (.t 18) 0, none⟩,
  ⟨(some 22), .extract (.t 18) 1, none⟩,
  ⟨(some 5), .move (.t 21), none⟩,
  ⟨(some 6), .move (.t 22), none⟩]
def m34_r6 : List MI := [
  ⟨(some 23), .move (.t 1), none⟩,
  ⟨(some 24), .move (.t 5), none⟩,
  ⟨(some 25), .call 40 [(.t 23), (.t 24)], none⟩,
  ⟨(some 26), .un .not (.t 25), none⟩]
def m34_r7 : List MI := [
  ⟨(some 27), .move (.t 0), none⟩,
  ⟨(some 28), .move (.t 0), none⟩,
  ⟨(some 29), .lenStr (.t 28), none⟩,
  ⟨(some 30), .move (.t 6), none⟩,
  ⟨(some 31), .bin .sub .no (.t 29) (.t 30), none⟩,
  ⟨(some 32), .sliceStr (.t 27) none (some (.t 31)), none⟩,
  ⟨(some 0), .move (.t 32), none⟩]
def m34_l1 : MCode := (.seq (.seq (.ops m34_r2) (.cond (.t 9) .skip (.exit 0))) (.block 1 (.seq (.ops m34_r3) (.seq (.seq (.ops m34_r4) (.cond (.t 17) (.ops m34_r5) .skip)) (.seq (.seq (.ops m34_r6) (.cond (.t 26) (.exit 0) .skip)) (.ops m34_r7))))))
def m34_r8 : List MI := [
  ⟨(some 33), .move (.t 0), none⟩,
  ⟨(some 4), .move (.t 33), none⟩]
def m34_code : MCode := (.seq (.ops m34_r0) (.seq (.block 0 (.loop m34_l1)) (.seq (.ops m34_r8) .ret)))
def m34 : MFunc := ⟨34, [.tmp 4], m34_code⟩

def m35_r0 : List MI := [
  ⟨(some 1), .box 28 (.t 0), none⟩,
  ⟨(some 2), .alloc 40 [.int .i32 0, .int .u8 0, .int .u16 0, .int .u8 0, .int .u32 0, .int .u8 0, .int .u32 0], none⟩]
def m35_r1 : List MI := [
  ⟨(some 3), .load (some 5) (.t 1), none⟩,
  ⟨(some 4), .build [.int .i32 0, .int .u8 0, .int .u16 0, .int .u8 0, .int .u32 0, .int .u8 0, .int .u32 0] [(0, 1, (.k (.sc (.int .i32 32)))), (2, 5, (.t 3))], none⟩,
  ⟨none, .store 7 (.t 2) (.t 4), none⟩]
def m35_code : MCode := (.seq (.ops m35_r0) (.seq (.ops m35_r1) .ret))
def m35 : MFunc := ⟨5, [.cell 2 (some 7)], m35_code⟩

def m37_r0 : List MI := [
  ⟨(some 4), .move (.k (.sc (.nils))), none⟩]
def m37_r1 : List MI := [
  ⟨(some 6), .move (.t 1), none⟩,
  ⟨(some 7), .conv (.int .u32) (.t 6), none⟩,
  ⟨(some 5), .move (.t 7), none⟩]
def m37_r2 : List MI := [
  ⟨(some 12), .move (.t 5), none⟩,
  ⟨(some 13), .bin .leq .no (.t 12) (.k (.sc (.int .u32 2047))), none⟩,
  ⟨(some 11), .move (.t 13), none⟩]
def m37_r3 : List MI := [
  ⟨(some 14), .move (.t 0), none⟩,
  ⟨(some 15), .move (.t 1), none⟩,
  ⟨(some 16), .bin .shr .no (.t 15) (.k (.sc (.int .u64 6))), none⟩,
  ⟨(some 17), .conv (.int .u8) (.t 16), none⟩,
  ⟨(some 18), .bin .or .no (.k (.sc (.int .u8 192))) (.t 17), none⟩,
  ⟨(some 19), .move (.t 1), none⟩,
  ⟨(some 20), .conv (.int .u8) (.t 19), none⟩,
  ⟨(some 21), .bin .and .no (.t 20) (.k (.sc (.int .u8 63))), none⟩,
  ⟨(some 22), .bin .or .no (.k (.sc (.int .u8 128))) (.t 21), none⟩,
  ⟨(some 23), .buildSlice 5 1 2 [.int .u8 0] [(0, 1, (.t 18)), (1, 1, (.t 22))], none⟩,
  ⟨(some 24), .append 5 1 1 [.int .u8 0] (.t 14) (.t 23), none⟩,
  ⟨(some 4), .move (.t 24), none⟩]
def m37_r4 : List MI := [
  ⟨(some 26), .move (.t 5), none⟩,
  ⟨(some 27), .bin .lss .no (.t 26) (.k (.sc (.int .u32 55296))), none⟩,
  ⟨(some 25), .move (.t 27), none⟩]
def m37_r5 : List MI := [
  ⟨(some 28), .move (.t 5), none⟩,
  ⟨(some 29), .bin .lss .no (.k (.sc (.int .u32 57343))) (.t 28), none⟩,
  ⟨(some 30), .move (.t 29), none⟩,
  ⟨(some 31), .move (.t 5), (some (30, true))⟩,
  ⟨(some 32), .bin .leq .no (.t 31) (.k (.sc (.int .u32 65535))), (some (30, true))⟩,
  ⟨(some 33), .pick (.t 30) (.t 32) (.k (.sc (.bool false))), none⟩,
  ⟨(some 25), .move (.t 33), none⟩]
def m37_r6 : List MI := [
  ⟨(some 34), .move (.t 0), none⟩,
  ⟨(some 35), .move (.t 1), none⟩,
  ⟨(some 36), .bin .shr .no (.t 35) (.k (.sc (.int .u64 12))), none⟩,
  ⟨(some 37), .conv (.int .u8) (.t 36), none⟩,
  ⟨(some 38), .bin .or .no (.k (.sc (.int .u8 224))) (.t 37), none⟩,
  ⟨(some 39), .move (.t 1), none⟩,
  ⟨(some 40), .bin .shr .no (.t 39) (.k (.sc (.int .u64 6))), none⟩,
  ⟨(some 41), .conv (.int .u8) (.t 40), none⟩,
  ⟨(some 42), .bin .and .no (.t 41) (.k (.sc (.int .u8 63))), none⟩,
  ⟨(some 43), .bin .or .no (.k (.sc (.int .u8 128))) (.t 42), none⟩,
  ⟨(some 44), .move (.t 1), none⟩,
  ⟨(some 45), .conv (.int .u8) (.t 44), none⟩,
  ⟨(some 46), .bin .and .no (.t 45) (.k (.sc (.int .u8 63))), none⟩,
  ⟨(some 47), .bin .or .no (.k (.sc (.int .u8 128))) (.t 46), none⟩,
  ⟨(some 48), .buildSlice 5 1 3 [.int .u8 0] [(0, 1, (.t 38)), (1, 1, (.t 43)), (2, 1, (.t 47))], none⟩,
  ⟨(some 49), .append 5 1 1 [.int .u8 0] (.t 34) (.t 48), none⟩,
  ⟨(some 4), .move (.t 49), none⟩]
def m37_r7 : List MI := [
  ⟨(some 51), .move (.t 5), none⟩,
  ⟨(some 52), .bin .gtr .no (.t 51) (.k (.sc (.int .u32 65535))), none⟩,
  ⟨(some 53), .move (.t 52), none⟩,
  ⟨(some 54), .move (.t 5), (some (53, true))⟩,
  ⟨(some 55), .bin .leq .no (.t 54) (.k (.sc (.int .u32 1114111))), (some (53, true))⟩,
  ⟨(some 56), .pick (.t 53) (.t 55) (.k (.sc (.bool false))), none⟩,
  ⟨(some 50), .move (.t 56), none⟩]
def m37_r8 : List MI := [
  ⟨(some 57), .move (.t 0), none⟩,
  ⟨(some 58), .move (.t 1), none⟩,
  ⟨(some 59), .bin .shr .no (.t 58) (.k (.sc (.int .u64 18))), none⟩,
  ⟨(some 60), .conv (.int .u8) (.t 59), none⟩,
  ⟨(some 61), .bin .or .no (.k (.sc (.int .u8 240))) (.t 60), none⟩,
  ⟨(some 62), .move (.t 1), none⟩,
  ⟨(some 63), .bin .shr .no (.t 62) (.k (.sc (.int .u64 12))), none⟩,
  ⟨(some 64), .conv (.int .u8) (.t 63), none⟩,
  ⟨(some 65), .bin .and .no (.t 64) (.k (.sc (.int .u8 63))), none⟩,
  ⟨(some 66), .bin .or .no (.k (.sc (.int .u8 128))) (.t 65), none⟩,
  ⟨(some 67), .move (.t 1), none⟩,
  ⟨(some 68), .bin .shr .no (.t 67) (.k (.sc (.int .u64 6))), none⟩,
  ⟨(some 69), .conv (.int .u8) (.t 68), none⟩,
  ⟨(some 70), .bin .and .no (.t 69) (.k (.sc (.int .u8 63))), none⟩,
  ⟨(some 71), .bin .or .no (.k (.sc (.int .u8 128))) (.t 70), none⟩,
  ⟨(some 72), .move (.t 1), none⟩,
  ⟨(some 73), .conv (.int .u8) (.t 72), none⟩,
  ⟨(some 74), .bin .and .no (.t 73) (.k (.sc (.int .u8 63))), none⟩,
  ⟨(some 75), .bin .or .no (.k (.sc (.int .u8 128))) (.t 74), none⟩,
  ⟨(some 76), .buildSlice 5 1 4 [.int .u8 0] [(0, 1, (.t 61)), (1, 1, (.t 66)), (2, 1, (.t 71)), (3, 1, (.t 75))], none⟩,
  ⟨(some 77), .append 5 1 1 [.int .u8 0] (.t 57) (.t 76), none⟩,
  ⟨(some 4), .move (.t 77), none⟩]
def m37_r9 : List MI := [
  ⟨(some 8), .move (.t 0), none⟩,
  ⟨(some 9), .buildSlice 5 1 3 [.int .u8 0] [(0, 1, (.k (.sc (.int .u8 239)))), (1, 1, (.k (.sc (.int .u8 191)))), (2, 1, (.k (.sc (.int .u8 189))))], none⟩,
  ⟨(some 10), .append 5 1 1 [.int .u8 0] (.t 8) (.t 9), none⟩,
  ⟨(some 4), .move (.t 10), none⟩]
def m37_code : MCode := (.seq (.ops m37_r0) (.seq (.ops m37_r1) (.block 0 (.seq (.ops m37_r2) (.cond (.t 11) (.seq (.ops m37_r3) .ret) (.seq (.seq (.ops m37_r4) (.cond (.t 25) .skip (.ops m37_r5))) (.cond (.t 25) (.seq (.ops m37_r6) .ret) (.seq (.ops m37_r7) (.cond (.t 50) (.seq (.ops m37_r8) .ret) (.seq (.ops m37_r9) .ret))))))))))
def m37 : MFunc := ⟨78, [.tmp 4], m37_code⟩

def m38_r0 : List MI := [
  ⟨(some 4), .move (.k (.sc (.bool false))), none⟩]
def m38_r1 : List MI := [
  ⟨(some 5), .move (.t 0), none⟩,
  ⟨(some 6), .move (.t 1), none⟩,
  ⟨(some 7), .nilCheck (.t 5), none⟩,
  ⟨(some 8), .indexArr 256 1 (.t 7) (.t 6), none⟩,
  ⟨(some 9), .load none (.t 8), none⟩,
  ⟨(some 4), .move (.t 9), none⟩]
def m38_code : MCode := (.seq (.ops m38_r0) (.seq (.ops m38_r1) .ret))
def m38 : MFunc := ⟨10, [.tmp 4], m38_code⟩

def m39_r0 : List MI := [
  ⟨(some 2), .move (.k (.sc (.int .i32 0))), none⟩,
  ⟨(some 3), .move (.k (.sc (.int .i64 0))), none⟩]
def m39_r1 : List MI := [
  ⟨(some 7), .move (.t 0), none⟩,
  ⟨(some 8), .lenStr (.t 7), none⟩,
  ⟨(some 4), .move (.t 8), none⟩]
def m39_r2 : List MI := [
  ⟨(some 9), .move (.t 4), none⟩,
  ⟨(some 10), .bin .eql .no (.t 9) (.k (.sc (.int .i64 0))), none⟩]
def m39_r3 : List MI := [
  ⟨(some 2), .move (.k (.sc (.int .i32 65533))), none⟩,
  ⟨(some 3), .move (.k (.sc (.int .i64 0))), none⟩]
def m39_r4 : List MI := [
  ⟨(some 11), .move (.t 4), none⟩,
  ⟨(some 12), .bin .sub .no (.t 11) (.k (.sc (.int .i64 1))), none⟩,
  ⟨(some 5), .move (.t 12), none⟩]
def m39_r5 : List MI := [
  ⟨(some 13), .move (.t 0), none⟩,
  ⟨(some 14), .move (.t 5), none⟩,
  ⟨(some 15), .idxStr (.t 13) (.t 14), none⟩,
  ⟨(some 16), .conv (.int .i32) (.t 15), none⟩,
  ⟨(some 2), .move (.t 16), none⟩]
def m39_r6 : List MI := [
  ⟨(some 17), .move (.t 2), none⟩,
  ⟨(some 18), .bin .lss .no (.t 17) (.k (.sc (.int .i32 128))), none⟩]
def m39_r7 : List MI := [
  ⟨(some 19), .move (.t 2), none⟩,
  ⟨(some 2), .move (.t 19), none⟩,
  ⟨(some 3), .move (.k (.sc (.int .i64 1))), none⟩]
def m39_r8 : List MI := [
  ⟨(some 20), .move (.t 4), none⟩,
  ⟨(some 21), .bin .sub .no (.t 20) (.k (.sc (.int .i64 4))), none⟩,
  ⟨(some 22), .max [(.t 21), (.k (.sc (.int .i64 0)))], none⟩,
  ⟨(some 6), .move (.t 22), none⟩]
def m39_r9 : List MI := [
  ⟨(some 23), .move (.t 5), none⟩,
  ⟨(some 24), .bin .sub .no (.t 23) (.k (.sc (.int .i64 1))), none⟩,
  ⟨(some 5), .move (.t 24), none⟩]
def m39_r11 : List MI := [
  ⟨(some 25), .move (.t 5), none⟩,
  ⟨(some 26), .move (.t 6), none⟩,
  ⟨(some 27), .bin .geq .no (.t 25) (.t 26), none⟩]
def m39_r12 : List MI := [
  ⟨(some 30), .move (.t 0), none⟩,
  ⟨(some 31), .move (.t 5), none⟩,
  ⟨(some 32), .idxStr (.t 30) (.t 31), none⟩,
  ⟨(some 33), .call 41 [(.t 32)], none⟩]
def m39_r13 : List MI := [
  ⟨(some 28), .move (.t 5), none⟩,
  ⟨(some 29), .bin .sub .no (.t 28) (.k (.sc (.int .i64 1))), none⟩,
  ⟨(some 5), .move (.t 29), none⟩]
def m39_l10 : MCode := (.seq (.seq (.ops m39_r11) (.cond (.t 27) .skip (.exit 0))) (.seq (.block 1 (.seq (.ops m39_r12) (.cond (.t 33) (.exit 0) .skip))) (.ops m39_r13)))
def m39_r14 : List MI := [
  ⟨(some 34), .move (.t 5), none⟩,
  ⟨(some 35), .bin .lss .no (.t 34) (.k (.sc (.int .i64 0))), none⟩]
def m39_r15 : List MI := [
  ⟨(some 5), .move (.k (.sc (.int .i64 0))), none⟩]
def m39_r16 : List MI := [
  ⟨(some 37), .move (.t 0), none⟩,
  ⟨(some 38), .move (.t 5), none⟩,
  ⟨(some 39), .move (.t 4), none⟩,
  ⟨(some 40), .sliceStr (.t 37) (some (.t 38)) (some (.t 39)), none⟩,
  ⟨(some 41), .call 42 [(.t 40)], none⟩,
  ⟨(some 36), .move (.t 41), none⟩,
  ⟨(some 42), .extract (.t 36) 0, none⟩,
  ⟨(some 43), .extract (.t 36) 1, none⟩,
  ⟨(some 2), .move (.t 42), none⟩,
  ⟨(some 3), .move (.t 43), none⟩]
def m39_r17 : List MI := [
  ⟨(some 44), .move (.t 5), none⟩,
  ⟨(some 45), .move (.t 3), none⟩,
  ⟨(some 46), .bin .add .no (.t 44) (.t 45), none⟩,
  ⟨(some 47), .move (.t 4), none⟩,
  ⟨(some 48), .bin .neq .no (.t 46) (.t 47), none⟩]
def m39_r18 : List MI := [
  ⟨(some 2), .move (.k (.sc (.int .i32 65533))), none⟩,
  ⟨(some 3), .move (.k (.sc (.int .i64 1))), none⟩]
def m39_r19 : List MI := [
  ⟨(some 49), .move (.t 2), none⟩,
  ⟨(some 50), .move (.t 3), none⟩,
  ⟨(some 2), .move (.t 49), none⟩,
  ⟨(some 3), .move (.t 50), none⟩]
def m39_code : MCode := (.seq (.ops m39_r0) (.seq (.ops m39_r1) (.seq (.seq (.ops m39_r2) (.cond (.t 10) (.seq (.ops m39_r3) .ret) .skip)) (.seq (.ops m39_r4) (.seq (.ops m39_r5) (.seq (.seq (.ops m39_r6) (.cond (.t 18) (.seq (.ops m39_r7) .ret) .skip)) (.seq (.ops m39_r8) (.seq (.seq (.ops m39_r9) (.block 0 (.loop m39_l10))) (.seq (.seq (.ops m39_r14) (.cond (.t 35) (.ops m39_r15) .skip)) (.seq (.ops m39_r16) (.seq (.seq (.ops m39_r17) (.cond (.t 48) (.seq (.ops m39_r18) .ret) .skip)) (.seq (.ops m39_r19) .ret))))))))))))
def m39 : MFunc := ⟨51, [.tmp 2, .tmp 3], m39_code⟩

def m40_r0 : List MI := [
  ⟨(some 4), .move (.k (.sc (.bool false))), none⟩]
def m40_r1 : List MI := [
  ⟨(some 5), .move (.t 0), none⟩,
  ⟨(some 6), .move (.t 1), none⟩,
  ⟨(some 7), .call 43 [(.t 5), (.t 6)], none⟩,
  ⟨(some 8), .bin .geq .no (.t 7) (.k (.sc (.int .i64 0))), none⟩,
  ⟨(some 4), .move (.t 8), none⟩]
def m40_code : MCode := (.seq (.ops m40_r0) (.seq (.ops m40_r1) .ret))
def m40 : MFunc := ⟨9, [.tmp 4], m40_code⟩

def m41_r0 : List MI := [
  ⟨(some 2), .move (.k (.sc (.bool false))), none⟩]
def m41_r1 : List MI := [
  ⟨(some 3), .move (.t 0), none⟩,
  ⟨(some 4), .bin .and .no (.t 3) (.k (.sc (.int .u8 192))), none⟩,
  ⟨(some 5), .bin .neq .no (.t 4) (.k (.sc (.int .u8 128))), none⟩,
  ⟨(some 2), .move (.t 5), none⟩]
def m41_code : MCode := (.seq (.ops m41_r0) (.seq (.ops m41_r1) .ret))
def m41 : MFunc := ⟨6, [.tmp 2], m41_code⟩

def m42_r0 : List MI := [
  ⟨(some 2), .move (.k (.sc (.int .i32 0))), none⟩,
  ⟨(some 3), .move (.k (.sc (.int .i64 0))), none⟩]
def m42_r1 : List MI := [
  ⟨(some 4), .move (.t 0), none⟩,
  ⟨(some 5), .bin .neq .no (.t 4) (.k (.sc (.str []))), none⟩,
  ⟨(some 6), .move (.t 5), none⟩,
  ⟨(some 7), .move (.t 0), (some (6, true))⟩,
  ⟨(some 8), .idxStr (.t 7) (.k (.sc (.int .i64 0))), (some (6, true))⟩,
  ⟨(some 9), .bin .lss .no (.t 8) (.k (.sc (.int .u8 128))), (some (6, true))⟩,
  ⟨(some 10), .pick (.t 6) (.t 9) (.k (.sc (.bool false))), none⟩]
def m42_r2 : List MI := [
  ⟨(some 11), .move (.t 0), none⟩,
  ⟨(some 12), .idxStr (.t 11) (.k (.sc (.int .i64 0))), none⟩,
  ⟨(some 13), .conv (.int .i32) (.t 12), none⟩,
  ⟨(some 2), .move (.t 13), none⟩,
  ⟨(some 3), .move (.k (.sc (.int .i64 1))), none⟩]
def m42_r3 : List MI := [
  ⟨(some 15), .move (.t 0), none⟩,
  ⟨(some 16), .call 44 [(.t 15)], none⟩,
  ⟨(some 14), .move (.t 16), none⟩,
  ⟨(some 17), .extract (.t 14) 0, none⟩,
  ⟨(some 18), .extract (.t 14) 1, none⟩,
  ⟨(some 2), .move (.t 17), none⟩,
  ⟨(some 3), .move (.t 18), none⟩]
def m42_code : MCode := (.seq (.ops m42_r0) (.seq (.seq (.ops m42_r1) (.cond (.t 10) (.seq (.ops m42_r2) .ret) (.ops m42_r3))) .ret))
def m42 : MFunc := ⟨19, [.tmp 2, .tmp 3], m42_code⟩

def m43_r0 : List MI := [
  ⟨(some 4), .move (.k (.sc (.int .i64 0))), none⟩]
def m43_r1 : List MI := [
  ⟨(some 161), .move (.t 1), none⟩,
  ⟨(some 162), .bin .leq .no (.k (.sc (.int .i32 0))) (.t 161), none⟩,
  ⟨(some 163), .move (.t 162), none⟩,
  ⟨(some 164), .move (.t 1), (some (163, true))⟩,
  ⟨(some 165), .bin .lss .no (.t 164) (.k (.sc (.int .i32 128))), (some (163, true))⟩,
  ⟨(some 166), .pick (.t 163) (.t 165) (.k (.sc (.bool false))), none⟩,
  ⟨(some 160), .move (.t 166), none⟩]
def m43_r2 : List MI := [
  ⟨(some 167), .move (.t 0), none⟩,
  ⟨(some 168), .move (.t 1), none⟩,
  ⟨(some 169), .conv (.int .u8) (.t 168), none⟩,
  ⟨(some 170), .call 45 [(.t 167), (.t 169)], none⟩,
  ⟨(some 4), .move (.t 170), none⟩]
def m43_r3 : List MI := [
  ⟨(some 172), .move (.t 1), none⟩,
  ⟨(some 173), .bin .eql .no (.t 172) (.k (.sc (.int .i32 65533))), none⟩,
  ⟨(some 171), .move (.t 173), none⟩]
def m43_r4 : List MI := [
  ⟨(some 174), .move (.t 0), none⟩,
  ⟨(some 175), .range (.t 174), none⟩]
def m43_r6 : List MI := [
  ⟨(some 176), .next (.t 175), none⟩,
  ⟨(some 177), .extract (.t 176) 0, none⟩]
def m43_r7 : List MI := [
  ⟨(some 178), .extract (.t 176) 1, none⟩,
  ⟨(some 179), .extract (.t 176) 2, none⟩,
  ⟨(some 5), .move (.t 178), none⟩,
  ⟨(some 6), .move (.t 179), none⟩]
def m43_r8 : List MI := [
  ⟨(some 180), .move (.t 6), none⟩,
  ⟨(some 181), .bin .eql .no (.t 180) (.k (.sc (.int .i32 65533))), none⟩]
def m43_r9 : List MI := [
  ⟨(some 182), .move (.t 5), none⟩,
  ⟨(some 4), .move (.t 182), none⟩]
def m43_l5 : MCode := (.seq (.ops m43_r6) (.seq (.cond (.t 177) .skip (.exit 9)) (.block 10 (.seq (.ops m43_r7) (.seq (.ops m43_r8) (.cond (.t 181) (.seq (.ops m43_r9) .ret) .skip))))))
def m43_r10 : List MI := [
  ⟨(some 4), .move (.k (.sc (.int .i64 (-1)))), none⟩]
def m43_r11 : List MI := [
  ⟨(some 184), .move (.t 1), none⟩,
  ⟨(some 185), .call 46 [(.t 184)], none⟩,
  ⟨(some 186), .un .not (.t 185), none⟩,
  ⟨(some 183), .move (.t 186), none⟩]
def m43_r12 : List MI := [
  ⟨(some 4), .move (.k (.sc (.int .i64 (-1)))), none⟩]
def m43_code : MCode := (.seq (.ops m43_r0) (.block 0 (.seq (.ops m43_r1) (.cond (.t 160) (.seq (.ops m43_r2) .ret) (.seq (.ops m43_r3) (.cond (.t 171) (.seq (.seq (.ops m43_r4) (.block 9 (.loop m43_l5))) (.seq (.ops m43_r10) .ret)) (.seq (.ops m43_r11) (.cond (.t 183) (.seq (.ops m43_r12) .ret) .bad))))))))
def m43 : MFunc := ⟨187, [.tmp 4], m43_code⟩

def m44_r0 : List MI := [
  ⟨(some 2), .move (.k (.sc (.int .i32 0))), none⟩,
  ⟨(some 3), .move (.k (.sc (.int .i64 0))), none⟩]
def m44_r1 : List MI := [
  ⟨(some 13), .move (.t 0), none⟩,
  ⟨(some 14), .lenStr (.t 13), none⟩,
  ⟨(some 4), .move (.t 14), none⟩]
def m44_r2 : List MI := [
  ⟨(some 15), .move (.t 4), none⟩,
  ⟨(some 16), .bin .lss .no (.t 15) (.k (.sc (.int .i64 1))), none⟩]
def m44_r3 : List MI := [
  ⟨(some 2), .move (.k (.sc (.int .i32 65533))), none⟩,
  ⟨(some 3), .move (.k (.sc (.int .i64 0))), none⟩]
def m44_r4 : List MI := [
  ⟨(some 17), .move (.t 0), none⟩,
  ⟨(some 18), .idxStr (.t 17) (.k (.sc (.int .i64 0))), none⟩,
  ⟨(some 5), .move (.t 18), none⟩]
def m44_r5 : List MI := [
  ⟨(some 19), .move (.t 5), none⟩,
  ⟨(some 20), .indexArr 256 1 (.k (.sc (.ptr 0 0))) (.t 19), none⟩,
  ⟨(some 21), .load none (.t 20), none⟩,
  ⟨(some 6), .move (.t 21), none⟩]
def m44_r6 : List MI := [
  ⟨(some 22), .move (.t 6), none⟩,
  ⟨(some 23), .bin .geq .no (.t 22) (.k (.sc (.int .u8 240))), none⟩]
def m44_r7 : List MI := [
  ⟨(some 24), .move (.t 6), none⟩,
  ⟨(some 25), .conv (.int .i32) (.t 24), none⟩,
  ⟨(some 26), .bin .shl .no (.t 25) (.k (.sc (.int .u64 31))), none⟩,
  ⟨(some 27), .bin .shr .no (.t 26) (.k (.sc (.int .u64 31))), none⟩,
  ⟨(some 7), .move (.t 27), none⟩]
def m44_r8 : List MI := [
  ⟨(some 28), .move (.t 0), none⟩,
  ⟨(some 29), .idxStr (.t 28) (.k (.sc (.int .i64 0))), none⟩,
  ⟨(some 30), .conv (.int .i32) (.t 29), none⟩,
  ⟨(some 31), .move (.t 7), none⟩,
  ⟨(some 32), .bin .andNot .no (.t 30) (.t 31), none⟩,
  ⟨(some 33), .move (.t 7), none⟩,
  ⟨(some 34), .bin .and .no (.k (.sc (.int .i32 65533))) (.t 33), none⟩,
  ⟨(some 35), .bin .or .no (.t 32) (.t 34), none⟩,
  ⟨(some 2), .move (.t 35), none⟩,
  ⟨(some 3), .move (.k (.sc (.int .i64 1))), none⟩]
def m44_r9 : List MI := [
  ⟨(some 36), .move (.t 6), none⟩,
  ⟨(some 37), .bin .and .no (.t 36) (.k (.sc (.int .u8 7))), none⟩,
  ⟨(some 38), .conv (.int .i64) (.t 37), none⟩,
  ⟨(some 8), .move (.t 38), none⟩]
def m44_r10 : List MI := [
  ⟨(some 39), .move (.t 6), none⟩,
  ⟨(some 40), .bin .shr .no (.t 39) (.k (.sc (.int .u64 4))), none⟩,
  ⟨(some 41), .indexArr 16 2 (.k (.sc (.ptr 1 0))) (.t 40), none⟩,
  ⟨(some 42), .load (some 2) (.t 41), none⟩,
  ⟨(some 9), .alloc 88 [.int .u8 0, .int .u8 0], none⟩,
  ⟨none, .store 2 (.t 9) (.t 42), none⟩]
def m44_r11 : List MI := [
  ⟨(some 43), .move (.t 4), none⟩,
  ⟨(some 44), .move (.t 8), none⟩,
  ⟨(some 45), .bin .lss .no (.t 43) (.t 44), none⟩]
def m44_r12 : List MI := [
  ⟨(some 2), .move (.k (.sc (.int .i32 65533))), none⟩,
  ⟨(some 3), .move (.k (.sc (.int .i64 1))), none⟩]
def m44_r13 : List MI := [
  ⟨(some 46), .move (.t 0), none⟩,
  ⟨(some 47), .idxStr (.t 46) (.k (.sc (.int .i64 1))), none⟩,
  ⟨(some 10), .move (.t 47), none⟩]
def m44_r14 : List MI := [
  ⟨(some 48), .move (.t 10), none⟩,
  ⟨(some 49), .fieldAddr 0 (.t 9), none⟩,
  ⟨(some 50), .load none (.t 49), none⟩,
  ⟨(some 51), .bin .lss .no (.t 48) (.t 50), none⟩,
  ⟨(some 52), .move (.t 51), none⟩,
  ⟨(some 53), .fieldAddr 1 (.t 9), (some (52, false))⟩,
  ⟨(some 54), .load none (.t 53), (some (52, false))⟩,
  ⟨(some 55), .move (.t 10), (some (52, false))⟩,
  ⟨(some 56), .bin .lss .no (.t 54) (.t 55), (some (52, false))⟩,
  ⟨(some 57), .pick (.t 52) (.k (.sc (.bool true))) (.t 56), none⟩]
def m44_r15 : List MI := [
  ⟨(some 2), .move (.k (.sc (.int .i32 65533))), none⟩,
  ⟨(some 3), .move (.k (.sc (.int .i64 1))), none⟩]
def m44_r16 : List MI := [
  ⟨(some 58), .move (.t 8), none⟩,
  ⟨(some 59), .bin .leq .no (.t 58) (.k (.sc (.int .i64 2))), none⟩]
def m44_r17 : List MI := [
  ⟨(some 60), .move (.t 5), none⟩,
  ⟨(some 61), .bin .and .no (.t 60) (.k (.sc (.int .u8 31))), none⟩,
  ⟨(some 62), .conv (.int .i32) (.t 61), none⟩,
  ⟨(some 63), .bin .shl .no (.t 62) (.k (.sc (.int .u64 6))), none⟩,
  ⟨(some 64), .move (.t 10), none⟩,
  ⟨(some 65), .bin .and .no (.t 64) (.k (.sc (.int .u8 63))), none⟩,
  ⟨(some 66), .conv (.int .i32) (.t 65), none⟩,
  ⟨(some 67), .bin .or .no (.t 63) (.t 66), none⟩,
  ⟨(some 2), .move (.t 67), none⟩,
  ⟨(some 3), .move (.k (.sc (.int .i64 2))), none⟩]
def m44_r18 : List MI := [
  ⟨(some 68), .move (.t 0), none⟩,
  ⟨(some 69), .idxStr (.t 68) (.k (.sc (.int .i64 2))), none⟩,
  ⟨(some 11), .move (.t 69), none⟩]
def m44_r19 : List MI := [
  ⟨(some 70), .move (.t 11), none⟩,
  ⟨(some 71), .bin .lss .no (.t 70) (.k (.sc (.int .u8 128))), none⟩,
  ⟨(some 72), .move (.t 71), none⟩,
  ⟨(some 73), .move (.t 11), (some (72, false))⟩,
  ⟨(some 74), .bin .lss .no (.k (.sc (.int .u8 191))) (.t 73), (some (72, false))⟩,
  ⟨(some 75), .pick (.t 72) (.k (.sc (.bool true))) (.t 74), none⟩]
def m44_r20 : List MI := [
  ⟨(some 2), .move (.k (.sc (.int .i32 65533))), none⟩,
  ⟨(some 3), .move (.k (.sc (.int .i64 1))), none⟩]
def m44_r21 : List MI := [
  ⟨(some 76), .move (.t 8), none⟩,
  ⟨(some 77), .bin .leq .no (.t 76) (.k (.sc (.int .i64 3))), none⟩]
def m44_r22 : List MI := [
  ⟨(some 78), .move (.t 5), none⟩,
  ⟨(some 79), .bin .and .no (.t 78) (.k (.sc (.int .u8 15))), none⟩,
  ⟨(some 80), .conv (.int .i32) (.t 79), none⟩,
  ⟨(some 81), .bin .shl .no (.t 80) (.k (.sc (.int .u64 12))), none⟩,
  ⟨(some 82), .move (.t 10), none⟩,
  ⟨(some 83), .bin .and .no (.t 82) (.k (.sc (.int .u8 63))), none⟩,
  ⟨(some 84), .conv (.int .i32) (.t 83), none⟩,
  ⟨(some 85), .bin .shl .no (.t 84) (.k (.sc (.int .u64 6))), none⟩,
  ⟨(some 86), .bin .or .no (.t 81) (.t 85), none⟩,
  ⟨(some 87), .move (.t 11), none⟩,
  ⟨(some 88), .bin .and .no (.t 87) (.k (.sc (.int .u8 63))), none⟩,
  ⟨(some 89), .conv (.int .i32) (.t 88), none⟩,
  ⟨(some 90), .bin .or .no (.t 86) (.t 89), none⟩,
  ⟨(some 2), .move (.t 90), none⟩,
  ⟨(some 3), .move (.k (.sc (.int .i64 3))), none⟩]
def m44_r23 : List MI := [
  ⟨(some 91), .move (.t 0), none⟩,
  ⟨(some 92), .idxStr (.t 91) (.k (.sc (.int .i64 3))), none⟩,
  ⟨(some 12), .move (.t 92), none⟩]
def m44_r24 : List MI := [
  ⟨(some 93), .move (.t 12), none⟩,
  ⟨(some 94), .bin .lss .no (.t 93) (.k (.sc (.int .u8 128))), none⟩,
  ⟨(some 95), .move (.t 94), none⟩,
  ⟨(some 96), .move (.t 12), (some (95, false))⟩,
  ⟨(some 97), .bin .lss .no (.k (.sc (.int .u8 191))) (.t 96), (some (95, false))⟩,
  ⟨(some 98), .pick (.t 95) (.k (.sc (.bool true))) (.t 97), none⟩]
def m44_r25 : List MI := [
  ⟨(some 2), .move (.k (.sc (.int .i32 65533))), none⟩,
  ⟨(some 3), .move (.k (.sc (.int .i64 1))), none⟩]
def m44_r26 : List MI := [
  ⟨(some 99), .move (.t 5), none⟩,
  ⟨(some 100), .bin .and .no (.t 99) (.k (.sc (.int .u8 7))), none⟩,
  ⟨(some 101), .conv (.int .i32) (.t 100), none⟩,
  ⟨(some 102), .bin .shl .no (.t 101) (.k (.sc (.int .u64 18))), none⟩,
  ⟨(some 103), .move (.t 10), none⟩,
  ⟨(some 104), .bin .and .no (.t 103) (.k (.sc (.int .u8 63))), none⟩,
  ⟨(some 105), .conv (.int .i32) (.t 104), none⟩,
  ⟨(some 106), .bin .shl .no (.t 105) (.k (.sc (.int .u64 12))), none⟩,
  ⟨(some 107), .bin .or .no (.t 102) (.t 106), none⟩,
  ⟨(some 108), .move (.t 11), none⟩,
  ⟨(some 109), .bin .and .no (.t 108) (.k (.sc (.int .u8 63))), none⟩,
  ⟨(some 110), .conv (.int .i32) (.t 109), none⟩,
  ⟨(some 111), .bin .shl .no (.t 110) (.k (.sc (.int .u64 6))), none⟩,
  ⟨(some 112), .bin .or .no (.t 107) (.t 111), none⟩,
  ⟨(some 113), .move (.t 12), none⟩,
  ⟨(some 114), .bin .and .no (.t 113) (.k (.sc (.int .u8 63))), none⟩,
  ⟨(some 115), .conv (.int .i32) (.t 114), none⟩,
  ⟨(some 116), .bin .or .no (.t 112) (.t 115), none⟩,
  ⟨(some 2), .move (.t 116), none⟩,
  ⟨(some 3), .move (.k (.sc (.int .i64 4))), none⟩]
def m44_code : MCode := (.seq (.ops m44_r0) (.seq (.ops m44_r1) (.seq (.seq (.ops m44_r2) (.cond (.t 16) (.seq (.ops m44_r3) .ret) .skip)) (.seq (.ops m44_r4) (.seq (.ops m44_r5) (.seq (.seq (.ops m44_r6) (.cond (.t 23) (.seq (.ops m44_r7) (.seq (.ops m44_r8) .ret)) .skip)) (.seq (.ops m44_r9) (.seq (.ops m44_r10) (.seq (.seq (.ops m44_r11) (.cond (.t 45) (.seq (.ops m44_r12) .ret) .skip)) (.seq (.ops m44_r13) (.seq (.seq (.ops m44_r14) (.cond (.t 57) (.seq (.ops m44_r15) .ret) .skip)) (.seq (.seq (.ops m44_r16) (.cond (.t 59) (.seq (.ops m44_r17) .ret) .skip)) (.seq (.ops m44_r18) (.seq (.seq (.ops m44_r19) (.cond (.t 75) (.seq (.ops m44_r20) .ret) .skip)) (.seq (.seq (.ops m44_r21) (.cond (.t 77) (.seq (.ops m44_r22) .ret) .skip)) (.seq (.ops m44_r23) (.seq (.seq (.ops m44_r24) (.cond (.t 98) (.seq (.ops m44_r25) .ret) .skip)) (.seq (.ops m44_r26) .ret))))))))))))))))))
def m44 : MFunc := ⟨117, [.tmp 2, .tmp 3], m44_code⟩

def m45_r0 : List MI := [
  ⟨(some 4), .move (.k (.sc (.int .i64 0))), none⟩]
def m45_r1 : List MI := [
  ⟨(some 5), .move (.t 0), none⟩,
  ⟨(some 6), .move (.t 1), none⟩,
  ⟨(some 7), .call 49 [(.t 5), (.t 6)], none⟩,
  ⟨(some 4), .move (.t 7), none⟩]
def m45_code : MCode := (.seq (.ops m45_r0) (.seq (.ops m45_r1) .ret))
def m45 : MFunc := ⟨8, [.tmp 4], m45_code⟩

def m46_r0 : List MI := [
  ⟨(some 2), .move (.k (.sc (.bool false))), none⟩]
def m46_r1 : List MI := [
  ⟨(some 4), .move (.t 0), none⟩,
  ⟨(some 5), .bin .leq .no (.k (.sc (.int .i32 0))) (.t 4), none⟩,
  ⟨(some 6), .move (.t 5), none⟩,
  ⟨(some 7), .move (.t 0), (some (6, true))⟩,
  ⟨(some 8), .bin .lss .no (.t 7) (.k (.sc (.int .i32 55296))), (some (6, true))⟩,
  ⟨(some 9), .pick (.t 6) (.t 8) (.k (.sc (.bool false))), none⟩,
  ⟨(some 3), .move (.t 9), none⟩]
def m46_r2 : List MI := [
  ⟨(some 2), .move (.k (.sc (.bool true))), none⟩]
def m46_r3 : List MI := [
  ⟨(some 11), .move (.t 0), none⟩,
  ⟨(some 12), .bin .lss .no (.k (.sc (.int .i32 57343))) (.t 11), none⟩,
  ⟨(some 13), .move (.t 12), none⟩,
  ⟨(some 14), .move (.t 0), (some (13, true))⟩,
  ⟨(some 15), .bin .leq .no (.t 14) (.k (.sc (.int .i32 1114111))), (some (13, true))⟩,
  ⟨(some 16), .pick (.t 13) (.t 15) (.k (.sc (.bool false))), none⟩,
  ⟨(some 10), .move (.t 16), none⟩]
def m46_r4 : List MI := [
  ⟨(some 2), .move (.k (.sc (.bool true))), none⟩]
def m46_r5 : List MI := [
  ⟨(some 2), .move (.k (.sc (.bool false))), none⟩]
def m46_code : MCode := (.seq (.ops m46_r0) (.seq (.block 0 (.seq (.ops m46_r1) (.cond (.t 3) (.seq (.ops m46_r2) .ret) (.seq (.ops m46_r3) (.cond (.t 10) (.seq (.ops m46_r4) .ret) .skip))))) (.seq (.ops m46_r5) .ret)))
def m46 : MFunc := ⟨17, [.tmp 2], m46_code⟩

def m47_r0 : List MI := [
  ⟨(some 2), .move (.k (.sc (.int .i64 0))), none⟩]
def m47_r1 : List MI := [
  ⟨(some 3), .move (.t 0), none⟩,
  ⟨(some 4), .bin .add .no (.t 3) (.k (.sc (.int .i64 16))), none⟩,
  ⟨(some 5), .bin .quo .no (.t 4) (.k (.sc (.int .i64 8))), none⟩,
  ⟨(some 2), .move (.t 5), none⟩]
def m47_code : MCode := (.seq (.ops m47_r0) (.seq (.ops m47_r1) .ret))
def m47 : MFunc := ⟨6, [.tmp 2], m47_code⟩

def m49_r0 : List MI := [
  ⟨(some 4), .move (.k (.sc (.int .i64 0))), none⟩]
def m49_r1 : List MI := [
  ⟨(some 5), .move (.t 0), none⟩,
  ⟨(some 6), .move (.t 1), none⟩,
  ⟨(some 7), .indexByte (.t 5) (.t 6), none⟩,
  ⟨(some 4), .move (.t 7), none⟩]
def m49_code : MCode := (.seq (.ops m49_r0) (.seq (.ops m49_r1) .ret))
def m49 : MFunc := ⟨8, [.tmp 4], m49_code⟩

def DD0 : Nat → Option MFunc := fun f => match f with
  | 3 => some m3
  | 4 => some m4
  | 5 => some m5
  | 6 => some m6
  | 7 => some m7
  | 8 => some m8
  | 9 => some m9
  | 10 => some m10
  | 11 => some m11
  | 12 => some m12
  | 13 => some m13
  | 14 => some m14
  | 15 => some m15
  | 16 => some m16
  | 17 => some m17
  | 18 => some m18
  | 19 => some m19
  | 20 => some m20
  | 21 => some m21
  | 22 => some m22
  | 23 => some m23
  | 24 => some m24
  | 25 => some m25
  | 26 => some m26
  | 27 => some m27
  | 28 => some m28
  | 29 => some m29
  | 30 => some m30
  | 31 => some m31
  | 32 => some m32
  | 33 => some m33
  | 34 => some m34
  | 35 => some m35
  | 37 => some m37
  | 38 => some m38
  | 39 => some m39
  | 40 => some m40
  | 41 => some m41
  | 42 => some m42
  | 43 => some m43
  | 44 => some m44
  | 45 => some m45
  | 46 => some m46
  | 47 => some m47
  | 49 => some m49
  | _ => none
def DD : Nat → Option MFunc := withKnown [7] DD0
theorem c3 : mfun Tryd.prog jxX 3 = some m3 := by kernel_rfl
theorem c4 : mfun Tryd.prog jxX 4 = some m4 := by kernel_rfl
theorem c5 : mfun Tryd.prog jxX 5 = some m5 := by kernel_rfl
theorem c6 : mfun Tryd.prog jxX 6 = some m6 := by kernel_rfl
theorem c7 : mfun Tryd.prog jxX 7 = some m7 := by kernel_rfl
theorem c8 : mfun Tryd.prog jxX 8 = some m8 := by kernel_rfl
theorem c9 : mfun Tryd.prog jxX 9 = some m9 := by kernel_rfl
theorem c10 : mfun Tryd.prog jxX 10 = some m10 := by kernel_rfl
theorem c11 : mfun Tryd.prog jxX 11 = some m11 := by kernel_rfl
theorem c12 : mfun Tryd.prog jxX 12 = some m12 := by kernel_rfl
theorem c13 : mfun Tryd.prog jxX 13 = some m13 := by kernel_rfl
theorem c14 : mfun Tryd.prog jxX 14 = some m14 := by kernel_rfl
theorem c15 : mfun Tryd.prog jxX 15 = some m15 := by kernel_rfl
theorem c16 : mfun Tryd.prog jxX 16 = some m16 := by kernel_rfl
theorem c17 : mfun Tryd.prog jxX 17 = some m17 := by kernel_rfl
theorem c18 : mfun Tryd.prog jxX 18 = some m18 := by kernel_rfl
theorem c19 : mfun Tryd.prog jxX 19 = some m19 := by kernel_rfl
theorem c20 : mfun Tryd.prog jxX 20 = some m20 := by kernel_rfl
theorem c21 : mfun Tryd.prog jxX 21 = some m21 := by kernel_rfl
theorem c22 : mfun Tryd.prog jxX 22 = some m22 := by kernel_rfl
theorem c23 : mfun Tryd.prog jxX 23 = some m23 := by kernel_rfl
theorem c24 : mfun Tryd.prog jxX 24 = some m24 := by kernel_rfl
theorem c25 : mfun Tryd.prog jxX 25 = some m25 := by kernel_rfl
theorem c26 : mfun Tryd.prog jxX 26 = some m26 := by kernel_rfl
theorem c27 : mfun Tryd.prog jxX 27 = some m27 := by kernel_rfl
theorem c28 : mfun Tryd.prog jxX 28 = some m28 := by kernel_rfl
theorem c29 : mfun Tryd.prog jxX 29 = some m29 := by kernel_rfl
theorem c30 : mfun Tryd.prog jxX 30 = some m30 := by kernel_rfl
theorem c31 : mfun Tryd.prog jxX 31 = some m31 := by kernel_rfl
theorem c32 : mfun Tryd.prog jxX 32 = some m32 := by kernel_rfl
theorem c33 : mfun Tryd.prog jxX 33 = some m33 := by kernel_rfl
theorem c34 : mfun Tryd.prog jxX 34 = some m34 := by kernel_rfl
theorem c35 : mfun Tryd.prog jxX 35 = some m35 := by kernel_rfl
theorem c37 : mfun Tryd.prog jxX 37 = some m37 := by kernel_rfl
theorem c38 : mfun Tryd.prog jxX 38 = some m38 := by kernel_rfl
theorem c39 : mfun Tryd.prog jxX 39 = some m39 := by kernel_rfl
theorem c40 : mfun Tryd.prog jxX 40 = some m40 := by kernel_rfl
theorem c41 : mfun Tryd.prog jxX 41 = some m41 := by kernel_rfl
theorem c42 : mfun Tryd.prog jxX 42 = some m42 := by kernel_rfl
theorem c43 : mfun Tryd.prog jxX 43 = some m43 := by kernel_rfl
theorem c44 : mfun Tryd.prog jxX 44 = some m44 := by kernel_rfl
theorem c45 : mfun Tryd.prog jxX 45 = some m45 := by kernel_rfl
theorem c46 : mfun Tryd.prog jxX 46 = some m46 := by kernel_rfl
theorem c47 : mfun Tryd.prog jxX 47 = some m47 := by kernel_rfl
theorem c49 : mfun Tryd.prog jxX 49 = some m49 := by kernel_rfl
theorem d3 : DD 3 = some m3 := rfl
theorem d4 : DD 4 = some m4 := rfl
theorem d5 : DD 5 = some m5 := rfl
theorem d6 : DD 6 = some m6 := rfl
theorem d7 : DD 7 = some knownM := rfl
theorem d8 : DD 8 = some m8 := rfl
theorem d9 : DD 9 = some m9 := rfl
theorem d10 : DD 10 = some m10 := rfl
theorem d11 : DD 11 = some m11 := rfl
theorem d12 : DD 12 = some m12 := rfl
theorem d13 : DD 13 = some m13 := rfl
theorem d14 : DD 14 = some m14 := rfl
theorem d15 : DD 15 = some m15 := rfl
theorem d16 : DD 16 = some m16 := rfl
theorem d17 : DD 17 = some m17 := rfl
theorem d18 : DD 18 = some m18 := rfl
theorem d19 : DD 19 = some m19 := rfl
theorem d20 : DD 20 = some m20 := rfl
theorem d21 : DD 21 = some m21 := rfl
theorem d22 : DD 22 = some m22 := rfl
theorem d23 : DD 23 = some m23 := rfl
theorem d24 : DD 24 = some m24 := rfl
theorem d25 : DD 25 = some m25 := rfl
theorem d26 : DD 26 = some m26 := rfl
theorem d27 : DD 27 = some m27 := rfl
theorem d28 : DD 28 = some m28 := rfl
theorem d29 : DD 29 = some m29 := rfl
theorem d30 : DD 30 = some m30 := rfl
theorem d31 : DD 31 = some m31 := rfl
theorem d32 : DD 32 = some m32 := rfl
theorem d33 : DD 33 = some m33 := rfl
theorem d34 : DD 34 = some m34 := rfl
theorem d35 : DD 35 = some m35 := rfl
theorem d37 : DD 37 = some m37 := rfl
theorem d38 : DD 38 = some m38 := rfl
theorem d39 : DD 39 = some m39 := rfl
theorem d40 : DD 40 = some m40 := rfl
theorem d41 : DD 41 = some m41 := rfl
theorem d42 : DD 42 = some m42 := rfl
theorem d43 : DD 43 = some m43 := rfl
theorem d44 : DD 44 = some m44 := rfl
theorem d45 : DD 45 = some m45 := rfl
theorem d46 : DD 46 = some m46 := rfl
theorem d47 : DD 47 = some m47 := rfl
theorem d49 : DD 49 = some m49 := rfl
theorem DD0_ok (w : World) : FunOk Tryd.prog w jxX DD0 := by
  intro f m h
  refine mfun_ok _ w _ f m ?_
  unfold DD0 at h
  split at h
  · cases h; exact c3
  · cases h; exact c4
  · cases h; exact c5
  · cases h; exact c6
  · cases h; exact c7
  · cases h; exact c8
  · cases h; exact c9
  · cases h; exact c10
  · cases h; exact c11
  · cases h; exact c12
  · cases h; exact c13
  · cases h; exact c14
  · cases h; exact c15
  · cases h; exact c16
  · cases h; exact c17
  · cases h; exact c18
  · cases h; exact c19
  · cases h; exact c20
  · cases h; exact c21
  · cases h; exact c22
  · cases h; exact c23
  · cases h; exact c24
  · cases h; exact c25
  · cases h; exact c26
  · cases h; exact c27
  · cases h; exact c28
  · cases h; exact c29
  · cases h; exact c30
  · cases h; exact c31
  · cases h; exact c32
  · cases h; exact c33
  · cases h; exact c34
  · cases h; exact c35
  · cases h; exact c37
  · cases h; exact c38
  · cases h; exact c39
  · cases h; exact c40
  · cases h; exact c41
  · cases h; exact c42
  · cases h; exact c43
  · cases h; exact c44
  · cases h; exact c45
  · cases h; exact c46
  · cases h; exact c47
  · cases h; exact c49
  · cases h
end Go.Proofs.YtkmhbkanbbcgnaaDoor
