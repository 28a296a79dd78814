/- Reading characters, plainly: the program's reader with its bounds, and the document's, shape by shape, tell the same. -/
import Derived.Test.YtcgfcnbcfcllpaaJxE05
set_option linter.unusedSimpArgs false
set_option linter.unusedVariables false
set_option maxHeartbeats 1000000
set_option maxRecDepth 100000
namespace Go.Proofs.Ytcgfcnbcfcllpaa
open Go Go.Jx

structure Dec where
  kept : Int
  left : Int
  low : Int
  high : Int
  x : Int

def dec0 : Dec := ⟨0, 0, 0, 0, 0⟩

/-- What a first byte says. -/
def beginsL (b : Int) : Int × Int × Int × Int :=
  if b < 128 then (0, 0, 0, b) else if b < 194 ∨ 244 < b then (-1, 0, 0, 0) else if b < 224 then (1, 128, 191, b % 32) else if b = 224 then (2, 160, 191, 0)
  else if b = 237 then (2, 128, 159, b % 16) else if b < 240 then (2, 128, 191, b % 16) else if b = 240 then (3, 144, 191, 0) else if b = 244 then (3, 128, 143, b % 8) else (3, 128, 191, b % 8)

def firstL (d : Dec) (b : Int) : Dec × List Int :=
  if (beginsL b).1 < 0 then (d, [65533]) else if (beginsL b).1 = 0 then (d, [(beginsL b).2.2.2])
  else (⟨1, (beginsL b).1, (beginsL b).2.1, (beginsL b).2.2.1, (beginsL b).2.2.2⟩, [])

def byteL (d : Dec) (b : Int) : Dec × List Int :=
  if 0 < d.kept ∧ d.low ≤ b ∧ b ≤ d.high then
    (if d.left - 1 = 0 then (dec0, [d.x * 64 + b % 64]) else (⟨d.kept + 1, d.left - 1, 128, 191, d.x * 64 + b % 64⟩, []))
  else if 0 < d.kept then ((firstL dec0 b).1, 65533 :: (firstL dec0 b).2)
  else firstL d b

abbrev Shp := List (Int × Int)
def shapesL : List Shp :=
  [[(0, 127)], [(194, 223), (128, 191)], [(224, 224), (160, 191), (128, 191)], [(225, 236), (128, 191), (128, 191)], [(237, 237), (128, 159), (128, 191)], [(238, 239), (128, 191), (128, 191)],
   [(240, 240), (144, 191), (128, 191), (128, 191)], [(241, 243), (128, 191), (128, 191), (128, 191)], [(244, 244), (128, 143), (128, 191), (128, 191)]]
/-- Bytes fit the shape, as far as they go. -/
def fitL : List Int → Shp → Bool
  | [], _ => true
  | _ :: _, [] => false
  | b :: s, p :: r => decide (p.1 ≤ b ∧ b ≤ p.2) && fitL s r
def scanS (s : List Int) : List Shp → Int
  | [] => 0
  | p :: r => if fitL s p then (if s.length = p.length then 2 else 1) else scanS s r
def beginsR (s : List Int) : Int := scanS s shapesL

def numGo (x : Int) : List Int → Int
  | [] => x
  | b :: s => numGo (64 * x + b % 64) s
def numL : List Int → Int
  | [] => 0
  | b :: s => numGo (if s.length = 1 then b % 32 else if s.length = 2 then b % 16 else if s.length = 3 then b % 8 else b) s

def lastR (out : List Int) (s : List Int) : List Int × List Int :=
  if beginsR s = 0 then ([], out ++ [65533]) else if beginsR s = 1 then (s, out) else ([], out ++ [numL s])
def byteR (s : List Int) (b : Int) : List Int × List Int :=
  if s ≠ [] ∧ beginsR (s ++ [b]) = 0 then lastR [65533] [b] else lastR [] (s ++ [b])

/-- The two states say the same. -/
def Same (d : Dec) (s : List Int) : Prop :=
  (s = [] ∧ d = dec0) ∨
  (∃ b0, s = [b0] ∧ 194 ≤ b0 ∧ b0 ≤ 244 ∧ d = ⟨1, (beginsL b0).1, (beginsL b0).2.1, (beginsL b0).2.2.1, (beginsL b0).2.2.2⟩) ∨
  (∃ b0 b1, s = [b0, b1] ∧ 224 ≤ b0 ∧ b0 ≤ 244 ∧ (beginsL b0).2.1 ≤ b1 ∧ b1 ≤ (beginsL b0).2.2.1 ∧ d = ⟨2, (beginsL b0).1 - 1, 128, 191, (beginsL b0).2.2.2 * 64 + b1 % 64⟩) ∨
  (∃ b0 b1 b2, s = [b0, b1, b2] ∧ 240 ≤ b0 ∧ b0 ≤ 244 ∧ (beginsL b0).2.1 ≤ b1 ∧ b1 ≤ (beginsL b0).2.2.1 ∧ 128 ≤ b2 ∧ b2 ≤ 191 ∧ d = ⟨3, 1, 128, 191, ((beginsL b0).2.2.2 * 64 + b1 % 64) * 64 + b2 % 64⟩)

theorem Same.kept {d : Dec} {s : List Int} (h : Same d s) : d.kept = s.length := by
  rcases h with ⟨rfl, rfl⟩ | ⟨b0, rfl, _, _, rfl⟩ | ⟨b0, b1, rfl, _, _, _, _, rfl⟩ | ⟨b0, b1, b2, rfl, _, _, _, _, _, _, rfl⟩ <;> rfl

theorem range6 {b : Int} (h : 194 ≤ b ∧ b ≤ 244) : (b < 224 ∧ beginsL b = (1, 128, 191, b % 32)) ∨ (b = 224 ∧ beginsL b = (2, 160, 191, 0)) ∨ (b = 237 ∧ beginsL b = (2, 128, 159, 13)) ∨ (224 < b ∧ b < 240 ∧ b ≠ 237 ∧ beginsL b = (2, 128, 191, b % 16)) ∨
    (b = 240 ∧ beginsL b = (3, 144, 191, 0)) ∨ (b = 244 ∧ beginsL b = (3, 128, 143, 4)) ∨ (240 < b ∧ b < 244 ∧ beginsL b = (3, 128, 191, b % 8)) := by
  by_cases h1 : b < 224
  · left; refine ⟨h1, ?_⟩; unfold beginsL; rw [if_neg (by omega), if_neg (by omega), if_pos h1]
  · by_cases h2 : b = 224
    · right; left; subst h2; exact ⟨rfl, by decide⟩
    · by_cases h3 : b = 237
      · right; right; left; subst h3; exact ⟨rfl, by decide⟩
      · by_cases h4 : b < 240
        · right; right; right; left; refine ⟨by omega, h4, h3, ?_⟩; unfold beginsL; rw [if_neg (by omega), if_neg (by omega), if_neg h1, if_neg h2, if_neg h3, if_pos h4]
        · by_cases h5 : b = 240
          · right; right; right; right; left; subst h5; exact ⟨rfl, by decide⟩
          · by_cases h6 : b = 244
            · right; right; right; right; right; left; subst h6; exact ⟨rfl, by decide⟩
            · right; right; right; right; right; right; refine ⟨by omega, by omega, ?_⟩; unfold beginsL; rw [if_neg (by omega), if_neg (by omega), if_neg h1, if_neg h2, if_neg h3, if_neg h4, if_neg h5, if_neg h6]

theorem first_same {b : Int} (hb : 0 ≤ b ∧ b < 256) (out : List Int) : Same (firstL dec0 b).1 (lastR out [b]).1 ∧ (lastR out [b]).2 = out ++ (firstL dec0 b).2 := by
  by_cases h1 : b < 128
  · have e1 : beginsL b = (0, 0, 0, b) := by unfold beginsL; rw [if_pos h1]
    have e2 : beginsR [b] = 2 := by simp [beginsR, scanS, shapesL, fitL]; omega
    simp [firstL, lastR, e1, e2, Same, numL, numGo]
  · by_cases h2 : b < 194 ∨ 244 < b
    · have e1 : beginsL b = (-1, 0, 0, 0) := by unfold beginsL; rw [if_neg h1, if_pos h2]
      have e2 : beginsR [b] = 0 := by simp [beginsR, scanS, shapesL, fitL]; omega
      simp [firstL, lastR, e1, e2, Same]
    · have e2 : beginsR [b] = 1 := by simp [beginsR, scanS, shapesL, fitL]; omega
      have hp : 0 < (beginsL b).1 := by rcases range6 (b := b) (by omega) with ⟨_, h⟩ | ⟨_, h⟩ | ⟨_, h⟩ | ⟨_, _, _, h⟩ | ⟨_, h⟩ | ⟨_, h⟩ | ⟨_, _, h⟩ <;> rw [h] <;> simp
      have e3 : firstL dec0 b = (⟨1, (beginsL b).1, (beginsL b).2.1, (beginsL b).2.2.1, (beginsL b).2.2.2⟩, []) := by unfold firstL; rw [if_neg (by omega), if_neg (by omega)]
      have e4 : lastR out [b] = ([b], out) := by unfold lastR; rw [e2]; rfl
      rw [e3, e4]
      exact ⟨.inr (.inl ⟨b, rfl, by omega, by omega, rfl⟩), by simp⟩

theorem begins2 {b0 b : Int} (h : 194 ≤ b0 ∧ b0 ≤ 244) : beginsR [b0, b] = if (beginsL b0).2.1 ≤ b ∧ b ≤ (beginsL b0).2.2.1 then (if (beginsL b0).1 = 1 then 2 else 1) else 0 := by
  rcases range6 h with ⟨h1, e⟩ | ⟨h1, e⟩ | ⟨h1, e⟩ | ⟨h1, h2, h3, e⟩ | ⟨h1, e⟩ | ⟨h1, e⟩ | ⟨h1, h2, e⟩ <;> rw [e] <;> simp only [beginsR, scanS, shapesL, fitL, List.length_cons, List.length_nil, Bool.and_true, Bool.and_eq_true, decide_eq_true_eq, Bool.false_eq_true, and_false, if_false, if_true, Nat.reduceAdd, reduceIte] <;> (repeat' split) <;> first | rfl | (exfalso; omega)
theorem begins3 {b0 b1 b : Int} (h : 224 ≤ b0 ∧ b0 ≤ 244) (hb : (beginsL b0).2.1 ≤ b1 ∧ b1 ≤ (beginsL b0).2.2.1) : beginsR [b0, b1, b] = if 128 ≤ b ∧ b ≤ 191 then (if (beginsL b0).1 = 2 then 2 else 1) else 0 := by
  rcases range6 (b := b0) (by omega) with ⟨h1, e⟩ | ⟨h1, e⟩ | ⟨h1, e⟩ | ⟨h1, h2, h3, e⟩ | ⟨h1, e⟩ | ⟨h1, e⟩ | ⟨h1, h2, e⟩ <;> rw [e] at hb ⊢ <;> simp only at hb <;> simp only [beginsR, scanS, shapesL, fitL, List.length_cons, List.length_nil, Bool.and_true, Bool.and_eq_true, decide_eq_true_eq, Bool.false_eq_true, and_false, if_false, if_true, Nat.reduceAdd, reduceIte] <;> (repeat' split) <;> first | rfl | (exfalso; omega)
theorem begins4 {b0 b1 b2 b : Int} (h : 240 ≤ b0 ∧ b0 ≤ 244) (hb : (beginsL b0).2.1 ≤ b1 ∧ b1 ≤ (beginsL b0).2.2.1) (h2 : 128 ≤ b2 ∧ b2 ≤ 191) : beginsR [b0, b1, b2, b] = if 128 ≤ b ∧ b ≤ 191 then 2 else 0 := by
  rcases range6 (b := b0) (by omega) with ⟨h1, e⟩ | ⟨h1, e⟩ | ⟨h1, e⟩ | ⟨h1, h2, h3, e⟩ | ⟨h1, e⟩ | ⟨h1, e⟩ | ⟨h1, h2, e⟩ <;> rw [e] at hb <;> simp only at hb <;> simp only [beginsR, scanS, shapesL, fitL, List.length_cons, List.length_nil, Bool.and_true, Bool.and_eq_true, decide_eq_true_eq, Bool.false_eq_true, and_false, if_false, if_true, Nat.reduceAdd, reduceIte] <;> (repeat' split) <;> first | rfl | (exfalso; omega)

theorem byte_same {d : Dec} {s : List Int} {b : Int} (h : Same d s) (hb : 0 ≤ b ∧ b < 256) : Same (byteL d b).1 (byteR s b).1 ∧ (byteR s b).2 = (byteL d b).2 := by
  rcases h with ⟨rfl, rfl⟩ | ⟨b0, rfl, h1, h2, rfl⟩ | ⟨b0, b1, rfl, h1, h2, h3, h4, rfl⟩ | ⟨b0, b1, b2, rfl, h1, h2, h3, h4, h5, h6, rfl⟩
  · have e1 : byteL dec0 b = firstL dec0 b := by unfold byteL; rw [if_neg (by simp [dec0]), if_neg (by simp [dec0])]
    have e2 : byteR [] b = lastR [] [b] := by unfold byteR; rw [if_neg (by simp)]; rfl
    rw [e1, e2]
    have := first_same hb []
    simpa using this
  · have hg := begins2 (b0 := b0) (b := b) ⟨h1, h2⟩
    have hl : 0 < (beginsL b0).1 := by rcases range6 (b := b0) ⟨h1, h2⟩ with ⟨_, h⟩ | ⟨_, h⟩ | ⟨_, h⟩ | ⟨_, _, _, h⟩ | ⟨_, h⟩ | ⟨_, h⟩ | ⟨_, _, h⟩ <;> rw [h] <;> simp
    by_cases hin : (beginsL b0).2.1 ≤ b ∧ b ≤ (beginsL b0).2.2.1
    · rw [if_pos hin] at hg
      have e2 : byteR [b0] b = lastR [] [b0, b] := by unfold byteR; rw [if_neg (by rintro ⟨-, hz⟩; rw [show [b0] ++ [b] = [b0, b] from rfl, hg] at hz; split at hz <;> simp at hz)]; rfl
      rw [e2]
      by_cases hone : (beginsL b0).1 = 1
      · rw [if_pos hone] at hg
        have hx : (beginsL b0).2.2.2 = b0 % 32 := by rcases range6 (b := b0) ⟨h1, h2⟩ with ⟨_, h⟩ | ⟨_, h⟩ | ⟨_, h⟩ | ⟨_, _, _, h⟩ | ⟨_, h⟩ | ⟨_, h⟩ | ⟨_, _, h⟩ <;> rw [h] at hone ⊢ <;> simp at hone ⊢
        simp [byteL, lastR, hg, hin, hone, Same, numL, numGo, hx]
        omega
      · rw [if_neg hone] at hg
        have h224 : 224 ≤ b0 := by rcases range6 (b := b0) ⟨h1, h2⟩ with ⟨_, h⟩ | ⟨_, h⟩ | ⟨_, h⟩ | ⟨_, _, _, h⟩ | ⟨_, h⟩ | ⟨_, h⟩ | ⟨_, _, h⟩ <;> rw [h] at hone <;> simp at hone <;> omega
        have e1 : byteL ⟨1, (beginsL b0).1, (beginsL b0).2.1, (beginsL b0).2.2.1, (beginsL b0).2.2.2⟩ b = (⟨2, (beginsL b0).1 - 1, 128, 191, (beginsL b0).2.2.2 * 64 + b % 64⟩, []) := by
          unfold byteL; rw [if_pos ⟨by simp, hin⟩, if_neg (by simp only; omega)]; rfl
        have e3 : lastR [] [b0, b] = ([b0, b], []) := by unfold lastR; rw [hg]; rfl
        rw [e1, e3]
        exact ⟨.inr (.inr (.inl ⟨b0, b, rfl, h224, h2, hin.1, hin.2, rfl⟩)), rfl⟩
    · rw [if_neg hin] at hg
      have e2 : byteR [b0] b = lastR [65533] [b] := by unfold byteR; rw [if_pos ⟨by simp, hg⟩]
      have e1 : byteL ⟨1, (beginsL b0).1, (beginsL b0).2.1, (beginsL b0).2.2.1, (beginsL b0).2.2.2⟩ b = ((firstL dec0 b).1, 65533 :: (firstL dec0 b).2) := by
        unfold byteL; rw [if_neg (fun hh => hin hh.2), if_pos (by simp)]
      rw [e1, e2]
      have := first_same hb [65533]
      simpa using this
  · have hg := begins3 (b0 := b0) (b1 := b1) (b := b) ⟨h1, h2⟩ ⟨h3, h4⟩
    have hl : 2 ≤ (beginsL b0).1 ∧ (beginsL b0).1 ≤ 3 ∧ ((beginsL b0).1 = 2 → (beginsL b0).2.2.2 = b0 % 16) ∧ ((beginsL b0).1 = 3 → (beginsL b0).2.2.2 = b0 % 8 ∧ 240 ≤ b0) := by
      rcases range6 (b := b0) (by omega) with ⟨h, e⟩ | ⟨h, e⟩ | ⟨h, e⟩ | ⟨h, h', h'', e⟩ | ⟨h, e⟩ | ⟨h, e⟩ | ⟨h, h', e⟩ <;> rw [e] <;> simp <;> omega
    by_cases hin : 128 ≤ b ∧ b ≤ 191
    · rw [if_pos hin] at hg
      have e2 : byteR [b0, b1] b = lastR [] [b0, b1, b] := by unfold byteR; rw [if_neg (by rintro ⟨-, hz⟩; rw [show [b0, b1] ++ [b] = [b0, b1, b] from rfl, hg] at hz; split at hz <;> simp at hz)]; rfl
      rw [e2]
      by_cases hone : (beginsL b0).1 = 2
      · rw [if_pos hone] at hg
        have hx := hl.2.2.1 hone
        simp [byteL, lastR, hg, hin, hone, Same, numL, numGo, hx]
        omega
      · rw [if_neg hone] at hg
        have e1 : byteL ⟨2, (beginsL b0).1 - 1, 128, 191, (beginsL b0).2.2.2 * 64 + b1 % 64⟩ b = (⟨3, 1, 128, 191, ((beginsL b0).2.2.2 * 64 + b1 % 64) * 64 + b % 64⟩, []) := by
          unfold byteL; rw [if_pos ⟨by simp, hin⟩, if_neg (by simp only; omega)]; simp only [Prod.mk.injEq, Dec.mk.injEq, and_true]; omega
        have e3 : lastR [] [b0, b1, b] = ([b0, b1, b], []) := by unfold lastR; rw [hg]; rfl
        rw [e1, e3]
        exact ⟨.inr (.inr (.inr ⟨b0, b1, b, rfl, (hl.2.2.2 (by omega)).2, h2, h3, h4, hin.1, hin.2, rfl⟩)), rfl⟩
    · rw [if_neg hin] at hg
      have e2 : byteR [b0, b1] b = lastR [65533] [b] := by unfold byteR; rw [if_pos ⟨by simp, hg⟩]
      have e1 : byteL ⟨2, (beginsL b0).1 - 1, 128, 191, (beginsL b0).2.2.2 * 64 + b1 % 64⟩ b = ((firstL dec0 b).1, 65533 :: (firstL dec0 b).2) := by
        unfold byteL; rw [if_neg (fun hh => hin hh.2), if_pos (by simp)]
      rw [e1, e2]
      have := first_same hb [65533]
      simpa using this
  · have hg := begins4 (b0 := b0) (b1 := b1) (b2 := b2) (b := b) ⟨h1, h2⟩ ⟨h3, h4⟩ ⟨h5, h6⟩
    have hx : (beginsL b0).2.2.2 = b0 % 8 := by
      rcases range6 (b := b0) (by omega) with ⟨h, e⟩ | ⟨h, e⟩ | ⟨h, e⟩ | ⟨h, h', h'', e⟩ | ⟨h, e⟩ | ⟨h, e⟩ | ⟨h, h', e⟩ <;> rw [e] <;> simp <;> omega
    by_cases hin : 128 ≤ b ∧ b ≤ 191
    · rw [if_pos hin] at hg
      have e2 : byteR [b0, b1, b2] b = lastR [] [b0, b1, b2, b] := by unfold byteR; rw [if_neg (by rintro ⟨-, hz⟩; rw [show [b0, b1, b2] ++ [b] = [b0, b1, b2, b] from rfl, hg] at hz; simp at hz)]; rfl
      rw [e2]
      simp [byteL, lastR, hg, hin, Same, numL, numGo, hx]
      omega
    · rw [if_neg hin] at hg
      have e2 : byteR [b0, b1, b2] b = lastR [65533] [b] := by unfold byteR; rw [if_pos ⟨by simp, hg⟩]
      have e1 : byteL ⟨3, 1, 128, 191, ((beginsL b0).2.2.2 * 64 + b1 % 64) * 64 + b2 % 64⟩ b = ((firstL dec0 b).1, 65533 :: (firstL dec0 b).2) := by
        unfold byteL; rw [if_neg (fun hh => hin hh.2), if_pos (by simp)]
      rw [e1, e2]
      have := first_same hb [65533]
      simpa using this
end Go.Proofs.Ytcgfcnbcfcllpaa
