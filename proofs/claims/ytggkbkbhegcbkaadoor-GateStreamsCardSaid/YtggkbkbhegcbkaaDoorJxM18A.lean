import Derived.Test.YtggkbkbhegcbkaaDoorJxE18
import Derived.Test.YtggkbkbhegcbkaaDoorJxW4
import Derived.Test.YtggkbkbhegcbkaaDoorJxW9
import Derived.Test.YtggkbkbhegcbkaaDoorJxC18
/- Reading characters, plainly: the program's reader with its bounds, and the document's, shape by shape, tell the same. -/
set_option linter.unusedSimpArgs false
set_option linter.unusedVariables false
set_option maxHeartbeats 1000000
set_option maxRecDepth 100000
namespace Go.Proofs.YtggkbkbhegcbkaaDoor
open Go Go.Jx

theorem cleanS : (∀ (p : Prop) [Decidable p], (decide p = true) = p) ∧ (∀ (p : Prop) [Decidable p], (decide p = false) = ¬ p) ∧ (∀ {α : Type} [BEq α] [LawfulBEq α] (a b : α), ((a == b) = true) = (a = b)) ∧ (∀ {α : Type} [BEq α] [LawfulBEq α] (a b : α), ((a == b) = false) = (a ≠ b)) ∧
  (∀ {α : Type} [BEq α] [LawfulBEq α] (a b : α), ((a != b) = true) = (a ≠ b)) ∧ (∀ {α : Type} [BEq α] [LawfulBEq α] (a b : α), ((a != b) = false) = (a = b)) ∧ (∀ b : Bool, ((!b) = true) = (b = false)) ∧ (∀ b : Bool, ((!b) = false) = (b = true)) ∧
  (∀ a b : Int, (¬ a < b) = (b ≤ a)) ∧ (∀ a b : Int, (¬ a ≤ b) = (b < a)) ∧ (∀ {α : Type} (a b : α), (a ≠ b) = ¬ (a = b)) ∧ ((¬ True) = False) ∧ ((¬ False) = True) ∧ (∀ (p : Prop) [Decidable p], (¬ ¬ p) = p) := by
  refine ⟨?_, ?_, ?_, ?_, ?_, ?_, ?_, ?_, ?_, ?_, ?_, ?_, ?_, ?_⟩ <;> intros <;> simp
theorem lenS : (∀ {α : Type} (l : List α) (i : Nat) (a : α), (l.set i a).length = l.length) ∧ (∀ {α : Type} (l m : List α), (l ++ m).length = l.length + m.length) ∧ (∀ {α : Type} (n : Nat) (l : List α), (l.take n).length = min n l.length) ∧ (∀ {α : Type} (n : Nat) (l : List α), (l.drop n).length = l.length - n) ∧
  (∀ {α : Type} (n : Nat) (a : α), (List.replicate n a).length = n) ∧ (∀ {α : Type} (a : α) (l : List α), (a :: l).length = l.length + 1) ∧ (∀ {α : Type}, ([] : List α).length = 0) ∧ (∀ {α : Type} (E : El α) (k : Nat) (cs : List SV), (decs E k cs).length = k) ∧ (∀ {α β : Type} (f : α → β) (l : List α), (l.map f).length = l.length) := by
  refine ⟨?_, ?_, ?_, ?_, ?_, ?_, ?_, ?_, ?_⟩ <;> intros <;> simp [decs_length]
theorem setS : (∀ c : Cell, cellE.dec (cellE.enc c) = c) ∧ (∀ c : Attr, attrE.dec (attrE.enc c) = c) ∧ (∀ (a b : Hp) (l : List Hp), (a :: l).set 0 b = b :: l) ∧ (∀ (a b : Hp) (l : List Hp) (n : Nat), (a :: l).set (n + 1) b = a :: l.set n b) ∧ (∀ (a : Hp) (l : List Hp) (n : Nat), (a :: l).eraseIdx (n + 1) = a :: l.eraseIdx n) ∧
  (∀ l : List Hp, l.eraseIdx 0 = l.tail) ∧ (∀ (a : Hp) (l : List Hp), (a :: l).tail = l) ∧ (∀ l : List Hp, [] ++ l = l) ∧ (∀ (a : Hp) (l m : List Hp), (a :: l) ++ m = a :: (l ++ m)) := by
  refine ⟨?_, ?_, ?_, ?_, ?_, ?_, ?_, ?_, ?_⟩ <;> intros <;> first | rfl | simp

structure Dec where
  kept : Int
  left : Int
  low : Int
  high : Int
  x : Int

def dec0 : Dec := ⟨0, 0, 0, 0, 0⟩

/-- What a first byte says. -/
def beginsL (b : Int) : Int × Int × Int × Int :=
  if b < 128 then (0, 0, 0, b) else if b < 194 ∨ 244 < b then (-1, 0, 0, 0) else if b < 224 then (1, 128, 191, b % 32) else if b = 224 then (2, 160, 191, 0)
  else if b = 237 then (2, 128, 159, b % 16) else if b < 240 then (2, 128, 191, b % 16) else if b = 240 then (3, 144, 191, 0) else if b = 244 then (3, 128, 143, b % 8) else (3, 128, 191, b % 8)

def firstL (d : Dec) (b : Int) : Dec × List Int :=
  if (beginsL b).1 < 0 then (d, [65533]) else if (beginsL b).1 = 0 then (d, [(beginsL b).2.2.2])
  else (⟨1, (beginsL b).1, (beginsL b).2.1, (beginsL b).2.2.1, (beginsL b).2.2.2⟩, [])

def byteL (d : Dec) (b : Int) : Dec × List Int :=
  if 0 < d.kept ∧ d.low ≤ b ∧ b ≤ d.high then
    (if d.left - 1 = 0 then (dec0, [d.x * 64 + b % 64]) else (⟨d.kept + 1, d.left - 1, 128, 191, d.x * 64 + b % 64⟩, []))
  else if 0 < d.kept then ((firstL dec0 b).1, 65533 :: (firstL dec0 b).2)
  else firstL d b

abbrev Shp := List (Int × Int)
def shapesL : List Shp :=
  [[(0, 127)], [(194, 223), (128, 191)], [(224, 224), (160, 191), (128, 191)], [(225, 236), (128, 191), (128, 191)], [(237, 237), (128, 159), (128, 191)], [(238, 239), (128, 191), (128, 191)],
   [(240, 240), (144, 191), (128, 191), (128, 191)], [(241, 243), (128, 191), (128, 191), (128, 191)], [(244, 244), (128, 143), (128, 191), (128, 191)]]
/-- Bytes fit the shape, as far as they go. -/
def fitL : List Int → Shp → Bool
  | [], _ => true
  | _ :: _, [] => false
  | b :: s, p :: r => decide (p.1 ≤ b ∧ b ≤ p.2) && fitL s r
def scanS (s : List Int) : List Shp → Int
  | [] => 0
  | p :: r => if fitL s p then (if s.length = p.length then 2 else 1) else scanS s r
def beginsR (s : List Int) : Int := scanS s shapesL

def numGo (x : Int) : List Int → Int
  | [] => x
  | b :: s => numGo (64 * x + b % 64) s
def numL : List Int → Int
  | [] => 0
  | b :: s => numGo (if s.length = 1 then b % 32 else if s.length = 2 then b % 16 else if s.length = 3 then b % 8 else b) s

def lastR (out : List Int) (s : List Int) : List Int × List Int :=
  if beginsR s = 0 then ([], out ++ [65533]) else if beginsR s = 1 then (s, out) else ([], out ++ [numL s])
def byteR (s : List Int) (b : Int) : List Int × List Int :=
  if s ≠ [] ∧ beginsR (s ++ [b]) = 0 then lastR [65533] [b] else lastR [] (s ++ [b])

/-- The two states say the same. -/
def Same (d : Dec) (s : List Int) : Prop :=
  (s = [] ∧ d = dec0) ∨
  (∃ b0, s = [b0] ∧ 194 ≤ b0 ∧ b0 ≤ 244 ∧ d = ⟨1, (beginsL b0).1, (beginsL b0).2.1, (beginsL b0).2.2.1, (beginsL b0).2.2.2⟩) ∨
  (∃ b0 b1, s = [b0, b1] ∧ 224 ≤ b0 ∧ b0 ≤ 244 ∧ (beginsL b0).2.1 ≤ b1 ∧ b1 ≤ (beginsL b0).2.2.1 ∧ d = ⟨2, (beginsL b0).1 - 1, 128, 191, (beginsL b0).2.2.2 * 64 + b1 % 64⟩) ∨
  (∃ b0 b1 b2, s = [b0, b1, b2] ∧ 240 ≤ b0 ∧ b0 ≤ 244 ∧ (beginsL b0).2.1 ≤ b1 ∧ b1 ≤ (beginsL b0).2.2.1 ∧ 128 ≤ b2 ∧ b2 ≤ 191 ∧ d = ⟨3, 1, 128, 191, ((beginsL b0).2.2.2 * 64 + b1 % 64) * 64 + b2 % 64⟩)

theorem Same.kept {d : Dec} {s : List Int} (h : Same d s) : d.kept = s.length := by
  rcases h with ⟨rfl, rfl⟩ | ⟨b0, rfl, _, _, rfl⟩ | ⟨b0, b1, rfl, _, _, _, _, rfl⟩ | ⟨b0, b1, b2, rfl, _, _, _, _, _, _, rfl⟩ <;> rfl

theorem range6 {b : Int} (h : 194 ≤ b ∧ b ≤ 244) : (b < 224 ∧ beginsL b = (1, 128, 191, b % 32)) ∨ (b = 224 ∧ beginsL b = (2, 160, 191, 0)) ∨ (b = 237 ∧ beginsL b = (2, 128, 159, 13)) ∨ (224 < b ∧ b < 240 ∧ b ≠ 237 ∧ beginsL b = (2, 128, 191, b % 16)) ∨
    (b = 240 ∧ beginsL b = (3, 144, 191, 0)) ∨ (b = 244 ∧ beginsL b = (3, 128, 143, 4)) ∨ (240 < b ∧ b < 244 ∧ beginsL b = (3, 128, 191, b % 8)) := by
  by_cases h1 : b < 224
  · left; refine ⟨h1, ?_⟩; unfold beginsL; rw [if_neg (by omega), if_neg (by omega), if_pos h1]
  · by_cases h2 : b = 224
    · right; left; subst h2; exact ⟨rfl, by decide⟩
    · by_cases h3 : b = 237
      · right; right; left; subst h3; exact ⟨rfl, by decide⟩
      · by_cases h4 : b < 240
        · right; right; right; left; refine ⟨by omega, h4, h3, ?_⟩; unfold beginsL; rw [if_neg (by omega), if_neg (by omega), if_neg h1, if_neg h2, if_neg h3, if_pos h4]
        · by_cases h5 : b = 240
          · right; right; right; right; left; subst h5; exact ⟨rfl, by decide⟩
          · by_cases h6 : b = 244
            · right; right; right; right; right; left; subst h6; exact ⟨rfl, by decide⟩
            · right; right; right; right; right; right; refine ⟨by omega, by omega, ?_⟩; unfold beginsL; rw [if_neg (by omega), if_neg (by omega), if_neg h1, if_neg h2, if_neg h3, if_neg h4, if_neg h5, if_neg h6]

theorem first_same {b : Int} (hb : 0 ≤ b ∧ b < 256) (out : List Int) : Same (firstL dec0 b).1 (lastR out [b]).1 ∧ (lastR out [b]).2 = out ++ (firstL dec0 b).2 := by
  by_cases h1 : b < 128
  · have e1 : beginsL b = (0, 0, 0, b) := by unfold beginsL; rw [if_pos h1]
    have e2 : beginsR [b] = 2 := by simp [beginsR, scanS, shapesL, fitL]; omega
    simp [firstL, lastR, e1, e2, Same, numL, numGo]
  · by_cases h2 : b < 194 ∨ 244 < b
    · have e1 : beginsL b = (-1, 0, 0, 0) := by unfold beginsL; rw [if_neg h1, if_pos h2]
      have e2 : beginsR [b] = 0 := by simp [beginsR, scanS, shapesL, fitL]; omega
      simp [firstL, lastR, e1, e2, Same]
    · have e2 : beginsR [b] = 1 := by simp [beginsR, scanS, shapesL, fitL]; omega
      have hp : 0 < (beginsL b).1 := by rcases range6 (b := b) (by omega) with ⟨_, h⟩ | ⟨_, h⟩ | ⟨_, h⟩ | ⟨_, _, _, h⟩ | ⟨_, h⟩ | ⟨_, h⟩ | ⟨_, _, h⟩ <;> rw [h] <;> simp
      have e3 : firstL dec0 b = (⟨1, (beginsL b).1, (beginsL b).2.1, (beginsL b).2.2.1, (beginsL b).2.2.2⟩, []) := by unfold firstL; rw [if_neg (by omega), if_neg (by omega)]
      have e4 : lastR out [b] = ([b], out) := by unfold lastR; rw [e2]; rfl
      rw [e3, e4]
      exact ⟨.inr (.inl ⟨b, rfl, by omega, by omega, rfl⟩), by simp⟩

theorem begins2 {b0 b : Int} (h : 194 ≤ b0 ∧ b0 ≤ 244) : beginsR [b0, b] = if (beginsL b0).2.1 ≤ b ∧ b ≤ (beginsL b0).2.2.1 then (if (beginsL b0).1 = 1 then 2 else 1) else 0 := by
  rcases range6 h with ⟨h1, e⟩ | ⟨h1, e⟩ | ⟨h1, e⟩ | ⟨h1, h2, h3, e⟩ | ⟨h1, e⟩ | ⟨h1, e⟩ | ⟨h1, h2, e⟩ <;> rw [e] <;> simp only [beginsR, scanS, shapesL, fitL, List.length_cons, List.length_nil, Bool.and_true, Bool.and_eq_true, decide_eq_true_eq, Bool.false_eq_true, and_false, if_false, if_true, Nat.reduceAdd, reduceIte] <;> (repeat' split) <;> first | rfl | (exfalso; omega)
theorem begins3 {b0 b1 b : Int} (h : 224 ≤ b0 ∧ b0 ≤ 244) (hb : (beginsL b0).2.1 ≤ b1 ∧ b1 ≤ (beginsL b0).2.2.1) : beginsR [b0, b1, b] = if 128 ≤ b ∧ b ≤ 191 then (if (beginsL b0).1 = 2 then 2 else 1) else 0 := by
  rcases range6 (b := b0) (by omega) with ⟨h1, e⟩ | ⟨h1, e⟩ | ⟨h1, e⟩ | ⟨h1, h2, h3, e⟩ | ⟨h1, e⟩ | ⟨h1, e⟩ | ⟨h1, h2, e⟩ <;> rw [e] at hb ⊢ <;> simp only at hb <;> simp only [beginsR, scanS, shapesL, fitL, List.length_cons, List.length_nil, Bool.and_true, Bool.and_eq_true, decide_eq_true_eq, Bool.false_eq_true, and_false, if_false, if_true, Nat.reduceAdd, reduceIte] <;> (repeat' split) <;> first | rfl | (exfalso; omega)
theorem begins4 {b0 b1 b2 b : Int} (h : 240 ≤ b0 ∧ b0 ≤ 244) (hb : (beginsL b0).2.1 ≤ b1 ∧ b1 ≤ (beginsL b0).2.2.1) (h2 : 128 ≤ b2 ∧ b2 ≤ 191) : beginsR [b0, b1, b2, b] = if 128 ≤ b ∧ b ≤ 191 then 2 else 0 := by
  rcases range6 (b := b0) (by omega) with ⟨h1, e⟩ | ⟨h1, e⟩ | ⟨h1, e⟩ | ⟨h1, h2, h3, e⟩ | ⟨h1, e⟩ | ⟨h1, e⟩ | ⟨h1, h2, e⟩ <;> rw [e] at hb <;> simp only at hb <;> simp only [beginsR, scanS, shapesL, fitL, List.length_cons, List.length_nil, Bool.and_true, Bool.and_eq_true, decide_eq_true_eq, Bool.false_eq_true, and_false, if_false, if_true, Nat.reduceAdd, reduceIte] <;> (repeat' split) <;> first | rfl | (exfalso; omega)

theorem byte_same {d : Dec} {s : List Int} {b : Int} (h : Same d s) (hb : 0 ≤ b ∧ b < 256) : Same (byteL d b).1 (byteR s b).1 ∧ (byteR s b).2 = (byteL d b).2 := by
  rcases h with ⟨rfl, rfl⟩ | ⟨b0, rfl, h1, h2, rfl⟩ | ⟨b0, b1, rfl, h1, h2, h3, h4, rfl⟩ | ⟨b0, b1, b2, rfl, h1, h2, h3, h4, h5, h6, rfl⟩
  · have e1 : byteL dec0 b = firstL dec0 b := by unfold byteL; rw [if_neg (by simp [dec0]), if_neg (by simp [dec0])]
    have e2 : byteR [] b = lastR [] [b] := by unfold byteR; rw [if_neg (by simp)]; rfl
    rw [e1, e2]
    have := first_same hb []
    simpa using this
  · have hg := begins2 (b0 := b0) (b := b) ⟨h1, h2⟩
    have hl : 0 < (beginsL b0).1 := by rcases range6 (b := b0) ⟨h1, h2⟩ with ⟨_, h⟩ | ⟨_, h⟩ | ⟨_, h⟩ | ⟨_, _, _, h⟩ | ⟨_, h⟩ | ⟨_, h⟩ | ⟨_, _, h⟩ <;> rw [h] <;> simp
    by_cases hin : (beginsL b0).2.1 ≤ b ∧ b ≤ (beginsL b0).2.2.1
    · rw [if_pos hin] at hg
      have e2 : byteR [b0] b = lastR [] [b0, b] := by unfold byteR; rw [if_neg (by rintro ⟨-, hz⟩; rw [show [b0] ++ [b] = [b0, b] from rfl, hg] at hz; split at hz <;> simp at hz)]; rfl
      rw [e2]
      by_cases hone : (beginsL b0).1 = 1
      · rw [if_pos hone] at hg
        have hx : (beginsL b0).2.2.2 = b0 % 32 := by rcases range6 (b := b0) ⟨h1, h2⟩ with ⟨_, h⟩ | ⟨_, h⟩ | ⟨_, h⟩ | ⟨_, _, _, h⟩ | ⟨_, h⟩ | ⟨_, h⟩ | ⟨_, _, h⟩ <;> rw [h] at hone ⊢ <;> simp at hone ⊢
        simp [byteL, lastR, hg, hin, hone, Same, numL, numGo, hx]
        omega
      · rw [if_neg hone] at hg
        have h224 : 224 ≤ b0 := by rcases range6 (b := b0) ⟨h1, h2⟩ with ⟨_, h⟩ | ⟨_, h⟩ | ⟨_, h⟩ | ⟨_, _, _, h⟩ | ⟨_, h⟩ | ⟨_, h⟩ | ⟨_, _, h⟩ <;> rw [h] at hone <;> simp at hone <;> omega
        have e1 : byteL ⟨1, (beginsL b0).1, (beginsL b0).2.1, (beginsL b0).2.2.1, (beginsL b0).2.2.2⟩ b = (⟨2, (beginsL b0).1 - 1, 128, 191, (beginsL b0).2.2.2 * 64 + b % 64⟩, []) := by
          unfold byteL; rw [if_pos ⟨by simp, hin⟩, if_neg (by simp only; omega)]; rfl
        have e3 : lastR [] [b0, b] = ([b0, b], []) := by unfold lastR; rw [hg]; rfl
        rw [e1, e3]
        exact ⟨.inr (.inr (.inl ⟨b0, b, rfl, h224, h2, hin.1, hin.2, rfl⟩)), rfl⟩
    · rw [if_neg hin] at hg
      have e2 : byteR [b0] b = lastR [65533] [b] := by unfold byteR; rw [if_pos ⟨by simp, hg⟩]
      have e1 : byteL ⟨1, (beginsL b0).1, (beginsL b0).2.1, (beginsL b0).2.2.1, (beginsL b0).2.2.2⟩ b = ((firstL dec0 b).1, 65533 :: (firstL dec0 b).2) := by
        unfold byteL; rw [if_neg (fun hh => hin hh.2), if_pos (by simp)]
      rw [e1, e2]
      have := first_same hb [65533]
      simpa using this
  · have hg := begins3 (b0 := b0) (b1 := b1) (b := b) ⟨h1, h2⟩ ⟨h3, h4⟩
    have hl : 2 ≤ (beginsL b0).1 ∧ (beginsL b0).1 ≤ 3 ∧ ((beginsL b0).1 = 2 → (beginsL b0).2.2.2 = b0 % 16) ∧ ((beginsL b0).1 = 3 → (beginsL b0).2.2.2 = b0 % 8 ∧ 240 ≤ b0) := by
      rcases range6 (b := b0) (by omega) with ⟨h, e⟩ | ⟨h, e⟩ | ⟨h, e⟩ | ⟨h, h', h'', e⟩ | ⟨h, e⟩ | ⟨h, e⟩ | ⟨h, h', e⟩ <;> rw [e] <;> simp <;> omega
    by_cases hin : 128 ≤ b ∧ b ≤ 191
    · rw [if_pos hin] at hg
      have e2 : byteR [b0, b1] b = lastR [] [b0, b1, b] := by unfold byteR; rw [if_neg (by rintro ⟨-, hz⟩; rw [show [b0, b1] ++ [b] = [b0, b1, b] from rfl, hg] at hz; split at hz <;> simp at hz)]; rfl
      rw [e2]
      by_cases hone : (beginsL b0).1 = 2
      · rw [if_pos hone] at hg
        have hx := hl.2.2.1 hone
        simp [byteL, lastR, hg, hin, hone, Same, numL, numGo, hx]
        omega
      · rw [if_neg hone] at hg
        have e1 : byteL ⟨2, (beginsL b0).1 - 1, 128, 191, (beginsL b0).2.2.2 * 64 + b1 % 64⟩ b = (⟨3, 1, 128, 191, ((beginsL b0).2.2.2 * 64 + b1 % 64) * 64 + b % 64⟩, []) := by
          unfold byteL; rw [if_pos ⟨by simp, hin⟩, if_neg (by simp only; omega)]; simp only [Prod.mk.injEq, Dec.mk.injEq, and_true]; omega
        have e3 : lastR [] [b0, b1, b] = ([b0, b1, b], []) := by unfold lastR; rw [hg]; rfl
        rw [e1, e3]
        exact ⟨.inr (.inr (.inr ⟨b0, b1, b, rfl, (hl.2.2.2 (by omega)).2, h2, h3, h4, hin.1, hin.2, rfl⟩)), rfl⟩
    · rw [if_neg hin] at hg
      have e2 : byteR [b0, b1] b = lastR [65533] [b] := by unfold byteR; rw [if_pos ⟨by simp, hg⟩]
      have e1 : byteL ⟨2, (beginsL b0).1 - 1, 128, 191, (beginsL b0).2.2.2 * 64 + b1 % 64⟩ b = ((firstL dec0 b).1, 65533 :: (firstL dec0 b).2) := by
        unfold byteL; rw [if_neg (fun hh => hin hh.2), if_pos (by simp)]
      rw [e1, e2]
      have := first_same hb [65533]
      simpa using this
  · have hg := begins4 (b0 := b0) (b1 := b1) (b2 := b2) (b := b) ⟨h1, h2⟩ ⟨h3, h4⟩ ⟨h5, h6⟩
    have hx : (beginsL b0).2.2.2 = b0 % 8 := by
      rcases range6 (b := b0) (by omega) with ⟨h, e⟩ | ⟨h, e⟩ | ⟨h, e⟩ | ⟨h, h', h'', e⟩ | ⟨h, e⟩ | ⟨h, e⟩ | ⟨h, h', e⟩ <;> rw [e] <;> simp <;> omega
    by_cases hin : 128 ≤ b ∧ b ≤ 191
    · rw [if_pos hin] at hg
      have e2 : byteR [b0, b1, b2] b = lastR [] [b0, b1, b2, b] := by unfold byteR; rw [if_neg (by rintro ⟨-, hz⟩; rw [show [b0, b1, b2] ++ [b] = [b0, b1, b2, b] from rfl, hg] at hz; simp at hz)]; rfl
      rw [e2]
      simp [byteL, lastR, hg, hin, Same, numL, numGo, hx]
      omega
    · rw [if_neg hin] at hg
      have e2 : byteR [b0, b1, b2] b = lastR [65533] [b] := by unfold byteR; rw [if_pos ⟨by simp, hg⟩]
      have e1 : byteL ⟨3, 1, 128, 191, ((beginsL b0).2.2.2 * 64 + b1 % 64) * 64 + b2 % 64⟩ b = ((firstL dec0 b).1, 65533 :: (firstL dec0 b).2) := by
        unfold byteL; rw [if_neg (fun hh => hin hh.2), if_pos (by simp)]
      rw [e1, e2]
      have := first_same hb [65533]
      simpa using this
end Go.Proofs.YtggkbkbhegcbkaaDoor
/- The program's reader of characters, walked. -/
set_option linter.unusedSimpArgs false
set_option linter.unusedVariables false
set_option maxHeartbeats 1000000
set_option maxRecDepth 100000
namespace Go.Proofs.YtggkbkbhegcbkaaDoor
open Go Go.Jx

def andV (b m : Nat) : Int := IntKind.u8.wrap (BitVec.ofInt IntKind.u8.bits (b : Int) &&& BitVec.ofInt IntKind.u8.bits (m : Int)).toNat
theorem and_all : ((List.range 256).all fun b => decide (andV b 31 = (b : Int) % 32 ∧ andV b 15 = (b : Int) % 16 ∧ andV b 7 = (b : Int) % 8 ∧ andV b 63 = (b : Int) % 64)) = true := by kernel_rfl
theorem and_ok {b : Int} (hb : 0 ≤ b ∧ b < 256) : IntKind.u8.wrap (BitVec.ofInt IntKind.u8.bits b &&& BitVec.ofInt IntKind.u8.bits 31).toNat = b % 32 ∧ IntKind.u8.wrap (BitVec.ofInt IntKind.u8.bits b &&& BitVec.ofInt IntKind.u8.bits 15).toNat = b % 16 ∧
    IntKind.u8.wrap (BitVec.ofInt IntKind.u8.bits b &&& BitVec.ofInt IntKind.u8.bits 7).toNat = b % 8 ∧ IntKind.u8.wrap (BitVec.ofInt IntKind.u8.bits b &&& BitVec.ofInt IntKind.u8.bits 63).toNat = b % 64 := by
  have h := of_decide_eq_true (List.all_eq_true.1 and_all b.toNat (by simp; omega))
  unfold andV at h
  rw [Int.toNat_of_nonneg hb.1] at h
  exact h

theorem or_nat (x y : Nat) (hy : y < 64) : x * 64 ||| y = x * 64 + y := by
  have := Nat.shiftLeft_add_eq_or_of_lt (i := 6) (b := y) (by omega) x
  rw [Nat.shiftLeft_eq] at this
  exact this.symm
theorem or_ok {x y : Int} (hx : 0 ≤ x ∧ x < 16777216) (hy : 0 ≤ y ∧ y < 64) : IntKind.i32.wrap (BitVec.ofInt IntKind.i32.bits (IntKind.i32.wrap (x * 2 ^ (Min.min (6 : Int).toNat IntKind.i32.bits))) ||| BitVec.ofInt IntKind.i32.bits y).toNat = x * 64 + y := by
  obtain ⟨a, rfl⟩ := Int.eq_ofNat_of_zero_le hx.1
  obtain ⟨b, rfl⟩ := Int.eq_ofNat_of_zero_le hy.1
  rw [show (2 : Int) ^ (Min.min (6 : Int).toNat IntKind.i32.bits) = 64 by decide, show IntKind.i32.wrap ((a : Int) * 64) = (a : Int) * 64 from IntWalk.i32_in _ (by omega)]
  have e1 : (BitVec.ofInt IntKind.i32.bits ((a : Int) * 64) ||| BitVec.ofInt IntKind.i32.bits (b : Int)).toNat = a * 64 + b := by
    rw [show ((a : Int) * 64) = ((a * 64 : Nat) : Int) by omega, BitVec.ofInt_natCast, BitVec.ofInt_natCast, BitVec.toNat_or, BitVec.toNat_ofNat, BitVec.toNat_ofNat]
    rw [Nat.mod_eq_of_lt (show a * 64 < 2 ^ IntKind.i32.bits by show a * 64 < 4294967296; omega), Nat.mod_eq_of_lt (show b < 2 ^ IntKind.i32.bits by show b < 4294967296; omega)]
    exact or_nat a b (by omega)
  rw [e1, IntWalk.i32_in _ (by omega)]; omega

def begA (p : Int × Int × Int × Int) : AV := .tup [.sc (.int .i64 p.1), .sc (.int .u8 p.2.1), .sc (.int .u8 p.2.2.1), .sc (.int .i32 p.2.2.2)]

theorem w55 (b : Int) (h : Heap) (hb : 0 ≤ b ∧ b < 256) : W DD (.call 55 [.sc (.int .u8 b)] h) (fun _ vs h' => ∃ v, vs = [v] ∧ v = begA (beginsL b) ∧ h' = h) := by
  obtain ⟨e1, e2, e3, e4⟩ := and_ok hb
  refine W_enter d55 ?_
  show W _ (.code m55_code [.sc (.int .u8 b), undefA, undefA, undefA, undefA, undefA, undefA, undefA, undefA, undefA, undefA, undefA, undefA, undefA, undefA, undefA, undefA, undefA, undefA, undefA, undefA, undefA, undefA, undefA, undefA, undefA, undefA, undefA, undefA, undefA, undefA, undefA, undefA, undefA, undefA, undefA, undefA, undefA, undefA, undefA, undefA, undefA, undefA, undefA, undefA, undefA, undefA, undefA, undefA, undefA, undefA] _) _
  unfold m55_code
  repeat' (first
    | refine W_fast rfl ?_
    | (refine W_and rfl rfl ?_; first | rw [e1] | rw [e2] | rw [e3] | rw [e4]; refine W_norm rfl ?_)
    | refine W_seq ?_
    | refine W_ops ?_
    | refine W_nil ?_
    | refine seqK_n ?_
    | refine seqK_r ?_
    | refine seqK_x ?_
    | refine blockK_r ?_
    | refine blockK_n ?_
    | refine blockK_e ?_
    | refine blockK_x rfl ?_
    | refine loopK_x ?_
    | refine loopK_r ?_
    | refine invK_x ?_
    | refine invK_r ?_
    | refine invK_n ?_
    | refine W_guard_on rfl ?_
    | refine W_guard_off rfl rfl (W_norm rfl ?_)
    | refine W_guard_u rfl (W_norm rfl ?_)
    | refine W_pick_t rfl rfl (W_norm rfl ?_)
    | refine W_pick_f rfl rfl (W_norm rfl ?_)
    | refine W_skip ?_
    | refine W_ret ?_
    | refine W_exit ?_
    | refine W_cond_t rfl ?_
    | refine W_cond_f rfl ?_
    | refine W_block ?_
    | refine W_draw rfl ?_
    | refine W_add rfl rfl (IntWalk.i64_in _ (by omega)) (W_norm rfl ?_)
    | refine W_add rfl rfl (IntWalk.i32_in _ (by omega)) (W_norm rfl ?_)
    | refine W_add rfl rfl (IntWalk.u8_in _ (by omega)) (W_norm rfl ?_)
    | refine W_sub rfl rfl (IntWalk.i64_in _ (by omega)) (W_norm rfl ?_)
    | refine W_sub rfl rfl (IntWalk.i32_in _ (by omega)) (W_norm rfl ?_)
    | refine W_sub rfl rfl (IntWalk.u8_in _ (by omega)) (W_norm rfl ?_)
    | refine W_mul rfl rfl (IntWalk.i64_in _ (by omega)) (W_norm rfl ?_)
    | refine W_mul rfl rfl (IntWalk.i32_in _ (by omega)) (W_norm rfl ?_)
    | refine W_mul rfl rfl (IntWalk.u8_in _ (by omega)) (W_norm rfl ?_)
    | refine W_convint rfl (IntWalk.i64_in _ (by omega)) (W_norm rfl ?_)
    | refine W_convint rfl (IntWalk.i32_in _ (by omega)) (W_norm rfl ?_)
    | refine W_convint rfl (IntWalk.u8_in _ (by omega)) (W_norm rfl ?_)
    | refine W_div rfl rfl (by omega) (W_norm rfl ?_)
    | refine W_mod rfl rfl (by omega) (W_norm rfl ?_)
    | refine W_indexSlice rfl rfl ⟨by omega, by omega⟩ (W_norm rfl ?_)
    | refine W_indexArr rfl rfl ⟨by omega, by omega⟩ (W_norm rfl ?_)
    | refine W_alloc (W_norm rfl ?_)
    | (refine W_guardT rfl (fun hc => ?_) (fun hc => ?_) <;> (try rw [hc]) <;> (try simp only [cleanS, reduceCtorEq] at hc) <;> (try (exfalso; omega)) <;> (try refine W_norm rfl ?_))
    | (refine W_guardF rfl (fun hc => ?_) (fun hc => ?_) <;> (try rw [hc]) <;> (try simp only [cleanS, reduceCtorEq] at hc) <;> (try (exfalso; omega)) <;> (try refine W_norm rfl ?_))
    | (refine W_cond rfl (fun hc => ?_) (fun hc => ?_) <;> (try rw [hc]) <;> (try simp only [cleanS, reduceCtorEq] at hc) <;> (try (exfalso; omega)) <;> (try refine W_norm rfl ?_))
    | (refine W_pick rfl (fun hc => ?_) (fun hc => ?_) <;> (try rw [hc]) <;> (try simp only [cleanS, reduceCtorEq] at hc) <;> (try (exfalso; omega)) <;> (try refine W_norm rfl ?_))
    | refine W_add rfl rfl rfl (W_norm rfl ?_)
    | refine W_sub rfl rfl rfl (W_norm rfl ?_)
    | refine W_mul rfl rfl rfl (W_norm rfl ?_)
    | (refine fnK_r rfl ?_; try dsimp only [gd_z, gd_s])
    | (refine fnK_n rfl ?_; try dsimp only [gd_z, gd_s]))
  all_goals (refine ⟨_, rfl, ?_, rfl⟩; unfold beginsL; simp (disch := omega) only [if_pos, if_neg]; rfl)

def encD (d : Dec) : List SV := [.int .i64 d.kept, .int .i64 d.left, .int .u8 d.low, .int .u8 d.high, .int .i32 d.x]
def HasD (id : Nat) (d : Dec) (h : Heap) : Prop := h.get id = some (.cells 49 .own (encD d))
def firstA' (l : List Int) : AV := .tup [.sc (.int .i32 (l.getD 0 0)), .sc (.bool (decide (l ≠ [])))]

theorem w41 (id : Nat) (d : Dec) (b : Int) (h : Heap) (hb : 0 ≤ b ∧ b < 256) (hd : HasD id d h) : W DD (.call 41 [.sc (.ptr id 0), .sc (.int .u8 b)] h) (fun _ vs h' => ∃ v, vs = [v] ∧ (v = firstA' (firstL d b).2 ∧ HasD id (firstL d b).1 h' ∧ Mod id h h' ∧ h'.n = h.n)) := by
  refine W_enter d41 ?_
  show W _ (.code m41_code [.sc (.ptr id 0), .sc (.int .u8 b), undefA, undefA, undefA, undefA, undefA, undefA, undefA, undefA, undefA, undefA, undefA, undefA, undefA, undefA, undefA, undefA, undefA, undefA, undefA, undefA, undefA, undefA, undefA, undefA, undefA, undefA, undefA, undefA, undefA] _) _
  unfold m41_code
  unfold HasD at hd
  repeat' (first
    | refine W_fast rfl ?_
    | (refine W_callsN 55 rfl (w55 _ _ hb) rfl ?_; rintro _ _ ⟨rfl, rfl⟩; unfold begA; refine W_norm rfl ?_)
    | (refine W_storeT hd rfl rfl rfl (by decide) rfl rfl ?_; intro h2 ht; refine W_norm rfl ?_)
    | refine W_seq ?_
    | refine W_ops ?_
    | refine W_nil ?_
    | refine seqK_n ?_
    | refine seqK_r ?_
    | refine seqK_x ?_
    | refine blockK_r ?_
    | refine blockK_n ?_
    | refine blockK_e ?_
    | refine blockK_x rfl ?_
    | refine loopK_x ?_
    | refine loopK_r ?_
    | refine invK_x ?_
    | refine invK_r ?_
    | refine invK_n ?_
    | refine W_guard_on rfl ?_
    | refine W_guard_off rfl rfl (W_norm rfl ?_)
    | refine W_guard_u rfl (W_norm rfl ?_)
    | refine W_pick_t rfl rfl (W_norm rfl ?_)
    | refine W_pick_f rfl rfl (W_norm rfl ?_)
    | refine W_skip ?_
    | refine W_ret ?_
    | refine W_exit ?_
    | refine W_cond_t rfl ?_
    | refine W_cond_f rfl ?_
    | refine W_block ?_
    | refine W_draw rfl ?_
    | refine W_add rfl rfl (IntWalk.i64_in _ (by omega)) (W_norm rfl ?_)
    | refine W_add rfl rfl (IntWalk.i32_in _ (by omega)) (W_norm rfl ?_)
    | refine W_add rfl rfl (IntWalk.u8_in _ (by omega)) (W_norm rfl ?_)
    | refine W_sub rfl rfl (IntWalk.i64_in _ (by omega)) (W_norm rfl ?_)
    | refine W_sub rfl rfl (IntWalk.i32_in _ (by omega)) (W_norm rfl ?_)
    | refine W_sub rfl rfl (IntWalk.u8_in _ (by omega)) (W_norm rfl ?_)
    | refine W_mul rfl rfl (IntWalk.i64_in _ (by omega)) (W_norm rfl ?_)
    | refine W_mul rfl rfl (IntWalk.i32_in _ (by omega)) (W_norm rfl ?_)
    | refine W_mul rfl rfl (IntWalk.u8_in _ (by omega)) (W_norm rfl ?_)
    | refine W_convint rfl (IntWalk.i64_in _ (by omega)) (W_norm rfl ?_)
    | refine W_convint rfl (IntWalk.i32_in _ (by omega)) (W_norm rfl ?_)
    | refine W_convint rfl (IntWalk.u8_in _ (by omega)) (W_norm rfl ?_)
    | refine W_div rfl rfl (by omega) (W_norm rfl ?_)
    | refine W_mod rfl rfl (by omega) (W_norm rfl ?_)
    | refine W_indexSlice rfl rfl ⟨by omega, by omega⟩ (W_norm rfl ?_)
    | refine W_indexArr rfl rfl ⟨by omega, by omega⟩ (W_norm rfl ?_)
    | refine W_alloc (W_norm rfl ?_)
    | (refine W_guardT rfl (fun hc => ?_) (fun hc => ?_) <;> (try rw [hc]) <;> (try simp only [cleanS, reduceCtorEq] at hc) <;> (try (exfalso; omega)) <;> (try refine W_norm rfl ?_))
    | (refine W_guardF rfl (fun hc => ?_) (fun hc => ?_) <;> (try rw [hc]) <;> (try simp only [cleanS, reduceCtorEq] at hc) <;> (try (exfalso; omega)) <;> (try refine W_norm rfl ?_))
    | (refine W_cond rfl (fun hc => ?_) (fun hc => ?_) <;> (try rw [hc]) <;> (try simp only [cleanS, reduceCtorEq] at hc) <;> (try (exfalso; omega)) <;> (try refine W_norm rfl ?_))
    | (refine W_pick rfl (fun hc => ?_) (fun hc => ?_) <;> (try rw [hc]) <;> (try simp only [cleanS, reduceCtorEq] at hc) <;> (try (exfalso; omega)) <;> (try refine W_norm rfl ?_))
    | refine W_add rfl rfl rfl (W_norm rfl ?_)
    | refine W_sub rfl rfl rfl (W_norm rfl ?_)
    | refine W_mul rfl rfl rfl (W_norm rfl ?_)
    | (refine fnK_r rfl ?_; try dsimp only [gd_z, gd_s])
    | (refine fnK_n rfl ?_; try dsimp only [gd_z, gd_s]))
  · exact ⟨_, rfl, by unfold firstL; rw [if_pos hc]; rfl, by unfold firstL; rw [if_pos hc]; exact hd, Mod.refl _ _, rfl⟩
  · exact ⟨_, rfl, by unfold firstL; rw [if_neg (by omega), if_pos hc]; rfl, by unfold firstL; rw [if_neg (by omega), if_pos hc]; exact hd, Mod.refl _ _, rfl⟩
  · exact ⟨_, rfl, by unfold firstL; rw [if_neg (by omega), if_neg hc]; rfl, by unfold firstL; rw [if_neg (by omega), if_neg hc]; exact ht.new, ht.mod, ht.n⟩

def outA (l : List Int) : AV := .tup [.agg [.int .i32 (l.getD 0 0), .int .i32 (l.getD 1 0)], .sc (.int .i64 (l.length : Int))]
def DecOk (d : Dec) : Prop := 0 ≤ d.kept ∧ d.kept ≤ 3 ∧ 0 ≤ d.left ∧ d.left ≤ 3 ∧ 0 ≤ d.x ∧ d.x < 1048576

theorem w23nil (b : Int) (h : Heap) : W DD (.call 23 [.sc .nilp, .sc (.int .u8 b)] h) (fun _ vs h' => ∃ v, vs = [v] ∧ (v = outA [] ∧ Sub h h')) := by
  refine W_enter d23 ?_
  show W _ (.code m23_code [.sc .nilp, .sc (.int .u8 b), undefA, undefA, undefA, undefA, undefA, undefA, undefA, undefA, undefA, undefA, undefA, undefA, undefA, undefA, undefA, undefA, undefA, undefA, undefA, undefA, undefA, undefA, undefA, undefA, undefA, undefA, undefA, undefA, undefA, undefA, undefA, undefA, undefA, undefA, undefA, undefA, undefA, undefA, undefA, undefA, undefA, undefA, undefA, undefA, undefA, undefA, undefA, undefA, undefA, undefA, undefA, undefA, undefA, undefA, undefA, undefA, undefA, undefA, undefA, undefA, undefA, undefA, undefA, undefA, undefA, undefA, undefA, undefA, undefA, undefA, undefA, undefA, undefA, undefA, undefA, undefA, undefA, undefA, undefA, undefA, undefA, undefA, undefA, undefA, undefA, undefA, undefA, undefA, undefA, undefA] _) _
  unfold m23_code
  repeat' (first
    | refine W_fast rfl ?_
    | (refine W_allocT ?_; intro h1 ha hs1 hn1; refine W_norm rfl ?_)
    | refine W_nil_ptr_t rfl rfl rfl (W_norm rfl ?_)
    | refine W_loadN ha rfl rfl (W_norm rfl ?_)
    | refine fnK_cell2 rfl rfl ha rfl rfl rfl ?_
    | refine fnK_cell2 rfl rfl ht.new rfl rfl rfl ?_
    | (refine W_storeT ha rfl rfl rfl (by decide) rfl rfl ?_; intro h2 ht; refine W_norm rfl ?_)
    | refine W_seq ?_
    | refine W_ops ?_
    | refine W_nil ?_
    | refine seqK_n ?_
    | refine seqK_r ?_
    | refine seqK_x ?_
    | refine blockK_r ?_
    | refine blockK_n ?_
    | refine blockK_e ?_
    | refine blockK_x rfl ?_
    | refine loopK_x ?_
    | refine loopK_r ?_
    | refine invK_x ?_
    | refine invK_r ?_
    | refine invK_n ?_
    | refine W_guard_on rfl ?_
    | refine W_guard_off rfl rfl (W_norm rfl ?_)
    | refine W_guard_u rfl (W_norm rfl ?_)
    | refine W_pick_t rfl rfl (W_norm rfl ?_)
    | refine W_pick_f rfl rfl (W_norm rfl ?_)
    | refine W_skip ?_
    | refine W_ret ?_
    | refine W_exit ?_
    | refine W_cond_t rfl ?_
    | refine W_cond_f rfl ?_
    | refine W_block ?_
    | refine W_draw rfl ?_
    | refine W_add rfl rfl (IntWalk.i64_in _ (by omega)) (W_norm rfl ?_)
    | refine W_add rfl rfl (IntWalk.i32_in _ (by omega)) (W_norm rfl ?_)
    | refine W_add rfl rfl (IntWalk.u8_in _ (by omega)) (W_norm rfl ?_)
    | refine W_sub rfl rfl (IntWalk.i64_in _ (by omega)) (W_norm rfl ?_)
    | refine W_sub rfl rfl (IntWalk.i32_in _ (by omega)) (W_norm rfl ?_)
    | refine W_sub rfl rfl (IntWalk.u8_in _ (by omega)) (W_norm rfl ?_)
    | refine W_mul rfl rfl (IntWalk.i64_in _ (by omega)) (W_norm rfl ?_)
    | refine W_mul rfl rfl (IntWalk.i32_in _ (by omega)) (W_norm rfl ?_)
    | refine W_mul rfl rfl (IntWalk.u8_in _ (by omega)) (W_norm rfl ?_)
    | refine W_convint rfl (IntWalk.i64_in _ (by omega)) (W_norm rfl ?_)
    | refine W_convint rfl (IntWalk.i32_in _ (by omega)) (W_norm rfl ?_)
    | refine W_convint rfl (IntWalk.u8_in _ (by omega)) (W_norm rfl ?_)
    | refine W_div rfl rfl (by omega) (W_norm rfl ?_)
    | refine W_mod rfl rfl (by omega) (W_norm rfl ?_)
    | refine W_indexSlice rfl rfl ⟨by omega, by omega⟩ (W_norm rfl ?_)
    | refine W_indexArr rfl rfl ⟨by omega, by omega⟩ (W_norm rfl ?_)
    | refine W_alloc (W_norm rfl ?_)
    | (refine W_guardT rfl (fun hc => ?_) (fun hc => ?_) <;> (try rw [hc]) <;> (try simp only [cleanS, reduceCtorEq] at hc) <;> (try (exfalso; omega)) <;> (try refine W_norm rfl ?_))
    | (refine W_guardF rfl (fun hc => ?_) (fun hc => ?_) <;> (try rw [hc]) <;> (try simp only [cleanS, reduceCtorEq] at hc) <;> (try (exfalso; omega)) <;> (try refine W_norm rfl ?_))
    | (refine W_cond rfl (fun hc => ?_) (fun hc => ?_) <;> (try rw [hc]) <;> (try simp only [cleanS, reduceCtorEq] at hc) <;> (try (exfalso; omega)) <;> (try refine W_norm rfl ?_))
    | (refine W_pick rfl (fun hc => ?_) (fun hc => ?_) <;> (try rw [hc]) <;> (try simp only [cleanS, reduceCtorEq] at hc) <;> (try (exfalso; omega)) <;> (try refine W_norm rfl ?_))
    | refine W_add rfl rfl rfl (W_norm rfl ?_)
    | refine W_sub rfl rfl rfl (W_norm rfl ?_)
    | refine W_mul rfl rfl rfl (W_norm rfl ?_)
    | (refine fnK_r rfl ?_; try dsimp only [gd_z, gd_s])
    | (refine fnK_n rfl ?_; try dsimp only [gd_z, gd_s]))
  exact ⟨_, rfl, rfl, ⟨by rw [ht.n, hn1]; omega, fun j o e => by rw [ht.old j (by have := Heap.get_lt e; omega)]; exact hs1.2 _ _ e⟩⟩

theorem firstL_len (d : Dec) (b : Int) : (firstL d b).2 = [] ∨ ∃ y, (firstL d b).2 = [y] := by
  unfold firstL
  split
  · exact .inr ⟨_, rfl⟩
  · split
    · exact .inr ⟨_, rfl⟩
    · exact .inl rfl

theorem w23 (id : Nat) (d : Dec) (b : Int) (h : Heap) (hb : 0 ≤ b ∧ b < 256) (hd : HasD id d h) (hok : DecOk d) : W DD (.call 23 [.sc (.ptr id 0), .sc (.int .u8 b)] h) (fun _ vs h' => ∃ v, vs = [v] ∧ (v = outA (byteL d b).2 ∧ HasD id (byteL d b).1 h' ∧ Mod id h h')) := by
  obtain ⟨e1, e2, e3, e4⟩ := and_ok hb
  obtain ⟨k1, k2, k3, k4, k5, k6⟩ := hok
  have hlt : id < h.n := Heap.get_lt hd
  unfold HasD at hd
  refine W_enter d23 ?_
  show W _ (.code m23_code [.sc (.ptr id 0), .sc (.int .u8 b), undefA, undefA, undefA, undefA, undefA, undefA, undefA, undefA, undefA, undefA, undefA, undefA, undefA, undefA, undefA, undefA, undefA, undefA, undefA, undefA, undefA, undefA, undefA, undefA, undefA, undefA, undefA, undefA, undefA, undefA, undefA, undefA, undefA, undefA, undefA, undefA, undefA, undefA, undefA, undefA, undefA, undefA, undefA, undefA, undefA, undefA, undefA, undefA, undefA, undefA, undefA, undefA, undefA, undefA, undefA, undefA, undefA, undefA, undefA, undefA, undefA, undefA, undefA, undefA, undefA, undefA, undefA, undefA, undefA, undefA, undefA, undefA, undefA, undefA, undefA, undefA, undefA, undefA, undefA, undefA, undefA, undefA, undefA, undefA, undefA, undefA, undefA, undefA, undefA, undefA] _) _
  unfold m23_code
  refine W_seq ?_
  refine W_ops ?_
  refine W_allocT ?_
  intro hp ha hs1 hn1
  have hm : Mod id h hp := Mod.of_sub hs1
  replace hd := hs1.2 _ _ hd
  generalize hA : h.n = ar at *
  repeat' (first
    | refine W_fast rfl ?_
    | refine W_nil_ptr_f rfl rfl rfl (W_norm rfl ?_)
    | refine W_load_sc rfl hd rfl (W_norm rfl ?_)
    | refine W_loadN ha rfl rfl (W_norm rfl ?_)
    | refine fnK_cell2 rfl rfl ha rfl rfl rfl ?_
    | refine fnK_cell2 rfl rfl ht.new rfl rfl rfl ?_
    | (refine W_and rfl rfl ?_; rw [e4]; refine W_norm rfl ?_)
    | refine W_shl rfl rfl (by decide) (W_norm rfl ?_)
    | (refine W_or rfl rfl ?_; rw [or_ok (by omega) (by omega)]; refine W_norm rfl ?_)
    | (refine W_storeT hd rfl rfl rfl (by decide) rfl rfl ?_; intro h2 ht; have ha := (ht.old ar (by omega)).trans ha; have hd := ht.new; have hm := hm.trans ht.mod; refine W_norm rfl ?_)
    | (refine W_storeT ha rfl rfl rfl (by decide) rfl rfl ?_; intro h2 ht; have hd := (ht.old id (by omega)).trans hd; have ha := ht.new; have hm := ht.after hm (by omega); refine W_norm rfl ?_)
    | (refine W_callsN 41 rfl (w41 id dec0 b _ hb hd) rfl ?_; rintro _ h2 ⟨rfl, hd2, hm2, hn2⟩; have ha := hm2.2 _ _ (by omega) ha; have hd := hd2; have hm := hm.trans hm2; refine W_norm rfl ?_)
    | (refine W_callsN 41 rfl (w41 id d b _ hb hd) rfl ?_; rintro _ h2 ⟨rfl, hd2, hm2, hn2⟩; have ha := hm2.2 _ _ (by omega) ha; have hd := hd2; have hm := hm.trans hm2; refine W_norm rfl ?_)
    | refine W_seq ?_
    | refine W_ops ?_
    | refine W_nil ?_
    | refine seqK_n ?_
    | refine seqK_r ?_
    | refine seqK_x ?_
    | refine blockK_r ?_
    | refine blockK_n ?_
    | refine blockK_e ?_
    | refine blockK_x rfl ?_
    | refine loopK_x ?_
    | refine loopK_r ?_
    | refine invK_x ?_
    | refine invK_r ?_
    | refine invK_n ?_
    | refine W_guard_on rfl ?_
    | refine W_guard_off rfl rfl (W_norm rfl ?_)
    | refine W_guard_u rfl (W_norm rfl ?_)
    | refine W_pick_t rfl rfl (W_norm rfl ?_)
    | refine W_pick_f rfl rfl (W_norm rfl ?_)
    | refine W_skip ?_
    | refine W_ret ?_
    | refine W_exit ?_
    | refine W_cond_t rfl ?_
    | refine W_cond_f rfl ?_
    | refine W_block ?_
    | refine W_draw rfl ?_
    | refine W_add rfl rfl (IntWalk.i64_in _ (by omega)) (W_norm rfl ?_)
    | refine W_add rfl rfl (IntWalk.i32_in _ (by omega)) (W_norm rfl ?_)
    | refine W_add rfl rfl (IntWalk.u8_in _ (by omega)) (W_norm rfl ?_)
    | refine W_sub rfl rfl (IntWalk.i64_in _ (by omega)) (W_norm rfl ?_)
    | refine W_sub rfl rfl (IntWalk.i32_in _ (by omega)) (W_norm rfl ?_)
    | refine W_sub rfl rfl (IntWalk.u8_in _ (by omega)) (W_norm rfl ?_)
    | refine W_mul rfl rfl (IntWalk.i64_in _ (by omega)) (W_norm rfl ?_)
    | refine W_mul rfl rfl (IntWalk.i32_in _ (by omega)) (W_norm rfl ?_)
    | refine W_mul rfl rfl (IntWalk.u8_in _ (by omega)) (W_norm rfl ?_)
    | refine W_convint rfl (IntWalk.i64_in _ (by omega)) (W_norm rfl ?_)
    | refine W_convint rfl (IntWalk.i32_in _ (by omega)) (W_norm rfl ?_)
    | refine W_convint rfl (IntWalk.u8_in _ (by omega)) (W_norm rfl ?_)
    | refine W_div rfl rfl (by omega) (W_norm rfl ?_)
    | refine W_mod rfl rfl (by omega) (W_norm rfl ?_)
    | refine W_indexSlice rfl rfl ⟨by omega, by omega⟩ (W_norm rfl ?_)
    | refine W_indexArr rfl rfl ⟨by omega, by omega⟩ (W_norm rfl ?_)
    | refine W_alloc (W_norm rfl ?_)
    | (refine W_guardT rfl (fun hc => ?_) (fun hc => ?_) <;> (try rw [hc]) <;> (try simp only [cleanS, reduceCtorEq] at hc) <;> (try (exfalso; omega)) <;> (try refine W_norm rfl ?_))
    | (refine W_guardF rfl (fun hc => ?_) (fun hc => ?_) <;> (try rw [hc]) <;> (try simp only [cleanS, reduceCtorEq] at hc) <;> (try (exfalso; omega)) <;> (try refine W_norm rfl ?_))
    | (refine W_cond rfl (fun hc => ?_) (fun hc => ?_) <;> (try rw [hc]) <;> (try simp only [cleanS, reduceCtorEq] at hc) <;> (try (exfalso; omega)) <;> (try refine W_norm rfl ?_))
    | (refine W_pick rfl (fun hc => ?_) (fun hc => ?_) <;> (try rw [hc]) <;> (try simp only [cleanS, reduceCtorEq] at hc) <;> (try (exfalso; omega)) <;> (try refine W_norm rfl ?_))
    | refine W_add rfl rfl rfl (W_norm rfl ?_)
    | refine W_sub rfl rfl rfl (W_norm rfl ?_)
    | refine W_mul rfl rfl rfl (W_norm rfl ?_)
    | (refine fnK_r rfl ?_; try dsimp only [gd_z, gd_s])
    | (refine fnK_n rfl ?_; try dsimp only [gd_z, gd_s]))
  · have e : byteL d b = (dec0, [d.x * 64 + b % 64]) := by unfold byteL; rw [if_pos ⟨by omega, by omega, by omega⟩, if_pos hc]
    rw [e]; exact ⟨_, rfl, rfl, hd, hm⟩
  · have e : byteL d b = (⟨d.kept + 1, d.left - 1, 128, 191, d.x * 64 + b % 64⟩, []) := by unfold byteL; rw [if_pos ⟨by omega, by omega, by omega⟩, if_neg hc]
    rw [e]; exact ⟨_, rfl, rfl, hd, hm⟩
  all_goals
    first
      | (have e : byteL d b = ((firstL dec0 b).1, 65533 :: (firstL dec0 b).2) := by (unfold byteL; rw [if_neg (by omega), if_pos (by omega)])
         rw [e])
      | (have e : byteL d b = firstL d b := by (unfold byteL; rw [if_neg (by omega), if_neg (by omega)])
         rw [e])
    first
      | (rw [hc]; exact ⟨_, rfl, rfl, hd, hm⟩)
      | (rcases firstL_len dec0 b with hz | ⟨y, hz⟩
         · exact absurd hz hc
         · rw [hz]; exact ⟨_, rfl, rfl, hd, hm⟩)
      | (rcases firstL_len d b with hz | ⟨y, hz⟩
         · exact absurd hz hc
         · rw [hz]; exact ⟨_, rfl, rfl, hd, hm⟩)
end Go.Proofs.YtggkbkbhegcbkaaDoor
/- What a text tells, by the program; whether two are the same. -/
set_option linter.unusedSimpArgs false
set_option linter.unusedVariables false
set_option maxHeartbeats 1000000
set_option maxRecDepth 100000
namespace Go.Proofs.YtggkbkbhegcbkaaDoor
open Go Go.Jx

def encI (r : Int) : List SV := [.int .i32 r]

theorem w42 (id : Nat) (d : Dec) (h : Heap) (hd : HasD id d h) : W DD (.call 42 [.sc (.ptr id 0)] h) (fun _ vs h' => ∃ v, vs = [v] ∧ v = .sc (.int .i64 d.kept) ∧ h' = h) := by
  unfold HasD at hd
  refine W_enter d42 ?_
  show W _ (.code m42_code [.sc (.ptr id 0), undefA, undefA, undefA, undefA, undefA, undefA, undefA, undefA] _) _
  unfold m42_code
  repeat' (first
    | refine W_fast rfl ?_
    | refine W_nil_ptr_f rfl rfl rfl (W_norm rfl ?_)
    | refine W_load_sc rfl hd rfl (W_norm rfl ?_)
    | refine W_seq ?_
    | refine W_ops ?_
    | refine W_nil ?_
    | refine seqK_n ?_
    | refine seqK_r ?_
    | refine seqK_x ?_
    | refine blockK_r ?_
    | refine blockK_n ?_
    | refine blockK_e ?_
    | refine blockK_x rfl ?_
    | refine loopK_x ?_
    | refine loopK_r ?_
    | refine invK_x ?_
    | refine invK_r ?_
    | refine invK_n ?_
    | refine W_guard_on rfl ?_
    | refine W_guard_off rfl rfl (W_norm rfl ?_)
    | refine W_guard_u rfl (W_norm rfl ?_)
    | refine W_pick_t rfl rfl (W_norm rfl ?_)
    | refine W_pick_f rfl rfl (W_norm rfl ?_)
    | refine W_skip ?_
    | refine W_ret ?_
    | refine W_exit ?_
    | refine W_cond_t rfl ?_
    | refine W_cond_f rfl ?_
    | refine W_block ?_
    | refine W_draw rfl ?_
    | refine W_add rfl rfl (IntWalk.i64_in _ (by omega)) (W_norm rfl ?_)
    | refine W_add rfl rfl (IntWalk.i32_in _ (by omega)) (W_norm rfl ?_)
    | refine W_add rfl rfl (IntWalk.u8_in _ (by omega)) (W_norm rfl ?_)
    | refine W_sub rfl rfl (IntWalk.i64_in _ (by omega)) (W_norm rfl ?_)
    | refine W_sub rfl rfl (IntWalk.i32_in _ (by omega)) (W_norm rfl ?_)
    | refine W_sub rfl rfl (IntWalk.u8_in _ (by omega)) (W_norm rfl ?_)
    | refine W_mul rfl rfl (IntWalk.i64_in _ (by omega)) (W_norm rfl ?_)
    | refine W_mul rfl rfl (IntWalk.i32_in _ (by omega)) (W_norm rfl ?_)
    | refine W_mul rfl rfl (IntWalk.u8_in _ (by omega)) (W_norm rfl ?_)
    | refine W_convint rfl (IntWalk.i64_in _ (by omega)) (W_norm rfl ?_)
    | refine W_convint rfl (IntWalk.i32_in _ (by omega)) (W_norm rfl ?_)
    | refine W_convint rfl (IntWalk.u8_in _ (by omega)) (W_norm rfl ?_)
    | refine W_div rfl rfl (by omega) (W_norm rfl ?_)
    | refine W_mod rfl rfl (by omega) (W_norm rfl ?_)
    | refine W_indexSlice rfl rfl ⟨by omega, by omega⟩ (W_norm rfl ?_)
    | refine W_indexArr rfl rfl ⟨by omega, by omega⟩ (W_norm rfl ?_)
    | refine W_alloc (W_norm rfl ?_)
    | (refine W_guardT rfl (fun hc => ?_) (fun hc => ?_) <;> (try rw [hc]) <;> (try simp only [cleanS, reduceCtorEq] at hc) <;> (try (exfalso; omega)) <;> (try refine W_norm rfl ?_))
    | (refine W_guardF rfl (fun hc => ?_) (fun hc => ?_) <;> (try rw [hc]) <;> (try simp only [cleanS, reduceCtorEq] at hc) <;> (try (exfalso; omega)) <;> (try refine W_norm rfl ?_))
    | (refine W_cond rfl (fun hc => ?_) (fun hc => ?_) <;> (try rw [hc]) <;> (try simp only [cleanS, reduceCtorEq] at hc) <;> (try (exfalso; omega)) <;> (try refine W_norm rfl ?_))
    | (refine W_pick rfl (fun hc => ?_) (fun hc => ?_) <;> (try rw [hc]) <;> (try simp only [cleanS, reduceCtorEq] at hc) <;> (try (exfalso; omega)) <;> (try refine W_norm rfl ?_))
    | refine W_add rfl rfl rfl (W_norm rfl ?_)
    | refine W_sub rfl rfl rfl (W_norm rfl ?_)
    | refine W_mul rfl rfl rfl (W_norm rfl ?_)
    | (refine fnK_r rfl ?_; try dsimp only [gd_z, gd_s])
    | (refine fnK_n rfl ?_; try dsimp only [gd_z, gd_s]))
  exact ⟨_, rfl, rfl, rfl⟩

def endL (d : Dec) : Int × Bool := if d.kept = 0 then (0, false) else (65533, true)
theorem w24 (id : Nat) (d : Dec) (h : Heap) (hd : HasD id d h) : W DD (.call 24 [.sc (.ptr id 0)] h) (fun _ vs h' => ∃ v, vs = [v] ∧ (v = .tup [.sc (.int .i32 (endL d).1), .sc (.bool (endL d).2)] ∧ HasD id (if d.kept = 0 then d else dec0) h' ∧ Mod id h h')) := by
  refine W_enter d24 ?_
  show W _ (.code m24_code [.sc (.ptr id 0), undefA, undefA, undefA, undefA, undefA, undefA, undefA, undefA, undefA] _) _
  unfold m24_code
  repeat' (first
    | refine W_fast rfl ?_
    | (refine W_callsN 42 rfl (w42 id d _ hd) rfl ?_; rintro _ _ ⟨rfl, rfl⟩; refine W_norm rfl ?_)
    | (refine W_storeT hd rfl rfl rfl (by decide) rfl rfl ?_; intro h2 ht; refine W_norm rfl ?_)
    | refine W_seq ?_
    | refine W_ops ?_
    | refine W_nil ?_
    | refine seqK_n ?_
    | refine seqK_r ?_
    | refine seqK_x ?_
    | refine blockK_r ?_
    | refine blockK_n ?_
    | refine blockK_e ?_
    | refine blockK_x rfl ?_
    | refine loopK_x ?_
    | refine loopK_r ?_
    | refine invK_x ?_
    | refine invK_r ?_
    | refine invK_n ?_
    | refine W_guard_on rfl ?_
    | refine W_guard_off rfl rfl (W_norm rfl ?_)
    | refine W_guard_u rfl (W_norm rfl ?_)
    | refine W_pick_t rfl rfl (W_norm rfl ?_)
    | refine W_pick_f rfl rfl (W_norm rfl ?_)
    | refine W_skip ?_
    | refine W_ret ?_
    | refine W_exit ?_
    | refine W_cond_t rfl ?_
    | refine W_cond_f rfl ?_
    | refine W_block ?_
    | refine W_draw rfl ?_
    | refine W_add rfl rfl (IntWalk.i64_in _ (by omega)) (W_norm rfl ?_)
    | refine W_add rfl rfl (IntWalk.i32_in _ (by omega)) (W_norm rfl ?_)
    | refine W_add rfl rfl (IntWalk.u8_in _ (by omega)) (W_norm rfl ?_)
    | refine W_sub rfl rfl (IntWalk.i64_in _ (by omega)) (W_norm rfl ?_)
    | refine W_sub rfl rfl (IntWalk.i32_in _ (by omega)) (W_norm rfl ?_)
    | refine W_sub rfl rfl (IntWalk.u8_in _ (by omega)) (W_norm rfl ?_)
    | refine W_mul rfl rfl (IntWalk.i64_in _ (by omega)) (W_norm rfl ?_)
    | refine W_mul rfl rfl (IntWalk.i32_in _ (by omega)) (W_norm rfl ?_)
    | refine W_mul rfl rfl (IntWalk.u8_in _ (by omega)) (W_norm rfl ?_)
    | refine W_convint rfl (IntWalk.i64_in _ (by omega)) (W_norm rfl ?_)
    | refine W_convint rfl (IntWalk.i32_in _ (by omega)) (W_norm rfl ?_)
    | refine W_convint rfl (IntWalk.u8_in _ (by omega)) (W_norm rfl ?_)
    | refine W_div rfl rfl (by omega) (W_norm rfl ?_)
    | refine W_mod rfl rfl (by omega) (W_norm rfl ?_)
    | refine W_indexSlice rfl rfl ⟨by omega, by omega⟩ (W_norm rfl ?_)
    | refine W_indexArr rfl rfl ⟨by omega, by omega⟩ (W_norm rfl ?_)
    | refine W_alloc (W_norm rfl ?_)
    | (refine W_guardT rfl (fun hc => ?_) (fun hc => ?_) <;> (try rw [hc]) <;> (try simp only [cleanS, reduceCtorEq] at hc) <;> (try (exfalso; omega)) <;> (try refine W_norm rfl ?_))
    | (refine W_guardF rfl (fun hc => ?_) (fun hc => ?_) <;> (try rw [hc]) <;> (try simp only [cleanS, reduceCtorEq] at hc) <;> (try (exfalso; omega)) <;> (try refine W_norm rfl ?_))
    | (refine W_cond rfl (fun hc => ?_) (fun hc => ?_) <;> (try rw [hc]) <;> (try simp only [cleanS, reduceCtorEq] at hc) <;> (try (exfalso; omega)) <;> (try refine W_norm rfl ?_))
    | (refine W_pick rfl (fun hc => ?_) (fun hc => ?_) <;> (try rw [hc]) <;> (try simp only [cleanS, reduceCtorEq] at hc) <;> (try (exfalso; omega)) <;> (try refine W_norm rfl ?_))
    | refine W_add rfl rfl rfl (W_norm rfl ?_)
    | refine W_sub rfl rfl rfl (W_norm rfl ?_)
    | refine W_mul rfl rfl rfl (W_norm rfl ?_)
    | (refine fnK_r rfl ?_; try dsimp only [gd_z, gd_s])
    | (refine fnK_n rfl ?_; try dsimp only [gd_z, gd_s]))
  · exact ⟨_, rfl, by unfold endL; rw [if_pos hc], by rw [if_pos hc]; exact hd, Mod.refl _ _⟩
  · exact ⟨_, rfl, by unfold endL; rw [if_neg hc], by rw [if_neg hc]; exact ht.new, ht.mod⟩

/-! ## all of a text -/

def runP : Dec → List UInt8 → Dec × List Int
  | d, [] => (d, [])
  | d, b :: l => ((runP (byteL d b.toNat).1 l).1, (byteL d b.toNat).2 ++ (runP (byteL d b.toNat).1 l).2)
def tailP (d : Dec) : List Int := if d.kept = 0 then [] else [65533]
def allP (l : List UInt8) : List Int := (runP dec0 l).2 ++ tailP (runP dec0 l).1

theorem runP_append (d : Dec) (a b : List UInt8) : runP d (a ++ b) = ((runP (runP d a).1 b).1, (runP d a).2 ++ (runP (runP d a).1 b).2) := by
  induction a generalizing d with
  | nil => simp [runP]
  | cons x a ih => simp only [List.cons_append, runP, ih, List.append_assoc]
theorem runP_take {d : Dec} {l : List UInt8} {k : Nat} (hk : k < l.length) : runP d (l.take (k + 1)) = ((byteL (runP d (l.take k)).1 (l.getD k 0).toNat).1, (runP d (l.take k)).2 ++ (byteL (runP d (l.take k)).1 (l.getD k 0).toNat).2) := by
  rw [List.take_add_one, List.getElem?_eq_getElem hk, runP_append, List.getD_eq_getElem?_getD, List.getElem?_eq_getElem hk]
  simp [runP]

theorem Same.ok {d : Dec} {s : List Int} (h : Same d s) : DecOk d := by
  rcases h with ⟨rfl, rfl⟩ | ⟨b0, rfl, h1, h2, rfl⟩ | ⟨b0, b1, rfl, h1, h2, h3, h4, rfl⟩ | ⟨b0, b1, b2, rfl, h1, h2, h3, h4, h5, h6, rfl⟩
  · simp [DecOk, dec0]
  all_goals
    rcases range6 (b := b0) (by omega) with ⟨h, e⟩ | ⟨h, e⟩ | ⟨h, e⟩ | ⟨h, h', h'', e⟩ | ⟨h, e⟩ | ⟨h, e⟩ | ⟨h, h', e⟩ <;> rw [e] <;> simp only [DecOk] <;> omega

/-- What is kept is what the document keeps. -/
def runR : List Int → List UInt8 → List Int × List Int
  | s, [] => (s, [])
  | s, b :: l => ((runR (byteR s b.toNat).1 l).1, (byteR s b.toNat).2 ++ (runR (byteR s b.toNat).1 l).2)
theorem run_same {d : Dec} {s : List Int} (h : Same d s) (l : List UInt8) : Same (runP d l).1 (runR s l).1 ∧ (runR s l).2 = (runP d l).2 := by
  induction l generalizing d s with
  | nil => exact ⟨h, rfl⟩
  | cons b l ih =>
    have h1 := byte_same h (b := (b.toNat : Int)) (by have := b.toNat_lt; omega)
    have h2 := ih h1.1
    exact ⟨h2.1, by simp only [runR, runP]; rw [h1.2, h2.2]⟩
theorem same0 : Same dec0 [] := .inl ⟨rfl, rfl⟩
theorem run_ok (l : List UInt8) : DecOk (runP dec0 l).1 := (run_same same0 l).1.ok
theorem byteL_len (d : Dec) (b : Int) : (byteL d b).2.length ≤ 2 := by
  unfold byteL
  split
  · split <;> simp
  · split
    · rcases firstL_len dec0 b with h | ⟨y, h⟩ <;> simp [h]
    · rcases firstL_len d b with h | ⟨y, h⟩ <;> simp [h]
theorem runP_len (d : Dec) (l : List UInt8) : (runP d l).2.length ≤ 2 * l.length := by
  induction l generalizing d with
  | nil => simp [runP]
  | cons b l ih => simp only [runP, List.length_append, List.length_cons]; have := ih (byteL d b.toNat).1; have := byteL_len d b.toNat; omega

theorem arr_sl {h : Heap} {ar : Nat} {l : List Int} (hg : h.get ar = some (.cells 50 .own [.int .i32 (l.getD 0 0), .int .i32 (l.getD 1 0)])) (hl : l.length ≤ 2) : Sl encI 1 h (.slice ar 0 l.length 2) l := by
  refine .inr ⟨ar, 0, 2, 50, .own, _, rfl, hl, hg, fun i x hx => ?_⟩
  match l, hl, i, hx with
  | [a], _, 0, hx => simp at hx; subst hx; rfl
  | [a, b], _, 0, hx => simp at hx; subst hx; rfl
  | [a, b], _, 1, hx => simp at hx; subst hx; rfl
  | [a], _, i + 1, hx => simp at hx
  | [a, b], _, i + 2, hx => simp at hx
  | [], _, i, hx => simp at hx

def I11 (s : List UInt8) (h : Heap) : Nat → List AV → Heap → Prop := fun n e h' => ∃ (k : Nat) (out : SV), EnvIs 37 [(0, .sc (.str s)), (3, .sc out), (4, .sc (.ptr h.n 0)), (11, .sc (.int .i64 (s.length : Int))), (12, .sc (.int .i64 (k : Int)))] e ∧ k ≤ s.length ∧ n = s.length - k ∧ Sub h h' ∧ h.n + 1 ≤ h'.n ∧ HasD h.n (runP dec0 (s.take k)).1 h' ∧ Acc (h.n + 1) encI 1 21 h' out (runP dec0 (s.take k)).2

theorem w10 (s : List UInt8) (h : Heap) (hl : s.length ≤ 20000) : W DD (.call 10 [.sc (.str s)] h) (fun _ vs h' => ∃ v, vs = [v] ∧ ∃ u, v = .sc u ∧ Sl encI 1 h' u (allP s) ∧ Sub h h') := by
  refine W_enter d10 ?_
  show W _ (.code m10_code [.sc (.str s), undefA, undefA, undefA, undefA, undefA, undefA, undefA, undefA, undefA, undefA, undefA, undefA, undefA, undefA, undefA, undefA, undefA, undefA, undefA, undefA, undefA, undefA, undefA, undefA, undefA, undefA, undefA, undefA, undefA, undefA, undefA, undefA, undefA, undefA, undefA, undefA] _) _
  unfold m10_code
  repeat' (first
    | refine W_fast rfl ?_
    | (refine W_allocT ?_; intro h1 hd hs1 hn1; refine W_norm rfl ?_)
    | refine W_seq ?_
    | refine W_ops ?_
    | refine W_nil ?_
    | refine seqK_n ?_
    | refine seqK_r ?_
    | refine seqK_x ?_
    | refine blockK_r ?_
    | refine blockK_n ?_
    | refine blockK_e ?_
    | refine blockK_x rfl ?_
    | refine loopK_x ?_
    | refine loopK_r ?_
    | refine invK_x ?_
    | refine invK_r ?_
    | refine invK_n ?_
    | refine W_guard_on rfl ?_
    | refine W_guard_off rfl rfl (W_norm rfl ?_)
    | refine W_guard_u rfl (W_norm rfl ?_)
    | refine W_pick_t rfl rfl (W_norm rfl ?_)
    | refine W_pick_f rfl rfl (W_norm rfl ?_)
    | refine W_skip ?_
    | refine W_ret ?_
    | refine W_exit ?_
    | refine W_cond_t rfl ?_
    | refine W_cond_f rfl ?_
    | refine W_block ?_
    | refine W_draw rfl ?_
    | refine W_add rfl rfl (IntWalk.i64_in _ (by omega)) (W_norm rfl ?_)
    | refine W_add rfl rfl (IntWalk.i32_in _ (by omega)) (W_norm rfl ?_)
    | refine W_add rfl rfl (IntWalk.u8_in _ (by omega)) (W_norm rfl ?_)
    | refine W_sub rfl rfl (IntWalk.i64_in _ (by omega)) (W_norm rfl ?_)
    | refine W_sub rfl rfl (IntWalk.i32_in _ (by omega)) (W_norm rfl ?_)
    | refine W_sub rfl rfl (IntWalk.u8_in _ (by omega)) (W_norm rfl ?_)
    | refine W_mul rfl rfl (IntWalk.i64_in _ (by omega)) (W_norm rfl ?_)
    | refine W_mul rfl rfl (IntWalk.i32_in _ (by omega)) (W_norm rfl ?_)
    | refine W_mul rfl rfl (IntWalk.u8_in _ (by omega)) (W_norm rfl ?_)
    | refine W_convint rfl (IntWalk.i64_in _ (by omega)) (W_norm rfl ?_)
    | refine W_convint rfl (IntWalk.i32_in _ (by omega)) (W_norm rfl ?_)
    | refine W_convint rfl (IntWalk.u8_in _ (by omega)) (W_norm rfl ?_)
    | refine W_div rfl rfl (by omega) (W_norm rfl ?_)
    | refine W_mod rfl rfl (by omega) (W_norm rfl ?_)
    | refine W_indexSlice rfl rfl ⟨by omega, by omega⟩ (W_norm rfl ?_)
    | refine W_indexArr rfl rfl ⟨by omega, by omega⟩ (W_norm rfl ?_)
    | refine W_alloc (W_norm rfl ?_)
    | (refine W_guardT rfl (fun hc => ?_) (fun hc => ?_) <;> (try rw [hc]) <;> (try simp only [cleanS, reduceCtorEq] at hc) <;> (try (exfalso; omega)) <;> (try refine W_norm rfl ?_))
    | (refine W_guardF rfl (fun hc => ?_) (fun hc => ?_) <;> (try rw [hc]) <;> (try simp only [cleanS, reduceCtorEq] at hc) <;> (try (exfalso; omega)) <;> (try refine W_norm rfl ?_))
    | (refine W_cond rfl (fun hc => ?_) (fun hc => ?_) <;> (try rw [hc]) <;> (try simp only [cleanS, reduceCtorEq] at hc) <;> (try (exfalso; omega)) <;> (try refine W_norm rfl ?_))
    | (refine W_pick rfl (fun hc => ?_) (fun hc => ?_) <;> (try rw [hc]) <;> (try simp only [cleanS, reduceCtorEq] at hc) <;> (try (exfalso; omega)) <;> (try refine W_norm rfl ?_))
    | refine W_add rfl rfl rfl (W_norm rfl ?_)
    | refine W_sub rfl rfl rfl (W_norm rfl ?_)
    | refine W_mul rfl rfl rfl (W_norm rfl ?_)
    | (refine fnK_r rfl ?_; try dsimp only [gd_z, gd_s])
    | (refine fnK_n rfl ?_; try dsimp only [gd_z, gd_s]))
  refine W_loop (I11 s h) s.length ⟨0, .nils, ⟨rfl, rfl, rfl, rfl, rfl, rfl, trivial⟩, by omega, by omega, hs1, by omega, hd, Acc.nil _ _ _⟩ ?_
  rintro n _ h2 ⟨k, out, he, hk, rfl, hs, hn, hd, ha⟩
  obtain ⟨us, rfl⟩ := he.list
  show W _ (.code _ [.sc (.str s), us 1, us 2, .sc out, .sc (.ptr h.n 0), us 5, us 6, us 7, us 8, us 9, us 10, .sc (.int .i64 (s.length : Int)), .sc (.int .i64 (k : Int)), us 13, us 14, us 15, us 16, us 17, us 18, us 19, us 20, us 21, us 22, us 23, us 24, us 25, us 26, us 27, us 28, us 29, us 30, us 31, us 32, us 33, us 34, us 35, us 36] _) _
  unfold m10_l4
  have hlen := runP_len dec0 (s.take k)
  rw [List.length_take] at hlen
  have hok := run_ok (s.take k)
  by_cases hlt : k < s.length
  · have hb : 0 ≤ ((s.getD (k : Int).toNat 0).toNat : Int) ∧ ((s.getD (k : Int).toNat 0).toNat : Int) < 256 := by have := (s.getD (k : Int).toNat 0).toNat_lt; omega
    have hbl := byteL_len (runP dec0 (s.take k)).1 ((s.getD (k : Int).toNat 0).toNat : Int)
    repeat' (first
      | refine W_fast rfl ?_
      | refine W_idxStr rfl rfl ⟨by omega, by omega⟩ (W_norm rfl ?_)
      | (refine W_callsN 23 rfl (w23 _ _ _ _ hb hd hok) rfl ?_; rintro _ h3 ⟨rfl, hd3, hm3⟩; unfold outA; refine W_norm rfl ?_)
      | (refine W_allocT ?_; intro h4 hr4 hs4 hn4; refine W_norm rfl ?_)
      | (refine W_storeT hr4 rfl rfl rfl (by decide) rfl rfl ?_; intro h5 ht5; have hs5 := hs4.fresh (Nat.le_refl _) ht5; refine W_norm rfl ?_)
      | refine W_sliceArrTo ht5.new rfl rfl ⟨by omega, by omega, by decide⟩ (W_norm rfl ?_)
      | (refine W_appendSl ((ha.mod hm3 (by omega)).sub hs5) (arr_sl ht5.new hbl) rfl rfl (fun _ => rfl) (by decide) (Nat.le_trans hn (Nat.le_trans hm3.1 hs5.1)) ⟨by decide, by omega⟩ ?_; intro v6 h6 ha6 hk6; refine W_norm rfl ?_)
      | refine W_seq ?_
      | refine W_ops ?_
      | refine W_nil ?_
      | refine seqK_n ?_
      | refine seqK_r ?_
      | refine seqK_x ?_
      | refine blockK_r ?_
      | refine blockK_n ?_
      | refine blockK_e ?_
      | refine blockK_x rfl ?_
      | refine loopK_x ?_
      | refine loopK_r ?_
      | refine invK_x ?_
      | refine invK_r ?_
      | refine invK_n ?_
      | refine W_guard_on rfl ?_
      | refine W_guard_off rfl rfl (W_norm rfl ?_)
      | refine W_guard_u rfl (W_norm rfl ?_)
      | refine W_pick_t rfl rfl (W_norm rfl ?_)
      | refine W_pick_f rfl rfl (W_norm rfl ?_)
      | refine W_skip ?_
      | refine W_ret ?_
      | refine W_exit ?_
      | refine W_cond_t rfl ?_
      | refine W_cond_f rfl ?_
      | refine W_block ?_
      | refine W_draw rfl ?_
      | refine W_add rfl rfl (IntWalk.i64_in _ (by omega)) (W_norm rfl ?_)
      | refine W_add rfl rfl (IntWalk.i32_in _ (by omega)) (W_norm rfl ?_)
      | refine W_add rfl rfl (IntWalk.u8_in _ (by omega)) (W_norm rfl ?_)
      | refine W_sub rfl rfl (IntWalk.i64_in _ (by omega)) (W_norm rfl ?_)
      | refine W_sub rfl rfl (IntWalk.i32_in _ (by omega)) (W_norm rfl ?_)
      | refine W_sub rfl rfl (IntWalk.u8_in _ (by omega)) (W_norm rfl ?_)
      | refine W_mul rfl rfl (IntWalk.i64_in _ (by omega)) (W_norm rfl ?_)
      | refine W_mul rfl rfl (IntWalk.i32_in _ (by omega)) (W_norm rfl ?_)
      | refine W_mul rfl rfl (IntWalk.u8_in _ (by omega)) (W_norm rfl ?_)
      | refine W_convint rfl (IntWalk.i64_in _ (by omega)) (W_norm rfl ?_)
      | refine W_convint rfl (IntWalk.i32_in _ (by omega)) (W_norm rfl ?_)
      | refine W_convint rfl (IntWalk.u8_in _ (by omega)) (W_norm rfl ?_)
      | refine W_div rfl rfl (by omega) (W_norm rfl ?_)
      | refine W_mod rfl rfl (by omega) (W_norm rfl ?_)
      | refine W_indexSlice rfl rfl ⟨by omega, by omega⟩ (W_norm rfl ?_)
      | refine W_indexArr rfl rfl ⟨by omega, by omega⟩ (W_norm rfl ?_)
      | refine W_alloc (W_norm rfl ?_)
      | (refine W_guardT rfl (fun hc => ?_) (fun hc => ?_) <;> (try rw [hc]) <;> (try simp only [cleanS, reduceCtorEq] at hc) <;> (try (exfalso; omega)) <;> (try refine W_norm rfl ?_))
      | (refine W_guardF rfl (fun hc => ?_) (fun hc => ?_) <;> (try rw [hc]) <;> (try simp only [cleanS, reduceCtorEq] at hc) <;> (try (exfalso; omega)) <;> (try refine W_norm rfl ?_))
      | (refine W_cond rfl (fun hc => ?_) (fun hc => ?_) <;> (try rw [hc]) <;> (try simp only [cleanS, reduceCtorEq] at hc) <;> (try (exfalso; omega)) <;> (try refine W_norm rfl ?_))
      | (refine W_pick rfl (fun hc => ?_) (fun hc => ?_) <;> (try rw [hc]) <;> (try simp only [cleanS, reduceCtorEq] at hc) <;> (try (exfalso; omega)) <;> (try refine W_norm rfl ?_))
      | refine W_add rfl rfl rfl (W_norm rfl ?_)
      | refine W_sub rfl rfl rfl (W_norm rfl ?_)
      | refine W_mul rfl rfl rfl (W_norm rfl ?_)
      | (refine fnK_r rfl ?_; try dsimp only [gd_z, gd_s])
      | (refine fnK_n rfl ?_; try dsimp only [gd_z, gd_s]))
    refine ⟨_, by omega, k + 1, v6, ⟨rfl, rfl, rfl, rfl, rfl, rfl, trivial⟩, by omega, rfl, ((hs.mod hm3 (Nat.le_refl _)).trans hs5).keep (hk6.le (by omega)), Nat.le_trans hn (Nat.le_trans hm3.1 (Nat.le_trans hs5.1 hk6.1)), ?_, ?_⟩
    · rw [runP_take hlt]; exact hk6.get (by omega) (hs5.2 _ _ hd3)
    · rw [runP_take hlt]; exact ha6
  · rw [List.take_of_length_le (by omega)] at hd ha hlen
    by_cases hz : (runP dec0 s).1.kept = 0
    · have he1 : endL (runP dec0 s).1 = (0, false) := by unfold endL; rw [if_pos hz]
      repeat' (first
        | refine W_fast rfl ?_
        | (refine W_callsN 24 rfl (w24 _ _ _ hd) rfl ?_; rintro _ h3 ⟨rfl, hd3, hm3⟩; rw [he1]; refine W_norm rfl ?_)
        | refine W_seq ?_
        | refine W_ops ?_
        | refine W_nil ?_
        | refine seqK_n ?_
        | refine seqK_r ?_
        | refine seqK_x ?_
        | refine blockK_r ?_
        | refine blockK_n ?_
        | refine blockK_e ?_
        | refine blockK_x rfl ?_
        | refine loopK_x ?_
        | refine loopK_r ?_
        | refine invK_x ?_
        | refine invK_r ?_
        | refine invK_n ?_
        | refine W_guard_on rfl ?_
        | refine W_guard_off rfl rfl (W_norm rfl ?_)
        | refine W_guard_u rfl (W_norm rfl ?_)
        | refine W_pick_t rfl rfl (W_norm rfl ?_)
        | refine W_pick_f rfl rfl (W_norm rfl ?_)
        | refine W_skip ?_
        | refine W_ret ?_
        | refine W_exit ?_
        | refine W_cond_t rfl ?_
        | refine W_cond_f rfl ?_
        | refine W_block ?_
        | refine W_draw rfl ?_
        | refine W_add rfl rfl (IntWalk.i64_in _ (by omega)) (W_norm rfl ?_)
        | refine W_add rfl rfl (IntWalk.i32_in _ (by omega)) (W_norm rfl ?_)
        | refine W_add rfl rfl (IntWalk.u8_in _ (by omega)) (W_norm rfl ?_)
        | refine W_sub rfl rfl (IntWalk.i64_in _ (by omega)) (W_norm rfl ?_)
        | refine W_sub rfl rfl (IntWalk.i32_in _ (by omega)) (W_norm rfl ?_)
        | refine W_sub rfl rfl (IntWalk.u8_in _ (by omega)) (W_norm rfl ?_)
        | refine W_mul rfl rfl (IntWalk.i64_in _ (by omega)) (W_norm rfl ?_)
        | refine W_mul rfl rfl (IntWalk.i32_in _ (by omega)) (W_norm rfl ?_)
        | refine W_mul rfl rfl (IntWalk.u8_in _ (by omega)) (W_norm rfl ?_)
        | refine W_convint rfl (IntWalk.i64_in _ (by omega)) (W_norm rfl ?_)
        | refine W_convint rfl (IntWalk.i32_in _ (by omega)) (W_norm rfl ?_)
        | refine W_convint rfl (IntWalk.u8_in _ (by omega)) (W_norm rfl ?_)
        | refine W_div rfl rfl (by omega) (W_norm rfl ?_)
        | refine W_mod rfl rfl (by omega) (W_norm rfl ?_)
        | refine W_indexSlice rfl rfl ⟨by omega, by omega⟩ (W_norm rfl ?_)
        | refine W_indexArr rfl rfl ⟨by omega, by omega⟩ (W_norm rfl ?_)
        | refine W_alloc (W_norm rfl ?_)
        | (refine W_guardT rfl (fun hc => ?_) (fun hc => ?_) <;> (try rw [hc]) <;> (try simp only [cleanS, reduceCtorEq] at hc) <;> (try (exfalso; omega)) <;> (try refine W_norm rfl ?_))
        | (refine W_guardF rfl (fun hc => ?_) (fun hc => ?_) <;> (try rw [hc]) <;> (try simp only [cleanS, reduceCtorEq] at hc) <;> (try (exfalso; omega)) <;> (try refine W_norm rfl ?_))
        | (refine W_cond rfl (fun hc => ?_) (fun hc => ?_) <;> (try rw [hc]) <;> (try simp only [cleanS, reduceCtorEq] at hc) <;> (try (exfalso; omega)) <;> (try refine W_norm rfl ?_))
        | (refine W_pick rfl (fun hc => ?_) (fun hc => ?_) <;> (try rw [hc]) <;> (try simp only [cleanS, reduceCtorEq] at hc) <;> (try (exfalso; omega)) <;> (try refine W_norm rfl ?_))
        | refine W_add rfl rfl rfl (W_norm rfl ?_)
        | refine W_sub rfl rfl rfl (W_norm rfl ?_)
        | refine W_mul rfl rfl rfl (W_norm rfl ?_)
        | (refine fnK_r rfl ?_; try dsimp only [gd_z, gd_s])
        | (refine fnK_n rfl ?_; try dsimp only [gd_z, gd_s]))
      refine ⟨_, rfl, out, rfl, ?_, hs.mod hm3 (Nat.le_refl _)⟩
      have := Acc.sl (enc := encI) (n := 1) (fun _ => rfl) (ha.mod hm3 (by omega))
      unfold allP tailP
      rw [if_pos hz, List.append_nil]
      exact this
    · have he1 : endL (runP dec0 s).1 = (65533, true) := by unfold endL; rw [if_neg hz]
      repeat' (first
        | refine W_fast rfl ?_
        | (refine W_callsN 24 rfl (w24 _ _ _ hd) rfl ?_; rintro _ h3 ⟨rfl, hd3, hm3⟩; rw [he1]; refine W_norm rfl ?_)
        | refine W_buildSlice (cs := [.int .i32 65533]) rfl (W_norm rfl ?_)
        | (refine W_appendSl ((ha.mod hm3 (by omega)).sub (Sub.push _ _)) (Sl.whole (enc := encI) (n := 1) (L := [65533]) (fun _ => rfl) (Heap.get_push_new _ _)) rfl rfl (fun _ => rfl) (by decide) (Nat.le_trans hn (Nat.le_trans hm3.1 (Sub.push _ _).1)) ⟨by decide, by simp only [List.length_cons, List.length_nil]; omega⟩ ?_; intro v6 h6 ha6 hk6; refine W_norm rfl ?_)
        | refine W_seq ?_
        | refine W_ops ?_
        | refine W_nil ?_
        | refine seqK_n ?_
        | refine seqK_r ?_
        | refine seqK_x ?_
        | refine blockK_r ?_
        | refine blockK_n ?_
        | refine blockK_e ?_
        | refine blockK_x rfl ?_
        | refine loopK_x ?_
        | refine loopK_r ?_
        | refine invK_x ?_
        | refine invK_r ?_
        | refine invK_n ?_
        | refine W_guard_on rfl ?_
        | refine W_guard_off rfl rfl (W_norm rfl ?_)
        | refine W_guard_u rfl (W_norm rfl ?_)
        | refine W_pick_t rfl rfl (W_norm rfl ?_)
        | refine W_pick_f rfl rfl (W_norm rfl ?_)
        | refine W_skip ?_
        | refine W_ret ?_
        | refine W_exit ?_
        | refine W_cond_t rfl ?_
        | refine W_cond_f rfl ?_
        | refine W_block ?_
        | refine W_draw rfl ?_
        | refine W_add rfl rfl (IntWalk.i64_in _ (by omega)) (W_norm rfl ?_)
        | refine W_add rfl rfl (IntWalk.i32_in _ (by omega)) (W_norm rfl ?_)
        | refine W_add rfl rfl (IntWalk.u8_in _ (by omega)) (W_norm rfl ?_)
        | refine W_sub rfl rfl (IntWalk.i64_in _ (by omega)) (W_norm rfl ?_)
        | refine W_sub rfl rfl (IntWalk.i32_in _ (by omega)) (W_norm rfl ?_)
        | refine W_sub rfl rfl (IntWalk.u8_in _ (by omega)) (W_norm rfl ?_)
        | refine W_mul rfl rfl (IntWalk.i64_in _ (by omega)) (W_norm rfl ?_)
        | refine W_mul rfl rfl (IntWalk.i32_in _ (by omega)) (W_norm rfl ?_)
        | refine W_mul rfl rfl (IntWalk.u8_in _ (by omega)) (W_norm rfl ?_)
        | refine W_convint rfl (IntWalk.i64_in _ (by omega)) (W_norm rfl ?_)
        | refine W_convint rfl (IntWalk.i32_in _ (by omega)) (W_norm rfl ?_)
        | refine W_convint rfl (IntWalk.u8_in _ (by omega)) (W_norm rfl ?_)
        | refine W_div rfl rfl (by omega) (W_norm rfl ?_)
        | refine W_mod rfl rfl (by omega) (W_norm rfl ?_)
        | refine W_indexSlice rfl rfl ⟨by omega, by omega⟩ (W_norm rfl ?_)
        | refine W_indexArr rfl rfl ⟨by omega, by omega⟩ (W_norm rfl ?_)
        | refine W_alloc (W_norm rfl ?_)
        | (refine W_guardT rfl (fun hc => ?_) (fun hc => ?_) <;> (try rw [hc]) <;> (try simp only [cleanS, reduceCtorEq] at hc) <;> (try (exfalso; omega)) <;> (try refine W_norm rfl ?_))
        | (refine W_guardF rfl (fun hc => ?_) (fun hc => ?_) <;> (try rw [hc]) <;> (try simp only [cleanS, reduceCtorEq] at hc) <;> (try (exfalso; omega)) <;> (try refine W_norm rfl ?_))
        | (refine W_cond rfl (fun hc => ?_) (fun hc => ?_) <;> (try rw [hc]) <;> (try simp only [cleanS, reduceCtorEq] at hc) <;> (try (exfalso; omega)) <;> (try refine W_norm rfl ?_))
        | (refine W_pick rfl (fun hc => ?_) (fun hc => ?_) <;> (try rw [hc]) <;> (try simp only [cleanS, reduceCtorEq] at hc) <;> (try (exfalso; omega)) <;> (try refine W_norm rfl ?_))
        | refine W_add rfl rfl rfl (W_norm rfl ?_)
        | refine W_sub rfl rfl rfl (W_norm rfl ?_)
        | refine W_mul rfl rfl rfl (W_norm rfl ?_)
        | (refine fnK_r rfl ?_; try dsimp only [gd_z, gd_s])
        | (refine fnK_n rfl ?_; try dsimp only [gd_z, gd_s]))
      refine ⟨_, rfl, v6, rfl, ?_, ((hs.mod hm3 (Nat.le_refl _)).trans (Sub.push _ _)).keep (hk6.le (by omega))⟩
      have := Acc.sl (enc := encI) (n := 1) (fun _ => rfl) ha6
      unfold allP tailP
      rw [if_neg hz]
      exact this
end Go.Proofs.YtggkbkbhegcbkaaDoor
/- The reference's side: the shapes, whether bytes begin a character, its number. -/
set_option linter.unusedSimpArgs false
set_option linter.unusedVariables false
set_option maxHeartbeats 1000000
set_option maxRecDepth 100000
namespace Go.Proofs.YtggkbkbhegcbkaaDoor
open Go Go.Jx

/-- All that was made since: the i-th new object. -/
structure Made (h0 : Heap) (k : Nat) (L : List AO) (h : Heap) : Prop where
  n : h.n = h0.n + k
  len : L.length = k
  sub : Sub h0 h
  all : ∀ (i : Nat) (o : AO), L[i]? = some o → h.get (h0.n + i) = some o
theorem Made.start (h : Heap) : Made h 0 [] h := ⟨rfl, rfl, Sub.refl _, fun i o e => by simp at e⟩
theorem Made.push {h0 h : Heap} {k : Nat} {L : List AO} (m : Made h0 k L h) (a : AO) : Made h0 (k + 1) (L ++ [a]) (h.push a) := by
  refine ⟨by show h.n + 1 = _; rw [m.n]; rfl, by rw [List.length_append, m.len]; rfl, m.sub.trans (Sub.push _ _), fun i o e => ?_⟩
  by_cases hi : i < L.length
  · rw [List.getElem?_append_left hi] at e
    exact (Sub.push _ _).2 _ _ (m.all _ _ e)
  · rw [List.getElem?_append_right (by omega)] at e
    have h0 : i - L.length = 0 := by
      have := (List.getElem?_eq_some_iff.1 e).1
      simp at this; omega
    rw [h0] at e
    cases e
    have : i = k := by have := m.len; omega
    subst this
    rw [← m.n]
    exact Heap.get_push_new _ _
/-- Filling, with the list spelt at each step. -/
def fillN (cells : List SV) : List (Nat × Nat × AV) → Option (List SV)
  | [] => some cells
  | (off, size, v) :: r =>
    match cellsOfAV v with
    | none => none
    | some vs => if vs.length = size then (match (writeN cells off vs).bind normC with | some c => fillN c r | none => none) else none
theorem fillN_eq (l : List (Nat × Nat × AV)) (cells : List SV) : fillN cells l = fillA cells l := by
  induction l generalizing cells with
  | nil => rfl
  | cons p r ih =>
    obtain ⟨off, size, v⟩ := p
    unfold fillN fillA
    cases cellsOfAV v with
    | none => rfl
    | some vs =>
      simp only
      split
      · cases hw : writeN cells off vs with
        | none => rfl
        | some c => simp only [Option.bind_some, normC_eq, ih]
      · rfl
theorem W_buildSliceM {D : Nat → Option MFunc} {Q : Ex → List AV → Heap → Prop} {e : List AV} {h h0 : Heap} {m : Nat} {L : List AO} {dst : Option Nat} {r : List MI} {t : TypeId} {size len : Nat} {zero cs : List SV} {parts : List (Nat × Nat × Rnd)} (hm : Made h0 m L h)
    (hf : ((some (zerosA zero len)).bind normC).bind (fun z => fillN z (parts.map fun p => (p.1, p.2.1, rd e p.2.2))) = some cs)
    (k : ∀ h', Made h0 (m + 1) (L ++ [.cells t .own cs]) h' → W D (.ops r (put e dst (.sc (.slice (h0.n + m) 0 len len))) h') Q) : W D (.ops (⟨dst, .buildSlice t size len zero parts, none⟩ :: r) e h) Q := by
  rw [Option.bind_some, normC_eq, Option.bind_some, fillN_eq] at hf
  refine W_buildSlice hf ?_
  rw [hm.n]
  exact k _ (hm.push _)

def encP (p : Int × Int) : List SV := [.int .u8 p.1, .int .u8 p.2]
/-- A slice of slices. -/
def Shapes (h : Heap) (v : SV) : Prop := ∃ vs : List SV, Sl (fun s => [s]) 1 h v vs ∧ vs.length = 9 ∧ ∀ (i : Nat) (p : Shp), shapesL[i]? = some p → ∃ s, vs[i]? = some s ∧ Sl encP 2 h s p

theorem w74 (h : Heap) : W DD (.call 74 [] h) (fun _ vs h' => ∃ v, vs = [v] ∧ ∃ u, v = .sc u ∧ Shapes h' u ∧ Sub h h') := by
  refine W_enter d74 ?_
  show W _ (.code m74_code [undefA, undefA, undefA, undefA, undefA, undefA, undefA, undefA, undefA, undefA, undefA, undefA, undefA, undefA, undefA, undefA, undefA, undefA, undefA, undefA, undefA, undefA, undefA, undefA, undefA, undefA, undefA, undefA, undefA, undefA, undefA, undefA, undefA, undefA, undefA, undefA, undefA, undefA, undefA, undefA] _) _
  unfold m74_code
  repeat' (first
    | refine W_fast rfl ?_
    | (refine W_allocT ?_; intro h1 hd hs1 hn1; refine W_norm rfl ?_)
    | (refine W_storeT hd rfl rfl rfl (by decide) rfl rfl ?_; intro h2 ht2; have hs2 := hs1.fresh (Nat.le_refl _) ht2; have hb2 := ht2.new; have hh := Made.start h2; refine W_norm rfl ?_)
    | refine W_loadN (hh.sub.2 _ _ hb2) rfl rfl (W_norm rfl ?_)
    | (refine W_buildSliceM hh rfl ?_; clear hh; intro h3 hh; refine W_norm rfl ?_)
    | refine W_seq ?_
    | refine W_ops ?_
    | refine W_nil ?_
    | refine seqK_n ?_
    | refine seqK_r ?_
    | refine seqK_x ?_
    | refine blockK_r ?_
    | refine blockK_n ?_
    | refine blockK_e ?_
    | refine blockK_x rfl ?_
    | refine loopK_x ?_
    | refine loopK_r ?_
    | refine invK_x ?_
    | refine invK_r ?_
    | refine invK_n ?_
    | refine W_guard_on rfl ?_
    | refine W_guard_off rfl rfl (W_norm rfl ?_)
    | refine W_guard_u rfl (W_norm rfl ?_)
    | refine W_pick_t rfl rfl (W_norm rfl ?_)
    | refine W_pick_f rfl rfl (W_norm rfl ?_)
    | refine W_skip ?_
    | refine W_ret ?_
    | refine W_exit ?_
    | refine W_cond_t rfl ?_
    | refine W_cond_f rfl ?_
    | refine W_block ?_
    | refine W_draw rfl ?_
    | refine W_add rfl rfl (IntWalk.i64_in _ (by omega)) (W_norm rfl ?_)
    | refine W_add rfl rfl (IntWalk.i32_in _ (by omega)) (W_norm rfl ?_)
    | refine W_add rfl rfl (IntWalk.u8_in _ (by omega)) (W_norm rfl ?_)
    | refine W_sub rfl rfl (IntWalk.i64_in _ (by omega)) (W_norm rfl ?_)
    | refine W_sub rfl rfl (IntWalk.i32_in _ (by omega)) (W_norm rfl ?_)
    | refine W_sub rfl rfl (IntWalk.u8_in _ (by omega)) (W_norm rfl ?_)
    | refine W_mul rfl rfl (IntWalk.i64_in _ (by omega)) (W_norm rfl ?_)
    | refine W_mul rfl rfl (IntWalk.i32_in _ (by omega)) (W_norm rfl ?_)
    | refine W_mul rfl rfl (IntWalk.u8_in _ (by omega)) (W_norm rfl ?_)
    | refine W_convint rfl (IntWalk.i64_in _ (by omega)) (W_norm rfl ?_)
    | refine W_convint rfl (IntWalk.i32_in _ (by omega)) (W_norm rfl ?_)
    | refine W_convint rfl (IntWalk.u8_in _ (by omega)) (W_norm rfl ?_)
    | refine W_div rfl rfl (by omega) (W_norm rfl ?_)
    | refine W_mod rfl rfl (by omega) (W_norm rfl ?_)
    | refine W_indexSlice rfl rfl ⟨by omega, by omega⟩ (W_norm rfl ?_)
    | refine W_indexArr rfl rfl ⟨by omega, by omega⟩ (W_norm rfl ?_)
    | refine W_alloc (W_norm rfl ?_)
    | (refine W_guardT rfl (fun hc => ?_) (fun hc => ?_) <;> (try rw [hc]) <;> (try simp only [cleanS, reduceCtorEq] at hc) <;> (try (exfalso; omega)) <;> (try refine W_norm rfl ?_))
    | (refine W_guardF rfl (fun hc => ?_) (fun hc => ?_) <;> (try rw [hc]) <;> (try simp only [cleanS, reduceCtorEq] at hc) <;> (try (exfalso; omega)) <;> (try refine W_norm rfl ?_))
    | (refine W_cond rfl (fun hc => ?_) (fun hc => ?_) <;> (try rw [hc]) <;> (try simp only [cleanS, reduceCtorEq] at hc) <;> (try (exfalso; omega)) <;> (try refine W_norm rfl ?_))
    | (refine W_pick rfl (fun hc => ?_) (fun hc => ?_) <;> (try rw [hc]) <;> (try simp only [cleanS, reduceCtorEq] at hc) <;> (try (exfalso; omega)) <;> (try refine W_norm rfl ?_))
    | refine W_add rfl rfl rfl (W_norm rfl ?_)
    | refine W_sub rfl rfl rfl (W_norm rfl ?_)
    | refine W_mul rfl rfl rfl (W_norm rfl ?_)
    | (refine fnK_r rfl ?_; try dsimp only [gd_z, gd_s])
    | (refine fnK_n rfl ?_; try dsimp only [gd_z, gd_s]))
  refine ⟨_, rfl, _, rfl, ⟨_, Sl.whole (L := [_, _, _, _, _, _, _, _, _]) (fun _ => rfl) (hh.all 9 _ rfl), rfl, ?_⟩, hs2.trans hh.sub⟩
  intro i p hp
  match i, hp with
  | 0, hp => cases hp; exact ⟨_, rfl, Sl.whole (L := [(0, 127)]) (fun _ => rfl) (hh.all 0 _ rfl)⟩
  | 1, hp => cases hp; exact ⟨_, rfl, Sl.whole (L := [(194, 223), (128, 191)]) (fun _ => rfl) (hh.all 1 _ rfl)⟩
  | 2, hp => cases hp; exact ⟨_, rfl, Sl.whole (L := [(224, 224), (160, 191), (128, 191)]) (fun _ => rfl) (hh.all 2 _ rfl)⟩
  | 3, hp => cases hp; exact ⟨_, rfl, Sl.whole (L := [(225, 236), (128, 191), (128, 191)]) (fun _ => rfl) (hh.all 3 _ rfl)⟩
  | 4, hp => cases hp; exact ⟨_, rfl, Sl.whole (L := [(237, 237), (128, 159), (128, 191)]) (fun _ => rfl) (hh.all 4 _ rfl)⟩
  | 5, hp => cases hp; exact ⟨_, rfl, Sl.whole (L := [(238, 239), (128, 191), (128, 191)]) (fun _ => rfl) (hh.all 5 _ rfl)⟩
  | 6, hp => cases hp; exact ⟨_, rfl, Sl.whole (L := [(240, 240), (144, 191), (128, 191), (128, 191)]) (fun _ => rfl) (hh.all 6 _ rfl)⟩
  | 7, hp => cases hp; exact ⟨_, rfl, Sl.whole (L := [(241, 243), (128, 191), (128, 191), (128, 191)]) (fun _ => rfl) (hh.all 7 _ rfl)⟩
  | 8, hp => cases hp; exact ⟨_, rfl, Sl.whole (L := [(244, 244), (128, 143), (128, 191), (128, 191)]) (fun _ => rfl) (hh.all 8 _ rfl)⟩
  | i + 9, hp => cases hp
end Go.Proofs.YtggkbkbhegcbkaaDoor
/- The reference's side: the number of a character. -/
set_option linter.unusedSimpArgs false
set_option linter.unusedVariables false
set_option maxHeartbeats 1000000
set_option maxRecDepth 100000
namespace Go.Proofs.YtggkbkbhegcbkaaDoor
open Go Go.Jx

def ints (s : List UInt8) : List Int := s.map fun b => (b.toNat : Int)
theorem ints_length (s : List UInt8) : (ints s).length = s.length := List.length_map ..
theorem ints_get {s : List UInt8} {k : Nat} (hk : k < s.length) : (ints s)[k]? = some ((s.getD k 0).toNat : Int) := by
  rw [List.getD_eq_getElem?_getD, List.getElem?_eq_getElem hk]
  simp [ints, hk]
theorem ints_drop {s : List UInt8} {k : Nat} (hk : k < s.length) : (ints s).drop k = ((s.getD k 0).toNat : Int) :: (ints s).drop (k + 1) := by
  have h1 := ints_get hk
  have hk' : k < (ints s).length := by rw [ints_length]; exact hk
  rw [List.getElem?_eq_getElem hk'] at h1
  rw [List.drop_eq_getElem_cons hk', Option.some.inj h1]

theorem numL_cons (b : Int) (t : List Int) : numL (b :: t) = numGo (if t.length = 1 then b % 32 else if t.length = 2 then b % 16 else if t.length = 3 then b % 8 else b) t := rfl

def I19 (s : List UInt8) (h : Heap) : Nat → List AV → Heap → Prop := fun n e h' => ∃ (k : Nat) (x : Int), EnvIs 37 [(0, .sc (.str s)), (3, .sc (.int .i32 x)), (4, .sc (.int .i64 (k : Int)))] e ∧ 1 ≤ k ∧ k ≤ s.length ∧ n = s.length - k ∧ h' = h ∧ numL (ints s) = numGo x ((ints s).drop k) ∧ 0 ≤ x ∧ x < 256 * 64 ^ (k - 1)

theorem w65 (s : List UInt8) (h : Heap) (hl : 1 ≤ s.length ∧ s.length ≤ 4) : W DD (.call 65 [.sc (.str s)] h) (fun _ vs h' => ∃ v, vs = [v] ∧ v = .sc (.int .i32 (numL (ints s))) ∧ h' = h) := by
  have hb : ∀ k, 0 ≤ ((s.getD k 0).toNat : Int) ∧ ((s.getD k 0).toNat : Int) < 256 := fun k => by have := (s.getD k 0).toNat_lt; omega
  have hb0 := hb 0
  have hb0' := hb (0 : Int).toNat
  refine W_enter d65 ?_
  show W _ (.code m65_code [.sc (.str s), undefA, undefA, undefA, undefA, undefA, undefA, undefA, undefA, undefA, undefA, undefA, undefA, undefA, undefA, undefA, undefA, undefA, undefA, undefA, undefA, undefA, undefA, undefA, undefA, undefA, undefA, undefA, undefA, undefA, undefA, undefA, undefA, undefA, undefA, undefA, undefA] _) _
  unfold m65_code
  repeat' (first
    | refine W_fast rfl ?_
    | refine W_idxStr rfl rfl ⟨by omega, by omega⟩ (W_norm rfl ?_)
    | refine W_mod rfl rfl ⟨by omega, by omega⟩ (W_norm rfl ?_)
    | refine W_seq ?_
    | refine W_ops ?_
    | refine W_nil ?_
    | refine seqK_n ?_
    | refine seqK_r ?_
    | refine seqK_x ?_
    | refine blockK_r ?_
    | refine blockK_n ?_
    | refine blockK_e ?_
    | refine blockK_x rfl ?_
    | refine loopK_x ?_
    | refine loopK_r ?_
    | refine invK_x ?_
    | refine invK_r ?_
    | refine invK_n ?_
    | refine W_guard_on rfl ?_
    | refine W_guard_off rfl rfl (W_norm rfl ?_)
    | refine W_guard_u rfl (W_norm rfl ?_)
    | refine W_pick_t rfl rfl (W_norm rfl ?_)
    | refine W_pick_f rfl rfl (W_norm rfl ?_)
    | refine W_skip ?_
    | refine W_ret ?_
    | refine W_exit ?_
    | refine W_cond_t rfl ?_
    | refine W_cond_f rfl ?_
    | refine W_block ?_
    | refine W_draw rfl ?_
    | refine W_add rfl rfl (IntWalk.i64_in _ (by omega)) (W_norm rfl ?_)
    | refine W_add rfl rfl (IntWalk.i32_in _ (by omega)) (W_norm rfl ?_)
    | refine W_add rfl rfl (IntWalk.u8_in _ (by omega)) (W_norm rfl ?_)
    | refine W_sub rfl rfl (IntWalk.i64_in _ (by omega)) (W_norm rfl ?_)
    | refine W_sub rfl rfl (IntWalk.i32_in _ (by omega)) (W_norm rfl ?_)
    | refine W_sub rfl rfl (IntWalk.u8_in _ (by omega)) (W_norm rfl ?_)
    | refine W_mul rfl rfl (IntWalk.i64_in _ (by omega)) (W_norm rfl ?_)
    | refine W_mul rfl rfl (IntWalk.i32_in _ (by omega)) (W_norm rfl ?_)
    | refine W_mul rfl rfl (IntWalk.u8_in _ (by omega)) (W_norm rfl ?_)
    | refine W_convint rfl (IntWalk.i64_in _ (by omega)) (W_norm rfl ?_)
    | refine W_convint rfl (IntWalk.i32_in _ (by omega)) (W_norm rfl ?_)
    | refine W_convint rfl (IntWalk.u8_in _ (by omega)) (W_norm rfl ?_)
    | refine W_div rfl rfl (by omega) (W_norm rfl ?_)
    | refine W_mod rfl rfl (by omega) (W_norm rfl ?_)
    | refine W_indexSlice rfl rfl ⟨by omega, by omega⟩ (W_norm rfl ?_)
    | refine W_indexArr rfl rfl ⟨by omega, by omega⟩ (W_norm rfl ?_)
    | refine W_alloc (W_norm rfl ?_)
    | (refine W_guardT rfl (fun hc => ?_) (fun hc => ?_) <;> (try rw [hc]) <;> (try simp only [cleanS, reduceCtorEq] at hc) <;> (try (exfalso; omega)) <;> (try refine W_norm rfl ?_))
    | (refine W_guardF rfl (fun hc => ?_) (fun hc => ?_) <;> (try rw [hc]) <;> (try simp only [cleanS, reduceCtorEq] at hc) <;> (try (exfalso; omega)) <;> (try refine W_norm rfl ?_))
    | (refine W_cond rfl (fun hc => ?_) (fun hc => ?_) <;> (try rw [hc]) <;> (try simp only [cleanS, reduceCtorEq] at hc) <;> (try (exfalso; omega)) <;> (try refine W_norm rfl ?_))
    | (refine W_pick rfl (fun hc => ?_) (fun hc => ?_) <;> (try rw [hc]) <;> (try simp only [cleanS, reduceCtorEq] at hc) <;> (try (exfalso; omega)) <;> (try refine W_norm rfl ?_))
    | refine W_add rfl rfl rfl (W_norm rfl ?_)
    | refine W_sub rfl rfl rfl (W_norm rfl ?_)
    | refine W_mul rfl rfl rfl (W_norm rfl ?_)
    | (refine fnK_r rfl ?_; try dsimp only [gd_z, gd_s])
    | (refine fnK_n rfl ?_; try dsimp only [gd_z, gd_s]))
  all_goals
    have hd0 := ints_drop (s := s) (k := 0) (by omega)
    rw [List.drop_zero] at hd0
    have hlen1 : ((ints s).drop (0 + 1)).length = s.length - 1 := by rw [List.length_drop, ints_length]
    refine W_loop (I19 s h) (s.length - 1) ⟨1, _, ⟨rfl, rfl, rfl, rfl, trivial⟩, by omega, by omega, by omega, rfl, (by
      rw [hd0, numL_cons, hlen1]
      first
        | rw [if_pos (by omega)]; rfl
        | rw [if_neg (by omega), if_pos (by omega)]; rfl
        | rw [if_neg (by omega), if_neg (by omega), if_pos (by omega)]; rfl
        | rw [if_neg (by omega), if_neg (by omega), if_neg (by omega)]; rfl), by omega, by omega⟩ ?_
    rintro n _ _ ⟨k, x, he, hk1, hk, rfl, rfl, hx, hx0, hx1⟩
    obtain ⟨us, rfl⟩ := he.list
    show W _ (.code _ [.sc (.str s), us 1, us 2, .sc (.int .i32 x), .sc (.int .i64 (k : Int)), us 5, us 6, us 7, us 8, us 9, us 10, us 11, us 12, us 13, us 14, us 15, us 16, us 17, us 18, us 19, us 20, us 21, us 22, us 23, us 24, us 25, us 26, us 27, us 28, us 29, us 30, us 31, us 32, us 33, us 34, us 35, us 36] _) _
    unfold m65_l10
    have hbk := hb k
    have hbk' := hb (k : Int).toNat
    by_cases hlt : k < s.length
    · have hxb : x < 1048576 ∧ 64 * x + 63 < 256 * 64 ^ (k + 1 - 1) := by
        have : k = 1 ∨ k = 2 ∨ k = 3 := by omega
        rcases this with rfl | rfl | rfl <;> simp only [Nat.reduceSub, Nat.reduceAdd] at hx1 ⊢ <;> omega
      repeat' (first
        | refine W_fast rfl ?_
        | refine W_idxStr rfl rfl ⟨by omega, by omega⟩ (W_norm rfl ?_)
        | refine W_mod rfl rfl ⟨by omega, by omega⟩ (W_norm rfl ?_)
        | refine W_seq ?_
        | refine W_ops ?_
        | refine W_nil ?_
        | refine seqK_n ?_
        | refine seqK_r ?_
        | refine seqK_x ?_
        | refine blockK_r ?_
        | refine blockK_n ?_
        | refine blockK_e ?_
        | refine blockK_x rfl ?_
        | refine loopK_x ?_
        | refine loopK_r ?_
        | refine invK_x ?_
        | refine invK_r ?_
        | refine invK_n ?_
        | refine W_guard_on rfl ?_
        | refine W_guard_off rfl rfl (W_norm rfl ?_)
        | refine W_guard_u rfl (W_norm rfl ?_)
        | refine W_pick_t rfl rfl (W_norm rfl ?_)
        | refine W_pick_f rfl rfl (W_norm rfl ?_)
        | refine W_skip ?_
        | refine W_ret ?_
        | refine W_exit ?_
        | refine W_cond_t rfl ?_
        | refine W_cond_f rfl ?_
        | refine W_block ?_
        | refine W_draw rfl ?_
        | refine W_add rfl rfl (IntWalk.i64_in _ (by omega)) (W_norm rfl ?_)
        | refine W_add rfl rfl (IntWalk.i32_in _ (by omega)) (W_norm rfl ?_)
        | refine W_add rfl rfl (IntWalk.u8_in _ (by omega)) (W_norm rfl ?_)
        | refine W_sub rfl rfl (IntWalk.i64_in _ (by omega)) (W_norm rfl ?_)
        | refine W_sub rfl rfl (IntWalk.i32_in _ (by omega)) (W_norm rfl ?_)
        | refine W_sub rfl rfl (IntWalk.u8_in _ (by omega)) (W_norm rfl ?_)
        | refine W_mul rfl rfl (IntWalk.i64_in _ (by omega)) (W_norm rfl ?_)
        | refine W_mul rfl rfl (IntWalk.i32_in _ (by omega)) (W_norm rfl ?_)
        | refine W_mul rfl rfl (IntWalk.u8_in _ (by omega)) (W_norm rfl ?_)
        | refine W_convint rfl (IntWalk.i64_in _ (by omega)) (W_norm rfl ?_)
        | refine W_convint rfl (IntWalk.i32_in _ (by omega)) (W_norm rfl ?_)
        | refine W_convint rfl (IntWalk.u8_in _ (by omega)) (W_norm rfl ?_)
        | refine W_div rfl rfl (by omega) (W_norm rfl ?_)
        | refine W_mod rfl rfl (by omega) (W_norm rfl ?_)
        | refine W_indexSlice rfl rfl ⟨by omega, by omega⟩ (W_norm rfl ?_)
        | refine W_indexArr rfl rfl ⟨by omega, by omega⟩ (W_norm rfl ?_)
        | refine W_alloc (W_norm rfl ?_)
        | (refine W_guardT rfl (fun hc => ?_) (fun hc => ?_) <;> (try rw [hc]) <;> (try simp only [cleanS, reduceCtorEq] at hc) <;> (try (exfalso; omega)) <;> (try refine W_norm rfl ?_))
        | (refine W_guardF rfl (fun hc => ?_) (fun hc => ?_) <;> (try rw [hc]) <;> (try simp only [cleanS, reduceCtorEq] at hc) <;> (try (exfalso; omega)) <;> (try refine W_norm rfl ?_))
        | (refine W_cond rfl (fun hc => ?_) (fun hc => ?_) <;> (try rw [hc]) <;> (try simp only [cleanS, reduceCtorEq] at hc) <;> (try (exfalso; omega)) <;> (try refine W_norm rfl ?_))
        | (refine W_pick rfl (fun hc => ?_) (fun hc => ?_) <;> (try rw [hc]) <;> (try simp only [cleanS, reduceCtorEq] at hc) <;> (try (exfalso; omega)) <;> (try refine W_norm rfl ?_))
        | refine W_add rfl rfl rfl (W_norm rfl ?_)
        | refine W_sub rfl rfl rfl (W_norm rfl ?_)
        | refine W_mul rfl rfl rfl (W_norm rfl ?_)
        | (refine fnK_r rfl ?_; try dsimp only [gd_z, gd_s])
        | (refine fnK_n rfl ?_; try dsimp only [gd_z, gd_s]))
      all_goals
        refine ⟨_, by omega, k + 1, _, ⟨rfl, rfl, rfl, rfl, trivial⟩, by omega, by omega, rfl, rfl, ?_, by omega, by omega⟩
        rw [hx, ints_drop hlt]
        rfl
    · repeat' (first
        | refine W_fast rfl ?_
        | refine W_idxStr rfl rfl ⟨by omega, by omega⟩ (W_norm rfl ?_)
        | refine W_seq ?_
        | refine W_ops ?_
        | refine W_nil ?_
        | refine seqK_n ?_
        | refine seqK_r ?_
        | refine seqK_x ?_
        | refine blockK_r ?_
        | refine blockK_n ?_
        | refine blockK_e ?_
        | refine blockK_x rfl ?_
        | refine loopK_x ?_
        | refine loopK_r ?_
        | refine invK_x ?_
        | refine invK_r ?_
        | refine invK_n ?_
        | refine W_guard_on rfl ?_
        | refine W_guard_off rfl rfl (W_norm rfl ?_)
        | refine W_guard_u rfl (W_norm rfl ?_)
        | refine W_pick_t rfl rfl (W_norm rfl ?_)
        | refine W_pick_f rfl rfl (W_norm rfl ?_)
        | refine W_skip ?_
        | refine W_ret ?_
        | refine W_exit ?_
        | refine W_cond_t rfl ?_
        | refine W_cond_f rfl ?_
        | refine W_block ?_
        | refine W_draw rfl ?_
        | refine W_add rfl rfl (IntWalk.i64_in _ (by omega)) (W_norm rfl ?_)
        | refine W_add rfl rfl (IntWalk.i32_in _ (by omega)) (W_norm rfl ?_)
        | refine W_add rfl rfl (IntWalk.u8_in _ (by omega)) (W_norm rfl ?_)
        | refine W_sub rfl rfl (IntWalk.i64_in _ (by omega)) (W_norm rfl ?_)
        | refine W_sub rfl rfl (IntWalk.i32_in _ (by omega)) (W_norm rfl ?_)
        | refine W_sub rfl rfl (IntWalk.u8_in _ (by omega)) (W_norm rfl ?_)
        | refine W_mul rfl rfl (IntWalk.i64_in _ (by omega)) (W_norm rfl ?_)
        | refine W_mul rfl rfl (IntWalk.i32_in _ (by omega)) (W_norm rfl ?_)
        | refine W_mul rfl rfl (IntWalk.u8_in _ (by omega)) (W_norm rfl ?_)
        | refine W_convint rfl (IntWalk.i64_in _ (by omega)) (W_norm rfl ?_)
        | refine W_convint rfl (IntWalk.i32_in _ (by omega)) (W_norm rfl ?_)
        | refine W_convint rfl (IntWalk.u8_in _ (by omega)) (W_norm rfl ?_)
        | refine W_div rfl rfl (by omega) (W_norm rfl ?_)
        | refine W_mod rfl rfl (by omega) (W_norm rfl ?_)
        | refine W_indexSlice rfl rfl ⟨by omega, by omega⟩ (W_norm rfl ?_)
        | refine W_indexArr rfl rfl ⟨by omega, by omega⟩ (W_norm rfl ?_)
        | refine W_alloc (W_norm rfl ?_)
        | (refine W_guardT rfl (fun hc => ?_) (fun hc => ?_) <;> (try rw [hc]) <;> (try simp only [cleanS, reduceCtorEq] at hc) <;> (try (exfalso; omega)) <;> (try refine W_norm rfl ?_))
        | (refine W_guardF rfl (fun hc => ?_) (fun hc => ?_) <;> (try rw [hc]) <;> (try simp only [cleanS, reduceCtorEq] at hc) <;> (try (exfalso; omega)) <;> (try refine W_norm rfl ?_))
        | (refine W_cond rfl (fun hc => ?_) (fun hc => ?_) <;> (try rw [hc]) <;> (try simp only [cleanS, reduceCtorEq] at hc) <;> (try (exfalso; omega)) <;> (try refine W_norm rfl ?_))
        | (refine W_pick rfl (fun hc => ?_) (fun hc => ?_) <;> (try rw [hc]) <;> (try simp only [cleanS, reduceCtorEq] at hc) <;> (try (exfalso; omega)) <;> (try refine W_norm rfl ?_))
        | refine W_add rfl rfl rfl (W_norm rfl ?_)
        | refine W_sub rfl rfl rfl (W_norm rfl ?_)
        | refine W_mul rfl rfl rfl (W_norm rfl ?_)
        | (refine fnK_r rfl ?_; try dsimp only [gd_z, gd_s])
        | (refine fnK_n rfl ?_; try dsimp only [gd_z, gd_s]))
      rw [List.drop_eq_nil_of_le (by rw [ints_length]; omega)] at hx
      exact ⟨_, rfl, by rw [hx]; rfl, rfl⟩
end Go.Proofs.YtggkbkbhegcbkaaDoor
/- The reference's side: whether bytes begin a character. -/
set_option linter.unusedSimpArgs false
set_option linter.unusedVariables false
set_option maxHeartbeats 1000000
set_option maxRecDepth 100000
namespace Go.Proofs.YtggkbkbhegcbkaaDoor
open Go Go.Jx

theorem fitL_len : ∀ (s : List Int) (p : Shp), p.length < s.length → fitL s p = false
  | [], p, h => by simp at h
  | b :: s, [], h => rfl
  | b :: s, q :: p, h => by rw [fitL, fitL_len s p (by simpa using h), Bool.and_false]
theorem fitL_take : ∀ (s : List Int) (p : Shp) (j : Nat) (b : Int) (q : Int × Int), s[j]? = some b → p[j]? = some q → fitL (s.take (j + 1)) p = (fitL (s.take j) p && decide (q.1 ≤ b ∧ b ≤ q.2))
  | [], p, j, b, q, h, h' => by simp at h
  | a :: s, [], j, b, q, h, h' => by simp at h'
  | a :: s, r :: p, 0, b, q, h, h' => by
    simp only [List.getElem?_cons_zero, Option.some.injEq] at h h'
    subst h h'
    simp [fitL]
  | a :: s, r :: p, j + 1, b, q, h, h' => by
    have := fitL_take s p j b q (by simpa using h) (by simpa using h')
    rw [List.take_succ_cons, List.take_succ_cons, fitL, fitL, this, Bool.and_assoc]
theorem fitL_false : ∀ (s : List Int) (p : Shp) (j : Nat), fitL (s.take j) p = false → fitL s p = false
  | [], p, j, h => by simp [fitL] at h
  | a :: s, [], j, h => rfl
  | a :: s, r :: p, 0, h => by simp [fitL] at h
  | a :: s, r :: p, j + 1, h => by
    rw [List.take_succ_cons, fitL] at h
    rw [fitL]
    cases hd : decide (r.1 ≤ a ∧ a ≤ r.2) with
    | false => rfl
    | true => rw [hd, Bool.true_and] at h; rw [Bool.true_and]; exact fitL_false s p j h
theorem shapes_drop {i : Nat} {p : Shp} (h : shapesL[i]? = some p) : shapesL.drop i = p :: shapesL.drop (i + 1) := by
  obtain ⟨h1, h2⟩ := List.getElem?_eq_some_iff.1 h
  rw [List.drop_eq_getElem_cons h1, h2]
/-- A bound of a shape is a byte. -/
theorem shape_byte {i j : Nat} {p : Shp} {q : Int × Int} (h : shapesL[i]? = some p) (h' : p[j]? = some q) : 0 ≤ q.1 ∧ q.1 < 256 ∧ 0 ≤ q.2 ∧ q.2 < 256 := by
  have h1 := List.mem_of_getElem? h
  have h2 := List.mem_of_getElem? h'
  have : ∀ p ∈ shapesL, ∀ q ∈ p, 0 ≤ q.1 ∧ q.1 < 256 ∧ 0 ≤ q.2 ∧ q.2 < 256 := by decide
  exact this p h1 q h2

def I18 (s : List UInt8) (u : SV) (h1 : Heap) : Nat → List AV → Heap → Prop := fun n e h' => ∃ (i : Nat), EnvIs 69 [(0, .sc (.str s)), (3, .sc u), (4, .sc (.int .i64 (i : Int)))] e ∧ i ≤ 9 ∧ n = 9 - i ∧ h' = h1 ∧ beginsR (ints s) = scanS (ints s) (shapesL.drop i)
def J18 (s : List UInt8) (u : SV) (h1 : Heap) (p : Shp) (i : Nat) : Nat → List AV → Heap → Prop := fun n e h' => ∃ (j : Nat) (ok : Bool), EnvIs 69 [(0, .sc (.str s)), (3, .sc u), (4, .sc (.int .i64 (i : Int))), (5, .sc (.bool ok)), (6, .sc (.int .i64 (j : Int)))] e ∧ j ≤ s.length ∧ n = s.length - j ∧ h' = h1 ∧ ok = (decide (s.length ≤ p.length) && fitL ((ints s).take j) p)

theorem w64 (s : List UInt8) (h : Heap) (hl : s.length ≤ 100000) : W DD (.call 64 [.sc (.str s)] h) (fun _ vs h' => ∃ v, vs = [v] ∧ v = .sc (.int .i64 (beginsR (ints s))) ∧ Sub h h') := by
  refine W_enter d64 ?_
  show W _ (.code m64_code [.sc (.str s), undefA, undefA, undefA, undefA, undefA, undefA, undefA, undefA, undefA, undefA, undefA, undefA, undefA, undefA, undefA, undefA, undefA, undefA, undefA, undefA, undefA, undefA, undefA, undefA, undefA, undefA, undefA, undefA, undefA, undefA, undefA, undefA, undefA, undefA, undefA, undefA, undefA, undefA, undefA, undefA, undefA, undefA, undefA, undefA, undefA, undefA, undefA, undefA, undefA, undefA, undefA, undefA, undefA, undefA, undefA, undefA, undefA, undefA, undefA, undefA, undefA, undefA, undefA, undefA, undefA, undefA, undefA, undefA] _) _
  unfold m64_code
  repeat' (first
    | refine W_fast rfl ?_
    | (refine W_callsN 74 rfl (w74 _) rfl ?_; rintro _ h1 ⟨u, rfl, ⟨vs, hvs, hvl, hsh⟩, hs1⟩; refine W_norm rfl ?_)
    | refine W_seq ?_
    | refine W_ops ?_
    | refine W_nil ?_
    | refine seqK_n ?_
    | refine seqK_r ?_
    | refine seqK_x ?_
    | refine blockK_r ?_
    | refine blockK_n ?_
    | refine blockK_e ?_
    | refine blockK_x rfl ?_
    | refine loopK_x ?_
    | refine loopK_r ?_
    | refine invK_x ?_
    | refine invK_r ?_
    | refine invK_n ?_
    | refine W_guard_on rfl ?_
    | refine W_guard_off rfl rfl (W_norm rfl ?_)
    | refine W_guard_u rfl (W_norm rfl ?_)
    | refine W_pick_t rfl rfl (W_norm rfl ?_)
    | refine W_pick_f rfl rfl (W_norm rfl ?_)
    | refine W_skip ?_
    | refine W_ret ?_
    | refine W_exit ?_
    | refine W_cond_t rfl ?_
    | refine W_cond_f rfl ?_
    | refine W_block ?_
    | refine W_draw rfl ?_
    | refine W_add rfl rfl (IntWalk.i64_in _ (by omega)) (W_norm rfl ?_)
    | refine W_add rfl rfl (IntWalk.i32_in _ (by omega)) (W_norm rfl ?_)
    | refine W_add rfl rfl (IntWalk.u8_in _ (by omega)) (W_norm rfl ?_)
    | refine W_sub rfl rfl (IntWalk.i64_in _ (by omega)) (W_norm rfl ?_)
    | refine W_sub rfl rfl (IntWalk.i32_in _ (by omega)) (W_norm rfl ?_)
    | refine W_sub rfl rfl (IntWalk.u8_in _ (by omega)) (W_norm rfl ?_)
    | refine W_mul rfl rfl (IntWalk.i64_in _ (by omega)) (W_norm rfl ?_)
    | refine W_mul rfl rfl (IntWalk.i32_in _ (by omega)) (W_norm rfl ?_)
    | refine W_mul rfl rfl (IntWalk.u8_in _ (by omega)) (W_norm rfl ?_)
    | refine W_convint rfl (IntWalk.i64_in _ (by omega)) (W_norm rfl ?_)
    | refine W_convint rfl (IntWalk.i32_in _ (by omega)) (W_norm rfl ?_)
    | refine W_convint rfl (IntWalk.u8_in _ (by omega)) (W_norm rfl ?_)
    | refine W_div rfl rfl (by omega) (W_norm rfl ?_)
    | refine W_mod rfl rfl (by omega) (W_norm rfl ?_)
    | refine W_indexSlice rfl rfl ⟨by omega, by omega⟩ (W_norm rfl ?_)
    | refine W_indexArr rfl rfl ⟨by omega, by omega⟩ (W_norm rfl ?_)
    | refine W_alloc (W_norm rfl ?_)
    | (refine W_guardT rfl (fun hc => ?_) (fun hc => ?_) <;> (try rw [hc]) <;> (try simp only [cleanS, reduceCtorEq] at hc) <;> (try (exfalso; omega)) <;> (try refine W_norm rfl ?_))
    | (refine W_guardF rfl (fun hc => ?_) (fun hc => ?_) <;> (try rw [hc]) <;> (try simp only [cleanS, reduceCtorEq] at hc) <;> (try (exfalso; omega)) <;> (try refine W_norm rfl ?_))
    | (refine W_cond rfl (fun hc => ?_) (fun hc => ?_) <;> (try rw [hc]) <;> (try simp only [cleanS, reduceCtorEq] at hc) <;> (try (exfalso; omega)) <;> (try refine W_norm rfl ?_))
    | (refine W_pick rfl (fun hc => ?_) (fun hc => ?_) <;> (try rw [hc]) <;> (try simp only [cleanS, reduceCtorEq] at hc) <;> (try (exfalso; omega)) <;> (try refine W_norm rfl ?_))
    | refine W_add rfl rfl rfl (W_norm rfl ?_)
    | refine W_sub rfl rfl rfl (W_norm rfl ?_)
    | refine W_mul rfl rfl rfl (W_norm rfl ?_)
    | (refine fnK_r rfl ?_; try dsimp only [gd_z, gd_s])
    | (refine fnK_n rfl ?_; try dsimp only [gd_z, gd_s]))
  refine W_loop (I18 s u h1) 9 ⟨0, ⟨rfl, rfl, rfl, rfl, trivial⟩, by omega, rfl, rfl, rfl⟩ ?_
  rintro n _ h2 ⟨i, he, hi, rfl, rfl, hx⟩
  obtain ⟨us, rfl⟩ := he.list
  show W _ (.code _ [.sc (.str s), us 1, us 2, .sc u, .sc (.int .i64 (i : Int)), us 5, us 6, us 7, us 8, us 9, us 10, us 11, us 12, us 13, us 14, us 15, us 16, us 17, us 18, us 19, us 20, us 21, us 22, us 23, us 24, us 25, us 26, us 27, us 28, us 29, us 30, us 31, us 32, us 33, us 34, us 35, us 36, us 37, us 38, us 39, us 40, us 41, us 42, us 43, us 44, us 45, us 46, us 47, us 48, us 49, us 50, us 51, us 52, us 53, us 54, us 55, us 56, us 57, us 58, us 59, us 60, us 61, us 62, us 63, us 64, us 65, us 66, us 67, us 68] _) _
  unfold m64_l3
  by_cases hlt : i < 9
  · obtain ⟨p, hp⟩ : ∃ p, shapesL[i]? = some p := ⟨_, List.getElem?_eq_getElem hlt⟩
    obtain ⟨si, hsi, hss⟩ := hsh i p hp
    have hsi' : vs[(i : Int).toNat]? = some si := hsi
    repeat' (first
      | refine W_fast rfl ?_
      | refine W_lenSl hvs rfl (W_norm rfl ?_)
      | (refine W_indexSl hvs rfl rfl (by omega) hsi' ?_; rintro id1 o1 hp1; refine W_norm rfl ?_)
      | refine W_loadPt0 hp1 rfl rfl (W_norm rfl ?_)
      | refine W_lenSl hss rfl (W_norm rfl ?_)
      | refine W_seq ?_
      | refine W_ops ?_
      | refine W_nil ?_
      | refine seqK_n ?_
      | refine seqK_r ?_
      | refine seqK_x ?_
      | refine blockK_r ?_
      | refine blockK_n ?_
      | refine blockK_e ?_
      | refine blockK_x rfl ?_
      | refine loopK_x ?_
      | refine loopK_r ?_
      | refine invK_x ?_
      | refine invK_r ?_
      | refine invK_n ?_
      | refine W_guard_on rfl ?_
      | refine W_guard_off rfl rfl (W_norm rfl ?_)
      | refine W_guard_u rfl (W_norm rfl ?_)
      | refine W_pick_t rfl rfl (W_norm rfl ?_)
      | refine W_pick_f rfl rfl (W_norm rfl ?_)
      | refine W_skip ?_
      | refine W_ret ?_
      | refine W_exit ?_
      | refine W_cond_t rfl ?_
      | refine W_cond_f rfl ?_
      | refine W_block ?_
      | refine W_draw rfl ?_
      | refine W_add rfl rfl (IntWalk.i64_in _ (by omega)) (W_norm rfl ?_)
      | refine W_add rfl rfl (IntWalk.i32_in _ (by omega)) (W_norm rfl ?_)
      | refine W_add rfl rfl (IntWalk.u8_in _ (by omega)) (W_norm rfl ?_)
      | refine W_sub rfl rfl (IntWalk.i64_in _ (by omega)) (W_norm rfl ?_)
      | refine W_sub rfl rfl (IntWalk.i32_in _ (by omega)) (W_norm rfl ?_)
      | refine W_sub rfl rfl (IntWalk.u8_in _ (by omega)) (W_norm rfl ?_)
      | refine W_mul rfl rfl (IntWalk.i64_in _ (by omega)) (W_norm rfl ?_)
      | refine W_mul rfl rfl (IntWalk.i32_in _ (by omega)) (W_norm rfl ?_)
      | refine W_mul rfl rfl (IntWalk.u8_in _ (by omega)) (W_norm rfl ?_)
      | refine W_convint rfl (IntWalk.i64_in _ (by omega)) (W_norm rfl ?_)
      | refine W_convint rfl (IntWalk.i32_in _ (by omega)) (W_norm rfl ?_)
      | refine W_convint rfl (IntWalk.u8_in _ (by omega)) (W_norm rfl ?_)
      | refine W_div rfl rfl (by omega) (W_norm rfl ?_)
      | refine W_mod rfl rfl (by omega) (W_norm rfl ?_)
      | refine W_indexSlice rfl rfl ⟨by omega, by omega⟩ (W_norm rfl ?_)
      | refine W_indexArr rfl rfl ⟨by omega, by omega⟩ (W_norm rfl ?_)
      | refine W_alloc (W_norm rfl ?_)
      | (refine W_guardT rfl (fun hc => ?_) (fun hc => ?_) <;> (try rw [hc]) <;> (try simp only [cleanS, reduceCtorEq] at hc) <;> (try (exfalso; omega)) <;> (try refine W_norm rfl ?_))
      | (refine W_guardF rfl (fun hc => ?_) (fun hc => ?_) <;> (try rw [hc]) <;> (try simp only [cleanS, reduceCtorEq] at hc) <;> (try (exfalso; omega)) <;> (try refine W_norm rfl ?_))
      | (refine W_cond rfl (fun hc => ?_) (fun hc => ?_) <;> (try rw [hc]) <;> (try simp only [cleanS, reduceCtorEq] at hc) <;> (try (exfalso; omega)) <;> (try refine W_norm rfl ?_))
      | (refine W_pick rfl (fun hc => ?_) (fun hc => ?_) <;> (try rw [hc]) <;> (try simp only [cleanS, reduceCtorEq] at hc) <;> (try (exfalso; omega)) <;> (try refine W_norm rfl ?_))
      | refine W_add rfl rfl rfl (W_norm rfl ?_)
      | refine W_sub rfl rfl rfl (W_norm rfl ?_)
      | refine W_mul rfl rfl rfl (W_norm rfl ?_)
      | (refine fnK_r rfl ?_; try dsimp only [gd_z, gd_s])
      | (refine fnK_n rfl ?_; try dsimp only [gd_z, gd_s]))
    refine W_loop (J18 s u h2 p i) s.length ⟨0, _, ⟨rfl, rfl, rfl, rfl, rfl, rfl, trivial⟩, by omega, rfl, rfl, ?_⟩ ?_
    · rw [List.take_zero]; simp [fitL]
    rintro m _ h3 ⟨j, ok, he, hj, rfl, rfl, hok⟩
    obtain ⟨us, rfl⟩ := he.list
    show W _ (.code _ [.sc (.str s), us 1, us 2, .sc u, .sc (.int .i64 (i : Int)), .sc (.bool ok), .sc (.int .i64 (j : Int)), us 7, us 8, us 9, us 10, us 11, us 12, us 13, us 14, us 15, us 16, us 17, us 18, us 19, us 20, us 21, us 22, us 23, us 24, us 25, us 26, us 27, us 28, us 29, us 30, us 31, us 32, us 33, us 34, us 35, us 36, us 37, us 38, us 39, us 40, us 41, us 42, us 43, us 44, us 45, us 46, us 47, us 48, us 49, us 50, us 51, us 52, us 53, us 54, us 55, us 56, us 57, us 58, us 59, us 60, us 61, us 62, us 63, us 64, us 65, us 66, us 67, us 68] _) _
    unfold m64_l7
    cases ok with
    | true =>
      obtain ⟨hk1, hk2⟩ : s.length ≤ p.length ∧ fitL ((ints s).take j) p = true := by simpa using hok.symm
      by_cases hjl : j < s.length
      · obtain ⟨q, hq⟩ : ∃ q, p[(j : Int).toNat]? = some q := ⟨_, List.getElem?_eq_getElem (by show j < p.length; omega)⟩
        have hqb := shape_byte hp hq
        repeat' (first
          | refine W_fast rfl ?_
          | refine W_lenSl hvs rfl (W_norm rfl ?_)
          | (refine W_draw (by decide) ?_; dsimp only [m64_r9, List.map]; refine W_norm rfl ?_)
          | refine W_idxStr rfl rfl ⟨by omega, by omega⟩ (W_norm rfl ?_)
          | (refine W_indexSl hvs rfl rfl (by omega) hsi' ?_; rintro id1 o1 hp1; refine W_norm rfl ?_)
          | refine W_loadPt0 hp1 rfl rfl (W_norm rfl ?_)
          | (refine W_indexSl hss rfl rfl (by omega) hq ?_; rintro id2 o2 hp2; refine W_norm rfl ?_)
          | refine W_indexArr rfl rfl ⟨by omega, by omega⟩ (W_norm rfl ?_)
          | refine W_loadPt (f := 0) hp2 rfl rfl (W_norm rfl ?_)
          | refine W_loadPt (f := 1) hp2 rfl rfl (W_norm rfl ?_)
          | refine W_seq ?_
          | refine W_ops ?_
          | refine W_nil ?_
          | refine seqK_n ?_
          | refine seqK_r ?_
          | refine seqK_x ?_
          | refine blockK_r ?_
          | refine blockK_n ?_
          | refine blockK_e ?_
          | refine blockK_x rfl ?_
          | refine loopK_x ?_
          | refine loopK_r ?_
          | refine invK_x ?_
          | refine invK_r ?_
          | refine invK_n ?_
          | refine W_guard_on rfl ?_
          | refine W_guard_off rfl rfl (W_norm rfl ?_)
          | refine W_guard_u rfl (W_norm rfl ?_)
          | refine W_pick_t rfl rfl (W_norm rfl ?_)
          | refine W_pick_f rfl rfl (W_norm rfl ?_)
          | refine W_skip ?_
          | refine W_ret ?_
          | refine W_exit ?_
          | refine W_cond_t rfl ?_
          | refine W_cond_f rfl ?_
          | refine W_block ?_
          | refine W_draw rfl ?_
          | refine W_add rfl rfl (IntWalk.i64_in _ (by omega)) (W_norm rfl ?_)
          | refine W_add rfl rfl (IntWalk.i32_in _ (by omega)) (W_norm rfl ?_)
          | refine W_add rfl rfl (IntWalk.u8_in _ (by omega)) (W_norm rfl ?_)
          | refine W_sub rfl rfl (IntWalk.i64_in _ (by omega)) (W_norm rfl ?_)
          | refine W_sub rfl rfl (IntWalk.i32_in _ (by omega)) (W_norm rfl ?_)
          | refine W_sub rfl rfl (IntWalk.u8_in _ (by omega)) (W_norm rfl ?_)
          | refine W_mul rfl rfl (IntWalk.i64_in _ (by omega)) (W_norm rfl ?_)
          | refine W_mul rfl rfl (IntWalk.i32_in _ (by omega)) (W_norm rfl ?_)
          | refine W_mul rfl rfl (IntWalk.u8_in _ (by omega)) (W_norm rfl ?_)
          | refine W_convint rfl (IntWalk.i64_in _ (by omega)) (W_norm rfl ?_)
          | refine W_convint rfl (IntWalk.i32_in _ (by omega)) (W_norm rfl ?_)
          | refine W_convint rfl (IntWalk.u8_in _ (by omega)) (W_norm rfl ?_)
          | refine W_div rfl rfl (by omega) (W_norm rfl ?_)
          | refine W_mod rfl rfl (by omega) (W_norm rfl ?_)
          | refine W_indexSlice rfl rfl ⟨by omega, by omega⟩ (W_norm rfl ?_)
          | refine W_indexArr rfl rfl ⟨by omega, by omega⟩ (W_norm rfl ?_)
          | refine W_alloc (W_norm rfl ?_)
          | (refine W_guardT rfl (fun hc => ?_) (fun hc => ?_) <;> (try rw [hc]) <;> (try simp only [cleanS, reduceCtorEq] at hc) <;> (try (exfalso; omega)) <;> (try refine W_norm rfl ?_))
          | (refine W_guardF rfl (fun hc => ?_) (fun hc => ?_) <;> (try rw [hc]) <;> (try simp only [cleanS, reduceCtorEq] at hc) <;> (try (exfalso; omega)) <;> (try refine W_norm rfl ?_))
          | (refine W_cond rfl (fun hc => ?_) (fun hc => ?_) <;> (try rw [hc]) <;> (try simp only [cleanS, reduceCtorEq] at hc) <;> (try (exfalso; omega)) <;> (try refine W_norm rfl ?_))
          | (refine W_pick rfl (fun hc => ?_) (fun hc => ?_) <;> (try rw [hc]) <;> (try simp only [cleanS, reduceCtorEq] at hc) <;> (try (exfalso; omega)) <;> (try refine W_norm rfl ?_))
          | refine W_add rfl rfl rfl (W_norm rfl ?_)
          | refine W_sub rfl rfl rfl (W_norm rfl ?_)
          | refine W_mul rfl rfl rfl (W_norm rfl ?_)
          | (refine fnK_r rfl ?_; try dsimp only [gd_z, gd_s])
          | (refine fnK_n rfl ?_; try dsimp only [gd_z, gd_s]))
        all_goals
          refine ⟨_, by omega, j + 1, _, ⟨rfl, rfl, rfl, rfl, rfl, rfl, trivial⟩, by omega, rfl, rfl, ?_⟩
          have hq' : p[j]? = some q := hq
          rw [fitL_take _ _ _ _ _ (ints_get hjl) hq', hk2, Bool.true_and, decide_eq_true hk1, Bool.true_and]
          simp only [Int.toNat_natCast] at hc ⊢
          first
            | rw [decide_eq_decide]; constructor <;> intro hh <;> omega
            | (symm; rw [decide_eq_false_iff_not]; omega)
      · repeat' (first
          | refine W_fast rfl ?_
          | refine W_lenSl hvs rfl (W_norm rfl ?_)
          | (refine W_indexSl hvs rfl rfl (by omega) hsi' ?_; rintro id1 o1 hp1; refine W_norm rfl ?_)
          | refine W_loadPt0 hp1 rfl rfl (W_norm rfl ?_)
          | refine W_lenSl hss rfl (W_norm rfl ?_)
          | refine W_seq ?_
          | refine W_ops ?_
          | refine W_nil ?_
          | refine seqK_n ?_
          | refine seqK_r ?_
          | refine seqK_x ?_
          | refine blockK_r ?_
          | refine blockK_n ?_
          | refine blockK_e ?_
          | refine blockK_x rfl ?_
          | refine loopK_x ?_
          | refine loopK_r ?_
          | refine invK_x ?_
          | refine invK_r ?_
          | refine invK_n ?_
          | refine W_guard_on rfl ?_
          | refine W_guard_off rfl rfl (W_norm rfl ?_)
          | refine W_guard_u rfl (W_norm rfl ?_)
          | refine W_pick_t rfl rfl (W_norm rfl ?_)
          | refine W_pick_f rfl rfl (W_norm rfl ?_)
          | refine W_skip ?_
          | refine W_ret ?_
          | refine W_exit ?_
          | refine W_cond_t rfl ?_
          | refine W_cond_f rfl ?_
          | refine W_block ?_
          | refine W_draw rfl ?_
          | refine W_add rfl rfl (IntWalk.i64_in _ (by omega)) (W_norm rfl ?_)
          | refine W_add rfl rfl (IntWalk.i32_in _ (by omega)) (W_norm rfl ?_)
          | refine W_add rfl rfl (IntWalk.u8_in _ (by omega)) (W_norm rfl ?_)
          | refine W_sub rfl rfl (IntWalk.i64_in _ (by omega)) (W_norm rfl ?_)
          | refine W_sub rfl rfl (IntWalk.i32_in _ (by omega)) (W_norm rfl ?_)
          | refine W_sub rfl rfl (IntWalk.u8_in _ (by omega)) (W_norm rfl ?_)
          | refine W_mul rfl rfl (IntWalk.i64_in _ (by omega)) (W_norm rfl ?_)
          | refine W_mul rfl rfl (IntWalk.i32_in _ (by omega)) (W_norm rfl ?_)
          | refine W_mul rfl rfl (IntWalk.u8_in _ (by omega)) (W_norm rfl ?_)
          | refine W_convint rfl (IntWalk.i64_in _ (by omega)) (W_norm rfl ?_)
          | refine W_convint rfl (IntWalk.i32_in _ (by omega)) (W_norm rfl ?_)
          | refine W_convint rfl (IntWalk.u8_in _ (by omega)) (W_norm rfl ?_)
          | refine W_div rfl rfl (by omega) (W_norm rfl ?_)
          | refine W_mod rfl rfl (by omega) (W_norm rfl ?_)
          | refine W_indexSlice rfl rfl ⟨by omega, by omega⟩ (W_norm rfl ?_)
          | refine W_indexArr rfl rfl ⟨by omega, by omega⟩ (W_norm rfl ?_)
          | refine W_alloc (W_norm rfl ?_)
          | (refine W_guardT rfl (fun hc => ?_) (fun hc => ?_) <;> (try rw [hc]) <;> (try simp only [cleanS, reduceCtorEq] at hc) <;> (try (exfalso; omega)) <;> (try refine W_norm rfl ?_))
          | (refine W_guardF rfl (fun hc => ?_) (fun hc => ?_) <;> (try rw [hc]) <;> (try simp only [cleanS, reduceCtorEq] at hc) <;> (try (exfalso; omega)) <;> (try refine W_norm rfl ?_))
          | (refine W_cond rfl (fun hc => ?_) (fun hc => ?_) <;> (try rw [hc]) <;> (try simp only [cleanS, reduceCtorEq] at hc) <;> (try (exfalso; omega)) <;> (try refine W_norm rfl ?_))
          | (refine W_pick rfl (fun hc => ?_) (fun hc => ?_) <;> (try rw [hc]) <;> (try simp only [cleanS, reduceCtorEq] at hc) <;> (try (exfalso; omega)) <;> (try refine W_norm rfl ?_))
          | refine W_add rfl rfl rfl (W_norm rfl ?_)
          | refine W_sub rfl rfl rfl (W_norm rfl ?_)
          | refine W_mul rfl rfl rfl (W_norm rfl ?_)
          | (refine fnK_r rfl ?_; try dsimp only [gd_z, gd_s])
          | (refine fnK_n rfl ?_; try dsimp only [gd_z, gd_s]))
        all_goals
          have hj' : j = s.length := by omega
          rw [hj', List.take_of_length_le (by rw [ints_length]; omega)] at hk2
          refine ⟨_, rfl, ?_, hs1⟩
          rw [hx, shapes_drop hp, scanS, if_pos hk2, ints_length]
          first
            | rw [if_pos (by omega)]
            | rw [if_neg (by omega)]
    | false =>
      have hfit : fitL (ints s) p = false := by
        by_cases hlen : s.length ≤ p.length
        · rw [decide_eq_true hlen, Bool.true_and] at hok
          exact fitL_false _ _ _ hok.symm
        · exact fitL_len _ _ (by rw [ints_length]; omega)
      repeat' (first
        | refine W_fast rfl ?_
        | refine W_lenSl hvs rfl (W_norm rfl ?_)
        | refine W_seq ?_
        | refine W_ops ?_
        | refine W_nil ?_
        | refine seqK_n ?_
        | refine seqK_r ?_
        | refine seqK_x ?_
        | refine blockK_r ?_
        | refine blockK_n ?_
        | refine blockK_e ?_
        | refine blockK_x rfl ?_
        | refine loopK_x ?_
        | refine loopK_r ?_
        | refine invK_x ?_
        | refine invK_r ?_
        | refine invK_n ?_
        | refine W_guard_on rfl ?_
        | refine W_guard_off rfl rfl (W_norm rfl ?_)
        | refine W_guard_u rfl (W_norm rfl ?_)
        | refine W_pick_t rfl rfl (W_norm rfl ?_)
        | refine W_pick_f rfl rfl (W_norm rfl ?_)
        | refine W_skip ?_
        | refine W_ret ?_
        | refine W_exit ?_
        | refine W_cond_t rfl ?_
        | refine W_cond_f rfl ?_
        | refine W_block ?_
        | refine W_draw rfl ?_
        | refine W_add rfl rfl (IntWalk.i64_in _ (by omega)) (W_norm rfl ?_)
        | refine W_add rfl rfl (IntWalk.i32_in _ (by omega)) (W_norm rfl ?_)
        | refine W_add rfl rfl (IntWalk.u8_in _ (by omega)) (W_norm rfl ?_)
        | refine W_sub rfl rfl (IntWalk.i64_in _ (by omega)) (W_norm rfl ?_)
        | refine W_sub rfl rfl (IntWalk.i32_in _ (by omega)) (W_norm rfl ?_)
        | refine W_sub rfl rfl (IntWalk.u8_in _ (by omega)) (W_norm rfl ?_)
        | refine W_mul rfl rfl (IntWalk.i64_in _ (by omega)) (W_norm rfl ?_)
        | refine W_mul rfl rfl (IntWalk.i32_in _ (by omega)) (W_norm rfl ?_)
        | refine W_mul rfl rfl (IntWalk.u8_in _ (by omega)) (W_norm rfl ?_)
        | refine W_convint rfl (IntWalk.i64_in _ (by omega)) (W_norm rfl ?_)
        | refine W_convint rfl (IntWalk.i32_in _ (by omega)) (W_norm rfl ?_)
        | refine W_convint rfl (IntWalk.u8_in _ (by omega)) (W_norm rfl ?_)
        | refine W_div rfl rfl (by omega) (W_norm rfl ?_)
        | refine W_mod rfl rfl (by omega) (W_norm rfl ?_)
        | refine W_indexSlice rfl rfl ⟨by omega, by omega⟩ (W_norm rfl ?_)
        | refine W_indexArr rfl rfl ⟨by omega, by omega⟩ (W_norm rfl ?_)
        | refine W_alloc (W_norm rfl ?_)
        | (refine W_guardT rfl (fun hc => ?_) (fun hc => ?_) <;> (try rw [hc]) <;> (try simp only [cleanS, reduceCtorEq] at hc) <;> (try (exfalso; omega)) <;> (try refine W_norm rfl ?_))
        | (refine W_guardF rfl (fun hc => ?_) (fun hc => ?_) <;> (try rw [hc]) <;> (try simp only [cleanS, reduceCtorEq] at hc) <;> (try (exfalso; omega)) <;> (try refine W_norm rfl ?_))
        | (refine W_cond rfl (fun hc => ?_) (fun hc => ?_) <;> (try rw [hc]) <;> (try simp only [cleanS, reduceCtorEq] at hc) <;> (try (exfalso; omega)) <;> (try refine W_norm rfl ?_))
        | (refine W_pick rfl (fun hc => ?_) (fun hc => ?_) <;> (try rw [hc]) <;> (try simp only [cleanS, reduceCtorEq] at hc) <;> (try (exfalso; omega)) <;> (try refine W_norm rfl ?_))
        | refine W_add rfl rfl rfl (W_norm rfl ?_)
        | refine W_sub rfl rfl rfl (W_norm rfl ?_)
        | refine W_mul rfl rfl rfl (W_norm rfl ?_)
        | (refine fnK_r rfl ?_; try dsimp only [gd_z, gd_s])
        | (refine fnK_n rfl ?_; try dsimp only [gd_z, gd_s]))
      all_goals
        refine ⟨_, by omega, i + 1, ⟨rfl, rfl, rfl, rfl, trivial⟩, by omega, rfl, rfl, ?_⟩
        rw [hx, shapes_drop hp, scanS, hfit]
        rfl
  · repeat' (first
      | refine W_fast rfl ?_
      | refine W_lenSl hvs rfl (W_norm rfl ?_)
      | refine W_seq ?_
      | refine W_ops ?_
      | refine W_nil ?_
      | refine seqK_n ?_
      | refine seqK_r ?_
      | refine seqK_x ?_
      | refine blockK_r ?_
      | refine blockK_n ?_
      | refine blockK_e ?_
      | refine blockK_x rfl ?_
      | refine loopK_x ?_
      | refine loopK_r ?_
      | refine invK_x ?_
      | refine invK_r ?_
      | refine invK_n ?_
      | refine W_guard_on rfl ?_
      | refine W_guard_off rfl rfl (W_norm rfl ?_)
      | refine W_guard_u rfl (W_norm rfl ?_)
      | refine W_pick_t rfl rfl (W_norm rfl ?_)
      | refine W_pick_f rfl rfl (W_norm rfl ?_)
      | refine W_skip ?_
      | refine W_ret ?_
      | refine W_exit ?_
      | refine W_cond_t rfl ?_
      | refine W_cond_f rfl ?_
      | refine W_block ?_
      | refine W_draw rfl ?_
      | refine W_add rfl rfl (IntWalk.i64_in _ (by omega)) (W_norm rfl ?_)
      | refine W_add rfl rfl (IntWalk.i32_in _ (by omega)) (W_norm rfl ?_)
      | refine W_add rfl rfl (IntWalk.u8_in _ (by omega)) (W_norm rfl ?_)
      | refine W_sub rfl rfl (IntWalk.i64_in _ (by omega)) (W_norm rfl ?_)
      | refine W_sub rfl rfl (IntWalk.i32_in _ (by omega)) (W_norm rfl ?_)
      | refine W_sub rfl rfl (IntWalk.u8_in _ (by omega)) (W_norm rfl ?_)
      | refine W_mul rfl rfl (IntWalk.i64_in _ (by omega)) (W_norm rfl ?_)
      | refine W_mul rfl rfl (IntWalk.i32_in _ (by omega)) (W_norm rfl ?_)
      | refine W_mul rfl rfl (IntWalk.u8_in _ (by omega)) (W_norm rfl ?_)
      | refine W_convint rfl (IntWalk.i64_in _ (by omega)) (W_norm rfl ?_)
      | refine W_convint rfl (IntWalk.i32_in _ (by omega)) (W_norm rfl ?_)
      | refine W_convint rfl (IntWalk.u8_in _ (by omega)) (W_norm rfl ?_)
      | refine W_div rfl rfl (by omega) (W_norm rfl ?_)
      | refine W_mod rfl rfl (by omega) (W_norm rfl ?_)
      | refine W_indexSlice rfl rfl ⟨by omega, by omega⟩ (W_norm rfl ?_)
      | refine W_indexArr rfl rfl ⟨by omega, by omega⟩ (W_norm rfl ?_)
      | refine W_alloc (W_norm rfl ?_)
      | (refine W_guardT rfl (fun hc => ?_) (fun hc => ?_) <;> (try rw [hc]) <;> (try simp only [cleanS, reduceCtorEq] at hc) <;> (try (exfalso; omega)) <;> (try refine W_norm rfl ?_))
      | (refine W_guardF rfl (fun hc => ?_) (fun hc => ?_) <;> (try rw [hc]) <;> (try simp only [cleanS, reduceCtorEq] at hc) <;> (try (exfalso; omega)) <;> (try refine W_norm rfl ?_))
      | (refine W_cond rfl (fun hc => ?_) (fun hc => ?_) <;> (try rw [hc]) <;> (try simp only [cleanS, reduceCtorEq] at hc) <;> (try (exfalso; omega)) <;> (try refine W_norm rfl ?_))
      | (refine W_pick rfl (fun hc => ?_) (fun hc => ?_) <;> (try rw [hc]) <;> (try simp only [cleanS, reduceCtorEq] at hc) <;> (try (exfalso; omega)) <;> (try refine W_norm rfl ?_))
      | refine W_add rfl rfl rfl (W_norm rfl ?_)
      | refine W_sub rfl rfl rfl (W_norm rfl ?_)
      | refine W_mul rfl rfl rfl (W_norm rfl ?_)
      | (refine fnK_r rfl ?_; try dsimp only [gd_z, gd_s])
      | (refine fnK_n rfl ?_; try dsimp only [gd_z, gd_s]))
    have hi9 : i = 9 := by omega
    subst hi9
    exact ⟨_, rfl, by rw [hx]; rfl, hs1⟩
end Go.Proofs.YtggkbkbhegcbkaaDoor
/- The reference's reader, byte by byte, and all of it. -/
set_option linter.unusedSimpArgs false
set_option linter.unusedVariables false
set_option maxHeartbeats 2000000
set_option maxRecDepth 100000
namespace Go.Proofs.YtggkbkbhegcbkaaDoor
open Go Go.Jx

def lastB (out : List Int) (s : List UInt8) : List UInt8 × List Int :=
  if beginsR (ints s) = 0 then ([], out ++ [65533]) else if beginsR (ints s) = 1 then (s, out) else ([], out ++ [numL (ints s)])
def byteB (s : List UInt8) (b : UInt8) : List UInt8 × List Int :=
  if s ≠ [] ∧ beginsR (ints (s ++ [b])) = 0 then lastB [65533] [b] else lastB [] (s ++ [b])
theorem lastB_eq (out : List Int) (s : List UInt8) : (ints (lastB out s).1, (lastB out s).2) = lastR out (ints s) := by
  unfold lastB lastR
  split
  · rfl
  · split <;> rfl
theorem byteB_eq (s : List UInt8) (b : UInt8) : (ints (byteB s b).1, (byteB s b).2) = byteR (ints s) (b.toNat : Int) := by
  have e : ints (s ++ [b]) = ints s ++ [(b.toNat : Int)] := by simp [ints]
  unfold byteB byteR
  rw [← e]
  by_cases h : s = []
  · subst h
    rw [if_neg (by simp), if_neg (by simp [ints])]
    exact lastB_eq _ _
  · have h' : ints s ≠ [] := by simp [ints, h]
    by_cases h0 : beginsR (ints (s ++ [b])) = 0
    · rw [if_pos ⟨h, h0⟩, if_pos ⟨h', h0⟩]; exact lastB_eq [65533] [b]
    · rw [if_neg (fun hh => h0 hh.2), if_neg (fun hh => h0 hh.2)]; exact lastB_eq _ _

theorem sub_sep {h h' : Heap} (s : Sub h h') : Sep (Now h) [] h' := ⟨fun id o k => s.2 id o k, by simp, by simp, by simp⟩
theorem mod_sep {R : Ro} {M : List Hp} {h h' : Heap} {id : Nat} {o o' : AO} (s : Sep R ([(id, o)] :: M) h) (m : Mod id h h') (g : h'.get id = some o') : Sep R ([(id, o')] :: M) h' := by
  have hoff : ∀ q, ¬ R id q := fun q => s.off (id, o) (by simp) q
  have hnd := s.nd
  simp only [List.flatten_cons, List.cons_append, List.nil_append, List.map_cons, List.nodup_cons] at hnd
  refine ⟨fun j q k => m.2 j q (fun e => hoff q (e ▸ k)) (s.ro j q k), fun p hp => ?_, ?_, fun p hp q k => ?_⟩
  · simp only [List.flatten_cons, List.cons_append, List.nil_append, List.mem_cons] at hp
    rcases hp with rfl | hp
    · exact g
    · refine m.2 p.1 p.2 (fun e => hnd.1 ?_) (s.get p (by simp [hp]))
      rw [← e]; exact List.mem_map_of_mem hp
  · simpa using hnd
  · simp only [List.flatten_cons, List.cons_append, List.nil_append, List.mem_cons] at hp
    rcases hp with rfl | hp
    · exact hoff q k
    · exact s.off p (by simp [hp]) q k
theorem bytes_of {h : Heap} {v : SV} {L : List UInt8} (p : SlR (intEl .u8) (Now h) v (ints L)) : Sl encB 1 h v L := by
  rcases p with ⟨h1, h2⟩ | ⟨id, off, cap, t, kd, cs, rfl, h2, h3, h4⟩
  · exact .inl ⟨by cases L with | nil => rfl | cons a L => simp [ints] at h1, h2⟩
  · rw [ints_length] at *
    refine .inr ⟨id, off, cap, t, kd, cs, rfl, h2, h3, fun i x hx => ?_⟩
    exact h4 i (x.toNat : Int) (by unfold ints; rw [List.getElem?_map, hx]; rfl)

theorem bB_0 {s : List UInt8} {b : UInt8} (h : ¬ s = []) (h0 : beginsR (ints (s ++ [b])) = 0) : byteB s b = lastB [65533] [b] := if_pos ⟨h, h0⟩
theorem bB_n {s : List UInt8} {b : UInt8} (h : s = [] ∨ ¬ beginsR (ints (s ++ [b])) = 0) : byteB s b = lastB [] (s ++ [b]) := if_neg (fun k => h.elim k.1 fun h => h k.2)
theorem lB_0 {o : List Int} {s : List UInt8} (h : beginsR (ints s) = 0) : lastB o s = ([], o ++ [65533]) := if_pos h
theorem lB_1 {o : List Int} {s : List UInt8} (h : ¬ beginsR (ints s) = 0) (h1 : beginsR (ints s) = 1) : lastB o s = (s, o) := (if_neg h).trans (if_pos h1)
theorem lB_2 {o : List Int} {s : List UInt8} (h : ¬ beginsR (ints s) = 0) (h1 : ¬ beginsR (ints s) = 1) : lastB o s = ([], o ++ [numL (ints s)]) := (if_neg h).trans (if_neg h1)
theorem w49s {R : Ro} {M : List Hp} {h : Heap} {id : Nat} {s : List UInt8} {b : UInt8} (hs : Sep R ([(id, .cells 64 .own [.str s])] :: M) h) (hl : s.length ≤ 3) :
    Wc DD 49 [.sc (.ptr id 0), .sc (.int .u8 (b.toNat : Int))] h fun v h' => ∃ u c, v = .sc u ∧ AccS (intEl .i32) 21 u (byteB s b).2 c ∧ Sep R (c :: [(id, .cells 64 .own [.str (byteB s b).1])] :: M) h' := by
  have hnil : AccS (intEl .i32) 21 .nils [] [] := AccS.nil _
  replace hs := hs.nil
  refine W_enter d49 ?_
  show W _ (.code m49_code [.sc (.ptr id 0), .sc (.int .u8 (b.toNat : Int)), undefA, undefA, undefA, undefA, undefA, undefA, undefA, undefA, undefA, undefA, undefA, undefA, undefA, undefA, undefA, undefA, undefA, undefA, undefA, undefA, undefA, undefA, undefA, undefA, undefA, undefA, undefA, undefA, undefA, undefA, undefA, undefA, undefA, undefA, undefA, undefA, undefA, undefA, undefA, undefA, undefA, undefA, undefA, undefA, undefA, undefA, undefA, undefA, undefA, undefA, undefA] _) _
  unfold m49_code
  have l1 : (s ++ [b]).length ≤ 100000 := by rw [List.length_append]; simp; omega
  have l2 : 1 ≤ (s ++ [b]).length ∧ (s ++ [b]).length ≤ 4 := by rw [List.length_append]; simp; omega
  repeat' (first
    | (refine K_ops ?_; first
      | refine W_fastB rfl ?_
      | refine W_nil ?_
      | (refine W_bytesStr (L := [b]) (bytes_of (AccS.now (by assumption) hs (by simp))) rfl ?_; refine W_norm rfl ?_)
      | (refine K_guard ?_; first
        | refine W_guard_on rfl ?_
        | refine W_guard_off rfl rfl (W_norm rfl ?_)
        | (refine W_guardT rfl (fun hc => ?_) (fun hc => ?_) <;> (try rw [hc]) <;> (try simp only [cleanS, reduceCtorEq] at hc) <;> (try (exfalso; omega)) <;> (try refine W_norm rfl ?_))
      )
      | (refine K_call ?_; first
        | (refine W_callsN 64 rfl (w64 (s ++ [b]) _ l1) rfl ?_; rintro _ h2 ⟨rfl, t⟩; replace t := sub_sep t; have hs := hs.call t; try simp only [setS] at hs; refine W_norm rfl ?_)
        | (refine W_callsN 64 rfl (w64 [b] _ (by simp)) rfl ?_; rintro _ h2 ⟨rfl, t⟩; replace t := sub_sep t; have hs := hs.call t; try simp only [setS] at hs; refine W_norm rfl ?_)
        | (refine W_callsN 65 rfl (w65 (s ++ [b]) _ l2) rfl ?_; rintro _ h2 ⟨rfl, rfl⟩; refine W_norm rfl ?_)
        | (refine W_callsN 65 rfl (w65 [b] _ (by simp)) rfl ?_; rintro _ h2 ⟨rfl, rfl⟩; refine W_norm rfl ?_)
      )
      | (refine K_bin ?_; first
        | (refine W_cat rfl rfl (by first | omega | (simp only [lenS]; omega)) ?_; refine W_norm rfl ?_)
      )
      | (refine K_pick ?_; first
        | refine W_pick_t rfl rfl (W_norm rfl ?_)
        | refine W_pick_f rfl rfl (W_norm rfl ?_)
      )
      | (refine K_load ?_; first
        | (refine W_loadC hs 1 rfl rfl rfl ?_; refine W_norm rfl ?_)
        | (refine W_loadC hs 2 rfl rfl rfl ?_; refine W_norm rfl ?_)
      )
      | (refine K_store ?_; first
        | (refine W_storeC hs 2 rfl rfl rfl rfl (by first | decide | assumption) rfl rfl ?_; intro _ hs; try simp only [setS] at hs; refine W_norm rfl ?_)
        | (refine W_storeC hs 3 rfl rfl rfl rfl (by first | decide | assumption) rfl rfl ?_; intro _ hs; try simp only [setS] at hs; refine W_norm rfl ?_)
      )
      | (refine K_bslice ?_; first
        | (refine W_appB1 (intEl .i32) hs 1 rfl rfl rfl (by assumption) rfl rfl rfl ⟨by decide, (by first | omega | (simp only [lenS]; omega))⟩ ?_; intro _ _ _ _ _ hs; try simp only [setS] at hs; refine W_norm rfl ?_)
        | (refine W_appB1 (intEl .i32) hs 2 rfl rfl rfl (by assumption) rfl rfl rfl ⟨by decide, (by first | omega | (simp only [lenS]; omega))⟩ ?_; intro _ _ _ _ _ hs; try simp only [setS] at hs; refine W_norm rfl ?_)
        | (refine W_buildS1 (intEl .u8) hs rfl rfl ?_; intro _ _ _ _ hs; try simp only [setS] at hs; refine W_norm rfl ?_)
      )
    )
    | (refine K_code ?_; first
      | refine W_seq ?_
      | refine W_ops ?_
      | refine W_cond_f rfl ?_
      | (refine W_cond rfl (fun hc => ?_) (fun hc => ?_) <;> (try rw [hc]) <;> (try simp only [cleanS, reduceCtorEq] at hc) <;> (try (exfalso; omega)) <;> (try refine W_norm rfl ?_))
      | refine W_skip ?_
      | refine W_ret ?_
      | refine W_block ?_
      | refine W_draws ?_
    )
    | refine W_dstep rfl ?_
    | refine ⟨rfl, fun rc hrec => ?_⟩
    | (refine W_dnilS (by simp only [List.reverse_cons, List.reverse_nil, List.nil_append, List.cons_append]; rfl) (by repeat' first | exact CL_nil _ _ | refine CL_skip rfl ?_ | refine CL_load (by assumption) rfl (by first | exact trivial | (repeat' first | exact trivial | refine ⟨⟨_, rfl, (by refine (congrArg (fun x => Heap.get x _) (RecIs.hh (by assumption))).trans ?_; first | rfl | exact PtR.same_get (by assumption) (by assumption) (by assumption) | exact Sep.same_get (by assumption) (by assumption) 0 0 rfl rfl | exact Sep.same_get (by assumption) (by assumption) 0 1 rfl rfl | exact Sep.same_get (by assumption) (by assumption) 0 2 rfl rfl | exact Sep.same_get (by assumption) (by assumption) 0 3 rfl rfl | exact Sep.same_get (by assumption) (by assumption) 0 4 rfl rfl | exact Sep.same_get (by assumption) (by assumption) 1 0 rfl rfl | exact Sep.same_get (by assumption) (by assumption) 1 1 rfl rfl | exact Sep.same_get (by assumption) (by assumption) 1 2 rfl rfl | exact Sep.same_get (by assumption) (by assumption) 1 3 rfl rfl | exact Sep.same_get (by assumption) (by assumption) 1 4 rfl rfl | exact Sep.same_get (by assumption) (by assumption) 2 0 rfl rfl | exact Sep.same_get (by assumption) (by assumption) 2 1 rfl rfl | exact Sep.same_get (by assumption) (by assumption) 2 2 rfl rfl | exact Sep.same_get (by assumption) (by assumption) 2 3 rfl rfl | exact Sep.same_get (by assumption) (by assumption) 2 4 rfl rfl | exact Sep.same_get (by assumption) (by assumption) 3 0 rfl rfl | exact Sep.same_get (by assumption) (by assumption) 3 1 rfl rfl | exact Sep.same_get (by assumption) (by assumption) 3 2 rfl rfl | exact Sep.same_get (by assumption) (by assumption) 3 3 rfl rfl | exact Sep.same_get (by assumption) (by assumption) 3 4 rfl rfl | exact Sep.same_get (by assumption) (by assumption) 4 0 rfl rfl | exact Sep.same_get (by assumption) (by assumption) 4 1 rfl rfl | exact Sep.same_get (by assumption) (by assumption) 4 2 rfl rfl | exact Sep.same_get (by assumption) (by assumption) 4 3 rfl rfl | exact Sep.same_get (by assumption) (by assumption) 4 4 rfl rfl)⟩, ?_⟩)) (by first | exact trivial | (repeat' first | exact trivial | refine ⟨⟨_, rfl, (by refine (congrArg (fun x => Heap.get x _) (RecIs.hh' (by assumption))).trans ?_; first | rfl | exact PtR.same_get (by assumption) (by assumption) (by assumption) | exact Sep.same_get (by assumption) (by assumption) 0 0 rfl rfl | exact Sep.same_get (by assumption) (by assumption) 0 1 rfl rfl | exact Sep.same_get (by assumption) (by assumption) 0 2 rfl rfl | exact Sep.same_get (by assumption) (by assumption) 0 3 rfl rfl | exact Sep.same_get (by assumption) (by assumption) 0 4 rfl rfl | exact Sep.same_get (by assumption) (by assumption) 1 0 rfl rfl | exact Sep.same_get (by assumption) (by assumption) 1 1 rfl rfl | exact Sep.same_get (by assumption) (by assumption) 1 2 rfl rfl | exact Sep.same_get (by assumption) (by assumption) 1 3 rfl rfl | exact Sep.same_get (by assumption) (by assumption) 1 4 rfl rfl | exact Sep.same_get (by assumption) (by assumption) 2 0 rfl rfl | exact Sep.same_get (by assumption) (by assumption) 2 1 rfl rfl | exact Sep.same_get (by assumption) (by assumption) 2 2 rfl rfl | exact Sep.same_get (by assumption) (by assumption) 2 3 rfl rfl | exact Sep.same_get (by assumption) (by assumption) 2 4 rfl rfl | exact Sep.same_get (by assumption) (by assumption) 3 0 rfl rfl | exact Sep.same_get (by assumption) (by assumption) 3 1 rfl rfl | exact Sep.same_get (by assumption) (by assumption) 3 2 rfl rfl | exact Sep.same_get (by assumption) (by assumption) 3 3 rfl rfl | exact Sep.same_get (by assumption) (by assumption) 3 4 rfl rfl | exact Sep.same_get (by assumption) (by assumption) 4 0 rfl rfl | exact Sep.same_get (by assumption) (by assumption) 4 1 rfl rfl | exact Sep.same_get (by assumption) (by assumption) 4 2 rfl rfl | exact Sep.same_get (by assumption) (by assumption) 4 3 rfl rfl | exact Sep.same_get (by assumption) (by assumption) 4 4 rfl rfl)⟩, ?_⟩)) ?_) ?_)
    | refine seqK_n ?_
    | refine seqK_r ?_
    | refine blockK_r ?_
    | refine blockK_n ?_
    | (refine fnK_r rfl ?_; try dsimp only [gd_z, gd_s]))
  all_goals first
    | rw [bB_0 (by assumption) (by assumption)]
    | rw [bB_n (.inl (by assumption))]
    | rw [bB_n (.inr (by assumption))]
  all_goals first
    | rw [lB_0 (by assumption)]
    | rw [lB_1 (by assumption) (by assumption)]
    | rw [lB_2 (by assumption) (by assumption)]
    | skip
  all_goals first
    | exact ⟨_, rfl, _, _, rfl, by assumption, hs⟩
    | exact ⟨_, rfl, _, _, rfl, by assumption, hs.drop 0⟩
    | exact ⟨_, rfl, _, _, rfl, by assumption, (hs.drop 0).drop 0⟩
    | skip
end Go.Proofs.YtggkbkbhegcbkaaDoor
/- The reference's reader of all of a text; the program's contracts, by parts of memory. -/
set_option linter.unusedSimpArgs false
set_option linter.unusedVariables false
set_option maxHeartbeats 2000000
set_option maxRecDepth 100000
namespace Go.Proofs.YtggkbkbhegcbkaaDoor
open Go Go.Jx

def runB : List UInt8 → List UInt8 → List UInt8 × List Int
  | s, [] => (s, [])
  | s, b :: l => ((runB (byteB s b).1 l).1, (byteB s b).2 ++ (runB (byteB s b).1 l).2)
theorem runB_eq : ∀ (l s : List UInt8), (ints (runB s l).1, (runB s l).2) = runR (ints s) l := by
  intro l
  induction l with
  | nil => intro s; rfl
  | cons b l ih =>
    intro s
    have h1 := byteB_eq s b
    have h2 := ih (byteB s b).1
    have a1 : ints (byteB s b).1 = (byteR (ints s) (b.toNat : Int)).1 := congrArg Prod.fst h1
    have a2 : (byteB s b).2 = (byteR (ints s) (b.toNat : Int)).2 := congrArg Prod.snd h1
    have a3 : ints (runB (byteB s b).1 l).1 = (runR (ints (byteB s b).1) l).1 := congrArg Prod.fst h2
    have a4 : (runB (byteB s b).1 l).2 = (runR (ints (byteB s b).1) l).2 := congrArg Prod.snd h2
    show (ints (runB (byteB s b).1 l).1, (byteB s b).2 ++ (runB (byteB s b).1 l).2) = _
    rw [runR, a3, a4, a1, a2]
theorem runB_append : ∀ (a s b : List UInt8), runB s (a ++ b) = ((runB (runB s a).1 b).1, (runB s a).2 ++ (runB (runB s a).1 b).2) := by
  intro a
  induction a with
  | nil => intro s b; rfl
  | cons x a ih => intro s b; simp only [List.cons_append, runB, ih, List.append_assoc]
theorem runB_take {l : List UInt8} {k : Nat} (hk : k < l.length) : runB [] (l.take (k + 1)) = ((byteB (runB [] (l.take k)).1 (l.getD k 0)).1, (runB [] (l.take k)).2 ++ (byteB (runB [] (l.take k)).1 (l.getD k 0)).2) := by
  rw [List.take_add_one, getD_get? (d := 0) hk, runB_append]
  simp [runB]
theorem runB_same (l : List UInt8) : Same (runP dec0 l).1 (ints (runB [] l).1) ∧ (runB [] l).2 = (runP dec0 l).2 := by
  have h := run_same same0 l
  have e := runB_eq l []
  have e1 : ints (runB [] l).1 = (runR (ints []) l).1 := congrArg Prod.fst e
  have e2 : (runB [] l).2 = (runR (ints []) l).2 := congrArg Prod.snd e
  rw [e1, e2]; exact h
theorem runB_kept (l : List UInt8) : (runP dec0 l).1.kept = (runB [] l).1.length := by
  have := (runB_same l).1.kept
  rwa [ints_length] at this
theorem runB_short (l : List UInt8) : (runB [] l).1.length ≤ 3 := by
  have h1 := runB_kept l
  have h2 := (run_ok l).2.1
  omega
def allB (l : List UInt8) : List Int := (runB [] l).2 ++ if (runB [] l).1 = [] then [] else [65533]
theorem allB_eq (l : List UInt8) : allB l = allP l := by
  unfold allB allP tailP
  rw [(runB_same l).2]
  congr 1
  have h := runB_kept l
  by_cases h0 : (runB [] l).1 = []
  · rw [if_pos h0, if_pos (by rw [h, h0]; rfl)]
  · rw [if_neg h0, if_neg (by rw [h]; intro hh; exact h0 (List.eq_nil_of_length_eq_zero (by omega)))]
theorem runB_len (l : List UInt8) : (runB [] l).2.length ≤ 2 * l.length := by
  rw [(runB_same l).2]; exact runP_len dec0 l

theorem w35s {h : Heap} {l : List UInt8} (hl : l.length ≤ 20000) : Wc DD 35 [.sc (.str l)] h fun v h' => ∃ u c, v = .sc u ∧ AccS (intEl .i32) 21 u (allB l) c ∧ Sep (Now h) [c] h' := by
  have hs := Sep.entry h
  refine W_enter d35 ?_
  show W _ (.code m35_code [.sc (.str l), undefA, undefA, undefA, undefA, undefA, undefA, undefA, undefA, undefA, undefA, undefA, undefA, undefA, undefA, undefA, undefA, undefA, undefA, undefA, undefA, undefA, undefA, undefA, undefA, undefA, undefA, undefA, undefA, undefA] _) _
  unfold m35_code
  repeat' (first
    | (refine K_ops ?_; first
      | refine W_fastB rfl ?_
      | refine W_nil ?_
      | (refine W_boxS hs rfl rfl ?_; clear hs; intro bx _ hs; try simp only [setS] at hs; refine W_norm rfl ?_)
      | (refine W_buildN rfl ?_; refine W_norm rfl ?_)
    )
    | (refine K_code ?_; first
      | refine W_seq ?_
      | refine W_ops ?_
      | refine W_block ?_
    )
    | refine seqK_n ?_)
  generalize hai : bx = ai at *
  refine W_loopB [3, 5, 8, 9, 10, 11, 12, 13, 14, 15, 16, 17, 18, 19, 20] [0, 1, 2, 3, 4, 5, 6, 7, 8, 9, 10, 11, 12, 13, 14, 15, 16, 17, 18, 19, 20, 21, 22, 23, 24, 25, 26, 27, 28, 29] (fun n' sl h' => ∃ (i : Nat) (u : SV) (c : Hp), sl = [(3, .sc u), (5, .sc (.int .i64 (i : Int)))] ∧ n' = l.length - i ∧ i ≤ l.length ∧ AccS (intEl .i32) 21 u (runB [] (l.take i)).2 c ∧ Sep (Now h) [c, [(ai, .cells 64 .own [.str (runB [] (l.take i)).1])]] h') ?_ ?_
  · refine ⟨_, _, ⟨0, .nils, [], rfl, rfl, Nat.zero_le _, AccS.nil _, hs.nil⟩, EnvB.of rfl⟩
  clear hs
  rintro _ _ us _ h2 ⟨i, u, c, rfl, rfl, hi, ha, hs⟩ he
  refine W_spell he rfl ?_
  clear he
  unfold m35_l4
  have hsh := runB_short (l.take i)
  have hln := runB_len (l.take i)
  have htk : (l.take i).length ≤ i := by rw [List.length_take]; omega
  by_cases hlt : i < l.length
  · have hrt := runB_take hlt
    have hbl : (byteB (runB [] (l.take i)).1 (l.getD i 0)).2.length ≤ 60000 := by
      have := runB_len (l.take (i + 1))
      have e : (l.take (i + 1)).length ≤ i + 1 := by rw [List.length_take]; omega
      rw [hrt] at this
      simp only [List.length_append] at this; omega
    repeat' (first
      | (refine K_ops ?_; first
        | refine W_fastB rfl ?_
        | refine W_nil ?_
        | (refine K_call ?_; first
          | (refine W_callsN 49 rfl (w49s (b := l.getD i 0) (hs.front 1 rfl) hsh) rfl ?_; rintro _ h3 ⟨u2, c2, rfl, ha2, hs2⟩; replace hs := hs2; clear hs2; try simp only [List.eraseIdx_cons_succ, List.eraseIdx_zero, List.tail_cons] at hs; refine W_norm rfl ?_)
        )
        | (refine K_bin ?_; first
          | (refine W_add rfl rfl (IntWalk.i64_in _ (by first | omega | (simp only [lenS]; omega))) ?_; refine W_norm rfl ?_)
        )
        | (refine K_append ?_; first
          | (refine W_appS hs 2 rfl rfl (by assumption) rfl (by first | assumption | exact SlR.now hs (by assumption) | exact AccS.now (by assumption) hs (by simp) | exact OwnS.now (by assumption) hs (by simp)) rfl ⟨by decide, (by first | omega | (simp only [lenS]; omega))⟩ ?_; clear hs; intro _ _ _ _ hs; try simp only [setS] at hs; refine W_norm rfl ?_)
        )
        | (refine W_idxStr rfl rfl ⟨(by first | omega | (simp only [lenS]; omega)), (by first | omega | (simp only [lenS]; omega))⟩ ?_; refine W_norm rfl ?_)
      )
      | (refine K_code ?_; first
        | refine W_seq ?_
        | refine W_ops ?_
        | (refine W_cond rfl (fun hc => ?_) (fun hc => ?_) <;> (try rw [hc]) <;> (try simp only [cleanS, reduceCtorEq] at hc) <;> (try (exfalso; omega)) <;> (try refine W_norm rfl ?_))
        | refine W_skip ?_
        | refine W_block ?_
      )
      | refine seqK_n ?_
      | refine blockK_n ?_
      | refine invK_n ?_)
    rename_i u4 c4 h4 ha4
    replace hs := hs.drop 0
    simp only [List.eraseIdx_zero, List.tail_cons] at hs
    refine ⟨_, ?_, _, ⟨i + 1, u4, c4, rfl, rfl, ?_, ?_, ?_⟩, EnvB.of rfl⟩
    · omega
    · omega
    · rw [hrt]; exact ha4
    · rw [hrt]; exact hs.reord (fun a => by simp only [List.flatten_cons, List.flatten_nil, List.count_append, List.count_nil, hpOf_append, hpOf_cons, hpOf_nil, List.append_nil, List.eraseIdx_cons_succ, List.eraseIdx_zero, List.tail_cons] <;> omega)
  · obtain rfl : i = l.length := by omega
    rw [List.take_length] at ha hs hln
    have hal : allB l = (runB [] l).2 ++ if (runB [] l).1 = [] then [] else [65533] := rfl
    rw [hal]
    by_cases h0 : (runB [] l).1 = []
    · rw [if_pos h0, List.append_nil]
      rw [h0] at hs
      repeat' (first
        | (refine K_ops ?_; first
          | refine W_fastB rfl ?_
          | refine W_nil ?_
          | (refine K_load ?_; first
            | (refine W_loadC hs 1 rfl rfl rfl ?_; refine W_norm rfl ?_)
          )
        )
        | (refine K_code ?_; first
          | refine W_seq ?_
          | refine W_ops ?_
          | refine W_cond_f rfl ?_
          | (refine W_cond rfl (fun hc => ?_) (fun hc => ?_) <;> (try rw [hc]) <;> (try simp only [cleanS, reduceCtorEq] at hc) <;> (try (exfalso; omega)) <;> (try refine W_norm rfl ?_))
          | refine W_skip ?_
          | refine W_ret ?_
          | refine W_exit ?_
        )
        | refine seqK_n ?_
        | refine seqK_x ?_
        | refine blockK_e ?_
        | refine invK_x ?_
        | (refine fnK_r rfl ?_; try dsimp only [gd_z, gd_s]))
      all_goals first | exact ⟨_, rfl, _, _, rfl, ha, hs.drop 1⟩ | skip
    · rw [if_neg h0]
      repeat' (first
        | (refine K_ops ?_; first
          | refine W_fastB rfl ?_
          | refine W_nil ?_
          | (refine K_load ?_; first
            | (refine W_loadC hs 1 rfl rfl rfl ?_; refine W_norm rfl ?_)
          )
          | (refine K_bslice ?_; first
            | (refine W_appB1 (intEl .i32) hs 0 rfl rfl rfl (by assumption) rfl rfl rfl ⟨by decide, (by first | omega | (simp only [lenS]; omega))⟩ ?_; clear hs; intro _ _ _ _ _ hs; try simp only [setS] at hs; refine W_norm rfl ?_)
          )
        )
        | (refine K_code ?_; first
          | refine W_seq ?_
          | refine W_ops ?_
          | (refine W_cond rfl (fun hc => ?_) (fun hc => ?_) <;> (try rw [hc]) <;> (try simp only [cleanS, reduceCtorEq] at hc) <;> (try (exfalso; omega)) <;> (try refine W_norm rfl ?_))
          | refine W_skip ?_
          | refine W_ret ?_
          | refine W_exit ?_
        )
        | refine seqK_n ?_
        | refine seqK_x ?_
        | refine blockK_e ?_
        | refine invK_x ?_
        | (refine fnK_r rfl ?_; try dsimp only [gd_z, gd_s]))
      all_goals first | exact ⟨_, rfl, _, _, rfl, by assumption, hs.drop 1⟩ | (exfalso; exact h0 (by assumption)) | skip

theorem w23s {R : Ro} {M : List Hp} {h : Heap} {id : Nat} {d : Dec} {b : Int} (hs : Sep R ([(id, .cells 49 .own (encD d))] :: M) h) (hb : 0 ≤ b ∧ b < 256) (hok : DecOk d) :
    Wc DD 23 [.sc (.ptr id 0), .sc (.int .u8 b)] h fun v h' => v = outA (byteL d b).2 ∧ Sep R ([(id, .cells 49 .own (encD (byteL d b).1))] :: M) h' := by
  refine (w23 id d b h hb (hs.at1 0 rfl) hok).mono ?_
  rintro _ _ h' ⟨v, rfl, rfl, h1, h2⟩
  exact ⟨_, rfl, rfl, mod_sep hs h2 h1⟩
theorem w24s {R : Ro} {M : List Hp} {h : Heap} {id : Nat} {d : Dec} (hs : Sep R ([(id, .cells 49 .own (encD d))] :: M) h) :
    Wc DD 24 [.sc (.ptr id 0)] h fun v h' => v = .tup [.sc (.int .i32 (endL d).1), .sc (.bool (endL d).2)] ∧ Sep R ([(id, .cells 49 .own (encD (if d.kept = 0 then d else dec0)))] :: M) h' := by
  refine (w24 id d h (hs.at1 0 rfl)).mono ?_
  rintro _ _ h' ⟨v, rfl, rfl, h1, h2⟩
  exact ⟨_, rfl, rfl, mod_sep hs h2 h1⟩
theorem w42s {R : Ro} {M : List Hp} {h : Heap} {id : Nat} {d : Dec} (hs : Sep R M h) (k : Nat) (hk : M[k]? = some [(id, .cells 49 .own (encD d))]) :
    Wc DD 42 [.sc (.ptr id 0)] h fun v h' => v = i64 d.kept ∧ h' = h := w42 id d h (hs.at1 k hk)
theorem w10s {h : Heap} {s : List UInt8} (hl : s.length ≤ 20000) : Wc DD 10 [.sc (.str s)] h fun v h' => ∃ u, v = .sc u ∧ SlR (intEl .i32) (Now h') u (allP s) ∧ Sep (Now h) [] h' := by
  refine (w10 s h hl).mono ?_
  rintro _ _ h' ⟨v, rfl, u, rfl, h1, h2⟩
  exact ⟨_, rfl, u, rfl, h1, sub_sep h2⟩
theorem allP_len (l : List UInt8) : (allP l).length ≤ 2 * l.length + 1 := by
  unfold allP tailP
  have := runP_len dec0 l
  rw [List.length_append]
  split <;> simp <;> omega
end Go.Proofs.YtggkbkbhegcbkaaDoor
/- Characters as bytes; what is written into a builder of strings. -/
set_option linter.unusedSimpArgs false
set_option linter.unusedVariables false
set_option maxHeartbeats 1000000
set_option maxRecDepth 100000
namespace Go.Proofs.YtggkbkbhegcbkaaDoor
open Go Go.Jx

/-! ## plain -/
def intsB (s : List UInt8) : List Int := s.map fun b => (b.toNat : Int)
def utf8 (r : Int) : List UInt8 := (Utf8.encode r).data.toList
theorem intsB_length (s : List UInt8) : (intsB s).length = s.length := by simp [intsB]
theorem intsB_append (s t : List UInt8) : intsB (s ++ t) = intsB s ++ intsB t := by simp [intsB]
theorem utf8_length (r : Int) : (utf8 r).length ≤ 4 := by
  unfold utf8 Utf8.encode
  simp only
  generalize (if Utf8.valid r = true then r.toNat else Utf8.runeError) = c
  by_cases h1 : c < 128
  · rw [if_pos h1]; simp
  rw [if_neg h1]
  by_cases h2 : c < 2048
  · rw [if_pos h2]; simp
  rw [if_neg h2]
  by_cases h3 : c < 65536
  · rw [if_pos h3]; simp
  · rw [if_neg h3]; simp

theorem bits_and : ∀ x : Fin 256, (BitVec.ofInt 8 (x.val : Int) &&& BitVec.ofInt 8 63).toNat = x.val % 64 := by decide +kernel
theorem bits_or128 : ∀ x : Fin 64, (BitVec.ofInt 8 128 ||| BitVec.ofInt 8 (x.val : Int)).toNat = 128 + x.val := by decide +kernel
theorem bits_or192 : ∀ x : Fin 32, (BitVec.ofInt 8 192 ||| BitVec.ofInt 8 (x.val : Int)).toNat = 192 + x.val := by decide +kernel
theorem bits_or224 : ∀ x : Fin 16, (BitVec.ofInt 8 224 ||| BitVec.ofInt 8 (x.val : Int)).toNat = 224 + x.val := by decide +kernel
theorem bits_or240 : ∀ x : Fin 8, (BitVec.ofInt 8 240 ||| BitVec.ofInt 8 (x.val : Int)).toNat = 240 + x.val := by decide +kernel

/-- A byte behind the first one. -/
theorem byte_next (x : Int) (hx : 0 ≤ x) : IntKind.u8.wrap (BitVec.ofInt IntKind.u8.bits 128 ||| BitVec.ofInt IntKind.u8.bits (IntKind.u8.wrap (BitVec.ofInt IntKind.u8.bits (IntKind.u8.wrap x) &&& BitVec.ofInt IntKind.u8.bits 63).toNat)).toNat = 128 + x % 64 := by
  have h1 : IntKind.u8.wrap x = (((x % 256).toNat : Nat) : Int) := by rw [IntKind.wrap_u8]; omega
  have h2 := bits_and ⟨(x % 256).toNat, by omega⟩
  simp only at h2
  rw [h1, show IntKind.u8.bits = 8 from rfl, h2, show IntKind.u8.wrap ((((x % 256).toNat % 64 : Nat) : Int)) = (((x % 256).toNat % 64 : Nat) : Int) from IntWalk.u8_in _ (by omega)]
  have h3 := bits_or128 ⟨(x % 256).toNat % 64, by omega⟩
  simp only at h3
  rw [h3, IntKind.wrap_u8]
  omega
theorem byte_192 (x : Int) (hx : 0 ≤ x ∧ x < 32) : IntKind.u8.wrap (BitVec.ofInt IntKind.u8.bits 192 ||| BitVec.ofInt IntKind.u8.bits x).toNat = 192 + x := by
  rw [show IntKind.u8.bits = 8 from rfl]
  have h := bits_or192 ⟨x.toNat, by omega⟩
  simp only at h
  rw [show ((x.toNat : Nat) : Int) = x by omega] at h
  rw [h, IntKind.wrap_u8]; omega
theorem byte_224 (x : Int) (hx : 0 ≤ x ∧ x < 16) : IntKind.u8.wrap (BitVec.ofInt IntKind.u8.bits 224 ||| BitVec.ofInt IntKind.u8.bits x).toNat = 224 + x := by
  rw [show IntKind.u8.bits = 8 from rfl]
  have h := bits_or224 ⟨x.toNat, by omega⟩
  simp only at h
  rw [show ((x.toNat : Nat) : Int) = x by omega] at h
  rw [h, IntKind.wrap_u8]; omega
theorem byte_240 (x : Int) (hx : 0 ≤ x ∧ x < 8) : IntKind.u8.wrap (BitVec.ofInt IntKind.u8.bits 240 ||| BitVec.ofInt IntKind.u8.bits x).toNat = 240 + x := by
  rw [show IntKind.u8.bits = 8 from rfl]
  have h := bits_or240 ⟨x.toNat, by omega⟩
  simp only at h
  rw [show ((x.toNat : Nat) : Int) = x by omega] at h
  rw [h, IntKind.wrap_u8]; omega

theorem u8n (n : Nat) (h : n < 256) : ((UInt8.ofNat n).toNat : Int) = n := by
  rw [UInt8.toNat_ofNat']; omega
theorem utf8_1 {r : Int} (h : 0 ≤ r ∧ r < 128) : intsB (utf8 r) = [r] := by
  have hv : Utf8.valid r = true := by unfold Utf8.valid; simp; omega
  unfold utf8 Utf8.encode
  simp only [hv, if_true]
  rw [if_pos (by omega)]
  simp only [intsB, List.map_cons, List.map_nil]
  rw [u8n _ (by omega)]
  congr 1; omega
theorem utf8_2 {r : Int} (h : 128 ≤ r ∧ r ≤ 2047) : intsB (utf8 r) = [192 + r / 64, 128 + r % 64] := by
  have hv : Utf8.valid r = true := by unfold Utf8.valid; simp; omega
  unfold utf8 Utf8.encode
  simp only [hv, if_true]
  rw [if_neg (by omega), if_pos (by omega)]
  simp only [intsB, List.map_cons, List.map_nil]
  rw [u8n _ (by omega), u8n _ (by omega)]
  congr 1
  · omega
  · congr 1; omega
theorem utf8_3 {r : Int} (h : 2047 < r ∧ r ≤ 65535) (hs : r < 55296 ∨ 57343 < r) : intsB (utf8 r) = [224 + r / 4096, 128 + r / 64 % 64, 128 + r % 64] := by
  have hv : Utf8.valid r = true := by unfold Utf8.valid; simp; omega
  unfold utf8 Utf8.encode
  simp only [hv, if_true]
  rw [if_neg (by omega), if_neg (by omega), if_pos (by omega)]
  simp only [intsB, List.map_cons, List.map_nil]
  rw [u8n _ (by omega), u8n _ (by omega), u8n _ (by omega)]
  congr 1
  · omega
  · congr 1
    · omega
    · congr 1; omega
theorem utf8_4 {r : Int} (h : 65535 < r ∧ r ≤ 1114111) : intsB (utf8 r) = [240 + r / 262144, 128 + r / 4096 % 64, 128 + r / 64 % 64, 128 + r % 64] := by
  have hv : Utf8.valid r = true := by unfold Utf8.valid; simp; omega
  unfold utf8 Utf8.encode
  simp only [hv, if_true]
  rw [if_neg (by omega), if_neg (by omega), if_neg (by omega)]
  simp only [intsB, List.map_cons, List.map_nil]
  rw [u8n _ (by omega), u8n _ (by omega), u8n _ (by omega), u8n _ (by omega)]
  congr 1
  · omega
  · congr 1
    · omega
    · congr 1
      · omega
      · congr 1; omega
theorem utf8_0 {r : Int} (h : r < 0 ∨ (55296 ≤ r ∧ r ≤ 57343) ∨ 1114111 < r) : intsB (utf8 r) = [239, 191, 189] := by
  have hv : Utf8.valid r = false := by
    unfold Utf8.valid
    simp only [Bool.or_eq_false_iff, Bool.and_eq_false_iff, decide_eq_false_iff_not]
    omega
  unfold utf8 Utf8.encode
  simp only [hv, Bool.false_eq_true, if_false]
  decide +kernel

def trimB (s : List UInt8) (c : UInt8) : List UInt8 := (s.reverse.dropWhile (· == c)).reverse
theorem trimB_nil (c : UInt8) : trimB [] c = [] := rfl
theorem trimB_snoc (s : List UInt8) (b c : UInt8) : trimB (s ++ [b]) c = if b = c then trimB s c else s ++ [b] := by
  unfold trimB
  rw [List.reverse_append, List.reverse_singleton, List.singleton_append, List.dropWhile_cons]
  by_cases h : b = c
  · rw [if_pos (by simpa using h), if_pos h]
  · rw [if_neg (by simpa using h), if_neg h]; simp
theorem trimB_take (s : List UInt8) (c : UInt8) (h : 0 < s.length) : trimB s c = if s.getD (s.length - 1) 0 = c then trimB (s.take (s.length - 1)) c else s := by
  have e : s = s.take (s.length - 1) ++ [s.getD (s.length - 1) 0] := by
    conv => lhs; rw [← List.take_append_drop (s.length - 1) s]
    congr 1
    rw [List.drop_eq_getElem_cons (by omega), List.drop_of_length_le (by omega), List.getD_eq_getElem?_getD, List.getElem?_eq_getElem (by omega)]; rfl
  generalize s.getD (s.length - 1) 0 = b at *
  generalize s.take (s.length - 1) = t at *
  subst e
  exact trimB_snoc t b c
theorem trimB_length (s : List UInt8) (c : UInt8) : (trimB s c).length ≤ s.length := by
  unfold trimB
  rw [List.length_reverse]
  have := (List.dropWhile_sublist (p := (· == c)) (l := s.reverse)).length_le
  simpa using this


theorem w59 (s : List UInt8) (c : UInt8) (h : Heap) (hl : s.length ≤ 9000000000000000000) : Wc DD 59 [.sc (.str s), .sc (.int .u8 (c.toNat : Int))] h fun w h' => w = .sc (.str (trimB s c)) ∧ h' = h := by
  have hs := Sep.entry h
  refine W_enter d59 ?_
  show W _ (.code m59_code [.sc (.str s), .sc (.int .u8 (c.toNat : Int)), undefA, undefA, undefA, undefA, undefA, undefA, undefA, undefA, undefA, undefA, undefA, undefA, undefA, undefA, undefA, undefA, undefA, undefA, undefA, undefA, undefA] _) _
  unfold m59_code
  repeat' (first
    | (refine K_ops ?_; first
      | refine W_fastB rfl ?_
      | refine W_nil ?_
    )
    | (refine K_code ?_; first
      | refine W_seq ?_
      | refine W_ops ?_
      | refine W_block ?_
    )
    | refine seqK_n ?_)
  refine W_loopB [0, 5, 6, 7, 8, 9, 10, 11, 12, 13, 14, 15, 16, 17, 18, 19, 20, 21] [0, 1, 2, 3, 4, 5, 6, 7, 8, 9, 10, 11, 12, 13, 14, 15, 16, 17, 18, 19, 20, 21, 22] (fun n' sl h' => ∃ (t : List UInt8), sl = [(0, .sc (.str t))] ∧ n' = t.length ∧ t.length ≤ s.length ∧ h' = h ∧ trimB s c = trimB t c) ?_ ?_
  · refine ⟨_, _, ⟨s, rfl, rfl, Nat.le_refl _, rfl, rfl⟩, EnvB.of rfl⟩
  rintro _ _ us _ h2 ⟨t, rfl, rfl, hk, rfl, hw⟩ he
  refine W_spell he rfl ?_
  clear he
  unfold m59_l1
  by_cases h0 : t.length = 0
  · have ht : t = [] := List.length_eq_zero_iff.1 h0
    subst ht
    repeat' (first
      | (refine K_ops ?_; first
        | refine W_fastB rfl ?_
        | refine W_nil ?_
        | (refine K_guard ?_; first
          | refine W_guard_off rfl rfl (W_norm rfl ?_)
        )
        | (refine K_pick ?_; first
          | refine W_pick_f rfl rfl (W_norm rfl ?_)
        )
      )
      | (refine K_code ?_; first
        | refine W_seq ?_
        | refine W_ops ?_
        | refine W_cond_f rfl ?_
        | refine W_ret ?_
        | refine W_exit ?_
      )
      | refine seqK_n ?_
      | refine seqK_x ?_
      | refine blockK_e ?_
      | refine invK_x ?_
      | (refine fnK_r rfl ?_; try dsimp only [gd_z, gd_s]))
    exact ⟨_, rfl, by rw [hw]; rfl, rfl⟩
  · have e := trimB_take t c (by omega)
    have n1 : ((t.length : Int) - 1).toNat = t.length - 1 := by omega
    repeat' (first
      | (refine K_ops ?_; first
        | refine W_fastB rfl ?_
        | refine W_nil ?_
        | (refine K_guard ?_; first
          | refine W_guard_on rfl ?_
          | (refine W_guardT rfl (fun hc => ?_) (fun hc => ?_) <;> (try rw [hc]) <;> (try simp only [cleanS, reduceCtorEq] at hc) <;> (try (exfalso; omega)) <;> (try refine W_norm rfl ?_))
        )
        | (refine K_bin ?_; first
          | (refine W_sub rfl rfl (IntWalk.i64_in _ (by first | omega | (simp only [lenS]; omega))) ?_; refine W_norm rfl ?_)
        )
        | (refine K_pick ?_; first
          | refine W_pick_t rfl rfl (W_norm rfl ?_)
        )
        | (refine W_sliceStrTo rfl rfl ⟨(by first | omega | (simp only [lenS]; omega)), (by first | omega | (simp only [lenS]; omega))⟩ ?_; refine W_norm rfl ?_)
        | (refine W_idxStr rfl rfl ⟨(by first | omega | (simp only [lenS]; omega)), (by first | omega | (simp only [lenS]; omega))⟩ ?_; refine W_norm rfl ?_)
      )
      | (refine K_code ?_; first
        | refine W_seq ?_
        | refine W_ops ?_
        | (refine W_cond rfl (fun hc => ?_) (fun hc => ?_) <;> (try rw [hc]) <;> (try simp only [cleanS, reduceCtorEq] at hc) <;> (try (exfalso; omega)) <;> (try refine W_norm rfl ?_))
        | refine W_skip ?_
        | refine W_ret ?_
        | refine W_exit ?_
        | refine W_block ?_
      )
      | refine seqK_n ?_
      | refine seqK_x ?_
      | refine blockK_n ?_
      | refine blockK_e ?_
      | refine invK_x ?_
      | refine invK_n ?_
      | (refine fnK_r rfl ?_; try dsimp only [gd_z, gd_s]))
    · rw [n1] at hc ⊢
      have hc' : t.getD (t.length - 1) 0 = c := UInt8.toNat_inj.1 (by omega)
      refine ⟨_, ?_, _, ⟨t.take (t.length - 1), rfl, rfl, ?_, rfl, ?_⟩, EnvB.of rfl⟩
      · rw [List.length_take]; omega
      · rw [List.length_take]; omega
      · rw [hw, e, if_pos hc']
    · rw [n1] at hc
      have hc' : ¬ t.getD (t.length - 1) 0 = c := fun hh => hc (by rw [hh])
      exact ⟨_, rfl, by rw [hw, e, if_neg hc'], rfl⟩



theorem w45 (s : List UInt8) (c : UInt8) (h : Heap) (hl : s.length ≤ 9000000000000000000) (hc1 : c.toNat < 128) : Wc DD 45 [.sc (.str s), .sc (.str [c])] h fun w h' => w = .sc (.str (trimB s c)) ∧ h' = h := by
  have hs := Sep.entry h
  refine W_enter d45 ?_
  show W _ (.code m45_code [.sc (.str s), .sc (.str [c]), undefA, undefA, undefA, undefA, undefA, undefA, undefA, undefA, undefA, undefA, undefA, undefA, undefA, undefA, undefA, undefA, undefA, undefA, undefA, undefA, undefA, undefA, undefA, undefA, undefA, undefA, undefA, undefA, undefA, undefA, undefA, undefA, undefA, undefA, undefA] _) _
  unfold m45_code
  by_cases h0 : s = []
  · subst h0
    repeat' (first
      | (refine K_ops ?_; first
        | refine W_fastB rfl ?_
        | refine W_nil ?_
        | (refine K_guard ?_; first
          | refine W_guard_off rfl rfl (W_norm rfl ?_)
        )
        | (refine K_pick ?_; first
          | refine W_pick_t rfl rfl (W_norm rfl ?_)
        )
      )
      | (refine K_code ?_; first
        | refine W_seq ?_
        | refine W_ops ?_
        | refine W_cond_t rfl ?_
        | refine W_ret ?_
      )
      | refine seqK_n ?_
      | refine seqK_r ?_
      | (refine fnK_r rfl ?_; try dsimp only [gd_z, gd_s]))
    exact ⟨_, rfl, rfl, rfl⟩
  · have h0' : (s == []) = false := by simpa using h0
    have hc2 : (([c].getD ((0 : Int)).toNat 0).toNat : Int) < 128 := by show (c.toNat : Int) < 128; omega
    repeat' (first
      | (refine K_ops ?_; first
        | refine W_fastB rfl ?_
        | refine W_nil ?_
        | (refine K_guard ?_; first
          | refine W_guard_on rfl ?_
          | refine W_guard_off rfl rfl (W_norm rfl ?_)
          | (refine W_guardF rfl (fun hc => ?_) (fun hc => ?_) <;> (try rw [hc]) <;> (try simp only [cleanS, reduceCtorEq] at hc) <;> (try (exfalso; omega)) <;> (try refine W_norm rfl ?_))
        )
        | (refine K_call ?_; first
          | (refine W_callsN 59 rfl (w59 s c _ hl) rfl ?_; rintro _ _ ⟨rfl, rfl⟩; refine W_norm rfl ?_)
        )
        | (refine K_pick ?_; first
          | refine W_pick_t rfl rfl (W_norm rfl ?_)
          | refine W_pick_f rfl rfl (W_norm rfl ?_)
        )
        | (refine W_idxStr rfl rfl ⟨(by first | omega | (simp only [lenS]; omega)), (by first | omega | (simp only [lenS]; omega))⟩ ?_; refine W_norm rfl ?_)
      )
      | (refine K_code ?_; first
        | refine W_seq ?_
        | refine W_ops ?_
        | refine W_cond_t rfl ?_
        | refine W_cond_f rfl ?_
        | (refine W_cond rfl (fun hc => ?_) (fun hc => ?_) <;> (try rw [hc]) <;> (try simp only [cleanS, reduceCtorEq] at hc) <;> (try (exfalso; omega)) <;> (try refine W_norm rfl ?_))
        | refine W_skip ?_
        | refine W_ret ?_
      )
      | refine seqK_n ?_
      | refine seqK_r ?_
      | (refine fnK_r rfl ?_; try dsimp only [gd_z, gd_s]))
    all_goals first | exact ⟨_, rfl, rfl, rfl⟩ | (exfalso; omega) | simp_all



end Go.Proofs.YtggkbkbhegcbkaaDoor
/- Texts: where a byte is, what lies ahead of it, what a text ends with. -/
set_option linter.unusedSimpArgs false
set_option linter.unusedVariables false
set_option maxHeartbeats 1000000
set_option maxRecDepth 100000
namespace Go.Proofs.YtggkbkbhegcbkaaDoor
open Go Go.Jx

/-- Where a byte is. -/
theorem idxB_find (s : List UInt8) (c : Int) (hc : 0 ≤ c ∧ c < 256) :
    (indexByteA s c = -1 ∧ UInt8.ofNat c.toNat ∉ s) ∨ ∃ i : Nat, indexByteA s c = i ∧ i < s.length ∧ s.getD i 0 = UInt8.ofNat c.toNat ∧ UInt8.ofNat c.toNat ∉ s.take i := by
  unfold indexByteA
  cases hf : (List.range s.length).find? (fun i => s.getD i 0 == UInt8.ofNat c.toNat) with
  | none =>
    left
    refine ⟨rfl, fun hm => ?_⟩
    obtain ⟨i, hi, he⟩ := List.getElem_of_mem hm
    have := List.find?_eq_none.1 hf i (List.mem_range.2 hi)
    rw [List.getD_eq_getElem?_getD, List.getElem?_eq_getElem hi] at this
    simp [he] at this
  | some i =>
    right
    obtain ⟨h1, h2, h3⟩ := List.find?_range_eq_some.1 hf
    have h2 := List.mem_range.1 h2
    refine ⟨i, rfl, h2, by simpa using h1, fun hm => ?_⟩
    obtain ⟨j, hj, he⟩ := List.getElem_of_mem hm
    rw [List.length_take] at hj
    have h4 := h3 j (by omega)
    rw [List.getElem_take] at he
    rw [List.getD_eq_getElem?_getD, List.getElem?_eq_getElem (by omega)] at h4
    simp [he] at h4
theorem idxB_b (s : List UInt8) (b : UInt8) : (indexByteA s b.toNat = -1 ∧ b ∉ s) ∨ ∃ i : Nat, indexByteA s b.toNat = i ∧ i < s.length ∧ s.getD i 0 = b ∧ b ∉ s.take i := by
  have h := idxB_find s b.toNat (by have := b.toNat_lt; omega)
  rw [show UInt8.ofNat ((b.toNat : Int)).toNat = b by rw [Int.toNat_natCast, UInt8.ofNat_toNat]] at h
  exact h
theorem w53 (s : List UInt8) (c : Int) (h : Heap) : Wc DD 53 [.sc (.str s), .sc (.int .u8 c)] h fun v h' => v = i64 (indexByteA s c) ∧ h' = h := by
  refine W_enter d53 ?_
  show W _ (.code m53_code [.sc (.str s), .sc (.int .u8 c), undefA, undefA, undefA, undefA, undefA, undefA] _) _
  unfold m53_code
  repeat' (first
    | (refine K_ops ?_; first
      | refine W_fastB rfl ?_
      | refine W_nil ?_
      | (refine W_det rfl rfl ?_; refine W_norm rfl ?_)
    )
    | (refine K_code ?_; first
      | refine W_seq ?_
      | refine W_ops ?_
      | refine W_ret ?_
    )
    | refine seqK_n ?_
    | (refine fnK_r rfl ?_; try dsimp only [gd_z, gd_s]))
  all_goals exact ⟨_, rfl, rfl, rfl⟩
theorem w38 (s : List UInt8) (c : Int) (h : Heap) : Wc DD 38 [.sc (.str s), .sc (.int .u8 c)] h fun v h' => v = i64 (indexByteA s c) ∧ h' = h := by
  refine W_enter d38 ?_
  show W _ (.code m38_code [.sc (.str s), .sc (.int .u8 c), undefA, undefA, undefA, undefA, undefA, undefA] _) _
  unfold m38_code
  repeat' (first
    | (refine K_ops ?_; first
      | refine W_fastB rfl ?_
      | refine W_nil ?_
      | (refine K_call ?_; first
        | (refine W_callsN 53 rfl (w53 s c _) rfl ?_; rintro _ hX ⟨rfl, rfl⟩; refine W_norm rfl ?_)
      )
    )
    | (refine K_code ?_; first
      | refine W_seq ?_
      | refine W_ops ?_
      | refine W_ret ?_
    )
    | refine seqK_n ?_
    | (refine fnK_r rfl ?_; try dsimp only [gd_z, gd_s]))
  all_goals exact ⟨_, rfl, rfl, rfl⟩
theorem w44 (s : List UInt8) (b : UInt8) (h : Heap) : Wc DD 44 [.sc (.str s), .sc (.str [b])] h fun v h' => v = i64 (indexByteA s b.toNat) ∧ h' = h := by
  refine W_enter d44 ?_
  show W _ (.code m44_code [.sc (.str s), .sc (.str [b]), undefA, undefA, undefA, undefA, undefA, undefA, undefA, undefA, undefA, undefA, undefA, undefA, undefA, undefA, undefA, undefA, undefA, undefA, undefA, undefA, undefA, undefA, undefA, undefA, undefA, undefA, undefA, undefA, undefA, undefA, undefA, undefA, undefA, undefA, undefA, undefA, undefA, undefA, undefA, undefA, undefA, undefA, undefA, undefA, undefA, undefA, undefA, undefA, undefA, undefA, undefA, undefA, undefA, undefA, undefA, undefA, undefA, undefA, undefA, undefA, undefA, undefA, undefA, undefA, undefA, undefA, undefA, undefA, undefA, undefA, undefA, undefA, undefA, undefA, undefA, undefA, undefA, undefA, undefA, undefA, undefA, undefA, undefA, undefA, undefA, undefA, undefA, undefA, undefA, undefA, undefA, undefA, undefA, undefA, undefA, undefA, undefA, undefA, undefA, undefA, undefA, undefA, undefA, undefA, undefA, undefA, undefA, undefA, undefA, undefA, undefA, undefA, undefA, undefA, undefA, undefA, undefA, undefA, undefA, undefA, undefA, undefA, undefA, undefA, undefA, undefA, undefA, undefA, undefA, undefA, undefA, undefA, undefA, undefA, undefA, undefA, undefA, undefA, undefA, undefA, undefA] _) _
  unfold m44_code
  repeat' (first
    | (refine K_ops ?_; first
      | refine W_fastB rfl ?_
      | refine W_nil ?_
      | (refine K_guard ?_; first
        | refine W_guard_on rfl ?_
      )
      | (refine K_call ?_; first
        | (refine W_callsN 53 rfl (w53 s b.toNat _) rfl ?_; rintro _ hX ⟨rfl, rfl⟩; refine W_norm rfl ?_)
      )
      | (refine K_pick ?_; first
        | refine W_pick_f rfl rfl (W_norm rfl ?_)
      )
      | (refine W_idxStr rfl rfl ⟨(by first | omega | (simp only [lenS]; omega)), (by first | omega | (simp only [lenS]; omega))⟩ ?_; refine W_norm rfl ?_)
    )
    | (refine K_code ?_; first
      | refine W_seq ?_
      | refine W_ops ?_
      | refine W_cond_t rfl ?_
      | (refine W_cond rfl (fun hc => ?_) (fun hc => ?_) <;> (try rw [hc]) <;> (try simp only [cleanS, reduceCtorEq] at hc) <;> (try (exfalso; omega)) <;> (try refine W_norm rfl ?_))
      | refine W_ret ?_
      | refine W_block ?_
    )
    | refine seqK_n ?_
    | refine seqK_r ?_
    | refine blockK_r ?_
    | (refine fnK_r rfl ?_; try dsimp only [gd_z, gd_s]))
  · refine ⟨_, rfl, ?_, rfl⟩
    subst hc
    unfold indexByteA
    simp
  · exact ⟨_, rfl, rfl, rfl⟩
theorem w27 (s : List UInt8) (b : UInt8) (h : Heap) : Wc DD 27 [.sc (.str s), .sc (.str [b])] h fun v h' => v = i64 (indexByteA s b.toNat) ∧ h' = h := by
  refine W_enter d27 ?_
  show W _ (.code m27_code [.sc (.str s), .sc (.str [b]), undefA, undefA, undefA, undefA, undefA, undefA] _) _
  unfold m27_code
  repeat' (first
    | (refine K_ops ?_; first
      | refine W_fastB rfl ?_
      | refine W_nil ?_
      | (refine K_call ?_; first
        | (refine W_callsN 44 rfl (w44 s b _) rfl ?_; rintro _ hX ⟨rfl, rfl⟩; refine W_norm rfl ?_)
      )
    )
    | (refine K_code ?_; first
      | refine W_seq ?_
      | refine W_ops ?_
      | refine W_ret ?_
    )
    | refine seqK_n ?_
    | (refine fnK_r rfl ?_; try dsimp only [gd_z, gd_s]))
  all_goals exact ⟨_, rfl, rfl, rfl⟩
theorem w12 (s : List UInt8) (b : UInt8) (h : Heap) : Wc DD 12 [.sc (.str s), .sc (.str [b])] h fun v h' => v = bo (decide (b ∈ s)) ∧ h' = h := by
  refine W_enter d12 ?_
  show W _ (.code m12_code [.sc (.str s), .sc (.str [b]), undefA, undefA, undefA, undefA, undefA, undefA, undefA] _) _
  unfold m12_code
  repeat' (first
    | (refine K_ops ?_; first
      | refine W_fastB rfl ?_
      | refine W_nil ?_
      | (refine K_call ?_; first
        | (refine W_callsN 27 rfl (w27 s b _) rfl ?_; rintro _ hX ⟨rfl, rfl⟩; refine W_norm rfl ?_)
      )
    )
    | (refine K_code ?_; first
      | refine W_seq ?_
      | refine W_ops ?_
      | refine W_ret ?_
    )
    | refine seqK_n ?_
    | (refine fnK_r rfl ?_; try dsimp only [gd_z, gd_s]))
  refine ⟨_, rfl, ?_, rfl⟩
  rcases idxB_b s b with ⟨h1, h2⟩ | ⟨i, h1, h2, h3, _⟩
  · rw [h1, decide_eq_false h2]; rfl
  · rw [h1, decide_eq_true (show b ∈ s by rw [← h3, List.getD_eq_getElem?_getD, List.getElem?_eq_getElem h2]; exact List.getElem_mem h2)]
    refine congrArg bo (decide_eq_true (by omega))
/-- What lies ahead of a byte, what behind it. -/
def cutL (s : List UInt8) (b : UInt8) : List UInt8 × List UInt8 × Bool :=
  if indexByteA s b.toNat < 0 then (s, [], false) else (s.take (indexByteA s b.toNat).toNat, s.drop ((indexByteA s b.toNat).toNat + 1), true)
theorem w54 (s : List UInt8) (b : UInt8) (hl : s.length ≤ 100000) (h : Heap) : Wc DD 54 [.sc (.str s), .sc (.str [b])] h fun v h' => v = .tup [.sc (.str (cutL s b).1), .sc (.str (cutL s b).2.1), .sc (.bool (cutL s b).2.2)] ∧ h' = h := by
  have hb : indexByteA s b.toNat < s.length := by
    rcases idxB_b s b with ⟨h1, _⟩ | ⟨i, h1, h2, _⟩ <;> omega
  unfold cutL
  refine W_enter d54 ?_
  show W _ (.code m54_code [.sc (.str s), .sc (.str [b]), undefA, undefA, undefA, undefA, undefA, undefA, undefA, undefA, undefA, undefA, undefA, undefA, undefA, undefA, undefA, undefA, undefA, undefA, undefA, undefA, undefA] _) _
  unfold m54_code
  repeat' (first
    | (refine K_ops ?_; first
      | refine W_fastB rfl ?_
      | refine W_nil ?_
      | (refine K_call ?_; first
        | (refine W_callsN 44 rfl (w44 s b _) rfl ?_; rintro _ hX ⟨rfl, rfl⟩; refine W_norm rfl ?_)
      )
      | (refine K_bin ?_; first
        | (refine W_add rfl rfl (IntWalk.i64_in _ (by first | omega | (simp only [lenS]; omega))) ?_; refine W_norm rfl ?_)
      )
      | (refine W_sliceStrTo rfl rfl ⟨(by first | omega | (simp only [lenS]; omega)), (by first | omega | (simp only [lenS]; omega))⟩ ?_; refine W_norm rfl ?_)
      | (refine W_sliceStrFrom rfl rfl ⟨(by first | omega | (simp only [lenS]; omega)), (by first | omega | (simp only [lenS]; omega))⟩ ?_; refine W_norm rfl ?_)
    )
    | (refine K_code ?_; first
      | refine W_seq ?_
      | refine W_ops ?_
      | (refine W_cond rfl (fun hc => ?_) (fun hc => ?_) <;> (try rw [hc]) <;> (try simp only [cleanS, reduceCtorEq] at hc) <;> (try (exfalso; omega)) <;> (try refine W_norm rfl ?_))
      | refine W_skip ?_
      | refine W_ret ?_
      | refine W_draw rfl ?_
    )
    | refine seqK_n ?_
    | refine seqK_r ?_
    | (refine fnK_r rfl ?_; try dsimp only [gd_z, gd_s]))
  · have e1 : (indexByteA s b.toNat + ([b].length : Int)).toNat = (indexByteA s b.toNat).toNat + 1 := by simp; omega
    refine ⟨_, rfl, ?_, rfl⟩
    rw [e1, if_neg (by omega)]
  · refine ⟨_, rfl, ?_, rfl⟩
    rw [if_pos (by omega)]
theorem w39 (s : List UInt8) (b : UInt8) (hl : s.length ≤ 100000) (h : Heap) : Wc DD 39 [.sc (.str s), .sc (.str [b])] h fun v h' => v = .tup [.sc (.str (cutL s b).1), .sc (.str (cutL s b).2.1), .sc (.bool (cutL s b).2.2)] ∧ h' = h := by
  refine W_enter d39 ?_
  show W _ (.code m39_code [.sc (.str s), .sc (.str [b]), undefA, undefA, undefA, undefA, undefA, undefA, undefA, undefA, undefA, undefA, undefA] _) _
  unfold m39_code
  repeat' (first
    | (refine K_ops ?_; first
      | refine W_fastB rfl ?_
      | refine W_nil ?_
      | (refine K_call ?_; first
        | (refine W_callsN 54 rfl (w54 s b hl _) rfl ?_; rintro _ hX ⟨rfl, rfl⟩; refine W_norm rfl ?_)
      )
    )
    | (refine K_code ?_; first
      | refine W_seq ?_
      | refine W_ops ?_
      | refine W_ret ?_
    )
    | refine seqK_n ?_
    | (refine fnK_r rfl ?_; try dsimp only [gd_z, gd_s]))
  exact ⟨_, rfl, rfl, rfl⟩
end Go.Proofs.YtggkbkbhegcbkaaDoor
