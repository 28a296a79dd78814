import Derived.Test.YtggkbkbhegcbkaaDoorJxM18A
/- Base64, plainly: the program's groups of four letters, and the document's bits, stand for the same; what is spelt by bits is read back. -/
set_option linter.unusedSimpArgs false
set_option linter.unusedVariables false
set_option maxHeartbeats 1000000
set_option maxRecDepth 100000
namespace Go.Proofs.YtggkbkbhegcbkaaDoor
open Go Go.Jx

def letL : List UInt8 := [65,66,67,68,69,70,71,72,73,74,75,76,77,78,79,80,81,82,83,84,85,86,87,88,89,90,97,98,99,100,101,102,103,104,105,106,107,108,109,110,111,112,113,114,115,116,117,118,119,120,121,122,48,49,50,51,52,53,54,55,56,57,43,47]
/-- What a letter stands for; below 0: it is none. -/
def lv (b : UInt8) : Int := indexByteA letL b.toNat
def letterR (c : Int) : Int :=
  if 65 ≤ c ∧ c ≤ 90 then c - 65 else if 97 ≤ c ∧ c ≤ 122 then c - 97 + 26 else if 48 ≤ c ∧ c ≤ 57 then c - 48 + 52 else if c = 43 then 62 else if c = 47 then 63 else -1
theorem lv_all : ((List.range 256).all fun n => decide (indexByteA letL (n : Nat) = letterR (n : Int))) = true := by kernel_rfl
theorem lv_letter (b : UInt8) : lv b = letterR b.toNat := by
  have := of_decide_eq_true (List.all_eq_true.1 lv_all b.toNat (by simp; exact b.toNat_lt))
  exact this
theorem lv_range (b : UInt8) : -1 ≤ lv b ∧ lv b < 64 := by
  have := b.toNat_lt
  rw [lv_letter]; unfold letterR
  repeat' split
  all_goals omega
theorem let_all : ((List.range 64).all fun n => decide (lv (letL.getD n 0) = (n : Int) ∧ letL.getD n 0 ≠ 61)) = true := by kernel_rfl
theorem lv_let {n : Nat} (h : n < 64) : lv (letL.getD n 0) = n ∧ letL.getD n 0 ≠ 61 := of_decide_eq_true (List.all_eq_true.1 let_all n (by simpa using h))
theorem lv_eq : lv 61 = -1 := by kernel_rfl

def xL (a b c d : Int) : Int := ((a * 64 + b) * 64 + c) * 64 + d
def b3 (x : Int) : List Int := [x / 65536 % 256, x / 256 % 256, x % 256]
def kL (s : List UInt8) (n i : Nat) : Int := if i < n then lv (s.getD i 0) else 0
def toB (l : List Int) : List UInt8 := l.map fun x => UInt8.ofNat x.toNat
/-- What four letters stand for. -/
def groupL (s : List UInt8) (last : Bool) : Option (List UInt8) :=
  if (trimB s 61).length < 2 ∨ ((trimB s 61).length < 4 ∧ last = false) then none
  else if kL s (trimB s 61).length 0 < 0 ∨ kL s (trimB s 61).length 1 < 0 ∨ kL s (trimB s 61).length 2 < 0 ∨ kL s (trimB s 61).length 3 < 0 then none
  else if ((b3 (xL (kL s (trimB s 61).length 0) (kL s (trimB s 61).length 1) (kL s (trimB s 61).length 2) (kL s (trimB s 61).length 3))).drop ((trimB s 61).length - 1)).all (fun y => decide (y = 0))
    then some (toB ((b3 (xL (kL s (trimB s 61).length 0) (kL s (trimB s 61).length 1) (kL s (trimB s 61).length 2) (kL s (trimB s 61).length 3))).take ((trimB s 61).length - 1)))
  else none
def decG : List UInt8 → Option (List UInt8)
  | a :: b :: c :: d :: r => match groupL [a, b, c, d] (decide (r = [])) with | none => none | some g => (decG r).map (g ++ ·)
  | _ => some []
/-- Base64, as the program reads it. -/
def decL (s : List UInt8) : Option (List UInt8) := if s.length % 4 ≠ 0 then none else decG s

def bits6 (x : Int) : List Int := [x / 32 % 2, x / 16 % 2, x / 8 % 2, x / 4 % 2, x / 2 % 2, x % 2]
def byte8 : List Int → Int := fun l => l.foldl (fun x b => 2 * x + b) 0
def chunks8 : Nat → List Int → List Int × List Int
  | 0, b => ([], b)
  | f + 1, b => if 8 ≤ b.length then (byte8 (b.take 8) :: (chunks8 f (b.drop 8)).1, (chunks8 f (b.drop 8)).2) else ([], b)
def lastEq (s : List UInt8) : Bool := decide (0 < s.length ∧ s.getD (s.length - 1) 0 = 61)
def refN (s : List UInt8) : Nat := if lastEq s then (if lastEq (s.take (s.length - 1)) then s.length - 2 else s.length - 1) else s.length
def bitsL (s : List UInt8) : List Int := s.flatMap fun b => bits6 (lv b)
def outR (s : List UInt8) : Option (List UInt8) :=
  if (s.all fun b => decide (0 ≤ lv b)) then
    (if ((chunks8 (bitsL s).length (bitsL s)).2.all fun b => decide (b ≠ 1)) then some (toB (chunks8 (bitsL s).length (bitsL s)).1) else none)
  else none
/-- Base64, as the document reads it. -/
def decR (s : List UInt8) : Option (List UInt8) := if s.length % 4 ≠ 0 then none else outR (s.take (refN s))

theorem trim4 (a b c d : UInt8) : (trimB [a, b, c, d] 61).length = if d ≠ 61 then 4 else if c ≠ 61 then 3 else if b ≠ 61 then 2 else if a ≠ 61 then 1 else 0 := by
  rw [show [a, b, c, d] = [a, b, c] ++ [d] from rfl, trimB_snoc]
  by_cases hd : d = 61
  · rw [if_pos hd, if_neg (by simpa using hd), show [a, b, c] = [a, b] ++ [c] from rfl, trimB_snoc]
    by_cases hc : c = 61
    · rw [if_pos hc, if_neg (by simpa using hc), show [a, b] = [a] ++ [b] from rfl, trimB_snoc]
      by_cases hb : b = 61
      · rw [if_pos hb, if_neg (by simpa using hb), show [a] = [] ++ [a] from rfl, trimB_snoc]
        by_cases ha : a = 61
        · rw [if_pos ha, if_neg (by simpa using ha)]; rfl
        · rw [if_neg ha, if_pos ha]; rfl
      · rw [if_neg hb, if_pos hb]; rfl
    · rw [if_neg hc, if_pos hc]; rfl
  · rw [if_neg hd, if_pos hd]; rfl

theorem chunks8_more : ∀ (f : Nat) (b : List Int), b.length ≤ f → chunks8 f b = chunks8 b.length b := by
  intro f
  induction f using Nat.strongRecOn with
  | _ f ih =>
    intro b hb
    cases f with
    | zero => have : b = [] := List.eq_nil_of_length_eq_zero (by omega); subst this; rfl
    | succ f =>
      by_cases h8 : 8 ≤ b.length
      · obtain ⟨m, hm⟩ : ∃ m, b.length = m + 1 := ⟨b.length - 1, by omega⟩
        rw [hm, chunks8, chunks8, if_pos h8, if_pos h8]
        have hdl : (b.drop 8).length = b.length - 8 := List.length_drop
        rw [ih f (by omega) (b.drop 8) (by omega)]
        by_cases hmf : m = f + 1
        · omega
        · rw [ih m (by omega) (b.drop 8) (by omega)]
      · rw [chunks8, if_neg h8]
        cases hl : b.length with
        | zero => rfl
        | succ m => rw [chunks8, if_neg h8]
theorem chunks8_24 (a b c d : Int) (ha : 0 ≤ a ∧ a < 64) (hb : 0 ≤ b ∧ b < 64) (hc : 0 ≤ c ∧ c < 64) (hd : 0 ≤ d ∧ d < 64) (r : List Int) :
    chunks8 (bits6 a ++ (bits6 b ++ (bits6 c ++ (bits6 d ++ r)))).length (bits6 a ++ (bits6 b ++ (bits6 c ++ (bits6 d ++ r)))) = (b3 (xL a b c d) ++ (chunks8 r.length r).1, (chunks8 r.length r).2) := by
  have hl : (bits6 a ++ (bits6 b ++ (bits6 c ++ (bits6 d ++ r)))).length = r.length + 21 + 1 + 1 + 1 := by simp [bits6] <;> omega
  rw [hl, chunks8, if_pos (by simp [bits6] <;> omega)]
  simp only [bits6, List.cons_append, List.nil_append, List.take_succ_cons, List.take_zero, List.drop_succ_cons, List.drop_zero]
  rw [chunks8, if_pos (by simp <;> omega)]
  simp only [List.take_succ_cons, List.take_zero, List.drop_succ_cons, List.drop_zero]
  rw [chunks8, if_pos (by simp <;> omega)]
  simp only [List.take_succ_cons, List.take_zero, List.drop_succ_cons, List.drop_zero]
  rw [chunks8_more _ r (by omega)]
  have e1 : byte8 [a / 32 % 2, a / 16 % 2, a / 8 % 2, a / 4 % 2, a / 2 % 2, a % 2, b / 32 % 2, b / 16 % 2] = xL a b c d / 65536 % 256 := by simp only [byte8, List.foldl, xL]; omega
  have e2 : byte8 [b / 8 % 2, b / 4 % 2, b / 2 % 2, b % 2, c / 32 % 2, c / 16 % 2, c / 8 % 2, c / 4 % 2] = xL a b c d / 256 % 256 := by simp only [byte8, List.foldl, xL]; omega
  have e3 : byte8 [c / 2 % 2, c % 2, d / 32 % 2, d / 16 % 2, d / 8 % 2, d / 4 % 2, d / 2 % 2, d % 2] = xL a b c d % 256 := by simp only [byte8, List.foldl, xL]; omega
  rw [e1, e2, e3]; rfl
theorem chunks8_18 (a b c : Int) (ha : 0 ≤ a ∧ a < 64) (hb : 0 ≤ b ∧ b < 64) (hc : 0 ≤ c ∧ c < 64) : chunks8 (bits6 a ++ (bits6 b ++ bits6 c)).length (bits6 a ++ (bits6 b ++ bits6 c)) = ((b3 (xL a b c 0)).take 2, [c / 2 % 2, c % 2]) := by
  have e1 : byte8 [a / 32 % 2, a / 16 % 2, a / 8 % 2, a / 4 % 2, a / 2 % 2, a % 2, b / 32 % 2, b / 16 % 2] = xL a b c 0 / 65536 % 256 := by simp only [byte8, List.foldl, xL]; omega
  have e2 : byte8 [b / 8 % 2, b / 4 % 2, b / 2 % 2, b % 2, c / 32 % 2, c / 16 % 2, c / 8 % 2, c / 4 % 2] = xL a b c 0 / 256 % 256 := by simp only [byte8, List.foldl, xL]; omega
  simp only [b3, List.take_succ_cons, List.take_zero]
  rw [← e1, ← e2]; rfl
theorem chunks8_12 (a b : Int) (ha : 0 ≤ a ∧ a < 64) (hb : 0 ≤ b ∧ b < 64) : chunks8 (bits6 a ++ bits6 b).length (bits6 a ++ bits6 b) = ((b3 (xL a b 0 0)).take 1, [b / 8 % 2, b / 4 % 2, b / 2 % 2, b % 2]) := by
  have e1 : byte8 [a / 32 % 2, a / 16 % 2, a / 8 % 2, a / 4 % 2, a / 2 % 2, a % 2, b / 32 % 2, b / 16 % 2] = xL a b 0 0 / 65536 % 256 := by simp only [byte8, List.foldl, xL]; omega
  simp only [b3, List.take_succ_cons, List.take_zero]
  rw [← e1]; rfl

theorem lastEq4 (a b c d : UInt8) (r : List UInt8) : lastEq (a :: b :: c :: d :: r) = if r = [] then decide (d = 61) else lastEq r := by
  unfold lastEq
  by_cases hr : r = []
  · subst hr; simp
  · rw [if_neg hr]
    have hl : 0 < r.length := List.length_pos_iff.2 hr
    have : (a :: b :: c :: d :: r).getD ((a :: b :: c :: d :: r).length - 1) 0 = r.getD (r.length - 1) 0 := by
      rw [show (a :: b :: c :: d :: r).length - 1 = r.length - 1 + 1 + 1 + 1 + 1 by simp; omega]
      simp
    rw [this]
    refine decide_eq_decide.2 ⟨fun h => ⟨hl, h.2⟩, fun h => ⟨by simp, h.2⟩⟩
theorem refN_more (a b c d : UInt8) (r : List UInt8) (hr : 2 ≤ r.length) : refN (a :: b :: c :: d :: r) = refN r + 4 := by
  have hne : r ≠ [] := by rintro rfl; simp at hr
  have e1 : (a :: b :: c :: d :: r).take ((a :: b :: c :: d :: r).length - 1) = a :: b :: c :: d :: r.take (r.length - 1) := by
    rw [show (a :: b :: c :: d :: r).length - 1 = r.length - 1 + 1 + 1 + 1 + 1 by simp; omega]
    simp
  have hne2 : r.take (r.length - 1) ≠ [] := by
    intro h; have := congrArg List.length h; rw [List.length_take, List.length_nil] at this; omega
  unfold refN
  rw [e1, lastEq4, if_neg hne, lastEq4, if_neg hne2]
  simp only [List.length_cons]
  split
  · split <;> omega
  · rfl
theorem refN4 (a b c d : UInt8) : refN [a, b, c, d] = if d = 61 then (if c = 61 then 2 else 3) else 4 := by
  unfold refN
  rw [show ([a, b, c, d].take ([a, b, c, d].length - 1)) = [a, b, c] from rfl]
  have h1 : lastEq [a, b, c, d] = decide (d = 61) := by simp [lastEq]
  have h2 : lastEq [a, b, c] = decide (c = 61) := by simp [lastEq]
  rw [h1, h2]
  by_cases hd : d = 61
  · by_cases hc : c = 61
    · simp [hd, hc]
    · simp [hd, hc]
  · simp [hd]
theorem refN_le (s : List UInt8) : refN s ≤ s.length := by unfold refN; split <;> (try split) <;> omega

theorem outR_4 (a b c d : UInt8) (t : List UInt8) : outR (a :: b :: c :: d :: t) = if lv a < 0 ∨ lv b < 0 ∨ lv c < 0 ∨ lv d < 0 then none else (outR t).map (toB (b3 (xL (lv a) (lv b) (lv c) (lv d))) ++ ·) := by
  have ra := lv_range a
  have rb := lv_range b
  have rc := lv_range c
  have rd := lv_range d
  by_cases hn : lv a < 0 ∨ lv b < 0 ∨ lv c < 0 ∨ lv d < 0
  · rw [if_pos hn]
    unfold outR
    rw [if_neg]
    intro hall
    simp only [List.all_cons, Bool.and_eq_true, decide_eq_true_eq] at hall
    omega
  · rw [if_neg hn]
    have hb : bitsL (a :: b :: c :: d :: t) = bits6 (lv a) ++ (bits6 (lv b) ++ (bits6 (lv c) ++ (bits6 (lv d) ++ bitsL t))) := rfl
    have hch := chunks8_24 (lv a) (lv b) (lv c) (lv d) (by omega) (by omega) (by omega) (by omega) (bitsL t)
    unfold outR
    rw [hb, hch]
    have h4 : ((a :: b :: c :: d :: t).all fun b => decide (0 ≤ lv b)) = t.all fun b => decide (0 ≤ lv b) := by
      simp only [List.all_cons]
      rw [decide_eq_true (show 0 ≤ lv a by omega), decide_eq_true (show 0 ≤ lv b by omega), decide_eq_true (show 0 ≤ lv c by omega), decide_eq_true (show 0 ≤ lv d by omega)]
      rfl
    rw [h4]
    by_cases h1 : (t.all fun b => decide (0 ≤ lv b)) = true
    · rw [if_pos h1, if_pos h1]
      by_cases h2 : ((chunks8 (bitsL t).length (bitsL t)).2.all fun b => decide (b ≠ 1)) = true
      · rw [if_pos h2, if_pos h2]
        simp [toB]
      · rw [if_neg h2, if_neg h2]; rfl
    · rw [if_neg h1, if_neg h1]; rfl
theorem all_out {t : List UInt8} {x : UInt8} (hx : x ∈ t) (hn : lv x < 0) : outR t = none := by
  unfold outR
  rw [if_neg]
  intro h
  have := List.all_eq_true.1 h x hx
  simp only [decide_eq_true_eq] at this
  omega
theorem outR_nil : outR [] = some [] := rfl

theorem group4 (a b c d : UInt8) (last : Bool) (hd : d ≠ 61) : groupL [a, b, c, d] last = if lv a < 0 ∨ lv b < 0 ∨ lv c < 0 ∨ lv d < 0 then none else some (toB (b3 (xL (lv a) (lv b) (lv c) (lv d)))) := by
  have h4 : (trimB [a, b, c, d] 61).length = 4 := by rw [trim4, if_pos hd]
  unfold groupL
  rw [h4, if_neg (by omega)]
  have k0 : kL [a, b, c, d] 4 0 = lv a := rfl
  have k1 : kL [a, b, c, d] 4 1 = lv b := rfl
  have k2 : kL [a, b, c, d] 4 2 = lv c := rfl
  have k3 : kL [a, b, c, d] 4 3 = lv d := rfl
  rw [k0, k1, k2, k3]
  rfl
theorem group3 (a b c : UInt8) (hc : c ≠ 61) : groupL [a, b, c, 61] true = if lv a < 0 ∨ lv b < 0 ∨ lv c < 0 then none else if lv c % 4 = 0 then some (toB ((b3 (xL (lv a) (lv b) (lv c) 0)).take 2)) else none := by
  have h4 : (trimB [a, b, c, 61] 61).length = 3 := by rw [trim4, if_neg (by simp), if_pos hc]
  have rc := lv_range c
  unfold groupL
  rw [h4, if_neg (by simp)]
  have k0 : kL [a, b, c, 61] 3 0 = lv a := rfl
  have k1 : kL [a, b, c, 61] 3 1 = lv b := rfl
  have k2 : kL [a, b, c, 61] 3 2 = lv c := rfl
  have k3 : kL [a, b, c, 61] 3 3 = 0 := rfl
  rw [k0, k1, k2, k3]
  by_cases hn : lv a < 0 ∨ lv b < 0 ∨ lv c < 0
  · rw [if_pos (by omega), if_pos hn]
  · rw [if_neg (by omega), if_neg hn]
    have e : ((b3 (xL (lv a) (lv b) (lv c) 0)).drop (3 - 1)).all (fun y => decide (y = 0)) = decide (lv c % 4 = 0) := by
      simp only [b3, List.drop_succ_cons, List.drop_zero, List.all_cons, List.all_nil, Bool.and_true]
      refine decide_eq_decide.2 ?_
      unfold xL
      omega
    rw [e]
    by_cases h : lv c % 4 = 0
    · rw [if_pos (by simpa using h), if_pos h]
    · rw [if_neg (by simpa using h), if_neg h]
theorem group2 (a b : UInt8) (hb : b ≠ 61) : groupL [a, b, 61, 61] true = if lv a < 0 ∨ lv b < 0 then none else if lv b % 16 = 0 then some (toB ((b3 (xL (lv a) (lv b) 0 0)).take 1)) else none := by
  have h4 : (trimB [a, b, 61, 61] 61).length = 2 := by rw [trim4, if_neg (by simp), if_neg (by simp), if_pos hb]
  have rb := lv_range b
  unfold groupL
  rw [h4, if_neg (by simp)]
  have k0 : kL [a, b, 61, 61] 2 0 = lv a := rfl
  have k1 : kL [a, b, 61, 61] 2 1 = lv b := rfl
  have k2 : kL [a, b, 61, 61] 2 2 = 0 := rfl
  have k3 : kL [a, b, 61, 61] 2 3 = 0 := rfl
  rw [k0, k1, k2, k3]
  by_cases hn : lv a < 0 ∨ lv b < 0
  · rw [if_pos (by omega), if_pos hn]
  · rw [if_neg (by omega), if_neg hn]
    have e : ((b3 (xL (lv a) (lv b) 0 0)).drop (2 - 1)).all (fun y => decide (y = 0)) = decide (lv b % 16 = 0) := by
      simp only [b3, List.drop_succ_cons, List.drop_zero, List.all_cons, List.all_nil, Bool.and_true]
      rw [← Bool.decide_and]
      refine decide_eq_decide.2 ?_
      unfold xL
      omega
    rw [e]
    by_cases h : lv b % 16 = 0
    · rw [if_pos (by simpa using h), if_pos h]
    · rw [if_neg (by simpa using h), if_neg h]

theorem decG_R : ∀ (n : Nat) (s : List UInt8), s.length = n → s.length % 4 = 0 → outR (s.take (refN s)) = decG s := by
  intro n
  induction n using Nat.strongRecOn with
  | _ n ih =>
    intro s hs h4
    match s, hs, h4 with
    | [], _, _ => rfl
    | [_], _, h4 => simp at h4
    | [_, _], _, h4 => simp at h4
    | [_, _, _], _, h4 => simp at h4
    | a :: b :: c :: d :: r, hs, h4 =>
      have hl4 : r.length % 4 = 0 := by simp only [List.length_cons] at h4; omega
      by_cases hr : r = []
      · subst hr
        rw [decG, decide_eq_true rfl, refN4]
        by_cases hd : d = 61
        · subst hd
          rw [if_pos rfl]
          by_cases hc : c = 61
          · subst hc
            rw [if_pos rfl]
            by_cases hb : b = 61
            · subst hb
              have h2 : groupL [a, 61, 61, 61] true = none := by
                unfold groupL
                rw [if_pos]
                left
                rw [trim4, if_neg (by simp), if_neg (by simp), if_neg (by simp)]
                split <;> omega
              rw [h2]
              exact all_out (x := 61) (by simp) (by rw [lv_eq]; omega)
            · rw [group2 a b hb]
              have ra := lv_range a
              have rb := lv_range b
              by_cases hn : lv a < 0 ∨ lv b < 0
              · rw [if_pos hn]
                rcases hn with h | h
                · exact all_out (x := a) (by simp) h
                · exact all_out (x := b) (by simp) h
              · rw [if_neg hn]
                have hch := chunks8_12 (lv a) (lv b) (by omega) (by omega)
                have hbits : bitsL [a, b] = bits6 (lv a) ++ bits6 (lv b) := rfl
                show outR [a, b] = _
                unfold outR
                rw [hbits, hch, if_pos (by simp only [List.all_cons, List.all_nil, Bool.and_true, Bool.and_eq_true, decide_eq_true_eq]; omega)]
                by_cases hz : lv b % 16 = 0
                · rw [if_pos (by simp only [List.all_cons, List.all_nil, Bool.and_true, Bool.and_eq_true, decide_eq_true_eq]; omega), if_pos hz]
                  simp [decG]
                · rw [if_neg (by simp only [List.all_cons, List.all_nil, Bool.and_true, Bool.and_eq_true, decide_eq_true_eq]; omega), if_neg hz]
          · rw [if_neg hc, group3 a b c hc]
            have ra := lv_range a
            have rb := lv_range b
            have rc := lv_range c
            by_cases hn : lv a < 0 ∨ lv b < 0 ∨ lv c < 0
            · rw [if_pos hn]
              rcases hn with h | h | h
              · exact all_out (x := a) (by simp) h
              · exact all_out (x := b) (by simp) h
              · exact all_out (x := c) (by simp) h
            · rw [if_neg hn]
              have hch := chunks8_18 (lv a) (lv b) (lv c) (by omega) (by omega) (by omega)
              have hbits : bitsL [a, b, c] = bits6 (lv a) ++ (bits6 (lv b) ++ bits6 (lv c)) := rfl
              show outR [a, b, c] = _
              unfold outR
              rw [hbits, hch, if_pos (by simp only [List.all_cons, List.all_nil, Bool.and_true, Bool.and_eq_true, decide_eq_true_eq]; omega)]
              by_cases hz : lv c % 4 = 0
              · rw [if_pos (by simp only [List.all_cons, List.all_nil, Bool.and_true, Bool.and_eq_true, decide_eq_true_eq]; omega), if_pos hz]
                simp [decG]
              · rw [if_neg (by simp only [List.all_cons, List.all_nil, Bool.and_true, Bool.and_eq_true, decide_eq_true_eq]; omega), if_neg hz]
        · rw [if_neg hd, group4 a b c d true hd]
          show outR [a, b, c, d] = _
          rw [outR_4, outR_nil]
          split <;> simp [decG]
      · have hlen : 4 ≤ r.length := by
          have : 0 < r.length := List.length_pos_iff.2 hr
          omega
        rw [decG, decide_eq_false hr, refN_more _ _ _ _ _ (by omega)]
        show outR (a :: b :: c :: d :: r.take (refN r)) = _
        have hi := ih r.length (by simp only [List.length_cons] at hs; omega) r rfl hl4
        by_cases hd : d = 61
        · subst hd
          have h2 : groupL [a, b, c, 61] false = none := by
            unfold groupL
            rw [if_pos]
            right
            refine ⟨?_, rfl⟩
            rw [trim4, if_neg (by simp)]
            (repeat' split) <;> omega
          rw [h2]
          exact all_out (x := 61) (by simp) (by rw [lv_eq]; omega)
        · rw [group4 a b c d false hd, outR_4, hi]
          split <;> rfl
/-- Both readings are the same. -/
theorem dec_same (s : List UInt8) : decR s = decL s := by
  unfold decR decL
  split
  · rfl
  · exact decG_R _ s rfl (by omega)

/-! ## what is spelt is read back -/
def sp (n : Int) : UInt8 := letL.getD n.toNat 0
def encG : List UInt8 → List UInt8
  | [] => []
  | [a] => [sp (a.toNat / 4), sp (a.toNat % 4 * 16), 61, 61]
  | [a, b] => [sp (a.toNat / 4), sp (a.toNat % 4 * 16 + b.toNat / 16), sp (b.toNat % 16 * 4), 61]
  | a :: b :: c :: r => sp (a.toNat / 4) :: sp (a.toNat % 4 * 16 + b.toNat / 16) :: sp (b.toNat % 16 * 4 + c.toNat / 64) :: sp (c.toNat % 64) :: encG r
theorem lv_sp {n : Int} (h : 0 ≤ n ∧ n < 64) : lv (sp n) = n ∧ sp n ≠ 61 := by
  have := lv_let (n := n.toNat) (by omega)
  unfold sp
  exact ⟨by rw [this.1]; omega, this.2⟩
theorem ofN (a : UInt8) {x : Int} (h : x = a.toNat) : UInt8.ofNat x.toNat = a := by
  subst h
  rw [Int.toNat_natCast, UInt8.ofNat_toNat]
theorem encG_len : ∀ (b : List UInt8), (encG b).length = (b.length + 2) / 3 * 4
  | [] => rfl
  | [a] => by simp [encG]
  | [a, b] => by simp [encG]
  | a :: b :: c :: r => by
    have := encG_len r
    simp only [encG, List.length_cons, this]; omega
theorem dec_enc64 : ∀ (b : List UInt8), decG (encG b) = some b
  | [] => rfl
  | [a] => by
    have ha := a.toNat_lt
    obtain ⟨p0, q0⟩ := lv_sp (n := (a.toNat : Int) / 4) (by omega)
    obtain ⟨p1, q1⟩ := lv_sp (n := (a.toNat : Int) % 4 * 16) (by omega)
    simp only [encG, decG]
    rw [decide_eq_true trivial, group2 _ _ q1, p0, p1, if_neg (by omega), if_pos (by omega)]
    simp only [b3, List.take_succ_cons, List.take_zero, toB, List.map_cons, List.map_nil, Option.map_some, List.append_nil, Option.some.injEq, List.cons.injEq, and_true]
    exact ofN a (by unfold xL; omega)
  | [a, b] => by
    have ha := a.toNat_lt
    have hb := b.toNat_lt
    obtain ⟨p0, q0⟩ := lv_sp (n := (a.toNat : Int) / 4) (by omega)
    obtain ⟨p1, q1⟩ := lv_sp (n := (a.toNat : Int) % 4 * 16 + b.toNat / 16) (by omega)
    obtain ⟨p2, q2⟩ := lv_sp (n := (b.toNat : Int) % 16 * 4) (by omega)
    simp only [encG, decG]
    rw [decide_eq_true trivial, group3 _ _ _ q2, p0, p1, p2, if_neg (by omega), if_pos (by omega)]
    simp only [b3, List.take_succ_cons, List.take_zero, toB, List.map_cons, List.map_nil, Option.map_some, List.append_nil, Option.some.injEq, List.cons.injEq, and_true]
    exact ⟨ofN a (by unfold xL; omega), ofN b (by unfold xL; omega)⟩
  | a :: b :: c :: r => by
    have ha := a.toNat_lt
    have hb := b.toNat_lt
    have hc := c.toNat_lt
    obtain ⟨p0, q0⟩ := lv_sp (n := (a.toNat : Int) / 4) (by omega)
    obtain ⟨p1, q1⟩ := lv_sp (n := (a.toNat : Int) % 4 * 16 + b.toNat / 16) (by omega)
    obtain ⟨p2, q2⟩ := lv_sp (n := (b.toNat : Int) % 16 * 4 + c.toNat / 64) (by omega)
    obtain ⟨p3, q3⟩ := lv_sp (n := (c.toNat : Int) % 64) (by omega)
    have hi := dec_enc64 r
    simp only [encG, decG]
    rw [group4 _ _ _ _ _ q3, p0, p1, p2, p3, if_neg (by omega)]
    simp only [hi, b3, toB, List.map_cons, List.map_nil, Option.map_some, List.cons_append, List.nil_append, Option.some.injEq, List.cons.injEq, and_true]
    exact ⟨ofN a (by unfold xL; omega), ofN b (by unfold xL; omega), ofN c (by unfold xL; omega)⟩
theorem decL_len : ∀ (n : Nat) (s o : List UInt8), s.length ≤ n → decG s = some o → o.length ≤ s.length := by
  intro n
  induction n using Nat.strongRecOn with
  | _ n ih =>
    intro s o hs h
    match s, hs, h with
    | [], _, h => simp [decG] at h; subst h; simp
    | [_], _, h => simp [decG] at h; subst h; simp
    | [_, _], _, h => simp [decG] at h; subst h; simp
    | [_, _, _], _, h => simp [decG] at h; subst h; simp
    | a :: b :: c :: d :: r, hs, h =>
      rw [decG] at h
      split at h
      · cases h
      · rename_i g hg
        have hgl : g.length ≤ 4 := by
          unfold groupL at hg
          split at hg
          · cases hg
          split at hg
          · cases hg
          split at hg
          · cases hg
            simp only [toB, List.length_map, List.length_take, b3, List.length_cons, List.length_nil]; omega
          · cases hg
        rw [Option.map_eq_some_iff] at h
        obtain ⟨o', h1, rfl⟩ := h
        simp only [List.length_cons] at hs
        have := ih r.length (by omega) r o' (Nat.le_refl _) h1
        simp only [List.length_append, List.length_cons]; omega
end Go.Proofs.YtggkbkbhegcbkaaDoor
/- The gate: base64 and titles, walked. CALLV -/
set_option linter.unusedSimpArgs false
set_option linter.unusedVariables false
set_option maxHeartbeats 1000000
set_option maxRecDepth 100000
namespace Go.Proofs.YtggkbkbhegcbkaaDoor
open Go Go.Jx

/-! ## letters -/
theorem or_ok64 {x y : Int} (hx : 0 ≤ x ∧ x < 16777216) (hy : 0 ≤ y ∧ y < 64) : IntKind.i64.wrap (BitVec.ofInt IntKind.i64.bits (IntKind.i64.wrap (x * 2 ^ (Min.min (6 : Int).toNat IntKind.i64.bits))) ||| BitVec.ofInt IntKind.i64.bits y).toNat = x * 64 + y := by
  obtain ⟨a, rfl⟩ := Int.eq_ofNat_of_zero_le hx.1
  obtain ⟨b, rfl⟩ := Int.eq_ofNat_of_zero_le hy.1
  rw [show (2 : Int) ^ (Min.min (6 : Int).toNat IntKind.i64.bits) = 64 by decide, show IntKind.i64.wrap ((a : Int) * 64) = (a : Int) * 64 from IntWalk.i64_in _ (by omega)]
  have e1 : (BitVec.ofInt IntKind.i64.bits ((a : Int) * 64) ||| BitVec.ofInt IntKind.i64.bits (b : Int)).toNat = a * 64 + b := by
    rw [show ((a : Int) * 64) = ((a * 64 : Nat) : Int) by omega, BitVec.ofInt_natCast, BitVec.ofInt_natCast, BitVec.toNat_or, BitVec.toNat_ofNat, BitVec.toNat_ofNat]
    rw [Nat.mod_eq_of_lt (show a * 64 < 2 ^ IntKind.i64.bits by show a * 64 < 18446744073709551616; omega), Nat.mod_eq_of_lt (show b < 2 ^ IntKind.i64.bits by show b < 18446744073709551616; omega)]
    exact or_nat a b (by omega)
  rw [e1, IntWalk.i64_in _ (by omega)]; omega
def xG (s : List UInt8) (n : Nat) : Nat → Int
  | 0 => 0
  | i + 1 => xG s n i * 64 + kL s n i
theorem kL_lt (s : List UInt8) (n i : Nat) : -1 ≤ kL s n i ∧ kL s n i < 64 := by
  unfold kL
  split
  · exact lv_range _
  · omega
theorem xG_bound (s : List UInt8) (n : Nat) : ∀ i, (∀ j, j < i → 0 ≤ kL s n j) → 0 ≤ xG s n i ∧ xG s n i < 64 ^ i
  | 0, _ => by simp [xG]
  | i + 1, h => by
    have h1 := xG_bound s n i (fun j hj => h j (by omega))
    have h2 := h i (by omega)
    have h3 := kL_lt s n i
    rw [xG, Int.pow_succ]
    omega
theorem xG_4 (s : List UInt8) (n : Nat) : xG s n 4 = xL (kL s n 0) (kL s n 1) (kL s n 2) (kL s n 3) := by simp [xG, xL]
theorem xG_small {s : List UInt8} {n i : Nat} (hi : i < 4) (h : ∀ j, j < i → 0 ≤ kL s n j) : 0 ≤ xG s n i ∧ xG s n i < 16777216 := by
  have h1 := xG_bound s n i h
  have : i = 0 ∨ i = 1 ∨ i = 2 ∨ i = 3 := by omega
  rcases this with rfl | rfl | rfl | rfl <;> simp at h1 <;> omega
theorem ints_toB {l : List Int} (h : ∀ x ∈ l, 0 ≤ x ∧ x < 256) : ints (toB l) = l := by
  induction l with
  | nil => rfl
  | cons x l ih =>
    have h1 := h x (by simp)
    have h2 := ih fun y hy => h y (by simp [hy])
    show ((UInt8.ofNat x.toNat).toNat : Int) :: ints (toB l) = _
    rw [h2, UInt8.toNat_ofNat']
    congr 1
    omega
theorem b3_bytes (x : Int) : ∀ y ∈ b3 x, 0 ≤ y ∧ y < 256 := by
  intro y hy
  simp only [b3, List.mem_cons, List.not_mem_nil, or_false] at hy
  rcases hy with rfl | rfl | rfl <;> omega
theorem trim_len (s : List UInt8) : (trimB s 61).length ≤ s.length := by
  unfold trimB
  rw [List.length_reverse]
  have := (List.dropWhile_sublist (p := (· == (61 : UInt8))) (l := s.reverse)).length_le
  simpa using this
theorem shr16 (x : Int) (hx : 0 ≤ x) : IntKind.u8.wrap (x.fdiv (2 ^ (Min.min (16 : Int).toNat IntKind.i64.bits))) = x / 65536 % 256 := by
  rw [show (2 : Int) ^ (Min.min (16 : Int).toNat IntKind.i64.bits) = 65536 by decide, Int.fdiv_eq_ediv_of_nonneg _ (by decide), IntKind.wrap_u8]
theorem shr8 (x : Int) (hx : 0 ≤ x) : IntKind.u8.wrap (x.fdiv (2 ^ (Min.min (8 : Int).toNat IntKind.i64.bits))) = x / 256 % 256 := by
  rw [show (2 : Int) ^ (Min.min (8 : Int).toNat IntKind.i64.bits) = 256 by decide, Int.fdiv_eq_ediv_of_nonneg _ (by decide), IntKind.wrap_u8]
theorem wrap8 (x : Int) : IntKind.u8.wrap x = x % 256 := by rw [IntKind.wrap_u8]

theorem groupL_none {s : List UInt8} {last : Bool} {i : Nat} (hi : i < 4) (h : kL s (trimB s 61).length i < 0) : groupL s last = none := by
  unfold groupL
  split
  · rfl
  · rw [if_pos]
    have : i = 0 ∨ i = 1 ∨ i = 2 ∨ i = 3 := by omega
    rcases this with rfl | rfl | rfl | rfl
    · exact .inl h
    · exact .inr (.inl h)
    · exact .inr (.inr (.inl h))
    · exact .inr (.inr (.inr h))

theorem w28_core {s : List UInt8} {last : Bool} {h : Heap} {n : Nat} (hl : s.length = 4) (hn : n = (trimB s 61).length) (hnb : 2 ≤ n ∧ n ≤ 4) (hlast : n < 4 → last = true)
    (hg1 : (∀ j, j < 4 → 0 ≤ kL s n j) → groupL s last = if ((b3 (xG s n 4)).drop (n - 1)).all (fun y => decide (y = 0)) then some (toB ((b3 (xG s n 4)).take (n - 1))) else none) (hg2 : ∀ i, i < 4 → kL s n i < 0 → groupL s last = none) :
    Wc DD 28 [.sc (.str s), bo last] h fun v h' => ∃ u ok c, v = .tup [.sc u, .sc (.bool ok)] ∧ ((groupL s last = none ∧ ok = false ∧ u = .nils ∧ c = []) ∨ ∃ g, groupL s last = some g ∧ ok = true ∧ OwnP (intEl .u8) 5 u (ints g) c) ∧ Sep (Now h) [c] h' := by
  have hs := Sep.entry h
  refine W_enter d28 ?_
  show W _ (.code m28_code [.sc (.str s), bo last, undefA, undefA, undefA, undefA, undefA, undefA, undefA, undefA, undefA, undefA, undefA, undefA, undefA, undefA, undefA, undefA, undefA, undefA, undefA, undefA, undefA, undefA, undefA, undefA, undefA, undefA, undefA, undefA, undefA, undefA, undefA, undefA, undefA, undefA, undefA, undefA, undefA, undefA, undefA, undefA, undefA, undefA, undefA, undefA, undefA, undefA, undefA, undefA, undefA, undefA, undefA, undefA, undefA, undefA, undefA, undefA, undefA, undefA, undefA, undefA, undefA, undefA, undefA, undefA, undefA, undefA] _) _
  unfold m28_code
  have h2 : n = 4 ∨ last = true := by
    rcases Nat.lt_or_ge n 4 with h | h
    · exact .inr (hlast h)
    · exact .inl (by omega)
  generalize hT : trimB s 61 = T at *
  subst hn
  repeat' (first
    | (refine K_ops ?_; first
      | refine W_fastB rfl ?_
      | refine W_nil ?_
      | (refine K_guard ?_; first
        | refine W_guard_on rfl ?_
        | refine W_guard_off rfl rfl (W_norm rfl ?_)
        | (refine W_guardT rfl (fun hc => ?_) (fun hc => ?_) <;> (try rw [hc]) <;> (try simp only [cleanS, reduceCtorEq] at hc) <;> (try (exfalso; omega)) <;> (try refine W_norm rfl ?_))
        | (refine W_guardF rfl (fun hc => ?_) (fun hc => ?_) <;> (try rw [hc]) <;> (try simp only [cleanS, reduceCtorEq] at hc) <;> (try (exfalso; omega)) <;> (try refine W_norm rfl ?_))
      )
      | (refine K_call ?_; first
        | (refine W_callsN 45 rfl (w45 s 61 _ (by omega) (by decide)) rfl ?_; rintro _ h ⟨rfl, rfl⟩; rw [hT]; refine W_norm rfl ?_)
      )
      | (refine K_pick ?_; first
        | refine W_pick_t rfl rfl (W_norm rfl ?_)
        | refine W_pick_f rfl rfl (W_norm rfl ?_)
      )
    )
    | (refine K_code ?_; first
      | (refine W_midB (a := .seq (.ops m28_r2) _) [4, 5, 16, 17, 18, 19, 20, 21, 22, 23, 24, 25] [0, 1, 2, 3, 4, 5, 6, 7, 8, 9, 10, 11, 12, 13, 14, 15, 16, 17, 18, 19, 20, 21, 22, 23, 24, 25, 26, 27, 28, 29, 30, 31, 32, 33, 34, 35, 36, 37, 38, 39, 40, 41, 42, 43, 44, 45, 46, 47, 48, 49, 50, 51, 52, 53, 54, 55, 56, 57, 58, 59, 60, 61, 62, 63, 64, 65, 66, 67] (fun sl h' => sl = [] ∧ Sep (Now h) [] h') ?_ ?_)
      | refine W_seq ?_
      | refine W_ops ?_
      | refine W_cond_f rfl ?_
      | (refine W_cond rfl (fun hc => ?_) (fun hc => ?_) <;> (try rw [hc]) <;> (try simp only [cleanS, reduceCtorEq] at hc) <;> (try (exfalso; omega)) <;> (try refine W_norm rfl ?_))
      | refine W_skip ?_
      | refine W_ret ?_
    )
    | refine seqK_n ?_
    | refine seqK_r ?_
    | refine midK_n ?_
    | refine midK_r ?_
    | (refine fnK_r rfl ?_; try dsimp only [gd_z, gd_s]))
  all_goals first
    | exact absurd (hc.symm.trans (hlast (by omega))) (by decide)
    | exact ⟨_, ⟨rfl, hs⟩, EnvB.of rfl⟩
    | skip
  clear hs
  rintro _ us _ h4 ⟨rfl, hs⟩ he
  refine W_spell he rfl ?_
  clear he
  repeat' (first
    | (refine K_ops ?_; first
      | refine W_fastB rfl ?_
      | refine W_nil ?_
    )
    | (refine K_code ?_; first
      | refine W_seq ?_
      | refine W_ops ?_
      | refine W_block ?_
    )
    | refine seqK_n ?_)
  refine W_loopB [4, 5, 7, 8, 9, 26, 27, 28, 29, 30, 31, 32, 33, 34, 35, 36, 37, 38, 39, 40, 41, 42] [0, 1, 2, 3, 4, 5, 6, 7, 8, 9, 10, 11, 12, 13, 14, 15, 16, 17, 18, 19, 20, 21, 22, 23, 24, 25, 26, 27, 28, 29, 30, 31, 32, 33, 34, 35, 36, 37, 38, 39, 40, 41, 42, 43, 44, 45, 46, 47, 48, 49, 50, 51, 52, 53, 54, 55, 56, 57, 58, 59, 60, 61, 62, 63, 64, 65, 66, 67] (fun n' sl h' => ∃ (i : Nat), sl = [(7, i64 (xG s T.length i)), (26, i64 (i : Int))] ∧ n' = 4 - i ∧ i ≤ 4 ∧ (∀ j, j < i → 0 ≤ kL s T.length j) ∧ Sep (Now h) [] h') ?_ ?_
  · refine ⟨_, _, ⟨0, rfl, rfl, Nat.zero_le _, (fun j hj => by omega), hs⟩, EnvB.of rfl⟩
  clear hs
  rintro _ _ us2 _ h5 ⟨i, rfl, rfl, hi, hk, hs⟩ he
  refine W_spell he rfl ?_
  clear he
  unfold m28_l6
  by_cases hlt : i < 4
  · have hxs := xG_small hlt hk
    have hkl := kL_lt s T.length i
    have hor : 0 ≤ kL s T.length i → IntKind.i64.wrap (BitVec.ofInt IntKind.i64.bits (IntKind.i64.wrap (xG s T.length i * 2 ^ (Min.min (6 : Int).toNat IntKind.i64.bits))) ||| BitVec.ofInt IntKind.i64.bits (kL s T.length i)).toNat = xG s T.length (i + 1) := fun h0 => or_ok64 hxs ⟨h0, hkl.2⟩
    have hn2 := hg2 i hlt
    have hk2 : 0 ≤ kL s T.length i → ∀ j, j < i + 1 → 0 ≤ kL s T.length j := by
      intro h0 j hj
      rcases Nat.lt_or_ge j i with h1 | h1
      · exact hk j h1
      · obtain rfl : j = i := by omega
        exact h0
    by_cases hin : i < T.length
    · have ek : kL s T.length i = indexByteA letL ((s.getD i 0).toNat : Int) := if_pos hin
      rw [ek] at hkl hor hn2 hk2
      repeat' (first
        | (refine K_ops ?_; first
          | refine W_fastB rfl ?_
          | refine W_nil ?_
          | (refine W_shl rfl rfl (by decide) ?_; refine W_norm rfl ?_)
          | (refine K_call ?_; first
            | (refine W_callsN 38 rfl (w38 letL ((s.getD i 0).toNat : Int) _) rfl ?_; rintro _ h ⟨rfl, rfl⟩; refine W_norm rfl ?_)
          )
          | (refine K_bin ?_; first
            | (refine W_add rfl rfl (IntWalk.i64_in _ (by first | omega | (simp only [lenS]; omega))) ?_; refine W_norm rfl ?_)
            | (refine W_or rfl rfl ?_; refine W_norm rfl ?_)
          )
          | (refine W_idxStr rfl rfl ⟨(by first | omega | (simp only [lenS]; omega)), (by first | omega | (simp only [lenS]; omega))⟩ ?_; refine W_norm rfl ?_)
        )
        | (refine K_code ?_; first
          | refine W_seq ?_
          | refine W_ops ?_
          | (refine W_cond rfl (fun hc => ?_) (fun hc => ?_) <;> (try rw [hc]) <;> (try simp only [cleanS, reduceCtorEq] at hc) <;> (try (exfalso; omega)) <;> (try refine W_norm rfl ?_))
          | refine W_skip ?_
          | refine W_ret ?_
          | refine W_block ?_
        )
        | refine seqK_n ?_
        | refine seqK_r ?_
        | refine blockK_r ?_
        | refine blockK_n ?_
        | refine invK_r ?_
        | refine invK_n ?_
        | (refine fnK_r rfl ?_; try dsimp only [gd_z, gd_s]))
      · exact ⟨_, rfl, _, _, _, rfl, .inl ⟨hn2 hc, rfl, rfl, rfl⟩, hs.nil⟩
      · rw [hor (by omega)]
        refine ⟨_, ?_, _, ⟨i + 1, rfl, rfl, ?_, hk2 (by omega), hs⟩, EnvB.of rfl⟩
        · omega
        · omega
    · have ek : kL s T.length i = 0 := if_neg hin
      rw [ek] at hkl hor hn2 hk2
      repeat' (first
        | (refine K_ops ?_; first
          | refine W_fastB rfl ?_
          | refine W_nil ?_
          | (refine W_shl rfl rfl (by decide) ?_; refine W_norm rfl ?_)
          | (refine K_bin ?_; first
            | (refine W_add rfl rfl (IntWalk.i64_in _ (by first | omega | (simp only [lenS]; omega))) ?_; refine W_norm rfl ?_)
            | (refine W_or rfl rfl ?_; refine W_norm rfl ?_)
          )
        )
        | (refine K_code ?_; first
          | refine W_seq ?_
          | refine W_ops ?_
          | refine W_cond_f rfl ?_
          | (refine W_cond rfl (fun hc => ?_) (fun hc => ?_) <;> (try rw [hc]) <;> (try simp only [cleanS, reduceCtorEq] at hc) <;> (try (exfalso; omega)) <;> (try refine W_norm rfl ?_))
          | refine W_skip ?_
          | refine W_block ?_
        )
        | refine seqK_n ?_
        | refine blockK_n ?_
        | refine invK_n ?_)
      rw [hor (by omega)]
      refine ⟨_, ?_, _, ⟨i + 1, rfl, rfl, ?_, hk2 (by omega), hs⟩, EnvB.of rfl⟩
      · omega
      · omega
  · obtain rfl : i = 4 := by omega
    have hgx := hg1 (fun j hj => hk j hj)
    have hx0 := (xG_bound s T.length 4 hk).1
    generalize xG s T.length 4 = X at *
    repeat' (first
      | (refine K_ops ?_; first
        | refine W_fastB rfl ?_
        | refine W_nil ?_
        | (refine K_bin ?_; first
          | (refine W_shr rfl rfl (by decide) ?_; refine W_norm rfl ?_)
        )
        | (refine W_convint rfl rfl ?_; refine W_norm rfl ?_)
      )
      | (refine K_code ?_; first
        | refine W_seq ?_
        | refine W_ops ?_
        | refine W_cond_f rfl ?_
        | refine W_exit ?_
      )
      | refine seqK_n ?_
      | refine seqK_x ?_
      | refine blockK_e ?_
      | refine invK_x ?_)
    rw [shr16 X hx0, shr8 X hx0, wrap8 X]
    refine W_buildS (intEl .u8) hs (cs := [.int .u8 (X / 65536 % 256), .int .u8 (X / 256 % 256), .int .u8 (X % 256)]) rfl rfl ?_
    clear hs
    intro v' c' h6 ha hv' hs
    refine W_norm rfl ?_
    have ha : OwnS (intEl .u8) 5 v' (b3 X) c' := ha
    obtain ⟨id, kd, rfl, rfl, hkd⟩ := ha.pos (by simp [b3])
    have hbl : (b3 X).length = 3 := rfl
    have hq : ((T.length : Int) - 1).toNat = T.length - 1 := by omega
    repeat' (first
      | (refine K_ops ?_; first
        | refine W_fastB rfl ?_
        | refine W_nil ?_
        | (refine W_lenL rfl (by first | assumption | exact SlR.ln (by assumption) | exact AccS.ln (by assumption) | exact OwnS.ln (by assumption) | exact VwO.ln (by assumption) | exact OwnP.ln (by assumption) | exact Len.sl) ?_; refine W_norm rfl ?_)
        | (refine K_bin ?_; first
          | (refine W_sub rfl rfl (IntWalk.i64_in _ (by first | omega | (simp only [lenS]; omega))) ?_; refine W_norm rfl ?_)
        )
        | (refine K_slice ?_; first
          | (refine W_sliceO0From rfl rfl (by first | omega | (simp only [lenS]; omega)) ⟨(by first | omega | (simp only [lenS]; omega)), (by first | omega | (simp only [lenS]; omega))⟩ ?_; intro _ _; refine W_norm rfl ?_)
        )
      )
      | (refine K_code ?_; first
        | refine W_seq ?_
        | refine W_ops ?_
        | refine W_block ?_
      )
      | refine seqK_n ?_)
    rename_i v7 hvw
    rw [hq] at hvw
    generalize hpl : ((((b3 X).length - ((T.length : Int) - 1).toNat : Nat)) : Int) = PL
    have hPL : PL = ((4 - T.length : Nat) : Int) := by rw [← hpl, hbl, hq]; omega
    subst hPL
    refine W_loopB [4, 5, 12, 57, 58, 59, 60, 61, 62, 63] [0, 1, 2, 3, 4, 5, 6, 7, 8, 9, 10, 11, 12, 13, 14, 15, 16, 17, 18, 19, 20, 21, 22, 23, 24, 25, 26, 27, 28, 29, 30, 31, 32, 33, 34, 35, 36, 37, 38, 39, 40, 41, 42, 43, 44, 45, 46, 47, 48, 49, 50, 51, 52, 53, 54, 55, 56, 57, 58, 59, 60, 61, 62, 63, 64, 65, 66, 67] (fun n' sl h' => ∃ (k : Nat), sl = [(57, i64 (k : Int))] ∧ n' = 4 - T.length - k ∧ k ≤ 4 - T.length ∧ (∀ j, j < k → (b3 X).getD (T.length - 1 + j) 0 = 0) ∧ Sep (Now h) [[(id, .cells 5 kd ((b3 X).flatMap (intEl .u8).enc))]] h') ?_ ?_
    · refine ⟨_, _, ⟨0, rfl, rfl, Nat.zero_le _, (fun j hj => by omega), hs⟩, EnvB.of rfl⟩
    clear hs
    rintro _ _ us3 _ h8 ⟨k, rfl, rfl, hkl, hz, hs⟩ he
    refine W_spell he rfl ?_
    clear he
    unfold m28_l18
    by_cases hlt2 : k < 4 - T.length
    · repeat' (first
        | (refine K_ops ?_; first
          | refine W_fastB rfl ?_
          | refine W_nil ?_
          | (refine K_bin ?_; first
            | (refine W_add rfl rfl (IntWalk.i64_in _ (by first | omega | (simp only [lenS]; omega))) ?_; refine W_norm rfl ?_)
          )
          | (refine K_index ?_; first
            | (refine W_indexVw rfl rfl (by assumption) ⟨(by first | omega | (simp only [lenS]; omega)), (by first | omega | (simp only [lenS]; omega))⟩ ?_; refine W_norm rfl ?_)
          )
          | (refine K_load ?_; first
            | (refine W_loadO hs 0 rfl rfl rfl (by first | omega | (simp only [lenS]; omega)) rfl ?_; refine W_norm rfl ?_)
          )
        )
        | (refine K_code ?_; first
          | refine W_seq ?_
          | refine W_ops ?_
          | (refine W_cond rfl (fun hc => ?_) (fun hc => ?_) <;> (try rw [hc]) <;> (try simp only [cleanS, reduceCtorEq] at hc) <;> (try (exfalso; omega)) <;> (try refine W_norm rfl ?_))
          | refine W_skip ?_
          | refine W_ret ?_
          | refine W_block ?_
        )
        | refine seqK_n ?_
        | refine seqK_r ?_
        | refine blockK_r ?_
        | refine blockK_n ?_
        | refine invK_r ?_
        | refine invK_n ?_
        | (refine fnK_r rfl ?_; try dsimp only [gd_z, gd_s]))
      · have hbad : ((b3 X).drop (T.length - 1)).all (fun y => decide (y = 0)) = false := by
          rw [List.all_eq_false]
          refine ⟨(b3 X).getD (T.length - 1 + k) 0, ?_, by rw [decide_eq_true_eq]; exact hc⟩
          rw [List.mem_iff_getElem?]
          exact ⟨k, by rw [List.getElem?_drop]; exact getD_get? (by rw [hbl]; omega)⟩
        rw [hbad, if_neg (by decide)] at hgx
        exact ⟨_, rfl, _, _, _, rfl, .inl ⟨hgx, rfl, rfl, rfl⟩, hs.nil.drop 1⟩
      · refine ⟨_, ?_, _, ⟨k + 1, rfl, rfl, ?_, ?_, hs⟩, EnvB.of rfl⟩
        · omega
        · omega
        · intro j hj
          rcases Nat.lt_or_ge j k with h1 | h1
          · exact hz j h1
          · obtain rfl : j = k := by omega
            exact hc
    · repeat' (first
        | (refine K_ops ?_; first
          | refine W_fastB rfl ?_
          | refine W_nil ?_
          | (refine K_bin ?_; first
            | (refine W_sub rfl rfl (IntWalk.i64_in _ (by first | omega | (simp only [lenS]; omega))) ?_; refine W_norm rfl ?_)
          )
          | (refine K_slice ?_; first
            | (refine W_sliceO0To rfl rfl (by first | omega | (simp only [lenS]; omega)) ⟨(by first | omega | (simp only [lenS]; omega)), (by first | omega | (simp only [lenS]; omega))⟩ ?_; intro _ _; refine W_norm rfl ?_)
          )
        )
        | (refine K_code ?_; first
          | refine W_seq ?_
          | refine W_ops ?_
          | (refine W_cond rfl (fun hc => ?_) (fun hc => ?_) <;> (try rw [hc]) <;> (try simp only [cleanS, reduceCtorEq] at hc) <;> (try (exfalso; omega)) <;> (try refine W_norm rfl ?_))
          | refine W_ret ?_
          | refine W_exit ?_
        )
        | refine seqK_n ?_
        | refine seqK_x ?_
        | refine blockK_e ?_
        | refine invK_x ?_
        | (refine fnK_r rfl ?_; try dsimp only [gd_z, gd_s]))
      rename_i v9 hv9
      rw [hq] at hv9
      have hgood : ((b3 X).drop (T.length - 1)).all (fun y => decide (y = 0)) = true := by
        rw [List.all_eq_true]
        intro y hy
        obtain ⟨j, hj⟩ := List.mem_iff_getElem?.1 hy
        rw [List.getElem?_drop] at hj
        have hjl := (List.getElem?_eq_some_iff.1 hj).1
        have := hz j (by omega)
        rw [List.getD_eq_getElem?_getD, hj] at this
        simpa using this
      rw [hgood, if_pos rfl] at hgx
      refine ⟨_, rfl, _, _, _, rfl, .inr ⟨_, hgx, rfl, ?_⟩, hs⟩
      rw [ints_toB (fun y hy => b3_bytes X y (List.mem_of_mem_take hy))]
      exact hv9.p (by omega) (by omega) hkd

theorem w28 {s : List UInt8} {last : Bool} {h : Heap} (hl : s.length = 4) : Wc DD 28 [.sc (.str s), bo last] h fun v h' => ∃ u ok c, v = .tup [.sc u, .sc (.bool ok)] ∧ ((groupL s last = none ∧ ok = false ∧ u = .nils ∧ c = []) ∨ ∃ g, groupL s last = some g ∧ ok = true ∧ OwnP (intEl .u8) 5 u (ints g) c) ∧ Sep (Now h) [c] h' := by
  have hs := Sep.entry h
  have htl := trim_len s
  by_cases hbad : (trimB s 61).length < 2 ∨ ((trimB s 61).length < 4 ∧ last = false)
  · have hn : groupL s last = none := by unfold groupL; rw [if_pos hbad]
    refine W_enter d28 ?_
    show W _ (.code m28_code [.sc (.str s), bo last, undefA, undefA, undefA, undefA, undefA, undefA, undefA, undefA, undefA, undefA, undefA, undefA, undefA, undefA, undefA, undefA, undefA, undefA, undefA, undefA, undefA, undefA, undefA, undefA, undefA, undefA, undefA, undefA, undefA, undefA, undefA, undefA, undefA, undefA, undefA, undefA, undefA, undefA, undefA, undefA, undefA, undefA, undefA, undefA, undefA, undefA, undefA, undefA, undefA, undefA, undefA, undefA, undefA, undefA, undefA, undefA, undefA, undefA, undefA, undefA, undefA, undefA, undefA, undefA, undefA, undefA] _) _
    unfold m28_code
    cases last with
    | true =>
      have hb2 : (trimB s 61).length < 2 := by rcases hbad with h | ⟨_, h⟩; exact h; cases h
      repeat' (first
        | (refine K_ops ?_; first
          | refine W_fastB rfl ?_
          | refine W_nil ?_
          | (refine K_guard ?_; first
            | refine W_guard_off rfl rfl (W_norm rfl ?_)
            | refine W_guard_u rfl (W_norm rfl ?_)
            | (refine W_guardF rfl (fun hc => ?_) (fun hc => ?_) <;> (try rw [hc]) <;> (try simp only [cleanS, reduceCtorEq] at hc) <;> (try (exfalso; omega)) <;> (try refine W_norm rfl ?_))
          )
          | (refine K_call ?_; first
            | (refine W_callsN 45 rfl (w45 s 61 _ (by omega) (by decide)) rfl ?_; rintro _ h ⟨rfl, rfl⟩; refine W_norm rfl ?_)
          )
          | (refine K_pick ?_; first
            | refine W_pick_t rfl rfl (W_norm rfl ?_)
          )
        )
        | (refine K_code ?_; first
          | refine W_seq ?_
          | refine W_ops ?_
          | refine W_cond_t rfl ?_
          | refine W_ret ?_
        )
        | refine seqK_n ?_
        | refine seqK_r ?_
        | (refine fnK_r rfl ?_; try dsimp only [gd_z, gd_s]))
      all_goals exact ⟨_, rfl, _, _, _, rfl, .inl ⟨hn, rfl, rfl, rfl⟩, hs.nil⟩
    | false =>
      repeat' (first
        | (refine K_ops ?_; first
          | refine W_fastB rfl ?_
          | refine W_nil ?_
          | (refine K_guard ?_; first
            | refine W_guard_on rfl ?_
            | refine W_guard_off rfl rfl (W_norm rfl ?_)
            | refine W_guard_u rfl (W_norm rfl ?_)
            | (refine W_guardT rfl (fun hc => ?_) (fun hc => ?_) <;> (try rw [hc]) <;> (try simp only [cleanS, reduceCtorEq] at hc) <;> (try (exfalso; omega)) <;> (try refine W_norm rfl ?_))
            | (refine W_guardF rfl (fun hc => ?_) (fun hc => ?_) <;> (try rw [hc]) <;> (try simp only [cleanS, reduceCtorEq] at hc) <;> (try (exfalso; omega)) <;> (try refine W_norm rfl ?_))
          )
          | (refine K_call ?_; first
            | (refine W_callsN 45 rfl (w45 s 61 _ (by omega) (by decide)) rfl ?_; rintro _ h ⟨rfl, rfl⟩; refine W_norm rfl ?_)
          )
          | (refine K_pick ?_; first
            | refine W_pick_t rfl rfl (W_norm rfl ?_)
            | refine W_pick_f rfl rfl (W_norm rfl ?_)
          )
        )
        | (refine K_code ?_; first
          | refine W_seq ?_
          | refine W_ops ?_
          | refine W_cond_t rfl ?_
          | refine W_ret ?_
        )
        | refine seqK_n ?_
        | refine seqK_r ?_
        | (refine fnK_r rfl ?_; try dsimp only [gd_z, gd_s]))
      all_goals first | exact ⟨_, rfl, _, _, _, rfl, .inl ⟨hn, rfl, rfl, rfl⟩, hs.nil⟩ | skip
      all_goals (exfalso; omega)
  · obtain ⟨n, hn⟩ : ∃ n, n = (trimB s 61).length := ⟨_, rfl⟩
    rw [← hn] at hbad htl
    have hnb : 2 ≤ n ∧ n ≤ 4 := by omega
    have hg1 : (∀ j, j < 4 → 0 ≤ kL s n j) → groupL s last = if ((b3 (xG s n 4)).drop (n - 1)).all (fun y => decide (y = 0)) then some (toB ((b3 (xG s n 4)).take (n - 1))) else none := by
      intro hk
      have k0 := hk 0 (by omega)
      have k1 := hk 1 (by omega)
      have k2 := hk 2 (by omega)
      have k3 := hk 3 (by omega)
      unfold groupL
      rw [← hn, if_neg hbad, if_neg (by omega), xG_4]
    have hg2 : ∀ i, i < 4 → kL s n i < 0 → groupL s last = none := fun i hi h => groupL_none hi (by rw [← hn]; exact h)
    have hlast : n < 4 → last = true := by
      intro h4
      cases last with
      | true => rfl
      | false => exact absurd (.inr ⟨h4, rfl⟩) hbad
    refine w28_core hl hn hnb hlast hg1 hg2
end Go.Proofs.YtggkbkbhegcbkaaDoor
/- The gate: base64, walked. -/
set_option linter.unusedSimpArgs false
set_option linter.unusedVariables false
set_option maxHeartbeats 1000000
set_option maxRecDepth 100000
namespace Go.Proofs.YtggkbkbhegcbkaaDoor
open Go Go.Jx

theorem w28n {s : List UInt8} {last : Bool} {h : Heap} (hl : s.length = 4) (hg : groupL s last = none) : Wc DD 28 [.sc (.str s), bo last] h fun v h' => v = .tup [.sc .nils, .sc (.bool false)] ∧ Sep (Now h) [] h' := by
  refine (w28 hl).mono ?_
  rintro _ _ h' ⟨v, rfl, u, ok, c, rfl, ⟨_, rfl, rfl, rfl⟩ | ⟨g, h1, _⟩, h2⟩
  · exact ⟨_, rfl, rfl, h2.none⟩
  · rw [hg] at h1; cases h1
theorem w28s {s g : List UInt8} {last : Bool} {h : Heap} (hl : s.length = 4) (hg : groupL s last = some g) : Wc DD 28 [.sc (.str s), bo last] h fun v h' => ∃ u c, v = .tup [.sc u, .sc (.bool true)] ∧ OwnP (intEl .u8) 5 u (ints g) c ∧ Sep (Now h) [c] h' := by
  refine (w28 hl).mono ?_
  rintro _ _ h' ⟨v, rfl, u, ok, c, rfl, ⟨h1, _⟩ | ⟨g', h1, rfl, h3⟩, h2⟩
  · rw [hg] at h1; cases h1
  · rw [hg] at h1; cases h1
    exact ⟨_, rfl, u, c, rfl, h3, h2⟩
theorem decG_step {s : List UInt8} {i : Nat} (h : i + 4 ≤ s.length) : ((s.take (i + 4)).drop i).length = 4 ∧
    decG (s.drop i) = match groupL ((s.take (i + 4)).drop i) (decide (i + 4 = s.length)) with | none => none | some g => (decG (s.drop (i + 4))).map (g ++ ·) := by
  have hlen : ((s.take (i + 4)).drop i).length = 4 := by rw [List.length_drop, List.length_take]; omega
  refine ⟨hlen, ?_⟩
  obtain ⟨a, b, c, d, he⟩ : ∃ a b c d, (s.take (i + 4)).drop i = [a, b, c, d] := by
    match hx : (s.take (i + 4)).drop i, hlen with
    | [a, b, c, d], _ => exact ⟨a, b, c, d, rfl⟩
  have hd : s.drop i = a :: b :: c :: d :: s.drop (i + 4) := by
    have h1 : s.drop i = (s.take (i + 4)).drop i ++ s.drop (i + 4) := by
      rw [← List.drop_append_of_le_length (by rw [List.length_take]; omega), List.take_append_drop]
    rw [h1, he]; rfl
  rw [hd, he, decG]
  have hdec : decide (s.drop (i + 4) = []) = decide (i + 4 = s.length) := by
    refine decide_eq_decide.2 ?_
    rw [List.drop_eq_nil_iff]; omega
  first
    | (rw [hdec]; done)
    | (rw [hdec]; cases groupL [a, b, c, d] (decide (i + 4 = s.length)) <;> rfl)
theorem groupL_len {s g : List UInt8} {last : Bool} (hg : groupL s last = some g) : g.length ≤ 3 := by
  unfold groupL at hg
  split at hg
  · cases hg
  split at hg
  · cases hg
  split at hg
  · cases hg
    simp only [toB, List.length_map, List.length_take, b3, List.length_cons, List.length_nil]; omega
  · cases hg
theorem w13 {s : List UInt8} {h : Heap} (hl : s.length ≤ 100000) : Wc DD 13 [.sc (.str s)] h fun v h' => v = .tup [.sc (.str ((decL s).getD [])), .sc (.bool (decL s).isSome)] ∧ Sep (Now h) [] h' := by
  have hs := Sep.entry h
  refine W_enter d13 ?_
  show W _ (.code m13_code [.sc (.str s), undefA, undefA, undefA, undefA, undefA, undefA, undefA, undefA, undefA, undefA, undefA, undefA, undefA, undefA, undefA, undefA, undefA, undefA, undefA, undefA, undefA, undefA, undefA, undefA, undefA, undefA, undefA, undefA, undefA, undefA, undefA, undefA, undefA, undefA, undefA, undefA, undefA, undefA] _) _
  unfold m13_code
  by_cases h4 : s.length % 4 = 0
  · have hdl : decL s = decG s := by unfold decL; rw [if_neg (by omega)]
    rw [hdl]
    repeat' (first
      | (refine K_ops ?_; first
        | refine W_fastB rfl ?_
        | refine W_nil ?_
        | (refine K_bin ?_; first
          | (refine W_mod rfl rfl (by omega) ?_; refine W_norm rfl ?_)
        )
      )
      | (refine K_code ?_; first
        | refine W_seq ?_
        | refine W_ops ?_
        | (refine W_cond rfl (fun hc => ?_) (fun hc => ?_) <;> (try rw [hc]) <;> (try simp only [cleanS, reduceCtorEq] at hc) <;> (try (exfalso; omega)) <;> (try refine W_norm rfl ?_))
        | refine W_skip ?_
        | refine W_block ?_
      )
      | refine seqK_n ?_)
    refine W_loopB [2, 3, 4, 5, 6, 7, 12, 13, 14, 15, 16, 17, 18, 19, 20, 21, 22, 23, 24, 25, 26, 27, 28, 29, 30, 31, 32, 33, 34, 35, 36] [0, 1, 2, 3, 4, 5, 6, 7, 8, 9, 10, 11, 12, 13, 14, 15, 16, 17, 18, 19, 20, 21, 22, 23, 24, 25, 26, 27, 28, 29, 30, 31, 32, 33, 34, 35, 36, 37, 38] (fun n' sl h' => ∃ (i : Nat) (out : SV) (O : List UInt8) (c : Hp), sl = [(4, .sc out), (5, i64 (i : Int))] ∧ n' = s.length - i ∧ i ≤ s.length ∧ i % 4 = 0 ∧ O.length ≤ i ∧ decG s = (decG (s.drop i)).map (O ++ ·) ∧ AccS (intEl .u8) 5 out (ints O) c ∧ Sep (Now h) [c] h') ?_ ?_
    · refine ⟨_, _, ⟨0, .nils, [], [], rfl, rfl, Nat.zero_le _, rfl, Nat.zero_le _, ?_, AccS.nil _, hs.nil⟩, EnvB.of rfl⟩
      simp
    clear hs
    rintro _ _ us _ h2 ⟨i, out, O, c, rfl, rfl, hi, hi4, hO, hd, ha, hs⟩ he
    refine W_spell he rfl ?_
    clear he
    unfold m13_l5
    by_cases hlt : i < s.length
    · obtain ⟨hg4, hst⟩ := decG_step (s := s) (i := i) (by omega)
      have hil := ints_length O
      have e4 : ((i : Int) + 4).toNat = i + 4 := by omega
      have eb : ((i : Int) + 4 == (s.length : Int)) = decide (i + 4 = s.length) := by
        rw [Bool.eq_iff_iff]; simp only [beq_iff_eq, decide_eq_true_eq]; omega
      have eX : (s.take ((i : Int) + 4).toNat).drop (i : Int).toNat = (s.take (i + 4)).drop i := by rw [e4, Int.toNat_natCast]
      rw [← eX, ← eb] at hst
      rw [← eX] at hg4
      cases hg : groupL ((s.take ((i : Int) + 4).toNat).drop (i : Int).toNat) ((i : Int) + 4 == (s.length : Int)) with
      | none =>
        rw [hg] at hst
        rw [hst] at hd
        repeat' (first
          | (refine K_ops ?_; first
            | refine W_fastB rfl ?_
            | refine W_nil ?_
            | (refine K_call ?_; first
              | (refine W_callsN 28 rfl (w28n hg4 hg) rfl ?_; rintro _ h ⟨rfl, t⟩; replace hs := hs.call t; try simp only [setS] at hs; refine W_norm rfl ?_)
            )
            | (refine K_bin ?_; first
              | (refine W_add rfl rfl (IntWalk.i64_in _ (by first | omega | (simp only [lenS]; omega))) ?_; refine W_norm rfl ?_)
            )
            | (refine W_sliceStr rfl rfl rfl ⟨(by first | omega | (simp only [lenS]; omega)), (by first | omega | (simp only [lenS]; omega)), (by first | omega | (simp only [lenS]; omega))⟩ ?_; refine W_norm rfl ?_)
          )
          | (refine K_code ?_; first
            | refine W_seq ?_
            | refine W_ops ?_
            | refine W_cond_t rfl ?_
            | (refine W_cond rfl (fun hc => ?_) (fun hc => ?_) <;> (try rw [hc]) <;> (try simp only [cleanS, reduceCtorEq] at hc) <;> (try (exfalso; omega)) <;> (try refine W_norm rfl ?_))
            | refine W_skip ?_
            | refine W_ret ?_
            | refine W_block ?_
          )
          | refine seqK_n ?_
          | refine seqK_r ?_
          | refine blockK_r ?_
          | refine invK_r ?_
          | (refine fnK_r rfl ?_; try dsimp only [gd_z, gd_s]))
        exact ⟨_, rfl, by rw [hd]; rfl, hs.none⟩
      | some g =>
        rw [hg] at hst
        have hgl : (ints g).length ≤ 3 := by rw [ints_length]; exact groupL_len hg
        have hgl2 := groupL_len hg
        repeat' (first
          | (refine K_ops ?_; first
            | refine W_fastB rfl ?_
            | refine W_nil ?_
            | (refine K_call ?_; first
              | (refine W_callsN 28 rfl (w28s hg4 hg) rfl ?_; rintro _ h ⟨u2, c2, rfl, hp2, t⟩; replace hs := hs.call t; try simp only [setS] at hs; have hu2 := hp2.now hs (by simp); refine W_norm rfl ?_)
            )
            | (refine K_bin ?_; first
              | (refine W_add rfl rfl (IntWalk.i64_in _ (by first | omega | (simp only [lenS]; omega))) ?_; refine W_norm rfl ?_)
            )
            | (refine K_append ?_; first
              | (refine W_appS hs 1 rfl rfl (by assumption) rfl (by first | assumption | exact SlR.now hs (by assumption) | exact AccS.now (by assumption) hs (by simp) | exact OwnS.now (by assumption) hs (by simp)) rfl ⟨by decide, (by first | omega | (simp only [lenS]; omega))⟩ ?_; clear hs; intro _ _ _ _ hs; try simp only [setS] at hs; refine W_norm rfl ?_)
            )
            | (refine W_sliceStr rfl rfl rfl ⟨(by first | omega | (simp only [lenS]; omega)), (by first | omega | (simp only [lenS]; omega)), (by first | omega | (simp only [lenS]; omega))⟩ ?_; refine W_norm rfl ?_)
          )
          | (refine K_code ?_; first
            | refine W_seq ?_
            | refine W_ops ?_
            | refine W_cond_f rfl ?_
            | (refine W_cond rfl (fun hc => ?_) (fun hc => ?_) <;> (try rw [hc]) <;> (try simp only [cleanS, reduceCtorEq] at hc) <;> (try (exfalso; omega)) <;> (try refine W_norm rfl ?_))
            | refine W_skip ?_
            | refine W_block ?_
          )
          | refine seqK_n ?_
          | refine blockK_n ?_
          | refine invK_n ?_)
        rename_i u5 c5 h5 ha5
        refine ⟨_, ?_, _, ⟨i + 4, u5, O ++ g, c5, rfl, rfl, ?_, ?_, ?_, ?_, ?_, hs.drop 0⟩, EnvB.of rfl⟩
        · omega
        · omega
        · omega
        · rw [List.length_append]; omega
        · rw [hd, hst]
          cases decG (s.drop (i + 4)) <;> simp
        · have e : ints (O ++ g) = ints O ++ ints g := by simp [ints]
          rw [e]; exact ha5
    · obtain rfl : i = s.length := by omega
      rw [List.drop_length] at hd
      repeat' (first
        | (refine K_ops ?_; first
          | refine W_fastB rfl ?_
          | refine W_nil ?_
          | (refine W_bytesStr (L := O) (bytes_of (AccS.now (by assumption) hs (by simp))) rfl ?_; refine W_norm rfl ?_)
        )
        | (refine K_code ?_; first
          | refine W_seq ?_
          | refine W_ops ?_
          | (refine W_cond rfl (fun hc => ?_) (fun hc => ?_) <;> (try rw [hc]) <;> (try simp only [cleanS, reduceCtorEq] at hc) <;> (try (exfalso; omega)) <;> (try refine W_norm rfl ?_))
          | refine W_ret ?_
          | refine W_exit ?_
        )
        | refine seqK_n ?_
        | refine seqK_x ?_
        | refine blockK_e ?_
        | refine invK_x ?_
        | (refine fnK_r rfl ?_; try dsimp only [gd_z, gd_s]))
      exact ⟨_, rfl, by rw [hd]; simp [decG], hs.none⟩
  · have hdl : decL s = none := by unfold decL; rw [if_pos h4]
    rw [hdl]
    repeat' (first
      | (refine K_ops ?_; first
        | refine W_fastB rfl ?_
        | refine W_nil ?_
        | (refine K_bin ?_; first
          | (refine W_mod rfl rfl (by omega) ?_; refine W_norm rfl ?_)
        )
      )
      | (refine K_code ?_; first
        | refine W_seq ?_
        | refine W_ops ?_
        | (refine W_cond rfl (fun hc => ?_) (fun hc => ?_) <;> (try rw [hc]) <;> (try simp only [cleanS, reduceCtorEq] at hc) <;> (try (exfalso; omega)) <;> (try refine W_norm rfl ?_))
        | refine W_ret ?_
      )
      | refine seqK_n ?_
      | refine seqK_r ?_
      | (refine fnK_r rfl ?_; try dsimp only [gd_z, gd_s]))
    exact ⟨_, rfl, rfl, hs⟩
end Go.Proofs.YtggkbkbhegcbkaaDoor
/- The gate: titles made clean, walked. CALLV -/
set_option linter.unusedSimpArgs false
set_option linter.unusedVariables false
set_option maxHeartbeats 1000000
set_option maxRecDepth 100000
namespace Go.Proofs.YtggkbkbhegcbkaaDoor
open Go Go.Jx

section
variable {D : Nat → Option MFunc} {Q : Ex → List AV → Heap → Prop} {e : List AV} {h : Heap} {dst : Option Nat} {r : List MI}
variable {α : Type} {E : El α} {R : Ro} {M : List Hp} {L : List α} {t : TypeId}
/-- A part of one's own is made zero. -/
theorem W_clearV {x : Rnd} {id o len m : Nat} {kd : Kind} {w : SV} {zero : List SV} (s : Sep R M h) (k : Nat) (hx : rd e x = .sc w) (hw : VwO m id o len w) (hk : M[k]? = some [(id, .cells t kd (L.flatMap E.enc))]) (hkd : kd ≠ .ro) (hm : m = E.n) (hol : o + len ≤ L.length) (hz : E.enc (E.dec zero) = zero)
    (K : ∀ h', Sep R (M.set k [(id, .cells t kd ((L.take o ++ List.replicate len (E.dec zero) ++ L.drop (o + len)).flatMap E.enc))]) h' → W D (.ops r (put e dst undefA) h') Q) : W D (.ops (⟨dst, .clear zero x, none⟩ :: r) e h) Q := by
  subst hm
  have hself : M.set k [(id, AO.cells t kd (L.flatMap E.enc))] = M := by
    apply List.ext_getElem?
    intro i
    by_cases hi : i = k
    · subst hi
      have := (List.getElem?_eq_some_iff.1 hk).1
      rw [List.getElem?_set_self this, hk]
    · rw [List.getElem?_set_ne (Ne.symm hi)]
  have h0 : len = 0 → Sep R (M.set k [(id, .cells t kd ((L.take o ++ List.replicate len (E.dec zero) ++ L.drop (o + len)).flatMap E.enc))]) h := by
    rintro rfl
    have : L.take o ++ List.replicate 0 (E.dec zero) ++ L.drop (o + 0) = L := by simp
    rw [this, hself]; exact s
  rcases hw with ⟨rfl, hv⟩ | ⟨cap, rfl, hc⟩
  · refine W_act rfl (v := undefA) (h' := h) ?_ (K _ (h0 rfl))
    show (clearA zero (rd e x) h).map _ = _
    rw [hx]
    rcases hv with rfl | ⟨b, rfl⟩ <;> rfl
  · by_cases hl : len = 0
    · refine W_act rfl (v := undefA) (h' := h) ?_ (K _ (h0 hl))
      show (clearA zero (rd e x) h).map _ = _
      rw [hx]
      simp only [clearA, if_pos hl, Option.map_some]
    · have hg := s.at1 k hk
      have hwr := E.writeMany (L := L) (X := List.replicate len (E.dec zero)) (o := o) (by rw [List.length_replicate]; exact hol)
      rw [← zerosA_flatMap E hz, List.length_replicate] at hwr
      refine W_act rfl (v := undefA) (h' := h.set id (.cells t kd ((L.take o ++ List.replicate len (E.dec zero) ++ L.drop (o + len)).flatMap E.enc))) ?_ (K _ (s.turn k _ hk))
      show (clearA zero (rd e x) h).map _ = _
      rw [hx]
      simp only [clearA, if_neg hl, hg, if_neg hkd, hwr, Option.map_some]
theorem runes_cells : ∀ (L : List Int), runesOfCells (L.flatMap (intEl .i32).enc) = some (L.flatMap utf8)
  | [] => rfl
  | x :: L => by
    have h1 := runes_cells L
    show (runesOfCells (L.flatMap (intEl .i32).enc)).map ((Utf8.encode x).data.toList ++ ·) = _
    rw [h1]; rfl
theorem W_runesStr {x : Rnd} {v : SV} {L : List Int} (hv : SlR (intEl .i32) (Now h) v L) (hx : rd e x = .sc v)
    (k : W D (.ops r (put e dst (.sc (.str (L.flatMap utf8)))) h) Q) : W D (.ops (⟨dst, .conv .runesStr x, none⟩ :: r) e h) Q := by
  obtain ⟨h1, h2⟩ := Sl.first (intEl .i32).len (intEl .i32).pos hv.sl
  refine W_act rfl (v := .sc (.str (L.flatMap utf8))) (h' := h) ?_ k
  show convA .runesStr (rd e x) h = _
  rw [hx]
  have h2' : firstA 1 L.length (.sc v) h = some (L.flatMap (intEl .i32).enc) := h2
  have hnostr : ∀ s, v ≠ .str s := by
    rintro s rfl
    rcases hv with ⟨_, h | ⟨b, h⟩⟩ | ⟨_, _, _, _, _, _, h, _⟩ <;> cases h
  have key : convA .runesStr (.sc v) h = (match lenA (.sc v) with
      | none => none
      | some n => match firstA 1 n (.sc v) h with
        | none => none
        | some cs => (runesOfCells cs).map fun s => (AV.sc (.str s), h)) := by
    unfold convA
    cases v <;> first | rfl | exact absurd rfl (hnostr _)
  rw [key, h1]
  simp only [h2', runes_cells, Option.map_some]
theorem OwnP.ofV {id n : Nat} {kd : Kind} {v : SV} (p : VwO E.n id 0 n v) (hl : n ≤ L.length) (hk : kd ≠ .ro) (s : Sep R ([(id, .cells t kd (L.flatMap E.enc))] :: M) h) : ∃ c, OwnP E t v (L.take n) c ∧ Sep R (c :: M) h := by
  by_cases hn : 0 < n
  · exact ⟨_, p.p hn hl hk, s⟩
  · obtain rfl : n = 0 := by omega
    rcases p with ⟨_, hv⟩ | ⟨cap, rfl, hc⟩
    · exact ⟨[], .inl ⟨by simp, rfl, hv⟩, (s.drop 0).nil⟩
    · exact ⟨_, .inr ⟨id, kd, cap, L, by simp, by simp, by simp, hk⟩, s⟩
end

/-- Is a character one that controls? -/
def ctl (r : Int) : Bool := decide (r < 32 ∨ (127 ≤ r ∧ r ≤ 159))
theorem w26 (r : Int) (h : Heap) : Wc DD 26 [.sc (.int .i32 r)] h fun v h' => v = bo (ctl r) ∧ h' = h := by
  refine W_enter d26 ?_
  show W _ (.code m26_code [.sc (.int .i32 r), undefA, undefA, undefA, undefA, undefA, undefA, undefA, undefA, undefA, undefA, undefA, undefA] _) _
  unfold m26_code
  repeat' (first
    | (refine K_ops ?_; first
      | refine W_fastB rfl ?_
      | refine W_nil ?_
      | (refine K_guard ?_; first
        | refine W_guard_on rfl ?_
        | refine W_guard_off rfl rfl (W_norm rfl ?_)
        | refine W_guard_u rfl (W_norm rfl ?_)
        | (refine W_guardT rfl (fun hc => ?_) (fun hc => ?_) <;> (try rw [hc]) <;> (try simp only [cleanS, reduceCtorEq] at hc) <;> (try (exfalso; omega)) <;> (try refine W_norm rfl ?_))
        | (refine W_guardF rfl (fun hc => ?_) (fun hc => ?_) <;> (try rw [hc]) <;> (try simp only [cleanS, reduceCtorEq] at hc) <;> (try (exfalso; omega)) <;> (try refine W_norm rfl ?_))
      )
      | (refine K_pick ?_; first
        | refine W_pick_t rfl rfl (W_norm rfl ?_)
        | refine W_pick_f rfl rfl (W_norm rfl ?_)
      )
    )
    | (refine K_code ?_; first
      | refine W_seq ?_
      | refine W_ops ?_
      | refine W_ret ?_
    )
    | refine seqK_n ?_
    | (refine fnK_r rfl ?_; try dsimp only [gd_z, gd_s]))
  all_goals
    refine ⟨_, rfl, ?_, rfl⟩
    refine congrArg bo ?_
    unfold ctl
    first
      | (symm; rw [decide_eq_true_eq]; omega)
      | (symm; rw [decide_eq_false_iff_not]; omega)
      | (refine decide_eq_decide.2 ?_; omega)
def idxF (L : List Int) : Int := if (L.takeWhile fun r => !ctl r).length < L.length then ((L.takeWhile fun r => !ctl r).length : Int) else -1
theorem idxF_at {L : List Int} {k : Nat} (hk : k < L.length) (h1 : ∀ j, j < k → ctl (L.getD j 0) = false) (h2 : ctl (L.getD k 0) = true) : idxF L = k := by
  have key : ∀ (L : List Int) (k : Nat), k < L.length → (∀ j, j < k → ctl (L.getD j 0) = false) → ctl (L.getD k 0) = true → (L.takeWhile fun r => !ctl r).length = k := by
    intro L
    induction L with
    | nil => intro k hk; simp at hk
    | cons x L ih =>
      intro k hk h1 h2
      cases k with
      | zero =>
        have : ctl x = true := h2
        rw [List.takeWhile_cons, this]; rfl
      | succ k =>
        have : ctl x = false := h1 0 (by omega)
        rw [List.takeWhile_cons, this]
        have := ih k (by simpa using hk) (fun j hj => by simpa using h1 (j + 1) (by omega)) (by simpa using h2)
        simp [this]
  unfold idxF
  rw [key L k hk h1 h2, if_pos hk]
theorem idxF_none {L : List Int} (h1 : ∀ j, j < L.length → ctl (L.getD j 0) = false) : idxF L = -1 ∧ L.filter (fun r => !ctl r) = L := by
  have h2 : ∀ x ∈ L, (!ctl x) = true := by
    intro x hx
    obtain ⟨j, hj, rfl⟩ := List.getElem_of_mem hx
    have := h1 j hj
    rw [List.getD_eq_getElem?_getD, List.getElem?_eq_getElem hj] at this
    have h3 : ctl L[j] = false := this
    rw [h3]; rfl
  refine ⟨?_, List.filter_eq_self.2 h2⟩
  unfold idxF
  have h4 : L.takeWhile (fun r => !ctl r) = L := by
    clear h1
    induction L with
    | nil => rfl
    | cons x L ih => rw [List.takeWhile_cons, if_pos (h2 x (by simp)), ih fun y hy => h2 y (by simp [hy])]
  rw [h4, if_neg (by omega)]
theorem idxF_cases (L : List Int) : (idxF L = -1 ∧ L.filter (fun r => !ctl r) = L) ∨ ∃ k : Nat, idxF L = k ∧ k < L.length ∧ (∀ j, j < k → ctl (L.getD j 0) = false) ∧ ctl (L.getD k 0) = true := by
  have key : ∀ n, n ≤ L.length → (∀ j, j < n → ctl (L.getD j 0) = false) ∨ ∃ k, k < n ∧ (∀ j, j < k → ctl (L.getD j 0) = false) ∧ ctl (L.getD k 0) = true := by
    intro n
    induction n with
    | zero => intro _; exact .inl fun j hj => by omega
    | succ n ih =>
      intro hn
      rcases ih (by omega) with h | ⟨k, h1, h2, h3⟩
      · cases hc : ctl (L.getD n 0) with
        | true => exact .inr ⟨n, by omega, h, hc⟩
        | false =>
          refine .inl fun j hj => ?_
          rcases Nat.lt_or_ge j n with h1 | h1
          · exact h j h1
          · obtain rfl : j = n := by omega
            exact hc
      · exact .inr ⟨k, by omega, h2, h3⟩
  rcases key L.length (Nat.le_refl _) with h | ⟨k, h1, h2, h3⟩
  · exact .inl (idxF_none h)
  · exact .inr ⟨k, idxF_at h1 h2 h3, h1, h2, h3⟩
theorem w43 {v : SV} {L : List Int} {h : Heap} (hv : SlR (intEl .i32) (Now h) v L) (hl : L.length ≤ 1000000) : Wc DD 43 [.sc v, .sc (.func 26 [])] h fun w h' => w = i64 (idxF L) ∧ h' = h := by
  have hs := Sep.entry h
  have hln := hv.ln
  refine W_enter d43 ?_
  show W _ (.code m43_code [.sc v, .sc (.func 26 []), undefA, undefA, undefA, undefA, undefA, undefA, undefA, undefA, undefA, undefA, undefA, undefA, undefA, undefA, undefA, undefA, undefA] _) _
  unfold m43_code
  repeat' (first
    | (refine K_ops ?_; first
      | refine W_fastB rfl ?_
      | refine W_nil ?_
      | (refine W_lenL rfl (by first | assumption | exact SlR.ln (by assumption) | exact AccS.ln (by assumption) | exact OwnS.ln (by assumption) | exact VwO.ln (by assumption) | exact OwnP.ln (by assumption) | exact Len.sl) ?_; refine W_norm rfl ?_)
    )
    | (refine K_code ?_; first
      | refine W_seq ?_
      | refine W_ops ?_
      | refine W_block ?_
    )
    | refine seqK_n ?_)
  refine W_loopB [4, 5, 8, 9, 10, 11, 12, 13, 14, 15, 16, 17, 18] [0, 1, 2, 3, 4, 5, 6, 7, 8, 9, 10, 11, 12, 13, 14, 15, 16, 17, 18] (fun n' sl h' => ∃ (i : Nat), sl = [(8, i64 (i : Int))] ∧ n' = L.length - i ∧ i ≤ L.length ∧ (∀ j, j < i → ctl (L.getD j 0) = false) ∧ h' = h) ?_ ?_
  · refine ⟨_, _, ⟨0, rfl, rfl, Nat.zero_le _, (fun j hj => by omega), rfl⟩, EnvB.of rfl⟩
  rintro _ _ us _ h2 ⟨i, rfl, rfl, hi, hz, rfl⟩ he
  refine W_spell he rfl ?_
  clear he
  unfold m43_l2
  by_cases hlt : i < L.length
  · repeat' (first
      | (refine K_ops ?_; first
        | refine W_fastB rfl ?_
        | refine W_nil ?_
        | (refine W_callvN 26 rfl rfl (w26 (L.getD i 0) _) rfl ?_; rintro _ h ⟨rfl, rfl⟩; refine W_norm rfl ?_)
        | (refine K_bin ?_; first
          | (refine W_add rfl rfl (IntWalk.i64_in _ (by first | omega | (simp only [lenS]; omega))) ?_; refine W_norm rfl ?_)
        )
        | (refine K_index ?_; first
          | (refine W_indexR rfl rfl (by assumption) rfl ⟨(by first | omega | (simp only [lenS]; omega)), (by first | omega | (simp only [lenS]; omega))⟩ ?_; intro _ _ _; refine W_norm rfl ?_)
        )
        | (refine K_load ?_; first
          | (refine W_loadR hs rfl (by assumption) rfl ?_; refine W_norm rfl ?_)
        )
      )
      | (refine K_code ?_; first
        | refine W_seq ?_
        | refine W_ops ?_
        | (refine W_cond rfl (fun hc => ?_) (fun hc => ?_) <;> (try rw [hc]) <;> (try simp only [cleanS, reduceCtorEq] at hc) <;> (try (exfalso; omega)) <;> (try refine W_norm rfl ?_))
        | refine W_skip ?_
        | refine W_ret ?_
        | refine W_block ?_
      )
      | refine seqK_n ?_
      | refine seqK_r ?_
      | refine blockK_r ?_
      | refine blockK_n ?_
      | refine invK_r ?_
      | refine invK_n ?_
      | (refine fnK_r rfl ?_; try dsimp only [gd_z, gd_s]))
    · exact ⟨_, rfl, by rw [idxF_at hlt hz hc], rfl⟩
    · refine ⟨_, ?_, _, ⟨i + 1, rfl, rfl, ?_, ?_, rfl⟩, EnvB.of rfl⟩
      · omega
      · omega
      · intro j hj
        rcases Nat.lt_or_ge j i with h1 | h1
        · exact hz j h1
        · obtain rfl : j = i := by omega
          exact hc
  · obtain rfl : i = L.length := by omega
    repeat' (first
      | (refine K_ops ?_; first
        | refine W_fastB rfl ?_
        | refine W_nil ?_
      )
      | (refine K_code ?_; first
        | refine W_seq ?_
        | refine W_ops ?_
        | (refine W_cond rfl (fun hc => ?_) (fun hc => ?_) <;> (try rw [hc]) <;> (try simp only [cleanS, reduceCtorEq] at hc) <;> (try (exfalso; omega)) <;> (try refine W_norm rfl ?_))
        | refine W_ret ?_
        | refine W_exit ?_
      )
      | refine seqK_n ?_
      | refine seqK_x ?_
      | refine blockK_e ?_
      | refine invK_x ?_
      | (refine fnK_r rfl ?_; try dsimp only [gd_z, gd_s]))
    exact ⟨_, rfl, by rw [(idxF_none hz).1], rfl⟩

def ncl (L : List Int) : List Int := L.filter fun r => !ctl r
theorem ncl_take {L : List Int} {j : Nat} (hj : j < L.length) : ncl (L.take (j + 1)) = if ctl (L.getD j 0) then ncl (L.take j) else ncl (L.take j) ++ [L.getD j 0] := by
  rw [List.take_add_one, getD_get? (d := 0) hj]
  unfold ncl
  rw [List.filter_append]
  cases hc : ctl (L.getD j 0) with
  | true => simp [hc, -List.getD_eq_getElem?_getD, Option.toList]
  | false => simp [hc, -List.getD_eq_getElem?_getD, Option.toList]
theorem ncl_small {L : List Int} {k : Nat} (hk : k ≤ L.length) (h : ∀ j, j < k → ctl (L.getD j 0) = false) : ncl (L.take k) = L.take k := by
  refine (idxF_none ?_).2
  intro j hj
  rw [List.length_take] at hj
  have := h j (by omega)
  rw [List.getD_eq_getElem?_getD] at this ⊢
  rw [List.getElem?_take_of_lt (by omega)]; exact this
theorem w25 {R : Ro} {M : List Hp} {h : Heap} {v : SV} {L : List Int} {c : Hp} (hs : Sep R (c :: M) h) (hv : OwnS (intEl .i32) 21 v L c) (hl : L.length ≤ 1000000) : Wc DD 25 [.sc v, .sc (.func 26 [])] h fun w h' => ∃ u c', w = .sc u ∧ OwnP (intEl .i32) 21 u (ncl L) c' ∧ Sep R (c' :: M) h' := by
  have hln := hv.ln
  have hsl := hv.now hs (by simp)
  refine W_enter d25 ?_
  show W _ (.code m25_code [.sc v, .sc (.func 26 []), undefA, undefA, undefA, undefA, undefA, undefA, undefA, undefA, undefA, undefA, undefA, undefA, undefA, undefA, undefA, undefA, undefA, undefA, undefA, undefA, undefA, undefA, undefA, undefA, undefA, undefA, undefA, undefA, undefA, undefA, undefA, undefA, undefA, undefA, undefA, undefA, undefA, undefA, undefA, undefA] _) _
  unfold m25_code
  rcases idxF_cases L with ⟨h1, h2⟩ | ⟨k0, h1, h2, h3, h4⟩
  · repeat' (first
      | (refine K_ops ?_; first
        | refine W_fastB rfl ?_
        | refine W_nil ?_
        | (refine K_call ?_; first
          | (refine W_callsN 43 rfl (w43 hsl hl) rfl ?_; rintro _ h ⟨rfl, rfl⟩; rw [h1]; refine W_norm rfl ?_)
        )
      )
      | (refine K_code ?_; first
        | refine W_seq ?_
        | refine W_ops ?_
        | refine W_cond_t rfl ?_
        | refine W_ret ?_
      )
      | refine seqK_n ?_
      | refine seqK_r ?_
      | (refine fnK_r rfl ?_; try dsimp only [gd_z, gd_s]))
    all_goals first
      | (exact ⟨_, rfl, _, _, rfl, by unfold ncl; rw [h2]; exact hv.p, hs⟩)
      | (exfalso; exact hc rfl)
  · obtain ⟨id, kd, rfl, rfl, hkd⟩ := hv.pos (by omega)
    repeat' (first
      | (refine K_ops ?_; first
        | refine W_fastB rfl ?_
        | refine W_nil ?_
        | (refine K_call ?_; first
          | (refine W_callsN 43 rfl (w43 hsl hl) rfl ?_; rintro _ h ⟨rfl, rfl⟩; rw [h1]; refine W_norm rfl ?_)
        )
        | (refine K_bin ?_; first
          | (refine W_add rfl rfl (IntWalk.i64_in _ (by first | omega | (simp only [lenS]; omega))) ?_; refine W_norm rfl ?_)
        )
      )
      | (refine K_code ?_; first
        | refine W_seq ?_
        | refine W_ops ?_
        | refine W_cond_f rfl ?_
        | refine W_skip ?_
        | refine W_block ?_
      )
      | refine seqK_n ?_)
    refine W_loopB [5, 6, 7, 16, 17, 18, 19, 20, 21, 22, 23, 24, 25, 26, 27, 28, 29, 30, 31, 32, 33, 34, 35] [0, 1, 2, 3, 4, 5, 6, 7, 8, 9, 10, 11, 12, 13, 14, 15, 16, 17, 18, 19, 20, 21, 22, 23, 24, 25, 26, 27, 28, 29, 30, 31, 32, 33, 34, 35, 36, 37, 38, 39, 40, 41] (fun n' sl h' => ∃ (i : Nat) (j : Nat) (X : List Int), sl = [(5, i64 (i : Int)), (6, i64 (j : Int))] ∧ n' = L.length - j ∧ i < j ∧ j ≤ L.length ∧ X.length = L.length ∧ X.take i = ncl (L.take j) ∧ X.drop j = L.drop j ∧ Sep R ([(id, .cells 21 kd (X.flatMap (intEl .i32).enc))] :: M) h') ?_ ?_
    · refine ⟨_, _, ⟨k0, k0 + 1, L, rfl, rfl, ?_, ?_, rfl, ?_, rfl, hs⟩, EnvB.of rfl⟩
      · omega
      · omega
      · rw [ncl_take h2, h4, if_pos rfl, ncl_small (by omega) h3]
    clear hs
    rintro _ _ us _ h5 ⟨i, j, X, rfl, rfl, hij, hj, hX, hXi, hXj, hs⟩ he
    refine W_spell he rfl ?_
    clear he
    unfold m25_l5
    have hxl : L.length = X.length := hX.symm
    by_cases hlt : j < L.length
    · have hnt := ncl_take hlt
      have hxj : X.getD j 0 = L.getD j 0 := by
        have := congrArg (fun l => l.getD 0 0) hXj
        simpa [List.getD_eq_getElem?_getD, List.getElem?_drop] using this
      have hxe : X.getD (j : Int).toNat (intEl .i32).dflt = L.getD j 0 := hxj
      cases hct : ctl (L.getD j 0) with
      | true =>
        rw [hct, if_pos rfl] at hnt
        repeat' (first
          | (refine K_ops ?_; first
            | refine W_fastB rfl ?_
            | refine W_nil ?_
            | (refine W_callvN 26 rfl rfl (w26 _ _) rfl ?_; rintro _ h ⟨rfl, rfl⟩; rw [hxe, hct]; refine W_norm rfl ?_)
            | (refine W_lenL rfl (by first | assumption | exact SlR.ln (by assumption) | exact AccS.ln (by assumption) | exact OwnS.ln (by assumption) | exact VwO.ln (by assumption) | exact OwnP.ln (by assumption) | exact Len.sl) ?_; refine W_norm rfl ?_)
            | (refine K_bin ?_; first
              | (refine W_add rfl rfl (IntWalk.i64_in _ (by first | omega | (simp only [lenS]; omega))) ?_; refine W_norm rfl ?_)
            )
            | (refine K_index ?_; first
              | (refine W_indexO rfl rfl ⟨(by first | omega | (simp only [lenS]; omega)), (by first | omega | (simp only [lenS]; omega))⟩ ?_; refine W_norm rfl ?_)
            )
            | (refine K_load ?_; first
              | (refine W_loadO hs 0 rfl rfl rfl (by first | omega | (simp only [lenS]; omega)) rfl ?_; refine W_norm rfl ?_)
            )
          )
          | (refine K_code ?_; first
            | refine W_seq ?_
            | refine W_ops ?_
            | refine W_cond_f rfl ?_
            | (refine W_cond rfl (fun hc => ?_) (fun hc => ?_) <;> (try rw [hc]) <;> (try simp only [cleanS, reduceCtorEq] at hc) <;> (try (exfalso; omega)) <;> (try refine W_norm rfl ?_))
            | refine W_skip ?_
            | refine W_block ?_
          )
          | refine seqK_n ?_
          | refine blockK_n ?_
          | refine invK_n ?_)
        refine ⟨_, ?_, _, ⟨i, j + 1, X, rfl, rfl, ?_, ?_, hX, ?_, ?_, hs⟩, EnvB.of rfl⟩
        · omega
        · omega
        · omega
        · rw [hXi, hnt]
        · rw [← List.drop_drop, hXj, List.drop_drop]
      | false =>
        rw [hct, if_neg (by decide)] at hnt
        repeat' (first
          | (refine K_ops ?_; first
            | refine W_fastB rfl ?_
            | refine W_nil ?_
            | (refine W_callvN 26 rfl rfl (w26 _ _) rfl ?_; rintro _ h ⟨rfl, rfl⟩; rw [hxe, hct]; refine W_norm rfl ?_)
            | (refine W_lenL rfl (by first | assumption | exact SlR.ln (by assumption) | exact AccS.ln (by assumption) | exact OwnS.ln (by assumption) | exact VwO.ln (by assumption) | exact OwnP.ln (by assumption) | exact Len.sl) ?_; refine W_norm rfl ?_)
            | (refine K_bin ?_; first
              | (refine W_add rfl rfl (IntWalk.i64_in _ (by first | omega | (simp only [lenS]; omega))) ?_; refine W_norm rfl ?_)
            )
            | (refine K_index ?_; first
              | (refine W_indexO rfl rfl ⟨(by first | omega | (simp only [lenS]; omega)), (by first | omega | (simp only [lenS]; omega))⟩ ?_; refine W_norm rfl ?_)
            )
            | (refine K_load ?_; first
              | (refine W_loadO hs 0 rfl rfl rfl (by first | omega | (simp only [lenS]; omega)) rfl ?_; refine W_norm rfl ?_)
            )
            | (refine K_store ?_; first
              | (refine W_storeO hs 0 rfl rfl rfl rfl rfl (by first | omega | (simp only [lenS]; omega)) (by first | decide | assumption) rfl ?_; clear hs; intro _ hs; try simp only [setS] at hs; refine W_norm rfl ?_)
            )
          )
          | (refine K_code ?_; first
            | refine W_seq ?_
            | refine W_ops ?_
            | refine W_cond_t rfl ?_
            | (refine W_cond rfl (fun hc => ?_) (fun hc => ?_) <;> (try rw [hc]) <;> (try simp only [cleanS, reduceCtorEq] at hc) <;> (try (exfalso; omega)) <;> (try refine W_norm rfl ?_))
            | refine W_skip ?_
            | refine W_block ?_
          )
          | refine seqK_n ?_
          | refine blockK_n ?_
          | refine invK_n ?_)
        have hse : (intEl .i32).dec [SV.int IntKind.i32 (L.getD j 0)] = L.getD j 0 := rfl
        rw [hse] at hs
        have hin : (i : Int).toNat = i := by omega
        rw [hin] at hs
        refine ⟨_, ?_, _, ⟨i + 1, j + 1, X.set i (L.getD j 0), rfl, rfl, ?_, ?_, ?_, ?_, ?_, hs⟩, EnvB.of rfl⟩
        · omega
        · omega
        · omega
        · rw [List.length_set]; exact hX
        · rw [hnt, ← hXi, List.take_set, List.take_add_one, getD_get? (d := 0) (show i < X.length by omega)]
          have htl : (X.take i).length = i := by rw [List.length_take]; omega
          simp only [Option.toList]
          rw [List.set_append_right _ _ (by omega), htl, Nat.sub_self]
          rfl
        · rw [List.drop_set_of_lt (by omega), ← List.drop_drop, hXj, List.drop_drop]
    · obtain rfl : j = L.length := by omega
      repeat' (first
        | (refine K_ops ?_; first
          | refine W_fastB rfl ?_
          | refine W_nil ?_
          | (refine W_clearV hs 0 rfl (by assumption) rfl hkd rfl (by omega) rfl ?_; clear hs; intro h6 hs; try simp only [List.set_cons_zero] at hs; refine W_norm rfl ?_)
          | (refine W_lenL rfl (by first | assumption | exact SlR.ln (by assumption) | exact AccS.ln (by assumption) | exact OwnS.ln (by assumption) | exact VwO.ln (by assumption) | exact OwnP.ln (by assumption) | exact Len.sl) ?_; refine W_norm rfl ?_)
          | (refine K_slice ?_; first
            | (refine W_sliceO0To rfl rfl (by first | omega | (simp only [lenS]; omega)) ⟨(by first | omega | (simp only [lenS]; omega)), (by first | omega | (simp only [lenS]; omega))⟩ ?_; intro _ _; refine W_norm rfl ?_)
            | (refine W_sliceO0From rfl rfl (by first | omega | (simp only [lenS]; omega)) ⟨(by first | omega | (simp only [lenS]; omega)), (by first | omega | (simp only [lenS]; omega))⟩ ?_; intro _ _; refine W_norm rfl ?_)
          )
        )
        | (refine K_code ?_; first
          | refine W_seq ?_
          | refine W_ops ?_
          | (refine W_cond rfl (fun hc => ?_) (fun hc => ?_) <;> (try rw [hc]) <;> (try simp only [cleanS, reduceCtorEq] at hc) <;> (try (exfalso; omega)) <;> (try refine W_norm rfl ?_))
          | refine W_ret ?_
          | refine W_exit ?_
        )
        | refine seqK_n ?_
        | refine seqK_x ?_
        | refine blockK_e ?_
        | refine invK_x ?_
        | (refine fnK_r rfl ?_; try dsimp only [gd_z, gd_s]))
      rename_i v7 hv7 v8 hv8
      have hin : (i : Int).toNat = i := by omega
      rw [hin] at hs hv8
      rw [List.take_length] at hXi
      have hlen : ((X.take i) ++ List.replicate (L.length - i) ((intEl .i32).dec [SV.int IntKind.i32 0]) ++ X.drop (i + (L.length - i))).length = L.length := by
        simp only [List.length_append, List.length_take, List.length_replicate, List.length_drop]; omega
      have htk : ((X.take i) ++ List.replicate (L.length - i) ((intEl .i32).dec [SV.int IntKind.i32 0]) ++ X.drop (i + (L.length - i))).take i = ncl L := by
        rw [List.append_assoc, List.take_left' (by rw [List.length_take]; omega), hXi]
      obtain ⟨c', h8, h9⟩ := OwnP.ofV (E := intEl .i32) (t := 21) hv8 (by omega) hkd hs
      rw [htk] at h8
      exact ⟨_, rfl, _, _, rfl, h8, h9⟩

theorem w10o {h : Heap} {s : List UInt8} (hl : s.length ≤ 20000) : Wc DD 10 [.sc (.str s)] h fun v h' => ∃ u c, v = .sc u ∧ AccS (intEl .i32) 21 u (allP s) c ∧ Sep (Now h) [c] h' := by
  have hs := Sep.entry h
  refine W_enter d10 ?_
  show W _ (.code m10_code [.sc (.str s), undefA, undefA, undefA, undefA, undefA, undefA, undefA, undefA, undefA, undefA, undefA, undefA, undefA, undefA, undefA, undefA, undefA, undefA, undefA, undefA, undefA, undefA, undefA, undefA, undefA, undefA, undefA, undefA, undefA, undefA, undefA, undefA, undefA, undefA, undefA, undefA] _) _
  unfold m10_code
  repeat' (first
    | (refine K_ops ?_; first
      | refine W_fastB rfl ?_
      | refine W_nil ?_
      | (refine W_allocS hs ?_; clear hs; intro al _ hs; try simp only [setS] at hs; refine W_norm rfl ?_)
    )
    | (refine K_code ?_; first
      | refine W_seq ?_
      | refine W_ops ?_
      | refine W_block ?_
    )
    | refine seqK_n ?_)
  generalize hai : al = ai at *
  refine W_loopB [3, 5, 6, 7, 12, 13, 14, 15, 16, 17, 18, 19, 20, 21, 22, 23, 24, 25, 26] [0, 1, 2, 3, 4, 5, 6, 7, 8, 9, 10, 11, 12, 13, 14, 15, 16, 17, 18, 19, 20, 21, 22, 23, 24, 25, 26, 27, 28, 29, 30, 31, 32, 33, 34, 35, 36] (fun n' sl h' => ∃ (i : Nat) (u : SV) (c : Hp), sl = [(3, .sc u), (12, i64 (i : Int))] ∧ n' = s.length - i ∧ i ≤ s.length ∧ AccS (intEl .i32) 21 u (runP dec0 (s.take i)).2 c ∧ Sep (Now h) [[(ai, .cells 49 .own (encD (runP dec0 (s.take i)).1))], c] h') ?_ ?_
  · refine ⟨_, _, ⟨0, .nils, [], rfl, rfl, Nat.zero_le _, AccS.nil _, hs.nil.front 1 rfl⟩, EnvB.of rfl⟩
  clear hs
  rintro _ _ us _ h2 ⟨i, u, c, rfl, rfl, hi, ha, hs⟩ he
  refine W_spell he rfl ?_
  clear he
  unfold m10_l4
  have hlen := runP_len dec0 (s.take i)
  have htk : (s.take i).length ≤ i := by rw [List.length_take]; omega
  have hok := run_ok (s.take i)
  by_cases hlt : i < s.length
  · have hb : 0 ≤ ((s.getD (i : Int).toNat 0).toNat : Int) ∧ ((s.getD (i : Int).toNat 0).toNat : Int) < 256 := by have := (s.getD (i : Int).toNat 0).toNat_lt; omega
    have hbl := byteL_len (runP dec0 (s.take i)).1 ((s.getD (i : Int).toNat 0).toNat : Int)
    have hrp := runP_take (d := dec0) hlt
    repeat' (first
      | (refine K_ops ?_; first
        | refine W_fastB rfl ?_
        | refine W_nil ?_
        | (refine W_sliceArrTo (hs.at1 0 rfl) rfl rfl ⟨by omega, by omega, by omega⟩ ?_; refine W_norm rfl ?_)
        | (refine W_appS hs 2 rfl rfl (by assumption) rfl (SlR.of (arr_sl (hs.at1 0 rfl) hbl)) rfl ⟨by decide, by omega⟩ ?_; clear hs; intro v6 c6 h6 ha6 hs; try simp only [List.set_cons_zero, List.set_cons_succ] at hs; refine W_norm rfl ?_)
        | (refine K_call ?_; first
          | (refine W_callsN 23 rfl (w23s hs hb hok) rfl ?_; rintro _ h ⟨rfl, hs2⟩; replace hs := hs2; clear hs2; unfold outA; refine W_norm rfl ?_)
        )
        | (refine K_bin ?_; first
          | (refine W_add rfl rfl (IntWalk.i64_in _ (by first | omega | (simp only [lenS]; omega))) ?_; refine W_norm rfl ?_)
        )
        | (refine K_store ?_; first
          | (refine W_storeC hs 0 rfl rfl rfl rfl (by first | decide | assumption) rfl rfl ?_; clear hs; intro _ hs; try simp only [setS] at hs; refine W_norm rfl ?_)
        )
        | (refine W_allocS hs ?_; clear hs; intro al _ hs; try simp only [setS] at hs; refine W_norm rfl ?_)
        | (refine W_idxStr rfl rfl ⟨(by first | omega | (simp only [lenS]; omega)), (by first | omega | (simp only [lenS]; omega))⟩ ?_; refine W_norm rfl ?_)
      )
      | (refine K_code ?_; first
        | refine W_seq ?_
        | refine W_ops ?_
        | (refine W_cond rfl (fun hc => ?_) (fun hc => ?_) <;> (try rw [hc]) <;> (try simp only [cleanS, reduceCtorEq] at hc) <;> (try (exfalso; omega)) <;> (try refine W_norm rfl ?_))
        | refine W_skip ?_
        | refine W_block ?_
      )
      | refine seqK_n ?_
      | refine blockK_n ?_
      | refine invK_n ?_)
    refine ⟨_, ?_, _, ⟨i + 1, v6, c6, rfl, rfl, ?_, ?_, ?_⟩, EnvB.of rfl⟩
    · omega
    · omega
    · rw [hrp]; exact ha6
    · rw [hrp]; exact hs.drop 0
  · obtain rfl : i = s.length := by omega
    rw [List.take_length] at ha hs hlen
    have hal : allP s = (runP dec0 s).2 ++ tailP (runP dec0 s).1 := rfl
    rw [hal]
    by_cases hz : (runP dec0 s).1.kept = 0
    · have he1 : endL (runP dec0 s).1 = (0, false) := by unfold endL; rw [if_pos hz]
      repeat' (first
        | (refine K_ops ?_; first
          | refine W_fastB rfl ?_
          | refine W_nil ?_
          | (refine K_call ?_; first
            | (refine W_callsN 24 rfl (w24s hs) rfl ?_; rintro _ h ⟨rfl, hs2⟩; replace hs := hs2; clear hs2; rw [he1]; refine W_norm rfl ?_)
          )
        )
        | (refine K_code ?_; first
          | refine W_seq ?_
          | refine W_ops ?_
          | refine W_cond_f rfl ?_
          | (refine W_cond rfl (fun hc => ?_) (fun hc => ?_) <;> (try rw [hc]) <;> (try simp only [cleanS, reduceCtorEq] at hc) <;> (try (exfalso; omega)) <;> (try refine W_norm rfl ?_))
          | refine W_skip ?_
          | refine W_ret ?_
          | refine W_exit ?_
        )
        | refine seqK_n ?_
        | refine seqK_x ?_
        | refine blockK_e ?_
        | refine invK_x ?_
        | (refine fnK_r rfl ?_; try dsimp only [gd_z, gd_s]))
      all_goals first
        | (refine ⟨_, rfl, _, _, rfl, ?_, hs.drop 0⟩; unfold tailP; rw [if_pos hz, List.append_nil]; exact ha)
        | skip
    · have he1 : endL (runP dec0 s).1 = (65533, true) := by unfold endL; rw [if_neg hz]
      repeat' (first
        | (refine K_ops ?_; first
          | refine W_fastB rfl ?_
          | refine W_nil ?_
          | (refine K_call ?_; first
            | (refine W_callsN 24 rfl (w24s hs) rfl ?_; rintro _ h ⟨rfl, hs2⟩; replace hs := hs2; clear hs2; rw [he1]; refine W_norm rfl ?_)
          )
          | (refine K_bslice ?_; first
            | (refine W_appB1 (intEl .i32) hs 1 rfl rfl rfl (by assumption) rfl rfl rfl ⟨by decide, (by first | omega | (simp only [lenS]; omega))⟩ ?_; clear hs; intro _ _ _ _ _ hs; try simp only [setS] at hs; refine W_norm rfl ?_)
          )
        )
        | (refine K_code ?_; first
          | refine W_seq ?_
          | refine W_ops ?_
          | refine W_cond_t rfl ?_
          | (refine W_cond rfl (fun hc => ?_) (fun hc => ?_) <;> (try rw [hc]) <;> (try simp only [cleanS, reduceCtorEq] at hc) <;> (try (exfalso; omega)) <;> (try refine W_norm rfl ?_))
          | refine W_ret ?_
          | refine W_exit ?_
        )
        | refine seqK_n ?_
        | refine seqK_x ?_
        | refine blockK_e ?_
        | refine invK_x ?_
        | (refine fnK_r rfl ?_; try dsimp only [gd_z, gd_s]))
      rename_i ha9
      refine ⟨_, rfl, _, _, rfl, ?_, hs.drop 0⟩
      unfold tailP; rw [if_neg hz]; exact ha9

/-- A title made clean. -/
def cleanL (s : List UInt8) : List UInt8 := ((ncl (allP s)).take 32).flatMap utf8
theorem min_take {α : Type} (L : List α) (k : Nat) : L.take (min (L.length : Int) (k : Int)).toNat = L.take k := by
  rcases Nat.le_total L.length k with h | h
  · rw [List.take_of_length_le (by omega), List.take_of_length_le h]
  · congr 1; omega
theorem w11 {h : Heap} {s : List UInt8} (hl : s.length ≤ 20000) : Wc DD 11 [.sc (.str s)] h fun v h' => v = .sc (.str (cleanL s)) ∧ Sep (Now h) [] h' := by
  have hs := Sep.entry h
  have hal := allP_len s
  refine W_enter d11 ?_
  show W _ (.code m11_code [.sc (.str s), undefA, undefA, undefA, undefA, undefA, undefA, undefA, undefA, undefA, undefA, undefA, undefA] _) _
  unfold m11_code
  repeat' (first
    | (refine K_ops ?_; first
      | refine W_fastB rfl ?_
      | refine W_nil ?_
      | (refine W_runesStr (by assumption) rfl ?_; refine W_norm rfl ?_)
      | (refine K_call ?_; first
        | (refine W_callsN 10 rfl (w10o (s := s) hl) rfl ?_; rintro _ h ⟨u, c, rfl, ha, t⟩; replace hs := hs.call t; try simp only [setS] at hs; refine W_norm rfl ?_)
        | (refine W_callsN 25 rfl (w25 hs ha.1 (by omega)) rfl ?_; rintro _ h ⟨u2, c2, rfl, hp, hs2⟩; replace hs := hs2; clear hs2; have hu := hp.now hs (by simp); refine W_norm rfl ?_)
      )
      | (refine W_lenL rfl (by first | assumption | exact SlR.ln (by assumption) | exact AccS.ln (by assumption) | exact OwnS.ln (by assumption) | exact VwO.ln (by assumption) | exact OwnP.ln (by assumption) | exact Len.sl) ?_; refine W_norm rfl ?_)
      | (refine K_slice ?_; first
        | (refine W_sliceRTo rfl rfl (by assumption) rfl ⟨(by first | omega | (simp only [lenS]; omega)), (by first | omega | (simp only [lenS]; omega))⟩ ?_; intro _ _; refine W_norm rfl ?_)
      )
      | (refine W_min2 rfl rfl ?_; refine W_norm rfl ?_)
    )
    | (refine K_code ?_; first
      | refine W_seq ?_
      | refine W_ops ?_
      | refine W_ret ?_
    )
    | refine seqK_n ?_
    | (refine fnK_r rfl ?_; try dsimp only [gd_z, gd_s]))
  have e32 : (ncl (allP s)).take (min ((ncl (allP s)).length : Int) 32).toNat = (ncl (allP s)).take 32 := min_take _ 32
  rw [e32]
  exact ⟨_, rfl, rfl, hs.drop 0⟩
end Go.Proofs.YtggkbkbhegcbkaaDoor
