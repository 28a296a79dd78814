/- Reflow: what the reference computes, in plain Lean. -/
import Derived.Test.YtllhbhhgihdakaaDoorJxW15plain
set_option linter.unusedSimpArgs false
set_option linter.unusedVariables false
namespace Go.Proofs.YtllhbhhgihdakaaDoor
open Go Go.Jx

theorem posGo_shift (w : Nat) : ∀ (cs : List Cell) (n k : Nat), posGo w n k cs = (posGo w n 0 cs).map fun p => (p.1, p.2 + k) := by
  intro cs
  induction cs with
  | nil => intros; rfl
  | cons c cs ih =>
    intro n k
    have key : ∀ n k d : Nat, posGo w n (d + k) cs = (posGo w n d cs).map fun p => (p.1, p.2 + k) := by
      intro n k d
      rw [ih n (d + k), ih n d, List.map_map]
      refine List.map_congr_left fun p _ => ?_
      simp only [Function.comp]; congr 1; omega
    unfold posGo
    split
    · rw [List.map_cons, show k + 1 = 0 + 1 + k by omega, key 1 k (0 + 1)]
    · rw [List.map_cons]
      have := key (n + 1) k 0
      rw [Nat.zero_add] at this
      rw [this, Nat.zero_add]
theorem posGo_getD {w k i : Nat} {cs : List Cell} (h : i < cs.length) : (posGo w 0 k cs).getD i (0, 0) = (((posGo w 0 0 cs).getD i (0, 0)).1, ((posGo w 0 0 cs).getD i (0, 0)).2 + k) := by
  have h1 : i < (posGo w 0 0 cs).length := by rw [posGo_len]; exact h
  rw [posGo_shift w cs 0 k, List.getD_eq_getElem?_getD, List.getElem?_map, List.getD_eq_getElem?_getD, List.getElem?_eq_getElem h1]; rfl
theorem lastN_eq (w : Nat) : ∀ (cs : List Cell) (n k : Nat), cs ≠ [] → lastN w n cs = ((posGo w n k cs).getD (cs.length - 1) (0, 0)).1 + 1 := by
  intro cs
  induction cs with
  | nil => intro n k h; exact absurd rfl h
  | cons c cs ih =>
    intro n k _
    unfold lastN posGo
    cases cs with
    | nil => split <;> simp [lastN, posGo]
    | cons d cs =>
      split
      · rw [ih 1 (k + 1) (by simp)]; simp
      · rw [ih (n + 1) k (by simp)]; simp

theorem posGo_bound (w : Nat) (hw : 1 ≤ w) : ∀ (cs : List Cell) (n k : Nat), n ≤ w → ∀ p ∈ posGo w n k cs, p.1 < w ∧ p.2 ≤ k + cs.length := by
  intro cs
  induction cs with
  | nil => intro n k _ p hp; simp [posGo] at hp
  | cons c cs ih =>
    intro n k hn p hp
    unfold posGo at hp
    split at hp
    · rcases List.mem_cons.1 hp with rfl | hp
      · simp; omega
      · have := ih 1 (k + 1) hw p hp
        simp only [List.length_cons]; omega
    · rename_i hh
      have hne : n ≠ w := fun e => hh (.inr e)
      rcases List.mem_cons.1 hp with rfl | hp
      · simp; omega
      · have := ih (n + 1) k (by omega) p hp
        simp only [List.length_cons]; omega
/-- The paragraph that a line is in. -/
def paraN (l : List Ln) (y : Nat) : Nat := (startsL 0 0 (l.take (firstL l y))).length
theorem para_starts {l : List Ln} {y : Nat} {m : Ln} (hm : l[y]? = some m) : (startsL 0 0 l)[paraN l y]? = some (firstL l y) ∧ paraN l y < (startsL 0 0 l).length ∧ (∀ i s, i ≤ paraN l y → (startsL 0 0 l)[i]? = some s → s ≤ y) ∧ ∀ i s, paraN l y < i → (startsL 0 0 l)[i]? = some s → y < s := by
  obtain ⟨S, h1, h2, h3⟩ := starts_at hm
  have hle := firstL_le l y
  unfold paraN
  rw [h1]
  generalize startsL 0 0 (l.take (firstL l y)) = A at *
  refine ⟨by simp, by simp, fun i s hi hs => ?_, fun i s hi hs => ?_⟩
  · rcases Nat.lt_or_ge i A.length with k | k
    · rw [List.getElem?_append_left k] at hs
      have := h2 s (List.mem_of_getElem? hs); omega
    · obtain rfl : i = A.length := by omega
      simp at hs; omega
  · rw [List.getElem?_append_right (by omega)] at hs
    obtain ⟨j, hj⟩ : ∃ j, i - A.length = j + 1 := ⟨i - A.length - 1, by omega⟩
    rw [hj, List.getElem?_cons_succ] at hs
    exact h3 s (List.mem_of_getElem? hs)
theorem para_at {l : List Ln} {y : Nat} {m : Ln} (hm : l[y]? = some m) : (paras [] l)[paraN l y]? = some (headP l y) ∧ (paras [] l).take (paraN l y) = paras [] (l.take (firstL l y)) ∧ (startsL 0 0 l).length = (paras [] l).length := by
  have hy : y < l.length := by
    rcases Nat.lt_or_ge y l.length with h | h
    · exact h
    · rw [List.getElem?_eq_none h] at hm; simp at hm
  obtain ⟨T, P, h1, _⟩ := head_eq hm
  have h2 := paras_split l y hy
  have h3 : paraN l y = (paras [] (l.take (firstL l y))).length := startsL_len _ _ _ _
  rw [h1] at h2
  rw [h2, h3]
  exact ⟨by simp, by simp, by rw [← h2]; exact startsL_len _ _ _ _⟩
theorem rows_at {l : List Ln} {y w : Nat} {m : Ln} (hm : l[y]? = some m) : (((paras [] l).take (paraN l y)).flatMap (linesP w)).length = (linesL (l.take (firstL l y)) w).length := by
  rw [(para_at hm).2.1]; rfl
/-- Where a place is, as the reference computes it. -/
theorem place_ref {l : List Ln} {w x y : Nat} (hw : 2 ≤ w) : placeL l w x y =
    if x + aheadL l y < (headP l y).length then (((posGo w 0 0 (headP l y)).getD (x + aheadL l y) (0, 0)).1, ((posGo w 0 0 (headP l y)).getD (x + aheadL l y) (0, 0)).2 + (linesL (l.take (firstL l y)) w).length)
    else (min ((if headP l y = [] then 0 else ((posGo w 0 0 (headP l y)).getD ((headP l y).length - 1) (0, 0)).1 + 1) + (x + aheadL l y - (headP l y).length)) (w - 1), (linesL (l.take (firstL l y)) w).length + (linesP w (headP l y)).length - 1) := by
  rw [place_eq hw]
  split
  · rename_i h
    rw [posGo_getD h]
  · congr 2
    split
    · rename_i h; rw [h]; rfl
    · rename_i h; rw [lastN_eq w _ 0 0 h]
end Go.Proofs.YtllhbhhgihdakaaDoor
