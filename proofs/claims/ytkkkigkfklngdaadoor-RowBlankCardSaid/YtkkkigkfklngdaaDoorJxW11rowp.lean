/- Rows, plain: what is whole. -/
import Derived.Test.YtkkkigkfklngdaaDoorJxW11row3
set_option linter.unusedSimpArgs false
set_option linter.unusedVariables false
namespace Go.Proofs.YtkkkigkfklngdaaDoor
open Go Go.Jx

/-- Each column that is a second one stands behind a first one, and so on. -/
def W3 (L : List Cell) : Prop := ∀ (i : Nat) (c : Cell), L[i]? = some c → c.w = 0 ∨ (c.w = 1 ∧ ∃ d, L[i + 1]? = some d ∧ d.w = 2) ∨ (c.w = 2 ∧ ∃ j d, i = j + 1 ∧ L[j]? = some d ∧ d.w = 1)

theorem W3_0 {c : Cell} {L : List Cell} (h : c.w = 0) : W3 (c :: L) ↔ W3 L := by
  constructor
  · intro k i x hx
    rcases k (i + 1) x hx with h1 | ⟨h1, d, h2, h3⟩ | ⟨h1, j, d, h2, h3, h4⟩
    · exact .inl h1
    · exact .inr (.inl ⟨h1, d, h2, h3⟩)
    · cases j with
      | zero => simp at h3; subst h3; omega
      | succ j => exact .inr (.inr ⟨h1, j, d, by omega, by simpa using h3, h4⟩)
  · intro k i x hx
    cases i with
    | zero => simp at hx; subst hx; exact .inl h
    | succ i =>
      rcases k i x (by simpa using hx) with h1 | ⟨h1, d, h2, h3⟩ | ⟨h1, j, d, h2, h3, h4⟩
      · exact .inl h1
      · exact .inr (.inl ⟨h1, d, by simpa using h2, h3⟩)
      · exact .inr (.inr ⟨h1, j + 1, d, by omega, by simpa using h3, h4⟩)
theorem W3_12 {c d : Cell} {L : List Cell} (h : c.w = 1) (h' : d.w = 2) : W3 (c :: d :: L) ↔ W3 L := by
  constructor
  · intro k i x hx
    rcases k (i + 2) x hx with h1 | ⟨h1, d, h2, h3⟩ | ⟨h1, j, e, h2, h3, h4⟩
    · exact .inl h1
    · exact .inr (.inl ⟨h1, d, h2, h3⟩)
    · obtain rfl : j = i + 1 := by omega
      cases i with
      | zero => simp at h3; subst h3; omega
      | succ i => exact .inr (.inr ⟨h1, i, e, rfl, by simpa using h3, h4⟩)
  · intro k i x hx
    match i, hx with
    | 0, hx => simp at hx; subst hx; exact .inr (.inl ⟨h, d, rfl, h'⟩)
    | 1, hx => simp at hx; subst hx; exact .inr (.inr ⟨h', 0, c, rfl, rfl, h⟩)
    | i + 2, hx =>
      rcases k i x (by simpa using hx) with h1 | ⟨h1, d, h2, h3⟩ | ⟨h1, j, d, h2, h3, h4⟩
      · exact .inl h1
      · exact .inr (.inl ⟨h1, d, by simpa using h2, h3⟩)
      · exact .inr (.inr ⟨h1, j + 2, d, by omega, by simpa using h3, h4⟩)
theorem W3_head {c : Cell} {L : List Cell} (k : W3 (c :: L)) : c.w = 0 ∨ (c.w = 1 ∧ ∃ d L', L = d :: L' ∧ d.w = 2) := by
  rcases k 0 c rfl with h1 | ⟨h1, d, h2, h3⟩ | ⟨h1, j, d, h2, h3, h4⟩
  · exact .inl h1
  · cases L with
    | nil => simp at h2
    | cons e L => simp at h2; subst h2; exact .inr ⟨h1, _, _, rfl, h3⟩
  · omega
theorem wholeB_iff : ∀ L : List Cell, wholeB L = true ↔ W3 L
  | [] => by simp [wholeB, W3]
  | [c] => by
    show (c.w == 0) = true ↔ _
    rw [beq_iff_eq]
    constructor
    · intro h; exact (W3_0 h).2 (by simp [W3])
    · intro k
      rcases W3_head k with h | ⟨_, d, L', h, _⟩
      · exact h
      · cases h
  | c :: d :: L => by
    unfold wholeB
    by_cases h : c.w = 0
    · rw [if_pos h, wholeB_iff (d :: L), W3_0 h]
    · rw [if_neg h]
      simp only [Bool.and_eq_true, beq_iff_eq]
      constructor
      · rintro ⟨⟨h1, h2⟩, h3⟩
        exact (W3_12 h1 h2).2 ((wholeB_iff L).1 h3)
      · intro k
        rcases W3_head k with h1 | ⟨h1, e, L', h2, h3⟩
        · exact absurd h1 h
        · cases h2
          exact ⟨⟨h1, h3⟩, (wholeB_iff L).2 ((W3_12 h1 h3).1 k)⟩

theorem W3_append {A B : List Cell} (hA : W3 A) (hB : W3 B) : W3 (A ++ B) := by
  intro i c hc
  by_cases hi : i < A.length
  · rw [List.getElem?_append_left hi] at hc
    rcases hA i c hc with h1 | ⟨h1, d, h2, h3⟩ | ⟨h1, j, d, h2, h3, h4⟩
    · exact .inl h1
    · exact .inr (.inl ⟨h1, d, by rw [List.getElem?_append_left (List.getElem?_eq_some_iff.1 h2).1]; exact h2, h3⟩)
    · exact .inr (.inr ⟨h1, j, d, h2, by rw [List.getElem?_append_left (List.getElem?_eq_some_iff.1 h3).1]; exact h3, h4⟩)
  · rw [List.getElem?_append_right (by omega)] at hc
    rcases hB _ c hc with h1 | ⟨h1, d, h2, h3⟩ | ⟨h1, j, d, h2, h3, h4⟩
    · exact .inl h1
    · exact .inr (.inl ⟨h1, d, by rw [List.getElem?_append_right (by omega), show i + 1 - A.length = i - A.length + 1 by omega]; exact h2, h3⟩)
    · exact .inr (.inr ⟨h1, A.length + j, d, by omega, by rw [List.getElem?_append_right (by omega), show A.length + j - A.length = j by omega]; exact h3, h4⟩)
theorem W3_blanks (n : Nat) (a : Attr) : W3 (List.replicate n (blankC a)) := by
  intro i c hc
  rw [List.getElem?_replicate] at hc
  split at hc
  · cases hc; exact .inl rfl
  · cases hc

/-- No character stands on both sides of a column. -/
def Cut (L : List Cell) (x : Nat) : Prop := ∀ c : Cell, L[x]? = some c → c.w ≠ 2
theorem W3_take {L : List Cell} {x : Nat} (h : W3 L) (hc : Cut L x) : W3 (L.take x) := by
  intro i c hi
  rw [List.getElem?_take] at hi
  split at hi
  · rename_i hx
    rcases h i c hi with h1 | ⟨h1, d, h2, h3⟩ | ⟨h1, j, d, h2, h3, h4⟩
    · exact .inl h1
    · have : i + 1 ≠ x := by rintro rfl; exact hc d h2 h3
      exact .inr (.inl ⟨h1, d, by rw [List.getElem?_take_of_lt (by omega)]; exact h2, h3⟩)
    · exact .inr (.inr ⟨h1, j, d, h2, by rw [List.getElem?_take_of_lt (by omega)]; exact h3, h4⟩)
  · cases hi
theorem W3_drop {L : List Cell} {x : Nat} (h : W3 L) (hc : Cut L x) : W3 (L.drop x) := by
  intro i c hi
  rw [List.getElem?_drop] at hi
  rcases h _ c hi with h1 | ⟨h1, d, h2, h3⟩ | ⟨h1, j, d, h2, h3, h4⟩
  · exact .inl h1
  · exact .inr (.inl ⟨h1, d, by rw [List.getElem?_drop, ← Nat.add_assoc]; exact h2, h3⟩)
  · cases i with
    | zero => exact absurd h1 (hc c hi)
    | succ i =>
      obtain rfl : j = x + i := by omega
      exact .inr (.inr ⟨h1, i, d, rfl, by rw [List.getElem?_drop]; exact h3, h4⟩)
theorem partL_cut {L : List Cell} {x : Int} (hx : 0 ≤ x) (h : W3 L) : Cut (partL L x) x.toNat := by
  intro c hc
  rw [partL_get] at hc
  split at hc
  · rename_i hp
    rw [Option.map_eq_some_iff] at hc
    obtain ⟨d, _, rfl⟩ := hc
    simp [blankC]
  · rename_i hp
    intro h2
    have hlt := (List.getElem?_eq_some_iff.1 hc).1
    rcases h _ c hc with h1 | ⟨h1, _⟩ | ⟨h1, j, d, h3, _⟩
    · omega
    · omega
    · exact hp ⟨by omega, by omega, by rw [List.getD_eq_getElem?_getD, hc]; exact h2, .inl rfl⟩
theorem partL_keep {L : List Cell} {x : Int} {y : Nat} (h : Cut L y) : Cut (partL L x) y := by
  intro c hc
  rw [partL_get] at hc
  split at hc
  · rw [Option.map_eq_some_iff] at hc
    obtain ⟨d, _, rfl⟩ := hc
    simp [blankC]
  · exact h c hc
theorem partL_whole {L : List Cell} {x : Int} (h : W3 L) : W3 (partL L x) := by
  by_cases hp : 0 < x ∧ x < L.length ∧ (L.getD x.toNat cell0).w = 2
  · obtain ⟨h0, h1, h2⟩ := hp
    have hx : L[x.toNat]? = some (L.getD x.toNat cell0) := getD_get? (by omega)
    have key : ∀ i c, (partL L x)[i]? = some c → (i = x.toNat ∨ i = (x - 1).toNat) → c.w = 0 := by
      intro i c hc hi
      rw [partL_get, if_pos ⟨h0, h1, h2, hi⟩, Option.map_eq_some_iff] at hc
      obtain ⟨d, _, rfl⟩ := hc; rfl
    have old : ∀ i, ¬ (i = x.toNat ∨ i = (x - 1).toNat) → (partL L x)[i]? = L[i]? := by
      intro i hi
      rw [partL_get, if_neg (fun hh => hi hh.2.2.2)]
    have hw1 : (L.getD (x - 1).toNat cell0).w = 1 := by
      rcases h _ _ hx with g | ⟨g, _⟩ | ⟨g, j, d, g1, g2, g3⟩
      · omega
      · omega
      · have : j = (x - 1).toNat := by omega
        subst this
        rw [List.getD_eq_getElem?_getD, g2]; exact g3
    intro i c hc
    by_cases hi : i = x.toNat ∨ i = (x - 1).toNat
    · exact .inl (key i c hc hi)
    · rw [old i hi] at hc
      rcases h i c hc with g | ⟨g, d, g1, g2⟩ | ⟨g, j, d, g1, g2, g3⟩
      · exact .inl g
      · refine .inr (.inl ⟨g, d, ?_, g2⟩)
        rw [old]
        · exact g1
        · rintro (e | e)
          · omega
          · rw [e] at g1
            rw [List.getD_eq_getElem?_getD, g1] at hw1
            have : d.w = 1 := hw1
            omega
      · refine .inr (.inr ⟨g, j, d, g1, ?_, g3⟩)
        rw [old]
        · exact g2
        · rintro (e | e)
          · rw [e] at g2
            rw [hx] at g2
            cases g2
            omega
          · omega
  · unfold partL
    rw [if_neg hp]; exact h

theorem insertL_whole {L : List Cell} {x n : Int} {a : Attr} (h : W3 L) : W3 (insertL L x n a) := by
  unfold insertL
  split
  · exact h
  · rename_i hk
    have hr := roomL_spec L.length x n
    have c1 := partL_keep (x := L.length - roomL L.length x n) (partL_cut (x := x) (by omega) h)
    have w1 := partL_whole (x := L.length - roomL L.length x n) (partL_whole (x := x) h)
    have c2 := partL_cut (x := L.length - roomL L.length x n) (by omega) (partL_whole (x := x) h)
    simp only
    refine W3_append (W3_append (W3_take w1 c1) (W3_blanks _ _)) (W3_take (W3_drop w1 c1) ?_)
    intro c hc
    rw [List.getElem?_drop] at hc
    exact c2 c (by rw [← hc]; congr 1; omega)
theorem deleteL_whole {L : List Cell} {x n : Int} {a : Attr} (h : W3 L) : W3 (deleteL L x n a) := by
  unfold deleteL
  split
  · exact h
  · rename_i hk
    have hr := roomL_spec L.length x n
    have c1 := partL_keep (x := x + roomL L.length x n) (partL_cut (x := x) (by omega) h)
    have w1 := partL_whole (x := x + roomL L.length x n) (partL_whole (x := x) h)
    have c2 := partL_cut (x := x + roomL L.length x n) (by omega) (partL_whole (x := x) h)
    rw [show (x + roomL L.length x n).toNat = x.toNat + (roomL L.length x n).toNat by omega] at c2
    simp only
    exact W3_append (W3_append (W3_take w1 c1) (W3_drop w1 c2)) (W3_blanks _ _)
theorem eraseL_whole {L : List Cell} {x n : Int} {a : Attr} (h : W3 L) : W3 (eraseL L x n a) := by
  unfold eraseL
  split
  · exact h
  · rename_i hk
    have hr := roomL_spec L.length x n
    have c1 := partL_keep (x := x + roomL L.length x n) (partL_cut (x := x) (by omega) h)
    have w1 := partL_whole (x := x + roomL L.length x n) (partL_whole (x := x) h)
    have c2 := partL_cut (x := x + roomL L.length x n) (by omega) (partL_whole (x := x) h)
    rw [show (x + roomL L.length x n).toNat = x.toNat + (roomL L.length x n).toNat by omega] at c2
    simp only
    exact W3_append (W3_append (W3_take w1 c1) (W3_blanks _ _)) (W3_drop w1 c2)
theorem resizeL_whole {L : List Cell} {n : Int} {a : Attr} (h : W3 L) : W3 (resizeL L n a) := by
  unfold resizeL
  split
  · exact h
  · split
    · exact W3_take (partL_whole h) (partL_cut (by omega) h)
    · exact W3_append h (W3_blanks _ _)
theorem resizeL_length (L : List Cell) (n : Int) (a : Attr) : (resizeL L n a).length = if 1 ≤ n ∧ n ≤ 400 then n.toNat else L.length := by
  unfold resizeL
  by_cases h1 : n < 1 ∨ 400 < n
  · rw [if_pos h1, if_neg (by omega)]
  · rw [if_neg h1, if_pos (show 1 ≤ n ∧ n ≤ 400 by omega)]
    by_cases h2 : n ≤ L.length
    · rw [if_pos h2, List.length_take, partL_length]; omega
    · rw [if_neg h2, List.length_append, List.length_replicate]; omega
theorem writeL_length (L : List Cell) (x r : Int) (w : Bool) (a : Attr) : (writeL L x r w a).length = L.length := by
  unfold writeL
  split <;> simp [partL_length]
theorem writeL_whole {L : List Cell} {x r : Int} {w : Bool} {a : Attr} (hx : 0 ≤ x ∧ x + (if w then 2 else 1) ≤ L.length) (h : W3 L) : W3 (writeL L x r w a) := by
  unfold writeL
  cases w
  · simp only [Bool.false_eq_true, if_false] at hx ⊢
    have c1 := partL_keep (x := x + 1) (partL_cut (x := x) (by omega) h)
    have w1 := partL_whole (x := x + 1) (partL_whole (x := x) h)
    have c2 := partL_cut (x := x + 1) (by omega) (partL_whole (x := x) h)
    rw [show (x + 1).toNat = x.toNat + 1 by omega] at c2
    rw [List.set_eq_take_append_cons_drop, if_pos (by simp only [partL_length]; omega)]
    exact W3_append (W3_take w1 c1) ((W3_0 rfl).2 (W3_drop w1 c2))
  · simp only [if_true] at hx ⊢
    have c1 := partL_keep (x := x + 2) (partL_cut (x := x) (by omega) h)
    have w1 := partL_whole (x := x + 2) (partL_whole (x := x) h)
    have c2 := partL_cut (x := x + 2) (by omega) (partL_whole (x := x) h)
    rw [show (x + 2).toNat = x.toNat + 2 by omega] at c2
    have hlen : (partL (partL L x) (x + 2)).length = L.length := by simp only [partL_length]
    generalize partL (partL L x) (x + 2) = P at *
    rw [set2_eq (by omega), List.append_assoc]
    exact W3_append (W3_take w1 c1) ((W3_12 (by rfl) (by rfl)).2 (W3_drop w1 c2))
end Go.Proofs.YtkkkigkfklngdaaDoor
