/- Reflow, in plain Lean: paragraphs and lines. -/
import Derived.Test.YtbkhjpclnfljbaaDoorJxW8
set_option linter.unusedSimpArgs false
set_option linter.unusedVariables false
namespace Go.Proofs.YtbkhjpclnfljbaaDoor
open Go Go.Jx

structure Ln where
  cells : List Cell
  joined : Bool
  short : Bool
def plC : Cell := ⟨32, 0, attr0⟩
def countL (l : Ln) : Nat := if l.joined && l.short then l.cells.length - 1 else l.cells.length
def cutL (l : Ln) : List Cell := l.cells.take (countL l)
def trimP (l : List Cell) : List Cell := (l.reverse.dropWhile (fun c => decide (c = plC))).reverse
def paras : List Cell → List Ln → List (List Cell)
  | _, [] => []
  | acc, [x] => [trimP (acc ++ cutL x)]
  | acc, x :: y :: r => if x.joined then paras (acc ++ cutL x) (y :: r) else trimP (acc ++ cutL x) :: paras [] (y :: r)
def linesGo (w : Nat) : List Cell → List Cell → List Ln
  | at', [] => [⟨at' ++ List.replicate (w - at'.length) plC, false, false⟩]
  | at', c :: cs =>
    if c.w = 1 ∧ at'.length = w - 1 then ⟨at' ++ [plC], true, true⟩ :: linesGo w [c] cs
    else if at'.length = w then ⟨at', true, false⟩ :: linesGo w [c] cs
    else linesGo w (at' ++ [c]) cs
def linesP (w : Nat) (cells : List Cell) : List Ln := linesGo w [] cells
def linesL (l : List Ln) (w : Nat) : List Ln := (paras [] l).flatMap (linesP w)

theorem trimP_rep (l : List Cell) (k : Nat) : trimP (l ++ List.replicate k plC) = trimP l := by
  unfold trimP
  rw [List.reverse_append, List.reverse_replicate]
  congr 1
  induction k with
  | zero => rfl
  | succ k ih => rw [List.replicate_succ, List.cons_append, List.dropWhile_cons, if_pos (by simp)]; exact ih
theorem dropWhile_idem {α : Type} (p : α → Bool) (l : List α) : (l.dropWhile p).dropWhile p = l.dropWhile p := by
  induction l with
  | nil => rfl
  | cons a l ih =>
    rw [List.dropWhile_cons]
    split
    · exact ih
    · rename_i h; rw [List.dropWhile_cons, if_neg h]
theorem trimP_idem (l : List Cell) : trimP (trimP l) = trimP l := by
  unfold trimP; rw [List.reverse_reverse, dropWhile_idem]

theorem linesGo_ne (w : Nat) : ∀ (cs at' : List Cell), linesGo w at' cs ≠ [] := by
  intro cs
  induction cs with
  | nil => intro at'; simp [linesGo]
  | cons c cs ih =>
    intro at'
    unfold linesGo
    split
    · simp
    split
    · simp
    · exact ih _
theorem paras_joined {acc : List Cell} {l : Ln} {r : List Ln} (hj : l.joined = true) (hr : r ≠ []) : paras acc (l :: r) = paras (acc ++ cutL l) r := by
  cases r with
  | nil => exact absurd rfl hr
  | cons y r => rw [paras, if_pos hj]
theorem paras_last {acc : List Cell} {l : Ln} {r : List Ln} (hj : l.joined = false) : paras acc (l :: r) = trimP (acc ++ cutL l) :: paras [] r := by
  cases r with
  | nil => rfl
  | cons y r => rw [paras, if_neg (by rw [hj]; simp)]
theorem app_ne {α : Type} {a b : List α} (h : a ≠ []) : a ++ b ≠ [] := by cases a <;> simp_all
theorem cutL_ff (x : List Cell) (j : Bool) : cutL ⟨x, j, false⟩ = x := by
  unfold cutL countL; simp
theorem cutL_tt (x : List Cell) (c : Cell) : cutL ⟨x ++ [c], true, true⟩ = x := by
  unfold cutL countL; simp

theorem paras_lines (w : Nat) (hw : 2 ≤ w) : ∀ (cs at' acc : List Cell) (rest : List Ln), paras acc (linesGo w at' cs ++ rest) = trimP (acc ++ at' ++ cs) :: paras [] rest := by
  intro cs
  induction cs with
  | nil =>
    intro at' acc rest
    rw [linesGo, List.cons_append, paras_last rfl, cutL_ff, ← List.append_assoc, trimP_rep, List.append_nil]; rfl
  | cons c cs ih =>
    intro at' acc rest
    unfold linesGo
    split
    · rw [List.cons_append, paras_joined rfl (app_ne (linesGo_ne _ _ _)), cutL_tt, ih]; simp
    split
    · rw [List.cons_append, paras_joined rfl (app_ne (linesGo_ne _ _ _)), cutL_ff, ih]; simp
    · rw [ih]; simp
theorem paras_trim : ∀ (l : List Ln) (acc : List Cell), ∀ p ∈ paras acc l, trimP p = p := by
  intro l
  induction l with
  | nil => intro acc p hp; simp [paras] at hp
  | cons x r ih =>
    intro acc p hp
    cases hj : x.joined with
    | false =>
      rw [paras_last hj] at hp
      rcases List.mem_cons.1 hp with rfl | hp
      · exact trimP_idem _
      · exact ih _ _ hp
    | true =>
      cases r with
      | nil => simp only [paras, List.mem_singleton] at hp; rw [hp]; exact trimP_idem _
      | cons y r => rw [paras_joined hj (by simp)] at hp; exact ih _ _ hp
theorem paras_flat (w : Nat) (hw : 2 ≤ w) : ∀ (P : List (List Cell)), (∀ p ∈ P, trimP p = p) → paras [] (P.flatMap (linesP w)) = P := by
  intro P
  induction P with
  | nil => intro _; rfl
  | cons p P ih =>
    intro h
    rw [List.flatMap_cons]
    unfold linesP
    rw [paras_lines w hw]
    have := ih fun q hq => h q (List.mem_cons_of_mem _ hq)
    unfold linesP at this
    rw [this, List.nil_append, List.nil_append, h p (by simp)]
/-- Paragraphs are the same cells at each width. -/
theorem paras_at (l : List Ln) {w : Nat} (hw : 2 ≤ w) : paras [] (linesL l w) = paras [] l := paras_flat w hw _ (paras_trim l [])
theorem lines_twice (l : List Ln) {w : Nat} (hw : 2 ≤ w) (v : Nat) : linesL (linesL l w) v = linesL l v := by
  unfold linesL
  rw [show paras [] ((paras [] l).flatMap (linesP w)) = paras [] l from paras_at l hw]

theorem lines_len {w : Nat} (hw : 2 ≤ w) : ∀ (cs at' : List Cell), at'.length ≤ w → ∀ m ∈ linesGo w at' cs, m.cells.length = w := by
  intro cs
  induction cs with
  | nil =>
    intro at' h m hm
    rw [linesGo, List.mem_singleton] at hm
    subst hm
    simp; omega
  | cons c cs ih =>
    intro at' h m hm
    unfold linesGo at hm
    split at hm
    · rename_i hc
      rcases List.mem_cons.1 hm with rfl | hm
      · simp; omega
      · exact ih _ (by simp; omega) m hm
    split at hm
    · rcases List.mem_cons.1 hm with rfl | hm
      · assumption
      · exact ih _ (by simp; omega) m hm
    · exact ih _ (by simp; omega) m hm
theorem linesL_len {l : List Ln} {w : Nat} (hw : 2 ≤ w) : ∀ m ∈ linesL l w, m.cells.length = w := by
  intro m hm
  obtain ⟨p, _, hm⟩ := List.mem_flatMap.1 hm
  exact lines_len hw p [] (by simp) m hm

/-- Of each cell the column and the line. -/
def posGo (w : Nat) : Nat → Nat → List Cell → List (Nat × Nat)
  | _, _, [] => []
  | n, k, c :: cs => if (c.w = 1 ∧ n = w - 1) ∨ n = w then (0, k + 1) :: posGo w 1 (k + 1) cs else (n, k) :: posGo w (n + 1) k cs
theorem posGo_len (w : Nat) : ∀ (cs : List Cell) (n k : Nat), (posGo w n k cs).length = cs.length := by
  intro cs
  induction cs with
  | nil => intros; rfl
  | cons c cs ih => intro n k; unfold posGo; split <;> simp [ih]
def withinL (total w behind : Nat) : Nat → Nat → List Ln → Nat × Nat
  | _, _, [] => (0, 0)
  | k, y, [x] => if behind < total then (behind - k, y) else (min (total - k + min (behind - total) w) (w - 1), y)
  | k, y, x :: z :: r => if behind < k + countL x then (behind - k, y) else withinL total w behind (k + countL x) (y + 1) (z :: r)
theorem withinL_more {total w behind k y : Nat} {x : Ln} {r : List Ln} (h : r ≠ []) : withinL total w behind k y (x :: r) = if behind < k + countL x then (behind - k, y) else withinL total w behind (k + countL x) (y + 1) r := by
  cases r with
  | nil => exact absurd rfl h
  | cons z r => rfl
theorem countL_ff (x : List Cell) (j : Bool) : countL ⟨x, j, false⟩ = x.length := by unfold countL; simp
theorem countL_tt (x : List Cell) (c : Cell) : countL ⟨x ++ [c], true, true⟩ = x.length := by unfold countL; simp
/-- The last line: how many cells of the paragraph it has. -/
def lastN (w : Nat) : Nat → List Cell → Nat
  | n, [] => n
  | n, c :: cs => if (c.w = 1 ∧ n = w - 1) ∨ n = w then lastN w 1 cs else lastN w (n + 1) cs
theorem within_eq {w : Nat} (hw : 2 ≤ w) (behind : Nat) : ∀ (cs at' : List Cell) (k y : Nat), at'.length ≤ w → k ≤ behind →
    withinL (k + at'.length + cs.length) w behind k y (linesGo w at' cs) =
      if behind < k + at'.length then (behind - k, y) else if behind < k + at'.length + cs.length then (posGo w at'.length y cs).getD (behind - k - at'.length) (0, 0)
      else (min (lastN w at'.length cs + (behind - (k + at'.length + cs.length))) (w - 1), y + (linesGo w at' cs).length - 1) := by
  intro cs
  induction cs with
  | nil =>
    intro at' k y h hk
    rw [linesGo]
    simp only [withinL, List.length_nil, Nat.add_zero, lastN, List.length_cons, posGo]
    split
    · rfl
    · congr 1
      omega
  | cons c cs ih =>
    intro at' k y h hk
    unfold linesGo posGo lastN
    have turn : ∀ (x : Ln), countL x = at'.length → withinL (k + at'.length + (c :: cs).length) w behind k y (x :: linesGo w [c] cs) =
        if behind < k + at'.length then (behind - k, y) else if behind < k + at'.length + (c :: cs).length then ((0, y + 1) :: posGo w 1 (y + 1) cs).getD (behind - k - at'.length) (0, 0)
        else (min (lastN w 1 cs + (behind - (k + at'.length + (c :: cs).length))) (w - 1), y + (x :: linesGo w [c] cs).length - 1) := by
      intro x hx
      rw [withinL_more (linesGo_ne _ _ _), hx]
      by_cases hb : behind < k + at'.length
      · rw [if_pos hb, if_pos hb]
      · have := ih [c] (k + at'.length) (y + 1) (by simp; omega) (by omega)
        simp only [List.length_cons, List.length_nil, Nat.zero_add] at this ⊢
        rw [if_neg hb, if_neg hb, show k + at'.length + (cs.length + 1) = k + at'.length + 1 + cs.length by omega, this]
        by_cases h2 : behind = k + at'.length
        · subst h2
          rw [if_pos (by omega), if_pos (by omega), show k + at'.length - k - at'.length = 0 by omega, show k + at'.length - (k + at'.length) = 0 by omega]; rfl
        · rw [if_neg (by omega)]
          obtain ⟨j, hj⟩ : ∃ j, behind - k - at'.length = j + 1 := ⟨behind - k - at'.length - 1, by omega⟩
          rw [hj, show behind - (k + at'.length) - 1 = j by omega]
          split
          · rfl
          · congr 1; omega
    by_cases h1 : c.w = 1 ∧ at'.length = w - 1
    · rw [if_pos h1]
      simp only [if_pos (Or.inl h1 : (c.w = 1 ∧ at'.length = w - 1) ∨ at'.length = w)]
      exact turn _ (countL_tt _ _)
    · rw [if_neg h1]
      by_cases h2 : at'.length = w
      · rw [if_pos h2]
        simp only [if_pos (Or.inr h2 : (c.w = 1 ∧ at'.length = w - 1) ∨ at'.length = w)]
        exact turn _ (countL_ff _ _)
      · rw [if_neg h2]
        simp only [if_neg (show ¬((c.w = 1 ∧ at'.length = w - 1) ∨ at'.length = w) by rintro (h | h) <;> contradiction)]
        have := ih (at' ++ [c]) k y (by simp; omega) hk
        simp only [List.length_append, List.length_cons, List.length_nil, Nat.zero_add] at this ⊢
        rw [show k + at'.length + (cs.length + 1) = k + (at'.length + 1) + cs.length by omega, this]
        by_cases h3 : behind = k + at'.length
        · subst h3
          rw [if_pos (by omega), if_neg (by omega), if_pos (by omega), show k + at'.length - k - at'.length = 0 by omega, show k + at'.length - k = at'.length by omega]; rfl
        · by_cases h4 : behind < k + at'.length
          · rw [if_pos (by omega), if_pos (by omega)]
          · obtain ⟨j, hj⟩ : ∃ j, behind - k - at'.length = j + 1 := ⟨behind - k - at'.length - 1, by omega⟩
            rw [if_neg (by omega), if_neg h4, hj, show behind - k - (at'.length + 1) = j by omega]
            rfl

/-- A cell stands where it is said to stand. -/
theorem pos_at {w : Nat} (hw : 2 ≤ w) : ∀ (cs at' : List Cell) (y : Nat), at'.length ≤ w → (∀ j, j < at'.length → ∃ m, (linesGo w at' cs)[0]? = some m ∧ m.cells[j]? = at'[j]?) ∧
    ∀ (i u v : Nat), (posGo w at'.length y cs)[i]? = some (u, v) → y ≤ v ∧ ∃ m, (linesGo w at' cs)[v - y]? = some m ∧ m.cells[u]? = cs[i]? := by
  intro cs
  induction cs with
  | nil =>
    intro at' y h
    refine ⟨fun j hj => ⟨_, rfl, ?_⟩, fun i u v hh => by simp [posGo] at hh⟩
    rw [List.getElem?_append_left hj]
  | cons c cs ih =>
    intro at' y h
    unfold linesGo posGo
    have turn : ∀ (x : Ln), (∀ j, j < at'.length → x.cells[j]? = at'[j]?) → (∀ j, j < at'.length → ∃ m, (x :: linesGo w [c] cs)[0]? = some m ∧ m.cells[j]? = at'[j]?) ∧
        ∀ (i u v : Nat), ((0, y + 1) :: posGo w 1 (y + 1) cs)[i]? = some (u, v) → y ≤ v ∧ ∃ m, (x :: linesGo w [c] cs)[v - y]? = some m ∧ m.cells[u]? = (c :: cs)[i]? := by
      intro x hx
      obtain ⟨a1, a2⟩ := ih [c] (y + 1) (by simp; omega)
      refine ⟨fun j hj => ⟨x, rfl, hx j hj⟩, fun i u v hh => ?_⟩
      cases i with
      | zero =>
        simp only [List.getElem?_cons_zero, Option.some.injEq, Prod.mk.injEq] at hh
        obtain ⟨rfl, rfl⟩ := hh
        obtain ⟨m, m1, m2⟩ := a1 0 (by simp)
        exact ⟨by omega, m, by rw [show y + 1 - y = 0 + 1 by omega, List.getElem?_cons_succ]; exact m1, m2⟩
      | succ i =>
        rw [List.getElem?_cons_succ] at hh
        obtain ⟨b1, m, m1, m2⟩ := a2 i u v hh
        exact ⟨by omega, m, by rw [show v - y = (v - (y + 1)) + 1 by omega, List.getElem?_cons_succ]; exact m1, by rw [List.getElem?_cons_succ]; exact m2⟩
    by_cases h1 : c.w = 1 ∧ at'.length = w - 1
    · rw [if_pos h1, if_pos (Or.inl h1)]
      exact turn _ fun j hj => by rw [List.getElem?_append_left hj]
    · rw [if_neg h1]
      by_cases h2 : at'.length = w
      · rw [if_pos h2, if_pos (Or.inr h2)]
        exact turn _ fun j hj => rfl
      · rw [if_neg h2, if_neg (by rintro (h | h) <;> contradiction)]
        obtain ⟨a1, a2⟩ := ih (at' ++ [c]) y (by simp; omega)
        refine ⟨fun j hj => ?_, fun i u v hh => ?_⟩
        · obtain ⟨m, m1, m2⟩ := a1 j (by simp; omega)
          exact ⟨m, m1, by rw [m2, List.getElem?_append_left hj]⟩
        · cases i with
          | zero =>
            simp only [List.getElem?_cons_zero, Option.some.injEq, Prod.mk.injEq] at hh
            obtain ⟨rfl, rfl⟩ := hh
            obtain ⟨m, m1, m2⟩ := a1 at'.length (by simp)
            exact ⟨Nat.le_refl _, m, by rw [Nat.sub_self]; exact m1, by rw [m2]; simp⟩
          | succ i =>
            rw [List.getElem?_cons_succ] at hh
            rw [show (at' ++ [c]).length = at'.length + 1 by simp] at a2
            obtain ⟨b1, m, m1, m2⟩ := a2 i u v hh
            exact ⟨b1, m, m1, by rw [List.getElem?_cons_succ]; exact m2⟩

/-! ## paragraphs of a part of the lines -/
theorem paras_run : ∀ (A : List Ln) (acc : List Cell) (r : List Ln), (∀ x ∈ A, x.joined = true) → r ≠ [] → paras acc (A ++ r) = paras (acc ++ A.flatMap cutL) r := by
  intro A
  induction A with
  | nil => intro acc r _ _; simp
  | cons x A ih =>
    intro acc r h hr
    rw [List.cons_append, paras_joined (h x (by simp)) (by cases A <;> simp [hr]), ih _ r (fun y hy => h y (by simp [hy])) hr, List.flatMap_cons, List.append_assoc]
theorem paras_app : ∀ (A : List Ln) (acc : List Cell) (r : List Ln), (∀ x, A.getLast? = some x → x.joined = false) → A ≠ [] → paras acc (A ++ r) = paras acc A ++ paras [] r := by
  intro A
  induction A with
  | nil => intro acc r _ h; exact absurd rfl h
  | cons x A ih =>
    intro acc r h _
    cases A with
    | nil =>
      have := h x rfl
      rw [List.cons_append, List.nil_append, paras_last this, paras_last this]; rfl
    | cons z A =>
      have ih' := fun acc => ih acc r (fun y hy => h y (by rw [List.getLast?_cons_cons]; exact hy)) (by simp)
      cases hj : x.joined with
      | true =>
        rw [List.cons_append, paras_joined hj (by simp), paras_joined hj (by simp)]; exact ih' _
      | false =>
        rw [List.cons_append, paras_last hj, paras_last hj, ih' [], List.cons_append]
theorem paras_head : ∀ (r : List Ln) (acc : List Cell), r ≠ [] → ∃ Z P, paras acc r = trimP (acc ++ Z) :: P ∧ ∃ T, Z = (r.head?.map cutL).getD [] ++ T := by
  intro r
  induction r with
  | nil => intro acc h; exact absurd rfl h
  | cons x r ih =>
    intro acc _
    cases hj : x.joined with
    | false => exact ⟨cutL x, _, paras_last hj, [], by simp⟩
    | true =>
      cases r with
      | nil => exact ⟨cutL x, [], rfl, [], by simp⟩
      | cons y r =>
        obtain ⟨Z, P, h1, _⟩ := ih (acc ++ cutL x) (by simp)
        exact ⟨cutL x ++ Z, P, by rw [paras_joined hj (by simp), h1, List.append_assoc], Z, rfl⟩
theorem trimP_keep {l : List Cell} {i : Nat} {c : Cell} (h : l[i]? = some c) (hc : c ≠ plC) : (trimP l)[i]? = some c := by
  have key : ∀ (n : Nat) (l : List Cell), l.length = n → l[i]? = some c → (trimP l)[i]? = some c := by
    intro n
    induction n with
    | zero => intro l hl h; have := List.eq_nil_of_length_eq_zero hl; subst this; simp at h
    | succ n ih =>
      intro l hl h
      rcases List.eq_nil_or_concat l with rfl | ⟨l', d, rfl⟩
      · simp at h
      simp only [List.concat_eq_append] at *
      by_cases hd : d = plC
      · have : trimP (l' ++ [d]) = trimP l' := by rw [hd]; exact trimP_rep l' 1
        rw [this]
        refine ih l' (by simp at hl; exact hl) ?_
        by_cases hi : i < l'.length
        · rwa [List.getElem?_append_left hi] at h
        · rw [List.getElem?_append_right (by omega)] at h
          have : i - l'.length = 0 := by
            by_cases h0 : i - l'.length = 0
            · exact h0
            · rw [List.getElem?_eq_none (by simp; omega)] at h; simp at h
          rw [this] at h
          simp at h
          exact absurd (h.symm.trans hd) hc
      · have : trimP (l' ++ [d]) = l' ++ [d] := by
          unfold trimP
          rw [List.reverse_append, List.reverse_singleton, List.singleton_append, List.dropWhile_cons, if_neg (by simpa using hd)]
          simp
        rw [this]; exact h
  exact key _ l rfl h
theorem trimP_len (l : List Cell) : (trimP l).length ≤ l.length := by
  unfold trimP
  rw [List.length_reverse]
  have : ∀ (m : List Cell), (m.dropWhile (fun c => decide (c = plC))).length ≤ m.length := by
    intro m
    induction m with
    | nil => simp
    | cons a m ih => rw [List.dropWhile_cons]; split <;> simp <;> omega
  have := this l.reverse
  rwa [List.length_reverse] at this

/-! ## where a place is -/
/-- The first line of the paragraph that line y is in. -/
def firstL (l : List Ln) : Nat → Nat
  | 0 => 0
  | y + 1 => if (l[y]?.map Ln.joined).getD false then firstL l y else y + 1
theorem firstL_le (l : List Ln) : ∀ y, firstL l y ≤ y := by
  intro y
  induction y with
  | zero => exact Nat.le_refl _
  | succ y ih => unfold firstL; split <;> omega
theorem firstL_joined (l : List Ln) : ∀ y i, firstL l y ≤ i → i < y → (l[i]?.map Ln.joined).getD false = true := by
  intro y
  induction y with
  | zero => intro i _ h; omega
  | succ y ih =>
    intro i h1 h2
    unfold firstL at h1
    split at h1
    · rename_i h
      by_cases hi : i = y
      · subst hi; exact h
      · exact ih i h1 (by omega)
    · omega
theorem firstL_ahead (l : List Ln) : ∀ y i, firstL l y = i + 1 → (l[i]?.map Ln.joined).getD false = false := by
  intro y
  induction y with
  | zero => intro i h; simp [firstL] at h
  | succ y ih =>
    intro i h
    unfold firstL at h
    split at h
    · exact ih i h
    · rename_i hn
      have : y = i := by omega
      subst this
      simpa using hn
theorem paras_split (l : List Ln) (y : Nat) (hy : y < l.length) : paras [] l = paras [] (l.take (firstL l y)) ++ paras [] (l.drop (firstL l y)) := by
  have hle := firstL_le l y
  cases hf : firstL l y with
  | zero => simp [paras]
  | succ i =>
    have hj := firstL_ahead l y i hf
    conv => lhs; rw [← List.take_append_drop (i + 1) l]
    have hne : l.take (i + 1) ≠ [] := by
      intro h
      have := congrArg List.length h
      rw [List.length_take, List.length_nil] at this
      omega
    refine paras_app _ _ _ (fun x hx => ?_) hne
    rw [List.getLast?_eq_getElem?, List.length_take, Nat.min_eq_left (by omega), Nat.add_sub_cancel, List.getElem?_take_of_lt (by omega)] at hx
    rw [hx] at hj
    exact hj

theorem cutL_len (x : Ln) : (cutL x).length = countL x := by
  unfold cutL; rw [List.length_take]; unfold countL; split <;> omega
theorem cuts_len (A : List Ln) : (A.flatMap cutL).length = (A.map countL).sum := by
  rw [List.length_flatMap]
  congr 1
  exact List.map_congr_left fun x _ => cutL_len x
def headP (l : List Ln) (y : Nat) : List Cell := (paras [] (l.drop (firstL l y))).headD []
def aheadL (l : List Ln) (y : Nat) : Nat := (((l.take y).drop (firstL l y)).map countL).sum
def placeL (l : List Ln) (w x y : Nat) : Nat × Nat := withinL (headP l y).length w (x + aheadL l y) 0 (linesL (l.take (firstL l y)) w).length (linesP w (headP l y))
theorem head_eq {l : List Ln} {y : Nat} {m : Ln} (hm : l[y]? = some m) : ∃ T P, paras [] (l.drop (firstL l y)) = headP l y :: P ∧ headP l y = trimP (((l.take y).drop (firstL l y)).flatMap cutL ++ (cutL m ++ T)) := by
  have hy : y < l.length := by
    rcases Nat.lt_or_ge y l.length with h | h
    · exact h
    · rw [List.getElem?_eq_none h] at hm; simp at hm
  have hle := firstL_le l y
  have e : l.drop (firstL l y) = (l.take y).drop (firstL l y) ++ l.drop y := by
    rw [← List.drop_append_of_le_length (by rw [List.length_take]; omega), List.take_append_drop]
  have hd : l.drop y = m :: l.drop (y + 1) := by
    rw [List.drop_eq_getElem_cons hy]; congr 1
    rw [List.getElem?_eq_getElem hy] at hm; exact Option.some.inj hm
  have hj : ∀ x ∈ (l.take y).drop (firstL l y), x.joined = true := by
    intro x hx
    obtain ⟨i, hi, rfl⟩ := List.mem_iff_getElem.1 hx
    rw [List.length_drop, List.length_take] at hi
    have := firstL_joined l y (firstL l y + i) (by omega) (by omega)
    rw [List.getElem?_eq_getElem (by omega)] at this
    rw [List.getElem_drop, List.getElem_take]
    exact this
  have h1 : paras [] (l.drop (firstL l y)) = paras (((l.take y).drop (firstL l y)).flatMap cutL) (l.drop y) := by
    conv => lhs; rw [e]
    rw [paras_run _ _ _ hj (by rw [hd]; simp)]; rfl
  obtain ⟨Z, P, h2, T, h3⟩ := paras_head (l.drop y) (((l.take y).drop (firstL l y)).flatMap cutL) (by rw [hd]; simp)
  rw [hd] at h3
  have h4 : headP l y = trimP (((l.take y).drop (firstL l y)).flatMap cutL ++ Z) := by
    unfold headP; rw [h1, h2]; rfl
  exact ⟨T, P, by rw [h4, h1, h2], by rw [h4, h3]; rfl⟩
theorem lines_split {l : List Ln} {y w : Nat} {m : Ln} (hm : l[y]? = some m) : ∃ X, linesL l w = linesL (l.take (firstL l y)) w ++ (linesP w (headP l y) ++ X) := by
  have hy : y < l.length := by
    rcases Nat.lt_or_ge y l.length with h | h
    · exact h
    · rw [List.getElem?_eq_none h] at hm; simp at hm
  obtain ⟨T, P, h1, _⟩ := head_eq hm
  refine ⟨P.flatMap (linesP w), ?_⟩
  unfold linesL
  rw [paras_split l y hy, List.flatMap_append, h1, List.flatMap_cons]
theorem place_eq {l : List Ln} {w x y : Nat} (hw : 2 ≤ w) : placeL l w x y = if x + aheadL l y < (headP l y).length then (posGo w 0 (linesL (l.take (firstL l y)) w).length (headP l y)).getD (x + aheadL l y) (0, 0)
      else (min (lastN w 0 (headP l y) + (x + aheadL l y - (headP l y).length)) (w - 1), (linesL (l.take (firstL l y)) w).length + (linesP w (headP l y)).length - 1) := by
  have := within_eq hw (x + aheadL l y) (headP l y) [] 0 (linesL (l.take (firstL l y)) w).length (by simp) (Nat.zero_le _)
  simp only [List.length_nil, Nat.add_zero, Nat.zero_add, Nat.sub_zero] at this
  unfold placeL
  unfold linesP
  rw [this, if_neg (by omega)]
theorem pos_some {w : Nat} {cs : List Cell} {n k i : Nat} (h : i < cs.length) : (posGo w n k cs)[i]? = some ((posGo w n k cs).getD i (0, 0)) := by
  rw [List.getD_eq_getElem?_getD, List.getElem?_eq_getElem (by rw [posGo_len]; exact h)]; rfl
/-- Where a place is: on a line of its paragraph, and there on the very cell. -/
theorem place_at {l : List Ln} {w x y : Nat} {m : Ln} (hw : 2 ≤ w) (hm : l[y]? = some m) : (placeL l w x y).1 < w ∧ ∃ z, (linesL l w)[(placeL l w x y).2]? = some z ∧ z.cells.length = w ∧ (x + aheadL l y < (headP l y).length → z.cells[(placeL l w x y).1]? = (headP l y)[x + aheadL l y]?) := by
  obtain ⟨X, hX⟩ := lines_split (w := w) hm
  have hlen : ∀ z ∈ linesL l w, z.cells.length = w := linesL_len hw
  rw [place_eq hw]
  split
  · rename_i hlt
    have hp := pos_some (w := w) (n := 0) (k := (linesL (l.take (firstL l y)) w).length) hlt
    generalize (posGo w 0 (linesL (l.take (firstL l y)) w).length (headP l y)).getD (x + aheadL l y) (0, 0) = uv at *
    obtain ⟨u, v⟩ := uv
    obtain ⟨h1, z, h2, h3⟩ := (pos_at hw (headP l y) [] (linesL (l.take (firstL l y)) w).length (by simp)).2 _ _ _ hp
    have h4 : (linesL l w)[v]? = some z := by
      rw [hX, List.getElem?_append_right h1]
      have hb : v - (linesL (l.take (firstL l y)) w).length < (linesP w (headP l y)).length := by
        rcases Nat.lt_or_ge (v - (linesL (l.take (firstL l y)) w).length) (linesP w (headP l y)).length with h | h
        · exact h
        · unfold linesP at h; rw [List.getElem?_eq_none h] at h2; simp at h2
      rw [List.getElem?_append_left hb]; exact h2
    have h5 := hlen z (List.mem_of_getElem? h4)
    refine ⟨?_, z, h4, h5, fun _ => h3⟩
    rw [List.getElem?_eq_getElem hlt] at h3
    rcases Nat.lt_or_ge u w with h | h
    · exact h
    · rw [List.getElem?_eq_none (by omega)] at h3; simp at h3
  · rename_i hlt
    have hne : (linesP w (headP l y)).length ≠ 0 := by
      intro h
      exact linesGo_ne w (headP l y) [] (List.eq_nil_of_length_eq_zero h)
    have hb : (linesL (l.take (firstL l y)) w).length + (linesP w (headP l y)).length - 1 < (linesL l w).length := by
      rw [hX, List.length_append, List.length_append]; omega
    exact ⟨by show min _ _ < w; omega, _, List.getElem?_eq_getElem hb, hlen _ (List.getElem_mem hb), fun h => absurd h hlt⟩
/-- A cell that is no plain blank is in its paragraph. -/
theorem place_keeps {l : List Ln} {x y : Nat} {m : Ln} {c : Cell} (hm : l[y]? = some m) (hx : x < countL m) (hc : m.cells[x]? = some c) (hn : c ≠ plC) : (headP l y)[x + aheadL l y]? = some c := by
  obtain ⟨T, P, _, h⟩ := head_eq hm
  rw [h]
  refine trimP_keep ?_ hn
  unfold aheadL
  rw [List.getElem?_append_right (by rw [cuts_len]; omega), cuts_len, Nat.add_sub_cancel, List.getElem?_append_left (by rw [cutL_len]; exact hx)]
  unfold cutL
  rw [List.getElem?_take_of_lt hx]; exact hc

/-! ## where paragraphs begin -/
def startsL : Nat → Nat → List Ln → List Nat
  | _, _, [] => []
  | s, _, [_] => [s]
  | s, i, x :: y :: r => if x.joined then startsL s (i + 1) (y :: r) else s :: startsL (i + 1) (i + 1) (y :: r)
theorem startsL_joined {s i : Nat} {l : Ln} {r : List Ln} (hj : l.joined = true) (hr : r ≠ []) : startsL s i (l :: r) = startsL s (i + 1) r := by
  cases r with
  | nil => exact absurd rfl hr
  | cons y r => rw [startsL, if_pos hj]
theorem startsL_last {s i : Nat} {l : Ln} {r : List Ln} (hj : l.joined = false) : startsL s i (l :: r) = s :: startsL (i + 1) (i + 1) r := by
  cases r with
  | nil => rfl
  | cons y r => rw [startsL, if_neg (by rw [hj]; simp)]
theorem startsL_len : ∀ (r : List Ln) (s i : Nat) (acc : List Cell), (startsL s i r).length = (paras acc r).length := by
  intro r
  induction r with
  | nil => intros; rfl
  | cons x r ih =>
    intro s i acc
    cases r with
    | nil => rfl
    | cons y r =>
      cases hj : x.joined with
      | true => rw [startsL_joined hj (by simp), paras_joined hj (by simp)]; exact ih _ _ _
      | false => rw [startsL_last hj, paras_last hj, List.length_cons, List.length_cons]; exact congrArg (· + 1) (ih _ _ _)
theorem startsL_app : ∀ (A : List Ln) (s i : Nat) (r : List Ln), (∀ x, A.getLast? = some x → x.joined = false) → A ≠ [] → startsL s i (A ++ r) = startsL s i A ++ startsL (i + A.length) (i + A.length) r := by
  intro A
  induction A with
  | nil => intro s i r _ h; exact absurd rfl h
  | cons x A ih =>
    intro s i r h _
    cases A with
    | nil =>
      have := h x rfl
      rw [List.cons_append, List.nil_append, startsL_last this, startsL_last this]; rfl
    | cons z A =>
      have ih' := fun s i => ih s i r (fun y hy => h y (by rw [List.getLast?_cons_cons]; exact hy)) (by simp)
      have e : ∀ n, n + (x :: z :: A).length = n + 1 + (z :: A).length := fun n => by simp; omega
      cases hj : x.joined with
      | true => rw [List.cons_append, startsL_joined hj (by simp), startsL_joined hj (by simp), e]; exact ih' _ _
      | false => rw [List.cons_append, startsL_last hj, startsL_last hj, ih' _ _, e, List.cons_append]
theorem startsL_lt : ∀ (r : List Ln) (s i : Nat), s ≤ i → ∀ k ∈ startsL s i r, k < i + r.length := by
  intro r
  induction r with
  | nil => intro s i _ k hk; simp [startsL] at hk
  | cons x r ih =>
    intro s i hs k hk
    cases r with
    | nil => simp only [startsL, List.mem_singleton] at hk; simp; omega
    | cons y r =>
      cases hj : x.joined with
      | true =>
        rw [startsL_joined hj (by simp)] at hk
        have := ih s (i + 1) (by omega) k hk
        simp only [List.length_cons] at this ⊢; omega
      | false =>
        rw [startsL_last hj] at hk
        rcases List.mem_cons.1 hk with rfl | hk
        · simp; omega
        · have := ih (i + 1) (i + 1) (Nat.le_refl _) k hk
          simp only [List.length_cons] at this ⊢; omega
theorem startsL_ge : ∀ (r : List Ln) (s i : Nat), s ≤ i → ∀ k ∈ startsL s i r, s ≤ k := by
  intro r
  induction r with
  | nil => intro s i _ k hk; simp [startsL] at hk
  | cons x r ih =>
    intro s i hs k hk
    cases r with
    | nil => simp only [startsL, List.mem_singleton] at hk; omega
    | cons y r =>
      cases hj : x.joined with
      | true => rw [startsL_joined hj (by simp)] at hk; exact ih s (i + 1) (by omega) k hk
      | false =>
        rw [startsL_last hj] at hk
        rcases List.mem_cons.1 hk with rfl | hk
        · exact Nat.le_refl _
        · have := ih (i + 1) (i + 1) (Nat.le_refl _) k hk; omega
theorem startsL_run : ∀ (A : List Ln) (s i : Nat) (r : List Ln), (∀ x ∈ A, x.joined = true) → r ≠ [] → startsL s i (A ++ r) = startsL s (i + A.length) r := by
  intro A
  induction A with
  | nil => intro s i r _ _; rfl
  | cons x A ih =>
    intro s i r h hr
    rw [List.cons_append, startsL_joined (h x (by simp)) (by cases A <;> simp [hr]), ih s (i + 1) r (fun y hy => h y (by simp [hy])) hr, List.length_cons, show i + 1 + A.length = i + (A.length + 1) by omega]
/-- The first start of what is left, and those behind it, which lie beyond the lines that go on. -/
theorem startsL_head : ∀ (r : List Ln) (s i : Nat), s ≤ i → r ≠ [] → ∃ S, startsL s i r = s :: S ∧ ∀ k ∈ S, i < k := by
  intro r
  induction r with
  | nil => intro s i _ h; exact absurd rfl h
  | cons x r ih =>
    intro s i hs _
    cases r with
    | nil => exact ⟨[], rfl, by simp⟩
    | cons y r =>
      cases hj : x.joined with
      | true =>
        obtain ⟨S, h1, h2⟩ := ih s (i + 1) (by omega) (by simp)
        exact ⟨S, by rw [startsL_joined hj (by simp), h1], fun k hk => by have := h2 k hk; omega⟩
      | false => exact ⟨_, startsL_last hj, fun k hk => by have := startsL_ge _ _ _ (Nat.le_refl _) k hk; omega⟩
theorem starts_at {l : List Ln} {y : Nat} {m : Ln} (hm : l[y]? = some m) : ∃ S, startsL 0 0 l = startsL 0 0 (l.take (firstL l y)) ++ firstL l y :: S ∧ (∀ k ∈ startsL 0 0 (l.take (firstL l y)), k < firstL l y) ∧ ∀ k ∈ S, y < k := by
  have hy : y < l.length := by
    rcases Nat.lt_or_ge y l.length with h | h
    · exact h
    · rw [List.getElem?_eq_none h] at hm; simp at hm
  have hle := firstL_le l y
  have e : l.drop (firstL l y) = (l.take y).drop (firstL l y) ++ l.drop y := by
    rw [← List.drop_append_of_le_length (by rw [List.length_take]; omega), List.take_append_drop]
  have hj : ∀ x ∈ (l.take y).drop (firstL l y), x.joined = true := by
    intro x hx
    obtain ⟨i, hi, rfl⟩ := List.mem_iff_getElem.1 hx
    rw [List.length_drop, List.length_take] at hi
    have := firstL_joined l y (firstL l y + i) (by omega) (by omega)
    rw [List.getElem?_eq_getElem (by omega)] at this
    rw [List.getElem_drop, List.getElem_take]
    exact this
  have hne : l.drop y ≠ [] := by
    intro h
    have := congrArg List.length h
    rw [List.length_drop, List.length_nil] at this; omega
  have h1 : startsL (firstL l y) (firstL l y) (l.drop (firstL l y)) = startsL (firstL l y) y (l.drop y) := by
    conv => lhs; rw [e]
    rw [startsL_run _ _ _ _ hj hne, List.length_drop, List.length_take, show firstL l y + (min y l.length - firstL l y) = y by omega]
  obtain ⟨S, h2, h3⟩ := startsL_head (l.drop y) (firstL l y) y hle hne
  rw [h2] at h1
  refine ⟨S, ?_, ?_, h3⟩
  · cases hf : firstL l y with
    | zero =>
      rw [hf] at h1
      simp only [List.take_zero, List.drop_zero] at h1 ⊢
      rw [h1]; rfl
    | succ i =>
      have hj := firstL_ahead l y i hf
      rw [hf] at h1
      have hn2 : l.take (i + 1) ≠ [] := by
        intro h
        have := congrArg List.length h
        rw [List.length_take, List.length_nil] at this
        omega
      conv => lhs; rw [← List.take_append_drop (i + 1) l]
      rw [startsL_app _ _ _ _ (fun x hx => ?_) hn2, Nat.zero_add, List.length_take, Nat.min_eq_left (by omega), h1]
      rw [List.getLast?_eq_getElem?, List.length_take, Nat.min_eq_left (by omega), Nat.add_sub_cancel, List.getElem?_take_of_lt (by omega)] at hx
      rw [hx] at hj
      exact hj
  · intro k hk
    have := startsL_lt _ _ _ (Nat.le_refl _) k hk
    rw [List.length_take] at this; omega
end Go.Proofs.YtbkhjpclnfljbaaDoor
