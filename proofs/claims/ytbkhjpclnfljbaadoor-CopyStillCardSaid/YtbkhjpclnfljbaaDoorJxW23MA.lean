import Derived.Test.YtbkhjpclnfljbaaDoorJxC23
import Derived.Test.YtbkhjpclnfljbaaDoorJxW8
import Derived.Test.YtbkhjpclnfljbaaDoorJxW9
/- Rows: what the functions of the package row do, each once. -/
set_option linter.unusedSimpArgs false
set_option linter.unusedVariables false
set_option maxHeartbeats 1000000
set_option maxRecDepth 100000
namespace Go.Proofs.YtbkhjpclnfljbaaDoor
open Go Go.Jx

def fillL {α : Type} (L : List α) (o n : Nat) (x : α) : List α := L.take o ++ List.replicate n x ++ L.drop (o + n)
theorem fillL_length {α : Type} {L : List α} {o n : Nat} {x : α} (h : o + n ≤ L.length) : (fillL L o n x).length = L.length := by
  unfold fillL
  simp only [List.length_append, List.length_take, List.length_replicate, List.length_drop]
  omega
theorem fillL_zero {α : Type} (L : List α) (o : Nat) (x : α) : fillL L o 0 x = L := by simp [fillL]
theorem fillL_succ {α : Type} {L : List α} {o k : Nat} {x : α} (h : o + k < L.length) : (fillL L o k x).set (o + k) x = fillL L o (k + 1) x := by
  apply List.ext_getElem?
  intro i
  unfold fillL
  rw [List.getElem?_set]
  simp only [List.getElem?_append, List.getElem?_take, List.length_append, List.length_take, List.length_replicate, List.getElem?_drop, List.getElem?_replicate, List.length_drop]
  grind








theorem w48 {v : SV} {L : List Cell} {h : Heap} (hv : SlR cellE (Now h) v L) (hl : L.length ≤ 100000) : Wc DD 48 [.sc v] h fun w h' => ∃ u c, w = .sc u ∧ AccS cellE 71 u L c ∧ Sep (Now h) [c] h' := by
  have hs := Sep.entry h
  have hv' := hv
  rcases hv' with ⟨rfl, rfl | ⟨b, rfl⟩⟩ | ⟨id, off, cap, t, kd, cs, rfl, h2, h3, h4⟩
  · refine W_enter d48 ?_
    show W _ (.code m48_code [.sc .nils, undefA, undefA, undefA, undefA, undefA, undefA, undefA] _) _
    unfold m48_code
    repeat' (first
      | (refine K_ops ?_; first
        | refine W_fastB rfl ?_
        | refine W_nil ?_
        | (refine K_bin ?_; first
          | (refine W_nilSl_t rfl rfl rfl ?_; refine W_norm rfl ?_)
        )
      )
      | (refine K_code ?_; first
        | refine W_seq ?_
        | refine W_ops ?_
        | refine W_cond_t rfl ?_
        | refine W_ret ?_
      )
      | refine seqK_n ?_
      | refine seqK_r ?_
      | (refine fnK_r rfl ?_; try dsimp only [gd_z, gd_s]))
    exact ⟨_, rfl, _, _, rfl, AccS.nil _, hs.nil⟩
  · refine W_enter d48 ?_
    show W _ (.code m48_code [.sc (.eslice b), undefA, undefA, undefA, undefA, undefA, undefA, undefA] _) _
    unfold m48_code
    repeat' (first
      | (refine K_ops ?_; first
        | refine W_fastB rfl ?_
        | refine W_nil ?_
        | (refine K_bin ?_; first
          | (refine W_nilSl_e rfl rfl rfl ?_; refine W_norm rfl ?_)
        )
        | (refine K_bslice ?_; first
          | (refine W_buildS0 cellE hs ?_; clear hs; intro _ _ _ _ hs; try simp only [cell_back, attr_back, List.set_cons_zero, List.set_cons_succ, List.eraseIdx_cons_succ, List.eraseIdx_zero, List.tail_cons, List.nil_append, List.cons_append] at hs; refine W_norm rfl ?_)
        )
        | (refine K_append ?_; first
          | (refine W_appS hs 0 rfl rfl (by assumption) rfl (by first | assumption | exact SlR.now hs (by assumption) | exact AccS.now (by assumption) hs (by simp) | exact OwnS.now (by assumption) hs (by simp)) rfl ⟨by decide, (by first | omega | (simp only [List.length_set, List.length_append, List.length_take, List.length_drop, List.length_replicate, List.length_cons, List.length_nil, decs_length, List.length_map]; omega))⟩ ?_; clear hs; intro _ _ _ _ hs; try simp only [cell_back, attr_back, List.set_cons_zero, List.set_cons_succ, List.eraseIdx_cons_succ, List.eraseIdx_zero, List.tail_cons, List.nil_append, List.cons_append] at hs; refine W_norm rfl ?_)
        )
      )
      | (refine K_code ?_; first
        | refine W_seq ?_
        | refine W_ops ?_
        | refine W_cond_f rfl ?_
        | refine W_skip ?_
        | refine W_ret ?_
      )
      | refine seqK_n ?_
      | (refine fnK_r rfl ?_; try dsimp only [gd_z, gd_s]))
    rename_i ha
    exact ⟨_, rfl, _, _, rfl, ha, hs⟩
  · refine W_enter d48 ?_
    show W _ (.code m48_code [.sc (.slice id off L.length cap), undefA, undefA, undefA, undefA, undefA, undefA, undefA] _) _
    unfold m48_code
    repeat' (first
      | (refine K_ops ?_; first
        | refine W_fastB rfl ?_
        | refine W_nil ?_
        | (refine K_bin ?_; first
          | (refine W_nilSl_f rfl rfl rfl ?_; refine W_norm rfl ?_)
        )
        | (refine K_bslice ?_; first
          | (refine W_buildS0 cellE hs ?_; clear hs; intro _ _ _ _ hs; try simp only [cell_back, attr_back, List.set_cons_zero, List.set_cons_succ, List.eraseIdx_cons_succ, List.eraseIdx_zero, List.tail_cons, List.nil_append, List.cons_append] at hs; refine W_norm rfl ?_)
        )
        | (refine K_append ?_; first
          | (refine W_appS hs 0 rfl rfl (by assumption) rfl (by first | assumption | exact SlR.now hs (by assumption) | exact AccS.now (by assumption) hs (by simp) | exact OwnS.now (by assumption) hs (by simp)) rfl ⟨by decide, (by first | omega | (simp only [List.length_set, List.length_append, List.length_take, List.length_drop, List.length_replicate, List.length_cons, List.length_nil, decs_length, List.length_map]; omega))⟩ ?_; clear hs; intro _ _ _ _ hs; try simp only [cell_back, attr_back, List.set_cons_zero, List.set_cons_succ, List.eraseIdx_cons_succ, List.eraseIdx_zero, List.tail_cons, List.nil_append, List.cons_append] at hs; refine W_norm rfl ?_)
        )
      )
      | (refine K_code ?_; first
        | refine W_seq ?_
        | refine W_ops ?_
        | refine W_cond_f rfl ?_
        | refine W_skip ?_
        | refine W_ret ?_
      )
      | refine seqK_n ?_
      | (refine fnK_r rfl ?_; try dsimp only [gd_z, gd_s]))
    rename_i ha
    exact ⟨_, rfl, _, _, rfl, ha, hs⟩






/-- Parted at a column. -/
def partL (L : List Cell) (x : Int) : List Cell :=
  if 0 < x ∧ x < L.length ∧ (L.getD x.toNat cell0).w = 2 then (L.set ((x - 1).toNat) (blankC (L.getD (x - 1).toNat cell0).a)).set x.toNat (blankC (L.getD x.toNat cell0).a) else L
theorem partL_length (L : List Cell) (x : Int) : (partL L x).length = L.length := by
  unfold partL
  split <;> simp


end Go.Proofs.YtbkhjpclnfljbaaDoor
/- Reflow, in plain Lean: paragraphs and lines. -/
set_option linter.unusedSimpArgs false
set_option linter.unusedVariables false
namespace Go.Proofs.YtbkhjpclnfljbaaDoor
open Go Go.Jx

structure Ln where
  cells : List Cell
  joined : Bool
  short : Bool
def plC : Cell := ⟨32, 0, attr0⟩
def countL (l : Ln) : Nat := if l.joined && l.short then l.cells.length - 1 else l.cells.length
def cutL (l : Ln) : List Cell := l.cells.take (countL l)
def trimP (l : List Cell) : List Cell := (l.reverse.dropWhile (fun c => decide (c = plC))).reverse
def paras : List Cell → List Ln → List (List Cell)
  | _, [] => []
  | acc, [x] => [trimP (acc ++ cutL x)]
  | acc, x :: y :: r => if x.joined then paras (acc ++ cutL x) (y :: r) else trimP (acc ++ cutL x) :: paras [] (y :: r)
def linesGo (w : Nat) : List Cell → List Cell → List Ln
  | at', [] => [⟨at' ++ List.replicate (w - at'.length) plC, false, false⟩]
  | at', c :: cs =>
    if c.w = 1 ∧ at'.length = w - 1 then ⟨at' ++ [plC], true, true⟩ :: linesGo w [c] cs
    else if at'.length = w then ⟨at', true, false⟩ :: linesGo w [c] cs
    else linesGo w (at' ++ [c]) cs
def linesP (w : Nat) (cells : List Cell) : List Ln := linesGo w [] cells
def linesL (l : List Ln) (w : Nat) : List Ln := (paras [] l).flatMap (linesP w)

theorem trimP_rep (l : List Cell) (k : Nat) : trimP (l ++ List.replicate k plC) = trimP l := by
  unfold trimP
  rw [List.reverse_append, List.reverse_replicate]
  congr 1
  induction k with
  | zero => rfl
  | succ k ih => rw [List.replicate_succ, List.cons_append, List.dropWhile_cons, if_pos (by simp)]; exact ih
theorem dropWhile_idem {α : Type} (p : α → Bool) (l : List α) : (l.dropWhile p).dropWhile p = l.dropWhile p := by
  induction l with
  | nil => rfl
  | cons a l ih =>
    rw [List.dropWhile_cons]
    split
    · exact ih
    · rename_i h; rw [List.dropWhile_cons, if_neg h]
theorem trimP_idem (l : List Cell) : trimP (trimP l) = trimP l := by
  unfold trimP; rw [List.reverse_reverse, dropWhile_idem]

theorem linesGo_ne (w : Nat) : ∀ (cs at' : List Cell), linesGo w at' cs ≠ [] := by
  intro cs
  induction cs with
  | nil => intro at'; simp [linesGo]
  | cons c cs ih =>
    intro at'
    unfold linesGo
    split
    · simp
    split
    · simp
    · exact ih _
theorem paras_joined {acc : List Cell} {l : Ln} {r : List Ln} (hj : l.joined = true) (hr : r ≠ []) : paras acc (l :: r) = paras (acc ++ cutL l) r := by
  cases r with
  | nil => exact absurd rfl hr
  | cons y r => rw [paras, if_pos hj]
theorem paras_last {acc : List Cell} {l : Ln} {r : List Ln} (hj : l.joined = false) : paras acc (l :: r) = trimP (acc ++ cutL l) :: paras [] r := by
  cases r with
  | nil => rfl
  | cons y r => rw [paras, if_neg (by rw [hj]; simp)]
theorem app_ne {α : Type} {a b : List α} (h : a ≠ []) : a ++ b ≠ [] := by cases a <;> simp_all
theorem cutL_ff (x : List Cell) (j : Bool) : cutL ⟨x, j, false⟩ = x := by
  unfold cutL countL; simp
theorem cutL_tt (x : List Cell) (c : Cell) : cutL ⟨x ++ [c], true, true⟩ = x := by
  unfold cutL countL; simp

theorem paras_lines (w : Nat) (hw : 2 ≤ w) : ∀ (cs at' acc : List Cell) (rest : List Ln), paras acc (linesGo w at' cs ++ rest) = trimP (acc ++ at' ++ cs) :: paras [] rest := by
  intro cs
  induction cs with
  | nil =>
    intro at' acc rest
    rw [linesGo, List.cons_append, paras_last rfl, cutL_ff, ← List.append_assoc, trimP_rep, List.append_nil]; rfl
  | cons c cs ih =>
    intro at' acc rest
    unfold linesGo
    split
    · rw [List.cons_append, paras_joined rfl (app_ne (linesGo_ne _ _ _)), cutL_tt, ih]; simp
    split
    · rw [List.cons_append, paras_joined rfl (app_ne (linesGo_ne _ _ _)), cutL_ff, ih]; simp
    · rw [ih]; simp
theorem paras_trim : ∀ (l : List Ln) (acc : List Cell), ∀ p ∈ paras acc l, trimP p = p := by
  intro l
  induction l with
  | nil => intro acc p hp; simp [paras] at hp
  | cons x r ih =>
    intro acc p hp
    cases hj : x.joined with
    | false =>
      rw [paras_last hj] at hp
      rcases List.mem_cons.1 hp with rfl | hp
      · exact trimP_idem _
      · exact ih _ _ hp
    | true =>
      cases r with
      | nil => simp only [paras, List.mem_singleton] at hp; rw [hp]; exact trimP_idem _
      | cons y r => rw [paras_joined hj (by simp)] at hp; exact ih _ _ hp
theorem paras_flat (w : Nat) (hw : 2 ≤ w) : ∀ (P : List (List Cell)), (∀ p ∈ P, trimP p = p) → paras [] (P.flatMap (linesP w)) = P := by
  intro P
  induction P with
  | nil => intro _; rfl
  | cons p P ih =>
    intro h
    rw [List.flatMap_cons]
    unfold linesP
    rw [paras_lines w hw]
    have := ih fun q hq => h q (List.mem_cons_of_mem _ hq)
    unfold linesP at this
    rw [this, List.nil_append, List.nil_append, h p (by simp)]
/-- Paragraphs are the same cells at each width. -/
theorem paras_at (l : List Ln) {w : Nat} (hw : 2 ≤ w) : paras [] (linesL l w) = paras [] l := paras_flat w hw _ (paras_trim l [])
theorem lines_twice (l : List Ln) {w : Nat} (hw : 2 ≤ w) (v : Nat) : linesL (linesL l w) v = linesL l v := by
  unfold linesL
  rw [show paras [] ((paras [] l).flatMap (linesP w)) = paras [] l from paras_at l hw]

theorem lines_len {w : Nat} (hw : 2 ≤ w) : ∀ (cs at' : List Cell), at'.length ≤ w → ∀ m ∈ linesGo w at' cs, m.cells.length = w := by
  intro cs
  induction cs with
  | nil =>
    intro at' h m hm
    rw [linesGo, List.mem_singleton] at hm
    subst hm
    simp; omega
  | cons c cs ih =>
    intro at' h m hm
    unfold linesGo at hm
    split at hm
    · rename_i hc
      rcases List.mem_cons.1 hm with rfl | hm
      · simp; omega
      · exact ih _ (by simp; omega) m hm
    split at hm
    · rcases List.mem_cons.1 hm with rfl | hm
      · assumption
      · exact ih _ (by simp; omega) m hm
    · exact ih _ (by simp; omega) m hm
theorem linesL_len {l : List Ln} {w : Nat} (hw : 2 ≤ w) : ∀ m ∈ linesL l w, m.cells.length = w := by
  intro m hm
  obtain ⟨p, _, hm⟩ := List.mem_flatMap.1 hm
  exact lines_len hw p [] (by simp) m hm

/-- Of each cell the column and the line. -/
def posGo (w : Nat) : Nat → Nat → List Cell → List (Nat × Nat)
  | _, _, [] => []
  | n, k, c :: cs => if (c.w = 1 ∧ n = w - 1) ∨ n = w then (0, k + 1) :: posGo w 1 (k + 1) cs else (n, k) :: posGo w (n + 1) k cs
theorem posGo_len (w : Nat) : ∀ (cs : List Cell) (n k : Nat), (posGo w n k cs).length = cs.length := by
  intro cs
  induction cs with
  | nil => intros; rfl
  | cons c cs ih => intro n k; unfold posGo; split <;> simp [ih]
def withinL (total w behind : Nat) : Nat → Nat → List Ln → Nat × Nat
  | _, _, [] => (0, 0)
  | k, y, [x] => if behind < total then (behind - k, y) else (min (total - k + min (behind - total) w) (w - 1), y)
  | k, y, x :: z :: r => if behind < k + countL x then (behind - k, y) else withinL total w behind (k + countL x) (y + 1) (z :: r)
theorem withinL_more {total w behind k y : Nat} {x : Ln} {r : List Ln} (h : r ≠ []) : withinL total w behind k y (x :: r) = if behind < k + countL x then (behind - k, y) else withinL total w behind (k + countL x) (y + 1) r := by
  cases r with
  | nil => exact absurd rfl h
  | cons z r => rfl
theorem countL_ff (x : List Cell) (j : Bool) : countL ⟨x, j, false⟩ = x.length := by unfold countL; simp
theorem countL_tt (x : List Cell) (c : Cell) : countL ⟨x ++ [c], true, true⟩ = x.length := by unfold countL; simp
/-- The last line: how many cells of the paragraph it has. -/
def lastN (w : Nat) : Nat → List Cell → Nat
  | n, [] => n
  | n, c :: cs => if (c.w = 1 ∧ n = w - 1) ∨ n = w then lastN w 1 cs else lastN w (n + 1) cs
theorem within_eq {w : Nat} (hw : 2 ≤ w) (behind : Nat) : ∀ (cs at' : List Cell) (k y : Nat), at'.length ≤ w → k ≤ behind →
    withinL (k + at'.length + cs.length) w behind k y (linesGo w at' cs) =
      if behind < k + at'.length then (behind - k, y) else if behind < k + at'.length + cs.length then (posGo w at'.length y cs).getD (behind - k - at'.length) (0, 0)
      else (min (lastN w at'.length cs + (behind - (k + at'.length + cs.length))) (w - 1), y + (linesGo w at' cs).length - 1) := by
  intro cs
  induction cs with
  | nil =>
    intro at' k y h hk
    rw [linesGo]
    simp only [withinL, List.length_nil, Nat.add_zero, lastN, List.length_cons, posGo]
    split
    · rfl
    · congr 1
      omega
  | cons c cs ih =>
    intro at' k y h hk
    unfold linesGo posGo lastN
    have turn : ∀ (x : Ln), countL x = at'.length → withinL (k + at'.length + (c :: cs).length) w behind k y (x :: linesGo w [c] cs) =
        if behind < k + at'.length then (behind - k, y) else if behind < k + at'.length + (c :: cs).length then ((0, y + 1) :: posGo w 1 (y + 1) cs).getD (behind - k - at'.length) (0, 0)
        else (min (lastN w 1 cs + (behind - (k + at'.length + (c :: cs).length))) (w - 1), y + (x :: linesGo w [c] cs).length - 1) := by
      intro x hx
      rw [withinL_more (linesGo_ne _ _ _), hx]
      by_cases hb : behind < k + at'.length
      · rw [if_pos hb, if_pos hb]
      · have := ih [c] (k + at'.length) (y + 1) (by simp; omega) (by omega)
        simp only [List.length_cons, List.length_nil, Nat.zero_add] at this ⊢
        rw [if_neg hb, if_neg hb, show k + at'.length + (cs.length + 1) = k + at'.length + 1 + cs.length by omega, this]
        by_cases h2 : behind = k + at'.length
        · subst h2
          rw [if_pos (by omega), if_pos (by omega), show k + at'.length - k - at'.length = 0 by omega, show k + at'.length - (k + at'.length) = 0 by omega]; rfl
        · rw [if_neg (by omega)]
          obtain ⟨j, hj⟩ : ∃ j, behind - k - at'.length = j + 1 := ⟨behind - k - at'.length - 1, by omega⟩
          rw [hj, show behind - (k + at'.length) - 1 = j by omega]
          split
          · rfl
          · congr 1; omega
    by_cases h1 : c.w = 1 ∧ at'.length = w - 1
    · rw [if_pos h1]
      simp only [if_pos (Or.inl h1 : (c.w = 1 ∧ at'.length = w - 1) ∨ at'.length = w)]
      exact turn _ (countL_tt _ _)
    · rw [if_neg h1]
      by_cases h2 : at'.length = w
      · rw [if_pos h2]
        simp only [if_pos (Or.inr h2 : (c.w = 1 ∧ at'.length = w - 1) ∨ at'.length = w)]
        exact turn _ (countL_ff _ _)
      · rw [if_neg h2]
        simp only [if_neg (show ¬((c.w = 1 ∧ at'.length = w - 1) ∨ at'.length = w) by rintro (h | h) <;> contradiction)]
        have := ih (at' ++ [c]) k y (by simp; omega) hk
        simp only [List.length_append, List.length_cons, List.length_nil, Nat.zero_add] at this ⊢
        rw [show k + at'.length + (cs.length + 1) = k + (at'.length + 1) + cs.length by omega, this]
        by_cases h3 : behind = k + at'.length
        · subst h3
          rw [if_pos (by omega), if_neg (by omega), if_pos (by omega), show k + at'.length - k - at'.length = 0 by omega, show k + at'.length - k = at'.length by omega]; rfl
        · by_cases h4 : behind < k + at'.length
          · rw [if_pos (by omega), if_pos (by omega)]
          · obtain ⟨j, hj⟩ : ∃ j, behind - k - at'.length = j + 1 := ⟨behind - k - at'.length - 1, by omega⟩
            rw [if_neg (by omega), if_neg h4, hj, show behind - k - (at'.length + 1) = j by omega]
            rfl

/-- A cell stands where it is said to stand. -/
theorem pos_at {w : Nat} (hw : 2 ≤ w) : ∀ (cs at' : List Cell) (y : Nat), at'.length ≤ w → (∀ j, j < at'.length → ∃ m, (linesGo w at' cs)[0]? = some m ∧ m.cells[j]? = at'[j]?) ∧
    ∀ (i u v : Nat), (posGo w at'.length y cs)[i]? = some (u, v) → y ≤ v ∧ ∃ m, (linesGo w at' cs)[v - y]? = some m ∧ m.cells[u]? = cs[i]? := by
  intro cs
  induction cs with
  | nil =>
    intro at' y h
    refine ⟨fun j hj => ⟨_, rfl, ?_⟩, fun i u v hh => by simp [posGo] at hh⟩
    rw [List.getElem?_append_left hj]
  | cons c cs ih =>
    intro at' y h
    unfold linesGo posGo
    have turn : ∀ (x : Ln), (∀ j, j < at'.length → x.cells[j]? = at'[j]?) → (∀ j, j < at'.length → ∃ m, (x :: linesGo w [c] cs)[0]? = some m ∧ m.cells[j]? = at'[j]?) ∧
        ∀ (i u v : Nat), ((0, y + 1) :: posGo w 1 (y + 1) cs)[i]? = some (u, v) → y ≤ v ∧ ∃ m, (x :: linesGo w [c] cs)[v - y]? = some m ∧ m.cells[u]? = (c :: cs)[i]? := by
      intro x hx
      obtain ⟨a1, a2⟩ := ih [c] (y + 1) (by simp; omega)
      refine ⟨fun j hj => ⟨x, rfl, hx j hj⟩, fun i u v hh => ?_⟩
      cases i with
      | zero =>
        simp only [List.getElem?_cons_zero, Option.some.injEq, Prod.mk.injEq] at hh
        obtain ⟨rfl, rfl⟩ := hh
        obtain ⟨m, m1, m2⟩ := a1 0 (by simp)
        exact ⟨by omega, m, by rw [show y + 1 - y = 0 + 1 by omega, List.getElem?_cons_succ]; exact m1, m2⟩
      | succ i =>
        rw [List.getElem?_cons_succ] at hh
        obtain ⟨b1, m, m1, m2⟩ := a2 i u v hh
        exact ⟨by omega, m, by rw [show v - y = (v - (y + 1)) + 1 by omega, List.getElem?_cons_succ]; exact m1, by rw [List.getElem?_cons_succ]; exact m2⟩
    by_cases h1 : c.w = 1 ∧ at'.length = w - 1
    · rw [if_pos h1, if_pos (Or.inl h1)]
      exact turn _ fun j hj => by rw [List.getElem?_append_left hj]
    · rw [if_neg h1]
      by_cases h2 : at'.length = w
      · rw [if_pos h2, if_pos (Or.inr h2)]
        exact turn _ fun j hj => rfl
      · rw [if_neg h2, if_neg (by rintro (h | h) <;> contradiction)]
        obtain ⟨a1, a2⟩ := ih (at' ++ [c]) y (by simp; omega)
        refine ⟨fun j hj => ?_, fun i u v hh => ?_⟩
        · obtain ⟨m, m1, m2⟩ := a1 j (by simp; omega)
          exact ⟨m, m1, by rw [m2, List.getElem?_append_left hj]⟩
        · cases i with
          | zero =>
            simp only [List.getElem?_cons_zero, Option.some.injEq, Prod.mk.injEq] at hh
            obtain ⟨rfl, rfl⟩ := hh
            obtain ⟨m, m1, m2⟩ := a1 at'.length (by simp)
            exact ⟨Nat.le_refl _, m, by rw [Nat.sub_self]; exact m1, by rw [m2]; simp⟩
          | succ i =>
            rw [List.getElem?_cons_succ] at hh
            rw [show (at' ++ [c]).length = at'.length + 1 by simp] at a2
            obtain ⟨b1, m, m1, m2⟩ := a2 i u v hh
            exact ⟨b1, m, m1, by rw [List.getElem?_cons_succ]; exact m2⟩

/-! ## paragraphs of a part of the lines -/
theorem paras_run : ∀ (A : List Ln) (acc : List Cell) (r : List Ln), (∀ x ∈ A, x.joined = true) → r ≠ [] → paras acc (A ++ r) = paras (acc ++ A.flatMap cutL) r := by
  intro A
  induction A with
  | nil => intro acc r _ _; simp
  | cons x A ih =>
    intro acc r h hr
    rw [List.cons_append, paras_joined (h x (by simp)) (by cases A <;> simp [hr]), ih _ r (fun y hy => h y (by simp [hy])) hr, List.flatMap_cons, List.append_assoc]
theorem paras_app : ∀ (A : List Ln) (acc : List Cell) (r : List Ln), (∀ x, A.getLast? = some x → x.joined = false) → A ≠ [] → paras acc (A ++ r) = paras acc A ++ paras [] r := by
  intro A
  induction A with
  | nil => intro acc r _ h; exact absurd rfl h
  | cons x A ih =>
    intro acc r h _
    cases A with
    | nil =>
      have := h x rfl
      rw [List.cons_append, List.nil_append, paras_last this, paras_last this]; rfl
    | cons z A =>
      have ih' := fun acc => ih acc r (fun y hy => h y (by rw [List.getLast?_cons_cons]; exact hy)) (by simp)
      cases hj : x.joined with
      | true =>
        rw [List.cons_append, paras_joined hj (by simp), paras_joined hj (by simp)]; exact ih' _
      | false =>
        rw [List.cons_append, paras_last hj, paras_last hj, ih' [], List.cons_append]
theorem paras_head : ∀ (r : List Ln) (acc : List Cell), r ≠ [] → ∃ Z P, paras acc r = trimP (acc ++ Z) :: P ∧ ∃ T, Z = (r.head?.map cutL).getD [] ++ T := by
  intro r
  induction r with
  | nil => intro acc h; exact absurd rfl h
  | cons x r ih =>
    intro acc _
    cases hj : x.joined with
    | false => exact ⟨cutL x, _, paras_last hj, [], by simp⟩
    | true =>
      cases r with
      | nil => exact ⟨cutL x, [], rfl, [], by simp⟩
      | cons y r =>
        obtain ⟨Z, P, h1, _⟩ := ih (acc ++ cutL x) (by simp)
        exact ⟨cutL x ++ Z, P, by rw [paras_joined hj (by simp), h1, List.append_assoc], Z, rfl⟩
theorem trimP_keep {l : List Cell} {i : Nat} {c : Cell} (h : l[i]? = some c) (hc : c ≠ plC) : (trimP l)[i]? = some c := by
  have key : ∀ (n : Nat) (l : List Cell), l.length = n → l[i]? = some c → (trimP l)[i]? = some c := by
    intro n
    induction n with
    | zero => intro l hl h; have := List.eq_nil_of_length_eq_zero hl; subst this; simp at h
    | succ n ih =>
      intro l hl h
      rcases List.eq_nil_or_concat l with rfl | ⟨l', d, rfl⟩
      · simp at h
      simp only [List.concat_eq_append] at *
      by_cases hd : d = plC
      · have : trimP (l' ++ [d]) = trimP l' := by rw [hd]; exact trimP_rep l' 1
        rw [this]
        refine ih l' (by simp at hl; exact hl) ?_
        by_cases hi : i < l'.length
        · rwa [List.getElem?_append_left hi] at h
        · rw [List.getElem?_append_right (by omega)] at h
          have : i - l'.length = 0 := by
            by_cases h0 : i - l'.length = 0
            · exact h0
            · rw [List.getElem?_eq_none (by simp; omega)] at h; simp at h
          rw [this] at h
          simp at h
          exact absurd (h.symm.trans hd) hc
      · have : trimP (l' ++ [d]) = l' ++ [d] := by
          unfold trimP
          rw [List.reverse_append, List.reverse_singleton, List.singleton_append, List.dropWhile_cons, if_neg (by simpa using hd)]
          simp
        rw [this]; exact h
  exact key _ l rfl h
theorem trimP_len (l : List Cell) : (trimP l).length ≤ l.length := by
  unfold trimP
  rw [List.length_reverse]
  have : ∀ (m : List Cell), (m.dropWhile (fun c => decide (c = plC))).length ≤ m.length := by
    intro m
    induction m with
    | nil => simp
    | cons a m ih => rw [List.dropWhile_cons]; split <;> simp <;> omega
  have := this l.reverse
  rwa [List.length_reverse] at this

/-! ## where a place is -/
/-- The first line of the paragraph that line y is in. -/
def firstL (l : List Ln) : Nat → Nat
  | 0 => 0
  | y + 1 => if (l[y]?.map Ln.joined).getD false then firstL l y else y + 1
theorem firstL_le (l : List Ln) : ∀ y, firstL l y ≤ y := by
  intro y
  induction y with
  | zero => exact Nat.le_refl _
  | succ y ih => unfold firstL; split <;> omega
theorem firstL_joined (l : List Ln) : ∀ y i, firstL l y ≤ i → i < y → (l[i]?.map Ln.joined).getD false = true := by
  intro y
  induction y with
  | zero => intro i _ h; omega
  | succ y ih =>
    intro i h1 h2
    unfold firstL at h1
    split at h1
    · rename_i h
      by_cases hi : i = y
      · subst hi; exact h
      · exact ih i h1 (by omega)
    · omega
theorem firstL_ahead (l : List Ln) : ∀ y i, firstL l y = i + 1 → (l[i]?.map Ln.joined).getD false = false := by
  intro y
  induction y with
  | zero => intro i h; simp [firstL] at h
  | succ y ih =>
    intro i h
    unfold firstL at h
    split at h
    · exact ih i h
    · rename_i hn
      have : y = i := by omega
      subst this
      simpa using hn
theorem paras_split (l : List Ln) (y : Nat) (hy : y < l.length) : paras [] l = paras [] (l.take (firstL l y)) ++ paras [] (l.drop (firstL l y)) := by
  have hle := firstL_le l y
  cases hf : firstL l y with
  | zero => simp [paras]
  | succ i =>
    have hj := firstL_ahead l y i hf
    conv => lhs; rw [← List.take_append_drop (i + 1) l]
    have hne : l.take (i + 1) ≠ [] := by
      intro h
      have := congrArg List.length h
      rw [List.length_take, List.length_nil] at this
      omega
    refine paras_app _ _ _ (fun x hx => ?_) hne
    rw [List.getLast?_eq_getElem?, List.length_take, Nat.min_eq_left (by omega), Nat.add_sub_cancel, List.getElem?_take_of_lt (by omega)] at hx
    rw [hx] at hj
    exact hj

theorem cutL_len (x : Ln) : (cutL x).length = countL x := by
  unfold cutL; rw [List.length_take]; unfold countL; split <;> omega
theorem cuts_len (A : List Ln) : (A.flatMap cutL).length = (A.map countL).sum := by
  rw [List.length_flatMap]
  congr 1
  exact List.map_congr_left fun x _ => cutL_len x
def headP (l : List Ln) (y : Nat) : List Cell := (paras [] (l.drop (firstL l y))).headD []
def aheadL (l : List Ln) (y : Nat) : Nat := (((l.take y).drop (firstL l y)).map countL).sum
def placeL (l : List Ln) (w x y : Nat) : Nat × Nat := withinL (headP l y).length w (x + aheadL l y) 0 (linesL (l.take (firstL l y)) w).length (linesP w (headP l y))
theorem head_eq {l : List Ln} {y : Nat} {m : Ln} (hm : l[y]? = some m) : ∃ T P, paras [] (l.drop (firstL l y)) = headP l y :: P ∧ headP l y = trimP (((l.take y).drop (firstL l y)).flatMap cutL ++ (cutL m ++ T)) := by
  have hy : y < l.length := by
    rcases Nat.lt_or_ge y l.length with h | h
    · exact h
    · rw [List.getElem?_eq_none h] at hm; simp at hm
  have hle := firstL_le l y
  have e : l.drop (firstL l y) = (l.take y).drop (firstL l y) ++ l.drop y := by
    rw [← List.drop_append_of_le_length (by rw [List.length_take]; omega), List.take_append_drop]
  have hd : l.drop y = m :: l.drop (y + 1) := by
    rw [List.drop_eq_getElem_cons hy]; congr 1
    rw [List.getElem?_eq_getElem hy] at hm; exact Option.some.inj hm
  have hj : ∀ x ∈ (l.take y).drop (firstL l y), x.joined = true := by
    intro x hx
    obtain ⟨i, hi, rfl⟩ := List.mem_iff_getElem.1 hx
    rw [List.length_drop, List.length_take] at hi
    have := firstL_joined l y (firstL l y + i) (by omega) (by omega)
    rw [List.getElem?_eq_getElem (by omega)] at this
    rw [List.getElem_drop, List.getElem_take]
    exact this
  have h1 : paras [] (l.drop (firstL l y)) = paras (((l.take y).drop (firstL l y)).flatMap cutL) (l.drop y) := by
    conv => lhs; rw [e]
    rw [paras_run _ _ _ hj (by rw [hd]; simp)]; rfl
  obtain ⟨Z, P, h2, T, h3⟩ := paras_head (l.drop y) (((l.take y).drop (firstL l y)).flatMap cutL) (by rw [hd]; simp)
  rw [hd] at h3
  have h4 : headP l y = trimP (((l.take y).drop (firstL l y)).flatMap cutL ++ Z) := by
    unfold headP; rw [h1, h2]; rfl
  exact ⟨T, P, by rw [h4, h1, h2], by rw [h4, h3]; rfl⟩
theorem lines_split {l : List Ln} {y w : Nat} {m : Ln} (hm : l[y]? = some m) : ∃ X, linesL l w = linesL (l.take (firstL l y)) w ++ (linesP w (headP l y) ++ X) := by
  have hy : y < l.length := by
    rcases Nat.lt_or_ge y l.length with h | h
    · exact h
    · rw [List.getElem?_eq_none h] at hm; simp at hm
  obtain ⟨T, P, h1, _⟩ := head_eq hm
  refine ⟨P.flatMap (linesP w), ?_⟩
  unfold linesL
  rw [paras_split l y hy, List.flatMap_append, h1, List.flatMap_cons]
theorem place_eq {l : List Ln} {w x y : Nat} (hw : 2 ≤ w) : placeL l w x y = if x + aheadL l y < (headP l y).length then (posGo w 0 (linesL (l.take (firstL l y)) w).length (headP l y)).getD (x + aheadL l y) (0, 0)
      else (min (lastN w 0 (headP l y) + (x + aheadL l y - (headP l y).length)) (w - 1), (linesL (l.take (firstL l y)) w).length + (linesP w (headP l y)).length - 1) := by
  have := within_eq hw (x + aheadL l y) (headP l y) [] 0 (linesL (l.take (firstL l y)) w).length (by simp) (Nat.zero_le _)
  simp only [List.length_nil, Nat.add_zero, Nat.zero_add, Nat.sub_zero] at this
  unfold placeL
  unfold linesP
  rw [this, if_neg (by omega)]
theorem pos_some {w : Nat} {cs : List Cell} {n k i : Nat} (h : i < cs.length) : (posGo w n k cs)[i]? = some ((posGo w n k cs).getD i (0, 0)) := by
  rw [List.getD_eq_getElem?_getD, List.getElem?_eq_getElem (by rw [posGo_len]; exact h)]; rfl
/-- Where a place is: on a line of its paragraph, and there on the very cell. -/
theorem place_at {l : List Ln} {w x y : Nat} {m : Ln} (hw : 2 ≤ w) (hm : l[y]? = some m) : (placeL l w x y).1 < w ∧ ∃ z, (linesL l w)[(placeL l w x y).2]? = some z ∧ z.cells.length = w ∧ (x + aheadL l y < (headP l y).length → z.cells[(placeL l w x y).1]? = (headP l y)[x + aheadL l y]?) := by
  obtain ⟨X, hX⟩ := lines_split (w := w) hm
  have hlen : ∀ z ∈ linesL l w, z.cells.length = w := linesL_len hw
  rw [place_eq hw]
  split
  · rename_i hlt
    have hp := pos_some (w := w) (n := 0) (k := (linesL (l.take (firstL l y)) w).length) hlt
    generalize (posGo w 0 (linesL (l.take (firstL l y)) w).length (headP l y)).getD (x + aheadL l y) (0, 0) = uv at *
    obtain ⟨u, v⟩ := uv
    obtain ⟨h1, z, h2, h3⟩ := (pos_at hw (headP l y) [] (linesL (l.take (firstL l y)) w).length (by simp)).2 _ _ _ hp
    have h4 : (linesL l w)[v]? = some z := by
      rw [hX, List.getElem?_append_right h1]
      have hb : v - (linesL (l.take (firstL l y)) w).length < (linesP w (headP l y)).length := by
        rcases Nat.lt_or_ge (v - (linesL (l.take (firstL l y)) w).length) (linesP w (headP l y)).length with h | h
        · exact h
        · unfold linesP at h; rw [List.getElem?_eq_none h] at h2; simp at h2
      rw [List.getElem?_append_left hb]; exact h2
    have h5 := hlen z (List.mem_of_getElem? h4)
    refine ⟨?_, z, h4, h5, fun _ => h3⟩
    rw [List.getElem?_eq_getElem hlt] at h3
    rcases Nat.lt_or_ge u w with h | h
    · exact h
    · rw [List.getElem?_eq_none (by omega)] at h3; simp at h3
  · rename_i hlt
    have hne : (linesP w (headP l y)).length ≠ 0 := by
      intro h
      exact linesGo_ne w (headP l y) [] (List.eq_nil_of_length_eq_zero h)
    have hb : (linesL (l.take (firstL l y)) w).length + (linesP w (headP l y)).length - 1 < (linesL l w).length := by
      rw [hX, List.length_append, List.length_append]; omega
    exact ⟨by show min _ _ < w; omega, _, List.getElem?_eq_getElem hb, hlen _ (List.getElem_mem hb), fun h => absurd h hlt⟩
/-- A cell that is no plain blank is in its paragraph. -/
theorem place_keeps {l : List Ln} {x y : Nat} {m : Ln} {c : Cell} (hm : l[y]? = some m) (hx : x < countL m) (hc : m.cells[x]? = some c) (hn : c ≠ plC) : (headP l y)[x + aheadL l y]? = some c := by
  obtain ⟨T, P, _, h⟩ := head_eq hm
  rw [h]
  refine trimP_keep ?_ hn
  unfold aheadL
  rw [List.getElem?_append_right (by rw [cuts_len]; omega), cuts_len, Nat.add_sub_cancel, List.getElem?_append_left (by rw [cutL_len]; exact hx)]
  unfold cutL
  rw [List.getElem?_take_of_lt hx]; exact hc

/-! ## where paragraphs begin -/
def startsL : Nat → Nat → List Ln → List Nat
  | _, _, [] => []
  | s, _, [_] => [s]
  | s, i, x :: y :: r => if x.joined then startsL s (i + 1) (y :: r) else s :: startsL (i + 1) (i + 1) (y :: r)
theorem startsL_joined {s i : Nat} {l : Ln} {r : List Ln} (hj : l.joined = true) (hr : r ≠ []) : startsL s i (l :: r) = startsL s (i + 1) r := by
  cases r with
  | nil => exact absurd rfl hr
  | cons y r => rw [startsL, if_pos hj]
theorem startsL_last {s i : Nat} {l : Ln} {r : List Ln} (hj : l.joined = false) : startsL s i (l :: r) = s :: startsL (i + 1) (i + 1) r := by
  cases r with
  | nil => rfl
  | cons y r => rw [startsL, if_neg (by rw [hj]; simp)]
theorem startsL_len : ∀ (r : List Ln) (s i : Nat) (acc : List Cell), (startsL s i r).length = (paras acc r).length := by
  intro r
  induction r with
  | nil => intros; rfl
  | cons x r ih =>
    intro s i acc
    cases r with
    | nil => rfl
    | cons y r =>
      cases hj : x.joined with
      | true => rw [startsL_joined hj (by simp), paras_joined hj (by simp)]; exact ih _ _ _
      | false => rw [startsL_last hj, paras_last hj, List.length_cons, List.length_cons]; exact congrArg (· + 1) (ih _ _ _)
theorem startsL_app : ∀ (A : List Ln) (s i : Nat) (r : List Ln), (∀ x, A.getLast? = some x → x.joined = false) → A ≠ [] → startsL s i (A ++ r) = startsL s i A ++ startsL (i + A.length) (i + A.length) r := by
  intro A
  induction A with
  | nil => intro s i r _ h; exact absurd rfl h
  | cons x A ih =>
    intro s i r h _
    cases A with
    | nil =>
      have := h x rfl
      rw [List.cons_append, List.nil_append, startsL_last this, startsL_last this]; rfl
    | cons z A =>
      have ih' := fun s i => ih s i r (fun y hy => h y (by rw [List.getLast?_cons_cons]; exact hy)) (by simp)
      have e : ∀ n, n + (x :: z :: A).length = n + 1 + (z :: A).length := fun n => by simp; omega
      cases hj : x.joined with
      | true => rw [List.cons_append, startsL_joined hj (by simp), startsL_joined hj (by simp), e]; exact ih' _ _
      | false => rw [List.cons_append, startsL_last hj, startsL_last hj, ih' _ _, e, List.cons_append]
theorem startsL_lt : ∀ (r : List Ln) (s i : Nat), s ≤ i → ∀ k ∈ startsL s i r, k < i + r.length := by
  intro r
  induction r with
  | nil => intro s i _ k hk; simp [startsL] at hk
  | cons x r ih =>
    intro s i hs k hk
    cases r with
    | nil => simp only [startsL, List.mem_singleton] at hk; simp; omega
    | cons y r =>
      cases hj : x.joined with
      | true =>
        rw [startsL_joined hj (by simp)] at hk
        have := ih s (i + 1) (by omega) k hk
        simp only [List.length_cons] at this ⊢; omega
      | false =>
        rw [startsL_last hj] at hk
        rcases List.mem_cons.1 hk with rfl | hk
        · simp; omega
        · have := ih (i + 1) (i + 1) (Nat.le_refl _) k hk
          simp only [List.length_cons] at this ⊢; omega
theorem startsL_ge : ∀ (r : List Ln) (s i : Nat), s ≤ i → ∀ k ∈ startsL s i r, s ≤ k := by
  intro r
  induction r with
  | nil => intro s i _ k hk; simp [startsL] at hk
  | cons x r ih =>
    intro s i hs k hk
    cases r with
    | nil => simp only [startsL, List.mem_singleton] at hk; omega
    | cons y r =>
      cases hj : x.joined with
      | true => rw [startsL_joined hj (by simp)] at hk; exact ih s (i + 1) (by omega) k hk
      | false =>
        rw [startsL_last hj] at hk
        rcases List.mem_cons.1 hk with rfl | hk
        · exact Nat.le_refl _
        · have := ih (i + 1) (i + 1) (Nat.le_refl _) k hk; omega
theorem startsL_run : ∀ (A : List Ln) (s i : Nat) (r : List Ln), (∀ x ∈ A, x.joined = true) → r ≠ [] → startsL s i (A ++ r) = startsL s (i + A.length) r := by
  intro A
  induction A with
  | nil => intro s i r _ _; rfl
  | cons x A ih =>
    intro s i r h hr
    rw [List.cons_append, startsL_joined (h x (by simp)) (by cases A <;> simp [hr]), ih s (i + 1) r (fun y hy => h y (by simp [hy])) hr, List.length_cons, show i + 1 + A.length = i + (A.length + 1) by omega]
/-- The first start of what is left, and those behind it, which lie beyond the lines that go on. -/
theorem startsL_head : ∀ (r : List Ln) (s i : Nat), s ≤ i → r ≠ [] → ∃ S, startsL s i r = s :: S ∧ ∀ k ∈ S, i < k := by
  intro r
  induction r with
  | nil => intro s i _ h; exact absurd rfl h
  | cons x r ih =>
    intro s i hs _
    cases r with
    | nil => exact ⟨[], rfl, by simp⟩
    | cons y r =>
      cases hj : x.joined with
      | true =>
        obtain ⟨S, h1, h2⟩ := ih s (i + 1) (by omega) (by simp)
        exact ⟨S, by rw [startsL_joined hj (by simp), h1], fun k hk => by have := h2 k hk; omega⟩
      | false => exact ⟨_, startsL_last hj, fun k hk => by have := startsL_ge _ _ _ (Nat.le_refl _) k hk; omega⟩
theorem starts_at {l : List Ln} {y : Nat} {m : Ln} (hm : l[y]? = some m) : ∃ S, startsL 0 0 l = startsL 0 0 (l.take (firstL l y)) ++ firstL l y :: S ∧ (∀ k ∈ startsL 0 0 (l.take (firstL l y)), k < firstL l y) ∧ ∀ k ∈ S, y < k := by
  have hy : y < l.length := by
    rcases Nat.lt_or_ge y l.length with h | h
    · exact h
    · rw [List.getElem?_eq_none h] at hm; simp at hm
  have hle := firstL_le l y
  have e : l.drop (firstL l y) = (l.take y).drop (firstL l y) ++ l.drop y := by
    rw [← List.drop_append_of_le_length (by rw [List.length_take]; omega), List.take_append_drop]
  have hj : ∀ x ∈ (l.take y).drop (firstL l y), x.joined = true := by
    intro x hx
    obtain ⟨i, hi, rfl⟩ := List.mem_iff_getElem.1 hx
    rw [List.length_drop, List.length_take] at hi
    have := firstL_joined l y (firstL l y + i) (by omega) (by omega)
    rw [List.getElem?_eq_getElem (by omega)] at this
    rw [List.getElem_drop, List.getElem_take]
    exact this
  have hne : l.drop y ≠ [] := by
    intro h
    have := congrArg List.length h
    rw [List.length_drop, List.length_nil] at this; omega
  have h1 : startsL (firstL l y) (firstL l y) (l.drop (firstL l y)) = startsL (firstL l y) y (l.drop y) := by
    conv => lhs; rw [e]
    rw [startsL_run _ _ _ _ hj hne, List.length_drop, List.length_take, show firstL l y + (min y l.length - firstL l y) = y by omega]
  obtain ⟨S, h2, h3⟩ := startsL_head (l.drop y) (firstL l y) y hle hne
  rw [h2] at h1
  refine ⟨S, ?_, ?_, h3⟩
  · cases hf : firstL l y with
    | zero =>
      rw [hf] at h1
      simp only [List.take_zero, List.drop_zero] at h1 ⊢
      rw [h1]; rfl
    | succ i =>
      have hj := firstL_ahead l y i hf
      rw [hf] at h1
      have hn2 : l.take (i + 1) ≠ [] := by
        intro h
        have := congrArg List.length h
        rw [List.length_take, List.length_nil] at this
        omega
      conv => lhs; rw [← List.take_append_drop (i + 1) l]
      rw [startsL_app _ _ _ _ (fun x hx => ?_) hn2, Nat.zero_add, List.length_take, Nat.min_eq_left (by omega), h1]
      rw [List.getLast?_eq_getElem?, List.length_take, Nat.min_eq_left (by omega), Nat.add_sub_cancel, List.getElem?_take_of_lt (by omega)] at hx
      rw [hx] at hj
      exact hj
  · intro k hk
    have := startsL_lt _ _ _ (Nat.le_refl _) k hk
    rw [List.length_take] at this; omega
end Go.Proofs.YtbkhjpclnfljbaaDoor
/- Lines of cells, as they lie. -/
set_option linter.unusedSimpArgs false
set_option linter.unusedVariables false
set_option maxHeartbeats 1000000
set_option maxRecDepth 100000
namespace Go.Proofs.YtbkhjpclnfljbaaDoor
open Go Go.Jx

/-- A load that is not done. -/
theorem CL_none {recs rs : List Rec} {dst : Option Nat} {agg : Option Nat} {x : Rnd} {g : Option (Nat × Bool)} {lo hi : List Nat} {l : List DI} {r : Rec} {e : List AV} {h h' : Heap}
    (hr : RecIs ⟨⟨dst, .load agg x, g⟩, 1, lo, hi⟩ e h h' r) (hx : rd e x = undefA) (k : CL recs l rs) : CL recs (⟨⟨dst, .load agg x, g⟩, 1, lo, hi⟩ :: l) (r :: rs) := by
  unfold CL at k ⊢
  unfold checkLoads
  rw [k]
  obtain ⟨h1, h2, h3⟩ := hr
  cases hon : r.on with
  | false => simp
  | true =>
    obtain ⟨agg', x', hop, hx', hv⟩ := h3 rfl hon
    simp only [MOp.load.injEq] at hop
    obtain ⟨rfl, rfl⟩ := hop
    rw [hx', hx] at hv
    cases agg <;> simp [loadA, undefA] at hv

structure LnH where
  v : SV
  j : Bool
  s : Bool
def lnE : El LnH := ⟨3, fun l => [l.v, .bool l.j, .bool l.s], fun l => match l with | [v, .bool j, .bool s] => ⟨v, j, s⟩ | _ => ⟨.nils, false, false⟩, ⟨.nils, false, false⟩, fun _ => rfl, by decide, fun _ => rfl⟩
abbrev LnC := LnH × List Cell
def lnOf (g : LnC) : Ln := ⟨g.2, g.1.j, g.1.s⟩
def lnC0 : LnC := (⟨.nils, false, false⟩, [])
/-- What is in a part. -/
def InP (c : Hp) : Ro := fun id o => (id, o) ∈ c
theorem InP.now {R : Ro} {M : List Hp} {h : Heap} {c : Hp} (s : Sep R M h) (hc : c ∈ M) : (InP c).le (Now h) := fun id o k => s.get (id, o) (List.mem_flatten.2 ⟨c, hc, k⟩)
theorem InP.add (R : Ro) (c : Hp) : (InP c).le (R.add c) := fun _ _ k => .inr k
theorem InP.left (c d : Hp) : (InP c).le (InP (c ++ d)) := fun _ _ k => List.mem_append_left _ k
theorem InP.right (c d : Hp) : (InP d).le (InP (c ++ d)) := fun _ _ k => List.mem_append_right _ k
/-- Lines that are only read. -/
def LnsR (R : Ro) (v : SV) (G : List LnC) : Prop := SlR lnE R v (G.map Prod.fst) ∧ ∀ g ∈ G, SlR cellE R g.1.v g.2
theorem LnsR.mono {R R' : Ro} {v : SV} {G : List LnC} (l : R.le R') (p : LnsR R v G) : LnsR R' v G := ⟨p.1.mono l, fun g hg => (p.2 g hg).mono l⟩
theorem LnsR.ln {R : Ro} {v : SV} {G : List LnC} (p : LnsR R v G) : Len v G.length := by have := p.1.ln; rwa [List.length_map] at this
theorem LnsR.row {R : Ro} {v : SV} {G : List LnC} (p : LnsR R v G) {i : Nat} (hi : i < G.length) : SlR cellE R ((G.map Prod.fst).getD i lnE.dflt).v ((G.map Prod.snd).getD i []) := by
  rw [getD_map_fst G i lnE.dflt [], getD_map_snd G i lnE.dflt []]
  exact p.2 _ (getD_mem hi)
/-- The i-th line, as it is read. -/
abbrev atH (G : List LnC) (i : Nat) : LnH := (G.map Prod.fst).getD (i : Int).toNat lnE.dflt
abbrev atC (G : List LnC) (i : Nat) : List Cell := (G.map Prod.snd).getD i []
abbrev atL (G : List LnC) (i : Nat) : Ln := ⟨atC G i, (atH G i).j, (atH G i).s⟩
theorem LnsR.at {R : Ro} {v : SV} {G : List LnC} (p : LnsR R v G) {i : Nat} (hi : i < G.length) : SlR cellE R (atH G i).v (atC G i) := p.row hi
theorem atC_len {G : List LnC} {n i : Nat} (h : ∀ g ∈ G, g.2.length ≤ n) (hi : i < G.length) : (atC G i).length ≤ n := by
  show ((G.map Prod.snd).getD i []).length ≤ n
  rw [getD_map_snd G i lnE.dflt []]; exact h _ (getD_mem hi)
theorem LnsR.now {R : Ro} {M : List Hp} {h : Heap} {v : SV} {G : List LnC} (s : Sep R M h) (p : LnsR R v G) : LnsR (Now h) v G := p.mono s.le
/-- Slices, that stand in a part. -/
theorem NsR.nowP {R : Ro} {M : List Hp} {h : Heap} {c : Hp} {v : SV} {G : List (SV × List Cell)} (s : Sep R M h) (hc : c ∈ M) (p : NsR cellE (InP c) v G) : NsR cellE (Now h) v G := p.mono (InP.now s hc)
theorem LnsR.nowP {R : Ro} {M : List Hp} {h : Heap} {c : Hp} {v : SV} {G : List LnC} (s : Sep R M h) (hc : c ∈ M) (p : LnsR (InP c) v G) : LnsR (Now h) v G := p.mono (InP.now s hc)
/-- The i-th line. -/
theorem lnOf_at {G : List LnC} {i : Nat} (hi : i < G.length) : (G.map lnOf)[i]? = some ⟨(G.map Prod.snd).getD i [], ((G.map Prod.fst).getD i lnE.dflt).j, ((G.map Prod.fst).getD i lnE.dflt).s⟩ := by
  rw [List.getElem?_map, List.getElem?_eq_getElem hi, getD_map_fst G i lnE.dflt [], getD_map_snd G i lnE.dflt [], List.getD_eq_getElem?_getD, List.getElem?_eq_getElem hi]; rfl
theorem lnOf_drop {G : List LnC} {i : Nat} (hi : i < G.length) : (G.map lnOf).drop i = ⟨(G.map Prod.snd).getD i [], ((G.map Prod.fst).getD i lnE.dflt).j, ((G.map Prod.fst).getD i lnE.dflt).s⟩ :: (G.map lnOf).drop (i + 1) := by
  have h := lnOf_at hi
  have hl : i < (G.map lnOf).length := by rw [List.length_map]; exact hi
  rw [List.drop_eq_getElem_cons hl]; congr 1
  rw [List.getElem?_eq_getElem hl] at h; exact Option.some.inj h
theorem AccS.inP {E : El Cell} {t : TypeId} {v : SV} {L : List Cell} {c : Hp} (p : AccS E t v L c) : SlR E (InP c) v L := p.1.inR fun _ k => k
theorem AccS.inPl {t : TypeId} {v : SV} {L : List LnH} {c : Hp} (p : AccS lnE t v L c) : SlR lnE (InP c) v L := p.1.inR fun _ k => k
theorem AccS.inPs {t : TypeId} {v : SV} {L : List SV} {c : Hp} (p : AccS svEl t v L c) : SlR svEl (InP c) v L := p.1.inR fun _ k => k
theorem AccS.inPi {k : IntKind} {t : TypeId} {v : SV} {L : List Int} {c : Hp} (p : AccS (intEl k) t v L c) : SlR (intEl k) (InP c) v L := p.1.inR fun _ k => k
theorem lnOf_dropH {G : List LnC} {i : Nat} (hi : i < G.length) : (G.map lnOf).drop i = atL G i :: (G.map lnOf).drop (i + 1) := lnOf_drop hi
theorem lnOf_atH {G : List LnC} {i : Nat} (hi : i < G.length) : (G.map lnOf)[i]? = some (atL G i) := lnOf_at hi
theorem countL_le (l : Ln) : countL l ≤ l.cells.length := by unfold countL; split <;> omega
end Go.Proofs.YtbkhjpclnfljbaaDoor
/- Characters as bytes; what is written into a builder of strings. -/
set_option linter.unusedSimpArgs false
set_option linter.unusedVariables false
set_option maxHeartbeats 1000000
set_option maxRecDepth 100000
namespace Go.Proofs.YtbkhjpclnfljbaaDoor
open Go Go.Jx

/-! ## plain -/
def intsB (s : List UInt8) : List Int := s.map fun b => (b.toNat : Int)
def utf8 (r : Int) : List UInt8 := (Utf8.encode r).data.toList
theorem intsB_length (s : List UInt8) : (intsB s).length = s.length := by simp [intsB]
theorem intsB_append (s t : List UInt8) : intsB (s ++ t) = intsB s ++ intsB t := by simp [intsB]
theorem utf8_length (r : Int) : (utf8 r).length ≤ 4 := by
  unfold utf8 Utf8.encode
  simp only
  generalize (if Utf8.valid r = true then r.toNat else Utf8.runeError) = c
  by_cases h1 : c < 128
  · rw [if_pos h1]; simp
  rw [if_neg h1]
  by_cases h2 : c < 2048
  · rw [if_pos h2]; simp
  rw [if_neg h2]
  by_cases h3 : c < 65536
  · rw [if_pos h3]; simp
  · rw [if_neg h3]; simp

theorem bits_and : ∀ x : Fin 256, (BitVec.ofInt 8 (x.val : Int) &&& BitVec.ofInt 8 63).toNat = x.val % 64 := by decide +kernel
theorem bits_or128 : ∀ x : Fin 64, (BitVec.ofInt 8 128 ||| BitVec.ofInt 8 (x.val : Int)).toNat = 128 + x.val := by decide +kernel
theorem bits_or192 : ∀ x : Fin 32, (BitVec.ofInt 8 192 ||| BitVec.ofInt 8 (x.val : Int)).toNat = 192 + x.val := by decide +kernel
theorem bits_or224 : ∀ x : Fin 16, (BitVec.ofInt 8 224 ||| BitVec.ofInt 8 (x.val : Int)).toNat = 224 + x.val := by decide +kernel
theorem bits_or240 : ∀ x : Fin 8, (BitVec.ofInt 8 240 ||| BitVec.ofInt 8 (x.val : Int)).toNat = 240 + x.val := by decide +kernel

/-- A byte behind the first one. -/
theorem byte_next (x : Int) (hx : 0 ≤ x) : IntKind.u8.wrap (BitVec.ofInt IntKind.u8.bits 128 ||| BitVec.ofInt IntKind.u8.bits (IntKind.u8.wrap (BitVec.ofInt IntKind.u8.bits (IntKind.u8.wrap x) &&& BitVec.ofInt IntKind.u8.bits 63).toNat)).toNat = 128 + x % 64 := by
  have h1 : IntKind.u8.wrap x = (((x % 256).toNat : Nat) : Int) := by rw [IntKind.wrap_u8]; omega
  have h2 := bits_and ⟨(x % 256).toNat, by omega⟩
  simp only at h2
  rw [h1, show IntKind.u8.bits = 8 from rfl, h2, show IntKind.u8.wrap ((((x % 256).toNat % 64 : Nat) : Int)) = (((x % 256).toNat % 64 : Nat) : Int) from IntWalk.u8_in _ (by omega)]
  have h3 := bits_or128 ⟨(x % 256).toNat % 64, by omega⟩
  simp only at h3
  rw [h3, IntKind.wrap_u8]
  omega
theorem byte_192 (x : Int) (hx : 0 ≤ x ∧ x < 32) : IntKind.u8.wrap (BitVec.ofInt IntKind.u8.bits 192 ||| BitVec.ofInt IntKind.u8.bits x).toNat = 192 + x := by
  rw [show IntKind.u8.bits = 8 from rfl]
  have h := bits_or192 ⟨x.toNat, by omega⟩
  simp only at h
  rw [show ((x.toNat : Nat) : Int) = x by omega] at h
  rw [h, IntKind.wrap_u8]; omega
theorem byte_224 (x : Int) (hx : 0 ≤ x ∧ x < 16) : IntKind.u8.wrap (BitVec.ofInt IntKind.u8.bits 224 ||| BitVec.ofInt IntKind.u8.bits x).toNat = 224 + x := by
  rw [show IntKind.u8.bits = 8 from rfl]
  have h := bits_or224 ⟨x.toNat, by omega⟩
  simp only at h
  rw [show ((x.toNat : Nat) : Int) = x by omega] at h
  rw [h, IntKind.wrap_u8]; omega
theorem byte_240 (x : Int) (hx : 0 ≤ x ∧ x < 8) : IntKind.u8.wrap (BitVec.ofInt IntKind.u8.bits 240 ||| BitVec.ofInt IntKind.u8.bits x).toNat = 240 + x := by
  rw [show IntKind.u8.bits = 8 from rfl]
  have h := bits_or240 ⟨x.toNat, by omega⟩
  simp only at h
  rw [show ((x.toNat : Nat) : Int) = x by omega] at h
  rw [h, IntKind.wrap_u8]; omega

theorem u8n (n : Nat) (h : n < 256) : ((UInt8.ofNat n).toNat : Int) = n := by
  rw [UInt8.toNat_ofNat']; omega
theorem utf8_1 {r : Int} (h : 0 ≤ r ∧ r < 128) : intsB (utf8 r) = [r] := by
  have hv : Utf8.valid r = true := by unfold Utf8.valid; simp; omega
  unfold utf8 Utf8.encode
  simp only [hv, if_true]
  rw [if_pos (by omega)]
  simp only [intsB, List.map_cons, List.map_nil]
  rw [u8n _ (by omega)]
  congr 1; omega
theorem utf8_2 {r : Int} (h : 128 ≤ r ∧ r ≤ 2047) : intsB (utf8 r) = [192 + r / 64, 128 + r % 64] := by
  have hv : Utf8.valid r = true := by unfold Utf8.valid; simp; omega
  unfold utf8 Utf8.encode
  simp only [hv, if_true]
  rw [if_neg (by omega), if_pos (by omega)]
  simp only [intsB, List.map_cons, List.map_nil]
  rw [u8n _ (by omega), u8n _ (by omega)]
  congr 1
  · omega
  · congr 1; omega
theorem utf8_3 {r : Int} (h : 2047 < r ∧ r ≤ 65535) (hs : r < 55296 ∨ 57343 < r) : intsB (utf8 r) = [224 + r / 4096, 128 + r / 64 % 64, 128 + r % 64] := by
  have hv : Utf8.valid r = true := by unfold Utf8.valid; simp; omega
  unfold utf8 Utf8.encode
  simp only [hv, if_true]
  rw [if_neg (by omega), if_neg (by omega), if_pos (by omega)]
  simp only [intsB, List.map_cons, List.map_nil]
  rw [u8n _ (by omega), u8n _ (by omega), u8n _ (by omega)]
  congr 1
  · omega
  · congr 1
    · omega
    · congr 1; omega
theorem utf8_4 {r : Int} (h : 65535 < r ∧ r ≤ 1114111) : intsB (utf8 r) = [240 + r / 262144, 128 + r / 4096 % 64, 128 + r / 64 % 64, 128 + r % 64] := by
  have hv : Utf8.valid r = true := by unfold Utf8.valid; simp; omega
  unfold utf8 Utf8.encode
  simp only [hv, if_true]
  rw [if_neg (by omega), if_neg (by omega), if_neg (by omega)]
  simp only [intsB, List.map_cons, List.map_nil]
  rw [u8n _ (by omega), u8n _ (by omega), u8n _ (by omega), u8n _ (by omega)]
  congr 1
  · omega
  · congr 1
    · omega
    · congr 1
      · omega
      · congr 1; omega
theorem utf8_0 {r : Int} (h : r < 0 ∨ (55296 ≤ r ∧ r ≤ 57343) ∨ 1114111 < r) : intsB (utf8 r) = [239, 191, 189] := by
  have hv : Utf8.valid r = false := by
    unfold Utf8.valid
    simp only [Bool.or_eq_false_iff, Bool.and_eq_false_iff, decide_eq_false_iff_not]
    omega
  unfold utf8 Utf8.encode
  simp only [hv, Bool.false_eq_true, if_false]
  decide +kernel

def trimB (s : List UInt8) (c : UInt8) : List UInt8 := (s.reverse.dropWhile (· == c)).reverse
theorem trimB_nil (c : UInt8) : trimB [] c = [] := rfl
theorem trimB_snoc (s : List UInt8) (b c : UInt8) : trimB (s ++ [b]) c = if b = c then trimB s c else s ++ [b] := by
  unfold trimB
  rw [List.reverse_append, List.reverse_singleton, List.singleton_append, List.dropWhile_cons]
  by_cases h : b = c
  · rw [if_pos (by simpa using h), if_pos h]
  · rw [if_neg (by simpa using h), if_neg h]; simp
theorem trimB_take (s : List UInt8) (c : UInt8) (h : 0 < s.length) : trimB s c = if s.getD (s.length - 1) 0 = c then trimB (s.take (s.length - 1)) c else s := by
  have e : s = s.take (s.length - 1) ++ [s.getD (s.length - 1) 0] := by
    conv => lhs; rw [← List.take_append_drop (s.length - 1) s]
    congr 1
    rw [List.drop_eq_getElem_cons (by omega), List.drop_of_length_le (by omega), List.getD_eq_getElem?_getD, List.getElem?_eq_getElem (by omega)]; rfl
  generalize s.getD (s.length - 1) 0 = b at *
  generalize s.take (s.length - 1) = t at *
  subst e
  exact trimB_snoc t b c
theorem trimB_length (s : List UInt8) (c : UInt8) : (trimB s c).length ≤ s.length := by
  unfold trimB
  rw [List.length_reverse]
  have := (List.dropWhile_sublist (p := (· == c)) (l := s.reverse)).length_le
  simpa using this


theorem w60 (s : List UInt8) (c : UInt8) (h : Heap) (hl : s.length ≤ 9000000000000000000) : Wc DD 60 [.sc (.str s), .sc (.int .u8 (c.toNat : Int))] h fun w h' => w = .sc (.str (trimB s c)) ∧ h' = h := by
  have hs := Sep.entry h
  refine W_enter d60 ?_
  show W _ (.code m60_code [.sc (.str s), .sc (.int .u8 (c.toNat : Int)), undefA, undefA, undefA, undefA, undefA, undefA, undefA, undefA, undefA, undefA, undefA, undefA, undefA, undefA, undefA, undefA, undefA, undefA, undefA, undefA, undefA] _) _
  unfold m60_code
  repeat' (first
    | (refine K_ops ?_; first
      | refine W_fastB rfl ?_
      | refine W_nil ?_
    )
    | (refine K_code ?_; first
      | refine W_seq ?_
      | refine W_ops ?_
      | refine W_block ?_
    )
    | refine seqK_n ?_)
  refine W_loopB [0, 5, 6, 7, 8, 9, 10, 11, 12, 13, 14, 15, 16, 17, 18, 19, 20, 21] [0, 1, 2, 3, 4, 5, 6, 7, 8, 9, 10, 11, 12, 13, 14, 15, 16, 17, 18, 19, 20, 21, 22] (fun n' sl h' => ∃ (t : List UInt8), sl = [(0, .sc (.str t))] ∧ n' = t.length ∧ t.length ≤ s.length ∧ h' = h ∧ trimB s c = trimB t c) ?_ ?_
  · refine ⟨_, _, ⟨s, rfl, rfl, Nat.le_refl _, rfl, rfl⟩, EnvB.of rfl⟩
  rintro _ _ us _ h2 ⟨t, rfl, rfl, hk, rfl, hw⟩ he
  refine W_spell he rfl ?_
  clear he
  unfold m60_l1
  by_cases h0 : t.length = 0
  · have ht : t = [] := List.length_eq_zero_iff.1 h0
    subst ht
    repeat' (first
      | (refine K_ops ?_; first
        | refine W_fastB rfl ?_
        | refine W_nil ?_
        | (refine K_guard ?_; first
          | refine W_guard_off rfl rfl (W_norm rfl ?_)
        )
        | (refine K_pick ?_; first
          | refine W_pick_f rfl rfl (W_norm rfl ?_)
        )
      )
      | (refine K_code ?_; first
        | refine W_seq ?_
        | refine W_ops ?_
        | refine W_cond_f rfl ?_
        | refine W_ret ?_
        | refine W_exit ?_
      )
      | refine seqK_n ?_
      | refine seqK_x ?_
      | refine blockK_e ?_
      | refine invK_x ?_
      | (refine fnK_r rfl ?_; try dsimp only [gd_z, gd_s]))
    exact ⟨_, rfl, by rw [hw]; rfl, rfl⟩
  · have e := trimB_take t c (by omega)
    have n1 : ((t.length : Int) - 1).toNat = t.length - 1 := by omega
    repeat' (first
      | (refine K_ops ?_; first
        | refine W_fastB rfl ?_
        | refine W_nil ?_
        | (refine K_guard ?_; first
          | refine W_guard_on rfl ?_
          | (refine W_guardT rfl (fun hc => ?_) (fun hc => ?_) <;> (try rw [hc]) <;> (try simp only [decide_eq_true_eq, decide_eq_false_iff_not, beq_iff_eq, beq_eq_false_iff_ne, bne_iff_ne, bne_eq_false_iff_eq, Bool.not_eq_true', Bool.not_eq_false', Int.not_lt, Int.not_le, ne_eq, reduceCtorEq, not_true_eq_false, not_false_eq_true, Decidable.not_not] at hc) <;> (try (exfalso; omega)) <;> (try refine W_norm rfl ?_))
        )
        | (refine K_bin ?_; first
          | (refine W_sub rfl rfl (IntWalk.i64_in _ (by first | omega | (simp only [List.length_set, List.length_append, List.length_take, List.length_drop, List.length_replicate, List.length_cons, List.length_nil, decs_length, List.length_map]; omega))) ?_; refine W_norm rfl ?_)
        )
        | (refine K_pick ?_; first
          | refine W_pick_t rfl rfl (W_norm rfl ?_)
        )
        | (refine W_sliceStrTo rfl rfl ⟨(by first | omega | (simp only [List.length_set, List.length_append, List.length_take, List.length_drop, List.length_replicate, List.length_cons, List.length_nil, decs_length, List.length_map]; omega)), (by first | omega | (simp only [List.length_set, List.length_append, List.length_take, List.length_drop, List.length_replicate, List.length_cons, List.length_nil, decs_length, List.length_map]; omega))⟩ ?_; refine W_norm rfl ?_)
        | (refine W_idxStr rfl rfl ⟨(by first | omega | (simp only [List.length_set, List.length_append, List.length_take, List.length_drop, List.length_replicate, List.length_cons, List.length_nil, decs_length, List.length_map]; omega)), (by first | omega | (simp only [List.length_set, List.length_append, List.length_take, List.length_drop, List.length_replicate, List.length_cons, List.length_nil, decs_length, List.length_map]; omega))⟩ ?_; refine W_norm rfl ?_)
      )
      | (refine K_code ?_; first
        | refine W_seq ?_
        | refine W_ops ?_
        | (refine W_cond rfl (fun hc => ?_) (fun hc => ?_) <;> (try rw [hc]) <;> (try simp only [decide_eq_true_eq, decide_eq_false_iff_not, beq_iff_eq, beq_eq_false_iff_ne, bne_iff_ne, bne_eq_false_iff_eq, Bool.not_eq_true', Bool.not_eq_false', Int.not_lt, Int.not_le, ne_eq, reduceCtorEq, not_true_eq_false, not_false_eq_true, Decidable.not_not] at hc) <;> (try (exfalso; omega)) <;> (try refine W_norm rfl ?_))
        | refine W_skip ?_
        | refine W_ret ?_
        | refine W_exit ?_
        | refine W_block ?_
      )
      | refine seqK_n ?_
      | refine seqK_x ?_
      | refine blockK_n ?_
      | refine blockK_e ?_
      | refine invK_x ?_
      | refine invK_n ?_
      | (refine fnK_r rfl ?_; try dsimp only [gd_z, gd_s]))
    · rw [n1] at hc ⊢
      have hc' : t.getD (t.length - 1) 0 = c := UInt8.toNat_inj.1 (by omega)
      refine ⟨_, ?_, _, ⟨t.take (t.length - 1), rfl, rfl, ?_, rfl, ?_⟩, EnvB.of rfl⟩
      · rw [List.length_take]; omega
      · rw [List.length_take]; omega
      · rw [hw, e, if_pos hc']
    · rw [n1] at hc
      have hc' : ¬ t.getD (t.length - 1) 0 = c := fun hh => hc (by rw [hh])
      exact ⟨_, rfl, by rw [hw, e, if_neg hc'], rfl⟩



theorem w53 (s : List UInt8) (c : UInt8) (h : Heap) (hl : s.length ≤ 9000000000000000000) (hc1 : c.toNat < 128) : Wc DD 53 [.sc (.str s), .sc (.str [c])] h fun w h' => w = .sc (.str (trimB s c)) ∧ h' = h := by
  have hs := Sep.entry h
  refine W_enter d53 ?_
  show W _ (.code m53_code [.sc (.str s), .sc (.str [c]), undefA, undefA, undefA, undefA, undefA, undefA, undefA, undefA, undefA, undefA, undefA, undefA, undefA, undefA, undefA, undefA, undefA, undefA, undefA, undefA, undefA, undefA, undefA, undefA, undefA, undefA, undefA, undefA, undefA, undefA, undefA, undefA, undefA, undefA, undefA] _) _
  unfold m53_code
  by_cases h0 : s = []
  · subst h0
    repeat' (first
      | (refine K_ops ?_; first
        | refine W_fastB rfl ?_
        | refine W_nil ?_
        | (refine K_guard ?_; first
          | refine W_guard_off rfl rfl (W_norm rfl ?_)
        )
        | (refine K_pick ?_; first
          | refine W_pick_t rfl rfl (W_norm rfl ?_)
        )
      )
      | (refine K_code ?_; first
        | refine W_seq ?_
        | refine W_ops ?_
        | refine W_cond_t rfl ?_
        | refine W_ret ?_
      )
      | refine seqK_n ?_
      | refine seqK_r ?_
      | (refine fnK_r rfl ?_; try dsimp only [gd_z, gd_s]))
    exact ⟨_, rfl, rfl, rfl⟩
  · have h0' : (s == []) = false := by simpa using h0
    have hc2 : (([c].getD ((0 : Int)).toNat 0).toNat : Int) < 128 := by show (c.toNat : Int) < 128; omega
    repeat' (first
      | (refine K_ops ?_; first
        | refine W_fastB rfl ?_
        | refine W_nil ?_
        | (refine K_guard ?_; first
          | refine W_guard_on rfl ?_
          | refine W_guard_off rfl rfl (W_norm rfl ?_)
          | (refine W_guardF rfl (fun hc => ?_) (fun hc => ?_) <;> (try rw [hc]) <;> (try simp only [decide_eq_true_eq, decide_eq_false_iff_not, beq_iff_eq, beq_eq_false_iff_ne, bne_iff_ne, bne_eq_false_iff_eq, Bool.not_eq_true', Bool.not_eq_false', Int.not_lt, Int.not_le, ne_eq, reduceCtorEq, not_true_eq_false, not_false_eq_true, Decidable.not_not] at hc) <;> (try (exfalso; omega)) <;> (try refine W_norm rfl ?_))
        )
        | (refine K_call ?_; first
          | (refine W_callsN 60 rfl (w60 s c _ hl) rfl ?_; rintro _ _ ⟨rfl, rfl⟩; refine W_norm rfl ?_)
        )
        | (refine K_pick ?_; first
          | refine W_pick_t rfl rfl (W_norm rfl ?_)
          | refine W_pick_f rfl rfl (W_norm rfl ?_)
        )
        | (refine W_idxStr rfl rfl ⟨(by first | omega | (simp only [List.length_set, List.length_append, List.length_take, List.length_drop, List.length_replicate, List.length_cons, List.length_nil, decs_length, List.length_map]; omega)), (by first | omega | (simp only [List.length_set, List.length_append, List.length_take, List.length_drop, List.length_replicate, List.length_cons, List.length_nil, decs_length, List.length_map]; omega))⟩ ?_; refine W_norm rfl ?_)
      )
      | (refine K_code ?_; first
        | refine W_seq ?_
        | refine W_ops ?_
        | refine W_cond_t rfl ?_
        | refine W_cond_f rfl ?_
        | (refine W_cond rfl (fun hc => ?_) (fun hc => ?_) <;> (try rw [hc]) <;> (try simp only [decide_eq_true_eq, decide_eq_false_iff_not, beq_iff_eq, beq_eq_false_iff_ne, bne_iff_ne, bne_eq_false_iff_eq, Bool.not_eq_true', Bool.not_eq_false', Int.not_lt, Int.not_le, ne_eq, reduceCtorEq, not_true_eq_false, not_false_eq_true, Decidable.not_not] at hc) <;> (try (exfalso; omega)) <;> (try refine W_norm rfl ?_))
        | refine W_skip ?_
        | refine W_ret ?_
      )
      | refine seqK_n ?_
      | refine seqK_r ?_
      | (refine fnK_r rfl ?_; try dsimp only [gd_z, gd_s]))
    all_goals first | exact ⟨_, rfl, rfl, rfl⟩ | (exfalso; omega) | simp_all



theorem w64 {R : Ro} {M : List Hp} {h : Heap} {v : SV} {L : List Int} {c : Hp} {r : Int} (hs : Sep R (c :: M) h) (hv : AccS (intEl .u8) 5 v L c) (hl : L.length ≤ 1000000000) (hr : -2147483648 ≤ r ∧ r ≤ 2147483647) (hna : r < 0 ∨ 127 < r) :
    Wc DD 64 [.sc v, .sc (.int .i32 r)] h fun w h' => ∃ u c', w = .sc u ∧ AccS (intEl .u8) 5 u (L ++ intsB (utf8 r)) c' ∧ Sep R (c' :: M) h' := by
  have d6 : r.fdiv (2 ^ (Min.min (6 : Int).toNat IntKind.i32.bits)) = r / 64 := by rw [Int.fdiv_eq_ediv_of_nonneg _ (by decide)]; rfl
  have d12 : r.fdiv (2 ^ (Min.min (12 : Int).toNat IntKind.i32.bits)) = r / 4096 := by rw [Int.fdiv_eq_ediv_of_nonneg _ (by decide)]; rfl
  have d18 : r.fdiv (2 ^ (Min.min (18 : Int).toNat IntKind.i32.bits)) = r / 262144 := by rw [Int.fdiv_eq_ediv_of_nonneg _ (by decide)]; rfl
  rcases hna with hneg | hpos
  · have hu : IntKind.u32.wrap r = r + 4294967296 := by rw [IntKind.wrap_u32]; omega
    refine W_enter d64 ?_
    show W _ (.code m64_code [.sc v, .sc (.int .i32 r), undefA, undefA, undefA, undefA, undefA, undefA, undefA, undefA, undefA, undefA, undefA, undefA, undefA, undefA, undefA, undefA, undefA, undefA, undefA, undefA, undefA, undefA, undefA, undefA, undefA, undefA, undefA, undefA, undefA, undefA, undefA, undefA, undefA, undefA, undefA, undefA, undefA, undefA, undefA, undefA, undefA, undefA, undefA, undefA, undefA, undefA, undefA, undefA, undefA, undefA, undefA, undefA, undefA, undefA, undefA, undefA, undefA, undefA, undefA, undefA, undefA, undefA, undefA, undefA, undefA, undefA, undefA, undefA, undefA, undefA, undefA, undefA, undefA, undefA, undefA, undefA] _) _
    unfold m64_code
    repeat' (first
      | (refine K_ops ?_; first
        | refine W_fastB rfl ?_
        | refine W_nil ?_
        | (refine W_convint rfl hu ?_; refine W_norm rfl ?_)
        | (refine K_guard ?_; first
          | refine W_guard_on rfl ?_
          | (refine W_guardT rfl (fun hc => ?_) (fun hc => ?_) <;> (try rw [hc]) <;> (try simp only [decide_eq_true_eq, decide_eq_false_iff_not, beq_iff_eq, beq_eq_false_iff_ne, bne_iff_ne, bne_eq_false_iff_eq, Bool.not_eq_true', Bool.not_eq_false', Int.not_lt, Int.not_le, ne_eq, reduceCtorEq, not_true_eq_false, not_false_eq_true, Decidable.not_not] at hc) <;> (try (exfalso; omega)) <;> (try refine W_norm rfl ?_))
        )
        | (refine K_pick ?_; first
          | refine W_pick_t rfl rfl (W_norm rfl ?_)
        )
        | (refine K_bslice ?_; first
          | (refine W_appB (intEl .u8) hs 0 rfl rfl (of_decide_eq_true rfl) (by assumption) rfl rfl rfl ⟨by decide, (by first | omega | (simp only [List.length_set, List.length_append, List.length_take, List.length_drop, List.length_replicate, List.length_cons, List.length_nil, decs_length, List.length_map]; omega))⟩ ?_; clear hs; intro _ _ _ _ _ hs; try simp only [cell_back, attr_back, List.set_cons_zero, List.set_cons_succ, List.eraseIdx_cons_succ, List.eraseIdx_zero, List.tail_cons, List.nil_append, List.cons_append] at hs; refine W_norm rfl ?_)
        )
      )
      | (refine K_code ?_; first
        | refine W_seq ?_
        | refine W_ops ?_
        | (refine W_cond rfl (fun hc => ?_) (fun hc => ?_) <;> (try rw [hc]) <;> (try simp only [decide_eq_true_eq, decide_eq_false_iff_not, beq_iff_eq, beq_eq_false_iff_ne, bne_iff_ne, bne_eq_false_iff_eq, Bool.not_eq_true', Bool.not_eq_false', Int.not_lt, Int.not_le, ne_eq, reduceCtorEq, not_true_eq_false, not_false_eq_true, Decidable.not_not] at hc) <;> (try (exfalso; omega)) <;> (try refine W_norm rfl ?_))
        | refine W_ret ?_
        | refine W_block ?_
      )
      | refine seqK_n ?_
      | refine blockK_r ?_
      | (refine fnK_r rfl ?_; try dsimp only [gd_z, gd_s]))
    all_goals first | (exfalso; omega) | (rename_i ha'; refine ⟨_, rfl, _, _, rfl, ?_, hs⟩; rw [utf8_0 (by omega)]; exact ha')
  · have hu : IntKind.u32.wrap r = r := by rw [IntKind.wrap_u32]; omega
    refine W_enter d64 ?_
    show W _ (.code m64_code [.sc v, .sc (.int .i32 r), undefA, undefA, undefA, undefA, undefA, undefA, undefA, undefA, undefA, undefA, undefA, undefA, undefA, undefA, undefA, undefA, undefA, undefA, undefA, undefA, undefA, undefA, undefA, undefA, undefA, undefA, undefA, undefA, undefA, undefA, undefA, undefA, undefA, undefA, undefA, undefA, undefA, undefA, undefA, undefA, undefA, undefA, undefA, undefA, undefA, undefA, undefA, undefA, undefA, undefA, undefA, undefA, undefA, undefA, undefA, undefA, undefA, undefA, undefA, undefA, undefA, undefA, undefA, undefA, undefA, undefA, undefA, undefA, undefA, undefA, undefA, undefA, undefA, undefA, undefA, undefA] _) _
    unfold m64_code
    repeat' (first
      | (refine K_ops ?_; first
        | refine W_fastB rfl ?_
        | refine W_nil ?_
        | (refine W_convint rfl hu ?_; refine W_norm rfl ?_)
        | (refine K_guard ?_; first
          | refine W_guard_on rfl ?_
          | refine W_guard_off rfl rfl (W_norm rfl ?_)
          | (refine W_guardT rfl (fun hc => ?_) (fun hc => ?_) <;> (try rw [hc]) <;> (try simp only [decide_eq_true_eq, decide_eq_false_iff_not, beq_iff_eq, beq_eq_false_iff_ne, bne_iff_ne, bne_eq_false_iff_eq, Bool.not_eq_true', Bool.not_eq_false', Int.not_lt, Int.not_le, ne_eq, reduceCtorEq, not_true_eq_false, not_false_eq_true, Decidable.not_not] at hc) <;> (try (exfalso; omega)) <;> (try refine W_norm rfl ?_))
        )
        | (refine K_bin ?_; first
          | (refine W_shr rfl rfl (by decide) ?_; refine W_norm rfl ?_)
          | (refine W_and rfl rfl ?_; refine W_norm rfl ?_)
          | (refine W_or rfl rfl ?_; refine W_norm rfl ?_)
        )
        | (refine K_pick ?_; first
          | refine W_pick_t rfl rfl (W_norm rfl ?_)
          | refine W_pick_f rfl rfl (W_norm rfl ?_)
        )
        | (refine K_bslice ?_; first
          | (refine W_appB (intEl .u8) hs 0 rfl rfl (of_decide_eq_true rfl) (by assumption) rfl rfl rfl ⟨by decide, (by first | omega | (simp only [List.length_set, List.length_append, List.length_take, List.length_drop, List.length_replicate, List.length_cons, List.length_nil, decs_length, List.length_map]; omega))⟩ ?_; clear hs; intro _ _ _ _ _ hs; try simp only [cell_back, attr_back, List.set_cons_zero, List.set_cons_succ, List.eraseIdx_cons_succ, List.eraseIdx_zero, List.tail_cons, List.nil_append, List.cons_append] at hs; refine W_norm rfl ?_)
        )
        | (refine W_convint rfl (IntWalk.u8_in _ (by omega)) ?_; refine W_norm rfl ?_)
        | (refine W_convint rfl rfl ?_; refine W_norm rfl ?_)
      )
      | (refine K_code ?_; first
        | refine W_seq ?_
        | refine W_ops ?_
        | refine W_cond_t rfl ?_
        | refine W_cond_f rfl ?_
        | (refine W_cond rfl (fun hc => ?_) (fun hc => ?_) <;> (try rw [hc]) <;> (try simp only [decide_eq_true_eq, decide_eq_false_iff_not, beq_iff_eq, beq_eq_false_iff_ne, bne_iff_ne, bne_eq_false_iff_eq, Bool.not_eq_true', Bool.not_eq_false', Int.not_lt, Int.not_le, ne_eq, reduceCtorEq, not_true_eq_false, not_false_eq_true, Decidable.not_not] at hc) <;> (try (exfalso; omega)) <;> (try refine W_norm rfl ?_))
        | refine W_skip ?_
        | refine W_ret ?_
        | refine W_block ?_
      )
      | refine seqK_n ?_
      | refine blockK_r ?_
      | (refine fnK_r rfl ?_; try dsimp only [gd_z, gd_s]))
    · rename_i ha'
      refine ⟨_, rfl, _, _, rfl, ?_, hs⟩
      rw [utf8_2 (by omega), ← byte_192 (r / 64) (by omega), ← byte_next r (by omega), ← d6]; exact ha'
    · rename_i ha'
      refine ⟨_, rfl, _, _, rfl, ?_, hs⟩
      rw [utf8_3 (by omega) (by omega), ← byte_224 (r / 4096) (by omega), ← byte_next (r / 64) (by omega), ← byte_next r (by omega), ← d6, ← d12]; exact ha'
    · rename_i ha'
      refine ⟨_, rfl, _, _, rfl, ?_, hs⟩
      rw [utf8_3 (by omega) (by omega), ← byte_224 (r / 4096) (by omega), ← byte_next (r / 64) (by omega), ← byte_next r (by omega), ← d6, ← d12]; exact ha'
    · rename_i ha'
      refine ⟨_, rfl, _, _, rfl, ?_, hs⟩
      rw [utf8_4 (by omega), ← byte_240 (r / 262144) (by omega), ← byte_next (r / 4096) (by omega), ← byte_next (r / 64) (by omega), ← byte_next r (by omega), ← d6, ← d12, ← d18]; exact ha'
    · rename_i ha'
      refine ⟨_, rfl, _, _, rfl, ?_, hs⟩
      rw [utf8_0 (by omega)]; exact ha'
    · rename_i ha'
      refine ⟨_, rfl, _, _, rfl, ?_, hs⟩
      rw [utf8_0 (by omega)]; exact ha'

end Go.Proofs.YtbkhjpclnfljbaaDoor
/- A builder of strings, and a row's text. -/
set_option linter.unusedSimpArgs false
set_option linter.unusedVariables false
set_option maxHeartbeats 1000000
set_option maxRecDepth 100000
namespace Go.Proofs.YtbkhjpclnfljbaaDoor
open Go Go.Jx

theorem bytes_ints (s : List UInt8) : bytesOfCells ((intsB s).flatMap (intEl .u8).enc) = some s := by
  have := bytes_cells s
  unfold intsB
  rw [List.flatMap_map]
  exact this


theorem w57 {R : Ro} {M : List Hp} {h : Heap} {v : SV} {L : List Int} {c : Hp} {r : Int} (hs : Sep R (c :: M) h) (hv : AccS (intEl .u8) 5 v L c) (hl : L.length ≤ 1000000000) (hr : -2147483648 ≤ r ∧ r ≤ 2147483647) :
    Wc DD 57 [.sc v, .sc (.int .i32 r)] h fun w h' => ∃ u c', w = .sc u ∧ AccS (intEl .u8) 5 u (L ++ intsB (utf8 r)) c' ∧ Sep R (c' :: M) h' := by
  by_cases hneg : r < 0
  · have hu : IntKind.u32.wrap r = r + 4294967296 := by rw [IntKind.wrap_u32]; omega
    refine W_enter d57 ?_
    show W _ (.code m57_code [.sc v, .sc (.int .i32 r), undefA, undefA, undefA, undefA, undefA, undefA, undefA, undefA, undefA, undefA, undefA, undefA, undefA, undefA] _) _
    unfold m57_code
    repeat' (first
      | (refine K_ops ?_; first
        | refine W_fastB rfl ?_
        | refine W_nil ?_
        | (refine W_convint rfl hu ?_; refine W_norm rfl ?_)
        | (refine K_call ?_; first
          | (refine W_callsN 64 rfl (w64 hs hv hl hr (by omega)) rfl ?_; rintro _ h2 ⟨u, c', rfl, ha, hs⟩; refine W_norm rfl ?_)
        )
      )
      | (refine K_code ?_; first
        | refine W_seq ?_
        | refine W_ops ?_
        | (refine W_cond rfl (fun hc => ?_) (fun hc => ?_) <;> (try rw [hc]) <;> (try simp only [decide_eq_true_eq, decide_eq_false_iff_not, beq_iff_eq, beq_eq_false_iff_ne, bne_iff_ne, bne_eq_false_iff_eq, Bool.not_eq_true', Bool.not_eq_false', Int.not_lt, Int.not_le, ne_eq, reduceCtorEq, not_true_eq_false, not_false_eq_true, Decidable.not_not] at hc) <;> (try (exfalso; omega)) <;> (try refine W_norm rfl ?_))
        | refine W_skip ?_
        | refine W_ret ?_
      )
      | refine seqK_n ?_
      | (refine fnK_r rfl ?_; try dsimp only [gd_z, gd_s]))
    exact ⟨_, rfl, _, _, rfl, ha, hs⟩
  · have hu : IntKind.u32.wrap r = r := by rw [IntKind.wrap_u32]; omega
    refine W_enter d57 ?_
    show W _ (.code m57_code [.sc v, .sc (.int .i32 r), undefA, undefA, undefA, undefA, undefA, undefA, undefA, undefA, undefA, undefA, undefA, undefA, undefA, undefA] _) _
    unfold m57_code
    repeat' (first
      | (refine K_ops ?_; first
        | refine W_fastB rfl ?_
        | refine W_nil ?_
        | (refine W_convint rfl hu ?_; refine W_norm rfl ?_)
        | (refine K_call ?_; first
          | (refine W_callsN 64 rfl (w64 hs hv hl hr (by omega)) rfl ?_; rintro _ h2 ⟨u, c', rfl, ha, hs⟩; refine W_norm rfl ?_)
        )
        | (refine K_bslice ?_; first
          | (refine W_appB1 (intEl .u8) hs 0 rfl rfl rfl (by assumption) rfl rfl rfl ⟨by decide, (by first | omega | (simp only [List.length_set, List.length_append, List.length_take, List.length_drop, List.length_replicate, List.length_cons, List.length_nil, decs_length, List.length_map]; omega))⟩ ?_; clear hs; intro _ _ _ _ _ hs; try simp only [cell_back, attr_back, List.set_cons_zero, List.set_cons_succ, List.eraseIdx_cons_succ, List.eraseIdx_zero, List.tail_cons, List.nil_append, List.cons_append] at hs; refine W_norm rfl ?_)
        )
        | (refine W_convint rfl (IntWalk.u8_in _ (by omega)) ?_; refine W_norm rfl ?_)
      )
      | (refine K_code ?_; first
        | refine W_seq ?_
        | refine W_ops ?_
        | (refine W_cond rfl (fun hc => ?_) (fun hc => ?_) <;> (try rw [hc]) <;> (try simp only [decide_eq_true_eq, decide_eq_false_iff_not, beq_iff_eq, beq_eq_false_iff_ne, bne_iff_ne, bne_eq_false_iff_eq, Bool.not_eq_true', Bool.not_eq_false', Int.not_lt, Int.not_le, ne_eq, reduceCtorEq, not_true_eq_false, not_false_eq_true, Decidable.not_not] at hc) <;> (try (exfalso; omega)) <;> (try refine W_norm rfl ?_))
        | refine W_skip ?_
        | refine W_ret ?_
      )
      | refine seqK_n ?_
      | refine seqK_r ?_
      | (refine fnK_r rfl ?_; try dsimp only [gd_z, gd_s]))
    · rename_i ha'
      refine ⟨_, rfl, _, _, rfl, ?_, hs⟩
      rw [utf8_1 (by omega)]; exact ha'
    · exact ⟨_, rfl, _, _, rfl, ha, hs⟩



theorem w52 {R : Ro} {M : List Hp} {h : Heap} {id : Nat} {p v : SV} (hs : Sep R ([(id, .cells 83 .own [p, v])] :: M) h) (hp : p = .nilp ∨ p = .ptr id 0) :
    Wc DD 52 [.sc (.ptr id 0)] h fun w h' => w = .tup [] ∧ Sep R ([(id, .cells 83 .own [.ptr id 0, v])] :: M) h' := by
  rcases hp with rfl | rfl
  · refine W_enter d52 ?_
    show W _ (.code m52_code [.sc (.ptr id 0), undefA, undefA, undefA, undefA, undefA, undefA, undefA, undefA, undefA, undefA, undefA, undefA, undefA, undefA, undefA, undefA, undefA, undefA, undefA] _) _
    unfold m52_code
    repeat' (first
      | (refine K_ops ?_; first
        | refine W_fastB rfl ?_
        | refine W_nil ?_
        | (refine K_bin ?_; first
          | (refine W_nil_ptr_t rfl rfl rfl ?_; refine W_norm rfl ?_)
        )
        | (refine K_load ?_; first
          | (refine W_loadC hs 0 rfl rfl rfl ?_; refine W_norm rfl ?_)
        )
        | (refine K_store ?_; first
          | (refine W_storeC hs 0 rfl rfl rfl rfl (by first | decide | assumption) rfl rfl ?_; clear hs; intro _ hs; try simp only [cell_back, attr_back, List.set_cons_zero, List.set_cons_succ, List.eraseIdx_cons_succ, List.eraseIdx_zero, List.tail_cons, List.nil_append, List.cons_append] at hs; refine W_norm rfl ?_)
        )
        | (refine W_ptrUnsafe hs 0 rfl rfl rfl ?_; refine W_norm rfl ?_)
        | (refine W_unsafePtr hs 0 rfl rfl rfl ?_; refine W_norm rfl ?_)
      )
      | (refine K_code ?_; first
        | refine W_seq ?_
        | refine W_ops ?_
        | refine W_cond_t rfl ?_
      )
      | refine seqK_n ?_
      | (refine fnK_n rfl ?_; try dsimp only [gd_z, gd_s]))
    exact ⟨_, rfl, rfl, hs⟩
  · refine W_enter d52 ?_
    show W _ (.code m52_code [.sc (.ptr id 0), undefA, undefA, undefA, undefA, undefA, undefA, undefA, undefA, undefA, undefA, undefA, undefA, undefA, undefA, undefA, undefA, undefA, undefA, undefA] _) _
    unfold m52_code
    repeat' (first
      | (refine K_ops ?_; first
        | refine W_fastB rfl ?_
        | refine W_nil ?_
        | (refine K_bin ?_; first
          | (refine W_nil_ptr_f rfl rfl rfl ?_; refine W_norm rfl ?_)
          | (refine W_nePtrSame rfl rfl rfl ?_; refine W_norm rfl ?_)
        )
        | (refine K_load ?_; first
          | (refine W_loadC hs 0 rfl rfl rfl ?_; refine W_norm rfl ?_)
        )
      )
      | (refine K_code ?_; first
        | refine W_seq ?_
        | refine W_ops ?_
        | refine W_cond_f rfl ?_
        | refine W_skip ?_
      )
      | refine seqK_n ?_
      | (refine fnK_n rfl ?_; try dsimp only [gd_z, gd_s]))
    exact ⟨_, rfl, rfl, hs⟩


/-- A builder's object and what it has. -/
def Bld (id : Nat) (p v : SV) (s : List UInt8) (c : Hp) : Prop := (p = .nilp ∨ p = .ptr id 0) ∧ AccS (intEl .u8) 5 v (intsB s) c ∧ (s = [] → v = .nils)
theorem utf8_ne (r : Int) : utf8 r ≠ [] := by
  intro h
  have h1 := congrArg List.length h
  unfold utf8 Utf8.encode at h1
  simp only at h1
  generalize (if Utf8.valid r = true then r.toNat else Utf8.runeError) = c at h1
  by_cases g1 : c < 128
  · rw [if_pos g1] at h1; simp at h1
  rw [if_neg g1] at h1
  by_cases g2 : c < 2048
  · rw [if_pos g2] at h1; simp at h1
  rw [if_neg g2] at h1
  by_cases g3 : c < 65536
  · rw [if_pos g3] at h1; simp at h1
  · rw [if_neg g3] at h1; simp at h1


theorem w50 {R : Ro} {M : List Hp} {h : Heap} {id : Nat} {p v : SV} {s : List UInt8} {c : Hp} {r : Int} (hs : Sep R ([(id, .cells 83 .own [p, v])] :: c :: M) h) (hb : Bld id p v s c) (hl : s.length ≤ 900000000) (hr : -2147483648 ≤ r ∧ r ≤ 2147483647) :
    Wc DD 50 [.sc (.ptr id 0), .sc (.int .i32 r)] h fun w h' => ∃ x, w = .tup [x, .sc .nili] ∧ ∃ p' v' c', Bld id p' v' (s ++ utf8 r) c' ∧ Sep R ([(id, .cells 83 .own [p', v'])] :: c' :: M) h' := by
  obtain ⟨h1, h2, h3⟩ := hb
  have hln := h2.ln
  have hil := intsB_length s
  have hul := utf8_length r
  refine W_enter d50 ?_
  show W _ (.code m50_code [.sc (.ptr id 0), .sc (.int .i32 r), undefA, undefA, undefA, undefA, undefA, undefA, undefA, undefA, undefA, undefA, undefA, undefA, undefA, undefA, undefA, undefA, undefA, undefA, undefA, undefA, undefA, undefA, undefA, undefA, undefA, undefA, undefA, undefA] _) _
  unfold m50_code
  repeat' (first
    | (refine K_ops ?_; first
      | refine W_fastB rfl ?_
      | refine W_nil ?_
      | (refine K_call ?_; first
        | (refine W_callsN 52 rfl (w52 hs h1) rfl ?_; rintro _ h4 ⟨rfl, hs⟩; refine W_norm rfl ?_)
        | (refine W_callsN 57 rfl (w57 (hs.front 1 rfl) h2 (by omega) hr) rfl ?_; rintro _ h4 ⟨u, c', rfl, ha, t⟩; replace hs := Sep.back (M := [(id, .cells 83 .own [.ptr id 0, v])] :: c :: M) 1 t rfl; simp only [List.set_cons_succ, List.set_cons_zero] at hs; clear t; refine W_norm rfl ?_)
      )
      | (refine W_lenL rfl (by first | assumption | exact SlR.ln (by assumption) | exact AccS.ln (by assumption) | exact OwnS.ln (by assumption) | exact VwO.ln (by assumption) | exact OwnP.ln (by assumption) | exact Len.sl) ?_; refine W_norm rfl ?_)
      | (refine K_bin ?_; first
        | (refine W_sub rfl rfl rfl ?_; refine W_norm rfl ?_)
      )
      | (refine K_load ?_; first
        | (refine W_loadC hs 0 rfl rfl rfl ?_; refine W_norm rfl ?_)
      )
      | (refine K_store ?_; first
        | (refine W_storeC hs 0 rfl rfl rfl rfl (by first | decide | assumption) rfl rfl ?_; clear hs; intro _ hs; try simp only [cell_back, attr_back, List.set_cons_zero, List.set_cons_succ, List.eraseIdx_cons_succ, List.eraseIdx_zero, List.tail_cons, List.nil_append, List.cons_append] at hs; refine W_norm rfl ?_)
      )
    )
    | (refine K_code ?_; first
      | refine W_seq ?_
      | refine W_ops ?_
      | refine W_ret ?_
    )
    | refine seqK_n ?_
    | (refine fnK_r rfl ?_; try dsimp only [gd_z, gd_s]))
  exact ⟨_, rfl, _, rfl, _, _, _, ⟨.inr rfl, by rw [intsB_append]; exact ha, fun hh => absurd (List.append_eq_nil_iff.1 hh).2 (utf8_ne r)⟩, hs⟩



theorem w40 {R : Ro} {M : List Hp} {h : Heap} {id : Nat} {p v : SV} {s : List UInt8} {c : Hp} (hs : Sep R ([(id, .cells 83 .own [p, v])] :: c :: M) h) (hb : Bld id p v s c) (hl : s.length ≤ 900000000) :
    Wc DD 40 [.sc (.ptr id 0)] h fun w h' => w = .sc (.str s) ∧ Sep R ([(id, .cells 83 .own [p, v])] :: M) h' := by
  obtain ⟨h1, h2, h3⟩ := hb
  have hil := intsB_length s
  by_cases h0 : s = []
  · obtain rfl := h3 h0
    subst h0
    have hln : Len .nils 0 := .inl ⟨rfl, .inl rfl⟩
    refine W_enter d40 ?_
    show W _ (.code m40_code [.sc (.ptr id 0), undefA, undefA, undefA, undefA, undefA, undefA, undefA, undefA, undefA, undefA, undefA, undefA, undefA] _) _
    unfold m40_code
    repeat' (first
      | (refine K_ops ?_; first
        | refine W_fastB rfl ?_
        | refine W_nil ?_
        | (refine W_lenL rfl (by first | assumption | exact SlR.ln (by assumption) | exact AccS.ln (by assumption) | exact OwnS.ln (by assumption) | exact VwO.ln (by assumption) | exact OwnP.ln (by assumption) | exact Len.sl) ?_; refine W_norm rfl ?_)
        | (refine K_load ?_; first
          | (refine W_loadC hs 0 rfl rfl rfl ?_; refine W_norm rfl ?_)
        )
        | (refine W_usliceN rfl ?_; refine W_norm rfl ?_)
        | (refine W_ustringN rfl rfl ?_; refine W_norm rfl ?_)
      )
      | (refine K_code ?_; first
        | refine W_seq ?_
        | refine W_ops ?_
        | refine W_ret ?_
        | refine W_draws ?_
      )
      | refine W_dstep rfl ?_
      | refine ⟨rfl, fun rc hrec => ?_⟩
      | (refine W_dnilS (by simp only [List.reverse_cons, List.reverse_nil, List.nil_append, List.cons_append]; rfl) (by repeat' first | exact CL_nil _ _ | refine CL_skip rfl ?_ | refine CL_load (by assumption) rfl (by first | exact trivial | (repeat' first | exact trivial | refine ⟨⟨_, rfl, (by refine (congrArg (fun x => Heap.get x _) (RecIs.hh (by assumption))).trans ?_; first | rfl | exact PtR.same_get (by assumption) (by assumption) (by assumption) | exact Sep.same_get (by assumption) (by assumption) 0 0 rfl rfl | exact Sep.same_get (by assumption) (by assumption) 0 1 rfl rfl | exact Sep.same_get (by assumption) (by assumption) 1 0 rfl rfl | exact Sep.same_get (by assumption) (by assumption) 1 1 rfl rfl)⟩, ?_⟩)) (by first | exact trivial | (repeat' first | exact trivial | refine ⟨⟨_, rfl, (by refine (congrArg (fun x => Heap.get x _) (RecIs.hh' (by assumption))).trans ?_; first | rfl | exact PtR.same_get (by assumption) (by assumption) (by assumption) | exact Sep.same_get (by assumption) (by assumption) 0 0 rfl rfl | exact Sep.same_get (by assumption) (by assumption) 0 1 rfl rfl | exact Sep.same_get (by assumption) (by assumption) 1 0 rfl rfl | exact Sep.same_get (by assumption) (by assumption) 1 1 rfl rfl)⟩, ?_⟩)) ?_) ?_)
      | refine seqK_n ?_
      | (refine fnK_r rfl ?_; try dsimp only [gd_z, gd_s]))
    exact ⟨_, rfl, rfl, hs.drop 1⟩
  · have h0' : 0 < (intsB s).length := by
      rw [hil]; exact List.length_pos_iff.2 h0
    obtain ⟨id2, kd, rfl, rfl, hk⟩ := h2.pos h0'
    have h0'' : (intsB s).length ≠ 0 := by omega
    have hlen : (((intsB s).length : Nat) : Int).toNat = ((intsB s).flatMap (intEl .u8).enc).length := by
      rw [El.flatMap_len]; simp [intEl]
    have hbs := bytes_ints s
    refine W_enter d40 ?_
    show W _ (.code m40_code [.sc (.ptr id 0), undefA, undefA, undefA, undefA, undefA, undefA, undefA, undefA, undefA, undefA, undefA, undefA, undefA] _) _
    unfold m40_code
    repeat' (first
      | (refine K_ops ?_; first
        | refine W_fastB rfl ?_
        | refine W_nil ?_
        | (refine W_lenL rfl (by first | assumption | exact SlR.ln (by assumption) | exact AccS.ln (by assumption) | exact OwnS.ln (by assumption) | exact VwO.ln (by assumption) | exact OwnP.ln (by assumption) | exact Len.sl) ?_; refine W_norm rfl ?_)
        | (refine K_load ?_; first
          | (refine W_loadC hs 0 rfl rfl rfl ?_; refine W_norm rfl ?_)
        )
        | (refine W_usliceS rfl (by first | assumption | omega) ?_; refine W_norm rfl ?_)
        | (refine W_ustringS hs 1 rfl rfl rfl (by first | decide | assumption) ⟨by omega, by omega⟩ (by assumption) (by assumption) ?_; intro _ hs; try simp only [cell_back, attr_back, List.set_cons_zero, List.set_cons_succ, List.eraseIdx_cons_succ, List.eraseIdx_zero, List.tail_cons, List.nil_append, List.cons_append] at hs; refine W_norm rfl ?_)
      )
      | (refine K_code ?_; first
        | refine W_seq ?_
        | refine W_ops ?_
        | refine W_ret ?_
        | refine W_draws ?_
      )
      | refine W_dstep rfl ?_
      | refine ⟨rfl, fun rc hrec => ?_⟩
      | (refine W_dnilS (by simp only [List.reverse_cons, List.reverse_nil, List.nil_append, List.cons_append]; rfl) (by repeat' first | exact CL_nil _ _ | refine CL_skip rfl ?_ | refine CL_load (by assumption) rfl (by first | exact trivial | (repeat' first | exact trivial | refine ⟨⟨_, rfl, (by refine (congrArg (fun x => Heap.get x _) (RecIs.hh (by assumption))).trans ?_; first | rfl | exact PtR.same_get (by assumption) (by assumption) (by assumption) | exact Sep.same_get (by assumption) (by assumption) 0 0 rfl rfl | exact Sep.same_get (by assumption) (by assumption) 0 1 rfl rfl | exact Sep.same_get (by assumption) (by assumption) 1 0 rfl rfl | exact Sep.same_get (by assumption) (by assumption) 1 1 rfl rfl)⟩, ?_⟩)) (by first | exact trivial | (repeat' first | exact trivial | refine ⟨⟨_, rfl, (by refine (congrArg (fun x => Heap.get x _) (RecIs.hh' (by assumption))).trans ?_; first | rfl | exact PtR.same_get (by assumption) (by assumption) (by assumption) | exact Sep.same_get (by assumption) (by assumption) 0 0 rfl rfl | exact Sep.same_get (by assumption) (by assumption) 0 1 rfl rfl | exact Sep.same_get (by assumption) (by assumption) 1 0 rfl rfl | exact Sep.same_get (by assumption) (by assumption) 1 1 rfl rfl)⟩, ?_⟩)) ?_) ?_)
      | refine seqK_n ?_
      | (refine fnK_r rfl ?_; try dsimp only [gd_z, gd_s]))
    exact ⟨_, rfl, rfl, hs⟩


theorem getD_mem' {β : Type} {G : List β} {i : Nat} {d : β} (h : i < G.length) : G.getD i d ∈ G := getD_mem h
def textB (L : List Cell) : List UInt8 := L.flatMap fun c => if c.w = 2 then [] else utf8 c.r
theorem textB_snoc (L : List Cell) (c : Cell) : textB (L ++ [c]) = textB L ++ (if c.w = 2 then [] else utf8 c.r) := by simp [textB]
theorem textB_length (L : List Cell) : (textB L).length ≤ 4 * L.length := by
  induction L with
  | nil => simp [textB]
  | cons c L ih =>
    have h1 := utf8_length c.r
    have : textB (c :: L) = (if c.w = 2 then [] else utf8 c.r) ++ textB L := rfl
    rw [this, List.length_append, List.length_cons]
    split
    · simp; omega
    · omega

end Go.Proofs.YtbkhjpclnfljbaaDoor
/- Views of lines, in plain Lean. -/
set_option linter.unusedSimpArgs false
set_option linter.unusedVariables false
set_option maxHeartbeats 1000000
set_option maxRecDepth 100000
namespace Go.Proofs.YtbkhjpclnfljbaaDoor
open Go Go.Jx

def ln0 : Ln := ⟨[], false, false⟩
def near (n lo hi : Int) : Int := min (max n lo) hi
structure Vw where
  L : List Ln
  h : Int
  top : Int
  x : Int
  y : Int
  m : Option (Int × Int)
def wid (L : List Ln) (y : Int) : Int := (L.getD y.toNat ln0).cells.length
def toV (v : Vw) (x y : Int) : Vw :=
  { v with y := near y 0 (v.L.length - 1), x := near x 0 (wid v.L (near y 0 (v.L.length - 1)) - 1), top := near v.top (near y 0 (v.L.length - 1) - v.h + 1) (near y 0 (v.L.length - 1)) }
def moveV (v : Vw) (dx dy : Int) : Vw := toV v (v.x + near dx (-1000) 1000) (v.y + near dy (-1000) 1000)
def markV (v : Vw) : Vw := { v with m := some (v.x, v.y) }
def clearV (v : Vw) : Vw := { v with m := none }
def newV (L : List Ln) (h : Int) : Vw := ⟨L, h, max ((L.length : Int) - h) 0, 0, (L.length : Int) - 1, none⟩
structure OkL (L : List Ln) (h : Int) : Prop where
  len : 1 ≤ L.length
  big : L.length ≤ 900
  h1 : 1 ≤ h
  h2 : h ≤ 400
  cells : ∀ l ∈ L, 1 ≤ l.cells.length ∧ l.cells.length ≤ 1000
  runes : ∀ l ∈ L, ∀ c ∈ l.cells, -2147483648 ≤ c.r ∧ c.r ≤ 2147483647
structure OkV (v : Vw) : Prop where
  l : OkL v.L v.h
  y0 : 0 ≤ v.y
  y1 : v.y < v.L.length
  x0 : 0 ≤ v.x
  x1 : v.x < wid v.L v.y
  t0 : 0 ≤ v.top
  t1 : v.top ≤ v.y
  t2 : v.y < v.top + v.h
  mm : ∀ a b, v.m = some (a, b) → 0 ≤ b ∧ b < v.L.length ∧ 0 ≤ a ∧ a < wid v.L b
theorem OkL.wid {L : List Ln} {h : Int} (k : OkL L h) {y : Int} (h0 : 0 ≤ y) (h1 : y < L.length) : 1 ≤ wid L y ∧ wid L y ≤ 1000 := by
  unfold Proofs.YtbkhjpclnfljbaaDoor.wid
  have hl : y.toNat < L.length := by omega
  have := k.cells (L.getD y.toNat ln0) (by rw [List.getD_eq_getElem?_getD, List.getElem?_eq_getElem hl]; exact List.getElem_mem hl)
  omega
theorem near_in {n lo hi : Int} (h : lo ≤ hi) : lo ≤ near n lo hi ∧ near n lo hi ≤ hi := by unfold near; omega
theorem near_id {n lo hi : Int} (h : lo ≤ n) (h2 : n ≤ hi) : near n lo hi = n := by unfold near; omega
theorem newV_ok {L : List Ln} {h : Int} (k : OkL L h) : OkV (newV L h) := by
  obtain ⟨h1, h2, h3, h4, h5, _⟩ := id k
  have hw := k.wid (y := (L.length : Int) - 1) (by omega) (by omega)
  unfold newV
  exact ⟨k, by simp only; omega, by simp only; omega, by simp only; omega, by simp only; omega, by simp only; omega, by simp only; omega, by simp only; omega, fun a b hh => by simp at hh⟩
theorem toV_ok {v : Vw} (k : OkV v) (x y : Int) : OkV (toV v x y) := by
  obtain ⟨h1, h2, h3, h4, h5, _⟩ := id k.l
  have hy := near_in (n := y) (lo := 0) (hi := (v.L.length : Int) - 1) (by omega)
  have hw := k.l.wid (y := near y 0 ((v.L.length : Int) - 1)) (by omega) (by omega)
  have hx := near_in (n := x) (lo := 0) (hi := wid v.L (near y 0 ((v.L.length : Int) - 1)) - 1) (by omega)
  have ht := near_in (n := v.top) (lo := near y 0 ((v.L.length : Int) - 1) - v.h + 1) (hi := near y 0 ((v.L.length : Int) - 1)) (by omega)
  have ht0 : 0 ≤ near v.top (near y 0 ((v.L.length : Int) - 1) - v.h + 1) (near y 0 ((v.L.length : Int) - 1)) := by
    have := k.t0
    unfold near at hy ⊢
    omega
  unfold toV
  exact ⟨k.l, hy.1, by simp only; omega, hx.1, by simp only; omega, ht0, ht.2, by simp only; omega, k.mm⟩
theorem moveV_ok {v : Vw} (k : OkV v) (x y : Int) : OkV (moveV v x y) := toV_ok k _ _
theorem markV_ok {v : Vw} (k : OkV v) : OkV (markV v) := ⟨k.l, k.y0, k.y1, k.x0, k.x1, k.t0, k.t1, k.t2, fun a b h => by
  simp only [markV, Option.some.injEq, Prod.mk.injEq] at h
  obtain ⟨rfl, rfl⟩ := h
  exact ⟨k.y0, k.y1, k.x0, k.x1⟩⟩
theorem clearV_ok {v : Vw} (k : OkV v) : OkV (clearV v) := ⟨k.l, k.y0, k.y1, k.x0, k.x1, k.t0, k.t1, k.t2, fun a b h => by simp [clearV] at h⟩

/-! ### what is found -/
abbrev Spot := Int × Int
def bef (a b : Spot) : Bool := decide (a.2 < b.2 ∨ (a.2 = b.2 ∧ a.1 < b.1))
def Sorted (A : List Spot) : Prop := A.Pairwise fun a b => bef a b = true
theorem bef_trans {a b c : Spot} (h : bef a b = true) (k : bef b c = true) : bef a c = true := by
  simp only [bef, decide_eq_true_eq] at h k ⊢; omega
theorem bef_irr (a : Spot) : bef a a = false := by simp [bef]
theorem bef_asym {a b : Spot} (h : bef a b = true) : bef b a = false := by
  simp only [bef, decide_eq_true_eq, decide_eq_false_iff_not] at h ⊢; omega
theorem bef_total {a b : Spot} (h : bef a b = false) (k : bef b a = false) : a = b := by
  simp only [bef, decide_eq_false_iff_not] at h k
  exact Prod.ext (by omega) (by omega)
/-- Does a cell begin a text? -/
def begB (C : List Cell) (t : List UInt8) (x : Nat) : Bool := decide ((C.getD x cell0).w ≠ 2) && t.isPrefixOf (textB (C.drop x))
def begL (C : List Cell) (t : List UInt8) : List Nat := (List.range C.length).filter (begB C t)
def spotsL (L : List Ln) (t : List UInt8) : List Spot := (List.range L.length).flatMap fun (y : Nat) => (begL (L.getD y ln0).cells t).map fun (x : Nat) => ((x : Int), (y : Int))
theorem sorted_map (l : List Nat) (y : Nat) (h : l.Pairwise (· < ·)) : Sorted (l.map fun (x : Nat) => ((x : Int), (y : Int))) := by
  unfold Sorted
  rw [List.pairwise_map]
  exact h.imp fun {a b} hab => by
    simp only [bef, decide_eq_true_eq]
    exact .inr ⟨trivial, by omega⟩
theorem begL_sorted (C : List Cell) (t : List UInt8) : (begL C t).Pairwise (· < ·) := by
  unfold begL
  exact List.Pairwise.sublist List.filter_sublist (List.pairwise_lt_range)
theorem spotsL_mem {L : List Ln} {t : List UInt8} {p : Spot} : p ∈ spotsL L t ↔ ∃ x y : Nat, p = ((x : Int), (y : Int)) ∧ y < L.length ∧ x < (L.getD y ln0).cells.length ∧ begB (L.getD y ln0).cells t x = true := by
  unfold spotsL begL
  simp only [List.mem_flatMap, List.mem_range, List.mem_map, List.mem_filter]
  constructor
  · rintro ⟨y, hy, x, ⟨hx, hb⟩, rfl⟩; exact ⟨x, y, rfl, hy, hx, hb⟩
  · rintro ⟨x, y, rfl, hy, hx, hb⟩; exact ⟨y, hy, x, ⟨hx, hb⟩, rfl⟩
theorem spotsL_sorted (L : List Ln) (t : List UInt8) : Sorted (spotsL L t) := by
  unfold spotsL
  have key : ∀ n, Sorted ((List.range n).flatMap fun (y : Nat) => (begL (L.getD y ln0).cells t).map fun (x : Nat) => ((x : Int), (y : Int))) := by
    intro n
    induction n with
    | zero => simp [Sorted]
    | succ n ih =>
      rw [List.range_succ, List.flatMap_append]
      unfold Sorted at ih ⊢
      rw [List.pairwise_append]
      refine ⟨ih, by simpa [Sorted] using sorted_map _ n (begL_sorted _ _), ?_⟩
      intro a ha b hb
      simp only [List.mem_flatMap, List.mem_range, List.mem_map, List.mem_singleton] at ha hb
      obtain ⟨y, hy, x, _, rfl⟩ := ha
      obtain ⟨y2, rfl, x2, _, rfl⟩ := hb
      simp only [bef, decide_eq_true_eq]; omega
  exact key _
def pickF (A : List Spot) (p : Spot) : Option Spot := match A.find? (fun q => bef p q) with | some q => some q | none => A.head?
def pickB (A : List Spot) (p : Spot) : Option Spot := match (A.filter fun q => bef q p).getLast? with | some q => some q | none => A.getLast?
def pickL (A : List Spot) (p : Spot) (back : Bool) : Option Spot := if back then pickB A p else pickF A p
def findV (v : Vw) (t : List UInt8) (back : Bool) : Option Vw := (pickL (spotsL v.L t) (v.x, v.y) back).map fun p => toV v p.1 p.2
theorem pickF_mem {A : List Spot} {p q : Spot} (h : pickF A p = some q) : q ∈ A := by
  unfold pickF at h
  split at h
  · rename_i q' hq; cases h; exact List.mem_of_find?_eq_some hq
  · exact List.mem_of_head? h
theorem pickB_mem {A : List Spot} {p q : Spot} (h : pickB A p = some q) : q ∈ A := by
  unfold pickB at h
  split at h
  · rename_i q' hq
    cases h
    exact (List.mem_filter.1 (List.mem_of_getLast? hq)).1
  · exact List.mem_of_getLast? h
theorem pickL_mem {A : List Spot} {p q : Spot} {b : Bool} (h : pickL A p b = some q) : q ∈ A := by
  cases b
  · exact pickF_mem h
  · exact pickB_mem h
theorem pickL_none {A : List Spot} {p : Spot} {b : Bool} : pickL A p b = none ↔ A = [] := by
  constructor
  · intro h
    cases A with
    | nil => rfl
    | cons a A =>
      exfalso
      cases b
      · simp only [pickL, Bool.false_eq_true, if_false, pickF] at h
        split at h
        · cases h
        · simp at h
      · simp only [pickL, if_true, pickB] at h
        split at h
        · cases h
        · simp at h
  · rintro rfl
    cases b <;> simp [pickL, pickF, pickB]
/-- The first one behind a place, found from it, leads back to it. -/
theorem pick_back {A : List Spot} (hs : Sorted A) {p q : Spot} (hp : p ∈ A) (hq : pickF A p = some q) : pickB A q = some p := by
  obtain ⟨l1, l2, rfl⟩ := List.append_of_mem hp
  unfold Sorted at hs
  rw [List.pairwise_append, List.pairwise_cons] at hs
  obtain ⟨s1, ⟨s2, s3⟩, s4⟩ := hs
  have hl1 : ∀ a ∈ l1, bef a p = true := fun a ha => s4 a ha p (by simp)
  have hnone : l1.find? (fun q => bef p q) = none := List.find?_eq_none.2 fun a ha => by rw [bef_asym (hl1 a ha)]; simp
  cases l2 with
  | cons r l2 =>
    have hq' : q = r := by
      unfold pickF at hq
      rw [List.find?_append, hnone, Option.none_or, List.find?_cons, bef_irr, List.find?_cons, s2 r (by simp)] at hq
      exact (Option.some.inj hq).symm
    subst hq'
    unfold pickB
    have : (l1 ++ p :: q :: l2).filter (fun a => bef a q) = l1 ++ [p] := by
      rw [List.filter_append, List.filter_cons, if_pos (s2 q (by simp)), List.filter_cons, if_neg (by rw [bef_irr]; simp), List.filter_eq_self.2 (fun a ha => s4 a ha q (by simp))]
      have : l2.filter (fun a => bef a q) = [] := List.filter_eq_nil_iff.2 fun a ha => by
        rw [bef_asym ((List.pairwise_cons.1 s3).1 a ha)]; simp
      rw [this]
    rw [this]; simp
  | nil =>
    have hq' : (l1 ++ [p]).head? = some q := by
      unfold pickF at hq
      rw [List.find?_append, hnone, Option.none_or, List.find?_cons, bef_irr] at hq
      simpa using hq
    unfold pickB
    have : (l1 ++ [p]).filter (fun a => bef a q) = [] := by
      rw [List.filter_eq_nil_iff]
      intro a ha
      cases l1 with
      | nil =>
        simp at hq' ha
        subst hq' ha
        rw [bef_irr]; simp
      | cons b l1 =>
        simp at hq'
        subst hq'
        simp only [List.cons_append, List.mem_cons] at ha
        rcases ha with rfl | ha
        · rw [bef_irr]; simp
        · rcases List.mem_append.1 ha with ha | ha
          · rw [bef_asym ((List.pairwise_cons.1 s1).1 a ha)]; simp
          · simp at ha; subst ha
            rw [bef_asym (hl1 b (by simp))]; simp
    rw [this]; simp
/-- Who is found forwards: by what holds of him. -/
theorem find_first {A : List Spot} (hs : Sorted A) {P : Spot → Bool} {c : Spot} (hc : c ∈ A) (hP : P c = true) (hm : ∀ q ∈ A, P q = true → bef q c = false) : A.find? P = some c := by
  obtain ⟨l1, l2, rfl⟩ := List.append_of_mem hc
  unfold Sorted at hs
  rw [List.pairwise_append] at hs
  rw [List.find?_append]
  have : l1.find? P = none := List.find?_eq_none.2 fun a ha hPa => by
    have h1 := hs.2.2 a ha c (by simp)
    rw [hm a (by simp [ha]) hPa] at h1; cases h1
  rw [this, Option.none_or, List.find?_cons, hP]
theorem last_of {A : List Spot} (hs : Sorted A) {c : Spot} (hc : c ∈ A) (hm : ∀ q ∈ A, bef c q = false) : A.getLast? = some c := by
  obtain ⟨l1, l2, rfl⟩ := List.append_of_mem hc
  unfold Sorted at hs
  rw [List.pairwise_append, List.pairwise_cons] at hs
  cases l2 with
  | nil => simp
  | cons r l2 =>
    have h1 := hs.2.1.1 r (by simp)
    rw [hm r (by simp)] at h1; cases h1
theorem head_of {A : List Spot} (hs : Sorted A) {c : Spot} (hc : c ∈ A) (hm : ∀ q ∈ A, bef q c = false) : A.head? = some c := by
  obtain ⟨l1, l2, rfl⟩ := List.append_of_mem hc
  unfold Sorted at hs
  rw [List.pairwise_append] at hs
  cases l1 with
  | nil => simp
  | cons r l1 =>
    have h1 := hs.2.2 r (by simp) c (by simp)
    rw [hm r (by simp)] at h1; cases h1
theorem sorted_filter {A : List Spot} (hs : Sorted A) (P : Spot → Bool) : Sorted (A.filter P) := List.Pairwise.sublist List.filter_sublist hs
/-- Forwards: ahead of the end of the round, or behind it. -/
theorem pickF_of {A : List Spot} (hs : Sorted A) {p c : Spot} (hc : c ∈ A) (h : (bef p c = true ∧ ∀ q ∈ A, bef p q = true → bef q c = false) ∨ ((∀ q ∈ A, bef p q = false) ∧ ∀ q ∈ A, bef q c = false)) : pickF A p = some c := by
  unfold pickF
  rcases h with ⟨h1, h2⟩ | ⟨h1, h2⟩
  · rw [find_first hs hc h1 h2]
  · rw [List.find?_eq_none.2 (fun a ha => by rw [h1 a ha]; simp)]
    exact head_of hs hc h2
theorem pickB_of {A : List Spot} (hs : Sorted A) {p c : Spot} (hc : c ∈ A) (h : (bef c p = true ∧ ∀ q ∈ A, bef q p = true → bef c q = false) ∨ ((∀ q ∈ A, bef q p = false) ∧ ∀ q ∈ A, bef c q = false)) : pickB A p = some c := by
  unfold pickB
  rcases h with ⟨h1, h2⟩ | ⟨h1, h2⟩
  · rw [last_of (sorted_filter hs _) (List.mem_filter.2 ⟨hc, h1⟩) (fun q hq => h2 q (List.mem_filter.1 hq).1 (List.mem_filter.1 hq).2)]
  · rw [List.filter_eq_nil_iff.2 (fun a ha => by rw [h1 a ha]; simp)]
    exact last_of hs hc h2

/-! ### what is selected -/
/-- n cells' text, from one of them on: the first one's, whatever it is. -/
def segB (C : List Cell) (f n : Nat) : List UInt8 := (List.range n).flatMap fun k => if (C.getD (f + k) cell0).w ≠ 2 ∨ k = 0 then utf8 (C.getD (f + k) cell0).r else []
theorem segB_zero (C : List Cell) (f : Nat) : segB C f 0 = [] := rfl
theorem segB_succ (C : List Cell) (f n : Nat) : segB C f (n + 1) = segB C f n ++ (if (C.getD (f + n) cell0).w ≠ 2 ∨ n = 0 then utf8 (C.getD (f + n) cell0).r else []) := by
  unfold segB
  rw [List.range_succ, List.flatMap_append]; simp
theorem segB_length (C : List Cell) (f n : Nat) : (segB C f n).length ≤ 4 * n := by
  induction n with
  | zero => simp [segB]
  | succ n ih =>
    rw [segB_succ, List.length_append]
    have := utf8_length (C.getD (f + n) cell0).r
    split
    · omega
    · simp; omega
theorem segB_text {C : List Cell} {f : Nat} (h : f < C.length) (hw : (C.getD f cell0).w ≠ 2) : segB C f (C.length - f) = textB (C.drop f) := by
  have key : ∀ n, f + n ≤ C.length → segB C f n = textB ((C.drop f).take n) := by
    intro n
    induction n with
    | zero => intro _; simp [segB, textB]
    | succ n ih =>
      intro hn
      have h1 : (C.drop f).take (n + 1) = (C.drop f).take n ++ [C.getD (f + n) cell0] := by
        rw [List.take_add_one, List.getElem?_drop, List.getD_eq_getElem?_getD, List.getElem?_eq_getElem (by omega)]; rfl
      rw [segB_succ, ih (by omega), h1, textB_snoc]
      congr 1
      by_cases h0 : n = 0
      · subst h0
        rw [Nat.add_zero, if_pos (.inl hw), if_neg hw]
      · by_cases h2 : (C.getD (f + n) cell0).w = 2
        · rw [if_neg (by rintro (h3 | h3); exact h3 h2; exact h0 h3), if_pos h2]
        · rw [if_pos (.inl h2), if_neg h2]
  rw [key _ (by omega), List.take_of_length_le (by simp)]
/-- A line's columns, from one to another. -/
def partT (l : Ln) (a b : Int) : List UInt8 :=
  let last : Int := (l.cells.length : Int) - 1
  let b' := if b = last ∧ (l.joined = true ∧ l.short = true) then b - 1 else b
  let s := segB l.cells a.toNat (b' - a + 1).toNat
  if b = last ∧ l.joined = false then trimB s 32 else s
def selA (p q : Spot) : Spot := if bef q p then q else p
def selZ (p q : Spot) : Spot := if bef q p then p else q
theorem sel_comm (p q : Spot) : selA p q = selA q p ∧ selZ p q = selZ q p := by
  unfold selA selZ
  cases h : bef q p <;> cases k : bef p q
  · have := bef_total h k; subst this; simp
  · simp
  · simp
  · rw [bef_asym h] at k; cases k
/-- One line of what is selected. -/
def rowT (L : List Ln) (a z : Spot) (y : Int) : List UInt8 :=
  (if a.2 < y ∧ (L.getD (y - 1).toNat ln0).joined = false then [10] else []) ++ partT (L.getD y.toNat ln0) (if y = a.2 then a.1 else 0) (if y = z.2 then z.1 else wid L y - 1)
def linesT (L : List Ln) (a z : Spot) (n : Nat) : List UInt8 := (List.range n).flatMap fun (k : Nat) => rowT L a z (a.2 + (k : Int))
def selT (L : List Ln) (p q : Spot) : List UInt8 := linesT L (selA p q) (selZ p q) ((selZ p q).2 - (selA p q).2 + 1).toNat
def textV (v : Vw) : List UInt8 := match v.m with | none => [] | some p => selT v.L p (v.x, v.y)
theorem selT_comm (L : List Ln) (p q : Spot) : selT L p q = selT L q p := by
  unfold selT
  rw [(sel_comm p q).1, (sel_comm p q).2]
theorem linesT_succ (L : List Ln) (a z : Spot) (n : Nat) : linesT L a z (n + 1) = linesT L a z n ++ rowT L a z (a.2 + n) := by
  unfold linesT
  rw [List.range_succ, List.flatMap_append]; simp

theorem utf8_last (r : Int) (h : r ≠ 32) : ∃ s b, utf8 r = s ++ [b] ∧ b ≠ 32 := by
  have key : ∀ (l : List Int) (b : Int), intsB (utf8 r) = l ++ [b] → b ≠ 32 → ∃ s c, utf8 r = s ++ [c] ∧ c ≠ (32 : UInt8) := by
    intro l b hl hb
    have hne := utf8_ne r
    refine ⟨(utf8 r).dropLast, (utf8 r).getLast hne, (List.dropLast_concat_getLast hne).symm, fun hc => hb ?_⟩
    have h1 : intsB (utf8 r) = intsB (utf8 r).dropLast ++ [32] := by
      conv => lhs; rw [← List.dropLast_concat_getLast hne, hc]
      rw [intsB_append]; rfl
    rw [h1] at hl
    exact ((List.append_inj' hl rfl).2 |> fun h => (List.cons.inj h).1).symm
  by_cases h1 : 0 ≤ r ∧ r < 128
  · exact key [] r (by rw [utf8_1 h1]; rfl) h
  by_cases h2 : 128 ≤ r ∧ r ≤ 2047
  · exact key [192 + r / 64] (128 + r % 64) (by rw [utf8_2 h2]; rfl) (by omega)
  by_cases h3 : 2047 < r ∧ r ≤ 65535
  · by_cases hs : r < 55296 ∨ 57343 < r
    · exact key [224 + r / 4096, 128 + r / 64 % 64] (128 + r % 64) (by rw [utf8_3 h3 hs]; rfl) (by omega)
    · exact key [239, 191] 189 (by rw [utf8_0 (by omega)]; rfl) (by omega)
  by_cases h4 : 65535 < r ∧ r ≤ 1114111
  · exact key [240 + r / 262144, 128 + r / 4096 % 64, 128 + r / 64 % 64] (128 + r % 64) (by rw [utf8_4 h4]; rfl) (by omega)
  · exact key [239, 191] 189 (by rw [utf8_0 (by omega)]; rfl) (by omega)
theorem utf8_32 : utf8 32 = [32] := by decide +kernel
/-- What is trimmed, cell by cell. -/
theorem trimB_utf8 (s : List UInt8) (r : Int) : trimB (s ++ utf8 r) 32 = if r = 32 then trimB s 32 else s ++ utf8 r := by
  split
  · rename_i h; subst h; rw [utf8_32, trimB_snoc, if_pos rfl]
  · rename_i h
    obtain ⟨t, b, hb, hne⟩ := utf8_last r h
    rw [hb, ← List.append_assoc, trimB_snoc, if_neg hne]
theorem trimB_prefix {t s : List UInt8} (h : t.isPrefixOf s = true) (hne : t ≠ []) (hl : t.getLast hne ≠ 32) : t.isPrefixOf (trimB s 32) = true := by
  rw [List.isPrefixOf_iff_prefix] at h ⊢
  obtain ⟨u, rfl⟩ := h
  have key : ∀ n (u : List UInt8), u.length = n → t <+: trimB (t ++ u) 32 := by
    intro n
    induction n with
    | zero =>
      intro u hu
      obtain rfl := List.eq_nil_of_length_eq_zero hu
      rw [List.append_nil]
      have h1 := List.dropLast_concat_getLast hne
      rw [← h1, trimB_snoc, if_neg hl, h1]
      exact List.prefix_refl _
    | succ n ih =>
      intro u hu
      have hu0 : u ≠ [] := by rintro rfl; simp at hu
      rw [← List.dropLast_concat_getLast hu0, ← List.append_assoc, trimB_snoc]
      split
      · exact ih _ (by simp [hu])
      · rw [List.append_assoc]; exact List.prefix_append _ _
  exact key _ u rfl
end Go.Proofs.YtbkhjpclnfljbaaDoor
/- Views of lines, in plain Lean: the document's search, round about. -/
set_option linter.unusedSimpArgs false
set_option linter.unusedVariables false
set_option maxHeartbeats 1000000
set_option maxRecDepth 100000
namespace Go.Proofs.YtbkhjpclnfljbaaDoor
open Go Go.Jx

def InV (L : List Ln) (p : Spot) : Prop := 0 ≤ p.2 ∧ p.2 < L.length ∧ 0 ≤ p.1 ∧ p.1 < wid L p.2
theorem spotsL_in {L : List Ln} {t : List UInt8} {p : Spot} (h : p ∈ spotsL L t) : InV L p := by
  obtain ⟨x, y, rfl, hy, hx, _⟩ := spotsL_mem.1 h
  refine ⟨by simp only; omega, by simp only; omega, by simp only; omega, ?_⟩
  unfold wid; simp only [Int.toNat_natCast]; omega
theorem spotsL_iff {L : List Ln} {t : List UInt8} {p : Spot} (h : InV L p) : p ∈ spotsL L t ↔ begB (L.getD p.2.toNat ln0).cells t p.1.toNat = true := by
  obtain ⟨h1, h2, h3, h4⟩ := h
  rw [spotsL_mem]
  constructor
  · rintro ⟨x, y, rfl, _, _, hb⟩; simpa using hb
  · intro hb
    unfold wid at h4
    exact ⟨p.1.toNat, p.2.toNat, Prod.ext (by simp only; omega) (by simp only; omega), by omega, by omega, hb⟩
/-- The next cell, round about. -/
def stepF (L : List Ln) (c : Spot) : Spot := if c.1 + 1 < wid L c.2 then (c.1 + 1, c.2) else (0, (c.2 + 1) % (L.length : Int))
def stepB (L : List Ln) (c : Spot) : Spot := if 0 ≤ c.1 - 1 then (c.1 - 1, c.2) else (wid L (if c.2 - 1 < 0 then (L.length : Int) - 1 else c.2 - 1) - 1, if c.2 - 1 < 0 then (L.length : Int) - 1 else c.2 - 1)
theorem stepF_spec {L : List Ln} {h : Int} (k : OkL L h) {c : Spot} (hc : InV L c) : InV L (stepF L c) ∧
    ((bef c (stepF L c) = true ∧ ∀ q, InV L q → bef c q = true → q = stepF L c ∨ bef (stepF L c) q = true) ∨ (stepF L c = (0, 0) ∧ (∀ q, InV L q → bef c q = false) ∧ ∀ q, InV L q → q = stepF L c ∨ bef (stepF L c) q = true)) := by
  obtain ⟨h1, h2, h3, h4⟩ := hc
  have hk := k.len
  unfold stepF
  split
  · rename_i hlt
    refine ⟨⟨h1, h2, by simp only; omega, hlt⟩, .inl ⟨by simp only [bef, decide_eq_true_eq, true_and]; omega, fun q hq hb => ?_⟩⟩
    simp only [bef, decide_eq_true_eq] at hb ⊢
    by_cases e : q = (c.1 + 1, c.2)
    · exact .inl e
    · right
      rcases hb with hb | ⟨hb, hb2⟩
      · left; exact hb
      · right
        refine ⟨hb, ?_⟩
        have : q.1 ≠ c.1 + 1 := fun hh => e (Prod.ext hh hb.symm)
        omega
  · rename_i hge
    by_cases hl : c.2 + 1 < (L.length : Int)
    · have hm : (c.2 + 1) % (L.length : Int) = c.2 + 1 := Int.emod_eq_of_lt (by omega) hl
      have hw := (k.wid (y := c.2 + 1) (by omega) hl).1
      rw [hm]
      refine ⟨⟨by simp only; omega, by simp only; omega, by simp only; omega, by simp only; omega⟩, .inl ⟨by simp only [bef, decide_eq_true_eq, true_and]; omega, fun q hq hb => ?_⟩⟩
      obtain ⟨q1, q2, q3, q4⟩ := hq
      simp only [bef, decide_eq_true_eq] at hb ⊢
      by_cases e : q = (0, c.2 + 1)
      · exact .inl e
      · right
        rcases hb with hb | ⟨hb, hb2⟩
        · by_cases e2 : c.2 + 1 = q.2
          · right
            refine ⟨e2, ?_⟩
            have : q.1 ≠ 0 := fun hh => e (Prod.ext hh e2.symm)
            omega
          · left; omega
        · exfalso; rw [← hb] at q4; omega
    · have hm : (c.2 + 1) % (L.length : Int) = 0 := by rw [show c.2 + 1 = (L.length : Int) by omega]; exact Int.emod_self
      have hw := (k.wid (y := 0) (by omega) (by omega)).1
      rw [hm]
      refine ⟨⟨by simp only; omega, by simp only; omega, by simp only; omega, by simp only; omega⟩, .inr ⟨rfl, fun q hq => ?_, fun q hq => ?_⟩⟩
      · obtain ⟨q1, q2, q3, q4⟩ := hq
        simp only [bef, decide_eq_false_iff_not]
        rintro (hb | ⟨hb, hb2⟩)
        · omega
        · rw [← hb] at q4; omega
      · obtain ⟨q1, q2, q3, q4⟩ := hq
        simp only [bef, decide_eq_true_eq]
        by_cases e : q = (0, 0)
        · exact .inl e
        · right
          by_cases e2 : q.2 = 0
          · right
            refine ⟨e2.symm, ?_⟩
            have : q.1 ≠ 0 := fun hh => e (Prod.ext hh e2)
            omega
          · left; omega
theorem stepB_spec {L : List Ln} {h : Int} (k : OkL L h) {c : Spot} (hc : InV L c) : InV L (stepB L c) ∧
    ((bef (stepB L c) c = true ∧ ∀ q, InV L q → bef q c = true → q = stepB L c ∨ bef q (stepB L c) = true) ∨ ((∀ q, InV L q → bef q c = false) ∧ ∀ q, InV L q → q = stepB L c ∨ bef q (stepB L c) = true)) := by
  obtain ⟨h1, h2, h3, h4⟩ := hc
  have hk := k.len
  unfold stepB
  split
  · rename_i hlt
    refine ⟨⟨h1, h2, by simp only; omega, by simp only; omega⟩, .inl ⟨by simp only [bef, decide_eq_true_eq, true_and]; omega, fun q hq hb => ?_⟩⟩
    simp only [bef, decide_eq_true_eq] at hb ⊢
    by_cases e : q = (c.1 - 1, c.2)
    · exact .inl e
    · right
      rcases hb with hb | ⟨hb, hb2⟩
      · left; exact hb
      · right
        refine ⟨hb, ?_⟩
        have : q.1 ≠ c.1 - 1 := fun hh => e (Prod.ext hh hb)
        omega
  · rename_i hge
    by_cases hl : c.2 - 1 < 0
    · rw [if_pos hl]
      have hw := (k.wid (y := (L.length : Int) - 1) (by omega) (by omega)).1
      refine ⟨⟨by simp only; omega, by simp only; omega, by simp only; omega, by simp only; omega⟩, .inr ⟨fun q hq => ?_, fun q hq => ?_⟩⟩
      · obtain ⟨q1, q2, q3, q4⟩ := hq
        simp only [bef, decide_eq_false_iff_not]
        omega
      · obtain ⟨q1, q2, q3, q4⟩ := hq
        simp only [bef, decide_eq_true_eq]
        by_cases e : q = (wid L ((L.length : Int) - 1) - 1, (L.length : Int) - 1)
        · exact .inl e
        · right
          by_cases e2 : q.2 = (L.length : Int) - 1
          · right
            refine ⟨e2, ?_⟩
            have : q.1 ≠ wid L ((L.length : Int) - 1) - 1 := fun hh => e (Prod.ext hh e2)
            rw [e2] at q4; omega
          · left; omega
    · rw [if_neg hl]
      have hw := (k.wid (y := c.2 - 1) (by omega) (by omega)).1
      refine ⟨⟨by simp only; omega, by simp only; omega, by simp only; omega, by simp only; omega⟩, .inl ⟨by simp only [bef, decide_eq_true_eq, true_and]; omega, fun q hq hb => ?_⟩⟩
      obtain ⟨q1, q2, q3, q4⟩ := hq
      simp only [bef, decide_eq_true_eq] at hb ⊢
      by_cases e : q = (wid L (c.2 - 1) - 1, c.2 - 1)
      · exact .inl e
      · right
        rcases hb with hb | ⟨hb, hb2⟩
        · by_cases e2 : q.2 = c.2 - 1
          · right
            refine ⟨e2, ?_⟩
            have : q.1 ≠ wid L (c.2 - 1) - 1 := fun hh => e (Prod.ext hh e2)
            rw [e2] at q4; omega
          · left; omega
        · omega
/-- What holds of a search under way. -/
def FwI (L : List Ln) (A : List Spot) (p c : Spot) : Prop := InV L c ∧ (((c = p ∨ bef p c = true) ∧ ∀ q ∈ A, bef p q = true → bef c q = true) ∨ (bef c p = true ∧ (∀ q ∈ A, bef p q = false) ∧ ∀ q ∈ A, bef c q = true))
def BwI (L : List Ln) (A : List Spot) (p c : Spot) : Prop := InV L c ∧ (((c = p ∨ bef c p = true) ∧ ∀ q ∈ A, bef q p = true → bef q c = true) ∨ (bef p c = true ∧ (∀ q ∈ A, bef q p = false) ∧ ∀ q ∈ A, bef q c = true))
def mF (p c : Spot) : Nat := if c = p ∨ bef p c = true then 2000000 - (c.2 * 1000 + c.1).toNat else 1000000 - (c.2 * 1000 + c.1).toNat
def mB (p c : Spot) : Nat := if c = p ∨ bef c p = true then 1000000 + (c.2 * 1000 + c.1).toNat else (c.2 * 1000 + c.1).toNat
theorem inV_lt {L : List Ln} {h : Int} (k : OkL L h) {c : Spot} (hc : InV L c) : 0 ≤ c.1 ∧ c.1 < 1000 ∧ 0 ≤ c.2 ∧ c.2 < 900 := by
  obtain ⟨h1, h2, h3, h4⟩ := hc
  have := (k.wid h1 h2).2
  have := k.big
  omega
theorem bef_num {L : List Ln} {h : Int} (k : OkL L h) {a b : Spot} (ha : InV L a) (hb : InV L b) (hh : bef a b = true) : a.2 * 1000 + a.1 < b.2 * 1000 + b.1 := by
  have h1 := inV_lt k ha
  have h2 := inV_lt k hb
  simp only [bef, decide_eq_true_eq] at hh
  omega
theorem fw_step {L : List Ln} {h : Int} (k : OkL L h) {t : List UInt8} {p c : Spot} (hp : InV L p) (hI : FwI L (spotsL L t) p c) :
    InV L (stepF L c) ∧ (stepF L c ∈ spotsL L t → pickF (spotsL L t) p = some (stepF L c)) ∧
    (stepF L c ∉ spotsL L t → (stepF L c = p → spotsL L t = []) ∧ (stepF L c ≠ p → FwI L (spotsL L t) p (stepF L c) ∧ mF p (stepF L c) < mF p c)) := by
  obtain ⟨hc, hI⟩ := hI
  obtain ⟨hs, hcase⟩ := stepF_spec k hc
  have hS := spotsL_sorted L t
  have hin : ∀ q ∈ spotsL L t, InV L q := fun q hq => spotsL_in hq
  generalize spotsL L t = A at *
  generalize hc' : stepF L c = c' at *
  have hnp := inV_lt k hp
  have hnc := inV_lt k hc
  have hns := inV_lt k hs
  refine ⟨hs, ?_, ?_⟩
  · intro hm
    refine pickF_of hS hm ?_
    rcases hcase with ⟨h1, h2⟩ | ⟨h0, h1, h2⟩
    · rcases hI with ⟨i1, i2⟩ | ⟨i1, i2, i3⟩
      · left
        refine ⟨?_, fun q hq hb => ?_⟩
        · rcases i1 with rfl | i1
          · exact h1
          · exact bef_trans i1 h1
        · rcases h2 q (hin q hq) (i2 q hq hb) with rfl | h3
          · exact bef_irr _
          · exact bef_asym h3
      · right
        refine ⟨i2, fun q hq => ?_⟩
        rcases h2 q (hin q hq) (i3 q hq) with rfl | h3
        · exact bef_irr _
        · exact bef_asym h3
    · right
      constructor
      · intro q hq
        rcases hI with ⟨i1, i2⟩ | ⟨i1, i2, i3⟩
        · cases hb : bef p q with
          | false => rfl
          | true => have := i2 q hq hb; rw [h1 q (hin q hq)] at this; cases this
        · exact i2 q hq
      · intro q hq
        rcases h2 q (hin q hq) with rfl | h3
        · exact bef_irr _
        · exact bef_asym h3
  · intro hm
    constructor
    · intro hcp
      rw [List.eq_nil_iff_forall_not_mem]
      intro q hq
      have hqc : q ≠ c' := fun e => hm (e ▸ hq)
      rcases hcase with ⟨h1, h2⟩ | ⟨h0, h1, h2⟩
      · rcases hI with ⟨i1, i2⟩ | ⟨i1, i2, i3⟩
        · rw [hcp] at h1
          rcases i1 with rfl | i1
          · rw [bef_irr] at h1; cases h1
          · rw [bef_asym i1] at h1; cases h1
        · rcases h2 q (hin q hq) (i3 q hq) with rfl | h3
          · exact hqc rfl
          · rw [hcp, i2 q hq] at h3; cases h3
      · rcases h2 q (hin q hq) with rfl | h3
        · exact hqc rfl
        · rw [hcp] at h3
          rcases hI with ⟨i1, i2⟩ | ⟨i1, i2, i3⟩
          · have := i2 q hq h3; rw [h1 q (hin q hq)] at this; cases this
          · rw [i2 q hq] at h3; cases h3
    · intro hcp
      rcases hcase with ⟨h1, h2⟩ | ⟨h0, h1, h2⟩
      · have hn := bef_num k hc hs h1
        rcases hI with ⟨i1, i2⟩ | ⟨i1, i2, i3⟩
        · have hpc' : bef p c' = true := by
            rcases i1 with rfl | i1
            · exact h1
            · exact bef_trans i1 h1
          refine ⟨⟨hs, .inl ⟨.inr hpc', fun q hq hb => ?_⟩⟩, ?_⟩
          · rcases h2 q (hin q hq) (i2 q hq hb) with rfl | h3
            · exact absurd hq hm
            · exact h3
          · unfold mF
            rw [if_pos (.inr hpc'), if_pos i1]; omega
        · have hc'p : bef c' p = true := by
            rcases h2 p hp i1 with e | h3
            · exact absurd e.symm hcp
            · exact h3
          refine ⟨⟨hs, .inr ⟨hc'p, i2, fun q hq => ?_⟩⟩, ?_⟩
          · rcases h2 q (hin q hq) (i3 q hq) with rfl | h3
            · exact absurd hq hm
            · exact h3
          · unfold mF
            have a1 : ¬ (c = p ∨ bef p c = true) := by
              rintro (rfl | h)
              · rw [bef_irr] at i1; cases i1
              · rw [bef_asym i1] at h; cases h
            have a2 : ¬ (c' = p ∨ bef p c' = true) := by
              rintro (h | h)
              · exact hcp h
              · rw [bef_asym hc'p] at h; cases h
            rw [if_neg a1, if_neg a2]; omega
      · have hc'p : bef c' p = true := by
          rcases h2 p hp with e | h3
          · exact absurd e.symm hcp
          · exact h3
        have hall : ∀ q ∈ A, bef p q = false := by
          intro q hq
          rcases hI with ⟨i1, i2⟩ | ⟨i1, i2, i3⟩
          · cases hb : bef p q with
            | false => rfl
            | true => have := i2 q hq hb; rw [h1 q (hin q hq)] at this; cases this
          · exact i2 q hq
        refine ⟨⟨hs, .inr ⟨hc'p, hall, fun q hq => ?_⟩⟩, ?_⟩
        · rcases h2 q (hin q hq) with rfl | h3
          · exact absurd hq hm
          · exact h3
        · unfold mF
          have a1 : c = p ∨ bef p c = true := by
            by_cases e : c = p
            · exact .inl e
            · right
              cases hb : bef p c with
              | true => rfl
              | false => exact absurd (bef_total (h1 p hp) hb) e
          have a2 : ¬ (c' = p ∨ bef p c' = true) := by
            rintro (h | h)
            · exact hcp h
            · rw [bef_asym hc'p] at h; cases h
          rw [if_pos a1, if_neg a2]; omega
theorem bw_step {L : List Ln} {h : Int} (k : OkL L h) {t : List UInt8} {p c : Spot} (hp : InV L p) (hI : BwI L (spotsL L t) p c) :
    InV L (stepB L c) ∧ (stepB L c ∈ spotsL L t → pickB (spotsL L t) p = some (stepB L c)) ∧
    (stepB L c ∉ spotsL L t → (stepB L c = p → spotsL L t = []) ∧ (stepB L c ≠ p → BwI L (spotsL L t) p (stepB L c) ∧ mB p (stepB L c) < mB p c)) := by
  obtain ⟨hc, hI⟩ := hI
  obtain ⟨hs, hcase⟩ := stepB_spec k hc
  have hS := spotsL_sorted L t
  have hin : ∀ q ∈ spotsL L t, InV L q := fun q hq => spotsL_in hq
  generalize spotsL L t = A at *
  generalize hc' : stepB L c = c' at *
  have hnp := inV_lt k hp
  have hnc := inV_lt k hc
  have hns := inV_lt k hs
  refine ⟨hs, ?_, ?_⟩
  · intro hm
    refine pickB_of hS hm ?_
    rcases hcase with ⟨h1, h2⟩ | ⟨h1, h2⟩
    · rcases hI with ⟨i1, i2⟩ | ⟨i1, i2, i3⟩
      · left
        refine ⟨?_, fun q hq hb => ?_⟩
        · rcases i1 with rfl | i1
          · exact h1
          · exact bef_trans h1 i1
        · rcases h2 q (hin q hq) (i2 q hq hb) with rfl | h3
          · exact bef_irr _
          · exact bef_asym h3
      · right
        refine ⟨i2, fun q hq => ?_⟩
        rcases h2 q (hin q hq) (i3 q hq) with rfl | h3
        · exact bef_irr _
        · exact bef_asym h3
    · right
      constructor
      · intro q hq
        rcases hI with ⟨i1, i2⟩ | ⟨i1, i2, i3⟩
        · cases hb : bef q p with
          | false => rfl
          | true => have := i2 q hq hb; rw [h1 q (hin q hq)] at this; cases this
        · exact i2 q hq
      · intro q hq
        rcases h2 q (hin q hq) with rfl | h3
        · exact bef_irr _
        · exact bef_asym h3
  · intro hm
    constructor
    · intro hcp
      rw [List.eq_nil_iff_forall_not_mem]
      intro q hq
      have hqc : q ≠ c' := fun e => hm (e ▸ hq)
      rcases hcase with ⟨h1, h2⟩ | ⟨h1, h2⟩
      · rcases hI with ⟨i1, i2⟩ | ⟨i1, i2, i3⟩
        · rw [hcp] at h1
          rcases i1 with rfl | i1
          · rw [bef_irr] at h1; cases h1
          · rw [bef_asym i1] at h1; cases h1
        · rcases h2 q (hin q hq) (i3 q hq) with rfl | h3
          · exact hqc rfl
          · rw [hcp, i2 q hq] at h3; cases h3
      · rcases h2 q (hin q hq) with rfl | h3
        · exact hqc rfl
        · rw [hcp] at h3
          rcases hI with ⟨i1, i2⟩ | ⟨i1, i2, i3⟩
          · have := i2 q hq h3; rw [h1 q (hin q hq)] at this; cases this
          · rw [i2 q hq] at h3; cases h3
    · intro hcp
      rcases hcase with ⟨h1, h2⟩ | ⟨h1, h2⟩
      · have hn := bef_num k hs hc h1
        rcases hI with ⟨i1, i2⟩ | ⟨i1, i2, i3⟩
        · have hpc' : bef c' p = true := by
            rcases i1 with rfl | i1
            · exact h1
            · exact bef_trans h1 i1
          refine ⟨⟨hs, .inl ⟨.inr hpc', fun q hq hb => ?_⟩⟩, ?_⟩
          · rcases h2 q (hin q hq) (i2 q hq hb) with rfl | h3
            · exact absurd hq hm
            · exact h3
          · unfold mB
            rw [if_pos (.inr hpc'), if_pos i1]; omega
        · have hc'p : bef p c' = true := by
            rcases h2 p hp i1 with e | h3
            · exact absurd e.symm hcp
            · exact h3
          refine ⟨⟨hs, .inr ⟨hc'p, i2, fun q hq => ?_⟩⟩, ?_⟩
          · rcases h2 q (hin q hq) (i3 q hq) with rfl | h3
            · exact absurd hq hm
            · exact h3
          · unfold mB
            have a1 : ¬ (c = p ∨ bef c p = true) := by
              rintro (rfl | h)
              · rw [bef_irr] at i1; cases i1
              · rw [bef_asym i1] at h; cases h
            have a2 : ¬ (c' = p ∨ bef c' p = true) := by
              rintro (h | h)
              · exact hcp h
              · rw [bef_asym hc'p] at h; cases h
            rw [if_neg a1, if_neg a2]; omega
      · have hc'p : bef p c' = true := by
          rcases h2 p hp with e | h3
          · exact absurd e.symm hcp
          · exact h3
        have hall : ∀ q ∈ A, bef q p = false := by
          intro q hq
          rcases hI with ⟨i1, i2⟩ | ⟨i1, i2, i3⟩
          · cases hb : bef q p with
            | false => rfl
            | true => have := i2 q hq hb; rw [h1 q (hin q hq)] at this; cases this
          · exact i2 q hq
        refine ⟨⟨hs, .inr ⟨hc'p, hall, fun q hq => ?_⟩⟩, ?_⟩
        · rcases h2 q (hin q hq) with rfl | h3
          · exact absurd hq hm
          · exact h3
        · unfold mB
          have a1 : c = p ∨ bef c p = true := by
            by_cases e : c = p
            · exact .inl e
            · right
              cases hb : bef c p with
              | true => rfl
              | false => exact absurd (bef_total hb (h1 p hp)) e
          have a2 : ¬ (c' = p ∨ bef c' p = true) := by
            rintro (h | h)
            · exact hcp h
            · rw [bef_asym hc'p] at h; cases h
          rw [if_pos a1, if_neg a2]; omega
theorem FwI.start {L : List Ln} {A : List Spot} {p : Spot} (h : InV L p) : FwI L A p p := ⟨h, .inl ⟨.inl rfl, fun _ _ h => h⟩⟩
theorem BwI.start {L : List Ln} {A : List Spot} {p : Spot} (h : InV L p) : BwI L A p p := ⟨h, .inl ⟨.inl rfl, fun _ _ h => h⟩⟩
end Go.Proofs.YtbkhjpclnfljbaaDoor
