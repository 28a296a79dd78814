/- Reflow: what is whole. CLNONE -/
import Derived.Test.YtllhbhhgihdakaaDoorJxW15i
set_option linter.unusedSimpArgs false
set_option linter.unusedVariables false
set_option maxHeartbeats 4000000
set_option maxRecDepth 100000
namespace Go.Proofs.YtllhbhhgihdakaaDoor
open Go Go.Jx

def wholeR : Bool → List Cell → Bool
  | o, [] => !o
  | o, c :: l => if 2 < c.w ∨ o ≠ (c.w == 2) then false else wholeR (c.w == 1) l
theorem drop_getD0 {L : List Cell} {i : Nat} (h : i < L.length) : L.drop i = L.getD i cell0 :: L.drop (i + 1) := drop_getD h
theorem w17 {v : SV} {L : List Cell} {h : Heap} (hv : SlR cellE (Now h) v L) (hl : L.length ≤ 100000) : Wc DD 17 [.sc v] h fun w h' => w = bo (wholeR false L) ∧ h' = h := by
  have hs := Sep.entry h
  refine W_enter d17 ?_
  show W _ (.code m17_code [.sc v, undefA, undefA, undefA, undefA, undefA, undefA, undefA, undefA, undefA, undefA, undefA, undefA, undefA, undefA, undefA, undefA, undefA, undefA, undefA, undefA, undefA, undefA, undefA, undefA, undefA, undefA, undefA, undefA] _) _
  unfold m17_code
  repeat' (first
    | (refine K_ops ?_; first
      | refine W_fastB rfl ?_
      | refine W_nil ?_
    )
    | (refine K_code ?_; first
      | refine W_seq ?_
      | refine W_ops ?_
      | refine W_block ?_
    )
    | refine seqK_n ?_)
  refine W_loopB [2, 3, 4, 5, 6, 7, 8, 9, 10, 11, 12, 13, 14, 15, 16, 17, 18, 19, 20, 21, 22, 23, 24, 25, 26] [0, 1, 2, 3, 4, 5, 6, 7, 8, 9, 10, 11, 12, 13, 14, 15, 16, 17, 18, 19, 20, 21, 22, 23, 24, 25, 26, 27, 28] (fun n' sl h' => ∃ (k : Nat) (o : Bool), sl = [(3, .sc (.bool o)), (4, .sc (.int .i64 (k : Int)))] ∧ n' = L.length - k ∧ k ≤ L.length ∧ h' = h ∧ wholeR false L = wholeR o (L.drop k)) ?_ ?_
  · refine ⟨_, _, ⟨0, false, rfl, rfl, Nat.zero_le _, rfl, rfl⟩, EnvB.of rfl⟩
  rintro _ _ us _ h2 ⟨k, o, rfl, rfl, hk, rfl, hw⟩ he
  refine W_spell he rfl ?_
  clear he
  unfold m17_l3
  repeat' (first
    | (refine K_ops ?_; first
      | refine W_fastB rfl ?_
      | refine W_nil ?_
      | (refine K_guard ?_; first
        | refine W_guard_on rfl ?_
        | refine W_guard_off rfl rfl (W_norm rfl ?_)
        | (refine W_guardF rfl (fun hc => ?_) (fun hc => ?_) <;> (try rw [hc]) <;> (try simp only [decide_eq_true_eq, decide_eq_false_iff_not, beq_iff_eq, beq_eq_false_iff_ne, bne_iff_ne, bne_eq_false_iff_eq, Bool.not_eq_true', Bool.not_eq_false', Int.not_lt, Int.not_le, ne_eq, reduceCtorEq, not_true_eq_false, not_false_eq_true, Decidable.not_not] at hc) <;> (try (exfalso; omega)) <;> (try refine W_norm rfl ?_))
      )
      | (refine W_lenL rfl (by first | assumption | exact SlR.ln (by assumption) | exact AccS.ln (by assumption) | exact OwnS.ln (by assumption) | exact VwO.ln (by assumption) | exact OwnP.ln (by assumption) | exact Len.sl) ?_; refine W_norm rfl ?_)
      | (refine K_bin ?_; first
        | (refine W_add rfl rfl (IntWalk.i64_in _ (by first | omega | (simp only [List.length_set, List.length_append, List.length_take, List.length_drop, List.length_replicate, List.length_cons, List.length_nil, decs_length, List.length_map]; omega))) ?_; refine W_norm rfl ?_)
      )
      | (refine K_pick ?_; first
        | refine W_pick_t rfl rfl (W_norm rfl ?_)
        | refine W_pick_f rfl rfl (W_norm rfl ?_)
      )
      | (refine K_index ?_; first
        | (refine W_indexR rfl rfl (by assumption) rfl ⟨(by first | omega | (simp only [List.length_set, List.length_append, List.length_take, List.length_drop, List.length_replicate, List.length_cons, List.length_nil, decs_length, List.length_map]; omega)), (by first | omega | (simp only [List.length_set, List.length_append, List.length_take, List.length_drop, List.length_replicate, List.length_cons, List.length_nil, decs_length, List.length_map]; omega))⟩ ?_; intro _ _ _; refine W_norm rfl ?_)
      )
      | (refine K_load ?_; first
        | (refine W_loadRF hs rfl (by assumption) rfl ?_; refine W_norm rfl ?_)
      )
    )
    | (refine K_code ?_; first
      | refine W_seq ?_
      | refine W_ops ?_
      | refine W_cond_t rfl ?_
      | (refine W_cond rfl (fun hc => ?_) (fun hc => ?_) <;> (try rw [hc]) <;> (try simp only [decide_eq_true_eq, decide_eq_false_iff_not, beq_iff_eq, beq_eq_false_iff_ne, bne_iff_ne, bne_eq_false_iff_eq, Bool.not_eq_true', Bool.not_eq_false', Int.not_lt, Int.not_le, ne_eq, reduceCtorEq, not_true_eq_false, not_false_eq_true, Decidable.not_not] at hc) <;> (try (exfalso; omega)) <;> (try refine W_norm rfl ?_))
      | refine W_skip ?_
      | refine W_ret ?_
      | refine W_exit ?_
      | refine W_block ?_
    )
    | refine seqK_n ?_
    | refine seqK_r ?_
    | refine seqK_x ?_
    | refine blockK_r ?_
    | refine blockK_n ?_
    | refine blockK_e ?_
    | refine invK_x ?_
    | refine invK_r ?_
    | refine invK_n ?_
    | (refine fnK_r rfl ?_; try dsimp only [gd_z, gd_s]))
  · refine ⟨_, rfl, ?_, rfl⟩
    rw [hw, drop_getD0 (show k < L.length by omega)]
    simp only [wholeR]
    rw [if_pos (.inr hc)]
  · refine ⟨_, ?_, _, ⟨k + 1, ((L.getD k cell0).w == 1), rfl, rfl, ?_, rfl, ?_⟩, EnvB.of rfl⟩
    · omega
    · omega
    · rw [hw, drop_getD0 (show k < L.length by omega)]
      simp only [wholeR]
      rw [if_neg]
      rintro (h1 | h1)
      · have h2 : (L.getD k cell0).w ≤ 2 := by assumption
        omega
      · exact h1 hc
  · refine ⟨_, rfl, ?_, rfl⟩
    rw [hw, drop_getD0 (show k < L.length by omega)]
    simp only [wholeR]
    rw [if_pos (.inl hc)]
  · refine ⟨_, rfl, ?_, rfl⟩
    rw [hw, List.drop_of_length_le (by omega)]; rfl

/-! ## plain -/
/-- What is open behind some cells. -/
def st : Bool → List Cell → Option Bool
  | o, [] => some o
  | o, c :: l => if 2 < c.w ∨ o ≠ (c.w == 2) then none else st (c.w == 1) l
theorem st_cons (o : Bool) (c : Cell) (l : List Cell) : st o (c :: l) = if 2 < c.w ∨ o ≠ (c.w == 2) then none else st (c.w == 1) l := rfl
theorem whole_st : ∀ (L : List Cell) (o : Bool), wholeR o L = true ↔ st o L = some false := by
  intro L
  induction L with
  | nil => intro o; cases o <;> simp [wholeR, st]
  | cons c L ih =>
    intro o
    unfold wholeR st
    split
    · simp
    · exact ih _
theorem st_append : ∀ (A : List Cell) (o : Bool) (B : List Cell), st o (A ++ B) = (st o A).bind fun q => st q B := by
  intro A
  induction A with
  | nil => intro o B; rfl
  | cons c A ih =>
    intro o B
    rw [List.cons_append, st_cons, st_cons]
    split
    · rfl
    · exact ih _ _
theorem st_plain (o : Bool) (L : List Cell) : st o (plC :: L) = if o then none else st false L := by
  rw [st_cons]
  cases o <;> simp [plC]
theorem st_plains : ∀ (n : Nat) (o : Bool), st o (List.replicate n plC) = if o then (if n = 0 then some true else none) else some false := by
  intro n
  induction n with
  | zero => intro o; cases o <;> simp [st]
  | succ n ih =>
    intro o
    rw [List.replicate_succ, st_plain]
    cases o
    · simpa using ih false
    · simp
theorem trimP_split (A : List Cell) : ∃ k, A = trimP A ++ List.replicate k plC := by
  unfold trimP
  refine ⟨(A.reverse.takeWhile fun c => decide (c = plC)).length, ?_⟩
  have h1 : A.reverse = (A.reverse.takeWhile fun c => decide (c = plC)) ++ A.reverse.dropWhile fun c => decide (c = plC) := (List.takeWhile_append_dropWhile).symm
  have h2 : (A.reverse.takeWhile fun c => decide (c = plC)) = List.replicate (A.reverse.takeWhile fun c => decide (c = plC)).length plC := by
    refine List.eq_replicate_iff.2 ⟨rfl, fun b hb => ?_⟩
    have : ∀ (L : List Cell), b ∈ L.takeWhile (fun c => decide (c = plC)) → b = plC := by
      intro L
      induction L with
      | nil => intro h; simp at h
      | cons x L ih =>
        intro h
        rw [List.takeWhile_cons] at h
        split at h
        · rename_i hx
          rcases List.mem_cons.1 h with rfl | h
          · simpa using hx
          · exact ih h
        · simp at h
    exact this _ hb
  have h3 := congrArg List.reverse h1
  rw [List.reverse_reverse, List.reverse_append] at h3
  rw [h2, List.reverse_replicate] at h3
  exact h3
theorem trimP_whole {A : List Cell} (h : st false A = some false) : st false (trimP A) = some false := by
  obtain ⟨k, hk⟩ := trimP_split A
  rw [hk, st_append] at h
  cases ho : st false (trimP A) with
  | none => rw [ho] at h; simp at h
  | some o =>
    rw [ho] at h
    simp only [Option.bind_some] at h
    rw [st_plains] at h
    cases o with
    | false => rfl
    | true =>
      simp only [if_true] at h
      split at h <;> simp at h
theorem paras_whole : ∀ (l : List Ln) (acc : List Cell), st false acc = some false → (∀ x ∈ l, st false (cutL x) = some false) → ∀ p ∈ paras acc l, st false p = some false := by
  intro l
  induction l with
  | nil => intro acc _ _ p hp; simp [paras] at hp
  | cons x r ih =>
    intro acc ha h p hp
    have hx := h x (by simp)
    have hj : st false (acc ++ cutL x) = some false := by rw [st_append, ha]; exact hx
    have hr := fun y hy => h y (List.mem_cons_of_mem x hy)
    cases hjj : x.joined with
    | false =>
      rw [paras_last hjj] at hp
      rcases List.mem_cons.1 hp with rfl | hp
      · exact trimP_whole hj
      · exact ih [] rfl hr p hp
    | true =>
      cases r with
      | nil => simp only [paras, List.mem_singleton] at hp; subst hp; exact trimP_whole hj
      | cons y r => rw [paras_joined hjj (by simp)] at hp; exact ih _ hj hr p hp
theorem st_snoc {A : List Cell} {c : Cell} {cs : List Cell} (h : st false (A ++ c :: cs) = some false) : ∃ o, st false A = some o ∧ ¬ 2 < c.w ∧ o = (c.w == 2) ∧ st (c.w == 1) cs = some false ∧ st false (A ++ [c]) = some (c.w == 1) := by
  rw [st_append] at h
  cases ho : st false A with
  | none => rw [ho] at h; simp at h
  | some o =>
    rw [ho] at h
    simp only [Option.bind_some] at h
    unfold st at h
    split at h
    · simp at h
    · rename_i hn
      have h1 : ¬ 2 < c.w := fun k => hn (.inl k)
      have h2 : o = (c.w == 2) := Classical.byContradiction fun k => hn (.inr k)
      refine ⟨o, rfl, h1, h2, h, ?_⟩
      rw [st_append, ho]
      simp only [Option.bind_some]
      unfold st
      rw [if_neg hn]; rfl
theorem lines_whole {w : Nat} (hw : 2 ≤ w) : ∀ (cs A : List Cell), A.length ≤ w → st false (A ++ cs) = some false → (st false A = some true → A.length < w) → ∀ m ∈ linesGo w A cs, st false m.cells = some false := by
  intro cs
  induction cs with
  | nil =>
    intro A _ h _ m hm
    rw [List.append_nil] at h
    rw [linesGo, List.mem_singleton] at hm
    subst hm
    rw [st_append, h]
    simp only [Option.bind_some]
    rw [st_plains]; rfl
  | cons c cs ih =>
    intro A hA h ho m hm
    obtain ⟨o, h1, h2, h3, h4, h5⟩ := st_snoc h
    have hc : o = false → st false ([c] ++ cs) = some false := by
      rintro rfl
      show st false (c :: cs) = some false
      unfold st
      rw [if_neg (by rintro (k | k); exact h2 k; exact k h3)]; exact h4
    have hc1 : (st false [c] = some true → [c].length < w) := fun _ => by simp; omega
    unfold linesGo at hm
    split at hm
    · rename_i hs
      have hof : o = false := by rw [h3, hs.1]; rfl
      rcases List.mem_cons.1 hm with rfl | hm
      · subst hof
        show st false (A ++ [plC]) = _
        rw [st_append, h1]
        simp only [Option.bind_some]
        rw [st_plain]; rfl
      · exact ih [c] (by simp; omega) (hc hof) hc1 m hm
    split at hm
    · rename_i hs hl
      have hof : o = false := by
        cases o with
        | false => rfl
        | true => have := ho h1; omega
      rcases List.mem_cons.1 hm with rfl | hm
      · subst hof; exact h1
      · exact ih [c] (by simp; omega) (hc hof) hc1 m hm
    · rename_i hs hl
      refine ih (A ++ [c]) (by simp; omega) (by simpa using h) (fun k => ?_) m hm
      rw [h5] at k
      have hcw : c.w = 1 := by simpa using Option.some.inj k
      have : A.length ≠ w - 1 := fun e => hs ⟨hcw, e⟩
      simp; omega
theorem linesL_whole {l : List Ln} {w : Nat} (hw : 2 ≤ w) (h : ∀ x ∈ l, st false (cutL x) = some false) : ∀ m ∈ linesL l w, wholeR false m.cells = true := by
  intro m hm
  obtain ⟨p, hp, hm⟩ := List.mem_flatMap.1 hm
  exact (whole_st _ _).2 (lines_whole hw p [] (by simp) (paras_whole l [] rfl h p hp) (fun _ => by simp; omega) m hm)

/-- Each short line goes on, ends with a blank, and the next begins with a wide character. -/
def ShortOk (w : Nat) (l : List Ln) : Prop := ∀ i m, l[i]? = some m → m.short = true → m.joined = true ∧ m.cells[w - 1]? = some plC ∧ ∃ z c, l[i + 1]? = some z ∧ z.cells[0]? = some c ∧ c.w = 1
theorem ShortOk.append {w : Nat} {A B : List Ln} (hA : ShortOk w A) (hB : ShortOk w B) : ShortOk w (A ++ B) := by
  intro i m hm hs
  rcases Nat.lt_or_ge i A.length with h | h
  · rw [List.getElem?_append_left h] at hm
    obtain ⟨h1, h2, z, c, h3, h4, h5⟩ := hA i m hm hs
    exact ⟨h1, h2, z, c, by rw [List.getElem?_append_left (List.getElem?_eq_some_iff.1 h3).1]; exact h3, h4, h5⟩
  · rw [List.getElem?_append_right h] at hm
    obtain ⟨h1, h2, z, c, h3, h4, h5⟩ := hB _ m hm hs
    exact ⟨h1, h2, z, c, by rw [List.getElem?_append_right (by omega), show i + 1 - A.length = i - A.length + 1 by omega]; exact h3, h4, h5⟩
theorem lines_short {w : Nat} (hw : 2 ≤ w) : ∀ (cs A : List Cell), A.length ≤ w → ShortOk w (linesGo w A cs) := by
  intro cs
  induction cs with
  | nil =>
    intro A _ i m hm hs
    rw [linesGo] at hm
    cases i with
    | zero => simp at hm; subst hm; simp at hs
    | succ i => simp at hm
  | cons c cs ih =>
    intro A hA
    have turn : ∀ x : Ln, (x.short = true → x.joined = true ∧ x.cells[w - 1]? = some plC ∧ c.w = 1) → ShortOk w (x :: linesGo w [c] cs) := by
      intro x hx i m hm hs
      cases i with
      | zero =>
        simp only [List.getElem?_cons_zero, Option.some.injEq] at hm
        subst hm
        obtain ⟨h1, h2, h3⟩ := hx hs
        obtain ⟨z, h4, h5⟩ := (pos_at hw cs [c] 0 (by simp; omega)).1 0 (by simp)
        exact ⟨h1, h2, z, c, by simpa using h4, by simpa using h5, h3⟩
      | succ i =>
        rw [List.getElem?_cons_succ] at hm
        obtain ⟨h1, h2, z, d, h3, h4, h5⟩ := ih [c] (by simp; omega) i m hm hs
        exact ⟨h1, h2, z, d, by simpa using h3, h4, h5⟩
    unfold linesGo
    split
    · rename_i hs
      refine turn _ fun _ => ⟨rfl, ?_, hs.1⟩
      show (A ++ [plC])[w - 1]? = _
      rw [List.getElem?_append_right (by omega), hs.2]; simp
    split
    · exact turn _ fun h => by simp at h
    · exact ih _ (by simp; omega)
theorem flat_short {w : Nat} (hw : 2 ≤ w) : ∀ P : List (List Cell), ShortOk w (P.flatMap (linesP w)) := by
  intro P
  induction P with
  | nil => intro i m hm; simp at hm
  | cons p P ih => rw [List.flatMap_cons]; exact (lines_short hw p [] (by simp)).append ih
theorem linesL_short {l : List Ln} {w : Nat} (hw : 2 ≤ w) : ShortOk w (linesL l w) := flat_short hw _
theorem linesGo_last (w : Nat) : ∀ (cs A : List Cell), ∃ X m, linesGo w A cs = X ++ [m] ∧ m.joined = false := by
  intro cs
  induction cs with
  | nil => intro A; exact ⟨[], _, rfl, rfl⟩
  | cons c cs ih =>
    intro A
    unfold linesGo
    split
    · obtain ⟨X, m, h1, h2⟩ := ih [c]
      exact ⟨_ :: X, m, by rw [h1]; rfl, h2⟩
    split
    · obtain ⟨X, m, h1, h2⟩ := ih [c]
      exact ⟨_ :: X, m, by rw [h1]; rfl, h2⟩
    · exact ih _
theorem paras_ne : ∀ (l : List Ln) (acc : List Cell), l ≠ [] → paras acc l ≠ [] := by
  intro l
  induction l with
  | nil => intro _ h; exact absurd rfl h
  | cons x r ih =>
    intro acc _
    cases hj : x.joined with
    | false => rw [paras_last hj]; simp
    | true =>
      cases r with
      | nil => simp [paras]
      | cons y r => rw [paras_joined hj (by simp)]; exact ih _ (by simp)
theorem linesL_last {l : List Ln} {w : Nat} (h : l ≠ []) : ∃ X m, linesL l w = X ++ [m] ∧ m.joined = false := by
  obtain ⟨P, p, hP⟩ : ∃ P p, paras [] l = P ++ [p] := by
    rcases List.eq_nil_or_concat (paras [] l) with h0 | ⟨P, p, h0⟩
    · exact absurd h0 (paras_ne l [] h)
    · exact ⟨P, p, by rw [h0, List.concat_eq_append]⟩
  obtain ⟨X, m, h1, h2⟩ := linesGo_last w p []
  refine ⟨P.flatMap (linesP w) ++ X, m, ?_, h2⟩
  unfold linesL
  rw [hP, List.flatMap_append, List.flatMap_cons, List.flatMap_nil, List.append_nil, List.append_assoc, ← h1]; rfl
end Go.Proofs.YtllhbhhgihdakaaDoor
