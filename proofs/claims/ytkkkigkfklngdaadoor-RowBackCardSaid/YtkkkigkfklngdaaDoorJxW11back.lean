/- The law RowBack: the plain machine answers true. -/
import Derived.Test.YtkkkigkfklngdaaDoorJxW11act
import Derived.Test.YtkkkigkfklngdaaDoorJxW11ref11
set_option linter.unusedSimpArgs false
set_option linter.unusedVariables false
set_option maxHeartbeats 2000000
set_option maxRecDepth 100000
namespace Go.Proofs.YtkkkigkfklngdaaDoor
open Go Go.Jx

/-! ## plain -/
theorem wholeR_iff : ∀ (L : List Cell) (h : ∀ c ∈ L, 0 ≤ c.w), wholeR false L = wholeB L
  | [], _ => rfl
  | [c], h => by
    have := h c (by simp)
    simp only [wholeR, wholeB]
    by_cases h0 : c.w = 0
    · simp [h0]
    · have h1 : (c.w == 0) = false := by simpa using h0
      rw [h1]
      by_cases h2 : 2 < c.w
      · rw [if_pos (.inl h2)]
      · by_cases h3 : c.w = 2
        · rw [if_pos (.inr (by simp [h3]))]
        · have h4 : c.w = 1 := by omega
          simp [h4]
  | c :: d :: L, h => by
    have hc := h c (by simp)
    have hd := h d (by simp)
    rw [wholeR]
    unfold wholeB
    by_cases h0 : c.w = 0
    · rw [if_pos h0, if_neg (by rw [h0]; simp), h0]
      exact wholeR_iff (d :: L) (fun x hx => h x (by simp only [List.mem_cons] at hx ⊢; exact .inr hx))
    · rw [if_neg h0]
      by_cases h1 : c.w = 1
      · rw [if_neg (by rw [h1]; simp), h1, wholeR]
        by_cases h2 : d.w = 2
        · rw [if_neg (by rw [h2]; simp), h2]
          simp only [beq_self_eq_true, Bool.true_and]
          exact wholeR_iff L (fun x hx => h x (by simp [hx]))
        · have : (d.w == 2) = false := by simpa using h2
          rw [if_pos (.inr (by rw [this]; simp)), this]; simp
      · have e : (c.w == 1) = false := by simpa using h1
        rw [e]
        by_cases h2 : 2 < c.w
        · rw [if_pos (.inl h2)]; rfl
        · have : c.w = 2 := by omega
          rw [if_pos (.inr (by rw [this]; simp))]; rfl

/-- What stands at a place behind an erase. -/
def eraseC (L : List Cell) (x n : Nat) (a : Attr) (i : Nat) : Cell :=
  if x ≤ i ∧ i < x + n then blankC a
  else if (i + 1 = x ∧ (L.getD x cell0).w = 2) ∨ (i = x + n ∧ (L.getD (x + n) cell0).w = 2) then blankC (L.getD i cell0).a
  else L.getD i cell0
def backC (L : List Cell) (x n : Nat) (a : Attr) (i : Nat) : Cell :=
  if L.length - n ≤ i then blankC a
  else if ((i + 1 = x ∨ i = x) ∧ (L.getD x cell0).w = 2) ∨ (i + 1 = L.length - n ∧ (L.getD (L.length - n) cell0).w = 2) then blankC (L.getD i cell0).a
  else L.getD i cell0

theorem partL_getD (L : List Cell) (x : Int) (i : Nat) (hi : i < L.length) : (partL L x).getD i cell0 = if 0 < x ∧ x < L.length ∧ (L.getD x.toNat cell0).w = 2 ∧ (i = x.toNat ∨ i = (x - 1).toNat) then blankC (L.getD i cell0).a else L.getD i cell0 := by
  rw [List.getD_eq_getElem?_getD, partL_get]
  split
  · rw [getD_get? (d := cell0) hi]; rfl
  · rw [← List.getD_eq_getElem?_getD]
theorem blankC_idem (a : Attr) : blankC (blankC a).a = blankC a := rfl
theorem blankC_w (a : Attr) : (blankC a).w = 0 := rfl

theorem partL_nat (L : List Cell) (x i : Nat) (hi : i < L.length) : (partL L (x : Int)).getD i cell0 = if 0 < x ∧ x < L.length ∧ (L.getD x cell0).w = 2 ∧ (i = x ∨ i + 1 = x) then blankC (L.getD i cell0).a else L.getD i cell0 := by
  rw [partL_getD L x i hi, Int.toNat_natCast]
  by_cases h : 0 < x ∧ x < L.length ∧ (L.getD x cell0).w = 2 ∧ (i = x ∨ i + 1 = x)
  · rw [if_pos h, if_pos ⟨by omega, by omega, h.2.2.1, by omega⟩]
  · rw [if_neg h, if_neg (by rintro ⟨a, b, c, d⟩; exact h ⟨by omega, by omega, c, by omega⟩)]
theorem partL2_nat (L : List Cell) {x y i : Nat} (hxy : x ≤ y) (hi : i < L.length) : (partL (partL L (x : Int)) (y : Int)).getD i cell0 =
    if ((i = x ∨ i + 1 = x) ∧ 0 < x ∧ x < L.length ∧ (L.getD x cell0).w = 2) ∨ ((i = y ∨ i + 1 = y) ∧ 0 < y ∧ y < L.length ∧ (L.getD y cell0).w = 2) then blankC (L.getD i cell0).a else L.getD i cell0 := by
  rw [partL_nat _ y i (by rw [partL_length]; exact hi), partL_nat L x i hi, partL_length]
  by_cases hy : y < L.length
  · rw [partL_nat L x y hy]
    by_cases h1 : (L.getD x cell0).w = 2
    · by_cases h2 : y = x
      · subst h2
        grind [blankC]
      · rw [if_neg (c := 0 < x ∧ x < L.length ∧ (L.getD x cell0).w = 2 ∧ (y = x ∨ y + 1 = x)) (by omega)]
        grind [blankC]
    · grind [blankC]
  · grind [blankC]
theorem getD_app {α : Type} (A B : List α) (i : Nat) (d : α) : (A ++ B).getD i d = if i < A.length then A.getD i d else B.getD (i - A.length) d := by
  simp only [List.getD_eq_getElem?_getD, List.getElem?_append]
  split <;> rfl
theorem getD_tk {α : Type} (A : List α) (n i : Nat) (d : α) (h : i < n) : (A.take n).getD i d = A.getD i d := by
  simp only [List.getD_eq_getElem?_getD]
  rw [List.getElem?_take_of_lt h]
theorem getD_dr {α : Type} (A : List α) (n i : Nat) (d : α) : (A.drop n).getD i d = A.getD (n + i) d := by
  simp only [List.getD_eq_getElem?_getD, List.getElem?_drop]
theorem getD_rp {α : Type} (n i : Nat) (x d : α) (h : i < n) : (List.replicate n x).getD i d = x := by
  simp only [List.getD_eq_getElem?_getD, List.getElem?_replicate, h, if_true]; rfl

theorem room_nat {m x n : Nat} (hx : x + n ≤ m) (hn : 1 ≤ n) : roomL m x n = n := by
  unfold roomL
  rw [if_pos (by omega)]
  omega
theorem erase_at {L : List Cell} {x n i : Nat} {a : Attr} (hw : W3 L) (hx : x + n ≤ L.length) (hn : 1 ≤ n) (hi : i < L.length) : (eraseL L x n a).getD i cell0 = eraseC L x n a i := by
  unfold eraseL
  rw [room_nat hx hn, if_neg (by omega)]
  simp only [Int.toNat_natCast]
  have e : (x : Int) + (n : Int) = ((x + n : Nat) : Int) := by omega
  rw [e]
  have hP := fun i hi => partL2_nat L (x := x) (y := x + n) (i := i) (by omega) hi
  have hlen : (partL (partL L (x : Int)) ((x + n : Nat) : Int)).length = L.length := by simp only [partL_length]
  generalize partL (partL L (x : Int)) ((x + n : Nat) : Int) = P at *
  have h0 : (L.getD 0 cell0).w ≠ 2 := by
    intro h
    rcases hw 0 _ (getD_get? (d := cell0) (by omega)) with g | ⟨g, _⟩ | ⟨_, j, d, g, _⟩ <;> omega
  rw [List.append_assoc, getD_app, getD_app, List.length_take, List.length_replicate, Nat.min_eq_left (by omega)]
  unfold eraseC
  by_cases h1 : i < x
  · rw [if_pos h1, getD_tk _ _ _ _ h1, hP i hi]
    grind [blankC]
  · rw [if_neg h1]
    by_cases h2 : i < x + n
    · rw [if_pos (by omega), getD_rp _ _ _ _ (by omega), if_pos ⟨by omega, h2⟩]
    · rw [if_neg (by omega), getD_dr, show x + n + (i - x - n) = i by omega, hP i hi]
      grind [blankC]
theorem back_at {L : List Cell} {x n i : Nat} {a : Attr} (hw : W3 L) (hx : x + n ≤ L.length) (hn : 1 ≤ n) (hi : i < L.length) : (deleteL (insertL L x n a) x n a).getD i cell0 = backC L x n a i := by
  have hI : ∀ j, j < L.length → (insertL L x n a).getD j cell0 = if j < x then (partL (partL L (x : Int)) ((L.length - n : Nat) : Int)).getD j cell0 else if j < x + n then blankC a else (partL (partL L (x : Int)) ((L.length - n : Nat) : Int)).getD (j - n) cell0 := by
    intro j hj
    unfold insertL
    rw [room_nat hx hn, if_neg (by omega)]
    simp only [Int.toNat_natCast]
    have e : (L.length : Int) - (n : Int) = ((L.length - n : Nat) : Int) := by omega
    rw [e]
    have hlen : (partL (partL L (x : Int)) ((L.length - n : Nat) : Int)).length = L.length := by simp only [partL_length]
    generalize partL (partL L (x : Int)) ((L.length - n : Nat) : Int) = P at *
    rw [List.append_assoc, getD_app, getD_app, List.length_take, List.length_replicate, Nat.min_eq_left (by omega)]
    by_cases h1 : j < x
    · rw [if_pos h1, if_pos h1, getD_tk _ _ _ _ h1]
    · rw [if_neg h1, if_neg h1]
      by_cases h2 : j < x + n
      · rw [if_pos (by omega), getD_rp _ _ _ _ (by omega), if_pos h2]
      · rw [if_neg (by omega), if_neg h2, getD_tk _ _ _ _ (by omega), getD_dr]
        congr 1; omega
  have hIl : (insertL L x n a).length = L.length := insertL_length _ _ _ _
  have hP := fun i hi => partL2_nat L (x := x) (y := L.length - n) (i := i) (by omega) hi
  have h0 : (L.getD 0 cell0).w ≠ 2 := by
    intro h
    rcases hw 0 _ (getD_get? (d := cell0) (by omega)) with g | ⟨g, _⟩ | ⟨_, j, d, g, _⟩ <;> omega
  generalize insertL L x n a = I at *
  generalize partL (partL L (x : Int)) ((L.length - n : Nat) : Int) = P at *
  unfold deleteL
  rw [hIl, room_nat hx hn, if_neg (by omega)]
  simp only [Int.toNat_natCast]
  have e : (x : Int) + (n : Int) = ((x + n : Nat) : Int) := by omega
  rw [e]
  have hIx : (I.getD x cell0).w ≠ 2 := by
    rw [hI x (by omega), if_neg (by omega), if_pos (by omega)]; simp [blankC]
  have hIy : x + n < L.length → (I.getD (x + n) cell0).w ≠ 2 := by
    intro hlt
    rw [hI _ hlt, if_neg (by omega), if_neg (by omega), show x + n - n = x by omega, hP x (by omega)]
    grind [blankC]
  have hPI : ∀ j, j < L.length → (partL (partL I (x : Int)) ((x + n : Nat) : Int)).getD j cell0 = I.getD j cell0 := by
    intro j hj
    rw [partL2_nat I (by omega) (by omega), if_neg]
    rintro (⟨_, _, _, h⟩ | ⟨_, _, h1, h⟩)
    · exact hIx h
    · exact hIy (by omega) h
  have hlen : (partL (partL I (x : Int)) ((x + n : Nat) : Int)).length = L.length := by simp only [partL_length]; exact hIl
  generalize partL (partL I (x : Int)) ((x + n : Nat) : Int) = P2 at *
  rw [List.append_assoc, getD_app, getD_app, List.length_take, List.length_drop, hlen, Nat.min_eq_left (by omega)]
  unfold backC
  by_cases h1 : i < x
  · rw [if_pos h1, getD_tk _ _ _ _ h1, hPI i hi, hI i hi, if_pos h1, hP i hi]
    grind [blankC]
  · rw [if_neg h1]
    by_cases h2 : i < L.length - n
    · rw [if_pos (by omega), getD_dr, hPI _ (by omega), hI _ (by omega), if_neg (by omega), if_neg (by omega), hP _ (by omega)]
      rw [show x + n + (i - x) - n = i by omega]
      grind [blankC]
    · rw [if_neg (by omega), getD_rp _ _ _ _ (by omega), if_pos (by omega)]

theorem w4 {v : SV} {L : List Cell} {h : Heap} {x n : Int} (a : Attr) (hv : SlR cellE (Now h) v L) (hw : ∀ c ∈ L, 0 ≤ c.w) (hx : -9223372036854775808 ≤ x ∧ x ≤ 9223372036854775807) : Wc DD 4 [.sc v, i64 x, i64 n, .agg (attrE.enc a)] h fun w h' => w = .sc (.bool true) := by
  have hs := Sep.entry h
  by_cases hok : L.length ≤ 400 ∧ wholeB L = true ∧ 0 ≤ x ∧ x < L.length ∧ 1 ≤ n ∧ n ≤ L.length - x
  · obtain ⟨h1, h2, h3, h4, h5, h6⟩ := hok
    have hwr : wholeR false L = true := by rw [wholeR_iff L hw]; exact h2
    have hw3 := (wholeB_iff L).1 h2
    obtain ⟨X, rfl⟩ := Int.eq_ofNat_of_zero_le h3
    obtain ⟨N, rfl⟩ := Int.eq_ofNat_of_zero_le (show 0 ≤ n by omega)
    refine W_enter d4 ?_
    show W _ (.code m4_code [.sc v, i64 (X : Int), i64 (N : Int), .agg (attrE.enc a), undefA, undefA, undefA, undefA, undefA, undefA, undefA, undefA, undefA, undefA, undefA, undefA, undefA, undefA, undefA, undefA, undefA, undefA, undefA, undefA, undefA, undefA, undefA, undefA, undefA, undefA, undefA, undefA, undefA, undefA, undefA, undefA, undefA, undefA, undefA, undefA, undefA, undefA, undefA, undefA, undefA, undefA, undefA, undefA, undefA, undefA, undefA, undefA, undefA, undefA, undefA, undefA, undefA, undefA, undefA, undefA, undefA, undefA, undefA, undefA, undefA, undefA, undefA, undefA, undefA, undefA, undefA, undefA, undefA, undefA, undefA, undefA, undefA, undefA, undefA, undefA, undefA, undefA, undefA, undefA, undefA, undefA, undefA, undefA, undefA, undefA, undefA, undefA, undefA, undefA, undefA, undefA, undefA, undefA, undefA, undefA, undefA, undefA, undefA, undefA, undefA, undefA, undefA, undefA, undefA, undefA, undefA, undefA, undefA, undefA, undefA, undefA, undefA, undefA, undefA, undefA, undefA, undefA, undefA, undefA, undefA, undefA, undefA, undefA, undefA, undefA, undefA, undefA, undefA, undefA, undefA, undefA, undefA, undefA, undefA, undefA, undefA, undefA, undefA, undefA, undefA, undefA, undefA, undefA, undefA, undefA, undefA, undefA, undefA, undefA, undefA, undefA, undefA, undefA, undefA, undefA, undefA, undefA, undefA, undefA, undefA, undefA, undefA, undefA, undefA, undefA, undefA, undefA, undefA, undefA, undefA, undefA, undefA, undefA, undefA, undefA, undefA, undefA, undefA, undefA, undefA, undefA, undefA, undefA, undefA, undefA, undefA, undefA, undefA, undefA, undefA, undefA, undefA, undefA, undefA, undefA, undefA, undefA, undefA, undefA, undefA, undefA, undefA, undefA, undefA, undefA, undefA, undefA, undefA, undefA, undefA, undefA, undefA, undefA, undefA, undefA, undefA, undefA, undefA, undefA, undefA, undefA, undefA, undefA, undefA, undefA, undefA, undefA, undefA, undefA, undefA, undefA, undefA, undefA, undefA, undefA, undefA, undefA] _) _
    unfold m4_code
    have hil := insertL_length L X N a
    have hdl := deleteL_length (insertL L X N a) X N a
    have hel := eraseL_length L X N a
    repeat' (first
      | (refine K_ops ?_; first
        | refine W_fastB rfl ?_
        | refine W_nil ?_
        | (refine K_guard ?_; first
          | refine W_guard_on rfl ?_
          | (refine W_guardF rfl (fun hc => ?_) (fun hc => ?_) <;> (try rw [hc]) <;> (try simp only [decide_eq_true_eq, decide_eq_false_iff_not, beq_iff_eq, beq_eq_false_iff_ne, bne_iff_ne, bne_eq_false_iff_eq, Bool.not_eq_true', Bool.not_eq_false', Int.not_lt, Int.not_le, ne_eq, reduceCtorEq, not_true_eq_false, not_false_eq_true, Decidable.not_not] at hc) <;> (try (exfalso; omega)) <;> (try refine W_norm rfl ?_))
        )
        | (refine K_call ?_; first
          | (refine W_callsN 14 rfl (w14 (SlR.now hs hv) (by omega)) rfl ?_; rintro _ _ ⟨rfl, rfl⟩; rw [hwr]; refine W_norm rfl ?_)
        )
        | (refine W_lenL rfl (by first | assumption | exact SlR.ln (by assumption) | exact AccS.ln (by assumption) | exact OwnS.ln (by assumption) | exact VwO.ln (by assumption) | exact OwnP.ln (by assumption) | exact Len.sl) ?_; refine W_norm rfl ?_)
        | (refine K_bin ?_; first
          | (refine W_sub rfl rfl (IntWalk.i64_in _ (by first | omega | (simp only [List.length_set, List.length_append, List.length_take, List.length_drop, List.length_replicate, List.length_cons, List.length_nil, decs_length, List.length_map]; omega))) ?_; refine W_norm rfl ?_)
        )
        | (refine K_pick ?_; first
          | refine W_pick_f rfl rfl (W_norm rfl ?_)
        )
        | (refine W_boxS hs rfl rfl ?_; clear hs; intro bx _ hs; try simp only [cell_back, attr_back, List.set_cons_zero, List.set_cons_succ, List.eraseIdx_cons_succ, List.eraseIdx_zero, List.tail_cons, List.nil_append, List.cons_append] at hs; refine W_norm rfl ?_)
      )
      | (refine K_code ?_; first
        | (refine W_midB (a := .draw m4_r3) [9, 49, 50, 51, 52, 53, 54, 55, 56, 57] [0, 1, 2, 3, 4, 5, 6, 7, 8, 9, 10, 11, 12, 13, 14, 15, 16, 17, 18, 19, 20, 21, 22, 23, 24, 25, 26, 27, 28, 29, 30, 31, 32, 33, 34, 35, 36, 37, 38, 39, 40, 41, 42, 43, 44, 45, 46, 47, 48, 49, 50, 51, 52, 53, 54, 55, 56, 57, 58, 59, 60, 61, 62, 63, 64, 65, 66, 67, 68, 69, 70, 71, 72, 73, 74, 75, 76, 77, 78, 79, 80, 81, 82, 83, 84, 85, 86, 87, 88, 89, 90, 91, 92, 93, 94, 95, 96, 97, 98, 99, 100, 101, 102, 103, 104, 105, 106, 107, 108, 109, 110, 111, 112, 113, 114, 115, 116, 117, 118, 119, 120, 121, 122, 123, 124, 125, 126, 127, 128, 129, 130, 131, 132, 133, 134, 135, 136, 137, 138, 139, 140, 141, 142, 143, 144, 145, 146, 147, 148, 149, 150, 151, 152, 153, 154, 155, 156, 157, 158, 159, 160, 161, 162, 163, 164, 165, 166, 167, 168, 169, 170, 171, 172, 173, 174, 175, 176, 177, 178, 179, 180, 181, 182, 183, 184, 185, 186, 187, 188, 189, 190, 191, 192, 193, 194, 195, 196, 197, 198, 199, 200, 201, 202, 203, 204, 205, 206, 207, 208, 209, 210, 211, 212, 213, 214, 215, 216, 217, 218, 219, 220, 221, 222, 223, 224, 225, 226, 227, 228, 229, 230, 231, 232, 233, 234, 235, 236, 237, 238, 239, 240, 241] (fun sl h' => ∃ (u : SV) (c : Hp), sl = [(9, .sc u)] ∧ AccS cellE 37 u (deleteL (insertL L X N a) X N a) c ∧ Sep (Now h) [c, [(bx, .cells 27 .own (attrE.enc a))]] h') ?_ ?_)
        | refine W_seq ?_
        | refine W_ops ?_
        | (refine W_cond rfl (fun hc => ?_) (fun hc => ?_) <;> (try rw [hc]) <;> (try simp only [decide_eq_true_eq, decide_eq_false_iff_not, beq_iff_eq, beq_eq_false_iff_ne, bne_iff_ne, bne_eq_false_iff_eq, Bool.not_eq_true', Bool.not_eq_false', Int.not_lt, Int.not_le, ne_eq, reduceCtorEq, not_true_eq_false, not_false_eq_true, Decidable.not_not] at hc) <;> (try (exfalso; omega)) <;> (try refine W_norm rfl ?_))
        | refine W_skip ?_
      )
      | refine seqK_n ?_)
    · repeat' (first
        | (refine K_ops ?_; first
          | refine W_fastB rfl ?_
          | refine W_nil ?_
          | (refine K_call ?_; first
            | (refine W_callsN 16 rfl (w16 a (SlR.now hs hv) (by omega)) rfl ?_; rintro _ h3 ⟨u1, c1, rfl, ha1, t⟩; have hs := hs.call t; try simp only [cell_back, attr_back, List.set_cons_zero, List.set_cons_succ, List.eraseIdx_cons_succ, List.eraseIdx_zero, List.tail_cons, List.nil_append, List.cons_append] at hs; refine W_norm rfl ?_)
            | (refine W_callsN 15 rfl (w15 a (AccS.now ha1 hs (by simp)) (by omega)) rfl ?_; rintro _ h3 ⟨u2, c2, rfl, ha2, t⟩; have hs := hs.call t; try simp only [cell_back, attr_back, List.set_cons_zero, List.set_cons_succ, List.eraseIdx_cons_succ, List.eraseIdx_zero, List.tail_cons, List.nil_append, List.cons_append] at hs; refine W_norm rfl ?_)
          )
          | (refine K_load ?_; first
            | (refine W_loadCA hs 0 rfl rfl rfl ?_; refine W_norm rfl ?_)
            | (refine W_loadCA hs 1 rfl rfl rfl ?_; refine W_norm rfl ?_)
          )
        )
        | (refine K_code ?_; first
          | refine W_draws ?_
        )
        | refine W_dstep rfl ?_
        | refine ⟨rfl, fun rc hrec => ?_⟩
        | (refine W_dnilS (by simp only [List.reverse_cons, List.reverse_nil, List.nil_append, List.cons_append]; rfl) (by repeat' first | exact CL_nil _ _ | refine CL_skip rfl ?_ | refine CL_load (by assumption) rfl (by first | exact trivial | (repeat' first | exact trivial | refine ⟨⟨_, rfl, (by refine (congrArg (fun x => Heap.get x _) (RecIs.hh (by assumption))).trans ?_; first | rfl | exact PtR.same_get (by assumption) (by assumption) (by assumption) | exact Sep.same_get (by assumption) (by assumption) 0 0 rfl rfl | exact Sep.same_get (by assumption) (by assumption) 0 1 rfl rfl | exact Sep.same_get (by assumption) (by assumption) 0 2 rfl rfl | exact Sep.same_get (by assumption) (by assumption) 0 3 rfl rfl | exact Sep.same_get (by assumption) (by assumption) 1 0 rfl rfl | exact Sep.same_get (by assumption) (by assumption) 1 1 rfl rfl | exact Sep.same_get (by assumption) (by assumption) 1 2 rfl rfl | exact Sep.same_get (by assumption) (by assumption) 1 3 rfl rfl | exact Sep.same_get (by assumption) (by assumption) 2 0 rfl rfl | exact Sep.same_get (by assumption) (by assumption) 2 1 rfl rfl | exact Sep.same_get (by assumption) (by assumption) 2 2 rfl rfl | exact Sep.same_get (by assumption) (by assumption) 2 3 rfl rfl | exact Sep.same_get (by assumption) (by assumption) 3 0 rfl rfl | exact Sep.same_get (by assumption) (by assumption) 3 1 rfl rfl | exact Sep.same_get (by assumption) (by assumption) 3 2 rfl rfl | exact Sep.same_get (by assumption) (by assumption) 3 3 rfl rfl)⟩, ?_⟩)) (by first | exact trivial | (repeat' first | exact trivial | refine ⟨⟨_, rfl, (by refine (congrArg (fun x => Heap.get x _) (RecIs.hh' (by assumption))).trans ?_; first | rfl | exact PtR.same_get (by assumption) (by assumption) (by assumption) | exact Sep.same_get (by assumption) (by assumption) 0 0 rfl rfl | exact Sep.same_get (by assumption) (by assumption) 0 1 rfl rfl | exact Sep.same_get (by assumption) (by assumption) 0 2 rfl rfl | exact Sep.same_get (by assumption) (by assumption) 0 3 rfl rfl | exact Sep.same_get (by assumption) (by assumption) 1 0 rfl rfl | exact Sep.same_get (by assumption) (by assumption) 1 1 rfl rfl | exact Sep.same_get (by assumption) (by assumption) 1 2 rfl rfl | exact Sep.same_get (by assumption) (by assumption) 1 3 rfl rfl | exact Sep.same_get (by assumption) (by assumption) 2 0 rfl rfl | exact Sep.same_get (by assumption) (by assumption) 2 1 rfl rfl | exact Sep.same_get (by assumption) (by assumption) 2 2 rfl rfl | exact Sep.same_get (by assumption) (by assumption) 2 3 rfl rfl | exact Sep.same_get (by assumption) (by assumption) 3 0 rfl rfl | exact Sep.same_get (by assumption) (by assumption) 3 1 rfl rfl | exact Sep.same_get (by assumption) (by assumption) 3 2 rfl rfl | exact Sep.same_get (by assumption) (by assumption) 3 3 rfl rfl)⟩, ?_⟩)) ?_) ?_)
        | refine midK_n ?_)
      exact ⟨_, ⟨u2, c2, rfl, ha2, hs.drop 1⟩, EnvB.of rfl⟩
    clear hs
    rintro _ us _ h3 ⟨u2, c2, rfl, ha2, hs⟩ he
    refine W_spell he rfl ?_
    clear he
    repeat' (first
      | (refine K_ops ?_; first
        | refine W_fastB rfl ?_
        | refine W_nil ?_
        | (refine K_guard ?_; first
          | refine W_guard_on rfl ?_
          | (refine W_guardF rfl (fun hc => ?_) (fun hc => ?_) <;> (try rw [hc]) <;> (try simp only [decide_eq_true_eq, decide_eq_false_iff_not, beq_iff_eq, beq_eq_false_iff_ne, bne_iff_ne, bne_eq_false_iff_eq, Bool.not_eq_true', Bool.not_eq_false', Int.not_lt, Int.not_le, ne_eq, reduceCtorEq, not_true_eq_false, not_false_eq_true, Decidable.not_not] at hc) <;> (try (exfalso; omega)) <;> (try refine W_norm rfl ?_))
        )
        | (refine K_call ?_; first
          | (refine W_callsN 17 rfl (w17 a (SlR.now hs hv) (by omega) (by omega)) rfl ?_; rintro _ h3 ⟨u3, c3, rfl, ha3, t⟩; replace hs := hs.call t; try simp only [cell_back, attr_back, List.set_cons_zero, List.set_cons_succ, List.eraseIdx_cons_succ, List.eraseIdx_zero, List.tail_cons, List.nil_append, List.cons_append] at hs; refine W_norm rfl ?_)
        )
        | (refine W_lenL rfl (by first | assumption | exact SlR.ln (by assumption) | exact AccS.ln (by assumption) | exact OwnS.ln (by assumption) | exact VwO.ln (by assumption) | exact OwnP.ln (by assumption) | exact Len.sl) ?_; refine W_norm rfl ?_)
        | (refine K_pick ?_; first
          | refine W_pick_f rfl rfl (W_norm rfl ?_)
        )
        | (refine K_load ?_; first
          | (refine W_loadCA hs 1 rfl rfl rfl ?_; refine W_norm rfl ?_)
          | (refine W_loadCA hs 2 rfl rfl rfl ?_; refine W_norm rfl ?_)
        )
        | (refine K_store ?_; first
          | (refine W_storeC hs 0 rfl rfl rfl rfl (by first | decide | assumption) rfl rfl ?_; clear hs; intro _ hs; try simp only [cell_back, attr_back, List.set_cons_zero, List.set_cons_succ, List.eraseIdx_cons_succ, List.eraseIdx_zero, List.tail_cons, List.nil_append, List.cons_append] at hs; refine W_norm rfl ?_)
        )
        | (refine W_allocS hs ?_; clear hs; intro al _ hs; try simp only [cell_back, attr_back, List.set_cons_zero, List.set_cons_succ, List.eraseIdx_cons_succ, List.eraseIdx_zero, List.tail_cons, List.nil_append, List.cons_append] at hs; refine W_norm rfl ?_)
        | (refine W_buildN rfl ?_; refine W_norm rfl ?_)
      )
      | (refine K_code ?_; first
        | refine W_seq ?_
        | refine W_ops ?_
        | (refine W_cond rfl (fun hc => ?_) (fun hc => ?_) <;> (try rw [hc]) <;> (try simp only [decide_eq_true_eq, decide_eq_false_iff_not, beq_iff_eq, beq_eq_false_iff_ne, bne_iff_ne, bne_eq_false_iff_eq, Bool.not_eq_true', Bool.not_eq_false', Int.not_lt, Int.not_le, ne_eq, reduceCtorEq, not_true_eq_false, not_false_eq_true, Decidable.not_not] at hc) <;> (try (exfalso; omega)) <;> (try refine W_norm rfl ?_))
        | refine W_skip ?_
        | refine W_block ?_
      )
      | refine seqK_n ?_)
    have hB := ha2.add (Now h)
    have hs := hs.freeze 2 rfl
    simp only [List.eraseIdx_cons_succ, List.eraseIdx_zero, List.tail_cons] at hs
    have hE := ha3.add ((Now h).add c2)
    have hs := hs.freeze 1 rfl
    simp only [List.eraseIdx_cons_succ, List.eraseIdx_zero, List.tail_cons] at hs
    have hB := hB.add c3
    have hv := (hv.add c2).add c3
    have hb := fun i hi => back_at (L := L) (x := X) (n := N) (i := i) (a := a) hw3 (by omega) (by omega) hi
    have he := fun i hi => erase_at (L := L) (x := X) (n := N) (i := i) (a := a) hw3 (by omega) (by omega) hi
    generalize ((Now h).add c2).add c3 = R at *
    clear ha2 ha3 t hw hwr
    obtain ⟨b0, hb0⟩ : ∃ b0, b0 = al := ⟨_, rfl⟩
    subst hb0
    rw [hil] at hdl
    generalize deleteL (insertL L X N a) X N a = B at *
    generalize eraseL L X N a = C at *
    refine W_loopB [8, 12, 13, 14, 15, 16, 17, 77, 78, 79, 80, 81, 82, 83, 84, 85, 86, 87, 88, 89, 90, 91, 92, 93, 94, 95, 96, 97, 98, 99, 100, 101, 102, 103, 104, 105, 106, 107, 108, 109, 110, 111, 112, 113, 114, 115, 116, 117, 118, 119, 120, 121, 122, 123, 124, 125, 126, 127, 128, 129, 130, 131, 132, 133, 134, 135, 136, 137, 138, 139, 140, 141, 142, 143, 144, 145, 146, 147, 148, 149, 150, 151, 152, 153, 154, 155, 156, 157, 158, 159, 160, 161, 162, 163, 164, 165, 166, 167, 168, 169, 170, 171, 172, 173, 174, 175, 176, 177, 178, 179, 180, 181, 182, 183, 184, 185, 186, 187, 188, 189, 190, 191, 192, 193, 194, 195, 196, 197, 198, 199, 200, 201, 202, 203, 204, 205, 206, 207, 208, 209, 210, 211, 212, 213, 214, 215, 216, 217, 218, 219, 220, 221, 222, 223, 224, 225, 226, 227, 228, 229, 230, 231, 232, 233, 234, 235, 236, 237, 238, 239, 240] [0, 1, 2, 3, 4, 5, 6, 7, 8, 9, 10, 11, 12, 13, 14, 15, 16, 17, 18, 19, 20, 21, 22, 23, 24, 25, 26, 27, 28, 29, 30, 31, 32, 33, 34, 35, 36, 37, 38, 39, 40, 41, 42, 43, 44, 45, 46, 47, 48, 49, 50, 51, 52, 53, 54, 55, 56, 57, 58, 59, 60, 61, 62, 63, 64, 65, 66, 67, 68, 69, 70, 71, 72, 73, 74, 75, 76, 77, 78, 79, 80, 81, 82, 83, 84, 85, 86, 87, 88, 89, 90, 91, 92, 93, 94, 95, 96, 97, 98, 99, 100, 101, 102, 103, 104, 105, 106, 107, 108, 109, 110, 111, 112, 113, 114, 115, 116, 117, 118, 119, 120, 121, 122, 123, 124, 125, 126, 127, 128, 129, 130, 131, 132, 133, 134, 135, 136, 137, 138, 139, 140, 141, 142, 143, 144, 145, 146, 147, 148, 149, 150, 151, 152, 153, 154, 155, 156, 157, 158, 159, 160, 161, 162, 163, 164, 165, 166, 167, 168, 169, 170, 171, 172, 173, 174, 175, 176, 177, 178, 179, 180, 181, 182, 183, 184, 185, 186, 187, 188, 189, 190, 191, 192, 193, 194, 195, 196, 197, 198, 199, 200, 201, 202, 203, 204, 205, 206, 207, 208, 209, 210, 211, 212, 213, 214, 215, 216, 217, 218, 219, 220, 221, 222, 223, 224, 225, 226, 227, 228, 229, 230, 231, 232, 233, 234, 235, 236, 237, 238, 239, 240, 241] (fun n' sl h' => ∃ (k : Nat), sl = [(12, .sc (.int .i64 (k : Int)))] ∧ n' = L.length - k ∧ k ≤ L.length ∧ Sep R [[(b0, .cells 37 .own (cellE.enc (blankC a)))], [(bx, .cells 27 .own (attrE.enc a))]] h') ?_ ?_
    · refine ⟨_, _, ⟨0, rfl, rfl, Nat.zero_le _, hs⟩, EnvB.of rfl⟩
    clear hs
    rintro _ _ us _ h4 ⟨k, rfl, rfl, hk, hs⟩ he2
    refine W_spell he2 rfl ?_
    clear he2
    unfold m4_l9
    by_cases hlt : k < L.length
    · have hbk := hb k hlt
      have hek := he k hlt
      repeat' (first
        | (refine K_ops ?_; first
          | refine W_fastB rfl ?_
          | refine W_nil ?_
          | (refine K_guard ?_; first
            | refine W_guard_on rfl ?_
            | refine W_guard_off rfl rfl (W_norm rfl ?_)
            | refine W_guard_u rfl (W_norm rfl ?_)
            | (refine W_guardT rfl (fun hc => ?_) (fun hc => ?_) <;> (try rw [hc]) <;> (try simp only [decide_eq_true_eq, decide_eq_false_iff_not, beq_iff_eq, beq_eq_false_iff_ne, bne_iff_ne, bne_eq_false_iff_eq, Bool.not_eq_true', Bool.not_eq_false', Int.not_lt, Int.not_le, ne_eq, reduceCtorEq, not_true_eq_false, not_false_eq_true, Decidable.not_not] at hc) <;> (try (exfalso; omega)) <;> (try refine W_norm rfl ?_))
            | (refine W_guardF rfl (fun hc => ?_) (fun hc => ?_) <;> (try rw [hc]) <;> (try simp only [decide_eq_true_eq, decide_eq_false_iff_not, beq_iff_eq, beq_eq_false_iff_ne, bne_iff_ne, bne_eq_false_iff_eq, Bool.not_eq_true', Bool.not_eq_false', Int.not_lt, Int.not_le, ne_eq, reduceCtorEq, not_true_eq_false, not_false_eq_true, Decidable.not_not] at hc) <;> (try (exfalso; omega)) <;> (try refine W_norm rfl ?_))
          )
          | (refine W_lenL rfl (by first | assumption | exact SlR.ln (by assumption) | exact AccS.ln (by assumption) | exact OwnS.ln (by assumption) | exact VwO.ln (by assumption) | exact OwnP.ln (by assumption) | exact Len.sl) ?_; refine W_norm rfl ?_)
          | (refine K_bin ?_; first
            | (refine W_sub rfl rfl (IntWalk.i64_in _ (by first | omega | (simp only [List.length_set, List.length_append, List.length_take, List.length_drop, List.length_replicate, List.length_cons, List.length_nil, decs_length, List.length_map]; omega))) ?_; refine W_norm rfl ?_)
          )
          | (refine K_pick ?_; first
            | refine W_pick_t rfl rfl (W_norm rfl ?_)
            | refine W_pick_f rfl rfl (W_norm rfl ?_)
          )
          | (refine K_index ?_; first
            | (refine W_indexR rfl rfl (by assumption) rfl ⟨(by first | omega | (simp only [List.length_set, List.length_append, List.length_take, List.length_drop, List.length_replicate, List.length_cons, List.length_nil, decs_length, List.length_map]; omega)), (by first | omega | (simp only [List.length_set, List.length_append, List.length_take, List.length_drop, List.length_replicate, List.length_cons, List.length_nil, decs_length, List.length_map]; omega))⟩ ?_; intro _ _ _; refine W_norm rfl ?_)
          )
          | (refine K_load ?_; first
            | (refine W_loadRF hs rfl (by assumption) rfl ?_; refine W_norm rfl ?_)
            | (refine W_loadRP hs rfl (by assumption) rfl ?_; refine W_norm rfl ?_)
          )
          | (refine K_store ?_; first
            | (refine W_storeC hs 0 rfl rfl rfl rfl (by first | decide | assumption) rfl rfl ?_; clear hs; intro _ hs; try simp only [cell_back, attr_back, List.set_cons_zero, List.set_cons_succ, List.eraseIdx_cons_succ, List.eraseIdx_zero, List.tail_cons, List.nil_append, List.cons_append] at hs; refine W_norm rfl ?_)
          )
          | (refine W_allocS hs ?_; clear hs; intro al _ hs; try simp only [cell_back, attr_back, List.set_cons_zero, List.set_cons_succ, List.eraseIdx_cons_succ, List.eraseIdx_zero, List.tail_cons, List.nil_append, List.cons_append] at hs; refine W_norm rfl ?_)
          | (refine W_buildN rfl ?_; refine W_norm rfl ?_)
        )
        | (refine K_code ?_; first
          | (refine W_midB (a := .ops m4_r12) [14, 89, 90, 91, 92, 93, 94, 95, 96, 97, 98, 99, 100, 101, 102, 103, 104, 105, 106, 107, 108, 109, 110, 111, 112, 113] [0, 1, 2, 3, 4, 5, 6, 7, 8, 9, 10, 11, 12, 13, 14, 15, 16, 17, 18, 19, 20, 21, 22, 23, 24, 25, 26, 27, 28, 29, 30, 31, 32, 33, 34, 35, 36, 37, 38, 39, 40, 41, 42, 43, 44, 45, 46, 47, 48, 49, 50, 51, 52, 53, 54, 55, 56, 57, 58, 59, 60, 61, 62, 63, 64, 65, 66, 67, 68, 69, 70, 71, 72, 73, 74, 75, 76, 77, 78, 79, 80, 81, 82, 83, 84, 85, 86, 87, 88, 89, 90, 91, 92, 93, 94, 95, 96, 97, 98, 99, 100, 101, 102, 103, 104, 105, 106, 107, 108, 109, 110, 111, 112, 113, 114, 115, 116, 117, 118, 119, 120, 121, 122, 123, 124, 125, 126, 127, 128, 129, 130, 131, 132, 133, 134, 135, 136, 137, 138, 139, 140, 141, 142, 143, 144, 145, 146, 147, 148, 149, 150, 151, 152, 153, 154, 155, 156, 157, 158, 159, 160, 161, 162, 163, 164, 165, 166, 167, 168, 169, 170, 171, 172, 173, 174, 175, 176, 177, 178, 179, 180, 181, 182, 183, 184, 185, 186, 187, 188, 189, 190, 191, 192, 193, 194, 195, 196, 197, 198, 199, 200, 201, 202, 203, 204, 205, 206, 207, 208, 209, 210, 211, 212, 213, 214, 215, 216, 217, 218, 219, 220, 221, 222, 223, 224, 225, 226, 227, 228, 229, 230, 231, 232, 233, 234, 235, 236, 237, 238, 239, 240, 241] (fun sl h' => sl = [(14, .sc (.bool (decide ((k + 1 = X ∨ k = X) ∧ (L.getD X cell0).w = 2))))] ∧ Sep R [[(al, .cells 37 .own (cellE.enc (blankC (L.getD k cell0).a)))], [(b0, .cells 37 .own (cellE.enc (blankC a)))], [(bx, .cells 27 .own (attrE.enc a))]] h') ?_ ?_)
          | refine W_seq ?_
          | refine W_ops ?_
          | (refine W_cond rfl (fun hc => ?_) (fun hc => ?_) <;> (try rw [hc]) <;> (try simp only [decide_eq_true_eq, decide_eq_false_iff_not, beq_iff_eq, beq_eq_false_iff_ne, bne_iff_ne, bne_eq_false_iff_eq, Bool.not_eq_true', Bool.not_eq_false', Int.not_lt, Int.not_le, ne_eq, reduceCtorEq, not_true_eq_false, not_false_eq_true, Decidable.not_not] at hc) <;> (try (exfalso; omega)) <;> (try refine W_norm rfl ?_))
          | refine W_skip ?_
          | refine W_block ?_
        )
        | refine seqK_n ?_
        | refine midK_n ?_)
      all_goals try (refine ⟨_, ⟨rfl, hs⟩, atB ?_ (EnvB.of rfl)⟩; have hX : ((X : Nat) : Int).toNat = X := rfl; simp only [hX, cellE_dflt] at *; clear hs; grind)
      clear hs
      rintro _ us _ h5 ⟨rfl, hs⟩ he2
      refine W_spell he2 rfl ?_
      clear he2
      have hN : ((L.length : Int) - (N : Int)).toNat = L.length - N := by omega
      repeat' (first
        | (refine K_ops ?_; first
          | refine W_fastB rfl ?_
          | refine W_nil ?_
          | (refine K_guard ?_; first
            | refine W_guard_on rfl ?_
            | refine W_guard_off rfl rfl (W_norm rfl ?_)
            | (refine W_guardT rfl (fun hc => ?_) (fun hc => ?_) <;> (try rw [hc]) <;> (try simp only [decide_eq_true_eq, decide_eq_false_iff_not, beq_iff_eq, beq_eq_false_iff_ne, bne_iff_ne, bne_eq_false_iff_eq, Bool.not_eq_true', Bool.not_eq_false', Int.not_lt, Int.not_le, ne_eq, reduceCtorEq, not_true_eq_false, not_false_eq_true, Decidable.not_not] at hc) <;> (try (exfalso; omega)) <;> (try refine W_norm rfl ?_))
          )
          | (refine W_lenL rfl (by first | assumption | exact SlR.ln (by assumption) | exact AccS.ln (by assumption) | exact OwnS.ln (by assumption) | exact VwO.ln (by assumption) | exact OwnP.ln (by assumption) | exact Len.sl) ?_; refine W_norm rfl ?_)
          | (refine K_bin ?_; first
            | (refine W_sub rfl rfl (IntWalk.i64_in _ (by first | omega | (simp only [List.length_set, List.length_append, List.length_take, List.length_drop, List.length_replicate, List.length_cons, List.length_nil, decs_length, List.length_map]; omega))) ?_; refine W_norm rfl ?_)
          )
          | (refine K_pick ?_; first
            | refine W_pick_t rfl rfl (W_norm rfl ?_)
            | refine W_pick_f rfl rfl (W_norm rfl ?_)
          )
          | (refine K_index ?_; first
            | (refine W_indexR rfl rfl (by assumption) rfl ⟨(by first | omega | (simp only [List.length_set, List.length_append, List.length_take, List.length_drop, List.length_replicate, List.length_cons, List.length_nil, decs_length, List.length_map]; omega)), (by first | omega | (simp only [List.length_set, List.length_append, List.length_take, List.length_drop, List.length_replicate, List.length_cons, List.length_nil, decs_length, List.length_map]; omega))⟩ ?_; intro _ _ _; refine W_norm rfl ?_)
          )
          | (refine K_load ?_; first
            | (refine W_loadRF hs rfl (by assumption) rfl ?_; refine W_norm rfl ?_)
          )
        )
        | (refine K_code ?_; first
          | (refine W_midB (a := .ops m4_r14) [16, 118, 119, 120, 121, 122, 123, 124, 125, 126, 127, 128, 129, 130, 131, 132, 133, 134, 135, 136, 137, 138, 139] [0, 1, 2, 3, 4, 5, 6, 7, 8, 9, 10, 11, 12, 13, 14, 15, 16, 17, 18, 19, 20, 21, 22, 23, 24, 25, 26, 27, 28, 29, 30, 31, 32, 33, 34, 35, 36, 37, 38, 39, 40, 41, 42, 43, 44, 45, 46, 47, 48, 49, 50, 51, 52, 53, 54, 55, 56, 57, 58, 59, 60, 61, 62, 63, 64, 65, 66, 67, 68, 69, 70, 71, 72, 73, 74, 75, 76, 77, 78, 79, 80, 81, 82, 83, 84, 85, 86, 87, 88, 89, 90, 91, 92, 93, 94, 95, 96, 97, 98, 99, 100, 101, 102, 103, 104, 105, 106, 107, 108, 109, 110, 111, 112, 113, 114, 115, 116, 117, 118, 119, 120, 121, 122, 123, 124, 125, 126, 127, 128, 129, 130, 131, 132, 133, 134, 135, 136, 137, 138, 139, 140, 141, 142, 143, 144, 145, 146, 147, 148, 149, 150, 151, 152, 153, 154, 155, 156, 157, 158, 159, 160, 161, 162, 163, 164, 165, 166, 167, 168, 169, 170, 171, 172, 173, 174, 175, 176, 177, 178, 179, 180, 181, 182, 183, 184, 185, 186, 187, 188, 189, 190, 191, 192, 193, 194, 195, 196, 197, 198, 199, 200, 201, 202, 203, 204, 205, 206, 207, 208, 209, 210, 211, 212, 213, 214, 215, 216, 217, 218, 219, 220, 221, 222, 223, 224, 225, 226, 227, 228, 229, 230, 231, 232, 233, 234, 235, 236, 237, 238, 239, 240, 241] (fun sl h' => sl = [(16, .sc (.bool (decide (0 < L.length - N ∧ L.length - N < L.length ∧ (L.getD (L.length - N) cell0).w = 2 ∧ k + 1 = L.length - N))))] ∧ Sep R [[(al, .cells 37 .own (cellE.enc (blankC (L.getD k cell0).a)))], [(b0, .cells 37 .own (cellE.enc (blankC a)))], [(bx, .cells 27 .own (attrE.enc a))]] h') ?_ ?_)
          | refine W_seq ?_
          | refine W_ops ?_
        )
        | refine seqK_n ?_
        | refine midK_n ?_)
      all_goals try simp only [hN, cellE_dflt] at *
      all_goals try (refine ⟨_, ⟨rfl, hs⟩, atB ?_ (EnvB.of rfl)⟩; clear hs; grind)
      clear hs
      rintro _ us _ h5 ⟨rfl, hs⟩ he2
      refine W_spell he2 rfl ?_
      clear he2
      repeat' (first
        | (refine K_ops ?_; first
          | refine W_fastB rfl ?_
          | refine W_nil ?_
          | (refine K_guard ?_; first
            | (refine W_guardF rfl (fun hc => ?_) (fun hc => ?_) <;> (try rw [hc]) <;> (try simp only [decide_eq_true_eq, decide_eq_false_iff_not, beq_iff_eq, beq_eq_false_iff_ne, bne_iff_ne, bne_eq_false_iff_eq, Bool.not_eq_true', Bool.not_eq_false', Int.not_lt, Int.not_le, ne_eq, reduceCtorEq, not_true_eq_false, not_false_eq_true, Decidable.not_not] at hc) <;> (try (exfalso; omega)) <;> (try refine W_norm rfl ?_))
          )
          | (refine K_bin ?_; first
            | (refine W_neE cellE rfl rfl rfl rfl cellE_fits ?_; refine W_norm rfl ?_)
          )
          | (refine K_pick ?_; first
            | refine W_pick_t rfl rfl (W_norm rfl ?_)
            | refine W_pick_f rfl rfl (W_norm rfl ?_)
          )
          | (refine K_index ?_; first
            | (refine W_indexR rfl rfl (by assumption) rfl ⟨(by first | omega | (simp only [List.length_set, List.length_append, List.length_take, List.length_drop, List.length_replicate, List.length_cons, List.length_nil, decs_length, List.length_map]; omega)), (by first | omega | (simp only [List.length_set, List.length_append, List.length_take, List.length_drop, List.length_replicate, List.length_cons, List.length_nil, decs_length, List.length_map]; omega))⟩ ?_; intro _ _ _; refine W_norm rfl ?_)
          )
          | (refine K_load ?_; first
            | (refine W_loadRA hs rfl (by assumption) rfl ?_; refine W_norm rfl ?_)
            | (refine W_loadCA hs 0 rfl rfl rfl ?_; refine W_norm rfl ?_)
            | (refine W_loadCA hs 1 rfl rfl rfl ?_; refine W_norm rfl ?_)
          )
        )
        | (refine K_code ?_; first
          | (refine W_midB (a := .block 2 _) [8, 12, 13, 14, 15, 16, 17, 77, 78, 79, 80, 81, 82, 83, 84, 85, 86, 87, 88, 89, 90, 91, 92, 93, 94, 95, 96, 97, 98, 99, 100, 101, 102, 103, 104, 105, 106, 107, 108, 109, 110, 111, 112, 113, 114, 115, 116, 117, 118, 119, 120, 121, 122, 123, 124, 125, 126, 127, 128, 129, 130, 131, 132, 133, 134, 135, 136, 137, 138, 139, 140, 141, 142, 143, 144, 145, 146, 147, 148, 149, 150, 151, 152, 153, 154, 155, 156, 157, 158, 159, 160, 161, 162, 163, 164, 165, 166, 167, 168, 169, 170, 171, 172, 173, 174, 175, 176, 177, 178, 179, 180, 181, 182, 183, 184, 185, 186, 187, 188, 189, 190, 191, 192, 193, 194, 195, 196, 197, 198, 199, 200, 201, 202, 203, 204, 205, 206, 207, 208, 209, 210, 211, 212, 213, 214, 215, 216, 217, 218, 219, 220, 221, 222, 223, 224, 225, 226, 227, 228, 229, 230, 231, 232, 233, 234, 235, 236, 237, 238, 239, 240] [0, 1, 2, 3, 4, 5, 6, 7, 8, 9, 10, 11, 12, 13, 14, 15, 16, 17, 18, 19, 20, 21, 22, 23, 24, 25, 26, 27, 28, 29, 30, 31, 32, 33, 34, 35, 36, 37, 38, 39, 40, 41, 42, 43, 44, 45, 46, 47, 48, 49, 50, 51, 52, 53, 54, 55, 56, 57, 58, 59, 60, 61, 62, 63, 64, 65, 66, 67, 68, 69, 70, 71, 72, 73, 74, 75, 76, 77, 78, 79, 80, 81, 82, 83, 84, 85, 86, 87, 88, 89, 90, 91, 92, 93, 94, 95, 96, 97, 98, 99, 100, 101, 102, 103, 104, 105, 106, 107, 108, 109, 110, 111, 112, 113, 114, 115, 116, 117, 118, 119, 120, 121, 122, 123, 124, 125, 126, 127, 128, 129, 130, 131, 132, 133, 134, 135, 136, 137, 138, 139, 140, 141, 142, 143, 144, 145, 146, 147, 148, 149, 150, 151, 152, 153, 154, 155, 156, 157, 158, 159, 160, 161, 162, 163, 164, 165, 166, 167, 168, 169, 170, 171, 172, 173, 174, 175, 176, 177, 178, 179, 180, 181, 182, 183, 184, 185, 186, 187, 188, 189, 190, 191, 192, 193, 194, 195, 196, 197, 198, 199, 200, 201, 202, 203, 204, 205, 206, 207, 208, 209, 210, 211, 212, 213, 214, 215, 216, 217, 218, 219, 220, 221, 222, 223, 224, 225, 226, 227, 228, 229, 230, 231, 232, 233, 234, 235, 236, 237, 238, 239, 240, 241] (fun sl h' => sl = [(12, .sc (.int .i64 (k : Int))), (13, .sc (.ptr al 0)), (14, .sc (.bool (decide ((k + 1 = X ∨ k = X) ∧ (L.getD X cell0).w = 2))))] ∧ Sep R [[(al, .cells 37 .own (cellE.enc (blankC (L.getD k cell0).a)))], [(b0, .cells 37 .own (cellE.enc (blankC a)))], [(bx, .cells 27 .own (attrE.enc a))]] h') ?_ ?_)
          | refine W_seq ?_
          | refine W_ops ?_
          | refine W_cond_t rfl ?_
          | (refine W_cond rfl (fun hc => ?_) (fun hc => ?_) <;> (try rw [hc]) <;> (try simp only [decide_eq_true_eq, decide_eq_false_iff_not, beq_iff_eq, beq_eq_false_iff_ne, bne_iff_ne, bne_eq_false_iff_eq, Bool.not_eq_true', Bool.not_eq_false', Int.not_lt, Int.not_le, ne_eq, reduceCtorEq, not_true_eq_false, not_false_eq_true, Decidable.not_not] at hc) <;> (try (exfalso; omega)) <;> (try refine W_norm rfl ?_))
          | refine W_skip ?_
          | refine W_ret ?_
          | refine W_block ?_
          | refine W_draw rfl ?_
        )
        | refine seqK_n ?_
        | refine seqK_r ?_
        | refine blockK_r ?_
        | refine blockK_n ?_
        | refine invK_r ?_
        | refine midK_n ?_
        | refine midK_r ?_
        | (refine fnK_r rfl ?_; try dsimp only [gd_z, gd_s]))
      all_goals try (first | exact ⟨_, ⟨rfl, hs⟩, EnvB.of rfl⟩ | (exfalso; apply hc; clear hs; first | (show B.getD k cell0 = blankC a; rw [hbk]; unfold backC; grind) | (show B.getD k cell0 = blankC (L.getD k cell0).a; rw [hbk]; unfold backC; grind) | (show B.getD k cell0 = L.getD k cell0; rw [hbk]; unfold backC; grind)))
      clear hs
      rintro _ us _ h5 ⟨rfl, hs⟩ he2
      refine W_spell he2 rfl ?_
      clear he2
      have hM : ((X : Int) + (N : Int)).toNat = X + N := by omega
      repeat' (first
        | (refine K_ops ?_; first
          | refine W_fastB rfl ?_
          | refine W_nil ?_
          | (refine K_guard ?_; first
            | refine W_guard_on rfl ?_
            | refine W_guard_off rfl rfl (W_norm rfl ?_)
            | (refine W_guardT rfl (fun hc => ?_) (fun hc => ?_) <;> (try rw [hc]) <;> (try simp only [decide_eq_true_eq, decide_eq_false_iff_not, beq_iff_eq, beq_eq_false_iff_ne, bne_iff_ne, bne_eq_false_iff_eq, Bool.not_eq_true', Bool.not_eq_false', Int.not_lt, Int.not_le, ne_eq, reduceCtorEq, not_true_eq_false, not_false_eq_true, Decidable.not_not] at hc) <;> (try (exfalso; omega)) <;> (try refine W_norm rfl ?_))
          )
          | (refine W_lenL rfl (by first | assumption | exact SlR.ln (by assumption) | exact AccS.ln (by assumption) | exact OwnS.ln (by assumption) | exact VwO.ln (by assumption) | exact OwnP.ln (by assumption) | exact Len.sl) ?_; refine W_norm rfl ?_)
          | (refine K_bin ?_; first
            | (refine W_add rfl rfl (IntWalk.i64_in _ (by first | omega | (simp only [List.length_set, List.length_append, List.length_take, List.length_drop, List.length_replicate, List.length_cons, List.length_nil, decs_length, List.length_map]; omega))) ?_; refine W_norm rfl ?_)
          )
          | (refine K_pick ?_; first
            | refine W_pick_t rfl rfl (W_norm rfl ?_)
            | refine W_pick_f rfl rfl (W_norm rfl ?_)
          )
          | (refine K_index ?_; first
            | (refine W_indexR rfl rfl (by assumption) rfl ⟨(by first | omega | (simp only [List.length_set, List.length_append, List.length_take, List.length_drop, List.length_replicate, List.length_cons, List.length_nil, decs_length, List.length_map]; omega)), (by first | omega | (simp only [List.length_set, List.length_append, List.length_take, List.length_drop, List.length_replicate, List.length_cons, List.length_nil, decs_length, List.length_map]; omega))⟩ ?_; intro _ _ _; refine W_norm rfl ?_)
          )
          | (refine K_load ?_; first
            | (refine W_loadRF hs rfl (by assumption) rfl ?_; refine W_norm rfl ?_)
          )
        )
        | (refine K_code ?_; first
          | (refine W_midB (a := .ops m4_r23) [17, 170, 171, 172, 173, 174, 175, 176, 177, 178, 179, 180, 181, 182, 183, 184, 185, 186, 187, 188, 189, 190, 191, 192] [0, 1, 2, 3, 4, 5, 6, 7, 8, 9, 10, 11, 12, 13, 14, 15, 16, 17, 18, 19, 20, 21, 22, 23, 24, 25, 26, 27, 28, 29, 30, 31, 32, 33, 34, 35, 36, 37, 38, 39, 40, 41, 42, 43, 44, 45, 46, 47, 48, 49, 50, 51, 52, 53, 54, 55, 56, 57, 58, 59, 60, 61, 62, 63, 64, 65, 66, 67, 68, 69, 70, 71, 72, 73, 74, 75, 76, 77, 78, 79, 80, 81, 82, 83, 84, 85, 86, 87, 88, 89, 90, 91, 92, 93, 94, 95, 96, 97, 98, 99, 100, 101, 102, 103, 104, 105, 106, 107, 108, 109, 110, 111, 112, 113, 114, 115, 116, 117, 118, 119, 120, 121, 122, 123, 124, 125, 126, 127, 128, 129, 130, 131, 132, 133, 134, 135, 136, 137, 138, 139, 140, 141, 142, 143, 144, 145, 146, 147, 148, 149, 150, 151, 152, 153, 154, 155, 156, 157, 158, 159, 160, 161, 162, 163, 164, 165, 166, 167, 168, 169, 170, 171, 172, 173, 174, 175, 176, 177, 178, 179, 180, 181, 182, 183, 184, 185, 186, 187, 188, 189, 190, 191, 192, 193, 194, 195, 196, 197, 198, 199, 200, 201, 202, 203, 204, 205, 206, 207, 208, 209, 210, 211, 212, 213, 214, 215, 216, 217, 218, 219, 220, 221, 222, 223, 224, 225, 226, 227, 228, 229, 230, 231, 232, 233, 234, 235, 236, 237, 238, 239, 240, 241] (fun sl h' => sl = [(17, .sc (.bool (decide (X + N < L.length ∧ (L.getD (X + N) cell0).w = 2 ∧ k = X + N))))] ∧ Sep R [[(al, .cells 37 .own (cellE.enc (blankC (L.getD k cell0).a)))], [(b0, .cells 37 .own (cellE.enc (blankC a)))], [(bx, .cells 27 .own (attrE.enc a))]] h') ?_ ?_)
          | refine W_ops ?_
        )
        | refine midK_n ?_)
      all_goals try simp only [hM, cellE_dflt] at *
      all_goals try (refine ⟨_, ⟨rfl, hs⟩, atB ?_ (EnvB.of rfl)⟩; clear hs; grind)
      clear hs
      rintro _ us _ h5 ⟨rfl, hs⟩ he2
      refine W_spell he2 rfl ?_
      clear he2
      repeat' (first
        | (refine K_ops ?_; first
          | refine W_fastB rfl ?_
          | refine W_nil ?_
          | (refine K_guard ?_; first
            | refine W_guard_on rfl ?_
            | refine W_guard_off rfl rfl (W_norm rfl ?_)
            | (refine W_guardT rfl (fun hc => ?_) (fun hc => ?_) <;> (try rw [hc]) <;> (try simp only [decide_eq_true_eq, decide_eq_false_iff_not, beq_iff_eq, beq_eq_false_iff_ne, bne_iff_ne, bne_eq_false_iff_eq, Bool.not_eq_true', Bool.not_eq_false', Int.not_lt, Int.not_le, ne_eq, reduceCtorEq, not_true_eq_false, not_false_eq_true, Decidable.not_not] at hc) <;> (try (exfalso; omega)) <;> (try refine W_norm rfl ?_))
            | (refine W_guardF rfl (fun hc => ?_) (fun hc => ?_) <;> (try rw [hc]) <;> (try simp only [decide_eq_true_eq, decide_eq_false_iff_not, beq_iff_eq, beq_eq_false_iff_ne, bne_iff_ne, bne_eq_false_iff_eq, Bool.not_eq_true', Bool.not_eq_false', Int.not_lt, Int.not_le, ne_eq, reduceCtorEq, not_true_eq_false, not_false_eq_true, Decidable.not_not] at hc) <;> (try (exfalso; omega)) <;> (try refine W_norm rfl ?_))
          )
          | (refine K_bin ?_; first
            | (refine W_add rfl rfl (IntWalk.i64_in _ (by first | omega | (simp only [List.length_set, List.length_append, List.length_take, List.length_drop, List.length_replicate, List.length_cons, List.length_nil, decs_length, List.length_map]; omega))) ?_; refine W_norm rfl ?_)
            | (refine W_sub rfl rfl (IntWalk.i64_in _ (by first | omega | (simp only [List.length_set, List.length_append, List.length_take, List.length_drop, List.length_replicate, List.length_cons, List.length_nil, decs_length, List.length_map]; omega))) ?_; refine W_norm rfl ?_)
            | (refine W_neE cellE rfl rfl rfl rfl cellE_fits ?_; refine W_norm rfl ?_)
          )
          | (refine K_pick ?_; first
            | refine W_pick_t rfl rfl (W_norm rfl ?_)
            | refine W_pick_f rfl rfl (W_norm rfl ?_)
          )
          | (refine K_index ?_; first
            | (refine W_indexR rfl rfl (by assumption) rfl ⟨(by first | omega | (simp only [List.length_set, List.length_append, List.length_take, List.length_drop, List.length_replicate, List.length_cons, List.length_nil, decs_length, List.length_map]; omega)), (by first | omega | (simp only [List.length_set, List.length_append, List.length_take, List.length_drop, List.length_replicate, List.length_cons, List.length_nil, decs_length, List.length_map]; omega))⟩ ?_; intro _ _ _; refine W_norm rfl ?_)
          )
          | (refine K_load ?_; first
            | (refine W_loadRF hs rfl (by assumption) rfl ?_; refine W_norm rfl ?_)
            | (refine W_loadRA hs rfl (by assumption) rfl ?_; refine W_norm rfl ?_)
            | (refine W_loadCA hs 0 rfl rfl rfl ?_; refine W_norm rfl ?_)
            | (refine W_loadCA hs 1 rfl rfl rfl ?_; refine W_norm rfl ?_)
          )
        )
        | (refine K_code ?_; first
          | refine W_seq ?_
          | refine W_ops ?_
          | refine W_cond_t rfl ?_
          | refine W_cond_f rfl ?_
          | (refine W_cond rfl (fun hc => ?_) (fun hc => ?_) <;> (try rw [hc]) <;> (try simp only [decide_eq_true_eq, decide_eq_false_iff_not, beq_iff_eq, beq_eq_false_iff_ne, bne_iff_ne, bne_eq_false_iff_eq, Bool.not_eq_true', Bool.not_eq_false', Int.not_lt, Int.not_le, ne_eq, reduceCtorEq, not_true_eq_false, not_false_eq_true, Decidable.not_not] at hc) <;> (try (exfalso; omega)) <;> (try refine W_norm rfl ?_))
          | refine W_skip ?_
          | refine W_ret ?_
          | refine W_block ?_
          | refine W_draw rfl ?_
        )
        | refine seqK_n ?_
        | refine seqK_r ?_
        | refine blockK_r ?_
        | refine blockK_n ?_
        | refine invK_r ?_
        | refine invK_n ?_
        | (refine fnK_r rfl ?_; try dsimp only [gd_z, gd_s]))
      all_goals try (exfalso; apply hc; clear hs; first | (show C.getD k cell0 = blankC a; rw [hek]; unfold eraseC; grind) | (show C.getD k cell0 = blankC (L.getD k cell0).a; rw [hek]; unfold eraseC; grind) | (show C.getD k cell0 = L.getD k cell0; rw [hek]; unfold eraseC; grind))
      all_goals (refine ⟨_, ?_, _, ⟨k + 1, rfl, rfl, ?_, hs.drop 0⟩, EnvB.of rfl⟩ <;> omega)
    · repeat' (first
        | (refine K_ops ?_; first
          | refine W_fastB rfl ?_
          | refine W_nil ?_
          | (refine K_call ?_; first
            | (refine W_callsN 9 rfl (w9 _) rfl ?_; rintro _ _ ⟨rfl, rfl⟩; refine W_norm rfl ?_)
          )
          | (refine W_lenL rfl (by first | assumption | exact SlR.ln (by assumption) | exact AccS.ln (by assumption) | exact OwnS.ln (by assumption) | exact VwO.ln (by assumption) | exact OwnP.ln (by assumption) | exact Len.sl) ?_; refine W_norm rfl ?_)
        )
        | (refine K_code ?_; first
          | refine W_seq ?_
          | refine W_ops ?_
          | (refine W_cond rfl (fun hc => ?_) (fun hc => ?_) <;> (try rw [hc]) <;> (try simp only [decide_eq_true_eq, decide_eq_false_iff_not, beq_iff_eq, beq_eq_false_iff_ne, bne_iff_ne, bne_eq_false_iff_eq, Bool.not_eq_true', Bool.not_eq_false', Int.not_lt, Int.not_le, ne_eq, reduceCtorEq, not_true_eq_false, not_false_eq_true, Decidable.not_not] at hc) <;> (try (exfalso; omega)) <;> (try refine W_norm rfl ?_))
          | refine W_ret ?_
          | refine W_exit ?_
        )
        | refine seqK_n ?_
        | refine seqK_x ?_
        | refine blockK_e ?_
        | refine invK_x ?_
        | (refine fnK_r rfl ?_; try dsimp only [gd_z, gd_s]))
      exact ⟨_, rfl, rfl⟩
  · have hcond : ¬ (L.length ≤ 400) ∨ wholeR false L = false ∨ x < 0 ∨ L.length ≤ x ∨ n < 1 ∨ L.length - x < n := by
      rw [wholeR_iff L hw]
      by_cases hb : wholeB L = true
      · have : ¬ (L.length ≤ 400 ∧ 0 ≤ x ∧ x < L.length ∧ 1 ≤ n ∧ n ≤ L.length - x) := fun hh => hok ⟨hh.1, hb, hh.2⟩
        omega
      · exact .inr (.inl (by simpa using hb))
    refine W_enter d4 ?_
    show W _ (.code m4_code [.sc v, i64 x, i64 n, .agg (attrE.enc a), undefA, undefA, undefA, undefA, undefA, undefA, undefA, undefA, undefA, undefA, undefA, undefA, undefA, undefA, undefA, undefA, undefA, undefA, undefA, undefA, undefA, undefA, undefA, undefA, undefA, undefA, undefA, undefA, undefA, undefA, undefA, undefA, undefA, undefA, undefA, undefA, undefA, undefA, undefA, undefA, undefA, undefA, undefA, undefA, undefA, undefA, undefA, undefA, undefA, undefA, undefA, undefA, undefA, undefA, undefA, undefA, undefA, undefA, undefA, undefA, undefA, undefA, undefA, undefA, undefA, undefA, undefA, undefA, undefA, undefA, undefA, undefA, undefA, undefA, undefA, undefA, undefA, undefA, undefA, undefA, undefA, undefA, undefA, undefA, undefA, undefA, undefA, undefA, undefA, undefA, undefA, undefA, undefA, undefA, undefA, undefA, undefA, undefA, undefA, undefA, undefA, undefA, undefA, undefA, undefA, undefA, undefA, undefA, undefA, undefA, undefA, undefA, undefA, undefA, undefA, undefA, undefA, undefA, undefA, undefA, undefA, undefA, undefA, undefA, undefA, undefA, undefA, undefA, undefA, undefA, undefA, undefA, undefA, undefA, undefA, undefA, undefA, undefA, undefA, undefA, undefA, undefA, undefA, undefA, undefA, undefA, undefA, undefA, undefA, undefA, undefA, undefA, undefA, undefA, undefA, undefA, undefA, undefA, undefA, undefA, undefA, undefA, undefA, undefA, undefA, undefA, undefA, undefA, undefA, undefA, undefA, undefA, undefA, undefA, undefA, undefA, undefA, undefA, undefA, undefA, undefA, undefA, undefA, undefA, undefA, undefA, undefA, undefA, undefA, undefA, undefA, undefA, undefA, undefA, undefA, undefA, undefA, undefA, undefA, undefA, undefA, undefA, undefA, undefA, undefA, undefA, undefA, undefA, undefA, undefA, undefA, undefA, undefA, undefA, undefA, undefA, undefA, undefA, undefA, undefA, undefA, undefA, undefA, undefA, undefA, undefA, undefA, undefA, undefA, undefA, undefA, undefA, undefA, undefA, undefA, undefA, undefA, undefA] _) _
    unfold m4_code
    repeat' (first
      | (refine K_ops ?_; first
        | refine W_fastB rfl ?_
        | refine W_nil ?_
        | (refine K_guard ?_; first
          | refine W_guard_on rfl ?_
          | refine W_guard_off rfl rfl (W_norm rfl ?_)
          | (refine W_guardF rfl (fun hc => ?_) (fun hc => ?_) <;> (try rw [hc]) <;> (try simp only [decide_eq_true_eq, decide_eq_false_iff_not, beq_iff_eq, beq_eq_false_iff_ne, bne_iff_ne, bne_eq_false_iff_eq, Bool.not_eq_true', Bool.not_eq_false', Int.not_lt, Int.not_le, ne_eq, reduceCtorEq, not_true_eq_false, not_false_eq_true, Decidable.not_not] at hc) <;> (try (exfalso; omega)) <;> (try refine W_norm rfl ?_))
        )
        | (refine K_call ?_; first
          | (refine W_callsN 14 rfl (w14 (SlR.now hs hv) (by omega)) rfl ?_; rintro _ _ ⟨rfl, rfl⟩; refine W_norm rfl ?_)
          | (refine W_callsN 9 rfl (w9 _) rfl ?_; rintro _ _ ⟨rfl, rfl⟩; refine W_norm rfl ?_)
        )
        | (refine W_lenL rfl (by first | assumption | exact SlR.ln (by assumption) | exact AccS.ln (by assumption) | exact OwnS.ln (by assumption) | exact VwO.ln (by assumption) | exact OwnP.ln (by assumption) | exact Len.sl) ?_; refine W_norm rfl ?_)
        | (refine K_bin ?_; first
          | (refine W_sub rfl rfl (IntWalk.i64_in _ (by first | omega | (simp only [List.length_set, List.length_append, List.length_take, List.length_drop, List.length_replicate, List.length_cons, List.length_nil, decs_length, List.length_map]; omega))) ?_; refine W_norm rfl ?_)
        )
        | (refine K_pick ?_; first
          | refine W_pick_t rfl rfl (W_norm rfl ?_)
          | refine W_pick_f rfl rfl (W_norm rfl ?_)
        )
        | (refine W_boxS hs rfl rfl ?_; clear hs; intro bx _ hs; try simp only [cell_back, attr_back, List.set_cons_zero, List.set_cons_succ, List.eraseIdx_cons_succ, List.eraseIdx_zero, List.tail_cons, List.nil_append, List.cons_append] at hs; refine W_norm rfl ?_)
      )
      | (refine K_code ?_; first
        | refine W_seq ?_
        | refine W_ops ?_
        | refine W_cond_t rfl ?_
        | (refine W_cond rfl (fun hc => ?_) (fun hc => ?_) <;> (try rw [hc]) <;> (try simp only [decide_eq_true_eq, decide_eq_false_iff_not, beq_iff_eq, beq_eq_false_iff_ne, bne_iff_ne, bne_eq_false_iff_eq, Bool.not_eq_true', Bool.not_eq_false', Int.not_lt, Int.not_le, ne_eq, reduceCtorEq, not_true_eq_false, not_false_eq_true, Decidable.not_not] at hc) <;> (try (exfalso; omega)) <;> (try refine W_norm rfl ?_))
        | refine W_skip ?_
        | refine W_ret ?_
      )
      | refine seqK_n ?_
      | refine seqK_r ?_
      | (refine fnK_r rfl ?_; try dsimp only [gd_z, gd_s]))
    all_goals first | exact ⟨_, rfl, rfl⟩ | (exfalso; rcases hcond with hh | hh | hh | hh | hh | hh <;> first | omega | simp_all)

theorem openCell {H : Heap} {l : List SV} (o : OpenL H [.int .i32, .int .u8, .int .u16, .int .u8, .int .u32, .int .u8, .int .u32] l) : ∃ a, l = cellE.enc a ∧ (-2147483648 ≤ a.r ∧ a.r ≤ 2147483647 ∧ 0 ≤ a.w ∧ a.w ≤ 255) := by
  simp only [OpenL, OpenS] at o
  obtain ⟨_, _, rfl, ⟨r, rfl, hr1, hr2⟩, _, _, rfl, ⟨w, rfl, hw1, hw2⟩, _, _, rfl, ⟨f, rfl, _⟩, _, _, rfl, ⟨fk, rfl, _⟩, _, _, rfl, ⟨fn, rfl, _⟩, _, _, rfl, ⟨bk, rfl, _⟩, _, _, rfl, ⟨bn, rfl, _⟩, rfl⟩ := o
  exact ⟨⟨r, w, ⟨f, fk, fn, bk, bn⟩⟩, rfl, hr1, hr2, hw1, hw2⟩
theorem openAttr {H : Heap} {l : List SV} (o : OpenL H [.int .u16, .int .u8, .int .u32, .int .u8, .int .u32] l) : ∃ a, l = attrE.enc a := by
  simp only [OpenL, OpenS] at o
  obtain ⟨_, _, rfl, ⟨f, rfl, _⟩, _, _, rfl, ⟨fk, rfl, _⟩, _, _, rfl, ⟨fn, rfl, _⟩, _, _, rfl, ⟨bk, rfl, _⟩, _, _, rfl, ⟨bn, rfl, _⟩, rfl⟩ := o
  exact ⟨⟨f, fk, fn, bk, bn⟩, rfl⟩
theorem walk_rowBack (H : Heap) (avs : List AV) (hwf : H.l.length = H.n) (hs : Sub (HL Tryd.prog.globals.size jxLs) H) (ho : OpenA H [(false, [.slice 37 7 [.int .i32, .int .u8, .int .u16, .int .u8, .int .u32, .int .u8, .int .u32]]), (false, [.int .i64]), (false, [.int .i64]), (true, [.int .u16, .int .u8, .int .u32, .int .u8, .int .u32])] avs) : W DD (.call 4 avs H) (fun _ vs _ => vs = [.sc (.bool true)]) := by
  simp only [OpenA] at ho
  obtain ⟨k, s, l', hk, rfl, o1, k2, s2, l2, hk2, rfl, o2, k3, s3, l3, hk3, rfl, o3, svs, l4, rfl, o4, rfl⟩ := ho
  cases hk; cases hk2; cases hk3
  simp only [OpenS] at o2 o3
  obtain ⟨x, rfl, hx⟩ := o2
  obtain ⟨n, rfl, _⟩ := o3
  obtain ⟨L, hl, hr, hlen⟩ := o1.sl (enc := cellE.enc) cellE.len (fun l o => openCell o)
  obtain ⟨a, rfl⟩ := openAttr o4
  exact (w4 a hl (fun c hc => (hr c hc).2.2.1) hx).mono fun _ _ _ ⟨v, hv, h3⟩ => by rw [hv, h3]
end Go.Proofs.YtkkkigkfklngdaaDoor
