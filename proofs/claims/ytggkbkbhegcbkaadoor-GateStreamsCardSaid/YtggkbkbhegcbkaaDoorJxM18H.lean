import Derived.Test.YtggkbkbhegcbkaaDoorJxM18D
import Derived.Test.YtggkbkbhegcbkaaDoorJxM18C
/- The gate: the document's classes, walked. -/
set_option linter.unusedSimpArgs false
set_option linter.unusedVariables false
set_option maxHeartbeats 1000000
set_option maxRecDepth 100000
namespace Go.Proofs.YtggkbkbhegcbkaaDoor
open Go Go.Jx

/-! ## plain -/
theorem idxB_at {s : List UInt8} {b : UInt8} {k : Nat} (hk : k < s.length) (h1 : s.getD k 0 = b) (h2 : ∀ j, j < k → s.getD j 0 ≠ b) : indexByteA s b.toNat = k := by
  rcases idxB_b s b with ⟨_, h4⟩ | ⟨i, h3, h4, h5, h6⟩
  · exact absurd (by rw [← h1]; exact getD_mem hk) h4
  · rcases Nat.lt_trichotomy i k with h | rfl | h
    · exact absurd h5 (h2 i h)
    · exact h3
    · exfalso
      apply h6
      rw [← h1, List.mem_iff_getElem?]
      exact ⟨k, by rw [List.getElem?_take_of_lt h]; exact getD_get? hk⟩
theorem idxB_no {s : List UInt8} {b : UInt8} (h : ∀ j, j < s.length → s.getD j 0 ≠ b) : indexByteA s b.toNat = -1 := by
  rcases idxB_b s b with ⟨h3, _⟩ | ⟨i, _, h4, h5, _⟩
  · exact h3
  · exact absurd h5 (h i h4)
theorem cutL_at {s : List UInt8} {b : UInt8} {k : Nat} (hk : k < s.length) (h1 : s.getD k 0 = b) (h2 : ∀ j, j < k → s.getD j 0 ≠ b) : cutL s b = (s.take k, s.drop (k + 1), true) := by
  unfold cutL
  rw [idxB_at hk h1 h2, if_neg (by omega)]
  rfl
theorem cutL_no {s : List UInt8} {b : UInt8} (h : ∀ j, j < s.length → s.getD j 0 ≠ b) : cutL s b = (s, [], false) := by
  unfold cutL
  rw [idxB_no h, if_pos (by omega)]
theorem cutL_nil (b : UInt8) : cutL [] b = ([], [], false) := cutL_no fun j hj => by simp at hj
theorem cutL_cases (s : List UInt8) (b : UInt8) : (∀ j, j < s.length → s.getD j 0 ≠ b) ∨ ∃ k, k < s.length ∧ s.getD k 0 = b ∧ ∀ j, j < k → s.getD j 0 ≠ b := by
  rcases idxB_b s b with ⟨_, h4⟩ | ⟨i, h3, h4, h5, h6⟩
  · left
    intro j hj he
    exact h4 (by rw [← he]; exact getD_mem hj)
  · right
    refine ⟨i, h4, h5, fun j hj he => h6 ?_⟩
    rw [← he, List.mem_iff_getElem?]
    exact ⟨j, by rw [List.getElem?_take_of_lt hj]; exact getD_get? (by omega)⟩
theorem cutL_cons (x : UInt8) (s : List UInt8) (b : UInt8) : cutL (x :: s) b = if x = b then ([], s, true) else (x :: (cutL s b).1, (cutL s b).2) := by
  by_cases hx : x = b
  · rw [if_pos hx, cutL_at (k := 0) (by simp) (by simpa using hx) (fun j hj => by omega)]; rfl
  · rw [if_neg hx]
    rcases cutL_cases s b with h | ⟨k, h1, h2, h3⟩
    · rw [cutL_no h, cutL_no]
      intro j hj
      cases j with
      | zero => simpa using hx
      | succ j => simpa using h j (by simpa using hj)
    · rw [cutL_at h1 h2 h3, cutL_at (k := k + 1) (by simpa using h1) (by simpa using h2)]
      · rfl
      · intro j hj
        cases j with
        | zero => simpa using hx
        | succ j => simpa using h3 j (by omega)
theorem inL_any (f : UInt8) (s : List UInt8) : inL f s = s.any (fun c => c == f) := by
  unfold inL
  rcases cutL_cases s f with h | ⟨k, h1, h2, h3⟩
  · rw [idxB_no h]
    symm
    rw [decide_eq_false (by omega), List.any_eq_false]
    intro x hx
    obtain ⟨j, hj, rfl⟩ := List.getElem_of_mem hx
    have := h j hj
    rw [List.getD_eq_getElem?_getD, List.getElem?_eq_getElem hj] at this
    simpa using this
  · rw [idxB_at h1 h2 h3]
    symm
    rw [decide_eq_true (by omega), List.any_eq_true]
    exact ⟨s.getD k 0, getD_mem h1, by rw [h2]; simp⟩

/-- A command to the system, behind its number. -/
def sysD (r : List UInt8) : Flow :=
  if (cutL r 59).2.2 = true ∧ (cutL r 59).2.1 = [63] then (5, 0, [])
  else if (cutL r 59).2.2 = true ∧ (decL (cutL r 59).2.1).isSome = true ∧ ((decL (cutL r 59).2.1).getD []).length ≤ 4096 then (4, 0, (decL (cutL r 59).2.1).getD []) else (7, 0, [])
theorem sysD_nil : sysD [] = (7, 0, []) := by unfold sysD; rw [cutL_nil]; rfl
theorem sys_all (t : List UInt8) : sysL t = if 1 < t.length ∧ (t.take 2 = [48, 59] ∨ t.take 2 = [50, 59]) then (2, 0, cleanL (t.drop 2)) else if 3 < t.length ∧ t.take 3 = [53, 50, 59] then sysD (t.drop 3) else (7, 0, []) := by
  have hD : sysL t = if (cutL t 59).1 = [48] ∨ (cutL t 59).1 = [50] then (if t.length > (cutL t 59).1.length then (2, 0, cleanL (cutL t 59).2.1) else (7, 0, [])) else if (cutL t 59).1 = [53, 50] then sysD (cutL t 59).2.1 else (7, 0, []) := rfl
  rw [hD]
  match t with
  | [] => simp [cutL_nil]
  | [a] =>
    rw [cutL_cons, cutL_nil]
    by_cases ha : a = 59
    · simp [ha]
    · rw [if_neg ha]; simp
  | a :: b :: r =>
    rw [cutL_cons, cutL_cons]
    by_cases ha : a = 59
    · subst ha
      simp
    rw [if_neg ha]
    by_cases hb : b = 59
    · subst hb
      simp
      done
    rw [if_neg hb]
    simp only [List.take_succ_cons, List.take_zero, List.drop_succ_cons, List.drop_zero, List.cons.injEq, and_true, hb, and_false, or_self, if_false, reduceCtorEq]
    by_cases hab : a = 53 ∧ b = 50
    · obtain ⟨rfl, rfl⟩ := hab
      match r with
      | [] => simp [cutL_nil, sysD_nil]
      | c :: r' =>
        rw [cutL_cons]
        by_cases hc : c = 59
        · subst hc
          match r' with
          | [] => simp [sysD_nil]
          | d :: r'' => simp
        · rw [if_neg hc]; simp [hc]
    · have : ¬ (a = 53 ∧ b = 50 ∧ (cutL r 59).1 = []) := fun h => hab ⟨h.1, h.2.1⟩
      rw [if_neg this, if_neg]
      rintro ⟨_, h⟩
      match r with
      | [] => simp at h
      | c :: r' => simp at h; exact hab ⟨h.1, h.2.1⟩

/-! ## walked -/
theorem w29 {f : UInt8} {s : List UInt8} {h : Heap} (hl : s.length ≤ 100000) : Wc DD 29 [.sc (.int .u8 (f.toNat : Int)), .sc (.str s)] h fun v h' => v = bo (inL f s) ∧ h' = h := by
  have hs := Sep.entry h
  rw [inL_any]
  refine W_enter d29 ?_
  show W _ (.code m29_code [.sc (.int .u8 (f.toNat : Int)), .sc (.str s), undefA, undefA, undefA, undefA, undefA, undefA, undefA, undefA, undefA, undefA, undefA, undefA, undefA, undefA, undefA] _) _
  unfold m29_code
  repeat' (first
    | (refine K_ops ?_; first
      | refine W_fastB rfl ?_
      | refine W_nil ?_
    )
    | (refine K_code ?_; first
      | refine W_seq ?_
      | refine W_ops ?_
      | refine W_block ?_
    )
    | refine seqK_n ?_)
  refine W_loopB [4, 5, 6, 7, 8, 9, 10, 11, 12, 13, 14, 15, 16] [0, 1, 2, 3, 4, 5, 6, 7, 8, 9, 10, 11, 12, 13, 14, 15, 16] (fun n' sl h' => ∃ (i : Nat), sl = [(5, i64 (i : Int))] ∧ n' = s.length - i ∧ i ≤ s.length ∧ (∀ j, j < i → s.getD j 0 ≠ f) ∧ h' = h) ?_ ?_
  · refine ⟨_, _, ⟨0, rfl, rfl, Nat.zero_le _, (fun j hj => by omega), rfl⟩, EnvB.of rfl⟩
  rintro _ _ us _ h2 ⟨i, rfl, rfl, hi, hz, rfl⟩ he
  refine W_spell he rfl ?_
  clear he
  unfold m29_l2
  by_cases hlt : i < s.length
  · have hin : (i : Int).toNat = i := by omega
    repeat' (first
      | (refine K_ops ?_; first
        | refine W_fastB rfl ?_
        | refine W_nil ?_
        | (refine K_bin ?_; first
          | (refine W_add rfl rfl (IntWalk.i64_in _ (by first | omega | (simp only [lenS]; omega))) ?_; refine W_norm rfl ?_)
        )
        | (refine W_idxStr rfl rfl ⟨(by first | omega | (simp only [lenS]; omega)), (by first | omega | (simp only [lenS]; omega))⟩ ?_; refine W_norm rfl ?_)
      )
      | (refine K_code ?_; first
        | refine W_seq ?_
        | refine W_ops ?_
        | (refine W_cond rfl (fun hc => ?_) (fun hc => ?_) <;> (try rw [hc]) <;> (try simp only [cleanS, reduceCtorEq] at hc) <;> (try (exfalso; omega)) <;> (try refine W_norm rfl ?_))
        | refine W_skip ?_
        | refine W_ret ?_
        | refine W_block ?_
      )
      | refine seqK_n ?_
      | refine seqK_r ?_
      | refine blockK_r ?_
      | refine blockK_n ?_
      | refine invK_r ?_
      | refine invK_n ?_
      | (refine fnK_r rfl ?_; try dsimp only [gd_z, gd_s]))
    · rw [hin] at hc
      have he : s.getD i 0 = f := UInt8.toNat_inj.1 (by omega)
      refine ⟨_, rfl, congrArg bo ?_, rfl⟩
      symm
      rw [List.any_eq_true]
      exact ⟨s.getD i 0, getD_mem hlt, by rw [he]; simp⟩
    · rw [hin] at hc
      refine ⟨_, ?_, _, ⟨i + 1, rfl, rfl, ?_, ?_, rfl⟩, EnvB.of rfl⟩
      · omega
      · omega
      · intro j hj
        rcases Nat.lt_or_ge j i with h1 | h1
        · exact hz j h1
        · obtain rfl : j = i := by omega
          intro he; rw [he] at hc; exact hc rfl
  · obtain rfl : i = s.length := by omega
    repeat' (first
      | (refine K_ops ?_; first
        | refine W_fastB rfl ?_
        | refine W_nil ?_
      )
      | (refine K_code ?_; first
        | refine W_seq ?_
        | refine W_ops ?_
        | (refine W_cond rfl (fun hc => ?_) (fun hc => ?_) <;> (try rw [hc]) <;> (try simp only [cleanS, reduceCtorEq] at hc) <;> (try (exfalso; omega)) <;> (try refine W_norm rfl ?_))
        | refine W_ret ?_
        | refine W_exit ?_
      )
      | refine seqK_n ?_
      | refine seqK_x ?_
      | refine blockK_e ?_
      | refine invK_x ?_
      | (refine fnK_r rfl ?_; try dsimp only [gd_z, gd_s]))
    refine ⟨_, rfl, congrArg bo ?_, rfl⟩
    symm
    rw [List.any_eq_false]
    intro x hx
    obtain ⟨j, hj, rfl⟩ := List.getElem_of_mem hx
    have := hz j hj
    rw [List.getD_eq_getElem?_getD, List.getElem?_eq_getElem hj] at this
    simpa using this
theorem w46 {v o : SV} {P : List (SV × List Int)} {of : List Int} {h : Heap} (hv : NsR (intEl .i64) (Now h) v P) (ho : SlR (intEl .i64) (Now h) o of) (hl : Short P) (hol : of.length ≤ 1000000) :
    Wc DD 46 [.sc v, .sc o] h fun w h' => w = bo (allL (P.map Prod.snd) of) ∧ h' = h := by
  have hs := Sep.entry h
  have hln := hv.ln
  have hv1 := hv.1
  have hlo := ho.ln
  have hml : (P.map Prod.snd).length = P.length := List.length_map _
  have hml1 : (P.map Prod.fst).length = P.length := List.length_map _
  have hl1 := hl.1
  refine W_enter d46 ?_
  show W _ (.code m46_code [.sc v, .sc o, undefA, undefA, undefA, undefA, undefA, undefA, undefA, undefA, undefA, undefA, undefA, undefA, undefA, undefA, undefA, undefA, undefA, undefA, undefA, undefA, undefA, undefA, undefA, undefA, undefA, undefA, undefA, undefA, undefA, undefA, undefA, undefA, undefA, undefA, undefA, undefA, undefA, undefA, undefA, undefA, undefA, undefA, undefA, undefA, undefA] _) _
  unfold m46_code
  repeat' (first
    | (refine K_ops ?_; first
      | refine W_fastB rfl ?_
      | refine W_nil ?_
    )
    | (refine K_code ?_; first
      | refine W_seq ?_
      | refine W_ops ?_
      | refine W_block ?_
    )
    | refine seqK_n ?_)
  refine W_loopB [4, 5, 6, 7, 8, 9, 10, 11, 12, 13, 14, 15, 16, 17, 18, 19, 20, 21, 22, 23, 24, 25, 26, 27, 28, 29, 30, 31, 32, 33, 34, 35, 36, 37, 38, 39, 40, 41, 42, 43] [0, 1, 2, 3, 4, 5, 6, 7, 8, 9, 10, 11, 12, 13, 14, 15, 16, 17, 18, 19, 20, 21, 22, 23, 24, 25, 26, 27, 28, 29, 30, 31, 32, 33, 34, 35, 36, 37, 38, 39, 40, 41, 42, 43, 44, 45, 46] (fun n' sl h' => ∃ (i : Nat), sl = [(5, i64 (i : Int))] ∧ n' = P.length - i ∧ i ≤ P.length ∧ (∀ j, j < i → badP of ((P.map Prod.snd).getD j []) = false) ∧ h' = h) ?_ ?_
  · refine ⟨_, _, ⟨0, rfl, rfl, Nat.zero_le _, (fun j hj => by omega), rfl⟩, EnvB.of rfl⟩
  rintro _ _ us _ h2 ⟨i, rfl, rfl, hi, hz, rfl⟩ he
  refine W_spell he rfl ?_
  clear he
  unfold m46_l2
  by_cases hlt : i < P.length
  · have hrow := hv.row hlt
    have hrl : ((P.map Prod.snd).getD i []).length ≤ 1000000 := by
      rw [getD_map_snd P i .nils []]
      exact hl.2 _ (getD_mem hlt)
    have hrn := hrow.ln
    repeat' (first
      | (refine K_ops ?_; first
        | refine W_fastB rfl ?_
        | refine W_nil ?_
        | (refine W_lenL rfl (by first | assumption | exact SlR.ln (by assumption) | exact AccS.ln (by assumption) | exact OwnS.ln (by assumption) | exact VwO.ln (by assumption) | exact OwnP.ln (by assumption) | exact Len.sl) ?_; refine W_norm rfl ?_)
      )
      | (refine K_code ?_; first
        | refine W_seq ?_
        | refine W_ops ?_
        | (refine W_cond rfl (fun hc => ?_) (fun hc => ?_) <;> (try rw [hc]) <;> (try simp only [cleanS, reduceCtorEq] at hc) <;> (try (exfalso; omega)) <;> (try refine W_norm rfl ?_))
        | refine W_skip ?_
        | refine W_block ?_
      )
      | refine seqK_n ?_)
    generalize hX : (P.map Prod.snd).getD i [] = X at *
    refine W_loopB [6, 7, 14, 15, 16, 17, 18, 19, 20, 21, 22, 23, 24, 25, 26, 27, 28, 29, 30, 31, 32, 33, 34, 35, 36, 37, 38, 39, 40, 41] [0, 1, 2, 3, 4, 5, 6, 7, 8, 9, 10, 11, 12, 13, 14, 15, 16, 17, 18, 19, 20, 21, 22, 23, 24, 25, 26, 27, 28, 29, 30, 31, 32, 33, 34, 35, 36, 37, 38, 39, 40, 41, 42, 43, 44, 45, 46] (fun n' sl h' => ∃ (k : Nat) (ok : Bool), sl = [(6, bo ok), (7, i64 (k : Int))] ∧ n' = of.length - k ∧ k ≤ of.length ∧ ok = (decide (X.length = 1) && (of.take k).any (fun y => y == X.getD 0 0)) ∧ h' = h2) ?_ ?_
    · refine ⟨_, _, ⟨0, false, rfl, rfl, Nat.zero_le _, by simp, rfl⟩, EnvB.of rfl⟩
    rintro _ _ us2 _ h3 ⟨k, ok, rfl, rfl, hk, hok, rfl⟩ he
    refine W_spell he rfl ?_
    clear he
    unfold m46_l6
    by_cases hlk : k < of.length
    · have htk : (of.take (k + 1)).any (fun y => y == X.getD 0 0) = ((of.take k).any (fun y => y == X.getD 0 0) || (of.getD k 0 == X.getD 0 0)) := by
        rw [List.take_add_one, getD_get? (d := 0) hlk, List.any_append]; simp [Option.toList]
      have hdf : of.getD (k : Int).toNat (intEl .i64).dflt = of.getD k 0 := rfl
      have hdx : X.getD (Int.toNat 0) (intEl .i64).dflt = X.getD 0 0 := rfl
      repeat' (first
        | (refine K_ops ?_; first
          | refine W_fastB rfl ?_
          | refine W_nil ?_
          | (refine K_guard ?_; first
            | refine W_guard_on rfl ?_
            | refine W_guard_off rfl rfl (W_norm rfl ?_)
            | refine W_guard_u rfl (W_norm rfl ?_)
            | (refine W_guardT rfl (fun hc => ?_) (fun hc => ?_) <;> (try rw [hc]) <;> (try simp only [cleanS, reduceCtorEq] at hc) <;> (try (exfalso; omega)) <;> (try refine W_norm rfl ?_))
            | (refine W_guardF rfl (fun hc => ?_) (fun hc => ?_) <;> (try rw [hc]) <;> (try simp only [cleanS, reduceCtorEq] at hc) <;> (try (exfalso; omega)) <;> (try refine W_norm rfl ?_))
          )
          | (refine W_lenL rfl (by first | assumption | exact SlR.ln (by assumption) | exact AccS.ln (by assumption) | exact OwnS.ln (by assumption) | exact VwO.ln (by assumption) | exact OwnP.ln (by assumption) | exact Len.sl) ?_; refine W_norm rfl ?_)
          | (refine K_bin ?_; first
            | (refine W_add rfl rfl (IntWalk.i64_in _ (by first | omega | (simp only [lenS]; omega))) ?_; refine W_norm rfl ?_)
          )
          | (refine K_pick ?_; first
            | refine W_pick_t rfl rfl (W_norm rfl ?_)
            | refine W_pick_f rfl rfl (W_norm rfl ?_)
          )
          | (refine K_index ?_; first
            | (refine W_indexR rfl rfl (by assumption) rfl ⟨(by first | omega | (simp only [lenS]; omega)), (by first | omega | (simp only [lenS]; omega))⟩ ?_; intro _ _ _; refine W_norm rfl ?_)
          )
          | (refine K_load ?_; first
            | (refine W_loadR hs rfl (by assumption) rfl ?_; refine W_norm rfl ?_)
          )
        )
        | (refine K_code ?_; first
          | refine W_seq ?_
          | refine W_ops ?_
          | (refine W_cond rfl (fun hc => ?_) (fun hc => ?_) <;> (try rw [hc]) <;> (try simp only [cleanS, reduceCtorEq] at hc) <;> (try (exfalso; omega)) <;> (try refine W_norm rfl ?_))
          | refine W_skip ?_
          | refine W_block ?_
          | refine W_draw rfl ?_
        )
        | refine seqK_n ?_
        | refine blockK_n ?_
        | refine invK_n ?_)
      all_goals
        refine ⟨_, ?_, _, ⟨k + 1, _, rfl, rfl, ?_, ?_, rfl⟩, EnvB.of rfl⟩
        · omega
        · omega
        · rw [htk]
          clear htk
          grind
    · obtain rfl : k = of.length := by omega
      rw [List.take_length] at hok
      have hbad : badP of X = !ok := by
        rw [hok]; unfold badP
        by_cases h1 : X.length = 1 <;> simp [h1]
      cases ok with
      | false =>
        repeat' (first
          | (refine K_ops ?_; first
            | refine W_fastB rfl ?_
            | refine W_nil ?_
            | (refine W_lenL rfl (by first | assumption | exact SlR.ln (by assumption) | exact AccS.ln (by assumption) | exact OwnS.ln (by assumption) | exact VwO.ln (by assumption) | exact OwnP.ln (by assumption) | exact Len.sl) ?_; refine W_norm rfl ?_)
          )
          | (refine K_code ?_; first
            | refine W_seq ?_
            | refine W_ops ?_
            | refine W_cond_t rfl ?_
            | (refine W_cond rfl (fun hc => ?_) (fun hc => ?_) <;> (try rw [hc]) <;> (try simp only [cleanS, reduceCtorEq] at hc) <;> (try (exfalso; omega)) <;> (try refine W_norm rfl ?_))
            | refine W_ret ?_
            | refine W_exit ?_
          )
          | refine seqK_n ?_
          | refine seqK_r ?_
          | refine seqK_x ?_
          | refine blockK_r ?_
          | refine blockK_e ?_
          | refine invK_x ?_
          | refine invK_r ?_
          | (refine fnK_r rfl ?_; try dsimp only [gd_z, gd_s]))
        refine ⟨_, rfl, congrArg bo ?_, rfl⟩
        have hb : badP of X = true := hbad
        unfold allL
        have : (P.map Prod.snd).any (badP of) = true := by
          rw [List.any_eq_true]
          exact ⟨X, by rw [← hX]; exact getD_mem (by rw [hml]; exact hlt), hb⟩
        rw [this]; simp
      | true =>
        repeat' (first
          | (refine K_ops ?_; first
            | refine W_fastB rfl ?_
            | refine W_nil ?_
            | (refine W_lenL rfl (by first | assumption | exact SlR.ln (by assumption) | exact AccS.ln (by assumption) | exact OwnS.ln (by assumption) | exact VwO.ln (by assumption) | exact OwnP.ln (by assumption) | exact Len.sl) ?_; refine W_norm rfl ?_)
            | (refine K_bin ?_; first
              | (refine W_add rfl rfl (IntWalk.i64_in _ (by first | omega | (simp only [lenS]; omega))) ?_; refine W_norm rfl ?_)
            )
          )
          | (refine K_code ?_; first
            | refine W_seq ?_
            | refine W_ops ?_
            | refine W_cond_f rfl ?_
            | (refine W_cond rfl (fun hc => ?_) (fun hc => ?_) <;> (try rw [hc]) <;> (try simp only [cleanS, reduceCtorEq] at hc) <;> (try (exfalso; omega)) <;> (try refine W_norm rfl ?_))
            | refine W_skip ?_
            | refine W_exit ?_
          )
          | refine seqK_n ?_
          | refine seqK_x ?_
          | refine blockK_n ?_
          | refine blockK_e ?_
          | refine invK_x ?_
          | refine invK_n ?_)
        refine ⟨_, ?_, _, ⟨i + 1, rfl, rfl, ?_, ?_, rfl⟩, EnvB.of rfl⟩
        · omega
        · omega
        · intro j hj
          rcases Nat.lt_or_ge j i with h1 | h1
          · exact hz j h1
          · obtain rfl : j = i := by omega
            rw [hX, hbad]; rfl
  · obtain rfl : i = P.length := by omega
    repeat' (first
      | (refine K_ops ?_; first
        | refine W_fastB rfl ?_
        | refine W_nil ?_
        | (refine W_lenL rfl (by first | assumption | exact SlR.ln (by assumption) | exact AccS.ln (by assumption) | exact OwnS.ln (by assumption) | exact VwO.ln (by assumption) | exact OwnP.ln (by assumption) | exact Len.sl) ?_; refine W_norm rfl ?_)
      )
      | (refine K_code ?_; first
        | refine W_seq ?_
        | refine W_ops ?_
        | (refine W_cond rfl (fun hc => ?_) (fun hc => ?_) <;> (try rw [hc]) <;> (try simp only [cleanS, reduceCtorEq] at hc) <;> (try (exfalso; omega)) <;> (try refine W_norm rfl ?_))
        | refine W_ret ?_
        | refine W_exit ?_
      )
      | refine seqK_n ?_
      | refine seqK_x ?_
      | refine blockK_e ?_
      | refine invK_x ?_
      | (refine fnK_r rfl ?_; try dsimp only [gd_z, gd_s]))
    refine ⟨_, rfl, congrArg bo ?_, rfl⟩
    unfold allL
    have : (P.map Prod.snd).any (badP of) = false := by
      rw [List.any_eq_false]
      intro x hx
      obtain ⟨j, hj, rfl⟩ := List.getElem_of_mem hx
      have := hz j (by rw [hml] at hj; exact hj)
      rw [List.getD_eq_getElem?_getD, List.getElem?_eq_getElem hj] at this
      simpa using this
    rw [this, hml, Bool.not_false, Bool.and_true]
    exact decide_eq_decide.2 (by omega)

def csiF (f : UInt8) (m : List UInt8) (G : List (List Int)) : Flow := if csiB f m G = true then (1, 0, []) else if asksL f m G > 0 then (6, asksL f m G, []) else (7, 0, [])
theorem asks_eq (f : UInt8) (m : List UInt8) (G : List (List Int)) : asksL f m G =
    if (f.toNat : Int) = 99 ∧ firstP G = 0 ∧ m = [] then 1 else if (f.toNat : Int) = 99 ∧ firstP G = 0 ∧ m = [62] then 2 else if (f.toNat : Int) = 110 ∧ m = [] ∧ firstP G = 5 then 3
    else if (f.toNat : Int) = 110 ∧ m = [] ∧ firstP G = 6 then 4 else if (f.toNat : Int) = 110 ∧ m = [63] ∧ firstP G = 6 then 5 else 0 := by
  have e : ∀ (n : UInt8), ((f.toNat : Int) = (n.toNat : Int)) ↔ f = n := fun n => ⟨fun h => UInt8.toNat_inj.1 (by omega), fun h => by rw [h]⟩
  have e1 : ((f.toNat : Int) = 99) ↔ f = 99 := e 99
  have e2 : ((f.toNat : Int) = 110) ↔ f = 110 := e 110
  have a1 : m ++ [f] = [99] ↔ m = [] ∧ f = 99 := by
    match m with
    | [] => simp
    | [_] => simp
    | _ :: _ :: _ => simp
  have a2 : m ++ [f] = [110] ↔ m = [] ∧ f = 110 := by
    match m with
    | [] => simp
    | [_] => simp
    | _ :: _ :: _ => simp
  have a3 : m ++ [f] = [62, 99] ↔ m = [62] ∧ f = 99 := by
    match m with
    | [] => simp
    | [x] => simp
    | _ :: _ :: _ => simp
  have a4 : m ++ [f] = [63, 110] ↔ m = [63] ∧ f = 110 := by
    match m with
    | [] => simp
    | [x] => simp
    | _ :: _ :: _ => simp
  unfold asksL
  simp only [a1, a2, a3, a4, e1, e2]
  clear a1 a2 a3 a4 e1 e2 e
  by_cases c1 : f = 99
  · subst c1
    by_cases m0 : m = []
    · subst m0; by_cases n0 : firstP G = 0 <;> simp [n0]
    · by_cases m1 : m = [62]
      · subst m1; by_cases n0 : firstP G = 0 <;> simp [n0]
      · simp [m0, m1]
  · by_cases c2 : f = 110
    · subst c2
      by_cases m0 : m = []
      · subst m0
        by_cases n0 : firstP G = 5
        · simp [n0]
        · by_cases n1 : firstP G = 6 <;> simp [n0, n1]
      · by_cases m1 : m = [63]
        · subst m1; by_cases n0 : firstP G = 6 <;> simp [n0]
        · simp [m0, m1]
    · simp [c1, c2]
end Go.Proofs.YtggkbkbhegcbkaaDoor
/- The gate: the document's control sequences, walked. CONTRA -/
set_option linter.unusedSimpArgs false
set_option linter.unusedVariables false
set_option maxHeartbeats 2000000
set_option maxRecDepth 100000
namespace Go.Proofs.YtggkbkbhegcbkaaDoor
open Go Go.Jx

theorem leaf5 {b c : Bool} {R : Ro} {M : List Hp} {h : Heap} {e0 e : List AV} {ms ks : List Nat} (hbc : b = c) (hs : Sep R M h) (he : mkOK [(5, bo c)] (fun k => e.getD k undefA) ms e0 ks some = some e) :
    ∃ sl, (sl = [(5, bo b)] ∧ Sep R M h) ∧ EnvB e0 ms ks sl e := by subst hbc; exact ⟨_, ⟨rfl, hs⟩, EnvB.of he⟩
theorem leaf6 {b c : Int} {R : Ro} {M : List Hp} {h : Heap} {e0 e : List AV} {ms ks : List Nat} (hbc : b = c) (hs : Sep R M h) (he : mkOK [(6, i64 c)] (fun k => e.getD k undefA) ms e0 ks some = some e) :
    ∃ sl, (sl = [(6, i64 b)] ∧ Sep R M h) ∧ EnvB e0 ms ks sl e := by subst hbc; exact ⟨_, ⟨rfl, hs⟩, EnvB.of he⟩
theorem w30_rest {k r ps : Int} {b : Bool} {al bx : Nat} {f : UInt8} {m t : List UInt8} {p : SV} {h0 h : Heap} {e : List AV} (q : Int)
    (hq : q = if (f.toNat : Int) = 110 ∧ m = [63] ∧ ps = 6 then 5 else if (f.toNat : Int) = 110 ∧ m = [] ∧ ps = 6 then 4 else if (f.toNat : Int) = 110 ∧ m = [] ∧ ps = 5 then 3 else if (f.toNat : Int) = 99 ∧ ps = 0 ∧ m = [62] then 2 else if (f.toNat : Int) = 99 ∧ ps = 0 ∧ m = [] then 1 else 0)
    (hs : Sep (Now h0) [[(al, .cells 40 .own [.int .i64 0, .int .i64 0, .str []])], [(bx, .cells 42 .own [.int .i64 k, .int .i32 r, .int .u8 (f.toNat : Int), .str m, p, .str t])]] h) (he : EnvIs 139 [(1, .sc (.ptr bx 0)), (2, .sc (.ptr al 0)), (3, i64 ps), (5, bo b)] e) :
    W DD (.code (.seq (.seq (.ops m30_r8) (.cond (.t 72) (.seq (.ops m30_r9) .ret) .skip)) (.seq (.ops m30_r10) (.seq (.seq (.ops m30_r11) (.cond (.t 85) (.ops m30_r12) .skip)) (.seq (.seq (.ops m30_r13) (.cond (.t 97) (.ops m30_r14) .skip)) (.seq (.seq (.ops m30_r15) (.cond (.t 109) (.ops m30_r16) .skip)) (.seq (.seq (.ops m30_r17) (.cond (.t 121) (.ops m30_r18) .skip)) (.seq (.seq (.ops m30_r19) (.cond (.t 133) (.ops m30_r20) .skip)) (.seq (.seq (.ops m30_r21) (.cond (.t 135) (.seq (.ops m30_r22) .ret) .skip)) (.seq (.ops m30_r23) .ret))))))))) e h) (fnK m30 fun _ vs h' => ∃ v, vs = [v] ∧ v = .agg (flowC (if b = true then (1, 0, []) else if q > 0 then (6, q, []) else (7, 0, []))) ∧ Sep (Now h0) [] h') := by
  obtain ⟨q1, hq1⟩ : ∃ q1 : Int, q1 = if (f.toNat : Int) = 99 ∧ ps = 0 ∧ m = [] then 1 else 0 := ⟨_, rfl⟩
  obtain ⟨q2, hq2⟩ : ∃ q2 : Int, q2 = if (f.toNat : Int) = 99 ∧ ps = 0 ∧ m = [62] then 2 else q1 := ⟨_, rfl⟩
  obtain ⟨q3, hq3⟩ : ∃ q3 : Int, q3 = if (f.toNat : Int) = 110 ∧ m = [] ∧ ps = 5 then 3 else q2 := ⟨_, rfl⟩
  obtain ⟨q4, hq4⟩ : ∃ q4 : Int, q4 = if (f.toNat : Int) = 110 ∧ m = [] ∧ ps = 6 then 4 else q3 := ⟨_, rfl⟩
  obtain ⟨q5, hq5⟩ : ∃ q5 : Int, q5 = if (f.toNat : Int) = 110 ∧ m = [63] ∧ ps = 6 then 5 else q4 := ⟨_, rfl⟩
  have hqq : q = q5 := by rw [hq, hq5, hq4, hq3, hq2, hq1]
  rw [hqq]
  clear hqq hq
  obtain ⟨us, rfl⟩ := he.list
  cases b with
  | true =>
    repeat' (first
      | (refine K_ops ?_; first
        | refine W_fastB rfl ?_
        | refine W_nil ?_
        | (refine K_store ?_; first
          | (refine W_storeC hs 0 rfl rfl rfl rfl (by first | decide | assumption) rfl rfl ?_; clear hs; intro _ hs; try simp only [setS] at hs; refine W_norm rfl ?_)
        )
        | (refine W_buildN rfl ?_; refine W_norm rfl ?_)
      )
      | (refine K_code ?_; first
        | refine W_seq ?_
        | refine W_ops ?_
        | refine W_cond_t rfl ?_
        | refine W_ret ?_
      )
      | refine seqK_n ?_
      | refine seqK_r ?_
      | (refine fnK_cellS hs 0 rfl rfl rfl rfl ?_))
    exact ⟨_, rfl, rfl, hs.none⟩
  | false =>
    repeat' (first
      | (refine K_ops ?_; first
        | refine W_fastB rfl ?_
        | refine W_nil ?_
        | (refine K_guard ?_; first
          | refine W_guard_on rfl ?_
          | refine W_guard_off rfl rfl (W_norm rfl ?_)
          | (refine W_guardT rfl (fun hc => ?_) (fun hc => ?_) <;> (try rw [hc]) <;> (try simp only [cleanS, reduceCtorEq] at hc) <;> (try (exfalso; omega)) <;> (try contradiction) <;> (try refine W_norm rfl ?_))
        )
        | (refine K_pick ?_; first
          | refine W_pick_t rfl rfl (W_norm rfl ?_)
          | refine W_pick_f rfl rfl (W_norm rfl ?_)
        )
        | (refine K_load ?_; first
          | (refine W_loadC hs 1 rfl rfl rfl ?_; refine W_norm rfl ?_)
        )
      )
      | (refine K_code ?_; first
        | (refine W_midB (a := .seq (.ops m30_r11) _) [6, 74, 75, 76, 77, 78, 79, 80, 81, 82, 83, 84, 85] [0, 1, 2, 3, 4, 5, 6, 7, 8, 9, 10, 11, 12, 13, 14, 15, 16, 17, 18, 19, 20, 21, 22, 23, 24, 25, 26, 27, 28, 29, 30, 31, 32, 33, 34, 35, 36, 37, 38, 39, 40, 41, 42, 43, 44, 45, 46, 47, 48, 49, 50, 51, 52, 53, 54, 55, 56, 57, 58, 59, 60, 61, 62, 63, 64, 65, 66, 67, 68, 69, 70, 71, 72, 73, 74, 75, 76, 77, 78, 79, 80, 81, 82, 83, 84, 85, 86, 87, 88, 89, 90, 91, 92, 93, 94, 95, 96, 97, 98, 99, 100, 101, 102, 103, 104, 105, 106, 107, 108, 109, 110, 111, 112, 113, 114, 115, 116, 117, 118, 119, 120, 121, 122, 123, 124, 125, 126, 127, 128, 129, 130, 131, 132, 133, 134, 135, 136, 137, 138] (fun sl h' => sl = [(6, i64 q1)] ∧ Sep (Now h0) [[(al, .cells 40 .own [.int .i64 0, .int .i64 0, .str []])], [(bx, .cells 42 .own [.int .i64 k, .int .i32 r, .int .u8 (f.toNat : Int), .str m, p, .str t])]] h') ?_ ?_)
        | refine W_seq ?_
        | refine W_ops ?_
        | refine W_cond_f rfl ?_
        | (refine W_cond rfl (fun hc => ?_) (fun hc => ?_) <;> (try rw [hc]) <;> (try simp only [cleanS, reduceCtorEq] at hc) <;> (try (exfalso; omega)) <;> (try contradiction) <;> (try refine W_norm rfl ?_))
        | refine W_skip ?_
      )
      | refine seqK_n ?_
      | refine midK_n ?_)
    all_goals first
      | refine leaf6 ?_ hs rfl
        first
          | (rw [hq1, if_pos (by first | exact ⟨by assumption, by assumption, by assumption⟩ | exact ⟨by assumption, by assumption, trivial⟩ | omega)]; done)
          | (rw [hq1, if_neg (by rintro ⟨h1, h2, h3⟩; first | omega | contradiction | simp_all)]; done)
      | skip
    clear hs
    rintro _ us _ h5 ⟨rfl, hs⟩ he
    refine W_spell he rfl ?_
    clear he
    repeat' (first
      | (refine K_ops ?_; first
        | refine W_fastB rfl ?_
        | refine W_nil ?_
        | (refine K_guard ?_; first
          | refine W_guard_on rfl ?_
          | refine W_guard_off rfl rfl (W_norm rfl ?_)
          | (refine W_guardT rfl (fun hc => ?_) (fun hc => ?_) <;> (try rw [hc]) <;> (try simp only [cleanS, reduceCtorEq] at hc) <;> (try (exfalso; omega)) <;> (try contradiction) <;> (try refine W_norm rfl ?_))
        )
        | (refine K_pick ?_; first
          | refine W_pick_t rfl rfl (W_norm rfl ?_)
          | refine W_pick_f rfl rfl (W_norm rfl ?_)
        )
        | (refine K_load ?_; first
          | (refine W_loadC hs 1 rfl rfl rfl ?_; refine W_norm rfl ?_)
        )
      )
      | (refine K_code ?_; first
        | (refine W_midB (a := .seq (.ops m30_r13) _) [6, 86, 87, 88, 89, 90, 91, 92, 93, 94, 95, 96, 97] [0, 1, 2, 3, 4, 5, 6, 7, 8, 9, 10, 11, 12, 13, 14, 15, 16, 17, 18, 19, 20, 21, 22, 23, 24, 25, 26, 27, 28, 29, 30, 31, 32, 33, 34, 35, 36, 37, 38, 39, 40, 41, 42, 43, 44, 45, 46, 47, 48, 49, 50, 51, 52, 53, 54, 55, 56, 57, 58, 59, 60, 61, 62, 63, 64, 65, 66, 67, 68, 69, 70, 71, 72, 73, 74, 75, 76, 77, 78, 79, 80, 81, 82, 83, 84, 85, 86, 87, 88, 89, 90, 91, 92, 93, 94, 95, 96, 97, 98, 99, 100, 101, 102, 103, 104, 105, 106, 107, 108, 109, 110, 111, 112, 113, 114, 115, 116, 117, 118, 119, 120, 121, 122, 123, 124, 125, 126, 127, 128, 129, 130, 131, 132, 133, 134, 135, 136, 137, 138] (fun sl h' => sl = [(6, i64 q2)] ∧ Sep (Now h0) [[(al, .cells 40 .own [.int .i64 0, .int .i64 0, .str []])], [(bx, .cells 42 .own [.int .i64 k, .int .i32 r, .int .u8 (f.toNat : Int), .str m, p, .str t])]] h') ?_ ?_)
        | refine W_seq ?_
        | refine W_ops ?_
        | refine W_cond_f rfl ?_
        | (refine W_cond rfl (fun hc => ?_) (fun hc => ?_) <;> (try rw [hc]) <;> (try simp only [cleanS, reduceCtorEq] at hc) <;> (try (exfalso; omega)) <;> (try contradiction) <;> (try refine W_norm rfl ?_))
        | refine W_skip ?_
      )
      | refine seqK_n ?_
      | refine midK_n ?_)
    all_goals first
      | refine leaf6 ?_ hs rfl
        first
          | (rw [hq2, if_pos (by first | exact ⟨by assumption, by assumption, by assumption⟩ | exact ⟨by assumption, by assumption, trivial⟩ | omega)]; done)
          | (rw [hq2, if_neg (by rintro ⟨h1, h2, h3⟩; first | omega | contradiction | simp_all)]; done)
      | skip
    clear hs
    rintro _ us _ h5 ⟨rfl, hs⟩ he
    refine W_spell he rfl ?_
    clear he
    repeat' (first
      | (refine K_ops ?_; first
        | refine W_fastB rfl ?_
        | refine W_nil ?_
        | (refine K_guard ?_; first
          | refine W_guard_on rfl ?_
          | refine W_guard_off rfl rfl (W_norm rfl ?_)
          | (refine W_guardT rfl (fun hc => ?_) (fun hc => ?_) <;> (try rw [hc]) <;> (try simp only [cleanS, reduceCtorEq] at hc) <;> (try (exfalso; omega)) <;> (try contradiction) <;> (try refine W_norm rfl ?_))
        )
        | (refine K_pick ?_; first
          | refine W_pick_t rfl rfl (W_norm rfl ?_)
          | refine W_pick_f rfl rfl (W_norm rfl ?_)
        )
        | (refine K_load ?_; first
          | (refine W_loadC hs 1 rfl rfl rfl ?_; refine W_norm rfl ?_)
        )
      )
      | (refine K_code ?_; first
        | (refine W_midB (a := .seq (.ops m30_r15) _) [6, 98, 99, 100, 101, 102, 103, 104, 105, 106, 107, 108, 109] [0, 1, 2, 3, 4, 5, 6, 7, 8, 9, 10, 11, 12, 13, 14, 15, 16, 17, 18, 19, 20, 21, 22, 23, 24, 25, 26, 27, 28, 29, 30, 31, 32, 33, 34, 35, 36, 37, 38, 39, 40, 41, 42, 43, 44, 45, 46, 47, 48, 49, 50, 51, 52, 53, 54, 55, 56, 57, 58, 59, 60, 61, 62, 63, 64, 65, 66, 67, 68, 69, 70, 71, 72, 73, 74, 75, 76, 77, 78, 79, 80, 81, 82, 83, 84, 85, 86, 87, 88, 89, 90, 91, 92, 93, 94, 95, 96, 97, 98, 99, 100, 101, 102, 103, 104, 105, 106, 107, 108, 109, 110, 111, 112, 113, 114, 115, 116, 117, 118, 119, 120, 121, 122, 123, 124, 125, 126, 127, 128, 129, 130, 131, 132, 133, 134, 135, 136, 137, 138] (fun sl h' => sl = [(6, i64 q3)] ∧ Sep (Now h0) [[(al, .cells 40 .own [.int .i64 0, .int .i64 0, .str []])], [(bx, .cells 42 .own [.int .i64 k, .int .i32 r, .int .u8 (f.toNat : Int), .str m, p, .str t])]] h') ?_ ?_)
        | refine W_seq ?_
        | refine W_ops ?_
        | refine W_cond_f rfl ?_
        | (refine W_cond rfl (fun hc => ?_) (fun hc => ?_) <;> (try rw [hc]) <;> (try simp only [cleanS, reduceCtorEq] at hc) <;> (try (exfalso; omega)) <;> (try contradiction) <;> (try refine W_norm rfl ?_))
        | refine W_skip ?_
      )
      | refine seqK_n ?_
      | refine midK_n ?_)
    all_goals first
      | refine leaf6 ?_ hs rfl
        first
          | (rw [hq3, if_pos (by first | exact ⟨by assumption, by assumption, by assumption⟩ | exact ⟨by assumption, by assumption, trivial⟩ | omega)]; done)
          | (rw [hq3, if_neg (by rintro ⟨h1, h2, h3⟩; first | omega | contradiction | simp_all)]; done)
      | skip
    clear hs
    rintro _ us _ h5 ⟨rfl, hs⟩ he
    refine W_spell he rfl ?_
    clear he
    repeat' (first
      | (refine K_ops ?_; first
        | refine W_fastB rfl ?_
        | refine W_nil ?_
        | (refine K_guard ?_; first
          | refine W_guard_on rfl ?_
          | refine W_guard_off rfl rfl (W_norm rfl ?_)
          | (refine W_guardT rfl (fun hc => ?_) (fun hc => ?_) <;> (try rw [hc]) <;> (try simp only [cleanS, reduceCtorEq] at hc) <;> (try (exfalso; omega)) <;> (try contradiction) <;> (try refine W_norm rfl ?_))
        )
        | (refine K_pick ?_; first
          | refine W_pick_t rfl rfl (W_norm rfl ?_)
          | refine W_pick_f rfl rfl (W_norm rfl ?_)
        )
        | (refine K_load ?_; first
          | (refine W_loadC hs 1 rfl rfl rfl ?_; refine W_norm rfl ?_)
        )
      )
      | (refine K_code ?_; first
        | (refine W_midB (a := .seq (.ops m30_r17) _) [6, 110, 111, 112, 113, 114, 115, 116, 117, 118, 119, 120, 121] [0, 1, 2, 3, 4, 5, 6, 7, 8, 9, 10, 11, 12, 13, 14, 15, 16, 17, 18, 19, 20, 21, 22, 23, 24, 25, 26, 27, 28, 29, 30, 31, 32, 33, 34, 35, 36, 37, 38, 39, 40, 41, 42, 43, 44, 45, 46, 47, 48, 49, 50, 51, 52, 53, 54, 55, 56, 57, 58, 59, 60, 61, 62, 63, 64, 65, 66, 67, 68, 69, 70, 71, 72, 73, 74, 75, 76, 77, 78, 79, 80, 81, 82, 83, 84, 85, 86, 87, 88, 89, 90, 91, 92, 93, 94, 95, 96, 97, 98, 99, 100, 101, 102, 103, 104, 105, 106, 107, 108, 109, 110, 111, 112, 113, 114, 115, 116, 117, 118, 119, 120, 121, 122, 123, 124, 125, 126, 127, 128, 129, 130, 131, 132, 133, 134, 135, 136, 137, 138] (fun sl h' => sl = [(6, i64 q4)] ∧ Sep (Now h0) [[(al, .cells 40 .own [.int .i64 0, .int .i64 0, .str []])], [(bx, .cells 42 .own [.int .i64 k, .int .i32 r, .int .u8 (f.toNat : Int), .str m, p, .str t])]] h') ?_ ?_)
        | refine W_seq ?_
        | refine W_ops ?_
        | refine W_cond_f rfl ?_
        | (refine W_cond rfl (fun hc => ?_) (fun hc => ?_) <;> (try rw [hc]) <;> (try simp only [cleanS, reduceCtorEq] at hc) <;> (try (exfalso; omega)) <;> (try contradiction) <;> (try refine W_norm rfl ?_))
        | refine W_skip ?_
      )
      | refine seqK_n ?_
      | refine midK_n ?_)
    all_goals first
      | refine leaf6 ?_ hs rfl
        first
          | (rw [hq4, if_pos (by first | exact ⟨by assumption, by assumption, by assumption⟩ | exact ⟨by assumption, by assumption, trivial⟩ | omega)]; done)
          | (rw [hq4, if_neg (by rintro ⟨h1, h2, h3⟩; first | omega | contradiction | simp_all)]; done)
      | skip
    clear hs
    rintro _ us _ h5 ⟨rfl, hs⟩ he
    refine W_spell he rfl ?_
    clear he
    repeat' (first
      | (refine K_ops ?_; first
        | refine W_fastB rfl ?_
        | refine W_nil ?_
        | (refine K_guard ?_; first
          | refine W_guard_on rfl ?_
          | refine W_guard_off rfl rfl (W_norm rfl ?_)
          | (refine W_guardT rfl (fun hc => ?_) (fun hc => ?_) <;> (try rw [hc]) <;> (try simp only [cleanS, reduceCtorEq] at hc) <;> (try (exfalso; omega)) <;> (try contradiction) <;> (try refine W_norm rfl ?_))
        )
        | (refine K_pick ?_; first
          | refine W_pick_t rfl rfl (W_norm rfl ?_)
          | refine W_pick_f rfl rfl (W_norm rfl ?_)
        )
        | (refine K_load ?_; first
          | (refine W_loadC hs 1 rfl rfl rfl ?_; refine W_norm rfl ?_)
        )
      )
      | (refine K_code ?_; first
        | (refine W_midB (a := .seq (.ops m30_r19) _) [6, 122, 123, 124, 125, 126, 127, 128, 129, 130, 131, 132, 133] [0, 1, 2, 3, 4, 5, 6, 7, 8, 9, 10, 11, 12, 13, 14, 15, 16, 17, 18, 19, 20, 21, 22, 23, 24, 25, 26, 27, 28, 29, 30, 31, 32, 33, 34, 35, 36, 37, 38, 39, 40, 41, 42, 43, 44, 45, 46, 47, 48, 49, 50, 51, 52, 53, 54, 55, 56, 57, 58, 59, 60, 61, 62, 63, 64, 65, 66, 67, 68, 69, 70, 71, 72, 73, 74, 75, 76, 77, 78, 79, 80, 81, 82, 83, 84, 85, 86, 87, 88, 89, 90, 91, 92, 93, 94, 95, 96, 97, 98, 99, 100, 101, 102, 103, 104, 105, 106, 107, 108, 109, 110, 111, 112, 113, 114, 115, 116, 117, 118, 119, 120, 121, 122, 123, 124, 125, 126, 127, 128, 129, 130, 131, 132, 133, 134, 135, 136, 137, 138] (fun sl h' => sl = [(6, i64 q5)] ∧ Sep (Now h0) [[(al, .cells 40 .own [.int .i64 0, .int .i64 0, .str []])], [(bx, .cells 42 .own [.int .i64 k, .int .i32 r, .int .u8 (f.toNat : Int), .str m, p, .str t])]] h') ?_ ?_)
        | refine W_seq ?_
        | refine W_ops ?_
        | refine W_cond_f rfl ?_
        | (refine W_cond rfl (fun hc => ?_) (fun hc => ?_) <;> (try rw [hc]) <;> (try simp only [cleanS, reduceCtorEq] at hc) <;> (try (exfalso; omega)) <;> (try contradiction) <;> (try refine W_norm rfl ?_))
        | refine W_skip ?_
      )
      | refine seqK_n ?_
      | refine midK_n ?_)
    all_goals first
      | refine leaf6 ?_ hs rfl
        first
          | (rw [hq5, if_pos (by first | exact ⟨by assumption, by assumption, by assumption⟩ | exact ⟨by assumption, by assumption, trivial⟩ | omega)]; done)
          | (rw [hq5, if_neg (by rintro ⟨h1, h2, h3⟩; first | omega | contradiction | simp_all)]; done)
      | skip
    clear hs
    rintro _ us _ h5 ⟨rfl, hs⟩ he
    refine W_spell he rfl ?_
    clear he
    repeat' (first
      | (refine K_ops ?_; first
        | refine W_fastB rfl ?_
        | refine W_nil ?_
        | (refine K_store ?_; first
          | (refine W_storeC hs 0 rfl rfl rfl rfl (by first | decide | assumption) rfl rfl ?_; clear hs; intro _ hs; try simp only [setS] at hs; refine W_norm rfl ?_)
        )
        | (refine W_buildN rfl ?_; refine W_norm rfl ?_)
      )
      | (refine K_code ?_; first
        | refine W_seq ?_
        | refine W_ops ?_
        | (refine W_cond rfl (fun hc => ?_) (fun hc => ?_) <;> (try rw [hc]) <;> (try simp only [cleanS, reduceCtorEq] at hc) <;> (try (exfalso; omega)) <;> (try contradiction) <;> (try refine W_norm rfl ?_))
        | refine W_skip ?_
        | refine W_ret ?_
      )
      | refine seqK_n ?_
      | refine seqK_r ?_
      | (refine fnK_cellS hs 0 rfl rfl rfl rfl ?_))
    all_goals
      refine ⟨_, rfl, congrArg AV.agg ?_, hs.none⟩
      first
        | (rw [if_neg (by decide), if_pos (by omega)]; rfl)
        | (rw [if_neg (by decide), if_neg (by omega)]; rfl)
end Go.Proofs.YtggkbkbhegcbkaaDoor
/- The gate: the document's control sequences, all, walked. CONTRA -/
set_option linter.unusedSimpArgs false
set_option linter.unusedVariables false
set_option maxHeartbeats 2000000
set_option maxRecDepth 100000
namespace Go.Proofs.YtggkbkbhegcbkaaDoor
open Go Go.Jx

theorem w30 {k r : Int} {f : UInt8} {m t : List UInt8} {p : SV} {P : List (SV × List Int)} {h : Heap} (hp : NsR (intEl .i64) (Now h) p P) (hl : Short P) :
    Wc DD 30 [evA k r f m p t] h fun v h' => v = .agg (flowC (csiF f m (P.map Prod.snd))) ∧ Sep (Now h) [] h' := by
  have hs := Sep.entry h
  have hp1 := hp.1
  have hln := hp.ln
  have hl1 := hl.1
  have hfl := f.toNat_lt
  have hml : (P.map Prod.snd).length = P.length := List.length_map _
  have hml1 : (P.map Prod.fst).length = P.length := List.length_map _
  have hq : csiF f m (P.map Prod.snd) = if csiB f m (P.map Prod.snd) = true then (1, 0, []) else if asksL f m (P.map Prod.snd) > 0 then (6, asksL f m (P.map Prod.snd), []) else (7, 0, []) := rfl
  rw [hq]
  obtain ⟨ps, hps⟩ : ∃ ps, ps = firstP (P.map Prod.snd) := ⟨_, rfl⟩
  have hrow : SlR (intEl .i64) (Now h) ((P.map Prod.fst).getD 0 .nils) ((P.map Prod.snd).getD 0 []) := by
    by_cases h0 : 0 < P.length
    · exact hp.row h0
    · have : P = [] := List.length_eq_zero_iff.1 (by omega)
      subst this
      exact SlR.nil _
  have hps' := hps
  unfold firstP at hps'
  rw [hml] at hps'
  generalize hX : (P.map Prod.snd).getD 0 [] = X at hrow hps'
  have hrl := hrow.ln
  obtain ⟨b, hb⟩ : ∃ b, b = csiB f m (P.map Prod.snd) := ⟨_, rfl⟩
  obtain ⟨q1, hq1⟩ : ∃ q1 : Int, q1 = if (f.toNat : Int) = 99 ∧ ps = 0 ∧ m = [] then 1 else 0 := ⟨_, rfl⟩
  obtain ⟨q2, hq2⟩ : ∃ q2 : Int, q2 = if (f.toNat : Int) = 99 ∧ ps = 0 ∧ m = [62] then 2 else q1 := ⟨_, rfl⟩
  obtain ⟨q3, hq3⟩ : ∃ q3 : Int, q3 = if (f.toNat : Int) = 110 ∧ m = [] ∧ ps = 5 then 3 else q2 := ⟨_, rfl⟩
  obtain ⟨q4, hq4⟩ : ∃ q4 : Int, q4 = if (f.toNat : Int) = 110 ∧ m = [] ∧ ps = 6 then 4 else q3 := ⟨_, rfl⟩
  obtain ⟨q5, hq5⟩ : ∃ q5 : Int, q5 = if (f.toNat : Int) = 110 ∧ m = [63] ∧ ps = 6 then 5 else q4 := ⟨_, rfl⟩
  have has : asksL f m (P.map Prod.snd) = q5 := by
    rw [asks_eq, ← hps, hq5, hq4, hq3, hq2, hq1]
    clear hs hp hl hp1 hln hq hq1 hq2 hq3 hq4 hq5 hb
    grind
  rw [has, ← hb]
  refine W_enter d30 ?_
  show W _ (.code m30_code [.agg [.int .i64 k, .int .i32 r, .int .u8 (f.toNat : Int), .str m, p, .str t], undefA, undefA, undefA, undefA, undefA, undefA, undefA, undefA, undefA, undefA, undefA, undefA, undefA, undefA, undefA, undefA, undefA, undefA, undefA, undefA, undefA, undefA, undefA, undefA, undefA, undefA, undefA, undefA, undefA, undefA, undefA, undefA, undefA, undefA, undefA, undefA, undefA, undefA, undefA, undefA, undefA, undefA, undefA, undefA, undefA, undefA, undefA, undefA, undefA, undefA, undefA, undefA, undefA, undefA, undefA, undefA, undefA, undefA, undefA, undefA, undefA, undefA, undefA, undefA, undefA, undefA, undefA, undefA, undefA, undefA, undefA, undefA, undefA, undefA, undefA, undefA, undefA, undefA, undefA, undefA, undefA, undefA, undefA, undefA, undefA, undefA, undefA, undefA, undefA, undefA, undefA, undefA, undefA, undefA, undefA, undefA, undefA, undefA, undefA, undefA, undefA, undefA, undefA, undefA, undefA, undefA, undefA, undefA, undefA, undefA, undefA, undefA, undefA, undefA, undefA, undefA, undefA, undefA, undefA, undefA, undefA, undefA, undefA, undefA, undefA, undefA, undefA, undefA, undefA, undefA, undefA, undefA, undefA, undefA, undefA, undefA, undefA, undefA] _) _
  unfold m30_code
  repeat' (first
    | (refine K_ops ?_; first
      | refine W_fastB rfl ?_
      | refine W_nil ?_
      | (refine W_lenL rfl (by first | assumption | exact SlR.ln (by assumption) | exact AccS.ln (by assumption) | exact OwnS.ln (by assumption) | exact VwO.ln (by assumption) | exact OwnP.ln (by assumption) | exact Len.sl) ?_; refine W_norm rfl ?_)
      | (refine K_index ?_; first
        | (refine W_indexR rfl rfl (by assumption) rfl ⟨(by first | omega | (simp only [lenS]; omega)), (by first | omega | (simp only [lenS]; omega))⟩ ?_; intro _ _ _; refine W_norm rfl ?_)
      )
      | (refine K_load ?_; first
        | (refine W_loadR hs rfl (by assumption) rfl ?_; refine W_norm rfl ?_)
        | (refine W_loadC hs 1 rfl rfl rfl ?_; refine W_norm rfl ?_)
      )
      | (refine W_allocS hs ?_; clear hs; intro al _ hs; try simp only [setS] at hs; refine W_norm rfl ?_)
      | (refine W_boxS hs rfl rfl ?_; clear hs; intro bx _ hs; try simp only [setS] at hs; refine W_norm rfl ?_)
    )
    | (refine K_code ?_; first
      | (refine W_midB (a := .seq (.ops m30_r2) _) [3, 7, 8, 9, 10, 11, 12, 13, 14, 15, 16, 17, 18, 19, 20, 21, 22] [0, 1, 2, 3, 4, 5, 6, 7, 8, 9, 10, 11, 12, 13, 14, 15, 16, 17, 18, 19, 20, 21, 22, 23, 24, 25, 26, 27, 28, 29, 30, 31, 32, 33, 34, 35, 36, 37, 38, 39, 40, 41, 42, 43, 44, 45, 46, 47, 48, 49, 50, 51, 52, 53, 54, 55, 56, 57, 58, 59, 60, 61, 62, 63, 64, 65, 66, 67, 68, 69, 70, 71, 72, 73, 74, 75, 76, 77, 78, 79, 80, 81, 82, 83, 84, 85, 86, 87, 88, 89, 90, 91, 92, 93, 94, 95, 96, 97, 98, 99, 100, 101, 102, 103, 104, 105, 106, 107, 108, 109, 110, 111, 112, 113, 114, 115, 116, 117, 118, 119, 120, 121, 122, 123, 124, 125, 126, 127, 128, 129, 130, 131, 132, 133, 134, 135, 136, 137, 138] (fun sl h' => sl = [(3, i64 ps)] ∧ Sep (Now h) [[(al, .cells 40 .own [.int .i64 0, .int .i64 0, .str []])], [(bx, .cells 42 .own [.int .i64 k, .int .i32 r, .int .u8 (f.toNat : Int), .str m, p, .str t])]] h') ?_ ?_)
      | refine W_seq ?_
      | refine W_ops ?_
      | (refine W_cond rfl (fun hc => ?_) (fun hc => ?_) <;> (try rw [hc]) <;> (try simp only [cleanS, reduceCtorEq] at hc) <;> (try (exfalso; omega)) <;> (try contradiction) <;> (try refine W_norm rfl ?_))
      | refine W_skip ?_
    )
    | refine seqK_n ?_
    | refine midK_n ?_)
  all_goals first
    | (have e : ps = 0 := by rw [hps', if_pos (by omega)]
       rw [e]; exact ⟨_, ⟨rfl, hs⟩, EnvB.of rfl⟩)
    | (have e : ps = -1 := by rw [hps', if_neg (by omega), if_pos (by omega)]
       rw [e]; exact ⟨_, ⟨rfl, hs⟩, EnvB.of rfl⟩)
    | (have e : ps = X.getD 0 0 := by rw [hps', if_neg (by omega), if_neg (by omega)]
       rw [e]; exact ⟨_, ⟨rfl, hs⟩, EnvB.of rfl⟩)
    | skip
  clear hs
  rintro _ us _ h4 ⟨rfl, hs⟩ he
  refine W_spell he rfl ?_
  clear he
  refine W_assoc ?_
  refine W_midB (a := .seq (.ops m30_r6) (.ops m30_r7)) [4, 5, 23, 24, 25, 26, 27, 28, 29, 30, 31, 32, 33, 34, 35, 36, 37, 38, 39, 40, 41, 42, 43, 44, 45, 46, 47, 48, 49, 50, 51, 52, 53, 54, 55, 56, 57, 58, 59, 60, 61, 62, 63, 64, 65, 66, 67, 68, 69, 70, 71] [0, 1, 2, 3, 4, 5, 6, 7, 8, 9, 10, 11, 12, 13, 14, 15, 16, 17, 18, 19, 20, 21, 22, 23, 24, 25, 26, 27, 28, 29, 30, 31, 32, 33, 34, 35, 36, 37, 38, 39, 40, 41, 42, 43, 44, 45, 46, 47, 48, 49, 50, 51, 52, 53, 54, 55, 56, 57, 58, 59, 60, 61, 62, 63, 64, 65, 66, 67, 68, 69, 70, 71, 72, 73, 74, 75, 76, 77, 78, 79, 80, 81, 82, 83, 84, 85, 86, 87, 88, 89, 90, 91, 92, 93, 94, 95, 96, 97, 98, 99, 100, 101, 102, 103, 104, 105, 106, 107, 108, 109, 110, 111, 112, 113, 114, 115, 116, 117, 118, 119, 120, 121, 122, 123, 124, 125, 126, 127, 128, 129, 130, 131, 132, 133, 134, 135, 136, 137, 138] (fun sl h' => sl = [(5, bo b)] ∧ Sep (Now h) [[(al, .cells 40 .own [.int .i64 0, .int .i64 0, .str []])], [(bx, .cells 42 .own [.int .i64 k, .int .i32 r, .int .u8 (f.toNat : Int), .str m, p, .str t])]] h') ?_ ?_
  · -- whether it changes the screen
    by_cases m0 : m = []
    · subst m0
      repeat' (first
        | (refine K_ops ?_; first
          | refine W_fastB rfl ?_
          | refine W_nil ?_
          | (refine K_guard ?_; first
            | refine W_guard_on rfl ?_
            | refine W_guard_off rfl rfl (W_norm rfl ?_)
            | refine W_guard_u rfl (W_norm rfl ?_)
            | (refine W_guardT rfl (fun hc => ?_) (fun hc => ?_) <;> (try rw [hc]) <;> (try simp only [cleanS, reduceCtorEq] at hc) <;> (try (exfalso; omega)) <;> (try contradiction) <;> (try refine W_norm rfl ?_))
            | (refine W_guardF rfl (fun hc => ?_) (fun hc => ?_) <;> (try rw [hc]) <;> (try simp only [cleanS, reduceCtorEq] at hc) <;> (try (exfalso; omega)) <;> (try contradiction) <;> (try refine W_norm rfl ?_))
          )
          | (refine K_call ?_; first
            | (refine W_callsN 29 rfl (w29 (f := f) (s := lettersC) (by decide)) rfl ?_; rintro _ h ⟨rfl, rfl⟩; refine W_norm rfl ?_)
            | (refine W_callsN 46 rfl (w46 (of := [4]) (hp.now hs) (AccS.now (by assumption) hs (by simp)) hl (by simp)) rfl ?_; rintro _ h ⟨rfl, rfl⟩; refine W_norm rfl ?_)
          )
          | (refine K_pick ?_; first
            | refine W_pick_t rfl rfl (W_norm rfl ?_)
            | refine W_pick_f rfl rfl (W_norm rfl ?_)
          )
          | (refine K_load ?_; first
            | (refine W_loadC hs 1 rfl rfl rfl ?_; refine W_norm rfl ?_)
            | (refine W_loadC hs 2 rfl rfl rfl ?_; refine W_norm rfl ?_)
          )
          | (refine K_bslice ?_; first
            | (refine W_buildS1 (intEl .i64) hs rfl rfl ?_; clear hs; intro _ _ _ _ hs; try simp only [setS] at hs; refine W_norm rfl ?_)
          )
        )
        | (refine K_code ?_; first
          | refine W_seq ?_
          | refine W_ops ?_
        )
        | refine seqK_n ?_
        | refine midK_n ?_)
      all_goals
        refine leaf5 (c := _) ?_ (by first | exact hs | exact hs.drop 0 | exact (hs.drop 0).drop 0) rfl
        clear hs
        unfold csiB modeB at hb
        first
          | (rw [hb]; simp [*]; done)
          | (rw [hb]; simp [*]; omega)
          | (rw [hb, Bool.eq_iff_iff]; simp [*]; done)
          | skip
    by_cases m1 : m = [63]
    · subst m1
      repeat' (first
        | (refine K_ops ?_; first
          | refine W_fastB rfl ?_
          | refine W_nil ?_
          | (refine W_buildS (intEl .i64) hs (cs := [.int .i64 1, .int .i64 6, .int .i64 7, .int .i64 25, .int .i64 1049, .int .i64 2004]) rfl rfl ?_; clear hs; intro v' c' h6 ha hv' hs; refine W_norm rfl ?_)
          | (refine K_guard ?_; first
            | refine W_guard_on rfl ?_
            | refine W_guard_off rfl rfl (W_norm rfl ?_)
            | refine W_guard_u rfl (W_norm rfl ?_)
            | (refine W_guardT rfl (fun hc => ?_) (fun hc => ?_) <;> (try rw [hc]) <;> (try simp only [cleanS, reduceCtorEq] at hc) <;> (try (exfalso; omega)) <;> (try contradiction) <;> (try refine W_norm rfl ?_))
            | (refine W_guardF rfl (fun hc => ?_) (fun hc => ?_) <;> (try rw [hc]) <;> (try simp only [cleanS, reduceCtorEq] at hc) <;> (try (exfalso; omega)) <;> (try contradiction) <;> (try refine W_norm rfl ?_))
          )
          | (refine K_call ?_; first
            | (refine W_callsN 46 rfl (w46 (of := [1, 6, 7, 25, 1049, 2004]) (hp.now hs) (OwnS.now (by assumption) hs (by simp)) hl (by simp)) rfl ?_; rintro _ h ⟨rfl, rfl⟩; refine W_norm rfl ?_)
          )
          | (refine K_pick ?_; first
            | refine W_pick_t rfl rfl (W_norm rfl ?_)
            | refine W_pick_f rfl rfl (W_norm rfl ?_)
          )
          | (refine K_load ?_; first
            | (refine W_loadC hs 1 rfl rfl rfl ?_; refine W_norm rfl ?_)
            | (refine W_loadC hs 2 rfl rfl rfl ?_; refine W_norm rfl ?_)
          )
        )
        | (refine K_code ?_; first
          | refine W_seq ?_
          | refine W_ops ?_
        )
        | refine seqK_n ?_
        | refine midK_n ?_)
      all_goals
        refine leaf5 (c := _) ?_ (by first | exact hs | exact hs.drop 0 | exact (hs.drop 0).drop 0) rfl
        clear hs
        unfold csiB modeB at hb
        first
          | (rw [hb]; simp [*]; done)
          | (rw [hb]; simp [*]; omega)
          | (rw [hb, Bool.eq_iff_iff]; simp [*]; done)
          | skip
    by_cases m2 : m = [33]
    · subst m2
      repeat' (first
        | (refine K_ops ?_; first
          | refine W_fastB rfl ?_
          | refine W_nil ?_
          | (refine K_guard ?_; first
            | refine W_guard_on rfl ?_
            | refine W_guard_off rfl rfl (W_norm rfl ?_)
            | refine W_guard_u rfl (W_norm rfl ?_)
            | (refine W_guardF rfl (fun hc => ?_) (fun hc => ?_) <;> (try rw [hc]) <;> (try simp only [cleanS, reduceCtorEq] at hc) <;> (try (exfalso; omega)) <;> (try contradiction) <;> (try refine W_norm rfl ?_))
          )
          | (refine K_pick ?_; first
            | refine W_pick_t rfl rfl (W_norm rfl ?_)
            | refine W_pick_f rfl rfl (W_norm rfl ?_)
          )
          | (refine K_load ?_; first
            | (refine W_loadC hs 1 rfl rfl rfl ?_; refine W_norm rfl ?_)
          )
        )
        | (refine K_code ?_; first
          | refine W_seq ?_
          | refine W_ops ?_
        )
        | refine seqK_n ?_
        | refine midK_n ?_)
      all_goals
        refine leaf5 (c := _) ?_ (by first | exact hs | exact hs.drop 0 | exact (hs.drop 0).drop 0) rfl
        clear hs
        unfold csiB modeB at hb
        first
          | (rw [hb]; simp [*]; done)
          | (rw [hb]; simp [*]; omega)
          | (rw [hb, Bool.eq_iff_iff]; simp [*]; done)
          | skip
    have e0 : (m == []) = false := by simpa using m0
    repeat' (first
      | (refine K_ops ?_; first
        | refine W_fastB rfl ?_
        | refine W_nil ?_
        | (refine K_guard ?_; first
          | refine W_guard_on rfl ?_
          | refine W_guard_off rfl rfl (W_norm rfl ?_)
          | refine W_guard_u rfl (W_norm rfl ?_)
          | (refine W_guardT rfl (fun hc => ?_) (fun hc => ?_) <;> (try rw [hc]) <;> (try simp only [cleanS, reduceCtorEq] at hc) <;> (try (exfalso; omega)) <;> (try contradiction) <;> (try refine W_norm rfl ?_))
          | (refine W_guardF rfl (fun hc => ?_) (fun hc => ?_) <;> (try rw [hc]) <;> (try simp only [cleanS, reduceCtorEq] at hc) <;> (try (exfalso; omega)) <;> (try contradiction) <;> (try refine W_norm rfl ?_))
        )
        | (refine K_pick ?_; first
          | refine W_pick_t rfl rfl (W_norm rfl ?_)
          | refine W_pick_f rfl rfl (W_norm rfl ?_)
        )
        | (refine K_load ?_; first
          | (refine W_loadC hs 1 rfl rfl rfl ?_; refine W_norm rfl ?_)
        )
      )
      | (refine K_code ?_; first
        | refine W_seq ?_
        | refine W_ops ?_
      )
      | refine seqK_n ?_
      | refine midK_n ?_)
    all_goals
      refine leaf5 (c := _) ?_ (by first | exact hs | exact hs.drop 0 | exact (hs.drop 0).drop 0) rfl
      clear hs
      unfold csiB modeB at hb
      first
        | (rw [hb]; simp [*]; done)
        | (rw [hb]; simp [*]; omega)
        | (rw [hb, Bool.eq_iff_iff]; simp [*]; done)
        | skip
  clear hs
  rintro _ us2 _ h5 ⟨rfl, hs⟩ he
  refine W_spell he rfl ?_
  clear he
  refine w30_rest (ps := ps) (b := b) q5 ?_ hs ⟨rfl, rfl, rfl, rfl, rfl, trivial⟩
  rw [hq5, hq4, hq3, hq2, hq1]
end Go.Proofs.YtggkbkbhegcbkaaDoor
