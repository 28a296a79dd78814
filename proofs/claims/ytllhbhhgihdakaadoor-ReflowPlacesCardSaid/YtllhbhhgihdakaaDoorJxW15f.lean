/- Reflow: where a place is. CLNONE -/
import Derived.Test.YtllhbhhgihdakaaDoorJxW15d
set_option linter.unusedSimpArgs false
set_option linter.unusedVariables false
set_option maxHeartbeats 4000000
set_option maxRecDepth 100000
namespace Go.Proofs.YtllhbhhgihdakaaDoor
open Go Go.Jx

theorem sum_linesGo (w : Nat) : ∀ (cs A : List Cell), ((linesGo w A cs).dropLast.map countL).sum ≤ A.length + cs.length := by
  intro cs
  induction cs with
  | nil => intro A; simp [linesGo]
  | cons c cs ih =>
    intro A
    have turn : ∀ x : Ln, countL x = A.length → (((x :: linesGo w [c] cs).dropLast).map countL).sum ≤ A.length + (c :: cs).length := by
      intro x hx
      rw [List.dropLast_cons_of_ne_nil (linesGo_ne _ _ _), List.map_cons, List.sum_cons, hx]
      have := ih [c]
      simp only [List.length_cons, List.length_nil] at *; omega
    unfold linesGo
    split
    · exact turn _ (countL_tt _ _)
    split
    · exact turn _ (countL_ff _ _)
    · have := ih (A ++ [c]); simp only [List.length_append, List.length_cons, List.length_nil] at *; omega
theorem sum_take {l : List Ln} {i : Nat} (hi : i < l.length) : ((l.take i).map countL).sum ≤ (l.dropLast.map countL).sum := by
  have h1 : l.take i = l.dropLast.take i := by
    rw [List.dropLast_eq_take, List.take_take, Nat.min_eq_left (by omega)]
  have h2 : l.dropLast = l.dropLast.take i ++ l.dropLast.drop i := (List.take_append_drop _ _).symm
  rw [h1]
  conv => rhs; rw [h2]
  rw [List.map_append, List.sum_append]; omega
theorem within_last {t w b k y : Nat} {x : Ln} : withinL t w b k y [x] = if b < t then (b - k, y) else (min (t - k + min (b - t) w) (w - 1), y) := rfl

theorem tup2 {a b c d : Int} (h1 : a = c) (h2 : b = d) : AV.tup [i64 a, i64 b] = .tup [i64 c, i64 d] := by rw [h1, h2]
theorem sum_take_add {G : List LnC} {i : Nat} (hi : i < G.length) : (((G.map lnOf).take (i + 1)).map countL).sum = (((G.map lnOf).take i).map countL).sum + countL ⟨atC G i, (atH G i).j, (atH G i).s⟩ := by
  rw [List.take_add_one, lnOf_atH hi, List.map_append, List.sum_append]
  simp [atL]
theorem w23 {v : SV} {L : List Cell} {w : Int} {b y0 : Nat} {h : Heap} (hv : SlR cellE (Now h) v L) (hl : L.length ≤ 10000000000) (hw : okW w) (hb : b ≤ 100000000000) (hy : y0 ≤ 100000000000) :
    Wc DD 23 [.sc v, i64 w, i64 (b : Int), i64 (y0 : Int)] h fun x h' => x = .tup [i64 ((withinL L.length w.toNat b 0 y0 (linesP w.toNat L)).1 : Nat), i64 ((withinL L.length w.toNat b 0 y0 (linesP w.toNat L)).2 : Nat)] ∧ Sep (Now h) [] h' := by
  have hs := Sep.entry h
  have hln := hv.ln
  obtain ⟨N, rfl⟩ : ∃ N : Nat, w = (N : Int) := ⟨w.toNat, by have := hw.1; omega⟩
  rw [Int.toNat_natCast]
  have hw1 : 2 ≤ N := by have := hw.1; omega
  have hw2 : N ≤ 400 := by have := hw.2; omega
  refine W_enter d23 ?_
  show W _ (.code m23_code [.sc v, i64 (N : Int), i64 (b : Int), i64 (y0 : Int), undefA, undefA, undefA, undefA, undefA, undefA, undefA, undefA, undefA, undefA, undefA, undefA, undefA, undefA, undefA, undefA, undefA, undefA, undefA, undefA, undefA, undefA, undefA, undefA, undefA, undefA, undefA, undefA, undefA, undefA, undefA, undefA, undefA, undefA, undefA, undefA, undefA, undefA, undefA, undefA, undefA, undefA, undefA, undefA, undefA, undefA, undefA, undefA, undefA, undefA, undefA, undefA, undefA, undefA, undefA, undefA, undefA, undefA, undefA, undefA, undefA, undefA, undefA, undefA, undefA, undefA, undefA] _) _
  unfold m23_code
  repeat' (first
    | (refine K_ops ?_; first
      | refine W_fastB rfl ?_
      | refine W_nil ?_
      | (refine K_call ?_; first
        | (refine W_callsN 27 rfl (w27 hv hl hw) rfl ?_; rintro _ h2 ⟨u2, c2, G, rfl, hG, hGe, t⟩; replace hs := hs.call t; try simp only [cell_back, attr_back, List.set_cons_zero, List.set_cons_succ, List.eraseIdx_cons_succ, List.eraseIdx_zero, List.tail_cons, List.nil_append, List.cons_append] at hs; have hGn := hG.ln; refine W_norm rfl ?_)
      )
      | (refine W_lenL rfl (by first | assumption | exact SlR.ln (by assumption) | exact AccS.ln (by assumption) | exact OwnS.ln (by assumption) | exact VwO.ln (by assumption) | exact OwnP.ln (by assumption) | exact Len.sl) ?_; refine W_norm rfl ?_)
    )
    | (refine K_code ?_; first
      | refine W_seq ?_
      | refine W_ops ?_
      | refine W_block ?_
    )
    | refine seqK_n ?_)
  rw [Int.toNat_natCast] at hGe
  rw [← hGe]
  replace hs := hs.freeze 0 rfl
  have hGr : LnsR ((Now h).add c2) u2 G := hG.mono (InP.add _ _)
  have hG1 := hGr.1
  have hGpos : 0 < G.length := by
    rcases Nat.eq_zero_or_pos G.length with h0 | h0
    · obtain rfl := List.eq_nil_of_length_eq_zero h0
      exact absurd hGe.symm (linesGo_ne _ _ _)
    · exact h0
  have hGl : G.length ≤ 20000000000 := by
    have h1 := congrArg List.length hGe
    have h2 := linesGo_le N L []
    rw [List.length_map] at h1
    unfold linesP at h1; omega
  have hGc : ∀ g ∈ G, g.2.length ≤ 400 := by
    intro g hg
    have := lines_len hw1 L [] (Nat.zero_le _) (lnOf g) (by show lnOf g ∈ linesP N L; rw [← hGe]; exact List.mem_map_of_mem hg)
    have e : (lnOf g).cells.length = g.2.length := rfl
    omega
  have hsum : ((G.map lnOf).dropLast.map countL).sum ≤ L.length := by
    rw [hGe]
    have := sum_linesGo N L []
    unfold linesP; simpa using this
  refine W_loopB [8, 9, 10, 12, 13, 14, 20, 21, 22, 23, 24, 25, 26, 27, 28, 29, 30, 31, 32, 33, 34, 35, 36, 37, 38, 39, 40, 41, 42, 43, 44, 45, 46, 47, 48, 49, 50, 51, 52, 53, 54, 55, 56, 57, 58, 59, 60, 61, 62, 63, 64, 65, 66, 67, 68, 69] [0, 1, 2, 3, 4, 5, 6, 7, 8, 9, 10, 11, 12, 13, 14, 15, 16, 17, 18, 19, 20, 21, 22, 23, 24, 25, 26, 27, 28, 29, 30, 31, 32, 33, 34, 35, 36, 37, 38, 39, 40, 41, 42, 43, 44, 45, 46, 47, 48, 49, 50, 51, 52, 53, 54, 55, 56, 57, 58, 59, 60, 61, 62, 63, 64, 65, 66, 67, 68, 69, 70] (fun n' sl h' => ∃ (i k : Nat), sl = [(10, .sc (.int .i64 (k : Int))), (20, .sc (.int .i64 (i : Int)))] ∧ n' = G.length - i ∧ i < G.length ∧ Hid (k = (((G.map lnOf).take i).map countL).sum) ∧ withinL L.length N b 0 y0 (G.map lnOf) = withinL L.length N b k (y0 + i) ((G.map lnOf).drop i) ∧ k ≤ b ∧ k ≤ L.length ∧ Sep ((Now h).add c2) [] h') ?_ ?_
  · refine ⟨_, _, ⟨0, 0, rfl, rfl, hGpos, rfl, rfl, Nat.zero_le _, Nat.zero_le _, hs⟩, EnvB.of rfl⟩
  clear hs
  rintro _ _ us _ h3 ⟨i, k, rfl, rfl, hi, hk, heq, hkb, hkl, hs⟩ he
  refine W_spell he rfl ?_
  clear he
  unfold m23_l4
  have hrow := hGr.at hi
  have hrl := atC_len hGc hi
  have hrn := hrow.ln
  have hcnt : countL ⟨atC G i, (atH G i).j, (atH G i).s⟩ ≤ (atC G i).length := countL_le _
  rw [lnOf_dropH hi] at heq
  by_cases hlast : i + 1 = G.length
  · have hz : (G.map lnOf).drop (i + 1) = [] := by rw [hlast, ← List.length_map (f := lnOf), List.drop_length]
    rw [hz, within_last] at heq
    by_cases hbt : b < L.length
    · rw [if_pos hbt] at heq
      rw [heq]
      repeat' (first
        | (refine K_ops ?_; first
          | refine W_fastB rfl ?_
          | refine W_nil ?_
          | (refine K_call ?_; first
            | (refine W_callsN 22 rfl (w22 (l := atH G i) (L := atC G i) hrn (by omega)) rfl ?_; rintro _ h3 ⟨rfl, t⟩; replace hs := hs.call t; try simp only [cell_back, attr_back, List.set_cons_zero, List.set_cons_succ, List.eraseIdx_cons_succ, List.eraseIdx_zero, List.tail_cons, List.nil_append, List.cons_append] at hs; refine W_norm rfl ?_)
          )
          | (refine W_lenL rfl (by first | assumption | exact SlR.ln (by assumption) | exact AccS.ln (by assumption) | exact OwnS.ln (by assumption) | exact VwO.ln (by assumption) | exact OwnP.ln (by assumption) | exact Len.sl) ?_; refine W_norm rfl ?_)
          | (refine K_bin ?_; first
            | (refine W_add rfl rfl (IntWalk.i64_in _ (by first | omega | (simp only [List.length_set, List.length_append, List.length_take, List.length_drop, List.length_replicate, List.length_cons, List.length_nil, decs_length, List.length_map]; omega))) ?_; refine W_norm rfl ?_)
            | (refine W_sub rfl rfl (IntWalk.i64_in _ (by first | omega | (simp only [List.length_set, List.length_append, List.length_take, List.length_drop, List.length_replicate, List.length_cons, List.length_nil, decs_length, List.length_map]; omega))) ?_; refine W_norm rfl ?_)
          )
          | (refine K_index ?_; first
            | (refine W_indexR rfl rfl (by assumption) rfl ⟨(by first | omega | (simp only [List.length_set, List.length_append, List.length_take, List.length_drop, List.length_replicate, List.length_cons, List.length_nil, decs_length, List.length_map]; omega)), (by first | omega | (simp only [List.length_set, List.length_append, List.length_take, List.length_drop, List.length_replicate, List.length_cons, List.length_nil, decs_length, List.length_map]; omega))⟩ ?_; intro _ _ _; refine W_norm rfl ?_)
          )
          | (refine K_load ?_; first
            | (refine W_loadRA hs rfl (by assumption) rfl ?_; refine W_norm rfl ?_)
            | (refine W_loadCA hs 0 rfl rfl rfl ?_; refine W_norm rfl ?_)
          )
          | (refine K_store ?_; first
            | (refine W_storeC hs 0 rfl rfl rfl rfl (by first | decide | assumption) rfl rfl ?_; clear hs; intro _ hs; try simp only [cell_back, attr_back, List.set_cons_zero, List.set_cons_succ, List.eraseIdx_cons_succ, List.eraseIdx_zero, List.tail_cons, List.nil_append, List.cons_append] at hs; refine W_norm rfl ?_)
          )
          | (refine W_allocS hs ?_; clear hs; intro al _ hs; try simp only [cell_back, attr_back, List.set_cons_zero, List.set_cons_succ, List.eraseIdx_cons_succ, List.eraseIdx_zero, List.tail_cons, List.nil_append, List.cons_append] at hs; refine W_norm rfl ?_)
        )
        | (refine K_code ?_; first
          | refine W_seq ?_
          | refine W_ops ?_
          | (refine W_cond rfl (fun hc => ?_) (fun hc => ?_) <;> (try rw [hc]) <;> (try simp only [decide_eq_true_eq, decide_eq_false_iff_not, beq_iff_eq, beq_eq_false_iff_ne, bne_iff_ne, bne_eq_false_iff_eq, Bool.not_eq_true', Bool.not_eq_false', Int.not_lt, Int.not_le, ne_eq, reduceCtorEq, not_true_eq_false, not_false_eq_true, Decidable.not_not] at hc) <;> (try (exfalso; omega)) <;> (try refine W_norm rfl ?_))
          | refine W_skip ?_
          | refine W_ret ?_
          | refine W_block ?_
        )
        | refine seqK_n ?_
        | refine seqK_r ?_
        | refine blockK_r ?_
        | refine invK_r ?_
        | (refine fnK_r rfl ?_; try dsimp only [gd_z, gd_s]))
      exact ⟨_, rfl, tup2 (by omega) (by omega), (hs.drop 0).unadd⟩
    · rw [if_neg hbt] at heq
      rw [heq]
      repeat' (first
        | (refine K_ops ?_; first
          | refine W_fastB rfl ?_
          | refine W_nil ?_
          | (refine K_call ?_; first
            | (refine W_callsN 22 rfl (w22 (l := atH G i) (L := atC G i) hrn (by omega)) rfl ?_; rintro _ h3 ⟨rfl, t⟩; replace hs := hs.call t; try simp only [cell_back, attr_back, List.set_cons_zero, List.set_cons_succ, List.eraseIdx_cons_succ, List.eraseIdx_zero, List.tail_cons, List.nil_append, List.cons_append] at hs; refine W_norm rfl ?_)
          )
          | (refine W_lenL rfl (by first | assumption | exact SlR.ln (by assumption) | exact AccS.ln (by assumption) | exact OwnS.ln (by assumption) | exact VwO.ln (by assumption) | exact OwnP.ln (by assumption) | exact Len.sl) ?_; refine W_norm rfl ?_)
          | (refine K_bin ?_; first
            | (refine W_add rfl rfl (IntWalk.i64_in _ (by first | omega | (simp only [List.length_set, List.length_append, List.length_take, List.length_drop, List.length_replicate, List.length_cons, List.length_nil, decs_length, List.length_map]; omega))) ?_; refine W_norm rfl ?_)
            | (refine W_sub rfl rfl (IntWalk.i64_in _ (by first | omega | (simp only [List.length_set, List.length_append, List.length_take, List.length_drop, List.length_replicate, List.length_cons, List.length_nil, decs_length, List.length_map]; omega))) ?_; refine W_norm rfl ?_)
          )
          | (refine K_index ?_; first
            | (refine W_indexR rfl rfl (by assumption) rfl ⟨(by first | omega | (simp only [List.length_set, List.length_append, List.length_take, List.length_drop, List.length_replicate, List.length_cons, List.length_nil, decs_length, List.length_map]; omega)), (by first | omega | (simp only [List.length_set, List.length_append, List.length_take, List.length_drop, List.length_replicate, List.length_cons, List.length_nil, decs_length, List.length_map]; omega))⟩ ?_; intro _ _ _; refine W_norm rfl ?_)
          )
          | (refine K_load ?_; first
            | (refine W_loadRA hs rfl (by assumption) rfl ?_; refine W_norm rfl ?_)
            | (refine W_loadCA hs 0 rfl rfl rfl ?_; refine W_norm rfl ?_)
          )
          | (refine K_store ?_; first
            | (refine W_storeC hs 0 rfl rfl rfl rfl (by first | decide | assumption) rfl rfl ?_; clear hs; intro _ hs; try simp only [cell_back, attr_back, List.set_cons_zero, List.set_cons_succ, List.eraseIdx_cons_succ, List.eraseIdx_zero, List.tail_cons, List.nil_append, List.cons_append] at hs; refine W_norm rfl ?_)
          )
          | (refine W_allocS hs ?_; clear hs; intro al _ hs; try simp only [cell_back, attr_back, List.set_cons_zero, List.set_cons_succ, List.eraseIdx_cons_succ, List.eraseIdx_zero, List.tail_cons, List.nil_append, List.cons_append] at hs; refine W_norm rfl ?_)
          | (refine W_min2 rfl rfl ?_; refine W_norm rfl ?_)
        )
        | (refine K_code ?_; first
          | refine W_seq ?_
          | refine W_ops ?_
          | (refine W_cond rfl (fun hc => ?_) (fun hc => ?_) <;> (try rw [hc]) <;> (try simp only [decide_eq_true_eq, decide_eq_false_iff_not, beq_iff_eq, beq_eq_false_iff_ne, bne_iff_ne, bne_eq_false_iff_eq, Bool.not_eq_true', Bool.not_eq_false', Int.not_lt, Int.not_le, ne_eq, reduceCtorEq, not_true_eq_false, not_false_eq_true, Decidable.not_not] at hc) <;> (try (exfalso; omega)) <;> (try refine W_norm rfl ?_))
          | refine W_skip ?_
          | refine W_ret ?_
          | refine W_block ?_
        )
        | refine seqK_n ?_
        | refine seqK_r ?_
        | refine blockK_r ?_
        | refine invK_r ?_
        | (refine fnK_r rfl ?_; try dsimp only [gd_z, gd_s]))
      exact ⟨_, rfl, tup2 (by omega) (by omega), (hs.drop 0).unadd⟩
  · rw [withinL_more (show (G.map lnOf).drop (i + 1) ≠ [] by intro h0; have := congrArg List.length h0; rw [List.length_drop, List.length_map, List.length_nil] at this; omega)] at heq
    have hcc : countL (atL G i) = countL ⟨atC G i, (atH G i).j, (atH G i).s⟩ := rfl
    rw [hcc] at heq
    by_cases hbt : b < k + countL ⟨atC G i, (atH G i).j, (atH G i).s⟩
    · rw [if_pos hbt] at heq
      rw [heq]
      repeat' (first
        | (refine K_ops ?_; first
          | refine W_fastB rfl ?_
          | refine W_nil ?_
          | (refine K_call ?_; first
            | (refine W_callsN 22 rfl (w22 (l := atH G i) (L := atC G i) hrn (by omega)) rfl ?_; rintro _ h3 ⟨rfl, t⟩; replace hs := hs.call t; try simp only [cell_back, attr_back, List.set_cons_zero, List.set_cons_succ, List.eraseIdx_cons_succ, List.eraseIdx_zero, List.tail_cons, List.nil_append, List.cons_append] at hs; refine W_norm rfl ?_)
          )
          | (refine W_lenL rfl (by first | assumption | exact SlR.ln (by assumption) | exact AccS.ln (by assumption) | exact OwnS.ln (by assumption) | exact VwO.ln (by assumption) | exact OwnP.ln (by assumption) | exact Len.sl) ?_; refine W_norm rfl ?_)
          | (refine K_bin ?_; first
            | (refine W_add rfl rfl (IntWalk.i64_in _ (by first | omega | (simp only [List.length_set, List.length_append, List.length_take, List.length_drop, List.length_replicate, List.length_cons, List.length_nil, decs_length, List.length_map]; omega))) ?_; refine W_norm rfl ?_)
            | (refine W_sub rfl rfl (IntWalk.i64_in _ (by first | omega | (simp only [List.length_set, List.length_append, List.length_take, List.length_drop, List.length_replicate, List.length_cons, List.length_nil, decs_length, List.length_map]; omega))) ?_; refine W_norm rfl ?_)
          )
          | (refine K_index ?_; first
            | (refine W_indexR rfl rfl (by assumption) rfl ⟨(by first | omega | (simp only [List.length_set, List.length_append, List.length_take, List.length_drop, List.length_replicate, List.length_cons, List.length_nil, decs_length, List.length_map]; omega)), (by first | omega | (simp only [List.length_set, List.length_append, List.length_take, List.length_drop, List.length_replicate, List.length_cons, List.length_nil, decs_length, List.length_map]; omega))⟩ ?_; intro _ _ _; refine W_norm rfl ?_)
          )
          | (refine K_load ?_; first
            | (refine W_loadRA hs rfl (by assumption) rfl ?_; refine W_norm rfl ?_)
            | (refine W_loadCA hs 0 rfl rfl rfl ?_; refine W_norm rfl ?_)
          )
          | (refine K_store ?_; first
            | (refine W_storeC hs 0 rfl rfl rfl rfl (by first | decide | assumption) rfl rfl ?_; clear hs; intro _ hs; try simp only [cell_back, attr_back, List.set_cons_zero, List.set_cons_succ, List.eraseIdx_cons_succ, List.eraseIdx_zero, List.tail_cons, List.nil_append, List.cons_append] at hs; refine W_norm rfl ?_)
          )
          | (refine W_allocS hs ?_; clear hs; intro al _ hs; try simp only [cell_back, attr_back, List.set_cons_zero, List.set_cons_succ, List.eraseIdx_cons_succ, List.eraseIdx_zero, List.tail_cons, List.nil_append, List.cons_append] at hs; refine W_norm rfl ?_)
        )
        | (refine K_code ?_; first
          | refine W_seq ?_
          | refine W_ops ?_
          | (refine W_cond rfl (fun hc => ?_) (fun hc => ?_) <;> (try rw [hc]) <;> (try simp only [decide_eq_true_eq, decide_eq_false_iff_not, beq_iff_eq, beq_eq_false_iff_ne, bne_iff_ne, bne_eq_false_iff_eq, Bool.not_eq_true', Bool.not_eq_false', Int.not_lt, Int.not_le, ne_eq, reduceCtorEq, not_true_eq_false, not_false_eq_true, Decidable.not_not] at hc) <;> (try (exfalso; omega)) <;> (try refine W_norm rfl ?_))
          | refine W_skip ?_
          | refine W_ret ?_
          | refine W_block ?_
        )
        | refine seqK_n ?_
        | refine seqK_r ?_
        | refine blockK_r ?_
        | refine invK_r ?_
        | (refine fnK_r rfl ?_; try dsimp only [gd_z, gd_s]))
      exact ⟨_, rfl, tup2 (by omega) (by omega), (hs.drop 0).unadd⟩
    · rw [if_neg hbt] at heq
      repeat' (first
        | (refine K_ops ?_; first
          | refine W_fastB rfl ?_
          | refine W_nil ?_
          | (refine K_call ?_; first
            | (refine W_callsN 22 rfl (w22 (l := atH G i) (L := atC G i) hrn (by omega)) rfl ?_; rintro _ h3 ⟨rfl, t⟩; replace hs := hs.call t; try simp only [cell_back, attr_back, List.set_cons_zero, List.set_cons_succ, List.eraseIdx_cons_succ, List.eraseIdx_zero, List.tail_cons, List.nil_append, List.cons_append] at hs; refine W_norm rfl ?_)
          )
          | (refine W_lenL rfl (by first | assumption | exact SlR.ln (by assumption) | exact AccS.ln (by assumption) | exact OwnS.ln (by assumption) | exact VwO.ln (by assumption) | exact OwnP.ln (by assumption) | exact Len.sl) ?_; refine W_norm rfl ?_)
          | (refine K_bin ?_; first
            | (refine W_add rfl rfl (IntWalk.i64_in _ (by first | omega | (simp only [List.length_set, List.length_append, List.length_take, List.length_drop, List.length_replicate, List.length_cons, List.length_nil, decs_length, List.length_map]; omega))) ?_; refine W_norm rfl ?_)
            | (refine W_sub rfl rfl (IntWalk.i64_in _ (by first | omega | (simp only [List.length_set, List.length_append, List.length_take, List.length_drop, List.length_replicate, List.length_cons, List.length_nil, decs_length, List.length_map]; omega))) ?_; refine W_norm rfl ?_)
          )
          | (refine K_index ?_; first
            | (refine W_indexR rfl rfl (by assumption) rfl ⟨(by first | omega | (simp only [List.length_set, List.length_append, List.length_take, List.length_drop, List.length_replicate, List.length_cons, List.length_nil, decs_length, List.length_map]; omega)), (by first | omega | (simp only [List.length_set, List.length_append, List.length_take, List.length_drop, List.length_replicate, List.length_cons, List.length_nil, decs_length, List.length_map]; omega))⟩ ?_; intro _ _ _; refine W_norm rfl ?_)
          )
          | (refine K_load ?_; first
            | (refine W_loadRA hs rfl (by assumption) rfl ?_; refine W_norm rfl ?_)
            | (refine W_loadCA hs 0 rfl rfl rfl ?_; refine W_norm rfl ?_)
          )
          | (refine K_store ?_; first
            | (refine W_storeC hs 0 rfl rfl rfl rfl (by first | decide | assumption) rfl rfl ?_; clear hs; intro _ hs; try simp only [cell_back, attr_back, List.set_cons_zero, List.set_cons_succ, List.eraseIdx_cons_succ, List.eraseIdx_zero, List.tail_cons, List.nil_append, List.cons_append] at hs; refine W_norm rfl ?_)
          )
          | (refine W_allocS hs ?_; clear hs; intro al _ hs; try simp only [cell_back, attr_back, List.set_cons_zero, List.set_cons_succ, List.eraseIdx_cons_succ, List.eraseIdx_zero, List.tail_cons, List.nil_append, List.cons_append] at hs; refine W_norm rfl ?_)
        )
        | (refine K_code ?_; first
          | refine W_seq ?_
          | refine W_ops ?_
          | (refine W_cond rfl (fun hc => ?_) (fun hc => ?_) <;> (try rw [hc]) <;> (try simp only [decide_eq_true_eq, decide_eq_false_iff_not, beq_iff_eq, beq_eq_false_iff_ne, bne_iff_ne, bne_eq_false_iff_eq, Bool.not_eq_true', Bool.not_eq_false', Int.not_lt, Int.not_le, ne_eq, reduceCtorEq, not_true_eq_false, not_false_eq_true, Decidable.not_not] at hc) <;> (try (exfalso; omega)) <;> (try refine W_norm rfl ?_))
          | refine W_skip ?_
          | refine W_block ?_
        )
        | refine seqK_n ?_
        | refine blockK_n ?_
        | refine invK_n ?_)
      have hk2 := sum_take_add hi
      have hk3 := sum_take (l := G.map lnOf) (i := i + 1) (by rw [List.length_map]; omega)
      have hk4 := hk.out
      rw [← hk4] at hk2
      refine ⟨_, ?_, _, ⟨i + 1, k + countL ⟨atC G i, (atH G i).j, (atH G i).s⟩, rfl, rfl, ?_, ?_, ?_, ?_, ?_, hs.drop 0⟩, EnvB.of rfl⟩
      · omega
      · omega
      · exact hk2.symm
      · rw [heq, Nat.add_assoc]
      · omega
      · omega
end Go.Proofs.YtllhbhhgihdakaaDoor
