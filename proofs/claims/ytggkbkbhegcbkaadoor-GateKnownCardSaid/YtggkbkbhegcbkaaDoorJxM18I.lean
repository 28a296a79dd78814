import Derived.Test.YtggkbkbhegcbkaaDoorJxM18H
/- The gate: the document's Classify, walked. CONTRA -/
set_option linter.unusedSimpArgs false
set_option linter.unusedVariables false
set_option maxHeartbeats 1000000
set_option maxRecDepth 100000
namespace Go.Proofs.YtggkbkbhegcbkaaDoor
open Go Go.Jx

theorem decL_small {s : List UInt8} : ((decL s).getD []).length ≤ s.length := by
  unfold decL
  split
  · simp
  · cases h : decG s with
    | none => simp
    | some o => exact decL_len _ s o (Nat.le_refl _) h
theorem w31 {tx : List UInt8} {h0 : Heap} (ht : tx.length ≤ 15000) : Wc DD 31 [.sc (.str tx)] h0 fun v h' => v = .agg (flowC (sysL tx)) ∧ Sep (Now h0) [] h' := by
  have hs := Sep.entry h0
  rw [sys_all]
  refine W_enter d31 ?_
  show W _ (.code m31_code [.sc (.str tx), undefA, undefA, undefA, undefA, undefA, undefA, undefA, undefA, undefA, undefA, undefA, undefA, undefA, undefA, undefA, undefA, undefA, undefA, undefA, undefA, undefA, undefA, undefA, undefA, undefA, undefA, undefA, undefA, undefA, undefA, undefA, undefA, undefA, undefA, undefA, undefA, undefA, undefA, undefA, undefA, undefA, undefA, undefA, undefA, undefA, undefA, undefA, undefA, undefA, undefA, undefA, undefA, undefA, undefA, undefA, undefA, undefA, undefA, undefA, undefA, undefA, undefA, undefA] _) _
  unfold m31_code
  by_cases h2 : 1 < tx.length ∧ (tx.take 2 = [48, 59] ∨ tx.take 2 = [50, 59])
  · rw [if_pos h2]
    obtain ⟨h2a, h2b⟩ := h2
    repeat' (first
      | (refine K_ops ?_; first
        | refine W_fastB rfl ?_
        | refine W_nil ?_
        | (refine K_guard ?_; first
          | refine W_guard_on rfl ?_
          | refine W_guard_off rfl rfl (W_norm rfl ?_)
          | (refine W_guardT rfl (fun hc => ?_) (fun hc => ?_) <;> (try rw [hc]) <;> (try simp only [decide_eq_true_eq, decide_eq_false_iff_not, beq_iff_eq, beq_eq_false_iff_ne, bne_iff_ne, bne_eq_false_iff_eq, Bool.not_eq_true', Bool.not_eq_false', Int.not_lt, Int.not_le, ne_eq, reduceCtorEq, not_true_eq_false, not_false_eq_true, Decidable.not_not] at hc) <;> (try (exfalso; omega)) <;> (try contradiction) <;> (try refine W_norm rfl ?_))
          | (refine W_guardF rfl (fun hc => ?_) (fun hc => ?_) <;> (try rw [hc]) <;> (try simp only [decide_eq_true_eq, decide_eq_false_iff_not, beq_iff_eq, beq_eq_false_iff_ne, bne_iff_ne, bne_eq_false_iff_eq, Bool.not_eq_true', Bool.not_eq_false', Int.not_lt, Int.not_le, ne_eq, reduceCtorEq, not_true_eq_false, not_false_eq_true, Decidable.not_not] at hc) <;> (try (exfalso; omega)) <;> (try contradiction) <;> (try refine W_norm rfl ?_))
        )
        | (refine K_call ?_; first
          | (refine W_callsN 19 rfl (w19 (s := tx.drop 2) (by rw [List.length_drop]; omega)) rfl ?_; rintro _ h ⟨rfl, t⟩; replace hs := hs.call t; try simp only [cell_back, attr_back, List.set_cons_zero, List.set_cons_succ, List.eraseIdx_cons_succ, List.eraseIdx_zero, List.tail_cons, List.nil_append, List.cons_append] at hs; refine W_norm rfl ?_)
        )
        | (refine K_pick ?_; first
          | refine W_pick_t rfl rfl (W_norm rfl ?_)
          | refine W_pick_f rfl rfl (W_norm rfl ?_)
        )
        | (refine K_store ?_; first
          | (refine W_storeC hs 0 rfl rfl rfl rfl (by first | decide | assumption) rfl rfl ?_; clear hs; intro _ hs; try simp only [cell_back, attr_back, List.set_cons_zero, List.set_cons_succ, List.eraseIdx_cons_succ, List.eraseIdx_zero, List.tail_cons, List.nil_append, List.cons_append] at hs; refine W_norm rfl ?_)
        )
        | (refine W_allocS hs ?_; clear hs; intro al _ hs; try simp only [cell_back, attr_back, List.set_cons_zero, List.set_cons_succ, List.eraseIdx_cons_succ, List.eraseIdx_zero, List.tail_cons, List.nil_append, List.cons_append] at hs; refine W_norm rfl ?_)
        | (refine W_buildN rfl ?_; refine W_norm rfl ?_)
        | (refine W_sliceStrTo rfl rfl ⟨(by first | omega | (simp only [List.length_set, List.length_append, List.length_take, List.length_drop, List.length_replicate, List.length_cons, List.length_nil, decs_length, List.length_map]; omega)), (by first | omega | (simp only [List.length_set, List.length_append, List.length_take, List.length_drop, List.length_replicate, List.length_cons, List.length_nil, decs_length, List.length_map]; omega))⟩ ?_; refine W_norm rfl ?_)
        | (refine W_sliceStrFrom rfl rfl ⟨(by first | omega | (simp only [List.length_set, List.length_append, List.length_take, List.length_drop, List.length_replicate, List.length_cons, List.length_nil, decs_length, List.length_map]; omega)), (by first | omega | (simp only [List.length_set, List.length_append, List.length_take, List.length_drop, List.length_replicate, List.length_cons, List.length_nil, decs_length, List.length_map]; omega))⟩ ?_; refine W_norm rfl ?_)
      )
      | (refine K_code ?_; first
        | refine W_seq ?_
        | refine W_ops ?_
        | refine W_cond_t rfl ?_
        | refine W_cond_f rfl ?_
        | (refine W_cond rfl (fun hc => ?_) (fun hc => ?_) <;> (try rw [hc]) <;> (try simp only [decide_eq_true_eq, decide_eq_false_iff_not, beq_iff_eq, beq_eq_false_iff_ne, bne_iff_ne, bne_eq_false_iff_eq, Bool.not_eq_true', Bool.not_eq_false', Int.not_lt, Int.not_le, ne_eq, reduceCtorEq, not_true_eq_false, not_false_eq_true, Decidable.not_not] at hc) <;> (try (exfalso; omega)) <;> (try contradiction) <;> (try refine W_norm rfl ?_))
        | refine W_skip ?_
        | refine W_ret ?_
        | refine W_block ?_
      )
      | refine seqK_n ?_
      | refine seqK_r ?_
      | (refine fnK_cellS hs 0 rfl rfl rfl rfl ?_))
    all_goals first
      | exact ⟨_, rfl, rfl, hs.none⟩
      | (exfalso; rcases h2b with h | h <;> contradiction)
      | skip
  rw [if_neg h2]
  by_cases h3 : 3 < tx.length ∧ tx.take 3 = [53, 50, 59]
  · rw [if_pos h3]
    obtain ⟨h3a, h3b⟩ := h3
    have n1 : ¬ tx.take (2 : Int).toNat = [48, 59] := fun h => h2 ⟨by omega, .inl h⟩
    have n2 : ¬ tx.take (2 : Int).toNat = [50, 59] := fun h => h2 ⟨by omega, .inr h⟩
    have n3 : tx.take (3 : Int).toNat = [53, 50, 59] := h3b
    repeat' (first
      | (refine K_ops ?_; first
        | refine W_fastB rfl ?_
        | refine W_nil ?_
        | (refine K_guard ?_; first
          | refine W_guard_on rfl ?_
          | (refine W_guardT rfl (fun hc => ?_) (fun hc => ?_) <;> (try rw [hc]) <;> (try simp only [decide_eq_true_eq, decide_eq_false_iff_not, beq_iff_eq, beq_eq_false_iff_ne, bne_iff_ne, bne_eq_false_iff_eq, Bool.not_eq_true', Bool.not_eq_false', Int.not_lt, Int.not_le, ne_eq, reduceCtorEq, not_true_eq_false, not_false_eq_true, Decidable.not_not] at hc) <;> (try (exfalso; omega)) <;> (try contradiction) <;> (try refine W_norm rfl ?_))
          | (refine W_guardF rfl (fun hc => ?_) (fun hc => ?_) <;> (try rw [hc]) <;> (try simp only [decide_eq_true_eq, decide_eq_false_iff_not, beq_iff_eq, beq_eq_false_iff_ne, bne_iff_ne, bne_eq_false_iff_eq, Bool.not_eq_true', Bool.not_eq_false', Int.not_lt, Int.not_le, ne_eq, reduceCtorEq, not_true_eq_false, not_false_eq_true, Decidable.not_not] at hc) <;> (try (exfalso; omega)) <;> (try contradiction) <;> (try refine W_norm rfl ?_))
        )
        | (refine K_pick ?_; first
          | refine W_pick_t rfl rfl (W_norm rfl ?_)
          | refine W_pick_f rfl rfl (W_norm rfl ?_)
        )
        | (refine W_allocS hs ?_; clear hs; intro al _ hs; try simp only [cell_back, attr_back, List.set_cons_zero, List.set_cons_succ, List.eraseIdx_cons_succ, List.eraseIdx_zero, List.tail_cons, List.nil_append, List.cons_append] at hs; refine W_norm rfl ?_)
        | (refine W_sliceStrTo rfl rfl ⟨(by first | omega | (simp only [List.length_set, List.length_append, List.length_take, List.length_drop, List.length_replicate, List.length_cons, List.length_nil, decs_length, List.length_map]; omega)), (by first | omega | (simp only [List.length_set, List.length_append, List.length_take, List.length_drop, List.length_replicate, List.length_cons, List.length_nil, decs_length, List.length_map]; omega))⟩ ?_; refine W_norm rfl ?_)
      )
      | (refine K_code ?_; first
        | refine W_seq ?_
        | refine W_ops ?_
        | (refine W_cond rfl (fun hc => ?_) (fun hc => ?_) <;> (try rw [hc]) <;> (try simp only [decide_eq_true_eq, decide_eq_false_iff_not, beq_iff_eq, beq_eq_false_iff_ne, bne_iff_ne, bne_eq_false_iff_eq, Bool.not_eq_true', Bool.not_eq_false', Int.not_lt, Int.not_le, ne_eq, reduceCtorEq, not_true_eq_false, not_false_eq_true, Decidable.not_not] at hc) <;> (try (exfalso; omega)) <;> (try contradiction) <;> (try refine W_norm rfl ?_))
        | refine W_skip ?_
        | refine W_block ?_
      )
      | refine seqK_n ?_)
    obtain ⟨rr, hrr⟩ : ∃ rr, rr = tx.drop 3 := ⟨_, rfl⟩
    have hrl : rr.length = tx.length - 3 := by rw [hrr, List.length_drop]
    have hrg : ∀ j, rr.getD j 0 = tx.getD (3 + j) 0 := by
      intro j
      rw [hrr, List.getD_eq_getElem?_getD, List.getElem?_drop, ← List.getD_eq_getElem?_getD]
    rw [← hrr]
    refine W_loopB [3, 4, 5, 6, 32, 33, 34, 35, 36, 37, 38, 39, 40, 41, 42, 43, 44, 45, 46, 47, 48, 49, 50, 51, 52, 53, 54, 55, 56, 57, 58, 59, 60, 61, 62] [0, 1, 2, 3, 4, 5, 6, 7, 8, 9, 10, 11, 12, 13, 14, 15, 16, 17, 18, 19, 20, 21, 22, 23, 24, 25, 26, 27, 28, 29, 30, 31, 32, 33, 34, 35, 36, 37, 38, 39, 40, 41, 42, 43, 44, 45, 46, 47, 48, 49, 50, 51, 52, 53, 54, 55, 56, 57, 58, 59, 60, 61, 62, 63] (fun n' sl h' => ∃ (i : Nat), sl = [(3, i64 (3 + (i : Int)))] ∧ n' = rr.length - i ∧ i ≤ rr.length ∧ (∀ j, j < i → rr.getD j 0 ≠ 59) ∧ Sep (Now h0) [[(al, .cells 40 .own [.int .i64 0, .int .i64 0, .str []])]] h') ?_ ?_
    · refine ⟨_, _, ⟨0, rfl, rfl, by omega, (fun j hj => by omega), hs⟩, EnvB.of rfl⟩
    clear hs
    rintro _ _ us _ h5 ⟨i, rfl, rfl, hi, hz, hs⟩ he
    refine W_spell he rfl ?_
    clear he
    unfold m31_l5
    by_cases hlt : i < rr.length
    · have hin : ((3 : Int) + (i : Int)).toNat = 3 + i := by omega
      by_cases hx : rr.getD i 0 = 59
      · have hcut := cutL_at hlt hx hz
        have hdd : tx.drop ((3 : Int) + (i : Int) + 1).toNat = rr.drop (i + 1) := by
          rw [hrr, List.drop_drop, show ((3 : Int) + (i : Int) + 1).toNat = 3 + (i + 1) by omega]
        have hx' : tx.getD ((3 : Int) + (i : Int)).toNat 0 = 59 := by rw [hin, ← hrg]; exact hx
        have hx'' : ((tx.getD ((3 : Int) + (i : Int)).toNat 0).toNat : Int) = 59 := by rw [hx']; rfl
        have hsD : sysD rr = if rr.drop (i + 1) = [63] then (5, 0, []) else if (decL (rr.drop (i + 1))).isSome = true ∧ ((decL (rr.drop (i + 1))).getD []).length ≤ 4096 then (4, 0, (decL (rr.drop (i + 1))).getD []) else (7, 0, []) := by
          unfold sysD
          rw [hcut]
          simp only [true_and]
        rw [hsD]
        have hds := dec_same (rr.drop (i + 1))
        have hdl : (rr.drop (i + 1)).length ≤ 15000 := by rw [List.length_drop]; omega
        repeat' (first
          | (refine K_ops ?_; first
            | refine W_fastB rfl ?_
            | refine W_nil ?_
            | (refine W_sliceStrFrom rfl rfl ⟨by omega, by omega⟩ ?_; rw [hdd]; refine W_norm rfl ?_)
            | (refine K_guard ?_; first
              | refine W_guard_on rfl ?_
              | refine W_guard_off rfl rfl (W_norm rfl ?_)
              | (refine W_guardT rfl (fun hc => ?_) (fun hc => ?_) <;> (try rw [hc]) <;> (try simp only [decide_eq_true_eq, decide_eq_false_iff_not, beq_iff_eq, beq_eq_false_iff_ne, bne_iff_ne, bne_eq_false_iff_eq, Bool.not_eq_true', Bool.not_eq_false', Int.not_lt, Int.not_le, ne_eq, reduceCtorEq, not_true_eq_false, not_false_eq_true, Decidable.not_not] at hc) <;> (try (exfalso; omega)) <;> (try contradiction) <;> (try refine W_norm rfl ?_))
            )
            | (refine K_call ?_; first
              | (refine W_callsN 18 rfl (w18 (s := rr.drop (i + 1)) (by omega)) rfl ?_; rintro _ h ⟨rfl, t⟩; rw [hds]; replace hs := hs.call t; try simp only [cell_back, attr_back, List.set_cons_zero, List.set_cons_succ, List.eraseIdx_cons_succ, List.eraseIdx_zero, List.tail_cons, List.nil_append, List.cons_append] at hs; refine W_norm rfl ?_)
            )
            | (refine K_bin ?_; first
              | (refine W_add rfl rfl (IntWalk.i64_in _ (by first | omega | (simp only [List.length_set, List.length_append, List.length_take, List.length_drop, List.length_replicate, List.length_cons, List.length_nil, decs_length, List.length_map]; omega))) ?_; refine W_norm rfl ?_)
            )
            | (refine K_pick ?_; first
              | refine W_pick_t rfl rfl (W_norm rfl ?_)
              | refine W_pick_f rfl rfl (W_norm rfl ?_)
            )
            | (refine K_store ?_; first
              | (refine W_storeC hs 0 rfl rfl rfl rfl (by first | decide | assumption) rfl rfl ?_; clear hs; intro _ hs; try simp only [cell_back, attr_back, List.set_cons_zero, List.set_cons_succ, List.eraseIdx_cons_succ, List.eraseIdx_zero, List.tail_cons, List.nil_append, List.cons_append] at hs; refine W_norm rfl ?_)
            )
            | (refine W_buildN rfl ?_; refine W_norm rfl ?_)
            | (refine W_idxStr rfl rfl ⟨(by first | omega | (simp only [List.length_set, List.length_append, List.length_take, List.length_drop, List.length_replicate, List.length_cons, List.length_nil, decs_length, List.length_map]; omega)), (by first | omega | (simp only [List.length_set, List.length_append, List.length_take, List.length_drop, List.length_replicate, List.length_cons, List.length_nil, decs_length, List.length_map]; omega))⟩ ?_; refine W_norm rfl ?_)
          )
          | (refine K_code ?_; first
            | refine W_seq ?_
            | refine W_ops ?_
            | refine W_cond_f rfl ?_
            | (refine W_cond rfl (fun hc => ?_) (fun hc => ?_) <;> (try rw [hc]) <;> (try simp only [decide_eq_true_eq, decide_eq_false_iff_not, beq_iff_eq, beq_eq_false_iff_ne, bne_iff_ne, bne_eq_false_iff_eq, Bool.not_eq_true', Bool.not_eq_false', Int.not_lt, Int.not_le, ne_eq, reduceCtorEq, not_true_eq_false, not_false_eq_true, Decidable.not_not] at hc) <;> (try (exfalso; omega)) <;> (try contradiction) <;> (try refine W_norm rfl ?_))
            | refine W_skip ?_
            | refine W_ret ?_
            | refine W_block ?_
          )
          | refine seqK_n ?_
          | refine seqK_r ?_
          | refine blockK_r ?_
          | refine invK_r ?_
          | (refine fnK_cellS hs 0 rfl rfl rfl rfl ?_))
        all_goals
          refine ⟨_, rfl, ?_, hs.none⟩
          refine congrArg AV.agg ?_
          clear hs
          first
            | (simp [flowC, *]; done)
            | (simp [flowC, *]; omega)
            | grind [flowC]
            | skip
      · have hx' : tx.getD ((3 : Int) + (i : Int)).toNat 0 ≠ 59 := by rw [hin, ← hrg]; exact hx
        have hx'' : ¬ ((tx.getD ((3 : Int) + (i : Int)).toNat 0).toNat : Int) = 59 := by
          intro hh; exact hx' (UInt8.toNat_inj.1 (by show _ = 59; omega))
        repeat' (first
          | (refine K_ops ?_; first
            | refine W_fastB rfl ?_
            | refine W_nil ?_
            | (refine K_bin ?_; first
              | (refine W_add rfl rfl (IntWalk.i64_in _ (by first | omega | (simp only [List.length_set, List.length_append, List.length_take, List.length_drop, List.length_replicate, List.length_cons, List.length_nil, decs_length, List.length_map]; omega))) ?_; refine W_norm rfl ?_)
            )
            | (refine W_idxStr rfl rfl ⟨(by first | omega | (simp only [List.length_set, List.length_append, List.length_take, List.length_drop, List.length_replicate, List.length_cons, List.length_nil, decs_length, List.length_map]; omega)), (by first | omega | (simp only [List.length_set, List.length_append, List.length_take, List.length_drop, List.length_replicate, List.length_cons, List.length_nil, decs_length, List.length_map]; omega))⟩ ?_; refine W_norm rfl ?_)
          )
          | (refine K_code ?_; first
            | refine W_seq ?_
            | refine W_ops ?_
            | (refine W_cond rfl (fun hc => ?_) (fun hc => ?_) <;> (try rw [hc]) <;> (try simp only [decide_eq_true_eq, decide_eq_false_iff_not, beq_iff_eq, beq_eq_false_iff_ne, bne_iff_ne, bne_eq_false_iff_eq, Bool.not_eq_true', Bool.not_eq_false', Int.not_lt, Int.not_le, ne_eq, reduceCtorEq, not_true_eq_false, not_false_eq_true, Decidable.not_not] at hc) <;> (try (exfalso; omega)) <;> (try contradiction) <;> (try refine W_norm rfl ?_))
            | refine W_skip ?_
            | refine W_exit ?_
            | refine W_block ?_
          )
          | refine seqK_n ?_
          | refine seqK_x ?_
          | refine blockK_e ?_
          | refine invK_n ?_)
        rw [show (3 : Int) + (i : Int) + 1 = 3 + ((i + 1 : Nat) : Int) by omega]
        refine ⟨_, ?_, _, ⟨i + 1, rfl, rfl, ?_, ?_, hs⟩, EnvB.of rfl⟩
        · omega
        · omega
        · intro j hj
          rcases Nat.lt_or_ge j i with h1 | h1
          · exact hz j h1
          · obtain rfl : j = i := by omega
            exact hx
    · obtain rfl : i = rr.length := by omega
      have hsD : sysD rr = (7, 0, []) := by unfold sysD; rw [cutL_no hz]; rfl
      rw [hsD]
      repeat' (first
        | (refine K_ops ?_; first
          | refine W_fastB rfl ?_
          | refine W_nil ?_
          | (refine K_store ?_; first
            | (refine W_storeC hs 0 rfl rfl rfl rfl (by first | decide | assumption) rfl rfl ?_; clear hs; intro _ hs; try simp only [cell_back, attr_back, List.set_cons_zero, List.set_cons_succ, List.eraseIdx_cons_succ, List.eraseIdx_zero, List.tail_cons, List.nil_append, List.cons_append] at hs; refine W_norm rfl ?_)
          )
          | (refine W_buildN rfl ?_; refine W_norm rfl ?_)
        )
        | (refine K_code ?_; first
          | refine W_seq ?_
          | refine W_ops ?_
          | (refine W_cond rfl (fun hc => ?_) (fun hc => ?_) <;> (try rw [hc]) <;> (try simp only [decide_eq_true_eq, decide_eq_false_iff_not, beq_iff_eq, beq_eq_false_iff_ne, bne_iff_ne, bne_eq_false_iff_eq, Bool.not_eq_true', Bool.not_eq_false', Int.not_lt, Int.not_le, ne_eq, reduceCtorEq, not_true_eq_false, not_false_eq_true, Decidable.not_not] at hc) <;> (try (exfalso; omega)) <;> (try contradiction) <;> (try refine W_norm rfl ?_))
          | refine W_ret ?_
          | refine W_exit ?_
        )
        | refine seqK_n ?_
        | refine seqK_x ?_
        | refine blockK_e ?_
        | refine invK_x ?_
        | (refine fnK_cellS hs 0 rfl rfl rfl rfl ?_))
      exact ⟨_, rfl, rfl, hs.none⟩
  · rw [if_neg h3]
    by_cases h1 : 1 < tx.length
    · have n1 : ¬ tx.take (2 : Int).toNat = [48, 59] := fun h => h2 ⟨h1, .inl h⟩
      have n2 : ¬ tx.take (2 : Int).toNat = [50, 59] := fun h => h2 ⟨h1, .inr h⟩
      by_cases hl3 : 3 < tx.length
      · have n3 : ¬ tx.take (3 : Int).toNat = [53, 50, 59] := fun h => h3 ⟨hl3, h⟩
        repeat' (first
          | (refine K_ops ?_; first
            | refine W_fastB rfl ?_
            | refine W_nil ?_
            | (refine K_guard ?_; first
              | refine W_guard_on rfl ?_
              | (refine W_guardT rfl (fun hc => ?_) (fun hc => ?_) <;> (try rw [hc]) <;> (try simp only [decide_eq_true_eq, decide_eq_false_iff_not, beq_iff_eq, beq_eq_false_iff_ne, bne_iff_ne, bne_eq_false_iff_eq, Bool.not_eq_true', Bool.not_eq_false', Int.not_lt, Int.not_le, ne_eq, reduceCtorEq, not_true_eq_false, not_false_eq_true, Decidable.not_not] at hc) <;> (try (exfalso; omega)) <;> (try contradiction) <;> (try refine W_norm rfl ?_))
              | (refine W_guardF rfl (fun hc => ?_) (fun hc => ?_) <;> (try rw [hc]) <;> (try simp only [decide_eq_true_eq, decide_eq_false_iff_not, beq_iff_eq, beq_eq_false_iff_ne, bne_iff_ne, bne_eq_false_iff_eq, Bool.not_eq_true', Bool.not_eq_false', Int.not_lt, Int.not_le, ne_eq, reduceCtorEq, not_true_eq_false, not_false_eq_true, Decidable.not_not] at hc) <;> (try (exfalso; omega)) <;> (try contradiction) <;> (try refine W_norm rfl ?_))
            )
            | (refine K_pick ?_; first
              | refine W_pick_t rfl rfl (W_norm rfl ?_)
              | refine W_pick_f rfl rfl (W_norm rfl ?_)
            )
            | (refine K_store ?_; first
              | (refine W_storeC hs 0 rfl rfl rfl rfl (by first | decide | assumption) rfl rfl ?_; clear hs; intro _ hs; try simp only [cell_back, attr_back, List.set_cons_zero, List.set_cons_succ, List.eraseIdx_cons_succ, List.eraseIdx_zero, List.tail_cons, List.nil_append, List.cons_append] at hs; refine W_norm rfl ?_)
            )
            | (refine W_allocS hs ?_; clear hs; intro al _ hs; try simp only [cell_back, attr_back, List.set_cons_zero, List.set_cons_succ, List.eraseIdx_cons_succ, List.eraseIdx_zero, List.tail_cons, List.nil_append, List.cons_append] at hs; refine W_norm rfl ?_)
            | (refine W_buildN rfl ?_; refine W_norm rfl ?_)
            | (refine W_sliceStrTo rfl rfl ⟨(by first | omega | (simp only [List.length_set, List.length_append, List.length_take, List.length_drop, List.length_replicate, List.length_cons, List.length_nil, decs_length, List.length_map]; omega)), (by first | omega | (simp only [List.length_set, List.length_append, List.length_take, List.length_drop, List.length_replicate, List.length_cons, List.length_nil, decs_length, List.length_map]; omega))⟩ ?_; refine W_norm rfl ?_)
          )
          | (refine K_code ?_; first
            | refine W_seq ?_
            | refine W_ops ?_
            | (refine W_cond rfl (fun hc => ?_) (fun hc => ?_) <;> (try rw [hc]) <;> (try simp only [decide_eq_true_eq, decide_eq_false_iff_not, beq_iff_eq, beq_eq_false_iff_ne, bne_iff_ne, bne_eq_false_iff_eq, Bool.not_eq_true', Bool.not_eq_false', Int.not_lt, Int.not_le, ne_eq, reduceCtorEq, not_true_eq_false, not_false_eq_true, Decidable.not_not] at hc) <;> (try (exfalso; omega)) <;> (try contradiction) <;> (try refine W_norm rfl ?_))
            | refine W_skip ?_
            | refine W_ret ?_
          )
          | refine seqK_n ?_
          | (refine fnK_cellS hs 0 rfl rfl rfl rfl ?_))
        all_goals exact ⟨_, rfl, rfl, hs.none⟩
      · repeat' (first
          | (refine K_ops ?_; first
            | refine W_fastB rfl ?_
            | refine W_nil ?_
            | (refine K_guard ?_; first
              | refine W_guard_on rfl ?_
              | refine W_guard_off rfl rfl (W_norm rfl ?_)
              | (refine W_guardT rfl (fun hc => ?_) (fun hc => ?_) <;> (try rw [hc]) <;> (try simp only [decide_eq_true_eq, decide_eq_false_iff_not, beq_iff_eq, beq_eq_false_iff_ne, bne_iff_ne, bne_eq_false_iff_eq, Bool.not_eq_true', Bool.not_eq_false', Int.not_lt, Int.not_le, ne_eq, reduceCtorEq, not_true_eq_false, not_false_eq_true, Decidable.not_not] at hc) <;> (try (exfalso; omega)) <;> (try contradiction) <;> (try refine W_norm rfl ?_))
              | (refine W_guardF rfl (fun hc => ?_) (fun hc => ?_) <;> (try rw [hc]) <;> (try simp only [decide_eq_true_eq, decide_eq_false_iff_not, beq_iff_eq, beq_eq_false_iff_ne, bne_iff_ne, bne_eq_false_iff_eq, Bool.not_eq_true', Bool.not_eq_false', Int.not_lt, Int.not_le, ne_eq, reduceCtorEq, not_true_eq_false, not_false_eq_true, Decidable.not_not] at hc) <;> (try (exfalso; omega)) <;> (try contradiction) <;> (try refine W_norm rfl ?_))
            )
            | (refine K_pick ?_; first
              | refine W_pick_t rfl rfl (W_norm rfl ?_)
              | refine W_pick_f rfl rfl (W_norm rfl ?_)
            )
            | (refine K_store ?_; first
              | (refine W_storeC hs 0 rfl rfl rfl rfl (by first | decide | assumption) rfl rfl ?_; clear hs; intro _ hs; try simp only [cell_back, attr_back, List.set_cons_zero, List.set_cons_succ, List.eraseIdx_cons_succ, List.eraseIdx_zero, List.tail_cons, List.nil_append, List.cons_append] at hs; refine W_norm rfl ?_)
            )
            | (refine W_allocS hs ?_; clear hs; intro al _ hs; try simp only [cell_back, attr_back, List.set_cons_zero, List.set_cons_succ, List.eraseIdx_cons_succ, List.eraseIdx_zero, List.tail_cons, List.nil_append, List.cons_append] at hs; refine W_norm rfl ?_)
            | (refine W_buildN rfl ?_; refine W_norm rfl ?_)
            | (refine W_sliceStrTo rfl rfl ⟨(by first | omega | (simp only [List.length_set, List.length_append, List.length_take, List.length_drop, List.length_replicate, List.length_cons, List.length_nil, decs_length, List.length_map]; omega)), (by first | omega | (simp only [List.length_set, List.length_append, List.length_take, List.length_drop, List.length_replicate, List.length_cons, List.length_nil, decs_length, List.length_map]; omega))⟩ ?_; refine W_norm rfl ?_)
          )
          | (refine K_code ?_; first
            | refine W_seq ?_
            | refine W_ops ?_
            | refine W_cond_f rfl ?_
            | (refine W_cond rfl (fun hc => ?_) (fun hc => ?_) <;> (try rw [hc]) <;> (try simp only [decide_eq_true_eq, decide_eq_false_iff_not, beq_iff_eq, beq_eq_false_iff_ne, bne_iff_ne, bne_eq_false_iff_eq, Bool.not_eq_true', Bool.not_eq_false', Int.not_lt, Int.not_le, ne_eq, reduceCtorEq, not_true_eq_false, not_false_eq_true, Decidable.not_not] at hc) <;> (try (exfalso; omega)) <;> (try contradiction) <;> (try refine W_norm rfl ?_))
            | refine W_skip ?_
            | refine W_ret ?_
          )
          | refine seqK_n ?_
          | (refine fnK_cellS hs 0 rfl rfl rfl rfl ?_))
        all_goals exact ⟨_, rfl, rfl, hs.none⟩
    · repeat' (first
        | (refine K_ops ?_; first
          | refine W_fastB rfl ?_
          | refine W_nil ?_
          | (refine K_guard ?_; first
            | refine W_guard_off rfl rfl (W_norm rfl ?_)
            | refine W_guard_u rfl (W_norm rfl ?_)
            | (refine W_guardT rfl (fun hc => ?_) (fun hc => ?_) <;> (try rw [hc]) <;> (try simp only [decide_eq_true_eq, decide_eq_false_iff_not, beq_iff_eq, beq_eq_false_iff_ne, bne_iff_ne, bne_eq_false_iff_eq, Bool.not_eq_true', Bool.not_eq_false', Int.not_lt, Int.not_le, ne_eq, reduceCtorEq, not_true_eq_false, not_false_eq_true, Decidable.not_not] at hc) <;> (try (exfalso; omega)) <;> (try contradiction) <;> (try refine W_norm rfl ?_))
          )
          | (refine K_pick ?_; first
            | refine W_pick_f rfl rfl (W_norm rfl ?_)
          )
          | (refine K_store ?_; first
            | (refine W_storeC hs 0 rfl rfl rfl rfl (by first | decide | assumption) rfl rfl ?_; clear hs; intro _ hs; try simp only [cell_back, attr_back, List.set_cons_zero, List.set_cons_succ, List.eraseIdx_cons_succ, List.eraseIdx_zero, List.tail_cons, List.nil_append, List.cons_append] at hs; refine W_norm rfl ?_)
          )
          | (refine W_allocS hs ?_; clear hs; intro al _ hs; try simp only [cell_back, attr_back, List.set_cons_zero, List.set_cons_succ, List.eraseIdx_cons_succ, List.eraseIdx_zero, List.tail_cons, List.nil_append, List.cons_append] at hs; refine W_norm rfl ?_)
          | (refine W_buildN rfl ?_; refine W_norm rfl ?_)
        )
        | (refine K_code ?_; first
          | refine W_seq ?_
          | refine W_ops ?_
          | refine W_cond_f rfl ?_
          | refine W_skip ?_
          | refine W_ret ?_
        )
        | refine seqK_n ?_
        | (refine fnK_cellS hs 0 rfl rfl rfl rfl ?_))
      all_goals exact ⟨_, rfl, rfl, hs.none⟩
theorem w15 {k r : Int} {f : UInt8} {m tx : List UInt8} {p : SV} {P : List (SV × List Int)} {h0 : Heap} (hp : NsR (intEl .i64) (Now h0) p P) (hl : Short P) (ht : k = 5 → tx.length ≤ 15000) :
    Wc DD 15 [evA k r f m p tx] h0 fun v h' => v = .agg (flowC (classL k f m (P.map Prod.snd) tx)) ∧ Sep (Now h0) [] h' := by
  have hs := Sep.entry h0
  have hfl := f.toNat_lt
  have hcl : classL k f m (P.map Prod.snd) tx = if k = 1 then (1, 0, []) else if k = 2 then (if (f.toNat : Int) = 7 then (3, 0, []) else if 8 ≤ (f.toNat : Int) ∧ (f.toNat : Int) ≤ 13 then (1, 0, []) else (7, 0, []))
      else if k = 3 then (if (m = [] ∧ inL f lettersE = true) ∨ (m = [35] ∧ (f.toNat : Int) = 56) then (1, 0, []) else (7, 0, [])) else if k = 4 then csiF f m (P.map Prod.snd) else if k = 5 then sysL tx else (7, 0, []) := by
    clear hs hp
    unfold classL gridB csiF
    by_cases h1 : k = 1
    · simp [h1]
    by_cases h2 : k = 2
    · subst h2
      by_cases h7 : (f.toNat : Int) = 7
      · have : f.toNat = 7 := by omega
        simp [this]
      · simp [h7]
    by_cases h3 : k = 3
    · subst h3; simp
    by_cases h4 : k = 4
    · subst h4; simp
    by_cases h5 : k = 5
    · subst h5; simp
    · simp [h1, h2, h3, h4, h5]
  rw [hcl]
  clear hcl
  refine W_enter d15 ?_
  show W _ (.code m15_code [.agg [.int .i64 k, .int .i32 r, .int .u8 (f.toNat : Int), .str m, p, .str tx], undefA, undefA, undefA, undefA, undefA, undefA, undefA, undefA, undefA, undefA, undefA, undefA, undefA, undefA, undefA, undefA, undefA, undefA, undefA, undefA, undefA, undefA, undefA, undefA, undefA, undefA, undefA, undefA, undefA, undefA, undefA, undefA, undefA, undefA, undefA, undefA, undefA, undefA, undefA, undefA, undefA, undefA, undefA, undefA, undefA, undefA, undefA, undefA, undefA, undefA, undefA, undefA, undefA] _) _
  unfold m15_code
  repeat' (first
    | (refine K_ops ?_; first
      | refine W_fastB rfl ?_
      | refine W_nil ?_
      | (refine K_guard ?_; first
        | refine W_guard_on rfl ?_
        | refine W_guard_off rfl rfl (W_norm rfl ?_)
        | refine W_guard_u rfl (W_norm rfl ?_)
        | (refine W_guardT rfl (fun hc => ?_) (fun hc => ?_) <;> (try rw [hc]) <;> (try simp only [decide_eq_true_eq, decide_eq_false_iff_not, beq_iff_eq, beq_eq_false_iff_ne, bne_iff_ne, bne_eq_false_iff_eq, Bool.not_eq_true', Bool.not_eq_false', Int.not_lt, Int.not_le, ne_eq, reduceCtorEq, not_true_eq_false, not_false_eq_true, Decidable.not_not] at hc) <;> (try (exfalso; omega)) <;> (try contradiction) <;> (try refine W_norm rfl ?_))
        | (refine W_guardF rfl (fun hc => ?_) (fun hc => ?_) <;> (try rw [hc]) <;> (try simp only [decide_eq_true_eq, decide_eq_false_iff_not, beq_iff_eq, beq_eq_false_iff_ne, bne_iff_ne, bne_eq_false_iff_eq, Bool.not_eq_true', Bool.not_eq_false', Int.not_lt, Int.not_le, ne_eq, reduceCtorEq, not_true_eq_false, not_false_eq_true, Decidable.not_not] at hc) <;> (try (exfalso; omega)) <;> (try contradiction) <;> (try refine W_norm rfl ?_))
      )
      | (refine K_call ?_; first
        | (refine W_callsN 29 rfl (w29 (f := f) (s := lettersE) (by decide)) rfl ?_; rintro _ h ⟨rfl, rfl⟩; refine W_norm rfl ?_)
        | (refine W_callsN 30 rfl (w30 (t := tx) (hp.now hs) hl) rfl ?_; rintro _ h ⟨rfl, t⟩; unfold flowC; replace hs := hs.call t; try simp only [cell_back, attr_back, List.set_cons_zero, List.set_cons_succ, List.eraseIdx_cons_succ, List.eraseIdx_zero, List.tail_cons, List.nil_append, List.cons_append] at hs; refine W_norm rfl ?_)
        | (refine W_callsN 31 rfl (w31 (tx := tx) (ht (by assumption))) rfl ?_; rintro _ h ⟨rfl, t⟩; unfold flowC; replace hs := hs.call t; try simp only [cell_back, attr_back, List.set_cons_zero, List.set_cons_succ, List.eraseIdx_cons_succ, List.eraseIdx_zero, List.tail_cons, List.nil_append, List.cons_append] at hs; refine W_norm rfl ?_)
      )
      | (refine K_pick ?_; first
        | refine W_pick_t rfl rfl (W_norm rfl ?_)
        | refine W_pick_f rfl rfl (W_norm rfl ?_)
      )
      | (refine K_load ?_; first
        | (refine W_loadC hs 1 rfl rfl rfl ?_; refine W_norm rfl ?_)
        | (refine W_loadCA hs 1 rfl rfl rfl ?_; refine W_norm rfl ?_)
      )
      | (refine K_store ?_; first
        | (refine W_storeC hs 0 rfl rfl rfl rfl (by first | decide | assumption) rfl rfl ?_; clear hs; intro _ hs; try simp only [cell_back, attr_back, List.set_cons_zero, List.set_cons_succ, List.eraseIdx_cons_succ, List.eraseIdx_zero, List.tail_cons, List.nil_append, List.cons_append] at hs; refine W_norm rfl ?_)
      )
      | (refine W_allocS hs ?_; clear hs; intro al _ hs; try simp only [cell_back, attr_back, List.set_cons_zero, List.set_cons_succ, List.eraseIdx_cons_succ, List.eraseIdx_zero, List.tail_cons, List.nil_append, List.cons_append] at hs; refine W_norm rfl ?_)
      | (refine W_boxS hs rfl rfl ?_; clear hs; intro bx _ hs; try simp only [cell_back, attr_back, List.set_cons_zero, List.set_cons_succ, List.eraseIdx_cons_succ, List.eraseIdx_zero, List.tail_cons, List.nil_append, List.cons_append] at hs; refine W_norm rfl ?_)
      | (refine W_buildN rfl ?_; refine W_norm rfl ?_)
    )
    | (refine K_code ?_; first
      | refine W_seq ?_
      | refine W_ops ?_
      | refine W_cond_t rfl ?_
      | refine W_cond_f rfl ?_
      | (refine W_cond rfl (fun hc => ?_) (fun hc => ?_) <;> (try rw [hc]) <;> (try simp only [decide_eq_true_eq, decide_eq_false_iff_not, beq_iff_eq, beq_eq_false_iff_ne, bne_iff_ne, bne_eq_false_iff_eq, Bool.not_eq_true', Bool.not_eq_false', Int.not_lt, Int.not_le, ne_eq, reduceCtorEq, not_true_eq_false, not_false_eq_true, Decidable.not_not] at hc) <;> (try (exfalso; omega)) <;> (try contradiction) <;> (try refine W_norm rfl ?_))
      | refine W_skip ?_
      | refine W_ret ?_
      | refine W_block ?_
    )
    | refine seqK_n ?_
    | refine seqK_r ?_
    | refine blockK_r ?_
    | refine blockK_n ?_
    | (refine fnK_cellS hs 0 rfl rfl rfl rfl ?_))
  all_goals
    refine ⟨_, rfl, ?_, hs.none⟩
    refine congrArg AV.agg ?_
    clear hs hp
    first
      | (simp [flowC, *]; done)
      | (simp [flowC, *]; omega)
      | grind [flowC]
      | skip
end Go.Proofs.YtggkbkbhegcbkaaDoor
/- The law GateKnown. -/
set_option linter.unusedSimpArgs false
set_option linter.unusedVariables false
set_option maxHeartbeats 2000000
set_option maxRecDepth 100000
namespace Go.Proofs.YtggkbkbhegcbkaaDoor
open Go Go.Jx

def flowE : El Flow := ⟨3, flowC, fun l => match l with | [.int _ a, .int _ b, .str c] => (a, b, c) | _ => (0, 0, []), (0, 0, []), fun _ => rfl, by decide, fun _ => rfl⟩
theorem flowE_fits (x : Flow) : fits [.int .i64, .int .i64, .str] (flowE.enc x) = true := rfl
theorem w14 {tx : List UInt8} {h : Heap} (ht : tx.length ≤ 15000) : Wc DD 14 [.sc (.str tx)] h fun v h' => v = .agg (flowC (sysL tx)) ∧ Sep (Now h) [] h' := by
  have hs := Sep.entry h
  have hc : classL 5 0 [] [] tx = sysL tx := by
    unfold classL
    rw [if_neg (by decide), if_neg (by omega), if_pos rfl]
  have hn : NsR (intEl .i64) (Now h) .nils [] := ⟨SlR.nil _, by simp⟩
  refine W_enter d14 ?_
  show W _ (.code m14_code [.sc (.str tx), undefA, undefA, undefA, undefA, undefA] _) _
  unfold m14_code
  repeat' (first
    | (refine K_ops ?_; first
      | refine W_fastB rfl ?_
      | refine W_nil ?_
      | (refine K_call ?_; first
        | (refine W_callsN 9 rfl (w9 (k := 5) (r := 0) (f := 0) (m := []) (tx := tx) (P := []) (hn.now hs) ⟨by simp, by simp⟩ (by simp) (fun _ => ht)) rfl ?_; rintro _ h ⟨rfl, t⟩; rw [show classL 5 0 [] (List.map Prod.snd ([] : List (SV × List Int))) tx = sysL tx from hc]; unfold flowC; replace hs := hs.call t; try simp only [cell_back, attr_back, List.set_cons_zero, List.set_cons_succ, List.eraseIdx_cons_succ, List.eraseIdx_zero, List.tail_cons, List.nil_append, List.cons_append] at hs; refine W_norm rfl ?_)
      )
      | (refine K_store ?_; first
        | (refine W_storeC hs 0 rfl rfl rfl rfl (by first | decide | assumption) rfl rfl ?_; clear hs; intro _ hs; try simp only [cell_back, attr_back, List.set_cons_zero, List.set_cons_succ, List.eraseIdx_cons_succ, List.eraseIdx_zero, List.tail_cons, List.nil_append, List.cons_append] at hs; refine W_norm rfl ?_)
      )
      | (refine W_allocS hs ?_; clear hs; intro al _ hs; try simp only [cell_back, attr_back, List.set_cons_zero, List.set_cons_succ, List.eraseIdx_cons_succ, List.eraseIdx_zero, List.tail_cons, List.nil_append, List.cons_append] at hs; refine W_norm rfl ?_)
      | (refine W_buildN rfl ?_; refine W_norm rfl ?_)
    )
    | (refine K_code ?_; first
      | refine W_seq ?_
      | refine W_ops ?_
      | refine W_ret ?_
    )
    | refine seqK_n ?_
    | (refine fnK_cellS hs 0 rfl rfl rfl rfl ?_))
  exact ⟨_, rfl, rfl, hs.none⟩
theorem w14x {tx : List UInt8} {h : Heap} (ht : tx.length ≤ 15000) (x : Flow) (hx : sysL tx = x) : Wc DD 14 [.sc (.str tx)] h fun v h' => v = .agg (flowC x) ∧ Sep (Now h) [] h' := by rw [← hx]; exact w14 ht
theorem w16 {f : UInt8} {m : List UInt8} {p : SV} {P : List (SV × List Int)} {h : Heap} (hp : NsR (intEl .i64) (Now h) p P) (hl : Short P) (hm : m.length ≤ 100000) (x : Flow) (hx : classL 4 f m (P.map Prod.snd) [] = x) :
    Wc DD 16 [.sc (.str m), .sc (.int .u8 (f.toNat : Int)), .sc p] h fun v h' => v = .agg (flowC x) ∧ Sep (Now h) [] h' := by
  have hs := Sep.entry h
  refine W_enter d16 ?_
  show W _ (.code m16_code [.sc (.str m), .sc (.int .u8 (f.toNat : Int)), .sc p, undefA, undefA, undefA, undefA, undefA, undefA, undefA, undefA, undefA] _) _
  unfold m16_code
  repeat' (first
    | (refine K_ops ?_; first
      | refine W_fastB rfl ?_
      | refine W_nil ?_
      | (refine K_call ?_; first
        | (refine W_callsN 9 rfl (w9 (k := 4) (r := 0) (f := f) (m := m) (tx := []) (P := P) (hp.now hs) hl hm (fun _ => by simp)) rfl ?_; rintro _ h ⟨rfl, t⟩; rw [hx]; unfold flowC; replace hs := hs.call t; try simp only [cell_back, attr_back, List.set_cons_zero, List.set_cons_succ, List.eraseIdx_cons_succ, List.eraseIdx_zero, List.tail_cons, List.nil_append, List.cons_append] at hs; refine W_norm rfl ?_)
      )
      | (refine K_store ?_; first
        | (refine W_storeC hs 0 rfl rfl rfl rfl (by first | decide | assumption) rfl rfl ?_; clear hs; intro _ hs; try simp only [cell_back, attr_back, List.set_cons_zero, List.set_cons_succ, List.eraseIdx_cons_succ, List.eraseIdx_zero, List.tail_cons, List.nil_append, List.cons_append] at hs; refine W_norm rfl ?_)
      )
      | (refine W_allocS hs ?_; clear hs; intro al _ hs; try simp only [cell_back, attr_back, List.set_cons_zero, List.set_cons_succ, List.eraseIdx_cons_succ, List.eraseIdx_zero, List.tail_cons, List.nil_append, List.cons_append] at hs; refine W_norm rfl ?_)
      | (refine W_buildN rfl ?_; refine W_norm rfl ?_)
    )
    | (refine K_code ?_; first
      | refine W_seq ?_
      | refine W_ops ?_
      | refine W_ret ?_
    )
    | refine seqK_n ?_
    | (refine fnK_cellS hs 0 rfl rfl rfl rfl ?_))
  exact ⟨_, rfl, rfl, hs.none⟩
theorem w8k (h : Heap) : Wc DD 8 [] h fun v h' => v = .sc (.bool true) ∧ h' = h := W_known rfl
theorem ns0 {h : Heap} : NsR (intEl .i64) (Now h) .nils [] := ⟨SlR.nil _, by simp⟩
theorem sh0 : Short [] := ⟨by simp, by simp⟩
theorem sh1 (v : SV) (n : Int) : Short [(v, [n])] := ⟨by simp, by simp⟩
theorem sh2 (v w : SV) (n k : Int) : Short [(v, [n]), (w, [k])] := ⟨by simp, by simp⟩
theorem ns1 {h : Heap} {v w : SV} {n : Int} (h1 : SlR svEl (Now h) v [w]) (h2 : SlR (intEl .i64) (Now h) w [n]) : NsR (intEl .i64) (Now h) v [(w, [n])] := ⟨h1, by simpa using h2⟩
theorem ns2 {h : Heap} {v w u : SV} {n k : Int} (h1 : SlR svEl (Now h) v [w, u]) (h2 : SlR (intEl .i64) (Now h) w [n]) (h3 : SlR (intEl .i64) (Now h) u [k]) : NsR (intEl .i64) (Now h) v [(w, [n]), (u, [k])] := ⟨h1, by simpa using ⟨h2, h3⟩⟩
theorem e1 : classL 4 99 [] [] [] = (6, 1, []) := by kernel_rfl
theorem e2 : classL 4 99 [] [[1]] [] = (7, 0, []) := by kernel_rfl
theorem e3 : classL 4 99 [62] [] [] = (6, 2, []) := by kernel_rfl
theorem e4 : classL 4 104 [63] [[25], [47]] [] = (7, 0, []) := by kernel_rfl
theorem s1 : sysL [53, 50, 59, 99, 59, 63] = (5, 0, []) := by kernel_rfl
theorem s2 : sysL [53, 50, 59, 99, 59, 97, 71, 107] = (7, 0, []) := by kernel_rfl
theorem s3 : sysL [52, 59, 49, 59, 63] = (7, 0, []) := by kernel_rfl
theorem s4 : sysL [53, 50, 59, 99, 59] = (4, 0, []) := by kernel_rfl
theorem s5 : sysL [48, 59] = (2, 0, []) := by kernel_rfl
theorem s6 : sysL [48] = (7, 0, []) := by kernel_rfl
def midsK : List (List UInt8) := [[], [63], [62], [33], [35], [40], [32], [36], [63, 33]]
theorem mids_len : ∀ m ∈ midsK, m.length ≤ 2 := by decide

theorem w5 {h0 : Heap} : Wc DD 5 [] h0 fun v h' => v = bo true := by
  have hs := Sep.entry h0
  refine W_enter d5 ?_
  show W _ (.code m5_code [undefA, undefA, undefA, undefA, undefA, undefA, undefA, undefA, undefA, undefA, undefA, undefA, undefA, undefA, undefA, undefA, undefA, undefA, undefA, undefA, undefA, undefA, undefA, undefA, undefA, undefA, undefA, undefA, undefA, undefA, undefA, undefA, undefA, undefA, undefA, undefA, undefA, undefA, undefA, undefA, undefA, undefA, undefA, undefA, undefA, undefA, undefA, undefA, undefA, undefA, undefA, undefA, undefA, undefA, undefA, undefA, undefA, undefA, undefA, undefA, undefA, undefA, undefA, undefA, undefA, undefA, undefA, undefA, undefA, undefA, undefA, undefA, undefA, undefA, undefA, undefA, undefA, undefA, undefA, undefA, undefA, undefA, undefA, undefA, undefA, undefA, undefA, undefA, undefA, undefA, undefA, undefA, undefA, undefA, undefA, undefA, undefA, undefA, undefA, undefA, undefA, undefA] _) _
  unfold m5_code
  repeat' (first
    | (refine K_ops ?_; first
      | refine W_fastB rfl ?_
      | refine W_nil ?_
      | (refine W_buildS strEl hs (cs := [.str [], .str [63], .str [62], .str [33], .str [35], .str [40], .str [32], .str [36], .str [63, 33]]) rfl rfl ?_; clear hs; intro v' c' h6 ha hv' hs; refine W_norm rfl ?_)
    )
    | (refine K_code ?_; first
      | refine W_seq ?_
      | refine W_ops ?_
      | refine W_block ?_
    )
    | refine seqK_n ?_)
  have ha : OwnS strEl 9 v' midsK c' := ha
  have hmv := ha.add (Now h0)
  replace hs := hs.freeze 0 rfl
  simp only [List.eraseIdx_zero, List.tail_cons] at hs
  have hln := ha.ln
  have hml : midsK.length = 9 := rfl
  clear ha hv'
  generalize hR : (Now h0).add c' = R at *
  generalize hM : midsK = MK at *
  refine W_loopB [0, 2, 3, 4, 5, 6, 8, 9, 10, 11, 12, 13, 14, 15, 16, 17, 18, 19, 20, 21, 22, 23, 24, 25, 26, 27, 28, 29, 30, 31, 32, 33, 34, 35, 36, 37, 38, 39, 40, 41] [0, 1, 2, 3, 4, 5, 6, 7, 8, 9, 10, 11, 12, 13, 14, 15, 16, 17, 18, 19, 20, 21, 22, 23, 24, 25, 26, 27, 28, 29, 30, 31, 32, 33, 34, 35, 36, 37, 38, 39, 40, 41, 42, 43, 44, 45, 46, 47, 48, 49, 50, 51, 52, 53, 54, 55, 56, 57, 58, 59, 60, 61, 62, 63, 64, 65, 66, 67, 68, 69, 70, 71, 72, 73, 74, 75, 76, 77, 78, 79, 80, 81, 82, 83, 84, 85, 86, 87, 88, 89, 90, 91, 92, 93, 94, 95, 96, 97, 98, 99, 100, 101] (fun n' sl h' => ∃ (i : Nat), sl = [(2, i64 (i : Int))] ∧ n' = MK.length - i ∧ i ≤ MK.length ∧ Sep R [] h') ?_ ?_
  · refine ⟨_, _, ⟨0, rfl, rfl, by omega, hs⟩, EnvB.of rfl⟩
  clear hs
  rintro _ _ us _ h2 ⟨i, rfl, rfl, hi, hs⟩ he
  refine W_spell he rfl ?_
  clear he
  unfold m5_l3
  by_cases hlt : i < MK.length
  · repeat' (first
      | (refine K_ops ?_; first
        | refine W_fastB rfl ?_
        | refine W_nil ?_
        | (refine W_lenL rfl (by first | assumption | exact SlR.ln (by assumption) | exact AccS.ln (by assumption) | exact OwnS.ln (by assumption) | exact VwO.ln (by assumption) | exact OwnP.ln (by assumption) | exact Len.sl) ?_; refine W_norm rfl ?_)
      )
      | (refine K_code ?_; first
        | refine W_seq ?_
        | refine W_ops ?_
        | (refine W_cond rfl (fun hc => ?_) (fun hc => ?_) <;> (try rw [hc]) <;> (try simp only [decide_eq_true_eq, decide_eq_false_iff_not, beq_iff_eq, beq_eq_false_iff_ne, bne_iff_ne, bne_eq_false_iff_eq, Bool.not_eq_true', Bool.not_eq_false', Int.not_lt, Int.not_le, ne_eq, reduceCtorEq, not_true_eq_false, not_false_eq_true, Decidable.not_not] at hc) <;> (try (exfalso; omega)) <;> (try refine W_norm rfl ?_))
        | refine W_skip ?_
        | refine W_block ?_
      )
      | refine seqK_n ?_)
    refine W_loopB [0, 3, 4, 5, 6, 14, 15, 16, 17, 18, 19, 20, 21, 22, 23, 24, 25, 26, 27, 28, 29, 30, 31, 32, 33, 34, 35, 36, 37, 38, 39, 40, 41] [0, 1, 2, 3, 4, 5, 6, 7, 8, 9, 10, 11, 12, 13, 14, 15, 16, 17, 18, 19, 20, 21, 22, 23, 24, 25, 26, 27, 28, 29, 30, 31, 32, 33, 34, 35, 36, 37, 38, 39, 40, 41, 42, 43, 44, 45, 46, 47, 48, 49, 50, 51, 52, 53, 54, 55, 56, 57, 58, 59, 60, 61, 62, 63, 64, 65, 66, 67, 68, 69, 70, 71, 72, 73, 74, 75, 76, 77, 78, 79, 80, 81, 82, 83, 84, 85, 86, 87, 88, 89, 90, 91, 92, 93, 94, 95, 96, 97, 98, 99, 100, 101] (fun n' sl h' => ∃ (j : Nat), sl = [(3, i64 (j : Int))] ∧ n' = 256 - j ∧ j ≤ 256 ∧ Sep R [] h') ?_ ?_
    · refine ⟨_, _, ⟨0, rfl, rfl, by omega, hs⟩, EnvB.of rfl⟩
    clear hs
    rintro _ _ us2 _ h3 ⟨j, rfl, rfl, hj, hs⟩ he
    refine W_spell he rfl ?_
    clear he
    unfold m5_l6
    by_cases hlj : j < 256
    · repeat' (first
        | (refine K_ops ?_; first
          | refine W_fastB rfl ?_
          | refine W_nil ?_
        )
        | (refine K_code ?_; first
          | refine W_seq ?_
          | refine W_ops ?_
          | (refine W_cond rfl (fun hc => ?_) (fun hc => ?_) <;> (try rw [hc]) <;> (try simp only [decide_eq_true_eq, decide_eq_false_iff_not, beq_iff_eq, beq_eq_false_iff_ne, bne_iff_ne, bne_eq_false_iff_eq, Bool.not_eq_true', Bool.not_eq_false', Int.not_lt, Int.not_le, ne_eq, reduceCtorEq, not_true_eq_false, not_false_eq_true, Decidable.not_not] at hc) <;> (try (exfalso; omega)) <;> (try refine W_norm rfl ?_))
          | refine W_skip ?_
          | refine W_block ?_
        )
        | refine seqK_n ?_)
      refine W_loopB [0, 4, 5, 6, 18, 19, 20, 21, 22, 23, 24, 25, 26, 27, 28, 29, 30, 31, 32, 33, 34, 35, 36, 37, 38, 39, 40, 41] [0, 1, 2, 3, 4, 5, 6, 7, 8, 9, 10, 11, 12, 13, 14, 15, 16, 17, 18, 19, 20, 21, 22, 23, 24, 25, 26, 27, 28, 29, 30, 31, 32, 33, 34, 35, 36, 37, 38, 39, 40, 41, 42, 43, 44, 45, 46, 47, 48, 49, 50, 51, 52, 53, 54, 55, 56, 57, 58, 59, 60, 61, 62, 63, 64, 65, 66, 67, 68, 69, 70, 71, 72, 73, 74, 75, 76, 77, 78, 79, 80, 81, 82, 83, 84, 85, 86, 87, 88, 89, 90, 91, 92, 93, 94, 95, 96, 97, 98, 99, 100, 101] (fun n' sl h' => ∃ (k : Nat), sl = [(4, i64 (k : Int))] ∧ n' = 8 - k ∧ k ≤ 8 ∧ Sep R [] h') ?_ ?_
      · refine ⟨_, _, ⟨0, rfl, rfl, by omega, hs⟩, EnvB.of rfl⟩
      clear hs
      rintro _ _ us3 _ h4 ⟨k, rfl, rfl, hk, hs⟩ he
      refine W_spell he rfl ?_
      clear he
      unfold m5_l9
      by_cases hlk : k ≤ 7
      · repeat' (first
          | (refine K_ops ?_; first
            | refine W_fastB rfl ?_
            | refine W_nil ?_
          )
          | (refine K_code ?_; first
            | refine W_seq ?_
            | refine W_ops ?_
            | (refine W_cond rfl (fun hc => ?_) (fun hc => ?_) <;> (try rw [hc]) <;> (try simp only [decide_eq_true_eq, decide_eq_false_iff_not, beq_iff_eq, beq_eq_false_iff_ne, bne_iff_ne, bne_eq_false_iff_eq, Bool.not_eq_true', Bool.not_eq_false', Int.not_lt, Int.not_le, ne_eq, reduceCtorEq, not_true_eq_false, not_false_eq_true, Decidable.not_not] at hc) <;> (try (exfalso; omega)) <;> (try refine W_norm rfl ?_))
            | refine W_skip ?_
            | refine W_block ?_
          )
          | refine seqK_n ?_)
        refine W_loopB [0, 5, 6, 22, 23, 24, 25, 26, 27, 28, 29, 30, 31, 32, 33, 34, 35, 36, 37, 38, 39, 40, 41] [0, 1, 2, 3, 4, 5, 6, 7, 8, 9, 10, 11, 12, 13, 14, 15, 16, 17, 18, 19, 20, 21, 22, 23, 24, 25, 26, 27, 28, 29, 30, 31, 32, 33, 34, 35, 36, 37, 38, 39, 40, 41, 42, 43, 44, 45, 46, 47, 48, 49, 50, 51, 52, 53, 54, 55, 56, 57, 58, 59, 60, 61, 62, 63, 64, 65, 66, 67, 68, 69, 70, 71, 72, 73, 74, 75, 76, 77, 78, 79, 80, 81, 82, 83, 84, 85, 86, 87, 88, 89, 90, 91, 92, 93, 94, 95, 96, 97, 98, 99, 100, 101] (fun n' sl h' => ∃ (n : Nat), sl = [(5, i64 (n : Int))] ∧ n' = 7 - n ∧ n ≤ 7 ∧ Sep R [] h') ?_ ?_
        · refine ⟨_, _, ⟨0, rfl, rfl, by omega, hs⟩, EnvB.of rfl⟩
        clear hs
        rintro _ _ us4 _ h5 ⟨n, rfl, rfl, hn, hs⟩ he
        refine W_spell he rfl ?_
        clear he
        unfold m5_l12
        by_cases hlnn : n ≤ 6
        · obtain ⟨f, hf⟩ : ∃ f : UInt8, j = f.toNat := ⟨UInt8.ofNat j, by rw [UInt8.toNat_ofNat']; omega⟩
          subst hf
          have hmm : (MK.getD i []).length ≤ 2 := by rw [← hM] at hlt ⊢; exact mids_len _ (getD_mem hlt)
          repeat' (first
            | (refine K_ops ?_; first
              | refine W_fastB rfl ?_
              | refine W_nil ?_
              | (refine K_index ?_; first
                | (refine W_indexR rfl rfl (by assumption) rfl ⟨(by first | omega | (simp only [List.length_set, List.length_append, List.length_take, List.length_drop, List.length_replicate, List.length_cons, List.length_nil, decs_length, List.length_map]; omega)), (by first | omega | (simp only [List.length_set, List.length_append, List.length_take, List.length_drop, List.length_replicate, List.length_cons, List.length_nil, decs_length, List.length_map]; omega))⟩ ?_; intro _ _ _; refine W_norm rfl ?_)
              )
              | (refine K_load ?_; first
                | (refine W_loadR hs rfl (by assumption) rfl ?_; refine W_norm rfl ?_)
              )
              | (refine K_store ?_; first
                | (refine W_storeC hs 0 rfl rfl rfl rfl (by first | decide | assumption) rfl rfl ?_; clear hs; intro _ hs; try simp only [cell_back, attr_back, List.set_cons_zero, List.set_cons_succ, List.eraseIdx_cons_succ, List.eraseIdx_zero, List.tail_cons, List.nil_append, List.cons_append] at hs; refine W_norm rfl ?_)
              )
              | (refine W_allocS hs ?_; clear hs; intro al _ hs; try simp only [cell_back, attr_back, List.set_cons_zero, List.set_cons_succ, List.eraseIdx_cons_succ, List.eraseIdx_zero, List.tail_cons, List.nil_append, List.cons_append] at hs; refine W_norm rfl ?_)
              | (refine K_bslice ?_; first
                | (refine W_buildS1 (intEl .i64) hs rfl rfl ?_; clear hs; intro _ _ _ _ hs; try simp only [cell_back, attr_back, List.set_cons_zero, List.set_cons_succ, List.eraseIdx_cons_succ, List.eraseIdx_zero, List.tail_cons, List.nil_append, List.cons_append] at hs; refine W_norm rfl ?_)
                | (refine W_buildS1 svEl hs rfl rfl ?_; clear hs; intro _ _ _ _ hs; try simp only [cell_back, attr_back, List.set_cons_zero, List.set_cons_succ, List.eraseIdx_cons_succ, List.eraseIdx_zero, List.tail_cons, List.nil_append, List.cons_append] at hs; refine W_norm rfl ?_)
              )
              | (refine W_buildN rfl ?_; refine W_norm rfl ?_)
              | (refine W_convint rfl (IntWalk.u8_in _ (by omega)) ?_; refine W_norm rfl ?_)
            )
            | (refine K_code ?_; first
              | refine W_seq ?_
              | refine W_ops ?_
              | (refine W_cond rfl (fun hc => ?_) (fun hc => ?_) <;> (try rw [hc]) <;> (try simp only [decide_eq_true_eq, decide_eq_false_iff_not, beq_iff_eq, beq_eq_false_iff_ne, bne_iff_ne, bne_eq_false_iff_eq, Bool.not_eq_true', Bool.not_eq_false', Int.not_lt, Int.not_le, ne_eq, reduceCtorEq, not_true_eq_false, not_false_eq_true, Decidable.not_not] at hc) <;> (try (exfalso; omega)) <;> (try refine W_norm rfl ?_))
              | refine W_skip ?_
              | refine W_block ?_
            )
            | refine seqK_n ?_)
          rename_i v1 c1 h6 ha1 v2 c2 h7 ha2 h8 h9
          obtain ⟨x, hx⟩ : ∃ x, classL (k : Int) f (MK.getD i []) [[(n : Int)]] [] = x := ⟨_, rfl⟩
          have hml1 : (MK.getD i []).length ≤ 100000 := by omega
          repeat' (first
            | (refine K_ops ?_; first
              | refine W_fastB rfl ?_
              | refine W_nil ?_
              | (refine K_call ?_; first
                | (refine W_callsN 9 rfl (w9 (k := (k : Int)) (r := 0) (f := f) (m := MK.getD i []) (tx := []) (P := [(v1, [(n : Int)])]) (ns1 (AccS.now ha2 hs (by simp)) (AccS.now ha1 hs (by simp))) (sh1 _ _) hml1 (fun _ => by simp)) rfl ?_; rintro _ h ⟨rfl, t⟩; rw [show classL (k : Int) f (MK.getD i []) (List.map Prod.snd [(v1, [(n : Int)])]) [] = x from hx]; unfold flowC; have hs := hs.call t; try simp only [cell_back, attr_back, List.set_cons_zero, List.set_cons_succ, List.eraseIdx_cons_succ, List.eraseIdx_zero, List.tail_cons, List.nil_append, List.cons_append] at hs; refine W_norm rfl ?_)
                | (refine W_callsN 15 rfl (w15 (k := (k : Int)) (r := 0) (f := f) (m := MK.getD i []) (tx := []) (P := [(v1, [(n : Int)])]) (ns1 (AccS.now ha2 hs (by simp)) (AccS.now ha1 hs (by simp))) (sh1 _ _) (fun _ => by simp)) rfl ?_; rintro _ h ⟨rfl, t⟩; rw [show classL (k : Int) f (MK.getD i []) (List.map Prod.snd [(v1, [(n : Int)])]) [] = x from hx]; unfold flowC; have hs := hs.call t; try simp only [cell_back, attr_back, List.set_cons_zero, List.set_cons_succ, List.eraseIdx_cons_succ, List.eraseIdx_zero, List.tail_cons, List.nil_append, List.cons_append] at hs; refine W_norm rfl ?_)
              )
              | (refine K_bin ?_; first
                | (refine W_add rfl rfl (IntWalk.i64_in _ (by first | omega | (simp only [List.length_set, List.length_append, List.length_take, List.length_drop, List.length_replicate, List.length_cons, List.length_nil, decs_length, List.length_map]; omega))) ?_; refine W_norm rfl ?_)
                | (refine W_neE flowE rfl rfl rfl rfl flowE_fits ?_; refine W_norm rfl ?_)
              )
              | (refine K_load ?_; first
                | (refine W_loadCA hs 0 rfl rfl rfl ?_; refine W_norm rfl ?_)
              )
            )
            | (refine K_code ?_; first
              | refine W_ops ?_
              | (refine W_cond rfl (fun hc => ?_) (fun hc => ?_) <;> (try rw [hc]) <;> (try simp only [decide_eq_true_eq, decide_eq_false_iff_not, beq_iff_eq, beq_eq_false_iff_ne, bne_iff_ne, bne_eq_false_iff_eq, Bool.not_eq_true', Bool.not_eq_false', Int.not_lt, Int.not_le, ne_eq, reduceCtorEq, not_true_eq_false, not_false_eq_true, Decidable.not_not] at hc) <;> (try (exfalso; omega)) <;> (try refine W_norm rfl ?_))
              | refine W_skip ?_
              | refine W_draws ?_
            )
            | refine W_dstep rfl ?_
            | refine ⟨rfl, fun rc hrec => ?_⟩
            | (refine W_dnilS (by simp only [List.reverse_cons, List.reverse_nil, List.nil_append, List.cons_append]; rfl) (by repeat' first | exact CL_nil _ _ | refine CL_skip rfl ?_ | refine CL_load (by assumption) rfl (by first | exact trivial | (repeat' first | exact trivial | refine ⟨⟨_, rfl, (by refine (congrArg (fun x => Heap.get x _) (RecIs.hh (by assumption))).trans ?_; first | rfl | exact PtR.same_get (by assumption) (by assumption) (by assumption) | exact Sep.same_get (by assumption) (by assumption) 0 0 rfl rfl | exact Sep.same_get (by assumption) (by assumption) 0 1 rfl rfl | exact Sep.same_get (by assumption) (by assumption) 0 2 rfl rfl | exact Sep.same_get (by assumption) (by assumption) 0 3 rfl rfl | exact Sep.same_get (by assumption) (by assumption) 0 4 rfl rfl | exact Sep.same_get (by assumption) (by assumption) 1 0 rfl rfl | exact Sep.same_get (by assumption) (by assumption) 1 1 rfl rfl | exact Sep.same_get (by assumption) (by assumption) 1 2 rfl rfl | exact Sep.same_get (by assumption) (by assumption) 1 3 rfl rfl | exact Sep.same_get (by assumption) (by assumption) 1 4 rfl rfl | exact Sep.same_get (by assumption) (by assumption) 2 0 rfl rfl | exact Sep.same_get (by assumption) (by assumption) 2 1 rfl rfl | exact Sep.same_get (by assumption) (by assumption) 2 2 rfl rfl | exact Sep.same_get (by assumption) (by assumption) 2 3 rfl rfl | exact Sep.same_get (by assumption) (by assumption) 2 4 rfl rfl | exact Sep.same_get (by assumption) (by assumption) 3 0 rfl rfl | exact Sep.same_get (by assumption) (by assumption) 3 1 rfl rfl | exact Sep.same_get (by assumption) (by assumption) 3 2 rfl rfl | exact Sep.same_get (by assumption) (by assumption) 3 3 rfl rfl | exact Sep.same_get (by assumption) (by assumption) 3 4 rfl rfl | exact Sep.same_get (by assumption) (by assumption) 4 0 rfl rfl | exact Sep.same_get (by assumption) (by assumption) 4 1 rfl rfl | exact Sep.same_get (by assumption) (by assumption) 4 2 rfl rfl | exact Sep.same_get (by assumption) (by assumption) 4 3 rfl rfl | exact Sep.same_get (by assumption) (by assumption) 4 4 rfl rfl)⟩, ?_⟩)) (by first | exact trivial | (repeat' first | exact trivial | refine ⟨⟨_, rfl, (by refine (congrArg (fun x => Heap.get x _) (RecIs.hh' (by assumption))).trans ?_; first | rfl | exact PtR.same_get (by assumption) (by assumption) (by assumption) | exact Sep.same_get (by assumption) (by assumption) 0 0 rfl rfl | exact Sep.same_get (by assumption) (by assumption) 0 1 rfl rfl | exact Sep.same_get (by assumption) (by assumption) 0 2 rfl rfl | exact Sep.same_get (by assumption) (by assumption) 0 3 rfl rfl | exact Sep.same_get (by assumption) (by assumption) 0 4 rfl rfl | exact Sep.same_get (by assumption) (by assumption) 1 0 rfl rfl | exact Sep.same_get (by assumption) (by assumption) 1 1 rfl rfl | exact Sep.same_get (by assumption) (by assumption) 1 2 rfl rfl | exact Sep.same_get (by assumption) (by assumption) 1 3 rfl rfl | exact Sep.same_get (by assumption) (by assumption) 1 4 rfl rfl | exact Sep.same_get (by assumption) (by assumption) 2 0 rfl rfl | exact Sep.same_get (by assumption) (by assumption) 2 1 rfl rfl | exact Sep.same_get (by assumption) (by assumption) 2 2 rfl rfl | exact Sep.same_get (by assumption) (by assumption) 2 3 rfl rfl | exact Sep.same_get (by assumption) (by assumption) 2 4 rfl rfl | exact Sep.same_get (by assumption) (by assumption) 3 0 rfl rfl | exact Sep.same_get (by assumption) (by assumption) 3 1 rfl rfl | exact Sep.same_get (by assumption) (by assumption) 3 2 rfl rfl | exact Sep.same_get (by assumption) (by assumption) 3 3 rfl rfl | exact Sep.same_get (by assumption) (by assumption) 3 4 rfl rfl | exact Sep.same_get (by assumption) (by assumption) 4 0 rfl rfl | exact Sep.same_get (by assumption) (by assumption) 4 1 rfl rfl | exact Sep.same_get (by assumption) (by assumption) 4 2 rfl rfl | exact Sep.same_get (by assumption) (by assumption) 4 3 rfl rfl | exact Sep.same_get (by assumption) (by assumption) 4 4 rfl rfl)⟩, ?_⟩)) ?_) ?_)
            | refine seqK_n ?_
            | refine blockK_n ?_
            | refine invK_n ?_)
          all_goals first
            | (refine ⟨_, ?_, _, ⟨n + 1, rfl, rfl, ?_, hs.no0⟩, EnvB.of rfl⟩ <;> omega)
            | exact absurd rfl hc
            | skip
        · repeat' (first
            | (refine K_ops ?_; first
              | refine W_fastB rfl ?_
              | refine W_nil ?_
              | (refine K_bin ?_; first
                | (refine W_add rfl rfl (IntWalk.i64_in _ (by first | omega | (simp only [List.length_set, List.length_append, List.length_take, List.length_drop, List.length_replicate, List.length_cons, List.length_nil, decs_length, List.length_map]; omega))) ?_; refine W_norm rfl ?_)
              )
            )
            | (refine K_code ?_; first
              | refine W_seq ?_
              | refine W_ops ?_
              | (refine W_cond rfl (fun hc => ?_) (fun hc => ?_) <;> (try rw [hc]) <;> (try simp only [decide_eq_true_eq, decide_eq_false_iff_not, beq_iff_eq, beq_eq_false_iff_ne, bne_iff_ne, bne_eq_false_iff_eq, Bool.not_eq_true', Bool.not_eq_false', Int.not_lt, Int.not_le, ne_eq, reduceCtorEq, not_true_eq_false, not_false_eq_true, Decidable.not_not] at hc) <;> (try (exfalso; omega)) <;> (try refine W_norm rfl ?_))
              | refine W_exit ?_
            )
            | refine seqK_n ?_
            | refine seqK_x ?_
            | refine blockK_n ?_
            | refine blockK_e ?_
            | refine invK_x ?_
            | refine invK_n ?_)
          refine ⟨_, ?_, _, ⟨k + 1, rfl, rfl, ?_, hs⟩, EnvB.of rfl⟩ <;> omega
      · repeat' (first
          | (refine K_ops ?_; first
            | refine W_fastB rfl ?_
            | refine W_nil ?_
            | (refine K_bin ?_; first
              | (refine W_add rfl rfl (IntWalk.i64_in _ (by first | omega | (simp only [List.length_set, List.length_append, List.length_take, List.length_drop, List.length_replicate, List.length_cons, List.length_nil, decs_length, List.length_map]; omega))) ?_; refine W_norm rfl ?_)
            )
          )
          | (refine K_code ?_; first
            | refine W_seq ?_
            | refine W_ops ?_
            | (refine W_cond rfl (fun hc => ?_) (fun hc => ?_) <;> (try rw [hc]) <;> (try simp only [decide_eq_true_eq, decide_eq_false_iff_not, beq_iff_eq, beq_eq_false_iff_ne, bne_iff_ne, bne_eq_false_iff_eq, Bool.not_eq_true', Bool.not_eq_false', Int.not_lt, Int.not_le, ne_eq, reduceCtorEq, not_true_eq_false, not_false_eq_true, Decidable.not_not] at hc) <;> (try (exfalso; omega)) <;> (try refine W_norm rfl ?_))
            | refine W_exit ?_
          )
          | refine seqK_n ?_
          | refine seqK_x ?_
          | refine blockK_n ?_
          | refine blockK_e ?_
          | refine invK_x ?_
          | refine invK_n ?_)
        refine ⟨_, ?_, _, ⟨j + 1, rfl, rfl, ?_, hs⟩, EnvB.of rfl⟩ <;> omega
    · repeat' (first
        | (refine K_ops ?_; first
          | refine W_fastB rfl ?_
          | refine W_nil ?_
          | (refine K_bin ?_; first
            | (refine W_add rfl rfl (IntWalk.i64_in _ (by first | omega | (simp only [List.length_set, List.length_append, List.length_take, List.length_drop, List.length_replicate, List.length_cons, List.length_nil, decs_length, List.length_map]; omega))) ?_; refine W_norm rfl ?_)
          )
        )
        | (refine K_code ?_; first
          | refine W_seq ?_
          | refine W_ops ?_
          | (refine W_cond rfl (fun hc => ?_) (fun hc => ?_) <;> (try rw [hc]) <;> (try simp only [decide_eq_true_eq, decide_eq_false_iff_not, beq_iff_eq, beq_eq_false_iff_ne, bne_iff_ne, bne_eq_false_iff_eq, Bool.not_eq_true', Bool.not_eq_false', Int.not_lt, Int.not_le, ne_eq, reduceCtorEq, not_true_eq_false, not_false_eq_true, Decidable.not_not] at hc) <;> (try (exfalso; omega)) <;> (try refine W_norm rfl ?_))
          | refine W_exit ?_
        )
        | refine seqK_n ?_
        | refine seqK_x ?_
        | refine blockK_n ?_
        | refine blockK_e ?_
        | refine invK_x ?_
        | refine invK_n ?_)
      refine ⟨_, ?_, _, ⟨i + 1, rfl, rfl, ?_, hs⟩, EnvB.of rfl⟩ <;> omega
  · repeat' (first
      | (refine K_ops ?_; first
        | refine W_fastB rfl ?_
        | refine W_nil ?_
        | (refine K_guard ?_; first
          | refine W_guard_on rfl ?_
        )
        | (refine K_call ?_; first
          | (refine W_callsN 8 rfl (w8k _) rfl ?_; rintro _ h ⟨rfl, rfl⟩; refine W_norm rfl ?_)
          | (refine W_callsN 16 rfl (w16 (f := 99) (m := []) (P := []) ns0 sh0 (by decide) _ e1) rfl ?_; rintro _ h ⟨rfl, t⟩; unfold flowC; replace hs := hs.call t; try simp only [cell_back, attr_back, List.set_cons_zero, List.set_cons_succ, List.eraseIdx_cons_succ, List.eraseIdx_zero, List.tail_cons, List.nil_append, List.cons_append] at hs; refine W_norm rfl ?_)
          | (refine W_callsN 16 rfl (w16 (f := 99) (m := [62]) (P := []) ns0 sh0 (by decide) _ e3) rfl ?_; rintro _ h ⟨rfl, t⟩; unfold flowC; replace hs := hs.call t; try simp only [cell_back, attr_back, List.set_cons_zero, List.set_cons_succ, List.eraseIdx_cons_succ, List.eraseIdx_zero, List.tail_cons, List.nil_append, List.cons_append] at hs; refine W_norm rfl ?_)
          | (refine W_callsN 16 rfl (w16 (f := 99) (m := []) (ns1 (AccS.now (by assumption) hs (by simp)) (AccS.now (by assumption) hs (by simp))) (sh1 _ _) (by decide) _ e2) rfl ?_; rintro _ h ⟨rfl, t⟩; unfold flowC; replace hs := hs.call t; try simp only [cell_back, attr_back, List.set_cons_zero, List.set_cons_succ, List.eraseIdx_cons_succ, List.eraseIdx_zero, List.tail_cons, List.nil_append, List.cons_append] at hs; refine W_norm rfl ?_)
          | (refine W_callsN 16 rfl (w16 (f := 104) (m := [63]) (ns2 (AccS.now (by assumption) hs (by simp)) (AccS.now (by assumption) hs (by simp)) (AccS.now (by assumption) hs (by simp))) (sh2 _ _ _ _) (by decide) _ e4) rfl ?_; rintro _ h ⟨rfl, t⟩; unfold flowC; replace hs := hs.call t; try simp only [cell_back, attr_back, List.set_cons_zero, List.set_cons_succ, List.eraseIdx_cons_succ, List.eraseIdx_zero, List.tail_cons, List.nil_append, List.cons_append] at hs; refine W_norm rfl ?_)
          | (refine W_callsN 14 rfl (w14x (tx := [53, 50, 59, 99, 59, 63]) (by decide) _ s1) rfl ?_; rintro _ h ⟨rfl, t⟩; unfold flowC; replace hs := hs.call t; try simp only [cell_back, attr_back, List.set_cons_zero, List.set_cons_succ, List.eraseIdx_cons_succ, List.eraseIdx_zero, List.tail_cons, List.nil_append, List.cons_append] at hs; refine W_norm rfl ?_)
          | (refine W_callsN 14 rfl (w14x (tx := [53, 50, 59, 99, 59, 97, 71, 107]) (by decide) _ s2) rfl ?_; rintro _ h ⟨rfl, t⟩; unfold flowC; replace hs := hs.call t; try simp only [cell_back, attr_back, List.set_cons_zero, List.set_cons_succ, List.eraseIdx_cons_succ, List.eraseIdx_zero, List.tail_cons, List.nil_append, List.cons_append] at hs; refine W_norm rfl ?_)
          | (refine W_callsN 14 rfl (w14x (tx := [52, 59, 49, 59, 63]) (by decide) _ s3) rfl ?_; rintro _ h ⟨rfl, t⟩; unfold flowC; replace hs := hs.call t; try simp only [cell_back, attr_back, List.set_cons_zero, List.set_cons_succ, List.eraseIdx_cons_succ, List.eraseIdx_zero, List.tail_cons, List.nil_append, List.cons_append] at hs; refine W_norm rfl ?_)
          | (refine W_callsN 14 rfl (w14x (tx := [53, 50, 59, 99, 59]) (by decide) _ s4) rfl ?_; rintro _ h ⟨rfl, t⟩; unfold flowC; replace hs := hs.call t; try simp only [cell_back, attr_back, List.set_cons_zero, List.set_cons_succ, List.eraseIdx_cons_succ, List.eraseIdx_zero, List.tail_cons, List.nil_append, List.cons_append] at hs; refine W_norm rfl ?_)
          | (refine W_callsN 14 rfl (w14x (tx := [48, 59]) (by decide) _ s5) rfl ?_; rintro _ h ⟨rfl, t⟩; unfold flowC; replace hs := hs.call t; try simp only [cell_back, attr_back, List.set_cons_zero, List.set_cons_succ, List.eraseIdx_cons_succ, List.eraseIdx_zero, List.tail_cons, List.nil_append, List.cons_append] at hs; refine W_norm rfl ?_)
          | (refine W_callsN 14 rfl (w14x (tx := [48]) (by decide) _ s6) rfl ?_; rintro _ h ⟨rfl, t⟩; unfold flowC; replace hs := hs.call t; try simp only [cell_back, attr_back, List.set_cons_zero, List.set_cons_succ, List.eraseIdx_cons_succ, List.eraseIdx_zero, List.tail_cons, List.nil_append, List.cons_append] at hs; refine W_norm rfl ?_)
        )
        | (refine W_lenL rfl (by first | assumption | exact SlR.ln (by assumption) | exact AccS.ln (by assumption) | exact OwnS.ln (by assumption) | exact VwO.ln (by assumption) | exact OwnP.ln (by assumption) | exact Len.sl) ?_; refine W_norm rfl ?_)
        | (refine K_pick ?_; first
          | refine W_pick_t rfl rfl (W_norm rfl ?_)
        )
        | (refine K_bslice ?_; first
          | (refine W_buildS1 (intEl .i64) hs rfl rfl ?_; clear hs; intro _ _ _ _ hs; try simp only [cell_back, attr_back, List.set_cons_zero, List.set_cons_succ, List.eraseIdx_cons_succ, List.eraseIdx_zero, List.tail_cons, List.nil_append, List.cons_append] at hs; refine W_norm rfl ?_)
          | (refine W_buildS1 svEl hs rfl rfl ?_; clear hs; intro _ _ _ _ hs; try simp only [cell_back, attr_back, List.set_cons_zero, List.set_cons_succ, List.eraseIdx_cons_succ, List.eraseIdx_zero, List.tail_cons, List.nil_append, List.cons_append] at hs; refine W_norm rfl ?_)
          | (refine W_buildS2 svEl hs rfl rfl ?_; clear hs; intro _ _ _ _ hs; try simp only [cell_back, attr_back, List.set_cons_zero, List.set_cons_succ, List.eraseIdx_cons_succ, List.eraseIdx_zero, List.tail_cons, List.nil_append, List.cons_append] at hs; refine W_norm rfl ?_)
        )
      )
      | (refine K_code ?_; first
        | refine W_seq ?_
        | refine W_ops ?_
        | (refine W_cond rfl (fun hc => ?_) (fun hc => ?_) <;> (try rw [hc]) <;> (try simp only [decide_eq_true_eq, decide_eq_false_iff_not, beq_iff_eq, beq_eq_false_iff_ne, bne_iff_ne, bne_eq_false_iff_eq, Bool.not_eq_true', Bool.not_eq_false', Int.not_lt, Int.not_le, ne_eq, reduceCtorEq, not_true_eq_false, not_false_eq_true, Decidable.not_not] at hc) <;> (try (exfalso; omega)) <;> (try refine W_norm rfl ?_))
        | refine W_ret ?_
        | refine W_exit ?_
      )
      | refine seqK_n ?_
      | refine seqK_x ?_
      | refine blockK_e ?_
      | refine invK_x ?_
      | (refine fnK_r rfl ?_; try dsimp only [gd_z, gd_s]))
    all_goals first
      | exact ⟨_, rfl, rfl⟩
      | exact absurd rfl hc
      | skip
theorem gateKnown_w : W DD (.call 5 [] (HL Tryd.prog.globals.size jxLs)) (fun _ vs _ => vs = [.sc (.bool true)]) :=
  w5.mono fun _ _ _ ⟨v, hv, h3⟩ => by rw [hv, h3]
end Go.Proofs.YtggkbkbhegcbkaaDoor
