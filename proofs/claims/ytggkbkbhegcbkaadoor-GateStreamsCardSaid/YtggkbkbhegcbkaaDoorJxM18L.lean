import Derived.Test.YtggkbkbhegcbkaaDoorJxM18H
/- The gate: the document's Classify, walked. CONTRA -/
set_option linter.unusedSimpArgs false
set_option linter.unusedVariables false
set_option maxHeartbeats 1000000
set_option maxRecDepth 100000
namespace Go.Proofs.YtggkbkbhegcbkaaDoor
open Go Go.Jx

theorem decL_small {s : List UInt8} : ((decL s).getD []).length ≤ s.length := by
  unfold decL
  split
  · simp
  · cases h : decG s with
    | none => simp
    | some o => exact decL_len _ s o (Nat.le_refl _) h
theorem w31 {tx : List UInt8} {h0 : Heap} (ht : tx.length ≤ 15000) : Wc DD 31 [.sc (.str tx)] h0 fun v h' => v = .agg (flowC (sysL tx)) ∧ Sep (Now h0) [] h' := by
  have hs := Sep.entry h0
  rw [sys_all]
  refine W_enter d31 ?_
  show W _ (.code m31_code [.sc (.str tx), undefA, undefA, undefA, undefA, undefA, undefA, undefA, undefA, undefA, undefA, undefA, undefA, undefA, undefA, undefA, undefA, undefA, undefA, undefA, undefA, undefA, undefA, undefA, undefA, undefA, undefA, undefA, undefA, undefA, undefA, undefA, undefA, undefA, undefA, undefA, undefA, undefA, undefA, undefA, undefA, undefA, undefA, undefA, undefA, undefA, undefA, undefA, undefA, undefA, undefA, undefA, undefA, undefA, undefA, undefA, undefA, undefA, undefA, undefA, undefA, undefA, undefA, undefA] _) _
  unfold m31_code
  by_cases h2 : 1 < tx.length ∧ (tx.take 2 = [48, 59] ∨ tx.take 2 = [50, 59])
  · rw [if_pos h2]
    obtain ⟨h2a, h2b⟩ := h2
    repeat' (first
      | (refine K_ops ?_; first
        | refine W_fastB rfl ?_
        | refine W_nil ?_
        | (refine K_guard ?_; first
          | refine W_guard_on rfl ?_
          | refine W_guard_off rfl rfl (W_norm rfl ?_)
          | (refine W_guardT rfl (fun hc => ?_) (fun hc => ?_) <;> (try rw [hc]) <;> (try simp only [cleanS, reduceCtorEq] at hc) <;> (try (exfalso; omega)) <;> (try contradiction) <;> (try refine W_norm rfl ?_))
          | (refine W_guardF rfl (fun hc => ?_) (fun hc => ?_) <;> (try rw [hc]) <;> (try simp only [cleanS, reduceCtorEq] at hc) <;> (try (exfalso; omega)) <;> (try contradiction) <;> (try refine W_norm rfl ?_))
        )
        | (refine K_call ?_; first
          | (refine W_callsN 19 rfl (w19 (s := tx.drop 2) (by rw [List.length_drop]; omega)) rfl ?_; rintro _ h ⟨rfl, t⟩; replace hs := hs.call t; try simp only [setS] at hs; refine W_norm rfl ?_)
        )
        | (refine K_pick ?_; first
          | refine W_pick_t rfl rfl (W_norm rfl ?_)
          | refine W_pick_f rfl rfl (W_norm rfl ?_)
        )
        | (refine K_store ?_; first
          | (refine W_storeC hs 0 rfl rfl rfl rfl (by first | decide | assumption) rfl rfl ?_; clear hs; intro _ hs; try simp only [setS] at hs; refine W_norm rfl ?_)
        )
        | (refine W_allocS hs ?_; clear hs; intro al _ hs; try simp only [setS] at hs; refine W_norm rfl ?_)
        | (refine W_buildN rfl ?_; refine W_norm rfl ?_)
        | (refine W_sliceStrTo rfl rfl ⟨(by first | omega | (simp only [lenS]; omega)), (by first | omega | (simp only [lenS]; omega))⟩ ?_; refine W_norm rfl ?_)
        | (refine W_sliceStrFrom rfl rfl ⟨(by first | omega | (simp only [lenS]; omega)), (by first | omega | (simp only [lenS]; omega))⟩ ?_; refine W_norm rfl ?_)
      )
      | (refine K_code ?_; first
        | refine W_seq ?_
        | refine W_ops ?_
        | refine W_cond_t rfl ?_
        | refine W_cond_f rfl ?_
        | (refine W_cond rfl (fun hc => ?_) (fun hc => ?_) <;> (try rw [hc]) <;> (try simp only [cleanS, reduceCtorEq] at hc) <;> (try (exfalso; omega)) <;> (try contradiction) <;> (try refine W_norm rfl ?_))
        | refine W_skip ?_
        | refine W_ret ?_
        | refine W_block ?_
      )
      | refine seqK_n ?_
      | refine seqK_r ?_
      | (refine fnK_cellS hs 0 rfl rfl rfl rfl ?_))
    all_goals first
      | exact ⟨_, rfl, rfl, hs.none⟩
      | (exfalso; rcases h2b with h | h <;> contradiction)
      | skip
  rw [if_neg h2]
  by_cases h3 : 3 < tx.length ∧ tx.take 3 = [53, 50, 59]
  · rw [if_pos h3]
    obtain ⟨h3a, h3b⟩ := h3
    have n1 : ¬ tx.take (2 : Int).toNat = [48, 59] := fun h => h2 ⟨by omega, .inl h⟩
    have n2 : ¬ tx.take (2 : Int).toNat = [50, 59] := fun h => h2 ⟨by omega, .inr h⟩
    have n3 : tx.take (3 : Int).toNat = [53, 50, 59] := h3b
    repeat' (first
      | (refine K_ops ?_; first
        | refine W_fastB rfl ?_
        | refine W_nil ?_
        | (refine K_guard ?_; first
          | refine W_guard_on rfl ?_
          | (refine W_guardT rfl (fun hc => ?_) (fun hc => ?_) <;> (try rw [hc]) <;> (try simp only [cleanS, reduceCtorEq] at hc) <;> (try (exfalso; omega)) <;> (try contradiction) <;> (try refine W_norm rfl ?_))
          | (refine W_guardF rfl (fun hc => ?_) (fun hc => ?_) <;> (try rw [hc]) <;> (try simp only [cleanS, reduceCtorEq] at hc) <;> (try (exfalso; omega)) <;> (try contradiction) <;> (try refine W_norm rfl ?_))
        )
        | (refine K_pick ?_; first
          | refine W_pick_t rfl rfl (W_norm rfl ?_)
          | refine W_pick_f rfl rfl (W_norm rfl ?_)
        )
        | (refine W_allocS hs ?_; clear hs; intro al _ hs; try simp only [setS] at hs; refine W_norm rfl ?_)
        | (refine W_sliceStrTo rfl rfl ⟨(by first | omega | (simp only [lenS]; omega)), (by first | omega | (simp only [lenS]; omega))⟩ ?_; refine W_norm rfl ?_)
      )
      | (refine K_code ?_; first
        | refine W_seq ?_
        | refine W_ops ?_
        | (refine W_cond rfl (fun hc => ?_) (fun hc => ?_) <;> (try rw [hc]) <;> (try simp only [cleanS, reduceCtorEq] at hc) <;> (try (exfalso; omega)) <;> (try contradiction) <;> (try refine W_norm rfl ?_))
        | refine W_skip ?_
        | refine W_block ?_
      )
      | refine seqK_n ?_)
    obtain ⟨rr, hrr⟩ : ∃ rr, rr = tx.drop 3 := ⟨_, rfl⟩
    have hrl : rr.length = tx.length - 3 := by rw [hrr, List.length_drop]
    have hrg : ∀ j, rr.getD j 0 = tx.getD (3 + j) 0 := by
      intro j
      rw [hrr, List.getD_eq_getElem?_getD, List.getElem?_drop, ← List.getD_eq_getElem?_getD]
    rw [← hrr]
    refine W_loopB [3, 4, 5, 6, 32, 33, 34, 35, 36, 37, 38, 39, 40, 41, 42, 43, 44, 45, 46, 47, 48, 49, 50, 51, 52, 53, 54, 55, 56, 57, 58, 59, 60, 61, 62] [0, 1, 2, 3, 4, 5, 6, 7, 8, 9, 10, 11, 12, 13, 14, 15, 16, 17, 18, 19, 20, 21, 22, 23, 24, 25, 26, 27, 28, 29, 30, 31, 32, 33, 34, 35, 36, 37, 38, 39, 40, 41, 42, 43, 44, 45, 46, 47, 48, 49, 50, 51, 52, 53, 54, 55, 56, 57, 58, 59, 60, 61, 62, 63] (fun n' sl h' => ∃ (i : Nat), sl = [(3, i64 (3 + (i : Int)))] ∧ n' = rr.length - i ∧ i ≤ rr.length ∧ (∀ j, j < i → rr.getD j 0 ≠ 59) ∧ Sep (Now h0) [[(al, .cells 40 .own [.int .i64 0, .int .i64 0, .str []])]] h') ?_ ?_
    · refine ⟨_, _, ⟨0, rfl, rfl, by omega, (fun j hj => by omega), hs⟩, EnvB.of rfl⟩
    clear hs
    rintro _ _ us _ h5 ⟨i, rfl, rfl, hi, hz, hs⟩ he
    refine W_spell he rfl ?_
    clear he
    unfold m31_l5
    by_cases hlt : i < rr.length
    · have hin : ((3 : Int) + (i : Int)).toNat = 3 + i := by omega
      by_cases hx : rr.getD i 0 = 59
      · have hcut := cutL_at hlt hx hz
        have hdd : tx.drop ((3 : Int) + (i : Int) + 1).toNat = rr.drop (i + 1) := by
          rw [hrr, List.drop_drop, show ((3 : Int) + (i : Int) + 1).toNat = 3 + (i + 1) by omega]
        have hx' : tx.getD ((3 : Int) + (i : Int)).toNat 0 = 59 := by rw [hin, ← hrg]; exact hx
        have hx'' : ((tx.getD ((3 : Int) + (i : Int)).toNat 0).toNat : Int) = 59 := by rw [hx']; rfl
        have hsD : sysD rr = if rr.drop (i + 1) = [63] then (5, 0, []) else if (decL (rr.drop (i + 1))).isSome = true ∧ ((decL (rr.drop (i + 1))).getD []).length ≤ 4096 then (4, 0, (decL (rr.drop (i + 1))).getD []) else (7, 0, []) := by
          unfold sysD
          rw [hcut]
          simp only [true_and]
        rw [hsD]
        have hds := dec_same (rr.drop (i + 1))
        have hdl : (rr.drop (i + 1)).length ≤ 15000 := by rw [List.length_drop]; omega
        repeat' (first
          | (refine K_ops ?_; first
            | refine W_fastB rfl ?_
            | refine W_nil ?_
            | (refine W_sliceStrFrom rfl rfl ⟨by omega, by omega⟩ ?_; rw [hdd]; refine W_norm rfl ?_)
            | (refine K_guard ?_; first
              | refine W_guard_on rfl ?_
              | refine W_guard_off rfl rfl (W_norm rfl ?_)
              | (refine W_guardT rfl (fun hc => ?_) (fun hc => ?_) <;> (try rw [hc]) <;> (try simp only [cleanS, reduceCtorEq] at hc) <;> (try (exfalso; omega)) <;> (try contradiction) <;> (try refine W_norm rfl ?_))
            )
            | (refine K_call ?_; first
              | (refine W_callsN 18 rfl (w18 (s := rr.drop (i + 1)) (by omega)) rfl ?_; rintro _ h ⟨rfl, t⟩; rw [hds]; replace hs := hs.call t; try simp only [setS] at hs; refine W_norm rfl ?_)
            )
            | (refine K_bin ?_; first
              | (refine W_add rfl rfl (IntWalk.i64_in _ (by first | omega | (simp only [lenS]; omega))) ?_; refine W_norm rfl ?_)
            )
            | (refine K_pick ?_; first
              | refine W_pick_t rfl rfl (W_norm rfl ?_)
              | refine W_pick_f rfl rfl (W_norm rfl ?_)
            )
            | (refine K_store ?_; first
              | (refine W_storeC hs 0 rfl rfl rfl rfl (by first | decide | assumption) rfl rfl ?_; clear hs; intro _ hs; try simp only [setS] at hs; refine W_norm rfl ?_)
            )
            | (refine W_buildN rfl ?_; refine W_norm rfl ?_)
            | (refine W_idxStr rfl rfl ⟨(by first | omega | (simp only [lenS]; omega)), (by first | omega | (simp only [lenS]; omega))⟩ ?_; refine W_norm rfl ?_)
          )
          | (refine K_code ?_; first
            | refine W_seq ?_
            | refine W_ops ?_
            | refine W_cond_f rfl ?_
            | (refine W_cond rfl (fun hc => ?_) (fun hc => ?_) <;> (try rw [hc]) <;> (try simp only [cleanS, reduceCtorEq] at hc) <;> (try (exfalso; omega)) <;> (try contradiction) <;> (try refine W_norm rfl ?_))
            | refine W_skip ?_
            | refine W_ret ?_
            | refine W_block ?_
          )
          | refine seqK_n ?_
          | refine seqK_r ?_
          | refine blockK_r ?_
          | refine invK_r ?_
          | (refine fnK_cellS hs 0 rfl rfl rfl rfl ?_))
        all_goals
          refine ⟨_, rfl, ?_, hs.none⟩
          refine congrArg AV.agg ?_
          clear hs
          first
            | (simp [flowC, *]; done)
            | (simp [flowC, *]; omega)
            | grind [flowC]
            | skip
      · have hx' : tx.getD ((3 : Int) + (i : Int)).toNat 0 ≠ 59 := by rw [hin, ← hrg]; exact hx
        have hx'' : ¬ ((tx.getD ((3 : Int) + (i : Int)).toNat 0).toNat : Int) = 59 := by
          intro hh; exact hx' (UInt8.toNat_inj.1 (by show _ = 59; omega))
        repeat' (first
          | (refine K_ops ?_; first
            | refine W_fastB rfl ?_
            | refine W_nil ?_
            | (refine K_bin ?_; first
              | (refine W_add rfl rfl (IntWalk.i64_in _ (by first | omega | (simp only [lenS]; omega))) ?_; refine W_norm rfl ?_)
            )
            | (refine W_idxStr rfl rfl ⟨(by first | omega | (simp only [lenS]; omega)), (by first | omega | (simp only [lenS]; omega))⟩ ?_; refine W_norm rfl ?_)
          )
          | (refine K_code ?_; first
            | refine W_seq ?_
            | refine W_ops ?_
            | (refine W_cond rfl (fun hc => ?_) (fun hc => ?_) <;> (try rw [hc]) <;> (try simp only [cleanS, reduceCtorEq] at hc) <;> (try (exfalso; omega)) <;> (try contradiction) <;> (try refine W_norm rfl ?_))
            | refine W_skip ?_
            | refine W_exit ?_
            | refine W_block ?_
          )
          | refine seqK_n ?_
          | refine seqK_x ?_
          | refine blockK_e ?_
          | refine invK_n ?_)
        rw [show (3 : Int) + (i : Int) + 1 = 3 + ((i + 1 : Nat) : Int) by omega]
        refine ⟨_, ?_, _, ⟨i + 1, rfl, rfl, ?_, ?_, hs⟩, EnvB.of rfl⟩
        · omega
        · omega
        · intro j hj
          rcases Nat.lt_or_ge j i with h1 | h1
          · exact hz j h1
          · obtain rfl : j = i := by omega
            exact hx
    · obtain rfl : i = rr.length := by omega
      have hsD : sysD rr = (7, 0, []) := by unfold sysD; rw [cutL_no hz]; rfl
      rw [hsD]
      repeat' (first
        | (refine K_ops ?_; first
          | refine W_fastB rfl ?_
          | refine W_nil ?_
          | (refine K_store ?_; first
            | (refine W_storeC hs 0 rfl rfl rfl rfl (by first | decide | assumption) rfl rfl ?_; clear hs; intro _ hs; try simp only [setS] at hs; refine W_norm rfl ?_)
          )
          | (refine W_buildN rfl ?_; refine W_norm rfl ?_)
        )
        | (refine K_code ?_; first
          | refine W_seq ?_
          | refine W_ops ?_
          | (refine W_cond rfl (fun hc => ?_) (fun hc => ?_) <;> (try rw [hc]) <;> (try simp only [cleanS, reduceCtorEq] at hc) <;> (try (exfalso; omega)) <;> (try contradiction) <;> (try refine W_norm rfl ?_))
          | refine W_ret ?_
          | refine W_exit ?_
        )
        | refine seqK_n ?_
        | refine seqK_x ?_
        | refine blockK_e ?_
        | refine invK_x ?_
        | (refine fnK_cellS hs 0 rfl rfl rfl rfl ?_))
      exact ⟨_, rfl, rfl, hs.none⟩
  · rw [if_neg h3]
    by_cases h1 : 1 < tx.length
    · have n1 : ¬ tx.take (2 : Int).toNat = [48, 59] := fun h => h2 ⟨h1, .inl h⟩
      have n2 : ¬ tx.take (2 : Int).toNat = [50, 59] := fun h => h2 ⟨h1, .inr h⟩
      by_cases hl3 : 3 < tx.length
      · have n3 : ¬ tx.take (3 : Int).toNat = [53, 50, 59] := fun h => h3 ⟨hl3, h⟩
        repeat' (first
          | (refine K_ops ?_; first
            | refine W_fastB rfl ?_
            | refine W_nil ?_
            | (refine K_guard ?_; first
              | refine W_guard_on rfl ?_
              | (refine W_guardT rfl (fun hc => ?_) (fun hc => ?_) <;> (try rw [hc]) <;> (try simp only [cleanS, reduceCtorEq] at hc) <;> (try (exfalso; omega)) <;> (try contradiction) <;> (try refine W_norm rfl ?_))
              | (refine W_guardF rfl (fun hc => ?_) (fun hc => ?_) <;> (try rw [hc]) <;> (try simp only [cleanS, reduceCtorEq] at hc) <;> (try (exfalso; omega)) <;> (try contradiction) <;> (try refine W_norm rfl ?_))
            )
            | (refine K_pick ?_; first
              | refine W_pick_t rfl rfl (W_norm rfl ?_)
              | refine W_pick_f rfl rfl (W_norm rfl ?_)
            )
            | (refine K_store ?_; first
              | (refine W_storeC hs 0 rfl rfl rfl rfl (by first | decide | assumption) rfl rfl ?_; clear hs; intro _ hs; try simp only [setS] at hs; refine W_norm rfl ?_)
            )
            | (refine W_allocS hs ?_; clear hs; intro al _ hs; try simp only [setS] at hs; refine W_norm rfl ?_)
            | (refine W_buildN rfl ?_; refine W_norm rfl ?_)
            | (refine W_sliceStrTo rfl rfl ⟨(by first | omega | (simp only [lenS]; omega)), (by first | omega | (simp only [lenS]; omega))⟩ ?_; refine W_norm rfl ?_)
          )
          | (refine K_code ?_; first
            | refine W_seq ?_
            | refine W_ops ?_
            | (refine W_cond rfl (fun hc => ?_) (fun hc => ?_) <;> (try rw [hc]) <;> (try simp only [cleanS, reduceCtorEq] at hc) <;> (try (exfalso; omega)) <;> (try contradiction) <;> (try refine W_norm rfl ?_))
            | refine W_skip ?_
            | refine W_ret ?_
          )
          | refine seqK_n ?_
          | (refine fnK_cellS hs 0 rfl rfl rfl rfl ?_))
        all_goals exact ⟨_, rfl, rfl, hs.none⟩
      · repeat' (first
          | (refine K_ops ?_; first
            | refine W_fastB rfl ?_
            | refine W_nil ?_
            | (refine K_guard ?_; first
              | refine W_guard_on rfl ?_
              | refine W_guard_off rfl rfl (W_norm rfl ?_)
              | (refine W_guardT rfl (fun hc => ?_) (fun hc => ?_) <;> (try rw [hc]) <;> (try simp only [cleanS, reduceCtorEq] at hc) <;> (try (exfalso; omega)) <;> (try contradiction) <;> (try refine W_norm rfl ?_))
              | (refine W_guardF rfl (fun hc => ?_) (fun hc => ?_) <;> (try rw [hc]) <;> (try simp only [cleanS, reduceCtorEq] at hc) <;> (try (exfalso; omega)) <;> (try contradiction) <;> (try refine W_norm rfl ?_))
            )
            | (refine K_pick ?_; first
              | refine W_pick_t rfl rfl (W_norm rfl ?_)
              | refine W_pick_f rfl rfl (W_norm rfl ?_)
            )
            | (refine K_store ?_; first
              | (refine W_storeC hs 0 rfl rfl rfl rfl (by first | decide | assumption) rfl rfl ?_; clear hs; intro _ hs; try simp only [setS] at hs; refine W_norm rfl ?_)
            )
            | (refine W_allocS hs ?_; clear hs; intro al _ hs; try simp only [setS] at hs; refine W_norm rfl ?_)
            | (refine W_buildN rfl ?_; refine W_norm rfl ?_)
            | (refine W_sliceStrTo rfl rfl ⟨(by first | omega | (simp only [lenS]; omega)), (by first | omega | (simp only [lenS]; omega))⟩ ?_; refine W_norm rfl ?_)
          )
          | (refine K_code ?_; first
            | refine W_seq ?_
            | refine W_ops ?_
            | refine W_cond_f rfl ?_
            | (refine W_cond rfl (fun hc => ?_) (fun hc => ?_) <;> (try rw [hc]) <;> (try simp only [cleanS, reduceCtorEq] at hc) <;> (try (exfalso; omega)) <;> (try contradiction) <;> (try refine W_norm rfl ?_))
            | refine W_skip ?_
            | refine W_ret ?_
          )
          | refine seqK_n ?_
          | (refine fnK_cellS hs 0 rfl rfl rfl rfl ?_))
        all_goals exact ⟨_, rfl, rfl, hs.none⟩
    · repeat' (first
        | (refine K_ops ?_; first
          | refine W_fastB rfl ?_
          | refine W_nil ?_
          | (refine K_guard ?_; first
            | refine W_guard_off rfl rfl (W_norm rfl ?_)
            | refine W_guard_u rfl (W_norm rfl ?_)
            | (refine W_guardT rfl (fun hc => ?_) (fun hc => ?_) <;> (try rw [hc]) <;> (try simp only [cleanS, reduceCtorEq] at hc) <;> (try (exfalso; omega)) <;> (try contradiction) <;> (try refine W_norm rfl ?_))
          )
          | (refine K_pick ?_; first
            | refine W_pick_f rfl rfl (W_norm rfl ?_)
          )
          | (refine K_store ?_; first
            | (refine W_storeC hs 0 rfl rfl rfl rfl (by first | decide | assumption) rfl rfl ?_; clear hs; intro _ hs; try simp only [setS] at hs; refine W_norm rfl ?_)
          )
          | (refine W_allocS hs ?_; clear hs; intro al _ hs; try simp only [setS] at hs; refine W_norm rfl ?_)
          | (refine W_buildN rfl ?_; refine W_norm rfl ?_)
        )
        | (refine K_code ?_; first
          | refine W_seq ?_
          | refine W_ops ?_
          | refine W_cond_f rfl ?_
          | refine W_skip ?_
          | refine W_ret ?_
        )
        | refine seqK_n ?_
        | (refine fnK_cellS hs 0 rfl rfl rfl rfl ?_))
      all_goals exact ⟨_, rfl, rfl, hs.none⟩
theorem w15 {k r : Int} {f : UInt8} {m tx : List UInt8} {p : SV} {P : List (SV × List Int)} {h0 : Heap} (hp : NsR (intEl .i64) (Now h0) p P) (hl : Short P) (ht : k = 5 → tx.length ≤ 15000) :
    Wc DD 15 [evA k r f m p tx] h0 fun v h' => v = .agg (flowC (classL k f m (P.map Prod.snd) tx)) ∧ Sep (Now h0) [] h' := by
  have hs := Sep.entry h0
  have hfl := f.toNat_lt
  have hcl : classL k f m (P.map Prod.snd) tx = if k = 1 then (1, 0, []) else if k = 2 then (if (f.toNat : Int) = 7 then (3, 0, []) else if 8 ≤ (f.toNat : Int) ∧ (f.toNat : Int) ≤ 13 then (1, 0, []) else (7, 0, []))
      else if k = 3 then (if (m = [] ∧ inL f lettersE = true) ∨ (m = [35] ∧ (f.toNat : Int) = 56) then (1, 0, []) else (7, 0, [])) else if k = 4 then csiF f m (P.map Prod.snd) else if k = 5 then sysL tx else (7, 0, []) := by
    clear hs hp
    unfold classL gridB csiF
    by_cases h1 : k = 1
    · simp [h1]
    by_cases h2 : k = 2
    · subst h2
      by_cases h7 : (f.toNat : Int) = 7
      · have : f.toNat = 7 := by omega
        simp [this]
      · simp [h7]
    by_cases h3 : k = 3
    · subst h3; simp
    by_cases h4 : k = 4
    · subst h4; simp
    by_cases h5 : k = 5
    · subst h5; simp
    · simp [h1, h2, h3, h4, h5]
  rw [hcl]
  clear hcl
  refine W_enter d15 ?_
  show W _ (.code m15_code [.agg [.int .i64 k, .int .i32 r, .int .u8 (f.toNat : Int), .str m, p, .str tx], undefA, undefA, undefA, undefA, undefA, undefA, undefA, undefA, undefA, undefA, undefA, undefA, undefA, undefA, undefA, undefA, undefA, undefA, undefA, undefA, undefA, undefA, undefA, undefA, undefA, undefA, undefA, undefA, undefA, undefA, undefA, undefA, undefA, undefA, undefA, undefA, undefA, undefA, undefA, undefA, undefA, undefA, undefA, undefA, undefA, undefA, undefA, undefA, undefA, undefA, undefA, undefA, undefA] _) _
  unfold m15_code
  repeat' (first
    | (refine K_ops ?_; first
      | refine W_fastB rfl ?_
      | refine W_nil ?_
      | (refine K_guard ?_; first
        | refine W_guard_on rfl ?_
        | refine W_guard_off rfl rfl (W_norm rfl ?_)
        | refine W_guard_u rfl (W_norm rfl ?_)
        | (refine W_guardT rfl (fun hc => ?_) (fun hc => ?_) <;> (try rw [hc]) <;> (try simp only [cleanS, reduceCtorEq] at hc) <;> (try (exfalso; omega)) <;> (try contradiction) <;> (try refine W_norm rfl ?_))
        | (refine W_guardF rfl (fun hc => ?_) (fun hc => ?_) <;> (try rw [hc]) <;> (try simp only [cleanS, reduceCtorEq] at hc) <;> (try (exfalso; omega)) <;> (try contradiction) <;> (try refine W_norm rfl ?_))
      )
      | (refine K_call ?_; first
        | (refine W_callsN 29 rfl (w29 (f := f) (s := lettersE) (by decide)) rfl ?_; rintro _ h ⟨rfl, rfl⟩; refine W_norm rfl ?_)
        | (refine W_callsN 30 rfl (w30 (t := tx) (hp.now hs) hl) rfl ?_; rintro _ h ⟨rfl, t⟩; unfold flowC; replace hs := hs.call t; try simp only [setS] at hs; refine W_norm rfl ?_)
        | (refine W_callsN 31 rfl (w31 (tx := tx) (ht (by assumption))) rfl ?_; rintro _ h ⟨rfl, t⟩; unfold flowC; replace hs := hs.call t; try simp only [setS] at hs; refine W_norm rfl ?_)
      )
      | (refine K_pick ?_; first
        | refine W_pick_t rfl rfl (W_norm rfl ?_)
        | refine W_pick_f rfl rfl (W_norm rfl ?_)
      )
      | (refine K_load ?_; first
        | (refine W_loadC hs 1 rfl rfl rfl ?_; refine W_norm rfl ?_)
        | (refine W_loadCA hs 1 rfl rfl rfl ?_; refine W_norm rfl ?_)
      )
      | (refine K_store ?_; first
        | (refine W_storeC hs 0 rfl rfl rfl rfl (by first | decide | assumption) rfl rfl ?_; clear hs; intro _ hs; try simp only [setS] at hs; refine W_norm rfl ?_)
      )
      | (refine W_allocS hs ?_; clear hs; intro al _ hs; try simp only [setS] at hs; refine W_norm rfl ?_)
      | (refine W_boxS hs rfl rfl ?_; clear hs; intro bx _ hs; try simp only [setS] at hs; refine W_norm rfl ?_)
      | (refine W_buildN rfl ?_; refine W_norm rfl ?_)
    )
    | (refine K_code ?_; first
      | refine W_seq ?_
      | refine W_ops ?_
      | refine W_cond_t rfl ?_
      | refine W_cond_f rfl ?_
      | (refine W_cond rfl (fun hc => ?_) (fun hc => ?_) <;> (try rw [hc]) <;> (try simp only [cleanS, reduceCtorEq] at hc) <;> (try (exfalso; omega)) <;> (try contradiction) <;> (try refine W_norm rfl ?_))
      | refine W_skip ?_
      | refine W_ret ?_
      | refine W_block ?_
    )
    | refine seqK_n ?_
    | refine seqK_r ?_
    | refine blockK_r ?_
    | refine blockK_n ?_
    | (refine fnK_cellS hs 0 rfl rfl rfl rfl ?_))
  all_goals
    refine ⟨_, rfl, ?_, hs.none⟩
    refine congrArg AV.agg ?_
    clear hs hp
    first
      | (simp [flowC, *]; done)
      | (simp [flowC, *]; omega)
      | grind [flowC]
      | skip
end Go.Proofs.YtggkbkbhegcbkaaDoor
