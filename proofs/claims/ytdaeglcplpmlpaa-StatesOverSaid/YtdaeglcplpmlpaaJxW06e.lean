/- The laws of the states, over texts. -/
import Derived.Test.YtdaeglcplpmlpaaJxW06d
set_option linter.unusedSimpArgs false
set_option linter.unusedVariables false
set_option maxHeartbeats 1000000
set_option maxRecDepth 100000
namespace Go.Proofs.Ytdaeglcplpmlpaa
open Go Go.Jx

theorem next_18 (s : Int) : nextL s (24 : UInt8).toNat = (2, 0) := by unfold nextL; rw [if_pos (by decide)]
theorem next_1a (s : Int) : nextL s (26 : UInt8).toNat = (2, 0) := by unfold nextL; rw [if_pos (by decide)]
theorem next_1b (s : Int) : nextL s (27 : UInt8).toNat = (0, 1) := by unfold nextL; rw [if_neg (by decide), if_pos (by decide)]

theorem law6 (st : Int) (s t : List UInt8) (h : Heap) (hst : 0 ≤ st ∧ st ≤ 255) (hs : s.length ≤ 2 ^ 63 - 1) (ht : t.length ≤ 2 ^ 63 - 1) : W DD (.call 6 [.sc (.int .u8 st), .sc (.str s), .sc (.str t)] h) (fun _ vs _ => vs = [.sc (.bool true)]) := by
  refine W_enter d6 ?_
  show W _ (.code m6_code [.sc (.int .u8 st), .sc (.str s), .sc (.str t), undefA, undefA, undefA, undefA, undefA, undefA, undefA, undefA, undefA, undefA, undefA, undefA, undefA, undefA, undefA, undefA, undefA, undefA, undefA, undefA, undefA, undefA, undefA, undefA, undefA, undefA, undefA, undefA, undefA, undefA, undefA, undefA, undefA, undefA, undefA, undefA, undefA, undefA, undefA, undefA, undefA, undefA, undefA, undefA, undefA, undefA, undefA, undefA, undefA, undefA, undefA, undefA, undefA, undefA, undefA] _) _
  unfold m6_code
  by_cases hbig : 3000 < s.length ∨ 3000 < t.length
  · repeat' (first
      | refine W_fast rfl ?_
      | (refine W_callsN 8 rfl (W_known d8) rfl ?_; rintro _ _ ⟨rfl, rfl⟩; refine W_norm rfl ?_)
      | refine W_seq ?_
      | refine W_ops ?_
      | refine W_nil ?_
      | refine seqK_n ?_
      | refine seqK_r ?_
      | refine seqK_x ?_
      | refine blockK_r ?_
      | refine blockK_n ?_
      | refine blockK_e ?_
      | refine blockK_x rfl ?_
      | refine loopK_x ?_
      | refine loopK_r ?_
      | refine invK_x ?_
      | refine invK_r ?_
      | refine invK_n ?_
      | refine W_guard_on rfl ?_
      | refine W_guard_off rfl rfl (W_norm rfl ?_)
      | refine W_guard_u rfl (W_norm rfl ?_)
      | refine W_pick_t rfl rfl (W_norm rfl ?_)
      | refine W_pick_f rfl rfl (W_norm rfl ?_)
      | refine W_skip ?_
      | refine W_ret ?_
      | refine W_exit ?_
      | refine W_cond_t rfl ?_
      | refine W_cond_f rfl ?_
      | refine W_block ?_
      | refine W_draw rfl ?_
      | refine W_add rfl rfl (IntWalk.i64_in _ (by omega)) (W_norm rfl ?_)
      | refine W_add rfl rfl (IntWalk.i32_in _ (by omega)) (W_norm rfl ?_)
      | refine W_add rfl rfl (IntWalk.u8_in _ (by omega)) (W_norm rfl ?_)
      | refine W_sub rfl rfl (IntWalk.i64_in _ (by omega)) (W_norm rfl ?_)
      | refine W_sub rfl rfl (IntWalk.i32_in _ (by omega)) (W_norm rfl ?_)
      | refine W_sub rfl rfl (IntWalk.u8_in _ (by omega)) (W_norm rfl ?_)
      | refine W_mul rfl rfl (IntWalk.i64_in _ (by omega)) (W_norm rfl ?_)
      | refine W_mul rfl rfl (IntWalk.i32_in _ (by omega)) (W_norm rfl ?_)
      | refine W_mul rfl rfl (IntWalk.u8_in _ (by omega)) (W_norm rfl ?_)
      | refine W_convint rfl (IntWalk.i64_in _ (by omega)) (W_norm rfl ?_)
      | refine W_convint rfl (IntWalk.i32_in _ (by omega)) (W_norm rfl ?_)
      | refine W_convint rfl (IntWalk.u8_in _ (by omega)) (W_norm rfl ?_)
      | refine W_div rfl rfl (by omega) (W_norm rfl ?_)
      | refine W_mod rfl rfl (by omega) (W_norm rfl ?_)
      | refine W_indexSlice rfl rfl ⟨by omega, by omega⟩ (W_norm rfl ?_)
      | refine W_indexArr rfl rfl ⟨by omega, by omega⟩ (W_norm rfl ?_)
      | refine W_alloc (W_norm rfl ?_)
      | (refine W_guardT rfl (fun hc => ?_) (fun hc => ?_) <;> (try rw [hc]) <;> (try simp only [decide_eq_true_eq, decide_eq_false_iff_not, beq_iff_eq, beq_eq_false_iff_ne, bne_iff_ne, bne_eq_false_iff_eq, Bool.not_eq_true', Bool.not_eq_false', Int.not_lt, Int.not_le, ne_eq, reduceCtorEq, not_true_eq_false, not_false_eq_true] at hc) <;> (try (exfalso; omega)) <;> (try refine W_norm rfl ?_))
      | (refine W_guardF rfl (fun hc => ?_) (fun hc => ?_) <;> (try rw [hc]) <;> (try simp only [decide_eq_true_eq, decide_eq_false_iff_not, beq_iff_eq, beq_eq_false_iff_ne, bne_iff_ne, bne_eq_false_iff_eq, Bool.not_eq_true', Bool.not_eq_false', Int.not_lt, Int.not_le, ne_eq, reduceCtorEq, not_true_eq_false, not_false_eq_true] at hc) <;> (try (exfalso; omega)) <;> (try refine W_norm rfl ?_))
      | (refine W_cond rfl (fun hc => ?_) (fun hc => ?_) <;> (try rw [hc]) <;> (try simp only [decide_eq_true_eq, decide_eq_false_iff_not, beq_iff_eq, beq_eq_false_iff_ne, bne_iff_ne, bne_eq_false_iff_eq, Bool.not_eq_true', Bool.not_eq_false', Int.not_lt, Int.not_le, ne_eq, reduceCtorEq, not_true_eq_false, not_false_eq_true] at hc) <;> (try (exfalso; omega)) <;> (try refine W_norm rfl ?_))
      | (refine W_pick rfl (fun hc => ?_) (fun hc => ?_) <;> (try rw [hc]) <;> (try simp only [decide_eq_true_eq, decide_eq_false_iff_not, beq_iff_eq, beq_eq_false_iff_ne, bne_iff_ne, bne_eq_false_iff_eq, Bool.not_eq_true', Bool.not_eq_false', Int.not_lt, Int.not_le, ne_eq, reduceCtorEq, not_true_eq_false, not_false_eq_true] at hc) <;> (try (exfalso; omega)) <;> (try refine W_norm rfl ?_))
      | refine W_add rfl rfl rfl (W_norm rfl ?_)
      | refine W_sub rfl rfl rfl (W_norm rfl ?_)
      | refine W_mul rfl rfl rfl (W_norm rfl ?_)
      | (refine fnK_r rfl ?_; dsimp only [gd_z, gd_s])
      | (refine fnK_n rfl ?_; dsimp only [gd_z, gd_s]))
  · have hr := runL_range (s := st % 14) ⟨by omega, by omega⟩ s
    have e1 : runL (st % 14) (s ++ [24] ++ t) = runL 0 t := by rw [runL_append, runL_append]; simp only [runL, next_18]
    have e2 : runL (st % 14) (s ++ [27] ++ t) = runL 1 t := by rw [runL_append, runL_append]; simp only [runL, next_1b]
    have e3 : runL (st % 14) (s ++ [26]) = 0 := by rw [runL_append]; simp only [runL, next_1a]
    repeat' (first
      | refine W_fast rfl ?_
      | (refine W_callsN 8 rfl (W_known d8) rfl ?_; rintro _ _ ⟨rfl, rfl⟩; refine W_norm rfl ?_)
      | (refine W_callsN 14 rfl (w14 _ _ _ (by first | omega | (simp only [List.length_append, List.length_cons, List.length_nil]; omega))) rfl ?_; rintro _ _ ⟨rfl, rfl⟩; refine W_norm rfl ?_)
      | refine W_cat rfl rfl (by simp only [List.length_append, List.length_cons, List.length_nil]; omega) (W_norm rfl ?_)
      | refine W_seq ?_
      | refine W_ops ?_
      | refine W_nil ?_
      | refine seqK_n ?_
      | refine seqK_r ?_
      | refine seqK_x ?_
      | refine blockK_r ?_
      | refine blockK_n ?_
      | refine blockK_e ?_
      | refine blockK_x rfl ?_
      | refine loopK_x ?_
      | refine loopK_r ?_
      | refine invK_x ?_
      | refine invK_r ?_
      | refine invK_n ?_
      | refine W_guard_on rfl ?_
      | refine W_guard_off rfl rfl (W_norm rfl ?_)
      | refine W_guard_u rfl (W_norm rfl ?_)
      | refine W_pick_t rfl rfl (W_norm rfl ?_)
      | refine W_pick_f rfl rfl (W_norm rfl ?_)
      | refine W_skip ?_
      | refine W_ret ?_
      | refine W_exit ?_
      | refine W_cond_t rfl ?_
      | refine W_cond_f rfl ?_
      | refine W_block ?_
      | refine W_draw rfl ?_
      | refine W_add rfl rfl (IntWalk.i64_in _ (by omega)) (W_norm rfl ?_)
      | refine W_add rfl rfl (IntWalk.i32_in _ (by omega)) (W_norm rfl ?_)
      | refine W_add rfl rfl (IntWalk.u8_in _ (by omega)) (W_norm rfl ?_)
      | refine W_sub rfl rfl (IntWalk.i64_in _ (by omega)) (W_norm rfl ?_)
      | refine W_sub rfl rfl (IntWalk.i32_in _ (by omega)) (W_norm rfl ?_)
      | refine W_sub rfl rfl (IntWalk.u8_in _ (by omega)) (W_norm rfl ?_)
      | refine W_mul rfl rfl (IntWalk.i64_in _ (by omega)) (W_norm rfl ?_)
      | refine W_mul rfl rfl (IntWalk.i32_in _ (by omega)) (W_norm rfl ?_)
      | refine W_mul rfl rfl (IntWalk.u8_in _ (by omega)) (W_norm rfl ?_)
      | refine W_convint rfl (IntWalk.i64_in _ (by omega)) (W_norm rfl ?_)
      | refine W_convint rfl (IntWalk.i32_in _ (by omega)) (W_norm rfl ?_)
      | refine W_convint rfl (IntWalk.u8_in _ (by omega)) (W_norm rfl ?_)
      | refine W_div rfl rfl (by omega) (W_norm rfl ?_)
      | refine W_mod rfl rfl (by omega) (W_norm rfl ?_)
      | refine W_indexSlice rfl rfl ⟨by omega, by omega⟩ (W_norm rfl ?_)
      | refine W_indexArr rfl rfl ⟨by omega, by omega⟩ (W_norm rfl ?_)
      | refine W_alloc (W_norm rfl ?_)
      | (refine W_guardT rfl (fun hc => ?_) (fun hc => ?_) <;> (try rw [hc]) <;> (try simp only [decide_eq_true_eq, decide_eq_false_iff_not, beq_iff_eq, beq_eq_false_iff_ne, bne_iff_ne, bne_eq_false_iff_eq, Bool.not_eq_true', Bool.not_eq_false', Int.not_lt, Int.not_le, ne_eq, reduceCtorEq, not_true_eq_false, not_false_eq_true] at hc) <;> (try (exfalso; omega)) <;> (try refine W_norm rfl ?_))
      | (refine W_guardF rfl (fun hc => ?_) (fun hc => ?_) <;> (try rw [hc]) <;> (try simp only [decide_eq_true_eq, decide_eq_false_iff_not, beq_iff_eq, beq_eq_false_iff_ne, bne_iff_ne, bne_eq_false_iff_eq, Bool.not_eq_true', Bool.not_eq_false', Int.not_lt, Int.not_le, ne_eq, reduceCtorEq, not_true_eq_false, not_false_eq_true] at hc) <;> (try (exfalso; omega)) <;> (try refine W_norm rfl ?_))
      | (refine W_cond rfl (fun hc => ?_) (fun hc => ?_) <;> (try rw [hc]) <;> (try simp only [decide_eq_true_eq, decide_eq_false_iff_not, beq_iff_eq, beq_eq_false_iff_ne, bne_iff_ne, bne_eq_false_iff_eq, Bool.not_eq_true', Bool.not_eq_false', Int.not_lt, Int.not_le, ne_eq, reduceCtorEq, not_true_eq_false, not_false_eq_true] at hc) <;> (try (exfalso; omega)) <;> (try refine W_norm rfl ?_))
      | (refine W_pick rfl (fun hc => ?_) (fun hc => ?_) <;> (try rw [hc]) <;> (try simp only [decide_eq_true_eq, decide_eq_false_iff_not, beq_iff_eq, beq_eq_false_iff_ne, bne_iff_ne, bne_eq_false_iff_eq, Bool.not_eq_true', Bool.not_eq_false', Int.not_lt, Int.not_le, ne_eq, reduceCtorEq, not_true_eq_false, not_false_eq_true] at hc) <;> (try (exfalso; omega)) <;> (try refine W_norm rfl ?_))
      | refine W_add rfl rfl rfl (W_norm rfl ?_)
      | refine W_sub rfl rfl rfl (W_norm rfl ?_)
      | refine W_mul rfl rfl rfl (W_norm rfl ?_)
      | (refine fnK_r rfl ?_; dsimp only [gd_z, gd_s])
      | (refine fnK_n rfl ?_; dsimp only [gd_z, gd_s]))
    all_goals (rw [e3]; rfl)

theorem law7 (st c : Int) (s : List UInt8) (h : Heap) (hst : 0 ≤ st ∧ st ≤ 255) (hc : 0 ≤ c ∧ c < 256) (hs : s.length ≤ 2 ^ 63 - 1) : W DD (.call 7 [.sc (.int .u8 st), .sc (.str s), .sc (.int .u8 c)] h) (fun _ vs _ => vs = [.sc (.bool true)]) := by
  refine W_enter d7 ?_
  show W _ (.code m7_code [.sc (.int .u8 st), .sc (.str s), .sc (.int .u8 c), undefA, undefA, undefA, undefA, undefA, undefA, undefA, undefA, undefA, undefA, undefA, undefA, undefA, undefA, undefA, undefA, undefA, undefA, undefA, undefA, undefA, undefA, undefA, undefA, undefA, undefA, undefA, undefA, undefA, undefA, undefA, undefA, undefA, undefA, undefA, undefA, undefA, undefA, undefA, undefA, undefA, undefA, undefA, undefA, undefA, undefA, undefA, undefA, undefA, undefA, undefA, undefA, undefA, undefA, undefA, undefA, undefA, undefA, undefA, undefA, undefA, undefA, undefA, undefA, undefA, undefA, undefA, undefA, undefA, undefA, undefA, undefA, undefA, undefA, undefA, undefA, undefA, undefA, undefA, undefA, undefA, undefA, undefA, undefA, undefA, undefA] _) _
  unfold m7_code
  by_cases hbig : 3000 < s.length
  · repeat' (first
      | refine W_fast rfl ?_
      | (refine W_callsN 8 rfl (W_known d8) rfl ?_; rintro _ _ ⟨rfl, rfl⟩; refine W_norm rfl ?_)
      | refine W_seq ?_
      | refine W_ops ?_
      | refine W_nil ?_
      | refine seqK_n ?_
      | refine seqK_r ?_
      | refine seqK_x ?_
      | refine blockK_r ?_
      | refine blockK_n ?_
      | refine blockK_e ?_
      | refine blockK_x rfl ?_
      | refine loopK_x ?_
      | refine loopK_r ?_
      | refine invK_x ?_
      | refine invK_r ?_
      | refine invK_n ?_
      | refine W_guard_on rfl ?_
      | refine W_guard_off rfl rfl (W_norm rfl ?_)
      | refine W_guard_u rfl (W_norm rfl ?_)
      | refine W_pick_t rfl rfl (W_norm rfl ?_)
      | refine W_pick_f rfl rfl (W_norm rfl ?_)
      | refine W_skip ?_
      | refine W_ret ?_
      | refine W_exit ?_
      | refine W_cond_t rfl ?_
      | refine W_cond_f rfl ?_
      | refine W_block ?_
      | refine W_draw rfl ?_
      | refine W_add rfl rfl (IntWalk.i64_in _ (by omega)) (W_norm rfl ?_)
      | refine W_add rfl rfl (IntWalk.i32_in _ (by omega)) (W_norm rfl ?_)
      | refine W_add rfl rfl (IntWalk.u8_in _ (by omega)) (W_norm rfl ?_)
      | refine W_sub rfl rfl (IntWalk.i64_in _ (by omega)) (W_norm rfl ?_)
      | refine W_sub rfl rfl (IntWalk.i32_in _ (by omega)) (W_norm rfl ?_)
      | refine W_sub rfl rfl (IntWalk.u8_in _ (by omega)) (W_norm rfl ?_)
      | refine W_mul rfl rfl (IntWalk.i64_in _ (by omega)) (W_norm rfl ?_)
      | refine W_mul rfl rfl (IntWalk.i32_in _ (by omega)) (W_norm rfl ?_)
      | refine W_mul rfl rfl (IntWalk.u8_in _ (by omega)) (W_norm rfl ?_)
      | refine W_convint rfl (IntWalk.i64_in _ (by omega)) (W_norm rfl ?_)
      | refine W_convint rfl (IntWalk.i32_in _ (by omega)) (W_norm rfl ?_)
      | refine W_convint rfl (IntWalk.u8_in _ (by omega)) (W_norm rfl ?_)
      | refine W_div rfl rfl (by omega) (W_norm rfl ?_)
      | refine W_mod rfl rfl (by omega) (W_norm rfl ?_)
      | refine W_indexSlice rfl rfl ⟨by omega, by omega⟩ (W_norm rfl ?_)
      | refine W_indexArr rfl rfl ⟨by omega, by omega⟩ (W_norm rfl ?_)
      | refine W_alloc (W_norm rfl ?_)
      | (refine W_guardT rfl (fun hc => ?_) (fun hc => ?_) <;> (try rw [hc]) <;> (try simp only [decide_eq_true_eq, decide_eq_false_iff_not, beq_iff_eq, beq_eq_false_iff_ne, bne_iff_ne, bne_eq_false_iff_eq, Bool.not_eq_true', Bool.not_eq_false', Int.not_lt, Int.not_le, ne_eq, reduceCtorEq, not_true_eq_false, not_false_eq_true] at hc) <;> (try (exfalso; omega)) <;> (try refine W_norm rfl ?_))
      | (refine W_guardF rfl (fun hc => ?_) (fun hc => ?_) <;> (try rw [hc]) <;> (try simp only [decide_eq_true_eq, decide_eq_false_iff_not, beq_iff_eq, beq_eq_false_iff_ne, bne_iff_ne, bne_eq_false_iff_eq, Bool.not_eq_true', Bool.not_eq_false', Int.not_lt, Int.not_le, ne_eq, reduceCtorEq, not_true_eq_false, not_false_eq_true] at hc) <;> (try (exfalso; omega)) <;> (try refine W_norm rfl ?_))
      | (refine W_cond rfl (fun hc => ?_) (fun hc => ?_) <;> (try rw [hc]) <;> (try simp only [decide_eq_true_eq, decide_eq_false_iff_not, beq_iff_eq, beq_eq_false_iff_ne, bne_iff_ne, bne_eq_false_iff_eq, Bool.not_eq_true', Bool.not_eq_false', Int.not_lt, Int.not_le, ne_eq, reduceCtorEq, not_true_eq_false, not_false_eq_true] at hc) <;> (try (exfalso; omega)) <;> (try refine W_norm rfl ?_))
      | (refine W_pick rfl (fun hc => ?_) (fun hc => ?_) <;> (try rw [hc]) <;> (try simp only [decide_eq_true_eq, decide_eq_false_iff_not, beq_iff_eq, beq_eq_false_iff_ne, bne_iff_ne, bne_eq_false_iff_eq, Bool.not_eq_true', Bool.not_eq_false', Int.not_lt, Int.not_le, ne_eq, reduceCtorEq, not_true_eq_false, not_false_eq_true] at hc) <;> (try (exfalso; omega)) <;> (try refine W_norm rfl ?_))
      | refine W_add rfl rfl rfl (W_norm rfl ?_)
      | refine W_sub rfl rfl rfl (W_norm rfl ?_)
      | refine W_mul rfl rfl rfl (W_norm rfl ?_)
      | (refine fnK_r rfl ?_; dsimp only [gd_z, gd_s])
      | (refine fnK_n rfl ?_; dsimp only [gd_z, gd_s]))
  · have hr := runL_range (s := st % 14) ⟨by omega, by omega⟩ s
    have hk := ok_next hr hc
    simp only [okNext, decide_eq_true_eq] at hk
    obtain ⟨-, k1, k2, k3, k4, k5, k6, k7⟩ := hk
    repeat' (first
      | refine W_fast rfl ?_
      | (refine W_callsN 8 rfl (W_known d8) rfl ?_; rintro _ _ ⟨rfl, rfl⟩; refine W_norm rfl ?_)
      | (refine W_callsN 14 rfl (w14 _ _ _ (by omega)) rfl ?_; rintro _ _ ⟨rfl, rfl⟩; refine W_norm rfl ?_)
      | (refine W_callsN 12 rfl (w12 _ _ _) rfl ?_; rintro _ _ ⟨rfl, rfl⟩; refine W_norm rfl ?_)
      | refine W_seq ?_
      | refine W_ops ?_
      | refine W_nil ?_
      | refine seqK_n ?_
      | refine seqK_r ?_
      | refine seqK_x ?_
      | refine blockK_r ?_
      | refine blockK_n ?_
      | refine blockK_e ?_
      | refine blockK_x rfl ?_
      | refine loopK_x ?_
      | refine loopK_r ?_
      | refine invK_x ?_
      | refine invK_r ?_
      | refine invK_n ?_
      | refine W_guard_on rfl ?_
      | refine W_guard_off rfl rfl (W_norm rfl ?_)
      | refine W_guard_u rfl (W_norm rfl ?_)
      | refine W_pick_t rfl rfl (W_norm rfl ?_)
      | refine W_pick_f rfl rfl (W_norm rfl ?_)
      | refine W_skip ?_
      | refine W_ret ?_
      | refine W_exit ?_
      | refine W_cond_t rfl ?_
      | refine W_cond_f rfl ?_
      | refine W_block ?_
      | refine W_draw rfl ?_
      | refine W_add rfl rfl (IntWalk.i64_in _ (by omega)) (W_norm rfl ?_)
      | refine W_add rfl rfl (IntWalk.i32_in _ (by omega)) (W_norm rfl ?_)
      | refine W_add rfl rfl (IntWalk.u8_in _ (by omega)) (W_norm rfl ?_)
      | refine W_sub rfl rfl (IntWalk.i64_in _ (by omega)) (W_norm rfl ?_)
      | refine W_sub rfl rfl (IntWalk.i32_in _ (by omega)) (W_norm rfl ?_)
      | refine W_sub rfl rfl (IntWalk.u8_in _ (by omega)) (W_norm rfl ?_)
      | refine W_mul rfl rfl (IntWalk.i64_in _ (by omega)) (W_norm rfl ?_)
      | refine W_mul rfl rfl (IntWalk.i32_in _ (by omega)) (W_norm rfl ?_)
      | refine W_mul rfl rfl (IntWalk.u8_in _ (by omega)) (W_norm rfl ?_)
      | refine W_convint rfl (IntWalk.i64_in _ (by omega)) (W_norm rfl ?_)
      | refine W_convint rfl (IntWalk.i32_in _ (by omega)) (W_norm rfl ?_)
      | refine W_convint rfl (IntWalk.u8_in _ (by omega)) (W_norm rfl ?_)
      | refine W_div rfl rfl (by omega) (W_norm rfl ?_)
      | refine W_mod rfl rfl (by omega) (W_norm rfl ?_)
      | refine W_indexSlice rfl rfl ⟨by omega, by omega⟩ (W_norm rfl ?_)
      | refine W_indexArr rfl rfl ⟨by omega, by omega⟩ (W_norm rfl ?_)
      | refine W_alloc (W_norm rfl ?_)
      | (refine W_guardT rfl (fun hc => ?_) (fun hc => ?_) <;> (try rw [hc]) <;> (try simp only [decide_eq_true_eq, decide_eq_false_iff_not, beq_iff_eq, beq_eq_false_iff_ne, bne_iff_ne, bne_eq_false_iff_eq, Bool.not_eq_true', Bool.not_eq_false', Int.not_lt, Int.not_le, ne_eq, reduceCtorEq, not_true_eq_false, not_false_eq_true] at hc) <;> (try (exfalso; omega)) <;> (try refine W_norm rfl ?_))
      | (refine W_guardF rfl (fun hc => ?_) (fun hc => ?_) <;> (try rw [hc]) <;> (try simp only [decide_eq_true_eq, decide_eq_false_iff_not, beq_iff_eq, beq_eq_false_iff_ne, bne_iff_ne, bne_eq_false_iff_eq, Bool.not_eq_true', Bool.not_eq_false', Int.not_lt, Int.not_le, ne_eq, reduceCtorEq, not_true_eq_false, not_false_eq_true] at hc) <;> (try (exfalso; omega)) <;> (try refine W_norm rfl ?_))
      | (refine W_cond rfl (fun hc => ?_) (fun hc => ?_) <;> (try rw [hc]) <;> (try simp only [decide_eq_true_eq, decide_eq_false_iff_not, beq_iff_eq, beq_eq_false_iff_ne, bne_iff_ne, bne_eq_false_iff_eq, Bool.not_eq_true', Bool.not_eq_false', Int.not_lt, Int.not_le, ne_eq, reduceCtorEq, not_true_eq_false, not_false_eq_true] at hc) <;> (try (exfalso; omega)) <;> (try refine W_norm rfl ?_))
      | (refine W_pick rfl (fun hc => ?_) (fun hc => ?_) <;> (try rw [hc]) <;> (try simp only [decide_eq_true_eq, decide_eq_false_iff_not, beq_iff_eq, beq_eq_false_iff_ne, bne_iff_ne, bne_eq_false_iff_eq, Bool.not_eq_true', Bool.not_eq_false', Int.not_lt, Int.not_le, ne_eq, reduceCtorEq, not_true_eq_false, not_false_eq_true] at hc) <;> (try (exfalso; omega)) <;> (try refine W_norm rfl ?_))
      | refine W_add rfl rfl rfl (W_norm rfl ?_)
      | refine W_sub rfl rfl rfl (W_norm rfl ?_)
      | refine W_mul rfl rfl rfl (W_norm rfl ?_)
      | (refine fnK_r rfl ?_; dsimp only [gd_z, gd_s])
      | (refine fnK_n rfl ?_; dsimp only [gd_z, gd_s]))
    all_goals exact congrArg (fun b => [AV.sc (SV.bool b)]) (decide_eq_true (by omega))

theorem walk_statesCalm (H : Heap) (avs : List AV) (hwf : H.l.length = H.n) (hs : Sub (HL Try.prog.globals.size jxLs) H) (ho : OpenA H [(false, [.int .u8]), (false, [.str]), (false, [.str])] avs) : W DD (.call 6 avs H) (fun _ vs _ => vs = [.sc (.bool true)]) := by
  simp only [OpenA] at ho
  obtain ⟨k, s, l', hk, rfl, o1, k2, s2, l2, hk2, rfl, o2, k3, s3, l3, hk3, rfl, o3, rfl⟩ := ho
  cases hk; cases hk2; cases hk3
  simp only [OpenS] at o1 o2 o3
  obtain ⟨n, rfl, h1, h2⟩ := o1
  obtain ⟨a, rfl, h3⟩ := o2
  obtain ⟨b, rfl, h4⟩ := o3
  have h5 : IntKind.u8.max = 255 := rfl
  have h6 : IntKind.u8.min = 0 := rfl
  exact law6 n a b H (by omega) h3 h4

theorem walk_statesOver (H : Heap) (avs : List AV) (hwf : H.l.length = H.n) (hs : Sub (HL Try.prog.globals.size jxLs) H) (ho : OpenA H [(false, [.int .u8]), (false, [.str]), (false, [.int .u8])] avs) : W DD (.call 7 avs H) (fun _ vs _ => vs = [.sc (.bool true)]) := by
  simp only [OpenA] at ho
  obtain ⟨k, s, l', hk, rfl, o1, k2, s2, l2, hk2, rfl, o2, k3, s3, l3, hk3, rfl, o3, rfl⟩ := ho
  cases hk; cases hk2; cases hk3
  simp only [OpenS] at o1 o2 o3
  obtain ⟨n, rfl, h1, h2⟩ := o1
  obtain ⟨a, rfl, h3⟩ := o2
  obtain ⟨c, rfl, h4, h7⟩ := o3
  have h5 : IntKind.u8.max = 255 := rfl
  have h6 : IntKind.u8.min = 0 := rfl
  exact law7 n c a H (by omega) (by omega) h3
end Go.Proofs.Ytdaeglcplpmlpaa
