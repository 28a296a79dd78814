/- The walks through the functions of the states. -/
import Derived.Test.YtdaeglcplpmlpaaJxE06
set_option linter.unusedSimpArgs false
set_option linter.unusedVariables false
set_option maxHeartbeats 4000000
set_option maxRecDepth 100000
namespace Go.Proofs.Ytdaeglcplpmlpaa
open Go Go.Jx

def pairA (p : Int × Int) : AV := .tup [.sc (.int .i64 p.1), .sc (.int .i64 p.2)]

def groundL (c : Int) : Int × Int := if c < 32 then (2, 0) else if c = 127 then (0, 0) else (1, 0)

theorem w20 (c : Int) (h : Heap) : W DD (.call 20 [.sc (.int .u8 c)] h) (fun _ vs h' => ∃ v, vs = [v] ∧ v = pairA (groundL c) ∧ h' = h) := by
  refine W_enter d20 ?_
  show W _ (.code m20_code [.sc (.int .u8 c), undefA, undefA, undefA, undefA, undefA, undefA, undefA, undefA, undefA] _) _
  unfold m20_code
  repeat' (first
    | refine W_fast rfl ?_
    | refine W_seq ?_
    | refine W_ops ?_
    | refine W_nil ?_
    | refine seqK_n ?_
    | refine seqK_r ?_
    | refine seqK_x ?_
    | refine blockK_r ?_
    | refine blockK_n ?_
    | refine blockK_e ?_
    | refine blockK_x rfl ?_
    | refine loopK_x ?_
    | refine loopK_r ?_
    | refine invK_x ?_
    | refine invK_r ?_
    | refine invK_n ?_
    | refine W_guard_on rfl ?_
    | refine W_guard_off rfl rfl (W_norm rfl ?_)
    | refine W_guard_u rfl (W_norm rfl ?_)
    | refine W_pick_t rfl rfl (W_norm rfl ?_)
    | refine W_pick_f rfl rfl (W_norm rfl ?_)
    | refine W_skip ?_
    | refine W_ret ?_
    | refine W_exit ?_
    | refine W_cond_t rfl ?_
    | refine W_cond_f rfl ?_
    | refine W_block ?_
    | refine W_draw rfl ?_
    | refine W_add rfl rfl (IntWalk.i64_in _ (by omega)) (W_norm rfl ?_)
    | refine W_add rfl rfl (IntWalk.i32_in _ (by omega)) (W_norm rfl ?_)
    | refine W_add rfl rfl (IntWalk.u8_in _ (by omega)) (W_norm rfl ?_)
    | refine W_sub rfl rfl (IntWalk.i64_in _ (by omega)) (W_norm rfl ?_)
    | refine W_sub rfl rfl (IntWalk.i32_in _ (by omega)) (W_norm rfl ?_)
    | refine W_sub rfl rfl (IntWalk.u8_in _ (by omega)) (W_norm rfl ?_)
    | refine W_mul rfl rfl (IntWalk.i64_in _ (by omega)) (W_norm rfl ?_)
    | refine W_mul rfl rfl (IntWalk.i32_in _ (by omega)) (W_norm rfl ?_)
    | refine W_mul rfl rfl (IntWalk.u8_in _ (by omega)) (W_norm rfl ?_)
    | refine W_convint rfl (IntWalk.i64_in _ (by omega)) (W_norm rfl ?_)
    | refine W_convint rfl (IntWalk.i32_in _ (by omega)) (W_norm rfl ?_)
    | refine W_convint rfl (IntWalk.u8_in _ (by omega)) (W_norm rfl ?_)
    | refine W_div rfl rfl (by omega) (W_norm rfl ?_)
    | refine W_mod rfl rfl (by omega) (W_norm rfl ?_)
    | refine W_indexSlice rfl rfl ⟨by omega, by omega⟩ (W_norm rfl ?_)
    | refine W_indexArr rfl rfl ⟨by omega, by omega⟩ (W_norm rfl ?_)
    | refine W_alloc (W_norm rfl ?_)
    | (refine W_guardT rfl (fun hc => ?_) (fun hc => ?_) <;> (try rw [hc]) <;> (try simp only [decide_eq_true_eq, decide_eq_false_iff_not, beq_iff_eq, beq_eq_false_iff_ne, bne_iff_ne, bne_eq_false_iff_eq, Bool.not_eq_true', Bool.not_eq_false', Int.not_lt, Int.not_le, ne_eq, reduceCtorEq, not_true_eq_false, not_false_eq_true] at hc) <;> (try (exfalso; omega)) <;> (try refine W_norm rfl ?_))
    | (refine W_guardF rfl (fun hc => ?_) (fun hc => ?_) <;> (try rw [hc]) <;> (try simp only [decide_eq_true_eq, decide_eq_false_iff_not, beq_iff_eq, beq_eq_false_iff_ne, bne_iff_ne, bne_eq_false_iff_eq, Bool.not_eq_true', Bool.not_eq_false', Int.not_lt, Int.not_le, ne_eq, reduceCtorEq, not_true_eq_false, not_false_eq_true] at hc) <;> (try (exfalso; omega)) <;> (try refine W_norm rfl ?_))
    | (refine W_cond rfl (fun hc => ?_) (fun hc => ?_) <;> (try rw [hc]) <;> (try simp only [decide_eq_true_eq, decide_eq_false_iff_not, beq_iff_eq, beq_eq_false_iff_ne, bne_iff_ne, bne_eq_false_iff_eq, Bool.not_eq_true', Bool.not_eq_false', Int.not_lt, Int.not_le, ne_eq, reduceCtorEq, not_true_eq_false, not_false_eq_true] at hc) <;> (try (exfalso; omega)) <;> (try refine W_norm rfl ?_))
    | (refine W_pick rfl (fun hc => ?_) (fun hc => ?_) <;> (try rw [hc]) <;> (try simp only [decide_eq_true_eq, decide_eq_false_iff_not, beq_iff_eq, beq_eq_false_iff_ne, bne_iff_ne, bne_eq_false_iff_eq, Bool.not_eq_true', Bool.not_eq_false', Int.not_lt, Int.not_le, ne_eq, reduceCtorEq, not_true_eq_false, not_false_eq_true] at hc) <;> (try (exfalso; omega)) <;> (try refine W_norm rfl ?_))
    | refine W_add rfl rfl rfl (W_norm rfl ?_)
    | refine W_sub rfl rfl rfl (W_norm rfl ?_)
    | refine W_mul rfl rfl rfl (W_norm rfl ?_)
    | (refine fnK_r rfl ?_; dsimp only [gd_z, gd_s])
    | (refine fnK_n rfl ?_; dsimp only [gd_z, gd_s]))
  all_goals (refine ⟨_, rfl, ?_, rfl⟩; unfold groundL; repeat' split)
  all_goals (first | rfl | (exfalso; omega))

def escapeL (c : Int) : Int × Int :=
  if c < 32 then (2, 1) else if c < 48 then (3, 2) else if c = 80 then (0, 7) else if c = 91 then (0, 3) else if c = 93 then (0, 12)
  else if c = 88 ∨ c = 94 ∨ c = 95 then (0, 13) else if c < 127 then (5, 0) else (0, 1)

theorem w15 (c : Int) (h : Heap) : W DD (.call 15 [.sc (.int .u8 c)] h) (fun _ vs h' => ∃ v, vs = [v] ∧ v = pairA (escapeL c) ∧ h' = h) := by
  refine W_enter d15 ?_
  show W _ (.code m15_code [.sc (.int .u8 c), undefA, undefA, undefA, undefA, undefA, undefA, undefA, undefA, undefA, undefA, undefA, undefA, undefA, undefA, undefA, undefA, undefA, undefA, undefA, undefA, undefA, undefA, undefA, undefA, undefA, undefA, undefA, undefA, undefA, undefA, undefA, undefA] _) _
  unfold m15_code
  repeat' (first
    | refine W_fast rfl ?_
    | refine W_seq ?_
    | refine W_ops ?_
    | refine W_nil ?_
    | refine seqK_n ?_
    | refine seqK_r ?_
    | refine seqK_x ?_
    | refine blockK_r ?_
    | refine blockK_n ?_
    | refine blockK_e ?_
    | refine blockK_x rfl ?_
    | refine loopK_x ?_
    | refine loopK_r ?_
    | refine invK_x ?_
    | refine invK_r ?_
    | refine invK_n ?_
    | refine W_guard_on rfl ?_
    | refine W_guard_off rfl rfl (W_norm rfl ?_)
    | refine W_guard_u rfl (W_norm rfl ?_)
    | refine W_pick_t rfl rfl (W_norm rfl ?_)
    | refine W_pick_f rfl rfl (W_norm rfl ?_)
    | refine W_skip ?_
    | refine W_ret ?_
    | refine W_exit ?_
    | refine W_cond_t rfl ?_
    | refine W_cond_f rfl ?_
    | refine W_block ?_
    | refine W_draw rfl ?_
    | refine W_add rfl rfl (IntWalk.i64_in _ (by omega)) (W_norm rfl ?_)
    | refine W_add rfl rfl (IntWalk.i32_in _ (by omega)) (W_norm rfl ?_)
    | refine W_add rfl rfl (IntWalk.u8_in _ (by omega)) (W_norm rfl ?_)
    | refine W_sub rfl rfl (IntWalk.i64_in _ (by omega)) (W_norm rfl ?_)
    | refine W_sub rfl rfl (IntWalk.i32_in _ (by omega)) (W_norm rfl ?_)
    | refine W_sub rfl rfl (IntWalk.u8_in _ (by omega)) (W_norm rfl ?_)
    | refine W_mul rfl rfl (IntWalk.i64_in _ (by omega)) (W_norm rfl ?_)
    | refine W_mul rfl rfl (IntWalk.i32_in _ (by omega)) (W_norm rfl ?_)
    | refine W_mul rfl rfl (IntWalk.u8_in _ (by omega)) (W_norm rfl ?_)
    | refine W_convint rfl (IntWalk.i64_in _ (by omega)) (W_norm rfl ?_)
    | refine W_convint rfl (IntWalk.i32_in _ (by omega)) (W_norm rfl ?_)
    | refine W_convint rfl (IntWalk.u8_in _ (by omega)) (W_norm rfl ?_)
    | refine W_div rfl rfl (by omega) (W_norm rfl ?_)
    | refine W_mod rfl rfl (by omega) (W_norm rfl ?_)
    | refine W_indexSlice rfl rfl ⟨by omega, by omega⟩ (W_norm rfl ?_)
    | refine W_indexArr rfl rfl ⟨by omega, by omega⟩ (W_norm rfl ?_)
    | refine W_alloc (W_norm rfl ?_)
    | (refine W_guardT rfl (fun hc => ?_) (fun hc => ?_) <;> (try rw [hc]) <;> (try simp only [decide_eq_true_eq, decide_eq_false_iff_not, beq_iff_eq, beq_eq_false_iff_ne, bne_iff_ne, bne_eq_false_iff_eq, Bool.not_eq_true', Bool.not_eq_false', Int.not_lt, Int.not_le, ne_eq, reduceCtorEq, not_true_eq_false, not_false_eq_true] at hc) <;> (try (exfalso; omega)) <;> (try refine W_norm rfl ?_))
    | (refine W_guardF rfl (fun hc => ?_) (fun hc => ?_) <;> (try rw [hc]) <;> (try simp only [decide_eq_true_eq, decide_eq_false_iff_not, beq_iff_eq, beq_eq_false_iff_ne, bne_iff_ne, bne_eq_false_iff_eq, Bool.not_eq_true', Bool.not_eq_false', Int.not_lt, Int.not_le, ne_eq, reduceCtorEq, not_true_eq_false, not_false_eq_true] at hc) <;> (try (exfalso; omega)) <;> (try refine W_norm rfl ?_))
    | (refine W_cond rfl (fun hc => ?_) (fun hc => ?_) <;> (try rw [hc]) <;> (try simp only [decide_eq_true_eq, decide_eq_false_iff_not, beq_iff_eq, beq_eq_false_iff_ne, bne_iff_ne, bne_eq_false_iff_eq, Bool.not_eq_true', Bool.not_eq_false', Int.not_lt, Int.not_le, ne_eq, reduceCtorEq, not_true_eq_false, not_false_eq_true] at hc) <;> (try (exfalso; omega)) <;> (try refine W_norm rfl ?_))
    | (refine W_pick rfl (fun hc => ?_) (fun hc => ?_) <;> (try rw [hc]) <;> (try simp only [decide_eq_true_eq, decide_eq_false_iff_not, beq_iff_eq, beq_eq_false_iff_ne, bne_iff_ne, bne_eq_false_iff_eq, Bool.not_eq_true', Bool.not_eq_false', Int.not_lt, Int.not_le, ne_eq, reduceCtorEq, not_true_eq_false, not_false_eq_true] at hc) <;> (try (exfalso; omega)) <;> (try refine W_norm rfl ?_))
    | refine W_add rfl rfl rfl (W_norm rfl ?_)
    | refine W_sub rfl rfl rfl (W_norm rfl ?_)
    | refine W_mul rfl rfl rfl (W_norm rfl ?_)
    | (refine fnK_r rfl ?_; dsimp only [gd_z, gd_s])
    | (refine fnK_n rfl ?_; dsimp only [gd_z, gd_s]))
  all_goals (refine ⟨_, rfl, ?_, rfl⟩; unfold escapeL; repeat' split)
  all_goals (first | rfl | (exfalso; omega))

def interL (c : Int) : Int × Int := if c < 32 then (2, 2) else if c < 48 then (3, 2) else if c < 127 then (5, 0) else (0, 2)

theorem w16 (c : Int) (h : Heap) : W DD (.call 16 [.sc (.int .u8 c)] h) (fun _ vs h' => ∃ v, vs = [v] ∧ v = pairA (interL c) ∧ h' = h) := by
  refine W_enter d16 ?_
  show W _ (.code m16_code [.sc (.int .u8 c), undefA, undefA, undefA, undefA, undefA, undefA, undefA, undefA, undefA, undefA, undefA, undefA] _) _
  unfold m16_code
  repeat' (first
    | refine W_fast rfl ?_
    | refine W_seq ?_
    | refine W_ops ?_
    | refine W_nil ?_
    | refine seqK_n ?_
    | refine seqK_r ?_
    | refine seqK_x ?_
    | refine blockK_r ?_
    | refine blockK_n ?_
    | refine blockK_e ?_
    | refine blockK_x rfl ?_
    | refine loopK_x ?_
    | refine loopK_r ?_
    | refine invK_x ?_
    | refine invK_r ?_
    | refine invK_n ?_
    | refine W_guard_on rfl ?_
    | refine W_guard_off rfl rfl (W_norm rfl ?_)
    | refine W_guard_u rfl (W_norm rfl ?_)
    | refine W_pick_t rfl rfl (W_norm rfl ?_)
    | refine W_pick_f rfl rfl (W_norm rfl ?_)
    | refine W_skip ?_
    | refine W_ret ?_
    | refine W_exit ?_
    | refine W_cond_t rfl ?_
    | refine W_cond_f rfl ?_
    | refine W_block ?_
    | refine W_draw rfl ?_
    | refine W_add rfl rfl (IntWalk.i64_in _ (by omega)) (W_norm rfl ?_)
    | refine W_add rfl rfl (IntWalk.i32_in _ (by omega)) (W_norm rfl ?_)
    | refine W_add rfl rfl (IntWalk.u8_in _ (by omega)) (W_norm rfl ?_)
    | refine W_sub rfl rfl (IntWalk.i64_in _ (by omega)) (W_norm rfl ?_)
    | refine W_sub rfl rfl (IntWalk.i32_in _ (by omega)) (W_norm rfl ?_)
    | refine W_sub rfl rfl (IntWalk.u8_in _ (by omega)) (W_norm rfl ?_)
    | refine W_mul rfl rfl (IntWalk.i64_in _ (by omega)) (W_norm rfl ?_)
    | refine W_mul rfl rfl (IntWalk.i32_in _ (by omega)) (W_norm rfl ?_)
    | refine W_mul rfl rfl (IntWalk.u8_in _ (by omega)) (W_norm rfl ?_)
    | refine W_convint rfl (IntWalk.i64_in _ (by omega)) (W_norm rfl ?_)
    | refine W_convint rfl (IntWalk.i32_in _ (by omega)) (W_norm rfl ?_)
    | refine W_convint rfl (IntWalk.u8_in _ (by omega)) (W_norm rfl ?_)
    | refine W_div rfl rfl (by omega) (W_norm rfl ?_)
    | refine W_mod rfl rfl (by omega) (W_norm rfl ?_)
    | refine W_indexSlice rfl rfl ⟨by omega, by omega⟩ (W_norm rfl ?_)
    | refine W_indexArr rfl rfl ⟨by omega, by omega⟩ (W_norm rfl ?_)
    | refine W_alloc (W_norm rfl ?_)
    | (refine W_guardT rfl (fun hc => ?_) (fun hc => ?_) <;> (try rw [hc]) <;> (try simp only [decide_eq_true_eq, decide_eq_false_iff_not, beq_iff_eq, beq_eq_false_iff_ne, bne_iff_ne, bne_eq_false_iff_eq, Bool.not_eq_true', Bool.not_eq_false', Int.not_lt, Int.not_le, ne_eq, reduceCtorEq, not_true_eq_false, not_false_eq_true] at hc) <;> (try (exfalso; omega)) <;> (try refine W_norm rfl ?_))
    | (refine W_guardF rfl (fun hc => ?_) (fun hc => ?_) <;> (try rw [hc]) <;> (try simp only [decide_eq_true_eq, decide_eq_false_iff_not, beq_iff_eq, beq_eq_false_iff_ne, bne_iff_ne, bne_eq_false_iff_eq, Bool.not_eq_true', Bool.not_eq_false', Int.not_lt, Int.not_le, ne_eq, reduceCtorEq, not_true_eq_false, not_false_eq_true] at hc) <;> (try (exfalso; omega)) <;> (try refine W_norm rfl ?_))
    | (refine W_cond rfl (fun hc => ?_) (fun hc => ?_) <;> (try rw [hc]) <;> (try simp only [decide_eq_true_eq, decide_eq_false_iff_not, beq_iff_eq, beq_eq_false_iff_ne, bne_iff_ne, bne_eq_false_iff_eq, Bool.not_eq_true', Bool.not_eq_false', Int.not_lt, Int.not_le, ne_eq, reduceCtorEq, not_true_eq_false, not_false_eq_true] at hc) <;> (try (exfalso; omega)) <;> (try refine W_norm rfl ?_))
    | (refine W_pick rfl (fun hc => ?_) (fun hc => ?_) <;> (try rw [hc]) <;> (try simp only [decide_eq_true_eq, decide_eq_false_iff_not, beq_iff_eq, beq_eq_false_iff_ne, bne_iff_ne, bne_eq_false_iff_eq, Bool.not_eq_true', Bool.not_eq_false', Int.not_lt, Int.not_le, ne_eq, reduceCtorEq, not_true_eq_false, not_false_eq_true] at hc) <;> (try (exfalso; omega)) <;> (try refine W_norm rfl ?_))
    | refine W_add rfl rfl rfl (W_norm rfl ?_)
    | refine W_sub rfl rfl rfl (W_norm rfl ?_)
    | refine W_mul rfl rfl rfl (W_norm rfl ?_)
    | (refine fnK_r rfl ?_; dsimp only [gd_z, gd_s])
    | (refine fnK_n rfl ?_; dsimp only [gd_z, gd_s]))
  all_goals (refine ⟨_, rfl, ?_, rfl⟩; unfold interL; repeat' split)
  all_goals (first | rfl | (exfalso; omega))

def letL (c : Int) : Int × Int := if c < 32 then (2, 6) else if 64 ≤ c ∧ c < 127 then (0, 0) else (0, 6)

theorem w18 (c : Int) (h : Heap) : W DD (.call 18 [.sc (.int .u8 c)] h) (fun _ vs h' => ∃ v, vs = [v] ∧ v = pairA (letL c) ∧ h' = h) := by
  refine W_enter d18 ?_
  show W _ (.code m18_code [.sc (.int .u8 c), undefA, undefA, undefA, undefA, undefA, undefA, undefA, undefA, undefA, undefA, undefA, undefA, undefA] _) _
  unfold m18_code
  repeat' (first
    | refine W_fast rfl ?_
    | refine W_seq ?_
    | refine W_ops ?_
    | refine W_nil ?_
    | refine seqK_n ?_
    | refine seqK_r ?_
    | refine seqK_x ?_
    | refine blockK_r ?_
    | refine blockK_n ?_
    | refine blockK_e ?_
    | refine blockK_x rfl ?_
    | refine loopK_x ?_
    | refine loopK_r ?_
    | refine invK_x ?_
    | refine invK_r ?_
    | refine invK_n ?_
    | refine W_guard_on rfl ?_
    | refine W_guard_off rfl rfl (W_norm rfl ?_)
    | refine W_guard_u rfl (W_norm rfl ?_)
    | refine W_pick_t rfl rfl (W_norm rfl ?_)
    | refine W_pick_f rfl rfl (W_norm rfl ?_)
    | refine W_skip ?_
    | refine W_ret ?_
    | refine W_exit ?_
    | refine W_cond_t rfl ?_
    | refine W_cond_f rfl ?_
    | refine W_block ?_
    | refine W_draw rfl ?_
    | refine W_add rfl rfl (IntWalk.i64_in _ (by omega)) (W_norm rfl ?_)
    | refine W_add rfl rfl (IntWalk.i32_in _ (by omega)) (W_norm rfl ?_)
    | refine W_add rfl rfl (IntWalk.u8_in _ (by omega)) (W_norm rfl ?_)
    | refine W_sub rfl rfl (IntWalk.i64_in _ (by omega)) (W_norm rfl ?_)
    | refine W_sub rfl rfl (IntWalk.i32_in _ (by omega)) (W_norm rfl ?_)
    | refine W_sub rfl rfl (IntWalk.u8_in _ (by omega)) (W_norm rfl ?_)
    | refine W_mul rfl rfl (IntWalk.i64_in _ (by omega)) (W_norm rfl ?_)
    | refine W_mul rfl rfl (IntWalk.i32_in _ (by omega)) (W_norm rfl ?_)
    | refine W_mul rfl rfl (IntWalk.u8_in _ (by omega)) (W_norm rfl ?_)
    | refine W_convint rfl (IntWalk.i64_in _ (by omega)) (W_norm rfl ?_)
    | refine W_convint rfl (IntWalk.i32_in _ (by omega)) (W_norm rfl ?_)
    | refine W_convint rfl (IntWalk.u8_in _ (by omega)) (W_norm rfl ?_)
    | refine W_div rfl rfl (by omega) (W_norm rfl ?_)
    | refine W_mod rfl rfl (by omega) (W_norm rfl ?_)
    | refine W_indexSlice rfl rfl ⟨by omega, by omega⟩ (W_norm rfl ?_)
    | refine W_indexArr rfl rfl ⟨by omega, by omega⟩ (W_norm rfl ?_)
    | refine W_alloc (W_norm rfl ?_)
    | (refine W_guardT rfl (fun hc => ?_) (fun hc => ?_) <;> (try rw [hc]) <;> (try simp only [decide_eq_true_eq, decide_eq_false_iff_not, beq_iff_eq, beq_eq_false_iff_ne, bne_iff_ne, bne_eq_false_iff_eq, Bool.not_eq_true', Bool.not_eq_false', Int.not_lt, Int.not_le, ne_eq, reduceCtorEq, not_true_eq_false, not_false_eq_true] at hc) <;> (try (exfalso; omega)) <;> (try refine W_norm rfl ?_))
    | (refine W_guardF rfl (fun hc => ?_) (fun hc => ?_) <;> (try rw [hc]) <;> (try simp only [decide_eq_true_eq, decide_eq_false_iff_not, beq_iff_eq, beq_eq_false_iff_ne, bne_iff_ne, bne_eq_false_iff_eq, Bool.not_eq_true', Bool.not_eq_false', Int.not_lt, Int.not_le, ne_eq, reduceCtorEq, not_true_eq_false, not_false_eq_true] at hc) <;> (try (exfalso; omega)) <;> (try refine W_norm rfl ?_))
    | (refine W_cond rfl (fun hc => ?_) (fun hc => ?_) <;> (try rw [hc]) <;> (try simp only [decide_eq_true_eq, decide_eq_false_iff_not, beq_iff_eq, beq_eq_false_iff_ne, bne_iff_ne, bne_eq_false_iff_eq, Bool.not_eq_true', Bool.not_eq_false', Int.not_lt, Int.not_le, ne_eq, reduceCtorEq, not_true_eq_false, not_false_eq_true] at hc) <;> (try (exfalso; omega)) <;> (try refine W_norm rfl ?_))
    | (refine W_pick rfl (fun hc => ?_) (fun hc => ?_) <;> (try rw [hc]) <;> (try simp only [decide_eq_true_eq, decide_eq_false_iff_not, beq_iff_eq, beq_eq_false_iff_ne, bne_iff_ne, bne_eq_false_iff_eq, Bool.not_eq_true', Bool.not_eq_false', Int.not_lt, Int.not_le, ne_eq, reduceCtorEq, not_true_eq_false, not_false_eq_true] at hc) <;> (try (exfalso; omega)) <;> (try refine W_norm rfl ?_))
    | refine W_add rfl rfl rfl (W_norm rfl ?_)
    | refine W_sub rfl rfl rfl (W_norm rfl ?_)
    | refine W_mul rfl rfl rfl (W_norm rfl ?_)
    | (refine fnK_r rfl ?_; dsimp only [gd_z, gd_s])
    | (refine fnK_n rfl ?_; dsimp only [gd_z, gd_s]))
  all_goals (refine ⟨_, rfl, ?_, rfl⟩; unfold letL; repeat' split)
  all_goals (first | rfl | (exfalso; omega))

def textL (s c : Int) : Int × Int := if (s = 10 ∧ c ≠ 127) ∨ (s = 12 ∧ 32 ≤ c) then (8, s) else if s = 12 ∧ c = 7 then (0, 0) else (0, s)

theorem w19 (s c : Int) (h : Heap) : W DD (.call 19 [.sc (.int .i64 s), .sc (.int .u8 c)] h) (fun _ vs h' => ∃ v, vs = [v] ∧ v = pairA (textL s c) ∧ h' = h) := by
  refine W_enter d19 ?_
  show W _ (.code m19_code [.sc (.int .i64 s), .sc (.int .u8 c), undefA, undefA, undefA, undefA, undefA, undefA, undefA, undefA, undefA, undefA, undefA, undefA, undefA, undefA, undefA, undefA, undefA, undefA, undefA, undefA, undefA, undefA, undefA, undefA, undefA, undefA] _) _
  unfold m19_code
  repeat' (first
    | refine W_fast rfl ?_
    | refine W_seq ?_
    | refine W_ops ?_
    | refine W_nil ?_
    | refine seqK_n ?_
    | refine seqK_r ?_
    | refine seqK_x ?_
    | refine blockK_r ?_
    | refine blockK_n ?_
    | refine blockK_e ?_
    | refine blockK_x rfl ?_
    | refine loopK_x ?_
    | refine loopK_r ?_
    | refine invK_x ?_
    | refine invK_r ?_
    | refine invK_n ?_
    | refine W_guard_on rfl ?_
    | refine W_guard_off rfl rfl (W_norm rfl ?_)
    | refine W_guard_u rfl (W_norm rfl ?_)
    | refine W_pick_t rfl rfl (W_norm rfl ?_)
    | refine W_pick_f rfl rfl (W_norm rfl ?_)
    | refine W_skip ?_
    | refine W_ret ?_
    | refine W_exit ?_
    | refine W_cond_t rfl ?_
    | refine W_cond_f rfl ?_
    | refine W_block ?_
    | refine W_draw rfl ?_
    | refine W_add rfl rfl (IntWalk.i64_in _ (by omega)) (W_norm rfl ?_)
    | refine W_add rfl rfl (IntWalk.i32_in _ (by omega)) (W_norm rfl ?_)
    | refine W_add rfl rfl (IntWalk.u8_in _ (by omega)) (W_norm rfl ?_)
    | refine W_sub rfl rfl (IntWalk.i64_in _ (by omega)) (W_norm rfl ?_)
    | refine W_sub rfl rfl (IntWalk.i32_in _ (by omega)) (W_norm rfl ?_)
    | refine W_sub rfl rfl (IntWalk.u8_in _ (by omega)) (W_norm rfl ?_)
    | refine W_mul rfl rfl (IntWalk.i64_in _ (by omega)) (W_norm rfl ?_)
    | refine W_mul rfl rfl (IntWalk.i32_in _ (by omega)) (W_norm rfl ?_)
    | refine W_mul rfl rfl (IntWalk.u8_in _ (by omega)) (W_norm rfl ?_)
    | refine W_convint rfl (IntWalk.i64_in _ (by omega)) (W_norm rfl ?_)
    | refine W_convint rfl (IntWalk.i32_in _ (by omega)) (W_norm rfl ?_)
    | refine W_convint rfl (IntWalk.u8_in _ (by omega)) (W_norm rfl ?_)
    | refine W_div rfl rfl (by omega) (W_norm rfl ?_)
    | refine W_mod rfl rfl (by omega) (W_norm rfl ?_)
    | refine W_indexSlice rfl rfl ⟨by omega, by omega⟩ (W_norm rfl ?_)
    | refine W_indexArr rfl rfl ⟨by omega, by omega⟩ (W_norm rfl ?_)
    | refine W_alloc (W_norm rfl ?_)
    | (refine W_guardT rfl (fun hc => ?_) (fun hc => ?_) <;> (try rw [hc]) <;> (try simp only [decide_eq_true_eq, decide_eq_false_iff_not, beq_iff_eq, beq_eq_false_iff_ne, bne_iff_ne, bne_eq_false_iff_eq, Bool.not_eq_true', Bool.not_eq_false', Int.not_lt, Int.not_le, ne_eq, reduceCtorEq, not_true_eq_false, not_false_eq_true] at hc) <;> (try (exfalso; omega)) <;> (try refine W_norm rfl ?_))
    | (refine W_guardF rfl (fun hc => ?_) (fun hc => ?_) <;> (try rw [hc]) <;> (try simp only [decide_eq_true_eq, decide_eq_false_iff_not, beq_iff_eq, beq_eq_false_iff_ne, bne_iff_ne, bne_eq_false_iff_eq, Bool.not_eq_true', Bool.not_eq_false', Int.not_lt, Int.not_le, ne_eq, reduceCtorEq, not_true_eq_false, not_false_eq_true] at hc) <;> (try (exfalso; omega)) <;> (try refine W_norm rfl ?_))
    | (refine W_cond rfl (fun hc => ?_) (fun hc => ?_) <;> (try rw [hc]) <;> (try simp only [decide_eq_true_eq, decide_eq_false_iff_not, beq_iff_eq, beq_eq_false_iff_ne, bne_iff_ne, bne_eq_false_iff_eq, Bool.not_eq_true', Bool.not_eq_false', Int.not_lt, Int.not_le, ne_eq, reduceCtorEq, not_true_eq_false, not_false_eq_true] at hc) <;> (try (exfalso; omega)) <;> (try refine W_norm rfl ?_))
    | (refine W_pick rfl (fun hc => ?_) (fun hc => ?_) <;> (try rw [hc]) <;> (try simp only [decide_eq_true_eq, decide_eq_false_iff_not, beq_iff_eq, beq_eq_false_iff_ne, bne_iff_ne, bne_eq_false_iff_eq, Bool.not_eq_true', Bool.not_eq_false', Int.not_lt, Int.not_le, ne_eq, reduceCtorEq, not_true_eq_false, not_false_eq_true] at hc) <;> (try (exfalso; omega)) <;> (try refine W_norm rfl ?_))
    | refine W_add rfl rfl rfl (W_norm rfl ?_)
    | refine W_sub rfl rfl rfl (W_norm rfl ?_)
    | refine W_mul rfl rfl rfl (W_norm rfl ?_)
    | (refine fnK_r rfl ?_; dsimp only [gd_z, gd_s])
    | (refine fnK_n rfl ?_; dsimp only [gd_z, gd_s]))
  all_goals (refine ⟨_, rfl, ?_, rfl⟩; unfold textL; repeat' split)
  all_goals (first | rfl | (exfalso; omega))

def sequenceL (c on inn param off fin : Int) : Int × Int :=
  if c < 32 ∧ fin = 6 then (2, on) else if c < 32 ∨ 127 ≤ c then (0, on) else if c < 48 then (3, inn) else if c < 64 ∧ on = inn then (0, off)
  else if c < 60 then (4, param) else if c < 64 ∧ (on = 3 ∨ on = 7) then (3, param) else if c < 64 then (0, off) else if fin = 6 then (6, 0) else (7, 10)

theorem w17 (c on inn param off fin : Int) (h : Heap) : W DD (.call 17 [.sc (.int .u8 c), .sc (.int .i64 on), .sc (.int .i64 inn), .sc (.int .i64 param), .sc (.int .i64 off), .sc (.int .i64 fin)] h) (fun _ vs h' => ∃ v, vs = [v] ∧ v = pairA (sequenceL c on inn param off fin) ∧ h' = h) := by
  refine W_enter d17 ?_
  show W _ (.code m17_code [.sc (.int .u8 c), .sc (.int .i64 on), .sc (.int .i64 inn), .sc (.int .i64 param), .sc (.int .i64 off), .sc (.int .i64 fin), undefA, undefA, undefA, undefA, undefA, undefA, undefA, undefA, undefA, undefA, undefA, undefA, undefA, undefA, undefA, undefA, undefA, undefA, undefA, undefA, undefA, undefA, undefA, undefA, undefA, undefA, undefA, undefA, undefA, undefA, undefA, undefA, undefA, undefA, undefA, undefA, undefA, undefA, undefA, undefA, undefA, undefA, undefA, undefA, undefA, undefA, undefA, undefA, undefA, undefA, undefA, undefA, undefA, undefA, undefA, undefA, undefA, undefA, undefA, undefA, undefA, undefA] _) _
  unfold m17_code
  repeat' (first
    | refine W_fast rfl ?_
    | refine W_seq ?_
    | refine W_ops ?_
    | refine W_nil ?_
    | refine seqK_n ?_
    | refine seqK_r ?_
    | refine seqK_x ?_
    | refine blockK_r ?_
    | refine blockK_n ?_
    | refine blockK_e ?_
    | refine blockK_x rfl ?_
    | refine loopK_x ?_
    | refine loopK_r ?_
    | refine invK_x ?_
    | refine invK_r ?_
    | refine invK_n ?_
    | refine W_guard_on rfl ?_
    | refine W_guard_off rfl rfl (W_norm rfl ?_)
    | refine W_guard_u rfl (W_norm rfl ?_)
    | refine W_pick_t rfl rfl (W_norm rfl ?_)
    | refine W_pick_f rfl rfl (W_norm rfl ?_)
    | refine W_skip ?_
    | refine W_ret ?_
    | refine W_exit ?_
    | refine W_cond_t rfl ?_
    | refine W_cond_f rfl ?_
    | refine W_block ?_
    | refine W_draw rfl ?_
    | refine W_add rfl rfl (IntWalk.i64_in _ (by omega)) (W_norm rfl ?_)
    | refine W_add rfl rfl (IntWalk.i32_in _ (by omega)) (W_norm rfl ?_)
    | refine W_add rfl rfl (IntWalk.u8_in _ (by omega)) (W_norm rfl ?_)
    | refine W_sub rfl rfl (IntWalk.i64_in _ (by omega)) (W_norm rfl ?_)
    | refine W_sub rfl rfl (IntWalk.i32_in _ (by omega)) (W_norm rfl ?_)
    | refine W_sub rfl rfl (IntWalk.u8_in _ (by omega)) (W_norm rfl ?_)
    | refine W_mul rfl rfl (IntWalk.i64_in _ (by omega)) (W_norm rfl ?_)
    | refine W_mul rfl rfl (IntWalk.i32_in _ (by omega)) (W_norm rfl ?_)
    | refine W_mul rfl rfl (IntWalk.u8_in _ (by omega)) (W_norm rfl ?_)
    | refine W_convint rfl (IntWalk.i64_in _ (by omega)) (W_norm rfl ?_)
    | refine W_convint rfl (IntWalk.i32_in _ (by omega)) (W_norm rfl ?_)
    | refine W_convint rfl (IntWalk.u8_in _ (by omega)) (W_norm rfl ?_)
    | refine W_div rfl rfl (by omega) (W_norm rfl ?_)
    | refine W_mod rfl rfl (by omega) (W_norm rfl ?_)
    | refine W_indexSlice rfl rfl ⟨by omega, by omega⟩ (W_norm rfl ?_)
    | refine W_indexArr rfl rfl ⟨by omega, by omega⟩ (W_norm rfl ?_)
    | refine W_alloc (W_norm rfl ?_)
    | (refine W_guardT rfl (fun hc => ?_) (fun hc => ?_) <;> (try rw [hc]) <;> (try simp only [decide_eq_true_eq, decide_eq_false_iff_not, beq_iff_eq, beq_eq_false_iff_ne, bne_iff_ne, bne_eq_false_iff_eq, Bool.not_eq_true', Bool.not_eq_false', Int.not_lt, Int.not_le, ne_eq, reduceCtorEq, not_true_eq_false, not_false_eq_true] at hc) <;> (try (exfalso; omega)) <;> (try refine W_norm rfl ?_))
    | (refine W_guardF rfl (fun hc => ?_) (fun hc => ?_) <;> (try rw [hc]) <;> (try simp only [decide_eq_true_eq, decide_eq_false_iff_not, beq_iff_eq, beq_eq_false_iff_ne, bne_iff_ne, bne_eq_false_iff_eq, Bool.not_eq_true', Bool.not_eq_false', Int.not_lt, Int.not_le, ne_eq, reduceCtorEq, not_true_eq_false, not_false_eq_true] at hc) <;> (try (exfalso; omega)) <;> (try refine W_norm rfl ?_))
    | (refine W_cond rfl (fun hc => ?_) (fun hc => ?_) <;> (try rw [hc]) <;> (try simp only [decide_eq_true_eq, decide_eq_false_iff_not, beq_iff_eq, beq_eq_false_iff_ne, bne_iff_ne, bne_eq_false_iff_eq, Bool.not_eq_true', Bool.not_eq_false', Int.not_lt, Int.not_le, ne_eq, reduceCtorEq, not_true_eq_false, not_false_eq_true] at hc) <;> (try (exfalso; omega)) <;> (try refine W_norm rfl ?_))
    | (refine W_pick rfl (fun hc => ?_) (fun hc => ?_) <;> (try rw [hc]) <;> (try simp only [decide_eq_true_eq, decide_eq_false_iff_not, beq_iff_eq, beq_eq_false_iff_ne, bne_iff_ne, bne_eq_false_iff_eq, Bool.not_eq_true', Bool.not_eq_false', Int.not_lt, Int.not_le, ne_eq, reduceCtorEq, not_true_eq_false, not_false_eq_true] at hc) <;> (try (exfalso; omega)) <;> (try refine W_norm rfl ?_))
    | refine W_add rfl rfl rfl (W_norm rfl ?_)
    | refine W_sub rfl rfl rfl (W_norm rfl ?_)
    | refine W_mul rfl rfl rfl (W_norm rfl ?_)
    | (refine fnK_r rfl ?_; dsimp only [gd_z, gd_s])
    | (refine fnK_n rfl ?_; dsimp only [gd_z, gd_s]))
  all_goals (refine ⟨_, rfl, ?_, rfl⟩; unfold sequenceL; repeat' split)
  all_goals (first | rfl | (exfalso; omega))

def nextL (s c : Int) : Int × Int :=
  if c = 24 ∨ c = 26 then (2, 0) else if c = 27 then (0, 1) else if s = 1 then escapeL c else if s = 2 then interL c
  else if s = 3 ∨ s = 4 ∨ s = 5 then sequenceL c s 5 4 6 6 else if s = 6 then letL c else if s = 7 ∨ s = 8 ∨ s = 9 then sequenceL c s 9 8 11 7
  else if s = 10 ∨ s = 11 ∨ s = 12 ∨ s = 13 then textL s c else groundL c

theorem w12 (s c : Int) (h : Heap) : W DD (.call 12 [.sc (.int .i64 s), .sc (.int .u8 c)] h) (fun _ vs h' => ∃ v, vs = [v] ∧ v = pairA (nextL s c) ∧ h' = h) := by
  refine W_enter d12 ?_
  show W _ (.code m12_code [.sc (.int .i64 s), .sc (.int .u8 c), undefA, undefA, undefA, undefA, undefA, undefA, undefA, undefA, undefA, undefA, undefA, undefA, undefA, undefA, undefA, undefA, undefA, undefA, undefA, undefA, undefA, undefA, undefA, undefA, undefA, undefA, undefA, undefA, undefA, undefA, undefA, undefA, undefA, undefA, undefA, undefA, undefA, undefA, undefA, undefA, undefA, undefA, undefA, undefA, undefA, undefA, undefA, undefA, undefA, undefA, undefA, undefA, undefA, undefA, undefA, undefA, undefA, undefA, undefA, undefA, undefA] _) _
  unfold m12_code
  repeat' (first
    | refine W_fast rfl ?_
    | (refine W_callsN 15 rfl (w15 _ _) rfl ?_; rintro _ _ ⟨rfl, rfl⟩; refine W_norm rfl ?_)
    | (refine W_callsN 16 rfl (w16 _ _) rfl ?_; rintro _ _ ⟨rfl, rfl⟩; refine W_norm rfl ?_)
    | (refine W_callsN 17 rfl (w17 _ _ _ _ _ _ _) rfl ?_; rintro _ _ ⟨rfl, rfl⟩; refine W_norm rfl ?_)
    | (refine W_callsN 18 rfl (w18 _ _) rfl ?_; rintro _ _ ⟨rfl, rfl⟩; refine W_norm rfl ?_)
    | (refine W_callsN 19 rfl (w19 _ _ _) rfl ?_; rintro _ _ ⟨rfl, rfl⟩; refine W_norm rfl ?_)
    | (refine W_callsN 20 rfl (w20 _ _) rfl ?_; rintro _ _ ⟨rfl, rfl⟩; refine W_norm rfl ?_)
    | refine W_seq ?_
    | refine W_ops ?_
    | refine W_nil ?_
    | refine seqK_n ?_
    | refine seqK_r ?_
    | refine seqK_x ?_
    | refine blockK_r ?_
    | refine blockK_n ?_
    | refine blockK_e ?_
    | refine blockK_x rfl ?_
    | refine loopK_x ?_
    | refine loopK_r ?_
    | refine invK_x ?_
    | refine invK_r ?_
    | refine invK_n ?_
    | refine W_guard_on rfl ?_
    | refine W_guard_off rfl rfl (W_norm rfl ?_)
    | refine W_guard_u rfl (W_norm rfl ?_)
    | refine W_pick_t rfl rfl (W_norm rfl ?_)
    | refine W_pick_f rfl rfl (W_norm rfl ?_)
    | refine W_skip ?_
    | refine W_ret ?_
    | refine W_exit ?_
    | refine W_cond_t rfl ?_
    | refine W_cond_f rfl ?_
    | refine W_block ?_
    | refine W_draw rfl ?_
    | refine W_add rfl rfl (IntWalk.i64_in _ (by omega)) (W_norm rfl ?_)
    | refine W_add rfl rfl (IntWalk.i32_in _ (by omega)) (W_norm rfl ?_)
    | refine W_add rfl rfl (IntWalk.u8_in _ (by omega)) (W_norm rfl ?_)
    | refine W_sub rfl rfl (IntWalk.i64_in _ (by omega)) (W_norm rfl ?_)
    | refine W_sub rfl rfl (IntWalk.i32_in _ (by omega)) (W_norm rfl ?_)
    | refine W_sub rfl rfl (IntWalk.u8_in _ (by omega)) (W_norm rfl ?_)
    | refine W_mul rfl rfl (IntWalk.i64_in _ (by omega)) (W_norm rfl ?_)
    | refine W_mul rfl rfl (IntWalk.i32_in _ (by omega)) (W_norm rfl ?_)
    | refine W_mul rfl rfl (IntWalk.u8_in _ (by omega)) (W_norm rfl ?_)
    | refine W_convint rfl (IntWalk.i64_in _ (by omega)) (W_norm rfl ?_)
    | refine W_convint rfl (IntWalk.i32_in _ (by omega)) (W_norm rfl ?_)
    | refine W_convint rfl (IntWalk.u8_in _ (by omega)) (W_norm rfl ?_)
    | refine W_div rfl rfl (by omega) (W_norm rfl ?_)
    | refine W_mod rfl rfl (by omega) (W_norm rfl ?_)
    | refine W_indexSlice rfl rfl ⟨by omega, by omega⟩ (W_norm rfl ?_)
    | refine W_indexArr rfl rfl ⟨by omega, by omega⟩ (W_norm rfl ?_)
    | refine W_alloc (W_norm rfl ?_)
    | (refine W_guardT rfl (fun hc => ?_) (fun hc => ?_) <;> (try rw [hc]) <;> (try simp only [decide_eq_true_eq, decide_eq_false_iff_not, beq_iff_eq, beq_eq_false_iff_ne, bne_iff_ne, bne_eq_false_iff_eq, Bool.not_eq_true', Bool.not_eq_false', Int.not_lt, Int.not_le, ne_eq, reduceCtorEq, not_true_eq_false, not_false_eq_true] at hc) <;> (try (exfalso; omega)) <;> (try refine W_norm rfl ?_))
    | (refine W_guardF rfl (fun hc => ?_) (fun hc => ?_) <;> (try rw [hc]) <;> (try simp only [decide_eq_true_eq, decide_eq_false_iff_not, beq_iff_eq, beq_eq_false_iff_ne, bne_iff_ne, bne_eq_false_iff_eq, Bool.not_eq_true', Bool.not_eq_false', Int.not_lt, Int.not_le, ne_eq, reduceCtorEq, not_true_eq_false, not_false_eq_true] at hc) <;> (try (exfalso; omega)) <;> (try refine W_norm rfl ?_))
    | (refine W_cond rfl (fun hc => ?_) (fun hc => ?_) <;> (try rw [hc]) <;> (try simp only [decide_eq_true_eq, decide_eq_false_iff_not, beq_iff_eq, beq_eq_false_iff_ne, bne_iff_ne, bne_eq_false_iff_eq, Bool.not_eq_true', Bool.not_eq_false', Int.not_lt, Int.not_le, ne_eq, reduceCtorEq, not_true_eq_false, not_false_eq_true] at hc) <;> (try (exfalso; omega)) <;> (try refine W_norm rfl ?_))
    | (refine W_pick rfl (fun hc => ?_) (fun hc => ?_) <;> (try rw [hc]) <;> (try simp only [decide_eq_true_eq, decide_eq_false_iff_not, beq_iff_eq, beq_eq_false_iff_ne, bne_iff_ne, bne_eq_false_iff_eq, Bool.not_eq_true', Bool.not_eq_false', Int.not_lt, Int.not_le, ne_eq, reduceCtorEq, not_true_eq_false, not_false_eq_true] at hc) <;> (try (exfalso; omega)) <;> (try refine W_norm rfl ?_))
    | refine W_add rfl rfl rfl (W_norm rfl ?_)
    | refine W_sub rfl rfl rfl (W_norm rfl ?_)
    | refine W_mul rfl rfl rfl (W_norm rfl ?_)
    | (refine fnK_r rfl ?_; dsimp only [gd_z, gd_s])
    | (refine fnK_n rfl ?_; dsimp only [gd_z, gd_s]))
  all_goals (refine ⟨_, rfl, ?_, rfl⟩; unfold nextL; repeat' split)
  all_goals (first | rfl | (exfalso; omega) | (subst_vars; rfl))
end Go.Proofs.Ytdaeglcplpmlpaa
