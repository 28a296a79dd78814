/- StatesNames, walked. -/
import Derived.Test.YtdaeglcplpmlpaaJxW06
set_option linter.unusedSimpArgs false
set_option linter.unusedVariables false
set_option maxHeartbeats 4000000
namespace Go.Proofs.Ytdaeglcplpmlpaa
open Go Go.Jx Go.IntWalk

def clearsL (a b : Int) : Bool := decide (b ≠ a ∧ (b = 1 ∨ b = 3 ∨ b = 7 ∨ b = 12))
def endsL (a b : Int) : Bool := decide (b ≠ a ∧ (a = 10 ∨ a = 12))

theorem w9 (a b : Int) (h : Heap) : W DD (.call 9 [.sc (.int .i64 a), .sc (.int .i64 b)] h) (fun _ vs h' => ∃ v, vs = [v] ∧ v = .sc (.bool (clearsL a b)) ∧ h' = h) := by
  refine W_enter d9 ?_
  show W _ (.code m9_code [.sc (.int .i64 a), .sc (.int .i64 b), undefA, undefA, undefA, undefA, undefA, undefA, undefA, undefA, undefA, undefA, undefA, undefA, undefA, undefA, undefA, undefA, undefA, undefA, undefA, undefA, undefA, undefA] _) _
  unfold m9_code
  repeat' (first
    | refine W_seq ?_
    | refine W_ops ?_
    | refine W_nil ?_
    | refine seqK_n ?_
    | refine seqK_r ?_
    | refine seqK_x ?_
    | refine blockK_r ?_
    | refine blockK_n ?_
    | refine blockK_e ?_
    | refine blockK_x rfl ?_
    | refine loopK_x ?_
    | refine loopK_r ?_
    | refine invK_x ?_
    | refine invK_r ?_
    | refine invK_n ?_
    | refine W_guard_on rfl ?_
    | refine W_guard_off rfl rfl (W_put (by dsimp only [put, List.set, rd_k, rd_z, rd_s]) ?_)
    | refine W_guard_u rfl (W_put (by dsimp only [put, List.set, rd_k, rd_z, rd_s]) ?_)
    | refine W_move rfl (W_put (by dsimp only [put, List.set, rd_k, rd_z, rd_s]) ?_)
    | refine W_extract rfl rfl (W_put (by dsimp only [put, List.set, rd_k, rd_z, rd_s]) ?_)
    | refine W_pick_t rfl rfl (W_put (by dsimp only [put, List.set, rd_k, rd_z, rd_s]) ?_)
    | refine W_pick_f rfl rfl (W_put (by dsimp only [put, List.set, rd_k, rd_z, rd_s]) ?_)
    | refine W_lss rfl rfl (W_put (by dsimp only [put, List.set, rd_k, rd_z, rd_s]) ?_)
    | refine W_leq rfl rfl (W_put (by dsimp only [put, List.set, rd_k, rd_z, rd_s]) ?_)
    | refine W_gtr rfl rfl (W_put (by dsimp only [put, List.set, rd_k, rd_z, rd_s]) ?_)
    | refine W_geq rfl rfl (W_put (by dsimp only [put, List.set, rd_k, rd_z, rd_s]) ?_)
    | refine W_eql rfl rfl (W_put (by dsimp only [put, List.set, rd_k, rd_z, rd_s]) ?_)
    | refine W_neq rfl rfl (W_put (by dsimp only [put, List.set, rd_k, rd_z, rd_s]) ?_)
    | refine W_eqlb rfl rfl rfl (W_put (by dsimp only [put, List.set, rd_k, rd_z, rd_s]) ?_)
    | refine W_neqb rfl rfl rfl (W_put (by dsimp only [put, List.set, rd_k, rd_z, rd_s]) ?_)
    | refine W_not rfl (W_put (by dsimp only [put, List.set, rd_k, rd_z, rd_s]) ?_)
    | refine W_add rfl rfl (i64_in _ (by omega)) (W_put (by dsimp only [put, List.set, rd_k, rd_z, rd_s]) ?_)
    | refine W_add rfl rfl (i32_in _ (by omega)) (W_put (by dsimp only [put, List.set, rd_k, rd_z, rd_s]) ?_)
    | refine W_add rfl rfl (u8_in _ (by omega)) (W_put (by dsimp only [put, List.set, rd_k, rd_z, rd_s]) ?_)
    | refine W_sub rfl rfl (i64_in _ (by omega)) (W_put (by dsimp only [put, List.set, rd_k, rd_z, rd_s]) ?_)
    | refine W_sub rfl rfl (i32_in _ (by omega)) (W_put (by dsimp only [put, List.set, rd_k, rd_z, rd_s]) ?_)
    | refine W_sub rfl rfl (u8_in _ (by omega)) (W_put (by dsimp only [put, List.set, rd_k, rd_z, rd_s]) ?_)
    | refine W_convint rfl (i64_in _ (by omega)) (W_put (by dsimp only [put, List.set, rd_k, rd_z, rd_s]) ?_)
    | refine W_convint rfl (i32_in _ (by omega)) (W_put (by dsimp only [put, List.set, rd_k, rd_z, rd_s]) ?_)
    | refine W_convint rfl (u8_in _ (by omega)) (W_put (by dsimp only [put, List.set, rd_k, rd_z, rd_s]) ?_)
    | refine W_skip ?_
    | refine W_ret ?_
    | refine W_exit ?_
    | refine W_cond_t rfl ?_
    | refine W_cond_f rfl ?_
    | refine W_block ?_
    | (refine W_guardT rfl (fun hc => ?_) (fun hc => ?_) <;> (try rw [hc]) <;> (try simp only [decide_eq_true_eq, decide_eq_false_iff_not, beq_iff_eq, beq_eq_false_iff_ne, bne_iff_ne, bne_eq_false_iff_eq, Bool.not_eq_true', Bool.not_eq_false', Int.not_lt, Int.not_le, ne_eq, reduceCtorEq] at hc) <;> (try (exfalso; omega)) <;> (try refine (W_put (by dsimp only [put, List.set, rd_k, rd_z, rd_s]) ?_)))
    | (refine W_guardF rfl (fun hc => ?_) (fun hc => ?_) <;> (try rw [hc]) <;> (try simp only [decide_eq_true_eq, decide_eq_false_iff_not, beq_iff_eq, beq_eq_false_iff_ne, bne_iff_ne, bne_eq_false_iff_eq, Bool.not_eq_true', Bool.not_eq_false', Int.not_lt, Int.not_le, ne_eq, reduceCtorEq] at hc) <;> (try (exfalso; omega)) <;> (try refine (W_put (by dsimp only [put, List.set, rd_k, rd_z, rd_s]) ?_)))
    | (refine W_cond rfl (fun hc => ?_) (fun hc => ?_) <;> (try rw [hc]) <;> (try simp only [decide_eq_true_eq, decide_eq_false_iff_not, beq_iff_eq, beq_eq_false_iff_ne, bne_iff_ne, bne_eq_false_iff_eq, Bool.not_eq_true', Bool.not_eq_false', Int.not_lt, Int.not_le, ne_eq, reduceCtorEq] at hc) <;> (try (exfalso; omega)) <;> (try refine (W_put (by dsimp only [put, List.set, rd_k, rd_z, rd_s]) ?_)))
    | (refine W_pick rfl (fun hc => ?_) (fun hc => ?_) <;> (try rw [hc]) <;> (try simp only [decide_eq_true_eq, decide_eq_false_iff_not, beq_iff_eq, beq_eq_false_iff_ne, bne_iff_ne, bne_eq_false_iff_eq, Bool.not_eq_true', Bool.not_eq_false', Int.not_lt, Int.not_le, ne_eq, reduceCtorEq] at hc) <;> (try (exfalso; omega)) <;> (try refine (W_put (by dsimp only [put, List.set, rd_k, rd_z, rd_s]) ?_)))
    | (refine fnK_r rfl ?_; dsimp only [gd_z, gd_s])
    | (refine fnK_n rfl ?_; dsimp only [gd_z, gd_s]))
  all_goals (refine ⟨_, rfl, ?_, rfl⟩; congr 2; rw [Bool.eq_iff_iff]; simp only [clearsL, beq_iff_eq, decide_eq_true_eq]; (try simp only [Bool.false_eq_true, true_iff, false_iff]); omega)

theorem w10 (a b : Int) (h : Heap) : W DD (.call 10 [.sc (.int .i64 a), .sc (.int .i64 b)] h) (fun _ vs h' => ∃ v, vs = [v] ∧ v = .sc (.bool (endsL a b)) ∧ h' = h) := by
  refine W_enter d10 ?_
  show W _ (.code m10_code [.sc (.int .i64 a), .sc (.int .i64 b), undefA, undefA, undefA, undefA, undefA, undefA, undefA, undefA, undefA, undefA, undefA, undefA, undefA, undefA] _) _
  unfold m10_code
  repeat' (first
    | refine W_seq ?_
    | refine W_ops ?_
    | refine W_nil ?_
    | refine seqK_n ?_
    | refine seqK_r ?_
    | refine seqK_x ?_
    | refine blockK_r ?_
    | refine blockK_n ?_
    | refine blockK_e ?_
    | refine blockK_x rfl ?_
    | refine loopK_x ?_
    | refine loopK_r ?_
    | refine invK_x ?_
    | refine invK_r ?_
    | refine invK_n ?_
    | refine W_guard_on rfl ?_
    | refine W_guard_off rfl rfl (W_put (by dsimp only [put, List.set, rd_k, rd_z, rd_s]) ?_)
    | refine W_guard_u rfl (W_put (by dsimp only [put, List.set, rd_k, rd_z, rd_s]) ?_)
    | refine W_move rfl (W_put (by dsimp only [put, List.set, rd_k, rd_z, rd_s]) ?_)
    | refine W_extract rfl rfl (W_put (by dsimp only [put, List.set, rd_k, rd_z, rd_s]) ?_)
    | refine W_pick_t rfl rfl (W_put (by dsimp only [put, List.set, rd_k, rd_z, rd_s]) ?_)
    | refine W_pick_f rfl rfl (W_put (by dsimp only [put, List.set, rd_k, rd_z, rd_s]) ?_)
    | refine W_lss rfl rfl (W_put (by dsimp only [put, List.set, rd_k, rd_z, rd_s]) ?_)
    | refine W_leq rfl rfl (W_put (by dsimp only [put, List.set, rd_k, rd_z, rd_s]) ?_)
    | refine W_gtr rfl rfl (W_put (by dsimp only [put, List.set, rd_k, rd_z, rd_s]) ?_)
    | refine W_geq rfl rfl (W_put (by dsimp only [put, List.set, rd_k, rd_z, rd_s]) ?_)
    | refine W_eql rfl rfl (W_put (by dsimp only [put, List.set, rd_k, rd_z, rd_s]) ?_)
    | refine W_neq rfl rfl (W_put (by dsimp only [put, List.set, rd_k, rd_z, rd_s]) ?_)
    | refine W_eqlb rfl rfl rfl (W_put (by dsimp only [put, List.set, rd_k, rd_z, rd_s]) ?_)
    | refine W_neqb rfl rfl rfl (W_put (by dsimp only [put, List.set, rd_k, rd_z, rd_s]) ?_)
    | refine W_not rfl (W_put (by dsimp only [put, List.set, rd_k, rd_z, rd_s]) ?_)
    | refine W_add rfl rfl (i64_in _ (by omega)) (W_put (by dsimp only [put, List.set, rd_k, rd_z, rd_s]) ?_)
    | refine W_add rfl rfl (i32_in _ (by omega)) (W_put (by dsimp only [put, List.set, rd_k, rd_z, rd_s]) ?_)
    | refine W_add rfl rfl (u8_in _ (by omega)) (W_put (by dsimp only [put, List.set, rd_k, rd_z, rd_s]) ?_)
    | refine W_sub rfl rfl (i64_in _ (by omega)) (W_put (by dsimp only [put, List.set, rd_k, rd_z, rd_s]) ?_)
    | refine W_sub rfl rfl (i32_in _ (by omega)) (W_put (by dsimp only [put, List.set, rd_k, rd_z, rd_s]) ?_)
    | refine W_sub rfl rfl (u8_in _ (by omega)) (W_put (by dsimp only [put, List.set, rd_k, rd_z, rd_s]) ?_)
    | refine W_convint rfl (i64_in _ (by omega)) (W_put (by dsimp only [put, List.set, rd_k, rd_z, rd_s]) ?_)
    | refine W_convint rfl (i32_in _ (by omega)) (W_put (by dsimp only [put, List.set, rd_k, rd_z, rd_s]) ?_)
    | refine W_convint rfl (u8_in _ (by omega)) (W_put (by dsimp only [put, List.set, rd_k, rd_z, rd_s]) ?_)
    | refine W_skip ?_
    | refine W_ret ?_
    | refine W_exit ?_
    | refine W_cond_t rfl ?_
    | refine W_cond_f rfl ?_
    | refine W_block ?_
    | (refine W_guardT rfl (fun hc => ?_) (fun hc => ?_) <;> (try rw [hc]) <;> (try simp only [decide_eq_true_eq, decide_eq_false_iff_not, beq_iff_eq, beq_eq_false_iff_ne, bne_iff_ne, bne_eq_false_iff_eq, Bool.not_eq_true', Bool.not_eq_false', Int.not_lt, Int.not_le, ne_eq, reduceCtorEq] at hc) <;> (try (exfalso; omega)) <;> (try refine (W_put (by dsimp only [put, List.set, rd_k, rd_z, rd_s]) ?_)))
    | (refine W_guardF rfl (fun hc => ?_) (fun hc => ?_) <;> (try rw [hc]) <;> (try simp only [decide_eq_true_eq, decide_eq_false_iff_not, beq_iff_eq, beq_eq_false_iff_ne, bne_iff_ne, bne_eq_false_iff_eq, Bool.not_eq_true', Bool.not_eq_false', Int.not_lt, Int.not_le, ne_eq, reduceCtorEq] at hc) <;> (try (exfalso; omega)) <;> (try refine (W_put (by dsimp only [put, List.set, rd_k, rd_z, rd_s]) ?_)))
    | (refine W_cond rfl (fun hc => ?_) (fun hc => ?_) <;> (try rw [hc]) <;> (try simp only [decide_eq_true_eq, decide_eq_false_iff_not, beq_iff_eq, beq_eq_false_iff_ne, bne_iff_ne, bne_eq_false_iff_eq, Bool.not_eq_true', Bool.not_eq_false', Int.not_lt, Int.not_le, ne_eq, reduceCtorEq] at hc) <;> (try (exfalso; omega)) <;> (try refine (W_put (by dsimp only [put, List.set, rd_k, rd_z, rd_s]) ?_)))
    | (refine W_pick rfl (fun hc => ?_) (fun hc => ?_) <;> (try rw [hc]) <;> (try simp only [decide_eq_true_eq, decide_eq_false_iff_not, beq_iff_eq, beq_eq_false_iff_ne, bne_iff_ne, bne_eq_false_iff_eq, Bool.not_eq_true', Bool.not_eq_false', Int.not_lt, Int.not_le, ne_eq, reduceCtorEq] at hc) <;> (try (exfalso; omega)) <;> (try refine (W_put (by dsimp only [put, List.set, rd_k, rd_z, rd_s]) ?_)))
    | (refine fnK_r rfl ?_; dsimp only [gd_z, gd_s])
    | (refine fnK_n rfl ?_; dsimp only [gd_z, gd_s]))
  all_goals (refine ⟨_, rfl, ?_, rfl⟩; congr 2; rw [Bool.eq_iff_iff]; simp only [endsL, beq_iff_eq, decide_eq_true_eq]; (try simp only [Bool.false_eq_true, true_iff, false_iff]); omega)

theorem awake_run (h : Heap) : run DD 400 (.call 8 [] h) = some (.ret, [.sc (.bool true)], h) := by kernel_rfl
theorem w8 (h : Heap) : W DD (.call 8 [] h) (fun _ vs h' => ∃ v, vs = [v] ∧ v = .sc (.bool true) ∧ h' = h) := W_run (awake_run h) ⟨_, rfl, rfl, rfl⟩
theorem leads_run1 (h : Heap) : run DD 400 (.call 11 [.sc (.int .i64 12), .sc (.int .u8 7), .sc (.int .i64 0), .sc (.int .i64 0)] h) = some (.ret, [.sc (.bool true)], h) := by kernel_rfl
theorem leads_run2 (h : Heap) : run DD 400 (.call 11 [.sc (.int .i64 99), .sc (.int .u8 65), .sc (.int .i64 1), .sc (.int .i64 0)] h) = some (.ret, [.sc (.bool true)], h) := by kernel_rfl
theorem w11a (h : Heap) : W DD (.call 11 [.sc (.int .i64 12), .sc (.int .u8 7), .sc (.int .i64 0), .sc (.int .i64 0)] h) (fun _ vs h' => ∃ v, vs = [v] ∧ v = .sc (.bool true) ∧ h' = h) := W_run (leads_run1 h) ⟨_, rfl, rfl, rfl⟩
theorem w11b (h : Heap) : W DD (.call 11 [.sc (.int .i64 99), .sc (.int .u8 65), .sc (.int .i64 1), .sc (.int .i64 0)] h) (fun _ vs h' => ∃ v, vs = [v] ∧ v = .sc (.bool true) ∧ h' = h) := W_run (leads_run2 h) ⟨_, rfl, rfl, rfl⟩

def I4out (h : Heap) : Nat → List AV → Heap → Prop := fun n e h' => ∃ (a : Int) (u2 u3 u4 u5 u6 u7 u8 u9 u10 u11 u12 u13 u14 u15 u16 u17 u18 u19 u20 u21 u22 u23 u24 u25 u26 u27 u28 u29 u30 u31 u32 u33 u34 u35 u36 u37 u38 u39 u40 u41 u42 u43 u44 u45 u46 u47 u48 u49 u50 u51 u52 u53 u54 u55 u56 u57 u58 u59 : AV), e = [.sc (.bool false), .sc (.int .i64 a), u2, u3, u4, u5, u6, u7, u8, u9, u10, u11, u12, u13, u14, u15, u16, u17, u18, u19, u20, u21, u22, u23, u24, u25, u26, u27, u28, u29, u30, u31, u32, u33, u34, u35, u36, u37, u38, u39, u40, u41, u42, u43, u44, u45, u46, u47, u48, u49, u50, u51, u52, u53, u54, u55, u56, u57, u58, u59] ∧ -1 ≤ a ∧ a ≤ 15 ∧ n = (15 - a).toNat ∧ h = h'
def I4in (h : Heap) (a : Int) : Nat → List AV → Heap → Prop := fun n e h' => ∃ (b : Int) (u3 u4 u5 u6 u7 u8 u9 u10 u11 u12 u13 u14 u15 u16 u17 u18 u19 u20 u21 u22 u23 u24 u25 u26 u27 u28 u29 u30 u31 u32 u33 u34 u35 u36 u37 u38 u39 u40 u41 u42 u43 u44 u45 u46 u47 u48 u49 u50 u51 u52 u53 u54 u55 u56 u57 u58 u59 : AV), e = [.sc (.bool false), .sc (.int .i64 a), .sc (.int .i64 b), u3, u4, u5, u6, u7, u8, u9, u10, u11, u12, u13, u14, u15, u16, u17, u18, u19, u20, u21, u22, u23, u24, u25, u26, u27, u28, u29, u30, u31, u32, u33, u34, u35, u36, u37, u38, u39, u40, u41, u42, u43, u44, u45, u46, u47, u48, u49, u50, u51, u52, u53, u54, u55, u56, u57, u58, u59] ∧ -1 ≤ b ∧ b ≤ 15 ∧ n = (15 - b).toNat ∧ h = h'

theorem w4 (h : Heap) : W DD (.call 4 [] h) (fun _ vs h' => ∃ v, vs = [v] ∧ v = .sc (.bool true) ∧ h' = h) := by
  refine W_enter d4 ?_
  show W _ (.code m4_code [undefA, undefA, undefA, undefA, undefA, undefA, undefA, undefA, undefA, undefA, undefA, undefA, undefA, undefA, undefA, undefA, undefA, undefA, undefA, undefA, undefA, undefA, undefA, undefA, undefA, undefA, undefA, undefA, undefA, undefA, undefA, undefA, undefA, undefA, undefA, undefA, undefA, undefA, undefA, undefA, undefA, undefA, undefA, undefA, undefA, undefA, undefA, undefA, undefA, undefA, undefA, undefA, undefA, undefA, undefA, undefA, undefA, undefA, undefA, undefA] _) _
  unfold m4_code
  repeat' (first
    | refine W_seq ?_
    | refine W_ops ?_
    | refine W_nil ?_
    | refine seqK_n ?_
    | refine seqK_r ?_
    | refine seqK_x ?_
    | refine blockK_r ?_
    | refine blockK_n ?_
    | refine blockK_e ?_
    | refine blockK_x rfl ?_
    | refine loopK_x ?_
    | refine loopK_r ?_
    | refine invK_x ?_
    | refine invK_r ?_
    | refine invK_n ?_
    | refine W_guard_on rfl ?_
    | refine W_guard_off rfl rfl (W_put (by dsimp only [put, List.set, rd_k, rd_z, rd_s]) ?_)
    | refine W_guard_u rfl (W_put (by dsimp only [put, List.set, rd_k, rd_z, rd_s]) ?_)
    | refine W_move rfl (W_put (by dsimp only [put, List.set, rd_k, rd_z, rd_s]) ?_)
    | refine W_extract rfl rfl (W_put (by dsimp only [put, List.set, rd_k, rd_z, rd_s]) ?_)
    | refine W_pick_t rfl rfl (W_put (by dsimp only [put, List.set, rd_k, rd_z, rd_s]) ?_)
    | refine W_pick_f rfl rfl (W_put (by dsimp only [put, List.set, rd_k, rd_z, rd_s]) ?_)
    | refine W_lss rfl rfl (W_put (by dsimp only [put, List.set, rd_k, rd_z, rd_s]) ?_)
    | refine W_leq rfl rfl (W_put (by dsimp only [put, List.set, rd_k, rd_z, rd_s]) ?_)
    | refine W_gtr rfl rfl (W_put (by dsimp only [put, List.set, rd_k, rd_z, rd_s]) ?_)
    | refine W_geq rfl rfl (W_put (by dsimp only [put, List.set, rd_k, rd_z, rd_s]) ?_)
    | refine W_eql rfl rfl (W_put (by dsimp only [put, List.set, rd_k, rd_z, rd_s]) ?_)
    | refine W_neq rfl rfl (W_put (by dsimp only [put, List.set, rd_k, rd_z, rd_s]) ?_)
    | refine W_eqlb rfl rfl rfl (W_put (by dsimp only [put, List.set, rd_k, rd_z, rd_s]) ?_)
    | refine W_neqb rfl rfl rfl (W_put (by dsimp only [put, List.set, rd_k, rd_z, rd_s]) ?_)
    | refine W_not rfl (W_put (by dsimp only [put, List.set, rd_k, rd_z, rd_s]) ?_)
    | refine W_add rfl rfl (i64_in _ (by omega)) (W_put (by dsimp only [put, List.set, rd_k, rd_z, rd_s]) ?_)
    | refine W_add rfl rfl (i32_in _ (by omega)) (W_put (by dsimp only [put, List.set, rd_k, rd_z, rd_s]) ?_)
    | refine W_add rfl rfl (u8_in _ (by omega)) (W_put (by dsimp only [put, List.set, rd_k, rd_z, rd_s]) ?_)
    | refine W_sub rfl rfl (i64_in _ (by omega)) (W_put (by dsimp only [put, List.set, rd_k, rd_z, rd_s]) ?_)
    | refine W_sub rfl rfl (i32_in _ (by omega)) (W_put (by dsimp only [put, List.set, rd_k, rd_z, rd_s]) ?_)
    | refine W_sub rfl rfl (u8_in _ (by omega)) (W_put (by dsimp only [put, List.set, rd_k, rd_z, rd_s]) ?_)
    | refine W_convint rfl (i64_in _ (by omega)) (W_put (by dsimp only [put, List.set, rd_k, rd_z, rd_s]) ?_)
    | refine W_convint rfl (i32_in _ (by omega)) (W_put (by dsimp only [put, List.set, rd_k, rd_z, rd_s]) ?_)
    | refine W_convint rfl (u8_in _ (by omega)) (W_put (by dsimp only [put, List.set, rd_k, rd_z, rd_s]) ?_)
    | refine W_skip ?_
    | refine W_ret ?_
    | refine W_exit ?_
    | refine W_cond_t rfl ?_
    | refine W_cond_f rfl ?_
    | refine W_block ?_
    | (refine W_guardT rfl (fun hc => ?_) (fun hc => ?_) <;> (try rw [hc]) <;> (try simp only [decide_eq_true_eq, decide_eq_false_iff_not, beq_iff_eq, beq_eq_false_iff_ne, bne_iff_ne, bne_eq_false_iff_eq, Bool.not_eq_true', Bool.not_eq_false', Int.not_lt, Int.not_le, ne_eq, reduceCtorEq] at hc) <;> (try (exfalso; omega)) <;> (try refine (W_put (by dsimp only [put, List.set, rd_k, rd_z, rd_s]) ?_)))
    | (refine W_guardF rfl (fun hc => ?_) (fun hc => ?_) <;> (try rw [hc]) <;> (try simp only [decide_eq_true_eq, decide_eq_false_iff_not, beq_iff_eq, beq_eq_false_iff_ne, bne_iff_ne, bne_eq_false_iff_eq, Bool.not_eq_true', Bool.not_eq_false', Int.not_lt, Int.not_le, ne_eq, reduceCtorEq] at hc) <;> (try (exfalso; omega)) <;> (try refine (W_put (by dsimp only [put, List.set, rd_k, rd_z, rd_s]) ?_)))
    | (refine W_cond rfl (fun hc => ?_) (fun hc => ?_) <;> (try rw [hc]) <;> (try simp only [decide_eq_true_eq, decide_eq_false_iff_not, beq_iff_eq, beq_eq_false_iff_ne, bne_iff_ne, bne_eq_false_iff_eq, Bool.not_eq_true', Bool.not_eq_false', Int.not_lt, Int.not_le, ne_eq, reduceCtorEq] at hc) <;> (try (exfalso; omega)) <;> (try refine (W_put (by dsimp only [put, List.set, rd_k, rd_z, rd_s]) ?_)))
    | (refine W_pick rfl (fun hc => ?_) (fun hc => ?_) <;> (try rw [hc]) <;> (try simp only [decide_eq_true_eq, decide_eq_false_iff_not, beq_iff_eq, beq_eq_false_iff_ne, bne_iff_ne, bne_eq_false_iff_eq, Bool.not_eq_true', Bool.not_eq_false', Int.not_lt, Int.not_le, ne_eq, reduceCtorEq] at hc) <;> (try (exfalso; omega)) <;> (try refine (W_put (by dsimp only [put, List.set, rd_k, rd_z, rd_s]) ?_)))
    | (refine fnK_r rfl ?_; dsimp only [gd_z, gd_s])
    | (refine fnK_n rfl ?_; dsimp only [gd_z, gd_s]))
  refine W_loop (I4out h) 16 ⟨-1, _, _, _, _, _, _, _, _, _, _, _, _, _, _, _, _, _, _, _, _, _, _, _, _, _, _, _, _, _, _, _, _, _, _, _, _, _, _, _, _, _, _, _, _, _, _, _, _, _, _, _, _, _, _, _, _, _, _, rfl, by omega, by omega, by omega, rfl⟩ ?_
  rintro n _ _ ⟨a, u2, u3, u4, u5, u6, u7, u8, u9, u10, u11, u12, u13, u14, u15, u16, u17, u18, u19, u20, u21, u22, u23, u24, u25, u26, u27, u28, u29, u30, u31, u32, u33, u34, u35, u36, u37, u38, u39, u40, u41, u42, u43, u44, u45, u46, u47, u48, u49, u50, u51, u52, u53, u54, u55, u56, u57, u58, u59, rfl, ha1, ha2, rfl, rfl⟩
  unfold m4_l2
  repeat' (first
    | refine W_seq ?_
    | refine W_ops ?_
    | refine W_nil ?_
    | refine seqK_n ?_
    | refine seqK_r ?_
    | refine seqK_x ?_
    | refine blockK_r ?_
    | refine blockK_n ?_
    | refine blockK_e ?_
    | refine blockK_x rfl ?_
    | refine loopK_x ?_
    | refine loopK_r ?_
    | refine invK_x ?_
    | refine invK_r ?_
    | refine invK_n ?_
    | refine W_guard_on rfl ?_
    | refine W_guard_off rfl rfl (W_put (by dsimp only [put, List.set, rd_k, rd_z, rd_s]) ?_)
    | refine W_guard_u rfl (W_put (by dsimp only [put, List.set, rd_k, rd_z, rd_s]) ?_)
    | refine W_move rfl (W_put (by dsimp only [put, List.set, rd_k, rd_z, rd_s]) ?_)
    | refine W_extract rfl rfl (W_put (by dsimp only [put, List.set, rd_k, rd_z, rd_s]) ?_)
    | refine W_pick_t rfl rfl (W_put (by dsimp only [put, List.set, rd_k, rd_z, rd_s]) ?_)
    | refine W_pick_f rfl rfl (W_put (by dsimp only [put, List.set, rd_k, rd_z, rd_s]) ?_)
    | refine W_lss rfl rfl (W_put (by dsimp only [put, List.set, rd_k, rd_z, rd_s]) ?_)
    | refine W_leq rfl rfl (W_put (by dsimp only [put, List.set, rd_k, rd_z, rd_s]) ?_)
    | refine W_gtr rfl rfl (W_put (by dsimp only [put, List.set, rd_k, rd_z, rd_s]) ?_)
    | refine W_geq rfl rfl (W_put (by dsimp only [put, List.set, rd_k, rd_z, rd_s]) ?_)
    | refine W_eql rfl rfl (W_put (by dsimp only [put, List.set, rd_k, rd_z, rd_s]) ?_)
    | refine W_neq rfl rfl (W_put (by dsimp only [put, List.set, rd_k, rd_z, rd_s]) ?_)
    | refine W_eqlb rfl rfl rfl (W_put (by dsimp only [put, List.set, rd_k, rd_z, rd_s]) ?_)
    | refine W_neqb rfl rfl rfl (W_put (by dsimp only [put, List.set, rd_k, rd_z, rd_s]) ?_)
    | refine W_not rfl (W_put (by dsimp only [put, List.set, rd_k, rd_z, rd_s]) ?_)
    | refine W_add rfl rfl (i64_in _ (by omega)) (W_put (by dsimp only [put, List.set, rd_k, rd_z, rd_s]) ?_)
    | refine W_add rfl rfl (i32_in _ (by omega)) (W_put (by dsimp only [put, List.set, rd_k, rd_z, rd_s]) ?_)
    | refine W_add rfl rfl (u8_in _ (by omega)) (W_put (by dsimp only [put, List.set, rd_k, rd_z, rd_s]) ?_)
    | refine W_sub rfl rfl (i64_in _ (by omega)) (W_put (by dsimp only [put, List.set, rd_k, rd_z, rd_s]) ?_)
    | refine W_sub rfl rfl (i32_in _ (by omega)) (W_put (by dsimp only [put, List.set, rd_k, rd_z, rd_s]) ?_)
    | refine W_sub rfl rfl (u8_in _ (by omega)) (W_put (by dsimp only [put, List.set, rd_k, rd_z, rd_s]) ?_)
    | refine W_convint rfl (i64_in _ (by omega)) (W_put (by dsimp only [put, List.set, rd_k, rd_z, rd_s]) ?_)
    | refine W_convint rfl (i32_in _ (by omega)) (W_put (by dsimp only [put, List.set, rd_k, rd_z, rd_s]) ?_)
    | refine W_convint rfl (u8_in _ (by omega)) (W_put (by dsimp only [put, List.set, rd_k, rd_z, rd_s]) ?_)
    | refine W_skip ?_
    | refine W_ret ?_
    | refine W_exit ?_
    | refine W_cond_t rfl ?_
    | refine W_cond_f rfl ?_
    | refine W_block ?_
    | (refine W_guardT rfl (fun hc => ?_) (fun hc => ?_) <;> (try rw [hc]) <;> (try simp only [decide_eq_true_eq, decide_eq_false_iff_not, beq_iff_eq, beq_eq_false_iff_ne, bne_iff_ne, bne_eq_false_iff_eq, Bool.not_eq_true', Bool.not_eq_false', Int.not_lt, Int.not_le, ne_eq, reduceCtorEq] at hc) <;> (try (exfalso; omega)) <;> (try refine (W_put (by dsimp only [put, List.set, rd_k, rd_z, rd_s]) ?_)))
    | (refine W_guardF rfl (fun hc => ?_) (fun hc => ?_) <;> (try rw [hc]) <;> (try simp only [decide_eq_true_eq, decide_eq_false_iff_not, beq_iff_eq, beq_eq_false_iff_ne, bne_iff_ne, bne_eq_false_iff_eq, Bool.not_eq_true', Bool.not_eq_false', Int.not_lt, Int.not_le, ne_eq, reduceCtorEq] at hc) <;> (try (exfalso; omega)) <;> (try refine (W_put (by dsimp only [put, List.set, rd_k, rd_z, rd_s]) ?_)))
    | (refine W_cond rfl (fun hc => ?_) (fun hc => ?_) <;> (try rw [hc]) <;> (try simp only [decide_eq_true_eq, decide_eq_false_iff_not, beq_iff_eq, beq_eq_false_iff_ne, bne_iff_ne, bne_eq_false_iff_eq, Bool.not_eq_true', Bool.not_eq_false', Int.not_lt, Int.not_le, ne_eq, reduceCtorEq] at hc) <;> (try (exfalso; omega)) <;> (try refine (W_put (by dsimp only [put, List.set, rd_k, rd_z, rd_s]) ?_)))
    | (refine W_pick rfl (fun hc => ?_) (fun hc => ?_) <;> (try rw [hc]) <;> (try simp only [decide_eq_true_eq, decide_eq_false_iff_not, beq_iff_eq, beq_eq_false_iff_ne, bne_iff_ne, bne_eq_false_iff_eq, Bool.not_eq_true', Bool.not_eq_false', Int.not_lt, Int.not_le, ne_eq, reduceCtorEq] at hc) <;> (try (exfalso; omega)) <;> (try refine (W_put (by dsimp only [put, List.set, rd_k, rd_z, rd_s]) ?_)))
    | (refine fnK_r rfl ?_; dsimp only [gd_z, gd_s])
    | (refine fnK_n rfl ?_; dsimp only [gd_z, gd_s]))
  · refine W_loop (I4in h a) 16 ⟨-1, _, _, _, _, _, _, _, _, _, _, _, _, _, _, _, _, _, _, _, _, _, _, _, _, _, _, _, _, _, _, _, _, _, _, _, _, _, _, _, _, _, _, _, _, _, _, _, _, _, _, _, _, _, _, _, _, _, rfl, by omega, by omega, by omega, rfl⟩ ?_
    rintro n _ _ ⟨b, u3, u4, u5, u6, u7, u8, u9, u10, u11, u12, u13, u14, u15, u16, u17, u18, u19, u20, u21, u22, u23, u24, u25, u26, u27, u28, u29, u30, u31, u32, u33, u34, u35, u36, u37, u38, u39, u40, u41, u42, u43, u44, u45, u46, u47, u48, u49, u50, u51, u52, u53, u54, u55, u56, u57, u58, u59, rfl, hb1, hb2, rfl, rfl⟩
    unfold m4_l5
    repeat' (first
    | (refine W_calls (w9 _ _ _) rfl ?_; rintro _ _ ⟨rfl, rfl⟩; refine (W_put (by dsimp only [put, List.set, rd_k, rd_z, rd_s]) ?_))
    | (refine W_calls (w10 _ _ _) rfl ?_; rintro _ _ ⟨rfl, rfl⟩; refine (W_put (by dsimp only [put, List.set, rd_k, rd_z, rd_s]) ?_))
    | refine W_seq ?_
    | refine W_ops ?_
    | refine W_nil ?_
    | refine seqK_n ?_
    | refine seqK_r ?_
    | refine seqK_x ?_
    | refine blockK_r ?_
    | refine blockK_n ?_
    | refine blockK_e ?_
    | refine blockK_x rfl ?_
    | refine loopK_x ?_
    | refine loopK_r ?_
    | refine invK_x ?_
    | refine invK_r ?_
    | refine invK_n ?_
    | refine W_guard_on rfl ?_
    | refine W_guard_off rfl rfl (W_put (by dsimp only [put, List.set, rd_k, rd_z, rd_s]) ?_)
    | refine W_guard_u rfl (W_put (by dsimp only [put, List.set, rd_k, rd_z, rd_s]) ?_)
    | refine W_move rfl (W_put (by dsimp only [put, List.set, rd_k, rd_z, rd_s]) ?_)
    | refine W_extract rfl rfl (W_put (by dsimp only [put, List.set, rd_k, rd_z, rd_s]) ?_)
    | refine W_pick_t rfl rfl (W_put (by dsimp only [put, List.set, rd_k, rd_z, rd_s]) ?_)
    | refine W_pick_f rfl rfl (W_put (by dsimp only [put, List.set, rd_k, rd_z, rd_s]) ?_)
    | refine W_lss rfl rfl (W_put (by dsimp only [put, List.set, rd_k, rd_z, rd_s]) ?_)
    | refine W_leq rfl rfl (W_put (by dsimp only [put, List.set, rd_k, rd_z, rd_s]) ?_)
    | refine W_gtr rfl rfl (W_put (by dsimp only [put, List.set, rd_k, rd_z, rd_s]) ?_)
    | refine W_geq rfl rfl (W_put (by dsimp only [put, List.set, rd_k, rd_z, rd_s]) ?_)
    | refine W_eql rfl rfl (W_put (by dsimp only [put, List.set, rd_k, rd_z, rd_s]) ?_)
    | refine W_neq rfl rfl (W_put (by dsimp only [put, List.set, rd_k, rd_z, rd_s]) ?_)
    | refine W_eqlb rfl rfl rfl (W_put (by dsimp only [put, List.set, rd_k, rd_z, rd_s]) ?_)
    | refine W_neqb rfl rfl rfl (W_put (by dsimp only [put, List.set, rd_k, rd_z, rd_s]) ?_)
    | refine W_not rfl (W_put (by dsimp only [put, List.set, rd_k, rd_z, rd_s]) ?_)
    | refine W_add rfl rfl (i64_in _ (by omega)) (W_put (by dsimp only [put, List.set, rd_k, rd_z, rd_s]) ?_)
    | refine W_add rfl rfl (i32_in _ (by omega)) (W_put (by dsimp only [put, List.set, rd_k, rd_z, rd_s]) ?_)
    | refine W_add rfl rfl (u8_in _ (by omega)) (W_put (by dsimp only [put, List.set, rd_k, rd_z, rd_s]) ?_)
    | refine W_sub rfl rfl (i64_in _ (by omega)) (W_put (by dsimp only [put, List.set, rd_k, rd_z, rd_s]) ?_)
    | refine W_sub rfl rfl (i32_in _ (by omega)) (W_put (by dsimp only [put, List.set, rd_k, rd_z, rd_s]) ?_)
    | refine W_sub rfl rfl (u8_in _ (by omega)) (W_put (by dsimp only [put, List.set, rd_k, rd_z, rd_s]) ?_)
    | refine W_convint rfl (i64_in _ (by omega)) (W_put (by dsimp only [put, List.set, rd_k, rd_z, rd_s]) ?_)
    | refine W_convint rfl (i32_in _ (by omega)) (W_put (by dsimp only [put, List.set, rd_k, rd_z, rd_s]) ?_)
    | refine W_convint rfl (u8_in _ (by omega)) (W_put (by dsimp only [put, List.set, rd_k, rd_z, rd_s]) ?_)
    | refine W_skip ?_
    | refine W_ret ?_
    | refine W_exit ?_
    | refine W_cond_t rfl ?_
    | refine W_cond_f rfl ?_
    | refine W_block ?_
    | (refine W_guardT rfl (fun hc => ?_) (fun hc => ?_) <;> (try rw [hc]) <;> (try simp only [decide_eq_true_eq, decide_eq_false_iff_not, beq_iff_eq, beq_eq_false_iff_ne, bne_iff_ne, bne_eq_false_iff_eq, Bool.not_eq_true', Bool.not_eq_false', Int.not_lt, Int.not_le, ne_eq, reduceCtorEq] at hc) <;> (try (exfalso; omega)) <;> (try refine (W_put (by dsimp only [put, List.set, rd_k, rd_z, rd_s]) ?_)))
    | (refine W_guardF rfl (fun hc => ?_) (fun hc => ?_) <;> (try rw [hc]) <;> (try simp only [decide_eq_true_eq, decide_eq_false_iff_not, beq_iff_eq, beq_eq_false_iff_ne, bne_iff_ne, bne_eq_false_iff_eq, Bool.not_eq_true', Bool.not_eq_false', Int.not_lt, Int.not_le, ne_eq, reduceCtorEq] at hc) <;> (try (exfalso; omega)) <;> (try refine (W_put (by dsimp only [put, List.set, rd_k, rd_z, rd_s]) ?_)))
    | (refine W_cond rfl (fun hc => ?_) (fun hc => ?_) <;> (try rw [hc]) <;> (try simp only [decide_eq_true_eq, decide_eq_false_iff_not, beq_iff_eq, beq_eq_false_iff_ne, bne_iff_ne, bne_eq_false_iff_eq, Bool.not_eq_true', Bool.not_eq_false', Int.not_lt, Int.not_le, ne_eq, reduceCtorEq] at hc) <;> (try (exfalso; omega)) <;> (try refine (W_put (by dsimp only [put, List.set, rd_k, rd_z, rd_s]) ?_)))
    | (refine W_pick rfl (fun hc => ?_) (fun hc => ?_) <;> (try rw [hc]) <;> (try simp only [decide_eq_true_eq, decide_eq_false_iff_not, beq_iff_eq, beq_eq_false_iff_ne, bne_iff_ne, bne_eq_false_iff_eq, Bool.not_eq_true', Bool.not_eq_false', Int.not_lt, Int.not_le, ne_eq, reduceCtorEq] at hc) <;> (try (exfalso; omega)) <;> (try refine (W_put (by dsimp only [put, List.set, rd_k, rd_z, rd_s]) ?_)))
    | (refine fnK_r rfl ?_; dsimp only [gd_z, gd_s])
    | (refine fnK_n rfl ?_; dsimp only [gd_z, gd_s]))
    all_goals first
      | exact ⟨_, by omega, a + 1, _, _, _, _, _, _, _, _, _, _, _, _, _, _, _, _, _, _, _, _, _, _, _, _, _, _, _, _, _, _, _, _, _, _, _, _, _, _, _, _, _, _, _, _, _, _, _, _, _, _, _, _, _, _, _, _, _, _, rfl, by omega, by omega, rfl, rfl⟩
      | exact ⟨_, by omega, b + 1, _, _, _, _, _, _, _, _, _, _, _, _, _, _, _, _, _, _, _, _, _, _, _, _, _, _, _, _, _, _, _, _, _, _, _, _, _, _, _, _, _, _, _, _, _, _, _, _, _, _, _, _, _, _, _, _, _, rfl, by omega, by omega, rfl, rfl⟩
      | (exfalso; simp only [clearsL, endsL, Bool.beq_eq_decide_eq, decide_eq_true_eq, decide_eq_false_iff_not, Bool.not_eq_true, Bool.eq_false_iff, ne_eq] at *; omega)
      | (exfalso; apply hc; rw [Bool.eq_iff_iff]; simp only [clearsL, endsL, decide_eq_true_eq, beq_iff_eq]; omega)
  · repeat' (first
    | (refine W_calls (w8 _) rfl ?_; rintro _ _ ⟨rfl, rfl⟩; refine (W_put (by dsimp only [put, List.set, rd_k, rd_z, rd_s]) ?_))
    | (refine W_calls (w11a _) rfl ?_; rintro _ _ ⟨rfl, rfl⟩; refine (W_put (by dsimp only [put, List.set, rd_k, rd_z, rd_s]) ?_))
    | (refine W_calls (w11b _) rfl ?_; rintro _ _ ⟨rfl, rfl⟩; refine (W_put (by dsimp only [put, List.set, rd_k, rd_z, rd_s]) ?_))
    | refine W_seq ?_
    | refine W_ops ?_
    | refine W_nil ?_
    | refine seqK_n ?_
    | refine seqK_r ?_
    | refine seqK_x ?_
    | refine blockK_r ?_
    | refine blockK_n ?_
    | refine blockK_e ?_
    | refine blockK_x rfl ?_
    | refine loopK_x ?_
    | refine loopK_r ?_
    | refine invK_x ?_
    | refine invK_r ?_
    | refine invK_n ?_
    | refine W_guard_on rfl ?_
    | refine W_guard_off rfl rfl (W_put (by dsimp only [put, List.set, rd_k, rd_z, rd_s]) ?_)
    | refine W_guard_u rfl (W_put (by dsimp only [put, List.set, rd_k, rd_z, rd_s]) ?_)
    | refine W_move rfl (W_put (by dsimp only [put, List.set, rd_k, rd_z, rd_s]) ?_)
    | refine W_extract rfl rfl (W_put (by dsimp only [put, List.set, rd_k, rd_z, rd_s]) ?_)
    | refine W_pick_t rfl rfl (W_put (by dsimp only [put, List.set, rd_k, rd_z, rd_s]) ?_)
    | refine W_pick_f rfl rfl (W_put (by dsimp only [put, List.set, rd_k, rd_z, rd_s]) ?_)
    | refine W_lss rfl rfl (W_put (by dsimp only [put, List.set, rd_k, rd_z, rd_s]) ?_)
    | refine W_leq rfl rfl (W_put (by dsimp only [put, List.set, rd_k, rd_z, rd_s]) ?_)
    | refine W_gtr rfl rfl (W_put (by dsimp only [put, List.set, rd_k, rd_z, rd_s]) ?_)
    | refine W_geq rfl rfl (W_put (by dsimp only [put, List.set, rd_k, rd_z, rd_s]) ?_)
    | refine W_eql rfl rfl (W_put (by dsimp only [put, List.set, rd_k, rd_z, rd_s]) ?_)
    | refine W_neq rfl rfl (W_put (by dsimp only [put, List.set, rd_k, rd_z, rd_s]) ?_)
    | refine W_eqlb rfl rfl rfl (W_put (by dsimp only [put, List.set, rd_k, rd_z, rd_s]) ?_)
    | refine W_neqb rfl rfl rfl (W_put (by dsimp only [put, List.set, rd_k, rd_z, rd_s]) ?_)
    | refine W_not rfl (W_put (by dsimp only [put, List.set, rd_k, rd_z, rd_s]) ?_)
    | refine W_add rfl rfl (i64_in _ (by omega)) (W_put (by dsimp only [put, List.set, rd_k, rd_z, rd_s]) ?_)
    | refine W_add rfl rfl (i32_in _ (by omega)) (W_put (by dsimp only [put, List.set, rd_k, rd_z, rd_s]) ?_)
    | refine W_add rfl rfl (u8_in _ (by omega)) (W_put (by dsimp only [put, List.set, rd_k, rd_z, rd_s]) ?_)
    | refine W_sub rfl rfl (i64_in _ (by omega)) (W_put (by dsimp only [put, List.set, rd_k, rd_z, rd_s]) ?_)
    | refine W_sub rfl rfl (i32_in _ (by omega)) (W_put (by dsimp only [put, List.set, rd_k, rd_z, rd_s]) ?_)
    | refine W_sub rfl rfl (u8_in _ (by omega)) (W_put (by dsimp only [put, List.set, rd_k, rd_z, rd_s]) ?_)
    | refine W_convint rfl (i64_in _ (by omega)) (W_put (by dsimp only [put, List.set, rd_k, rd_z, rd_s]) ?_)
    | refine W_convint rfl (i32_in _ (by omega)) (W_put (by dsimp only [put, List.set, rd_k, rd_z, rd_s]) ?_)
    | refine W_convint rfl (u8_in _ (by omega)) (W_put (by dsimp only [put, List.set, rd_k, rd_z, rd_s]) ?_)
    | refine W_skip ?_
    | refine W_ret ?_
    | refine W_exit ?_
    | refine W_cond_t rfl ?_
    | refine W_cond_f rfl ?_
    | refine W_block ?_
    | (refine W_guardT rfl (fun hc => ?_) (fun hc => ?_) <;> (try rw [hc]) <;> (try simp only [decide_eq_true_eq, decide_eq_false_iff_not, beq_iff_eq, beq_eq_false_iff_ne, bne_iff_ne, bne_eq_false_iff_eq, Bool.not_eq_true', Bool.not_eq_false', Int.not_lt, Int.not_le, ne_eq, reduceCtorEq] at hc) <;> (try (exfalso; omega)) <;> (try refine (W_put (by dsimp only [put, List.set, rd_k, rd_z, rd_s]) ?_)))
    | (refine W_guardF rfl (fun hc => ?_) (fun hc => ?_) <;> (try rw [hc]) <;> (try simp only [decide_eq_true_eq, decide_eq_false_iff_not, beq_iff_eq, beq_eq_false_iff_ne, bne_iff_ne, bne_eq_false_iff_eq, Bool.not_eq_true', Bool.not_eq_false', Int.not_lt, Int.not_le, ne_eq, reduceCtorEq] at hc) <;> (try (exfalso; omega)) <;> (try refine (W_put (by dsimp only [put, List.set, rd_k, rd_z, rd_s]) ?_)))
    | (refine W_cond rfl (fun hc => ?_) (fun hc => ?_) <;> (try rw [hc]) <;> (try simp only [decide_eq_true_eq, decide_eq_false_iff_not, beq_iff_eq, beq_eq_false_iff_ne, bne_iff_ne, bne_eq_false_iff_eq, Bool.not_eq_true', Bool.not_eq_false', Int.not_lt, Int.not_le, ne_eq, reduceCtorEq] at hc) <;> (try (exfalso; omega)) <;> (try refine (W_put (by dsimp only [put, List.set, rd_k, rd_z, rd_s]) ?_)))
    | (refine W_pick rfl (fun hc => ?_) (fun hc => ?_) <;> (try rw [hc]) <;> (try simp only [decide_eq_true_eq, decide_eq_false_iff_not, beq_iff_eq, beq_eq_false_iff_ne, bne_iff_ne, bne_eq_false_iff_eq, Bool.not_eq_true', Bool.not_eq_false', Int.not_lt, Int.not_le, ne_eq, reduceCtorEq] at hc) <;> (try (exfalso; omega)) <;> (try refine (W_put (by dsimp only [put, List.set, rd_k, rd_z, rd_s]) ?_)))
    | (refine fnK_r rfl ?_; dsimp only [gd_z, gd_s])
    | (refine fnK_n rfl ?_; dsimp only [gd_z, gd_s]))
    exact ⟨_, rfl, rfl, rfl⟩

end Go.Proofs.Ytdaeglcplpmlpaa
