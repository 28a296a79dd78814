/- The laws of the states: what each byte does is the document's; what stands ahead of 18 or 1b turns nothing behind it; what is over behind a last byte. -/
import Derived.Test.YtdaeglcplpmlpaaJxW06c
set_option linter.unusedSimpArgs false
set_option linter.unusedVariables false
set_option maxHeartbeats 1000000
set_option maxRecDepth 100000
namespace Go.Proofs.Ytdaeglcplpmlpaa
open Go Go.Jx

def okNext (s c : Int) : Bool :=
  decide (refL s c = nextL s c ∧ 0 ≤ (nextL s c).2 ∧ (nextL s c).2 ≤ 13 ∧ 0 ≤ (nextL s c).1 ∧ (2 ≤ s ∧ s ≤ 6 ∧ 64 ≤ c ∧ c < 127 → (nextL s c).2 = 0) ∧ ((nextL s c).1 = 1 → s = 0 ∧ (nextL s c).2 = 0) ∧
    ((nextL s c).1 = 8 → (s = 10 ∨ s = 12) ∧ (nextL s c).2 = s) ∧ ((nextL s c).1 = 6 ∨ (nextL s c).1 = 5 → (nextL s c).2 = 0 ∧ 48 ≤ c ∧ c < 127))
theorem okAll : ((List.range 14).all fun s => (List.range 256).all fun c => okNext s c) = true := by kernel_rfl
theorem ok_next {s c : Int} (hs : 0 ≤ s ∧ s ≤ 13) (hc : 0 ≤ c ∧ c < 256) : okNext s c = true := by
  have h1 := List.all_eq_true.1 okAll s.toNat (by simp; omega)
  have h2 := List.all_eq_true.1 h1 c.toNat (by simp; omega)
  rw [Int.toNat_of_nonneg hs.1, Int.toNat_of_nonneg hc.1] at h2
  exact h2

theorem next_out {s c : Int} (hs : s < 0 ∨ 13 < s) : nextL s c = nextL 0 c := by
  unfold nextL
  split
  · rfl
  · split
    · rfl
    · rw [if_neg (by omega), if_neg (by omega), if_neg (by omega), if_neg (by omega), if_neg (by omega), if_neg (by omega)]
      rfl
theorem ref_out {s c : Int} (hs : s < 0 ∨ 13 < s) : refL s c = refL 0 c := by
  unfold refL
  rw [if_pos (show s < 0 ∨ 13 < s from hs), if_neg (show ¬ ((0 : Int) < 0 ∨ (13 : Int) < 0) by omega)]
theorem ref_next {s c : Int} (hc : 0 ≤ c ∧ c < 256) : refL s c = nextL s c := by
  by_cases hs : 0 ≤ s ∧ s ≤ 13
  · have := ok_next hs hc
    simp only [okNext, decide_eq_true_eq] at this
    exact this.1
  · rw [ref_out (by omega), next_out (by omega)]
    have := ok_next (s := 0) (by omega) hc
    simp only [okNext, decide_eq_true_eq] at this
    exact this.1

theorem law5 (s c : Int) (h : Heap) (hc : 0 ≤ c ∧ c < 256) : W DD (.call 5 [.sc (.int .i64 s), .sc (.int .u8 c)] h) (fun _ vs h' => ∃ v, vs = [v] ∧ v = .sc (.bool true) ∧ Sub h h') := by
  have hr := ref_next (s := s) hc
  refine W_enter d5 ?_
  show W _ (.code m5_code [.sc (.int .i64 s), .sc (.int .u8 c), undefA, undefA, undefA, undefA, undefA, undefA, undefA, undefA, undefA, undefA, undefA, undefA, undefA, undefA, undefA, undefA, undefA, undefA, undefA, undefA, undefA, undefA, undefA, undefA, undefA, undefA, undefA, undefA, undefA] _) _
  unfold m5_code
  repeat' (first
    | refine W_fast rfl ?_
    | (refine W_callsN 8 rfl (W_known d8) rfl ?_; rintro _ _ ⟨rfl, rfl⟩; refine W_norm rfl ?_)
    | (refine W_callsN 12 rfl (w12 s c _) rfl ?_; rintro _ _ ⟨rfl, rfl⟩; refine W_norm rfl ?_)
    | (refine W_callsN 13 rfl (w13 s c _ hc) rfl ?_; rintro _ h1 ⟨rfl, hs1⟩; rw [hr]; refine W_norm rfl ?_)
    | refine W_seq ?_
    | refine W_ops ?_
    | refine W_nil ?_
    | refine seqK_n ?_
    | refine seqK_r ?_
    | refine seqK_x ?_
    | refine blockK_r ?_
    | refine blockK_n ?_
    | refine blockK_e ?_
    | refine blockK_x rfl ?_
    | refine loopK_x ?_
    | refine loopK_r ?_
    | refine invK_x ?_
    | refine invK_r ?_
    | refine invK_n ?_
    | refine W_guard_on rfl ?_
    | refine W_guard_off rfl rfl (W_norm rfl ?_)
    | refine W_guard_u rfl (W_norm rfl ?_)
    | refine W_pick_t rfl rfl (W_norm rfl ?_)
    | refine W_pick_f rfl rfl (W_norm rfl ?_)
    | refine W_skip ?_
    | refine W_ret ?_
    | refine W_exit ?_
    | refine W_cond_t rfl ?_
    | refine W_cond_f rfl ?_
    | refine W_block ?_
    | refine W_draw rfl ?_
    | refine W_add rfl rfl (IntWalk.i64_in _ (by omega)) (W_norm rfl ?_)
    | refine W_add rfl rfl (IntWalk.i32_in _ (by omega)) (W_norm rfl ?_)
    | refine W_add rfl rfl (IntWalk.u8_in _ (by omega)) (W_norm rfl ?_)
    | refine W_sub rfl rfl (IntWalk.i64_in _ (by omega)) (W_norm rfl ?_)
    | refine W_sub rfl rfl (IntWalk.i32_in _ (by omega)) (W_norm rfl ?_)
    | refine W_sub rfl rfl (IntWalk.u8_in _ (by omega)) (W_norm rfl ?_)
    | refine W_mul rfl rfl (IntWalk.i64_in _ (by omega)) (W_norm rfl ?_)
    | refine W_mul rfl rfl (IntWalk.i32_in _ (by omega)) (W_norm rfl ?_)
    | refine W_mul rfl rfl (IntWalk.u8_in _ (by omega)) (W_norm rfl ?_)
    | refine W_convint rfl (IntWalk.i64_in _ (by omega)) (W_norm rfl ?_)
    | refine W_convint rfl (IntWalk.i32_in _ (by omega)) (W_norm rfl ?_)
    | refine W_convint rfl (IntWalk.u8_in _ (by omega)) (W_norm rfl ?_)
    | refine W_div rfl rfl (by omega) (W_norm rfl ?_)
    | refine W_mod rfl rfl (by omega) (W_norm rfl ?_)
    | refine W_indexSlice rfl rfl ⟨by omega, by omega⟩ (W_norm rfl ?_)
    | refine W_indexArr rfl rfl ⟨by omega, by omega⟩ (W_norm rfl ?_)
    | refine W_alloc (W_norm rfl ?_)
    | (refine W_guardT rfl (fun hc => ?_) (fun hc => ?_) <;> (try rw [hc]) <;> (try simp only [decide_eq_true_eq, decide_eq_false_iff_not, beq_iff_eq, beq_eq_false_iff_ne, bne_iff_ne, bne_eq_false_iff_eq, Bool.not_eq_true', Bool.not_eq_false', Int.not_lt, Int.not_le, ne_eq, reduceCtorEq, not_true_eq_false, not_false_eq_true] at hc) <;> (try (exfalso; omega)) <;> (try refine W_norm rfl ?_))
    | (refine W_guardF rfl (fun hc => ?_) (fun hc => ?_) <;> (try rw [hc]) <;> (try simp only [decide_eq_true_eq, decide_eq_false_iff_not, beq_iff_eq, beq_eq_false_iff_ne, bne_iff_ne, bne_eq_false_iff_eq, Bool.not_eq_true', Bool.not_eq_false', Int.not_lt, Int.not_le, ne_eq, reduceCtorEq, not_true_eq_false, not_false_eq_true] at hc) <;> (try (exfalso; omega)) <;> (try refine W_norm rfl ?_))
    | (refine W_cond rfl (fun hc => ?_) (fun hc => ?_) <;> (try rw [hc]) <;> (try simp only [decide_eq_true_eq, decide_eq_false_iff_not, beq_iff_eq, beq_eq_false_iff_ne, bne_iff_ne, bne_eq_false_iff_eq, Bool.not_eq_true', Bool.not_eq_false', Int.not_lt, Int.not_le, ne_eq, reduceCtorEq, not_true_eq_false, not_false_eq_true] at hc) <;> (try (exfalso; omega)) <;> (try refine W_norm rfl ?_))
    | (refine W_pick rfl (fun hc => ?_) (fun hc => ?_) <;> (try rw [hc]) <;> (try simp only [decide_eq_true_eq, decide_eq_false_iff_not, beq_iff_eq, beq_eq_false_iff_ne, bne_iff_ne, bne_eq_false_iff_eq, Bool.not_eq_true', Bool.not_eq_false', Int.not_lt, Int.not_le, ne_eq, reduceCtorEq, not_true_eq_false, not_false_eq_true] at hc) <;> (try (exfalso; omega)) <;> (try refine W_norm rfl ?_))
    | refine W_add rfl rfl rfl (W_norm rfl ?_)
    | refine W_sub rfl rfl rfl (W_norm rfl ?_)
    | refine W_mul rfl rfl rfl (W_norm rfl ?_)
    | (refine fnK_r rfl ?_; dsimp only [gd_z, gd_s])
    | (refine fnK_n rfl ?_; dsimp only [gd_z, gd_s]))
  all_goals exact ⟨_, rfl, by simp, by assumption⟩

theorem walk_statesTell (H : Heap) (avs : List AV) (hwf : H.l.length = H.n) (hs : Sub (HL Try.prog.globals.size jxLs) H) (ho : OpenA H [(false, [.int .i64]), (false, [.int .u8])] avs) : W DD (.call 5 avs H) (fun _ vs _ => vs = [.sc (.bool true)]) := by
  simp only [OpenA] at ho
  obtain ⟨k, s, l', hk, rfl, o1, k2, s2, l2, hk2, rfl, o2, rfl⟩ := ho
  cases hk; cases hk2
  simp only [OpenS] at o1 o2
  obtain ⟨n, rfl, h1, h2⟩ := o1
  obtain ⟨c, rfl, h3, h4⟩ := o2
  have h5 : IntKind.u8.max = 255 := rfl
  have h6 : IntKind.u8.min = 0 := rfl
  exact (law5 n c H (by omega)).mono fun _ _ _ ⟨v, hv, h3, _⟩ => by rw [hv, h3]

def I3a (h : Heap) : Nat → List AV → Heap → Prop := fun n e h' => ∃ (s : Int), EnvIs 17 [(0, .sc (.bool false)), (1, .sc (.int .i64 s))] e ∧ -1 ≤ s ∧ s ≤ 15 ∧ n = (15 - s).toNat ∧ Sub h h'
def I3b (s : Int) (h : Heap) : Nat → List AV → Heap → Prop := fun n e h' => ∃ (c : Int), EnvIs 17 [(0, .sc (.bool false)), (1, .sc (.int .i64 s)), (2, .sc (.int .i64 c))] e ∧ 0 ≤ c ∧ c ≤ 256 ∧ n = (256 - c).toNat ∧ Sub h h'

theorem law3 (h : Heap) : W DD (.call 3 [] h) (fun _ vs _ => vs = [.sc (.bool true)]) := by
  refine W_enter d3 ?_
  show W _ (.code m3_code [undefA, undefA, undefA, undefA, undefA, undefA, undefA, undefA, undefA, undefA, undefA, undefA, undefA, undefA, undefA, undefA, undefA] _) _
  unfold m3_code
  repeat' (first
    | refine W_fast rfl ?_
    | refine W_seq ?_
    | refine W_ops ?_
    | refine W_nil ?_
    | refine seqK_n ?_
    | refine seqK_r ?_
    | refine seqK_x ?_
    | refine blockK_r ?_
    | refine blockK_n ?_
    | refine blockK_e ?_
    | refine blockK_x rfl ?_
    | refine loopK_x ?_
    | refine loopK_r ?_
    | refine invK_x ?_
    | refine invK_r ?_
    | refine invK_n ?_
    | refine W_guard_on rfl ?_
    | refine W_guard_off rfl rfl (W_norm rfl ?_)
    | refine W_guard_u rfl (W_norm rfl ?_)
    | refine W_pick_t rfl rfl (W_norm rfl ?_)
    | refine W_pick_f rfl rfl (W_norm rfl ?_)
    | refine W_skip ?_
    | refine W_ret ?_
    | refine W_exit ?_
    | refine W_cond_t rfl ?_
    | refine W_cond_f rfl ?_
    | refine W_block ?_
    | refine W_draw rfl ?_
    | refine W_add rfl rfl (IntWalk.i64_in _ (by omega)) (W_norm rfl ?_)
    | refine W_add rfl rfl (IntWalk.i32_in _ (by omega)) (W_norm rfl ?_)
    | refine W_add rfl rfl (IntWalk.u8_in _ (by omega)) (W_norm rfl ?_)
    | refine W_sub rfl rfl (IntWalk.i64_in _ (by omega)) (W_norm rfl ?_)
    | refine W_sub rfl rfl (IntWalk.i32_in _ (by omega)) (W_norm rfl ?_)
    | refine W_sub rfl rfl (IntWalk.u8_in _ (by omega)) (W_norm rfl ?_)
    | refine W_mul rfl rfl (IntWalk.i64_in _ (by omega)) (W_norm rfl ?_)
    | refine W_mul rfl rfl (IntWalk.i32_in _ (by omega)) (W_norm rfl ?_)
    | refine W_mul rfl rfl (IntWalk.u8_in _ (by omega)) (W_norm rfl ?_)
    | refine W_convint rfl (IntWalk.i64_in _ (by omega)) (W_norm rfl ?_)
    | refine W_convint rfl (IntWalk.i32_in _ (by omega)) (W_norm rfl ?_)
    | refine W_convint rfl (IntWalk.u8_in _ (by omega)) (W_norm rfl ?_)
    | refine W_div rfl rfl (by omega) (W_norm rfl ?_)
    | refine W_mod rfl rfl (by omega) (W_norm rfl ?_)
    | refine W_indexSlice rfl rfl ⟨by omega, by omega⟩ (W_norm rfl ?_)
    | refine W_indexArr rfl rfl ⟨by omega, by omega⟩ (W_norm rfl ?_)
    | refine W_alloc (W_norm rfl ?_)
    | (refine W_guardT rfl (fun hc => ?_) (fun hc => ?_) <;> (try rw [hc]) <;> (try simp only [decide_eq_true_eq, decide_eq_false_iff_not, beq_iff_eq, beq_eq_false_iff_ne, bne_iff_ne, bne_eq_false_iff_eq, Bool.not_eq_true', Bool.not_eq_false', Int.not_lt, Int.not_le, ne_eq, reduceCtorEq, not_true_eq_false, not_false_eq_true] at hc) <;> (try (exfalso; omega)) <;> (try refine W_norm rfl ?_))
    | (refine W_guardF rfl (fun hc => ?_) (fun hc => ?_) <;> (try rw [hc]) <;> (try simp only [decide_eq_true_eq, decide_eq_false_iff_not, beq_iff_eq, beq_eq_false_iff_ne, bne_iff_ne, bne_eq_false_iff_eq, Bool.not_eq_true', Bool.not_eq_false', Int.not_lt, Int.not_le, ne_eq, reduceCtorEq, not_true_eq_false, not_false_eq_true] at hc) <;> (try (exfalso; omega)) <;> (try refine W_norm rfl ?_))
    | (refine W_cond rfl (fun hc => ?_) (fun hc => ?_) <;> (try rw [hc]) <;> (try simp only [decide_eq_true_eq, decide_eq_false_iff_not, beq_iff_eq, beq_eq_false_iff_ne, bne_iff_ne, bne_eq_false_iff_eq, Bool.not_eq_true', Bool.not_eq_false', Int.not_lt, Int.not_le, ne_eq, reduceCtorEq, not_true_eq_false, not_false_eq_true] at hc) <;> (try (exfalso; omega)) <;> (try refine W_norm rfl ?_))
    | (refine W_pick rfl (fun hc => ?_) (fun hc => ?_) <;> (try rw [hc]) <;> (try simp only [decide_eq_true_eq, decide_eq_false_iff_not, beq_iff_eq, beq_eq_false_iff_ne, bne_iff_ne, bne_eq_false_iff_eq, Bool.not_eq_true', Bool.not_eq_false', Int.not_lt, Int.not_le, ne_eq, reduceCtorEq, not_true_eq_false, not_false_eq_true] at hc) <;> (try (exfalso; omega)) <;> (try refine W_norm rfl ?_))
    | refine W_add rfl rfl rfl (W_norm rfl ?_)
    | refine W_sub rfl rfl rfl (W_norm rfl ?_)
    | refine W_mul rfl rfl rfl (W_norm rfl ?_)
    | (refine fnK_r rfl ?_; dsimp only [gd_z, gd_s])
    | (refine fnK_n rfl ?_; dsimp only [gd_z, gd_s]))
  refine W_loop (I3a h) 16 ⟨-1, ⟨rfl, rfl, rfl, trivial⟩, by omega, by omega, by omega, Sub.refl _⟩ ?_
  rintro n _ h1 ⟨s, he, hs1, hs2, rfl, hsub⟩
  obtain ⟨us, rfl⟩ := he.list
  show W _ (.code _ [.sc (.bool false), .sc (.int .i64 s), us 2, us 3, us 4, us 5, us 6, us 7, us 8, us 9, us 10, us 11, us 12, us 13, us 14, us 15, us 16] _) _
  unfold m3_l2
  repeat' (first
    | refine W_fast rfl ?_
    | refine W_seq ?_
    | refine W_ops ?_
    | refine W_nil ?_
    | refine seqK_n ?_
    | refine seqK_r ?_
    | refine seqK_x ?_
    | refine blockK_r ?_
    | refine blockK_n ?_
    | refine blockK_e ?_
    | refine blockK_x rfl ?_
    | refine loopK_x ?_
    | refine loopK_r ?_
    | refine invK_x ?_
    | refine invK_r ?_
    | refine invK_n ?_
    | refine W_guard_on rfl ?_
    | refine W_guard_off rfl rfl (W_norm rfl ?_)
    | refine W_guard_u rfl (W_norm rfl ?_)
    | refine W_pick_t rfl rfl (W_norm rfl ?_)
    | refine W_pick_f rfl rfl (W_norm rfl ?_)
    | refine W_skip ?_
    | refine W_ret ?_
    | refine W_exit ?_
    | refine W_cond_t rfl ?_
    | refine W_cond_f rfl ?_
    | refine W_block ?_
    | refine W_draw rfl ?_
    | refine W_add rfl rfl (IntWalk.i64_in _ (by omega)) (W_norm rfl ?_)
    | refine W_add rfl rfl (IntWalk.i32_in _ (by omega)) (W_norm rfl ?_)
    | refine W_add rfl rfl (IntWalk.u8_in _ (by omega)) (W_norm rfl ?_)
    | refine W_sub rfl rfl (IntWalk.i64_in _ (by omega)) (W_norm rfl ?_)
    | refine W_sub rfl rfl (IntWalk.i32_in _ (by omega)) (W_norm rfl ?_)
    | refine W_sub rfl rfl (IntWalk.u8_in _ (by omega)) (W_norm rfl ?_)
    | refine W_mul rfl rfl (IntWalk.i64_in _ (by omega)) (W_norm rfl ?_)
    | refine W_mul rfl rfl (IntWalk.i32_in _ (by omega)) (W_norm rfl ?_)
    | refine W_mul rfl rfl (IntWalk.u8_in _ (by omega)) (W_norm rfl ?_)
    | refine W_convint rfl (IntWalk.i64_in _ (by omega)) (W_norm rfl ?_)
    | refine W_convint rfl (IntWalk.i32_in _ (by omega)) (W_norm rfl ?_)
    | refine W_convint rfl (IntWalk.u8_in _ (by omega)) (W_norm rfl ?_)
    | refine W_div rfl rfl (by omega) (W_norm rfl ?_)
    | refine W_mod rfl rfl (by omega) (W_norm rfl ?_)
    | refine W_indexSlice rfl rfl ⟨by omega, by omega⟩ (W_norm rfl ?_)
    | refine W_indexArr rfl rfl ⟨by omega, by omega⟩ (W_norm rfl ?_)
    | refine W_alloc (W_norm rfl ?_)
    | (refine W_guardT rfl (fun hc => ?_) (fun hc => ?_) <;> (try rw [hc]) <;> (try simp only [decide_eq_true_eq, decide_eq_false_iff_not, beq_iff_eq, beq_eq_false_iff_ne, bne_iff_ne, bne_eq_false_iff_eq, Bool.not_eq_true', Bool.not_eq_false', Int.not_lt, Int.not_le, ne_eq, reduceCtorEq, not_true_eq_false, not_false_eq_true] at hc) <;> (try (exfalso; omega)) <;> (try refine W_norm rfl ?_))
    | (refine W_guardF rfl (fun hc => ?_) (fun hc => ?_) <;> (try rw [hc]) <;> (try simp only [decide_eq_true_eq, decide_eq_false_iff_not, beq_iff_eq, beq_eq_false_iff_ne, bne_iff_ne, bne_eq_false_iff_eq, Bool.not_eq_true', Bool.not_eq_false', Int.not_lt, Int.not_le, ne_eq, reduceCtorEq, not_true_eq_false, not_false_eq_true] at hc) <;> (try (exfalso; omega)) <;> (try refine W_norm rfl ?_))
    | (refine W_cond rfl (fun hc => ?_) (fun hc => ?_) <;> (try rw [hc]) <;> (try simp only [decide_eq_true_eq, decide_eq_false_iff_not, beq_iff_eq, beq_eq_false_iff_ne, bne_iff_ne, bne_eq_false_iff_eq, Bool.not_eq_true', Bool.not_eq_false', Int.not_lt, Int.not_le, ne_eq, reduceCtorEq, not_true_eq_false, not_false_eq_true] at hc) <;> (try (exfalso; omega)) <;> (try refine W_norm rfl ?_))
    | (refine W_pick rfl (fun hc => ?_) (fun hc => ?_) <;> (try rw [hc]) <;> (try simp only [decide_eq_true_eq, decide_eq_false_iff_not, beq_iff_eq, beq_eq_false_iff_ne, bne_iff_ne, bne_eq_false_iff_eq, Bool.not_eq_true', Bool.not_eq_false', Int.not_lt, Int.not_le, ne_eq, reduceCtorEq, not_true_eq_false, not_false_eq_true] at hc) <;> (try (exfalso; omega)) <;> (try refine W_norm rfl ?_))
    | refine W_add rfl rfl rfl (W_norm rfl ?_)
    | refine W_sub rfl rfl rfl (W_norm rfl ?_)
    | refine W_mul rfl rfl rfl (W_norm rfl ?_)
    | (refine fnK_r rfl ?_; dsimp only [gd_z, gd_s])
    | (refine fnK_n rfl ?_; dsimp only [gd_z, gd_s]))
  · refine W_loop (I3b s h) 256 ⟨0, ⟨rfl, rfl, rfl, rfl, trivial⟩, by omega, by omega, by omega, hsub⟩ ?_
    rintro n _ h2 ⟨c, he, hc1, hc2, rfl, hsub⟩
    obtain ⟨us, rfl⟩ := he.list
    show W _ (.code _ [.sc (.bool false), .sc (.int .i64 s), .sc (.int .i64 c), us 3, us 4, us 5, us 6, us 7, us 8, us 9, us 10, us 11, us 12, us 13, us 14, us 15, us 16] _) _
    unfold m3_l5
    repeat' (first
      | refine W_fast rfl ?_
      | (refine W_callsN 5 rfl (law5 _ _ _ (by omega)) rfl ?_; rintro _ h3 ⟨rfl, hs3⟩; refine W_norm rfl ?_)
      | refine W_seq ?_
      | refine W_ops ?_
      | refine W_nil ?_
      | refine seqK_n ?_
      | refine seqK_r ?_
      | refine seqK_x ?_
      | refine blockK_r ?_
      | refine blockK_n ?_
      | refine blockK_e ?_
      | refine blockK_x rfl ?_
      | refine loopK_x ?_
      | refine loopK_r ?_
      | refine invK_x ?_
      | refine invK_r ?_
      | refine invK_n ?_
      | refine W_guard_on rfl ?_
      | refine W_guard_off rfl rfl (W_norm rfl ?_)
      | refine W_guard_u rfl (W_norm rfl ?_)
      | refine W_pick_t rfl rfl (W_norm rfl ?_)
      | refine W_pick_f rfl rfl (W_norm rfl ?_)
      | refine W_skip ?_
      | refine W_ret ?_
      | refine W_exit ?_
      | refine W_cond_t rfl ?_
      | refine W_cond_f rfl ?_
      | refine W_block ?_
      | refine W_draw rfl ?_
      | refine W_add rfl rfl (IntWalk.i64_in _ (by omega)) (W_norm rfl ?_)
      | refine W_add rfl rfl (IntWalk.i32_in _ (by omega)) (W_norm rfl ?_)
      | refine W_add rfl rfl (IntWalk.u8_in _ (by omega)) (W_norm rfl ?_)
      | refine W_sub rfl rfl (IntWalk.i64_in _ (by omega)) (W_norm rfl ?_)
      | refine W_sub rfl rfl (IntWalk.i32_in _ (by omega)) (W_norm rfl ?_)
      | refine W_sub rfl rfl (IntWalk.u8_in _ (by omega)) (W_norm rfl ?_)
      | refine W_mul rfl rfl (IntWalk.i64_in _ (by omega)) (W_norm rfl ?_)
      | refine W_mul rfl rfl (IntWalk.i32_in _ (by omega)) (W_norm rfl ?_)
      | refine W_mul rfl rfl (IntWalk.u8_in _ (by omega)) (W_norm rfl ?_)
      | refine W_convint rfl (IntWalk.i64_in _ (by omega)) (W_norm rfl ?_)
      | refine W_convint rfl (IntWalk.i32_in _ (by omega)) (W_norm rfl ?_)
      | refine W_convint rfl (IntWalk.u8_in _ (by omega)) (W_norm rfl ?_)
      | refine W_div rfl rfl (by omega) (W_norm rfl ?_)
      | refine W_mod rfl rfl (by omega) (W_norm rfl ?_)
      | refine W_indexSlice rfl rfl ⟨by omega, by omega⟩ (W_norm rfl ?_)
      | refine W_indexArr rfl rfl ⟨by omega, by omega⟩ (W_norm rfl ?_)
      | refine W_alloc (W_norm rfl ?_)
      | (refine W_guardT rfl (fun hc => ?_) (fun hc => ?_) <;> (try rw [hc]) <;> (try simp only [decide_eq_true_eq, decide_eq_false_iff_not, beq_iff_eq, beq_eq_false_iff_ne, bne_iff_ne, bne_eq_false_iff_eq, Bool.not_eq_true', Bool.not_eq_false', Int.not_lt, Int.not_le, ne_eq, reduceCtorEq, not_true_eq_false, not_false_eq_true] at hc) <;> (try (exfalso; omega)) <;> (try refine W_norm rfl ?_))
      | (refine W_guardF rfl (fun hc => ?_) (fun hc => ?_) <;> (try rw [hc]) <;> (try simp only [decide_eq_true_eq, decide_eq_false_iff_not, beq_iff_eq, beq_eq_false_iff_ne, bne_iff_ne, bne_eq_false_iff_eq, Bool.not_eq_true', Bool.not_eq_false', Int.not_lt, Int.not_le, ne_eq, reduceCtorEq, not_true_eq_false, not_false_eq_true] at hc) <;> (try (exfalso; omega)) <;> (try refine W_norm rfl ?_))
      | (refine W_cond rfl (fun hc => ?_) (fun hc => ?_) <;> (try rw [hc]) <;> (try simp only [decide_eq_true_eq, decide_eq_false_iff_not, beq_iff_eq, beq_eq_false_iff_ne, bne_iff_ne, bne_eq_false_iff_eq, Bool.not_eq_true', Bool.not_eq_false', Int.not_lt, Int.not_le, ne_eq, reduceCtorEq, not_true_eq_false, not_false_eq_true] at hc) <;> (try (exfalso; omega)) <;> (try refine W_norm rfl ?_))
      | (refine W_pick rfl (fun hc => ?_) (fun hc => ?_) <;> (try rw [hc]) <;> (try simp only [decide_eq_true_eq, decide_eq_false_iff_not, beq_iff_eq, beq_eq_false_iff_ne, bne_iff_ne, bne_eq_false_iff_eq, Bool.not_eq_true', Bool.not_eq_false', Int.not_lt, Int.not_le, ne_eq, reduceCtorEq, not_true_eq_false, not_false_eq_true] at hc) <;> (try (exfalso; omega)) <;> (try refine W_norm rfl ?_))
      | refine W_add rfl rfl rfl (W_norm rfl ?_)
      | refine W_sub rfl rfl rfl (W_norm rfl ?_)
      | refine W_mul rfl rfl rfl (W_norm rfl ?_)
      | (refine fnK_r rfl ?_; dsimp only [gd_z, gd_s])
      | (refine fnK_n rfl ?_; dsimp only [gd_z, gd_s]))
    all_goals first
      | exact ⟨_, by omega, c + 1, ⟨rfl, rfl, rfl, rfl, trivial⟩, by omega, by omega, rfl, hsub.trans (by assumption)⟩
      | exact ⟨_, by omega, s + 1, ⟨rfl, rfl, rfl, trivial⟩, by omega, by omega, rfl, by assumption⟩
  · repeat' (first
      | refine W_fast rfl ?_
      | (refine W_callsN 8 rfl (W_known d8) rfl ?_; rintro _ _ ⟨rfl, rfl⟩; refine W_norm rfl ?_)
      | refine W_seq ?_
      | refine W_ops ?_
      | refine W_nil ?_
      | refine seqK_n ?_
      | refine seqK_r ?_
      | refine seqK_x ?_
      | refine blockK_r ?_
      | refine blockK_n ?_
      | refine blockK_e ?_
      | refine blockK_x rfl ?_
      | refine loopK_x ?_
      | refine loopK_r ?_
      | refine invK_x ?_
      | refine invK_r ?_
      | refine invK_n ?_
      | refine W_guard_on rfl ?_
      | refine W_guard_off rfl rfl (W_norm rfl ?_)
      | refine W_guard_u rfl (W_norm rfl ?_)
      | refine W_pick_t rfl rfl (W_norm rfl ?_)
      | refine W_pick_f rfl rfl (W_norm rfl ?_)
      | refine W_skip ?_
      | refine W_ret ?_
      | refine W_exit ?_
      | refine W_cond_t rfl ?_
      | refine W_cond_f rfl ?_
      | refine W_block ?_
      | refine W_draw rfl ?_
      | refine W_add rfl rfl (IntWalk.i64_in _ (by omega)) (W_norm rfl ?_)
      | refine W_add rfl rfl (IntWalk.i32_in _ (by omega)) (W_norm rfl ?_)
      | refine W_add rfl rfl (IntWalk.u8_in _ (by omega)) (W_norm rfl ?_)
      | refine W_sub rfl rfl (IntWalk.i64_in _ (by omega)) (W_norm rfl ?_)
      | refine W_sub rfl rfl (IntWalk.i32_in _ (by omega)) (W_norm rfl ?_)
      | refine W_sub rfl rfl (IntWalk.u8_in _ (by omega)) (W_norm rfl ?_)
      | refine W_mul rfl rfl (IntWalk.i64_in _ (by omega)) (W_norm rfl ?_)
      | refine W_mul rfl rfl (IntWalk.i32_in _ (by omega)) (W_norm rfl ?_)
      | refine W_mul rfl rfl (IntWalk.u8_in _ (by omega)) (W_norm rfl ?_)
      | refine W_convint rfl (IntWalk.i64_in _ (by omega)) (W_norm rfl ?_)
      | refine W_convint rfl (IntWalk.i32_in _ (by omega)) (W_norm rfl ?_)
      | refine W_convint rfl (IntWalk.u8_in _ (by omega)) (W_norm rfl ?_)
      | refine W_div rfl rfl (by omega) (W_norm rfl ?_)
      | refine W_mod rfl rfl (by omega) (W_norm rfl ?_)
      | refine W_indexSlice rfl rfl ⟨by omega, by omega⟩ (W_norm rfl ?_)
      | refine W_indexArr rfl rfl ⟨by omega, by omega⟩ (W_norm rfl ?_)
      | refine W_alloc (W_norm rfl ?_)
      | (refine W_guardT rfl (fun hc => ?_) (fun hc => ?_) <;> (try rw [hc]) <;> (try simp only [decide_eq_true_eq, decide_eq_false_iff_not, beq_iff_eq, beq_eq_false_iff_ne, bne_iff_ne, bne_eq_false_iff_eq, Bool.not_eq_true', Bool.not_eq_false', Int.not_lt, Int.not_le, ne_eq, reduceCtorEq, not_true_eq_false, not_false_eq_true] at hc) <;> (try (exfalso; omega)) <;> (try refine W_norm rfl ?_))
      | (refine W_guardF rfl (fun hc => ?_) (fun hc => ?_) <;> (try rw [hc]) <;> (try simp only [decide_eq_true_eq, decide_eq_false_iff_not, beq_iff_eq, beq_eq_false_iff_ne, bne_iff_ne, bne_eq_false_iff_eq, Bool.not_eq_true', Bool.not_eq_false', Int.not_lt, Int.not_le, ne_eq, reduceCtorEq, not_true_eq_false, not_false_eq_true] at hc) <;> (try (exfalso; omega)) <;> (try refine W_norm rfl ?_))
      | (refine W_cond rfl (fun hc => ?_) (fun hc => ?_) <;> (try rw [hc]) <;> (try simp only [decide_eq_true_eq, decide_eq_false_iff_not, beq_iff_eq, beq_eq_false_iff_ne, bne_iff_ne, bne_eq_false_iff_eq, Bool.not_eq_true', Bool.not_eq_false', Int.not_lt, Int.not_le, ne_eq, reduceCtorEq, not_true_eq_false, not_false_eq_true] at hc) <;> (try (exfalso; omega)) <;> (try refine W_norm rfl ?_))
      | (refine W_pick rfl (fun hc => ?_) (fun hc => ?_) <;> (try rw [hc]) <;> (try simp only [decide_eq_true_eq, decide_eq_false_iff_not, beq_iff_eq, beq_eq_false_iff_ne, bne_iff_ne, bne_eq_false_iff_eq, Bool.not_eq_true', Bool.not_eq_false', Int.not_lt, Int.not_le, ne_eq, reduceCtorEq, not_true_eq_false, not_false_eq_true] at hc) <;> (try (exfalso; omega)) <;> (try refine W_norm rfl ?_))
      | refine W_add rfl rfl rfl (W_norm rfl ?_)
      | refine W_sub rfl rfl rfl (W_norm rfl ?_)
      | refine W_mul rfl rfl rfl (W_norm rfl ?_)
      | (refine fnK_r rfl ?_; dsimp only [gd_z, gd_s])
      | (refine fnK_n rfl ?_; dsimp only [gd_z, gd_s]))

theorem walk_statesAll (H : Heap) (avs : List AV) (hwf : H.l.length = H.n) (hs : Sub (HL Try.prog.globals.size jxLs) H) (ho : OpenA H [] avs) : W DD (.call 3 avs H) (fun _ vs _ => vs = [.sc (.bool true)]) := by
  simp only [OpenA] at ho
  subst ho
  exact law3 H

/-! ## texts -/

def runL : Int → List UInt8 → Int
  | s, [] => s
  | s, b :: l => runL (nextL s b.toNat).2 l
theorem runL_append (s : Int) (a b : List UInt8) : runL s (a ++ b) = runL (runL s a) b := by
  induction a generalizing s with
  | nil => rfl
  | cons x a ih => simp only [List.cons_append, runL, ih]
theorem runL_take {s : Int} {l : List UInt8} {k : Nat} (hk : k < l.length) : runL s (l.take (k + 1)) = (nextL (runL s (l.take k)) (l.getD k 0).toNat).2 := by
  rw [List.take_add_one, List.getElem?_eq_getElem hk, runL_append, List.getD_eq_getElem?_getD, List.getElem?_eq_getElem hk]; rfl
theorem runL_range {s : Int} (hs : 0 ≤ s ∧ s ≤ 13) (l : List UInt8) : 0 ≤ runL s l ∧ runL s l ≤ 13 := by
  induction l generalizing s with
  | nil => exact hs
  | cons b l ih =>
    have := ok_next hs (c := (b.toNat : Int)) (by have := b.toNat_lt; omega)
    simp only [okNext, decide_eq_true_eq] at this
    exact ih ⟨this.2.1, this.2.2.1⟩

def I14 (s : Int) (l : List UInt8) (h : Heap) : Nat → List AV → Heap → Prop := fun n e h' => ∃ (k : Nat), EnvIs 21 [(0, .sc (.int .i64 (runL s (l.take k)))), (1, .sc (.str l)), (5, .sc (.int .i64 (k : Int)))] e ∧ k ≤ l.length ∧ n = l.length - k ∧ h' = h

theorem w14 (s : Int) (l : List UInt8) (h : Heap) (hl : l.length ≤ 100000) : W DD (.call 14 [.sc (.int .i64 s), .sc (.str l)] h) (fun _ vs h' => ∃ v, vs = [v] ∧ v = .sc (.int .i64 (runL s l)) ∧ h' = h) := by
  refine W_enter d14 ?_
  show W _ (.code m14_code [.sc (.int .i64 s), .sc (.str l), undefA, undefA, undefA, undefA, undefA, undefA, undefA, undefA, undefA, undefA, undefA, undefA, undefA, undefA, undefA, undefA, undefA, undefA, undefA] _) _
  unfold m14_code
  repeat' (first
    | refine W_fast rfl ?_
    | refine W_seq ?_
    | refine W_ops ?_
    | refine W_nil ?_
    | refine seqK_n ?_
    | refine seqK_r ?_
    | refine seqK_x ?_
    | refine blockK_r ?_
    | refine blockK_n ?_
    | refine blockK_e ?_
    | refine blockK_x rfl ?_
    | refine loopK_x ?_
    | refine loopK_r ?_
    | refine invK_x ?_
    | refine invK_r ?_
    | refine invK_n ?_
    | refine W_guard_on rfl ?_
    | refine W_guard_off rfl rfl (W_norm rfl ?_)
    | refine W_guard_u rfl (W_norm rfl ?_)
    | refine W_pick_t rfl rfl (W_norm rfl ?_)
    | refine W_pick_f rfl rfl (W_norm rfl ?_)
    | refine W_skip ?_
    | refine W_ret ?_
    | refine W_exit ?_
    | refine W_cond_t rfl ?_
    | refine W_cond_f rfl ?_
    | refine W_block ?_
    | refine W_draw rfl ?_
    | refine W_add rfl rfl (IntWalk.i64_in _ (by omega)) (W_norm rfl ?_)
    | refine W_add rfl rfl (IntWalk.i32_in _ (by omega)) (W_norm rfl ?_)
    | refine W_add rfl rfl (IntWalk.u8_in _ (by omega)) (W_norm rfl ?_)
    | refine W_sub rfl rfl (IntWalk.i64_in _ (by omega)) (W_norm rfl ?_)
    | refine W_sub rfl rfl (IntWalk.i32_in _ (by omega)) (W_norm rfl ?_)
    | refine W_sub rfl rfl (IntWalk.u8_in _ (by omega)) (W_norm rfl ?_)
    | refine W_mul rfl rfl (IntWalk.i64_in _ (by omega)) (W_norm rfl ?_)
    | refine W_mul rfl rfl (IntWalk.i32_in _ (by omega)) (W_norm rfl ?_)
    | refine W_mul rfl rfl (IntWalk.u8_in _ (by omega)) (W_norm rfl ?_)
    | refine W_convint rfl (IntWalk.i64_in _ (by omega)) (W_norm rfl ?_)
    | refine W_convint rfl (IntWalk.i32_in _ (by omega)) (W_norm rfl ?_)
    | refine W_convint rfl (IntWalk.u8_in _ (by omega)) (W_norm rfl ?_)
    | refine W_div rfl rfl (by omega) (W_norm rfl ?_)
    | refine W_mod rfl rfl (by omega) (W_norm rfl ?_)
    | refine W_indexSlice rfl rfl ⟨by omega, by omega⟩ (W_norm rfl ?_)
    | refine W_indexArr rfl rfl ⟨by omega, by omega⟩ (W_norm rfl ?_)
    | refine W_alloc (W_norm rfl ?_)
    | (refine W_guardT rfl (fun hc => ?_) (fun hc => ?_) <;> (try rw [hc]) <;> (try simp only [decide_eq_true_eq, decide_eq_false_iff_not, beq_iff_eq, beq_eq_false_iff_ne, bne_iff_ne, bne_eq_false_iff_eq, Bool.not_eq_true', Bool.not_eq_false', Int.not_lt, Int.not_le, ne_eq, reduceCtorEq, not_true_eq_false, not_false_eq_true] at hc) <;> (try (exfalso; omega)) <;> (try refine W_norm rfl ?_))
    | (refine W_guardF rfl (fun hc => ?_) (fun hc => ?_) <;> (try rw [hc]) <;> (try simp only [decide_eq_true_eq, decide_eq_false_iff_not, beq_iff_eq, beq_eq_false_iff_ne, bne_iff_ne, bne_eq_false_iff_eq, Bool.not_eq_true', Bool.not_eq_false', Int.not_lt, Int.not_le, ne_eq, reduceCtorEq, not_true_eq_false, not_false_eq_true] at hc) <;> (try (exfalso; omega)) <;> (try refine W_norm rfl ?_))
    | (refine W_cond rfl (fun hc => ?_) (fun hc => ?_) <;> (try rw [hc]) <;> (try simp only [decide_eq_true_eq, decide_eq_false_iff_not, beq_iff_eq, beq_eq_false_iff_ne, bne_iff_ne, bne_eq_false_iff_eq, Bool.not_eq_true', Bool.not_eq_false', Int.not_lt, Int.not_le, ne_eq, reduceCtorEq, not_true_eq_false, not_false_eq_true] at hc) <;> (try (exfalso; omega)) <;> (try refine W_norm rfl ?_))
    | (refine W_pick rfl (fun hc => ?_) (fun hc => ?_) <;> (try rw [hc]) <;> (try simp only [decide_eq_true_eq, decide_eq_false_iff_not, beq_iff_eq, beq_eq_false_iff_ne, bne_iff_ne, bne_eq_false_iff_eq, Bool.not_eq_true', Bool.not_eq_false', Int.not_lt, Int.not_le, ne_eq, reduceCtorEq, not_true_eq_false, not_false_eq_true] at hc) <;> (try (exfalso; omega)) <;> (try refine W_norm rfl ?_))
    | refine W_add rfl rfl rfl (W_norm rfl ?_)
    | refine W_sub rfl rfl rfl (W_norm rfl ?_)
    | refine W_mul rfl rfl rfl (W_norm rfl ?_)
    | (refine fnK_r rfl ?_; dsimp only [gd_z, gd_s])
    | (refine fnK_n rfl ?_; dsimp only [gd_z, gd_s]))
  refine W_loop (I14 s l h) l.length ⟨0, ⟨rfl, rfl, rfl, rfl, trivial⟩, by omega, by omega, rfl⟩ ?_
  rintro n _ _ ⟨k, he, hk, rfl, rfl⟩
  obtain ⟨us, rfl⟩ := he.list
  show W _ (.code _ [.sc (.int .i64 (runL s (l.take k))), .sc (.str l), us 2, us 3, us 4, .sc (.int .i64 (k : Int)), us 6, us 7, us 8, us 9, us 10, us 11, us 12, us 13, us 14, us 15, us 16, us 17, us 18, us 19, us 20] _) _
  unfold m14_l2
  by_cases hlt : k < l.length
  · repeat' (first
      | refine W_fast rfl ?_
      | refine W_idxStr rfl rfl ⟨by omega, by omega⟩ (W_norm rfl ?_)
      | (refine W_callsN 12 rfl (w12 _ _ _) rfl ?_; rintro _ _ ⟨rfl, rfl⟩; refine W_norm rfl ?_)
      | refine W_seq ?_
      | refine W_ops ?_
      | refine W_nil ?_
      | refine seqK_n ?_
      | refine seqK_r ?_
      | refine seqK_x ?_
      | refine blockK_r ?_
      | refine blockK_n ?_
      | refine blockK_e ?_
      | refine blockK_x rfl ?_
      | refine loopK_x ?_
      | refine loopK_r ?_
      | refine invK_x ?_
      | refine invK_r ?_
      | refine invK_n ?_
      | refine W_guard_on rfl ?_
      | refine W_guard_off rfl rfl (W_norm rfl ?_)
      | refine W_guard_u rfl (W_norm rfl ?_)
      | refine W_pick_t rfl rfl (W_norm rfl ?_)
      | refine W_pick_f rfl rfl (W_norm rfl ?_)
      | refine W_skip ?_
      | refine W_ret ?_
      | refine W_exit ?_
      | refine W_cond_t rfl ?_
      | refine W_cond_f rfl ?_
      | refine W_block ?_
      | refine W_draw rfl ?_
      | refine W_add rfl rfl (IntWalk.i64_in _ (by omega)) (W_norm rfl ?_)
      | refine W_add rfl rfl (IntWalk.i32_in _ (by omega)) (W_norm rfl ?_)
      | refine W_add rfl rfl (IntWalk.u8_in _ (by omega)) (W_norm rfl ?_)
      | refine W_sub rfl rfl (IntWalk.i64_in _ (by omega)) (W_norm rfl ?_)
      | refine W_sub rfl rfl (IntWalk.i32_in _ (by omega)) (W_norm rfl ?_)
      | refine W_sub rfl rfl (IntWalk.u8_in _ (by omega)) (W_norm rfl ?_)
      | refine W_mul rfl rfl (IntWalk.i64_in _ (by omega)) (W_norm rfl ?_)
      | refine W_mul rfl rfl (IntWalk.i32_in _ (by omega)) (W_norm rfl ?_)
      | refine W_mul rfl rfl (IntWalk.u8_in _ (by omega)) (W_norm rfl ?_)
      | refine W_convint rfl (IntWalk.i64_in _ (by omega)) (W_norm rfl ?_)
      | refine W_convint rfl (IntWalk.i32_in _ (by omega)) (W_norm rfl ?_)
      | refine W_convint rfl (IntWalk.u8_in _ (by omega)) (W_norm rfl ?_)
      | refine W_div rfl rfl (by omega) (W_norm rfl ?_)
      | refine W_mod rfl rfl (by omega) (W_norm rfl ?_)
      | refine W_indexSlice rfl rfl ⟨by omega, by omega⟩ (W_norm rfl ?_)
      | refine W_indexArr rfl rfl ⟨by omega, by omega⟩ (W_norm rfl ?_)
      | refine W_alloc (W_norm rfl ?_)
      | (refine W_guardT rfl (fun hc => ?_) (fun hc => ?_) <;> (try rw [hc]) <;> (try simp only [decide_eq_true_eq, decide_eq_false_iff_not, beq_iff_eq, beq_eq_false_iff_ne, bne_iff_ne, bne_eq_false_iff_eq, Bool.not_eq_true', Bool.not_eq_false', Int.not_lt, Int.not_le, ne_eq, reduceCtorEq, not_true_eq_false, not_false_eq_true] at hc) <;> (try (exfalso; omega)) <;> (try refine W_norm rfl ?_))
      | (refine W_guardF rfl (fun hc => ?_) (fun hc => ?_) <;> (try rw [hc]) <;> (try simp only [decide_eq_true_eq, decide_eq_false_iff_not, beq_iff_eq, beq_eq_false_iff_ne, bne_iff_ne, bne_eq_false_iff_eq, Bool.not_eq_true', Bool.not_eq_false', Int.not_lt, Int.not_le, ne_eq, reduceCtorEq, not_true_eq_false, not_false_eq_true] at hc) <;> (try (exfalso; omega)) <;> (try refine W_norm rfl ?_))
      | (refine W_cond rfl (fun hc => ?_) (fun hc => ?_) <;> (try rw [hc]) <;> (try simp only [decide_eq_true_eq, decide_eq_false_iff_not, beq_iff_eq, beq_eq_false_iff_ne, bne_iff_ne, bne_eq_false_iff_eq, Bool.not_eq_true', Bool.not_eq_false', Int.not_lt, Int.not_le, ne_eq, reduceCtorEq, not_true_eq_false, not_false_eq_true] at hc) <;> (try (exfalso; omega)) <;> (try refine W_norm rfl ?_))
      | (refine W_pick rfl (fun hc => ?_) (fun hc => ?_) <;> (try rw [hc]) <;> (try simp only [decide_eq_true_eq, decide_eq_false_iff_not, beq_iff_eq, beq_eq_false_iff_ne, bne_iff_ne, bne_eq_false_iff_eq, Bool.not_eq_true', Bool.not_eq_false', Int.not_lt, Int.not_le, ne_eq, reduceCtorEq, not_true_eq_false, not_false_eq_true] at hc) <;> (try (exfalso; omega)) <;> (try refine W_norm rfl ?_))
      | refine W_add rfl rfl rfl (W_norm rfl ?_)
      | refine W_sub rfl rfl rfl (W_norm rfl ?_)
      | refine W_mul rfl rfl rfl (W_norm rfl ?_)
      | (refine fnK_r rfl ?_; dsimp only [gd_z, gd_s])
      | (refine fnK_n rfl ?_; dsimp only [gd_z, gd_s]))
    exact ⟨_, by omega, k + 1, ⟨rfl, by rw [runL_take hlt]; rfl, rfl, rfl, trivial⟩, by omega, rfl, rfl⟩
  · repeat' (first
      | refine W_fast rfl ?_
      | refine W_seq ?_
      | refine W_ops ?_
      | refine W_nil ?_
      | refine seqK_n ?_
      | refine seqK_r ?_
      | refine seqK_x ?_
      | refine blockK_r ?_
      | refine blockK_n ?_
      | refine blockK_e ?_
      | refine blockK_x rfl ?_
      | refine loopK_x ?_
      | refine loopK_r ?_
      | refine invK_x ?_
      | refine invK_r ?_
      | refine invK_n ?_
      | refine W_guard_on rfl ?_
      | refine W_guard_off rfl rfl (W_norm rfl ?_)
      | refine W_guard_u rfl (W_norm rfl ?_)
      | refine W_pick_t rfl rfl (W_norm rfl ?_)
      | refine W_pick_f rfl rfl (W_norm rfl ?_)
      | refine W_skip ?_
      | refine W_ret ?_
      | refine W_exit ?_
      | refine W_cond_t rfl ?_
      | refine W_cond_f rfl ?_
      | refine W_block ?_
      | refine W_draw rfl ?_
      | refine W_add rfl rfl (IntWalk.i64_in _ (by omega)) (W_norm rfl ?_)
      | refine W_add rfl rfl (IntWalk.i32_in _ (by omega)) (W_norm rfl ?_)
      | refine W_add rfl rfl (IntWalk.u8_in _ (by omega)) (W_norm rfl ?_)
      | refine W_sub rfl rfl (IntWalk.i64_in _ (by omega)) (W_norm rfl ?_)
      | refine W_sub rfl rfl (IntWalk.i32_in _ (by omega)) (W_norm rfl ?_)
      | refine W_sub rfl rfl (IntWalk.u8_in _ (by omega)) (W_norm rfl ?_)
      | refine W_mul rfl rfl (IntWalk.i64_in _ (by omega)) (W_norm rfl ?_)
      | refine W_mul rfl rfl (IntWalk.i32_in _ (by omega)) (W_norm rfl ?_)
      | refine W_mul rfl rfl (IntWalk.u8_in _ (by omega)) (W_norm rfl ?_)
      | refine W_convint rfl (IntWalk.i64_in _ (by omega)) (W_norm rfl ?_)
      | refine W_convint rfl (IntWalk.i32_in _ (by omega)) (W_norm rfl ?_)
      | refine W_convint rfl (IntWalk.u8_in _ (by omega)) (W_norm rfl ?_)
      | refine W_div rfl rfl (by omega) (W_norm rfl ?_)
      | refine W_mod rfl rfl (by omega) (W_norm rfl ?_)
      | refine W_indexSlice rfl rfl ⟨by omega, by omega⟩ (W_norm rfl ?_)
      | refine W_indexArr rfl rfl ⟨by omega, by omega⟩ (W_norm rfl ?_)
      | refine W_alloc (W_norm rfl ?_)
      | (refine W_guardT rfl (fun hc => ?_) (fun hc => ?_) <;> (try rw [hc]) <;> (try simp only [decide_eq_true_eq, decide_eq_false_iff_not, beq_iff_eq, beq_eq_false_iff_ne, bne_iff_ne, bne_eq_false_iff_eq, Bool.not_eq_true', Bool.not_eq_false', Int.not_lt, Int.not_le, ne_eq, reduceCtorEq, not_true_eq_false, not_false_eq_true] at hc) <;> (try (exfalso; omega)) <;> (try refine W_norm rfl ?_))
      | (refine W_guardF rfl (fun hc => ?_) (fun hc => ?_) <;> (try rw [hc]) <;> (try simp only [decide_eq_true_eq, decide_eq_false_iff_not, beq_iff_eq, beq_eq_false_iff_ne, bne_iff_ne, bne_eq_false_iff_eq, Bool.not_eq_true', Bool.not_eq_false', Int.not_lt, Int.not_le, ne_eq, reduceCtorEq, not_true_eq_false, not_false_eq_true] at hc) <;> (try (exfalso; omega)) <;> (try refine W_norm rfl ?_))
      | (refine W_cond rfl (fun hc => ?_) (fun hc => ?_) <;> (try rw [hc]) <;> (try simp only [decide_eq_true_eq, decide_eq_false_iff_not, beq_iff_eq, beq_eq_false_iff_ne, bne_iff_ne, bne_eq_false_iff_eq, Bool.not_eq_true', Bool.not_eq_false', Int.not_lt, Int.not_le, ne_eq, reduceCtorEq, not_true_eq_false, not_false_eq_true] at hc) <;> (try (exfalso; omega)) <;> (try refine W_norm rfl ?_))
      | (refine W_pick rfl (fun hc => ?_) (fun hc => ?_) <;> (try rw [hc]) <;> (try simp only [decide_eq_true_eq, decide_eq_false_iff_not, beq_iff_eq, beq_eq_false_iff_ne, bne_iff_ne, bne_eq_false_iff_eq, Bool.not_eq_true', Bool.not_eq_false', Int.not_lt, Int.not_le, ne_eq, reduceCtorEq, not_true_eq_false, not_false_eq_true] at hc) <;> (try (exfalso; omega)) <;> (try refine W_norm rfl ?_))
      | refine W_add rfl rfl rfl (W_norm rfl ?_)
      | refine W_sub rfl rfl rfl (W_norm rfl ?_)
      | refine W_mul rfl rfl rfl (W_norm rfl ?_)
      | (refine fnK_r rfl ?_; dsimp only [gd_z, gd_s])
      | (refine fnK_n rfl ?_; dsimp only [gd_z, gd_s]))
    exact ⟨_, rfl, by rw [List.take_of_length_le (by omega)], rfl⟩
end Go.Proofs.Ytdaeglcplpmlpaa
