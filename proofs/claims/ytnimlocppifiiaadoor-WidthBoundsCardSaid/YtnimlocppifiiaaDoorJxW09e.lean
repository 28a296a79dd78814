/- The first and the last characters of each list, and those beside them. -/
import Derived.Test.YtnimlocppifiiaaDoorJxW09d
set_option linter.unusedSimpArgs false
set_option linter.unusedVariables false
set_option maxHeartbeats 1000000
set_option maxRecDepth 100000
namespace Go.Proofs.YtnimlocppifiiaaDoor
open Go Go.Jx

theorem ref_rng : ∀ t ∈ refTab, 0 ≤ t.1 ∧ t.1 ≤ 1000000 ∧ 0 ≤ t.2.1 ∧ t.2.1 ≤ 1000000 ∧ ofL t.1 = t.2.2 ∧ ofL t.2.1 = t.2.2 ∧ 0 ≤ t.2.2 ∧ t.2.2 ≤ 2 := by decide

def I3a (v : SV) (h0 : Heap) : Nat → List AV → Heap → Prop := fun n e h' => ∃ (i : Int), EnvIs 121 [(0, .sc (.bool false)), (1, .sc v), (2, .sc (.int .i64 i))] e ∧ 0 ≤ i ∧ i ≤ 26 ∧ n = (26 - i).toNat ∧ Sub h0 h'
def I3b (v : SV) (i : Int) (h0 : Heap) : Nat → List AV → Heap → Prop := fun n e h' => ∃ (d : Int), EnvIs 121 [(0, .sc (.bool false)), (1, .sc v), (2, .sc (.int .i64 i)), (3, .sc (.int .i32 d))] e ∧ -1 ≤ d ∧ d ≤ 2 ∧ n = (2 - d).toNat ∧ Sub h0 h'

theorem law3 (h : Heap) (hb : HasB h) : W DD (.call 3 [] h) (fun _ vs _ => vs = [.sc (.bool true)]) := by
  refine W_enter d3 ?_
  show W _ (.code m3_code [undefA, undefA, undefA, undefA, undefA, undefA, undefA, undefA, undefA, undefA, undefA, undefA, undefA, undefA, undefA, undefA, undefA, undefA, undefA, undefA, undefA, undefA, undefA, undefA, undefA, undefA, undefA, undefA, undefA, undefA, undefA, undefA, undefA, undefA, undefA, undefA, undefA, undefA, undefA, undefA, undefA, undefA, undefA, undefA, undefA, undefA, undefA, undefA, undefA, undefA, undefA, undefA, undefA, undefA, undefA, undefA, undefA, undefA, undefA, undefA, undefA, undefA, undefA, undefA, undefA, undefA, undefA, undefA, undefA, undefA, undefA, undefA, undefA, undefA, undefA, undefA, undefA, undefA, undefA, undefA, undefA, undefA, undefA, undefA, undefA, undefA, undefA, undefA, undefA, undefA, undefA, undefA, undefA, undefA, undefA, undefA, undefA, undefA, undefA, undefA, undefA, undefA, undefA, undefA, undefA, undefA, undefA, undefA, undefA, undefA, undefA, undefA, undefA, undefA, undefA, undefA, undefA, undefA, undefA, undefA, undefA] _) _
  unfold m3_code
  repeat' (first
    | refine W_fast rfl ?_
    | refine W_buildSlice (cs := refTab.flatMap encT) (by kernel_rfl) (W_norm rfl ?_)
    | refine W_seq ?_
    | refine W_ops ?_
    | refine W_nil ?_
    | refine seqK_n ?_
    | refine seqK_r ?_
    | refine seqK_x ?_
    | refine blockK_r ?_
    | refine blockK_n ?_
    | refine blockK_e ?_
    | refine blockK_x rfl ?_
    | refine loopK_x ?_
    | refine loopK_r ?_
    | refine invK_x ?_
    | refine invK_r ?_
    | refine invK_n ?_
    | refine W_guard_on rfl ?_
    | refine W_guard_off rfl rfl (W_norm rfl ?_)
    | refine W_guard_u rfl (W_norm rfl ?_)
    | refine W_pick_t rfl rfl (W_norm rfl ?_)
    | refine W_pick_f rfl rfl (W_norm rfl ?_)
    | refine W_skip ?_
    | refine W_ret ?_
    | refine W_exit ?_
    | refine W_cond_t rfl ?_
    | refine W_cond_f rfl ?_
    | refine W_block ?_
    | refine W_draw rfl ?_
    | refine W_add rfl rfl (IntWalk.i64_in _ (by omega)) (W_norm rfl ?_)
    | refine W_add rfl rfl (IntWalk.i32_in _ (by omega)) (W_norm rfl ?_)
    | refine W_add rfl rfl (IntWalk.u8_in _ (by omega)) (W_norm rfl ?_)
    | refine W_sub rfl rfl (IntWalk.i64_in _ (by omega)) (W_norm rfl ?_)
    | refine W_sub rfl rfl (IntWalk.i32_in _ (by omega)) (W_norm rfl ?_)
    | refine W_sub rfl rfl (IntWalk.u8_in _ (by omega)) (W_norm rfl ?_)
    | refine W_mul rfl rfl (IntWalk.i64_in _ (by omega)) (W_norm rfl ?_)
    | refine W_mul rfl rfl (IntWalk.i32_in _ (by omega)) (W_norm rfl ?_)
    | refine W_mul rfl rfl (IntWalk.u8_in _ (by omega)) (W_norm rfl ?_)
    | refine W_convint rfl (IntWalk.i64_in _ (by omega)) (W_norm rfl ?_)
    | refine W_convint rfl (IntWalk.i32_in _ (by omega)) (W_norm rfl ?_)
    | refine W_convint rfl (IntWalk.u8_in _ (by omega)) (W_norm rfl ?_)
    | refine W_div rfl rfl (by omega) (W_norm rfl ?_)
    | refine W_mod rfl rfl (by omega) (W_norm rfl ?_)
    | refine W_indexSlice rfl rfl ⟨by omega, by omega⟩ (W_norm rfl ?_)
    | refine W_indexArr rfl rfl ⟨by omega, by omega⟩ (W_norm rfl ?_)
    | refine W_alloc (W_norm rfl ?_)
    | (refine W_guardT rfl (fun hc => ?_) (fun hc => ?_) <;> (try rw [hc]) <;> (try simp only [decide_eq_true_eq, decide_eq_false_iff_not, beq_iff_eq, beq_eq_false_iff_ne, bne_iff_ne, bne_eq_false_iff_eq, Bool.not_eq_true', Bool.not_eq_false', Int.not_lt, Int.not_le, ne_eq, reduceCtorEq, not_true_eq_false, not_false_eq_true] at hc) <;> (try (exfalso; omega)) <;> (try refine W_norm rfl ?_))
    | (refine W_guardF rfl (fun hc => ?_) (fun hc => ?_) <;> (try rw [hc]) <;> (try simp only [decide_eq_true_eq, decide_eq_false_iff_not, beq_iff_eq, beq_eq_false_iff_ne, bne_iff_ne, bne_eq_false_iff_eq, Bool.not_eq_true', Bool.not_eq_false', Int.not_lt, Int.not_le, ne_eq, reduceCtorEq, not_true_eq_false, not_false_eq_true] at hc) <;> (try (exfalso; omega)) <;> (try refine W_norm rfl ?_))
    | (refine W_cond rfl (fun hc => ?_) (fun hc => ?_) <;> (try rw [hc]) <;> (try simp only [decide_eq_true_eq, decide_eq_false_iff_not, beq_iff_eq, beq_eq_false_iff_ne, bne_iff_ne, bne_eq_false_iff_eq, Bool.not_eq_true', Bool.not_eq_false', Int.not_lt, Int.not_le, ne_eq, reduceCtorEq, not_true_eq_false, not_false_eq_true] at hc) <;> (try (exfalso; omega)) <;> (try refine W_norm rfl ?_))
    | (refine W_pick rfl (fun hc => ?_) (fun hc => ?_) <;> (try rw [hc]) <;> (try simp only [decide_eq_true_eq, decide_eq_false_iff_not, beq_iff_eq, beq_eq_false_iff_ne, bne_iff_ne, bne_eq_false_iff_eq, Bool.not_eq_true', Bool.not_eq_false', Int.not_lt, Int.not_le, ne_eq, reduceCtorEq, not_true_eq_false, not_false_eq_true] at hc) <;> (try (exfalso; omega)) <;> (try refine W_norm rfl ?_))
    | refine W_add rfl rfl rfl (W_norm rfl ?_)
    | refine W_sub rfl rfl rfl (W_norm rfl ?_)
    | refine W_mul rfl rfl rfl (W_norm rfl ?_)
    | (refine fnK_r rfl ?_; dsimp only [gd_z, gd_s])
    | (refine fnK_n rfl ?_; dsimp only [gd_z, gd_s]))
  generalize hh0 : h.push (.cells 22 .own (refTab.flatMap encT)) = h0
  generalize hv : SV.slice h.n 0 26 26 = v
  have hl0 : Sl encT 3 h0 v refTab := by rw [← hh0, ← hv]; exact Sl.whole (L := refTab) (fun _ => rfl) (Heap.get_push_new _ _)
  have hb0 : HasB h0 := by rw [← hh0]; exact hb.mono (Sub.push _ _)
  have hlen : ((refTab.length : Nat) : Int) = 26 := rfl
  refine W_loop (I3a v h0) 26 ⟨0, ⟨rfl, rfl, rfl, rfl, trivial⟩, by omega, by omega, by omega, Sub.refl _⟩ ?_
  rintro n _ h1 ⟨i, he, hi1, hi2, rfl, hsub⟩
  obtain ⟨us, rfl⟩ := he.list
  show W _ (.code _ [.sc (.bool false), .sc v, .sc (.int .i64 i), us 3, us 4, us 5, us 6, us 7, us 8, us 9, us 10, us 11, us 12, us 13, us 14, us 15, us 16, us 17, us 18, us 19, us 20, us 21, us 22, us 23, us 24, us 25, us 26, us 27, us 28, us 29, us 30, us 31, us 32, us 33, us 34, us 35, us 36, us 37, us 38, us 39, us 40, us 41, us 42, us 43, us 44, us 45, us 46, us 47, us 48, us 49, us 50, us 51, us 52, us 53, us 54, us 55, us 56, us 57, us 58, us 59, us 60, us 61, us 62, us 63, us 64, us 65, us 66, us 67, us 68, us 69, us 70, us 71, us 72, us 73, us 74, us 75, us 76, us 77, us 78, us 79, us 80, us 81, us 82, us 83, us 84, us 85, us 86, us 87, us 88, us 89, us 90, us 91, us 92, us 93, us 94, us 95, us 96, us 97, us 98, us 99, us 100, us 101, us 102, us 103, us 104, us 105, us 106, us 107, us 108, us 109, us 110, us 111, us 112, us 113, us 114, us 115, us 116, us 117, us 118, us 119, us 120] _) _
  unfold m3_l3
  by_cases hlt : i < 26
  · obtain ⟨t, ht⟩ : ∃ t, refTab[i.toNat]? = some t := ⟨_, List.getElem?_eq_getElem (by show i.toNat < 26; omega)⟩
    have hr := ref_rng t (List.mem_of_getElem? ht)
    repeat' (first
      | refine W_fast rfl ?_
      | refine W_lenSl (hl0.mono hsub) rfl (W_norm rfl ?_)
      | refine W_seq ?_
      | refine W_ops ?_
      | refine W_nil ?_
      | refine seqK_n ?_
      | refine seqK_r ?_
      | refine seqK_x ?_
      | refine blockK_r ?_
      | refine blockK_n ?_
      | refine blockK_e ?_
      | refine blockK_x rfl ?_
      | refine loopK_x ?_
      | refine loopK_r ?_
      | refine invK_x ?_
      | refine invK_r ?_
      | refine invK_n ?_
      | refine W_guard_on rfl ?_
      | refine W_guard_off rfl rfl (W_norm rfl ?_)
      | refine W_guard_u rfl (W_norm rfl ?_)
      | refine W_pick_t rfl rfl (W_norm rfl ?_)
      | refine W_pick_f rfl rfl (W_norm rfl ?_)
      | refine W_skip ?_
      | refine W_ret ?_
      | refine W_exit ?_
      | refine W_cond_t rfl ?_
      | refine W_cond_f rfl ?_
      | refine W_block ?_
      | refine W_draw rfl ?_
      | refine W_add rfl rfl (IntWalk.i64_in _ (by omega)) (W_norm rfl ?_)
      | refine W_add rfl rfl (IntWalk.i32_in _ (by omega)) (W_norm rfl ?_)
      | refine W_add rfl rfl (IntWalk.u8_in _ (by omega)) (W_norm rfl ?_)
      | refine W_sub rfl rfl (IntWalk.i64_in _ (by omega)) (W_norm rfl ?_)
      | refine W_sub rfl rfl (IntWalk.i32_in _ (by omega)) (W_norm rfl ?_)
      | refine W_sub rfl rfl (IntWalk.u8_in _ (by omega)) (W_norm rfl ?_)
      | refine W_mul rfl rfl (IntWalk.i64_in _ (by omega)) (W_norm rfl ?_)
      | refine W_mul rfl rfl (IntWalk.i32_in _ (by omega)) (W_norm rfl ?_)
      | refine W_mul rfl rfl (IntWalk.u8_in _ (by omega)) (W_norm rfl ?_)
      | refine W_convint rfl (IntWalk.i64_in _ (by omega)) (W_norm rfl ?_)
      | refine W_convint rfl (IntWalk.i32_in _ (by omega)) (W_norm rfl ?_)
      | refine W_convint rfl (IntWalk.u8_in _ (by omega)) (W_norm rfl ?_)
      | refine W_div rfl rfl (by omega) (W_norm rfl ?_)
      | refine W_mod rfl rfl (by omega) (W_norm rfl ?_)
      | refine W_indexSlice rfl rfl ⟨by omega, by omega⟩ (W_norm rfl ?_)
      | refine W_indexArr rfl rfl ⟨by omega, by omega⟩ (W_norm rfl ?_)
      | refine W_alloc (W_norm rfl ?_)
      | (refine W_guardT rfl (fun hc => ?_) (fun hc => ?_) <;> (try rw [hc]) <;> (try simp only [decide_eq_true_eq, decide_eq_false_iff_not, beq_iff_eq, beq_eq_false_iff_ne, bne_iff_ne, bne_eq_false_iff_eq, Bool.not_eq_true', Bool.not_eq_false', Int.not_lt, Int.not_le, ne_eq, reduceCtorEq, not_true_eq_false, not_false_eq_true] at hc) <;> (try (exfalso; omega)) <;> (try refine W_norm rfl ?_))
      | (refine W_guardF rfl (fun hc => ?_) (fun hc => ?_) <;> (try rw [hc]) <;> (try simp only [decide_eq_true_eq, decide_eq_false_iff_not, beq_iff_eq, beq_eq_false_iff_ne, bne_iff_ne, bne_eq_false_iff_eq, Bool.not_eq_true', Bool.not_eq_false', Int.not_lt, Int.not_le, ne_eq, reduceCtorEq, not_true_eq_false, not_false_eq_true] at hc) <;> (try (exfalso; omega)) <;> (try refine W_norm rfl ?_))
      | (refine W_cond rfl (fun hc => ?_) (fun hc => ?_) <;> (try rw [hc]) <;> (try simp only [decide_eq_true_eq, decide_eq_false_iff_not, beq_iff_eq, beq_eq_false_iff_ne, bne_iff_ne, bne_eq_false_iff_eq, Bool.not_eq_true', Bool.not_eq_false', Int.not_lt, Int.not_le, ne_eq, reduceCtorEq, not_true_eq_false, not_false_eq_true] at hc) <;> (try (exfalso; omega)) <;> (try refine W_norm rfl ?_))
      | (refine W_pick rfl (fun hc => ?_) (fun hc => ?_) <;> (try rw [hc]) <;> (try simp only [decide_eq_true_eq, decide_eq_false_iff_not, beq_iff_eq, beq_eq_false_iff_ne, bne_iff_ne, bne_eq_false_iff_eq, Bool.not_eq_true', Bool.not_eq_false', Int.not_lt, Int.not_le, ne_eq, reduceCtorEq, not_true_eq_false, not_false_eq_true] at hc) <;> (try (exfalso; omega)) <;> (try refine W_norm rfl ?_))
      | refine W_add rfl rfl rfl (W_norm rfl ?_)
      | refine W_sub rfl rfl rfl (W_norm rfl ?_)
      | refine W_mul rfl rfl rfl (W_norm rfl ?_)
      | (refine fnK_r rfl ?_; dsimp only [gd_z, gd_s])
      | (refine fnK_n rfl ?_; dsimp only [gd_z, gd_s]))
    refine W_loop (I3b v i h0) 3 ⟨-1, ⟨rfl, rfl, rfl, rfl, rfl, trivial⟩, by omega, by omega, by omega, hsub⟩ ?_
    rintro n _ h2 ⟨d, he, hd1, hd2, rfl, hsub⟩
    obtain ⟨us, rfl⟩ := he.list
    show W _ (.code _ [.sc (.bool false), .sc v, .sc (.int .i64 i), .sc (.int .i32 d), us 4, us 5, us 6, us 7, us 8, us 9, us 10, us 11, us 12, us 13, us 14, us 15, us 16, us 17, us 18, us 19, us 20, us 21, us 22, us 23, us 24, us 25, us 26, us 27, us 28, us 29, us 30, us 31, us 32, us 33, us 34, us 35, us 36, us 37, us 38, us 39, us 40, us 41, us 42, us 43, us 44, us 45, us 46, us 47, us 48, us 49, us 50, us 51, us 52, us 53, us 54, us 55, us 56, us 57, us 58, us 59, us 60, us 61, us 62, us 63, us 64, us 65, us 66, us 67, us 68, us 69, us 70, us 71, us 72, us 73, us 74, us 75, us 76, us 77, us 78, us 79, us 80, us 81, us 82, us 83, us 84, us 85, us 86, us 87, us 88, us 89, us 90, us 91, us 92, us 93, us 94, us 95, us 96, us 97, us 98, us 99, us 100, us 101, us 102, us 103, us 104, us 105, us 106, us 107, us 108, us 109, us 110, us 111, us 112, us 113, us 114, us 115, us 116, us 117, us 118, us 119, us 120] _) _
    unfold m3_l6
    repeat' (first
      | refine W_fast rfl ?_
      | (refine W_indexSl (hl0.mono hsub) rfl rfl (by omega) ht ?_; rintro id o hp; refine W_norm rfl ?_)
      | refine W_indexArr rfl rfl ⟨by decide, by decide⟩ (W_norm rfl ?_)
      | refine W_loadPt hp rfl rfl (W_norm rfl ?_)
      | (refine W_callsN 4 rfl (law4 _ _ (hb0.mono hsub) (by omega)) rfl ?_; rintro _ h3 ⟨rfl, hs3⟩; replace hsub := hsub.trans hs3; refine W_norm rfl ?_)
      | refine W_seq ?_
      | refine W_ops ?_
      | refine W_nil ?_
      | refine seqK_n ?_
      | refine seqK_r ?_
      | refine seqK_x ?_
      | refine blockK_r ?_
      | refine blockK_n ?_
      | refine blockK_e ?_
      | refine blockK_x rfl ?_
      | refine loopK_x ?_
      | refine loopK_r ?_
      | refine invK_x ?_
      | refine invK_r ?_
      | refine invK_n ?_
      | refine W_guard_on rfl ?_
      | refine W_guard_off rfl rfl (W_norm rfl ?_)
      | refine W_guard_u rfl (W_norm rfl ?_)
      | refine W_pick_t rfl rfl (W_norm rfl ?_)
      | refine W_pick_f rfl rfl (W_norm rfl ?_)
      | refine W_skip ?_
      | refine W_ret ?_
      | refine W_exit ?_
      | refine W_cond_t rfl ?_
      | refine W_cond_f rfl ?_
      | refine W_block ?_
      | refine W_draw rfl ?_
      | refine W_add rfl rfl (IntWalk.i64_in _ (by omega)) (W_norm rfl ?_)
      | refine W_add rfl rfl (IntWalk.i32_in _ (by omega)) (W_norm rfl ?_)
      | refine W_add rfl rfl (IntWalk.u8_in _ (by omega)) (W_norm rfl ?_)
      | refine W_sub rfl rfl (IntWalk.i64_in _ (by omega)) (W_norm rfl ?_)
      | refine W_sub rfl rfl (IntWalk.i32_in _ (by omega)) (W_norm rfl ?_)
      | refine W_sub rfl rfl (IntWalk.u8_in _ (by omega)) (W_norm rfl ?_)
      | refine W_mul rfl rfl (IntWalk.i64_in _ (by omega)) (W_norm rfl ?_)
      | refine W_mul rfl rfl (IntWalk.i32_in _ (by omega)) (W_norm rfl ?_)
      | refine W_mul rfl rfl (IntWalk.u8_in _ (by omega)) (W_norm rfl ?_)
      | refine W_convint rfl (IntWalk.i64_in _ (by omega)) (W_norm rfl ?_)
      | refine W_convint rfl (IntWalk.i32_in _ (by omega)) (W_norm rfl ?_)
      | refine W_convint rfl (IntWalk.u8_in _ (by omega)) (W_norm rfl ?_)
      | refine W_div rfl rfl (by omega) (W_norm rfl ?_)
      | refine W_mod rfl rfl (by omega) (W_norm rfl ?_)
      | refine W_indexSlice rfl rfl ⟨by omega, by omega⟩ (W_norm rfl ?_)
      | refine W_indexArr rfl rfl ⟨by omega, by omega⟩ (W_norm rfl ?_)
      | refine W_alloc (W_norm rfl ?_)
      | (refine W_guardT rfl (fun hc => ?_) (fun hc => ?_) <;> (try rw [hc]) <;> (try simp only [decide_eq_true_eq, decide_eq_false_iff_not, beq_iff_eq, beq_eq_false_iff_ne, bne_iff_ne, bne_eq_false_iff_eq, Bool.not_eq_true', Bool.not_eq_false', Int.not_lt, Int.not_le, ne_eq, reduceCtorEq, not_true_eq_false, not_false_eq_true] at hc) <;> (try (exfalso; omega)) <;> (try refine W_norm rfl ?_))
      | (refine W_guardF rfl (fun hc => ?_) (fun hc => ?_) <;> (try rw [hc]) <;> (try simp only [decide_eq_true_eq, decide_eq_false_iff_not, beq_iff_eq, beq_eq_false_iff_ne, bne_iff_ne, bne_eq_false_iff_eq, Bool.not_eq_true', Bool.not_eq_false', Int.not_lt, Int.not_le, ne_eq, reduceCtorEq, not_true_eq_false, not_false_eq_true] at hc) <;> (try (exfalso; omega)) <;> (try refine W_norm rfl ?_))
      | (refine W_cond rfl (fun hc => ?_) (fun hc => ?_) <;> (try rw [hc]) <;> (try simp only [decide_eq_true_eq, decide_eq_false_iff_not, beq_iff_eq, beq_eq_false_iff_ne, bne_iff_ne, bne_eq_false_iff_eq, Bool.not_eq_true', Bool.not_eq_false', Int.not_lt, Int.not_le, ne_eq, reduceCtorEq, not_true_eq_false, not_false_eq_true] at hc) <;> (try (exfalso; omega)) <;> (try refine W_norm rfl ?_))
      | (refine W_pick rfl (fun hc => ?_) (fun hc => ?_) <;> (try rw [hc]) <;> (try simp only [decide_eq_true_eq, decide_eq_false_iff_not, beq_iff_eq, beq_eq_false_iff_ne, bne_iff_ne, bne_eq_false_iff_eq, Bool.not_eq_true', Bool.not_eq_false', Int.not_lt, Int.not_le, ne_eq, reduceCtorEq, not_true_eq_false, not_false_eq_true] at hc) <;> (try (exfalso; omega)) <;> (try refine W_norm rfl ?_))
      | refine W_add rfl rfl rfl (W_norm rfl ?_)
      | refine W_sub rfl rfl rfl (W_norm rfl ?_)
      | refine W_mul rfl rfl rfl (W_norm rfl ?_)
      | (refine fnK_r rfl ?_; dsimp only [gd_z, gd_s])
      | (refine fnK_n rfl ?_; dsimp only [gd_z, gd_s]))
    · exact ⟨_, by omega, d + 1, ⟨rfl, rfl, rfl, rfl, rfl, trivial⟩, by omega, by omega, rfl, hsub⟩
    · repeat' (first
        | refine W_fast rfl ?_
        | (refine W_indexSl (hl0.mono hsub) rfl rfl (by omega) ht ?_; rintro id o hp; refine W_norm rfl ?_)
        | refine W_indexArr rfl rfl ⟨by decide, by decide⟩ (W_norm rfl ?_)
        | refine W_loadPt hp rfl rfl (W_norm rfl ?_)
        | (refine W_callsN 7 rfl (w7 _ _ (hb0.mono hsub)) rfl ?_; rintro _ _ ⟨rfl, rfl⟩; refine W_norm rfl ?_)
        | refine W_draws ?_
        | refine W_dstep rfl ?_
        | refine ⟨rfl, fun rc hrec => ?_⟩
        | (refine W_dstill (by simp only [List.reverse_cons, List.reverse_nil, List.nil_append, List.cons_append]; rfl) rfl (by repeat' first | exact Recs.nil _ | refine Recs.cons (by assumption) ?_) ?_)
        | refine W_seq ?_
        | refine W_ops ?_
        | refine W_nil ?_
        | refine seqK_n ?_
        | refine seqK_r ?_
        | refine seqK_x ?_
        | refine blockK_r ?_
        | refine blockK_n ?_
        | refine blockK_e ?_
        | refine blockK_x rfl ?_
        | refine loopK_x ?_
        | refine loopK_r ?_
        | refine invK_x ?_
        | refine invK_r ?_
        | refine invK_n ?_
        | refine W_guard_on rfl ?_
        | refine W_guard_off rfl rfl (W_norm rfl ?_)
        | refine W_guard_u rfl (W_norm rfl ?_)
        | refine W_pick_t rfl rfl (W_norm rfl ?_)
        | refine W_pick_f rfl rfl (W_norm rfl ?_)
        | refine W_skip ?_
        | refine W_ret ?_
        | refine W_exit ?_
        | refine W_cond_t rfl ?_
        | refine W_cond_f rfl ?_
        | refine W_block ?_
        | refine W_add rfl rfl (IntWalk.i64_in _ (by omega)) (W_norm rfl ?_)
        | refine W_add rfl rfl (IntWalk.i32_in _ (by omega)) (W_norm rfl ?_)
        | refine W_add rfl rfl (IntWalk.u8_in _ (by omega)) (W_norm rfl ?_)
        | refine W_sub rfl rfl (IntWalk.i64_in _ (by omega)) (W_norm rfl ?_)
        | refine W_sub rfl rfl (IntWalk.i32_in _ (by omega)) (W_norm rfl ?_)
        | refine W_sub rfl rfl (IntWalk.u8_in _ (by omega)) (W_norm rfl ?_)
        | refine W_mul rfl rfl (IntWalk.i64_in _ (by omega)) (W_norm rfl ?_)
        | refine W_mul rfl rfl (IntWalk.i32_in _ (by omega)) (W_norm rfl ?_)
        | refine W_mul rfl rfl (IntWalk.u8_in _ (by omega)) (W_norm rfl ?_)
        | refine W_convint rfl (IntWalk.i64_in _ (by omega)) (W_norm rfl ?_)
        | refine W_convint rfl (IntWalk.i32_in _ (by omega)) (W_norm rfl ?_)
        | refine W_convint rfl (IntWalk.u8_in _ (by omega)) (W_norm rfl ?_)
        | refine W_div rfl rfl (by omega) (W_norm rfl ?_)
        | refine W_mod rfl rfl (by omega) (W_norm rfl ?_)
        | refine W_indexSlice rfl rfl ⟨by omega, by omega⟩ (W_norm rfl ?_)
        | refine W_indexArr rfl rfl ⟨by omega, by omega⟩ (W_norm rfl ?_)
        | refine W_alloc (W_norm rfl ?_)
        | (refine W_guardT rfl (fun hc => ?_) (fun hc => ?_) <;> (try rw [hc]) <;> (try simp only [decide_eq_true_eq, decide_eq_false_iff_not, beq_iff_eq, beq_eq_false_iff_ne, bne_iff_ne, bne_eq_false_iff_eq, Bool.not_eq_true', Bool.not_eq_false', Int.not_lt, Int.not_le, ne_eq, reduceCtorEq, not_true_eq_false, not_false_eq_true] at hc) <;> (try (exfalso; omega)) <;> (try refine W_norm rfl ?_))
        | (refine W_guardF rfl (fun hc => ?_) (fun hc => ?_) <;> (try rw [hc]) <;> (try simp only [decide_eq_true_eq, decide_eq_false_iff_not, beq_iff_eq, beq_eq_false_iff_ne, bne_iff_ne, bne_eq_false_iff_eq, Bool.not_eq_true', Bool.not_eq_false', Int.not_lt, Int.not_le, ne_eq, reduceCtorEq, not_true_eq_false, not_false_eq_true] at hc) <;> (try (exfalso; omega)) <;> (try refine W_norm rfl ?_))
        | (refine W_cond rfl (fun hc => ?_) (fun hc => ?_) <;> (try rw [hc]) <;> (try simp only [decide_eq_true_eq, decide_eq_false_iff_not, beq_iff_eq, beq_eq_false_iff_ne, bne_iff_ne, bne_eq_false_iff_eq, Bool.not_eq_true', Bool.not_eq_false', Int.not_lt, Int.not_le, ne_eq, reduceCtorEq, not_true_eq_false, not_false_eq_true] at hc) <;> (try (exfalso; omega)) <;> (try refine W_norm rfl ?_))
        | (refine W_pick rfl (fun hc => ?_) (fun hc => ?_) <;> (try rw [hc]) <;> (try simp only [decide_eq_true_eq, decide_eq_false_iff_not, beq_iff_eq, beq_eq_false_iff_ne, bne_iff_ne, bne_eq_false_iff_eq, Bool.not_eq_true', Bool.not_eq_false', Int.not_lt, Int.not_le, ne_eq, reduceCtorEq, not_true_eq_false, not_false_eq_true] at hc) <;> (try (exfalso; omega)) <;> (try refine W_norm rfl ?_))
        | refine W_add rfl rfl rfl (W_norm rfl ?_)
        | refine W_sub rfl rfl rfl (W_norm rfl ?_)
        | refine W_mul rfl rfl rfl (W_norm rfl ?_)
        | (refine fnK_r rfl ?_; dsimp only [gd_z, gd_s])
        | (refine fnK_n rfl ?_; dsimp only [gd_z, gd_s]))
      exact ⟨_, by omega, i + 1, ⟨rfl, rfl, rfl, rfl, trivial⟩, by omega, by omega, rfl, hsub⟩
  · have e1 : cutA [101, 769, 98] 1 = (2, 0) := by decide
    have e2 : ofL (-1) = 1 := by decide
    have e3 : ofL 1114112 = 1 := by decide
    have e4 : ofL 128512 = 2 := by decide
    have e5 : ofL 65533 = 1 := by decide
    have hbs := (hb0.mono hsub).mono (Sub.push h1 (.cells 21 .own [.int .i32 101, .int .i32 769, .int .i32 98]))
    have hls : Sl encI 1 (h1.push (.cells 21 .own [.int .i32 101, .int .i32 769, .int .i32 98])) (.slice h1.n 0 3 3) [101, 769, 98] := Sl.whole (L := [101, 769, 98]) (fun _ => rfl) (Heap.get_push_new _ _)
    repeat' (first
      | refine W_fast rfl ?_
      | refine W_lenSl (hl0.mono hsub) rfl (W_norm rfl ?_)
      | refine W_buildSlice (cs := [.int .i32 101, .int .i32 769, .int .i32 98]) rfl (W_norm rfl ?_)
      | (refine W_callsN 8 rfl (w8 _ _ _ _ hbs hls (by decide) (by decide)) rfl ?_; rintro _ _ ⟨rfl, rfl⟩; rw [e1]; unfold tup2; refine W_norm rfl ?_)
      | (refine W_callsN 9 rfl (W_known d9) rfl ?_; rintro _ _ ⟨rfl, rfl⟩; refine W_norm rfl ?_)
      | (refine W_callsN 7 rfl (w7 _ _ hbs) rfl ?_; rintro _ _ ⟨rfl, rfl⟩; first | rw [e2] | rw [e3] | rw [e4] | rw [e5]; refine W_norm rfl ?_)
      | refine W_seq ?_
      | refine W_ops ?_
      | refine W_nil ?_
      | refine seqK_n ?_
      | refine seqK_r ?_
      | refine seqK_x ?_
      | refine blockK_r ?_
      | refine blockK_n ?_
      | refine blockK_e ?_
      | refine blockK_x rfl ?_
      | refine loopK_x ?_
      | refine loopK_r ?_
      | refine invK_x ?_
      | refine invK_r ?_
      | refine invK_n ?_
      | refine W_guard_on rfl ?_
      | refine W_guard_off rfl rfl (W_norm rfl ?_)
      | refine W_guard_u rfl (W_norm rfl ?_)
      | refine W_pick_t rfl rfl (W_norm rfl ?_)
      | refine W_pick_f rfl rfl (W_norm rfl ?_)
      | refine W_skip ?_
      | refine W_ret ?_
      | refine W_exit ?_
      | refine W_cond_t rfl ?_
      | refine W_cond_f rfl ?_
      | refine W_block ?_
      | refine W_draw rfl ?_
      | refine W_add rfl rfl (IntWalk.i64_in _ (by omega)) (W_norm rfl ?_)
      | refine W_add rfl rfl (IntWalk.i32_in _ (by omega)) (W_norm rfl ?_)
      | refine W_add rfl rfl (IntWalk.u8_in _ (by omega)) (W_norm rfl ?_)
      | refine W_sub rfl rfl (IntWalk.i64_in _ (by omega)) (W_norm rfl ?_)
      | refine W_sub rfl rfl (IntWalk.i32_in _ (by omega)) (W_norm rfl ?_)
      | refine W_sub rfl rfl (IntWalk.u8_in _ (by omega)) (W_norm rfl ?_)
      | refine W_mul rfl rfl (IntWalk.i64_in _ (by omega)) (W_norm rfl ?_)
      | refine W_mul rfl rfl (IntWalk.i32_in _ (by omega)) (W_norm rfl ?_)
      | refine W_mul rfl rfl (IntWalk.u8_in _ (by omega)) (W_norm rfl ?_)
      | refine W_convint rfl (IntWalk.i64_in _ (by omega)) (W_norm rfl ?_)
      | refine W_convint rfl (IntWalk.i32_in _ (by omega)) (W_norm rfl ?_)
      | refine W_convint rfl (IntWalk.u8_in _ (by omega)) (W_norm rfl ?_)
      | refine W_div rfl rfl (by omega) (W_norm rfl ?_)
      | refine W_mod rfl rfl (by omega) (W_norm rfl ?_)
      | refine W_indexSlice rfl rfl ⟨by omega, by omega⟩ (W_norm rfl ?_)
      | refine W_indexArr rfl rfl ⟨by omega, by omega⟩ (W_norm rfl ?_)
      | refine W_alloc (W_norm rfl ?_)
      | (refine W_guardT rfl (fun hc => ?_) (fun hc => ?_) <;> (try rw [hc]) <;> (try simp only [decide_eq_true_eq, decide_eq_false_iff_not, beq_iff_eq, beq_eq_false_iff_ne, bne_iff_ne, bne_eq_false_iff_eq, Bool.not_eq_true', Bool.not_eq_false', Int.not_lt, Int.not_le, ne_eq, reduceCtorEq, not_true_eq_false, not_false_eq_true] at hc) <;> (try (exfalso; omega)) <;> (try refine W_norm rfl ?_))
      | (refine W_guardF rfl (fun hc => ?_) (fun hc => ?_) <;> (try rw [hc]) <;> (try simp only [decide_eq_true_eq, decide_eq_false_iff_not, beq_iff_eq, beq_eq_false_iff_ne, bne_iff_ne, bne_eq_false_iff_eq, Bool.not_eq_true', Bool.not_eq_false', Int.not_lt, Int.not_le, ne_eq, reduceCtorEq, not_true_eq_false, not_false_eq_true] at hc) <;> (try (exfalso; omega)) <;> (try refine W_norm rfl ?_))
      | (refine W_cond rfl (fun hc => ?_) (fun hc => ?_) <;> (try rw [hc]) <;> (try simp only [decide_eq_true_eq, decide_eq_false_iff_not, beq_iff_eq, beq_eq_false_iff_ne, bne_iff_ne, bne_eq_false_iff_eq, Bool.not_eq_true', Bool.not_eq_false', Int.not_lt, Int.not_le, ne_eq, reduceCtorEq, not_true_eq_false, not_false_eq_true] at hc) <;> (try (exfalso; omega)) <;> (try refine W_norm rfl ?_))
      | (refine W_pick rfl (fun hc => ?_) (fun hc => ?_) <;> (try rw [hc]) <;> (try simp only [decide_eq_true_eq, decide_eq_false_iff_not, beq_iff_eq, beq_eq_false_iff_ne, bne_iff_ne, bne_eq_false_iff_eq, Bool.not_eq_true', Bool.not_eq_false', Int.not_lt, Int.not_le, ne_eq, reduceCtorEq, not_true_eq_false, not_false_eq_true] at hc) <;> (try (exfalso; omega)) <;> (try refine W_norm rfl ?_))
      | refine W_add rfl rfl rfl (W_norm rfl ?_)
      | refine W_sub rfl rfl rfl (W_norm rfl ?_)
      | refine W_mul rfl rfl rfl (W_norm rfl ?_)
      | (refine fnK_r rfl ?_; dsimp only [gd_z, gd_s])
      | (refine fnK_n rfl ?_; dsimp only [gd_z, gd_s]))
    rfl

theorem walk_widthBounds (H : Heap) (avs : List AV) (hwf : H.l.length = H.n) (hs : Sub (HL Tryd.prog.globals.size jxLs) H) (ho : OpenA H [] avs) : W DD (.call 3 avs H) (fun _ vs _ => vs = [.sc (.bool true)]) := by
  simp only [OpenA] at ho
  subst ho
  exact law3 H (hasB_start.mono hs)
end Go.Proofs.YtnimlocppifiiaaDoor
