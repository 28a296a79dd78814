/- The reference's side: the number of a character. -/
import Derived.Test.YtcgfcnbcfcllpaaJxW05c
set_option linter.unusedSimpArgs false
set_option linter.unusedVariables false
set_option maxHeartbeats 1000000
set_option maxRecDepth 100000
namespace Go.Proofs.Ytcgfcnbcfcllpaa
open Go Go.Jx

def ints (s : List UInt8) : List Int := s.map fun b => (b.toNat : Int)
theorem ints_length (s : List UInt8) : (ints s).length = s.length := List.length_map ..
theorem ints_get {s : List UInt8} {k : Nat} (hk : k < s.length) : (ints s)[k]? = some ((s.getD k 0).toNat : Int) := by
  rw [List.getD_eq_getElem?_getD, List.getElem?_eq_getElem hk]
  simp [ints, hk]
theorem ints_drop {s : List UInt8} {k : Nat} (hk : k < s.length) : (ints s).drop k = ((s.getD k 0).toNat : Int) :: (ints s).drop (k + 1) := by
  have h1 := ints_get hk
  have hk' : k < (ints s).length := by rw [ints_length]; exact hk
  rw [List.getElem?_eq_getElem hk'] at h1
  rw [List.drop_eq_getElem_cons hk', Option.some.inj h1]

theorem numL_cons (b : Int) (t : List Int) : numL (b :: t) = numGo (if t.length = 1 then b % 32 else if t.length = 2 then b % 16 else if t.length = 3 then b % 8 else b) t := rfl

def I19 (s : List UInt8) (h : Heap) : Nat → List AV → Heap → Prop := fun n e h' => ∃ (k : Nat) (x : Int), EnvIs 37 [(0, .sc (.str s)), (3, .sc (.int .i32 x)), (4, .sc (.int .i64 (k : Int)))] e ∧ 1 ≤ k ∧ k ≤ s.length ∧ n = s.length - k ∧ h' = h ∧ numL (ints s) = numGo x ((ints s).drop k) ∧ 0 ≤ x ∧ x < 256 * 64 ^ (k - 1)

theorem w19 (s : List UInt8) (h : Heap) (hl : 1 ≤ s.length ∧ s.length ≤ 4) : W DD (.call 19 [.sc (.str s)] h) (fun _ vs h' => ∃ v, vs = [v] ∧ v = .sc (.int .i32 (numL (ints s))) ∧ h' = h) := by
  have hb : ∀ k, 0 ≤ ((s.getD k 0).toNat : Int) ∧ ((s.getD k 0).toNat : Int) < 256 := fun k => by have := (s.getD k 0).toNat_lt; omega
  have hb0 := hb 0
  have hb0' := hb (0 : Int).toNat
  refine W_enter d19 ?_
  show W _ (.code m19_code [.sc (.str s), undefA, undefA, undefA, undefA, undefA, undefA, undefA, undefA, undefA, undefA, undefA, undefA, undefA, undefA, undefA, undefA, undefA, undefA, undefA, undefA, undefA, undefA, undefA, undefA, undefA, undefA, undefA, undefA, undefA, undefA, undefA, undefA, undefA, undefA, undefA, undefA] _) _
  unfold m19_code
  repeat' (first
    | refine W_fast rfl ?_
    | refine W_idxStr rfl rfl ⟨by omega, by omega⟩ (W_norm rfl ?_)
    | refine W_mod rfl rfl ⟨by omega, by omega⟩ (W_norm rfl ?_)
    | refine W_seq ?_
    | refine W_ops ?_
    | refine W_nil ?_
    | refine seqK_n ?_
    | refine seqK_r ?_
    | refine seqK_x ?_
    | refine blockK_r ?_
    | refine blockK_n ?_
    | refine blockK_e ?_
    | refine blockK_x rfl ?_
    | refine loopK_x ?_
    | refine loopK_r ?_
    | refine invK_x ?_
    | refine invK_r ?_
    | refine invK_n ?_
    | refine W_guard_on rfl ?_
    | refine W_guard_off rfl rfl (W_norm rfl ?_)
    | refine W_guard_u rfl (W_norm rfl ?_)
    | refine W_pick_t rfl rfl (W_norm rfl ?_)
    | refine W_pick_f rfl rfl (W_norm rfl ?_)
    | refine W_skip ?_
    | refine W_ret ?_
    | refine W_exit ?_
    | refine W_cond_t rfl ?_
    | refine W_cond_f rfl ?_
    | refine W_block ?_
    | refine W_draw rfl ?_
    | refine W_add rfl rfl (IntWalk.i64_in _ (by omega)) (W_norm rfl ?_)
    | refine W_add rfl rfl (IntWalk.i32_in _ (by omega)) (W_norm rfl ?_)
    | refine W_add rfl rfl (IntWalk.u8_in _ (by omega)) (W_norm rfl ?_)
    | refine W_sub rfl rfl (IntWalk.i64_in _ (by omega)) (W_norm rfl ?_)
    | refine W_sub rfl rfl (IntWalk.i32_in _ (by omega)) (W_norm rfl ?_)
    | refine W_sub rfl rfl (IntWalk.u8_in _ (by omega)) (W_norm rfl ?_)
    | refine W_mul rfl rfl (IntWalk.i64_in _ (by omega)) (W_norm rfl ?_)
    | refine W_mul rfl rfl (IntWalk.i32_in _ (by omega)) (W_norm rfl ?_)
    | refine W_mul rfl rfl (IntWalk.u8_in _ (by omega)) (W_norm rfl ?_)
    | refine W_convint rfl (IntWalk.i64_in _ (by omega)) (W_norm rfl ?_)
    | refine W_convint rfl (IntWalk.i32_in _ (by omega)) (W_norm rfl ?_)
    | refine W_convint rfl (IntWalk.u8_in _ (by omega)) (W_norm rfl ?_)
    | refine W_div rfl rfl (by omega) (W_norm rfl ?_)
    | refine W_mod rfl rfl (by omega) (W_norm rfl ?_)
    | refine W_indexSlice rfl rfl ⟨by omega, by omega⟩ (W_norm rfl ?_)
    | refine W_indexArr rfl rfl ⟨by omega, by omega⟩ (W_norm rfl ?_)
    | refine W_alloc (W_norm rfl ?_)
    | (refine W_guardT rfl (fun hc => ?_) (fun hc => ?_) <;> (try rw [hc]) <;> (try simp only [decide_eq_true_eq, decide_eq_false_iff_not, beq_iff_eq, beq_eq_false_iff_ne, bne_iff_ne, bne_eq_false_iff_eq, Bool.not_eq_true', Bool.not_eq_false', Int.not_lt, Int.not_le, ne_eq, reduceCtorEq, not_true_eq_false, not_false_eq_true, Decidable.not_not] at hc) <;> (try (exfalso; omega)) <;> (try refine W_norm rfl ?_))
    | (refine W_guardF rfl (fun hc => ?_) (fun hc => ?_) <;> (try rw [hc]) <;> (try simp only [decide_eq_true_eq, decide_eq_false_iff_not, beq_iff_eq, beq_eq_false_iff_ne, bne_iff_ne, bne_eq_false_iff_eq, Bool.not_eq_true', Bool.not_eq_false', Int.not_lt, Int.not_le, ne_eq, reduceCtorEq, not_true_eq_false, not_false_eq_true, Decidable.not_not] at hc) <;> (try (exfalso; omega)) <;> (try refine W_norm rfl ?_))
    | (refine W_cond rfl (fun hc => ?_) (fun hc => ?_) <;> (try rw [hc]) <;> (try simp only [decide_eq_true_eq, decide_eq_false_iff_not, beq_iff_eq, beq_eq_false_iff_ne, bne_iff_ne, bne_eq_false_iff_eq, Bool.not_eq_true', Bool.not_eq_false', Int.not_lt, Int.not_le, ne_eq, reduceCtorEq, not_true_eq_false, not_false_eq_true, Decidable.not_not] at hc) <;> (try (exfalso; omega)) <;> (try refine W_norm rfl ?_))
    | (refine W_pick rfl (fun hc => ?_) (fun hc => ?_) <;> (try rw [hc]) <;> (try simp only [decide_eq_true_eq, decide_eq_false_iff_not, beq_iff_eq, beq_eq_false_iff_ne, bne_iff_ne, bne_eq_false_iff_eq, Bool.not_eq_true', Bool.not_eq_false', Int.not_lt, Int.not_le, ne_eq, reduceCtorEq, not_true_eq_false, not_false_eq_true, Decidable.not_not] at hc) <;> (try (exfalso; omega)) <;> (try refine W_norm rfl ?_))
    | refine W_add rfl rfl rfl (W_norm rfl ?_)
    | refine W_sub rfl rfl rfl (W_norm rfl ?_)
    | refine W_mul rfl rfl rfl (W_norm rfl ?_)
    | (refine fnK_r rfl ?_; try dsimp only [gd_z, gd_s])
    | (refine fnK_n rfl ?_; try dsimp only [gd_z, gd_s]))
  all_goals
    have hd0 := ints_drop (s := s) (k := 0) (by omega)
    rw [List.drop_zero] at hd0
    have hlen1 : ((ints s).drop (0 + 1)).length = s.length - 1 := by rw [List.length_drop, ints_length]
    refine W_loop (I19 s h) (s.length - 1) ⟨1, _, ⟨rfl, rfl, rfl, rfl, trivial⟩, by omega, by omega, by omega, rfl, (by
      rw [hd0, numL_cons, hlen1]
      first
        | rw [if_pos (by omega)]; rfl
        | rw [if_neg (by omega), if_pos (by omega)]; rfl
        | rw [if_neg (by omega), if_neg (by omega), if_pos (by omega)]; rfl
        | rw [if_neg (by omega), if_neg (by omega), if_neg (by omega)]; rfl), by omega, by omega⟩ ?_
    rintro n _ _ ⟨k, x, he, hk1, hk, rfl, rfl, hx, hx0, hx1⟩
    obtain ⟨us, rfl⟩ := he.list
    show W _ (.code _ [.sc (.str s), us 1, us 2, .sc (.int .i32 x), .sc (.int .i64 (k : Int)), us 5, us 6, us 7, us 8, us 9, us 10, us 11, us 12, us 13, us 14, us 15, us 16, us 17, us 18, us 19, us 20, us 21, us 22, us 23, us 24, us 25, us 26, us 27, us 28, us 29, us 30, us 31, us 32, us 33, us 34, us 35, us 36] _) _
    unfold m19_l10
    have hbk := hb k
    have hbk' := hb (k : Int).toNat
    by_cases hlt : k < s.length
    · have hxb : x < 1048576 ∧ 64 * x + 63 < 256 * 64 ^ (k + 1 - 1) := by
        have : k = 1 ∨ k = 2 ∨ k = 3 := by omega
        rcases this with rfl | rfl | rfl <;> simp only [Nat.reduceSub, Nat.reduceAdd] at hx1 ⊢ <;> omega
      repeat' (first
        | refine W_fast rfl ?_
        | refine W_idxStr rfl rfl ⟨by omega, by omega⟩ (W_norm rfl ?_)
        | refine W_mod rfl rfl ⟨by omega, by omega⟩ (W_norm rfl ?_)
        | refine W_seq ?_
        | refine W_ops ?_
        | refine W_nil ?_
        | refine seqK_n ?_
        | refine seqK_r ?_
        | refine seqK_x ?_
        | refine blockK_r ?_
        | refine blockK_n ?_
        | refine blockK_e ?_
        | refine blockK_x rfl ?_
        | refine loopK_x ?_
        | refine loopK_r ?_
        | refine invK_x ?_
        | refine invK_r ?_
        | refine invK_n ?_
        | refine W_guard_on rfl ?_
        | refine W_guard_off rfl rfl (W_norm rfl ?_)
        | refine W_guard_u rfl (W_norm rfl ?_)
        | refine W_pick_t rfl rfl (W_norm rfl ?_)
        | refine W_pick_f rfl rfl (W_norm rfl ?_)
        | refine W_skip ?_
        | refine W_ret ?_
        | refine W_exit ?_
        | refine W_cond_t rfl ?_
        | refine W_cond_f rfl ?_
        | refine W_block ?_
        | refine W_draw rfl ?_
        | refine W_add rfl rfl (IntWalk.i64_in _ (by omega)) (W_norm rfl ?_)
        | refine W_add rfl rfl (IntWalk.i32_in _ (by omega)) (W_norm rfl ?_)
        | refine W_add rfl rfl (IntWalk.u8_in _ (by omega)) (W_norm rfl ?_)
        | refine W_sub rfl rfl (IntWalk.i64_in _ (by omega)) (W_norm rfl ?_)
        | refine W_sub rfl rfl (IntWalk.i32_in _ (by omega)) (W_norm rfl ?_)
        | refine W_sub rfl rfl (IntWalk.u8_in _ (by omega)) (W_norm rfl ?_)
        | refine W_mul rfl rfl (IntWalk.i64_in _ (by omega)) (W_norm rfl ?_)
        | refine W_mul rfl rfl (IntWalk.i32_in _ (by omega)) (W_norm rfl ?_)
        | refine W_mul rfl rfl (IntWalk.u8_in _ (by omega)) (W_norm rfl ?_)
        | refine W_convint rfl (IntWalk.i64_in _ (by omega)) (W_norm rfl ?_)
        | refine W_convint rfl (IntWalk.i32_in _ (by omega)) (W_norm rfl ?_)
        | refine W_convint rfl (IntWalk.u8_in _ (by omega)) (W_norm rfl ?_)
        | refine W_div rfl rfl (by omega) (W_norm rfl ?_)
        | refine W_mod rfl rfl (by omega) (W_norm rfl ?_)
        | refine W_indexSlice rfl rfl ⟨by omega, by omega⟩ (W_norm rfl ?_)
        | refine W_indexArr rfl rfl ⟨by omega, by omega⟩ (W_norm rfl ?_)
        | refine W_alloc (W_norm rfl ?_)
        | (refine W_guardT rfl (fun hc => ?_) (fun hc => ?_) <;> (try rw [hc]) <;> (try simp only [decide_eq_true_eq, decide_eq_false_iff_not, beq_iff_eq, beq_eq_false_iff_ne, bne_iff_ne, bne_eq_false_iff_eq, Bool.not_eq_true', Bool.not_eq_false', Int.not_lt, Int.not_le, ne_eq, reduceCtorEq, not_true_eq_false, not_false_eq_true, Decidable.not_not] at hc) <;> (try (exfalso; omega)) <;> (try refine W_norm rfl ?_))
        | (refine W_guardF rfl (fun hc => ?_) (fun hc => ?_) <;> (try rw [hc]) <;> (try simp only [decide_eq_true_eq, decide_eq_false_iff_not, beq_iff_eq, beq_eq_false_iff_ne, bne_iff_ne, bne_eq_false_iff_eq, Bool.not_eq_true', Bool.not_eq_false', Int.not_lt, Int.not_le, ne_eq, reduceCtorEq, not_true_eq_false, not_false_eq_true, Decidable.not_not] at hc) <;> (try (exfalso; omega)) <;> (try refine W_norm rfl ?_))
        | (refine W_cond rfl (fun hc => ?_) (fun hc => ?_) <;> (try rw [hc]) <;> (try simp only [decide_eq_true_eq, decide_eq_false_iff_not, beq_iff_eq, beq_eq_false_iff_ne, bne_iff_ne, bne_eq_false_iff_eq, Bool.not_eq_true', Bool.not_eq_false', Int.not_lt, Int.not_le, ne_eq, reduceCtorEq, not_true_eq_false, not_false_eq_true, Decidable.not_not] at hc) <;> (try (exfalso; omega)) <;> (try refine W_norm rfl ?_))
        | (refine W_pick rfl (fun hc => ?_) (fun hc => ?_) <;> (try rw [hc]) <;> (try simp only [decide_eq_true_eq, decide_eq_false_iff_not, beq_iff_eq, beq_eq_false_iff_ne, bne_iff_ne, bne_eq_false_iff_eq, Bool.not_eq_true', Bool.not_eq_false', Int.not_lt, Int.not_le, ne_eq, reduceCtorEq, not_true_eq_false, not_false_eq_true, Decidable.not_not] at hc) <;> (try (exfalso; omega)) <;> (try refine W_norm rfl ?_))
        | refine W_add rfl rfl rfl (W_norm rfl ?_)
        | refine W_sub rfl rfl rfl (W_norm rfl ?_)
        | refine W_mul rfl rfl rfl (W_norm rfl ?_)
        | (refine fnK_r rfl ?_; try dsimp only [gd_z, gd_s])
        | (refine fnK_n rfl ?_; try dsimp only [gd_z, gd_s]))
      all_goals
        refine ⟨_, by omega, k + 1, _, ⟨rfl, rfl, rfl, rfl, trivial⟩, by omega, by omega, rfl, rfl, ?_, by omega, by omega⟩
        rw [hx, ints_drop hlt]
        rfl
    · repeat' (first
        | refine W_fast rfl ?_
        | refine W_idxStr rfl rfl ⟨by omega, by omega⟩ (W_norm rfl ?_)
        | refine W_seq ?_
        | refine W_ops ?_
        | refine W_nil ?_
        | refine seqK_n ?_
        | refine seqK_r ?_
        | refine seqK_x ?_
        | refine blockK_r ?_
        | refine blockK_n ?_
        | refine blockK_e ?_
        | refine blockK_x rfl ?_
        | refine loopK_x ?_
        | refine loopK_r ?_
        | refine invK_x ?_
        | refine invK_r ?_
        | refine invK_n ?_
        | refine W_guard_on rfl ?_
        | refine W_guard_off rfl rfl (W_norm rfl ?_)
        | refine W_guard_u rfl (W_norm rfl ?_)
        | refine W_pick_t rfl rfl (W_norm rfl ?_)
        | refine W_pick_f rfl rfl (W_norm rfl ?_)
        | refine W_skip ?_
        | refine W_ret ?_
        | refine W_exit ?_
        | refine W_cond_t rfl ?_
        | refine W_cond_f rfl ?_
        | refine W_block ?_
        | refine W_draw rfl ?_
        | refine W_add rfl rfl (IntWalk.i64_in _ (by omega)) (W_norm rfl ?_)
        | refine W_add rfl rfl (IntWalk.i32_in _ (by omega)) (W_norm rfl ?_)
        | refine W_add rfl rfl (IntWalk.u8_in _ (by omega)) (W_norm rfl ?_)
        | refine W_sub rfl rfl (IntWalk.i64_in _ (by omega)) (W_norm rfl ?_)
        | refine W_sub rfl rfl (IntWalk.i32_in _ (by omega)) (W_norm rfl ?_)
        | refine W_sub rfl rfl (IntWalk.u8_in _ (by omega)) (W_norm rfl ?_)
        | refine W_mul rfl rfl (IntWalk.i64_in _ (by omega)) (W_norm rfl ?_)
        | refine W_mul rfl rfl (IntWalk.i32_in _ (by omega)) (W_norm rfl ?_)
        | refine W_mul rfl rfl (IntWalk.u8_in _ (by omega)) (W_norm rfl ?_)
        | refine W_convint rfl (IntWalk.i64_in _ (by omega)) (W_norm rfl ?_)
        | refine W_convint rfl (IntWalk.i32_in _ (by omega)) (W_norm rfl ?_)
        | refine W_convint rfl (IntWalk.u8_in _ (by omega)) (W_norm rfl ?_)
        | refine W_div rfl rfl (by omega) (W_norm rfl ?_)
        | refine W_mod rfl rfl (by omega) (W_norm rfl ?_)
        | refine W_indexSlice rfl rfl ⟨by omega, by omega⟩ (W_norm rfl ?_)
        | refine W_indexArr rfl rfl ⟨by omega, by omega⟩ (W_norm rfl ?_)
        | refine W_alloc (W_norm rfl ?_)
        | (refine W_guardT rfl (fun hc => ?_) (fun hc => ?_) <;> (try rw [hc]) <;> (try simp only [decide_eq_true_eq, decide_eq_false_iff_not, beq_iff_eq, beq_eq_false_iff_ne, bne_iff_ne, bne_eq_false_iff_eq, Bool.not_eq_true', Bool.not_eq_false', Int.not_lt, Int.not_le, ne_eq, reduceCtorEq, not_true_eq_false, not_false_eq_true, Decidable.not_not] at hc) <;> (try (exfalso; omega)) <;> (try refine W_norm rfl ?_))
        | (refine W_guardF rfl (fun hc => ?_) (fun hc => ?_) <;> (try rw [hc]) <;> (try simp only [decide_eq_true_eq, decide_eq_false_iff_not, beq_iff_eq, beq_eq_false_iff_ne, bne_iff_ne, bne_eq_false_iff_eq, Bool.not_eq_true', Bool.not_eq_false', Int.not_lt, Int.not_le, ne_eq, reduceCtorEq, not_true_eq_false, not_false_eq_true, Decidable.not_not] at hc) <;> (try (exfalso; omega)) <;> (try refine W_norm rfl ?_))
        | (refine W_cond rfl (fun hc => ?_) (fun hc => ?_) <;> (try rw [hc]) <;> (try simp only [decide_eq_true_eq, decide_eq_false_iff_not, beq_iff_eq, beq_eq_false_iff_ne, bne_iff_ne, bne_eq_false_iff_eq, Bool.not_eq_true', Bool.not_eq_false', Int.not_lt, Int.not_le, ne_eq, reduceCtorEq, not_true_eq_false, not_false_eq_true, Decidable.not_not] at hc) <;> (try (exfalso; omega)) <;> (try refine W_norm rfl ?_))
        | (refine W_pick rfl (fun hc => ?_) (fun hc => ?_) <;> (try rw [hc]) <;> (try simp only [decide_eq_true_eq, decide_eq_false_iff_not, beq_iff_eq, beq_eq_false_iff_ne, bne_iff_ne, bne_eq_false_iff_eq, Bool.not_eq_true', Bool.not_eq_false', Int.not_lt, Int.not_le, ne_eq, reduceCtorEq, not_true_eq_false, not_false_eq_true, Decidable.not_not] at hc) <;> (try (exfalso; omega)) <;> (try refine W_norm rfl ?_))
        | refine W_add rfl rfl rfl (W_norm rfl ?_)
        | refine W_sub rfl rfl rfl (W_norm rfl ?_)
        | refine W_mul rfl rfl rfl (W_norm rfl ?_)
        | (refine fnK_r rfl ?_; try dsimp only [gd_z, gd_s])
        | (refine fnK_n rfl ?_; try dsimp only [gd_z, gd_s]))
      rw [List.drop_eq_nil_of_le (by rw [ints_length]; omega)] at hx
      exact ⟨_, rfl, by rw [hx]; rfl, rfl⟩
end Go.Proofs.Ytcgfcnbcfcllpaa
