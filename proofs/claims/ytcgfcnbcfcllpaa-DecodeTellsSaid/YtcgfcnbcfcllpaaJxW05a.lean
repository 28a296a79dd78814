/- The program's reader of characters, walked. -/
import Derived.Test.YtcgfcnbcfcllpaaJxD05
import Derived.Test.YtcgfcnbcfcllpaaJxW4
set_option linter.unusedSimpArgs false
set_option linter.unusedVariables false
set_option maxHeartbeats 1000000
set_option maxRecDepth 100000
namespace Go.Proofs.Ytcgfcnbcfcllpaa
open Go Go.Jx

def andV (b m : Nat) : Int := IntKind.u8.wrap (BitVec.ofInt IntKind.u8.bits (b : Int) &&& BitVec.ofInt IntKind.u8.bits (m : Int)).toNat
theorem and_all : ((List.range 256).all fun b => decide (andV b 31 = (b : Int) % 32 ∧ andV b 15 = (b : Int) % 16 ∧ andV b 7 = (b : Int) % 8 ∧ andV b 63 = (b : Int) % 64)) = true := by kernel_rfl
theorem and_ok {b : Int} (hb : 0 ≤ b ∧ b < 256) : IntKind.u8.wrap (BitVec.ofInt IntKind.u8.bits b &&& BitVec.ofInt IntKind.u8.bits 31).toNat = b % 32 ∧ IntKind.u8.wrap (BitVec.ofInt IntKind.u8.bits b &&& BitVec.ofInt IntKind.u8.bits 15).toNat = b % 16 ∧
    IntKind.u8.wrap (BitVec.ofInt IntKind.u8.bits b &&& BitVec.ofInt IntKind.u8.bits 7).toNat = b % 8 ∧ IntKind.u8.wrap (BitVec.ofInt IntKind.u8.bits b &&& BitVec.ofInt IntKind.u8.bits 63).toNat = b % 64 := by
  have h := of_decide_eq_true (List.all_eq_true.1 and_all b.toNat (by simp; omega))
  unfold andV at h
  rw [Int.toNat_of_nonneg hb.1] at h
  exact h

theorem or_nat (x y : Nat) (hy : y < 64) : x * 64 ||| y = x * 64 + y := by
  have := Nat.shiftLeft_add_eq_or_of_lt (i := 6) (b := y) (by omega) x
  rw [Nat.shiftLeft_eq] at this
  exact this.symm
theorem or_ok {x y : Int} (hx : 0 ≤ x ∧ x < 16777216) (hy : 0 ≤ y ∧ y < 64) : IntKind.i32.wrap (BitVec.ofInt IntKind.i32.bits (IntKind.i32.wrap (x * 2 ^ (Min.min (6 : Int).toNat IntKind.i32.bits))) ||| BitVec.ofInt IntKind.i32.bits y).toNat = x * 64 + y := by
  obtain ⟨a, rfl⟩ := Int.eq_ofNat_of_zero_le hx.1
  obtain ⟨b, rfl⟩ := Int.eq_ofNat_of_zero_le hy.1
  rw [show (2 : Int) ^ (Min.min (6 : Int).toNat IntKind.i32.bits) = 64 by decide, show IntKind.i32.wrap ((a : Int) * 64) = (a : Int) * 64 from IntWalk.i32_in _ (by omega)]
  have e1 : (BitVec.ofInt IntKind.i32.bits ((a : Int) * 64) ||| BitVec.ofInt IntKind.i32.bits (b : Int)).toNat = a * 64 + b := by
    rw [show ((a : Int) * 64) = ((a * 64 : Nat) : Int) by omega, BitVec.ofInt_natCast, BitVec.ofInt_natCast, BitVec.toNat_or, BitVec.toNat_ofNat, BitVec.toNat_ofNat]
    rw [Nat.mod_eq_of_lt (show a * 64 < 2 ^ IntKind.i32.bits by show a * 64 < 4294967296; omega), Nat.mod_eq_of_lt (show b < 2 ^ IntKind.i32.bits by show b < 4294967296; omega)]
    exact or_nat a b (by omega)
  rw [e1, IntWalk.i32_in _ (by omega)]; omega

def begA (p : Int × Int × Int × Int) : AV := .tup [.sc (.int .i64 p.1), .sc (.int .u8 p.2.1), .sc (.int .u8 p.2.2.1), .sc (.int .i32 p.2.2.2)]

theorem w20 (b : Int) (h : Heap) (hb : 0 ≤ b ∧ b < 256) : W DD (.call 20 [.sc (.int .u8 b)] h) (fun _ vs h' => ∃ v, vs = [v] ∧ v = begA (beginsL b) ∧ h' = h) := by
  obtain ⟨e1, e2, e3, e4⟩ := and_ok hb
  refine W_enter d20 ?_
  show W _ (.code m20_code [.sc (.int .u8 b), undefA, undefA, undefA, undefA, undefA, undefA, undefA, undefA, undefA, undefA, undefA, undefA, undefA, undefA, undefA, undefA, undefA, undefA, undefA, undefA, undefA, undefA, undefA, undefA, undefA, undefA, undefA, undefA, undefA, undefA, undefA, undefA, undefA, undefA, undefA, undefA, undefA, undefA, undefA, undefA, undefA, undefA, undefA, undefA, undefA, undefA, undefA, undefA, undefA, undefA] _) _
  unfold m20_code
  repeat' (first
    | refine W_fast rfl ?_
    | (refine W_and rfl rfl ?_; first | rw [e1] | rw [e2] | rw [e3] | rw [e4]; refine W_norm rfl ?_)
    | refine W_seq ?_
    | refine W_ops ?_
    | refine W_nil ?_
    | refine seqK_n ?_
    | refine seqK_r ?_
    | refine seqK_x ?_
    | refine blockK_r ?_
    | refine blockK_n ?_
    | refine blockK_e ?_
    | refine blockK_x rfl ?_
    | refine loopK_x ?_
    | refine loopK_r ?_
    | refine invK_x ?_
    | refine invK_r ?_
    | refine invK_n ?_
    | refine W_guard_on rfl ?_
    | refine W_guard_off rfl rfl (W_norm rfl ?_)
    | refine W_guard_u rfl (W_norm rfl ?_)
    | refine W_pick_t rfl rfl (W_norm rfl ?_)
    | refine W_pick_f rfl rfl (W_norm rfl ?_)
    | refine W_skip ?_
    | refine W_ret ?_
    | refine W_exit ?_
    | refine W_cond_t rfl ?_
    | refine W_cond_f rfl ?_
    | refine W_block ?_
    | refine W_draw rfl ?_
    | refine W_add rfl rfl (IntWalk.i64_in _ (by omega)) (W_norm rfl ?_)
    | refine W_add rfl rfl (IntWalk.i32_in _ (by omega)) (W_norm rfl ?_)
    | refine W_add rfl rfl (IntWalk.u8_in _ (by omega)) (W_norm rfl ?_)
    | refine W_sub rfl rfl (IntWalk.i64_in _ (by omega)) (W_norm rfl ?_)
    | refine W_sub rfl rfl (IntWalk.i32_in _ (by omega)) (W_norm rfl ?_)
    | refine W_sub rfl rfl (IntWalk.u8_in _ (by omega)) (W_norm rfl ?_)
    | refine W_mul rfl rfl (IntWalk.i64_in _ (by omega)) (W_norm rfl ?_)
    | refine W_mul rfl rfl (IntWalk.i32_in _ (by omega)) (W_norm rfl ?_)
    | refine W_mul rfl rfl (IntWalk.u8_in _ (by omega)) (W_norm rfl ?_)
    | refine W_convint rfl (IntWalk.i64_in _ (by omega)) (W_norm rfl ?_)
    | refine W_convint rfl (IntWalk.i32_in _ (by omega)) (W_norm rfl ?_)
    | refine W_convint rfl (IntWalk.u8_in _ (by omega)) (W_norm rfl ?_)
    | refine W_div rfl rfl (by omega) (W_norm rfl ?_)
    | refine W_mod rfl rfl (by omega) (W_norm rfl ?_)
    | refine W_indexSlice rfl rfl ⟨by omega, by omega⟩ (W_norm rfl ?_)
    | refine W_indexArr rfl rfl ⟨by omega, by omega⟩ (W_norm rfl ?_)
    | refine W_alloc (W_norm rfl ?_)
    | (refine W_guardT rfl (fun hc => ?_) (fun hc => ?_) <;> (try rw [hc]) <;> (try simp only [decide_eq_true_eq, decide_eq_false_iff_not, beq_iff_eq, beq_eq_false_iff_ne, bne_iff_ne, bne_eq_false_iff_eq, Bool.not_eq_true', Bool.not_eq_false', Int.not_lt, Int.not_le, ne_eq, reduceCtorEq, not_true_eq_false, not_false_eq_true, Decidable.not_not] at hc) <;> (try (exfalso; omega)) <;> (try refine W_norm rfl ?_))
    | (refine W_guardF rfl (fun hc => ?_) (fun hc => ?_) <;> (try rw [hc]) <;> (try simp only [decide_eq_true_eq, decide_eq_false_iff_not, beq_iff_eq, beq_eq_false_iff_ne, bne_iff_ne, bne_eq_false_iff_eq, Bool.not_eq_true', Bool.not_eq_false', Int.not_lt, Int.not_le, ne_eq, reduceCtorEq, not_true_eq_false, not_false_eq_true, Decidable.not_not] at hc) <;> (try (exfalso; omega)) <;> (try refine W_norm rfl ?_))
    | (refine W_cond rfl (fun hc => ?_) (fun hc => ?_) <;> (try rw [hc]) <;> (try simp only [decide_eq_true_eq, decide_eq_false_iff_not, beq_iff_eq, beq_eq_false_iff_ne, bne_iff_ne, bne_eq_false_iff_eq, Bool.not_eq_true', Bool.not_eq_false', Int.not_lt, Int.not_le, ne_eq, reduceCtorEq, not_true_eq_false, not_false_eq_true, Decidable.not_not] at hc) <;> (try (exfalso; omega)) <;> (try refine W_norm rfl ?_))
    | (refine W_pick rfl (fun hc => ?_) (fun hc => ?_) <;> (try rw [hc]) <;> (try simp only [decide_eq_true_eq, decide_eq_false_iff_not, beq_iff_eq, beq_eq_false_iff_ne, bne_iff_ne, bne_eq_false_iff_eq, Bool.not_eq_true', Bool.not_eq_false', Int.not_lt, Int.not_le, ne_eq, reduceCtorEq, not_true_eq_false, not_false_eq_true, Decidable.not_not] at hc) <;> (try (exfalso; omega)) <;> (try refine W_norm rfl ?_))
    | refine W_add rfl rfl rfl (W_norm rfl ?_)
    | refine W_sub rfl rfl rfl (W_norm rfl ?_)
    | refine W_mul rfl rfl rfl (W_norm rfl ?_)
    | (refine fnK_r rfl ?_; try dsimp only [gd_z, gd_s])
    | (refine fnK_n rfl ?_; try dsimp only [gd_z, gd_s]))
  all_goals (refine ⟨_, rfl, ?_, rfl⟩; unfold beginsL; simp (disch := omega) only [if_pos, if_neg]; rfl)

def encD (d : Dec) : List SV := [.int .i64 d.kept, .int .i64 d.left, .int .u8 d.low, .int .u8 d.high, .int .i32 d.x]
def HasD (id : Nat) (d : Dec) (h : Heap) : Prop := h.get id = some (.cells 28 .own (encD d))
def firstA' (l : List Int) : AV := .tup [.sc (.int .i32 (l.getD 0 0)), .sc (.bool (decide (l ≠ [])))]

theorem w17 (id : Nat) (d : Dec) (b : Int) (h : Heap) (hb : 0 ≤ b ∧ b < 256) (hd : HasD id d h) : W DD (.call 17 [.sc (.ptr id 0), .sc (.int .u8 b)] h) (fun _ vs h' => ∃ v, vs = [v] ∧ (v = firstA' (firstL d b).2 ∧ HasD id (firstL d b).1 h' ∧ Mod id h h' ∧ h'.n = h.n)) := by
  refine W_enter d17 ?_
  show W _ (.code m17_code [.sc (.ptr id 0), .sc (.int .u8 b), undefA, undefA, undefA, undefA, undefA, undefA, undefA, undefA, undefA, undefA, undefA, undefA, undefA, undefA, undefA, undefA, undefA, undefA, undefA, undefA, undefA, undefA, undefA, undefA, undefA, undefA, undefA, undefA, undefA] _) _
  unfold m17_code
  unfold HasD at hd
  repeat' (first
    | refine W_fast rfl ?_
    | (refine W_callsN 20 rfl (w20 _ _ hb) rfl ?_; rintro _ _ ⟨rfl, rfl⟩; unfold begA; refine W_norm rfl ?_)
    | (refine W_storeT hd rfl rfl rfl (by decide) rfl rfl ?_; intro h2 ht; refine W_norm rfl ?_)
    | refine W_seq ?_
    | refine W_ops ?_
    | refine W_nil ?_
    | refine seqK_n ?_
    | refine seqK_r ?_
    | refine seqK_x ?_
    | refine blockK_r ?_
    | refine blockK_n ?_
    | refine blockK_e ?_
    | refine blockK_x rfl ?_
    | refine loopK_x ?_
    | refine loopK_r ?_
    | refine invK_x ?_
    | refine invK_r ?_
    | refine invK_n ?_
    | refine W_guard_on rfl ?_
    | refine W_guard_off rfl rfl (W_norm rfl ?_)
    | refine W_guard_u rfl (W_norm rfl ?_)
    | refine W_pick_t rfl rfl (W_norm rfl ?_)
    | refine W_pick_f rfl rfl (W_norm rfl ?_)
    | refine W_skip ?_
    | refine W_ret ?_
    | refine W_exit ?_
    | refine W_cond_t rfl ?_
    | refine W_cond_f rfl ?_
    | refine W_block ?_
    | refine W_draw rfl ?_
    | refine W_add rfl rfl (IntWalk.i64_in _ (by omega)) (W_norm rfl ?_)
    | refine W_add rfl rfl (IntWalk.i32_in _ (by omega)) (W_norm rfl ?_)
    | refine W_add rfl rfl (IntWalk.u8_in _ (by omega)) (W_norm rfl ?_)
    | refine W_sub rfl rfl (IntWalk.i64_in _ (by omega)) (W_norm rfl ?_)
    | refine W_sub rfl rfl (IntWalk.i32_in _ (by omega)) (W_norm rfl ?_)
    | refine W_sub rfl rfl (IntWalk.u8_in _ (by omega)) (W_norm rfl ?_)
    | refine W_mul rfl rfl (IntWalk.i64_in _ (by omega)) (W_norm rfl ?_)
    | refine W_mul rfl rfl (IntWalk.i32_in _ (by omega)) (W_norm rfl ?_)
    | refine W_mul rfl rfl (IntWalk.u8_in _ (by omega)) (W_norm rfl ?_)
    | refine W_convint rfl (IntWalk.i64_in _ (by omega)) (W_norm rfl ?_)
    | refine W_convint rfl (IntWalk.i32_in _ (by omega)) (W_norm rfl ?_)
    | refine W_convint rfl (IntWalk.u8_in _ (by omega)) (W_norm rfl ?_)
    | refine W_div rfl rfl (by omega) (W_norm rfl ?_)
    | refine W_mod rfl rfl (by omega) (W_norm rfl ?_)
    | refine W_indexSlice rfl rfl ⟨by omega, by omega⟩ (W_norm rfl ?_)
    | refine W_indexArr rfl rfl ⟨by omega, by omega⟩ (W_norm rfl ?_)
    | refine W_alloc (W_norm rfl ?_)
    | (refine W_guardT rfl (fun hc => ?_) (fun hc => ?_) <;> (try rw [hc]) <;> (try simp only [decide_eq_true_eq, decide_eq_false_iff_not, beq_iff_eq, beq_eq_false_iff_ne, bne_iff_ne, bne_eq_false_iff_eq, Bool.not_eq_true', Bool.not_eq_false', Int.not_lt, Int.not_le, ne_eq, reduceCtorEq, not_true_eq_false, not_false_eq_true, Decidable.not_not] at hc) <;> (try (exfalso; omega)) <;> (try refine W_norm rfl ?_))
    | (refine W_guardF rfl (fun hc => ?_) (fun hc => ?_) <;> (try rw [hc]) <;> (try simp only [decide_eq_true_eq, decide_eq_false_iff_not, beq_iff_eq, beq_eq_false_iff_ne, bne_iff_ne, bne_eq_false_iff_eq, Bool.not_eq_true', Bool.not_eq_false', Int.not_lt, Int.not_le, ne_eq, reduceCtorEq, not_true_eq_false, not_false_eq_true, Decidable.not_not] at hc) <;> (try (exfalso; omega)) <;> (try refine W_norm rfl ?_))
    | (refine W_cond rfl (fun hc => ?_) (fun hc => ?_) <;> (try rw [hc]) <;> (try simp only [decide_eq_true_eq, decide_eq_false_iff_not, beq_iff_eq, beq_eq_false_iff_ne, bne_iff_ne, bne_eq_false_iff_eq, Bool.not_eq_true', Bool.not_eq_false', Int.not_lt, Int.not_le, ne_eq, reduceCtorEq, not_true_eq_false, not_false_eq_true, Decidable.not_not] at hc) <;> (try (exfalso; omega)) <;> (try refine W_norm rfl ?_))
    | (refine W_pick rfl (fun hc => ?_) (fun hc => ?_) <;> (try rw [hc]) <;> (try simp only [decide_eq_true_eq, decide_eq_false_iff_not, beq_iff_eq, beq_eq_false_iff_ne, bne_iff_ne, bne_eq_false_iff_eq, Bool.not_eq_true', Bool.not_eq_false', Int.not_lt, Int.not_le, ne_eq, reduceCtorEq, not_true_eq_false, not_false_eq_true, Decidable.not_not] at hc) <;> (try (exfalso; omega)) <;> (try refine W_norm rfl ?_))
    | refine W_add rfl rfl rfl (W_norm rfl ?_)
    | refine W_sub rfl rfl rfl (W_norm rfl ?_)
    | refine W_mul rfl rfl rfl (W_norm rfl ?_)
    | (refine fnK_r rfl ?_; try dsimp only [gd_z, gd_s])
    | (refine fnK_n rfl ?_; try dsimp only [gd_z, gd_s]))
  · exact ⟨_, rfl, by unfold firstL; rw [if_pos hc]; rfl, by unfold firstL; rw [if_pos hc]; exact hd, Mod.refl _ _, rfl⟩
  · exact ⟨_, rfl, by unfold firstL; rw [if_neg (by omega), if_pos hc]; rfl, by unfold firstL; rw [if_neg (by omega), if_pos hc]; exact hd, Mod.refl _ _, rfl⟩
  · exact ⟨_, rfl, by unfold firstL; rw [if_neg (by omega), if_neg hc]; rfl, by unfold firstL; rw [if_neg (by omega), if_neg hc]; exact ht.new, ht.mod, ht.n⟩

def outA (l : List Int) : AV := .tup [.agg [.int .i32 (l.getD 0 0), .int .i32 (l.getD 1 0)], .sc (.int .i64 (l.length : Int))]
def DecOk (d : Dec) : Prop := 0 ≤ d.kept ∧ d.kept ≤ 3 ∧ 0 ≤ d.left ∧ d.left ≤ 3 ∧ 0 ≤ d.x ∧ d.x < 1048576

theorem w12nil (b : Int) (h : Heap) : W DD (.call 12 [.sc .nilp, .sc (.int .u8 b)] h) (fun _ vs h' => ∃ v, vs = [v] ∧ (v = outA [] ∧ Sub h h')) := by
  refine W_enter d12 ?_
  show W _ (.code m12_code [.sc .nilp, .sc (.int .u8 b), undefA, undefA, undefA, undefA, undefA, undefA, undefA, undefA, undefA, undefA, undefA, undefA, undefA, undefA, undefA, undefA, undefA, undefA, undefA, undefA, undefA, undefA, undefA, undefA, undefA, undefA, undefA, undefA, undefA, undefA, undefA, undefA, undefA, undefA, undefA, undefA, undefA, undefA, undefA, undefA, undefA, undefA, undefA, undefA, undefA, undefA, undefA, undefA, undefA, undefA, undefA, undefA, undefA, undefA, undefA, undefA, undefA, undefA, undefA, undefA, undefA, undefA, undefA, undefA, undefA, undefA, undefA, undefA, undefA, undefA, undefA, undefA, undefA, undefA, undefA, undefA, undefA, undefA, undefA, undefA, undefA, undefA, undefA, undefA, undefA, undefA, undefA, undefA, undefA, undefA] _) _
  unfold m12_code
  repeat' (first
    | refine W_fast rfl ?_
    | (refine W_allocT ?_; intro h1 ha hs1 hn1; refine W_norm rfl ?_)
    | refine W_nil_ptr_t rfl rfl rfl (W_norm rfl ?_)
    | refine W_loadN ha rfl rfl (W_norm rfl ?_)
    | refine fnK_cell2 rfl rfl ha rfl rfl rfl ?_
    | refine fnK_cell2 rfl rfl ht.new rfl rfl rfl ?_
    | (refine W_storeT ha rfl rfl rfl (by decide) rfl rfl ?_; intro h2 ht; refine W_norm rfl ?_)
    | refine W_seq ?_
    | refine W_ops ?_
    | refine W_nil ?_
    | refine seqK_n ?_
    | refine seqK_r ?_
    | refine seqK_x ?_
    | refine blockK_r ?_
    | refine blockK_n ?_
    | refine blockK_e ?_
    | refine blockK_x rfl ?_
    | refine loopK_x ?_
    | refine loopK_r ?_
    | refine invK_x ?_
    | refine invK_r ?_
    | refine invK_n ?_
    | refine W_guard_on rfl ?_
    | refine W_guard_off rfl rfl (W_norm rfl ?_)
    | refine W_guard_u rfl (W_norm rfl ?_)
    | refine W_pick_t rfl rfl (W_norm rfl ?_)
    | refine W_pick_f rfl rfl (W_norm rfl ?_)
    | refine W_skip ?_
    | refine W_ret ?_
    | refine W_exit ?_
    | refine W_cond_t rfl ?_
    | refine W_cond_f rfl ?_
    | refine W_block ?_
    | refine W_draw rfl ?_
    | refine W_add rfl rfl (IntWalk.i64_in _ (by omega)) (W_norm rfl ?_)
    | refine W_add rfl rfl (IntWalk.i32_in _ (by omega)) (W_norm rfl ?_)
    | refine W_add rfl rfl (IntWalk.u8_in _ (by omega)) (W_norm rfl ?_)
    | refine W_sub rfl rfl (IntWalk.i64_in _ (by omega)) (W_norm rfl ?_)
    | refine W_sub rfl rfl (IntWalk.i32_in _ (by omega)) (W_norm rfl ?_)
    | refine W_sub rfl rfl (IntWalk.u8_in _ (by omega)) (W_norm rfl ?_)
    | refine W_mul rfl rfl (IntWalk.i64_in _ (by omega)) (W_norm rfl ?_)
    | refine W_mul rfl rfl (IntWalk.i32_in _ (by omega)) (W_norm rfl ?_)
    | refine W_mul rfl rfl (IntWalk.u8_in _ (by omega)) (W_norm rfl ?_)
    | refine W_convint rfl (IntWalk.i64_in _ (by omega)) (W_norm rfl ?_)
    | refine W_convint rfl (IntWalk.i32_in _ (by omega)) (W_norm rfl ?_)
    | refine W_convint rfl (IntWalk.u8_in _ (by omega)) (W_norm rfl ?_)
    | refine W_div rfl rfl (by omega) (W_norm rfl ?_)
    | refine W_mod rfl rfl (by omega) (W_norm rfl ?_)
    | refine W_indexSlice rfl rfl ⟨by omega, by omega⟩ (W_norm rfl ?_)
    | refine W_indexArr rfl rfl ⟨by omega, by omega⟩ (W_norm rfl ?_)
    | refine W_alloc (W_norm rfl ?_)
    | (refine W_guardT rfl (fun hc => ?_) (fun hc => ?_) <;> (try rw [hc]) <;> (try simp only [decide_eq_true_eq, decide_eq_false_iff_not, beq_iff_eq, beq_eq_false_iff_ne, bne_iff_ne, bne_eq_false_iff_eq, Bool.not_eq_true', Bool.not_eq_false', Int.not_lt, Int.not_le, ne_eq, reduceCtorEq, not_true_eq_false, not_false_eq_true, Decidable.not_not] at hc) <;> (try (exfalso; omega)) <;> (try refine W_norm rfl ?_))
    | (refine W_guardF rfl (fun hc => ?_) (fun hc => ?_) <;> (try rw [hc]) <;> (try simp only [decide_eq_true_eq, decide_eq_false_iff_not, beq_iff_eq, beq_eq_false_iff_ne, bne_iff_ne, bne_eq_false_iff_eq, Bool.not_eq_true', Bool.not_eq_false', Int.not_lt, Int.not_le, ne_eq, reduceCtorEq, not_true_eq_false, not_false_eq_true, Decidable.not_not] at hc) <;> (try (exfalso; omega)) <;> (try refine W_norm rfl ?_))
    | (refine W_cond rfl (fun hc => ?_) (fun hc => ?_) <;> (try rw [hc]) <;> (try simp only [decide_eq_true_eq, decide_eq_false_iff_not, beq_iff_eq, beq_eq_false_iff_ne, bne_iff_ne, bne_eq_false_iff_eq, Bool.not_eq_true', Bool.not_eq_false', Int.not_lt, Int.not_le, ne_eq, reduceCtorEq, not_true_eq_false, not_false_eq_true, Decidable.not_not] at hc) <;> (try (exfalso; omega)) <;> (try refine W_norm rfl ?_))
    | (refine W_pick rfl (fun hc => ?_) (fun hc => ?_) <;> (try rw [hc]) <;> (try simp only [decide_eq_true_eq, decide_eq_false_iff_not, beq_iff_eq, beq_eq_false_iff_ne, bne_iff_ne, bne_eq_false_iff_eq, Bool.not_eq_true', Bool.not_eq_false', Int.not_lt, Int.not_le, ne_eq, reduceCtorEq, not_true_eq_false, not_false_eq_true, Decidable.not_not] at hc) <;> (try (exfalso; omega)) <;> (try refine W_norm rfl ?_))
    | refine W_add rfl rfl rfl (W_norm rfl ?_)
    | refine W_sub rfl rfl rfl (W_norm rfl ?_)
    | refine W_mul rfl rfl rfl (W_norm rfl ?_)
    | (refine fnK_r rfl ?_; try dsimp only [gd_z, gd_s])
    | (refine fnK_n rfl ?_; try dsimp only [gd_z, gd_s]))
  exact ⟨_, rfl, rfl, ⟨by rw [ht.n, hn1]; omega, fun j o e => by rw [ht.old j (by have := Heap.get_lt e; omega)]; exact hs1.2 _ _ e⟩⟩

theorem firstL_len (d : Dec) (b : Int) : (firstL d b).2 = [] ∨ ∃ y, (firstL d b).2 = [y] := by
  unfold firstL
  split
  · exact .inr ⟨_, rfl⟩
  · split
    · exact .inr ⟨_, rfl⟩
    · exact .inl rfl

theorem w12 (id : Nat) (d : Dec) (b : Int) (h : Heap) (hb : 0 ≤ b ∧ b < 256) (hd : HasD id d h) (hok : DecOk d) : W DD (.call 12 [.sc (.ptr id 0), .sc (.int .u8 b)] h) (fun _ vs h' => ∃ v, vs = [v] ∧ (v = outA (byteL d b).2 ∧ HasD id (byteL d b).1 h' ∧ Mod id h h')) := by
  obtain ⟨e1, e2, e3, e4⟩ := and_ok hb
  obtain ⟨k1, k2, k3, k4, k5, k6⟩ := hok
  have hlt : id < h.n := Heap.get_lt hd
  unfold HasD at hd
  refine W_enter d12 ?_
  show W _ (.code m12_code [.sc (.ptr id 0), .sc (.int .u8 b), undefA, undefA, undefA, undefA, undefA, undefA, undefA, undefA, undefA, undefA, undefA, undefA, undefA, undefA, undefA, undefA, undefA, undefA, undefA, undefA, undefA, undefA, undefA, undefA, undefA, undefA, undefA, undefA, undefA, undefA, undefA, undefA, undefA, undefA, undefA, undefA, undefA, undefA, undefA, undefA, undefA, undefA, undefA, undefA, undefA, undefA, undefA, undefA, undefA, undefA, undefA, undefA, undefA, undefA, undefA, undefA, undefA, undefA, undefA, undefA, undefA, undefA, undefA, undefA, undefA, undefA, undefA, undefA, undefA, undefA, undefA, undefA, undefA, undefA, undefA, undefA, undefA, undefA, undefA, undefA, undefA, undefA, undefA, undefA, undefA, undefA, undefA, undefA, undefA, undefA] _) _
  unfold m12_code
  refine W_seq ?_
  refine W_ops ?_
  refine W_allocT ?_
  intro hp ha hs1 hn1
  have hm : Mod id h hp := Mod.of_sub hs1
  replace hd := hs1.2 _ _ hd
  generalize hA : h.n = ar at *
  repeat' (first
    | refine W_fast rfl ?_
    | refine W_nil_ptr_f rfl rfl rfl (W_norm rfl ?_)
    | refine W_load_sc rfl hd rfl (W_norm rfl ?_)
    | refine W_loadN ha rfl rfl (W_norm rfl ?_)
    | refine fnK_cell2 rfl rfl ha rfl rfl rfl ?_
    | refine fnK_cell2 rfl rfl ht.new rfl rfl rfl ?_
    | (refine W_and rfl rfl ?_; rw [e4]; refine W_norm rfl ?_)
    | refine W_shl rfl rfl (by decide) (W_norm rfl ?_)
    | (refine W_or rfl rfl ?_; rw [or_ok (by omega) (by omega)]; refine W_norm rfl ?_)
    | (refine W_storeT hd rfl rfl rfl (by decide) rfl rfl ?_; intro h2 ht; have ha := (ht.old ar (by omega)).trans ha; have hd := ht.new; have hm := hm.trans ht.mod; refine W_norm rfl ?_)
    | (refine W_storeT ha rfl rfl rfl (by decide) rfl rfl ?_; intro h2 ht; have hd := (ht.old id (by omega)).trans hd; have ha := ht.new; have hm := ht.after hm (by omega); refine W_norm rfl ?_)
    | (refine W_callsN 17 rfl (w17 id dec0 b _ hb hd) rfl ?_; rintro _ h2 ⟨rfl, hd2, hm2, hn2⟩; have ha := hm2.2 _ _ (by omega) ha; have hd := hd2; have hm := hm.trans hm2; refine W_norm rfl ?_)
    | (refine W_callsN 17 rfl (w17 id d b _ hb hd) rfl ?_; rintro _ h2 ⟨rfl, hd2, hm2, hn2⟩; have ha := hm2.2 _ _ (by omega) ha; have hd := hd2; have hm := hm.trans hm2; refine W_norm rfl ?_)
    | refine W_seq ?_
    | refine W_ops ?_
    | refine W_nil ?_
    | refine seqK_n ?_
    | refine seqK_r ?_
    | refine seqK_x ?_
    | refine blockK_r ?_
    | refine blockK_n ?_
    | refine blockK_e ?_
    | refine blockK_x rfl ?_
    | refine loopK_x ?_
    | refine loopK_r ?_
    | refine invK_x ?_
    | refine invK_r ?_
    | refine invK_n ?_
    | refine W_guard_on rfl ?_
    | refine W_guard_off rfl rfl (W_norm rfl ?_)
    | refine W_guard_u rfl (W_norm rfl ?_)
    | refine W_pick_t rfl rfl (W_norm rfl ?_)
    | refine W_pick_f rfl rfl (W_norm rfl ?_)
    | refine W_skip ?_
    | refine W_ret ?_
    | refine W_exit ?_
    | refine W_cond_t rfl ?_
    | refine W_cond_f rfl ?_
    | refine W_block ?_
    | refine W_draw rfl ?_
    | refine W_add rfl rfl (IntWalk.i64_in _ (by omega)) (W_norm rfl ?_)
    | refine W_add rfl rfl (IntWalk.i32_in _ (by omega)) (W_norm rfl ?_)
    | refine W_add rfl rfl (IntWalk.u8_in _ (by omega)) (W_norm rfl ?_)
    | refine W_sub rfl rfl (IntWalk.i64_in _ (by omega)) (W_norm rfl ?_)
    | refine W_sub rfl rfl (IntWalk.i32_in _ (by omega)) (W_norm rfl ?_)
    | refine W_sub rfl rfl (IntWalk.u8_in _ (by omega)) (W_norm rfl ?_)
    | refine W_mul rfl rfl (IntWalk.i64_in _ (by omega)) (W_norm rfl ?_)
    | refine W_mul rfl rfl (IntWalk.i32_in _ (by omega)) (W_norm rfl ?_)
    | refine W_mul rfl rfl (IntWalk.u8_in _ (by omega)) (W_norm rfl ?_)
    | refine W_convint rfl (IntWalk.i64_in _ (by omega)) (W_norm rfl ?_)
    | refine W_convint rfl (IntWalk.i32_in _ (by omega)) (W_norm rfl ?_)
    | refine W_convint rfl (IntWalk.u8_in _ (by omega)) (W_norm rfl ?_)
    | refine W_div rfl rfl (by omega) (W_norm rfl ?_)
    | refine W_mod rfl rfl (by omega) (W_norm rfl ?_)
    | refine W_indexSlice rfl rfl ⟨by omega, by omega⟩ (W_norm rfl ?_)
    | refine W_indexArr rfl rfl ⟨by omega, by omega⟩ (W_norm rfl ?_)
    | refine W_alloc (W_norm rfl ?_)
    | (refine W_guardT rfl (fun hc => ?_) (fun hc => ?_) <;> (try rw [hc]) <;> (try simp only [decide_eq_true_eq, decide_eq_false_iff_not, beq_iff_eq, beq_eq_false_iff_ne, bne_iff_ne, bne_eq_false_iff_eq, Bool.not_eq_true', Bool.not_eq_false', Int.not_lt, Int.not_le, ne_eq, reduceCtorEq, not_true_eq_false, not_false_eq_true, Decidable.not_not] at hc) <;> (try (exfalso; omega)) <;> (try refine W_norm rfl ?_))
    | (refine W_guardF rfl (fun hc => ?_) (fun hc => ?_) <;> (try rw [hc]) <;> (try simp only [decide_eq_true_eq, decide_eq_false_iff_not, beq_iff_eq, beq_eq_false_iff_ne, bne_iff_ne, bne_eq_false_iff_eq, Bool.not_eq_true', Bool.not_eq_false', Int.not_lt, Int.not_le, ne_eq, reduceCtorEq, not_true_eq_false, not_false_eq_true, Decidable.not_not] at hc) <;> (try (exfalso; omega)) <;> (try refine W_norm rfl ?_))
    | (refine W_cond rfl (fun hc => ?_) (fun hc => ?_) <;> (try rw [hc]) <;> (try simp only [decide_eq_true_eq, decide_eq_false_iff_not, beq_iff_eq, beq_eq_false_iff_ne, bne_iff_ne, bne_eq_false_iff_eq, Bool.not_eq_true', Bool.not_eq_false', Int.not_lt, Int.not_le, ne_eq, reduceCtorEq, not_true_eq_false, not_false_eq_true, Decidable.not_not] at hc) <;> (try (exfalso; omega)) <;> (try refine W_norm rfl ?_))
    | (refine W_pick rfl (fun hc => ?_) (fun hc => ?_) <;> (try rw [hc]) <;> (try simp only [decide_eq_true_eq, decide_eq_false_iff_not, beq_iff_eq, beq_eq_false_iff_ne, bne_iff_ne, bne_eq_false_iff_eq, Bool.not_eq_true', Bool.not_eq_false', Int.not_lt, Int.not_le, ne_eq, reduceCtorEq, not_true_eq_false, not_false_eq_true, Decidable.not_not] at hc) <;> (try (exfalso; omega)) <;> (try refine W_norm rfl ?_))
    | refine W_add rfl rfl rfl (W_norm rfl ?_)
    | refine W_sub rfl rfl rfl (W_norm rfl ?_)
    | refine W_mul rfl rfl rfl (W_norm rfl ?_)
    | (refine fnK_r rfl ?_; try dsimp only [gd_z, gd_s])
    | (refine fnK_n rfl ?_; try dsimp only [gd_z, gd_s]))
  · have e : byteL d b = (dec0, [d.x * 64 + b % 64]) := by unfold byteL; rw [if_pos ⟨by omega, by omega, by omega⟩, if_pos hc]
    rw [e]; exact ⟨_, rfl, rfl, hd, hm⟩
  · have e : byteL d b = (⟨d.kept + 1, d.left - 1, 128, 191, d.x * 64 + b % 64⟩, []) := by unfold byteL; rw [if_pos ⟨by omega, by omega, by omega⟩, if_neg hc]
    rw [e]; exact ⟨_, rfl, rfl, hd, hm⟩
  all_goals
    first
      | (have e : byteL d b = ((firstL dec0 b).1, 65533 :: (firstL dec0 b).2) := by (unfold byteL; rw [if_neg (by omega), if_pos (by omega)])
         rw [e])
      | (have e : byteL d b = firstL d b := by (unfold byteL; rw [if_neg (by omega), if_neg (by omega)])
         rw [e])
    first
      | (rw [hc]; exact ⟨_, rfl, rfl, hd, hm⟩)
      | (rcases firstL_len dec0 b with hz | ⟨y, hz⟩
         · exact absurd hz hc
         · rw [hz]; exact ⟨_, rfl, rfl, hd, hm⟩)
      | (rcases firstL_len d b with hz | ⟨y, hz⟩
         · exact absurd hz hc
         · rw [hz]; exact ⟨_, rfl, rfl, hd, hm⟩)
end Go.Proofs.Ytcgfcnbcfcllpaa
