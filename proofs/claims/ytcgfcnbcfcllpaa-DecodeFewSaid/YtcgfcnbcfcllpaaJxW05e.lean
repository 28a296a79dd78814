/- The reference's side: whether bytes begin a character. -/
import Derived.Test.YtcgfcnbcfcllpaaJxW05d
set_option linter.unusedSimpArgs false
set_option linter.unusedVariables false
set_option maxHeartbeats 1000000
set_option maxRecDepth 100000
namespace Go.Proofs.Ytcgfcnbcfcllpaa
open Go Go.Jx

theorem fitL_len : ∀ (s : List Int) (p : Shp), p.length < s.length → fitL s p = false
  | [], p, h => by simp at h
  | b :: s, [], h => rfl
  | b :: s, q :: p, h => by rw [fitL, fitL_len s p (by simpa using h), Bool.and_false]
theorem fitL_take : ∀ (s : List Int) (p : Shp) (j : Nat) (b : Int) (q : Int × Int), s[j]? = some b → p[j]? = some q → fitL (s.take (j + 1)) p = (fitL (s.take j) p && decide (q.1 ≤ b ∧ b ≤ q.2))
  | [], p, j, b, q, h, h' => by simp at h
  | a :: s, [], j, b, q, h, h' => by simp at h'
  | a :: s, r :: p, 0, b, q, h, h' => by
    simp only [List.getElem?_cons_zero, Option.some.injEq] at h h'
    subst h h'
    simp [fitL]
  | a :: s, r :: p, j + 1, b, q, h, h' => by
    have := fitL_take s p j b q (by simpa using h) (by simpa using h')
    rw [List.take_succ_cons, List.take_succ_cons, fitL, fitL, this, Bool.and_assoc]
theorem fitL_false : ∀ (s : List Int) (p : Shp) (j : Nat), fitL (s.take j) p = false → fitL s p = false
  | [], p, j, h => by simp [fitL] at h
  | a :: s, [], j, h => rfl
  | a :: s, r :: p, 0, h => by simp [fitL] at h
  | a :: s, r :: p, j + 1, h => by
    rw [List.take_succ_cons, fitL] at h
    rw [fitL]
    cases hd : decide (r.1 ≤ a ∧ a ≤ r.2) with
    | false => rfl
    | true => rw [hd, Bool.true_and] at h; rw [Bool.true_and]; exact fitL_false s p j h
theorem shapes_drop {i : Nat} {p : Shp} (h : shapesL[i]? = some p) : shapesL.drop i = p :: shapesL.drop (i + 1) := by
  obtain ⟨h1, h2⟩ := List.getElem?_eq_some_iff.1 h
  rw [List.drop_eq_getElem_cons h1, h2]
/-- A bound of a shape is a byte. -/
theorem shape_byte {i j : Nat} {p : Shp} {q : Int × Int} (h : shapesL[i]? = some p) (h' : p[j]? = some q) : 0 ≤ q.1 ∧ q.1 < 256 ∧ 0 ≤ q.2 ∧ q.2 < 256 := by
  have h1 := List.mem_of_getElem? h
  have h2 := List.mem_of_getElem? h'
  have : ∀ p ∈ shapesL, ∀ q ∈ p, 0 ≤ q.1 ∧ q.1 < 256 ∧ 0 ≤ q.2 ∧ q.2 < 256 := by decide
  exact this p h1 q h2

def I18 (s : List UInt8) (u : SV) (h1 : Heap) : Nat → List AV → Heap → Prop := fun n e h' => ∃ (i : Nat), EnvIs 69 [(0, .sc (.str s)), (3, .sc u), (4, .sc (.int .i64 (i : Int)))] e ∧ i ≤ 9 ∧ n = 9 - i ∧ h' = h1 ∧ beginsR (ints s) = scanS (ints s) (shapesL.drop i)
def J18 (s : List UInt8) (u : SV) (h1 : Heap) (p : Shp) (i : Nat) : Nat → List AV → Heap → Prop := fun n e h' => ∃ (j : Nat) (ok : Bool), EnvIs 69 [(0, .sc (.str s)), (3, .sc u), (4, .sc (.int .i64 (i : Int))), (5, .sc (.bool ok)), (6, .sc (.int .i64 (j : Int)))] e ∧ j ≤ s.length ∧ n = s.length - j ∧ h' = h1 ∧ ok = (decide (s.length ≤ p.length) && fitL ((ints s).take j) p)

theorem w18 (s : List UInt8) (h : Heap) (hl : s.length ≤ 100000) : W DD (.call 18 [.sc (.str s)] h) (fun _ vs h' => ∃ v, vs = [v] ∧ v = .sc (.int .i64 (beginsR (ints s))) ∧ Sub h h') := by
  refine W_enter d18 ?_
  show W _ (.code m18_code [.sc (.str s), undefA, undefA, undefA, undefA, undefA, undefA, undefA, undefA, undefA, undefA, undefA, undefA, undefA, undefA, undefA, undefA, undefA, undefA, undefA, undefA, undefA, undefA, undefA, undefA, undefA, undefA, undefA, undefA, undefA, undefA, undefA, undefA, undefA, undefA, undefA, undefA, undefA, undefA, undefA, undefA, undefA, undefA, undefA, undefA, undefA, undefA, undefA, undefA, undefA, undefA, undefA, undefA, undefA, undefA, undefA, undefA, undefA, undefA, undefA, undefA, undefA, undefA, undefA, undefA, undefA, undefA, undefA, undefA] _) _
  unfold m18_code
  repeat' (first
    | refine W_fast rfl ?_
    | (refine W_callsN 21 rfl (w21 _) rfl ?_; rintro _ h1 ⟨u, rfl, ⟨vs, hvs, hvl, hsh⟩, hs1⟩; refine W_norm rfl ?_)
    | refine W_seq ?_
    | refine W_ops ?_
    | refine W_nil ?_
    | refine seqK_n ?_
    | refine seqK_r ?_
    | refine seqK_x ?_
    | refine blockK_r ?_
    | refine blockK_n ?_
    | refine blockK_e ?_
    | refine blockK_x rfl ?_
    | refine loopK_x ?_
    | refine loopK_r ?_
    | refine invK_x ?_
    | refine invK_r ?_
    | refine invK_n ?_
    | refine W_guard_on rfl ?_
    | refine W_guard_off rfl rfl (W_norm rfl ?_)
    | refine W_guard_u rfl (W_norm rfl ?_)
    | refine W_pick_t rfl rfl (W_norm rfl ?_)
    | refine W_pick_f rfl rfl (W_norm rfl ?_)
    | refine W_skip ?_
    | refine W_ret ?_
    | refine W_exit ?_
    | refine W_cond_t rfl ?_
    | refine W_cond_f rfl ?_
    | refine W_block ?_
    | refine W_draw rfl ?_
    | refine W_add rfl rfl (IntWalk.i64_in _ (by omega)) (W_norm rfl ?_)
    | refine W_add rfl rfl (IntWalk.i32_in _ (by omega)) (W_norm rfl ?_)
    | refine W_add rfl rfl (IntWalk.u8_in _ (by omega)) (W_norm rfl ?_)
    | refine W_sub rfl rfl (IntWalk.i64_in _ (by omega)) (W_norm rfl ?_)
    | refine W_sub rfl rfl (IntWalk.i32_in _ (by omega)) (W_norm rfl ?_)
    | refine W_sub rfl rfl (IntWalk.u8_in _ (by omega)) (W_norm rfl ?_)
    | refine W_mul rfl rfl (IntWalk.i64_in _ (by omega)) (W_norm rfl ?_)
    | refine W_mul rfl rfl (IntWalk.i32_in _ (by omega)) (W_norm rfl ?_)
    | refine W_mul rfl rfl (IntWalk.u8_in _ (by omega)) (W_norm rfl ?_)
    | refine W_convint rfl (IntWalk.i64_in _ (by omega)) (W_norm rfl ?_)
    | refine W_convint rfl (IntWalk.i32_in _ (by omega)) (W_norm rfl ?_)
    | refine W_convint rfl (IntWalk.u8_in _ (by omega)) (W_norm rfl ?_)
    | refine W_div rfl rfl (by omega) (W_norm rfl ?_)
    | refine W_mod rfl rfl (by omega) (W_norm rfl ?_)
    | refine W_indexSlice rfl rfl ⟨by omega, by omega⟩ (W_norm rfl ?_)
    | refine W_indexArr rfl rfl ⟨by omega, by omega⟩ (W_norm rfl ?_)
    | refine W_alloc (W_norm rfl ?_)
    | (refine W_guardT rfl (fun hc => ?_) (fun hc => ?_) <;> (try rw [hc]) <;> (try simp only [decide_eq_true_eq, decide_eq_false_iff_not, beq_iff_eq, beq_eq_false_iff_ne, bne_iff_ne, bne_eq_false_iff_eq, Bool.not_eq_true', Bool.not_eq_false', Int.not_lt, Int.not_le, ne_eq, reduceCtorEq, not_true_eq_false, not_false_eq_true, Decidable.not_not] at hc) <;> (try (exfalso; omega)) <;> (try refine W_norm rfl ?_))
    | (refine W_guardF rfl (fun hc => ?_) (fun hc => ?_) <;> (try rw [hc]) <;> (try simp only [decide_eq_true_eq, decide_eq_false_iff_not, beq_iff_eq, beq_eq_false_iff_ne, bne_iff_ne, bne_eq_false_iff_eq, Bool.not_eq_true', Bool.not_eq_false', Int.not_lt, Int.not_le, ne_eq, reduceCtorEq, not_true_eq_false, not_false_eq_true, Decidable.not_not] at hc) <;> (try (exfalso; omega)) <;> (try refine W_norm rfl ?_))
    | (refine W_cond rfl (fun hc => ?_) (fun hc => ?_) <;> (try rw [hc]) <;> (try simp only [decide_eq_true_eq, decide_eq_false_iff_not, beq_iff_eq, beq_eq_false_iff_ne, bne_iff_ne, bne_eq_false_iff_eq, Bool.not_eq_true', Bool.not_eq_false', Int.not_lt, Int.not_le, ne_eq, reduceCtorEq, not_true_eq_false, not_false_eq_true, Decidable.not_not] at hc) <;> (try (exfalso; omega)) <;> (try refine W_norm rfl ?_))
    | (refine W_pick rfl (fun hc => ?_) (fun hc => ?_) <;> (try rw [hc]) <;> (try simp only [decide_eq_true_eq, decide_eq_false_iff_not, beq_iff_eq, beq_eq_false_iff_ne, bne_iff_ne, bne_eq_false_iff_eq, Bool.not_eq_true', Bool.not_eq_false', Int.not_lt, Int.not_le, ne_eq, reduceCtorEq, not_true_eq_false, not_false_eq_true, Decidable.not_not] at hc) <;> (try (exfalso; omega)) <;> (try refine W_norm rfl ?_))
    | refine W_add rfl rfl rfl (W_norm rfl ?_)
    | refine W_sub rfl rfl rfl (W_norm rfl ?_)
    | refine W_mul rfl rfl rfl (W_norm rfl ?_)
    | (refine fnK_r rfl ?_; try dsimp only [gd_z, gd_s])
    | (refine fnK_n rfl ?_; try dsimp only [gd_z, gd_s]))
  refine W_loop (I18 s u h1) 9 ⟨0, ⟨rfl, rfl, rfl, rfl, trivial⟩, by omega, rfl, rfl, rfl⟩ ?_
  rintro n _ h2 ⟨i, he, hi, rfl, rfl, hx⟩
  obtain ⟨us, rfl⟩ := he.list
  show W _ (.code _ [.sc (.str s), us 1, us 2, .sc u, .sc (.int .i64 (i : Int)), us 5, us 6, us 7, us 8, us 9, us 10, us 11, us 12, us 13, us 14, us 15, us 16, us 17, us 18, us 19, us 20, us 21, us 22, us 23, us 24, us 25, us 26, us 27, us 28, us 29, us 30, us 31, us 32, us 33, us 34, us 35, us 36, us 37, us 38, us 39, us 40, us 41, us 42, us 43, us 44, us 45, us 46, us 47, us 48, us 49, us 50, us 51, us 52, us 53, us 54, us 55, us 56, us 57, us 58, us 59, us 60, us 61, us 62, us 63, us 64, us 65, us 66, us 67, us 68] _) _
  unfold m18_l3
  by_cases hlt : i < 9
  · obtain ⟨p, hp⟩ : ∃ p, shapesL[i]? = some p := ⟨_, List.getElem?_eq_getElem hlt⟩
    obtain ⟨si, hsi, hss⟩ := hsh i p hp
    have hsi' : vs[(i : Int).toNat]? = some si := hsi
    repeat' (first
      | refine W_fast rfl ?_
      | refine W_lenSl hvs rfl (W_norm rfl ?_)
      | (refine W_indexSl hvs rfl rfl (by omega) hsi' ?_; rintro id1 o1 hp1; refine W_norm rfl ?_)
      | refine W_loadPt0 hp1 rfl rfl (W_norm rfl ?_)
      | refine W_lenSl hss rfl (W_norm rfl ?_)
      | refine W_seq ?_
      | refine W_ops ?_
      | refine W_nil ?_
      | refine seqK_n ?_
      | refine seqK_r ?_
      | refine seqK_x ?_
      | refine blockK_r ?_
      | refine blockK_n ?_
      | refine blockK_e ?_
      | refine blockK_x rfl ?_
      | refine loopK_x ?_
      | refine loopK_r ?_
      | refine invK_x ?_
      | refine invK_r ?_
      | refine invK_n ?_
      | refine W_guard_on rfl ?_
      | refine W_guard_off rfl rfl (W_norm rfl ?_)
      | refine W_guard_u rfl (W_norm rfl ?_)
      | refine W_pick_t rfl rfl (W_norm rfl ?_)
      | refine W_pick_f rfl rfl (W_norm rfl ?_)
      | refine W_skip ?_
      | refine W_ret ?_
      | refine W_exit ?_
      | refine W_cond_t rfl ?_
      | refine W_cond_f rfl ?_
      | refine W_block ?_
      | refine W_draw rfl ?_
      | refine W_add rfl rfl (IntWalk.i64_in _ (by omega)) (W_norm rfl ?_)
      | refine W_add rfl rfl (IntWalk.i32_in _ (by omega)) (W_norm rfl ?_)
      | refine W_add rfl rfl (IntWalk.u8_in _ (by omega)) (W_norm rfl ?_)
      | refine W_sub rfl rfl (IntWalk.i64_in _ (by omega)) (W_norm rfl ?_)
      | refine W_sub rfl rfl (IntWalk.i32_in _ (by omega)) (W_norm rfl ?_)
      | refine W_sub rfl rfl (IntWalk.u8_in _ (by omega)) (W_norm rfl ?_)
      | refine W_mul rfl rfl (IntWalk.i64_in _ (by omega)) (W_norm rfl ?_)
      | refine W_mul rfl rfl (IntWalk.i32_in _ (by omega)) (W_norm rfl ?_)
      | refine W_mul rfl rfl (IntWalk.u8_in _ (by omega)) (W_norm rfl ?_)
      | refine W_convint rfl (IntWalk.i64_in _ (by omega)) (W_norm rfl ?_)
      | refine W_convint rfl (IntWalk.i32_in _ (by omega)) (W_norm rfl ?_)
      | refine W_convint rfl (IntWalk.u8_in _ (by omega)) (W_norm rfl ?_)
      | refine W_div rfl rfl (by omega) (W_norm rfl ?_)
      | refine W_mod rfl rfl (by omega) (W_norm rfl ?_)
      | refine W_indexSlice rfl rfl ⟨by omega, by omega⟩ (W_norm rfl ?_)
      | refine W_indexArr rfl rfl ⟨by omega, by omega⟩ (W_norm rfl ?_)
      | refine W_alloc (W_norm rfl ?_)
      | (refine W_guardT rfl (fun hc => ?_) (fun hc => ?_) <;> (try rw [hc]) <;> (try simp only [decide_eq_true_eq, decide_eq_false_iff_not, beq_iff_eq, beq_eq_false_iff_ne, bne_iff_ne, bne_eq_false_iff_eq, Bool.not_eq_true', Bool.not_eq_false', Int.not_lt, Int.not_le, ne_eq, reduceCtorEq, not_true_eq_false, not_false_eq_true, Decidable.not_not] at hc) <;> (try (exfalso; omega)) <;> (try refine W_norm rfl ?_))
      | (refine W_guardF rfl (fun hc => ?_) (fun hc => ?_) <;> (try rw [hc]) <;> (try simp only [decide_eq_true_eq, decide_eq_false_iff_not, beq_iff_eq, beq_eq_false_iff_ne, bne_iff_ne, bne_eq_false_iff_eq, Bool.not_eq_true', Bool.not_eq_false', Int.not_lt, Int.not_le, ne_eq, reduceCtorEq, not_true_eq_false, not_false_eq_true, Decidable.not_not] at hc) <;> (try (exfalso; omega)) <;> (try refine W_norm rfl ?_))
      | (refine W_cond rfl (fun hc => ?_) (fun hc => ?_) <;> (try rw [hc]) <;> (try simp only [decide_eq_true_eq, decide_eq_false_iff_not, beq_iff_eq, beq_eq_false_iff_ne, bne_iff_ne, bne_eq_false_iff_eq, Bool.not_eq_true', Bool.not_eq_false', Int.not_lt, Int.not_le, ne_eq, reduceCtorEq, not_true_eq_false, not_false_eq_true, Decidable.not_not] at hc) <;> (try (exfalso; omega)) <;> (try refine W_norm rfl ?_))
      | (refine W_pick rfl (fun hc => ?_) (fun hc => ?_) <;> (try rw [hc]) <;> (try simp only [decide_eq_true_eq, decide_eq_false_iff_not, beq_iff_eq, beq_eq_false_iff_ne, bne_iff_ne, bne_eq_false_iff_eq, Bool.not_eq_true', Bool.not_eq_false', Int.not_lt, Int.not_le, ne_eq, reduceCtorEq, not_true_eq_false, not_false_eq_true, Decidable.not_not] at hc) <;> (try (exfalso; omega)) <;> (try refine W_norm rfl ?_))
      | refine W_add rfl rfl rfl (W_norm rfl ?_)
      | refine W_sub rfl rfl rfl (W_norm rfl ?_)
      | refine W_mul rfl rfl rfl (W_norm rfl ?_)
      | (refine fnK_r rfl ?_; try dsimp only [gd_z, gd_s])
      | (refine fnK_n rfl ?_; try dsimp only [gd_z, gd_s]))
    refine W_loop (J18 s u h2 p i) s.length ⟨0, _, ⟨rfl, rfl, rfl, rfl, rfl, rfl, trivial⟩, by omega, rfl, rfl, ?_⟩ ?_
    · rw [List.take_zero]; simp [fitL]
    rintro m _ h3 ⟨j, ok, he, hj, rfl, rfl, hok⟩
    obtain ⟨us, rfl⟩ := he.list
    show W _ (.code _ [.sc (.str s), us 1, us 2, .sc u, .sc (.int .i64 (i : Int)), .sc (.bool ok), .sc (.int .i64 (j : Int)), us 7, us 8, us 9, us 10, us 11, us 12, us 13, us 14, us 15, us 16, us 17, us 18, us 19, us 20, us 21, us 22, us 23, us 24, us 25, us 26, us 27, us 28, us 29, us 30, us 31, us 32, us 33, us 34, us 35, us 36, us 37, us 38, us 39, us 40, us 41, us 42, us 43, us 44, us 45, us 46, us 47, us 48, us 49, us 50, us 51, us 52, us 53, us 54, us 55, us 56, us 57, us 58, us 59, us 60, us 61, us 62, us 63, us 64, us 65, us 66, us 67, us 68] _) _
    unfold m18_l7
    cases ok with
    | true =>
      obtain ⟨hk1, hk2⟩ : s.length ≤ p.length ∧ fitL ((ints s).take j) p = true := by simpa using hok.symm
      by_cases hjl : j < s.length
      · obtain ⟨q, hq⟩ : ∃ q, p[(j : Int).toNat]? = some q := ⟨_, List.getElem?_eq_getElem (by show j < p.length; omega)⟩
        have hqb := shape_byte hp hq
        repeat' (first
          | refine W_fast rfl ?_
          | refine W_lenSl hvs rfl (W_norm rfl ?_)
          | (refine W_draw (by decide) ?_; dsimp only [m18_r9, List.map]; refine W_norm rfl ?_)
          | refine W_idxStr rfl rfl ⟨by omega, by omega⟩ (W_norm rfl ?_)
          | (refine W_indexSl hvs rfl rfl (by omega) hsi' ?_; rintro id1 o1 hp1; refine W_norm rfl ?_)
          | refine W_loadPt0 hp1 rfl rfl (W_norm rfl ?_)
          | (refine W_indexSl hss rfl rfl (by omega) hq ?_; rintro id2 o2 hp2; refine W_norm rfl ?_)
          | refine W_indexArr rfl rfl ⟨by omega, by omega⟩ (W_norm rfl ?_)
          | refine W_loadPt (f := 0) hp2 rfl rfl (W_norm rfl ?_)
          | refine W_loadPt (f := 1) hp2 rfl rfl (W_norm rfl ?_)
          | refine W_seq ?_
          | refine W_ops ?_
          | refine W_nil ?_
          | refine seqK_n ?_
          | refine seqK_r ?_
          | refine seqK_x ?_
          | refine blockK_r ?_
          | refine blockK_n ?_
          | refine blockK_e ?_
          | refine blockK_x rfl ?_
          | refine loopK_x ?_
          | refine loopK_r ?_
          | refine invK_x ?_
          | refine invK_r ?_
          | refine invK_n ?_
          | refine W_guard_on rfl ?_
          | refine W_guard_off rfl rfl (W_norm rfl ?_)
          | refine W_guard_u rfl (W_norm rfl ?_)
          | refine W_pick_t rfl rfl (W_norm rfl ?_)
          | refine W_pick_f rfl rfl (W_norm rfl ?_)
          | refine W_skip ?_
          | refine W_ret ?_
          | refine W_exit ?_
          | refine W_cond_t rfl ?_
          | refine W_cond_f rfl ?_
          | refine W_block ?_
          | refine W_draw rfl ?_
          | refine W_add rfl rfl (IntWalk.i64_in _ (by omega)) (W_norm rfl ?_)
          | refine W_add rfl rfl (IntWalk.i32_in _ (by omega)) (W_norm rfl ?_)
          | refine W_add rfl rfl (IntWalk.u8_in _ (by omega)) (W_norm rfl ?_)
          | refine W_sub rfl rfl (IntWalk.i64_in _ (by omega)) (W_norm rfl ?_)
          | refine W_sub rfl rfl (IntWalk.i32_in _ (by omega)) (W_norm rfl ?_)
          | refine W_sub rfl rfl (IntWalk.u8_in _ (by omega)) (W_norm rfl ?_)
          | refine W_mul rfl rfl (IntWalk.i64_in _ (by omega)) (W_norm rfl ?_)
          | refine W_mul rfl rfl (IntWalk.i32_in _ (by omega)) (W_norm rfl ?_)
          | refine W_mul rfl rfl (IntWalk.u8_in _ (by omega)) (W_norm rfl ?_)
          | refine W_convint rfl (IntWalk.i64_in _ (by omega)) (W_norm rfl ?_)
          | refine W_convint rfl (IntWalk.i32_in _ (by omega)) (W_norm rfl ?_)
          | refine W_convint rfl (IntWalk.u8_in _ (by omega)) (W_norm rfl ?_)
          | refine W_div rfl rfl (by omega) (W_norm rfl ?_)
          | refine W_mod rfl rfl (by omega) (W_norm rfl ?_)
          | refine W_indexSlice rfl rfl ⟨by omega, by omega⟩ (W_norm rfl ?_)
          | refine W_indexArr rfl rfl ⟨by omega, by omega⟩ (W_norm rfl ?_)
          | refine W_alloc (W_norm rfl ?_)
          | (refine W_guardT rfl (fun hc => ?_) (fun hc => ?_) <;> (try rw [hc]) <;> (try simp only [decide_eq_true_eq, decide_eq_false_iff_not, beq_iff_eq, beq_eq_false_iff_ne, bne_iff_ne, bne_eq_false_iff_eq, Bool.not_eq_true', Bool.not_eq_false', Int.not_lt, Int.not_le, ne_eq, reduceCtorEq, not_true_eq_false, not_false_eq_true, Decidable.not_not] at hc) <;> (try (exfalso; omega)) <;> (try refine W_norm rfl ?_))
          | (refine W_guardF rfl (fun hc => ?_) (fun hc => ?_) <;> (try rw [hc]) <;> (try simp only [decide_eq_true_eq, decide_eq_false_iff_not, beq_iff_eq, beq_eq_false_iff_ne, bne_iff_ne, bne_eq_false_iff_eq, Bool.not_eq_true', Bool.not_eq_false', Int.not_lt, Int.not_le, ne_eq, reduceCtorEq, not_true_eq_false, not_false_eq_true, Decidable.not_not] at hc) <;> (try (exfalso; omega)) <;> (try refine W_norm rfl ?_))
          | (refine W_cond rfl (fun hc => ?_) (fun hc => ?_) <;> (try rw [hc]) <;> (try simp only [decide_eq_true_eq, decide_eq_false_iff_not, beq_iff_eq, beq_eq_false_iff_ne, bne_iff_ne, bne_eq_false_iff_eq, Bool.not_eq_true', Bool.not_eq_false', Int.not_lt, Int.not_le, ne_eq, reduceCtorEq, not_true_eq_false, not_false_eq_true, Decidable.not_not] at hc) <;> (try (exfalso; omega)) <;> (try refine W_norm rfl ?_))
          | (refine W_pick rfl (fun hc => ?_) (fun hc => ?_) <;> (try rw [hc]) <;> (try simp only [decide_eq_true_eq, decide_eq_false_iff_not, beq_iff_eq, beq_eq_false_iff_ne, bne_iff_ne, bne_eq_false_iff_eq, Bool.not_eq_true', Bool.not_eq_false', Int.not_lt, Int.not_le, ne_eq, reduceCtorEq, not_true_eq_false, not_false_eq_true, Decidable.not_not] at hc) <;> (try (exfalso; omega)) <;> (try refine W_norm rfl ?_))
          | refine W_add rfl rfl rfl (W_norm rfl ?_)
          | refine W_sub rfl rfl rfl (W_norm rfl ?_)
          | refine W_mul rfl rfl rfl (W_norm rfl ?_)
          | (refine fnK_r rfl ?_; try dsimp only [gd_z, gd_s])
          | (refine fnK_n rfl ?_; try dsimp only [gd_z, gd_s]))
        all_goals
          refine ⟨_, by omega, j + 1, _, ⟨rfl, rfl, rfl, rfl, rfl, rfl, trivial⟩, by omega, rfl, rfl, ?_⟩
          have hq' : p[j]? = some q := hq
          rw [fitL_take _ _ _ _ _ (ints_get hjl) hq', hk2, Bool.true_and, decide_eq_true hk1, Bool.true_and]
          simp only [Int.toNat_natCast] at hc ⊢
          first
            | rw [decide_eq_decide]; constructor <;> intro hh <;> omega
            | (symm; rw [decide_eq_false_iff_not]; omega)
      · repeat' (first
          | refine W_fast rfl ?_
          | refine W_lenSl hvs rfl (W_norm rfl ?_)
          | (refine W_indexSl hvs rfl rfl (by omega) hsi' ?_; rintro id1 o1 hp1; refine W_norm rfl ?_)
          | refine W_loadPt0 hp1 rfl rfl (W_norm rfl ?_)
          | refine W_lenSl hss rfl (W_norm rfl ?_)
          | refine W_seq ?_
          | refine W_ops ?_
          | refine W_nil ?_
          | refine seqK_n ?_
          | refine seqK_r ?_
          | refine seqK_x ?_
          | refine blockK_r ?_
          | refine blockK_n ?_
          | refine blockK_e ?_
          | refine blockK_x rfl ?_
          | refine loopK_x ?_
          | refine loopK_r ?_
          | refine invK_x ?_
          | refine invK_r ?_
          | refine invK_n ?_
          | refine W_guard_on rfl ?_
          | refine W_guard_off rfl rfl (W_norm rfl ?_)
          | refine W_guard_u rfl (W_norm rfl ?_)
          | refine W_pick_t rfl rfl (W_norm rfl ?_)
          | refine W_pick_f rfl rfl (W_norm rfl ?_)
          | refine W_skip ?_
          | refine W_ret ?_
          | refine W_exit ?_
          | refine W_cond_t rfl ?_
          | refine W_cond_f rfl ?_
          | refine W_block ?_
          | refine W_draw rfl ?_
          | refine W_add rfl rfl (IntWalk.i64_in _ (by omega)) (W_norm rfl ?_)
          | refine W_add rfl rfl (IntWalk.i32_in _ (by omega)) (W_norm rfl ?_)
          | refine W_add rfl rfl (IntWalk.u8_in _ (by omega)) (W_norm rfl ?_)
          | refine W_sub rfl rfl (IntWalk.i64_in _ (by omega)) (W_norm rfl ?_)
          | refine W_sub rfl rfl (IntWalk.i32_in _ (by omega)) (W_norm rfl ?_)
          | refine W_sub rfl rfl (IntWalk.u8_in _ (by omega)) (W_norm rfl ?_)
          | refine W_mul rfl rfl (IntWalk.i64_in _ (by omega)) (W_norm rfl ?_)
          | refine W_mul rfl rfl (IntWalk.i32_in _ (by omega)) (W_norm rfl ?_)
          | refine W_mul rfl rfl (IntWalk.u8_in _ (by omega)) (W_norm rfl ?_)
          | refine W_convint rfl (IntWalk.i64_in _ (by omega)) (W_norm rfl ?_)
          | refine W_convint rfl (IntWalk.i32_in _ (by omega)) (W_norm rfl ?_)
          | refine W_convint rfl (IntWalk.u8_in _ (by omega)) (W_norm rfl ?_)
          | refine W_div rfl rfl (by omega) (W_norm rfl ?_)
          | refine W_mod rfl rfl (by omega) (W_norm rfl ?_)
          | refine W_indexSlice rfl rfl ⟨by omega, by omega⟩ (W_norm rfl ?_)
          | refine W_indexArr rfl rfl ⟨by omega, by omega⟩ (W_norm rfl ?_)
          | refine W_alloc (W_norm rfl ?_)
          | (refine W_guardT rfl (fun hc => ?_) (fun hc => ?_) <;> (try rw [hc]) <;> (try simp only [decide_eq_true_eq, decide_eq_false_iff_not, beq_iff_eq, beq_eq_false_iff_ne, bne_iff_ne, bne_eq_false_iff_eq, Bool.not_eq_true', Bool.not_eq_false', Int.not_lt, Int.not_le, ne_eq, reduceCtorEq, not_true_eq_false, not_false_eq_true, Decidable.not_not] at hc) <;> (try (exfalso; omega)) <;> (try refine W_norm rfl ?_))
          | (refine W_guardF rfl (fun hc => ?_) (fun hc => ?_) <;> (try rw [hc]) <;> (try simp only [decide_eq_true_eq, decide_eq_false_iff_not, beq_iff_eq, beq_eq_false_iff_ne, bne_iff_ne, bne_eq_false_iff_eq, Bool.not_eq_true', Bool.not_eq_false', Int.not_lt, Int.not_le, ne_eq, reduceCtorEq, not_true_eq_false, not_false_eq_true, Decidable.not_not] at hc) <;> (try (exfalso; omega)) <;> (try refine W_norm rfl ?_))
          | (refine W_cond rfl (fun hc => ?_) (fun hc => ?_) <;> (try rw [hc]) <;> (try simp only [decide_eq_true_eq, decide_eq_false_iff_not, beq_iff_eq, beq_eq_false_iff_ne, bne_iff_ne, bne_eq_false_iff_eq, Bool.not_eq_true', Bool.not_eq_false', Int.not_lt, Int.not_le, ne_eq, reduceCtorEq, not_true_eq_false, not_false_eq_true, Decidable.not_not] at hc) <;> (try (exfalso; omega)) <;> (try refine W_norm rfl ?_))
          | (refine W_pick rfl (fun hc => ?_) (fun hc => ?_) <;> (try rw [hc]) <;> (try simp only [decide_eq_true_eq, decide_eq_false_iff_not, beq_iff_eq, beq_eq_false_iff_ne, bne_iff_ne, bne_eq_false_iff_eq, Bool.not_eq_true', Bool.not_eq_false', Int.not_lt, Int.not_le, ne_eq, reduceCtorEq, not_true_eq_false, not_false_eq_true, Decidable.not_not] at hc) <;> (try (exfalso; omega)) <;> (try refine W_norm rfl ?_))
          | refine W_add rfl rfl rfl (W_norm rfl ?_)
          | refine W_sub rfl rfl rfl (W_norm rfl ?_)
          | refine W_mul rfl rfl rfl (W_norm rfl ?_)
          | (refine fnK_r rfl ?_; try dsimp only [gd_z, gd_s])
          | (refine fnK_n rfl ?_; try dsimp only [gd_z, gd_s]))
        all_goals
          have hj' : j = s.length := by omega
          rw [hj', List.take_of_length_le (by rw [ints_length]; omega)] at hk2
          refine ⟨_, rfl, ?_, hs1⟩
          rw [hx, shapes_drop hp, scanS, if_pos hk2, ints_length]
          first
            | rw [if_pos (by omega)]
            | rw [if_neg (by omega)]
    | false =>
      have hfit : fitL (ints s) p = false := by
        by_cases hlen : s.length ≤ p.length
        · rw [decide_eq_true hlen, Bool.true_and] at hok
          exact fitL_false _ _ _ hok.symm
        · exact fitL_len _ _ (by rw [ints_length]; omega)
      repeat' (first
        | refine W_fast rfl ?_
        | refine W_lenSl hvs rfl (W_norm rfl ?_)
        | refine W_seq ?_
        | refine W_ops ?_
        | refine W_nil ?_
        | refine seqK_n ?_
        | refine seqK_r ?_
        | refine seqK_x ?_
        | refine blockK_r ?_
        | refine blockK_n ?_
        | refine blockK_e ?_
        | refine blockK_x rfl ?_
        | refine loopK_x ?_
        | refine loopK_r ?_
        | refine invK_x ?_
        | refine invK_r ?_
        | refine invK_n ?_
        | refine W_guard_on rfl ?_
        | refine W_guard_off rfl rfl (W_norm rfl ?_)
        | refine W_guard_u rfl (W_norm rfl ?_)
        | refine W_pick_t rfl rfl (W_norm rfl ?_)
        | refine W_pick_f rfl rfl (W_norm rfl ?_)
        | refine W_skip ?_
        | refine W_ret ?_
        | refine W_exit ?_
        | refine W_cond_t rfl ?_
        | refine W_cond_f rfl ?_
        | refine W_block ?_
        | refine W_draw rfl ?_
        | refine W_add rfl rfl (IntWalk.i64_in _ (by omega)) (W_norm rfl ?_)
        | refine W_add rfl rfl (IntWalk.i32_in _ (by omega)) (W_norm rfl ?_)
        | refine W_add rfl rfl (IntWalk.u8_in _ (by omega)) (W_norm rfl ?_)
        | refine W_sub rfl rfl (IntWalk.i64_in _ (by omega)) (W_norm rfl ?_)
        | refine W_sub rfl rfl (IntWalk.i32_in _ (by omega)) (W_norm rfl ?_)
        | refine W_sub rfl rfl (IntWalk.u8_in _ (by omega)) (W_norm rfl ?_)
        | refine W_mul rfl rfl (IntWalk.i64_in _ (by omega)) (W_norm rfl ?_)
        | refine W_mul rfl rfl (IntWalk.i32_in _ (by omega)) (W_norm rfl ?_)
        | refine W_mul rfl rfl (IntWalk.u8_in _ (by omega)) (W_norm rfl ?_)
        | refine W_convint rfl (IntWalk.i64_in _ (by omega)) (W_norm rfl ?_)
        | refine W_convint rfl (IntWalk.i32_in _ (by omega)) (W_norm rfl ?_)
        | refine W_convint rfl (IntWalk.u8_in _ (by omega)) (W_norm rfl ?_)
        | refine W_div rfl rfl (by omega) (W_norm rfl ?_)
        | refine W_mod rfl rfl (by omega) (W_norm rfl ?_)
        | refine W_indexSlice rfl rfl ⟨by omega, by omega⟩ (W_norm rfl ?_)
        | refine W_indexArr rfl rfl ⟨by omega, by omega⟩ (W_norm rfl ?_)
        | refine W_alloc (W_norm rfl ?_)
        | (refine W_guardT rfl (fun hc => ?_) (fun hc => ?_) <;> (try rw [hc]) <;> (try simp only [decide_eq_true_eq, decide_eq_false_iff_not, beq_iff_eq, beq_eq_false_iff_ne, bne_iff_ne, bne_eq_false_iff_eq, Bool.not_eq_true', Bool.not_eq_false', Int.not_lt, Int.not_le, ne_eq, reduceCtorEq, not_true_eq_false, not_false_eq_true, Decidable.not_not] at hc) <;> (try (exfalso; omega)) <;> (try refine W_norm rfl ?_))
        | (refine W_guardF rfl (fun hc => ?_) (fun hc => ?_) <;> (try rw [hc]) <;> (try simp only [decide_eq_true_eq, decide_eq_false_iff_not, beq_iff_eq, beq_eq_false_iff_ne, bne_iff_ne, bne_eq_false_iff_eq, Bool.not_eq_true', Bool.not_eq_false', Int.not_lt, Int.not_le, ne_eq, reduceCtorEq, not_true_eq_false, not_false_eq_true, Decidable.not_not] at hc) <;> (try (exfalso; omega)) <;> (try refine W_norm rfl ?_))
        | (refine W_cond rfl (fun hc => ?_) (fun hc => ?_) <;> (try rw [hc]) <;> (try simp only [decide_eq_true_eq, decide_eq_false_iff_not, beq_iff_eq, beq_eq_false_iff_ne, bne_iff_ne, bne_eq_false_iff_eq, Bool.not_eq_true', Bool.not_eq_false', Int.not_lt, Int.not_le, ne_eq, reduceCtorEq, not_true_eq_false, not_false_eq_true, Decidable.not_not] at hc) <;> (try (exfalso; omega)) <;> (try refine W_norm rfl ?_))
        | (refine W_pick rfl (fun hc => ?_) (fun hc => ?_) <;> (try rw [hc]) <;> (try simp only [decide_eq_true_eq, decide_eq_false_iff_not, beq_iff_eq, beq_eq_false_iff_ne, bne_iff_ne, bne_eq_false_iff_eq, Bool.not_eq_true', Bool.not_eq_false', Int.not_lt, Int.not_le, ne_eq, reduceCtorEq, not_true_eq_false, not_false_eq_true, Decidable.not_not] at hc) <;> (try (exfalso; omega)) <;> (try refine W_norm rfl ?_))
        | refine W_add rfl rfl rfl (W_norm rfl ?_)
        | refine W_sub rfl rfl rfl (W_norm rfl ?_)
        | refine W_mul rfl rfl rfl (W_norm rfl ?_)
        | (refine fnK_r rfl ?_; try dsimp only [gd_z, gd_s])
        | (refine fnK_n rfl ?_; try dsimp only [gd_z, gd_s]))
      all_goals
        refine ⟨_, by omega, i + 1, ⟨rfl, rfl, rfl, rfl, trivial⟩, by omega, rfl, rfl, ?_⟩
        rw [hx, shapes_drop hp, scanS, hfit]
        rfl
  · repeat' (first
      | refine W_fast rfl ?_
      | refine W_lenSl hvs rfl (W_norm rfl ?_)
      | refine W_seq ?_
      | refine W_ops ?_
      | refine W_nil ?_
      | refine seqK_n ?_
      | refine seqK_r ?_
      | refine seqK_x ?_
      | refine blockK_r ?_
      | refine blockK_n ?_
      | refine blockK_e ?_
      | refine blockK_x rfl ?_
      | refine loopK_x ?_
      | refine loopK_r ?_
      | refine invK_x ?_
      | refine invK_r ?_
      | refine invK_n ?_
      | refine W_guard_on rfl ?_
      | refine W_guard_off rfl rfl (W_norm rfl ?_)
      | refine W_guard_u rfl (W_norm rfl ?_)
      | refine W_pick_t rfl rfl (W_norm rfl ?_)
      | refine W_pick_f rfl rfl (W_norm rfl ?_)
      | refine W_skip ?_
      | refine W_ret ?_
      | refine W_exit ?_
      | refine W_cond_t rfl ?_
      | refine W_cond_f rfl ?_
      | refine W_block ?_
      | refine W_draw rfl ?_
      | refine W_add rfl rfl (IntWalk.i64_in _ (by omega)) (W_norm rfl ?_)
      | refine W_add rfl rfl (IntWalk.i32_in _ (by omega)) (W_norm rfl ?_)
      | refine W_add rfl rfl (IntWalk.u8_in _ (by omega)) (W_norm rfl ?_)
      | refine W_sub rfl rfl (IntWalk.i64_in _ (by omega)) (W_norm rfl ?_)
      | refine W_sub rfl rfl (IntWalk.i32_in _ (by omega)) (W_norm rfl ?_)
      | refine W_sub rfl rfl (IntWalk.u8_in _ (by omega)) (W_norm rfl ?_)
      | refine W_mul rfl rfl (IntWalk.i64_in _ (by omega)) (W_norm rfl ?_)
      | refine W_mul rfl rfl (IntWalk.i32_in _ (by omega)) (W_norm rfl ?_)
      | refine W_mul rfl rfl (IntWalk.u8_in _ (by omega)) (W_norm rfl ?_)
      | refine W_convint rfl (IntWalk.i64_in _ (by omega)) (W_norm rfl ?_)
      | refine W_convint rfl (IntWalk.i32_in _ (by omega)) (W_norm rfl ?_)
      | refine W_convint rfl (IntWalk.u8_in _ (by omega)) (W_norm rfl ?_)
      | refine W_div rfl rfl (by omega) (W_norm rfl ?_)
      | refine W_mod rfl rfl (by omega) (W_norm rfl ?_)
      | refine W_indexSlice rfl rfl ⟨by omega, by omega⟩ (W_norm rfl ?_)
      | refine W_indexArr rfl rfl ⟨by omega, by omega⟩ (W_norm rfl ?_)
      | refine W_alloc (W_norm rfl ?_)
      | (refine W_guardT rfl (fun hc => ?_) (fun hc => ?_) <;> (try rw [hc]) <;> (try simp only [decide_eq_true_eq, decide_eq_false_iff_not, beq_iff_eq, beq_eq_false_iff_ne, bne_iff_ne, bne_eq_false_iff_eq, Bool.not_eq_true', Bool.not_eq_false', Int.not_lt, Int.not_le, ne_eq, reduceCtorEq, not_true_eq_false, not_false_eq_true, Decidable.not_not] at hc) <;> (try (exfalso; omega)) <;> (try refine W_norm rfl ?_))
      | (refine W_guardF rfl (fun hc => ?_) (fun hc => ?_) <;> (try rw [hc]) <;> (try simp only [decide_eq_true_eq, decide_eq_false_iff_not, beq_iff_eq, beq_eq_false_iff_ne, bne_iff_ne, bne_eq_false_iff_eq, Bool.not_eq_true', Bool.not_eq_false', Int.not_lt, Int.not_le, ne_eq, reduceCtorEq, not_true_eq_false, not_false_eq_true, Decidable.not_not] at hc) <;> (try (exfalso; omega)) <;> (try refine W_norm rfl ?_))
      | (refine W_cond rfl (fun hc => ?_) (fun hc => ?_) <;> (try rw [hc]) <;> (try simp only [decide_eq_true_eq, decide_eq_false_iff_not, beq_iff_eq, beq_eq_false_iff_ne, bne_iff_ne, bne_eq_false_iff_eq, Bool.not_eq_true', Bool.not_eq_false', Int.not_lt, Int.not_le, ne_eq, reduceCtorEq, not_true_eq_false, not_false_eq_true, Decidable.not_not] at hc) <;> (try (exfalso; omega)) <;> (try refine W_norm rfl ?_))
      | (refine W_pick rfl (fun hc => ?_) (fun hc => ?_) <;> (try rw [hc]) <;> (try simp only [decide_eq_true_eq, decide_eq_false_iff_not, beq_iff_eq, beq_eq_false_iff_ne, bne_iff_ne, bne_eq_false_iff_eq, Bool.not_eq_true', Bool.not_eq_false', Int.not_lt, Int.not_le, ne_eq, reduceCtorEq, not_true_eq_false, not_false_eq_true, Decidable.not_not] at hc) <;> (try (exfalso; omega)) <;> (try refine W_norm rfl ?_))
      | refine W_add rfl rfl rfl (W_norm rfl ?_)
      | refine W_sub rfl rfl rfl (W_norm rfl ?_)
      | refine W_mul rfl rfl rfl (W_norm rfl ?_)
      | (refine fnK_r rfl ?_; try dsimp only [gd_z, gd_s])
      | (refine fnK_n rfl ?_; try dsimp only [gd_z, gd_s]))
    have hi9 : i = 9 := by omega
    subst hi9
    exact ⟨_, rfl, by rw [hx]; rfl, hs1⟩
end Go.Proofs.Ytcgfcnbcfcllpaa
