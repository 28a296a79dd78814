/- Characters as bytes; what is written into a builder of strings. -/
import Derived.Test.YtbkhjpclnfljbaaDoorJxC23
import Derived.Test.YtbkhjpclnfljbaaDoorJxW9
set_option linter.unusedSimpArgs false
set_option linter.unusedVariables false
set_option maxHeartbeats 1000000
set_option maxRecDepth 100000
namespace Go.Proofs.YtbkhjpclnfljbaaDoor
open Go Go.Jx

/-! ## plain -/
def intsB (s : List UInt8) : List Int := s.map fun b => (b.toNat : Int)
def utf8 (r : Int) : List UInt8 := (Utf8.encode r).data.toList
theorem intsB_length (s : List UInt8) : (intsB s).length = s.length := by simp [intsB]
theorem intsB_append (s t : List UInt8) : intsB (s ++ t) = intsB s ++ intsB t := by simp [intsB]
theorem utf8_length (r : Int) : (utf8 r).length ≤ 4 := by
  unfold utf8 Utf8.encode
  simp only
  generalize (if Utf8.valid r = true then r.toNat else Utf8.runeError) = c
  by_cases h1 : c < 128
  · rw [if_pos h1]; simp
  rw [if_neg h1]
  by_cases h2 : c < 2048
  · rw [if_pos h2]; simp
  rw [if_neg h2]
  by_cases h3 : c < 65536
  · rw [if_pos h3]; simp
  · rw [if_neg h3]; simp

theorem bits_and : ∀ x : Fin 256, (BitVec.ofInt 8 (x.val : Int) &&& BitVec.ofInt 8 63).toNat = x.val % 64 := by decide +kernel
theorem bits_or128 : ∀ x : Fin 64, (BitVec.ofInt 8 128 ||| BitVec.ofInt 8 (x.val : Int)).toNat = 128 + x.val := by decide +kernel
theorem bits_or192 : ∀ x : Fin 32, (BitVec.ofInt 8 192 ||| BitVec.ofInt 8 (x.val : Int)).toNat = 192 + x.val := by decide +kernel
theorem bits_or224 : ∀ x : Fin 16, (BitVec.ofInt 8 224 ||| BitVec.ofInt 8 (x.val : Int)).toNat = 224 + x.val := by decide +kernel
theorem bits_or240 : ∀ x : Fin 8, (BitVec.ofInt 8 240 ||| BitVec.ofInt 8 (x.val : Int)).toNat = 240 + x.val := by decide +kernel

/-- A byte behind the first one. -/
theorem byte_next (x : Int) (hx : 0 ≤ x) : IntKind.u8.wrap (BitVec.ofInt IntKind.u8.bits 128 ||| BitVec.ofInt IntKind.u8.bits (IntKind.u8.wrap (BitVec.ofInt IntKind.u8.bits (IntKind.u8.wrap x) &&& BitVec.ofInt IntKind.u8.bits 63).toNat)).toNat = 128 + x % 64 := by
  have h1 : IntKind.u8.wrap x = (((x % 256).toNat : Nat) : Int) := by rw [IntKind.wrap_u8]; omega
  have h2 := bits_and ⟨(x % 256).toNat, by omega⟩
  simp only at h2
  rw [h1, show IntKind.u8.bits = 8 from rfl, h2, show IntKind.u8.wrap ((((x % 256).toNat % 64 : Nat) : Int)) = (((x % 256).toNat % 64 : Nat) : Int) from IntWalk.u8_in _ (by omega)]
  have h3 := bits_or128 ⟨(x % 256).toNat % 64, by omega⟩
  simp only at h3
  rw [h3, IntKind.wrap_u8]
  omega
theorem byte_192 (x : Int) (hx : 0 ≤ x ∧ x < 32) : IntKind.u8.wrap (BitVec.ofInt IntKind.u8.bits 192 ||| BitVec.ofInt IntKind.u8.bits x).toNat = 192 + x := by
  rw [show IntKind.u8.bits = 8 from rfl]
  have h := bits_or192 ⟨x.toNat, by omega⟩
  simp only at h
  rw [show ((x.toNat : Nat) : Int) = x by omega] at h
  rw [h, IntKind.wrap_u8]; omega
theorem byte_224 (x : Int) (hx : 0 ≤ x ∧ x < 16) : IntKind.u8.wrap (BitVec.ofInt IntKind.u8.bits 224 ||| BitVec.ofInt IntKind.u8.bits x).toNat = 224 + x := by
  rw [show IntKind.u8.bits = 8 from rfl]
  have h := bits_or224 ⟨x.toNat, by omega⟩
  simp only at h
  rw [show ((x.toNat : Nat) : Int) = x by omega] at h
  rw [h, IntKind.wrap_u8]; omega
theorem byte_240 (x : Int) (hx : 0 ≤ x ∧ x < 8) : IntKind.u8.wrap (BitVec.ofInt IntKind.u8.bits 240 ||| BitVec.ofInt IntKind.u8.bits x).toNat = 240 + x := by
  rw [show IntKind.u8.bits = 8 from rfl]
  have h := bits_or240 ⟨x.toNat, by omega⟩
  simp only at h
  rw [show ((x.toNat : Nat) : Int) = x by omega] at h
  rw [h, IntKind.wrap_u8]; omega

theorem u8n (n : Nat) (h : n < 256) : ((UInt8.ofNat n).toNat : Int) = n := by
  rw [UInt8.toNat_ofNat']; omega
theorem utf8_1 {r : Int} (h : 0 ≤ r ∧ r < 128) : intsB (utf8 r) = [r] := by
  have hv : Utf8.valid r = true := by unfold Utf8.valid; simp; omega
  unfold utf8 Utf8.encode
  simp only [hv, if_true]
  rw [if_pos (by omega)]
  simp only [intsB, List.map_cons, List.map_nil]
  rw [u8n _ (by omega)]
  congr 1; omega
theorem utf8_2 {r : Int} (h : 128 ≤ r ∧ r ≤ 2047) : intsB (utf8 r) = [192 + r / 64, 128 + r % 64] := by
  have hv : Utf8.valid r = true := by unfold Utf8.valid; simp; omega
  unfold utf8 Utf8.encode
  simp only [hv, if_true]
  rw [if_neg (by omega), if_pos (by omega)]
  simp only [intsB, List.map_cons, List.map_nil]
  rw [u8n _ (by omega), u8n _ (by omega)]
  congr 1
  · omega
  · congr 1; omega
theorem utf8_3 {r : Int} (h : 2047 < r ∧ r ≤ 65535) (hs : r < 55296 ∨ 57343 < r) : intsB (utf8 r) = [224 + r / 4096, 128 + r / 64 % 64, 128 + r % 64] := by
  have hv : Utf8.valid r = true := by unfold Utf8.valid; simp; omega
  unfold utf8 Utf8.encode
  simp only [hv, if_true]
  rw [if_neg (by omega), if_neg (by omega), if_pos (by omega)]
  simp only [intsB, List.map_cons, List.map_nil]
  rw [u8n _ (by omega), u8n _ (by omega), u8n _ (by omega)]
  congr 1
  · omega
  · congr 1
    · omega
    · congr 1; omega
theorem utf8_4 {r : Int} (h : 65535 < r ∧ r ≤ 1114111) : intsB (utf8 r) = [240 + r / 262144, 128 + r / 4096 % 64, 128 + r / 64 % 64, 128 + r % 64] := by
  have hv : Utf8.valid r = true := by unfold Utf8.valid; simp; omega
  unfold utf8 Utf8.encode
  simp only [hv, if_true]
  rw [if_neg (by omega), if_neg (by omega), if_neg (by omega)]
  simp only [intsB, List.map_cons, List.map_nil]
  rw [u8n _ (by omega), u8n _ (by omega), u8n _ (by omega), u8n _ (by omega)]
  congr 1
  · omega
  · congr 1
    · omega
    · congr 1
      · omega
      · congr 1; omega
theorem utf8_0 {r : Int} (h : r < 0 ∨ (55296 ≤ r ∧ r ≤ 57343) ∨ 1114111 < r) : intsB (utf8 r) = [239, 191, 189] := by
  have hv : Utf8.valid r = false := by
    unfold Utf8.valid
    simp only [Bool.or_eq_false_iff, Bool.and_eq_false_iff, decide_eq_false_iff_not]
    omega
  unfold utf8 Utf8.encode
  simp only [hv, Bool.false_eq_true, if_false]
  decide +kernel

def trimB (s : List UInt8) (c : UInt8) : List UInt8 := (s.reverse.dropWhile (· == c)).reverse
theorem trimB_nil (c : UInt8) : trimB [] c = [] := rfl
theorem trimB_snoc (s : List UInt8) (b c : UInt8) : trimB (s ++ [b]) c = if b = c then trimB s c else s ++ [b] := by
  unfold trimB
  rw [List.reverse_append, List.reverse_singleton, List.singleton_append, List.dropWhile_cons]
  by_cases h : b = c
  · rw [if_pos (by simpa using h), if_pos h]
  · rw [if_neg (by simpa using h), if_neg h]; simp
theorem trimB_take (s : List UInt8) (c : UInt8) (h : 0 < s.length) : trimB s c = if s.getD (s.length - 1) 0 = c then trimB (s.take (s.length - 1)) c else s := by
  have e : s = s.take (s.length - 1) ++ [s.getD (s.length - 1) 0] := by
    conv => lhs; rw [← List.take_append_drop (s.length - 1) s]
    congr 1
    rw [List.drop_eq_getElem_cons (by omega), List.drop_of_length_le (by omega), List.getD_eq_getElem?_getD, List.getElem?_eq_getElem (by omega)]; rfl
  generalize s.getD (s.length - 1) 0 = b at *
  generalize s.take (s.length - 1) = t at *
  subst e
  exact trimB_snoc t b c
theorem trimB_length (s : List UInt8) (c : UInt8) : (trimB s c).length ≤ s.length := by
  unfold trimB
  rw [List.length_reverse]
  have := (List.dropWhile_sublist (p := (· == c)) (l := s.reverse)).length_le
  simpa using this


theorem w60 (s : List UInt8) (c : UInt8) (h : Heap) (hl : s.length ≤ 9000000000000000000) : Wc DD 60 [.sc (.str s), .sc (.int .u8 (c.toNat : Int))] h fun w h' => w = .sc (.str (trimB s c)) ∧ h' = h := by
  have hs := Sep.entry h
  refine W_enter d60 ?_
  show W _ (.code m60_code [.sc (.str s), .sc (.int .u8 (c.toNat : Int)), undefA, undefA, undefA, undefA, undefA, undefA, undefA, undefA, undefA, undefA, undefA, undefA, undefA, undefA, undefA, undefA, undefA, undefA, undefA, undefA, undefA] _) _
  unfold m60_code
  repeat' (first
    | (refine K_ops ?_; first
      | refine W_fastB rfl ?_
      | refine W_nil ?_
    )
    | (refine K_code ?_; first
      | refine W_seq ?_
      | refine W_ops ?_
      | refine W_block ?_
    )
    | refine seqK_n ?_)
  refine W_loopB [0, 5, 6, 7, 8, 9, 10, 11, 12, 13, 14, 15, 16, 17, 18, 19, 20, 21] [0, 1, 2, 3, 4, 5, 6, 7, 8, 9, 10, 11, 12, 13, 14, 15, 16, 17, 18, 19, 20, 21, 22] (fun n' sl h' => ∃ (t : List UInt8), sl = [(0, .sc (.str t))] ∧ n' = t.length ∧ t.length ≤ s.length ∧ h' = h ∧ trimB s c = trimB t c) ?_ ?_
  · refine ⟨_, _, ⟨s, rfl, rfl, Nat.le_refl _, rfl, rfl⟩, EnvB.of rfl⟩
  rintro _ _ us _ h2 ⟨t, rfl, rfl, hk, rfl, hw⟩ he
  refine W_spell he rfl ?_
  clear he
  unfold m60_l1
  by_cases h0 : t.length = 0
  · have ht : t = [] := List.length_eq_zero_iff.1 h0
    subst ht
    repeat' (first
      | (refine K_ops ?_; first
        | refine W_fastB rfl ?_
        | refine W_nil ?_
        | (refine K_guard ?_; first
          | refine W_guard_off rfl rfl (W_norm rfl ?_)
        )
        | (refine K_pick ?_; first
          | refine W_pick_f rfl rfl (W_norm rfl ?_)
        )
      )
      | (refine K_code ?_; first
        | refine W_seq ?_
        | refine W_ops ?_
        | refine W_cond_f rfl ?_
        | refine W_ret ?_
        | refine W_exit ?_
      )
      | refine seqK_n ?_
      | refine seqK_x ?_
      | refine blockK_e ?_
      | refine invK_x ?_
      | (refine fnK_r rfl ?_; try dsimp only [gd_z, gd_s]))
    exact ⟨_, rfl, by rw [hw]; rfl, rfl⟩
  · have e := trimB_take t c (by omega)
    have n1 : ((t.length : Int) - 1).toNat = t.length - 1 := by omega
    repeat' (first
      | (refine K_ops ?_; first
        | refine W_fastB rfl ?_
        | refine W_nil ?_
        | (refine K_guard ?_; first
          | refine W_guard_on rfl ?_
          | (refine W_guardT rfl (fun hc => ?_) (fun hc => ?_) <;> (try rw [hc]) <;> (try simp only [decide_eq_true_eq, decide_eq_false_iff_not, beq_iff_eq, beq_eq_false_iff_ne, bne_iff_ne, bne_eq_false_iff_eq, Bool.not_eq_true', Bool.not_eq_false', Int.not_lt, Int.not_le, ne_eq, reduceCtorEq, not_true_eq_false, not_false_eq_true, Decidable.not_not] at hc) <;> (try (exfalso; omega)) <;> (try refine W_norm rfl ?_))
        )
        | (refine K_bin ?_; first
          | (refine W_sub rfl rfl (IntWalk.i64_in _ (by first | omega | (simp only [List.length_set, List.length_append, List.length_take, List.length_drop, List.length_replicate, List.length_cons, List.length_nil, decs_length, List.length_map]; omega))) ?_; refine W_norm rfl ?_)
        )
        | (refine K_pick ?_; first
          | refine W_pick_t rfl rfl (W_norm rfl ?_)
        )
        | (refine W_sliceStrTo rfl rfl ⟨(by first | omega | (simp only [List.length_set, List.length_append, List.length_take, List.length_drop, List.length_replicate, List.length_cons, List.length_nil, decs_length, List.length_map]; omega)), (by first | omega | (simp only [List.length_set, List.length_append, List.length_take, List.length_drop, List.length_replicate, List.length_cons, List.length_nil, decs_length, List.length_map]; omega))⟩ ?_; refine W_norm rfl ?_)
        | (refine W_idxStr rfl rfl ⟨(by first | omega | (simp only [List.length_set, List.length_append, List.length_take, List.length_drop, List.length_replicate, List.length_cons, List.length_nil, decs_length, List.length_map]; omega)), (by first | omega | (simp only [List.length_set, List.length_append, List.length_take, List.length_drop, List.length_replicate, List.length_cons, List.length_nil, decs_length, List.length_map]; omega))⟩ ?_; refine W_norm rfl ?_)
      )
      | (refine K_code ?_; first
        | refine W_seq ?_
        | refine W_ops ?_
        | (refine W_cond rfl (fun hc => ?_) (fun hc => ?_) <;> (try rw [hc]) <;> (try simp only [decide_eq_true_eq, decide_eq_false_iff_not, beq_iff_eq, beq_eq_false_iff_ne, bne_iff_ne, bne_eq_false_iff_eq, Bool.not_eq_true', Bool.not_eq_false', Int.not_lt, Int.not_le, ne_eq, reduceCtorEq, not_true_eq_false, not_false_eq_true, Decidable.not_not] at hc) <;> (try (exfalso; omega)) <;> (try refine W_norm rfl ?_))
        | refine W_skip ?_
        | refine W_ret ?_
        | refine W_exit ?_
        | refine W_block ?_
      )
      | refine seqK_n ?_
      | refine seqK_x ?_
      | refine blockK_n ?_
      | refine blockK_e ?_
      | refine invK_x ?_
      | refine invK_n ?_
      | (refine fnK_r rfl ?_; try dsimp only [gd_z, gd_s]))
    · rw [n1] at hc ⊢
      have hc' : t.getD (t.length - 1) 0 = c := UInt8.toNat_inj.1 (by omega)
      refine ⟨_, ?_, _, ⟨t.take (t.length - 1), rfl, rfl, ?_, rfl, ?_⟩, EnvB.of rfl⟩
      · rw [List.length_take]; omega
      · rw [List.length_take]; omega
      · rw [hw, e, if_pos hc']
    · rw [n1] at hc
      have hc' : ¬ t.getD (t.length - 1) 0 = c := fun hh => hc (by rw [hh])
      exact ⟨_, rfl, by rw [hw, e, if_neg hc'], rfl⟩



theorem w53 (s : List UInt8) (c : UInt8) (h : Heap) (hl : s.length ≤ 9000000000000000000) (hc1 : c.toNat < 128) : Wc DD 53 [.sc (.str s), .sc (.str [c])] h fun w h' => w = .sc (.str (trimB s c)) ∧ h' = h := by
  have hs := Sep.entry h
  refine W_enter d53 ?_
  show W _ (.code m53_code [.sc (.str s), .sc (.str [c]), undefA, undefA, undefA, undefA, undefA, undefA, undefA, undefA, undefA, undefA, undefA, undefA, undefA, undefA, undefA, undefA, undefA, undefA, undefA, undefA, undefA, undefA, undefA, undefA, undefA, undefA, undefA, undefA, undefA, undefA, undefA, undefA, undefA, undefA, undefA] _) _
  unfold m53_code
  by_cases h0 : s = []
  · subst h0
    repeat' (first
      | (refine K_ops ?_; first
        | refine W_fastB rfl ?_
        | refine W_nil ?_
        | (refine K_guard ?_; first
          | refine W_guard_off rfl rfl (W_norm rfl ?_)
        )
        | (refine K_pick ?_; first
          | refine W_pick_t rfl rfl (W_norm rfl ?_)
        )
      )
      | (refine K_code ?_; first
        | refine W_seq ?_
        | refine W_ops ?_
        | refine W_cond_t rfl ?_
        | refine W_ret ?_
      )
      | refine seqK_n ?_
      | refine seqK_r ?_
      | (refine fnK_r rfl ?_; try dsimp only [gd_z, gd_s]))
    exact ⟨_, rfl, rfl, rfl⟩
  · have h0' : (s == []) = false := by simpa using h0
    have hc2 : (([c].getD ((0 : Int)).toNat 0).toNat : Int) < 128 := by show (c.toNat : Int) < 128; omega
    repeat' (first
      | (refine K_ops ?_; first
        | refine W_fastB rfl ?_
        | refine W_nil ?_
        | (refine K_guard ?_; first
          | refine W_guard_on rfl ?_
          | refine W_guard_off rfl rfl (W_norm rfl ?_)
          | (refine W_guardF rfl (fun hc => ?_) (fun hc => ?_) <;> (try rw [hc]) <;> (try simp only [decide_eq_true_eq, decide_eq_false_iff_not, beq_iff_eq, beq_eq_false_iff_ne, bne_iff_ne, bne_eq_false_iff_eq, Bool.not_eq_true', Bool.not_eq_false', Int.not_lt, Int.not_le, ne_eq, reduceCtorEq, not_true_eq_false, not_false_eq_true, Decidable.not_not] at hc) <;> (try (exfalso; omega)) <;> (try refine W_norm rfl ?_))
        )
        | (refine K_call ?_; first
          | (refine W_callsN 60 rfl (w60 s c _ hl) rfl ?_; rintro _ _ ⟨rfl, rfl⟩; refine W_norm rfl ?_)
        )
        | (refine K_pick ?_; first
          | refine W_pick_t rfl rfl (W_norm rfl ?_)
          | refine W_pick_f rfl rfl (W_norm rfl ?_)
        )
        | (refine W_idxStr rfl rfl ⟨(by first | omega | (simp only [List.length_set, List.length_append, List.length_take, List.length_drop, List.length_replicate, List.length_cons, List.length_nil, decs_length, List.length_map]; omega)), (by first | omega | (simp only [List.length_set, List.length_append, List.length_take, List.length_drop, List.length_replicate, List.length_cons, List.length_nil, decs_length, List.length_map]; omega))⟩ ?_; refine W_norm rfl ?_)
      )
      | (refine K_code ?_; first
        | refine W_seq ?_
        | refine W_ops ?_
        | refine W_cond_t rfl ?_
        | refine W_cond_f rfl ?_
        | (refine W_cond rfl (fun hc => ?_) (fun hc => ?_) <;> (try rw [hc]) <;> (try simp only [decide_eq_true_eq, decide_eq_false_iff_not, beq_iff_eq, beq_eq_false_iff_ne, bne_iff_ne, bne_eq_false_iff_eq, Bool.not_eq_true', Bool.not_eq_false', Int.not_lt, Int.not_le, ne_eq, reduceCtorEq, not_true_eq_false, not_false_eq_true, Decidable.not_not] at hc) <;> (try (exfalso; omega)) <;> (try refine W_norm rfl ?_))
        | refine W_skip ?_
        | refine W_ret ?_
      )
      | refine seqK_n ?_
      | refine seqK_r ?_
      | (refine fnK_r rfl ?_; try dsimp only [gd_z, gd_s]))
    all_goals first | exact ⟨_, rfl, rfl, rfl⟩ | (exfalso; omega) | simp_all



theorem w64 {R : Ro} {M : List Hp} {h : Heap} {v : SV} {L : List Int} {c : Hp} {r : Int} (hs : Sep R (c :: M) h) (hv : AccS (intEl .u8) 5 v L c) (hl : L.length ≤ 1000000000) (hr : -2147483648 ≤ r ∧ r ≤ 2147483647) (hna : r < 0 ∨ 127 < r) :
    Wc DD 64 [.sc v, .sc (.int .i32 r)] h fun w h' => ∃ u c', w = .sc u ∧ AccS (intEl .u8) 5 u (L ++ intsB (utf8 r)) c' ∧ Sep R (c' :: M) h' := by
  have d6 : r.fdiv (2 ^ (Min.min (6 : Int).toNat IntKind.i32.bits)) = r / 64 := by rw [Int.fdiv_eq_ediv_of_nonneg _ (by decide)]; rfl
  have d12 : r.fdiv (2 ^ (Min.min (12 : Int).toNat IntKind.i32.bits)) = r / 4096 := by rw [Int.fdiv_eq_ediv_of_nonneg _ (by decide)]; rfl
  have d18 : r.fdiv (2 ^ (Min.min (18 : Int).toNat IntKind.i32.bits)) = r / 262144 := by rw [Int.fdiv_eq_ediv_of_nonneg _ (by decide)]; rfl
  rcases hna with hneg | hpos
  · have hu : IntKind.u32.wrap r = r + 4294967296 := by rw [IntKind.wrap_u32]; omega
    refine W_enter d64 ?_
    show W _ (.code m64_code [.sc v, .sc (.int .i32 r), undefA, undefA, undefA, undefA, undefA, undefA, undefA, undefA, undefA, undefA, undefA, undefA, undefA, undefA, undefA, undefA, undefA, undefA, undefA, undefA, undefA, undefA, undefA, undefA, undefA, undefA, undefA, undefA, undefA, undefA, undefA, undefA, undefA, undefA, undefA, undefA, undefA, undefA, undefA, undefA, undefA, undefA, undefA, undefA, undefA, undefA, undefA, undefA, undefA, undefA, undefA, undefA, undefA, undefA, undefA, undefA, undefA, undefA, undefA, undefA, undefA, undefA, undefA, undefA, undefA, undefA, undefA, undefA, undefA, undefA, undefA, undefA, undefA, undefA, undefA, undefA] _) _
    unfold m64_code
    repeat' (first
      | (refine K_ops ?_; first
        | refine W_fastB rfl ?_
        | refine W_nil ?_
        | (refine W_convint rfl hu ?_; refine W_norm rfl ?_)
        | (refine K_guard ?_; first
          | refine W_guard_on rfl ?_
          | (refine W_guardT rfl (fun hc => ?_) (fun hc => ?_) <;> (try rw [hc]) <;> (try simp only [decide_eq_true_eq, decide_eq_false_iff_not, beq_iff_eq, beq_eq_false_iff_ne, bne_iff_ne, bne_eq_false_iff_eq, Bool.not_eq_true', Bool.not_eq_false', Int.not_lt, Int.not_le, ne_eq, reduceCtorEq, not_true_eq_false, not_false_eq_true, Decidable.not_not] at hc) <;> (try (exfalso; omega)) <;> (try refine W_norm rfl ?_))
        )
        | (refine K_pick ?_; first
          | refine W_pick_t rfl rfl (W_norm rfl ?_)
        )
        | (refine K_bslice ?_; first
          | (refine W_appB (intEl .u8) hs 0 rfl rfl (of_decide_eq_true rfl) (by assumption) rfl rfl rfl ⟨by decide, (by first | omega | (simp only [List.length_set, List.length_append, List.length_take, List.length_drop, List.length_replicate, List.length_cons, List.length_nil, decs_length, List.length_map]; omega))⟩ ?_; clear hs; intro _ _ _ _ _ hs; try simp only [cell_back, attr_back, List.set_cons_zero, List.set_cons_succ, List.eraseIdx_cons_succ, List.eraseIdx_zero, List.tail_cons, List.nil_append, List.cons_append] at hs; refine W_norm rfl ?_)
        )
      )
      | (refine K_code ?_; first
        | refine W_seq ?_
        | refine W_ops ?_
        | (refine W_cond rfl (fun hc => ?_) (fun hc => ?_) <;> (try rw [hc]) <;> (try simp only [decide_eq_true_eq, decide_eq_false_iff_not, beq_iff_eq, beq_eq_false_iff_ne, bne_iff_ne, bne_eq_false_iff_eq, Bool.not_eq_true', Bool.not_eq_false', Int.not_lt, Int.not_le, ne_eq, reduceCtorEq, not_true_eq_false, not_false_eq_true, Decidable.not_not] at hc) <;> (try (exfalso; omega)) <;> (try refine W_norm rfl ?_))
        | refine W_ret ?_
        | refine W_block ?_
      )
      | refine seqK_n ?_
      | refine blockK_r ?_
      | (refine fnK_r rfl ?_; try dsimp only [gd_z, gd_s]))
    all_goals first | (exfalso; omega) | (rename_i ha'; refine ⟨_, rfl, _, _, rfl, ?_, hs⟩; rw [utf8_0 (by omega)]; exact ha')
  · have hu : IntKind.u32.wrap r = r := by rw [IntKind.wrap_u32]; omega
    refine W_enter d64 ?_
    show W _ (.code m64_code [.sc v, .sc (.int .i32 r), undefA, undefA, undefA, undefA, undefA, undefA, undefA, undefA, undefA, undefA, undefA, undefA, undefA, undefA, undefA, undefA, undefA, undefA, undefA, undefA, undefA, undefA, undefA, undefA, undefA, undefA, undefA, undefA, undefA, undefA, undefA, undefA, undefA, undefA, undefA, undefA, undefA, undefA, undefA, undefA, undefA, undefA, undefA, undefA, undefA, undefA, undefA, undefA, undefA, undefA, undefA, undefA, undefA, undefA, undefA, undefA, undefA, undefA, undefA, undefA, undefA, undefA, undefA, undefA, undefA, undefA, undefA, undefA, undefA, undefA, undefA, undefA, undefA, undefA, undefA, undefA] _) _
    unfold m64_code
    repeat' (first
      | (refine K_ops ?_; first
        | refine W_fastB rfl ?_
        | refine W_nil ?_
        | (refine W_convint rfl hu ?_; refine W_norm rfl ?_)
        | (refine K_guard ?_; first
          | refine W_guard_on rfl ?_
          | refine W_guard_off rfl rfl (W_norm rfl ?_)
          | (refine W_guardT rfl (fun hc => ?_) (fun hc => ?_) <;> (try rw [hc]) <;> (try simp only [decide_eq_true_eq, decide_eq_false_iff_not, beq_iff_eq, beq_eq_false_iff_ne, bne_iff_ne, bne_eq_false_iff_eq, Bool.not_eq_true', Bool.not_eq_false', Int.not_lt, Int.not_le, ne_eq, reduceCtorEq, not_true_eq_false, not_false_eq_true, Decidable.not_not] at hc) <;> (try (exfalso; omega)) <;> (try refine W_norm rfl ?_))
        )
        | (refine K_bin ?_; first
          | (refine W_shr rfl rfl (by decide) ?_; refine W_norm rfl ?_)
          | (refine W_and rfl rfl ?_; refine W_norm rfl ?_)
          | (refine W_or rfl rfl ?_; refine W_norm rfl ?_)
        )
        | (refine K_pick ?_; first
          | refine W_pick_t rfl rfl (W_norm rfl ?_)
          | refine W_pick_f rfl rfl (W_norm rfl ?_)
        )
        | (refine K_bslice ?_; first
          | (refine W_appB (intEl .u8) hs 0 rfl rfl (of_decide_eq_true rfl) (by assumption) rfl rfl rfl ⟨by decide, (by first | omega | (simp only [List.length_set, List.length_append, List.length_take, List.length_drop, List.length_replicate, List.length_cons, List.length_nil, decs_length, List.length_map]; omega))⟩ ?_; clear hs; intro _ _ _ _ _ hs; try simp only [cell_back, attr_back, List.set_cons_zero, List.set_cons_succ, List.eraseIdx_cons_succ, List.eraseIdx_zero, List.tail_cons, List.nil_append, List.cons_append] at hs; refine W_norm rfl ?_)
        )
        | (refine W_convint rfl (IntWalk.u8_in _ (by omega)) ?_; refine W_norm rfl ?_)
        | (refine W_convint rfl rfl ?_; refine W_norm rfl ?_)
      )
      | (refine K_code ?_; first
        | refine W_seq ?_
        | refine W_ops ?_
        | refine W_cond_t rfl ?_
        | refine W_cond_f rfl ?_
        | (refine W_cond rfl (fun hc => ?_) (fun hc => ?_) <;> (try rw [hc]) <;> (try simp only [decide_eq_true_eq, decide_eq_false_iff_not, beq_iff_eq, beq_eq_false_iff_ne, bne_iff_ne, bne_eq_false_iff_eq, Bool.not_eq_true', Bool.not_eq_false', Int.not_lt, Int.not_le, ne_eq, reduceCtorEq, not_true_eq_false, not_false_eq_true, Decidable.not_not] at hc) <;> (try (exfalso; omega)) <;> (try refine W_norm rfl ?_))
        | refine W_skip ?_
        | refine W_ret ?_
        | refine W_block ?_
      )
      | refine seqK_n ?_
      | refine blockK_r ?_
      | (refine fnK_r rfl ?_; try dsimp only [gd_z, gd_s]))
    · rename_i ha'
      refine ⟨_, rfl, _, _, rfl, ?_, hs⟩
      rw [utf8_2 (by omega), ← byte_192 (r / 64) (by omega), ← byte_next r (by omega), ← d6]; exact ha'
    · rename_i ha'
      refine ⟨_, rfl, _, _, rfl, ?_, hs⟩
      rw [utf8_3 (by omega) (by omega), ← byte_224 (r / 4096) (by omega), ← byte_next (r / 64) (by omega), ← byte_next r (by omega), ← d6, ← d12]; exact ha'
    · rename_i ha'
      refine ⟨_, rfl, _, _, rfl, ?_, hs⟩
      rw [utf8_3 (by omega) (by omega), ← byte_224 (r / 4096) (by omega), ← byte_next (r / 64) (by omega), ← byte_next r (by omega), ← d6, ← d12]; exact ha'
    · rename_i ha'
      refine ⟨_, rfl, _, _, rfl, ?_, hs⟩
      rw [utf8_4 (by omega), ← byte_240 (r / 262144) (by omega), ← byte_next (r / 4096) (by omega), ← byte_next (r / 64) (by omega), ← byte_next r (by omega), ← d6, ← d12, ← d18]; exact ha'
    · rename_i ha'
      refine ⟨_, rfl, _, _, rfl, ?_, hs⟩
      rw [utf8_0 (by omega)]; exact ha'
    · rename_i ha'
      refine ⟨_, rfl, _, _, rfl, ?_, hs⟩
      rw [utf8_0 (by omega)]; exact ha'

end Go.Proofs.YtbkhjpclnfljbaaDoor
