/- Views: where a line begins a text. -/
import Derived.Test.YtbkhjpclnfljbaaDoorJxW23c
set_option linter.unusedSimpArgs false
set_option linter.unusedVariables false
set_option maxHeartbeats 1000000
set_option maxRecDepth 100000
namespace Go.Proofs.YtbkhjpclnfljbaaDoor
open Go Go.Jx

def spotV (p : Spot) : AV := .agg [.int .i64 p.1, .int .i64 p.2]
theorem w36 (a b : Spot) (h : Heap) : Wc DD 36 [spotV a, spotV b] h fun w h' => w = bo (bef a b) ∧ Sep (Now h) [] h' := by
  have hs := Sep.entry h
  unfold spotV
  refine W_enter d36 ?_
  show W _ (.code m36_code [.agg [.int .i64 a.1, .int .i64 a.2], .agg [.int .i64 b.1, .int .i64 b.2], undefA, undefA, undefA, undefA, undefA, undefA, undefA, undefA, undefA, undefA, undefA, undefA, undefA, undefA, undefA, undefA, undefA, undefA, undefA, undefA, undefA, undefA] _) _
  unfold m36_code
  repeat' (first
    | (refine K_ops ?_; first
      | refine W_fastB rfl ?_
      | refine W_nil ?_
      | (refine K_guard ?_; first
        | refine W_guard_on rfl ?_
        | refine W_guard_off rfl rfl (W_norm rfl ?_)
        | refine W_guard_u rfl (W_norm rfl ?_)
        | (refine W_guardT rfl (fun hc => ?_) (fun hc => ?_) <;> (try rw [hc]) <;> (try simp only [decide_eq_true_eq, decide_eq_false_iff_not, beq_iff_eq, beq_eq_false_iff_ne, bne_iff_ne, bne_eq_false_iff_eq, Bool.not_eq_true', Bool.not_eq_false', Int.not_lt, Int.not_le, ne_eq, reduceCtorEq, not_true_eq_false, not_false_eq_true, Decidable.not_not] at hc) <;> (try (exfalso; omega)) <;> (try refine W_norm rfl ?_))
        | (refine W_guardF rfl (fun hc => ?_) (fun hc => ?_) <;> (try rw [hc]) <;> (try simp only [decide_eq_true_eq, decide_eq_false_iff_not, beq_iff_eq, beq_eq_false_iff_ne, bne_iff_ne, bne_eq_false_iff_eq, Bool.not_eq_true', Bool.not_eq_false', Int.not_lt, Int.not_le, ne_eq, reduceCtorEq, not_true_eq_false, not_false_eq_true, Decidable.not_not] at hc) <;> (try (exfalso; omega)) <;> (try refine W_norm rfl ?_))
      )
      | (refine K_pick ?_; first
        | refine W_pick_t rfl rfl (W_norm rfl ?_)
        | refine W_pick_f rfl rfl (W_norm rfl ?_)
      )
      | (refine K_load ?_; first
        | (refine W_loadC hs 0 rfl rfl rfl ?_; refine W_norm rfl ?_)
        | (refine W_loadC hs 1 rfl rfl rfl ?_; refine W_norm rfl ?_)
      )
      | (refine W_boxS hs rfl rfl ?_; clear hs; intro bx _ hs; try simp only [cell_back, attr_back, List.set_cons_zero, List.set_cons_succ, List.eraseIdx_cons_succ, List.eraseIdx_zero, List.tail_cons, List.nil_append, List.cons_append] at hs; refine W_norm rfl ?_)
    )
    | (refine K_code ?_; first
      | refine W_seq ?_
      | refine W_ops ?_
      | refine W_ret ?_
    )
    | refine seqK_n ?_
    | (refine fnK_r rfl ?_; try dsimp only [gd_z, gd_s]))
  all_goals refine ⟨_, rfl, ?_, hs.none⟩
  all_goals unfold bef
  all_goals refine congrArg (fun b => AV.sc (SV.bool b)) (Bool.eq_iff_iff.2 ?_)
  all_goals simp only [beq_iff_eq, decide_eq_true_eq, Bool.false_eq_true, true_iff, false_iff]
  all_goals omega
theorem w49 {R : Ro} {M : List Hp} {h : Heap} {id : Nat} {p v : SV} {s : List UInt8} {c : Hp} (hs : Sep R ([(id, .cells 83 .own [p, v])] :: M) h) (hb : Bld id p v s c) :
    Wc DD 49 [.sc (.ptr id 0)] h fun w h' => w = i64 s.length ∧ h' = h := by
  obtain ⟨h1, h2, h3⟩ := hb
  have hln := h2.ln
  have hil := intsB_length s
  rw [hil] at hln
  refine W_enter d49 ?_
  show W _ (.code m49_code [.sc (.ptr id 0), undefA, undefA, undefA, undefA, undefA, undefA, undefA] _) _
  unfold m49_code
  repeat' (first
    | (refine K_ops ?_; first
      | refine W_fastB rfl ?_
      | refine W_nil ?_
      | (refine W_lenL rfl (by first | assumption | exact SlR.ln (by assumption) | exact AccS.ln (by assumption) | exact OwnS.ln (by assumption) | exact VwO.ln (by assumption) | exact OwnP.ln (by assumption) | exact Len.sl) ?_; refine W_norm rfl ?_)
      | (refine K_load ?_; first
        | (refine W_loadC hs 0 rfl rfl rfl ?_; refine W_norm rfl ?_)
      )
    )
    | (refine K_code ?_; first
      | refine W_seq ?_
      | refine W_ops ?_
      | refine W_ret ?_
    )
    | refine seqK_n ?_
    | (refine fnK_r rfl ?_; try dsimp only [gd_z, gd_s]))
  exact ⟨_, rfl, rfl, rfl⟩
theorem prefix_take (t s : List UInt8) : t.isPrefixOf s = true ↔ t.length ≤ s.length ∧ s.take t.length = t := by
  rw [List.isPrefixOf_iff_prefix, List.prefix_iff_eq_take]
  constructor
  · intro h
    have := congrArg List.length h
    rw [List.length_take] at this
    exact ⟨by omega, h.symm⟩
  · exact fun h => h.2.symm
theorem w58 (s t : List UInt8) (h : Heap) (hl : s.length ≤ 900000000) (ht : t.length ≤ 900000000) : Wc DD 58 [.sc (.str s), .sc (.str t)] h fun w h' => w = bo (t.isPrefixOf s) ∧ h' = h := by
  have hs := Sep.entry h
  refine W_enter d58 ?_
  show W _ (.code m58_code [.sc (.str s), .sc (.str t), undefA, undefA, undefA, undefA, undefA, undefA, undefA, undefA, undefA, undefA, undefA, undefA, undefA, undefA, undefA, undefA] _) _
  unfold m58_code
  repeat' (first
    | (refine K_ops ?_; first
      | refine W_fastB rfl ?_
      | refine W_nil ?_
      | (refine K_guard ?_; first
        | refine W_guard_on rfl ?_
        | refine W_guard_off rfl rfl (W_norm rfl ?_)
        | (refine W_guardT rfl (fun hc => ?_) (fun hc => ?_) <;> (try rw [hc]) <;> (try simp only [decide_eq_true_eq, decide_eq_false_iff_not, beq_iff_eq, beq_eq_false_iff_ne, bne_iff_ne, bne_eq_false_iff_eq, Bool.not_eq_true', Bool.not_eq_false', Int.not_lt, Int.not_le, ne_eq, reduceCtorEq, not_true_eq_false, not_false_eq_true, Decidable.not_not] at hc) <;> (try (exfalso; omega)) <;> (try refine W_norm rfl ?_))
      )
      | (refine K_pick ?_; first
        | refine W_pick_t rfl rfl (W_norm rfl ?_)
        | refine W_pick_f rfl rfl (W_norm rfl ?_)
      )
      | (refine W_sliceStrTo rfl rfl ⟨(by first | omega | (simp only [List.length_set, List.length_append, List.length_take, List.length_drop, List.length_replicate, List.length_cons, List.length_nil, decs_length, List.length_map]; omega)), (by first | omega | (simp only [List.length_set, List.length_append, List.length_take, List.length_drop, List.length_replicate, List.length_cons, List.length_nil, decs_length, List.length_map]; omega))⟩ ?_; refine W_norm rfl ?_)
    )
    | (refine K_code ?_; first
      | refine W_seq ?_
      | refine W_ops ?_
      | refine W_ret ?_
    )
    | refine seqK_n ?_
    | (refine fnK_r rfl ?_; try dsimp only [gd_z, gd_s]))
  · refine ⟨_, rfl, ?_, rfl⟩
    refine congrArg (fun b => AV.sc (SV.bool b)) (Bool.eq_iff_iff.2 ?_)
    rw [prefix_take, Int.toNat_natCast, beq_iff_eq]
    exact ⟨fun hh => ⟨by omega, hh⟩, fun hh => hh.2⟩
  · refine ⟨_, rfl, ?_, rfl⟩
    refine congrArg (fun b => AV.sc (SV.bool b)) (Bool.eq_iff_iff.2 ?_)
    rw [prefix_take]
    simp only [Bool.false_eq_true, false_iff]
    omega
theorem w51 (s t : List UInt8) (h : Heap) (hl : s.length ≤ 900000000) (ht : t.length ≤ 900000000) : Wc DD 51 [.sc (.str s), .sc (.str t)] h fun w h' => w = bo (t.isPrefixOf s) ∧ h' = h := by
  have hs := Sep.entry h
  refine W_enter d51 ?_
  show W _ (.code m51_code [.sc (.str s), .sc (.str t), undefA, undefA, undefA, undefA, undefA, undefA] _) _
  unfold m51_code
  repeat' (first
    | (refine K_ops ?_; first
      | refine W_fastB rfl ?_
      | refine W_nil ?_
      | (refine K_call ?_; first
        | (refine W_callsN 58 rfl (w58 s t _ hl ht) rfl ?_; rintro _ h ⟨rfl, rfl⟩; refine W_norm rfl ?_)
      )
    )
    | (refine K_code ?_; first
      | refine W_seq ?_
      | refine W_ops ?_
      | refine W_ret ?_
    )
    | refine seqK_n ?_
    | (refine fnK_r rfl ?_; try dsimp only [gd_z, gd_s]))
  exact ⟨_, rfl, rfl, rfl⟩

/-- The cells that are no second ones. -/
def firstsL (C : List Cell) (k : Nat) : List Nat := (List.range k).filter fun x => decide ((C.getD x cell0).w ≠ 2)
theorem firstsL_succ (C : List Cell) (k : Nat) : firstsL C (k + 1) = firstsL C k ++ (if (C.getD k cell0).w ≠ 2 then [k] else []) := by
  unfold firstsL
  rw [List.range_succ, List.filter_append]
  congr 1
  by_cases h : (C.getD k cell0).w ≠ 2
  · rw [if_pos h, List.filter_cons, if_pos (by rw [decide_eq_true_eq]; exact h)]; rfl
  · rw [if_neg h, List.filter_cons, if_neg (by rw [decide_eq_true_eq]; exact h)]; rfl
theorem firstsL_le (C : List Cell) (k : Nat) : (firstsL C k).length ≤ k := by
  have := List.length_filter_le (fun x => decide ((C.getD x cell0).w ≠ 2)) (List.range k)
  simpa [firstsL] using this
def atsL (C : List Cell) (k : Nat) : List Int := (firstsL C k).map fun (x : Nat) => ((textB (C.take x)).length : Int)
def cellsL (C : List Cell) (k : Nat) : List Int := (firstsL C k).map fun (x : Nat) => (x : Int)
theorem textB_take {C : List Cell} {k : Nat} (h : k < C.length) : textB (C.take (k + 1)) = textB (C.take k) ++ (if (C.getD k cell0).w = 2 then [] else utf8 (C.getD k cell0).r) := by
  rw [List.take_add_one, getD_get? (d := cell0) h]
  exact textB_snoc _ _
theorem textB_cut (C : List Cell) (x : Nat) : (textB C).drop (textB (C.take x)).length = textB (C.drop x) := by
  have : textB C = textB (C.take x) ++ textB (C.drop x) := by
    unfold textB
    rw [← List.flatMap_append, List.take_append_drop]
  rw [this, List.drop_left]
/-- Those of the first ones that begin a text. -/
theorem begL_eq (C : List Cell) (t : List UInt8) : begL C t = (firstsL C C.length).filter fun x => t.isPrefixOf (textB (C.drop x)) := by
  unfold begL firstsL begB
  rw [List.filter_filter]
  congr 1
  funext x
  rw [Bool.and_comm]
theorem w35 {g : LnH} {C : List Cell} {t : List UInt8} {h : Heap} (hv : SlR cellE (Now h) g.v C) (hl : C.length ≤ 1000) (hr : ∀ c ∈ C, -2147483648 ≤ c.r ∧ c.r ≤ 2147483647) (ht : t.length ≤ 900000000) :
    Wc DD 35 [.agg (lnE.enc g), .sc (.str t)] h fun w h' => ∃ u c, w = .sc u ∧ AccS (intEl .i64) 3 u ((begL C t).map fun (x : Nat) => (x : Int)) c ∧ Sep (Now h) [c] h' := by
  have hs := Sep.entry h
  have hln := hv.ln
  refine W_enter d35 ?_
  show W _ (.code m35_code [.agg (lnE.enc g), .sc (.str t), undefA, undefA, undefA, undefA, undefA, undefA, undefA, undefA, undefA, undefA, undefA, undefA, undefA, undefA, undefA, undefA, undefA, undefA, undefA, undefA, undefA, undefA, undefA, undefA, undefA, undefA, undefA, undefA, undefA, undefA, undefA, undefA, undefA, undefA, undefA, undefA, undefA, undefA, undefA, undefA, undefA, undefA, undefA, undefA, undefA, undefA, undefA, undefA, undefA, undefA, undefA, undefA, undefA, undefA, undefA, undefA, undefA] _) _
  unfold m35_code
  repeat' (first
    | (refine K_ops ?_; first
      | refine W_fastB rfl ?_
      | refine W_nil ?_
      | (refine W_lenL rfl (by first | assumption | exact SlR.ln (by assumption) | exact AccS.ln (by assumption) | exact OwnS.ln (by assumption) | exact VwO.ln (by assumption) | exact OwnP.ln (by assumption) | exact Len.sl) ?_; refine W_norm rfl ?_)
      | (refine K_load ?_; first
        | (refine W_loadC hs 1 rfl rfl rfl ?_; refine W_norm rfl ?_)
      )
      | (refine W_allocS hs ?_; clear hs; intro al _ hs; try simp only [cell_back, attr_back, List.set_cons_zero, List.set_cons_succ, List.eraseIdx_cons_succ, List.eraseIdx_zero, List.tail_cons, List.nil_append, List.cons_append] at hs; refine W_norm rfl ?_)
      | (refine W_boxS hs rfl rfl ?_; clear hs; intro bx _ hs; try simp only [cell_back, attr_back, List.set_cons_zero, List.set_cons_succ, List.eraseIdx_cons_succ, List.eraseIdx_zero, List.tail_cons, List.nil_append, List.cons_append] at hs; refine W_norm rfl ?_)
    )
    | (refine K_code ?_; first
      | refine W_seq ?_
      | refine W_ops ?_
      | refine W_block ?_
    )
    | refine seqK_n ?_)
  obtain ⟨b0, hb0⟩ : ∃ b0, b0 = al := ⟨_, rfl⟩
  subst hb0
  refine W_loopB [7, 8, 9, 10, 16, 17, 18, 19, 20, 21, 22, 23, 24, 25, 26, 27, 28, 29, 30, 31, 32, 33, 34, 35] [0, 1, 2, 3, 4, 5, 6, 7, 8, 9, 10, 11, 12, 13, 14, 15, 16, 17, 18, 19, 20, 21, 22, 23, 24, 25, 26, 27, 28, 29, 30, 31, 32, 33, 34, 35, 36, 37, 38, 39, 40, 41, 42, 43, 44, 45, 46, 47, 48, 49, 50, 51, 52, 53, 54, 55, 56, 57, 58] (fun n' sl h' => ∃ (k : Nat) (p bu : SV) (c : Hp) (ua uc : SV) (ca cc : Hp), sl = [(7, .sc ua), (8, .sc uc), (16, .sc (.int .i64 (k : Int)))] ∧ n' = C.length - k ∧ k ≤ C.length ∧ Bld b0 p bu (textB (C.take k)) c ∧ AccS (intEl .i64) 3 ua (atsL C k) ca ∧ AccS (intEl .i64) 3 uc (cellsL C k) cc ∧ Sep (Now h) [[(b0, .cells 83 .own [p, bu])], c, ca, cc] h') ?_ ?_
  · refine ⟨_, _, ⟨0, .nilp, .nils, [], .nils, .nils, [], [], rfl, rfl, Nat.zero_le _, ?_, AccS.nil _, AccS.nil _, ?_⟩, EnvB.of rfl⟩
    · exact ⟨.inl rfl, AccS.nil _, fun _ => rfl⟩
    · exact hs.sublist (by simp)
  clear hs
  rintro _ _ us _ h2 ⟨k, p, bu, c, ua, uc, ca, cc, rfl, rfl, hk, hb, hA, hC, hs⟩ he
  refine W_spell he rfl ?_
  clear he
  unfold m35_l4
  have htl := textB_length (C.take k)
  rw [List.length_take] at htl
  have hfl := firstsL_le C k
  have hal : (atsL C k).length = (firstsL C k).length := List.length_map ..
  have hcl : (cellsL C k).length = (firstsL C k).length := List.length_map ..
  by_cases hlt : k < C.length
  · have hrk := hr _ (getD_mem' (d := cell0) hlt)
    repeat' (first
      | (refine K_ops ?_; first
        | refine W_fastB rfl ?_
        | refine W_nil ?_
        | (refine K_call ?_; first
          | (refine W_callsN 49 rfl (w49 (hs.drop 0) hb) rfl ?_; rintro _ h ⟨rfl, rfl⟩; refine W_norm rfl ?_)
          | (refine W_callsN 50 rfl (w50 (hs.drop 0) hb (by omega) hrk) rfl ?_; rintro _ h4 ⟨x, rfl, p', u', c', hb', hs⟩; refine W_norm rfl ?_)
        )
        | (refine K_bin ?_; first
          | (refine W_add rfl rfl (IntWalk.i64_in _ (by first | omega | (simp only [List.length_set, List.length_append, List.length_take, List.length_drop, List.length_replicate, List.length_cons, List.length_nil, decs_length, List.length_map]; omega))) ?_; refine W_norm rfl ?_)
        )
        | (refine K_index ?_; first
          | (refine W_indexR rfl rfl (by assumption) rfl ⟨(by first | omega | (simp only [List.length_set, List.length_append, List.length_take, List.length_drop, List.length_replicate, List.length_cons, List.length_nil, decs_length, List.length_map]; omega)), (by first | omega | (simp only [List.length_set, List.length_append, List.length_take, List.length_drop, List.length_replicate, List.length_cons, List.length_nil, decs_length, List.length_map]; omega))⟩ ?_; intro _ _ _; refine W_norm rfl ?_)
        )
        | (refine K_load ?_; first
          | (refine W_loadRA hs rfl (by assumption) rfl ?_; refine W_norm rfl ?_)
          | (refine W_loadC hs 0 rfl rfl rfl ?_; refine W_norm rfl ?_)
        )
        | (refine K_store ?_; first
          | (refine W_storeC hs 0 rfl rfl rfl rfl (by first | decide | assumption) rfl rfl ?_; clear hs; intro _ hs; try simp only [cell_back, attr_back, List.set_cons_zero, List.set_cons_succ, List.eraseIdx_cons_succ, List.eraseIdx_zero, List.tail_cons, List.nil_append, List.cons_append] at hs; refine W_norm rfl ?_)
        )
        | (refine W_allocS hs ?_; clear hs; intro al _ hs; try simp only [cell_back, attr_back, List.set_cons_zero, List.set_cons_succ, List.eraseIdx_cons_succ, List.eraseIdx_zero, List.tail_cons, List.nil_append, List.cons_append] at hs; refine W_norm rfl ?_)
        | (refine K_bslice ?_; first
          | (refine W_appB1 (intEl .i64) hs 3 rfl rfl rfl (by assumption) rfl rfl rfl ⟨by decide, (by first | omega | (simp only [List.length_set, List.length_append, List.length_take, List.length_drop, List.length_replicate, List.length_cons, List.length_nil, decs_length, List.length_map]; omega))⟩ ?_; clear hs; intro _ _ _ _ _ hs; try simp only [cell_back, attr_back, List.set_cons_zero, List.set_cons_succ, List.eraseIdx_cons_succ, List.eraseIdx_zero, List.tail_cons, List.nil_append, List.cons_append] at hs; refine W_norm rfl ?_)
          | (refine W_appB1 (intEl .i64) hs 4 rfl rfl rfl (by assumption) rfl rfl rfl ⟨by decide, (by first | omega | (simp only [List.length_set, List.length_append, List.length_take, List.length_drop, List.length_replicate, List.length_cons, List.length_nil, decs_length, List.length_map]; omega))⟩ ?_; clear hs; intro _ _ _ _ _ hs; try simp only [cell_back, attr_back, List.set_cons_zero, List.set_cons_succ, List.eraseIdx_cons_succ, List.eraseIdx_zero, List.tail_cons, List.nil_append, List.cons_append] at hs; refine W_norm rfl ?_)
        )
      )
      | (refine K_code ?_; first
        | refine W_seq ?_
        | refine W_ops ?_
        | (refine W_cond rfl (fun hc => ?_) (fun hc => ?_) <;> (try rw [hc]) <;> (try simp only [decide_eq_true_eq, decide_eq_false_iff_not, beq_iff_eq, beq_eq_false_iff_ne, bne_iff_ne, bne_eq_false_iff_eq, Bool.not_eq_true', Bool.not_eq_false', Int.not_lt, Int.not_le, ne_eq, reduceCtorEq, not_true_eq_false, not_false_eq_true, Decidable.not_not] at hc) <;> (try (exfalso; omega)) <;> (try refine W_norm rfl ?_))
        | refine W_skip ?_
        | refine W_block ?_
      )
      | refine seqK_n ?_
      | refine blockK_n ?_
      | refine invK_n ?_)
    · have hc' : (C.getD k cell0).w ≠ 2 := hc
      have e := textB_take hlt
      rw [if_neg hc'] at e
      rw [← e] at hb'
      have ef := firstsL_succ C k
      rw [if_pos hc'] at ef
      refine ⟨_, ?_, _, ⟨k + 1, p', u', c', _, _, _, _, rfl, rfl, ?_, hb', ?_, ?_, hs⟩, EnvB.of rfl⟩
      · omega
      · omega
      · unfold atsL at *; rw [ef, List.map_append]; assumption
      · unfold cellsL at *; rw [ef, List.map_append]; assumption
    · have hc2 : (C.getD k cell0).w = 2 := hc
      have hc' : ¬ (C.getD k cell0).w ≠ 2 := fun hh => hh hc2
      have e := textB_take hlt
      rw [if_pos hc2, List.append_nil] at e
      have ef := firstsL_succ C k
      rw [if_neg hc', List.append_nil] at ef
      rw [← e] at hb
      refine ⟨_, ?_, _, ⟨k + 1, p, bu, c, ua, uc, ca, cc, rfl, rfl, ?_, hb, ?_, ?_, hs.drop 0⟩, EnvB.of rfl⟩
      · omega
      · omega
      · unfold atsL at *; rw [ef]; exact hA
      · unfold cellsL at *; rw [ef]; exact hC
  · obtain rfl : k = C.length := by omega
    rw [List.take_of_length_le (Nat.le_refl _)] at hb htl
    repeat' (first
      | (refine K_ops ?_; first
        | refine W_fastB rfl ?_
        | refine W_nil ?_
        | (refine K_call ?_; first
          | (refine W_callsN 40 rfl (w40 hs hb (by omega)) rfl ?_; rintro _ h3 ⟨rfl, hs⟩; refine W_norm rfl ?_)
        )
      )
      | (refine K_code ?_; first
        | refine W_seq ?_
        | refine W_ops ?_
        | (refine W_cond rfl (fun hc => ?_) (fun hc => ?_) <;> (try rw [hc]) <;> (try simp only [decide_eq_true_eq, decide_eq_false_iff_not, beq_iff_eq, beq_eq_false_iff_ne, bne_iff_ne, bne_eq_false_iff_eq, Bool.not_eq_true', Bool.not_eq_false', Int.not_lt, Int.not_le, ne_eq, reduceCtorEq, not_true_eq_false, not_false_eq_true, Decidable.not_not] at hc) <;> (try (exfalso; omega)) <;> (try refine W_norm rfl ?_))
        | refine W_exit ?_
        | refine W_block ?_
      )
      | refine seqK_n ?_
      | refine seqK_x ?_
      | refine blockK_e ?_
      | refine invK_x ?_)
    replace hs : Sep (((Now h).add ca).add cc) [[]] h3 := (((hs.drop 0).freeze 0 rfl).freeze 0 rfl).nil
    have hA2 : SlR (intEl .i64) (((Now h).add ca).add cc) ua (atsL C C.length) := (hA.add _).mono (Ro.le_add _ _)
    have hC2 : SlR (intEl .i64) (((Now h).add ca).add cc) uc (cellsL C C.length) := hC.add _
    have hln1 := hA2.ln
    have hq : ∀ i, i < (firstsL C C.length).length → (firstsL C C.length).getD i 0 < C.length := fun i hi => by
      have : (firstsL C C.length).getD i 0 ∈ firstsL C C.length := getD_mem' hi
      unfold firstsL at this
      exact List.mem_range.1 (List.mem_filter.1 this).1
    refine W_loopB [6, 11, 37, 38, 39, 40, 41, 42, 43, 44, 45, 46, 47, 48, 49, 50, 51, 52, 53, 54, 55, 56, 57] [0, 1, 2, 3, 4, 5, 6, 7, 8, 9, 10, 11, 12, 13, 14, 15, 16, 17, 18, 19, 20, 21, 22, 23, 24, 25, 26, 27, 28, 29, 30, 31, 32, 33, 34, 35, 36, 37, 38, 39, 40, 41, 42, 43, 44, 45, 46, 47, 48, 49, 50, 51, 52, 53, 54, 55, 56, 57, 58] (fun n' sl h' => ∃ (i : Nat) (uo : SV) (co : Hp), sl = [(6, .sc uo), (11, .sc (.int .i64 (i : Int)))] ∧ n' = (firstsL C C.length).length - i ∧ i ≤ (firstsL C C.length).length ∧ AccS (intEl .i64) 3 uo ((((firstsL C C.length).take i).filter fun x => t.isPrefixOf (textB (C.drop x))).map fun (x : Nat) => (x : Int)) co ∧ Sep (((Now h).add ca).add cc) [co] h') ?_ ?_
    · refine ⟨_, _, ⟨0, .nils, [], rfl, rfl, Nat.zero_le _, AccS.nil _, hs⟩, EnvB.of rfl⟩
    clear hs hA hC
    rintro _ _ us _ h4 ⟨i, uo, co, rfl, rfl, hi, hO, hs⟩ he
    refine W_spell he rfl ?_
    clear he
    unfold m35_l12
    by_cases hlt2 : i < (firstsL C C.length).length
    · have hx := hq i hlt2
      have hol : ((((firstsL C C.length).take i).filter fun x => t.isPrefixOf (textB (C.drop x))).map fun (x : Nat) => (x : Int)).length ≤ 1000 := by
        rw [List.length_map]
        have := List.length_filter_le (fun x => t.isPrefixOf (textB (C.drop x))) ((firstsL C C.length).take i)
        rw [List.length_take] at this
        omega
      obtain ⟨x, hxe⟩ : ∃ x, x = (firstsL C C.length).getD i 0 := ⟨_, rfl⟩
      rw [← hxe] at hx
      have hval : (atsL C C.length).getD (i : Int).toNat (intEl .i64).dflt = ((textB (C.take x)).length : Int) := by
        unfold atsL
        rw [Int.toNat_natCast, List.getD_eq_getElem?_getD, List.getElem?_map, List.getElem?_eq_getElem hlt2, hxe, List.getD_eq_getElem?_getD, List.getElem?_eq_getElem hlt2]; rfl
      have hcel : (cellsL C C.length).getD (i : Int).toNat (intEl .i64).dflt = (x : Int) := by
        unfold cellsL
        rw [Int.toNat_natCast, List.getD_eq_getElem?_getD, List.getElem?_map, List.getElem?_eq_getElem hlt2, hxe, List.getD_eq_getElem?_getD, List.getElem?_eq_getElem hlt2]; rfl
      have hle : (textB (C.take x)).length ≤ (textB C).length := by
        have : textB C = textB (C.take x) ++ textB (C.drop x) := by
          conv => lhs; rw [← List.take_append_drop x C]
          unfold textB
          rw [← List.flatMap_append, List.take_append_drop]
        rw [this, List.length_append]; omega
      have hcut := textB_cut C x
      have htk : ((firstsL C C.length).take (i + 1)).filter (fun x => t.isPrefixOf (textB (C.drop x))) = ((firstsL C C.length).take i).filter (fun x => t.isPrefixOf (textB (C.drop x))) ++ (if t.isPrefixOf (textB (C.drop x)) = true then [x] else []) := by
        rw [List.take_add_one, List.getElem?_eq_getElem hlt2, List.filter_append]
        congr 1
        have e : (firstsL C C.length)[i]'hlt2 = x := by rw [hxe, List.getD_eq_getElem?_getD, List.getElem?_eq_getElem hlt2]; rfl
        rw [e]
        cases hh : t.isPrefixOf (textB (C.drop x)) <;> simp [hh]
      repeat' (first
        | (refine K_ops ?_; first
          | refine W_fastB rfl ?_
          | refine W_nil ?_
          | (refine K_call ?_; first
            | (refine W_callsN 51 rfl (w51 _ _ _ (by simp; omega) ht) rfl ?_; rintro _ h4 ⟨rfl, rfl⟩; refine W_norm rfl ?_)
          )
          | (refine W_lenL rfl (by first | assumption | exact SlR.ln (by assumption) | exact AccS.ln (by assumption) | exact OwnS.ln (by assumption) | exact VwO.ln (by assumption) | exact OwnP.ln (by assumption) | exact Len.sl) ?_; refine W_norm rfl ?_)
          | (refine K_bin ?_; first
            | (refine W_add rfl rfl (IntWalk.i64_in _ (by first | omega | (simp only [List.length_set, List.length_append, List.length_take, List.length_drop, List.length_replicate, List.length_cons, List.length_nil, decs_length, List.length_map]; omega))) ?_; refine W_norm rfl ?_)
          )
          | (refine K_index ?_; first
            | (refine W_indexR rfl rfl (by assumption) rfl ⟨(by first | omega | (simp only [List.length_set, List.length_append, List.length_take, List.length_drop, List.length_replicate, List.length_cons, List.length_nil, decs_length, List.length_map]; omega)), (by first | omega | (simp only [List.length_set, List.length_append, List.length_take, List.length_drop, List.length_replicate, List.length_cons, List.length_nil, decs_length, List.length_map]; omega))⟩ ?_; intro _ _ _; refine W_norm rfl ?_)
          )
          | (refine K_load ?_; first
            | (refine W_loadR hs rfl (by assumption) rfl ?_; refine W_norm rfl ?_)
          )
          | (refine K_bslice ?_; first
            | (refine W_appB1 (intEl .i64) hs 0 rfl rfl rfl (by assumption) rfl rfl rfl ⟨by decide, (by first | omega | (simp only [List.length_set, List.length_append, List.length_take, List.length_drop, List.length_replicate, List.length_cons, List.length_nil, decs_length, List.length_map]; omega))⟩ ?_; clear hs; intro _ _ _ _ _ hs; try simp only [cell_back, attr_back, List.set_cons_zero, List.set_cons_succ, List.eraseIdx_cons_succ, List.eraseIdx_zero, List.tail_cons, List.nil_append, List.cons_append] at hs; refine W_norm rfl ?_)
          )
          | (refine W_sliceStrFrom rfl rfl ⟨(by first | omega | (simp only [List.length_set, List.length_append, List.length_take, List.length_drop, List.length_replicate, List.length_cons, List.length_nil, decs_length, List.length_map]; omega)), (by first | omega | (simp only [List.length_set, List.length_append, List.length_take, List.length_drop, List.length_replicate, List.length_cons, List.length_nil, decs_length, List.length_map]; omega))⟩ ?_; refine W_norm rfl ?_)
        )
        | (refine K_code ?_; first
          | refine W_seq ?_
          | refine W_ops ?_
          | (refine W_cond rfl (fun hc => ?_) (fun hc => ?_) <;> (try rw [hc]) <;> (try simp only [decide_eq_true_eq, decide_eq_false_iff_not, beq_iff_eq, beq_eq_false_iff_ne, bne_iff_ne, bne_eq_false_iff_eq, Bool.not_eq_true', Bool.not_eq_false', Int.not_lt, Int.not_le, ne_eq, reduceCtorEq, not_true_eq_false, not_false_eq_true, Decidable.not_not] at hc) <;> (try (exfalso; omega)) <;> (try refine W_norm rfl ?_))
          | refine W_skip ?_
          | refine W_block ?_
        )
        | refine seqK_n ?_
        | refine blockK_n ?_
        | refine invK_n ?_)
      · rw [hval, Int.toNat_natCast, hcut] at hc
        rw [if_pos hc] at htk
        rename_i ha
        rw [hcel] at ha
        refine ⟨_, ?_, _, ⟨i + 1, _, _, rfl, rfl, ?_, ?_, hs⟩, EnvB.of rfl⟩
        · omega
        · omega
        · rw [htk, List.map_append]; exact ha
      · rw [hval, Int.toNat_natCast, hcut] at hc
        rw [if_neg (by rw [hc]; simp), List.append_nil] at htk
        refine ⟨_, ?_, _, ⟨i + 1, uo, co, rfl, rfl, ?_, ?_, hs⟩, EnvB.of rfl⟩
        · omega
        · omega
        · rw [htk]; exact hO
    · repeat' (first
        | (refine K_ops ?_; first
          | refine W_fastB rfl ?_
          | refine W_nil ?_
          | (refine W_lenL rfl (by first | assumption | exact SlR.ln (by assumption) | exact AccS.ln (by assumption) | exact OwnS.ln (by assumption) | exact VwO.ln (by assumption) | exact OwnP.ln (by assumption) | exact Len.sl) ?_; refine W_norm rfl ?_)
        )
        | (refine K_code ?_; first
          | refine W_seq ?_
          | refine W_ops ?_
          | (refine W_cond rfl (fun hc => ?_) (fun hc => ?_) <;> (try rw [hc]) <;> (try simp only [decide_eq_true_eq, decide_eq_false_iff_not, beq_iff_eq, beq_eq_false_iff_ne, bne_iff_ne, bne_eq_false_iff_eq, Bool.not_eq_true', Bool.not_eq_false', Int.not_lt, Int.not_le, ne_eq, reduceCtorEq, not_true_eq_false, not_false_eq_true, Decidable.not_not] at hc) <;> (try (exfalso; omega)) <;> (try refine W_norm rfl ?_))
          | refine W_ret ?_
          | refine W_exit ?_
        )
        | refine seqK_n ?_
        | refine seqK_x ?_
        | refine blockK_e ?_
        | refine invK_x ?_
        | (refine fnK_r rfl ?_; try dsimp only [gd_z, gd_s]))
      obtain rfl : i = (firstsL C C.length).length := by omega
      rw [List.take_of_length_le (Nat.le_refl _), ← begL_eq] at hO
      exact ⟨_, rfl, _, _, rfl, hO, hs.unadd.unadd⟩
end Go.Proofs.YtbkhjpclnfljbaaDoor
