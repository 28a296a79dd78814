/- Rows: Write, Resize, Whole. -/
import Derived.Test.YtkkkigkfklngdaaDoorJxW11row2
set_option linter.unusedSimpArgs false
set_option linter.unusedVariables false
set_option maxHeartbeats 1000000
set_option maxRecDepth 100000
namespace Go.Proofs.YtkkkigkfklngdaaDoor
open Go Go.Jx

theorem set2_eq {α : Type} {P : List α} {i : Nat} {a b : α} (h : i + 2 ≤ P.length) : (P.set i a).set (i + 1) b = P.take i ++ [a, b] ++ P.drop (i + 2) := by
  have h1 : P = P.take i ++ P[i]'(by omega) :: P[i + 1]'(by omega) :: P.drop (i + 2) := by
    rw [← List.drop_eq_getElem_cons (show i + 1 < P.length by omega), ← List.drop_eq_getElem_cons (show i < P.length by omega), List.take_append_drop]
  generalize P[i]'(by omega) = x at h1
  generalize P[i + 1]'(by omega) = y at h1
  have hA : (P.take i).length = i := by rw [List.length_take]; omega
  generalize P.take i = A at *
  generalize P.drop (i + 2) = B at *
  subst h1
  subst hA
  rw [List.set_append_right _ _ (Nat.le_refl _), Nat.sub_self, List.set_cons_zero, List.set_append_right _ _ (by omega), show A.length + 1 - A.length = 1 by omega]
  simp

def resizeL (L : List Cell) (w : Int) (a : Attr) : List Cell :=
  if w < 1 ∨ 400 < w then L else if w ≤ L.length then (partL L w).take w.toNat else L ++ List.replicate (w.toNat - L.length) (blankC a)
theorem partL_end {L : List Cell} {x : Int} (h : L.length ≤ x) : partL L x = L := by
  unfold partL
  rw [if_neg (by omega)]


theorem w19 {v : SV} {L : List Cell} {h : Heap} {n : Int} (a : Attr) (hv : SlR cellE (Now h) v L) (hl : L.length ≤ 100000) :
    Wc DD 19 [.sc v, i64 n, .agg (attrE.enc a)] h fun w h' => ∃ u c, w = .sc u ∧ OwnP cellE 37 u (resizeL L n a) c ∧ Sep (Now h) [c] h' := by
  have hs := Sep.entry h
  have hpl := partL_length L n
  refine W_enter d19 ?_
  show W _ (.code m19_code [.sc v, i64 n, .agg (attrE.enc a), undefA, undefA, undefA, undefA, undefA, undefA, undefA, undefA, undefA, undefA, undefA, undefA, undefA, undefA, undefA, undefA, undefA, undefA, undefA, undefA, undefA, undefA, undefA, undefA, undefA, undefA, undefA, undefA, undefA, undefA, undefA] _) _
  unfold m19_code
  repeat' (first
    | (refine K_ops ?_; first
      | refine W_fastB rfl ?_
      | refine W_nil ?_
      | (refine K_guard ?_; first
        | refine W_guard_on rfl ?_
        | refine W_guard_off rfl rfl (W_norm rfl ?_)
        | (refine W_guardF rfl (fun hc => ?_) (fun hc => ?_) <;> (try rw [hc]) <;> (try simp only [decide_eq_true_eq, decide_eq_false_iff_not, beq_iff_eq, beq_eq_false_iff_ne, bne_iff_ne, bne_eq_false_iff_eq, Bool.not_eq_true', Bool.not_eq_false', Int.not_lt, Int.not_le, ne_eq, reduceCtorEq, not_true_eq_false, not_false_eq_true, Decidable.not_not] at hc) <;> (try (exfalso; omega)) <;> (try refine W_norm rfl ?_))
      )
      | (refine K_call ?_; first
        | (refine W_callsN 27 rfl (w27 (SlR.now hs hv) hl) rfl ?_; rintro _ h2 ⟨u, c, rfl, ha, t⟩; replace hs := hs.call t; try simp only [cell_back, attr_back, List.set_cons_zero, List.set_cons_succ, List.eraseIdx_cons_succ, List.eraseIdx_zero, List.tail_cons, List.nil_append, List.cons_append] at hs; refine W_norm rfl ?_)
        | (refine W_callsN 29 rfl (w29 hs ha (by (try simp only [partL_length]); exact hl)) rfl ?_; rintro _ h3 ⟨rfl, c, ha, hs⟩; refine W_norm rfl ?_)
        | (refine W_callsN 8 rfl (w8 _ a _) rfl ?_; rintro _ h3 ⟨u2, c2, rfl, hb, t⟩; replace hs := hs.call t; try simp only [cell_back, attr_back, List.set_cons_zero, List.set_cons_succ, List.eraseIdx_cons_succ, List.eraseIdx_zero, List.tail_cons, List.nil_append, List.cons_append] at hs; refine W_norm rfl ?_)
      )
      | (refine W_lenL rfl (by first | assumption | exact SlR.ln (by assumption) | exact AccS.ln (by assumption) | exact OwnS.ln (by assumption) | exact VwO.ln (by assumption) | exact OwnP.ln (by assumption) | exact Len.sl) ?_; refine W_norm rfl ?_)
      | (refine K_bin ?_; first
        | (refine W_sub rfl rfl (IntWalk.i64_in _ (by first | omega | (simp only [List.length_set, List.length_append, List.length_take, List.length_drop, List.length_replicate, List.length_cons, List.length_nil, decs_length, List.length_map]; omega))) ?_; refine W_norm rfl ?_)
      )
      | (refine K_pick ?_; first
        | refine W_pick_t rfl rfl (W_norm rfl ?_)
        | refine W_pick_f rfl rfl (W_norm rfl ?_)
      )
      | (refine K_load ?_; first
        | (refine W_loadCA hs 1 rfl rfl rfl ?_; refine W_norm rfl ?_)
      )
      | (refine W_boxS hs rfl rfl ?_; clear hs; intro bx _ hs; try simp only [cell_back, attr_back, List.set_cons_zero, List.set_cons_succ, List.eraseIdx_cons_succ, List.eraseIdx_zero, List.tail_cons, List.nil_append, List.cons_append] at hs; refine W_norm rfl ?_)
    )
    | (refine K_code ?_; first
      | refine W_seq ?_
      | refine W_ops ?_
      | refine W_cond_t rfl ?_
      | (refine W_cond rfl (fun hc => ?_) (fun hc => ?_) <;> (try rw [hc]) <;> (try simp only [decide_eq_true_eq, decide_eq_false_iff_not, beq_iff_eq, beq_eq_false_iff_ne, bne_iff_ne, bne_eq_false_iff_eq, Bool.not_eq_true', Bool.not_eq_false', Int.not_lt, Int.not_le, ne_eq, reduceCtorEq, not_true_eq_false, not_false_eq_true, Decidable.not_not] at hc) <;> (try (exfalso; omega)) <;> (try refine W_norm rfl ?_))
      | refine W_skip ?_
      | refine W_ret ?_
    )
    | refine seqK_n ?_
    | refine seqK_r ?_
    | (refine fnK_r rfl ?_; try dsimp only [gd_z, gd_s]))
  · exact ⟨_, rfl, _, _, rfl, by unfold resizeL; rw [if_pos (by omega)]; exact ha.p, hs.drop 1⟩
  · obtain ⟨id, kd, rfl, rfl, hk⟩ := ha.pos (by omega)
    repeat' (first
      | (refine K_ops ?_; first
        | refine W_fastB rfl ?_
        | refine W_nil ?_
        | (refine K_slice ?_; first
          | (refine W_sliceO0To rfl rfl (by first | omega | (simp only [List.length_set, List.length_append, List.length_take, List.length_drop, List.length_replicate, List.length_cons, List.length_nil, decs_length, List.length_map]; omega)) ⟨(by first | omega | (simp only [List.length_set, List.length_append, List.length_take, List.length_drop, List.length_replicate, List.length_cons, List.length_nil, decs_length, List.length_map]; omega)), (by first | omega | (simp only [List.length_set, List.length_append, List.length_take, List.length_drop, List.length_replicate, List.length_cons, List.length_nil, decs_length, List.length_map]; omega))⟩ ?_; intro _ _; refine W_norm rfl ?_)
        )
      )
      | (refine K_code ?_; first
        | refine W_ret ?_
      )
      | refine seqK_n ?_
      | refine seqK_r ?_
      | (refine fnK_r rfl ?_; try dsimp only [gd_z, gd_s]))
    rename_i hw
    refine ⟨_, rfl, _, _, rfl, ?_, hs.drop 1⟩
    unfold resizeL; rw [if_neg (by omega), if_pos (by omega)]
    exact hw.p (by omega) (by omega) hk
  · rw [if_pos (by omega)] at hb
    rw [partL_end (by omega)] at *
    repeat' (first
      | (refine K_ops ?_; first
        | refine W_fastB rfl ?_
        | refine W_nil ?_
        | (refine K_append ?_; first
          | (refine W_appS hs 1 rfl rfl (by assumption) rfl (by first | assumption | exact SlR.now hs (by assumption) | exact AccS.now (by assumption) hs (by simp) | exact OwnS.now (by assumption) hs (by simp)) rfl ⟨by decide, (by first | omega | (simp only [List.length_set, List.length_append, List.length_take, List.length_drop, List.length_replicate, List.length_cons, List.length_nil, decs_length, List.length_map]; omega))⟩ ?_; clear hs; intro _ _ _ _ hs; try simp only [cell_back, attr_back, List.set_cons_zero, List.set_cons_succ, List.eraseIdx_cons_succ, List.eraseIdx_zero, List.tail_cons, List.nil_append, List.cons_append] at hs; refine W_norm rfl ?_)
        )
      )
      | (refine K_code ?_; first
        | refine W_ret ?_
      )
      | refine seqK_n ?_
      | (refine fnK_r rfl ?_; try dsimp only [gd_z, gd_s]))
    rename_i hd
    refine ⟨_, rfl, _, _, rfl, ?_, (hs.drop 2).drop 0⟩
    unfold resizeL; rw [if_neg (by omega), if_neg (by omega)]
    rw [show (n - (L.length : Int)).toNat = n.toNat - L.length by omega] at hd
    exact hd.p
  · exact ⟨_, rfl, _, _, rfl, by unfold resizeL; rw [if_pos (by omega)]; exact ha.p, hs.drop 1⟩



def writeL (L : List Cell) (x : Int) (r : Int) (wide : Bool) (a : Attr) : List Cell :=
  if wide then ((partL (partL L x) (x + 2)).set x.toNat ⟨r, 1, a⟩).set (x.toNat + 1) ⟨r, 2, a⟩ else (partL (partL L x) (x + 1)).set x.toNat ⟨r, 0, a⟩
theorem w18 {v : SV} {L : List Cell} {h : Heap} {x r : Int} {wide : Bool} (a : Attr) (hv : SlR cellE (Now h) v L) (hl : L.length ≤ 100000) (hx : -9223372036854775808 ≤ x ∧ x ≤ 9223372036854775807) :
    Wc DD 18 [.sc v, i64 x, .sc (.int .i32 r), bo wide, .agg (attrE.enc a)] h fun w h' => ∃ u c, w = .tup [.sc u, bo (decide (0 ≤ x ∧ x + (if wide then 2 else 1) ≤ L.length))] ∧ AccS cellE 37 u (if 0 ≤ x ∧ x + (if wide then 2 else 1) ≤ L.length then writeL L x r wide a else []) c ∧ Sep (Now h) [c] h' := by
  have hs := Sep.entry h
  cases wide
  · refine W_enter d18 ?_
    show W _ (.code m18_code [.sc v, i64 x, .sc (.int .i32 r), bo false, .agg (attrE.enc a), undefA, undefA, undefA, undefA, undefA, undefA, undefA, undefA, undefA, undefA, undefA, undefA, undefA, undefA, undefA, undefA, undefA, undefA, undefA, undefA, undefA, undefA, undefA, undefA, undefA, undefA, undefA, undefA, undefA, undefA, undefA, undefA, undefA, undefA, undefA, undefA, undefA, undefA, undefA, undefA, undefA, undefA, undefA, undefA, undefA, undefA, undefA, undefA, undefA, undefA, undefA] _) _
    unfold m18_code
    repeat' (first
      | (refine K_ops ?_; first
        | refine W_fastB rfl ?_
        | refine W_nil ?_
        | (refine K_guard ?_; first
          | refine W_guard_on rfl ?_
          | refine W_guard_off rfl rfl (W_norm rfl ?_)
          | (refine W_guardF rfl (fun hc => ?_) (fun hc => ?_) <;> (try rw [hc]) <;> (try simp only [decide_eq_true_eq, decide_eq_false_iff_not, beq_iff_eq, beq_eq_false_iff_ne, bne_iff_ne, bne_eq_false_iff_eq, Bool.not_eq_true', Bool.not_eq_false', Int.not_lt, Int.not_le, ne_eq, reduceCtorEq, not_true_eq_false, not_false_eq_true, Decidable.not_not] at hc) <;> (try (exfalso; omega)) <;> (try refine W_norm rfl ?_))
        )
        | (refine K_call ?_; first
          | (refine W_callsN 30 rfl (w30 hv.ln) rfl ?_; rintro _ _ ⟨rfl, rfl⟩; refine W_norm rfl ?_)
          | (refine W_callsN 27 rfl (w27 (SlR.now hs hv) hl) rfl ?_; rintro _ h2 ⟨u, c, rfl, ha, t⟩; replace hs := hs.call t; try simp only [cell_back, attr_back, List.set_cons_zero, List.set_cons_succ, List.eraseIdx_cons_succ, List.eraseIdx_zero, List.tail_cons, List.nil_append, List.cons_append] at hs; refine W_norm rfl ?_)
          | (refine W_callsN 29 rfl (w29 hs ha (by (try simp only [partL_length]); exact hl)) rfl ?_; rintro _ h3 ⟨rfl, c, ha, hs⟩; refine W_norm rfl ?_)
        )
        | (refine K_bin ?_; first
          | (refine W_add rfl rfl (IntWalk.i64_in _ (by first | omega | (simp only [List.length_set, List.length_append, List.length_take, List.length_drop, List.length_replicate, List.length_cons, List.length_nil, decs_length, List.length_map]; omega))) ?_; refine W_norm rfl ?_)
          | (refine W_sub rfl rfl (IntWalk.i64_in _ (by first | omega | (simp only [List.length_set, List.length_append, List.length_take, List.length_drop, List.length_replicate, List.length_cons, List.length_nil, decs_length, List.length_map]; omega))) ?_; refine W_norm rfl ?_)
        )
        | (refine K_pick ?_; first
          | refine W_pick_t rfl rfl (W_norm rfl ?_)
          | refine W_pick_f rfl rfl (W_norm rfl ?_)
        )
        | (refine K_load ?_; first
          | (refine W_loadCA hs 1 rfl rfl rfl ?_; refine W_norm rfl ?_)
        )
        | (refine W_boxS hs rfl rfl ?_; clear hs; intro bx _ hs; try simp only [cell_back, attr_back, List.set_cons_zero, List.set_cons_succ, List.eraseIdx_cons_succ, List.eraseIdx_zero, List.tail_cons, List.nil_append, List.cons_append] at hs; refine W_norm rfl ?_)
        | (refine W_buildN rfl ?_; refine W_norm rfl ?_)
      )
      | (refine K_code ?_; first
        | refine W_seq ?_
        | refine W_ops ?_
        | refine W_cond_t rfl ?_
        | refine W_cond_f rfl ?_
        | (refine W_cond rfl (fun hc => ?_) (fun hc => ?_) <;> (try rw [hc]) <;> (try simp only [decide_eq_true_eq, decide_eq_false_iff_not, beq_iff_eq, beq_eq_false_iff_ne, bne_iff_ne, bne_eq_false_iff_eq, Bool.not_eq_true', Bool.not_eq_false', Int.not_lt, Int.not_le, ne_eq, reduceCtorEq, not_true_eq_false, not_false_eq_true, Decidable.not_not] at hc) <;> (try (exfalso; omega)) <;> (try refine W_norm rfl ?_))
        | refine W_skip ?_
        | refine W_ret ?_
      )
      | refine seqK_n ?_
      | refine seqK_r ?_
      | (refine fnK_r rfl ?_; try dsimp only [gd_z, gd_s]))
    · have hlen : (partL (partL L x) (x + 1)).length = L.length := by simp only [partL_length]
      have e : writeL L x r false a = writeL L x r false a := rfl
      conv at e => rhs; unfold writeL
      rw [e]
      generalize partL (partL L x) (x + 1) = P at *
      obtain ⟨id, kd, rfl, rfl, hk⟩ := ha.pos (by omega)
      repeat' (first
        | (refine K_ops ?_; first
          | refine W_fastB rfl ?_
          | refine W_nil ?_
          | (refine K_index ?_; first
            | (refine W_indexO rfl rfl ⟨(by first | omega | (simp only [List.length_set, List.length_append, List.length_take, List.length_drop, List.length_replicate, List.length_cons, List.length_nil, decs_length, List.length_map]; omega)), (by first | omega | (simp only [List.length_set, List.length_append, List.length_take, List.length_drop, List.length_replicate, List.length_cons, List.length_nil, decs_length, List.length_map]; omega))⟩ ?_; refine W_norm rfl ?_)
          )
          | (refine K_store ?_; first
            | (refine W_storeO hs 0 rfl rfl rfl rfl rfl (by first | omega | (simp only [List.length_set, List.length_append, List.length_take, List.length_drop, List.length_replicate, List.length_cons, List.length_nil, decs_length, List.length_map]; omega)) (by first | decide | assumption) rfl ?_; clear hs; intro _ hs; try simp only [cell_back, attr_back, List.set_cons_zero, List.set_cons_succ, List.eraseIdx_cons_succ, List.eraseIdx_zero, List.tail_cons, List.nil_append, List.cons_append] at hs; refine W_norm rfl ?_)
          )
        )
        | (refine K_code ?_; first
          | refine W_seq ?_
          | refine W_ops ?_
          | refine W_cond_f rfl ?_
          | refine W_skip ?_
          | refine W_ret ?_
        )
        | refine seqK_n ?_
        | (refine fnK_r rfl ?_; try dsimp only [gd_z, gd_s]))
      refine ⟨_, rfl, _, _, by rw [decide_eq_true (by first | omega | (simp; omega))], ?_, hs.drop 1⟩
      rw [if_pos (by first | omega | (simp; omega))]
      exact AccS.again hk (by simp)
    · exact ⟨_, rfl, _, [], by rw [decide_eq_false (by first | omega | (simp; omega))], by rw [if_neg (by first | omega | (simp; omega))]; exact AccS.nil _, (hs.drop 0).nil⟩
  · refine W_enter d18 ?_
    show W _ (.code m18_code [.sc v, i64 x, .sc (.int .i32 r), bo true, .agg (attrE.enc a), undefA, undefA, undefA, undefA, undefA, undefA, undefA, undefA, undefA, undefA, undefA, undefA, undefA, undefA, undefA, undefA, undefA, undefA, undefA, undefA, undefA, undefA, undefA, undefA, undefA, undefA, undefA, undefA, undefA, undefA, undefA, undefA, undefA, undefA, undefA, undefA, undefA, undefA, undefA, undefA, undefA, undefA, undefA, undefA, undefA, undefA, undefA, undefA, undefA, undefA, undefA] _) _
    unfold m18_code
    repeat' (first
      | (refine K_ops ?_; first
        | refine W_fastB rfl ?_
        | refine W_nil ?_
        | (refine K_guard ?_; first
          | refine W_guard_on rfl ?_
          | refine W_guard_off rfl rfl (W_norm rfl ?_)
          | (refine W_guardF rfl (fun hc => ?_) (fun hc => ?_) <;> (try rw [hc]) <;> (try simp only [decide_eq_true_eq, decide_eq_false_iff_not, beq_iff_eq, beq_eq_false_iff_ne, bne_iff_ne, bne_eq_false_iff_eq, Bool.not_eq_true', Bool.not_eq_false', Int.not_lt, Int.not_le, ne_eq, reduceCtorEq, not_true_eq_false, not_false_eq_true, Decidable.not_not] at hc) <;> (try (exfalso; omega)) <;> (try refine W_norm rfl ?_))
        )
        | (refine K_call ?_; first
          | (refine W_callsN 30 rfl (w30 hv.ln) rfl ?_; rintro _ _ ⟨rfl, rfl⟩; refine W_norm rfl ?_)
          | (refine W_callsN 27 rfl (w27 (SlR.now hs hv) hl) rfl ?_; rintro _ h2 ⟨u, c, rfl, ha, t⟩; replace hs := hs.call t; try simp only [cell_back, attr_back, List.set_cons_zero, List.set_cons_succ, List.eraseIdx_cons_succ, List.eraseIdx_zero, List.tail_cons, List.nil_append, List.cons_append] at hs; refine W_norm rfl ?_)
          | (refine W_callsN 29 rfl (w29 hs ha (by (try simp only [partL_length]); exact hl)) rfl ?_; rintro _ h3 ⟨rfl, c, ha, hs⟩; refine W_norm rfl ?_)
        )
        | (refine K_bin ?_; first
          | (refine W_add rfl rfl (IntWalk.i64_in _ (by first | omega | (simp only [List.length_set, List.length_append, List.length_take, List.length_drop, List.length_replicate, List.length_cons, List.length_nil, decs_length, List.length_map]; omega))) ?_; refine W_norm rfl ?_)
          | (refine W_sub rfl rfl (IntWalk.i64_in _ (by first | omega | (simp only [List.length_set, List.length_append, List.length_take, List.length_drop, List.length_replicate, List.length_cons, List.length_nil, decs_length, List.length_map]; omega))) ?_; refine W_norm rfl ?_)
        )
        | (refine K_pick ?_; first
          | refine W_pick_t rfl rfl (W_norm rfl ?_)
          | refine W_pick_f rfl rfl (W_norm rfl ?_)
        )
        | (refine K_load ?_; first
          | (refine W_loadCA hs 1 rfl rfl rfl ?_; refine W_norm rfl ?_)
        )
        | (refine W_boxS hs rfl rfl ?_; clear hs; intro bx _ hs; try simp only [cell_back, attr_back, List.set_cons_zero, List.set_cons_succ, List.eraseIdx_cons_succ, List.eraseIdx_zero, List.tail_cons, List.nil_append, List.cons_append] at hs; refine W_norm rfl ?_)
        | (refine W_buildN rfl ?_; refine W_norm rfl ?_)
      )
      | (refine K_code ?_; first
        | refine W_seq ?_
        | refine W_ops ?_
        | refine W_cond_t rfl ?_
        | (refine W_cond rfl (fun hc => ?_) (fun hc => ?_) <;> (try rw [hc]) <;> (try simp only [decide_eq_true_eq, decide_eq_false_iff_not, beq_iff_eq, beq_eq_false_iff_ne, bne_iff_ne, bne_eq_false_iff_eq, Bool.not_eq_true', Bool.not_eq_false', Int.not_lt, Int.not_le, ne_eq, reduceCtorEq, not_true_eq_false, not_false_eq_true, Decidable.not_not] at hc) <;> (try (exfalso; omega)) <;> (try refine W_norm rfl ?_))
        | refine W_skip ?_
        | refine W_ret ?_
      )
      | refine seqK_n ?_
      | refine seqK_r ?_
      | (refine fnK_r rfl ?_; try dsimp only [gd_z, gd_s]))
    · exact ⟨_, rfl, _, [], by rw [decide_eq_false (by first | omega | (simp; omega))], by rw [if_neg (by first | omega | (simp; omega))]; exact AccS.nil _, (hs.drop 0).nil⟩
    · have hlen : (partL (partL L x) (x + 2)).length = L.length := by simp only [partL_length]
      have e : writeL L x r true a = writeL L x r true a := rfl
      conv at e => rhs; unfold writeL
      rw [e]
      generalize partL (partL L x) (x + 2) = P at *
      obtain ⟨id, kd, rfl, rfl, hk⟩ := ha.pos (by omega)
      repeat' (first
        | (refine K_ops ?_; first
          | refine W_fastB rfl ?_
          | refine W_nil ?_
          | (refine K_bin ?_; first
            | (refine W_add rfl rfl (IntWalk.i64_in _ (by first | omega | (simp only [List.length_set, List.length_append, List.length_take, List.length_drop, List.length_replicate, List.length_cons, List.length_nil, decs_length, List.length_map]; omega))) ?_; refine W_norm rfl ?_)
          )
          | (refine K_index ?_; first
            | (refine W_indexO rfl rfl ⟨(by first | omega | (simp only [List.length_set, List.length_append, List.length_take, List.length_drop, List.length_replicate, List.length_cons, List.length_nil, decs_length, List.length_map]; omega)), (by first | omega | (simp only [List.length_set, List.length_append, List.length_take, List.length_drop, List.length_replicate, List.length_cons, List.length_nil, decs_length, List.length_map]; omega))⟩ ?_; refine W_norm rfl ?_)
          )
          | (refine K_load ?_; first
            | (refine W_loadCA hs 1 rfl rfl rfl ?_; refine W_norm rfl ?_)
          )
          | (refine K_store ?_; first
            | (refine W_storeO hs 0 rfl rfl rfl rfl rfl (by first | omega | (simp only [List.length_set, List.length_append, List.length_take, List.length_drop, List.length_replicate, List.length_cons, List.length_nil, decs_length, List.length_map]; omega)) (by first | decide | assumption) rfl ?_; clear hs; intro _ hs; try simp only [cell_back, attr_back, List.set_cons_zero, List.set_cons_succ, List.eraseIdx_cons_succ, List.eraseIdx_zero, List.tail_cons, List.nil_append, List.cons_append] at hs; refine W_norm rfl ?_)
            | (refine W_storeOF hs 0 rfl rfl rfl rfl rfl (by first | omega | (simp only [List.length_set, List.length_append, List.length_take, List.length_drop, List.length_replicate, List.length_cons, List.length_nil, decs_length, List.length_map]; omega)) (by first | decide | assumption) rfl rfl rfl rfl ?_; clear hs; intro _ hs; try simp only [cell_back, attr_back, List.set_cons_zero, List.set_cons_succ, List.eraseIdx_cons_succ, List.eraseIdx_zero, List.tail_cons, List.nil_append, List.cons_append] at hs; refine W_norm rfl ?_)
          )
          | (refine W_buildN rfl ?_; refine W_norm rfl ?_)
        )
        | (refine K_code ?_; first
          | refine W_seq ?_
          | refine W_ops ?_
          | refine W_cond_t rfl ?_
          | refine W_ret ?_
        )
        | refine seqK_n ?_
        | (refine fnK_r rfl ?_; try dsimp only [gd_z, gd_s]))
      have g : ∀ C : Cell, (P.set x.toNat C).getD x.toNat cellE.dflt = C := fun C => by
        rw [List.getD_eq_getElem?_getD, List.getElem?_set_self (by omega)]; rfl
      simp only [cell_dec, g, List.set_set, show (x + 1).toNat = x.toNat + 1 by omega] at hs
      refine ⟨_, rfl, _, _, by rw [decide_eq_true (by first | omega | (simp; omega))], ?_, hs.drop 1⟩
      rw [if_pos (by first | omega | (simp; omega)), if_pos rfl]
      exact AccS.again hk (by simp)
    · exact ⟨_, rfl, _, [], by rw [decide_eq_false (by first | omega | (simp; omega))], by rw [if_neg (by first | omega | (simp; omega))]; exact AccS.nil _, (hs.drop 0).nil⟩



def wholeB : List Cell → Bool
  | [] => true
  | [c] => c.w == 0
  | c :: d :: l => if c.w = 0 then wholeB (d :: l) else c.w == 1 && d.w == 2 && wholeB l
theorem drop_getD {α : Type} {L : List α} {k : Nat} (d : α) (h : k < L.length) : L.drop k = L.getD k d :: L.drop (k + 1) := by
  rw [List.drop_eq_getElem_cons h, List.getD_eq_getElem?_getD, List.getElem?_eq_getElem h]; rfl
theorem wholeB_0 {L : List Cell} {k : Nat} (h : k < L.length) (hw : (L.getD k cell0).w = 0) : wholeB (L.drop k) = wholeB (L.drop (k + 1)) := by
  rw [drop_getD cell0 h]
  cases hd : L.drop (k + 1) with
  | nil => show ((L.getD k cell0).w == 0) = true; rw [hw]; rfl
  | cons d l => simp only [wholeB]; rw [if_pos hw]
theorem wholeB_1 {L : List Cell} {k : Nat} (h : k + 1 < L.length) (hw : (L.getD k cell0).w = 1) : wholeB (L.drop k) = ((L.getD (k + 1) cell0).w == 2 && wholeB (L.drop (k + 2))) := by
  rw [drop_getD cell0 (show k < L.length by omega), drop_getD cell0 h]
  simp only [wholeB]
  rw [if_neg (by omega), hw]; simp
theorem wholeB_f {L : List Cell} {k : Nat} (h : k < L.length) (hw : (L.getD k cell0).w ≠ 0) (h1 : (L.getD k cell0).w ≠ 1 ∨ L.length ≤ k + 1) : wholeB (L.drop k) = false := by
  rw [drop_getD cell0 h]
  cases hd : L.drop (k + 1) with
  | nil => show ((L.getD k cell0).w == 0) = false; rw [beq_eq_false_iff_ne]; exact hw
  | cons d l =>
    simp only [wholeB]
    rw [if_neg hw]
    rcases h1 with h1 | h1
    · rw [beq_eq_false_iff_ne.2 h1]; rfl
    · have := congrArg List.length hd
      simp at this; omega
theorem w12 {v : SV} {L : List Cell} {h : Heap} (hv : SlR cellE (Now h) v L) (hl : L.length ≤ 100000) : Wc DD 12 [.sc v] h fun w h' => w = bo (wholeB L) ∧ h' = h := by
  have hs := Sep.entry h
  refine W_enter d12 ?_
  show W _ (.code m12_code [.sc v, undefA, undefA, undefA, undefA, undefA, undefA, undefA, undefA, undefA, undefA, undefA, undefA, undefA, undefA, undefA, undefA, undefA, undefA, undefA, undefA, undefA, undefA, undefA, undefA, undefA, undefA, undefA, undefA, undefA, undefA, undefA, undefA, undefA, undefA, undefA, undefA, undefA, undefA, undefA, undefA, undefA] _) _
  unfold m12_code
  repeat' (first
    | (refine K_ops ?_; first
      | refine W_fastB rfl ?_
      | refine W_nil ?_
    )
    | (refine K_code ?_; first
      | refine W_seq ?_
      | refine W_ops ?_
      | refine W_block ?_
    )
    | refine seqK_n ?_)
  refine W_loopB [2, 3, 4, 5, 6, 7, 8, 9, 10, 11, 12, 13, 14, 15, 16, 17, 18, 19, 20, 21, 22, 23, 24, 25, 26, 27, 28, 29, 30, 31, 32, 33, 34, 35, 36, 37, 38, 39, 40, 41] [0, 1, 2, 3, 4, 5, 6, 7, 8, 9, 10, 11, 12, 13, 14, 15, 16, 17, 18, 19, 20, 21, 22, 23, 24, 25, 26, 27, 28, 29, 30, 31, 32, 33, 34, 35, 36, 37, 38, 39, 40, 41] (fun n' sl h' => ∃ (k : Nat), sl = [(3, .sc (.int .i64 (k : Int)))] ∧ n' = L.length - k ∧ k ≤ L.length ∧ h' = h ∧ wholeB L = wholeB (L.drop k)) ?_ ?_
  · refine ⟨_, _, ⟨0, rfl, rfl, Nat.zero_le _, rfl, rfl⟩, EnvB.of rfl⟩
  rintro _ _ us _ h2 ⟨k, rfl, rfl, hk, rfl, hw⟩ he
  refine W_spell he rfl ?_
  clear he
  unfold m12_l2
  repeat' (first
    | (refine K_ops ?_; first
      | refine W_fastB rfl ?_
      | refine W_nil ?_
      | (refine K_guard ?_; first
        | refine W_guard_on rfl ?_
        | refine W_guard_off rfl rfl (W_norm rfl ?_)
        | (refine W_guardT rfl (fun hc => ?_) (fun hc => ?_) <;> (try rw [hc]) <;> (try simp only [decide_eq_true_eq, decide_eq_false_iff_not, beq_iff_eq, beq_eq_false_iff_ne, bne_iff_ne, bne_eq_false_iff_eq, Bool.not_eq_true', Bool.not_eq_false', Int.not_lt, Int.not_le, ne_eq, reduceCtorEq, not_true_eq_false, not_false_eq_true, Decidable.not_not] at hc) <;> (try (exfalso; omega)) <;> (try refine W_norm rfl ?_))
      )
      | (refine W_lenL rfl (by first | assumption | exact SlR.ln (by assumption) | exact AccS.ln (by assumption) | exact OwnS.ln (by assumption) | exact VwO.ln (by assumption) | exact OwnP.ln (by assumption) | exact Len.sl) ?_; refine W_norm rfl ?_)
      | (refine K_bin ?_; first
        | (refine W_add rfl rfl (IntWalk.i64_in _ (by first | omega | (simp only [List.length_set, List.length_append, List.length_take, List.length_drop, List.length_replicate, List.length_cons, List.length_nil, decs_length, List.length_map]; omega))) ?_; refine W_norm rfl ?_)
      )
      | (refine K_pick ?_; first
        | refine W_pick_t rfl rfl (W_norm rfl ?_)
        | refine W_pick_f rfl rfl (W_norm rfl ?_)
      )
      | (refine K_index ?_; first
        | (refine W_indexR rfl rfl (by assumption) rfl ⟨(by first | omega | (simp only [List.length_set, List.length_append, List.length_take, List.length_drop, List.length_replicate, List.length_cons, List.length_nil, decs_length, List.length_map]; omega)), (by first | omega | (simp only [List.length_set, List.length_append, List.length_take, List.length_drop, List.length_replicate, List.length_cons, List.length_nil, decs_length, List.length_map]; omega))⟩ ?_; intro _ _ _; refine W_norm rfl ?_)
      )
      | (refine K_load ?_; first
        | (refine W_loadRF hs rfl (by assumption) rfl ?_; refine W_norm rfl ?_)
      )
    )
    | (refine K_code ?_; first
      | refine W_seq ?_
      | refine W_ops ?_
      | refine W_cond_f rfl ?_
      | (refine W_cond rfl (fun hc => ?_) (fun hc => ?_) <;> (try rw [hc]) <;> (try simp only [decide_eq_true_eq, decide_eq_false_iff_not, beq_iff_eq, beq_eq_false_iff_ne, bne_iff_ne, bne_eq_false_iff_eq, Bool.not_eq_true', Bool.not_eq_false', Int.not_lt, Int.not_le, ne_eq, reduceCtorEq, not_true_eq_false, not_false_eq_true, Decidable.not_not] at hc) <;> (try (exfalso; omega)) <;> (try refine W_norm rfl ?_))
      | refine W_skip ?_
      | refine W_ret ?_
      | refine W_exit ?_
      | refine W_block ?_
    )
    | refine seqK_n ?_
    | refine seqK_r ?_
    | refine seqK_x ?_
    | refine blockK_r ?_
    | refine blockK_n ?_
    | refine blockK_e ?_
    | refine invK_x ?_
    | refine invK_r ?_
    | refine invK_n ?_
    | (refine fnK_r rfl ?_; try dsimp only [gd_z, gd_s]))
  all_goals simp only [Int.toNat_natCast, cellE_dflt, show ((k : Int) + 1).toNat = k + 1 by omega] at *
  · refine ⟨_, ?_, _, ⟨k + 1, rfl, rfl, ?_, by trivial, ?_⟩, EnvB.of rfl⟩
    · omega
    · omega
    · rw [hw, wholeB_0 (by omega) hc]
  · refine ⟨_, ?_, _, ⟨k + 2, rfl, rfl, ?_, by trivial, ?_⟩, EnvB.of rfl⟩
    · rename_i hc2 _ _ _ _
      omega
    · omega
    · rename_i h1 _ _ _ _
      rw [hw, wholeB_1 (by omega) h1, hc]; rfl
  · rename_i h1 _ _ _ _
    refine ⟨_, rfl, ?_, by trivial⟩
    rw [hw, wholeB_1 (by omega) h1, beq_eq_false_iff_ne.2 hc]; rfl
  · rename_i h1 _
    exact ⟨_, rfl, by rw [hw, wholeB_f (by omega) (by first | assumption | omega) (.inr (by omega))], by trivial⟩
  · exact ⟨_, rfl, by rw [hw, wholeB_f (by omega) (by first | assumption | omega) (.inl (by first | assumption | omega))], by trivial⟩
  · refine ⟨_, rfl, ?_, by trivial⟩
    rw [hw, List.drop_of_length_le (by omega)]; rfl

end Go.Proofs.YtkkkigkfklngdaaDoor
