/- Rows: what the functions of the package row do, each once. -/
import Derived.Test.YtfmldkjidfigbaaDoorJxC25
import Derived.Test.YtfmldkjidfigbaaDoorJxW8
set_option linter.unusedSimpArgs false
set_option linter.unusedVariables false
set_option maxHeartbeats 1000000
set_option maxRecDepth 100000
namespace Go.Proofs.YtfmldkjidfigbaaDoor
open Go Go.Jx

def fillL {α : Type} (L : List α) (o n : Nat) (x : α) : List α := L.take o ++ List.replicate n x ++ L.drop (o + n)
theorem fillL_length {α : Type} {L : List α} {o n : Nat} {x : α} (h : o + n ≤ L.length) : (fillL L o n x).length = L.length := by
  unfold fillL
  simp only [List.length_append, List.length_take, List.length_replicate, List.length_drop]
  omega
theorem fillL_zero {α : Type} (L : List α) (o : Nat) (x : α) : fillL L o 0 x = L := by simp [fillL]
theorem fillL_succ {α : Type} {L : List α} {o k : Nat} {x : α} (h : o + k < L.length) : (fillL L o k x).set (o + k) x = fillL L o (k + 1) x := by
  apply List.ext_getElem?
  intro i
  unfold fillL
  rw [List.getElem?_set]
  simp only [List.getElem?_append, List.getElem?_take, List.length_append, List.length_take, List.length_replicate, List.getElem?_drop, List.getElem?_replicate, List.length_drop]
  grind


theorem w40 (a : Attr) (h : Heap) : W DD (.call 40 [.agg (attrE.enc a)] h) (fun _ vs h' => ∃ v, vs = [v] ∧ (v = .agg (cellE.enc (blankC a)) ∧ Sep (Now h) [] h')) := by
  have hs := Sep.entry h
  refine W_enter d40 ?_
  show W _ (.code m40_code [.agg (attrE.enc a), undefA, undefA, undefA, undefA] _) _
  unfold m40_code
  repeat' (first
    | (refine K_ops ?_; first
      | refine W_nil ?_
      | (refine K_load ?_; first
        | (refine W_loadCA hs 1 rfl rfl rfl ?_; refine W_norm rfl ?_)
      )
      | (refine K_store ?_; first
        | (refine W_storeC hs 0 rfl rfl rfl rfl (by first | decide | assumption) rfl rfl ?_; clear hs; intro _ hs; try simp only [cell_back, attr_back, List.set_cons_zero, List.set_cons_succ, List.eraseIdx_cons_succ, List.eraseIdx_zero, List.tail_cons, List.nil_append, List.cons_append] at hs; refine W_norm rfl ?_)
      )
      | (refine W_allocS hs ?_; clear hs; intro al _ hs; try simp only [cell_back, attr_back, List.set_cons_zero, List.set_cons_succ, List.eraseIdx_cons_succ, List.eraseIdx_zero, List.tail_cons, List.nil_append, List.cons_append] at hs; refine W_norm rfl ?_)
      | (refine W_boxS hs rfl rfl ?_; clear hs; intro bx _ hs; try simp only [cell_back, attr_back, List.set_cons_zero, List.set_cons_succ, List.eraseIdx_cons_succ, List.eraseIdx_zero, List.tail_cons, List.nil_append, List.cons_append] at hs; refine W_norm rfl ?_)
      | (refine W_buildN rfl ?_; refine W_norm rfl ?_)
    )
    | (refine K_code ?_; first
      | refine W_seq ?_
      | refine W_ops ?_
      | refine W_ret ?_
    )
    | refine seqK_n ?_
    | (refine fnK_cellS hs 0 rfl rfl rfl rfl ?_))
  exact ⟨_, rfl, rfl, hs.none⟩



theorem w34 {R : Ro} {M : List Hp} {h : Heap} {id o n : Nat} {L : List Cell} {kd : Kind} {v : SV} (a : Attr) (hs : Sep R ([(id, .cells 34 kd (L.flatMap cellE.enc))] :: M) h) (hv : VwO 7 id o n v) (ho : o + n ≤ L.length) (hl : L.length ≤ 100000) (hkd : kd ≠ .ro) :
    W DD (.call 34 [.sc v, .agg (attrE.enc a)] h) (fun _ vs h' => ∃ v, vs = [v] ∧ (v = .tup [] ∧ Sep R ([(id, .cells 34 kd ((fillL L o n (blankC a)).flatMap cellE.enc))] :: M) h')) := by
  refine W_enter d34 ?_
  show W _ (.code m34_code [.sc v, .agg (attrE.enc a), undefA, undefA, undefA, undefA, undefA, undefA, undefA, undefA, undefA, undefA, undefA, undefA, undefA, undefA] _) _
  unfold m34_code
  repeat' (first
    | (refine K_ops ?_; first
      | refine W_fastB rfl ?_
      | refine W_nil ?_
      | (refine W_lenL rfl (by first | assumption | exact SlR.ln (by assumption) | exact AccS.ln (by assumption) | exact OwnS.ln (by assumption) | exact VwO.ln (by assumption) | exact OwnP.ln (by assumption) | exact Len.sl) ?_; refine W_norm rfl ?_)
      | (refine W_boxS hs rfl rfl ?_; clear hs; intro bx _ hs; try simp only [cell_back, attr_back, List.set_cons_zero, List.set_cons_succ, List.eraseIdx_cons_succ, List.eraseIdx_zero, List.tail_cons, List.nil_append, List.cons_append] at hs; refine W_norm rfl ?_)
    )
    | (refine K_code ?_; first
      | refine W_seq ?_
      | refine W_ops ?_
      | refine W_block ?_
    )
    | refine seqK_n ?_)
  rename_i h1
  refine W_loopB [4, 7, 8, 9, 10, 11, 12, 13, 14, 15] [0, 1, 2, 3, 4, 5, 6, 7, 8, 9, 10, 11, 12, 13, 14, 15] (fun n' sl h' => ∃ (k : Nat), sl = [(7, .sc (.int .i64 (k : Int)))] ∧ n' = n - k ∧ k ≤ n ∧ Sep R ([(bx, .cells 32 .own (attrE.enc a))] :: [(id, .cells 34 kd ((fillL L o k (blankC a)).flatMap cellE.enc))] :: M) h') ?_ ?_
  · refine ⟨_, _, ⟨0, rfl, rfl, Nat.zero_le _, ?_⟩, EnvB.of rfl⟩
    rw [fillL_zero]; exact hs
  rintro _ _ us _ h2 ⟨k, rfl, rfl, hk, hs⟩ he
  refine W_spell he rfl ?_
  clear he
  unfold m34_l2
  have hlen := fillL_length (L := L) (o := o) (n := k) (x := blankC a) (by omega)
  by_cases hlt : k < n
  · repeat' (first
      | (refine K_ops ?_; first
        | refine W_fastB rfl ?_
        | refine W_nil ?_
        | (refine K_call ?_; first
          | (refine W_callsN 40 rfl (w40 a _) rfl ?_; rintro _ h3 ⟨rfl, t⟩; replace hs := hs.call t; refine W_norm rfl ?_)
        )
        | (refine K_bin ?_; first
          | (refine W_add rfl rfl (IntWalk.i64_in _ (by first | omega | (simp only [List.length_set, List.length_append, List.length_take, List.length_drop, List.length_replicate, List.length_cons, List.length_nil, decs_length, List.length_map]; omega))) ?_; refine W_norm rfl ?_)
        )
        | (refine K_index ?_; first
          | (refine W_indexVw rfl rfl (by assumption) ⟨(by first | omega | (simp only [List.length_set, List.length_append, List.length_take, List.length_drop, List.length_replicate, List.length_cons, List.length_nil, decs_length, List.length_map]; omega)), (by first | omega | (simp only [List.length_set, List.length_append, List.length_take, List.length_drop, List.length_replicate, List.length_cons, List.length_nil, decs_length, List.length_map]; omega))⟩ ?_; refine W_norm rfl ?_)
        )
        | (refine K_load ?_; first
          | (refine W_loadCA hs 0 rfl rfl rfl ?_; refine W_norm rfl ?_)
        )
        | (refine K_store ?_; first
          | (refine W_storeO hs 1 rfl rfl rfl rfl rfl (by first | omega | (simp only [List.length_set, List.length_append, List.length_take, List.length_drop, List.length_replicate, List.length_cons, List.length_nil, decs_length, List.length_map]; omega)) (by first | decide | assumption) rfl ?_; clear hs; intro _ hs; try simp only [cell_back, attr_back, List.set_cons_zero, List.set_cons_succ, List.eraseIdx_cons_succ, List.eraseIdx_zero, List.tail_cons, List.nil_append, List.cons_append] at hs; refine W_norm rfl ?_)
        )
      )
      | (refine K_code ?_; first
        | refine W_seq ?_
        | refine W_ops ?_
        | (refine W_cond rfl (fun hc => ?_) (fun hc => ?_) <;> (try rw [hc]) <;> (try simp only [decide_eq_true_eq, decide_eq_false_iff_not, beq_iff_eq, beq_eq_false_iff_ne, bne_iff_ne, bne_eq_false_iff_eq, Bool.not_eq_true', Bool.not_eq_false', Int.not_lt, Int.not_le, ne_eq, reduceCtorEq, not_true_eq_false, not_false_eq_true, Decidable.not_not] at hc) <;> (try (exfalso; omega)) <;> (try refine W_norm rfl ?_))
        | refine W_skip ?_
        | refine W_block ?_
      )
      | refine seqK_n ?_
      | refine blockK_n ?_
      | refine invK_n ?_)
    refine ⟨_, ?_, _, ⟨k + 1, rfl, rfl, ?_, ?_⟩, EnvB.of rfl⟩
    · omega
    · omega
    · rw [← fillL_succ (by omega)]; exact hs
  · repeat' (first
      | (refine K_ops ?_; first
        | refine W_fastB rfl ?_
        | refine W_nil ?_
      )
      | (refine K_code ?_; first
        | refine W_seq ?_
        | refine W_ops ?_
        | (refine W_cond rfl (fun hc => ?_) (fun hc => ?_) <;> (try rw [hc]) <;> (try simp only [decide_eq_true_eq, decide_eq_false_iff_not, beq_iff_eq, beq_eq_false_iff_ne, bne_iff_ne, bne_eq_false_iff_eq, Bool.not_eq_true', Bool.not_eq_false', Int.not_lt, Int.not_le, ne_eq, reduceCtorEq, not_true_eq_false, not_false_eq_true, Decidable.not_not] at hc) <;> (try (exfalso; omega)) <;> (try refine W_norm rfl ?_))
        | refine W_exit ?_
      )
      | refine seqK_n ?_
      | refine seqK_x ?_
      | refine blockK_e ?_
      | refine invK_x ?_
      | (refine fnK_n rfl ?_; try dsimp only [gd_z, gd_s]))
    obtain rfl : k = n := by omega
    exact ⟨_, rfl, rfl, hs.drop 0⟩



theorem w17 (n : Int) (a : Attr) (h : Heap) : Wc DD 17 [i64 n, .agg (attrE.enc a)] h fun v h' => ∃ u c, v = .sc u ∧ AccS cellE 34 u (if 1 ≤ n ∧ n ≤ 400 then List.replicate n.toNat (blankC a) else []) c ∧ Sep (Now h) [c] h' := by
  have hs := Sep.entry h
  refine W_enter d17 ?_
  show W _ (.code m17_code [i64 n, .agg (attrE.enc a), undefA, undefA, undefA, undefA, undefA, undefA, undefA, undefA, undefA, undefA, undefA, undefA, undefA, undefA, undefA, undefA] _) _
  unfold m17_code
  repeat' (first
    | (refine K_ops ?_; first
      | refine W_fastB rfl ?_
      | refine W_nil ?_
      | (refine K_guard ?_; first
        | refine W_guard_on rfl ?_
        | refine W_guard_off rfl rfl (W_norm rfl ?_)
        | (refine W_guardF rfl (fun hc => ?_) (fun hc => ?_) <;> (try rw [hc]) <;> (try simp only [decide_eq_true_eq, decide_eq_false_iff_not, beq_iff_eq, beq_eq_false_iff_ne, bne_iff_ne, bne_eq_false_iff_eq, Bool.not_eq_true', Bool.not_eq_false', Int.not_lt, Int.not_le, ne_eq, reduceCtorEq, not_true_eq_false, not_false_eq_true, Decidable.not_not] at hc) <;> (try (exfalso; omega)) <;> (try refine W_norm rfl ?_))
      )
      | (refine K_call ?_; first
        | (refine W_callsN 34 rfl (w34 a hs VwO.whole (by simp) (by simp; omega) (by decide)) rfl ?_; rintro _ h3 ⟨rfl, hs⟩; refine W_norm rfl ?_)
      )
      | (refine K_pick ?_; first
        | refine W_pick_t rfl rfl (W_norm rfl ?_)
        | refine W_pick_f rfl rfl (W_norm rfl ?_)
      )
      | (refine K_load ?_; first
        | (refine W_loadCA hs 1 rfl rfl rfl ?_; refine W_norm rfl ?_)
      )
      | (refine W_boxS hs rfl rfl ?_; clear hs; intro bx _ hs; try simp only [cell_back, attr_back, List.set_cons_zero, List.set_cons_succ, List.eraseIdx_cons_succ, List.eraseIdx_zero, List.tail_cons, List.nil_append, List.cons_append] at hs; refine W_norm rfl ?_)
      | (refine K_make ?_; first
        | (refine W_makeS cellE hs rfl rfl (by first | omega | (simp only [List.length_set, List.length_append, List.length_take, List.length_drop, List.length_replicate, List.length_cons, List.length_nil, decs_length, List.length_map]; omega)) ⟨(by first | omega | (simp only [List.length_set, List.length_append, List.length_take, List.length_drop, List.length_replicate, List.length_cons, List.length_nil, decs_length, List.length_map]; omega)), (by first | omega | (simp only [List.length_set, List.length_append, List.length_take, List.length_drop, List.length_replicate, List.length_cons, List.length_nil, decs_length, List.length_map]; omega))⟩ rfl ?_; clear hs; intro _ _ hs; try simp only [cell_back, attr_back, List.set_cons_zero, List.set_cons_succ, List.eraseIdx_cons_succ, List.eraseIdx_zero, List.tail_cons, List.nil_append, List.cons_append] at hs; refine W_norm rfl ?_)
      )
    )
    | (refine K_code ?_; first
      | refine W_seq ?_
      | refine W_ops ?_
      | refine W_cond_t rfl ?_
      | (refine W_cond rfl (fun hc => ?_) (fun hc => ?_) <;> (try rw [hc]) <;> (try simp only [decide_eq_true_eq, decide_eq_false_iff_not, beq_iff_eq, beq_eq_false_iff_ne, bne_iff_ne, bne_eq_false_iff_eq, Bool.not_eq_true', Bool.not_eq_false', Int.not_lt, Int.not_le, ne_eq, reduceCtorEq, not_true_eq_false, not_false_eq_true, Decidable.not_not] at hc) <;> (try (exfalso; omega)) <;> (try refine W_norm rfl ?_))
      | refine W_skip ?_
      | refine W_ret ?_
    )
    | refine seqK_n ?_
    | refine seqK_r ?_
    | (refine fnK_r rfl ?_; try dsimp only [gd_z, gd_s]))
  · exact ⟨_, rfl, _, [], rfl, by rw [if_neg (by omega)]; exact AccS.nil _, hs.none.nil⟩
  · refine ⟨_, rfl, _, _, rfl, ?_, hs.drop 1⟩
    rw [if_pos (by omega)]
    have e : fillL (List.replicate n.toNat (cellE.dec [.int .i32 0, .int .u8 0, .int .u16 0, .int .u8 0, .int .u32 0, .int .u8 0, .int .u32 0])) 0 n.toNat (blankC a) = List.replicate n.toNat (blankC a) := by
      unfold fillL; simp
    rw [e]
    exact AccS.one (by decide) (by simp)
  · exact ⟨_, rfl, _, [], rfl, by rw [if_neg (by omega)]; exact AccS.nil _, hs.none.nil⟩



theorem w21 {v : SV} {L : List Cell} {h : Heap} (hv : SlR cellE (Now h) v L) (hl : L.length ≤ 100000) : Wc DD 21 [.sc v] h fun w h' => ∃ u c, w = .sc u ∧ AccS cellE 34 u L c ∧ Sep (Now h) [c] h' := by
  have hs := Sep.entry h
  have hv' := hv
  rcases hv' with ⟨rfl, rfl | ⟨b, rfl⟩⟩ | ⟨id, off, cap, t, kd, cs, rfl, h2, h3, h4⟩
  · refine W_enter d21 ?_
    show W _ (.code m21_code [.sc .nils, undefA, undefA, undefA, undefA, undefA, undefA, undefA] _) _
    unfold m21_code
    repeat' (first
      | (refine K_ops ?_; first
        | refine W_fastB rfl ?_
        | refine W_nil ?_
        | (refine K_bin ?_; first
          | (refine W_nilSl_t rfl rfl rfl ?_; refine W_norm rfl ?_)
        )
      )
      | (refine K_code ?_; first
        | refine W_seq ?_
        | refine W_ops ?_
        | refine W_cond_t rfl ?_
        | refine W_ret ?_
      )
      | refine seqK_n ?_
      | refine seqK_r ?_
      | (refine fnK_r rfl ?_; try dsimp only [gd_z, gd_s]))
    exact ⟨_, rfl, _, _, rfl, AccS.nil _, hs.nil⟩
  · refine W_enter d21 ?_
    show W _ (.code m21_code [.sc (.eslice b), undefA, undefA, undefA, undefA, undefA, undefA, undefA] _) _
    unfold m21_code
    repeat' (first
      | (refine K_ops ?_; first
        | refine W_fastB rfl ?_
        | refine W_nil ?_
        | (refine K_bin ?_; first
          | (refine W_nilSl_e rfl rfl rfl ?_; refine W_norm rfl ?_)
        )
        | (refine K_bslice ?_; first
          | (refine W_buildS0 cellE hs ?_; clear hs; intro _ _ _ _ hs; try simp only [cell_back, attr_back, List.set_cons_zero, List.set_cons_succ, List.eraseIdx_cons_succ, List.eraseIdx_zero, List.tail_cons, List.nil_append, List.cons_append] at hs; refine W_norm rfl ?_)
        )
        | (refine K_append ?_; first
          | (refine W_appS hs 0 rfl rfl (by assumption) rfl (by first | assumption | exact SlR.now hs (by assumption) | exact AccS.now (by assumption) hs (by simp) | exact OwnS.now (by assumption) hs (by simp)) rfl ⟨by decide, (by first | omega | (simp only [List.length_set, List.length_append, List.length_take, List.length_drop, List.length_replicate, List.length_cons, List.length_nil, decs_length, List.length_map]; omega))⟩ ?_; clear hs; intro _ _ _ _ hs; try simp only [cell_back, attr_back, List.set_cons_zero, List.set_cons_succ, List.eraseIdx_cons_succ, List.eraseIdx_zero, List.tail_cons, List.nil_append, List.cons_append] at hs; refine W_norm rfl ?_)
        )
      )
      | (refine K_code ?_; first
        | refine W_seq ?_
        | refine W_ops ?_
        | refine W_cond_f rfl ?_
        | refine W_skip ?_
        | refine W_ret ?_
      )
      | refine seqK_n ?_
      | (refine fnK_r rfl ?_; try dsimp only [gd_z, gd_s]))
    rename_i ha
    exact ⟨_, rfl, _, _, rfl, ha, hs⟩
  · refine W_enter d21 ?_
    show W _ (.code m21_code [.sc (.slice id off L.length cap), undefA, undefA, undefA, undefA, undefA, undefA, undefA] _) _
    unfold m21_code
    repeat' (first
      | (refine K_ops ?_; first
        | refine W_fastB rfl ?_
        | refine W_nil ?_
        | (refine K_bin ?_; first
          | (refine W_nilSl_f rfl rfl rfl ?_; refine W_norm rfl ?_)
        )
        | (refine K_bslice ?_; first
          | (refine W_buildS0 cellE hs ?_; clear hs; intro _ _ _ _ hs; try simp only [cell_back, attr_back, List.set_cons_zero, List.set_cons_succ, List.eraseIdx_cons_succ, List.eraseIdx_zero, List.tail_cons, List.nil_append, List.cons_append] at hs; refine W_norm rfl ?_)
        )
        | (refine K_append ?_; first
          | (refine W_appS hs 0 rfl rfl (by assumption) rfl (by first | assumption | exact SlR.now hs (by assumption) | exact AccS.now (by assumption) hs (by simp) | exact OwnS.now (by assumption) hs (by simp)) rfl ⟨by decide, (by first | omega | (simp only [List.length_set, List.length_append, List.length_take, List.length_drop, List.length_replicate, List.length_cons, List.length_nil, decs_length, List.length_map]; omega))⟩ ?_; clear hs; intro _ _ _ _ hs; try simp only [cell_back, attr_back, List.set_cons_zero, List.set_cons_succ, List.eraseIdx_cons_succ, List.eraseIdx_zero, List.tail_cons, List.nil_append, List.cons_append] at hs; refine W_norm rfl ?_)
        )
      )
      | (refine K_code ?_; first
        | refine W_seq ?_
        | refine W_ops ?_
        | refine W_cond_f rfl ?_
        | refine W_skip ?_
        | refine W_ret ?_
      )
      | refine seqK_n ?_
      | (refine fnK_r rfl ?_; try dsimp only [gd_z, gd_s]))
    rename_i ha
    exact ⟨_, rfl, _, _, rfl, ha, hs⟩



theorem w50 {v : SV} {n : Nat} {x : Int} {h : Heap} (hv : Len v n) : Wc DD 50 [.sc v, i64 x] h fun w h' => w = bo (decide (0 ≤ x ∧ x < n)) ∧ h' = h := by
  refine W_enter d50 ?_
  show W _ (.code m50_code [.sc v, i64 x, undefA, undefA, undefA, undefA, undefA, undefA, undefA, undefA, undefA, undefA, undefA] _) _
  unfold m50_code
  have hs := Sep.entry h
  repeat' (first
    | (refine K_ops ?_; first
      | refine W_fastB rfl ?_
      | refine W_nil ?_
      | (refine K_guard ?_; first
        | refine W_guard_on rfl ?_
        | refine W_guard_off rfl rfl (W_norm rfl ?_)
        | (refine W_guardT rfl (fun hc => ?_) (fun hc => ?_) <;> (try rw [hc]) <;> (try simp only [decide_eq_true_eq, decide_eq_false_iff_not, beq_iff_eq, beq_eq_false_iff_ne, bne_iff_ne, bne_eq_false_iff_eq, Bool.not_eq_true', Bool.not_eq_false', Int.not_lt, Int.not_le, ne_eq, reduceCtorEq, not_true_eq_false, not_false_eq_true, Decidable.not_not] at hc) <;> (try (exfalso; omega)) <;> (try refine W_norm rfl ?_))
      )
      | (refine W_lenL rfl (by first | assumption | exact SlR.ln (by assumption) | exact AccS.ln (by assumption) | exact OwnS.ln (by assumption) | exact VwO.ln (by assumption) | exact OwnP.ln (by assumption) | exact Len.sl) ?_; refine W_norm rfl ?_)
      | (refine K_pick ?_; first
        | refine W_pick_t rfl rfl (W_norm rfl ?_)
        | refine W_pick_f rfl rfl (W_norm rfl ?_)
      )
    )
    | (refine K_code ?_; first
      | refine W_seq ?_
      | refine W_ops ?_
      | refine W_ret ?_
    )
    | refine seqK_n ?_
    | (refine fnK_r rfl ?_; try dsimp only [gd_z, gd_s]))
  all_goals exact ⟨_, rfl, by congr 2; simp; omega, rfl⟩



def roomL (len : Nat) (x n : Int) : Int := if 0 ≤ x ∧ x < len ∧ 1 ≤ n then min n (len - x) else 0
theorem w46 {v : SV} {m : Nat} {x n : Int} {h : Heap} (hv : Len v m) (hm : m ≤ 100000) : Wc DD 46 [.sc v, i64 x, i64 n] h fun w h' => w = i64 (roomL m x n) ∧ h' = h := by
  refine W_enter d46 ?_
  show W _ (.code m46_code [.sc v, i64 x, i64 n, undefA, undefA, undefA, undefA, undefA, undefA, undefA, undefA, undefA, undefA, undefA, undefA, undefA, undefA, undefA, undefA, undefA, undefA] _) _
  unfold m46_code
  have hs := Sep.entry h
  repeat' (first
    | (refine K_ops ?_; first
      | refine W_fastB rfl ?_
      | refine W_nil ?_
      | (refine K_guard ?_; first
        | refine W_guard_on rfl ?_
        | refine W_guard_off rfl rfl (W_norm rfl ?_)
        | (refine W_guardF rfl (fun hc => ?_) (fun hc => ?_) <;> (try rw [hc]) <;> (try simp only [decide_eq_true_eq, decide_eq_false_iff_not, beq_iff_eq, beq_eq_false_iff_ne, bne_iff_ne, bne_eq_false_iff_eq, Bool.not_eq_true', Bool.not_eq_false', Int.not_lt, Int.not_le, ne_eq, reduceCtorEq, not_true_eq_false, not_false_eq_true, Decidable.not_not] at hc) <;> (try (exfalso; omega)) <;> (try refine W_norm rfl ?_))
      )
      | (refine K_call ?_; first
        | (refine W_callsN 50 rfl (w50 hv) rfl ?_; rintro _ _ ⟨rfl, rfl⟩; refine W_norm rfl ?_)
      )
      | (refine W_lenL rfl (by first | assumption | exact SlR.ln (by assumption) | exact AccS.ln (by assumption) | exact OwnS.ln (by assumption) | exact VwO.ln (by assumption) | exact OwnP.ln (by assumption) | exact Len.sl) ?_; refine W_norm rfl ?_)
      | (refine K_bin ?_; first
        | (refine W_sub rfl rfl (IntWalk.i64_in _ (by first | omega | (simp only [List.length_set, List.length_append, List.length_take, List.length_drop, List.length_replicate, List.length_cons, List.length_nil, decs_length, List.length_map]; omega))) ?_; refine W_norm rfl ?_)
      )
      | (refine K_pick ?_; first
        | refine W_pick_t rfl rfl (W_norm rfl ?_)
        | refine W_pick_f rfl rfl (W_norm rfl ?_)
      )
      | (refine W_min2 rfl rfl ?_; refine W_norm rfl ?_)
    )
    | (refine K_code ?_; first
      | refine W_seq ?_
      | refine W_ops ?_
      | refine W_cond_t rfl ?_
      | (refine W_cond rfl (fun hc => ?_) (fun hc => ?_) <;> (try rw [hc]) <;> (try simp only [decide_eq_true_eq, decide_eq_false_iff_not, beq_iff_eq, beq_eq_false_iff_ne, bne_iff_ne, bne_eq_false_iff_eq, Bool.not_eq_true', Bool.not_eq_false', Int.not_lt, Int.not_le, ne_eq, reduceCtorEq, not_true_eq_false, not_false_eq_true, Decidable.not_not] at hc) <;> (try (exfalso; omega)) <;> (try refine W_norm rfl ?_))
      | refine W_skip ?_
      | refine W_ret ?_
    )
    | refine seqK_n ?_
    | refine seqK_r ?_
    | (refine fnK_r rfl ?_; try dsimp only [gd_z, gd_s]))
  · exact ⟨_, rfl, by unfold roomL; rw [if_neg (by omega)], rfl⟩
  · exact ⟨_, rfl, by unfold roomL; rw [if_pos (by omega)], rfl⟩
  · exact ⟨_, rfl, by unfold roomL; rw [if_neg (by omega)], rfl⟩


/-- Parted at a column. -/
def partL (L : List Cell) (x : Int) : List Cell :=
  if 0 < x ∧ x < L.length ∧ (L.getD x.toNat cell0).w = 2 then (L.set ((x - 1).toNat) (blankC (L.getD (x - 1).toNat cell0).a)).set x.toNat (blankC (L.getD x.toNat cell0).a) else L
theorem partL_length (L : List Cell) (x : Int) : (partL L x).length = L.length := by
  unfold partL
  split <;> simp


theorem w47 {R : Ro} {M : List Hp} {h : Heap} {L : List Cell} {v : SV} {c : Hp} {x : Int} (hs : Sep R (c :: M) h) (hv : AccS cellE 34 v L c) (hl : L.length ≤ 100000) :
    Wc DD 47 [.sc v, i64 x] h fun w h' => w = .tup [] ∧ ∃ c', AccS cellE 34 v (partL L x) c' ∧ Sep R (c' :: M) h' := by
  have hln : Len v L.length := hv.ln
  by_cases hp : 0 < x ∧ x < L.length
  · obtain ⟨id, kd, rfl, rfl, hk⟩ := hv.1.pos (by omega)
    refine W_enter d47 ?_
    show W _ (.code m47_code [.sc (.slice id 0 L.length L.length), i64 x, undefA, undefA, undefA, undefA, undefA, undefA, undefA, undefA, undefA, undefA, undefA, undefA, undefA, undefA, undefA, undefA, undefA, undefA, undefA, undefA, undefA, undefA, undefA, undefA, undefA, undefA, undefA, undefA, undefA, undefA, undefA, undefA, undefA, undefA, undefA, undefA, undefA, undefA] _) _
    unfold m47_code
    repeat' (first
      | (refine K_ops ?_; first
        | refine W_fastB rfl ?_
        | refine W_nil ?_
        | (refine K_guard ?_; first
          | refine W_guard_on rfl ?_
          | (refine W_guardT rfl (fun hc => ?_) (fun hc => ?_) <;> (try rw [hc]) <;> (try simp only [decide_eq_true_eq, decide_eq_false_iff_not, beq_iff_eq, beq_eq_false_iff_ne, bne_iff_ne, bne_eq_false_iff_eq, Bool.not_eq_true', Bool.not_eq_false', Int.not_lt, Int.not_le, ne_eq, reduceCtorEq, not_true_eq_false, not_false_eq_true, Decidable.not_not] at hc) <;> (try (exfalso; omega)) <;> (try refine W_norm rfl ?_))
        )
        | (refine W_lenL rfl (by first | assumption | exact SlR.ln (by assumption) | exact AccS.ln (by assumption) | exact OwnS.ln (by assumption) | exact VwO.ln (by assumption) | exact OwnP.ln (by assumption) | exact Len.sl) ?_; refine W_norm rfl ?_)
        | (refine K_pick ?_; first
          | refine W_pick_t rfl rfl (W_norm rfl ?_)
        )
        | (refine K_index ?_; first
          | (refine W_indexO rfl rfl ⟨(by first | omega | (simp only [List.length_set, List.length_append, List.length_take, List.length_drop, List.length_replicate, List.length_cons, List.length_nil, decs_length, List.length_map]; omega)), (by first | omega | (simp only [List.length_set, List.length_append, List.length_take, List.length_drop, List.length_replicate, List.length_cons, List.length_nil, decs_length, List.length_map]; omega))⟩ ?_; refine W_norm rfl ?_)
        )
        | (refine K_load ?_; first
          | (refine W_loadOF hs 0 rfl rfl rfl (by first | omega | (simp only [List.length_set, List.length_append, List.length_take, List.length_drop, List.length_replicate, List.length_cons, List.length_nil, decs_length, List.length_map]; omega)) rfl ?_; refine W_norm rfl ?_)
        )
      )
      | (refine K_code ?_; first
        | refine W_seq ?_
        | refine W_ops ?_
        | (refine W_cond rfl (fun hc => ?_) (fun hc => ?_) <;> (try rw [hc]) <;> (try simp only [decide_eq_true_eq, decide_eq_false_iff_not, beq_iff_eq, beq_eq_false_iff_ne, bne_iff_ne, bne_eq_false_iff_eq, Bool.not_eq_true', Bool.not_eq_false', Int.not_lt, Int.not_le, ne_eq, reduceCtorEq, not_true_eq_false, not_false_eq_true, Decidable.not_not] at hc) <;> (try (exfalso; omega)) <;> (try refine W_norm rfl ?_))
        | refine W_skip ?_
      )
      | refine seqK_n ?_
      | (refine fnK_n rfl ?_; try dsimp only [gd_z, gd_s]))
    repeat' (first
      | (refine K_ops ?_; first
        | refine W_fastB rfl ?_
        | refine W_nil ?_
        | (refine K_call ?_; first
          | (refine W_callsN 40 rfl (w40 (L.getD (x - 1).toNat cell0).a _) rfl ?_; rintro _ h3 ⟨rfl, t⟩; have hs := hs.call t; refine W_norm rfl ?_)
          | (refine W_callsN 40 rfl (w40 (L.getD x.toNat cell0).a _) rfl ?_; rintro _ h3 ⟨rfl, t⟩; have hs := hs.call t; refine W_norm rfl ?_)
        )
        | (refine K_bin ?_; first
          | (refine W_sub rfl rfl (IntWalk.i64_in _ (by first | omega | (simp only [List.length_set, List.length_append, List.length_take, List.length_drop, List.length_replicate, List.length_cons, List.length_nil, decs_length, List.length_map]; omega))) ?_; refine W_norm rfl ?_)
        )
        | (refine K_index ?_; first
          | (refine W_indexO rfl rfl ⟨(by first | omega | (simp only [List.length_set, List.length_append, List.length_take, List.length_drop, List.length_replicate, List.length_cons, List.length_nil, decs_length, List.length_map]; omega)), (by first | omega | (simp only [List.length_set, List.length_append, List.length_take, List.length_drop, List.length_replicate, List.length_cons, List.length_nil, decs_length, List.length_map]; omega))⟩ ?_; refine W_norm rfl ?_)
        )
        | (refine K_load ?_; first
          | (refine W_loadOP hs 0 rfl rfl rfl (by first | omega | (simp only [List.length_set, List.length_append, List.length_take, List.length_drop, List.length_replicate, List.length_cons, List.length_nil, decs_length, List.length_map]; omega)) rfl ?_; refine W_norm rfl ?_)
        )
        | (refine K_store ?_; first
          | (refine W_storeO hs 0 rfl rfl rfl rfl rfl (by first | omega | (simp only [List.length_set, List.length_append, List.length_take, List.length_drop, List.length_replicate, List.length_cons, List.length_nil, decs_length, List.length_map]; omega)) (by first | decide | assumption) rfl ?_; intro _ hs; try simp only [cell_back, attr_back, List.set_cons_zero, List.set_cons_succ, List.eraseIdx_cons_succ, List.eraseIdx_zero, List.tail_cons, List.nil_append, List.cons_append] at hs; refine W_norm rfl ?_)
        )
      )
      | (refine K_code ?_; first
        | refine W_draws ?_
      )
      | refine W_dstep rfl ?_
      | refine ⟨rfl, fun rc hrec => ?_⟩
      | (refine W_dnilS (by simp only [List.reverse_cons, List.reverse_nil, List.nil_append, List.cons_append]; rfl) (by repeat' first | exact CL_nil _ _ | refine CL_skip rfl ?_ | refine CL_load (by assumption) rfl (by first | exact trivial | (repeat' first | exact trivial | refine ⟨⟨_, rfl, (by refine (congrArg (fun x => Heap.get x _) (RecIs.hh (by assumption))).trans ?_; first | rfl | exact PtR.same_get (by assumption) (by assumption) (by assumption) | exact Sep.same_get (by assumption) (by assumption) 0 0 rfl rfl | exact Sep.same_get (by assumption) (by assumption) 0 1 rfl rfl | exact Sep.same_get (by assumption) (by assumption) 0 2 rfl rfl | exact Sep.same_get (by assumption) (by assumption) 1 0 rfl rfl | exact Sep.same_get (by assumption) (by assumption) 1 1 rfl rfl | exact Sep.same_get (by assumption) (by assumption) 1 2 rfl rfl | exact Sep.same_get (by assumption) (by assumption) 2 0 rfl rfl | exact Sep.same_get (by assumption) (by assumption) 2 1 rfl rfl | exact Sep.same_get (by assumption) (by assumption) 2 2 rfl rfl)⟩, ?_⟩)) (by first | exact trivial | (repeat' first | exact trivial | refine ⟨⟨_, rfl, (by refine (congrArg (fun x => Heap.get x _) (RecIs.hh' (by assumption))).trans ?_; first | rfl | exact PtR.same_get (by assumption) (by assumption) (by assumption) | exact Sep.same_get (by assumption) (by assumption) 0 0 rfl rfl | exact Sep.same_get (by assumption) (by assumption) 0 1 rfl rfl | exact Sep.same_get (by assumption) (by assumption) 0 2 rfl rfl | exact Sep.same_get (by assumption) (by assumption) 1 0 rfl rfl | exact Sep.same_get (by assumption) (by assumption) 1 1 rfl rfl | exact Sep.same_get (by assumption) (by assumption) 1 2 rfl rfl | exact Sep.same_get (by assumption) (by assumption) 2 0 rfl rfl | exact Sep.same_get (by assumption) (by assumption) 2 1 rfl rfl | exact Sep.same_get (by assumption) (by assumption) 2 2 rfl rfl)⟩, ?_⟩)) ?_) ?_)
      | (refine fnK_n rfl ?_; try dsimp only [gd_z, gd_s]))
    · refine ⟨_, rfl, rfl, _, ?_, hs⟩
      unfold partL
      rw [if_pos ⟨hp.1, hp.2, hc⟩]
      exact AccS.again hk (by simp)
    · refine ⟨_, rfl, rfl, _, ?_, hs⟩
      unfold partL
      rw [if_neg (fun hh => hc hh.2.2)]
      exact hv
  · refine W_enter d47 ?_
    show W _ (.code m47_code [.sc v, i64 x, undefA, undefA, undefA, undefA, undefA, undefA, undefA, undefA, undefA, undefA, undefA, undefA, undefA, undefA, undefA, undefA, undefA, undefA, undefA, undefA, undefA, undefA, undefA, undefA, undefA, undefA, undefA, undefA, undefA, undefA, undefA, undefA, undefA, undefA, undefA, undefA, undefA, undefA] _) _
    unfold m47_code
    repeat' (first
      | (refine K_ops ?_; first
        | refine W_fastB rfl ?_
        | refine W_nil ?_
        | (refine K_guard ?_; first
          | refine W_guard_on rfl ?_
          | refine W_guard_off rfl rfl (W_norm rfl ?_)
          | (refine W_guardT rfl (fun hc => ?_) (fun hc => ?_) <;> (try rw [hc]) <;> (try simp only [decide_eq_true_eq, decide_eq_false_iff_not, beq_iff_eq, beq_eq_false_iff_ne, bne_iff_ne, bne_eq_false_iff_eq, Bool.not_eq_true', Bool.not_eq_false', Int.not_lt, Int.not_le, ne_eq, reduceCtorEq, not_true_eq_false, not_false_eq_true, Decidable.not_not] at hc) <;> (try (exfalso; omega)) <;> (try refine W_norm rfl ?_))
        )
        | (refine W_lenL rfl (by first | assumption | exact SlR.ln (by assumption) | exact AccS.ln (by assumption) | exact OwnS.ln (by assumption) | exact VwO.ln (by assumption) | exact OwnP.ln (by assumption) | exact Len.sl) ?_; refine W_norm rfl ?_)
        | (refine K_pick ?_; first
          | refine W_pick_t rfl rfl (W_norm rfl ?_)
          | refine W_pick_f rfl rfl (W_norm rfl ?_)
        )
      )
      | (refine K_code ?_; first
        | refine W_seq ?_
        | refine W_ops ?_
        | refine W_cond_f rfl ?_
        | refine W_skip ?_
      )
      | refine seqK_n ?_
      | (refine fnK_n rfl ?_; try dsimp only [gd_z, gd_s]))
    all_goals exact ⟨_, rfl, rfl, c, by unfold partL; rw [if_neg (by omega)]; exact hv, hs⟩

end Go.Proofs.YtfmldkjidfigbaaDoor
