/- Lines: the same lines; Fresh, Insert, Delete. -/
import Derived.Test.YtkmhbkanbbcgnaaDoorJxW13scroll2
import Derived.Test.YtkmhbkanbbcgnaaDoorJxW13same
set_option linter.unusedSimpArgs false
set_option linter.unusedVariables false
set_option maxHeartbeats 1000000
set_option maxRecDepth 100000
namespace Go.Proofs.YtkmhbkanbbcgnaaDoor
open Go Go.Jx


theorem w10 {u v : SV} {A B : List (SV × List Cell)} {h : Heap} (hu : NsR cellE (Now h) u A) (hv : NsR cellE (Now h) v B) (hlA : A.length ≤ 100000) (hlB : B.length ≤ 100000) (hA : ∀ g ∈ A, g.2.length ≤ 100000) (hB : ∀ g ∈ B, g.2.length ≤ 100000) :
    Wc DD 10 [.sc u, .sc v] h fun w h' => w = bo (decide (A.map Prod.snd = B.map Prod.snd)) ∧ h' = h := by
  have hs := Sep.entry h
  have hu1 := hu.1
  have hv1 := hv.1
  have hul := hu.ln
  have hvl := hv.ln
  refine W_enter d10 ?_
  show W _ (.code m10_code [.sc u, .sc v, undefA, undefA, undefA, undefA, undefA, undefA, undefA, undefA, undefA, undefA, undefA, undefA, undefA, undefA, undefA, undefA, undefA, undefA, undefA, undefA, undefA, undefA, undefA, undefA, undefA] _) _
  unfold m10_code
  repeat' (first
    | (refine K_ops ?_; first
      | refine W_fastB rfl ?_
      | refine W_nil ?_
      | (refine W_lenL rfl (by first | assumption | exact SlR.ln (by assumption) | exact AccS.ln (by assumption) | exact OwnS.ln (by assumption) | exact VwO.ln (by assumption) | exact OwnP.ln (by assumption) | exact Len.sl) ?_; refine W_norm rfl ?_)
    )
    | (refine K_code ?_; first
      | refine W_seq ?_
      | refine W_ops ?_
      | (refine W_cond rfl (fun hc => ?_) (fun hc => ?_) <;> (try rw [hc]) <;> (try simp only [decide_eq_true_eq, decide_eq_false_iff_not, beq_iff_eq, beq_eq_false_iff_ne, bne_iff_ne, bne_eq_false_iff_eq, Bool.not_eq_true', Bool.not_eq_false', Int.not_lt, Int.not_le, ne_eq, reduceCtorEq, not_true_eq_false, not_false_eq_true, Decidable.not_not] at hc) <;> (try (exfalso; omega)) <;> (try refine W_norm rfl ?_))
      | refine W_skip ?_
      | refine W_ret ?_
      | refine W_block ?_
    )
    | refine seqK_n ?_
    | refine seqK_r ?_
    | (refine fnK_r rfl ?_; try dsimp only [gd_z, gd_s]))
  · have hne : A.map Prod.snd ≠ B.map Prod.snd := by
      intro hh
      have := congrArg List.length hh
      simp only [List.length_map] at this
      omega
    exact ⟨_, rfl, by rw [decide_eq_false hne], rfl⟩
  have hlen : A.length = B.length := by omega
  refine W_loopB [4, 5, 11, 12, 13, 14, 15, 16, 17, 18, 19, 20, 21, 22, 23, 24, 25, 26] [0, 1, 2, 3, 4, 5, 6, 7, 8, 9, 10, 11, 12, 13, 14, 15, 16, 17, 18, 19, 20, 21, 22, 23, 24, 25, 26] (fun n' sl h' => ∃ (k : Nat), sl = [(5, .sc (.int .i64 (k : Int)))] ∧ n' = A.length - k ∧ k ≤ A.length ∧ h' = h ∧ (A.map Prod.snd).take k = (B.map Prod.snd).take k) ?_ ?_
  · refine ⟨_, _, ⟨0, rfl, rfl, Nat.zero_le _, rfl, rfl⟩, EnvB.of rfl⟩
  rintro _ _ us _ h2 ⟨k, rfl, rfl, hk, rfl, hw⟩ he
  refine W_spell he rfl ?_
  clear he
  unfold m10_l4
  by_cases hlt : k < A.length
  · have r1 := hu.row hlt
    have r2 := hv.row (show k < B.length by omega)
    have l1 : ((A.map Prod.snd).getD k []).length ≤ 100000 := by
      rw [getD_map_snd A k .nils []]; exact hA _ (getD_mem hlt)
    have l2 : ((B.map Prod.snd).getD k []).length ≤ 100000 := by
      rw [getD_map_snd B k .nils []]; exact hB _ (getD_mem (by omega))
    repeat' (first
      | (refine K_ops ?_; first
        | refine W_fastB rfl ?_
        | refine W_nil ?_
        | (refine K_call ?_; first
          | (refine W_callsN 20 rfl (w20 r1 r2 l1 l2) rfl ?_; rintro _ _ ⟨rfl, rfl⟩; refine W_norm rfl ?_)
        )
        | (refine W_lenL rfl (by first | assumption | exact SlR.ln (by assumption) | exact AccS.ln (by assumption) | exact OwnS.ln (by assumption) | exact VwO.ln (by assumption) | exact OwnP.ln (by assumption) | exact Len.sl) ?_; refine W_norm rfl ?_)
        | (refine K_bin ?_; first
          | (refine W_add rfl rfl (IntWalk.i64_in _ (by first | omega | (simp only [List.length_set, List.length_append, List.length_take, List.length_drop, List.length_replicate, List.length_cons, List.length_nil, decs_length, List.length_map]; omega))) ?_; refine W_norm rfl ?_)
        )
        | (refine K_index ?_; first
          | (refine W_indexR rfl rfl (by assumption) rfl ⟨(by first | omega | (simp only [List.length_set, List.length_append, List.length_take, List.length_drop, List.length_replicate, List.length_cons, List.length_nil, decs_length, List.length_map]; omega)), (by first | omega | (simp only [List.length_set, List.length_append, List.length_take, List.length_drop, List.length_replicate, List.length_cons, List.length_nil, decs_length, List.length_map]; omega))⟩ ?_; intro _ _ _; refine W_norm rfl ?_)
        )
        | (refine K_load ?_; first
          | (refine W_loadR hs rfl (by assumption) rfl ?_; refine W_norm rfl ?_)
        )
      )
      | (refine K_code ?_; first
        | refine W_seq ?_
        | refine W_ops ?_
        | (refine W_cond rfl (fun hc => ?_) (fun hc => ?_) <;> (try rw [hc]) <;> (try simp only [decide_eq_true_eq, decide_eq_false_iff_not, beq_iff_eq, beq_eq_false_iff_ne, bne_iff_ne, bne_eq_false_iff_eq, Bool.not_eq_true', Bool.not_eq_false', Int.not_lt, Int.not_le, ne_eq, reduceCtorEq, not_true_eq_false, not_false_eq_true, Decidable.not_not] at hc) <;> (try (exfalso; omega)) <;> (try refine W_norm rfl ?_))
        | refine W_skip ?_
        | refine W_ret ?_
        | refine W_block ?_
        | refine W_draw rfl ?_
      )
      | refine seqK_n ?_
      | refine seqK_r ?_
      | refine blockK_r ?_
      | refine blockK_n ?_
      | refine invK_r ?_
      | refine invK_n ?_
      | (refine fnK_r rfl ?_; try dsimp only [gd_z, gd_s]))
    · refine ⟨_, rfl, ?_, rfl⟩
      rw [decide_eq_false]
      intro hh
      rw [hh] at hc
      exact hc rfl
    · refine ⟨_, ?_, _, ⟨k + 1, rfl, rfl, ?_, rfl, ?_⟩, EnvB.of rfl⟩
      · omega
      · omega
      · rw [List.take_add_one, List.take_add_one, hw, getD_get? (d := []) (show k < (A.map Prod.snd).length by rw [List.length_map]; omega), getD_get? (d := []) (show k < (B.map Prod.snd).length by rw [List.length_map]; omega), hc]
  · repeat' (first
      | (refine K_ops ?_; first
        | refine W_fastB rfl ?_
        | refine W_nil ?_
        | (refine W_lenL rfl (by first | assumption | exact SlR.ln (by assumption) | exact AccS.ln (by assumption) | exact OwnS.ln (by assumption) | exact VwO.ln (by assumption) | exact OwnP.ln (by assumption) | exact Len.sl) ?_; refine W_norm rfl ?_)
      )
      | (refine K_code ?_; first
        | refine W_seq ?_
        | refine W_ops ?_
        | (refine W_cond rfl (fun hc => ?_) (fun hc => ?_) <;> (try rw [hc]) <;> (try simp only [decide_eq_true_eq, decide_eq_false_iff_not, beq_iff_eq, beq_eq_false_iff_ne, bne_iff_ne, bne_eq_false_iff_eq, Bool.not_eq_true', Bool.not_eq_false', Int.not_lt, Int.not_le, ne_eq, reduceCtorEq, not_true_eq_false, not_false_eq_true, Decidable.not_not] at hc) <;> (try (exfalso; omega)) <;> (try refine W_norm rfl ?_))
        | refine W_ret ?_
        | refine W_exit ?_
      )
      | refine seqK_n ?_
      | refine seqK_x ?_
      | refine blockK_e ?_
      | refine invK_x ?_
      | (refine fnK_r rfl ?_; try dsimp only [gd_z, gd_s]))
    refine ⟨_, rfl, ?_, rfl⟩
    rw [List.take_of_length_le (by rw [List.length_map]; omega), List.take_of_length_le (by rw [List.length_map]; omega)] at hw
    rw [decide_eq_true hw]



theorem w11 {n w : Int} (a : Attr) {h : Heap} : Wc DD 11 [i64 n, i64 w, .agg (attrE.enc a)] h fun v h' => ∃ u c H, v = .sc u ∧ NsO cellE 40 38 u H c ∧ H.map Hd.L = (if n ≤ 400 then List.replicate n.toNat (freshL w a) else []) ∧ Sep (Now h) [c, hpOf H] h' := by
  have hs := Sep.entry h
  refine W_enter d11 ?_
  show W _ (.code m11_code [i64 n, i64 w, .agg (attrE.enc a), undefA, undefA, undefA, undefA, undefA, undefA, undefA, undefA, undefA, undefA] _) _
  unfold m11_code
  repeat' (first
    | (refine K_ops ?_; first
      | refine W_fastB rfl ?_
      | refine W_nil ?_
      | (refine K_call ?_; first
        | (refine W_callsN 19 rfl (w19 a (by omega)) rfl ?_; rintro _ h2 ⟨f, cf, F, rfl, hF, hFL, t⟩; replace hs := hs.call t; try simp only [cell_back, attr_back, List.set_cons_zero, List.set_cons_succ, List.eraseIdx_cons_succ, List.eraseIdx_zero, List.tail_cons, List.nil_append, List.cons_append] at hs; refine W_norm rfl ?_)
      )
      | (refine K_load ?_; first
        | (refine W_loadCA hs 0 rfl rfl rfl ?_; refine W_norm rfl ?_)
      )
      | (refine W_boxS hs rfl rfl ?_; clear hs; intro bx _ hs; try simp only [cell_back, attr_back, List.set_cons_zero, List.set_cons_succ, List.eraseIdx_cons_succ, List.eraseIdx_zero, List.tail_cons, List.nil_append, List.cons_append] at hs; refine W_norm rfl ?_)
    )
    | (refine K_code ?_; first
      | refine W_seq ?_
      | refine W_ops ?_
      | (refine W_cond rfl (fun hc => ?_) (fun hc => ?_) <;> (try rw [hc]) <;> (try simp only [decide_eq_true_eq, decide_eq_false_iff_not, beq_iff_eq, beq_eq_false_iff_ne, bne_iff_ne, bne_eq_false_iff_eq, Bool.not_eq_true', Bool.not_eq_false', Int.not_lt, Int.not_le, ne_eq, reduceCtorEq, not_true_eq_false, not_false_eq_true, Decidable.not_not] at hc) <;> (try (exfalso; omega)) <;> (try refine W_norm rfl ?_))
      | refine W_skip ?_
      | refine W_ret ?_
    )
    | refine seqK_n ?_
    | refine seqK_r ?_
    | (refine fnK_r rfl ?_; try dsimp only [gd_z, gd_s]))
  · exact ⟨_, rfl, _, _, [], rfl, NsO.nil _ _, by rw [if_neg (by omega)]; rfl, hs.no.nil⟩
  · exact ⟨_, rfl, _, _, _, rfl, hF, by rw [if_pos (by omega)]; exact hFL, hs.drop 2⟩



theorem w21 {v : SV} {m : Nat} {y t b : Int} {h : Heap} (hv : Len v m) : Wc DD 21 [.sc v, i64 y, i64 t, i64 b] h fun w h' => w = bo (decide (0 ≤ t ∧ t ≤ b ∧ b < m ∧ t ≤ y ∧ y ≤ b)) ∧ h' = h := by
  have hs := Sep.entry h
  refine W_enter d21 ?_
  show W _ (.code m21_code [.sc v, i64 y, i64 t, i64 b, undefA, undefA, undefA, undefA, undefA, undefA, undefA, undefA, undefA, undefA, undefA, undefA, undefA, undefA, undefA, undefA, undefA, undefA, undefA] _) _
  unfold m21_code
  repeat' (first
    | (refine K_ops ?_; first
      | refine W_fastB rfl ?_
      | refine W_nil ?_
      | (refine K_guard ?_; first
        | refine W_guard_on rfl ?_
        | refine W_guard_off rfl rfl (W_norm rfl ?_)
        | (refine W_guardT rfl (fun hc => ?_) (fun hc => ?_) <;> (try rw [hc]) <;> (try simp only [decide_eq_true_eq, decide_eq_false_iff_not, beq_iff_eq, beq_eq_false_iff_ne, bne_iff_ne, bne_eq_false_iff_eq, Bool.not_eq_true', Bool.not_eq_false', Int.not_lt, Int.not_le, ne_eq, reduceCtorEq, not_true_eq_false, not_false_eq_true, Decidable.not_not] at hc) <;> (try (exfalso; omega)) <;> (try refine W_norm rfl ?_))
      )
      | (refine K_call ?_; first
        | (refine W_callsN 17 rfl (w17 hv) rfl ?_; rintro _ _ ⟨rfl, rfl⟩; refine W_norm rfl ?_)
      )
      | (refine K_pick ?_; first
        | refine W_pick_t rfl rfl (W_norm rfl ?_)
        | refine W_pick_f rfl rfl (W_norm rfl ?_)
      )
    )
    | (refine K_code ?_; first
      | refine W_seq ?_
      | refine W_ops ?_
      | refine W_ret ?_
    )
    | refine seqK_n ?_
    | (refine fnK_r rfl ?_; try dsimp only [gd_z, gd_s]))
  all_goals exact ⟨_, rfl, by congr 2; first | (rw [decide_eq_decide]; omega) | (rw [decide_eq_false (by omega)]) | (rw [decide_eq_true (by omega)]), rfl⟩



theorem w12 {v : SV} {G : List (SV × List Cell)} {h : Heap} {y t b n w : Int} (a : Attr) (hv : NsR cellE (Now h) v G) (hl : G.length ≤ 1000) (hl2 : ∀ g ∈ G, g.2.length ≤ 100000) :
    Wc DD 12 [.sc v, i64 y, i64 t, i64 b, i64 n, i64 w, .agg (attrE.enc a)] h fun x h' => ∃ u c H, x = .sc u ∧ NsO cellE 40 38 u H c ∧
      H.map Hd.L = (if 0 ≤ t ∧ t ≤ b ∧ b < G.length ∧ t ≤ y ∧ y ≤ b then downRows (G.map Prod.snd) y b n (List.replicate (many y b n) (freshL w a)) else G.map Prod.snd) ∧ Sep (Now h) [c, hpOf H] h' := by
  have hs := Sep.entry h
  refine W_enter d12 ?_
  show W _ (.code m12_code [.sc v, i64 y, i64 t, i64 b, i64 n, i64 w, .agg (attrE.enc a), undefA, undefA, undefA, undefA, undefA, undefA, undefA, undefA, undefA, undefA, undefA, undefA, undefA, undefA, undefA, undefA, undefA, undefA, undefA, undefA, undefA, undefA, undefA, undefA, undefA, undefA, undefA, undefA, undefA] _) _
  unfold m12_code
  repeat' (first
    | (refine K_ops ?_; first
      | refine W_fastB rfl ?_
      | refine W_nil ?_
      | (refine K_call ?_; first
        | (refine W_callsN 16 rfl (w16 (NsR.now hs hv) (by omega) hl2) rfl ?_; rintro _ h2 ⟨u, c, A, rfl, hA, hAL, t'⟩; replace hs := hs.call t'; try simp only [List.cons_append, List.nil_append] at hs; refine W_norm rfl ?_)
        | (refine W_callsN 21 rfl (w21 hv.ln) rfl ?_; rintro _ _ ⟨rfl, rfl⟩; refine W_norm rfl ?_)
        | (refine W_callsN 8 rfl (w8 a (NsR.now hs hv) hl hl2) rfl ?_; rintro _ h2 ⟨u, g, c, cg, H, Hg, rfl, hH, hg, hHL, hgL, t'⟩; replace hs := hs.call t'; try simp only [List.cons_append, List.nil_append] at hs; refine W_norm rfl ?_)
      )
      | (refine K_load ?_; first
        | (refine W_loadCA hs 0 rfl rfl rfl ?_; refine W_norm rfl ?_)
      )
      | (refine W_boxS hs rfl rfl ?_; clear hs; intro bx _ hs; try simp only [cell_back, attr_back, List.set_cons_zero, List.set_cons_succ, List.eraseIdx_cons_succ, List.eraseIdx_zero, List.tail_cons, List.nil_append, List.cons_append] at hs; refine W_norm rfl ?_)
    )
    | (refine K_code ?_; first
      | refine W_seq ?_
      | refine W_ops ?_
      | (refine W_cond rfl (fun hc => ?_) (fun hc => ?_) <;> (try rw [hc]) <;> (try simp only [decide_eq_true_eq, decide_eq_false_iff_not, beq_iff_eq, beq_eq_false_iff_ne, bne_iff_ne, bne_eq_false_iff_eq, Bool.not_eq_true', Bool.not_eq_false', Int.not_lt, Int.not_le, ne_eq, reduceCtorEq, not_true_eq_false, not_false_eq_true, Decidable.not_not] at hc) <;> (try (exfalso; omega)) <;> (try refine W_norm rfl ?_))
      | refine W_skip ?_
      | refine W_ret ?_
    )
    | refine seqK_n ?_
    | refine seqK_r ?_
    | (refine fnK_r rfl ?_; try dsimp only [gd_z, gd_s]))
  · exact ⟨_, rfl, _, _, _, rfl, hA, by rw [if_neg (by omega)]; exact hAL, hs.drop 2⟩
  · exact ⟨_, rfl, _, _, _, rfl, hH, by rw [if_pos (by omega)]; exact hHL, ((hs.drop 2).drop 2).drop 2⟩


theorem w13 {v : SV} {G : List (SV × List Cell)} {h : Heap} {y t b n w : Int} (a : Attr) (hv : NsR cellE (Now h) v G) (hl : G.length ≤ 1000) (hl2 : ∀ g ∈ G, g.2.length ≤ 100000) :
    Wc DD 13 [.sc v, i64 y, i64 t, i64 b, i64 n, i64 w, .agg (attrE.enc a)] h fun x h' => ∃ u c H, x = .sc u ∧ NsO cellE 40 38 u H c ∧
      H.map Hd.L = (if 0 ≤ t ∧ t ≤ b ∧ b < G.length ∧ t ≤ y ∧ y ≤ b then upRows (G.map Prod.snd) y b n (List.replicate (many y b n) (freshL w a)) else G.map Prod.snd) ∧ Sep (Now h) [c, hpOf H] h' := by
  have hs := Sep.entry h
  refine W_enter d13 ?_
  show W _ (.code m13_code [.sc v, i64 y, i64 t, i64 b, i64 n, i64 w, .agg (attrE.enc a), undefA, undefA, undefA, undefA, undefA, undefA, undefA, undefA, undefA, undefA, undefA, undefA, undefA, undefA, undefA, undefA, undefA, undefA, undefA, undefA, undefA, undefA, undefA, undefA, undefA, undefA, undefA, undefA, undefA] _) _
  unfold m13_code
  repeat' (first
    | (refine K_ops ?_; first
      | refine W_fastB rfl ?_
      | refine W_nil ?_
      | (refine K_call ?_; first
        | (refine W_callsN 16 rfl (w16 (NsR.now hs hv) (by omega) hl2) rfl ?_; rintro _ h2 ⟨u, c, A, rfl, hA, hAL, t'⟩; replace hs := hs.call t'; try simp only [List.cons_append, List.nil_append] at hs; refine W_norm rfl ?_)
        | (refine W_callsN 21 rfl (w21 hv.ln) rfl ?_; rintro _ _ ⟨rfl, rfl⟩; refine W_norm rfl ?_)
        | (refine W_callsN 9 rfl (w9 a (NsR.now hs hv) hl hl2) rfl ?_; rintro _ h2 ⟨u, g, c, cg, H, Hg, rfl, hH, hg, hHL, hgL, t'⟩; replace hs := hs.call t'; try simp only [List.cons_append, List.nil_append] at hs; refine W_norm rfl ?_)
      )
      | (refine K_load ?_; first
        | (refine W_loadCA hs 0 rfl rfl rfl ?_; refine W_norm rfl ?_)
      )
      | (refine W_boxS hs rfl rfl ?_; clear hs; intro bx _ hs; try simp only [cell_back, attr_back, List.set_cons_zero, List.set_cons_succ, List.eraseIdx_cons_succ, List.eraseIdx_zero, List.tail_cons, List.nil_append, List.cons_append] at hs; refine W_norm rfl ?_)
    )
    | (refine K_code ?_; first
      | refine W_seq ?_
      | refine W_ops ?_
      | (refine W_cond rfl (fun hc => ?_) (fun hc => ?_) <;> (try rw [hc]) <;> (try simp only [decide_eq_true_eq, decide_eq_false_iff_not, beq_iff_eq, beq_eq_false_iff_ne, bne_iff_ne, bne_eq_false_iff_eq, Bool.not_eq_true', Bool.not_eq_false', Int.not_lt, Int.not_le, ne_eq, reduceCtorEq, not_true_eq_false, not_false_eq_true, Decidable.not_not] at hc) <;> (try (exfalso; omega)) <;> (try refine W_norm rfl ?_))
      | refine W_skip ?_
      | refine W_ret ?_
    )
    | refine seqK_n ?_
    | refine seqK_r ?_
    | (refine fnK_r rfl ?_; try dsimp only [gd_z, gd_s]))
  · exact ⟨_, rfl, _, _, _, rfl, hA, by rw [if_neg (by omega)]; exact hAL, hs.drop 2⟩
  · exact ⟨_, rfl, _, _, _, rfl, hH, by rw [if_pos (by omega)]; exact hHL, ((hs.drop 2).drop 2).drop 2⟩

end Go.Proofs.YtkmhbkanbbcgnaaDoor
