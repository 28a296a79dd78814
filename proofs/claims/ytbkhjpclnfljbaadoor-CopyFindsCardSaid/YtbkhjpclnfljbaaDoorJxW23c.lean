/- Views: lines in new memory. CALLV -/
import Derived.Test.YtbkhjpclnfljbaaDoorJxW23b
set_option linter.unusedSimpArgs false
set_option linter.unusedVariables false
set_option maxHeartbeats 1000000
set_option maxRecDepth 100000
namespace Go.Proofs.YtbkhjpclnfljbaaDoor
open Go Go.Jx

theorem w47 {v : SV} {L : List LnH} {h : Heap} (hv : SlR lnE (Now h) v L) (hl : L.length ≤ 100000) : Wc DD 47 [.sc v] h fun w h' => ∃ u c, w = .sc u ∧ AccS lnE 27 u L c ∧ Sep (Now h) [c] h' := by
  have hs := Sep.entry h
  have hv' := hv
  rcases hv' with ⟨rfl, rfl | ⟨b, rfl⟩⟩ | ⟨id, off, cap, t, kd, cs, rfl, h2, h3, h4⟩
  · refine W_enter d47 ?_
    show W _ (.code m47_code [.sc .nils, undefA, undefA, undefA, undefA, undefA, undefA, undefA] _) _
    unfold m47_code
    repeat' (first
      | (refine K_ops ?_; first
        | refine W_fastB rfl ?_
        | refine W_nil ?_
        | (refine K_bin ?_; first
          | (refine W_nilSl_t rfl rfl rfl ?_; refine W_norm rfl ?_)
        )
      )
      | (refine K_code ?_; first
        | refine W_seq ?_
        | refine W_ops ?_
        | refine W_cond_t rfl ?_
        | refine W_ret ?_
      )
      | refine seqK_n ?_
      | refine seqK_r ?_
      | (refine fnK_r rfl ?_; try dsimp only [gd_z, gd_s]))
    exact ⟨_, rfl, _, _, rfl, AccS.nil _, hs.nil⟩
  · refine W_enter d47 ?_
    show W _ (.code m47_code [.sc (.eslice b), undefA, undefA, undefA, undefA, undefA, undefA, undefA] _) _
    unfold m47_code
    repeat' (first
      | (refine K_ops ?_; first
        | refine W_fastB rfl ?_
        | refine W_nil ?_
        | (refine K_bin ?_; first
          | (refine W_nilSl_e rfl rfl rfl ?_; refine W_norm rfl ?_)
        )
        | (refine K_bslice ?_; first
          | (refine W_buildS0 lnE hs ?_; clear hs; intro _ _ _ _ hs; try simp only [cell_back, attr_back, List.set_cons_zero, List.set_cons_succ, List.eraseIdx_cons_succ, List.eraseIdx_zero, List.tail_cons, List.nil_append, List.cons_append] at hs; refine W_norm rfl ?_)
        )
        | (refine K_append ?_; first
          | (refine W_appS hs 0 rfl rfl (by assumption) rfl (by first | assumption | exact SlR.now hs (by assumption) | exact AccS.now (by assumption) hs (by simp) | exact OwnS.now (by assumption) hs (by simp)) rfl ⟨by decide, (by first | omega | (simp only [List.length_set, List.length_append, List.length_take, List.length_drop, List.length_replicate, List.length_cons, List.length_nil, decs_length, List.length_map]; omega))⟩ ?_; clear hs; intro _ _ _ _ hs; try simp only [cell_back, attr_back, List.set_cons_zero, List.set_cons_succ, List.eraseIdx_cons_succ, List.eraseIdx_zero, List.tail_cons, List.nil_append, List.cons_append] at hs; refine W_norm rfl ?_)
        )
      )
      | (refine K_code ?_; first
        | refine W_seq ?_
        | refine W_ops ?_
        | refine W_cond_f rfl ?_
        | refine W_skip ?_
        | refine W_ret ?_
      )
      | refine seqK_n ?_
      | (refine fnK_r rfl ?_; try dsimp only [gd_z, gd_s]))
    rename_i ha
    exact ⟨_, rfl, _, _, rfl, ha, hs⟩
  · refine W_enter d47 ?_
    show W _ (.code m47_code [.sc (.slice id off L.length cap), undefA, undefA, undefA, undefA, undefA, undefA, undefA] _) _
    unfold m47_code
    repeat' (first
      | (refine K_ops ?_; first
        | refine W_fastB rfl ?_
        | refine W_nil ?_
        | (refine K_bin ?_; first
          | (refine W_nilSl_f rfl rfl rfl ?_; refine W_norm rfl ?_)
        )
        | (refine K_bslice ?_; first
          | (refine W_buildS0 lnE hs ?_; clear hs; intro _ _ _ _ hs; try simp only [cell_back, attr_back, List.set_cons_zero, List.set_cons_succ, List.eraseIdx_cons_succ, List.eraseIdx_zero, List.tail_cons, List.nil_append, List.cons_append] at hs; refine W_norm rfl ?_)
        )
        | (refine K_append ?_; first
          | (refine W_appS hs 0 rfl rfl (by assumption) rfl (by first | assumption | exact SlR.now hs (by assumption) | exact AccS.now (by assumption) hs (by simp) | exact OwnS.now (by assumption) hs (by simp)) rfl ⟨by decide, (by first | omega | (simp only [List.length_set, List.length_append, List.length_take, List.length_drop, List.length_replicate, List.length_cons, List.length_nil, decs_length, List.length_map]; omega))⟩ ?_; clear hs; intro _ _ _ _ hs; try simp only [cell_back, attr_back, List.set_cons_zero, List.set_cons_succ, List.eraseIdx_cons_succ, List.eraseIdx_zero, List.tail_cons, List.nil_append, List.cons_append] at hs; refine W_norm rfl ?_)
        )
      )
      | (refine K_code ?_; first
        | refine W_seq ?_
        | refine W_ops ?_
        | refine W_cond_f rfl ?_
        | refine W_skip ?_
        | refine W_ret ?_
      )
      | refine seqK_n ?_
      | (refine fnK_r rfl ?_; try dsimp only [gd_z, gd_s]))
    rename_i ha
    exact ⟨_, rfl, _, _, rfl, ha, hs⟩

/-- Lines of one's own. -/
abbrev OwnX (X : List (LnH × Hp)) (L : List Ln) : Prop := LR (fun (x : LnH × Hp) (l : Ln) => AccS cellE 71 x.1.v l.cells x.2 ∧ x.1.j = l.joined ∧ x.1.s = l.short) X L
theorem sep_empty2 {R : Ro} {a : Hp} {h : Heap} (s : Sep R [a] h) : Sep R [a, []] h := s.sublist (by simp)
theorem w32 {v : SV} {G : List LnC} {h : Heap} (hv : LnsR (Now h) v G) (hl : G.length ≤ 100000) (hl2 : ∀ g ∈ G, g.2.length ≤ 100000) :
    Wc DD 32 [.sc v] h fun w h' => ∃ u c X, w = .sc u ∧ AccS lnE 27 u (X.map Prod.fst) c ∧ OwnX X (G.map lnOf) ∧ Sep (Now h) [c, (X.map Prod.snd).flatten] h' := by
  have hs := Sep.entry h
  have hln := hv.ln
  refine W_enter d32 ?_
  show W _ (.code m32_code [.sc v, undefA, undefA, undefA, undefA, undefA, undefA, undefA, undefA, undefA, undefA, undefA, undefA, undefA, undefA, undefA, undefA, undefA, undefA, undefA, undefA, undefA, undefA, undefA] _) _
  unfold m32_code
  repeat' (first
    | (refine K_ops ?_; first
      | refine W_fastB rfl ?_
      | refine W_nil ?_
      | (refine K_call ?_; first
        | (refine W_callsN 47 rfl (w47 (SlR.now hs hv.1) (by rw [List.length_map]; exact hl)) rfl ?_; rintro _ h2 ⟨u, c, rfl, ha, t⟩; replace hs := hs.call t; try simp only [cell_back, attr_back, List.set_cons_zero, List.set_cons_succ, List.eraseIdx_cons_succ, List.eraseIdx_zero, List.tail_cons, List.nil_append, List.cons_append] at hs; refine W_norm rfl ?_)
      )
      | (refine W_lenL rfl (by first | assumption | exact SlR.ln (by assumption) | exact AccS.ln (by assumption) | exact OwnS.ln (by assumption) | exact VwO.ln (by assumption) | exact OwnP.ln (by assumption) | exact Len.sl) ?_; refine W_norm rfl ?_)
    )
    | (refine K_code ?_; first
      | refine W_seq ?_
      | refine W_ops ?_
      | refine W_block ?_
    )
    | refine seqK_n ?_)
  have hal := ha.ln
  rw [List.length_map] at hal
  have hGl : (G.map Prod.fst).length = G.length := List.length_map ..
  refine W_loopB [4, 9, 10, 11, 12, 13, 14, 15, 16, 17, 18, 19, 20, 21, 22] [0, 1, 2, 3, 4, 5, 6, 7, 8, 9, 10, 11, 12, 13, 14, 15, 16, 17, 18, 19, 20, 21, 22, 23] (fun n' sl h' => ∃ (k : Nat) (c : Hp) (X : List (LnH × Hp)), sl = [(3, .sc u), (8, .sc (.int .i64 ((G.map Prod.fst).length : Int))), (9, .sc (.int .i64 (k : Int)))] ∧ n' = G.length - k ∧ k ≤ G.length ∧ X.length = k ∧ AccS lnE 27 u (X.map Prod.fst ++ (G.map Prod.fst).drop k) c ∧ OwnX X ((G.map lnOf).take k) ∧ Sep (Now h) [c, (X.map Prod.snd).flatten] h') ?_ ?_
  · refine ⟨_, _, ⟨0, c, [], rfl, rfl, Nat.zero_le _, rfl, ?_, trivial, ?_⟩, EnvB.of rfl⟩
    · exact ha
    · exact sep_empty2 hs
  clear ha hs
  rintro _ _ us _ h3 ⟨k, c, X, rfl, rfl, hk, hX, ha, hO, hs⟩ he
  refine W_spell he rfl ?_
  clear he
  unfold m32_l3
  by_cases hlt : k < G.length
  · have hn : (X.map Prod.fst ++ (G.map Prod.fst).drop k).length = G.length := by simp; omega
    obtain ⟨id, kd, rfl, rfl, hkd⟩ := ha.pos (by omega)
    have e1 : (X.map Prod.fst ++ (G.map Prod.fst).drop k).getD (k : Int).toNat lnE.dflt = atH G k := by
      show _ = (G.map Prod.fst).getD (k : Int).toNat lnE.dflt
      rw [Int.toNat_natCast, List.getD_eq_getElem?_getD, List.getD_eq_getElem?_getD, List.getElem?_append_right (by simp; omega), List.getElem?_drop]
      simp [hX]
    have hr : SlR cellE (Now h) ((X.map Prod.fst ++ (G.map Prod.fst).drop k).getD (k : Int).toNat lnE.dflt).v (atC G k) := by rw [e1]; exact hv.at hlt
    have hrl := atC_len hl2 hlt
    repeat' (first
      | (refine K_ops ?_; first
        | refine W_fastB rfl ?_
        | refine W_nil ?_
        | (refine K_call ?_; first
          | (refine W_callsN 48 rfl (w48 (SlR.now hs hr) hrl) rfl ?_; rintro _ h2 ⟨u2, c2, rfl, ha2, t⟩; replace hs := hs.call t; try simp only [cell_back, attr_back, List.set_cons_zero, List.set_cons_succ, List.eraseIdx_cons_succ, List.eraseIdx_zero, List.tail_cons, List.nil_append, List.cons_append] at hs; refine W_norm rfl ?_)
        )
        | (refine K_bin ?_; first
          | (refine W_add rfl rfl (IntWalk.i64_in _ (by first | omega | (simp only [List.length_set, List.length_append, List.length_take, List.length_drop, List.length_replicate, List.length_cons, List.length_nil, decs_length, List.length_map]; omega))) ?_; refine W_norm rfl ?_)
        )
        | (refine K_index ?_; first
          | (refine W_indexO rfl rfl ⟨(by first | omega | (simp only [List.length_set, List.length_append, List.length_take, List.length_drop, List.length_replicate, List.length_cons, List.length_nil, decs_length, List.length_map]; omega)), (by first | omega | (simp only [List.length_set, List.length_append, List.length_take, List.length_drop, List.length_replicate, List.length_cons, List.length_nil, decs_length, List.length_map]; omega))⟩ ?_; refine W_norm rfl ?_)
        )
        | (refine K_load ?_; first
          | (refine W_loadO hs 0 rfl rfl rfl (by first | omega | (simp only [List.length_set, List.length_append, List.length_take, List.length_drop, List.length_replicate, List.length_cons, List.length_nil, decs_length, List.length_map]; omega)) rfl ?_; refine W_norm rfl ?_)
        )
        | (refine K_store ?_; first
          | (refine W_storeOF hs 1 rfl rfl rfl rfl rfl (by first | omega | (simp only [List.length_set, List.length_append, List.length_take, List.length_drop, List.length_replicate, List.length_cons, List.length_nil, decs_length, List.length_map]; omega)) (by first | decide | assumption) rfl rfl rfl rfl ?_; clear hs; intro _ hs; try simp only [cell_back, attr_back, List.set_cons_zero, List.set_cons_succ, List.eraseIdx_cons_succ, List.eraseIdx_zero, List.tail_cons, List.nil_append, List.cons_append] at hs; refine W_norm rfl ?_)
        )
      )
      | (refine K_code ?_; first
        | refine W_seq ?_
        | refine W_ops ?_
        | (refine W_cond rfl (fun hc => ?_) (fun hc => ?_) <;> (try rw [hc]) <;> (try simp only [decide_eq_true_eq, decide_eq_false_iff_not, beq_iff_eq, beq_eq_false_iff_ne, bne_iff_ne, bne_eq_false_iff_eq, Bool.not_eq_true', Bool.not_eq_false', Int.not_lt, Int.not_le, ne_eq, reduceCtorEq, not_true_eq_false, not_false_eq_true, Decidable.not_not] at hc) <;> (try (exfalso; omega)) <;> (try refine W_norm rfl ?_))
        | refine W_skip ?_
        | refine W_block ?_
      )
      | refine seqK_n ?_
      | refine blockK_n ?_
      | refine invK_n ?_)
    have e2 : (X.map Prod.fst ++ (G.map Prod.fst).drop k).set (k : Int).toNat (lnE.dec [u2, .bool ((X.map Prod.fst ++ (G.map Prod.fst).drop k).getD (k : Int).toNat lnE.dflt).j, .bool ((X.map Prod.fst ++ (G.map Prod.fst).drop k).getD (k : Int).toNat lnE.dflt).s]) = (X ++ [((⟨u2, (atH G k).j, (atH G k).s⟩ : LnH), c2)]).map Prod.fst ++ (G.map Prod.fst).drop (k + 1) := by
      rw [e1, Int.toNat_natCast, List.set_append_right _ _ (by simp; omega), List.drop_eq_getElem_cons (by simp; omega), show k - (X.map Prod.fst).length = 0 by rw [List.length_map]; omega, List.set_cons_zero]
      simp [lnE]
    rw [e2] at hs
    refine ⟨_, ?_, _, ⟨k + 1, _, X ++ [((⟨u2, (atH G k).j, (atH G k).s⟩ : LnH), c2)], rfl, rfl, ?_, ?_, AccS.again hkd ?_, ?_, hs.perm ?_⟩, EnvB.of rfl⟩
    · omega
    · omega
    · simp [hX]
    · simp; omega
    · have e3 : (G.map lnOf).take (k + 1) = (G.map lnOf).take k ++ [atL G k] := by
        rw [List.take_add_one, lnOf_atH hlt]; rfl
      rw [e3]
      exact LR.append hO ⟨⟨ha2, rfl, rfl⟩, trivial⟩
    · simp only [List.flatten_cons, List.flatten_nil, List.append_nil, List.map_append, List.map_cons, List.map_nil, List.flatten_append]
      refine List.perm_append_comm.trans ?_
      rw [List.append_assoc]
  · repeat' (first
      | (refine K_ops ?_; first
        | refine W_fastB rfl ?_
        | refine W_nil ?_
      )
      | (refine K_code ?_; first
        | refine W_seq ?_
        | refine W_ops ?_
        | (refine W_cond rfl (fun hc => ?_) (fun hc => ?_) <;> (try rw [hc]) <;> (try simp only [decide_eq_true_eq, decide_eq_false_iff_not, beq_iff_eq, beq_eq_false_iff_ne, bne_iff_ne, bne_eq_false_iff_eq, Bool.not_eq_true', Bool.not_eq_false', Int.not_lt, Int.not_le, ne_eq, reduceCtorEq, not_true_eq_false, not_false_eq_true, Decidable.not_not] at hc) <;> (try (exfalso; omega)) <;> (try refine W_norm rfl ?_))
        | refine W_ret ?_
        | refine W_exit ?_
      )
      | refine seqK_n ?_
      | refine seqK_x ?_
      | refine blockK_e ?_
      | refine invK_x ?_
      | (refine fnK_r rfl ?_; try dsimp only [gd_z, gd_s]))
    obtain rfl : k = G.length := by omega
    rw [List.drop_of_length_le (by simp), List.append_nil] at ha
    rw [List.take_of_length_le (by simp)] at hO
    exact ⟨_, rfl, _, _, _, rfl, ha, hO, hs⟩

theorem w31 {g : LnH} {n : Nat} {h : Heap} (hv : Len g.v n) : Wc DD 31 [.agg (lnE.enc g)] h fun w h' => w = bo (decide (n = 0)) ∧ Sep (Now h) [] h' := by
  have hs := Sep.entry h
  refine W_enter d31 ?_
  show W _ (.code m31_code [.agg (lnE.enc g), undefA, undefA, undefA, undefA, undefA, undefA] _) _
  unfold m31_code
  repeat' (first
    | (refine K_ops ?_; first
      | refine W_fastB rfl ?_
      | refine W_nil ?_
      | (refine W_lenL rfl (by first | assumption | exact SlR.ln (by assumption) | exact AccS.ln (by assumption) | exact OwnS.ln (by assumption) | exact VwO.ln (by assumption) | exact OwnP.ln (by assumption) | exact Len.sl) ?_; refine W_norm rfl ?_)
      | (refine K_load ?_; first
        | (refine W_loadC hs 0 rfl rfl rfl ?_; refine W_norm rfl ?_)
      )
      | (refine W_boxS hs rfl rfl ?_; clear hs; intro bx _ hs; try simp only [cell_back, attr_back, List.set_cons_zero, List.set_cons_succ, List.eraseIdx_cons_succ, List.eraseIdx_zero, List.tail_cons, List.nil_append, List.cons_append] at hs; refine W_norm rfl ?_)
    )
    | (refine K_code ?_; first
      | refine W_seq ?_
      | refine W_ops ?_
      | refine W_ret ?_
    )
    | refine seqK_n ?_
    | (refine fnK_r rfl ?_; try dsimp only [gd_z, gd_s]))
  refine ⟨_, rfl, ?_, hs.none⟩
  refine congrArg (fun b => AV.sc (SV.bool b)) (Bool.eq_iff_iff.2 ?_)
  simp only [beq_iff_eq, decide_eq_true_eq]; omega
theorem atC_eq {G : List LnC} {i : Nat} (hi : i < G.length) : atC G i = (G[i]'hi).2 := by
  show (G.map Prod.snd).getD i [] = _
  rw [List.getD_eq_getElem?_getD, List.getElem?_map, List.getElem?_eq_getElem hi]; rfl
theorem mem_atC {G : List LnC} {g : LnC} (h : g ∈ G) : ∃ i, i < G.length ∧ atC G i = g.2 := by
  obtain ⟨i, hi, rfl⟩ := List.getElem_of_mem h
  exact ⟨i, hi, atC_eq hi⟩
theorem w46 {v : SV} {G : List LnC} {h : Heap} (hv : LnsR (Now h) v G) (hl : G.length ≤ 100000) : Wc DD 46 [.sc v, .sc (.func 31 [])] h fun w h' => (∃ r : Int, w = i64 r ∧ (-1 ≤ r ∧ r ≤ 100000) ∧ (0 ≤ r ↔ ∃ g ∈ G, g.2.length = 0)) ∧ Sep (Now h) [] h' := by
  have hs := Sep.entry h
  have hln := hv.ln
  have hGl : (G.map Prod.fst).length = G.length := List.length_map ..
  have hv1 := hv.1
  refine W_enter d46 ?_
  show W _ (.code m46_code [.sc v, .sc (.func 31 []), undefA, undefA, undefA, undefA, undefA, undefA, undefA, undefA, undefA, undefA, undefA, undefA, undefA, undefA, undefA, undefA, undefA] _) _
  unfold m46_code
  repeat' (first
    | (refine K_ops ?_; first
      | refine W_fastB rfl ?_
      | refine W_nil ?_
      | (refine W_lenL rfl (by first | assumption | exact SlR.ln (by assumption) | exact AccS.ln (by assumption) | exact OwnS.ln (by assumption) | exact VwO.ln (by assumption) | exact OwnP.ln (by assumption) | exact Len.sl) ?_; refine W_norm rfl ?_)
    )
    | (refine K_code ?_; first
      | refine W_seq ?_
      | refine W_ops ?_
      | refine W_block ?_
    )
    | refine seqK_n ?_)
  refine W_loopB [4, 5, 8, 9, 10, 11, 12, 13, 14, 15, 16, 17, 18] [0, 1, 2, 3, 4, 5, 6, 7, 8, 9, 10, 11, 12, 13, 14, 15, 16, 17, 18] (fun n' sl h' => ∃ (k : Nat), sl = [(7, .sc (.int .i64 (G.length : Int))), (8, .sc (.int .i64 (k : Int)))] ∧ n' = G.length - k ∧ k ≤ G.length ∧ (∀ i, i < k → (atC G i).length ≠ 0) ∧ Sep (Now h) [] h') ?_ ?_
  · refine ⟨_, _, ⟨0, rfl, rfl, Nat.zero_le _, fun i hi => absurd hi (by omega), hs⟩, EnvB.of rfl⟩
  clear hs
  rintro _ _ us _ h3 ⟨k, rfl, rfl, hk, hz, hs⟩ he
  refine W_spell he rfl ?_
  clear he
  unfold m46_l2
  by_cases hlt : k < G.length
  · have hr := (hv.at hlt).ln
    repeat' (first
      | (refine K_ops ?_; first
        | refine W_fastB rfl ?_
        | refine W_nil ?_
        | (refine W_callvN 31 rfl rfl (w31 hr) rfl ?_; rintro _ h2 ⟨rfl, t⟩; replace hs := hs.call t; try simp only [cell_back, attr_back, List.set_cons_zero, List.set_cons_succ, List.eraseIdx_cons_succ, List.eraseIdx_zero, List.tail_cons, List.nil_append, List.cons_append] at hs; refine W_norm rfl ?_)
        | (refine K_bin ?_; first
          | (refine W_add rfl rfl (IntWalk.i64_in _ (by first | omega | (simp only [List.length_set, List.length_append, List.length_take, List.length_drop, List.length_replicate, List.length_cons, List.length_nil, decs_length, List.length_map]; omega))) ?_; refine W_norm rfl ?_)
        )
        | (refine K_index ?_; first
          | (refine W_indexR rfl rfl (by assumption) rfl ⟨(by first | omega | (simp only [List.length_set, List.length_append, List.length_take, List.length_drop, List.length_replicate, List.length_cons, List.length_nil, decs_length, List.length_map]; omega)), (by first | omega | (simp only [List.length_set, List.length_append, List.length_take, List.length_drop, List.length_replicate, List.length_cons, List.length_nil, decs_length, List.length_map]; omega))⟩ ?_; intro _ _ _; refine W_norm rfl ?_)
        )
        | (refine K_load ?_; first
          | (refine W_loadRA hs rfl (by assumption) rfl ?_; refine W_norm rfl ?_)
        )
      )
      | (refine K_code ?_; first
        | refine W_seq ?_
        | refine W_ops ?_
        | (refine W_cond rfl (fun hc => ?_) (fun hc => ?_) <;> (try rw [hc]) <;> (try simp only [decide_eq_true_eq, decide_eq_false_iff_not, beq_iff_eq, beq_eq_false_iff_ne, bne_iff_ne, bne_eq_false_iff_eq, Bool.not_eq_true', Bool.not_eq_false', Int.not_lt, Int.not_le, ne_eq, reduceCtorEq, not_true_eq_false, not_false_eq_true, Decidable.not_not] at hc) <;> (try (exfalso; omega)) <;> (try refine W_norm rfl ?_))
        | refine W_skip ?_
        | refine W_ret ?_
        | refine W_block ?_
      )
      | refine seqK_n ?_
      | refine seqK_r ?_
      | refine blockK_r ?_
      | refine blockK_n ?_
      | refine invK_r ?_
      | refine invK_n ?_
      | (refine fnK_r rfl ?_; try dsimp only [gd_z, gd_s]))
    · exact ⟨_, rfl, ⟨_, rfl, by omega, fun _ => ⟨_, List.getElem_mem hlt, by rw [← atC_eq hlt]; exact hc⟩, fun _ => by omega⟩, hs⟩
    · refine ⟨_, ?_, _, ⟨k + 1, rfl, rfl, ?_, ?_, hs⟩, EnvB.of rfl⟩
      · omega
      · omega
      · intro i hi
        by_cases e : i = k
        · subst e; exact hc
        · exact hz i (by omega)
  · repeat' (first
      | (refine K_ops ?_; first
        | refine W_fastB rfl ?_
        | refine W_nil ?_
      )
      | (refine K_code ?_; first
        | refine W_seq ?_
        | refine W_ops ?_
        | (refine W_cond rfl (fun hc => ?_) (fun hc => ?_) <;> (try rw [hc]) <;> (try simp only [decide_eq_true_eq, decide_eq_false_iff_not, beq_iff_eq, beq_eq_false_iff_ne, bne_iff_ne, bne_eq_false_iff_eq, Bool.not_eq_true', Bool.not_eq_false', Int.not_lt, Int.not_le, ne_eq, reduceCtorEq, not_true_eq_false, not_false_eq_true, Decidable.not_not] at hc) <;> (try (exfalso; omega)) <;> (try refine W_norm rfl ?_))
        | refine W_ret ?_
        | refine W_exit ?_
      )
      | refine seqK_n ?_
      | refine seqK_x ?_
      | refine blockK_e ?_
      | refine invK_x ?_
      | (refine fnK_r rfl ?_; try dsimp only [gd_z, gd_s]))
    refine ⟨_, rfl, ⟨_, rfl, by omega, fun hh => absurd hh (by omega), ?_⟩, hs⟩
    rintro ⟨g, hg, h0⟩
    obtain ⟨i, hi, e⟩ := mem_atC hg
    exact absurd (by rw [e]; exact h0) (hz i (by omega))
theorem w30 {v : SV} {G : List LnC} {h : Heap} (hv : LnsR (Now h) v G) (hl : G.length ≤ 100000) : Wc DD 30 [.sc v, .sc (.func 31 [])] h fun w h' => w = bo (decide (∃ g ∈ G, g.2.length = 0)) ∧ Sep (Now h) [] h' := by
  have hs := Sep.entry h
  refine W_enter d30 ?_
  show W _ (.code m30_code [.sc v, .sc (.func 31 []), undefA, undefA, undefA, undefA, undefA, undefA, undefA] _) _
  unfold m30_code
  repeat' (first
    | (refine K_ops ?_; first
      | refine W_fastB rfl ?_
      | refine W_nil ?_
      | (refine K_call ?_; first
        | (refine W_callsN 46 rfl (w46 (hv.now hs) hl) rfl ?_; rintro _ h2 ⟨⟨r, rfl, hr, hr2⟩, t⟩; replace hs := hs.call t; try simp only [cell_back, attr_back, List.set_cons_zero, List.set_cons_succ, List.eraseIdx_cons_succ, List.eraseIdx_zero, List.tail_cons, List.nil_append, List.cons_append] at hs; refine W_norm rfl ?_)
      )
    )
    | (refine K_code ?_; first
      | refine W_seq ?_
      | refine W_ops ?_
      | refine W_ret ?_
    )
    | refine seqK_n ?_
    | (refine fnK_r rfl ?_; try dsimp only [gd_z, gd_s]))
  refine ⟨_, rfl, ?_, hs⟩
  refine congrArg (fun b => AV.sc (SV.bool b)) (Bool.eq_iff_iff.2 ?_)
  simp only [decide_eq_true_eq]
  exact hr2

/-- May there be a view? -/
def okB (L : List Ln) (h : Int) : Prop := 1 ≤ L.length ∧ L.length ≤ 900 ∧ 1 ≤ h ∧ h ≤ 400 ∧ ∀ l ∈ L, l.cells.length ≠ 0
theorem any_map {G : List LnC} : (∃ g ∈ G, g.2.length = 0) ↔ ¬ ∀ l ∈ G.map lnOf, l.cells.length ≠ 0 := by
  constructor
  · rintro ⟨g, hg, h⟩ hh
    exact hh _ (List.mem_map_of_mem hg) h
  · intro hh
    refine Classical.byContradiction fun hn => hh fun l hl => ?_
    obtain ⟨g, hg, rfl⟩ := List.mem_map.1 hl
    exact fun h0 => hn ⟨g, hg, h0⟩
theorem OwnX.lns {X : List (LnH × Hp)} {L : List Ln} {R : Ro} {u : SV} {c : Hp} (ha : AccS lnE 27 u (X.map Prod.fst) c) (hO : OwnX X L) (hc : ∀ p ∈ c ++ (X.map Prod.snd).flatten, R p.1 p.2) :
    ∃ G : List LnC, LnsR R u G ∧ G.map lnOf = L ∧ G.map Prod.fst = X.map Prod.fst := by
  have key : ∀ (X : List (LnH × Hp)) (L : List Ln), OwnX X L → (∀ p ∈ (X.map Prod.snd).flatten, R p.1 p.2) → ∃ G : List LnC, G.map Prod.fst = X.map Prod.fst ∧ G.map lnOf = L ∧ ∀ g ∈ G, SlR cellE R g.1.v g.2 := by
    intro X
    induction X with
    | nil => intro L h _; cases L with
      | nil => exact ⟨[], rfl, rfl, fun g hg => by cases hg⟩
      | cons _ _ => exact h.elim
    | cons x X ih => intro L h hp; cases L with
      | nil => exact h.elim
      | cons l L =>
        obtain ⟨⟨h1, h2, h3⟩, h4⟩ := h
        obtain ⟨G, g1, g2, g3⟩ := ih L h4 (fun p hp' => hp p (by simp only [List.map_cons, List.flatten_cons, List.mem_append]; exact .inr hp'))
        refine ⟨(x.1, l.cells) :: G, by simp [g1], ?_, fun g hg => ?_⟩
        · simp only [List.map_cons, g2, lnOf, h2, h3]
        · rcases List.mem_cons.1 hg with rfl | hg
          · exact h1.1.inR fun p hp' => hp p (by simp only [List.map_cons, List.flatten_cons, List.mem_append]; exact .inl hp')
          · exact g3 g hg
  obtain ⟨G, g1, g2, g3⟩ := key X L hO (fun p hp => hc p (List.mem_append_right _ hp))
  exact ⟨G, ⟨by rw [g1]; exact ha.1.inR fun p hp => hc p (List.mem_append_left _ hp), g3⟩, g2, g1⟩
theorem w11 {v : SV} {G : List LnC} {h : Heap} {n : Int} (hv : LnsR (Now h) v G) (hl : G.length ≤ 100000) (hl2 : ∀ g ∈ G, g.2.length ≤ 100000) (hn : -9223372036854775808 ≤ n ∧ n ≤ 9223372036854775807) :
    Wc DD 11 [.sc v, i64 n] h fun w h' => (¬ okB (G.map lnOf) n ∧ w = .tup [.sc .nilp, i64 1] ∧ Sep (Now h) [] h') ∨
      (okB (G.map lnOf) n ∧ ∃ id u c X, w = .tup [.sc (.ptr id 0), i64 0] ∧ AccS lnE 27 u (X.map Prod.fst) c ∧ OwnX X (G.map lnOf) ∧ Sep (Now h) [vwO id u .nilp (newV (G.map lnOf) n), c, (X.map Prod.snd).flatten] h') := by
  have hs := Sep.entry h
  have hln := hv.ln
  have hGm : (G.map lnOf).length = G.length := List.length_map ..
  refine W_enter d11 ?_
  show W _ (.code m11_code [.sc v, i64 n, undefA, undefA, undefA, undefA, undefA, undefA, undefA, undefA, undefA, undefA, undefA, undefA, undefA, undefA, undefA, undefA, undefA, undefA, undefA, undefA, undefA, undefA, undefA, undefA, undefA, undefA, undefA, undefA, undefA, undefA, undefA, undefA, undefA, undefA, undefA, undefA, undefA, undefA, undefA, undefA, undefA, undefA, undefA] _) _
  unfold m11_code
  repeat' (first
    | (refine K_ops ?_; first
      | refine W_fastB rfl ?_
      | refine W_nil ?_
      | (refine K_guard ?_; first
        | refine W_guard_on rfl ?_
        | refine W_guard_off rfl rfl (W_norm rfl ?_)
        | (refine W_guardF rfl (fun hc => ?_) (fun hc => ?_) <;> (try rw [hc]) <;> (try simp only [decide_eq_true_eq, decide_eq_false_iff_not, beq_iff_eq, beq_eq_false_iff_ne, bne_iff_ne, bne_eq_false_iff_eq, Bool.not_eq_true', Bool.not_eq_false', Int.not_lt, Int.not_le, ne_eq, reduceCtorEq, not_true_eq_false, not_false_eq_true, Decidable.not_not] at hc) <;> (try (exfalso; omega)) <;> (try refine W_norm rfl ?_))
      )
      | (refine K_call ?_; first
        | (refine W_callsN 30 rfl (w30 (hv.now hs) hl) rfl ?_; rintro _ h2 ⟨rfl, t⟩; replace hs := hs.call t; try simp only [cell_back, attr_back, List.set_cons_zero, List.set_cons_succ, List.eraseIdx_cons_succ, List.eraseIdx_zero, List.tail_cons, List.nil_append, List.cons_append] at hs; refine W_norm rfl ?_)
        | (refine W_callsN 32 rfl (w32 (hv.now hs) hl hl2) rfl ?_; rintro _ h2 ⟨u, c, X, rfl, ha, hO, t⟩; replace hs := hs.call t; try simp only [cell_back, attr_back, List.set_cons_zero, List.set_cons_succ, List.eraseIdx_cons_succ, List.eraseIdx_zero, List.tail_cons, List.nil_append, List.cons_append] at hs; refine W_norm rfl ?_)
      )
      | (refine W_lenL rfl (by first | assumption | exact SlR.ln (by assumption) | exact AccS.ln (by assumption) | exact OwnS.ln (by assumption) | exact VwO.ln (by assumption) | exact OwnP.ln (by assumption) | exact Len.sl) ?_; refine W_norm rfl ?_)
      | (refine K_bin ?_; first
        | (refine W_sub rfl rfl (IntWalk.i64_in _ (by first | omega | (simp only [List.length_set, List.length_append, List.length_take, List.length_drop, List.length_replicate, List.length_cons, List.length_nil, decs_length, List.length_map]; omega))) ?_; refine W_norm rfl ?_)
      )
      | (refine K_pick ?_; first
        | refine W_pick_t rfl rfl (W_norm rfl ?_)
        | refine W_pick_f rfl rfl (W_norm rfl ?_)
      )
      | (refine K_store ?_; first
        | (refine W_storeC hs 0 rfl rfl rfl rfl (by first | decide | assumption) rfl rfl ?_; clear hs; intro _ hs; try simp only [cell_back, attr_back, List.set_cons_zero, List.set_cons_succ, List.eraseIdx_cons_succ, List.eraseIdx_zero, List.tail_cons, List.nil_append, List.cons_append] at hs; refine W_norm rfl ?_)
      )
      | (refine W_boxS hs rfl rfl ?_; clear hs; intro bx _ hs; try simp only [cell_back, attr_back, List.set_cons_zero, List.set_cons_succ, List.eraseIdx_cons_succ, List.eraseIdx_zero, List.tail_cons, List.nil_append, List.cons_append] at hs; refine W_norm rfl ?_)
      | (refine W_buildN rfl ?_; refine W_norm rfl ?_)
      | (refine W_max2 rfl rfl ?_; refine W_norm rfl ?_)
    )
    | (refine K_code ?_; first
      | refine W_seq ?_
      | refine W_ops ?_
      | refine W_cond_t rfl ?_
      | (refine W_cond rfl (fun hc => ?_) (fun hc => ?_) <;> (try rw [hc]) <;> (try simp only [decide_eq_true_eq, decide_eq_false_iff_not, beq_iff_eq, beq_eq_false_iff_ne, bne_iff_ne, bne_eq_false_iff_eq, Bool.not_eq_true', Bool.not_eq_false', Int.not_lt, Int.not_le, ne_eq, reduceCtorEq, not_true_eq_false, not_false_eq_true, Decidable.not_not] at hc) <;> (try (exfalso; omega)) <;> (try refine W_norm rfl ?_))
      | refine W_skip ?_
      | refine W_ret ?_
    )
    | refine seqK_n ?_
    | refine seqK_r ?_
    | (refine fnK_r rfl ?_; try dsimp only [gd_z, gd_s]))
  all_goals first
    | exact ⟨_, rfl, .inl ⟨fun ⟨a1, a2, a3, a4, a5⟩ => (any_map.1 (by assumption)) a5, rfl, hs⟩⟩
    | exact ⟨_, rfl, .inl ⟨fun ⟨a1, a2, a3, a4, a5⟩ => by omega, rfl, hs⟩⟩
    | (refine ⟨_, rfl, .inr ⟨⟨by omega, by omega, by omega, by omega, Classical.byContradiction fun hh => hc (any_map.2 hh)⟩, _, u, c, X, rfl, ha, hO, ?_⟩⟩
       simp only [newV, hGm]
       exact hs)
    | skip
/-- Lines that stand in parts of one's own. -/
theorem LnsR.cut {R : Ro} {v v' : SV} {G : List LnC} {n m : Nat} (q : SlR lnE R v' (((G.map Prod.fst).take n).drop m)) (p : LnsR R v G) : LnsR R v' ((G.take n).drop m) := ⟨by rw [List.map_drop, List.map_take]; exact q, fun g hg => p.2 g (List.mem_of_mem_take (List.mem_of_mem_drop hg))⟩
def seenV (v : Vw) : List Ln := (v.L.take (min (v.top + v.h) v.L.length).toNat).drop v.top.toNat
theorem w22 {R : Ro} {M : List Hp} {h : Heap} {id : Nat} {lv mk : SV} {v : Vw} {G : List LnC} (hs : Sep R (vwO id lv mk v :: M) h) (hG : VwR R lv mk v G) (ok : OkV v) :
    Wc DD 22 [.sc (.ptr id 0)] h fun w h' => ∃ u c X, w = .sc u ∧ AccS lnE 27 u (X.map Prod.fst) c ∧ OwnX X (seenV v) ∧ Sep R (c :: (X.map Prod.snd).flatten :: vwO id lv mk v :: M) h' := by
  have hl := hG.ln
  have hlen := hG.len
  have ok1 := ok.l.len
  have ok2 := ok.l.big
  have ht := ok.t0
  have ht1 := ok.t1
  have hy1 := ok.y1
  have hh := ok.l.h1
  have hh2 := ok.l.h2
  have hln := hG.lns.1
  have hGl : (G.map Prod.fst).length = v.L.length := by rw [List.length_map]; exact hlen
  refine W_enter d22 ?_
  show W _ (.code m22_code [.sc (.ptr id 0), undefA, undefA, undefA, undefA, undefA, undefA, undefA, undefA, undefA, undefA, undefA, undefA, undefA, undefA, undefA, undefA, undefA, undefA, undefA, undefA, undefA, undefA, undefA, undefA, undefA, undefA, undefA, undefA, undefA] _) _
  unfold m22_code
  have hcl : ∀ g ∈ G, g.2.length ≤ 1000 := fun g hg => (ok.l.cells (lnOf g) (by rw [← hG.map]; exact List.mem_map_of_mem hg)).2
  repeat' (first
    | (refine K_ops ?_; first
      | refine W_fastB rfl ?_
      | refine W_nil ?_
      | (refine K_call ?_; first
        | (refine W_callsN 33 rfl (w33 hs hl ok1) rfl ?_; rintro _ h ⟨rfl, rfl⟩; refine W_norm rfl ?_)
        | (refine W_callsN 32 rfl (w32 ((LnsR.cut (by assumption) hG.lns).now hs) (by simp; omega) (fun g hg => Nat.le_trans (hcl g (List.mem_of_mem_take (List.mem_of_mem_drop hg))) (by omega))) rfl ?_; rintro _ h2 ⟨u, c, X, rfl, ha, hO, t⟩; replace hs := hs.call t; try simp only [cell_back, attr_back, List.set_cons_zero, List.set_cons_succ, List.eraseIdx_cons_succ, List.eraseIdx_zero, List.tail_cons, List.nil_append, List.cons_append] at hs; refine W_norm rfl ?_)
      )
      | (refine W_lenL rfl (by first | assumption | exact SlR.ln (by assumption) | exact AccS.ln (by assumption) | exact OwnS.ln (by assumption) | exact VwO.ln (by assumption) | exact OwnP.ln (by assumption) | exact Len.sl) ?_; refine W_norm rfl ?_)
      | (refine K_bin ?_; first
        | (refine W_add rfl rfl (IntWalk.i64_in _ (by first | omega | (simp only [List.length_set, List.length_append, List.length_take, List.length_drop, List.length_replicate, List.length_cons, List.length_nil, decs_length, List.length_map]; omega))) ?_; refine W_norm rfl ?_)
      )
      | (refine K_load ?_; first
        | (refine W_loadC hs 0 rfl rfl rfl ?_; refine W_norm rfl ?_)
      )
      | (refine K_slice ?_; first
        | (refine W_sliceR rfl rfl rfl (by assumption) rfl ⟨(by first | omega | (simp only [List.length_set, List.length_append, List.length_take, List.length_drop, List.length_replicate, List.length_cons, List.length_nil, decs_length, List.length_map]; omega)), (by first | omega | (simp only [List.length_set, List.length_append, List.length_take, List.length_drop, List.length_replicate, List.length_cons, List.length_nil, decs_length, List.length_map]; omega)), (by first | omega | (simp only [List.length_set, List.length_append, List.length_take, List.length_drop, List.length_replicate, List.length_cons, List.length_nil, decs_length, List.length_map]; omega))⟩ ?_; intro _ _; refine W_norm rfl ?_)
      )
      | (refine W_min2 rfl rfl ?_; refine W_norm rfl ?_)
    )
    | (refine K_code ?_; first
      | refine W_seq ?_
      | refine W_ops ?_
      | refine W_cond_f rfl ?_
      | refine W_skip ?_
      | refine W_ret ?_
      | refine W_draw rfl ?_
    )
    | refine seqK_n ?_
    | (refine fnK_r rfl ?_; try dsimp only [gd_z, gd_s]))
  refine ⟨_, rfl, _, _, _, rfl, ha, ?_, hs⟩
  unfold seenV
  rw [← hG.map]
  rw [List.map_drop, List.map_take] at hO
  rw [List.length_map, hlen]
  exact hO
end Go.Proofs.YtbkhjpclnfljbaaDoor
