/- Reflow: the lines of a paragraph. -/
import Derived.Test.YtllhbhhgihdakaaDoorJxW15a
set_option linter.unusedSimpArgs false
set_option linter.unusedVariables false
set_option maxHeartbeats 1000000
set_option maxRecDepth 100000
namespace Go.Proofs.YtllhbhhgihdakaaDoor
open Go Go.Jx

theorem linesGo_short {w : Nat} {A : List Cell} {c : Cell} {cs : List Cell} (h1 : c.w = 1) (h2 : A.length = w - 1) : linesGo w A (c :: cs) = ⟨A ++ [plC], true, true⟩ :: linesGo w [c] cs := by
  rw [linesGo, if_pos ⟨h1, h2⟩]
theorem linesGo_full {w : Nat} {A : List Cell} {c : Cell} {cs : List Cell} (h1 : ¬(c.w = 1 ∧ A.length = w - 1)) (h2 : A.length = w) : linesGo w A (c :: cs) = ⟨A, true, false⟩ :: linesGo w [c] cs := by
  rw [linesGo, if_neg h1, if_pos h2]
theorem linesGo_on {w : Nat} {A : List Cell} {c : Cell} {cs : List Cell} (h1 : ¬(c.w = 1 ∧ A.length = w - 1)) (h2 : A.length ≠ w) : linesGo w A (c :: cs) = linesGo w (A ++ [c]) cs := by
  rw [linesGo, if_neg h1, if_neg h2]
theorem drop_getD {L : List Cell} {i : Nat} (h : i < L.length) : L.drop i = L.getD (i : Int).toNat cellE.dflt :: L.drop (i + 1) := by
  rw [Int.toNat_natCast, show cellE.dflt = cell0 from rfl]
  rw [List.drop_eq_getElem_cons h, List.getD_eq_getElem?_getD, List.getElem?_eq_getElem h]; rfl
theorem done_push {G : List LnC} {d e : Hp} {g : LnC} (h1 : ∀ g ∈ G, SlR cellE (InP d) g.1.v g.2) (h2 : SlR cellE (InP e) g.1.v g.2) : ∀ x ∈ G ++ [g], SlR cellE (InP (e ++ d)) x.1.v x.2 := by
  intro x hx
  rcases List.mem_append.1 hx with hx | hx
  · exact (h1 x hx).mono (InP.right e d)
  · simp only [List.mem_singleton] at hx
    subst hx
    exact h2.mono (InP.left e d)

set_option maxHeartbeats 4000000 in
theorem w27 {v : SV} {L : List Cell} {w : Int} {h : Heap} (hv : SlR cellE (Now h) v L) (hl : L.length ≤ 10000000000) (hw : okW w) : Wc DD 27 [.sc v, i64 w] h fun x h' => ∃ u c G, x = .sc u ∧ LnsR (InP c) u G ∧ G.map lnOf = linesP w.toNat L ∧ Sep (Now h) [c] h' := by
  have hs := Sep.entry h
  have hln := hv.ln
  obtain ⟨hw1, hw2⟩ := hw
  obtain ⟨N, rfl⟩ : ∃ N : Nat, w = (N : Int) := ⟨w.toNat, by omega⟩
  rw [Int.toNat_natCast]
  have hnil : AccS cellE 48 .nils [] [] := AccS.nil _
  refine W_enter d27 ?_
  show W _ (.code m27_code [.sc v, i64 (N : Int), undefA, undefA, undefA, undefA, undefA, undefA, undefA, undefA, undefA, undefA, undefA, undefA, undefA, undefA, undefA, undefA, undefA, undefA, undefA, undefA, undefA, undefA, undefA, undefA, undefA, undefA, undefA, undefA, undefA, undefA, undefA, undefA, undefA, undefA, undefA, undefA, undefA, undefA, undefA, undefA, undefA, undefA, undefA, undefA, undefA, undefA, undefA, undefA, undefA, undefA, undefA, undefA, undefA, undefA, undefA, undefA, undefA, undefA, undefA, undefA, undefA, undefA, undefA, undefA, undefA, undefA, undefA] _) _
  unfold m27_code
  repeat' (first
    | (refine K_ops ?_; first
      | refine W_fastB rfl ?_
      | refine W_nil ?_
      | (refine W_lenL rfl (by first | assumption | exact SlR.ln (by assumption) | exact AccS.ln (by assumption) | exact OwnS.ln (by assumption) | exact VwO.ln (by assumption) | exact OwnP.ln (by assumption) | exact Len.sl) ?_; refine W_norm rfl ?_)
      | (refine W_allocS hs ?_; clear hs; intro al _ hs; try simp only [cell_back, attr_back, List.set_cons_zero, List.set_cons_succ, List.eraseIdx_cons_succ, List.eraseIdx_zero, List.tail_cons, List.nil_append, List.cons_append] at hs; refine W_norm rfl ?_)
    )
    | (refine K_code ?_; first
      | refine W_seq ?_
      | refine W_ops ?_
      | refine W_block ?_
    )
    | refine seqK_n ?_)
  generalize hai : al = ai at *
  refine W_loopB [5, 8, 9, 12, 13, 14, 15, 16, 17, 18, 19, 20, 21, 22, 23, 24, 25, 26, 27, 28, 29, 30, 31, 32, 33, 34, 35, 36, 37, 38, 39, 40, 41, 42, 43, 44, 45, 46, 47, 48, 49, 50, 51, 52, 53] [0, 1, 2, 3, 4, 5, 6, 7, 8, 9, 10, 11, 12, 13, 14, 15, 16, 17, 18, 19, 20, 21, 22, 23, 24, 25, 26, 27, 28, 29, 30, 31, 32, 33, 34, 35, 36, 37, 38, 39, 40, 41, 42, 43, 44, 45, 46, 47, 48, 49, 50, 51, 52, 53, 54, 55, 56, 57, 58, 59, 60, 61, 62, 63, 64, 65, 66, 67, 68] (fun n' sl h' => ∃ (i : Nat) (u : SV) (G : List LnC) (c d : Hp) (q : SV) (A : List Cell) (e : Hp), sl = [(5, .sc u), (12, .sc (.int .i64 (i : Int)))] ∧ n' = L.length - i ∧ i ≤ L.length ∧ A.length ≤ N ∧ G.length ≤ i ∧ AccS lnE 39 u (G.map Prod.fst) c ∧ (∀ g ∈ G, SlR cellE (InP d) g.1.v g.2) ∧ AccS cellE 48 q A e ∧ G.map lnOf ++ linesGo N A (L.drop i) = linesP N L ∧ Sep (Now h) [c, d, e, [(ai, .cells 39 .own [q, .bool false, .bool false])]] h') ?_ ?_
  · refine ⟨_, _, ⟨0, .nils, [], [], [], .nils, [], [], rfl, rfl, Nat.zero_le _, Nat.zero_le _, Nat.zero_le _, AccS.nil _, by simp, AccS.nil _, rfl, hs.nil.nil.nil⟩, EnvB.of rfl⟩
  · clear hs
    rintro _ _ us _ h2 ⟨i, u, G, c, d, q, A, e, rfl, rfl, hi, hA, hG, hacc, hdone, hq, heq, hs⟩ he
    refine W_spell he rfl ?_
    clear he
    unfold m27_l4
    by_cases hlt : i < L.length
    · rw [drop_getD hlt] at heq
      replace hs := hs.nil
      have hGl : (G.map Prod.fst).length = G.length := List.length_map _
      by_cases h12 : (L.getD (i : Int).toNat cellE.dflt).w = 1 ∧ A.length = N - 1
      · obtain ⟨h1, h2⟩ := h12
        · rw [linesGo_short h1 h2] at heq
          repeat' (first
            | (refine K_ops ?_; first
              | refine W_fastB rfl ?_
              | refine W_nil ?_
              | (refine K_guard ?_; first
                | refine W_guard_on rfl ?_
                | (refine W_guardT rfl (fun hc => ?_) (fun hc => ?_) <;> (try rw [hc]) <;> (try simp only [decide_eq_true_eq, decide_eq_false_iff_not, beq_iff_eq, beq_eq_false_iff_ne, bne_iff_ne, bne_eq_false_iff_eq, Bool.not_eq_true', Bool.not_eq_false', Int.not_lt, Int.not_le, ne_eq, reduceCtorEq, not_true_eq_false, not_false_eq_true, Decidable.not_not] at hc) <;> (try (exfalso; omega)) <;> (try refine W_norm rfl ?_))
              )
              | (refine W_lenL rfl (by first | assumption | exact SlR.ln (by assumption) | exact AccS.ln (by assumption) | exact OwnS.ln (by assumption) | exact VwO.ln (by assumption) | exact OwnP.ln (by assumption) | exact Len.sl) ?_; refine W_norm rfl ?_)
              | (refine K_bin ?_; first
                | (refine W_sub rfl rfl (IntWalk.i64_in _ (by first | omega | (simp only [List.length_set, List.length_append, List.length_take, List.length_drop, List.length_replicate, List.length_cons, List.length_nil, decs_length, List.length_map]; omega))) ?_; refine W_norm rfl ?_)
              )
              | (refine K_pick ?_; first
                | refine W_pick_t rfl rfl (W_norm rfl ?_)
              )
              | (refine K_index ?_; first
                | (refine W_indexR rfl rfl (by assumption) rfl ⟨(by first | omega | (simp only [List.length_set, List.length_append, List.length_take, List.length_drop, List.length_replicate, List.length_cons, List.length_nil, decs_length, List.length_map]; omega)), (by first | omega | (simp only [List.length_set, List.length_append, List.length_take, List.length_drop, List.length_replicate, List.length_cons, List.length_nil, decs_length, List.length_map]; omega))⟩ ?_; intro _ _ _; refine W_norm rfl ?_)
              )
              | (refine K_load ?_; first
                | (refine W_loadRA hs rfl (by assumption) rfl ?_; refine W_norm rfl ?_)
                | (refine W_loadC hs 0 rfl rfl rfl ?_; refine W_norm rfl ?_)
                | (refine W_loadC hs 5 rfl rfl rfl ?_; refine W_norm rfl ?_)
              )
              | (refine K_store ?_; first
                | (refine W_storeC hs 0 rfl rfl rfl rfl (by first | decide | assumption) rfl rfl ?_; clear hs; intro _ hs; try simp only [cell_back, attr_back, List.set_cons_zero, List.set_cons_succ, List.eraseIdx_cons_succ, List.eraseIdx_zero, List.tail_cons, List.nil_append, List.cons_append] at hs; refine W_norm rfl ?_)
              )
              | (refine W_allocS hs ?_; clear hs; intro al _ hs; try simp only [cell_back, attr_back, List.set_cons_zero, List.set_cons_succ, List.eraseIdx_cons_succ, List.eraseIdx_zero, List.tail_cons, List.nil_append, List.cons_append] at hs; refine W_norm rfl ?_)
            )
            | (refine K_code ?_; first
              | (refine W_midB (a := .seq (.ops m27_r8) (.cond (.t 27) (.draw m27_r9) .skip)) [27, 28, 29, 30, 31, 32, 33] [0, 1, 2, 3, 4, 5, 6, 7, 8, 9, 10, 11, 12, 13, 14, 15, 16, 17, 18, 19, 20, 21, 22, 23, 24, 25, 26, 27, 28, 29, 30, 31, 32, 33, 34, 35, 36, 37, 38, 39, 40, 41, 42, 43, 44, 45, 46, 47, 48, 49, 50, 51, 52, 53, 54, 55, 56, 57, 58, 59, 60, 61, 62, 63, 64, 65, 66, 67, 68] (fun sl h' => ∃ (q2 : SV) (A2 : List Cell) (e2 : Hp), sl = [] ∧ AccS cellE 48 q2 A2 e2 ∧ A2.length = N ∧ Hid (A2 = A ++ [plC]) ∧ Sep (Now h) [[(al, .cells 48 .own (cellE.enc (L.getD (i : Int).toNat cellE.dflt)))], [], c, d, e2, [(ai, .cells 39 .own [q2, .bool false, .bool false])]] h') ?_ ?_)
              | refine W_seq ?_
              | refine W_ops ?_
              | (refine W_cond rfl (fun hc => ?_) (fun hc => ?_) <;> (try rw [hc]) <;> (try simp only [decide_eq_true_eq, decide_eq_false_iff_not, beq_iff_eq, beq_eq_false_iff_ne, bne_iff_ne, bne_eq_false_iff_eq, Bool.not_eq_true', Bool.not_eq_false', Int.not_lt, Int.not_le, ne_eq, reduceCtorEq, not_true_eq_false, not_false_eq_true, Decidable.not_not] at hc) <;> (try (exfalso; omega)) <;> (try refine W_norm rfl ?_))
              | refine W_skip ?_
              | refine W_block ?_
            )
            | refine seqK_n ?_)
          · repeat' (first
              | (refine K_ops ?_; first
                | refine W_fastB rfl ?_
                | refine W_nil ?_
                | (refine K_call ?_; first
                  | (refine W_callsN 29 rfl (w29) rfl ?_; rintro _ h3 ⟨rfl, t⟩; have hs := hs.call t; try simp only [cell_back, attr_back, List.set_cons_zero, List.set_cons_succ, List.eraseIdx_cons_succ, List.eraseIdx_zero, List.tail_cons, List.nil_append, List.cons_append] at hs; refine W_norm rfl ?_)
                )
                | (refine K_load ?_; first
                  | (refine W_loadC hs 5 rfl rfl rfl ?_; refine W_norm rfl ?_)
                )
                | (refine K_store ?_; first
                  | (refine W_storeC hs 6 rfl rfl rfl rfl (by first | decide | assumption) rfl rfl ?_; intro _ hs; try simp only [cell_back, attr_back, List.set_cons_zero, List.set_cons_succ, List.eraseIdx_cons_succ, List.eraseIdx_zero, List.tail_cons, List.nil_append, List.cons_append] at hs; refine W_norm rfl ?_)
                )
                | (refine K_bslice ?_; first
                  | (refine W_buildS1 cellE hs rfl rfl ?_; intro _ _ _ _ hs; try simp only [cell_back, attr_back, List.set_cons_zero, List.set_cons_succ, List.eraseIdx_cons_succ, List.eraseIdx_zero, List.tail_cons, List.nil_append, List.cons_append] at hs; refine W_norm rfl ?_)
                )
                | (refine K_append ?_; first
                  | (refine W_appS hs 5 rfl rfl (by assumption) rfl (by first | assumption | exact SlR.now hs (by assumption) | exact AccS.now (by assumption) hs (by simp) | exact OwnS.now (by assumption) hs (by simp)) rfl ⟨by decide, (by first | omega | (simp only [List.length_set, List.length_append, List.length_take, List.length_drop, List.length_replicate, List.length_cons, List.length_nil, decs_length, List.length_map]; omega))⟩ ?_; intro _ _ _ _ hs; try simp only [cell_back, attr_back, List.set_cons_zero, List.set_cons_succ, List.eraseIdx_cons_succ, List.eraseIdx_zero, List.tail_cons, List.nil_append, List.cons_append] at hs; refine W_norm rfl ?_)
                )
              )
              | (refine K_code ?_; first
                | refine W_draws ?_
              )
              | refine W_dstep rfl ?_
              | refine ⟨rfl, fun rc hrec => ?_⟩
              | (refine W_dnilS (by simp only [List.reverse_cons, List.reverse_nil, List.nil_append, List.cons_append]; rfl) (by repeat' first | exact CL_nil _ _ | refine CL_skip rfl ?_ | refine CL_load (by assumption) rfl (by first | exact trivial | (repeat' first | exact trivial | refine ⟨⟨_, rfl, (by refine (congrArg (fun x => Heap.get x _) (RecIs.hh (by assumption))).trans ?_; first | rfl | exact PtR.same_get (by assumption) (by assumption) (by assumption) | exact Sep.same_get (by assumption) (by assumption) 0 0 rfl rfl | exact Sep.same_get (by assumption) (by assumption) 0 1 rfl rfl | exact Sep.same_get (by assumption) (by assumption) 0 2 rfl rfl | exact Sep.same_get (by assumption) (by assumption) 0 3 rfl rfl | exact Sep.same_get (by assumption) (by assumption) 0 4 rfl rfl | exact Sep.same_get (by assumption) (by assumption) 0 5 rfl rfl | exact Sep.same_get (by assumption) (by assumption) 0 6 rfl rfl | exact Sep.same_get (by assumption) (by assumption) 1 0 rfl rfl | exact Sep.same_get (by assumption) (by assumption) 1 1 rfl rfl | exact Sep.same_get (by assumption) (by assumption) 1 2 rfl rfl | exact Sep.same_get (by assumption) (by assumption) 1 3 rfl rfl | exact Sep.same_get (by assumption) (by assumption) 1 4 rfl rfl | exact Sep.same_get (by assumption) (by assumption) 1 5 rfl rfl | exact Sep.same_get (by assumption) (by assumption) 1 6 rfl rfl | exact Sep.same_get (by assumption) (by assumption) 2 0 rfl rfl | exact Sep.same_get (by assumption) (by assumption) 2 1 rfl rfl | exact Sep.same_get (by assumption) (by assumption) 2 2 rfl rfl | exact Sep.same_get (by assumption) (by assumption) 2 3 rfl rfl | exact Sep.same_get (by assumption) (by assumption) 2 4 rfl rfl | exact Sep.same_get (by assumption) (by assumption) 2 5 rfl rfl | exact Sep.same_get (by assumption) (by assumption) 2 6 rfl rfl | exact Sep.same_get (by assumption) (by assumption) 3 0 rfl rfl | exact Sep.same_get (by assumption) (by assumption) 3 1 rfl rfl | exact Sep.same_get (by assumption) (by assumption) 3 2 rfl rfl | exact Sep.same_get (by assumption) (by assumption) 3 3 rfl rfl | exact Sep.same_get (by assumption) (by assumption) 3 4 rfl rfl | exact Sep.same_get (by assumption) (by assumption) 3 5 rfl rfl | exact Sep.same_get (by assumption) (by assumption) 3 6 rfl rfl | exact Sep.same_get (by assumption) (by assumption) 4 0 rfl rfl | exact Sep.same_get (by assumption) (by assumption) 4 1 rfl rfl | exact Sep.same_get (by assumption) (by assumption) 4 2 rfl rfl | exact Sep.same_get (by assumption) (by assumption) 4 3 rfl rfl | exact Sep.same_get (by assumption) (by assumption) 4 4 rfl rfl | exact Sep.same_get (by assumption) (by assumption) 4 5 rfl rfl | exact Sep.same_get (by assumption) (by assumption) 4 6 rfl rfl | exact Sep.same_get (by assumption) (by assumption) 5 0 rfl rfl | exact Sep.same_get (by assumption) (by assumption) 5 1 rfl rfl | exact Sep.same_get (by assumption) (by assumption) 5 2 rfl rfl | exact Sep.same_get (by assumption) (by assumption) 5 3 rfl rfl | exact Sep.same_get (by assumption) (by assumption) 5 4 rfl rfl | exact Sep.same_get (by assumption) (by assumption) 5 5 rfl rfl | exact Sep.same_get (by assumption) (by assumption) 5 6 rfl rfl | exact Sep.same_get (by assumption) (by assumption) 6 0 rfl rfl | exact Sep.same_get (by assumption) (by assumption) 6 1 rfl rfl | exact Sep.same_get (by assumption) (by assumption) 6 2 rfl rfl | exact Sep.same_get (by assumption) (by assumption) 6 3 rfl rfl | exact Sep.same_get (by assumption) (by assumption) 6 4 rfl rfl | exact Sep.same_get (by assumption) (by assumption) 6 5 rfl rfl | exact Sep.same_get (by assumption) (by assumption) 6 6 rfl rfl)⟩, ?_⟩)) (by first | exact trivial | (repeat' first | exact trivial | refine ⟨⟨_, rfl, (by refine (congrArg (fun x => Heap.get x _) (RecIs.hh' (by assumption))).trans ?_; first | rfl | exact PtR.same_get (by assumption) (by assumption) (by assumption) | exact Sep.same_get (by assumption) (by assumption) 0 0 rfl rfl | exact Sep.same_get (by assumption) (by assumption) 0 1 rfl rfl | exact Sep.same_get (by assumption) (by assumption) 0 2 rfl rfl | exact Sep.same_get (by assumption) (by assumption) 0 3 rfl rfl | exact Sep.same_get (by assumption) (by assumption) 0 4 rfl rfl | exact Sep.same_get (by assumption) (by assumption) 0 5 rfl rfl | exact Sep.same_get (by assumption) (by assumption) 0 6 rfl rfl | exact Sep.same_get (by assumption) (by assumption) 1 0 rfl rfl | exact Sep.same_get (by assumption) (by assumption) 1 1 rfl rfl | exact Sep.same_get (by assumption) (by assumption) 1 2 rfl rfl | exact Sep.same_get (by assumption) (by assumption) 1 3 rfl rfl | exact Sep.same_get (by assumption) (by assumption) 1 4 rfl rfl | exact Sep.same_get (by assumption) (by assumption) 1 5 rfl rfl | exact Sep.same_get (by assumption) (by assumption) 1 6 rfl rfl | exact Sep.same_get (by assumption) (by assumption) 2 0 rfl rfl | exact Sep.same_get (by assumption) (by assumption) 2 1 rfl rfl | exact Sep.same_get (by assumption) (by assumption) 2 2 rfl rfl | exact Sep.same_get (by assumption) (by assumption) 2 3 rfl rfl | exact Sep.same_get (by assumption) (by assumption) 2 4 rfl rfl | exact Sep.same_get (by assumption) (by assumption) 2 5 rfl rfl | exact Sep.same_get (by assumption) (by assumption) 2 6 rfl rfl | exact Sep.same_get (by assumption) (by assumption) 3 0 rfl rfl | exact Sep.same_get (by assumption) (by assumption) 3 1 rfl rfl | exact Sep.same_get (by assumption) (by assumption) 3 2 rfl rfl | exact Sep.same_get (by assumption) (by assumption) 3 3 rfl rfl | exact Sep.same_get (by assumption) (by assumption) 3 4 rfl rfl | exact Sep.same_get (by assumption) (by assumption) 3 5 rfl rfl | exact Sep.same_get (by assumption) (by assumption) 3 6 rfl rfl | exact Sep.same_get (by assumption) (by assumption) 4 0 rfl rfl | exact Sep.same_get (by assumption) (by assumption) 4 1 rfl rfl | exact Sep.same_get (by assumption) (by assumption) 4 2 rfl rfl | exact Sep.same_get (by assumption) (by assumption) 4 3 rfl rfl | exact Sep.same_get (by assumption) (by assumption) 4 4 rfl rfl | exact Sep.same_get (by assumption) (by assumption) 4 5 rfl rfl | exact Sep.same_get (by assumption) (by assumption) 4 6 rfl rfl | exact Sep.same_get (by assumption) (by assumption) 5 0 rfl rfl | exact Sep.same_get (by assumption) (by assumption) 5 1 rfl rfl | exact Sep.same_get (by assumption) (by assumption) 5 2 rfl rfl | exact Sep.same_get (by assumption) (by assumption) 5 3 rfl rfl | exact Sep.same_get (by assumption) (by assumption) 5 4 rfl rfl | exact Sep.same_get (by assumption) (by assumption) 5 5 rfl rfl | exact Sep.same_get (by assumption) (by assumption) 5 6 rfl rfl | exact Sep.same_get (by assumption) (by assumption) 6 0 rfl rfl | exact Sep.same_get (by assumption) (by assumption) 6 1 rfl rfl | exact Sep.same_get (by assumption) (by assumption) 6 2 rfl rfl | exact Sep.same_get (by assumption) (by assumption) 6 3 rfl rfl | exact Sep.same_get (by assumption) (by assumption) 6 4 rfl rfl | exact Sep.same_get (by assumption) (by assumption) 6 5 rfl rfl | exact Sep.same_get (by assumption) (by assumption) 6 6 rfl rfl)⟩, ?_⟩)) ?_) ?_)
              | refine midK_n ?_)
            refine ⟨_, ⟨_, _, _, rfl, by assumption, (by rw [List.length_append]; simp only [List.length_cons, List.length_nil]; omega), rfl, hs.drop 0⟩, EnvB.of rfl⟩
          clear hs
          rintro _ us _ h3 ⟨q2, A2, e2, rfl, hq2, hA2, hAe, hs⟩ he
          refine W_spell he rfl ?_
          clear he hq
          repeat' (first
            | (refine K_ops ?_; first
              | refine W_fastB rfl ?_
              | refine W_nil ?_
              | (refine W_lenL rfl (by first | assumption | exact SlR.ln (by assumption) | exact AccS.ln (by assumption) | exact OwnS.ln (by assumption) | exact VwO.ln (by assumption) | exact OwnP.ln (by assumption) | exact Len.sl) ?_; refine W_norm rfl ?_)
              | (refine K_bin ?_; first
                | (refine W_add rfl rfl (IntWalk.i64_in _ (by first | omega | (simp only [List.length_set, List.length_append, List.length_take, List.length_drop, List.length_replicate, List.length_cons, List.length_nil, decs_length, List.length_map]; omega))) ?_; refine W_norm rfl ?_)
              )
              | (refine K_load ?_; first
                | (refine W_loadCA hs 0 rfl rfl rfl ?_; refine W_norm rfl ?_)
                | (refine W_loadC hs 5 rfl rfl rfl ?_; refine W_norm rfl ?_)
                | (refine W_loadCA hs 5 rfl rfl rfl ?_; refine W_norm rfl ?_)
              )
              | (refine K_store ?_; first
                | (refine W_storeC hs 5 rfl rfl rfl rfl (by first | decide | assumption) rfl rfl ?_; clear hs; intro _ hs; try simp only [cell_back, attr_back, List.set_cons_zero, List.set_cons_succ, List.eraseIdx_cons_succ, List.eraseIdx_zero, List.tail_cons, List.nil_append, List.cons_append] at hs; refine W_norm rfl ?_)
              )
              | (refine K_bslice ?_; first
                | (refine W_appB1 cellE hs 1 rfl rfl rfl (by assumption) rfl rfl rfl ⟨by decide, (by first | omega | (simp only [List.length_set, List.length_append, List.length_take, List.length_drop, List.length_replicate, List.length_cons, List.length_nil, decs_length, List.length_map]; omega))⟩ ?_; clear hs; intro _ _ _ _ _ hs; try simp only [cell_back, attr_back, List.set_cons_zero, List.set_cons_succ, List.eraseIdx_cons_succ, List.eraseIdx_zero, List.tail_cons, List.nil_append, List.cons_append] at hs; refine W_norm rfl ?_)
                | (refine W_appB1 lnE hs 2 rfl rfl rfl (by assumption) rfl rfl rfl ⟨by decide, (by first | omega | (simp only [List.length_set, List.length_append, List.length_take, List.length_drop, List.length_replicate, List.length_cons, List.length_nil, decs_length, List.length_map]; omega))⟩ ?_; clear hs; intro _ _ _ _ _ hs; try simp only [cell_back, attr_back, List.set_cons_zero, List.set_cons_succ, List.eraseIdx_cons_succ, List.eraseIdx_zero, List.tail_cons, List.nil_append, List.cons_append] at hs; refine W_norm rfl ?_)
              )
              | (refine W_buildN rfl ?_; refine W_norm rfl ?_)
            )
            | (refine K_code ?_; first
              | refine W_seq ?_
              | refine W_ops ?_
              | (refine W_cond rfl (fun hc => ?_) (fun hc => ?_) <;> (try rw [hc]) <;> (try simp only [decide_eq_true_eq, decide_eq_false_iff_not, beq_iff_eq, beq_eq_false_iff_ne, bne_iff_ne, bne_eq_false_iff_eq, Bool.not_eq_true', Bool.not_eq_false', Int.not_lt, Int.not_le, ne_eq, reduceCtorEq, not_true_eq_false, not_false_eq_true, Decidable.not_not] at hc) <;> (try (exfalso; omega)) <;> (try refine W_norm rfl ?_))
            )
            | refine seqK_n ?_
            | refine blockK_n ?_
            | refine invK_n ?_)
          rename_i g1 u3 c3 _ hacc3 _ g2 u4 c4 _ hq4 _
          obtain rfl : A2 = A ++ [plC] := hAe
          have hb : ((A.length : Int) == (N : Int) - 1) = true := by
            rw [beq_iff_eq]; omega
          rw [hb] at hacc3
          refine ⟨_, ?_, _, ⟨i + 1, u3, G ++ [(⟨q2, true, true⟩, A ++ [plC])], c3, e2 ++ d, u4, _, c4, rfl, rfl, ?_, ?_, ?_, ?_, done_push hdone (AccS.inP hq2), hq4, ?_, (hs.drop 0).reord (fun a => by simp only [List.flatten_cons, List.flatten_nil, List.count_append, List.count_nil, hpOf_append, hpOf_cons, hpOf_nil, List.append_nil, List.eraseIdx_cons_succ, List.eraseIdx_zero, List.tail_cons] <;> omega)⟩, EnvB.of rfl⟩
          · omega
          · omega
          · simp only [List.nil_append, List.length_cons, List.length_nil]; omega
          · rw [List.length_append, List.length_cons, List.length_nil]; omega
          · rw [List.map_append]; exact hacc3
          · rw [List.map_append, List.append_assoc]; exact heq
      · by_cases h2 : A.length = N
        · rw [linesGo_full h12 h2] at heq
          repeat' (first
            | (refine K_ops ?_; first
              | refine W_fastB rfl ?_
              | refine W_nil ?_
              | (refine K_guard ?_; first
                | refine W_guard_on rfl ?_
                | refine W_guard_off rfl rfl (W_norm rfl ?_)
                | (refine W_guardT rfl (fun hc => ?_) (fun hc => ?_) <;> (try rw [hc]) <;> (try simp only [decide_eq_true_eq, decide_eq_false_iff_not, beq_iff_eq, beq_eq_false_iff_ne, bne_iff_ne, bne_eq_false_iff_eq, Bool.not_eq_true', Bool.not_eq_false', Int.not_lt, Int.not_le, ne_eq, reduceCtorEq, not_true_eq_false, not_false_eq_true, Decidable.not_not] at hc) <;> (try (exfalso; omega)) <;> (try refine W_norm rfl ?_))
              )
              | (refine W_lenL rfl (by first | assumption | exact SlR.ln (by assumption) | exact AccS.ln (by assumption) | exact OwnS.ln (by assumption) | exact VwO.ln (by assumption) | exact OwnP.ln (by assumption) | exact Len.sl) ?_; refine W_norm rfl ?_)
              | (refine K_bin ?_; first
                | (refine W_add rfl rfl (IntWalk.i64_in _ (by first | omega | (simp only [List.length_set, List.length_append, List.length_take, List.length_drop, List.length_replicate, List.length_cons, List.length_nil, decs_length, List.length_map]; omega))) ?_; refine W_norm rfl ?_)
                | (refine W_sub rfl rfl (IntWalk.i64_in _ (by first | omega | (simp only [List.length_set, List.length_append, List.length_take, List.length_drop, List.length_replicate, List.length_cons, List.length_nil, decs_length, List.length_map]; omega))) ?_; refine W_norm rfl ?_)
              )
              | (refine K_pick ?_; first
                | refine W_pick_t rfl rfl (W_norm rfl ?_)
                | refine W_pick_f rfl rfl (W_norm rfl ?_)
              )
              | (refine K_index ?_; first
                | (refine W_indexR rfl rfl (by assumption) rfl ⟨(by first | omega | (simp only [List.length_set, List.length_append, List.length_take, List.length_drop, List.length_replicate, List.length_cons, List.length_nil, decs_length, List.length_map]; omega)), (by first | omega | (simp only [List.length_set, List.length_append, List.length_take, List.length_drop, List.length_replicate, List.length_cons, List.length_nil, decs_length, List.length_map]; omega))⟩ ?_; intro _ _ _; refine W_norm rfl ?_)
              )
              | (refine K_load ?_; first
                | (refine W_loadRA hs rfl (by assumption) rfl ?_; refine W_norm rfl ?_)
                | (refine W_loadC hs 0 rfl rfl rfl ?_; refine W_norm rfl ?_)
                | (refine W_loadCA hs 0 rfl rfl rfl ?_; refine W_norm rfl ?_)
                | (refine W_loadC hs 5 rfl rfl rfl ?_; refine W_norm rfl ?_)
                | (refine W_loadCA hs 5 rfl rfl rfl ?_; refine W_norm rfl ?_)
              )
              | (refine K_store ?_; first
                | (refine W_storeC hs 0 rfl rfl rfl rfl (by first | decide | assumption) rfl rfl ?_; clear hs; intro _ hs; try simp only [cell_back, attr_back, List.set_cons_zero, List.set_cons_succ, List.eraseIdx_cons_succ, List.eraseIdx_zero, List.tail_cons, List.nil_append, List.cons_append] at hs; refine W_norm rfl ?_)
                | (refine W_storeC hs 5 rfl rfl rfl rfl (by first | decide | assumption) rfl rfl ?_; clear hs; intro _ hs; try simp only [cell_back, attr_back, List.set_cons_zero, List.set_cons_succ, List.eraseIdx_cons_succ, List.eraseIdx_zero, List.tail_cons, List.nil_append, List.cons_append] at hs; refine W_norm rfl ?_)
              )
              | (refine W_allocS hs ?_; clear hs; intro al _ hs; try simp only [cell_back, attr_back, List.set_cons_zero, List.set_cons_succ, List.eraseIdx_cons_succ, List.eraseIdx_zero, List.tail_cons, List.nil_append, List.cons_append] at hs; refine W_norm rfl ?_)
              | (refine K_bslice ?_; first
                | (refine W_appB1 cellE hs 1 rfl rfl rfl (by assumption) rfl rfl rfl ⟨by decide, (by first | omega | (simp only [List.length_set, List.length_append, List.length_take, List.length_drop, List.length_replicate, List.length_cons, List.length_nil, decs_length, List.length_map]; omega))⟩ ?_; clear hs; intro _ _ _ _ _ hs; try simp only [cell_back, attr_back, List.set_cons_zero, List.set_cons_succ, List.eraseIdx_cons_succ, List.eraseIdx_zero, List.tail_cons, List.nil_append, List.cons_append] at hs; refine W_norm rfl ?_)
                | (refine W_appB1 lnE hs 2 rfl rfl rfl (by assumption) rfl rfl rfl ⟨by decide, (by first | omega | (simp only [List.length_set, List.length_append, List.length_take, List.length_drop, List.length_replicate, List.length_cons, List.length_nil, decs_length, List.length_map]; omega))⟩ ?_; clear hs; intro _ _ _ _ _ hs; try simp only [cell_back, attr_back, List.set_cons_zero, List.set_cons_succ, List.eraseIdx_cons_succ, List.eraseIdx_zero, List.tail_cons, List.nil_append, List.cons_append] at hs; refine W_norm rfl ?_)
              )
              | (refine W_buildN rfl ?_; refine W_norm rfl ?_)
            )
            | (refine K_code ?_; first
              | refine W_seq ?_
              | refine W_ops ?_
              | refine W_cond_f rfl ?_
              | (refine W_cond rfl (fun hc => ?_) (fun hc => ?_) <;> (try rw [hc]) <;> (try simp only [decide_eq_true_eq, decide_eq_false_iff_not, beq_iff_eq, beq_eq_false_iff_ne, bne_iff_ne, bne_eq_false_iff_eq, Bool.not_eq_true', Bool.not_eq_false', Int.not_lt, Int.not_le, ne_eq, reduceCtorEq, not_true_eq_false, not_false_eq_true, Decidable.not_not] at hc) <;> (try (exfalso; omega)) <;> (try refine W_norm rfl ?_))
              | refine W_skip ?_
              | refine W_block ?_
            )
            | refine seqK_n ?_
            | refine blockK_n ?_
            | refine invK_n ?_)
          all_goals
            rename_i g1 u3 c3 _ hacc3 _ g2 u4 c4 _ hq4 _
            refine ⟨_, ?_, _, ⟨i + 1, u3, G ++ [(⟨q, true, false⟩, A)], c3, e ++ d, u4, _, c4, rfl, rfl, ?_, ?_, ?_, ?_, done_push hdone (AccS.inP hq), hq4, ?_, (hs.drop 0).reord (fun a => by simp only [List.flatten_cons, List.flatten_nil, List.count_append, List.count_nil, hpOf_append, hpOf_cons, hpOf_nil, List.append_nil, List.eraseIdx_cons_succ, List.eraseIdx_zero, List.tail_cons] <;> omega)⟩, EnvB.of rfl⟩
            · omega
            · omega
            · simp only [List.nil_append, List.length_cons, List.length_nil]; omega
            · rw [List.length_append, List.length_cons, List.length_nil]; omega
            · rw [List.map_append]; exact hacc3
            · rw [List.map_append, List.append_assoc]; exact heq
        · rw [linesGo_on h12 h2] at heq
          repeat' (first
            | (refine K_ops ?_; first
              | refine W_fastB rfl ?_
              | refine W_nil ?_
              | (refine K_guard ?_; first
                | refine W_guard_on rfl ?_
                | refine W_guard_off rfl rfl (W_norm rfl ?_)
                | (refine W_guardT rfl (fun hc => ?_) (fun hc => ?_) <;> (try rw [hc]) <;> (try simp only [decide_eq_true_eq, decide_eq_false_iff_not, beq_iff_eq, beq_eq_false_iff_ne, bne_iff_ne, bne_eq_false_iff_eq, Bool.not_eq_true', Bool.not_eq_false', Int.not_lt, Int.not_le, ne_eq, reduceCtorEq, not_true_eq_false, not_false_eq_true, Decidable.not_not] at hc) <;> (try (exfalso; omega)) <;> (try refine W_norm rfl ?_))
              )
              | (refine W_lenL rfl (by first | assumption | exact SlR.ln (by assumption) | exact AccS.ln (by assumption) | exact OwnS.ln (by assumption) | exact VwO.ln (by assumption) | exact OwnP.ln (by assumption) | exact Len.sl) ?_; refine W_norm rfl ?_)
              | (refine K_bin ?_; first
                | (refine W_add rfl rfl (IntWalk.i64_in _ (by first | omega | (simp only [List.length_set, List.length_append, List.length_take, List.length_drop, List.length_replicate, List.length_cons, List.length_nil, decs_length, List.length_map]; omega))) ?_; refine W_norm rfl ?_)
                | (refine W_sub rfl rfl (IntWalk.i64_in _ (by first | omega | (simp only [List.length_set, List.length_append, List.length_take, List.length_drop, List.length_replicate, List.length_cons, List.length_nil, decs_length, List.length_map]; omega))) ?_; refine W_norm rfl ?_)
              )
              | (refine K_pick ?_; first
                | refine W_pick_t rfl rfl (W_norm rfl ?_)
                | refine W_pick_f rfl rfl (W_norm rfl ?_)
              )
              | (refine K_index ?_; first
                | (refine W_indexR rfl rfl (by assumption) rfl ⟨(by first | omega | (simp only [List.length_set, List.length_append, List.length_take, List.length_drop, List.length_replicate, List.length_cons, List.length_nil, decs_length, List.length_map]; omega)), (by first | omega | (simp only [List.length_set, List.length_append, List.length_take, List.length_drop, List.length_replicate, List.length_cons, List.length_nil, decs_length, List.length_map]; omega))⟩ ?_; intro _ _ _; refine W_norm rfl ?_)
              )
              | (refine K_load ?_; first
                | (refine W_loadRA hs rfl (by assumption) rfl ?_; refine W_norm rfl ?_)
                | (refine W_loadC hs 0 rfl rfl rfl ?_; refine W_norm rfl ?_)
                | (refine W_loadCA hs 0 rfl rfl rfl ?_; refine W_norm rfl ?_)
                | (refine W_loadC hs 5 rfl rfl rfl ?_; refine W_norm rfl ?_)
              )
              | (refine K_store ?_; first
                | (refine W_storeC hs 0 rfl rfl rfl rfl (by first | decide | assumption) rfl rfl ?_; clear hs; intro _ hs; try simp only [cell_back, attr_back, List.set_cons_zero, List.set_cons_succ, List.eraseIdx_cons_succ, List.eraseIdx_zero, List.tail_cons, List.nil_append, List.cons_append] at hs; refine W_norm rfl ?_)
                | (refine W_storeC hs 5 rfl rfl rfl rfl (by first | decide | assumption) rfl rfl ?_; clear hs; intro _ hs; try simp only [cell_back, attr_back, List.set_cons_zero, List.set_cons_succ, List.eraseIdx_cons_succ, List.eraseIdx_zero, List.tail_cons, List.nil_append, List.cons_append] at hs; refine W_norm rfl ?_)
              )
              | (refine W_allocS hs ?_; clear hs; intro al _ hs; try simp only [cell_back, attr_back, List.set_cons_zero, List.set_cons_succ, List.eraseIdx_cons_succ, List.eraseIdx_zero, List.tail_cons, List.nil_append, List.cons_append] at hs; refine W_norm rfl ?_)
              | (refine K_bslice ?_; first
                | (refine W_appB1 cellE hs 4 rfl rfl rfl (by assumption) rfl rfl rfl ⟨by decide, (by first | omega | (simp only [List.length_set, List.length_append, List.length_take, List.length_drop, List.length_replicate, List.length_cons, List.length_nil, decs_length, List.length_map]; omega))⟩ ?_; clear hs; intro _ _ _ _ _ hs; try simp only [cell_back, attr_back, List.set_cons_zero, List.set_cons_succ, List.eraseIdx_cons_succ, List.eraseIdx_zero, List.tail_cons, List.nil_append, List.cons_append] at hs; refine W_norm rfl ?_)
              )
            )
            | (refine K_code ?_; first
              | refine W_seq ?_
              | refine W_ops ?_
              | refine W_cond_f rfl ?_
              | (refine W_cond rfl (fun hc => ?_) (fun hc => ?_) <;> (try rw [hc]) <;> (try simp only [decide_eq_true_eq, decide_eq_false_iff_not, beq_iff_eq, beq_eq_false_iff_ne, bne_iff_ne, bne_eq_false_iff_eq, Bool.not_eq_true', Bool.not_eq_false', Int.not_lt, Int.not_le, ne_eq, reduceCtorEq, not_true_eq_false, not_false_eq_true, Decidable.not_not] at hc) <;> (try (exfalso; omega)) <;> (try refine W_norm rfl ?_))
              | refine W_skip ?_
              | refine W_block ?_
            )
            | refine seqK_n ?_
            | refine blockK_n ?_
            | refine invK_n ?_)
          all_goals
            rename_i g2 u4 c4 _ hq4 _
            refine ⟨_, ?_, _, ⟨i + 1, u, G, c, d, u4, _, c4, rfl, rfl, ?_, ?_, ?_, hacc, hdone, hq4, ?_, ((hs.drop 0).drop 0).reord (fun a => by simp only [List.flatten_cons, List.flatten_nil, List.count_append, List.count_nil, hpOf_append, hpOf_cons, hpOf_nil, List.append_nil, List.eraseIdx_cons_succ, List.eraseIdx_zero, List.tail_cons] <;> omega)⟩, EnvB.of rfl⟩
            · omega
            · omega
            · rw [List.length_append, List.length_cons, List.length_nil]; omega
            · omega
            · exact heq
    · obtain rfl : i = L.length := by omega
      rw [List.drop_length] at heq
      repeat' (first
        | (refine K_ops ?_; first
          | refine W_fastB rfl ?_
          | refine W_nil ?_
        )
        | (refine K_code ?_; first
          | refine W_seq ?_
          | refine W_ops ?_
          | (refine W_cond rfl (fun hc => ?_) (fun hc => ?_) <;> (try rw [hc]) <;> (try simp only [decide_eq_true_eq, decide_eq_false_iff_not, beq_iff_eq, beq_eq_false_iff_ne, bne_iff_ne, bne_eq_false_iff_eq, Bool.not_eq_true', Bool.not_eq_false', Int.not_lt, Int.not_le, ne_eq, reduceCtorEq, not_true_eq_false, not_false_eq_true, Decidable.not_not] at hc) <;> (try (exfalso; omega)) <;> (try refine W_norm rfl ?_))
          | refine W_exit ?_
          | refine W_block ?_
        )
        | refine seqK_n ?_
        | refine seqK_x ?_
        | refine blockK_e ?_
        | refine invK_x ?_)
      have hGl : (G.map Prod.fst).length = G.length := List.length_map _
      refine W_loopB [54, 55, 56, 57, 58, 59, 60, 61, 62, 63, 64] [0, 1, 2, 3, 4, 5, 6, 7, 8, 9, 10, 11, 12, 13, 14, 15, 16, 17, 18, 19, 20, 21, 22, 23, 24, 25, 26, 27, 28, 29, 30, 31, 32, 33, 34, 35, 36, 37, 38, 39, 40, 41, 42, 43, 44, 45, 46, 47, 48, 49, 50, 51, 52, 53, 54, 55, 56, 57, 58, 59, 60, 61, 62, 63, 64, 65, 66, 67, 68] (fun n' sl h' => ∃ (q2 : SV) (A2 : List Cell) (e2 : Hp), sl = [] ∧ n' = N - A2.length ∧ A2.length ≤ N ∧ A.length ≤ A2.length ∧ Hid (A2 = A ++ List.replicate (A2.length - A.length) plC) ∧ AccS cellE 48 q2 A2 e2 ∧ Sep (Now h) [c, d, e2, [(ai, .cells 39 .own [q2, .bool false, .bool false])]] h') ?_ ?_
      · refine ⟨_, _, ⟨q, A, e, rfl, rfl, hA, Nat.le_refl _, (by simp [Hid]), hq, hs⟩, EnvB.of rfl⟩
      clear hs hq
      rintro _ _ us _ h2 ⟨q2, A2, e2, rfl, rfl, hA2, hAl, hAe, hq2, hs⟩ he
      refine W_spell he rfl ?_
      clear he
      unfold m27_l16
      by_cases hlt2 : A2.length < N
      · repeat' (first
          | (refine K_ops ?_; first
            | refine W_fastB rfl ?_
            | refine W_nil ?_
            | (refine K_call ?_; first
              | (refine W_callsN 29 rfl (w29) rfl ?_; rintro _ h3 ⟨rfl, t⟩; have hs := hs.call t; try simp only [cell_back, attr_back, List.set_cons_zero, List.set_cons_succ, List.eraseIdx_cons_succ, List.eraseIdx_zero, List.tail_cons, List.nil_append, List.cons_append] at hs; refine W_norm rfl ?_)
            )
            | (refine W_lenL rfl (by first | assumption | exact SlR.ln (by assumption) | exact AccS.ln (by assumption) | exact OwnS.ln (by assumption) | exact VwO.ln (by assumption) | exact OwnP.ln (by assumption) | exact Len.sl) ?_; refine W_norm rfl ?_)
            | (refine K_load ?_; first
              | (refine W_loadC hs 3 rfl rfl rfl ?_; refine W_norm rfl ?_)
            )
            | (refine K_store ?_; first
              | (refine W_storeC hs 4 rfl rfl rfl rfl (by first | decide | assumption) rfl rfl ?_; intro _ hs; try simp only [cell_back, attr_back, List.set_cons_zero, List.set_cons_succ, List.eraseIdx_cons_succ, List.eraseIdx_zero, List.tail_cons, List.nil_append, List.cons_append] at hs; refine W_norm rfl ?_)
            )
            | (refine K_bslice ?_; first
              | (refine W_buildS1 cellE hs rfl rfl ?_; intro _ _ _ _ hs; try simp only [cell_back, attr_back, List.set_cons_zero, List.set_cons_succ, List.eraseIdx_cons_succ, List.eraseIdx_zero, List.tail_cons, List.nil_append, List.cons_append] at hs; refine W_norm rfl ?_)
            )
            | (refine K_append ?_; first
              | (refine W_appS hs 3 rfl rfl (by assumption) rfl (by first | assumption | exact SlR.now hs (by assumption) | exact AccS.now (by assumption) hs (by simp) | exact OwnS.now (by assumption) hs (by simp)) rfl ⟨by decide, (by first | omega | (simp only [List.length_set, List.length_append, List.length_take, List.length_drop, List.length_replicate, List.length_cons, List.length_nil, decs_length, List.length_map]; omega))⟩ ?_; intro _ _ _ _ hs; try simp only [cell_back, attr_back, List.set_cons_zero, List.set_cons_succ, List.eraseIdx_cons_succ, List.eraseIdx_zero, List.tail_cons, List.nil_append, List.cons_append] at hs; refine W_norm rfl ?_)
            )
          )
          | (refine K_code ?_; first
            | refine W_seq ?_
            | refine W_ops ?_
            | (refine W_cond rfl (fun hc => ?_) (fun hc => ?_) <;> (try rw [hc]) <;> (try simp only [decide_eq_true_eq, decide_eq_false_iff_not, beq_iff_eq, beq_eq_false_iff_ne, bne_iff_ne, bne_eq_false_iff_eq, Bool.not_eq_true', Bool.not_eq_false', Int.not_lt, Int.not_le, ne_eq, reduceCtorEq, not_true_eq_false, not_false_eq_true, Decidable.not_not] at hc) <;> (try (exfalso; omega)) <;> (try refine W_norm rfl ?_))
            | refine W_skip ?_
            | refine W_block ?_
            | refine W_draws ?_
          )
          | refine W_dstep rfl ?_
          | refine ⟨rfl, fun rc hrec => ?_⟩
          | (refine W_dnilS (by simp only [List.reverse_cons, List.reverse_nil, List.nil_append, List.cons_append]; rfl) (by repeat' first | exact CL_nil _ _ | refine CL_skip rfl ?_ | refine CL_load (by assumption) rfl (by first | exact trivial | (repeat' first | exact trivial | refine ⟨⟨_, rfl, (by refine (congrArg (fun x => Heap.get x _) (RecIs.hh (by assumption))).trans ?_; first | rfl | exact PtR.same_get (by assumption) (by assumption) (by assumption) | exact Sep.same_get (by assumption) (by assumption) 0 0 rfl rfl | exact Sep.same_get (by assumption) (by assumption) 0 1 rfl rfl | exact Sep.same_get (by assumption) (by assumption) 0 2 rfl rfl | exact Sep.same_get (by assumption) (by assumption) 0 3 rfl rfl | exact Sep.same_get (by assumption) (by assumption) 0 4 rfl rfl | exact Sep.same_get (by assumption) (by assumption) 0 5 rfl rfl | exact Sep.same_get (by assumption) (by assumption) 1 0 rfl rfl | exact Sep.same_get (by assumption) (by assumption) 1 1 rfl rfl | exact Sep.same_get (by assumption) (by assumption) 1 2 rfl rfl | exact Sep.same_get (by assumption) (by assumption) 1 3 rfl rfl | exact Sep.same_get (by assumption) (by assumption) 1 4 rfl rfl | exact Sep.same_get (by assumption) (by assumption) 1 5 rfl rfl | exact Sep.same_get (by assumption) (by assumption) 2 0 rfl rfl | exact Sep.same_get (by assumption) (by assumption) 2 1 rfl rfl | exact Sep.same_get (by assumption) (by assumption) 2 2 rfl rfl | exact Sep.same_get (by assumption) (by assumption) 2 3 rfl rfl | exact Sep.same_get (by assumption) (by assumption) 2 4 rfl rfl | exact Sep.same_get (by assumption) (by assumption) 2 5 rfl rfl | exact Sep.same_get (by assumption) (by assumption) 3 0 rfl rfl | exact Sep.same_get (by assumption) (by assumption) 3 1 rfl rfl | exact Sep.same_get (by assumption) (by assumption) 3 2 rfl rfl | exact Sep.same_get (by assumption) (by assumption) 3 3 rfl rfl | exact Sep.same_get (by assumption) (by assumption) 3 4 rfl rfl | exact Sep.same_get (by assumption) (by assumption) 3 5 rfl rfl | exact Sep.same_get (by assumption) (by assumption) 4 0 rfl rfl | exact Sep.same_get (by assumption) (by assumption) 4 1 rfl rfl | exact Sep.same_get (by assumption) (by assumption) 4 2 rfl rfl | exact Sep.same_get (by assumption) (by assumption) 4 3 rfl rfl | exact Sep.same_get (by assumption) (by assumption) 4 4 rfl rfl | exact Sep.same_get (by assumption) (by assumption) 4 5 rfl rfl | exact Sep.same_get (by assumption) (by assumption) 5 0 rfl rfl | exact Sep.same_get (by assumption) (by assumption) 5 1 rfl rfl | exact Sep.same_get (by assumption) (by assumption) 5 2 rfl rfl | exact Sep.same_get (by assumption) (by assumption) 5 3 rfl rfl | exact Sep.same_get (by assumption) (by assumption) 5 4 rfl rfl | exact Sep.same_get (by assumption) (by assumption) 5 5 rfl rfl)⟩, ?_⟩)) (by first | exact trivial | (repeat' first | exact trivial | refine ⟨⟨_, rfl, (by refine (congrArg (fun x => Heap.get x _) (RecIs.hh' (by assumption))).trans ?_; first | rfl | exact PtR.same_get (by assumption) (by assumption) (by assumption) | exact Sep.same_get (by assumption) (by assumption) 0 0 rfl rfl | exact Sep.same_get (by assumption) (by assumption) 0 1 rfl rfl | exact Sep.same_get (by assumption) (by assumption) 0 2 rfl rfl | exact Sep.same_get (by assumption) (by assumption) 0 3 rfl rfl | exact Sep.same_get (by assumption) (by assumption) 0 4 rfl rfl | exact Sep.same_get (by assumption) (by assumption) 0 5 rfl rfl | exact Sep.same_get (by assumption) (by assumption) 1 0 rfl rfl | exact Sep.same_get (by assumption) (by assumption) 1 1 rfl rfl | exact Sep.same_get (by assumption) (by assumption) 1 2 rfl rfl | exact Sep.same_get (by assumption) (by assumption) 1 3 rfl rfl | exact Sep.same_get (by assumption) (by assumption) 1 4 rfl rfl | exact Sep.same_get (by assumption) (by assumption) 1 5 rfl rfl | exact Sep.same_get (by assumption) (by assumption) 2 0 rfl rfl | exact Sep.same_get (by assumption) (by assumption) 2 1 rfl rfl | exact Sep.same_get (by assumption) (by assumption) 2 2 rfl rfl | exact Sep.same_get (by assumption) (by assumption) 2 3 rfl rfl | exact Sep.same_get (by assumption) (by assumption) 2 4 rfl rfl | exact Sep.same_get (by assumption) (by assumption) 2 5 rfl rfl | exact Sep.same_get (by assumption) (by assumption) 3 0 rfl rfl | exact Sep.same_get (by assumption) (by assumption) 3 1 rfl rfl | exact Sep.same_get (by assumption) (by assumption) 3 2 rfl rfl | exact Sep.same_get (by assumption) (by assumption) 3 3 rfl rfl | exact Sep.same_get (by assumption) (by assumption) 3 4 rfl rfl | exact Sep.same_get (by assumption) (by assumption) 3 5 rfl rfl | exact Sep.same_get (by assumption) (by assumption) 4 0 rfl rfl | exact Sep.same_get (by assumption) (by assumption) 4 1 rfl rfl | exact Sep.same_get (by assumption) (by assumption) 4 2 rfl rfl | exact Sep.same_get (by assumption) (by assumption) 4 3 rfl rfl | exact Sep.same_get (by assumption) (by assumption) 4 4 rfl rfl | exact Sep.same_get (by assumption) (by assumption) 4 5 rfl rfl | exact Sep.same_get (by assumption) (by assumption) 5 0 rfl rfl | exact Sep.same_get (by assumption) (by assumption) 5 1 rfl rfl | exact Sep.same_get (by assumption) (by assumption) 5 2 rfl rfl | exact Sep.same_get (by assumption) (by assumption) 5 3 rfl rfl | exact Sep.same_get (by assumption) (by assumption) 5 4 rfl rfl | exact Sep.same_get (by assumption) (by assumption) 5 5 rfl rfl)⟩, ?_⟩)) ?_) ?_)
          | refine seqK_n ?_
          | refine blockK_n ?_
          | refine invK_n ?_)
        refine ⟨_, ?_, _, ⟨_, A2 ++ [plC], _, rfl, rfl, ?_, ?_, ?_, (by assumption), hs.drop 0⟩, EnvB.of rfl⟩
        · rw [List.length_append, List.length_cons, List.length_nil]; omega
        · rw [List.length_append, List.length_cons, List.length_nil]; omega
        · rw [List.length_append, List.length_cons, List.length_nil]; omega
        · have := hAe.out
          show A2 ++ [plC] = _
          rw [List.length_append, List.length_cons, List.length_nil, show A2.length + (0 + 1) - A.length = A2.length - A.length + 1 by omega, List.replicate_succ', ← List.append_assoc, ← this]
      · repeat' (first
          | (refine K_ops ?_; first
            | refine W_fastB rfl ?_
            | refine W_nil ?_
            | (refine W_lenL rfl (by first | assumption | exact SlR.ln (by assumption) | exact AccS.ln (by assumption) | exact OwnS.ln (by assumption) | exact VwO.ln (by assumption) | exact OwnP.ln (by assumption) | exact Len.sl) ?_; refine W_norm rfl ?_)
            | (refine K_load ?_; first
              | (refine W_loadC hs 3 rfl rfl rfl ?_; refine W_norm rfl ?_)
              | (refine W_loadCA hs 3 rfl rfl rfl ?_; refine W_norm rfl ?_)
            )
            | (refine K_bslice ?_; first
              | (refine W_appB1 lnE hs 0 rfl rfl rfl (by assumption) rfl rfl rfl ⟨by decide, (by first | omega | (simp only [List.length_set, List.length_append, List.length_take, List.length_drop, List.length_replicate, List.length_cons, List.length_nil, decs_length, List.length_map]; omega))⟩ ?_; clear hs; intro _ _ _ _ _ hs; try simp only [cell_back, attr_back, List.set_cons_zero, List.set_cons_succ, List.eraseIdx_cons_succ, List.eraseIdx_zero, List.tail_cons, List.nil_append, List.cons_append] at hs; refine W_norm rfl ?_)
            )
          )
          | (refine K_code ?_; first
            | refine W_seq ?_
            | refine W_ops ?_
            | (refine W_cond rfl (fun hc => ?_) (fun hc => ?_) <;> (try rw [hc]) <;> (try simp only [decide_eq_true_eq, decide_eq_false_iff_not, beq_iff_eq, beq_eq_false_iff_ne, bne_iff_ne, bne_eq_false_iff_eq, Bool.not_eq_true', Bool.not_eq_false', Int.not_lt, Int.not_le, ne_eq, reduceCtorEq, not_true_eq_false, not_false_eq_true, Decidable.not_not] at hc) <;> (try (exfalso; omega)) <;> (try refine W_norm rfl ?_))
            | refine W_ret ?_
            | refine W_exit ?_
          )
          | refine seqK_n ?_
          | refine seqK_x ?_
          | refine blockK_e ?_
          | refine invK_x ?_
          | (refine fnK_r rfl ?_; try dsimp only [gd_z, gd_s]))
        rename_i u5 c5 h5 hacc5
        have hN : A2.length = N := by omega
        have hAe' := hAe.out
        rw [hN] at hAe'
        refine ⟨_, rfl, _, c5 ++ (e2 ++ d), G ++ [(⟨q2, false, false⟩, A2)], rfl, ⟨?_, fun g hg => ?_⟩, ?_, (hs.drop 3).reord (fun a => by simp only [List.flatten_cons, List.flatten_nil, List.count_append, List.count_nil, hpOf_append, hpOf_cons, hpOf_nil, List.append_nil, List.eraseIdx_cons_succ, List.eraseIdx_zero, List.tail_cons] <;> omega)⟩
        · rw [List.map_append]; exact (AccS.inPl hacc5).mono (InP.left _ _)
        · exact (done_push hdone (g := (⟨q2, false, false⟩, A2)) (AccS.inP hq2) g hg).mono (InP.right _ _)
        · rw [List.map_append, ← heq, linesGo, ← hAe']; rfl
end Go.Proofs.YtllhbhhgihdakaaDoor
