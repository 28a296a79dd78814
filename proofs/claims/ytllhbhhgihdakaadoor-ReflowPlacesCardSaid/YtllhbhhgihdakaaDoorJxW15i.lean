/- Reflow: the law ReflowTwice. CLNONE -/
import Derived.Test.YtllhbhhgihdakaaDoorJxW15h
import Derived.Test.YtllhbhhgihdakaaDoorJxW15same
set_option linter.unusedSimpArgs false
set_option linter.unusedVariables false
set_option maxHeartbeats 4000000
set_option maxRecDepth 100000
namespace Go.Proofs.YtllhbhhgihdakaaDoor
open Go Go.Jx

theorem w12 {v : SV} {G : List LnC} {h : Heap} (hv : LnsR (Now h) v G) (hl : G.length ≤ 100000) : Wc DD 12 [.sc v] h fun x h' => ∃ u c, x = .sc u ∧ AccS lnE 65 u (G.map Prod.fst) c ∧ Sep (Now h) [c] h' := by
  have hs := Sep.entry h
  have hln := hv.ln
  have hv1 := hv.1
  have hGl : (G.map Prod.fst).length = G.length := List.length_map _
  refine W_enter d12 ?_
  show W _ (.code m12_code [.sc v, undefA, undefA, undefA, undefA, undefA, undefA, undefA, undefA, undefA, undefA, undefA, undefA, undefA, undefA, undefA, undefA, undefA, undefA] _) _
  unfold m12_code
  repeat' (first
    | (refine K_ops ?_; first
      | refine W_fastB rfl ?_
      | refine W_nil ?_
    )
    | (refine K_code ?_; first
      | refine W_seq ?_
      | refine W_ops ?_
      | refine W_block ?_
    )
    | refine seqK_n ?_)
  refine W_loopB [3, 4, 5, 6, 7, 8, 9, 10, 11, 12, 13, 14, 15, 16, 17] [0, 1, 2, 3, 4, 5, 6, 7, 8, 9, 10, 11, 12, 13, 14, 15, 16, 17, 18] (fun n' sl h' => ∃ (i : Nat) (u : SV) (c : Hp), sl = [(3, .sc u), (4, .sc (.int .i64 (i : Int)))] ∧ n' = G.length - i ∧ i ≤ G.length ∧ AccS lnE 65 u ((G.map Prod.fst).take i) c ∧ Sep (Now h) [c] h') ?_ ?_
  · refine ⟨_, _, ⟨0, .nils, [], rfl, rfl, Nat.zero_le _, AccS.nil _, hs.nil⟩, EnvB.of rfl⟩
  clear hs
  rintro _ _ us _ h2 ⟨i, u, c, rfl, rfl, hi, hacc, hs⟩ he
  refine W_spell he rfl ?_
  clear he
  unfold m12_l3
  by_cases hlt : i < G.length
  · repeat' (first
      | (refine K_ops ?_; first
        | refine W_fastB rfl ?_
        | refine W_nil ?_
        | (refine W_lenL rfl (by first | assumption | exact SlR.ln (by assumption) | exact AccS.ln (by assumption) | exact OwnS.ln (by assumption) | exact VwO.ln (by assumption) | exact OwnP.ln (by assumption) | exact Len.sl) ?_; refine W_norm rfl ?_)
        | (refine K_bin ?_; first
          | (refine W_add rfl rfl (IntWalk.i64_in _ (by first | omega | (simp only [List.length_set, List.length_append, List.length_take, List.length_drop, List.length_replicate, List.length_cons, List.length_nil, decs_length, List.length_map]; omega))) ?_; refine W_norm rfl ?_)
        )
        | (refine K_index ?_; first
          | (refine W_indexR rfl rfl (by assumption) rfl ⟨(by first | omega | (simp only [List.length_set, List.length_append, List.length_take, List.length_drop, List.length_replicate, List.length_cons, List.length_nil, decs_length, List.length_map]; omega)), (by first | omega | (simp only [List.length_set, List.length_append, List.length_take, List.length_drop, List.length_replicate, List.length_cons, List.length_nil, decs_length, List.length_map]; omega))⟩ ?_; intro _ _ _; refine W_norm rfl ?_)
        )
        | (refine K_load ?_; first
          | (refine W_loadRA hs rfl (by assumption) rfl ?_; refine W_norm rfl ?_)
        )
        | (refine K_bslice ?_; first
          | (refine W_appB1 lnE hs 0 rfl rfl rfl (by assumption) rfl rfl rfl ⟨by decide, (by first | omega | (simp only [List.length_set, List.length_append, List.length_take, List.length_drop, List.length_replicate, List.length_cons, List.length_nil, decs_length, List.length_map]; omega))⟩ ?_; clear hs; intro _ _ _ _ _ hs; try simp only [cell_back, attr_back, List.set_cons_zero, List.set_cons_succ, List.eraseIdx_cons_succ, List.eraseIdx_zero, List.tail_cons, List.nil_append, List.cons_append] at hs; refine W_norm rfl ?_)
        )
      )
      | (refine K_code ?_; first
        | refine W_seq ?_
        | refine W_ops ?_
        | (refine W_cond rfl (fun hc => ?_) (fun hc => ?_) <;> (try rw [hc]) <;> (try simp only [decide_eq_true_eq, decide_eq_false_iff_not, beq_iff_eq, beq_eq_false_iff_ne, bne_iff_ne, bne_eq_false_iff_eq, Bool.not_eq_true', Bool.not_eq_false', Int.not_lt, Int.not_le, ne_eq, reduceCtorEq, not_true_eq_false, not_false_eq_true, Decidable.not_not] at hc) <;> (try (exfalso; omega)) <;> (try refine W_norm rfl ?_))
        | refine W_skip ?_
        | refine W_block ?_
      )
      | refine seqK_n ?_
      | refine blockK_n ?_
      | refine invK_n ?_)
    rename_i u2 c2 h3 hacc2
    refine ⟨_, ?_, _, ⟨i + 1, u2, c2, rfl, rfl, ?_, ?_, hs⟩, EnvB.of rfl⟩
    · omega
    · omega
    · rw [List.take_add_one, getD_get? (d := lnE.dflt) (by rw [hGl]; exact hlt)]; exact hacc2
  · repeat' (first
      | (refine K_ops ?_; first
        | refine W_fastB rfl ?_
        | refine W_nil ?_
        | (refine W_lenL rfl (by first | assumption | exact SlR.ln (by assumption) | exact AccS.ln (by assumption) | exact OwnS.ln (by assumption) | exact VwO.ln (by assumption) | exact OwnP.ln (by assumption) | exact Len.sl) ?_; refine W_norm rfl ?_)
      )
      | (refine K_code ?_; first
        | refine W_seq ?_
        | refine W_ops ?_
        | (refine W_cond rfl (fun hc => ?_) (fun hc => ?_) <;> (try rw [hc]) <;> (try simp only [decide_eq_true_eq, decide_eq_false_iff_not, beq_iff_eq, beq_eq_false_iff_ne, bne_iff_ne, bne_eq_false_iff_eq, Bool.not_eq_true', Bool.not_eq_false', Int.not_lt, Int.not_le, ne_eq, reduceCtorEq, not_true_eq_false, not_false_eq_true, Decidable.not_not] at hc) <;> (try (exfalso; omega)) <;> (try refine W_norm rfl ?_))
        | refine W_ret ?_
        | refine W_exit ?_
      )
      | refine seqK_n ?_
      | refine seqK_x ?_
      | refine blockK_e ?_
      | refine invK_x ?_
      | (refine fnK_r rfl ?_; try dsimp only [gd_z, gd_s]))
    rw [List.take_of_length_le (by omega)] at hacc
    exact ⟨_, rfl, _, _, rfl, hacc, hs⟩

theorem w28 {u v : SV} {A B : List LnC} {h : Heap} (hu : LnsR (Now h) u A) (hv : LnsR (Now h) v B) (hlA : A.length ≤ 100000) (hlB : B.length ≤ 100000) (h2A : ∀ g ∈ A, g.2.length ≤ 100000) (h2B : ∀ g ∈ B, g.2.length ≤ 100000) (hAB : A.map lnOf = B.map lnOf) :
    Wc DD 28 [.sc u, .sc v] h fun w h' => w = bo true ∧ h' = h := by
  have hs := Sep.entry h
  have hun := hu.ln
  have hvn := hv.ln
  have hu1 := hu.1
  have hv1 := hv.1
  have hlen : A.length = B.length := by have := congrArg List.length hAB; simpa using this
  refine W_enter d28 ?_
  show W _ (.code m28_code [.sc u, .sc v, undefA, undefA, undefA, undefA, undefA, undefA, undefA, undefA, undefA, undefA, undefA, undefA, undefA, undefA, undefA, undefA, undefA, undefA, undefA, undefA, undefA, undefA, undefA, undefA, undefA, undefA, undefA, undefA, undefA, undefA, undefA, undefA, undefA, undefA, undefA, undefA, undefA, undefA, undefA, undefA, undefA, undefA, undefA, undefA, undefA, undefA, undefA, undefA, undefA, undefA, undefA, undefA, undefA] _) _
  unfold m28_code
  repeat' (first
    | (refine K_ops ?_; first
      | refine W_fastB rfl ?_
      | refine W_nil ?_
      | (refine W_lenL rfl (by first | assumption | exact SlR.ln (by assumption) | exact AccS.ln (by assumption) | exact OwnS.ln (by assumption) | exact VwO.ln (by assumption) | exact OwnP.ln (by assumption) | exact Len.sl) ?_; refine W_norm rfl ?_)
    )
    | (refine K_code ?_; first
      | refine W_seq ?_
      | refine W_ops ?_
      | (refine W_cond rfl (fun hc => ?_) (fun hc => ?_) <;> (try rw [hc]) <;> (try simp only [decide_eq_true_eq, decide_eq_false_iff_not, beq_iff_eq, beq_eq_false_iff_ne, bne_iff_ne, bne_eq_false_iff_eq, Bool.not_eq_true', Bool.not_eq_false', Int.not_lt, Int.not_le, ne_eq, reduceCtorEq, not_true_eq_false, not_false_eq_true, Decidable.not_not] at hc) <;> (try (exfalso; omega)) <;> (try refine W_norm rfl ?_))
      | refine W_skip ?_
      | refine W_block ?_
    )
    | refine seqK_n ?_)
  refine W_loopB [4, 5, 11, 12, 13, 14, 15, 16, 17, 18, 19, 20, 21, 22, 23, 24, 25, 26, 27, 28, 29, 30, 31, 32, 33, 34, 35, 36, 37, 38, 39, 40, 41, 42, 43, 44, 45, 46, 47, 48, 49, 50, 51, 52, 53, 54] [0, 1, 2, 3, 4, 5, 6, 7, 8, 9, 10, 11, 12, 13, 14, 15, 16, 17, 18, 19, 20, 21, 22, 23, 24, 25, 26, 27, 28, 29, 30, 31, 32, 33, 34, 35, 36, 37, 38, 39, 40, 41, 42, 43, 44, 45, 46, 47, 48, 49, 50, 51, 52, 53, 54] (fun n' sl h' => ∃ (k : Nat), sl = [(5, .sc (.int .i64 (k : Int)))] ∧ n' = A.length - k ∧ k ≤ A.length ∧ h' = h) ?_ ?_
  · refine ⟨_, _, ⟨0, rfl, rfl, Nat.zero_le _, rfl⟩, EnvB.of rfl⟩
  rintro _ _ us _ h2 ⟨k, rfl, rfl, hk, rfl⟩ he
  refine W_spell he rfl ?_
  clear he
  unfold m28_l4
  by_cases hlt : k < A.length
  · have hlt' : k < B.length := by omega
    have ra := hu.at hlt
    have rb := hv.at hlt'
    have la := atC_len h2A hlt
    have lb := atC_len h2B hlt'
    have he := lnOf_atH hlt
    rw [hAB, lnOf_atH hlt'] at he
    have he' := Option.some.inj he
    simp only [Ln.mk.injEq] at he'
    obtain ⟨e1, e2, e3⟩ := he'
    repeat' (first
      | (refine K_ops ?_; first
        | refine W_fastB rfl ?_
        | refine W_nil ?_
        | (refine K_guard ?_; first
          | refine W_guard_on rfl ?_
          | refine W_guard_off rfl rfl (W_norm rfl ?_)
          | (refine W_guardF rfl (fun hc => ?_) (fun hc => ?_) <;> (try rw [hc]) <;> (try simp only [decide_eq_true_eq, decide_eq_false_iff_not, beq_iff_eq, beq_eq_false_iff_ne, bne_iff_ne, bne_eq_false_iff_eq, Bool.not_eq_true', Bool.not_eq_false', Int.not_lt, Int.not_le, ne_eq, reduceCtorEq, not_true_eq_false, not_false_eq_true, Decidable.not_not] at hc) <;> (try (exfalso; omega)) <;> (try refine W_norm rfl ?_))
        )
        | (refine K_call ?_; first
          | (refine W_callsN 16 rfl (w16 (SlR.now hs ra) (SlR.now hs rb) la lb) rfl ?_; rintro _ _ ⟨rfl, rfl⟩; rw [decide_eq_true e1.symm]; refine W_norm rfl ?_)
        )
        | (refine W_lenL rfl (by first | assumption | exact SlR.ln (by assumption) | exact AccS.ln (by assumption) | exact OwnS.ln (by assumption) | exact VwO.ln (by assumption) | exact OwnP.ln (by assumption) | exact Len.sl) ?_; refine W_norm rfl ?_)
        | (refine K_bin ?_; first
          | (refine W_add rfl rfl (IntWalk.i64_in _ (by first | omega | (simp only [List.length_set, List.length_append, List.length_take, List.length_drop, List.length_replicate, List.length_cons, List.length_nil, decs_length, List.length_map]; omega))) ?_; refine W_norm rfl ?_)
        )
        | (refine K_pick ?_; first
          | refine W_pick_t rfl rfl (W_norm rfl ?_)
          | refine W_pick_f rfl rfl (W_norm rfl ?_)
        )
        | (refine K_index ?_; first
          | (refine W_indexR rfl rfl (by assumption) rfl ⟨(by first | omega | (simp only [List.length_set, List.length_append, List.length_take, List.length_drop, List.length_replicate, List.length_cons, List.length_nil, decs_length, List.length_map]; omega)), (by first | omega | (simp only [List.length_set, List.length_append, List.length_take, List.length_drop, List.length_replicate, List.length_cons, List.length_nil, decs_length, List.length_map]; omega))⟩ ?_; intro _ _ _; refine W_norm rfl ?_)
        )
        | (refine K_load ?_; first
          | (refine W_loadR hs rfl (by assumption) rfl ?_; refine W_norm rfl ?_)
          | (refine W_loadRF hs rfl (by assumption) rfl ?_; refine W_norm rfl ?_)
        )
      )
      | (refine K_code ?_; first
        | refine W_seq ?_
        | refine W_ops ?_
        | refine W_cond_t rfl ?_
        | refine W_cond_f rfl ?_
        | (refine W_cond rfl (fun hc => ?_) (fun hc => ?_) <;> (try rw [hc]) <;> (try simp only [decide_eq_true_eq, decide_eq_false_iff_not, beq_iff_eq, beq_eq_false_iff_ne, bne_iff_ne, bne_eq_false_iff_eq, Bool.not_eq_true', Bool.not_eq_false', Int.not_lt, Int.not_le, ne_eq, reduceCtorEq, not_true_eq_false, not_false_eq_true, Decidable.not_not] at hc) <;> (try (exfalso; omega)) <;> (try refine W_norm rfl ?_))
        | refine W_skip ?_
        | refine W_ret ?_
        | refine W_block ?_
        | refine W_draw rfl ?_
      )
      | refine seqK_n ?_
      | refine seqK_r ?_
      | refine blockK_r ?_
      | refine blockK_n ?_
      | refine invK_r ?_
      | refine invK_n ?_
      | (refine fnK_r rfl ?_; try dsimp only [gd_z, gd_s]))
    all_goals first | exact absurd e2.symm (by assumption) | exact absurd e3.symm (by assumption) | skip
    refine ⟨_, ?_, _, ⟨k + 1, rfl, rfl, ?_, rfl⟩, EnvB.of rfl⟩
    · omega
    · omega
  · repeat' (first
      | (refine K_ops ?_; first
        | refine W_fastB rfl ?_
        | refine W_nil ?_
        | (refine W_lenL rfl (by first | assumption | exact SlR.ln (by assumption) | exact AccS.ln (by assumption) | exact OwnS.ln (by assumption) | exact VwO.ln (by assumption) | exact OwnP.ln (by assumption) | exact Len.sl) ?_; refine W_norm rfl ?_)
      )
      | (refine K_code ?_; first
        | refine W_seq ?_
        | refine W_ops ?_
        | (refine W_cond rfl (fun hc => ?_) (fun hc => ?_) <;> (try rw [hc]) <;> (try simp only [decide_eq_true_eq, decide_eq_false_iff_not, beq_iff_eq, beq_eq_false_iff_ne, bne_iff_ne, bne_eq_false_iff_eq, Bool.not_eq_true', Bool.not_eq_false', Int.not_lt, Int.not_le, ne_eq, reduceCtorEq, not_true_eq_false, not_false_eq_true, Decidable.not_not] at hc) <;> (try (exfalso; omega)) <;> (try refine W_norm rfl ?_))
        | refine W_ret ?_
        | refine W_exit ?_
      )
      | refine seqK_n ?_
      | refine seqK_x ?_
      | refine blockK_e ?_
      | refine invK_x ?_
      | (refine fnK_r rfl ?_; try dsimp only [gd_z, gd_s]))
    exact ⟨_, rfl, rfl, rfl⟩

/-- Two lists of lines that are the same. -/
theorem w14 {u v : SV} {A B : List LnC} {h : Heap} (hu : LnsR (Now h) u A) (hv : LnsR (Now h) v B) (hlA : A.length ≤ 100000) (hlB : B.length ≤ 100000) (h2A : ∀ g ∈ A, g.2.length ≤ 100000) (h2B : ∀ g ∈ B, g.2.length ≤ 100000) (hAB : A.map lnOf = B.map lnOf) :
    Wc DD 14 [.sc u, .sc v] h fun w h' => w = bo true ∧ Sep (Now h) [] h' := by
  have hs := Sep.entry h
  refine W_enter d14 ?_
  show W _ (.code m14_code [.sc u, .sc v, undefA, undefA, undefA, undefA, undefA, undefA, undefA, undefA] _) _
  unfold m14_code
  repeat' (first
    | (refine K_ops ?_; first
      | refine W_fastB rfl ?_
      | refine W_nil ?_
      | (refine K_call ?_; first
        | (refine W_callsN 12 rfl (w12 (v := u) hu hlA) rfl ?_; rintro _ h1 ⟨u1, c1, rfl, ha1, t⟩; replace hs := hs.call t; try simp only [cell_back, attr_back, List.set_cons_zero, List.set_cons_succ, List.eraseIdx_cons_succ, List.eraseIdx_zero, List.tail_cons, List.nil_append, List.cons_append] at hs; have hv' := hv.mono t.le; refine W_norm rfl ?_)
        | (refine W_callsN 12 rfl (w12 (v := v) hv' hlB) rfl ?_; rintro _ h2 ⟨u2, c2, rfl, ha2, t2⟩; replace hs := hs.call t2; try simp only [List.cons_append, List.nil_append] at hs; refine W_norm rfl ?_)
        | (refine W_callsN 28 rfl (w28 (u := u1) (v := u2) ⟨(AccS.inPl ha1).mono (InP.now hs (by simp)), fun g hg => (hu.2 g hg).mono hs.le⟩ ⟨(AccS.inPl ha2).mono (InP.now hs (by simp)), fun g hg => (hv.2 g hg).mono hs.le⟩ hlA hlB h2A h2B hAB) rfl ?_; rintro _ h ⟨rfl, rfl⟩; refine W_norm rfl ?_)
      )
    )
    | (refine K_code ?_; first
      | refine W_seq ?_
      | refine W_ops ?_
      | refine W_ret ?_
    )
    | refine seqK_n ?_
    | (refine fnK_r rfl ?_; try dsimp only [gd_z, gd_s]))
  exact ⟨_, rfl, rfl, (hs.drop 0).drop 0⟩

theorem linesL_small {l : List Ln} {w : Nat} (hl : l.length ≤ 60) (h : ∀ x ∈ l, x.cells.length ≤ 60) : (linesL l w).length ≤ 3660 := by
  have := linesL_count (w := w) h
  omega
theorem lines_le {l : List Ln} {G : List LnC} {w n : Nat} (hw : 2 ≤ w) (hn : w ≤ n) (e : G.map lnOf = linesL l w) : ∀ g ∈ G, g.2.length ≤ n := by
  intro g hg
  have := linesL_len (l := l) hw (lnOf g) (by rw [← e]; exact List.mem_map_of_mem hg)
  have e : (lnOf g).cells.length = g.2.length := rfl
  omega
theorem linesR_ok {l : List Ln} {w : Nat} (hw : okW (w : Int)) : linesR l (w : Int) = linesL l w := if_pos hw

theorem w4 {v : SV} {G : List LnC} {w1 w2 : Int} {h : Heap} (hv : LnsR (Now h) v G) (hl : G.length ≤ 2 ^ 63 - 1) (hl2 : ∀ g ∈ G, g.2.length ≤ 2 ^ 63 - 1) :
    Wc DD 4 [.sc v, i64 w1, i64 w2] h fun r h' => r = bo true := by
  have hs := Sep.entry h
  refine W_enter d4 ?_
  show W _ (.code m4_code [.sc v, i64 w1, i64 w2, undefA, undefA, undefA, undefA, undefA, undefA, undefA, undefA, undefA, undefA, undefA, undefA, undefA, undefA, undefA, undefA, undefA, undefA, undefA, undefA, undefA, undefA, undefA, undefA, undefA, undefA, undefA, undefA, undefA, undefA, undefA, undefA, undefA, undefA, undefA, undefA, undefA, undefA, undefA, undefA, undefA, undefA, undefA, undefA, undefA, undefA, undefA, undefA, undefA, undefA, undefA, undefA, undefA, undefA, undefA, undefA, undefA, undefA, undefA, undefA, undefA, undefA, undefA, undefA, undefA, undefA, undefA, undefA, undefA, undefA, undefA, undefA] _) _
  unfold m4_code
  by_cases hok : okW w1 ∧ okW w2
  · obtain ⟨hw1, hw2⟩ := hok
    obtain ⟨N, rfl⟩ : ∃ N : Nat, w1 = (N : Int) := ⟨w1.toNat, by have := hw1.1; omega⟩
    obtain ⟨K, rfl⟩ : ∃ K : Nat, w2 = (K : Int) := ⟨w2.toNat, by have := hw2.1; omega⟩
    have hN2 : 2 ≤ N := by have := hw1.1; omega
    have hN4 : N ≤ 400 := by have := hw1.2; omega
    have hK2 : 2 ≤ K := by have := hw2.1; omega
    have hK4 : K ≤ 400 := by have := hw2.2; omega
    repeat' (first
      | (refine K_ops ?_; first
        | refine W_fastB rfl ?_
        | refine W_nil ?_
        | (refine K_guard ?_; first
          | refine W_guard_on rfl ?_
          | refine W_guard_off rfl rfl (W_norm rfl ?_)
          | (refine W_guardF rfl (fun hc => ?_) (fun hc => ?_) <;> (try rw [hc]) <;> (try simp only [decide_eq_true_eq, decide_eq_false_iff_not, beq_iff_eq, beq_eq_false_iff_ne, bne_iff_ne, bne_eq_false_iff_eq, Bool.not_eq_true', Bool.not_eq_false', Int.not_lt, Int.not_le, ne_eq, reduceCtorEq, not_true_eq_false, not_false_eq_true, Decidable.not_not] at hc) <;> (try (exfalso; omega)) <;> (try refine W_norm rfl ?_))
        )
        | (refine K_call ?_; first
          | (refine W_callsN 9 rfl (w9 _) rfl ?_; rintro _ _ ⟨rfl, rfl⟩; refine W_norm rfl ?_)
          | (refine W_callsN 8 rfl (w8b (hv.now hs) hl hl2) rfl ?_; rintro _ h ⟨gb, rfl, rfl, hgb⟩; refine W_norm rfl ?_)
        )
        | (refine K_pick ?_; first
          | refine W_pick_t rfl rfl (W_norm rfl ?_)
          | refine W_pick_f rfl rfl (W_norm rfl ?_)
        )
      )
      | (refine K_code ?_; first
        | refine W_seq ?_
        | refine W_ops ?_
        | refine W_cond_t rfl ?_
        | (refine W_cond rfl (fun hc => ?_) (fun hc => ?_) <;> (try rw [hc]) <;> (try simp only [decide_eq_true_eq, decide_eq_false_iff_not, beq_iff_eq, beq_eq_false_iff_ne, bne_iff_ne, bne_eq_false_iff_eq, Bool.not_eq_true', Bool.not_eq_false', Int.not_lt, Int.not_le, ne_eq, reduceCtorEq, not_true_eq_false, not_false_eq_true, Decidable.not_not] at hc) <;> (try (exfalso; omega)) <;> (try refine W_norm rfl ?_))
        | refine W_skip ?_
        | refine W_ret ?_
      )
      | refine seqK_n ?_
      | refine seqK_r ?_
      | (refine fnK_r rfl ?_; try dsimp only [gd_z, gd_s]))
    rotate_left 1
    all_goals first | exact ⟨_, rfl, rfl⟩ | skip
    obtain ⟨g1, g2⟩ := hgb (by assumption)
    have g0 : G.length ≤ 100000 := by omega
    have g3 : ∀ g ∈ G, g.2.length ≤ 100000 := fun g hg => Nat.le_trans (g2 g hg) (by omega)
    have gl : (G.map lnOf).length ≤ 60 := by rw [List.length_map]; exact g1
    have gx := cells_le g2
    have small := fun w => linesL_small (w := w) gl gx
    repeat' (first
      | (refine K_ops ?_; first
        | refine W_fastB rfl ?_
        | refine W_nil ?_
        | (refine K_guard ?_; first
          | refine W_guard_on rfl ?_
        )
        | (refine K_call ?_; first
          | (refine W_callsN 13 rfl (w13 (v := v) (w := N) hv g0 g3) rfl ?_; rintro _ h1 ⟨u1, c1, G1, rfl, hG1, e1, t⟩; rw [linesR_ok hw1] at e1; have k1 := hG1.nowP t (by simp); have n1 := k1.ln; replace hv := hv.mono t.le; have a1 : G1.length ≤ 100000 := (by have := small N; rw [← e1, List.length_map] at this; omega); have b1 := lines_le (n := 100000) hN2 (by omega) e1; replace hs := Sep.entry h1; refine W_norm rfl ?_)
          | (refine W_callsN 13 rfl (w13 (v := u1) (w := K) k1 a1 b1) rfl ?_; rintro _ h2 ⟨u2, c2, G2, rfl, hG2, e2, t⟩; rw [linesR_ok hw2, e1, lines_twice _ hN2] at e2; have k2 := hG2.nowP t (by simp); replace hv := hv.mono t.le; replace k1 := k1.mono t.le; have a2 : G2.length ≤ 100000 := (by have := small K; rw [← e2, List.length_map] at this; omega); have b2 := lines_le (n := 100000) hK2 (by omega) e2; replace hs := Sep.entry h2; refine W_norm rfl ?_)
          | (refine W_callsN 13 rfl (w13 (v := v) (w := K) hv g0 g3) rfl ?_; rintro _ h3 ⟨u3, c3, G3, rfl, hG3, e3, t⟩; rw [linesR_ok hw2] at e3; have k3 := hG3.nowP t (by simp); replace hv := hv.mono t.le; replace k1 := k1.mono t.le; replace k2 := k2.mono t.le; have a3 : G3.length ≤ 100000 := (by have := small K; rw [← e3, List.length_map] at this; omega); have b3 := lines_le (n := 100000) hK2 (by omega) e3; replace hs := Sep.entry h3; refine W_norm rfl ?_)
          | (refine W_callsN 14 rfl (w14 (u := u2) (v := u3) k2 k3 a2 a3 b2 b3 (e2.trans e3.symm)) rfl ?_; rintro _ h4 ⟨rfl, t⟩; replace hv := hv.mono t.le; replace k1 := k1.mono t.le; replace hs := Sep.entry h4; refine W_norm rfl ?_)
          | (refine W_callsN 13 rfl (w13 (v := u1) (w := N) k1 a1 b1) rfl ?_; rintro _ h5 ⟨u5, c5, G5, rfl, hG5, e5, t⟩; rw [linesR_ok hw1, e1, lines_twice _ hN2] at e5; have k5 := hG5.nowP t (by simp); replace hv := hv.mono t.le; replace k1 := k1.mono t.le; have a5 : G5.length ≤ 100000 := (by have := small N; rw [← e5, List.length_map] at this; omega); have b5 := lines_le (n := 100000) hN2 (by omega) e5; replace hs := Sep.entry h5; refine W_norm rfl ?_)
          | (refine W_callsN 14 rfl (w14 (u := u5) (v := u1) k5 k1 a5 a1 b5 b1 (e5.trans e1.symm)) rfl ?_; rintro _ h6 ⟨rfl, t⟩; replace hv := hv.mono t.le; replace k1 := k1.mono t.le; replace hs := Sep.entry h6; refine W_norm rfl ?_)
          | (refine W_callsN 15 rfl (w15 (v := v) hv g0 g3) rfl ?_; rintro _ h7 ⟨u7, c7, P7, rfl, hP7, e7, t⟩; have k7 := NsR.nowP t (by simp) hP7; have n7 := k7.ln; have k71 := k7.1; replace k1 := k1.mono t.le; replace hs := Sep.entry h7; refine W_norm rfl ?_)
          | (refine W_callsN 15 rfl (w15 (v := u1) k1 a1 b1) rfl ?_; rintro _ h8 ⟨u8, c8, P8, rfl, hP8, e8, t⟩; rw [e1, paras_at _ hN2] at e8; have k8 := NsR.nowP t (by simp) hP8; have n8 := k8.ln; have k81 := k8.1; replace k7 := k7.mono t.le; replace k71 := k7.1; replace hs := Sep.entry h8; have h78 : P7.length = P8.length := (by have := congrArg List.length (e7.trans e8.symm); rwa [List.length_map, List.length_map] at this); refine W_norm rfl ?_)
        )
        | (refine W_lenL rfl (by first | assumption | exact SlR.ln (by assumption) | exact AccS.ln (by assumption) | exact OwnS.ln (by assumption) | exact VwO.ln (by assumption) | exact OwnP.ln (by assumption) | exact Len.sl) ?_; refine W_norm rfl ?_)
        | (refine K_pick ?_; first
          | refine W_pick_f rfl rfl (W_norm rfl ?_)
        )
      )
      | (refine K_code ?_; first
        | refine W_seq ?_
        | refine W_ops ?_
        | refine W_cond_f rfl ?_
        | (refine W_cond rfl (fun hc => ?_) (fun hc => ?_) <;> (try rw [hc]) <;> (try simp only [decide_eq_true_eq, decide_eq_false_iff_not, beq_iff_eq, beq_eq_false_iff_ne, bne_iff_ne, bne_eq_false_iff_eq, Bool.not_eq_true', Bool.not_eq_false', Int.not_lt, Int.not_le, ne_eq, reduceCtorEq, not_true_eq_false, not_false_eq_true, Decidable.not_not] at hc) <;> (try (exfalso; omega)) <;> (try refine W_norm rfl ?_))
        | refine W_skip ?_
        | refine W_block ?_
      )
      | refine seqK_n ?_)
    have h7c : P7.length ≤ 100000 := by
      have q := congrArg List.length e7
      have := paras_count (G.map lnOf) []
      rw [List.length_map] at q; omega
    have hPl : ∀ i, i < P7.length → ((P7.map Prod.snd).getD i []).length ≤ 100000 := by
      intro i hi
      have := paras_len gx (p := (P7.map Prod.snd).getD i []) (by rw [← e7]; exact getD_mem (by rw [List.length_map]; exact hi))
      omega
    refine W_loopB [6, 10, 58, 59, 60, 61, 62, 63, 64, 65, 66, 67, 68, 69, 70, 71, 72, 73] [0, 1, 2, 3, 4, 5, 6, 7, 8, 9, 10, 11, 12, 13, 14, 15, 16, 17, 18, 19, 20, 21, 22, 23, 24, 25, 26, 27, 28, 29, 30, 31, 32, 33, 34, 35, 36, 37, 38, 39, 40, 41, 42, 43, 44, 45, 46, 47, 48, 49, 50, 51, 52, 53, 54, 55, 56, 57, 58, 59, 60, 61, 62, 63, 64, 65, 66, 67, 68, 69, 70, 71, 72, 73, 74] (fun n' sl h' => ∃ (i : Nat), sl = [(10, .sc (.int .i64 (i : Int)))] ∧ n' = P7.length - i ∧ i ≤ P7.length ∧ Sep (Now h8) [] h') ?_ ?_
    · refine ⟨_, _, ⟨0, rfl, rfl, Nat.zero_le _, hs⟩, EnvB.of rfl⟩
    clear hs
    rintro _ _ us _ h9 ⟨i, rfl, rfl, hi, hs⟩ he
    refine W_spell he rfl ?_
    clear he
    unfold m4_l11
    by_cases hlt : i < P7.length
    · have r7 := k7.row hlt
      have r8 := k8.row (i := i) (by omega)
      rw [e8, ← e7] at r8
      have rl := hPl i hlt
      repeat' (first
        | (refine K_ops ?_; first
          | refine W_fastB rfl ?_
          | refine W_nil ?_
          | (refine K_call ?_; first
            | (refine W_callsN 16 rfl (w16 (SlR.now hs r7) (SlR.now hs r8) rl rl) rfl ?_; rintro _ h9 ⟨rfl, rfl⟩; rw [decide_eq_true rfl]; refine W_norm rfl ?_)
          )
          | (refine W_lenL rfl (by first | assumption | exact SlR.ln (by assumption) | exact AccS.ln (by assumption) | exact OwnS.ln (by assumption) | exact VwO.ln (by assumption) | exact OwnP.ln (by assumption) | exact Len.sl) ?_; refine W_norm rfl ?_)
          | (refine K_bin ?_; first
            | (refine W_add rfl rfl (IntWalk.i64_in _ (by first | omega | (simp only [List.length_set, List.length_append, List.length_take, List.length_drop, List.length_replicate, List.length_cons, List.length_nil, decs_length, List.length_map]; omega))) ?_; refine W_norm rfl ?_)
          )
          | (refine K_index ?_; first
            | (refine W_indexR rfl rfl (by assumption) rfl ⟨(by first | omega | (simp only [List.length_set, List.length_append, List.length_take, List.length_drop, List.length_replicate, List.length_cons, List.length_nil, decs_length, List.length_map]; omega)), (by first | omega | (simp only [List.length_set, List.length_append, List.length_take, List.length_drop, List.length_replicate, List.length_cons, List.length_nil, decs_length, List.length_map]; omega))⟩ ?_; intro _ _ _; refine W_norm rfl ?_)
          )
          | (refine K_load ?_; first
            | (refine W_loadR hs rfl (by assumption) rfl ?_; refine W_norm rfl ?_)
          )
        )
        | (refine K_code ?_; first
          | refine W_seq ?_
          | refine W_ops ?_
          | refine W_cond_f rfl ?_
          | (refine W_cond rfl (fun hc => ?_) (fun hc => ?_) <;> (try rw [hc]) <;> (try simp only [decide_eq_true_eq, decide_eq_false_iff_not, beq_iff_eq, beq_eq_false_iff_ne, bne_iff_ne, bne_eq_false_iff_eq, Bool.not_eq_true', Bool.not_eq_false', Int.not_lt, Int.not_le, ne_eq, reduceCtorEq, not_true_eq_false, not_false_eq_true, Decidable.not_not] at hc) <;> (try (exfalso; omega)) <;> (try refine W_norm rfl ?_))
          | refine W_skip ?_
          | refine W_block ?_
          | refine W_draw rfl ?_
        )
        | refine seqK_n ?_
        | refine blockK_n ?_
        | refine invK_n ?_)
      refine ⟨_, ?_, _, ⟨i + 1, rfl, rfl, ?_, hs⟩, EnvB.of rfl⟩
      · omega
      · omega
    · repeat' (first
        | (refine K_ops ?_; first
          | refine W_fastB rfl ?_
          | refine W_nil ?_
          | (refine K_call ?_; first
            | (refine W_callsN 9 rfl (w9 _) rfl ?_; rintro _ _ ⟨rfl, rfl⟩; refine W_norm rfl ?_)
          )
          | (refine W_lenL rfl (by first | assumption | exact SlR.ln (by assumption) | exact AccS.ln (by assumption) | exact OwnS.ln (by assumption) | exact VwO.ln (by assumption) | exact OwnP.ln (by assumption) | exact Len.sl) ?_; refine W_norm rfl ?_)
        )
        | (refine K_code ?_; first
          | refine W_seq ?_
          | refine W_ops ?_
          | (refine W_cond rfl (fun hc => ?_) (fun hc => ?_) <;> (try rw [hc]) <;> (try simp only [decide_eq_true_eq, decide_eq_false_iff_not, beq_iff_eq, beq_eq_false_iff_ne, bne_iff_ne, bne_eq_false_iff_eq, Bool.not_eq_true', Bool.not_eq_false', Int.not_lt, Int.not_le, ne_eq, reduceCtorEq, not_true_eq_false, not_false_eq_true, Decidable.not_not] at hc) <;> (try (exfalso; omega)) <;> (try refine W_norm rfl ?_))
          | refine W_ret ?_
          | refine W_exit ?_
        )
        | refine seqK_n ?_
        | refine seqK_x ?_
        | refine blockK_e ?_
        | refine invK_x ?_
        | (refine fnK_r rfl ?_; try dsimp only [gd_z, gd_s]))
      exact ⟨_, rfl, rfl⟩
  · repeat' (first
      | (refine K_ops ?_; first
        | refine W_fastB rfl ?_
        | refine W_nil ?_
        | (refine K_guard ?_; first
          | refine W_guard_on rfl ?_
          | refine W_guard_off rfl rfl (W_norm rfl ?_)
          | (refine W_guardF rfl (fun hc => ?_) (fun hc => ?_) <;> (try rw [hc]) <;> (try simp only [decide_eq_true_eq, decide_eq_false_iff_not, beq_iff_eq, beq_eq_false_iff_ne, bne_iff_ne, bne_eq_false_iff_eq, Bool.not_eq_true', Bool.not_eq_false', Int.not_lt, Int.not_le, ne_eq, reduceCtorEq, not_true_eq_false, not_false_eq_true, Decidable.not_not] at hc) <;> (try (exfalso; omega)) <;> (try refine W_norm rfl ?_))
        )
        | (refine K_call ?_; first
          | (refine W_callsN 9 rfl (w9 _) rfl ?_; rintro _ _ ⟨rfl, rfl⟩; refine W_norm rfl ?_)
          | (refine W_callsN 8 rfl (w8b (hv.now hs) hl hl2) rfl ?_; rintro _ h ⟨gb, rfl, rfl, hgb⟩; refine W_norm rfl ?_)
        )
        | (refine K_pick ?_; first
          | refine W_pick_t rfl rfl (W_norm rfl ?_)
          | refine W_pick_f rfl rfl (W_norm rfl ?_)
        )
      )
      | (refine K_code ?_; first
        | refine W_seq ?_
        | refine W_ops ?_
        | refine W_cond_t rfl ?_
        | (refine W_cond rfl (fun hc => ?_) (fun hc => ?_) <;> (try rw [hc]) <;> (try simp only [decide_eq_true_eq, decide_eq_false_iff_not, beq_iff_eq, beq_eq_false_iff_ne, bne_iff_ne, bne_eq_false_iff_eq, Bool.not_eq_true', Bool.not_eq_false', Int.not_lt, Int.not_le, ne_eq, reduceCtorEq, not_true_eq_false, not_false_eq_true, Decidable.not_not] at hc) <;> (try (exfalso; omega)) <;> (try refine W_norm rfl ?_))
        | refine W_skip ?_
        | refine W_ret ?_
      )
      | refine seqK_n ?_
      | refine seqK_r ?_
      | (refine fnK_r rfl ?_; try dsimp only [gd_z, gd_s]))
    all_goals first | exact ⟨_, rfl, rfl⟩ | (exfalso; exact hok ⟨⟨by omega, by omega⟩, ⟨by omega, by omega⟩⟩)
theorem walk_reflowTwice (H : Heap) (avs : List AV) (hwf : H.l.length = H.n) (hs : Sub (HL Tryd.prog.globals.size jxLs) H) (ho : OpenA H [(false, [.slice 39 3 [.slice 48 7 [.int .i32, .int .u8, .int .u16, .int .u8, .int .u32, .int .u8, .int .u32], .bool, .bool]]), (false, [.int .i64]), (false, [.int .i64])] avs) : W DD (.call 4 avs H) (fun _ vs _ => vs = [.sc (.bool true)]) := by
  simp only [OpenA] at ho
  obtain ⟨_, _, _, hk, rfl, o1, _, _, _, hk2, rfl, o2, _, _, _, hk3, rfl, o3, rfl⟩ := ho
  cases hk
  cases hk2
  cases hk3
  simp only [OpenS] at o2 o3
  obtain ⟨w, rfl, _⟩ := o2
  obtain ⟨x, rfl, _⟩ := o3
  obtain ⟨G, hG, h1, h2⟩ := openLines o1
  exact (w4 hG h1 h2).mono fun _ _ _ ⟨v, hv, h3⟩ => by rw [hv, h3]
end Go.Proofs.YtllhbhhgihdakaaDoor
