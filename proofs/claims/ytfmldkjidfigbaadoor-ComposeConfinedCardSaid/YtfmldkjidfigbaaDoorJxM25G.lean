import Derived.Test.YtfmldkjidfigbaaDoorJxM25F
/- Compose: bounds, and what is whole. -/
set_option linter.unusedSimpArgs false
set_option linter.unusedVariables false
set_option maxHeartbeats 1000000
set_option maxRecDepth 100000
namespace Go.Proofs.YtfmldkjidfigbaaDoor
open Go Go.Jx

theorem w31 {z : Rc} {h : Heap} : Wc DD 31 [.agg (rcE.enc z)] h fun v h' => ∃ b, v = bo b ∧ Sep (Now h) [] h' := by
  have hs := Sep.entry h
  refine W_enter d31 ?_
  show W _ (.code m31_code [.agg (rcE.enc z), undefA, undefA, undefA, undefA, undefA, undefA, undefA, undefA, undefA, undefA, undefA, undefA, undefA, undefA, undefA, undefA, undefA, undefA, undefA, undefA, undefA, undefA, undefA, undefA, undefA] _) _
  unfold m31_code
  repeat' (first
    | (refine K_ops ?_; first
      | refine W_fastB rfl ?_
      | refine W_nil ?_
      | (refine K_load ?_; first
        | (refine W_loadC hs 0 rfl rfl rfl ?_; refine W_norm rfl ?_)
      )
      | (refine W_boxS hs rfl rfl ?_; clear hs; intro bx _ hs; try simp only [cell_back, attr_back, List.set_cons_zero, List.set_cons_succ, List.eraseIdx_cons_succ, List.eraseIdx_zero, List.tail_cons, List.nil_append, List.cons_append] at hs; refine W_norm rfl ?_)
    )
    | (refine K_code ?_; first
      | refine W_seq ?_
      | refine W_ops ?_
    )
    | refine seqK_n ?_)
  refine W_buildSlice (cs := [.int .i64 z.x, .int .i64 z.y, .int .i64 z.w, .int .i64 z.h]) rfl (W_norm rfl ?_)
  rename_i h1
  obtain ⟨id, hid⟩ : ∃ b, b = h1.n := ⟨_, rfl⟩
  replace hs : Sep (Now h) ([(h1.n, .cells 3 .own ([z.x, z.y, z.w, z.h].flatMap (intEl .i64).enc))] :: [(bx, .cells 37 .own (rcE.enc z))] :: []) (h1.push (.cells 3 .own [.int .i64 z.x, .int .i64 z.y, .int .i64 z.w, .int .i64 z.h])) := hs.push _
  rw [← hid] at *
  have hl4 : [z.x, z.y, z.w, z.h].length = 4 := rfl
  generalize h1.push (.cells 3 .own [.int .i64 z.x, .int .i64 z.y, .int .i64 z.w, .int .i64 z.h]) = h2 at *
  generalize [z.x, z.y, z.w, z.h] = L at *
  clear hid
  repeat' (first
    | (refine K_ops ?_; first
      | refine W_fastB rfl ?_
      | refine W_nil ?_
      | (refine W_lenL rfl (by first | assumption | exact SlR.ln (by assumption) | exact AccS.ln (by assumption) | exact OwnS.ln (by assumption) | exact VwO.ln (by assumption) | exact OwnP.ln (by assumption) | exact Len.sl) ?_; refine W_norm rfl ?_)
    )
    | (refine K_code ?_; first
      | refine W_block ?_
    )
    | refine seqK_n ?_)
  refine W_loopB [2, 4, 15, 16, 17, 18, 19, 20, 21, 22, 23, 24, 25] [0, 1, 2, 3, 4, 5, 6, 7, 8, 9, 10, 11, 12, 13, 14, 15, 16, 17, 18, 19, 20, 21, 22, 23, 24, 25] (fun n' sl h' => ∃ (k : Nat), sl = [(15, .sc (.int .i64 (k : Int)))] ∧ n' = 4 - k ∧ k ≤ 4 ∧ h' = h2) ?_ ?_
  · refine ⟨_, _, ⟨0, rfl, rfl, by omega, rfl⟩, EnvB.of rfl⟩
  rintro _ _ us _ h3 ⟨k, rfl, rfl, hk, rfl⟩ he
  refine W_spell he rfl ?_
  clear he
  unfold m31_l2
  by_cases hlt : k < 4
  · repeat' (first
      | (refine K_ops ?_; first
        | refine W_fastB rfl ?_
        | refine W_nil ?_
        | (refine K_guard ?_; first
          | refine W_guard_on rfl ?_
          | refine W_guard_off rfl rfl (W_norm rfl ?_)
          | (refine W_guardF rfl (fun hc => ?_) (fun hc => ?_) <;> (try rw [hc]) <;> (try simp only [decide_eq_true_eq, decide_eq_false_iff_not, beq_iff_eq, beq_eq_false_iff_ne, bne_iff_ne, bne_eq_false_iff_eq, Bool.not_eq_true', Bool.not_eq_false', Int.not_lt, Int.not_le, ne_eq, reduceCtorEq, not_true_eq_false, not_false_eq_true, Decidable.not_not] at hc) <;> (try (exfalso; omega)) <;> (try refine W_norm rfl ?_))
        )
        | (refine K_bin ?_; first
          | (refine W_add rfl rfl (IntWalk.i64_in _ (by first | omega | (simp only [List.length_set, List.length_append, List.length_take, List.length_drop, List.length_replicate, List.length_cons, List.length_nil, decs_length, List.length_map]; omega))) ?_; refine W_norm rfl ?_)
        )
        | (refine K_pick ?_; first
          | refine W_pick_t rfl rfl (W_norm rfl ?_)
          | refine W_pick_f rfl rfl (W_norm rfl ?_)
        )
        | (refine K_index ?_; first
          | (refine W_indexO rfl rfl ⟨(by first | omega | (simp only [List.length_set, List.length_append, List.length_take, List.length_drop, List.length_replicate, List.length_cons, List.length_nil, decs_length, List.length_map]; omega)), (by first | omega | (simp only [List.length_set, List.length_append, List.length_take, List.length_drop, List.length_replicate, List.length_cons, List.length_nil, decs_length, List.length_map]; omega))⟩ ?_; refine W_norm rfl ?_)
        )
        | (refine K_load ?_; first
          | (refine W_loadO hs 0 rfl rfl rfl (by first | omega | (simp only [List.length_set, List.length_append, List.length_take, List.length_drop, List.length_replicate, List.length_cons, List.length_nil, decs_length, List.length_map]; omega)) rfl ?_; refine W_norm rfl ?_)
        )
      )
      | (refine K_code ?_; first
        | refine W_seq ?_
        | refine W_ops ?_
        | refine W_cond_t rfl ?_
        | (refine W_cond rfl (fun hc => ?_) (fun hc => ?_) <;> (try rw [hc]) <;> (try simp only [decide_eq_true_eq, decide_eq_false_iff_not, beq_iff_eq, beq_eq_false_iff_ne, bne_iff_ne, bne_eq_false_iff_eq, Bool.not_eq_true', Bool.not_eq_false', Int.not_lt, Int.not_le, ne_eq, reduceCtorEq, not_true_eq_false, not_false_eq_true, Decidable.not_not] at hc) <;> (try (exfalso; omega)) <;> (try refine W_norm rfl ?_))
        | refine W_skip ?_
        | refine W_ret ?_
        | refine W_block ?_
      )
      | refine seqK_n ?_
      | refine seqK_r ?_
      | refine blockK_r ?_
      | refine blockK_n ?_
      | refine invK_r ?_
      | refine invK_n ?_
      | (refine fnK_r rfl ?_; try dsimp only [gd_z, gd_s]))
    all_goals first
      | exact ⟨_, rfl, true, rfl, (hs.drop 0).drop 0⟩
      | (refine ⟨_, ?_, _, ⟨k + 1, rfl, rfl, ?_, rfl⟩, EnvB.of rfl⟩ <;> omega)
  · repeat' (first
      | (refine K_ops ?_; first
        | refine W_fastB rfl ?_
        | refine W_nil ?_
      )
      | (refine K_code ?_; first
        | refine W_seq ?_
        | refine W_ops ?_
        | (refine W_cond rfl (fun hc => ?_) (fun hc => ?_) <;> (try rw [hc]) <;> (try simp only [decide_eq_true_eq, decide_eq_false_iff_not, beq_iff_eq, beq_eq_false_iff_ne, bne_iff_ne, bne_eq_false_iff_eq, Bool.not_eq_true', Bool.not_eq_false', Int.not_lt, Int.not_le, ne_eq, reduceCtorEq, not_true_eq_false, not_false_eq_true, Decidable.not_not] at hc) <;> (try (exfalso; omega)) <;> (try refine W_norm rfl ?_))
        | refine W_ret ?_
        | refine W_exit ?_
      )
      | refine seqK_n ?_
      | refine seqK_x ?_
      | refine blockK_e ?_
      | refine invK_x ?_
      | (refine fnK_r rfl ?_; try dsimp only [gd_z, gd_s]))
    exact ⟨_, rfl, _, rfl, (hs.drop 0).drop 0⟩
end Go.Proofs.YtfmldkjidfigbaaDoor
/- Compose: Great. -/
set_option linter.unusedSimpArgs false
set_option linter.unusedVariables false
set_option maxHeartbeats 1000000
set_option maxRecDepth 100000
namespace Go.Proofs.YtfmldkjidfigbaaDoor
open Go Go.Jx

theorem great_rest {R : Ro} {v : ViewV} {P : List PartV} {B : List Rc} {ln : Lns} {h : Heap} {e : List AV} {bx : Nat} (hv : ViewOk R ln v P B) (h12 : P.length ≤ 12) (hb12 : B.length ≤ 12) (hs : Sep R [bvO bx v] h)
    (he : EnvIs 114 [(1, .sc (.ptr bx 0)), (2, bo false)] e) :
    W DD (.code (.seq (.ops m12_r3) (.seq (.seq (.ops m12_r4) (.block 0 (.loop m12_l5))) (.seq (.seq (.ops m12_r15) (.block 4 (.loop m12_l16))) (.seq (.ops m12_r21) .ret)))) e h) (fun x e' h' => ∃ b, x = .ret ∧ Sep R [bvO bx v] h' ∧ EnvIs 114 [(2, bo b)] e') := by
  obtain ⟨us, rfl⟩ := he.list
  have hpl := hv.ps.ln
  have hbl := hv.bs.ln
  have hps := hv.ps
  have hbs := hv.bs
  repeat' (first
    | (refine K_ops ?_; first
      | refine W_fastB rfl ?_
      | refine W_nil ?_
    )
    | (refine K_code ?_; first
      | refine W_seq ?_
      | refine W_ops ?_
      | refine W_block ?_
    )
    | refine seqK_n ?_)
  refine W_loopB [2, 3, 4, 5, 51, 52, 53, 54, 55, 56, 57, 58, 59, 60, 61, 62, 63, 64, 65, 66, 67, 68, 69, 70, 71, 72, 73, 74, 75, 76, 77, 78, 79, 80, 81, 82, 83, 84, 85, 86, 87, 88, 89, 90, 91, 92, 93, 94, 95, 96, 97, 98] [0, 1, 2, 3, 4, 5, 6, 7, 8, 9, 10, 11, 12, 13, 14, 15, 16, 17, 18, 19, 20, 21, 22, 23, 24, 25, 26, 27, 28, 29, 30, 31, 32, 33, 34, 35, 36, 37, 38, 39, 40, 41, 42, 43, 44, 45, 46, 47, 48, 49, 50, 51, 52, 53, 54, 55, 56, 57, 58, 59, 60, 61, 62, 63, 64, 65, 66, 67, 68, 69, 70, 71, 72, 73, 74, 75, 76, 77, 78, 79, 80, 81, 82, 83, 84, 85, 86, 87, 88, 89, 90, 91, 92, 93, 94, 95, 96, 97, 98, 99, 100, 101, 102, 103, 104, 105, 106, 107, 108, 109, 110, 111, 112, 113] (fun n' sl h' => ∃ (i : Nat) (n : Int), sl = [(3, .sc (.int .i64 n)), (4, .sc (.int .i64 (i : Int)))] ∧ n' = P.length - i ∧ i ≤ P.length ∧ 0 ≤ n ∧ n ≤ 600200 * i ∧ Sep R [bvO bx v] h') ?_ ?_
  · refine ⟨_, _, ⟨0, 0, rfl, rfl, by omega, by omega, by omega, hs⟩, EnvB.of rfl⟩
  · clear hs
    rintro _ _ us _ h2 ⟨i, n, rfl, rfl, hi, hn0, hn1, hs⟩ he
    refine W_spell he rfl ?_
    clear he
    unfold m12_l5
    by_cases hlt : i < P.length
    · have hpx : PartOk R ln (P.getD i part0) := hv.p _ (getD_mem hlt)
      have hll : Len (P.getD (i : Int).toNat partE.dflt).v (ln (P.getD i part0).v).length := hpx.2.1.ln
      have hgl := hpx.2.2.1
      have hgv : SlR svEl R (P.getD (i : Int).toNat partE.dflt).v ((ln (P.getD i part0).v).map Prod.fst) := hpx.2.1.1
      have hgl2 : ((ln (P.getD i part0).v).map Prod.fst).length = (ln (P.getD i part0).v).length := List.length_map _
      repeat' (first
        | (refine K_ops ?_; first
          | refine W_fastB rfl ?_
          | refine W_nil ?_
          | (refine K_guard ?_; first
            | refine W_guard_on rfl ?_
            | refine W_guard_off rfl rfl (W_norm rfl ?_)
            | (refine W_guardF rfl (fun hc => ?_) (fun hc => ?_) <;> (try rw [hc]) <;> (try simp only [decide_eq_true_eq, decide_eq_false_iff_not, beq_iff_eq, beq_eq_false_iff_ne, bne_iff_ne, bne_eq_false_iff_eq, Bool.not_eq_true', Bool.not_eq_false', Int.not_lt, Int.not_le, ne_eq, reduceCtorEq, not_true_eq_false, not_false_eq_true, Decidable.not_not] at hc) <;> (try (exfalso; omega)) <;> (try refine W_norm rfl ?_))
          )
          | (refine K_call ?_; first
            | (refine W_callsN 31 rfl (w31) rfl ?_; rintro _ h3 ⟨b, rfl, t⟩; replace hs := hs.call t; try simp only [cell_back, attr_back, List.set_cons_zero, List.set_cons_succ, List.eraseIdx_cons_succ, List.eraseIdx_zero, List.tail_cons, List.nil_append, List.cons_append] at hs; refine W_norm rfl ?_)
          )
          | (refine W_lenL rfl (by first | assumption | exact SlR.ln (by assumption) | exact AccS.ln (by assumption) | exact OwnS.ln (by assumption) | exact VwO.ln (by assumption) | exact OwnP.ln (by assumption) | exact Len.sl) ?_; refine W_norm rfl ?_)
          | (refine K_pick ?_; first
            | refine W_pick_t rfl rfl (W_norm rfl ?_)
            | refine W_pick_f rfl rfl (W_norm rfl ?_)
          )
          | (refine K_index ?_; first
            | (refine W_indexR rfl rfl (by assumption) rfl ⟨(by first | omega | (simp only [List.length_set, List.length_append, List.length_take, List.length_drop, List.length_replicate, List.length_cons, List.length_nil, decs_length, List.length_map]; omega)), (by first | omega | (simp only [List.length_set, List.length_append, List.length_take, List.length_drop, List.length_replicate, List.length_cons, List.length_nil, decs_length, List.length_map]; omega))⟩ ?_; intro _ _ _; refine W_norm rfl ?_)
          )
          | (refine K_load ?_; first
            | (refine W_loadRF hs rfl (by assumption) rfl ?_; refine W_norm rfl ?_)
            | (refine W_loadRP hs rfl (by assumption) rfl ?_; refine W_norm rfl ?_)
            | (refine W_loadC hs 0 rfl rfl rfl ?_; refine W_norm rfl ?_)
          )
        )
        | (refine K_code ?_; first
          | refine W_seq ?_
          | refine W_ops ?_
          | refine W_cond_t rfl ?_
          | (refine W_cond rfl (fun hc => ?_) (fun hc => ?_) <;> (try rw [hc]) <;> (try simp only [decide_eq_true_eq, decide_eq_false_iff_not, beq_iff_eq, beq_eq_false_iff_ne, bne_iff_ne, bne_eq_false_iff_eq, Bool.not_eq_true', Bool.not_eq_false', Int.not_lt, Int.not_le, ne_eq, reduceCtorEq, not_true_eq_false, not_false_eq_true, Decidable.not_not] at hc) <;> (try (exfalso; omega)) <;> (try refine W_norm rfl ?_))
          | refine W_skip ?_
          | refine W_ret ?_
          | refine W_block ?_
        )
        | refine seqK_n ?_
        | refine seqK_r ?_
        | refine blockK_r ?_
        | refine invK_r ?_)
      · exact ⟨_, rfl, hs, rfl, rfl, trivial⟩
      · rename_i hc200
        refine W_loopB [3, 5, 75, 76, 77, 78, 79, 80, 81, 82, 83, 84, 85, 86, 87, 88, 89, 90, 91, 92, 93, 94, 95, 96, 97, 98] [0, 1, 2, 3, 4, 5, 6, 7, 8, 9, 10, 11, 12, 13, 14, 15, 16, 17, 18, 19, 20, 21, 22, 23, 24, 25, 26, 27, 28, 29, 30, 31, 32, 33, 34, 35, 36, 37, 38, 39, 40, 41, 42, 43, 44, 45, 46, 47, 48, 49, 50, 51, 52, 53, 54, 55, 56, 57, 58, 59, 60, 61, 62, 63, 64, 65, 66, 67, 68, 69, 70, 71, 72, 73, 74, 75, 76, 77, 78, 79, 80, 81, 82, 83, 84, 85, 86, 87, 88, 89, 90, 91, 92, 93, 94, 95, 96, 97, 98, 99, 100, 101, 102, 103, 104, 105, 106, 107, 108, 109, 110, 111, 112, 113] (fun n' sl h' => ∃ (j : Nat) (n2 : Int), sl = [(3, .sc (.int .i64 n2)), (5, .sc (.int .i64 (j : Int)))] ∧ n' = (ln (P.getD i part0).v).length - j ∧ j ≤ (ln (P.getD i part0).v).length ∧ 0 ≤ n2 ∧ n2 ≤ 600200 * i + 3001 * j ∧ Sep R [bvO bx v] h') ?_ ?_
        · refine ⟨_, _, ⟨0, n, rfl, rfl, by omega, by omega, by omega, hs⟩, EnvB.of rfl⟩
        clear hs
        rintro _ _ us _ h4 ⟨j, n2, rfl, rfl, hj, hm0, hm1, hs⟩ he
        refine W_spell he rfl ?_
        clear he
        unfold m12_l10
        by_cases hjl : j < (ln (P.getD i part0).v).length
        · have hrow := hpx.2.1.row hjl
          have hlr : Len (((ln (P.getD i part0).v).map Prod.fst).getD (j : Int).toNat svEl.dflt) (((ln (P.getD i part0).v).map Prod.snd).getD j []).length := hrow.ln
          repeat' (first
            | (refine K_ops ?_; first
              | refine W_fastB rfl ?_
              | refine W_nil ?_
              | (refine W_lenL rfl (by first | assumption | exact SlR.ln (by assumption) | exact AccS.ln (by assumption) | exact OwnS.ln (by assumption) | exact VwO.ln (by assumption) | exact OwnP.ln (by assumption) | exact Len.sl) ?_; refine W_norm rfl ?_)
              | (refine K_bin ?_; first
                | (refine W_add rfl rfl (IntWalk.i64_in _ (by first | omega | (simp only [List.length_set, List.length_append, List.length_take, List.length_drop, List.length_replicate, List.length_cons, List.length_nil, decs_length, List.length_map]; omega))) ?_; refine W_norm rfl ?_)
              )
              | (refine K_index ?_; first
                | (refine W_indexR rfl rfl (by assumption) rfl ⟨(by first | omega | (simp only [List.length_set, List.length_append, List.length_take, List.length_drop, List.length_replicate, List.length_cons, List.length_nil, decs_length, List.length_map]; omega)), (by first | omega | (simp only [List.length_set, List.length_append, List.length_take, List.length_drop, List.length_replicate, List.length_cons, List.length_nil, decs_length, List.length_map]; omega))⟩ ?_; intro _ _ _; refine W_norm rfl ?_)
              )
              | (refine K_load ?_; first
                | (refine W_loadR hs rfl (by assumption) rfl ?_; refine W_norm rfl ?_)
                | (refine W_loadRF hs rfl (by assumption) rfl ?_; refine W_norm rfl ?_)
                | (refine W_loadC hs 0 rfl rfl rfl ?_; refine W_norm rfl ?_)
              )
              | (refine W_min2 rfl rfl ?_; refine W_norm rfl ?_)
            )
            | (refine K_code ?_; first
              | refine W_seq ?_
              | refine W_ops ?_
              | (refine W_cond rfl (fun hc => ?_) (fun hc => ?_) <;> (try rw [hc]) <;> (try simp only [decide_eq_true_eq, decide_eq_false_iff_not, beq_iff_eq, beq_eq_false_iff_ne, bne_iff_ne, bne_eq_false_iff_eq, Bool.not_eq_true', Bool.not_eq_false', Int.not_lt, Int.not_le, ne_eq, reduceCtorEq, not_true_eq_false, not_false_eq_true, Decidable.not_not] at hc) <;> (try (exfalso; omega)) <;> (try refine W_norm rfl ?_))
              | refine W_skip ?_
              | refine W_block ?_
            )
            | refine seqK_n ?_
            | refine blockK_n ?_
            | refine invK_n ?_)
          refine ⟨_, ?_, _, ⟨j + 1, _, rfl, rfl, ?_, ?_, ?_, hs⟩, EnvB.of rfl⟩ <;> omega
        · repeat' (first
            | (refine K_ops ?_; first
              | refine W_fastB rfl ?_
              | refine W_nil ?_
              | (refine W_lenL rfl (by first | assumption | exact SlR.ln (by assumption) | exact AccS.ln (by assumption) | exact OwnS.ln (by assumption) | exact VwO.ln (by assumption) | exact OwnP.ln (by assumption) | exact Len.sl) ?_; refine W_norm rfl ?_)
              | (refine K_bin ?_; first
                | (refine W_add rfl rfl (IntWalk.i64_in _ (by first | omega | (simp only [List.length_set, List.length_append, List.length_take, List.length_drop, List.length_replicate, List.length_cons, List.length_nil, decs_length, List.length_map]; omega))) ?_; refine W_norm rfl ?_)
              )
              | (refine K_index ?_; first
                | (refine W_indexR rfl rfl (by assumption) rfl ⟨(by first | omega | (simp only [List.length_set, List.length_append, List.length_take, List.length_drop, List.length_replicate, List.length_cons, List.length_nil, decs_length, List.length_map]; omega)), (by first | omega | (simp only [List.length_set, List.length_append, List.length_take, List.length_drop, List.length_replicate, List.length_cons, List.length_nil, decs_length, List.length_map]; omega))⟩ ?_; intro _ _ _; refine W_norm rfl ?_)
              )
              | (refine K_load ?_; first
                | (refine W_loadRF hs rfl (by assumption) rfl ?_; refine W_norm rfl ?_)
                | (refine W_loadC hs 0 rfl rfl rfl ?_; refine W_norm rfl ?_)
              )
            )
            | (refine K_code ?_; first
              | refine W_seq ?_
              | refine W_ops ?_
              | (refine W_cond rfl (fun hc => ?_) (fun hc => ?_) <;> (try rw [hc]) <;> (try simp only [decide_eq_true_eq, decide_eq_false_iff_not, beq_iff_eq, beq_eq_false_iff_ne, bne_iff_ne, bne_eq_false_iff_eq, Bool.not_eq_true', Bool.not_eq_false', Int.not_lt, Int.not_le, ne_eq, reduceCtorEq, not_true_eq_false, not_false_eq_true, Decidable.not_not] at hc) <;> (try (exfalso; omega)) <;> (try refine W_norm rfl ?_))
              | refine W_exit ?_
            )
            | refine seqK_n ?_
            | refine seqK_x ?_
            | refine blockK_n ?_
            | refine blockK_e ?_
            | refine invK_x ?_
            | refine invK_n ?_)
          refine ⟨_, ?_, _, ⟨i + 1, n2, rfl, rfl, ?_, ?_, ?_, hs⟩, EnvB.of rfl⟩ <;> omega
      · exact ⟨_, rfl, hs, rfl, rfl, trivial⟩
    · repeat' (first
        | (refine K_ops ?_; first
          | refine W_fastB rfl ?_
          | refine W_nil ?_
          | (refine W_lenL rfl (by first | assumption | exact SlR.ln (by assumption) | exact AccS.ln (by assumption) | exact OwnS.ln (by assumption) | exact VwO.ln (by assumption) | exact OwnP.ln (by assumption) | exact Len.sl) ?_; refine W_norm rfl ?_)
          | (refine K_load ?_; first
            | (refine W_loadC hs 0 rfl rfl rfl ?_; refine W_norm rfl ?_)
          )
        )
        | (refine K_code ?_; first
          | refine W_seq ?_
          | refine W_ops ?_
          | (refine W_cond rfl (fun hc => ?_) (fun hc => ?_) <;> (try rw [hc]) <;> (try simp only [decide_eq_true_eq, decide_eq_false_iff_not, beq_iff_eq, beq_eq_false_iff_ne, bne_iff_ne, bne_eq_false_iff_eq, Bool.not_eq_true', Bool.not_eq_false', Int.not_lt, Int.not_le, ne_eq, reduceCtorEq, not_true_eq_false, not_false_eq_true, Decidable.not_not] at hc) <;> (try (exfalso; omega)) <;> (try refine W_norm rfl ?_))
          | refine W_exit ?_
          | refine W_block ?_
        )
        | refine seqK_n ?_
        | refine seqK_x ?_
        | refine blockK_e ?_
        | refine invK_x ?_)
      clear hi hlt
      refine W_loopB [2, 6, 99, 100, 101, 102, 103, 104, 105, 106, 107, 108, 109, 110, 111] [0, 1, 2, 3, 4, 5, 6, 7, 8, 9, 10, 11, 12, 13, 14, 15, 16, 17, 18, 19, 20, 21, 22, 23, 24, 25, 26, 27, 28, 29, 30, 31, 32, 33, 34, 35, 36, 37, 38, 39, 40, 41, 42, 43, 44, 45, 46, 47, 48, 49, 50, 51, 52, 53, 54, 55, 56, 57, 58, 59, 60, 61, 62, 63, 64, 65, 66, 67, 68, 69, 70, 71, 72, 73, 74, 75, 76, 77, 78, 79, 80, 81, 82, 83, 84, 85, 86, 87, 88, 89, 90, 91, 92, 93, 94, 95, 96, 97, 98, 99, 100, 101, 102, 103, 104, 105, 106, 107, 108, 109, 110, 111, 112, 113] (fun n' sl h' => ∃ (k : Nat), sl = [(6, .sc (.int .i64 (k : Int)))] ∧ n' = B.length - k ∧ k ≤ B.length ∧ Sep R [bvO bx v] h') ?_ ?_
      · refine ⟨_, _, ⟨0, rfl, rfl, by omega, hs⟩, EnvB.of rfl⟩
      clear hs
      rintro _ _ us _ h4 ⟨k, rfl, rfl, hk, hs⟩ he
      refine W_spell he rfl ?_
      clear he
      unfold m12_l16
      by_cases hkl : k < B.length
      · repeat' (first
          | (refine K_ops ?_; first
            | refine W_fastB rfl ?_
            | refine W_nil ?_
            | (refine K_call ?_; first
              | (refine W_callsN 31 rfl (w31 (z := B.getD (k : Int).toNat rcE.dflt)) rfl ?_; rintro _ h3 ⟨b, rfl, t⟩; replace hs := hs.call t; try simp only [cell_back, attr_back, List.set_cons_zero, List.set_cons_succ, List.eraseIdx_cons_succ, List.eraseIdx_zero, List.tail_cons, List.nil_append, List.cons_append] at hs; refine W_norm rfl ?_)
            )
            | (refine W_lenL rfl (by first | assumption | exact SlR.ln (by assumption) | exact AccS.ln (by assumption) | exact OwnS.ln (by assumption) | exact VwO.ln (by assumption) | exact OwnP.ln (by assumption) | exact Len.sl) ?_; refine W_norm rfl ?_)
            | (refine K_bin ?_; first
              | (refine W_add rfl rfl (IntWalk.i64_in _ (by first | omega | (simp only [List.length_set, List.length_append, List.length_take, List.length_drop, List.length_replicate, List.length_cons, List.length_nil, decs_length, List.length_map]; omega))) ?_; refine W_norm rfl ?_)
            )
            | (refine K_index ?_; first
              | (refine W_indexR rfl rfl (by assumption) rfl ⟨(by first | omega | (simp only [List.length_set, List.length_append, List.length_take, List.length_drop, List.length_replicate, List.length_cons, List.length_nil, decs_length, List.length_map]; omega)), (by first | omega | (simp only [List.length_set, List.length_append, List.length_take, List.length_drop, List.length_replicate, List.length_cons, List.length_nil, decs_length, List.length_map]; omega))⟩ ?_; intro _ _ _; refine W_norm rfl ?_)
            )
            | (refine K_load ?_; first
              | (refine W_loadRA hs rfl (by assumption) rfl ?_; refine W_norm rfl ?_)
              | (refine W_loadC hs 0 rfl rfl rfl ?_; refine W_norm rfl ?_)
            )
          )
          | (refine K_code ?_; first
            | refine W_seq ?_
            | refine W_ops ?_
            | (refine W_cond rfl (fun hc => ?_) (fun hc => ?_) <;> (try rw [hc]) <;> (try simp only [decide_eq_true_eq, decide_eq_false_iff_not, beq_iff_eq, beq_eq_false_iff_ne, bne_iff_ne, bne_eq_false_iff_eq, Bool.not_eq_true', Bool.not_eq_false', Int.not_lt, Int.not_le, ne_eq, reduceCtorEq, not_true_eq_false, not_false_eq_true, Decidable.not_not] at hc) <;> (try (exfalso; omega)) <;> (try refine W_norm rfl ?_))
            | refine W_skip ?_
            | refine W_ret ?_
            | refine W_block ?_
          )
          | refine seqK_n ?_
          | refine seqK_r ?_
          | refine blockK_r ?_
          | refine blockK_n ?_
          | refine invK_r ?_
          | refine invK_n ?_)
        · exact ⟨_, rfl, hs, rfl, rfl, trivial⟩
        · refine ⟨_, ?_, _, ⟨k + 1, rfl, rfl, ?_, hs⟩, EnvB.of rfl⟩ <;> omega
      · repeat' (first
          | (refine K_ops ?_; first
            | refine W_fastB rfl ?_
            | refine W_nil ?_
            | (refine W_lenL rfl (by first | assumption | exact SlR.ln (by assumption) | exact AccS.ln (by assumption) | exact OwnS.ln (by assumption) | exact VwO.ln (by assumption) | exact OwnP.ln (by assumption) | exact Len.sl) ?_; refine W_norm rfl ?_)
            | (refine K_load ?_; first
              | (refine W_loadC hs 0 rfl rfl rfl ?_; refine W_norm rfl ?_)
            )
          )
          | (refine K_code ?_; first
            | refine W_seq ?_
            | refine W_ops ?_
            | (refine W_cond rfl (fun hc => ?_) (fun hc => ?_) <;> (try rw [hc]) <;> (try simp only [decide_eq_true_eq, decide_eq_false_iff_not, beq_iff_eq, beq_eq_false_iff_ne, bne_iff_ne, bne_eq_false_iff_eq, Bool.not_eq_true', Bool.not_eq_false', Int.not_lt, Int.not_le, ne_eq, reduceCtorEq, not_true_eq_false, not_false_eq_true, Decidable.not_not] at hc) <;> (try (exfalso; omega)) <;> (try refine W_norm rfl ?_))
            | refine W_ret ?_
            | refine W_exit ?_
          )
          | refine seqK_n ?_
          | refine seqK_x ?_
          | refine blockK_e ?_
          | refine invK_x ?_)
        exact ⟨_, rfl, hs, rfl, rfl, trivial⟩
theorem w12 {v : ViewV} {P : List PartV} {B : List Rc} {ln : Lns} {h : Heap} (hv : ViewOk (Now h) ln v P B) : Wc DD 12 [.agg (viewL v)] h fun r h' => ∃ b, r = bo b ∧ Sep (Now h) [] h' := by
  have hs := Sep.entry h
  have hpl := hv.ps.ln
  have hbl := hv.bs.ln
  have hps := hv.ps
  have hbs := hv.bs
  have hnp := hv.np
  have hnb := hv.nb
  have hss := hv.s
  refine W_enter d12 ?_
  show W _ (.code m12_code [.agg (viewL v), undefA, undefA, undefA, undefA, undefA, undefA, undefA, undefA, undefA, undefA, undefA, undefA, undefA, undefA, undefA, undefA, undefA, undefA, undefA, undefA, undefA, undefA, undefA, undefA, undefA, undefA, undefA, undefA, undefA, undefA, undefA, undefA, undefA, undefA, undefA, undefA, undefA, undefA, undefA, undefA, undefA, undefA, undefA, undefA, undefA, undefA, undefA, undefA, undefA, undefA, undefA, undefA, undefA, undefA, undefA, undefA, undefA, undefA, undefA, undefA, undefA, undefA, undefA, undefA, undefA, undefA, undefA, undefA, undefA, undefA, undefA, undefA, undefA, undefA, undefA, undefA, undefA, undefA, undefA, undefA, undefA, undefA, undefA, undefA, undefA, undefA, undefA, undefA, undefA, undefA, undefA, undefA, undefA, undefA, undefA, undefA, undefA, undefA, undefA, undefA, undefA, undefA, undefA, undefA, undefA, undefA, undefA, undefA, undefA, undefA, undefA, undefA, undefA] _) _
  unfold m12_code
  repeat' (first
    | (refine K_ops ?_; first
      | refine W_fastB rfl ?_
      | refine W_nil ?_
      | (refine K_guard ?_; first
        | refine W_guard_on rfl ?_
        | refine W_guard_off rfl rfl (W_norm rfl ?_)
        | refine W_guard_u rfl (W_norm rfl ?_)
        | (refine W_guardT rfl (fun hc => ?_) (fun hc => ?_) <;> (try rw [hc]) <;> (try simp only [decide_eq_true_eq, decide_eq_false_iff_not, beq_iff_eq, beq_eq_false_iff_ne, bne_iff_ne, bne_eq_false_iff_eq, Bool.not_eq_true', Bool.not_eq_false', Int.not_lt, Int.not_le, ne_eq, reduceCtorEq, not_true_eq_false, not_false_eq_true, Decidable.not_not] at hc) <;> (try (exfalso; omega)) <;> (try refine W_norm rfl ?_))
        | (refine W_guardF rfl (fun hc => ?_) (fun hc => ?_) <;> (try rw [hc]) <;> (try simp only [decide_eq_true_eq, decide_eq_false_iff_not, beq_iff_eq, beq_eq_false_iff_ne, bne_iff_ne, bne_eq_false_iff_eq, Bool.not_eq_true', Bool.not_eq_false', Int.not_lt, Int.not_le, ne_eq, reduceCtorEq, not_true_eq_false, not_false_eq_true, Decidable.not_not] at hc) <;> (try (exfalso; omega)) <;> (try refine W_norm rfl ?_))
      )
      | (refine W_lenL rfl (by first | assumption | exact SlR.ln (by assumption) | exact AccS.ln (by assumption) | exact OwnS.ln (by assumption) | exact VwO.ln (by assumption) | exact OwnP.ln (by assumption) | exact Len.sl) ?_; refine W_norm rfl ?_)
      | (refine K_bin ?_; first
        | (refine W_mul rfl rfl rfl ?_; refine W_norm rfl ?_)
      )
      | (refine K_pick ?_; first
        | refine W_pick_t rfl rfl (W_norm rfl ?_)
        | refine W_pick_f rfl rfl (W_norm rfl ?_)
      )
      | (refine K_load ?_; first
        | (refine W_loadC hs 0 rfl rfl rfl ?_; refine W_norm rfl ?_)
      )
      | (refine W_boxS hs rfl rfl ?_; clear hs; intro bx _ hs; try simp only [cell_back, attr_back, List.set_cons_zero, List.set_cons_succ, List.eraseIdx_cons_succ, List.eraseIdx_zero, List.tail_cons, List.nil_append, List.cons_append] at hs; refine W_norm rfl ?_)
    )
    | (refine K_code ?_; first
      | (refine (Hold.out (p := W DD (.code (.seq (.ops m12_r3) _) _ _) _) ?_))
      | refine W_seq ?_
      | refine W_ops ?_
      | refine W_cond_t rfl ?_
      | refine W_cond_f rfl ?_
      | (refine W_cond rfl (fun hc => ?_) (fun hc => ?_) <;> (try rw [hc]) <;> (try simp only [decide_eq_true_eq, decide_eq_false_iff_not, beq_iff_eq, beq_eq_false_iff_ne, bne_iff_ne, bne_eq_false_iff_eq, Bool.not_eq_true', Bool.not_eq_false', Int.not_lt, Int.not_le, ne_eq, reduceCtorEq, not_true_eq_false, not_false_eq_true, Decidable.not_not] at hc) <;> (try (exfalso; omega)) <;> (try refine W_norm rfl ?_))
      | refine W_skip ?_
      | refine W_ret ?_
    )
    | refine seqK_n ?_
    | refine seqK_r ?_
    | (refine fnK_r rfl ?_; try dsimp only [gd_z, gd_s]))
  all_goals first
    | exact ⟨_, rfl, true, rfl, hs.drop 0⟩
    | (refine ⟨?_⟩
       refine (great_rest hv (by omega) (by omega) hs ⟨rfl, rfl, rfl, trivial⟩).mono ?_
       clear hs
       rintro _ e3 h3 ⟨b, rfl, hs, he3⟩
       obtain ⟨us, rfl⟩ := he3.list
       repeat' (first
         | (refine fnK_r rfl ?_; try dsimp only [gd_z, gd_s]))
       exact ⟨_, rfl, b, rfl, hs.drop 0⟩)
end Go.Proofs.YtfmldkjidfigbaaDoor
/- Compose: is a matrix whole? -/
set_option linter.unusedSimpArgs false
set_option linter.unusedVariables false
set_option maxHeartbeats 1000000
set_option maxRecDepth 100000
namespace Go.Proofs.YtfmldkjidfigbaaDoor
open Go Go.Jx

theorem w14 {w hh : Int} {u : SV} {c : Curs} {L : List Cell} {h : Heap} (hu : SlR cellE (Now h) u L) (hw : 1 ≤ w ∧ w ≤ 400) (hh0 : 1 ≤ hh ∧ hh ≤ 400) (hL : L.length = w.toNat * hh.toNat)
    (hW : ∀ y : Nat, y < hh.toNat → wholeB ((L.take ((y + 1) * w.toNat)).drop (y * w.toNat)) = true) :
    Wc DD 14 [.agg (matL w hh u c)] h fun v h' => v = bo true ∧ Sep (Now h) [] h' := by
  have hs := Sep.entry h
  have hln := hu.ln
  obtain ⟨wn, rfl⟩ : ∃ n : Nat, w = (n : Int) := ⟨w.toNat, by omega⟩
  obtain ⟨hn, rfl⟩ : ∃ n : Nat, hh = (n : Int) := ⟨hh.toNat, by omega⟩
  simp only [Int.toNat_natCast] at hL hW
  have hm : wn * hn ≤ 160000 := Nat.le_trans (Nat.mul_le_mul (show wn ≤ 400 by omega) (show hn ≤ 400 by omega)) (by decide)
  have hLi : (L.length : Int) = (wn : Int) * (hn : Int) := by rw [hL]; exact Int.natCast_mul _ _
  refine W_enter d14 ?_
  show W _ (.code m14_code [.agg (matL wn hn u c), undefA, undefA, undefA, undefA, undefA, undefA, undefA, undefA, undefA, undefA, undefA, undefA, undefA, undefA, undefA, undefA, undefA, undefA, undefA, undefA, undefA, undefA, undefA, undefA, undefA, undefA, undefA, undefA, undefA, undefA, undefA, undefA] _) _
  unfold m14_code
  repeat' (first
    | (refine K_ops ?_; first
      | refine W_fastB rfl ?_
      | refine W_nil ?_
      | (refine W_lenL rfl (by first | assumption | exact SlR.ln (by assumption) | exact AccS.ln (by assumption) | exact OwnS.ln (by assumption) | exact VwO.ln (by assumption) | exact OwnP.ln (by assumption) | exact Len.sl) ?_; refine W_norm rfl ?_)
      | (refine K_bin ?_; first
        | (refine W_mul rfl rfl (IntWalk.i64_in _ (by first | omega | (simp only [List.length_set, List.length_append, List.length_take, List.length_drop, List.length_replicate, List.length_cons, List.length_nil, decs_length, List.length_map]; omega))) ?_; refine W_norm rfl ?_)
      )
      | (refine K_load ?_; first
        | (refine W_loadC hs 0 rfl rfl rfl ?_; refine W_norm rfl ?_)
      )
      | (refine W_boxS hs rfl rfl ?_; clear hs; intro bx _ hs; try simp only [cell_back, attr_back, List.set_cons_zero, List.set_cons_succ, List.eraseIdx_cons_succ, List.eraseIdx_zero, List.tail_cons, List.nil_append, List.cons_append] at hs; refine W_norm rfl ?_)
    )
    | (refine K_code ?_; first
      | refine W_seq ?_
      | refine W_ops ?_
      | (refine W_cond rfl (fun hc => ?_) (fun hc => ?_) <;> (try rw [hc]) <;> (try simp only [decide_eq_true_eq, decide_eq_false_iff_not, beq_iff_eq, beq_eq_false_iff_ne, bne_iff_ne, bne_eq_false_iff_eq, Bool.not_eq_true', Bool.not_eq_false', Int.not_lt, Int.not_le, ne_eq, reduceCtorEq, not_true_eq_false, not_false_eq_true, Decidable.not_not] at hc) <;> (try (exfalso; omega)) <;> (try refine W_norm rfl ?_))
      | refine W_skip ?_
      | refine W_block ?_
    )
    | refine seqK_n ?_)
  · rename_i h1
    refine W_loopB [2, 3, 13, 14, 15, 16, 17, 18, 19, 20, 21, 22, 23, 24, 25, 26, 27, 28, 29, 30, 31, 32] [0, 1, 2, 3, 4, 5, 6, 7, 8, 9, 10, 11, 12, 13, 14, 15, 16, 17, 18, 19, 20, 21, 22, 23, 24, 25, 26, 27, 28, 29, 30, 31, 32] (fun n' sl h' => ∃ (k : Nat), sl = [(3, .sc (.int .i64 (k : Int)))] ∧ n' = hn - k ∧ k ≤ hn ∧ Sep (Now h) [maO bx wn hn u c] h') ?_ ?_
    · refine ⟨_, _, ⟨0, rfl, rfl, by omega, hs⟩, EnvB.of rfl⟩
    clear hs
    rintro _ _ us _ h2 ⟨k, rfl, rfl, hk, hs⟩ he
    refine W_spell he rfl ?_
    clear he
    unfold m14_l4
    by_cases hlt : k < hn
    · have f0 : (k : Int) * wn = ((k * wn : Nat) : Int) := (Int.natCast_mul _ _).symm
      have f1 : ((k : Int) + 1) * wn = (((k + 1) * wn : Nat) : Int) := by rw [Int.natCast_mul]; rfl
      have f2 : (k + 1) * wn ≤ L.length := by rw [hL, Nat.mul_comm wn hn]; exact Nat.mul_le_mul_right _ hlt
      have f3 : k * wn ≤ (k + 1) * wn := Nat.mul_le_mul_right _ (by omega)
      have hWk := hW k hlt
      repeat' (first
        | (refine K_ops ?_; first
          | refine W_fastB rfl ?_
          | refine W_nil ?_
          | (refine K_call ?_; first
            | (refine W_callsN 33 rfl (w33 (L := (L.take ((k + 1) * wn)).drop (k * wn)) (by rw [f0, f1, Int.toNat_natCast, Int.toNat_natCast] at *; first | assumption | exact SlR.now hs (by assumption)) (by simp only [List.length_drop, List.length_take]; omega)) rfl ?_; rintro _ h3 ⟨rfl, rfl⟩; refine W_norm rfl ?_)
          )
          | (refine K_bin ?_; first
            | (refine W_add rfl rfl (IntWalk.i64_in _ (by first | omega | (simp only [List.length_set, List.length_append, List.length_take, List.length_drop, List.length_replicate, List.length_cons, List.length_nil, decs_length, List.length_map]; omega))) ?_; refine W_norm rfl ?_)
            | (refine W_mul rfl rfl (IntWalk.i64_in _ (by first | omega | (simp only [List.length_set, List.length_append, List.length_take, List.length_drop, List.length_replicate, List.length_cons, List.length_nil, decs_length, List.length_map]; omega))) ?_; refine W_norm rfl ?_)
          )
          | (refine K_load ?_; first
            | (refine W_loadC hs 0 rfl rfl rfl ?_; refine W_norm rfl ?_)
          )
          | (refine K_slice ?_; first
            | (refine W_sliceR rfl rfl rfl (by assumption) rfl ⟨(by first | omega | (simp only [List.length_set, List.length_append, List.length_take, List.length_drop, List.length_replicate, List.length_cons, List.length_nil, decs_length, List.length_map]; omega)), (by first | omega | (simp only [List.length_set, List.length_append, List.length_take, List.length_drop, List.length_replicate, List.length_cons, List.length_nil, decs_length, List.length_map]; omega)), (by first | omega | (simp only [List.length_set, List.length_append, List.length_take, List.length_drop, List.length_replicate, List.length_cons, List.length_nil, decs_length, List.length_map]; omega))⟩ ?_; intro _ _; refine W_norm rfl ?_)
          )
        )
        | (refine K_code ?_; first
          | refine W_seq ?_
          | refine W_ops ?_
          | (refine W_cond rfl (fun hc => ?_) (fun hc => ?_) <;> (try rw [hc]) <;> (try simp only [decide_eq_true_eq, decide_eq_false_iff_not, beq_iff_eq, beq_eq_false_iff_ne, bne_iff_ne, bne_eq_false_iff_eq, Bool.not_eq_true', Bool.not_eq_false', Int.not_lt, Int.not_le, ne_eq, reduceCtorEq, not_true_eq_false, not_false_eq_true, Decidable.not_not] at hc) <;> (try (exfalso; omega)) <;> (try refine W_norm rfl ?_))
          | refine W_skip ?_
          | refine W_ret ?_
          | refine W_block ?_
        )
        | refine seqK_n ?_
        | refine seqK_r ?_
        | refine blockK_r ?_
        | refine blockK_n ?_
        | refine invK_r ?_
        | refine invK_n ?_
        | (refine fnK_r rfl ?_; try dsimp only [gd_z, gd_s]))
      · exact absurd (hWk.symm.trans (by assumption)) (by decide)
      · refine ⟨_, ?_, _, ⟨k + 1, rfl, rfl, ?_, hs⟩, EnvB.of rfl⟩ <;> omega
    · repeat' (first
        | (refine K_ops ?_; first
          | refine W_fastB rfl ?_
          | refine W_nil ?_
          | (refine K_load ?_; first
            | (refine W_loadC hs 0 rfl rfl rfl ?_; refine W_norm rfl ?_)
          )
        )
        | (refine K_code ?_; first
          | refine W_seq ?_
          | refine W_ops ?_
          | (refine W_cond rfl (fun hc => ?_) (fun hc => ?_) <;> (try rw [hc]) <;> (try simp only [decide_eq_true_eq, decide_eq_false_iff_not, beq_iff_eq, beq_eq_false_iff_ne, bne_iff_ne, bne_eq_false_iff_eq, Bool.not_eq_true', Bool.not_eq_false', Int.not_lt, Int.not_le, ne_eq, reduceCtorEq, not_true_eq_false, not_false_eq_true, Decidable.not_not] at hc) <;> (try (exfalso; omega)) <;> (try refine W_norm rfl ?_))
          | refine W_ret ?_
          | refine W_exit ?_
        )
        | refine seqK_n ?_
        | refine seqK_x ?_
        | refine blockK_e ?_
        | refine invK_x ?_
        | (refine fnK_r rfl ?_; try dsimp only [gd_z, gd_s]))
      exact ⟨_, rfl, rfl, hs.drop 0⟩
end Go.Proofs.YtfmldkjidfigbaaDoor
/- Compose, in plain Lean: the matrix; the banner's law. -/
set_option linter.unusedSimpArgs false
set_option linter.unusedVariables false
set_option maxHeartbeats 1000000
set_option maxRecDepth 100000
namespace Go.Proofs.YtfmldkjidfigbaaDoor
open Go Go.Jx

theorem flat_drop {rows : Rows'} {wd : Nat} (h : AllW rows wd) : ∀ y : Nat, y ≤ rows.length → rows.flatten.drop (y * wd) = (rows.drop y).flatten := by
  intro y
  induction y with
  | zero => intro _; simp
  | succ y ih =>
    intro hy
    have h1 := ih (by omega)
    rw [Nat.succ_mul, ← List.drop_drop, h1, List.drop_eq_getElem_cons (show y < rows.length by omega), List.flatten_cons, List.drop_left' (h _ (List.getElem_mem _))]
theorem flat_row {rows : Rows'} {wd y : Nat} (h : AllW rows wd) (hy : y < rows.length) : (rows.flatten.take ((y + 1) * wd)).drop (y * wd) = rows.getD y [] := by
  rw [List.drop_take, flat_drop h y (by omega), List.drop_eq_getElem_cons hy, List.flatten_cons, show (y + 1) * wd - y * wd = wd by rw [Nat.succ_mul]; omega, List.take_left' (h _ (List.getElem_mem _)), List.getD_eq_getElem?_getD, List.getElem?_eq_getElem hy]; rfl
theorem flat_get {rows : Rows'} {wd i : Nat} (h : AllW rows wd) (hw : 1 ≤ wd) (hi : i < rows.length * wd) : rows.flatten.getD i cell0 = (rows.getD (i / wd) []).getD (i % wd) cell0 := by
  have hy : i / wd < rows.length := Nat.div_lt_of_lt_mul (by rw [Nat.mul_comm]; exact hi)
  have hm : i % wd < wd := Nat.mod_lt _ hw
  have hd : wd * (i / wd) + i % wd = i := Nat.div_add_mod i wd
  have e1 : rows.flatten.getD i cell0 = (rows.flatten.drop ((i / wd) * wd)).getD (i % wd) cell0 := by
    rw [List.getD_eq_getElem?_getD, List.getD_eq_getElem?_getD, List.getElem?_drop, show (i / wd) * wd + i % wd = i by rw [Nat.mul_comm]; exact hd]
  rw [e1, flat_drop h _ (by omega), List.drop_eq_getElem_cons hy, List.flatten_cons, List.getD_eq_getElem?_getD, List.getElem?_append_left (by rw [h _ (List.getElem_mem _)]; exact hm), List.getD_eq_getElem?_getD, List.getD_eq_getElem?_getD (l := rows), List.getElem?_eq_getElem hy]; rfl

/-- All rows, with the banner's. -/
def allR (v : ViewV) (ps : List PartM) (bs : List Rc) : Rows' := pageR (pgZ v) ps bs ++ [bannerL v.bn v.w.toNat]
theorem cells_flat (v : ViewV) (ps : List PartM) (bs : List Rc) : cellsC v ps bs = (allR v ps bs).flatten := by unfold cellsC allR; simp
theorem blank_good (n wd : Nat) : AllG (List.replicate n (List.replicate wd (blankC attr0))) wd := by
  intro l hl
  rw [(List.mem_replicate.1 hl).2]
  exact ⟨List.length_replicate, W3_blanks _ _⟩
theorem pgZ_page {v : ViewV} {n : Nat} (hok : OkV v) (hn : n = (v.h - 1).toNat) : PageR (pgZ v) v.w.toNat n := by
  unfold OkV at hok
  refine ⟨?_, by omega, by omega, by omega⟩
  unfold pgZ
  rw [hn]
  congr 1 <;> omega
theorem pageR_good {v : ViewV} {ps : List PartM} {bs : List Rc} (hok : OkV v) (hp : ∀ p ∈ ps, RcI p.r) (hb : ∀ b ∈ bs, RcI b) : (pageR (pgZ v) ps bs).length = (v.h - 1).toNat ∧ AllG (pageR (pgZ v) ps bs) v.w.toNat := by
  unfold pageR
  have hl : (List.replicate (pgZ v).h.toNat (List.replicate (pgZ v).w.toNat (blankC attr0))).length = (v.h - 1).toNat := List.length_replicate
  have h1 := parts_good ps (rows := List.replicate (pgZ v).h.toNat (List.replicate (pgZ v).w.toNat (blankC attr0))) (pgZ_page hok hl) (blank_good _ _) hp
  have h2 := bords_good bs (pgZ_page hok (h1.1.trans hl)) h1.2 hb
  exact ⟨h2.1.trans (h1.1.trans hl), h2.2⟩
theorem allR_good {v : ViewV} {ps : List PartM} {bs : List Rc} (hok : OkV v) (hp : ∀ p ∈ ps, RcI p.r) (hb : ∀ b ∈ bs, RcI b) : (allR v ps bs).length = v.h.toNat ∧ AllG (allR v ps bs) v.w.toNat := by
  obtain ⟨h1, h2⟩ := pageR_good hok hp hb
  unfold OkV at hok
  unfold allR
  refine ⟨by rw [List.length_append, h1]; simp only [List.length_cons, List.length_nil]; omega, fun l hl => ?_⟩
  rcases List.mem_append.1 hl with hl | hl
  · exact h2 l hl
  · simp only [List.mem_cons, List.not_mem_nil, or_false] at hl
    subst hl
    exact ⟨by simp [bannerL], narrow_whole (banner_narrow _ _)⟩
theorem cells_len {v : ViewV} {ps : List PartM} {bs : List Rc} (hok : OkV v) (hp : ∀ p ∈ ps, RcI p.r) (hb : ∀ b ∈ bs, RcI b) : (cellsC v ps bs).length = v.w.toNat * v.h.toNat := by
  obtain ⟨h1, h2⟩ := allR_good hok hp hb
  rw [cells_flat, flat_len h2.w, h1, Nat.mul_comm]
theorem cells_whole {v : ViewV} {ps : List PartM} {bs : List Rc} (hok : OkV v) (hp : ∀ p ∈ ps, RcI p.r) (hb : ∀ b ∈ bs, RcI b) (y : Nat) (hy : y < v.h.toNat) : wholeB (((cellsC v ps bs).take ((y + 1) * v.w.toNat)).drop (y * v.w.toNat)) = true := by
  obtain ⟨h1, h2⟩ := allR_good hok hp hb
  rw [cells_flat, flat_row h2.w (by omega), wholeB_iff]
  exact (h2.get (by omega)).2
theorem cells_get {v : ViewV} {ps : List PartM} {bs : List Rc} (hok : OkV v) (hp : ∀ p ∈ ps, RcI p.r) (hb : ∀ b ∈ bs, RcI b) {i : Nat} (hi : i < (cellsC v ps bs).length) : (cellsC v ps bs).getD i cell0 = if i / v.w.toNat < (v.h - 1).toNat then ((pageR (pgZ v) ps bs).getD (i / v.w.toNat) []).getD (i % v.w.toNat) cell0 else (bannerL v.bn v.w.toNat).getD (i % v.w.toNat) cell0 := by
  have hl := cells_len hok hp hb
  obtain ⟨h1, h2⟩ := allR_good hok hp hb
  obtain ⟨h3, h4⟩ := pageR_good hok hp hb
  have hok' := hok
  unfold OkV at hok
  have hy : i / v.w.toNat < v.h.toNat := Nat.div_lt_of_lt_mul (by rw [← hl]; exact hi)
  rw [cells_flat, flat_get h2.w (by omega) (by rw [h1, Nat.mul_comm, ← hl]; exact hi)]
  have e : (allR v ps bs).getD (i / v.w.toNat) [] = if i / v.w.toNat < (v.h - 1).toNat then (pageR (pgZ v) ps bs).getD (i / v.w.toNat) [] else bannerL v.bn v.w.toNat := by
    unfold allR
    rw [List.getD_eq_getElem?_getD]
    split
    · rw [List.getElem?_append_left (by omega), ← List.getD_eq_getElem?_getD]
    · rw [List.getElem?_append_right (by omega), show i / v.w.toNat - (pageR (pgZ v) ps bs).length = 0 by omega]; rfl
  rw [e]
  split <;> rfl

/-! ## the banner's law -/
def heldB (ps : List PartM) (y x : Nat) : Bool := ps.any fun p => inR p.r (x : Int) (y : Int)
def ClearR (held : Nat → Nat → Bool) (a b : Rows') : Prop := a.length = b.length ∧ ∀ y, y < a.length → Clear (held y) (a.getD y []) (b.getD y [])
theorem clear_fill {held : Nat → Nat → Bool} {a b : Rows'} {z : Rc} {wd : Nat} {C : Cell} (h : ClearR held a b) (ha : AllW a wd) (hin : InZ z wd a.length) (hC : C.w = 0) : ClearR held (fillsR a z C) (fillsR b z C) := by
  obtain ⟨h1, h2, h3, h4, h5⟩ := in_page hin
  obtain ⟨xn, hxn⟩ : ∃ j : Nat, z.x = (j : Int) := ⟨z.x.toNat, by omega⟩
  unfold fillsR
  rw [hxn]
  refine ⟨by rw [drawN_length, drawN_length]; exact h.1, fun y hy => ?_⟩
  rw [drawN_length] at hy
  have hc := h.2 y hy
  rw [drawN_get _ _ _ _ _ (by omega), drawN_get _ _ _ _ _ (by rw [← h.1]; omega)]
  split
  · have hl := ha.get hy
    exact clear_border hc (by rw [hl, List.length_replicate]; omega) (by rw [List.length_replicate]; omega) (rep_narrow hC) (narrow_whole (rep_narrow hC))
  · exact hc
theorem clear_draw {held : Nat → Nat → Bool} {a b : Rows'} {z : Rc} {wd : Nat} {f : Nat → List Cell} (h : ClearR held a b) (ha : AllW a wd) (hin : InZ z wd a.length) (hf : ∀ y, (1 ≤ z.w → (f y).length = z.w.toNat) ∧ W3 (f y))
    (hh : ∀ x y : Nat, z.x ≤ x → (x : Int) < z.x + z.w → z.y ≤ y → (y : Int) < z.y + z.h → held y x = true) : ClearR held (drawN a z.x z.y.toNat f z.h.toNat) b := by
  obtain ⟨h1, h2, h3, h4, h5⟩ := in_page hin
  obtain ⟨xn, hxn⟩ : ∃ j : Nat, z.x = (j : Int) := ⟨z.x.toNat, by omega⟩
  refine ⟨by rw [drawN_length]; exact h.1, fun y hy => ?_⟩
  rw [drawN_length] at hy
  have hc := h.2 y hy
  rw [drawN_get _ _ _ _ _ (by omega)]
  split
  · have hl := ha.get hy
    have hfl := (hf y).1 (by omega)
    rw [hxn]
    exact clear_part hc (by rw [hl, hfl]; omega) (by rw [hfl]; omega) (hf y).2 (fun i hi1 hi2 => hh i y (by omega) (by rw [hfl] at hi2; omega) (by omega) (by omega))
  · exact hc
theorem crop_held {p Z : Rc} {wd n : Nat} (hZ : PageR Z wd n) (hp : RcI p) (x y : Nat) (h1 : (cropR p Z).x ≤ x) (h2 : (x : Int) < (cropR p Z).x + (cropR p Z).w) (h3 : (cropR p Z).y ≤ y) (h4 : (y : Int) < (cropR p Z).y + (cropR p Z).h) : inR p x y = true := by
  rcases crop_page hZ hp with h | h
  · rw [h] at h1 h2; simp only [rc0] at h1 h2; omega
  · exact h.2.2.2.2.2.2.2.2.2.2.2.2 x y h1 h2 h3 h4
theorem part_clear {held : Nat → Nat → Bool} {Z : Rc} {a b : Rows'} {wd : Nat} {p : PartM} (hZ : PageR Z wd a.length) (h : ClearR held a b) (ha : AllW a wd) (hp : RcI p.r) (hh : ∀ x y : Nat, inR p.r x y = true → held y x = true) : ClearR held (partR Z a p) b := by
  have hin := crop_in hZ hp
  have hcr := fun x y h1 h2 h3 h4 => hh x y (crop_held hZ hp x y h1 h2 h3 h4)
  obtain ⟨_, hw1, hw2, hw3⟩ := hZ
  unfold partR fillsR
  generalize cropR p.r Z = z at *
  obtain ⟨h1, h2, h3, h4, h5⟩ := in_page hin
  split
  · refine clear_draw h ha hin (fun y => ⟨fun h1 => lineL_length (by rcases hin with q | q; (rw [q] at h1; simp [rc0] at h1); omega), line_whole _ _ _⟩) hcr
  · exact clear_draw h ha hin (fun y => ⟨fun h1 => List.length_replicate, narrow_whole (rep_narrow rfl)⟩) hcr
theorem parts_clear {held : Nat → Nat → Bool} {Z : Rc} {b : Rows'} {wd : Nat} (l : List PartM) : ∀ {a : Rows'}, PageR Z wd a.length → ClearR held a b → AllW a wd → (∀ p ∈ l, RcI p.r) → (∀ p ∈ l, ∀ x y : Nat, inR p.r x y = true → held y x = true) → ClearR held (l.foldl (partR Z) a) b := by
  induction l with
  | nil => intro a _ h _ _ _; exact h
  | cons p l ih =>
    intro a hZ h hA hp hh
    obtain ⟨h1, h2⟩ := partR_shape hZ hA (hp p (by simp))
    rw [List.foldl_cons]
    exact ih (by rw [h1]; exact hZ) (part_clear hZ h hA (hp p (by simp)) (hh p (by simp))) h2 (fun q hq => hp q (by simp [hq])) (fun q hq => hh q (by simp [hq]))
theorem bords_clear {held : Nat → Nat → Bool} {Z : Rc} {wd : Nat} (l : List Rc) : ∀ {a b : Rows'}, PageR Z wd a.length → ClearR held a b → AllW a wd → (∀ p ∈ l, RcI p) → ClearR held (l.foldl (borderR Z) a) (l.foldl (borderR Z) b) := by
  induction l with
  | nil => intro a b _ h _ _; exact h
  | cons p l ih =>
    intro a b hZ h hA hp
    obtain ⟨h1, h2⟩ : (borderR Z a p).length = a.length ∧ AllW (borderR Z a p) wd := fillsR_shape _ hZ hA (crop_in hZ (hp p (by simp)))
    rw [List.foldl_cons, List.foldl_cons]
    exact ih (by rw [h1]; exact hZ) (clear_fill h hA (crop_in hZ (hp p (by simp))) rfl) h2 (fun q hq => hp q (by simp [hq]))
theorem banner_law {v : ViewV} {ps : List PartM} {bs : List Rc} (hok : OkV v) (hp : ∀ p ∈ ps, RcI p.r) (hb : ∀ b ∈ bs, RcI b) {i : Nat} (hi : i < (cellsC v ps bs).length) (h : i / v.w.toNat = (v.h - 1).toNat ∨ heldB ps (i / v.w.toNat) (i % v.w.toNat) = false) : (cellsC v ps bs).getD i cell0 = (cellsC v [] bs).getD i cell0 := by
  have hl := cells_len hok hp hb
  have hl2 := cells_len (ps := []) hok (by simp) hb
  rw [cells_get hok hp hb hi, cells_get hok (by simp) hb (by rw [hl2, ← hl]; exact hi)]
  split
  · rename_i hy
    have hnh : heldB ps (i / v.w.toNat) (i % v.w.toNat) = false := by
      rcases h with h | h
      · omega
      · exact h
    have hrl : (List.replicate (pgZ v).h.toNat (List.replicate (pgZ v).w.toNat (blankC attr0))).length = (v.h - 1).toNat := List.length_replicate
    have hA0 := (blank_good (pgZ v).h.toNat (pgZ v).w.toNat).w
    have h0 : ClearR (heldB ps) (List.replicate (pgZ v).h.toNat (List.replicate (pgZ v).w.toNat (blankC attr0))) (List.replicate (pgZ v).h.toNat (List.replicate (pgZ v).w.toNat (blankC attr0))) := by
      refine ⟨rfl, fun y hy => ?_⟩
      rw [List.length_replicate] at hy
      rw [List.getD_eq_getElem?_getD, List.getElem?_replicate, if_pos hy]
      have hn : narrow (List.replicate (pgZ v).w.toNat (blankC attr0)) := rep_narrow rfl
      exact ⟨rfl, narrow_whole hn, hn, fun i hi _ => ⟨rfl, hn i hi⟩⟩
    have hh : ∀ p ∈ ps, ∀ x y : Nat, inR p.r x y = true → heldB ps y x = true := fun p hp x y hxy => by
      unfold heldB
      rw [List.any_eq_true]
      exact ⟨p, hp, hxy⟩
    have h1 := parts_clear ps (pgZ_page hok hrl) h0 hA0 hp hh
    have hsh := fold_shape ps (pgZ_page hok hrl) hA0 hp
    have h2 := bords_clear bs (pgZ_page hok (hsh.1.trans hrl)) h1 hsh.2 hb
    have h3 := pageR_good hok hp hb
    have hwl : i % v.w.toNat < v.w.toNat := Nat.mod_lt _ (by unfold OkV at hok; omega)
    exact ((h2.2 _ (by show i / v.w.toNat < (pageR (pgZ v) ps bs).length; rw [h3.1]; exact hy)).2.2.2 _ (by show i % v.w.toNat < ((pageR (pgZ v) ps bs).getD _ []).length; rw [h3.2.w.get (by rw [h3.1]; exact hy)]; exact hwl) hnh).1
  · rfl
end Go.Proofs.YtfmldkjidfigbaaDoor
