/- Reflow: Place. CLNONE -/
import Derived.Test.YtllhbhhgihdakaaDoorJxW15f
set_option linter.unusedSimpArgs false
set_option linter.unusedVariables false
set_option maxHeartbeats 4000000
set_option maxRecDepth 100000
namespace Go.Proofs.YtllhbhhgihdakaaDoor
open Go Go.Jx

theorem LnsR.take {R : Ro} {v v' : SV} {G : List LnC} {n : Nat} (q : SlR lnE R v' ((G.map Prod.fst).take n)) (p : LnsR R v G) : LnsR R v' (G.take n) := ⟨by rw [List.map_take]; exact q, fun g hg => p.2 g (List.mem_of_mem_take hg)⟩
theorem LnsR.drop {R : Ro} {v v' : SV} {G : List LnC} {n : Nat} (q : SlR lnE R v' ((G.map Prod.fst).drop n)) (p : LnsR R v G) : LnsR R v' (G.drop n) := ⟨by rw [List.map_drop]; exact q, fun g hg => p.2 g (List.mem_of_mem_drop hg)⟩
theorem LnsR.cut {R : Ro} {v v' : SV} {G : List LnC} {n m : Nat} (q : SlR lnE R v' (((G.map Prod.fst).take n).drop m)) (p : LnsR R v G) : LnsR R v' ((G.take n).drop m) := ⟨by rw [List.map_drop, List.map_take]; exact q, fun g hg => p.2 g (List.mem_of_mem_take (List.mem_of_mem_drop hg))⟩

/-- A place in its line. -/
def capN (l : List Ln) (x y : Nat) : Nat := match l[y]? with
  | some m => if m.joined = true ∧ y + 1 < l.length then min (min x 1048576) (countL m) else min x 1048576
  | none => 0
def placeR (l : List Ln) (w x y : Int) : Nat × Nat := if okW w ∧ 0 ≤ x ∧ 0 ≤ y ∧ y < l.length then placeL l w.toNat (capN l x.toNat y.toNat) y.toNat else (0, 0)
theorem firstL_succ {l : List Ln} {y : Nat} : firstL l (y + 1) = if (l[y]?.map Ln.joined).getD false then firstL l y else y + 1 := rfl

theorem w10 {v : SV} {G : List LnC} {w x y : Int} {h : Heap} (hv : LnsR (Now h) v G) (hl : G.length ≤ 100000) (hl2 : ∀ g ∈ G, g.2.length ≤ 100000) :
    Wc DD 10 [.sc v, i64 w, i64 x, i64 y] h fun r h' => r = .tup [i64 ((placeR (G.map lnOf) w x y).1 : Nat), i64 ((placeR (G.map lnOf) w x y).2 : Nat)] ∧ Sep (Now h) [] h' := by
  have hs := Sep.entry h
  have hln := hv.ln
  have hv1 := hv.1
  refine W_enter d10 ?_
  show W _ (.code m10_code [.sc v, i64 w, i64 x, i64 y, undefA, undefA, undefA, undefA, undefA, undefA, undefA, undefA, undefA, undefA, undefA, undefA, undefA, undefA, undefA, undefA, undefA, undefA, undefA, undefA, undefA, undefA, undefA, undefA, undefA, undefA, undefA, undefA, undefA, undefA, undefA, undefA, undefA, undefA, undefA, undefA, undefA, undefA, undefA, undefA, undefA, undefA, undefA, undefA, undefA, undefA, undefA, undefA, undefA, undefA, undefA, undefA, undefA, undefA, undefA, undefA, undefA, undefA, undefA, undefA, undefA, undefA, undefA, undefA, undefA, undefA, undefA, undefA, undefA, undefA, undefA, undefA, undefA, undefA, undefA, undefA, undefA, undefA, undefA, undefA, undefA, undefA, undefA, undefA, undefA, undefA, undefA, undefA, undefA, undefA, undefA, undefA, undefA, undefA, undefA] _) _
  unfold m10_code
  by_cases hok : okW w ∧ 0 ≤ x ∧ 0 ≤ y ∧ y < G.length
  · obtain ⟨hw, hx, hy, hyl⟩ := hok
    obtain ⟨X, rfl⟩ : ∃ X : Nat, x = (X : Int) := ⟨x.toNat, by omega⟩
    obtain ⟨Y, rfl⟩ : ∃ Y : Nat, y = (Y : Int) := ⟨y.toNat, by omega⟩
    have hYl : Y < G.length := by omega
    rw [show placeR (G.map lnOf) w X Y = placeL (G.map lnOf) w.toNat (capN (G.map lnOf) X Y) Y by unfold placeR; rw [if_pos ⟨hw, hx, hy, by rw [List.length_map]; exact hyl⟩]; rfl]
    repeat' (first
      | (refine K_ops ?_; first
        | refine W_fastB rfl ?_
        | refine W_nil ?_
        | (refine K_guard ?_; first
          | refine W_guard_on rfl ?_
        )
        | (refine K_call ?_; first
          | (refine W_callsN 21 rfl (w21) rfl ?_; rintro _ h ⟨rfl, rfl⟩; rw [decide_eq_true hw]; refine W_norm rfl ?_)
        )
        | (refine W_lenL rfl (by first | assumption | exact SlR.ln (by assumption) | exact AccS.ln (by assumption) | exact OwnS.ln (by assumption) | exact VwO.ln (by assumption) | exact OwnP.ln (by assumption) | exact Len.sl) ?_; refine W_norm rfl ?_)
        | (refine K_pick ?_; first
          | refine W_pick_f rfl rfl (W_norm rfl ?_)
        )
        | (refine W_min2 rfl rfl ?_; refine W_norm rfl ?_)
      )
      | (refine K_code ?_; first
        | (refine W_midB (a := .block 0 (.loop m10_l5)) [10, 35, 36, 37, 38, 39, 40, 41, 42, 43, 44, 45, 46] [0, 1, 2, 3, 4, 5, 6, 7, 8, 9, 10, 11, 12, 13, 14, 15, 16, 17, 18, 19, 20, 21, 22, 23, 24, 25, 26, 27, 28, 29, 30, 31, 32, 33, 34, 35, 36, 37, 38, 39, 40, 41, 42, 43, 44, 45, 46, 47, 48, 49, 50, 51, 52, 53, 54, 55, 56, 57, 58, 59, 60, 61, 62, 63, 64, 65, 66, 67, 68, 69, 70, 71, 72, 73, 74, 75, 76, 77, 78, 79, 80, 81, 82, 83, 84, 85, 86, 87, 88, 89, 90, 91, 92, 93, 94, 95, 96, 97, 98] (fun sl h' => ∃ (f : Nat), sl = [(10, .sc (.int .i64 (f : Int)))] ∧ f = firstL (G.map lnOf) Y ∧ Sep (Now h) [] h') ?_ ?_)
        | refine W_seq ?_
        | refine W_ops ?_
        | (refine W_cond rfl (fun hc => ?_) (fun hc => ?_) <;> (try rw [hc]) <;> (try simp only [decide_eq_true_eq, decide_eq_false_iff_not, beq_iff_eq, beq_eq_false_iff_ne, bne_iff_ne, bne_eq_false_iff_eq, Bool.not_eq_true', Bool.not_eq_false', Int.not_lt, Int.not_le, ne_eq, reduceCtorEq, not_true_eq_false, not_false_eq_true, Decidable.not_not] at hc) <;> (try (exfalso; omega)) <;> (try refine W_norm rfl ?_))
        | refine W_skip ?_
        | refine W_block ?_
      )
      | refine seqK_n ?_)
    · refine W_loopB [10, 35, 36, 37, 38, 39, 40, 41, 42, 43, 44, 45, 46] [0, 1, 2, 3, 4, 5, 6, 7, 8, 9, 10, 11, 12, 13, 14, 15, 16, 17, 18, 19, 20, 21, 22, 23, 24, 25, 26, 27, 28, 29, 30, 31, 32, 33, 34, 35, 36, 37, 38, 39, 40, 41, 42, 43, 44, 45, 46, 47, 48, 49, 50, 51, 52, 53, 54, 55, 56, 57, 58, 59, 60, 61, 62, 63, 64, 65, 66, 67, 68, 69, 70, 71, 72, 73, 74, 75, 76, 77, 78, 79, 80, 81, 82, 83, 84, 85, 86, 87, 88, 89, 90, 91, 92, 93, 94, 95, 96, 97, 98] (fun n' sl h' => ∃ (j : Nat), sl = [(10, .sc (.int .i64 (j : Int)))] ∧ n' = j ∧ j ≤ Y ∧ firstL (G.map lnOf) j = firstL (G.map lnOf) Y ∧ Sep (Now h) [] h') ?_ ?_
      · refine ⟨_, _, ⟨Y, rfl, rfl, Nat.le_refl _, rfl, hs⟩, EnvB.of rfl⟩
      clear hs
      rintro j _ us _ h2 ⟨_, rfl, rfl, hj, hf, hs⟩ he
      refine W_spell he rfl ?_
      clear he
      unfold m10_l5
      by_cases h0 : 0 < j
      · have hidx : (G.map Prod.fst).getD ((j : Int) - 1).toNat lnE.dflt = atH G (j - 1) := by
          rw [show (j : Int) - 1 = ((j - 1 : Nat) : Int) by omega]
        have hfj : firstL (G.map lnOf) j = if (atH G (j - 1)).j then firstL (G.map lnOf) (j - 1) else j := by
          obtain ⟨k, rfl⟩ : ∃ k, j = k + 1 := ⟨j - 1, by omega⟩
          rw [Nat.add_sub_cancel, firstL_succ, lnOf_atH (by omega)]; rfl
        repeat' (first
          | (refine K_ops ?_; first
            | refine W_fastB rfl ?_
            | refine W_nil ?_
            | (refine K_guard ?_; first
              | refine W_guard_on rfl ?_
              | (refine W_guardT rfl (fun hc => ?_) (fun hc => ?_) <;> (try rw [hc]) <;> (try simp only [decide_eq_true_eq, decide_eq_false_iff_not, beq_iff_eq, beq_eq_false_iff_ne, bne_iff_ne, bne_eq_false_iff_eq, Bool.not_eq_true', Bool.not_eq_false', Int.not_lt, Int.not_le, ne_eq, reduceCtorEq, not_true_eq_false, not_false_eq_true, Decidable.not_not] at hc) <;> (try (exfalso; omega)) <;> (try refine W_norm rfl ?_))
            )
            | (refine K_bin ?_; first
              | (refine W_sub rfl rfl (IntWalk.i64_in _ (by first | omega | (simp only [List.length_set, List.length_append, List.length_take, List.length_drop, List.length_replicate, List.length_cons, List.length_nil, decs_length, List.length_map]; omega))) ?_; refine W_norm rfl ?_)
            )
            | (refine K_pick ?_; first
              | refine W_pick_t rfl rfl (W_norm rfl ?_)
            )
            | (refine K_index ?_; first
              | (refine W_indexR rfl rfl (by assumption) rfl ⟨(by first | omega | (simp only [List.length_set, List.length_append, List.length_take, List.length_drop, List.length_replicate, List.length_cons, List.length_nil, decs_length, List.length_map]; omega)), (by first | omega | (simp only [List.length_set, List.length_append, List.length_take, List.length_drop, List.length_replicate, List.length_cons, List.length_nil, decs_length, List.length_map]; omega))⟩ ?_; intro _ _ _; refine W_norm rfl ?_)
            )
            | (refine K_load ?_; first
              | (refine W_loadRF hs rfl (by assumption) rfl ?_; refine W_norm rfl ?_)
            )
          )
          | (refine K_code ?_; first
            | refine W_seq ?_
            | refine W_ops ?_
            | (refine W_cond rfl (fun hc => ?_) (fun hc => ?_) <;> (try rw [hc]) <;> (try simp only [decide_eq_true_eq, decide_eq_false_iff_not, beq_iff_eq, beq_eq_false_iff_ne, bne_iff_ne, bne_eq_false_iff_eq, Bool.not_eq_true', Bool.not_eq_false', Int.not_lt, Int.not_le, ne_eq, reduceCtorEq, not_true_eq_false, not_false_eq_true, Decidable.not_not] at hc) <;> (try (exfalso; omega)) <;> (try refine W_norm rfl ?_))
            | refine W_skip ?_
            | refine W_exit ?_
            | refine W_block ?_
          )
          | refine seqK_n ?_
          | refine seqK_x ?_
          | refine blockK_n ?_
          | refine blockK_e ?_
          | refine invK_x ?_
          | refine invK_n ?_
          | refine midK_n ?_)
        · rw [hidx] at hc
          rw [show (j : Int) - 1 = ((j - 1 : Nat) : Int) by omega]
          refine ⟨_, ?_, _, ⟨j - 1, rfl, rfl, ?_, ?_, hs⟩, EnvB.of rfl⟩
          · omega
          · omega
          · rw [← hf, hfj, if_pos hc]
        · rw [hidx] at hc
          refine ⟨_, ⟨j, rfl, ?_, hs⟩, EnvB.of rfl⟩
          rw [← hf, hfj, hc]; rfl
      · obtain rfl : j = 0 := by omega
        repeat' (first
          | (refine K_ops ?_; first
            | refine W_fastB rfl ?_
            | refine W_nil ?_
            | (refine K_guard ?_; first
              | refine W_guard_off rfl rfl (W_norm rfl ?_)
            )
            | (refine K_pick ?_; first
              | refine W_pick_f rfl rfl (W_norm rfl ?_)
            )
          )
          | (refine K_code ?_; first
            | refine W_seq ?_
            | refine W_ops ?_
            | refine W_cond_f rfl ?_
            | refine W_exit ?_
          )
          | refine seqK_n ?_
          | refine seqK_x ?_
          | refine blockK_e ?_
          | refine invK_x ?_
          | refine midK_n ?_)
        refine ⟨_, ⟨0, rfl, ?_, hs⟩, EnvB.of rfl⟩
        rw [← hf]; rfl
    clear hs
    rintro _ us _ h2 ⟨f, rfl, hf, hs⟩ he
    refine W_spell he rfl ?_
    clear he
    have hfl : f ≤ Y := by rw [hf]; exact firstL_le _ _
    have hrow := hv.at hYl
    have hrl := atC_len hl2 hYl
    have hrn := hrow.ln
    have hcnt : countL ⟨atC G Y, (atH G Y).j, (atH G Y).s⟩ ≤ (atC G Y).length := countL_le _
    have hcap : capN (G.map lnOf) X Y = if (atH G Y).j = true ∧ Y + 1 < G.length then min (min X 1048576) (countL ⟨atC G Y, (atH G Y).j, (atH G Y).s⟩) else min X 1048576 := by
      unfold capN; rw [lnOf_atH hYl, List.length_map]
    have hC : capN (G.map lnOf) X Y ≤ 1048576 := by
      rw [hcap]; split <;> omega
    generalize hCe : capN (G.map lnOf) X Y = C at hcap hC ⊢
    repeat' (first
      | (refine K_ops ?_; first
        | refine W_fastB rfl ?_
        | refine W_nil ?_
        | (refine K_guard ?_; first
          | refine W_guard_on rfl ?_
          | refine W_guard_off rfl rfl (W_norm rfl ?_)
          | (refine W_guardT rfl (fun hc => ?_) (fun hc => ?_) <;> (try rw [hc]) <;> (try simp only [decide_eq_true_eq, decide_eq_false_iff_not, beq_iff_eq, beq_eq_false_iff_ne, bne_iff_ne, bne_eq_false_iff_eq, Bool.not_eq_true', Bool.not_eq_false', Int.not_lt, Int.not_le, ne_eq, reduceCtorEq, not_true_eq_false, not_false_eq_true, Decidable.not_not] at hc) <;> (try (exfalso; omega)) <;> (try refine W_norm rfl ?_))
        )
        | (refine K_call ?_; first
          | (refine W_callsN 22 rfl (w22 (l := atH G Y) (L := atC G Y) hrn (by omega)) rfl ?_; rintro _ h3 ⟨rfl, t⟩; replace hs := hs.call t; try simp only [cell_back, attr_back, List.set_cons_zero, List.set_cons_succ, List.eraseIdx_cons_succ, List.eraseIdx_zero, List.tail_cons, List.nil_append, List.cons_append] at hs; refine W_norm rfl ?_)
        )
        | (refine W_lenL rfl (by first | assumption | exact SlR.ln (by assumption) | exact AccS.ln (by assumption) | exact OwnS.ln (by assumption) | exact VwO.ln (by assumption) | exact OwnP.ln (by assumption) | exact Len.sl) ?_; refine W_norm rfl ?_)
        | (refine K_bin ?_; first
          | (refine W_sub rfl rfl (IntWalk.i64_in _ (by first | omega | (simp only [List.length_set, List.length_append, List.length_take, List.length_drop, List.length_replicate, List.length_cons, List.length_nil, decs_length, List.length_map]; omega))) ?_; refine W_norm rfl ?_)
        )
        | (refine K_pick ?_; first
          | refine W_pick_t rfl rfl (W_norm rfl ?_)
          | refine W_pick_f rfl rfl (W_norm rfl ?_)
        )
        | (refine K_index ?_; first
          | (refine W_indexR rfl rfl (by assumption) rfl ⟨(by first | omega | (simp only [List.length_set, List.length_append, List.length_take, List.length_drop, List.length_replicate, List.length_cons, List.length_nil, decs_length, List.length_map]; omega)), (by first | omega | (simp only [List.length_set, List.length_append, List.length_take, List.length_drop, List.length_replicate, List.length_cons, List.length_nil, decs_length, List.length_map]; omega))⟩ ?_; intro _ _ _; refine W_norm rfl ?_)
        )
        | (refine K_load ?_; first
          | (refine W_loadRF hs rfl (by assumption) rfl ?_; refine W_norm rfl ?_)
          | (refine W_loadRA hs rfl (by assumption) rfl ?_; refine W_norm rfl ?_)
        )
        | (refine W_min2 rfl rfl ?_; refine W_norm rfl ?_)
      )
      | (refine K_code ?_; first
        | (refine W_midB (a := .seq (.ops m10_r8) (.cond (.t 58) (.ops m10_r9) .skip)) [2, 47, 48, 49, 50, 51, 52, 53, 54, 55, 56, 57, 58, 59, 60, 61, 62, 63, 64, 65] [0, 1, 2, 3, 4, 5, 6, 7, 8, 9, 10, 11, 12, 13, 14, 15, 16, 17, 18, 19, 20, 21, 22, 23, 24, 25, 26, 27, 28, 29, 30, 31, 32, 33, 34, 35, 36, 37, 38, 39, 40, 41, 42, 43, 44, 45, 46, 47, 48, 49, 50, 51, 52, 53, 54, 55, 56, 57, 58, 59, 60, 61, 62, 63, 64, 65, 66, 67, 68, 69, 70, 71, 72, 73, 74, 75, 76, 77, 78, 79, 80, 81, 82, 83, 84, 85, 86, 87, 88, 89, 90, 91, 92, 93, 94, 95, 96, 97, 98] (fun sl h' => ∃ (c2 : Int), sl = [(2, .sc (.int .i64 c2))] ∧ c2 = (C : Int) ∧ Sep (Now h) [] h') ?_ ?_)
        | refine W_seq ?_
        | refine W_ops ?_
        | refine W_cond_f rfl ?_
        | (refine W_cond rfl (fun hc => ?_) (fun hc => ?_) <;> (try rw [hc]) <;> (try simp only [decide_eq_true_eq, decide_eq_false_iff_not, beq_iff_eq, beq_eq_false_iff_ne, bne_iff_ne, bne_eq_false_iff_eq, Bool.not_eq_true', Bool.not_eq_false', Int.not_lt, Int.not_le, ne_eq, reduceCtorEq, not_true_eq_false, not_false_eq_true, Decidable.not_not] at hc) <;> (try (exfalso; omega)) <;> (try refine W_norm rfl ?_))
        | refine W_skip ?_
      )
      | refine seqK_n ?_
      | refine midK_n ?_)
    · have hc1 : (atH G Y).j = true := by assumption
      refine ⟨_, ⟨_, rfl, ?_, hs⟩, EnvB.of rfl⟩
      rw [hcap, if_pos ⟨hc1, by omega⟩]; omega
    · refine ⟨_, ⟨_, rfl, ?_, hs⟩, EnvB.of rfl⟩
      rw [hcap, if_neg (by omega)]; omega
    · have hc1 : (atH G Y).j = false := by assumption
      refine ⟨_, ⟨_, rfl, ?_, hs⟩, EnvB.of rfl⟩
      rw [hcap, if_neg (by rw [hc1]; simp)]; omega
    clear hs
    rintro _ us _ h2 ⟨_, rfl, rfl, hs⟩ he
    refine W_spell he rfl ?_
    clear he
    repeat' (first
      | (refine K_ops ?_; first
        | refine W_fastB rfl ?_
        | refine W_nil ?_
        | (refine W_lenL rfl (by first | assumption | exact SlR.ln (by assumption) | exact AccS.ln (by assumption) | exact OwnS.ln (by assumption) | exact VwO.ln (by assumption) | exact OwnP.ln (by assumption) | exact Len.sl) ?_; refine W_norm rfl ?_)
        | (refine K_slice ?_; first
          | (refine W_sliceR rfl rfl rfl (by assumption) rfl ⟨(by first | omega | (simp only [List.length_set, List.length_append, List.length_take, List.length_drop, List.length_replicate, List.length_cons, List.length_nil, decs_length, List.length_map]; omega)), (by first | omega | (simp only [List.length_set, List.length_append, List.length_take, List.length_drop, List.length_replicate, List.length_cons, List.length_nil, decs_length, List.length_map]; omega)), (by first | omega | (simp only [List.length_set, List.length_append, List.length_take, List.length_drop, List.length_replicate, List.length_cons, List.length_nil, decs_length, List.length_map]; omega))⟩ ?_; intro _ _; refine W_norm rfl ?_)
        )
      )
      | (refine K_code ?_; first
        | refine W_seq ?_
        | refine W_ops ?_
        | refine W_block ?_
      )
      | refine seqK_n ?_)
    rename_i v5 hv5
    have hL5 : LnsR (Now h) v5 ((G.take Y).drop f) := LnsR.cut hv5 hv
    have hl5 : ((G.take Y).drop f).length = Y - f := by rw [List.length_drop, List.length_take]; omega
    have hn5 := hL5.ln
    have hm5 := hL5.1
    have hc5 : ∀ g ∈ (G.take Y).drop f, g.2.length ≤ 100000 := fun g hg => hl2 g (List.mem_of_mem_take (List.mem_of_mem_drop hg))
    have hmap5 : ((G.take Y).drop f).map lnOf = ((G.map lnOf).take Y).drop f := by rw [List.map_drop, List.map_take]
    have hl6 : (((G.map Prod.fst).take (Y : Int).toNat).drop (f : Int).toNat).length = ((G.take Y).drop f).length := by
      rw [Int.toNat_natCast, Int.toNat_natCast, ← List.map_take, ← List.map_drop, List.length_map]
    generalize hG5 : (G.take Y).drop f = G5 at *
    have hah : aheadL (G.map lnOf) Y = ((G5.map lnOf).map countL).sum := by
      unfold aheadL; rw [← hf, hmap5]
    refine W_loopB [2, 12, 71, 72, 73, 74, 75, 76, 77, 78, 79] [0, 1, 2, 3, 4, 5, 6, 7, 8, 9, 10, 11, 12, 13, 14, 15, 16, 17, 18, 19, 20, 21, 22, 23, 24, 25, 26, 27, 28, 29, 30, 31, 32, 33, 34, 35, 36, 37, 38, 39, 40, 41, 42, 43, 44, 45, 46, 47, 48, 49, 50, 51, 52, 53, 54, 55, 56, 57, 58, 59, 60, 61, 62, 63, 64, 65, 66, 67, 68, 69, 70, 71, 72, 73, 74, 75, 76, 77, 78, 79, 80, 81, 82, 83, 84, 85, 86, 87, 88, 89, 90, 91, 92, 93, 94, 95, 96, 97, 98] (fun n' sl h' => ∃ (i a : Nat), sl = [(2, .sc (.int .i64 (a : Int))), (71, .sc (.int .i64 (i : Int)))] ∧ n' = G5.length - i ∧ i ≤ G5.length ∧ Hid (a = C + (((G5.map lnOf).take i).map countL).sum) ∧ a ≤ 1048576 + 100000 * i ∧ Sep (Now h) [] h') ?_ ?_
    · refine ⟨_, _, ⟨0, C, rfl, rfl, Nat.zero_le _, (by simp [Hid]), hC, hs⟩, EnvB.of rfl⟩
    clear hs
    rintro _ _ us _ h3 ⟨i, a, rfl, rfl, hi, ha, hal, hs⟩ he
    refine W_spell he rfl ?_
    clear he
    unfold m10_l11
    by_cases hlt : i < G5.length
    · have hrow := hL5.at hlt
      have hrl := atC_len hc5 hlt
      have hrn := hrow.ln
      have hcnt : countL ⟨atC G5 i, (atH G5 i).j, (atH G5 i).s⟩ ≤ (atC G5 i).length := countL_le _
      repeat' (first
        | (refine K_ops ?_; first
          | refine W_fastB rfl ?_
          | refine W_nil ?_
          | (refine K_call ?_; first
            | (refine W_callsN 22 rfl (w22 (l := atH G5 i) (L := atC G5 i) hrn (by omega)) rfl ?_; rintro _ h3 ⟨rfl, t⟩; replace hs := hs.call t; try simp only [cell_back, attr_back, List.set_cons_zero, List.set_cons_succ, List.eraseIdx_cons_succ, List.eraseIdx_zero, List.tail_cons, List.nil_append, List.cons_append] at hs; refine W_norm rfl ?_)
          )
          | (refine K_bin ?_; first
            | (refine W_add rfl rfl (IntWalk.i64_in _ (by first | omega | (simp only [List.length_set, List.length_append, List.length_take, List.length_drop, List.length_replicate, List.length_cons, List.length_nil, decs_length, List.length_map]; omega))) ?_; refine W_norm rfl ?_)
          )
          | (refine K_index ?_; first
            | (refine W_indexR rfl rfl (by assumption) rfl ⟨(by first | omega | (simp only [List.length_set, List.length_append, List.length_take, List.length_drop, List.length_replicate, List.length_cons, List.length_nil, decs_length, List.length_map]; omega)), (by first | omega | (simp only [List.length_set, List.length_append, List.length_take, List.length_drop, List.length_replicate, List.length_cons, List.length_nil, decs_length, List.length_map]; omega))⟩ ?_; intro _ _ _; refine W_norm rfl ?_)
          )
          | (refine K_load ?_; first
            | (refine W_loadRA hs rfl (by assumption) rfl ?_; refine W_norm rfl ?_)
            | (refine W_loadCA hs 0 rfl rfl rfl ?_; refine W_norm rfl ?_)
          )
          | (refine K_store ?_; first
            | (refine W_storeC hs 0 rfl rfl rfl rfl (by first | decide | assumption) rfl rfl ?_; clear hs; intro _ hs; try simp only [cell_back, attr_back, List.set_cons_zero, List.set_cons_succ, List.eraseIdx_cons_succ, List.eraseIdx_zero, List.tail_cons, List.nil_append, List.cons_append] at hs; refine W_norm rfl ?_)
          )
          | (refine W_allocS hs ?_; clear hs; intro al _ hs; try simp only [cell_back, attr_back, List.set_cons_zero, List.set_cons_succ, List.eraseIdx_cons_succ, List.eraseIdx_zero, List.tail_cons, List.nil_append, List.cons_append] at hs; refine W_norm rfl ?_)
        )
        | (refine K_code ?_; first
          | refine W_seq ?_
          | refine W_ops ?_
          | (refine W_cond rfl (fun hc => ?_) (fun hc => ?_) <;> (try rw [hc]) <;> (try simp only [decide_eq_true_eq, decide_eq_false_iff_not, beq_iff_eq, beq_eq_false_iff_ne, bne_iff_ne, bne_eq_false_iff_eq, Bool.not_eq_true', Bool.not_eq_false', Int.not_lt, Int.not_le, ne_eq, reduceCtorEq, not_true_eq_false, not_false_eq_true, Decidable.not_not] at hc) <;> (try (exfalso; omega)) <;> (try refine W_norm rfl ?_))
          | refine W_skip ?_
          | refine W_block ?_
        )
        | refine seqK_n ?_
        | refine blockK_n ?_
        | refine invK_n ?_)
      refine ⟨_, ?_, _, ⟨i + 1, a + countL ⟨atC G5 i, (atH G5 i).j, (atH G5 i).s⟩, rfl, rfl, ?_, ?_, ?_, hs.drop 0⟩, EnvB.of rfl⟩
      · omega
      · omega
      · show _ = _
        rw [sum_take_add hlt, ← Nat.add_assoc, ← ha.out]
      · omega
    · obtain rfl : i = G5.length := by omega
      have ha' : a = C + aheadL (G.map lnOf) Y := by
        rw [hah, ha.out, ← List.length_map (f := lnOf), List.take_length]
      clear ha
      have hx := cells_le hl2
      have hln3 : ∀ g ∈ G.take f, g.2.length ≤ 100000 := fun g hg => hl2 g (List.mem_of_mem_take hg)
      have hln4 : ∀ g ∈ G.drop f, g.2.length ≤ 100000 := fun g hg => hl2 g (List.mem_of_mem_drop hg)
      have hlt3 : (G.take f).length ≤ 100000 := by rw [List.length_take]; omega
      have hlt4 : (G.drop f).length ≤ 100000 := by rw [List.length_drop]; omega
      repeat' (first
        | (refine K_ops ?_; first
          | refine W_fastB rfl ?_
          | refine W_nil ?_
          | (refine K_call ?_; first
            | (refine W_callsN 13 rfl (w13 (w := w) (LnsR.now hs (LnsR.take (n := (f : Int).toNat) (by assumption) hv)) hlt3 hln3) rfl ?_; rintro _ h3 ⟨u6, c6, G6, rfl, hG6, hG6e, t⟩; replace hs := hs.call t; try simp only [cell_back, attr_back, List.set_cons_zero, List.set_cons_succ, List.eraseIdx_cons_succ, List.eraseIdx_zero, List.tail_cons, List.nil_append, List.cons_append] at hs; have hG6n := hG6.ln; refine W_norm rfl ?_)
            | (refine W_callsN 15 rfl (w15 (LnsR.now hs (LnsR.drop (n := (f : Int).toNat) (by assumption) hv)) hlt4 hln4) rfl ?_; rintro _ h3 ⟨u7, c7, P7, rfl, hP7, hP7e, t⟩; replace hs := hs.call t; try simp only [cell_back, attr_back, List.set_cons_zero, List.set_cons_succ, List.eraseIdx_cons_succ, List.eraseIdx_zero, List.tail_cons, List.nil_append, List.cons_append] at hs; have hP7n := hP7.ln; refine W_norm rfl ?_)
          )
          | (refine W_lenL rfl (by first | assumption | exact SlR.ln (by assumption) | exact AccS.ln (by assumption) | exact OwnS.ln (by assumption) | exact VwO.ln (by assumption) | exact OwnP.ln (by assumption) | exact Len.sl) ?_; refine W_norm rfl ?_)
          | (refine K_slice ?_; first
            | (refine W_sliceRTo rfl rfl (by assumption) rfl ⟨(by first | omega | (simp only [List.length_set, List.length_append, List.length_take, List.length_drop, List.length_replicate, List.length_cons, List.length_nil, decs_length, List.length_map]; omega)), (by first | omega | (simp only [List.length_set, List.length_append, List.length_take, List.length_drop, List.length_replicate, List.length_cons, List.length_nil, decs_length, List.length_map]; omega))⟩ ?_; intro _ _; refine W_norm rfl ?_)
            | (refine W_sliceRFrom rfl rfl (by assumption) rfl ⟨(by first | omega | (simp only [List.length_set, List.length_append, List.length_take, List.length_drop, List.length_replicate, List.length_cons, List.length_nil, decs_length, List.length_map]; omega)), (by first | omega | (simp only [List.length_set, List.length_append, List.length_take, List.length_drop, List.length_replicate, List.length_cons, List.length_nil, decs_length, List.length_map]; omega))⟩ ?_; intro _ _; refine W_norm rfl ?_)
          )
        )
        | (refine K_code ?_; first
          | refine W_seq ?_
          | refine W_ops ?_
          | (refine W_cond rfl (fun hc => ?_) (fun hc => ?_) <;> (try rw [hc]) <;> (try simp only [decide_eq_true_eq, decide_eq_false_iff_not, beq_iff_eq, beq_eq_false_iff_ne, bne_iff_ne, bne_eq_false_iff_eq, Bool.not_eq_true', Bool.not_eq_false', Int.not_lt, Int.not_le, ne_eq, reduceCtorEq, not_true_eq_false, not_false_eq_true, Decidable.not_not] at hc) <;> (try (exfalso; omega)) <;> (try refine W_norm rfl ?_))
          | refine W_exit ?_
        )
        | refine seqK_n ?_
        | refine seqK_x ?_
        | refine blockK_e ?_
        | refine invK_x ?_)
      obtain ⟨T, P, hhe, _⟩ := head_eq (lnOf_atH hYl)
      rw [← hf] at hhe
      have hP7e' : P7.map Prod.snd = headP (G.map lnOf) Y :: P := by
        rw [hP7e, ← hhe, List.map_drop]; rfl
      have hP7l : 0 < P7.length := by
        have := congrArg List.length hP7e'
        rw [List.length_map, List.length_cons] at this; omega
      have hG6l : G6.length = (linesL ((G.map lnOf).take f) w.toNat).length := by
        have := congrArg List.length hG6e
        unfold linesR at this
        rw [List.length_map, if_pos hw, ← List.map_take] at *
        exact this
      have hG6b : (linesL ((G.map lnOf).take f) w.toNat).length ≤ 20000000000 := by
        have := linesL_count (w := w.toNat) (l := (G.map lnOf).take f) (n := 100000) (fun x hx' => hx x (List.mem_of_mem_take hx'))
        rw [List.length_take, List.length_map] at this; omega
      replace hs := (hs.freeze 0 rfl).freeze 0 rfl
      have hP7r : NsR cellE (((Now h).add c7).add c6) u7 P7 := hP7.mono (Ro.le.trans (InP.add _ _) (Ro.le_add _ _))
      have hP71 := hP7r.1
      have hrow7 : SlR cellE (((Now h).add c7).add c6) ((P7.map Prod.fst).getD (0 : Int).toNat svEl.dflt) (headP (G.map lnOf) Y) := by
        have := hP7r.row hP7l
        rwa [hP7e'] at this
      have hhl : (headP (G.map lnOf) Y).length ≤ 10000000000 := by
        have := paras_len (n := 100000) (l := G.map lnOf) hx (p := headP (G.map lnOf) Y) (by rw [paras_split (G.map lnOf) Y (by rw [List.length_map]; exact hYl), ← hf, hhe]; simp)
        rw [List.length_map] at this; omega
      repeat' (first
        | (refine K_ops ?_; first
          | refine W_fastB rfl ?_
          | refine W_nil ?_
          | (refine K_call ?_; first
            | (refine W_callsN 23 rfl (w23 (b := a) (y0 := G6.length) (SlR.now hs hrow7) hhl hw (by omega) (by omega)) rfl ?_; rintro _ h3 ⟨rfl, t⟩; replace hs := hs.call t; try simp only [cell_back, attr_back, List.set_cons_zero, List.set_cons_succ, List.eraseIdx_cons_succ, List.eraseIdx_zero, List.tail_cons, List.nil_append, List.cons_append] at hs; refine W_norm rfl ?_)
          )
          | (refine K_index ?_; first
            | (refine W_indexR rfl rfl (by assumption) rfl ⟨(by first | omega | (simp only [List.length_set, List.length_append, List.length_take, List.length_drop, List.length_replicate, List.length_cons, List.length_nil, decs_length, List.length_map]; omega)), (by first | omega | (simp only [List.length_set, List.length_append, List.length_take, List.length_drop, List.length_replicate, List.length_cons, List.length_nil, decs_length, List.length_map]; omega))⟩ ?_; intro _ _ _; refine W_norm rfl ?_)
          )
          | (refine K_load ?_; first
            | (refine W_loadR hs rfl (by assumption) rfl ?_; refine W_norm rfl ?_)
          )
        )
        | (refine K_code ?_; first
          | refine W_ret ?_
        )
        | refine seqK_n ?_
        | (refine fnK_r rfl ?_; try dsimp only [gd_z, gd_s]))
      refine ⟨_, rfl, ?_, hs.unadd.unadd⟩
      unfold placeL
      rw [← hf, ← hG6l, ← ha']
  · rw [show placeR (G.map lnOf) w x y = (0, 0) by unfold placeR; rw [if_neg (by rw [List.length_map]; exact hok)]]
    by_cases hw : okW w
    · repeat' (first
        | (refine K_ops ?_; first
          | refine W_fastB rfl ?_
          | refine W_nil ?_
          | (refine K_guard ?_; first
            | refine W_guard_on rfl ?_
            | refine W_guard_off rfl rfl (W_norm rfl ?_)
            | (refine W_guardF rfl (fun hc => ?_) (fun hc => ?_) <;> (try rw [hc]) <;> (try simp only [decide_eq_true_eq, decide_eq_false_iff_not, beq_iff_eq, beq_eq_false_iff_ne, bne_iff_ne, bne_eq_false_iff_eq, Bool.not_eq_true', Bool.not_eq_false', Int.not_lt, Int.not_le, ne_eq, reduceCtorEq, not_true_eq_false, not_false_eq_true, Decidable.not_not] at hc) <;> (try (exfalso; omega)) <;> (try refine W_norm rfl ?_))
          )
          | (refine K_call ?_; first
            | (refine W_callsN 21 rfl (w21) rfl ?_; rintro _ h ⟨rfl, rfl⟩; rw [decide_eq_true hw]; refine W_norm rfl ?_)
          )
          | (refine W_lenL rfl (by first | assumption | exact SlR.ln (by assumption) | exact AccS.ln (by assumption) | exact OwnS.ln (by assumption) | exact VwO.ln (by assumption) | exact OwnP.ln (by assumption) | exact Len.sl) ?_; refine W_norm rfl ?_)
          | (refine K_pick ?_; first
            | refine W_pick_t rfl rfl (W_norm rfl ?_)
            | refine W_pick_f rfl rfl (W_norm rfl ?_)
          )
          | (refine W_min2 rfl rfl ?_; refine W_norm rfl ?_)
        )
        | (refine K_code ?_; first
          | refine W_seq ?_
          | refine W_ops ?_
          | refine W_cond_t rfl ?_
          | (refine W_cond rfl (fun hc => ?_) (fun hc => ?_) <;> (try rw [hc]) <;> (try simp only [decide_eq_true_eq, decide_eq_false_iff_not, beq_iff_eq, beq_eq_false_iff_ne, bne_iff_ne, bne_eq_false_iff_eq, Bool.not_eq_true', Bool.not_eq_false', Int.not_lt, Int.not_le, ne_eq, reduceCtorEq, not_true_eq_false, not_false_eq_true, Decidable.not_not] at hc) <;> (try (exfalso; omega)) <;> (try refine W_norm rfl ?_))
          | refine W_skip ?_
          | refine W_ret ?_
          | refine W_block ?_
        )
        | refine seqK_n ?_
        | refine seqK_r ?_
        | (refine fnK_r rfl ?_; try dsimp only [gd_z, gd_s]))
      all_goals first | exact ⟨_, rfl, rfl, hs⟩ | exact absurd ⟨hw, by omega, by omega, by omega⟩ hok
    · repeat' (first
        | (refine K_ops ?_; first
          | refine W_fastB rfl ?_
          | refine W_nil ?_
          | (refine K_guard ?_; first
            | refine W_guard_off rfl rfl (W_norm rfl ?_)
          )
          | (refine K_call ?_; first
            | (refine W_callsN 21 rfl (w21) rfl ?_; rintro _ h ⟨rfl, rfl⟩; rw [decide_eq_false hw]; refine W_norm rfl ?_)
          )
          | (refine K_pick ?_; first
            | refine W_pick_t rfl rfl (W_norm rfl ?_)
          )
        )
        | (refine K_code ?_; first
          | refine W_seq ?_
          | refine W_ops ?_
          | refine W_cond_t rfl ?_
          | refine W_ret ?_
        )
        | refine seqK_n ?_
        | refine seqK_r ?_
        | (refine fnK_r rfl ?_; try dsimp only [gd_z, gd_s]))
      exact ⟨_, rfl, rfl, hs⟩
end Go.Proofs.YtllhbhhgihdakaaDoor
