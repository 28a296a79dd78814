/- Reflow, the reference: where a place is. CLNONE -/
import Derived.Test.YtllhbhhgihdakaaDoorJxW15t
set_option linter.unusedSimpArgs false
set_option linter.unusedVariables false
set_option maxHeartbeats 4000000
set_option maxRecDepth 100000
namespace Go.Proofs.YtllhbhhgihdakaaDoor
open Go Go.Jx

theorem sum_from {G : List LnC} {f i : Nat} (hf : f ≤ i) (hi : i < G.length) : ((((G.map lnOf).take (i + 1)).drop f).map countL).sum = ((((G.map lnOf).take i).drop f).map countL).sum + countL ⟨atC G i, (atH G i).j, (atH G i).s⟩ := by
  rw [List.take_add_one, lnOf_atH hi, List.drop_append_of_le_length (by rw [List.length_take, List.length_map]; omega), List.map_append, List.sum_append]
  simp [atL]
theorem ints_getD {l : List Nat} {i : Nat} {s : Nat} (h : l[i]? = some s) : (ints l).getD i 0 = (s : Int) := by
  unfold ints
  rw [List.getD_eq_getElem?_getD, List.getElem?_map, h]; rfl
theorem ints_len (l : List Nat) : (ints l).length = l.length := List.length_map _
theorem posI_getD {l : List (Nat × Nat)} {i : Nat} (h : i < l.length) : (posI l).getD i (0, 0) = (((l.getD i (0, 0)).1 : Int), ((l.getD i (0, 0)).2 : Int)) := by
  unfold posI
  rw [List.getD_eq_getElem?_getD, List.getElem?_map, List.getD_eq_getElem?_getD, List.getElem?_eq_getElem h]; rfl
theorem posI_len (l : List (Nat × Nat)) : (posI l).length = l.length := List.length_map _
theorem rows_succ {Q : List (List Cell)} {w p : Nat} (hp : p < Q.length) : ((Q.take (p + 1)).flatMap (linesP w)).length = ((Q.take p).flatMap (linesP w)).length + (linesP w (Q.getD p [])).length := by
  rw [List.take_add_one, getD_get? (d := []) hp, List.flatMap_append, List.length_append]
  simp
theorem rows_le {Q : List (List Cell)} {w p : Nat} : ((Q.take p).flatMap (linesP w)).length ≤ (Q.flatMap (linesP w)).length := by
  conv => rhs; rw [← List.take_append_drop p Q]
  rw [List.flatMap_append, List.length_append]; omega

set_option maxHeartbeats 8000000 in
theorem w11 {v : SV} {G : List LnC} {w x y : Int} {h : Heap} (hv : LnsR (Now h) v G) (hl : G.length ≤ 100000) (hl2 : ∀ g ∈ G, g.2.length ≤ 100000) :
    Wc DD 11 [.sc v, i64 w, i64 x, i64 y] h fun r h' => r = .tup [i64 ((placeR (G.map lnOf) w x y).1 : Nat), i64 ((placeR (G.map lnOf) w x y).2 : Nat)] ∧ Sep (Now h) [] h' := by
  have hs := Sep.entry h
  have hln := hv.ln
  have hv1 := hv.1
  refine W_enter d11 ?_
  show W _ (.code m11_code [.sc v, i64 w, i64 x, i64 y, undefA, undefA, undefA, undefA, undefA, undefA, undefA, undefA, undefA, undefA, undefA, undefA, undefA, undefA, undefA, undefA, undefA, undefA, undefA, undefA, undefA, undefA, undefA, undefA, undefA, undefA, undefA, undefA, undefA, undefA, undefA, undefA, undefA, undefA, undefA, undefA, undefA, undefA, undefA, undefA, undefA, undefA, undefA, undefA, undefA, undefA, undefA, undefA, undefA, undefA, undefA, undefA, undefA, undefA, undefA, undefA, undefA, undefA, undefA, undefA, undefA, undefA, undefA, undefA, undefA, undefA, undefA, undefA, undefA, undefA, undefA, undefA, undefA, undefA, undefA, undefA, undefA, undefA, undefA, undefA, undefA, undefA, undefA, undefA, undefA, undefA, undefA, undefA, undefA, undefA, undefA, undefA, undefA, undefA, undefA, undefA, undefA, undefA, undefA, undefA, undefA, undefA, undefA, undefA, undefA, undefA, undefA, undefA, undefA, undefA, undefA, undefA, undefA, undefA, undefA, undefA, undefA, undefA, undefA, undefA, undefA, undefA, undefA, undefA, undefA, undefA, undefA, undefA, undefA, undefA, undefA, undefA, undefA, undefA, undefA, undefA, undefA, undefA, undefA, undefA, undefA, undefA, undefA, undefA, undefA, undefA, undefA, undefA, undefA, undefA, undefA, undefA, undefA, undefA, undefA, undefA, undefA, undefA, undefA, undefA, undefA, undefA, undefA, undefA, undefA, undefA, undefA, undefA, undefA, undefA, undefA, undefA, undefA, undefA, undefA, undefA, undefA, undefA, undefA, undefA, undefA, undefA] _) _
  unfold m11_code
  by_cases hok : okW w ∧ 0 ≤ x ∧ 0 ≤ y ∧ y < G.length
  · obtain ⟨hw, hx, hy, hyl⟩ := hok
    obtain ⟨N, rfl⟩ : ∃ N : Nat, w = (N : Int) := ⟨w.toNat, by have := hw.1; omega⟩
    obtain ⟨X, rfl⟩ : ∃ X : Nat, x = (X : Int) := ⟨x.toNat, by omega⟩
    obtain ⟨Y, rfl⟩ : ∃ Y : Nat, y = (Y : Int) := ⟨y.toNat, by omega⟩
    have hN2 : 2 ≤ N := by have := hw.1; omega
    have hN4 : N ≤ 400 := by have := hw.2; omega
    have hYl : Y < G.length := by omega
    rw [show placeR (G.map lnOf) N X Y = placeL (G.map lnOf) N (capN (G.map lnOf) X Y) Y by unfold placeR; rw [if_pos ⟨hw, hx, hy, by rw [List.length_map]; exact hyl⟩]; rfl]
    have hm := lnOf_atH hYl
    have hcx := cells_le hl2
    obtain ⟨hst1, hst2, hst3, hst4⟩ := para_starts hm
    obtain ⟨hpa1, hpa2, hpa3⟩ := para_at hm
    have hro := rows_at (w := N) hm
    have hrow := hv.at hYl
    have hrl := atC_len hl2 hYl
    have hrn := hrow.ln
    have hcnt : countL ⟨atC G Y, (atH G Y).j, (atH G Y).s⟩ ≤ (atC G Y).length := countL_le _
    have hcap : capN (G.map lnOf) X Y = if (atH G Y).j = true ∧ Y + 1 < G.length then min (min X 1048576) (countL ⟨atC G Y, (atH G Y).j, (atH G Y).s⟩) else min X 1048576 := by
      unfold capN; rw [lnOf_atH hYl, List.length_map]
    have hC : capN (G.map lnOf) X Y ≤ 1048576 := by
      rw [hcap]; split <;> omega
    generalize hCe : capN (G.map lnOf) X Y = C at hcap hC ⊢
    have hQl : ∀ p, p < (paras [] (G.map lnOf)).length → ((paras [] (G.map lnOf)).getD p []).length ≤ 10000000000 := by
      intro p hp
      have := paras_len hcx (p := (paras [] (G.map lnOf)).getD p []) (getD_mem hp)
      rw [List.length_map] at this; omega
    have hQn : (paras [] (G.map lnOf)).length ≤ 100000 := by
      have := paras_count (G.map lnOf) []
      rw [List.length_map] at this; omega
    have hT : ((paras [] (G.map lnOf)).flatMap (linesP N)).length ≤ 20000000000 := by
      have := linesL_count (w := N) hcx
      rw [List.length_map] at this
      unfold linesL at this; omega
    generalize hpn : paraN (G.map lnOf) Y = pn at *
    generalize hff : firstL (G.map lnOf) Y = f at *
    generalize hSS : startsL 0 0 (G.map lnOf) = SS at *
    generalize hQQ : paras [] (G.map lnOf) = Q at *
    have hpq : pn < Q.length := by rw [← hpa3]; exact hst2
    repeat' (first
      | (refine K_ops ?_; first
        | refine W_fastB rfl ?_
        | refine W_nil ?_
        | (refine K_guard ?_; first
          | refine W_guard_on rfl ?_
          | (refine W_guardF rfl (fun hc => ?_) (fun hc => ?_) <;> (try rw [hc]) <;> (try simp only [decide_eq_true_eq, decide_eq_false_iff_not, beq_iff_eq, beq_eq_false_iff_ne, bne_iff_ne, bne_eq_false_iff_eq, Bool.not_eq_true', Bool.not_eq_false', Int.not_lt, Int.not_le, ne_eq, reduceCtorEq, not_true_eq_false, not_false_eq_true, Decidable.not_not] at hc) <;> (try (exfalso; omega)) <;> (try refine W_norm rfl ?_))
        )
        | (refine W_lenL rfl (by first | assumption | exact SlR.ln (by assumption) | exact AccS.ln (by assumption) | exact OwnS.ln (by assumption) | exact VwO.ln (by assumption) | exact OwnP.ln (by assumption) | exact Len.sl) ?_; refine W_norm rfl ?_)
        | (refine K_pick ?_; first
          | refine W_pick_f rfl rfl (W_norm rfl ?_)
        )
      )
      | (refine K_code ?_; first
        | (refine W_midB (a := .seq (.ops m11_r3) (.cond (.t 44) (.ops m11_r4) .skip)) [2, 43, 44] [0, 1, 2, 3, 4, 5, 6, 7, 8, 9, 10, 11, 12, 13, 14, 15, 16, 17, 18, 19, 20, 21, 22, 23, 24, 25, 26, 27, 28, 29, 30, 31, 32, 33, 34, 35, 36, 37, 38, 39, 40, 41, 42, 43, 44, 45, 46, 47, 48, 49, 50, 51, 52, 53, 54, 55, 56, 57, 58, 59, 60, 61, 62, 63, 64, 65, 66, 67, 68, 69, 70, 71, 72, 73, 74, 75, 76, 77, 78, 79, 80, 81, 82, 83, 84, 85, 86, 87, 88, 89, 90, 91, 92, 93, 94, 95, 96, 97, 98, 99, 100, 101, 102, 103, 104, 105, 106, 107, 108, 109, 110, 111, 112, 113, 114, 115, 116, 117, 118, 119, 120, 121, 122, 123, 124, 125, 126, 127, 128, 129, 130, 131, 132, 133, 134, 135, 136, 137, 138, 139, 140, 141, 142, 143, 144, 145, 146, 147, 148, 149, 150, 151, 152, 153, 154, 155, 156, 157, 158, 159, 160, 161, 162, 163, 164, 165, 166, 167, 168, 169, 170, 171, 172, 173, 174, 175, 176, 177, 178, 179, 180, 181, 182, 183, 184, 185] (fun sl h' => ∃ (c2 : Int), sl = [(2, .sc (.int .i64 c2))] ∧ c2 = min (X : Int) 1048576 ∧ h' = h) ?_ ?_)
        | refine W_seq ?_
        | refine W_ops ?_
        | (refine W_cond rfl (fun hc => ?_) (fun hc => ?_) <;> (try rw [hc]) <;> (try simp only [decide_eq_true_eq, decide_eq_false_iff_not, beq_iff_eq, beq_eq_false_iff_ne, bne_iff_ne, bne_eq_false_iff_eq, Bool.not_eq_true', Bool.not_eq_false', Int.not_lt, Int.not_le, ne_eq, reduceCtorEq, not_true_eq_false, not_false_eq_true, Decidable.not_not] at hc) <;> (try (exfalso; omega)) <;> (try refine W_norm rfl ?_))
        | refine W_skip ?_
      )
      | refine seqK_n ?_
      | refine midK_n ?_)
    · refine ⟨_, ⟨_, rfl, (by omega), rfl⟩, EnvB.of rfl⟩
    · refine ⟨_, ⟨_, rfl, (by omega), rfl⟩, EnvB.of rfl⟩
    clear hs
    rintro _ us _ h1 ⟨c2, rfl, hc2, rfl⟩ he
    have hs := Sep.entry h1
    refine W_spell he rfl ?_
    clear he
    repeat' (first
      | (refine K_ops ?_; first
        | refine W_fastB rfl ?_
        | refine W_nil ?_
        | (refine K_call ?_; first
          | (refine W_callsN 24 rfl (w24 (v := v) hv hl hl2) rfl ?_; rintro _ h2 ⟨u1, u2, c3, P, rfl, hP, hPe, hSt, t⟩; rw [hQQ] at hPe; rw [hSS] at hSt; replace hs := hs.call t; try simp only [cell_back, attr_back, List.set_cons_zero, List.set_cons_succ, List.eraseIdx_cons_succ, List.eraseIdx_zero, List.tail_cons, List.nil_append, List.cons_append] at hs; have hPn := hP.ln; have hSn := hSt.ln; rw [ints_len, hpa3] at hSn; replace hs := hs.freeze 0 rfl; simp only [List.eraseIdx_zero, List.tail_cons] at hs; have hPl : P.length = Q.length := (by rw [← hPe, List.length_map]); have hPr : NsR cellE ((Now h1).add c3) u1 P := hP.mono (InP.add _ _); have hP1 := hPr.1; have hSr : SlR (intEl .i64) ((Now h1).add c3) u2 (ints SS) := hSt.mono (InP.add _ _); have hSl : (ints SS).length = Q.length := (by rw [ints_len, hpa3]); have hvr := hv.mono (Ro.le_add (Now h1) c3); have hvr1 := hvr.1; have hrow' := hvr.at hYl; clear hv1 hrow hSt hP t; refine W_norm rfl ?_)
        )
      )
      | (refine K_code ?_; first
        | (refine W_midB (a := .block 0 (.loop m11_l8)) [12, 13, 14, 15, 50, 51, 52, 53, 54, 55, 56, 57, 58, 59, 60, 61, 62, 63, 64, 65, 66, 67, 68, 69, 70, 71, 72, 73, 74, 75, 76, 77, 78] [0, 1, 2, 3, 4, 5, 6, 7, 8, 9, 10, 11, 12, 13, 14, 15, 16, 17, 18, 19, 20, 21, 22, 23, 24, 25, 26, 27, 28, 29, 30, 31, 32, 33, 34, 35, 36, 37, 38, 39, 40, 41, 42, 43, 44, 45, 46, 47, 48, 49, 50, 51, 52, 53, 54, 55, 56, 57, 58, 59, 60, 61, 62, 63, 64, 65, 66, 67, 68, 69, 70, 71, 72, 73, 74, 75, 76, 77, 78, 79, 80, 81, 82, 83, 84, 85, 86, 87, 88, 89, 90, 91, 92, 93, 94, 95, 96, 97, 98, 99, 100, 101, 102, 103, 104, 105, 106, 107, 108, 109, 110, 111, 112, 113, 114, 115, 116, 117, 118, 119, 120, 121, 122, 123, 124, 125, 126, 127, 128, 129, 130, 131, 132, 133, 134, 135, 136, 137, 138, 139, 140, 141, 142, 143, 144, 145, 146, 147, 148, 149, 150, 151, 152, 153, 154, 155, 156, 157, 158, 159, 160, 161, 162, 163, 164, 165, 166, 167, 168, 169, 170, 171, 172, 173, 174, 175, 176, 177, 178, 179, 180, 181, 182, 183, 184, 185] (fun sl h' => ∃ (r : Nat), sl = [(12, .sc (.int .i64 (pn : Int))), (13, .sc (.int .i64 (r : Int)))] ∧ r = (linesL ((G.map lnOf).take f) N).length ∧ r ≤ 20000000000 ∧ Sep ((Now h1).add c3) [] h') ?_ ?_)
        | refine W_seq ?_
        | refine W_ops ?_
        | refine W_block ?_
      )
      | refine seqK_n ?_)
    · refine W_loopB [12, 13, 14, 15, 50, 51, 52, 53, 54, 55, 56, 57, 58, 59, 60, 61, 62, 63, 64, 65, 66, 67, 68, 69, 70, 71, 72, 73, 74, 75, 76, 77, 78] [0, 1, 2, 3, 4, 5, 6, 7, 8, 9, 10, 11, 12, 13, 14, 15, 16, 17, 18, 19, 20, 21, 22, 23, 24, 25, 26, 27, 28, 29, 30, 31, 32, 33, 34, 35, 36, 37, 38, 39, 40, 41, 42, 43, 44, 45, 46, 47, 48, 49, 50, 51, 52, 53, 54, 55, 56, 57, 58, 59, 60, 61, 62, 63, 64, 65, 66, 67, 68, 69, 70, 71, 72, 73, 74, 75, 76, 77, 78, 79, 80, 81, 82, 83, 84, 85, 86, 87, 88, 89, 90, 91, 92, 93, 94, 95, 96, 97, 98, 99, 100, 101, 102, 103, 104, 105, 106, 107, 108, 109, 110, 111, 112, 113, 114, 115, 116, 117, 118, 119, 120, 121, 122, 123, 124, 125, 126, 127, 128, 129, 130, 131, 132, 133, 134, 135, 136, 137, 138, 139, 140, 141, 142, 143, 144, 145, 146, 147, 148, 149, 150, 151, 152, 153, 154, 155, 156, 157, 158, 159, 160, 161, 162, 163, 164, 165, 166, 167, 168, 169, 170, 171, 172, 173, 174, 175, 176, 177, 178, 179, 180, 181, 182, 183, 184, 185] (fun n' sl h' => ∃ (p r : Nat), sl = [(12, .sc (.int .i64 (p : Int))), (13, .sc (.int .i64 (r : Int)))] ∧ n' = pn - p ∧ p ≤ pn ∧ Hid (r = ((Q.take p).flatMap (linesP N)).length) ∧ r ≤ 20000000000 ∧ Sep ((Now h1).add c3) [] h') ?_ ?_
      · refine ⟨_, _, ⟨0, 0, rfl, rfl, Nat.zero_le _, rfl, Nat.zero_le _, hs⟩, EnvB.of rfl⟩
      clear hs
      rintro _ _ us _ h3 ⟨p, r, rfl, rfl, hp, hr, hr2, hs⟩ he
      refine W_spell he rfl ?_
      clear he
      unfold m11_l8
      by_cases hlt : p < pn
      · have hsv : (ints SS).getD ((p : Int) + 1).toNat (intEl .i64).dflt ≤ (Y : Int) := by
          have hl3 : p + 1 < SS.length := by omega
          have := hst3 (p + 1) _ (by omega) (List.getElem?_eq_getElem hl3)
          have e := ints_getD (List.getElem?_eq_getElem hl3)
          rw [show ((p : Int) + 1).toNat = p + 1 by omega, show (intEl .i64).dflt = 0 from rfl, e]; omega
        have hrowp : SlR cellE ((Now h1).add c3) ((P.map Prod.fst).getD p .nils) (Q.getD p []) := by rw [← hPe]; exact hPr.row (by omega)
        have hql := hQl p (by omega)
        have hrs := rows_succ (Q := Q) (w := N) (p := p) (by omega)
        rw [← hr.out] at hrs
        have hrb := rows_le (Q := Q) (w := N) (p := p + 1)
        repeat' (first
          | (refine K_ops ?_; first
            | refine W_fastB rfl ?_
            | refine W_nil ?_
            | (refine K_guard ?_; first
              | refine W_guard_on rfl ?_
              | (refine W_guardT rfl (fun hc => ?_) (fun hc => ?_) <;> (try rw [hc]) <;> (try simp only [decide_eq_true_eq, decide_eq_false_iff_not, beq_iff_eq, beq_eq_false_iff_ne, bne_iff_ne, bne_eq_false_iff_eq, Bool.not_eq_true', Bool.not_eq_false', Int.not_lt, Int.not_le, ne_eq, reduceCtorEq, not_true_eq_false, not_false_eq_true, Decidable.not_not] at hc) <;> (try (exfalso; omega)) <;> (try refine W_norm rfl ?_))
            )
            | (refine K_call ?_; first
              | (refine W_callsN 25 rfl (w25 (SlR.now hs hrowp) hql hw) rfl ?_; rintro _ h4 ⟨u5, u6, c5, rfl, hn5, hp5, t⟩; replace hs := hs.call t; try simp only [cell_back, attr_back, List.set_cons_zero, List.set_cons_succ, List.eraseIdx_cons_succ, List.eraseIdx_zero, List.tail_cons, List.nil_append, List.cons_append] at hs; rw [Int.toNat_natCast] at hn5; refine W_norm rfl ?_)
            )
            | (refine W_lenL rfl (by first | assumption | exact SlR.ln (by assumption) | exact AccS.ln (by assumption) | exact OwnS.ln (by assumption) | exact VwO.ln (by assumption) | exact OwnP.ln (by assumption) | exact Len.sl) ?_; refine W_norm rfl ?_)
            | (refine K_bin ?_; first
              | (refine W_add rfl rfl (IntWalk.i64_in _ (by first | omega | (simp only [List.length_set, List.length_append, List.length_take, List.length_drop, List.length_replicate, List.length_cons, List.length_nil, decs_length, List.length_map]; omega))) ?_; refine W_norm rfl ?_)
            )
            | (refine K_pick ?_; first
              | refine W_pick_t rfl rfl (W_norm rfl ?_)
            )
            | (refine K_index ?_; first
              | (refine W_indexR rfl rfl (by assumption) rfl ⟨(by first | omega | (simp only [List.length_set, List.length_append, List.length_take, List.length_drop, List.length_replicate, List.length_cons, List.length_nil, decs_length, List.length_map]; omega)), (by first | omega | (simp only [List.length_set, List.length_append, List.length_take, List.length_drop, List.length_replicate, List.length_cons, List.length_nil, decs_length, List.length_map]; omega))⟩ ?_; intro _ _ _; refine W_norm rfl ?_)
            )
            | (refine K_load ?_; first
              | (refine W_loadR hs rfl (by assumption) rfl ?_; refine W_norm rfl ?_)
            )
          )
          | (refine K_code ?_; first
            | refine W_seq ?_
            | refine W_ops ?_
            | (refine W_cond rfl (fun hc => ?_) (fun hc => ?_) <;> (try rw [hc]) <;> (try simp only [decide_eq_true_eq, decide_eq_false_iff_not, beq_iff_eq, beq_eq_false_iff_ne, bne_iff_ne, bne_eq_false_iff_eq, Bool.not_eq_true', Bool.not_eq_false', Int.not_lt, Int.not_le, ne_eq, reduceCtorEq, not_true_eq_false, not_false_eq_true, Decidable.not_not] at hc) <;> (try (exfalso; omega)) <;> (try refine W_norm rfl ?_))
            | refine W_skip ?_
            | refine W_block ?_
          )
          | refine seqK_n ?_
          | refine blockK_n ?_
          | refine invK_n ?_)
        refine ⟨_, ?_, _, ⟨p + 1, r + (linesP N (Q.getD p [])).length, rfl, rfl, ?_, ?_, ?_, hs.drop 0⟩, EnvB.of rfl⟩
        · omega
        · omega
        · exact hrs.symm
        · omega
      · obtain rfl : p = pn := by omega
        have hr' := hr.out
        rw [hro] at hr'
        clear hr
        have hsv : p + 1 < Q.length → ¬ ((ints SS).getD ((p : Int) + 1).toNat (intEl .i64).dflt ≤ (Y : Int)) := by
          intro hq
          have hl3 : p + 1 < SS.length := by omega
          have := hst4 (p + 1) _ (by omega) (List.getElem?_eq_getElem hl3)
          have e := ints_getD (List.getElem?_eq_getElem hl3)
          rw [show ((p : Int) + 1).toNat = p + 1 by omega, show (intEl .i64).dflt = 0 from rfl, e]; omega
        repeat' (first
          | (refine K_ops ?_; first
            | refine W_fastB rfl ?_
            | refine W_nil ?_
            | (refine K_guard ?_; first
              | refine W_guard_on rfl ?_
              | refine W_guard_off rfl rfl (W_norm rfl ?_)
              | (refine W_guardT rfl (fun hc => ?_) (fun hc => ?_) <;> (try rw [hc]) <;> (try simp only [decide_eq_true_eq, decide_eq_false_iff_not, beq_iff_eq, beq_eq_false_iff_ne, bne_iff_ne, bne_eq_false_iff_eq, Bool.not_eq_true', Bool.not_eq_false', Int.not_lt, Int.not_le, ne_eq, reduceCtorEq, not_true_eq_false, not_false_eq_true, Decidable.not_not] at hc) <;> (try (exfalso; omega)) <;> (try refine W_norm rfl ?_))
            )
            | (refine W_lenL rfl (by first | assumption | exact SlR.ln (by assumption) | exact AccS.ln (by assumption) | exact OwnS.ln (by assumption) | exact VwO.ln (by assumption) | exact OwnP.ln (by assumption) | exact Len.sl) ?_; refine W_norm rfl ?_)
            | (refine K_bin ?_; first
              | (refine W_add rfl rfl (IntWalk.i64_in _ (by first | omega | (simp only [List.length_set, List.length_append, List.length_take, List.length_drop, List.length_replicate, List.length_cons, List.length_nil, decs_length, List.length_map]; omega))) ?_; refine W_norm rfl ?_)
            )
            | (refine K_pick ?_; first
              | refine W_pick_t rfl rfl (W_norm rfl ?_)
              | refine W_pick_f rfl rfl (W_norm rfl ?_)
            )
            | (refine K_index ?_; first
              | (refine W_indexR rfl rfl (by assumption) rfl ⟨(by first | omega | (simp only [List.length_set, List.length_append, List.length_take, List.length_drop, List.length_replicate, List.length_cons, List.length_nil, decs_length, List.length_map]; omega)), (by first | omega | (simp only [List.length_set, List.length_append, List.length_take, List.length_drop, List.length_replicate, List.length_cons, List.length_nil, decs_length, List.length_map]; omega))⟩ ?_; intro _ _ _; refine W_norm rfl ?_)
            )
            | (refine K_load ?_; first
              | (refine W_loadR hs rfl (by assumption) rfl ?_; refine W_norm rfl ?_)
            )
          )
          | (refine K_code ?_; first
            | refine W_seq ?_
            | refine W_ops ?_
            | refine W_cond_f rfl ?_
            | (refine W_cond rfl (fun hc => ?_) (fun hc => ?_) <;> (try rw [hc]) <;> (try simp only [decide_eq_true_eq, decide_eq_false_iff_not, beq_iff_eq, beq_eq_false_iff_ne, bne_iff_ne, bne_eq_false_iff_eq, Bool.not_eq_true', Bool.not_eq_false', Int.not_lt, Int.not_le, ne_eq, reduceCtorEq, not_true_eq_false, not_false_eq_true, Decidable.not_not] at hc) <;> (try (exfalso; omega)) <;> (try refine W_norm rfl ?_))
            | refine W_exit ?_
          )
          | refine seqK_n ?_
          | refine seqK_x ?_
          | refine blockK_e ?_
          | refine invK_x ?_
          | refine midK_n ?_)
        all_goals
          refine ⟨_, ⟨r, rfl, ?_, hr2, hs⟩, EnvB.of rfl⟩
          exact hr'
    clear hs
    rintro _ us _ h3 ⟨r, rfl, hr', hr2, hs⟩ he
    refine W_spell he rfl ?_
    clear he
    repeat' (first
      | (refine K_ops ?_; first
        | refine W_fastB rfl ?_
        | refine W_nil ?_
        | (refine K_guard ?_; first
          | refine W_guard_on rfl ?_
          | refine W_guard_off rfl rfl (W_norm rfl ?_)
          | (refine W_guardT rfl (fun hc => ?_) (fun hc => ?_) <;> (try rw [hc]) <;> (try simp only [decide_eq_true_eq, decide_eq_false_iff_not, beq_iff_eq, beq_eq_false_iff_ne, bne_iff_ne, bne_eq_false_iff_eq, Bool.not_eq_true', Bool.not_eq_false', Int.not_lt, Int.not_le, ne_eq, reduceCtorEq, not_true_eq_false, not_false_eq_true, Decidable.not_not] at hc) <;> (try (exfalso; omega)) <;> (try refine W_norm rfl ?_))
        )
        | (refine K_call ?_; first
          | (refine W_callsN 26 rfl (w26 (l := atH G Y) (L := atC G Y) hrn (by omega)) rfl ?_; rintro _ h3 ⟨rfl, t⟩; replace hs := hs.call t; try simp only [cell_back, attr_back, List.set_cons_zero, List.set_cons_succ, List.eraseIdx_cons_succ, List.eraseIdx_zero, List.tail_cons, List.nil_append, List.cons_append] at hs; refine W_norm rfl ?_)
        )
        | (refine W_lenL rfl (by first | assumption | exact SlR.ln (by assumption) | exact AccS.ln (by assumption) | exact OwnS.ln (by assumption) | exact VwO.ln (by assumption) | exact OwnP.ln (by assumption) | exact Len.sl) ?_; refine W_norm rfl ?_)
        | (refine K_bin ?_; first
          | (refine W_sub rfl rfl (IntWalk.i64_in _ (by first | omega | (simp only [List.length_set, List.length_append, List.length_take, List.length_drop, List.length_replicate, List.length_cons, List.length_nil, decs_length, List.length_map]; omega))) ?_; refine W_norm rfl ?_)
        )
        | (refine K_pick ?_; first
          | refine W_pick_t rfl rfl (W_norm rfl ?_)
          | refine W_pick_f rfl rfl (W_norm rfl ?_)
        )
        | (refine K_index ?_; first
          | (refine W_indexR rfl rfl (by assumption) rfl ⟨(by first | omega | (simp only [List.length_set, List.length_append, List.length_take, List.length_drop, List.length_replicate, List.length_cons, List.length_nil, decs_length, List.length_map]; omega)), (by first | omega | (simp only [List.length_set, List.length_append, List.length_take, List.length_drop, List.length_replicate, List.length_cons, List.length_nil, decs_length, List.length_map]; omega))⟩ ?_; intro _ _ _; refine W_norm rfl ?_)
        )
        | (refine K_load ?_; first
          | (refine W_loadRF hs rfl (by assumption) rfl ?_; refine W_norm rfl ?_)
          | (refine W_loadRA hs rfl (by assumption) rfl ?_; refine W_norm rfl ?_)
        )
      )
      | (refine K_code ?_; first
        | (refine W_midB (a := .seq (.ops m11_r13) (.cond (.t 99) (.ops m11_r14) .skip)) [2, 79, 80, 81, 82, 83, 84, 85, 86, 87, 88, 89, 90, 91, 92, 93, 94, 95, 96, 97, 98, 99, 100, 101, 102, 103, 104] [0, 1, 2, 3, 4, 5, 6, 7, 8, 9, 10, 11, 12, 13, 14, 15, 16, 17, 18, 19, 20, 21, 22, 23, 24, 25, 26, 27, 28, 29, 30, 31, 32, 33, 34, 35, 36, 37, 38, 39, 40, 41, 42, 43, 44, 45, 46, 47, 48, 49, 50, 51, 52, 53, 54, 55, 56, 57, 58, 59, 60, 61, 62, 63, 64, 65, 66, 67, 68, 69, 70, 71, 72, 73, 74, 75, 76, 77, 78, 79, 80, 81, 82, 83, 84, 85, 86, 87, 88, 89, 90, 91, 92, 93, 94, 95, 96, 97, 98, 99, 100, 101, 102, 103, 104, 105, 106, 107, 108, 109, 110, 111, 112, 113, 114, 115, 116, 117, 118, 119, 120, 121, 122, 123, 124, 125, 126, 127, 128, 129, 130, 131, 132, 133, 134, 135, 136, 137, 138, 139, 140, 141, 142, 143, 144, 145, 146, 147, 148, 149, 150, 151, 152, 153, 154, 155, 156, 157, 158, 159, 160, 161, 162, 163, 164, 165, 166, 167, 168, 169, 170, 171, 172, 173, 174, 175, 176, 177, 178, 179, 180, 181, 182, 183, 184, 185] (fun sl h' => ∃ (c3' : Int), sl = [(2, .sc (.int .i64 c3'))] ∧ c3' = (C : Int) ∧ Sep ((Now h1).add c3) [] h') ?_ ?_)
        | refine W_seq ?_
        | refine W_ops ?_
        | refine W_cond_f rfl ?_
        | (refine W_cond rfl (fun hc => ?_) (fun hc => ?_) <;> (try rw [hc]) <;> (try simp only [decide_eq_true_eq, decide_eq_false_iff_not, beq_iff_eq, beq_eq_false_iff_ne, bne_iff_ne, bne_eq_false_iff_eq, Bool.not_eq_true', Bool.not_eq_false', Int.not_lt, Int.not_le, ne_eq, reduceCtorEq, not_true_eq_false, not_false_eq_true, Decidable.not_not] at hc) <;> (try (exfalso; omega)) <;> (try refine W_norm rfl ?_))
        | refine W_skip ?_
      )
      | refine seqK_n ?_
      | refine midK_n ?_)
    all_goals first
      | (refine ⟨_, ⟨_, rfl, ?_, hs⟩, EnvB.of rfl⟩; rw [hcap, if_pos ⟨by assumption, by omega⟩]; omega)
      | (refine ⟨_, ⟨_, rfl, ?_, hs⟩, EnvB.of rfl⟩; rw [hcap, if_neg (fun k => by have := k.2; omega)]; omega)
      | (refine ⟨_, ⟨_, rfl, ?_, hs⟩, EnvB.of rfl⟩; rw [hcap, if_neg (fun k => by rw [(by assumption : (atH G Y).j = false)] at k; simp at k)]; omega)
      | skip
    clear hs
    rintro _ us _ h3 ⟨_, rfl, rfl, hs⟩ he
    refine W_spell he rfl ?_
    clear he
    have hSp : (ints SS).getD (pn : Int).toNat (intEl .i64).dflt = (f : Int) := ints_getD hst1
    have hfl : f ≤ Y := by rw [← hff]; exact firstL_le _ _
    have hrowp : SlR cellE ((Now h1).add c3) ((P.map Prod.fst).getD pn .nils) (headP (G.map lnOf) Y) := by
      have := hPr.row (i := pn) (by omega)
      rw [hPe, List.getD_eq_getElem?_getD (l := Q), hpa1] at this
      exact this
    have hhl : (headP (G.map lnOf) Y).length ≤ 10000000000 := by
      have := hQl pn hpq
      rw [List.getD_eq_getElem?_getD, hpa1] at this; exact this
    repeat' (first
      | (refine K_ops ?_; first
        | refine W_fastB rfl ?_
        | refine W_nil ?_
        | (refine K_index ?_; first
          | (refine W_indexR rfl rfl (by assumption) rfl ⟨(by first | omega | (simp only [List.length_set, List.length_append, List.length_take, List.length_drop, List.length_replicate, List.length_cons, List.length_nil, decs_length, List.length_map]; omega)), (by first | omega | (simp only [List.length_set, List.length_append, List.length_take, List.length_drop, List.length_replicate, List.length_cons, List.length_nil, decs_length, List.length_map]; omega))⟩ ?_; intro _ _ _; refine W_norm rfl ?_)
        )
        | (refine K_load ?_; first
          | (refine W_loadR hs rfl (by assumption) rfl ?_; refine W_norm rfl ?_)
        )
      )
      | (refine K_code ?_; first
        | (refine W_midB (a := .seq (.ops m11_r16) (.block 2 (.loop m11_l17))) [16, 17, 105, 106, 107, 108, 109, 110, 111, 112, 113, 114, 115, 116, 117, 118, 119, 120] [0, 1, 2, 3, 4, 5, 6, 7, 8, 9, 10, 11, 12, 13, 14, 15, 16, 17, 18, 19, 20, 21, 22, 23, 24, 25, 26, 27, 28, 29, 30, 31, 32, 33, 34, 35, 36, 37, 38, 39, 40, 41, 42, 43, 44, 45, 46, 47, 48, 49, 50, 51, 52, 53, 54, 55, 56, 57, 58, 59, 60, 61, 62, 63, 64, 65, 66, 67, 68, 69, 70, 71, 72, 73, 74, 75, 76, 77, 78, 79, 80, 81, 82, 83, 84, 85, 86, 87, 88, 89, 90, 91, 92, 93, 94, 95, 96, 97, 98, 99, 100, 101, 102, 103, 104, 105, 106, 107, 108, 109, 110, 111, 112, 113, 114, 115, 116, 117, 118, 119, 120, 121, 122, 123, 124, 125, 126, 127, 128, 129, 130, 131, 132, 133, 134, 135, 136, 137, 138, 139, 140, 141, 142, 143, 144, 145, 146, 147, 148, 149, 150, 151, 152, 153, 154, 155, 156, 157, 158, 159, 160, 161, 162, 163, 164, 165, 166, 167, 168, 169, 170, 171, 172, 173, 174, 175, 176, 177, 178, 179, 180, 181, 182, 183, 184, 185] (fun sl h' => ∃ (a : Nat), sl = [(16, .sc (.int .i64 (a : Int)))] ∧ a = aheadL (G.map lnOf) Y ∧ a ≤ 10000000000 ∧ Sep ((Now h1).add c3) [] h') ?_ ?_)
        | refine W_seq ?_
        | refine W_ops ?_
        | refine W_block ?_
      )
      | refine seqK_n ?_)
    · refine W_loopB [16, 17, 109, 110, 111, 112, 113, 114, 115, 116, 117, 118, 119, 120] [0, 1, 2, 3, 4, 5, 6, 7, 8, 9, 10, 11, 12, 13, 14, 15, 16, 17, 18, 19, 20, 21, 22, 23, 24, 25, 26, 27, 28, 29, 30, 31, 32, 33, 34, 35, 36, 37, 38, 39, 40, 41, 42, 43, 44, 45, 46, 47, 48, 49, 50, 51, 52, 53, 54, 55, 56, 57, 58, 59, 60, 61, 62, 63, 64, 65, 66, 67, 68, 69, 70, 71, 72, 73, 74, 75, 76, 77, 78, 79, 80, 81, 82, 83, 84, 85, 86, 87, 88, 89, 90, 91, 92, 93, 94, 95, 96, 97, 98, 99, 100, 101, 102, 103, 104, 105, 106, 107, 108, 109, 110, 111, 112, 113, 114, 115, 116, 117, 118, 119, 120, 121, 122, 123, 124, 125, 126, 127, 128, 129, 130, 131, 132, 133, 134, 135, 136, 137, 138, 139, 140, 141, 142, 143, 144, 145, 146, 147, 148, 149, 150, 151, 152, 153, 154, 155, 156, 157, 158, 159, 160, 161, 162, 163, 164, 165, 166, 167, 168, 169, 170, 171, 172, 173, 174, 175, 176, 177, 178, 179, 180, 181, 182, 183, 184, 185] (fun n' sl h' => ∃ (i a : Nat) (k : Int), sl = [(16, .sc (.int .i64 (a : Int))), (17, .sc (.int .i64 k))] ∧ n' = Y - i ∧ k = (i : Int) ∧ f ≤ i ∧ i ≤ Y ∧ Hid (a = ((((G.map lnOf).take i).drop f).map countL).sum) ∧ a ≤ 100000 * i ∧ Sep ((Now h1).add c3) [] h') ?_ ?_
      · refine ⟨_, _, ⟨f, 0, _, rfl, rfl, hSp, Nat.le_refl _, hfl, (by show _ = _; rw [List.drop_of_length_le (by rw [List.length_take]; omega)]; rfl), Nat.zero_le _, hs⟩, EnvB.of rfl⟩
      clear hs
      rintro _ _ us _ h4 ⟨i, a, _, rfl, rfl, rfl, hfi, hiY, ha, hab, hs⟩ he
      refine W_spell he rfl ?_
      clear he
      unfold m11_l17
      by_cases hlt2 : i < Y
      · have hiG : i < G.length := by omega
        have hrowi := hvr.at hiG
        have hrli := atC_len hl2 hiG
        have hrni := hrowi.ln
        have hcnti : countL ⟨atC G i, (atH G i).j, (atH G i).s⟩ ≤ (atC G i).length := countL_le _
        have hsf := sum_from hfi hiG
        rw [← ha.out] at hsf
        repeat' (first
          | (refine K_ops ?_; first
            | refine W_fastB rfl ?_
            | refine W_nil ?_
            | (refine K_call ?_; first
              | (refine W_callsN 26 rfl (w26 (l := atH G i) (L := atC G i) hrni (by omega)) rfl ?_; rintro _ h3 ⟨rfl, t⟩; replace hs := hs.call t; try simp only [cell_back, attr_back, List.set_cons_zero, List.set_cons_succ, List.eraseIdx_cons_succ, List.eraseIdx_zero, List.tail_cons, List.nil_append, List.cons_append] at hs; refine W_norm rfl ?_)
            )
            | (refine K_bin ?_; first
              | (refine W_add rfl rfl (IntWalk.i64_in _ (by first | omega | (simp only [List.length_set, List.length_append, List.length_take, List.length_drop, List.length_replicate, List.length_cons, List.length_nil, decs_length, List.length_map]; omega))) ?_; refine W_norm rfl ?_)
            )
            | (refine K_index ?_; first
              | (refine W_indexR rfl rfl (by assumption) rfl ⟨(by first | omega | (simp only [List.length_set, List.length_append, List.length_take, List.length_drop, List.length_replicate, List.length_cons, List.length_nil, decs_length, List.length_map]; omega)), (by first | omega | (simp only [List.length_set, List.length_append, List.length_take, List.length_drop, List.length_replicate, List.length_cons, List.length_nil, decs_length, List.length_map]; omega))⟩ ?_; intro _ _ _; refine W_norm rfl ?_)
            )
            | (refine K_load ?_; first
              | (refine W_loadRA hs rfl (by assumption) rfl ?_; refine W_norm rfl ?_)
            )
          )
          | (refine K_code ?_; first
            | refine W_seq ?_
            | refine W_ops ?_
            | (refine W_cond rfl (fun hc => ?_) (fun hc => ?_) <;> (try rw [hc]) <;> (try simp only [decide_eq_true_eq, decide_eq_false_iff_not, beq_iff_eq, beq_eq_false_iff_ne, bne_iff_ne, bne_eq_false_iff_eq, Bool.not_eq_true', Bool.not_eq_false', Int.not_lt, Int.not_le, ne_eq, reduceCtorEq, not_true_eq_false, not_false_eq_true, Decidable.not_not] at hc) <;> (try (exfalso; omega)) <;> (try refine W_norm rfl ?_))
            | refine W_skip ?_
            | refine W_block ?_
          )
          | refine seqK_n ?_
          | refine blockK_n ?_
          | refine invK_n ?_)
        refine ⟨_, ?_, _, ⟨i + 1, a + countL ⟨atC G i, (atH G i).j, (atH G i).s⟩, _, rfl, rfl, rfl, ?_, ?_, ?_, ?_, hs⟩, EnvB.of rfl⟩
        · omega
        · omega
        · omega
        · exact hsf.symm
        · omega
      · obtain rfl : i = Y := by omega
        repeat' (first
          | (refine K_ops ?_; first
            | refine W_fastB rfl ?_
            | refine W_nil ?_
          )
          | (refine K_code ?_; first
            | refine W_seq ?_
            | refine W_ops ?_
            | (refine W_cond rfl (fun hc => ?_) (fun hc => ?_) <;> (try rw [hc]) <;> (try simp only [decide_eq_true_eq, decide_eq_false_iff_not, beq_iff_eq, beq_eq_false_iff_ne, bne_iff_ne, bne_eq_false_iff_eq, Bool.not_eq_true', Bool.not_eq_false', Int.not_lt, Int.not_le, ne_eq, reduceCtorEq, not_true_eq_false, not_false_eq_true, Decidable.not_not] at hc) <;> (try (exfalso; omega)) <;> (try refine W_norm rfl ?_))
            | refine W_exit ?_
          )
          | refine seqK_n ?_
          | refine seqK_x ?_
          | refine blockK_e ?_
          | refine invK_x ?_
          | refine midK_n ?_)
        refine ⟨_, ⟨_, rfl, ?_, ?_, hs⟩, EnvB.of rfl⟩
        · rw [ha.out]; unfold aheadL; rw [hff]
        · omega
    clear hs
    rintro _ us _ h4 ⟨a, rfl, ha, hab, hs⟩ he
    refine W_spell he rfl ?_
    clear he
    have hpl := place_ref (l := G.map lnOf) (x := C) (y := Y) hN2
    rw [← ha, hff, ← hr'] at hpl
    rw [hpl]
    clear hpl hcap hst1 hst2 hst3 hst4 hpa1 hpa2 hro hr' hc2
    generalize hHH : headP (G.map lnOf) Y = H at *
    have hpos : ∀ k, k < H.length → ∃ x1 x2 : Nat, (posGo N 0 0 H).getD k (0, 0) = (x1, x2) ∧ (posI (posGo N 0 0 H)).getD k pairE.dflt = ((x1 : Int), (x2 : Int)) ∧ x1 < N ∧ x2 ≤ 10000000000 := by
      intro k hk
      have h1 : k < (posGo N 0 0 H).length := by rw [posGo_len]; exact hk
      have h2 := posGo_bound N (by omega) H 0 0 (Nat.zero_le _) _ (getD_mem (d := (0, 0)) h1)
      exact ⟨_, _, rfl, posI_getD h1, h2.1, Nat.le_trans h2.2 (by omega)⟩
    by_cases hlt3 : C + a < H.length
    · rw [if_pos hlt3]
      obtain ⟨x1, x2, q1, q2, q3, q4⟩ := hpos (C + a) hlt3
      rw [q1]
      have q5 : ((posI (posGo N 0 0 H)).getD ((a : Int) + (C : Int)).toNat pairE.dflt).fst = (x1 : Int) ∧ ((posI (posGo N 0 0 H)).getD ((a : Int) + (C : Int)).toNat pairE.dflt).snd = (x2 : Int) := by
        rw [show ((a : Int) + (C : Int)).toNat = C + a by omega, q2]; exact ⟨rfl, rfl⟩
      obtain ⟨q5, q6⟩ := q5
      repeat' (first
        | (refine K_ops ?_; first
          | refine W_fastB rfl ?_
          | refine W_nil ?_
          | (refine K_call ?_; first
            | (refine W_callsN 25 rfl (w25 (SlR.now hs hrowp) hhl hw) rfl ?_; rintro _ h4 ⟨u5, u6, c5, rfl, hn5, hp5, t⟩; replace hs := hs.call t; try simp only [cell_back, attr_back, List.set_cons_zero, List.set_cons_succ, List.eraseIdx_cons_succ, List.eraseIdx_zero, List.tail_cons, List.nil_append, List.cons_append] at hs; rw [Int.toNat_natCast] at hn5 hp5; replace hs := hs.freeze 0 rfl; simp only [List.eraseIdx_zero, List.tail_cons] at hs; have hp5r := hp5.mono (InP.add ((Now h1).add c3) c5); have hp5n := hp5r.ln; rw [posI_len, posGo_len] at hp5n; have hp5l : (posI (posGo N 0 0 (H))).length = (H).length := (by rw [posI_len, posGo_len]); refine W_norm rfl ?_)
          )
          | (refine W_lenL rfl (by first | assumption | exact SlR.ln (by assumption) | exact AccS.ln (by assumption) | exact OwnS.ln (by assumption) | exact VwO.ln (by assumption) | exact OwnP.ln (by assumption) | exact Len.sl) ?_; refine W_norm rfl ?_)
          | (refine K_bin ?_; first
            | (refine W_add rfl rfl (IntWalk.i64_in _ (by first | omega | (simp only [List.length_set, List.length_append, List.length_take, List.length_drop, List.length_replicate, List.length_cons, List.length_nil, decs_length, List.length_map]; omega))) ?_; refine W_norm rfl ?_)
            | (refine W_sub rfl rfl (IntWalk.i64_in _ (by first | omega | (simp only [List.length_set, List.length_append, List.length_take, List.length_drop, List.length_replicate, List.length_cons, List.length_nil, decs_length, List.length_map]; omega))) ?_; refine W_norm rfl ?_)
          )
          | (refine K_index ?_; first
            | (refine W_indexR rfl rfl (by assumption) rfl ⟨(by first | omega | (simp only [List.length_set, List.length_append, List.length_take, List.length_drop, List.length_replicate, List.length_cons, List.length_nil, decs_length, List.length_map]; omega)), (by first | omega | (simp only [List.length_set, List.length_append, List.length_take, List.length_drop, List.length_replicate, List.length_cons, List.length_nil, decs_length, List.length_map]; omega))⟩ ?_; intro _ _ _; refine W_norm rfl ?_)
          )
          | (refine K_load ?_; first
            | (refine W_loadR hs rfl (by assumption) rfl ?_; refine W_norm rfl ?_)
            | (refine W_loadRA hs rfl (by assumption) rfl ?_; refine W_norm rfl ?_)
            | (refine W_loadC hs 0 rfl rfl rfl ?_; refine W_norm rfl ?_)
          )
          | (refine K_store ?_; first
            | (refine W_storeC hs 0 rfl rfl rfl rfl (by first | decide | assumption) rfl rfl ?_; clear hs; intro _ hs; try simp only [cell_back, attr_back, List.set_cons_zero, List.set_cons_succ, List.eraseIdx_cons_succ, List.eraseIdx_zero, List.tail_cons, List.nil_append, List.cons_append] at hs; refine W_norm rfl ?_)
          )
          | (refine W_allocS hs ?_; clear hs; intro al _ hs; try simp only [cell_back, attr_back, List.set_cons_zero, List.set_cons_succ, List.eraseIdx_cons_succ, List.eraseIdx_zero, List.tail_cons, List.nil_append, List.cons_append] at hs; refine W_norm rfl ?_)
          | refine W_indexArr rfl rfl ⟨by omega, by omega⟩ (W_norm rfl ?_)
        )
        | (refine K_code ?_; first
          | refine W_seq ?_
          | refine W_ops ?_
          | (refine W_cond rfl (fun hc => ?_) (fun hc => ?_) <;> (try rw [hc]) <;> (try simp only [decide_eq_true_eq, decide_eq_false_iff_not, beq_iff_eq, beq_eq_false_iff_ne, bne_iff_ne, bne_eq_false_iff_eq, Bool.not_eq_true', Bool.not_eq_false', Int.not_lt, Int.not_le, ne_eq, reduceCtorEq, not_true_eq_false, not_false_eq_true, Decidable.not_not] at hc) <;> (try (exfalso; omega)) <;> (try refine W_norm rfl ?_))
          | refine W_ret ?_
          | refine W_draw rfl ?_
        )
        | refine seqK_n ?_
        | refine seqK_r ?_
        | (refine fnK_r rfl ?_; try dsimp only [gd_z, gd_s]))
      refine ⟨_, rfl, tup2 ?_ ?_, hs.unadd.unadd.none⟩
      · exact q5
      · show (r : Int) + _ = _
        rw [q6]; show _ = ((x2 + r : Nat) : Int); omega
    · rw [if_neg hlt3]
      have hlp : 1 ≤ (linesP N H).length := by
        rcases Nat.eq_zero_or_pos (linesP N H).length with h0 | h0
        · exact absurd (List.eq_nil_of_length_eq_zero h0) (linesGo_ne _ _ _)
        · exact h0
      have hlp2 : (linesP N H).length ≤ 10000000001 := by have := linesGo_le N H []; unfold linesP; omega
      by_cases hne : H = []
      · rw [if_pos hne]
        have hH0 : H.length = 0 := by rw [hne]; rfl
        repeat' (first
          | (refine K_ops ?_; first
            | refine W_fastB rfl ?_
            | refine W_nil ?_
            | (refine K_call ?_; first
              | (refine W_callsN 25 rfl (w25 (SlR.now hs hrowp) hhl hw) rfl ?_; rintro _ h4 ⟨u5, u6, c5, rfl, hn5, hp5, t⟩; replace hs := hs.call t; try simp only [cell_back, attr_back, List.set_cons_zero, List.set_cons_succ, List.eraseIdx_cons_succ, List.eraseIdx_zero, List.tail_cons, List.nil_append, List.cons_append] at hs; rw [Int.toNat_natCast] at hn5 hp5; replace hs := hs.freeze 0 rfl; simp only [List.eraseIdx_zero, List.tail_cons] at hs; have hp5r := hp5.mono (InP.add ((Now h1).add c3) c5); have hp5n := hp5r.ln; rw [posI_len, posGo_len] at hp5n; have hp5l : (posI (posGo N 0 0 (H))).length = (H).length := (by rw [posI_len, posGo_len]); refine W_norm rfl ?_)
            )
            | (refine W_lenL rfl (by first | assumption | exact SlR.ln (by assumption) | exact AccS.ln (by assumption) | exact OwnS.ln (by assumption) | exact VwO.ln (by assumption) | exact OwnP.ln (by assumption) | exact Len.sl) ?_; refine W_norm rfl ?_)
            | (refine K_bin ?_; first
              | (refine W_add rfl rfl (IntWalk.i64_in _ (by first | omega | (simp only [List.length_set, List.length_append, List.length_take, List.length_drop, List.length_replicate, List.length_cons, List.length_nil, decs_length, List.length_map]; omega))) ?_; refine W_norm rfl ?_)
              | (refine W_sub rfl rfl (IntWalk.i64_in _ (by first | omega | (simp only [List.length_set, List.length_append, List.length_take, List.length_drop, List.length_replicate, List.length_cons, List.length_nil, decs_length, List.length_map]; omega))) ?_; refine W_norm rfl ?_)
            )
            | (refine K_index ?_; first
              | (refine W_indexR rfl rfl (by assumption) rfl ⟨(by first | omega | (simp only [List.length_set, List.length_append, List.length_take, List.length_drop, List.length_replicate, List.length_cons, List.length_nil, decs_length, List.length_map]; omega)), (by first | omega | (simp only [List.length_set, List.length_append, List.length_take, List.length_drop, List.length_replicate, List.length_cons, List.length_nil, decs_length, List.length_map]; omega))⟩ ?_; intro _ _ _; refine W_norm rfl ?_)
            )
            | (refine K_load ?_; first
              | (refine W_loadR hs rfl (by assumption) rfl ?_; refine W_norm rfl ?_)
            )
          )
          | (refine K_code ?_; first
            | refine W_seq ?_
            | refine W_ops ?_
            | (refine W_cond rfl (fun hc => ?_) (fun hc => ?_) <;> (try rw [hc]) <;> (try simp only [decide_eq_true_eq, decide_eq_false_iff_not, beq_iff_eq, beq_eq_false_iff_ne, bne_iff_ne, bne_eq_false_iff_eq, Bool.not_eq_true', Bool.not_eq_false', Int.not_lt, Int.not_le, ne_eq, reduceCtorEq, not_true_eq_false, not_false_eq_true, Decidable.not_not] at hc) <;> (try (exfalso; omega)) <;> (try refine W_norm rfl ?_))
            | refine W_skip ?_
            | refine W_ret ?_
          )
          | refine seqK_n ?_
          | refine seqK_r ?_
          | (refine fnK_r rfl ?_; try dsimp only [gd_z, gd_s]))
        all_goals exact ⟨_, rfl, tup2 (by omega) (by omega), hs.unadd.unadd.none⟩
      · rw [if_neg hne]
        have hH1 : 0 < H.length := List.length_pos_iff.2 hne
        obtain ⟨x1, x2, q1, q2, q3, q4⟩ := hpos (H.length - 1) (by omega)
        rw [q1]
        have q5 : ((posI (posGo N 0 0 H)).getD ((H.length : Int) - 1).toNat pairE.dflt).fst = (x1 : Int) := by
          rw [show ((H.length : Int) - 1).toNat = H.length - 1 by omega, q2]
        repeat' (first
          | (refine K_ops ?_; first
            | refine W_fastB rfl ?_
            | refine W_nil ?_
            | (refine K_call ?_; first
              | (refine W_callsN 25 rfl (w25 (SlR.now hs hrowp) hhl hw) rfl ?_; rintro _ h4 ⟨u5, u6, c5, rfl, hn5, hp5, t⟩; replace hs := hs.call t; try simp only [cell_back, attr_back, List.set_cons_zero, List.set_cons_succ, List.eraseIdx_cons_succ, List.eraseIdx_zero, List.tail_cons, List.nil_append, List.cons_append] at hs; rw [Int.toNat_natCast] at hn5 hp5; replace hs := hs.freeze 0 rfl; simp only [List.eraseIdx_zero, List.tail_cons] at hs; have hp5r := hp5.mono (InP.add ((Now h1).add c3) c5); have hp5n := hp5r.ln; rw [posI_len, posGo_len] at hp5n; have hp5l : (posI (posGo N 0 0 (H))).length = (H).length := (by rw [posI_len, posGo_len]); refine W_norm rfl ?_)
            )
            | (refine W_lenL rfl (by first | assumption | exact SlR.ln (by assumption) | exact AccS.ln (by assumption) | exact OwnS.ln (by assumption) | exact VwO.ln (by assumption) | exact OwnP.ln (by assumption) | exact Len.sl) ?_; refine W_norm rfl ?_)
            | (refine K_bin ?_; first
              | (refine W_add rfl rfl (IntWalk.i64_in _ (by first | omega | (simp only [List.length_set, List.length_append, List.length_take, List.length_drop, List.length_replicate, List.length_cons, List.length_nil, decs_length, List.length_map]; omega))) ?_; refine W_norm rfl ?_)
              | (refine W_sub rfl rfl (IntWalk.i64_in _ (by first | omega | (simp only [List.length_set, List.length_append, List.length_take, List.length_drop, List.length_replicate, List.length_cons, List.length_nil, decs_length, List.length_map]; omega))) ?_; refine W_norm rfl ?_)
            )
            | (refine K_index ?_; first
              | (refine W_indexR rfl rfl (by assumption) rfl ⟨(by first | omega | (simp only [List.length_set, List.length_append, List.length_take, List.length_drop, List.length_replicate, List.length_cons, List.length_nil, decs_length, List.length_map]; omega)), (by first | omega | (simp only [List.length_set, List.length_append, List.length_take, List.length_drop, List.length_replicate, List.length_cons, List.length_nil, decs_length, List.length_map]; omega))⟩ ?_; intro _ _ _; refine W_norm rfl ?_)
            )
            | (refine K_load ?_; first
              | (refine W_loadR hs rfl (by assumption) rfl ?_; refine W_norm rfl ?_)
            )
            | refine W_indexArr rfl rfl ⟨by omega, by omega⟩ (W_norm rfl ?_)
          )
          | (refine K_code ?_; first
            | refine W_seq ?_
            | refine W_ops ?_
            | (refine W_cond rfl (fun hc => ?_) (fun hc => ?_) <;> (try rw [hc]) <;> (try simp only [decide_eq_true_eq, decide_eq_false_iff_not, beq_iff_eq, beq_eq_false_iff_ne, bne_iff_ne, bne_eq_false_iff_eq, Bool.not_eq_true', Bool.not_eq_false', Int.not_lt, Int.not_le, ne_eq, reduceCtorEq, not_true_eq_false, not_false_eq_true, Decidable.not_not] at hc) <;> (try (exfalso; omega)) <;> (try refine W_norm rfl ?_))
            | refine W_skip ?_
            | refine W_ret ?_
          )
          | refine seqK_n ?_
          | refine seqK_r ?_
          | (refine fnK_r rfl ?_; try dsimp only [gd_z, gd_s]))
        all_goals exact ⟨_, rfl, tup2 (by omega) (by omega), hs.unadd.unadd.none⟩
  · by_cases hw : okW w
    · obtain ⟨hw1, hw2⟩ := hw
      rw [show placeR (G.map lnOf) w x y = (0, 0) by unfold placeR; rw [if_neg (by rw [List.length_map]; exact hok)]]
      repeat' (first
        | (refine K_ops ?_; first
          | refine W_fastB rfl ?_
          | refine W_nil ?_
          | (refine K_guard ?_; first
            | refine W_guard_on rfl ?_
            | refine W_guard_off rfl rfl (W_norm rfl ?_)
            | (refine W_guardF rfl (fun hc => ?_) (fun hc => ?_) <;> (try rw [hc]) <;> (try simp only [decide_eq_true_eq, decide_eq_false_iff_not, beq_iff_eq, beq_eq_false_iff_ne, bne_iff_ne, bne_eq_false_iff_eq, Bool.not_eq_true', Bool.not_eq_false', Int.not_lt, Int.not_le, ne_eq, reduceCtorEq, not_true_eq_false, not_false_eq_true, Decidable.not_not] at hc) <;> (try (exfalso; omega)) <;> (try refine W_norm rfl ?_))
          )
          | (refine W_lenL rfl (by first | assumption | exact SlR.ln (by assumption) | exact AccS.ln (by assumption) | exact OwnS.ln (by assumption) | exact VwO.ln (by assumption) | exact OwnP.ln (by assumption) | exact Len.sl) ?_; refine W_norm rfl ?_)
          | (refine K_pick ?_; first
            | refine W_pick_t rfl rfl (W_norm rfl ?_)
            | refine W_pick_f rfl rfl (W_norm rfl ?_)
          )
        )
        | (refine K_code ?_; first
          | refine W_seq ?_
          | refine W_ops ?_
          | refine W_cond_t rfl ?_
          | (refine W_cond rfl (fun hc => ?_) (fun hc => ?_) <;> (try rw [hc]) <;> (try simp only [decide_eq_true_eq, decide_eq_false_iff_not, beq_iff_eq, beq_eq_false_iff_ne, bne_iff_ne, bne_eq_false_iff_eq, Bool.not_eq_true', Bool.not_eq_false', Int.not_lt, Int.not_le, ne_eq, reduceCtorEq, not_true_eq_false, not_false_eq_true, Decidable.not_not] at hc) <;> (try (exfalso; omega)) <;> (try refine W_norm rfl ?_))
          | refine W_skip ?_
          | refine W_ret ?_
        )
        | refine seqK_n ?_
        | refine seqK_r ?_
        | (refine fnK_r rfl ?_; try dsimp only [gd_z, gd_s]))
      all_goals first | exact ⟨_, rfl, rfl, hs⟩ | exact absurd ⟨⟨hw1, hw2⟩, by omega, by omega, by omega⟩ hok
    · rw [show placeR (G.map lnOf) w x y = (0, 0) by unfold placeR; rw [if_neg (by rw [List.length_map]; exact hok)]]
      repeat' (first
        | (refine K_ops ?_; first
          | refine W_fastB rfl ?_
          | refine W_nil ?_
          | (refine K_guard ?_; first
            | refine W_guard_on rfl ?_
            | refine W_guard_off rfl rfl (W_norm rfl ?_)
            | (refine W_guardF rfl (fun hc => ?_) (fun hc => ?_) <;> (try rw [hc]) <;> (try simp only [decide_eq_true_eq, decide_eq_false_iff_not, beq_iff_eq, beq_eq_false_iff_ne, bne_iff_ne, bne_eq_false_iff_eq, Bool.not_eq_true', Bool.not_eq_false', Int.not_lt, Int.not_le, ne_eq, reduceCtorEq, not_true_eq_false, not_false_eq_true, Decidable.not_not] at hc) <;> (try (exfalso; omega)) <;> (try refine W_norm rfl ?_))
          )
          | (refine W_lenL rfl (by first | assumption | exact SlR.ln (by assumption) | exact AccS.ln (by assumption) | exact OwnS.ln (by assumption) | exact VwO.ln (by assumption) | exact OwnP.ln (by assumption) | exact Len.sl) ?_; refine W_norm rfl ?_)
          | (refine K_pick ?_; first
            | refine W_pick_t rfl rfl (W_norm rfl ?_)
            | refine W_pick_f rfl rfl (W_norm rfl ?_)
          )
        )
        | (refine K_code ?_; first
          | refine W_seq ?_
          | refine W_ops ?_
          | refine W_cond_t rfl ?_
          | (refine W_cond rfl (fun hc => ?_) (fun hc => ?_) <;> (try rw [hc]) <;> (try simp only [decide_eq_true_eq, decide_eq_false_iff_not, beq_iff_eq, beq_eq_false_iff_ne, bne_iff_ne, bne_eq_false_iff_eq, Bool.not_eq_true', Bool.not_eq_false', Int.not_lt, Int.not_le, ne_eq, reduceCtorEq, not_true_eq_false, not_false_eq_true, Decidable.not_not] at hc) <;> (try (exfalso; omega)) <;> (try refine W_norm rfl ?_))
          | refine W_skip ?_
          | refine W_ret ?_
        )
        | refine seqK_n ?_
        | refine seqK_r ?_
        | (refine fnK_r rfl ?_; try dsimp only [gd_z, gd_s]))
      all_goals first | exact ⟨_, rfl, rfl, hs⟩ | (exfalso; exact hw ⟨by omega, by omega⟩)
end Go.Proofs.YtllhbhhgihdakaaDoor
