/- Reflow: what the laws are handed; the law ReflowKeeps. CLNONE -/
import Derived.Test.YtllhbhhgihdakaaDoorJxW15g
import Derived.Test.YtllhbhhgihdakaaDoorJxE15
set_option linter.unusedSimpArgs false
set_option linter.unusedVariables false
set_option maxHeartbeats 4000000
set_option maxRecDepth 100000
namespace Go.Proofs.YtllhbhhgihdakaaDoor
open Go Go.Jx

theorem w9 (h : Heap) : Wc DD 9 [] h fun v h' => v = .sc (.bool true) ∧ h' = h := W_known rfl
theorem openCell {H : Heap} {l : List SV} (o : OpenL H [.int .i32, .int .u8, .int .u16, .int .u8, .int .u32, .int .u8, .int .u32] l) : ∃ a, l = cellE.enc a ∧ True := by
  simp only [OpenL, OpenS] at o
  obtain ⟨_, _, rfl, ⟨r, rfl, hr1, hr2⟩, _, _, rfl, ⟨w, rfl, hw1, hw2⟩, _, _, rfl, ⟨f, rfl, _⟩, _, _, rfl, ⟨fk, rfl, _⟩, _, _, rfl, ⟨fn, rfl, _⟩, _, _, rfl, ⟨bk, rfl, _⟩, _, _, rfl, ⟨bn, rfl, _⟩, rfl⟩ := o
  exact ⟨⟨r, w, ⟨f, fk, fn, bk, bn⟩⟩, rfl, trivial⟩
theorem lines_of {H : Heap} : ∀ {L : List LnH}, (∀ s ∈ L, ∃ X : List Cell, Sl cellE.enc cellE.n H s.v X ∧ (∀ a ∈ X, True) ∧ X.length ≤ 2 ^ 63 - 1) →
    ∃ G : List LnC, G.map Prod.fst = L ∧ (∀ g ∈ G, SlR cellE (Now H) g.1.v g.2) ∧ ∀ g ∈ G, g.2.length ≤ 2 ^ 63 - 1
  | [], _ => ⟨[], rfl, by simp, by simp⟩
  | s :: L, h => by
    obtain ⟨G, h1, h2, h4⟩ := lines_of (H := H) (L := L) (fun s hs => h s (by simp [hs]))
    obtain ⟨X, h5, h6, h7⟩ := h s (by simp)
    refine ⟨(s, X) :: G, by simp [h1], ?_, ?_⟩ <;> intro g hg <;> rcases List.mem_cons.1 hg with rfl | hg
    · exact h5
    · exact h2 g hg
    · exact h7
    · exact h4 g hg
theorem openLines {H : Heap} {v : SV} (o : OpenS H (.slice 39 3 [.slice 48 7 [.int .i32, .int .u8, .int .u16, .int .u8, .int .u32, .int .u8, .int .u32], .bool, .bool]) v) :
    ∃ G : List LnC, LnsR (Now H) v G ∧ G.length ≤ 2 ^ 63 - 1 ∧ ∀ g ∈ G, g.2.length ≤ 2 ^ 63 - 1 := by
  obtain ⟨L, h1, h2, h3⟩ := o.sl (enc := lnE.enc) (R := fun s => OpenS H (.slice 48 7 [.int .i32, .int .u8, .int .u16, .int .u8, .int .u32, .int .u8, .int .u32]) s.v) lnE.len (fun l o => by
    simp only [OpenL] at o
    obtain ⟨s, _, rfl, h, _, _, rfl, hb, _, _, rfl, hc, rfl⟩ := o
    simp only [OpenS] at hb hc
    obtain ⟨b, rfl⟩ := hb
    obtain ⟨c, rfl⟩ := hc
    exact ⟨⟨s, b, c⟩, rfl, h⟩)
  obtain ⟨G, h4, h5, h7⟩ := lines_of (H := H) (L := L) (fun s hs => (h2 s hs).sl (enc := cellE.enc) cellE.len fun l o => openCell o)
  refine ⟨G, ⟨by rw [h4]; exact h1, h5⟩, ?_, h7⟩
  rw [← h4, List.length_map] at h3; exact h3

theorem atL_of {G : List LnC} {l : List Ln} (h : G.map lnOf = l) {i : Nat} {z : Ln} (hz : l[i]? = some z) : i < G.length ∧ atL G i = z := by
  have hi : i < G.length := by
    rcases Nat.lt_or_ge i G.length with k | k
    · exact k
    · rw [← h, List.getElem?_eq_none (by rw [List.length_map]; exact k)] at hz; simp at hz
  refine ⟨hi, ?_⟩
  rw [← h, lnOf_atH hi] at hz
  exact Option.some.inj hz

theorem w8b {v : SV} {G : List LnC} {h : Heap} (hv : LnsR (Now h) v G) (hl : G.length ≤ 2 ^ 63 - 1) (hl2 : ∀ g ∈ G, g.2.length ≤ 2 ^ 63 - 1) : Wc DD 8 [.sc v] h fun w h' => ∃ b, w = bo b ∧ h' = h ∧ (b = false → G.length ≤ 60 ∧ ∀ g ∈ G, g.2.length ≤ 60) := by
  refine (w8 hv hl hl2).mono ?_
  rintro _ _ _ ⟨w, rfl, rfl, rfl | ⟨rfl, h1, h2⟩⟩
  · exact ⟨_, rfl, true, rfl, rfl, fun h => by cases h⟩
  · exact ⟨_, rfl, false, rfl, rfl, fun _ => ⟨h1, h2⟩⟩

theorem countL_cases (l : Ln) : (l.joined = true ∧ l.short = true ∧ countL l = l.cells.length - 1) ∨ ((l.joined = false ∨ l.short = false) ∧ countL l = l.cells.length) := by
  unfold countL
  cases l.joined <;> cases l.short <;> simp
theorem w6 {v : SV} {G : List LnC} {w x y : Int} {h : Heap} (hv : LnsR (Now h) v G) (hl : G.length ≤ 2 ^ 63 - 1) (hl2 : ∀ g ∈ G, g.2.length ≤ 2 ^ 63 - 1) :
    Wc DD 6 [.sc v, i64 w, i64 x, i64 y] h fun r h' => r = bo true := by
  have hs := Sep.entry h
  have hln := hv.ln
  have hv1 := hv.1
  refine W_enter d6 ?_
  show W _ (.code m6_code [.sc v, i64 w, i64 x, i64 y, undefA, undefA, undefA, undefA, undefA, undefA, undefA, undefA, undefA, undefA, undefA, undefA, undefA, undefA, undefA, undefA, undefA, undefA, undefA, undefA, undefA, undefA, undefA, undefA, undefA, undefA, undefA, undefA, undefA, undefA, undefA, undefA, undefA, undefA, undefA, undefA, undefA, undefA, undefA, undefA, undefA, undefA, undefA, undefA, undefA, undefA, undefA, undefA, undefA, undefA, undefA, undefA, undefA, undefA, undefA, undefA, undefA, undefA, undefA, undefA, undefA, undefA, undefA, undefA, undefA, undefA, undefA, undefA, undefA, undefA, undefA, undefA, undefA, undefA, undefA, undefA, undefA, undefA, undefA, undefA, undefA, undefA, undefA, undefA, undefA, undefA, undefA, undefA, undefA, undefA, undefA, undefA, undefA, undefA, undefA, undefA, undefA, undefA, undefA, undefA, undefA, undefA, undefA, undefA, undefA, undefA, undefA, undefA, undefA, undefA, undefA, undefA, undefA, undefA, undefA, undefA, undefA, undefA, undefA, undefA, undefA, undefA, undefA, undefA, undefA, undefA, undefA, undefA] _) _
  unfold m6_code
  by_cases hok : okW w ∧ 0 ≤ y ∧ y < G.length ∧ 0 ≤ x
  · obtain ⟨hw, hy, hyl, hx⟩ := hok
    obtain ⟨N, rfl⟩ : ∃ N : Nat, w = (N : Int) := ⟨w.toNat, by have := hw.1; omega⟩
    obtain ⟨X, rfl⟩ : ∃ X : Nat, x = (X : Int) := ⟨x.toNat, by omega⟩
    obtain ⟨Y, rfl⟩ : ∃ Y : Nat, y = (Y : Int) := ⟨y.toNat, by omega⟩
    have hN2 : 2 ≤ N := by have := hw.1; omega
    have hN4 : N ≤ 400 := by have := hw.2; omega
    repeat' (first
      | (refine K_ops ?_; first
        | refine W_fastB rfl ?_
        | refine W_nil ?_
        | (refine K_guard ?_; first
          | refine W_guard_on rfl ?_
          | refine W_guard_off rfl rfl (W_norm rfl ?_)
          | (refine W_guardF rfl (fun hc => ?_) (fun hc => ?_) <;> (try rw [hc]) <;> (try simp only [decide_eq_true_eq, decide_eq_false_iff_not, beq_iff_eq, beq_eq_false_iff_ne, bne_iff_ne, bne_eq_false_iff_eq, Bool.not_eq_true', Bool.not_eq_false', Int.not_lt, Int.not_le, ne_eq, reduceCtorEq, not_true_eq_false, not_false_eq_true, Decidable.not_not] at hc) <;> (try (exfalso; omega)) <;> (try refine W_norm rfl ?_))
        )
        | (refine K_call ?_; first
          | (refine W_callsN 9 rfl (w9 _) rfl ?_; rintro _ _ ⟨rfl, rfl⟩; refine W_norm rfl ?_)
          | (refine W_callsN 8 rfl (w8b (hv.now hs) hl hl2) rfl ?_; rintro _ h ⟨gb, rfl, rfl, hgb⟩; refine W_norm rfl ?_)
        )
        | (refine W_lenL rfl (by first | assumption | exact SlR.ln (by assumption) | exact AccS.ln (by assumption) | exact OwnS.ln (by assumption) | exact VwO.ln (by assumption) | exact OwnP.ln (by assumption) | exact Len.sl) ?_; refine W_norm rfl ?_)
        | (refine K_pick ?_; first
          | refine W_pick_t rfl rfl (W_norm rfl ?_)
          | refine W_pick_f rfl rfl (W_norm rfl ?_)
        )
      )
      | (refine K_code ?_; first
        | refine W_seq ?_
        | refine W_ops ?_
        | refine W_cond_t rfl ?_
        | refine W_cond_f rfl ?_
        | refine W_skip ?_
        | refine W_ret ?_
      )
      | refine seqK_n ?_
      | refine seqK_r ?_
      | (refine fnK_r rfl ?_; try dsimp only [gd_z, gd_s]))
    rotate_left 1
    all_goals first | exact ⟨_, rfl, rfl⟩ | skip
    obtain ⟨g1, g2⟩ := hgb (by assumption)
    have hYl : Y < G.length := by omega
    have g3 : ∀ g ∈ G, g.2.length ≤ 100000 := fun g hg => Nat.le_trans (g2 g hg) (by omega)
    have hm := lnOf_atH hYl
    have hrow := hv.at hYl
    have hrl := atC_len g2 hYl
    have hrn := hrow.ln
    have hpl : placeR (G.map lnOf) N X Y = placeL (G.map lnOf) N (capN (G.map lnOf) X Y) Y := by
      unfold placeR; rw [if_pos ⟨hw, hx, hy, by rw [List.length_map]; exact hyl⟩]; rfl
    obtain ⟨p1, z, p2, p3, p4⟩ := place_at (x := capN (G.map lnOf) X Y) (w := N) hN2 hm
    rw [← hpl] at p1 p2 p4
    generalize hpr : placeR (G.map lnOf) N X Y = ab at *
    obtain ⟨a, b⟩ := ab
    simp only [] at p1 p2 p4
    have hb : b < 20000000 := by
      have h1 : (linesL (G.map lnOf) N).length ≤ 61 * 60 := by
        have := linesL_count (w := N) (cells_le g2)
        rw [List.length_map] at this; omega
      rcases Nat.lt_or_ge b (linesL (G.map lnOf) N).length with k | k
      · omega
      · rw [List.getElem?_eq_none k] at p2; simp at p2
    have key : ∀ {G6 : List LnC}, atL G6 b = z → X < countL (atL G Y) → (atC G Y).getD (X : Int).toNat cellE.dflt ≠ plC → (atC G6 b).getD (a : Int).toNat cellE.dflt = (atC G Y).getD (X : Int).toNat cellE.dflt := by
      intro G6 hz hXc hne
      have hXl : X < (atC G Y).length := Nat.lt_of_lt_of_le hXc (countL_le _)
      have hc60 : countL (atL G Y) ≤ 60 := Nat.le_trans (countL_le _) hrl
      have hcap : capN (G.map lnOf) X Y = X := by
        unfold capN; rw [hm]
        simp only []
        split <;> omega
      rw [hcap] at p4
      have hce : (atL G Y).cells[X]? = some ((atC G Y).getD (X : Int).toNat cellE.dflt) := getD_get? (L := atC G Y) (d := cellE.dflt) hXl
      have hk := place_keeps hm hXc hce hne
      have hlt : X + aheadL (G.map lnOf) Y < (headP (G.map lnOf) Y).length := (List.getElem?_eq_some_iff.1 hk).1
      have := p4 hlt
      rw [hk, ← hz] at this
      show (atC G6 b).getD a cellE.dflt = _
      rw [List.getD_eq_getElem?_getD, show (atC G6 b)[a]? = _ from this]; rfl
    repeat' (first
      | (refine K_ops ?_; first
        | refine W_fastB rfl ?_
        | refine W_nil ?_
        | (refine K_guard ?_; first
          | refine W_guard_on rfl ?_
          | refine W_guard_off rfl rfl (W_norm rfl ?_)
          | (refine W_guardT rfl (fun hc => ?_) (fun hc => ?_) <;> (try rw [hc]) <;> (try simp only [decide_eq_true_eq, decide_eq_false_iff_not, beq_iff_eq, beq_eq_false_iff_ne, bne_iff_ne, bne_eq_false_iff_eq, Bool.not_eq_true', Bool.not_eq_false', Int.not_lt, Int.not_le, ne_eq, reduceCtorEq, not_true_eq_false, not_false_eq_true, Decidable.not_not] at hc) <;> (try (exfalso; omega)) <;> (try refine W_norm rfl ?_))
          | (refine W_guardF rfl (fun hc => ?_) (fun hc => ?_) <;> (try rw [hc]) <;> (try simp only [decide_eq_true_eq, decide_eq_false_iff_not, beq_iff_eq, beq_eq_false_iff_ne, bne_iff_ne, bne_eq_false_iff_eq, Bool.not_eq_true', Bool.not_eq_false', Int.not_lt, Int.not_le, ne_eq, reduceCtorEq, not_true_eq_false, not_false_eq_true, Decidable.not_not] at hc) <;> (try (exfalso; omega)) <;> (try refine W_norm rfl ?_))
        )
        | (refine K_call ?_; first
          | (refine W_callsN 9 rfl (w9 _) rfl ?_; rintro _ _ ⟨rfl, rfl⟩; refine W_norm rfl ?_)
          | (refine W_callsN 13 rfl (w13 (w := N) (hv.now hs) (by omega) g3) rfl ?_; rintro _ h3 ⟨u6, c6, G6, rfl, hG6, hG6e, t⟩; replace hs := hs.call t; try simp only [cell_back, attr_back, List.set_cons_zero, List.set_cons_succ, List.eraseIdx_cons_succ, List.eraseIdx_zero, List.tail_cons, List.nil_append, List.cons_append] at hs; have hG6n := hG6.ln; replace hs := hs.freeze 0 rfl; simp only [List.eraseIdx_zero, List.tail_cons] at hs; have hG6r := hG6.mono (InP.add (Now h) c6); have hG61 := hG6r.1; replace hG6e := hG6e.trans (if_pos hw); obtain ⟨hb6, hz6⟩ := atL_of hG6e p2; have row6 := hG6r.at hb6; have rn6 := row6.ln; have z6 : (atC G6 b).length = N := (by rw [← p3, ← hz6]); have hvr := hv.mono (Ro.le_add (Now h) c6); have hrow' := hvr.at hYl; have hvr1 := hvr.1; clear hv1 hrow; refine W_norm rfl ?_)
          | (refine W_callsN 10 rfl (w10 (w := N) (x := X) (y := Y) (hvr.now hs) (by omega) g3) rfl ?_; rintro _ h3 ⟨rfl, t⟩; replace hs := hs.call t; try simp only [cell_back, attr_back, List.set_cons_zero, List.set_cons_succ, List.eraseIdx_cons_succ, List.eraseIdx_zero, List.tail_cons, List.nil_append, List.cons_append] at hs; rw [hpr]; refine W_norm rfl ?_)
        )
        | (refine W_lenL rfl (by first | assumption | exact SlR.ln (by assumption) | exact AccS.ln (by assumption) | exact OwnS.ln (by assumption) | exact VwO.ln (by assumption) | exact OwnP.ln (by assumption) | exact Len.sl) ?_; refine W_norm rfl ?_)
        | (refine K_bin ?_; first
          | (refine W_sub rfl rfl (IntWalk.i64_in _ (by first | omega | (simp only [List.length_set, List.length_append, List.length_take, List.length_drop, List.length_replicate, List.length_cons, List.length_nil, decs_length, List.length_map]; omega))) ?_; refine W_norm rfl ?_)
          | (refine W_eqE cellE rfl rfl rfl rfl cellE_fits ?_; refine W_norm rfl ?_)
        )
        | (refine K_pick ?_; first
          | refine W_pick_t rfl rfl (W_norm rfl ?_)
          | refine W_pick_f rfl rfl (W_norm rfl ?_)
        )
        | (refine K_index ?_; first
          | (refine W_indexR rfl rfl (by assumption) rfl ⟨(by first | omega | (simp only [List.length_set, List.length_append, List.length_take, List.length_drop, List.length_replicate, List.length_cons, List.length_nil, decs_length, List.length_map]; omega)), (by first | omega | (simp only [List.length_set, List.length_append, List.length_take, List.length_drop, List.length_replicate, List.length_cons, List.length_nil, decs_length, List.length_map]; omega))⟩ ?_; intro _ _ _; refine W_norm rfl ?_)
        )
        | (refine K_load ?_; first
          | (refine W_loadR hs rfl (by assumption) rfl ?_; refine W_norm rfl ?_)
          | (refine W_loadRF hs rfl (by assumption) rfl ?_; refine W_norm rfl ?_)
          | (refine W_loadRA hs rfl (by assumption) rfl ?_; refine W_norm rfl ?_)
        )
        | (refine W_buildN rfl ?_; refine W_norm rfl ?_)
      )
      | (refine K_code ?_; first
        | refine W_seq ?_
        | refine W_ops ?_
        | refine W_cond_t rfl ?_
        | refine W_cond_f rfl ?_
        | (refine W_cond rfl (fun hc => ?_) (fun hc => ?_) <;> (try rw [hc]) <;> (try simp only [decide_eq_true_eq, decide_eq_false_iff_not, beq_iff_eq, beq_eq_false_iff_ne, bne_iff_ne, bne_eq_false_iff_eq, Bool.not_eq_true', Bool.not_eq_false', Int.not_lt, Int.not_le, ne_eq, reduceCtorEq, not_true_eq_false, not_false_eq_true, Decidable.not_not] at hc) <;> (try (exfalso; omega)) <;> (try refine W_norm rfl ?_))
        | refine W_skip ?_
        | refine W_ret ?_
        | refine W_draw rfl ?_
      )
      | refine seqK_n ?_
      | refine seqK_r ?_
      | (refine fnK_r rfl ?_; try dsimp only [gd_z, gd_s]))
    all_goals first
      | exact ⟨_, rfl, rfl⟩
      | skip
    all_goals
      exfalso
      have hn : (atC G Y).getD (X : Int).toNat cellE.dflt ≠ plC := by assumption
      refine absurd (key hz6 ?_ hn) hc
      rcases countL_cases (atL G Y) with ⟨q1, q2, q3⟩ | ⟨q1, q3⟩
      · first
          | (rw [q3]; show X < (atC G Y).length - 1; omega)
          | exact absurd (q2.symm.trans (by assumption : (atH G Y).s = false)) (by simp)
          | exact absurd (q1.symm.trans (by assumption : (atH G Y).j = false)) (by simp)
      · rw [q3]; show X < (atC G Y).length; omega
  · repeat' (first
      | (refine K_ops ?_; first
        | refine W_fastB rfl ?_
        | refine W_nil ?_
        | (refine K_guard ?_; first
          | refine W_guard_on rfl ?_
          | refine W_guard_off rfl rfl (W_norm rfl ?_)
          | (refine W_guardF rfl (fun hc => ?_) (fun hc => ?_) <;> (try rw [hc]) <;> (try simp only [decide_eq_true_eq, decide_eq_false_iff_not, beq_iff_eq, beq_eq_false_iff_ne, bne_iff_ne, bne_eq_false_iff_eq, Bool.not_eq_true', Bool.not_eq_false', Int.not_lt, Int.not_le, ne_eq, reduceCtorEq, not_true_eq_false, not_false_eq_true, Decidable.not_not] at hc) <;> (try (exfalso; omega)) <;> (try refine W_norm rfl ?_))
        )
        | (refine K_call ?_; first
          | (refine W_callsN 9 rfl (w9 _) rfl ?_; rintro _ _ ⟨rfl, rfl⟩; refine W_norm rfl ?_)
          | (refine W_callsN 8 rfl (w8b (hv.now hs) hl hl2) rfl ?_; rintro _ h ⟨gb, rfl, rfl, hgb⟩; refine W_norm rfl ?_)
        )
        | (refine W_lenL rfl (by first | assumption | exact SlR.ln (by assumption) | exact AccS.ln (by assumption) | exact OwnS.ln (by assumption) | exact VwO.ln (by assumption) | exact OwnP.ln (by assumption) | exact Len.sl) ?_; refine W_norm rfl ?_)
        | (refine K_pick ?_; first
          | refine W_pick_t rfl rfl (W_norm rfl ?_)
          | refine W_pick_f rfl rfl (W_norm rfl ?_)
        )
      )
      | (refine K_code ?_; first
        | refine W_seq ?_
        | refine W_ops ?_
        | refine W_cond_t rfl ?_
        | (refine W_cond rfl (fun hc => ?_) (fun hc => ?_) <;> (try rw [hc]) <;> (try simp only [decide_eq_true_eq, decide_eq_false_iff_not, beq_iff_eq, beq_eq_false_iff_ne, bne_iff_ne, bne_eq_false_iff_eq, Bool.not_eq_true', Bool.not_eq_false', Int.not_lt, Int.not_le, ne_eq, reduceCtorEq, not_true_eq_false, not_false_eq_true, Decidable.not_not] at hc) <;> (try (exfalso; omega)) <;> (try refine W_norm rfl ?_))
        | refine W_skip ?_
        | refine W_ret ?_
      )
      | refine seqK_n ?_
      | refine seqK_r ?_
      | (refine fnK_r rfl ?_; try dsimp only [gd_z, gd_s]))
    all_goals first | exact ⟨_, rfl, rfl⟩ | (exfalso; exact hok ⟨⟨by omega, by omega⟩, by omega, by omega, by omega⟩)
theorem walk_reflowKeeps (H : Heap) (avs : List AV) (hwf : H.l.length = H.n) (hs : Sub (HL Tryd.prog.globals.size jxLs) H) (ho : OpenA H [(false, [.slice 39 3 [.slice 48 7 [.int .i32, .int .u8, .int .u16, .int .u8, .int .u32, .int .u8, .int .u32], .bool, .bool]]), (false, [.int .i64]), (false, [.int .i64]), (false, [.int .i64])] avs) : W DD (.call 6 avs H) (fun _ vs _ => vs = [.sc (.bool true)]) := by
  simp only [OpenA] at ho
  obtain ⟨_, _, _, hk, rfl, o1, _, _, _, hk2, rfl, o2, _, _, _, hk3, rfl, o3, _, _, _, hk4, rfl, o4, rfl⟩ := ho
  cases hk
  cases hk2
  cases hk3
  cases hk4
  simp only [OpenS] at o2 o3 o4
  obtain ⟨w, rfl, _⟩ := o2
  obtain ⟨x, rfl, _⟩ := o3
  obtain ⟨y, rfl, _⟩ := o4
  obtain ⟨G, hG, h1, h2⟩ := openLines o1
  exact (w6 hG h1 h2).mono fun _ _ _ ⟨v, hv, h3⟩ => by rw [hv, h3]
end Go.Proofs.YtllhbhhgihdakaaDoor
