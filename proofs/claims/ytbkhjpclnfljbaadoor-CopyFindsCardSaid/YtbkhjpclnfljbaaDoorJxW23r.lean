/- Views: the law CopyFinds. -/
import Derived.Test.YtbkhjpclnfljbaaDoorJxW23p
set_option linter.unusedSimpArgs false
set_option linter.unusedVariables false
set_option maxHeartbeats 1000000
set_option maxRecDepth 100000
namespace Go.Proofs.YtbkhjpclnfljbaaDoor
open Go Go.Jx

theorem w13f {R : Ro} {M : List Hp} {h : Heap} {id : Nat} {lv mk : SV} {v v' : Vw} {c : Int} {G : List LnC} {q : List UInt8} {back : Bool} (hs : Sep R (vwO id lv mk v :: M) h) (hG : VwR R lv mk v G) (ok : OkV v) (ht : q.length ≤ 9223372036854775807) (hf : findR v q back = (v', c)) :
    Wc DD 13 [.sc (.ptr id 0), .sc (.str q), bo back] h fun w h' => w = i64 c ∧ Sep R (vwO id lv mk v' :: M) h' := by
  have := w13 (back := back) hs hG ok ht
  rw [hf] at this
  exact this
theorem toV_at {v : Vw} {p : Spot} (h : InV v.L p) : (toV v p.1 p.2).x = p.1 ∧ (toV v p.1 p.2).y = p.2 := by
  obtain ⟨h1, h2, h3, h4⟩ := h
  have hy : near p.2 0 ((v.L.length : Int) - 1) = p.2 := near_id h1 (by omega)
  unfold toV
  simp only
  rw [hy]
  exact ⟨near_id h3 (by omega), rfl⟩
theorem findR_none {v : Vw} {q : List UInt8} {back : Bool} (hq : 1 ≤ q.length ∧ q.length ≤ 32) (h : spotsL v.L q = []) : findR v q back = (v, 4) := by
  unfold findR findV
  rw [if_pos hq, h, pickL_none.2 rfl]; rfl
theorem findR_some {v : Vw} {q : List UInt8} {back : Bool} {p : Spot} (hq : 1 ≤ q.length ∧ q.length ≤ 32) (h : pickL (spotsL v.L q) (v.x, v.y) back = some p) : findR v q back = (toV v p.1 p.2, 0) := by
  unfold findR findV
  rw [if_pos hq, h]; rfl
/-- What is selected from a place on, that begins a text, to its line's end. -/
theorem sel_begins {L : List Ln} {h : Int} (k : OkL L h) {q : List UInt8} {p : Spot} (hp : p ∈ spotsL L q) (hj : ∀ l ∈ L, l.joined = false) (hne : q ≠ []) (hl : q.getLast hne ≠ 32) : q.isPrefixOf (selT L p (wid L p.2 - 1, p.2)) = true := by
  have hin := spotsL_in hp
  have hb := (spotsL_iff hin).1 hp
  obtain ⟨h1, h2, h3, h4⟩ := hin
  have hbf : bef (wid L p.2 - 1, p.2) p = false := by
    simp only [bef, decide_eq_false_iff_not]; omega
  unfold selT selA selZ
  rw [hbf]
  simp only [Bool.false_eq_true, if_false]
  rw [show (p.2 - p.2 + 1).toNat = 0 + 1 by omega, linesT_succ]
  have e0 : linesT L p (wid L p.2 - 1, p.2) 0 = [] := rfl
  rw [e0, List.nil_append]
  unfold rowT
  simp only [Int.natCast_zero, Int.add_zero]
  rw [if_neg (by omega), List.nil_append, if_pos trivial, if_pos trivial]
  have hY : p.2.toNat < L.length := by omega
  have hmem : L.getD p.2.toNat ln0 ∈ L := by
    rw [List.getD_eq_getElem?_getD, List.getElem?_eq_getElem hY]; exact List.getElem_mem hY
  have hjj := hj _ hmem
  have hw : wid L p.2 = ((L.getD p.2.toNat ln0).cells.length : Int) := rfl
  unfold partT
  simp only
  rw [hjj, hw]
  simp only [Bool.false_eq_true, false_and, and_false, if_false, and_self, if_true]
  unfold begB at hb
  rw [Bool.and_eq_true, decide_eq_true_eq] at hb
  rw [show (((L.getD p.2.toNat ln0).cells.length : Int) - 1 - p.1 + 1).toNat = (L.getD p.2.toNat ln0).cells.length - p.1.toNat by omega]
  rw [segB_text (by rw [hw] at h4; omega) hb.1]
  exact trimB_prefix hb.2 hne hl

theorem w3 {v : SV} {G : List LnC} {n x y : Int} {q : List UInt8} {h : Heap} (hv : LnsR (Now h) v G) (hl : G.length ≤ 2 ^ 63 - 1) (hl2 : ∀ g ∈ G, g.2.length ≤ 2 ^ 63 - 1) (hr : RunesG G) (hn : -9223372036854775808 ≤ n ∧ n ≤ 9223372036854775807)
    (h1 : -9223372036854775808 ≤ x ∧ x ≤ 9223372036854775807) (h2 : -9223372036854775808 ≤ y ∧ y ≤ 9223372036854775807) (hq : q.length ≤ 9223372036854775807) :
    Wc DD 3 [.sc v, i64 n, i64 x, i64 y, .sc (.str q)] h fun w h' => w = bo true := by
  have hs := Sep.entry h
  have hln := hv.ln
  have hv1 := hv.1
  have hGl : (G.map Prod.fst).length = G.length := List.length_map ..
  refine W_enter d3 ?_
  show W _ (.code m3_code [.sc v, i64 n, i64 x, i64 y, .sc (.str q), undefA, undefA, undefA, undefA, undefA, undefA, undefA, undefA, undefA, undefA, undefA, undefA, undefA, undefA, undefA, undefA, undefA, undefA, undefA, undefA, undefA, undefA, undefA, undefA, undefA, undefA, undefA, undefA, undefA, undefA, undefA, undefA, undefA, undefA, undefA, undefA, undefA, undefA, undefA, undefA, undefA, undefA, undefA, undefA, undefA, undefA, undefA, undefA, undefA, undefA, undefA, undefA, undefA, undefA, undefA, undefA, undefA, undefA, undefA, undefA, undefA, undefA, undefA, undefA, undefA, undefA, undefA, undefA, undefA, undefA, undefA, undefA, undefA, undefA, undefA, undefA, undefA, undefA, undefA, undefA, undefA, undefA, undefA, undefA, undefA, undefA, undefA, undefA, undefA, undefA, undefA, undefA, undefA, undefA, undefA, undefA, undefA, undefA, undefA, undefA, undefA, undefA, undefA, undefA, undefA, undefA, undefA, undefA, undefA, undefA, undefA, undefA, undefA, undefA, undefA, undefA, undefA, undefA, undefA, undefA, undefA, undefA, undefA, undefA, undefA, undefA, undefA, undefA, undefA, undefA, undefA, undefA, undefA, undefA, undefA, undefA, undefA, undefA, undefA, undefA, undefA, undefA, undefA, undefA, undefA, undefA, undefA, undefA, undefA, undefA, undefA, undefA, undefA, undefA, undefA, undefA, undefA, undefA] _) _
  unfold m3_code
  repeat' (first
    | (refine K_ops ?_; first
      | refine W_fastB rfl ?_
      | refine W_nil ?_
      | (refine K_guard ?_; first
        | refine W_guard_on rfl ?_
        | refine W_guard_off rfl rfl (W_norm rfl ?_)
        | (refine W_guardF rfl (fun hc => ?_) (fun hc => ?_) <;> (try rw [hc]) <;> (try simp only [decide_eq_true_eq, decide_eq_false_iff_not, beq_iff_eq, beq_eq_false_iff_ne, bne_iff_ne, bne_eq_false_iff_eq, Bool.not_eq_true', Bool.not_eq_false', Int.not_lt, Int.not_le, ne_eq, reduceCtorEq, not_true_eq_false, not_false_eq_true, Decidable.not_not] at hc) <;> (try (exfalso; omega)) <;> (try refine W_norm rfl ?_))
      )
      | (refine K_call ?_; first
        | (refine W_callsN 9 rfl (w9 hv hl hl2) rfl ?_; rintro _ h ⟨⟨gb, rfl, hgb⟩, rfl⟩; refine W_norm rfl ?_)
        | (refine W_callsN 10 rfl (w10g _) rfl ?_; rintro _ h ⟨rfl, rfl⟩; refine W_norm rfl ?_)
      )
      | (refine K_pick ?_; first
        | refine W_pick_t rfl rfl (W_norm rfl ?_)
        | refine W_pick_f rfl rfl (W_norm rfl ?_)
      )
    )
    | (refine K_code ?_; first
      | refine W_seq ?_
      | refine W_ops ?_
      | refine W_cond_t rfl ?_
      | (refine W_cond rfl (fun hc => ?_) (fun hc => ?_) <;> (try rw [hc]) <;> (try simp only [decide_eq_true_eq, decide_eq_false_iff_not, beq_iff_eq, beq_eq_false_iff_ne, bne_iff_ne, bne_eq_false_iff_eq, Bool.not_eq_true', Bool.not_eq_false', Int.not_lt, Int.not_le, ne_eq, reduceCtorEq, not_true_eq_false, not_false_eq_true, Decidable.not_not] at hc) <;> (try (exfalso; omega)) <;> (try refine W_norm rfl ?_))
      | refine W_skip ?_
      | refine W_ret ?_
      | refine W_block ?_
    )
    | refine seqK_n ?_
    | refine seqK_r ?_
    | (refine fnK_r rfl ?_; try dsimp only [gd_z, gd_s]))
  rotate_left 1
  all_goals try exact ⟨_, rfl, rfl⟩
  obtain ⟨g1, g2⟩ := hgb (by assumption)
  have hq32 : 1 ≤ q.length ∧ q.length ≤ 32 := by omega
  refine W_loopB [10, 11, 36, 37, 38, 39, 40, 41, 42, 43, 44, 45, 46, 47] [0, 1, 2, 3, 4, 5, 6, 7, 8, 9, 10, 11, 12, 13, 14, 15, 16, 17, 18, 19, 20, 21, 22, 23, 24, 25, 26, 27, 28, 29, 30, 31, 32, 33, 34, 35, 36, 37, 38, 39, 40, 41, 42, 43, 44, 45, 46, 47, 48, 49, 50, 51, 52, 53, 54, 55, 56, 57, 58, 59, 60, 61, 62, 63, 64, 65, 66, 67, 68, 69, 70, 71, 72, 73, 74, 75, 76, 77, 78, 79, 80, 81, 82, 83, 84, 85, 86, 87, 88, 89, 90, 91, 92, 93, 94, 95, 96, 97, 98, 99, 100, 101, 102, 103, 104, 105, 106, 107, 108, 109, 110, 111, 112, 113, 114, 115, 116, 117, 118, 119, 120, 121, 122, 123, 124, 125, 126, 127, 128, 129, 130, 131, 132, 133, 134, 135, 136, 137, 138, 139, 140, 141, 142, 143, 144, 145, 146, 147, 148, 149, 150, 151, 152, 153, 154, 155, 156, 157, 158, 159, 160, 161, 162] (fun n' sl h' => ∃ (k : Nat), sl = [(11, .sc (.int .i64 (k : Int)))] ∧ n' = G.length - k ∧ k ≤ G.length ∧ (∀ i, i < k → (atH G i).j = false) ∧ h' = h) ?_ ?_
  · refine ⟨_, _, ⟨0, rfl, rfl, Nat.zero_le _, fun i hi => absurd hi (by omega), rfl⟩, EnvB.of rfl⟩
  rintro _ _ us _ h ⟨k, rfl, rfl, hk, hz, rfl⟩ he
  refine W_spell he rfl ?_
  clear he
  unfold m3_l4
  by_cases hlt : k < G.length
  · repeat' (first
      | (refine K_ops ?_; first
        | refine W_fastB rfl ?_
        | refine W_nil ?_
        | (refine K_call ?_; first
          | (refine W_callsN 10 rfl (w10g _) rfl ?_; rintro _ h ⟨rfl, rfl⟩; refine W_norm rfl ?_)
        )
        | (refine W_lenL rfl (by first | assumption | exact SlR.ln (by assumption) | exact AccS.ln (by assumption) | exact OwnS.ln (by assumption) | exact VwO.ln (by assumption) | exact OwnP.ln (by assumption) | exact Len.sl) ?_; refine W_norm rfl ?_)
        | (refine K_bin ?_; first
          | (refine W_add rfl rfl (IntWalk.i64_in _ (by first | omega | (simp only [List.length_set, List.length_append, List.length_take, List.length_drop, List.length_replicate, List.length_cons, List.length_nil, decs_length, List.length_map]; omega))) ?_; refine W_norm rfl ?_)
        )
        | (refine K_index ?_; first
          | (refine W_indexR rfl rfl (by assumption) rfl ⟨(by first | omega | (simp only [List.length_set, List.length_append, List.length_take, List.length_drop, List.length_replicate, List.length_cons, List.length_nil, decs_length, List.length_map]; omega)), (by first | omega | (simp only [List.length_set, List.length_append, List.length_take, List.length_drop, List.length_replicate, List.length_cons, List.length_nil, decs_length, List.length_map]; omega))⟩ ?_; intro _ _ _; refine W_norm rfl ?_)
        )
        | (refine K_load ?_; first
          | (refine W_loadRF hs rfl (by assumption) rfl ?_; refine W_norm rfl ?_)
        )
      )
      | (refine K_code ?_; first
        | refine W_seq ?_
        | refine W_ops ?_
        | (refine W_cond rfl (fun hc => ?_) (fun hc => ?_) <;> (try rw [hc]) <;> (try simp only [decide_eq_true_eq, decide_eq_false_iff_not, beq_iff_eq, beq_eq_false_iff_ne, bne_iff_ne, bne_eq_false_iff_eq, Bool.not_eq_true', Bool.not_eq_false', Int.not_lt, Int.not_le, ne_eq, reduceCtorEq, not_true_eq_false, not_false_eq_true, Decidable.not_not] at hc) <;> (try (exfalso; omega)) <;> (try refine W_norm rfl ?_))
        | refine W_skip ?_
        | refine W_ret ?_
        | refine W_block ?_
      )
      | refine seqK_n ?_
      | refine seqK_r ?_
      | refine blockK_r ?_
      | refine blockK_n ?_
      | refine invK_r ?_
      | refine invK_n ?_
      | (refine fnK_r rfl ?_; try dsimp only [gd_z, gd_s]))
    · exact ⟨_, rfl, rfl⟩
    · refine ⟨_, ?_, _, ⟨k + 1, rfl, rfl, ?_, ?_, rfl⟩, EnvB.of rfl⟩
      · omega
      · omega
      · intro i hi
        by_cases e : i = k
        · subst e; exact hc
        · exact hz i (by omega)
  · have hj : ∀ l ∈ G.map lnOf, l.joined = false := by
      intro l hl
      obtain ⟨i, hi, e⟩ := List.getElem_of_mem hl
      have hi2 : i < G.length := by simpa using hi
      have := lnOf_atH hi2
      rw [List.getElem?_eq_getElem hi, Option.some.injEq] at this
      rw [← e, this]
      exact hz i (by omega)
    by_cases hok : okB (G.map lnOf) n
    · have ok0 := okB_ok hok g2 hr
      obtain ⟨V1, hV1⟩ : ∃ V1, V1 = toV (newV (G.map lnOf) n) x y := ⟨_, rfl⟩
      have ok1 : OkV V1 := by rw [hV1]; exact toV_ok ok0 x y
      have hL1 : V1.L = G.map lnOf := by rw [hV1]; rfl
      by_cases hA : spotsL (G.map lnOf) q = []
      · obtain ⟨V2, hV2⟩ : ∃ V2, V2 = toV V1 x y := ⟨_, rfl⟩
        have ok2 : OkV V2 := by rw [hV2]; exact toV_ok ok1 x y
        have hL2 : V2.L = G.map lnOf := by rw [hV2]; exact hL1
        have f1 : findR V1 q false = (V1, 4) := findR_none hq32 (by rw [hL1]; exact hA)
        have f2 : findR V2 q true = (V2, 4) := findR_none hq32 (by rw [hL2]; exact hA)
        have hxy : V2.x = V1.x ∧ V2.y = V1.y := by rw [hV2, hV1]; exact ⟨rfl, rfl⟩
        repeat' (first
          | (refine K_ops ?_; first
            | refine W_fastB rfl ?_
            | refine W_nil ?_
            | (refine K_guard ?_; first
              | refine W_guard_on rfl ?_
              | (refine W_guardT rfl (fun hc => ?_) (fun hc => ?_) <;> (try rw [hc]) <;> (try simp only [decide_eq_true_eq, decide_eq_false_iff_not, beq_iff_eq, beq_eq_false_iff_ne, bne_iff_ne, bne_eq_false_iff_eq, Bool.not_eq_true', Bool.not_eq_false', Int.not_lt, Int.not_le, ne_eq, reduceCtorEq, not_true_eq_false, not_false_eq_true, Decidable.not_not] at hc) <;> (try (exfalso; omega)) <;> (try refine W_norm rfl ?_))
            )
            | (refine K_call ?_; first
              | (refine W_callsN 11 rfl (w11y (hv.now hs) g1 g2 hn hok) rfl ?_; rintro _ hX ⟨ida, ua, Ga, ka, rfl, hVa, t⟩; replace hs := hs.call t; try simp only [cell_back, attr_back, List.set_cons_zero, List.set_cons_succ, List.eraseIdx_cons_succ, List.eraseIdx_zero, List.tail_cons, List.nil_append, List.cons_append] at hs; replace hs := hs.freeze 1 rfl; (try simp only [List.eraseIdx_cons_succ, List.eraseIdx_cons_zero, List.eraseIdx_zero, List.tail_cons] at hs); replace hVa := hVa.mono (InP.add (Now h) ka); refine W_norm rfl ?_)
              | (refine W_callsN 12 rfl (w12 (v := newV (G.map lnOf) n) (id := ida) (x := x) (y := y) hs hVa ok0 h1 h2) rfl ?_; rintro _ hX ⟨rfl, hs⟩; replace hVa := hVa.toV x y; rw [← hV1] at hs hVa; refine W_norm rfl ?_)
              | (refine W_callsN 13 rfl (w13f (v := V1) (back := false) (id := ida) hs hVa ok1 hq f1) rfl ?_; rintro _ hX ⟨rfl, hs⟩; refine W_norm rfl ?_)
              | (refine W_callsN 14 rfl (w14 (v := V1) (id := ida) hs hVa.ln ok1.l.len) rfl ?_; rintro _ hX ⟨rfl, rfl⟩; refine W_norm rfl ?_)
              | (refine W_callsN 12 rfl (w12 (v := V1) (id := ida) (x := x) (y := y) hs hVa ok1 h1 h2) rfl ?_; rintro _ hX ⟨rfl, hs⟩; replace hVa := hVa.toV x y; rw [← hV2] at hs hVa; refine W_norm rfl ?_)
              | (refine W_callsN 14 rfl (w14 (v := V2) (id := ida) hs hVa.ln ok2.l.len) rfl ?_; rintro _ hX ⟨rfl, rfl⟩; refine W_norm rfl ?_)
              | (refine W_callsN 13 rfl (w13f (v := V2) (back := true) (id := ida) hs hVa ok2 hq f2) rfl ?_; rintro _ hX ⟨rfl, hs⟩; refine W_norm rfl ?_)
              | (refine W_callsN 10 rfl (w10g _) rfl ?_; rintro _ h ⟨rfl, rfl⟩; refine W_norm rfl ?_)
            )
            | (refine W_lenL rfl (by first | assumption | exact SlR.ln (by assumption) | exact AccS.ln (by assumption) | exact OwnS.ln (by assumption) | exact VwO.ln (by assumption) | exact OwnP.ln (by assumption) | exact Len.sl) ?_; refine W_norm rfl ?_)
            | (refine K_bin ?_; first
              | (refine W_nil_ptr_f rfl rfl rfl ?_; refine W_norm rfl ?_)
            )
            | (refine K_pick ?_; first
              | refine W_pick_t rfl rfl (W_norm rfl ?_)
            )
          )
          | (refine K_code ?_; first
            | refine W_seq ?_
            | refine W_ops ?_
            | refine W_cond_t rfl ?_
            | refine W_cond_f rfl ?_
            | (refine W_cond rfl (fun hc => ?_) (fun hc => ?_) <;> (try rw [hc]) <;> (try simp only [decide_eq_true_eq, decide_eq_false_iff_not, beq_iff_eq, beq_eq_false_iff_ne, bne_iff_ne, bne_eq_false_iff_eq, Bool.not_eq_true', Bool.not_eq_false', Int.not_lt, Int.not_le, ne_eq, reduceCtorEq, not_true_eq_false, not_false_eq_true, Decidable.not_not] at hc) <;> (try (exfalso; omega)) <;> (try refine W_norm rfl ?_))
            | refine W_skip ?_
            | refine W_ret ?_
            | refine W_exit ?_
          )
          | refine seqK_n ?_
          | refine seqK_r ?_
          | refine seqK_x ?_
          | refine blockK_e ?_
          | refine invK_x ?_
          | (refine fnK_r rfl ?_; try dsimp only [gd_z, gd_s]))
        all_goals first | exact ⟨_, rfl, rfl⟩ | skip
      · obtain ⟨p, hp⟩ : ∃ p, pickF (spotsL (G.map lnOf) q) (V1.x, V1.y) = some p := by
          cases e : pickF (spotsL (G.map lnOf) q) (V1.x, V1.y) with
          | none => exact absurd (pickL_none (b := false).1 e) hA
          | some p => exact ⟨p, rfl⟩
        have hpA := pickF_mem hp
        have hpin := spotsL_in hpA
        obtain ⟨q2, hq2⟩ : ∃ q2, pickF (spotsL (G.map lnOf) q) p = some q2 := by
          cases e : pickF (spotsL (G.map lnOf) q) p with
          | none => exact absurd (pickL_none (b := false).1 e) hA
          | some p => exact ⟨p, rfl⟩
        have hq2in := spotsL_in (pickF_mem hq2)
        have hbk := pick_back (spotsL_sorted _ _) hpA hq2
        obtain ⟨V2, hV2⟩ : ∃ V2, V2 = toV V1 p.1 p.2 := ⟨_, rfl⟩
        have ok2 : OkV V2 := by rw [hV2]; exact toV_ok ok1 _ _
        have c2 : V2.x = p.1 ∧ V2.y = p.2 := by rw [hV2]; exact toV_at (by rw [hL1]; exact hpin)
        have f1 : findR V1 q false = (V2, 0) := by rw [hV2]; exact findR_some hq32 (by rw [hL1]; exact hp)
        have ok3 := markV_ok ok2
        obtain ⟨V3, hV3⟩ : ∃ V3, V3 = markV V2 := ⟨_, rfl⟩
        rw [← hV3] at ok3
        have hL2 : V2.L = G.map lnOf := by rw [hV2]; exact hL1
        have hL3 : V3.L = G.map lnOf := by rw [hV3]; exact hL2
        have c3 : V3.x = p.1 ∧ V3.y = p.2 := by rw [hV3]; exact c2
        have hm3 : V3.m = some p := by rw [hV3]; show some (V2.x, V2.y) = _; rw [c2.1, c2.2]
        obtain ⟨V4, hV4⟩ : ∃ V4, V4 = toV V3 1000 p.2 := ⟨_, rfl⟩
        have ok4 : OkV V4 := by rw [hV4]; exact toV_ok ok3 _ _
        have hL4 : V4.L = G.map lnOf := by rw [hV4]; exact hL3
        have hbp := inV_lt ok0.l hpin
        have hbq := inV_lt ok0.l hq2in
        have hwp := ok0.l.wid hpin.1 hpin.2.1
        have c4 : (V4.x, V4.y) = (wid (G.map lnOf) p.2 - 1, p.2) := by
          have hy : near p.2 0 (((G.map lnOf).length : Int) - 1) = p.2 := near_id hpin.1 (by have := hpin.2.1; omega)
          rw [hV4]
          unfold toV
          simp only [hL3, hy]
          refine Prod.ext ?_ rfl
          show near 1000 0 (wid (G.map lnOf) p.2 - 1) = _
          have hwp' : wid (G.map lnOf) p.2 ≤ 1000 := hwp.2
          have h11 := hwp.1
          have hw1 : 1 ≤ wid (G.map lnOf) p.2 := hwp.1
          unfold near; omega
        have hm4 : V4.m = some p := by rw [hV4]; exact hm3
        have htx : textV V4 = selT (G.map lnOf) p (wid (G.map lnOf) p.2 - 1, p.2) := by
          unfold textV; rw [hm4, hL4, c4]
        have hne : q ≠ [] := by rintro rfl; simp at hq32
        obtain ⟨V5a, hV5a⟩ : ∃ V5, V5 = toV V4 p.1 p.2 := ⟨_, rfl⟩
        have ok5a : OkV V5a := by rw [hV5a]; exact toV_ok ok4 _ _
        have hL5a : V5a.L = G.map lnOf := by rw [hV5a]; exact hL4
        have c5a : V5a.x = p.1 ∧ V5a.y = p.2 := by rw [hV5a]; exact toV_at (by rw [hL4]; exact hpin)
        obtain ⟨V6a, hV6a⟩ : ∃ V6, V6 = toV V5a q2.1 q2.2 := ⟨_, rfl⟩
        have ok6a : OkV V6a := by rw [hV6a]; exact toV_ok ok5a _ _
        have hL6a : V6a.L = G.map lnOf := by rw [hV6a]; exact hL5a
        have c6a : V6a.x = q2.1 ∧ V6a.y = q2.2 := by rw [hV6a]; exact toV_at (by rw [hL5a]; exact hq2in)
        have f5a : findR V5a q false = (V6a, 0) := by
          rw [hV6a]; refine findR_some hq32 ?_; rw [hL5a, c5a.1, c5a.2]; exact hq2
        obtain ⟨V7a, hV7a⟩ : ∃ V7, V7 = toV V6a p.1 p.2 := ⟨_, rfl⟩
        have ok7a : OkV V7a := by rw [hV7a]; exact toV_ok ok6a _ _
        have c7a : V7a.x = p.1 ∧ V7a.y = p.2 := by rw [hV7a]; exact toV_at (by rw [hL6a]; exact hpin)
        have f6a : findR V6a q true = (V7a, 0) := by
          rw [hV7a]; refine findR_some hq32 ?_; rw [hL6a, c6a.1, c6a.2]; exact hbk
        obtain ⟨V5b, hV5b⟩ : ∃ V5, V5 = toV V3 p.1 p.2 := ⟨_, rfl⟩
        have ok5b : OkV V5b := by rw [hV5b]; exact toV_ok ok3 _ _
        have hL5b : V5b.L = G.map lnOf := by rw [hV5b]; exact hL3
        have c5b : V5b.x = p.1 ∧ V5b.y = p.2 := by rw [hV5b]; exact toV_at (by rw [hL3]; exact hpin)
        obtain ⟨V6b, hV6b⟩ : ∃ V6, V6 = toV V5b q2.1 q2.2 := ⟨_, rfl⟩
        have ok6b : OkV V6b := by rw [hV6b]; exact toV_ok ok5b _ _
        have hL6b : V6b.L = G.map lnOf := by rw [hV6b]; exact hL5b
        have c6b : V6b.x = q2.1 ∧ V6b.y = q2.2 := by rw [hV6b]; exact toV_at (by rw [hL5b]; exact hq2in)
        have f5b : findR V5b q false = (V6b, 0) := by
          rw [hV6b]; refine findR_some hq32 ?_; rw [hL5b, c5b.1, c5b.2]; exact hq2
        obtain ⟨V7b, hV7b⟩ : ∃ V7, V7 = toV V6b p.1 p.2 := ⟨_, rfl⟩
        have ok7b : OkV V7b := by rw [hV7b]; exact toV_ok ok6b _ _
        have c7b : V7b.x = p.1 ∧ V7b.y = p.2 := by rw [hV7b]; exact toV_at (by rw [hL6b]; exact hpin)
        have f6b : findR V6b q true = (V7b, 0) := by
          rw [hV7b]; refine findR_some hq32 ?_; rw [hL6b, c6b.1, c6b.2]; exact hbk
        repeat' (first
          | (refine K_ops ?_; first
            | refine W_fastB rfl ?_
            | refine W_nil ?_
            | (refine K_guard ?_; first
              | refine W_guard_on rfl ?_
              | refine W_guard_off rfl rfl (W_norm rfl ?_)
              | (refine W_guardT rfl (fun hc => ?_) (fun hc => ?_) <;> (try rw [hc]) <;> (try simp only [decide_eq_true_eq, decide_eq_false_iff_not, beq_iff_eq, beq_eq_false_iff_ne, bne_iff_ne, bne_eq_false_iff_eq, Bool.not_eq_true', Bool.not_eq_false', Int.not_lt, Int.not_le, ne_eq, reduceCtorEq, not_true_eq_false, not_false_eq_true, Decidable.not_not] at hc) <;> (try (exfalso; omega)) <;> (try refine W_norm rfl ?_))
              | (refine W_guardF rfl (fun hc => ?_) (fun hc => ?_) <;> (try rw [hc]) <;> (try simp only [decide_eq_true_eq, decide_eq_false_iff_not, beq_iff_eq, beq_eq_false_iff_ne, bne_iff_ne, bne_eq_false_iff_eq, Bool.not_eq_true', Bool.not_eq_false', Int.not_lt, Int.not_le, ne_eq, reduceCtorEq, not_true_eq_false, not_false_eq_true, Decidable.not_not] at hc) <;> (try (exfalso; omega)) <;> (try refine W_norm rfl ?_))
            )
            | (refine K_call ?_; first
              | (refine W_callsN 11 rfl (w11y (hv.now hs) g1 g2 hn hok) rfl ?_; rintro _ hX ⟨ida, ua, Ga, ka, rfl, hVa, t⟩; replace hs := hs.call t; try simp only [cell_back, attr_back, List.set_cons_zero, List.set_cons_succ, List.eraseIdx_cons_succ, List.eraseIdx_zero, List.tail_cons, List.nil_append, List.cons_append] at hs; replace hs := hs.freeze 1 rfl; (try simp only [List.eraseIdx_cons_succ, List.eraseIdx_cons_zero, List.eraseIdx_zero, List.tail_cons] at hs); replace hVa := hVa.mono (InP.add (Now h) ka); refine W_norm rfl ?_)
              | (refine W_callsN 12 rfl (w12 (v := newV (G.map lnOf) n) (id := ida) (x := x) (y := y) hs hVa ok0 h1 h2) rfl ?_; rintro _ hX ⟨rfl, hs⟩; replace hVa := hVa.toV x y; rw [← hV1] at hs hVa; refine W_norm rfl ?_)
              | (refine W_callsN 13 rfl (w13f (v := V1) (back := false) (id := ida) hs hVa ok1 hq f1) rfl ?_; rintro _ hX ⟨rfl, hs⟩; replace hVa := hVa.toV p.1 p.2; rw [← hV2] at hVa; refine W_norm rfl ?_)
              | (refine W_callsN 15 rfl (w15 (v := V2) (id := ida) hs hVa.ln ok2.l.len) rfl ?_; rintro _ hX ⟨rfl, ma, ca, hs⟩; replace hs := hs.freeze 0 rfl; (try simp only [List.eraseIdx_cons_succ, List.eraseIdx_cons_zero, List.eraseIdx_zero, List.tail_cons] at hs); replace hVa := hVa.mark (idm := ma) (c := ca); rw [← hV3] at hs hVa; refine W_norm rfl ?_)
              | (refine W_callsN 14 rfl (w14 (v := V3) (id := ida) hs hVa.ln ok3.l.len) rfl ?_; rintro _ hX ⟨rfl, rfl⟩; rw [c3.1, c3.2]; refine W_norm rfl ?_)
              | (refine W_callsN 12 rfl (w12 (v := V3) (id := ida) (x := 1000) (y := p.2) hs hVa ok3 (by omega) (by omega)) rfl ?_; rintro _ hX ⟨rfl, hs⟩; replace hVa := hVa.toV 1000 p.2; rw [← hV4] at hs hVa; refine W_norm rfl ?_)
              | (refine W_callsN 16 rfl (w16 (v := V4) (id := ida) hs hVa ok4) rfl ?_; rintro _ hX ⟨rfl, hs⟩; rw [htx]; refine W_norm rfl ?_)
              | (refine W_callsN 12 rfl (w12 (v := V4) (id := ida) (x := p.1) (y := p.2) hs hVa ok4 (by omega) (by omega)) rfl ?_; rintro _ hX ⟨rfl, hs⟩; replace hVa := hVa.toV p.1 p.2; rw [← hV5a] at hs hVa; refine W_norm rfl ?_)
              | (refine W_callsN 13 rfl (w13f (v := V5a) (back := false) (id := ida) hs hVa ok5a hq f5a) rfl ?_; rintro _ hX ⟨rfl, hs⟩; replace hVa := hVa.toV q2.1 q2.2; rw [← hV6a] at hVa; refine W_norm rfl ?_)
              | (refine W_callsN 13 rfl (w13f (v := V6a) (back := true) (id := ida) hs hVa ok6a hq f6a) rfl ?_; rintro _ hX ⟨rfl, hs⟩; replace hVa := hVa.toV p.1 p.2; rw [← hV7a] at hVa; refine W_norm rfl ?_)
              | (refine W_callsN 14 rfl (w14 (v := V7a) (id := ida) hs hVa.ln ok7a.l.len) rfl ?_; rintro _ hX ⟨rfl, rfl⟩; rw [c7a.1, c7a.2]; refine W_norm rfl ?_)
              | (refine W_callsN 12 rfl (w12 (v := V3) (id := ida) (x := p.1) (y := p.2) hs hVa ok3 (by omega) (by omega)) rfl ?_; rintro _ hX ⟨rfl, hs⟩; replace hVa := hVa.toV p.1 p.2; rw [← hV5b] at hs hVa; refine W_norm rfl ?_)
              | (refine W_callsN 13 rfl (w13f (v := V5b) (back := false) (id := ida) hs hVa ok5b hq f5b) rfl ?_; rintro _ hX ⟨rfl, hs⟩; replace hVa := hVa.toV q2.1 q2.2; rw [← hV6b] at hVa; refine W_norm rfl ?_)
              | (refine W_callsN 13 rfl (w13f (v := V6b) (back := true) (id := ida) hs hVa ok6b hq f6b) rfl ?_; rintro _ hX ⟨rfl, hs⟩; replace hVa := hVa.toV p.1 p.2; rw [← hV7b] at hVa; refine W_norm rfl ?_)
              | (refine W_callsN 14 rfl (w14 (v := V7b) (id := ida) hs hVa.ln ok7b.l.len) rfl ?_; rintro _ hX ⟨rfl, rfl⟩; rw [c7b.1, c7b.2]; refine W_norm rfl ?_)
              | (refine W_callsN 10 rfl (w10g _) rfl ?_; rintro _ h ⟨rfl, rfl⟩; refine W_norm rfl ?_)
            )
            | (refine W_lenL rfl (by first | assumption | exact SlR.ln (by assumption) | exact AccS.ln (by assumption) | exact OwnS.ln (by assumption) | exact VwO.ln (by assumption) | exact OwnP.ln (by assumption) | exact Len.sl) ?_; refine W_norm rfl ?_)
            | (refine K_bin ?_; first
              | (refine W_sub rfl rfl (IntWalk.i64_in _ (by first | omega | (simp only [List.length_set, List.length_append, List.length_take, List.length_drop, List.length_replicate, List.length_cons, List.length_nil, decs_length, List.length_map]; omega))) ?_; refine W_norm rfl ?_)
              | (refine W_nil_ptr_f rfl rfl rfl ?_; refine W_norm rfl ?_)
            )
            | (refine K_pick ?_; first
              | refine W_pick_t rfl rfl (W_norm rfl ?_)
              | refine W_pick_f rfl rfl (W_norm rfl ?_)
            )
            | (refine W_sliceStrTo rfl rfl ⟨(by first | omega | (simp only [List.length_set, List.length_append, List.length_take, List.length_drop, List.length_replicate, List.length_cons, List.length_nil, decs_length, List.length_map]; omega)), (by first | omega | (simp only [List.length_set, List.length_append, List.length_take, List.length_drop, List.length_replicate, List.length_cons, List.length_nil, decs_length, List.length_map]; omega))⟩ ?_; refine W_norm rfl ?_)
            | (refine W_idxStr rfl rfl ⟨(by first | omega | (simp only [List.length_set, List.length_append, List.length_take, List.length_drop, List.length_replicate, List.length_cons, List.length_nil, decs_length, List.length_map]; omega)), (by first | omega | (simp only [List.length_set, List.length_append, List.length_take, List.length_drop, List.length_replicate, List.length_cons, List.length_nil, decs_length, List.length_map]; omega))⟩ ?_; refine W_norm rfl ?_)
          )
          | (refine K_code ?_; first
            | refine W_seq ?_
            | refine W_ops ?_
            | refine W_cond_t rfl ?_
            | refine W_cond_f rfl ?_
            | (refine W_cond rfl (fun hc => ?_) (fun hc => ?_) <;> (try rw [hc]) <;> (try simp only [decide_eq_true_eq, decide_eq_false_iff_not, beq_iff_eq, beq_eq_false_iff_ne, bne_iff_ne, bne_eq_false_iff_eq, Bool.not_eq_true', Bool.not_eq_false', Int.not_lt, Int.not_le, ne_eq, reduceCtorEq, not_true_eq_false, not_false_eq_true, Decidable.not_not] at hc) <;> (try (exfalso; omega)) <;> (try refine W_norm rfl ?_))
            | refine W_skip ?_
            | refine W_ret ?_
            | refine W_exit ?_
          )
          | refine seqK_n ?_
          | refine seqK_r ?_
          | refine seqK_x ?_
          | refine blockK_e ?_
          | refine invK_x ?_
          | (refine fnK_r rfl ?_; try dsimp only [gd_z, gd_s]))
        all_goals first
          | exact ⟨_, rfl, rfl⟩
          | (exfalso
             have hlast : q.getLast hne ≠ 32 := by
               intro e
               have hq1 : q.getD ((q.length : Int) - 1).toNat 0 = 32 := by
                 rw [show ((q.length : Int) - 1).toNat = q.length - 1 by omega, List.getD_eq_getElem?_getD, List.getElem?_eq_getElem (by omega), ← e, List.getLast_eq_getElem]; rfl
               have hx : ¬ (((q.getD ((q.length : Int) - 1).toNat 0).toNat : Nat) : Int) = 32 := by assumption
               rw [hq1] at hx
               exact hx rfl
             have hpr := (prefix_take q _).1 (sel_begins ok0.l hpA hj hne hlast)
             have hpr2 : (selT (G.map lnOf) p (wid (G.map lnOf) p.2 - 1, p.2)).take q.length = q := hpr.2
             have hpr1 : q.length ≤ (selT (G.map lnOf) p (wid (G.map lnOf) p.2 - 1, p.2)).length := hpr.1
             first
             | omega
             | (rw [Int.toNat_natCast] at hc; exact hc hpr2))
          | skip
    · repeat' (first
        | (refine K_ops ?_; first
          | refine W_fastB rfl ?_
          | refine W_nil ?_
          | (refine K_guard ?_; first
            | refine W_guard_on rfl ?_
          )
          | (refine K_call ?_; first
            | (refine W_callsN 11 rfl (w11n (hv.now hs) g1 g2 hn hok) rfl ?_; rintro _ hX ⟨rfl, t⟩; replace hs := hs.call t; try simp only [cell_back, attr_back, List.set_cons_zero, List.set_cons_succ, List.eraseIdx_cons_succ, List.eraseIdx_zero, List.tail_cons, List.nil_append, List.cons_append] at hs; refine W_norm rfl ?_)
            | (refine W_callsN 10 rfl (w10g _) rfl ?_; rintro _ hX ⟨rfl, rfl⟩; refine W_norm rfl ?_)
          )
          | (refine W_lenL rfl (by first | assumption | exact SlR.ln (by assumption) | exact AccS.ln (by assumption) | exact OwnS.ln (by assumption) | exact VwO.ln (by assumption) | exact OwnP.ln (by assumption) | exact Len.sl) ?_; refine W_norm rfl ?_)
          | (refine K_bin ?_; first
            | (refine W_nil_ptr_t rfl rfl rfl ?_; refine W_norm rfl ?_)
          )
          | (refine K_pick ?_; first
            | refine W_pick_t rfl rfl (W_norm rfl ?_)
          )
        )
        | (refine K_code ?_; first
          | refine W_seq ?_
          | refine W_ops ?_
          | refine W_cond_t rfl ?_
          | (refine W_cond rfl (fun hc => ?_) (fun hc => ?_) <;> (try rw [hc]) <;> (try simp only [decide_eq_true_eq, decide_eq_false_iff_not, beq_iff_eq, beq_eq_false_iff_ne, bne_iff_ne, bne_eq_false_iff_eq, Bool.not_eq_true', Bool.not_eq_false', Int.not_lt, Int.not_le, ne_eq, reduceCtorEq, not_true_eq_false, not_false_eq_true, Decidable.not_not] at hc) <;> (try (exfalso; omega)) <;> (try refine W_norm rfl ?_))
          | refine W_ret ?_
          | refine W_exit ?_
        )
        | refine seqK_n ?_
        | refine seqK_r ?_
        | refine seqK_x ?_
        | refine blockK_e ?_
        | refine invK_x ?_
        | (refine fnK_r rfl ?_; try dsimp only [gd_z, gd_s]))
      exact ⟨_, rfl, rfl⟩

theorem walk_copyFinds (H : Heap) (avs : List AV) (hwf : H.l.length = H.n) (hs : Sub (HL Tryd.prog.globals.size jxLs) H) (ho : OpenA H [(false, [.slice 27 3 [.slice 71 7 [.int .i32, .int .u8, .int .u16, .int .u8, .int .u32, .int .u8, .int .u32], .bool, .bool]]), (false, [.int .i64]), (false, [.int .i64]), (false, [.int .i64]), (false, [.str])] avs) : W DD (.call 3 avs H) (fun _ vs _ => vs = [.sc (.bool true)]) := by
  simp only [OpenA] at ho
  obtain ⟨_, _, _, hk, rfl, o1, _, _, _, hk2, rfl, o2, _, _, _, hk3, rfl, o3, _, _, _, hk4, rfl, o4, _, _, _, hk5, rfl, o5, rfl⟩ := ho
  cases hk; cases hk2; cases hk3; cases hk4; cases hk5
  simp only [OpenS] at o2 o3 o4 o5
  obtain ⟨n, rfl, e1⟩ := o2
  obtain ⟨x, rfl, e2⟩ := o3
  obtain ⟨y, rfl, e3⟩ := o4
  obtain ⟨q, rfl, e4⟩ := o5
  obtain ⟨G, hG, h1, h2, h3⟩ := openLines o1
  exact (w3 hG h1 h2 h3 e1 e2 e3 e4).mono fun _ _ _ ⟨v, hv, h3⟩ => by rw [hv, h3]
end Go.Proofs.YtbkhjpclnfljbaaDoor
